/-
  That a model comes to an answer: steps in Option that do not fail.
-/
import Derived.Test.YtbhghodobphdeaaGreatDenMod
import Derived.Test.YtbhghodobphdeaaGreatLay6
namespace Go.Tot
open Go.Den Go.RowKit
def Ok {α:Type} (o:Option α) (P:α→Prop):Prop:=∃ r,o=some r∧P r
section
variable {α β:Type} {P P':α→Prop} {Q:β→Prop}
theorem ok {x:α} (h:P x):Ok (some x) P:=⟨x,rfl,h⟩
theorem Ok.mono {o:Option α} (h:Ok o P) (k:∀ x,P x→P' x):Ok o P':=by
 obtain ⟨r,e,p⟩:=h
 exact ⟨r,e,k r p⟩
theorem bd {o:Option α} {f:α→Option β} (h:Ok o P) (k:∀ x,P x→Ok (f x) Q):Ok (o.bind f) Q:=by
 obtain ⟨r,e,p⟩:=h
 obtain ⟨r',e',p'⟩:=k r p
 exact ⟨r',by rw [e]; exact e',p'⟩
theorem bs {x:α} {f:α→Option β} (k:Ok (f x) Q):Ok ((some x).bind f) Q:=k
theorem bdE {o:Option α} {f:α→Option β} (h:Ok o P) (k:∀ x,o=some x→P x→Ok (f x) Q):Ok (o.bind f) Q:=by
 obtain ⟨r,e,p⟩:=h
 obtain ⟨r',e',p'⟩:=k r e p
 exact ⟨r',by rw [e]; exact e',p'⟩
theorem br {b:Bool} {x y:Option α} (T:b=true→Ok x P) (F:b=false→Ok y P):Ok (if b=true then x else y) P:=by
 cases b with
 | true=>exact T rfl
 | false=>exact F rfl
theorem brD {p:Prop} [Decidable p] {x y:Option α} (T:p→Ok x P) (F: ¬p→Ok y P):Ok (if decide p=true then x else y) P:=by
 by_cases h:p
 ·rw [if_pos (decide_eq_true h)]; exact T h
 ·rw [if_neg (by simpa using h)]; exact F h
theorem brE {n m:Int} {x y:Option α} (T:n=m→Ok x P) (F:n≠m→Ok y P):Ok (if (n==m)=true then x else y) P:=by
 by_cases h:n=m
 ·rw [if_pos (by simpa using h)]; exact T h
 ·rw [if_neg (by simpa using h)]; exact F h
theorem brN {n m:Int} {x y:Option α} (T:n≠m→Ok x P) (F:n=m→Ok y P):Ok (if (n !=m)=true then x else y) P:=by
 by_cases h:n=m
 ·rw [if_neg (by simp [h])]; exact F h
 ·rw [if_pos (by simpa using h)]; exact T h
theorem br! {b:Bool} {x y:Option α} (T:b=false→Ok x P) (F:b=true→Ok y P):Ok (if (!b)=true then x else y) P:=by
 cases b with
 | true=>exact F rfl
 | false=>exact T rfl
end
section
variable {T R:Type} {f:T→Option (Ctl T R)} {Q:R→Prop}
def St (I:T→Prop) (ix:T→Int) (n:Int) (Q:R→Prop) (t:T):Ctl T R→Prop
 | .next t'=>I t'∧ix t<ix t'∧ix t'≤n
 | .done r=>Q r
variable {I:T→Prop} {ix:T→Int} {n:Int} {t:T}
theorem nx {t':T} (h:I t') (h1:ix t<ix t':=by first|omega|(dsimp only; omega)) (h2:ix t'≤n:=by first|omega|(dsimp only; omega)):Ok (some (Ctl.next t':Ctl T R)) (St I ix n Q t):=⟨_,rfl,h,h1,h2⟩
theorem dn {r:R} (h:Q r):Ok (some (Ctl.done r:Ctl T R)) (St I ix n Q t):=⟨_,rfl,h⟩
theorem lp (ix:T→Int) (n:Int) (I:T→Prop) (h:∀ t,I t→0≤ix t→ix t≤n→Ok (f t) (St I ix n Q t)) {t0:T} (hn:n≤9223372036854775807) (h0:I t0) (h1:0≤ix t0:=by first|omega|(dsimp only; omega)) (h2:ix t0≤n:=by first|omega|(dsimp only; omega)):Ok (Z06 f Z08 t0) Q:=by
 refine Z8k (fun t=>I t∧0≤ix t∧ix t≤n) (fun t=>(n - ix t).toNat) Q (fun t ht=>?_) Z08 t0 ⟨h0,h1,h2⟩ (by unfold Z08; omega)
 obtain ⟨x,e,p⟩:=h t ht.1 ht.2.1 ht.2.2
 refine ⟨x,e,?_⟩
 cases x with
 | next t'=>exact ⟨⟨p.1,by have:=p.2.1; omega,p.2.2⟩,by have:=p.2.1; have:=p.2.2; omega⟩
 | done r=>exact p
end
section
variable {R:Type} {f:Int→Option (Ctl Int R)} {Q:R→Prop}
def Si (n:Int) (Q:R→Prop) (t:Int):Ctl Int R→Prop
 | .next t'=>t<t'∧t'≤n
 | .done r=>Q r
variable {n t:Int}
theorem ni {t':Int} (h1:t<t':=by omega) (h2:t'≤n:=by omega):Ok (some (Ctl.next t':Ctl Int R)) (Si n Q t):=⟨_,rfl,h1,h2⟩
theorem di {r:R} (h:Q r):Ok (some (Ctl.done r:Ctl Int R)) (Si n Q t):=⟨_,rfl,h⟩
theorem li (n:Int) (h:∀ t,0≤t→t≤n→Ok (f t) (Si n Q t)) {t0:Int} (hn:n≤9223372036854775807:=by omega) (h1:0≤t0:=by omega) (h2:t0≤n:=by omega):Ok (Z06 f Z08 t0) Q:=
 lp (fun t=>t) n (fun _=>True) (fun t _ a b=>(h t a b).mono fun x hx=>by
  cases x with
  | next t'=>exact ⟨trivial,hx.1,hx.2⟩
  | done r=>exact hx) hn trivial h1 h2
end
section
variable {α:Type}
theorem Z5c {n:Int} (h0: -9223372036854775808≤n) (h1:n≤9223372036854775807):IntKind.wrap .i64 n=n:=by
 have h:∀ m:Int,IntKind.wrap .i64 m=(m+9223372036854775808) % 18446744073709551616 - 9223372036854775808:=fun m=>by
  unfold IntKind.wrap
  simp [IntKind.bits,IntKind.signed,Int.bmod]
  omega
 rw [h]; omega
theorem wr {n:Int} (h0: -9223372036854775808≤n:=by omega) (h1:n≤9223372036854775807:=by omega):Ok (some (IntKind.wrap .i64 n)) fun v=>v=n:=ok (Z5c h0 h1)
theorem gr {l:List α} {i:Int} (h0:0≤i:=by omega) (h1:i<l.length:=by omega):Ok (Z05 l i) fun x=>x∈l:=by
 have hlt:i.toNat<l.length:=by omega
 refine ⟨l[i.toNat],?_,List.getElem_mem hlt⟩
 unfold Z05
 rw [if_pos h0,List.getElem?_eq_getElem hlt]
theorem gri {l:List α} {i:Int} (h0:0≤i:=by omega) (h1:i<l.length:=by omega):Ok (Z05 l i) fun x=>x∈l∧l[i.toNat]?=some x:=by
 have hlt:i.toNat<l.length:=by omega
 refine ⟨l[i.toNat],?_,List.getElem_mem hlt,List.getElem?_eq_getElem hlt⟩
 unfold Z05
 rw [if_pos h0,List.getElem?_eq_getElem hlt]
theorem gs {s:List UInt8} {i:Int} (h0:0≤i:=by omega) (h1:i<s.length:=by omega):Ok (Z2g s i) fun x=>0≤x∧x<256:=by
 have hlt:i.toNat<s.length:=by omega
 refine ⟨(s[i.toNat].toNat:Int),?_,by omega,by have:=s[i.toNat].toNat_lt; omega⟩
 unfold Z2g
 rw [if_pos h0,List.getElem?_eq_getElem hlt]
 rfl
theorem ik {i:Int} {n:Nat} (h0:0≤i:=by omega) (h1:i<n:=by omega):Ok (Z3g i n) fun j=>j=i.toNat∧j<n:=⟨i.toNat,by unfold Z3g; rw [if_pos ⟨h0,h1⟩],rfl,by omega⟩
theorem la {l:List α} {j:Nat} (h:j<l.length):Ok (l[j]?) fun x=>l[j]?=some x∧x∈l:=⟨l[j],List.getElem?_eq_getElem h,List.getElem?_eq_getElem h,List.getElem_mem h⟩
theorem gk {b n:Nat} (h:n*b≤140737488355328:=by first|omega|(simp only [List.length_append,List.length_cons,List.length_nil]; omega)) (hn:n≤9223372036854775807:=by first|omega|(simp only [List.length_append,List.length_cons,List.length_nil]; omega)):Ok (Z1q b n) fun _=>True:=⟨(),by unfold Z1q; rw [if_pos ⟨hn,h⟩],trivial⟩
theorem mk {b:Nat} {l c:Int} (h0:0≤l) (h1:l≤c) (h2:(b:Int)*c≤281474976710656) (h3:c≤9223372036854775807):Ok (Z8s b l c) fun _=>True:=⟨(),by unfold Z8s; rw [if_pos ⟨h0,h1,h2,h3⟩],trivial⟩
theorem ct {a b:List UInt8} (h:a.length+b.length≤9223372036854775807):Ok (Z1y a b) fun m=>m=a++b∧m.length=a.length+b.length:=⟨a++b,by unfold Z1y; rw [if_pos h],rfl,List.length_append⟩
theorem sb {l:List α} {lo hi:Int} (h0:0≤lo) (h1:lo≤hi) (h2:hi≤l.length):Ok (sub l lo hi) fun r=>(r.length:Int)=hi - lo∧∀ x∈r,x∈l:=by
 unfold sub
 rw [if_pos (by omega)]
 refine ok ⟨by simp; omega,fun x hx=>List.mem_of_mem_drop (List.mem_of_mem_take hx)⟩
end
end Go.Tot
set_option linter.unusedVariables false
namespace Go.Proofs
open Go.Den Go.Tot
abbrev Str (s:List UInt8):Prop:=s.length≤4503599627370496
structure WRef (r:Z26):Prop where
 c:Str r.Z0w
 n:Str r.Z0d
 d:Str r.Z16
structure Z2q (i:Z01):Prop where
 keys:i.Z0r.length*8≤140737488355328
 tos:i.Z0b.length*8≤140737488355328
 ref:WRef i.Z1e
 s:Str i.f_S
structure Za3 (f:Z53):Prop where
 loc:∀ v∈f.Z0t,Str v.Z1r.Z0d
 locL:f.Z0t.length*56≤140737488355328
 stk:∀ v∈f.Z0x,Str v.Z1r.Z0d
 stkL:f.Z0x.length*56≤140737488355328
structure Z4v (c:Z0a):Prop where
 ins:∀ i∈c.Z0k,Z2q i
 insL:c.Z0k.length*144≤140737488355328
 hnd:∀ h∈c.Z1z,Str h.Z1r
 hndL:c.Z1z.length*48≤140737488355328
 map:∀ m∈c.Z1k,Za3 m.Z1m
 mapL:c.Z1k.length*64≤140737488355328
 linL:c.Z1u.length*16≤140737488355328
structure Zae (m:Z2r):Prop where
 n:Str m.Z0d
 d:Str m.Z16
 code:Z4v m.Z2b
 exc:∀ s∈m.Z6e,Str s
 excL:m.Z6e.length*16≤140737488355328
structure Zor (f:Z1d):Prop where
 n:Str f.Z0d
 d:Str f.Z16
 s:Str f.f_S
structure Z5a (u:Z0m):Prop where
 n:Str u.Z0d
 sup:Str u.Z1c
 ifs:∀ s∈u.Z1f,Str s
 ifsL:u.Z1f.length*16≤140737488355328
 fld:∀ f∈u.Z0g,Zor f
 fldL:u.Z0g.length*72≤140737488355328
 met:∀ m∈u.Z10,Zae m
 metL:u.Z10.length*184≤140737488355328
 src:Str u.Z9a
structure Z79 (l:Z1p):Prop where
 del:∀ d∈l.Z5j,Str d.Zm0
 delL:l.Z5j.length≤140737488355328
 sto:∀ c∈l.Z3q,Str c.Z0d
 stoL:l.Z3q.length≤140737488355328
structure Z57 (w:Z0c):Prop where
 lod:∀ l∈w.Z23,Z79 l
 lodL:w.Z23.length≤140737488355328
 cls:∀ c∈w.Z0o,Z5a c.Z11∧c.Z1f.length≤140737488355328
 clsL:w.Z0o.length≤140737488355328
 ini:∀ x∈w.Z2p,Str x.Z0d
 iniL:w.Z2p.length≤140737488355328
 con:∀ x∈w.Z43,Str x.Z0d
 conL:w.Z43.length≤140737488355328
theorem Y0y (x:Int):Ok (Zch x) (fun _=>True):=by
 unfold Zch
 repeat' with_reducible first
  | refine brD (fun _=>?_) fun _=>?_
  | refine brE (fun _=>?_) fun _=>?_
  | refine ok ?_
  | exact True.intro
theorem L34x1 (x:List UInt8) (h:Str x):Ok (Z06 (Zbl x) Z08 0) (fun q=>match q with|.inl _=>True|.inr y=>y=false):=by
 refine li (x.length) (fun t _ _=>?_) (by omega) (by omega) (by omega)
 unfold Zbl
 repeat' first
  | with_reducible refine ni ?_ ?_
  | with_reducible refine di ?_
  | with_reducible refine brD (fun _=>?_) fun _=>?_
  | with_reducible refine br! (fun _=>?_) fun _=>?_
  | with_reducible refine brE (fun _=>?_) fun _=>?_
  | with_reducible refine bd gs fun _ _=>?_
  | with_reducible refine bd wr fun _ _=>?_
  | with_reducible refine bd (Y0y _) fun _ _=>?_
  | (rfl)
  | exact True.intro
  | omega
theorem Zoe (x:List UInt8) (h:Str x):Ok (Z9c x) (fun b=>b=true→x≠[]):=by
 unfold Z9c
 repeat' first
  | with_reducible refine bd (L34x1 _ (by first|assumption|omega|exact And.left (by assumption)|(dsimp only; omega))) fun _ _=>?_
  | with_reducible refine ok ?_
  | split
  | (first|(intro h; rintro rfl; simp at h; done)|(simp_all; done))
theorem L20x1 (x:List UInt8) (h:Str x):Ok (Z06 (Zc9 x) Z08 (0,0)) (fun q=>match q with|.inl y=>0≤y∧y≤x.length|.inr y=>True):=by
 refine lp (fun t=>t.2) (x.length) (fun t=>0≤t.1∧t.1≤t.2) (fun t hI _ _=>?_) (by omega) (by omega) (by omega) (by omega)
 try dsimp only at*
 unfold Zc9
 repeat' first
  | with_reducible refine nx ?_ ?_ ?_
  | with_reducible refine dn ?_
  | with_reducible refine brD (fun _=>?_) fun _=>?_
  | with_reducible refine br! (fun _=>?_) fun _=>?_
  | with_reducible refine brE (fun _=>?_) fun _=>?_
  | with_reducible refine bd gs fun _ _=>?_
  | with_reducible refine bd wr fun _ _=>?_
  | with_reducible refine bd (sb (by omega) (by omega) (by omega)) fun _ _=>?_
  | with_reducible refine bd (Zoe _ (by unfold Str; omega)) fun _ _=>?_
  | exact True.intro
  | omega
theorem Zk8 (x:List UInt8) (h:Str x):Ok (Z7l x) (fun b=>b=true→x.length≤64):=by
 unfold Z7l
 repeat' first
  | with_reducible refine bdE (L20x1 _ (by assumption)) fun q _ hq=>?_
  | with_reducible refine brD (fun _=>?_) fun _=>?_
  | with_reducible refine bd (sb (by omega) (by omega) (by omega)) fun _ _=>?_
  | with_reducible refine bd (Zoe _ (by unfold Str; omega)) fun _ _=>?_
  | with_reducible refine ok ?_
  | split
  | ((intro hb; first|(cases hb; done)|omega))
theorem Zrg (x y:List UInt8):Ok (Z8m x y) (fun _=>True):=by
 unfold Z8m
 repeat' with_reducible first
  | refine brD (fun _=>?_) fun _=>?_
  | refine bd (sb (by omega) (by omega) (by omega)) fun _ _=>?_
  | refine ok ?_
  | exact True.intro
theorem L32x1 (x:Z1p) (i:Int) (h:Z79 x):Ok (Z06 (Zhh x i) Z08 0) (fun _=>True):=by
 have:=h.stoL
 refine li (x.Z3q.length) (fun t _ _=>?_) (by omega) (by omega) (by omega)
 unfold Zhh
 repeat' first
  | with_reducible refine ni ?_ ?_
  | with_reducible refine di ?_
  | with_reducible refine brD (fun _=>?_) fun _=>?_
  | with_reducible refine br (fun _=>?_) fun _=>?_
  | with_reducible refine bd gr fun _ _=>?_
  | with_reducible refine bd wr fun _ _=>?_
  | with_reducible refine bd (Zk8 _ (by exact h.sto _ (by assumption))) fun _ _=>?_
  | with_reducible refine bd (Zrg _ _) fun _ _=>?_
  | exact True.intro
  | omega
theorem Y3s (x:Z1p) (i:Int) (h:Z79 x):Ok (Zhs x i) (fun _=>True):=by
 unfold Zhs
 repeat' first
  | with_reducible refine bd (L32x1 _ _ (by first|assumption|omega|exact And.left (by assumption)|(dsimp only; omega))) fun _ _=>?_
  | with_reducible refine ok ?_
  | split
  | assumption
theorem L33x2 (k:Int) (x:Z1p) (hl:x.Z3q.length≤140737488355328) (h0:0≤k) (h1:k<x.Z3q.length):Ok (Z06 (Zly k x) Z08 0) (fun _=>True):=by
 refine li (k) (fun t _ _=>?_) (by omega) (by omega) (by omega)
 unfold Zly
 repeat' first
  | with_reducible refine ni ?_ ?_
  | with_reducible refine di ?_
  | with_reducible refine brD (fun _=>?_) fun _=>?_
  | with_reducible refine br (fun _=>?_) fun _=>?_
  | with_reducible refine bd gr fun _ _=>?_
  | with_reducible refine bd wr fun _ _=>?_
  | exact True.intro
  | omega
theorem L33x1 (x:Z1p) (hl:x.Z3q.length≤140737488355328):Ok (Z06 (Zgx x) Z08 0) (fun _=>True):=by
 refine li (x.Z3q.length) (fun t _ _=>?_) (by omega) (by omega) (by omega)
 unfold Zgx
 repeat' first
  | with_reducible refine ni ?_ ?_
  | with_reducible refine di ?_
  | with_reducible refine brD (fun _=>?_) fun _=>?_
  | with_reducible refine bd wr fun _ _=>?_
  | with_reducible refine bd (L33x2 _ _ (by first|assumption|omega|exact And.left (by assumption)|(dsimp only; omega)) (by first|assumption|omega|exact And.left (by assumption)|(dsimp only; omega)) (by first|assumption|omega|exact And.left (by assumption)|(dsimp only; omega))) fun _ _=>?_
  | split
  | exact True.intro
  | omega
theorem Y2e (x:Z1p) (hl:x.Z3q.length≤140737488355328):Ok (Zho x) (fun _=>True):=by
 unfold Zho
 repeat' first
  | with_reducible refine bd (L33x1 _ (by first|assumption|omega|exact And.left (by assumption)|(dsimp only; omega))) fun _ _=>?_
  | with_reducible refine ok ?_
  | split
  | assumption
theorem L19x1 (x:List Z1p) (h:∀ l∈x,Z79 l) (hl:x.length≤140737488355328):Ok (Z06 (Zk1 x) Z08 0) (fun _=>True):=by
 refine li (x.length) (fun t _ _=>?_) (by omega) (by omega) (by omega)
 unfold Zk1
 repeat' first
  | with_reducible refine ni ?_ ?_
  | with_reducible refine di ?_
  | with_reducible refine brD (fun _=>?_) fun _=>?_
  | with_reducible refine bd gr fun _ _=>?_
  | with_reducible refine bd wr fun _ _=>?_
  | exact True.intro
  | omega
theorem L19x3 (k:Int) (x:List Z1p) (h:∀ l∈x,Z79 l) (hl:x.length≤140737488355328) (h0:0≤k) (h1:k<x.length):Ok (Z06 (Zj6 k x) Z08 0) (fun _=>True):=by
 obtain ⟨y,hy,hm⟩:=gr h0 h1
 have:=(h y hm).delL
 refine li (y.Z5j.length) (fun t _ _=>?_) (by omega) (by omega) (by omega)
 unfold Zj6
 simp only [hy]
 repeat' first
  | with_reducible refine ni ?_ ?_
  | with_reducible refine di ?_
  | with_reducible refine brD (fun _=>?_) fun _=>?_
  | with_reducible refine bd gr fun _ _=>?_
  | with_reducible refine bd wr fun _ _=>?_
  | with_reducible refine bs ?_
  | exact True.intro
  | omega
theorem L19x2 (x:List Z1p) (h:∀ l∈x,Z79 l) (hl:x.length≤140737488355328):Ok (Z06 (Zjw x) Z08 0) (fun _=>True):=by
 refine li (x.length) (fun t _ _=>?_) (by omega) (by omega) (by omega)
 unfold Zjw
 repeat' first
  | with_reducible refine ni ?_ ?_
  | with_reducible refine di ?_
  | with_reducible refine brD (fun _=>?_) fun _=>?_
  | with_reducible refine bd wr fun _ _=>?_
  | with_reducible refine bd (L19x3 _ _ (by first|assumption|omega|exact And.left (by assumption)|(dsimp only; omega)) (by first|assumption|omega|exact And.left (by assumption)|(dsimp only; omega)) (by first|assumption|omega|exact And.left (by assumption)|(dsimp only; omega)) (by first|assumption|omega|exact And.left (by assumption)|(dsimp only; omega))) fun _ _=>?_
  | split
  | exact True.intro
  | omega
theorem L19x4 (x:List Z1p) (h:∀ l∈x,Z79 l) (hl:x.length≤140737488355328):Ok (Z06 (Zhi x) Z08 0) (fun _=>True):=by
 refine li (x.length) (fun t _ _=>?_) (by omega) (by omega) (by omega)
 unfold Zhi
 repeat' first
  | with_reducible refine ni ?_ ?_
  | with_reducible refine di ?_
  | with_reducible refine brD (fun _=>?_) fun _=>?_
  | with_reducible refine brN (fun _=>?_) fun _=>?_
  | with_reducible refine bd gr fun _ _=>?_
  | with_reducible refine bd wr fun _ _=>?_
  | with_reducible refine bd (Y3s _ _ (by exact h _ (by assumption))) fun _ _=>?_
  | exact True.intro
  | omega
theorem L19x5 (x:List Z1p) (h:∀ l∈x,Z79 l) (hl:x.length≤140737488355328):Ok (Z06 (Zlp x) Z08 0) (fun _=>True):=by
 refine li (x.length) (fun t _ _=>?_) (by omega) (by omega) (by omega)
 unfold Zlp
 repeat' first
  | with_reducible refine ni ?_ ?_
  | with_reducible refine di ?_
  | with_reducible refine brD (fun _=>?_) fun _=>?_
  | with_reducible refine br (fun _=>?_) fun _=>?_
  | with_reducible refine bd gr fun _ _=>?_
  | with_reducible refine bd wr fun _ _=>?_
  | with_reducible refine bd (Y2e _ (by exact (h _ (by assumption)).stoL)) fun _ _=>?_
  | exact True.intro
  | omega
theorem Y1u (x:List Z1p) (h:∀ l∈x,Z79 l) (hl:x.length≤140737488355328):Ok (Zii x) (fun e=>e=0→x.length≤8):=by
 unfold Zii
 repeat' first
  | unfold j28x1
  | with_reducible refine brD (fun _=>?_) fun _=>?_
  | with_reducible refine bd (L19x1 _ (by first|assumption|omega|exact And.left (by assumption)|(dsimp only; omega)) (by first|assumption|omega|exact And.left (by assumption)|(dsimp only; omega))) fun _ _=>?_
  | with_reducible refine bd (L19x2 _ (by first|assumption|omega|exact And.left (by assumption)|(dsimp only; omega)) (by first|assumption|omega|exact And.left (by assumption)|(dsimp only; omega))) fun _ _=>?_
  | with_reducible refine bd (L19x4 _ (by first|assumption|omega|exact And.left (by assumption)|(dsimp only; omega)) (by first|assumption|omega|exact And.left (by assumption)|(dsimp only; omega))) fun _ _=>?_
  | with_reducible refine bd (L19x5 _ (by first|assumption|omega|exact And.left (by assumption)|(dsimp only; omega)) (by first|assumption|omega|exact And.left (by assumption)|(dsimp only; omega))) fun _ _=>?_
  | with_reducible refine ok ?_
  | split
  | omega
theorem L21x1 (v:Z2v) (w:Z0c) (i:Int) (h:Z57 w) (h0:0≤i) (h1:i<w.Z2p.length):Ok (Z06 (Zit v w i) Z08 0) (fun _=>True):=by
 have:=h.iniL
 refine li (i) (fun t _ _=>?_) (by omega) (by omega) (by omega)
 unfold Zit
 repeat' first
  | with_reducible refine ni ?_ ?_
  | with_reducible refine di ?_
  | with_reducible refine brD (fun _=>?_) fun _=>?_
  | with_reducible refine br (fun _=>?_) fun _=>?_
  | with_reducible refine bd gr fun _ _=>?_
  | with_reducible refine bd wr fun _ _=>?_
  | exact True.intro
  | omega
def Z7o (w:Z0c) (v:Z2v):Prop:=0≤v.Z2w∧v.Z2w<w.Z23.length∧0≤v.Z0w∧v.Z0w<w.Z0o.length
def Z7w (w:Z0c) (b:Z4r):Prop:=0≤b.f_A∧b.f_A<w.Z23.length∧0≤b.f_B∧b.f_B<w.Z23.length
theorem Y69 (w:Z0c) (i:Int) (h:Z57 w) (h0:0≤i) (h1:i<w.Z2p.length):Ok (Zlt w i) (fun b=>b=true→∀ v,w.Z2p[i.toNat]?=some v→Z7o w v):=by
 have:=h.iniL
 unfold Zlt
 repeat' first
  | with_reducible refine bd gri fun _ _=>?_
  | unfold j30x1
  | with_reducible refine brD (fun _=>?_) fun _=>?_
  | with_reducible refine bd (L21x1 _ _ _ (by first|assumption|omega|exact And.left (by assumption)|(dsimp only; omega)) (by first|assumption|omega|exact And.left (by assumption)|(dsimp only; omega)) (by first|assumption|omega|exact And.left (by assumption)|(dsimp only; omega))) fun _ _=>?_
  | with_reducible refine ok ?_
  | split
  | ((intro hb v hv; first|(cases hb; done)|(have e:∀ a,w.Z2p[i.toNat]?=some a→a=v:=fun a ha=>by { rw [hv] at ha; cases ha; rfl }; have:=e _ (And.right (by assumption)); subst this; exact ⟨by omega,by omega,by omega,by omega⟩)))
theorem L35x2 (w:Z0c) (s:List UInt8) (l0:List Bool) (h:Z57 w) (hl:w.Z23.length≤8) (hc:∀ b∈w.Z43,Z7w w b) (h0:l0.length=w.Z23.length):Ok (Z06 (Ziq w s) Z08 (0,l0)) (fun r=>r.length=w.Z23.length):=by
 have:=h.conL
 refine lp (fun t=>t.1) (w.Z43.length) (fun t=>t.2.length=w.Z23.length) (fun t hI _ _=>?_) (by omega) (by exact h0) (by omega) (by omega)
 try dsimp only at*
 unfold Ziq
 repeat' first
  | with_reducible refine bd (ik (by have:=hc _ (by assumption); unfold Z7w at this; omega) (by have:=hc _ (by assumption); unfold Z7w at this; first|omega|(simp only [List.length_set]; omega))) fun _ _=>?_
  | with_reducible refine nx ?_ ?_ ?_
  | with_reducible refine dn ?_
  | unfold Zlw
  | with_reducible refine brD (fun _=>?_) fun _=>?_
  | with_reducible refine br (fun _=>?_) fun _=>?_
  | with_reducible refine bd gr fun _ _=>?_
  | with_reducible refine bd (la (by first|omega|(simp only [List.length_set,List.length_append,List.length_cons,List.length_nil,List.length_replicate]; omega))) fun _ _=>?_
  | with_reducible refine bd wr fun _ _=>?_
  | assumption
  | (simp only [List.length_set,List.length_append,List.length_cons,List.length_nil,List.length_replicate]; omega)
theorem L35x1 (w:Z0c) (s:List UInt8) (l0:List Bool) (h:Z57 w) (hl:w.Z23.length≤8) (hc:∀ b∈w.Z43,Z7w w b) (h0:l0.length=w.Z23.length):Ok (Z06 (Zl6 w s) Z08 (0,l0)) (fun r=>r.length=w.Z23.length):=by
 refine lp (fun t=>t.1) (w.Z23.length) (fun t=>t.2.length=w.Z23.length) (fun t hI _ _=>?_) (by omega) (by exact h0) (by omega) (by omega)
 try dsimp only at*
 unfold Zl6
 repeat' first
  | with_reducible refine nx ?_ ?_ ?_
  | with_reducible refine dn ?_
  | with_reducible refine brD (fun _=>?_) fun _=>?_
  | with_reducible refine bd wr fun _ _=>?_
  | with_reducible refine bd (L35x2 _ _ _ (by first|assumption|omega|exact And.left (by assumption)|(dsimp only; omega)) (by first|assumption|omega|exact And.left (by assumption)|(dsimp only; omega)) (by first|assumption|omega|exact And.left (by assumption)|(dsimp only; omega)) (by first|assumption|omega|exact And.left (by assumption)|(dsimp only; omega))) fun _ _=>?_
  | omega
theorem Y37 (w:Z0c) (s:List UInt8) (k:Int) (h:Z57 w) (hl:w.Z23.length≤8) (hc:∀ b∈w.Z43,Z7w w b) (h0:0≤k) (h1:k<w.Z23.length):Ok (Zi2 w s k) (fun r=>r.length=w.Z23.length):=by
 unfold Zi2
 repeat' first
  | with_reducible refine bd (ik (by omega) (by first|omega|(simp only [List.length_set,List.length_append,List.length_cons,List.length_nil,List.length_replicate]; omega))) fun _ _=>?_
  | with_reducible refine bd (la (by first|omega|(simp only [List.length_set,List.length_append,List.length_cons,List.length_nil,List.length_replicate]; omega))) fun _ _=>?_
  | with_reducible refine bd (mk (by omega) (by omega) (by omega) (by omega)) fun _ _=>?_
  | with_reducible refine bd (L35x1 _ _ _ (by first|assumption|(simp only [List.length_set,List.length_replicate]; omega)) (by first|assumption|(simp only [List.length_set,List.length_replicate]; omega)) (by first|assumption|(simp only [List.length_set,List.length_replicate]; omega)) (by first|assumption|(simp only [List.length_set,List.length_replicate]; omega))) fun _ _=>?_
  | with_reducible refine ok ?_
  | assumption
theorem L22x1 (v:Z2v) (g:List Bool) (w:Z0c) (i:Int) (h:Z57 w) (h0:0≤i) (h1:i<w.Z2p.length) (hg:g.length=w.Z23.length) (hs:∀ (j:Nat) v,j<i→w.Z2p[j]?=some v→Z7o w v):Ok (Z06 (Zih v g w i) Z08 0) (fun _=>True):=by
 have:=h.iniL
 refine li (i) (fun t _ _=>?_) (by omega) (by omega) (by omega)
 unfold Zih
 repeat' first
  | with_reducible refine bd gri fun _ _=>?_
  | with_reducible refine bd (gr (by have:=hs t.toNat _ (by omega) (And.right (by assumption)); unfold Z7o at this; omega) (by have:=hs t.toNat _ (by omega) (And.right (by assumption)); unfold Z7o at this; omega)) fun _ _=>?_
  | with_reducible refine ni ?_ ?_
  | with_reducible refine di ?_
  | with_reducible refine brD (fun _=>?_) fun _=>?_
  | with_reducible refine br (fun _=>?_) fun _=>?_
  | with_reducible refine bd wr fun _ _=>?_
  | exact True.intro
  | omega
theorem Y55 (w:Z0c) (i:Int) (h:Z57 w) (hl:w.Z23.length≤8) (hc:∀ b∈w.Z43,Z7w w b) (h0:0≤i) (h1:i<w.Z2p.length) (hs:∀ (j:Nat) v,j≤i→w.Z2p[j]?=some v→Z7o w v):Ok (Zjs w i) (fun _=>True):=by
 have:=h.iniL
 unfold Zjs
 repeat' first
  | with_reducible refine bd gri fun _ _=>?_
  | with_reducible refine bd (Y37 _ _ _ h hl hc (by have:=hs i.toNat _ (by omega) (And.right (by assumption)); unfold Z7o at this; omega) (by have:=hs i.toNat _ (by omega) (And.right (by assumption)); unfold Z7o at this; omega)) fun _ _=>?_
  | with_reducible refine bd (L22x1 _ _ _ _ h h0 h1 (by assumption) (fun j v hj hv=>hs j v (by omega) hv)) fun _ _=>?_
  | with_reducible refine ok ?_
  | split
  | assumption
theorem L53x1 (x:List Z0i) (hl:x.length≤140737488355328):Ok (Z06 (Zhf x) Z08 0) (fun _=>True):=by
 refine li (x.length) (fun t _ _=>?_) (by omega) (by omega) (by omega)
 unfold Zhf
 repeat' first
  | with_reducible refine ni ?_ ?_
  | with_reducible refine di ?_
  | with_reducible refine brD (fun _=>?_) fun _=>?_
  | with_reducible refine brN (fun _=>?_) fun _=>?_
  | with_reducible refine bd gr fun _ _=>?_
  | with_reducible refine bd wr fun _ _=>?_
  | exact True.intro
  | omega
theorem Ztk (x:List Z0i) (hl:x.length≤140737488355328):Ok (Zdk x) (fun _=>True):=by
 unfold Zdk
 repeat' first
  | with_reducible refine bd (L53x1 _ (by first|assumption|omega|exact And.left (by assumption)|(dsimp only; omega))) fun _ _=>?_
  | with_reducible refine ok ?_
  | split
  | assumption
theorem L47x1 (u:Z0m) (h:Z5a u):Ok (Z06 (Zhv u) Z08 0) (fun _=>True):=by
 have:=h.fldL
 refine li (u.Z0g.length) (fun t _ _=>?_) (by omega) (by omega) (by omega)
 unfold Zhv
 repeat' first
  | with_reducible refine ni ?_ ?_
  | with_reducible refine di ?_
  | unfold Zkr
  | with_reducible refine brD (fun _=>?_) fun _=>?_
  | with_reducible refine br! (fun _=>?_) fun _=>?_
  | with_reducible refine brE (fun _=>?_) fun _=>?_
  | with_reducible refine brN (fun _=>?_) fun _=>?_
  | with_reducible refine bd gr fun _ _=>?_
  | with_reducible refine bd wr fun _ _=>?_
  | exact True.intro
  | omega
theorem L47x3 (m:Z2r) (h:Zae m):Ok (Z06 (Zjt m) Z08 0) (fun _=>True):=by
 have:=h.code.hndL
 refine li (m.Z2b.Z1z.length) (fun t _ _=>?_) (by omega) (by omega) (by omega)
 unfold Zjt
 repeat' first
  | with_reducible refine ni ?_ ?_
  | with_reducible refine di ?_
  | with_reducible refine brD (fun _=>?_) fun _=>?_
  | with_reducible refine brN (fun _=>?_) fun _=>?_
  | with_reducible refine bd gr fun _ _=>?_
  | with_reducible refine bd wr fun _ _=>?_
  | exact True.intro
  | omega
theorem L47x4 (m:Z2r) (h:Zae m):Ok (Z06 (Zgn m) Z08 0) (fun _=>True):=by
 have:=h.code.mapL
 refine li (m.Z2b.Z1k.length) (fun t _ _=>?_) (by omega) (by omega) (by omega)
 unfold Zgn
 repeat' first
  | with_reducible refine bd (Ztk _ (by have:=(h.code.map _ (by assumption)).locL; omega)) fun _ _=>?_
  | with_reducible refine bd (Ztk _ (by have:=(h.code.map _ (by assumption)).stkL; omega)) fun _ _=>?_
  | with_reducible refine ni ?_ ?_
  | with_reducible refine di ?_
  | with_reducible refine brD (fun _=>?_) fun _=>?_
  | with_reducible refine br! (fun _=>?_) fun _=>?_
  | with_reducible refine bd gr fun _ _=>?_
  | with_reducible refine bd wr fun _ _=>?_
  | exact True.intro
  | omega
theorem L47x2 (u:Z0m) (h:Z5a u):Ok (Z06 (Zjx u) Z08 0) (fun _=>True):=by
 have:=h.metL
 refine li (u.Z10.length) (fun t _ _=>?_) (by omega) (by omega) (by omega)
 unfold Zjx
 repeat' first
  | with_reducible refine ni ?_ ?_
  | with_reducible refine di ?_
  | unfold Zh2
  | with_reducible refine brD (fun _=>?_) fun _=>?_
  | with_reducible refine bd gr fun _ _=>?_
  | with_reducible refine bd wr fun _ _=>?_
  | with_reducible refine bd (L47x3 _ (by exact h.met _ (by assumption))) fun _ _=>?_
  | with_reducible refine bd (L47x4 _ (by exact h.met _ (by assumption))) fun _ _=>?_
  | with_reducible refine bs ?_
  | split
  | exact True.intro
  | omega
theorem Y0f (u:Z0m) (h:Z5a u):Ok (Ziv u) (fun _=>True):=by
 unfold Ziv
 repeat' first
  | with_reducible refine bd (L47x1 _ (by first|assumption|omega|exact And.left (by assumption)|(dsimp only; omega))) fun _ _=>?_
  | with_reducible refine bd (L47x2 _ (by first|assumption|omega|exact And.left (by assumption)|(dsimp only; omega))) fun _ _=>?_
  | with_reducible refine ok ?_
  | split
  | assumption
end Go.Proofs
set_option linter.unusedVariables false
namespace Go.Proofs
open Go.Den Go.Tot
structure Z14 (p:List Z00):Prop where
 len:p.length≤1000
 ord:∀ (k:Nat) c,p[k]?=some c→c.f_A≤k∧c.f_B≤k
 str:∀ c∈p,Str c.f_S
theorem Z14.app {p:List Z00} {c:Z00} (h:Z14 p) (hl:p.length<1000) (ha:c.f_A≤p.length) (hb:c.f_B≤p.length) (hs:Str c.f_S):Z14 (([]++p)++[c]):=by
 refine ⟨by simp; omega,fun k d hd=>?_,fun d hd=>?_⟩
 ·rw [List.nil_append] at hd
  rcases Nat.lt_trichotomy k p.length with h1|h1|h1
  ·rw [List.getElem?_append_left h1] at hd; exact h.ord k d hd
  ·subst h1
   rw [List.getElem?_append_right (Nat.le_refl _),Nat.sub_self] at hd
   cases hd; exact ⟨ha,hb⟩
  ·rw [List.getElem?_eq_none (by simp; omega)] at hd; cases hd
 ·rw [List.nil_append] at hd
  rcases List.mem_append.1 hd with hd|hd
  ·exact h.str d hd
  ·rw [List.mem_singleton.1 hd]; exact hs
theorem Z14.nil:Z14 [] :=⟨by simp,fun k c h=>by simp at h,fun c h=>by simp at h⟩
abbrev PR (p:List Z00) (r:List Z00×Int×Int):Prop:=Z14 r.1∧p.length≤r.1.length∧0≤r.2.1∧r.2.1≤r.1.length∧r.1.length≤1000
theorem Z61 {α:Type} {P:α→Prop} {l:List α} {x:α} (h:∀ v∈l,P v) (hx:P x):∀ v∈l++[x],P v:=fun v hv=>by
 rcases List.mem_append.1 hv with hv|hv
 ·exact h v hv
 ·rw [List.mem_singleton.1 hv]; exact hx
theorem Z40 {α:Type} {P:α→Prop}:∀ v∈([]:List α),P v:=fun v hv=>by simp at hv
theorem W0 {op a:Int}:Z2q { f_Op:=op,f_A:=a,f_B:=0,f_To:=0,Z0r:=[],Z0b:=[],Z1e:={ Z0w:=[],Z0d:=[],Z16:=[] },f_S:=[] }:=⟨by simp,by simp,⟨by simp,by simp,by simp⟩,by simp⟩
theorem L77x1 (p:List Z00) (c:Z00) (hp:Z14 p):Ok (Z06 (Zgb p c) Z08 0) (fun q=>match q with|.inl _=>True|.inr y=>PR p y):=by
 have:=hp.len
 refine li (p.length) (fun t _ _=>?_) (by omega) (by omega) (by omega)
 unfold Zgb
 repeat' first
  | with_reducible refine ni ?_ ?_
  | with_reducible refine di ?_
  | with_reducible refine brD (fun _=>?_) fun _=>?_
  | with_reducible refine br (fun _=>?_) fun _=>?_
  | with_reducible refine bd gr fun _ _=>?_
  | with_reducible refine bd wr fun _ _=>?_
  | with_reducible refine And.intro ?_ ?_
  | exact True.intro
  | omega
  | (dsimp only; omega)
theorem Zf3 (p:List Z00) (c:Z00) (hp:Z14 p) (ha:c.f_A≤p.length) (hb:c.f_B≤p.length) (hs:Str c.f_S):Ok (Z62 p c) (PR p):=by
 have:=hp.len
 unfold Z62
 repeat' first
  | with_reducible refine brD (fun _=>?_) fun _=>?_
  | with_reducible refine bd wr fun _ _=>?_
  | with_reducible refine bd gk fun _ _=>?_
  | with_reducible refine bd (L77x1 _ _ (by first|assumption|omega|exact And.left (by assumption)|(dsimp only; omega))) fun _ _=>?_
  | with_reducible refine ok ?_
  | split
  | (first|exact ⟨hp.app (by omega) ha hb hs,by simp,by dsimp only; omega,by simp; omega,by simp; omega⟩|exact ⟨hp,by dsimp only; omega,by dsimp only; omega,by dsimp only; omega,by dsimp only; omega⟩|(dsimp only at *; assumption))
theorem Zea (p:List Z00) (s:List UInt8) (hp:Z14 p) (hs:Str s):Ok (Z6f p s) (PR p):=by
 have:=hp.len
 unfold Z6f
 repeat' first
  | with_reducible refine bd (Zf3 _ _ (by first|assumption|omega|(dsimp only; omega)|exact And.left (by assumption)|(simp; done)) (by first|assumption|omega|(dsimp only; omega)|exact And.left (by assumption)|(simp; done)) (by first|assumption|omega|(dsimp only; omega)|exact And.left (by assumption)|(simp; done)) (by first|assumption|omega|(dsimp only; omega)|exact And.left (by assumption)|(simp; done))) fun _ _=>?_
  | with_reducible refine ok ?_
  | (first|exact ⟨by first|exact hp|exact And.left (by assumption),by dsimp only; omega,by dsimp only; omega,by dsimp only; omega,by dsimp only; omega⟩|exact ⟨hp,by dsimp only; omega,by dsimp only; omega,by dsimp only; omega,by dsimp only; omega⟩)
theorem Zrh (p:List Z00) (tag:Int) (s:List UInt8) (hp:Z14 p) (hs:Str s):Ok (Z9w p tag s) (PR p):=by
 have:=hp.len
 unfold Z9w
 repeat' first
  | with_reducible refine brN (fun _=>?_) fun _=>?_
  | with_reducible refine bd (Zea _ _ (by first|assumption|omega|exact And.left (by assumption)|(dsimp only; omega)) (by first|assumption|omega|exact And.left (by assumption)|(dsimp only; omega))) fun _ _=>?_
  | with_reducible refine bd (Zf3 _ _ (by first|assumption|omega|(dsimp only; omega)|exact And.left (by assumption)|(simp; done)) (by first|assumption|omega|(dsimp only; omega)|exact And.left (by assumption)|(simp; done)) (by first|assumption|omega|(dsimp only; omega)|exact And.left (by assumption)|(simp; done)) (by first|assumption|omega|(dsimp only; omega)|exact And.left (by assumption)|(simp; done))) fun _ _=>?_
  | with_reducible refine ok ?_
  | (first|exact ⟨by first|exact hp|exact And.left (by assumption),by dsimp only; omega,by dsimp only; omega,by dsimp only; omega,by dsimp only; omega⟩|exact ⟨hp,by dsimp only; omega,by dsimp only; omega,by dsimp only; omega,by dsimp only; omega⟩)
theorem Zqv (p:List Z00) (s:List UInt8) (hp:Z14 p) (hs:Str s):Ok (Z9b p s) (PR p):=by
 have:=hp.len
 unfold Z9b
 repeat' first
  | with_reducible refine bd (Zrh _ _ _ (by first|assumption|omega|exact And.left (by assumption)|(dsimp only; omega)) (by first|assumption|omega|exact And.left (by assumption)|(dsimp only; omega))) fun _ _=>?_
  | with_reducible refine ok ?_
  | (first|exact ⟨by first|exact hp|exact And.left (by assumption),by dsimp only; omega,by dsimp only; omega,by dsimp only; omega,by dsimp only; omega⟩|exact ⟨hp,by dsimp only; omega,by dsimp only; omega,by dsimp only; omega,by dsimp only; omega⟩)
theorem Zvv (p:List Z00) (s:List UInt8) (hp:Z14 p) (hs:Str s):Ok (Zaa p s) (PR p):=by
 have:=hp.len
 unfold Zaa
 repeat' first
  | with_reducible refine bd (Zrh _ _ _ (by first|assumption|omega|exact And.left (by assumption)|(dsimp only; omega)) (by first|assumption|omega|exact And.left (by assumption)|(dsimp only; omega))) fun _ _=>?_
  | with_reducible refine ok ?_
  | (first|exact ⟨by first|exact hp|exact And.left (by assumption),by dsimp only; omega,by dsimp only; omega,by dsimp only; omega,by dsimp only; omega⟩|exact ⟨hp,by dsimp only; omega,by dsimp only; omega,by dsimp only; omega,by dsimp only; omega⟩)
theorem Ze4 (x:Z0j) (s:List UInt8) (hp:Z14 x.f_P) (hs:Str s):Ok (Z75 x s) (fun r=>Z14 r.1.f_P):=by
 unfold Z75
 repeat' first
  | with_reducible refine brN (fun _=>?_) fun _=>?_
  | with_reducible refine bd (Zqv _ _ (by first|assumption|omega|exact And.left (by assumption)|(dsimp only; omega)) (by first|assumption|omega|exact And.left (by assumption)|(dsimp only; omega))) fun _ _=>?_
  | with_reducible refine ok ?_
  | (exact And.left (by assumption))
  | assumption
theorem Z7e (x:Z0j) (s:List UInt8) (hp:Z14 x.f_P) (hs:Str s):Ok (Z4u x s) (fun r=>Z14 r.1.f_P):=by
 unfold Z4u
 repeat' first
  | with_reducible refine brN (fun _=>?_) fun _=>?_
  | with_reducible refine bd (Zea _ _ (by first|assumption|omega|exact And.left (by assumption)|(dsimp only; omega)) (by first|assumption|omega|exact And.left (by assumption)|(dsimp only; omega))) fun _ _=>?_
  | with_reducible refine ok ?_
  | (exact And.left (by assumption))
  | assumption
theorem Y67 (x:Z0j) (f:Z1d) (hp:Z14 x.f_P) (hf:Zor f):Ok (Zcf x f) (fun r=>Z14 r.1.f_P):=by
 unfold Zcf
 repeat' first
  | unfold Zfn
  | with_reducible refine brE (fun _=>?_) fun _=>?_
  | with_reducible refine brN (fun _=>?_) fun _=>?_
  | with_reducible refine bd (Zvv _ _ (by first|exact hf.s|assumption) (by first|exact hf.s|assumption)) fun _ _=>?_
  | with_reducible refine bd (Zf3 _ _ (by first|assumption|omega|(dsimp only; omega)|exact And.left (by assumption)|(simp; done)) (by first|assumption|omega|(dsimp only; omega)|exact And.left (by assumption)|(simp; done)) (by first|assumption|omega|(dsimp only; omega)|exact And.left (by assumption)|(simp; done)) (by first|assumption|omega|(dsimp only; omega)|exact And.left (by assumption)|(simp; done))) fun _ _=>?_
  | with_reducible refine ok ?_
  | (exact And.left (by assumption))
  | assumption
theorem Y3p (p:List Z00) (tag:Int) (r:Z26) (hp:Z14 p) (hr:WRef r):Ok (Z8y p tag r) (PR p):=by
 have:=hp.len
 unfold Z8y
 repeat' first
  | with_reducible refine bd (Zea _ _ (And.left (by assumption)) hr.n) fun _ _=>?_
  | with_reducible refine bd (Zea _ _ (And.left (by assumption)) hr.d) fun _ _=>?_
  | with_reducible refine brN (fun _=>?_) fun _=>?_
  | with_reducible refine bd (Zqv _ _ (by first|exact hr.c|assumption) (by first|exact hr.c|assumption)) fun _ _=>?_
  | with_reducible refine bd (Zf3 _ _ (by first|assumption|omega|(dsimp only; omega)|exact And.left (by assumption)|(simp; done)) (by first|assumption|omega|(dsimp only; omega)|exact And.left (by assumption)|(simp; done)) (by first|assumption|omega|(dsimp only; omega)|exact And.left (by assumption)|(simp; done)) (by first|assumption|omega|(dsimp only; omega)|exact And.left (by assumption)|(simp; done))) fun _ _=>?_
  | with_reducible refine ok ?_
  | (first|exact ⟨by first|exact hp|exact And.left (by assumption),by dsimp only; omega,by dsimp only; omega,by dsimp only; omega,by dsimp only; omega⟩|exact ⟨hp,by dsimp only; omega,by dsimp only; omega,by dsimp only; omega,by dsimp only; omega⟩)
theorem Zy5 (x:Int):Ok (Zac x) (fun _=>True):=by
 unfold Zac
 repeat' with_reducible first
  | refine brD (fun _=>?_) fun _=>?_
  | refine ok ?_
  | exact True.intro
theorem Zrd (x a b:Int):Ok (Z6m x a b) (fun _=>True):=by
 unfold Z6m
 repeat' with_reducible first
  | refine brD (fun _=>?_) fun _=>?_
  | refine ok ?_
  | exact True.intro
theorem Zvm (x:Int):Ok (Zgc x) (fun _=>True):=by
 unfold Zgc
 repeat' with_reducible first
  | refine brD (fun _=>?_) fun _=>?_
  | refine ok ?_
  | exact True.intro
theorem Y0q (x:Int):Ok (Zhl x) (fun _=>True):=by
 unfold Zhl
 repeat' with_reducible first
  | refine brD (fun _=>?_) fun _=>?_
  | refine ok ?_
  | exact True.intro
theorem Zwy (x:Int):Ok (Zep x) (fun _=>True):=by
 unfold Zep
 repeat' with_reducible first
  | refine brE (fun _=>?_) fun _=>?_
  | refine ok ?_
  | exact True.intro
theorem Zod (x:Int):Ok (Zf0 x) (fun _=>True):=by
 unfold Zf0
 repeat' with_reducible first
  | refine brD (fun _=>?_) fun _=>?_
  | refine ok ?_
  | exact True.intro
theorem Zwm (x:Int):Ok (Z6n x) (fun _=>True):=by
 unfold Z6n
 repeat' first
  | unfold Zkh
  | unfold Zi8
  | with_reducible refine br (fun _=>?_) fun _=>?_
  | with_reducible refine bd (Zy5 _) fun _ _=>?_
  | with_reducible refine bd (Zrd _ _ _) fun _ _=>?_
  | with_reducible refine ok ?_
  | assumption
theorem Y23 (x:Z01) (k:Int):Ok (Zbw x k) (fun _=>True):=by
 unfold Zbw
 repeat' with_reducible first
  | unfold Zkc
  | unfold Zdd
  | unfold Ze7
  | refine br! (fun _=>?_) fun _=>?_
  | refine brE (fun _=>?_) fun _=>?_
  | refine brN (fun _=>?_) fun _=>?_
  | refine ok ?_
  | exact True.intro
theorem L114x1 (x:Z01) (hx:Z2q x):Ok (Z06 (Zbs x) Z08 0) (fun _=>True):=by
 have:=hx.tos
 refine li (x.Z0b.length) (fun t _ _=>?_) (by omega) (by omega) (by omega)
 unfold Zbs
 repeat' first
  | with_reducible refine ni ?_ ?_
  | with_reducible refine di ?_
  | with_reducible refine brD (fun _=>?_) fun _=>?_
  | with_reducible refine bd gr fun _ _=>?_
  | with_reducible refine bd wr fun _ _=>?_
  | exact True.intro
  | omega
theorem Y34 (x:Z01) (hx:Z2q x):Ok (Z7s x) (fun _=>True):=by
 unfold Z7s
 repeat' with_reducible first
  | unfold Zhq
  | refine bd (L114x1 _ (by first|assumption|omega|exact And.left (by assumption)|(dsimp only; omega))) fun _ _=>?_
  | refine ok ?_
  | split
  | exact True.intro
theorem Zwv (x:Z01) (hx:Z2q x):Ok (Z06 (Zl9 x) Z08 0) (fun _=>True):=by
 have:=hx.keys
 refine li (x.Z0r.length) (fun t _ _=>?_) (by omega) (by omega) (by omega)
 unfold Zl9
 repeat' first
  | with_reducible refine ni ?_ ?_
  | with_reducible refine di ?_
  | with_reducible refine brD (fun _=>?_) fun _=>?_
  | with_reducible refine br! (fun _=>?_) fun _=>?_
  | with_reducible refine bd gr fun _ _=>?_
  | with_reducible refine bd wr fun _ _=>?_
  | with_reducible refine bd (Zod _) fun _ _=>?_
  | exact True.intro
  | omega
theorem Zyt (x:Z01) (hx:Z2q x):Ok (Z06 (Zli x) Z08 1) (fun _=>True):=by
 have:=hx.keys
 refine lp (fun t=>t) (max 1 x.Z0r.length) (fun t=>1≤t) (fun t hI _ _=>?_) (by omega) (by omega) (by omega) (by omega)
 unfold Zli
 repeat' first
  | with_reducible refine nx ?_ ?_ ?_
  | with_reducible refine dn ?_
  | with_reducible refine brD (fun _=>?_) fun _=>?_
  | with_reducible refine bd gr fun _ _=>?_
  | with_reducible refine bd wr fun _ _=>?_
  | exact True.intro
  | omega
theorem Y2h (x:Z01) (hx:Z2q x):Ok (Zcr x) (fun _=>True):=by
 unfold Zcr
 repeat' with_reducible first
  | unfold Zie
  | unfold Zkx
  | refine brD (fun _=>?_) fun _=>?_
  | refine bd wr fun _ _=>?_
  | refine bd (Zod _) fun _ _=>?_
  | refine bd (Zwv _ (by first|assumption|omega|exact And.left (by assumption)|(dsimp only; omega))) fun _ _=>?_
  | refine bd (Zyt _ (by assumption)) fun _ _=>?_
  | refine ok ?_
  | split
  | exact True.intro
theorem Y0l (x:Z01) (hx:Z2q x):Ok (Z4q x) (fun _=>True):=by
 unfold Z4q
 repeat' first
  | unfold Z92
  | unfold Z9s
  | unfold Zb7
  | unfold Z8r
  | unfold Zbf
  | with_reducible refine brD (fun _=>?_) fun _=>?_
  | with_reducible refine br! (fun _=>?_) fun _=>?_
  | with_reducible refine brE (fun _=>?_) fun _=>?_
  | with_reducible refine bd (Zwm _) fun _ _=>?_
  | with_reducible refine bd (Y23 _ _) fun _ _=>?_
  | with_reducible refine bd (Y34 _ (by first|assumption|omega|exact And.left (by assumption)|(dsimp only; omega))) fun _ _=>?_
  | with_reducible refine bd (Y2h _ (by first|assumption|omega|exact And.left (by assumption)|(dsimp only; omega))) fun _ _=>?_
  | with_reducible refine ok ?_
  | assumption
theorem Y5v (x:Z01) (hx:Z2q x):Ok (Zis x) (fun _=>True):=by
 unfold Zis
 repeat' with_reducible first
  | unfold Zqt
  | unfold Zgu
  | unfold Zeh
  | refine br (fun _=>?_) fun _=>?_
  | refine bd (Zvm _) fun _ _=>?_
  | refine bd (Y0q _) fun _ _=>?_
  | refine bd (Zwy _) fun _ _=>?_
  | refine bs ?_
  | refine ok ?_
  | exact True.intro
theorem Zxp (x:Int):Ok (Zga x) (fun l=>l.length≤3):=by
 unfold Zga
 repeat' first
  | unfold Znd
  | unfold Zmv
  | unfold Zqq
  | unfold Zo4
  | with_reducible refine br (fun _=>?_) fun _=>?_
  | with_reducible refine bd (Zrd _ _ _) fun _ _=>?_
  | with_reducible refine ok ?_
  | (first|(simp; done)|decide)
theorem L158x1 (l:List Int) (x:Int) (hl:l.length≤140737488355328):Ok (Z06 (Zj4 l x) Z08 0) (fun _=>True):=by
 refine li (l.length) (fun t _ _=>?_) (by omega) (by omega) (by omega)
 unfold Zj4
 repeat' first
  | with_reducible refine ni ?_ ?_
  | with_reducible refine di ?_
  | with_reducible refine brD (fun _=>?_) fun _=>?_
  | with_reducible refine brE (fun _=>?_) fun _=>?_
  | with_reducible refine bd gr fun _ _=>?_
  | with_reducible refine bd wr fun _ _=>?_
  | exact True.intro
  | omega
theorem Y3t (l:List Int) (x:Int) (hl:l.length≤140737488355328):Ok (Zi4 l x) (fun _=>True):=by
 unfold Zi4
 repeat' first
  | with_reducible refine bd (L158x1 _ _ (by first|assumption|omega|exact And.left (by assumption)|(dsimp only; omega))) fun _ _=>?_
  | with_reducible refine ok ?_
  | split
  | assumption
theorem Y54 (p:List Z00) (x:Z01) (hp:Z14 p) (hx:Z2q x):Ok (Zce p x) (PR p):=by
 have:=hp.len
 unfold Zce
 repeat' first
  | unfold Zk0
  | unfold Zek
  | unfold Zda
  | unfold Zlc
  | with_reducible refine br (fun _=>?_) fun _=>?_
  | with_reducible refine bd (Zvv _ _ (by first|exact hx.s|assumption) (by first|exact hx.s|assumption)) fun _ _=>?_
  | with_reducible refine bd (Zf3 _ _ (by first|assumption|omega|(dsimp only; omega)|exact And.left (by assumption)|(simp; done)) (by first|assumption|omega|(dsimp only; omega)|exact And.left (by assumption)|(simp; done)) (by first|assumption|omega|(dsimp only; omega)|exact And.left (by assumption)|(simp; done)) (by first|assumption|omega|(dsimp only; omega)|exact And.left (by assumption)|(simp; done))) fun _ _=>?_
  | with_reducible refine bd (Zwy _) fun _ _=>?_
  | with_reducible refine bd (Zqv _ _ (by first|exact hx.ref.c|assumption) (by first|exact hx.ref.c|assumption)) fun _ _=>?_
  | with_reducible refine bd (Zea _ _ (by first|exact hx.s|assumption) (by first|exact hx.s|assumption)) fun _ _=>?_
  | with_reducible refine bd (Zvm _) fun _ _=>?_
  | with_reducible refine bd (Y3p _ _ _ (by first|exact hx.ref|assumption) (by first|exact hx.ref|assumption)) fun _ _=>?_
  | with_reducible refine ok ?_
  | (first|exact ⟨by first|exact hp|exact And.left (by assumption),by dsimp only; omega,by dsimp only; omega,by dsimp only; omega,by dsimp only; omega⟩|exact ⟨hp,by dsimp only; omega,by dsimp only; omega,by dsimp only; omega,by dsimp only; omega⟩)
theorem Y2z (p:List Z00) (x:Z01) (hp:Z14 p) (hx:Z2q x):Ok (Zbe p x) (fun r=>Z14 r.1∧Z2q r.2.1):=by
 unfold Zbe
 repeat' first
  | unfold Zdu
  | unfold Zc1
  | with_reducible refine br! (fun _=>?_) fun _=>?_
  | with_reducible refine brE (fun _=>?_) fun _=>?_
  | with_reducible refine brN (fun _=>?_) fun _=>?_
  | with_reducible refine bd (Zy5 _) fun _ _=>?_
  | with_reducible refine bd (Zwm _) fun _ _=>?_
  | with_reducible refine bd (Y0l _ (by first|assumption|omega|exact And.left (by assumption)|(dsimp only; omega))) fun _ _=>?_
  | with_reducible refine bd (Y5v _ (by first|assumption|omega|exact And.left (by assumption)|(dsimp only; omega))) fun _ _=>?_
  | with_reducible refine bd (Zxp _) fun _ _=>?_
  | with_reducible refine bd (Y3t _ _ (by first|assumption|omega|exact And.left (by assumption)|(dsimp only; omega))) fun _ _=>?_
  | with_reducible refine bd (Y54 _ _ (by first|assumption|omega|exact And.left (by assumption)|(dsimp only; omega)) (by first|assumption|omega|exact And.left (by assumption)|(dsimp only; omega))) fun _ _=>?_
  | with_reducible refine ok ?_
  | (first|exact ⟨hp,W0⟩|exact ⟨hp,hx⟩|exact ⟨And.left (by assumption),W0⟩)
theorem Y4e (x:Z0j) (i:Z01) (hp:Z14 x.f_P) (hx:Z2q i):Ok (Zck x i) (fun r=>Z14 r.1.f_P∧Z2q r.2):=by
 unfold Zck
 repeat' first
  | with_reducible refine brN (fun _=>?_) fun _=>?_
  | with_reducible refine bd (Y2z _ _ (by first|assumption|omega|exact And.left (by assumption)|(dsimp only; omega)) (by first|assumption|omega|exact And.left (by assumption)|(dsimp only; omega))) fun _ _=>?_
  | with_reducible refine ok ?_
  | (first|exact ⟨hp,W0⟩|(dsimp only; assumption))
end Go.Proofs
set_option linter.unusedVariables false
namespace Go.Proofs
open Go.Den Go.Tot
theorem Y58 (l:List Int):(bytesOf l).length=l.length:=by simp [bytesOf]
theorem Zyy {n:Int} (hn:n=1∨n=2∨n=4):Zku n=some true:=by
 rcases hn with rfl|rfl|rfl <;> rfl
theorem L62x1 (x n k:Int) (l:List Int) (hk:k=n - 1) (h0:0≤n) (hl:(l.length:Int)=n) (hn:n≤8):Ok (Z06 Zjl Z08 (x,k,l)) (fun r=>(r.length:Int)=n):=by
 refine lp (fun t=>n - 1 - t.2.1) n (fun t=>(t.2.2.length:Int)=n) (fun t hI h0 h1=>?_) (by omega) hl
 unfold Zjl
 refine brD (fun hlt=>?_) fun hge=>dn hI
 refine bs (bs (bd ik fun j hj=>bd (la (by omega)) fun _ _=>?_))
 refine bd (P:=fun _=>True) ⟨_,by unfold shrK; rw [if_pos (by decide)],trivial⟩ fun _ _=>bd wr fun v hv=>nx ?_
 dsimp only
 rw [List.length_set]; exact hI
theorem Zg2 (x n:Int) (hn:n=1∨n=2∨n=4):Ok (Z90 x n) (fun r=>(r.1.length:Int)≤n):=by
 have hj:Ok (Zfc x n) (fun r=>(r.1.length:Int)≤n):=by
  unfold Zfc
  refine bd (mk (by omega) (by omega) (by omega) (by omega)) fun _ _=>bd wr fun k hk=>?_
  exact bd (L62x1 x n k _ hk (by omega) (by simp; omega) (by omega)) fun q hq=>ok (by dsimp only; rw [Y58]; omega)
 unfold Z90
 rw [Zyy hn]
 refine bs (br! (fun h=>by cases h) fun _=>brD (fun _=>?_) fun _=>hj)
 have hs:∀ y:Int,0≤y→Ok (Z6d .i64 1 y) (fun _=>True):=fun y hy=>⟨_,by unfold Z6d; rw [if_pos hy],trivial⟩
 refine bd wr fun _ _=>bd wr fun _ _=>bd (hs _ (by omega)) fun _ _=>bs (brD (fun _=>ok (by dsimp only; simp; omega)) fun _=>?_)
 exact bd wr fun _ _=>bd (hs _ (by omega)) fun _ _=>bs (brD (fun _=>ok (by dsimp only; simp; omega)) fun _=>hj)
theorem Zvr (x:Int):Ok (Z93 x) (fun r=>r.length≤2):=bd (Zg2 x 2 (.inr (.inl rfl))) fun v h=>ok (by omega)
theorem Z4k (x:Int):Ok (Z42 x) (fun r=>r.length≤2):=bd (Zg2 x 2 (.inr (.inl rfl))) fun v h=>ok (by omega)
theorem Zmu (x:Int):Ok (Zef x) (fun r=>r.length≤1):=bd (Zg2 x 1 (.inl rfl)) fun v h=>ok (by omega)
theorem Y45 (x n:Int) (hn:n=1∨n=2∨n=4):Ok (Z4g x n) (fun r=>r.length≤4):=bd (Zg2 x n hn) fun v h=>ok (by omega)
theorem Y24 (s:List UInt8) (a n:Int) (hn:n=1∨n=2∨n=4) (hl:Str s):Ok (Zkj s a n) (fun e=>e=0→0≤a∧a+n≤s.length):=by
 unfold Zkj
 rw [Zyy hn]
 refine bs (br! (fun h=>by cases h) fun _=>brD (fun _=>ok (by omega)) fun _=>brD (fun _=>ok (by omega)) fun _=>?_)
 unfold Zo2
 exact bd wr fun v hv=>brD (fun _=>ok (by omega)) fun _=>ok (by omega)
def Sg (n v:Int):Prop:=(n=1∧ -128≤v∧v<128)∨(n=2∧ -32768≤v∧v<32768)∨(n=3∧ -8388608≤v∧v<8388608)∨(n=4∧ -2147483648≤v∧v<2147483648)
theorem L134x1 (s : List UInt8) (a n p : Int) (hn:1≤n∧n≤4) (hl:Str s) (h0:0≤a) (h1:a+n≤s.length) (hp: -128≤p∧p<128):Ok (Z06 (Zjh s a n) Z08 (p,1)) (Sg n):=by
 refine lp (fun t=>t.2) n (fun t=>Sg t.2 t.1) (fun t hI g0 g1=>?_) (by omega) (.inl ⟨rfl,hp⟩)
 unfold Zjh
 unfold Sg at hI
 refine brD (fun hlt => ?_) fun hge => dn (by have:t.2=n:=by omega
                                              rw [← this]; exact hI)
 refine bd wr fun v9 e9=>bd wr fun v10 e10=>bd gs fun v11 e11=>bd wr fun v12 e12=>bd wr fun v13 e13=>bd wr fun v14 e14=>?_
 exact nx (by dsimp only; unfold Sg; omega)
theorem Zx0 (s:List UInt8) (a n:Int) (hn:n=1∨n=2∨n=4) (hl:Str s):Ok (Zff s a n) (fun r=>(r.2=0→0≤a∧a+n≤s.length∧Sg n r.1)∧(r.2≠0→r.1=0)):=by
 unfold Zff
 refine bd (Y24 s a n hn hl) fun v0 h0=>brN (fun h=>ok ⟨fun h'=>absurd h' h,fun _=>rfl⟩) fun h=>?_
 obtain ⟨k0,k1⟩:=h0 h
 refine bd gs fun v1 h1=>bd wr fun v2 h2=>?_
 have key:∀ p:Int,-128≤p→p<128→Ok (Zer s a n p) (fun r=>(r.2=0→0≤a∧a+n≤s.length∧Sg n r.1)∧(r.2≠0→r.1=0)):=fun p h h'=>by
  unfold Zer
  exact bd (L134x1 s a n p (by omega) hl k0 k1 ⟨h,h'⟩) fun q hq=>ok ⟨fun _=>⟨k0,k1,hq⟩,fun h=>absurd rfl h⟩
 exact brD (fun _=>bd wr fun v3 h3=>key v3 (by omega) (by omega)) fun _=>key v2 (by omega) (by omega)
def Us (n v:Int):Prop:=0≤v∧(n=1→v<256)∧(n=2→v<65536)∧(n=4→v<4294967296)
theorem Ze2 (s:List UInt8) (a n:Int) (hn:n=1∨n=2∨n=4) (hl:Str s):Ok (Z6y s a n) (fun r=>(r.2=0→0≤a∧a+n≤s.length)∧Us n r.1):=by
 unfold Z6y
 refine bd (Zx0 s a n hn hl) fun v h=>?_
 have h2:=h.2
 refine brE (fun he=>?_) fun he=>ok ⟨fun h'=>absurd h' he,by dsimp only; unfold Us; rw [h2 he]; omega⟩
 obtain ⟨h0,h1,hs⟩:=h.1 he
 unfold Sg at hs
 refine brD (fun _=>brD (fun hneg=>?_) fun hnn=>ok ⟨fun _=>⟨h0,h1⟩,by dsimp only; unfold Us; omega⟩) fun hlt=>absurd hlt (by omega)
 unfold Zpi
 rcases hn with rfl|rfl|rfl
 ·refine bd wr fun v1 e1=>?_
  subst e1
  rw [show Z6d .i64 1 (8*1)=some 256 by decide]
  exact bs (bd wr fun v3 e3=>ok ⟨fun _=>⟨h0,h1⟩,by dsimp only; unfold Us; omega⟩)
 ·refine bd wr fun v1 e1=>?_
  subst e1
  rw [show Z6d .i64 1 (8*2)=some 65536 by decide]
  exact bs (bd wr fun v3 e3=>ok ⟨fun _=>⟨h0,h1⟩,by dsimp only; unfold Us; omega⟩)
 ·refine bd wr fun v1 e1=>?_
  subst e1
  rw [show Z6d .i64 1 (8*4)=some 4294967296 by decide]
  exact bs (bd wr fun v3 e3=>ok ⟨fun _=>⟨h0,h1⟩,by dsimp only; unfold Us; omega⟩)
def Z4j (s:List UInt8) (r:Z17):Prop:=r.f_S=s∧0≤r.f_At∧r.f_At≤s.length
theorem Z3t (s:List UInt8) (r:Z17) (n:Int) (hn:n=1∨n=2∨n=4) (hl:Str s) (hr:Z4j s r):Ok (Z37 r n) (fun x=>Us n x.1∧Z4j s x.2):=by
 obtain ⟨h1,h2,h3⟩:=hr
 unfold Z37
 rw [h1]
 refine bd (Ze2 s r.f_At n hn hl) fun v hv=>br (fun _=>ok ⟨by dsimp only; unfold Us; omega,rfl,h2,h3⟩) fun _=>brN (fun _=>ok ⟨by dsimp only; unfold Us; omega,rfl,h2,h3⟩) fun he=>?_
 obtain ⟨k0,k1⟩:=hv.1 he
 exact bd wr fun v1 e1=>ok ⟨hv.2,rfl,by dsimp only; omega,by dsimp only; omega⟩
abbrev SL_:=Int×(List UInt8)×Int×Bool×(List Z0i)
def IL (s:List UInt8) (t:SL_):Prop:=Z4j s ⟨t.2.1,t.2.2.1,t.2.2.2.1⟩∧(t.2.2.2.2.length:Int)=t.1∧∀ v∈t.2.2.2.2,v.Z1r.Z0d=[]
def QL (s:List UInt8) (q:(List UInt8)×Int×Bool×(List Z0i)):Prop:=Z4j s ⟨q.1,q.2.1,q.2.2.1⟩∧q.2.2.2.length≤256∧∀ v∈q.2.2.2,v.Z1r.Z0d=[]
theorem Z85 {α:Type} {P:α→Prop} {l:List α} {x:α} (h:∀ v∈l,P v) (hx:P x):∀ v∈l++[x],P v:=fun v hv=>by
 rcases List.mem_append.1 hv with hv|hv
 ·exact h v hv
 ·rw [List.mem_singleton.1 hv]; exact hx
theorem Znr {s:List UInt8} {n p11 p13 p15:Int} {t0:SL_} {v5:Int×Z17} {p12:List UInt8} {p14:Bool} (hI:IL s t0) (hr:Z4j s ⟨p12,p13,p14⟩) (h0:0≤t0.1) (h1:t0.1<n) (hn:n≤256):Ok (Zc8 p11 t0 v5 p12 p13 p14 p15) (St (IL s) (fun t=>t.1) n (QL s) t0):=by
 unfold Zc8
 have:=hI.2.1
 refine bd gk fun _ _=>bd wr fun _ hv=>?_
 exact nx ⟨hr,by simp only [List.length_append,List.length_cons,List.length_nil]; omega,Z85 hI.2.2 rfl⟩
theorem Zx5 {s:List UInt8} (hs:Str s) {n p9 p11:Int} {t0:SL_} {v5:Int×Z17} {p8:List UInt8} {p10:Bool} (hI:IL s t0) (hr:Z4j s ⟨p8,p9,p10⟩) (h0:0≤t0.1) (h1:t0.1<n) (hn:n≤256):Ok (Zfh t0 v5 p8 p9 p10 p11) (St (IL s) (fun t=>t.1) n (QL s) t0):=by
 unfold Zfh
 refine brD (fun _=>brD (fun _=>?_) fun _=>Znr hI hr h0 h1 hn) fun _=>Znr hI hr h0 h1 hn
 unfold Zou
 exact bd (Z3t s _ 2 (by omega) hs hr) fun v hv=>Znr hI hv.2 h0 h1 hn
theorem Zui (s:List UInt8) (r:Z17) (hs:Str s) (hr:Z4j s r):Ok (Zfy r) (fun x=>(x.1.length≤256∧∀ v∈x.1,v.Z1r.Z0d=[])∧Z4j s x.2):=by
 unfold Zfy
 refine bd (Z3t s r 1 (by omega) hs hr) fun v0 h0=>bd (P:=QL s) ?_ fun q hq=>ok ⟨hq.2,hq.1⟩
 have hu:0≤v0.1∧v0.1<256:=⟨h0.1.1,h0.1.2.1 rfl⟩
 refine lp (fun t=>t.1) v0.1 (IL s) (fun t hI g0 g1=>?_) (by omega) ⟨h0.2,rfl,fun v hv=>by simp at hv⟩
 have hl:=hI.2.1
 have hd:QL s (t.2.1,t.2.2.1,t.2.2.2.1,t.2.2.2.2):=⟨hI.1,by dsimp only at *; omega,hI.2.2⟩
 unfold Zpf
 refine brD (fun hlt=>br! (fun _=>?_) fun _=>dn hd) fun _=>dn hd
 unfold Zna
 exact bd (Z3t s _ 1 (by omega) hs hI.1) fun v5 h5=>brE (fun _=>bd (Z3t s _ 2 (by omega) hs h5.2) fun v6 h6=>Zx5 hs hI h6.2 g0 hlt (by omega)) fun _=>Zx5 hs hI h5.2 g0 hlt (by omega)
def RdT {α:Type} (s:List UInt8) (B:Nat) (P:α→Prop) (q:(List UInt8)×Int×Bool×(List α)):Prop:=Z4j s ⟨q.1,q.2.1,q.2.2.1⟩∧q.2.2.2.length≤B∧∀ v∈q.2.2.2,P v
def RdI {α:Type} (s:List UInt8) (P:α→Prop) (t:Int×(List UInt8)×Int×Bool×(List α)):Prop:=Z4j s ⟨t.2.1,t.2.2.1,t.2.2.2.1⟩∧(t.2.2.2.2.length:Int)=t.1∧∀ v∈t.2.2.2.2,P v
theorem rdL {α:Type} {s:List UInt8} {P:α→Prop} {n p2:Int} {p1:List UInt8} {p3:Bool} (hn:0≤n∧n<65536) (hr:Z4j s ⟨p1,p2,p3⟩) {f:Int×(List UInt8)×Int×Bool×(List α)→Option (Ctl (Int×(List UInt8)×Int×Bool×(List α)) ((List UInt8)×Int×Bool×(List α)))}
  (h:∀ t,RdI s P t→0≤t.1→t.1≤n→RdT s 65536 P (t.2.1,t.2.2.1,t.2.2.2.1,t.2.2.2.2)→Ok (f t) (St (RdI s P) (fun t=>t.1) n (RdT s 65536 P) t)):Ok (Z06 f Z08 (0,p1,p2,p3,[])) (RdT s 65536 P):=
 lp (fun t=>t.1) n (RdI s P) (fun t hI g0 g1=>h t hI g0 g1 ⟨hI.1,by have:=hI.2.1; dsimp only at *; omega,hI.2.2⟩) (by omega) ⟨hr,rfl,fun v hv=>by simp at hv⟩ (by dsimp only; omega) hn.1
theorem L152x1 {s:List UInt8} (hs:Str s) {v7:Int×Z17} (h7:Us 2 v7.1∧Z4j s v7.2):Ok (Z06 (Zk3 v7) Z08 (0,v7.2.f_S,v7.2.f_At,v7.2.Z3l,[])) (RdT s 65536 fun v=>v.Z1r=[]):=by
 refine rdL (n:=v7.1) ⟨h7.1.1,h7.1.2.2.1 rfl⟩ h7.2 fun t hI g0 g1 hd=>?_
 have hl:=hI.2.1
 have:=h7.1.2.2.1 rfl
 unfold Zk3
 refine brD (fun hlt=>br! (fun _=>?_) fun _=>dn hd) fun _=>dn hd
 unfold Zpz
 refine bd (Z3t s _ 2 (by omega) hs hI.1) fun v1 h1=>bd (Z3t s _ 2 (by omega) hs h1.2) fun v2 h2=>bd (Z3t s _ 2 (by omega) hs h2.2) fun v3 h3=>bd (Z3t s _ 2 (by omega) hs h3.2) fun v4 h4=>?_
 refine bd gk fun _ _=>bd wr fun _ hv=>?_
 exact nx ⟨h4.2,by simp only [List.length_append,List.length_cons,List.length_nil]; omega,Z85 hI.2.2 rfl⟩
theorem L152x3 {s:List UInt8} (hs:Str s) {v7:Int×Z17} (h7:Us 2 v7.1∧Z4j s v7.2):Ok (Z06 (Zhr v7) Z08 (0,v7.2.f_S,v7.2.f_At,v7.2.Z3l,[])) (RdT s 65536 fun _=>True):=by
 refine rdL (n:=v7.1) ⟨h7.1.1,h7.1.2.2.1 rfl⟩ h7.2 fun t hI g0 g1 hd=>?_
 have hl:=hI.2.1
 have:=h7.1.2.2.1 rfl
 unfold Zhr
 refine brD (fun hlt=>br! (fun _=>?_) fun _=>dn hd) fun _=>dn hd
 unfold Zpt
 refine bd (Z3t s _ 2 (by omega) hs hI.1) fun v1 h1=>bd (Z3t s _ 2 (by omega) hs h1.2) fun v2 h2=>?_
 refine bd gk fun _ _=>bd wr fun _ hv=>?_
 exact nx ⟨h2.2,by simp only [List.length_append,List.length_cons,List.length_nil]; omega,Z85 hI.2.2 trivial⟩
def RFr (m:Z0p):Prop:=(m.Z1m.Z0t.length≤256∧∀ v∈m.Z1m.Z0t,v.Z1r.Z0d=[])∧m.Z1m.Z0x.length≤256∧∀ v∈m.Z1m.Z0x,v.Z1r.Z0d=[]
def QM (s:List UInt8) (q:(List UInt8)×Int×Bool×(List Z0p)×(List Int)):Prop:=Z4j s ⟨q.1,q.2.1,q.2.2.1⟩∧q.2.2.2.1.length≤65536∧q.2.2.2.2.length=q.2.2.2.1.length∧∀ v∈q.2.2.2.1,RFr v
def IM (s:List UInt8) (t:Int×(List UInt8)×Int×Bool×(List Z0p)×(List Int)):Prop:=Z4j s ⟨t.2.1,t.2.2.1,t.2.2.2.1⟩∧(t.2.2.2.2.1.length:Int)=t.1∧t.2.2.2.2.2.length=t.2.2.2.2.1.length∧∀ v∈t.2.2.2.2.1,RFr v
theorem L152x2 {s:List UInt8} (hs:Str s) {v7:Int×Z17} (h7:Us 2 v7.1∧Z4j s v7.2):Ok (Z06 (Zjd v7) Z08 (0,v7.2.f_S,v7.2.f_At,v7.2.Z3l,[],[])) (QM s):=by
 have:=h7.1.2.2.1 rfl
 have:=h7.1.1
 refine lp (fun t=>t.1) v7.1 (IM s) (fun t hI g0 g1=>?_) (by omega) ⟨h7.2,rfl,rfl,fun v hv=>by simp at hv⟩
 have hl:=hI.2.1
 have hl2:=hI.2.2.1
 have hd:QM s (t.2.1,t.2.2.1,t.2.2.2.1,t.2.2.2.2.1,t.2.2.2.2.2):=⟨hI.1,by dsimp only at *; omega,hI.2.2⟩
 unfold Zjd
 refine brD (fun hlt=>br! (fun _=>?_) fun _=>dn hd) fun _=>dn hd
 unfold Zq0
 refine bd (Z3t s _ 2 (by omega) hs hI.1) fun v1 h1=>bd (Z3t s _ 1 (by omega) hs h1.2) fun v2 h2=>bd (Zui s _ hs h2.2) fun v3 h3=>bd (Zui s _ hs h3.2) fun v4 h4=>?_
 refine bd gk fun _ _=>?_
 refine bd gk fun _ _=>bd wr fun _ hv=>?_
 exact nx ⟨h4.2,by simp only [List.length_append,List.length_cons,List.length_nil]; omega,by simp only [List.length_append,List.length_cons,List.length_nil]; omega,Z85 hI.2.2.2 ⟨h3.1,h4.1⟩⟩
structure TkOk (s:List UInt8) (t:Z3b):Prop where
 ins:t.f_C.Z0k=[]
 hnd:∀ h∈t.f_C.Z1z,h.Z1r=[]
 hndL:t.f_C.Z1z.length≤65536
 map:∀ m∈t.f_C.Z1k,RFr m
 mapL:t.f_C.Z1k.length≤65536
 raw:t.Zqj.length=t.f_C.Z1k.length
 lin:t.f_C.Z1u.length≤65536
 byt:t.Z2h.length≤s.length
theorem Y5l (s:List UInt8) (hs:Str s):Ok (Zgq s) (fun r=>TkOk s r.1):=by
 unfold Zgq
 refine bd (Z3t s _ 2 (by omega) hs ⟨rfl,by dsimp only; omega,by dsimp only; omega⟩) fun v0 h0=>bd (Z3t s _ 2 (by omega) hs h0.2) fun v1 h1=>bd (Z3t s _ 4 (by omega) hs h1.2) fun v2 h2=>?_
 have h5:Ok (Zds v0 v1 v2) (fun r=>TkOk s r.1):=by
  unfold Zds
  exact ok ⟨rfl,fun h hh=>by simp at hh,by simp,fun h hh=>by simp at hh,by simp,rfl,by simp,by simp⟩
 obtain ⟨k1,k2,k3⟩:=h2.2
 have k4:=h2.1.1
 have k5:=h2.1.2.2.2 rfl
 refine br (fun _=>h5) fun _=>bd wr fun v3 h3=>brD (fun _=>h5) fun hle=>?_
 unfold Zov
 refine bd wr fun v4 h4=>bd (sb (by omega) (by omega) (by omega)) fun v5 h5=>bd wr fun v6 h6=>?_
 refine bd (Z3t s _ 2 (by omega) hs ⟨k1,by dsimp only; omega,by dsimp only; omega⟩) fun v7 h7=>bd (L152x1 hs h7) fun q0 hq0=>bd (Z3t s _ 2 (by omega) hs hq0.1) fun v24 h24=>bd (L152x2 hs h24) fun q2 hq2=>bd (Z3t s _ 2 (by omega) hs hq2.1) fun v44 h44=>bd (L152x3 hs h44) fun q4 hq4=>?_
 exact ok ⟨rfl,hq0.2.2,hq0.2.1,hq2.2.2.2,hq2.2.1,hq2.2.2.1,hq4.2.1,by have:=h5.1; dsimp only; omega⟩
end Go.Proofs
set_option linter.unusedVariables false
namespace Go.Proofs
open Go.Den Go.Tot
theorem is_eq (x:Int):Zac x=some (decide (0≤x∧x<81)):=by
 unfold Zac
 by_cases h:x≥0
 ·rw [if_pos (by simpa using h)]; congr 1; simp [h]
 ·rw [if_neg (by simpa using h)]; congr 1; simp; omega
theorem Zqg (x a b:Int):Z6m x a b=some (decide (a≤x∧x≤b)):=by
 unfold Z6m
 by_cases h:x≥a
 ·rw [if_pos (by simpa using h)]; congr 1; simp [h]
 ·rw [if_neg (by simpa using h)]; congr 1; simp; omega
def KindP (x k:Int):Prop:=(k=3↔36≤x∧x≤52)∧(k=6↔x=53)∧(k=7↔x=54)∧(k= -1↔ ¬(0≤x∧x<81))∧ -1≤k∧k≤7
theorem Zg5 (x:Int):Ok (Z6n x) (KindP x):=by
 unfold Z6n Zkh Zi8
 simp only [is_eq,Zqg]
 unfold KindP
 repeat' first
  | with_reducible refine br! (fun _=>?_) fun _=>?_
  | with_reducible refine brD (fun _=>?_) fun _=>?_
  | with_reducible refine brE (fun _=>?_) fun _=>?_
  | with_reducible refine bs ?_
  | with_reducible refine ok ?_
  | (have h0:=of_decide_eq_true (by assumption:decide (0≤x∧x<81)=true); refine ⟨?_,?_,?_,?_,?_,?_⟩ <;> omega)
  | (have h0:=of_decide_eq_false (by assumption:decide (0≤x∧x<81)=false); refine ⟨?_,?_,?_,?_,?_,?_⟩ <;> omega)
theorem Zsu (x:Int):Zcp x=some (decide (36≤x∧x≤54)):=by
 unfold Zcp; rw [Zqg]; rfl
theorem Y5c (x:Z01) (hx:Z2q x):Ok (Z06 (Zbs x) Z08 0) (fun q=>match q with|.inl _=>∀ v∈x.Z0b,0≤v∧v<1000|.inr b=>b=false):=by
 have:=hx.tos
 refine lp (fun t=>t) x.Z0b.length (fun t=>∀ (j:Nat) v,(j:Int)<t→x.Z0b[j]?=some v→0≤v∧v<1000) (fun t hI h0 h1=>?_) (by omega) (fun j v h=>by omega) (by omega) (by omega)
 unfold Zbs
 refine brD (fun hlt=>?_) fun hge=>dn fun v hv=>?_
 ·obtain ⟨y,hy,hm,hi⟩:=gri (l:=x.Z0b) (i:=t) (by omega) hlt
  rw [hy]
  refine bs (brD (fun _=>dn rfl) fun _=>bs (brD (fun _=>dn rfl) fun _=>bd wr fun v2 h2=>nx (fun j v hj hv=>?_) (by omega) (by omega)))
  rcases Int.lt_or_le (j:Int) t with hlt|hge
  ·exact hI j v hlt hv
  ·have:j=t.toNat:=by omega
   subst this
   rw [hi] at hv; cases hv
   omega
 ·obtain ⟨j,hj⟩:=List.mem_iff_getElem?.1 hv
  exact hI j v (by have:=(List.getElem?_eq_some_iff.1 hj).1; omega) hj
theorem aims_ok (x:Z01) (hx:Z2q x):Ok (Z7s x) (fun b=>b=true→0≤x.f_To∧x.f_To<1000∧∀ v∈x.Z0b,0≤v∧v<1000):=by
 unfold Z7s
 refine brD (fun _=>ok fun h=>by cases h) fun _=>brD (fun _=>ok fun h=>by cases h) fun _=>?_
 unfold Zhq
 refine bd (Y5c x hx) fun q hq=>?_
 cases q with
 | inl _=>exact ok fun _=>⟨by omega,by omega,hq⟩
 | inr b=>exact ok fun h=>by cases hq.symm.trans h
theorem keys_ok (x:Z01) (hx:Z2q x):Ok (Zcr x) (fun e=>e=0→(x.f_Op=53→1≤x.Z0b.length∧x.Z0b.length≤64)∧(x.f_Op≠53→x.Z0r.length≤64∧x.Z0b.length=x.Z0r.length)):=by
 have:=hx.tos
 have:=hx.keys
 unfold Zcr Zie Zkx
 refine brE (fun _=>brE (fun _=>ok (by omega)) fun _=>brD (fun _=>ok (by omega)) fun _=>bd (Zod _) fun v h=>br! (fun _=>ok (by omega)) fun _=>bd wr fun _ _=>bd wr fun _ _=>brD (fun _=>ok (by omega)) fun _=>ok (by omega)) fun _=>?_
 refine brD (fun _=>ok (by omega)) fun _=>brN (fun _=>ok (by omega)) fun _=>bd (Zwv x hx) fun q _=>?_
 have h:∀ e:Int,Ok (some e) (fun e=>e=0→(x.f_Op=53→1≤x.Z0b.length∧x.Z0b.length≤64)∧(x.f_Op≠53→x.Z0r.length≤64∧x.Z0b.length=x.Z0r.length)):=fun e=>ok fun _=>⟨by omega,by omega⟩
 cases q with
 | inl _ => refine bd (Zyt x hx) fun q _=>?_
            cases q <;> exact h _
 | inr _=>exact h _
structure Z3u (x:Z01):Prop where
 op:0≤x.f_Op∧x.f_Op<81
 tab:x.f_Op=53→1≤x.Z0b.length∧x.Z0b.length≤64
 look:x.f_Op=54→x.Z0r.length≤64∧x.Z0b.length=x.Z0r.length
 aim:36≤x.f_Op→x.f_Op≤54→0≤x.f_To∧∀ v∈x.Z0b,0≤v
 few:x.f_Op≠53→x.f_Op≠54→x.Z0b=[]
theorem used_ok (x:Z01) (k:Int):Ok (Zbw x k) (fun b=>b=true→k≠6→k≠7→x.Z0b.length=0):=by
 unfold Zbw Zkc Zdd Ze7
 repeat' first
  | with_reducible refine br! (fun _=>?_) fun _=>?_
  | with_reducible refine brE (fun _=>?_) fun _=>?_
  | with_reducible refine brN (fun _=>?_) fun _=>?_
  | with_reducible refine ok ?_
  | (intro hb h6 h7; first|(cases hb; done)|(simp only [beq_iff_eq] at *; omega))
theorem Ze1 (x:Z01) (hx:Z2q x):Ok (Z4q x) (fun e=>e=0→Z3u x):=by
 unfold Z4q
 refine bd (Zg5 x.f_Op) fun k hk=>brD (fun _=>ok (by omega)) fun hk0=>bd (used_ok x k) fun b hb=>br! (fun _=>ok (by omega)) fun hu=>?_
 obtain ⟨k3,k6,k7,km,k0,k1⟩:=hk
 have hfew:=hb hu
 have h5:(k=6∨k=7)→(0≤x.f_To∧∀ v∈x.Z0b,0≤v)→Ok (Zbf x) (fun e=>e=0→Z3u x):=fun h ha=>by
  unfold Zbf
  exact bd (keys_ok x hx) fun v hv=>ok fun he=>⟨by omega,fun h=>(hv he).1 h,fun h=>(hv he).2 (by omega),fun _ _=>ha,fun _ _=>by omega⟩
 have h4:(k=3∨k=6∨k=7→0≤x.f_To∧∀ v∈x.Z0b,0≤v)→Ok (Z8r k x) (fun e=>e=0→Z3u x):=fun ha=>by
  unfold Z8r
  exact brE (fun h=>h5 (.inl h) (ha (.inr (.inl h)))) fun h6=>brE (fun h=>h5 (.inr h) (ha (.inr (.inr h)))) fun h7=>ok fun _=>⟨by omega,by omega,by omega,fun h h'=>ha (by omega),fun _ _=>List.eq_nil_of_length_eq_zero (hfew h6 h7)⟩
 have ha:Ok (Z7s x) (fun b=>b=true→0≤x.f_To∧∀ v∈x.Z0b,0≤v):=(aims_ok x hx).mono fun b h hb=>⟨(h hb).1,fun v hv=>((h hb).2.2 v hv).1⟩
 have h3:Ok (Zb7 k x) (fun e=>e=0→Z3u x):=by
  unfold Zb7
  refine brE (fun _=>bd ha fun b hb=>br! (fun _=>ok (by omega)) fun h=>h4 fun _=>hb h) fun h3=>brE (fun _=>bd ha fun b hb=>br! (fun _=>ok (by omega)) fun h=>h4 fun _=>hb h) fun h6=>brE (fun _=>bd ha fun b hb=>br! (fun _=>ok (by omega)) fun h=>h4 fun _=>hb h) fun h7=>h4 fun h=>by omega
 have h2:Ok (Z9s k x) (fun e=>e=0→Z3u x):=by
  unfold Z9s
  exact brE (fun _=>brD (fun _=>ok (by omega)) fun _=>brD (fun _=>ok (by omega)) fun _=>h3) fun _=>h3
 have h1:Ok (Z92 k x) (fun e=>e=0→Z3u x):=by
  unfold Z92
  exact brE (fun _=>brD (fun _=>ok (by omega)) fun _=>brD (fun _=>ok (by omega)) fun _=>h2) fun _=>brE (fun _=>brD (fun _=>ok (by omega)) fun _=>brD (fun _=>ok (by omega)) fun _=>h2) fun _=>h2
 repeat' first
  | exact h1
  | with_reducible refine brE (fun _=>?_) fun _=>?_
  | with_reducible refine brD (fun _=>?_) fun _=>?_
  | exact ok (by omega)
theorem Zxn (x:Int):Ok (Zeu x) (fun n=>0≤n∧n≤3∧(0≤x→x<81→x≠53→x≠54→1≤n)):=by
 unfold Zeu Zn8 Zn1 Znx
 refine bd (Zg5 x) fun k hk=>?_
 obtain ⟨k3,k6,k7,km,k0,k1⟩:=hk
 repeat' first
  | with_reducible refine brE (fun _=>?_) fun _=>?_
  | with_reducible refine ok ?_
  | exact ⟨by omega,by omega,by omega⟩
theorem Zzy (x:Z01) (hx:Z2q x) (hc:Z3u x):Ok (Zi6 x) (fun n=>0≤n∧n≤400):=by
 have:=hx.tos
 have:=hx.keys
 have:=hc.tab
 have:=hc.look
 unfold Zi6
 exact brE (fun _=>bd wr fun _ _=>bd wr fun _ _=>ok (by omega)) fun _=>brE (fun _=>bd wr fun _ _=>bd wr fun _ _=>ok (by omega)) fun _=>bd (Zxn _) fun n hn=>ok (by omega)
theorem L60x1 (l:List Z01) (hl:∀ i∈l,Z2q i) (hn:l.length≤140737488355328):Ok (Z06 (Zbx l) Z08 0) (fun q=>match q with|.inl _=>∀ i∈l,Z3u i|.inr y=>y.2≠0∧y.1=[]):=by
 refine lp (fun t=>t) l.length (fun t=>∀ (j:Nat) v,(j:Int)<t→l[j]?=some v→Z3u v) (fun t hI h0 h1=>?_) (by omega) (fun j v h=>by omega) (by omega) (by omega)
 unfold Zbx
 refine brD (fun hlt=>?_) fun hge=>dn fun v hv=>?_
 ·refine bd gri fun i hi=>bd (Ze1 i (hl i hi.1)) fun e he=>brN (fun h=>dn ⟨h,rfl⟩) fun h=>bd wr fun v2 h2=>nx (fun j v hj hv=>?_) (by omega) (by omega)
  rcases Int.lt_or_le (j:Int) t with hlt|hge
  ·exact hI j v hlt hv
  ·have:j=t.toNat:=by omega
   subst this
   rw [hi.2] at hv; cases hv
   exact he h
 ·obtain ⟨j,hj⟩:=List.mem_iff_getElem?.1 hv
  exact hI j v (by have:=(List.getElem?_eq_some_iff.1 hj).1; omega) hj
theorem Zqh (l:List Z01) (hl:∀ i∈l,Z2q i) (hn:l.length≤140737488355328):Ok (Z66 l) (fun r=>(r.2=0→r.1.length=l.length+1∧l.length≤1000∧∀ i∈l,Z3u i)∧r.1.length≤1001):=by
 unfold Z66
 refine bd (L60x1 l hl hn) fun q hq=>?_
 cases q with
 | inr y=>exact ok ⟨fun h=>absurd h hq.1,by rw [hq.2]; simp⟩
 | inl _=>
  refine brD (fun _=>ok ⟨by omega,by simp⟩) fun hs=>?_
  refine bd (P:=fun r=>r.length=l.length+1) ?_ fun q2 hq2=>bd ik fun j hj=>bd (la (by omega)) fun _ _=>brD (fun _=>ok ⟨by omega,by simp⟩) fun _=>ok ⟨fun _=>⟨hq2,by omega,hq⟩,by dsimp only; omega⟩
  refine lp (fun t=>t.1) l.length (fun t=>(t.2.length:Int)=t.1+1∧∀ v∈t.2,0≤v∧v≤400*t.1) (fun t hI h0 h1=>?_) (by omega) ⟨rfl,by simp⟩
  obtain ⟨hI1,hI2⟩:=hI
  unfold Zky
  refine brD (fun hlt=>?_) fun hge=>dn (by omega)
  refine bd ik fun j hj=>bd (la (by omega)) fun v hv=>bd gr fun i hi=>bd (Zzy i (hl i hi) (hq i hi)) fun n hn=>?_
  have hv2:=hI2 v hv.2
  refine bd wr fun w hw=>bd gk fun _ _=>bd wr fun k hk=>?_
  refine nx ⟨by simp only [List.length_append,List.length_cons,List.length_nil]; omega,Z85 (fun v hv=>?_) ?_⟩
  ·have:=hI2 v hv; dsimp only; omega
  ·dsimp only; omega
theorem Z6v (s:List UInt8) (a n:Int) (hn:n=1∨n=2∨n=4) (hs:Str s):Ok (Z5w s a n) (Us n):=bd (Ze2 s a n hn hs) fun v h=>ok h.2
theorem Zij (s:List UInt8) (a n:Int) (hn:n=1∨n=2∨n=4) (hs:Str s):Ok (Zci s a n) (fun _=>True):=bd (Zx0 s a n hn hs) fun v h=>ok trivial
theorem need_ok (s:List UInt8) (a op:Int) (hs:Str s) (h0:0≤a) (h1:a≤s.length) (ho:0≤op) (h81:op<81):Ok (Zex s a op) (fun n=>n<0∨(1≤n∧a+n≤s.length)):=by
 have h4:∀ p:Int,1≤p→p≤1000000→Ok (Zge s a p) (fun n=>n<0∨(1≤n∧a+n≤s.length)):=fun p hp hp'=>by
  unfold Zge
  exact bd wr fun v hv=>brD (fun _=>ok (by omega)) fun _=>ok (by omega)
 have h2:∀ p q:Int,5≤p→p≤9→0≤q→q≤6→Ok (Zg3 s a p q) (fun n=>n<0∨(1≤n∧a+n≤s.length)):=fun p q hp hp' hq hq'=>by
  unfold Zg3 Zmy
  refine bd wr fun v1 e1=>bd wr fun v2 e2=>bd (Ze2 s v2 2 (by omega) hs) fun v3 e3=>bd wr fun v4 e4=>brD (fun _=>ok (by omega)) fun _=>brN (fun _=>ok (by omega)) fun _=>?_
  have hu:=e3.2.2.2.1 rfl
  have hu0:=e3.2.1
  have hm:0≤q*v3.1∧q*v3.1≤6*65536:=⟨Int.mul_nonneg hq hu0,Int.le_trans (Int.mul_le_mul_of_nonneg_right hq' hu0) (by omega)⟩
  exact bd wr fun v5 e5=>bd wr fun v6 e6=>h4 v6 (by omega) (by omega)
 unfold Zex Zkp
 exact bd (Zxn op) fun n hn=>brE (fun _=>brE (fun _=>h2 5 6 (by omega) (by omega) (by omega) (by omega)) fun _=>h2 9 2 (by omega) (by omega) (by omega) (by omega)) fun _=>brE (fun _=>brE (fun _=>h2 5 6 (by omega) (by omega) (by omega) (by omega)) fun _=>h2 9 2 (by omega) (by omega) (by omega) (by omega)) fun _=>h4 n (by omega) (by omega)
theorem L164x1 (n:Int) (s:List UInt8) (a:Int) (hs:Str s) (h0:0≤a) (h1:a≤s.length) (hn:0≤n) (hn':n<65536):Ok (Z06 (Zjc n s a) Z08 (0,([]:List Int))) (fun r=>r.length≤65536):=by
 refine lp (fun t=>t.1) n (fun t=>(t.2.length:Int)=t.1) (fun t hI g0 g1=>?_) (by omega) rfl
 unfold Zjc
 refine brD (fun hlt=>bd wr fun v1 e1=>bd wr fun v2 e2=>bd wr fun v3 e3=>bd (Z6v s v3 2 (by omega) hs) fun v4 e4=>?_) fun _=>dn (by omega)
 exact bd gk fun _ _=>bd wr fun k hk=>nx (by simp only [List.length_append,List.length_cons,List.length_nil]; omega)
theorem L164x2 (n:Int) (s:List UInt8) (a:Int) (hs:Str s) (h0:0≤a) (h1:a≤s.length) (hn:0≤n) (hn':n<65536):Ok (Z06 (Zl3 n s a) Z08 (0,([]:List Int),([]:List Int))) (fun r=>r.1.length≤65536∧r.2.length≤65536):=by
 refine lp (fun t=>t.1) n (fun t=>(t.2.1.length:Int)=t.1∧(t.2.2.length:Int)=t.1) (fun t hI g0 g1=>?_) (by omega) ⟨rfl,rfl⟩
 unfold Zl3
 refine brD (fun hlt=>bd wr fun v1 e1=>bd wr fun v2 e2=>bd wr fun v3 e3=>bd (Zij s v3 4 (by omega) hs) fun v4 e4=>?_) fun _=>dn (by dsimp only at *; omega)
 refine bd gk fun _ _=>bd wr fun _ _=>bd wr fun _ _=>bd wr fun v5 _=>bd (Z6v s v5 2 (by omega) hs) fun _ _=>?_
 exact bd gk fun _ _=>bd wr fun k hk=>nx (by simp only [List.length_append,List.length_cons,List.length_nil]; omega)
def TkI (i:Z01):Prop:=i.Z0r.length≤65536∧i.Z0b.length≤65536∧i.Z1e={ Z0w:=[],Z0d:=[],Z16:=[] }∧i.f_S=[]
theorem TkI.w {i:Z01} (h:TkI i):Z2q i:=⟨by have:=h.1; omega,by have:=h.2.1; omega,by rw [h.2.2.1]; exact ⟨by simp,by simp,by simp⟩,by rw [h.2.2.2]; simp⟩
theorem take_ok (s:List UInt8) (a op:Int) (hs:Str s) (h0:0≤a) (h1:a≤s.length):Ok (Zip s a op) TkI:=by
 unfold Zip
 have z:∀ x y w v,TkI { f_Op:=x,f_A:=y,f_B:=w,f_To:=v,Z0r:=[],Z0b:=[],Z1e:={ Z0w:=[],Z0d:=[],Z16:=[] },f_S:=[] }:=fun _ _ _ _=>⟨by simp,by simp,rfl,rfl⟩
 refine bd (Zg5 op) fun k _=>brE (fun _=>?_) fun _=>brE (fun _=>?_) fun _=>brE (fun _=>?_) fun _=>brE (fun _=>?_) fun _=>brE (fun _=>?_) fun _=>brE (fun _=>?_) fun _=>brE (fun _=>?_) fun _=>ok (z _ _ _ _)
 ·exact bd wr fun _ _=>bd (Zij s _ 1 (by omega) hs) fun _ _=>ok (z _ _ _ _)
 ·exact bd wr fun _ _=>bd (Z6v s _ 2 (by omega) hs) fun _ _=>ok (z _ _ _ _)
 ·exact bd wr fun _ _=>bd (Z6v s _ 2 (by omega) hs) fun _ _=>ok (z _ _ _ _)
 ·exact bd wr fun _ _=>bd (Z6v s _ 1 (by omega) hs) fun _ _=>ok (z _ _ _ _)
 ·exact bd wr fun _ _=>bd (Z6v s _ 1 (by omega) hs) fun _ _=>bd wr fun _ _=>bd (Zij s _ 1 (by omega) hs) fun _ _=>ok (z _ _ _ _)
 ·refine bd wr fun _ _=>bd (Z6v s _ 2 (by omega) hs) fun _ _=>bd wr fun _ _=>bd (Zij s _ 4 (by omega) hs) fun _ _=>bd wr fun _ _=>bd (Z6v s _ 2 (by omega) hs) fun n hn=>?_
  exact bd (L164x1 n s a hs h0 h1 hn.1 (hn.2.2.1 rfl)) fun q hq=>ok ⟨by simp,hq,rfl,rfl⟩
 ·refine bd wr fun _ _=>bd (Z6v s _ 2 (by omega) hs) fun _ _=>bd wr fun _ _=>bd (Z6v s _ 2 (by omega) hs) fun n hn=>?_
  exact bd (L164x2 n s a hs h0 h1 hn.1 (hn.2.2.1 rfl)) fun q hq=>ok ⟨hq.1,hq.2,rfl,rfl⟩
theorem Zva (l:List Int) (x:Int) (hl:l.length≤140737488355328):Ok (Zbq l x) (fun k=>k<l.length):=by
 unfold Zbq
 refine bd (P:=fun q:Unit⊕Int=>match q with|.inl _=>True|.inr y=>y<l.length) (li l.length (fun t h0 h1=>?_) (by omega) (by omega) (by omega)) fun q hq=>?_
 ·unfold Zpm
  exact brD (fun _=>bd gr fun v _=>br (fun _=>di (by assumption)) fun _=>bd wr fun _ _=>ni (by omega) (by omega)) fun _=>di trivial
 ·cases q with
  | inl _=>exact ok (by omega)
  | inr y=>exact ok hq
theorem L153x1 (s:List UInt8) (hs:s.length≤20000):Ok (Z06 (Zgj s) Z08 (0,([]:List Z01),([]:List Int))) (fun q=>match q with|.inl q=>(∀ i∈q.1,TkI i)∧q.1.length≤20000∧q.2.length≤20000|.inr y=>y.2≠0):=by
 refine lp (fun t=>t.1) s.length (fun t=>(∀ i∈t.2.1,TkI i)∧(t.2.1.length:Int)≤t.1∧(t.2.2.length:Int)≤t.1) (fun t hI h0 h1=>?_) (by omega) ⟨Z40,by simp,by simp⟩
 obtain ⟨hI1,hI2,hI3⟩:=hI
 unfold Zgj
 refine brD (fun hlt=>?_) fun _=>dn ⟨hI1,by dsimp only at *; omega,by dsimp only at *; omega⟩
 refine bd gs fun v hv=>bd wr fun op hop=>brD (fun _=>dn (by simp)) fun _=>bd (need_ok s t.1 op (by unfold Str; omega) h0 (by omega) (by omega) (by omega)) fun n hn=>brD (fun _=>dn (by simp)) fun _=>?_
 refine bd (take_ok s t.1 op (by unfold Str; omega) h0 (by omega)) fun i hi=>?_
 refine bd gk fun _ _=>?_
 refine bd gk fun _ _=>bd wr fun k hk=>?_
 exact nx ⟨Z85 hI1 hi,by simp only [List.length_append,List.length_cons,List.length_nil]; omega,by simp only [List.length_append,List.length_cons,List.length_nil]; omega⟩
theorem L153x3 (ps:List Int) (l:List Int) (hp:ps.length≤20000) (hl:l.length≤65536):Ok (Z06 (Z8e ps l.length) Z08 (0,l)) (fun q=>match q with|.inl r=>r.length=l.length|.inr y=>y.2≠0):=by
 refine lp (fun t=>t.1) l.length (fun t=>t.2.length=l.length) (fun t hI h0 h1=>?_) (by omega) rfl
 unfold Z8e
 refine brD (fun hlt=>?_) fun _=>dn hI
 refine bd ik fun j hj=>bd (la (by omega)) fun v hv=>bd (Zva ps v (by omega)) fun y hy=>bd (la (by rw [List.length_set]; omega)) fun z hz=>brD (fun _=>dn (by simp)) fun _=>bd wr fun k hk=>?_
 exact nx (by dsimp only; rw [List.length_set]; exact hI)
theorem L153x2 (ps:List Int) (l:List Z01) (hp:ps.length≤20000) (hl:∀ i∈l,TkI i) (hn:l.length≤20000):Ok (Z06 (Zf6 ps) Z08 (0,l)) (fun q=>match q with|.inl r=>(∀ i∈r,TkI i)∧r.length=l.length|.inr y=>y.2≠0):=by
 refine lp (fun t=>t.1) l.length (fun t=>(∀ i∈t.2,TkI i)∧t.2.length=l.length) (fun t hI h0 h1=>?_) (by omega) ⟨hl,rfl⟩
 obtain ⟨hI1,hI2⟩:=hI
 unfold Zf6
 refine brD (fun hlt=>?_) fun _=>dn ⟨hI1,hI2⟩
 refine bd ik fun j hj=>bd (la (by omega)) fun v hv=>?_
 rw [Zsu]
 refine bs (br! (fun _=>bd wr fun k hk=>nx ⟨hI1,hI2⟩) fun _=>?_)
 have hi:=hI1 v hv.2
 refine bd (Zva ps _ (by omega)) fun y hy=>brD (fun _=>dn (by simp)) fun _=>bd (L153x3 ps v.Z0b hp hi.2.1) fun q hq=>?_
 cases q with
 | inr y=>exact dn hq
 | inl r=>
  refine bd wr fun k hk=>nx ⟨fun i hi'=>?_,by dsimp only; rw [List.length_set]; exact hI2⟩
  rcases List.mem_or_eq_of_mem_set hi' with h|rfl
  ·exact hI1 i h
  ·exact ⟨hi.1,by have:=hi.2.1; dsimp only at *; omega,hi.2.2.1,hi.2.2.2⟩
theorem dec_ok (s:List UInt8):Ok (Zcs s) (fun r=>r.2=0→(∀ i∈r.1,TkI i)∧r.1.length≤20000):=by
 unfold Zcs
 refine brD (fun _=>ok (by simp)) fun hs=>bd (L153x1 s (by omega)) fun q hq=>?_
 cases q with
 | inr y=>exact ok fun h=>absurd h hq
 | inl q=>
  obtain ⟨h1,h2,h3⟩:=hq
  refine brD (fun _=>ok (by simp)) fun _=>bd (L153x2 q.2 q.1 h3 h1 h2) fun q7 hq7=>?_
  cases q7 with
  | inr y=>exact ok fun h=>absurd h hq7
  | inl l=>
   obtain ⟨k1,k2⟩:=hq7
   refine bd (P:=fun q:Unit⊕(List Z01×Int)=>match q with|.inl _=>True|.inr y=>y.2≠0) (li l.length (fun t h0 h1=>?_) (by omega) (by omega) (by omega)) fun q9 hq9=>?_
   ·unfold Zgr
    exact brD (fun _=>bd ik fun j hj=>bd (la (by omega)) fun v hv=>bd (Ze1 v (k1 v hv.2).w) fun e _=>brN (fun h=>di h) fun _=>bd wr fun _ _=>ni (by omega) (by omega)) fun _=>di trivial
   ·cases q9 with
    | inl _=>exact ok fun _=>⟨k1,by dsimp only; omega⟩
    | inr y=>exact ok fun h=>absurd h hq9
end Go.Proofs
set_option linter.unusedVariables false
namespace Go.Proofs
open Go.Den Go.Tot
theorem runeLen (n:Int):(Zpr n).length≤4:=by
 unfold Zpr Utf8.encode
 dsimp only
 repeat' split
 all_goals simp [ByteArray.push]
theorem Zvb (y:Z0h) (ht:Str y.Z0d):Ok (Z7y y) (fun b=>b=true→0≤y.Z0y∧y.Z0y≤8∧y.Z0d.length≤64):=by
 unfold Z7y
 repeat' first
  | unfold Zk9
  | unfold Zgw
  | unfold Zjb
  | with_reducible refine brD (fun _=>?_) fun _=>?_
  | with_reducible refine br (fun _=>?_) fun _=>?_
  | with_reducible refine bd (Zk8 _ (by first|assumption|omega|exact And.left (by assumption)|(dsimp only; omega))) fun _ _=>?_
  | with_reducible refine ok ?_
  | ((intro hb; first|(cases hb; done)|exact ⟨by omega,by omega,by simp_all⟩))
theorem L136x1 (y:Z0h) (h0:0≤y.Z0y) (h8:y.Z0y≤8):Ok (Z06 (Zkz y) Z08 ([],0)) (fun r=>r.length≤8):=by
 refine lp (fun s=>s.2) (y.Z0y) (fun s=>(s.1.length:Int)=s.2) (fun t hI _ _=>?_) (by omega) (by simp) (by omega) (by omega)
 try dsimp only at*
 unfold Zkz
 repeat' first
  | with_reducible refine nx ?_ ?_ ?_
  | with_reducible refine dn ?_
  | with_reducible refine brD (fun _=>?_) fun _=>?_
  | with_reducible refine bd wr fun _ _=>?_
  | with_reducible refine bd (ct (by first|omega|(simp only [List.length_cons,List.length_nil]; omega))) fun _ _=>?_
  | ((simp only [*,List.length_append,List.length_cons,List.length_nil]; omega))
  | omega
theorem Y44 (y:Z0h) (ht:Str y.Z0d):Ok (Zla y) (fun r=>r.1.length≤100):=by
 have:=runeLen (IntKind.wrap .i32 y.Z1b)
 unfold Zla
 repeat' first
  | with_reducible refine bd (Zvb _ ht) fun _ hv=>?_
  | with_reducible refine br! (fun _=>?_) fun hb=>?_
  | with_reducible refine bd (L136x1 _ (hv hb).1 (hv hb).2.1) fun _ _=>?_
  | with_reducible refine brE (fun _=>?_) fun _=>?_
  | with_reducible refine bd (ct (by have:=(hv hb).2.2; first|omega|(simp only [List.length_cons,List.length_nil]; omega))) fun _ _=>?_
  | with_reducible refine bs ?_
  | with_reducible refine ok ?_
  | (first|(simp; done)|(dsimp only; have:=(hv hb).2.2; simp only [List.length_cons,List.length_nil] at *; omega))
  | (dsimp only; omega)
theorem L106x1 (p:List Z00) (e:Int) (l:List Z0i) (hp:Z14 p) (hl:∀ v∈l,Str v.Z1r.Z0d) (hn:l.length*56≤140737488355328):Ok (Z06 (Ze0 l) Z08 (0,p,e,([]:List Z0i))) (fun q=>Z14 q.1∧(∀ v∈q.2.2,Str v.Z1r.Z0d)∧q.2.2.length=l.length):=by
 refine lp (fun t=>t.1) (l.length) (fun t=>Z14 t.2.1∧(∀ v∈t.2.2.2,Str v.Z1r.Z0d)∧(t.2.2.2.length:Int)=t.1) (fun t hI _ _=>?_) (by omega) (by exact ⟨hp,Z40,rfl⟩) (by omega) (by omega)
 try dsimp only at*
 unfold Ze0
 obtain ⟨hI1,hI2,hI3⟩:=hI
 repeat' first
  | with_reducible refine nx ?_ ?_ ?_
  | with_reducible refine dn ?_
  | unfold Zag
  | unfold Z6w
  | with_reducible refine brD (fun _=>?_) fun _=>?_
  | with_reducible refine brE (fun _=>?_) fun _=>?_
  | with_reducible refine bd gr fun _ _=>?_
  | with_reducible refine bd wr fun _ _=>?_
  | with_reducible refine bd gk fun _ _=>?_
  | with_reducible refine bd (Y44 _ (by exact hl _ (by assumption))) fun _ _=>?_
  | with_reducible refine bd (Z7e _ _ (by first|assumption|omega) (by first|assumption|omega)) fun _ _=>?_
  | (first|exact Z61 hI2 (by first|exact hl _ (by assumption)|exact Nat.zero_le _))
  | with_reducible refine And.intro ?_ ?_
  | (simp only [List.length_set,List.length_append,List.length_cons,List.length_nil,List.length_replicate]; omega)
theorem Zzg (x:Z0j) (l:List Z0i) (hp:Z14 x.f_P) (hl:∀ v∈l,Str v.Z1r.Z0d) (hn:l.length*56≤140737488355328):Ok (Zaf x l) (fun r=>Z14 r.1.f_P∧(∀ v∈r.2,Str v.Z1r.Z0d)∧r.2.length=l.length):=by
 unfold Zaf
 repeat' first
  | with_reducible refine bd (L106x1 _ _ _ (by first|assumption|omega|exact And.left (by assumption)|(dsimp only; omega)) (by first|assumption|omega|exact And.left (by assumption)|(dsimp only; omega)) (by first|assumption|omega|exact And.left (by assumption)|(dsimp only; omega))) fun _ _=>?_
  | with_reducible refine ok ?_
  | assumption
  | (obtain ⟨_,_⟩:=‹_∧_›)
theorem L78x1 (p:List Z00) (e:Int) (c:Z0a) (hp:Z14 p) (hc:Z4v c):Ok (Z06 (Zf2 c) Z08 (0,p,e,([]:List Z01))) (fun q=>Z14 q.1∧(∀ v∈q.2.2,Z2q v)∧q.2.2.length=c.Z0k.length):=by
 have:=hc.insL
 refine lp (fun t=>t.1) (c.Z0k.length) (fun t=>Z14 t.2.1∧(∀ v∈t.2.2.2,Z2q v)∧(t.2.2.2.length:Int)=t.1) (fun t hI _ _=>?_) (by omega) (by exact ⟨hp,Z40,rfl⟩) (by omega) (by omega)
 try dsimp only at*
 unfold Zf2
 obtain ⟨hI1,hI2,hI3⟩:=hI
 repeat' first
  | with_reducible refine nx ?_ ?_ ?_
  | with_reducible refine dn ?_
  | with_reducible refine brD (fun _=>?_) fun _=>?_
  | with_reducible refine bd gr fun _ _=>?_
  | with_reducible refine bd wr fun _ _=>?_
  | with_reducible refine bd gk fun _ _=>?_
  | with_reducible refine bd (Y4e _ _ (by first|assumption|exact hc.ins _ (by assumption)) (by first|assumption|exact hc.ins _ (by assumption))) fun _ _=>?_
  | (exact Z61 hI2 (And.right (by assumption)))
  | with_reducible refine And.intro ?_ ?_
  | (simp only [List.length_set,List.length_append,List.length_cons,List.length_nil,List.length_replicate]; omega)
  | (obtain ⟨_,_⟩:=‹_∧_›)
theorem L78x2 (p:List Z00) (e:Int) (c:Z0a) (hp:Z14 p) (hc:Z4v c):Ok (Z06 (Zg8 c) Z08 (0,p,e,([]:List Z0n))) (fun q=>Z14 q.1∧(∀ v∈q.2.2,v.Z1r=[])∧q.2.2.length=c.Z1z.length):=by
 have:=hc.hndL
 refine lp (fun t=>t.1) (c.Z1z.length) (fun t=>Z14 t.2.1∧(∀ v∈t.2.2.2,v.Z1r=[])∧(t.2.2.2.length:Int)=t.1) (fun t hI _ _=>?_) (by omega) (by exact ⟨hp,Z40,rfl⟩) (by omega) (by omega)
 try dsimp only at*
 unfold Zg8
 obtain ⟨hI1,hI2,hI3⟩:=hI
 repeat' first
  | with_reducible refine nx ?_ ?_ ?_
  | with_reducible refine dn ?_
  | unfold Zdi
  | with_reducible refine brD (fun _=>?_) fun _=>?_
  | with_reducible refine br! (fun _=>?_) fun _=>?_
  | with_reducible refine bd gr fun _ _=>?_
  | with_reducible refine bd wr fun _ _=>?_
  | with_reducible refine bd gk fun _ _=>?_
  | with_reducible refine bd (Ze4 _ _ (by first|assumption|exact hc.hnd _ (by assumption)) (by first|assumption|exact hc.hnd _ (by assumption))) fun _ _=>?_
  | (exact Z61 hI2 rfl)
  | with_reducible refine And.intro ?_ ?_
  | (simp only [List.length_set,List.length_append,List.length_cons,List.length_nil,List.length_replicate]; omega)
theorem Za3.of {m:Z0p} (h:Za3 m.Z1m) {l k:List Z0i} {b:Bool} (h1:∀ v∈l,Str v.Z1r.Z0d) (h2:l.length=m.Z1m.Z0t.length) (h3:∀ v∈k,Str v.Z1r.Z0d) (h4:k.length=m.Z1m.Z0x.length):
  Za3 { Z0t:=l,Z0x:=k,Z6h:=b }:=⟨h1,by have:=h.locL; dsimp only; omega,h3,by have:=h.stkL; dsimp only; omega⟩
theorem L78x3 (p:List Z00) (e:Int) (c:Z0a) (hp:Z14 p) (hc:Z4v c):Ok (Z06 (Zgd c) Z08 (0,p,e,([]:List Z0p))) (fun q=>Z14 q.1∧(∀ v∈q.2.2,Za3 v.Z1m)∧q.2.2.length=c.Z1k.length):=by
 have:=hc.mapL
 refine lp (fun t=>t.1) (c.Z1k.length) (fun t=>Z14 t.2.1∧(∀ v∈t.2.2.2,Za3 v.Z1m)∧(t.2.2.2.length:Int)=t.1) (fun t hI _ _=>?_) (by omega) ⟨hp,Z40,rfl⟩ (by omega) (by omega)
 obtain ⟨hI1,hI2,hI3⟩:=hI
 unfold Zgd
 refine brD (fun hlt=>?_) fun _=>dn ⟨hI1,hI2,by dsimp only; omega⟩
 obtain ⟨y,hy,hm⟩:=gr (l:=c.Z1k) (i:=t.1) (by omega) hlt
 simp only [hy]
 refine bs (bs (bd (Zzg _ _ hI1 (hc.map _ hm).loc (hc.map _ hm).locL) fun v1 h1=>bd (Zzg _ _ h1.1 (hc.map _ hm).stk (hc.map _ hm).stkL) fun v2 h2=>?_))
 refine bd gk fun _ _=>bd wr fun _ _=>?_
 exact nx ⟨h2.1,Z61 hI2 ((hc.map _ hm).of h1.2.1 h1.2.2 h2.2.1 h2.2.2),by simp only [List.length_append,List.length_cons,List.length_nil]; omega⟩
theorem Y1p (x:Z0j) (c:Z0a) (hp:Z14 x.f_P) (hc:Z4v c):Ok (Zbm x c) (fun r=>Z14 r.1.f_P∧Z4v r.2):=by
 unfold Zbm
 refine bd (L78x1 _ _ _ hp hc) fun q0 h0=>bd (L78x2 _ _ _ h0.1 hc) fun q2 h2=>bd (L78x3 _ _ _ h2.1 hc) fun q4 h4=>ok ⟨h4.1,h0.2.1,?_,fun v hv=>?_,?_,h4.2.1,?_,hc.linL⟩
 ·have:=hc.insL; have:=h0.2.2; dsimp only; omega
 ·rw [h2.2.1 v hv]; simp
 ·have:=hc.hndL; have:=h2.2.2; dsimp only; omega
 ·have:=hc.mapL; have:=h4.2.2; dsimp only; omega
theorem L58x2 (p:List Z00) (e:Int) (m:Z2r) (hp:Z14 p) (hm:Zae m):Ok (Z06 (Zez m) Z08 (0,p,e,([]:List Int))) (fun q=>Z14 q.1∧q.2.2.length≤140737488355328):=by
 have:=hm.excL
 refine lp (fun t=>t.1) (m.Z6e.length) (fun t=>Z14 t.2.1∧(t.2.2.2.length:Int)=t.1) (fun t hI _ _=>?_) (by omega) (by exact ⟨hp,rfl⟩) (by omega) (by omega)
 try dsimp only at*
 unfold Zez
 obtain ⟨hI1,hI3⟩:=hI
 repeat' first
  | with_reducible refine nx ?_ ?_ ?_
  | with_reducible refine dn ?_
  | with_reducible refine brD (fun _=>?_) fun _=>?_
  | with_reducible refine bd gr fun _ _=>?_
  | with_reducible refine bd wr fun _ _=>?_
  | with_reducible refine bd gk fun _ _=>?_
  | with_reducible refine bd (Ze4 _ _ (by first|assumption|exact hm.exc _ (by assumption)) (by first|assumption|exact hm.exc _ (by assumption))) fun _ _=>?_
  | with_reducible refine And.intro ?_ ?_
  | (simp only [List.length_set,List.length_append,List.length_cons,List.length_nil,List.length_replicate]; omega)
structure Zd2 (n:Int) (ms:List Z0f) (cs:List Z0a) (ts:List (List Int)) (ns:List Z1t):Prop where
 m:(ms.length:Int)=n
 c:(cs.length:Int)=n
 t:(ts.length:Int)=n
 s:(ns.length:Int)=n
 code:∀ v∈cs,Z4v v
 att:∀ m∈ms,m.Z1j=[]
 thr:∀ l∈ts,l.length≤140737488355328
theorem Zd2.snoc {n k:Int} {ms:List Z0f} {cs:List Z0a} {ts:List (List Int)} {ns:List Z1t} (h:Zd2 n ms cs ts ns) {m:Z0f} {c:Z0a} {l:List Int} {s:Z1t} (ha:m.Z1j=[]) (hc:Z4v c) (hl:l.length≤140737488355328) (hk:k=n+1):
  Zd2 k (ms++[m]) (cs++[c]) (ts++[l]) (ns++[s]):=by
 obtain ⟨h1,h2,h3,h4,h5,h6,h7⟩:=h
 refine ⟨?_,?_,?_,?_,Z61 h5 hc,Z61 h6 ha,Z61 h7 hl⟩ <;> simp only [List.length_append,List.length_cons,List.length_nil] <;> omega
theorem WCode0:Z4v { Z0x:=0,Z0t:=0,Z0k:=[],Z1z:=[],Z1k:=[],Z1u:=[] }:=⟨Z40,by simp,Z40,by simp,Z40,by simp,by simp⟩
abbrev S58:=Int×(List Z00)×Int×(List Z0f)×(List Z0a)×(List (List Int))×(List Z1t)
def I58 (t:S58):Prop:=Z14 t.2.1∧Zd2 t.1 t.2.2.2.1 t.2.2.2.2.1 t.2.2.2.2.2.1 t.2.2.2.2.2.2
def Q58 (n:Int) (q:(List Z00)×Int×(List Z0f)×(List Z0a)×(List (List Int))×(List Z1t)):Prop:=Z14 q.1∧Zd2 n q.2.2.1 q.2.2.2.1 q.2.2.2.2.1 q.2.2.2.2.2
theorem K58x2 {n:Int} {p26 p27 p28:Int} {p29:List Z01} {p30:List Z0n} {p31:List Z0p} {p32:List Z15} {t0:S58} {v34:Z2r} {v35 v36:Z0j×Int} {p33:List Z00} {p34 p35:Int}
  (hI:I58 t0) (hp:Z14 p33) (hm:Zae v34) (hc:Z4v { Z0x:=p27,Z0t:=p28,Z0k:=p29,Z1z:=p30,Z1k:=p31,Z1u:=p32 }) (h0:0≤t0.1) (h1:t0.1<n) (hn:n*184≤140737488355328):
  Ok (Zas p26 p27 p28 p29 p30 p31 p32 t0 v34 v35 v36 p33 p34 p35) (St I58 (fun t=>t.1) n (Q58 n) t0):=by
 unfold Zas
 have:=hI.2.m; have:=hI.2.c; have:=hI.2.t; have:=hI.2.s
 refine bd (L58x2 _ _ _ hp hm) fun q4 h4=>?_
 refine bd gk fun _ _=>?_
 refine bd gk fun _ _=>?_
 refine bd gk fun _ _=>?_
 refine bd gk fun _ _=>?_
 refine bd wr fun _ hv=>?_
 exact nx ⟨h4.1,hI.2.snoc rfl hc h4.2 hv⟩
theorem K58x1 {n:Int} {t0:S58} {v34:Z2r} {v35 v36:Z0j×Int} {p24:List Z00} {p25 p26 p27 p28:Int} {p29:List Z01} {p30:List Z0n} {p31:List Z0p} {p32:List Z15}
  (hI:I58 t0) (hp:Z14 p24) (hm:Zae v34) (hc:Z4v { Z0x:=p27,Z0t:=p28,Z0k:=p29,Z1z:=p30,Z1k:=p31,Z1u:=p32 }) (h0:0≤t0.1) (h1:t0.1<n) (hn:n*184≤140737488355328):
  Ok (Za8 t0 v34 v35 v36 p24 p25 p26 p27 p28 p29 p30 p31 p32) (St I58 (fun t=>t.1) n (Q58 n) t0):=by
 unfold Za8
 exact brD (fun _=>bd (Z7e _ _ hp (by simp)) fun v hv=>K58x2 hI hv hm hc h0 h1 hn) fun _=>K58x2 hI hp hm hc h0 h1 hn
theorem L58x1 (p : List Z00) (e : Int) (u : Z0m) (hp : Z14 p) (hu:Z5a u):Ok (Z06 (Zel u) Z08 (0,p,e,[],[],[],[])) (Q58 u.Z10.length):=by
 have:=hu.metL
 refine lp (fun t=>t.1) (u.Z10.length) I58 (fun t hI h0 h1=>?_) (by omega) ⟨hp,rfl,rfl,rfl,rfl,Z40,Z40,Z40⟩ (by omega) (by omega)
 unfold Zel
 refine brD (fun hlt => ?_) fun hge => dn ⟨hI.1, by have:t.1=u.Z10.length:=by omega
                                                    rw [← this]; exact hI.2⟩
 refine bd gr fun m hm=>bd (Z7e _ _ hI.1 (hu.met _ hm).n) fun v1 h1=>bd (Z7e _ _ h1 (hu.met _ hm).d) fun v2 h2=>br (fun _=>?_) fun _=>?_
 ·exact bd (Z7e _ _ h2 (by simp)) fun v3 h3=>bd (Y1p _ _ h3 (hu.met _ hm).code) fun v4 h4=>K58x1 hI h4.1 (hu.met _ hm) h4.2 h0 hlt (by omega)
 ·exact K58x1 hI h2 (hu.met _ hm) WCode0 h0 hlt (by omega)
structure Zcv (u:Z0m) (h:Z2a):Prop where
 pool:Z14 h.f_F.Z20
 fam:Zd2 u.Z10.length h.f_F.Z10 h.Zan h.Zcx h.Z7k
 ifsL:h.f_F.Z1f.length=u.Z1f.length
 fldL:h.f_F.Z0g.length=u.Z0g.length
 fld:∀ m∈h.f_F.Z0g,m.Z1j.length≤1∧∀ a∈m.Z1j,Str a.Z2h
 attL:h.f_F.Z1j.length≤1
 att:∀ a∈h.f_F.Z1j,Str a.Z2h
theorem L48x1 (p:List Z00) (e:Int) (u:Z0m) (hp:Z14 p) (hu:Z5a u):Ok (Z06 (Zhb u) Z08 (0,p,e,([]:List Int))) (fun q=>Z14 q.1∧q.2.2.length=u.Z1f.length):=by
 have:=hu.ifsL
 refine lp (fun t=>t.1) (u.Z1f.length) (fun t=>Z14 t.2.1∧(t.2.2.2.length:Int)=t.1) (fun t hI h0 h1=>?_) (by omega) ⟨hp,rfl⟩ (by omega) (by omega)
 obtain ⟨hI1,hI3⟩:=hI
 unfold Zhb
 refine brD (fun hlt=>?_) fun hge=>dn ⟨hI1,by dsimp only; omega⟩
 refine bd gr fun s hs=>bd (Ze4 _ _ hI1 (hu.ifs _ hs)) fun v1 h1=>?_
 refine bd gk fun _ _=>bd wr fun _ hv=>?_
 exact nx ⟨h1,by simp only [List.length_append,List.length_cons,List.length_nil]; omega⟩
def MAt (m:Z0f):Prop:=m.Z1j.length≤1∧∀ a∈m.Z1j,Str a.Z2h
abbrev S48:=Int×(List Z00)×Int×(List Z0f)
def I48 (t:S48):Prop:=Z14 t.2.1∧(t.2.2.2.length:Int)=t.1∧∀ m∈t.2.2.2,MAt m
theorem K48x2 {u:Z0m} (hu:Z5a u) {t1:S48} {v26:Z1d} {v27 v28:Z0j×Int} {p9:List Z00} {p10:Int} {p11:List Z19} (hI:I48 t1) (hp:Z14 p9) (ha:p11.length≤1∧∀ a∈p11,Str a.Z2h) (h0:0≤t1.1) (h1:t1.1<u.Z0g.length):
  Ok (Z9m t1 v26 v27 v28 p9 p10 p11) (St I48 (fun t=>t.1) u.Z0g.length (fun q=>Z14 q.1∧q.2.2.length=u.Z0g.length∧∀ m∈q.2.2,MAt m) t1):=by
 have:=hu.fldL
 obtain ⟨hI1,hI2,hI3⟩:=hI
 unfold Z9m
 refine bd gk fun _ _=>bd wr fun _ hv=>?_
 exact nx ⟨hp,by simp only [List.length_append,List.length_cons,List.length_nil]; omega,Z61 hI3 ha⟩
theorem L48x2 (p:List Z00) (e:Int) (u:Z0m) (hp:Z14 p) (hu:Z5a u):Ok (Z06 (Zdz u) Z08 (0,p,e,([]:List Z0f))) (fun q=>Z14 q.1∧q.2.2.length=u.Z0g.length∧∀ m∈q.2.2,MAt m):=by
 have:=hu.fldL
 refine lp (fun t=>t.1) (u.Z0g.length) I48 (fun t hI h0 h1=>?_) (by omega) ⟨hp,rfl,Z40⟩ (by omega) (by omega)
 unfold Zdz
 refine brD (fun hlt=>?_) fun hge=>dn ⟨hI.1,by have:=hI.2.1; dsimp only; omega,hI.2.2⟩
 refine bd gr fun f hf=>bd (Z7e _ _ hI.1 (hu.fld _ hf).n) fun v1 h1=>bd (Z7e _ _ h1 (hu.fld _ hf).d) fun v2 h2=>brN (fun _=>?_) fun _=>?_
 ·exact bd (Z7e _ _ h2 (by simp)) fun v3 h3=>bd (Y67 _ _ h3 (hu.fld _ hf)) fun v4 h4=>bd (Zvr _) fun v5 h5=>K48x2 hu hI h4 ⟨by simp,fun a ha=>by rw [List.mem_singleton.1 ha]; show v5.length≤_; omega⟩ h0 hlt
 ·exact K48x2 hu hI h2 ⟨by simp,Z40⟩ h0 hlt
theorem Y3w (x:Z0j) (u:Z0m) (h:Z2a) (hp:Z14 x.f_P) (hu:Z5a u) (hi:h.f_F.Z1f.length=u.Z1f.length) (hf:h.f_F.Z0g.length=u.Z0g.length) (hm:∀ m∈h.f_F.Z0g,MAt m):
  Ok (Z8u x u h) (fun r=>Z14 r.1.f_P∧Zcv u r.2):=by
 unfold Z8u
 exact bd (L58x1 _ _ _ hp hu) fun q hq=>ok ⟨hq.1,Z14.nil,hq.2,hi,hf,hm,by simp,Z40⟩
theorem K48x3 {u:Z0m} {v34:Z0j×Z2a} (hw:Zcv u v34.2) {p12:List Z00} {p13:Int} {p14:List Z19} (hp:Z14 p12) (ha:p14.length≤1∧∀ a∈p14,Str a.Z2h):Ok (Zb5 v34 p12 p13 p14) (fun r=>Z14 r.1.f_P∧Zcv u r.2):=by
 unfold Zb5
 exact ok ⟨hp,hp,hw.fam,hw.ifsL,hw.fldL,hw.fld,ha.1,ha.2⟩
theorem K48x1 {u:Z0m} (hu:Z5a u) {v0:Z0j×Int} {p0:List Z00} {p1 p2:Int} (hp:Z14 p0):Ok (Za7 v0 u p0 p1 p2) (fun r=>Z14 r.1.f_P∧Zcv u r.2):=by
 unfold Za7
 refine bd (L48x1 _ _ _ hp hu) fun q0 h0=>bd (L48x2 _ _ _ h0.1 hu) fun q2 h2=>bd (Y3w _ _ _ h2.1 hu ?_ ?_ h2.2.2) fun v34 hv=>br (fun _=>?_) fun _=>K48x3 hv.2 hv.1 ⟨hv.2.attL,hv.2.att⟩
 ·exact h0.2
 ·exact h2.2.1
 ·exact bd (Z7e _ _ hv.1 (by simp)) fun v1 h1=>bd (Z7e _ _ h1 hu.src) fun v2 h2=>bd (Zvr _) fun v5 h5=>K48x3 hv.2 h2 ⟨by simp,fun a ha=>by rw [List.mem_singleton.1 ha]; show v5.length≤_; omega⟩
theorem Y1d (x:Z0j) (u:Z0m) (hp:Z14 x.f_P) (hu:Z5a u):Ok (Zc2 x u) (fun r=>Zcv u r.2):=by
 unfold Zc2
 refine (bd (Ze4 _ _ hp hu.n) fun v0 h0=>br (fun _=>bd (Ze4 _ _ h0 hu.sup) fun v1 h1=>K48x1 hu h1) fun _=>K48x1 hu h0:Ok _ (fun r:Z0j×Z2a=>Z14 r.1.f_P∧Zcv u r.2)).mono fun r hr=>hr.2
end Go.Proofs
set_option linter.unusedVariables false
namespace Go.Proofs
open Go.Den Go.Tot
theorem Zqi (s:List UInt8) (a:Int) (hs:Str s) (h0:0≤a) (h1:a≤s.length):Ok (Z8v s a) (fun r=>r.2= -1∨(a<r.2∧r.2≤s.length)):=by
 unfold Z8v
 refine bd (P:=fun q:Int×Int=>a≤q.2∧q.2≤(s.length:Int)∧0≤q.1∧q.1≤4503599627370496) (lp (fun t=>t.1) s.length (fun t=>0≤t.2∧t.2≤t.1∧a≤t.1) (fun t hI g0 g1=>?_) (by omega) ⟨by omega,h0,by omega⟩ h0 h1) fun q hq=>?_
 ·unfold Zcb Zkf
  refine brD (fun hlt=>bd gs fun _ _=>brE (fun _=>bd wr fun _ _=>bd wr fun _ _=>nx ?_ ?_ ?_) fun _=>dn ?_) fun _=>dn ?_ <;> dsimp only <;> omega
 ·obtain ⟨q1,q2⟩:=q
  dsimp only at hq ⊢
  have j2:∀ (v:Int) (p0:List UInt8) (p1:Int),Str p0→a<p1→p1≤s.length→Ok (Zav (q1,q2) v p0 p1) (fun r=>r.2= -1∨(a<r.2∧r.2≤s.length)):=fun v p0 p1 g1 g2 g3=>by
   unfold Zav
   exact bd (Zvb _ g1) fun b _=>br! (fun _=>ok (.inl rfl)) fun _=>ok (.inr ⟨g2,g3⟩)
  refine brD (fun _=>ok (.inl rfl)) fun _=>bd gs fun v5 _=>bd wr fun v6 h6=>brE (fun _=>?_) fun _=>j2 _ _ _ (by simp) (by omega) (by omega)
  refine bd (P:=fun q:Int=>v6≤q∧q≤(s.length:Int)) (lp (fun t=>t) s.length (fun t=>v6≤t) (fun t hI g0 g1=>?_) (by omega) (by omega) (by omega) (by omega)) fun q hq2=>?_
  ·unfold Zc0
   exact brD (fun hlt=>bd gs fun _ _=>brN (fun _=>bd wr fun _ _=>nx (by omega) (by omega) (by omega)) fun _=>dn ⟨by omega,by omega⟩) fun _=>dn ⟨by omega,by omega⟩
  ·exact brD (fun _=>ok (.inl rfl)) fun _=>bd (sb (by omega) (by omega) (by omega)) fun v11 h11=>bd wr fun v12 h12=>j2 _ _ _ (by have:=h11.1; unfold Str at *; omega) (by omega) (by omega)
theorem Zfa (s:List UInt8) (hs:Str s):Ok (Z5r s) (fun _=>True):=by
 unfold Z5r
 exact bd (Zqi s 0 hs (by omega) (by omega)) fun v _=>brN (fun _=>ok trivial) fun _=>ok trivial
theorem Zxi {s:List UInt8} (h:(s==([]:List UInt8))=false):0<s.length:=by
 cases s with
 | nil=>simp at h
 | cons a r=>simp
theorem Y51 (s:List UInt8) (hs:Str s):Ok (Zi0 s) (fun _=>True):=by
 unfold Zi0 Zo7
 exact bd (Zk8 s hs) fun b _=>br (fun _=>ok trivial) fun _=>br (fun _=>ok trivial) fun h=>by
  have:=Zxi h
  exact bd gs fun v _=>brN (fun _=>ok trivial) fun _=>bd (Zfa s hs) fun v _=>ok trivial
theorem Zo1 (s:List UInt8) (hs:Str s):Ok (Zbn s) (fun b=>b=true→0<s.length):=by
 unfold Zbn
 refine br (fun h=>ok fun _=>?_) fun _=>br (fun h=>ok fun _=>?_) fun _=>brD (fun _=>bd (Zoe s hs) fun b hb=>ok fun h=>?_) fun _=>ok fun h=>by cases h
 ·rw [eq_of_beq h]; simp
 ·rw [eq_of_beq h]; simp
 ·exact List.length_pos_iff.2 (hb h)
theorem Zpw (s:List UInt8) (hs:s.length≤1048576):Ok (Zbv s) (fun r=>r.1.Z7u.length≤1048576):=by
 unfold Zbv
 refine br (fun _=>ok (by simp)) fun h=>?_
 have hpos:=Zxi h
 refine bd gs fun v _=>brN (fun _=>ok (by simp)) fun _=>?_
 unfold Zmf
 refine bd (P:=fun q:(List Z0h×Int)⊕(Z2o×Int)=>match q with|.inl q=>q.1.length≤1048576∧0≤q.2∧q.2≤(s.length:Int)|.inr y=>y.1.Z7u=[]) (lp (fun t=>t.1) s.length (fun t=>(t.2.length:Int)≤t.1) (fun t hI g0 g1=>?_) (by omega) (by simp)) fun q hq=>?_
 ·unfold Zpc Zr6 Zmk
  have hd:t.2.length≤1048576∧0≤t.1∧t.1≤s.length:=⟨by omega,g0,g1⟩
  refine brD (fun hlt=>bd gs fun _ _=>brN (fun _=>?_) fun _=>dn hd) fun _=>dn hd
  refine bd (Zqi s t.1 (by unfold Str; omega) g0 g1) fun r hr=>brD (fun _=>dn rfl) fun hnn=>brE (fun _=>dn rfl) fun _=>?_
  have hlt2:t.1<r.2∧r.2≤s.length:=by omega
  exact bd gk fun _ _=>nx (by simp only [List.length_append,List.length_cons,List.length_nil]; omega) hlt2.1 hlt2.2
 ·cases q with
  | inr y=>exact ok (by rw [hq]; simp)
  | inl q=>
   obtain ⟨h1,h2,h3⟩:=hq
   refine brD (fun _=>ok (by simp)) fun _=>bd wr fun v hv=>bd (Zqi s v (by unfold Str; omega) (by omega) (by omega)) fun r _=>brN (fun _=>ok (by simp)) fun _=>brD (fun _=>ok (by simp)) fun _=>ok (by dsimp only; exact h1)
theorem Y1i (s:List UInt8) (hs:s.length≤1048576):Ok (Zim s) (fun _=>True):=by
 unfold Zim
 exact bd (Zfa s (by unfold Str; omega)) fun v _=>brE (fun _=>ok trivial) fun _=>bd (Zpw s hs) fun _ _=>ok trivial
def Ent (p:List Z00) (i:Int) (c:Z00):Prop:=∃ k:Nat,i=(k:Int)+1∧p[k]?=some c
theorem Ent.mem {p:List Z00} {i:Int} {c:Z00} (h:Ent p i c):c∈p:=by
 obtain ⟨k,-,h⟩:=h
 exact List.mem_of_getElem? h
theorem Zej (p:List Z00) (i:Int) (hp:p.length≤140737488355328):Ok (Z74 p i) (fun r=>(r.2=0→Ent p i r.1)∧(r.2≠0→r.1.f_S=[])):=by
 unfold Z74
 refine brD (fun _=>ok ⟨by simp,by simp⟩) fun _=>brD (fun _=>ok ⟨by simp,by simp⟩) fun _=>bd wr fun v hv=>bd gri fun c hc=>ok ⟨fun _=>⟨v.toNat,by omega,hc.2⟩,by simp⟩
theorem Zjz (p:List Z00) (i t:Int) (hp:p.length≤140737488355328):Ok (Z99 p i t) (fun r=>(r.2=0→Ent p i r.1∧r.1.Z1s=t)∧(r.2≠0→r.1.f_S=[])):=by
 unfold Z99
 exact bd (Zej p i hp) fun v hv=>brN (fun h=>ok ⟨fun h'=>absurd h' h,fun _=>rfl⟩) fun h=>brN (fun _=>ok ⟨by simp,by simp⟩) fun ht=>ok ⟨fun _=>⟨hv.1 h,ht⟩,by simp⟩
theorem Z4e (p:List Z00) (i:Int) (hp:p.length≤140737488355328):Ok (Z38 p i) (fun r=>r.1=[]∨∃ c,Ent p i c∧r.1=c.f_S):=by
 unfold Z38
 refine bd (Zjz p i 1 hp) fun v hv=>ok ?_
 by_cases h:v.2=0
 ·exact .inr ⟨_,(hv.1 h).1,rfl⟩
 ·exact .inl (hv.2 h)
abbrev PS (p:List Z00) (B:Nat):Prop:=∀ c∈p,c.f_S.length≤B
theorem Zct {p:List Z00} {i:Int} {B:Nat} (h:PS p B) {s:List UInt8} (hs:s=[]∨∃ c,Ent p i c∧s=c.f_S):s.length≤B:=by
 rcases hs with rfl|⟨c,hc,rfl⟩
 ·simp
 ·exact h c hc.mem
theorem Zoc (p:List Z00) (i:Int) {B:Nat} (hp:p.length≤140737488355328) (h:PS p B):Ok (Zbg p i) (fun r=>r.1.length≤B):=by
 unfold Zbg
 exact bd (Zjz p i 7 hp) fun v hv=>brN (fun _=>ok (by simp)) fun _=>bd (Z4e p _ hp) fun r hr=>ok (Zct h hr)
theorem Zd9 (t:Int):Ok (Z8p t) (fun _=>True):=by
 unfold Z8p
 exact br (fun _=>ok trivial) fun _=>br (fun _=>ok trivial) fun _=>ok trivial
theorem Ztu (p:List Z00) (i:Int) (hp:p.length≤140737488355328):Ok (Zdt p i) (fun r=>(r.1=[]∨∃ c,c∈p∧r.1=c.f_S)∧(r.2.1=[]∨∃ c d,Ent p i c∧Ent p c.f_B d∧r.2.1=d.f_S)):=by
 unfold Zdt
 refine bd (Zjz p i 12 hp) fun v hv=>brN (fun _=>ok ⟨.inl rfl,.inl rfl⟩) fun h=>bd (Z4e p _ hp) fun a ha=>brN (fun _=>ok ⟨.inl rfl,.inl rfl⟩) fun _=>bd (Z4e p _ hp) fun b hb=>brN (fun _=>ok ⟨.inl rfl,.inl rfl⟩) fun _=>ok ⟨?_,?_⟩
 ·rcases ha with h1|⟨c,hc,h1⟩
  ·exact .inl h1
  ·exact .inr ⟨c,hc.mem,h1⟩
 ·rcases hb with h1|⟨c,hc,h1⟩
  ·exact .inl h1
  ·exact .inr ⟨_,c,(hv.1 h).1,hc,h1⟩
theorem Y26 (p:List Z00) (i t:Int) {B:Nat} (hp:p.length≤140737488355328) (h:PS p B):Ok (Zjg p i t) (fun _=>True):=by
 unfold Zjg Zr1
 exact bd (Zej p i hp) fun v hv=>brN (fun _=>ok trivial) fun _=>bd (Zd9 t) fun b _=>br! (fun _=>ok trivial) fun _=>brN (fun _=>ok trivial) fun _=>bd (Zoc p _ hp h) fun r _=>brN (fun _=>ok trivial) fun _=>bd (Ztu p _ hp) fun r _=>brN (fun _=>ok trivial) fun _=>ok trivial
theorem Y4r (t:Int):Ok (Zib t) (fun _=>True):=by
 unfold Zib
 repeat' first
  | exact ok trivial
  | with_reducible refine br (fun _=>?_) fun _=>?_
  | exact bd (Zd9 t) fun _ _=>ok trivial
theorem Y65 (c:Z00):Ok (Zl5 c) (fun b=>b=true→c.Z1s≠1→c.f_S=[]):=by
 have h2:(c.Z1s≠1→c.f_S=[])→∀ p,Ok (Zfv c p) (fun b=>b=true→c.Z1s≠1→c.f_S=[]):=fun h p=>by
  unfold Zfv
  repeat' first
   | exact ok fun _=>h
   | with_reducible refine br (fun _=>?_) fun _=>?_
 have h1:(c.Z1s≠1→c.f_S=[])→Ok (Z7h c) (fun b=>b=true→c.Z1s≠1→c.f_S=[]):=fun h=>by
  unfold Z7h
  exact br (fun _=>h2 h _) fun _=>bd (Zd9 _) fun _ _=>h2 h _
 unfold Zl5
 refine brN (fun _=>br! (fun _=>ok fun h=>by cases h) fun he=>?_) fun h1'=>?_
 ·have hS:c.f_S=[] :=by simpa using he
  repeat' first
   | exact h1 fun _=>hS
   | exact ok fun h=>by cases h
   | with_reducible refine brN (fun _=>?_) fun _=>?_
 ·repeat' first
   | exact h1 fun h=>absurd h1' h
   | exact ok fun h=>by cases h
   | with_reducible refine brN (fun _=>?_) fun _=>?_
theorem Y1j (p:List Z00) (c:Z00) (hp:p.length≤140737488355328):Ok (Zhn p c) (fun _=>True):=by
 have hr:∀ i t,Ok (Zhu p i t) (fun _=>True):=fun i t=>bd (Zjz p i t hp) fun _ _=>ok trivial
 have h1:∀ a b,Ok (Zee p c a b) (fun _=>True):=fun a b=>by
  unfold Zee Zng
  exact bd (hr _ _) fun v _=>brN (fun _=>ok trivial) fun _=>br (fun _=>ok trivial) fun _=>br (fun _=>ok trivial) fun _=>bd (hr _ _) fun _ _=>ok trivial
 unfold Zhn
 exact bd (Zd9 _) fun b _=>br (fun _=>h1 _ _) fun _=>h1 _ _
theorem Y4a (t:Int) (a b:List UInt8) (hb:b.length≤1048576):Ok (Zjp t a b) (fun _=>True):=by
 unfold Zjp
 refine bd (Zpw b hb) fun v _=>?_
 repeat' first
  | exact ok trivial
  | with_reducible refine brD (fun _=>?_) fun _=>?_
  | with_reducible refine br (fun _=>?_) fun _=>?_
  | with_reducible refine bd gs fun _ _=>?_
theorem Y1c (p:List Z00) (hp:Z14 p) (k:Nat) (c:Z00) (hc:p[k]?=some c) (hG:∀ (j:Nat) d,j<k→p[j]?=some d→d.f_S.length≤1024):Ok (Zcd p c) (fun e=>e=0→c.f_S.length≤1024):=by
 have hl:p.length≤140737488355328:=by have:=hp.len; omega
 have ho:=hp.ord k c hc
 have hu:∀ i:Int,i≤k→∀ s:List UInt8,(s=[]∨∃ d,Ent p i d∧s=d.f_S)→s.length≤1024:=fun i hi s hs=>by
  rcases hs with rfl|⟨d,⟨j,h1,h2⟩,rfl⟩
  ·simp
  ·exact hG j d (by omega) h2
 have h2:Ok (Zfq p c) (fun _=>True):=by
  unfold Zfq
  refine bd (Zd9 _) fun b _=>br (fun _=>bd (Ztu p _ hl) fun r hr=>brE (fun _=>bd (Y4a _ _ _ ?_) fun _ _=>ok trivial) fun _=>ok trivial) fun _=>ok trivial
  rcases hr.2 with h|⟨d,e,h1,h2,h3⟩
  ·rw [h]; simp
  ·obtain ⟨j,e1,e2⟩:=h1
   have:=hp.ord j d e2
   exact Nat.le_trans (hu d.f_B (by omega) _ (.inr ⟨e,h2,h3⟩)) (by omega)
 have h1:Ok (Zdn p c) (fun _=>True):=by
  unfold Zdn
  refine brE (fun _=>bd (Z4e p _ hl) fun a ha=>bd (Z4e p _ hl) fun b hb=>bd (Zo1 _ (by have:=hu _ ho.1 _ ha; unfold Str; omega)) fun _ _=>br! (fun _=>ok trivial) fun _=>bd (Y1i _ (by have:=hu _ ho.2 _ hb; omega)) fun _ _=>br! (fun _=>ok trivial) fun _=>h2) fun _=>h2
 have hcont:Ok (Zkk p c) (fun _=>True):=by
  unfold Zkk
  exact brE (fun _=>bd (Z4e p _ hl) fun a ha=>bd (Y51 _ (by have:=hu _ ho.1 _ ha; unfold Str; omega)) fun _ _=>brN (fun _=>ok trivial) fun _=>h1) fun _=>h1
 have hj:c.f_S.length≤1024→Ok (Za5 p c) (fun e=>e=0→c.f_S.length≤1024):=fun hs=>by
  unfold Za5 Zq5
  refine br (fun _=>ok fun _=>hs) fun _=>br (fun _=>ok fun _=>hs) fun _=>br (fun _=>ok fun _=>hs) fun _=>bd (Y1j p c hl) fun _ _=>brN (fun _=>ok fun _=>hs) fun _=>bd hcont fun _ _=>ok fun _=>hs
 unfold Zcd
 refine bd (Y4r _) fun _ _=>br! (fun _=>ok (by simp)) fun _=>bd (Y65 c) fun b hb=>br! (fun _=>ok (by simp)) fun hf=>brE (fun ht=>brD (fun _=>ok (by simp)) fun hs=>?_) fun ht=>?_
 ·repeat' first
   | exact hj (by omega)
   | exact ok (by simp)
   | with_reducible refine brD (fun _=>?_) fun _=>?_
   | with_reducible refine brE (fun _=>?_) fun _=>?_
 ·have hS:=hb hf ht
  repeat' first
   | exact hj (by rw [hS]; simp)
   | exact ok (by simp)
   | with_reducible refine brD (fun _=>?_) fun _=>?_
   | with_reducible refine brE (fun _=>?_) fun _=>?_
theorem Zrt (p:List Z00) (hp:Z14 p):Ok (Z9y p) (fun r=>r.2=0→PS p 1024):=by
 have:=hp.len
 unfold Z9y
 refine brD (fun _=>ok (by simp)) fun _=>bd (P:=fun q:Unit⊕(Int×Int)=>match q with|.inl _=>PS p 1024|.inr y=>y.2≠0) (lp (fun t=>t) p.length (fun t=>∀ (j:Nat) d,(j:Int)<t→p[j]?=some d→d.f_S.length≤1024) (fun t hI h0 h1=>?_) (by omega) (fun j v h=>by omega) (by omega) (by omega)) fun q hq=>?_
 ·unfold Zlr
  refine brD (fun hlt=>?_) fun hge=>dn fun v hv=>?_
  ·refine bd gri fun c hc=>bd (Y1c p hp t.toNat c hc.2 fun j d hj hd=>hI j d (by omega) hd) fun e he=>brN (fun h=>bd wr fun _ _=>dn h) fun h=>bd wr fun v2 h2=>nx (fun j v hj hv=>?_) (by omega) (by omega)
   rcases Int.lt_or_le (j:Int) t with hlt|hge
   ·exact hI j v hlt hv
   ·have:j=t.toNat:=by omega
    subst this
    rw [hc.2] at hv; cases hv
    exact he h
  ·obtain ⟨j,hj⟩:=List.mem_iff_getElem?.1 hv
   exact hI j v (by have:=(List.getElem?_eq_some_iff.1 hj).1; omega) hj
 ·cases q with
  | inl _=>exact ok fun _=>hq
  | inr y=>exact ok fun h=>absurd h hq
end Go.Proofs
set_option linter.unusedVariables false
namespace Go.Proofs
open Go.Den Go.Tot
theorem Z5f {α R:Type} {l:List α} {P:α→Prop} {f:Int→Option (Ctl Int R)} {Q:R→Prop} (hn:l.length≤140737488355328) (h:∀ t:Int,0≤t→t<l.length→∀ v,l[t.toNat]?=some v→v∈l→Z05 l t=some v→Ok (f t) (fun x=>match x with|.next t'=>t'=t+1∧P v|.done r=>Q r))
  (he:∀ t:Int,0≤t→t=(l.length:Int)→(∀ v∈l,P v)→Ok (f t) (fun x=>match x with|.next _=>False|.done r=>Q r)):Ok (Z06 f Z08 0) Q:=by
 refine lp (fun t=>t) l.length (fun t=>∀ (j:Nat) v,(j:Int)<t→l[j]?=some v→P v) (fun t hI h0 h1=>?_) (by omega) (fun j v h=>by omega) (by omega) (by omega)
 rcases Int.lt_or_le t (l.length:Int) with hlt|hge
 ·obtain ⟨v,hg,hm,hi⟩:=gri (l:=l) h0 hlt
  refine (h t h0 hlt v hi hm hg).mono fun x hx=>?_
  cases x with
  | done r=>exact hx
  | next t'=>
   obtain ⟨rfl,hP⟩:=hx
   refine ⟨fun j w hj hw=>?_,by dsimp only; omega,by dsimp only; omega⟩
   rcases Int.lt_or_le (j:Int) t with h'|h'
   ·exact hI j w h' hw
   ·have:j=t.toNat:=by omega
    subst this
    rw [hi] at hw; cases hw; exact hP
 ·refine (he t h0 (by omega) fun v hv=>?_).mono fun x hx=>?_
  ·obtain ⟨j,hj⟩:=List.mem_iff_getElem?.1 hv
   exact hI j v (by have:=(List.getElem?_eq_some_iff.1 hj).1; omega) hj
  ·cases x with
   | done r=>exact hx
   | next t'=>exact absurd hx id
def tgt (x:Z01):List Int:=if 36≤x.f_Op∧x.f_Op≤54 then [x.f_To]++x.Z0b else []
theorem Z3u.tosL {x:Z01} (h:Z3u x):x.Z0b.length≤64:=by
 by_cases h1:x.f_Op=53
 ·exact (h.tab h1).2
 ·by_cases h2:x.f_Op=54
  ·have:=h.look h2; omega
  ·rw [h.few h1 h2]; simp
theorem Zwi (x:Z01) (h:Z3u x):Zdf x=some (tgt x):=by
 unfold Zdf tgt
 rw [Zsu]
 have:=h.tosL
 by_cases hb:36≤x.f_Op∧x.f_Op≤54
 ·rw [if_pos hb]
  simp only [Option.bind_some,hb]
  obtain ⟨u,hu,-⟩:=gk (b:=8) (n:=([x.f_To]++x.Z0b).length) (by simp only [List.length_append,List.length_cons,List.length_nil]; omega) (by simp only [List.length_append,List.length_cons,List.length_nil]; omega)
  simp only [List.length_append,List.length_cons,List.length_nil,Nat.zero_add,Nat.add_comm] at hu
  simp [hu]
 ·rw [if_neg hb]
  simp [hb]
theorem put_ok (x:Z01) (at_:List Int) (hx:Z2q x) (hc:Z3u x) (ht:∀ t∈tgt x,t<at_.length):Ok (Zji x at_) (fun r=>r.length≤1000):=by
 have htl:=hc.tosL
 have hbr:36≤x.f_Op→x.f_Op≤54→0≤x.f_To∧x.f_To<at_.length∧∀ v∈x.Z0b,0≤v∧v<at_.length:=fun h h'=>by
  have e:tgt x=[x.f_To]++x.Z0b:=if_pos ⟨h,h'⟩
  rw [e] at ht
  exact ⟨(hc.aim h h').1,ht _ (by simp),fun v hv=>⟨(hc.aim h h').2 v hv,ht v (by simp [hv])⟩⟩
 have num:=fun y n hn=>Y45 y n hn
 unfold Zji
 refine bd (num _ 1 (by omega)) fun v0 h0=>bd (Zg5 x.f_Op) fun k hk=>?_
 obtain ⟨k3,k6,k7,km,k0,k1⟩:=hk
 refine brE (fun _=>?_) fun _=>brE (fun _=>?_) fun _=>brE (fun h3=>?_) fun _=>brE (fun _=>?_) fun _=>brE (fun _=>?_) fun _=>brE (fun h6=>?_) fun _=>brE (fun h7=>?_) fun _=>ok (by omega)
 ·exact bd (num _ 1 (by omega)) fun v1 h1=>bd (ct (by omega)) fun v2 h2=>ok (by omega)
 ·exact bd (num _ 2 (by omega)) fun v1 h1=>bd (ct (by omega)) fun v2 h2=>ok (by omega)
 ·have hb:=hbr (by omega) (by omega)
  exact bd (gr hb.1 hb.2.1) fun v _=>bd (num _ 2 (by omega)) fun v1 h1=>bd (ct (by omega)) fun v2 h2=>ok (by omega)
 ·exact bd (num _ 1 (by omega)) fun v1 h1=>bd (ct (by omega)) fun v2 h2=>ok (by omega)
 ·exact bd (num _ 1 (by omega)) fun v1 h1=>bd (ct (by omega)) fun v2 h2=>bd (num _ 1 (by omega)) fun v3 h3=>bd (ct (by omega)) fun v4 h4=>ok (by omega)
 ·have hb:=hbr (by omega) (by omega)
  refine bd (gr hb.1 hb.2.1) fun v _=>bd (num _ 2 (by omega)) fun v1 h1=>bd (ct (by omega)) fun v2 h2=>bd (num _ 4 (by omega)) fun v3 h3=>bd (ct (by omega)) fun v4 h4=>bd (num _ 2 (by omega)) fun v5 h5=>bd (ct (by omega)) fun v6 h6=>bd (P:=fun r=>r.length≤1000) ?_ fun q hq=>ok hq
  refine lp (fun t=>t.2) x.Z0b.length (fun t=>(t.1.length:Int)≤100+8*t.2) (fun t hI g0 g1=>?_) (by omega) (by dsimp only; omega)
  unfold Zq7
  refine brD (fun hlt=>bd gr fun w hw=>bd (gr (hb.2.2 w hw).1 (hb.2.2 w hw).2) fun z _=>bd (num _ 2 (by omega)) fun y1 e1=>bd (ct (by omega)) fun y2 e2=>bd wr fun k hk=>nx (by dsimp only; omega)) fun _=>dn (by omega)
 ·have hb:=hbr (by omega) (by omega)
  have hlk:=hc.look (by omega)
  refine bd (gr hb.1 hb.2.1) fun v _=>bd (num _ 2 (by omega)) fun v1 h1=>bd (ct (by omega)) fun v2 h2=>bd (num _ 2 (by omega)) fun v3 h3=>bd (ct (by omega)) fun v4 h4=>bd (P:=fun r=>r.length≤1000) ?_ fun q hq=>ok hq
  refine lp (fun t=>t.2) x.Z0r.length (fun t=>(t.1.length:Int)≤100+8*t.2) (fun t hI g0 g1=>?_) (by omega) (by dsimp only; omega)
  unfold Zm8
  refine brD (fun hlt=>bd gr fun w0 hw0=>bd (num _ 4 (by omega)) fun z1 e1=>bd (ct (by omega)) fun z2 e2=>bd gr fun w hw=>bd (gr (hb.2.2 w hw).1 (hb.2.2 w hw).2) fun z _=>bd (num _ 2 (by omega)) fun y1 e1=>bd (ct (by omega)) fun y2 e2=>bd wr fun k hk=>nx (by dsimp only; omega)) fun _=>dn (by omega)
theorem enc_ok (l:List Z01) (hl:∀ i∈l,Z2q i) (hn:l.length≤140737488355328):Ok (Zgy l) (fun r=>r.1.length≤1000000):=by
 unfold Zgy
 refine bd (Zqh l hl hn) fun v0 h0=>brN (fun _=>ok (by simp)) fun h=>?_
 obtain ⟨g1,g2,g3⟩:=h0.1 h
 refine bd (P:=fun q:Unit⊕(List UInt8×Int)=>match q with|.inl _=>∀ i∈l,∀ t∈tgt i,t<l.length|.inr y=>y.1=[]) (Z5f (P:=fun i=>∀ t∈tgt i,t<l.length) hn (fun t h0 h1 i hi hm hg=>?_) fun t h0 h1 ha=>?_) fun q hq=>?_
 ·unfold Zl1
  rw [hg]
  have hf:(tgt i).length≤65:=by
   have:=(g3 i hm).tosL
   unfold tgt; split <;> simp; omega
  refine brD (fun _=>bs ?_) fun h=>absurd h1 h
  rw [Zwi i (g3 i hm)]
  refine bs (bd (P:=fun q:Unit⊕(List UInt8×Int)=>match q with|.inl _=>∀ t∈tgt i,t<l.length|.inr y=>y.1=[]) (Z5f (l:=tgt i) (P:=fun t=>t<(l.length:Int)) (by omega) (fun k k0 k1 v hv hvm hvg=>?_) fun k k0 k1 ha=>?_) fun q hq=>?_)
  ·unfold Zh5
   rw [hvg]
   exact brD (fun _=>bs (brD (fun _=>ok rfl) fun _=>bd wr fun w hw=>ok ⟨hw,by omega⟩)) fun h=>absurd k1 h
  ·unfold Zh5
   exact brD (fun h=>absurd h (by omega)) fun _=>ok ha
  ·cases q with
   | inl _=>exact bd wr fun w hw=>ok ⟨hw,hq⟩
   | inr y=>exact ok hq
 ·unfold Zl1
  exact brD (fun h=>absurd h (by omega)) fun _=>ok ha
 ·cases q with
  | inr y=>exact ok (by rw [hq]; simp)
  | inl _=>
   refine bd (P:=fun r=>r.length≤1000000) (lp (fun t=>t.2) l.length (fun t=>(t.1.length:Int)≤1000*t.2) (fun t hI k0 k1=>?_) (by omega) (by simp)) fun q6 h6=>ok h6
   unfold l82x3
   refine brD (fun hlt=>bd gr fun i hi=>bd (put_ok i v0.1 (hl i hi) (g3 i hi) fun t ht=>by have:=hq i hi t ht; omega) fun y hy=>bd (ct (by omega)) fun z hz=>bd wr fun w hw=>nx (by dsimp only; omega)) fun _=>dn (by omega)
theorem Zw1 (l:List Z0i) (at_:List Int) (hn:l.length≤140737488355328) (h5:∀ v∈l,v.Z22=5→0≤v.Z3e∧v.Z3e<at_.length):Ok (Zd7 l at_) (fun r=>r.length≤1+5*l.length):=by
 unfold Zd7
 refine bd (Zmu _) fun v0 h0=>bd (P:=fun r=>r.length≤1+5*l.length) (lp (fun t=>t.2) l.length (fun t=>(t.1.length:Int)≤1+5*t.2) (fun t hI k0 k1=>?_) (by omega) (by dsimp only; omega)) fun q hq=>ok hq
 unfold l86x1
 refine brD (fun hlt=>?_) fun _=>dn (by omega)
 obtain ⟨v,hg,hm⟩:=gr (l:=l) (i:=t.2) (by omega) hlt
 simp only [hg]
 have hj:∀ p:List UInt8,(p.length:Int)≤1+5*t.2+3→Ok (Zg6 t l p) (St (fun t=>(t.1.length:Int)≤1+5*t.2) (fun t=>t.2) l.length (fun r=>r.length≤1+5*l.length) t):=fun p hp=>by
  unfold Zg6
  simp only [hg]
  exact bs (brD (fun _=>bs (bd (Z4k _) fun z hz=>bd (ct (by omega)) fun y hy=>bd wr fun w hw=>nx (by dsimp only; omega))) fun _=>bd wr fun w hw=>nx (by dsimp only; omega))
 refine bs (bd (Zmu _) fun a ha=>bd (ct (by omega)) fun b hb=>bs (brE (fun h=>bs (bd (gr (h5 v hm h).1 (h5 v hm h).2) fun y _=>bd (Z4k _) fun z hz=>bd (ct (by omega)) fun w hw=>hj w (by omega))) fun _=>hj b (by omega)))
theorem Zvn (l:List Int):Ok (Zfe l) (fun r=>Str r.1):=by
 unfold Zfe
 refine brD (fun _=>ok (by simp)) fun _=>bd (Z4k _) fun v0 h0=>bd (P:=fun q:List UInt8⊕(List UInt8×Int)=>match q with|.inl q=>q.length≤1000|.inr y=>y.1=[]) (lp (fun t=>t.2) l.length (fun t=>(t.1.length:Int)≤2+2*t.2) (fun t hI k0 k1=>?_) (by omega) (by dsimp only; omega)) fun q hq=>?_
 ·unfold l70x1 j70x1
  refine brD (fun hlt=>bd gr fun _ _=>brD (fun _=>dn rfl) fun _=>bd gr fun _ _=>brD (fun _=>dn rfl) fun _=>bd gr fun _ _=>bd (Z4k _) fun y hy=>bd (ct (by omega)) fun z hz=>bd wr fun w hw=>nx (by dsimp only; omega)) fun _=>dn (by dsimp only; omega)
 ·cases q with
  | inl q => exact ok (by have h:q.length≤1000:=hq
                          show q.length≤_; omega)
  | inr y=>exact ok (by rw [hq]; simp)
structure CPre (c:Z0a):Prop where
 ins:∀ i∈c.Z0k,Z2q i
 insL:c.Z0k.length≤140737488355328
 hndL:c.Z1z.length≤140737488355328
 mapL:c.Z1k.length≤140737488355328
 linL:c.Z1u.length≤140737488355328
 frm:∀ m∈c.Z1k,m.Z1m.Z0t.length≤140737488355328∧m.Z1m.Z0x.length≤140737488355328
theorem Z4v.pre {c:Z0a} (h:Z4v c):CPre c:=⟨h.ins,by have:=h.insL; omega,by have:=h.hndL; omega,by have:=h.mapL; omega,by have:=h.linL; omega,fun m hm=>⟨by have:=(h.map m hm).locL; omega,by have:=(h.map m hm).stkL; omega⟩⟩
def Chk0 (l:List Z01):Prop:=∀ i∈l,Z4q i=some 0
theorem all_ok (l:List Z01) (hl:∀ i∈l,Z2q i) (hn:l.length≤140737488355328):Ok (Zh1 l) (fun b=>Chk0 l→b=true):=by
 unfold Zh1
 refine bd (P:=fun q:Unit⊕Bool=>match q with|.inl _=>True|.inr b=>¬ Chk0 l) (li l.length (fun t h0 h1=>?_) (by omega) (by omega) (by omega)) fun q hq=>?_
 ·unfold Zn7
  refine brD (fun _=>bd gr fun i hi=>bdE (Ze1 i (hl i hi)) fun e he _=>brN (fun h=>di fun hc=>h ?_) fun _=>bd wr fun _ _=>ni (by omega) (by omega)) fun _=>di trivial
  rw [hc i hi] at he; cases he; rfl
 ·cases q with
  | inl _=>exact ok fun _=>rfl
  | inr b=>exact ok fun h=>absurd h hq
theorem Y1b (l:List Z01) (hl:∀ i∈l,Z2q i) (hn:l.length≤1000):Ok (Z66 l) (fun r=>Chk0 l→r.2=0∨r.2=8):=by
 unfold Z66
 refine bd (P:=fun q:Unit⊕(List Int×Int)=>match q with|.inl _=>∀ i∈l,Z3u i|.inr y=>¬ Chk0 l) (Z5f (l:=l) (P:=Z3u) (by omega) (fun t h0 h1 i hi hm hg=>?_) fun t h0 h1 ha=>?_) fun q hq=>?_
 ·unfold Zbx
  rw [hg]
  refine brD (fun _=>bs (bdE (Ze1 i (hl i hm)) fun e he hc=>brN (fun h=>ok fun hc=>h ?_) fun h=>bd wr fun w hw=>ok ⟨hw,hc h⟩)) fun h=>absurd h1 h
  rw [hc i hm] at he; cases he; rfl
 ·unfold Zbx
  exact brD (fun h=>absurd h (by omega)) fun _=>ok ha
 ·cases q with
  | inr y=>exact ok fun h=>absurd h hq
  | inl _=>
   have hch:∀ i∈l,Z3u i:=hq
   refine brD (fun h=>absurd h (by omega)) fun _=>bd (P:=fun r=>r.length=l.length+1) ?_ fun q2 hq2=>bd ik fun j hj=>bd (la (by omega)) fun _ _=>brD (fun _=>ok fun _=> .inr rfl) fun _=>ok fun _=> .inl rfl
   refine lp (fun t=>t.1) l.length (fun t=>(t.2.length:Int)=t.1+1∧∀ v∈t.2,0≤v∧v≤400*t.1) (fun t hI h0 h1=>?_) (by omega) ⟨rfl,by simp⟩
   obtain ⟨hI1,hI2⟩:=hI
   unfold Zky
   refine brD (fun hlt=>?_) fun hge=>dn (by omega)
   refine bd ik fun j hj=>bd (la (by omega)) fun v hv=>bd gr fun i hi=>bd (Zzy i (hl i hi) (hch i hi)) fun n hn=>?_
   have hv2:=hI2 v hv.2
   refine bd wr fun w hw=>bd gk fun _ _=>bd wr fun k hk=>?_
   refine nx ⟨by simp only [List.length_append,List.length_cons,List.length_nil]; omega,Z85 (fun v hv=>?_) ?_⟩
   ·have:=hI2 v hv; dsimp only; omega
   ·dsimp only; omega
theorem head_ok (p:List Z00) (c:Z0a) (hp:Z14 p) (hc:CPre c):Ok (Zj9 p c) (fun e=>e=0→PS p 1024∧(c.Z0t≤32∧c.Z0x≤32)∧1≤c.Z0k.length∧c.Z0k.length≤1000∧(Chk0 c.Z0k→∃ v,Z66 c.Z0k=some v∧v.2=0)):=by
 unfold Zj9
 refine bd (Zrt p hp) fun v0 h0=>brN (fun h=>ok fun h'=>absurd h' h) fun h=>?_
 have hps:=h0 h
 have hj:c.Z0t≤32∧c.Z0x≤32→Ok (Ziw c) (fun e=>e=0→PS p 1024∧(c.Z0t≤32∧c.Z0x≤32)∧1≤c.Z0k.length∧c.Z0k.length≤1000∧(Chk0 c.Z0k→∃ v,Z66 c.Z0k=some v∧v.2=0)):=fun hLT=>by
  unfold Ziw Zny
  refine brE (fun _=>ok (by simp)) fun h1=>brD (fun _=>ok (by simp)) fun h2=>bd (all_ok _ hc.ins hc.insL) fun b hb=>br (fun _=>bdE (Y1b _ hc.ins (by omega)) fun v hv hv2=>brE (fun he=>ok fun h=>?_) fun he=>ok fun _=>⟨hps,hLT,by omega,by omega,fun hk=>⟨v,hv,(hv2 hk).resolve_right he⟩⟩) fun hf=>ok fun _=>⟨hps,hLT,by omega,by omega,fun hk=>?_⟩
  ·omega
  ·rw [hb hk] at hf; cases hf
 exact brD (fun _=>ok (by simp)) fun _=>brD (fun _=>ok (by simp)) fun _=>brD (fun _=>ok (by simp)) fun _=>brD (fun _=>ok (by simp)) fun _=>hj ⟨by omega,by omega⟩
theorem has_ok (l:List Int) (x:Int) (hl:l.length≤140737488355328):Ok (Zik l x) (fun _=>True):=by
 unfold Zik
 refine bd (li l.length (Q:=fun _=>True) (fun t h0 h1=>?_) (by omega) (by omega) (by omega)) fun q _=>by cases q <;> exact ok trivial
 unfold Zno
 exact brD (fun _=>bd gr fun _ _=>br (fun _=>di trivial) fun _=>bd wr fun _ _=>ni (by omega) (by omega)) fun _=>di trivial
section
variable {p:List Z00} (hp:p.length≤1000) (hS:PS p 1024)
include hp hS
theorem Zmj (i:Int):Ok (Z94 p i) (fun _=>True):=by
 unfold Z94
 exact bd (Zoc p i (by omega) hS) fun v hv=>brE (fun _=>brD (fun _=>bd gs fun _ _=>ok trivial) fun _=>ok trivial) fun _=>ok trivial
theorem Y0o (i:Int):Ok (Za2 p i) (fun _=>True):=by
 unfold Za2
 exact bd (Zej p i (by omega)) fun v _=>bd (Y26 p i _ (by omega) hS) fun _ _=>brE (fun _=>ok trivial) fun _=>ok trivial
theorem Y2t (x:Z01):Ok (Zln p x) (fun _=>True):=by
 have h2:Ok (Zfw p x) (fun _=>True):=by
  unfold Zfw
  have hn:Ok ((Za2 p x.f_A).bind fun v=>if v=true then some 12 else some 0) (fun _:Int=>True):=bd (Y0o hp hS _) fun _ _=>br (fun _=>ok trivial) fun _=>ok trivial
  exact brE (fun _=>hn) fun _=>brE (fun _=>hn) fun _=>brE (fun _=>hn) fun _=>ok trivial
 unfold Zln
 refine bd (Zej p x.f_A (by omega)) fun v0 h0=>brN (fun _=>ok trivial) fun he=>?_
 have h1:Ok (Z6c v0 p x) (fun _=>True):=by
  unfold Z6c
  exact brE (fun _=>bd (Zfa _ (by have:=hS _ (h0.1 he).mem; unfold Str; omega)) fun _ _=>brN (fun _=>ok trivial) fun _=>brE (fun _=>ok trivial) fun _=>h2) fun _=>h2
 have h3:Ok (if decide (x.f_Op≥59)=true then (if decide (x.f_Op≤66)=true then ((Z94 p v0.1.f_A).bind fun v4=>if (!v4)=true then some 13 else Z6c v0 p x) else Z6c v0 p x) else Z6c v0 p x) (fun _=>True):=
  brD (fun _=>brD (fun _=>bd (Zmj hp hS _) fun _ _=>br! (fun _=>ok trivial) fun _=>h1) fun _=>h1) fun _=>h1
 exact bd (Zxp _) fun v1 g1=>bd (has_ok _ _ (by omega)) fun _ _=>br! (fun _=>ok trivial) fun _=>brE (fun _=>bd (Zmj hp hS _) fun _ _=>br! (fun _=>ok trivial) fun _=>h3) fun _=>h3
theorem Y1q (c:Z0a) (x:Z01) (hx:Z2q x):Ok (Zko p c x) (fun e=>e=0→Z4q x=some 0∧Z3u x):=by
 unfold Zko
 refine bdE (Ze1 x hx) fun v0 e0 h0=>brN (fun h=>ok fun h'=>absurd h' h) fun h=>?_
 have hc:=h0 h
 rw [h] at e0
 rw [Zwi x hc]
 have hj:∀ v7,Ok (Zcq v7 p x) (fun e=>e=0→Z4q x=some 0∧Z3u x):=fun v7=>by
  unfold Zcq
  exact brE (fun _=>bd (Y2t hp hS x) fun _ _=>ok fun _=>⟨e0,hc⟩) fun _=>ok fun _=>⟨e0,hc⟩
 have hf:(tgt x).length≤65:=by
  have:=hc.tosL
  unfold tgt; split <;> simp; omega
 refine bs (bd (P:=fun q:Unit⊕Int=>match q with|.inl _=>True|.inr e=>e≠0) (li (tgt x).length (fun t h0 h1=>?_) (by omega) (by omega) (by omega)) fun q hq=>?_)
 ·unfold Zq1
  exact brD (fun _=>bd gr fun _ _=>brD (fun _=>di (by simp)) fun _=>bd gr fun _ _=>brD (fun _=>di (by simp)) fun _=>bd wr fun _ _=>ni (by omega) (by omega)) fun _=>di trivial
 ·cases q with
  | inr e=>exact ok fun h=>absurd h hq
  | inl _=>exact bd (Zg5 _) fun v7 _=>brE (fun _=>brD (fun _=>ok (by simp)) fun _=>hj _) fun _=>brE (fun _=>brD (fun _=>ok (by simp)) fun _=>hj _) fun _=>hj _
def Zg7 (n:Int) (h:Z0n):Prop:=0≤h.Z5z∧h.Z5z<h.f_To∧h.f_To≤n∧0≤h.Z6b∧h.Z6b<n
theorem row9_ok (n:Int) (h:Z0n):Ok (Zgo p n h) (fun b=>b=true→Zg7 n h):=by
 unfold Zgo
 have z:Ok (some false) (fun b=>b=true→Zg7 n h):=ok fun h=>by cases h
 exact brD (fun h1=>brD (fun h2=>brD (fun h3=>brD (fun h4=>brD (fun h5=>br (fun _=>brE (fun _=>ok fun _=>⟨by omega,h2,h3,by omega,h5⟩) fun _=>bd (Zmj hp hS _) fun _ _=>ok fun _=>⟨by omega,h2,h3,by omega,h5⟩) fun _=>z) fun _=>z) fun _=>z) fun _=>z) fun _=>z) fun _=>z
theorem Zqn (i:Int) (b:Bool):Ok (Zcj p i b) (fun _=>True):=by
 unfold Zcj
 exact bd (Z4e p i (by omega)) fun v hv=>brN (fun _=>ok trivial) fun _=>bd (Zfa _ (by have:=Zct hS hv; unfold Str; omega)) fun _ _=>brN (fun _=>ok trivial) fun _=>brD (fun _=>ok trivial) fun _=>ok trivial
def VOk (n:Int) (v:Z0i):Prop:=v.Z22=5→0≤v.Z3e∧v.Z3e<n
theorem Y5w (c:Z0a) (v:Z0i):Ok (Zjv p c v) (fun b=>b=true→VOk c.Z0k.length v):=by
 unfold Zjv Zqw Zmt
 have z:Ok (some false) (fun b=>b=true→VOk c.Z0k.length v):=ok fun h=>by cases h
 have y:∀ b,v.Z22≠5→Ok (some b) (fun b=>b=true→VOk c.Z0k.length v):=fun b h=>ok fun _ h'=>absurd h' h
 refine br! (fun _=>z) fun _=>brE (fun h=>brE (fun _=>y _ (by omega)) fun _=>z) fun _=>brE (fun h=>brE (fun _=>y _ (by omega)) fun _=>z) fun _=>brE (fun h=>brE (fun _=>y _ (by omega)) fun _=>z) fun _=>brE (fun h=>brE (fun _=>y _ (by omega)) fun _=>z) fun _=>?_
 refine brE (fun h=>brE (fun _=>bd (Zqn hp hS _ _) fun _ _=>y _ (by omega)) fun _=>z) fun _=>brE (fun h=>brE (fun _=>bd (Zqn hp hS _ _) fun _ _=>y _ (by omega)) fun _=>z) fun _=>brE (fun h=>brD (fun h1=>brD (fun h2=>bd gr fun _ _=>brE (fun _=>bd (Zqn hp hS _ _) fun _ _=>ok fun _ _=>⟨by omega,h2⟩) fun _=>z) fun _=>z) fun _=>z) fun _=>z
theorem Zuz (c:Z0a) (l:List Z0i) (hl:l.length≤140737488355328):Ok (Zfo p c l) (fun b=>b=true→∀ v∈l,VOk c.Z0k.length v):=by
 unfold Zfo
 refine bd (P:=fun q:Unit⊕Bool=>match q with|.inl _=>∀ v∈l,VOk c.Z0k.length v|.inr b=>b=false) (Z5f (P:=VOk c.Z0k.length) hl (fun t h0 h1 v hv hm hg=>?_) fun t h0 h1 ha=>?_) fun q hq=>?_
 ·unfold Zjr
  rw [hg]
  exact brD (fun _=>bs (bd (Y5w hp hS c v) fun b hb=>br! (fun _=>ok rfl) fun h=>bd wr fun w hw=>ok ⟨hw,hb h⟩)) fun h=>absurd h1 h
 ·unfold Zjr
  exact brD (fun h=>absurd h (by omega)) fun _=>ok ha
 ·cases q with
  | inl _=>exact ok fun _=>hq
  | inr b=>exact ok fun h=>by cases hq.symm.trans h
def Z9v (n:Int) (m:Z0p):Prop:=0≤m.Z1h∧m.Z1h<n∧(∀ v∈m.Z1m.Z0t,VOk n v)∧(∀ v∈m.Z1m.Z0x,VOk n v)∧m.Z1m.Z0t.length≤32∧m.Z1m.Z0x.length≤32
theorem Y5g (c:Z0a) (hc:CPre c) (hL:c.Z0t≤32) (hT:c.Z0x≤32) (i:Int) (h0:0≤i) (h1:i<c.Z1k.length) (m:Z0p) (hg:Z05 c.Z1k i=some m) (hm:m∈c.Z1k):Ok (Zhz p c i) (fun b=>b=true→Z9v c.Z0k.length m):=by
 have:=hc.mapL
 have z:Ok (some false) (fun b=>b=true→Z9v c.Z0k.length m):=ok fun h=>by cases h
 unfold Zhz
 rw [hg]
 refine bs (brD (fun _=>z) fun g0=>brD (fun _=>z) fun g1=>?_)
 have hj:(m.Z1m.Z0t.length:Int)≤c.Z0t→(m.Z1m.Z0x.length:Int)≤c.Z0x→Ok (Zbp m p c) (fun b=>b=true→Z9v c.Z0k.length m):=fun q1 q2=>by
  unfold Zbp
  exact bd (Zuz hp hS c _ (hc.frm m hm).1) fun b hb=>br (fun h=>bd (Zuz hp hS c _ (hc.frm m hm).2) fun b' hb'=>ok fun h'=>⟨by omega,by omega,hb h,hb' h',by omega,by omega⟩) fun _=>z
 have hk:Ok (if decide ((m.Z1m.Z0t.length:Int)>c.Z0t)=true then some false else if decide ((m.Z1m.Z0x.length:Int)>c.Z0x)=true then some false else Zbp m p c) (fun b=>b=true→Z9v c.Z0k.length m):=brD (fun _=>z) fun q1=>brD (fun _=>z) fun q2=>hj (by omega) (by omega)
 exact brD (fun _=>bd wr fun v1 e1=>bd gr fun v2 _=>brD (fun _=>z) fun _=>hk) fun _=>hk
def LinOk (n:Int) (x:Z15):Prop:=0≤x.Z1h∧x.Z1h<n
structure Zw4 (c:Z0a):Prop where
 hnd:∀ h∈c.Z1z,Zg7 c.Z0k.length h
 map:∀ m∈c.Z1k,Z9v c.Z0k.length m
 lin:∀ x∈c.Z1u,LinOk c.Z0k.length x
theorem Y38 (c:Z0a) (hc:CPre c) (hL:c.Z0t≤32) (hT:c.Z0x≤32):Ok (Zl7 p c) (fun r=>r.2=0→Zw4 c):=by
 have g1:=hc.hndL; have g2:=hc.mapL; have g3:=hc.linL
 unfold Zl7
 refine brD (fun _=>ok (by simp)) fun _=>bd (P:=fun q:Unit⊕(Int×Int)=>match q with|.inl _=>∀ h∈c.Z1z,Zg7 c.Z0k.length h|.inr y=>y.2≠0) (Z5f (P:=Zg7 c.Z0k.length) g1 (fun t h0 h1 v hv hm hg=>?_) fun t h0 h1 ha=>?_) fun q1 hq1=>?_
 ·unfold Zid
  rw [hg]
  exact brD (fun _=>bs (bd (row9_ok hp hS _ v) fun b hb=>br! (fun _=>ok (by simp)) fun h=>bd wr fun w hw=>ok ⟨hw,hb h⟩)) fun h=>absurd h1 h
 ·unfold Zid
  exact brD (fun h=>absurd h (by omega)) fun _=>ok ha
 cases q1 with
 | inr y=>exact ok fun h=>absurd h hq1
 | inl _=>
 refine bd (P:=fun q:Unit⊕(Int×Int)=>match q with|.inl _=>∀ m∈c.Z1k,Z9v c.Z0k.length m|.inr y=>y.2≠0) (Z5f (P:=Z9v c.Z0k.length) g2 (fun t h0 h1 v hv hm hg=>?_) fun t h0 h1 ha=>?_) fun q2 hq2=>?_
 ·unfold Zlx
  exact brD (fun _=>bd (Y5g hp hS c hc hL hT t h0 h1 v hg hm) fun b hb=>br! (fun _=>ok (by simp)) fun h=>bd wr fun w hw=>ok ⟨hw,hb h⟩) fun h=>absurd h1 h
 ·unfold Zlx
  exact brD (fun h=>absurd h (by omega)) fun _=>ok ha
 cases q2 with
 | inr y=>exact ok fun h=>absurd h hq2
 | inl _=>
 refine bd (P:=fun q:Unit⊕(Int×Int)=>match q with|.inl _=>∀ x∈c.Z1u,LinOk c.Z0k.length x|.inr y=>y.2≠0) (Z5f (P:=LinOk c.Z0k.length) g3 (fun t h0 h1 v hv hm hg=>?_) fun t h0 h1 ha=>?_) fun q3 hq3=>?_
 ·unfold Zi5
  rw [hg]
  exact brD (fun _=>bs (brD (fun _=>ok (by simp)) fun k0=>brD (fun _=>ok (by simp)) fun k1=>brD (fun _=>bd wr fun w hw=>bd gr fun _ _=>brD (fun _=>ok (by simp)) fun _=>brD (fun _=>ok (by simp)) fun _=>brD (fun _=>ok (by simp)) fun _=>bd wr fun w hw=>ok ⟨hw,by omega,by omega⟩) fun _=>brD (fun _=>ok (by simp)) fun _=>brD (fun _=>ok (by simp)) fun _=>bd wr fun w hw=>ok ⟨hw,by omega,by omega⟩)) fun h=>absurd h1 h
 ·unfold Zi5
  exact brD (fun h=>absurd h (by omega)) fun _=>ok ha
 cases q3 with
 | inr y=>exact ok fun h=>absurd h hq3
 | inl _=>exact ok fun _=>⟨hq1,hq2,hq3⟩
end
theorem Zz0 (p:List Z00) (c:Z0a) (hp:Z14 p) (hc:CPre c):Ok (Zfs p c) (fun r=>r.2=0→Zw4 c∧∃ v,Z66 c.Z0k=some v∧v.2=0):=by
 unfold Zfs
 refine bd (head_ok p c hp hc) fun v0 h0=>brN (fun h=>ok fun h'=>absurd h' h) fun h=>?_
 obtain ⟨hS,⟨hL,hT⟩,hn1,hn2,hoff⟩:=h0 h
 have hl:=hp.len
 refine bd (P:=fun q:Unit⊕(Int×Int)=>match q with|.inl _=>∀ i∈c.Z0k,Z4q i=some 0|.inr y=>y.2≠0) (Z5f (l:=c.Z0k) (P:=fun i=>Z4q i=some 0) (by omega) (fun t h0 h1 v hv hm hg=>?_) fun t h0 h1 ha=>?_) fun q hq=>?_
 ·unfold Zgs
  rw [hg]
  exact brD (fun _=>bs (bd (Y1q hl hS c v (hc.ins v hm)) fun e he=>brN (fun h=>ok h) fun h=>bd wr fun w hw=>ok ⟨hw,(he h).1⟩)) fun h=>absurd h1 h
 ·unfold Zgs
  exact brD (fun h=>absurd h (by omega)) fun _=>ok ha
 ·cases q with
  | inr y=>exact ok fun h=>absurd h hq
  | inl _=>
   refine bd wr fun v6 e6=>bd gr fun v7 _=>bd (P:=fun _=>True) ?_ fun v8 _=>br! (fun _=>bd wr fun _ _=>ok (by simp)) fun _=>bd (Y38 hl hS c hc hL hT) fun r hr=>ok fun h=>⟨hr h,hoff hq⟩
   unfold Zrb
   rw [Zqg]
   exact bs (br (fun _=>ok trivial) fun _=>ok trivial)
end Go.Proofs
set_option linter.unusedVariables false
namespace Go.Proofs
open Go.Den Go.Tot
theorem Y5i (p:List Z00) (c:Z0a) (hp:Z14 p) (hc:Z4v c):Ok (Zjq p c) (fun r=>Str r.1):=by
 have gI:=hc.insL; have gH:=hc.hndL; have gM:=hc.mapL; have gL:=hc.linL
 unfold Zjq
 refine bd (Zz0 p c hp hc.pre) fun v0 h0=>brN (fun _=>ok (by simp)) fun h=>?_
 obtain ⟨hk,v,hv,hv2⟩:=h0 h
 rw [hv]
 obtain ⟨r,hr,hr2⟩:=Zqh c.Z0k hc.ins (by omega)
 rw [hv] at hr; cases hr
 obtain ⟨hlen,hn,-⟩:=hr2.1 hv2
 refine bs (bd (enc_ok _ hc.ins (by omega)) fun v2 h2=>bd (Zg2 _ 4 (by omega)) fun v3 h3=>bd (Z4k _) fun v4 h4=>bd (Z4k _) fun v5 h5=>bd (ct (by omega)) fun v6 h6=>bd (ct (by omega)) fun v7 h7=>bd (ct (by omega)) fun v8 h8=>bd (Z4k _) fun v9 h9=>bd (ct (by omega)) fun v10 h10=>?_)
 -- the lists are short by what they hold; here their lengths in memory do
 refine bd (P:=fun r=>(r.length:Int)≤2000000+8*c.Z1z.length) (lp (fun t=>t.2) c.Z1z.length (fun t=>(t.1.length:Int)≤2000000+8*t.2) (fun t hI g0 g1=>?_) (by omega) (by dsimp only; omega)) fun q0 hq0=>?_
 ·unfold l69x1
  refine brD (fun hlt=>bd gr fun x hx=>?_) fun _=>dn (by omega)
  obtain ⟨k1,k2,k3,k4,k5⟩:=hk.hnd x hx
  exact bd gr fun _ _=>bd (Z4k _) fun a ha=>bd (ct (by omega)) fun b hb=>bd gr fun _ _=>bd (Z4k _) fun a2 ha2=>bd (ct (by omega)) fun b2 hb2=>bd gr fun _ _=>bd (Z4k _) fun a3 ha3=>bd (ct (by omega)) fun b3 hb3=>bd (Z4k _) fun a4 ha4=>bd (ct (by omega)) fun b4 hb4=>bd wr fun w hw=>nx (by dsimp only; omega)
 refine bd (Z4k _) fun v36 h36=>bd (ct (by omega)) fun v37 h37=>?_
 refine bd (P:=fun r=>(r.length:Int)≤30000000000000+400*c.Z1k.length) (lp (fun t=>t.2) c.Z1k.length (fun t=>(t.1.length:Int)≤30000000000000+400*t.2) (fun t hI g0 g1=>?_) (by omega) (by dsimp only; omega)) fun q2 hq2=>?_
 ·unfold l69x2
  refine brD (fun hlt=>bd gr fun m hm=>?_) fun _=>dn (by omega)
  obtain ⟨k1,k2,k3,k4,k5,k6⟩:=hk.map m hm
  have hj:∀ x,Ok (Zdh t v m x) (St (fun t=>(t.1.length:Int)≤30000000000000+400*t.2) (fun t=>t.2) c.Z1k.length (fun r=>(r.length:Int)≤30000000000000+400*c.Z1k.length) t):=fun x=>by
   unfold Zdh
   refine bd gr fun _ _=>bd (Z4k _) fun a ha=>bd (ct (by omega)) fun b hb=>bd (Zmu _) fun a2 ha2=>bd (ct (by omega)) fun b2 hb2=>bd (Zw1 _ v.1 (by omega) fun y hy h5=>?_) fun a3 ha3=>bd (ct (by omega)) fun b3 hb3=>bd (Zw1 _ v.1 (by omega) fun y hy h5=>?_) fun a4 ha4=>bd (ct (by omega)) fun b4 hb4=>bd wr fun w hw=>nx (by dsimp only; omega)
   ·have:=k3 y hy h5; omega
   ·have:=k4 y hy h5; omega
  exact br (fun _=>hj _) fun _=>hj _
 refine bd (Z4k _) fun v59 h59=>bd (ct (by omega)) fun v60 h60=>bd (P:=fun r=>(r.length:Int)≤2000000000000000+4*c.Z1u.length) (lp (fun t=>t.2) c.Z1u.length (fun t=>(t.1.length:Int)≤2000000000000000+4*t.2) (fun t hI g0 g1=>?_) (by omega) (by dsimp only; omega)) fun q4 hq4=>ok (by dsimp only; omega)
 unfold l69x3
 refine brD (fun hlt=>?_) fun _=>dn (by omega)
 obtain ⟨x,hg,hm⟩:=gr (l:=c.Z1u) (i:=t.2) (by omega) hlt
 obtain ⟨k1,k2⟩:=hk.lin x hm
 simp only [hg]
 exact bs (bd gr fun _ _=>bd (Z4k _) fun a ha=>bd (ct (by omega)) fun b hb=>bs (bd (Z4k _) fun a2 ha2=>bd (ct (by omega)) fun b2 hb2=>bd wr fun w hw=>nx (by dsimp only; omega)))
theorem Zco (l:List Int) (x:Int) (hl:l.length≤140737488355328):Ok (Z7b l x) (fun _=>True):=by
 unfold Z7b
 refine bd (P:=fun _=>True) (li (max 0 (l.length:Int)) (fun t h0 h1=>?_) (by omega) (by omega) (by omega)) fun q _=>by cases q <;> exact ok trivial
 unfold Zqb
 exact bd wr fun v hv=>brD (fun _=>bd gr fun _ _=>br (fun _=>di trivial) fun _=>bd wr fun _ _=>ni (by omega) (by omega)) fun _=>di trivial
theorem edge_ok (l:List Int) (x:Int) (hl:l.length≤140737488355328):Ok (Zka l x) (fun _=>True):=by
 unfold Zka Zlv
 have hj:Ok ((Z7b l x).bind fun v3=>some v3) (fun _=>True):=bd (Zco l x hl) fun _ _=>ok trivial
 exact brD (fun _=>bd wr fun v hv=>bd gr fun _ _=>br (fun _=>bd wr fun _ _=>ok trivial) fun _=>hj) fun _=>hj
theorem Zx2 (l:List Z0i) (at_:List Int) (hl:l.length≤256) (ha:at_.length≤140737488355328):Ok (Zf4 l at_) (fun r=>r.1.length≤256):=by
 unfold Zf4
 refine bd (P:=fun q:List Z0i⊕(List Z0i×Bool)=>match q with|.inl q=>q.length≤256|.inr y=>y.1=[]) (lp (fun t=>t.1) l.length (fun t=>(t.2.length:Int)=t.1) (fun t hI g0 g1=>?_) (by omega) rfl) fun q hq=>?_
 ·unfold Zob
  have hd:t.2.length≤256:=by omega
  have hj:∀ (v:Z0i) (p:Int),t.1<l.length→Ok (Zgk t v p) (St (fun t=>(t.2.length:Int)=t.1) (fun t=>t.1) l.length (fun q:List Z0i⊕(List Z0i×Bool)=>match q with|.inl q=>q.length≤256|.inr y=>y.1=[]) t):=fun v p hlt=>by
   unfold Zgk
   exact bd gk fun _ _=>bd wr fun w hw=>nx (by simp only [List.length_append,List.length_cons,List.length_nil]; omega)
  exact brD (fun hlt=>bd gr fun v _=>brE (fun _=>bd (Zco at_ _ ha) fun w _=>brD (fun _=>dn rfl) fun _=>hj _ _ hlt) fun _=>hj _ _ hlt) fun _=>dn hd
 ·cases q with
  | inl q=>exact ok hq
  | inr y=>exact ok (by rw [hq]; simp)
theorem Y2y (s:List UInt8) (k:Z3b) (at_:List Int) (hk:TkOk s k) (ha:at_.length≤140737488355328):Ok (Zle k at_) (fun r=>r.2=0→r.1.Z1z.length≤65536∧r.1.Z1k.length≤65536∧r.1.Z1u.length≤65536∧∀ m∈r.1.Z1k,m.Z1m.Z0t.length≤256∧m.Z1m.Z0x.length≤256):=by
 have g1:=hk.hndL; have g2:=hk.mapL; have g3:=hk.lin; have g4:=hk.raw
 unfold Zle
 refine bd (P:=fun q:List Z0n⊕(Z0a×Int)=>match q with|.inl q=>q.length≤65536|.inr y=>y.2≠0) (lp (fun t=>t.1) k.f_C.Z1z.length (fun t=>(t.2.length:Int)=t.1) (fun t hI h0 h1=>?_) (by omega) rfl) fun q1 hq1=>?_
 ·unfold Zpp Zmo
  have hd:t.2.length≤65536:=by omega
  exact brD (fun hlt=>bd gr fun v _=>bd (Zco at_ _ ha) fun _ _=>bd (edge_ok at_ _ ha) fun _ _=>bd (Zco at_ _ ha) fun _ _=>brD (fun _=>dn (by simp)) fun _=>brD (fun _=>dn (by simp)) fun _=>brD (fun _=>dn (by simp)) fun _=>bd gk fun _ _=>bd wr fun w hw=>nx (by simp only [List.length_append,List.length_cons,List.length_nil]; omega)) fun _=>dn hd
 cases q1 with
 | inr y=>exact ok fun h=>absurd h hq1
 | inl q1=>
 have hq1':q1.length≤65536:=hq1
 refine bd (P:=fun q:List Z0p⊕(Z0a×Int)=>match q with|.inl q=>q.length≤65536∧∀ m∈q,m.Z1m.Z0t.length≤256∧m.Z1m.Z0x.length≤256|.inr y=>y.2≠0) (lp (fun t=>t.1) k.f_C.Z1k.length (fun t=>(t.2.length:Int)=t.1∧∀ m∈t.2,m.Z1m.Z0t.length≤256∧m.Z1m.Z0x.length≤256) (fun t hI h0 h1=>?_) (by omega) ⟨rfl,Z40⟩) fun q2 hq2=>?_
 ·obtain ⟨hI1,hI2⟩:=hI
  unfold Zq9 Znc
  refine brD (fun hlt=>bd gr fun v hv=>?_) fun _=>dn ⟨by omega,hI2⟩
  obtain ⟨f1,f2⟩:=hk.map v hv
  refine bd (Zco at_ _ ha) fun _ _=>bd (Zx2 _ at_ f1.1 ha) fun a ha'=>bd (Zx2 _ at_ f2.1 ha) fun b hb'=>brD (fun _=>dn (by simp)) fun _=>br! (fun _=>dn (by simp)) fun _=>br! (fun _=>dn (by simp)) fun _=>bd gr fun _ _=>brD (fun _=>dn (by simp)) fun _=>bd gk fun _ _=>bd wr fun w hw=>nx ⟨by simp only [List.length_append,List.length_cons,List.length_nil]; omega,Z85 hI2 ⟨ha',hb'⟩⟩
 cases q2 with
 | inr y=>exact ok fun h=>absurd h hq2
 | inl q2=>
 obtain ⟨e1,e2⟩:=hq2
 refine bd (P:=fun q:List Z15⊕(Z0a×Int)=>match q with|.inl q=>q.length≤65536|.inr y=>y.2≠0) (lp (fun t=>t.1) k.f_C.Z1u.length (fun t=>(t.2.length:Int)=t.1) (fun t hI h0 h1=>?_) (by omega) rfl) fun q3 hq3=>?_
 ·unfold Zmp
  have hd:t.2.length≤65536:=by omega
  exact brD (fun hlt=>bd gr fun v _=>bd (Zco at_ _ ha) fun _ _=>brD (fun _=>dn (by simp)) fun _=>bd gk fun _ _=>bd wr fun w hw=>nx (by simp only [List.length_append,List.length_cons,List.length_nil]; omega)) fun _=>dn hd
 cases q3 with
 | inr y=>exact ok fun h=>absurd h hq3
 | inl q3=>exact ok fun _=>⟨hq1',e1,hq3,e2⟩
theorem Zxq (p:List Z00) (s:List UInt8) (hp:Z14 p) (hs:Str s):Ok (Zil p s) (fun _=>True):=by
 unfold Zil
 refine bd (Y5l s hs) fun v0 h0=>br (fun _=>ok trivial) fun _=>bd (dec_ok _) fun v1 h1=>brN (fun _=>ok trivial) fun h=>?_
 obtain ⟨k1,k2⟩:=h1 h
 refine bd (Zqh v1.1 (fun i hi=>(k1 i hi).w) (by omega)) fun v2 h2=>brN (fun _=>ok trivial) fun _=>bd (Y2y s v0.1 v2.1 h0 (by have:=h2.2; omega)) fun v3 h3=>brN (fun _=>ok trivial) fun h=>?_
 obtain ⟨e1,e2,e3,e4⟩:=h3 h
 exact brN (fun _=>ok trivial) fun _=>bd (Zz0 p _ hp ⟨fun i hi=>(k1 i hi).w,by dsimp only; omega,by dsimp only; omega,by dsimp only; omega,by dsimp only; omega,fun m hm=>by have:=e4 m hm; dsimp only at *; omega⟩) fun v4 _=>brN (fun _=>ok trivial) fun _=>ok trivial
theorem Y0m (s:List UInt8) (hs:Str s):Ok (Zia s) (fun r=>r.1.length≤65536):=by
 unfold Zia
 refine bd (Z3t s _ 2 (by omega) hs ⟨rfl,by dsimp only; omega,by dsimp only; omega⟩) fun v0 h0=>bd (P:=RdT s 65536 fun _=>True) (rdL (n:=v0.1) ⟨h0.1.1,h0.1.2.2.1 rfl⟩ h0.2 fun t hI g0 g1 hd=>?_) fun q hq=>br (fun _=>ok (by simp)) fun _=>brN (fun _=>ok (by simp)) fun _=>bd (Zvn _) fun _ _=>brN (fun _=>ok (by simp)) fun _=>ok hq.2.1
 have hl:=hI.2.1
 have:=h0.1.2.2.1 rfl
 unfold Zp5
 refine brD (fun hlt=>br! (fun _=>?_) fun _=>dn hd) fun _=>dn hd
 unfold Zps
 exact bd (Z3t s _ 2 (by omega) hs hI.1) fun v1 h1=>bd gk fun _ _=>bd wr fun _ hv=>nx ⟨h1.2,by simp only [List.length_append,List.length_cons,List.length_nil]; omega,Z85 hI.2.2 trivial⟩
end Go.Proofs
set_option linter.unusedVariables false
namespace Go.Proofs
open Go.Den Go.Tot
section
variable {p:List Z00} (hp:p.length≤1000)
include hp
theorem Zmn (a:Z19) (s:List UInt8):Ok (Zbo p a s) (fun _=>True):=by
 unfold Zbo
 exact bd (Z4e p _ (by omega)) fun _ _=>brE (fun _=>ok trivial) fun _=>ok trivial
theorem Zux (l:List Z0f) (i:Int) (hl:l.length≤140737488355328) (h0:0≤i) (h1:i<l.length):Ok (Zes p l i) (fun _=>True):=by
 unfold Zes
 refine bd (gr h0 h1) fun _ _=>bd (Z4e p _ (by omega)) fun v1 _=>bd (gr h0 h1) fun _ _=>bd (Z4e p _ (by omega)) fun v3 _=>bd (P:=fun _=>True) (li i (fun t g0 g1=>?_) (by omega) (by omega) (by omega)) fun q _=>by cases q <;> exact ok trivial
 unfold Zon
 exact brD (fun _=>bd gr fun _ _=>bd (Z4e p _ (by omega)) fun _ _=>bd gr fun _ _=>bd (Z4e p _ (by omega)) fun _ _=>br (fun _=>br (fun _=>di trivial) fun _=>bd wr fun _ _=>ni (by omega) (by omega)) fun _=>bd wr fun _ _=>ni (by omega) (by omega)) fun _=>di trivial
theorem Y0u (i:Int) (d:List UInt8):Ok (Zd0 p i d) (fun _=>True):=by
 unfold Zd0
 refine bd (Zej p i (by omega)) fun v _=>brN (fun _=>ok trivial) fun _=>?_
 repeat' first
  | exact ok trivial
  | with_reducible refine br (fun _=>?_) fun _=>?_
theorem Y2v (m:Z0f) (d:List UInt8) (hm:∀ a∈m.Z1j,Str a.Z2h):Ok (Z87 p m d) (fun _=>True):=by
 unfold Z87 Zir
 refine brE (fun _=>ok trivial) fun _=>bd gr fun a ha=>brD (fun _=>ok trivial) fun _=>bs (br (fun _=>ok trivial) fun _=>bd (Zmn hp _ _) fun _ _=>br! (fun _=>ok trivial) fun _=>brN (fun _=>ok trivial) fun _=>bd (Ze2 _ 0 2 (by omega) (hm a ha)) fun _ _=>bd (Y0u hp _ _) fun _ _=>ok trivial)
theorem Ztc (l:List Z19) (s:List UInt8) (hl:l.length≤140737488355328) (ha:∀ a∈l,Str a.Z2h):Ok (Zgi p l s) (fun r=>Str r.1∧0≤r.2∧r.2≤l.length):=by
 unfold Zgi
 refine bd (P:=fun q:List UInt8×Int=>Str q.1∧0≤q.2∧q.2≤(l.length:Int)) (lp (fun t=>t.2.2) l.length (fun t=>Str t.1∧0≤t.2.1∧t.2.1≤t.2.2) (fun t hI h0 h1=>?_) (by omega) ⟨by simp,by dsimp only; omega,by dsimp only; omega⟩) fun q hq=>ok hq
 obtain ⟨hI1,hI2,hI3⟩:=hI
 unfold Zp4
 exact brD (fun hlt=>bd gr fun a _=>bd (Zmn hp _ _) fun _ _=>br (fun _=>bd gr fun b hb=>bd wr fun _ _=>bd wr fun _ _=>nx ⟨ha b hb,by dsimp only; omega,by dsimp only; omega⟩) fun _=>bd wr fun _ _=>nx ⟨hI1,by dsimp only; omega,by dsimp only; omega⟩) fun _=>dn ⟨hI1,by dsimp only; omega,by dsimp only; omega⟩
variable (hS:PS p 1024)
include hS
theorem Zd8 (i:Int):Ok (Z8j p i) (fun _=>True):=by
 unfold Z8j Zoy
 exact brD (fun _=>ok trivial) fun _=>brD (fun _=>ok trivial) fun _=>bd (Zoc p i (by omega) hS) fun v hv=>brN (fun _=>ok trivial) fun _=>brE (fun _=>ok trivial) fun _=>bd gs fun _ _=>brE (fun _=>ok trivial) fun _=>ok trivial
theorem Zzc (l:List Int) (s:List UInt8) (hl:l.length≤140737488355328):Ok (Zd6 p l s) (fun _=>True):=by
 unfold Zd6
 refine bd (P:=fun _=>True) (li l.length (fun t h0 h1=>?_) (by omega) (by omega) (by omega)) fun q _=>by cases q <;> exact ok trivial
 unfold Zpd
 exact brD (fun _=>bd gr fun _ _=>bd (Zd8 hp hS _) fun _ _=>brE (fun _=>br (fun _=>di trivial) fun _=>bd wr fun _ _=>ni (by omega) (by omega)) fun _=>bd wr fun _ _=>ni (by omega) (by omega)) fun _=>di trivial
end
theorem Y4o (x y:Int):Ok (Z8d x y) (fun _=>True):=bs (ok trivial)
theorem Zti (x y:Int):Ok (Za0 x y) (fun _=>True):=by
 unfold Za0
 exact brD (fun _=>bs (ok trivial)) fun _=>ok trivial
theorem Y4d (x:Int):Ok (Zem x) (fun _=>True):=by
 unfold Zem Zh4 Zjk
 have h:∀ n:Int,Ok ((some (Z2k .i64 x (4:Int))).bind fun v3=>if (v3 !=0)=true then ((some (IntKind.wrap .i64 (n+(1:Int)))).bind fun v4=>some (decide (v4≤1))) else (some (decide (n≤1)))) (fun _=>True):=fun n=>bs (br (fun _=>bs (ok trivial)) fun _=>ok trivial)
 have h1:∀ n:Int,Ok ((some (Z2k .i64 x (2:Int))).bind fun v1=>if (v1 !=0)=true then ((some (IntKind.wrap .i64 (n+(1:Int)))).bind fun v2=>(some (Z2k .i64 x (4:Int))).bind fun v3=>if (v3 !=0)=true then ((some (IntKind.wrap .i64 (v2+(1:Int)))).bind fun v4=>some (decide (v4≤1))) else (some (decide (v2≤1)))) else ((some (Z2k .i64 x (4:Int))).bind fun v3=>if (v3 !=0)=true then ((some (IntKind.wrap .i64 (n+(1:Int)))).bind fun v4=>some (decide (v4≤1))) else (some (decide (n≤1))))) (fun _=>True):=fun n=>bs (br (fun _=>bs (h _)) fun _=>h _)
 exact bs (br (fun _=>h1 1) fun _=>h1 0)
theorem Zpo (s:List UInt8) (x:Int):Ok (Zam s x) (fun _=>True):=by
 unfold Zam Zcz Zb8
 repeat' first
  | exact ok trivial
  | with_reducible refine br (fun _=>?_) fun _=>?_
  | with_reducible refine bd (Y4o _ _) fun _ _=>?_
  | with_reducible refine bd (Zti _ _) fun _ _=>?_
  | with_reducible refine bd (Y4d _) fun _ _=>?_
  | with_reducible refine bs ?_
structure Z7x (f:Z13):Prop where
 pool:Z14 f.Z20
 ifsL:f.Z1f.length≤140737488355328
 fldL:f.Z0g.length≤140737488355328
 metL:f.Z10.length≤140737488355328
 attL:f.Z1j.length≤140737488355328
 att:∀ a∈f.Z1j,Str a.Z2h
 mem:∀ m,m∈f.Z0g∨m∈f.Z10→m.Z1j.length≤140737488355328∧∀ a∈m.Z1j,Str a.Z2h
def FewF (f:Z13):Prop:=f.Z1f.length≤8∧f.Z0g.length≤64∧f.Z10.length≤64
theorem Y10 (f:Z13) (hf:Z7x f):Ok (Zl4 f) (fun b=>b=false→FewF f):=by
 have g1:=hf.fldL; have g2:=hf.metL
 unfold Zl4 Zm5
 refine brD (fun _=>ok (by simp)) fun _=>brD (fun _=>ok (by simp)) fun _=>brD (fun _=>ok (by simp)) fun _=>brD (fun _=>ok (by simp)) fun _=>?_
 have hd:FewF f:=⟨by omega,by omega,by omega⟩
 refine bd (P:=fun _=>True) (li f.Z0g.length (fun t h0 h1=>?_) (by omega) (by omega) (by omega)) fun q _=>?_
 ·unfold Zmi
  exact brD (fun _=>bd gr fun _ _=>brD (fun _=>di trivial) fun _=>bd wr fun _ _=>ni (by omega) (by omega)) fun _=>di trivial
 cases q with
 | inr _=>exact ok fun _=>hd
 | inl _=>
  refine bd (P:=fun _=>True) (li f.Z10.length (fun t h0 h1=>?_) (by omega) (by omega) (by omega)) fun q _=>by cases q <;> exact ok fun _=>hd
  unfold Zns
  exact brD (fun _=>bd gr fun _ _=>brD (fun _=>di trivial) fun _=>bd wr fun _ _=>ni (by omega) (by omega)) fun _=>di trivial
theorem Y3q (f:Z13) (hf:Z7x f) (hS:PS f.Z20 1024):Ok (Zk2 f) (fun e=>e=0→FewF f):=by
 have hp:=hf.pool.len
 have hi:=hf.ifsL
 have h3:∀ a (v:List UInt8×Int),Ok (Ze8 a v f) (fun e=>e=0→FewF f):=fun a v=>by
  unfold Ze8
  exact bd (Y10 f hf) fun b hb=>br (fun _=>ok (by simp)) fun h=>br (fun _=>ok (by simp)) fun _=>bd (Zzc hp hS _ _ hi) fun _ _=>br (fun _=>ok (by simp)) fun _=>ok fun _=>hb h
 have h2:∀ (v:List UInt8×Int) a,Ok (Zeg v f a) (fun e=>e=0→FewF f):=fun v a=>by
  unfold Zeg
  exact bd (Zpo _ _) fun _ _=>br! (fun _=>ok (by simp)) fun _=>br (fun _=>ok (by simp)) fun _=>bs (br (fun _=>br (fun _=>ok (by simp)) fun _=>h3 _ _) fun _=>h3 _ _)
 have h1:Ok (Zec f) (fun e=>e=0→FewF f):=by
  unfold Zec
  exact bd (Zd8 hp hS _) fun v _=>brN (fun h=>ok fun h'=>absurd h' h) fun _=>brN (fun _=>bd (Zd8 hp hS _) fun w _=>brN (fun h=>ok fun h'=>absurd h' h) fun _=>h2 _ _) fun _=>h2 _ _
 have hpl:∀ i,Ok (Zg9 f.Z20 i) (fun _=>True):=fun i=>by
  unfold Zg9
  exact brD (fun _=>ok trivial) fun _=>ok trivial
 unfold Zk2
 exact bd (hpl _) fun _ _=>br! (fun _=>ok (by simp)) fun _=>brN (fun _=>bd (hpl _) fun _ _=>br! (fun _=>ok (by simp)) fun _=>h1) fun _=>h1
theorem Y2a (f:Z13) (hf:Z7x f) (hS:PS f.Z20 1024) (i:Int) (h0:0≤i) (h1:i<f.Z1f.length):Ok (Zh0 f i) (fun _=>True):=by
 have:=hf.ifsL
 unfold Zh0
 exact bd (gr h0 h1) fun _ _=>bd (Zd8 hf.pool.len hS _) fun _ _=>brN (fun _=>ok trivial) fun _=>bd (sb (by omega) (by omega) (by omega)) fun r hr=>bd (Zzc hf.pool.len hS r _ (by have:=hr.1; omega)) fun _ _=>br (fun _=>ok trivial) fun _=>ok trivial
theorem Y4f (f:Z13) (hf:Z7x f) (hS:PS f.Z20 1024) (i:Int) (h0:0≤i) (h1:i<f.Z0g.length):Ok (Z82 f i) (fun _=>True):=by
 have hp:=hf.pool.len
 have hl:f.Z20.length≤140737488355328:=by omega
 unfold Z82
 refine bd (gr h0 h1) fun m hm=>bd (Z4e _ _ hl) fun v1 e1=>brN (fun _=>ok trivial) fun _=>bd (Zo1 _ (by have:=Zct hS e1; unfold Str; omega)) fun b hb=>br! (fun _=>ok trivial) fun h=>?_
 have hpos:=hb h
 refine bd gs fun _ _=>br (fun _=>ok trivial) fun _=>?_
 have h3:∀ v4 w,Ok (Zah m v4 f i w) (fun _=>True):=fun v4 w=>by
  unfold Zah
  exact bd (Zpo _ _) fun _ _=>br! (fun _=>ok trivial) fun _=>bd (Zux hp _ i hf.fldL h0 h1) fun _ _=>br (fun _=>ok trivial) fun _=>bd (Y2v hp m _ (hf.mem m (.inl hm)).2) fun _ _=>br! (fun _=>ok trivial) fun _=>ok trivial
 unfold Zic Ze3
 exact bd (Z4e _ _ hl) fun v4 e4=>brN (fun _=>ok trivial) fun _=>bd (Zfa _ (by have:=Zct hS e4; unfold Str; omega)) fun _ _=>brN (fun _=>ok trivial) fun _=>br (fun _=>ok trivial) fun _=>bs (br (fun _=>h3 _ _) fun _=>h3 _ _)
theorem Y30 (f:Z13) (hf:Z7x f) (hS:PS f.Z20 1024) (m:Z0f):Ok (Zll f m) (fun r=>r.2.1.Z7u.length≤1048576):=by
 have hl:f.Z20.length≤140737488355328:=by have:=hf.pool.len; omega
 have h1:∀ v0,Ok (Zf7 v0 f m) (fun r=>r.2.1.Z7u.length≤1048576):=fun v0=>by
  unfold Zf7
  refine bd (Z4e _ _ hl) fun v3 e3=>brN (fun _=>ok (by simp)) fun _=>bd (Zpw _ (by have:=Zct hS e3; omega)) fun v4 e4=>brN (fun _=>ok (by simp)) fun _=>?_
  repeat' first
   | exact ok e4
   | exact ok (by simp)
   | with_reducible refine br (fun _=>?_) fun _=>?_
 unfold Zll
 exact bd (Z4e _ _ hl) fun v0 e0=>brN (fun _=>ok (by simp)) fun _=>bd (Zo1 _ (by have:=Zct hS e0; unfold Str; omega)) fun _ _=>br! (fun _=>ok (by simp)) fun _=>br (fun _=>bs (br (fun _=>ok (by simp)) fun _=>h1 _)) fun _=>h1 _
theorem Y2i (f:Z13) (m:Z0f) (s:List UInt8):Ok (Zjn f m s) (fun _=>True):=by
 unfold Zjn Zja
 repeat' first
  | exact ok trivial
  | with_reducible refine br (fun _=>?_) fun _=>?_
  | with_reducible refine bd (Zpo _ _) fun _ _=>?_
  | with_reducible refine bd (Zti _ _) fun _ _=>?_
  | with_reducible refine bs ?_
theorem Y4x (f:Z13) (hf:Z7x f) (hS:PS f.Z20 1024) (m:Z0f) (hm:m.Z1j.length≤140737488355328∧∀ a∈m.Z1j,Str a.Z2h) (g:Z2o) (hg:g.Z7u.length≤1048576):Ok (Zjo f.Z20 m g) (fun _=>True):=by
 have hp:=hf.pool.len
 unfold Zjo
 refine bd (Ztc hp _ _ hm.1 hm.2) fun v0 e0=>bd (Ztc hp _ _ hm.1 hm.2) fun v1 e1=>bs (brD (fun _=>ok trivial) fun _=>brD (fun _=>ok trivial) fun _=>bd wr fun _ _=>brN (fun _=>ok trivial) fun _=>br (fun _=>ok trivial) fun _=>?_)
 have h4:∀ a b,Ok (Zeb a b) (fun _=>True):=fun a b=>by
  unfold Zeb
  exact brD (fun _=>ok trivial) fun _=>ok trivial
 have h3:∀ a b,Ok (Ze9 a v1 f.Z20 b) (fun _=>True):=fun a b=>by
  unfold Ze9
  refine brD (fun _=>bd (Y0m _ e1.1) fun v7 e7=>brN (fun _=>ok trivial) fun _=>bd (P:=fun _=>True) (li v7.1.length (fun t h0 h1=>?_) (by omega) (by omega) (by omega)) fun q _=>?_) fun _=>h4 _ _
  ·unfold Zqa
   exact brD (fun _=>bd gr fun _ _=>bd (Zd8 hp hS _) fun _ _=>brN (fun _=>di trivial) fun _=>bd wr fun _ _=>ni (by omega) (by omega)) fun _=>di trivial
  ·cases q with
   | inl _=>exact h4 _ _
   | inr _=>exact ok trivial
 unfold Zmq Zld
 exact bs (br (fun _=>bd wr fun _ _=>br (fun _=>bd (Zxq _ _ hf.pool e0.1) fun _ _=>brN (fun _=>ok trivial) fun _=>h3 _ _) fun _=>h3 _ _) fun _=>br (fun _=>bd (Zxq _ _ hf.pool e0.1) fun _ _=>brN (fun _=>ok trivial) fun _=>h3 _ _) fun _=>h3 _ _)
theorem Y46 (f:Z13) (hf:Z7x f) (hS:PS f.Z20 1024) (i:Int) (h0:0≤i) (h1:i<f.Z10.length):Ok (Zk4 f i) (fun _=>True):=by
 unfold Zk4
 exact bd (gr h0 h1) fun m hm=>bd (Y30 f hf hS m) fun v1 e1=>brN (fun _=>ok trivial) fun _=>bd (Y2i _ _ _) fun _ _=>br! (fun _=>ok trivial) fun _=>bd (Zux hf.pool.len _ i hf.metL h0 h1) fun _ _=>br (fun _=>ok trivial) fun _=>bd (Y4x f hf hS m (hf.mem m (.inr hm)) _ e1) fun _ _=>ok trivial
theorem Y2u (f:Z13) (hf:Z7x f) (hS:PS f.Z20 1024):Ok (Zju f) (fun _=>True):=by
 unfold Zju j93x1
 exact brE (fun _=>ok trivial) fun _=>bd gr fun a ha=>brD (fun _=>ok trivial) fun _=>bd (Zmn hf.pool.len _ _) fun _ _=>br! (fun _=>ok trivial) fun _=>brN (fun _=>ok trivial) fun _=>bd (Ze2 _ 0 2 (by omega) (hf.att a ha)) fun _ _=>bd (Z4e _ _ (by have:=hf.pool.len; omega)) fun _ _=>ok trivial
theorem Zmw (s:List UInt8) (n:Int) (hs:s.length≤1000) (h0:0≤n) (h1:n<100):Ok (Zb6 s n) (fun _=>True):=by
 unfold Zb6
 have h10:∀ a:Int,0≤a→a<10→Ok (sub ([48,49,50,51,52,53,54,55,56,57]:List UInt8) a (a+1)) (fun r=>r.length≤1):=fun a ha hb=>(sb ha (by omega) (by simp; omega)).mono fun r hr=>by have:=hr.1; omega
 refine brD (fun _=>bd (ct (by simp; omega)) fun v0 e0=>bd wr fun v1 e1=>?_) fun _=>bd (ct (by simp; omega)) fun v4 e4=>?_
 ·rw [e1]
  exact bd (h10 n h0 (by omega)) fun v2 e2=>bd (ct (by have:=e0.2; simp at this; omega)) fun _ _=>ok trivial
 ·have hd:divK .i64 n 10=some (n / 10):=by
   unfold divK
   rw [if_pos (by decide)]
   congr 1
   rw [Int.tdiv_eq_ediv_of_nonneg h0]
   exact Z5c (by omega) (by omega)
  have hm:modK n 10=some (n % 10):=by
   unfold modK
   rw [if_pos (by decide)]
   congr 1
   exact Int.tmod_eq_emod_of_nonneg h0
  rw [hd,hm]
  refine bs (bs (bd wr fun v7 e7=>?_))
  rw [e7]
  refine bd (h10 _ (by omega) (by omega)) fun v8 e8=>bd (ct (by have:=e4.2; simp at this; omega)) fun v9 e9=>bs (bs (bd wr fun v12 e12=>?_))
  rw [e12]
  exact bd (h10 _ (by omega) (by omega)) fun v13 e13=>bd (ct (by have:=e4.2; have:=e9.2; simp at *; omega)) fun _ _=>ok trivial
theorem Y68 (f:Z13) (hf:Z7x f):Ok (Zbt f) (fun r=>r.2=0→FewF f):=by
 unfold Zbt
 refine bd (Zrt _ hf.pool) fun v0 h0=>brN (fun h=>ok fun h'=>absurd h' h) fun h=>?_
 have hS:=h0 h
 refine bd (Y3q f hf hS) fun v1 h1=>brN (fun h=>ok fun h'=>absurd h' h) fun h=>?_
 have hF:=h1 h
 have k1:=hF.1; have k2:=hF.2.1; have k3:=hF.2.2
 refine bd (P:=fun _=>True) (li f.Z1f.length (fun t h0 h1=>?_) (by omega) (by omega) (by omega)) fun q _=>?_
 ·unfold Zlm
  exact brD (fun hlt=>bd (Y2a f hf hS t h0 hlt) fun _ _=>brN (fun _=>bd (Zmw _ t (by simp) h0 (by omega)) fun _ _=>di trivial) fun _=>bd wr fun _ _=>ni (by omega) (by omega)) fun _=>di trivial
 cases q with
 | inr _=>exact ok fun _=>hF
 | inl _=>
 refine bd (P:=fun _=>True) (li f.Z0g.length (fun t h0 h1=>?_) (by omega) (by omega) (by omega)) fun q _=>?_
 ·unfold Zlb
  exact brD (fun hlt=>bd (Y4f f hf hS t h0 hlt) fun _ _=>brN (fun _=>bd (Zmw _ t (by simp) h0 (by omega)) fun _ _=>di trivial) fun _=>bd wr fun _ _=>ni (by omega) (by omega)) fun _=>di trivial
 cases q with
 | inr _=>exact ok fun _=>hF
 | inl _=>
 refine bd (P:=fun _=>True) (li f.Z10.length (fun t h0 h1=>?_) (by omega) (by omega) (by omega)) fun q _=>?_
 ·unfold Zi3
  exact brD (fun hlt=>bd (Y46 f hf hS t h0 hlt) fun _ _=>brN (fun _=>bd (Zmw _ t (by simp) h0 (by omega)) fun _ _=>di trivial) fun _=>bd wr fun _ _=>ni (by omega) (by omega)) fun _=>di trivial
 cases q with
 | inr _=>exact ok fun _=>hF
 | inl _=>exact bd (Y2u f hf hS) fun _ _=>br! (fun _=>ok fun _=>hF) fun _=>ok fun _=>hF
end Go.Proofs
set_option linter.unusedVariables false
namespace Go.Proofs
open Go.Den Go.Tot
def FewM (u:Z0m):Prop:=u.Z1f.length≤8∧u.Z0g.length≤64∧u.Z10.length≤64
theorem Y3a (u:Z0m) (hu:Z5a u):Ok (Zcg u) (fun r=>r.2=0→FewM u):=by
 have gm:=hu.metL
 unfold Zcg
 refine bd (Y0f u hu) fun _ _=>br! (fun _=>ok (by simp)) fun _=>bd (Y1d _ u Z14.nil hu) fun v1 h1=>brN (fun h=>ok fun h'=>absurd h' h) fun _=>?_
 have hm:=h1.fam.m; have hc:=h1.fam.c; have ht:=h1.fam.t; have hs:=h1.fam.s
 refine bd (P:=fun q:List (List UInt8)⊕(Z13×Int)=>match q with|.inl q=>(q.length:Int)=u.Z10.length∧∀ s∈q,Str s|.inr y=>y.2≠0) (lp (fun t=>t.1) u.Z10.length (fun t=>(t.2.length:Int)=t.1∧∀ s∈t.2,Str s) (fun t hI h0 h1'=>?_) (by omega) ⟨rfl,Z40⟩) fun q1 hq1=>?_
 ·obtain ⟨hI1,hI2⟩:=hI
  unfold Zlf
  have hj:t.1<u.Z10.length→∀ s e,Str s→Ok (Zaq t s e) (St (fun t=>(t.2.length:Int)=t.1∧∀ s∈t.2,Str s) (fun t=>t.1) u.Z10.length (fun q:List (List UInt8)⊕(Z13×Int)=>match q with|.inl q=>(q.length:Int)=u.Z10.length∧∀ s∈q,Str s|.inr y=>y.2≠0) t):=fun hlt s e hs'=>by
   unfold Zaq
   exact brN (fun h=>dn h) fun _=>bd gk fun _ _=>bd wr fun _ hv=>nx ⟨by simp only [List.length_append,List.length_cons,List.length_nil]; omega,Z61 hI2 hs'⟩
  exact brD (fun hlt=>bd gr fun _ _=>br (fun _=>bd gr fun c hcm=>bd (Y5i _ c h1.pool (h1.fam.code c hcm)) fun v8 h8=>hj (by omega) _ _ h8) fun _=>hj (by omega) _ _ (by simp)) fun hge=>dn ⟨by omega,hI2⟩
 cases q1 with
 | inr y=>exact ok fun h=>absurd h hq1
 | inl q0=>
 obtain ⟨k1,k2⟩:=hq1
 refine bd (P:=fun q:List Z0f⊕(Z13×Int)=>match q with|.inl q=>(q.length:Int)=u.Z10.length∧∀ m∈q,m.Z1j.length≤2∧∀ a∈m.Z1j,Str a.Z2h|.inr y=>y.2≠0) (lp (fun t=>t.1) u.Z10.length (fun t=>(t.2.length:Int)=t.1∧∀ m∈t.2,m.Z1j.length≤2∧∀ a∈m.Z1j,Str a.Z2h) (fun t hI h0 h1'=>?_) (by omega) ⟨rfl,Z40⟩) fun q3 hq3=>?_
 ·obtain ⟨hI1,hI2⟩:=hI
  have h3:t.1<u.Z10.length→∀ p:List Z19,(p.length≤2∧∀ a∈p,Str a.Z2h)→Ok (Zar t v1 p) (St (fun t=>(t.2.length:Int)=t.1∧∀ m∈t.2,m.Z1j.length≤2∧∀ a∈m.Z1j,Str a.Z2h) (fun t=>t.1) u.Z10.length (fun q:List Z0f⊕(Z13×Int)=>match q with|.inl q=>(q.length:Int)=u.Z10.length∧∀ m∈q,m.Z1j.length≤2∧∀ a∈m.Z1j,Str a.Z2h|.inr y=>y.2≠0) t):=fun hlt p hp=>by
   unfold Zar
   exact bd gr fun _ _=>bd gk fun _ _=>bd wr fun _ hv=>nx ⟨by simp only [List.length_append,List.length_cons,List.length_nil]; omega,Z61 hI2 hp⟩
  have h2:t.1<u.Z10.length→∀ p:List Z19,(p.length≤1∧∀ a∈p,Str a.Z2h)→Ok (Zap t v1 p) (St (fun t=>(t.2.length:Int)=t.1∧∀ m∈t.2,m.Z1j.length≤2∧∀ a∈m.Z1j,Str a.Z2h) (fun t=>t.1) u.Z10.length (fun q:List Z0f⊕(Z13×Int)=>match q with|.inl q=>(q.length:Int)=u.Z10.length∧∀ m∈q,m.Z1j.length≤2∧∀ a∈m.Z1j,Str a.Z2h|.inr y=>y.2≠0) t):=fun hlt p hp=>by
   unfold Zap
   exact bd gr fun _ _=>brN (fun _=>bd gr fun _ _=>bd (Zvn _) fun v30 h30=>brN (fun h=>dn h) fun _=>bd gr fun _ _=>bd gk fun _ _=>h3 hlt _ ⟨by simp only [List.length_append,List.length_cons,List.length_nil]; omega,Z61 hp.2 h30⟩) fun _=>h3 hlt p ⟨by omega,hp.2⟩
  unfold Zif
  exact brD (fun hlt=>bd gr fun _ _=>br (fun _=>bd gr fun _ _=>bd ik fun j hj=>bd (la (by omega)) fun b hb=>bd (gk (by simp) (by simp)) fun _ _=>h2 (by omega) _ ⟨by simp,Z61 Z40 (k2 b hb.2)⟩) fun _=>h2 (by omega) _ ⟨by simp,Z40⟩) fun hge=>dn ⟨by omega,hI2⟩
 cases q3 with
 | inr y=>exact ok fun h=>absurd h hq3
 | inl q2=>
 obtain ⟨e1,e2⟩:=hq3
 refine bd (Y68 _ ⟨h1.pool,by have:=h1.ifsL; have:=hu.ifsL; dsimp only; omega,by have:=h1.fldL; have:=hu.fldL; dsimp only; omega,by dsimp only; omega,by have:=h1.attL; dsimp only; omega,h1.att,fun m hm=>?_⟩) fun w hw=>brN (fun h=>ok fun h'=>absurd h' h) fun h=>ok fun _=>?_
 rotate_left
 ·have hF:v1.2.f_F.Z1f.length≤8∧v1.2.f_F.Z0g.length≤64∧q2.length≤64:=hw h
  have:=h1.ifsL; have:=h1.fldL; exact ⟨by omega,by omega,by omega⟩
 rcases hm with hm|hm
 ·have:=h1.fld m hm; exact ⟨by omega,this.2⟩
 ·have:=e2 m hm; exact ⟨by omega,this.2⟩
theorem Y5o (u:Z0m) (hu:Z5a u):Ok (Zau u) (fun e=>e=0→FewM u):=bd (Y3a u hu) fun _ h=>ok h
theorem Zpx (w:Z0c) (n i:Int) (s:List UInt8) (b:Bool) (hi:i≤w.Z0o.length):Ok (Zbj w n i s b) (fun r=>r=true→0≤n∧n<i):=by
 unfold Zbj
 exact brD (fun _=>brD (fun _=>bd gr fun _ _=>br (fun _=>bd gr fun _ _=>bs (ok fun _=>⟨by omega,by omega⟩)) fun _=>ok (by simp)) fun _=>ok (by simp)) fun _=>ok (by simp)
theorem find_ok (w:Z0c) (l:Int) (s:List UInt8) (hw:Z57 w):Ok (Zgp w l s) (fun _=>True):=by
 have:=hw.iniL
 unfold Zgp
 refine bd (P:=fun _=>True) (li w.Z2p.length (fun t h0 h1=>?_) (by omega) (by omega) (by omega)) fun q _=>by cases q <;> exact ok trivial
 unfold l55x1
 exact brD (fun _=>bd gr fun _ _=>br (fun _=>bd gr fun _ _=>br (fun _=>bd gr fun _ _=>di trivial) fun _=>bd wr fun _ _=>ni (by omega) (by omega)) fun _=>bd wr fun _ _=>ni (by omega) (by omega)) fun _=>di trivial
structure Za9 (w:Z0c) (i:Int) (c:Z1v):Prop where
 sup:c.Z1c= -1∨(0≤c.Z1c∧c.Z1c<i)
 ifs:∀ n∈c.Z1f,0≤n∧n<i
 ifsL:c.Z1f.length≤8
 few:FewM c.Z11
 lod:0≤c.Z2w∧c.Z2w<w.Z23.length
 lang:c.Z2w≠0→Z8m c.Z11.Z0d [108,97,110,103,47]=some false
theorem Y4t (w:Z0c) (hw:Z57 w) (i:Int) (h0:0≤i) (h1:i<w.Z0o.length) (c:Z1v) (hg:Z05 w.Z0o i=some c) (hm:c∈w.Z0o):Ok (Zby w i) (fun b=>b=true→Za9 w i c):=by
 have hcl:=hw.clsL
 obtain ⟨hmod,hifs⟩:=hw.cls c hm
 have hmi:=hmod.ifsL
 have z:Ok (some false) (fun b=>b=true→Za9 w i c):=ok (by simp)
 unfold Zby
 rw [hg]
 refine bs (brD (fun _=>z) fun k0=>brD (fun _=>z) fun k1=>bd (Y5o _ hmod) fun _ hck=>brN (fun _=>z) fun hck0=>brN (fun _=>z) fun hlen=>?_)
 have h2:(c.Z1c= -1∨(0≤c.Z1c∧c.Z1c<i))→(c.Z2w≠0→Z8m c.Z11.Z0d [108,97,110,103,47]=some false)→Ok (Zc7 c w i) (fun b=>b=true→Za9 w i c):=fun hs hl=>by
  unfold Zc7
  refine bd (P:=fun q:Unit⊕Bool=>match q with|.inl _=>∀ n∈c.Z1f,0≤n∧n<i|.inr b=>b=false) (Z5f (P:=fun n=>0≤n∧n<i) hifs (fun t g0 g1 v hv hvm hvg=>?_) fun t g0 g1 ha=>?_) fun q hq=>?_
  ·unfold Zlj
   rw [hvg]
   exact brD (fun _=>bs (bd gr fun _ _=>bd (Zpx w v i _ _ (by omega)) fun b hb=>br! (fun _=>ok rfl) fun h=>bd wr fun _ hw'=>ok ⟨hw',hb h⟩)) fun h=>absurd g1 h
  ·unfold Zlj
   exact brD (fun h=>absurd h (by omega)) fun _=>ok ha
  cases q with
  | inr b=>exact ok fun h=>by cases hq.symm.trans h
  | inl _=>
   have hd:Za9 w i c:=⟨hs,hq,by have:=(hck hck0).1; omega,hck hck0,⟨by omega,by omega⟩,hl⟩
   refine bd (P:=fun _=>True) (li i (fun t g0 g1=>?_) (by omega) (by omega) (by omega)) fun q _=>?_
   ·unfold l32x2
    exact brD (fun _=>bd gr fun _ _=>br (fun _=>bd gr fun _ _=>br (fun _=>di trivial) fun _=>bd wr fun _ _=>ni (by omega) (by omega)) fun _=>bd wr fun _ _=>ni (by omega) (by omega)) fun _=>di trivial
   cases q with
   | inr _=>exact ok fun _=>hd
   | inl _=>exact bd (find_ok w _ _ hw) fun _ _=>br (fun _=>br (fun _=>brD (fun _=>brD (fun _=>ok fun _=>hd) fun _=>ok fun _=>hd) fun _=>ok fun _=>hd) fun _=>ok fun _=>hd) fun _=>ok fun _=>hd
 have h3:(c.Z2w≠0→Z8m c.Z11.Z0d [108,97,110,103,47]=some false)→Ok (Zg1 c w i) (fun b=>b=true→Za9 w i c):=fun hl=>by
  unfold Zg1
  exact brE (fun he=>br! (fun _=>bd (Zpx w _ i _ _ (by omega)) fun b hb=>br! (fun _=>z) fun h=>h2 (.inr (hb h)) hl) fun _=>h2 (.inl he) hl) fun _=>br! (fun _=>bd (Zpx w _ i _ _ (by omega)) fun b hb=>br! (fun _=>z) fun h=>h2 (.inr (hb h)) hl) fun _=>z
 exact brN (fun _=>bdE (Zrg _ _) fun b hb _=>br (fun _=>z) fun h=>h3 fun _=>by rw [hb,h]) fun h=>h3 fun h'=>absurd h h'
structure Z3x (w:Z0c):Prop where
 cls:∀ (i:Nat) c,w.Z0o[i]?=some c→Za9 w i c
 few:w.Z0o.length≤200
theorem Y0i (w:Z0c) (hw:Z57 w):Ok (Z8o w) (fun b=>b=true→Z3x w):=by
 have hcl:=hw.clsL; have hil:=hw.iniL; have hcon:=hw.conL
 unfold Z8o
 refine bd (Y1u _ hw.lod hw.lodL) fun v0 h0=>brN (fun _=>ok (by simp)) fun h=>brD (fun _=>ok (by simp)) fun hc2=>brD (fun _=>ok (by simp)) fun _=>?_
 have hl8:=h0 h
 unfold j9x1
 refine bd (P:=fun q:Unit⊕Bool=>match q with|.inl _=>∀ b∈w.Z43,Z7w w b|.inr b=>b=false) (Z5f (P:=Z7w w) hcon (fun t g0 g1 v hv hvm hvg=>?_) fun t g0 g1 ha=>?_) fun q hq=>?_
 ·unfold l9x1
  rw [hvg]
  exact brD (fun _=>bs (brD (fun _=>ok rfl) fun _=>brD (fun _=>ok rfl) fun _=>brD (fun _=>ok rfl) fun _=>brD (fun _=>ok rfl) fun _=>bd (Zk8 _ (hw.con v hvm)) fun _ _=>br! (fun _=>ok rfl) fun _=>bd wr fun _ hw'=>ok ⟨hw',by omega,by omega,by omega,by omega⟩)) fun h=>absurd g1 h
 ·unfold l9x1
  exact brD (fun h=>absurd h (by omega)) fun _=>ok ha
 cases q with
 | inr b=>exact ok fun h=>by cases hq.symm.trans h
 | inl _=>
 have hcons:∀ b∈w.Z43,Z7w w b:=hq
 refine bd (P:=fun q:Unit⊕Bool=>match q with|.inl _=>True|.inr b=>b=false) (lp (fun t=>t) w.Z2p.length (fun t=>∀ (j:Nat) v,(j:Int)<t→w.Z2p[j]?=some v→Z7o w v) (fun t hI g0 g1=>?_) (by omega) (fun j v h=>by omega) (by omega) (by omega)) fun q hq=>?_
 ·unfold l9x2
  refine brD (fun hlt=>bd (Y69 w t hw g0 hlt) fun b hb=>br! (fun _=>dn rfl) fun h=>?_) fun _=>dn trivial
  have hall:∀ (j:Nat) v,(j:Int)≤t→w.Z2p[j]?=some v→Z7o w v:=fun j v hj hv=>by
   rcases Int.lt_or_le (j:Int) t with h'|h'
   ·exact hI j v h' hv
   ·have:j=t.toNat:=by omega
    subst this
    exact hb h v hv
  exact bd (Y55 w t hw hl8 hcons g0 hlt hall) fun _ _=>br! (fun _=>dn rfl) fun _=>bd wr fun k hk=>nx (fun j v hj hv=>hall j v (by omega) hv) (by omega) (by omega)
 cases q with
 | inr b=>exact ok fun h=>by cases hq.symm.trans h
 | inl _=>
 refine bd (P:=fun q:Unit⊕Bool=>match q with|.inl _=>Z3x w|.inr b=>b=false) (lp (fun t=>t) w.Z0o.length (fun t=>∀ (j:Nat) c,(j:Int)<t→w.Z0o[j]?=some c→Za9 w j c) (fun t hI g0 g1=>?_) (by omega) (fun j v h=>by omega) (by omega) (by omega)) fun q hq=>?_
 ·unfold l9x3
  refine brD (fun hlt=>?_) fun hge=>dn ⟨fun j c hc=>hI j c (by have:=(List.getElem?_eq_some_iff.1 hc).1; omega) hc,by omega⟩
  obtain ⟨c,hg,hm,hi⟩:=gri (l:=w.Z0o) g0 hlt
  refine bd (Y4t w hw t g0 hlt c hg hm) fun b hb=>br! (fun _=>dn rfl) fun h=>bd wr fun k hk=>nx (fun j d hj hd=>?_) (by omega) (by omega)
  rcases Int.lt_or_le (j:Int) t with h'|h'
  ·exact hI j d h' hd
  ·have:j=t.toNat:=by omega
   subst this
   rw [hi] at hd; cases hd
   have:=hb h
   rwa [show ((t.toNat:Nat):Int)=t by omega]
 cases q with
 | inr b=>exact ok fun h=>by cases hq.symm.trans h
 | inl _=>exact ok fun _=>hq
end Go.Proofs
set_option linter.unusedVariables false
namespace Go.Proofs
open Go.Den Go.Tot
end Go.Proofs
set_option linter.unusedVariables false
namespace Go.Proofs
open Go.Den Go.Tot
abbrev FS:=Z0v
theorem Zig {b n:Nat} (h:n*b≤140737488355328) (hn:n≤9223372036854775807):Z1q b n=some ():=by
 obtain ⟨u,e,_⟩:=gk h hn
 exact e
def Z3s (c:Int) (st:Bool):Int→List Z1d→List FS
 | _,[] =>[]
 | k,f::r=>if (((Z2k .i64 f.Z0q 8)!=0)==st)=true then { Z0w:=c,Z1h:=k }::Z3s c st (k+1) r else Z3s c st (k+1) r
theorem Zxf (c:Int) (st:Bool) (f:Z1d):∀ (l:List Z1d) (k:Int),Z3s c st k (l++[f])=Z3s c st k l++(if (((Z2k .i64 f.Z0q 8)!=0)==st)=true then [{ Z0w:=c,Z1h:=k+l.length }] else [])
 | [],k=>by
  unfold Z3s
  simp only [List.nil_append,List.length_nil,Int.natCast_zero,Int.add_zero]
  split <;> rfl
 | g::l,k=>by
  have h:=Zxf c st f l (k+1)
  simp only [List.cons_append]
  unfold Z3s
  rw [h,show k+1+(l.length:Int)=k+((g::l).length:Nat) by simp only [List.length_cons]; omega]
  split <;> rfl
def Z3j (w:Z0c) (c:Int) (st:Bool):List FS:=match Z05 w.Z0o c with
 | some v=>Z3s c st 0 v.Z11.Z0g
 | none=>[]
theorem Znw (c:Int) (st:Bool):∀ (l:List Z1d) (k:Int),(Z3s c st k l).length≤l.length
 | [],k=>by simp [Z3s]
 | f::l,k=>by
  have:=Znw c st l (k+1)
  unfold Z3s
  split <;> simp only [List.length_cons] <;> omega
theorem Zok (w:Z0c) (hv:Z3x w) (c:Int) (s:Bool) (h0:0≤c) (h1:c<w.Z0o.length):Zj1 w c s=some (Z3j w c s)∧(Z3j w c s).length≤64:=by
 obtain ⟨v,e,hm,hx⟩:=gri (l:=w.Z0o) h0 h1
 have hf:=(hv.cls _ v hx).few.2.1
 have hC:Z3j w c s=Z3s c s 0 v.Z11.Z0g:=by unfold Z3j; rw [e]
 refine ⟨?_,by rw [hC]; have:=Znw c s v.Z11.Z0g 0; omega⟩
 rw [hC]
 unfold Zj1
 rw [e]
 have:Ok (Z06 (l38x1 v c s) Z08 (0,([]:List FS))) (fun r=>r=Z3s c s 0 v.Z11.Z0g):=by
  refine lp (fun t=>t.1) v.Z11.Z0g.length (fun t=>t.2=Z3s c s 0 (v.Z11.Z0g.take t.1.toNat)) (fun t hI g0 g1=>?_) (by omega) (by simp [Z3s]) (by omega) (by dsimp only; omega)
  obtain ⟨i,acc⟩:=t
  dsimp only at hI g0 g1 ⊢
  subst hI
  unfold l38x1
  dsimp only
  refine brD (fun hlt=>?_) fun hge=>dn (by rw [List.take_of_length_le (by omega)])
  obtain ⟨f,ef,_,hfx⟩:=gri (l:=v.Z11.Z0g) g0 hlt
  have hlen:(Z3s c s 0 (v.Z11.Z0g.take i.toNat)).length≤i.toNat:=by have:=Znw c s (v.Z11.Z0g.take i.toNat) 0; rw [List.length_take] at this; omega
  have hs:Z3s c s 0 (v.Z11.Z0g.take (i+1).toNat)=Z3s c s 0 (v.Z11.Z0g.take i.toNat)++(if (((Z2k .i64 f.Z0q 8)!=0)==s)=true then [{ Z0w:=c,Z1h:=i }] else []):=by
   rw [show (i+1).toNat=i.toNat+1 by omega,List.take_add_one,hfx]
   simp only [Option.toList_some]
   rw [Zxf,List.length_take,show (0:Int)+((min i.toNat v.Z11.Z0g.length:Nat):Int)=i by omega]
  rw [ef]
  refine bs (bs (br (fun h=>?_) fun h=>?_))
  ·refine bd gk fun _ _=>bd wr fun k hk=>nx ?_
   dsimp only
   rw [hk,hs,if_pos h]
  ·refine bd wr fun k hk=>nx ?_
   dsimp only
   rw [hk,hs,if_neg (by simp [h]),List.append_nil]
 obtain ⟨r,er,rfl⟩:=this
 simp only [Option.bind_some,er]
def Z44 (w:Z0c):Nat→Int→List Int
 | 0,_=>[]
 | n+1,c=>match Z05 w.Z0o c with
  | some k=>c::Z44 w n k.Z1c
  | none=>[]
def Z55 (w:Z0c) (n:Nat) (c:Int):List FS:=((Z44 w n c).reverse.map fun k=>Z3j w k false).flatten
theorem Z7f {α:Type} {l:List α} {c:Int} (h: ¬ (0≤c∧c<l.length)):Z05 l c=none:=by
 unfold Z05
 split
 ·rw [List.getElem?_eq_none]; omega
 ·rfl
theorem Zc3 {w:Z0c} (hv:Z3x w) {c:Int} {k:Z1v} (h:Z05 w.Z0o c=some k):0≤c∧c<w.Z0o.length∧k.Z1c<c:=by
 unfold Z05 at h
 split at h
 ·rename_i h0
  have hlt:=(List.getElem?_eq_some_iff.1 h).1
  refine ⟨h0,by omega,?_⟩
  rcases (hv.cls _ k h).sup with hs|hs <;> omega
 ·cases h
theorem Ztv {w:Z0c} (hv:Z3x w):∀ (n m:Nat) (c:Int),c+2≤n→1≤n→c+2≤m→1≤m→Z44 w n c=Z44 w m c
 | n + 1,m+1,c,h1,_,h2,_=>by
  unfold Z44
  cases e:Z05 w.Z0o c with
  | none=>rfl
  | some k=>
   have:=Zc3 hv e
   dsimp only
   rw [Ztv hv n m k.Z1c (by omega) (by omega) (by omega) (by omega)]
theorem Y5z {w:Z0c} {n:Nat} {c:Int} {k:Z1v} (e:Z05 w.Z0o c=some k):Z55 w (n+1) c=Z55 w n k.Z1c++Z3j w c false:=by
 unfold Z55
 rw [Z44,e]
 simp
theorem Zr9 {w:Z0c} {n:Nat} {c:Int} (e:Z05 w.Z0o c=none):Z55 w n c=[] :=by
 unfold Z55
 cases n with
 | zero=>rfl
 | succ n=>rw [Z44,e]; rfl
theorem Zp6 (w:Z0c) (c:Int):Zkl w c=some (decide (0≤c∧c<w.Z0o.length)):=by
 unfold Zkl
 by_cases h:c≥0
 ·rw [if_pos (decide_eq_true h)]
  simp [h]
 ·rw [if_neg (by simpa using h)]
  simp [h]
theorem Zv2 (w:Z0c) (hv:Z3x w):∀ (nn:Nat) (c:Int),c+2≤nn→1≤nn→c≤1000000→Zmg nn w c=some (Z55 w nn c)∧(0≤c→((Z55 w nn c).length:Int)≤64*(c+1))
 | nn+1,c,h,_,hb=>by
  unfold Zmg
  rw [Zp6]
  simp only [Option.bind_some]
  by_cases ht:0≤c∧c<w.Z0o.length
  ·obtain ⟨v,e,hm,hx⟩:=gri (l:=w.Z0o) ht.1 ht.2
   obtain ⟨_,_,hs⟩:=Zc3 hv e
   obtain ⟨r1,r2⟩:=Zv2 w hv nn v.Z1c (by omega) (by omega) (by omega)
   obtain ⟨o1,o2⟩:=Zok w hv c false ht.1 ht.2
   have hlen:((Z55 w nn v.Z1c).length:Int)≤64*c:=by
    by_cases hn:0≤v.Z1c
    ·have:=r2 hn; omega
    ·rw [Zr9 (Z7f (by omega))]; simp; omega
   rw [decide_eq_true ht,Y5z e,e]
   simp only [Bool.not_true,Bool.false_eq_true,if_false,Option.bind_some,r1,o1,List.nil_append]
   have g1:Z1q 16 (Z55 w nn v.Z1c).length=some ():=Zig (by omega) (by omega)
   have g2:Z1q 16 (Z55 w nn v.Z1c++Z3j w c false).length=some ():=Zig (by rw [List.length_append]; omega) (by rw [List.length_append]; omega)
   rw [g1,g2]
   exact ⟨rfl,fun _=>by rw [List.length_append]; omega⟩
  ·rw [decide_eq_false ht]
   have:Z55 w (nn+1) c=[] :=Zr9 (Z7f ht)
   rw [this]
   exact ⟨rfl,fun h0=>by simp; omega⟩
end Go.Proofs
