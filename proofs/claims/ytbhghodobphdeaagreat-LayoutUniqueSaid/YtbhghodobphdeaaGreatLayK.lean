/-
  That a model comes to an answer: steps in Option that do not fail.
-/
import Derived.Test.YtbhghodobphdeaaGreatDenMod
import Derived.Test.YtbhghodobphdeaaGreatLay6
namespace Go.Tot
open Go.Den Go.RowKit
def Ok {α:Type} (o:Option α) (P:α→Prop):Prop:=∃ r,o=some r∧P r
section
variable {α β:Type} {P P':α→Prop} {Q:β→Prop}
theorem ok {x:α} (h:P x):Ok (some x) P:=⟨x,rfl,h⟩
theorem Ok.mono {o:Option α} (h:Ok o P) (k:∀ x,P x→P' x):Ok o P':=by
 obtain ⟨r,e,p⟩:=h
 exact ⟨r,e,k r p⟩
theorem bd {o:Option α} {f:α→Option β} (h:Ok o P) (k:∀ x,P x→Ok (f x) Q):Ok (o.bind f) Q:=by
 obtain ⟨r,e,p⟩:=h
 obtain ⟨r',e',p'⟩:=k r p
 exact ⟨r',by rw [e]; exact e',p'⟩
theorem bs {x:α} {f:α→Option β} (k:Ok (f x) Q):Ok ((some x).bind f) Q:=k
theorem bdE {o:Option α} {f:α→Option β} (h:Ok o P) (k:∀ x,o=some x→P x→Ok (f x) Q):Ok (o.bind f) Q:=by
 obtain ⟨r,e,p⟩:=h
 obtain ⟨r',e',p'⟩:=k r e p
 exact ⟨r',by rw [e]; exact e',p'⟩
theorem br {b:Bool} {x y:Option α} (T:b=true→Ok x P) (F:b=false→Ok y P):Ok (if b=true then x else y) P:=by
 cases b with
 | true=>exact T rfl
 | false=>exact F rfl
theorem brD {p:Prop} [Decidable p] {x y:Option α} (T:p→Ok x P) (F: ¬p→Ok y P):Ok (if decide p=true then x else y) P:=by
 by_cases h:p
 ·rw [if_pos (decide_eq_true h)]; exact T h
 ·rw [if_neg (by simpa using h)]; exact F h
theorem brE {n m:Int} {x y:Option α} (T:n=m→Ok x P) (F:n≠m→Ok y P):Ok (if (n==m)=true then x else y) P:=by
 by_cases h:n=m
 ·rw [if_pos (by simpa using h)]; exact T h
 ·rw [if_neg (by simpa using h)]; exact F h
theorem brN {n m:Int} {x y:Option α} (T:n≠m→Ok x P) (F:n=m→Ok y P):Ok (if (n !=m)=true then x else y) P:=by
 by_cases h:n=m
 ·rw [if_neg (by simp [h])]; exact F h
 ·rw [if_pos (by simpa using h)]; exact T h
theorem br! {b:Bool} {x y:Option α} (T:b=false→Ok x P) (F:b=true→Ok y P):Ok (if (!b)=true then x else y) P:=by
 cases b with
 | true=>exact F rfl
 | false=>exact T rfl
end
section
variable {T R:Type} {f:T→Option (Ctl T R)} {Q:R→Prop}
def St (I:T→Prop) (ix:T→Int) (n:Int) (Q:R→Prop) (t:T):Ctl T R→Prop
 | .next t'=>I t'∧ix t<ix t'∧ix t'≤n
 | .done r=>Q r
variable {I:T→Prop} {ix:T→Int} {n:Int} {t:T}
theorem nx {t':T} (h:I t') (h1:ix t<ix t':=by first|omega|(dsimp only; omega)) (h2:ix t'≤n:=by first|omega|(dsimp only; omega)):Ok (some (Ctl.next t':Ctl T R)) (St I ix n Q t):=⟨_,rfl,h,h1,h2⟩
theorem dn {r:R} (h:Q r):Ok (some (Ctl.done r:Ctl T R)) (St I ix n Q t):=⟨_,rfl,h⟩
theorem lp (ix:T→Int) (n:Int) (I:T→Prop) (h:∀ t,I t→0≤ix t→ix t≤n→Ok (f t) (St I ix n Q t)) {t0:T} (hn:n≤9223372036854775807) (h0:I t0) (h1:0≤ix t0:=by first|omega|(dsimp only; omega)) (h2:ix t0≤n:=by first|omega|(dsimp only; omega)):Ok (Z07 f Z09 t0) Q:=by
 refine Zyc (fun t=>I t∧0≤ix t∧ix t≤n) (fun t=>(n - ix t).toNat) Q (fun t ht=>?_) Z09 t0 ⟨h0,h1,h2⟩ (by unfold Z09; omega)
 obtain ⟨x,e,p⟩:=h t ht.1 ht.2.1 ht.2.2
 refine ⟨x,e,?_⟩
 cases x with
 | next t'=>exact ⟨⟨p.1,by have:=p.2.1; omega,p.2.2⟩,by have:=p.2.1; have:=p.2.2; omega⟩
 | done r=>exact p
end
section
variable {R:Type} {f:Int→Option (Ctl Int R)} {Q:R→Prop}
def Si (n:Int) (Q:R→Prop) (t:Int):Ctl Int R→Prop
 | .next t'=>t<t'∧t'≤n
 | .done r=>Q r
variable {n t:Int}
theorem ni {t':Int} (h1:t<t':=by omega) (h2:t'≤n:=by omega):Ok (some (Ctl.next t':Ctl Int R)) (Si n Q t):=⟨_,rfl,h1,h2⟩
theorem di {r:R} (h:Q r):Ok (some (Ctl.done r:Ctl Int R)) (Si n Q t):=⟨_,rfl,h⟩
theorem li (n:Int) (h:∀ t,0≤t→t≤n→Ok (f t) (Si n Q t)) {t0:Int} (hn:n≤9223372036854775807:=by omega) (h1:0≤t0:=by omega) (h2:t0≤n:=by omega):Ok (Z07 f Z09 t0) Q:=
 lp (fun t=>t) n (fun _=>True) (fun t _ a b=>(h t a b).mono fun x hx=>by
  cases x with
  | next t'=>exact ⟨trivial,hx.1,hx.2⟩
  | done r=>exact hx) hn trivial h1 h2
end
section
variable {α:Type}
theorem Z68 {n:Int} (h0: -9223372036854775808≤n) (h1:n≤9223372036854775807):IntKind.wrap .i64 n=n:=by
 have h:∀ m:Int,IntKind.wrap .i64 m=(m+9223372036854775808) % 18446744073709551616 - 9223372036854775808:=fun m=>by
  unfold IntKind.wrap
  simp [IntKind.bits,IntKind.signed,Int.bmod]
  omega
 rw [h]; omega
theorem wr {n:Int} (h0: -9223372036854775808≤n:=by omega) (h1:n≤9223372036854775807:=by omega):Ok (some (IntKind.wrap .i64 n)) fun v=>v=n:=ok (Z68 h0 h1)
theorem gr {l:List α} {i:Int} (h0:0≤i:=by omega) (h1:i<l.length:=by omega):Ok (Z05 l i) fun x=>x∈l:=by
 have hlt:i.toNat<l.length:=by omega
 refine ⟨l[i.toNat],?_,List.getElem_mem hlt⟩
 unfold Z05
 rw [if_pos h0,List.getElem?_eq_getElem hlt]
theorem gri {l:List α} {i:Int} (h0:0≤i:=by omega) (h1:i<l.length:=by omega):Ok (Z05 l i) fun x=>x∈l∧l[i.toNat]?=some x:=by
 have hlt:i.toNat<l.length:=by omega
 refine ⟨l[i.toNat],?_,List.getElem_mem hlt,List.getElem?_eq_getElem hlt⟩
 unfold Z05
 rw [if_pos h0,List.getElem?_eq_getElem hlt]
theorem gs {s:List UInt8} {i:Int} (h0:0≤i:=by omega) (h1:i<s.length:=by omega):Ok (Z2q s i) fun x=>0≤x∧x<256:=by
 have hlt:i.toNat<s.length:=by omega
 refine ⟨(s[i.toNat].toNat:Int),?_,by omega,by have:=s[i.toNat].toNat_lt; omega⟩
 unfold Z2q
 rw [if_pos h0,List.getElem?_eq_getElem hlt]
 rfl
theorem ik {i:Int} {n:Nat} (h0:0≤i:=by omega) (h1:i<n:=by omega):Ok (Z3j i n) fun j=>j=i.toNat∧j<n:=⟨i.toNat,by unfold Z3j; rw [if_pos ⟨h0,h1⟩],rfl,by omega⟩
theorem la {l:List α} {j:Nat} (h:j<l.length):Ok (l[j]?) fun x=>l[j]?=some x∧x∈l:=⟨l[j],List.getElem?_eq_getElem h,List.getElem?_eq_getElem h,List.getElem_mem h⟩
theorem gk {b n:Nat} (h:n*b≤140737488355328:=by first|omega|(simp only [List.length_append,List.length_cons,List.length_nil]; omega)) (hn:n≤9223372036854775807:=by first|omega|(simp only [List.length_append,List.length_cons,List.length_nil]; omega)):Ok (Z1l b n) fun _=>True:=⟨(),by unfold Z1l; rw [if_pos ⟨hn,h⟩],trivial⟩
theorem mk {b:Nat} {l c:Int} (h0:0≤l) (h1:l≤c) (h2:(b:Int)*c≤281474976710656) (h3:c≤9223372036854775807):Ok (Z96 b l c) fun _=>True:=⟨(),by unfold Z96; rw [if_pos ⟨h0,h1,h2,h3⟩],trivial⟩
theorem ct {a b:List UInt8} (h:a.length+b.length≤9223372036854775807):Ok (Z1u a b) fun m=>m=a++b∧m.length=a.length+b.length:=⟨a++b,by unfold Z1u; rw [if_pos h],rfl,List.length_append⟩
theorem sb {l:List α} {lo hi:Int} (h0:0≤lo) (h1:lo≤hi) (h2:hi≤l.length):Ok (sub l lo hi) fun r=>(r.length:Int)=hi - lo∧∀ x∈r,x∈l:=by
 unfold sub
 rw [if_pos (by omega)]
 refine ok ⟨by simp; omega,fun x hx=>List.mem_of_mem_drop (List.mem_of_mem_take hx)⟩
end
end Go.Tot
set_option linter.unusedVariables false
namespace Go.Proofs
open Go.Den Go.Tot
abbrev Str (s:List UInt8):Prop:=s.length≤4503599627370496
structure WRef (r:Z22):Prop where
 c:Str r.Z0k
 n:Str r.Z0f
 d:Str r.Z1o
structure Z2o (i:Z01):Prop where
 keys:i.Z0s.length*8≤140737488355328
 tos:i.Z0b.length*8≤140737488355328
 ref:WRef i.Z1c
 s:Str i.f_S
structure Zag (f:Z5c):Prop where
 loc:∀ v∈f.Z0u,Str v.Z1n.Z0f
 locL:f.Z0u.length*56≤140737488355328
 stk:∀ v∈f.Z0z,Str v.Z1n.Z0f
 stkL:f.Z0z.length*56≤140737488355328
structure Z51 (c:Z0a):Prop where
 ins:∀ i∈c.Z0j,Z2o i
 insL:c.Z0j.length*144≤140737488355328
 hnd:∀ h∈c.Z1w,Str h.Z1n
 hndL:c.Z1w.length*48≤140737488355328
 map:∀ m∈c.Z1f,Zag m.Z1i
 mapL:c.Z1f.length*64≤140737488355328
 linL:c.Z1r.length*16≤140737488355328
structure Zai (m:Z2n):Prop where
 n:Str m.Z0f
 d:Str m.Z1o
 code:Z51 m.Z27
 exc:∀ s∈m.Z6i,Str s
 excL:m.Z6i.length*16≤140737488355328
structure Zns (f:Z1b):Prop where
 n:Str f.Z0f
 d:Str f.Z1o
 s:Str f.f_S
structure Z5d (u:Z0m):Prop where
 n:Str u.Z0f
 sup:Str u.Z16
 ifs:∀ s∈u.Z1e,Str s
 ifsL:u.Z1e.length*16≤140737488355328
 fld:∀ f∈u.Z0g,Zns f
 fldL:u.Z0g.length*72≤140737488355328
 met:∀ m∈u.Z10,Zai m
 metL:u.Z10.length*184≤140737488355328
 src:Str u.Z8b
structure Z7d (l:Z1m):Prop where
 del:∀ d∈l.Z5m,Str d.Zfy
 delL:l.Z5m.length≤140737488355328
 sto:∀ c∈l.Z3x,Str c.Z0f
 stoL:l.Z3x.length≤140737488355328
structure Z5f (w:Z0c):Prop where
 lod:∀ l∈w.Z1y,Z7d l
 lodL:w.Z1y.length≤140737488355328
 cls:∀ c∈w.Z0o,Z5d c.Z13∧c.Z1e.length≤140737488355328
 clsL:w.Z0o.length≤140737488355328
 ini:∀ x∈w.Z2l,Str x.Z0f
 iniL:w.Z2l.length≤140737488355328
 con:∀ x∈w.Z47,Str x.Z0f
 conL:w.Z47.length≤140737488355328
theorem Y3h (x:Int):Ok (Zg6 x) (fun _=>True):=by
 unfold Zg6
 repeat' with_reducible first
  | refine brD (fun _=>?_) fun _=>?_
  | refine brE (fun _=>?_) fun _=>?_
  | refine ok ?_
  | exact True.intro
theorem L34x1 (x:List UInt8) (h:Str x):Ok (Z07 (Zhy x) Z09 0) (fun q=>match q with|.inl _=>True|.inr y=>y=false):=by
 refine li (x.length) (fun t _ _=>?_) (by omega) (by omega) (by omega)
 unfold Zhy
 repeat' first
  | with_reducible refine ni ?_ ?_
  | with_reducible refine di ?_
  | with_reducible refine brD (fun _=>?_) fun _=>?_
  | with_reducible refine br! (fun _=>?_) fun _=>?_
  | with_reducible refine brE (fun _=>?_) fun _=>?_
  | with_reducible refine bd gs fun _ _=>?_
  | with_reducible refine bd wr fun _ _=>?_
  | with_reducible refine bd (Y3h _) fun _ _=>?_
  | (rfl)
  | exact True.intro
  | omega
theorem Zmi (x:List UInt8) (h:Str x):Ok (Zbc x) (fun b=>b=true→x≠[]):=by
 unfold Zbc
 repeat' first
  | with_reducible refine bd (L34x1 _ (by first|assumption|omega|exact And.left (by assumption)|(dsimp only; omega))) fun _ _=>?_
  | with_reducible refine ok ?_
  | split
  | (first|(intro h; rintro rfl; simp at h; done)|(simp_all; done))
theorem L20x1 (x:List UInt8) (h:Str x):Ok (Z07 (Zjo x) Z09 (0,0)) (fun q=>match q with|.inl y=>0≤y∧y≤x.length|.inr y=>True):=by
 refine lp (fun t=>t.2) (x.length) (fun t=>0≤t.1∧t.1≤t.2) (fun t hI _ _=>?_) (by omega) (by omega) (by omega) (by omega)
 try dsimp only at*
 unfold Zjo
 repeat' first
  | with_reducible refine nx ?_ ?_ ?_
  | with_reducible refine dn ?_
  | with_reducible refine brD (fun _=>?_) fun _=>?_
  | with_reducible refine br! (fun _=>?_) fun _=>?_
  | with_reducible refine brE (fun _=>?_) fun _=>?_
  | with_reducible refine bd gs fun _ _=>?_
  | with_reducible refine bd wr fun _ _=>?_
  | with_reducible refine bd (sb (by omega) (by omega) (by omega)) fun _ _=>?_
  | with_reducible refine bd (Zmi _ (by unfold Str; omega)) fun _ _=>?_
  | exact True.intro
  | omega
theorem Zgi (x:List UInt8) (h:Str x):Ok (Z9k x) (fun b=>b=true→x.length≤64):=by
 unfold Z9k
 repeat' first
  | with_reducible refine bdE (L20x1 _ (by assumption)) fun q _ hq=>?_
  | with_reducible refine brD (fun _=>?_) fun _=>?_
  | with_reducible refine bd (sb (by omega) (by omega) (by omega)) fun _ _=>?_
  | with_reducible refine bd (Zmi _ (by unfold Str; omega)) fun _ _=>?_
  | with_reducible refine ok ?_
  | split
  | ((intro hb; first|(cases hb; done)|omega))
theorem Zvz (x y:List UInt8):Ok (Z9b x y) (fun _=>True):=by
 unfold Z9b
 repeat' with_reducible first
  | refine brD (fun _=>?_) fun _=>?_
  | refine bd (sb (by omega) (by omega) (by omega)) fun _ _=>?_
  | refine ok ?_
  | exact True.intro
theorem L32x1 (x:Z1m) (i:Int) (h:Z7d x):Ok (Z07 (Zjx x i) Z09 0) (fun _=>True):=by
 have:=h.stoL
 refine li (x.Z3x.length) (fun t _ _=>?_) (by omega) (by omega) (by omega)
 unfold Zjx
 repeat' first
  | with_reducible refine ni ?_ ?_
  | with_reducible refine di ?_
  | with_reducible refine brD (fun _=>?_) fun _=>?_
  | with_reducible refine br (fun _=>?_) fun _=>?_
  | with_reducible refine bd gr fun _ _=>?_
  | with_reducible refine bd wr fun _ _=>?_
  | with_reducible refine bd (Zgi _ (by exact h.sto _ (by assumption))) fun _ _=>?_
  | with_reducible refine bd (Zvz _ _) fun _ _=>?_
  | exact True.intro
  | omega
theorem Y2s (x:Z1m) (i:Int) (h:Z7d x):Ok (Zge x i) (fun _=>True):=by
 unfold Zge
 repeat' first
  | with_reducible refine bd (L32x1 _ _ (by first|assumption|omega|exact And.left (by assumption)|(dsimp only; omega))) fun _ _=>?_
  | with_reducible refine ok ?_
  | split
  | assumption
theorem L33x2 (k:Int) (x:Z1m) (hl:x.Z3x.length≤140737488355328) (h0:0≤k) (h1:k<x.Z3x.length):Ok (Z07 (Zhr k x) Z09 0) (fun _=>True):=by
 refine li (k) (fun t _ _=>?_) (by omega) (by omega) (by omega)
 unfold Zhr
 repeat' first
  | with_reducible refine ni ?_ ?_
  | with_reducible refine di ?_
  | with_reducible refine brD (fun _=>?_) fun _=>?_
  | with_reducible refine br (fun _=>?_) fun _=>?_
  | with_reducible refine bd gr fun _ _=>?_
  | with_reducible refine bd wr fun _ _=>?_
  | exact True.intro
  | omega
theorem L33x1 (x:Z1m) (hl:x.Z3x.length≤140737488355328):Ok (Z07 (Zgk x) Z09 0) (fun _=>True):=by
 refine li (x.Z3x.length) (fun t _ _=>?_) (by omega) (by omega) (by omega)
 unfold Zgk
 repeat' first
  | with_reducible refine ni ?_ ?_
  | with_reducible refine di ?_
  | with_reducible refine brD (fun _=>?_) fun _=>?_
  | with_reducible refine bd wr fun _ _=>?_
  | with_reducible refine bd (L33x2 _ _ (by first|assumption|omega|exact And.left (by assumption)|(dsimp only; omega)) (by first|assumption|omega|exact And.left (by assumption)|(dsimp only; omega)) (by first|assumption|omega|exact And.left (by assumption)|(dsimp only; omega))) fun _ _=>?_
  | split
  | exact True.intro
  | omega
theorem Zz9 (x:Z1m) (hl:x.Z3x.length≤140737488355328):Ok (Zhm x) (fun _=>True):=by
 unfold Zhm
 repeat' first
  | with_reducible refine bd (L33x1 _ (by first|assumption|omega|exact And.left (by assumption)|(dsimp only; omega))) fun _ _=>?_
  | with_reducible refine ok ?_
  | split
  | assumption
theorem L19x1 (x:List Z1m) (h:∀ l∈x,Z7d l) (hl:x.length≤140737488355328):Ok (Z07 (Zgc x) Z09 0) (fun _=>True):=by
 refine li (x.length) (fun t _ _=>?_) (by omega) (by omega) (by omega)
 unfold Zgc
 repeat' first
  | with_reducible refine ni ?_ ?_
  | with_reducible refine di ?_
  | with_reducible refine brD (fun _=>?_) fun _=>?_
  | with_reducible refine bd gr fun _ _=>?_
  | with_reducible refine bd wr fun _ _=>?_
  | exact True.intro
  | omega
theorem L19x3 (k:Int) (x:List Z1m) (h:∀ l∈x,Z7d l) (hl:x.length≤140737488355328) (h0:0≤k) (h1:k<x.length):Ok (Z07 (Zgb k x) Z09 0) (fun _=>True):=by
 obtain ⟨y,hy,hm⟩:=gr h0 h1
 have:=(h y hm).delL
 refine li (y.Z5m.length) (fun t _ _=>?_) (by omega) (by omega) (by omega)
 unfold Zgb
 simp only [hy]
 repeat' first
  | with_reducible refine ni ?_ ?_
  | with_reducible refine di ?_
  | with_reducible refine brD (fun _=>?_) fun _=>?_
  | with_reducible refine bd gr fun _ _=>?_
  | with_reducible refine bd wr fun _ _=>?_
  | with_reducible refine bs ?_
  | exact True.intro
  | omega
theorem L19x2 (x:List Z1m) (h:∀ l∈x,Z7d l) (hl:x.length≤140737488355328):Ok (Z07 (Zgm x) Z09 0) (fun _=>True):=by
 refine li (x.length) (fun t _ _=>?_) (by omega) (by omega) (by omega)
 unfold Zgm
 repeat' first
  | with_reducible refine ni ?_ ?_
  | with_reducible refine di ?_
  | with_reducible refine brD (fun _=>?_) fun _=>?_
  | with_reducible refine bd wr fun _ _=>?_
  | with_reducible refine bd (L19x3 _ _ (by first|assumption|omega|exact And.left (by assumption)|(dsimp only; omega)) (by first|assumption|omega|exact And.left (by assumption)|(dsimp only; omega)) (by first|assumption|omega|exact And.left (by assumption)|(dsimp only; omega)) (by first|assumption|omega|exact And.left (by assumption)|(dsimp only; omega))) fun _ _=>?_
  | split
  | exact True.intro
  | omega
theorem L19x4 (x:List Z1m) (h:∀ l∈x,Z7d l) (hl:x.length≤140737488355328):Ok (Z07 (Zkk x) Z09 0) (fun _=>True):=by
 refine li (x.length) (fun t _ _=>?_) (by omega) (by omega) (by omega)
 unfold Zkk
 repeat' first
  | with_reducible refine ni ?_ ?_
  | with_reducible refine di ?_
  | with_reducible refine brD (fun _=>?_) fun _=>?_
  | with_reducible refine brN (fun _=>?_) fun _=>?_
  | with_reducible refine bd gr fun _ _=>?_
  | with_reducible refine bd wr fun _ _=>?_
  | with_reducible refine bd (Y2s _ _ (by exact h _ (by assumption))) fun _ _=>?_
  | exact True.intro
  | omega
theorem L19x5 (x:List Z1m) (h:∀ l∈x,Z7d l) (hl:x.length≤140737488355328):Ok (Z07 (Zij x) Z09 0) (fun _=>True):=by
 refine li (x.length) (fun t _ _=>?_) (by omega) (by omega) (by omega)
 unfold Zij
 repeat' first
  | with_reducible refine ni ?_ ?_
  | with_reducible refine di ?_
  | with_reducible refine brD (fun _=>?_) fun _=>?_
  | with_reducible refine br (fun _=>?_) fun _=>?_
  | with_reducible refine bd gr fun _ _=>?_
  | with_reducible refine bd wr fun _ _=>?_
  | with_reducible refine bd (Zz9 _ (by exact (h _ (by assumption)).stoL)) fun _ _=>?_
  | exact True.intro
  | omega
theorem Zzp (x:List Z1m) (h:∀ l∈x,Z7d l) (hl:x.length≤140737488355328):Ok (Zhb x) (fun e=>e=0→x.length≤8):=by
 unfold Zhb
 repeat' first
  | unfold j28x1
  | with_reducible refine brD (fun _=>?_) fun _=>?_
  | with_reducible refine bd (L19x1 _ (by first|assumption|omega|exact And.left (by assumption)|(dsimp only; omega)) (by first|assumption|omega|exact And.left (by assumption)|(dsimp only; omega))) fun _ _=>?_
  | with_reducible refine bd (L19x2 _ (by first|assumption|omega|exact And.left (by assumption)|(dsimp only; omega)) (by first|assumption|omega|exact And.left (by assumption)|(dsimp only; omega))) fun _ _=>?_
  | with_reducible refine bd (L19x4 _ (by first|assumption|omega|exact And.left (by assumption)|(dsimp only; omega)) (by first|assumption|omega|exact And.left (by assumption)|(dsimp only; omega))) fun _ _=>?_
  | with_reducible refine bd (L19x5 _ (by first|assumption|omega|exact And.left (by assumption)|(dsimp only; omega)) (by first|assumption|omega|exact And.left (by assumption)|(dsimp only; omega))) fun _ _=>?_
  | with_reducible refine ok ?_
  | split
  | omega
theorem L21x1 (v:Z2s) (w:Z0c) (i:Int) (h:Z5f w) (h0:0≤i) (h1:i<w.Z2l.length):Ok (Z07 (Zhi v w i) Z09 0) (fun _=>True):=by
 have:=h.iniL
 refine li (i) (fun t _ _=>?_) (by omega) (by omega) (by omega)
 unfold Zhi
 repeat' first
  | with_reducible refine ni ?_ ?_
  | with_reducible refine di ?_
  | with_reducible refine brD (fun _=>?_) fun _=>?_
  | with_reducible refine br (fun _=>?_) fun _=>?_
  | with_reducible refine bd gr fun _ _=>?_
  | with_reducible refine bd wr fun _ _=>?_
  | exact True.intro
  | omega
def Z7m (w:Z0c) (v:Z2s):Prop:=0≤v.Z2u∧v.Z2u<w.Z1y.length∧0≤v.Z0k∧v.Z0k<w.Z0o.length
def Z7s (w:Z0c) (b:Z4z):Prop:=0≤b.f_A∧b.f_A<w.Z1y.length∧0≤b.f_B∧b.f_B<w.Z1y.length
theorem Y2b (w:Z0c) (i:Int) (h:Z5f w) (h0:0≤i) (h1:i<w.Z2l.length):Ok (Zgh w i) (fun b=>b=true→∀ v,w.Z2l[i.toNat]?=some v→Z7m w v):=by
 have:=h.iniL
 unfold Zgh
 repeat' first
  | with_reducible refine bd gri fun _ _=>?_
  | unfold j30x1
  | with_reducible refine brD (fun _=>?_) fun _=>?_
  | with_reducible refine bd (L21x1 _ _ _ (by first|assumption|omega|exact And.left (by assumption)|(dsimp only; omega)) (by first|assumption|omega|exact And.left (by assumption)|(dsimp only; omega)) (by first|assumption|omega|exact And.left (by assumption)|(dsimp only; omega))) fun _ _=>?_
  | with_reducible refine ok ?_
  | split
  | ((intro hb v hv; first|(cases hb; done)|(have e:∀ a,w.Z2l[i.toNat]?=some a→a=v:=fun a ha=>by { rw [hv] at ha; cases ha; rfl }; have:=e _ (And.right (by assumption)); subst this; exact ⟨by omega,by omega,by omega,by omega⟩)))
theorem L35x2 (w:Z0c) (s:List UInt8) (l0:List Bool) (h:Z5f w) (hl:w.Z1y.length≤8) (hc:∀ b∈w.Z47,Z7s w b) (h0:l0.length=w.Z1y.length):Ok (Z07 (Zg5 w s) Z09 (0,l0)) (fun r=>r.length=w.Z1y.length):=by
 have:=h.conL
 refine lp (fun t=>t.1) (w.Z47.length) (fun t=>t.2.length=w.Z1y.length) (fun t hI _ _=>?_) (by omega) (by exact h0) (by omega) (by omega)
 try dsimp only at*
 unfold Zg5
 repeat' first
  | with_reducible refine bd (ik (by have:=hc _ (by assumption); unfold Z7s at this; omega) (by have:=hc _ (by assumption); unfold Z7s at this; first|omega|(simp only [List.length_set]; omega))) fun _ _=>?_
  | with_reducible refine nx ?_ ?_ ?_
  | with_reducible refine dn ?_
  | unfold Zkc
  | with_reducible refine brD (fun _=>?_) fun _=>?_
  | with_reducible refine br (fun _=>?_) fun _=>?_
  | with_reducible refine bd gr fun _ _=>?_
  | with_reducible refine bd (la (by first|omega|(simp only [List.length_set,List.length_append,List.length_cons,List.length_nil,List.length_replicate]; omega))) fun _ _=>?_
  | with_reducible refine bd wr fun _ _=>?_
  | assumption
  | (simp only [List.length_set,List.length_append,List.length_cons,List.length_nil,List.length_replicate]; omega)
theorem L35x1 (w:Z0c) (s:List UInt8) (l0:List Bool) (h:Z5f w) (hl:w.Z1y.length≤8) (hc:∀ b∈w.Z47,Z7s w b) (h0:l0.length=w.Z1y.length):Ok (Z07 (Zia w s) Z09 (0,l0)) (fun r=>r.length=w.Z1y.length):=by
 refine lp (fun t=>t.1) (w.Z1y.length) (fun t=>t.2.length=w.Z1y.length) (fun t hI _ _=>?_) (by omega) (by exact h0) (by omega) (by omega)
 try dsimp only at*
 unfold Zia
 repeat' first
  | with_reducible refine nx ?_ ?_ ?_
  | with_reducible refine dn ?_
  | with_reducible refine brD (fun _=>?_) fun _=>?_
  | with_reducible refine bd wr fun _ _=>?_
  | with_reducible refine bd (L35x2 _ _ _ (by first|assumption|omega|exact And.left (by assumption)|(dsimp only; omega)) (by first|assumption|omega|exact And.left (by assumption)|(dsimp only; omega)) (by first|assumption|omega|exact And.left (by assumption)|(dsimp only; omega)) (by first|assumption|omega|exact And.left (by assumption)|(dsimp only; omega))) fun _ _=>?_
  | omega
theorem Y1f (w:Z0c) (s:List UInt8) (k:Int) (h:Z5f w) (hl:w.Z1y.length≤8) (hc:∀ b∈w.Z47,Z7s w b) (h0:0≤k) (h1:k<w.Z1y.length):Ok (Zj7 w s k) (fun r=>r.length=w.Z1y.length):=by
 unfold Zj7
 repeat' first
  | with_reducible refine bd (ik (by omega) (by first|omega|(simp only [List.length_set,List.length_append,List.length_cons,List.length_nil,List.length_replicate]; omega))) fun _ _=>?_
  | with_reducible refine bd (la (by first|omega|(simp only [List.length_set,List.length_append,List.length_cons,List.length_nil,List.length_replicate]; omega))) fun _ _=>?_
  | with_reducible refine bd (mk (by omega) (by omega) (by omega) (by omega)) fun _ _=>?_
  | with_reducible refine bd (L35x1 _ _ _ (by first|assumption|(simp only [List.length_set,List.length_replicate]; omega)) (by first|assumption|(simp only [List.length_set,List.length_replicate]; omega)) (by first|assumption|(simp only [List.length_set,List.length_replicate]; omega)) (by first|assumption|(simp only [List.length_set,List.length_replicate]; omega))) fun _ _=>?_
  | with_reducible refine ok ?_
  | assumption
theorem L22x1 (v:Z2s) (g:List Bool) (w:Z0c) (i:Int) (h:Z5f w) (h0:0≤i) (h1:i<w.Z2l.length) (hg:g.length=w.Z1y.length) (hs:∀ (j:Nat) v,j<i→w.Z2l[j]?=some v→Z7m w v):Ok (Z07 (Zk0 v g w i) Z09 0) (fun _=>True):=by
 have:=h.iniL
 refine li (i) (fun t _ _=>?_) (by omega) (by omega) (by omega)
 unfold Zk0
 repeat' first
  | with_reducible refine bd gri fun _ _=>?_
  | with_reducible refine bd (gr (by have:=hs t.toNat _ (by omega) (And.right (by assumption)); unfold Z7m at this; omega) (by have:=hs t.toNat _ (by omega) (And.right (by assumption)); unfold Z7m at this; omega)) fun _ _=>?_
  | with_reducible refine ni ?_ ?_
  | with_reducible refine di ?_
  | with_reducible refine brD (fun _=>?_) fun _=>?_
  | with_reducible refine br (fun _=>?_) fun _=>?_
  | with_reducible refine bd wr fun _ _=>?_
  | exact True.intro
  | omega
theorem Y34 (w:Z0c) (i:Int) (h:Z5f w) (hl:w.Z1y.length≤8) (hc:∀ b∈w.Z47,Z7s w b) (h0:0≤i) (h1:i<w.Z2l.length) (hs:∀ (j:Nat) v,j≤i→w.Z2l[j]?=some v→Z7m w v):Ok (Zgr w i) (fun _=>True):=by
 have:=h.iniL
 unfold Zgr
 repeat' first
  | with_reducible refine bd gri fun _ _=>?_
  | with_reducible refine bd (Y1f _ _ _ h hl hc (by have:=hs i.toNat _ (by omega) (And.right (by assumption)); unfold Z7m at this; omega) (by have:=hs i.toNat _ (by omega) (And.right (by assumption)); unfold Z7m at this; omega)) fun _ _=>?_
  | with_reducible refine bd (L22x1 _ _ _ _ h h0 h1 (by assumption) (fun j v hj hv=>hs j v (by omega) hv)) fun _ _=>?_
  | with_reducible refine ok ?_
  | split
  | assumption
theorem L53x1 (x:List Z0h) (hl:x.length≤140737488355328):Ok (Z07 (Zi0 x) Z09 0) (fun _=>True):=by
 refine li (x.length) (fun t _ _=>?_) (by omega) (by omega) (by omega)
 unfold Zi0
 repeat' first
  | with_reducible refine ni ?_ ?_
  | with_reducible refine di ?_
  | with_reducible refine brD (fun _=>?_) fun _=>?_
  | with_reducible refine brN (fun _=>?_) fun _=>?_
  | with_reducible refine bd gr fun _ _=>?_
  | with_reducible refine bd wr fun _ _=>?_
  | exact True.intro
  | omega
theorem Zs1 (x:List Z0h) (hl:x.length≤140737488355328):Ok (Zeh x) (fun _=>True):=by
 unfold Zeh
 repeat' first
  | with_reducible refine bd (L53x1 _ (by first|assumption|omega|exact And.left (by assumption)|(dsimp only; omega))) fun _ _=>?_
  | with_reducible refine ok ?_
  | split
  | assumption
theorem L47x1 (u:Z0m) (h:Z5d u):Ok (Z07 (Zj4 u) Z09 0) (fun _=>True):=by
 have:=h.fldL
 refine li (u.Z0g.length) (fun t _ _=>?_) (by omega) (by omega) (by omega)
 unfold Zj4
 repeat' first
  | with_reducible refine ni ?_ ?_
  | with_reducible refine di ?_
  | unfold Zko
  | with_reducible refine brD (fun _=>?_) fun _=>?_
  | with_reducible refine br! (fun _=>?_) fun _=>?_
  | with_reducible refine brE (fun _=>?_) fun _=>?_
  | with_reducible refine brN (fun _=>?_) fun _=>?_
  | with_reducible refine bd gr fun _ _=>?_
  | with_reducible refine bd wr fun _ _=>?_
  | exact True.intro
  | omega
theorem L47x3 (m:Z2n) (h:Zai m):Ok (Z07 (Zjm m) Z09 0) (fun _=>True):=by
 have:=h.code.hndL
 refine li (m.Z27.Z1w.length) (fun t _ _=>?_) (by omega) (by omega) (by omega)
 unfold Zjm
 repeat' first
  | with_reducible refine ni ?_ ?_
  | with_reducible refine di ?_
  | with_reducible refine brD (fun _=>?_) fun _=>?_
  | with_reducible refine brN (fun _=>?_) fun _=>?_
  | with_reducible refine bd gr fun _ _=>?_
  | with_reducible refine bd wr fun _ _=>?_
  | exact True.intro
  | omega
theorem L47x4 (m:Z2n) (h:Zai m):Ok (Z07 (Zjh m) Z09 0) (fun _=>True):=by
 have:=h.code.mapL
 refine li (m.Z27.Z1f.length) (fun t _ _=>?_) (by omega) (by omega) (by omega)
 unfold Zjh
 repeat' first
  | with_reducible refine bd (Zs1 _ (by have:=(h.code.map _ (by assumption)).locL; omega)) fun _ _=>?_
  | with_reducible refine bd (Zs1 _ (by have:=(h.code.map _ (by assumption)).stkL; omega)) fun _ _=>?_
  | with_reducible refine ni ?_ ?_
  | with_reducible refine di ?_
  | with_reducible refine brD (fun _=>?_) fun _=>?_
  | with_reducible refine br! (fun _=>?_) fun _=>?_
  | with_reducible refine bd gr fun _ _=>?_
  | with_reducible refine bd wr fun _ _=>?_
  | exact True.intro
  | omega
theorem L47x2 (u:Z0m) (h:Z5d u):Ok (Z07 (Zi6 u) Z09 0) (fun _=>True):=by
 have:=h.metL
 refine li (u.Z10.length) (fun t _ _=>?_) (by omega) (by omega) (by omega)
 unfold Zi6
 repeat' first
  | with_reducible refine ni ?_ ?_
  | with_reducible refine di ?_
  | unfold Zih
  | with_reducible refine brD (fun _=>?_) fun _=>?_
  | with_reducible refine bd gr fun _ _=>?_
  | with_reducible refine bd wr fun _ _=>?_
  | with_reducible refine bd (L47x3 _ (by exact h.met _ (by assumption))) fun _ _=>?_
  | with_reducible refine bd (L47x4 _ (by exact h.met _ (by assumption))) fun _ _=>?_
  | with_reducible refine bs ?_
  | split
  | exact True.intro
  | omega
theorem Y0g (u:Z0m) (h:Z5d u):Ok (Zjl u) (fun _=>True):=by
 unfold Zjl
 repeat' first
  | with_reducible refine bd (L47x1 _ (by first|assumption|omega|exact And.left (by assumption)|(dsimp only; omega))) fun _ _=>?_
  | with_reducible refine bd (L47x2 _ (by first|assumption|omega|exact And.left (by assumption)|(dsimp only; omega))) fun _ _=>?_
  | with_reducible refine ok ?_
  | split
  | assumption
end Go.Proofs
set_option linter.unusedVariables false
namespace Go.Proofs
open Go.Den Go.Tot
structure Z11 (p:List Z00):Prop where
 len:p.length≤1000
 ord:∀ (k:Nat) c,p[k]?=some c→c.f_A≤k∧c.f_B≤k
 str:∀ c∈p,Str c.f_S
theorem Z11.app {p:List Z00} {c:Z00} (h:Z11 p) (hl:p.length<1000) (ha:c.f_A≤p.length) (hb:c.f_B≤p.length) (hs:Str c.f_S):Z11 (([]++p)++[c]):=by
 refine ⟨by simp; omega,fun k d hd=>?_,fun d hd=>?_⟩
 ·rw [List.nil_append] at hd
  rcases Nat.lt_trichotomy k p.length with h1|h1|h1
  ·rw [List.getElem?_append_left h1] at hd; exact h.ord k d hd
  ·subst h1
   rw [List.getElem?_append_right (Nat.le_refl _),Nat.sub_self] at hd
   cases hd; exact ⟨ha,hb⟩
  ·rw [List.getElem?_eq_none (by simp; omega)] at hd; cases hd
 ·rw [List.nil_append] at hd
  rcases List.mem_append.1 hd with hd|hd
  ·exact h.str d hd
  ·rw [List.mem_singleton.1 hd]; exact hs
theorem Z11.nil:Z11 [] :=⟨by simp,fun k c h=>by simp at h,fun c h=>by simp at h⟩
abbrev PR (p:List Z00) (r:List Z00×Int×Int):Prop:=Z11 r.1∧p.length≤r.1.length∧0≤r.2.1∧r.2.1≤r.1.length∧r.1.length≤1000
theorem Z61 {α:Type} {P:α→Prop} {l:List α} {x:α} (h:∀ v∈l,P v) (hx:P x):∀ v∈l++[x],P v:=fun v hv=>by
 rcases List.mem_append.1 hv with hv|hv
 ·exact h v hv
 ·rw [List.mem_singleton.1 hv]; exact hx
theorem Z44 {α:Type} {P:α→Prop}:∀ v∈([]:List α),P v:=fun v hv=>by simp at hv
theorem W0 {op a:Int}:Z2o { f_Op:=op,f_A:=a,f_B:=0,f_To:=0,Z0s:=[],Z0b:=[],Z1c:={ Z0k:=[],Z0f:=[],Z1o:=[] },f_S:=[] }:=⟨by simp,by simp,⟨by simp,by simp,by simp⟩,by simp⟩
theorem L77x1 (p:List Z00) (c:Z00) (hp:Z11 p):Ok (Z07 (Zf2 p c) Z09 0) (fun q=>match q with|.inl _=>True|.inr y=>PR p y):=by
 have:=hp.len
 refine li (p.length) (fun t _ _=>?_) (by omega) (by omega) (by omega)
 unfold Zf2
 repeat' first
  | with_reducible refine ni ?_ ?_
  | with_reducible refine di ?_
  | with_reducible refine brD (fun _=>?_) fun _=>?_
  | with_reducible refine br (fun _=>?_) fun _=>?_
  | with_reducible refine bd gr fun _ _=>?_
  | with_reducible refine bd wr fun _ _=>?_
  | with_reducible refine And.intro ?_ ?_
  | exact True.intro
  | omega
  | (dsimp only; omega)
theorem Zdq (p:List Z00) (c:Z00) (hp:Z11 p) (ha:c.f_A≤p.length) (hb:c.f_B≤p.length) (hs:Str c.f_S):Ok (Z5w p c) (PR p):=by
 have:=hp.len
 unfold Z5w
 repeat' first
  | with_reducible refine brD (fun _=>?_) fun _=>?_
  | with_reducible refine bd wr fun _ _=>?_
  | with_reducible refine bd gk fun _ _=>?_
  | with_reducible refine bd (L77x1 _ _ (by first|assumption|omega|exact And.left (by assumption)|(dsimp only; omega))) fun _ _=>?_
  | with_reducible refine ok ?_
  | split
  | (first|exact ⟨hp.app (by omega) ha hb hs,by simp,by dsimp only; omega,by simp; omega,by simp; omega⟩|exact ⟨hp,by dsimp only; omega,by dsimp only; omega,by dsimp only; omega,by dsimp only; omega⟩|(dsimp only at *; assumption))
theorem Zev (p:List Z00) (s:List UInt8) (hp:Z11 p) (hs:Str s):Ok (Z6f p s) (PR p):=by
 have:=hp.len
 unfold Z6f
 repeat' first
  | with_reducible refine bd (Zdq _ _ (by first|assumption|omega|(dsimp only; omega)|exact And.left (by assumption)|(simp; done)) (by first|assumption|omega|(dsimp only; omega)|exact And.left (by assumption)|(simp; done)) (by first|assumption|omega|(dsimp only; omega)|exact And.left (by assumption)|(simp; done)) (by first|assumption|omega|(dsimp only; omega)|exact And.left (by assumption)|(simp; done))) fun _ _=>?_
  | with_reducible refine ok ?_
  | (first|exact ⟨by first|exact hp|exact And.left (by assumption),by dsimp only; omega,by dsimp only; omega,by dsimp only; omega,by dsimp only; omega⟩|exact ⟨hp,by dsimp only; omega,by dsimp only; omega,by dsimp only; omega,by dsimp only; omega⟩)
theorem Zy0 (p:List Z00) (tag:Int) (s:List UInt8) (hp:Z11 p) (hs:Str s):Ok (Zac p tag s) (PR p):=by
 have:=hp.len
 unfold Zac
 repeat' first
  | with_reducible refine brN (fun _=>?_) fun _=>?_
  | with_reducible refine bd (Zev _ _ (by first|assumption|omega|exact And.left (by assumption)|(dsimp only; omega)) (by first|assumption|omega|exact And.left (by assumption)|(dsimp only; omega))) fun _ _=>?_
  | with_reducible refine bd (Zdq _ _ (by first|assumption|omega|(dsimp only; omega)|exact And.left (by assumption)|(simp; done)) (by first|assumption|omega|(dsimp only; omega)|exact And.left (by assumption)|(simp; done)) (by first|assumption|omega|(dsimp only; omega)|exact And.left (by assumption)|(simp; done)) (by first|assumption|omega|(dsimp only; omega)|exact And.left (by assumption)|(simp; done))) fun _ _=>?_
  | with_reducible refine ok ?_
  | (first|exact ⟨by first|exact hp|exact And.left (by assumption),by dsimp only; omega,by dsimp only; omega,by dsimp only; omega,by dsimp only; omega⟩|exact ⟨hp,by dsimp only; omega,by dsimp only; omega,by dsimp only; omega,by dsimp only; omega⟩)
theorem Zno (p:List Z00) (s:List UInt8) (hp:Z11 p) (hs:Str s):Ok (Z8c p s) (PR p):=by
 have:=hp.len
 unfold Z8c
 repeat' first
  | with_reducible refine bd (Zy0 _ _ _ (by first|assumption|omega|exact And.left (by assumption)|(dsimp only; omega)) (by first|assumption|omega|exact And.left (by assumption)|(dsimp only; omega))) fun _ _=>?_
  | with_reducible refine ok ?_
  | (first|exact ⟨by first|exact hp|exact And.left (by assumption),by dsimp only; omega,by dsimp only; omega,by dsimp only; omega,by dsimp only; omega⟩|exact ⟨hp,by dsimp only; omega,by dsimp only; omega,by dsimp only; omega,by dsimp only; omega⟩)
theorem Zta (p:List Z00) (s:List UInt8) (hp:Z11 p) (hs:Str s):Ok (Z9v p s) (PR p):=by
 have:=hp.len
 unfold Z9v
 repeat' first
  | with_reducible refine bd (Zy0 _ _ _ (by first|assumption|omega|exact And.left (by assumption)|(dsimp only; omega)) (by first|assumption|omega|exact And.left (by assumption)|(dsimp only; omega))) fun _ _=>?_
  | with_reducible refine ok ?_
  | (first|exact ⟨by first|exact hp|exact And.left (by assumption),by dsimp only; omega,by dsimp only; omega,by dsimp only; omega,by dsimp only; omega⟩|exact ⟨hp,by dsimp only; omega,by dsimp only; omega,by dsimp only; omega,by dsimp only; omega⟩)
theorem Zf1 (x:Z0i) (s:List UInt8) (hp:Z11 x.f_P) (hs:Str s):Ok (Z76 x s) (fun r=>Z11 r.1.f_P):=by
 unfold Z76
 repeat' first
  | with_reducible refine brN (fun _=>?_) fun _=>?_
  | with_reducible refine bd (Zno _ _ (by first|assumption|omega|exact And.left (by assumption)|(dsimp only; omega)) (by first|assumption|omega|exact And.left (by assumption)|(dsimp only; omega))) fun _ _=>?_
  | with_reducible refine ok ?_
  | (exact And.left (by assumption))
  | assumption
theorem Z6x (x:Z0i) (s:List UInt8) (hp:Z11 x.f_P) (hs:Str s):Ok (Z4x x s) (fun r=>Z11 r.1.f_P):=by
 unfold Z4x
 repeat' first
  | with_reducible refine brN (fun _=>?_) fun _=>?_
  | with_reducible refine bd (Zev _ _ (by first|assumption|omega|exact And.left (by assumption)|(dsimp only; omega)) (by first|assumption|omega|exact And.left (by assumption)|(dsimp only; omega))) fun _ _=>?_
  | with_reducible refine ok ?_
  | (exact And.left (by assumption))
  | assumption
theorem Y4h (x:Z0i) (f:Z1b) (hp:Z11 x.f_P) (hf:Zns f):Ok (Zc3 x f) (fun r=>Z11 r.1.f_P):=by
 unfold Zc3
 repeat' first
  | unfold Zdv
  | with_reducible refine brE (fun _=>?_) fun _=>?_
  | with_reducible refine brN (fun _=>?_) fun _=>?_
  | with_reducible refine bd (Zta _ _ (by first|exact hf.s|assumption) (by first|exact hf.s|assumption)) fun _ _=>?_
  | with_reducible refine bd (Zdq _ _ (by first|assumption|omega|(dsimp only; omega)|exact And.left (by assumption)|(simp; done)) (by first|assumption|omega|(dsimp only; omega)|exact And.left (by assumption)|(simp; done)) (by first|assumption|omega|(dsimp only; omega)|exact And.left (by assumption)|(simp; done)) (by first|assumption|omega|(dsimp only; omega)|exact And.left (by assumption)|(simp; done))) fun _ _=>?_
  | with_reducible refine ok ?_
  | (exact And.left (by assumption))
  | assumption
theorem Y0v (p:List Z00) (tag:Int) (r:Z22) (hp:Z11 p) (hr:WRef r):Ok (Z92 p tag r) (PR p):=by
 have:=hp.len
 unfold Z92
 repeat' first
  | with_reducible refine bd (Zev _ _ (And.left (by assumption)) hr.n) fun _ _=>?_
  | with_reducible refine bd (Zev _ _ (And.left (by assumption)) hr.d) fun _ _=>?_
  | with_reducible refine brN (fun _=>?_) fun _=>?_
  | with_reducible refine bd (Zno _ _ (by first|exact hr.c|assumption) (by first|exact hr.c|assumption)) fun _ _=>?_
  | with_reducible refine bd (Zdq _ _ (by first|assumption|omega|(dsimp only; omega)|exact And.left (by assumption)|(simp; done)) (by first|assumption|omega|(dsimp only; omega)|exact And.left (by assumption)|(simp; done)) (by first|assumption|omega|(dsimp only; omega)|exact And.left (by assumption)|(simp; done)) (by first|assumption|omega|(dsimp only; omega)|exact And.left (by assumption)|(simp; done))) fun _ _=>?_
  | with_reducible refine ok ?_
  | (first|exact ⟨by first|exact hp|exact And.left (by assumption),by dsimp only; omega,by dsimp only; omega,by dsimp only; omega,by dsimp only; omega⟩|exact ⟨hp,by dsimp only; omega,by dsimp only; omega,by dsimp only; omega,by dsimp only; omega⟩)
theorem Zsg (x:Int):Ok (Z9h x) (fun _=>True):=by
 unfold Z9h
 repeat' with_reducible first
  | refine brD (fun _=>?_) fun _=>?_
  | refine ok ?_
  | exact True.intro
theorem Zwu (x a b:Int):Ok (Z6g x a b) (fun _=>True):=by
 unfold Z6g
 repeat' with_reducible first
  | refine brD (fun _=>?_) fun _=>?_
  | refine ok ?_
  | exact True.intro
theorem Zrx (x:Int):Ok (Zd3 x) (fun _=>True):=by
 unfold Zd3
 repeat' with_reducible first
  | refine brD (fun _=>?_) fun _=>?_
  | refine ok ?_
  | exact True.intro
theorem Y0p (x:Int):Ok (Zj3 x) (fun _=>True):=by
 unfold Zj3
 repeat' with_reducible first
  | refine brD (fun _=>?_) fun _=>?_
  | refine ok ?_
  | exact True.intro
theorem Zsm (x:Int):Ok (Zfe x) (fun _=>True):=by
 unfold Zfe
 repeat' with_reducible first
  | refine brE (fun _=>?_) fun _=>?_
  | refine ok ?_
  | exact True.intro
theorem Zod (x:Int):Ok (Zde x) (fun _=>True):=by
 unfold Zde
 repeat' with_reducible first
  | refine brD (fun _=>?_) fun _=>?_
  | refine ok ?_
  | exact True.intro
theorem Zs8 (x:Int):Ok (Z6j x) (fun _=>True):=by
 unfold Z6j
 repeat' first
  | unfold Zjq
  | unfold Zgf
  | with_reducible refine br (fun _=>?_) fun _=>?_
  | with_reducible refine bd (Zsg _) fun _ _=>?_
  | with_reducible refine bd (Zwu _ _ _) fun _ _=>?_
  | with_reducible refine ok ?_
  | assumption
theorem Zzr (x:Z01) (k:Int):Ok (Zat x k) (fun _=>True):=by
 unfold Zat
 repeat' with_reducible first
  | unfold Zg3
  | unfold Ze6
  | unfold Zex
  | refine br! (fun _=>?_) fun _=>?_
  | refine brE (fun _=>?_) fun _=>?_
  | refine brN (fun _=>?_) fun _=>?_
  | refine ok ?_
  | exact True.intro
theorem L114x1 (x:Z01) (hx:Z2o x):Ok (Z07 (Zbq x) Z09 0) (fun _=>True):=by
 have:=hx.tos
 refine li (x.Z0b.length) (fun t _ _=>?_) (by omega) (by omega) (by omega)
 unfold Zbq
 repeat' first
  | with_reducible refine ni ?_ ?_
  | with_reducible refine di ?_
  | with_reducible refine brD (fun _=>?_) fun _=>?_
  | with_reducible refine bd gr fun _ _=>?_
  | with_reducible refine bd wr fun _ _=>?_
  | exact True.intro
  | omega
theorem Y0u (x:Z01) (hx:Z2o x):Ok (Z83 x) (fun _=>True):=by
 unfold Z83
 repeat' with_reducible first
  | unfold Zio
  | refine bd (L114x1 _ (by first|assumption|omega|exact And.left (by assumption)|(dsimp only; omega))) fun _ _=>?_
  | refine ok ?_
  | split
  | exact True.intro
theorem Zqn (x:Z01) (hx:Z2o x):Ok (Z07 (Zhw x) Z09 0) (fun _=>True):=by
 have:=hx.keys
 refine li (x.Z0s.length) (fun t _ _=>?_) (by omega) (by omega) (by omega)
 unfold Zhw
 repeat' first
  | with_reducible refine ni ?_ ?_
  | with_reducible refine di ?_
  | with_reducible refine brD (fun _=>?_) fun _=>?_
  | with_reducible refine br! (fun _=>?_) fun _=>?_
  | with_reducible refine bd gr fun _ _=>?_
  | with_reducible refine bd wr fun _ _=>?_
  | with_reducible refine bd (Zod _) fun _ _=>?_
  | exact True.intro
  | omega
theorem Ztp (x:Z01) (hx:Z2o x):Ok (Z07 (Zg1 x) Z09 1) (fun _=>True):=by
 have:=hx.keys
 refine lp (fun t=>t) (max 1 x.Z0s.length) (fun t=>1≤t) (fun t hI _ _=>?_) (by omega) (by omega) (by omega) (by omega)
 unfold Zg1
 repeat' first
  | with_reducible refine nx ?_ ?_ ?_
  | with_reducible refine dn ?_
  | with_reducible refine brD (fun _=>?_) fun _=>?_
  | with_reducible refine bd gr fun _ _=>?_
  | with_reducible refine bd wr fun _ _=>?_
  | exact True.intro
  | omega
theorem Y1d (x:Z01) (hx:Z2o x):Ok (Zc6 x) (fun _=>True):=by
 unfold Zc6
 repeat' with_reducible first
  | unfold Zkt
  | unfold Zkl
  | refine brD (fun _=>?_) fun _=>?_
  | refine bd wr fun _ _=>?_
  | refine bd (Zod _) fun _ _=>?_
  | refine bd (Zqn _ (by first|assumption|omega|exact And.left (by assumption)|(dsimp only; omega))) fun _ _=>?_
  | refine bd (Ztp _ (by assumption)) fun _ _=>?_
  | refine ok ?_
  | split
  | exact True.intro
theorem Y48 (x:Z01) (hx:Z2o x):Ok (Z4s x) (fun _=>True):=by
 unfold Z4s
 repeat' first
  | unfold Z9a
  | unfold Za8
  | unfold Zca
  | unfold Z8a
  | unfold Zb4
  | with_reducible refine brD (fun _=>?_) fun _=>?_
  | with_reducible refine br! (fun _=>?_) fun _=>?_
  | with_reducible refine brE (fun _=>?_) fun _=>?_
  | with_reducible refine bd (Zs8 _) fun _ _=>?_
  | with_reducible refine bd (Zzr _ _) fun _ _=>?_
  | with_reducible refine bd (Y0u _ (by first|assumption|omega|exact And.left (by assumption)|(dsimp only; omega))) fun _ _=>?_
  | with_reducible refine bd (Y1d _ (by first|assumption|omega|exact And.left (by assumption)|(dsimp only; omega))) fun _ _=>?_
  | with_reducible refine ok ?_
  | assumption
theorem Y44 (x:Z01) (hx:Z2o x):Ok (Zjc x) (fun _=>True):=by
 unfold Zjc
 repeat' with_reducible first
  | unfold Zoc
  | unfold Zip
  | unfold Ze9
  | refine br (fun _=>?_) fun _=>?_
  | refine bd (Zrx _) fun _ _=>?_
  | refine bd (Y0p _) fun _ _=>?_
  | refine bd (Zsm _) fun _ _=>?_
  | refine bs ?_
  | refine ok ?_
  | exact True.intro
theorem Zt4 (x:Int):Ok (Zcz x) (fun l=>l.length≤3):=by
 unfold Zcz
 repeat' first
  | unfold Zp0
  | unfold Zmh
  | unfold Zpi
  | unfold Zof
  | with_reducible refine br (fun _=>?_) fun _=>?_
  | with_reducible refine bd (Zwu _ _ _) fun _ _=>?_
  | with_reducible refine ok ?_
  | (first|(simp; done)|decide)
theorem L158x1 (l:List Int) (x:Int) (hl:l.length≤140737488355328):Ok (Z07 (Zji l x) Z09 0) (fun _=>True):=by
 refine li (l.length) (fun t _ _=>?_) (by omega) (by omega) (by omega)
 unfold Zji
 repeat' first
  | with_reducible refine ni ?_ ?_
  | with_reducible refine di ?_
  | with_reducible refine brD (fun _=>?_) fun _=>?_
  | with_reducible refine brE (fun _=>?_) fun _=>?_
  | with_reducible refine bd gr fun _ _=>?_
  | with_reducible refine bd wr fun _ _=>?_
  | exact True.intro
  | omega
theorem Y1l (l:List Int) (x:Int) (hl:l.length≤140737488355328):Ok (Zik l x) (fun _=>True):=by
 unfold Zik
 repeat' first
  | with_reducible refine bd (L158x1 _ _ (by first|assumption|omega|exact And.left (by assumption)|(dsimp only; omega))) fun _ _=>?_
  | with_reducible refine ok ?_
  | split
  | assumption
theorem Y3y (p:List Z00) (x:Z01) (hp:Z11 p) (hx:Z2o x):Ok (Zaq p x) (PR p):=by
 have:=hp.len
 unfold Zaq
 repeat' first
  | unfold Zke
  | unfold Zdy
  | unfold Zeb
  | unfold Zkv
  | with_reducible refine br (fun _=>?_) fun _=>?_
  | with_reducible refine bd (Zta _ _ (by first|exact hx.s|assumption) (by first|exact hx.s|assumption)) fun _ _=>?_
  | with_reducible refine bd (Zdq _ _ (by first|assumption|omega|(dsimp only; omega)|exact And.left (by assumption)|(simp; done)) (by first|assumption|omega|(dsimp only; omega)|exact And.left (by assumption)|(simp; done)) (by first|assumption|omega|(dsimp only; omega)|exact And.left (by assumption)|(simp; done)) (by first|assumption|omega|(dsimp only; omega)|exact And.left (by assumption)|(simp; done))) fun _ _=>?_
  | with_reducible refine bd (Zsm _) fun _ _=>?_
  | with_reducible refine bd (Zno _ _ (by first|exact hx.ref.c|assumption) (by first|exact hx.ref.c|assumption)) fun _ _=>?_
  | with_reducible refine bd (Zev _ _ (by first|exact hx.s|assumption) (by first|exact hx.s|assumption)) fun _ _=>?_
  | with_reducible refine bd (Zrx _) fun _ _=>?_
  | with_reducible refine bd (Y0v _ _ _ (by first|exact hx.ref|assumption) (by first|exact hx.ref|assumption)) fun _ _=>?_
  | with_reducible refine ok ?_
  | (first|exact ⟨by first|exact hp|exact And.left (by assumption),by dsimp only; omega,by dsimp only; omega,by dsimp only; omega,by dsimp only; omega⟩|exact ⟨hp,by dsimp only; omega,by dsimp only; omega,by dsimp only; omega,by dsimp only; omega⟩)
theorem Y15 (p:List Z00) (x:Z01) (hp:Z11 p) (hx:Z2o x):Ok (Zb5 p x) (fun r=>Z11 r.1∧Z2o r.2.1):=by
 unfold Zb5
 repeat' first
  | unfold Zew
  | unfold Zar
  | with_reducible refine br! (fun _=>?_) fun _=>?_
  | with_reducible refine brE (fun _=>?_) fun _=>?_
  | with_reducible refine brN (fun _=>?_) fun _=>?_
  | with_reducible refine bd (Zsg _) fun _ _=>?_
  | with_reducible refine bd (Zs8 _) fun _ _=>?_
  | with_reducible refine bd (Y48 _ (by first|assumption|omega|exact And.left (by assumption)|(dsimp only; omega))) fun _ _=>?_
  | with_reducible refine bd (Y44 _ (by first|assumption|omega|exact And.left (by assumption)|(dsimp only; omega))) fun _ _=>?_
  | with_reducible refine bd (Zt4 _) fun _ _=>?_
  | with_reducible refine bd (Y1l _ _ (by first|assumption|omega|exact And.left (by assumption)|(dsimp only; omega))) fun _ _=>?_
  | with_reducible refine bd (Y3y _ _ (by first|assumption|omega|exact And.left (by assumption)|(dsimp only; omega)) (by first|assumption|omega|exact And.left (by assumption)|(dsimp only; omega))) fun _ _=>?_
  | with_reducible refine ok ?_
  | (first|exact ⟨hp,W0⟩|exact ⟨hp,hx⟩|exact ⟨And.left (by assumption),W0⟩)
theorem Zzn (x:Z0i) (i:Z01) (hp:Z11 x.f_P) (hx:Z2o i):Ok (Zba x i) (fun r=>Z11 r.1.f_P∧Z2o r.2):=by
 unfold Zba
 repeat' first
  | with_reducible refine brN (fun _=>?_) fun _=>?_
  | with_reducible refine bd (Y15 _ _ (by first|assumption|omega|exact And.left (by assumption)|(dsimp only; omega)) (by first|assumption|omega|exact And.left (by assumption)|(dsimp only; omega))) fun _ _=>?_
  | with_reducible refine ok ?_
  | (first|exact ⟨hp,W0⟩|(dsimp only; assumption))
end Go.Proofs
set_option linter.unusedVariables false
namespace Go.Proofs
open Go.Den Go.Tot
theorem Y4k (l:List Int):(bytesOf l).length=l.length:=by simp [bytesOf]
theorem Zre {n:Int} (hn:n=1∨n=2∨n=4):Zk8 n=some true:=by
 rcases hn with rfl|rfl|rfl <;> rfl
theorem L62x1 (x n k:Int) (l:List Int) (hk:k=n - 1) (h0:0≤n) (hl:(l.length:Int)=n) (hn:n≤8):Ok (Z07 Zib Z09 (x,k,l)) (fun r=>(r.length:Int)=n):=by
 refine lp (fun t=>n - 1 - t.2.1) n (fun t=>(t.2.2.length:Int)=n) (fun t hI h0 h1=>?_) (by omega) hl
 unfold Zib
 refine brD (fun hlt=>?_) fun hge=>dn hI
 refine bs (bs (bd ik fun j hj=>bd (la (by omega)) fun _ _=>?_))
 refine bd (P:=fun _=>True) ⟨_,by unfold shrK; rw [if_pos (by decide)],trivial⟩ fun _ _=>bd wr fun v hv=>nx ?_
 dsimp only
 rw [List.length_set]; exact hI
theorem Zf3 (x n:Int) (hn:n=1∨n=2∨n=4):Ok (Z8i x n) (fun r=>(r.1.length:Int)≤n):=by
 have hj:Ok (Zcx x n) (fun r=>(r.1.length:Int)≤n):=by
  unfold Zcx
  refine bd (mk (by omega) (by omega) (by omega) (by omega)) fun _ _=>bd wr fun k hk=>?_
  exact bd (L62x1 x n k _ hk (by omega) (by simp; omega) (by omega)) fun q hq=>ok (by dsimp only; rw [Y4k]; omega)
 unfold Z8i
 rw [Zre hn]
 refine bs (br! (fun h=>by cases h) fun _=>brD (fun _=>?_) fun _=>hj)
 have hs:∀ y:Int,0≤y→Ok (Z6k .i64 1 y) (fun _=>True):=fun y hy=>⟨_,by unfold Z6k; rw [if_pos hy],trivial⟩
 refine bd wr fun _ _=>bd wr fun _ _=>bd (hs _ (by omega)) fun _ _=>bs (brD (fun _=>ok (by dsimp only; simp; omega)) fun _=>?_)
 exact bd wr fun _ _=>bd (hs _ (by omega)) fun _ _=>bs (brD (fun _=>ok (by dsimp only; simp; omega)) fun _=>hj)
theorem Zr8 (x:Int):Ok (Z8x x) (fun r=>r.length≤2):=bd (Zf3 x 2 (.inr (.inl rfl))) fun v h=>ok (by omega)
theorem Z4m (x:Int):Ok (Z4a x) (fun r=>r.length≤2):=bd (Zf3 x 2 (.inr (.inl rfl))) fun v h=>ok (by omega)
theorem Zp9 (x:Int):Ok (Zf7 x) (fun r=>r.length≤1):=bd (Zf3 x 1 (.inl rfl)) fun v h=>ok (by omega)
theorem Y0i (x n:Int) (hn:n=1∨n=2∨n=4):Ok (Z4k x n) (fun r=>r.length≤4):=bd (Zf3 x n hn) fun v h=>ok (by omega)
theorem Y28 (s:List UInt8) (a n:Int) (hn:n=1∨n=2∨n=4) (hl:Str s):Ok (Zir s a n) (fun e=>e=0→0≤a∧a+n≤s.length):=by
 unfold Zir
 rw [Zre hn]
 refine bs (br! (fun h=>by cases h) fun _=>brD (fun _=>ok (by omega)) fun _=>brD (fun _=>ok (by omega)) fun _=>?_)
 unfold Zn1
 exact bd wr fun v hv=>brD (fun _=>ok (by omega)) fun _=>ok (by omega)
def Sg (n v:Int):Prop:=(n=1∧ -128≤v∧v<128)∨(n=2∧ -32768≤v∧v<32768)∨(n=3∧ -8388608≤v∧v<8388608)∨(n=4∧ -2147483648≤v∧v<2147483648)
theorem L134x1 (s : List UInt8) (a n p : Int) (hn:1≤n∧n≤4) (hl:Str s) (h0:0≤a) (h1:a+n≤s.length) (hp: -128≤p∧p<128):Ok (Z07 (Zhc s a n) Z09 (p,1)) (Sg n):=by
 refine lp (fun t=>t.2) n (fun t=>Sg t.2 t.1) (fun t hI g0 g1=>?_) (by omega) (.inl ⟨rfl,hp⟩)
 unfold Zhc
 unfold Sg at hI
 refine brD (fun hlt => ?_) fun hge => dn (by have:t.2=n:=by omega
                                              rw [← this]; exact hI)
 refine bd wr fun v9 e9=>bd wr fun v10 e10=>bd gs fun v11 e11=>bd wr fun v12 e12=>bd wr fun v13 e13=>bd wr fun v14 e14=>?_
 exact nx (by dsimp only; unfold Sg; omega)
theorem Zvq (s:List UInt8) (a n:Int) (hn:n=1∨n=2∨n=4) (hl:Str s):Ok (Zeg s a n) (fun r=>(r.2=0→0≤a∧a+n≤s.length∧Sg n r.1)∧(r.2≠0→r.1=0)):=by
 unfold Zeg
 refine bd (Y28 s a n hn hl) fun v0 h0=>brN (fun h=>ok ⟨fun h'=>absurd h' h,fun _=>rfl⟩) fun h=>?_
 obtain ⟨k0,k1⟩:=h0 h
 refine bd gs fun v1 h1=>bd wr fun v2 h2=>?_
 have key:∀ p:Int,-128≤p→p<128→Ok (Zdi s a n p) (fun r=>(r.2=0→0≤a∧a+n≤s.length∧Sg n r.1)∧(r.2≠0→r.1=0)):=fun p h h'=>by
  unfold Zdi
  exact bd (L134x1 s a n p (by omega) hl k0 k1 ⟨h,h'⟩) fun q hq=>ok ⟨fun _=>⟨k0,k1,hq⟩,fun h=>absurd rfl h⟩
 exact brD (fun _=>bd wr fun v3 h3=>key v3 (by omega) (by omega)) fun _=>key v2 (by omega) (by omega)
def Us (n v:Int):Prop:=0≤v∧(n=1→v<256)∧(n=2→v<65536)∧(n=4→v<4294967296)
theorem Zez (s:List UInt8) (a n:Int) (hn:n=1∨n=2∨n=4) (hl:Str s):Ok (Z78 s a n) (fun r=>(r.2=0→0≤a∧a+n≤s.length)∧Us n r.1):=by
 unfold Z78
 refine bd (Zvq s a n hn hl) fun v h=>?_
 have h2:=h.2
 refine brE (fun he=>?_) fun he=>ok ⟨fun h'=>absurd h' he,by dsimp only; unfold Us; rw [h2 he]; omega⟩
 obtain ⟨h0,h1,hs⟩:=h.1 he
 unfold Sg at hs
 refine brD (fun _=>brD (fun hneg=>?_) fun hnn=>ok ⟨fun _=>⟨h0,h1⟩,by dsimp only; unfold Us; omega⟩) fun hlt=>absurd hlt (by omega)
 unfold Zll
 rcases hn with rfl|rfl|rfl
 ·refine bd wr fun v1 e1=>?_
  subst e1
  rw [show Z6k .i64 1 (8*1)=some 256 by decide]
  exact bs (bd wr fun v3 e3=>ok ⟨fun _=>⟨h0,h1⟩,by dsimp only; unfold Us; omega⟩)
 ·refine bd wr fun v1 e1=>?_
  subst e1
  rw [show Z6k .i64 1 (8*2)=some 65536 by decide]
  exact bs (bd wr fun v3 e3=>ok ⟨fun _=>⟨h0,h1⟩,by dsimp only; unfold Us; omega⟩)
 ·refine bd wr fun v1 e1=>?_
  subst e1
  rw [show Z6k .i64 1 (8*4)=some 4294967296 by decide]
  exact bs (bd wr fun v3 e3=>ok ⟨fun _=>⟨h0,h1⟩,by dsimp only; unfold Us; omega⟩)
def Z4q (s:List UInt8) (r:Z15):Prop:=r.f_S=s∧0≤r.f_At∧r.f_At≤s.length
theorem Z3t (s:List UInt8) (r:Z15) (n:Int) (hn:n=1∨n=2∨n=4) (hl:Str s) (hr:Z4q s r):Ok (Z34 r n) (fun x=>Us n x.1∧Z4q s x.2):=by
 obtain ⟨h1,h2,h3⟩:=hr
 unfold Z34
 rw [h1]
 refine bd (Zez s r.f_At n hn hl) fun v hv=>br (fun _=>ok ⟨by dsimp only; unfold Us; omega,rfl,h2,h3⟩) fun _=>brN (fun _=>ok ⟨by dsimp only; unfold Us; omega,rfl,h2,h3⟩) fun he=>?_
 obtain ⟨k0,k1⟩:=hv.1 he
 exact bd wr fun v1 e1=>ok ⟨hv.2,rfl,by dsimp only; omega,by dsimp only; omega⟩
abbrev SL_:=Int×(List UInt8)×Int×Bool×(List Z0h)
def IL (s:List UInt8) (t:SL_):Prop:=Z4q s ⟨t.2.1,t.2.2.1,t.2.2.2.1⟩∧(t.2.2.2.2.length:Int)=t.1∧∀ v∈t.2.2.2.2,v.Z1n.Z0f=[]
def QL (s:List UInt8) (q:(List UInt8)×Int×Bool×(List Z0h)):Prop:=Z4q s ⟨q.1,q.2.1,q.2.2.1⟩∧q.2.2.2.length≤256∧∀ v∈q.2.2.2,v.Z1n.Z0f=[]
theorem Z7v {α:Type} {P:α→Prop} {l:List α} {x:α} (h:∀ v∈l,P v) (hx:P x):∀ v∈l++[x],P v:=fun v hv=>by
 rcases List.mem_append.1 hv with hv|hv
 ·exact h v hv
 ·rw [List.mem_singleton.1 hv]; exact hx
theorem Zlz {s:List UInt8} {n p11 p13 p15:Int} {t0:SL_} {v5:Int×Z15} {p12:List UInt8} {p14:Bool} (hI:IL s t0) (hr:Z4q s ⟨p12,p13,p14⟩) (h0:0≤t0.1) (h1:t0.1<n) (hn:n≤256):Ok (Zbg p11 t0 v5 p12 p13 p14 p15) (St (IL s) (fun t=>t.1) n (QL s) t0):=by
 unfold Zbg
 have:=hI.2.1
 refine bd gk fun _ _=>bd wr fun _ hv=>?_
 exact nx ⟨hr,by simp only [List.length_append,List.length_cons,List.length_nil]; omega,Z7v hI.2.2 rfl⟩
theorem Zts {s:List UInt8} (hs:Str s) {n p9 p11:Int} {t0:SL_} {v5:Int×Z15} {p8:List UInt8} {p10:Bool} (hI:IL s t0) (hr:Z4q s ⟨p8,p9,p10⟩) (h0:0≤t0.1) (h1:t0.1<n) (hn:n≤256):Ok (Zdo t0 v5 p8 p9 p10 p11) (St (IL s) (fun t=>t.1) n (QL s) t0):=by
 unfold Zdo
 refine brD (fun _=>brD (fun _=>?_) fun _=>Zlz hI hr h0 h1 hn) fun _=>Zlz hI hr h0 h1 hn
 unfold Zpx
 exact bd (Z3t s _ 2 (by omega) hs hr) fun v hv=>Zlz hI hv.2 h0 h1 hn
theorem Zx0 (s:List UInt8) (r:Z15) (hs:Str s) (hr:Z4q s r):Ok (Zek r) (fun x=>(x.1.length≤256∧∀ v∈x.1,v.Z1n.Z0f=[])∧Z4q s x.2):=by
 unfold Zek
 refine bd (Z3t s r 1 (by omega) hs hr) fun v0 h0=>bd (P:=QL s) ?_ fun q hq=>ok ⟨hq.2,hq.1⟩
 have hu:0≤v0.1∧v0.1<256:=⟨h0.1.1,h0.1.2.1 rfl⟩
 refine lp (fun t=>t.1) v0.1 (IL s) (fun t hI g0 g1=>?_) (by omega) ⟨h0.2,rfl,fun v hv=>by simp at hv⟩
 have hl:=hI.2.1
 have hd:QL s (t.2.1,t.2.2.1,t.2.2.2.1,t.2.2.2.2):=⟨hI.1,by dsimp only at *; omega,hI.2.2⟩
 unfold Zok
 refine brD (fun hlt=>br! (fun _=>?_) fun _=>dn hd) fun _=>dn hd
 unfold Zp6
 exact bd (Z3t s _ 1 (by omega) hs hI.1) fun v5 h5=>brE (fun _=>bd (Z3t s _ 2 (by omega) hs h5.2) fun v6 h6=>Zts hs hI h6.2 g0 hlt (by omega)) fun _=>Zts hs hI h5.2 g0 hlt (by omega)
def RdT {α:Type} (s:List UInt8) (B:Nat) (P:α→Prop) (q:(List UInt8)×Int×Bool×(List α)):Prop:=Z4q s ⟨q.1,q.2.1,q.2.2.1⟩∧q.2.2.2.length≤B∧∀ v∈q.2.2.2,P v
def RdI {α:Type} (s:List UInt8) (P:α→Prop) (t:Int×(List UInt8)×Int×Bool×(List α)):Prop:=Z4q s ⟨t.2.1,t.2.2.1,t.2.2.2.1⟩∧(t.2.2.2.2.length:Int)=t.1∧∀ v∈t.2.2.2.2,P v
theorem rdL {α:Type} {s:List UInt8} {P:α→Prop} {n p2:Int} {p1:List UInt8} {p3:Bool} (hn:0≤n∧n<65536) (hr:Z4q s ⟨p1,p2,p3⟩) {f:Int×(List UInt8)×Int×Bool×(List α)→Option (Ctl (Int×(List UInt8)×Int×Bool×(List α)) ((List UInt8)×Int×Bool×(List α)))}
  (h:∀ t,RdI s P t→0≤t.1→t.1≤n→RdT s 65536 P (t.2.1,t.2.2.1,t.2.2.2.1,t.2.2.2.2)→Ok (f t) (St (RdI s P) (fun t=>t.1) n (RdT s 65536 P) t)):Ok (Z07 f Z09 (0,p1,p2,p3,[])) (RdT s 65536 P):=
 lp (fun t=>t.1) n (RdI s P) (fun t hI g0 g1=>h t hI g0 g1 ⟨hI.1,by have:=hI.2.1; dsimp only at *; omega,hI.2.2⟩) (by omega) ⟨hr,rfl,fun v hv=>by simp at hv⟩ (by dsimp only; omega) hn.1
theorem L152x1 {s:List UInt8} (hs:Str s) {v7:Int×Z15} (h7:Us 2 v7.1∧Z4q s v7.2):Ok (Z07 (Zjj v7) Z09 (0,v7.2.f_S,v7.2.f_At,v7.2.Z3n,[])) (RdT s 65536 fun v=>v.Z1n=[]):=by
 refine rdL (n:=v7.1) ⟨h7.1.1,h7.1.2.2.1 rfl⟩ h7.2 fun t hI g0 g1 hd=>?_
 have hl:=hI.2.1
 have:=h7.1.2.2.1 rfl
 unfold Zjj
 refine brD (fun hlt=>br! (fun _=>?_) fun _=>dn hd) fun _=>dn hd
 unfold Zld
 refine bd (Z3t s _ 2 (by omega) hs hI.1) fun v1 h1=>bd (Z3t s _ 2 (by omega) hs h1.2) fun v2 h2=>bd (Z3t s _ 2 (by omega) hs h2.2) fun v3 h3=>bd (Z3t s _ 2 (by omega) hs h3.2) fun v4 h4=>?_
 refine bd gk fun _ _=>bd wr fun _ hv=>?_
 exact nx ⟨h4.2,by simp only [List.length_append,List.length_cons,List.length_nil]; omega,Z7v hI.2.2 rfl⟩
theorem L152x3 {s:List UInt8} (hs:Str s) {v7:Int×Z15} (h7:Us 2 v7.1∧Z4q s v7.2):Ok (Z07 (Zhv v7) Z09 (0,v7.2.f_S,v7.2.f_At,v7.2.Z3n,[])) (RdT s 65536 fun _=>True):=by
 refine rdL (n:=v7.1) ⟨h7.1.1,h7.1.2.2.1 rfl⟩ h7.2 fun t hI g0 g1 hd=>?_
 have hl:=hI.2.1
 have:=h7.1.2.2.1 rfl
 unfold Zhv
 refine brD (fun hlt=>br! (fun _=>?_) fun _=>dn hd) fun _=>dn hd
 unfold Zpk
 refine bd (Z3t s _ 2 (by omega) hs hI.1) fun v1 h1=>bd (Z3t s _ 2 (by omega) hs h1.2) fun v2 h2=>?_
 refine bd gk fun _ _=>bd wr fun _ hv=>?_
 exact nx ⟨h2.2,by simp only [List.length_append,List.length_cons,List.length_nil]; omega,Z7v hI.2.2 trivial⟩
def RFr (m:Z0p):Prop:=(m.Z1i.Z0u.length≤256∧∀ v∈m.Z1i.Z0u,v.Z1n.Z0f=[])∧m.Z1i.Z0z.length≤256∧∀ v∈m.Z1i.Z0z,v.Z1n.Z0f=[]
def QM (s:List UInt8) (q:(List UInt8)×Int×Bool×(List Z0p)×(List Int)):Prop:=Z4q s ⟨q.1,q.2.1,q.2.2.1⟩∧q.2.2.2.1.length≤65536∧q.2.2.2.2.length=q.2.2.2.1.length∧∀ v∈q.2.2.2.1,RFr v
def IM (s:List UInt8) (t:Int×(List UInt8)×Int×Bool×(List Z0p)×(List Int)):Prop:=Z4q s ⟨t.2.1,t.2.2.1,t.2.2.2.1⟩∧(t.2.2.2.2.1.length:Int)=t.1∧t.2.2.2.2.2.length=t.2.2.2.2.1.length∧∀ v∈t.2.2.2.2.1,RFr v
theorem L152x2 {s:List UInt8} (hs:Str s) {v7:Int×Z15} (h7:Us 2 v7.1∧Z4q s v7.2):Ok (Z07 (Zg9 v7) Z09 (0,v7.2.f_S,v7.2.f_At,v7.2.Z3n,[],[])) (QM s):=by
 have:=h7.1.2.2.1 rfl
 have:=h7.1.1
 refine lp (fun t=>t.1) v7.1 (IM s) (fun t hI g0 g1=>?_) (by omega) ⟨h7.2,rfl,rfl,fun v hv=>by simp at hv⟩
 have hl:=hI.2.1
 have hl2:=hI.2.2.1
 have hd:QM s (t.2.1,t.2.2.1,t.2.2.2.1,t.2.2.2.2.1,t.2.2.2.2.2):=⟨hI.1,by dsimp only at *; omega,hI.2.2⟩
 unfold Zg9
 refine brD (fun hlt=>br! (fun _=>?_) fun _=>dn hd) fun _=>dn hd
 unfold Zoi
 refine bd (Z3t s _ 2 (by omega) hs hI.1) fun v1 h1=>bd (Z3t s _ 1 (by omega) hs h1.2) fun v2 h2=>bd (Zx0 s _ hs h2.2) fun v3 h3=>bd (Zx0 s _ hs h3.2) fun v4 h4=>?_
 refine bd gk fun _ _=>?_
 refine bd gk fun _ _=>bd wr fun _ hv=>?_
 exact nx ⟨h4.2,by simp only [List.length_append,List.length_cons,List.length_nil]; omega,by simp only [List.length_append,List.length_cons,List.length_nil]; omega,Z7v hI.2.2.2 ⟨h3.1,h4.1⟩⟩
structure TkOk (s:List UInt8) (t:Z3h):Prop where
 ins:t.f_C.Z0j=[]
 hnd:∀ h∈t.f_C.Z1w,h.Z1n=[]
 hndL:t.f_C.Z1w.length≤65536
 map:∀ m∈t.f_C.Z1f,RFr m
 mapL:t.f_C.Z1f.length≤65536
 raw:t.Zmm.length=t.f_C.Z1f.length
 lin:t.f_C.Z1r.length≤65536
 byt:t.Z2g.length≤s.length
theorem Y46 (s:List UInt8) (hs:Str s):Ok (Zfw s) (fun r=>TkOk s r.1):=by
 unfold Zfw
 refine bd (Z3t s _ 2 (by omega) hs ⟨rfl,by dsimp only; omega,by dsimp only; omega⟩) fun v0 h0=>bd (Z3t s _ 2 (by omega) hs h0.2) fun v1 h1=>bd (Z3t s _ 4 (by omega) hs h1.2) fun v2 h2=>?_
 have h5:Ok (Zco v0 v1 v2) (fun r=>TkOk s r.1):=by
  unfold Zco
  exact ok ⟨rfl,fun h hh=>by simp at hh,by simp,fun h hh=>by simp at hh,by simp,rfl,by simp,by simp⟩
 obtain ⟨k1,k2,k3⟩:=h2.2
 have k4:=h2.1.1
 have k5:=h2.1.2.2.2 rfl
 refine br (fun _=>h5) fun _=>bd wr fun v3 h3=>brD (fun _=>h5) fun hle=>?_
 unfold Znv
 refine bd wr fun v4 h4=>bd (sb (by omega) (by omega) (by omega)) fun v5 h5=>bd wr fun v6 h6=>?_
 refine bd (Z3t s _ 2 (by omega) hs ⟨k1,by dsimp only; omega,by dsimp only; omega⟩) fun v7 h7=>bd (L152x1 hs h7) fun q0 hq0=>bd (Z3t s _ 2 (by omega) hs hq0.1) fun v24 h24=>bd (L152x2 hs h24) fun q2 hq2=>bd (Z3t s _ 2 (by omega) hs hq2.1) fun v44 h44=>bd (L152x3 hs h44) fun q4 hq4=>?_
 exact ok ⟨rfl,hq0.2.2,hq0.2.1,hq2.2.2.2,hq2.2.1,hq2.2.2.1,hq4.2.1,by have:=h5.1; dsimp only; omega⟩
end Go.Proofs
set_option linter.unusedVariables false
namespace Go.Proofs
open Go.Den Go.Tot
theorem is_eq (x:Int):Z9h x=some (decide (0≤x∧x<81)):=by
 unfold Z9h
 by_cases h:x≥0
 ·rw [if_pos (by simpa using h)]; congr 1; simp [h]
 ·rw [if_neg (by simpa using h)]; congr 1; simp; omega
theorem Zna (x a b:Int):Z6g x a b=some (decide (a≤x∧x≤b)):=by
 unfold Z6g
 by_cases h:x≥a
 ·rw [if_pos (by simpa using h)]; congr 1; simp [h]
 ·rw [if_neg (by simpa using h)]; congr 1; simp; omega
def KindP (x k:Int):Prop:=(k=3↔36≤x∧x≤52)∧(k=6↔x=53)∧(k=7↔x=54)∧(k= -1↔ ¬(0≤x∧x<81))∧ -1≤k∧k≤7
theorem Zcw (x:Int):Ok (Z6j x) (KindP x):=by
 unfold Z6j Zjq Zgf
 simp only [is_eq,Zna]
 unfold KindP
 repeat' first
  | with_reducible refine br! (fun _=>?_) fun _=>?_
  | with_reducible refine brD (fun _=>?_) fun _=>?_
  | with_reducible refine brE (fun _=>?_) fun _=>?_
  | with_reducible refine bs ?_
  | with_reducible refine ok ?_
  | (have h0:=of_decide_eq_true (by assumption:decide (0≤x∧x<81)=true); refine ⟨?_,?_,?_,?_,?_,?_⟩ <;> omega)
  | (have h0:=of_decide_eq_false (by assumption:decide (0≤x∧x<81)=false); refine ⟨?_,?_,?_,?_,?_,?_⟩ <;> omega)
theorem Zr0 (x:Int):Zbp x=some (decide (36≤x∧x≤54)):=by
 unfold Zbp; rw [Zna]; rfl
theorem Zzc (x:Z01) (hx:Z2o x):Ok (Z07 (Zbq x) Z09 0) (fun q=>match q with|.inl _=>∀ v∈x.Z0b,0≤v∧v<1000|.inr b=>b=false):=by
 have:=hx.tos
 refine lp (fun t=>t) x.Z0b.length (fun t=>∀ (j:Nat) v,(j:Int)<t→x.Z0b[j]?=some v→0≤v∧v<1000) (fun t hI h0 h1=>?_) (by omega) (fun j v h=>by omega) (by omega) (by omega)
 unfold Zbq
 refine brD (fun hlt=>?_) fun hge=>dn fun v hv=>?_
 ·obtain ⟨y,hy,hm,hi⟩:=gri (l:=x.Z0b) (i:=t) (by omega) hlt
  rw [hy]
  refine bs (brD (fun _=>dn rfl) fun _=>bs (brD (fun _=>dn rfl) fun _=>bd wr fun v2 h2=>nx (fun j v hj hv=>?_) (by omega) (by omega)))
  rcases Int.lt_or_le (j:Int) t with hlt|hge
  ·exact hI j v hlt hv
  ·have:j=t.toNat:=by omega
   subst this
   rw [hi] at hv; cases hv
   omega
 ·obtain ⟨j,hj⟩:=List.mem_iff_getElem?.1 hv
  exact hI j v (by have:=(List.getElem?_eq_some_iff.1 hj).1; omega) hj
theorem aims_ok (x:Z01) (hx:Z2o x):Ok (Z83 x) (fun b=>b=true→0≤x.f_To∧x.f_To<1000∧∀ v∈x.Z0b,0≤v∧v<1000):=by
 unfold Z83
 refine brD (fun _=>ok fun h=>by cases h) fun _=>brD (fun _=>ok fun h=>by cases h) fun _=>?_
 unfold Zio
 refine bd (Zzc x hx) fun q hq=>?_
 cases q with
 | inl _=>exact ok fun _=>⟨by omega,by omega,hq⟩
 | inr b=>exact ok fun h=>by cases hq.symm.trans h
theorem keys_ok (x:Z01) (hx:Z2o x):Ok (Zc6 x) (fun e=>e=0→(x.f_Op=53→1≤x.Z0b.length∧x.Z0b.length≤64)∧(x.f_Op≠53→x.Z0s.length≤64∧x.Z0b.length=x.Z0s.length)):=by
 have:=hx.tos
 have:=hx.keys
 unfold Zc6 Zkt Zkl
 refine brE (fun _=>brE (fun _=>ok (by omega)) fun _=>brD (fun _=>ok (by omega)) fun _=>bd (Zod _) fun v h=>br! (fun _=>ok (by omega)) fun _=>bd wr fun _ _=>bd wr fun _ _=>brD (fun _=>ok (by omega)) fun _=>ok (by omega)) fun _=>?_
 refine brD (fun _=>ok (by omega)) fun _=>brN (fun _=>ok (by omega)) fun _=>bd (Zqn x hx) fun q _=>?_
 have h:∀ e:Int,Ok (some e) (fun e=>e=0→(x.f_Op=53→1≤x.Z0b.length∧x.Z0b.length≤64)∧(x.f_Op≠53→x.Z0s.length≤64∧x.Z0b.length=x.Z0s.length)):=fun e=>ok fun _=>⟨by omega,by omega⟩
 cases q with
 | inl _ => refine bd (Ztp x hx) fun q _=>?_
            cases q <;> exact h _
 | inr _=>exact h _
structure Z45 (x:Z01):Prop where
 op:0≤x.f_Op∧x.f_Op<81
 tab:x.f_Op=53→1≤x.Z0b.length∧x.Z0b.length≤64
 look:x.f_Op=54→x.Z0s.length≤64∧x.Z0b.length=x.Z0s.length
 aim:36≤x.f_Op→x.f_Op≤54→0≤x.f_To∧∀ v∈x.Z0b,0≤v
 few:x.f_Op≠53→x.f_Op≠54→x.Z0b=[]
theorem used_ok (x:Z01) (k:Int):Ok (Zat x k) (fun b=>b=true→k≠6→k≠7→x.Z0b.length=0):=by
 unfold Zat Zg3 Ze6 Zex
 repeat' first
  | with_reducible refine br! (fun _=>?_) fun _=>?_
  | with_reducible refine brE (fun _=>?_) fun _=>?_
  | with_reducible refine brN (fun _=>?_) fun _=>?_
  | with_reducible refine ok ?_
  | (intro hb h6 h7; first|(cases hb; done)|(simp only [beq_iff_eq] at *; omega))
theorem Zfo (x:Z01) (hx:Z2o x):Ok (Z4s x) (fun e=>e=0→Z45 x):=by
 unfold Z4s
 refine bd (Zcw x.f_Op) fun k hk=>brD (fun _=>ok (by omega)) fun hk0=>bd (used_ok x k) fun b hb=>br! (fun _=>ok (by omega)) fun hu=>?_
 obtain ⟨k3,k6,k7,km,k0,k1⟩:=hk
 have hfew:=hb hu
 have h5:(k=6∨k=7)→(0≤x.f_To∧∀ v∈x.Z0b,0≤v)→Ok (Zb4 x) (fun e=>e=0→Z45 x):=fun h ha=>by
  unfold Zb4
  exact bd (keys_ok x hx) fun v hv=>ok fun he=>⟨by omega,fun h=>(hv he).1 h,fun h=>(hv he).2 (by omega),fun _ _=>ha,fun _ _=>by omega⟩
 have h4:(k=3∨k=6∨k=7→0≤x.f_To∧∀ v∈x.Z0b,0≤v)→Ok (Z8a k x) (fun e=>e=0→Z45 x):=fun ha=>by
  unfold Z8a
  exact brE (fun h=>h5 (.inl h) (ha (.inr (.inl h)))) fun h6=>brE (fun h=>h5 (.inr h) (ha (.inr (.inr h)))) fun h7=>ok fun _=>⟨by omega,by omega,by omega,fun h h'=>ha (by omega),fun _ _=>List.eq_nil_of_length_eq_zero (hfew h6 h7)⟩
 have ha:Ok (Z83 x) (fun b=>b=true→0≤x.f_To∧∀ v∈x.Z0b,0≤v):=(aims_ok x hx).mono fun b h hb=>⟨(h hb).1,fun v hv=>((h hb).2.2 v hv).1⟩
 have h3:Ok (Zca k x) (fun e=>e=0→Z45 x):=by
  unfold Zca
  refine brE (fun _=>bd ha fun b hb=>br! (fun _=>ok (by omega)) fun h=>h4 fun _=>hb h) fun h3=>brE (fun _=>bd ha fun b hb=>br! (fun _=>ok (by omega)) fun h=>h4 fun _=>hb h) fun h6=>brE (fun _=>bd ha fun b hb=>br! (fun _=>ok (by omega)) fun h=>h4 fun _=>hb h) fun h7=>h4 fun h=>by omega
 have h2:Ok (Za8 k x) (fun e=>e=0→Z45 x):=by
  unfold Za8
  exact brE (fun _=>brD (fun _=>ok (by omega)) fun _=>brD (fun _=>ok (by omega)) fun _=>h3) fun _=>h3
 have h1:Ok (Z9a k x) (fun e=>e=0→Z45 x):=by
  unfold Z9a
  exact brE (fun _=>brD (fun _=>ok (by omega)) fun _=>brD (fun _=>ok (by omega)) fun _=>h2) fun _=>brE (fun _=>brD (fun _=>ok (by omega)) fun _=>brD (fun _=>ok (by omega)) fun _=>h2) fun _=>h2
 repeat' first
  | exact h1
  | with_reducible refine brE (fun _=>?_) fun _=>?_
  | with_reducible refine brD (fun _=>?_) fun _=>?_
  | exact ok (by omega)
theorem Zrn (x:Int):Ok (Zd1 x) (fun n=>0≤n∧n≤3∧(0≤x→x<81→x≠53→x≠54→1≤n)):=by
 unfold Zd1 Zm5 Zp4 Zon
 refine bd (Zcw x) fun k hk=>?_
 obtain ⟨k3,k6,k7,km,k0,k1⟩:=hk
 repeat' first
  | with_reducible refine brE (fun _=>?_) fun _=>?_
  | with_reducible refine ok ?_
  | exact ⟨by omega,by omega,by omega⟩
theorem Zvl (x:Z01) (hx:Z2o x) (hc:Z45 x):Ok (Zho x) (fun n=>0≤n∧n≤400):=by
 have:=hx.tos
 have:=hx.keys
 have:=hc.tab
 have:=hc.look
 unfold Zho
 exact brE (fun _=>bd wr fun _ _=>bd wr fun _ _=>ok (by omega)) fun _=>brE (fun _=>bd wr fun _ _=>bd wr fun _ _=>ok (by omega)) fun _=>bd (Zrn _) fun n hn=>ok (by omega)
theorem L60x1 (l:List Z01) (hl:∀ i∈l,Z2o i) (hn:l.length≤140737488355328):Ok (Z07 (Zbw l) Z09 0) (fun q=>match q with|.inl _=>∀ i∈l,Z45 i|.inr y=>y.2≠0∧y.1=[]):=by
 refine lp (fun t=>t) l.length (fun t=>∀ (j:Nat) v,(j:Int)<t→l[j]?=some v→Z45 v) (fun t hI h0 h1=>?_) (by omega) (fun j v h=>by omega) (by omega) (by omega)
 unfold Zbw
 refine brD (fun hlt=>?_) fun hge=>dn fun v hv=>?_
 ·refine bd gri fun i hi=>bd (Zfo i (hl i hi.1)) fun e he=>brN (fun h=>dn ⟨h,rfl⟩) fun h=>bd wr fun v2 h2=>nx (fun j v hj hv=>?_) (by omega) (by omega)
  rcases Int.lt_or_le (j:Int) t with hlt|hge
  ·exact hI j v hlt hv
  ·have:j=t.toNat:=by omega
   subst this
   rw [hi.2] at hv; cases hv
   exact he h
 ·obtain ⟨j,hj⟩:=List.mem_iff_getElem?.1 hv
  exact hI j v (by have:=(List.getElem?_eq_some_iff.1 hj).1; omega) hj
theorem Zo7 (l:List Z01) (hl:∀ i∈l,Z2o i) (hn:l.length≤140737488355328):Ok (Z6a l) (fun r=>(r.2=0→r.1.length=l.length+1∧l.length≤1000∧∀ i∈l,Z45 i)∧r.1.length≤1001):=by
 unfold Z6a
 refine bd (L60x1 l hl hn) fun q hq=>?_
 cases q with
 | inr y=>exact ok ⟨fun h=>absurd h hq.1,by rw [hq.2]; simp⟩
 | inl _=>
  refine brD (fun _=>ok ⟨by omega,by simp⟩) fun hs=>?_
  refine bd (P:=fun r=>r.length=l.length+1) ?_ fun q2 hq2=>bd ik fun j hj=>bd (la (by omega)) fun _ _=>brD (fun _=>ok ⟨by omega,by simp⟩) fun _=>ok ⟨fun _=>⟨hq2,by omega,hq⟩,by dsimp only; omega⟩
  refine lp (fun t=>t.1) l.length (fun t=>(t.2.length:Int)=t.1+1∧∀ v∈t.2,0≤v∧v≤400*t.1) (fun t hI h0 h1=>?_) (by omega) ⟨rfl,by simp⟩
  obtain ⟨hI1,hI2⟩:=hI
  unfold Zh4
  refine brD (fun hlt=>?_) fun hge=>dn (by omega)
  refine bd ik fun j hj=>bd (la (by omega)) fun v hv=>bd gr fun i hi=>bd (Zvl i (hl i hi) (hq i hi)) fun n hn=>?_
  have hv2:=hI2 v hv.2
  refine bd wr fun w hw=>bd gk fun _ _=>bd wr fun k hk=>?_
  refine nx ⟨by simp only [List.length_append,List.length_cons,List.length_nil]; omega,Z7v (fun v hv=>?_) ?_⟩
  ·have:=hI2 v hv; dsimp only; omega
  ·dsimp only; omega
theorem Z71 (s:List UInt8) (a n:Int) (hn:n=1∨n=2∨n=4) (hs:Str s):Ok (Z5y s a n) (Us n):=bd (Zez s a n hn hs) fun v h=>ok h.2
theorem Zht (s:List UInt8) (a n:Int) (hn:n=1∨n=2∨n=4) (hs:Str s):Ok (Zch s a n) (fun _=>True):=bd (Zvq s a n hn hs) fun v h=>ok trivial
theorem need_ok (s:List UInt8) (a op:Int) (hs:Str s) (h0:0≤a) (h1:a≤s.length) (ho:0≤op) (h81:op<81):Ok (Zfi s a op) (fun n=>n<0∨(1≤n∧a+n≤s.length)):=by
 have h4:∀ p:Int,1≤p→p≤1000000→Ok (Zfb s a p) (fun n=>n<0∨(1≤n∧a+n≤s.length)):=fun p hp hp'=>by
  unfold Zfb
  exact bd wr fun v hv=>brD (fun _=>ok (by omega)) fun _=>ok (by omega)
 have h2:∀ p q:Int,5≤p→p≤9→0≤q→q≤6→Ok (Zdr s a p q) (fun n=>n<0∨(1≤n∧a+n≤s.length)):=fun p q hp hp' hq hq'=>by
  unfold Zdr Zpy
  refine bd wr fun v1 e1=>bd wr fun v2 e2=>bd (Zez s v2 2 (by omega) hs) fun v3 e3=>bd wr fun v4 e4=>brD (fun _=>ok (by omega)) fun _=>brN (fun _=>ok (by omega)) fun _=>?_
  have hu:=e3.2.2.2.1 rfl
  have hu0:=e3.2.1
  have hm:0≤q*v3.1∧q*v3.1≤6*65536:=⟨Int.mul_nonneg hq hu0,Int.le_trans (Int.mul_le_mul_of_nonneg_right hq' hu0) (by omega)⟩
  exact bd wr fun v5 e5=>bd wr fun v6 e6=>h4 v6 (by omega) (by omega)
 unfold Zfi Zi8
 exact bd (Zrn op) fun n hn=>brE (fun _=>brE (fun _=>h2 5 6 (by omega) (by omega) (by omega) (by omega)) fun _=>h2 9 2 (by omega) (by omega) (by omega) (by omega)) fun _=>brE (fun _=>brE (fun _=>h2 5 6 (by omega) (by omega) (by omega) (by omega)) fun _=>h2 9 2 (by omega) (by omega) (by omega) (by omega)) fun _=>h4 n (by omega) (by omega)
theorem L164x1 (n:Int) (s:List UInt8) (a:Int) (hs:Str s) (h0:0≤a) (h1:a≤s.length) (hn:0≤n) (hn':n<65536):Ok (Z07 (Zje n s a) Z09 (0,([]:List Int))) (fun r=>r.length≤65536):=by
 refine lp (fun t=>t.1) n (fun t=>(t.2.length:Int)=t.1) (fun t hI g0 g1=>?_) (by omega) rfl
 unfold Zje
 refine brD (fun hlt=>bd wr fun v1 e1=>bd wr fun v2 e2=>bd wr fun v3 e3=>bd (Z71 s v3 2 (by omega) hs) fun v4 e4=>?_) fun _=>dn (by omega)
 exact bd gk fun _ _=>bd wr fun k hk=>nx (by simp only [List.length_append,List.length_cons,List.length_nil]; omega)
theorem L164x2 (n:Int) (s:List UInt8) (a:Int) (hs:Str s) (h0:0≤a) (h1:a≤s.length) (hn:0≤n) (hn':n<65536):Ok (Z07 (Zid n s a) Z09 (0,([]:List Int),([]:List Int))) (fun r=>r.1.length≤65536∧r.2.length≤65536):=by
 refine lp (fun t=>t.1) n (fun t=>(t.2.1.length:Int)=t.1∧(t.2.2.length:Int)=t.1) (fun t hI g0 g1=>?_) (by omega) ⟨rfl,rfl⟩
 unfold Zid
 refine brD (fun hlt=>bd wr fun v1 e1=>bd wr fun v2 e2=>bd wr fun v3 e3=>bd (Zht s v3 4 (by omega) hs) fun v4 e4=>?_) fun _=>dn (by dsimp only at *; omega)
 refine bd gk fun _ _=>bd wr fun _ _=>bd wr fun _ _=>bd wr fun v5 _=>bd (Z71 s v5 2 (by omega) hs) fun _ _=>?_
 exact bd gk fun _ _=>bd wr fun k hk=>nx (by simp only [List.length_append,List.length_cons,List.length_nil]; omega)
def TkI (i:Z01):Prop:=i.Z0s.length≤65536∧i.Z0b.length≤65536∧i.Z1c={ Z0k:=[],Z0f:=[],Z1o:=[] }∧i.f_S=[]
theorem TkI.w {i:Z01} (h:TkI i):Z2o i:=⟨by have:=h.1; omega,by have:=h.2.1; omega,by rw [h.2.2.1]; exact ⟨by simp,by simp,by simp⟩,by rw [h.2.2.2]; simp⟩
theorem take_ok (s:List UInt8) (a op:Int) (hs:Str s) (h0:0≤a) (h1:a≤s.length):Ok (Ziv s a op) TkI:=by
 unfold Ziv
 have z:∀ x y w v,TkI { f_Op:=x,f_A:=y,f_B:=w,f_To:=v,Z0s:=[],Z0b:=[],Z1c:={ Z0k:=[],Z0f:=[],Z1o:=[] },f_S:=[] }:=fun _ _ _ _=>⟨by simp,by simp,rfl,rfl⟩
 refine bd (Zcw op) fun k _=>brE (fun _=>?_) fun _=>brE (fun _=>?_) fun _=>brE (fun _=>?_) fun _=>brE (fun _=>?_) fun _=>brE (fun _=>?_) fun _=>brE (fun _=>?_) fun _=>brE (fun _=>?_) fun _=>ok (z _ _ _ _)
 ·exact bd wr fun _ _=>bd (Zht s _ 1 (by omega) hs) fun _ _=>ok (z _ _ _ _)
 ·exact bd wr fun _ _=>bd (Z71 s _ 2 (by omega) hs) fun _ _=>ok (z _ _ _ _)
 ·exact bd wr fun _ _=>bd (Z71 s _ 2 (by omega) hs) fun _ _=>ok (z _ _ _ _)
 ·exact bd wr fun _ _=>bd (Z71 s _ 1 (by omega) hs) fun _ _=>ok (z _ _ _ _)
 ·exact bd wr fun _ _=>bd (Z71 s _ 1 (by omega) hs) fun _ _=>bd wr fun _ _=>bd (Zht s _ 1 (by omega) hs) fun _ _=>ok (z _ _ _ _)
 ·refine bd wr fun _ _=>bd (Z71 s _ 2 (by omega) hs) fun _ _=>bd wr fun _ _=>bd (Zht s _ 4 (by omega) hs) fun _ _=>bd wr fun _ _=>bd (Z71 s _ 2 (by omega) hs) fun n hn=>?_
  exact bd (L164x1 n s a hs h0 h1 hn.1 (hn.2.2.1 rfl)) fun q hq=>ok ⟨by simp,hq,rfl,rfl⟩
 ·refine bd wr fun _ _=>bd (Z71 s _ 2 (by omega) hs) fun _ _=>bd wr fun _ _=>bd (Z71 s _ 2 (by omega) hs) fun n hn=>?_
  exact bd (L164x2 n s a hs h0 h1 hn.1 (hn.2.2.1 rfl)) fun q hq=>ok ⟨hq.1,hq.2,rfl,rfl⟩
theorem Zwg (l:List Int) (x:Int) (hl:l.length≤140737488355328):Ok (Zbv l x) (fun k=>k<l.length):=by
 unfold Zbv
 refine bd (P:=fun q:Unit⊕Int=>match q with|.inl _=>True|.inr y=>y<l.length) (li l.length (fun t h0 h1=>?_) (by omega) (by omega) (by omega)) fun q hq=>?_
 ·unfold Zom
  exact brD (fun _=>bd gr fun v _=>br (fun _=>di (by assumption)) fun _=>bd wr fun _ _=>ni (by omega) (by omega)) fun _=>di trivial
 ·cases q with
  | inl _=>exact ok (by omega)
  | inr y=>exact ok hq
theorem L153x1 (s:List UInt8) (hs:s.length≤20000):Ok (Z07 (Zfg s) Z09 (0,([]:List Z01),([]:List Int))) (fun q=>match q with|.inl q=>(∀ i∈q.1,TkI i)∧q.1.length≤20000∧q.2.length≤20000|.inr y=>y.2≠0):=by
 refine lp (fun t=>t.1) s.length (fun t=>(∀ i∈t.2.1,TkI i)∧(t.2.1.length:Int)≤t.1∧(t.2.2.length:Int)≤t.1) (fun t hI h0 h1=>?_) (by omega) ⟨Z44,by simp,by simp⟩
 obtain ⟨hI1,hI2,hI3⟩:=hI
 unfold Zfg
 refine brD (fun hlt=>?_) fun _=>dn ⟨hI1,by dsimp only at *; omega,by dsimp only at *; omega⟩
 refine bd gs fun v hv=>bd wr fun op hop=>brD (fun _=>dn (by simp)) fun _=>bd (need_ok s t.1 op (by unfold Str; omega) h0 (by omega) (by omega) (by omega)) fun n hn=>brD (fun _=>dn (by simp)) fun _=>?_
 refine bd (take_ok s t.1 op (by unfold Str; omega) h0 (by omega)) fun i hi=>?_
 refine bd gk fun _ _=>?_
 refine bd gk fun _ _=>bd wr fun k hk=>?_
 exact nx ⟨Z7v hI1 hi,by simp only [List.length_append,List.length_cons,List.length_nil]; omega,by simp only [List.length_append,List.length_cons,List.length_nil]; omega⟩
theorem L153x3 (ps:List Int) (l:List Int) (hp:ps.length≤20000) (hl:l.length≤65536):Ok (Z07 (Z8r ps l.length) Z09 (0,l)) (fun q=>match q with|.inl r=>r.length=l.length|.inr y=>y.2≠0):=by
 refine lp (fun t=>t.1) l.length (fun t=>t.2.length=l.length) (fun t hI h0 h1=>?_) (by omega) rfl
 unfold Z8r
 refine brD (fun hlt=>?_) fun _=>dn hI
 refine bd ik fun j hj=>bd (la (by omega)) fun v hv=>bd (Zwg ps v (by omega)) fun y hy=>bd (la (by rw [List.length_set]; omega)) fun z hz=>brD (fun _=>dn (by simp)) fun _=>bd wr fun k hk=>?_
 exact nx (by dsimp only; rw [List.length_set]; exact hI)
theorem L153x2 (ps:List Int) (l:List Z01) (hp:ps.length≤20000) (hl:∀ i∈l,TkI i) (hn:l.length≤20000):Ok (Z07 (Zer ps) Z09 (0,l)) (fun q=>match q with|.inl r=>(∀ i∈r,TkI i)∧r.length=l.length|.inr y=>y.2≠0):=by
 refine lp (fun t=>t.1) l.length (fun t=>(∀ i∈t.2,TkI i)∧t.2.length=l.length) (fun t hI h0 h1=>?_) (by omega) ⟨hl,rfl⟩
 obtain ⟨hI1,hI2⟩:=hI
 unfold Zer
 refine brD (fun hlt=>?_) fun _=>dn ⟨hI1,hI2⟩
 refine bd ik fun j hj=>bd (la (by omega)) fun v hv=>?_
 rw [Zr0]
 refine bs (br! (fun _=>bd wr fun k hk=>nx ⟨hI1,hI2⟩) fun _=>?_)
 have hi:=hI1 v hv.2
 refine bd (Zwg ps _ (by omega)) fun y hy=>brD (fun _=>dn (by simp)) fun _=>bd (L153x3 ps v.Z0b hp hi.2.1) fun q hq=>?_
 cases q with
 | inr y=>exact dn hq
 | inl r=>
  refine bd wr fun k hk=>nx ⟨fun i hi'=>?_,by dsimp only; rw [List.length_set]; exact hI2⟩
  rcases List.mem_or_eq_of_mem_set hi' with h|rfl
  ·exact hI1 i h
  ·exact ⟨hi.1,by have:=hi.2.1; dsimp only at *; omega,hi.2.2.1,hi.2.2.2⟩
theorem dec_ok (s:List UInt8):Ok (Zb7 s) (fun r=>r.2=0→(∀ i∈r.1,TkI i)∧r.1.length≤20000):=by
 unfold Zb7
 refine brD (fun _=>ok (by simp)) fun hs=>bd (L153x1 s (by omega)) fun q hq=>?_
 cases q with
 | inr y=>exact ok fun h=>absurd h hq
 | inl q=>
  obtain ⟨h1,h2,h3⟩:=hq
  refine brD (fun _=>ok (by simp)) fun _=>bd (L153x2 q.2 q.1 h3 h1 h2) fun q7 hq7=>?_
  cases q7 with
  | inr y=>exact ok fun h=>absurd h hq7
  | inl l=>
   obtain ⟨k1,k2⟩:=hq7
   refine bd (P:=fun q:Unit⊕(List Z01×Int)=>match q with|.inl _=>True|.inr y=>y.2≠0) (li l.length (fun t h0 h1=>?_) (by omega) (by omega) (by omega)) fun q9 hq9=>?_
   ·unfold Zga
    exact brD (fun _=>bd ik fun j hj=>bd (la (by omega)) fun v hv=>bd (Zfo v (k1 v hv.2).w) fun e _=>brN (fun h=>di h) fun _=>bd wr fun _ _=>ni (by omega) (by omega)) fun _=>di trivial
   ·cases q9 with
    | inl _=>exact ok fun _=>⟨k1,by dsimp only; omega⟩
    | inr y=>exact ok fun h=>absurd h hq9
end Go.Proofs
set_option linter.unusedVariables false
namespace Go.Proofs
open Go.Den Go.Tot
theorem runeLen (n:Int):(Znn n).length≤4:=by
 unfold Znn Utf8.encode
 dsimp only
 repeat' split
 all_goals simp [ByteArray.push]
theorem Zti (y:Z0q) (ht:Str y.Z0f):Ok (Ze5 y) (fun b=>b=true→0≤y.Z2t∧y.Z2t≤8∧y.Z0f.length≤64):=by
 unfold Ze5
 repeat' first
  | unfold j61x1
  | unfold j61x2
  | unfold j61x3
  | with_reducible refine brD (fun _=>?_) fun _=>?_
  | with_reducible refine br (fun _=>?_) fun _=>?_
  | with_reducible refine bd (Zgi _ (by first|assumption|omega|exact And.left (by assumption)|(dsimp only; omega))) fun _ _=>?_
  | with_reducible refine ok ?_
  | ((intro hb; first|(cases hb; done)|exact ⟨by omega,by omega,by simp_all⟩))
theorem L136x1 (y:Z0q) (h0:0≤y.Z2t) (h8:y.Z2t≤8):Ok (Z07 (Zii y) Z09 ([],0)) (fun r=>r.length≤8):=by
 refine lp (fun s=>s.2) (y.Z2t) (fun s=>(s.1.length:Int)=s.2) (fun t hI _ _=>?_) (by omega) (by simp) (by omega) (by omega)
 try dsimp only at*
 unfold Zii
 repeat' first
  | with_reducible refine nx ?_ ?_ ?_
  | with_reducible refine dn ?_
  | with_reducible refine brD (fun _=>?_) fun _=>?_
  | with_reducible refine bd wr fun _ _=>?_
  | with_reducible refine bd (ct (by first|omega|(simp only [List.length_cons,List.length_nil]; omega))) fun _ _=>?_
  | ((simp only [*,List.length_append,List.length_cons,List.length_nil]; omega))
  | omega
theorem Y03 (y:Z0q) (ht:Str y.Z0f):Ok (Zi4 y) (fun r=>r.1.length≤100):=by
 have:=runeLen (IntKind.wrap .i32 y.Z1z)
 unfold Zi4
 repeat' first
  | with_reducible refine bd (Zti _ ht) fun _ hv=>?_
  | with_reducible refine br! (fun _=>?_) fun hb=>?_
  | with_reducible refine bd (L136x1 _ (hv hb).1 (hv hb).2.1) fun _ _=>?_
  | with_reducible refine brE (fun _=>?_) fun _=>?_
  | with_reducible refine bd (ct (by have:=(hv hb).2.2; first|omega|(simp only [List.length_cons,List.length_nil]; omega))) fun _ _=>?_
  | with_reducible refine bs ?_
  | with_reducible refine ok ?_
  | (first|(simp; done)|(dsimp only; have:=(hv hb).2.2; simp only [List.length_cons,List.length_nil] at *; omega))
  | (dsimp only; omega)
theorem L106x1 (p:List Z00) (e:Int) (l:List Z0h) (hp:Z11 p) (hl:∀ v∈l,Str v.Z1n.Z0f) (hn:l.length*56≤140737488355328):Ok (Z07 (Zd8 l) Z09 (0,p,e,([]:List Z0h))) (fun q=>Z11 q.1∧(∀ v∈q.2.2,Str v.Z1n.Z0f)∧q.2.2.length=l.length):=by
 refine lp (fun t=>t.1) (l.length) (fun t=>Z11 t.2.1∧(∀ v∈t.2.2.2,Str v.Z1n.Z0f)∧(t.2.2.2.length:Int)=t.1) (fun t hI _ _=>?_) (by omega) (by exact ⟨hp,Z44,rfl⟩) (by omega) (by omega)
 try dsimp only at*
 unfold Zd8
 obtain ⟨hI1,hI2,hI3⟩:=hI
 repeat' first
  | with_reducible refine nx ?_ ?_ ?_
  | with_reducible refine dn ?_
  | unfold Z9o
  | unfold Z7b
  | with_reducible refine brD (fun _=>?_) fun _=>?_
  | with_reducible refine brE (fun _=>?_) fun _=>?_
  | with_reducible refine bd gr fun _ _=>?_
  | with_reducible refine bd wr fun _ _=>?_
  | with_reducible refine bd gk fun _ _=>?_
  | with_reducible refine bd (Y03 _ (by exact hl _ (by assumption))) fun _ _=>?_
  | with_reducible refine bd (Z6x _ _ (by first|assumption|omega) (by first|assumption|omega)) fun _ _=>?_
  | (first|exact Z61 hI2 (by first|exact hl _ (by assumption)|exact Nat.zero_le _))
  | with_reducible refine And.intro ?_ ?_
  | (simp only [List.length_set,List.length_append,List.length_cons,List.length_nil,List.length_replicate]; omega)
theorem Zy2 (x:Z0i) (l:List Z0h) (hp:Z11 x.f_P) (hl:∀ v∈l,Str v.Z1n.Z0f) (hn:l.length*56≤140737488355328):Ok (Zad x l) (fun r=>Z11 r.1.f_P∧(∀ v∈r.2,Str v.Z1n.Z0f)∧r.2.length=l.length):=by
 unfold Zad
 repeat' first
  | with_reducible refine bd (L106x1 _ _ _ (by first|assumption|omega|exact And.left (by assumption)|(dsimp only; omega)) (by first|assumption|omega|exact And.left (by assumption)|(dsimp only; omega)) (by first|assumption|omega|exact And.left (by assumption)|(dsimp only; omega))) fun _ _=>?_
  | with_reducible refine ok ?_
  | assumption
  | (obtain ⟨_,_⟩:=‹_∧_›)
theorem L78x1 (p:List Z00) (e:Int) (c:Z0a) (hp:Z11 p) (hc:Z51 c):Ok (Z07 (Zfl c) Z09 (0,p,e,([]:List Z01))) (fun q=>Z11 q.1∧(∀ v∈q.2.2,Z2o v)∧q.2.2.length=c.Z0j.length):=by
 have:=hc.insL
 refine lp (fun t=>t.1) (c.Z0j.length) (fun t=>Z11 t.2.1∧(∀ v∈t.2.2.2,Z2o v)∧(t.2.2.2.length:Int)=t.1) (fun t hI _ _=>?_) (by omega) (by exact ⟨hp,Z44,rfl⟩) (by omega) (by omega)
 try dsimp only at*
 unfold Zfl
 obtain ⟨hI1,hI2,hI3⟩:=hI
 repeat' first
  | with_reducible refine nx ?_ ?_ ?_
  | with_reducible refine dn ?_
  | with_reducible refine brD (fun _=>?_) fun _=>?_
  | with_reducible refine bd gr fun _ _=>?_
  | with_reducible refine bd wr fun _ _=>?_
  | with_reducible refine bd gk fun _ _=>?_
  | with_reducible refine bd (Zzn _ _ (by first|assumption|exact hc.ins _ (by assumption)) (by first|assumption|exact hc.ins _ (by assumption))) fun _ _=>?_
  | (exact Z61 hI2 (And.right (by assumption)))
  | with_reducible refine And.intro ?_ ?_
  | (simp only [List.length_set,List.length_append,List.length_cons,List.length_nil,List.length_replicate]; omega)
  | (obtain ⟨_,_⟩:=‹_∧_›)
theorem L78x2 (p:List Z00) (e:Int) (c:Z0a) (hp:Z11 p) (hc:Z51 c):Ok (Z07 (Zfv c) Z09 (0,p,e,([]:List Z0n))) (fun q=>Z11 q.1∧(∀ v∈q.2.2,v.Z1n=[])∧q.2.2.length=c.Z1w.length):=by
 have:=hc.hndL
 refine lp (fun t=>t.1) (c.Z1w.length) (fun t=>Z11 t.2.1∧(∀ v∈t.2.2.2,v.Z1n=[])∧(t.2.2.2.length:Int)=t.1) (fun t hI _ _=>?_) (by omega) (by exact ⟨hp,Z44,rfl⟩) (by omega) (by omega)
 try dsimp only at*
 unfold Zfv
 obtain ⟨hI1,hI2,hI3⟩:=hI
 repeat' first
  | with_reducible refine nx ?_ ?_ ?_
  | with_reducible refine dn ?_
  | unfold Zfn
  | with_reducible refine brD (fun _=>?_) fun _=>?_
  | with_reducible refine br! (fun _=>?_) fun _=>?_
  | with_reducible refine bd gr fun _ _=>?_
  | with_reducible refine bd wr fun _ _=>?_
  | with_reducible refine bd gk fun _ _=>?_
  | with_reducible refine bd (Zf1 _ _ (by first|assumption|exact hc.hnd _ (by assumption)) (by first|assumption|exact hc.hnd _ (by assumption))) fun _ _=>?_
  | (exact Z61 hI2 rfl)
  | with_reducible refine And.intro ?_ ?_
  | (simp only [List.length_set,List.length_append,List.length_cons,List.length_nil,List.length_replicate]; omega)
theorem Zag.of {m:Z0p} (h:Zag m.Z1i) {l k:List Z0h} {b:Bool} (h1:∀ v∈l,Str v.Z1n.Z0f) (h2:l.length=m.Z1i.Z0u.length) (h3:∀ v∈k,Str v.Z1n.Z0f) (h4:k.length=m.Z1i.Z0z.length):
  Zag { Z0u:=l,Z0z:=k,Z6p:=b }:=⟨h1,by have:=h.locL; dsimp only; omega,h3,by have:=h.stkL; dsimp only; omega⟩
theorem L78x3 (p:List Z00) (e:Int) (c:Z0a) (hp:Z11 p) (hc:Z51 c):Ok (Z07 (Zel c) Z09 (0,p,e,([]:List Z0p))) (fun q=>Z11 q.1∧(∀ v∈q.2.2,Zag v.Z1i)∧q.2.2.length=c.Z1f.length):=by
 have:=hc.mapL
 refine lp (fun t=>t.1) (c.Z1f.length) (fun t=>Z11 t.2.1∧(∀ v∈t.2.2.2,Zag v.Z1i)∧(t.2.2.2.length:Int)=t.1) (fun t hI _ _=>?_) (by omega) ⟨hp,Z44,rfl⟩ (by omega) (by omega)
 obtain ⟨hI1,hI2,hI3⟩:=hI
 unfold Zel
 refine brD (fun hlt=>?_) fun _=>dn ⟨hI1,hI2,by dsimp only; omega⟩
 obtain ⟨y,hy,hm⟩:=gr (l:=c.Z1f) (i:=t.1) (by omega) hlt
 simp only [hy]
 refine bs (bs (bd (Zy2 _ _ hI1 (hc.map _ hm).loc (hc.map _ hm).locL) fun v1 h1=>bd (Zy2 _ _ h1.1 (hc.map _ hm).stk (hc.map _ hm).stkL) fun v2 h2=>?_))
 refine bd gk fun _ _=>bd wr fun _ _=>?_
 exact nx ⟨h2.1,Z61 hI2 ((hc.map _ hm).of h1.2.1 h1.2.2 h2.2.1 h2.2.2),by simp only [List.length_append,List.length_cons,List.length_nil]; omega⟩
theorem Zzy (x:Z0i) (c:Z0a) (hp:Z11 x.f_P) (hc:Z51 c):Ok (Zb3 x c) (fun r=>Z11 r.1.f_P∧Z51 r.2):=by
 unfold Zb3
 refine bd (L78x1 _ _ _ hp hc) fun q0 h0=>bd (L78x2 _ _ _ h0.1 hc) fun q2 h2=>bd (L78x3 _ _ _ h2.1 hc) fun q4 h4=>ok ⟨h4.1,h0.2.1,?_,fun v hv=>?_,?_,h4.2.1,?_,hc.linL⟩
 ·have:=hc.insL; have:=h0.2.2; dsimp only; omega
 ·rw [h2.2.1 v hv]; simp
 ·have:=hc.hndL; have:=h2.2.2; dsimp only; omega
 ·have:=hc.mapL; have:=h4.2.2; dsimp only; omega
theorem L58x2 (p:List Z00) (e:Int) (m:Z2n) (hp:Z11 p) (hm:Zai m):Ok (Z07 (Zfc m) Z09 (0,p,e,([]:List Int))) (fun q=>Z11 q.1∧q.2.2.length≤140737488355328):=by
 have:=hm.excL
 refine lp (fun t=>t.1) (m.Z6i.length) (fun t=>Z11 t.2.1∧(t.2.2.2.length:Int)=t.1) (fun t hI _ _=>?_) (by omega) (by exact ⟨hp,rfl⟩) (by omega) (by omega)
 try dsimp only at*
 unfold Zfc
 obtain ⟨hI1,hI3⟩:=hI
 repeat' first
  | with_reducible refine nx ?_ ?_ ?_
  | with_reducible refine dn ?_
  | with_reducible refine brD (fun _=>?_) fun _=>?_
  | with_reducible refine bd gr fun _ _=>?_
  | with_reducible refine bd wr fun _ _=>?_
  | with_reducible refine bd gk fun _ _=>?_
  | with_reducible refine bd (Zf1 _ _ (by first|assumption|exact hm.exc _ (by assumption)) (by first|assumption|exact hm.exc _ (by assumption))) fun _ _=>?_
  | with_reducible refine And.intro ?_ ?_
  | (simp only [List.length_set,List.length_append,List.length_cons,List.length_nil,List.length_replicate]; omega)
structure Zby (n:Int) (ms:List Z0d) (cs:List Z0a) (ts:List (List Int)) (ns:List Z1q):Prop where
 m:(ms.length:Int)=n
 c:(cs.length:Int)=n
 t:(ts.length:Int)=n
 s:(ns.length:Int)=n
 code:∀ v∈cs,Z51 v
 att:∀ m∈ms,m.Z1g=[]
 thr:∀ l∈ts,l.length≤140737488355328
theorem Zby.snoc {n k:Int} {ms:List Z0d} {cs:List Z0a} {ts:List (List Int)} {ns:List Z1q} (h:Zby n ms cs ts ns) {m:Z0d} {c:Z0a} {l:List Int} {s:Z1q} (ha:m.Z1g=[]) (hc:Z51 c) (hl:l.length≤140737488355328) (hk:k=n+1):
  Zby k (ms++[m]) (cs++[c]) (ts++[l]) (ns++[s]):=by
 obtain ⟨h1,h2,h3,h4,h5,h6,h7⟩:=h
 refine ⟨?_,?_,?_,?_,Z61 h5 hc,Z61 h6 ha,Z61 h7 hl⟩ <;> simp only [List.length_append,List.length_cons,List.length_nil] <;> omega
theorem WCode0:Z51 { Z0z:=0,Z0u:=0,Z0j:=[],Z1w:=[],Z1f:=[],Z1r:=[] }:=⟨Z44,by simp,Z44,by simp,Z44,by simp,by simp⟩
abbrev S58:=Int×(List Z00)×Int×(List Z0d)×(List Z0a)×(List (List Int))×(List Z1q)
def I58 (t:S58):Prop:=Z11 t.2.1∧Zby t.1 t.2.2.2.1 t.2.2.2.2.1 t.2.2.2.2.2.1 t.2.2.2.2.2.2
def Q58 (n:Int) (q:(List Z00)×Int×(List Z0d)×(List Z0a)×(List (List Int))×(List Z1q)):Prop:=Z11 q.1∧Zby n q.2.2.1 q.2.2.2.1 q.2.2.2.2.1 q.2.2.2.2.2
theorem K58x2 {n:Int} {p26 p27 p28:Int} {p29:List Z01} {p30:List Z0n} {p31:List Z0p} {p32:List Z14} {t0:S58} {v34:Z2n} {v35 v36:Z0i×Int} {p33:List Z00} {p34 p35:Int}
  (hI:I58 t0) (hp:Z11 p33) (hm:Zai v34) (hc:Z51 { Z0z:=p27,Z0u:=p28,Z0j:=p29,Z1w:=p30,Z1f:=p31,Z1r:=p32 }) (h0:0≤t0.1) (h1:t0.1<n) (hn:n*184≤140737488355328):
  Ok (Z9w p26 p27 p28 p29 p30 p31 p32 t0 v34 v35 v36 p33 p34 p35) (St I58 (fun t=>t.1) n (Q58 n) t0):=by
 unfold Z9w
 have:=hI.2.m; have:=hI.2.c; have:=hI.2.t; have:=hI.2.s
 refine bd (L58x2 _ _ _ hp hm) fun q4 h4=>?_
 refine bd gk fun _ _=>?_
 refine bd gk fun _ _=>?_
 refine bd gk fun _ _=>?_
 refine bd gk fun _ _=>?_
 refine bd wr fun _ hv=>?_
 exact nx ⟨h4.1,hI.2.snoc rfl hc h4.2 hv⟩
theorem K58x1 {n:Int} {t0:S58} {v34:Z2n} {v35 v36:Z0i×Int} {p24:List Z00} {p25 p26 p27 p28:Int} {p29:List Z01} {p30:List Z0n} {p31:List Z0p} {p32:List Z14}
  (hI:I58 t0) (hp:Z11 p24) (hm:Zai v34) (hc:Z51 { Z0z:=p27,Z0u:=p28,Z0j:=p29,Z1w:=p30,Z1f:=p31,Z1r:=p32 }) (h0:0≤t0.1) (h1:t0.1<n) (hn:n*184≤140737488355328):
  Ok (Zam t0 v34 v35 v36 p24 p25 p26 p27 p28 p29 p30 p31 p32) (St I58 (fun t=>t.1) n (Q58 n) t0):=by
 unfold Zam
 exact brD (fun _=>bd (Z6x _ _ hp (by simp)) fun v hv=>K58x2 hI hv hm hc h0 h1 hn) fun _=>K58x2 hI hp hm hc h0 h1 hn
theorem L58x1 (p : List Z00) (e : Int) (u : Z0m) (hp : Z11 p) (hu:Z5d u):Ok (Z07 (Zdc u) Z09 (0,p,e,[],[],[],[])) (Q58 u.Z10.length):=by
 have:=hu.metL
 refine lp (fun t=>t.1) (u.Z10.length) I58 (fun t hI h0 h1=>?_) (by omega) ⟨hp,rfl,rfl,rfl,rfl,Z44,Z44,Z44⟩ (by omega) (by omega)
 unfold Zdc
 refine brD (fun hlt => ?_) fun hge => dn ⟨hI.1, by have:t.1=u.Z10.length:=by omega
                                                    rw [← this]; exact hI.2⟩
 refine bd gr fun m hm=>bd (Z6x _ _ hI.1 (hu.met _ hm).n) fun v1 h1=>bd (Z6x _ _ h1 (hu.met _ hm).d) fun v2 h2=>br (fun _=>?_) fun _=>?_
 ·exact bd (Z6x _ _ h2 (by simp)) fun v3 h3=>bd (Zzy _ _ h3 (hu.met _ hm).code) fun v4 h4=>K58x1 hI h4.1 (hu.met _ hm) h4.2 h0 hlt (by omega)
 ·exact K58x1 hI h2 (hu.met _ hm) WCode0 h0 hlt (by omega)
structure Zcg (u:Z0m) (h:Z28):Prop where
 pool:Z11 h.f_F.Z1v
 fam:Zby u.Z10.length h.f_F.Z10 h.Zaj h.Zck h.Z7k
 ifsL:h.f_F.Z1e.length=u.Z1e.length
 fldL:h.f_F.Z0g.length=u.Z0g.length
 fld:∀ m∈h.f_F.Z0g,m.Z1g.length≤1∧∀ a∈m.Z1g,Str a.Z2g
 attL:h.f_F.Z1g.length≤1
 att:∀ a∈h.f_F.Z1g,Str a.Z2g
theorem L48x1 (p:List Z00) (e:Int) (u:Z0m) (hp:Z11 p) (hu:Z5d u):Ok (Z07 (Zj0 u) Z09 (0,p,e,([]:List Int))) (fun q=>Z11 q.1∧q.2.2.length=u.Z1e.length):=by
 have:=hu.ifsL
 refine lp (fun t=>t.1) (u.Z1e.length) (fun t=>Z11 t.2.1∧(t.2.2.2.length:Int)=t.1) (fun t hI h0 h1=>?_) (by omega) ⟨hp,rfl⟩ (by omega) (by omega)
 obtain ⟨hI1,hI3⟩:=hI
 unfold Zj0
 refine brD (fun hlt=>?_) fun hge=>dn ⟨hI1,by dsimp only; omega⟩
 refine bd gr fun s hs=>bd (Zf1 _ _ hI1 (hu.ifs _ hs)) fun v1 h1=>?_
 refine bd gk fun _ _=>bd wr fun _ hv=>?_
 exact nx ⟨h1,by simp only [List.length_append,List.length_cons,List.length_nil]; omega⟩
def MAt (m:Z0d):Prop:=m.Z1g.length≤1∧∀ a∈m.Z1g,Str a.Z2g
abbrev S48:=Int×(List Z00)×Int×(List Z0d)
def I48 (t:S48):Prop:=Z11 t.2.1∧(t.2.2.2.length:Int)=t.1∧∀ m∈t.2.2.2,MAt m
theorem K48x2 {u:Z0m} (hu:Z5d u) {t1:S48} {v26:Z1b} {v27 v28:Z0i×Int} {p9:List Z00} {p10:Int} {p11:List Z17} (hI:I48 t1) (hp:Z11 p9) (ha:p11.length≤1∧∀ a∈p11,Str a.Z2g) (h0:0≤t1.1) (h1:t1.1<u.Z0g.length):
  Ok (Z9s t1 v26 v27 v28 p9 p10 p11) (St I48 (fun t=>t.1) u.Z0g.length (fun q=>Z11 q.1∧q.2.2.length=u.Z0g.length∧∀ m∈q.2.2,MAt m) t1):=by
 have:=hu.fldL
 obtain ⟨hI1,hI2,hI3⟩:=hI
 unfold Z9s
 refine bd gk fun _ _=>bd wr fun _ hv=>?_
 exact nx ⟨hp,by simp only [List.length_append,List.length_cons,List.length_nil]; omega,Z61 hI3 ha⟩
theorem L48x2 (p:List Z00) (e:Int) (u:Z0m) (hp:Z11 p) (hu:Z5d u):Ok (Z07 (Zds u) Z09 (0,p,e,([]:List Z0d))) (fun q=>Z11 q.1∧q.2.2.length=u.Z0g.length∧∀ m∈q.2.2,MAt m):=by
 have:=hu.fldL
 refine lp (fun t=>t.1) (u.Z0g.length) I48 (fun t hI h0 h1=>?_) (by omega) ⟨hp,rfl,Z44⟩ (by omega) (by omega)
 unfold Zds
 refine brD (fun hlt=>?_) fun hge=>dn ⟨hI.1,by have:=hI.2.1; dsimp only; omega,hI.2.2⟩
 refine bd gr fun f hf=>bd (Z6x _ _ hI.1 (hu.fld _ hf).n) fun v1 h1=>bd (Z6x _ _ h1 (hu.fld _ hf).d) fun v2 h2=>brN (fun _=>?_) fun _=>?_
 ·exact bd (Z6x _ _ h2 (by simp)) fun v3 h3=>bd (Y4h _ _ h3 (hu.fld _ hf)) fun v4 h4=>bd (Zr8 _) fun v5 h5=>K48x2 hu hI h4 ⟨by simp,fun a ha=>by rw [List.mem_singleton.1 ha]; show v5.length≤_; omega⟩ h0 hlt
 ·exact K48x2 hu hI h2 ⟨by simp,Z44⟩ h0 hlt
theorem Y0q (x:Z0i) (u:Z0m) (h:Z28) (hp:Z11 x.f_P) (hu:Z5d u) (hi:h.f_F.Z1e.length=u.Z1e.length) (hf:h.f_F.Z0g.length=u.Z0g.length) (hm:∀ m∈h.f_F.Z0g,MAt m):
  Ok (Z99 x u h) (fun r=>Z11 r.1.f_P∧Zcg u r.2):=by
 unfold Z99
 exact bd (L58x1 _ _ _ hp hu) fun q hq=>ok ⟨hq.1,Z11.nil,hq.2,hi,hf,hm,by simp,Z44⟩
theorem K48x3 {u:Z0m} {v34:Z0i×Z28} (hw:Zcg u v34.2) {p12:List Z00} {p13:Int} {p14:List Z17} (hp:Z11 p12) (ha:p14.length≤1∧∀ a∈p14,Str a.Z2g):Ok (Zbu v34 p12 p13 p14) (fun r=>Z11 r.1.f_P∧Zcg u r.2):=by
 unfold Zbu
 exact ok ⟨hp,hp,hw.fam,hw.ifsL,hw.fldL,hw.fld,ha.1,ha.2⟩
theorem K48x1 {u:Z0m} (hu:Z5d u) {v0:Z0i×Int} {p0:List Z00} {p1 p2:Int} (hp:Z11 p0):Ok (Z9r v0 u p0 p1 p2) (fun r=>Z11 r.1.f_P∧Zcg u r.2):=by
 unfold Z9r
 refine bd (L48x1 _ _ _ hp hu) fun q0 h0=>bd (L48x2 _ _ _ h0.1 hu) fun q2 h2=>bd (Y0q _ _ _ h2.1 hu ?_ ?_ h2.2.2) fun v34 hv=>br (fun _=>?_) fun _=>K48x3 hv.2 hv.1 ⟨hv.2.attL,hv.2.att⟩
 ·exact h0.2
 ·exact h2.2.1
 ·exact bd (Z6x _ _ hv.1 (by simp)) fun v1 h1=>bd (Z6x _ _ h1 hu.src) fun v2 h2=>bd (Zr8 _) fun v5 h5=>K48x3 hv.2 h2 ⟨by simp,fun a ha=>by rw [List.mem_singleton.1 ha]; show v5.length≤_; omega⟩
theorem Y3q (x:Z0i) (u:Z0m) (hp:Z11 x.f_P) (hu:Z5d u):Ok (Zcm x u) (fun r=>Zcg u r.2):=by
 unfold Zcm
 refine (bd (Zf1 _ _ hp hu.n) fun v0 h0=>br (fun _=>bd (Zf1 _ _ h0 hu.sup) fun v1 h1=>K48x1 hu h1) fun _=>K48x1 hu h0:Ok _ (fun r:Z0i×Z28=>Z11 r.1.f_P∧Zcg u r.2)).mono fun r hr=>hr.2
end Go.Proofs
set_option linter.unusedVariables false
namespace Go.Proofs
open Go.Den Go.Tot
theorem Zlt (s:List UInt8) (a:Int) (hs:Str s) (h0:0≤a) (h1:a≤s.length):Ok (Zbh s a) (fun r=>r.2= -1∨(a<r.2∧r.2≤s.length)):=by
 unfold Zbh
 refine bd (P:=fun q:Int×Int=>a≤q.2∧q.2≤(s.length:Int)∧0≤q.1∧q.1≤4503599627370496) (lp (fun t=>t.1) s.length (fun t=>0≤t.2∧t.2≤t.1∧a≤t.1) (fun t hI g0 g1=>?_) (by omega) ⟨by omega,h0,by omega⟩ h0 h1) fun q hq=>?_
 ·unfold l60x1 j60x1
  refine brD (fun hlt=>bd gs fun _ _=>brE (fun _=>bd wr fun _ _=>bd wr fun _ _=>nx ?_ ?_ ?_) fun _=>dn ?_) fun _=>dn ?_ <;> dsimp only <;> omega
 ·obtain ⟨q1,q2⟩:=q
  dsimp only at hq ⊢
  have j2:∀ (v:Int) (p0:List UInt8) (p1:Int),Str p0→a<p1→p1≤s.length→Ok (Zcu (q1,q2) v p0 p1) (fun r=>r.2= -1∨(a<r.2∧r.2≤s.length)):=fun v p0 p1 g1 g2 g3=>by
   unfold Zcu
   exact bd (Zti _ g1) fun b _=>br! (fun _=>ok (.inl rfl)) fun _=>ok (.inr ⟨g2,g3⟩)
  refine brD (fun _=>ok (.inl rfl)) fun _=>bd gs fun v5 _=>bd wr fun v6 h6=>brE (fun _=>?_) fun _=>j2 _ _ _ (by simp) (by omega) (by omega)
  refine bd (P:=fun q:Int=>v6≤q∧q≤(s.length:Int)) (lp (fun t=>t) s.length (fun t=>v6≤t) (fun t hI g0 g1=>?_) (by omega) (by omega) (by omega) (by omega)) fun q hq2=>?_
  ·unfold l60x2
   exact brD (fun hlt=>bd gs fun _ _=>brN (fun _=>bd wr fun _ _=>nx (by omega) (by omega) (by omega)) fun _=>dn ⟨by omega,by omega⟩) fun _=>dn ⟨by omega,by omega⟩
  ·exact brD (fun _=>ok (.inl rfl)) fun _=>bd (sb (by omega) (by omega) (by omega)) fun v11 h11=>bd wr fun v12 h12=>j2 _ _ _ (by have:=h11.1; unfold Str at *; omega) (by omega) (by omega)
theorem Zct (s:List UInt8) (hs:Str s):Ok (Z72 s) (fun _=>True):=by
 unfold Z72
 exact bd (Zlt s 0 hs (by omega) (by omega)) fun v _=>brN (fun _=>ok trivial) fun _=>ok trivial
theorem Zt5 {s:List UInt8} (h:(s==([]:List UInt8))=false):0<s.length:=by
 cases s with
 | nil=>simp at h
 | cons a r=>simp
theorem Y20 (s:List UInt8) (hs:Str s):Ok (Zk4 s) (fun _=>True):=by
 unfold Zk4 Zpw
 exact bd (Zgi s hs) fun b _=>br (fun _=>ok trivial) fun _=>br (fun _=>ok trivial) fun h=>by
  have:=Zt5 h
  exact bd gs fun v _=>brN (fun _=>ok trivial) fun _=>bd (Zct s hs) fun v _=>ok trivial
theorem Znh (s:List UInt8) (hs:Str s):Ok (Zci s) (fun b=>b=true→0<s.length):=by
 unfold Zci
 refine br (fun h=>ok fun _=>?_) fun _=>br (fun h=>ok fun _=>?_) fun _=>brD (fun _=>bd (Zmi s hs) fun b hb=>ok fun h=>?_) fun _=>ok fun h=>by cases h
 ·rw [eq_of_beq h]; simp
 ·rw [eq_of_beq h]; simp
 ·exact List.length_pos_iff.2 (hb h)
theorem Znr (s:List UInt8) (hs:s.length≤1048576):Ok (Zaw s) (fun r=>r.1.Z7i.length≤1048576):=by
 unfold Zaw
 refine br (fun _=>ok (by simp)) fun h=>?_
 have hpos:=Zt5 h
 refine bd gs fun v _=>brN (fun _=>ok (by simp)) fun _=>?_
 unfold Zne
 refine bd (P:=fun q:(List Z0q×Int)⊕(Z2k×Int)=>match q with|.inl q=>q.1.length≤1048576∧0≤q.2∧q.2≤(s.length:Int)|.inr y=>y.1.Z7i=[]) (lp (fun t=>t.1) s.length (fun t=>(t.2.length:Int)≤t.1) (fun t hI g0 g1=>?_) (by omega) (by simp)) fun q hq=>?_
 ·unfold Zmp Zm3 Zly
  have hd:t.2.length≤1048576∧0≤t.1∧t.1≤s.length:=⟨by omega,g0,g1⟩
  refine brD (fun hlt=>bd gs fun _ _=>brN (fun _=>?_) fun _=>dn hd) fun _=>dn hd
  refine bd (Zlt s t.1 (by unfold Str; omega) g0 g1) fun r hr=>brD (fun _=>dn rfl) fun hnn=>brE (fun _=>dn rfl) fun _=>?_
  have hlt2:t.1<r.2∧r.2≤s.length:=by omega
  exact bd gk fun _ _=>nx (by simp only [List.length_append,List.length_cons,List.length_nil]; omega) hlt2.1 hlt2.2
 ·cases q with
  | inr y=>exact ok (by rw [hq]; simp)
  | inl q=>
   obtain ⟨h1,h2,h3⟩:=hq
   refine brD (fun _=>ok (by simp)) fun _=>bd wr fun v hv=>bd (Zlt s v (by unfold Str; omega) (by omega) (by omega)) fun r _=>brN (fun _=>ok (by simp)) fun _=>brD (fun _=>ok (by simp)) fun _=>ok (by dsimp only; exact h1)
theorem Y1a (s:List UInt8) (hs:s.length≤1048576):Ok (Zjz s) (fun _=>True):=by
 unfold Zjz
 exact bd (Zct s (by unfold Str; omega)) fun v _=>brE (fun _=>ok trivial) fun _=>bd (Znr s hs) fun _ _=>ok trivial
def Ent (p:List Z00) (i:Int) (c:Z00):Prop:=∃ k:Nat,i=(k:Int)+1∧p[k]?=some c
theorem Ent.mem {p:List Z00} {i:Int} {c:Z00} (h:Ent p i c):c∈p:=by
 obtain ⟨k,-,h⟩:=h
 exact List.mem_of_getElem? h
theorem Zfj (p:List Z00) (i:Int) (hp:p.length≤140737488355328):Ok (Z6s p i) (fun r=>(r.2=0→Ent p i r.1)∧(r.2≠0→r.1.f_S=[])):=by
 unfold Z6s
 refine brD (fun _=>ok ⟨by simp,by simp⟩) fun _=>brD (fun _=>ok ⟨by simp,by simp⟩) fun _=>bd wr fun v hv=>bd gri fun c hc=>ok ⟨fun _=>⟨v.toNat,by omega,hc.2⟩,by simp⟩
theorem Zkh (p:List Z00) (i t:Int) (hp:p.length≤140737488355328):Ok (Z8j p i t) (fun r=>(r.2=0→Ent p i r.1∧r.1.Z1p=t)∧(r.2≠0→r.1.f_S=[])):=by
 unfold Z8j
 exact bd (Zfj p i hp) fun v hv=>brN (fun h=>ok ⟨fun h'=>absurd h' h,fun _=>rfl⟩) fun h=>brN (fun _=>ok ⟨by simp,by simp⟩) fun ht=>ok ⟨fun _=>⟨hv.1 h,ht⟩,by simp⟩
theorem Z4h (p:List Z00) (i:Int) (hp:p.length≤140737488355328):Ok (Z37 p i) (fun r=>r.1=[]∨∃ c,Ent p i c∧r.1=c.f_S):=by
 unfold Z37
 refine bd (Zkh p i 1 hp) fun v hv=>ok ?_
 by_cases h:v.2=0
 ·exact .inr ⟨_,(hv.1 h).1,rfl⟩
 ·exact .inl (hv.2 h)
abbrev PS (p:List Z00) (B:Nat):Prop:=∀ c∈p,c.f_S.length≤B
theorem Zas {p:List Z00} {i:Int} {B:Nat} (h:PS p B) {s:List UInt8} (hs:s=[]∨∃ c,Ent p i c∧s=c.f_S):s.length≤B:=by
 rcases hs with rfl|⟨c,hc,rfl⟩
 ·simp
 ·exact h c hc.mem
theorem Zl5 (p:List Z00) (i:Int) {B:Nat} (hp:p.length≤140737488355328) (h:PS p B):Ok (Zcl p i) (fun r=>r.1.length≤B):=by
 unfold Zcl
 exact bd (Zkh p i 7 hp) fun v hv=>brN (fun _=>ok (by simp)) fun _=>bd (Z4h p _ hp) fun r hr=>ok (Zas h hr)
theorem Ze2 (t:Int):Ok (Z8e t) (fun _=>True):=by
 unfold Z8e
 exact br (fun _=>ok trivial) fun _=>br (fun _=>ok trivial) fun _=>ok trivial
theorem Zsi (p:List Z00) (i:Int) (hp:p.length≤140737488355328):Ok (Zem p i) (fun r=>(r.1=[]∨∃ c,c∈p∧r.1=c.f_S)∧(r.2.1=[]∨∃ c d,Ent p i c∧Ent p c.f_B d∧r.2.1=d.f_S)):=by
 unfold Zem
 refine bd (Zkh p i 12 hp) fun v hv=>brN (fun _=>ok ⟨.inl rfl,.inl rfl⟩) fun h=>bd (Z4h p _ hp) fun a ha=>brN (fun _=>ok ⟨.inl rfl,.inl rfl⟩) fun _=>bd (Z4h p _ hp) fun b hb=>brN (fun _=>ok ⟨.inl rfl,.inl rfl⟩) fun _=>ok ⟨?_,?_⟩
 ·rcases ha with h1|⟨c,hc,h1⟩
  ·exact .inl h1
  ·exact .inr ⟨c,hc.mem,h1⟩
 ·rcases hb with h1|⟨c,hc,h1⟩
  ·exact .inl h1
  ·exact .inr ⟨_,c,(hv.1 h).1,hc,h1⟩
theorem Y1g (p:List Z00) (i t:Int) {B:Nat} (hp:p.length≤140737488355328) (h:PS p B):Ok (Ziz p i t) (fun _=>True):=by
 unfold Ziz Zm0
 exact bd (Zfj p i hp) fun v hv=>brN (fun _=>ok trivial) fun _=>bd (Ze2 t) fun b _=>br! (fun _=>ok trivial) fun _=>brN (fun _=>ok trivial) fun _=>bd (Zl5 p _ hp h) fun r _=>brN (fun _=>ok trivial) fun _=>bd (Zsi p _ hp) fun r _=>brN (fun _=>ok trivial) fun _=>ok trivial
theorem Y1w (t:Int):Ok (Zhj t) (fun _=>True):=by
 unfold Zhj
 repeat' first
  | exact ok trivial
  | with_reducible refine br (fun _=>?_) fun _=>?_
  | exact bd (Ze2 t) fun _ _=>ok trivial
theorem Y12 (c:Z00):Ok (Zkm c) (fun b=>b=true→c.Z1p≠1→c.f_S=[]):=by
 have h2:(c.Z1p≠1→c.f_S=[])→∀ p,Ok (Zdl c p) (fun b=>b=true→c.Z1p≠1→c.f_S=[]):=fun h p=>by
  unfold Zdl
  repeat' first
   | exact ok fun _=>h
   | with_reducible refine br (fun _=>?_) fun _=>?_
 have h1:(c.Z1p≠1→c.f_S=[])→Ok (Z86 c) (fun b=>b=true→c.Z1p≠1→c.f_S=[]):=fun h=>by
  unfold Z86
  exact br (fun _=>h2 h _) fun _=>bd (Ze2 _) fun _ _=>h2 h _
 unfold Zkm
 refine brN (fun _=>br! (fun _=>ok fun h=>by cases h) fun he=>?_) fun h1'=>?_
 ·have hS:c.f_S=[] :=by simpa using he
  repeat' first
   | exact h1 fun _=>hS
   | exact ok fun h=>by cases h
   | with_reducible refine brN (fun _=>?_) fun _=>?_
 ·repeat' first
   | exact h1 fun h=>absurd h1' h
   | exact ok fun h=>by cases h
   | with_reducible refine brN (fun _=>?_) fun _=>?_
theorem Y1c (p:List Z00) (c:Z00) (hp:p.length≤140737488355328):Ok (Zgx p c) (fun _=>True):=by
 have hr:∀ i t,Ok (Zg2 p i t) (fun _=>True):=fun i t=>bd (Zkh p i t hp) fun _ _=>ok trivial
 have h1:∀ a b,Ok (Zfa p c a b) (fun _=>True):=fun a b=>by
  unfold Zfa Zle
  exact bd (hr _ _) fun v _=>brN (fun _=>ok trivial) fun _=>br (fun _=>ok trivial) fun _=>br (fun _=>ok trivial) fun _=>bd (hr _ _) fun _ _=>ok trivial
 unfold Zgx
 exact bd (Ze2 _) fun b _=>br (fun _=>h1 _ _) fun _=>h1 _ _
theorem Y31 (t:Int) (a b:List UInt8) (hb:b.length≤1048576):Ok (Zit t a b) (fun _=>True):=by
 unfold Zit
 refine bd (Znr b hb) fun v _=>?_
 repeat' first
  | exact ok trivial
  | with_reducible refine brD (fun _=>?_) fun _=>?_
  | with_reducible refine br (fun _=>?_) fun _=>?_
  | with_reducible refine bd gs fun _ _=>?_
theorem Y38 (p:List Z00) (hp:Z11 p) (k:Nat) (c:Z00) (hc:p[k]?=some c) (hG:∀ (j:Nat) d,j<k→p[j]?=some d→d.f_S.length≤1024):Ok (Zcb p c) (fun e=>e=0→c.f_S.length≤1024):=by
 have hl:p.length≤140737488355328:=by have:=hp.len; omega
 have ho:=hp.ord k c hc
 have hu:∀ i:Int,i≤k→∀ s:List UInt8,(s=[]∨∃ d,Ent p i d∧s=d.f_S)→s.length≤1024:=fun i hi s hs=>by
  rcases hs with rfl|⟨d,⟨j,h1,h2⟩,rfl⟩
  ·simp
  ·exact hG j d (by omega) h2
 have h2:Ok (Zf6 p c) (fun _=>True):=by
  unfold Zf6
  refine bd (Ze2 _) fun b _=>br (fun _=>bd (Zsi p _ hl) fun r hr=>brE (fun _=>bd (Y31 _ _ _ ?_) fun _ _=>ok trivial) fun _=>ok trivial) fun _=>ok trivial
  rcases hr.2 with h|⟨d,e,h1,h2,h3⟩
  ·rw [h]; simp
  ·obtain ⟨j,e1,e2⟩:=h1
   have:=hp.ord j d e2
   exact Nat.le_trans (hu d.f_B (by omega) _ (.inr ⟨e,h2,h3⟩)) (by omega)
 have h1:Ok (Zdg p c) (fun _=>True):=by
  unfold Zdg
  refine brE (fun _=>bd (Z4h p _ hl) fun a ha=>bd (Z4h p _ hl) fun b hb=>bd (Znh _ (by have:=hu _ ho.1 _ ha; unfold Str; omega)) fun _ _=>br! (fun _=>ok trivial) fun _=>bd (Y1a _ (by have:=hu _ ho.2 _ hb; omega)) fun _ _=>br! (fun _=>ok trivial) fun _=>h2) fun _=>h2
 have hcont:Ok (Zi1 p c) (fun _=>True):=by
  unfold Zi1
  exact brE (fun _=>bd (Z4h p _ hl) fun a ha=>bd (Y20 _ (by have:=hu _ ho.1 _ ha; unfold Str; omega)) fun _ _=>brN (fun _=>ok trivial) fun _=>h1) fun _=>h1
 have hj:c.f_S.length≤1024→Ok (Z9g p c) (fun e=>e=0→c.f_S.length≤1024):=fun hs=>by
  unfold Z9g Zpa
  refine br (fun _=>ok fun _=>hs) fun _=>br (fun _=>ok fun _=>hs) fun _=>br (fun _=>ok fun _=>hs) fun _=>bd (Y1c p c hl) fun _ _=>brN (fun _=>ok fun _=>hs) fun _=>bd hcont fun _ _=>ok fun _=>hs
 unfold Zcb
 refine bd (Y1w _) fun _ _=>br! (fun _=>ok (by simp)) fun _=>bd (Y12 c) fun b hb=>br! (fun _=>ok (by simp)) fun hf=>brE (fun ht=>brD (fun _=>ok (by simp)) fun hs=>?_) fun ht=>?_
 ·repeat' first
   | exact hj (by omega)
   | exact ok (by simp)
   | with_reducible refine brD (fun _=>?_) fun _=>?_
   | with_reducible refine brE (fun _=>?_) fun _=>?_
 ·have hS:=hb hf ht
  repeat' first
   | exact hj (by rw [hS]; simp)
   | exact ok (by simp)
   | with_reducible refine brD (fun _=>?_) fun _=>?_
   | with_reducible refine brE (fun _=>?_) fun _=>?_
theorem Zy1 (p:List Z00) (hp:Z11 p):Ok (Za4 p) (fun r=>r.2=0→PS p 1024):=by
 have:=hp.len
 unfold Za4
 refine brD (fun _=>ok (by simp)) fun _=>bd (P:=fun q:Unit⊕(Int×Int)=>match q with|.inl _=>PS p 1024|.inr y=>y.2≠0) (lp (fun t=>t) p.length (fun t=>∀ (j:Nat) d,(j:Int)<t→p[j]?=some d→d.f_S.length≤1024) (fun t hI h0 h1=>?_) (by omega) (fun j v h=>by omega) (by omega) (by omega)) fun q hq=>?_
 ·unfold Zin
  refine brD (fun hlt=>?_) fun hge=>dn fun v hv=>?_
  ·refine bd gri fun c hc=>bd (Y38 p hp t.toNat c hc.2 fun j d hj hd=>hI j d (by omega) hd) fun e he=>brN (fun h=>bd wr fun _ _=>dn h) fun h=>bd wr fun v2 h2=>nx (fun j v hj hv=>?_) (by omega) (by omega)
   rcases Int.lt_or_le (j:Int) t with hlt|hge
   ·exact hI j v hlt hv
   ·have:j=t.toNat:=by omega
    subst this
    rw [hc.2] at hv; cases hv
    exact he h
  ·obtain ⟨j,hj⟩:=List.mem_iff_getElem?.1 hv
   exact hI j v (by have:=(List.getElem?_eq_some_iff.1 hj).1; omega) hj
 ·cases q with
  | inl _=>exact ok fun _=>hq
  | inr y=>exact ok fun h=>absurd h hq
end Go.Proofs
set_option linter.unusedVariables false
namespace Go.Proofs
open Go.Den Go.Tot
theorem Z5q {α R:Type} {l:List α} {P:α→Prop} {f:Int→Option (Ctl Int R)} {Q:R→Prop} (hn:l.length≤140737488355328) (h:∀ t:Int,0≤t→t<l.length→∀ v,l[t.toNat]?=some v→v∈l→Z05 l t=some v→Ok (f t) (fun x=>match x with|.next t'=>t'=t+1∧P v|.done r=>Q r))
  (he:∀ t:Int,0≤t→t=(l.length:Int)→(∀ v∈l,P v)→Ok (f t) (fun x=>match x with|.next _=>False|.done r=>Q r)):Ok (Z07 f Z09 0) Q:=by
 refine lp (fun t=>t) l.length (fun t=>∀ (j:Nat) v,(j:Int)<t→l[j]?=some v→P v) (fun t hI h0 h1=>?_) (by omega) (fun j v h=>by omega) (by omega) (by omega)
 rcases Int.lt_or_le t (l.length:Int) with hlt|hge
 ·obtain ⟨v,hg,hm,hi⟩:=gri (l:=l) h0 hlt
  refine (h t h0 hlt v hi hm hg).mono fun x hx=>?_
  cases x with
  | done r=>exact hx
  | next t'=>
   obtain ⟨rfl,hP⟩:=hx
   refine ⟨fun j w hj hw=>?_,by dsimp only; omega,by dsimp only; omega⟩
   rcases Int.lt_or_le (j:Int) t with h'|h'
   ·exact hI j w h' hw
   ·have:j=t.toNat:=by omega
    subst this
    rw [hi] at hw; cases hw; exact hP
 ·refine (he t h0 (by omega) fun v hv=>?_).mono fun x hx=>?_
  ·obtain ⟨j,hj⟩:=List.mem_iff_getElem?.1 hv
   exact hI j v (by have:=(List.getElem?_eq_some_iff.1 hj).1; omega) hj
  ·cases x with
   | done r=>exact hx
   | next t'=>exact absurd hx id
def tgt (x:Z01):List Int:=if 36≤x.f_Op∧x.f_Op≤54 then [x.f_To]++x.Z0b else []
theorem Z45.tosL {x:Z01} (h:Z45 x):x.Z0b.length≤64:=by
 by_cases h1:x.f_Op=53
 ·exact (h.tab h1).2
 ·by_cases h2:x.f_Op=54
  ·have:=h.look h2; omega
  ·rw [h.few h1 h2]; simp
theorem Zqe (x:Z01) (h:Z45 x):Ze0 x=some (tgt x):=by
 unfold Ze0 tgt
 rw [Zr0]
 have:=h.tosL
 by_cases hb:36≤x.f_Op∧x.f_Op≤54
 ·rw [if_pos hb]
  simp only [Option.bind_some,hb]
  obtain ⟨u,hu,-⟩:=gk (b:=8) (n:=([x.f_To]++x.Z0b).length) (by simp only [List.length_append,List.length_cons,List.length_nil]; omega) (by simp only [List.length_append,List.length_cons,List.length_nil]; omega)
  simp only [List.length_append,List.length_cons,List.length_nil,Nat.zero_add,Nat.add_comm] at hu
  simp [hu]
 ·rw [if_neg hb]
  simp [hb]
theorem put_ok (x:Z01) (at_:List Int) (hx:Z2o x) (hc:Z45 x) (ht:∀ t∈tgt x,t<at_.length):Ok (Zj6 x at_) (fun r=>r.length≤1000):=by
 have htl:=hc.tosL
 have hbr:36≤x.f_Op→x.f_Op≤54→0≤x.f_To∧x.f_To<at_.length∧∀ v∈x.Z0b,0≤v∧v<at_.length:=fun h h'=>by
  have e:tgt x=[x.f_To]++x.Z0b:=if_pos ⟨h,h'⟩
  rw [e] at ht
  exact ⟨(hc.aim h h').1,ht _ (by simp),fun v hv=>⟨(hc.aim h h').2 v hv,ht v (by simp [hv])⟩⟩
 have num:=fun y n hn=>Y0i y n hn
 unfold Zj6
 refine bd (num _ 1 (by omega)) fun v0 h0=>bd (Zcw x.f_Op) fun k hk=>?_
 obtain ⟨k3,k6,k7,km,k0,k1⟩:=hk
 refine brE (fun _=>?_) fun _=>brE (fun _=>?_) fun _=>brE (fun h3=>?_) fun _=>brE (fun _=>?_) fun _=>brE (fun _=>?_) fun _=>brE (fun h6=>?_) fun _=>brE (fun h7=>?_) fun _=>ok (by omega)
 ·exact bd (num _ 1 (by omega)) fun v1 h1=>bd (ct (by omega)) fun v2 h2=>ok (by omega)
 ·exact bd (num _ 2 (by omega)) fun v1 h1=>bd (ct (by omega)) fun v2 h2=>ok (by omega)
 ·have hb:=hbr (by omega) (by omega)
  exact bd (gr hb.1 hb.2.1) fun v _=>bd (num _ 2 (by omega)) fun v1 h1=>bd (ct (by omega)) fun v2 h2=>ok (by omega)
 ·exact bd (num _ 1 (by omega)) fun v1 h1=>bd (ct (by omega)) fun v2 h2=>ok (by omega)
 ·exact bd (num _ 1 (by omega)) fun v1 h1=>bd (ct (by omega)) fun v2 h2=>bd (num _ 1 (by omega)) fun v3 h3=>bd (ct (by omega)) fun v4 h4=>ok (by omega)
 ·have hb:=hbr (by omega) (by omega)
  refine bd (gr hb.1 hb.2.1) fun v _=>bd (num _ 2 (by omega)) fun v1 h1=>bd (ct (by omega)) fun v2 h2=>bd (num _ 4 (by omega)) fun v3 h3=>bd (ct (by omega)) fun v4 h4=>bd (num _ 2 (by omega)) fun v5 h5=>bd (ct (by omega)) fun v6 h6=>bd (P:=fun r=>r.length≤1000) ?_ fun q hq=>ok hq
  refine lp (fun t=>t.2) x.Z0b.length (fun t=>(t.1.length:Int)≤100+8*t.2) (fun t hI g0 g1=>?_) (by omega) (by dsimp only; omega)
  unfold Zmb
  refine brD (fun hlt=>bd gr fun w hw=>bd (gr (hb.2.2 w hw).1 (hb.2.2 w hw).2) fun z _=>bd (num _ 2 (by omega)) fun y1 e1=>bd (ct (by omega)) fun y2 e2=>bd wr fun k hk=>nx (by dsimp only; omega)) fun _=>dn (by omega)
 ·have hb:=hbr (by omega) (by omega)
  have hlk:=hc.look (by omega)
  refine bd (gr hb.1 hb.2.1) fun v _=>bd (num _ 2 (by omega)) fun v1 h1=>bd (ct (by omega)) fun v2 h2=>bd (num _ 2 (by omega)) fun v3 h3=>bd (ct (by omega)) fun v4 h4=>bd (P:=fun r=>r.length≤1000) ?_ fun q hq=>ok hq
  refine lp (fun t=>t.2) x.Z0s.length (fun t=>(t.1.length:Int)≤100+8*t.2) (fun t hI g0 g1=>?_) (by omega) (by dsimp only; omega)
  unfold Zlo
  refine brD (fun hlt=>bd gr fun w0 hw0=>bd (num _ 4 (by omega)) fun z1 e1=>bd (ct (by omega)) fun z2 e2=>bd gr fun w hw=>bd (gr (hb.2.2 w hw).1 (hb.2.2 w hw).2) fun z _=>bd (num _ 2 (by omega)) fun y1 e1=>bd (ct (by omega)) fun y2 e2=>bd wr fun k hk=>nx (by dsimp only; omega)) fun _=>dn (by omega)
theorem enc_ok (l:List Z01) (hl:∀ i∈l,Z2o i) (hn:l.length≤140737488355328):Ok (Zkp l) (fun r=>r.1.length≤1000000):=by
 unfold Zkp
 refine bd (Zo7 l hl hn) fun v0 h0=>brN (fun _=>ok (by simp)) fun h=>?_
 obtain ⟨g1,g2,g3⟩:=h0.1 h
 refine bd (P:=fun q:Unit⊕(List UInt8×Int)=>match q with|.inl _=>∀ i∈l,∀ t∈tgt i,t<l.length|.inr y=>y.1=[]) (Z5q (P:=fun i=>∀ t∈tgt i,t<l.length) hn (fun t h0 h1 i hi hm hg=>?_) fun t h0 h1 ha=>?_) fun q hq=>?_
 ·unfold Ziy
  rw [hg]
  have hf:(tgt i).length≤65:=by
   have:=(g3 i hm).tosL
   unfold tgt; split <;> simp; omega
  refine brD (fun _=>bs ?_) fun h=>absurd h1 h
  rw [Zqe i (g3 i hm)]
  refine bs (bd (P:=fun q:Unit⊕(List UInt8×Int)=>match q with|.inl _=>∀ t∈tgt i,t<l.length|.inr y=>y.1=[]) (Z5q (l:=tgt i) (P:=fun t=>t<(l.length:Int)) (by omega) (fun k k0 k1 v hv hvm hvg=>?_) fun k k0 k1 ha=>?_) fun q hq=>?_)
  ·unfold Zi3
   rw [hvg]
   exact brD (fun _=>bs (brD (fun _=>ok rfl) fun _=>bd wr fun w hw=>ok ⟨hw,by omega⟩)) fun h=>absurd k1 h
  ·unfold Zi3
   exact brD (fun h=>absurd h (by omega)) fun _=>ok ha
  ·cases q with
   | inl _=>exact bd wr fun w hw=>ok ⟨hw,hq⟩
   | inr y=>exact ok hq
 ·unfold Ziy
  exact brD (fun h=>absurd h (by omega)) fun _=>ok ha
 ·cases q with
  | inr y=>exact ok (by rw [hq]; simp)
  | inl _=>
   refine bd (P:=fun r=>r.length≤1000000) (lp (fun t=>t.2) l.length (fun t=>(t.1.length:Int)≤1000*t.2) (fun t hI k0 k1=>?_) (by omega) (by simp)) fun q6 h6=>ok h6
   unfold l82x3
   refine brD (fun hlt=>bd gr fun i hi=>bd (put_ok i v0.1 (hl i hi) (g3 i hi) fun t ht=>by have:=hq i hi t ht; omega) fun y hy=>bd (ct (by omega)) fun z hz=>bd wr fun w hw=>nx (by dsimp only; omega)) fun _=>dn (by omega)
theorem Zxb (l:List Z0h) (at_:List Int) (hn:l.length≤140737488355328) (h5:∀ v∈l,v.Z2c=5→0≤v.Z3a∧v.Z3a<at_.length):Ok (Ze3 l at_) (fun r=>r.length≤1+5*l.length):=by
 unfold Ze3
 refine bd (Zp9 _) fun v0 h0=>bd (P:=fun r=>r.length≤1+5*l.length) (lp (fun t=>t.2) l.length (fun t=>(t.1.length:Int)≤1+5*t.2) (fun t hI k0 k1=>?_) (by omega) (by dsimp only; omega)) fun q hq=>ok hq
 unfold l86x1
 refine brD (fun hlt=>?_) fun _=>dn (by omega)
 obtain ⟨v,hg,hm⟩:=gr (l:=l) (i:=t.2) (by omega) hlt
 simp only [hg]
 have hj:∀ p:List UInt8,(p.length:Int)≤1+5*t.2+3→Ok (Zet t l p) (St (fun t=>(t.1.length:Int)≤1+5*t.2) (fun t=>t.2) l.length (fun r=>r.length≤1+5*l.length) t):=fun p hp=>by
  unfold Zet
  simp only [hg]
  exact bs (brD (fun _=>bs (bd (Z4m _) fun z hz=>bd (ct (by omega)) fun y hy=>bd wr fun w hw=>nx (by dsimp only; omega))) fun _=>bd wr fun w hw=>nx (by dsimp only; omega))
 refine bs (bd (Zp9 _) fun a ha=>bd (ct (by omega)) fun b hb=>bs (brE (fun h=>bs (bd (gr (h5 v hm h).1 (h5 v hm h).2) fun y _=>bd (Z4m _) fun z hz=>bd (ct (by omega)) fun w hw=>hj w (by omega))) fun _=>hj b (by omega)))
theorem Zqr (l:List Int):Ok (Zd0 l) (fun r=>Str r.1):=by
 unfold Zd0
 refine brD (fun _=>ok (by simp)) fun _=>bd (Z4m _) fun v0 h0=>bd (P:=fun q:List UInt8⊕(List UInt8×Int)=>match q with|.inl q=>q.length≤1000|.inr y=>y.1=[]) (lp (fun t=>t.2) l.length (fun t=>(t.1.length:Int)≤2+2*t.2) (fun t hI k0 k1=>?_) (by omega) (by dsimp only; omega)) fun q hq=>?_
 ·unfold l70x1 j70x1
  refine brD (fun hlt=>bd gr fun _ _=>brD (fun _=>dn rfl) fun _=>bd gr fun _ _=>brD (fun _=>dn rfl) fun _=>bd gr fun _ _=>bd (Z4m _) fun y hy=>bd (ct (by omega)) fun z hz=>bd wr fun w hw=>nx (by dsimp only; omega)) fun _=>dn (by dsimp only; omega)
 ·cases q with
  | inl q => exact ok (by have h:q.length≤1000:=hq
                          show q.length≤_; omega)
  | inr y=>exact ok (by rw [hq]; simp)
structure CPre (c:Z0a):Prop where
 ins:∀ i∈c.Z0j,Z2o i
 insL:c.Z0j.length≤140737488355328
 hndL:c.Z1w.length≤140737488355328
 mapL:c.Z1f.length≤140737488355328
 linL:c.Z1r.length≤140737488355328
 frm:∀ m∈c.Z1f,m.Z1i.Z0u.length≤140737488355328∧m.Z1i.Z0z.length≤140737488355328
theorem Z51.pre {c:Z0a} (h:Z51 c):CPre c:=⟨h.ins,by have:=h.insL; omega,by have:=h.hndL; omega,by have:=h.mapL; omega,by have:=h.linL; omega,fun m hm=>⟨by have:=(h.map m hm).locL; omega,by have:=(h.map m hm).stkL; omega⟩⟩
def Chk0 (l:List Z01):Prop:=∀ i∈l,Z4s i=some 0
theorem all_ok (l:List Z01) (hl:∀ i∈l,Z2o i) (hn:l.length≤140737488355328):Ok (Zkg l) (fun b=>Chk0 l→b=true):=by
 unfold Zkg
 refine bd (P:=fun q:Unit⊕Bool=>match q with|.inl _=>True|.inr b=>¬ Chk0 l) (li l.length (fun t h0 h1=>?_) (by omega) (by omega) (by omega)) fun q hq=>?_
 ·unfold Zpq
  refine brD (fun _=>bd gr fun i hi=>bdE (Zfo i (hl i hi)) fun e he _=>brN (fun h=>di fun hc=>h ?_) fun _=>bd wr fun _ _=>ni (by omega) (by omega)) fun _=>di trivial
  rw [hc i hi] at he; cases he; rfl
 ·cases q with
  | inl _=>exact ok fun _=>rfl
  | inr b=>exact ok fun h=>absurd h hq
theorem Y2w (l:List Z01) (hl:∀ i∈l,Z2o i) (hn:l.length≤1000):Ok (Z6a l) (fun r=>Chk0 l→r.2=0∨r.2=8):=by
 unfold Z6a
 refine bd (P:=fun q:Unit⊕(List Int×Int)=>match q with|.inl _=>∀ i∈l,Z45 i|.inr y=>¬ Chk0 l) (Z5q (l:=l) (P:=Z45) (by omega) (fun t h0 h1 i hi hm hg=>?_) fun t h0 h1 ha=>?_) fun q hq=>?_
 ·unfold Zbw
  rw [hg]
  refine brD (fun _=>bs (bdE (Zfo i (hl i hm)) fun e he hc=>brN (fun h=>ok fun hc=>h ?_) fun h=>bd wr fun w hw=>ok ⟨hw,hc h⟩)) fun h=>absurd h1 h
  rw [hc i hm] at he; cases he; rfl
 ·unfold Zbw
  exact brD (fun h=>absurd h (by omega)) fun _=>ok ha
 ·cases q with
  | inr y=>exact ok fun h=>absurd h hq
  | inl _=>
   have hch:∀ i∈l,Z45 i:=hq
   refine brD (fun h=>absurd h (by omega)) fun _=>bd (P:=fun r=>r.length=l.length+1) ?_ fun q2 hq2=>bd ik fun j hj=>bd (la (by omega)) fun _ _=>brD (fun _=>ok fun _=> .inr rfl) fun _=>ok fun _=> .inl rfl
   refine lp (fun t=>t.1) l.length (fun t=>(t.2.length:Int)=t.1+1∧∀ v∈t.2,0≤v∧v≤400*t.1) (fun t hI h0 h1=>?_) (by omega) ⟨rfl,by simp⟩
   obtain ⟨hI1,hI2⟩:=hI
   unfold Zh4
   refine brD (fun hlt=>?_) fun hge=>dn (by omega)
   refine bd ik fun j hj=>bd (la (by omega)) fun v hv=>bd gr fun i hi=>bd (Zvl i (hl i hi) (hch i hi)) fun n hn=>?_
   have hv2:=hI2 v hv.2
   refine bd wr fun w hw=>bd gk fun _ _=>bd wr fun k hk=>?_
   refine nx ⟨by simp only [List.length_append,List.length_cons,List.length_nil]; omega,Z7v (fun v hv=>?_) ?_⟩
   ·have:=hI2 v hv; dsimp only; omega
   ·dsimp only; omega
theorem head_ok (p:List Z00) (c:Z0a) (hp:Z11 p) (hc:CPre c):Ok (Zkf p c) (fun e=>e=0→PS p 1024∧(c.Z0u≤32∧c.Z0z≤32)∧1≤c.Z0j.length∧c.Z0j.length≤1000∧(Chk0 c.Z0j→∃ v,Z6a c.Z0j=some v∧v.2=0)):=by
 unfold Zkf
 refine bd (Zy1 p hp) fun v0 h0=>brN (fun h=>ok fun h'=>absurd h' h) fun h=>?_
 have hps:=h0 h
 have hj:c.Z0u≤32∧c.Z0z≤32→Ok (Zkn c) (fun e=>e=0→PS p 1024∧(c.Z0u≤32∧c.Z0z≤32)∧1≤c.Z0j.length∧c.Z0j.length≤1000∧(Chk0 c.Z0j→∃ v,Z6a c.Z0j=some v∧v.2=0)):=fun hLT=>by
  unfold Zkn Zol
  refine brE (fun _=>ok (by simp)) fun h1=>brD (fun _=>ok (by simp)) fun h2=>bd (all_ok _ hc.ins hc.insL) fun b hb=>br (fun _=>bdE (Y2w _ hc.ins (by omega)) fun v hv hv2=>brE (fun he=>ok fun h=>?_) fun he=>ok fun _=>⟨hps,hLT,by omega,by omega,fun hk=>⟨v,hv,(hv2 hk).resolve_right he⟩⟩) fun hf=>ok fun _=>⟨hps,hLT,by omega,by omega,fun hk=>?_⟩
  ·omega
  ·rw [hb hk] at hf; cases hf
 exact brD (fun _=>ok (by simp)) fun _=>brD (fun _=>ok (by simp)) fun _=>brD (fun _=>ok (by simp)) fun _=>brD (fun _=>ok (by simp)) fun _=>hj ⟨by omega,by omega⟩
theorem has_ok (l:List Int) (x:Int) (hl:l.length≤140737488355328):Ok (Ziq l x) (fun _=>True):=by
 unfold Ziq
 refine bd (li l.length (Q:=fun _=>True) (fun t h0 h1=>?_) (by omega) (by omega) (by omega)) fun q _=>by cases q <;> exact ok trivial
 unfold Zl9
 exact brD (fun _=>bd gr fun _ _=>br (fun _=>di trivial) fun _=>bd wr fun _ _=>ni (by omega) (by omega)) fun _=>di trivial
section
variable {p:List Z00} (hp:p.length≤1000) (hS:PS p 1024)
include hp hS
theorem Zmy (i:Int):Ok (Z8w p i) (fun _=>True):=by
 unfold Z8w
 exact bd (Zl5 p i (by omega) hS) fun v hv=>brE (fun _=>brD (fun _=>bd gs fun _ _=>ok trivial) fun _=>ok trivial) fun _=>ok trivial
theorem Y02 (i:Int):Ok (Z9l p i) (fun _=>True):=by
 unfold Z9l
 exact bd (Zfj p i (by omega)) fun v _=>bd (Y1g p i _ (by omega) hS) fun _ _=>brE (fun _=>ok trivial) fun _=>ok trivial
theorem Y0d (x:Z01):Ok (Zhp p x) (fun _=>True):=by
 have h2:Ok (Zcs p x) (fun _=>True):=by
  unfold Zcs
  have hn:Ok ((Z9l p x.f_A).bind fun v=>if v=true then some 12 else some 0) (fun _:Int=>True):=bd (Y02 hp hS _) fun _ _=>br (fun _=>ok trivial) fun _=>ok trivial
  exact brE (fun _=>hn) fun _=>brE (fun _=>hn) fun _=>brE (fun _=>hn) fun _=>ok trivial
 unfold Zhp
 refine bd (Zfj p x.f_A (by omega)) fun v0 h0=>brN (fun _=>ok trivial) fun he=>?_
 have h1:Ok (Z63 v0 p x) (fun _=>True):=by
  unfold Z63
  exact brE (fun _=>bd (Zct _ (by have:=hS _ (h0.1 he).mem; unfold Str; omega)) fun _ _=>brN (fun _=>ok trivial) fun _=>brE (fun _=>ok trivial) fun _=>h2) fun _=>h2
 have h3:Ok (if decide (x.f_Op≥59)=true then (if decide (x.f_Op≤66)=true then ((Z8w p v0.1.f_A).bind fun v4=>if (!v4)=true then some 13 else Z63 v0 p x) else Z63 v0 p x) else Z63 v0 p x) (fun _=>True):=
  brD (fun _=>brD (fun _=>bd (Zmy hp hS _) fun _ _=>br! (fun _=>ok trivial) fun _=>h1) fun _=>h1) fun _=>h1
 exact bd (Zt4 _) fun v1 g1=>bd (has_ok _ _ (by omega)) fun _ _=>br! (fun _=>ok trivial) fun _=>brE (fun _=>bd (Zmy hp hS _) fun _ _=>br! (fun _=>ok trivial) fun _=>h3) fun _=>h3
theorem Y0n (c:Z0a) (x:Z01) (hx:Z2o x):Ok (Zh1 p c x) (fun e=>e=0→Z4s x=some 0∧Z45 x):=by
 unfold Zh1
 refine bdE (Zfo x hx) fun v0 e0 h0=>brN (fun h=>ok fun h'=>absurd h' h) fun h=>?_
 have hc:=h0 h
 rw [h] at e0
 rw [Zqe x hc]
 have hj:∀ v7,Ok (Zc8 v7 p x) (fun e=>e=0→Z4s x=some 0∧Z45 x):=fun v7=>by
  unfold Zc8
  exact brE (fun _=>bd (Y0d hp hS x) fun _ _=>ok fun _=>⟨e0,hc⟩) fun _=>ok fun _=>⟨e0,hc⟩
 have hf:(tgt x).length≤65:=by
  have:=hc.tosL
  unfold tgt; split <;> simp; omega
 refine bs (bd (P:=fun q:Unit⊕Int=>match q with|.inl _=>True|.inr e=>e≠0) (li (tgt x).length (fun t h0 h1=>?_) (by omega) (by omega) (by omega)) fun q hq=>?_)
 ·unfold Zpv
  exact brD (fun _=>bd gr fun _ _=>brD (fun _=>di (by simp)) fun _=>bd gr fun _ _=>brD (fun _=>di (by simp)) fun _=>bd wr fun _ _=>ni (by omega) (by omega)) fun _=>di trivial
 ·cases q with
  | inr e=>exact ok fun h=>absurd h hq
  | inl _=>exact bd (Zcw _) fun v7 _=>brE (fun _=>brD (fun _=>ok (by simp)) fun _=>hj _) fun _=>brE (fun _=>brD (fun _=>ok (by simp)) fun _=>hj _) fun _=>hj _
def Ze1 (n:Int) (h:Z0n):Prop:=0≤h.Z5z∧h.Z5z<h.f_To∧h.f_To≤n∧0≤h.Z69∧h.Z69<n
theorem row9_ok (n:Int) (h:Z0n):Ok (Zgo p n h) (fun b=>b=true→Ze1 n h):=by
 unfold Zgo
 have z:Ok (some false) (fun b=>b=true→Ze1 n h):=ok fun h=>by cases h
 exact brD (fun h1=>brD (fun h2=>brD (fun h3=>brD (fun h4=>brD (fun h5=>br (fun _=>brE (fun _=>ok fun _=>⟨by omega,h2,h3,by omega,h5⟩) fun _=>bd (Zmy hp hS _) fun _ _=>ok fun _=>⟨by omega,h2,h3,by omega,h5⟩) fun _=>z) fun _=>z) fun _=>z) fun _=>z) fun _=>z) fun _=>z
theorem Zn5 (i:Int) (b:Bool):Ok (Zcf p i b) (fun _=>True):=by
 unfold Zcf
 exact bd (Z4h p i (by omega)) fun v hv=>brN (fun _=>ok trivial) fun _=>bd (Zct _ (by have:=Zas hS hv; unfold Str; omega)) fun _ _=>brN (fun _=>ok trivial) fun _=>brD (fun _=>ok trivial) fun _=>ok trivial
def VOk (n:Int) (v:Z0h):Prop:=v.Z2c=5→0≤v.Z3a∧v.Z3a<n
theorem Y39 (c:Z0a) (v:Z0h):Ok (Zkj p c v) (fun b=>b=true→VOk c.Z0j.length v):=by
 unfold Zkj Zoq Zl0
 have z:Ok (some false) (fun b=>b=true→VOk c.Z0j.length v):=ok fun h=>by cases h
 have y:∀ b,v.Z2c≠5→Ok (some b) (fun b=>b=true→VOk c.Z0j.length v):=fun b h=>ok fun _ h'=>absurd h' h
 refine br! (fun _=>z) fun _=>brE (fun h=>brE (fun _=>y _ (by omega)) fun _=>z) fun _=>brE (fun h=>brE (fun _=>y _ (by omega)) fun _=>z) fun _=>brE (fun h=>brE (fun _=>y _ (by omega)) fun _=>z) fun _=>brE (fun h=>brE (fun _=>y _ (by omega)) fun _=>z) fun _=>?_
 refine brE (fun h=>brE (fun _=>bd (Zn5 hp hS _ _) fun _ _=>y _ (by omega)) fun _=>z) fun _=>brE (fun h=>brE (fun _=>bd (Zn5 hp hS _ _) fun _ _=>y _ (by omega)) fun _=>z) fun _=>brE (fun h=>brD (fun h1=>brD (fun h2=>bd gr fun _ _=>brE (fun _=>bd (Zn5 hp hS _ _) fun _ _=>ok fun _ _=>⟨by omega,h2⟩) fun _=>z) fun _=>z) fun _=>z) fun _=>z
theorem Zuj (c:Z0a) (l:List Z0h) (hl:l.length≤140737488355328):Ok (Zf0 p c l) (fun b=>b=true→∀ v∈l,VOk c.Z0j.length v):=by
 unfold Zf0
 refine bd (P:=fun q:Unit⊕Bool=>match q with|.inl _=>∀ v∈l,VOk c.Z0j.length v|.inr b=>b=false) (Z5q (P:=VOk c.Z0j.length) hl (fun t h0 h1 v hv hm hg=>?_) fun t h0 h1 ha=>?_) fun q hq=>?_
 ·unfold Zju
  rw [hg]
  exact brD (fun _=>bs (bd (Y39 hp hS c v) fun b hb=>br! (fun _=>ok rfl) fun h=>bd wr fun w hw=>ok ⟨hw,hb h⟩)) fun h=>absurd h1 h
 ·unfold Zju
  exact brD (fun h=>absurd h (by omega)) fun _=>ok ha
 ·cases q with
  | inl _=>exact ok fun _=>hq
  | inr b=>exact ok fun h=>by cases hq.symm.trans h
def Za3 (n:Int) (m:Z0p):Prop:=0≤m.Z0x∧m.Z0x<n∧(∀ v∈m.Z1i.Z0u,VOk n v)∧(∀ v∈m.Z1i.Z0z,VOk n v)∧m.Z1i.Z0u.length≤32∧m.Z1i.Z0z.length≤32
theorem Y1k (c:Z0a) (hc:CPre c) (hL:c.Z0u≤32) (hT:c.Z0z≤32) (i:Int) (h0:0≤i) (h1:i<c.Z1f.length) (m:Z0p) (hg:Z05 c.Z1f i=some m) (hm:m∈c.Z1f):Ok (Zi5 p c i) (fun b=>b=true→Za3 c.Z0j.length m):=by
 have:=hc.mapL
 have z:Ok (some false) (fun b=>b=true→Za3 c.Z0j.length m):=ok fun h=>by cases h
 unfold Zi5
 rw [hg]
 refine bs (brD (fun _=>z) fun g0=>brD (fun _=>z) fun g1=>?_)
 have hj:(m.Z1i.Z0u.length:Int)≤c.Z0u→(m.Z1i.Z0z.length:Int)≤c.Z0z→Ok (Zbm m p c) (fun b=>b=true→Za3 c.Z0j.length m):=fun q1 q2=>by
  unfold Zbm
  exact bd (Zuj hp hS c _ (hc.frm m hm).1) fun b hb=>br (fun h=>bd (Zuj hp hS c _ (hc.frm m hm).2) fun b' hb'=>ok fun h'=>⟨by omega,by omega,hb h,hb' h',by omega,by omega⟩) fun _=>z
 have hk:Ok (if decide ((m.Z1i.Z0u.length:Int)>c.Z0u)=true then some false else if decide ((m.Z1i.Z0z.length:Int)>c.Z0z)=true then some false else Zbm m p c) (fun b=>b=true→Za3 c.Z0j.length m):=brD (fun _=>z) fun q1=>brD (fun _=>z) fun q2=>hj (by omega) (by omega)
 exact brD (fun _=>bd wr fun v1 e1=>bd gr fun v2 _=>brD (fun _=>z) fun _=>hk) fun _=>hk
def LinOk (n:Int) (x:Z14):Prop:=0≤x.Z0x∧x.Z0x<n
structure Zya (c:Z0a):Prop where
 hnd:∀ h∈c.Z1w,Ze1 c.Z0j.length h
 map:∀ m∈c.Z1f,Za3 c.Z0j.length m
 lin:∀ x∈c.Z1r,LinOk c.Z0j.length x
theorem Zzu (c:Z0a) (hc:CPre c) (hL:c.Z0u≤32) (hT:c.Z0z≤32):Ok (Zjd p c) (fun r=>r.2=0→Zya c):=by
 have g1:=hc.hndL; have g2:=hc.mapL; have g3:=hc.linL
 unfold Zjd
 refine brD (fun _=>ok (by simp)) fun _=>bd (P:=fun q:Unit⊕(Int×Int)=>match q with|.inl _=>∀ h∈c.Z1w,Ze1 c.Z0j.length h|.inr y=>y.2≠0) (Z5q (P:=Ze1 c.Z0j.length) g1 (fun t h0 h1 v hv hm hg=>?_) fun t h0 h1 ha=>?_) fun q1 hq1=>?_
 ·unfold Zkd
  rw [hg]
  exact brD (fun _=>bs (bd (row9_ok hp hS _ v) fun b hb=>br! (fun _=>ok (by simp)) fun h=>bd wr fun w hw=>ok ⟨hw,hb h⟩)) fun h=>absurd h1 h
 ·unfold Zkd
  exact brD (fun h=>absurd h (by omega)) fun _=>ok ha
 cases q1 with
 | inr y=>exact ok fun h=>absurd h hq1
 | inl _=>
 refine bd (P:=fun q:Unit⊕(Int×Int)=>match q with|.inl _=>∀ m∈c.Z1f,Za3 c.Z0j.length m|.inr y=>y.2≠0) (Z5q (P:=Za3 c.Z0j.length) g2 (fun t h0 h1 v hv hm hg=>?_) fun t h0 h1 ha=>?_) fun q2 hq2=>?_
 ·unfold Zhq
  exact brD (fun _=>bd (Y1k hp hS c hc hL hT t h0 h1 v hg hm) fun b hb=>br! (fun _=>ok (by simp)) fun h=>bd wr fun w hw=>ok ⟨hw,hb h⟩) fun h=>absurd h1 h
 ·unfold Zhq
  exact brD (fun h=>absurd h (by omega)) fun _=>ok ha
 cases q2 with
 | inr y=>exact ok fun h=>absurd h hq2
 | inl _=>
 refine bd (P:=fun q:Unit⊕(Int×Int)=>match q with|.inl _=>∀ x∈c.Z1r,LinOk c.Z0j.length x|.inr y=>y.2≠0) (Z5q (P:=LinOk c.Z0j.length) g3 (fun t h0 h1 v hv hm hg=>?_) fun t h0 h1 ha=>?_) fun q3 hq3=>?_
 ·unfold Zgu
  rw [hg]
  exact brD (fun _=>bs (brD (fun _=>ok (by simp)) fun k0=>brD (fun _=>ok (by simp)) fun k1=>brD (fun _=>bd wr fun w hw=>bd gr fun _ _=>brD (fun _=>ok (by simp)) fun _=>brD (fun _=>ok (by simp)) fun _=>brD (fun _=>ok (by simp)) fun _=>bd wr fun w hw=>ok ⟨hw,by omega,by omega⟩) fun _=>brD (fun _=>ok (by simp)) fun _=>brD (fun _=>ok (by simp)) fun _=>bd wr fun w hw=>ok ⟨hw,by omega,by omega⟩)) fun h=>absurd h1 h
 ·unfold Zgu
  exact brD (fun h=>absurd h (by omega)) fun _=>ok ha
 cases q3 with
 | inr y=>exact ok fun h=>absurd h hq3
 | inl _=>exact ok fun _=>⟨hq1,hq2,hq3⟩
end
theorem Zu8 (p:List Z00) (c:Z0a) (hp:Z11 p) (hc:CPre c):Ok (Zcq p c) (fun r=>r.2=0→Zya c∧∃ v,Z6a c.Z0j=some v∧v.2=0):=by
 unfold Zcq
 refine bd (head_ok p c hp hc) fun v0 h0=>brN (fun h=>ok fun h'=>absurd h' h) fun h=>?_
 obtain ⟨hS,⟨hL,hT⟩,hn1,hn2,hoff⟩:=h0 h
 have hl:=hp.len
 refine bd (P:=fun q:Unit⊕(Int×Int)=>match q with|.inl _=>∀ i∈c.Z0j,Z4s i=some 0|.inr y=>y.2≠0) (Z5q (l:=c.Z0j) (P:=fun i=>Z4s i=some 0) (by omega) (fun t h0 h1 v hv hm hg=>?_) fun t h0 h1 ha=>?_) fun q hq=>?_
 ·unfold Zha
  rw [hg]
  exact brD (fun _=>bs (bd (Y0n hl hS c v (hc.ins v hm)) fun e he=>brN (fun h=>ok h) fun h=>bd wr fun w hw=>ok ⟨hw,(he h).1⟩)) fun h=>absurd h1 h
 ·unfold Zha
  exact brD (fun h=>absurd h (by omega)) fun _=>ok ha
 ·cases q with
  | inr y=>exact ok fun h=>absurd h hq
  | inl _=>
   refine bd wr fun v6 e6=>bd gr fun v7 _=>bd (P:=fun _=>True) ?_ fun v8 _=>br! (fun _=>bd wr fun _ _=>ok (by simp)) fun _=>bd (Zzu hl hS c hc hL hT) fun r hr=>ok fun h=>⟨hr h,hoff hq⟩
   unfold Znb
   rw [Zna]
   exact bs (br (fun _=>ok trivial) fun _=>ok trivial)
end Go.Proofs
set_option linter.unusedVariables false
namespace Go.Proofs
open Go.Den Go.Tot
theorem Y0c (p:List Z00) (c:Z0a) (hp:Z11 p) (hc:Z51 c):Ok (Zks p c) (fun r=>Str r.1):=by
 have gI:=hc.insL; have gH:=hc.hndL; have gM:=hc.mapL; have gL:=hc.linL
 unfold Zks
 refine bd (Zu8 p c hp hc.pre) fun v0 h0=>brN (fun _=>ok (by simp)) fun h=>?_
 obtain ⟨hk,v,hv,hv2⟩:=h0 h
 rw [hv]
 obtain ⟨r,hr,hr2⟩:=Zo7 c.Z0j hc.ins (by omega)
 rw [hv] at hr; cases hr
 obtain ⟨hlen,hn,-⟩:=hr2.1 hv2
 refine bs (bd (enc_ok _ hc.ins (by omega)) fun v2 h2=>bd (Zf3 _ 4 (by omega)) fun v3 h3=>bd (Z4m _) fun v4 h4=>bd (Z4m _) fun v5 h5=>bd (ct (by omega)) fun v6 h6=>bd (ct (by omega)) fun v7 h7=>bd (ct (by omega)) fun v8 h8=>bd (Z4m _) fun v9 h9=>bd (ct (by omega)) fun v10 h10=>?_)
 -- the lists are short by what they hold; here their lengths in memory do
 refine bd (P:=fun r=>(r.length:Int)≤2000000+8*c.Z1w.length) (lp (fun t=>t.2) c.Z1w.length (fun t=>(t.1.length:Int)≤2000000+8*t.2) (fun t hI g0 g1=>?_) (by omega) (by dsimp only; omega)) fun q0 hq0=>?_
 ·unfold l69x1
  refine brD (fun hlt=>bd gr fun x hx=>?_) fun _=>dn (by omega)
  obtain ⟨k1,k2,k3,k4,k5⟩:=hk.hnd x hx
  exact bd gr fun _ _=>bd (Z4m _) fun a ha=>bd (ct (by omega)) fun b hb=>bd gr fun _ _=>bd (Z4m _) fun a2 ha2=>bd (ct (by omega)) fun b2 hb2=>bd gr fun _ _=>bd (Z4m _) fun a3 ha3=>bd (ct (by omega)) fun b3 hb3=>bd (Z4m _) fun a4 ha4=>bd (ct (by omega)) fun b4 hb4=>bd wr fun w hw=>nx (by dsimp only; omega)
 refine bd (Z4m _) fun v36 h36=>bd (ct (by omega)) fun v37 h37=>?_
 refine bd (P:=fun r=>(r.length:Int)≤30000000000000+400*c.Z1f.length) (lp (fun t=>t.2) c.Z1f.length (fun t=>(t.1.length:Int)≤30000000000000+400*t.2) (fun t hI g0 g1=>?_) (by omega) (by dsimp only; omega)) fun q2 hq2=>?_
 ·unfold l69x2
  refine brD (fun hlt=>bd gr fun m hm=>?_) fun _=>dn (by omega)
  obtain ⟨k1,k2,k3,k4,k5,k6⟩:=hk.map m hm
  have hj:∀ x,Ok (Zfr t v m x) (St (fun t=>(t.1.length:Int)≤30000000000000+400*t.2) (fun t=>t.2) c.Z1f.length (fun r=>(r.length:Int)≤30000000000000+400*c.Z1f.length) t):=fun x=>by
   unfold Zfr
   refine bd gr fun _ _=>bd (Z4m _) fun a ha=>bd (ct (by omega)) fun b hb=>bd (Zp9 _) fun a2 ha2=>bd (ct (by omega)) fun b2 hb2=>bd (Zxb _ v.1 (by omega) fun y hy h5=>?_) fun a3 ha3=>bd (ct (by omega)) fun b3 hb3=>bd (Zxb _ v.1 (by omega) fun y hy h5=>?_) fun a4 ha4=>bd (ct (by omega)) fun b4 hb4=>bd wr fun w hw=>nx (by dsimp only; omega)
   ·have:=k3 y hy h5; omega
   ·have:=k4 y hy h5; omega
  exact br (fun _=>hj _) fun _=>hj _
 refine bd (Z4m _) fun v59 h59=>bd (ct (by omega)) fun v60 h60=>bd (P:=fun r=>(r.length:Int)≤2000000000000000+4*c.Z1r.length) (lp (fun t=>t.2) c.Z1r.length (fun t=>(t.1.length:Int)≤2000000000000000+4*t.2) (fun t hI g0 g1=>?_) (by omega) (by dsimp only; omega)) fun q4 hq4=>ok (by dsimp only; omega)
 unfold l69x3
 refine brD (fun hlt=>?_) fun _=>dn (by omega)
 obtain ⟨x,hg,hm⟩:=gr (l:=c.Z1r) (i:=t.2) (by omega) hlt
 obtain ⟨k1,k2⟩:=hk.lin x hm
 simp only [hg]
 exact bs (bd gr fun _ _=>bd (Z4m _) fun a ha=>bd (ct (by omega)) fun b hb=>bs (bd (Z4m _) fun a2 ha2=>bd (ct (by omega)) fun b2 hb2=>bd wr fun w hw=>nx (by dsimp only; omega)))
theorem Zc2 (l:List Int) (x:Int) (hl:l.length≤140737488355328):Ok (Z6y l x) (fun _=>True):=by
 unfold Z6y
 refine bd (P:=fun _=>True) (li (max 0 (l.length:Int)) (fun t h0 h1=>?_) (by omega) (by omega) (by omega)) fun q _=>by cases q <;> exact ok trivial
 unfold Zot
 exact bd wr fun v hv=>brD (fun _=>bd gr fun _ _=>br (fun _=>di trivial) fun _=>bd wr fun _ _=>ni (by omega) (by omega)) fun _=>di trivial
theorem edge_ok (l:List Int) (x:Int) (hl:l.length≤140737488355328):Ok (Zjr l x) (fun _=>True):=by
 unfold Zjr Zjb
 have hj:Ok ((Z6y l x).bind fun v3=>some v3) (fun _=>True):=bd (Zc2 l x hl) fun _ _=>ok trivial
 exact brD (fun _=>bd wr fun v hv=>bd gr fun _ _=>br (fun _=>bd wr fun _ _=>ok trivial) fun _=>hj) fun _=>hj
theorem Zrg (l:List Z0h) (at_:List Int) (hl:l.length≤256) (ha:at_.length≤140737488355328):Ok (Ze7 l at_) (fun r=>r.1.length≤256):=by
 unfold Ze7
 refine bd (P:=fun q:List Z0h⊕(List Z0h×Bool)=>match q with|.inl q=>q.length≤256|.inr y=>y.1=[]) (lp (fun t=>t.1) l.length (fun t=>(t.2.length:Int)=t.1) (fun t hI g0 g1=>?_) (by omega) rfl) fun q hq=>?_
 ·unfold Zmg
  have hd:t.2.length≤256:=by omega
  have hj:∀ (v:Z0h) (p:Int),t.1<l.length→Ok (Zfh t v p) (St (fun t=>(t.2.length:Int)=t.1) (fun t=>t.1) l.length (fun q:List Z0h⊕(List Z0h×Bool)=>match q with|.inl q=>q.length≤256|.inr y=>y.1=[]) t):=fun v p hlt=>by
   unfold Zfh
   exact bd gk fun _ _=>bd wr fun w hw=>nx (by simp only [List.length_append,List.length_cons,List.length_nil]; omega)
  exact brD (fun hlt=>bd gr fun v _=>brE (fun _=>bd (Zc2 at_ _ ha) fun w _=>brD (fun _=>dn rfl) fun _=>hj _ _ hlt) fun _=>hj _ _ hlt) fun _=>dn hd
 ·cases q with
  | inl q=>exact ok hq
  | inr y=>exact ok (by rw [hq]; simp)
theorem Zza (s:List UInt8) (k:Z3h) (at_:List Int) (hk:TkOk s k) (ha:at_.length≤140737488355328):Ok (Zgv k at_) (fun r=>r.2=0→r.1.Z1w.length≤65536∧r.1.Z1f.length≤65536∧r.1.Z1r.length≤65536∧∀ m∈r.1.Z1f,m.Z1i.Z0u.length≤256∧m.Z1i.Z0z.length≤256):=by
 have g1:=hk.hndL; have g2:=hk.mapL; have g3:=hk.lin; have g4:=hk.raw
 unfold Zgv
 refine bd (P:=fun q:List Z0n⊕(Z0a×Int)=>match q with|.inl q=>q.length≤65536|.inr y=>y.2≠0) (lp (fun t=>t.1) k.f_C.Z1w.length (fun t=>(t.2.length:Int)=t.1) (fun t hI h0 h1=>?_) (by omega) rfl) fun q1 hq1=>?_
 ·unfold Zlr Zlf
  have hd:t.2.length≤65536:=by omega
  exact brD (fun hlt=>bd gr fun v _=>bd (Zc2 at_ _ ha) fun _ _=>bd (edge_ok at_ _ ha) fun _ _=>bd (Zc2 at_ _ ha) fun _ _=>brD (fun _=>dn (by simp)) fun _=>brD (fun _=>dn (by simp)) fun _=>brD (fun _=>dn (by simp)) fun _=>bd gk fun _ _=>bd wr fun w hw=>nx (by simp only [List.length_append,List.length_cons,List.length_nil]; omega)) fun _=>dn hd
 cases q1 with
 | inr y=>exact ok fun h=>absurd h hq1
 | inl q1=>
 have hq1':q1.length≤65536:=hq1
 refine bd (P:=fun q:List Z0p⊕(Z0a×Int)=>match q with|.inl q=>q.length≤65536∧∀ m∈q,m.Z1i.Z0u.length≤256∧m.Z1i.Z0z.length≤256|.inr y=>y.2≠0) (lp (fun t=>t.1) k.f_C.Z1f.length (fun t=>(t.2.length:Int)=t.1∧∀ m∈t.2,m.Z1i.Z0u.length≤256∧m.Z1i.Z0z.length≤256) (fun t hI h0 h1=>?_) (by omega) ⟨rfl,Z44⟩) fun q2 hq2=>?_
 ·obtain ⟨hI1,hI2⟩:=hI
  unfold Zpz Zoe
  refine brD (fun hlt=>bd gr fun v hv=>?_) fun _=>dn ⟨by omega,hI2⟩
  obtain ⟨f1,f2⟩:=hk.map v hv
  refine bd (Zc2 at_ _ ha) fun _ _=>bd (Zrg _ at_ f1.1 ha) fun a ha'=>bd (Zrg _ at_ f2.1 ha) fun b hb'=>brD (fun _=>dn (by simp)) fun _=>br! (fun _=>dn (by simp)) fun _=>br! (fun _=>dn (by simp)) fun _=>bd gr fun _ _=>brD (fun _=>dn (by simp)) fun _=>bd gk fun _ _=>bd wr fun w hw=>nx ⟨by simp only [List.length_append,List.length_cons,List.length_nil]; omega,Z7v hI2 ⟨ha',hb'⟩⟩
 cases q2 with
 | inr y=>exact ok fun h=>absurd h hq2
 | inl q2=>
 obtain ⟨e1,e2⟩:=hq2
 refine bd (P:=fun q:List Z14⊕(Z0a×Int)=>match q with|.inl q=>q.length≤65536|.inr y=>y.2≠0) (lp (fun t=>t.1) k.f_C.Z1r.length (fun t=>(t.2.length:Int)=t.1) (fun t hI h0 h1=>?_) (by omega) rfl) fun q3 hq3=>?_
 ·unfold Zms
  have hd:t.2.length≤65536:=by omega
  exact brD (fun hlt=>bd gr fun v _=>bd (Zc2 at_ _ ha) fun _ _=>brD (fun _=>dn (by simp)) fun _=>bd gk fun _ _=>bd wr fun w hw=>nx (by simp only [List.length_append,List.length_cons,List.length_nil]; omega)) fun _=>dn hd
 cases q3 with
 | inr y=>exact ok fun h=>absurd h hq3
 | inl q3=>exact ok fun _=>⟨hq1',e1,hq3,e2⟩
theorem Zsk (p:List Z00) (s:List UInt8) (hp:Z11 p) (hs:Str s):Ok (Zhs p s) (fun _=>True):=by
 unfold Zhs
 refine bd (Y46 s hs) fun v0 h0=>br (fun _=>ok trivial) fun _=>bd (dec_ok _) fun v1 h1=>brN (fun _=>ok trivial) fun h=>?_
 obtain ⟨k1,k2⟩:=h1 h
 refine bd (Zo7 v1.1 (fun i hi=>(k1 i hi).w) (by omega)) fun v2 h2=>brN (fun _=>ok trivial) fun _=>bd (Zza s v0.1 v2.1 h0 (by have:=h2.2; omega)) fun v3 h3=>brN (fun _=>ok trivial) fun h=>?_
 obtain ⟨e1,e2,e3,e4⟩:=h3 h
 exact brN (fun _=>ok trivial) fun _=>bd (Zu8 p _ hp ⟨fun i hi=>(k1 i hi).w,by dsimp only; omega,by dsimp only; omega,by dsimp only; omega,by dsimp only; omega,fun m hm=>by have:=e4 m hm; dsimp only at *; omega⟩) fun v4 _=>brN (fun _=>ok trivial) fun _=>ok trivial
theorem Y23 (s:List UInt8) (hs:Str s):Ok (Zjf s) (fun r=>r.1.length≤65536):=by
 unfold Zjf
 refine bd (Z3t s _ 2 (by omega) hs ⟨rfl,by dsimp only; omega,by dsimp only; omega⟩) fun v0 h0=>bd (P:=RdT s 65536 fun _=>True) (rdL (n:=v0.1) ⟨h0.1.1,h0.1.2.2.1 rfl⟩ h0.2 fun t hI g0 g1 hd=>?_) fun q hq=>br (fun _=>ok (by simp)) fun _=>brN (fun _=>ok (by simp)) fun _=>bd (Zqr _) fun _ _=>brN (fun _=>ok (by simp)) fun _=>ok hq.2.1
 have hl:=hI.2.1
 have:=h0.1.2.2.1 rfl
 unfold Zo4
 refine brD (fun hlt=>br! (fun _=>?_) fun _=>dn hd) fun _=>dn hd
 unfold Zoo
 exact bd (Z3t s _ 2 (by omega) hs hI.1) fun v1 h1=>bd gk fun _ _=>bd wr fun _ hv=>nx ⟨h1.2,by simp only [List.length_append,List.length_cons,List.length_nil]; omega,Z7v hI.2.2 trivial⟩
end Go.Proofs
set_option linter.unusedVariables false
namespace Go.Proofs
open Go.Den Go.Tot
section
variable {p:List Z00} (hp:p.length≤1000)
include hp
theorem Zmw (a:Z17) (s:List UInt8):Ok (Zc0 p a s) (fun _=>True):=by
 unfold Zc0
 exact bd (Z4h p _ (by omega)) fun _ _=>brE (fun _=>ok trivial) fun _=>ok trivial
theorem Zyl (l:List Z0d) (i:Int) (hl:l.length≤140737488355328) (h0:0≤i) (h1:i<l.length):Ok (Zes p l i) (fun _=>True):=by
 unfold Zes
 refine bd (gr h0 h1) fun _ _=>bd (Z4h p _ (by omega)) fun v1 _=>bd (gr h0 h1) fun _ _=>bd (Z4h p _ (by omega)) fun v3 _=>bd (P:=fun _=>True) (li i (fun t g0 g1=>?_) (by omega) (by omega) (by omega)) fun q _=>by cases q <;> exact ok trivial
 unfold Zlm
 exact brD (fun _=>bd gr fun _ _=>bd (Z4h p _ (by omega)) fun _ _=>bd gr fun _ _=>bd (Z4h p _ (by omega)) fun _ _=>br (fun _=>br (fun _=>di trivial) fun _=>bd wr fun _ _=>ni (by omega) (by omega)) fun _=>bd wr fun _ _=>ni (by omega) (by omega)) fun _=>di trivial
theorem Y4a (i:Int) (d:List UInt8):Ok (Zbo p i d) (fun _=>True):=by
 unfold Zbo
 refine bd (Zfj p i (by omega)) fun v _=>brN (fun _=>ok trivial) fun _=>?_
 repeat' first
  | exact ok trivial
  | with_reducible refine br (fun _=>?_) fun _=>?_
theorem Zzj (m:Z0d) (d:List UInt8) (hm:∀ a∈m.Z1g,Str a.Z2g):Ok (Z7z p m d) (fun _=>True):=by
 unfold Z7z Zg8
 refine brE (fun _=>ok trivial) fun _=>bd gr fun a ha=>brD (fun _=>ok trivial) fun _=>bs (br (fun _=>ok trivial) fun _=>bd (Zmw hp _ _) fun _ _=>br! (fun _=>ok trivial) fun _=>brN (fun _=>ok trivial) fun _=>bd (Zez _ 0 2 (by omega) (hm a ha)) fun _ _=>bd (Y4a hp _ _) fun _ _=>ok trivial)
theorem Zuc (l:List Z17) (s:List UInt8) (hl:l.length≤140737488355328) (ha:∀ a∈l,Str a.Z2g):Ok (Zdd p l s) (fun r=>Str r.1∧0≤r.2∧r.2≤l.length):=by
 unfold Zdd
 refine bd (P:=fun q:List UInt8×Int=>Str q.1∧0≤q.2∧q.2≤(l.length:Int)) (lp (fun t=>t.2.2) l.length (fun t=>Str t.1∧0≤t.2.1∧t.2.1≤t.2.2) (fun t hI h0 h1=>?_) (by omega) ⟨by simp,by dsimp only; omega,by dsimp only; omega⟩) fun q hq=>ok hq
 obtain ⟨hI1,hI2,hI3⟩:=hI
 unfold Zmq
 exact brD (fun hlt=>bd gr fun a _=>bd (Zmw hp _ _) fun _ _=>br (fun _=>bd gr fun b hb=>bd wr fun _ _=>bd wr fun _ _=>nx ⟨ha b hb,by dsimp only; omega,by dsimp only; omega⟩) fun _=>bd wr fun _ _=>nx ⟨hI1,by dsimp only; omega,by dsimp only; omega⟩) fun _=>dn ⟨hI1,by dsimp only; omega,by dsimp only; omega⟩
variable (hS:PS p 1024)
include hS
theorem Zee (i:Int):Ok (Z88 p i) (fun _=>True):=by
 unfold Z88 Zo9
 exact brD (fun _=>ok trivial) fun _=>brD (fun _=>ok trivial) fun _=>bd (Zl5 p i (by omega) hS) fun v hv=>brN (fun _=>ok trivial) fun _=>brE (fun _=>ok trivial) fun _=>bd gs fun _ _=>brE (fun _=>ok trivial) fun _=>ok trivial
theorem Zrb (l:List Int) (s:List UInt8) (hl:l.length≤140737488355328):Ok (Zcp p l s) (fun _=>True):=by
 unfold Zcp
 refine bd (P:=fun _=>True) (li l.length (fun t h0 h1=>?_) (by omega) (by omega) (by omega)) fun q _=>by cases q <;> exact ok trivial
 unfold Zp5
 exact brD (fun _=>bd gr fun _ _=>bd (Zee hp hS _) fun _ _=>brE (fun _=>br (fun _=>di trivial) fun _=>bd wr fun _ _=>ni (by omega) (by omega)) fun _=>bd wr fun _ _=>ni (by omega) (by omega)) fun _=>di trivial
end
theorem Y2v (x y:Int):Ok (Z8t x y) (fun _=>True):=bs (ok trivial)
theorem Zy6 (x y:Int):Ok (Za7 x y) (fun _=>True):=by
 unfold Za7
 exact brD (fun _=>bs (ok trivial)) fun _=>ok trivial
theorem Zz6 (x:Int):Ok (Zft x) (fun _=>True):=by
 unfold Zft Zh6 Zh3
 have h:∀ n:Int,Ok ((some (Z2b .i64 x (4:Int))).bind fun v3=>if (v3 !=0)=true then ((some (IntKind.wrap .i64 (n+(1:Int)))).bind fun v4=>some (decide (v4≤1))) else (some (decide (n≤1)))) (fun _=>True):=fun n=>bs (br (fun _=>bs (ok trivial)) fun _=>ok trivial)
 have h1:∀ n:Int,Ok ((some (Z2b .i64 x (2:Int))).bind fun v1=>if (v1 !=0)=true then ((some (IntKind.wrap .i64 (n+(1:Int)))).bind fun v2=>(some (Z2b .i64 x (4:Int))).bind fun v3=>if (v3 !=0)=true then ((some (IntKind.wrap .i64 (v2+(1:Int)))).bind fun v4=>some (decide (v4≤1))) else (some (decide (v2≤1)))) else ((some (Z2b .i64 x (4:Int))).bind fun v3=>if (v3 !=0)=true then ((some (IntKind.wrap .i64 (n+(1:Int)))).bind fun v4=>some (decide (v4≤1))) else (some (decide (n≤1))))) (fun _=>True):=fun n=>bs (br (fun _=>bs (h _)) fun _=>h _)
 exact bs (br (fun _=>h1 1) fun _=>h1 0)
theorem Zmj (s:List UInt8) (x:Int):Ok (Za0 s x) (fun _=>True):=by
 unfold Za0 Zbr Zbb
 repeat' first
  | exact ok trivial
  | with_reducible refine br (fun _=>?_) fun _=>?_
  | with_reducible refine bd (Y2v _ _) fun _ _=>?_
  | with_reducible refine bd (Zy6 _ _) fun _ _=>?_
  | with_reducible refine bd (Zz6 _) fun _ _=>?_
  | with_reducible refine bs ?_
structure Z85 (f:Z12):Prop where
 pool:Z11 f.Z1v
 ifsL:f.Z1e.length≤140737488355328
 fldL:f.Z0g.length≤140737488355328
 metL:f.Z10.length≤140737488355328
 attL:f.Z1g.length≤140737488355328
 att:∀ a∈f.Z1g,Str a.Z2g
 mem:∀ m,m∈f.Z0g∨m∈f.Z10→m.Z1g.length≤140737488355328∧∀ a∈m.Z1g,Str a.Z2g
def FewF (f:Z12):Prop:=f.Z1e.length≤8∧f.Z0g.length≤64∧f.Z10.length≤64
theorem Y1y (f:Z12) (hf:Z85 f):Ok (Zif f) (fun b=>b=false→FewF f):=by
 have g1:=hf.fldL; have g2:=hf.metL
 unfold Zif Zoh
 refine brD (fun _=>ok (by simp)) fun _=>brD (fun _=>ok (by simp)) fun _=>brD (fun _=>ok (by simp)) fun _=>brD (fun _=>ok (by simp)) fun _=>?_
 have hd:FewF f:=⟨by omega,by omega,by omega⟩
 refine bd (P:=fun _=>True) (li f.Z0g.length (fun t h0 h1=>?_) (by omega) (by omega) (by omega)) fun q _=>?_
 ·unfold Zn6
  exact brD (fun _=>bd gr fun _ _=>brD (fun _=>di trivial) fun _=>bd wr fun _ _=>ni (by omega) (by omega)) fun _=>di trivial
 cases q with
 | inr _=>exact ok fun _=>hd
 | inl _=>
  refine bd (P:=fun _=>True) (li f.Z10.length (fun t h0 h1=>?_) (by omega) (by omega) (by omega)) fun q _=>by cases q <;> exact ok fun _=>hd
  unfold Znk
  exact brD (fun _=>bd gr fun _ _=>brD (fun _=>di trivial) fun _=>bd wr fun _ _=>ni (by omega) (by omega)) fun _=>di trivial
theorem Y41 (f:Z12) (hf:Z85 f) (hS:PS f.Z1v 1024):Ok (Zjt f) (fun e=>e=0→FewF f):=by
 have hp:=hf.pool.len
 have hi:=hf.ifsL
 have h3:∀ a (v:List UInt8×Int),Ok (Zd6 a v f) (fun e=>e=0→FewF f):=fun a v=>by
  unfold Zd6
  exact bd (Y1y f hf) fun b hb=>br (fun _=>ok (by simp)) fun h=>br (fun _=>ok (by simp)) fun _=>bd (Zrb hp hS _ _ hi) fun _ _=>br (fun _=>ok (by simp)) fun _=>ok fun _=>hb h
 have h2:∀ (v:List UInt8×Int) a,Ok (Zeo v f a) (fun e=>e=0→FewF f):=fun v a=>by
  unfold Zeo
  exact bd (Zmj _ _) fun _ _=>br! (fun _=>ok (by simp)) fun _=>br (fun _=>ok (by simp)) fun _=>bs (br (fun _=>br (fun _=>ok (by simp)) fun _=>h3 _ _) fun _=>h3 _ _)
 have h1:Ok (Zei f) (fun e=>e=0→FewF f):=by
  unfold Zei
  exact bd (Zee hp hS _) fun v _=>brN (fun h=>ok fun h'=>absurd h' h) fun _=>brN (fun _=>bd (Zee hp hS _) fun w _=>brN (fun h=>ok fun h'=>absurd h' h) fun _=>h2 _ _) fun _=>h2 _ _
 have hpl:∀ i,Ok (Zea f.Z1v i) (fun _=>True):=fun i=>by
  unfold Zea
  exact brD (fun _=>ok trivial) fun _=>ok trivial
 unfold Zjt
 exact bd (hpl _) fun _ _=>br! (fun _=>ok (by simp)) fun _=>brN (fun _=>bd (hpl _) fun _ _=>br! (fun _=>ok (by simp)) fun _=>h1) fun _=>h1
theorem Y1r (f:Z12) (hf:Z85 f) (hS:PS f.Z1v 1024) (i:Int) (h0:0≤i) (h1:i<f.Z1e.length):Ok (Zjw f i) (fun _=>True):=by
 have:=hf.ifsL
 unfold Zjw
 exact bd (gr h0 h1) fun _ _=>bd (Zee hf.pool.len hS _) fun _ _=>brN (fun _=>ok trivial) fun _=>bd (sb (by omega) (by omega) (by omega)) fun r hr=>bd (Zrb hf.pool.len hS r _ (by have:=hr.1; omega)) fun _ _=>br (fun _=>ok trivial) fun _=>ok trivial
theorem Y0x (f:Z12) (hf:Z85 f) (hS:PS f.Z1v 1024) (i:Int) (h0:0≤i) (h1:i<f.Z0g.length):Ok (Z7t f i) (fun _=>True):=by
 have hp:=hf.pool.len
 have hl:f.Z1v.length≤140737488355328:=by omega
 unfold Z7t
 refine bd (gr h0 h1) fun m hm=>bd (Z4h _ _ hl) fun v1 e1=>brN (fun _=>ok trivial) fun _=>bd (Znh _ (by have:=Zas hS e1; unfold Str; omega)) fun b hb=>br! (fun _=>ok trivial) fun h=>?_
 have hpos:=hb h
 refine bd gs fun _ _=>br (fun _=>ok trivial) fun _=>?_
 have h3:∀ v4 w,Ok (Z9x m v4 f i w) (fun _=>True):=fun v4 w=>by
  unfold Z9x
  exact bd (Zmj _ _) fun _ _=>br! (fun _=>ok trivial) fun _=>bd (Zyl hp _ i hf.fldL h0 h1) fun _ _=>br (fun _=>ok trivial) fun _=>bd (Zzj hp m _ (hf.mem m (.inl hm)).2) fun _ _=>br! (fun _=>ok trivial) fun _=>ok trivial
 unfold Zgd Zej
 exact bd (Z4h _ _ hl) fun v4 e4=>brN (fun _=>ok trivial) fun _=>bd (Zct _ (by have:=Zas hS e4; unfold Str; omega)) fun _ _=>brN (fun _=>ok trivial) fun _=>br (fun _=>ok trivial) fun _=>bs (br (fun _=>h3 _ _) fun _=>h3 _ _)
theorem Y3f (f:Z12) (hf:Z85 f) (hS:PS f.Z1v 1024) (m:Z0d):Ok (Zk2 f m) (fun r=>r.2.1.Z7i.length≤1048576):=by
 have hl:f.Z1v.length≤140737488355328:=by have:=hf.pool.len; omega
 have h1:∀ v0,Ok (Zdf v0 f m) (fun r=>r.2.1.Z7i.length≤1048576):=fun v0=>by
  unfold Zdf
  refine bd (Z4h _ _ hl) fun v3 e3=>brN (fun _=>ok (by simp)) fun _=>bd (Znr _ (by have:=Zas hS e3; omega)) fun v4 e4=>brN (fun _=>ok (by simp)) fun _=>?_
  repeat' first
   | exact ok e4
   | exact ok (by simp)
   | with_reducible refine br (fun _=>?_) fun _=>?_
 unfold Zk2
 exact bd (Z4h _ _ hl) fun v0 e0=>brN (fun _=>ok (by simp)) fun _=>bd (Znh _ (by have:=Zas hS e0; unfold Str; omega)) fun _ _=>br! (fun _=>ok (by simp)) fun _=>br (fun _=>bs (br (fun _=>ok (by simp)) fun _=>h1 _)) fun _=>h1 _
theorem Y2x (f:Z12) (m:Z0d) (s:List UInt8):Ok (Zkq f m s) (fun _=>True):=by
 unfold Zkq Zhu
 repeat' first
  | exact ok trivial
  | with_reducible refine br (fun _=>?_) fun _=>?_
  | with_reducible refine bd (Zmj _ _) fun _ _=>?_
  | with_reducible refine bd (Zy6 _ _) fun _ _=>?_
  | with_reducible refine bs ?_
theorem Y2r (f:Z12) (hf:Z85 f) (hS:PS f.Z1v 1024) (m:Z0d) (hm:m.Z1g.length≤140737488355328∧∀ a∈m.Z1g,Str a.Z2g) (g:Z2k) (hg:g.Z7i.length≤1048576):Ok (Zka f.Z1v m g) (fun _=>True):=by
 have hp:=hf.pool.len
 unfold Zka
 refine bd (Zuc hp _ _ hm.1 hm.2) fun v0 e0=>bd (Zuc hp _ _ hm.1 hm.2) fun v1 e1=>bs (brD (fun _=>ok trivial) fun _=>brD (fun _=>ok trivial) fun _=>bd wr fun _ _=>brN (fun _=>ok trivial) fun _=>br (fun _=>ok trivial) fun _=>?_)
 have h4:∀ a b,Ok (Zdz a b) (fun _=>True):=fun a b=>by
  unfold Zdz
  exact brD (fun _=>ok trivial) fun _=>ok trivial
 have h3:∀ a b,Ok (Zcy a v1 f.Z1v b) (fun _=>True):=fun a b=>by
  unfold Zcy
  refine brD (fun _=>bd (Y23 _ e1.1) fun v7 e7=>brN (fun _=>ok trivial) fun _=>bd (P:=fun _=>True) (li v7.1.length (fun t h0 h1=>?_) (by omega) (by omega) (by omega)) fun q _=>?_) fun _=>h4 _ _
  ·unfold Zn0
   exact brD (fun _=>bd gr fun _ _=>bd (Zee hp hS _) fun _ _=>brN (fun _=>di trivial) fun _=>bd wr fun _ _=>ni (by omega) (by omega)) fun _=>di trivial
  ·cases q with
   | inl _=>exact h4 _ _
   | inr _=>exact ok trivial
 unfold Zmn Zh9
 exact bs (br (fun _=>bd wr fun _ _=>br (fun _=>bd (Zsk _ _ hf.pool e0.1) fun _ _=>brN (fun _=>ok trivial) fun _=>h3 _ _) fun _=>h3 _ _) fun _=>br (fun _=>bd (Zsk _ _ hf.pool e0.1) fun _ _=>brN (fun _=>ok trivial) fun _=>h3 _ _) fun _=>h3 _ _)
theorem Y21 (f:Z12) (hf:Z85 f) (hS:PS f.Z1v 1024) (i:Int) (h0:0≤i) (h1:i<f.Z10.length):Ok (Zfz f i) (fun _=>True):=by
 unfold Zfz
 exact bd (gr h0 h1) fun m hm=>bd (Y3f f hf hS m) fun v1 e1=>brN (fun _=>ok trivial) fun _=>bd (Y2x _ _ _) fun _ _=>br! (fun _=>ok trivial) fun _=>bd (Zyl hf.pool.len _ i hf.metL h0 h1) fun _ _=>br (fun _=>ok trivial) fun _=>bd (Y2r f hf hS m (hf.mem m (.inr hm)) _ e1) fun _ _=>ok trivial
theorem Zzh (f:Z12) (hf:Z85 f) (hS:PS f.Z1v 1024):Ok (Zk3 f) (fun _=>True):=by
 unfold Zk3 j93x1
 exact brE (fun _=>ok trivial) fun _=>bd gr fun a ha=>brD (fun _=>ok trivial) fun _=>bd (Zmw hf.pool.len _ _) fun _ _=>br! (fun _=>ok trivial) fun _=>brN (fun _=>ok trivial) fun _=>bd (Zez _ 0 2 (by omega) (hf.att a ha)) fun _ _=>bd (Z4h _ _ (by have:=hf.pool.len; omega)) fun _ _=>ok trivial
theorem Zmk (s:List UInt8) (n:Int) (hs:s.length≤1000) (h0:0≤n) (h1:n<100):Ok (Zb2 s n) (fun _=>True):=by
 unfold Zb2
 have h10:∀ a:Int,0≤a→a<10→Ok (sub ([48,49,50,51,52,53,54,55,56,57]:List UInt8) a (a+1)) (fun r=>r.length≤1):=fun a ha hb=>(sb ha (by omega) (by simp; omega)).mono fun r hr=>by have:=hr.1; omega
 refine brD (fun _=>bd (ct (by simp; omega)) fun v0 e0=>bd wr fun v1 e1=>?_) fun _=>bd (ct (by simp; omega)) fun v4 e4=>?_
 ·rw [e1]
  exact bd (h10 n h0 (by omega)) fun v2 e2=>bd (ct (by have:=e0.2; simp at this; omega)) fun _ _=>ok trivial
 ·have hd:divK .i64 n 10=some (n / 10):=by
   unfold divK
   rw [if_pos (by decide)]
   congr 1
   rw [Int.tdiv_eq_ediv_of_nonneg h0]
   exact Z68 (by omega) (by omega)
  have hm:modK n 10=some (n % 10):=by
   unfold modK
   rw [if_pos (by decide)]
   congr 1
   exact Int.tmod_eq_emod_of_nonneg h0
  rw [hd,hm]
  refine bs (bs (bd wr fun v7 e7=>?_))
  rw [e7]
  refine bd (h10 _ (by omega) (by omega)) fun v8 e8=>bd (ct (by have:=e4.2; simp at this; omega)) fun v9 e9=>bs (bs (bd wr fun v12 e12=>?_))
  rw [e12]
  exact bd (h10 _ (by omega) (by omega)) fun v13 e13=>bd (ct (by have:=e4.2; have:=e9.2; simp at *; omega)) fun _ _=>ok trivial
theorem Y0f (f:Z12) (hf:Z85 f):Ok (Zbe f) (fun r=>r.2=0→FewF f):=by
 unfold Zbe
 refine bd (Zy1 _ hf.pool) fun v0 h0=>brN (fun h=>ok fun h'=>absurd h' h) fun h=>?_
 have hS:=h0 h
 refine bd (Y41 f hf hS) fun v1 h1=>brN (fun h=>ok fun h'=>absurd h' h) fun h=>?_
 have hF:=h1 h
 have k1:=hF.1; have k2:=hF.2.1; have k3:=hF.2.2
 refine bd (P:=fun _=>True) (li f.Z1e.length (fun t h0 h1=>?_) (by omega) (by omega) (by omega)) fun q _=>?_
 ·unfold Zjk
  exact brD (fun hlt=>bd (Y1r f hf hS t h0 hlt) fun _ _=>brN (fun _=>bd (Zmk _ t (by simp) h0 (by omega)) fun _ _=>di trivial) fun _=>bd wr fun _ _=>ni (by omega) (by omega)) fun _=>di trivial
 cases q with
 | inr _=>exact ok fun _=>hF
 | inl _=>
 refine bd (P:=fun _=>True) (li f.Z0g.length (fun t h0 h1=>?_) (by omega) (by omega) (by omega)) fun q _=>?_
 ·unfold Zhn
  exact brD (fun hlt=>bd (Y0x f hf hS t h0 hlt) fun _ _=>brN (fun _=>bd (Zmk _ t (by simp) h0 (by omega)) fun _ _=>di trivial) fun _=>bd wr fun _ _=>ni (by omega) (by omega)) fun _=>di trivial
 cases q with
 | inr _=>exact ok fun _=>hF
 | inl _=>
 refine bd (P:=fun _=>True) (li f.Z10.length (fun t h0 h1=>?_) (by omega) (by omega) (by omega)) fun q _=>?_
 ·unfold Zk6
  exact brD (fun hlt=>bd (Y21 f hf hS t h0 hlt) fun _ _=>brN (fun _=>bd (Zmk _ t (by simp) h0 (by omega)) fun _ _=>di trivial) fun _=>bd wr fun _ _=>ni (by omega) (by omega)) fun _=>di trivial
 cases q with
 | inr _=>exact ok fun _=>hF
 | inl _=>exact bd (Zzh f hf hS) fun _ _=>br! (fun _=>ok fun _=>hF) fun _=>ok fun _=>hF
end Go.Proofs
set_option linter.unusedVariables false
namespace Go.Proofs
open Go.Den Go.Tot
def FewM (u:Z0m):Prop:=u.Z1e.length≤8∧u.Z0g.length≤64∧u.Z10.length≤64
theorem Y3p (u:Z0m) (hu:Z5d u):Ok (Zcj u) (fun r=>r.2=0→FewM u):=by
 have gm:=hu.metL
 unfold Zcj
 refine bd (Y0g u hu) fun _ _=>br! (fun _=>ok (by simp)) fun _=>bd (Y3q _ u Z11.nil hu) fun v1 h1=>brN (fun h=>ok fun h'=>absurd h' h) fun _=>?_
 have hm:=h1.fam.m; have hc:=h1.fam.c; have ht:=h1.fam.t; have hs:=h1.fam.s
 refine bd (P:=fun q:List (List UInt8)⊕(Z12×Int)=>match q with|.inl q=>(q.length:Int)=u.Z10.length∧∀ s∈q,Str s|.inr y=>y.2≠0) (lp (fun t=>t.1) u.Z10.length (fun t=>(t.2.length:Int)=t.1∧∀ s∈t.2,Str s) (fun t hI h0 h1'=>?_) (by omega) ⟨rfl,Z44⟩) fun q1 hq1=>?_
 ·obtain ⟨hI1,hI2⟩:=hI
  unfold Zil
  have hj:t.1<u.Z10.length→∀ s e,Str s→Ok (Za6 t s e) (St (fun t=>(t.2.length:Int)=t.1∧∀ s∈t.2,Str s) (fun t=>t.1) u.Z10.length (fun q:List (List UInt8)⊕(Z12×Int)=>match q with|.inl q=>(q.length:Int)=u.Z10.length∧∀ s∈q,Str s|.inr y=>y.2≠0) t):=fun hlt s e hs'=>by
   unfold Za6
   exact brN (fun h=>dn h) fun _=>bd gk fun _ _=>bd wr fun _ hv=>nx ⟨by simp only [List.length_append,List.length_cons,List.length_nil]; omega,Z61 hI2 hs'⟩
  exact brD (fun hlt=>bd gr fun _ _=>br (fun _=>bd gr fun c hcm=>bd (Y0c _ c h1.pool (h1.fam.code c hcm)) fun v8 h8=>hj (by omega) _ _ h8) fun _=>hj (by omega) _ _ (by simp)) fun hge=>dn ⟨by omega,hI2⟩
 cases q1 with
 | inr y=>exact ok fun h=>absurd h hq1
 | inl q0=>
 obtain ⟨k1,k2⟩:=hq1
 refine bd (P:=fun q:List Z0d⊕(Z12×Int)=>match q with|.inl q=>(q.length:Int)=u.Z10.length∧∀ m∈q,m.Z1g.length≤2∧∀ a∈m.Z1g,Str a.Z2g|.inr y=>y.2≠0) (lp (fun t=>t.1) u.Z10.length (fun t=>(t.2.length:Int)=t.1∧∀ m∈t.2,m.Z1g.length≤2∧∀ a∈m.Z1g,Str a.Z2g) (fun t hI h0 h1'=>?_) (by omega) ⟨rfl,Z44⟩) fun q3 hq3=>?_
 ·obtain ⟨hI1,hI2⟩:=hI
  have h3:t.1<u.Z10.length→∀ p:List Z17,(p.length≤2∧∀ a∈p,Str a.Z2g)→Ok (Zah t v1 p) (St (fun t=>(t.2.length:Int)=t.1∧∀ m∈t.2,m.Z1g.length≤2∧∀ a∈m.Z1g,Str a.Z2g) (fun t=>t.1) u.Z10.length (fun q:List Z0d⊕(Z12×Int)=>match q with|.inl q=>(q.length:Int)=u.Z10.length∧∀ m∈q,m.Z1g.length≤2∧∀ a∈m.Z1g,Str a.Z2g|.inr y=>y.2≠0) t):=fun hlt p hp=>by
   unfold Zah
   exact bd gr fun _ _=>bd gk fun _ _=>bd wr fun _ hv=>nx ⟨by simp only [List.length_append,List.length_cons,List.length_nil]; omega,Z61 hI2 hp⟩
  have h2:t.1<u.Z10.length→∀ p:List Z17,(p.length≤1∧∀ a∈p,Str a.Z2g)→Ok (Za9 t v1 p) (St (fun t=>(t.2.length:Int)=t.1∧∀ m∈t.2,m.Z1g.length≤2∧∀ a∈m.Z1g,Str a.Z2g) (fun t=>t.1) u.Z10.length (fun q:List Z0d⊕(Z12×Int)=>match q with|.inl q=>(q.length:Int)=u.Z10.length∧∀ m∈q,m.Z1g.length≤2∧∀ a∈m.Z1g,Str a.Z2g|.inr y=>y.2≠0) t):=fun hlt p hp=>by
   unfold Za9
   exact bd gr fun _ _=>brN (fun _=>bd gr fun _ _=>bd (Zqr _) fun v30 h30=>brN (fun h=>dn h) fun _=>bd gr fun _ _=>bd gk fun _ _=>h3 hlt _ ⟨by simp only [List.length_append,List.length_cons,List.length_nil]; omega,Z61 hp.2 h30⟩) fun _=>h3 hlt p ⟨by omega,hp.2⟩
  unfold Zi9
  exact brD (fun hlt=>bd gr fun _ _=>br (fun _=>bd gr fun _ _=>bd ik fun j hj=>bd (la (by omega)) fun b hb=>bd (gk (by simp) (by simp)) fun _ _=>h2 (by omega) _ ⟨by simp,Z61 Z44 (k2 b hb.2)⟩) fun _=>h2 (by omega) _ ⟨by simp,Z44⟩) fun hge=>dn ⟨by omega,hI2⟩
 cases q3 with
 | inr y=>exact ok fun h=>absurd h hq3
 | inl q2=>
 obtain ⟨e1,e2⟩:=hq3
 refine bd (Y0f _ ⟨h1.pool,by have:=h1.ifsL; have:=hu.ifsL; dsimp only; omega,by have:=h1.fldL; have:=hu.fldL; dsimp only; omega,by dsimp only; omega,by have:=h1.attL; dsimp only; omega,h1.att,fun m hm=>?_⟩) fun w hw=>brN (fun h=>ok fun h'=>absurd h' h) fun h=>ok fun _=>?_
 rotate_left
 ·have hF:v1.2.f_F.Z1e.length≤8∧v1.2.f_F.Z0g.length≤64∧q2.length≤64:=hw h
  have:=h1.ifsL; have:=h1.fldL; exact ⟨by omega,by omega,by omega⟩
 rcases hm with hm|hm
 ·have:=h1.fld m hm; exact ⟨by omega,this.2⟩
 ·have:=e2 m hm; exact ⟨by omega,this.2⟩
theorem Y3v (u:Z0m) (hu:Z5d u):Ok (Z9t u) (fun e=>e=0→FewM u):=bd (Y3p u hu) fun _ h=>ok h
theorem Znc (w:Z0c) (n i:Int) (s:List UInt8) (b:Bool) (hi:i≤w.Z0o.length):Ok (Zc1 w n i s b) (fun r=>r=true→0≤n∧n<i):=by
 unfold Zc1
 exact brD (fun _=>brD (fun _=>bd gr fun _ _=>br (fun _=>bd gr fun _ _=>bs (ok fun _=>⟨by omega,by omega⟩)) fun _=>ok (by simp)) fun _=>ok (by simp)) fun _=>ok (by simp)
theorem find_ok (w:Z0c) (l:Int) (s:List UInt8) (hw:Z5f w):Ok (Zh5 w l s) (fun _=>True):=by
 have:=hw.iniL
 unfold Zh5
 refine bd (P:=fun _=>True) (li w.Z2l.length (fun t h0 h1=>?_) (by omega) (by omega) (by omega)) fun q _=>by cases q <;> exact ok trivial
 unfold l55x1
 exact brD (fun _=>bd gr fun _ _=>br (fun _=>bd gr fun _ _=>br (fun _=>bd gr fun _ _=>di trivial) fun _=>bd wr fun _ _=>ni (by omega) (by omega)) fun _=>bd wr fun _ _=>ni (by omega) (by omega)) fun _=>di trivial
structure Zaf (w:Z0c) (i:Int) (c:Z1s):Prop where
 sup:c.Z16= -1∨(0≤c.Z16∧c.Z16<i)
 ifs:∀ n∈c.Z1e,0≤n∧n<i
 ifsL:c.Z1e.length≤8
 few:FewM c.Z13
 lod:0≤c.Z2u∧c.Z2u<w.Z1y.length
 lang:c.Z2u≠0→Z9b c.Z13.Z0f [108,97,110,103,47]=some false
theorem Y40 (w:Z0c) (hw:Z5f w) (i:Int) (h0:0≤i) (h1:i<w.Z0o.length) (c:Z1s) (hg:Z05 w.Z0o i=some c) (hm:c∈w.Z0o):Ok (Zax w i) (fun b=>b=true→Zaf w i c):=by
 have hcl:=hw.clsL
 obtain ⟨hmod,hifs⟩:=hw.cls c hm
 have hmi:=hmod.ifsL
 have z:Ok (some false) (fun b=>b=true→Zaf w i c):=ok (by simp)
 unfold Zax
 rw [hg]
 refine bs (brD (fun _=>z) fun k0=>brD (fun _=>z) fun k1=>bd (Y3v _ hmod) fun _ hck=>brN (fun _=>z) fun hck0=>brN (fun _=>z) fun hlen=>?_)
 have h2:(c.Z16= -1∨(0≤c.Z16∧c.Z16<i))→(c.Z2u≠0→Z9b c.Z13.Z0f [108,97,110,103,47]=some false)→Ok (Zc4 c w i) (fun b=>b=true→Zaf w i c):=fun hs hl=>by
  unfold Zc4
  refine bd (P:=fun q:Unit⊕Bool=>match q with|.inl _=>∀ n∈c.Z1e,0≤n∧n<i|.inr b=>b=false) (Z5q (P:=fun n=>0≤n∧n<i) hifs (fun t g0 g1 v hv hvm hvg=>?_) fun t g0 g1 ha=>?_) fun q hq=>?_
  ·unfold Zk5
   rw [hvg]
   exact brD (fun _=>bs (bd gr fun _ _=>bd (Znc w v i _ _ (by omega)) fun b hb=>br! (fun _=>ok rfl) fun h=>bd wr fun _ hw'=>ok ⟨hw',hb h⟩)) fun h=>absurd g1 h
  ·unfold Zk5
   exact brD (fun h=>absurd h (by omega)) fun _=>ok ha
  cases q with
  | inr b=>exact ok fun h=>by cases hq.symm.trans h
  | inl _=>
   have hd:Zaf w i c:=⟨hs,hq,by have:=(hck hck0).1; omega,hck hck0,⟨by omega,by omega⟩,hl⟩
   refine bd (P:=fun _=>True) (li i (fun t g0 g1=>?_) (by omega) (by omega) (by omega)) fun q _=>?_
   ·unfold l32x2
    exact brD (fun _=>bd gr fun _ _=>br (fun _=>bd gr fun _ _=>br (fun _=>di trivial) fun _=>bd wr fun _ _=>ni (by omega) (by omega)) fun _=>bd wr fun _ _=>ni (by omega) (by omega)) fun _=>di trivial
   cases q with
   | inr _=>exact ok fun _=>hd
   | inl _=>exact bd (find_ok w _ _ hw) fun _ _=>br (fun _=>br (fun _=>brD (fun _=>brD (fun _=>ok fun _=>hd) fun _=>ok fun _=>hd) fun _=>ok fun _=>hd) fun _=>ok fun _=>hd) fun _=>ok fun _=>hd
 have h3:(c.Z2u≠0→Z9b c.Z13.Z0f [108,97,110,103,47]=some false)→Ok (Zdk c w i) (fun b=>b=true→Zaf w i c):=fun hl=>by
  unfold Zdk
  exact brE (fun he=>br! (fun _=>bd (Znc w _ i _ _ (by omega)) fun b hb=>br! (fun _=>z) fun h=>h2 (.inr (hb h)) hl) fun _=>h2 (.inl he) hl) fun _=>br! (fun _=>bd (Znc w _ i _ _ (by omega)) fun b hb=>br! (fun _=>z) fun h=>h2 (.inr (hb h)) hl) fun _=>z
 exact brN (fun _=>bdE (Zvz _ _) fun b hb _=>br (fun _=>z) fun h=>h3 fun _=>by rw [hb,h]) fun h=>h3 fun h'=>absurd h h'
structure Z2w (w:Z0c):Prop where
 cls:∀ (i:Nat) c,w.Z0o[i]?=some c→Zaf w i c
 few:w.Z0o.length≤200
theorem Y32 (w:Z0c) (hw:Z5f w):Ok (Z8d w) (fun b=>b=true→Z2w w):=by
 have hcl:=hw.clsL; have hil:=hw.iniL; have hcon:=hw.conL
 unfold Z8d
 refine bd (Zzp _ hw.lod hw.lodL) fun v0 h0=>brN (fun _=>ok (by simp)) fun h=>brD (fun _=>ok (by simp)) fun hc2=>brD (fun _=>ok (by simp)) fun _=>?_
 have hl8:=h0 h
 unfold j9x1
 refine bd (P:=fun q:Unit⊕Bool=>match q with|.inl _=>∀ b∈w.Z47,Z7s w b|.inr b=>b=false) (Z5q (P:=Z7s w) hcon (fun t g0 g1 v hv hvm hvg=>?_) fun t g0 g1 ha=>?_) fun q hq=>?_
 ·unfold l9x1
  rw [hvg]
  exact brD (fun _=>bs (brD (fun _=>ok rfl) fun _=>brD (fun _=>ok rfl) fun _=>brD (fun _=>ok rfl) fun _=>brD (fun _=>ok rfl) fun _=>bd (Zgi _ (hw.con v hvm)) fun _ _=>br! (fun _=>ok rfl) fun _=>bd wr fun _ hw'=>ok ⟨hw',by omega,by omega,by omega,by omega⟩)) fun h=>absurd g1 h
 ·unfold l9x1
  exact brD (fun h=>absurd h (by omega)) fun _=>ok ha
 cases q with
 | inr b=>exact ok fun h=>by cases hq.symm.trans h
 | inl _=>
 have hcons:∀ b∈w.Z47,Z7s w b:=hq
 refine bd (P:=fun q:Unit⊕Bool=>match q with|.inl _=>True|.inr b=>b=false) (lp (fun t=>t) w.Z2l.length (fun t=>∀ (j:Nat) v,(j:Int)<t→w.Z2l[j]?=some v→Z7m w v) (fun t hI g0 g1=>?_) (by omega) (fun j v h=>by omega) (by omega) (by omega)) fun q hq=>?_
 ·unfold l9x2
  refine brD (fun hlt=>bd (Y2b w t hw g0 hlt) fun b hb=>br! (fun _=>dn rfl) fun h=>?_) fun _=>dn trivial
  have hall:∀ (j:Nat) v,(j:Int)≤t→w.Z2l[j]?=some v→Z7m w v:=fun j v hj hv=>by
   rcases Int.lt_or_le (j:Int) t with h'|h'
   ·exact hI j v h' hv
   ·have:j=t.toNat:=by omega
    subst this
    exact hb h v hv
  exact bd (Y34 w t hw hl8 hcons g0 hlt hall) fun _ _=>br! (fun _=>dn rfl) fun _=>bd wr fun k hk=>nx (fun j v hj hv=>hall j v (by omega) hv) (by omega) (by omega)
 cases q with
 | inr b=>exact ok fun h=>by cases hq.symm.trans h
 | inl _=>
 refine bd (P:=fun q:Unit⊕Bool=>match q with|.inl _=>Z2w w|.inr b=>b=false) (lp (fun t=>t) w.Z0o.length (fun t=>∀ (j:Nat) c,(j:Int)<t→w.Z0o[j]?=some c→Zaf w j c) (fun t hI g0 g1=>?_) (by omega) (fun j v h=>by omega) (by omega) (by omega)) fun q hq=>?_
 ·unfold l9x3
  refine brD (fun hlt=>?_) fun hge=>dn ⟨fun j c hc=>hI j c (by have:=(List.getElem?_eq_some_iff.1 hc).1; omega) hc,by omega⟩
  obtain ⟨c,hg,hm,hi⟩:=gri (l:=w.Z0o) g0 hlt
  refine bd (Y40 w hw t g0 hlt c hg hm) fun b hb=>br! (fun _=>dn rfl) fun h=>bd wr fun k hk=>nx (fun j d hj hd=>?_) (by omega) (by omega)
  rcases Int.lt_or_le (j:Int) t with h'|h'
  ·exact hI j d h' hd
  ·have:j=t.toNat:=by omega
   subst this
   rw [hi] at hd; cases hd
   have:=hb h
   rwa [show ((t.toNat:Nat):Int)=t by omega]
 cases q with
 | inr b=>exact ok fun h=>by cases hq.symm.trans h
 | inl _=>exact ok fun _=>hq
end Go.Proofs
set_option linter.unusedVariables false
namespace Go.Proofs
open Go.Den Go.Tot
end Go.Proofs
set_option linter.unusedVariables false
namespace Go.Proofs
open Go.Den Go.Tot
abbrev FS:=Z19
theorem Ziu {b n:Nat} (h:n*b≤140737488355328) (hn:n≤9223372036854775807):Z1l b n=some ():=by
 obtain ⟨u,e,_⟩:=gk h hn
 exact e
def Z3s (c:Int) (st:Bool):Int→List Z1b→List FS
 | _,[] =>[]
 | k,f::r=>if (((Z2b .i64 f.Z0r 8)!=0)==st)=true then { Z0k:=c,Z0x:=k }::Z3s c st (k+1) r else Z3s c st (k+1) r
theorem Zqi (c:Int) (st:Bool) (f:Z1b):∀ (l:List Z1b) (k:Int),Z3s c st k (l++[f])=Z3s c st k l++(if (((Z2b .i64 f.Z0r 8)!=0)==st)=true then [{ Z0k:=c,Z0x:=k+l.length }] else [])
 | [],k=>by
  unfold Z3s
  simp only [List.nil_append,List.length_nil,Int.natCast_zero,Int.add_zero]
  split <;> rfl
 | g::l,k=>by
  have h:=Zqi c st f l (k+1)
  simp only [List.cons_append]
  unfold Z3s
  rw [h,show k+1+(l.length:Int)=k+((g::l).length:Nat) by simp only [List.length_cons]; omega]
  split <;> rfl
def Z40 (w:Z0c) (c:Int) (st:Bool):List FS:=match Z05 w.Z0o c with
 | some v=>Z3s c st 0 v.Z13.Z0g
 | none=>[]
theorem Zo5 (c:Int) (st:Bool):∀ (l:List Z1b) (k:Int),(Z3s c st k l).length≤l.length
 | [],k=>by simp [Z3s]
 | f::l,k=>by
  have:=Zo5 c st l (k+1)
  unfold Z3s
  split <;> simp only [List.length_cons] <;> omega
theorem Zpp (w:Z0c) (hv:Z2w w) (c:Int) (s:Bool) (h0:0≤c) (h1:c<w.Z0o.length):Zj5 w c s=some (Z40 w c s)∧(Z40 w c s).length≤64:=by
 obtain ⟨v,e,hm,hx⟩:=gri (l:=w.Z0o) h0 h1
 have hf:=(hv.cls _ v hx).few.2.1
 have hC:Z40 w c s=Z3s c s 0 v.Z13.Z0g:=by unfold Z40; rw [e]
 refine ⟨?_,by rw [hC]; have:=Zo5 c s v.Z13.Z0g 0; omega⟩
 rw [hC]
 unfold Zj5
 rw [e]
 have:Ok (Z07 (l38x1 v c s) Z09 (0,([]:List FS))) (fun r=>r=Z3s c s 0 v.Z13.Z0g):=by
  refine lp (fun t=>t.1) v.Z13.Z0g.length (fun t=>t.2=Z3s c s 0 (v.Z13.Z0g.take t.1.toNat)) (fun t hI g0 g1=>?_) (by omega) (by simp [Z3s]) (by omega) (by dsimp only; omega)
  obtain ⟨i,acc⟩:=t
  dsimp only at hI g0 g1 ⊢
  subst hI
  unfold l38x1
  dsimp only
  refine brD (fun hlt=>?_) fun hge=>dn (by rw [List.take_of_length_le (by omega)])
  obtain ⟨f,ef,_,hfx⟩:=gri (l:=v.Z13.Z0g) g0 hlt
  have hlen:(Z3s c s 0 (v.Z13.Z0g.take i.toNat)).length≤i.toNat:=by have:=Zo5 c s (v.Z13.Z0g.take i.toNat) 0; rw [List.length_take] at this; omega
  have hs:Z3s c s 0 (v.Z13.Z0g.take (i+1).toNat)=Z3s c s 0 (v.Z13.Z0g.take i.toNat)++(if (((Z2b .i64 f.Z0r 8)!=0)==s)=true then [{ Z0k:=c,Z0x:=i }] else []):=by
   rw [show (i+1).toNat=i.toNat+1 by omega,List.take_add_one,hfx]
   simp only [Option.toList_some]
   rw [Zqi,List.length_take,show (0:Int)+((min i.toNat v.Z13.Z0g.length:Nat):Int)=i by omega]
  rw [ef]
  refine bs (bs (br (fun h=>?_) fun h=>?_))
  ·refine bd gk fun _ _=>bd wr fun k hk=>nx ?_
   dsimp only
   rw [hk,hs,if_pos h]
  ·refine bd wr fun k hk=>nx ?_
   dsimp only
   rw [hk,hs,if_neg (by simp [h]),List.append_nil]
 obtain ⟨r,er,rfl⟩:=this
 simp only [Option.bind_some,er]
def Z3m (w:Z0c):Nat→Int→List Int
 | 0,_=>[]
 | n+1,c=>match Z05 w.Z0o c with
  | some k=>c::Z3m w n k.Z16
  | none=>[]
def Z3w (w:Z0c) (n:Nat) (c:Int):List FS:=((Z3m w n c).reverse.map fun k=>Z40 w k false).flatten
theorem Z6z {α:Type} {l:List α} {c:Int} (h: ¬ (0≤c∧c<l.length)):Z05 l c=none:=by
 unfold Z05
 split
 ·rw [List.getElem?_eq_none]; omega
 ·rfl
theorem Z8q {w:Z0c} (hv:Z2w w) {c:Int} {k:Z1s} (h:Z05 w.Z0o c=some k):0≤c∧c<w.Z0o.length∧k.Z16<c:=by
 unfold Z05 at h
 split at h
 ·rename_i h0
  have hlt:=(List.getElem?_eq_some_iff.1 h).1
  refine ⟨h0,by omega,?_⟩
  rcases (hv.cls _ k h).sup with hs|hs <;> omega
 ·cases h
theorem Zm9 {w:Z0c} (hv:Z2w w):∀ (n m:Nat) (c:Int),c+2≤n→1≤n→c+2≤m→1≤m→Z3m w n c=Z3m w m c
 | n + 1,m+1,c,h1,_,h2,_=>by
  unfold Z3m
  cases e:Z05 w.Z0o c with
  | none=>rfl
  | some k=>
   have:=Z8q hv e
   dsimp only
   rw [Zm9 hv n m k.Z16 (by omega) (by omega) (by omega) (by omega)]
theorem Ztu {w:Z0c} {n:Nat} {c:Int} {k:Z1s} (e:Z05 w.Z0o c=some k):Z3w w (n+1) c=Z3w w n k.Z16++Z40 w c false:=by
 unfold Z3w
 rw [Z3m,e]
 simp
theorem Zoj {w:Z0c} {n:Nat} {c:Int} (e:Z05 w.Z0o c=none):Z3w w n c=[] :=by
 unfold Z3w
 cases n with
 | zero=>rfl
 | succ n=>rw [Z3m,e]; rfl
theorem Zme (w:Z0c) (c:Int):Zh7 w c=some (decide (0≤c∧c<w.Z0o.length)):=by
 unfold Zh7
 by_cases h:c≥0
 ·rw [if_pos (decide_eq_true h)]
  simp [h]
 ·rw [if_neg (by simpa using h)]
  simp [h]
theorem Zxv (w:Z0c) (hv:Z2w w):∀ (nn:Nat) (c:Int),c+2≤nn→1≤nn→c≤1000000→Zpe nn w c=some (Z3w w nn c)∧(0≤c→((Z3w w nn c).length:Int)≤64*(c+1))
 | nn+1,c,h,_,hb=>by
  unfold Zpe
  rw [Zme]
  simp only [Option.bind_some]
  by_cases ht:0≤c∧c<w.Z0o.length
  ·obtain ⟨v,e,hm,hx⟩:=gri (l:=w.Z0o) ht.1 ht.2
   obtain ⟨_,_,hs⟩:=Z8q hv e
   obtain ⟨r1,r2⟩:=Zxv w hv nn v.Z16 (by omega) (by omega) (by omega)
   obtain ⟨o1,o2⟩:=Zpp w hv c false ht.1 ht.2
   have hlen:((Z3w w nn v.Z16).length:Int)≤64*c:=by
    by_cases hn:0≤v.Z16
    ·have:=r2 hn; omega
    ·rw [Zoj (Z6z (by omega))]; simp; omega
   rw [decide_eq_true ht,Ztu e,e]
   simp only [Bool.not_true,Bool.false_eq_true,if_false,Option.bind_some,r1,o1,List.nil_append]
   have g1:Z1l 16 (Z3w w nn v.Z16).length=some ():=Ziu (by omega) (by omega)
   have g2:Z1l 16 (Z3w w nn v.Z16++Z40 w c false).length=some ():=Ziu (by rw [List.length_append]; omega) (by rw [List.length_append]; omega)
   rw [g1,g2]
   exact ⟨rfl,fun _=>by rw [List.length_append]; omega⟩
  ·rw [decide_eq_false ht]
   have:Z3w w (nn+1) c=[] :=Zoj (Z6z ht)
   rw [this]
   exact ⟨rfl,fun h0=>by simp; omega⟩
end Go.Proofs
