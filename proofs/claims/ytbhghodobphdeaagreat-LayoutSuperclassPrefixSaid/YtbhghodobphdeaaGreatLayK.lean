/-
  That a model comes to an answer: steps in Option that do not fail.
-/
import Derived.Test.YtbhghodobphdeaaGreatDenMod
import Derived.Test.YtbhghodobphdeaaGreatLay6
namespace Go.Tot
open Go.Den Go.RowKit
def Ok {α:Type} (o:Option α) (P:α→Prop):Prop:=∃ r,o=some r∧P r
section
variable {α β:Type} {P P':α→Prop} {Q:β→Prop}
theorem ok {x:α} (h:P x):Ok (some x) P:=⟨x,rfl,h⟩
theorem Ok.mono {o:Option α} (h:Ok o P) (k:∀ x,P x→P' x):Ok o P':=by
 obtain ⟨r,e,p⟩:=h
 exact ⟨r,e,k r p⟩
theorem bd {o:Option α} {f:α→Option β} (h:Ok o P) (k:∀ x,P x→Ok (f x) Q):Ok (o.bind f) Q:=by
 obtain ⟨r,e,p⟩:=h
 obtain ⟨r',e',p'⟩:=k r p
 exact ⟨r',by rw [e]; exact e',p'⟩
theorem bs {x:α} {f:α→Option β} (k:Ok (f x) Q):Ok ((some x).bind f) Q:=k
theorem bdE {o:Option α} {f:α→Option β} (h:Ok o P) (k:∀ x,o=some x→P x→Ok (f x) Q):Ok (o.bind f) Q:=by
 obtain ⟨r,e,p⟩:=h
 obtain ⟨r',e',p'⟩:=k r e p
 exact ⟨r',by rw [e]; exact e',p'⟩
theorem br {b:Bool} {x y:Option α} (T:b=true→Ok x P) (F:b=false→Ok y P):Ok (if b=true then x else y) P:=by
 cases b with
 | true=>exact T rfl
 | false=>exact F rfl
theorem brD {p:Prop} [Decidable p] {x y:Option α} (T:p→Ok x P) (F: ¬p→Ok y P):Ok (if decide p=true then x else y) P:=by
 by_cases h:p
 ·rw [if_pos (decide_eq_true h)]; exact T h
 ·rw [if_neg (by simpa using h)]; exact F h
theorem brE {n m:Int} {x y:Option α} (T:n=m→Ok x P) (F:n≠m→Ok y P):Ok (if (n==m)=true then x else y) P:=by
 by_cases h:n=m
 ·rw [if_pos (by simpa using h)]; exact T h
 ·rw [if_neg (by simpa using h)]; exact F h
theorem brN {n m:Int} {x y:Option α} (T:n≠m→Ok x P) (F:n=m→Ok y P):Ok (if (n !=m)=true then x else y) P:=by
 by_cases h:n=m
 ·rw [if_neg (by simp [h])]; exact F h
 ·rw [if_pos (by simpa using h)]; exact T h
theorem br! {b:Bool} {x y:Option α} (T:b=false→Ok x P) (F:b=true→Ok y P):Ok (if (!b)=true then x else y) P:=by
 cases b with
 | true=>exact F rfl
 | false=>exact T rfl
end
section
variable {T R:Type} {f:T→Option (Ctl T R)} {Q:R→Prop}
def St (I:T→Prop) (ix:T→Int) (n:Int) (Q:R→Prop) (t:T):Ctl T R→Prop
 | .next t'=>I t'∧ix t<ix t'∧ix t'≤n
 | .done r=>Q r
variable {I:T→Prop} {ix:T→Int} {n:Int} {t:T}
theorem nx {t':T} (h:I t') (h1:ix t<ix t':=by first|omega|(dsimp only; omega)) (h2:ix t'≤n:=by first|omega|(dsimp only; omega)):Ok (some (Ctl.next t':Ctl T R)) (St I ix n Q t):=⟨_,rfl,h,h1,h2⟩
theorem dn {r:R} (h:Q r):Ok (some (Ctl.done r:Ctl T R)) (St I ix n Q t):=⟨_,rfl,h⟩
theorem lp (ix:T→Int) (n:Int) (I:T→Prop) (h:∀ t,I t→0≤ix t→ix t≤n→Ok (f t) (St I ix n Q t)) {t0:T} (hn:n≤9223372036854775807) (h0:I t0) (h1:0≤ix t0:=by first|omega|(dsimp only; omega)) (h2:ix t0≤n:=by first|omega|(dsimp only; omega)):Ok (Z07 f Z09 t0) Q:=by
 refine Zuf (fun t=>I t∧0≤ix t∧ix t≤n) (fun t=>(n - ix t).toNat) Q (fun t ht=>?_) Z09 t0 ⟨h0,h1,h2⟩ (by unfold Z09; omega)
 obtain ⟨x,e,p⟩:=h t ht.1 ht.2.1 ht.2.2
 refine ⟨x,e,?_⟩
 cases x with
 | next t'=>exact ⟨⟨p.1,by have:=p.2.1; omega,p.2.2⟩,by have:=p.2.1; have:=p.2.2; omega⟩
 | done r=>exact p
end
section
variable {R:Type} {f:Int→Option (Ctl Int R)} {Q:R→Prop}
def Si (n:Int) (Q:R→Prop) (t:Int):Ctl Int R→Prop
 | .next t'=>t<t'∧t'≤n
 | .done r=>Q r
variable {n t:Int}
theorem ni {t':Int} (h1:t<t':=by omega) (h2:t'≤n:=by omega):Ok (some (Ctl.next t':Ctl Int R)) (Si n Q t):=⟨_,rfl,h1,h2⟩
theorem di {r:R} (h:Q r):Ok (some (Ctl.done r:Ctl Int R)) (Si n Q t):=⟨_,rfl,h⟩
theorem li (n:Int) (h:∀ t,0≤t→t≤n→Ok (f t) (Si n Q t)) {t0:Int} (hn:n≤9223372036854775807:=by omega) (h1:0≤t0:=by omega) (h2:t0≤n:=by omega):Ok (Z07 f Z09 t0) Q:=
 lp (fun t=>t) n (fun _=>True) (fun t _ a b=>(h t a b).mono fun x hx=>by
  cases x with
  | next t'=>exact ⟨trivial,hx.1,hx.2⟩
  | done r=>exact hx) hn trivial h1 h2
end
section
variable {α:Type}
theorem Z4v {n:Int} (h0: -9223372036854775808≤n) (h1:n≤9223372036854775807):IntKind.wrap .i64 n=n:=by
 have h:∀ m:Int,IntKind.wrap .i64 m=(m+9223372036854775808) % 18446744073709551616 - 9223372036854775808:=fun m=>by
  unfold IntKind.wrap
  simp [IntKind.bits,IntKind.signed,Int.bmod]
  omega
 rw [h]; omega
theorem wr {n:Int} (h0: -9223372036854775808≤n:=by omega) (h1:n≤9223372036854775807:=by omega):Ok (some (IntKind.wrap .i64 n)) fun v=>v=n:=ok (Z4v h0 h1)
theorem gr {l:List α} {i:Int} (h0:0≤i:=by omega) (h1:i<l.length:=by omega):Ok (Z05 l i) fun x=>x∈l:=by
 have hlt:i.toNat<l.length:=by omega
 refine ⟨l[i.toNat],?_,List.getElem_mem hlt⟩
 unfold Z05
 rw [if_pos h0,List.getElem?_eq_getElem hlt]
theorem gri {l:List α} {i:Int} (h0:0≤i:=by omega) (h1:i<l.length:=by omega):Ok (Z05 l i) fun x=>x∈l∧l[i.toNat]?=some x:=by
 have hlt:i.toNat<l.length:=by omega
 refine ⟨l[i.toNat],?_,List.getElem_mem hlt,List.getElem?_eq_getElem hlt⟩
 unfold Z05
 rw [if_pos h0,List.getElem?_eq_getElem hlt]
theorem gs {s:List UInt8} {i:Int} (h0:0≤i:=by omega) (h1:i<s.length:=by omega):Ok (Z2p s i) fun x=>0≤x∧x<256:=by
 have hlt:i.toNat<s.length:=by omega
 refine ⟨(s[i.toNat].toNat:Int),?_,by omega,by have:=s[i.toNat].toNat_lt; omega⟩
 unfold Z2p
 rw [if_pos h0,List.getElem?_eq_getElem hlt]
 rfl
theorem ik {i:Int} {n:Nat} (h0:0≤i:=by omega) (h1:i<n:=by omega):Ok (Z3l i n) fun j=>j=i.toNat∧j<n:=⟨i.toNat,by unfold Z3l; rw [if_pos ⟨h0,h1⟩],rfl,by omega⟩
theorem la {l:List α} {j:Nat} (h:j<l.length):Ok (l[j]?) fun x=>l[j]?=some x∧x∈l:=⟨l[j],List.getElem?_eq_getElem h,List.getElem?_eq_getElem h,List.getElem_mem h⟩
theorem gk {b n:Nat} (h:n*b≤140737488355328:=by first|omega|(simp only [List.length_append,List.length_cons,List.length_nil]; omega)) (hn:n≤9223372036854775807:=by first|omega|(simp only [List.length_append,List.length_cons,List.length_nil]; omega)):Ok (Z1n b n) fun _=>True:=⟨(),by unfold Z1n; rw [if_pos ⟨hn,h⟩],trivial⟩
theorem mk {b:Nat} {l c:Int} (h0:0≤l) (h1:l≤c) (h2:(b:Int)*c≤281474976710656) (h3:c≤9223372036854775807):Ok (Z97 b l c) fun _=>True:=⟨(),by unfold Z97; rw [if_pos ⟨h0,h1,h2,h3⟩],trivial⟩
theorem ct {a b:List UInt8} (h:a.length+b.length≤9223372036854775807):Ok (Z1u a b) fun m=>m=a++b∧m.length=a.length+b.length:=⟨a++b,by unfold Z1u; rw [if_pos h],rfl,List.length_append⟩
theorem sb {l:List α} {lo hi:Int} (h0:0≤lo) (h1:lo≤hi) (h2:hi≤l.length):Ok (sub l lo hi) fun r=>(r.length:Int)=hi - lo∧∀ x∈r,x∈l:=by
 unfold sub
 rw [if_pos (by omega)]
 refine ok ⟨by simp; omega,fun x hx=>List.mem_of_mem_drop (List.mem_of_mem_take hx)⟩
end
end Go.Tot
set_option linter.unusedVariables false
namespace Go.Proofs
open Go.Den Go.Tot
abbrev Str (s:List UInt8):Prop:=s.length≤4503599627370496
structure WRef (r:Z22):Prop where
 c:Str r.Z0p
 n:Str r.Z0f
 d:Str r.Z1p
structure Z2l (i:Z01):Prop where
 keys:i.Z0t.length*8≤140737488355328
 tos:i.Z0b.length*8≤140737488355328
 ref:WRef i.Z1c
 s:Str i.f_S
structure Za3 (f:Z5b):Prop where
 loc:∀ v∈f.Z0u,Str v.Z1m.Z0f
 locL:f.Z0u.length*56≤140737488355328
 stk:∀ v∈f.Z0x,Str v.Z1m.Z0f
 stkL:f.Z0x.length*56≤140737488355328
structure Z52 (c:Z0a):Prop where
 ins:∀ i∈c.Z0j,Z2l i
 insL:c.Z0j.length*144≤140737488355328
 hnd:∀ h∈c.Z1w,Str h.Z1m
 hndL:c.Z1w.length*48≤140737488355328
 map:∀ m∈c.Z1f,Za3 m.Z1h
 mapL:c.Z1f.length*64≤140737488355328
 linL:c.Z1q.length*16≤140737488355328
structure Za1 (m:Z2m):Prop where
 n:Str m.Z0f
 d:Str m.Z1p
 code:Z52 m.Z25
 exc:∀ s∈m.Z6k,Str s
 excL:m.Z6k.length*16≤140737488355328
structure Zo3 (f:Z1b):Prop where
 n:Str f.Z0f
 d:Str f.Z1p
 s:Str f.f_S
structure Z5a (u:Z0l):Prop where
 n:Str u.Z0f
 sup:Str u.Z17
 ifs:∀ s∈u.Z1d,Str s
 ifsL:u.Z1d.length*16≤140737488355328
 fld:∀ f∈u.Z0g,Zo3 f
 fldL:u.Z0g.length*72≤140737488355328
 met:∀ m∈u.Z11,Za1 m
 metL:u.Z11.length*184≤140737488355328
 src:Str u.Z8v
structure Z79 (l:Z1l):Prop where
 del:∀ d∈l.Z5j,Str d.Zi7
 delL:l.Z5j.length≤140737488355328
 sto:∀ c∈l.Z3q,Str c.Z0f
 stoL:l.Z3q.length≤140737488355328
structure Z55 (w:Z0c):Prop where
 lod:∀ l∈w.Z1y,Z79 l
 lodL:w.Z1y.length≤140737488355328
 cls:∀ c∈w.Z0n,Z5a c.Z12∧c.Z1d.length≤140737488355328
 clsL:w.Z0n.length≤140737488355328
 ini:∀ x∈w.Z2n,Str x.Z0f
 iniL:w.Z2n.length≤140737488355328
 con:∀ x∈w.Z48,Str x.Z0f
 conL:w.Z48.length≤140737488355328
theorem Y3k (x:Int):Ok (Zj1 x) (fun _=>True):=by
 unfold Zj1
 repeat' with_reducible first
  | refine brD (fun _=>?_) fun _=>?_
  | refine brE (fun _=>?_) fun _=>?_
  | refine ok ?_
  | exact True.intro
theorem L34x1 (x:List UInt8) (h:Str x):Ok (Z07 (Zid x) Z09 0) (fun q=>match q with|.inl _=>True|.inr y=>y=false):=by
 refine li (x.length) (fun t _ _=>?_) (by omega) (by omega) (by omega)
 unfold Zid
 repeat' first
  | with_reducible refine ni ?_ ?_
  | with_reducible refine di ?_
  | with_reducible refine brD (fun _=>?_) fun _=>?_
  | with_reducible refine br! (fun _=>?_) fun _=>?_
  | with_reducible refine brE (fun _=>?_) fun _=>?_
  | with_reducible refine bd gs fun _ _=>?_
  | with_reducible refine bd wr fun _ _=>?_
  | with_reducible refine bd (Y3k _) fun _ _=>?_
  | (rfl)
  | exact True.intro
  | omega
theorem Zms (x:List UInt8) (h:Str x):Ok (Zat x) (fun b=>b=true→x≠[]):=by
 unfold Zat
 repeat' first
  | with_reducible refine bd (L34x1 _ (by first|assumption|omega|exact And.left (by assumption)|(dsimp only; omega))) fun _ _=>?_
  | with_reducible refine ok ?_
  | split
  | (first|(intro h; rintro rfl; simp at h; done)|(simp_all; done))
theorem L20x1 (x:List UInt8) (h:Str x):Ok (Z07 (Zjw x) Z09 (0,0)) (fun q=>match q with|.inl y=>0≤y∧y≤x.length|.inr y=>True):=by
 refine lp (fun t=>t.2) (x.length) (fun t=>0≤t.1∧t.1≤t.2) (fun t hI _ _=>?_) (by omega) (by omega) (by omega) (by omega)
 try dsimp only at*
 unfold Zjw
 repeat' first
  | with_reducible refine nx ?_ ?_ ?_
  | with_reducible refine dn ?_
  | with_reducible refine brD (fun _=>?_) fun _=>?_
  | with_reducible refine br! (fun _=>?_) fun _=>?_
  | with_reducible refine brE (fun _=>?_) fun _=>?_
  | with_reducible refine bd gs fun _ _=>?_
  | with_reducible refine bd wr fun _ _=>?_
  | with_reducible refine bd (sb (by omega) (by omega) (by omega)) fun _ _=>?_
  | with_reducible refine bd (Zms _ (by unfold Str; omega)) fun _ _=>?_
  | exact True.intro
  | omega
theorem Zgz (x:List UInt8) (h:Str x):Ok (Z9g x) (fun b=>b=true→x.length≤64):=by
 unfold Z9g
 repeat' first
  | with_reducible refine bdE (L20x1 _ (by assumption)) fun q _ hq=>?_
  | with_reducible refine brD (fun _=>?_) fun _=>?_
  | with_reducible refine bd (sb (by omega) (by omega) (by omega)) fun _ _=>?_
  | with_reducible refine bd (Zms _ (by unfold Str; omega)) fun _ _=>?_
  | with_reducible refine ok ?_
  | split
  | ((intro hb; first|(cases hb; done)|omega))
theorem Zqy (x y:List UInt8):Ok (Z8n x y) (fun _=>True):=by
 unfold Z8n
 repeat' with_reducible first
  | refine brD (fun _=>?_) fun _=>?_
  | refine bd (sb (by omega) (by omega) (by omega)) fun _ _=>?_
  | refine ok ?_
  | exact True.intro
theorem L32x1 (x:Z1l) (i:Int) (h:Z79 x):Ok (Z07 (Zif x i) Z09 0) (fun _=>True):=by
 have:=h.stoL
 refine li (x.Z3q.length) (fun t _ _=>?_) (by omega) (by omega) (by omega)
 unfold Zif
 repeat' first
  | with_reducible refine ni ?_ ?_
  | with_reducible refine di ?_
  | with_reducible refine brD (fun _=>?_) fun _=>?_
  | with_reducible refine br (fun _=>?_) fun _=>?_
  | with_reducible refine bd gr fun _ _=>?_
  | with_reducible refine bd wr fun _ _=>?_
  | with_reducible refine bd (Zgz _ (by exact h.sto _ (by assumption))) fun _ _=>?_
  | with_reducible refine bd (Zqy _ _) fun _ _=>?_
  | exact True.intro
  | omega
theorem Y2l (x:Z1l) (i:Int) (h:Z79 x):Ok (Zia x i) (fun _=>True):=by
 unfold Zia
 repeat' first
  | with_reducible refine bd (L32x1 _ _ (by first|assumption|omega|exact And.left (by assumption)|(dsimp only; omega))) fun _ _=>?_
  | with_reducible refine ok ?_
  | split
  | assumption
theorem L33x2 (k:Int) (x:Z1l) (hl:x.Z3q.length≤140737488355328) (h0:0≤k) (h1:k<x.Z3q.length):Ok (Z07 (Zjf k x) Z09 0) (fun _=>True):=by
 refine li (k) (fun t _ _=>?_) (by omega) (by omega) (by omega)
 unfold Zjf
 repeat' first
  | with_reducible refine ni ?_ ?_
  | with_reducible refine di ?_
  | with_reducible refine brD (fun _=>?_) fun _=>?_
  | with_reducible refine br (fun _=>?_) fun _=>?_
  | with_reducible refine bd gr fun _ _=>?_
  | with_reducible refine bd wr fun _ _=>?_
  | exact True.intro
  | omega
theorem L33x1 (x:Z1l) (hl:x.Z3q.length≤140737488355328):Ok (Z07 (Ziu x) Z09 0) (fun _=>True):=by
 refine li (x.Z3q.length) (fun t _ _=>?_) (by omega) (by omega) (by omega)
 unfold Ziu
 repeat' first
  | with_reducible refine ni ?_ ?_
  | with_reducible refine di ?_
  | with_reducible refine brD (fun _=>?_) fun _=>?_
  | with_reducible refine bd wr fun _ _=>?_
  | with_reducible refine bd (L33x2 _ _ (by first|assumption|omega|exact And.left (by assumption)|(dsimp only; omega)) (by first|assumption|omega|exact And.left (by assumption)|(dsimp only; omega)) (by first|assumption|omega|exact And.left (by assumption)|(dsimp only; omega))) fun _ _=>?_
  | split
  | exact True.intro
  | omega
theorem Zz5 (x:Z1l) (hl:x.Z3q.length≤140737488355328):Ok (Zgj x) (fun _=>True):=by
 unfold Zgj
 repeat' first
  | with_reducible refine bd (L33x1 _ (by first|assumption|omega|exact And.left (by assumption)|(dsimp only; omega))) fun _ _=>?_
  | with_reducible refine ok ?_
  | split
  | assumption
theorem L19x1 (x:List Z1l) (h:∀ l∈x,Z79 l) (hl:x.length≤140737488355328):Ok (Z07 (Zk5 x) Z09 0) (fun _=>True):=by
 refine li (x.length) (fun t _ _=>?_) (by omega) (by omega) (by omega)
 unfold Zk5
 repeat' first
  | with_reducible refine ni ?_ ?_
  | with_reducible refine di ?_
  | with_reducible refine brD (fun _=>?_) fun _=>?_
  | with_reducible refine bd gr fun _ _=>?_
  | with_reducible refine bd wr fun _ _=>?_
  | exact True.intro
  | omega
theorem L19x3 (k:Int) (x:List Z1l) (h:∀ l∈x,Z79 l) (hl:x.length≤140737488355328) (h0:0≤k) (h1:k<x.length):Ok (Z07 (Zie k x) Z09 0) (fun _=>True):=by
 obtain ⟨y,hy,hm⟩:=gr h0 h1
 have:=(h y hm).delL
 refine li (y.Z5j.length) (fun t _ _=>?_) (by omega) (by omega) (by omega)
 unfold Zie
 simp only [hy]
 repeat' first
  | with_reducible refine ni ?_ ?_
  | with_reducible refine di ?_
  | with_reducible refine brD (fun _=>?_) fun _=>?_
  | with_reducible refine bd gr fun _ _=>?_
  | with_reducible refine bd wr fun _ _=>?_
  | with_reducible refine bs ?_
  | exact True.intro
  | omega
theorem L19x2 (x:List Z1l) (h:∀ l∈x,Z79 l) (hl:x.length≤140737488355328):Ok (Z07 (Zfu x) Z09 0) (fun _=>True):=by
 refine li (x.length) (fun t _ _=>?_) (by omega) (by omega) (by omega)
 unfold Zfu
 repeat' first
  | with_reducible refine ni ?_ ?_
  | with_reducible refine di ?_
  | with_reducible refine brD (fun _=>?_) fun _=>?_
  | with_reducible refine bd wr fun _ _=>?_
  | with_reducible refine bd (L19x3 _ _ (by first|assumption|omega|exact And.left (by assumption)|(dsimp only; omega)) (by first|assumption|omega|exact And.left (by assumption)|(dsimp only; omega)) (by first|assumption|omega|exact And.left (by assumption)|(dsimp only; omega)) (by first|assumption|omega|exact And.left (by assumption)|(dsimp only; omega))) fun _ _=>?_
  | split
  | exact True.intro
  | omega
theorem L19x4 (x:List Z1l) (h:∀ l∈x,Z79 l) (hl:x.length≤140737488355328):Ok (Z07 (Zg9 x) Z09 0) (fun _=>True):=by
 refine li (x.length) (fun t _ _=>?_) (by omega) (by omega) (by omega)
 unfold Zg9
 repeat' first
  | with_reducible refine ni ?_ ?_
  | with_reducible refine di ?_
  | with_reducible refine brD (fun _=>?_) fun _=>?_
  | with_reducible refine brN (fun _=>?_) fun _=>?_
  | with_reducible refine bd gr fun _ _=>?_
  | with_reducible refine bd wr fun _ _=>?_
  | with_reducible refine bd (Y2l _ _ (by exact h _ (by assumption))) fun _ _=>?_
  | exact True.intro
  | omega
theorem L19x5 (x:List Z1l) (h:∀ l∈x,Z79 l) (hl:x.length≤140737488355328):Ok (Z07 (Zil x) Z09 0) (fun _=>True):=by
 refine li (x.length) (fun t _ _=>?_) (by omega) (by omega) (by omega)
 unfold Zil
 repeat' first
  | with_reducible refine ni ?_ ?_
  | with_reducible refine di ?_
  | with_reducible refine brD (fun _=>?_) fun _=>?_
  | with_reducible refine br (fun _=>?_) fun _=>?_
  | with_reducible refine bd gr fun _ _=>?_
  | with_reducible refine bd wr fun _ _=>?_
  | with_reducible refine bd (Zz5 _ (by exact (h _ (by assumption)).stoL)) fun _ _=>?_
  | exact True.intro
  | omega
theorem Y1x (x:List Z1l) (h:∀ l∈x,Z79 l) (hl:x.length≤140737488355328):Ok (Zjq x) (fun e=>e=0→x.length≤8):=by
 unfold Zjq
 repeat' first
  | unfold j28x1
  | with_reducible refine brD (fun _=>?_) fun _=>?_
  | with_reducible refine bd (L19x1 _ (by first|assumption|omega|exact And.left (by assumption)|(dsimp only; omega)) (by first|assumption|omega|exact And.left (by assumption)|(dsimp only; omega))) fun _ _=>?_
  | with_reducible refine bd (L19x2 _ (by first|assumption|omega|exact And.left (by assumption)|(dsimp only; omega)) (by first|assumption|omega|exact And.left (by assumption)|(dsimp only; omega))) fun _ _=>?_
  | with_reducible refine bd (L19x4 _ (by first|assumption|omega|exact And.left (by assumption)|(dsimp only; omega)) (by first|assumption|omega|exact And.left (by assumption)|(dsimp only; omega))) fun _ _=>?_
  | with_reducible refine bd (L19x5 _ (by first|assumption|omega|exact And.left (by assumption)|(dsimp only; omega)) (by first|assumption|omega|exact And.left (by assumption)|(dsimp only; omega))) fun _ _=>?_
  | with_reducible refine ok ?_
  | split
  | omega
theorem L21x1 (v:Z2w) (w:Z0c) (i:Int) (h:Z55 w) (h0:0≤i) (h1:i<w.Z2n.length):Ok (Z07 (Zfx v w i) Z09 0) (fun _=>True):=by
 have:=h.iniL
 refine li (i) (fun t _ _=>?_) (by omega) (by omega) (by omega)
 unfold Zfx
 repeat' first
  | with_reducible refine ni ?_ ?_
  | with_reducible refine di ?_
  | with_reducible refine brD (fun _=>?_) fun _=>?_
  | with_reducible refine br (fun _=>?_) fun _=>?_
  | with_reducible refine bd gr fun _ _=>?_
  | with_reducible refine bd wr fun _ _=>?_
  | exact True.intro
  | omega
def Z7n (w:Z0c) (v:Z2w):Prop:=0≤v.Z2v∧v.Z2v<w.Z1y.length∧0≤v.Z0p∧v.Z0p<w.Z0n.length
def Z81 (w:Z0c) (b:Z51):Prop:=0≤b.f_A∧b.f_A<w.Z1y.length∧0≤b.f_B∧b.f_B<w.Z1y.length
theorem Y2u (w:Z0c) (i:Int) (h:Z55 w) (h0:0≤i) (h1:i<w.Z2n.length):Ok (Zim w i) (fun b=>b=true→∀ v,w.Z2n[i.toNat]?=some v→Z7n w v):=by
 have:=h.iniL
 unfold Zim
 repeat' first
  | with_reducible refine bd gri fun _ _=>?_
  | unfold j30x1
  | with_reducible refine brD (fun _=>?_) fun _=>?_
  | with_reducible refine bd (L21x1 _ _ _ (by first|assumption|omega|exact And.left (by assumption)|(dsimp only; omega)) (by first|assumption|omega|exact And.left (by assumption)|(dsimp only; omega)) (by first|assumption|omega|exact And.left (by assumption)|(dsimp only; omega))) fun _ _=>?_
  | with_reducible refine ok ?_
  | split
  | ((intro hb v hv; first|(cases hb; done)|(have e:∀ a,w.Z2n[i.toNat]?=some a→a=v:=fun a ha=>by { rw [hv] at ha; cases ha; rfl }; have:=e _ (And.right (by assumption)); subst this; exact ⟨by omega,by omega,by omega,by omega⟩)))
theorem L35x2 (w:Z0c) (s:List UInt8) (l0:List Bool) (h:Z55 w) (hl:w.Z1y.length≤8) (hc:∀ b∈w.Z48,Z81 w b) (h0:l0.length=w.Z1y.length):Ok (Z07 (Zg6 w s) Z09 (0,l0)) (fun r=>r.length=w.Z1y.length):=by
 have:=h.conL
 refine lp (fun t=>t.1) (w.Z48.length) (fun t=>t.2.length=w.Z1y.length) (fun t hI _ _=>?_) (by omega) (by exact h0) (by omega) (by omega)
 try dsimp only at*
 unfold Zg6
 repeat' first
  | with_reducible refine bd (ik (by have:=hc _ (by assumption); unfold Z81 at this; omega) (by have:=hc _ (by assumption); unfold Z81 at this; first|omega|(simp only [List.length_set]; omega))) fun _ _=>?_
  | with_reducible refine nx ?_ ?_ ?_
  | with_reducible refine dn ?_
  | unfold Zgd
  | with_reducible refine brD (fun _=>?_) fun _=>?_
  | with_reducible refine br (fun _=>?_) fun _=>?_
  | with_reducible refine bd gr fun _ _=>?_
  | with_reducible refine bd (la (by first|omega|(simp only [List.length_set,List.length_append,List.length_cons,List.length_nil,List.length_replicate]; omega))) fun _ _=>?_
  | with_reducible refine bd wr fun _ _=>?_
  | assumption
  | (simp only [List.length_set,List.length_append,List.length_cons,List.length_nil,List.length_replicate]; omega)
theorem L35x1 (w:Z0c) (s:List UInt8) (l0:List Bool) (h:Z55 w) (hl:w.Z1y.length≤8) (hc:∀ b∈w.Z48,Z81 w b) (h0:l0.length=w.Z1y.length):Ok (Z07 (Zke w s) Z09 (0,l0)) (fun r=>r.length=w.Z1y.length):=by
 refine lp (fun t=>t.1) (w.Z1y.length) (fun t=>t.2.length=w.Z1y.length) (fun t hI _ _=>?_) (by omega) (by exact h0) (by omega) (by omega)
 try dsimp only at*
 unfold Zke
 repeat' first
  | with_reducible refine nx ?_ ?_ ?_
  | with_reducible refine dn ?_
  | with_reducible refine brD (fun _=>?_) fun _=>?_
  | with_reducible refine bd wr fun _ _=>?_
  | with_reducible refine bd (L35x2 _ _ _ (by first|assumption|omega|exact And.left (by assumption)|(dsimp only; omega)) (by first|assumption|omega|exact And.left (by assumption)|(dsimp only; omega)) (by first|assumption|omega|exact And.left (by assumption)|(dsimp only; omega)) (by first|assumption|omega|exact And.left (by assumption)|(dsimp only; omega))) fun _ _=>?_
  | omega
theorem Zzf (w:Z0c) (s:List UInt8) (k:Int) (h:Z55 w) (hl:w.Z1y.length≤8) (hc:∀ b∈w.Z48,Z81 w b) (h0:0≤k) (h1:k<w.Z1y.length):Ok (Zkq w s k) (fun r=>r.length=w.Z1y.length):=by
 unfold Zkq
 repeat' first
  | with_reducible refine bd (ik (by omega) (by first|omega|(simp only [List.length_set,List.length_append,List.length_cons,List.length_nil,List.length_replicate]; omega))) fun _ _=>?_
  | with_reducible refine bd (la (by first|omega|(simp only [List.length_set,List.length_append,List.length_cons,List.length_nil,List.length_replicate]; omega))) fun _ _=>?_
  | with_reducible refine bd (mk (by omega) (by omega) (by omega) (by omega)) fun _ _=>?_
  | with_reducible refine bd (L35x1 _ _ _ (by first|assumption|(simp only [List.length_set,List.length_replicate]; omega)) (by first|assumption|(simp only [List.length_set,List.length_replicate]; omega)) (by first|assumption|(simp only [List.length_set,List.length_replicate]; omega)) (by first|assumption|(simp only [List.length_set,List.length_replicate]; omega))) fun _ _=>?_
  | with_reducible refine ok ?_
  | assumption
theorem L22x1 (v:Z2w) (g:List Bool) (w:Z0c) (i:Int) (h:Z55 w) (h0:0≤i) (h1:i<w.Z2n.length) (hg:g.length=w.Z1y.length) (hs:∀ (j:Nat) v,j<i→w.Z2n[j]?=some v→Z7n w v):Ok (Z07 (Zip v g w i) Z09 0) (fun _=>True):=by
 have:=h.iniL
 refine li (i) (fun t _ _=>?_) (by omega) (by omega) (by omega)
 unfold Zip
 repeat' first
  | with_reducible refine bd gri fun _ _=>?_
  | with_reducible refine bd (gr (by have:=hs t.toNat _ (by omega) (And.right (by assumption)); unfold Z7n at this; omega) (by have:=hs t.toNat _ (by omega) (And.right (by assumption)); unfold Z7n at this; omega)) fun _ _=>?_
  | with_reducible refine ni ?_ ?_
  | with_reducible refine di ?_
  | with_reducible refine brD (fun _=>?_) fun _=>?_
  | with_reducible refine br (fun _=>?_) fun _=>?_
  | with_reducible refine bd wr fun _ _=>?_
  | exact True.intro
  | omega
theorem Y43 (w:Z0c) (i:Int) (h:Z55 w) (hl:w.Z1y.length≤8) (hc:∀ b∈w.Z48,Z81 w b) (h0:0≤i) (h1:i<w.Z2n.length) (hs:∀ (j:Nat) v,j≤i→w.Z2n[j]?=some v→Z7n w v):Ok (Zjn w i) (fun _=>True):=by
 have:=h.iniL
 unfold Zjn
 repeat' first
  | with_reducible refine bd gri fun _ _=>?_
  | with_reducible refine bd (Zzf _ _ _ h hl hc (by have:=hs i.toNat _ (by omega) (And.right (by assumption)); unfold Z7n at this; omega) (by have:=hs i.toNat _ (by omega) (And.right (by assumption)); unfold Z7n at this; omega)) fun _ _=>?_
  | with_reducible refine bd (L22x1 _ _ _ _ h h0 h1 (by assumption) (fun j v hj hv=>hs j v (by omega) hv)) fun _ _=>?_
  | with_reducible refine ok ?_
  | split
  | assumption
theorem L53x1 (x:List Z0h) (hl:x.length≤140737488355328):Ok (Z07 (Zhv x) Z09 0) (fun _=>True):=by
 refine li (x.length) (fun t _ _=>?_) (by omega) (by omega) (by omega)
 unfold Zhv
 repeat' first
  | with_reducible refine ni ?_ ?_
  | with_reducible refine di ?_
  | with_reducible refine brD (fun _=>?_) fun _=>?_
  | with_reducible refine brN (fun _=>?_) fun _=>?_
  | with_reducible refine bd gr fun _ _=>?_
  | with_reducible refine bd wr fun _ _=>?_
  | exact True.intro
  | omega
theorem Zyj (x:List Z0h) (hl:x.length≤140737488355328):Ok (Zen x) (fun _=>True):=by
 unfold Zen
 repeat' first
  | with_reducible refine bd (L53x1 _ (by first|assumption|omega|exact And.left (by assumption)|(dsimp only; omega))) fun _ _=>?_
  | with_reducible refine ok ?_
  | split
  | assumption
theorem L47x1 (u:Z0l) (h:Z5a u):Ok (Z07 (Zh8 u) Z09 0) (fun _=>True):=by
 have:=h.fldL
 refine li (u.Z0g.length) (fun t _ _=>?_) (by omega) (by omega) (by omega)
 unfold Zh8
 repeat' first
  | with_reducible refine ni ?_ ?_
  | with_reducible refine di ?_
  | unfold Zgr
  | with_reducible refine brD (fun _=>?_) fun _=>?_
  | with_reducible refine br! (fun _=>?_) fun _=>?_
  | with_reducible refine brE (fun _=>?_) fun _=>?_
  | with_reducible refine brN (fun _=>?_) fun _=>?_
  | with_reducible refine bd gr fun _ _=>?_
  | with_reducible refine bd wr fun _ _=>?_
  | exact True.intro
  | omega
theorem L47x3 (m:Z2m) (h:Za1 m):Ok (Z07 (Zhm m) Z09 0) (fun _=>True):=by
 have:=h.code.hndL
 refine li (m.Z25.Z1w.length) (fun t _ _=>?_) (by omega) (by omega) (by omega)
 unfold Zhm
 repeat' first
  | with_reducible refine ni ?_ ?_
  | with_reducible refine di ?_
  | with_reducible refine brD (fun _=>?_) fun _=>?_
  | with_reducible refine brN (fun _=>?_) fun _=>?_
  | with_reducible refine bd gr fun _ _=>?_
  | with_reducible refine bd wr fun _ _=>?_
  | exact True.intro
  | omega
theorem L47x4 (m:Z2m) (h:Za1 m):Ok (Z07 (Zh4 m) Z09 0) (fun _=>True):=by
 have:=h.code.mapL
 refine li (m.Z25.Z1f.length) (fun t _ _=>?_) (by omega) (by omega) (by omega)
 unfold Zh4
 repeat' first
  | with_reducible refine bd (Zyj _ (by have:=(h.code.map _ (by assumption)).locL; omega)) fun _ _=>?_
  | with_reducible refine bd (Zyj _ (by have:=(h.code.map _ (by assumption)).stkL; omega)) fun _ _=>?_
  | with_reducible refine ni ?_ ?_
  | with_reducible refine di ?_
  | with_reducible refine brD (fun _=>?_) fun _=>?_
  | with_reducible refine br! (fun _=>?_) fun _=>?_
  | with_reducible refine bd gr fun _ _=>?_
  | with_reducible refine bd wr fun _ _=>?_
  | exact True.intro
  | omega
theorem L47x2 (u:Z0l) (h:Z5a u):Ok (Z07 (Zjz u) Z09 0) (fun _=>True):=by
 have:=h.metL
 refine li (u.Z11.length) (fun t _ _=>?_) (by omega) (by omega) (by omega)
 unfold Zjz
 repeat' first
  | with_reducible refine ni ?_ ?_
  | with_reducible refine di ?_
  | unfold Zjp
  | with_reducible refine brD (fun _=>?_) fun _=>?_
  | with_reducible refine bd gr fun _ _=>?_
  | with_reducible refine bd wr fun _ _=>?_
  | with_reducible refine bd (L47x3 _ (by exact h.met _ (by assumption))) fun _ _=>?_
  | with_reducible refine bd (L47x4 _ (by exact h.met _ (by assumption))) fun _ _=>?_
  | with_reducible refine bs ?_
  | split
  | exact True.intro
  | omega
theorem Y32 (u:Z0l) (h:Z5a u):Ok (Zhh u) (fun _=>True):=by
 unfold Zhh
 repeat' first
  | with_reducible refine bd (L47x1 _ (by first|assumption|omega|exact And.left (by assumption)|(dsimp only; omega))) fun _ _=>?_
  | with_reducible refine bd (L47x2 _ (by first|assumption|omega|exact And.left (by assumption)|(dsimp only; omega))) fun _ _=>?_
  | with_reducible refine ok ?_
  | split
  | assumption
end Go.Proofs
set_option linter.unusedVariables false
namespace Go.Proofs
open Go.Den Go.Tot
structure Z13 (p:List Z00):Prop where
 len:p.length≤1000
 ord:∀ (k:Nat) c,p[k]?=some c→c.f_A≤k∧c.f_B≤k
 str:∀ c∈p,Str c.f_S
theorem Z13.app {p:List Z00} {c:Z00} (h:Z13 p) (hl:p.length<1000) (ha:c.f_A≤p.length) (hb:c.f_B≤p.length) (hs:Str c.f_S):Z13 (([]++p)++[c]):=by
 refine ⟨by simp; omega,fun k d hd=>?_,fun d hd=>?_⟩
 ·rw [List.nil_append] at hd
  rcases Nat.lt_trichotomy k p.length with h1|h1|h1
  ·rw [List.getElem?_append_left h1] at hd; exact h.ord k d hd
  ·subst h1
   rw [List.getElem?_append_right (Nat.le_refl _),Nat.sub_self] at hd
   cases hd; exact ⟨ha,hb⟩
  ·rw [List.getElem?_eq_none (by simp; omega)] at hd; cases hd
 ·rw [List.nil_append] at hd
  rcases List.mem_append.1 hd with hd|hd
  ·exact h.str d hd
  ·rw [List.mem_singleton.1 hd]; exact hs
theorem Z13.nil:Z13 [] :=⟨by simp,fun k c h=>by simp at h,fun c h=>by simp at h⟩
abbrev PR (p:List Z00) (r:List Z00×Int×Int):Prop:=Z13 r.1∧p.length≤r.1.length∧0≤r.2.1∧r.2.1≤r.1.length∧r.1.length≤1000
theorem Z63 {α:Type} {P:α→Prop} {l:List α} {x:α} (h:∀ v∈l,P v) (hx:P x):∀ v∈l++[x],P v:=fun v hv=>by
 rcases List.mem_append.1 hv with hv|hv
 ·exact h v hv
 ·rw [List.mem_singleton.1 hv]; exact hx
theorem Z3z {α:Type} {P:α→Prop}:∀ v∈([]:List α),P v:=fun v hv=>by simp at hv
theorem W0 {op a:Int}:Z2l { f_Op:=op,f_A:=a,f_B:=0,f_To:=0,Z0t:=[],Z0b:=[],Z1c:={ Z0p:=[],Z0f:=[],Z1p:=[] },f_S:=[] }:=⟨by simp,by simp,⟨by simp,by simp,by simp⟩,by simp⟩
theorem L77x1 (p:List Z00) (c:Z00) (hp:Z13 p):Ok (Z07 (Zdv p c) Z09 0) (fun q=>match q with|.inl _=>True|.inr y=>PR p y):=by
 have:=hp.len
 refine li (p.length) (fun t _ _=>?_) (by omega) (by omega) (by omega)
 unfold Zdv
 repeat' first
  | with_reducible refine ni ?_ ?_
  | with_reducible refine di ?_
  | with_reducible refine brD (fun _=>?_) fun _=>?_
  | with_reducible refine br (fun _=>?_) fun _=>?_
  | with_reducible refine bd gr fun _ _=>?_
  | with_reducible refine bd wr fun _ _=>?_
  | with_reducible refine And.intro ?_ ?_
  | exact True.intro
  | omega
  | (dsimp only; omega)
theorem Zdj (p:List Z00) (c:Z00) (hp:Z13 p) (ha:c.f_A≤p.length) (hb:c.f_B≤p.length) (hs:Str c.f_S):Ok (Z5z p c) (PR p):=by
 have:=hp.len
 unfold Z5z
 repeat' first
  | with_reducible refine brD (fun _=>?_) fun _=>?_
  | with_reducible refine bd wr fun _ _=>?_
  | with_reducible refine bd gk fun _ _=>?_
  | with_reducible refine bd (L77x1 _ _ (by first|assumption|omega|exact And.left (by assumption)|(dsimp only; omega))) fun _ _=>?_
  | with_reducible refine ok ?_
  | split
  | (first|exact ⟨hp.app (by omega) ha hb hs,by simp,by dsimp only; omega,by simp; omega,by simp; omega⟩|exact ⟨hp,by dsimp only; omega,by dsimp only; omega,by dsimp only; omega,by dsimp only; omega⟩|(dsimp only at *; assumption))
theorem Zdn (p:List Z00) (s:List UInt8) (hp:Z13 p) (hs:Str s):Ok (Z6i p s) (PR p):=by
 have:=hp.len
 unfold Z6i
 repeat' first
  | with_reducible refine bd (Zdj _ _ (by first|assumption|omega|(dsimp only; omega)|exact And.left (by assumption)|(simp; done)) (by first|assumption|omega|(dsimp only; omega)|exact And.left (by assumption)|(simp; done)) (by first|assumption|omega|(dsimp only; omega)|exact And.left (by assumption)|(simp; done)) (by first|assumption|omega|(dsimp only; omega)|exact And.left (by assumption)|(simp; done))) fun _ _=>?_
  | with_reducible refine ok ?_
  | (first|exact ⟨by first|exact hp|exact And.left (by assumption),by dsimp only; omega,by dsimp only; omega,by dsimp only; omega,by dsimp only; omega⟩|exact ⟨hp,by dsimp only; omega,by dsimp only; omega,by dsimp only; omega,by dsimp only; omega⟩)
theorem Zu2 (p:List Z00) (tag:Int) (s:List UInt8) (hp:Z13 p) (hs:Str s):Ok (Za5 p tag s) (PR p):=by
 have:=hp.len
 unfold Za5
 repeat' first
  | with_reducible refine brN (fun _=>?_) fun _=>?_
  | with_reducible refine bd (Zdn _ _ (by first|assumption|omega|exact And.left (by assumption)|(dsimp only; omega)) (by first|assumption|omega|exact And.left (by assumption)|(dsimp only; omega))) fun _ _=>?_
  | with_reducible refine bd (Zdj _ _ (by first|assumption|omega|(dsimp only; omega)|exact And.left (by assumption)|(simp; done)) (by first|assumption|omega|(dsimp only; omega)|exact And.left (by assumption)|(simp; done)) (by first|assumption|omega|(dsimp only; omega)|exact And.left (by assumption)|(simp; done)) (by first|assumption|omega|(dsimp only; omega)|exact And.left (by assumption)|(simp; done))) fun _ _=>?_
  | with_reducible refine ok ?_
  | (first|exact ⟨by first|exact hp|exact And.left (by assumption),by dsimp only; omega,by dsimp only; omega,by dsimp only; omega,by dsimp only; omega⟩|exact ⟨hp,by dsimp only; omega,by dsimp only; omega,by dsimp only; omega,by dsimp only; omega⟩)
theorem Zmc (p:List Z00) (s:List UInt8) (hp:Z13 p) (hs:Str s):Ok (Z9a p s) (PR p):=by
 have:=hp.len
 unfold Z9a
 repeat' first
  | with_reducible refine bd (Zu2 _ _ _ (by first|assumption|omega|exact And.left (by assumption)|(dsimp only; omega)) (by first|assumption|omega|exact And.left (by assumption)|(dsimp only; omega))) fun _ _=>?_
  | with_reducible refine ok ?_
  | (first|exact ⟨by first|exact hp|exact And.left (by assumption),by dsimp only; omega,by dsimp only; omega,by dsimp only; omega,by dsimp only; omega⟩|exact ⟨hp,by dsimp only; omega,by dsimp only; omega,by dsimp only; omega,by dsimp only; omega⟩)
theorem Zss (p:List Z00) (s:List UInt8) (hp:Z13 p) (hs:Str s):Ok (Zae p s) (PR p):=by
 have:=hp.len
 unfold Zae
 repeat' first
  | with_reducible refine bd (Zu2 _ _ _ (by first|assumption|omega|exact And.left (by assumption)|(dsimp only; omega)) (by first|assumption|omega|exact And.left (by assumption)|(dsimp only; omega))) fun _ _=>?_
  | with_reducible refine ok ?_
  | (first|exact ⟨by first|exact hp|exact And.left (by assumption),by dsimp only; omega,by dsimp only; omega,by dsimp only; omega,by dsimp only; omega⟩|exact ⟨hp,by dsimp only; omega,by dsimp only; omega,by dsimp only; omega,by dsimp only; omega⟩)
theorem Zfa (x:Z0i) (s:List UInt8) (hp:Z13 x.f_P) (hs:Str s):Ok (Z6q x s) (fun r=>Z13 r.1.f_P):=by
 unfold Z6q
 repeat' first
  | with_reducible refine brN (fun _=>?_) fun _=>?_
  | with_reducible refine bd (Zmc _ _ (by first|assumption|omega|exact And.left (by assumption)|(dsimp only; omega)) (by first|assumption|omega|exact And.left (by assumption)|(dsimp only; omega))) fun _ _=>?_
  | with_reducible refine ok ?_
  | (exact And.left (by assumption))
  | assumption
theorem Z78 (x:Z0i) (s:List UInt8) (hp:Z13 x.f_P) (hs:Str s):Ok (Z53 x s) (fun r=>Z13 r.1.f_P):=by
 unfold Z53
 repeat' first
  | with_reducible refine brN (fun _=>?_) fun _=>?_
  | with_reducible refine bd (Zdn _ _ (by first|assumption|omega|exact And.left (by assumption)|(dsimp only; omega)) (by first|assumption|omega|exact And.left (by assumption)|(dsimp only; omega))) fun _ _=>?_
  | with_reducible refine ok ?_
  | (exact And.left (by assumption))
  | assumption
theorem Zzr (x:Z0i) (f:Z1b) (hp:Z13 x.f_P) (hf:Zo3 f):Ok (Zcl x f) (fun r=>Z13 r.1.f_P):=by
 unfold Zcl
 repeat' first
  | unfold Zeu
  | with_reducible refine brE (fun _=>?_) fun _=>?_
  | with_reducible refine brN (fun _=>?_) fun _=>?_
  | with_reducible refine bd (Zss _ _ (by first|exact hf.s|assumption) (by first|exact hf.s|assumption)) fun _ _=>?_
  | with_reducible refine bd (Zdj _ _ (by first|assumption|omega|(dsimp only; omega)|exact And.left (by assumption)|(simp; done)) (by first|assumption|omega|(dsimp only; omega)|exact And.left (by assumption)|(simp; done)) (by first|assumption|omega|(dsimp only; omega)|exact And.left (by assumption)|(simp; done)) (by first|assumption|omega|(dsimp only; omega)|exact And.left (by assumption)|(simp; done))) fun _ _=>?_
  | with_reducible refine ok ?_
  | (exact And.left (by assumption))
  | assumption
theorem Y2q (p:List Z00) (tag:Int) (r:Z22) (hp:Z13 p) (hr:WRef r):Ok (Z91 p tag r) (PR p):=by
 have:=hp.len
 unfold Z91
 repeat' first
  | with_reducible refine bd (Zdn _ _ (And.left (by assumption)) hr.n) fun _ _=>?_
  | with_reducible refine bd (Zdn _ _ (And.left (by assumption)) hr.d) fun _ _=>?_
  | with_reducible refine brN (fun _=>?_) fun _=>?_
  | with_reducible refine bd (Zmc _ _ (by first|exact hr.c|assumption) (by first|exact hr.c|assumption)) fun _ _=>?_
  | with_reducible refine bd (Zdj _ _ (by first|assumption|omega|(dsimp only; omega)|exact And.left (by assumption)|(simp; done)) (by first|assumption|omega|(dsimp only; omega)|exact And.left (by assumption)|(simp; done)) (by first|assumption|omega|(dsimp only; omega)|exact And.left (by assumption)|(simp; done)) (by first|assumption|omega|(dsimp only; omega)|exact And.left (by assumption)|(simp; done))) fun _ _=>?_
  | with_reducible refine ok ?_
  | (first|exact ⟨by first|exact hp|exact And.left (by assumption),by dsimp only; omega,by dsimp only; omega,by dsimp only; omega,by dsimp only; omega⟩|exact ⟨hp,by dsimp only; omega,by dsimp only; omega,by dsimp only; omega,by dsimp only; omega⟩)
theorem Zsf (x:Int):Ok (Z9t x) (fun _=>True):=by
 unfold Z9t
 repeat' with_reducible first
  | refine brD (fun _=>?_) fun _=>?_
  | refine ok ?_
  | exact True.intro
theorem Ztd (x a b:Int):Ok (Z6j x a b) (fun _=>True):=by
 unfold Z6j
 repeat' with_reducible first
  | refine brD (fun _=>?_) fun _=>?_
  | refine ok ?_
  | exact True.intro
theorem Zvc (x:Int):Ok (Zcr x) (fun _=>True):=by
 unfold Zcr
 repeat' with_reducible first
  | refine brD (fun _=>?_) fun _=>?_
  | refine ok ?_
  | exact True.intro
theorem Y1y (x:Int):Ok (Zk6 x) (fun _=>True):=by
 unfold Zk6
 repeat' with_reducible first
  | refine brD (fun _=>?_) fun _=>?_
  | refine ok ?_
  | exact True.intro
theorem Zyq (x:Int):Ok (Zdd x) (fun _=>True):=by
 unfold Zdd
 repeat' with_reducible first
  | refine brE (fun _=>?_) fun _=>?_
  | refine ok ?_
  | exact True.intro
theorem Zp2 (x:Int):Ok (Zej x) (fun _=>True):=by
 unfold Zej
 repeat' with_reducible first
  | refine brD (fun _=>?_) fun _=>?_
  | refine ok ?_
  | exact True.intro
theorem Zwl (x:Int):Ok (Z6f x) (fun _=>True):=by
 unfold Z6f
 repeat' first
  | unfold Zk4
  | unfold Zhj
  | with_reducible refine br (fun _=>?_) fun _=>?_
  | with_reducible refine bd (Zsf _) fun _ _=>?_
  | with_reducible refine bd (Ztd _ _ _) fun _ _=>?_
  | with_reducible refine ok ?_
  | assumption
theorem Zzh (x:Z01) (k:Int):Ok (Zck x k) (fun _=>True):=by
 unfold Zck
 repeat' with_reducible first
  | unfold Zku
  | unfold Zdw
  | unfold Zfi
  | refine br! (fun _=>?_) fun _=>?_
  | refine brE (fun _=>?_) fun _=>?_
  | refine brN (fun _=>?_) fun _=>?_
  | refine ok ?_
  | exact True.intro
theorem L114x1 (x:Z01) (hx:Z2l x):Ok (Z07 (Zc2 x) Z09 0) (fun _=>True):=by
 have:=hx.tos
 refine li (x.Z0b.length) (fun t _ _=>?_) (by omega) (by omega) (by omega)
 unfold Zc2
 repeat' first
  | with_reducible refine ni ?_ ?_
  | with_reducible refine di ?_
  | with_reducible refine brD (fun _=>?_) fun _=>?_
  | with_reducible refine bd gr fun _ _=>?_
  | with_reducible refine bd wr fun _ _=>?_
  | exact True.intro
  | omega
theorem Y2b (x:Z01) (hx:Z2l x):Ok (Z7p x) (fun _=>True):=by
 unfold Z7p
 repeat' with_reducible first
  | unfold Zgq
  | refine bd (L114x1 _ (by first|assumption|omega|exact And.left (by assumption)|(dsimp only; omega))) fun _ _=>?_
  | refine ok ?_
  | split
  | exact True.intro
theorem Zu1 (x:Z01) (hx:Z2l x):Ok (Z07 (Zgt x) Z09 0) (fun _=>True):=by
 have:=hx.keys
 refine li (x.Z0t.length) (fun t _ _=>?_) (by omega) (by omega) (by omega)
 unfold Zgt
 repeat' first
  | with_reducible refine ni ?_ ?_
  | with_reducible refine di ?_
  | with_reducible refine brD (fun _=>?_) fun _=>?_
  | with_reducible refine br! (fun _=>?_) fun _=>?_
  | with_reducible refine bd gr fun _ _=>?_
  | with_reducible refine bd wr fun _ _=>?_
  | with_reducible refine bd (Zp2 _) fun _ _=>?_
  | exact True.intro
  | omega
theorem Zu3 (x:Z01) (hx:Z2l x):Ok (Z07 (Zh3 x) Z09 1) (fun _=>True):=by
 have:=hx.keys
 refine lp (fun t=>t) (max 1 x.Z0t.length) (fun t=>1≤t) (fun t hI _ _=>?_) (by omega) (by omega) (by omega) (by omega)
 unfold Zh3
 repeat' first
  | with_reducible refine nx ?_ ?_ ?_
  | with_reducible refine dn ?_
  | with_reducible refine brD (fun _=>?_) fun _=>?_
  | with_reducible refine bd gr fun _ _=>?_
  | with_reducible refine bd wr fun _ _=>?_
  | exact True.intro
  | omega
theorem Y0a (x:Z01) (hx:Z2l x):Ok (Zcj x) (fun _=>True):=by
 unfold Zcj
 repeat' with_reducible first
  | unfold Zkt
  | unfold Zih
  | refine brD (fun _=>?_) fun _=>?_
  | refine bd wr fun _ _=>?_
  | refine bd (Zp2 _) fun _ _=>?_
  | refine bd (Zu1 _ (by first|assumption|omega|exact And.left (by assumption)|(dsimp only; omega))) fun _ _=>?_
  | refine bd (Zu3 _ (by assumption)) fun _ _=>?_
  | refine ok ?_
  | split
  | exact True.intro
theorem Y03 (x:Z01) (hx:Z2l x):Ok (Z4w x) (fun _=>True):=by
 unfold Z4w
 repeat' first
  | unfold Z89
  | unfold Z9d
  | unfold Zb4
  | unfold Z8i
  | unfold Zc8
  | with_reducible refine brD (fun _=>?_) fun _=>?_
  | with_reducible refine br! (fun _=>?_) fun _=>?_
  | with_reducible refine brE (fun _=>?_) fun _=>?_
  | with_reducible refine bd (Zwl _) fun _ _=>?_
  | with_reducible refine bd (Zzh _ _) fun _ _=>?_
  | with_reducible refine bd (Y2b _ (by first|assumption|omega|exact And.left (by assumption)|(dsimp only; omega))) fun _ _=>?_
  | with_reducible refine bd (Y0a _ (by first|assumption|omega|exact And.left (by assumption)|(dsimp only; omega))) fun _ _=>?_
  | with_reducible refine ok ?_
  | assumption
theorem Y1a (x:Z01) (hx:Z2l x):Ok (Zg0 x) (fun _=>True):=by
 unfold Zg0
 repeat' with_reducible first
  | unfold Zm4
  | unfold Zga
  | unfold Zdy
  | refine br (fun _=>?_) fun _=>?_
  | refine bd (Zvc _) fun _ _=>?_
  | refine bd (Y1y _) fun _ _=>?_
  | refine bd (Zyq _) fun _ _=>?_
  | refine bs ?_
  | refine ok ?_
  | exact True.intro
theorem Ztw (x:Int):Ok (Ze3 x) (fun l=>l.length≤3):=by
 unfold Ze3
 repeat' first
  | unfold Zoa
  | unfold Zlj
  | unfold Zp3
  | unfold Zoc
  | with_reducible refine br (fun _=>?_) fun _=>?_
  | with_reducible refine bd (Ztd _ _ _) fun _ _=>?_
  | with_reducible refine ok ?_
  | (first|(simp; done)|decide)
theorem L158x1 (l:List Int) (x:Int) (hl:l.length≤140737488355328):Ok (Z07 (Zh1 l x) Z09 0) (fun _=>True):=by
 refine li (l.length) (fun t _ _=>?_) (by omega) (by omega) (by omega)
 unfold Zh1
 repeat' first
  | with_reducible refine ni ?_ ?_
  | with_reducible refine di ?_
  | with_reducible refine brD (fun _=>?_) fun _=>?_
  | with_reducible refine brE (fun _=>?_) fun _=>?_
  | with_reducible refine bd gr fun _ _=>?_
  | with_reducible refine bd wr fun _ _=>?_
  | exact True.intro
  | omega
theorem Y3x (l:List Int) (x:Int) (hl:l.length≤140737488355328):Ok (Zjb l x) (fun _=>True):=by
 unfold Zjb
 repeat' first
  | with_reducible refine bd (L158x1 _ _ (by first|assumption|omega|exact And.left (by assumption)|(dsimp only; omega))) fun _ _=>?_
  | with_reducible refine ok ?_
  | split
  | assumption
theorem Y36 (p:List Z00) (x:Z01) (hp:Z13 p) (hx:Z2l x):Ok (Zb1 p x) (PR p):=by
 have:=hp.len
 unfold Zb1
 repeat' first
  | unfold Zjc
  | unfold Zcz
  | unfold Ze9
  | unfold Zi4
  | with_reducible refine br (fun _=>?_) fun _=>?_
  | with_reducible refine bd (Zss _ _ (by first|exact hx.s|assumption) (by first|exact hx.s|assumption)) fun _ _=>?_
  | with_reducible refine bd (Zdj _ _ (by first|assumption|omega|(dsimp only; omega)|exact And.left (by assumption)|(simp; done)) (by first|assumption|omega|(dsimp only; omega)|exact And.left (by assumption)|(simp; done)) (by first|assumption|omega|(dsimp only; omega)|exact And.left (by assumption)|(simp; done)) (by first|assumption|omega|(dsimp only; omega)|exact And.left (by assumption)|(simp; done))) fun _ _=>?_
  | with_reducible refine bd (Zyq _) fun _ _=>?_
  | with_reducible refine bd (Zmc _ _ (by first|exact hx.ref.c|assumption) (by first|exact hx.ref.c|assumption)) fun _ _=>?_
  | with_reducible refine bd (Zdn _ _ (by first|exact hx.s|assumption) (by first|exact hx.s|assumption)) fun _ _=>?_
  | with_reducible refine bd (Zvc _) fun _ _=>?_
  | with_reducible refine bd (Y2q _ _ _ (by first|exact hx.ref|assumption) (by first|exact hx.ref|assumption)) fun _ _=>?_
  | with_reducible refine ok ?_
  | (first|exact ⟨by first|exact hp|exact And.left (by assumption),by dsimp only; omega,by dsimp only; omega,by dsimp only; omega,by dsimp only; omega⟩|exact ⟨hp,by dsimp only; omega,by dsimp only; omega,by dsimp only; omega,by dsimp only; omega⟩)
theorem Y0d (p:List Z00) (x:Z01) (hp:Z13 p) (hx:Z2l x):Ok (Zbc p x) (fun r=>Z13 r.1∧Z2l r.2.1):=by
 unfold Zbc
 repeat' first
  | unfold Ze4
  | unfold Zbw
  | with_reducible refine br! (fun _=>?_) fun _=>?_
  | with_reducible refine brE (fun _=>?_) fun _=>?_
  | with_reducible refine brN (fun _=>?_) fun _=>?_
  | with_reducible refine bd (Zsf _) fun _ _=>?_
  | with_reducible refine bd (Zwl _) fun _ _=>?_
  | with_reducible refine bd (Y03 _ (by first|assumption|omega|exact And.left (by assumption)|(dsimp only; omega))) fun _ _=>?_
  | with_reducible refine bd (Y1a _ (by first|assumption|omega|exact And.left (by assumption)|(dsimp only; omega))) fun _ _=>?_
  | with_reducible refine bd (Ztw _) fun _ _=>?_
  | with_reducible refine bd (Y3x _ _ (by first|assumption|omega|exact And.left (by assumption)|(dsimp only; omega))) fun _ _=>?_
  | with_reducible refine bd (Y36 _ _ (by first|assumption|omega|exact And.left (by assumption)|(dsimp only; omega)) (by first|assumption|omega|exact And.left (by assumption)|(dsimp only; omega))) fun _ _=>?_
  | with_reducible refine ok ?_
  | (first|exact ⟨hp,W0⟩|exact ⟨hp,hx⟩|exact ⟨And.left (by assumption),W0⟩)
theorem Y46 (x:Z0i) (i:Z01) (hp:Z13 x.f_P) (hx:Z2l i):Ok (Zax x i) (fun r=>Z13 r.1.f_P∧Z2l r.2):=by
 unfold Zax
 repeat' first
  | with_reducible refine brN (fun _=>?_) fun _=>?_
  | with_reducible refine bd (Y0d _ _ (by first|assumption|omega|exact And.left (by assumption)|(dsimp only; omega)) (by first|assumption|omega|exact And.left (by assumption)|(dsimp only; omega))) fun _ _=>?_
  | with_reducible refine ok ?_
  | (first|exact ⟨hp,W0⟩|(dsimp only; assumption))
end Go.Proofs
set_option linter.unusedVariables false
namespace Go.Proofs
open Go.Den Go.Tot
theorem Y00 (l:List Int):(bytesOf l).length=l.length:=by simp [bytesOf]
theorem Zs4 {n:Int} (hn:n=1∨n=2∨n=4):Zk9 n=some true:=by
 rcases hn with rfl|rfl|rfl <;> rfl
theorem L62x1 (x n k:Int) (l:List Int) (hk:k=n - 1) (h0:0≤n) (hl:(l.length:Int)=n) (hn:n≤8):Ok (Z07 Zjh Z09 (x,k,l)) (fun r=>(r.length:Int)=n):=by
 refine lp (fun t=>n - 1 - t.2.1) n (fun t=>(t.2.2.length:Int)=n) (fun t hI h0 h1=>?_) (by omega) hl
 unfold Zjh
 refine brD (fun hlt=>?_) fun hge=>dn hI
 refine bs (bs (bd ik fun j hj=>bd (la (by omega)) fun _ _=>?_))
 refine bd (P:=fun _=>True) ⟨_,by unfold shrK; rw [if_pos (by decide)],trivial⟩ fun _ _=>bd wr fun v hv=>nx ?_
 dsimp only
 rw [List.length_set]; exact hI
theorem Zeq (x n:Int) (hn:n=1∨n=2∨n=4):Ok (Z8l x n) (fun r=>(r.1.length:Int)≤n):=by
 have hj:Ok (Zf3 x n) (fun r=>(r.1.length:Int)≤n):=by
  unfold Zf3
  refine bd (mk (by omega) (by omega) (by omega) (by omega)) fun _ _=>bd wr fun k hk=>?_
  exact bd (L62x1 x n k _ hk (by omega) (by simp; omega) (by omega)) fun q hq=>ok (by dsimp only; rw [Y00]; omega)
 unfold Z8l
 rw [Zs4 hn]
 refine bs (br! (fun h=>by cases h) fun _=>brD (fun _=>?_) fun _=>hj)
 have hs:∀ y:Int,0≤y→Ok (Z6n .i64 1 y) (fun _=>True):=fun y hy=>⟨_,by unfold Z6n; rw [if_pos hy],trivial⟩
 refine bd wr fun _ _=>bd wr fun _ _=>bd (hs _ (by omega)) fun _ _=>bs (brD (fun _=>ok (by dsimp only; simp; omega)) fun _=>?_)
 exact bd wr fun _ _=>bd (hs _ (by omega)) fun _ _=>bs (brD (fun _=>ok (by dsimp only; simp; omega)) fun _=>hj)
theorem Zve (x:Int):Ok (Z88 x) (fun r=>r.length≤2):=bd (Zeq x 2 (.inr (.inl rfl))) fun v h=>ok (by omega)
theorem Z4j (x:Int):Ok (Z4a x) (fun r=>r.length≤2):=bd (Zeq x 2 (.inr (.inl rfl))) fun v h=>ok (by omega)
theorem Zmv (x:Int):Ok (Ze1 x) (fun r=>r.length≤1):=bd (Zeq x 1 (.inl rfl)) fun v h=>ok (by omega)
theorem Zz4 (x n:Int) (hn:n=1∨n=2∨n=4):Ok (Z4h x n) (fun r=>r.length≤4):=bd (Zeq x n hn) fun v h=>ok (by omega)
theorem Y14 (s:List UInt8) (a n:Int) (hn:n=1∨n=2∨n=4) (hl:Str s):Ok (Zj4 s a n) (fun e=>e=0→0≤a∧a+n≤s.length):=by
 unfold Zj4
 rw [Zs4 hn]
 refine bs (br! (fun h=>by cases h) fun _=>brD (fun _=>ok (by omega)) fun _=>brD (fun _=>ok (by omega)) fun _=>?_)
 unfold Zm3
 exact bd wr fun v hv=>brD (fun _=>ok (by omega)) fun _=>ok (by omega)
def Sg (n v:Int):Prop:=(n=1∧ -128≤v∧v<128)∨(n=2∧ -32768≤v∧v<32768)∨(n=3∧ -8388608≤v∧v<8388608)∨(n=4∧ -2147483648≤v∧v<2147483648)
theorem L134x1 (s : List UInt8) (a n p : Int) (hn:1≤n∧n≤4) (hl:Str s) (h0:0≤a) (h1:a+n≤s.length) (hp: -128≤p∧p<128):Ok (Z07 (Zis s a n) Z09 (p,1)) (Sg n):=by
 refine lp (fun t=>t.2) n (fun t=>Sg t.2 t.1) (fun t hI g0 g1=>?_) (by omega) (.inl ⟨rfl,hp⟩)
 unfold Zis
 unfold Sg at hI
 refine brD (fun hlt => ?_) fun hge => dn (by have:t.2=n:=by omega
                                              rw [← this]; exact hI)
 refine bd wr fun v9 e9=>bd wr fun v10 e10=>bd gs fun v11 e11=>bd wr fun v12 e12=>bd wr fun v13 e13=>bd wr fun v14 e14=>?_
 exact nx (by dsimp only; unfold Sg; omega)
theorem Zv4 (s:List UInt8) (a n:Int) (hn:n=1∨n=2∨n=4) (hl:Str s):Ok (Zeh s a n) (fun r=>(r.2=0→0≤a∧a+n≤s.length∧Sg n r.1)∧(r.2≠0→r.1=0)):=by
 unfold Zeh
 refine bd (Y14 s a n hn hl) fun v0 h0=>brN (fun h=>ok ⟨fun h'=>absurd h' h,fun _=>rfl⟩) fun h=>?_
 obtain ⟨k0,k1⟩:=h0 h
 refine bd gs fun v1 h1=>bd wr fun v2 h2=>?_
 have key:∀ p:Int,-128≤p→p<128→Ok (Zfd s a n p) (fun r=>(r.2=0→0≤a∧a+n≤s.length∧Sg n r.1)∧(r.2≠0→r.1=0)):=fun p h h'=>by
  unfold Zfd
  exact bd (L134x1 s a n p (by omega) hl k0 k1 ⟨h,h'⟩) fun q hq=>ok ⟨fun _=>⟨k0,k1,hq⟩,fun h=>absurd rfl h⟩
 exact brD (fun _=>bd wr fun v3 h3=>key v3 (by omega) (by omega)) fun _=>key v2 (by omega) (by omega)
def Us (n v:Int):Prop:=0≤v∧(n=1→v<256)∧(n=2→v<65536)∧(n=4→v<4294967296)
theorem Zfs (s:List UInt8) (a n:Int) (hn:n=1∨n=2∨n=4) (hl:Str s):Ok (Z73 s a n) (fun r=>(r.2=0→0≤a∧a+n≤s.length)∧Us n r.1):=by
 unfold Z73
 refine bd (Zv4 s a n hn hl) fun v h=>?_
 have h2:=h.2
 refine brE (fun he=>?_) fun he=>ok ⟨fun h'=>absurd h' he,by dsimp only; unfold Us; rw [h2 he]; omega⟩
 obtain ⟨h0,h1,hs⟩:=h.1 he
 unfold Sg at hs
 refine brD (fun _=>brD (fun hneg=>?_) fun hnn=>ok ⟨fun _=>⟨h0,h1⟩,by dsimp only; unfold Us; omega⟩) fun hlt=>absurd hlt (by omega)
 unfold Zkx
 rcases hn with rfl|rfl|rfl
 ·refine bd wr fun v1 e1=>?_
  subst e1
  rw [show Z6n .i64 1 (8*1)=some 256 by decide]
  exact bs (bd wr fun v3 e3=>ok ⟨fun _=>⟨h0,h1⟩,by dsimp only; unfold Us; omega⟩)
 ·refine bd wr fun v1 e1=>?_
  subst e1
  rw [show Z6n .i64 1 (8*2)=some 65536 by decide]
  exact bs (bd wr fun v3 e3=>ok ⟨fun _=>⟨h0,h1⟩,by dsimp only; unfold Us; omega⟩)
 ·refine bd wr fun v1 e1=>?_
  subst e1
  rw [show Z6n .i64 1 (8*4)=some 4294967296 by decide]
  exact bs (bd wr fun v3 e3=>ok ⟨fun _=>⟨h0,h1⟩,by dsimp only; unfold Us; omega⟩)
def Z4l (s:List UInt8) (r:Z16):Prop:=r.f_S=s∧0≤r.f_At∧r.f_At≤s.length
theorem Z3r (s:List UInt8) (r:Z16) (n:Int) (hn:n=1∨n=2∨n=4) (hl:Str s) (hr:Z4l s r):Ok (Z39 r n) (fun x=>Us n x.1∧Z4l s x.2):=by
 obtain ⟨h1,h2,h3⟩:=hr
 unfold Z39
 rw [h1]
 refine bd (Zfs s r.f_At n hn hl) fun v hv=>br (fun _=>ok ⟨by dsimp only; unfold Us; omega,rfl,h2,h3⟩) fun _=>brN (fun _=>ok ⟨by dsimp only; unfold Us; omega,rfl,h2,h3⟩) fun he=>?_
 obtain ⟨k0,k1⟩:=hv.1 he
 exact bd wr fun v1 e1=>ok ⟨hv.2,rfl,by dsimp only; omega,by dsimp only; omega⟩
abbrev SL_:=Int×(List UInt8)×Int×Bool×(List Z0h)
def IL (s:List UInt8) (t:SL_):Prop:=Z4l s ⟨t.2.1,t.2.2.1,t.2.2.2.1⟩∧(t.2.2.2.2.length:Int)=t.1∧∀ v∈t.2.2.2.2,v.Z1m.Z0f=[]
def QL (s:List UInt8) (q:(List UInt8)×Int×Bool×(List Z0h)):Prop:=Z4l s ⟨q.1,q.2.1,q.2.2.1⟩∧q.2.2.2.length≤256∧∀ v∈q.2.2.2,v.Z1m.Z0f=[]
theorem Z7x {α:Type} {P:α→Prop} {l:List α} {x:α} (h:∀ v∈l,P v) (hx:P x):∀ v∈l++[x],P v:=fun v hv=>by
 rcases List.mem_append.1 hv with hv|hv
 ·exact h v hv
 ·rw [List.mem_singleton.1 hv]; exact hx
theorem Zom {s:List UInt8} {n p11 p13 p15:Int} {t0:SL_} {v5:Int×Z16} {p12:List UInt8} {p14:Bool} (hI:IL s t0) (hr:Z4l s ⟨p12,p13,p14⟩) (h0:0≤t0.1) (h1:t0.1<n) (hn:n≤256):Ok (Zc1 p11 t0 v5 p12 p13 p14 p15) (St (IL s) (fun t=>t.1) n (QL s) t0):=by
 unfold Zc1
 have:=hI.2.1
 refine bd gk fun _ _=>bd wr fun _ hv=>?_
 exact nx ⟨hr,by simp only [List.length_append,List.length_cons,List.length_nil]; omega,Z7x hI.2.2 rfl⟩
theorem Zr7 {s:List UInt8} (hs:Str s) {n p9 p11:Int} {t0:SL_} {v5:Int×Z16} {p8:List UInt8} {p10:Bool} (hI:IL s t0) (hr:Z4l s ⟨p8,p9,p10⟩) (h0:0≤t0.1) (h1:t0.1<n) (hn:n≤256):Ok (Zd1 t0 v5 p8 p9 p10 p11) (St (IL s) (fun t=>t.1) n (QL s) t0):=by
 unfold Zd1
 refine brD (fun _=>brD (fun _=>?_) fun _=>Zom hI hr h0 h1 hn) fun _=>Zom hI hr h0 h1 hn
 unfold Zm7
 exact bd (Z3r s _ 2 (by omega) hs hr) fun v hv=>Zom hI hv.2 h0 h1 hn
theorem Zsl (s:List UInt8) (r:Z16) (hs:Str s) (hr:Z4l s r):Ok (Zdt r) (fun x=>(x.1.length≤256∧∀ v∈x.1,v.Z1m.Z0f=[])∧Z4l s x.2):=by
 unfold Zdt
 refine bd (Z3r s r 1 (by omega) hs hr) fun v0 h0=>bd (P:=QL s) ?_ fun q hq=>ok ⟨hq.2,hq.1⟩
 have hu:0≤v0.1∧v0.1<256:=⟨h0.1.1,h0.1.2.1 rfl⟩
 refine lp (fun t=>t.1) v0.1 (IL s) (fun t hI g0 g1=>?_) (by omega) ⟨h0.2,rfl,fun v hv=>by simp at hv⟩
 have hl:=hI.2.1
 have hd:QL s (t.2.1,t.2.2.1,t.2.2.2.1,t.2.2.2.2):=⟨hI.1,by dsimp only at *; omega,hI.2.2⟩
 unfold Zns
 refine brD (fun hlt=>br! (fun _=>?_) fun _=>dn hd) fun _=>dn hd
 unfold Zo4
 exact bd (Z3r s _ 1 (by omega) hs hI.1) fun v5 h5=>brE (fun _=>bd (Z3r s _ 2 (by omega) hs h5.2) fun v6 h6=>Zr7 hs hI h6.2 g0 hlt (by omega)) fun _=>Zr7 hs hI h5.2 g0 hlt (by omega)
def RdT {α:Type} (s:List UInt8) (B:Nat) (P:α→Prop) (q:(List UInt8)×Int×Bool×(List α)):Prop:=Z4l s ⟨q.1,q.2.1,q.2.2.1⟩∧q.2.2.2.length≤B∧∀ v∈q.2.2.2,P v
def RdI {α:Type} (s:List UInt8) (P:α→Prop) (t:Int×(List UInt8)×Int×Bool×(List α)):Prop:=Z4l s ⟨t.2.1,t.2.2.1,t.2.2.2.1⟩∧(t.2.2.2.2.length:Int)=t.1∧∀ v∈t.2.2.2.2,P v
theorem rdL {α:Type} {s:List UInt8} {P:α→Prop} {n p2:Int} {p1:List UInt8} {p3:Bool} (hn:0≤n∧n<65536) (hr:Z4l s ⟨p1,p2,p3⟩) {f:Int×(List UInt8)×Int×Bool×(List α)→Option (Ctl (Int×(List UInt8)×Int×Bool×(List α)) ((List UInt8)×Int×Bool×(List α)))}
  (h:∀ t,RdI s P t→0≤t.1→t.1≤n→RdT s 65536 P (t.2.1,t.2.2.1,t.2.2.2.1,t.2.2.2.2)→Ok (f t) (St (RdI s P) (fun t=>t.1) n (RdT s 65536 P) t)):Ok (Z07 f Z09 (0,p1,p2,p3,[])) (RdT s 65536 P):=
 lp (fun t=>t.1) n (RdI s P) (fun t hI g0 g1=>h t hI g0 g1 ⟨hI.1,by have:=hI.2.1; dsimp only at *; omega,hI.2.2⟩) (by omega) ⟨hr,rfl,fun v hv=>by simp at hv⟩ (by dsimp only; omega) hn.1
theorem L152x1 {s:List UInt8} (hs:Str s) {v7:Int×Z16} (h7:Us 2 v7.1∧Z4l s v7.2):Ok (Z07 (Zkj v7) Z09 (0,v7.2.f_S,v7.2.f_At,v7.2.Z3t,[])) (RdT s 65536 fun v=>v.Z1m=[]):=by
 refine rdL (n:=v7.1) ⟨h7.1.1,h7.1.2.2.1 rfl⟩ h7.2 fun t hI g0 g1 hd=>?_
 have hl:=hI.2.1
 have:=h7.1.2.2.1 rfl
 unfold Zkj
 refine brD (fun hlt=>br! (fun _=>?_) fun _=>dn hd) fun _=>dn hd
 unfold Zpl
 refine bd (Z3r s _ 2 (by omega) hs hI.1) fun v1 h1=>bd (Z3r s _ 2 (by omega) hs h1.2) fun v2 h2=>bd (Z3r s _ 2 (by omega) hs h2.2) fun v3 h3=>bd (Z3r s _ 2 (by omega) hs h3.2) fun v4 h4=>?_
 refine bd gk fun _ _=>bd wr fun _ hv=>?_
 exact nx ⟨h4.2,by simp only [List.length_append,List.length_cons,List.length_nil]; omega,Z7x hI.2.2 rfl⟩
theorem L152x3 {s:List UInt8} (hs:Str s) {v7:Int×Z16} (h7:Us 2 v7.1∧Z4l s v7.2):Ok (Z07 (Zho v7) Z09 (0,v7.2.f_S,v7.2.f_At,v7.2.Z3t,[])) (RdT s 65536 fun _=>True):=by
 refine rdL (n:=v7.1) ⟨h7.1.1,h7.1.2.2.1 rfl⟩ h7.2 fun t hI g0 g1 hd=>?_
 have hl:=hI.2.1
 have:=h7.1.2.2.1 rfl
 unfold Zho
 refine brD (fun hlt=>br! (fun _=>?_) fun _=>dn hd) fun _=>dn hd
 unfold Zn0
 refine bd (Z3r s _ 2 (by omega) hs hI.1) fun v1 h1=>bd (Z3r s _ 2 (by omega) hs h1.2) fun v2 h2=>?_
 refine bd gk fun _ _=>bd wr fun _ hv=>?_
 exact nx ⟨h2.2,by simp only [List.length_append,List.length_cons,List.length_nil]; omega,Z7x hI.2.2 trivial⟩
def RFr (m:Z0o):Prop:=(m.Z1h.Z0u.length≤256∧∀ v∈m.Z1h.Z0u,v.Z1m.Z0f=[])∧m.Z1h.Z0x.length≤256∧∀ v∈m.Z1h.Z0x,v.Z1m.Z0f=[]
def QM (s:List UInt8) (q:(List UInt8)×Int×Bool×(List Z0o)×(List Int)):Prop:=Z4l s ⟨q.1,q.2.1,q.2.2.1⟩∧q.2.2.2.1.length≤65536∧q.2.2.2.2.length=q.2.2.2.1.length∧∀ v∈q.2.2.2.1,RFr v
def IM (s:List UInt8) (t:Int×(List UInt8)×Int×Bool×(List Z0o)×(List Int)):Prop:=Z4l s ⟨t.2.1,t.2.2.1,t.2.2.2.1⟩∧(t.2.2.2.2.1.length:Int)=t.1∧t.2.2.2.2.2.length=t.2.2.2.2.1.length∧∀ v∈t.2.2.2.2.1,RFr v
theorem L152x2 {s:List UInt8} (hs:Str s) {v7:Int×Z16} (h7:Us 2 v7.1∧Z4l s v7.2):Ok (Z07 (Zjy v7) Z09 (0,v7.2.f_S,v7.2.f_At,v7.2.Z3t,[],[])) (QM s):=by
 have:=h7.1.2.2.1 rfl
 have:=h7.1.1
 refine lp (fun t=>t.1) v7.1 (IM s) (fun t hI g0 g1=>?_) (by omega) ⟨h7.2,rfl,rfl,fun v hv=>by simp at hv⟩
 have hl:=hI.2.1
 have hl2:=hI.2.2.1
 have hd:QM s (t.2.1,t.2.2.1,t.2.2.2.1,t.2.2.2.2.1,t.2.2.2.2.2):=⟨hI.1,by dsimp only at *; omega,hI.2.2⟩
 unfold Zjy
 refine brD (fun hlt=>br! (fun _=>?_) fun _=>dn hd) fun _=>dn hd
 unfold Zpz
 refine bd (Z3r s _ 2 (by omega) hs hI.1) fun v1 h1=>bd (Z3r s _ 1 (by omega) hs h1.2) fun v2 h2=>bd (Zsl s _ hs h2.2) fun v3 h3=>bd (Zsl s _ hs h3.2) fun v4 h4=>?_
 refine bd gk fun _ _=>?_
 refine bd gk fun _ _=>bd wr fun _ hv=>?_
 exact nx ⟨h4.2,by simp only [List.length_append,List.length_cons,List.length_nil]; omega,by simp only [List.length_append,List.length_cons,List.length_nil]; omega,Z7x hI.2.2.2 ⟨h3.1,h4.1⟩⟩
structure TkOk (s:List UInt8) (t:Z3a):Prop where
 ins:t.f_C.Z0j=[]
 hnd:∀ h∈t.f_C.Z1w,h.Z1m=[]
 hndL:t.f_C.Z1w.length≤65536
 map:∀ m∈t.f_C.Z1f,RFr m
 mapL:t.f_C.Z1f.length≤65536
 raw:t.Zll.length=t.f_C.Z1f.length
 lin:t.f_C.Z1q.length≤65536
 byt:t.Z2e.length≤s.length
theorem Y0e (s:List UInt8) (hs:Str s):Ok (Zi9 s) (fun r=>TkOk s r.1):=by
 unfold Zi9
 refine bd (Z3r s _ 2 (by omega) hs ⟨rfl,by dsimp only; omega,by dsimp only; omega⟩) fun v0 h0=>bd (Z3r s _ 2 (by omega) hs h0.2) fun v1 h1=>bd (Z3r s _ 4 (by omega) hs h1.2) fun v2 h2=>?_
 have h5:Ok (Zed v0 v1 v2) (fun r=>TkOk s r.1):=by
  unfold Zed
  exact ok ⟨rfl,fun h hh=>by simp at hh,by simp,fun h hh=>by simp at hh,by simp,rfl,by simp,by simp⟩
 obtain ⟨k1,k2,k3⟩:=h2.2
 have k4:=h2.1.1
 have k5:=h2.1.2.2.2 rfl
 refine br (fun _=>h5) fun _=>bd wr fun v3 h3=>brD (fun _=>h5) fun hle=>?_
 unfold Zoj
 refine bd wr fun v4 h4=>bd (sb (by omega) (by omega) (by omega)) fun v5 h5=>bd wr fun v6 h6=>?_
 refine bd (Z3r s _ 2 (by omega) hs ⟨k1,by dsimp only; omega,by dsimp only; omega⟩) fun v7 h7=>bd (L152x1 hs h7) fun q0 hq0=>bd (Z3r s _ 2 (by omega) hs hq0.1) fun v24 h24=>bd (L152x2 hs h24) fun q2 hq2=>bd (Z3r s _ 2 (by omega) hs hq2.1) fun v44 h44=>bd (L152x3 hs h44) fun q4 hq4=>?_
 exact ok ⟨rfl,hq0.2.2,hq0.2.1,hq2.2.2.2,hq2.2.1,hq2.2.2.1,hq4.2.1,by have:=h5.1; dsimp only; omega⟩
end Go.Proofs
set_option linter.unusedVariables false
namespace Go.Proofs
open Go.Den Go.Tot
theorem is_eq (x:Int):Z9t x=some (decide (0≤x∧x<81)):=by
 unfold Z9t
 by_cases h:x≥0
 ·rw [if_pos (by simpa using h)]; congr 1; simp [h]
 ·rw [if_neg (by simpa using h)]; congr 1; simp; omega
theorem Zme (x a b:Int):Z6j x a b=some (decide (a≤x∧x≤b)):=by
 unfold Z6j
 by_cases h:x≥a
 ·rw [if_pos (by simpa using h)]; congr 1; simp [h]
 ·rw [if_neg (by simpa using h)]; congr 1; simp; omega
def KindP (x k:Int):Prop:=(k=3↔36≤x∧x≤52)∧(k=6↔x=53)∧(k=7↔x=54)∧(k= -1↔ ¬(0≤x∧x<81))∧ -1≤k∧k≤7
theorem Zfo (x:Int):Ok (Z6f x) (KindP x):=by
 unfold Z6f Zk4 Zhj
 simp only [is_eq,Zme]
 unfold KindP
 repeat' first
  | with_reducible refine br! (fun _=>?_) fun _=>?_
  | with_reducible refine brD (fun _=>?_) fun _=>?_
  | with_reducible refine brE (fun _=>?_) fun _=>?_
  | with_reducible refine bs ?_
  | with_reducible refine ok ?_
  | (have h0:=of_decide_eq_true (by assumption:decide (0≤x∧x<81)=true); refine ⟨?_,?_,?_,?_,?_,?_⟩ <;> omega)
  | (have h0:=of_decide_eq_false (by assumption:decide (0≤x∧x<81)=false); refine ⟨?_,?_,?_,?_,?_,?_⟩ <;> omega)
theorem Zrz (x:Int):Zay x=some (decide (36≤x∧x≤54)):=by
 unfold Zay; rw [Zme]; rfl
theorem Y23 (x:Z01) (hx:Z2l x):Ok (Z07 (Zc2 x) Z09 0) (fun q=>match q with|.inl _=>∀ v∈x.Z0b,0≤v∧v<1000|.inr b=>b=false):=by
 have:=hx.tos
 refine lp (fun t=>t) x.Z0b.length (fun t=>∀ (j:Nat) v,(j:Int)<t→x.Z0b[j]?=some v→0≤v∧v<1000) (fun t hI h0 h1=>?_) (by omega) (fun j v h=>by omega) (by omega) (by omega)
 unfold Zc2
 refine brD (fun hlt=>?_) fun hge=>dn fun v hv=>?_
 ·obtain ⟨y,hy,hm,hi⟩:=gri (l:=x.Z0b) (i:=t) (by omega) hlt
  rw [hy]
  refine bs (brD (fun _=>dn rfl) fun _=>bs (brD (fun _=>dn rfl) fun _=>bd wr fun v2 h2=>nx (fun j v hj hv=>?_) (by omega) (by omega)))
  rcases Int.lt_or_le (j:Int) t with hlt|hge
  ·exact hI j v hlt hv
  ·have:j=t.toNat:=by omega
   subst this
   rw [hi] at hv; cases hv
   omega
 ·obtain ⟨j,hj⟩:=List.mem_iff_getElem?.1 hv
  exact hI j v (by have:=(List.getElem?_eq_some_iff.1 hj).1; omega) hj
theorem aims_ok (x:Z01) (hx:Z2l x):Ok (Z7p x) (fun b=>b=true→0≤x.f_To∧x.f_To<1000∧∀ v∈x.Z0b,0≤v∧v<1000):=by
 unfold Z7p
 refine brD (fun _=>ok fun h=>by cases h) fun _=>brD (fun _=>ok fun h=>by cases h) fun _=>?_
 unfold Zgq
 refine bd (Y23 x hx) fun q hq=>?_
 cases q with
 | inl _=>exact ok fun _=>⟨by omega,by omega,hq⟩
 | inr b=>exact ok fun h=>by cases hq.symm.trans h
theorem keys_ok (x:Z01) (hx:Z2l x):Ok (Zcj x) (fun e=>e=0→(x.f_Op=53→1≤x.Z0b.length∧x.Z0b.length≤64)∧(x.f_Op≠53→x.Z0t.length≤64∧x.Z0b.length=x.Z0t.length)):=by
 have:=hx.tos
 have:=hx.keys
 unfold Zcj Zkt Zih
 refine brE (fun _=>brE (fun _=>ok (by omega)) fun _=>brD (fun _=>ok (by omega)) fun _=>bd (Zp2 _) fun v h=>br! (fun _=>ok (by omega)) fun _=>bd wr fun _ _=>bd wr fun _ _=>brD (fun _=>ok (by omega)) fun _=>ok (by omega)) fun _=>?_
 refine brD (fun _=>ok (by omega)) fun _=>brN (fun _=>ok (by omega)) fun _=>bd (Zu1 x hx) fun q _=>?_
 have h:∀ e:Int,Ok (some e) (fun e=>e=0→(x.f_Op=53→1≤x.Z0b.length∧x.Z0b.length≤64)∧(x.f_Op≠53→x.Z0t.length≤64∧x.Z0b.length=x.Z0t.length)):=fun e=>ok fun _=>⟨by omega,by omega⟩
 cases q with
 | inl _ => refine bd (Zu3 x hx) fun q _=>?_
            cases q <;> exact h _
 | inr _=>exact h _
structure Z41 (x:Z01):Prop where
 op:0≤x.f_Op∧x.f_Op<81
 tab:x.f_Op=53→1≤x.Z0b.length∧x.Z0b.length≤64
 look:x.f_Op=54→x.Z0t.length≤64∧x.Z0b.length=x.Z0t.length
 aim:36≤x.f_Op→x.f_Op≤54→0≤x.f_To∧∀ v∈x.Z0b,0≤v
 few:x.f_Op≠53→x.f_Op≠54→x.Z0b=[]
theorem used_ok (x:Z01) (k:Int):Ok (Zck x k) (fun b=>b=true→k≠6→k≠7→x.Z0b.length=0):=by
 unfold Zck Zku Zdw Zfi
 repeat' first
  | with_reducible refine br! (fun _=>?_) fun _=>?_
  | with_reducible refine brE (fun _=>?_) fun _=>?_
  | with_reducible refine brN (fun _=>?_) fun _=>?_
  | with_reducible refine ok ?_
  | (intro hb h6 h7; first|(cases hb; done)|(simp only [beq_iff_eq] at *; omega))
theorem Zdz (x:Z01) (hx:Z2l x):Ok (Z4w x) (fun e=>e=0→Z41 x):=by
 unfold Z4w
 refine bd (Zfo x.f_Op) fun k hk=>brD (fun _=>ok (by omega)) fun hk0=>bd (used_ok x k) fun b hb=>br! (fun _=>ok (by omega)) fun hu=>?_
 obtain ⟨k3,k6,k7,km,k0,k1⟩:=hk
 have hfew:=hb hu
 have h5:(k=6∨k=7)→(0≤x.f_To∧∀ v∈x.Z0b,0≤v)→Ok (Zc8 x) (fun e=>e=0→Z41 x):=fun h ha=>by
  unfold Zc8
  exact bd (keys_ok x hx) fun v hv=>ok fun he=>⟨by omega,fun h=>(hv he).1 h,fun h=>(hv he).2 (by omega),fun _ _=>ha,fun _ _=>by omega⟩
 have h4:(k=3∨k=6∨k=7→0≤x.f_To∧∀ v∈x.Z0b,0≤v)→Ok (Z8i k x) (fun e=>e=0→Z41 x):=fun ha=>by
  unfold Z8i
  exact brE (fun h=>h5 (.inl h) (ha (.inr (.inl h)))) fun h6=>brE (fun h=>h5 (.inr h) (ha (.inr (.inr h)))) fun h7=>ok fun _=>⟨by omega,by omega,by omega,fun h h'=>ha (by omega),fun _ _=>List.eq_nil_of_length_eq_zero (hfew h6 h7)⟩
 have ha:Ok (Z7p x) (fun b=>b=true→0≤x.f_To∧∀ v∈x.Z0b,0≤v):=(aims_ok x hx).mono fun b h hb=>⟨(h hb).1,fun v hv=>((h hb).2.2 v hv).1⟩
 have h3:Ok (Zb4 k x) (fun e=>e=0→Z41 x):=by
  unfold Zb4
  refine brE (fun _=>bd ha fun b hb=>br! (fun _=>ok (by omega)) fun h=>h4 fun _=>hb h) fun h3=>brE (fun _=>bd ha fun b hb=>br! (fun _=>ok (by omega)) fun h=>h4 fun _=>hb h) fun h6=>brE (fun _=>bd ha fun b hb=>br! (fun _=>ok (by omega)) fun h=>h4 fun _=>hb h) fun h7=>h4 fun h=>by omega
 have h2:Ok (Z9d k x) (fun e=>e=0→Z41 x):=by
  unfold Z9d
  exact brE (fun _=>brD (fun _=>ok (by omega)) fun _=>brD (fun _=>ok (by omega)) fun _=>h3) fun _=>h3
 have h1:Ok (Z89 k x) (fun e=>e=0→Z41 x):=by
  unfold Z89
  exact brE (fun _=>brD (fun _=>ok (by omega)) fun _=>brD (fun _=>ok (by omega)) fun _=>h2) fun _=>brE (fun _=>brD (fun _=>ok (by omega)) fun _=>brD (fun _=>ok (by omega)) fun _=>h2) fun _=>h2
 repeat' first
  | exact h1
  | with_reducible refine brE (fun _=>?_) fun _=>?_
  | with_reducible refine brD (fun _=>?_) fun _=>?_
  | exact ok (by omega)
theorem Zto (x:Int):Ok (Ze0 x) (fun n=>0≤n∧n≤3∧(0≤x→x<81→x≠53→x≠54→1≤n)):=by
 unfold Ze0 Zma Zml Znk
 refine bd (Zfo x) fun k hk=>?_
 obtain ⟨k3,k6,k7,km,k0,k1⟩:=hk
 repeat' first
  | with_reducible refine brE (fun _=>?_) fun _=>?_
  | with_reducible refine ok ?_
  | exact ⟨by omega,by omega,by omega⟩
theorem Zvp (x:Z01) (hx:Z2l x) (hc:Z41 x):Ok (Zg1 x) (fun n=>0≤n∧n≤400):=by
 have:=hx.tos
 have:=hx.keys
 have:=hc.tab
 have:=hc.look
 unfold Zg1
 exact brE (fun _=>bd wr fun _ _=>bd wr fun _ _=>ok (by omega)) fun _=>brE (fun _=>bd wr fun _ _=>bd wr fun _ _=>ok (by omega)) fun _=>bd (Zto _) fun n hn=>ok (by omega)
theorem L60x1 (l:List Z01) (hl:∀ i∈l,Z2l i) (hn:l.length≤140737488355328):Ok (Z07 (Zci l) Z09 0) (fun q=>match q with|.inl _=>∀ i∈l,Z41 i|.inr y=>y.2≠0∧y.1=[]):=by
 refine lp (fun t=>t) l.length (fun t=>∀ (j:Nat) v,(j:Int)<t→l[j]?=some v→Z41 v) (fun t hI h0 h1=>?_) (by omega) (fun j v h=>by omega) (by omega) (by omega)
 unfold Zci
 refine brD (fun hlt=>?_) fun hge=>dn fun v hv=>?_
 ·refine bd gri fun i hi=>bd (Zdz i (hl i hi.1)) fun e he=>brN (fun h=>dn ⟨h,rfl⟩) fun h=>bd wr fun v2 h2=>nx (fun j v hj hv=>?_) (by omega) (by omega)
  rcases Int.lt_or_le (j:Int) t with hlt|hge
  ·exact hI j v hlt hv
  ·have:j=t.toNat:=by omega
   subst this
   rw [hi.2] at hv; cases hv
   exact he h
 ·obtain ⟨j,hj⟩:=List.mem_iff_getElem?.1 hv
  exact hI j v (by have:=(List.getElem?_eq_some_iff.1 hj).1; omega) hj
theorem Zo0 (l:List Z01) (hl:∀ i∈l,Z2l i) (hn:l.length≤140737488355328):Ok (Z67 l) (fun r=>(r.2=0→r.1.length=l.length+1∧l.length≤1000∧∀ i∈l,Z41 i)∧r.1.length≤1001):=by
 unfold Z67
 refine bd (L60x1 l hl hn) fun q hq=>?_
 cases q with
 | inr y=>exact ok ⟨fun h=>absurd h hq.1,by rw [hq.2]; simp⟩
 | inl _=>
  refine brD (fun _=>ok ⟨by omega,by simp⟩) fun hs=>?_
  refine bd (P:=fun r=>r.length=l.length+1) ?_ fun q2 hq2=>bd ik fun j hj=>bd (la (by omega)) fun _ _=>brD (fun _=>ok ⟨by omega,by simp⟩) fun _=>ok ⟨fun _=>⟨hq2,by omega,hq⟩,by dsimp only; omega⟩
  refine lp (fun t=>t.1) l.length (fun t=>(t.2.length:Int)=t.1+1∧∀ v∈t.2,0≤v∧v≤400*t.1) (fun t hI h0 h1=>?_) (by omega) ⟨rfl,by simp⟩
  obtain ⟨hI1,hI2⟩:=hI
  unfold Zgh
  refine brD (fun hlt=>?_) fun hge=>dn (by omega)
  refine bd ik fun j hj=>bd (la (by omega)) fun v hv=>bd gr fun i hi=>bd (Zvp i (hl i hi) (hq i hi)) fun n hn=>?_
  have hv2:=hI2 v hv.2
  refine bd wr fun w hw=>bd gk fun _ _=>bd wr fun k hk=>?_
  refine nx ⟨by simp only [List.length_append,List.length_cons,List.length_nil]; omega,Z7x (fun v hv=>?_) ?_⟩
  ·have:=hI2 v hv; dsimp only; omega
  ·dsimp only; omega
theorem Z7c (s:List UInt8) (a n:Int) (hn:n=1∨n=2∨n=4) (hs:Str s):Ok (Z66 s a n) (Us n):=bd (Zfs s a n hn hs) fun v h=>ok h.2
theorem Zi2 (s:List UInt8) (a n:Int) (hn:n=1∨n=2∨n=4) (hs:Str s):Ok (Zca s a n) (fun _=>True):=bd (Zv4 s a n hn hs) fun v h=>ok trivial
theorem need_ok (s:List UInt8) (a op:Int) (hs:Str s) (h0:0≤a) (h1:a≤s.length) (ho:0≤op) (h81:op<81):Ok (Zf2 s a op) (fun n=>n<0∨(1≤n∧a+n≤s.length)):=by
 have h4:∀ p:Int,1≤p→p≤1000000→Ok (Zcs s a p) (fun n=>n<0∨(1≤n∧a+n≤s.length)):=fun p hp hp'=>by
  unfold Zcs
  exact bd wr fun v hv=>brD (fun _=>ok (by omega)) fun _=>ok (by omega)
 have h2:∀ p q:Int,5≤p→p≤9→0≤q→q≤6→Ok (Zfj s a p q) (fun n=>n<0∨(1≤n∧a+n≤s.length)):=fun p q hp hp' hq hq'=>by
  unfold Zfj Znz
  refine bd wr fun v1 e1=>bd wr fun v2 e2=>bd (Zfs s v2 2 (by omega) hs) fun v3 e3=>bd wr fun v4 e4=>brD (fun _=>ok (by omega)) fun _=>brN (fun _=>ok (by omega)) fun _=>?_
  have hu:=e3.2.2.2.1 rfl
  have hu0:=e3.2.1
  have hm:0≤q*v3.1∧q*v3.1≤6*65536:=⟨Int.mul_nonneg hq hu0,Int.le_trans (Int.mul_le_mul_of_nonneg_right hq' hu0) (by omega)⟩
  exact bd wr fun v5 e5=>bd wr fun v6 e6=>h4 v6 (by omega) (by omega)
 unfold Zf2 Zhs
 exact bd (Zto op) fun n hn=>brE (fun _=>brE (fun _=>h2 5 6 (by omega) (by omega) (by omega) (by omega)) fun _=>h2 9 2 (by omega) (by omega) (by omega) (by omega)) fun _=>brE (fun _=>brE (fun _=>h2 5 6 (by omega) (by omega) (by omega) (by omega)) fun _=>h2 9 2 (by omega) (by omega) (by omega) (by omega)) fun _=>h4 n (by omega) (by omega)
theorem L164x1 (n:Int) (s:List UInt8) (a:Int) (hs:Str s) (h0:0≤a) (h1:a≤s.length) (hn:0≤n) (hn':n<65536):Ok (Z07 (Zjv n s a) Z09 (0,([]:List Int))) (fun r=>r.length≤65536):=by
 refine lp (fun t=>t.1) n (fun t=>(t.2.length:Int)=t.1) (fun t hI g0 g1=>?_) (by omega) rfl
 unfold Zjv
 refine brD (fun hlt=>bd wr fun v1 e1=>bd wr fun v2 e2=>bd wr fun v3 e3=>bd (Z7c s v3 2 (by omega) hs) fun v4 e4=>?_) fun _=>dn (by omega)
 exact bd gk fun _ _=>bd wr fun k hk=>nx (by simp only [List.length_append,List.length_cons,List.length_nil]; omega)
theorem L164x2 (n:Int) (s:List UInt8) (a:Int) (hs:Str s) (h0:0≤a) (h1:a≤s.length) (hn:0≤n) (hn':n<65536):Ok (Z07 (Zk1 n s a) Z09 (0,([]:List Int),([]:List Int))) (fun r=>r.1.length≤65536∧r.2.length≤65536):=by
 refine lp (fun t=>t.1) n (fun t=>(t.2.1.length:Int)=t.1∧(t.2.2.length:Int)=t.1) (fun t hI g0 g1=>?_) (by omega) ⟨rfl,rfl⟩
 unfold Zk1
 refine brD (fun hlt=>bd wr fun v1 e1=>bd wr fun v2 e2=>bd wr fun v3 e3=>bd (Zi2 s v3 4 (by omega) hs) fun v4 e4=>?_) fun _=>dn (by dsimp only at *; omega)
 refine bd gk fun _ _=>bd wr fun _ _=>bd wr fun _ _=>bd wr fun v5 _=>bd (Z7c s v5 2 (by omega) hs) fun _ _=>?_
 exact bd gk fun _ _=>bd wr fun k hk=>nx (by simp only [List.length_append,List.length_cons,List.length_nil]; omega)
def TkI (i:Z01):Prop:=i.Z0t.length≤65536∧i.Z0b.length≤65536∧i.Z1c={ Z0p:=[],Z0f:=[],Z1p:=[] }∧i.f_S=[]
theorem TkI.w {i:Z01} (h:TkI i):Z2l i:=⟨by have:=h.1; omega,by have:=h.2.1; omega,by rw [h.2.2.1]; exact ⟨by simp,by simp,by simp⟩,by rw [h.2.2.2]; simp⟩
theorem take_ok (s:List UInt8) (a op:Int) (hs:Str s) (h0:0≤a) (h1:a≤s.length):Ok (Zjl s a op) TkI:=by
 unfold Zjl
 have z:∀ x y w v,TkI { f_Op:=x,f_A:=y,f_B:=w,f_To:=v,Z0t:=[],Z0b:=[],Z1c:={ Z0p:=[],Z0f:=[],Z1p:=[] },f_S:=[] }:=fun _ _ _ _=>⟨by simp,by simp,rfl,rfl⟩
 refine bd (Zfo op) fun k _=>brE (fun _=>?_) fun _=>brE (fun _=>?_) fun _=>brE (fun _=>?_) fun _=>brE (fun _=>?_) fun _=>brE (fun _=>?_) fun _=>brE (fun _=>?_) fun _=>brE (fun _=>?_) fun _=>ok (z _ _ _ _)
 ·exact bd wr fun _ _=>bd (Zi2 s _ 1 (by omega) hs) fun _ _=>ok (z _ _ _ _)
 ·exact bd wr fun _ _=>bd (Z7c s _ 2 (by omega) hs) fun _ _=>ok (z _ _ _ _)
 ·exact bd wr fun _ _=>bd (Z7c s _ 2 (by omega) hs) fun _ _=>ok (z _ _ _ _)
 ·exact bd wr fun _ _=>bd (Z7c s _ 1 (by omega) hs) fun _ _=>ok (z _ _ _ _)
 ·exact bd wr fun _ _=>bd (Z7c s _ 1 (by omega) hs) fun _ _=>bd wr fun _ _=>bd (Zi2 s _ 1 (by omega) hs) fun _ _=>ok (z _ _ _ _)
 ·refine bd wr fun _ _=>bd (Z7c s _ 2 (by omega) hs) fun _ _=>bd wr fun _ _=>bd (Zi2 s _ 4 (by omega) hs) fun _ _=>bd wr fun _ _=>bd (Z7c s _ 2 (by omega) hs) fun n hn=>?_
  exact bd (L164x1 n s a hs h0 h1 hn.1 (hn.2.2.1 rfl)) fun q hq=>ok ⟨by simp,hq,rfl,rfl⟩
 ·refine bd wr fun _ _=>bd (Z7c s _ 2 (by omega) hs) fun _ _=>bd wr fun _ _=>bd (Z7c s _ 2 (by omega) hs) fun n hn=>?_
  exact bd (L164x2 n s a hs h0 h1 hn.1 (hn.2.2.1 rfl)) fun q hq=>ok ⟨hq.1,hq.2,rfl,rfl⟩
theorem Zxe (l:List Int) (x:Int) (hl:l.length≤140737488355328):Ok (Zbl l x) (fun k=>k<l.length):=by
 unfold Zbl
 refine bd (P:=fun q:Unit⊕Int=>match q with|.inl _=>True|.inr y=>y<l.length) (li l.length (fun t h0 h1=>?_) (by omega) (by omega) (by omega)) fun q hq=>?_
 ·unfold Zpx
  exact brD (fun _=>bd gr fun v _=>br (fun _=>di (by assumption)) fun _=>bd wr fun _ _=>ni (by omega) (by omega)) fun _=>di trivial
 ·cases q with
  | inl _=>exact ok (by omega)
  | inr y=>exact ok hq
theorem L153x1 (s:List UInt8) (hs:s.length≤20000):Ok (Z07 (Zf1 s) Z09 (0,([]:List Z01),([]:List Int))) (fun q=>match q with|.inl q=>(∀ i∈q.1,TkI i)∧q.1.length≤20000∧q.2.length≤20000|.inr y=>y.2≠0):=by
 refine lp (fun t=>t.1) s.length (fun t=>(∀ i∈t.2.1,TkI i)∧(t.2.1.length:Int)≤t.1∧(t.2.2.length:Int)≤t.1) (fun t hI h0 h1=>?_) (by omega) ⟨Z3z,by simp,by simp⟩
 obtain ⟨hI1,hI2,hI3⟩:=hI
 unfold Zf1
 refine brD (fun hlt=>?_) fun _=>dn ⟨hI1,by dsimp only at *; omega,by dsimp only at *; omega⟩
 refine bd gs fun v hv=>bd wr fun op hop=>brD (fun _=>dn (by simp)) fun _=>bd (need_ok s t.1 op (by unfold Str; omega) h0 (by omega) (by omega) (by omega)) fun n hn=>brD (fun _=>dn (by simp)) fun _=>?_
 refine bd (take_ok s t.1 op (by unfold Str; omega) h0 (by omega)) fun i hi=>?_
 refine bd gk fun _ _=>?_
 refine bd gk fun _ _=>bd wr fun k hk=>?_
 exact nx ⟨Z7x hI1 hi,by simp only [List.length_append,List.length_cons,List.length_nil]; omega,by simp only [List.length_append,List.length_cons,List.length_nil]; omega⟩
theorem L153x3 (ps:List Int) (l:List Int) (hp:ps.length≤20000) (hl:l.length≤65536):Ok (Z07 (Z98 ps l.length) Z09 (0,l)) (fun q=>match q with|.inl r=>r.length=l.length|.inr y=>y.2≠0):=by
 refine lp (fun t=>t.1) l.length (fun t=>t.2.length=l.length) (fun t hI h0 h1=>?_) (by omega) rfl
 unfold Z98
 refine brD (fun hlt=>?_) fun _=>dn hI
 refine bd ik fun j hj=>bd (la (by omega)) fun v hv=>bd (Zxe ps v (by omega)) fun y hy=>bd (la (by rw [List.length_set]; omega)) fun z hz=>brD (fun _=>dn (by simp)) fun _=>bd wr fun k hk=>?_
 exact nx (by dsimp only; rw [List.length_set]; exact hI)
theorem L153x2 (ps:List Int) (l:List Z01) (hp:ps.length≤20000) (hl:∀ i∈l,TkI i) (hn:l.length≤20000):Ok (Z07 (Ze8 ps) Z09 (0,l)) (fun q=>match q with|.inl r=>(∀ i∈r,TkI i)∧r.length=l.length|.inr y=>y.2≠0):=by
 refine lp (fun t=>t.1) l.length (fun t=>(∀ i∈t.2,TkI i)∧t.2.length=l.length) (fun t hI h0 h1=>?_) (by omega) ⟨hl,rfl⟩
 obtain ⟨hI1,hI2⟩:=hI
 unfold Ze8
 refine brD (fun hlt=>?_) fun _=>dn ⟨hI1,hI2⟩
 refine bd ik fun j hj=>bd (la (by omega)) fun v hv=>?_
 rw [Zrz]
 refine bs (br! (fun _=>bd wr fun k hk=>nx ⟨hI1,hI2⟩) fun _=>?_)
 have hi:=hI1 v hv.2
 refine bd (Zxe ps _ (by omega)) fun y hy=>brD (fun _=>dn (by simp)) fun _=>bd (L153x3 ps v.Z0b hp hi.2.1) fun q hq=>?_
 cases q with
 | inr y=>exact dn hq
 | inl r=>
  refine bd wr fun k hk=>nx ⟨fun i hi'=>?_,by dsimp only; rw [List.length_set]; exact hI2⟩
  rcases List.mem_or_eq_of_mem_set hi' with h|rfl
  ·exact hI1 i h
  ·exact ⟨hi.1,by have:=hi.2.1; dsimp only at *; omega,hi.2.2.1,hi.2.2.2⟩
theorem dec_ok (s:List UInt8):Ok (Zbk s) (fun r=>r.2=0→(∀ i∈r.1,TkI i)∧r.1.length≤20000):=by
 unfold Zbk
 refine brD (fun _=>ok (by simp)) fun hs=>bd (L153x1 s (by omega)) fun q hq=>?_
 cases q with
 | inr y=>exact ok fun h=>absurd h hq
 | inl q=>
  obtain ⟨h1,h2,h3⟩:=hq
  refine brD (fun _=>ok (by simp)) fun _=>bd (L153x2 q.2 q.1 h3 h1 h2) fun q7 hq7=>?_
  cases q7 with
  | inr y=>exact ok fun h=>absurd h hq7
  | inl l=>
   obtain ⟨k1,k2⟩:=hq7
   refine bd (P:=fun q:Unit⊕(List Z01×Int)=>match q with|.inl _=>True|.inr y=>y.2≠0) (li l.length (fun t h0 h1=>?_) (by omega) (by omega) (by omega)) fun q9 hq9=>?_
   ·unfold Zja
    exact brD (fun _=>bd ik fun j hj=>bd (la (by omega)) fun v hv=>bd (Zdz v (k1 v hv.2).w) fun e _=>brN (fun h=>di h) fun _=>bd wr fun _ _=>ni (by omega) (by omega)) fun _=>di trivial
   ·cases q9 with
    | inl _=>exact ok fun _=>⟨k1,by dsimp only; omega⟩
    | inr y=>exact ok fun h=>absurd h hq9
end Go.Proofs
set_option linter.unusedVariables false
namespace Go.Proofs
open Go.Den Go.Tot
theorem runeLen (n:Int):(Zlb n).length≤4:=by
 unfold Zlb Utf8.encode
 dsimp only
 repeat' split
 all_goals simp [ByteArray.push]
theorem Zv5 (y:Z0q) (ht:Str y.Z0f):Ok (Zet y) (fun b=>b=true→0≤y.Z2u∧y.Z2u≤8∧y.Z0f.length≤64):=by
 unfold Zet
 repeat' first
  | unfold j61x1
  | unfold j61x2
  | unfold j61x3
  | with_reducible refine brD (fun _=>?_) fun _=>?_
  | with_reducible refine br (fun _=>?_) fun _=>?_
  | with_reducible refine bd (Zgz _ (by first|assumption|omega|exact And.left (by assumption)|(dsimp only; omega))) fun _ _=>?_
  | with_reducible refine ok ?_
  | ((intro hb; first|(cases hb; done)|exact ⟨by omega,by omega,by simp_all⟩))
theorem L136x1 (y:Z0q) (h0:0≤y.Z2u) (h8:y.Z2u≤8):Ok (Z07 (Zgb y) Z09 ([],0)) (fun r=>r.length≤8):=by
 refine lp (fun s=>s.2) (y.Z2u) (fun s=>(s.1.length:Int)=s.2) (fun t hI _ _=>?_) (by omega) (by simp) (by omega) (by omega)
 try dsimp only at*
 unfold Zgb
 repeat' first
  | with_reducible refine nx ?_ ?_ ?_
  | with_reducible refine dn ?_
  | with_reducible refine brD (fun _=>?_) fun _=>?_
  | with_reducible refine bd wr fun _ _=>?_
  | with_reducible refine bd (ct (by first|omega|(simp only [List.length_cons,List.length_nil]; omega))) fun _ _=>?_
  | ((simp only [*,List.length_append,List.length_cons,List.length_nil]; omega))
  | omega
theorem Y4e (y:Z0q) (ht:Str y.Z0f):Ok (Zgc y) (fun r=>r.1.length≤100):=by
 have:=runeLen (IntKind.wrap .i32 y.Z1z)
 unfold Zgc
 repeat' first
  | with_reducible refine bd (Zv5 _ ht) fun _ hv=>?_
  | with_reducible refine br! (fun _=>?_) fun hb=>?_
  | with_reducible refine bd (L136x1 _ (hv hb).1 (hv hb).2.1) fun _ _=>?_
  | with_reducible refine brE (fun _=>?_) fun _=>?_
  | with_reducible refine bd (ct (by have:=(hv hb).2.2; first|omega|(simp only [List.length_cons,List.length_nil]; omega))) fun _ _=>?_
  | with_reducible refine bs ?_
  | with_reducible refine ok ?_
  | (first|(simp; done)|(dsimp only; have:=(hv hb).2.2; simp only [List.length_cons,List.length_nil] at *; omega))
  | (dsimp only; omega)
theorem L106x1 (p:List Z00) (e:Int) (l:List Z0h) (hp:Z13 p) (hl:∀ v∈l,Str v.Z1m.Z0f) (hn:l.length*56≤140737488355328):Ok (Z07 (Zex l) Z09 (0,p,e,([]:List Z0h))) (fun q=>Z13 q.1∧(∀ v∈q.2.2,Str v.Z1m.Z0f)∧q.2.2.length=l.length):=by
 refine lp (fun t=>t.1) (l.length) (fun t=>Z13 t.2.1∧(∀ v∈t.2.2.2,Str v.Z1m.Z0f)∧(t.2.2.2.length:Int)=t.1) (fun t hI _ _=>?_) (by omega) (by exact ⟨hp,Z3z,rfl⟩) (by omega) (by omega)
 try dsimp only at*
 unfold Zex
 obtain ⟨hI1,hI2,hI3⟩:=hI
 repeat' first
  | with_reducible refine nx ?_ ?_ ?_
  | with_reducible refine dn ?_
  | unfold Z9n
  | unfold Z6v
  | with_reducible refine brD (fun _=>?_) fun _=>?_
  | with_reducible refine brE (fun _=>?_) fun _=>?_
  | with_reducible refine bd gr fun _ _=>?_
  | with_reducible refine bd wr fun _ _=>?_
  | with_reducible refine bd gk fun _ _=>?_
  | with_reducible refine bd (Y4e _ (by exact hl _ (by assumption))) fun _ _=>?_
  | with_reducible refine bd (Z78 _ _ (by first|assumption|omega) (by first|assumption|omega)) fun _ _=>?_
  | (first|exact Z63 hI2 (by first|exact hl _ (by assumption)|exact Nat.zero_le _))
  | with_reducible refine And.intro ?_ ?_
  | (simp only [List.length_set,List.length_append,List.length_cons,List.length_nil,List.length_replicate]; omega)
theorem Zyu (x:Z0i) (l:List Z0h) (hp:Z13 x.f_P) (hl:∀ v∈l,Str v.Z1m.Z0f) (hn:l.length*56≤140737488355328):Ok (Zaa x l) (fun r=>Z13 r.1.f_P∧(∀ v∈r.2,Str v.Z1m.Z0f)∧r.2.length=l.length):=by
 unfold Zaa
 repeat' first
  | with_reducible refine bd (L106x1 _ _ _ (by first|assumption|omega|exact And.left (by assumption)|(dsimp only; omega)) (by first|assumption|omega|exact And.left (by assumption)|(dsimp only; omega)) (by first|assumption|omega|exact And.left (by assumption)|(dsimp only; omega))) fun _ _=>?_
  | with_reducible refine ok ?_
  | assumption
  | (obtain ⟨_,_⟩:=‹_∧_›)
theorem L78x1 (p:List Z00) (e:Int) (c:Z0a) (hp:Z13 p) (hc:Z52 c):Ok (Z07 (Zem c) Z09 (0,p,e,([]:List Z01))) (fun q=>Z13 q.1∧(∀ v∈q.2.2,Z2l v)∧q.2.2.length=c.Z0j.length):=by
 have:=hc.insL
 refine lp (fun t=>t.1) (c.Z0j.length) (fun t=>Z13 t.2.1∧(∀ v∈t.2.2.2,Z2l v)∧(t.2.2.2.length:Int)=t.1) (fun t hI _ _=>?_) (by omega) (by exact ⟨hp,Z3z,rfl⟩) (by omega) (by omega)
 try dsimp only at*
 unfold Zem
 obtain ⟨hI1,hI2,hI3⟩:=hI
 repeat' first
  | with_reducible refine nx ?_ ?_ ?_
  | with_reducible refine dn ?_
  | with_reducible refine brD (fun _=>?_) fun _=>?_
  | with_reducible refine bd gr fun _ _=>?_
  | with_reducible refine bd wr fun _ _=>?_
  | with_reducible refine bd gk fun _ _=>?_
  | with_reducible refine bd (Y46 _ _ (by first|assumption|exact hc.ins _ (by assumption)) (by first|assumption|exact hc.ins _ (by assumption))) fun _ _=>?_
  | (exact Z63 hI2 (And.right (by assumption)))
  | with_reducible refine And.intro ?_ ?_
  | (simp only [List.length_set,List.length_append,List.length_cons,List.length_nil,List.length_replicate]; omega)
  | (obtain ⟨_,_⟩:=‹_∧_›)
theorem L78x2 (p:List Z00) (e:Int) (c:Z0a) (hp:Z13 p) (hc:Z52 c):Ok (Z07 (Zd0 c) Z09 (0,p,e,([]:List Z0m))) (fun q=>Z13 q.1∧(∀ v∈q.2.2,v.Z1m=[])∧q.2.2.length=c.Z1w.length):=by
 have:=hc.hndL
 refine lp (fun t=>t.1) (c.Z1w.length) (fun t=>Z13 t.2.1∧(∀ v∈t.2.2.2,v.Z1m=[])∧(t.2.2.2.length:Int)=t.1) (fun t hI _ _=>?_) (by omega) (by exact ⟨hp,Z3z,rfl⟩) (by omega) (by omega)
 try dsimp only at*
 unfold Zd0
 obtain ⟨hI1,hI2,hI3⟩:=hI
 repeat' first
  | with_reducible refine nx ?_ ?_ ?_
  | with_reducible refine dn ?_
  | unfold Zcp
  | with_reducible refine brD (fun _=>?_) fun _=>?_
  | with_reducible refine br! (fun _=>?_) fun _=>?_
  | with_reducible refine bd gr fun _ _=>?_
  | with_reducible refine bd wr fun _ _=>?_
  | with_reducible refine bd gk fun _ _=>?_
  | with_reducible refine bd (Zfa _ _ (by first|assumption|exact hc.hnd _ (by assumption)) (by first|assumption|exact hc.hnd _ (by assumption))) fun _ _=>?_
  | (exact Z63 hI2 rfl)
  | with_reducible refine And.intro ?_ ?_
  | (simp only [List.length_set,List.length_append,List.length_cons,List.length_nil,List.length_replicate]; omega)
theorem Za3.of {m:Z0o} (h:Za3 m.Z1h) {l k:List Z0h} {b:Bool} (h1:∀ v∈l,Str v.Z1m.Z0f) (h2:l.length=m.Z1h.Z0u.length) (h3:∀ v∈k,Str v.Z1m.Z0f) (h4:k.length=m.Z1h.Z0x.length):
  Za3 { Z0u:=l,Z0x:=k,Z6c:=b }:=⟨h1,by have:=h.locL; dsimp only; omega,h3,by have:=h.stkL; dsimp only; omega⟩
theorem L78x3 (p:List Z00) (e:Int) (c:Z0a) (hp:Z13 p) (hc:Z52 c):Ok (Z07 (Ze2 c) Z09 (0,p,e,([]:List Z0o))) (fun q=>Z13 q.1∧(∀ v∈q.2.2,Za3 v.Z1h)∧q.2.2.length=c.Z1f.length):=by
 have:=hc.mapL
 refine lp (fun t=>t.1) (c.Z1f.length) (fun t=>Z13 t.2.1∧(∀ v∈t.2.2.2,Za3 v.Z1h)∧(t.2.2.2.length:Int)=t.1) (fun t hI _ _=>?_) (by omega) ⟨hp,Z3z,rfl⟩ (by omega) (by omega)
 obtain ⟨hI1,hI2,hI3⟩:=hI
 unfold Ze2
 refine brD (fun hlt=>?_) fun _=>dn ⟨hI1,hI2,by dsimp only; omega⟩
 obtain ⟨y,hy,hm⟩:=gr (l:=c.Z1f) (i:=t.1) (by omega) hlt
 simp only [hy]
 refine bs (bs (bd (Zyu _ _ hI1 (hc.map _ hm).loc (hc.map _ hm).locL) fun v1 h1=>bd (Zyu _ _ h1.1 (hc.map _ hm).stk (hc.map _ hm).stkL) fun v2 h2=>?_))
 refine bd gk fun _ _=>bd wr fun _ _=>?_
 exact nx ⟨h2.1,Z63 hI2 ((hc.map _ hm).of h1.2.1 h1.2.2 h2.2.1 h2.2.2),by simp only [List.length_append,List.length_cons,List.length_nil]; omega⟩
theorem Y2y (x:Z0i) (c:Z0a) (hp:Z13 x.f_P) (hc:Z52 c):Ok (Zc5 x c) (fun r=>Z13 r.1.f_P∧Z52 r.2):=by
 unfold Zc5
 refine bd (L78x1 _ _ _ hp hc) fun q0 h0=>bd (L78x2 _ _ _ h0.1 hc) fun q2 h2=>bd (L78x3 _ _ _ h2.1 hc) fun q4 h4=>ok ⟨h4.1,h0.2.1,?_,fun v hv=>?_,?_,h4.2.1,?_,hc.linL⟩
 ·have:=hc.insL; have:=h0.2.2; dsimp only; omega
 ·rw [h2.2.1 v hv]; simp
 ·have:=hc.hndL; have:=h2.2.2; dsimp only; omega
 ·have:=hc.mapL; have:=h4.2.2; dsimp only; omega
theorem L58x2 (p:List Z00) (e:Int) (m:Z2m) (hp:Z13 p) (hm:Za1 m):Ok (Z07 (Zez m) Z09 (0,p,e,([]:List Int))) (fun q=>Z13 q.1∧q.2.2.length≤140737488355328):=by
 have:=hm.excL
 refine lp (fun t=>t.1) (m.Z6k.length) (fun t=>Z13 t.2.1∧(t.2.2.2.length:Int)=t.1) (fun t hI _ _=>?_) (by omega) (by exact ⟨hp,rfl⟩) (by omega) (by omega)
 try dsimp only at*
 unfold Zez
 obtain ⟨hI1,hI3⟩:=hI
 repeat' first
  | with_reducible refine nx ?_ ?_ ?_
  | with_reducible refine dn ?_
  | with_reducible refine brD (fun _=>?_) fun _=>?_
  | with_reducible refine bd gr fun _ _=>?_
  | with_reducible refine bd wr fun _ _=>?_
  | with_reducible refine bd gk fun _ _=>?_
  | with_reducible refine bd (Zfa _ _ (by first|assumption|exact hm.exc _ (by assumption)) (by first|assumption|exact hm.exc _ (by assumption))) fun _ _=>?_
  | with_reducible refine And.intro ?_ ?_
  | (simp only [List.length_set,List.length_append,List.length_cons,List.length_nil,List.length_replicate]; omega)
structure Zap (n:Int) (ms:List Z0d) (cs:List Z0a) (ts:List (List Int)) (ns:List Z1r):Prop where
 m:(ms.length:Int)=n
 c:(cs.length:Int)=n
 t:(ts.length:Int)=n
 s:(ns.length:Int)=n
 code:∀ v∈cs,Z52 v
 att:∀ m∈ms,m.Z1g=[]
 thr:∀ l∈ts,l.length≤140737488355328
theorem Zap.snoc {n k:Int} {ms:List Z0d} {cs:List Z0a} {ts:List (List Int)} {ns:List Z1r} (h:Zap n ms cs ts ns) {m:Z0d} {c:Z0a} {l:List Int} {s:Z1r} (ha:m.Z1g=[]) (hc:Z52 c) (hl:l.length≤140737488355328) (hk:k=n+1):
  Zap k (ms++[m]) (cs++[c]) (ts++[l]) (ns++[s]):=by
 obtain ⟨h1,h2,h3,h4,h5,h6,h7⟩:=h
 refine ⟨?_,?_,?_,?_,Z63 h5 hc,Z63 h6 ha,Z63 h7 hl⟩ <;> simp only [List.length_append,List.length_cons,List.length_nil] <;> omega
theorem WCode0:Z52 { Z0x:=0,Z0u:=0,Z0j:=[],Z1w:=[],Z1f:=[],Z1q:=[] }:=⟨Z3z,by simp,Z3z,by simp,Z3z,by simp,by simp⟩
abbrev S58:=Int×(List Z00)×Int×(List Z0d)×(List Z0a)×(List (List Int))×(List Z1r)
def I58 (t:S58):Prop:=Z13 t.2.1∧Zap t.1 t.2.2.2.1 t.2.2.2.2.1 t.2.2.2.2.2.1 t.2.2.2.2.2.2
def Q58 (n:Int) (q:(List Z00)×Int×(List Z0d)×(List Z0a)×(List (List Int))×(List Z1r)):Prop:=Z13 q.1∧Zap n q.2.2.1 q.2.2.2.1 q.2.2.2.2.1 q.2.2.2.2.2
theorem K58x2 {n:Int} {p26 p27 p28:Int} {p29:List Z01} {p30:List Z0m} {p31:List Z0o} {p32:List Z15} {t0:S58} {v34:Z2m} {v35 v36:Z0i×Int} {p33:List Z00} {p34 p35:Int}
  (hI:I58 t0) (hp:Z13 p33) (hm:Za1 v34) (hc:Z52 { Z0x:=p27,Z0u:=p28,Z0j:=p29,Z1w:=p30,Z1f:=p31,Z1q:=p32 }) (h0:0≤t0.1) (h1:t0.1<n) (hn:n*184≤140737488355328):
  Ok (Zal p26 p27 p28 p29 p30 p31 p32 t0 v34 v35 v36 p33 p34 p35) (St I58 (fun t=>t.1) n (Q58 n) t0):=by
 unfold Zal
 have:=hI.2.m; have:=hI.2.c; have:=hI.2.t; have:=hI.2.s
 refine bd (L58x2 _ _ _ hp hm) fun q4 h4=>?_
 refine bd gk fun _ _=>?_
 refine bd gk fun _ _=>?_
 refine bd gk fun _ _=>?_
 refine bd gk fun _ _=>?_
 refine bd wr fun _ hv=>?_
 exact nx ⟨h4.1,hI.2.snoc rfl hc h4.2 hv⟩
theorem K58x1 {n:Int} {t0:S58} {v34:Z2m} {v35 v36:Z0i×Int} {p24:List Z00} {p25 p26 p27 p28:Int} {p29:List Z01} {p30:List Z0m} {p31:List Z0o} {p32:List Z15}
  (hI:I58 t0) (hp:Z13 p24) (hm:Za1 v34) (hc:Z52 { Z0x:=p27,Z0u:=p28,Z0j:=p29,Z1w:=p30,Z1f:=p31,Z1q:=p32 }) (h0:0≤t0.1) (h1:t0.1<n) (hn:n*184≤140737488355328):
  Ok (Za0 t0 v34 v35 v36 p24 p25 p26 p27 p28 p29 p30 p31 p32) (St I58 (fun t=>t.1) n (Q58 n) t0):=by
 unfold Za0
 exact brD (fun _=>bd (Z78 _ _ hp (by simp)) fun v hv=>K58x2 hI hv hm hc h0 h1 hn) fun _=>K58x2 hI hp hm hc h0 h1 hn
theorem L58x1 (p : List Z00) (e : Int) (u : Z0l) (hp : Z13 p) (hu:Z5a u):Ok (Z07 (Zdq u) Z09 (0,p,e,[],[],[],[])) (Q58 u.Z11.length):=by
 have:=hu.metL
 refine lp (fun t=>t.1) (u.Z11.length) I58 (fun t hI h0 h1=>?_) (by omega) ⟨hp,rfl,rfl,rfl,rfl,Z3z,Z3z,Z3z⟩ (by omega) (by omega)
 unfold Zdq
 refine brD (fun hlt => ?_) fun hge => dn ⟨hI.1, by have:t.1=u.Z11.length:=by omega
                                                    rw [← this]; exact hI.2⟩
 refine bd gr fun m hm=>bd (Z78 _ _ hI.1 (hu.met _ hm).n) fun v1 h1=>bd (Z78 _ _ h1 (hu.met _ hm).d) fun v2 h2=>br (fun _=>?_) fun _=>?_
 ·exact bd (Z78 _ _ h2 (by simp)) fun v3 h3=>bd (Y2y _ _ h3 (hu.met _ hm).code) fun v4 h4=>K58x1 hI h4.1 (hu.met _ hm) h4.2 h0 hlt (by omega)
 ·exact K58x1 hI h2 (hu.met _ hm) WCode0 h0 hlt (by omega)
structure Zbz (u:Z0l) (h:Z28):Prop where
 pool:Z13 h.f_F.Z1v
 fam:Zap u.Z11.length h.f_F.Z11 h.Zab h.Zb5 h.Z80
 ifsL:h.f_F.Z1d.length=u.Z1d.length
 fldL:h.f_F.Z0g.length=u.Z0g.length
 fld:∀ m∈h.f_F.Z0g,m.Z1g.length≤1∧∀ a∈m.Z1g,Str a.Z2e
 attL:h.f_F.Z1g.length≤1
 att:∀ a∈h.f_F.Z1g,Str a.Z2e
theorem L48x1 (p:List Z00) (e:Int) (u:Z0l) (hp:Z13 p) (hu:Z5a u):Ok (Z07 (Zju u) Z09 (0,p,e,([]:List Int))) (fun q=>Z13 q.1∧q.2.2.length=u.Z1d.length):=by
 have:=hu.ifsL
 refine lp (fun t=>t.1) (u.Z1d.length) (fun t=>Z13 t.2.1∧(t.2.2.2.length:Int)=t.1) (fun t hI h0 h1=>?_) (by omega) ⟨hp,rfl⟩ (by omega) (by omega)
 obtain ⟨hI1,hI3⟩:=hI
 unfold Zju
 refine brD (fun hlt=>?_) fun hge=>dn ⟨hI1,by dsimp only; omega⟩
 refine bd gr fun s hs=>bd (Zfa _ _ hI1 (hu.ifs _ hs)) fun v1 h1=>?_
 refine bd gk fun _ _=>bd wr fun _ hv=>?_
 exact nx ⟨h1,by simp only [List.length_append,List.length_cons,List.length_nil]; omega⟩
def MAt (m:Z0d):Prop:=m.Z1g.length≤1∧∀ a∈m.Z1g,Str a.Z2e
abbrev S48:=Int×(List Z00)×Int×(List Z0d)
def I48 (t:S48):Prop:=Z13 t.2.1∧(t.2.2.2.length:Int)=t.1∧∀ m∈t.2.2.2,MAt m
theorem K48x2 {u:Z0l} (hu:Z5a u) {t1:S48} {v26:Z1b} {v27 v28:Z0i×Int} {p9:List Z00} {p10:Int} {p11:List Z18} (hI:I48 t1) (hp:Z13 p9) (ha:p11.length≤1∧∀ a∈p11,Str a.Z2e) (h0:0≤t1.1) (h1:t1.1<u.Z0g.length):
  Ok (Z9j t1 v26 v27 v28 p9 p10 p11) (St I48 (fun t=>t.1) u.Z0g.length (fun q=>Z13 q.1∧q.2.2.length=u.Z0g.length∧∀ m∈q.2.2,MAt m) t1):=by
 have:=hu.fldL
 obtain ⟨hI1,hI2,hI3⟩:=hI
 unfold Z9j
 refine bd gk fun _ _=>bd wr fun _ hv=>?_
 exact nx ⟨hp,by simp only [List.length_append,List.length_cons,List.length_nil]; omega,Z63 hI3 ha⟩
theorem L48x2 (p:List Z00) (e:Int) (u:Z0l) (hp:Z13 p) (hu:Z5a u):Ok (Z07 (Zfc u) Z09 (0,p,e,([]:List Z0d))) (fun q=>Z13 q.1∧q.2.2.length=u.Z0g.length∧∀ m∈q.2.2,MAt m):=by
 have:=hu.fldL
 refine lp (fun t=>t.1) (u.Z0g.length) I48 (fun t hI h0 h1=>?_) (by omega) ⟨hp,rfl,Z3z⟩ (by omega) (by omega)
 unfold Zfc
 refine brD (fun hlt=>?_) fun hge=>dn ⟨hI.1,by have:=hI.2.1; dsimp only; omega,hI.2.2⟩
 refine bd gr fun f hf=>bd (Z78 _ _ hI.1 (hu.fld _ hf).n) fun v1 h1=>bd (Z78 _ _ h1 (hu.fld _ hf).d) fun v2 h2=>brN (fun _=>?_) fun _=>?_
 ·exact bd (Z78 _ _ h2 (by simp)) fun v3 h3=>bd (Zzr _ _ h3 (hu.fld _ hf)) fun v4 h4=>bd (Zve _) fun v5 h5=>K48x2 hu hI h4 ⟨by simp,fun a ha=>by rw [List.mem_singleton.1 ha]; show v5.length≤_; omega⟩ h0 hlt
 ·exact K48x2 hu hI h2 ⟨by simp,Z3z⟩ h0 hlt
theorem Y1l (x:Z0i) (u:Z0l) (h:Z28) (hp:Z13 x.f_P) (hu:Z5a u) (hi:h.f_F.Z1d.length=u.Z1d.length) (hf:h.f_F.Z0g.length=u.Z0g.length) (hm:∀ m∈h.f_F.Z0g,MAt m):
  Ok (Z8g x u h) (fun r=>Z13 r.1.f_P∧Zbz u r.2):=by
 unfold Z8g
 exact bd (L58x1 _ _ _ hp hu) fun q hq=>ok ⟨hq.1,Z13.nil,hq.2,hi,hf,hm,by simp,Z3z⟩
theorem K48x3 {u:Z0l} {v34:Z0i×Z28} (hw:Zbz u v34.2) {p12:List Z00} {p13:Int} {p14:List Z18} (hp:Z13 p12) (ha:p14.length≤1∧∀ a∈p14,Str a.Z2e):Ok (Zaq v34 p12 p13 p14) (fun r=>Z13 r.1.f_P∧Zbz u r.2):=by
 unfold Zaq
 exact ok ⟨hp,hp,hw.fam,hw.ifsL,hw.fldL,hw.fld,ha.1,ha.2⟩
theorem K48x1 {u:Z0l} (hu:Z5a u) {v0:Z0i×Int} {p0:List Z00} {p1 p2:Int} (hp:Z13 p0):Ok (Za9 v0 u p0 p1 p2) (fun r=>Z13 r.1.f_P∧Zbz u r.2):=by
 unfold Za9
 refine bd (L48x1 _ _ _ hp hu) fun q0 h0=>bd (L48x2 _ _ _ h0.1 hu) fun q2 h2=>bd (Y1l _ _ _ h2.1 hu ?_ ?_ h2.2.2) fun v34 hv=>br (fun _=>?_) fun _=>K48x3 hv.2 hv.1 ⟨hv.2.attL,hv.2.att⟩
 ·exact h0.2
 ·exact h2.2.1
 ·exact bd (Z78 _ _ hv.1 (by simp)) fun v1 h1=>bd (Z78 _ _ h1 hu.src) fun v2 h2=>bd (Zve _) fun v5 h5=>K48x3 hv.2 h2 ⟨by simp,fun a ha=>by rw [List.mem_singleton.1 ha]; show v5.length≤_; omega⟩
theorem Y17 (x:Z0i) (u:Z0l) (hp:Z13 x.f_P) (hu:Z5a u):Ok (Zbx x u) (fun r=>Zbz u r.2):=by
 unfold Zbx
 refine (bd (Zfa _ _ hp hu.n) fun v0 h0=>br (fun _=>bd (Zfa _ _ h0 hu.sup) fun v1 h1=>K48x1 hu h1) fun _=>K48x1 hu h0:Ok _ (fun r:Z0i×Z28=>Z13 r.1.f_P∧Zbz u r.2)).mono fun r hr=>hr.2
end Go.Proofs
set_option linter.unusedVariables false
namespace Go.Proofs
open Go.Den Go.Tot
theorem Zot (s:List UInt8) (a:Int) (hs:Str s) (h0:0≤a) (h1:a≤s.length):Ok (Zbf s a) (fun r=>r.2= -1∨(a<r.2∧r.2≤s.length)):=by
 unfold Zbf
 refine bd (P:=fun q:Int×Int=>a≤q.2∧q.2≤(s.length:Int)∧0≤q.1∧q.1≤4503599627370496) (lp (fun t=>t.1) s.length (fun t=>0≤t.2∧t.2≤t.1∧a≤t.1) (fun t hI g0 g1=>?_) (by omega) ⟨by omega,h0,by omega⟩ h0 h1) fun q hq=>?_
 ·unfold l60x1 j60x1
  refine brD (fun hlt=>bd gs fun _ _=>brE (fun _=>bd wr fun _ _=>bd wr fun _ _=>nx ?_ ?_ ?_) fun _=>dn ?_) fun _=>dn ?_ <;> dsimp only <;> omega
 ·obtain ⟨q1,q2⟩:=q
  dsimp only at hq ⊢
  have j2:∀ (v:Int) (p0:List UInt8) (p1:Int),Str p0→a<p1→p1≤s.length→Ok (Zfb (q1,q2) v p0 p1) (fun r=>r.2= -1∨(a<r.2∧r.2≤s.length)):=fun v p0 p1 g1 g2 g3=>by
   unfold Zfb
   exact bd (Zv5 _ g1) fun b _=>br! (fun _=>ok (.inl rfl)) fun _=>ok (.inr ⟨g2,g3⟩)
  refine brD (fun _=>ok (.inl rfl)) fun _=>bd gs fun v5 _=>bd wr fun v6 h6=>brE (fun _=>?_) fun _=>j2 _ _ _ (by simp) (by omega) (by omega)
  refine bd (P:=fun q:Int=>v6≤q∧q≤(s.length:Int)) (lp (fun t=>t) s.length (fun t=>v6≤t) (fun t hI g0 g1=>?_) (by omega) (by omega) (by omega) (by omega)) fun q hq2=>?_
  ·unfold l60x2
   exact brD (fun hlt=>bd gs fun _ _=>brN (fun _=>bd wr fun _ _=>nx (by omega) (by omega) (by omega)) fun _=>dn ⟨by omega,by omega⟩) fun _=>dn ⟨by omega,by omega⟩
  ·exact brD (fun _=>ok (.inl rfl)) fun _=>bd (sb (by omega) (by omega) (by omega)) fun v11 h11=>bd wr fun v12 h12=>j2 _ _ _ (by have:=h11.1; unfold Str at *; omega) (by omega) (by omega)
theorem Zfl (s:List UInt8) (hs:Str s):Ok (Z6z s) (fun _=>True):=by
 unfold Z6z
 exact bd (Zot s 0 hs (by omega) (by omega)) fun v _=>brN (fun _=>ok trivial) fun _=>ok trivial
theorem Zqh {s:List UInt8} (h:(s==([]:List UInt8))=false):0<s.length:=by
 cases s with
 | nil=>simp at h
 | cons a r=>simp
theorem Y1f (s:List UInt8) (hs:Str s):Ok (Zix s) (fun _=>True):=by
 unfold Zix Zm6
 exact bd (Zgz s hs) fun b _=>br (fun _=>ok trivial) fun _=>br (fun _=>ok trivial) fun h=>by
  have:=Zqh h
  exact bd gs fun v _=>brN (fun _=>ok trivial) fun _=>bd (Zfl s hs) fun v _=>ok trivial
theorem Zoz (s:List UInt8) (hs:Str s):Ok (Zbo s) (fun b=>b=true→0<s.length):=by
 unfold Zbo
 refine br (fun h=>ok fun _=>?_) fun _=>br (fun h=>ok fun _=>?_) fun _=>brD (fun _=>bd (Zms s hs) fun b hb=>ok fun h=>?_) fun _=>ok fun h=>by cases h
 ·rw [eq_of_beq h]; simp
 ·rw [eq_of_beq h]; simp
 ·exact List.length_pos_iff.2 (hb h)
theorem Zmj (s:List UInt8) (hs:s.length≤1048576):Ok (Zbv s) (fun r=>r.1.Z7e.length≤1048576):=by
 unfold Zbv
 refine br (fun _=>ok (by simp)) fun h=>?_
 have hpos:=Zqh h
 refine bd gs fun v _=>brN (fun _=>ok (by simp)) fun _=>?_
 unfold Zlw
 refine bd (P:=fun q:(List Z0q×Int)⊕(Z2k×Int)=>match q with|.inl q=>q.1.length≤1048576∧0≤q.2∧q.2≤(s.length:Int)|.inr y=>y.1.Z7e=[]) (lp (fun t=>t.1) s.length (fun t=>(t.2.length:Int)≤t.1) (fun t hI g0 g1=>?_) (by omega) (by simp)) fun q hq=>?_
 ·unfold Zpf Zmm Znv
  have hd:t.2.length≤1048576∧0≤t.1∧t.1≤s.length:=⟨by omega,g0,g1⟩
  refine brD (fun hlt=>bd gs fun _ _=>brN (fun _=>?_) fun _=>dn hd) fun _=>dn hd
  refine bd (Zot s t.1 (by unfold Str; omega) g0 g1) fun r hr=>brD (fun _=>dn rfl) fun hnn=>brE (fun _=>dn rfl) fun _=>?_
  have hlt2:t.1<r.2∧r.2≤s.length:=by omega
  exact bd gk fun _ _=>nx (by simp only [List.length_append,List.length_cons,List.length_nil]; omega) hlt2.1 hlt2.2
 ·cases q with
  | inr y=>exact ok (by rw [hq]; simp)
  | inl q=>
   obtain ⟨h1,h2,h3⟩:=hq
   refine brD (fun _=>ok (by simp)) fun _=>bd wr fun v hv=>bd (Zot s v (by unfold Str; omega) (by omega) (by omega)) fun r _=>brN (fun _=>ok (by simp)) fun _=>brD (fun _=>ok (by simp)) fun _=>ok (by dsimp only; exact h1)
theorem Y0b (s:List UInt8) (hs:s.length≤1048576):Ok (Zjm s) (fun _=>True):=by
 unfold Zjm
 exact bd (Zfl s (by unfold Str; omega)) fun v _=>brE (fun _=>ok trivial) fun _=>bd (Zmj s hs) fun _ _=>ok trivial
def Ent (p:List Z00) (i:Int) (c:Z00):Prop:=∃ k:Nat,i=(k:Int)+1∧p[k]?=some c
theorem Ent.mem {p:List Z00} {i:Int} {c:Z00} (h:Ent p i c):c∈p:=by
 obtain ⟨k,-,h⟩:=h
 exact List.mem_of_getElem? h
theorem Zdm (p:List Z00) (i:Int) (hp:p.length≤140737488355328):Ok (Z7a p i) (fun r=>(r.2=0→Ent p i r.1)∧(r.2≠0→r.1.f_S=[])):=by
 unfold Z7a
 refine brD (fun _=>ok ⟨by simp,by simp⟩) fun _=>brD (fun _=>ok ⟨by simp,by simp⟩) fun _=>bd wr fun v hv=>bd gri fun c hc=>ok ⟨fun _=>⟨v.toNat,by omega,hc.2⟩,by simp⟩
theorem Zik (p:List Z00) (i t:Int) (hp:p.length≤140737488355328):Ok (Z8q p i t) (fun r=>(r.2=0→Ent p i r.1∧r.1.Z1o=t)∧(r.2≠0→r.1.f_S=[])):=by
 unfold Z8q
 exact bd (Zdm p i hp) fun v hv=>brN (fun h=>ok ⟨fun h'=>absurd h' h,fun _=>rfl⟩) fun h=>brN (fun _=>ok ⟨by simp,by simp⟩) fun ht=>ok ⟨fun _=>⟨hv.1 h,ht⟩,by simp⟩
theorem Z4d (p:List Z00) (i:Int) (hp:p.length≤140737488355328):Ok (Z36 p i) (fun r=>r.1=[]∨∃ c,Ent p i c∧r.1=c.f_S):=by
 unfold Z36
 refine bd (Zik p i 1 hp) fun v hv=>ok ?_
 by_cases h:v.2=0
 ·exact .inr ⟨_,(hv.1 h).1,rfl⟩
 ·exact .inl (hv.2 h)
abbrev PS (p:List Z00) (B:Nat):Prop:=∀ c∈p,c.f_S.length≤B
theorem Zb0 {p:List Z00} {i:Int} {B:Nat} (h:PS p B) {s:List UInt8} (hs:s=[]∨∃ c,Ent p i c∧s=c.f_S):s.length≤B:=by
 rcases hs with rfl|⟨c,hc,rfl⟩
 ·simp
 ·exact h c hc.mem
theorem Znt (p:List Z00) (i:Int) {B:Nat} (hp:p.length≤140737488355328) (h:PS p B):Ok (Zc6 p i) (fun r=>r.1.length≤B):=by
 unfold Zc6
 exact bd (Zik p i 7 hp) fun v hv=>brN (fun _=>ok (by simp)) fun _=>bd (Z4d p _ hp) fun r hr=>ok (Zb0 h hr)
theorem Zfe (t:Int):Ok (Z8f t) (fun _=>True):=by
 unfold Z8f
 exact br (fun _=>ok trivial) fun _=>br (fun _=>ok trivial) fun _=>ok trivial
theorem Zxq (p:List Z00) (i:Int) (hp:p.length≤140737488355328):Ok (Zcv p i) (fun r=>(r.1=[]∨∃ c,c∈p∧r.1=c.f_S)∧(r.2.1=[]∨∃ c d,Ent p i c∧Ent p c.f_B d∧r.2.1=d.f_S)):=by
 unfold Zcv
 refine bd (Zik p i 12 hp) fun v hv=>brN (fun _=>ok ⟨.inl rfl,.inl rfl⟩) fun h=>bd (Z4d p _ hp) fun a ha=>brN (fun _=>ok ⟨.inl rfl,.inl rfl⟩) fun _=>bd (Z4d p _ hp) fun b hb=>brN (fun _=>ok ⟨.inl rfl,.inl rfl⟩) fun _=>ok ⟨?_,?_⟩
 ·rcases ha with h1|⟨c,hc,h1⟩
  ·exact .inl h1
  ·exact .inr ⟨c,hc.mem,h1⟩
 ·rcases hb with h1|⟨c,hc,h1⟩
  ·exact .inl h1
  ·exact .inr ⟨_,c,(hv.1 h).1,hc,h1⟩
theorem Y2j (p:List Z00) (i t:Int) {B:Nat} (hp:p.length≤140737488355328) (h:PS p B):Ok (Zh6 p i t) (fun _=>True):=by
 unfold Zh6 Zlc
 exact bd (Zdm p i hp) fun v hv=>brN (fun _=>ok trivial) fun _=>bd (Zfe t) fun b _=>br! (fun _=>ok trivial) fun _=>brN (fun _=>ok trivial) fun _=>bd (Znt p _ hp h) fun r _=>brN (fun _=>ok trivial) fun _=>bd (Zxq p _ hp) fun r _=>brN (fun _=>ok trivial) fun _=>ok trivial
theorem Zz6 (t:Int):Ok (Zjt t) (fun _=>True):=by
 unfold Zjt
 repeat' first
  | exact ok trivial
  | with_reducible refine br (fun _=>?_) fun _=>?_
  | exact bd (Zfe t) fun _ _=>ok trivial
theorem Y09 (c:Z00):Ok (Zft c) (fun b=>b=true→c.Z1o≠1→c.f_S=[]):=by
 have h2:(c.Z1o≠1→c.f_S=[])→∀ p,Ok (Zfr c p) (fun b=>b=true→c.Z1o≠1→c.f_S=[]):=fun h p=>by
  unfold Zfr
  repeat' first
   | exact ok fun _=>h
   | with_reducible refine br (fun _=>?_) fun _=>?_
 have h1:(c.Z1o≠1→c.f_S=[])→Ok (Z82 c) (fun b=>b=true→c.Z1o≠1→c.f_S=[]):=fun h=>by
  unfold Z82
  exact br (fun _=>h2 h _) fun _=>bd (Zfe _) fun _ _=>h2 h _
 unfold Zft
 refine brN (fun _=>br! (fun _=>ok fun h=>by cases h) fun he=>?_) fun h1'=>?_
 ·have hS:c.f_S=[] :=by simpa using he
  repeat' first
   | exact h1 fun _=>hS
   | exact ok fun h=>by cases h
   | with_reducible refine brN (fun _=>?_) fun _=>?_
 ·repeat' first
   | exact h1 fun h=>absurd h1' h
   | exact ok fun h=>by cases h
   | with_reducible refine brN (fun _=>?_) fun _=>?_
theorem Y0f (p:List Z00) (c:Z00) (hp:p.length≤140737488355328):Ok (Zgx p c) (fun _=>True):=by
 have hr:∀ i t,Ok (Zkf p i t) (fun _=>True):=fun i t=>bd (Zik p i t hp) fun _ _=>ok trivial
 have h1:∀ a b,Ok (Zek p c a b) (fun _=>True):=fun a b=>by
  unfold Zek Zpe
  exact bd (hr _ _) fun v _=>brN (fun _=>ok trivial) fun _=>br (fun _=>ok trivial) fun _=>br (fun _=>ok trivial) fun _=>bd (hr _ _) fun _ _=>ok trivial
 unfold Zgx
 exact bd (Zfe _) fun b _=>br (fun _=>h1 _ _) fun _=>h1 _ _
theorem Zzu (t:Int) (a b:List UInt8) (hb:b.length≤1048576):Ok (Zgu t a b) (fun _=>True):=by
 unfold Zgu
 refine bd (Zmj b hb) fun v _=>?_
 repeat' first
  | exact ok trivial
  | with_reducible refine brD (fun _=>?_) fun _=>?_
  | with_reducible refine br (fun _=>?_) fun _=>?_
  | with_reducible refine bd gs fun _ _=>?_
theorem Y0p (p:List Z00) (hp:Z13 p) (k:Nat) (c:Z00) (hc:p[k]?=some c) (hG:∀ (j:Nat) d,j<k→p[j]?=some d→d.f_S.length≤1024):Ok (Zbt p c) (fun e=>e=0→c.f_S.length≤1024):=by
 have hl:p.length≤140737488355328:=by have:=hp.len; omega
 have ho:=hp.ord k c hc
 have hu:∀ i:Int,i≤k→∀ s:List UInt8,(s=[]∨∃ d,Ent p i d∧s=d.f_S)→s.length≤1024:=fun i hi s hs=>by
  rcases hs with rfl|⟨d,⟨j,h1,h2⟩,rfl⟩
  ·simp
  ·exact hG j d (by omega) h2
 have h2:Ok (Zdf p c) (fun _=>True):=by
  unfold Zdf
  refine bd (Zfe _) fun b _=>br (fun _=>bd (Zxq p _ hl) fun r hr=>brE (fun _=>bd (Zzu _ _ _ ?_) fun _ _=>ok trivial) fun _=>ok trivial) fun _=>ok trivial
  rcases hr.2 with h|⟨d,e,h1,h2,h3⟩
  ·rw [h]; simp
  ·obtain ⟨j,e1,e2⟩:=h1
   have:=hp.ord j d e2
   exact Nat.le_trans (hu d.f_B (by omega) _ (.inr ⟨e,h2,h3⟩)) (by omega)
 have h1:Ok (Zf4 p c) (fun _=>True):=by
  unfold Zf4
  refine brE (fun _=>bd (Z4d p _ hl) fun a ha=>bd (Z4d p _ hl) fun b hb=>bd (Zoz _ (by have:=hu _ ho.1 _ ha; unfold Str; omega)) fun _ _=>br! (fun _=>ok trivial) fun _=>bd (Y0b _ (by have:=hu _ ho.2 _ hb; omega)) fun _ _=>br! (fun _=>ok trivial) fun _=>h2) fun _=>h2
 have hcont:Ok (Zj5 p c) (fun _=>True):=by
  unfold Zj5
  exact brE (fun _=>bd (Z4d p _ hl) fun a ha=>bd (Y1f _ (by have:=hu _ ho.1 _ ha; unfold Str; omega)) fun _ _=>brN (fun _=>ok trivial) fun _=>h1) fun _=>h1
 have hj:c.f_S.length≤1024→Ok (Z9u p c) (fun e=>e=0→c.f_S.length≤1024):=fun hs=>by
  unfold Z9u Zpw
  refine br (fun _=>ok fun _=>hs) fun _=>br (fun _=>ok fun _=>hs) fun _=>br (fun _=>ok fun _=>hs) fun _=>bd (Y0f p c hl) fun _ _=>brN (fun _=>ok fun _=>hs) fun _=>bd hcont fun _ _=>ok fun _=>hs
 unfold Zbt
 refine bd (Zz6 _) fun _ _=>br! (fun _=>ok (by simp)) fun _=>bd (Y09 c) fun b hb=>br! (fun _=>ok (by simp)) fun hf=>brE (fun ht=>brD (fun _=>ok (by simp)) fun hs=>?_) fun ht=>?_
 ·repeat' first
   | exact hj (by omega)
   | exact ok (by simp)
   | with_reducible refine brD (fun _=>?_) fun _=>?_
   | with_reducible refine brE (fun _=>?_) fun _=>?_
 ·have hS:=hb hf ht
  repeat' first
   | exact hj (by rw [hS]; simp)
   | exact ok (by simp)
   | with_reducible refine brD (fun _=>?_) fun _=>?_
   | with_reducible refine brE (fun _=>?_) fun _=>?_
theorem Zsd (p:List Z00) (hp:Z13 p):Ok (Zad p) (fun r=>r.2=0→PS p 1024):=by
 have:=hp.len
 unfold Zad
 refine brD (fun _=>ok (by simp)) fun _=>bd (P:=fun q:Unit⊕(Int×Int)=>match q with|.inl _=>PS p 1024|.inr y=>y.2≠0) (lp (fun t=>t) p.length (fun t=>∀ (j:Nat) d,(j:Int)<t→p[j]?=some d→d.f_S.length≤1024) (fun t hI h0 h1=>?_) (by omega) (fun j v h=>by omega) (by omega) (by omega)) fun q hq=>?_
 ·unfold Zj6
  refine brD (fun hlt=>?_) fun hge=>dn fun v hv=>?_
  ·refine bd gri fun c hc=>bd (Y0p p hp t.toNat c hc.2 fun j d hj hd=>hI j d (by omega) hd) fun e he=>brN (fun h=>bd wr fun _ _=>dn h) fun h=>bd wr fun v2 h2=>nx (fun j v hj hv=>?_) (by omega) (by omega)
   rcases Int.lt_or_le (j:Int) t with hlt|hge
   ·exact hI j v hlt hv
   ·have:j=t.toNat:=by omega
    subst this
    rw [hc.2] at hv; cases hv
    exact he h
  ·obtain ⟨j,hj⟩:=List.mem_iff_getElem?.1 hv
   exact hI j v (by have:=(List.getElem?_eq_some_iff.1 hj).1; omega) hj
 ·cases q with
  | inl _=>exact ok fun _=>hq
  | inr y=>exact ok fun h=>absurd h hq
end Go.Proofs
set_option linter.unusedVariables false
namespace Go.Proofs
open Go.Den Go.Tot
theorem Z5o {α R:Type} {l:List α} {P:α→Prop} {f:Int→Option (Ctl Int R)} {Q:R→Prop} (hn:l.length≤140737488355328) (h:∀ t:Int,0≤t→t<l.length→∀ v,l[t.toNat]?=some v→v∈l→Z05 l t=some v→Ok (f t) (fun x=>match x with|.next t'=>t'=t+1∧P v|.done r=>Q r))
  (he:∀ t:Int,0≤t→t=(l.length:Int)→(∀ v∈l,P v)→Ok (f t) (fun x=>match x with|.next _=>False|.done r=>Q r)):Ok (Z07 f Z09 0) Q:=by
 refine lp (fun t=>t) l.length (fun t=>∀ (j:Nat) v,(j:Int)<t→l[j]?=some v→P v) (fun t hI h0 h1=>?_) (by omega) (fun j v h=>by omega) (by omega) (by omega)
 rcases Int.lt_or_le t (l.length:Int) with hlt|hge
 ·obtain ⟨v,hg,hm,hi⟩:=gri (l:=l) h0 hlt
  refine (h t h0 hlt v hi hm hg).mono fun x hx=>?_
  cases x with
  | done r=>exact hx
  | next t'=>
   obtain ⟨rfl,hP⟩:=hx
   refine ⟨fun j w hj hw=>?_,by dsimp only; omega,by dsimp only; omega⟩
   rcases Int.lt_or_le (j:Int) t with h'|h'
   ·exact hI j w h' hw
   ·have:j=t.toNat:=by omega
    subst this
    rw [hi] at hw; cases hw; exact hP
 ·refine (he t h0 (by omega) fun v hv=>?_).mono fun x hx=>?_
  ·obtain ⟨j,hj⟩:=List.mem_iff_getElem?.1 hv
   exact hI j v (by have:=(List.getElem?_eq_some_iff.1 hj).1; omega) hj
  ·cases x with
   | done r=>exact hx
   | next t'=>exact absurd hx id
def tgt (x:Z01):List Int:=if 36≤x.f_Op∧x.f_Op≤54 then [x.f_To]++x.Z0b else []
theorem Z41.tosL {x:Z01} (h:Z41 x):x.Z0b.length≤64:=by
 by_cases h1:x.f_Op=53
 ·exact (h.tab h1).2
 ·by_cases h2:x.f_Op=54
  ·have:=h.look h2; omega
  ·rw [h.few h1 h2]; simp
theorem Zqt (x:Z01) (h:Z41 x):Zcu x=some (tgt x):=by
 unfold Zcu tgt
 rw [Zrz]
 have:=h.tosL
 by_cases hb:36≤x.f_Op∧x.f_Op≤54
 ·rw [if_pos hb]
  simp only [Option.bind_some,hb]
  obtain ⟨u,hu,-⟩:=gk (b:=8) (n:=([x.f_To]++x.Z0b).length) (by simp only [List.length_append,List.length_cons,List.length_nil]; omega) (by simp only [List.length_append,List.length_cons,List.length_nil]; omega)
  simp only [List.length_append,List.length_cons,List.length_nil,Nat.zero_add,Nat.add_comm] at hu
  simp [hu]
 ·rw [if_neg hb]
  simp [hb]
theorem put_ok (x:Z01) (at_:List Int) (hx:Z2l x) (hc:Z41 x) (ht:∀ t∈tgt x,t<at_.length):Ok (Zko x at_) (fun r=>r.length≤1000):=by
 have htl:=hc.tosL
 have hbr:36≤x.f_Op→x.f_Op≤54→0≤x.f_To∧x.f_To<at_.length∧∀ v∈x.Z0b,0≤v∧v<at_.length:=fun h h'=>by
  have e:tgt x=[x.f_To]++x.Z0b:=if_pos ⟨h,h'⟩
  rw [e] at ht
  exact ⟨(hc.aim h h').1,ht _ (by simp),fun v hv=>⟨(hc.aim h h').2 v hv,ht v (by simp [hv])⟩⟩
 have num:=fun y n hn=>Zz4 y n hn
 unfold Zko
 refine bd (num _ 1 (by omega)) fun v0 h0=>bd (Zfo x.f_Op) fun k hk=>?_
 obtain ⟨k3,k6,k7,km,k0,k1⟩:=hk
 refine brE (fun _=>?_) fun _=>brE (fun _=>?_) fun _=>brE (fun h3=>?_) fun _=>brE (fun _=>?_) fun _=>brE (fun _=>?_) fun _=>brE (fun h6=>?_) fun _=>brE (fun h7=>?_) fun _=>ok (by omega)
 ·exact bd (num _ 1 (by omega)) fun v1 h1=>bd (ct (by omega)) fun v2 h2=>ok (by omega)
 ·exact bd (num _ 2 (by omega)) fun v1 h1=>bd (ct (by omega)) fun v2 h2=>ok (by omega)
 ·have hb:=hbr (by omega) (by omega)
  exact bd (gr hb.1 hb.2.1) fun v _=>bd (num _ 2 (by omega)) fun v1 h1=>bd (ct (by omega)) fun v2 h2=>ok (by omega)
 ·exact bd (num _ 1 (by omega)) fun v1 h1=>bd (ct (by omega)) fun v2 h2=>ok (by omega)
 ·exact bd (num _ 1 (by omega)) fun v1 h1=>bd (ct (by omega)) fun v2 h2=>bd (num _ 1 (by omega)) fun v3 h3=>bd (ct (by omega)) fun v4 h4=>ok (by omega)
 ·have hb:=hbr (by omega) (by omega)
  refine bd (gr hb.1 hb.2.1) fun v _=>bd (num _ 2 (by omega)) fun v1 h1=>bd (ct (by omega)) fun v2 h2=>bd (num _ 4 (by omega)) fun v3 h3=>bd (ct (by omega)) fun v4 h4=>bd (num _ 2 (by omega)) fun v5 h5=>bd (ct (by omega)) fun v6 h6=>bd (P:=fun r=>r.length≤1000) ?_ fun q hq=>ok hq
  refine lp (fun t=>t.2) x.Z0b.length (fun t=>(t.1.length:Int)≤100+8*t.2) (fun t hI g0 g1=>?_) (by omega) (by dsimp only; omega)
  unfold Zn2
  refine brD (fun hlt=>bd gr fun w hw=>bd (gr (hb.2.2 w hw).1 (hb.2.2 w hw).2) fun z _=>bd (num _ 2 (by omega)) fun y1 e1=>bd (ct (by omega)) fun y2 e2=>bd wr fun k hk=>nx (by dsimp only; omega)) fun _=>dn (by omega)
 ·have hb:=hbr (by omega) (by omega)
  have hlk:=hc.look (by omega)
  refine bd (gr hb.1 hb.2.1) fun v _=>bd (num _ 2 (by omega)) fun v1 h1=>bd (ct (by omega)) fun v2 h2=>bd (num _ 2 (by omega)) fun v3 h3=>bd (ct (by omega)) fun v4 h4=>bd (P:=fun r=>r.length≤1000) ?_ fun q hq=>ok hq
  refine lp (fun t=>t.2) x.Z0t.length (fun t=>(t.1.length:Int)≤100+8*t.2) (fun t hI g0 g1=>?_) (by omega) (by dsimp only; omega)
  unfold Zl4
  refine brD (fun hlt=>bd gr fun w0 hw0=>bd (num _ 4 (by omega)) fun z1 e1=>bd (ct (by omega)) fun z2 e2=>bd gr fun w hw=>bd (gr (hb.2.2 w hw).1 (hb.2.2 w hw).2) fun z _=>bd (num _ 2 (by omega)) fun y1 e1=>bd (ct (by omega)) fun y2 e2=>bd wr fun k hk=>nx (by dsimp only; omega)) fun _=>dn (by omega)
theorem enc_ok (l:List Z01) (hl:∀ i∈l,Z2l i) (hn:l.length≤140737488355328):Ok (Zjr l) (fun r=>r.1.length≤1000000):=by
 unfold Zjr
 refine bd (Zo0 l hl hn) fun v0 h0=>brN (fun _=>ok (by simp)) fun h=>?_
 obtain ⟨g1,g2,g3⟩:=h0.1 h
 refine bd (P:=fun q:Unit⊕(List UInt8×Int)=>match q with|.inl _=>∀ i∈l,∀ t∈tgt i,t<l.length|.inr y=>y.1=[]) (Z5o (P:=fun i=>∀ t∈tgt i,t<l.length) hn (fun t h0 h1 i hi hm hg=>?_) fun t h0 h1 ha=>?_) fun q hq=>?_
 ·unfold Zgo
  rw [hg]
  have hf:(tgt i).length≤65:=by
   have:=(g3 i hm).tosL
   unfold tgt; split <;> simp; omega
  refine brD (fun _=>bs ?_) fun h=>absurd h1 h
  rw [Zqt i (g3 i hm)]
  refine bs (bd (P:=fun q:Unit⊕(List UInt8×Int)=>match q with|.inl _=>∀ t∈tgt i,t<l.length|.inr y=>y.1=[]) (Z5o (l:=tgt i) (P:=fun t=>t<(l.length:Int)) (by omega) (fun k k0 k1 v hv hvm hvg=>?_) fun k k0 k1 ha=>?_) fun q hq=>?_)
  ·unfold Zkn
   rw [hvg]
   exact brD (fun _=>bs (brD (fun _=>ok rfl) fun _=>bd wr fun w hw=>ok ⟨hw,by omega⟩)) fun h=>absurd k1 h
  ·unfold Zkn
   exact brD (fun h=>absurd h (by omega)) fun _=>ok ha
  ·cases q with
   | inl _=>exact bd wr fun w hw=>ok ⟨hw,hq⟩
   | inr y=>exact ok hq
 ·unfold Zgo
  exact brD (fun h=>absurd h (by omega)) fun _=>ok ha
 ·cases q with
  | inr y=>exact ok (by rw [hq]; simp)
  | inl _=>
   refine bd (P:=fun r=>r.length≤1000000) (lp (fun t=>t.2) l.length (fun t=>(t.1.length:Int)≤1000*t.2) (fun t hI k0 k1=>?_) (by omega) (by simp)) fun q6 h6=>ok h6
   unfold l82x3
   refine brD (fun hlt=>bd gr fun i hi=>bd (put_ok i v0.1 (hl i hi) (g3 i hi) fun t ht=>by have:=hq i hi t ht; omega) fun y hy=>bd (ct (by omega)) fun z hz=>bd wr fun w hw=>nx (by dsimp only; omega)) fun _=>dn (by omega)
theorem Zvm (l:List Z0h) (at_:List Int) (hn:l.length≤140737488355328) (h5:∀ v∈l,v.Z2d=5→0≤v.Z3f∧v.Z3f<at_.length):Ok (Zcy l at_) (fun r=>r.length≤1+5*l.length):=by
 unfold Zcy
 refine bd (Zmv _) fun v0 h0=>bd (P:=fun r=>r.length≤1+5*l.length) (lp (fun t=>t.2) l.length (fun t=>(t.1.length:Int)≤1+5*t.2) (fun t hI k0 k1=>?_) (by omega) (by dsimp only; omega)) fun q hq=>ok hq
 unfold l86x1
 refine brD (fun hlt=>?_) fun _=>dn (by omega)
 obtain ⟨v,hg,hm⟩:=gr (l:=l) (i:=t.2) (by omega) hlt
 simp only [hg]
 have hj:∀ p:List UInt8,(p.length:Int)≤1+5*t.2+3→Ok (Zef t l p) (St (fun t=>(t.1.length:Int)≤1+5*t.2) (fun t=>t.2) l.length (fun r=>r.length≤1+5*l.length) t):=fun p hp=>by
  unfold Zef
  simp only [hg]
  exact bs (brD (fun _=>bs (bd (Z4j _) fun z hz=>bd (ct (by omega)) fun y hy=>bd wr fun w hw=>nx (by dsimp only; omega))) fun _=>bd wr fun w hw=>nx (by dsimp only; omega))
 refine bs (bd (Zmv _) fun a ha=>bd (ct (by omega)) fun b hb=>bs (brE (fun h=>bs (bd (gr (h5 v hm h).1 (h5 v hm h).2) fun y _=>bd (Z4j _) fun z hz=>bd (ct (by omega)) fun w hw=>hj w (by omega))) fun _=>hj b (by omega)))
theorem Zt9 (l:List Int):Ok (Zdc l) (fun r=>Str r.1):=by
 unfold Zdc
 refine brD (fun _=>ok (by simp)) fun _=>bd (Z4j _) fun v0 h0=>bd (P:=fun q:List UInt8⊕(List UInt8×Int)=>match q with|.inl q=>q.length≤1000|.inr y=>y.1=[]) (lp (fun t=>t.2) l.length (fun t=>(t.1.length:Int)≤2+2*t.2) (fun t hI k0 k1=>?_) (by omega) (by dsimp only; omega)) fun q hq=>?_
 ·unfold l70x1 j70x1
  refine brD (fun hlt=>bd gr fun _ _=>brD (fun _=>dn rfl) fun _=>bd gr fun _ _=>brD (fun _=>dn rfl) fun _=>bd gr fun _ _=>bd (Z4j _) fun y hy=>bd (ct (by omega)) fun z hz=>bd wr fun w hw=>nx (by dsimp only; omega)) fun _=>dn (by dsimp only; omega)
 ·cases q with
  | inl q => exact ok (by have h:q.length≤1000:=hq
                          show q.length≤_; omega)
  | inr y=>exact ok (by rw [hq]; simp)
structure CPre (c:Z0a):Prop where
 ins:∀ i∈c.Z0j,Z2l i
 insL:c.Z0j.length≤140737488355328
 hndL:c.Z1w.length≤140737488355328
 mapL:c.Z1f.length≤140737488355328
 linL:c.Z1q.length≤140737488355328
 frm:∀ m∈c.Z1f,m.Z1h.Z0u.length≤140737488355328∧m.Z1h.Z0x.length≤140737488355328
theorem Z52.pre {c:Z0a} (h:Z52 c):CPre c:=⟨h.ins,by have:=h.insL; omega,by have:=h.hndL; omega,by have:=h.mapL; omega,by have:=h.linL; omega,fun m hm=>⟨by have:=(h.map m hm).locL; omega,by have:=(h.map m hm).stkL; omega⟩⟩
def Chk0 (l:List Z01):Prop:=∀ i∈l,Z4w i=some 0
theorem all_ok (l:List Z01) (hl:∀ i∈l,Z2l i) (hn:l.length≤140737488355328):Ok (Zgf l) (fun b=>Chk0 l→b=true):=by
 unfold Zgf
 refine bd (P:=fun q:Unit⊕Bool=>match q with|.inl _=>True|.inr b=>¬ Chk0 l) (li l.length (fun t h0 h1=>?_) (by omega) (by omega) (by omega)) fun q hq=>?_
 ·unfold Zpi
  refine brD (fun _=>bd gr fun i hi=>bdE (Zdz i (hl i hi)) fun e he _=>brN (fun h=>di fun hc=>h ?_) fun _=>bd wr fun _ _=>ni (by omega) (by omega)) fun _=>di trivial
  rw [hc i hi] at he; cases he; rfl
 ·cases q with
  | inl _=>exact ok fun _=>rfl
  | inr b=>exact ok fun h=>absurd h hq
theorem Y40 (l:List Z01) (hl:∀ i∈l,Z2l i) (hn:l.length≤1000):Ok (Z67 l) (fun r=>Chk0 l→r.2=0∨r.2=8):=by
 unfold Z67
 refine bd (P:=fun q:Unit⊕(List Int×Int)=>match q with|.inl _=>∀ i∈l,Z41 i|.inr y=>¬ Chk0 l) (Z5o (l:=l) (P:=Z41) (by omega) (fun t h0 h1 i hi hm hg=>?_) fun t h0 h1 ha=>?_) fun q hq=>?_
 ·unfold Zci
  rw [hg]
  refine brD (fun _=>bs (bdE (Zdz i (hl i hm)) fun e he hc=>brN (fun h=>ok fun hc=>h ?_) fun h=>bd wr fun w hw=>ok ⟨hw,hc h⟩)) fun h=>absurd h1 h
  rw [hc i hm] at he; cases he; rfl
 ·unfold Zci
  exact brD (fun h=>absurd h (by omega)) fun _=>ok ha
 ·cases q with
  | inr y=>exact ok fun h=>absurd h hq
  | inl _=>
   have hch:∀ i∈l,Z41 i:=hq
   refine brD (fun h=>absurd h (by omega)) fun _=>bd (P:=fun r=>r.length=l.length+1) ?_ fun q2 hq2=>bd ik fun j hj=>bd (la (by omega)) fun _ _=>brD (fun _=>ok fun _=> .inr rfl) fun _=>ok fun _=> .inl rfl
   refine lp (fun t=>t.1) l.length (fun t=>(t.2.length:Int)=t.1+1∧∀ v∈t.2,0≤v∧v≤400*t.1) (fun t hI h0 h1=>?_) (by omega) ⟨rfl,by simp⟩
   obtain ⟨hI1,hI2⟩:=hI
   unfold Zgh
   refine brD (fun hlt=>?_) fun hge=>dn (by omega)
   refine bd ik fun j hj=>bd (la (by omega)) fun v hv=>bd gr fun i hi=>bd (Zvp i (hl i hi) (hch i hi)) fun n hn=>?_
   have hv2:=hI2 v hv.2
   refine bd wr fun w hw=>bd gk fun _ _=>bd wr fun k hk=>?_
   refine nx ⟨by simp only [List.length_append,List.length_cons,List.length_nil]; omega,Z7x (fun v hv=>?_) ?_⟩
   ·have:=hI2 v hv; dsimp only; omega
   ·dsimp only; omega
theorem head_ok (p:List Z00) (c:Z0a) (hp:Z13 p) (hc:CPre c):Ok (Zhk p c) (fun e=>e=0→PS p 1024∧(c.Z0u≤32∧c.Z0x≤32)∧1≤c.Z0j.length∧c.Z0j.length≤1000∧(Chk0 c.Z0j→∃ v,Z67 c.Z0j=some v∧v.2=0)):=by
 unfold Zhk
 refine bd (Zsd p hp) fun v0 h0=>brN (fun h=>ok fun h'=>absurd h' h) fun h=>?_
 have hps:=h0 h
 have hj:c.Z0u≤32∧c.Z0x≤32→Ok (Zfy c) (fun e=>e=0→PS p 1024∧(c.Z0u≤32∧c.Z0x≤32)∧1≤c.Z0j.length∧c.Z0j.length≤1000∧(Chk0 c.Z0j→∃ v,Z67 c.Z0j=some v∧v.2=0)):=fun hLT=>by
  unfold Zfy Zkw
  refine brE (fun _=>ok (by simp)) fun h1=>brD (fun _=>ok (by simp)) fun h2=>bd (all_ok _ hc.ins hc.insL) fun b hb=>br (fun _=>bdE (Y40 _ hc.ins (by omega)) fun v hv hv2=>brE (fun he=>ok fun h=>?_) fun he=>ok fun _=>⟨hps,hLT,by omega,by omega,fun hk=>⟨v,hv,(hv2 hk).resolve_right he⟩⟩) fun hf=>ok fun _=>⟨hps,hLT,by omega,by omega,fun hk=>?_⟩
  ·omega
  ·rw [hb hk] at hf; cases hf
 exact brD (fun _=>ok (by simp)) fun _=>brD (fun _=>ok (by simp)) fun _=>brD (fun _=>ok (by simp)) fun _=>brD (fun _=>ok (by simp)) fun _=>hj ⟨by omega,by omega⟩
theorem has_ok (l:List Int) (x:Int) (hl:l.length≤140737488355328):Ok (Zii l x) (fun _=>True):=by
 unfold Zii
 refine bd (li l.length (Q:=fun _=>True) (fun t h0 h1=>?_) (by omega) (by omega) (by omega)) fun q _=>by cases q <;> exact ok trivial
 unfold Zpn
 exact brD (fun _=>bd gr fun _ _=>br (fun _=>di trivial) fun _=>bd wr fun _ _=>ni (by omega) (by omega)) fun _=>di trivial
section
variable {p:List Z00} (hp:p.length≤1000) (hS:PS p 1024)
include hp hS
theorem Zpb (i:Int):Ok (Z92 p i) (fun _=>True):=by
 unfold Z92
 exact bd (Znt p i (by omega) hS) fun v hv=>brE (fun _=>brD (fun _=>bd gs fun _ _=>ok trivial) fun _=>ok trivial) fun _=>ok trivial
theorem Y35 (i:Int):Ok (Z9o p i) (fun _=>True):=by
 unfold Z9o
 exact bd (Zdm p i (by omega)) fun v _=>bd (Y2j p i _ (by omega) hS) fun _ _=>brE (fun _=>ok trivial) fun _=>ok trivial
theorem Y37 (x:Z01):Ok (Zhi p x) (fun _=>True):=by
 have h2:Ok (Zdb p x) (fun _=>True):=by
  unfold Zdb
  have hn:Ok ((Z9o p x.f_A).bind fun v=>if v=true then some 12 else some 0) (fun _:Int=>True):=bd (Y35 hp hS _) fun _ _=>br (fun _=>ok trivial) fun _=>ok trivial
  exact brE (fun _=>hn) fun _=>brE (fun _=>hn) fun _=>brE (fun _=>hn) fun _=>ok trivial
 unfold Zhi
 refine bd (Zdm p x.f_A (by omega)) fun v0 h0=>brN (fun _=>ok trivial) fun he=>?_
 have h1:Ok (Z69 v0 p x) (fun _=>True):=by
  unfold Z69
  exact brE (fun _=>bd (Zfl _ (by have:=hS _ (h0.1 he).mem; unfold Str; omega)) fun _ _=>brN (fun _=>ok trivial) fun _=>brE (fun _=>ok trivial) fun _=>h2) fun _=>h2
 have h3:Ok (if decide (x.f_Op≥59)=true then (if decide (x.f_Op≤66)=true then ((Z92 p v0.1.f_A).bind fun v4=>if (!v4)=true then some 13 else Z69 v0 p x) else Z69 v0 p x) else Z69 v0 p x) (fun _=>True):=
  brD (fun _=>brD (fun _=>bd (Zpb hp hS _) fun _ _=>br! (fun _=>ok trivial) fun _=>h1) fun _=>h1) fun _=>h1
 exact bd (Ztw _) fun v1 g1=>bd (has_ok _ _ (by omega)) fun _ _=>br! (fun _=>ok trivial) fun _=>brE (fun _=>bd (Zpb hp hS _) fun _ _=>br! (fun _=>ok trivial) fun _=>h3) fun _=>h3
theorem Y44 (c:Z0a) (x:Z01) (hx:Z2l x):Ok (Zg8 p c x) (fun e=>e=0→Z4w x=some 0∧Z41 x):=by
 unfold Zg8
 refine bdE (Zdz x hx) fun v0 e0 h0=>brN (fun h=>ok fun h'=>absurd h' h) fun h=>?_
 have hc:=h0 h
 rw [h] at e0
 rw [Zqt x hc]
 have hj:∀ v7,Ok (Zau v7 p x) (fun e=>e=0→Z4w x=some 0∧Z41 x):=fun v7=>by
  unfold Zau
  exact brE (fun _=>bd (Y37 hp hS x) fun _ _=>ok fun _=>⟨e0,hc⟩) fun _=>ok fun _=>⟨e0,hc⟩
 have hf:(tgt x).length≤65:=by
  have:=hc.tosL
  unfold tgt; split <;> simp; omega
 refine bs (bd (P:=fun q:Unit⊕Int=>match q with|.inl _=>True|.inr e=>e≠0) (li (tgt x).length (fun t h0 h1=>?_) (by omega) (by omega) (by omega)) fun q hq=>?_)
 ·unfold Zou
  exact brD (fun _=>bd gr fun _ _=>brD (fun _=>di (by simp)) fun _=>bd gr fun _ _=>brD (fun _=>di (by simp)) fun _=>bd wr fun _ _=>ni (by omega) (by omega)) fun _=>di trivial
 ·cases q with
  | inr e=>exact ok fun h=>absurd h hq
  | inl _=>exact bd (Zfo _) fun v7 _=>brE (fun _=>brD (fun _=>ok (by simp)) fun _=>hj _) fun _=>brE (fun _=>brD (fun _=>ok (by simp)) fun _=>hj _) fun _=>hj _
def Zcx (n:Int) (h:Z0m):Prop:=0≤h.Z5s∧h.Z5s<h.f_To∧h.f_To≤n∧0≤h.Z5w∧h.Z5w<n
theorem row9_ok (n:Int) (h:Z0m):Ok (Zkb p n h) (fun b=>b=true→Zcx n h):=by
 unfold Zkb
 have z:Ok (some false) (fun b=>b=true→Zcx n h):=ok fun h=>by cases h
 exact brD (fun h1=>brD (fun h2=>brD (fun h3=>brD (fun h4=>brD (fun h5=>br (fun _=>brE (fun _=>ok fun _=>⟨by omega,h2,h3,by omega,h5⟩) fun _=>bd (Zpb hp hS _) fun _ _=>ok fun _=>⟨by omega,h2,h3,by omega,h5⟩) fun _=>z) fun _=>z) fun _=>z) fun _=>z) fun _=>z) fun _=>z
theorem Zp0 (i:Int) (b:Bool):Ok (Zbu p i b) (fun _=>True):=by
 unfold Zbu
 exact bd (Z4d p i (by omega)) fun v hv=>brN (fun _=>ok trivial) fun _=>bd (Zfl _ (by have:=Zb0 hS hv; unfold Str; omega)) fun _ _=>brN (fun _=>ok trivial) fun _=>brD (fun _=>ok trivial) fun _=>ok trivial
def VOk (n:Int) (v:Z0h):Prop:=v.Z2d=5→0≤v.Z3f∧v.Z3f<n
theorem Y1v (c:Z0a) (v:Z0h):Ok (Zfz p c v) (fun b=>b=true→VOk c.Z0j.length v):=by
 unfold Zfz Zog Zq0
 have z:Ok (some false) (fun b=>b=true→VOk c.Z0j.length v):=ok fun h=>by cases h
 have y:∀ b,v.Z2d≠5→Ok (some b) (fun b=>b=true→VOk c.Z0j.length v):=fun b h=>ok fun _ h'=>absurd h' h
 refine br! (fun _=>z) fun _=>brE (fun h=>brE (fun _=>y _ (by omega)) fun _=>z) fun _=>brE (fun h=>brE (fun _=>y _ (by omega)) fun _=>z) fun _=>brE (fun h=>brE (fun _=>y _ (by omega)) fun _=>z) fun _=>brE (fun h=>brE (fun _=>y _ (by omega)) fun _=>z) fun _=>?_
 refine brE (fun h=>brE (fun _=>bd (Zp0 hp hS _ _) fun _ _=>y _ (by omega)) fun _=>z) fun _=>brE (fun h=>brE (fun _=>bd (Zp0 hp hS _ _) fun _ _=>y _ (by omega)) fun _=>z) fun _=>brE (fun h=>brD (fun h1=>brD (fun h2=>bd gr fun _ _=>brE (fun _=>bd (Zp0 hp hS _ _) fun _ _=>ok fun _ _=>⟨by omega,h2⟩) fun _=>z) fun _=>z) fun _=>z) fun _=>z
theorem Zt3 (c:Z0a) (l:List Z0h) (hl:l.length≤140737488355328):Ok (Zey p c l) (fun b=>b=true→∀ v∈l,VOk c.Z0j.length v):=by
 unfold Zey
 refine bd (P:=fun q:Unit⊕Bool=>match q with|.inl _=>∀ v∈l,VOk c.Z0j.length v|.inr b=>b=false) (Z5o (P:=VOk c.Z0j.length) hl (fun t h0 h1 v hv hm hg=>?_) fun t h0 h1 ha=>?_) fun q hq=>?_
 ·unfold Zk0
  rw [hg]
  exact brD (fun _=>bs (bd (Y1v hp hS c v) fun b hb=>br! (fun _=>ok rfl) fun h=>bd wr fun w hw=>ok ⟨hw,hb h⟩)) fun h=>absurd h1 h
 ·unfold Zk0
  exact brD (fun h=>absurd h (by omega)) fun _=>ok ha
 ·cases q with
  | inl _=>exact ok fun _=>hq
  | inr b=>exact ok fun h=>by cases hq.symm.trans h
def Z9l (n:Int) (m:Z0o):Prop:=0≤m.Z0w∧m.Z0w<n∧(∀ v∈m.Z1h.Z0u,VOk n v)∧(∀ v∈m.Z1h.Z0x,VOk n v)∧m.Z1h.Z0u.length≤32∧m.Z1h.Z0x.length≤32
theorem Y0n (c:Z0a) (hc:CPre c) (hL:c.Z0u≤32) (hT:c.Z0x≤32) (i:Int) (h0:0≤i) (h1:i<c.Z1f.length) (m:Z0o) (hg:Z05 c.Z1f i=some m) (hm:m∈c.Z1f):Ok (Zhg p c i) (fun b=>b=true→Z9l c.Z0j.length m):=by
 have:=hc.mapL
 have z:Ok (some false) (fun b=>b=true→Z9l c.Z0j.length m):=ok fun h=>by cases h
 unfold Zhg
 rw [hg]
 refine bs (brD (fun _=>z) fun g0=>brD (fun _=>z) fun g1=>?_)
 have hj:(m.Z1h.Z0u.length:Int)≤c.Z0u→(m.Z1h.Z0x.length:Int)≤c.Z0x→Ok (Zc0 m p c) (fun b=>b=true→Z9l c.Z0j.length m):=fun q1 q2=>by
  unfold Zc0
  exact bd (Zt3 hp hS c _ (hc.frm m hm).1) fun b hb=>br (fun h=>bd (Zt3 hp hS c _ (hc.frm m hm).2) fun b' hb'=>ok fun h'=>⟨by omega,by omega,hb h,hb' h',by omega,by omega⟩) fun _=>z
 have hk:Ok (if decide ((m.Z1h.Z0u.length:Int)>c.Z0u)=true then some false else if decide ((m.Z1h.Z0x.length:Int)>c.Z0x)=true then some false else Zc0 m p c) (fun b=>b=true→Z9l c.Z0j.length m):=brD (fun _=>z) fun q1=>brD (fun _=>z) fun q2=>hj (by omega) (by omega)
 exact brD (fun _=>bd wr fun v1 e1=>bd gr fun v2 _=>brD (fun _=>z) fun _=>hk) fun _=>hk
def LinOk (n:Int) (x:Z15):Prop:=0≤x.Z0w∧x.Z0w<n
structure Zst (c:Z0a):Prop where
 hnd:∀ h∈c.Z1w,Zcx c.Z0j.length h
 map:∀ m∈c.Z1f,Z9l c.Z0j.length m
 lin:∀ x∈c.Z1q,LinOk c.Z0j.length x
theorem Y3o (c:Z0a) (hc:CPre c) (hL:c.Z0u≤32) (hT:c.Z0x≤32):Ok (Zha p c) (fun r=>r.2=0→Zst c):=by
 have g1:=hc.hndL; have g2:=hc.mapL; have g3:=hc.linL
 unfold Zha
 refine brD (fun _=>ok (by simp)) fun _=>bd (P:=fun q:Unit⊕(Int×Int)=>match q with|.inl _=>∀ h∈c.Z1w,Zcx c.Z0j.length h|.inr y=>y.2≠0) (Z5o (P:=Zcx c.Z0j.length) g1 (fun t h0 h1 v hv hm hg=>?_) fun t h0 h1 ha=>?_) fun q1 hq1=>?_
 ·unfold Zj7
  rw [hg]
  exact brD (fun _=>bs (bd (row9_ok hp hS _ v) fun b hb=>br! (fun _=>ok (by simp)) fun h=>bd wr fun w hw=>ok ⟨hw,hb h⟩)) fun h=>absurd h1 h
 ·unfold Zj7
  exact brD (fun h=>absurd h (by omega)) fun _=>ok ha
 cases q1 with
 | inr y=>exact ok fun h=>absurd h hq1
 | inl _=>
 refine bd (P:=fun q:Unit⊕(Int×Int)=>match q with|.inl _=>∀ m∈c.Z1f,Z9l c.Z0j.length m|.inr y=>y.2≠0) (Z5o (P:=Z9l c.Z0j.length) g2 (fun t h0 h1 v hv hm hg=>?_) fun t h0 h1 ha=>?_) fun q2 hq2=>?_
 ·unfold Zgy
  exact brD (fun _=>bd (Y0n hp hS c hc hL hT t h0 h1 v hg hm) fun b hb=>br! (fun _=>ok (by simp)) fun h=>bd wr fun w hw=>ok ⟨hw,hb h⟩) fun h=>absurd h1 h
 ·unfold Zgy
  exact brD (fun h=>absurd h (by omega)) fun _=>ok ha
 cases q2 with
 | inr y=>exact ok fun h=>absurd h hq2
 | inl _=>
 refine bd (P:=fun q:Unit⊕(Int×Int)=>match q with|.inl _=>∀ x∈c.Z1q,LinOk c.Z0j.length x|.inr y=>y.2≠0) (Z5o (P:=LinOk c.Z0j.length) g3 (fun t h0 h1 v hv hm hg=>?_) fun t h0 h1 ha=>?_) fun q3 hq3=>?_
 ·unfold Zk2
  rw [hg]
  exact brD (fun _=>bs (brD (fun _=>ok (by simp)) fun k0=>brD (fun _=>ok (by simp)) fun k1=>brD (fun _=>bd wr fun w hw=>bd gr fun _ _=>brD (fun _=>ok (by simp)) fun _=>brD (fun _=>ok (by simp)) fun _=>brD (fun _=>ok (by simp)) fun _=>bd wr fun w hw=>ok ⟨hw,by omega,by omega⟩) fun _=>brD (fun _=>ok (by simp)) fun _=>brD (fun _=>ok (by simp)) fun _=>bd wr fun w hw=>ok ⟨hw,by omega,by omega⟩)) fun h=>absurd h1 h
 ·unfold Zk2
  exact brD (fun h=>absurd h (by omega)) fun _=>ok ha
 cases q3 with
 | inr y=>exact ok fun h=>absurd h hq3
 | inl _=>exact ok fun _=>⟨hq1,hq2,hq3⟩
end
theorem Zum (p:List Z00) (c:Z0a) (hp:Z13 p) (hc:CPre c):Ok (Zf8 p c) (fun r=>r.2=0→Zst c∧∃ v,Z67 c.Z0j=some v∧v.2=0):=by
 unfold Zf8
 refine bd (head_ok p c hp hc) fun v0 h0=>brN (fun h=>ok fun h'=>absurd h' h) fun h=>?_
 obtain ⟨hS,⟨hL,hT⟩,hn1,hn2,hoff⟩:=h0 h
 have hl:=hp.len
 refine bd (P:=fun q:Unit⊕(Int×Int)=>match q with|.inl _=>∀ i∈c.Z0j,Z4w i=some 0|.inr y=>y.2≠0) (Z5o (l:=c.Z0j) (P:=fun i=>Z4w i=some 0) (by omega) (fun t h0 h1 v hv hm hg=>?_) fun t h0 h1 ha=>?_) fun q hq=>?_
 ·unfold Zjo
  rw [hg]
  exact brD (fun _=>bs (bd (Y44 hl hS c v (hc.ins v hm)) fun e he=>brN (fun h=>ok h) fun h=>bd wr fun w hw=>ok ⟨hw,(he h).1⟩)) fun h=>absurd h1 h
 ·unfold Zjo
  exact brD (fun h=>absurd h (by omega)) fun _=>ok ha
 ·cases q with
  | inr y=>exact ok fun h=>absurd h hq
  | inl _=>
   refine bd wr fun v6 e6=>bd gr fun v7 _=>bd (P:=fun _=>True) ?_ fun v8 _=>br! (fun _=>bd wr fun _ _=>ok (by simp)) fun _=>bd (Y3o hl hS c hc hL hT) fun r hr=>ok fun h=>⟨hr h,hoff hq⟩
   unfold Zoh
   rw [Zme]
   exact bs (br (fun _=>ok trivial) fun _=>ok trivial)
end Go.Proofs
set_option linter.unusedVariables false
namespace Go.Proofs
open Go.Den Go.Tot
theorem Y3v (p:List Z00) (c:Z0a) (hp:Z13 p) (hc:Z52 c):Ok (Zkh p c) (fun r=>Str r.1):=by
 have gI:=hc.insL; have gH:=hc.hndL; have gM:=hc.mapL; have gL:=hc.linL
 unfold Zkh
 refine bd (Zum p c hp hc.pre) fun v0 h0=>brN (fun _=>ok (by simp)) fun h=>?_
 obtain ⟨hk,v,hv,hv2⟩:=h0 h
 rw [hv]
 obtain ⟨r,hr,hr2⟩:=Zo0 c.Z0j hc.ins (by omega)
 rw [hv] at hr; cases hr
 obtain ⟨hlen,hn,-⟩:=hr2.1 hv2
 refine bs (bd (enc_ok _ hc.ins (by omega)) fun v2 h2=>bd (Zeq _ 4 (by omega)) fun v3 h3=>bd (Z4j _) fun v4 h4=>bd (Z4j _) fun v5 h5=>bd (ct (by omega)) fun v6 h6=>bd (ct (by omega)) fun v7 h7=>bd (ct (by omega)) fun v8 h8=>bd (Z4j _) fun v9 h9=>bd (ct (by omega)) fun v10 h10=>?_)
 -- the lists are short by what they hold; here their lengths in memory do
 refine bd (P:=fun r=>(r.length:Int)≤2000000+8*c.Z1w.length) (lp (fun t=>t.2) c.Z1w.length (fun t=>(t.1.length:Int)≤2000000+8*t.2) (fun t hI g0 g1=>?_) (by omega) (by dsimp only; omega)) fun q0 hq0=>?_
 ·unfold l69x1
  refine brD (fun hlt=>bd gr fun x hx=>?_) fun _=>dn (by omega)
  obtain ⟨k1,k2,k3,k4,k5⟩:=hk.hnd x hx
  exact bd gr fun _ _=>bd (Z4j _) fun a ha=>bd (ct (by omega)) fun b hb=>bd gr fun _ _=>bd (Z4j _) fun a2 ha2=>bd (ct (by omega)) fun b2 hb2=>bd gr fun _ _=>bd (Z4j _) fun a3 ha3=>bd (ct (by omega)) fun b3 hb3=>bd (Z4j _) fun a4 ha4=>bd (ct (by omega)) fun b4 hb4=>bd wr fun w hw=>nx (by dsimp only; omega)
 refine bd (Z4j _) fun v36 h36=>bd (ct (by omega)) fun v37 h37=>?_
 refine bd (P:=fun r=>(r.length:Int)≤30000000000000+400*c.Z1f.length) (lp (fun t=>t.2) c.Z1f.length (fun t=>(t.1.length:Int)≤30000000000000+400*t.2) (fun t hI g0 g1=>?_) (by omega) (by dsimp only; omega)) fun q2 hq2=>?_
 ·unfold l69x2
  refine brD (fun hlt=>bd gr fun m hm=>?_) fun _=>dn (by omega)
  obtain ⟨k1,k2,k3,k4,k5,k6⟩:=hk.map m hm
  have hj:∀ x,Ok (Zfn t v m x) (St (fun t=>(t.1.length:Int)≤30000000000000+400*t.2) (fun t=>t.2) c.Z1f.length (fun r=>(r.length:Int)≤30000000000000+400*c.Z1f.length) t):=fun x=>by
   unfold Zfn
   refine bd gr fun _ _=>bd (Z4j _) fun a ha=>bd (ct (by omega)) fun b hb=>bd (Zmv _) fun a2 ha2=>bd (ct (by omega)) fun b2 hb2=>bd (Zvm _ v.1 (by omega) fun y hy h5=>?_) fun a3 ha3=>bd (ct (by omega)) fun b3 hb3=>bd (Zvm _ v.1 (by omega) fun y hy h5=>?_) fun a4 ha4=>bd (ct (by omega)) fun b4 hb4=>bd wr fun w hw=>nx (by dsimp only; omega)
   ·have:=k3 y hy h5; omega
   ·have:=k4 y hy h5; omega
  exact br (fun _=>hj _) fun _=>hj _
 refine bd (Z4j _) fun v59 h59=>bd (ct (by omega)) fun v60 h60=>bd (P:=fun r=>(r.length:Int)≤2000000000000000+4*c.Z1q.length) (lp (fun t=>t.2) c.Z1q.length (fun t=>(t.1.length:Int)≤2000000000000000+4*t.2) (fun t hI g0 g1=>?_) (by omega) (by dsimp only; omega)) fun q4 hq4=>ok (by dsimp only; omega)
 unfold l69x3
 refine brD (fun hlt=>?_) fun _=>dn (by omega)
 obtain ⟨x,hg,hm⟩:=gr (l:=c.Z1q) (i:=t.2) (by omega) hlt
 obtain ⟨k1,k2⟩:=hk.lin x hm
 simp only [hg]
 exact bs (bd gr fun _ _=>bd (Z4j _) fun a ha=>bd (ct (by omega)) fun b hb=>bs (bd (Z4j _) fun a2 ha2=>bd (ct (by omega)) fun b2 hb2=>bd wr fun w hw=>nx (by dsimp only; omega)))
theorem Zce (l:List Int) (x:Int) (hl:l.length≤140737488355328):Ok (Z6r l x) (fun _=>True):=by
 unfold Z6r
 refine bd (P:=fun _=>True) (li (max 0 (l.length:Int)) (fun t h0 h1=>?_) (by omega) (by omega) (by omega)) fun q _=>by cases q <;> exact ok trivial
 unfold Zne
 exact bd wr fun v hv=>brD (fun _=>bd gr fun _ _=>br (fun _=>di trivial) fun _=>bd wr fun _ _=>ni (by omega) (by omega)) fun _=>di trivial
theorem edge_ok (l:List Int) (x:Int) (hl:l.length≤140737488355328):Ok (Zh7 l x) (fun _=>True):=by
 unfold Zh7 Zkc
 have hj:Ok ((Z6r l x).bind fun v3=>some v3) (fun _=>True):=bd (Zce l x hl) fun _ _=>ok trivial
 exact brD (fun _=>bd wr fun v hv=>bd gr fun _ _=>br (fun _=>bd wr fun _ _=>ok trivial) fun _=>hj) fun _=>hj
theorem Zvb (l:List Z0h) (at_:List Int) (hl:l.length≤256) (ha:at_.length≤140737488355328):Ok (Zdr l at_) (fun r=>r.1.length≤256):=by
 unfold Zdr
 refine bd (P:=fun q:List Z0h⊕(List Z0h×Bool)=>match q with|.inl q=>q.length≤256|.inr y=>y.1=[]) (lp (fun t=>t.1) l.length (fun t=>(t.2.length:Int)=t.1) (fun t hI g0 g1=>?_) (by omega) rfl) fun q hq=>?_
 ·unfold Znf
  have hd:t.2.length≤256:=by omega
  have hj:∀ (v:Z0h) (p:Int),t.1<l.length→Ok (Zdi t v p) (St (fun t=>(t.2.length:Int)=t.1) (fun t=>t.1) l.length (fun q:List Z0h⊕(List Z0h×Bool)=>match q with|.inl q=>q.length≤256|.inr y=>y.1=[]) t):=fun v p hlt=>by
   unfold Zdi
   exact bd gk fun _ _=>bd wr fun w hw=>nx (by simp only [List.length_append,List.length_cons,List.length_nil]; omega)
  exact brD (fun hlt=>bd gr fun v _=>brE (fun _=>bd (Zce at_ _ ha) fun w _=>brD (fun _=>dn rfl) fun _=>hj _ _ hlt) fun _=>hj _ _ hlt) fun _=>dn hd
 ·cases q with
  | inl q=>exact ok hq
  | inr y=>exact ok (by rw [hq]; simp)
theorem Y1g (s:List UInt8) (k:Z3a) (at_:List Int) (hk:TkOk s k) (ha:at_.length≤140737488355328):Ok (Zij k at_) (fun r=>r.2=0→r.1.Z1w.length≤65536∧r.1.Z1f.length≤65536∧r.1.Z1q.length≤65536∧∀ m∈r.1.Z1f,m.Z1h.Z0u.length≤256∧m.Z1h.Z0x.length≤256):=by
 have g1:=hk.hndL; have g2:=hk.mapL; have g3:=hk.lin; have g4:=hk.raw
 unfold Zij
 refine bd (P:=fun q:List Z0m⊕(Z0a×Int)=>match q with|.inl q=>q.length≤65536|.inr y=>y.2≠0) (lp (fun t=>t.1) k.f_C.Z1w.length (fun t=>(t.2.length:Int)=t.1) (fun t hI h0 h1=>?_) (by omega) rfl) fun q1 hq1=>?_
 ·unfold Znw Zno
  have hd:t.2.length≤65536:=by omega
  exact brD (fun hlt=>bd gr fun v _=>bd (Zce at_ _ ha) fun _ _=>bd (edge_ok at_ _ ha) fun _ _=>bd (Zce at_ _ ha) fun _ _=>brD (fun _=>dn (by simp)) fun _=>brD (fun _=>dn (by simp)) fun _=>brD (fun _=>dn (by simp)) fun _=>bd gk fun _ _=>bd wr fun w hw=>nx (by simp only [List.length_append,List.length_cons,List.length_nil]; omega)) fun _=>dn hd
 cases q1 with
 | inr y=>exact ok fun h=>absurd h hq1
 | inl q1=>
 have hq1':q1.length≤65536:=hq1
 refine bd (P:=fun q:List Z0o⊕(Z0a×Int)=>match q with|.inl q=>q.length≤65536∧∀ m∈q,m.Z1h.Z0u.length≤256∧m.Z1h.Z0x.length≤256|.inr y=>y.2≠0) (lp (fun t=>t.1) k.f_C.Z1f.length (fun t=>(t.2.length:Int)=t.1∧∀ m∈t.2,m.Z1h.Z0u.length≤256∧m.Z1h.Z0x.length≤256) (fun t hI h0 h1=>?_) (by omega) ⟨rfl,Z3z⟩) fun q2 hq2=>?_
 ·obtain ⟨hI1,hI2⟩:=hI
  unfold Zpk Zpv
  refine brD (fun hlt=>bd gr fun v hv=>?_) fun _=>dn ⟨by omega,hI2⟩
  obtain ⟨f1,f2⟩:=hk.map v hv
  refine bd (Zce at_ _ ha) fun _ _=>bd (Zvb _ at_ f1.1 ha) fun a ha'=>bd (Zvb _ at_ f2.1 ha) fun b hb'=>brD (fun _=>dn (by simp)) fun _=>br! (fun _=>dn (by simp)) fun _=>br! (fun _=>dn (by simp)) fun _=>bd gr fun _ _=>brD (fun _=>dn (by simp)) fun _=>bd gk fun _ _=>bd wr fun w hw=>nx ⟨by simp only [List.length_append,List.length_cons,List.length_nil]; omega,Z7x hI2 ⟨ha',hb'⟩⟩
 cases q2 with
 | inr y=>exact ok fun h=>absurd h hq2
 | inl q2=>
 obtain ⟨e1,e2⟩:=hq2
 refine bd (P:=fun q:List Z15⊕(Z0a×Int)=>match q with|.inl q=>q.length≤65536|.inr y=>y.2≠0) (lp (fun t=>t.1) k.f_C.Z1q.length (fun t=>(t.2.length:Int)=t.1) (fun t hI h0 h1=>?_) (by omega) rfl) fun q3 hq3=>?_
 ·unfold Zov
  have hd:t.2.length≤65536:=by omega
  exact brD (fun hlt=>bd gr fun v _=>bd (Zce at_ _ ha) fun _ _=>brD (fun _=>dn (by simp)) fun _=>bd gk fun _ _=>bd wr fun w hw=>nx (by simp only [List.length_append,List.length_cons,List.length_nil]; omega)) fun _=>dn hd
 cases q3 with
 | inr y=>exact ok fun h=>absurd h hq3
 | inl q3=>exact ok fun _=>⟨hq1',e1,hq3,e2⟩
theorem Zvz (p:List Z00) (s:List UInt8) (hp:Z13 p) (hs:Str s):Ok (Zki p s) (fun _=>True):=by
 unfold Zki
 refine bd (Y0e s hs) fun v0 h0=>br (fun _=>ok trivial) fun _=>bd (dec_ok _) fun v1 h1=>brN (fun _=>ok trivial) fun h=>?_
 obtain ⟨k1,k2⟩:=h1 h
 refine bd (Zo0 v1.1 (fun i hi=>(k1 i hi).w) (by omega)) fun v2 h2=>brN (fun _=>ok trivial) fun _=>bd (Y1g s v0.1 v2.1 h0 (by have:=h2.2; omega)) fun v3 h3=>brN (fun _=>ok trivial) fun h=>?_
 obtain ⟨e1,e2,e3,e4⟩:=h3 h
 exact brN (fun _=>ok trivial) fun _=>bd (Zum p _ hp ⟨fun i hi=>(k1 i hi).w,by dsimp only; omega,by dsimp only; omega,by dsimp only; omega,by dsimp only; omega,fun m hm=>by have:=e4 m hm; dsimp only at *; omega⟩) fun v4 _=>brN (fun _=>ok trivial) fun _=>ok trivial
theorem Y2f (s:List UInt8) (hs:Str s):Ok (Zit s) (fun r=>r.1.length≤65536):=by
 unfold Zit
 refine bd (Z3r s _ 2 (by omega) hs ⟨rfl,by dsimp only; omega,by dsimp only; omega⟩) fun v0 h0=>bd (P:=RdT s 65536 fun _=>True) (rdL (n:=v0.1) ⟨h0.1.1,h0.1.2.2.1 rfl⟩ h0.2 fun t hI g0 g1 hd=>?_) fun q hq=>br (fun _=>ok (by simp)) fun _=>brN (fun _=>ok (by simp)) fun _=>bd (Zt9 _) fun _ _=>brN (fun _=>ok (by simp)) fun _=>ok hq.2.1
 have hl:=hI.2.1
 have:=h0.1.2.2.1 rfl
 unfold Zop
 refine brD (fun hlt=>br! (fun _=>?_) fun _=>dn hd) fun _=>dn hd
 unfold Zly
 exact bd (Z3r s _ 2 (by omega) hs hI.1) fun v1 h1=>bd gk fun _ _=>bd wr fun _ hv=>nx ⟨h1.2,by simp only [List.length_append,List.length_cons,List.length_nil]; omega,Z7x hI.2.2 trivial⟩
end Go.Proofs
set_option linter.unusedVariables false
namespace Go.Proofs
open Go.Den Go.Tot
section
variable {p:List Z00} (hp:p.length≤1000)
include hp
theorem Zoe (a:Z18) (s:List UInt8):Ok (Zb2 p a s) (fun _=>True):=by
 unfold Zb2
 exact bd (Z4d p _ (by omega)) fun _ _=>brE (fun _=>ok trivial) fun _=>ok trivial
theorem Zwa (l:List Z0d) (i:Int) (hl:l.length≤140737488355328) (h0:0≤i) (h1:i<l.length):Ok (Zcw p l i) (fun _=>True):=by
 unfold Zcw
 refine bd (gr h0 h1) fun _ _=>bd (Z4d p _ (by omega)) fun v1 _=>bd (gr h0 h1) fun _ _=>bd (Z4d p _ (by omega)) fun v3 _=>bd (P:=fun _=>True) (li i (fun t g0 g1=>?_) (by omega) (by omega) (by omega)) fun q _=>by cases q <;> exact ok trivial
 unfold Zl5
 exact brD (fun _=>bd gr fun _ _=>bd (Z4d p _ (by omega)) fun _ _=>bd gr fun _ _=>bd (Z4d p _ (by omega)) fun _ _=>br (fun _=>br (fun _=>di trivial) fun _=>bd wr fun _ _=>ni (by omega) (by omega)) fun _=>bd wr fun _ _=>ni (by omega) (by omega)) fun _=>di trivial
theorem Y28 (i:Int) (d:List UInt8):Ok (Zch p i d) (fun _=>True):=by
 unfold Zch
 refine bd (Zdm p i (by omega)) fun v _=>brN (fun _=>ok trivial) fun _=>?_
 repeat' first
  | exact ok trivial
  | with_reducible refine br (fun _=>?_) fun _=>?_
theorem Y24 (m:Z0d) (d:List UInt8) (hm:∀ a∈m.Z1g,Str a.Z2e):Ok (Z7v p m d) (fun _=>True):=by
 unfold Z7v Zg5
 refine brE (fun _=>ok trivial) fun _=>bd gr fun a ha=>brD (fun _=>ok trivial) fun _=>bs (br (fun _=>ok trivial) fun _=>bd (Zoe hp _ _) fun _ _=>br! (fun _=>ok trivial) fun _=>brN (fun _=>ok trivial) fun _=>bd (Zfs _ 0 2 (by omega) (hm a ha)) fun _ _=>bd (Y28 hp _ _) fun _ _=>ok trivial)
theorem Zui (l:List Z18) (s:List UInt8) (hl:l.length≤140737488355328) (ha:∀ a∈l,Str a.Z2e):Ok (Zct p l s) (fun r=>Str r.1∧0≤r.2∧r.2≤l.length):=by
 unfold Zct
 refine bd (P:=fun q:List UInt8×Int=>Str q.1∧0≤q.2∧q.2≤(l.length:Int)) (lp (fun t=>t.2.2) l.length (fun t=>Str t.1∧0≤t.2.1∧t.2.1≤t.2.2) (fun t hI h0 h1=>?_) (by omega) ⟨by simp,by dsimp only; omega,by dsimp only; omega⟩) fun q hq=>ok hq
 obtain ⟨hI1,hI2,hI3⟩:=hI
 unfold Zm2
 exact brD (fun hlt=>bd gr fun a _=>bd (Zoe hp _ _) fun _ _=>br (fun _=>bd gr fun b hb=>bd wr fun _ _=>bd wr fun _ _=>nx ⟨ha b hb,by dsimp only; omega,by dsimp only; omega⟩) fun _=>bd wr fun _ _=>nx ⟨hI1,by dsimp only; omega,by dsimp only; omega⟩) fun _=>dn ⟨hI1,by dsimp only; omega,by dsimp only; omega⟩
variable (hS:PS p 1024)
include hS
theorem Zfg (i:Int):Ok (Z8d p i) (fun _=>True):=by
 unfold Z8d Zl1
 exact brD (fun _=>ok trivial) fun _=>brD (fun _=>ok trivial) fun _=>bd (Znt p i (by omega) hS) fun v hv=>brN (fun _=>ok trivial) fun _=>brE (fun _=>ok trivial) fun _=>bd gs fun _ _=>brE (fun _=>ok trivial) fun _=>ok trivial
theorem Zvd (l:List Int) (s:List UInt8) (hl:l.length≤140737488355328):Ok (Zer p l s) (fun _=>True):=by
 unfold Zer
 refine bd (P:=fun _=>True) (li l.length (fun t h0 h1=>?_) (by omega) (by omega) (by omega)) fun q _=>by cases q <;> exact ok trivial
 unfold Zp6
 exact brD (fun _=>bd gr fun _ _=>bd (Zfg hp hS _) fun _ _=>brE (fun _=>br (fun _=>di trivial) fun _=>bd wr fun _ _=>ni (by omega) (by omega)) fun _=>bd wr fun _ _=>ni (by omega) (by omega)) fun _=>di trivial
end
theorem Y2c (x y:Int):Ok (Z8k x y) (fun _=>True):=bs (ok trivial)
theorem Zua (x y:Int):Ok (Z9w x y) (fun _=>True):=by
 unfold Z9w
 exact brD (fun _=>bs (ok trivial)) fun _=>ok trivial
theorem Y0w (x:Int):Ok (Zeg x) (fun _=>True):=by
 unfold Zeg Zhy Zhw
 have h:∀ n:Int,Ok ((some (Z2b .i64 x (4:Int))).bind fun v3=>if (v3 !=0)=true then ((some (IntKind.wrap .i64 (n+(1:Int)))).bind fun v4=>some (decide (v4≤1))) else (some (decide (n≤1)))) (fun _=>True):=fun n=>bs (br (fun _=>bs (ok trivial)) fun _=>ok trivial)
 have h1:∀ n:Int,Ok ((some (Z2b .i64 x (2:Int))).bind fun v1=>if (v1 !=0)=true then ((some (IntKind.wrap .i64 (n+(1:Int)))).bind fun v2=>(some (Z2b .i64 x (4:Int))).bind fun v3=>if (v3 !=0)=true then ((some (IntKind.wrap .i64 (v2+(1:Int)))).bind fun v4=>some (decide (v4≤1))) else (some (decide (v2≤1)))) else ((some (Z2b .i64 x (4:Int))).bind fun v3=>if (v3 !=0)=true then ((some (IntKind.wrap .i64 (n+(1:Int)))).bind fun v4=>some (decide (v4≤1))) else (some (decide (n≤1))))) (fun _=>True):=fun n=>bs (br (fun _=>bs (h _)) fun _=>h _)
 exact bs (br (fun _=>h1 1) fun _=>h1 0)
theorem Zpg (s:List UInt8) (x:Int):Ok (Z9z s x) (fun _=>True):=by
 unfold Z9z Zb6 Zcc
 repeat' first
  | exact ok trivial
  | with_reducible refine br (fun _=>?_) fun _=>?_
  | with_reducible refine bd (Y2c _ _) fun _ _=>?_
  | with_reducible refine bd (Zua _ _) fun _ _=>?_
  | with_reducible refine bd (Y0w _) fun _ _=>?_
  | with_reducible refine bs ?_
structure Z7g (f:Z14):Prop where
 pool:Z13 f.Z1v
 ifsL:f.Z1d.length≤140737488355328
 fldL:f.Z0g.length≤140737488355328
 metL:f.Z11.length≤140737488355328
 attL:f.Z1g.length≤140737488355328
 att:∀ a∈f.Z1g,Str a.Z2e
 mem:∀ m,m∈f.Z0g∨m∈f.Z11→m.Z1g.length≤140737488355328∧∀ a∈m.Z1g,Str a.Z2e
def FewF (f:Z14):Prop:=f.Z1d.length≤8∧f.Z0g.length≤64∧f.Z11.length≤64
theorem Y1b (f:Z14) (hf:Z7g f):Ok (Zjx f) (fun b=>b=false→FewF f):=by
 have g1:=hf.fldL; have g2:=hf.metL
 unfold Zjx Zor
 refine brD (fun _=>ok (by simp)) fun _=>brD (fun _=>ok (by simp)) fun _=>brD (fun _=>ok (by simp)) fun _=>brD (fun _=>ok (by simp)) fun _=>?_
 have hd:FewF f:=⟨by omega,by omega,by omega⟩
 refine bd (P:=fun _=>True) (li f.Z0g.length (fun t h0 h1=>?_) (by omega) (by omega) (by omega)) fun q _=>?_
 ·unfold Znh
  exact brD (fun _=>bd gr fun _ _=>brD (fun _=>di trivial) fun _=>bd wr fun _ _=>ni (by omega) (by omega)) fun _=>di trivial
 cases q with
 | inr _=>exact ok fun _=>hd
 | inl _=>
  refine bd (P:=fun _=>True) (li f.Z11.length (fun t h0 h1=>?_) (by omega) (by omega) (by omega)) fun q _=>by cases q <;> exact ok fun _=>hd
  unfold Zn7
  exact brD (fun _=>bd gr fun _ _=>brD (fun _=>di trivial) fun _=>bd wr fun _ _=>ni (by omega) (by omega)) fun _=>di trivial
theorem Y1n (f:Z14) (hf:Z7g f) (hS:PS f.Z1v 1024):Ok (Zh2 f) (fun e=>e=0→FewF f):=by
 have hp:=hf.pool.len
 have hi:=hf.ifsL
 have h3:∀ a (v:List UInt8×Int),Ok (Zeb a v f) (fun e=>e=0→FewF f):=fun a v=>by
  unfold Zeb
  exact bd (Y1b f hf) fun b hb=>br (fun _=>ok (by simp)) fun h=>br (fun _=>ok (by simp)) fun _=>bd (Zvd hp hS _ _ hi) fun _ _=>br (fun _=>ok (by simp)) fun _=>ok fun _=>hb h
 have h2:∀ (v:List UInt8×Int) a,Ok (Ze5 v f a) (fun e=>e=0→FewF f):=fun v a=>by
  unfold Ze5
  exact bd (Zpg _ _) fun _ _=>br! (fun _=>ok (by simp)) fun _=>br (fun _=>ok (by simp)) fun _=>bs (br (fun _=>br (fun _=>ok (by simp)) fun _=>h3 _ _) fun _=>h3 _ _)
 have h1:Ok (Zd2 f) (fun e=>e=0→FewF f):=by
  unfold Zd2
  exact bd (Zfg hp hS _) fun v _=>brN (fun h=>ok fun h'=>absurd h' h) fun _=>brN (fun _=>bd (Zfg hp hS _) fun w _=>brN (fun h=>ok fun h'=>absurd h' h) fun _=>h2 _ _) fun _=>h2 _ _
 have hpl:∀ i,Ok (Zf9 f.Z1v i) (fun _=>True):=fun i=>by
  unfold Zf9
  exact brD (fun _=>ok trivial) fun _=>ok trivial
 unfold Zh2
 exact bd (hpl _) fun _ _=>br! (fun _=>ok (by simp)) fun _=>brN (fun _=>bd (hpl _) fun _ _=>br! (fun _=>ok (by simp)) fun _=>h1) fun _=>h1
theorem Y4a (f:Z14) (hf:Z7g f) (hS:PS f.Z1v 1024) (i:Int) (h0:0≤i) (h1:i<f.Z1d.length):Ok (Zj9 f i) (fun _=>True):=by
 have:=hf.ifsL
 unfold Zj9
 exact bd (gr h0 h1) fun _ _=>bd (Zfg hf.pool.len hS _) fun _ _=>brN (fun _=>ok trivial) fun _=>bd (sb (by omega) (by omega) (by omega)) fun r hr=>bd (Zvd hf.pool.len hS r _ (by have:=hr.1; omega)) fun _ _=>br (fun _=>ok trivial) fun _=>ok trivial
theorem Y12 (f:Z14) (hf:Z7g f) (hS:PS f.Z1v 1024) (i:Int) (h0:0≤i) (h1:i<f.Z0g.length):Ok (Z7d f i) (fun _=>True):=by
 have hp:=hf.pool.len
 have hl:f.Z1v.length≤140737488355328:=by omega
 unfold Z7d
 refine bd (gr h0 h1) fun m hm=>bd (Z4d _ _ hl) fun v1 e1=>brN (fun _=>ok trivial) fun _=>bd (Zoz _ (by have:=Zb0 hS e1; unfold Str; omega)) fun b hb=>br! (fun _=>ok trivial) fun h=>?_
 have hpos:=hb h
 refine bd gs fun _ _=>br (fun _=>ok trivial) fun _=>?_
 have h3:∀ v4 w,Ok (Z9s m v4 f i w) (fun _=>True):=fun v4 w=>by
  unfold Z9s
  exact bd (Zpg _ _) fun _ _=>br! (fun _=>ok trivial) fun _=>bd (Zwa hp _ i hf.fldL h0 h1) fun _ _=>br (fun _=>ok trivial) fun _=>bd (Y24 hp m _ (hf.mem m (.inl hm)).2) fun _ _=>br! (fun _=>ok trivial) fun _=>ok trivial
 unfold Zic Zdu
 exact bd (Z4d _ _ hl) fun v4 e4=>brN (fun _=>ok trivial) fun _=>bd (Zfl _ (by have:=Zb0 hS e4; unfold Str; omega)) fun _ _=>brN (fun _=>ok trivial) fun _=>br (fun _=>ok trivial) fun _=>bs (br (fun _=>h3 _ _) fun _=>h3 _ _)
theorem Zzc (f:Z14) (hf:Z7g f) (hS:PS f.Z1v 1024) (m:Z0d):Ok (Ziz f m) (fun r=>r.2.1.Z7e.length≤1048576):=by
 have hl:f.Z1v.length≤140737488355328:=by have:=hf.pool.len; omega
 have h1:∀ v0,Ok (Zf0 v0 f m) (fun r=>r.2.1.Z7e.length≤1048576):=fun v0=>by
  unfold Zf0
  refine bd (Z4d _ _ hl) fun v3 e3=>brN (fun _=>ok (by simp)) fun _=>bd (Zmj _ (by have:=Zb0 hS e3; omega)) fun v4 e4=>brN (fun _=>ok (by simp)) fun _=>?_
  repeat' first
   | exact ok e4
   | exact ok (by simp)
   | with_reducible refine br (fun _=>?_) fun _=>?_
 unfold Ziz
 exact bd (Z4d _ _ hl) fun v0 e0=>brN (fun _=>ok (by simp)) fun _=>bd (Zoz _ (by have:=Zb0 hS e0; unfold Str; omega)) fun _ _=>br! (fun _=>ok (by simp)) fun _=>br (fun _=>bs (br (fun _=>ok (by simp)) fun _=>h1 _)) fun _=>h1 _
theorem Zzk (f:Z14) (m:Z0d) (s:List UInt8):Ok (Zjj f m s) (fun _=>True):=by
 unfold Zjj Ziw
 repeat' first
  | exact ok trivial
  | with_reducible refine br (fun _=>?_) fun _=>?_
  | with_reducible refine bd (Zpg _ _) fun _ _=>?_
  | with_reducible refine bd (Zua _ _) fun _ _=>?_
  | with_reducible refine bs ?_
theorem Y0u (f:Z14) (hf:Z7g f) (hS:PS f.Z1v 1024) (m:Z0d) (hm:m.Z1g.length≤140737488355328∧∀ a∈m.Z1g,Str a.Z2e) (g:Z2k) (hg:g.Z7e.length≤1048576):Ok (Zg7 f.Z1v m g) (fun _=>True):=by
 have hp:=hf.pool.len
 unfold Zg7
 refine bd (Zui hp _ _ hm.1 hm.2) fun v0 e0=>bd (Zui hp _ _ hm.1 hm.2) fun v1 e1=>bs (brD (fun _=>ok trivial) fun _=>brD (fun _=>ok trivial) fun _=>bd wr fun _ _=>brN (fun _=>ok trivial) fun _=>br (fun _=>ok trivial) fun _=>?_)
 have h4:∀ a b,Ok (Zeo a b) (fun _=>True):=fun a b=>by
  unfold Zeo
  exact brD (fun _=>ok trivial) fun _=>ok trivial
 have h3:∀ a b,Ok (Zfk a v1 f.Z1v b) (fun _=>True):=fun a b=>by
  unfold Zfk
  refine brD (fun _=>bd (Y2f _ e1.1) fun v7 e7=>brN (fun _=>ok trivial) fun _=>bd (P:=fun _=>True) (li v7.1.length (fun t h0 h1=>?_) (by omega) (by omega) (by omega)) fun q _=>?_) fun _=>h4 _ _
  ·unfold Zoo
   exact brD (fun _=>bd gr fun _ _=>bd (Zfg hp hS _) fun _ _=>brN (fun _=>di trivial) fun _=>bd wr fun _ _=>ni (by omega) (by omega)) fun _=>di trivial
  ·cases q with
   | inl _=>exact h4 _ _
   | inr _=>exact ok trivial
 unfold Zmp Zhz
 exact bs (br (fun _=>bd wr fun _ _=>br (fun _=>bd (Zvz _ _ hf.pool e0.1) fun _ _=>brN (fun _=>ok trivial) fun _=>h3 _ _) fun _=>h3 _ _) fun _=>br (fun _=>bd (Zvz _ _ hf.pool e0.1) fun _ _=>brN (fun _=>ok trivial) fun _=>h3 _ _) fun _=>h3 _ _)
theorem Zzb (f:Z14) (hf:Z7g f) (hS:PS f.Z1v 1024) (i:Int) (h0:0≤i) (h1:i<f.Z11.length):Ok (Zig f i) (fun _=>True):=by
 unfold Zig
 exact bd (gr h0 h1) fun m hm=>bd (Zzc f hf hS m) fun v1 e1=>brN (fun _=>ok trivial) fun _=>bd (Zzk _ _ _) fun _ _=>br! (fun _=>ok trivial) fun _=>bd (Zwa hf.pool.len _ i hf.metL h0 h1) fun _ _=>br (fun _=>ok trivial) fun _=>bd (Y0u f hf hS m (hf.mem m (.inr hm)) _ e1) fun _ _=>ok trivial
theorem Y0k (f:Z14) (hf:Z7g f) (hS:PS f.Z1v 1024):Ok (Zkp f) (fun _=>True):=by
 unfold Zkp j93x1
 exact brE (fun _=>ok trivial) fun _=>bd gr fun a ha=>brD (fun _=>ok trivial) fun _=>bd (Zoe hf.pool.len _ _) fun _ _=>br! (fun _=>ok trivial) fun _=>brN (fun _=>ok trivial) fun _=>bd (Zfs _ 0 2 (by omega) (hf.att a ha)) fun _ _=>bd (Z4d _ _ (by have:=hf.pool.len; omega)) fun _ _=>ok trivial
theorem Zln (s:List UInt8) (n:Int) (hs:s.length≤1000) (h0:0≤n) (h1:n<100):Ok (Zar s n) (fun _=>True):=by
 unfold Zar
 have h10:∀ a:Int,0≤a→a<10→Ok (sub ([48,49,50,51,52,53,54,55,56,57]:List UInt8) a (a+1)) (fun r=>r.length≤1):=fun a ha hb=>(sb ha (by omega) (by simp; omega)).mono fun r hr=>by have:=hr.1; omega
 refine brD (fun _=>bd (ct (by simp; omega)) fun v0 e0=>bd wr fun v1 e1=>?_) fun _=>bd (ct (by simp; omega)) fun v4 e4=>?_
 ·rw [e1]
  exact bd (h10 n h0 (by omega)) fun v2 e2=>bd (ct (by have:=e0.2; simp at this; omega)) fun _ _=>ok trivial
 ·have hd:divK .i64 n 10=some (n / 10):=by
   unfold divK
   rw [if_pos (by decide)]
   congr 1
   rw [Int.tdiv_eq_ediv_of_nonneg h0]
   exact Z4v (by omega) (by omega)
  have hm:modK n 10=some (n % 10):=by
   unfold modK
   rw [if_pos (by decide)]
   congr 1
   exact Int.tmod_eq_emod_of_nonneg h0
  rw [hd,hm]
  refine bs (bs (bd wr fun v7 e7=>?_))
  rw [e7]
  refine bd (h10 _ (by omega) (by omega)) fun v8 e8=>bd (ct (by have:=e4.2; simp at this; omega)) fun v9 e9=>bs (bs (bd wr fun v12 e12=>?_))
  rw [e12]
  exact bd (h10 _ (by omega) (by omega)) fun v13 e13=>bd (ct (by have:=e4.2; have:=e9.2; simp at *; omega)) fun _ _=>ok trivial
theorem Y26 (f:Z14) (hf:Z7g f):Ok (Zc7 f) (fun r=>r.2=0→FewF f):=by
 unfold Zc7
 refine bd (Zsd _ hf.pool) fun v0 h0=>brN (fun h=>ok fun h'=>absurd h' h) fun h=>?_
 have hS:=h0 h
 refine bd (Y1n f hf hS) fun v1 h1=>brN (fun h=>ok fun h'=>absurd h' h) fun h=>?_
 have hF:=h1 h
 have k1:=hF.1; have k2:=hF.2.1; have k3:=hF.2.2
 refine bd (P:=fun _=>True) (li f.Z1d.length (fun t h0 h1=>?_) (by omega) (by omega) (by omega)) fun q _=>?_
 ·unfold Zkl
  exact brD (fun hlt=>bd (Y4a f hf hS t h0 hlt) fun _ _=>brN (fun _=>bd (Zln _ t (by simp) h0 (by omega)) fun _ _=>di trivial) fun _=>bd wr fun _ _=>ni (by omega) (by omega)) fun _=>di trivial
 cases q with
 | inr _=>exact ok fun _=>hF
 | inl _=>
 refine bd (P:=fun _=>True) (li f.Z0g.length (fun t h0 h1=>?_) (by omega) (by omega) (by omega)) fun q _=>?_
 ·unfold Zht
  exact brD (fun hlt=>bd (Y12 f hf hS t h0 hlt) fun _ _=>brN (fun _=>bd (Zln _ t (by simp) h0 (by omega)) fun _ _=>di trivial) fun _=>bd wr fun _ _=>ni (by omega) (by omega)) fun _=>di trivial
 cases q with
 | inr _=>exact ok fun _=>hF
 | inl _=>
 refine bd (P:=fun _=>True) (li f.Z11.length (fun t h0 h1=>?_) (by omega) (by omega) (by omega)) fun q _=>?_
 ·unfold Zgk
  exact brD (fun hlt=>bd (Zzb f hf hS t h0 hlt) fun _ _=>brN (fun _=>bd (Zln _ t (by simp) h0 (by omega)) fun _ _=>di trivial) fun _=>bd wr fun _ _=>ni (by omega) (by omega)) fun _=>di trivial
 cases q with
 | inr _=>exact ok fun _=>hF
 | inl _=>exact bd (Y0k f hf hS) fun _ _=>br! (fun _=>ok fun _=>hF) fun _=>ok fun _=>hF
end Go.Proofs
set_option linter.unusedVariables false
namespace Go.Proofs
open Go.Den Go.Tot
def FewM (u:Z0l):Prop:=u.Z1d.length≤8∧u.Z0g.length≤64∧u.Z11.length≤64
theorem Y0t (u:Z0l) (hu:Z5a u):Ok (Zbi u) (fun r=>r.2=0→FewM u):=by
 have gm:=hu.metL
 unfold Zbi
 refine bd (Y32 u hu) fun _ _=>br! (fun _=>ok (by simp)) fun _=>bd (Y17 _ u Z13.nil hu) fun v1 h1=>brN (fun h=>ok fun h'=>absurd h' h) fun _=>?_
 have hm:=h1.fam.m; have hc:=h1.fam.c; have ht:=h1.fam.t; have hs:=h1.fam.s
 refine bd (P:=fun q:List (List UInt8)⊕(Z14×Int)=>match q with|.inl q=>(q.length:Int)=u.Z11.length∧∀ s∈q,Str s|.inr y=>y.2≠0) (lp (fun t=>t.1) u.Z11.length (fun t=>(t.2.length:Int)=t.1∧∀ s∈t.2,Str s) (fun t hI h0 h1'=>?_) (by omega) ⟨rfl,Z3z⟩) fun q1 hq1=>?_
 ·obtain ⟨hI1,hI2⟩:=hI
  unfold Zkv
  have hj:t.1<u.Z11.length→∀ s e,Str s→Ok (Zam t s e) (St (fun t=>(t.2.length:Int)=t.1∧∀ s∈t.2,Str s) (fun t=>t.1) u.Z11.length (fun q:List (List UInt8)⊕(Z14×Int)=>match q with|.inl q=>(q.length:Int)=u.Z11.length∧∀ s∈q,Str s|.inr y=>y.2≠0) t):=fun hlt s e hs'=>by
   unfold Zam
   exact brN (fun h=>dn h) fun _=>bd gk fun _ _=>bd wr fun _ hv=>nx ⟨by simp only [List.length_append,List.length_cons,List.length_nil]; omega,Z63 hI2 hs'⟩
  exact brD (fun hlt=>bd gr fun _ _=>br (fun _=>bd gr fun c hcm=>bd (Y3v _ c h1.pool (h1.fam.code c hcm)) fun v8 h8=>hj (by omega) _ _ h8) fun _=>hj (by omega) _ _ (by simp)) fun hge=>dn ⟨by omega,hI2⟩
 cases q1 with
 | inr y=>exact ok fun h=>absurd h hq1
 | inl q0=>
 obtain ⟨k1,k2⟩:=hq1
 refine bd (P:=fun q:List Z0d⊕(Z14×Int)=>match q with|.inl q=>(q.length:Int)=u.Z11.length∧∀ m∈q,m.Z1g.length≤2∧∀ a∈m.Z1g,Str a.Z2e|.inr y=>y.2≠0) (lp (fun t=>t.1) u.Z11.length (fun t=>(t.2.length:Int)=t.1∧∀ m∈t.2,m.Z1g.length≤2∧∀ a∈m.Z1g,Str a.Z2e) (fun t hI h0 h1'=>?_) (by omega) ⟨rfl,Z3z⟩) fun q3 hq3=>?_
 ·obtain ⟨hI1,hI2⟩:=hI
  have h3:t.1<u.Z11.length→∀ p:List Z18,(p.length≤2∧∀ a∈p,Str a.Z2e)→Ok (Zac t v1 p) (St (fun t=>(t.2.length:Int)=t.1∧∀ m∈t.2,m.Z1g.length≤2∧∀ a∈m.Z1g,Str a.Z2e) (fun t=>t.1) u.Z11.length (fun q:List Z0d⊕(Z14×Int)=>match q with|.inl q=>(q.length:Int)=u.Z11.length∧∀ m∈q,m.Z1g.length≤2∧∀ a∈m.Z1g,Str a.Z2e|.inr y=>y.2≠0) t):=fun hlt p hp=>by
   unfold Zac
   exact bd gr fun _ _=>bd gk fun _ _=>bd wr fun _ hv=>nx ⟨by simp only [List.length_append,List.length_cons,List.length_nil]; omega,Z63 hI2 hp⟩
  have h2:t.1<u.Z11.length→∀ p:List Z18,(p.length≤1∧∀ a∈p,Str a.Z2e)→Ok (Zaj t v1 p) (St (fun t=>(t.2.length:Int)=t.1∧∀ m∈t.2,m.Z1g.length≤2∧∀ a∈m.Z1g,Str a.Z2e) (fun t=>t.1) u.Z11.length (fun q:List Z0d⊕(Z14×Int)=>match q with|.inl q=>(q.length:Int)=u.Z11.length∧∀ m∈q,m.Z1g.length≤2∧∀ a∈m.Z1g,Str a.Z2e|.inr y=>y.2≠0) t):=fun hlt p hp=>by
   unfold Zaj
   exact bd gr fun _ _=>brN (fun _=>bd gr fun _ _=>bd (Zt9 _) fun v30 h30=>brN (fun h=>dn h) fun _=>bd gr fun _ _=>bd gk fun _ _=>h3 hlt _ ⟨by simp only [List.length_append,List.length_cons,List.length_nil]; omega,Z63 hp.2 h30⟩) fun _=>h3 hlt p ⟨by omega,hp.2⟩
  unfold Zh9
  exact brD (fun hlt=>bd gr fun _ _=>br (fun _=>bd gr fun _ _=>bd ik fun j hj=>bd (la (by omega)) fun b hb=>bd (gk (by simp) (by simp)) fun _ _=>h2 (by omega) _ ⟨by simp,Z63 Z3z (k2 b hb.2)⟩) fun _=>h2 (by omega) _ ⟨by simp,Z3z⟩) fun hge=>dn ⟨by omega,hI2⟩
 cases q3 with
 | inr y=>exact ok fun h=>absurd h hq3
 | inl q2=>
 obtain ⟨e1,e2⟩:=hq3
 refine bd (Y26 _ ⟨h1.pool,by have:=h1.ifsL; have:=hu.ifsL; dsimp only; omega,by have:=h1.fldL; have:=hu.fldL; dsimp only; omega,by dsimp only; omega,by have:=h1.attL; dsimp only; omega,h1.att,fun m hm=>?_⟩) fun w hw=>brN (fun h=>ok fun h'=>absurd h' h) fun h=>ok fun _=>?_
 rotate_left
 ·have hF:v1.2.f_F.Z1d.length≤8∧v1.2.f_F.Z0g.length≤64∧q2.length≤64:=hw h
  have:=h1.ifsL; have:=h1.fldL; exact ⟨by omega,by omega,by omega⟩
 rcases hm with hm|hm
 ·have:=h1.fld m hm; exact ⟨by omega,this.2⟩
 ·have:=e2 m hm; exact ⟨by omega,this.2⟩
theorem Y3y (u:Z0l) (hu:Z5a u):Ok (Z9c u) (fun e=>e=0→FewM u):=bd (Y0t u hu) fun _ h=>ok h
theorem Zl3 (w:Z0c) (n i:Int) (s:List UInt8) (b:Bool) (hi:i≤w.Z0n.length):Ok (Zcm w n i s b) (fun r=>r=true→0≤n∧n<i):=by
 unfold Zcm
 exact brD (fun _=>brD (fun _=>bd gr fun _ _=>br (fun _=>bd gr fun _ _=>bs (ok fun _=>⟨by omega,by omega⟩)) fun _=>ok (by simp)) fun _=>ok (by simp)) fun _=>ok (by simp)
theorem find_ok (w:Z0c) (l:Int) (s:List UInt8) (hw:Z55 w):Ok (Zh5 w l s) (fun _=>True):=by
 have:=hw.iniL
 unfold Zh5
 refine bd (P:=fun _=>True) (li w.Z2n.length (fun t h0 h1=>?_) (by omega) (by omega) (by omega)) fun q _=>by cases q <;> exact ok trivial
 unfold l55x1
 exact brD (fun _=>bd gr fun _ _=>br (fun _=>bd gr fun _ _=>br (fun _=>bd gr fun _ _=>di trivial) fun _=>bd wr fun _ _=>ni (by omega) (by omega)) fun _=>bd wr fun _ _=>ni (by omega) (by omega)) fun _=>di trivial
structure Z9h (w:Z0c) (i:Int) (c:Z1s):Prop where
 sup:c.Z17= -1∨(0≤c.Z17∧c.Z17<i)
 ifs:∀ n∈c.Z1d,0≤n∧n<i
 ifsL:c.Z1d.length≤8
 few:FewM c.Z12
 lod:0≤c.Z2v∧c.Z2v<w.Z1y.length
 lang:c.Z2v≠0→Z8n c.Z12.Z0f [108,97,110,103,47]=some false
theorem Y18 (w:Z0c) (hw:Z55 w) (i:Int) (h0:0≤i) (h1:i<w.Z0n.length) (c:Z1s) (hg:Z05 w.Z0n i=some c) (hm:c∈w.Z0n):Ok (Zbn w i) (fun b=>b=true→Z9h w i c):=by
 have hcl:=hw.clsL
 obtain ⟨hmod,hifs⟩:=hw.cls c hm
 have hmi:=hmod.ifsL
 have z:Ok (some false) (fun b=>b=true→Z9h w i c):=ok (by simp)
 unfold Zbn
 rw [hg]
 refine bs (brD (fun _=>z) fun k0=>brD (fun _=>z) fun k1=>bd (Y3y _ hmod) fun _ hck=>brN (fun _=>z) fun hck0=>brN (fun _=>z) fun hlen=>?_)
 have h2:(c.Z17= -1∨(0≤c.Z17∧c.Z17<i))→(c.Z2v≠0→Z8n c.Z12.Z0f [108,97,110,103,47]=some false)→Ok (Zbr c w i) (fun b=>b=true→Z9h w i c):=fun hs hl=>by
  unfold Zbr
  refine bd (P:=fun q:Unit⊕Bool=>match q with|.inl _=>∀ n∈c.Z1d,0≤n∧n<i|.inr b=>b=false) (Z5o (P:=fun n=>0≤n∧n<i) hifs (fun t g0 g1 v hv hvm hvg=>?_) fun t g0 g1 ha=>?_) fun q hq=>?_
  ·unfold Zgw
   rw [hvg]
   exact brD (fun _=>bs (bd gr fun _ _=>bd (Zl3 w v i _ _ (by omega)) fun b hb=>br! (fun _=>ok rfl) fun h=>bd wr fun _ hw'=>ok ⟨hw',hb h⟩)) fun h=>absurd g1 h
  ·unfold Zgw
   exact brD (fun h=>absurd h (by omega)) fun _=>ok ha
  cases q with
  | inr b=>exact ok fun h=>by cases hq.symm.trans h
  | inl _=>
   have hd:Z9h w i c:=⟨hs,hq,by have:=(hck hck0).1; omega,hck hck0,⟨by omega,by omega⟩,hl⟩
   refine bd (P:=fun _=>True) (li i (fun t g0 g1=>?_) (by omega) (by omega) (by omega)) fun q _=>?_
   ·unfold l32x2
    exact brD (fun _=>bd gr fun _ _=>br (fun _=>bd gr fun _ _=>br (fun _=>di trivial) fun _=>bd wr fun _ _=>ni (by omega) (by omega)) fun _=>bd wr fun _ _=>ni (by omega) (by omega)) fun _=>di trivial
   cases q with
   | inr _=>exact ok fun _=>hd
   | inl _=>exact bd (find_ok w _ _ hw) fun _ _=>br (fun _=>br (fun _=>brD (fun _=>brD (fun _=>ok fun _=>hd) fun _=>ok fun _=>hd) fun _=>ok fun _=>hd) fun _=>ok fun _=>hd) fun _=>ok fun _=>hd
 have h3:(c.Z2v≠0→Z8n c.Z12.Z0f [108,97,110,103,47]=some false)→Ok (Zf5 c w i) (fun b=>b=true→Z9h w i c):=fun hl=>by
  unfold Zf5
  exact brE (fun he=>br! (fun _=>bd (Zl3 w _ i _ _ (by omega)) fun b hb=>br! (fun _=>z) fun h=>h2 (.inr (hb h)) hl) fun _=>h2 (.inl he) hl) fun _=>br! (fun _=>bd (Zl3 w _ i _ _ (by omega)) fun b hb=>br! (fun _=>z) fun h=>h2 (.inr (hb h)) hl) fun _=>z
 exact brN (fun _=>bdE (Zqy _ _) fun b hb _=>br (fun _=>z) fun h=>h3 fun _=>by rw [hb,h]) fun h=>h3 fun h'=>absurd h h'
structure Z2y (w:Z0c):Prop where
 cls:∀ (i:Nat) c,w.Z0n[i]?=some c→Z9h w i c
 few:w.Z0n.length≤200
theorem Y3w (w:Z0c) (hw:Z55 w):Ok (Z90 w) (fun b=>b=true→Z2y w):=by
 have hcl:=hw.clsL; have hil:=hw.iniL; have hcon:=hw.conL
 unfold Z90
 refine bd (Y1x _ hw.lod hw.lodL) fun v0 h0=>brN (fun _=>ok (by simp)) fun h=>brD (fun _=>ok (by simp)) fun hc2=>brD (fun _=>ok (by simp)) fun _=>?_
 have hl8:=h0 h
 unfold j9x1
 refine bd (P:=fun q:Unit⊕Bool=>match q with|.inl _=>∀ b∈w.Z48,Z81 w b|.inr b=>b=false) (Z5o (P:=Z81 w) hcon (fun t g0 g1 v hv hvm hvg=>?_) fun t g0 g1 ha=>?_) fun q hq=>?_
 ·unfold l9x1
  rw [hvg]
  exact brD (fun _=>bs (brD (fun _=>ok rfl) fun _=>brD (fun _=>ok rfl) fun _=>brD (fun _=>ok rfl) fun _=>brD (fun _=>ok rfl) fun _=>bd (Zgz _ (hw.con v hvm)) fun _ _=>br! (fun _=>ok rfl) fun _=>bd wr fun _ hw'=>ok ⟨hw',by omega,by omega,by omega,by omega⟩)) fun h=>absurd g1 h
 ·unfold l9x1
  exact brD (fun h=>absurd h (by omega)) fun _=>ok ha
 cases q with
 | inr b=>exact ok fun h=>by cases hq.symm.trans h
 | inl _=>
 have hcons:∀ b∈w.Z48,Z81 w b:=hq
 refine bd (P:=fun q:Unit⊕Bool=>match q with|.inl _=>True|.inr b=>b=false) (lp (fun t=>t) w.Z2n.length (fun t=>∀ (j:Nat) v,(j:Int)<t→w.Z2n[j]?=some v→Z7n w v) (fun t hI g0 g1=>?_) (by omega) (fun j v h=>by omega) (by omega) (by omega)) fun q hq=>?_
 ·unfold l9x2
  refine brD (fun hlt=>bd (Y2u w t hw g0 hlt) fun b hb=>br! (fun _=>dn rfl) fun h=>?_) fun _=>dn trivial
  have hall:∀ (j:Nat) v,(j:Int)≤t→w.Z2n[j]?=some v→Z7n w v:=fun j v hj hv=>by
   rcases Int.lt_or_le (j:Int) t with h'|h'
   ·exact hI j v h' hv
   ·have:j=t.toNat:=by omega
    subst this
    exact hb h v hv
  exact bd (Y43 w t hw hl8 hcons g0 hlt hall) fun _ _=>br! (fun _=>dn rfl) fun _=>bd wr fun k hk=>nx (fun j v hj hv=>hall j v (by omega) hv) (by omega) (by omega)
 cases q with
 | inr b=>exact ok fun h=>by cases hq.symm.trans h
 | inl _=>
 refine bd (P:=fun q:Unit⊕Bool=>match q with|.inl _=>Z2y w|.inr b=>b=false) (lp (fun t=>t) w.Z0n.length (fun t=>∀ (j:Nat) c,(j:Int)<t→w.Z0n[j]?=some c→Z9h w j c) (fun t hI g0 g1=>?_) (by omega) (fun j v h=>by omega) (by omega) (by omega)) fun q hq=>?_
 ·unfold l9x3
  refine brD (fun hlt=>?_) fun hge=>dn ⟨fun j c hc=>hI j c (by have:=(List.getElem?_eq_some_iff.1 hc).1; omega) hc,by omega⟩
  obtain ⟨c,hg,hm,hi⟩:=gri (l:=w.Z0n) g0 hlt
  refine bd (Y18 w hw t g0 hlt c hg hm) fun b hb=>br! (fun _=>dn rfl) fun h=>bd wr fun k hk=>nx (fun j d hj hd=>?_) (by omega) (by omega)
  rcases Int.lt_or_le (j:Int) t with h'|h'
  ·exact hI j d h' hd
  ·have:j=t.toNat:=by omega
   subst this
   rw [hi] at hd; cases hd
   have:=hb h
   rwa [show ((t.toNat:Nat):Int)=t by omega]
 cases q with
 | inr b=>exact ok fun h=>by cases hq.symm.trans h
 | inl _=>exact ok fun _=>hq
end Go.Proofs
set_option linter.unusedVariables false
namespace Go.Proofs
open Go.Den Go.Tot
end Go.Proofs
set_option linter.unusedVariables false
namespace Go.Proofs
open Go.Den Go.Tot
abbrev FS:=Z0y
theorem growI {b n:Nat} (h:n*b≤140737488355328) (hn:n≤9223372036854775807):Z1n b n=some ():=by
 obtain ⟨u,e,_⟩:=gk h hn
 exact e
def Z2s (c:Int) (st:Bool):Int→List Z1b→List FS
 | _,[] =>[]
 | k,f::r=>if (((Z2b .i64 f.Z0r 8)!=0)==st)=true then { Z0p:=c,Z0w:=k }::Z2s c st (k+1) r else Z2s c st (k+1) r
theorem Ztc (c:Int) (st:Bool) (f:Z1b):∀ (l:List Z1b) (k:Int),Z2s c st k (l++[f])=Z2s c st k l++(if (((Z2b .i64 f.Z0r 8)!=0)==st)=true then [{ Z0p:=c,Z0w:=k+l.length }] else [])
 | [],k=>by
  unfold Z2s
  simp only [List.nil_append,List.length_nil,Int.natCast_zero,Int.add_zero]
  split <;> rfl
 | g::l,k=>by
  have h:=Ztc c st f l (k+1)
  simp only [List.cons_append]
  unfold Z2s
  rw [h,show k+1+(l.length:Int)=k+((g::l).length:Nat) by simp only [List.length_cons]; omega]
  split <;> rfl
def Z2r (w:Z0c) (c:Int) (st:Bool):List FS:=match Z05 w.Z0n c with
 | some v=>Z2s c st 0 v.Z12.Z0g
 | none=>[]
theorem Zol (c:Int) (st:Bool):∀ (l:List Z1b) (k:Int),(Z2s c st k l).length≤l.length
 | [],k=>by simp [Z2s]
 | f::l,k=>by
  have:=Zol c st l (k+1)
  unfold Z2s
  split <;> simp only [List.length_cons] <;> omega
theorem Zna (w:Z0c) (hv:Z2y w) (c:Int) (s:Bool) (h0:0≤c) (h1:c<w.Z0n.length):Zj0 w c s=some (Z2r w c s)∧(Z2r w c s).length≤64:=by
 obtain ⟨v,e,hm,hx⟩:=gri (l:=w.Z0n) h0 h1
 have hf:=(hv.cls _ v hx).few.2.1
 have hC:Z2r w c s=Z2s c s 0 v.Z12.Z0g:=by unfold Z2r; rw [e]
 refine ⟨?_,by rw [hC]; have:=Zol c s v.Z12.Z0g 0; omega⟩
 rw [hC]
 unfold Zj0
 rw [e]
 have:Ok (Z07 (l38x1 v c s) Z09 (0,([]:List FS))) (fun r=>r=Z2s c s 0 v.Z12.Z0g):=by
  refine lp (fun t=>t.1) v.Z12.Z0g.length (fun t=>t.2=Z2s c s 0 (v.Z12.Z0g.take t.1.toNat)) (fun t hI g0 g1=>?_) (by omega) (by simp [Z2s]) (by omega) (by dsimp only; omega)
  obtain ⟨i,acc⟩:=t
  dsimp only at hI g0 g1 ⊢
  subst hI
  unfold l38x1
  dsimp only
  refine brD (fun hlt=>?_) fun hge=>dn (by rw [List.take_of_length_le (by omega)])
  obtain ⟨f,ef,_,hfx⟩:=gri (l:=v.Z12.Z0g) g0 hlt
  have hlen:(Z2s c s 0 (v.Z12.Z0g.take i.toNat)).length≤i.toNat:=by have:=Zol c s (v.Z12.Z0g.take i.toNat) 0; rw [List.length_take] at this; omega
  have hs:Z2s c s 0 (v.Z12.Z0g.take (i+1).toNat)=Z2s c s 0 (v.Z12.Z0g.take i.toNat)++(if (((Z2b .i64 f.Z0r 8)!=0)==s)=true then [{ Z0p:=c,Z0w:=i }] else []):=by
   rw [show (i+1).toNat=i.toNat+1 by omega,List.take_add_one,hfx]
   simp only [Option.toList_some]
   rw [Ztc,List.length_take,show (0:Int)+((min i.toNat v.Z12.Z0g.length:Nat):Int)=i by omega]
  rw [ef]
  refine bs (bs (br (fun h=>?_) fun h=>?_))
  ·refine bd gk fun _ _=>bd wr fun k hk=>nx ?_
   dsimp only
   rw [hk,hs,if_pos h]
  ·refine bd wr fun k hk=>nx ?_
   dsimp only
   rw [hk,hs,if_neg (by simp [h]),List.append_nil]
 obtain ⟨r,er,rfl⟩:=this
 simp only [Option.bind_some,er]
def Z3y (w:Z0c):Nat→Int→List Int
 | 0,_=>[]
 | n+1,c=>match Z05 w.Z0n c with
  | some k=>c::Z3y w n k.Z17
  | none=>[]
def Z43 (w:Z0c) (n:Nat) (c:Int):List FS:=((Z3y w n c).reverse.map fun k=>Z2r w k false).flatten
theorem Z75 {α:Type} {l:List α} {c:Int} (h: ¬ (0≤c∧c<l.length)):Z05 l c=none:=by
 unfold Z05
 split
 ·rw [List.getElem?_eq_none]; omega
 ·rfl
theorem Z8p {w:Z0c} (hv:Z2y w) {c:Int} {k:Z1s} (h:Z05 w.Z0n c=some k):0≤c∧c<w.Z0n.length∧k.Z17<c:=by
 unfold Z05 at h
 split at h
 ·rename_i h0
  have hlt:=(List.getElem?_eq_some_iff.1 h).1
  refine ⟨h0,by omega,?_⟩
  rcases (hv.cls _ k h).sup with hs|hs <;> omega
 ·cases h
theorem Zp1 {w:Z0c} (hv:Z2y w):∀ (n m:Nat) (c:Int),c+2≤n→1≤n→c+2≤m→1≤m→Z3y w n c=Z3y w m c
 | n + 1,m+1,c,h1,_,h2,_=>by
  unfold Z3y
  cases e:Z05 w.Z0n c with
  | none=>rfl
  | some k=>
   have:=Z8p hv e
   dsimp only
   rw [Zp1 hv n m k.Z17 (by omega) (by omega) (by omega) (by omega)]
theorem Zmd {w:Z0c} {n:Nat} {c:Int} {k:Z1s} (e:Z05 w.Z0n c=some k):Z43 w (n+1) c=Z43 w n k.Z17++Z2r w c false:=by
 unfold Z43
 rw [Z3y,e]
 simp
theorem Zjg {w:Z0c} {n:Nat} {c:Int} (e:Z05 w.Z0n c=none):Z43 w n c=[] :=by
 unfold Z43
 cases n with
 | zero=>rfl
 | succ n=>rw [Z3y,e]; rfl
theorem Zmr (w:Z0c) (c:Int):Zg2 w c=some (decide (0≤c∧c<w.Z0n.length)):=by
 unfold Zg2
 by_cases h:c≥0
 ·rw [if_pos (decide_eq_true h)]
  simp [h]
 ·rw [if_neg (by simpa using h)]
  simp [h]
theorem Zxv (w:Z0c) (hv:Z2y w):∀ (nn:Nat) (c:Int),c+2≤nn→1≤nn→c≤1000000→Zpr nn w c=some (Z43 w nn c)∧(0≤c→((Z43 w nn c).length:Int)≤64*(c+1))
 | nn+1,c,h,_,hb=>by
  unfold Zpr
  rw [Zmr]
  simp only [Option.bind_some]
  by_cases ht:0≤c∧c<w.Z0n.length
  ·obtain ⟨v,e,hm,hx⟩:=gri (l:=w.Z0n) ht.1 ht.2
   obtain ⟨_,_,hs⟩:=Z8p hv e
   obtain ⟨r1,r2⟩:=Zxv w hv nn v.Z17 (by omega) (by omega) (by omega)
   obtain ⟨o1,o2⟩:=Zna w hv c false ht.1 ht.2
   have hlen:((Z43 w nn v.Z17).length:Int)≤64*c:=by
    by_cases hn:0≤v.Z17
    ·have:=r2 hn; omega
    ·rw [Zjg (Z75 (by omega))]; simp; omega
   rw [decide_eq_true ht,Zmd e,e]
   simp only [Bool.not_true,Bool.false_eq_true,if_false,Option.bind_some,r1,o1,List.nil_append]
   have g1:Z1n 16 (Z43 w nn v.Z17).length=some ():=growI (by omega) (by omega)
   have g2:Z1n 16 (Z43 w nn v.Z17++Z2r w c false).length=some ():=growI (by rw [List.length_append]; omega) (by rw [List.length_append]; omega)
   rw [g1,g2]
   exact ⟨rfl,fun _=>by rw [List.length_append]; omega⟩
  ·rw [decide_eq_false ht]
   have:Z43 w (nn+1) c=[] :=Zjg (Z75 ht)
   rw [this]
   exact ⟨rfl,fun h0=>by simp; omega⟩
end Go.Proofs
