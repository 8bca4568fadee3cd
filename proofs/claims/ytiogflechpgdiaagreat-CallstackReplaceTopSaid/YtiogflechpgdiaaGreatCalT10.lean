/-
  That a model comes to an answer: steps in Option that do not fail.
-/
import Derived.Test.YtiogflechpgdiaaGreatDenMod
import Derived.Test.YtiogflechpgdiaaGreatCal8
namespace Go.Tot
open Go.Den Go.RowKit
def Ok {α:Type} (o:Option α) (P:α→Prop):Prop:=∃ r,o=some r∧P r
section
variable {α β:Type} {P P':α→Prop} {Q:β→Prop}
theorem ok {x:α} (h:P x):Ok (some x) P:=⟨x,rfl,h⟩
theorem ok' {o:Option α} {x:α} (e:o=some x) (h:P x):Ok o P:=⟨x,e,h⟩
theorem Ok.mono {o:Option α} (h:Ok o P) (k:∀ x,P x→P' x):Ok o P':=by
 obtain ⟨r,e,p⟩:=h
 exact ⟨r,e,k r p⟩
theorem bd {o:Option α} {f:α→Option β} (h:Ok o P) (k:∀ x,P x→Ok (f x) Q):Ok (o.bind f) Q:=by
 obtain ⟨r,e,p⟩:=h
 obtain ⟨r',e',p'⟩:=k r p
 exact ⟨r',by rw [e]; exact e',p'⟩
theorem bs {x:α} {f:α→Option β} (k:Ok (f x) Q):Ok ((some x).bind f) Q:=k
theorem bdE {o:Option α} {f:α→Option β} (h:Ok o P) (k:∀ x,o=some x→P x→Ok (f x) Q):Ok (o.bind f) Q:=by
 obtain ⟨r,e,p⟩:=h
 obtain ⟨r',e',p'⟩:=k r e p
 exact ⟨r',by rw [e]; exact e',p'⟩
theorem br {b:Bool} {x y:Option α} (T:b=true→Ok x P) (F:b=false→Ok y P):Ok (if b=true then x else y) P:=by
 cases b with
 | true=>exact T rfl
 | false=>exact F rfl
theorem brD {p:Prop} [Decidable p] {x y:Option α} (T:p→Ok x P) (F: ¬p→Ok y P):Ok (if decide p=true then x else y) P:=by
 by_cases h:p
 ·rw [if_pos (decide_eq_true h)]; exact T h
 ·rw [if_neg (by simpa using h)]; exact F h
theorem brE {n m:Int} {x y:Option α} (T:n=m→Ok x P) (F:n≠m→Ok y P):Ok (if (n==m)=true then x else y) P:=by
 by_cases h:n=m
 ·rw [if_pos (by simpa using h)]; exact T h
 ·rw [if_neg (by simpa using h)]; exact F h
theorem brN {n m:Int} {x y:Option α} (T:n≠m→Ok x P) (F:n=m→Ok y P):Ok (if (n !=m)=true then x else y) P:=by
 by_cases h:n=m
 ·rw [if_neg (by simp [h])]; exact F h
 ·rw [if_pos (by simpa using h)]; exact T h
theorem br! {b:Bool} {x y:Option α} (T:b=false→Ok x P) (F:b=true→Ok y P):Ok (if (!b)=true then x else y) P:=by
 cases b with
 | true=>exact F rfl
 | false=>exact T rfl
end
section
variable {T R:Type} {f:T→Option (Ctl T R)} {Q:R→Prop}
def St (I:T→Prop) (ix:T→Int) (n:Int) (Q:R→Prop) (t:T):Ctl T R→Prop
 | .next t'=>I t'∧ix t<ix t'∧ix t'≤n
 | .done r=>Q r
variable {I:T→Prop} {ix:T→Int} {n:Int} {t:T}
theorem nx {t':T} (h:I t') (h1:ix t<ix t':=by first|omega|(dsimp only; omega)) (h2:ix t'≤n:=by first|omega|(dsimp only; omega)):Ok (some (Ctl.next t':Ctl T R)) (St I ix n Q t):=⟨_,rfl,h,h1,h2⟩
theorem dn {r:R} (h:Q r):Ok (some (Ctl.done r:Ctl T R)) (St I ix n Q t):=⟨_,rfl,h⟩
theorem lp (ix:T→Int) (n:Int) (I:T→Prop) (h:∀ t,I t→0≤ix t→ix t≤n→Ok (f t) (St I ix n Q t)) {t0:T} (hn:n≤9223372036854775807) (h0:I t0) (h1:0≤ix t0:=by first|omega|(dsimp only; omega)) (h2:ix t0≤n:=by first|omega|(dsimp only; omega)):Ok (Z07 f Z08 t0) Q:=by
 refine Y1s (fun t=>I t∧0≤ix t∧ix t≤n) (fun t=>(n - ix t).toNat) Q (fun t ht=>?_) Z08 t0 ⟨h0,h1,h2⟩ (by unfold Z08; omega)
 obtain ⟨x,e,p⟩:=h t ht.1 ht.2.1 ht.2.2
 refine ⟨x,e,?_⟩
 cases x with
 | next t'=>exact ⟨⟨p.1,by have:=p.2.1; omega,p.2.2⟩,by have:=p.2.1; have:=p.2.2; omega⟩
 | done r=>exact p
end
section
variable {R:Type} {f:Int→Option (Ctl Int R)} {Q:R→Prop}
def Si (n:Int) (Q:R→Prop) (t:Int):Ctl Int R→Prop
 | .next t'=>t<t'∧t'≤n
 | .done r=>Q r
variable {n t:Int}
theorem ni {t':Int} (h1:t<t':=by omega) (h2:t'≤n:=by omega):Ok (some (Ctl.next t':Ctl Int R)) (Si n Q t):=⟨_,rfl,h1,h2⟩
theorem di {r:R} (h:Q r):Ok (some (Ctl.done r:Ctl Int R)) (Si n Q t):=⟨_,rfl,h⟩
theorem li (n:Int) (h:∀ t,0≤t→t≤n→Ok (f t) (Si n Q t)) {t0:Int} (hn:n≤9223372036854775807:=by omega) (h1:0≤t0:=by omega) (h2:t0≤n:=by omega):Ok (Z07 f Z08 t0) Q:=
 lp (fun t=>t) n (fun _=>True) (fun t _ a b=>(h t a b).mono fun x hx=>by
  cases x with
  | next t'=>exact ⟨trivial,hx.1,hx.2⟩
  | done r=>exact hx) hn trivial h1 h2
end
section
variable {α:Type}
theorem Zal {n:Int} (h0: -9223372036854775808≤n) (h1:n≤9223372036854775807):IntKind.wrap .i64 n=n:=by
 have h:∀ m:Int,IntKind.wrap .i64 m=(m+9223372036854775808) % 18446744073709551616 - 9223372036854775808:=fun m=>by
  unfold IntKind.wrap
  simp [IntKind.bits,IntKind.signed,Int.bmod]
  omega
 rw [h]; omega
theorem wr {n:Int} (h0: -9223372036854775808≤n:=by omega) (h1:n≤9223372036854775807:=by omega):Ok (some (IntKind.wrap .i64 n)) fun v=>v=n:=ok (Zal h0 h1)
theorem sm {x:α}:Ok (some x) fun _=>True:=ok trivial
theorem gr {l:List α} {i:Int} (h0:0≤i:=by omega) (h1:i<l.length:=by omega):Ok (Z01 l i) fun x=>x∈l:=by
 have hlt:i.toNat<l.length:=by omega
 refine ⟨l[i.toNat],?_,List.getElem_mem hlt⟩
 unfold Z01
 rw [if_pos h0,List.getElem?_eq_getElem hlt]
theorem gri {l:List α} {i:Int} (h0:0≤i:=by omega) (h1:i<l.length:=by omega):Ok (Z01 l i) fun x=>x∈l∧l[i.toNat]?=some x:=by
 have hlt:i.toNat<l.length:=by omega
 refine ⟨l[i.toNat],?_,List.getElem_mem hlt,List.getElem?_eq_getElem hlt⟩
 unfold Z01
 rw [if_pos h0,List.getElem?_eq_getElem hlt]
theorem gs {s:List UInt8} {i:Int} (h0:0≤i:=by omega) (h1:i<s.length:=by omega):Ok (Z37 s i) fun x=>0≤x∧x<256:=by
 have hlt:i.toNat<s.length:=by omega
 refine ⟨(s[i.toNat].toNat:Int),?_,by omega,by have:=s[i.toNat].toNat_lt; omega⟩
 unfold Z37
 rw [if_pos h0,List.getElem?_eq_getElem hlt]
 rfl
theorem ik {i:Int} {n:Nat} (h0:0≤i:=by omega) (h1:i<n:=by omega):Ok (Z3e i n) fun j=>j=i.toNat∧j<n:=⟨i.toNat,by unfold Z3e; rw [if_pos ⟨h0,h1⟩],rfl,by omega⟩
theorem la {l:List α} {j:Nat} (h:j<l.length):Ok (l[j]?) fun x=>l[j]?=some x∧x∈l:=⟨l[j],List.getElem?_eq_getElem h,List.getElem?_eq_getElem h,List.getElem_mem h⟩
theorem gk {b n:Nat} (h:n*b≤140737488355328:=by first|omega|(simp only [List.length_append,List.length_cons,List.length_nil]; omega)) (hn:n≤9223372036854775807:=by first|omega|(simp only [List.length_append,List.length_cons,List.length_nil]; omega)):Ok (Z1l b n) fun _=>True:=⟨(),by unfold Z1l; rw [if_pos ⟨hn,h⟩],trivial⟩
theorem mk {b:Nat} {l c:Int} (h0:0≤l) (h1:l≤c) (h2:(b:Int)*c≤281474976710656) (h3:c≤9223372036854775807):Ok (Z90 b l c) fun _=>True:=⟨(),by unfold Z90; rw [if_pos ⟨h0,h1,h2,h3⟩],trivial⟩
theorem ct {a b:List UInt8} (h:a.length+b.length≤9223372036854775807):Ok (Z28 a b) fun m=>m=a++b∧m.length=a.length+b.length:=⟨a++b,by unfold Z28; rw [if_pos h],rfl,List.length_append⟩
theorem sb {l:List α} {lo hi:Int} (h0:0≤lo) (h1:lo≤hi) (h2:hi≤l.length):Ok (sub l lo hi) fun r=>(r.length:Int)=hi - lo∧∀ x∈r,x∈l:=by
 unfold sub
 rw [if_pos (by omega)]
 refine ok ⟨by simp; omega,fun x hx=>List.mem_of_mem_drop (List.mem_of_mem_take hx)⟩
end
end Go.Tot
set_option linter.unusedVariables false
namespace Go.Proofs
open Go.Den Go.Tot
abbrev Str (s:List UInt8):Prop:=s.length≤4503599627370496
structure WRef (r:Z1v):Prop where
 c:Str r.Z0s
 n:Str r.Z0f
 d:Str r.Z2h
structure Z34 (i:Z02):Prop where
 keys:i.Z0z.length*8≤140737488355328
 tos:i.Z0c.length*8≤140737488355328
 ref:WRef i.Z1f
 s:Str i.f_S
structure Z8m (f:Z5l):Prop where
 loc:∀ v∈f.Z0d,Str v.Z13.Z0f
 locL:f.Z0d.length*56≤140737488355328
 stk:∀ v∈f.Z0i,Str v.Z13.Z0f
 stkL:f.Z0i.length*56≤140737488355328
structure Z5j (c:Z0b):Prop where
 ins:∀ i∈c.Z0l,Z34 i
 insL:c.Z0l.length*144≤140737488355328
 hnd:∀ h∈c.Z23,Str h.Z13
 hndL:c.Z23.length*48≤140737488355328
 map:∀ m∈c.Z1p,Z8m m.Z1o
 mapL:c.Z1p.length*64≤140737488355328
 linL:c.Z1r.length*16≤140737488355328
structure Zam (m:Z2e):Prop where
 n:Str m.Z0f
 d:Str m.Z2h
 code:Z5j m.Z1u
 exc:∀ s∈m.Z6c,Str s
 excL:m.Z6c.length*16≤140737488355328
structure Zpf (f:Z5r):Prop where
 n:Str f.Z0f
 d:Str f.Z2h
 s:Str f.f_S
structure Z5p (u:Z0y):Prop where
 n:Str u.Z0f
 sup:Str u.Z1z
 ifs:∀ s∈u.Z16,Str s
 ifsL:u.Z16.length*16≤140737488355328
 fld:∀ f∈u.Z15,Zpf f
 fldL:u.Z15.length*72≤140737488355328
 met:∀ m∈u.Z14,Zam m
 metL:u.Z14.length*184≤140737488355328
 src:Str u.Z8c
structure Z7m (l:Z19):Prop where
 del:∀ d∈l.Z3y,Str d.Zdc
 delL:l.Z3y.length≤140737488355328
 sto:∀ c∈l.Z3d,Str c.Z0f
 stoL:l.Z3d.length≤140737488355328
structure Z5b (w:Z0v):Prop where
 lod:∀ l∈w.Z25,Z7m l
 lodL:w.Z25.length≤140737488355328
 cls:∀ c∈w.Z1a,Z5p c.Z24∧c.Z16.length≤140737488355328
 clsL:w.Z1a.length≤140737488355328
 ini:∀ x∈w.Z2d,Str x.Z0f
 iniL:w.Z2d.length≤140737488355328
 con:∀ x∈w.Z32,Str x.Z0f
 conL:w.Z32.length≤140737488355328
theorem Y8t (x:Int):Ok (Zik x) (fun _=>True):=by
 unfold Zik
 repeat' with_reducible first
  | refine brD (fun _=>?_) fun _=>?_
  | refine brE (fun _=>?_) fun _=>?_
  | refine ok ?_
  | exact True.intro
theorem L34x1 (x:List UInt8) (h:Str x):Ok (Z07 (Zl4 x) Z08 0) (fun q=>match q with|.inl _=>True|.inr y=>y=false):=by
 refine li (x.length) (fun t _ _=>?_) (by omega) (by omega) (by omega)
 unfold Zl4
 repeat' first
  | with_reducible refine ni ?_ ?_
  | with_reducible refine di ?_
  | with_reducible refine brD (fun _=>?_) fun _=>?_
  | with_reducible refine br! (fun _=>?_) fun _=>?_
  | with_reducible refine brE (fun _=>?_) fun _=>?_
  | with_reducible refine bd gs fun _ _=>?_
  | with_reducible refine bd wr fun _ _=>?_
  | with_reducible refine bd (Y8t _) fun _ _=>?_
  | (rfl)
  | exact True.intro
  | omega
theorem Zud (x:List UInt8) (h:Str x):Ok (Zcv x) (fun b=>b=true→x≠[]):=by
 unfold Zcv
 repeat' first
  | with_reducible refine bd (L34x1 _ (by first|assumption|omega|exact And.left (by assumption)|(dsimp only; omega))) fun _ _=>?_
  | with_reducible refine ok ?_
  | split
  | (first|(intro h; rintro rfl; simp at h; done)|(simp_all; done))
theorem L20x1 (x:List UInt8) (h:Str x):Ok (Z07 (Zm1 x) Z08 (0,0)) (fun q=>match q with|.inl y=>0≤y∧y≤x.length|.inr y=>True):=by
 refine lp (fun t=>t.2) (x.length) (fun t=>0≤t.1∧t.1≤t.2) (fun t hI _ _=>?_) (by omega) (by omega) (by omega) (by omega)
 try dsimp only at*
 unfold Zm1
 repeat' first
  | with_reducible refine nx ?_ ?_ ?_
  | with_reducible refine dn ?_
  | with_reducible refine brD (fun _=>?_) fun _=>?_
  | with_reducible refine br! (fun _=>?_) fun _=>?_
  | with_reducible refine brE (fun _=>?_) fun _=>?_
  | with_reducible refine bd gs fun _ _=>?_
  | with_reducible refine bd wr fun _ _=>?_
  | with_reducible refine bd (sb (by omega) (by omega) (by omega)) fun _ _=>?_
  | with_reducible refine bd (Zud _ (by unfold Str; omega)) fun _ _=>?_
  | exact True.intro
  | omega
theorem Zjc (x:List UInt8) (h:Str x):Ok (Zbb x) (fun b=>b=true→x.length≤64):=by
 unfold Zbb
 repeat' first
  | with_reducible refine bdE (L20x1 _ (by assumption)) fun q _ hq=>?_
  | with_reducible refine brD (fun _=>?_) fun _=>?_
  | with_reducible refine bd (sb (by omega) (by omega) (by omega)) fun _ _=>?_
  | with_reducible refine bd (Zud _ (by unfold Str; omega)) fun _ _=>?_
  | with_reducible refine ok ?_
  | split
  | ((intro hb; first|(cases hb; done)|omega))
theorem Y3j (x y:List UInt8):Ok (Za4 x y) (fun _=>True):=by
 unfold Za4
 repeat' with_reducible first
  | refine brD (fun _=>?_) fun _=>?_
  | refine bd (sb (by omega) (by omega) (by omega)) fun _ _=>?_
  | refine ok ?_
  | exact True.intro
theorem L32x1 (x:Z19) (i:Int) (h:Z7m x):Ok (Z07 (Zk3 x i) Z08 0) (fun _=>True):=by
 have:=h.stoL
 refine li (x.Z3d.length) (fun t _ _=>?_) (by omega) (by omega) (by omega)
 unfold Zk3
 repeat' first
  | with_reducible refine ni ?_ ?_
  | with_reducible refine di ?_
  | with_reducible refine brD (fun _=>?_) fun _=>?_
  | with_reducible refine br (fun _=>?_) fun _=>?_
  | with_reducible refine bd gr fun _ _=>?_
  | with_reducible refine bd wr fun _ _=>?_
  | with_reducible refine bd (Zjc _ (by exact h.sto _ (by assumption))) fun _ _=>?_
  | with_reducible refine bd (Y3j _ _) fun _ _=>?_
  | exact True.intro
  | omega
theorem Y5j (x:Z19) (i:Int) (h:Z7m x):Ok (Zo5 x i) (fun _=>True):=by
 unfold Zo5
 repeat' first
  | with_reducible refine bd (L32x1 _ _ (by first|assumption|omega|exact And.left (by assumption)|(dsimp only; omega))) fun _ _=>?_
  | with_reducible refine ok ?_
  | split
  | assumption
theorem L33x2 (k:Int) (x:Z19) (hl:x.Z3d.length≤140737488355328) (h0:0≤k) (h1:k<x.Z3d.length):Ok (Z07 (Zno k x) Z08 0) (fun _=>True):=by
 refine li (k) (fun t _ _=>?_) (by omega) (by omega) (by omega)
 unfold Zno
 repeat' first
  | with_reducible refine ni ?_ ?_
  | with_reducible refine di ?_
  | with_reducible refine brD (fun _=>?_) fun _=>?_
  | with_reducible refine br (fun _=>?_) fun _=>?_
  | with_reducible refine bd gr fun _ _=>?_
  | with_reducible refine bd wr fun _ _=>?_
  | exact True.intro
  | omega
theorem L33x1 (x:Z19) (hl:x.Z3d.length≤140737488355328):Ok (Z07 (Ziw x) Z08 0) (fun _=>True):=by
 refine li (x.Z3d.length) (fun t _ _=>?_) (by omega) (by omega) (by omega)
 unfold Ziw
 repeat' first
  | with_reducible refine ni ?_ ?_
  | with_reducible refine di ?_
  | with_reducible refine brD (fun _=>?_) fun _=>?_
  | with_reducible refine bd wr fun _ _=>?_
  | with_reducible refine bd (L33x2 _ _ (by first|assumption|omega|exact And.left (by assumption)|(dsimp only; omega)) (by first|assumption|omega|exact And.left (by assumption)|(dsimp only; omega)) (by first|assumption|omega|exact And.left (by assumption)|(dsimp only; omega))) fun _ _=>?_
  | split
  | exact True.intro
  | omega
theorem Y6x (x:Z19) (hl:x.Z3d.length≤140737488355328):Ok (Zlq x) (fun _=>True):=by
 unfold Zlq
 repeat' first
  | with_reducible refine bd (L33x1 _ (by first|assumption|omega|exact And.left (by assumption)|(dsimp only; omega))) fun _ _=>?_
  | with_reducible refine ok ?_
  | split
  | assumption
theorem L19x1 (x:List Z19) (h:∀ l∈x,Z7m l) (hl:x.length≤140737488355328):Ok (Z07 (Zo7 x) Z08 0) (fun _=>True):=by
 refine li (x.length) (fun t _ _=>?_) (by omega) (by omega) (by omega)
 unfold Zo7
 repeat' first
  | with_reducible refine ni ?_ ?_
  | with_reducible refine di ?_
  | with_reducible refine brD (fun _=>?_) fun _=>?_
  | with_reducible refine bd gr fun _ _=>?_
  | with_reducible refine bd wr fun _ _=>?_
  | exact True.intro
  | omega
theorem L19x3 (k:Int) (x:List Z19) (h:∀ l∈x,Z7m l) (hl:x.length≤140737488355328) (h0:0≤k) (h1:k<x.length):Ok (Z07 (Zni k x) Z08 0) (fun _=>True):=by
 obtain ⟨y,hy,hm⟩:=gr h0 h1
 have:=(h y hm).delL
 refine li (y.Z3y.length) (fun t _ _=>?_) (by omega) (by omega) (by omega)
 unfold Zni
 simp only [hy]
 repeat' first
  | with_reducible refine ni ?_ ?_
  | with_reducible refine di ?_
  | with_reducible refine brD (fun _=>?_) fun _=>?_
  | with_reducible refine bd gr fun _ _=>?_
  | with_reducible refine bd wr fun _ _=>?_
  | with_reducible refine bs ?_
  | exact True.intro
  | omega
theorem L19x2 (x:List Z19) (h:∀ l∈x,Z7m l) (hl:x.length≤140737488355328):Ok (Z07 (Zkc x) Z08 0) (fun _=>True):=by
 refine li (x.length) (fun t _ _=>?_) (by omega) (by omega) (by omega)
 unfold Zkc
 repeat' first
  | with_reducible refine ni ?_ ?_
  | with_reducible refine di ?_
  | with_reducible refine brD (fun _=>?_) fun _=>?_
  | with_reducible refine bd wr fun _ _=>?_
  | with_reducible refine bd (L19x3 _ _ (by first|assumption|omega|exact And.left (by assumption)|(dsimp only; omega)) (by first|assumption|omega|exact And.left (by assumption)|(dsimp only; omega)) (by first|assumption|omega|exact And.left (by assumption)|(dsimp only; omega)) (by first|assumption|omega|exact And.left (by assumption)|(dsimp only; omega))) fun _ _=>?_
  | split
  | exact True.intro
  | omega
theorem L19x4 (x:List Z19) (h:∀ l∈x,Z7m l) (hl:x.length≤140737488355328):Ok (Z07 (Zo9 x) Z08 0) (fun _=>True):=by
 refine li (x.length) (fun t _ _=>?_) (by omega) (by omega) (by omega)
 unfold Zo9
 repeat' first
  | with_reducible refine ni ?_ ?_
  | with_reducible refine di ?_
  | with_reducible refine brD (fun _=>?_) fun _=>?_
  | with_reducible refine brN (fun _=>?_) fun _=>?_
  | with_reducible refine bd gr fun _ _=>?_
  | with_reducible refine bd wr fun _ _=>?_
  | with_reducible refine bd (Y5j _ _ (by exact h _ (by assumption))) fun _ _=>?_
  | exact True.intro
  | omega
theorem L19x5 (x:List Z19) (h:∀ l∈x,Z7m l) (hl:x.length≤140737488355328):Ok (Z07 (Zm7 x) Z08 0) (fun _=>True):=by
 refine li (x.length) (fun t _ _=>?_) (by omega) (by omega) (by omega)
 unfold Zm7
 repeat' first
  | with_reducible refine ni ?_ ?_
  | with_reducible refine di ?_
  | with_reducible refine brD (fun _=>?_) fun _=>?_
  | with_reducible refine br (fun _=>?_) fun _=>?_
  | with_reducible refine bd gr fun _ _=>?_
  | with_reducible refine bd wr fun _ _=>?_
  | with_reducible refine bd (Y6x _ (by exact (h _ (by assumption)).stoL)) fun _ _=>?_
  | exact True.intro
  | omega
theorem Y8d (x:List Z19) (h:∀ l∈x,Z7m l) (hl:x.length≤140737488355328):Ok (Zhq x) (fun e=>e=0→x.length≤8):=by
 unfold Zhq
 repeat' first
  | unfold j57x1
  | with_reducible refine brD (fun _=>?_) fun _=>?_
  | with_reducible refine bd (L19x1 _ (by first|assumption|omega|exact And.left (by assumption)|(dsimp only; omega)) (by first|assumption|omega|exact And.left (by assumption)|(dsimp only; omega))) fun _ _=>?_
  | with_reducible refine bd (L19x2 _ (by first|assumption|omega|exact And.left (by assumption)|(dsimp only; omega)) (by first|assumption|omega|exact And.left (by assumption)|(dsimp only; omega))) fun _ _=>?_
  | with_reducible refine bd (L19x4 _ (by first|assumption|omega|exact And.left (by assumption)|(dsimp only; omega)) (by first|assumption|omega|exact And.left (by assumption)|(dsimp only; omega))) fun _ _=>?_
  | with_reducible refine bd (L19x5 _ (by first|assumption|omega|exact And.left (by assumption)|(dsimp only; omega)) (by first|assumption|omega|exact And.left (by assumption)|(dsimp only; omega))) fun _ _=>?_
  | with_reducible refine ok ?_
  | split
  | omega
theorem L21x1 (v:Z2x) (w:Z0v) (i:Int) (h:Z5b w) (h0:0≤i) (h1:i<w.Z2d.length):Ok (Z07 (Zmf v w i) Z08 0) (fun _=>True):=by
 have:=h.iniL
 refine li (i) (fun t _ _=>?_) (by omega) (by omega) (by omega)
 unfold Zmf
 repeat' first
  | with_reducible refine ni ?_ ?_
  | with_reducible refine di ?_
  | with_reducible refine brD (fun _=>?_) fun _=>?_
  | with_reducible refine br (fun _=>?_) fun _=>?_
  | with_reducible refine bd gr fun _ _=>?_
  | with_reducible refine bd wr fun _ _=>?_
  | exact True.intro
  | omega
def Z8w (w:Z0v) (v:Z2x):Prop:=0≤v.Z38∧v.Z38<w.Z25.length∧0≤v.Z0s∧v.Z0s<w.Z1a.length
def Z8v (w:Z0v) (b:Z41):Prop:=0≤b.f_A∧b.f_A<w.Z25.length∧0≤b.f_B∧b.f_B<w.Z25.length
theorem Y87 (w:Z0v) (i:Int) (h:Z5b w) (h0:0≤i) (h1:i<w.Z2d.length):Ok (Zhm w i) (fun b=>b=true→∀ v,w.Z2d[i.toNat]?=some v→Z8w w v):=by
 have:=h.iniL
 unfold Zhm
 repeat' first
  | with_reducible refine bd gri fun _ _=>?_
  | unfold j59x1
  | with_reducible refine brD (fun _=>?_) fun _=>?_
  | with_reducible refine bd (L21x1 _ _ _ (by first|assumption|omega|exact And.left (by assumption)|(dsimp only; omega)) (by first|assumption|omega|exact And.left (by assumption)|(dsimp only; omega)) (by first|assumption|omega|exact And.left (by assumption)|(dsimp only; omega))) fun _ _=>?_
  | with_reducible refine ok ?_
  | split
  | ((intro hb v hv; first|(cases hb; done)|(have e:∀ a,w.Z2d[i.toNat]?=some a→a=v:=fun a ha=>by { rw [hv] at ha; cases ha; rfl }; have:=e _ (And.right (by assumption)); subst this; exact ⟨by omega,by omega,by omega,by omega⟩)))
theorem L35x2 (w:Z0v) (s:List UInt8) (l0:List Bool) (h:Z5b w) (hl:w.Z25.length≤8) (hc:∀ b∈w.Z32,Z8v w b) (h0:l0.length=w.Z25.length):Ok (Z07 (Zjd w s) Z08 (0,l0)) (fun r=>r.length=w.Z25.length):=by
 have:=h.conL
 refine lp (fun t=>t.1) (w.Z32.length) (fun t=>t.2.length=w.Z25.length) (fun t hI _ _=>?_) (by omega) (by exact h0) (by omega) (by omega)
 try dsimp only at*
 unfold Zjd
 repeat' first
  | with_reducible refine bd (ik (by have:=hc _ (by assumption); unfold Z8v at this; omega) (by have:=hc _ (by assumption); unfold Z8v at this; first|omega|(simp only [List.length_set]; omega))) fun _ _=>?_
  | with_reducible refine nx ?_ ?_ ?_
  | with_reducible refine dn ?_
  | unfold Zny
  | with_reducible refine brD (fun _=>?_) fun _=>?_
  | with_reducible refine br (fun _=>?_) fun _=>?_
  | with_reducible refine bd gr fun _ _=>?_
  | with_reducible refine bd (la (by first|omega|(simp only [List.length_set,List.length_append,List.length_cons,List.length_nil,List.length_replicate]; omega))) fun _ _=>?_
  | with_reducible refine bd wr fun _ _=>?_
  | assumption
  | (simp only [List.length_set,List.length_append,List.length_cons,List.length_nil,List.length_replicate]; omega)
theorem L35x1 (w:Z0v) (s:List UInt8) (l0:List Bool) (h:Z5b w) (hl:w.Z25.length≤8) (hc:∀ b∈w.Z32,Z8v w b) (h0:l0.length=w.Z25.length):Ok (Z07 (Zkt w s) Z08 (0,l0)) (fun r=>r.length=w.Z25.length):=by
 refine lp (fun t=>t.1) (w.Z25.length) (fun t=>t.2.length=w.Z25.length) (fun t hI _ _=>?_) (by omega) (by exact h0) (by omega) (by omega)
 try dsimp only at*
 unfold Zkt
 repeat' first
  | with_reducible refine nx ?_ ?_ ?_
  | with_reducible refine dn ?_
  | with_reducible refine brD (fun _=>?_) fun _=>?_
  | with_reducible refine bd wr fun _ _=>?_
  | with_reducible refine bd (L35x2 _ _ _ (by first|assumption|omega|exact And.left (by assumption)|(dsimp only; omega)) (by first|assumption|omega|exact And.left (by assumption)|(dsimp only; omega)) (by first|assumption|omega|exact And.left (by assumption)|(dsimp only; omega)) (by first|assumption|omega|exact And.left (by assumption)|(dsimp only; omega))) fun _ _=>?_
  | omega
theorem Y7b (w:Z0v) (s:List UInt8) (k:Int) (h:Z5b w) (hl:w.Z25.length≤8) (hc:∀ b∈w.Z32,Z8v w b) (h0:0≤k) (h1:k<w.Z25.length):Ok (Zh6 w s k) (fun r=>r.length=w.Z25.length):=by
 unfold Zh6
 repeat' first
  | with_reducible refine bd (ik (by omega) (by first|omega|(simp only [List.length_set,List.length_append,List.length_cons,List.length_nil,List.length_replicate]; omega))) fun _ _=>?_
  | with_reducible refine bd (la (by first|omega|(simp only [List.length_set,List.length_append,List.length_cons,List.length_nil,List.length_replicate]; omega))) fun _ _=>?_
  | with_reducible refine bd (mk (by omega) (by omega) (by omega) (by omega)) fun _ _=>?_
  | with_reducible refine bd (L35x1 _ _ _ (by first|assumption|(simp only [List.length_set,List.length_replicate]; omega)) (by first|assumption|(simp only [List.length_set,List.length_replicate]; omega)) (by first|assumption|(simp only [List.length_set,List.length_replicate]; omega)) (by first|assumption|(simp only [List.length_set,List.length_replicate]; omega))) fun _ _=>?_
  | with_reducible refine ok ?_
  | assumption
theorem L22x1 (v:Z2x) (g:List Bool) (w:Z0v) (i:Int) (h:Z5b w) (h0:0≤i) (h1:i<w.Z2d.length) (hg:g.length=w.Z25.length) (hs:∀ (j:Nat) v,j<i→w.Z2d[j]?=some v→Z8w w v):Ok (Z07 (Zls v g w i) Z08 0) (fun _=>True):=by
 have:=h.iniL
 refine li (i) (fun t _ _=>?_) (by omega) (by omega) (by omega)
 unfold Zls
 repeat' first
  | with_reducible refine bd gri fun _ _=>?_
  | with_reducible refine bd (gr (by have:=hs t.toNat _ (by omega) (And.right (by assumption)); unfold Z8w at this; omega) (by have:=hs t.toNat _ (by omega) (And.right (by assumption)); unfold Z8w at this; omega)) fun _ _=>?_
  | with_reducible refine ni ?_ ?_
  | with_reducible refine di ?_
  | with_reducible refine brD (fun _=>?_) fun _=>?_
  | with_reducible refine br (fun _=>?_) fun _=>?_
  | with_reducible refine bd wr fun _ _=>?_
  | exact True.intro
  | omega
theorem Y71 (w:Z0v) (i:Int) (h:Z5b w) (hl:w.Z25.length≤8) (hc:∀ b∈w.Z32,Z8v w b) (h0:0≤i) (h1:i<w.Z2d.length) (hs:∀ (j:Nat) v,j≤i→w.Z2d[j]?=some v→Z8w w v):Ok (Zng w i) (fun _=>True):=by
 have:=h.iniL
 unfold Zng
 repeat' first
  | with_reducible refine bd gri fun _ _=>?_
  | with_reducible refine bd (Y7b _ _ _ h hl hc (by have:=hs i.toNat _ (by omega) (And.right (by assumption)); unfold Z8w at this; omega) (by have:=hs i.toNat _ (by omega) (And.right (by assumption)); unfold Z8w at this; omega)) fun _ _=>?_
  | with_reducible refine bd (L22x1 _ _ _ _ h h0 h1 (by assumption) (fun j v hj hv=>hs j v (by omega) hv)) fun _ _=>?_
  | with_reducible refine ok ?_
  | split
  | assumption
theorem L53x1 (x:List Z0k) (hl:x.length≤140737488355328):Ok (Z07 (Zlf x) Z08 0) (fun _=>True):=by
 refine li (x.length) (fun t _ _=>?_) (by omega) (by omega) (by omega)
 unfold Zlf
 repeat' first
  | with_reducible refine ni ?_ ?_
  | with_reducible refine di ?_
  | with_reducible refine brD (fun _=>?_) fun _=>?_
  | with_reducible refine brN (fun _=>?_) fun _=>?_
  | with_reducible refine bd gr fun _ _=>?_
  | with_reducible refine bd wr fun _ _=>?_
  | exact True.intro
  | omega
theorem Y4d (x:List Z0k) (hl:x.length≤140737488355328):Ok (Zdr x) (fun _=>True):=by
 unfold Zdr
 repeat' first
  | with_reducible refine bd (L53x1 _ (by first|assumption|omega|exact And.left (by assumption)|(dsimp only; omega))) fun _ _=>?_
  | with_reducible refine ok ?_
  | split
  | assumption
theorem L47x1 (u:Z0y) (h:Z5p u):Ok (Z07 (Znx u) Z08 0) (fun _=>True):=by
 have:=h.fldL
 refine li (u.Z15.length) (fun t _ _=>?_) (by omega) (by omega) (by omega)
 unfold Znx
 repeat' first
  | with_reducible refine ni ?_ ?_
  | with_reducible refine di ?_
  | unfold Ziu
  | with_reducible refine brD (fun _=>?_) fun _=>?_
  | with_reducible refine br! (fun _=>?_) fun _=>?_
  | with_reducible refine brE (fun _=>?_) fun _=>?_
  | with_reducible refine brN (fun _=>?_) fun _=>?_
  | with_reducible refine bd gr fun _ _=>?_
  | with_reducible refine bd wr fun _ _=>?_
  | exact True.intro
  | omega
theorem L47x3 (m:Z2e) (h:Zam m):Ok (Z07 (Zll m) Z08 0) (fun _=>True):=by
 have:=h.code.hndL
 refine li (m.Z1u.Z23.length) (fun t _ _=>?_) (by omega) (by omega) (by omega)
 unfold Zll
 repeat' first
  | with_reducible refine ni ?_ ?_
  | with_reducible refine di ?_
  | with_reducible refine brD (fun _=>?_) fun _=>?_
  | with_reducible refine brN (fun _=>?_) fun _=>?_
  | with_reducible refine bd gr fun _ _=>?_
  | with_reducible refine bd wr fun _ _=>?_
  | exact True.intro
  | omega
theorem L47x4 (m:Z2e) (h:Zam m):Ok (Z07 (Zl0 m) Z08 0) (fun _=>True):=by
 have:=h.code.mapL
 refine li (m.Z1u.Z1p.length) (fun t _ _=>?_) (by omega) (by omega) (by omega)
 unfold Zl0
 repeat' first
  | with_reducible refine bd (Y4d _ (by have:=(h.code.map _ (by assumption)).locL; omega)) fun _ _=>?_
  | with_reducible refine bd (Y4d _ (by have:=(h.code.map _ (by assumption)).stkL; omega)) fun _ _=>?_
  | with_reducible refine ni ?_ ?_
  | with_reducible refine di ?_
  | with_reducible refine brD (fun _=>?_) fun _=>?_
  | with_reducible refine br! (fun _=>?_) fun _=>?_
  | with_reducible refine bd gr fun _ _=>?_
  | with_reducible refine bd wr fun _ _=>?_
  | exact True.intro
  | omega
theorem L47x2 (u:Z0y) (h:Z5p u):Ok (Z07 (Zn8 u) Z08 0) (fun _=>True):=by
 have:=h.metL
 refine li (u.Z14.length) (fun t _ _=>?_) (by omega) (by omega) (by omega)
 unfold Zn8
 repeat' first
  | with_reducible refine ni ?_ ?_
  | with_reducible refine di ?_
  | unfold Zl9
  | with_reducible refine brD (fun _=>?_) fun _=>?_
  | with_reducible refine bd gr fun _ _=>?_
  | with_reducible refine bd wr fun _ _=>?_
  | with_reducible refine bd (L47x3 _ (by exact h.met _ (by assumption))) fun _ _=>?_
  | with_reducible refine bd (L47x4 _ (by exact h.met _ (by assumption))) fun _ _=>?_
  | with_reducible refine bs ?_
  | split
  | exact True.intro
  | omega
theorem Ya6 (u:Z0y) (h:Z5p u):Ok (Zn3 u) (fun _=>True):=by
 unfold Zn3
 repeat' first
  | with_reducible refine bd (L47x1 _ (by first|assumption|omega|exact And.left (by assumption)|(dsimp only; omega))) fun _ _=>?_
  | with_reducible refine bd (L47x2 _ (by first|assumption|omega|exact And.left (by assumption)|(dsimp only; omega))) fun _ _=>?_
  | with_reducible refine ok ?_
  | split
  | assumption
end Go.Proofs
set_option linter.unusedVariables false
namespace Go.Proofs
open Go.Den Go.Tot
structure Z17 (p:List Z00):Prop where
 len:p.length≤1000
 ord:∀ (k:Nat) c,p[k]?=some c→c.f_A≤k∧c.f_B≤k
 str:∀ c∈p,Str c.f_S
theorem Z17.app {p:List Z00} {c:Z00} (h:Z17 p) (hl:p.length<1000) (ha:c.f_A≤p.length) (hb:c.f_B≤p.length) (hs:Str c.f_S):Z17 (([]++p)++[c]):=by
 refine ⟨by simp; omega,fun k d hd=>?_,fun d hd=>?_⟩
 ·rw [List.nil_append] at hd
  rcases Nat.lt_trichotomy k p.length with h1|h1|h1
  ·rw [List.getElem?_append_left h1] at hd; exact h.ord k d hd
  ·subst h1
   rw [List.getElem?_append_right (Nat.le_refl _),Nat.sub_self] at hd
   cases hd; exact ⟨ha,hb⟩
  ·rw [List.getElem?_eq_none (by simp; omega)] at hd; cases hd
 ·rw [List.nil_append] at hd
  rcases List.mem_append.1 hd with hd|hd
  ·exact h.str d hd
  ·rw [List.mem_singleton.1 hd]; exact hs
theorem Z17.nil:Z17 [] :=⟨by simp,fun k c h=>by simp at h,fun c h=>by simp at h⟩
abbrev PR (p:List Z00) (r:List Z00×Int×Int):Prop:=Z17 r.1∧p.length≤r.1.length∧0≤r.2.1∧r.2.1≤r.1.length∧r.1.length≤1000
theorem Z72 {α:Type} {P:α→Prop} {l:List α} {x:α} (h:∀ v∈l,P v) (hx:P x):∀ v∈l++[x],P v:=fun v hv=>by
 rcases List.mem_append.1 hv with hv|hv
 ·exact h v hv
 ·rw [List.mem_singleton.1 hv]; exact hx
theorem Z4v {α:Type} {P:α→Prop}:∀ v∈([]:List α),P v:=fun v hv=>by simp at hv
theorem W0 {op a:Int}:Z34 { f_Op:=op,f_A:=a,f_B:=0,f_To:=0,Z0z:=[],Z0c:=[],Z1f:={ Z0s:=[],Z0f:=[],Z2h:=[] },f_S:=[] }:=⟨by simp,by simp,⟨by simp,by simp,by simp⟩,by simp⟩
theorem L77x1 (p:List Z00) (c:Z00) (hp:Z17 p):Ok (Z07 (Zog p c) Z08 0) (fun q=>match q with|.inl _=>True|.inr y=>PR p y):=by
 have:=hp.len
 refine li (p.length) (fun t _ _=>?_) (by omega) (by omega) (by omega)
 unfold Zog
 repeat' first
  | with_reducible refine ni ?_ ?_
  | with_reducible refine di ?_
  | with_reducible refine brD (fun _=>?_) fun _=>?_
  | with_reducible refine br (fun _=>?_) fun _=>?_
  | with_reducible refine bd gr fun _ _=>?_
  | with_reducible refine bd wr fun _ _=>?_
  | with_reducible refine And.intro ?_ ?_
  | exact True.intro
  | omega
  | (dsimp only; omega)
theorem Zgv (p:List Z00) (c:Z00) (hp:Z17 p) (ha:c.f_A≤p.length) (hb:c.f_B≤p.length) (hs:Str c.f_S):Ok (Z8o p c) (PR p):=by
 have:=hp.len
 unfold Z8o
 repeat' first
  | with_reducible refine brD (fun _=>?_) fun _=>?_
  | with_reducible refine bd wr fun _ _=>?_
  | with_reducible refine bd gk fun _ _=>?_
  | with_reducible refine bd (L77x1 _ _ (by first|assumption|omega|exact And.left (by assumption)|(dsimp only; omega))) fun _ _=>?_
  | with_reducible refine ok ?_
  | split
  | (first|exact ⟨hp.app (by omega) ha hb hs,by simp,by dsimp only; omega,by simp; omega,by simp; omega⟩|exact ⟨hp,by dsimp only; omega,by dsimp only; omega,by dsimp only; omega,by dsimp only; omega⟩|(dsimp only at *; assumption))
theorem Zec (p:List Z00) (s:List UInt8) (hp:Z17 p) (hs:Str s):Ok (Z9r p s) (PR p):=by
 have:=hp.len
 unfold Z9r
 repeat' first
  | with_reducible refine bd (Zgv _ _ (by first|assumption|omega|(dsimp only; omega)|exact And.left (by assumption)|(simp; done)) (by first|assumption|omega|(dsimp only; omega)|exact And.left (by assumption)|(simp; done)) (by first|assumption|omega|(dsimp only; omega)|exact And.left (by assumption)|(simp; done)) (by first|assumption|omega|(dsimp only; omega)|exact And.left (by assumption)|(simp; done))) fun _ _=>?_
  | with_reducible refine ok ?_
  | (first|exact ⟨by first|exact hp|exact And.left (by assumption),by dsimp only; omega,by dsimp only; omega,by dsimp only; omega,by dsimp only; omega⟩|exact ⟨hp,by dsimp only; omega,by dsimp only; omega,by dsimp only; omega,by dsimp only; omega⟩)
theorem Y2b (p:List Z00) (tag:Int) (s:List UInt8) (hp:Z17 p) (hs:Str s):Ok (Zge p tag s) (PR p):=by
 have:=hp.len
 unfold Zge
 repeat' first
  | with_reducible refine brN (fun _=>?_) fun _=>?_
  | with_reducible refine bd (Zec _ _ (by first|assumption|omega|exact And.left (by assumption)|(dsimp only; omega)) (by first|assumption|omega|exact And.left (by assumption)|(dsimp only; omega))) fun _ _=>?_
  | with_reducible refine bd (Zgv _ _ (by first|assumption|omega|(dsimp only; omega)|exact And.left (by assumption)|(simp; done)) (by first|assumption|omega|(dsimp only; omega)|exact And.left (by assumption)|(simp; done)) (by first|assumption|omega|(dsimp only; omega)|exact And.left (by assumption)|(simp; done)) (by first|assumption|omega|(dsimp only; omega)|exact And.left (by assumption)|(simp; done))) fun _ _=>?_
  | with_reducible refine ok ?_
  | (first|exact ⟨by first|exact hp|exact And.left (by assumption),by dsimp only; omega,by dsimp only; omega,by dsimp only; omega,by dsimp only; omega⟩|exact ⟨hp,by dsimp only; omega,by dsimp only; omega,by dsimp only; omega,by dsimp only; omega⟩)
theorem Zpc (p:List Z00) (s:List UInt8) (hp:Z17 p) (hs:Str s):Ok (Zbm p s) (PR p):=by
 have:=hp.len
 unfold Zbm
 repeat' first
  | with_reducible refine bd (Y2b _ _ _ (by first|assumption|omega|exact And.left (by assumption)|(dsimp only; omega)) (by first|assumption|omega|exact And.left (by assumption)|(dsimp only; omega))) fun _ _=>?_
  | with_reducible refine ok ?_
  | (first|exact ⟨by first|exact hp|exact And.left (by assumption),by dsimp only; omega,by dsimp only; omega,by dsimp only; omega,by dsimp only; omega⟩|exact ⟨hp,by dsimp only; omega,by dsimp only; omega,by dsimp only; omega,by dsimp only; omega⟩)
theorem Y2d (p:List Z00) (s:List UInt8) (hp:Z17 p) (hs:Str s):Ok (Ze7 p s) (PR p):=by
 have:=hp.len
 unfold Ze7
 repeat' first
  | with_reducible refine bd (Y2b _ _ _ (by first|assumption|omega|exact And.left (by assumption)|(dsimp only; omega)) (by first|assumption|omega|exact And.left (by assumption)|(dsimp only; omega))) fun _ _=>?_
  | with_reducible refine ok ?_
  | (first|exact ⟨by first|exact hp|exact And.left (by assumption),by dsimp only; omega,by dsimp only; omega,by dsimp only; omega,by dsimp only; omega⟩|exact ⟨hp,by dsimp only; omega,by dsimp only; omega,by dsimp only; omega,by dsimp only; omega⟩)
theorem Ze0 (x:Z0t) (s:List UInt8) (hp:Z17 x.f_P) (hs:Str s):Ok (Za6 x s) (fun r=>Z17 r.1.f_P):=by
 unfold Za6
 repeat' first
  | with_reducible refine brN (fun _=>?_) fun _=>?_
  | with_reducible refine bd (Zpc _ _ (by first|assumption|omega|exact And.left (by assumption)|(dsimp only; omega)) (by first|assumption|omega|exact And.left (by assumption)|(dsimp only; omega))) fun _ _=>?_
  | with_reducible refine ok ?_
  | (exact And.left (by assumption))
  | assumption
theorem Z7x (x:Z0t) (s:List UInt8) (hp:Z17 x.f_P) (hs:Str s):Ok (Z6h x s) (fun r=>Z17 r.1.f_P):=by
 unfold Z6h
 repeat' first
  | with_reducible refine brN (fun _=>?_) fun _=>?_
  | with_reducible refine bd (Zec _ _ (by first|assumption|omega|exact And.left (by assumption)|(dsimp only; omega)) (by first|assumption|omega|exact And.left (by assumption)|(dsimp only; omega))) fun _ _=>?_
  | with_reducible refine ok ?_
  | (exact And.left (by assumption))
  | assumption
theorem Y7n (x:Z0t) (f:Z5r) (hp:Z17 x.f_P) (hf:Zpf f):Ok (Zjg x f) (fun r=>Z17 r.1.f_P):=by
 unfold Zjg
 repeat' first
  | unfold Zlz
  | with_reducible refine brE (fun _=>?_) fun _=>?_
  | with_reducible refine brN (fun _=>?_) fun _=>?_
  | with_reducible refine bd (Y2d _ _ (by first|exact hf.s|assumption) (by first|exact hf.s|assumption)) fun _ _=>?_
  | with_reducible refine bd (Zgv _ _ (by first|assumption|omega|(dsimp only; omega)|exact And.left (by assumption)|(simp; done)) (by first|assumption|omega|(dsimp only; omega)|exact And.left (by assumption)|(simp; done)) (by first|assumption|omega|(dsimp only; omega)|exact And.left (by assumption)|(simp; done)) (by first|assumption|omega|(dsimp only; omega)|exact And.left (by assumption)|(simp; done))) fun _ _=>?_
  | with_reducible refine ok ?_
  | (exact And.left (by assumption))
  | assumption
theorem Ya0 (p:List Z00) (tag:Int) (r:Z1v) (hp:Z17 p) (hr:WRef r):Ok (Zcw p tag r) (PR p):=by
 have:=hp.len
 unfold Zcw
 repeat' first
  | with_reducible refine bd (Zec _ _ (And.left (by assumption)) hr.n) fun _ _=>?_
  | with_reducible refine bd (Zec _ _ (And.left (by assumption)) hr.d) fun _ _=>?_
  | with_reducible refine brN (fun _=>?_) fun _=>?_
  | with_reducible refine bd (Zpc _ _ (by first|exact hr.c|assumption) (by first|exact hr.c|assumption)) fun _ _=>?_
  | with_reducible refine bd (Zgv _ _ (by first|assumption|omega|(dsimp only; omega)|exact And.left (by assumption)|(simp; done)) (by first|assumption|omega|(dsimp only; omega)|exact And.left (by assumption)|(simp; done)) (by first|assumption|omega|(dsimp only; omega)|exact And.left (by assumption)|(simp; done)) (by first|assumption|omega|(dsimp only; omega)|exact And.left (by assumption)|(simp; done))) fun _ _=>?_
  | with_reducible refine ok ?_
  | (first|exact ⟨by first|exact hp|exact And.left (by assumption),by dsimp only; omega,by dsimp only; omega,by dsimp only; omega,by dsimp only; omega⟩|exact ⟨hp,by dsimp only; omega,by dsimp only; omega,by dsimp only; omega,by dsimp only; omega⟩)
theorem Zyo (x:Int):Ok (Zas x) (fun _=>True):=by
 unfold Zas
 repeat' with_reducible first
  | refine brD (fun _=>?_) fun _=>?_
  | refine ok ?_
  | exact True.intro
theorem Zxo (x a b:Int):Ok (Z7r x a b) (fun _=>True):=by
 unfold Z7r
 repeat' with_reducible first
  | refine brD (fun _=>?_) fun _=>?_
  | refine ok ?_
  | exact True.intro
theorem Y3d (x:Int):Ok (Zh2 x) (fun _=>True):=by
 unfold Zh2
 repeat' with_reducible first
  | refine brD (fun _=>?_) fun _=>?_
  | refine ok ?_
  | exact True.intro
theorem Y6a (x:Int):Ok (Zix x) (fun _=>True):=by
 unfold Zix
 repeat' with_reducible first
  | refine brD (fun _=>?_) fun _=>?_
  | refine ok ?_
  | exact True.intro
theorem Y2y (x:Int):Ok (Zew x) (fun _=>True):=by
 unfold Zew
 repeat' with_reducible first
  | refine brE (fun _=>?_) fun _=>?_
  | refine ok ?_
  | exact True.intro
theorem Zri (x:Int):Ok (Zel x) (fun _=>True):=by
 unfold Zel
 repeat' with_reducible first
  | refine brD (fun _=>?_) fun _=>?_
  | refine ok ?_
  | exact True.intro
theorem Y4b (x:Int):Ok (Z7l x) (fun _=>True):=by
 unfold Z7l
 repeat' first
  | unfold Zib
  | unfold Zku
  | with_reducible refine br (fun _=>?_) fun _=>?_
  | with_reducible refine bd (Zyo _) fun _ _=>?_
  | with_reducible refine bd (Zxo _ _ _) fun _ _=>?_
  | with_reducible refine ok ?_
  | assumption
theorem Y83 (x:Z02) (k:Int):Ok (Zbk x k) (fun _=>True):=by
 unfold Zbk
 repeat' with_reducible first
  | unfold Zk4
  | unfold Zft
  | unfold Zer
  | refine br! (fun _=>?_) fun _=>?_
  | refine brE (fun _=>?_) fun _=>?_
  | refine brN (fun _=>?_) fun _=>?_
  | refine ok ?_
  | exact True.intro
theorem L114x1 (x:Z02) (hx:Z34 x):Ok (Z07 (Zbz x) Z08 0) (fun _=>True):=by
 have:=hx.tos
 refine li (x.Z0c.length) (fun t _ _=>?_) (by omega) (by omega) (by omega)
 unfold Zbz
 repeat' first
  | with_reducible refine ni ?_ ?_
  | with_reducible refine di ?_
  | with_reducible refine brD (fun _=>?_) fun _=>?_
  | with_reducible refine bd gr fun _ _=>?_
  | with_reducible refine bd wr fun _ _=>?_
  | exact True.intro
  | omega
theorem Y8x (x:Z02) (hx:Z34 x):Ok (Z8u x) (fun _=>True):=by
 unfold Z8u
 repeat' with_reducible first
  | unfold Zjt
  | refine bd (L114x1 _ (by first|assumption|omega|exact And.left (by assumption)|(dsimp only; omega))) fun _ _=>?_
  | refine ok ?_
  | split
  | exact True.intro
theorem Y45 (x:Z02) (hx:Z34 x):Ok (Z07 (Zlu x) Z08 0) (fun _=>True):=by
 have:=hx.keys
 refine li (x.Z0z.length) (fun t _ _=>?_) (by omega) (by omega) (by omega)
 unfold Zlu
 repeat' first
  | with_reducible refine ni ?_ ?_
  | with_reducible refine di ?_
  | with_reducible refine brD (fun _=>?_) fun _=>?_
  | with_reducible refine br! (fun _=>?_) fun _=>?_
  | with_reducible refine bd gr fun _ _=>?_
  | with_reducible refine bd wr fun _ _=>?_
  | with_reducible refine bd (Zri _) fun _ _=>?_
  | exact True.intro
  | omega
theorem Y41 (x:Z02) (hx:Z34 x):Ok (Z07 (Znm x) Z08 1) (fun _=>True):=by
 have:=hx.keys
 refine lp (fun t=>t) (max 1 x.Z0z.length) (fun t=>1≤t) (fun t hI _ _=>?_) (by omega) (by omega) (by omega) (by omega)
 unfold Znm
 repeat' first
  | with_reducible refine nx ?_ ?_ ?_
  | with_reducible refine dn ?_
  | with_reducible refine brD (fun _=>?_) fun _=>?_
  | with_reducible refine bd gr fun _ _=>?_
  | with_reducible refine bd wr fun _ _=>?_
  | exact True.intro
  | omega
theorem Y5y (x:Z02) (hx:Z34 x):Ok (Zc9 x) (fun _=>True):=by
 unfold Zc9
 repeat' with_reducible first
  | unfold Zh7
  | unfold Zj2
  | refine brD (fun _=>?_) fun _=>?_
  | refine bd wr fun _ _=>?_
  | refine bd (Zri _) fun _ _=>?_
  | refine bd (Y45 _ (by first|assumption|omega|exact And.left (by assumption)|(dsimp only; omega))) fun _ _=>?_
  | refine bd (Y41 _ (by assumption)) fun _ _=>?_
  | refine ok ?_
  | split
  | exact True.intro
theorem Ya2 (x:Z02) (hx:Z34 x):Ok (Z5z x) (fun _=>True):=by
 unfold Z5z
 repeat' first
  | unfold Za5
  | unfold Zbf
  | unfold Zd0
  | unfold Z9g
  | unfold Zcm
  | with_reducible refine brD (fun _=>?_) fun _=>?_
  | with_reducible refine br! (fun _=>?_) fun _=>?_
  | with_reducible refine brE (fun _=>?_) fun _=>?_
  | with_reducible refine bd (Y4b _) fun _ _=>?_
  | with_reducible refine bd (Y83 _ _) fun _ _=>?_
  | with_reducible refine bd (Y8x _ (by first|assumption|omega|exact And.left (by assumption)|(dsimp only; omega))) fun _ _=>?_
  | with_reducible refine bd (Y5y _ (by first|assumption|omega|exact And.left (by assumption)|(dsimp only; omega))) fun _ _=>?_
  | with_reducible refine ok ?_
  | assumption
theorem Y9y (x:Z02) (hx:Z34 x):Ok (Zkp x) (fun _=>True):=by
 unfold Zkp
 repeat' with_reducible first
  | unfold Zua
  | unfold Zj9
  | unfold Zfh
  | refine br (fun _=>?_) fun _=>?_
  | refine bd (Y3d _) fun _ _=>?_
  | refine bd (Y6a _) fun _ _=>?_
  | refine bd (Y2y _) fun _ _=>?_
  | refine bs ?_
  | refine ok ?_
  | exact True.intro
theorem Zzw (x:Int):Ok (Zgh x) (fun l=>l.length≤3):=by
 unfold Zgh
 repeat' first
  | unfold Zrn
  | unfold Zr1
  | unfold Zsa
  | unfold Zrk
  | with_reducible refine br (fun _=>?_) fun _=>?_
  | with_reducible refine bd (Zxo _ _ _) fun _ _=>?_
  | with_reducible refine ok ?_
  | (first|(simp; done)|decide)
theorem L158x1 (l:List Int) (x:Int) (hl:l.length≤140737488355328):Ok (Z07 (Znb l x) Z08 0) (fun _=>True):=by
 refine li (l.length) (fun t _ _=>?_) (by omega) (by omega) (by omega)
 unfold Znb
 repeat' first
  | with_reducible refine ni ?_ ?_
  | with_reducible refine di ?_
  | with_reducible refine brD (fun _=>?_) fun _=>?_
  | with_reducible refine brE (fun _=>?_) fun _=>?_
  | with_reducible refine bd gr fun _ _=>?_
  | with_reducible refine bd wr fun _ _=>?_
  | exact True.intro
  | omega
theorem Y6l (l:List Int) (x:Int) (hl:l.length≤140737488355328):Ok (Zjz l x) (fun _=>True):=by
 unfold Zjz
 repeat' first
  | with_reducible refine bd (L158x1 _ _ (by first|assumption|omega|exact And.left (by assumption)|(dsimp only; omega))) fun _ _=>?_
  | with_reducible refine ok ?_
  | split
  | assumption
theorem Y52 (p:List Z00) (x:Z02) (hp:Z17 p) (hx:Z34 x):Ok (Zlc p x) (PR p):=by
 have:=hp.len
 unfold Zlc
 repeat' first
  | unfold Zpk
  | unfold Zm9
  | unfold Zka
  | unfold Zpu
  | with_reducible refine br (fun _=>?_) fun _=>?_
  | with_reducible refine bd (Y2d _ _ (by first|exact hx.s|assumption) (by first|exact hx.s|assumption)) fun _ _=>?_
  | with_reducible refine bd (Zgv _ _ (by first|assumption|omega|(dsimp only; omega)|exact And.left (by assumption)|(simp; done)) (by first|assumption|omega|(dsimp only; omega)|exact And.left (by assumption)|(simp; done)) (by first|assumption|omega|(dsimp only; omega)|exact And.left (by assumption)|(simp; done)) (by first|assumption|omega|(dsimp only; omega)|exact And.left (by assumption)|(simp; done))) fun _ _=>?_
  | with_reducible refine bd (Y2y _) fun _ _=>?_
  | with_reducible refine bd (Zpc _ _ (by first|exact hx.ref.c|assumption) (by first|exact hx.ref.c|assumption)) fun _ _=>?_
  | with_reducible refine bd (Zec _ _ (by first|exact hx.s|assumption) (by first|exact hx.s|assumption)) fun _ _=>?_
  | with_reducible refine bd (Y3d _) fun _ _=>?_
  | with_reducible refine bd (Ya0 _ _ _ (by first|exact hx.ref|assumption) (by first|exact hx.ref|assumption)) fun _ _=>?_
  | with_reducible refine ok ?_
  | (first|exact ⟨by first|exact hp|exact And.left (by assumption),by dsimp only; omega,by dsimp only; omega,by dsimp only; omega,by dsimp only; omega⟩|exact ⟨hp,by dsimp only; omega,by dsimp only; omega,by dsimp only; omega,by dsimp only; omega⟩)
theorem Y9x (p:List Z00) (x:Z02) (hp:Z17 p) (hx:Z34 x):Ok (Zl6 p x) (fun r=>Z17 r.1∧Z34 r.2.1):=by
 unfold Zl6
 repeat' first
  | unfold Zlv
  | unfold Zgm
  | with_reducible refine br! (fun _=>?_) fun _=>?_
  | with_reducible refine brE (fun _=>?_) fun _=>?_
  | with_reducible refine brN (fun _=>?_) fun _=>?_
  | with_reducible refine bd (Zyo _) fun _ _=>?_
  | with_reducible refine bd (Y4b _) fun _ _=>?_
  | with_reducible refine bd (Ya2 _ (by first|assumption|omega|exact And.left (by assumption)|(dsimp only; omega))) fun _ _=>?_
  | with_reducible refine bd (Y9y _ (by first|assumption|omega|exact And.left (by assumption)|(dsimp only; omega))) fun _ _=>?_
  | with_reducible refine bd (Zzw _) fun _ _=>?_
  | with_reducible refine bd (Y6l _ _ (by first|assumption|omega|exact And.left (by assumption)|(dsimp only; omega))) fun _ _=>?_
  | with_reducible refine bd (Y52 _ _ (by first|assumption|omega|exact And.left (by assumption)|(dsimp only; omega)) (by first|assumption|omega|exact And.left (by assumption)|(dsimp only; omega))) fun _ _=>?_
  | with_reducible refine ok ?_
  | (first|exact ⟨hp,W0⟩|exact ⟨hp,hx⟩|exact ⟨And.left (by assumption),W0⟩)
theorem Y8j (x:Z0t) (i:Z02) (hp:Z17 x.f_P) (hx:Z34 i):Ok (Zld x i) (fun r=>Z17 r.1.f_P∧Z34 r.2):=by
 unfold Zld
 repeat' first
  | with_reducible refine brN (fun _=>?_) fun _=>?_
  | with_reducible refine bd (Y9x _ _ (by first|assumption|omega|exact And.left (by assumption)|(dsimp only; omega)) (by first|assumption|omega|exact And.left (by assumption)|(dsimp only; omega))) fun _ _=>?_
  | with_reducible refine ok ?_
  | (first|exact ⟨hp,W0⟩|(dsimp only; assumption))
end Go.Proofs
set_option linter.unusedVariables false
namespace Go.Proofs
open Go.Den Go.Tot
theorem Y9m (l:List Int):(bytesOf l).length=l.length:=by simp [bytesOf]
theorem Y25 {n:Int} (hn:n=1∨n=2∨n=4):Zmx n=some true:=by
 rcases hn with rfl|rfl|rfl <;> rfl
theorem L62x1 (x n k:Int) (l:List Int) (hk:k=n - 1) (h0:0≤n) (hl:(l.length:Int)=n) (hn:n≤8):Ok (Z07 Zhl Z08 (x,k,l)) (fun r=>(r.length:Int)=n):=by
 refine lp (fun t=>n - 1 - t.2.1) n (fun t=>(t.2.2.length:Int)=n) (fun t hI h0 h1=>?_) (by omega) hl
 unfold Zhl
 refine brD (fun hlt=>?_) fun hge=>dn hI
 refine bs (bs (bd ik fun j hj=>bd (la (by omega)) fun _ _=>?_))
 refine bd (P:=fun _=>True) ⟨_,by unfold shrK; rw [if_pos (by decide)],trivial⟩ fun _ _=>bd wr fun v hv=>nx ?_
 dsimp only
 rw [List.length_set]; exact hI
theorem Zf6 (x n:Int) (hn:n=1∨n=2∨n=4):Ok (Za0 x n) (fun r=>(r.1.length:Int)≤n):=by
 have hj:Ok (Zdt x n) (fun r=>(r.1.length:Int)≤n):=by
  unfold Zdt
  refine bd (mk (by omega) (by omega) (by omega) (by omega)) fun _ _=>bd wr fun k hk=>?_
  exact bd (L62x1 x n k _ hk (by omega) (by simp; omega) (by omega)) fun q hq=>ok (by dsimp only; rw [Y9m]; omega)
 unfold Za0
 rw [Y25 hn]
 refine bs (br! (fun h=>by cases h) fun _=>brD (fun _=>?_) fun _=>hj)
 have hs:∀ y:Int,0≤y→Ok (Z7e .i64 1 y) (fun _=>True):=fun y hy=>⟨_,by unfold Z7e; rw [if_pos hy],trivial⟩
 refine bd wr fun _ _=>bd wr fun _ _=>bd (hs _ (by omega)) fun _ _=>bs (brD (fun _=>ok (by dsimp only; simp; omega)) fun _=>?_)
 exact bd wr fun _ _=>bd (hs _ (by omega)) fun _ _=>bs (brD (fun _=>ok (by dsimp only; simp; omega)) fun _=>hj)
theorem Zxn (x:Int):Ok (Zju x) (fun r=>r.length≤2):=bd (Zf6 x 2 (.inr (.inl rfl))) fun v h=>ok (by omega)
theorem Z5o (x:Int):Ok (Z54 x) (fun r=>r.length≤2):=bd (Zf6 x 2 (.inr (.inl rfl))) fun v h=>ok (by omega)
theorem Ztc (x:Int):Ok (Zf4 x) (fun r=>r.length≤1):=bd (Zf6 x 1 (.inl rfl)) fun v h=>ok (by omega)
theorem Y9o (x n:Int) (hn:n=1∨n=2∨n=4):Ok (Z5a x n) (fun r=>r.length≤4):=bd (Zf6 x n hn) fun v h=>ok (by omega)
theorem Y5t (s:List UInt8) (a n:Int) (hn:n=1∨n=2∨n=4) (hl:Str s):Ok (Zn0 s a n) (fun e=>e=0→0≤a∧a+n≤s.length):=by
 unfold Zn0
 rw [Y25 hn]
 refine bs (br! (fun h=>by cases h) fun _=>brD (fun _=>ok (by omega)) fun _=>brD (fun _=>ok (by omega)) fun _=>?_)
 unfold Zqk
 exact bd wr fun v hv=>brD (fun _=>ok (by omega)) fun _=>ok (by omega)
def Sg (n v:Int):Prop:=(n=1∧ -128≤v∧v<128)∨(n=2∧ -32768≤v∧v<32768)∨(n=3∧ -8388608≤v∧v<8388608)∨(n=4∧ -2147483648≤v∧v<2147483648)
theorem L134x1 (s : List UInt8) (a n p : Int) (hn:1≤n∧n≤4) (hl:Str s) (h0:0≤a) (h1:a+n≤s.length) (hp: -128≤p∧p<128):Ok (Z07 (Zin s a n) Z08 (p,1)) (Sg n):=by
 refine lp (fun t=>t.2) n (fun t=>Sg t.2 t.1) (fun t hI g0 g1=>?_) (by omega) (.inl ⟨rfl,hp⟩)
 unfold Zin
 unfold Sg at hI
 refine brD (fun hlt => ?_) fun hge => dn (by have:t.2=n:=by omega
                                              rw [← this]; exact hI)
 refine bd wr fun v9 e9=>bd wr fun v10 e10=>bd gs fun v11 e11=>bd wr fun v12 e12=>bd wr fun v13 e13=>bd wr fun v14 e14=>?_
 exact nx (by dsimp only; unfold Sg; omega)
theorem Zyy (s:List UInt8) (a n:Int) (hn:n=1∨n=2∨n=4) (hl:Str s):Ok (Zgo s a n) (fun r=>(r.2=0→0≤a∧a+n≤s.length∧Sg n r.1)∧(r.2≠0→r.1=0)):=by
 unfold Zgo
 refine bd (Y5t s a n hn hl) fun v0 h0=>brN (fun h=>ok ⟨fun h'=>absurd h' h,fun _=>rfl⟩) fun h=>?_
 obtain ⟨k0,k1⟩:=h0 h
 refine bd gs fun v1 h1=>bd wr fun v2 h2=>?_
 have key:∀ p:Int,-128≤p→p<128→Ok (Zdn s a n p) (fun r=>(r.2=0→0≤a∧a+n≤s.length∧Sg n r.1)∧(r.2≠0→r.1=0)):=fun p h h'=>by
  unfold Zdn
  exact bd (L134x1 s a n p (by omega) hl k0 k1 ⟨h,h'⟩) fun q hq=>ok ⟨fun _=>⟨k0,k1,hq⟩,fun h=>absurd rfl h⟩
 exact brD (fun _=>bd wr fun v3 h3=>key v3 (by omega) (by omega)) fun _=>key v2 (by omega) (by omega)
def Us (n v:Int):Prop:=0≤v∧(n=1→v<256)∧(n=2→v<65536)∧(n=4→v<4294967296)
theorem Zgw (s:List UInt8) (a n:Int) (hn:n=1∨n=2∨n=4) (hl:Str s):Ok (Z9y s a n) (fun r=>(r.2=0→0≤a∧a+n≤s.length)∧Us n r.1):=by
 unfold Z9y
 refine bd (Zyy s a n hn hl) fun v h=>?_
 have h2:=h.2
 refine brE (fun he=>?_) fun he=>ok ⟨fun h'=>absurd h' he,by dsimp only; unfold Us; rw [h2 he]; omega⟩
 obtain ⟨h0,h1,hs⟩:=h.1 he
 unfold Sg at hs
 refine brD (fun _=>brD (fun hneg=>?_) fun hnn=>ok ⟨fun _=>⟨h0,h1⟩,by dsimp only; unfold Us; omega⟩) fun hlt=>absurd hlt (by omega)
 unfold Zql
 rcases hn with rfl|rfl|rfl
 ·refine bd wr fun v1 e1=>?_
  subst e1
  rw [show Z7e .i64 1 (8*1)=some 256 by decide]
  exact bs (bd wr fun v3 e3=>ok ⟨fun _=>⟨h0,h1⟩,by dsimp only; unfold Us; omega⟩)
 ·refine bd wr fun v1 e1=>?_
  subst e1
  rw [show Z7e .i64 1 (8*2)=some 65536 by decide]
  exact bs (bd wr fun v3 e3=>ok ⟨fun _=>⟨h0,h1⟩,by dsimp only; unfold Us; omega⟩)
 ·refine bd wr fun v1 e1=>?_
  subst e1
  rw [show Z7e .i64 1 (8*4)=some 4294967296 by decide]
  exact bs (bd wr fun v3 e3=>ok ⟨fun _=>⟨h0,h1⟩,by dsimp only; unfold Us; omega⟩)
def Z5m (s:List UInt8) (r:Z1c):Prop:=r.f_S=s∧0≤r.f_At∧r.f_At≤s.length
theorem Z4n (s:List UInt8) (r:Z1c) (n:Int) (hn:n=1∨n=2∨n=4) (hl:Str s) (hr:Z5m s r):Ok (Z3z r n) (fun x=>Us n x.1∧Z5m s x.2):=by
 obtain ⟨h1,h2,h3⟩:=hr
 unfold Z3z
 rw [h1]
 refine bd (Zgw s r.f_At n hn hl) fun v hv=>br (fun _=>ok ⟨by dsimp only; unfold Us; omega,rfl,h2,h3⟩) fun _=>brN (fun _=>ok ⟨by dsimp only; unfold Us; omega,rfl,h2,h3⟩) fun he=>?_
 obtain ⟨k0,k1⟩:=hv.1 he
 exact bd wr fun v1 e1=>ok ⟨hv.2,rfl,by dsimp only; omega,by dsimp only; omega⟩
abbrev SL_:=Int×(List UInt8)×Int×Bool×(List Z0k)
def IL (s:List UInt8) (t:SL_):Prop:=Z5m s ⟨t.2.1,t.2.2.1,t.2.2.2.1⟩∧(t.2.2.2.2.length:Int)=t.1∧∀ v∈t.2.2.2.2,v.Z13.Z0f=[]
def QL (s:List UInt8) (q:(List UInt8)×Int×Bool×(List Z0k)):Prop:=Z5m s ⟨q.1,q.2.1,q.2.2.1⟩∧q.2.2.2.length≤256∧∀ v∈q.2.2.2,v.Z13.Z0f=[]
theorem Z8n {α:Type} {P:α→Prop} {l:List α} {x:α} (h:∀ v∈l,P v) (hx:P x):∀ v∈l++[x],P v:=fun v hv=>by
 rcases List.mem_append.1 hv with hv|hv
 ·exact h v hv
 ·rw [List.mem_singleton.1 hv]; exact hx
theorem Zss {s:List UInt8} {n p11 p13 p15:Int} {t0:SL_} {v5:Int×Z1c} {p12:List UInt8} {p14:Bool} (hI:IL s t0) (hr:Z5m s ⟨p12,p13,p14⟩) (h0:0≤t0.1) (h1:t0.1<n) (hn:n≤256):Ok (Zco p11 t0 v5 p12 p13 p14 p15) (St (IL s) (fun t=>t.1) n (QL s) t0):=by
 unfold Zco
 have:=hI.2.1
 refine bd gk fun _ _=>bd wr fun _ hv=>?_
 exact nx ⟨hr,by simp only [List.length_append,List.length_cons,List.length_nil]; omega,Z8n hI.2.2 rfl⟩
theorem Y0k {s:List UInt8} (hs:Str s) {n p9 p11:Int} {t0:SL_} {v5:Int×Z1c} {p8:List UInt8} {p10:Bool} (hI:IL s t0) (hr:Z5m s ⟨p8,p9,p10⟩) (h0:0≤t0.1) (h1:t0.1<n) (hn:n≤256):Ok (Zds t0 v5 p8 p9 p10 p11) (St (IL s) (fun t=>t.1) n (QL s) t0):=by
 unfold Zds
 refine brD (fun _=>brD (fun _=>?_) fun _=>Zss hI hr h0 h1 hn) fun _=>Zss hI hr h0 h1 hn
 unfold Zs3
 exact bd (Z4n s _ 2 (by omega) hs hr) fun v hv=>Zss hI hv.2 h0 h1 hn
theorem Zz6 (s:List UInt8) (r:Z1c) (hs:Str s) (hr:Z5m s r):Ok (Zex r) (fun x=>(x.1.length≤256∧∀ v∈x.1,v.Z13.Z0f=[])∧Z5m s x.2):=by
 unfold Zex
 refine bd (Z4n s r 1 (by omega) hs hr) fun v0 h0=>bd (P:=QL s) ?_ fun q hq=>ok ⟨hq.2,hq.1⟩
 have hu:0≤v0.1∧v0.1<256:=⟨h0.1.1,h0.1.2.1 rfl⟩
 refine lp (fun t=>t.1) v0.1 (IL s) (fun t hI g0 g1=>?_) (by omega) ⟨h0.2,rfl,fun v hv=>by simp at hv⟩
 have hl:=hI.2.1
 have hd:QL s (t.2.1,t.2.2.1,t.2.2.2.1,t.2.2.2.2):=⟨hI.1,by dsimp only at *; omega,hI.2.2⟩
 unfold Zop
 refine brD (fun hlt=>br! (fun _=>?_) fun _=>dn hd) fun _=>dn hd
 unfold Zt3
 exact bd (Z4n s _ 1 (by omega) hs hI.1) fun v5 h5=>brE (fun _=>bd (Z4n s _ 2 (by omega) hs h5.2) fun v6 h6=>Y0k hs hI h6.2 g0 hlt (by omega)) fun _=>Y0k hs hI h5.2 g0 hlt (by omega)
def RdT {α:Type} (s:List UInt8) (B:Nat) (P:α→Prop) (q:(List UInt8)×Int×Bool×(List α)):Prop:=Z5m s ⟨q.1,q.2.1,q.2.2.1⟩∧q.2.2.2.length≤B∧∀ v∈q.2.2.2,P v
def RdI {α:Type} (s:List UInt8) (P:α→Prop) (t:Int×(List UInt8)×Int×Bool×(List α)):Prop:=Z5m s ⟨t.2.1,t.2.2.1,t.2.2.2.1⟩∧(t.2.2.2.2.length:Int)=t.1∧∀ v∈t.2.2.2.2,P v
theorem rdL {α:Type} {s:List UInt8} {P:α→Prop} {n p2:Int} {p1:List UInt8} {p3:Bool} (hn:0≤n∧n<65536) (hr:Z5m s ⟨p1,p2,p3⟩) {f:Int×(List UInt8)×Int×Bool×(List α)→Option (Ctl (Int×(List UInt8)×Int×Bool×(List α)) ((List UInt8)×Int×Bool×(List α)))}
  (h:∀ t,RdI s P t→0≤t.1→t.1≤n→RdT s 65536 P (t.2.1,t.2.2.1,t.2.2.2.1,t.2.2.2.2)→Ok (f t) (St (RdI s P) (fun t=>t.1) n (RdT s 65536 P) t)):Ok (Z07 f Z08 (0,p1,p2,p3,[])) (RdT s 65536 P):=
 lp (fun t=>t.1) n (RdI s P) (fun t hI g0 g1=>h t hI g0 g1 ⟨hI.1,by have:=hI.2.1; dsimp only at *; omega,hI.2.2⟩) (by omega) ⟨hr,rfl,fun v hv=>by simp at hv⟩ (by dsimp only; omega) hn.1
theorem L152x1 {s:List UInt8} (hs:Str s) {v7:Int×Z1c} (h7:Us 2 v7.1∧Z5m s v7.2):Ok (Z07 (Zim v7) Z08 (0,v7.2.f_S,v7.2.f_At,v7.2.Z4q,[])) (RdT s 65536 fun v=>v.Z13=[]):=by
 refine rdL (n:=v7.1) ⟨h7.1.1,h7.1.2.2.1 rfl⟩ h7.2 fun t hI g0 g1 hd=>?_
 have hl:=hI.2.1
 have:=h7.1.2.2.1 rfl
 unfold Zim
 refine brD (fun hlt=>br! (fun _=>?_) fun _=>dn hd) fun _=>dn hd
 unfold Zsc
 refine bd (Z4n s _ 2 (by omega) hs hI.1) fun v1 h1=>bd (Z4n s _ 2 (by omega) hs h1.2) fun v2 h2=>bd (Z4n s _ 2 (by omega) hs h2.2) fun v3 h3=>bd (Z4n s _ 2 (by omega) hs h3.2) fun v4 h4=>?_
 refine bd gk fun _ _=>bd wr fun _ hv=>?_
 exact nx ⟨h4.2,by simp only [List.length_append,List.length_cons,List.length_nil]; omega,Z8n hI.2.2 rfl⟩
theorem L152x3 {s:List UInt8} (hs:Str s) {v7:Int×Z1c} (h7:Us 2 v7.1∧Z5m s v7.2):Ok (Z07 (Zjm v7) Z08 (0,v7.2.f_S,v7.2.f_At,v7.2.Z4q,[])) (RdT s 65536 fun _=>True):=by
 refine rdL (n:=v7.1) ⟨h7.1.1,h7.1.2.2.1 rfl⟩ h7.2 fun t hI g0 g1 hd=>?_
 have hl:=hI.2.1
 have:=h7.1.2.2.1 rfl
 unfold Zjm
 refine brD (fun hlt=>br! (fun _=>?_) fun _=>dn hd) fun _=>dn hd
 unfold Zpt
 refine bd (Z4n s _ 2 (by omega) hs hI.1) fun v1 h1=>bd (Z4n s _ 2 (by omega) hs h1.2) fun v2 h2=>?_
 refine bd gk fun _ _=>bd wr fun _ hv=>?_
 exact nx ⟨h2.2,by simp only [List.length_append,List.length_cons,List.length_nil]; omega,Z8n hI.2.2 trivial⟩
def RFr (m:Z0p):Prop:=(m.Z1o.Z0d.length≤256∧∀ v∈m.Z1o.Z0d,v.Z13.Z0f=[])∧m.Z1o.Z0i.length≤256∧∀ v∈m.Z1o.Z0i,v.Z13.Z0f=[]
def QM (s:List UInt8) (q:(List UInt8)×Int×Bool×(List Z0p)×(List Int)):Prop:=Z5m s ⟨q.1,q.2.1,q.2.2.1⟩∧q.2.2.2.1.length≤65536∧q.2.2.2.2.length=q.2.2.2.1.length∧∀ v∈q.2.2.2.1,RFr v
def IM (s:List UInt8) (t:Int×(List UInt8)×Int×Bool×(List Z0p)×(List Int)):Prop:=Z5m s ⟨t.2.1,t.2.2.1,t.2.2.2.1⟩∧(t.2.2.2.2.1.length:Int)=t.1∧t.2.2.2.2.2.length=t.2.2.2.2.1.length∧∀ v∈t.2.2.2.2.1,RFr v
theorem L152x2 {s:List UInt8} (hs:Str s) {v7:Int×Z1c} (h7:Us 2 v7.1∧Z5m s v7.2):Ok (Z07 (Zic v7) Z08 (0,v7.2.f_S,v7.2.f_At,v7.2.Z4q,[],[])) (QM s):=by
 have:=h7.1.2.2.1 rfl
 have:=h7.1.1
 refine lp (fun t=>t.1) v7.1 (IM s) (fun t hI g0 g1=>?_) (by omega) ⟨h7.2,rfl,rfl,fun v hv=>by simp at hv⟩
 have hl:=hI.2.1
 have hl2:=hI.2.2.1
 have hd:QM s (t.2.1,t.2.2.1,t.2.2.2.1,t.2.2.2.2.1,t.2.2.2.2.2):=⟨hI.1,by dsimp only at *; omega,hI.2.2⟩
 unfold Zic
 refine brD (fun hlt=>br! (fun _=>?_) fun _=>dn hd) fun _=>dn hd
 unfold Ztw
 refine bd (Z4n s _ 2 (by omega) hs hI.1) fun v1 h1=>bd (Z4n s _ 1 (by omega) hs h1.2) fun v2 h2=>bd (Zz6 s _ hs h2.2) fun v3 h3=>bd (Zz6 s _ hs h3.2) fun v4 h4=>?_
 refine bd gk fun _ _=>?_
 refine bd gk fun _ _=>bd wr fun _ hv=>?_
 exact nx ⟨h4.2,by simp only [List.length_append,List.length_cons,List.length_nil]; omega,by simp only [List.length_append,List.length_cons,List.length_nil]; omega,Z8n hI.2.2.2 ⟨h3.1,h4.1⟩⟩
structure TkOk (s:List UInt8) (t:Z47):Prop where
 ins:t.f_C.Z0l=[]
 hnd:∀ h∈t.f_C.Z23,h.Z13=[]
 hndL:t.f_C.Z23.length≤65536
 map:∀ m∈t.f_C.Z1p,RFr m
 mapL:t.f_C.Z1p.length≤65536
 raw:t.Zqn.length=t.f_C.Z1p.length
 lin:t.f_C.Z1r.length≤65536
 byt:t.Z2y.length≤s.length
theorem Y7o (s:List UInt8) (hs:Str s):Ok (Ziv s) (fun r=>TkOk s r.1):=by
 unfold Ziv
 refine bd (Z4n s _ 2 (by omega) hs ⟨rfl,by dsimp only; omega,by dsimp only; omega⟩) fun v0 h0=>bd (Z4n s _ 2 (by omega) hs h0.2) fun v1 h1=>bd (Z4n s _ 4 (by omega) hs h1.2) fun v2 h2=>?_
 have h5:Ok (Zeo v0 v1 v2) (fun r=>TkOk s r.1):=by
  unfold Zeo
  exact ok ⟨rfl,fun h hh=>by simp at hh,by simp,fun h hh=>by simp at hh,by simp,rfl,by simp,by simp⟩
 obtain ⟨k1,k2,k3⟩:=h2.2
 have k4:=h2.1.1
 have k5:=h2.1.2.2.2 rfl
 refine br (fun _=>h5) fun _=>bd wr fun v3 h3=>brD (fun _=>h5) fun hle=>?_
 unfold Ztk
 refine bd wr fun v4 h4=>bd (sb (by omega) (by omega) (by omega)) fun v5 h5=>bd wr fun v6 h6=>?_
 refine bd (Z4n s _ 2 (by omega) hs ⟨k1,by dsimp only; omega,by dsimp only; omega⟩) fun v7 h7=>bd (L152x1 hs h7) fun q0 hq0=>bd (Z4n s _ 2 (by omega) hs hq0.1) fun v24 h24=>bd (L152x2 hs h24) fun q2 hq2=>bd (Z4n s _ 2 (by omega) hs hq2.1) fun v44 h44=>bd (L152x3 hs h44) fun q4 hq4=>?_
 exact ok ⟨rfl,hq0.2.2,hq0.2.1,hq2.2.2.2,hq2.2.1,hq2.2.2.1,hq4.2.1,by have:=h5.1; dsimp only; omega⟩
end Go.Proofs
set_option linter.unusedVariables false
namespace Go.Proofs
open Go.Den Go.Tot
theorem is_eq (x:Int):Zas x=some (decide (0≤x∧x<81)):=by
 unfold Zas
 by_cases h:x≥0
 ·rw [if_pos (by simpa using h)]; congr 1; simp [h]
 ·rw [if_neg (by simpa using h)]; congr 1; simp; omega
theorem Zu0 (x a b:Int):Z7r x a b=some (decide (a≤x∧x≤b)):=by
 unfold Z7r
 by_cases h:x≥a
 ·rw [if_pos (by simpa using h)]; congr 1; simp [h]
 ·rw [if_neg (by simpa using h)]; congr 1; simp; omega
def KindP (x k:Int):Prop:=(k=3↔36≤x∧x≤52)∧(k=6↔x=53)∧(k=7↔x=54)∧(k= -1↔ ¬(0≤x∧x<81))∧ -1≤k∧k≤7
theorem Zgk (x:Int):Ok (Z7l x) (KindP x):=by
 unfold Z7l Zib Zku
 simp only [is_eq,Zu0]
 unfold KindP
 repeat' first
  | with_reducible refine br! (fun _=>?_) fun _=>?_
  | with_reducible refine brD (fun _=>?_) fun _=>?_
  | with_reducible refine brE (fun _=>?_) fun _=>?_
  | with_reducible refine bs ?_
  | with_reducible refine ok ?_
  | (have h0:=of_decide_eq_true (by assumption:decide (0≤x∧x<81)=true); refine ⟨?_,?_,?_,?_,?_,?_⟩ <;> omega)
  | (have h0:=of_decide_eq_false (by assumption:decide (0≤x∧x<81)=false); refine ⟨?_,?_,?_,?_,?_,?_⟩ <;> omega)
theorem Y35 (x:Int):Zci x=some (decide (36≤x∧x≤54)):=by
 unfold Zci; rw [Zu0]; rfl
theorem Y4u (x:Z02) (hx:Z34 x):Ok (Z07 (Zbz x) Z08 0) (fun q=>match q with|.inl _=>∀ v∈x.Z0c,0≤v∧v<1000|.inr b=>b=false):=by
 have:=hx.tos
 refine lp (fun t=>t) x.Z0c.length (fun t=>∀ (j:Nat) v,(j:Int)<t→x.Z0c[j]?=some v→0≤v∧v<1000) (fun t hI h0 h1=>?_) (by omega) (fun j v h=>by omega) (by omega) (by omega)
 unfold Zbz
 refine brD (fun hlt=>?_) fun hge=>dn fun v hv=>?_
 ·obtain ⟨y,hy,hm,hi⟩:=gri (l:=x.Z0c) (i:=t) (by omega) hlt
  rw [hy]
  refine bs (brD (fun _=>dn rfl) fun _=>bs (brD (fun _=>dn rfl) fun _=>bd wr fun v2 h2=>nx (fun j v hj hv=>?_) (by omega) (by omega)))
  rcases Int.lt_or_le (j:Int) t with hlt|hge
  ·exact hI j v hlt hv
  ·have:j=t.toNat:=by omega
   subst this
   rw [hi] at hv; cases hv
   omega
 ·obtain ⟨j,hj⟩:=List.mem_iff_getElem?.1 hv
  exact hI j v (by have:=(List.getElem?_eq_some_iff.1 hj).1; omega) hj
theorem aims_ok (x:Z02) (hx:Z34 x):Ok (Z8u x) (fun b=>b=true→0≤x.f_To∧x.f_To<1000∧∀ v∈x.Z0c,0≤v∧v<1000):=by
 unfold Z8u
 refine brD (fun _=>ok fun h=>by cases h) fun _=>brD (fun _=>ok fun h=>by cases h) fun _=>?_
 unfold Zjt
 refine bd (Y4u x hx) fun q hq=>?_
 cases q with
 | inl _=>exact ok fun _=>⟨by omega,by omega,hq⟩
 | inr b=>exact ok fun h=>by cases hq.symm.trans h
theorem keys_ok (x:Z02) (hx:Z34 x):Ok (Zc9 x) (fun e=>e=0→(x.f_Op=53→1≤x.Z0c.length∧x.Z0c.length≤64)∧(x.f_Op≠53→x.Z0z.length≤64∧x.Z0c.length=x.Z0z.length)):=by
 have:=hx.tos
 have:=hx.keys
 unfold Zc9 Zh7 Zj2
 refine brE (fun _=>brE (fun _=>ok (by omega)) fun _=>brD (fun _=>ok (by omega)) fun _=>bd (Zri _) fun v h=>br! (fun _=>ok (by omega)) fun _=>bd wr fun _ _=>bd wr fun _ _=>brD (fun _=>ok (by omega)) fun _=>ok (by omega)) fun _=>?_
 refine brD (fun _=>ok (by omega)) fun _=>brN (fun _=>ok (by omega)) fun _=>bd (Y45 x hx) fun q _=>?_
 have h:∀ e:Int,Ok (some e) (fun e=>e=0→(x.f_Op=53→1≤x.Z0c.length∧x.Z0c.length≤64)∧(x.f_Op≠53→x.Z0z.length≤64∧x.Z0c.length=x.Z0z.length)):=fun e=>ok fun _=>⟨by omega,by omega⟩
 cases q with
 | inl _ => refine bd (Y41 x hx) fun q _=>?_
            cases q <;> exact h _
 | inr _=>exact h _
structure Z4s (x:Z02):Prop where
 op:0≤x.f_Op∧x.f_Op<81
 tab:x.f_Op=53→1≤x.Z0c.length∧x.Z0c.length≤64
 look:x.f_Op=54→x.Z0z.length≤64∧x.Z0c.length=x.Z0z.length
 aim:36≤x.f_Op→x.f_Op≤54→0≤x.f_To∧∀ v∈x.Z0c,0≤v
 few:x.f_Op≠53→x.f_Op≠54→x.Z0c=[]
theorem used_ok (x:Z02) (k:Int):Ok (Zbk x k) (fun b=>b=true→k≠6→k≠7→x.Z0c.length=0):=by
 unfold Zbk Zk4 Zft Zer
 repeat' first
  | with_reducible refine br! (fun _=>?_) fun _=>?_
  | with_reducible refine brE (fun _=>?_) fun _=>?_
  | with_reducible refine brN (fun _=>?_) fun _=>?_
  | with_reducible refine ok ?_
  | (intro hb h6 h7; first|(cases hb; done)|(simp only [beq_iff_eq] at *; omega))
theorem Zfa (x:Z02) (hx:Z34 x):Ok (Z5z x) (fun e=>e=0→Z4s x):=by
 unfold Z5z
 refine bd (Zgk x.f_Op) fun k hk=>brD (fun _=>ok (by omega)) fun hk0=>bd (used_ok x k) fun b hb=>br! (fun _=>ok (by omega)) fun hu=>?_
 obtain ⟨k3,k6,k7,km,k0,k1⟩:=hk
 have hfew:=hb hu
 have h5:(k=6∨k=7)→(0≤x.f_To∧∀ v∈x.Z0c,0≤v)→Ok (Zcm x) (fun e=>e=0→Z4s x):=fun h ha=>by
  unfold Zcm
  exact bd (keys_ok x hx) fun v hv=>ok fun he=>⟨by omega,fun h=>(hv he).1 h,fun h=>(hv he).2 (by omega),fun _ _=>ha,fun _ _=>by omega⟩
 have h4:(k=3∨k=6∨k=7→0≤x.f_To∧∀ v∈x.Z0c,0≤v)→Ok (Z9g k x) (fun e=>e=0→Z4s x):=fun ha=>by
  unfold Z9g
  exact brE (fun h=>h5 (.inl h) (ha (.inr (.inl h)))) fun h6=>brE (fun h=>h5 (.inr h) (ha (.inr (.inr h)))) fun h7=>ok fun _=>⟨by omega,by omega,by omega,fun h h'=>ha (by omega),fun _ _=>List.eq_nil_of_length_eq_zero (hfew h6 h7)⟩
 have ha:Ok (Z8u x) (fun b=>b=true→0≤x.f_To∧∀ v∈x.Z0c,0≤v):=(aims_ok x hx).mono fun b h hb=>⟨(h hb).1,fun v hv=>((h hb).2.2 v hv).1⟩
 have h3:Ok (Zd0 k x) (fun e=>e=0→Z4s x):=by
  unfold Zd0
  refine brE (fun _=>bd ha fun b hb=>br! (fun _=>ok (by omega)) fun h=>h4 fun _=>hb h) fun h3=>brE (fun _=>bd ha fun b hb=>br! (fun _=>ok (by omega)) fun h=>h4 fun _=>hb h) fun h6=>brE (fun _=>bd ha fun b hb=>br! (fun _=>ok (by omega)) fun h=>h4 fun _=>hb h) fun h7=>h4 fun h=>by omega
 have h2:Ok (Zbf k x) (fun e=>e=0→Z4s x):=by
  unfold Zbf
  exact brE (fun _=>brD (fun _=>ok (by omega)) fun _=>brD (fun _=>ok (by omega)) fun _=>h3) fun _=>h3
 have h1:Ok (Za5 k x) (fun e=>e=0→Z4s x):=by
  unfold Za5
  exact brE (fun _=>brD (fun _=>ok (by omega)) fun _=>brD (fun _=>ok (by omega)) fun _=>h2) fun _=>brE (fun _=>brD (fun _=>ok (by omega)) fun _=>brD (fun _=>ok (by omega)) fun _=>h2) fun _=>h2
 repeat' first
  | exact h1
  | with_reducible refine brE (fun _=>?_) fun _=>?_
  | with_reducible refine brD (fun _=>?_) fun _=>?_
  | exact ok (by omega)
theorem Zyj (x:Int):Ok (Zgg x) (fun n=>0≤n∧n≤3∧(0≤x→x<81→x≠53→x≠54→1≤n)):=by
 unfold Zgg Zqf Zoq Zp3
 refine bd (Zgk x) fun k hk=>?_
 obtain ⟨k3,k6,k7,km,k0,k1⟩:=hk
 repeat' first
  | with_reducible refine brE (fun _=>?_) fun _=>?_
  | with_reducible refine ok ?_
  | exact ⟨by omega,by omega,by omega⟩
theorem Zz8 (x:Z02) (hx:Z34 x) (hc:Z4s x):Ok (Zi3 x) (fun n=>0≤n∧n≤400):=by
 have:=hx.tos
 have:=hx.keys
 have:=hc.tab
 have:=hc.look
 unfold Zi3
 exact brE (fun _=>bd wr fun _ _=>bd wr fun _ _=>ok (by omega)) fun _=>brE (fun _=>bd wr fun _ _=>bd wr fun _ _=>ok (by omega)) fun _=>bd (Zyj _) fun n hn=>ok (by omega)
theorem L60x1 (l:List Z02) (hl:∀ i∈l,Z34 i) (hn:l.length≤140737488355328):Ok (Z07 (Zc7 l) Z08 0) (fun q=>match q with|.inl _=>∀ i∈l,Z4s i|.inr y=>y.2≠0∧y.1=[]):=by
 refine lp (fun t=>t) l.length (fun t=>∀ (j:Nat) v,(j:Int)<t→l[j]?=some v→Z4s v) (fun t hI h0 h1=>?_) (by omega) (fun j v h=>by omega) (by omega) (by omega)
 unfold Zc7
 refine brD (fun hlt=>?_) fun hge=>dn fun v hv=>?_
 ·refine bd gri fun i hi=>bd (Zfa i (hl i hi.1)) fun e he=>brN (fun h=>dn ⟨h,rfl⟩) fun h=>bd wr fun v2 h2=>nx (fun j v hj hv=>?_) (by omega) (by omega)
  rcases Int.lt_or_le (j:Int) t with hlt|hge
  ·exact hI j v hlt hv
  ·have:j=t.toNat:=by omega
   subst this
   rw [hi.2] at hv; cases hv
   exact he h
 ·obtain ⟨j,hj⟩:=List.mem_iff_getElem?.1 hv
  exact hI j v (by have:=(List.getElem?_eq_some_iff.1 hj).1; omega) hj
theorem Zs7 (l:List Z02) (hl:∀ i∈l,Z34 i) (hn:l.length≤140737488355328):Ok (Z78 l) (fun r=>(r.2=0→r.1.length=l.length+1∧l.length≤1000∧∀ i∈l,Z4s i)∧r.1.length≤1001):=by
 unfold Z78
 refine bd (L60x1 l hl hn) fun q hq=>?_
 cases q with
 | inr y=>exact ok ⟨fun h=>absurd h hq.1,by rw [hq.2]; simp⟩
 | inl _=>
  refine brD (fun _=>ok ⟨by omega,by simp⟩) fun hs=>?_
  refine bd (P:=fun r=>r.length=l.length+1) ?_ fun q2 hq2=>bd ik fun j hj=>bd (la (by omega)) fun _ _=>brD (fun _=>ok ⟨by omega,by simp⟩) fun _=>ok ⟨fun _=>⟨hq2,by omega,hq⟩,by dsimp only; omega⟩
  refine lp (fun t=>t.1) l.length (fun t=>(t.2.length:Int)=t.1+1∧∀ v∈t.2,0≤v∧v≤400*t.1) (fun t hI h0 h1=>?_) (by omega) ⟨rfl,by simp⟩
  obtain ⟨hI1,hI2⟩:=hI
  unfold Znr
  refine brD (fun hlt=>?_) fun hge=>dn (by omega)
  refine bd ik fun j hj=>bd (la (by omega)) fun v hv=>bd gr fun i hi=>bd (Zz8 i (hl i hi) (hq i hi)) fun n hn=>?_
  have hv2:=hI2 v hv.2
  refine bd wr fun w hw=>bd gk fun _ _=>bd wr fun k hk=>?_
  refine nx ⟨by simp only [List.length_append,List.length_cons,List.length_nil]; omega,Z8n (fun v hv=>?_) ?_⟩
  ·have:=hI2 v hv; dsimp only; omega
  ·dsimp only; omega
theorem Z86 (s:List UInt8) (a n:Int) (hn:n=1∨n=2∨n=4) (hs:Str s):Ok (Z73 s a n) (Us n):=bd (Zgw s a n hn hs) fun v h=>ok h.2
theorem Zlm (s:List UInt8) (a n:Int) (hn:n=1∨n=2∨n=4) (hs:Str s):Ok (Zdk s a n) (fun _=>True):=bd (Zyy s a n hn hs) fun v h=>ok trivial
theorem need_ok (s:List UInt8) (a op:Int) (hs:Str s) (h0:0≤a) (h1:a≤s.length) (ho:0≤op) (h81:op<81):Ok (Zea s a op) (fun n=>n<0∨(1≤n∧a+n≤s.length)):=by
 have h4:∀ p:Int,1≤p→p≤1000000→Ok (Zeh s a p) (fun n=>n<0∨(1≤n∧a+n≤s.length)):=fun p hp hp'=>by
  unfold Zeh
  exact bd wr fun v hv=>brD (fun _=>ok (by omega)) fun _=>ok (by omega)
 have h2:∀ p q:Int,5≤p→p≤9→0≤q→q≤6→Ok (Zgd s a p q) (fun n=>n<0∨(1≤n∧a+n≤s.length)):=fun p q hp hp' hq hq'=>by
  unfold Zgd Zsx
  refine bd wr fun v1 e1=>bd wr fun v2 e2=>bd (Zgw s v2 2 (by omega) hs) fun v3 e3=>bd wr fun v4 e4=>brD (fun _=>ok (by omega)) fun _=>brN (fun _=>ok (by omega)) fun _=>?_
  have hu:=e3.2.2.2.1 rfl
  have hu0:=e3.2.1
  have hm:0≤q*v3.1∧q*v3.1≤6*65536:=⟨Int.mul_nonneg hq hu0,Int.le_trans (Int.mul_le_mul_of_nonneg_right hq' hu0) (by omega)⟩
  exact bd wr fun v5 e5=>bd wr fun v6 e6=>h4 v6 (by omega) (by omega)
 unfold Zea Ziz
 exact bd (Zyj op) fun n hn=>brE (fun _=>brE (fun _=>h2 5 6 (by omega) (by omega) (by omega) (by omega)) fun _=>h2 9 2 (by omega) (by omega) (by omega) (by omega)) fun _=>brE (fun _=>brE (fun _=>h2 5 6 (by omega) (by omega) (by omega) (by omega)) fun _=>h2 9 2 (by omega) (by omega) (by omega) (by omega)) fun _=>h4 n (by omega) (by omega)
theorem L164x1 (n:Int) (s:List UInt8) (a:Int) (hs:Str s) (h0:0≤a) (h1:a≤s.length) (hn:0≤n) (hn':n<65536):Ok (Z07 (Zjq n s a) Z08 (0,([]:List Int))) (fun r=>r.length≤65536):=by
 refine lp (fun t=>t.1) n (fun t=>(t.2.length:Int)=t.1) (fun t hI g0 g1=>?_) (by omega) rfl
 unfold Zjq
 refine brD (fun hlt=>bd wr fun v1 e1=>bd wr fun v2 e2=>bd wr fun v3 e3=>bd (Z86 s v3 2 (by omega) hs) fun v4 e4=>?_) fun _=>dn (by omega)
 exact bd gk fun _ _=>bd wr fun k hk=>nx (by simp only [List.length_append,List.length_cons,List.length_nil]; omega)
theorem L164x2 (n:Int) (s:List UInt8) (a:Int) (hs:Str s) (h0:0≤a) (h1:a≤s.length) (hn:0≤n) (hn':n<65536):Ok (Z07 (Zm8 n s a) Z08 (0,([]:List Int),([]:List Int))) (fun r=>r.1.length≤65536∧r.2.length≤65536):=by
 refine lp (fun t=>t.1) n (fun t=>(t.2.1.length:Int)=t.1∧(t.2.2.length:Int)=t.1) (fun t hI g0 g1=>?_) (by omega) ⟨rfl,rfl⟩
 unfold Zm8
 refine brD (fun hlt=>bd wr fun v1 e1=>bd wr fun v2 e2=>bd wr fun v3 e3=>bd (Zlm s v3 4 (by omega) hs) fun v4 e4=>?_) fun _=>dn (by dsimp only at *; omega)
 refine bd gk fun _ _=>bd wr fun _ _=>bd wr fun _ _=>bd wr fun v5 _=>bd (Z86 s v5 2 (by omega) hs) fun _ _=>?_
 exact bd gk fun _ _=>bd wr fun k hk=>nx (by simp only [List.length_append,List.length_cons,List.length_nil]; omega)
def TkI (i:Z02):Prop:=i.Z0z.length≤65536∧i.Z0c.length≤65536∧i.Z1f={ Z0s:=[],Z0f:=[],Z2h:=[] }∧i.f_S=[]
theorem TkI.w {i:Z02} (h:TkI i):Z34 i:=⟨by have:=h.1; omega,by have:=h.2.1; omega,by rw [h.2.2.1]; exact ⟨by simp,by simp,by simp⟩,by rw [h.2.2.2]; simp⟩
theorem take_ok (s:List UInt8) (a op:Int) (hs:Str s) (h0:0≤a) (h1:a≤s.length):Ok (Zhs s a op) TkI:=by
 unfold Zhs
 have z:∀ x y w v,TkI { f_Op:=x,f_A:=y,f_B:=w,f_To:=v,Z0z:=[],Z0c:=[],Z1f:={ Z0s:=[],Z0f:=[],Z2h:=[] },f_S:=[] }:=fun _ _ _ _=>⟨by simp,by simp,rfl,rfl⟩
 refine bd (Zgk op) fun k _=>brE (fun _=>?_) fun _=>brE (fun _=>?_) fun _=>brE (fun _=>?_) fun _=>brE (fun _=>?_) fun _=>brE (fun _=>?_) fun _=>brE (fun _=>?_) fun _=>brE (fun _=>?_) fun _=>ok (z _ _ _ _)
 ·exact bd wr fun _ _=>bd (Zlm s _ 1 (by omega) hs) fun _ _=>ok (z _ _ _ _)
 ·exact bd wr fun _ _=>bd (Z86 s _ 2 (by omega) hs) fun _ _=>ok (z _ _ _ _)
 ·exact bd wr fun _ _=>bd (Z86 s _ 2 (by omega) hs) fun _ _=>ok (z _ _ _ _)
 ·exact bd wr fun _ _=>bd (Z86 s _ 1 (by omega) hs) fun _ _=>ok (z _ _ _ _)
 ·exact bd wr fun _ _=>bd (Z86 s _ 1 (by omega) hs) fun _ _=>bd wr fun _ _=>bd (Zlm s _ 1 (by omega) hs) fun _ _=>ok (z _ _ _ _)
 ·refine bd wr fun _ _=>bd (Z86 s _ 2 (by omega) hs) fun _ _=>bd wr fun _ _=>bd (Zlm s _ 4 (by omega) hs) fun _ _=>bd wr fun _ _=>bd (Z86 s _ 2 (by omega) hs) fun n hn=>?_
  exact bd (L164x1 n s a hs h0 h1 hn.1 (hn.2.2.1 rfl)) fun q hq=>ok ⟨by simp,hq,rfl,rfl⟩
 ·refine bd wr fun _ _=>bd (Z86 s _ 2 (by omega) hs) fun _ _=>bd wr fun _ _=>bd (Z86 s _ 2 (by omega) hs) fun n hn=>?_
  exact bd (L164x2 n s a hs h0 h1 hn.1 (hn.2.2.1 rfl)) fun q hq=>ok ⟨hq.1,hq.2,rfl,rfl⟩
theorem Y4k (l:List Int) (x:Int) (hl:l.length≤140737488355328):Ok (Zbp l x) (fun k=>k<l.length):=by
 unfold Zbp
 refine bd (P:=fun q:Unit⊕Int=>match q with|.inl _=>True|.inr y=>y<l.length) (li l.length (fun t h0 h1=>?_) (by omega) (by omega) (by omega)) fun q hq=>?_
 ·unfold Zpv
  exact brD (fun _=>bd gr fun v _=>br (fun _=>di (by assumption)) fun _=>bd wr fun _ _=>ni (by omega) (by omega)) fun _=>di trivial
 ·cases q with
  | inl _=>exact ok (by omega)
  | inr y=>exact ok hq
theorem L153x1 (s:List UInt8) (hs:s.length≤20000):Ok (Z07 (Zdq s) Z08 (0,([]:List Z02),([]:List Int))) (fun q=>match q with|.inl q=>(∀ i∈q.1,TkI i)∧q.1.length≤20000∧q.2.length≤20000|.inr y=>y.2≠0):=by
 refine lp (fun t=>t.1) s.length (fun t=>(∀ i∈t.2.1,TkI i)∧(t.2.1.length:Int)≤t.1∧(t.2.2.length:Int)≤t.1) (fun t hI h0 h1=>?_) (by omega) ⟨Z4v,by simp,by simp⟩
 obtain ⟨hI1,hI2,hI3⟩:=hI
 unfold Zdq
 refine brD (fun hlt=>?_) fun _=>dn ⟨hI1,by dsimp only at *; omega,by dsimp only at *; omega⟩
 refine bd gs fun v hv=>bd wr fun op hop=>brD (fun _=>dn (by simp)) fun _=>bd (need_ok s t.1 op (by unfold Str; omega) h0 (by omega) (by omega) (by omega)) fun n hn=>brD (fun _=>dn (by simp)) fun _=>?_
 refine bd (take_ok s t.1 op (by unfold Str; omega) h0 (by omega)) fun i hi=>?_
 refine bd gk fun _ _=>?_
 refine bd gk fun _ _=>bd wr fun k hk=>?_
 exact nx ⟨Z8n hI1 hi,by simp only [List.length_append,List.length_cons,List.length_nil]; omega,by simp only [List.length_append,List.length_cons,List.length_nil]; omega⟩
theorem L153x3 (ps:List Int) (l:List Int) (hp:ps.length≤20000) (hl:l.length≤65536):Ok (Z07 (Zaa ps l.length) Z08 (0,l)) (fun q=>match q with|.inl r=>r.length=l.length|.inr y=>y.2≠0):=by
 refine lp (fun t=>t.1) l.length (fun t=>t.2.length=l.length) (fun t hI h0 h1=>?_) (by omega) rfl
 unfold Zaa
 refine brD (fun hlt=>?_) fun _=>dn hI
 refine bd ik fun j hj=>bd (la (by omega)) fun v hv=>bd (Y4k ps v (by omega)) fun y hy=>bd (la (by rw [List.length_set]; omega)) fun z hz=>brD (fun _=>dn (by simp)) fun _=>bd wr fun k hk=>?_
 exact nx (by dsimp only; rw [List.length_set]; exact hI)
theorem L153x2 (ps:List Int) (l:List Z02) (hp:ps.length≤20000) (hl:∀ i∈l,TkI i) (hn:l.length≤20000):Ok (Z07 (Zgb ps) Z08 (0,l)) (fun q=>match q with|.inl r=>(∀ i∈r,TkI i)∧r.length=l.length|.inr y=>y.2≠0):=by
 refine lp (fun t=>t.1) l.length (fun t=>(∀ i∈t.2,TkI i)∧t.2.length=l.length) (fun t hI h0 h1=>?_) (by omega) ⟨hl,rfl⟩
 obtain ⟨hI1,hI2⟩:=hI
 unfold Zgb
 refine brD (fun hlt=>?_) fun _=>dn ⟨hI1,hI2⟩
 refine bd ik fun j hj=>bd (la (by omega)) fun v hv=>?_
 rw [Y35]
 refine bs (br! (fun _=>bd wr fun k hk=>nx ⟨hI1,hI2⟩) fun _=>?_)
 have hi:=hI1 v hv.2
 refine bd (Y4k ps _ (by omega)) fun y hy=>brD (fun _=>dn (by simp)) fun _=>bd (L153x3 ps v.Z0c hp hi.2.1) fun q hq=>?_
 cases q with
 | inr y=>exact dn hq
 | inl r=>
  refine bd wr fun k hk=>nx ⟨fun i hi'=>?_,by dsimp only; rw [List.length_set]; exact hI2⟩
  rcases List.mem_or_eq_of_mem_set hi' with h|rfl
  ·exact hI1 i h
  ·exact ⟨hi.1,by have:=hi.2.1; dsimp only at *; omega,hi.2.2.1,hi.2.2.2⟩
theorem dec_ok (s:List UInt8):Ok (Zd3 s) (fun r=>r.2=0→(∀ i∈r.1,TkI i)∧r.1.length≤20000):=by
 unfold Zd3
 refine brD (fun _=>ok (by simp)) fun hs=>bd (L153x1 s (by omega)) fun q hq=>?_
 cases q with
 | inr y=>exact ok fun h=>absurd h hq
 | inl q=>
  obtain ⟨h1,h2,h3⟩:=hq
  refine brD (fun _=>ok (by simp)) fun _=>bd (L153x2 q.2 q.1 h3 h1 h2) fun q7 hq7=>?_
  cases q7 with
  | inr y=>exact ok fun h=>absurd h hq7
  | inl l=>
   obtain ⟨k1,k2⟩:=hq7
   refine bd (P:=fun q:Unit⊕(List Z02×Int)=>match q with|.inl _=>True|.inr y=>y.2≠0) (li l.length (fun t h0 h1=>?_) (by omega) (by omega) (by omega)) fun q9 hq9=>?_
   ·unfold Zod
    exact brD (fun _=>bd ik fun j hj=>bd (la (by omega)) fun v hv=>bd (Zfa v (k1 v hv.2).w) fun e _=>brN (fun h=>di h) fun _=>bd wr fun _ _=>ni (by omega) (by omega)) fun _=>di trivial
   ·cases q9 with
    | inl _=>exact ok fun _=>⟨k1,by dsimp only; omega⟩
    | inr y=>exact ok fun h=>absurd h hq9
end Go.Proofs
set_option linter.unusedVariables false
namespace Go.Proofs
open Go.Den Go.Tot
theorem runeLen (n:Int):(Zrz n).length≤4:=by
 unfold Zrz Utf8.encode
 dsimp only
 repeat' split
 all_goals simp [ByteArray.push]
theorem Zm4 (y:Z0j) (ht:Str y.Z0f):Ok (Zc0 y) (fun b=>b=true→0≤y.Z2l∧y.Z2l≤8∧y.Z0f.length≤64):=by
 unfold Zc0
 repeat' first
  | unfold Zou
  | unfold Zp6
  | unfold Zrl
  | with_reducible refine brD (fun _=>?_) fun _=>?_
  | with_reducible refine br (fun _=>?_) fun _=>?_
  | with_reducible refine bd (Zjc _ (by first|assumption|omega|exact And.left (by assumption)|(dsimp only; omega))) fun _ _=>?_
  | with_reducible refine ok ?_
  | ((intro hb; first|(cases hb; done)|exact ⟨by omega,by omega,by simp_all⟩))
theorem L136x1 (y:Z0j) (h0:0≤y.Z2l) (h8:y.Z2l≤8):Ok (Z07 (Zhe y) Z08 ([],0)) (fun r=>r.length≤8):=by
 refine lp (fun s=>s.2) (y.Z2l) (fun s=>(s.1.length:Int)=s.2) (fun t hI _ _=>?_) (by omega) (by simp) (by omega) (by omega)
 try dsimp only at*
 unfold Zhe
 repeat' first
  | with_reducible refine nx ?_ ?_ ?_
  | with_reducible refine dn ?_
  | with_reducible refine brD (fun _=>?_) fun _=>?_
  | with_reducible refine bd wr fun _ _=>?_
  | with_reducible refine bd (ct (by first|omega|(simp only [List.length_cons,List.length_nil]; omega))) fun _ _=>?_
  | ((simp only [*,List.length_append,List.length_cons,List.length_nil]; omega))
  | omega
theorem Y67 (y:Z0j) (ht:Str y.Z0f):Ok (Ziy y) (fun r=>r.1.length≤100):=by
 have:=runeLen (IntKind.wrap .i32 y.Z1q)
 unfold Ziy
 repeat' first
  | with_reducible refine bd (Zm4 _ ht) fun _ hv=>?_
  | with_reducible refine br! (fun _=>?_) fun hb=>?_
  | with_reducible refine bd (L136x1 _ (hv hb).1 (hv hb).2.1) fun _ _=>?_
  | with_reducible refine brE (fun _=>?_) fun _=>?_
  | with_reducible refine bd (ct (by have:=(hv hb).2.2; first|omega|(simp only [List.length_cons,List.length_nil]; omega))) fun _ _=>?_
  | with_reducible refine bs ?_
  | with_reducible refine ok ?_
  | (first|(simp; done)|(dsimp only; have:=(hv hb).2.2; simp only [List.length_cons,List.length_nil] at *; omega))
  | (dsimp only; omega)
theorem L106x1 (p:List Z00) (e:Int) (l:List Z0k) (hp:Z17 p) (hl:∀ v∈l,Str v.Z13.Z0f) (hn:l.length*56≤140737488355328):Ok (Z07 (Zk9 l) Z08 (0,p,e,([]:List Z0k))) (fun q=>Z17 q.1∧(∀ v∈q.2.2,Str v.Z13.Z0f)∧q.2.2.length=l.length):=by
 refine lp (fun t=>t.1) (l.length) (fun t=>Z17 t.2.1∧(∀ v∈t.2.2.2,Str v.Z13.Z0f)∧(t.2.2.2.length:Int)=t.1) (fun t hI _ _=>?_) (by omega) (by exact ⟨hp,Z4v,rfl⟩) (by omega) (by omega)
 try dsimp only at*
 unfold Zk9
 obtain ⟨hI1,hI2,hI3⟩:=hI
 repeat' first
  | with_reducible refine nx ?_ ?_ ?_
  | with_reducible refine dn ?_
  | unfold Zeg
  | unfold Zb0
  | with_reducible refine brD (fun _=>?_) fun _=>?_
  | with_reducible refine brE (fun _=>?_) fun _=>?_
  | with_reducible refine bd gr fun _ _=>?_
  | with_reducible refine bd wr fun _ _=>?_
  | with_reducible refine bd gk fun _ _=>?_
  | with_reducible refine bd (Y67 _ (by exact hl _ (by assumption))) fun _ _=>?_
  | with_reducible refine bd (Z7x _ _ (by first|assumption|omega) (by first|assumption|omega)) fun _ _=>?_
  | (first|exact Z72 hI2 (by first|exact hl _ (by assumption)|exact Nat.zero_le _))
  | with_reducible refine And.intro ?_ ?_
  | (simp only [List.length_set,List.length_append,List.length_cons,List.length_nil,List.length_replicate]; omega)
theorem Zwj (x:Z0t) (l:List Z0k) (hp:Z17 x.f_P) (hl:∀ v∈l,Str v.Z13.Z0f) (hn:l.length*56≤140737488355328):Ok (Zg4 x l) (fun r=>Z17 r.1.f_P∧(∀ v∈r.2,Str v.Z13.Z0f)∧r.2.length=l.length):=by
 unfold Zg4
 repeat' first
  | with_reducible refine bd (L106x1 _ _ _ (by first|assumption|omega|exact And.left (by assumption)|(dsimp only; omega)) (by first|assumption|omega|exact And.left (by assumption)|(dsimp only; omega)) (by first|assumption|omega|exact And.left (by assumption)|(dsimp only; omega))) fun _ _=>?_
  | with_reducible refine ok ?_
  | assumption
  | (obtain ⟨_,_⟩:=‹_∧_›)
theorem L78x1 (p:List Z00) (e:Int) (c:Z0b) (hp:Z17 p) (hc:Z5j c):Ok (Z07 (Zoj c) Z08 (0,p,e,([]:List Z02))) (fun q=>Z17 q.1∧(∀ v∈q.2.2,Z34 v)∧q.2.2.length=c.Z0l.length):=by
 have:=hc.insL
 refine lp (fun t=>t.1) (c.Z0l.length) (fun t=>Z17 t.2.1∧(∀ v∈t.2.2.2,Z34 v)∧(t.2.2.2.length:Int)=t.1) (fun t hI _ _=>?_) (by omega) (by exact ⟨hp,Z4v,rfl⟩) (by omega) (by omega)
 try dsimp only at*
 unfold Zoj
 obtain ⟨hI1,hI2,hI3⟩:=hI
 repeat' first
  | with_reducible refine nx ?_ ?_ ?_
  | with_reducible refine dn ?_
  | with_reducible refine brD (fun _=>?_) fun _=>?_
  | with_reducible refine bd gr fun _ _=>?_
  | with_reducible refine bd wr fun _ _=>?_
  | with_reducible refine bd gk fun _ _=>?_
  | with_reducible refine bd (Y8j _ _ (by first|assumption|exact hc.ins _ (by assumption)) (by first|assumption|exact hc.ins _ (by assumption))) fun _ _=>?_
  | (exact Z72 hI2 (And.right (by assumption)))
  | with_reducible refine And.intro ?_ ?_
  | (simp only [List.length_set,List.length_append,List.length_cons,List.length_nil,List.length_replicate]; omega)
  | (obtain ⟨_,_⟩:=‹_∧_›)
theorem L78x2 (p:List Z00) (e:Int) (c:Z0b) (hp:Z17 p) (hc:Z5j c):Ok (Z07 (Zn7 c) Z08 (0,p,e,([]:List Z0o))) (fun q=>Z17 q.1∧(∀ v∈q.2.2,v.Z13=[])∧q.2.2.length=c.Z23.length):=by
 have:=hc.hndL
 refine lp (fun t=>t.1) (c.Z23.length) (fun t=>Z17 t.2.1∧(∀ v∈t.2.2.2,v.Z13=[])∧(t.2.2.2.length:Int)=t.1) (fun t hI _ _=>?_) (by omega) (by exact ⟨hp,Z4v,rfl⟩) (by omega) (by omega)
 try dsimp only at*
 unfold Zn7
 obtain ⟨hI1,hI2,hI3⟩:=hI
 repeat' first
  | with_reducible refine nx ?_ ?_ ?_
  | with_reducible refine dn ?_
  | unfold Zkm
  | with_reducible refine brD (fun _=>?_) fun _=>?_
  | with_reducible refine br! (fun _=>?_) fun _=>?_
  | with_reducible refine bd gr fun _ _=>?_
  | with_reducible refine bd wr fun _ _=>?_
  | with_reducible refine bd gk fun _ _=>?_
  | with_reducible refine bd (Ze0 _ _ (by first|assumption|exact hc.hnd _ (by assumption)) (by first|assumption|exact hc.hnd _ (by assumption))) fun _ _=>?_
  | (exact Z72 hI2 rfl)
  | with_reducible refine And.intro ?_ ?_
  | (simp only [List.length_set,List.length_append,List.length_cons,List.length_nil,List.length_replicate]; omega)
theorem Z8m.of {m:Z0p} (h:Z8m m.Z1o) {l k:List Z0k} {b:Bool} (h1:∀ v∈l,Str v.Z13.Z0f) (h2:l.length=m.Z1o.Z0d.length) (h3:∀ v∈k,Str v.Z13.Z0f) (h4:k.length=m.Z1o.Z0i.length):
  Z8m { Z0d:=l,Z0i:=k,Z6t:=b }:=⟨h1,by have:=h.locL; dsimp only; omega,h3,by have:=h.stkL; dsimp only; omega⟩
theorem L78x3 (p:List Z00) (e:Int) (c:Z0b) (hp:Z17 p) (hc:Z5j c):Ok (Z07 (Zlj c) Z08 (0,p,e,([]:List Z0p))) (fun q=>Z17 q.1∧(∀ v∈q.2.2,Z8m v.Z1o)∧q.2.2.length=c.Z1p.length):=by
 have:=hc.mapL
 refine lp (fun t=>t.1) (c.Z1p.length) (fun t=>Z17 t.2.1∧(∀ v∈t.2.2.2,Z8m v.Z1o)∧(t.2.2.2.length:Int)=t.1) (fun t hI _ _=>?_) (by omega) ⟨hp,Z4v,rfl⟩ (by omega) (by omega)
 obtain ⟨hI1,hI2,hI3⟩:=hI
 unfold Zlj
 refine brD (fun hlt=>?_) fun _=>dn ⟨hI1,hI2,by dsimp only; omega⟩
 obtain ⟨y,hy,hm⟩:=gr (l:=c.Z1p) (i:=t.1) (by omega) hlt
 simp only [hy]
 refine bs (bs (bd (Zwj _ _ hI1 (hc.map _ hm).loc (hc.map _ hm).locL) fun v1 h1=>bd (Zwj _ _ h1.1 (hc.map _ hm).stk (hc.map _ hm).stkL) fun v2 h2=>?_))
 refine bd gk fun _ _=>bd wr fun _ _=>?_
 exact nx ⟨h2.1,Z72 hI2 ((hc.map _ hm).of h1.2.1 h1.2.2 h2.2.1 h2.2.2),by simp only [List.length_append,List.length_cons,List.length_nil]; omega⟩
theorem Y8n (x:Z0t) (c:Z0b) (hp:Z17 x.f_P) (hc:Z5j c):Ok (Zml x c) (fun r=>Z17 r.1.f_P∧Z5j r.2):=by
 unfold Zml
 refine bd (L78x1 _ _ _ hp hc) fun q0 h0=>bd (L78x2 _ _ _ h0.1 hc) fun q2 h2=>bd (L78x3 _ _ _ h2.1 hc) fun q4 h4=>ok ⟨h4.1,h0.2.1,?_,fun v hv=>?_,?_,h4.2.1,?_,hc.linL⟩
 ·have:=hc.insL; have:=h0.2.2; dsimp only; omega
 ·rw [h2.2.1 v hv]; simp
 ·have:=hc.hndL; have:=h2.2.2; dsimp only; omega
 ·have:=hc.mapL; have:=h4.2.2; dsimp only; omega
theorem L58x2 (p:List Z00) (e:Int) (m:Z2e) (hp:Z17 p) (hm:Zam m):Ok (Z07 (Zmo m) Z08 (0,p,e,([]:List Int))) (fun q=>Z17 q.1∧q.2.2.length≤140737488355328):=by
 have:=hm.excL
 refine lp (fun t=>t.1) (m.Z6c.length) (fun t=>Z17 t.2.1∧(t.2.2.2.length:Int)=t.1) (fun t hI _ _=>?_) (by omega) (by exact ⟨hp,rfl⟩) (by omega) (by omega)
 try dsimp only at*
 unfold Zmo
 obtain ⟨hI1,hI3⟩:=hI
 repeat' first
  | with_reducible refine nx ?_ ?_ ?_
  | with_reducible refine dn ?_
  | with_reducible refine brD (fun _=>?_) fun _=>?_
  | with_reducible refine bd gr fun _ _=>?_
  | with_reducible refine bd wr fun _ _=>?_
  | with_reducible refine bd gk fun _ _=>?_
  | with_reducible refine bd (Ze0 _ _ (by first|assumption|exact hm.exc _ (by assumption)) (by first|assumption|exact hm.exc _ (by assumption))) fun _ _=>?_
  | with_reducible refine And.intro ?_ ?_
  | (simp only [List.length_set,List.length_append,List.length_cons,List.length_nil,List.length_replicate]; omega)
structure Zd2 (n:Int) (ms:List Z0g) (cs:List Z0b) (ts:List (List Int)) (ns:List Z2c):Prop where
 m:(ms.length:Int)=n
 c:(cs.length:Int)=n
 t:(ts.length:Int)=n
 s:(ns.length:Int)=n
 code:∀ v∈cs,Z5j v
 att:∀ m∈ms,m.Z1x=[]
 thr:∀ l∈ts,l.length≤140737488355328
theorem Zd2.snoc {n k:Int} {ms:List Z0g} {cs:List Z0b} {ts:List (List Int)} {ns:List Z2c} (h:Zd2 n ms cs ts ns) {m:Z0g} {c:Z0b} {l:List Int} {s:Z2c} (ha:m.Z1x=[]) (hc:Z5j c) (hl:l.length≤140737488355328) (hk:k=n+1):
  Zd2 k (ms++[m]) (cs++[c]) (ts++[l]) (ns++[s]):=by
 obtain ⟨h1,h2,h3,h4,h5,h6,h7⟩:=h
 refine ⟨?_,?_,?_,?_,Z72 h5 hc,Z72 h6 ha,Z72 h7 hl⟩ <;> simp only [List.length_append,List.length_cons,List.length_nil] <;> omega
theorem WCode0:Z5j { Z0i:=0,Z0d:=0,Z0l:=[],Z23:=[],Z1p:=[],Z1r:=[] }:=⟨Z4v,by simp,Z4v,by simp,Z4v,by simp,by simp⟩
abbrev S58:=Int×(List Z00)×Int×(List Z0g)×(List Z0b)×(List (List Int))×(List Z2c)
def I58 (t:S58):Prop:=Z17 t.2.1∧Zd2 t.1 t.2.2.2.1 t.2.2.2.2.1 t.2.2.2.2.2.1 t.2.2.2.2.2.2
def Q58 (n:Int) (q:(List Z00)×Int×(List Z0g)×(List Z0b)×(List (List Int))×(List Z2c)):Prop:=Z17 q.1∧Zd2 n q.2.2.1 q.2.2.2.1 q.2.2.2.2.1 q.2.2.2.2.2
theorem K58x2 {n:Int} {p26 p27 p28:Int} {p29:List Z02} {p30:List Z0o} {p31:List Z0p} {p32:List Z18} {t0:S58} {v34:Z2e} {v35 v36:Z0t×Int} {p33:List Z00} {p34 p35:Int}
  (hI:I58 t0) (hp:Z17 p33) (hm:Zam v34) (hc:Z5j { Z0i:=p27,Z0d:=p28,Z0l:=p29,Z23:=p30,Z1p:=p31,Z1r:=p32 }) (h0:0≤t0.1) (h1:t0.1<n) (hn:n*184≤140737488355328):
  Ok (Zfl p26 p27 p28 p29 p30 p31 p32 t0 v34 v35 v36 p33 p34 p35) (St I58 (fun t=>t.1) n (Q58 n) t0):=by
 unfold Zfl
 have:=hI.2.m; have:=hI.2.c; have:=hI.2.t; have:=hI.2.s
 refine bd (L58x2 _ _ _ hp hm) fun q4 h4=>?_
 refine bd gk fun _ _=>?_
 refine bd gk fun _ _=>?_
 refine bd gk fun _ _=>?_
 refine bd gk fun _ _=>?_
 refine bd wr fun _ hv=>?_
 exact nx ⟨h4.1,hI.2.snoc rfl hc h4.2 hv⟩
theorem K58x1 {n:Int} {t0:S58} {v34:Z2e} {v35 v36:Z0t×Int} {p24:List Z00} {p25 p26 p27 p28:Int} {p29:List Z02} {p30:List Z0o} {p31:List Z0p} {p32:List Z18}
  (hI:I58 t0) (hp:Z17 p24) (hm:Zam v34) (hc:Z5j { Z0i:=p27,Z0d:=p28,Z0l:=p29,Z23:=p30,Z1p:=p31,Z1r:=p32 }) (h0:0≤t0.1) (h1:t0.1<n) (hn:n*184≤140737488355328):
  Ok (Zgx t0 v34 v35 v36 p24 p25 p26 p27 p28 p29 p30 p31 p32) (St I58 (fun t=>t.1) n (Q58 n) t0):=by
 unfold Zgx
 exact brD (fun _=>bd (Z7x _ _ hp (by simp)) fun v hv=>K58x2 hI hv hm hc h0 h1 hn) fun _=>K58x2 hI hp hm hc h0 h1 hn
theorem L58x1 (p : List Z00) (e : Int) (u : Z0y) (hp : Z17 p) (hu:Z5p u):Ok (Z07 (Zmq u) Z08 (0,p,e,[],[],[],[])) (Q58 u.Z14.length):=by
 have:=hu.metL
 refine lp (fun t=>t.1) (u.Z14.length) I58 (fun t hI h0 h1=>?_) (by omega) ⟨hp,rfl,rfl,rfl,rfl,Z4v,Z4v,Z4v⟩ (by omega) (by omega)
 unfold Zmq
 refine brD (fun hlt => ?_) fun hge => dn ⟨hI.1, by have:t.1=u.Z14.length:=by omega
                                                    rw [← this]; exact hI.2⟩
 refine bd gr fun m hm=>bd (Z7x _ _ hI.1 (hu.met _ hm).n) fun v1 h1=>bd (Z7x _ _ h1 (hu.met _ hm).d) fun v2 h2=>br (fun _=>?_) fun _=>?_
 ·exact bd (Z7x _ _ h2 (by simp)) fun v3 h3=>bd (Y8n _ _ h3 (hu.met _ hm).code) fun v4 h4=>K58x1 hI h4.1 (hu.met _ hm) h4.2 h0 hlt (by omega)
 ·exact K58x1 hI h2 (hu.met _ hm) WCode0 h0 hlt (by omega)
structure Zdg (u:Z0y) (h:Z2v):Prop where
 pool:Z17 h.f_F.Z2q
 fam:Zd2 u.Z14.length h.f_F.Z14 h.Zca h.Zbl h.Za3
 ifsL:h.f_F.Z16.length=u.Z16.length
 fldL:h.f_F.Z15.length=u.Z15.length
 fld:∀ m∈h.f_F.Z15,m.Z1x.length≤1∧∀ a∈m.Z1x,Str a.Z2y
 attL:h.f_F.Z1x.length≤1
 att:∀ a∈h.f_F.Z1x,Str a.Z2y
theorem L48x1 (p:List Z00) (e:Int) (u:Z0y) (hp:Z17 p) (hu:Z5p u):Ok (Z07 (Zhu u) Z08 (0,p,e,([]:List Int))) (fun q=>Z17 q.1∧q.2.2.length=u.Z16.length):=by
 have:=hu.ifsL
 refine lp (fun t=>t.1) (u.Z16.length) (fun t=>Z17 t.2.1∧(t.2.2.2.length:Int)=t.1) (fun t hI h0 h1=>?_) (by omega) ⟨hp,rfl⟩ (by omega) (by omega)
 obtain ⟨hI1,hI3⟩:=hI
 unfold Zhu
 refine brD (fun hlt=>?_) fun hge=>dn ⟨hI1,by dsimp only; omega⟩
 refine bd gr fun s hs=>bd (Ze0 _ _ hI1 (hu.ifs _ hs)) fun v1 h1=>?_
 refine bd gk fun _ _=>bd wr fun _ hv=>?_
 exact nx ⟨h1,by simp only [List.length_append,List.length_cons,List.length_nil]; omega⟩
def MAt (m:Z0g):Prop:=m.Z1x.length≤1∧∀ a∈m.Z1x,Str a.Z2y
abbrev S48:=Int×(List Z00)×Int×(List Z0g)
def I48 (t:S48):Prop:=Z17 t.2.1∧(t.2.2.2.length:Int)=t.1∧∀ m∈t.2.2.2,MAt m
theorem K48x2 {u:Z0y} (hu:Z5p u) {t1:S48} {v26:Z5r} {v27 v28:Z0t×Int} {p9:List Z00} {p10:Int} {p11:List Z1g} (hI:I48 t1) (hp:Z17 p9) (ha:p11.length≤1∧∀ a∈p11,Str a.Z2y) (h0:0≤t1.1) (h1:t1.1<u.Z15.length):
  Ok (Zfr t1 v26 v27 v28 p9 p10 p11) (St I48 (fun t=>t.1) u.Z15.length (fun q=>Z17 q.1∧q.2.2.length=u.Z15.length∧∀ m∈q.2.2,MAt m) t1):=by
 have:=hu.fldL
 obtain ⟨hI1,hI2,hI3⟩:=hI
 unfold Zfr
 refine bd gk fun _ _=>bd wr fun _ hv=>?_
 exact nx ⟨hp,by simp only [List.length_append,List.length_cons,List.length_nil]; omega,Z72 hI3 ha⟩
theorem L48x2 (p:List Z00) (e:Int) (u:Z0y) (hp:Z17 p) (hu:Z5p u):Ok (Z07 (Zo6 u) Z08 (0,p,e,([]:List Z0g))) (fun q=>Z17 q.1∧q.2.2.length=u.Z15.length∧∀ m∈q.2.2,MAt m):=by
 have:=hu.fldL
 refine lp (fun t=>t.1) (u.Z15.length) I48 (fun t hI h0 h1=>?_) (by omega) ⟨hp,rfl,Z4v⟩ (by omega) (by omega)
 unfold Zo6
 refine brD (fun hlt=>?_) fun hge=>dn ⟨hI.1,by have:=hI.2.1; dsimp only; omega,hI.2.2⟩
 refine bd gr fun f hf=>bd (Z7x _ _ hI.1 (hu.fld _ hf).n) fun v1 h1=>bd (Z7x _ _ h1 (hu.fld _ hf).d) fun v2 h2=>brN (fun _=>?_) fun _=>?_
 ·exact bd (Z7x _ _ h2 (by simp)) fun v3 h3=>bd (Y7n _ _ h3 (hu.fld _ hf)) fun v4 h4=>bd (Zxn _) fun v5 h5=>K48x2 hu hI h4 ⟨by simp,fun a ha=>by rw [List.mem_singleton.1 ha]; show v5.length≤_; omega⟩ h0 hlt
 ·exact K48x2 hu hI h2 ⟨by simp,Z4v⟩ h0 hlt
theorem Y82 (x:Z0t) (u:Z0y) (h:Z2v) (hp:Z17 x.f_P) (hu:Z5p u) (hi:h.f_F.Z16.length=u.Z16.length) (hf:h.f_F.Z15.length=u.Z15.length) (hm:∀ m∈h.f_F.Z15,MAt m):
  Ok (Zl2 x u h) (fun r=>Z17 r.1.f_P∧Zdg u r.2):=by
 unfold Zl2
 exact bd (L58x1 _ _ _ hp hu) fun q hq=>ok ⟨hq.1,Z17.nil,hq.2,hi,hf,hm,by simp,Z4v⟩
theorem K48x3 {u:Z0y} {v34:Z0t×Z2v} (hw:Zdg u v34.2) {p12:List Z00} {p13:Int} {p14:List Z1g} (hp:Z17 p12) (ha:p14.length≤1∧∀ a∈p14,Str a.Z2y):Ok (Zfd v34 p12 p13 p14) (fun r=>Z17 r.1.f_P∧Zdg u r.2):=by
 unfold Zfd
 exact ok ⟨hp,hp,hw.fam,hw.ifsL,hw.fldL,hw.fld,ha.1,ha.2⟩
theorem K48x1 {u:Z0y} (hu:Z5p u) {v0:Z0t×Int} {p0:List Z00} {p1 p2:Int} (hp:Z17 p0):Ok (Zdv v0 u p0 p1 p2) (fun r=>Z17 r.1.f_P∧Zdg u r.2):=by
 unfold Zdv
 refine bd (L48x1 _ _ _ hp hu) fun q0 h0=>bd (L48x2 _ _ _ h0.1 hu) fun q2 h2=>bd (Y82 _ _ _ h2.1 hu ?_ ?_ h2.2.2) fun v34 hv=>br (fun _=>?_) fun _=>K48x3 hv.2 hv.1 ⟨hv.2.attL,hv.2.att⟩
 ·exact h0.2
 ·exact h2.2.1
 ·exact bd (Z7x _ _ hv.1 (by simp)) fun v1 h1=>bd (Z7x _ _ h1 hu.src) fun v2 h2=>bd (Zxn _) fun v5 h5=>K48x3 hv.2 h2 ⟨by simp,fun a ha=>by rw [List.mem_singleton.1 ha]; show v5.length≤_; omega⟩
theorem Yab (x:Z0t) (u:Z0y) (hp:Z17 x.f_P) (hu:Z5p u):Ok (Zn5 x u) (fun r=>Zdg u r.2):=by
 unfold Zn5
 refine (bd (Ze0 _ _ hp hu.n) fun v0 h0=>br (fun _=>bd (Ze0 _ _ h0 hu.sup) fun v1 h1=>K48x1 hu h1) fun _=>K48x1 hu h0:Ok _ (fun r:Z0t×Z2v=>Z17 r.1.f_P∧Zdg u r.2)).mono fun r hr=>hr.2
end Go.Proofs
set_option linter.unusedVariables false
namespace Go.Proofs
open Go.Den Go.Tot
theorem Zsd (s:List UInt8) (a:Int) (hs:Str s) (h0:0≤a) (h1:a≤s.length):Ok (Zad s a) (fun r=>r.2= -1∨(a<r.2∧r.2≤s.length)):=by
 unfold Zad
 refine bd (P:=fun q:Int×Int=>a≤q.2∧q.2≤(s.length:Int)∧0≤q.1∧q.1≤4503599627370496) (lp (fun t=>t.1) s.length (fun t=>0≤t.2∧t.2≤t.1∧a≤t.1) (fun t hI g0 g1=>?_) (by omega) ⟨by omega,h0,by omega⟩ h0 h1) fun q hq=>?_
 ·unfold Zj6 Zmh
  refine brD (fun hlt=>bd gs fun _ _=>brE (fun _=>bd wr fun _ _=>bd wr fun _ _=>nx ?_ ?_ ?_) fun _=>dn ?_) fun _=>dn ?_ <;> dsimp only <;> omega
 ·obtain ⟨q1,q2⟩:=q
  dsimp only at hq ⊢
  have j2:∀ (v:Int) (p0:List UInt8) (p1:Int),Str p0→a<p1→p1≤s.length→Ok (Zaq (q1,q2) v p0 p1) (fun r=>r.2= -1∨(a<r.2∧r.2≤s.length)):=fun v p0 p1 g1 g2 g3=>by
   unfold Zaq
   exact bd (Zm4 _ g1) fun b _=>br! (fun _=>ok (.inl rfl)) fun _=>ok (.inr ⟨g2,g3⟩)
  refine brD (fun _=>ok (.inl rfl)) fun _=>bd gs fun v5 _=>bd wr fun v6 h6=>brE (fun _=>?_) fun _=>j2 _ _ _ (by simp) (by omega) (by omega)
  refine bd (P:=fun q:Int=>v6≤q∧q≤(s.length:Int)) (lp (fun t=>t) s.length (fun t=>v6≤t) (fun t hI g0 g1=>?_) (by omega) (by omega) (by omega) (by omega)) fun q hq2=>?_
  ·unfold Zj5
   exact brD (fun hlt=>bd gs fun _ _=>brN (fun _=>bd wr fun _ _=>nx (by omega) (by omega) (by omega)) fun _=>dn ⟨by omega,by omega⟩) fun _=>dn ⟨by omega,by omega⟩
  ·exact brD (fun _=>ok (.inl rfl)) fun _=>bd (sb (by omega) (by omega) (by omega)) fun v11 h11=>bd wr fun v12 h12=>j2 _ _ _ (by have:=h11.1; unfold Str at *; omega) (by omega) (by omega)
theorem Ze5 (s:List UInt8) (hs:Str s):Ok (Z7n s) (fun _=>True):=by
 unfold Z7n
 exact bd (Zsd s 0 hs (by omega) (by omega)) fun v _=>brN (fun _=>ok trivial) fun _=>ok trivial
theorem Y1u {s:List UInt8} (h:(s==([]:List UInt8))=false):0<s.length:=by
 cases s with
 | nil=>simp at h
 | cons a r=>simp
theorem Y6y (s:List UInt8) (hs:Str s):Ok (Zjn s) (fun _=>True):=by
 unfold Zjn Zsf
 exact bd (Zjc s hs) fun b _=>br (fun _=>ok trivial) fun _=>br (fun _=>ok trivial) fun h=>by
  have:=Y1u h
  exact bd gs fun v _=>brN (fun _=>ok trivial) fun _=>bd (Ze5 s hs) fun v _=>ok trivial
theorem Zqt (s:List UInt8) (hs:Str s):Ok (Zcn s) (fun b=>b=true→0<s.length):=by
 unfold Zcn
 refine br (fun h=>ok fun _=>?_) fun _=>br (fun h=>ok fun _=>?_) fun _=>brD (fun _=>bd (Zud s hs) fun b hb=>ok fun h=>?_) fun _=>ok fun h=>by cases h
 ·rw [eq_of_beq h]; simp
 ·rw [eq_of_beq h]; simp
 ·exact List.length_pos_iff.2 (hb h)
theorem Zrv (s:List UInt8) (hs:s.length≤1048576):Ok (Zcc s) (fun r=>r.1.Z65.length≤1048576):=by
 unfold Zcc
 refine br (fun _=>ok (by simp)) fun h=>?_
 have hpos:=Y1u h
 refine bd gs fun v _=>brN (fun _=>ok (by simp)) fun _=>?_
 unfold j81x1
 refine bd (P:=fun q:(List Z0j×Int)⊕(Z27×Int)=>match q with|.inl q=>q.1.length≤1048576∧0≤q.2∧q.2≤(s.length:Int)|.inr y=>y.1.Z65=[]) (lp (fun t=>t.1) s.length (fun t=>(t.2.length:Int)≤t.1) (fun t hI g0 g1=>?_) (by omega) (by simp)) fun q hq=>?_
 ·unfold l81x1 j81x2 j81x3
  have hd:t.2.length≤1048576∧0≤t.1∧t.1≤s.length:=⟨by omega,g0,g1⟩
  refine brD (fun hlt=>bd gs fun _ _=>brN (fun _=>?_) fun _=>dn hd) fun _=>dn hd
  refine bd (Zsd s t.1 (by unfold Str; omega) g0 g1) fun r hr=>brD (fun _=>dn rfl) fun hnn=>brE (fun _=>dn rfl) fun _=>?_
  have hlt2:t.1<r.2∧r.2≤s.length:=by omega
  exact bd gk fun _ _=>nx (by simp only [List.length_append,List.length_cons,List.length_nil]; omega) hlt2.1 hlt2.2
 ·cases q with
  | inr y=>exact ok (by rw [hq]; simp)
  | inl q=>
   obtain ⟨h1,h2,h3⟩:=hq
   refine brD (fun _=>ok (by simp)) fun _=>bd wr fun v hv=>bd (Zsd s v (by unfold Str; omega) (by omega) (by omega)) fun r _=>brN (fun _=>ok (by simp)) fun _=>brD (fun _=>ok (by simp)) fun _=>ok (by dsimp only; exact h1)
theorem Y8g (s:List UInt8) (hs:s.length≤1048576):Ok (Zmv s) (fun _=>True):=by
 unfold Zmv
 exact bd (Ze5 s (by unfold Str; omega)) fun v _=>brE (fun _=>ok trivial) fun _=>bd (Zrv s hs) fun _ _=>ok trivial
def Ent (p:List Z00) (i:Int) (c:Z00):Prop:=∃ k:Nat,i=(k:Int)+1∧p[k]?=some c
theorem Ent.mem {p:List Z00} {i:Int} {c:Z00} (h:Ent p i c):c∈p:=by
 obtain ⟨k,-,h⟩:=h
 exact List.mem_of_getElem? h
theorem Zg7 (p:List Z00) (i:Int) (hp:p.length≤140737488355328):Ok (Za8 p i) (fun r=>(r.2=0→Ent p i r.1)∧(r.2≠0→r.1.f_S=[])):=by
 unfold Za8
 refine brD (fun _=>ok ⟨by simp,by simp⟩) fun _=>brD (fun _=>ok ⟨by simp,by simp⟩) fun _=>bd wr fun v hv=>bd gri fun c hc=>ok ⟨fun _=>⟨v.toNat,by omega,hc.2⟩,by simp⟩
theorem Zlr (p:List Z00) (i t:Int) (hp:p.length≤140737488355328):Ok (Zb4 p i t) (fun r=>(r.2=0→Ent p i r.1∧r.1.Z2f=t)∧(r.2≠0→r.1.f_S=[])):=by
 unfold Zb4
 exact bd (Zg7 p i hp) fun v hv=>brN (fun h=>ok ⟨fun h'=>absurd h' h,fun _=>rfl⟩) fun h=>brN (fun _=>ok ⟨by simp,by simp⟩) fun ht=>ok ⟨fun _=>⟨hv.1 h,ht⟩,by simp⟩
theorem Z5e (p:List Z00) (i:Int) (hp:p.length≤140737488355328):Ok (Z4o p i) (fun r=>r.1=[]∨∃ c,Ent p i c∧r.1=c.f_S):=by
 unfold Z4o
 refine bd (Zlr p i 1 hp) fun v hv=>ok ?_
 by_cases h:v.2=0
 ·exact .inr ⟨_,(hv.1 h).1,rfl⟩
 ·exact .inl (hv.2 h)
abbrev PS (p:List Z00) (B:Nat):Prop:=∀ c∈p,c.f_S.length≤B
theorem Zbw {p:List Z00} {i:Int} {B:Nat} (h:PS p B) {s:List UInt8} (hs:s=[]∨∃ c,Ent p i c∧s=c.f_S):s.length≤B:=by
 rcases hs with rfl|⟨c,hc,rfl⟩
 ·simp
 ·exact h c hc.mem
theorem Zra (p:List Z00) (i:Int) {B:Nat} (hp:p.length≤140737488355328) (h:PS p B):Ok (Zdd p i) (fun r=>r.1.length≤B):=by
 unfold Zdd
 exact bd (Zlr p i 7 hp) fun v hv=>brN (fun _=>ok (by simp)) fun _=>bd (Z5e p _ hp) fun r hr=>ok (Zbw h hr)
theorem Zez (t:Int):Ok (Z9h t) (fun _=>True):=by
 unfold Z9h
 exact br (fun _=>ok trivial) fun _=>br (fun _=>ok trivial) fun _=>ok trivial
theorem Y1n (p:List Z00) (i:Int) (hp:p.length≤140737488355328):Ok (Zg5 p i) (fun r=>(r.1=[]∨∃ c,c∈p∧r.1=c.f_S)∧(r.2.1=[]∨∃ c d,Ent p i c∧Ent p c.f_B d∧r.2.1=d.f_S)):=by
 unfold Zg5
 refine bd (Zlr p i 12 hp) fun v hv=>brN (fun _=>ok ⟨.inl rfl,.inl rfl⟩) fun h=>bd (Z5e p _ hp) fun a ha=>brN (fun _=>ok ⟨.inl rfl,.inl rfl⟩) fun _=>bd (Z5e p _ hp) fun b hb=>brN (fun _=>ok ⟨.inl rfl,.inl rfl⟩) fun _=>ok ⟨?_,?_⟩
 ·rcases ha with h1|⟨c,hc,h1⟩
  ·exact .inl h1
  ·exact .inr ⟨c,hc.mem,h1⟩
 ·rcases hb with h1|⟨c,hc,h1⟩
  ·exact .inl h1
  ·exact .inr ⟨_,c,(hv.1 h).1,hc,h1⟩
theorem Y7w (p:List Z00) (i t:Int) {B:Nat} (hp:p.length≤140737488355328) (h:PS p B):Ok (Zjk p i t) (fun _=>True):=by
 unfold Zjk Zry
 exact bd (Zg7 p i hp) fun v hv=>brN (fun _=>ok trivial) fun _=>bd (Zez t) fun b _=>br! (fun _=>ok trivial) fun _=>brN (fun _=>ok trivial) fun _=>bd (Zra p _ hp h) fun r _=>brN (fun _=>ok trivial) fun _=>bd (Y1n p _ hp) fun r _=>brN (fun _=>ok trivial) fun _=>ok trivial
theorem Y6d (t:Int):Ok (Zl3 t) (fun _=>True):=by
 unfold Zl3
 repeat' first
  | exact ok trivial
  | with_reducible refine br (fun _=>?_) fun _=>?_
  | exact bd (Zez t) fun _ _=>ok trivial
theorem Ya7 (c:Z00):Ok (Zi8 c) (fun b=>b=true→c.Z2f≠1→c.f_S=[]):=by
 have h2:(c.Z2f≠1→c.f_S=[])→∀ p,Ok (Zg8 c p) (fun b=>b=true→c.Z2f≠1→c.f_S=[]):=fun h p=>by
  unfold Zg8
  repeat' first
   | exact ok fun _=>h
   | with_reducible refine br (fun _=>?_) fun _=>?_
 have h1:(c.Z2f≠1→c.f_S=[])→Ok (Z8h c) (fun b=>b=true→c.Z2f≠1→c.f_S=[]):=fun h=>by
  unfold Z8h
  exact br (fun _=>h2 h _) fun _=>bd (Zez _) fun _ _=>h2 h _
 unfold Zi8
 refine brN (fun _=>br! (fun _=>ok fun h=>by cases h) fun he=>?_) fun h1'=>?_
 ·have hS:c.f_S=[] :=by simpa using he
  repeat' first
   | exact h1 fun _=>hS
   | exact ok fun h=>by cases h
   | with_reducible refine brN (fun _=>?_) fun _=>?_
 ·repeat' first
   | exact h1 fun h=>absurd h1' h
   | exact ok fun h=>by cases h
   | with_reducible refine brN (fun _=>?_) fun _=>?_
theorem Y93 (p:List Z00) (c:Z00) (hp:p.length≤140737488355328):Ok (Zij p c) (fun _=>True):=by
 have hr:∀ i t,Ok (Zkn p i t) (fun _=>True):=fun i t=>bd (Zlr p i t hp) fun _ _=>ok trivial
 have h1:∀ a b,Ok (Zgr p c a b) (fun _=>True):=fun a b=>by
  unfold Zgr Zsy
  exact bd (hr _ _) fun v _=>brN (fun _=>ok trivial) fun _=>br (fun _=>ok trivial) fun _=>br (fun _=>ok trivial) fun _=>bd (hr _ _) fun _ _=>ok trivial
 unfold Zij
 exact bd (Zez _) fun b _=>br (fun _=>h1 _ _) fun _=>h1 _ _
theorem Y68 (t:Int) (a b:List UInt8) (hb:b.length≤1048576):Ok (Zmp t a b) (fun _=>True):=by
 unfold Zmp
 refine bd (Zrv b hb) fun v _=>?_
 repeat' first
  | exact ok trivial
  | with_reducible refine brD (fun _=>?_) fun _=>?_
  | with_reducible refine br (fun _=>?_) fun _=>?_
  | with_reducible refine bd gs fun _ _=>?_
theorem Y63 (p:List Z00) (hp:Z17 p) (k:Nat) (c:Z00) (hc:p[k]?=some c) (hG:∀ (j:Nat) d,j<k→p[j]?=some d→d.f_S.length≤1024):Ok (Zig p c) (fun e=>e=0→c.f_S.length≤1024):=by
 have hl:p.length≤140737488355328:=by have:=hp.len; omega
 have ho:=hp.ord k c hc
 have hu:∀ i:Int,i≤k→∀ s:List UInt8,(s=[]∨∃ d,Ent p i d∧s=d.f_S)→s.length≤1024:=fun i hi s hs=>by
  rcases hs with rfl|⟨d,⟨j,h1,h2⟩,rfl⟩
  ·simp
  ·exact hG j d (by omega) h2
 have h2:Ok (Zdm p c) (fun _=>True):=by
  unfold Zdm
  refine bd (Zez _) fun b _=>br (fun _=>bd (Y1n p _ hl) fun r hr=>brE (fun _=>bd (Y68 _ _ _ ?_) fun _ _=>ok trivial) fun _=>ok trivial) fun _=>ok trivial
  rcases hr.2 with h|⟨d,e,h1,h2,h3⟩
  ·rw [h]; simp
  ·obtain ⟨j,e1,e2⟩:=h1
   have:=hp.ord j d e2
   exact Nat.le_trans (hu d.f_B (by omega) _ (.inr ⟨e,h2,h3⟩)) (by omega)
 have h1:Ok (Zg0 p c) (fun _=>True):=by
  unfold Zg0
  refine brE (fun _=>bd (Z5e p _ hl) fun a ha=>bd (Z5e p _ hl) fun b hb=>bd (Zqt _ (by have:=hu _ ho.1 _ ha; unfold Str; omega)) fun _ _=>br! (fun _=>ok trivial) fun _=>bd (Y8g _ (by have:=hu _ ho.2 _ hb; omega)) fun _ _=>br! (fun _=>ok trivial) fun _=>h2) fun _=>h2
 have hcont:Ok (Zkv p c) (fun _=>True):=by
  unfold Zkv
  exact brE (fun _=>bd (Z5e p _ hl) fun a ha=>bd (Y6y _ (by have:=hu _ ho.1 _ ha; unfold Str; omega)) fun _ _=>brN (fun _=>ok trivial) fun _=>h1) fun _=>h1
 have hj:c.f_S.length≤1024→Ok (Zbi p c) (fun e=>e=0→c.f_S.length≤1024):=fun hs=>by
  unfold Zbi Zrg
  refine br (fun _=>ok fun _=>hs) fun _=>br (fun _=>ok fun _=>hs) fun _=>br (fun _=>ok fun _=>hs) fun _=>bd (Y93 p c hl) fun _ _=>brN (fun _=>ok fun _=>hs) fun _=>bd hcont fun _ _=>ok fun _=>hs
 unfold Zig
 refine bd (Y6d _) fun _ _=>br! (fun _=>ok (by simp)) fun _=>bd (Ya7 c) fun b hb=>br! (fun _=>ok (by simp)) fun hf=>brE (fun ht=>brD (fun _=>ok (by simp)) fun hs=>?_) fun ht=>?_
 ·repeat' first
   | exact hj (by omega)
   | exact ok (by simp)
   | with_reducible refine brD (fun _=>?_) fun _=>?_
   | with_reducible refine brE (fun _=>?_) fun _=>?_
 ·have hS:=hb hf ht
  repeat' first
   | exact hj (by rw [hS]; simp)
   | exact ok (by simp)
   | with_reducible refine brD (fun _=>?_) fun _=>?_
   | with_reducible refine brE (fun _=>?_) fun _=>?_
theorem Y0i (p:List Z00) (hp:Z17 p):Ok (Zfs p) (fun r=>r.2=0→PS p 1024):=by
 have:=hp.len
 unfold Zfs
 refine brD (fun _=>ok (by simp)) fun _=>bd (P:=fun q:Unit⊕(Int×Int)=>match q with|.inl _=>PS p 1024|.inr y=>y.2≠0) (lp (fun t=>t) p.length (fun t=>∀ (j:Nat) d,(j:Int)<t→p[j]?=some d→d.f_S.length≤1024) (fun t hI h0 h1=>?_) (by omega) (fun j v h=>by omega) (by omega) (by omega)) fun q hq=>?_
 ·unfold Zr7
  refine brD (fun hlt=>?_) fun hge=>dn fun v hv=>?_
  ·refine bd gri fun c hc=>bd (Y63 p hp t.toNat c hc.2 fun j d hj hd=>hI j d (by omega) hd) fun e he=>brN (fun h=>bd wr fun _ _=>dn h) fun h=>bd wr fun v2 h2=>nx (fun j v hj hv=>?_) (by omega) (by omega)
   rcases Int.lt_or_le (j:Int) t with hlt|hge
   ·exact hI j v hlt hv
   ·have:j=t.toNat:=by omega
    subst this
    rw [hc.2] at hv; cases hv
    exact he h
  ·obtain ⟨j,hj⟩:=List.mem_iff_getElem?.1 hv
   exact hI j v (by have:=(List.getElem?_eq_some_iff.1 hj).1; omega) hj
 ·cases q with
  | inl _=>exact ok fun _=>hq
  | inr y=>exact ok fun h=>absurd h hq
end Go.Proofs
set_option linter.unusedVariables false
namespace Go.Proofs
open Go.Den Go.Tot
theorem Z75 {α R:Type} {l:List α} {P:α→Prop} {f:Int→Option (Ctl Int R)} {Q:R→Prop} (hn:l.length≤140737488355328) (h:∀ t:Int,0≤t→t<l.length→∀ v,l[t.toNat]?=some v→v∈l→Z01 l t=some v→Ok (f t) (fun x=>match x with|.next t'=>t'=t+1∧P v|.done r=>Q r))
  (he:∀ t:Int,0≤t→t=(l.length:Int)→(∀ v∈l,P v)→Ok (f t) (fun x=>match x with|.next _=>False|.done r=>Q r)):Ok (Z07 f Z08 0) Q:=by
 refine lp (fun t=>t) l.length (fun t=>∀ (j:Nat) v,(j:Int)<t→l[j]?=some v→P v) (fun t hI h0 h1=>?_) (by omega) (fun j v h=>by omega) (by omega) (by omega)
 rcases Int.lt_or_le t (l.length:Int) with hlt|hge
 ·obtain ⟨v,hg,hm,hi⟩:=gri (l:=l) h0 hlt
  refine (h t h0 hlt v hi hm hg).mono fun x hx=>?_
  cases x with
  | done r=>exact hx
  | next t'=>
   obtain ⟨rfl,hP⟩:=hx
   refine ⟨fun j w hj hw=>?_,by dsimp only; omega,by dsimp only; omega⟩
   rcases Int.lt_or_le (j:Int) t with h'|h'
   ·exact hI j w h' hw
   ·have:j=t.toNat:=by omega
    subst this
    rw [hi] at hw; cases hw; exact hP
 ·refine (he t h0 (by omega) fun v hv=>?_).mono fun x hx=>?_
  ·obtain ⟨j,hj⟩:=List.mem_iff_getElem?.1 hv
   exact hI j v (by have:=(List.getElem?_eq_some_iff.1 hj).1; omega) hj
  ·cases x with
   | done r=>exact hx
   | next t'=>exact absurd hx id
def tgt (x:Z02):List Int:=if 36≤x.f_Op∧x.f_Op≤54 then [x.f_To]++x.Z0c else []
theorem Z4s.tosL {x:Z02} (h:Z4s x):x.Z0c.length≤64:=by
 by_cases h1:x.f_Op=53
 ·exact (h.tab h1).2
 ·by_cases h2:x.f_Op=54
  ·have:=h.look h2; omega
  ·rw [h.few h1 h2]; simp
theorem Y4j (x:Z02) (h:Z4s x):Zev x=some (tgt x):=by
 unfold Zev tgt
 rw [Y35]
 have:=h.tosL
 by_cases hb:36≤x.f_Op∧x.f_Op≤54
 ·rw [if_pos hb]
  simp only [Option.bind_some,hb]
  obtain ⟨u,hu,-⟩:=gk (b:=8) (n:=([x.f_To]++x.Z0c).length) (by simp only [List.length_append,List.length_cons,List.length_nil]; omega) (by simp only [List.length_append,List.length_cons,List.length_nil]; omega)
  simp only [List.length_append,List.length_cons,List.length_nil,Nat.zero_add,Nat.add_comm] at hu
  simp [hu]
 ·rw [if_neg hb]
  simp [hb]
theorem put_ok (x:Z02) (at_:List Int) (hx:Z34 x) (hc:Z4s x) (ht:∀ t∈tgt x,t<at_.length):Ok (Zi4 x at_) (fun r=>r.length≤1000):=by
 have htl:=hc.tosL
 have hbr:36≤x.f_Op→x.f_Op≤54→0≤x.f_To∧x.f_To<at_.length∧∀ v∈x.Z0c,0≤v∧v<at_.length:=fun h h'=>by
  have e:tgt x=[x.f_To]++x.Z0c:=if_pos ⟨h,h'⟩
  rw [e] at ht
  exact ⟨(hc.aim h h').1,ht _ (by simp),fun v hv=>⟨(hc.aim h h').2 v hv,ht v (by simp [hv])⟩⟩
 have num:=fun y n hn=>Y9o y n hn
 unfold Zi4
 refine bd (num _ 1 (by omega)) fun v0 h0=>bd (Zgk x.f_Op) fun k hk=>?_
 obtain ⟨k3,k6,k7,km,k0,k1⟩:=hk
 refine brE (fun _=>?_) fun _=>brE (fun _=>?_) fun _=>brE (fun h3=>?_) fun _=>brE (fun _=>?_) fun _=>brE (fun _=>?_) fun _=>brE (fun h6=>?_) fun _=>brE (fun h7=>?_) fun _=>ok (by omega)
 ·exact bd (num _ 1 (by omega)) fun v1 h1=>bd (ct (by omega)) fun v2 h2=>ok (by omega)
 ·exact bd (num _ 2 (by omega)) fun v1 h1=>bd (ct (by omega)) fun v2 h2=>ok (by omega)
 ·have hb:=hbr (by omega) (by omega)
  exact bd (gr hb.1 hb.2.1) fun v _=>bd (num _ 2 (by omega)) fun v1 h1=>bd (ct (by omega)) fun v2 h2=>ok (by omega)
 ·exact bd (num _ 1 (by omega)) fun v1 h1=>bd (ct (by omega)) fun v2 h2=>ok (by omega)
 ·exact bd (num _ 1 (by omega)) fun v1 h1=>bd (ct (by omega)) fun v2 h2=>bd (num _ 1 (by omega)) fun v3 h3=>bd (ct (by omega)) fun v4 h4=>ok (by omega)
 ·have hb:=hbr (by omega) (by omega)
  refine bd (gr hb.1 hb.2.1) fun v _=>bd (num _ 2 (by omega)) fun v1 h1=>bd (ct (by omega)) fun v2 h2=>bd (num _ 4 (by omega)) fun v3 h3=>bd (ct (by omega)) fun v4 h4=>bd (num _ 2 (by omega)) fun v5 h5=>bd (ct (by omega)) fun v6 h6=>bd (P:=fun r=>r.length≤1000) ?_ fun q hq=>ok hq
  refine lp (fun t=>t.2) x.Z0c.length (fun t=>(t.1.length:Int)≤100+8*t.2) (fun t hI g0 g1=>?_) (by omega) (by dsimp only; omega)
  unfold Zsu
  refine brD (fun hlt=>bd gr fun w hw=>bd (gr (hb.2.2 w hw).1 (hb.2.2 w hw).2) fun z _=>bd (num _ 2 (by omega)) fun y1 e1=>bd (ct (by omega)) fun y2 e2=>bd wr fun k hk=>nx (by dsimp only; omega)) fun _=>dn (by omega)
 ·have hb:=hbr (by omega) (by omega)
  have hlk:=hc.look (by omega)
  refine bd (gr hb.1 hb.2.1) fun v _=>bd (num _ 2 (by omega)) fun v1 h1=>bd (ct (by omega)) fun v2 h2=>bd (num _ 2 (by omega)) fun v3 h3=>bd (ct (by omega)) fun v4 h4=>bd (P:=fun r=>r.length≤1000) ?_ fun q hq=>ok hq
  refine lp (fun t=>t.2) x.Z0z.length (fun t=>(t.1.length:Int)≤100+8*t.2) (fun t hI g0 g1=>?_) (by omega) (by dsimp only; omega)
  unfold Zr5
  refine brD (fun hlt=>bd gr fun w0 hw0=>bd (num _ 4 (by omega)) fun z1 e1=>bd (ct (by omega)) fun z2 e2=>bd gr fun w hw=>bd (gr (hb.2.2 w hw).1 (hb.2.2 w hw).2) fun z _=>bd (num _ 2 (by omega)) fun y1 e1=>bd (ct (by omega)) fun y2 e2=>bd wr fun k hk=>nx (by dsimp only; omega)) fun _=>dn (by omega)
theorem enc_ok (l:List Z02) (hl:∀ i∈l,Z34 i) (hn:l.length≤140737488355328):Ok (Zhj l) (fun r=>r.1.length≤1000000):=by
 unfold Zhj
 refine bd (Zs7 l hl hn) fun v0 h0=>brN (fun _=>ok (by simp)) fun h=>?_
 obtain ⟨g1,g2,g3⟩:=h0.1 h
 refine bd (P:=fun q:Unit⊕(List UInt8×Int)=>match q with|.inl _=>∀ i∈l,∀ t∈tgt i,t<l.length|.inr y=>y.1=[]) (Z75 (P:=fun i=>∀ t∈tgt i,t<l.length) hn (fun t h0 h1 i hi hm hg=>?_) fun t h0 h1 ha=>?_) fun q hq=>?_
 ·unfold Zmb
  rw [hg]
  have hf:(tgt i).length≤65:=by
   have:=(g3 i hm).tosL
   unfold tgt; split <;> simp; omega
  refine brD (fun _=>bs ?_) fun h=>absurd h1 h
  rw [Y4j i (g3 i hm)]
  refine bs (bd (P:=fun q:Unit⊕(List UInt8×Int)=>match q with|.inl _=>∀ t∈tgt i,t<l.length|.inr y=>y.1=[]) (Z75 (l:=tgt i) (P:=fun t=>t<(l.length:Int)) (by omega) (fun k k0 k1 v hv hvm hvg=>?_) fun k k0 k1 ha=>?_) fun q hq=>?_)
  ·unfold Zi5
   rw [hvg]
   exact brD (fun _=>bs (brD (fun _=>ok rfl) fun _=>bd wr fun w hw=>ok ⟨hw,by omega⟩)) fun h=>absurd k1 h
  ·unfold Zi5
   exact brD (fun h=>absurd h (by omega)) fun _=>ok ha
  ·cases q with
   | inl _=>exact bd wr fun w hw=>ok ⟨hw,hq⟩
   | inr y=>exact ok hq
 ·unfold Zmb
  exact brD (fun h=>absurd h (by omega)) fun _=>ok ha
 ·cases q with
  | inr y=>exact ok (by rw [hq]; simp)
  | inl _=>
   refine bd (P:=fun r=>r.length≤1000000) (lp (fun t=>t.2) l.length (fun t=>(t.1.length:Int)≤1000*t.2) (fun t hI k0 k1=>?_) (by omega) (by simp)) fun q6 h6=>ok h6
   unfold Zu1
   refine brD (fun hlt=>bd gr fun i hi=>bd (put_ok i v0.1 (hl i hi) (g3 i hi) fun t ht=>by have:=hq i hi t ht; omega) fun y hy=>bd (ct (by omega)) fun z hz=>bd wr fun w hw=>nx (by dsimp only; omega)) fun _=>dn (by omega)
theorem Zv6 (l:List Z0k) (at_:List Int) (hn:l.length≤140737488355328) (h5:∀ v∈l,v.Z1d=5→0≤v.Z3w∧v.Z3w<at_.length):Ok (Zgz l at_) (fun r=>r.length≤1+5*l.length):=by
 unfold Zgz
 refine bd (Ztc _) fun v0 h0=>bd (P:=fun r=>r.length≤1+5*l.length) (lp (fun t=>t.2) l.length (fun t=>(t.1.length:Int)≤1+5*t.2) (fun t hI k0 k1=>?_) (by omega) (by dsimp only; omega)) fun q hq=>ok hq
 unfold Ztv
 refine brD (fun hlt=>?_) fun _=>dn (by omega)
 obtain ⟨v,hg,hm⟩:=gr (l:=l) (i:=t.2) (by omega) hlt
 simp only [hg]
 have hj:∀ p:List UInt8,(p.length:Int)≤1+5*t.2+3→Ok (Zgp t l p) (St (fun t=>(t.1.length:Int)≤1+5*t.2) (fun t=>t.2) l.length (fun r=>r.length≤1+5*l.length) t):=fun p hp=>by
  unfold Zgp
  simp only [hg]
  exact bs (brD (fun _=>bs (bd (Z5o _) fun z hz=>bd (ct (by omega)) fun y hy=>bd wr fun w hw=>nx (by dsimp only; omega))) fun _=>bd wr fun w hw=>nx (by dsimp only; omega))
 refine bs (bd (Ztc _) fun a ha=>bd (ct (by omega)) fun b hb=>bs (brE (fun h=>bs (bd (gr (h5 v hm h).1 (h5 v hm h).2) fun y _=>bd (Z5o _) fun z hz=>bd (ct (by omega)) fun w hw=>hj w (by omega))) fun _=>hj b (by omega)))
theorem Zxc (l:List Int):Ok (Zg6 l) (fun r=>Str r.1):=by
 unfold Zg6
 refine brD (fun _=>ok (by simp)) fun _=>bd (Z5o _) fun v0 h0=>bd (P:=fun q:List UInt8⊕(List UInt8×Int)=>match q with|.inl q=>q.length≤1000|.inr y=>y.1=[]) (lp (fun t=>t.2) l.length (fun t=>(t.1.length:Int)≤2+2*t.2) (fun t hI k0 k1=>?_) (by omega) (by dsimp only; omega)) fun q hq=>?_
 ·unfold Zq5 Ztf
  refine brD (fun hlt=>bd gr fun _ _=>brD (fun _=>dn rfl) fun _=>bd gr fun _ _=>brD (fun _=>dn rfl) fun _=>bd gr fun _ _=>bd (Z5o _) fun y hy=>bd (ct (by omega)) fun z hz=>bd wr fun w hw=>nx (by dsimp only; omega)) fun _=>dn (by dsimp only; omega)
 ·cases q with
  | inl q => exact ok (by have h:q.length≤1000:=hq
                          show q.length≤_; omega)
  | inr y=>exact ok (by rw [hq]; simp)
structure CPre (c:Z0b):Prop where
 ins:∀ i∈c.Z0l,Z34 i
 insL:c.Z0l.length≤140737488355328
 hndL:c.Z23.length≤140737488355328
 mapL:c.Z1p.length≤140737488355328
 linL:c.Z1r.length≤140737488355328
 frm:∀ m∈c.Z1p,m.Z1o.Z0d.length≤140737488355328∧m.Z1o.Z0i.length≤140737488355328
theorem Z5j.pre {c:Z0b} (h:Z5j c):CPre c:=⟨h.ins,by have:=h.insL; omega,by have:=h.hndL; omega,by have:=h.mapL; omega,by have:=h.linL; omega,fun m hm=>⟨by have:=(h.map m hm).locL; omega,by have:=(h.map m hm).stkL; omega⟩⟩
def Chk0 (l:List Z02):Prop:=∀ i∈l,Z5z i=some 0
theorem all_ok (l:List Z02) (hl:∀ i∈l,Z34 i) (hn:l.length≤140737488355328):Ok (Zki l) (fun b=>Chk0 l→b=true):=by
 unfold Zki
 refine bd (P:=fun q:Unit⊕Bool=>match q with|.inl _=>True|.inr b=>¬ Chk0 l) (li l.length (fun t h0 h1=>?_) (by omega) (by omega) (by omega)) fun q hq=>?_
 ·unfold Zpy
  refine brD (fun _=>bd gr fun i hi=>bdE (Zfa i (hl i hi)) fun e he _=>brN (fun h=>di fun hc=>h ?_) fun _=>bd wr fun _ _=>ni (by omega) (by omega)) fun _=>di trivial
  rw [hc i hi] at he; cases he; rfl
 ·cases q with
  | inl _=>exact ok fun _=>rfl
  | inr b=>exact ok fun h=>absurd h hq
theorem Y7f (l:List Z02) (hl:∀ i∈l,Z34 i) (hn:l.length≤1000):Ok (Z78 l) (fun r=>Chk0 l→r.2=0∨r.2=8):=by
 unfold Z78
 refine bd (P:=fun q:Unit⊕(List Int×Int)=>match q with|.inl _=>∀ i∈l,Z4s i|.inr y=>¬ Chk0 l) (Z75 (l:=l) (P:=Z4s) (by omega) (fun t h0 h1 i hi hm hg=>?_) fun t h0 h1 ha=>?_) fun q hq=>?_
 ·unfold Zc7
  rw [hg]
  refine brD (fun _=>bs (bdE (Zfa i (hl i hm)) fun e he hc=>brN (fun h=>ok fun hc=>h ?_) fun h=>bd wr fun w hw=>ok ⟨hw,hc h⟩)) fun h=>absurd h1 h
  rw [hc i hm] at he; cases he; rfl
 ·unfold Zc7
  exact brD (fun h=>absurd h (by omega)) fun _=>ok ha
 ·cases q with
  | inr y=>exact ok fun h=>absurd h hq
  | inl _=>
   have hch:∀ i∈l,Z4s i:=hq
   refine brD (fun h=>absurd h (by omega)) fun _=>bd (P:=fun r=>r.length=l.length+1) ?_ fun q2 hq2=>bd ik fun j hj=>bd (la (by omega)) fun _ _=>brD (fun _=>ok fun _=> .inr rfl) fun _=>ok fun _=> .inl rfl
   refine lp (fun t=>t.1) l.length (fun t=>(t.2.length:Int)=t.1+1∧∀ v∈t.2,0≤v∧v≤400*t.1) (fun t hI h0 h1=>?_) (by omega) ⟨rfl,by simp⟩
   obtain ⟨hI1,hI2⟩:=hI
   unfold Znr
   refine brD (fun hlt=>?_) fun hge=>dn (by omega)
   refine bd ik fun j hj=>bd (la (by omega)) fun v hv=>bd gr fun i hi=>bd (Zz8 i (hl i hi) (hch i hi)) fun n hn=>?_
   have hv2:=hI2 v hv.2
   refine bd wr fun w hw=>bd gk fun _ _=>bd wr fun k hk=>?_
   refine nx ⟨by simp only [List.length_append,List.length_cons,List.length_nil]; omega,Z8n (fun v hv=>?_) ?_⟩
   ·have:=hI2 v hv; dsimp only; omega
   ·dsimp only; omega
theorem head_ok (p:List Z00) (c:Z0b) (hp:Z17 p) (hc:CPre c):Ok (Zob p c) (fun e=>e=0→PS p 1024∧(c.Z0d≤32∧c.Z0i≤32)∧1≤c.Z0l.length∧c.Z0l.length≤1000∧(Chk0 c.Z0l→∃ v,Z78 c.Z0l=some v∧v.2=0)):=by
 unfold Zob
 refine bd (Y0i p hp) fun v0 h0=>brN (fun h=>ok fun h'=>absurd h' h) fun h=>?_
 have hps:=h0 h
 have hj:c.Z0d≤32∧c.Z0i≤32→Ok (Zjj c) (fun e=>e=0→PS p 1024∧(c.Z0d≤32∧c.Z0i≤32)∧1≤c.Z0l.length∧c.Z0l.length≤1000∧(Chk0 c.Z0l→∃ v,Z78 c.Z0l=some v∧v.2=0)):=fun hLT=>by
  unfold Zjj Zq7
  refine brE (fun _=>ok (by simp)) fun h1=>brD (fun _=>ok (by simp)) fun h2=>bd (all_ok _ hc.ins hc.insL) fun b hb=>br (fun _=>bdE (Y7f _ hc.ins (by omega)) fun v hv hv2=>brE (fun he=>ok fun h=>?_) fun he=>ok fun _=>⟨hps,hLT,by omega,by omega,fun hk=>⟨v,hv,(hv2 hk).resolve_right he⟩⟩) fun hf=>ok fun _=>⟨hps,hLT,by omega,by omega,fun hk=>?_⟩
  ·omega
  ·rw [hb hk] at hf; cases hf
 exact brD (fun _=>ok (by simp)) fun _=>brD (fun _=>ok (by simp)) fun _=>brD (fun _=>ok (by simp)) fun _=>brD (fun _=>ok (by simp)) fun _=>hj ⟨by omega,by omega⟩
theorem has_ok (l:List Int) (x:Int) (hl:l.length≤140737488355328):Ok (Zht l x) (fun _=>True):=by
 unfold Zht
 refine bd (li l.length (Q:=fun _=>True) (fun t h0 h1=>?_) (by omega) (by omega) (by omega)) fun q _=>by cases q <;> exact ok trivial
 unfold Zrq
 exact brD (fun _=>bd gr fun _ _=>br (fun _=>di trivial) fun _=>bd wr fun _ _=>ni (by omega) (by omega)) fun _=>di trivial
section
variable {p:List Z00} (hp:p.length≤1000) (hS:PS p 1024)
include hp hS
theorem Zrf (i:Int):Ok (Z9q p i) (fun _=>True):=by
 unfold Z9q
 exact bd (Zra p i (by omega) hS) fun v hv=>brE (fun _=>brD (fun _=>bd gs fun _ _=>ok trivial) fun _=>ok trivial) fun _=>ok trivial
theorem Y8q (i:Int):Ok (Zb2 p i) (fun _=>True):=by
 unfold Zb2
 exact bd (Zg7 p i (by omega)) fun v _=>bd (Y7w p i _ (by omega) hS) fun _ _=>brE (fun _=>ok trivial) fun _=>ok trivial
theorem Y7d (x:Z02):Ok (Zmw p x) (fun _=>True):=by
 have h2:Ok (Zff p x) (fun _=>True):=by
  unfold Zff
  have hn:Ok ((Zb2 p x.f_A).bind fun v=>if v=true then some 12 else some 0) (fun _:Int=>True):=bd (Y8q hp hS _) fun _ _=>br (fun _=>ok trivial) fun _=>ok trivial
  exact brE (fun _=>hn) fun _=>brE (fun _=>hn) fun _=>brE (fun _=>hn) fun _=>ok trivial
 unfold Zmw
 refine bd (Zg7 p x.f_A (by omega)) fun v0 h0=>brN (fun _=>ok trivial) fun he=>?_
 have h1:Ok (Z79 v0 p x) (fun _=>True):=by
  unfold Z79
  exact brE (fun _=>bd (Ze5 _ (by have:=hS _ (h0.1 he).mem; unfold Str; omega)) fun _ _=>brN (fun _=>ok trivial) fun _=>brE (fun _=>ok trivial) fun _=>h2) fun _=>h2
 have h3:Ok (if decide (x.f_Op≥59)=true then (if decide (x.f_Op≤66)=true then ((Z9q p v0.1.f_A).bind fun v4=>if (!v4)=true then some 13 else Z79 v0 p x) else Z79 v0 p x) else Z79 v0 p x) (fun _=>True):=
  brD (fun _=>brD (fun _=>bd (Zrf hp hS _) fun _ _=>br! (fun _=>ok trivial) fun _=>h1) fun _=>h1) fun _=>h1
 exact bd (Zzw _) fun v1 g1=>bd (has_ok _ _ (by omega)) fun _ _=>br! (fun _=>ok trivial) fun _=>brE (fun _=>bd (Zrf hp hS _) fun _ _=>br! (fun _=>ok trivial) fun _=>h3) fun _=>h3
theorem Y8z (c:Z0b) (x:Z02) (hx:Z34 x):Ok (Zkw p c x) (fun e=>e=0→Z5z x=some 0∧Z4s x):=by
 unfold Zkw
 refine bdE (Zfa x hx) fun v0 e0 h0=>brN (fun h=>ok fun h'=>absurd h' h) fun h=>?_
 have hc:=h0 h
 rw [h] at e0
 rw [Y4j x hc]
 have hj:∀ v7,Ok (Zc2 v7 p x) (fun e=>e=0→Z5z x=some 0∧Z4s x):=fun v7=>by
  unfold Zc2
  exact brE (fun _=>bd (Y7d hp hS x) fun _ _=>ok fun _=>⟨e0,hc⟩) fun _=>ok fun _=>⟨e0,hc⟩
 have hf:(tgt x).length≤65:=by
  have:=hc.tosL
  unfold tgt; split <;> simp; omega
 refine bs (bd (P:=fun q:Unit⊕Int=>match q with|.inl _=>True|.inr e=>e≠0) (li (tgt x).length (fun t h0 h1=>?_) (by omega) (by omega) (by omega)) fun q hq=>?_)
 ·unfold Zt7
  exact brD (fun _=>bd gr fun _ _=>brD (fun _=>di (by simp)) fun _=>bd gr fun _ _=>brD (fun _=>di (by simp)) fun _=>bd wr fun _ _=>ni (by omega) (by omega)) fun _=>di trivial
 ·cases q with
  | inr e=>exact ok fun h=>absurd h hq
  | inl _=>exact bd (Zgk _) fun v7 _=>brE (fun _=>brD (fun _=>ok (by simp)) fun _=>hj _) fun _=>brE (fun _=>brD (fun _=>ok (by simp)) fun _=>hj _) fun _=>hj _
def Zf3 (n:Int) (h:Z0o):Prop:=0≤h.Z66∧h.Z66<h.f_To∧h.f_To≤n∧0≤h.Z69∧h.Z69<n
theorem row9_ok (n:Int) (h:Z0o):Ok (Zk5 p n h) (fun b=>b=true→Zf3 n h):=by
 unfold Zk5
 have z:Ok (some false) (fun b=>b=true→Zf3 n h):=ok fun h=>by cases h
 exact brD (fun h1=>brD (fun h2=>brD (fun h3=>brD (fun h4=>brD (fun h5=>br (fun _=>brE (fun _=>ok fun _=>⟨by omega,h2,h3,by omega,h5⟩) fun _=>bd (Zrf hp hS _) fun _ _=>ok fun _=>⟨by omega,h2,h3,by omega,h5⟩) fun _=>z) fun _=>z) fun _=>z) fun _=>z) fun _=>z) fun _=>z
theorem Zpg (i:Int) (b:Bool):Ok (Zcy p i b) (fun _=>True):=by
 unfold Zcy
 exact bd (Z5e p i (by omega)) fun v hv=>brN (fun _=>ok trivial) fun _=>bd (Ze5 _ (by have:=Zbw hS hv; unfold Str; omega)) fun _ _=>brN (fun _=>ok trivial) fun _=>brD (fun _=>ok trivial) fun _=>ok trivial
def VOk (n:Int) (v:Z0k):Prop:=v.Z1d=5→0≤v.Z3w∧v.Z3w<n
theorem Y75 (c:Z0b) (v:Z0k):Ok (Zn4 p c v) (fun b=>b=true→VOk c.Z0l.length v):=by
 unfold Zn4 Zt9 Zor
 have z:Ok (some false) (fun b=>b=true→VOk c.Z0l.length v):=ok fun h=>by cases h
 have y:∀ b,v.Z1d≠5→Ok (some b) (fun b=>b=true→VOk c.Z0l.length v):=fun b h=>ok fun _ h'=>absurd h' h
 refine br! (fun _=>z) fun _=>brE (fun h=>brE (fun _=>y _ (by omega)) fun _=>z) fun _=>brE (fun h=>brE (fun _=>y _ (by omega)) fun _=>z) fun _=>brE (fun h=>brE (fun _=>y _ (by omega)) fun _=>z) fun _=>brE (fun h=>brE (fun _=>y _ (by omega)) fun _=>z) fun _=>?_
 refine brE (fun h=>brE (fun _=>bd (Zpg hp hS _ _) fun _ _=>y _ (by omega)) fun _=>z) fun _=>brE (fun h=>brE (fun _=>bd (Zpg hp hS _ _) fun _ _=>y _ (by omega)) fun _=>z) fun _=>brE (fun h=>brD (fun h1=>brD (fun h2=>bd gr fun _ _=>brE (fun _=>bd (Zpg hp hS _ _) fun _ _=>ok fun _ _=>⟨by omega,h2⟩) fun _=>z) fun _=>z) fun _=>z) fun _=>z
theorem Zzl (c:Z0b) (l:List Z0k) (hl:l.length≤140737488355328):Ok (Zf7 p c l) (fun b=>b=true→∀ v∈l,VOk c.Z0l.length v):=by
 unfold Zf7
 refine bd (P:=fun q:Unit⊕Bool=>match q with|.inl _=>∀ v∈l,VOk c.Z0l.length v|.inr b=>b=false) (Z75 (P:=VOk c.Z0l.length) hl (fun t h0 h1 v hv hm hg=>?_) fun t h0 h1 ha=>?_) fun q hq=>?_
 ·unfold Zih
  rw [hg]
  exact brD (fun _=>bs (bd (Y75 hp hS c v) fun b hb=>br! (fun _=>ok rfl) fun h=>bd wr fun w hw=>ok ⟨hw,hb h⟩)) fun h=>absurd h1 h
 ·unfold Zih
  exact brD (fun h=>absurd h (by omega)) fun _=>ok ha
 ·cases q with
  | inl _=>exact ok fun _=>hq
  | inr b=>exact ok fun h=>by cases hq.symm.trans h
def Zbc (n:Int) (m:Z0p):Prop:=0≤m.Z2o∧m.Z2o<n∧(∀ v∈m.Z1o.Z0d,VOk n v)∧(∀ v∈m.Z1o.Z0i,VOk n v)∧m.Z1o.Z0d.length≤32∧m.Z1o.Z0i.length≤32
theorem Y5s (c:Z0b) (hc:CPre c) (hL:c.Z0d≤32) (hT:c.Z0i≤32) (i:Int) (h0:0≤i) (h1:i<c.Z1p.length) (m:Z0p) (hg:Z01 c.Z1p i=some m) (hm:m∈c.Z1p):Ok (Zh5 p c i) (fun b=>b=true→Zbc c.Z0l.length m):=by
 have:=hc.mapL
 have z:Ok (some false) (fun b=>b=true→Zbc c.Z0l.length m):=ok fun h=>by cases h
 unfold Zh5
 rw [hg]
 refine bs (brD (fun _=>z) fun g0=>brD (fun _=>z) fun g1=>?_)
 have hj:(m.Z1o.Z0d.length:Int)≤c.Z0d→(m.Z1o.Z0i.length:Int)≤c.Z0i→Ok (Zc8 m p c) (fun b=>b=true→Zbc c.Z0l.length m):=fun q1 q2=>by
  unfold Zc8
  exact bd (Zzl hp hS c _ (hc.frm m hm).1) fun b hb=>br (fun h=>bd (Zzl hp hS c _ (hc.frm m hm).2) fun b' hb'=>ok fun h'=>⟨by omega,by omega,hb h,hb' h',by omega,by omega⟩) fun _=>z
 have hk:Ok (if decide ((m.Z1o.Z0d.length:Int)>c.Z0d)=true then some false else if decide ((m.Z1o.Z0i.length:Int)>c.Z0i)=true then some false else Zc8 m p c) (fun b=>b=true→Zbc c.Z0l.length m):=brD (fun _=>z) fun q1=>brD (fun _=>z) fun q2=>hj (by omega) (by omega)
 exact brD (fun _=>bd wr fun v1 e1=>bd gr fun v2 _=>brD (fun _=>z) fun _=>hk) fun _=>hk
def LinOk (n:Int) (x:Z18):Prop:=0≤x.Z2o∧x.Z2o<n
structure Zxt (c:Z0b):Prop where
 hnd:∀ h∈c.Z23,Zf3 c.Z0l.length h
 map:∀ m∈c.Z1p,Zbc c.Z0l.length m
 lin:∀ x∈c.Z1r,LinOk c.Z0l.length x
theorem Y9q (c:Z0b) (hc:CPre c) (hL:c.Z0d≤32) (hT:c.Z0i≤32):Ok (Zl1 p c) (fun r=>r.2=0→Zxt c):=by
 have g1:=hc.hndL; have g2:=hc.mapL; have g3:=hc.linL
 unfold Zl1
 refine brD (fun _=>ok (by simp)) fun _=>bd (P:=fun q:Unit⊕(Int×Int)=>match q with|.inl _=>∀ h∈c.Z23,Zf3 c.Z0l.length h|.inr y=>y.2≠0) (Z75 (P:=Zf3 c.Z0l.length) g1 (fun t h0 h1 v hv hm hg=>?_) fun t h0 h1 ha=>?_) fun q1 hq1=>?_
 ·unfold Zj8
  rw [hg]
  exact brD (fun _=>bs (bd (row9_ok hp hS _ v) fun b hb=>br! (fun _=>ok (by simp)) fun h=>bd wr fun w hw=>ok ⟨hw,hb h⟩)) fun h=>absurd h1 h
 ·unfold Zj8
  exact brD (fun h=>absurd h (by omega)) fun _=>ok ha
 cases q1 with
 | inr y=>exact ok fun h=>absurd h hq1
 | inl _=>
 refine bd (P:=fun q:Unit⊕(Int×Int)=>match q with|.inl _=>∀ m∈c.Z1p,Zbc c.Z0l.length m|.inr y=>y.2≠0) (Z75 (P:=Zbc c.Z0l.length) g2 (fun t h0 h1 v hv hm hg=>?_) fun t h0 h1 ha=>?_) fun q2 hq2=>?_
 ·unfold Znq
  exact brD (fun _=>bd (Y5s hp hS c hc hL hT t h0 h1 v hg hm) fun b hb=>br! (fun _=>ok (by simp)) fun h=>bd wr fun w hw=>ok ⟨hw,hb h⟩) fun h=>absurd h1 h
 ·unfold Znq
  exact brD (fun h=>absurd h (by omega)) fun _=>ok ha
 cases q2 with
 | inr y=>exact ok fun h=>absurd h hq2
 | inl _=>
 refine bd (P:=fun q:Unit⊕(Int×Int)=>match q with|.inl _=>∀ x∈c.Z1r,LinOk c.Z0l.length x|.inr y=>y.2≠0) (Z75 (P:=LinOk c.Z0l.length) g3 (fun t h0 h1 v hv hm hg=>?_) fun t h0 h1 ha=>?_) fun q3 hq3=>?_
 ·unfold Zof
  rw [hg]
  exact brD (fun _=>bs (brD (fun _=>ok (by simp)) fun k0=>brD (fun _=>ok (by simp)) fun k1=>brD (fun _=>bd wr fun w hw=>bd gr fun _ _=>brD (fun _=>ok (by simp)) fun _=>brD (fun _=>ok (by simp)) fun _=>brD (fun _=>ok (by simp)) fun _=>bd wr fun w hw=>ok ⟨hw,by omega,by omega⟩) fun _=>brD (fun _=>ok (by simp)) fun _=>brD (fun _=>ok (by simp)) fun _=>bd wr fun w hw=>ok ⟨hw,by omega,by omega⟩)) fun h=>absurd h1 h
 ·unfold Zof
  exact brD (fun h=>absurd h (by omega)) fun _=>ok ha
 cases q3 with
 | inr y=>exact ok fun h=>absurd h hq3
 | inl _=>exact ok fun _=>⟨hq1,hq2,hq3⟩
end
theorem Zxy (p:List Z00) (c:Z0b) (hp:Z17 p) (hc:CPre c):Ok (Zf8 p c) (fun r=>r.2=0→Zxt c∧∃ v,Z78 c.Z0l=some v∧v.2=0):=by
 unfold Zf8
 refine bd (head_ok p c hp hc) fun v0 h0=>brN (fun h=>ok fun h'=>absurd h' h) fun h=>?_
 obtain ⟨hS,⟨hL,hT⟩,hn1,hn2,hoff⟩:=h0 h
 have hl:=hp.len
 refine bd (P:=fun q:Unit⊕(Int×Int)=>match q with|.inl _=>∀ i∈c.Z0l,Z5z i=some 0|.inr y=>y.2≠0) (Z75 (l:=c.Z0l) (P:=fun i=>Z5z i=some 0) (by omega) (fun t h0 h1 v hv hm hg=>?_) fun t h0 h1 ha=>?_) fun q hq=>?_
 ·unfold Zky
  rw [hg]
  exact brD (fun _=>bs (bd (Y8z hl hS c v (hc.ins v hm)) fun e he=>brN (fun h=>ok h) fun h=>bd wr fun w hw=>ok ⟨hw,(he h).1⟩)) fun h=>absurd h1 h
 ·unfold Zky
  exact brD (fun h=>absurd h (by omega)) fun _=>ok ha
 ·cases q with
  | inr y=>exact ok fun h=>absurd h hq
  | inl _=>
   refine bd wr fun v6 e6=>bd gr fun v7 _=>bd (P:=fun _=>True) ?_ fun v8 _=>br! (fun _=>bd wr fun _ _=>ok (by simp)) fun _=>bd (Y9q hl hS c hc hL hT) fun r hr=>ok fun h=>⟨hr h,hoff hq⟩
   unfold Zol
   rw [Zu0]
   exact bs (br (fun _=>ok trivial) fun _=>ok trivial)
end Go.Proofs
set_option linter.unusedVariables false
namespace Go.Proofs
open Go.Den Go.Tot
theorem Y97 (p:List Z00) (c:Z0b) (hp:Z17 p) (hc:Z5j c):Ok (Zla p c) (fun r=>Str r.1):=by
 have gI:=hc.insL; have gH:=hc.hndL; have gM:=hc.mapL; have gL:=hc.linL
 unfold Zla
 refine bd (Zxy p c hp hc.pre) fun v0 h0=>brN (fun _=>ok (by simp)) fun h=>?_
 obtain ⟨hk,v,hv,hv2⟩:=h0 h
 rw [hv]
 obtain ⟨r,hr,hr2⟩:=Zs7 c.Z0l hc.ins (by omega)
 rw [hv] at hr; cases hr
 obtain ⟨hlen,hn,-⟩:=hr2.1 hv2
 refine bs (bd (enc_ok _ hc.ins (by omega)) fun v2 h2=>bd (Zf6 _ 4 (by omega)) fun v3 h3=>bd (Z5o _) fun v4 h4=>bd (Z5o _) fun v5 h5=>bd (ct (by omega)) fun v6 h6=>bd (ct (by omega)) fun v7 h7=>bd (ct (by omega)) fun v8 h8=>bd (Z5o _) fun v9 h9=>bd (ct (by omega)) fun v10 h10=>?_)
 -- the lists are short by what they hold; here their lengths in memory do
 refine bd (P:=fun r=>(r.length:Int)≤2000000+8*c.Z23.length) (lp (fun t=>t.2) c.Z23.length (fun t=>(t.1.length:Int)≤2000000+8*t.2) (fun t hI g0 g1=>?_) (by omega) (by dsimp only; omega)) fun q0 hq0=>?_
 ·unfold Zte
  refine brD (fun hlt=>bd gr fun x hx=>?_) fun _=>dn (by omega)
  obtain ⟨k1,k2,k3,k4,k5⟩:=hk.hnd x hx
  exact bd gr fun _ _=>bd (Z5o _) fun a ha=>bd (ct (by omega)) fun b hb=>bd gr fun _ _=>bd (Z5o _) fun a2 ha2=>bd (ct (by omega)) fun b2 hb2=>bd gr fun _ _=>bd (Z5o _) fun a3 ha3=>bd (ct (by omega)) fun b3 hb3=>bd (Z5o _) fun a4 ha4=>bd (ct (by omega)) fun b4 hb4=>bd wr fun w hw=>nx (by dsimp only; omega)
 refine bd (Z5o _) fun v36 h36=>bd (ct (by omega)) fun v37 h37=>?_
 refine bd (P:=fun r=>(r.length:Int)≤30000000000000+400*c.Z1p.length) (lp (fun t=>t.2) c.Z1p.length (fun t=>(t.1.length:Int)≤30000000000000+400*t.2) (fun t hI g0 g1=>?_) (by omega) (by dsimp only; omega)) fun q2 hq2=>?_
 ·unfold Zr9
  refine brD (fun hlt=>bd gr fun m hm=>?_) fun _=>dn (by omega)
  obtain ⟨k1,k2,k3,k4,k5,k6⟩:=hk.map m hm
  have hj:∀ x,Ok (Zf5 t v m x) (St (fun t=>(t.1.length:Int)≤30000000000000+400*t.2) (fun t=>t.2) c.Z1p.length (fun r=>(r.length:Int)≤30000000000000+400*c.Z1p.length) t):=fun x=>by
   unfold Zf5
   refine bd gr fun _ _=>bd (Z5o _) fun a ha=>bd (ct (by omega)) fun b hb=>bd (Ztc _) fun a2 ha2=>bd (ct (by omega)) fun b2 hb2=>bd (Zv6 _ v.1 (by omega) fun y hy h5=>?_) fun a3 ha3=>bd (ct (by omega)) fun b3 hb3=>bd (Zv6 _ v.1 (by omega) fun y hy h5=>?_) fun a4 ha4=>bd (ct (by omega)) fun b4 hb4=>bd wr fun w hw=>nx (by dsimp only; omega)
   ·have:=k3 y hy h5; omega
   ·have:=k4 y hy h5; omega
  exact br (fun _=>hj _) fun _=>hj _
 refine bd (Z5o _) fun v59 h59=>bd (ct (by omega)) fun v60 h60=>bd (P:=fun r=>(r.length:Int)≤2000000000000000+4*c.Z1r.length) (lp (fun t=>t.2) c.Z1r.length (fun t=>(t.1.length:Int)≤2000000000000000+4*t.2) (fun t hI g0 g1=>?_) (by omega) (by dsimp only; omega)) fun q4 hq4=>ok (by dsimp only; omega)
 unfold Ztp
 refine brD (fun hlt=>?_) fun _=>dn (by omega)
 obtain ⟨x,hg,hm⟩:=gr (l:=c.Z1r) (i:=t.2) (by omega) hlt
 obtain ⟨k1,k2⟩:=hk.lin x hm
 simp only [hg]
 exact bs (bd gr fun _ _=>bd (Z5o _) fun a ha=>bd (ct (by omega)) fun b hb=>bs (bd (Z5o _) fun a2 ha2=>bd (ct (by omega)) fun b2 hb2=>bd wr fun w hw=>nx (by dsimp only; omega)))
theorem Zdh (l:List Int) (x:Int) (hl:l.length≤140737488355328):Ok (Z7t l x) (fun _=>True):=by
 unfold Z7t
 refine bd (P:=fun _=>True) (li (max 0 (l.length:Int)) (fun t h0 h1=>?_) (by omega) (by omega) (by omega)) fun q _=>by cases q <;> exact ok trivial
 unfold Zr3
 exact bd wr fun v hv=>brD (fun _=>bd gr fun _ _=>br (fun _=>di trivial) fun _=>bd wr fun _ _=>ni (by omega) (by omega)) fun _=>di trivial
theorem edge_ok (l:List Int) (x:Int) (hl:l.length≤140737488355328):Ok (Zlw l x) (fun _=>True):=by
 unfold Zlw Zhw
 have hj:Ok ((Z7t l x).bind fun v3=>some v3) (fun _=>True):=bd (Zdh l x hl) fun _ _=>ok trivial
 exact brD (fun _=>bd wr fun v hv=>bd gr fun _ _=>br (fun _=>bd wr fun _ _=>ok trivial) fun _=>hj) fun _=>hj
theorem Zun (l:List Z0k) (at_:List Int) (hl:l.length≤256) (ha:at_.length≤140737488355328):Ok (Zed l at_) (fun r=>r.1.length≤256):=by
 unfold Zed
 refine bd (P:=fun q:List Z0k⊕(List Z0k×Bool)=>match q with|.inl q=>q.length≤256|.inr y=>y.1=[]) (lp (fun t=>t.1) l.length (fun t=>(t.2.length:Int)=t.1) (fun t hI g0 g1=>?_) (by omega) rfl) fun q hq=>?_
 ·unfold Zpi
  have hd:t.2.length≤256:=by omega
  have hj:∀ (v:Z0k) (p:Int),t.1<l.length→Ok (Zg9 t v p) (St (fun t=>(t.2.length:Int)=t.1) (fun t=>t.1) l.length (fun q:List Z0k⊕(List Z0k×Bool)=>match q with|.inl q=>q.length≤256|.inr y=>y.1=[]) t):=fun v p hlt=>by
   unfold Zg9
   exact bd gk fun _ _=>bd wr fun w hw=>nx (by simp only [List.length_append,List.length_cons,List.length_nil]; omega)
  exact brD (fun hlt=>bd gr fun v _=>brE (fun _=>bd (Zdh at_ _ ha) fun w _=>brD (fun _=>dn rfl) fun _=>hj _ _ hlt) fun _=>hj _ _ hlt) fun _=>dn hd
 ·cases q with
  | inl q=>exact ok hq
  | inr y=>exact ok (by rw [hq]; simp)
theorem Y4s (s:List UInt8) (k:Z47) (at_:List Int) (hk:TkOk s k) (ha:at_.length≤140737488355328):Ok (Zii k at_) (fun r=>r.2=0→r.1.Z23.length≤65536∧r.1.Z1p.length≤65536∧r.1.Z1r.length≤65536∧∀ m∈r.1.Z1p,m.Z1o.Z0d.length≤256∧m.Z1o.Z0i.length≤256):=by
 have g1:=hk.hndL; have g2:=hk.mapL; have g3:=hk.lin; have g4:=hk.raw
 unfold Zii
 refine bd (P:=fun q:List Z0o⊕(Z0b×Int)=>match q with|.inl q=>q.length≤65536|.inr y=>y.2≠0) (lp (fun t=>t.1) k.f_C.Z23.length (fun t=>(t.2.length:Int)=t.1) (fun t hI h0 h1=>?_) (by omega) rfl) fun q1 hq1=>?_
 ·unfold Zov Zqg
  have hd:t.2.length≤65536:=by omega
  exact brD (fun hlt=>bd gr fun v _=>bd (Zdh at_ _ ha) fun _ _=>bd (edge_ok at_ _ ha) fun _ _=>bd (Zdh at_ _ ha) fun _ _=>brD (fun _=>dn (by simp)) fun _=>brD (fun _=>dn (by simp)) fun _=>brD (fun _=>dn (by simp)) fun _=>bd gk fun _ _=>bd wr fun w hw=>nx (by simp only [List.length_append,List.length_cons,List.length_nil]; omega)) fun _=>dn hd
 cases q1 with
 | inr y=>exact ok fun h=>absurd h hq1
 | inl q1=>
 have hq1':q1.length≤65536:=hq1
 refine bd (P:=fun q:List Z0p⊕(Z0b×Int)=>match q with|.inl q=>q.length≤65536∧∀ m∈q,m.Z1o.Z0d.length≤256∧m.Z1o.Z0i.length≤256|.inr y=>y.2≠0) (lp (fun t=>t.1) k.f_C.Z1p.length (fun t=>(t.2.length:Int)=t.1∧∀ m∈t.2,m.Z1o.Z0d.length≤256∧m.Z1o.Z0i.length≤256) (fun t hI h0 h1=>?_) (by omega) ⟨rfl,Z4v⟩) fun q2 hq2=>?_
 ·obtain ⟨hI1,hI2⟩:=hI
  unfold Zoy Zpo
  refine brD (fun hlt=>bd gr fun v hv=>?_) fun _=>dn ⟨by omega,hI2⟩
  obtain ⟨f1,f2⟩:=hk.map v hv
  refine bd (Zdh at_ _ ha) fun _ _=>bd (Zun _ at_ f1.1 ha) fun a ha'=>bd (Zun _ at_ f2.1 ha) fun b hb'=>brD (fun _=>dn (by simp)) fun _=>br! (fun _=>dn (by simp)) fun _=>br! (fun _=>dn (by simp)) fun _=>bd gr fun _ _=>brD (fun _=>dn (by simp)) fun _=>bd gk fun _ _=>bd wr fun w hw=>nx ⟨by simp only [List.length_append,List.length_cons,List.length_nil]; omega,Z8n hI2 ⟨ha',hb'⟩⟩
 cases q2 with
 | inr y=>exact ok fun h=>absurd h hq2
 | inl q2=>
 obtain ⟨e1,e2⟩:=hq2
 refine bd (P:=fun q:List Z18⊕(Z0b×Int)=>match q with|.inl q=>q.length≤65536|.inr y=>y.2≠0) (lp (fun t=>t.1) k.f_C.Z1r.length (fun t=>(t.2.length:Int)=t.1) (fun t hI h0 h1=>?_) (by omega) rfl) fun q3 hq3=>?_
 ·unfold Zpd
  have hd:t.2.length≤65536:=by omega
  exact brD (fun hlt=>bd gr fun v _=>bd (Zdh at_ _ ha) fun _ _=>brD (fun _=>dn (by simp)) fun _=>bd gk fun _ _=>bd wr fun w hw=>nx (by simp only [List.length_append,List.length_cons,List.length_nil]; omega)) fun _=>dn hd
 cases q3 with
 | inr y=>exact ok fun h=>absurd h hq3
 | inl q3=>exact ok fun _=>⟨hq1',e1,hq3,e2⟩
theorem Y0w (p:List Z00) (s:List UInt8) (hp:Z17 p) (hs:Str s):Ok (Zkq p s) (fun _=>True):=by
 unfold Zkq
 refine bd (Y7o s hs) fun v0 h0=>br (fun _=>ok trivial) fun _=>bd (dec_ok _) fun v1 h1=>brN (fun _=>ok trivial) fun h=>?_
 obtain ⟨k1,k2⟩:=h1 h
 refine bd (Zs7 v1.1 (fun i hi=>(k1 i hi).w) (by omega)) fun v2 h2=>brN (fun _=>ok trivial) fun _=>bd (Y4s s v0.1 v2.1 h0 (by have:=h2.2; omega)) fun v3 h3=>brN (fun _=>ok trivial) fun h=>?_
 obtain ⟨e1,e2,e3,e4⟩:=h3 h
 exact brN (fun _=>ok trivial) fun _=>bd (Zxy p _ hp ⟨fun i hi=>(k1 i hi).w,by dsimp only; omega,by dsimp only; omega,by dsimp only; omega,by dsimp only; omega,fun m hm=>by have:=e4 m hm; dsimp only at *; omega⟩) fun v4 _=>brN (fun _=>ok trivial) fun _=>ok trivial
theorem Y5r (s:List UInt8) (hs:Str s):Ok (Zk0 s) (fun r=>r.1.length≤65536):=by
 unfold Zk0
 refine bd (Z4n s _ 2 (by omega) hs ⟨rfl,by dsimp only; omega,by dsimp only; omega⟩) fun v0 h0=>bd (P:=RdT s 65536 fun _=>True) (rdL (n:=v0.1) ⟨h0.1.1,h0.1.2.2.1 rfl⟩ h0.2 fun t hI g0 g1 hd=>?_) fun q hq=>br (fun _=>ok (by simp)) fun _=>brN (fun _=>ok (by simp)) fun _=>bd (Zxc _) fun _ _=>brN (fun _=>ok (by simp)) fun _=>ok hq.2.1
 have hl:=hI.2.1
 have:=h0.1.2.2.1 rfl
 unfold Zrh
 refine brD (fun hlt=>br! (fun _=>?_) fun _=>dn hd) fun _=>dn hd
 unfold Zrb
 exact bd (Z4n s _ 2 (by omega) hs hI.1) fun v1 h1=>bd gk fun _ _=>bd wr fun _ hv=>nx ⟨h1.2,by simp only [List.length_append,List.length_cons,List.length_nil]; omega,Z8n hI.2.2 trivial⟩
end Go.Proofs
set_option linter.unusedVariables false
namespace Go.Proofs
open Go.Den Go.Tot
section
variable {p:List Z00} (hp:p.length≤1000)
include hp
theorem Zu2 (a:Z1g) (s:List UInt8):Ok (Zcr p a s) (fun _=>True):=by
 unfold Zcr
 exact bd (Z5e p _ (by omega)) fun _ _=>brE (fun _=>ok trivial) fun _=>ok trivial
theorem Zwi (l:List Z0g) (i:Int) (hl:l.length≤140737488355328) (h0:0≤i) (h1:i<l.length):Ok (Zdu p l i) (fun _=>True):=by
 unfold Zdu
 refine bd (gr h0 h1) fun _ _=>bd (Z5e p _ (by omega)) fun v1 _=>bd (gr h0 h1) fun _ _=>bd (Z5e p _ (by omega)) fun v3 _=>bd (P:=fun _=>True) (li i (fun t g0 g1=>?_) (by omega) (by omega) (by omega)) fun q _=>by cases q <;> exact ok trivial
 unfold Zsp
 exact brD (fun _=>bd gr fun _ _=>bd (Z5e p _ (by omega)) fun _ _=>bd gr fun _ _=>bd (Z5e p _ (by omega)) fun _ _=>br (fun _=>br (fun _=>di trivial) fun _=>bd wr fun _ _=>ni (by omega) (by omega)) fun _=>bd wr fun _ _=>ni (by omega) (by omega)) fun _=>di trivial
theorem Y84 (i:Int) (d:List UInt8):Ok (Zha p i d) (fun _=>True):=by
 unfold Zha
 refine bd (Zg7 p i (by omega)) fun v _=>brN (fun _=>ok trivial) fun _=>?_
 repeat' first
  | exact ok trivial
  | with_reducible refine br (fun _=>?_) fun _=>?_
theorem Y95 (m:Z0g) (d:List UInt8) (hm:∀ a∈m.Z1x,Str a.Z2y):Ok (Zm0 p m d) (fun _=>True):=by
 unfold Zm0 Zq2
 refine brE (fun _=>ok trivial) fun _=>bd gr fun a ha=>brD (fun _=>ok trivial) fun _=>bs (br (fun _=>ok trivial) fun _=>bd (Zu2 hp _ _) fun _ _=>br! (fun _=>ok trivial) fun _=>brN (fun _=>ok trivial) fun _=>bd (Zgw _ 0 2 (by omega) (hm a ha)) fun _ _=>bd (Y84 hp _ _) fun _ _=>ok trivial)
theorem Zze (l:List Z1g) (s:List UInt8) (hl:l.length≤140737488355328) (ha:∀ a∈l,Str a.Z2y):Ok (Zgj p l s) (fun r=>Str r.1∧0≤r.2∧r.2≤l.length):=by
 unfold Zgj
 refine bd (P:=fun q:List UInt8×Int=>Str q.1∧0≤q.2∧q.2≤(l.length:Int)) (lp (fun t=>t.2.2) l.length (fun t=>Str t.1∧0≤t.2.1∧t.2.1≤t.2.2) (fun t hI h0 h1=>?_) (by omega) ⟨by simp,by dsimp only; omega,by dsimp only; omega⟩) fun q hq=>ok hq
 obtain ⟨hI1,hI2,hI3⟩:=hI
 unfold Zty
 exact brD (fun hlt=>bd gr fun a _=>bd (Zu2 hp _ _) fun _ _=>br (fun _=>bd gr fun b hb=>bd wr fun _ _=>bd wr fun _ _=>nx ⟨ha b hb,by dsimp only; omega,by dsimp only; omega⟩) fun _=>bd wr fun _ _=>nx ⟨hI1,by dsimp only; omega,by dsimp only; omega⟩) fun _=>dn ⟨hI1,by dsimp only; omega,by dsimp only; omega⟩
variable (hS:PS p 1024)
include hS
theorem Zgf (i:Int):Ok (Za9 p i) (fun _=>True):=by
 unfold Za9 Zs2
 exact brD (fun _=>ok trivial) fun _=>brD (fun _=>ok trivial) fun _=>bd (Zra p i (by omega) hS) fun v hv=>brN (fun _=>ok trivial) fun _=>brE (fun _=>ok trivial) fun _=>bd gs fun _ _=>brE (fun _=>ok trivial) fun _=>ok trivial
theorem Y1q (l:List Int) (s:List UInt8) (hl:l.length≤140737488355328):Ok (Ze3 p l s) (fun _=>True):=by
 unfold Ze3
 refine bd (P:=fun _=>True) (li l.length (fun t h0 h1=>?_) (by omega) (by omega) (by omega)) fun q _=>by cases q <;> exact ok trivial
 unfold Zrm
 exact brD (fun _=>bd gr fun _ _=>bd (Zgf hp hS _) fun _ _=>brE (fun _=>br (fun _=>di trivial) fun _=>bd wr fun _ _=>ni (by omega) (by omega)) fun _=>bd wr fun _ _=>ni (by omega) (by omega)) fun _=>di trivial
end
theorem Y7k (x y:Int):Ok (Zac x y) (fun _=>True):=bs (ok trivial)
theorem Zwo (x y:Int):Ok (Zap x y) (fun _=>True):=by
 unfold Zap
 exact brD (fun _=>bs (ok trivial)) fun _=>ok trivial
theorem Y5p (x:Int):Ok (Zdp x) (fun _=>True):=by
 unfold Zdp Zmj Zid
 have h:∀ n:Int,Ok ((some (Z3b .i64 x (4:Int))).bind fun v3=>if (v3 !=0)=true then ((some (IntKind.wrap .i64 (n+(1:Int)))).bind fun v4=>some (decide (v4≤1))) else (some (decide (n≤1)))) (fun _=>True):=fun n=>bs (br (fun _=>bs (ok trivial)) fun _=>ok trivial)
 have h1:∀ n:Int,Ok ((some (Z3b .i64 x (2:Int))).bind fun v1=>if (v1 !=0)=true then ((some (IntKind.wrap .i64 (n+(1:Int)))).bind fun v2=>(some (Z3b .i64 x (4:Int))).bind fun v3=>if (v3 !=0)=true then ((some (IntKind.wrap .i64 (v2+(1:Int)))).bind fun v4=>some (decide (v4≤1))) else (some (decide (v2≤1)))) else ((some (Z3b .i64 x (4:Int))).bind fun v3=>if (v3 !=0)=true then ((some (IntKind.wrap .i64 (n+(1:Int)))).bind fun v4=>some (decide (v4≤1))) else (some (decide (n≤1))))) (fun _=>True):=fun n=>bs (br (fun _=>bs (h _)) fun _=>h _)
 exact bs (br (fun _=>h1 1) fun _=>h1 0)
theorem Zrd (s:List UInt8) (x:Int):Ok (Zaj s x) (fun _=>True):=by
 unfold Zaj Zch Zd8
 repeat' first
  | exact ok trivial
  | with_reducible refine br (fun _=>?_) fun _=>?_
  | with_reducible refine bd (Y7k _ _) fun _ _=>?_
  | with_reducible refine bd (Zwo _ _) fun _ _=>?_
  | with_reducible refine bd (Y5p _) fun _ _=>?_
  | with_reducible refine bs ?_
structure Z8t (f:Z1b):Prop where
 pool:Z17 f.Z2q
 ifsL:f.Z16.length≤140737488355328
 fldL:f.Z15.length≤140737488355328
 metL:f.Z14.length≤140737488355328
 attL:f.Z1x.length≤140737488355328
 att:∀ a∈f.Z1x,Str a.Z2y
 mem:∀ m,m∈f.Z15∨m∈f.Z14→m.Z1x.length≤140737488355328∧∀ a∈m.Z1x,Str a.Z2y
def FewF (f:Z1b):Prop:=f.Z16.length≤8∧f.Z15.length≤64∧f.Z14.length≤64
theorem Y7z (f:Z1b) (hf:Z8t f):Ok (Zmg f) (fun b=>b=false→FewF f):=by
 have g1:=hf.fldL; have g2:=hf.metL
 unfold Zmg Zpb
 refine brD (fun _=>ok (by simp)) fun _=>brD (fun _=>ok (by simp)) fun _=>brD (fun _=>ok (by simp)) fun _=>brD (fun _=>ok (by simp)) fun _=>?_
 have hd:FewF f:=⟨by omega,by omega,by omega⟩
 refine bd (P:=fun _=>True) (li f.Z15.length (fun t h0 h1=>?_) (by omega) (by omega) (by omega)) fun q _=>?_
 ·unfold Zqv
  exact brD (fun _=>bd gr fun _ _=>brD (fun _=>di trivial) fun _=>bd wr fun _ _=>ni (by omega) (by omega)) fun _=>di trivial
 cases q with
 | inr _=>exact ok fun _=>hd
 | inl _=>
  refine bd (P:=fun _=>True) (li f.Z14.length (fun t h0 h1=>?_) (by omega) (by omega) (by omega)) fun q _=>by cases q <;> exact ok fun _=>hd
  unfold Zqs
  exact brD (fun _=>bd gr fun _ _=>brD (fun _=>di trivial) fun _=>bd wr fun _ _=>ni (by omega) (by omega)) fun _=>di trivial
theorem Y50 (f:Z1b) (hf:Z8t f) (hS:PS f.Z2q 1024):Ok (Zj3 f) (fun e=>e=0→FewF f):=by
 have hp:=hf.pool.len
 have hi:=hf.ifsL
 have h3:∀ a (v:List UInt8×Int),Ok (Zfm a v f) (fun e=>e=0→FewF f):=fun a v=>by
  unfold Zfm
  exact bd (Y7z f hf) fun b hb=>br (fun _=>ok (by simp)) fun h=>br (fun _=>ok (by simp)) fun _=>bd (Y1q hp hS _ _ hi) fun _ _=>br (fun _=>ok (by simp)) fun _=>ok fun _=>hb h
 have h2:∀ (v:List UInt8×Int) a,Ok (Zg2 v f a) (fun e=>e=0→FewF f):=fun v a=>by
  unfold Zg2
  exact bd (Zrd _ _) fun _ _=>br! (fun _=>ok (by simp)) fun _=>br (fun _=>ok (by simp)) fun _=>bs (br (fun _=>br (fun _=>ok (by simp)) fun _=>h3 _ _) fun _=>h3 _ _)
 have h1:Ok (Zem f) (fun e=>e=0→FewF f):=by
  unfold Zem
  exact bd (Zgf hp hS _) fun v _=>brN (fun h=>ok fun h'=>absurd h' h) fun _=>brN (fun _=>bd (Zgf hp hS _) fun w _=>brN (fun h=>ok fun h'=>absurd h' h) fun _=>h2 _ _) fun _=>h2 _ _
 have hpl:∀ i,Ok (Zfi f.Z2q i) (fun _=>True):=fun i=>by
  unfold Zfi
  exact brD (fun _=>ok trivial) fun _=>ok trivial
 unfold Zj3
 exact bd (hpl _) fun _ _=>br! (fun _=>ok (by simp)) fun _=>brN (fun _=>bd (hpl _) fun _ _=>br! (fun _=>ok (by simp)) fun _=>h1) fun _=>h1
theorem Y5k (f:Z1b) (hf:Z8t f) (hS:PS f.Z2q 1024) (i:Int) (h0:0≤i) (h1:i<f.Z16.length):Ok (Zi2 f i) (fun _=>True):=by
 have:=hf.ifsL
 unfold Zi2
 exact bd (gr h0 h1) fun _ _=>bd (Zgf hf.pool.len hS _) fun _ _=>brN (fun _=>ok trivial) fun _=>bd (sb (by omega) (by omega) (by omega)) fun r hr=>bd (Y1q hf.pool.len hS r _ (by have:=hr.1; omega)) fun _ _=>br (fun _=>ok trivial) fun _=>ok trivial
theorem Y8m (f:Z1b) (hf:Z8t f) (hS:PS f.Z2q 1024) (i:Int) (h0:0≤i) (h1:i<f.Z15.length):Ok (Zo1 f i) (fun _=>True):=by
 have hp:=hf.pool.len
 have hl:f.Z2q.length≤140737488355328:=by omega
 unfold Zo1
 refine bd (gr h0 h1) fun m hm=>bd (Z5e _ _ hl) fun v1 e1=>brN (fun _=>ok trivial) fun _=>bd (Zqt _ (by have:=Zbw hS e1; unfold Str; omega)) fun b hb=>br! (fun _=>ok trivial) fun h=>?_
 have hpos:=hb h
 refine bd gs fun _ _=>br (fun _=>ok trivial) fun _=>?_
 have h3:∀ v4 w,Ok (Zgq m v4 f i w) (fun _=>True):=fun v4 w=>by
  unfold Zgq
  exact bd (Zrd _ _) fun _ _=>br! (fun _=>ok trivial) fun _=>bd (Zwi hp _ i hf.fldL h0 h1) fun _ _=>br (fun _=>ok trivial) fun _=>bd (Y95 hp m _ (hf.mem m (.inl hm)).2) fun _ _=>br! (fun _=>ok trivial) fun _=>ok trivial
 unfold Zrw Zt6
 exact bd (Z5e _ _ hl) fun v4 e4=>brN (fun _=>ok trivial) fun _=>bd (Ze5 _ (by have:=Zbw hS e4; unfold Str; omega)) fun _ _=>brN (fun _=>ok trivial) fun _=>br (fun _=>ok trivial) fun _=>bs (br (fun _=>h3 _ _) fun _=>h3 _ _)
theorem Y9c (f:Z1b) (hf:Z8t f) (hS:PS f.Z2q 1024) (m:Z0g):Ok (Zjf f m) (fun r=>r.2.1.Z65.length≤1048576):=by
 have hl:f.Z2q.length≤140737488355328:=by have:=hf.pool.len; omega
 have h1:∀ v0,Ok (Zf0 v0 f m) (fun r=>r.2.1.Z65.length≤1048576):=fun v0=>by
  unfold Zf0
  refine bd (Z5e _ _ hl) fun v3 e3=>brN (fun _=>ok (by simp)) fun _=>bd (Zrv _ (by have:=Zbw hS e3; omega)) fun v4 e4=>brN (fun _=>ok (by simp)) fun _=>?_
  repeat' first
   | exact ok e4
   | exact ok (by simp)
   | with_reducible refine br (fun _=>?_) fun _=>?_
 unfold Zjf
 exact bd (Z5e _ _ hl) fun v0 e0=>brN (fun _=>ok (by simp)) fun _=>bd (Zqt _ (by have:=Zbw hS e0; unfold Str; omega)) fun _ _=>br! (fun _=>ok (by simp)) fun _=>br (fun _=>bs (br (fun _=>ok (by simp)) fun _=>h1 _)) fun _=>h1 _
theorem Y5e (f:Z1b) (m:Z0g) (s:List UInt8):Ok (Zli f m s) (fun _=>True):=by
 unfold Zli Zk1
 repeat' first
  | exact ok trivial
  | with_reducible refine br (fun _=>?_) fun _=>?_
  | with_reducible refine bd (Zrd _ _) fun _ _=>?_
  | with_reducible refine bd (Zwo _ _) fun _ _=>?_
  | with_reducible refine bs ?_
theorem Y89 (f:Z1b) (hf:Z8t f) (hS:PS f.Z2q 1024) (m:Z0g) (hm:m.Z1x.length≤140737488355328∧∀ a∈m.Z1x,Str a.Z2y) (g:Z27) (hg:g.Z65.length≤1048576):Ok (Zi0 f.Z2q m g) (fun _=>True):=by
 have hp:=hf.pool.len
 unfold Zi0
 refine bd (Zze hp _ _ hm.1 hm.2) fun v0 e0=>bd (Zze hp _ _ hm.1 hm.2) fun v1 e1=>bs (brD (fun _=>ok trivial) fun _=>brD (fun _=>ok trivial) fun _=>bd wr fun _ _=>brN (fun _=>ok trivial) fun _=>br (fun _=>ok trivial) fun _=>?_)
 have h4:∀ a b,Ok (Zgs a b) (fun _=>True):=fun a b=>by
  unfold Zgs
  exact brD (fun _=>ok trivial) fun _=>ok trivial
 have h3:∀ a b,Ok (Zfv a v1 f.Z2q b) (fun _=>True):=fun a b=>by
  unfold Zfv
  refine brD (fun _=>bd (Y5r _ e1.1) fun v7 e7=>brN (fun _=>ok trivial) fun _=>bd (P:=fun _=>True) (li v7.1.length (fun t h0 h1=>?_) (by omega) (by omega) (by omega)) fun q _=>?_) fun _=>h4 _ _
  ·unfold Zqh
   exact brD (fun _=>bd gr fun _ _=>bd (Zgf hp hS _) fun _ _=>brN (fun _=>di trivial) fun _=>bd wr fun _ _=>ni (by omega) (by omega)) fun _=>di trivial
  ·cases q with
   | inl _=>exact h4 _ _
   | inr _=>exact ok trivial
 unfold Zr6 Zmz
 exact bs (br (fun _=>bd wr fun _ _=>br (fun _=>bd (Y0w _ _ hf.pool e0.1) fun _ _=>brN (fun _=>ok trivial) fun _=>h3 _ _) fun _=>h3 _ _) fun _=>br (fun _=>bd (Y0w _ _ hf.pool e0.1) fun _ _=>brN (fun _=>ok trivial) fun _=>h3 _ _) fun _=>h3 _ _)
theorem Y5m (f:Z1b) (hf:Z8t f) (hS:PS f.Z2q 1024) (i:Int) (h0:0≤i) (h1:i<f.Z14.length):Ok (Zip f i) (fun _=>True):=by
 unfold Zip
 exact bd (gr h0 h1) fun m hm=>bd (Y9c f hf hS m) fun v1 e1=>brN (fun _=>ok trivial) fun _=>bd (Y5e _ _ _) fun _ _=>br! (fun _=>ok trivial) fun _=>bd (Zwi hf.pool.len _ i hf.metL h0 h1) fun _ _=>br (fun _=>ok trivial) fun _=>bd (Y89 f hf hS m (hf.mem m (.inr hm)) _ e1) fun _ _=>ok trivial
theorem Y5l (f:Z1b) (hf:Z8t f) (hS:PS f.Z2q 1024):Ok (Zjl f) (fun _=>True):=by
 unfold Zjl Zq3
 exact brE (fun _=>ok trivial) fun _=>bd gr fun a ha=>brD (fun _=>ok trivial) fun _=>bd (Zu2 hf.pool.len _ _) fun _ _=>br! (fun _=>ok trivial) fun _=>brN (fun _=>ok trivial) fun _=>bd (Zgw _ 0 2 (by omega) (hf.att a ha)) fun _ _=>bd (Z5e _ _ (by have:=hf.pool.len; omega)) fun _ _=>ok trivial
theorem Zuf (s:List UInt8) (n:Int) (hs:s.length≤1000) (h0:0≤n) (h1:n<100):Ok (Zct s n) (fun _=>True):=by
 unfold Zct
 have h10:∀ a:Int,0≤a→a<10→Ok (sub ([48,49,50,51,52,53,54,55,56,57]:List UInt8) a (a+1)) (fun r=>r.length≤1):=fun a ha hb=>(sb ha (by omega) (by simp; omega)).mono fun r hr=>by have:=hr.1; omega
 refine brD (fun _=>bd (ct (by simp; omega)) fun v0 e0=>bd wr fun v1 e1=>?_) fun _=>bd (ct (by simp; omega)) fun v4 e4=>?_
 ·rw [e1]
  exact bd (h10 n h0 (by omega)) fun v2 e2=>bd (ct (by have:=e0.2; simp at this; omega)) fun _ _=>ok trivial
 ·have hd:divK .i64 n 10=some (n / 10):=by
   unfold divK
   rw [if_pos (by decide)]
   congr 1
   rw [Int.tdiv_eq_ediv_of_nonneg h0]
   exact Zal (by omega) (by omega)
  have hm:modK n 10=some (n % 10):=by
   unfold modK
   rw [if_pos (by decide)]
   congr 1
   exact Int.tmod_eq_emod_of_nonneg h0
  rw [hd,hm]
  refine bs (bs (bd wr fun v7 e7=>?_))
  rw [e7]
  refine bd (h10 _ (by omega) (by omega)) fun v8 e8=>bd (ct (by have:=e4.2; simp at this; omega)) fun v9 e9=>bs (bs (bd wr fun v12 e12=>?_))
  rw [e12]
  exact bd (h10 _ (by omega) (by omega)) fun v13 e13=>bd (ct (by have:=e4.2; have:=e9.2; simp at *; omega)) fun _ _=>ok trivial
theorem Y5a (f:Z1b) (hf:Z8t f):Ok (Zi7 f) (fun r=>r.2=0→FewF f):=by
 unfold Zi7
 refine bd (Y0i _ hf.pool) fun v0 h0=>brN (fun h=>ok fun h'=>absurd h' h) fun h=>?_
 have hS:=h0 h
 refine bd (Y50 f hf hS) fun v1 h1=>brN (fun h=>ok fun h'=>absurd h' h) fun h=>?_
 have hF:=h1 h
 have k1:=hF.1; have k2:=hF.2.1; have k3:=hF.2.2
 refine bd (P:=fun _=>True) (li f.Z16.length (fun t h0 h1=>?_) (by omega) (by omega) (by omega)) fun q _=>?_
 ·unfold Ztt
  exact brD (fun hlt=>bd (Y5k f hf hS t h0 hlt) fun _ _=>brN (fun _=>bd (Zuf _ t (by simp) h0 (by omega)) fun _ _=>di trivial) fun _=>bd wr fun _ _=>ni (by omega) (by omega)) fun _=>di trivial
 cases q with
 | inr _=>exact ok fun _=>hF
 | inl _=>
 refine bd (P:=fun _=>True) (li f.Z15.length (fun t h0 h1=>?_) (by omega) (by omega) (by omega)) fun q _=>?_
 ·unfold Zqm
  exact brD (fun hlt=>bd (Y8m f hf hS t h0 hlt) fun _ _=>brN (fun _=>bd (Zuf _ t (by simp) h0 (by omega)) fun _ _=>di trivial) fun _=>bd wr fun _ _=>ni (by omega) (by omega)) fun _=>di trivial
 cases q with
 | inr _=>exact ok fun _=>hF
 | inl _=>
 refine bd (P:=fun _=>True) (li f.Z14.length (fun t h0 h1=>?_) (by omega) (by omega) (by omega)) fun q _=>?_
 ·unfold Zpz
  exact brD (fun hlt=>bd (Y5m f hf hS t h0 hlt) fun _ _=>brN (fun _=>bd (Zuf _ t (by simp) h0 (by omega)) fun _ _=>di trivial) fun _=>bd wr fun _ _=>ni (by omega) (by omega)) fun _=>di trivial
 cases q with
 | inr _=>exact ok fun _=>hF
 | inl _=>exact bd (Y5l f hf hS) fun _ _=>br! (fun _=>ok fun _=>hF) fun _=>ok fun _=>hF
end Go.Proofs
set_option linter.unusedVariables false
namespace Go.Proofs
open Go.Den Go.Tot
def FewM (u:Z0y):Prop:=u.Z16.length≤8∧u.Z15.length≤64∧u.Z14.length≤64
theorem Y8u (u:Z0y) (hu:Z5p u):Ok (Zi9 u) (fun r=>r.2=0→FewM u):=by
 have gm:=hu.metL
 unfold Zi9
 refine bd (Ya6 u hu) fun _ _=>br! (fun _=>ok (by simp)) fun _=>bd (Yab _ u Z17.nil hu) fun v1 h1=>brN (fun h=>ok fun h'=>absurd h' h) fun _=>?_
 have hm:=h1.fam.m; have hc:=h1.fam.c; have ht:=h1.fam.t; have hs:=h1.fam.s
 refine bd (P:=fun q:List (List UInt8)⊕(Z1b×Int)=>match q with|.inl q=>(q.length:Int)=u.Z14.length∧∀ s∈q,Str s|.inr y=>y.2≠0) (lp (fun t=>t.1) u.Z14.length (fun t=>(t.2.length:Int)=t.1∧∀ s∈t.2,Str s) (fun t hI h0 h1'=>?_) (by omega) ⟨rfl,Z4v⟩) fun q1 hq1=>?_
 ·obtain ⟨hI1,hI2⟩:=hI
  unfold Zs1
  have hj:t.1<u.Z14.length→∀ s e,Str s→Ok (Ze8 t s e) (St (fun t=>(t.2.length:Int)=t.1∧∀ s∈t.2,Str s) (fun t=>t.1) u.Z14.length (fun q:List (List UInt8)⊕(Z1b×Int)=>match q with|.inl q=>(q.length:Int)=u.Z14.length∧∀ s∈q,Str s|.inr y=>y.2≠0) t):=fun hlt s e hs'=>by
   unfold Ze8
   exact brN (fun h=>dn h) fun _=>bd gk fun _ _=>bd wr fun _ hv=>nx ⟨by simp only [List.length_append,List.length_cons,List.length_nil]; omega,Z72 hI2 hs'⟩
  exact brD (fun hlt=>bd gr fun _ _=>br (fun _=>bd gr fun c hcm=>bd (Y97 _ c h1.pool (h1.fam.code c hcm)) fun v8 h8=>hj (by omega) _ _ h8) fun _=>hj (by omega) _ _ (by simp)) fun hge=>dn ⟨by omega,hI2⟩
 cases q1 with
 | inr y=>exact ok fun h=>absurd h hq1
 | inl q0=>
 obtain ⟨k1,k2⟩:=hq1
 refine bd (P:=fun q:List Z0g⊕(Z1b×Int)=>match q with|.inl q=>(q.length:Int)=u.Z14.length∧∀ m∈q,m.Z1x.length≤2∧∀ a∈m.Z1x,Str a.Z2y|.inr y=>y.2≠0) (lp (fun t=>t.1) u.Z14.length (fun t=>(t.2.length:Int)=t.1∧∀ m∈t.2,m.Z1x.length≤2∧∀ a∈m.Z1x,Str a.Z2y) (fun t hI h0 h1'=>?_) (by omega) ⟨rfl,Z4v⟩) fun q3 hq3=>?_
 ·obtain ⟨hI1,hI2⟩:=hI
  have h3:t.1<u.Z14.length→∀ p:List Z1g,(p.length≤2∧∀ a∈p,Str a.Z2y)→Ok (Zee t v1 p) (St (fun t=>(t.2.length:Int)=t.1∧∀ m∈t.2,m.Z1x.length≤2∧∀ a∈m.Z1x,Str a.Z2y) (fun t=>t.1) u.Z14.length (fun q:List Z0g⊕(Z1b×Int)=>match q with|.inl q=>(q.length:Int)=u.Z14.length∧∀ m∈q,m.Z1x.length≤2∧∀ a∈m.Z1x,Str a.Z2y|.inr y=>y.2≠0) t):=fun hlt p hp=>by
   unfold Zee
   exact bd gr fun _ _=>bd gk fun _ _=>bd wr fun _ hv=>nx ⟨by simp only [List.length_append,List.length_cons,List.length_nil]; omega,Z72 hI2 hp⟩
  have h2:t.1<u.Z14.length→∀ p:List Z1g,(p.length≤1∧∀ a∈p,Str a.Z2y)→Ok (Zdw t v1 p) (St (fun t=>(t.2.length:Int)=t.1∧∀ m∈t.2,m.Z1x.length≤2∧∀ a∈m.Z1x,Str a.Z2y) (fun t=>t.1) u.Z14.length (fun q:List Z0g⊕(Z1b×Int)=>match q with|.inl q=>(q.length:Int)=u.Z14.length∧∀ m∈q,m.Z1x.length≤2∧∀ a∈m.Z1x,Str a.Z2y|.inr y=>y.2≠0) t):=fun hlt p hp=>by
   unfold Zdw
   exact bd gr fun _ _=>brN (fun _=>bd gr fun _ _=>bd (Zxc _) fun v30 h30=>brN (fun h=>dn h) fun _=>bd gr fun _ _=>bd gk fun _ _=>h3 hlt _ ⟨by simp only [List.length_append,List.length_cons,List.length_nil]; omega,Z72 hp.2 h30⟩) fun _=>h3 hlt p ⟨by omega,hp.2⟩
  unfold Zpa
  exact brD (fun hlt=>bd gr fun _ _=>br (fun _=>bd gr fun _ _=>bd ik fun j hj=>bd (la (by omega)) fun b hb=>bd (gk (by simp) (by simp)) fun _ _=>h2 (by omega) _ ⟨by simp,Z72 Z4v (k2 b hb.2)⟩) fun _=>h2 (by omega) _ ⟨by simp,Z4v⟩) fun hge=>dn ⟨by omega,hI2⟩
 cases q3 with
 | inr y=>exact ok fun h=>absurd h hq3
 | inl q2=>
 obtain ⟨e1,e2⟩:=hq3
 refine bd (Y5a _ ⟨h1.pool,by have:=h1.ifsL; have:=hu.ifsL; dsimp only; omega,by have:=h1.fldL; have:=hu.fldL; dsimp only; omega,by dsimp only; omega,by have:=h1.attL; dsimp only; omega,h1.att,fun m hm=>?_⟩) fun w hw=>brN (fun h=>ok fun h'=>absurd h' h) fun h=>ok fun _=>?_
 rotate_left
 ·have hF:v1.2.f_F.Z16.length≤8∧v1.2.f_F.Z15.length≤64∧q2.length≤64:=hw h
  have:=h1.ifsL; have:=h1.fldL; exact ⟨by omega,by omega,by omega⟩
 rcases hm with hm|hm
 ·have:=h1.fld m hm; exact ⟨by omega,this.2⟩
 ·have:=e2 m hm; exact ⟨by omega,this.2⟩
theorem Y6q (u:Z0y) (hu:Z5p u):Ok (Zqb u) (fun e=>e=0→FewM u):=bd (Y8u u hu) fun _ h=>ok h
theorem Zsz (w:Z0v) (n i:Int) (s:List UInt8) (b:Bool) (hi:i≤w.Z1a.length):Ok (Zc5 w n i s b) (fun r=>r=true→0≤n∧n<i):=by
 unfold Zc5
 exact brD (fun _=>brD (fun _=>bd gr fun _ _=>br (fun _=>bd gr fun _ _=>bs (ok fun _=>⟨by omega,by omega⟩)) fun _=>ok (by simp)) fun _=>ok (by simp)) fun _=>ok (by simp)
theorem Y42 (w:Z0v) (l:Int) (s:List UInt8) (hw:Z5b w):Ok (Zfp w l s) (fun _=>True):=by
 have:=hw.iniL
 unfold Zfp
 refine bd (P:=fun _=>True) (li w.Z2d.length (fun t h0 h1=>?_) (by omega) (by omega) (by omega)) fun q _=>by cases q <;> exact ok trivial
 unfold l92x1
 exact brD (fun _=>bd gr fun _ _=>br (fun _=>bd gr fun _ _=>br (fun _=>bd gr fun _ _=>di trivial) fun _=>bd wr fun _ _=>ni (by omega) (by omega)) fun _=>bd wr fun _ _=>ni (by omega) (by omega)) fun _=>di trivial
structure Zay (w:Z0v) (i:Int) (c:Z1s):Prop where
 sup:c.Z1z= -1∨(0≤c.Z1z∧c.Z1z<i)
 ifs:∀ n∈c.Z16,0≤n∧n<i
 ifsL:c.Z16.length≤8
 few:FewM c.Z24
 lod:0≤c.Z38∧c.Z38<w.Z25.length
 lang:c.Z38≠0→Za4 c.Z24.Z0f [108,97,110,103,47]=some false
theorem Y7p (w:Z0v) (hw:Z5b w) (i:Int) (h0:0≤i) (h1:i<w.Z1a.length) (c:Z1s) (hg:Z01 w.Z1a i=some c) (hm:c∈w.Z1a):Ok (Zhn w i) (fun b=>b=true→Zay w i c):=by
 have hcl:=hw.clsL
 obtain ⟨hmod,hifs⟩:=hw.cls c hm
 have hmi:=hmod.ifsL
 have z:Ok (some false) (fun b=>b=true→Zay w i c):=ok (by simp)
 unfold Zhn
 rw [hg]
 refine bs (brD (fun _=>z) fun k0=>brD (fun _=>z) fun k1=>bd (Y6q _ hmod) fun _ hck=>brN (fun _=>z) fun hck0=>brN (fun _=>z) fun hlen=>?_)
 have h2:(c.Z1z= -1∨(0≤c.Z1z∧c.Z1z<i))→(c.Z38≠0→Za4 c.Z24.Z0f [108,97,110,103,47]=some false)→Ok (Zdf c w i) (fun b=>b=true→Zay w i c):=fun hs hl=>by
  unfold Zdf
  refine bd (P:=fun q:Unit⊕Bool=>match q with|.inl _=>∀ n∈c.Z16,0≤n∧n<i|.inr b=>b=false) (Z75 (P:=fun n=>0≤n∧n<i) hifs (fun t g0 g1 v hv hvm hvg=>?_) fun t g0 g1 ha=>?_) fun q hq=>?_
  ·unfold Zoi
   rw [hvg]
   exact brD (fun _=>bs (bd gr fun _ _=>bd (Zsz w v i _ _ (by omega)) fun b hb=>br! (fun _=>ok rfl) fun h=>bd wr fun _ hw'=>ok ⟨hw',hb h⟩)) fun h=>absurd g1 h
  ·unfold Zoi
   exact brD (fun h=>absurd h (by omega)) fun _=>ok ha
  cases q with
  | inr b=>exact ok fun h=>by cases hq.symm.trans h
  | inl _=>
   have hd:Zay w i c:=⟨hs,hq,by have:=(hck hck0).1; omega,hck hck0,⟨by omega,by omega⟩,hl⟩
   refine bd (P:=fun _=>True) (li i (fun t g0 g1=>?_) (by omega) (by omega) (by omega)) fun q _=>?_
   ·unfold l61x2
    exact brD (fun _=>bd gr fun _ _=>br (fun _=>bd gr fun _ _=>br (fun _=>di trivial) fun _=>bd wr fun _ _=>ni (by omega) (by omega)) fun _=>bd wr fun _ _=>ni (by omega) (by omega)) fun _=>di trivial
   cases q with
   | inr _=>exact ok fun _=>hd
   | inl _=>exact bd (Y42 w _ _ hw) fun _ _=>br (fun _=>br (fun _=>brD (fun _=>brD (fun _=>ok fun _=>hd) fun _=>ok fun _=>hd) fun _=>ok fun _=>hd) fun _=>ok fun _=>hd) fun _=>ok fun _=>hd
 have h3:(c.Z38≠0→Za4 c.Z24.Z0f [108,97,110,103,47]=some false)→Ok (Zep c w i) (fun b=>b=true→Zay w i c):=fun hl=>by
  unfold Zep
  exact brE (fun he=>br! (fun _=>bd (Zsz w _ i _ _ (by omega)) fun b hb=>br! (fun _=>z) fun h=>h2 (.inr (hb h)) hl) fun _=>h2 (.inl he) hl) fun _=>br! (fun _=>bd (Zsz w _ i _ _ (by omega)) fun b hb=>br! (fun _=>z) fun h=>h2 (.inr (hb h)) hl) fun _=>z
 exact brN (fun _=>bdE (Y3j _ _) fun b hb _=>br (fun _=>z) fun h=>h3 fun _=>by rw [hb,h]) fun h=>h3 fun h'=>absurd h h'
structure Z8d (w:Z0v):Prop where
 cls:∀ (i:Nat) c,w.Z1a[i]?=some c→Zay w i c
 few:w.Z1a.length≤200
theorem Y6k (w:Z0v) (hw:Z5b w):Ok (Zei w) (fun b=>b=true→Z8d w):=by
 have hcl:=hw.clsL; have hil:=hw.iniL; have hcon:=hw.conL
 unfold Zei
 refine bd (Y8d _ hw.lod hw.lodL) fun v0 h0=>brN (fun _=>ok (by simp)) fun h=>brD (fun _=>ok (by simp)) fun hc2=>brD (fun _=>ok (by simp)) fun _=>?_
 have hl8:=h0 h
 unfold j29x1
 refine bd (P:=fun q:Unit⊕Bool=>match q with|.inl _=>∀ b∈w.Z32,Z8v w b|.inr b=>b=false) (Z75 (P:=Z8v w) hcon (fun t g0 g1 v hv hvm hvg=>?_) fun t g0 g1 ha=>?_) fun q hq=>?_
 ·unfold Zkz
  rw [hvg]
  exact brD (fun _=>bs (brD (fun _=>ok rfl) fun _=>brD (fun _=>ok rfl) fun _=>brD (fun _=>ok rfl) fun _=>brD (fun _=>ok rfl) fun _=>bd (Zjc _ (hw.con v hvm)) fun _ _=>br! (fun _=>ok rfl) fun _=>bd wr fun _ hw'=>ok ⟨hw',by omega,by omega,by omega,by omega⟩)) fun h=>absurd g1 h
 ·unfold Zkz
  exact brD (fun h=>absurd h (by omega)) fun _=>ok ha
 cases q with
 | inr b=>exact ok fun h=>by cases hq.symm.trans h
 | inl _=>
 have hcons:∀ b∈w.Z32,Z8v w b:=hq
 refine bd (P:=fun q:Unit⊕Bool=>match q with|.inl _=>True|.inr b=>b=false) (lp (fun t=>t) w.Z2d.length (fun t=>∀ (j:Nat) v,(j:Int)<t→w.Z2d[j]?=some v→Z8w w v) (fun t hI g0 g1=>?_) (by omega) (fun j v h=>by omega) (by omega) (by omega)) fun q hq=>?_
 ·unfold l29x2
  refine brD (fun hlt=>bd (Y87 w t hw g0 hlt) fun b hb=>br! (fun _=>dn rfl) fun h=>?_) fun _=>dn trivial
  have hall:∀ (j:Nat) v,(j:Int)≤t→w.Z2d[j]?=some v→Z8w w v:=fun j v hj hv=>by
   rcases Int.lt_or_le (j:Int) t with h'|h'
   ·exact hI j v h' hv
   ·have:j=t.toNat:=by omega
    subst this
    exact hb h v hv
  exact bd (Y71 w t hw hl8 hcons g0 hlt hall) fun _ _=>br! (fun _=>dn rfl) fun _=>bd wr fun k hk=>nx (fun j v hj hv=>hall j v (by omega) hv) (by omega) (by omega)
 cases q with
 | inr b=>exact ok fun h=>by cases hq.symm.trans h
 | inl _=>
 refine bd (P:=fun q:Unit⊕Bool=>match q with|.inl _=>Z8d w|.inr b=>b=false) (lp (fun t=>t) w.Z1a.length (fun t=>∀ (j:Nat) c,(j:Int)<t→w.Z1a[j]?=some c→Zay w j c) (fun t hI g0 g1=>?_) (by omega) (fun j v h=>by omega) (by omega) (by omega)) fun q hq=>?_
 ·unfold l29x3
  refine brD (fun hlt=>?_) fun hge=>dn ⟨fun j c hc=>hI j c (by have:=(List.getElem?_eq_some_iff.1 hc).1; omega) hc,by omega⟩
  obtain ⟨c,hg,hm,hi⟩:=gri (l:=w.Z1a) g0 hlt
  refine bd (Y7p w hw t g0 hlt c hg hm) fun b hb=>br! (fun _=>dn rfl) fun h=>bd wr fun k hk=>nx (fun j d hj hd=>?_) (by omega) (by omega)
  rcases Int.lt_or_le (j:Int) t with h'|h'
  ·exact hI j d h' hd
  ·have:j=t.toNat:=by omega
   subst this
   rw [hi] at hd; cases hd
   have:=hb h
   rwa [show ((t.toNat:Nat):Int)=t by omega]
 cases q with
 | inr b=>exact ok fun h=>by cases hq.symm.trans h
 | inl _=>exact ok fun _=>hq
end Go.Proofs
