/-
  That a model comes to an answer: steps in Option that do not fail.
-/
import Derived.Test.YtiogflechpgdiaaGreatDenMod
import Derived.Test.YtiogflechpgdiaaGreatCal8
namespace Go.Tot
open Go.Den Go.RowKit
def Ok {α:Type} (o:Option α) (P:α→Prop):Prop:=∃ r,o=some r∧P r
section
variable {α β:Type} {P P':α→Prop} {Q:β→Prop}
theorem ok {x:α} (h:P x):Ok (some x) P:=⟨x,rfl,h⟩
theorem ok' {o:Option α} {x:α} (e:o=some x) (h:P x):Ok o P:=⟨x,e,h⟩
theorem Ok.mono {o:Option α} (h:Ok o P) (k:∀ x,P x→P' x):Ok o P':=by
 obtain ⟨r,e,p⟩:=h
 exact ⟨r,e,k r p⟩
theorem bd {o:Option α} {f:α→Option β} (h:Ok o P) (k:∀ x,P x→Ok (f x) Q):Ok (o.bind f) Q:=by
 obtain ⟨r,e,p⟩:=h
 obtain ⟨r',e',p'⟩:=k r p
 exact ⟨r',by rw [e]; exact e',p'⟩
theorem bs {x:α} {f:α→Option β} (k:Ok (f x) Q):Ok ((some x).bind f) Q:=k
theorem bdE {o:Option α} {f:α→Option β} (h:Ok o P) (k:∀ x,o=some x→P x→Ok (f x) Q):Ok (o.bind f) Q:=by
 obtain ⟨r,e,p⟩:=h
 obtain ⟨r',e',p'⟩:=k r e p
 exact ⟨r',by rw [e]; exact e',p'⟩
theorem br {b:Bool} {x y:Option α} (T:b=true→Ok x P) (F:b=false→Ok y P):Ok (if b=true then x else y) P:=by
 cases b with
 | true=>exact T rfl
 | false=>exact F rfl
theorem brD {p:Prop} [Decidable p] {x y:Option α} (T:p→Ok x P) (F: ¬p→Ok y P):Ok (if decide p=true then x else y) P:=by
 by_cases h:p
 ·rw [if_pos (decide_eq_true h)]; exact T h
 ·rw [if_neg (by simpa using h)]; exact F h
theorem brE {n m:Int} {x y:Option α} (T:n=m→Ok x P) (F:n≠m→Ok y P):Ok (if (n==m)=true then x else y) P:=by
 by_cases h:n=m
 ·rw [if_pos (by simpa using h)]; exact T h
 ·rw [if_neg (by simpa using h)]; exact F h
theorem brN {n m:Int} {x y:Option α} (T:n≠m→Ok x P) (F:n=m→Ok y P):Ok (if (n !=m)=true then x else y) P:=by
 by_cases h:n=m
 ·rw [if_neg (by simp [h])]; exact F h
 ·rw [if_pos (by simpa using h)]; exact T h
theorem br! {b:Bool} {x y:Option α} (T:b=false→Ok x P) (F:b=true→Ok y P):Ok (if (!b)=true then x else y) P:=by
 cases b with
 | true=>exact F rfl
 | false=>exact T rfl
end
section
variable {T R:Type} {f:T→Option (Ctl T R)} {Q:R→Prop}
def St (I:T→Prop) (ix:T→Int) (n:Int) (Q:R→Prop) (t:T):Ctl T R→Prop
 | .next t'=>I t'∧ix t<ix t'∧ix t'≤n
 | .done r=>Q r
variable {I:T→Prop} {ix:T→Int} {n:Int} {t:T}
theorem nx {t':T} (h:I t') (h1:ix t<ix t':=by first|omega|(dsimp only; omega)) (h2:ix t'≤n:=by first|omega|(dsimp only; omega)):Ok (some (Ctl.next t':Ctl T R)) (St I ix n Q t):=⟨_,rfl,h,h1,h2⟩
theorem dn {r:R} (h:Q r):Ok (some (Ctl.done r:Ctl T R)) (St I ix n Q t):=⟨_,rfl,h⟩
theorem lp (ix:T→Int) (n:Int) (I:T→Prop) (h:∀ t,I t→0≤ix t→ix t≤n→Ok (f t) (St I ix n Q t)) {t0:T} (hn:n≤9223372036854775807) (h0:I t0) (h1:0≤ix t0:=by first|omega|(dsimp only; omega)) (h2:ix t0≤n:=by first|omega|(dsimp only; omega)):Ok (Z07 f Z08 t0) Q:=by
 refine Y0u (fun t=>I t∧0≤ix t∧ix t≤n) (fun t=>(n - ix t).toNat) Q (fun t ht=>?_) Z08 t0 ⟨h0,h1,h2⟩ (by unfold Z08; omega)
 obtain ⟨x,e,p⟩:=h t ht.1 ht.2.1 ht.2.2
 refine ⟨x,e,?_⟩
 cases x with
 | next t'=>exact ⟨⟨p.1,by have:=p.2.1; omega,p.2.2⟩,by have:=p.2.1; have:=p.2.2; omega⟩
 | done r=>exact p
end
section
variable {R:Type} {f:Int→Option (Ctl Int R)} {Q:R→Prop}
def Si (n:Int) (Q:R→Prop) (t:Int):Ctl Int R→Prop
 | .next t'=>t<t'∧t'≤n
 | .done r=>Q r
variable {n t:Int}
theorem ni {t':Int} (h1:t<t':=by omega) (h2:t'≤n:=by omega):Ok (some (Ctl.next t':Ctl Int R)) (Si n Q t):=⟨_,rfl,h1,h2⟩
theorem di {r:R} (h:Q r):Ok (some (Ctl.done r:Ctl Int R)) (Si n Q t):=⟨_,rfl,h⟩
theorem li (n:Int) (h:∀ t,0≤t→t≤n→Ok (f t) (Si n Q t)) {t0:Int} (hn:n≤9223372036854775807:=by omega) (h1:0≤t0:=by omega) (h2:t0≤n:=by omega):Ok (Z07 f Z08 t0) Q:=
 lp (fun t=>t) n (fun _=>True) (fun t _ a b=>(h t a b).mono fun x hx=>by
  cases x with
  | next t'=>exact ⟨trivial,hx.1,hx.2⟩
  | done r=>exact hx) hn trivial h1 h2
end
section
variable {α:Type}
theorem Zax {n:Int} (h0: -9223372036854775808≤n) (h1:n≤9223372036854775807):IntKind.wrap .i64 n=n:=by
 have h:∀ m:Int,IntKind.wrap .i64 m=(m+9223372036854775808) % 18446744073709551616 - 9223372036854775808:=fun m=>by
  unfold IntKind.wrap
  simp [IntKind.bits,IntKind.signed,Int.bmod]
  omega
 rw [h]; omega
theorem wr {n:Int} (h0: -9223372036854775808≤n:=by omega) (h1:n≤9223372036854775807:=by omega):Ok (some (IntKind.wrap .i64 n)) fun v=>v=n:=ok (Zax h0 h1)
theorem sm {x:α}:Ok (some x) fun _=>True:=ok trivial
theorem gr {l:List α} {i:Int} (h0:0≤i:=by omega) (h1:i<l.length:=by omega):Ok (Z01 l i) fun x=>x∈l:=by
 have hlt:i.toNat<l.length:=by omega
 refine ⟨l[i.toNat],?_,List.getElem_mem hlt⟩
 unfold Z01
 rw [if_pos h0,List.getElem?_eq_getElem hlt]
theorem gri {l:List α} {i:Int} (h0:0≤i:=by omega) (h1:i<l.length:=by omega):Ok (Z01 l i) fun x=>x∈l∧l[i.toNat]?=some x:=by
 have hlt:i.toNat<l.length:=by omega
 refine ⟨l[i.toNat],?_,List.getElem_mem hlt,List.getElem?_eq_getElem hlt⟩
 unfold Z01
 rw [if_pos h0,List.getElem?_eq_getElem hlt]
theorem gs {s:List UInt8} {i:Int} (h0:0≤i:=by omega) (h1:i<s.length:=by omega):Ok (Z39 s i) fun x=>0≤x∧x<256:=by
 have hlt:i.toNat<s.length:=by omega
 refine ⟨(s[i.toNat].toNat:Int),?_,by omega,by have:=s[i.toNat].toNat_lt; omega⟩
 unfold Z39
 rw [if_pos h0,List.getElem?_eq_getElem hlt]
 rfl
theorem ik {i:Int} {n:Nat} (h0:0≤i:=by omega) (h1:i<n:=by omega):Ok (Z3e i n) fun j=>j=i.toNat∧j<n:=⟨i.toNat,by unfold Z3e; rw [if_pos ⟨h0,h1⟩],rfl,by omega⟩
theorem la {l:List α} {j:Nat} (h:j<l.length):Ok (l[j]?) fun x=>l[j]?=some x∧x∈l:=⟨l[j],List.getElem?_eq_getElem h,List.getElem?_eq_getElem h,List.getElem_mem h⟩
theorem gk {b n:Nat} (h:n*b≤140737488355328:=by first|omega|(simp only [List.length_append,List.length_cons,List.length_nil]; omega)) (hn:n≤9223372036854775807:=by first|omega|(simp only [List.length_append,List.length_cons,List.length_nil]; omega)):Ok (Z1k b n) fun _=>True:=⟨(),by unfold Z1k; rw [if_pos ⟨hn,h⟩],trivial⟩
theorem mk {b:Nat} {l c:Int} (h0:0≤l) (h1:l≤c) (h2:(b:Int)*c≤281474976710656) (h3:c≤9223372036854775807):Ok (Z95 b l c) fun _=>True:=⟨(),by unfold Z95; rw [if_pos ⟨h0,h1,h2,h3⟩],trivial⟩
theorem ct {a b:List UInt8} (h:a.length+b.length≤9223372036854775807):Ok (Z27 a b) fun m=>m=a++b∧m.length=a.length+b.length:=⟨a++b,by unfold Z27; rw [if_pos h],rfl,List.length_append⟩
theorem sb {l:List α} {lo hi:Int} (h0:0≤lo) (h1:lo≤hi) (h2:hi≤l.length):Ok (sub l lo hi) fun r=>(r.length:Int)=hi - lo∧∀ x∈r,x∈l:=by
 unfold sub
 rw [if_pos (by omega)]
 refine ok ⟨by simp; omega,fun x hx=>List.mem_of_mem_drop (List.mem_of_mem_take hx)⟩
end
end Go.Tot
set_option linter.unusedVariables false
namespace Go.Proofs
open Go.Den Go.Tot
abbrev Str (s:List UInt8):Prop:=s.length≤4503599627370496
structure WRef (r:Z1w):Prop where
 c:Str r.Z0s
 n:Str r.Z0f
 d:Str r.Z2i
structure Z35 (i:Z02):Prop where
 keys:i.Z0z.length*8≤140737488355328
 tos:i.Z0c.length*8≤140737488355328
 ref:WRef i.Z1f
 s:Str i.f_S
structure Z8y (f:Z5t):Prop where
 loc:∀ v∈f.Z0d,Str v.Z12.Z0f
 locL:f.Z0d.length*56≤140737488355328
 stk:∀ v∈f.Z0i,Str v.Z12.Z0f
 stkL:f.Z0i.length*56≤140737488355328
structure Z5o (c:Z0b):Prop where
 ins:∀ i∈c.Z0l,Z35 i
 insL:c.Z0l.length*144≤140737488355328
 hnd:∀ h∈c.Z20,Str h.Z12
 hndL:c.Z20.length*48≤140737488355328
 map:∀ m∈c.Z1q,Z8y m.Z1o
 mapL:c.Z1q.length*64≤140737488355328
 linL:c.Z1r.length*16≤140737488355328
structure Zb9 (m:Z2d):Prop where
 n:Str m.Z0f
 d:Str m.Z2i
 code:Z5o m.Z1v
 exc:∀ s∈m.Z67,Str s
 excL:m.Z67.length*16≤140737488355328
structure Zt5 (f:Z5s):Prop where
 n:Str f.Z0f
 d:Str f.Z2i
 s:Str f.f_S
structure Z5r (u:Z0y):Prop where
 n:Str u.Z0f
 sup:Str u.Z21
 ifs:∀ s∈u.Z16,Str s
 ifsL:u.Z16.length*16≤140737488355328
 fld:∀ f∈u.Z15,Zt5 f
 fldL:u.Z15.length*72≤140737488355328
 met:∀ m∈u.Z13,Zb9 m
 metL:u.Z13.length*184≤140737488355328
 src:Str u.Z89
structure Z7e (l:Z18):Prop where
 del:∀ d∈l.Z3y,Str d.Zcc
 delL:l.Z3y.length≤140737488355328
 sto:∀ c∈l.Z3d,Str c.Z0f
 stoL:l.Z3d.length≤140737488355328
structure Z5f (w:Z0v):Prop where
 lod:∀ l∈w.Z24,Z7e l
 lodL:w.Z24.length≤140737488355328
 cls:∀ c∈w.Z1a,Z5r c.Z25∧c.Z16.length≤140737488355328
 clsL:w.Z1a.length≤140737488355328
 ini:∀ x∈w.Z2e,Str x.Z0f
 iniL:w.Z2e.length≤140737488355328
 con:∀ x∈w.Z31,Str x.Z0f
 conL:w.Z31.length≤140737488355328
theorem Y5e (x:Int):Ok (Zob x) (fun _=>True):=by
 unfold Zob
 repeat' with_reducible first
  | refine brD (fun _=>?_) fun _=>?_
  | refine brE (fun _=>?_) fun _=>?_
  | refine ok ?_
  | exact True.intro
theorem L34x1 (x:List UInt8) (h:Str x):Ok (Z07 (Zi8 x) Z08 0) (fun q=>match q with|.inl _=>True|.inr y=>y=false):=by
 refine li (x.length) (fun t _ _=>?_) (by omega) (by omega) (by omega)
 unfold Zi8
 repeat' first
  | with_reducible refine ni ?_ ?_
  | with_reducible refine di ?_
  | with_reducible refine brD (fun _=>?_) fun _=>?_
  | with_reducible refine br! (fun _=>?_) fun _=>?_
  | with_reducible refine brE (fun _=>?_) fun _=>?_
  | with_reducible refine bd gs fun _ _=>?_
  | with_reducible refine bd wr fun _ _=>?_
  | with_reducible refine bd (Y5e _) fun _ _=>?_
  | (rfl)
  | exact True.intro
  | omega
theorem Zpq (x:List UInt8) (h:Str x):Ok (Zc5 x) (fun b=>b=true→x≠[]):=by
 unfold Zc5
 repeat' first
  | with_reducible refine bd (L34x1 _ (by first|assumption|omega|exact And.left (by assumption)|(dsimp only; omega))) fun _ _=>?_
  | with_reducible refine ok ?_
  | split
  | (first|(intro h; rintro rfl; simp at h; done)|(simp_all; done))
theorem L20x1 (x:List UInt8) (h:Str x):Ok (Z07 (Zj3 x) Z08 (0,0)) (fun q=>match q with|.inl y=>0≤y∧y≤x.length|.inr y=>True):=by
 refine lp (fun t=>t.2) (x.length) (fun t=>0≤t.1∧t.1≤t.2) (fun t hI _ _=>?_) (by omega) (by omega) (by omega) (by omega)
 try dsimp only at*
 unfold Zj3
 repeat' first
  | with_reducible refine nx ?_ ?_ ?_
  | with_reducible refine dn ?_
  | with_reducible refine brD (fun _=>?_) fun _=>?_
  | with_reducible refine br! (fun _=>?_) fun _=>?_
  | with_reducible refine brE (fun _=>?_) fun _=>?_
  | with_reducible refine bd gs fun _ _=>?_
  | with_reducible refine bd wr fun _ _=>?_
  | with_reducible refine bd (sb (by omega) (by omega) (by omega)) fun _ _=>?_
  | with_reducible refine bd (Zpq _ (by unfold Str; omega)) fun _ _=>?_
  | exact True.intro
  | omega
theorem Zla (x:List UInt8) (h:Str x):Ok (Zar x) (fun b=>b=true→x.length≤64):=by
 unfold Zar
 repeat' first
  | with_reducible refine bdE (L20x1 _ (by assumption)) fun q _ hq=>?_
  | with_reducible refine brD (fun _=>?_) fun _=>?_
  | with_reducible refine bd (sb (by omega) (by omega) (by omega)) fun _ _=>?_
  | with_reducible refine bd (Zpq _ (by unfold Str; omega)) fun _ _=>?_
  | with_reducible refine ok ?_
  | split
  | ((intro hb; first|(cases hb; done)|omega))
theorem Zx2 (x y:List UInt8):Ok (Zag x y) (fun _=>True):=by
 unfold Zag
 repeat' with_reducible first
  | refine brD (fun _=>?_) fun _=>?_
  | refine bd (sb (by omega) (by omega) (by omega)) fun _ _=>?_
  | refine ok ?_
  | exact True.intro
theorem L32x1 (x:Z18) (i:Int) (h:Z7e x):Ok (Z07 (Zlt x i) Z08 0) (fun _=>True):=by
 have:=h.stoL
 refine li (x.Z3d.length) (fun t _ _=>?_) (by omega) (by omega) (by omega)
 unfold Zlt
 repeat' first
  | with_reducible refine ni ?_ ?_
  | with_reducible refine di ?_
  | with_reducible refine brD (fun _=>?_) fun _=>?_
  | with_reducible refine br (fun _=>?_) fun _=>?_
  | with_reducible refine bd gr fun _ _=>?_
  | with_reducible refine bd wr fun _ _=>?_
  | with_reducible refine bd (Zla _ (by exact h.sto _ (by assumption))) fun _ _=>?_
  | with_reducible refine bd (Zx2 _ _) fun _ _=>?_
  | exact True.intro
  | omega
theorem Ya6 (x:Z18) (i:Int) (h:Z7e x):Ok (Zif x i) (fun _=>True):=by
 unfold Zif
 repeat' first
  | with_reducible refine bd (L32x1 _ _ (by first|assumption|omega|exact And.left (by assumption)|(dsimp only; omega))) fun _ _=>?_
  | with_reducible refine ok ?_
  | split
  | assumption
theorem L33x2 (k:Int) (x:Z18) (hl:x.Z3d.length≤140737488355328) (h0:0≤k) (h1:k<x.Z3d.length):Ok (Z07 (Znq k x) Z08 0) (fun _=>True):=by
 refine li (k) (fun t _ _=>?_) (by omega) (by omega) (by omega)
 unfold Znq
 repeat' first
  | with_reducible refine ni ?_ ?_
  | with_reducible refine di ?_
  | with_reducible refine brD (fun _=>?_) fun _=>?_
  | with_reducible refine br (fun _=>?_) fun _=>?_
  | with_reducible refine bd gr fun _ _=>?_
  | with_reducible refine bd wr fun _ _=>?_
  | exact True.intro
  | omega
theorem L33x1 (x:Z18) (hl:x.Z3d.length≤140737488355328):Ok (Z07 (Zna x) Z08 0) (fun _=>True):=by
 refine li (x.Z3d.length) (fun t _ _=>?_) (by omega) (by omega) (by omega)
 unfold Zna
 repeat' first
  | with_reducible refine ni ?_ ?_
  | with_reducible refine di ?_
  | with_reducible refine brD (fun _=>?_) fun _=>?_
  | with_reducible refine bd wr fun _ _=>?_
  | with_reducible refine bd (L33x2 _ _ (by first|assumption|omega|exact And.left (by assumption)|(dsimp only; omega)) (by first|assumption|omega|exact And.left (by assumption)|(dsimp only; omega)) (by first|assumption|omega|exact And.left (by assumption)|(dsimp only; omega))) fun _ _=>?_
  | split
  | exact True.intro
  | omega
theorem Y8e (x:Z18) (hl:x.Z3d.length≤140737488355328):Ok (Zlh x) (fun _=>True):=by
 unfold Zlh
 repeat' first
  | with_reducible refine bd (L33x1 _ (by first|assumption|omega|exact And.left (by assumption)|(dsimp only; omega))) fun _ _=>?_
  | with_reducible refine ok ?_
  | split
  | assumption
theorem L19x1 (x:List Z18) (h:∀ l∈x,Z7e l) (hl:x.length≤140737488355328):Ok (Z07 (Zm2 x) Z08 0) (fun _=>True):=by
 refine li (x.length) (fun t _ _=>?_) (by omega) (by omega) (by omega)
 unfold Zm2
 repeat' first
  | with_reducible refine ni ?_ ?_
  | with_reducible refine di ?_
  | with_reducible refine brD (fun _=>?_) fun _=>?_
  | with_reducible refine bd gr fun _ _=>?_
  | with_reducible refine bd wr fun _ _=>?_
  | exact True.intro
  | omega
theorem L19x3 (k:Int) (x:List Z18) (h:∀ l∈x,Z7e l) (hl:x.length≤140737488355328) (h0:0≤k) (h1:k<x.length):Ok (Z07 (Zo3 k x) Z08 0) (fun _=>True):=by
 obtain ⟨y,hy,hm⟩:=gr h0 h1
 have:=(h y hm).delL
 refine li (y.Z3y.length) (fun t _ _=>?_) (by omega) (by omega) (by omega)
 unfold Zo3
 simp only [hy]
 repeat' first
  | with_reducible refine ni ?_ ?_
  | with_reducible refine di ?_
  | with_reducible refine brD (fun _=>?_) fun _=>?_
  | with_reducible refine bd gr fun _ _=>?_
  | with_reducible refine bd wr fun _ _=>?_
  | with_reducible refine bs ?_
  | exact True.intro
  | omega
theorem L19x2 (x:List Z18) (h:∀ l∈x,Z7e l) (hl:x.length≤140737488355328):Ok (Z07 (Zmj x) Z08 0) (fun _=>True):=by
 refine li (x.length) (fun t _ _=>?_) (by omega) (by omega) (by omega)
 unfold Zmj
 repeat' first
  | with_reducible refine ni ?_ ?_
  | with_reducible refine di ?_
  | with_reducible refine brD (fun _=>?_) fun _=>?_
  | with_reducible refine bd wr fun _ _=>?_
  | with_reducible refine bd (L19x3 _ _ (by first|assumption|omega|exact And.left (by assumption)|(dsimp only; omega)) (by first|assumption|omega|exact And.left (by assumption)|(dsimp only; omega)) (by first|assumption|omega|exact And.left (by assumption)|(dsimp only; omega)) (by first|assumption|omega|exact And.left (by assumption)|(dsimp only; omega))) fun _ _=>?_
  | split
  | exact True.intro
  | omega
theorem L19x4 (x:List Z18) (h:∀ l∈x,Z7e l) (hl:x.length≤140737488355328):Ok (Z07 (Zmi x) Z08 0) (fun _=>True):=by
 refine li (x.length) (fun t _ _=>?_) (by omega) (by omega) (by omega)
 unfold Zmi
 repeat' first
  | with_reducible refine ni ?_ ?_
  | with_reducible refine di ?_
  | with_reducible refine brD (fun _=>?_) fun _=>?_
  | with_reducible refine brN (fun _=>?_) fun _=>?_
  | with_reducible refine bd gr fun _ _=>?_
  | with_reducible refine bd wr fun _ _=>?_
  | with_reducible refine bd (Ya6 _ _ (by exact h _ (by assumption))) fun _ _=>?_
  | exact True.intro
  | omega
theorem L19x5 (x:List Z18) (h:∀ l∈x,Z7e l) (hl:x.length≤140737488355328):Ok (Z07 (Zo7 x) Z08 0) (fun _=>True):=by
 refine li (x.length) (fun t _ _=>?_) (by omega) (by omega) (by omega)
 unfold Zo7
 repeat' first
  | with_reducible refine ni ?_ ?_
  | with_reducible refine di ?_
  | with_reducible refine brD (fun _=>?_) fun _=>?_
  | with_reducible refine br (fun _=>?_) fun _=>?_
  | with_reducible refine bd gr fun _ _=>?_
  | with_reducible refine bd wr fun _ _=>?_
  | with_reducible refine bd (Y8e _ (by exact (h _ (by assumption)).stoL)) fun _ _=>?_
  | exact True.intro
  | omega
theorem Y7n (x:List Z18) (h:∀ l∈x,Z7e l) (hl:x.length≤140737488355328):Ok (Zoi x) (fun e=>e=0→x.length≤8):=by
 unfold Zoi
 repeat' first
  | unfold j57x1
  | with_reducible refine brD (fun _=>?_) fun _=>?_
  | with_reducible refine bd (L19x1 _ (by first|assumption|omega|exact And.left (by assumption)|(dsimp only; omega)) (by first|assumption|omega|exact And.left (by assumption)|(dsimp only; omega))) fun _ _=>?_
  | with_reducible refine bd (L19x2 _ (by first|assumption|omega|exact And.left (by assumption)|(dsimp only; omega)) (by first|assumption|omega|exact And.left (by assumption)|(dsimp only; omega))) fun _ _=>?_
  | with_reducible refine bd (L19x4 _ (by first|assumption|omega|exact And.left (by assumption)|(dsimp only; omega)) (by first|assumption|omega|exact And.left (by assumption)|(dsimp only; omega))) fun _ _=>?_
  | with_reducible refine bd (L19x5 _ (by first|assumption|omega|exact And.left (by assumption)|(dsimp only; omega)) (by first|assumption|omega|exact And.left (by assumption)|(dsimp only; omega))) fun _ _=>?_
  | with_reducible refine ok ?_
  | split
  | omega
theorem L21x1 (v:Z2x) (w:Z0v) (i:Int) (h:Z5f w) (h0:0≤i) (h1:i<w.Z2e.length):Ok (Z07 (Znp v w i) Z08 0) (fun _=>True):=by
 have:=h.iniL
 refine li (i) (fun t _ _=>?_) (by omega) (by omega) (by omega)
 unfold Znp
 repeat' first
  | with_reducible refine ni ?_ ?_
  | with_reducible refine di ?_
  | with_reducible refine brD (fun _=>?_) fun _=>?_
  | with_reducible refine br (fun _=>?_) fun _=>?_
  | with_reducible refine bd gr fun _ _=>?_
  | with_reducible refine bd wr fun _ _=>?_
  | exact True.intro
  | omega
def Z8k (w:Z0v) (v:Z2x):Prop:=0≤v.Z37∧v.Z37<w.Z24.length∧0≤v.Z0s∧v.Z0s<w.Z1a.length
def Z90 (w:Z0v) (b:Z45):Prop:=0≤b.f_A∧b.f_A<w.Z24.length∧0≤b.f_B∧b.f_B<w.Z24.length
theorem Y91 (w:Z0v) (i:Int) (h:Z5f w) (h0:0≤i) (h1:i<w.Z2e.length):Ok (Zko w i) (fun b=>b=true→∀ v,w.Z2e[i.toNat]?=some v→Z8k w v):=by
 have:=h.iniL
 unfold Zko
 repeat' first
  | with_reducible refine bd gri fun _ _=>?_
  | unfold j59x1
  | with_reducible refine brD (fun _=>?_) fun _=>?_
  | with_reducible refine bd (L21x1 _ _ _ (by first|assumption|omega|exact And.left (by assumption)|(dsimp only; omega)) (by first|assumption|omega|exact And.left (by assumption)|(dsimp only; omega)) (by first|assumption|omega|exact And.left (by assumption)|(dsimp only; omega))) fun _ _=>?_
  | with_reducible refine ok ?_
  | split
  | ((intro hb v hv; first|(cases hb; done)|(have e:∀ a,w.Z2e[i.toNat]?=some a→a=v:=fun a ha=>by { rw [hv] at ha; cases ha; rfl }; have:=e _ (And.right (by assumption)); subst this; exact ⟨by omega,by omega,by omega,by omega⟩)))
theorem L35x2 (w:Z0v) (s:List UInt8) (l0:List Bool) (h:Z5f w) (hl:w.Z24.length≤8) (hc:∀ b∈w.Z31,Z90 w b) (h0:l0.length=w.Z24.length):Ok (Z07 (Zjg w s) Z08 (0,l0)) (fun r=>r.length=w.Z24.length):=by
 have:=h.conL
 refine lp (fun t=>t.1) (w.Z31.length) (fun t=>t.2.length=w.Z24.length) (fun t hI _ _=>?_) (by omega) (by exact h0) (by omega) (by omega)
 try dsimp only at*
 unfold Zjg
 repeat' first
  | with_reducible refine bd (ik (by have:=hc _ (by assumption); unfold Z90 at this; omega) (by have:=hc _ (by assumption); unfold Z90 at this; first|omega|(simp only [List.length_set]; omega))) fun _ _=>?_
  | with_reducible refine nx ?_ ?_ ?_
  | with_reducible refine dn ?_
  | unfold Zkt
  | with_reducible refine brD (fun _=>?_) fun _=>?_
  | with_reducible refine br (fun _=>?_) fun _=>?_
  | with_reducible refine bd gr fun _ _=>?_
  | with_reducible refine bd (la (by first|omega|(simp only [List.length_set,List.length_append,List.length_cons,List.length_nil,List.length_replicate]; omega))) fun _ _=>?_
  | with_reducible refine bd wr fun _ _=>?_
  | assumption
  | (simp only [List.length_set,List.length_append,List.length_cons,List.length_nil,List.length_replicate]; omega)
theorem L35x1 (w:Z0v) (s:List UInt8) (l0:List Bool) (h:Z5f w) (hl:w.Z24.length≤8) (hc:∀ b∈w.Z31,Z90 w b) (h0:l0.length=w.Z24.length):Ok (Z07 (Zhi w s) Z08 (0,l0)) (fun r=>r.length=w.Z24.length):=by
 refine lp (fun t=>t.1) (w.Z24.length) (fun t=>t.2.length=w.Z24.length) (fun t hI _ _=>?_) (by omega) (by exact h0) (by omega) (by omega)
 try dsimp only at*
 unfold Zhi
 repeat' first
  | with_reducible refine nx ?_ ?_ ?_
  | with_reducible refine dn ?_
  | with_reducible refine brD (fun _=>?_) fun _=>?_
  | with_reducible refine bd wr fun _ _=>?_
  | with_reducible refine bd (L35x2 _ _ _ (by first|assumption|omega|exact And.left (by assumption)|(dsimp only; omega)) (by first|assumption|omega|exact And.left (by assumption)|(dsimp only; omega)) (by first|assumption|omega|exact And.left (by assumption)|(dsimp only; omega)) (by first|assumption|omega|exact And.left (by assumption)|(dsimp only; omega))) fun _ _=>?_
  | omega
theorem Y7l (w:Z0v) (s:List UInt8) (k:Int) (h:Z5f w) (hl:w.Z24.length≤8) (hc:∀ b∈w.Z31,Z90 w b) (h0:0≤k) (h1:k<w.Z24.length):Ok (Zl1 w s k) (fun r=>r.length=w.Z24.length):=by
 unfold Zl1
 repeat' first
  | with_reducible refine bd (ik (by omega) (by first|omega|(simp only [List.length_set,List.length_append,List.length_cons,List.length_nil,List.length_replicate]; omega))) fun _ _=>?_
  | with_reducible refine bd (la (by first|omega|(simp only [List.length_set,List.length_append,List.length_cons,List.length_nil,List.length_replicate]; omega))) fun _ _=>?_
  | with_reducible refine bd (mk (by omega) (by omega) (by omega) (by omega)) fun _ _=>?_
  | with_reducible refine bd (L35x1 _ _ _ (by first|assumption|(simp only [List.length_set,List.length_replicate]; omega)) (by first|assumption|(simp only [List.length_set,List.length_replicate]; omega)) (by first|assumption|(simp only [List.length_set,List.length_replicate]; omega)) (by first|assumption|(simp only [List.length_set,List.length_replicate]; omega))) fun _ _=>?_
  | with_reducible refine ok ?_
  | assumption
theorem L22x1 (v:Z2x) (g:List Bool) (w:Z0v) (i:Int) (h:Z5f w) (h0:0≤i) (h1:i<w.Z2e.length) (hg:g.length=w.Z24.length) (hs:∀ (j:Nat) v,j<i→w.Z2e[j]?=some v→Z8k w v):Ok (Z07 (Zim v g w i) Z08 0) (fun _=>True):=by
 have:=h.iniL
 refine li (i) (fun t _ _=>?_) (by omega) (by omega) (by omega)
 unfold Zim
 repeat' first
  | with_reducible refine bd gri fun _ _=>?_
  | with_reducible refine bd (gr (by have:=hs t.toNat _ (by omega) (And.right (by assumption)); unfold Z8k at this; omega) (by have:=hs t.toNat _ (by omega) (And.right (by assumption)); unfold Z8k at this; omega)) fun _ _=>?_
  | with_reducible refine ni ?_ ?_
  | with_reducible refine di ?_
  | with_reducible refine brD (fun _=>?_) fun _=>?_
  | with_reducible refine br (fun _=>?_) fun _=>?_
  | with_reducible refine bd wr fun _ _=>?_
  | exact True.intro
  | omega
theorem Y51 (w:Z0v) (i:Int) (h:Z5f w) (hl:w.Z24.length≤8) (hc:∀ b∈w.Z31,Z90 w b) (h0:0≤i) (h1:i<w.Z2e.length) (hs:∀ (j:Nat) v,j≤i→w.Z2e[j]?=some v→Z8k w v):Ok (Zhh w i) (fun _=>True):=by
 have:=h.iniL
 unfold Zhh
 repeat' first
  | with_reducible refine bd gri fun _ _=>?_
  | with_reducible refine bd (Y7l _ _ _ h hl hc (by have:=hs i.toNat _ (by omega) (And.right (by assumption)); unfold Z8k at this; omega) (by have:=hs i.toNat _ (by omega) (And.right (by assumption)); unfold Z8k at this; omega)) fun _ _=>?_
  | with_reducible refine bd (L22x1 _ _ _ _ h h0 h1 (by assumption) (fun j v hj hv=>hs j v (by omega) hv)) fun _ _=>?_
  | with_reducible refine ok ?_
  | split
  | assumption
theorem L53x1 (x:List Z0k) (hl:x.length≤140737488355328):Ok (Z07 (Zo5 x) Z08 0) (fun _=>True):=by
 refine li (x.length) (fun t _ _=>?_) (by omega) (by omega) (by omega)
 unfold Zo5
 repeat' first
  | with_reducible refine ni ?_ ?_
  | with_reducible refine di ?_
  | with_reducible refine brD (fun _=>?_) fun _=>?_
  | with_reducible refine brN (fun _=>?_) fun _=>?_
  | with_reducible refine bd gr fun _ _=>?_
  | with_reducible refine bd wr fun _ _=>?_
  | exact True.intro
  | omega
theorem Y2e (x:List Z0k) (hl:x.length≤140737488355328):Ok (Zf1 x) (fun _=>True):=by
 unfold Zf1
 repeat' first
  | with_reducible refine bd (L53x1 _ (by first|assumption|omega|exact And.left (by assumption)|(dsimp only; omega))) fun _ _=>?_
  | with_reducible refine ok ?_
  | split
  | assumption
theorem L47x1 (u:Z0y) (h:Z5r u):Ok (Z07 (Znl u) Z08 0) (fun _=>True):=by
 have:=h.fldL
 refine li (u.Z15.length) (fun t _ _=>?_) (by omega) (by omega) (by omega)
 unfold Znl
 repeat' first
  | with_reducible refine ni ?_ ?_
  | with_reducible refine di ?_
  | unfold Zio
  | with_reducible refine brD (fun _=>?_) fun _=>?_
  | with_reducible refine br! (fun _=>?_) fun _=>?_
  | with_reducible refine brE (fun _=>?_) fun _=>?_
  | with_reducible refine brN (fun _=>?_) fun _=>?_
  | with_reducible refine bd gr fun _ _=>?_
  | with_reducible refine bd wr fun _ _=>?_
  | exact True.intro
  | omega
theorem L47x3 (m:Z2d) (h:Zb9 m):Ok (Z07 (Zlf m) Z08 0) (fun _=>True):=by
 have:=h.code.hndL
 refine li (m.Z1v.Z20.length) (fun t _ _=>?_) (by omega) (by omega) (by omega)
 unfold Zlf
 repeat' first
  | with_reducible refine ni ?_ ?_
  | with_reducible refine di ?_
  | with_reducible refine brD (fun _=>?_) fun _=>?_
  | with_reducible refine brN (fun _=>?_) fun _=>?_
  | with_reducible refine bd gr fun _ _=>?_
  | with_reducible refine bd wr fun _ _=>?_
  | exact True.intro
  | omega
theorem L47x4 (m:Z2d) (h:Zb9 m):Ok (Z07 (Zhx m) Z08 0) (fun _=>True):=by
 have:=h.code.mapL
 refine li (m.Z1v.Z1q.length) (fun t _ _=>?_) (by omega) (by omega) (by omega)
 unfold Zhx
 repeat' first
  | with_reducible refine bd (Y2e _ (by have:=(h.code.map _ (by assumption)).locL; omega)) fun _ _=>?_
  | with_reducible refine bd (Y2e _ (by have:=(h.code.map _ (by assumption)).stkL; omega)) fun _ _=>?_
  | with_reducible refine ni ?_ ?_
  | with_reducible refine di ?_
  | with_reducible refine brD (fun _=>?_) fun _=>?_
  | with_reducible refine br! (fun _=>?_) fun _=>?_
  | with_reducible refine bd gr fun _ _=>?_
  | with_reducible refine bd wr fun _ _=>?_
  | exact True.intro
  | omega
theorem L47x2 (u:Z0y) (h:Z5r u):Ok (Z07 (Zkn u) Z08 0) (fun _=>True):=by
 have:=h.metL
 refine li (u.Z13.length) (fun t _ _=>?_) (by omega) (by omega) (by omega)
 unfold Zkn
 repeat' first
  | with_reducible refine ni ?_ ?_
  | with_reducible refine di ?_
  | unfold Znw
  | with_reducible refine brD (fun _=>?_) fun _=>?_
  | with_reducible refine bd gr fun _ _=>?_
  | with_reducible refine bd wr fun _ _=>?_
  | with_reducible refine bd (L47x3 _ (by exact h.met _ (by assumption))) fun _ _=>?_
  | with_reducible refine bd (L47x4 _ (by exact h.met _ (by assumption))) fun _ _=>?_
  | with_reducible refine bs ?_
  | split
  | exact True.intro
  | omega
theorem Y6b (u:Z0y) (h:Z5r u):Ok (Zit u) (fun _=>True):=by
 unfold Zit
 repeat' first
  | with_reducible refine bd (L47x1 _ (by first|assumption|omega|exact And.left (by assumption)|(dsimp only; omega))) fun _ _=>?_
  | with_reducible refine bd (L47x2 _ (by first|assumption|omega|exact And.left (by assumption)|(dsimp only; omega))) fun _ _=>?_
  | with_reducible refine ok ?_
  | split
  | assumption
end Go.Proofs
set_option linter.unusedVariables false
namespace Go.Proofs
open Go.Den Go.Tot
structure Z19 (p:List Z00):Prop where
 len:p.length≤1000
 ord:∀ (k:Nat) c,p[k]?=some c→c.f_A≤k∧c.f_B≤k
 str:∀ c∈p,Str c.f_S
theorem Z19.app {p:List Z00} {c:Z00} (h:Z19 p) (hl:p.length<1000) (ha:c.f_A≤p.length) (hb:c.f_B≤p.length) (hs:Str c.f_S):Z19 (([]++p)++[c]):=by
 refine ⟨by simp; omega,fun k d hd=>?_,fun d hd=>?_⟩
 ·rw [List.nil_append] at hd
  rcases Nat.lt_trichotomy k p.length with h1|h1|h1
  ·rw [List.getElem?_append_left h1] at hd; exact h.ord k d hd
  ·subst h1
   rw [List.getElem?_append_right (Nat.le_refl _),Nat.sub_self] at hd
   cases hd; exact ⟨ha,hb⟩
  ·rw [List.getElem?_eq_none (by simp; omega)] at hd; cases hd
 ·rw [List.nil_append] at hd
  rcases List.mem_append.1 hd with hd|hd
  ·exact h.str d hd
  ·rw [List.mem_singleton.1 hd]; exact hs
theorem Z19.nil:Z19 [] :=⟨by simp,fun k c h=>by simp at h,fun c h=>by simp at h⟩
abbrev PR (p:List Z00) (r:List Z00×Int×Int):Prop:=Z19 r.1∧p.length≤r.1.length∧0≤r.2.1∧r.2.1≤r.1.length∧r.1.length≤1000
theorem Z77 {α:Type} {P:α→Prop} {l:List α} {x:α} (h:∀ v∈l,P v) (hx:P x):∀ v∈l++[x],P v:=fun v hv=>by
 rcases List.mem_append.1 hv with hv|hv
 ·exact h v hv
 ·rw [List.mem_singleton.1 hv]; exact hx
theorem Z4t {α:Type} {P:α→Prop}:∀ v∈([]:List α),P v:=fun v hv=>by simp at hv
theorem W0 {op a:Int}:Z35 { f_Op:=op,f_A:=a,f_B:=0,f_To:=0,Z0z:=[],Z0c:=[],Z1f:={ Z0s:=[],Z0f:=[],Z2i:=[] },f_S:=[] }:=⟨by simp,by simp,⟨by simp,by simp,by simp⟩,by simp⟩
theorem L77x1 (p:List Z00) (c:Z00) (hp:Z19 p):Ok (Z07 (Zl7 p c) Z08 0) (fun q=>match q with|.inl _=>True|.inr y=>PR p y):=by
 have:=hp.len
 refine li (p.length) (fun t _ _=>?_) (by omega) (by omega) (by omega)
 unfold Zl7
 repeat' first
  | with_reducible refine ni ?_ ?_
  | with_reducible refine di ?_
  | with_reducible refine brD (fun _=>?_) fun _=>?_
  | with_reducible refine br (fun _=>?_) fun _=>?_
  | with_reducible refine bd gr fun _ _=>?_
  | with_reducible refine bd wr fun _ _=>?_
  | with_reducible refine And.intro ?_ ?_
  | exact True.intro
  | omega
  | (dsimp only; omega)
theorem Zh0 (p:List Z00) (c:Z00) (hp:Z19 p) (ha:c.f_A≤p.length) (hb:c.f_B≤p.length) (hs:Str c.f_S):Ok (Z9c p c) (PR p):=by
 have:=hp.len
 unfold Z9c
 repeat' first
  | with_reducible refine brD (fun _=>?_) fun _=>?_
  | with_reducible refine bd wr fun _ _=>?_
  | with_reducible refine bd gk fun _ _=>?_
  | with_reducible refine bd (L77x1 _ _ (by first|assumption|omega|exact And.left (by assumption)|(dsimp only; omega))) fun _ _=>?_
  | with_reducible refine ok ?_
  | split
  | (first|exact ⟨hp.app (by omega) ha hb hs,by simp,by dsimp only; omega,by simp; omega,by simp; omega⟩|exact ⟨hp,by dsimp only; omega,by dsimp only; omega,by dsimp only; omega,by dsimp only; omega⟩|(dsimp only at *; assumption))
theorem Zf4 (p:List Z00) (s:List UInt8) (hp:Z19 p) (hs:Str s):Ok (Za6 p s) (PR p):=by
 have:=hp.len
 unfold Za6
 repeat' first
  | with_reducible refine bd (Zh0 _ _ (by first|assumption|omega|(dsimp only; omega)|exact And.left (by assumption)|(simp; done)) (by first|assumption|omega|(dsimp only; omega)|exact And.left (by assumption)|(simp; done)) (by first|assumption|omega|(dsimp only; omega)|exact And.left (by assumption)|(simp; done)) (by first|assumption|omega|(dsimp only; omega)|exact And.left (by assumption)|(simp; done))) fun _ _=>?_
  | with_reducible refine ok ?_
  | (first|exact ⟨by first|exact hp|exact And.left (by assumption),by dsimp only; omega,by dsimp only; omega,by dsimp only; omega,by dsimp only; omega⟩|exact ⟨hp,by dsimp only; omega,by dsimp only; omega,by dsimp only; omega,by dsimp only; omega⟩)
theorem Y0a (p:List Z00) (tag:Int) (s:List UInt8) (hp:Z19 p) (hs:Str s):Ok (Zgi p tag s) (PR p):=by
 have:=hp.len
 unfold Zgi
 repeat' first
  | with_reducible refine brN (fun _=>?_) fun _=>?_
  | with_reducible refine bd (Zf4 _ _ (by first|assumption|omega|exact And.left (by assumption)|(dsimp only; omega)) (by first|assumption|omega|exact And.left (by assumption)|(dsimp only; omega))) fun _ _=>?_
  | with_reducible refine bd (Zh0 _ _ (by first|assumption|omega|(dsimp only; omega)|exact And.left (by assumption)|(simp; done)) (by first|assumption|omega|(dsimp only; omega)|exact And.left (by assumption)|(simp; done)) (by first|assumption|omega|(dsimp only; omega)|exact And.left (by assumption)|(simp; done)) (by first|assumption|omega|(dsimp only; omega)|exact And.left (by assumption)|(simp; done))) fun _ _=>?_
  | with_reducible refine ok ?_
  | (first|exact ⟨by first|exact hp|exact And.left (by assumption),by dsimp only; omega,by dsimp only; omega,by dsimp only; omega,by dsimp only; omega⟩|exact ⟨hp,by dsimp only; omega,by dsimp only; omega,by dsimp only; omega,by dsimp only; omega⟩)
theorem Ztl (p:List Z00) (s:List UInt8) (hp:Z19 p) (hs:Str s):Ok (Zbz p s) (PR p):=by
 have:=hp.len
 unfold Zbz
 repeat' first
  | with_reducible refine bd (Y0a _ _ _ (by first|assumption|omega|exact And.left (by assumption)|(dsimp only; omega)) (by first|assumption|omega|exact And.left (by assumption)|(dsimp only; omega))) fun _ _=>?_
  | with_reducible refine ok ?_
  | (first|exact ⟨by first|exact hp|exact And.left (by assumption),by dsimp only; omega,by dsimp only; omega,by dsimp only; omega,by dsimp only; omega⟩|exact ⟨hp,by dsimp only; omega,by dsimp only; omega,by dsimp only; omega,by dsimp only; omega⟩)
theorem Y47 (p:List Z00) (s:List UInt8) (hp:Z19 p) (hs:Str s):Ok (Zgv p s) (PR p):=by
 have:=hp.len
 unfold Zgv
 repeat' first
  | with_reducible refine bd (Y0a _ _ _ (by first|assumption|omega|exact And.left (by assumption)|(dsimp only; omega)) (by first|assumption|omega|exact And.left (by assumption)|(dsimp only; omega))) fun _ _=>?_
  | with_reducible refine ok ?_
  | (first|exact ⟨by first|exact hp|exact And.left (by assumption),by dsimp only; omega,by dsimp only; omega,by dsimp only; omega,by dsimp only; omega⟩|exact ⟨hp,by dsimp only; omega,by dsimp only; omega,by dsimp only; omega,by dsimp only; omega⟩)
theorem Zgb (x:Z0u) (s:List UInt8) (hp:Z19 x.f_P) (hs:Str s):Ok (Z9s x s) (fun r=>Z19 r.1.f_P):=by
 unfold Z9s
 repeat' first
  | with_reducible refine brN (fun _=>?_) fun _=>?_
  | with_reducible refine bd (Ztl _ _ (by first|assumption|omega|exact And.left (by assumption)|(dsimp only; omega)) (by first|assumption|omega|exact And.left (by assumption)|(dsimp only; omega))) fun _ _=>?_
  | with_reducible refine ok ?_
  | (exact And.left (by assumption))
  | assumption
theorem Z80 (x:Z0u) (s:List UInt8) (hp:Z19 x.f_P) (hs:Str s):Ok (Z6l x s) (fun r=>Z19 r.1.f_P):=by
 unfold Z6l
 repeat' first
  | with_reducible refine brN (fun _=>?_) fun _=>?_
  | with_reducible refine bd (Zf4 _ _ (by first|assumption|omega|exact And.left (by assumption)|(dsimp only; omega)) (by first|assumption|omega|exact And.left (by assumption)|(dsimp only; omega))) fun _ _=>?_
  | with_reducible refine ok ?_
  | (exact And.left (by assumption))
  | assumption
theorem Y6d (x:Z0u) (f:Z5s) (hp:Z19 x.f_P) (hf:Zt5 f):Ok (Zl9 x f) (fun r=>Z19 r.1.f_P):=by
 unfold Zl9
 repeat' first
  | unfold Zhd
  | with_reducible refine brE (fun _=>?_) fun _=>?_
  | with_reducible refine brN (fun _=>?_) fun _=>?_
  | with_reducible refine bd (Y47 _ _ (by first|exact hf.s|assumption) (by first|exact hf.s|assumption)) fun _ _=>?_
  | with_reducible refine bd (Zh0 _ _ (by first|assumption|omega|(dsimp only; omega)|exact And.left (by assumption)|(simp; done)) (by first|assumption|omega|(dsimp only; omega)|exact And.left (by assumption)|(simp; done)) (by first|assumption|omega|(dsimp only; omega)|exact And.left (by assumption)|(simp; done)) (by first|assumption|omega|(dsimp only; omega)|exact And.left (by assumption)|(simp; done))) fun _ _=>?_
  | with_reducible refine ok ?_
  | (exact And.left (by assumption))
  | assumption
theorem Y6v (p:List Z00) (tag:Int) (r:Z1w) (hp:Z19 p) (hr:WRef r):Ok (Zde p tag r) (PR p):=by
 have:=hp.len
 unfold Zde
 repeat' first
  | with_reducible refine bd (Zf4 _ _ (And.left (by assumption)) hr.n) fun _ _=>?_
  | with_reducible refine bd (Zf4 _ _ (And.left (by assumption)) hr.d) fun _ _=>?_
  | with_reducible refine brN (fun _=>?_) fun _=>?_
  | with_reducible refine bd (Ztl _ _ (by first|exact hr.c|assumption) (by first|exact hr.c|assumption)) fun _ _=>?_
  | with_reducible refine bd (Zh0 _ _ (by first|assumption|omega|(dsimp only; omega)|exact And.left (by assumption)|(simp; done)) (by first|assumption|omega|(dsimp only; omega)|exact And.left (by assumption)|(simp; done)) (by first|assumption|omega|(dsimp only; omega)|exact And.left (by assumption)|(simp; done)) (by first|assumption|omega|(dsimp only; omega)|exact And.left (by assumption)|(simp; done))) fun _ _=>?_
  | with_reducible refine ok ?_
  | (first|exact ⟨by first|exact hp|exact And.left (by assumption),by dsimp only; omega,by dsimp only; omega,by dsimp only; omega,by dsimp only; omega⟩|exact ⟨hp,by dsimp only; omega,by dsimp only; omega,by dsimp only; omega,by dsimp only; omega⟩)
theorem Y3j (x:Int):Ok (Zbc x) (fun _=>True):=by
 unfold Zbc
 repeat' with_reducible first
  | refine brD (fun _=>?_) fun _=>?_
  | refine ok ?_
  | exact True.intro
theorem Zwr (x a b:Int):Ok (Z7h x a b) (fun _=>True):=by
 unfold Z7h
 repeat' with_reducible first
  | refine brD (fun _=>?_) fun _=>?_
  | refine ok ?_
  | exact True.intro
theorem Zyk (x:Int):Ok (Ze1 x) (fun _=>True):=by
 unfold Ze1
 repeat' with_reducible first
  | refine brD (fun _=>?_) fun _=>?_
  | refine ok ?_
  | exact True.intro
theorem Y9m (x:Int):Ok (Zhn x) (fun _=>True):=by
 unfold Zhn
 repeat' with_reducible first
  | refine brD (fun _=>?_) fun _=>?_
  | refine ok ?_
  | exact True.intro
theorem Zvg (x:Int):Ok (Zgh x) (fun _=>True):=by
 unfold Zgh
 repeat' with_reducible first
  | refine brE (fun _=>?_) fun _=>?_
  | refine ok ?_
  | exact True.intro
theorem Zr8 (x:Int):Ok (Zgt x) (fun _=>True):=by
 unfold Zgt
 repeat' with_reducible first
  | refine brD (fun _=>?_) fun _=>?_
  | refine ok ?_
  | exact True.intro
theorem Y2q (x:Int):Ok (Z7m x) (fun _=>True):=by
 unfold Z7m
 repeat' first
  | unfold Zno
  | unfold Zid
  | with_reducible refine br (fun _=>?_) fun _=>?_
  | with_reducible refine bd (Y3j _) fun _ _=>?_
  | with_reducible refine bd (Zwr _ _ _) fun _ _=>?_
  | with_reducible refine ok ?_
  | assumption
theorem Y8i (x:Z02) (k:Int):Ok (Zcw x k) (fun _=>True):=by
 unfold Zcw
 repeat' with_reducible first
  | unfold Zkp
  | unfold Zdy
  | unfold Zeu
  | refine br! (fun _=>?_) fun _=>?_
  | refine brE (fun _=>?_) fun _=>?_
  | refine brN (fun _=>?_) fun _=>?_
  | refine ok ?_
  | exact True.intro
theorem L114x1 (x:Z02) (hx:Z35 x):Ok (Z07 (Zcp x) Z08 0) (fun _=>True):=by
 have:=hx.tos
 refine li (x.Z0c.length) (fun t _ _=>?_) (by omega) (by omega) (by omega)
 unfold Zcp
 repeat' first
  | with_reducible refine ni ?_ ?_
  | with_reducible refine di ?_
  | with_reducible refine brD (fun _=>?_) fun _=>?_
  | with_reducible refine bd gr fun _ _=>?_
  | with_reducible refine bd wr fun _ _=>?_
  | exact True.intro
  | omega
theorem Y6p (x:Z02) (hx:Z35 x):Ok (Z97 x) (fun _=>True):=by
 unfold Z97
 repeat' with_reducible first
  | unfold Zmq
  | refine bd (L114x1 _ (by first|assumption|omega|exact And.left (by assumption)|(dsimp only; omega))) fun _ _=>?_
  | refine ok ?_
  | split
  | exact True.intro
theorem Zxz (x:Z02) (hx:Z35 x):Ok (Z07 (Zmt x) Z08 0) (fun _=>True):=by
 have:=hx.keys
 refine li (x.Z0z.length) (fun t _ _=>?_) (by omega) (by omega) (by omega)
 unfold Zmt
 repeat' first
  | with_reducible refine ni ?_ ?_
  | with_reducible refine di ?_
  | with_reducible refine brD (fun _=>?_) fun _=>?_
  | with_reducible refine br! (fun _=>?_) fun _=>?_
  | with_reducible refine bd gr fun _ _=>?_
  | with_reducible refine bd wr fun _ _=>?_
  | with_reducible refine bd (Zr8 _) fun _ _=>?_
  | exact True.intro
  | omega
theorem Zy4 (x:Z02) (hx:Z35 x):Ok (Z07 (Zng x) Z08 1) (fun _=>True):=by
 have:=hx.keys
 refine lp (fun t=>t) (max 1 x.Z0z.length) (fun t=>1≤t) (fun t hI _ _=>?_) (by omega) (by omega) (by omega) (by omega)
 unfold Zng
 repeat' first
  | with_reducible refine nx ?_ ?_ ?_
  | with_reducible refine dn ?_
  | with_reducible refine brD (fun _=>?_) fun _=>?_
  | with_reducible refine bd gr fun _ _=>?_
  | with_reducible refine bd wr fun _ _=>?_
  | exact True.intro
  | omega
theorem Y7d (x:Z02) (hx:Z35 x):Ok (Zch x) (fun _=>True):=by
 unfold Zch
 repeat' with_reducible first
  | unfold Zl6
  | unfold Zjy
  | refine brD (fun _=>?_) fun _=>?_
  | refine bd wr fun _ _=>?_
  | refine bd (Zr8 _) fun _ _=>?_
  | refine bd (Zxz _ (by first|assumption|omega|exact And.left (by assumption)|(dsimp only; omega))) fun _ _=>?_
  | refine bd (Zy4 _ (by assumption)) fun _ _=>?_
  | refine ok ?_
  | split
  | exact True.intro
theorem Y8n (x:Z02) (hx:Z35 x):Ok (Z61 x) (fun _=>True):=by
 unfold Z61
 repeat' first
  | unfold Z9q
  | unfold Zam
  | unfold Zcd
  | unfold Z9i
  | unfold Zbr
  | with_reducible refine brD (fun _=>?_) fun _=>?_
  | with_reducible refine br! (fun _=>?_) fun _=>?_
  | with_reducible refine brE (fun _=>?_) fun _=>?_
  | with_reducible refine bd (Y2q _) fun _ _=>?_
  | with_reducible refine bd (Y8i _ _) fun _ _=>?_
  | with_reducible refine bd (Y6p _ (by first|assumption|omega|exact And.left (by assumption)|(dsimp only; omega))) fun _ _=>?_
  | with_reducible refine bd (Y7d _ (by first|assumption|omega|exact And.left (by assumption)|(dsimp only; omega))) fun _ _=>?_
  | with_reducible refine ok ?_
  | assumption
theorem Y54 (x:Z02) (hx:Z35 x):Ok (Znz x) (fun _=>True):=by
 unfold Znz
 repeat' with_reducible first
  | unfold Zpe
  | unfold Znh
  | unfold Zf5
  | refine br (fun _=>?_) fun _=>?_
  | refine bd (Zyk _) fun _ _=>?_
  | refine bd (Y9m _) fun _ _=>?_
  | refine bd (Zvg _) fun _ _=>?_
  | refine bs ?_
  | refine ok ?_
  | exact True.intro
theorem Y06 (x:Int):Ok (Zfi x) (fun l=>l.length≤3):=by
 unfold Zfi
 repeat' first
  | unfold Zos
  | unfold Zra
  | unfold Zp2
  | unfold Zq0
  | with_reducible refine br (fun _=>?_) fun _=>?_
  | with_reducible refine bd (Zwr _ _ _) fun _ _=>?_
  | with_reducible refine ok ?_
  | (first|(simp; done)|decide)
theorem L158x1 (l:List Int) (x:Int) (hl:l.length≤140737488355328):Ok (Z07 (Zhc l x) Z08 0) (fun _=>True):=by
 refine li (l.length) (fun t _ _=>?_) (by omega) (by omega) (by omega)
 unfold Zhc
 repeat' first
  | with_reducible refine ni ?_ ?_
  | with_reducible refine di ?_
  | with_reducible refine brD (fun _=>?_) fun _=>?_
  | with_reducible refine brE (fun _=>?_) fun _=>?_
  | with_reducible refine bd gr fun _ _=>?_
  | with_reducible refine bd wr fun _ _=>?_
  | exact True.intro
  | omega
theorem Y4x (l:List Int) (x:Int) (hl:l.length≤140737488355328):Ok (Znf l x) (fun _=>True):=by
 unfold Znf
 repeat' first
  | with_reducible refine bd (L158x1 _ _ (by first|assumption|omega|exact And.left (by assumption)|(dsimp only; omega))) fun _ _=>?_
  | with_reducible refine ok ?_
  | split
  | assumption
theorem Y8y (p:List Z00) (x:Z02) (hp:Z19 p) (hx:Z35 x):Ok (Zkr p x) (PR p):=by
 have:=hp.len
 unfold Zkr
 repeat' first
  | unfold Zso
  | unfold Zib
  | unfold Znm
  | unfold Zrl
  | with_reducible refine br (fun _=>?_) fun _=>?_
  | with_reducible refine bd (Y47 _ _ (by first|exact hx.s|assumption) (by first|exact hx.s|assumption)) fun _ _=>?_
  | with_reducible refine bd (Zh0 _ _ (by first|assumption|omega|(dsimp only; omega)|exact And.left (by assumption)|(simp; done)) (by first|assumption|omega|(dsimp only; omega)|exact And.left (by assumption)|(simp; done)) (by first|assumption|omega|(dsimp only; omega)|exact And.left (by assumption)|(simp; done)) (by first|assumption|omega|(dsimp only; omega)|exact And.left (by assumption)|(simp; done))) fun _ _=>?_
  | with_reducible refine bd (Zvg _) fun _ _=>?_
  | with_reducible refine bd (Ztl _ _ (by first|exact hx.ref.c|assumption) (by first|exact hx.ref.c|assumption)) fun _ _=>?_
  | with_reducible refine bd (Zf4 _ _ (by first|exact hx.s|assumption) (by first|exact hx.s|assumption)) fun _ _=>?_
  | with_reducible refine bd (Zyk _) fun _ _=>?_
  | with_reducible refine bd (Y6v _ _ _ (by first|exact hx.ref|assumption) (by first|exact hx.ref|assumption)) fun _ _=>?_
  | with_reducible refine ok ?_
  | (first|exact ⟨by first|exact hp|exact And.left (by assumption),by dsimp only; omega,by dsimp only; omega,by dsimp only; omega,by dsimp only; omega⟩|exact ⟨hp,by dsimp only; omega,by dsimp only; omega,by dsimp only; omega,by dsimp only; omega⟩)
theorem Y6w (p:List Z00) (x:Z02) (hp:Z19 p) (hx:Z35 x):Ok (Znv p x) (fun r=>Z19 r.1∧Z35 r.2.1):=by
 unfold Znv
 repeat' first
  | unfold Zlp
  | unfold Zeq
  | with_reducible refine br! (fun _=>?_) fun _=>?_
  | with_reducible refine brE (fun _=>?_) fun _=>?_
  | with_reducible refine brN (fun _=>?_) fun _=>?_
  | with_reducible refine bd (Y3j _) fun _ _=>?_
  | with_reducible refine bd (Y2q _) fun _ _=>?_
  | with_reducible refine bd (Y8n _ (by first|assumption|omega|exact And.left (by assumption)|(dsimp only; omega))) fun _ _=>?_
  | with_reducible refine bd (Y54 _ (by first|assumption|omega|exact And.left (by assumption)|(dsimp only; omega))) fun _ _=>?_
  | with_reducible refine bd (Y06 _) fun _ _=>?_
  | with_reducible refine bd (Y4x _ _ (by first|assumption|omega|exact And.left (by assumption)|(dsimp only; omega))) fun _ _=>?_
  | with_reducible refine bd (Y8y _ _ (by first|assumption|omega|exact And.left (by assumption)|(dsimp only; omega)) (by first|assumption|omega|exact And.left (by assumption)|(dsimp only; omega))) fun _ _=>?_
  | with_reducible refine ok ?_
  | (first|exact ⟨hp,W0⟩|exact ⟨hp,hx⟩|exact ⟨And.left (by assumption),W0⟩)
theorem Y9z (x:Z0u) (i:Z02) (hp:Z19 x.f_P) (hx:Z35 i):Ok (Zjd x i) (fun r=>Z19 r.1.f_P∧Z35 r.2):=by
 unfold Zjd
 repeat' first
  | with_reducible refine brN (fun _=>?_) fun _=>?_
  | with_reducible refine bd (Y6w _ _ (by first|assumption|omega|exact And.left (by assumption)|(dsimp only; omega)) (by first|assumption|omega|exact And.left (by assumption)|(dsimp only; omega))) fun _ _=>?_
  | with_reducible refine ok ?_
  | (first|exact ⟨hp,W0⟩|(dsimp only; assumption))
end Go.Proofs
set_option linter.unusedVariables false
namespace Go.Proofs
open Go.Den Go.Tot
theorem Y7r (l:List Int):(bytesOf l).length=l.length:=by simp [bytesOf]
theorem Y0c {n:Int} (hn:n=1∨n=2∨n=4):Zis n=some true:=by
 rcases hn with rfl|rfl|rfl <;> rfl
theorem L62x1 (x n k:Int) (l:List Int) (hk:k=n - 1) (h0:0≤n) (hl:(l.length:Int)=n) (hn:n≤8):Ok (Z07 Zma Z08 (x,k,l)) (fun r=>(r.length:Int)=n):=by
 refine lp (fun t=>n - 1 - t.2.1) n (fun t=>(t.2.2.length:Int)=n) (fun t hI h0 h1=>?_) (by omega) hl
 unfold Zma
 refine brD (fun hlt=>?_) fun hge=>dn hI
 refine bs (bs (bd ik fun j hj=>bd (la (by omega)) fun _ _=>?_))
 refine bd (P:=fun _=>True) ⟨_,by unfold shrK; rw [if_pos (by decide)],trivial⟩ fun _ _=>bd wr fun v hv=>nx ?_
 dsimp only
 rw [List.length_set]; exact hI
theorem Zh2 (x n:Int) (hn:n=1∨n=2∨n=4):Ok (Z9n x n) (fun r=>(r.1.length:Int)≤n):=by
 have hj:Ok (Zdv x n) (fun r=>(r.1.length:Int)≤n):=by
  unfold Zdv
  refine bd (mk (by omega) (by omega) (by omega) (by omega)) fun _ _=>bd wr fun k hk=>?_
  exact bd (L62x1 x n k _ hk (by omega) (by simp; omega) (by omega)) fun q hq=>ok (by dsimp only; rw [Y7r]; omega)
 unfold Z9n
 rw [Y0c hn]
 refine bs (br! (fun h=>by cases h) fun _=>brD (fun _=>?_) fun _=>hj)
 have hs:∀ y:Int,0≤y→Ok (Z7i .i64 1 y) (fun _=>True):=fun y hy=>⟨_,by unfold Z7i; rw [if_pos hy],trivial⟩
 refine bd wr fun _ _=>bd wr fun _ _=>bd (hs _ (by omega)) fun _ _=>bs (brD (fun _=>ok (by dsimp only; simp; omega)) fun _=>?_)
 exact bd wr fun _ _=>bd (hs _ (by omega)) fun _ _=>bs (brD (fun _=>ok (by dsimp only; simp; omega)) fun _=>hj)
theorem Zwo (x:Int):Ok (Znc x) (fun r=>r.length≤2):=bd (Zh2 x 2 (.inr (.inl rfl))) fun v h=>ok (by omega)
theorem Z5p (x:Int):Ok (Z54 x) (fun r=>r.length≤2):=bd (Zh2 x 2 (.inr (.inl rfl))) fun v h=>ok (by omega)
theorem Zoy (x:Int):Ok (Zfo x) (fun r=>r.length≤1):=bd (Zh2 x 1 (.inl rfl)) fun v h=>ok (by omega)
theorem Y6f (x n:Int) (hn:n=1∨n=2∨n=4):Ok (Z59 x n) (fun r=>r.length≤4):=bd (Zh2 x n hn) fun v h=>ok (by omega)
theorem Y62 (s:List UInt8) (a n:Int) (hn:n=1∨n=2∨n=4) (hl:Str s):Ok (Zk7 s a n) (fun e=>e=0→0≤a∧a+n≤s.length):=by
 unfold Zk7
 rw [Y0c hn]
 refine bs (br! (fun h=>by cases h) fun _=>brD (fun _=>ok (by omega)) fun _=>brD (fun _=>ok (by omega)) fun _=>?_)
 unfold Ztf
 exact bd wr fun v hv=>brD (fun _=>ok (by omega)) fun _=>ok (by omega)
def Sg (n v:Int):Prop:=(n=1∧ -128≤v∧v<128)∨(n=2∧ -32768≤v∧v<32768)∨(n=3∧ -8388608≤v∧v<8388608)∨(n=4∧ -2147483648≤v∧v<2147483648)
theorem L134x1 (s : List UInt8) (a n p : Int) (hn:1≤n∧n≤4) (hl:Str s) (h0:0≤a) (h1:a+n≤s.length) (hp: -128≤p∧p<128):Ok (Z07 (Zic s a n) Z08 (p,1)) (Sg n):=by
 refine lp (fun t=>t.2) n (fun t=>Sg t.2 t.1) (fun t hI g0 g1=>?_) (by omega) (.inl ⟨rfl,hp⟩)
 unfold Zic
 unfold Sg at hI
 refine brD (fun hlt => ?_) fun hge => dn (by have:t.2=n:=by omega
                                              rw [← this]; exact hI)
 refine bd wr fun v9 e9=>bd wr fun v10 e10=>bd gs fun v11 e11=>bd wr fun v12 e12=>bd wr fun v13 e13=>bd wr fun v14 e14=>?_
 exact nx (by dsimp only; unfold Sg; omega)
theorem Zwa (s:List UInt8) (a n:Int) (hn:n=1∨n=2∨n=4) (hl:Str s):Ok (Zek s a n) (fun r=>(r.2=0→0≤a∧a+n≤s.length∧Sg n r.1)∧(r.2≠0→r.1=0)):=by
 unfold Zek
 refine bd (Y62 s a n hn hl) fun v0 h0=>brN (fun h=>ok ⟨fun h'=>absurd h' h,fun _=>rfl⟩) fun h=>?_
 obtain ⟨k0,k1⟩:=h0 h
 refine bd gs fun v1 h1=>bd wr fun v2 h2=>?_
 have key:∀ p:Int,-128≤p→p<128→Ok (Zf7 s a n p) (fun r=>(r.2=0→0≤a∧a+n≤s.length∧Sg n r.1)∧(r.2≠0→r.1=0)):=fun p h h'=>by
  unfold Zf7
  exact bd (L134x1 s a n p (by omega) hl k0 k1 ⟨h,h'⟩) fun q hq=>ok ⟨fun _=>⟨k0,k1,hq⟩,fun h=>absurd rfl h⟩
 exact brD (fun _=>bd wr fun v3 h3=>key v3 (by omega) (by omega)) fun _=>key v2 (by omega) (by omega)
def Us (n v:Int):Prop:=0≤v∧(n=1→v<256)∧(n=2→v<65536)∧(n=4→v<4294967296)
theorem Zg5 (s:List UInt8) (a n:Int) (hn:n=1∨n=2∨n=4) (hl:Str s):Ok (Z9g s a n) (fun r=>(r.2=0→0≤a∧a+n≤s.length)∧Us n r.1):=by
 unfold Z9g
 refine bd (Zwa s a n hn hl) fun v h=>?_
 have h2:=h.2
 refine brE (fun he=>?_) fun he=>ok ⟨fun h'=>absurd h' he,by dsimp only; unfold Us; rw [h2 he]; omega⟩
 obtain ⟨h0,h1,hs⟩:=h.1 he
 unfold Sg at hs
 refine brD (fun _=>brD (fun hneg=>?_) fun hnn=>ok ⟨fun _=>⟨h0,h1⟩,by dsimp only; unfold Us; omega⟩) fun hlt=>absurd hlt (by omega)
 unfold Zrs
 rcases hn with rfl|rfl|rfl
 ·refine bd wr fun v1 e1=>?_
  subst e1
  rw [show Z7i .i64 1 (8*1)=some 256 by decide]
  exact bs (bd wr fun v3 e3=>ok ⟨fun _=>⟨h0,h1⟩,by dsimp only; unfold Us; omega⟩)
 ·refine bd wr fun v1 e1=>?_
  subst e1
  rw [show Z7i .i64 1 (8*2)=some 65536 by decide]
  exact bs (bd wr fun v3 e3=>ok ⟨fun _=>⟨h0,h1⟩,by dsimp only; unfold Us; omega⟩)
 ·refine bd wr fun v1 e1=>?_
  subst e1
  rw [show Z7i .i64 1 (8*4)=some 4294967296 by decide]
  exact bs (bd wr fun v3 e3=>ok ⟨fun _=>⟨h0,h1⟩,by dsimp only; unfold Us; omega⟩)
def Z5k (s:List UInt8) (r:Z1c):Prop:=r.f_S=s∧0≤r.f_At∧r.f_At≤s.length
theorem Z4q (s:List UInt8) (r:Z1c) (n:Int) (hn:n=1∨n=2∨n=4) (hl:Str s) (hr:Z5k s r):Ok (Z43 r n) (fun x=>Us n x.1∧Z5k s x.2):=by
 obtain ⟨h1,h2,h3⟩:=hr
 unfold Z43
 rw [h1]
 refine bd (Zg5 s r.f_At n hn hl) fun v hv=>br (fun _=>ok ⟨by dsimp only; unfold Us; omega,rfl,h2,h3⟩) fun _=>brN (fun _=>ok ⟨by dsimp only; unfold Us; omega,rfl,h2,h3⟩) fun he=>?_
 obtain ⟨k0,k1⟩:=hv.1 he
 exact bd wr fun v1 e1=>ok ⟨hv.2,rfl,by dsimp only; omega,by dsimp only; omega⟩
abbrev SL_:=Int×(List UInt8)×Int×Bool×(List Z0k)
def IL (s:List UInt8) (t:SL_):Prop:=Z5k s ⟨t.2.1,t.2.2.1,t.2.2.2.1⟩∧(t.2.2.2.2.length:Int)=t.1∧∀ v∈t.2.2.2.2,v.Z12.Z0f=[]
def QL (s:List UInt8) (q:(List UInt8)×Int×Bool×(List Z0k)):Prop:=Z5k s ⟨q.1,q.2.1,q.2.2.1⟩∧q.2.2.2.length≤256∧∀ v∈q.2.2.2,v.Z12.Z0f=[]
theorem Z9b {α:Type} {P:α→Prop} {l:List α} {x:α} (h:∀ v∈l,P v) (hx:P x):∀ v∈l++[x],P v:=fun v hv=>by
 rcases List.mem_append.1 hv with hv|hv
 ·exact h v hv
 ·rw [List.mem_singleton.1 hv]; exact hx
theorem Zph {s:List UInt8} {n p11 p13 p15:Int} {t0:SL_} {v5:Int×Z1c} {p12:List UInt8} {p14:Bool} (hI:IL s t0) (hr:Z5k s ⟨p12,p13,p14⟩) (h0:0≤t0.1) (h1:t0.1<n) (hn:n≤256):Ok (Zc1 p11 t0 v5 p12 p13 p14 p15) (St (IL s) (fun t=>t.1) n (QL s) t0):=by
 unfold Zc1
 have:=hI.2.1
 refine bd gk fun _ _=>bd wr fun _ hv=>?_
 exact nx ⟨hr,by simp only [List.length_append,List.length_cons,List.length_nil]; omega,Z9b hI.2.2 rfl⟩
theorem Zzq {s:List UInt8} (hs:Str s) {n p9 p11:Int} {t0:SL_} {v5:Int×Z1c} {p8:List UInt8} {p10:Bool} (hI:IL s t0) (hr:Z5k s ⟨p8,p9,p10⟩) (h0:0≤t0.1) (h1:t0.1<n) (hn:n≤256):Ok (Zf3 t0 v5 p8 p9 p10 p11) (St (IL s) (fun t=>t.1) n (QL s) t0):=by
 unfold Zf3
 refine brD (fun _=>brD (fun _=>?_) fun _=>Zph hI hr h0 h1 hn) fun _=>Zph hI hr h0 h1 hn
 unfold Zpf
 exact bd (Z4q s _ 2 (by omega) hs hr) fun v hv=>Zph hI hv.2 h0 h1 hn
theorem Y1y (s:List UInt8) (r:Z1c) (hs:Str s) (hr:Z5k s r):Ok (Zg9 r) (fun x=>(x.1.length≤256∧∀ v∈x.1,v.Z12.Z0f=[])∧Z5k s x.2):=by
 unfold Zg9
 refine bd (Z4q s r 1 (by omega) hs hr) fun v0 h0=>bd (P:=QL s) ?_ fun q hq=>ok ⟨hq.2,hq.1⟩
 have hu:0≤v0.1∧v0.1<256:=⟨h0.1.1,h0.1.2.1 rfl⟩
 refine lp (fun t=>t.1) v0.1 (IL s) (fun t hI g0 g1=>?_) (by omega) ⟨h0.2,rfl,fun v hv=>by simp at hv⟩
 have hl:=hI.2.1
 have hd:QL s (t.2.1,t.2.2.1,t.2.2.2.1,t.2.2.2.2):=⟨hI.1,by dsimp only at *; omega,hI.2.2⟩
 unfold Zps
 refine brD (fun hlt=>br! (fun _=>?_) fun _=>dn hd) fun _=>dn hd
 unfold Zs6
 exact bd (Z4q s _ 1 (by omega) hs hI.1) fun v5 h5=>brE (fun _=>bd (Z4q s _ 2 (by omega) hs h5.2) fun v6 h6=>Zzq hs hI h6.2 g0 hlt (by omega)) fun _=>Zzq hs hI h5.2 g0 hlt (by omega)
def RdT {α:Type} (s:List UInt8) (B:Nat) (P:α→Prop) (q:(List UInt8)×Int×Bool×(List α)):Prop:=Z5k s ⟨q.1,q.2.1,q.2.2.1⟩∧q.2.2.2.length≤B∧∀ v∈q.2.2.2,P v
def RdI {α:Type} (s:List UInt8) (P:α→Prop) (t:Int×(List UInt8)×Int×Bool×(List α)):Prop:=Z5k s ⟨t.2.1,t.2.2.1,t.2.2.2.1⟩∧(t.2.2.2.2.length:Int)=t.1∧∀ v∈t.2.2.2.2,P v
theorem rdL {α:Type} {s:List UInt8} {P:α→Prop} {n p2:Int} {p1:List UInt8} {p3:Bool} (hn:0≤n∧n<65536) (hr:Z5k s ⟨p1,p2,p3⟩) {f:Int×(List UInt8)×Int×Bool×(List α)→Option (Ctl (Int×(List UInt8)×Int×Bool×(List α)) ((List UInt8)×Int×Bool×(List α)))}
  (h:∀ t,RdI s P t→0≤t.1→t.1≤n→RdT s 65536 P (t.2.1,t.2.2.1,t.2.2.2.1,t.2.2.2.2)→Ok (f t) (St (RdI s P) (fun t=>t.1) n (RdT s 65536 P) t)):Ok (Z07 f Z08 (0,p1,p2,p3,[])) (RdT s 65536 P):=
 lp (fun t=>t.1) n (RdI s P) (fun t hI g0 g1=>h t hI g0 g1 ⟨hI.1,by have:=hI.2.1; dsimp only at *; omega,hI.2.2⟩) (by omega) ⟨hr,rfl,fun v hv=>by simp at hv⟩ (by dsimp only; omega) hn.1
theorem L152x1 {s:List UInt8} (hs:Str s) {v7:Int×Z1c} (h7:Us 2 v7.1∧Z5k s v7.2):Ok (Z07 (Zne v7) Z08 (0,v7.2.f_S,v7.2.f_At,v7.2.Z4k,[])) (RdT s 65536 fun v=>v.Z12=[]):=by
 refine rdL (n:=v7.1) ⟨h7.1.1,h7.1.2.2.1 rfl⟩ h7.2 fun t hI g0 g1 hd=>?_
 have hl:=hI.2.1
 have:=h7.1.2.2.1 rfl
 unfold Zne
 refine brD (fun hlt=>br! (fun _=>?_) fun _=>dn hd) fun _=>dn hd
 unfold Zrq
 refine bd (Z4q s _ 2 (by omega) hs hI.1) fun v1 h1=>bd (Z4q s _ 2 (by omega) hs h1.2) fun v2 h2=>bd (Z4q s _ 2 (by omega) hs h2.2) fun v3 h3=>bd (Z4q s _ 2 (by omega) hs h3.2) fun v4 h4=>?_
 refine bd gk fun _ _=>bd wr fun _ hv=>?_
 exact nx ⟨h4.2,by simp only [List.length_append,List.length_cons,List.length_nil]; omega,Z9b hI.2.2 rfl⟩
theorem L152x3 {s:List UInt8} (hs:Str s) {v7:Int×Z1c} (h7:Us 2 v7.1∧Z5k s v7.2):Ok (Z07 (Zhv v7) Z08 (0,v7.2.f_S,v7.2.f_At,v7.2.Z4k,[])) (RdT s 65536 fun _=>True):=by
 refine rdL (n:=v7.1) ⟨h7.1.1,h7.1.2.2.1 rfl⟩ h7.2 fun t hI g0 g1 hd=>?_
 have hl:=hI.2.1
 have:=h7.1.2.2.1 rfl
 unfold Zhv
 refine brD (fun hlt=>br! (fun _=>?_) fun _=>dn hd) fun _=>dn hd
 unfold Zpw
 refine bd (Z4q s _ 2 (by omega) hs hI.1) fun v1 h1=>bd (Z4q s _ 2 (by omega) hs h1.2) fun v2 h2=>?_
 refine bd gk fun _ _=>bd wr fun _ hv=>?_
 exact nx ⟨h2.2,by simp only [List.length_append,List.length_cons,List.length_nil]; omega,Z9b hI.2.2 trivial⟩
def RFr (m:Z0p):Prop:=(m.Z1o.Z0d.length≤256∧∀ v∈m.Z1o.Z0d,v.Z12.Z0f=[])∧m.Z1o.Z0i.length≤256∧∀ v∈m.Z1o.Z0i,v.Z12.Z0f=[]
def QM (s:List UInt8) (q:(List UInt8)×Int×Bool×(List Z0p)×(List Int)):Prop:=Z5k s ⟨q.1,q.2.1,q.2.2.1⟩∧q.2.2.2.1.length≤65536∧q.2.2.2.2.length=q.2.2.2.1.length∧∀ v∈q.2.2.2.1,RFr v
def IM (s:List UInt8) (t:Int×(List UInt8)×Int×Bool×(List Z0p)×(List Int)):Prop:=Z5k s ⟨t.2.1,t.2.2.1,t.2.2.2.1⟩∧(t.2.2.2.2.1.length:Int)=t.1∧t.2.2.2.2.2.length=t.2.2.2.2.1.length∧∀ v∈t.2.2.2.2.1,RFr v
theorem L152x2 {s:List UInt8} (hs:Str s) {v7:Int×Z1c} (h7:Us 2 v7.1∧Z5k s v7.2):Ok (Z07 (Zjf v7) Z08 (0,v7.2.f_S,v7.2.f_At,v7.2.Z4k,[],[])) (QM s):=by
 have:=h7.1.2.2.1 rfl
 have:=h7.1.1
 refine lp (fun t=>t.1) v7.1 (IM s) (fun t hI g0 g1=>?_) (by omega) ⟨h7.2,rfl,rfl,fun v hv=>by simp at hv⟩
 have hl:=hI.2.1
 have hl2:=hI.2.2.1
 have hd:QM s (t.2.1,t.2.2.1,t.2.2.2.1,t.2.2.2.2.1,t.2.2.2.2.2):=⟨hI.1,by dsimp only at *; omega,hI.2.2⟩
 unfold Zjf
 refine brD (fun hlt=>br! (fun _=>?_) fun _=>dn hd) fun _=>dn hd
 unfold Zqa
 refine bd (Z4q s _ 2 (by omega) hs hI.1) fun v1 h1=>bd (Z4q s _ 1 (by omega) hs h1.2) fun v2 h2=>bd (Y1y s _ hs h2.2) fun v3 h3=>bd (Y1y s _ hs h3.2) fun v4 h4=>?_
 refine bd gk fun _ _=>?_
 refine bd gk fun _ _=>bd wr fun _ hv=>?_
 exact nx ⟨h4.2,by simp only [List.length_append,List.length_cons,List.length_nil]; omega,by simp only [List.length_append,List.length_cons,List.length_nil]; omega,Z9b hI.2.2.2 ⟨h3.1,h4.1⟩⟩
structure TkOk (s:List UInt8) (t:Z47):Prop where
 ins:t.f_C.Z0l=[]
 hnd:∀ h∈t.f_C.Z20,h.Z12=[]
 hndL:t.f_C.Z20.length≤65536
 map:∀ m∈t.f_C.Z1q,RFr m
 mapL:t.f_C.Z1q.length≤65536
 raw:t.Zri.length=t.f_C.Z1q.length
 lin:t.f_C.Z1r.length≤65536
 byt:t.Z2y.length≤s.length
theorem Y7w (s:List UInt8) (hs:Str s):Ok (Zhp s) (fun r=>TkOk s r.1):=by
 unfold Zhp
 refine bd (Z4q s _ 2 (by omega) hs ⟨rfl,by dsimp only; omega,by dsimp only; omega⟩) fun v0 h0=>bd (Z4q s _ 2 (by omega) hs h0.2) fun v1 h1=>bd (Z4q s _ 4 (by omega) hs h1.2) fun v2 h2=>?_
 have h5:Ok (Zgd v0 v1 v2) (fun r=>TkOk s r.1):=by
  unfold Zgd
  exact ok ⟨rfl,fun h hh=>by simp at hh,by simp,fun h hh=>by simp at hh,by simp,rfl,by simp,by simp⟩
 obtain ⟨k1,k2,k3⟩:=h2.2
 have k4:=h2.1.1
 have k5:=h2.1.2.2.2 rfl
 refine br (fun _=>h5) fun _=>bd wr fun v3 h3=>brD (fun _=>h5) fun hle=>?_
 unfold Zrz
 refine bd wr fun v4 h4=>bd (sb (by omega) (by omega) (by omega)) fun v5 h5=>bd wr fun v6 h6=>?_
 refine bd (Z4q s _ 2 (by omega) hs ⟨k1,by dsimp only; omega,by dsimp only; omega⟩) fun v7 h7=>bd (L152x1 hs h7) fun q0 hq0=>bd (Z4q s _ 2 (by omega) hs hq0.1) fun v24 h24=>bd (L152x2 hs h24) fun q2 hq2=>bd (Z4q s _ 2 (by omega) hs hq2.1) fun v44 h44=>bd (L152x3 hs h44) fun q4 hq4=>?_
 exact ok ⟨rfl,hq0.2.2,hq0.2.1,hq2.2.2.2,hq2.2.1,hq2.2.2.1,hq4.2.1,by have:=h5.1; dsimp only; omega⟩
end Go.Proofs
set_option linter.unusedVariables false
namespace Go.Proofs
open Go.Den Go.Tot
theorem is_eq (x:Int):Zbc x=some (decide (0≤x∧x<81)):=by
 unfold Zbc
 by_cases h:x≥0
 ·rw [if_pos (by simpa using h)]; congr 1; simp [h]
 ·rw [if_neg (by simpa using h)]; congr 1; simp; omega
theorem Zr1 (x a b:Int):Z7h x a b=some (decide (a≤x∧x≤b)):=by
 unfold Z7h
 by_cases h:x≥a
 ·rw [if_pos (by simpa using h)]; congr 1; simp [h]
 ·rw [if_neg (by simpa using h)]; congr 1; simp; omega
def KindP (x k:Int):Prop:=(k=3↔36≤x∧x≤52)∧(k=6↔x=53)∧(k=7↔x=54)∧(k= -1↔ ¬(0≤x∧x<81))∧ -1≤k∧k≤7
theorem Zgk (x:Int):Ok (Z7m x) (KindP x):=by
 unfold Z7m Zno Zid
 simp only [is_eq,Zr1]
 unfold KindP
 repeat' first
  | with_reducible refine br! (fun _=>?_) fun _=>?_
  | with_reducible refine brD (fun _=>?_) fun _=>?_
  | with_reducible refine brE (fun _=>?_) fun _=>?_
  | with_reducible refine bs ?_
  | with_reducible refine ok ?_
  | (have h0:=of_decide_eq_true (by assumption:decide (0≤x∧x<81)=true); refine ⟨?_,?_,?_,?_,?_,?_⟩ <;> omega)
  | (have h0:=of_decide_eq_false (by assumption:decide (0≤x∧x<81)=false); refine ⟨?_,?_,?_,?_,?_,?_⟩ <;> omega)
theorem Y13 (x:Int):Zcr x=some (decide (36≤x∧x≤54)):=by
 unfold Zcr; rw [Zr1]; rfl
theorem Y94 (x:Z02) (hx:Z35 x):Ok (Z07 (Zcp x) Z08 0) (fun q=>match q with|.inl _=>∀ v∈x.Z0c,0≤v∧v<1000|.inr b=>b=false):=by
 have:=hx.tos
 refine lp (fun t=>t) x.Z0c.length (fun t=>∀ (j:Nat) v,(j:Int)<t→x.Z0c[j]?=some v→0≤v∧v<1000) (fun t hI h0 h1=>?_) (by omega) (fun j v h=>by omega) (by omega) (by omega)
 unfold Zcp
 refine brD (fun hlt=>?_) fun hge=>dn fun v hv=>?_
 ·obtain ⟨y,hy,hm,hi⟩:=gri (l:=x.Z0c) (i:=t) (by omega) hlt
  rw [hy]
  refine bs (brD (fun _=>dn rfl) fun _=>bs (brD (fun _=>dn rfl) fun _=>bd wr fun v2 h2=>nx (fun j v hj hv=>?_) (by omega) (by omega)))
  rcases Int.lt_or_le (j:Int) t with hlt|hge
  ·exact hI j v hlt hv
  ·have:j=t.toNat:=by omega
   subst this
   rw [hi] at hv; cases hv
   omega
 ·obtain ⟨j,hj⟩:=List.mem_iff_getElem?.1 hv
  exact hI j v (by have:=(List.getElem?_eq_some_iff.1 hj).1; omega) hj
theorem aims_ok (x:Z02) (hx:Z35 x):Ok (Z97 x) (fun b=>b=true→0≤x.f_To∧x.f_To<1000∧∀ v∈x.Z0c,0≤v∧v<1000):=by
 unfold Z97
 refine brD (fun _=>ok fun h=>by cases h) fun _=>brD (fun _=>ok fun h=>by cases h) fun _=>?_
 unfold Zmq
 refine bd (Y94 x hx) fun q hq=>?_
 cases q with
 | inl _=>exact ok fun _=>⟨by omega,by omega,hq⟩
 | inr b=>exact ok fun h=>by cases hq.symm.trans h
theorem keys_ok (x:Z02) (hx:Z35 x):Ok (Zch x) (fun e=>e=0→(x.f_Op=53→1≤x.Z0c.length∧x.Z0c.length≤64)∧(x.f_Op≠53→x.Z0z.length≤64∧x.Z0c.length=x.Z0z.length)):=by
 have:=hx.tos
 have:=hx.keys
 unfold Zch Zl6 Zjy
 refine brE (fun _=>brE (fun _=>ok (by omega)) fun _=>brD (fun _=>ok (by omega)) fun _=>bd (Zr8 _) fun v h=>br! (fun _=>ok (by omega)) fun _=>bd wr fun _ _=>bd wr fun _ _=>brD (fun _=>ok (by omega)) fun _=>ok (by omega)) fun _=>?_
 refine brD (fun _=>ok (by omega)) fun _=>brN (fun _=>ok (by omega)) fun _=>bd (Zxz x hx) fun q _=>?_
 have h:∀ e:Int,Ok (some e) (fun e=>e=0→(x.f_Op=53→1≤x.Z0c.length∧x.Z0c.length≤64)∧(x.f_Op≠53→x.Z0z.length≤64∧x.Z0c.length=x.Z0z.length)):=fun e=>ok fun _=>⟨by omega,by omega⟩
 cases q with
 | inl _ => refine bd (Zy4 x hx) fun q _=>?_
            cases q <;> exact h _
 | inr _=>exact h _
structure Z4x (x:Z02):Prop where
 op:0≤x.f_Op∧x.f_Op<81
 tab:x.f_Op=53→1≤x.Z0c.length∧x.Z0c.length≤64
 look:x.f_Op=54→x.Z0z.length≤64∧x.Z0c.length=x.Z0z.length
 aim:36≤x.f_Op→x.f_Op≤54→0≤x.f_To∧∀ v∈x.Z0c,0≤v
 few:x.f_Op≠53→x.f_Op≠54→x.Z0c=[]
theorem used_ok (x:Z02) (k:Int):Ok (Zcw x k) (fun b=>b=true→k≠6→k≠7→x.Z0c.length=0):=by
 unfold Zcw Zkp Zdy Zeu
 repeat' first
  | with_reducible refine br! (fun _=>?_) fun _=>?_
  | with_reducible refine brE (fun _=>?_) fun _=>?_
  | with_reducible refine brN (fun _=>?_) fun _=>?_
  | with_reducible refine ok ?_
  | (intro hb h6 h7; first|(cases hb; done)|(simp only [beq_iff_eq] at *; omega))
theorem Zfr (x:Z02) (hx:Z35 x):Ok (Z61 x) (fun e=>e=0→Z4x x):=by
 unfold Z61
 refine bd (Zgk x.f_Op) fun k hk=>brD (fun _=>ok (by omega)) fun hk0=>bd (used_ok x k) fun b hb=>br! (fun _=>ok (by omega)) fun hu=>?_
 obtain ⟨k3,k6,k7,km,k0,k1⟩:=hk
 have hfew:=hb hu
 have h5:(k=6∨k=7)→(0≤x.f_To∧∀ v∈x.Z0c,0≤v)→Ok (Zbr x) (fun e=>e=0→Z4x x):=fun h ha=>by
  unfold Zbr
  exact bd (keys_ok x hx) fun v hv=>ok fun he=>⟨by omega,fun h=>(hv he).1 h,fun h=>(hv he).2 (by omega),fun _ _=>ha,fun _ _=>by omega⟩
 have h4:(k=3∨k=6∨k=7→0≤x.f_To∧∀ v∈x.Z0c,0≤v)→Ok (Z9i k x) (fun e=>e=0→Z4x x):=fun ha=>by
  unfold Z9i
  exact brE (fun h=>h5 (.inl h) (ha (.inr (.inl h)))) fun h6=>brE (fun h=>h5 (.inr h) (ha (.inr (.inr h)))) fun h7=>ok fun _=>⟨by omega,by omega,by omega,fun h h'=>ha (by omega),fun _ _=>List.eq_nil_of_length_eq_zero (hfew h6 h7)⟩
 have ha:Ok (Z97 x) (fun b=>b=true→0≤x.f_To∧∀ v∈x.Z0c,0≤v):=(aims_ok x hx).mono fun b h hb=>⟨(h hb).1,fun v hv=>((h hb).2.2 v hv).1⟩
 have h3:Ok (Zcd k x) (fun e=>e=0→Z4x x):=by
  unfold Zcd
  refine brE (fun _=>bd ha fun b hb=>br! (fun _=>ok (by omega)) fun h=>h4 fun _=>hb h) fun h3=>brE (fun _=>bd ha fun b hb=>br! (fun _=>ok (by omega)) fun h=>h4 fun _=>hb h) fun h6=>brE (fun _=>bd ha fun b hb=>br! (fun _=>ok (by omega)) fun h=>h4 fun _=>hb h) fun h7=>h4 fun h=>by omega
 have h2:Ok (Zam k x) (fun e=>e=0→Z4x x):=by
  unfold Zam
  exact brE (fun _=>brD (fun _=>ok (by omega)) fun _=>brD (fun _=>ok (by omega)) fun _=>h3) fun _=>h3
 have h1:Ok (Z9q k x) (fun e=>e=0→Z4x x):=by
  unfold Z9q
  exact brE (fun _=>brD (fun _=>ok (by omega)) fun _=>brD (fun _=>ok (by omega)) fun _=>h2) fun _=>brE (fun _=>brD (fun _=>ok (by omega)) fun _=>brD (fun _=>ok (by omega)) fun _=>h2) fun _=>h2
 repeat' first
  | exact h1
  | with_reducible refine brE (fun _=>?_) fun _=>?_
  | with_reducible refine brD (fun _=>?_) fun _=>?_
  | exact ok (by omega)
theorem Zzh (x:Int):Ok (Zeh x) (fun n=>0≤n∧n≤3∧(0≤x→x<81→x≠53→x≠54→1≤n)):=by
 unfold Zeh Zsc Ztz Ztc
 refine bd (Zgk x) fun k hk=>?_
 obtain ⟨k3,k6,k7,km,k0,k1⟩:=hk
 repeat' first
  | with_reducible refine brE (fun _=>?_) fun _=>?_
  | with_reducible refine ok ?_
  | exact ⟨by omega,by omega,by omega⟩
theorem Zy7 (x:Z02) (hx:Z35 x) (hc:Z4x x):Ok (Zjl x) (fun n=>0≤n∧n≤400):=by
 have:=hx.tos
 have:=hx.keys
 have:=hc.tab
 have:=hc.look
 unfold Zjl
 exact brE (fun _=>bd wr fun _ _=>bd wr fun _ _=>ok (by omega)) fun _=>brE (fun _=>bd wr fun _ _=>bd wr fun _ _=>ok (by omega)) fun _=>bd (Zzh _) fun n hn=>ok (by omega)
theorem L60x1 (l:List Z02) (hl:∀ i∈l,Z35 i) (hn:l.length≤140737488355328):Ok (Z07 (Zcq l) Z08 0) (fun q=>match q with|.inl _=>∀ i∈l,Z4x i|.inr y=>y.2≠0∧y.1=[]):=by
 refine lp (fun t=>t) l.length (fun t=>∀ (j:Nat) v,(j:Int)<t→l[j]?=some v→Z4x v) (fun t hI h0 h1=>?_) (by omega) (fun j v h=>by omega) (by omega) (by omega)
 unfold Zcq
 refine brD (fun hlt=>?_) fun hge=>dn fun v hv=>?_
 ·refine bd gri fun i hi=>bd (Zfr i (hl i hi.1)) fun e he=>brN (fun h=>dn ⟨h,rfl⟩) fun h=>bd wr fun v2 h2=>nx (fun j v hj hv=>?_) (by omega) (by omega)
  rcases Int.lt_or_le (j:Int) t with hlt|hge
  ·exact hI j v hlt hv
  ·have:j=t.toNat:=by omega
   subst this
   rw [hi.2] at hv; cases hv
   exact he h
 ·obtain ⟨j,hj⟩:=List.mem_iff_getElem?.1 hv
  exact hI j v (by have:=(List.getElem?_eq_some_iff.1 hj).1; omega) hj
theorem Zqg (l:List Z02) (hl:∀ i∈l,Z35 i) (hn:l.length≤140737488355328):Ok (Z79 l) (fun r=>(r.2=0→r.1.length=l.length+1∧l.length≤1000∧∀ i∈l,Z4x i)∧r.1.length≤1001):=by
 unfold Z79
 refine bd (L60x1 l hl hn) fun q hq=>?_
 cases q with
 | inr y=>exact ok ⟨fun h=>absurd h hq.1,by rw [hq.2]; simp⟩
 | inl _=>
  refine brD (fun _=>ok ⟨by omega,by simp⟩) fun hs=>?_
  refine bd (P:=fun r=>r.length=l.length+1) ?_ fun q2 hq2=>bd ik fun j hj=>bd (la (by omega)) fun _ _=>brD (fun _=>ok ⟨by omega,by simp⟩) fun _=>ok ⟨fun _=>⟨hq2,by omega,hq⟩,by dsimp only; omega⟩
  refine lp (fun t=>t.1) l.length (fun t=>(t.2.length:Int)=t.1+1∧∀ v∈t.2,0≤v∧v≤400*t.1) (fun t hI h0 h1=>?_) (by omega) ⟨rfl,by simp⟩
  obtain ⟨hI1,hI2⟩:=hI
  unfold Zn8
  refine brD (fun hlt=>?_) fun hge=>dn (by omega)
  refine bd ik fun j hj=>bd (la (by omega)) fun v hv=>bd gr fun i hi=>bd (Zy7 i (hl i hi) (hq i hi)) fun n hn=>?_
  have hv2:=hI2 v hv.2
  refine bd wr fun w hw=>bd gk fun _ _=>bd wr fun k hk=>?_
  refine nx ⟨by simp only [List.length_append,List.length_cons,List.length_nil]; omega,Z9b (fun v hv=>?_) ?_⟩
  ·have:=hI2 v hv; dsimp only; omega
  ·dsimp only; omega
theorem Z8b (s:List UInt8) (a n:Int) (hn:n=1∨n=2∨n=4) (hs:Str s):Ok (Z6z s a n) (Us n):=bd (Zg5 s a n hn hs) fun v h=>ok h.2
theorem Zky (s:List UInt8) (a n:Int) (hn:n=1∨n=2∨n=4) (hs:Str s):Ok (Zcl s a n) (fun _=>True):=bd (Zwa s a n hn hs) fun v h=>ok trivial
theorem need_ok (s:List UInt8) (a op:Int) (hs:Str s) (h0:0≤a) (h1:a≤s.length) (ho:0≤op) (h81:op<81):Ok (Zec s a op) (fun n=>n<0∨(1≤n∧a+n≤s.length)):=by
 have h4:∀ p:Int,1≤p→p≤1000000→Ok (Zfb s a p) (fun n=>n<0∨(1≤n∧a+n≤s.length)):=fun p hp hp'=>by
  unfold Zfb
  exact bd wr fun v hv=>brD (fun _=>ok (by omega)) fun _=>ok (by omega)
 have h2:∀ p q:Int,5≤p→p≤9→0≤q→q≤6→Ok (Zg2 s a p q) (fun n=>n<0∨(1≤n∧a+n≤s.length)):=fun p q hp hp' hq hq'=>by
  unfold Zg2 Ztr
  refine bd wr fun v1 e1=>bd wr fun v2 e2=>bd (Zg5 s v2 2 (by omega) hs) fun v3 e3=>bd wr fun v4 e4=>brD (fun _=>ok (by omega)) fun _=>brN (fun _=>ok (by omega)) fun _=>?_
  have hu:=e3.2.2.2.1 rfl
  have hu0:=e3.2.1
  have hm:0≤q*v3.1∧q*v3.1≤6*65536:=⟨Int.mul_nonneg hq hu0,Int.le_trans (Int.mul_le_mul_of_nonneg_right hq' hu0) (by omega)⟩
  exact bd wr fun v5 e5=>bd wr fun v6 e6=>h4 v6 (by omega) (by omega)
 unfold Zec Zjv
 exact bd (Zzh op) fun n hn=>brE (fun _=>brE (fun _=>h2 5 6 (by omega) (by omega) (by omega) (by omega)) fun _=>h2 9 2 (by omega) (by omega) (by omega) (by omega)) fun _=>brE (fun _=>brE (fun _=>h2 5 6 (by omega) (by omega) (by omega) (by omega)) fun _=>h2 9 2 (by omega) (by omega) (by omega) (by omega)) fun _=>h4 n (by omega) (by omega)
theorem L164x1 (n:Int) (s:List UInt8) (a:Int) (hs:Str s) (h0:0≤a) (h1:a≤s.length) (hn:0≤n) (hn':n<65536):Ok (Z07 (Zo4 n s a) Z08 (0,([]:List Int))) (fun r=>r.length≤65536):=by
 refine lp (fun t=>t.1) n (fun t=>(t.2.length:Int)=t.1) (fun t hI g0 g1=>?_) (by omega) rfl
 unfold Zo4
 refine brD (fun hlt=>bd wr fun v1 e1=>bd wr fun v2 e2=>bd wr fun v3 e3=>bd (Z8b s v3 2 (by omega) hs) fun v4 e4=>?_) fun _=>dn (by omega)
 exact bd gk fun _ _=>bd wr fun k hk=>nx (by simp only [List.length_append,List.length_cons,List.length_nil]; omega)
theorem L164x2 (n:Int) (s:List UInt8) (a:Int) (hs:Str s) (h0:0≤a) (h1:a≤s.length) (hn:0≤n) (hn':n<65536):Ok (Z07 (Zn1 n s a) Z08 (0,([]:List Int),([]:List Int))) (fun r=>r.1.length≤65536∧r.2.length≤65536):=by
 refine lp (fun t=>t.1) n (fun t=>(t.2.1.length:Int)=t.1∧(t.2.2.length:Int)=t.1) (fun t hI g0 g1=>?_) (by omega) ⟨rfl,rfl⟩
 unfold Zn1
 refine brD (fun hlt=>bd wr fun v1 e1=>bd wr fun v2 e2=>bd wr fun v3 e3=>bd (Zky s v3 4 (by omega) hs) fun v4 e4=>?_) fun _=>dn (by dsimp only at *; omega)
 refine bd gk fun _ _=>bd wr fun _ _=>bd wr fun _ _=>bd wr fun v5 _=>bd (Z8b s v5 2 (by omega) hs) fun _ _=>?_
 exact bd gk fun _ _=>bd wr fun k hk=>nx (by simp only [List.length_append,List.length_cons,List.length_nil]; omega)
def TkI (i:Z02):Prop:=i.Z0z.length≤65536∧i.Z0c.length≤65536∧i.Z1f={ Z0s:=[],Z0f:=[],Z2i:=[] }∧i.f_S=[]
theorem TkI.w {i:Z02} (h:TkI i):Z35 i:=⟨by have:=h.1; omega,by have:=h.2.1; omega,by rw [h.2.2.1]; exact ⟨by simp,by simp,by simp⟩,by rw [h.2.2.2]; simp⟩
theorem take_ok (s:List UInt8) (a op:Int) (hs:Str s) (h0:0≤a) (h1:a≤s.length):Ok (Zog s a op) TkI:=by
 unfold Zog
 have z:∀ x y w v,TkI { f_Op:=x,f_A:=y,f_B:=w,f_To:=v,Z0z:=[],Z0c:=[],Z1f:={ Z0s:=[],Z0f:=[],Z2i:=[] },f_S:=[] }:=fun _ _ _ _=>⟨by simp,by simp,rfl,rfl⟩
 refine bd (Zgk op) fun k _=>brE (fun _=>?_) fun _=>brE (fun _=>?_) fun _=>brE (fun _=>?_) fun _=>brE (fun _=>?_) fun _=>brE (fun _=>?_) fun _=>brE (fun _=>?_) fun _=>brE (fun _=>?_) fun _=>ok (z _ _ _ _)
 ·exact bd wr fun _ _=>bd (Zky s _ 1 (by omega) hs) fun _ _=>ok (z _ _ _ _)
 ·exact bd wr fun _ _=>bd (Z8b s _ 2 (by omega) hs) fun _ _=>ok (z _ _ _ _)
 ·exact bd wr fun _ _=>bd (Z8b s _ 2 (by omega) hs) fun _ _=>ok (z _ _ _ _)
 ·exact bd wr fun _ _=>bd (Z8b s _ 1 (by omega) hs) fun _ _=>ok (z _ _ _ _)
 ·exact bd wr fun _ _=>bd (Z8b s _ 1 (by omega) hs) fun _ _=>bd wr fun _ _=>bd (Zky s _ 1 (by omega) hs) fun _ _=>ok (z _ _ _ _)
 ·refine bd wr fun _ _=>bd (Z8b s _ 2 (by omega) hs) fun _ _=>bd wr fun _ _=>bd (Zky s _ 4 (by omega) hs) fun _ _=>bd wr fun _ _=>bd (Z8b s _ 2 (by omega) hs) fun n hn=>?_
  exact bd (L164x1 n s a hs h0 h1 hn.1 (hn.2.2.1 rfl)) fun q hq=>ok ⟨by simp,hq,rfl,rfl⟩
 ·refine bd wr fun _ _=>bd (Z8b s _ 2 (by omega) hs) fun _ _=>bd wr fun _ _=>bd (Z8b s _ 2 (by omega) hs) fun n hn=>?_
  exact bd (L164x2 n s a hs h0 h1 hn.1 (hn.2.2.1 rfl)) fun q hq=>ok ⟨hq.1,hq.2,rfl,rfl⟩
theorem Zuj (l:List Int) (x:Int) (hl:l.length≤140737488355328):Ok (Zbk l x) (fun k=>k<l.length):=by
 unfold Zbk
 refine bd (P:=fun q:Unit⊕Int=>match q with|.inl _=>True|.inr y=>y<l.length) (li l.length (fun t h0 h1=>?_) (by omega) (by omega) (by omega)) fun q hq=>?_
 ·unfold Zq8
  exact brD (fun _=>bd gr fun v _=>br (fun _=>di (by assumption)) fun _=>bd wr fun _ _=>ni (by omega) (by omega)) fun _=>di trivial
 ·cases q with
  | inl _=>exact ok (by omega)
  | inr y=>exact ok hq
theorem L153x1 (s:List UInt8) (hs:s.length≤20000):Ok (Z07 (Zg6 s) Z08 (0,([]:List Z02),([]:List Int))) (fun q=>match q with|.inl q=>(∀ i∈q.1,TkI i)∧q.1.length≤20000∧q.2.length≤20000|.inr y=>y.2≠0):=by
 refine lp (fun t=>t.1) s.length (fun t=>(∀ i∈t.2.1,TkI i)∧(t.2.1.length:Int)≤t.1∧(t.2.2.length:Int)≤t.1) (fun t hI h0 h1=>?_) (by omega) ⟨Z4t,by simp,by simp⟩
 obtain ⟨hI1,hI2,hI3⟩:=hI
 unfold Zg6
 refine brD (fun hlt=>?_) fun _=>dn ⟨hI1,by dsimp only at *; omega,by dsimp only at *; omega⟩
 refine bd gs fun v hv=>bd wr fun op hop=>brD (fun _=>dn (by simp)) fun _=>bd (need_ok s t.1 op (by unfold Str; omega) h0 (by omega) (by omega) (by omega)) fun n hn=>brD (fun _=>dn (by simp)) fun _=>?_
 refine bd (take_ok s t.1 op (by unfold Str; omega) h0 (by omega)) fun i hi=>?_
 refine bd gk fun _ _=>?_
 refine bd gk fun _ _=>bd wr fun k hk=>?_
 exact nx ⟨Z9b hI1 hi,by simp only [List.length_append,List.length_cons,List.length_nil]; omega,by simp only [List.length_append,List.length_cons,List.length_nil]; omega⟩
theorem L153x3 (ps:List Int) (l:List Int) (hp:ps.length≤20000) (hl:l.length≤65536):Ok (Z07 (Z9p ps l.length) Z08 (0,l)) (fun q=>match q with|.inl r=>r.length=l.length|.inr y=>y.2≠0):=by
 refine lp (fun t=>t.1) l.length (fun t=>t.2.length=l.length) (fun t hI h0 h1=>?_) (by omega) rfl
 unfold Z9p
 refine brD (fun hlt=>?_) fun _=>dn hI
 refine bd ik fun j hj=>bd (la (by omega)) fun v hv=>bd (Zuj ps v (by omega)) fun y hy=>bd (la (by rw [List.length_set]; omega)) fun z hz=>brD (fun _=>dn (by simp)) fun _=>bd wr fun k hk=>?_
 exact nx (by dsimp only; rw [List.length_set]; exact hI)
theorem L153x2 (ps:List Int) (l:List Z02) (hp:ps.length≤20000) (hl:∀ i∈l,TkI i) (hn:l.length≤20000):Ok (Z07 (Zds ps) Z08 (0,l)) (fun q=>match q with|.inl r=>(∀ i∈r,TkI i)∧r.length=l.length|.inr y=>y.2≠0):=by
 refine lp (fun t=>t.1) l.length (fun t=>(∀ i∈t.2,TkI i)∧t.2.length=l.length) (fun t hI h0 h1=>?_) (by omega) ⟨hl,rfl⟩
 obtain ⟨hI1,hI2⟩:=hI
 unfold Zds
 refine brD (fun hlt=>?_) fun _=>dn ⟨hI1,hI2⟩
 refine bd ik fun j hj=>bd (la (by omega)) fun v hv=>?_
 rw [Y13]
 refine bs (br! (fun _=>bd wr fun k hk=>nx ⟨hI1,hI2⟩) fun _=>?_)
 have hi:=hI1 v hv.2
 refine bd (Zuj ps _ (by omega)) fun y hy=>brD (fun _=>dn (by simp)) fun _=>bd (L153x3 ps v.Z0c hp hi.2.1) fun q hq=>?_
 cases q with
 | inr y=>exact dn hq
 | inl r=>
  refine bd wr fun k hk=>nx ⟨fun i hi'=>?_,by dsimp only; rw [List.length_set]; exact hI2⟩
  rcases List.mem_or_eq_of_mem_set hi' with h|rfl
  ·exact hI1 i h
  ·exact ⟨hi.1,by have:=hi.2.1; dsimp only at *; omega,hi.2.2.1,hi.2.2.2⟩
theorem dec_ok (s:List UInt8):Ok (Zc9 s) (fun r=>r.2=0→(∀ i∈r.1,TkI i)∧r.1.length≤20000):=by
 unfold Zc9
 refine brD (fun _=>ok (by simp)) fun hs=>bd (L153x1 s (by omega)) fun q hq=>?_
 cases q with
 | inr y=>exact ok fun h=>absurd h hq
 | inl q=>
  obtain ⟨h1,h2,h3⟩:=hq
  refine brD (fun _=>ok (by simp)) fun _=>bd (L153x2 q.2 q.1 h3 h1 h2) fun q7 hq7=>?_
  cases q7 with
  | inr y=>exact ok fun h=>absurd h hq7
  | inl l=>
   obtain ⟨k1,k2⟩:=hq7
   refine bd (P:=fun q:Unit⊕(List Z02×Int)=>match q with|.inl _=>True|.inr y=>y.2≠0) (li l.length (fun t h0 h1=>?_) (by omega) (by omega) (by omega)) fun q9 hq9=>?_
   ·unfold Zig
    exact brD (fun _=>bd ik fun j hj=>bd (la (by omega)) fun v hv=>bd (Zfr v (k1 v hv.2).w) fun e _=>brN (fun h=>di h) fun _=>bd wr fun _ _=>ni (by omega) (by omega)) fun _=>di trivial
   ·cases q9 with
    | inl _=>exact ok fun _=>⟨k1,by dsimp only; omega⟩
    | inr y=>exact ok fun h=>absurd h hq9
end Go.Proofs
set_option linter.unusedVariables false
namespace Go.Proofs
open Go.Den Go.Tot
theorem runeLen (n:Int):(Ztv n).length≤4:=by
 unfold Ztv Utf8.encode
 dsimp only
 repeat' split
 all_goals simp [ByteArray.push]
theorem Zo2 (y:Z0j) (ht:Str y.Z0f):Ok (Zce y) (fun b=>b=true→0≤y.Z2l∧y.Z2l≤8∧y.Z0f.length≤64):=by
 unfold Zce
 repeat' first
  | unfold Zpb
  | unfold Zr3
  | unfold Ztk
  | with_reducible refine brD (fun _=>?_) fun _=>?_
  | with_reducible refine br (fun _=>?_) fun _=>?_
  | with_reducible refine bd (Zla _ (by first|assumption|omega|exact And.left (by assumption)|(dsimp only; omega))) fun _ _=>?_
  | with_reducible refine ok ?_
  | ((intro hb; first|(cases hb; done)|exact ⟨by omega,by omega,by simp_all⟩))
theorem L136x1 (y:Z0j) (h0:0≤y.Z2l) (h8:y.Z2l≤8):Ok (Z07 (Znd y) Z08 ([],0)) (fun r=>r.length≤8):=by
 refine lp (fun s=>s.2) (y.Z2l) (fun s=>(s.1.length:Int)=s.2) (fun t hI _ _=>?_) (by omega) (by simp) (by omega) (by omega)
 try dsimp only at*
 unfold Znd
 repeat' first
  | with_reducible refine nx ?_ ?_ ?_
  | with_reducible refine dn ?_
  | with_reducible refine brD (fun _=>?_) fun _=>?_
  | with_reducible refine bd wr fun _ _=>?_
  | with_reducible refine bd (ct (by first|omega|(simp only [List.length_cons,List.length_nil]; omega))) fun _ _=>?_
  | ((simp only [*,List.length_append,List.length_cons,List.length_nil]; omega))
  | omega
theorem Y5g (y:Z0j) (ht:Str y.Z0f):Ok (Zhm y) (fun r=>r.1.length≤100):=by
 have:=runeLen (IntKind.wrap .i32 y.Z1p)
 unfold Zhm
 repeat' first
  | with_reducible refine bd (Zo2 _ ht) fun _ hv=>?_
  | with_reducible refine br! (fun _=>?_) fun hb=>?_
  | with_reducible refine bd (L136x1 _ (hv hb).1 (hv hb).2.1) fun _ _=>?_
  | with_reducible refine brE (fun _=>?_) fun _=>?_
  | with_reducible refine bd (ct (by have:=(hv hb).2.2; first|omega|(simp only [List.length_cons,List.length_nil]; omega))) fun _ _=>?_
  | with_reducible refine bs ?_
  | with_reducible refine ok ?_
  | (first|(simp; done)|(dsimp only; have:=(hv hb).2.2; simp only [List.length_cons,List.length_nil] at *; omega))
  | (dsimp only; omega)
theorem L106x1 (p:List Z00) (e:Int) (l:List Z0k) (hp:Z19 p) (hl:∀ v∈l,Str v.Z12.Z0f) (hn:l.length*56≤140737488355328):Ok (Z07 (Zij l) Z08 (0,p,e,([]:List Z0k))) (fun q=>Z19 q.1∧(∀ v∈q.2.2,Str v.Z12.Z0f)∧q.2.2.length=l.length):=by
 refine lp (fun t=>t.1) (l.length) (fun t=>Z19 t.2.1∧(∀ v∈t.2.2.2,Str v.Z12.Z0f)∧(t.2.2.2.length:Int)=t.1) (fun t hI _ _=>?_) (by omega) (by exact ⟨hp,Z4t,rfl⟩) (by omega) (by omega)
 try dsimp only at*
 unfold Zij
 obtain ⟨hI1,hI2,hI3⟩:=hI
 repeat' first
  | with_reducible refine nx ?_ ?_ ?_
  | with_reducible refine dn ?_
  | unfold Zdt
  | unfold Zaz
  | with_reducible refine brD (fun _=>?_) fun _=>?_
  | with_reducible refine brE (fun _=>?_) fun _=>?_
  | with_reducible refine bd gr fun _ _=>?_
  | with_reducible refine bd wr fun _ _=>?_
  | with_reducible refine bd gk fun _ _=>?_
  | with_reducible refine bd (Y5g _ (by exact hl _ (by assumption))) fun _ _=>?_
  | with_reducible refine bd (Z80 _ _ (by first|assumption|omega) (by first|assumption|omega)) fun _ _=>?_
  | (first|exact Z77 hI2 (by first|exact hl _ (by assumption)|exact Nat.zero_le _))
  | with_reducible refine And.intro ?_ ?_
  | (simp only [List.length_set,List.length_append,List.length_cons,List.length_nil,List.length_replicate]; omega)
theorem Y2l (x:Z0u) (l:List Z0k) (hp:Z19 x.f_P) (hl:∀ v∈l,Str v.Z12.Z0f) (hn:l.length*56≤140737488355328):Ok (Zh4 x l) (fun r=>Z19 r.1.f_P∧(∀ v∈r.2,Str v.Z12.Z0f)∧r.2.length=l.length):=by
 unfold Zh4
 repeat' first
  | with_reducible refine bd (L106x1 _ _ _ (by first|assumption|omega|exact And.left (by assumption)|(dsimp only; omega)) (by first|assumption|omega|exact And.left (by assumption)|(dsimp only; omega)) (by first|assumption|omega|exact And.left (by assumption)|(dsimp only; omega))) fun _ _=>?_
  | with_reducible refine ok ?_
  | assumption
  | (obtain ⟨_,_⟩:=‹_∧_›)
theorem L78x1 (p:List Z00) (e:Int) (c:Z0b) (hp:Z19 p) (hc:Z5o c):Ok (Z07 (Zly c) Z08 (0,p,e,([]:List Z02))) (fun q=>Z19 q.1∧(∀ v∈q.2.2,Z35 v)∧q.2.2.length=c.Z0l.length):=by
 have:=hc.insL
 refine lp (fun t=>t.1) (c.Z0l.length) (fun t=>Z19 t.2.1∧(∀ v∈t.2.2.2,Z35 v)∧(t.2.2.2.length:Int)=t.1) (fun t hI _ _=>?_) (by omega) (by exact ⟨hp,Z4t,rfl⟩) (by omega) (by omega)
 try dsimp only at*
 unfold Zly
 obtain ⟨hI1,hI2,hI3⟩:=hI
 repeat' first
  | with_reducible refine nx ?_ ?_ ?_
  | with_reducible refine dn ?_
  | with_reducible refine brD (fun _=>?_) fun _=>?_
  | with_reducible refine bd gr fun _ _=>?_
  | with_reducible refine bd wr fun _ _=>?_
  | with_reducible refine bd gk fun _ _=>?_
  | with_reducible refine bd (Y9z _ _ (by first|assumption|exact hc.ins _ (by assumption)) (by first|assumption|exact hc.ins _ (by assumption))) fun _ _=>?_
  | (exact Z77 hI2 (And.right (by assumption)))
  | with_reducible refine And.intro ?_ ?_
  | (simp only [List.length_set,List.length_append,List.length_cons,List.length_nil,List.length_replicate]; omega)
  | (obtain ⟨_,_⟩:=‹_∧_›)
theorem L78x2 (p:List Z00) (e:Int) (c:Z0b) (hp:Z19 p) (hc:Z5o c):Ok (Z07 (Zjx c) Z08 (0,p,e,([]:List Z0o))) (fun q=>Z19 q.1∧(∀ v∈q.2.2,v.Z12=[])∧q.2.2.length=c.Z20.length):=by
 have:=hc.hndL
 refine lp (fun t=>t.1) (c.Z20.length) (fun t=>Z19 t.2.1∧(∀ v∈t.2.2.2,v.Z12=[])∧(t.2.2.2.length:Int)=t.1) (fun t hI _ _=>?_) (by omega) (by exact ⟨hp,Z4t,rfl⟩) (by omega) (by omega)
 try dsimp only at*
 unfold Zjx
 obtain ⟨hI1,hI2,hI3⟩:=hI
 repeat' first
  | with_reducible refine nx ?_ ?_ ?_
  | with_reducible refine dn ?_
  | unfold Zln
  | with_reducible refine brD (fun _=>?_) fun _=>?_
  | with_reducible refine br! (fun _=>?_) fun _=>?_
  | with_reducible refine bd gr fun _ _=>?_
  | with_reducible refine bd wr fun _ _=>?_
  | with_reducible refine bd gk fun _ _=>?_
  | with_reducible refine bd (Zgb _ _ (by first|assumption|exact hc.hnd _ (by assumption)) (by first|assumption|exact hc.hnd _ (by assumption))) fun _ _=>?_
  | (exact Z77 hI2 rfl)
  | with_reducible refine And.intro ?_ ?_
  | (simp only [List.length_set,List.length_append,List.length_cons,List.length_nil,List.length_replicate]; omega)
theorem Z8y.of {m:Z0p} (h:Z8y m.Z1o) {l k:List Z0k} {b:Bool} (h1:∀ v∈l,Str v.Z12.Z0f) (h2:l.length=m.Z1o.Z0d.length) (h3:∀ v∈k,Str v.Z12.Z0f) (h4:k.length=m.Z1o.Z0i.length):
  Z8y { Z0d:=l,Z0i:=k,Z6r:=b }:=⟨h1,by have:=h.locL; dsimp only; omega,h3,by have:=h.stkL; dsimp only; omega⟩
theorem L78x3 (p:List Z00) (e:Int) (c:Z0b) (hp:Z19 p) (hc:Z5o c):Ok (Z07 (Zkc c) Z08 (0,p,e,([]:List Z0p))) (fun q=>Z19 q.1∧(∀ v∈q.2.2,Z8y v.Z1o)∧q.2.2.length=c.Z1q.length):=by
 have:=hc.mapL
 refine lp (fun t=>t.1) (c.Z1q.length) (fun t=>Z19 t.2.1∧(∀ v∈t.2.2.2,Z8y v.Z1o)∧(t.2.2.2.length:Int)=t.1) (fun t hI _ _=>?_) (by omega) ⟨hp,Z4t,rfl⟩ (by omega) (by omega)
 obtain ⟨hI1,hI2,hI3⟩:=hI
 unfold Zkc
 refine brD (fun hlt=>?_) fun _=>dn ⟨hI1,hI2,by dsimp only; omega⟩
 obtain ⟨y,hy,hm⟩:=gr (l:=c.Z1q) (i:=t.1) (by omega) hlt
 simp only [hy]
 refine bs (bs (bd (Y2l _ _ hI1 (hc.map _ hm).loc (hc.map _ hm).locL) fun v1 h1=>bd (Y2l _ _ h1.1 (hc.map _ hm).stk (hc.map _ hm).stkL) fun v2 h2=>?_))
 refine bd gk fun _ _=>bd wr fun _ _=>?_
 exact nx ⟨h2.1,Z77 hI2 ((hc.map _ hm).of h1.2.1 h1.2.2 h2.2.1 h2.2.2),by simp only [List.length_append,List.length_cons,List.length_nil]; omega⟩
theorem Y7z (x:Z0u) (c:Z0b) (hp:Z19 x.f_P) (hc:Z5o c):Ok (Zmg x c) (fun r=>Z19 r.1.f_P∧Z5o r.2):=by
 unfold Zmg
 refine bd (L78x1 _ _ _ hp hc) fun q0 h0=>bd (L78x2 _ _ _ h0.1 hc) fun q2 h2=>bd (L78x3 _ _ _ h2.1 hc) fun q4 h4=>ok ⟨h4.1,h0.2.1,?_,fun v hv=>?_,?_,h4.2.1,?_,hc.linL⟩
 ·have:=hc.insL; have:=h0.2.2; dsimp only; omega
 ·rw [h2.2.1 v hv]; simp
 ·have:=hc.hndL; have:=h2.2.2; dsimp only; omega
 ·have:=hc.mapL; have:=h4.2.2; dsimp only; omega
theorem L58x2 (p:List Z00) (e:Int) (m:Z2d) (hp:Z19 p) (hm:Zb9 m):Ok (Z07 (Zkj m) Z08 (0,p,e,([]:List Int))) (fun q=>Z19 q.1∧q.2.2.length≤140737488355328):=by
 have:=hm.excL
 refine lp (fun t=>t.1) (m.Z67.length) (fun t=>Z19 t.2.1∧(t.2.2.2.length:Int)=t.1) (fun t hI _ _=>?_) (by omega) (by exact ⟨hp,rfl⟩) (by omega) (by omega)
 try dsimp only at*
 unfold Zkj
 obtain ⟨hI1,hI3⟩:=hI
 repeat' first
  | with_reducible refine nx ?_ ?_ ?_
  | with_reducible refine dn ?_
  | with_reducible refine brD (fun _=>?_) fun _=>?_
  | with_reducible refine bd gr fun _ _=>?_
  | with_reducible refine bd wr fun _ _=>?_
  | with_reducible refine bd gk fun _ _=>?_
  | with_reducible refine bd (Zgb _ _ (by first|assumption|exact hm.exc _ (by assumption)) (by first|assumption|exact hm.exc _ (by assumption))) fun _ _=>?_
  | with_reducible refine And.intro ?_ ?_
  | (simp only [List.length_set,List.length_append,List.length_cons,List.length_nil,List.length_replicate]; omega)
structure Zco (n:Int) (ms:List Z0g) (cs:List Z0b) (ts:List (List Int)) (ns:List Z2b):Prop where
 m:(ms.length:Int)=n
 c:(cs.length:Int)=n
 t:(ts.length:Int)=n
 s:(ns.length:Int)=n
 code:∀ v∈cs,Z5o v
 att:∀ m∈ms,m.Z1x=[]
 thr:∀ l∈ts,l.length≤140737488355328
theorem Zco.snoc {n k:Int} {ms:List Z0g} {cs:List Z0b} {ts:List (List Int)} {ns:List Z2b} (h:Zco n ms cs ts ns) {m:Z0g} {c:Z0b} {l:List Int} {s:Z2b} (ha:m.Z1x=[]) (hc:Z5o c) (hl:l.length≤140737488355328) (hk:k=n+1):
  Zco k (ms++[m]) (cs++[c]) (ts++[l]) (ns++[s]):=by
 obtain ⟨h1,h2,h3,h4,h5,h6,h7⟩:=h
 refine ⟨?_,?_,?_,?_,Z77 h5 hc,Z77 h6 ha,Z77 h7 hl⟩ <;> simp only [List.length_append,List.length_cons,List.length_nil] <;> omega
theorem WCode0:Z5o { Z0i:=0,Z0d:=0,Z0l:=[],Z20:=[],Z1q:=[],Z1r:=[] }:=⟨Z4t,by simp,Z4t,by simp,Z4t,by simp,by simp⟩
abbrev S58:=Int×(List Z00)×Int×(List Z0g)×(List Z0b)×(List (List Int))×(List Z2b)
def I58 (t:S58):Prop:=Z19 t.2.1∧Zco t.1 t.2.2.2.1 t.2.2.2.2.1 t.2.2.2.2.2.1 t.2.2.2.2.2.2
def Q58 (n:Int) (q:(List Z00)×Int×(List Z0g)×(List Z0b)×(List (List Int))×(List Z2b)):Prop:=Z19 q.1∧Zco n q.2.2.1 q.2.2.2.1 q.2.2.2.2.1 q.2.2.2.2.2
theorem K58x2 {n:Int} {p26 p27 p28:Int} {p29:List Z02} {p30:List Z0o} {p31:List Z0p} {p32:List Z17} {t0:S58} {v34:Z2d} {v35 v36:Z0u×Int} {p33:List Z00} {p34 p35:Int}
  (hI:I58 t0) (hp:Z19 p33) (hm:Zb9 v34) (hc:Z5o { Z0i:=p27,Z0d:=p28,Z0l:=p29,Z20:=p30,Z1q:=p31,Z1r:=p32 }) (h0:0≤t0.1) (h1:t0.1<n) (hn:n*184≤140737488355328):
  Ok (Zfx p26 p27 p28 p29 p30 p31 p32 t0 v34 v35 v36 p33 p34 p35) (St I58 (fun t=>t.1) n (Q58 n) t0):=by
 unfold Zfx
 have:=hI.2.m; have:=hI.2.c; have:=hI.2.t; have:=hI.2.s
 refine bd (L58x2 _ _ _ hp hm) fun q4 h4=>?_
 refine bd gk fun _ _=>?_
 refine bd gk fun _ _=>?_
 refine bd gk fun _ _=>?_
 refine bd gk fun _ _=>?_
 refine bd wr fun _ hv=>?_
 exact nx ⟨h4.1,hI.2.snoc rfl hc h4.2 hv⟩
theorem K58x1 {n:Int} {t0:S58} {v34:Z2d} {v35 v36:Z0u×Int} {p24:List Z00} {p25 p26 p27 p28:Int} {p29:List Z02} {p30:List Z0o} {p31:List Z0p} {p32:List Z17}
  (hI:I58 t0) (hp:Z19 p24) (hm:Zb9 v34) (hc:Z5o { Z0i:=p27,Z0d:=p28,Z0l:=p29,Z20:=p30,Z1q:=p31,Z1r:=p32 }) (h0:0≤t0.1) (h1:t0.1<n) (hn:n*184≤140737488355328):
  Ok (Zgu t0 v34 v35 v36 p24 p25 p26 p27 p28 p29 p30 p31 p32) (St I58 (fun t=>t.1) n (Q58 n) t0):=by
 unfold Zgu
 exact brD (fun _=>bd (Z80 _ _ hp (by simp)) fun v hv=>K58x2 hI hv hm hc h0 h1 hn) fun _=>K58x2 hI hp hm hc h0 h1 hn
theorem L58x1 (p : List Z00) (e : Int) (u : Z0y) (hp : Z19 p) (hu:Z5r u):Ok (Z07 (Zkw u) Z08 (0,p,e,[],[],[],[])) (Q58 u.Z13.length):=by
 have:=hu.metL
 refine lp (fun t=>t.1) (u.Z13.length) I58 (fun t hI h0 h1=>?_) (by omega) ⟨hp,rfl,rfl,rfl,rfl,Z4t,Z4t,Z4t⟩ (by omega) (by omega)
 unfold Zkw
 refine brD (fun hlt => ?_) fun hge => dn ⟨hI.1, by have:t.1=u.Z13.length:=by omega
                                                    rw [← this]; exact hI.2⟩
 refine bd gr fun m hm=>bd (Z80 _ _ hI.1 (hu.met _ hm).n) fun v1 h1=>bd (Z80 _ _ h1 (hu.met _ hm).d) fun v2 h2=>br (fun _=>?_) fun _=>?_
 ·exact bd (Z80 _ _ h2 (by simp)) fun v3 h3=>bd (Y7z _ _ h3 (hu.met _ hm).code) fun v4 h4=>K58x1 hI h4.1 (hu.met _ hm) h4.2 h0 hlt (by omega)
 ·exact K58x1 hI h2 (hu.met _ hm) WCode0 h0 hlt (by omega)
structure Zd1 (u:Z0y) (h:Z2v):Prop where
 pool:Z19 h.f_F.Z2p
 fam:Zco u.Z13.length h.f_F.Z13 h.Zdh h.Zbw h.Za4
 ifsL:h.f_F.Z16.length=u.Z16.length
 fldL:h.f_F.Z15.length=u.Z15.length
 fld:∀ m∈h.f_F.Z15,m.Z1x.length≤1∧∀ a∈m.Z1x,Str a.Z2y
 attL:h.f_F.Z1x.length≤1
 att:∀ a∈h.f_F.Z1x,Str a.Z2y
theorem L48x1 (p:List Z00) (e:Int) (u:Z0y) (hp:Z19 p) (hu:Z5r u):Ok (Z07 (Zlv u) Z08 (0,p,e,([]:List Int))) (fun q=>Z19 q.1∧q.2.2.length=u.Z16.length):=by
 have:=hu.ifsL
 refine lp (fun t=>t.1) (u.Z16.length) (fun t=>Z19 t.2.1∧(t.2.2.2.length:Int)=t.1) (fun t hI h0 h1=>?_) (by omega) ⟨hp,rfl⟩ (by omega) (by omega)
 obtain ⟨hI1,hI3⟩:=hI
 unfold Zlv
 refine brD (fun hlt=>?_) fun hge=>dn ⟨hI1,by dsimp only; omega⟩
 refine bd gr fun s hs=>bd (Zgb _ _ hI1 (hu.ifs _ hs)) fun v1 h1=>?_
 refine bd gk fun _ _=>bd wr fun _ hv=>?_
 exact nx ⟨h1,by simp only [List.length_append,List.length_cons,List.length_nil]; omega⟩
def MAt (m:Z0g):Prop:=m.Z1x.length≤1∧∀ a∈m.Z1x,Str a.Z2y
abbrev S48:=Int×(List Z00)×Int×(List Z0g)
def I48 (t:S48):Prop:=Z19 t.2.1∧(t.2.2.2.length:Int)=t.1∧∀ m∈t.2.2.2,MAt m
theorem K48x2 {u:Z0y} (hu:Z5r u) {t1:S48} {v26:Z5s} {v27 v28:Z0u×Int} {p9:List Z00} {p10:Int} {p11:List Z1g} (hI:I48 t1) (hp:Z19 p9) (ha:p11.length≤1∧∀ a∈p11,Str a.Z2y) (h0:0≤t1.1) (h1:t1.1<u.Z15.length):
  Ok (Ze5 t1 v26 v27 v28 p9 p10 p11) (St I48 (fun t=>t.1) u.Z15.length (fun q=>Z19 q.1∧q.2.2.length=u.Z15.length∧∀ m∈q.2.2,MAt m) t1):=by
 have:=hu.fldL
 obtain ⟨hI1,hI2,hI3⟩:=hI
 unfold Ze5
 refine bd gk fun _ _=>bd wr fun _ hv=>?_
 exact nx ⟨hp,by simp only [List.length_append,List.length_cons,List.length_nil]; omega,Z77 hI3 ha⟩
theorem L48x2 (p:List Z00) (e:Int) (u:Z0y) (hp:Z19 p) (hu:Z5r u):Ok (Z07 (Zi2 u) Z08 (0,p,e,([]:List Z0g))) (fun q=>Z19 q.1∧q.2.2.length=u.Z15.length∧∀ m∈q.2.2,MAt m):=by
 have:=hu.fldL
 refine lp (fun t=>t.1) (u.Z15.length) I48 (fun t hI h0 h1=>?_) (by omega) ⟨hp,rfl,Z4t⟩ (by omega) (by omega)
 unfold Zi2
 refine brD (fun hlt=>?_) fun hge=>dn ⟨hI.1,by have:=hI.2.1; dsimp only; omega,hI.2.2⟩
 refine bd gr fun f hf=>bd (Z80 _ _ hI.1 (hu.fld _ hf).n) fun v1 h1=>bd (Z80 _ _ h1 (hu.fld _ hf).d) fun v2 h2=>brN (fun _=>?_) fun _=>?_
 ·exact bd (Z80 _ _ h2 (by simp)) fun v3 h3=>bd (Y6d _ _ h3 (hu.fld _ hf)) fun v4 h4=>bd (Zwo _) fun v5 h5=>K48x2 hu hI h4 ⟨by simp,fun a ha=>by rw [List.mem_singleton.1 ha]; show v5.length≤_; omega⟩ h0 hlt
 ·exact K48x2 hu hI h2 ⟨by simp,Z4t⟩ h0 hlt
theorem Y8v (x:Z0u) (u:Z0y) (h:Z2v) (hp:Z19 x.f_P) (hu:Z5r u) (hi:h.f_F.Z16.length=u.Z16.length) (hf:h.f_F.Z15.length=u.Z15.length) (hm:∀ m∈h.f_F.Z15,MAt m):
  Ok (Zlm x u h) (fun r=>Z19 r.1.f_P∧Zd1 u r.2):=by
 unfold Zlm
 exact bd (L58x1 _ _ _ hp hu) fun q hq=>ok ⟨hq.1,Z19.nil,hq.2,hi,hf,hm,by simp,Z4t⟩
theorem K48x3 {u:Z0y} {v34:Z0u×Z2v} (hw:Zd1 u v34.2) {p12:List Z00} {p13:Int} {p14:List Z1g} (hp:Z19 p12) (ha:p14.length≤1∧∀ a∈p14,Str a.Z2y):Ok (Zfd v34 p12 p13 p14) (fun r=>Z19 r.1.f_P∧Zd1 u r.2):=by
 unfold Zfd
 exact ok ⟨hp,hp,hw.fam,hw.ifsL,hw.fldL,hw.fld,ha.1,ha.2⟩
theorem K48x1 {u:Z0y} (hu:Z5r u) {v0:Z0u×Int} {p0:List Z00} {p1 p2:Int} (hp:Z19 p0):Ok (Zem v0 u p0 p1 p2) (fun r=>Z19 r.1.f_P∧Zd1 u r.2):=by
 unfold Zem
 refine bd (L48x1 _ _ _ hp hu) fun q0 h0=>bd (L48x2 _ _ _ h0.1 hu) fun q2 h2=>bd (Y8v _ _ _ h2.1 hu ?_ ?_ h2.2.2) fun v34 hv=>br (fun _=>?_) fun _=>K48x3 hv.2 hv.1 ⟨hv.2.attL,hv.2.att⟩
 ·exact h0.2
 ·exact h2.2.1
 ·exact bd (Z80 _ _ hv.1 (by simp)) fun v1 h1=>bd (Z80 _ _ h1 hu.src) fun v2 h2=>bd (Zwo _) fun v5 h5=>K48x3 hv.2 h2 ⟨by simp,fun a ha=>by rw [List.mem_singleton.1 ha]; show v5.length≤_; omega⟩
theorem Y5l (x:Z0u) (u:Z0y) (hp:Z19 x.f_P) (hu:Z5r u):Ok (Zj5 x u) (fun r=>Zd1 u r.2):=by
 unfold Zj5
 refine (bd (Zgb _ _ hp hu.n) fun v0 h0=>br (fun _=>bd (Zgb _ _ h0 hu.sup) fun v1 h1=>K48x1 hu h1) fun _=>K48x1 hu h0:Ok _ (fun r:Z0u×Z2v=>Z19 r.1.f_P∧Zd1 u r.2)).mono fun r hr=>hr.2
end Go.Proofs
set_option linter.unusedVariables false
namespace Go.Proofs
open Go.Den Go.Tot
theorem Zuc (s:List UInt8) (a:Int) (hs:Str s) (h0:0≤a) (h1:a≤s.length):Ok (Z9x s a) (fun r=>r.2= -1∨(a<r.2∧r.2≤s.length)):=by
 unfold Z9x
 refine bd (P:=fun q:Int×Int=>a≤q.2∧q.2≤(s.length:Int)∧0≤q.1∧q.1≤4503599627370496) (lp (fun t=>t.1) s.length (fun t=>0≤t.2∧t.2≤t.1∧a≤t.1) (fun t hI g0 g1=>?_) (by omega) ⟨by omega,h0,by omega⟩ h0 h1) fun q hq=>?_
 ·unfold Zku Zlc
  refine brD (fun hlt=>bd gs fun _ _=>brE (fun _=>bd wr fun _ _=>bd wr fun _ _=>nx ?_ ?_ ?_) fun _=>dn ?_) fun _=>dn ?_ <;> dsimp only <;> omega
 ·obtain ⟨q1,q2⟩:=q
  dsimp only at hq ⊢
  have j2:∀ (v:Int) (p0:List UInt8) (p1:Int),Str p0→a<p1→p1≤s.length→Ok (Zbh (q1,q2) v p0 p1) (fun r=>r.2= -1∨(a<r.2∧r.2≤s.length)):=fun v p0 p1 g1 g2 g3=>by
   unfold Zbh
   exact bd (Zo2 _ g1) fun b _=>br! (fun _=>ok (.inl rfl)) fun _=>ok (.inr ⟨g2,g3⟩)
  refine brD (fun _=>ok (.inl rfl)) fun _=>bd gs fun v5 _=>bd wr fun v6 h6=>brE (fun _=>?_) fun _=>j2 _ _ _ (by simp) (by omega) (by omega)
  refine bd (P:=fun q:Int=>v6≤q∧q≤(s.length:Int)) (lp (fun t=>t) s.length (fun t=>v6≤t) (fun t hI g0 g1=>?_) (by omega) (by omega) (by omega) (by omega)) fun q hq2=>?_
  ·unfold Zh5
   exact brD (fun hlt=>bd gs fun _ _=>brN (fun _=>bd wr fun _ _=>nx (by omega) (by omega) (by omega)) fun _=>dn ⟨by omega,by omega⟩) fun _=>dn ⟨by omega,by omega⟩
  ·exact brD (fun _=>ok (.inl rfl)) fun _=>bd (sb (by omega) (by omega) (by omega)) fun v11 h11=>bd wr fun v12 h12=>j2 _ _ _ (by have:=h11.1; unfold Str at *; omega) (by omega) (by omega)
theorem Zes (s:List UInt8) (hs:Str s):Ok (Z7n s) (fun _=>True):=by
 unfold Z7n
 exact bd (Zuc s 0 hs (by omega) (by omega)) fun v _=>brN (fun _=>ok trivial) fun _=>ok trivial
theorem Zvi {s:List UInt8} (h:(s==([]:List UInt8))=false):0<s.length:=by
 cases s with
 | nil=>simp at h
 | cons a r=>simp
theorem Y8o (s:List UInt8) (hs:Str s):Ok (Zkf s) (fun _=>True):=by
 unfold Zkf Zrr
 exact bd (Zla s hs) fun b _=>br (fun _=>ok trivial) fun _=>br (fun _=>ok trivial) fun h=>by
  have:=Zvi h
  exact bd gs fun v _=>brN (fun _=>ok trivial) fun _=>bd (Zes s hs) fun v _=>ok trivial
theorem Zuf (s:List UInt8) (hs:Str s):Ok (Zc4 s) (fun b=>b=true→0<s.length):=by
 unfold Zc4
 refine br (fun h=>ok fun _=>?_) fun _=>br (fun h=>ok fun _=>?_) fun _=>brD (fun _=>bd (Zpq s hs) fun b hb=>ok fun h=>?_) fun _=>ok fun h=>by cases h
 ·rw [eq_of_beq h]; simp
 ·rw [eq_of_beq h]; simp
 ·exact List.length_pos_iff.2 (hb h)
theorem Zp9 (s:List UInt8) (hs:s.length≤1048576):Ok (Zcu s) (fun r=>r.1.Z6d.length≤1048576):=by
 unfold Zcu
 refine br (fun _=>ok (by simp)) fun h=>?_
 have hpos:=Zvi h
 refine bd gs fun v _=>brN (fun _=>ok (by simp)) fun _=>?_
 unfold j81x1
 refine bd (P:=fun q:(List Z0j×Int)⊕(Z28×Int)=>match q with|.inl q=>q.1.length≤1048576∧0≤q.2∧q.2≤(s.length:Int)|.inr y=>y.1.Z6d=[]) (lp (fun t=>t.1) s.length (fun t=>(t.2.length:Int)≤t.1) (fun t hI g0 g1=>?_) (by omega) (by simp)) fun q hq=>?_
 ·unfold l81x1 j81x2 j81x3
  have hd:t.2.length≤1048576∧0≤t.1∧t.1≤s.length:=⟨by omega,g0,g1⟩
  refine brD (fun hlt=>bd gs fun _ _=>brN (fun _=>?_) fun _=>dn hd) fun _=>dn hd
  refine bd (Zuc s t.1 (by unfold Str; omega) g0 g1) fun r hr=>brD (fun _=>dn rfl) fun hnn=>brE (fun _=>dn rfl) fun _=>?_
  have hlt2:t.1<r.2∧r.2≤s.length:=by omega
  exact bd gk fun _ _=>nx (by simp only [List.length_append,List.length_cons,List.length_nil]; omega) hlt2.1 hlt2.2
 ·cases q with
  | inr y=>exact ok (by rw [hq]; simp)
  | inl q=>
   obtain ⟨h1,h2,h3⟩:=hq
   refine brD (fun _=>ok (by simp)) fun _=>bd wr fun v hv=>bd (Zuc s v (by unfold Str; omega) (by omega) (by omega)) fun r _=>brN (fun _=>ok (by simp)) fun _=>brD (fun _=>ok (by simp)) fun _=>ok (by dsimp only; exact h1)
theorem Ya7 (s:List UInt8) (hs:s.length≤1048576):Ok (Zli s) (fun _=>True):=by
 unfold Zli
 exact bd (Zes s (by unfold Str; omega)) fun v _=>brE (fun _=>ok trivial) fun _=>bd (Zp9 s hs) fun _ _=>ok trivial
def Ent (p:List Z00) (i:Int) (c:Z00):Prop:=∃ k:Nat,i=(k:Int)+1∧p[k]?=some c
theorem Ent.mem {p:List Z00} {i:Int} {c:Z00} (h:Ent p i c):c∈p:=by
 obtain ⟨k,-,h⟩:=h
 exact List.mem_of_getElem? h
theorem Zf6 (p:List Z00) (i:Int) (hp:p.length≤140737488355328):Ok (Za7 p i) (fun r=>(r.2=0→Ent p i r.1)∧(r.2≠0→r.1.f_S=[])):=by
 unfold Za7
 refine brD (fun _=>ok ⟨by simp,by simp⟩) fun _=>brD (fun _=>ok ⟨by simp,by simp⟩) fun _=>bd wr fun v hv=>bd gri fun c hc=>ok ⟨fun _=>⟨v.toNat,by omega,hc.2⟩,by simp⟩
theorem Zmv (p:List Z00) (i t:Int) (hp:p.length≤140737488355328):Ok (Zbj p i t) (fun r=>(r.2=0→Ent p i r.1∧r.1.Z2f=t)∧(r.2≠0→r.1.f_S=[])):=by
 unfold Zbj
 exact bd (Zf6 p i hp) fun v hv=>brN (fun h=>ok ⟨fun h'=>absurd h' h,fun _=>rfl⟩) fun h=>brN (fun _=>ok ⟨by simp,by simp⟩) fun ht=>ok ⟨fun _=>⟨hv.1 h,ht⟩,by simp⟩
theorem Z58 (p:List Z00) (i:Int) (hp:p.length≤140737488355328):Ok (Z4m p i) (fun r=>r.1=[]∨∃ c,Ent p i c∧r.1=c.f_S):=by
 unfold Z4m
 refine bd (Zmv p i 1 hp) fun v hv=>ok ?_
 by_cases h:v.2=0
 ·exact .inr ⟨_,(hv.1 h).1,rfl⟩
 ·exact .inl (hv.2 h)
abbrev PS (p:List Z00) (B:Nat):Prop:=∀ c∈p,c.f_S.length≤B
theorem Zcn {p:List Z00} {i:Int} {B:Nat} (h:PS p B) {s:List UInt8} (hs:s=[]∨∃ c,Ent p i c∧s=c.f_S):s.length≤B:=by
 rcases hs with rfl|⟨c,hc,rfl⟩
 ·simp
 ·exact h c hc.mem
theorem Zsx (p:List Z00) (i:Int) {B:Nat} (hp:p.length≤140737488355328) (h:PS p B):Ok (Zd5 p i) (fun r=>r.1.length≤B):=by
 unfold Zd5
 exact bd (Zmv p i 7 hp) fun v hv=>brN (fun _=>ok (by simp)) fun _=>bd (Z58 p _ hp) fun r hr=>ok (Zcn h hr)
theorem Zet (t:Int):Ok (Za1 t) (fun _=>True):=by
 unfold Za1
 exact br (fun _=>ok trivial) fun _=>br (fun _=>ok trivial) fun _=>ok trivial
theorem Y3s (p:List Z00) (i:Int) (hp:p.length≤140737488355328):Ok (Zeo p i) (fun r=>(r.1=[]∨∃ c,c∈p∧r.1=c.f_S)∧(r.2.1=[]∨∃ c d,Ent p i c∧Ent p c.f_B d∧r.2.1=d.f_S)):=by
 unfold Zeo
 refine bd (Zmv p i 12 hp) fun v hv=>brN (fun _=>ok ⟨.inl rfl,.inl rfl⟩) fun h=>bd (Z58 p _ hp) fun a ha=>brN (fun _=>ok ⟨.inl rfl,.inl rfl⟩) fun _=>bd (Z58 p _ hp) fun b hb=>brN (fun _=>ok ⟨.inl rfl,.inl rfl⟩) fun _=>ok ⟨?_,?_⟩
 ·rcases ha with h1|⟨c,hc,h1⟩
  ·exact .inl h1
  ·exact .inr ⟨c,hc.mem,h1⟩
 ·rcases hb with h1|⟨c,hc,h1⟩
  ·exact .inl h1
  ·exact .inr ⟨_,c,(hv.1 h).1,hc,h1⟩
theorem Y52 (p:List Z00) (i t:Int) {B:Nat} (hp:p.length≤140737488355328) (h:PS p B):Ok (Zj2 p i t) (fun _=>True):=by
 unfold Zj2 Zq5
 exact bd (Zf6 p i hp) fun v hv=>brN (fun _=>ok trivial) fun _=>bd (Zet t) fun b _=>br! (fun _=>ok trivial) fun _=>brN (fun _=>ok trivial) fun _=>bd (Zsx p _ hp h) fun r _=>brN (fun _=>ok trivial) fun _=>bd (Y3s p _ hp) fun r _=>brN (fun _=>ok trivial) fun _=>ok trivial
theorem Ya9 (t:Int):Ok (Zip t) (fun _=>True):=by
 unfold Zip
 repeat' first
  | exact ok trivial
  | with_reducible refine br (fun _=>?_) fun _=>?_
  | exact bd (Zet t) fun _ _=>ok trivial
theorem Y7e (c:Z00):Ok (Zj7 c) (fun b=>b=true→c.Z2f≠1→c.f_S=[]):=by
 have h2:(c.Z2f≠1→c.f_S=[])→∀ p,Ok (Zeb c p) (fun b=>b=true→c.Z2f≠1→c.f_S=[]):=fun h p=>by
  unfold Zeb
  repeat' first
   | exact ok fun _=>h
   | with_reducible refine br (fun _=>?_) fun _=>?_
 have h1:(c.Z2f≠1→c.f_S=[])→Ok (Z8z c) (fun b=>b=true→c.Z2f≠1→c.f_S=[]):=fun h=>by
  unfold Z8z
  exact br (fun _=>h2 h _) fun _=>bd (Zet _) fun _ _=>h2 h _
 unfold Zj7
 refine brN (fun _=>br! (fun _=>ok fun h=>by cases h) fun he=>?_) fun h1'=>?_
 ·have hS:c.f_S=[] :=by simpa using he
  repeat' first
   | exact h1 fun _=>hS
   | exact ok fun h=>by cases h
   | with_reducible refine brN (fun _=>?_) fun _=>?_
 ·repeat' first
   | exact h1 fun h=>absurd h1' h
   | exact ok fun h=>by cases h
   | with_reducible refine brN (fun _=>?_) fun _=>?_
theorem Y5d (p:List Z00) (c:Z00) (hp:p.length≤140737488355328):Ok (Zjr p c) (fun _=>True):=by
 have hr:∀ i t,Ok (Zik p i t) (fun _=>True):=fun i t=>bd (Zmv p i t hp) fun _ _=>ok trivial
 have h1:∀ a b,Ok (Zdm p c a b) (fun _=>True):=fun a b=>by
  unfold Zdm Zow
  exact bd (hr _ _) fun v _=>brN (fun _=>ok trivial) fun _=>br (fun _=>ok trivial) fun _=>br (fun _=>ok trivial) fun _=>bd (hr _ _) fun _ _=>ok trivial
 unfold Zjr
 exact bd (Zet _) fun b _=>br (fun _=>h1 _ _) fun _=>h1 _ _
theorem Y50 (t:Int) (a b:List UInt8) (hb:b.length≤1048576):Ok (Zni t a b) (fun _=>True):=by
 unfold Zni
 refine bd (Zp9 b hb) fun v _=>?_
 repeat' first
  | exact ok trivial
  | with_reducible refine brD (fun _=>?_) fun _=>?_
  | with_reducible refine br (fun _=>?_) fun _=>?_
  | with_reducible refine bd gs fun _ _=>?_
theorem Y56 (p:List Z00) (hp:Z19 p) (k:Nat) (c:Z00) (hc:p[k]?=some c) (hG:∀ (j:Nat) d,j<k→p[j]?=some d→d.f_S.length≤1024):Ok (Zi6 p c) (fun e=>e=0→c.f_S.length≤1024):=by
 have hl:p.length≤140737488355328:=by have:=hp.len; omega
 have ho:=hp.ord k c hc
 have hu:∀ i:Int,i≤k→∀ s:List UInt8,(s=[]∨∃ d,Ent p i d∧s=d.f_S)→s.length≤1024:=fun i hi s hs=>by
  rcases hs with rfl|⟨d,⟨j,h1,h2⟩,rfl⟩
  ·simp
  ·exact hG j d (by omega) h2
 have h2:Ok (Zdn p c) (fun _=>True):=by
  unfold Zdn
  refine bd (Zet _) fun b _=>br (fun _=>bd (Y3s p _ hl) fun r hr=>brE (fun _=>bd (Y50 _ _ _ ?_) fun _ _=>ok trivial) fun _=>ok trivial) fun _=>ok trivial
  rcases hr.2 with h|⟨d,e,h1,h2,h3⟩
  ·rw [h]; simp
  ·obtain ⟨j,e1,e2⟩:=h1
   have:=hp.ord j d e2
   exact Nat.le_trans (hu d.f_B (by omega) _ (.inr ⟨e,h2,h3⟩)) (by omega)
 have h1:Ok (Zfv p c) (fun _=>True):=by
  unfold Zfv
  refine brE (fun _=>bd (Z58 p _ hl) fun a ha=>bd (Z58 p _ hl) fun b hb=>bd (Zuf _ (by have:=hu _ ho.1 _ ha; unfold Str; omega)) fun _ _=>br! (fun _=>ok trivial) fun _=>bd (Ya7 _ (by have:=hu _ ho.2 _ hb; omega)) fun _ _=>br! (fun _=>ok trivial) fun _=>h2) fun _=>h2
 have hcont:Ok (Zmp p c) (fun _=>True):=by
  unfold Zmp
  exact brE (fun _=>bd (Z58 p _ hl) fun a ha=>bd (Y8o _ (by have:=hu _ ho.1 _ ha; unfold Str; omega)) fun _ _=>brN (fun _=>ok trivial) fun _=>h1) fun _=>h1
 have hj:c.f_S.length≤1024→Ok (Zaw p c) (fun e=>e=0→c.f_S.length≤1024):=fun hs=>by
  unfold Zaw Zrn
  refine br (fun _=>ok fun _=>hs) fun _=>br (fun _=>ok fun _=>hs) fun _=>br (fun _=>ok fun _=>hs) fun _=>bd (Y5d p c hl) fun _ _=>brN (fun _=>ok fun _=>hs) fun _=>bd hcont fun _ _=>ok fun _=>hs
 unfold Zi6
 refine bd (Ya9 _) fun _ _=>br! (fun _=>ok (by simp)) fun _=>bd (Y7e c) fun b hb=>br! (fun _=>ok (by simp)) fun hf=>brE (fun ht=>brD (fun _=>ok (by simp)) fun hs=>?_) fun ht=>?_
 ·repeat' first
   | exact hj (by omega)
   | exact ok (by simp)
   | with_reducible refine brD (fun _=>?_) fun _=>?_
   | with_reducible refine brE (fun _=>?_) fun _=>?_
 ·have hS:=hb hf ht
  repeat' first
   | exact hj (by rw [hS]; simp)
   | exact ok (by simp)
   | with_reducible refine brD (fun _=>?_) fun _=>?_
   | with_reducible refine brE (fun _=>?_) fun _=>?_
theorem Zuq (p:List Z00) (hp:Z19 p):Ok (Zfc p) (fun r=>r.2=0→PS p 1024):=by
 have:=hp.len
 unfold Zfc
 refine brD (fun _=>ok (by simp)) fun _=>bd (P:=fun q:Unit⊕(Int×Int)=>match q with|.inl _=>PS p 1024|.inr y=>y.2≠0) (lp (fun t=>t) p.length (fun t=>∀ (j:Nat) d,(j:Int)<t→p[j]?=some d→d.f_S.length≤1024) (fun t hI h0 h1=>?_) (by omega) (fun j v h=>by omega) (by omega) (by omega)) fun q hq=>?_
 ·unfold Zt6
  refine brD (fun hlt=>?_) fun hge=>dn fun v hv=>?_
  ·refine bd gri fun c hc=>bd (Y56 p hp t.toNat c hc.2 fun j d hj hd=>hI j d (by omega) hd) fun e he=>brN (fun h=>bd wr fun _ _=>dn h) fun h=>bd wr fun v2 h2=>nx (fun j v hj hv=>?_) (by omega) (by omega)
   rcases Int.lt_or_le (j:Int) t with hlt|hge
   ·exact hI j v hlt hv
   ·have:j=t.toNat:=by omega
    subst this
    rw [hc.2] at hv; cases hv
    exact he h
  ·obtain ⟨j,hj⟩:=List.mem_iff_getElem?.1 hv
   exact hI j v (by have:=(List.getElem?_eq_some_iff.1 hj).1; omega) hj
 ·cases q with
  | inl _=>exact ok fun _=>hq
  | inr y=>exact ok fun h=>absurd h hq
end Go.Proofs
set_option linter.unusedVariables false
namespace Go.Proofs
open Go.Den Go.Tot
theorem Z75 {α R:Type} {l:List α} {P:α→Prop} {f:Int→Option (Ctl Int R)} {Q:R→Prop} (hn:l.length≤140737488355328) (h:∀ t:Int,0≤t→t<l.length→∀ v,l[t.toNat]?=some v→v∈l→Z01 l t=some v→Ok (f t) (fun x=>match x with|.next t'=>t'=t+1∧P v|.done r=>Q r))
  (he:∀ t:Int,0≤t→t=(l.length:Int)→(∀ v∈l,P v)→Ok (f t) (fun x=>match x with|.next _=>False|.done r=>Q r)):Ok (Z07 f Z08 0) Q:=by
 refine lp (fun t=>t) l.length (fun t=>∀ (j:Nat) v,(j:Int)<t→l[j]?=some v→P v) (fun t hI h0 h1=>?_) (by omega) (fun j v h=>by omega) (by omega) (by omega)
 rcases Int.lt_or_le t (l.length:Int) with hlt|hge
 ·obtain ⟨v,hg,hm,hi⟩:=gri (l:=l) h0 hlt
  refine (h t h0 hlt v hi hm hg).mono fun x hx=>?_
  cases x with
  | done r=>exact hx
  | next t'=>
   obtain ⟨rfl,hP⟩:=hx
   refine ⟨fun j w hj hw=>?_,by dsimp only; omega,by dsimp only; omega⟩
   rcases Int.lt_or_le (j:Int) t with h'|h'
   ·exact hI j w h' hw
   ·have:j=t.toNat:=by omega
    subst this
    rw [hi] at hw; cases hw; exact hP
 ·refine (he t h0 (by omega) fun v hv=>?_).mono fun x hx=>?_
  ·obtain ⟨j,hj⟩:=List.mem_iff_getElem?.1 hv
   exact hI j v (by have:=(List.getElem?_eq_some_iff.1 hj).1; omega) hj
  ·cases x with
   | done r=>exact hx
   | next t'=>exact absurd hx id
def tgt (x:Z02):List Int:=if 36≤x.f_Op∧x.f_Op≤54 then [x.f_To]++x.Z0c else []
theorem Z4x.tosL {x:Z02} (h:Z4x x):x.Z0c.length≤64:=by
 by_cases h1:x.f_Op=53
 ·exact (h.tab h1).2
 ·by_cases h2:x.f_Op=54
  ·have:=h.look h2; omega
  ·rw [h.few h1 h2]; simp
theorem Zvc (x:Z02) (h:Z4x x):Zdw x=some (tgt x):=by
 unfold Zdw tgt
 rw [Y13]
 have:=h.tosL
 by_cases hb:36≤x.f_Op∧x.f_Op≤54
 ·rw [if_pos hb]
  simp only [Option.bind_some,hb]
  obtain ⟨u,hu,-⟩:=gk (b:=8) (n:=([x.f_To]++x.Z0c).length) (by simp only [List.length_append,List.length_cons,List.length_nil]; omega) (by simp only [List.length_append,List.length_cons,List.length_nil]; omega)
  simp only [List.length_append,List.length_cons,List.length_nil,Nat.zero_add,Nat.add_comm] at hu
  simp [hu]
 ·rw [if_neg hb]
  simp [hb]
theorem put_ok (x:Z02) (at_:List Int) (hx:Z35 x) (hc:Z4x x) (ht:∀ t∈tgt x,t<at_.length):Ok (Zho x at_) (fun r=>r.length≤1000):=by
 have htl:=hc.tosL
 have hbr:36≤x.f_Op→x.f_Op≤54→0≤x.f_To∧x.f_To<at_.length∧∀ v∈x.Z0c,0≤v∧v<at_.length:=fun h h'=>by
  have e:tgt x=[x.f_To]++x.Z0c:=if_pos ⟨h,h'⟩
  rw [e] at ht
  exact ⟨(hc.aim h h').1,ht _ (by simp),fun v hv=>⟨(hc.aim h h').2 v hv,ht v (by simp [hv])⟩⟩
 have num:=fun y n hn=>Y6f y n hn
 unfold Zho
 refine bd (num _ 1 (by omega)) fun v0 h0=>bd (Zgk x.f_Op) fun k hk=>?_
 obtain ⟨k3,k6,k7,km,k0,k1⟩:=hk
 refine brE (fun _=>?_) fun _=>brE (fun _=>?_) fun _=>brE (fun h3=>?_) fun _=>brE (fun _=>?_) fun _=>brE (fun _=>?_) fun _=>brE (fun h6=>?_) fun _=>brE (fun h7=>?_) fun _=>ok (by omega)
 ·exact bd (num _ 1 (by omega)) fun v1 h1=>bd (ct (by omega)) fun v2 h2=>ok (by omega)
 ·exact bd (num _ 2 (by omega)) fun v1 h1=>bd (ct (by omega)) fun v2 h2=>ok (by omega)
 ·have hb:=hbr (by omega) (by omega)
  exact bd (gr hb.1 hb.2.1) fun v _=>bd (num _ 2 (by omega)) fun v1 h1=>bd (ct (by omega)) fun v2 h2=>ok (by omega)
 ·exact bd (num _ 1 (by omega)) fun v1 h1=>bd (ct (by omega)) fun v2 h2=>ok (by omega)
 ·exact bd (num _ 1 (by omega)) fun v1 h1=>bd (ct (by omega)) fun v2 h2=>bd (num _ 1 (by omega)) fun v3 h3=>bd (ct (by omega)) fun v4 h4=>ok (by omega)
 ·have hb:=hbr (by omega) (by omega)
  refine bd (gr hb.1 hb.2.1) fun v _=>bd (num _ 2 (by omega)) fun v1 h1=>bd (ct (by omega)) fun v2 h2=>bd (num _ 4 (by omega)) fun v3 h3=>bd (ct (by omega)) fun v4 h4=>bd (num _ 2 (by omega)) fun v5 h5=>bd (ct (by omega)) fun v6 h6=>bd (P:=fun r=>r.length≤1000) ?_ fun q hq=>ok hq
  refine lp (fun t=>t.2) x.Z0c.length (fun t=>(t.1.length:Int)≤100+8*t.2) (fun t hI g0 g1=>?_) (by omega) (by dsimp only; omega)
  unfold Zth
  refine brD (fun hlt=>bd gr fun w hw=>bd (gr (hb.2.2 w hw).1 (hb.2.2 w hw).2) fun z _=>bd (num _ 2 (by omega)) fun y1 e1=>bd (ct (by omega)) fun y2 e2=>bd wr fun k hk=>nx (by dsimp only; omega)) fun _=>dn (by omega)
 ·have hb:=hbr (by omega) (by omega)
  have hlk:=hc.look (by omega)
  refine bd (gr hb.1 hb.2.1) fun v _=>bd (num _ 2 (by omega)) fun v1 h1=>bd (ct (by omega)) fun v2 h2=>bd (num _ 2 (by omega)) fun v3 h3=>bd (ct (by omega)) fun v4 h4=>bd (P:=fun r=>r.length≤1000) ?_ fun q hq=>ok hq
  refine lp (fun t=>t.2) x.Z0z.length (fun t=>(t.1.length:Int)≤100+8*t.2) (fun t hI g0 g1=>?_) (by omega) (by dsimp only; omega)
  unfold Zqy
  refine brD (fun hlt=>bd gr fun w0 hw0=>bd (num _ 4 (by omega)) fun z1 e1=>bd (ct (by omega)) fun z2 e2=>bd gr fun w hw=>bd (gr (hb.2.2 w hw).1 (hb.2.2 w hw).2) fun z _=>bd (num _ 2 (by omega)) fun y1 e1=>bd (ct (by omega)) fun y2 e2=>bd wr fun k hk=>nx (by dsimp only; omega)) fun _=>dn (by omega)
theorem enc_ok (l:List Z02) (hl:∀ i∈l,Z35 i) (hn:l.length≤140737488355328):Ok (Zod l) (fun r=>r.1.length≤1000000):=by
 unfold Zod
 refine bd (Zqg l hl hn) fun v0 h0=>brN (fun _=>ok (by simp)) fun h=>?_
 obtain ⟨g1,g2,g3⟩:=h0.1 h
 refine bd (P:=fun q:Unit⊕(List UInt8×Int)=>match q with|.inl _=>∀ i∈l,∀ t∈tgt i,t<l.length|.inr y=>y.1=[]) (Z75 (P:=fun i=>∀ t∈tgt i,t<l.length) hn (fun t h0 h1 i hi hm hg=>?_) fun t h0 h1 ha=>?_) fun q hq=>?_
 ·unfold Zha
  rw [hg]
  have hf:(tgt i).length≤65:=by
   have:=(g3 i hm).tosL
   unfold tgt; split <;> simp; omega
  refine brD (fun _=>bs ?_) fun h=>absurd h1 h
  rw [Zvc i (g3 i hm)]
  refine bs (bd (P:=fun q:Unit⊕(List UInt8×Int)=>match q with|.inl _=>∀ t∈tgt i,t<l.length|.inr y=>y.1=[]) (Z75 (l:=tgt i) (P:=fun t=>t<(l.length:Int)) (by omega) (fun k k0 k1 v hv hvm hvg=>?_) fun k k0 k1 ha=>?_) fun q hq=>?_)
  ·unfold Zlz
   rw [hvg]
   exact brD (fun _=>bs (brD (fun _=>ok rfl) fun _=>bd wr fun w hw=>ok ⟨hw,by omega⟩)) fun h=>absurd k1 h
  ·unfold Zlz
   exact brD (fun h=>absurd h (by omega)) fun _=>ok ha
  ·cases q with
   | inl _=>exact bd wr fun w hw=>ok ⟨hw,hq⟩
   | inr y=>exact ok hq
 ·unfold Zha
  exact brD (fun h=>absurd h (by omega)) fun _=>ok ha
 ·cases q with
  | inr y=>exact ok (by rw [hq]; simp)
  | inl _=>
   refine bd (P:=fun r=>r.length≤1000000) (lp (fun t=>t.2) l.length (fun t=>(t.1.length:Int)≤1000*t.2) (fun t hI k0 k1=>?_) (by omega) (by simp)) fun q6 h6=>ok h6
   unfold Zto
   refine brD (fun hlt=>bd gr fun i hi=>bd (put_ok i v0.1 (hl i hi) (g3 i hi) fun t ht=>by have:=hq i hi t ht; omega) fun y hy=>bd (ct (by omega)) fun z hz=>bd wr fun w hw=>nx (by dsimp only; omega)) fun _=>dn (by omega)
theorem Zyy (l:List Z0k) (at_:List Int) (hn:l.length≤140737488355328) (h5:∀ v∈l,v.Z1d=5→0≤v.Z3s∧v.Z3s<at_.length):Ok (Zgf l at_) (fun r=>r.length≤1+5*l.length):=by
 unfold Zgf
 refine bd (Zoy _) fun v0 h0=>bd (P:=fun r=>r.length≤1+5*l.length) (lp (fun t=>t.2) l.length (fun t=>(t.1.length:Int)≤1+5*t.2) (fun t hI k0 k1=>?_) (by omega) (by dsimp only; omega)) fun q hq=>ok hq
 unfold Zr5
 refine brD (fun hlt=>?_) fun _=>dn (by omega)
 obtain ⟨v,hg,hm⟩:=gr (l:=l) (i:=t.2) (by omega) hlt
 simp only [hg]
 have hj:∀ p:List UInt8,(p.length:Int)≤1+5*t.2+3→Ok (Zdz t l p) (St (fun t=>(t.1.length:Int)≤1+5*t.2) (fun t=>t.2) l.length (fun r=>r.length≤1+5*l.length) t):=fun p hp=>by
  unfold Zdz
  simp only [hg]
  exact bs (brD (fun _=>bs (bd (Z5p _) fun z hz=>bd (ct (by omega)) fun y hy=>bd wr fun w hw=>nx (by dsimp only; omega))) fun _=>bd wr fun w hw=>nx (by dsimp only; omega))
 refine bs (bd (Zoy _) fun a ha=>bd (ct (by omega)) fun b hb=>bs (brE (fun h=>bs (bd (gr (h5 v hm h).1 (h5 v hm h).2) fun y _=>bd (Z5p _) fun z hz=>bd (ct (by omega)) fun w hw=>hj w (by omega))) fun _=>hj b (by omega)))
theorem Y3e (l:List Int):Ok (Ze7 l) (fun r=>Str r.1):=by
 unfold Ze7
 refine brD (fun _=>ok (by simp)) fun _=>bd (Z5p _) fun v0 h0=>bd (P:=fun q:List UInt8⊕(List UInt8×Int)=>match q with|.inl q=>q.length≤1000|.inr y=>y.1=[]) (lp (fun t=>t.2) l.length (fun t=>(t.1.length:Int)≤2+2*t.2) (fun t hI k0 k1=>?_) (by omega) (by dsimp only; omega)) fun q hq=>?_
 ·unfold Zpd Zp4
  refine brD (fun hlt=>bd gr fun _ _=>brD (fun _=>dn rfl) fun _=>bd gr fun _ _=>brD (fun _=>dn rfl) fun _=>bd gr fun _ _=>bd (Z5p _) fun y hy=>bd (ct (by omega)) fun z hz=>bd wr fun w hw=>nx (by dsimp only; omega)) fun _=>dn (by dsimp only; omega)
 ·cases q with
  | inl q => exact ok (by have h:q.length≤1000:=hq
                          show q.length≤_; omega)
  | inr y=>exact ok (by rw [hq]; simp)
structure CPre (c:Z0b):Prop where
 ins:∀ i∈c.Z0l,Z35 i
 insL:c.Z0l.length≤140737488355328
 hndL:c.Z20.length≤140737488355328
 mapL:c.Z1q.length≤140737488355328
 linL:c.Z1r.length≤140737488355328
 frm:∀ m∈c.Z1q,m.Z1o.Z0d.length≤140737488355328∧m.Z1o.Z0i.length≤140737488355328
theorem Z5o.pre {c:Z0b} (h:Z5o c):CPre c:=⟨h.ins,by have:=h.insL; omega,by have:=h.hndL; omega,by have:=h.mapL; omega,by have:=h.linL; omega,fun m hm=>⟨by have:=(h.map m hm).locL; omega,by have:=(h.map m hm).stkL; omega⟩⟩
def Chk0 (l:List Z02):Prop:=∀ i∈l,Z61 i=some 0
theorem all_ok (l:List Z02) (hl:∀ i∈l,Z35 i) (hn:l.length≤140737488355328):Ok (Zm0 l) (fun b=>Chk0 l→b=true):=by
 unfold Zm0
 refine bd (P:=fun q:Unit⊕Bool=>match q with|.inl _=>True|.inr b=>¬ Chk0 l) (li l.length (fun t h0 h1=>?_) (by omega) (by omega) (by omega)) fun q hq=>?_
 ·unfold Zoz
  refine brD (fun _=>bd gr fun i hi=>bdE (Zfr i (hl i hi)) fun e he _=>brN (fun h=>di fun hc=>h ?_) fun _=>bd wr fun _ _=>ni (by omega) (by omega)) fun _=>di trivial
  rw [hc i hi] at he; cases he; rfl
 ·cases q with
  | inl _=>exact ok fun _=>rfl
  | inr b=>exact ok fun h=>absurd h hq
theorem Y8f (l:List Z02) (hl:∀ i∈l,Z35 i) (hn:l.length≤1000):Ok (Z79 l) (fun r=>Chk0 l→r.2=0∨r.2=8):=by
 unfold Z79
 refine bd (P:=fun q:Unit⊕(List Int×Int)=>match q with|.inl _=>∀ i∈l,Z4x i|.inr y=>¬ Chk0 l) (Z75 (l:=l) (P:=Z4x) (by omega) (fun t h0 h1 i hi hm hg=>?_) fun t h0 h1 ha=>?_) fun q hq=>?_
 ·unfold Zcq
  rw [hg]
  refine brD (fun _=>bs (bdE (Zfr i (hl i hm)) fun e he hc=>brN (fun h=>ok fun hc=>h ?_) fun h=>bd wr fun w hw=>ok ⟨hw,hc h⟩)) fun h=>absurd h1 h
  rw [hc i hm] at he; cases he; rfl
 ·unfold Zcq
  exact brD (fun h=>absurd h (by omega)) fun _=>ok ha
 ·cases q with
  | inr y=>exact ok fun h=>absurd h hq
  | inl _=>
   have hch:∀ i∈l,Z4x i:=hq
   refine brD (fun h=>absurd h (by omega)) fun _=>bd (P:=fun r=>r.length=l.length+1) ?_ fun q2 hq2=>bd ik fun j hj=>bd (la (by omega)) fun _ _=>brD (fun _=>ok fun _=> .inr rfl) fun _=>ok fun _=> .inl rfl
   refine lp (fun t=>t.1) l.length (fun t=>(t.2.length:Int)=t.1+1∧∀ v∈t.2,0≤v∧v≤400*t.1) (fun t hI h0 h1=>?_) (by omega) ⟨rfl,by simp⟩
   obtain ⟨hI1,hI2⟩:=hI
   unfold Zn8
   refine brD (fun hlt=>?_) fun hge=>dn (by omega)
   refine bd ik fun j hj=>bd (la (by omega)) fun v hv=>bd gr fun i hi=>bd (Zy7 i (hl i hi) (hch i hi)) fun n hn=>?_
   have hv2:=hI2 v hv.2
   refine bd wr fun w hw=>bd gk fun _ _=>bd wr fun k hk=>?_
   refine nx ⟨by simp only [List.length_append,List.length_cons,List.length_nil]; omega,Z9b (fun v hv=>?_) ?_⟩
   ·have:=hI2 v hv; dsimp only; omega
   ·dsimp only; omega
theorem head_ok (p:List Z00) (c:Z0b) (hp:Z19 p) (hc:CPre c):Ok (Zki p c) (fun e=>e=0→PS p 1024∧(c.Z0d≤32∧c.Z0i≤32)∧1≤c.Z0l.length∧c.Z0l.length≤1000∧(Chk0 c.Z0l→∃ v,Z79 c.Z0l=some v∧v.2=0)):=by
 unfold Zki
 refine bd (Zuq p hp) fun v0 h0=>brN (fun h=>ok fun h'=>absurd h' h) fun h=>?_
 have hps:=h0 h
 have hj:c.Z0d≤32∧c.Z0i≤32→Ok (Zoe c) (fun e=>e=0→PS p 1024∧(c.Z0d≤32∧c.Z0i≤32)∧1≤c.Z0l.length∧c.Z0l.length≤1000∧(Chk0 c.Z0l→∃ v,Z79 c.Z0l=some v∧v.2=0)):=fun hLT=>by
  unfold Zoe Zoq
  refine brE (fun _=>ok (by simp)) fun h1=>brD (fun _=>ok (by simp)) fun h2=>bd (all_ok _ hc.ins hc.insL) fun b hb=>br (fun _=>bdE (Y8f _ hc.ins (by omega)) fun v hv hv2=>brE (fun he=>ok fun h=>?_) fun he=>ok fun _=>⟨hps,hLT,by omega,by omega,fun hk=>⟨v,hv,(hv2 hk).resolve_right he⟩⟩) fun hf=>ok fun _=>⟨hps,hLT,by omega,by omega,fun hk=>?_⟩
  ·omega
  ·rw [hb hk] at hf; cases hf
 exact brD (fun _=>ok (by simp)) fun _=>brD (fun _=>ok (by simp)) fun _=>brD (fun _=>ok (by simp)) fun _=>brD (fun _=>ok (by simp)) fun _=>hj ⟨by omega,by omega⟩
theorem has_ok (l:List Int) (x:Int) (hl:l.length≤140737488355328):Ok (Zk6 l x) (fun _=>True):=by
 unfold Zk6
 refine bd (li l.length (Q:=fun _=>True) (fun t h0 h1=>?_) (by omega) (by omega) (by omega)) fun q _=>by cases q <;> exact ok trivial
 unfold Zom
 exact brD (fun _=>bd gr fun _ _=>br (fun _=>di trivial) fun _=>bd wr fun _ _=>ni (by omega) (by omega)) fun _=>di trivial
section
variable {p:List Z00} (hp:p.length≤1000) (hS:PS p 1024)
include hp hS
theorem Zsw (i:Int):Ok (Z9e p i) (fun _=>True):=by
 unfold Z9e
 exact bd (Zsx p i (by omega) hS) fun v hv=>brE (fun _=>brD (fun _=>bd gs fun _ _=>ok trivial) fun _=>ok trivial) fun _=>ok trivial
theorem Y87 (i:Int):Ok (Zao p i) (fun _=>True):=by
 unfold Zao
 exact bd (Zf6 p i (by omega)) fun v _=>bd (Y52 p i _ (by omega) hS) fun _ _=>brE (fun _=>ok trivial) fun _=>ok trivial
theorem Y5r (x:Z02):Ok (Zhz p x) (fun _=>True):=by
 have h2:Ok (Zg0 p x) (fun _=>True):=by
  unfold Zg0
  have hn:Ok ((Zao p x.f_A).bind fun v=>if v=true then some 12 else some 0) (fun _:Int=>True):=bd (Y87 hp hS _) fun _ _=>br (fun _=>ok trivial) fun _=>ok trivial
  exact brE (fun _=>hn) fun _=>brE (fun _=>hn) fun _=>brE (fun _=>hn) fun _=>ok trivial
 unfold Zhz
 refine bd (Zf6 p x.f_A (by omega)) fun v0 h0=>brN (fun _=>ok trivial) fun he=>?_
 have h1:Ok (Z6x v0 p x) (fun _=>True):=by
  unfold Z6x
  exact brE (fun _=>bd (Zes _ (by have:=hS _ (h0.1 he).mem; unfold Str; omega)) fun _ _=>brN (fun _=>ok trivial) fun _=>brE (fun _=>ok trivial) fun _=>h2) fun _=>h2
 have h3:Ok (if decide (x.f_Op≥59)=true then (if decide (x.f_Op≤66)=true then ((Z9e p v0.1.f_A).bind fun v4=>if (!v4)=true then some 13 else Z6x v0 p x) else Z6x v0 p x) else Z6x v0 p x) (fun _=>True):=
  brD (fun _=>brD (fun _=>bd (Zsw hp hS _) fun _ _=>br! (fun _=>ok trivial) fun _=>h1) fun _=>h1) fun _=>h1
 exact bd (Y06 _) fun v1 g1=>bd (has_ok _ _ (by omega)) fun _ _=>br! (fun _=>ok trivial) fun _=>brE (fun _=>bd (Zsw hp hS _) fun _ _=>br! (fun _=>ok trivial) fun _=>h3) fun _=>h3
theorem Y9v (c:Z0b) (x:Z02) (hx:Z35 x):Ok (Zn5 p c x) (fun e=>e=0→Z61 x=some 0∧Z4x x):=by
 unfold Zn5
 refine bdE (Zfr x hx) fun v0 e0 h0=>brN (fun h=>ok fun h'=>absurd h' h) fun h=>?_
 have hc:=h0 h
 rw [h] at e0
 rw [Zvc x hc]
 have hj:∀ v7,Ok (Zbv v7 p x) (fun e=>e=0→Z61 x=some 0∧Z4x x):=fun v7=>by
  unfold Zbv
  exact brE (fun _=>bd (Y5r hp hS x) fun _ _=>ok fun _=>⟨e0,hc⟩) fun _=>ok fun _=>⟨e0,hc⟩
 have hf:(tgt x).length≤65:=by
  have:=hc.tosL
  unfold tgt; split <;> simp; omega
 refine bs (bd (P:=fun q:Unit⊕Int=>match q with|.inl _=>True|.inr e=>e≠0) (li (tgt x).length (fun t h0 h1=>?_) (by omega) (by omega) (by omega)) fun q hq=>?_)
 ·unfold Zsq
  exact brD (fun _=>bd gr fun _ _=>brD (fun _=>di (by simp)) fun _=>bd gr fun _ _=>brD (fun _=>di (by simp)) fun _=>bd wr fun _ _=>ni (by omega) (by omega)) fun _=>di trivial
 ·cases q with
  | inr e=>exact ok fun h=>absurd h hq
  | inl _=>exact bd (Zgk _) fun v7 _=>brE (fun _=>brD (fun _=>ok (by simp)) fun _=>hj _) fun _=>brE (fun _=>brD (fun _=>ok (by simp)) fun _=>hj _) fun _=>hj _
def Zg8 (n:Int) (h:Z0o):Prop:=0≤h.Z6a∧h.Z6a<h.f_To∧h.f_To≤n∧0≤h.Z6e∧h.Z6e<n
theorem row9_ok (n:Int) (h:Z0o):Ok (Zjm p n h) (fun b=>b=true→Zg8 n h):=by
 unfold Zjm
 have z:Ok (some false) (fun b=>b=true→Zg8 n h):=ok fun h=>by cases h
 exact brD (fun h1=>brD (fun h2=>brD (fun h3=>brD (fun h4=>brD (fun h5=>br (fun _=>brE (fun _=>ok fun _=>⟨by omega,h2,h3,by omega,h5⟩) fun _=>bd (Zsw hp hS _) fun _ _=>ok fun _=>⟨by omega,h2,h3,by omega,h5⟩) fun _=>z) fun _=>z) fun _=>z) fun _=>z) fun _=>z) fun _=>z
theorem Zrp (i:Int) (b:Bool):Ok (Zc8 p i b) (fun _=>True):=by
 unfold Zc8
 exact bd (Z58 p i (by omega)) fun v hv=>brN (fun _=>ok trivial) fun _=>bd (Zes _ (by have:=Zcn hS hv; unfold Str; omega)) fun _ _=>brN (fun _=>ok trivial) fun _=>brD (fun _=>ok trivial) fun _=>ok trivial
def VOk (n:Int) (v:Z0k):Prop:=v.Z1d=5→0≤v.Z3s∧v.Z3s<n
theorem Y7t (c:Z0b) (v:Z0k):Ok (Zjz p c v) (fun b=>b=true→VOk c.Z0l.length v):=by
 unfold Zjz Zu0 Zq4
 have z:Ok (some false) (fun b=>b=true→VOk c.Z0l.length v):=ok fun h=>by cases h
 have y:∀ b,v.Z1d≠5→Ok (some b) (fun b=>b=true→VOk c.Z0l.length v):=fun b h=>ok fun _ h'=>absurd h' h
 refine br! (fun _=>z) fun _=>brE (fun h=>brE (fun _=>y _ (by omega)) fun _=>z) fun _=>brE (fun h=>brE (fun _=>y _ (by omega)) fun _=>z) fun _=>brE (fun h=>brE (fun _=>y _ (by omega)) fun _=>z) fun _=>brE (fun h=>brE (fun _=>y _ (by omega)) fun _=>z) fun _=>?_
 refine brE (fun h=>brE (fun _=>bd (Zrp hp hS _ _) fun _ _=>y _ (by omega)) fun _=>z) fun _=>brE (fun h=>brE (fun _=>bd (Zrp hp hS _ _) fun _ _=>y _ (by omega)) fun _=>z) fun _=>brE (fun h=>brD (fun h1=>brD (fun h2=>bd gr fun _ _=>brE (fun _=>bd (Zrp hp hS _ _) fun _ _=>ok fun _ _=>⟨by omega,h2⟩) fun _=>z) fun _=>z) fun _=>z) fun _=>z
theorem Y4h (c:Z0b) (l:List Z0k) (hl:l.length≤140737488355328):Ok (Zen p c l) (fun b=>b=true→∀ v∈l,VOk c.Z0l.length v):=by
 unfold Zen
 refine bd (P:=fun q:Unit⊕Bool=>match q with|.inl _=>∀ v∈l,VOk c.Z0l.length v|.inr b=>b=false) (Z75 (P:=VOk c.Z0l.length) hl (fun t h0 h1 v hv hm hg=>?_) fun t h0 h1 ha=>?_) fun q hq=>?_
 ·unfold Ziz
  rw [hg]
  exact brD (fun _=>bs (bd (Y7t hp hS c v) fun b hb=>br! (fun _=>ok rfl) fun h=>bd wr fun w hw=>ok ⟨hw,hb h⟩)) fun h=>absurd h1 h
 ·unfold Ziz
  exact brD (fun h=>absurd h (by omega)) fun _=>ok ha
 ·cases q with
  | inl _=>exact ok fun _=>hq
  | inr b=>exact ok fun h=>by cases hq.symm.trans h
def Zb0 (n:Int) (m:Z0p):Prop:=0≤m.Z2o∧m.Z2o<n∧(∀ v∈m.Z1o.Z0d,VOk n v)∧(∀ v∈m.Z1o.Z0i,VOk n v)∧m.Z1o.Z0d.length≤32∧m.Z1o.Z0i.length≤32
theorem Y7m (c:Z0b) (hc:CPre c) (hL:c.Z0d≤32) (hT:c.Z0i≤32) (i:Int) (h0:0≤i) (h1:i<c.Z1q.length) (m:Z0p) (hg:Z01 c.Z1q i=some m) (hm:m∈c.Z1q):Ok (Zjq p c i) (fun b=>b=true→Zb0 c.Z0l.length m):=by
 have:=hc.mapL
 have z:Ok (some false) (fun b=>b=true→Zb0 c.Z0l.length m):=ok fun h=>by cases h
 unfold Zjq
 rw [hg]
 refine bs (brD (fun _=>z) fun g0=>brD (fun _=>z) fun g1=>?_)
 have hj:(m.Z1o.Z0d.length:Int)≤c.Z0d→(m.Z1o.Z0i.length:Int)≤c.Z0i→Ok (Zdf m p c) (fun b=>b=true→Zb0 c.Z0l.length m):=fun q1 q2=>by
  unfold Zdf
  exact bd (Y4h hp hS c _ (hc.frm m hm).1) fun b hb=>br (fun h=>bd (Y4h hp hS c _ (hc.frm m hm).2) fun b' hb'=>ok fun h'=>⟨by omega,by omega,hb h,hb' h',by omega,by omega⟩) fun _=>z
 have hk:Ok (if decide ((m.Z1o.Z0d.length:Int)>c.Z0d)=true then some false else if decide ((m.Z1o.Z0i.length:Int)>c.Z0i)=true then some false else Zdf m p c) (fun b=>b=true→Zb0 c.Z0l.length m):=brD (fun _=>z) fun q1=>brD (fun _=>z) fun q2=>hj (by omega) (by omega)
 exact brD (fun _=>bd wr fun v1 e1=>bd gr fun v2 _=>brD (fun _=>z) fun _=>hk) fun _=>hk
def LinOk (n:Int) (x:Z17):Prop:=0≤x.Z2o∧x.Z2o<n
structure Y0r (c:Z0b):Prop where
 hnd:∀ h∈c.Z20,Zg8 c.Z0l.length h
 map:∀ m∈c.Z1q,Zb0 c.Z0l.length m
 lin:∀ x∈c.Z1r,LinOk c.Z0l.length x
theorem Y6x (c:Z0b) (hc:CPre c) (hL:c.Z0d≤32) (hT:c.Z0i≤32):Ok (Zls p c) (fun r=>r.2=0→Y0r c):=by
 have g1:=hc.hndL; have g2:=hc.mapL; have g3:=hc.linL
 unfold Zls
 refine brD (fun _=>ok (by simp)) fun _=>bd (P:=fun q:Unit⊕(Int×Int)=>match q with|.inl _=>∀ h∈c.Z20,Zg8 c.Z0l.length h|.inr y=>y.2≠0) (Z75 (P:=Zg8 c.Z0l.length) g1 (fun t h0 h1 v hv hm hg=>?_) fun t h0 h1 ha=>?_) fun q1 hq1=>?_
 ·unfold Zh9
  rw [hg]
  exact brD (fun _=>bs (bd (row9_ok hp hS _ v) fun b hb=>br! (fun _=>ok (by simp)) fun h=>bd wr fun w hw=>ok ⟨hw,hb h⟩)) fun h=>absurd h1 h
 ·unfold Zh9
  exact brD (fun h=>absurd h (by omega)) fun _=>ok ha
 cases q1 with
 | inr y=>exact ok fun h=>absurd h hq1
 | inl _=>
 refine bd (P:=fun q:Unit⊕(Int×Int)=>match q with|.inl _=>∀ m∈c.Z1q,Zb0 c.Z0l.length m|.inr y=>y.2≠0) (Z75 (P:=Zb0 c.Z0l.length) g2 (fun t h0 h1 v hv hm hg=>?_) fun t h0 h1 ha=>?_) fun q2 hq2=>?_
 ·unfold Zj4
  exact brD (fun _=>bd (Y7m hp hS c hc hL hT t h0 h1 v hg hm) fun b hb=>br! (fun _=>ok (by simp)) fun h=>bd wr fun w hw=>ok ⟨hw,hb h⟩) fun h=>absurd h1 h
 ·unfold Zj4
  exact brD (fun h=>absurd h (by omega)) fun _=>ok ha
 cases q2 with
 | inr y=>exact ok fun h=>absurd h hq2
 | inl _=>
 refine bd (P:=fun q:Unit⊕(Int×Int)=>match q with|.inl _=>∀ x∈c.Z1r,LinOk c.Z0l.length x|.inr y=>y.2≠0) (Z75 (P:=LinOk c.Z0l.length) g3 (fun t h0 h1 v hv hm hg=>?_) fun t h0 h1 ha=>?_) fun q3 hq3=>?_
 ·unfold Zj9
  rw [hg]
  exact brD (fun _=>bs (brD (fun _=>ok (by simp)) fun k0=>brD (fun _=>ok (by simp)) fun k1=>brD (fun _=>bd wr fun w hw=>bd gr fun _ _=>brD (fun _=>ok (by simp)) fun _=>brD (fun _=>ok (by simp)) fun _=>brD (fun _=>ok (by simp)) fun _=>bd wr fun w hw=>ok ⟨hw,by omega,by omega⟩) fun _=>brD (fun _=>ok (by simp)) fun _=>brD (fun _=>ok (by simp)) fun _=>bd wr fun w hw=>ok ⟨hw,by omega,by omega⟩)) fun h=>absurd h1 h
 ·unfold Zj9
  exact brD (fun h=>absurd h (by omega)) fun _=>ok ha
 cases q3 with
 | inr y=>exact ok fun h=>absurd h hq3
 | inl _=>exact ok fun _=>⟨hq1,hq2,hq3⟩
end
theorem Y0k (p:List Z00) (c:Z0b) (hp:Z19 p) (hc:CPre c):Ok (Zfz p c) (fun r=>r.2=0→Y0r c∧∃ v,Z79 c.Z0l=some v∧v.2=0):=by
 unfold Zfz
 refine bd (head_ok p c hp hc) fun v0 h0=>brN (fun h=>ok fun h'=>absurd h' h) fun h=>?_
 obtain ⟨hS,⟨hL,hT⟩,hn1,hn2,hoff⟩:=h0 h
 have hl:=hp.len
 refine bd (P:=fun q:Unit⊕(Int×Int)=>match q with|.inl _=>∀ i∈c.Z0l,Z61 i=some 0|.inr y=>y.2≠0) (Z75 (l:=c.Z0l) (P:=fun i=>Z61 i=some 0) (by omega) (fun t h0 h1 v hv hm hg=>?_) fun t h0 h1 ha=>?_) fun q hq=>?_
 ·unfold Zn4
  rw [hg]
  exact brD (fun _=>bs (bd (Y9v hl hS c v (hc.ins v hm)) fun e he=>brN (fun h=>ok h) fun h=>bd wr fun w hw=>ok ⟨hw,(he h).1⟩)) fun h=>absurd h1 h
 ·unfold Zn4
  exact brD (fun h=>absurd h (by omega)) fun _=>ok ha
 ·cases q with
  | inr y=>exact ok fun h=>absurd h hq
  | inl _=>
   refine bd wr fun v6 e6=>bd gr fun v7 _=>bd (P:=fun _=>True) ?_ fun v8 _=>br! (fun _=>bd wr fun _ _=>ok (by simp)) fun _=>bd (Y6x hl hS c hc hL hT) fun r hr=>ok fun h=>⟨hr h,hoff hq⟩
   unfold Zpi
   rw [Zr1]
   exact bs (br (fun _=>ok trivial) fun _=>ok trivial)
end Go.Proofs
set_option linter.unusedVariables false
namespace Go.Proofs
open Go.Den Go.Tot
theorem Y6h (p:List Z00) (c:Z0b) (hp:Z19 p) (hc:Z5o c):Ok (Znj p c) (fun r=>Str r.1):=by
 have gI:=hc.insL; have gH:=hc.hndL; have gM:=hc.mapL; have gL:=hc.linL
 unfold Znj
 refine bd (Y0k p c hp hc.pre) fun v0 h0=>brN (fun _=>ok (by simp)) fun h=>?_
 obtain ⟨hk,v,hv,hv2⟩:=h0 h
 rw [hv]
 obtain ⟨r,hr,hr2⟩:=Zqg c.Z0l hc.ins (by omega)
 rw [hv] at hr; cases hr
 obtain ⟨hlen,hn,-⟩:=hr2.1 hv2
 refine bs (bd (enc_ok _ hc.ins (by omega)) fun v2 h2=>bd (Zh2 _ 4 (by omega)) fun v3 h3=>bd (Z5p _) fun v4 h4=>bd (Z5p _) fun v5 h5=>bd (ct (by omega)) fun v6 h6=>bd (ct (by omega)) fun v7 h7=>bd (ct (by omega)) fun v8 h8=>bd (Z5p _) fun v9 h9=>bd (ct (by omega)) fun v10 h10=>?_)
 -- the lists are short by what they hold; here their lengths in memory do
 refine bd (P:=fun r=>(r.length:Int)≤2000000+8*c.Z20.length) (lp (fun t=>t.2) c.Z20.length (fun t=>(t.1.length:Int)≤2000000+8*t.2) (fun t hI g0 g1=>?_) (by omega) (by dsimp only; omega)) fun q0 hq0=>?_
 ·unfold Zpl
  refine brD (fun hlt=>bd gr fun x hx=>?_) fun _=>dn (by omega)
  obtain ⟨k1,k2,k3,k4,k5⟩:=hk.hnd x hx
  exact bd gr fun _ _=>bd (Z5p _) fun a ha=>bd (ct (by omega)) fun b hb=>bd gr fun _ _=>bd (Z5p _) fun a2 ha2=>bd (ct (by omega)) fun b2 hb2=>bd gr fun _ _=>bd (Z5p _) fun a3 ha3=>bd (ct (by omega)) fun b3 hb3=>bd (Z5p _) fun a4 ha4=>bd (ct (by omega)) fun b4 hb4=>bd wr fun w hw=>nx (by dsimp only; omega)
 refine bd (Z5p _) fun v36 h36=>bd (ct (by omega)) fun v37 h37=>?_
 refine bd (P:=fun r=>(r.length:Int)≤30000000000000+400*c.Z1q.length) (lp (fun t=>t.2) c.Z1q.length (fun t=>(t.1.length:Int)≤30000000000000+400*t.2) (fun t hI g0 g1=>?_) (by omega) (by dsimp only; omega)) fun q2 hq2=>?_
 ·unfold Zpp
  refine brD (fun hlt=>bd gr fun m hm=>?_) fun _=>dn (by omega)
  obtain ⟨k1,k2,k3,k4,k5,k6⟩:=hk.map m hm
  have hj:∀ x,Ok (Zga t v m x) (St (fun t=>(t.1.length:Int)≤30000000000000+400*t.2) (fun t=>t.2) c.Z1q.length (fun r=>(r.length:Int)≤30000000000000+400*c.Z1q.length) t):=fun x=>by
   unfold Zga
   refine bd gr fun _ _=>bd (Z5p _) fun a ha=>bd (ct (by omega)) fun b hb=>bd (Zoy _) fun a2 ha2=>bd (ct (by omega)) fun b2 hb2=>bd (Zyy _ v.1 (by omega) fun y hy h5=>?_) fun a3 ha3=>bd (ct (by omega)) fun b3 hb3=>bd (Zyy _ v.1 (by omega) fun y hy h5=>?_) fun a4 ha4=>bd (ct (by omega)) fun b4 hb4=>bd wr fun w hw=>nx (by dsimp only; omega)
   ·have:=k3 y hy h5; omega
   ·have:=k4 y hy h5; omega
  exact br (fun _=>hj _) fun _=>hj _
 refine bd (Z5p _) fun v59 h59=>bd (ct (by omega)) fun v60 h60=>bd (P:=fun r=>(r.length:Int)≤2000000000000000+4*c.Z1r.length) (lp (fun t=>t.2) c.Z1r.length (fun t=>(t.1.length:Int)≤2000000000000000+4*t.2) (fun t hI g0 g1=>?_) (by omega) (by dsimp only; omega)) fun q4 hq4=>ok (by dsimp only; omega)
 unfold Zqn
 refine brD (fun hlt=>?_) fun _=>dn (by omega)
 obtain ⟨x,hg,hm⟩:=gr (l:=c.Z1r) (i:=t.2) (by omega) hlt
 obtain ⟨k1,k2⟩:=hk.lin x hm
 simp only [hg]
 exact bs (bd gr fun _ _=>bd (Z5p _) fun a ha=>bd (ct (by omega)) fun b hb=>bs (bd (Z5p _) fun a2 ha2=>bd (ct (by omega)) fun b2 hb2=>bd wr fun w hw=>nx (by dsimp only; omega)))
theorem Zbn (l:List Int) (x:Int) (hl:l.length≤140737488355328):Ok (Z8f l x) (fun _=>True):=by
 unfold Z8f
 refine bd (P:=fun _=>True) (li (max 0 (l.length:Int)) (fun t h0 h1=>?_) (by omega) (by omega) (by omega)) fun q _=>by cases q <;> exact ok trivial
 unfold Zop
 exact bd wr fun v hv=>brD (fun _=>bd gr fun _ _=>br (fun _=>di trivial) fun _=>bd wr fun _ _=>ni (by omega) (by omega)) fun _=>di trivial
theorem edge_ok (l:List Int) (x:Int) (hl:l.length≤140737488355328):Ok (Zm8 l x) (fun _=>True):=by
 unfold Zm8 Zmd
 have hj:Ok ((Z8f l x).bind fun v3=>some v3) (fun _=>True):=bd (Zbn l x hl) fun _ _=>ok trivial
 exact brD (fun _=>bd wr fun v hv=>bd gr fun _ _=>br (fun _=>bd wr fun _ _=>ok trivial) fun _=>hj) fun _=>hj
theorem Y1n (l:List Z0k) (at_:List Int) (hl:l.length≤256) (ha:at_.length≤140737488355328):Ok (Zdl l at_) (fun r=>r.1.length≤256):=by
 unfold Zdl
 refine bd (P:=fun q:List Z0k⊕(List Z0k×Bool)=>match q with|.inl q=>q.length≤256|.inr y=>y.1=[]) (lp (fun t=>t.1) l.length (fun t=>(t.2.length:Int)=t.1) (fun t hI g0 g1=>?_) (by omega) rfl) fun q hq=>?_
 ·unfold Zp3
  have hd:t.2.length≤256:=by omega
  have hj:∀ (v:Z0k) (p:Int),t.1<l.length→Ok (Zdq t v p) (St (fun t=>(t.2.length:Int)=t.1) (fun t=>t.1) l.length (fun q:List Z0k⊕(List Z0k×Bool)=>match q with|.inl q=>q.length≤256|.inr y=>y.1=[]) t):=fun v p hlt=>by
   unfold Zdq
   exact bd gk fun _ _=>bd wr fun w hw=>nx (by simp only [List.length_append,List.length_cons,List.length_nil]; omega)
  exact brD (fun hlt=>bd gr fun v _=>brE (fun _=>bd (Zbn at_ _ ha) fun w _=>brD (fun _=>dn rfl) fun _=>hj _ _ hlt) fun _=>hj _ _ hlt) fun _=>dn hd
 ·cases q with
  | inl q=>exact ok hq
  | inr y=>exact ok (by rw [hq]; simp)
theorem Y5q (s:List UInt8) (k:Z47) (at_:List Int) (hk:TkOk s k) (ha:at_.length≤140737488355328):Ok (Zmn k at_) (fun r=>r.2=0→r.1.Z20.length≤65536∧r.1.Z1q.length≤65536∧r.1.Z1r.length≤65536∧∀ m∈r.1.Z1q,m.Z1o.Z0d.length≤256∧m.Z1o.Z0i.length≤256):=by
 have g1:=hk.hndL; have g2:=hk.mapL; have g3:=hk.lin; have g4:=hk.raw
 unfold Zmn
 refine bd (P:=fun q:List Z0o⊕(Z0b×Int)=>match q with|.inl q=>q.length≤65536|.inr y=>y.2≠0) (lp (fun t=>t.1) k.f_C.Z20.length (fun t=>(t.2.length:Int)=t.1) (fun t hI h0 h1=>?_) (by omega) rfl) fun q1 hq1=>?_
 ·unfold Zpr Ztg
  have hd:t.2.length≤65536:=by omega
  exact brD (fun hlt=>bd gr fun v _=>bd (Zbn at_ _ ha) fun _ _=>bd (edge_ok at_ _ ha) fun _ _=>bd (Zbn at_ _ ha) fun _ _=>brD (fun _=>dn (by simp)) fun _=>brD (fun _=>dn (by simp)) fun _=>brD (fun _=>dn (by simp)) fun _=>bd gk fun _ _=>bd wr fun w hw=>nx (by simp only [List.length_append,List.length_cons,List.length_nil]; omega)) fun _=>dn hd
 cases q1 with
 | inr y=>exact ok fun h=>absurd h hq1
 | inl q1=>
 have hq1':q1.length≤65536:=hq1
 refine bd (P:=fun q:List Z0p⊕(Z0b×Int)=>match q with|.inl q=>q.length≤65536∧∀ m∈q,m.Z1o.Z0d.length≤256∧m.Z1o.Z0i.length≤256|.inr y=>y.2≠0) (lp (fun t=>t.1) k.f_C.Z1q.length (fun t=>(t.2.length:Int)=t.1∧∀ m∈t.2,m.Z1o.Z0d.length≤256∧m.Z1o.Z0i.length≤256) (fun t hI h0 h1=>?_) (by omega) ⟨rfl,Z4t⟩) fun q2 hq2=>?_
 ·obtain ⟨hI1,hI2⟩:=hI
  unfold Zss Zot
  refine brD (fun hlt=>bd gr fun v hv=>?_) fun _=>dn ⟨by omega,hI2⟩
  obtain ⟨f1,f2⟩:=hk.map v hv
  refine bd (Zbn at_ _ ha) fun _ _=>bd (Y1n _ at_ f1.1 ha) fun a ha'=>bd (Y1n _ at_ f2.1 ha) fun b hb'=>brD (fun _=>dn (by simp)) fun _=>br! (fun _=>dn (by simp)) fun _=>br! (fun _=>dn (by simp)) fun _=>bd gr fun _ _=>brD (fun _=>dn (by simp)) fun _=>bd gk fun _ _=>bd wr fun w hw=>nx ⟨by simp only [List.length_append,List.length_cons,List.length_nil]; omega,Z9b hI2 ⟨ha',hb'⟩⟩
 cases q2 with
 | inr y=>exact ok fun h=>absurd h hq2
 | inl q2=>
 obtain ⟨e1,e2⟩:=hq2
 refine bd (P:=fun q:List Z17⊕(Z0b×Int)=>match q with|.inl q=>q.length≤65536|.inr y=>y.2≠0) (lp (fun t=>t.1) k.f_C.Z1r.length (fun t=>(t.2.length:Int)=t.1) (fun t hI h0 h1=>?_) (by omega) rfl) fun q3 hq3=>?_
 ·unfold Zt8
  have hd:t.2.length≤65536:=by omega
  exact brD (fun hlt=>bd gr fun v _=>bd (Zbn at_ _ ha) fun _ _=>brD (fun _=>dn (by simp)) fun _=>bd gk fun _ _=>bd wr fun w hw=>nx (by simp only [List.length_append,List.length_cons,List.length_nil]; omega)) fun _=>dn hd
 cases q3 with
 | inr y=>exact ok fun h=>absurd h hq3
 | inl q3=>exact ok fun _=>⟨hq1',e1,hq3,e2⟩
theorem Zzn (p:List Z00) (s:List UInt8) (hp:Z19 p) (hs:Str s):Ok (Ziq p s) (fun _=>True):=by
 unfold Ziq
 refine bd (Y7w s hs) fun v0 h0=>br (fun _=>ok trivial) fun _=>bd (dec_ok _) fun v1 h1=>brN (fun _=>ok trivial) fun h=>?_
 obtain ⟨k1,k2⟩:=h1 h
 refine bd (Zqg v1.1 (fun i hi=>(k1 i hi).w) (by omega)) fun v2 h2=>brN (fun _=>ok trivial) fun _=>bd (Y5q s v0.1 v2.1 h0 (by have:=h2.2; omega)) fun v3 h3=>brN (fun _=>ok trivial) fun h=>?_
 obtain ⟨e1,e2,e3,e4⟩:=h3 h
 exact brN (fun _=>ok trivial) fun _=>bd (Y0k p _ hp ⟨fun i hi=>(k1 i hi).w,by dsimp only; omega,by dsimp only; omega,by dsimp only; omega,by dsimp only; omega,fun m hm=>by have:=e4 m hm; dsimp only at *; omega⟩) fun v4 _=>brN (fun _=>ok trivial) fun _=>ok trivial
theorem Y5s (s:List UInt8) (hs:Str s):Ok (Zl8 s) (fun r=>r.1.length≤65536):=by
 unfold Zl8
 refine bd (Z4q s _ 2 (by omega) hs ⟨rfl,by dsimp only; omega,by dsimp only; omega⟩) fun v0 h0=>bd (P:=RdT s 65536 fun _=>True) (rdL (n:=v0.1) ⟨h0.1.1,h0.1.2.2.1 rfl⟩ h0.2 fun t hI g0 g1 hd=>?_) fun q hq=>br (fun _=>ok (by simp)) fun _=>brN (fun _=>ok (by simp)) fun _=>bd (Y3e _) fun _ _=>brN (fun _=>ok (by simp)) fun _=>ok hq.2.1
 have hl:=hI.2.1
 have:=h0.1.2.2.1 rfl
 unfold Zok
 refine brD (fun hlt=>br! (fun _=>?_) fun _=>dn hd) fun _=>dn hd
 unfold Zsr
 exact bd (Z4q s _ 2 (by omega) hs hI.1) fun v1 h1=>bd gk fun _ _=>bd wr fun _ hv=>nx ⟨h1.2,by simp only [List.length_append,List.length_cons,List.length_nil]; omega,Z9b hI.2.2 trivial⟩
end Go.Proofs
set_option linter.unusedVariables false
namespace Go.Proofs
open Go.Den Go.Tot
section
variable {p:List Z00} (hp:p.length≤1000)
include hp
theorem Ztm (a:Z1g) (s:List UInt8):Ok (Zdd p a s) (fun _=>True):=by
 unfold Zdd
 exact bd (Z58 p _ (by omega)) fun _ _=>brE (fun _=>ok trivial) fun _=>ok trivial
theorem Y1k (l:List Z0g) (i:Int) (hl:l.length≤140737488355328) (h0:0≤i) (h1:i<l.length):Ok (Zfp p l i) (fun _=>True):=by
 unfold Zfp
 refine bd (gr h0 h1) fun _ _=>bd (Z58 p _ (by omega)) fun v1 _=>bd (gr h0 h1) fun _ _=>bd (Z58 p _ (by omega)) fun v3 _=>bd (P:=fun _=>True) (li i (fun t g0 g1=>?_) (by omega) (by omega) (by omega)) fun q _=>by cases q <;> exact ok trivial
 unfold Zug
 exact brD (fun _=>bd gr fun _ _=>bd (Z58 p _ (by omega)) fun _ _=>bd gr fun _ _=>bd (Z58 p _ (by omega)) fun _ _=>br (fun _=>br (fun _=>di trivial) fun _=>bd wr fun _ _=>ni (by omega) (by omega)) fun _=>bd wr fun _ _=>ni (by omega) (by omega)) fun _=>di trivial
theorem Y5j (i:Int) (d:List UInt8):Ok (Ziw p i d) (fun _=>True):=by
 unfold Ziw
 refine bd (Zf6 p i (by omega)) fun v _=>brN (fun _=>ok trivial) fun _=>?_
 repeat' first
  | exact ok trivial
  | with_reducible refine br (fun _=>?_) fun _=>?_
theorem Y5k (m:Z0g) (d:List UInt8) (hm:∀ a∈m.Z1x,Str a.Z2y):Ok (Zn3 p m d) (fun _=>True):=by
 unfold Zn3 Zpx
 refine brE (fun _=>ok trivial) fun _=>bd gr fun a ha=>brD (fun _=>ok trivial) fun _=>bs (br (fun _=>ok trivial) fun _=>bd (Ztm hp _ _) fun _ _=>br! (fun _=>ok trivial) fun _=>brN (fun _=>ok trivial) fun _=>bd (Zg5 _ 0 2 (by omega) (hm a ha)) fun _ _=>bd (Y5j hp _ _) fun _ _=>ok trivial)
theorem Zuk (l:List Z1g) (s:List UInt8) (hl:l.length≤140737488355328) (ha:∀ a∈l,Str a.Z2y):Ok (Zfj p l s) (fun r=>Str r.1∧0≤r.2∧r.2≤l.length):=by
 unfold Zfj
 refine bd (P:=fun q:List UInt8×Int=>Str q.1∧0≤q.2∧q.2≤(l.length:Int)) (lp (fun t=>t.2.2) l.length (fun t=>Str t.1∧0≤t.2.1∧t.2.1≤t.2.2) (fun t hI h0 h1=>?_) (by omega) ⟨by simp,by dsimp only; omega,by dsimp only; omega⟩) fun q hq=>ok hq
 obtain ⟨hI1,hI2,hI3⟩:=hI
 unfold Zox
 exact brD (fun hlt=>bd gr fun a _=>bd (Ztm hp _ _) fun _ _=>br (fun _=>bd gr fun b hb=>bd wr fun _ _=>bd wr fun _ _=>nx ⟨ha b hb,by dsimp only; omega,by dsimp only; omega⟩) fun _=>bd wr fun _ _=>nx ⟨hI1,by dsimp only; omega,by dsimp only; omega⟩) fun _=>dn ⟨hI1,by dsimp only; omega,by dsimp only; omega⟩
variable (hS:PS p 1024)
include hS
theorem Zfg (i:Int):Ok (Z9m p i) (fun _=>True):=by
 unfold Z9m Zu3
 exact brD (fun _=>ok trivial) fun _=>brD (fun _=>ok trivial) fun _=>bd (Zsx p i (by omega) hS) fun v hv=>brN (fun _=>ok trivial) fun _=>brE (fun _=>ok trivial) fun _=>bd gs fun _ _=>brE (fun _=>ok trivial) fun _=>ok trivial
theorem Y37 (l:List Int) (s:List UInt8) (hl:l.length≤140737488355328):Ok (Zef p l s) (fun _=>True):=by
 unfold Zef
 refine bd (P:=fun _=>True) (li l.length (fun t h0 h1=>?_) (by omega) (by omega) (by omega)) fun q _=>by cases q <;> exact ok trivial
 unfold Zqk
 exact brD (fun _=>bd gr fun _ _=>bd (Zfg hp hS _) fun _ _=>brE (fun _=>br (fun _=>di trivial) fun _=>bd wr fun _ _=>ni (by omega) (by omega)) fun _=>bd wr fun _ _=>ni (by omega) (by omega)) fun _=>di trivial
end
theorem Y7i (x y:Int):Ok (Za9 x y) (fun _=>True):=bs (ok trivial)
theorem Zx8 (x y:Int):Ok (Zan x y) (fun _=>True):=by
 unfold Zan
 exact brD (fun _=>bs (ok trivial)) fun _=>ok trivial
theorem Y6r (x:Int):Ok (Zee x) (fun _=>True):=by
 unfold Zee Znu Zj6
 have h:∀ n:Int,Ok ((some (Z3c .i64 x (4:Int))).bind fun v3=>if (v3 !=0)=true then ((some (IntKind.wrap .i64 (n+(1:Int)))).bind fun v4=>some (decide (v4≤1))) else (some (decide (n≤1)))) (fun _=>True):=fun n=>bs (br (fun _=>bs (ok trivial)) fun _=>ok trivial)
 have h1:∀ n:Int,Ok ((some (Z3c .i64 x (2:Int))).bind fun v1=>if (v1 !=0)=true then ((some (IntKind.wrap .i64 (n+(1:Int)))).bind fun v2=>(some (Z3c .i64 x (4:Int))).bind fun v3=>if (v3 !=0)=true then ((some (IntKind.wrap .i64 (v2+(1:Int)))).bind fun v4=>some (decide (v4≤1))) else (some (decide (v2≤1)))) else ((some (Z3c .i64 x (4:Int))).bind fun v3=>if (v3 !=0)=true then ((some (IntKind.wrap .i64 (n+(1:Int)))).bind fun v4=>some (decide (v4≤1))) else (some (decide (n≤1))))) (fun _=>True):=fun n=>bs (br (fun _=>bs (h _)) fun _=>h _)
 exact bs (br (fun _=>h1 1) fun _=>h1 0)
theorem Zs0 (s:List UInt8) (x:Int):Ok (Zb2 s x) (fun _=>True):=by
 unfold Zb2 Zca Zc6
 repeat' first
  | exact ok trivial
  | with_reducible refine br (fun _=>?_) fun _=>?_
  | with_reducible refine bd (Y7i _ _) fun _ _=>?_
  | with_reducible refine bd (Zx8 _ _) fun _ _=>?_
  | with_reducible refine bd (Y6r _) fun _ _=>?_
  | with_reducible refine bs ?_
structure Z8s (f:Z1b):Prop where
 pool:Z19 f.Z2p
 ifsL:f.Z16.length≤140737488355328
 fldL:f.Z15.length≤140737488355328
 metL:f.Z13.length≤140737488355328
 attL:f.Z1x.length≤140737488355328
 att:∀ a∈f.Z1x,Str a.Z2y
 mem:∀ m,m∈f.Z15∨m∈f.Z13→m.Z1x.length≤140737488355328∧∀ a∈m.Z1x,Str a.Z2y
def FewF (f:Z1b):Prop:=f.Z16.length≤8∧f.Z15.length≤64∧f.Z13.length≤64
theorem Y9i (f:Z1b) (hf:Z8s f):Ok (Zmh f) (fun b=>b=false→FewF f):=by
 have g1:=hf.fldL; have g2:=hf.metL
 unfold Zmh Zsh
 refine brD (fun _=>ok (by simp)) fun _=>brD (fun _=>ok (by simp)) fun _=>brD (fun _=>ok (by simp)) fun _=>brD (fun _=>ok (by simp)) fun _=>?_
 have hd:FewF f:=⟨by omega,by omega,by omega⟩
 refine bd (P:=fun _=>True) (li f.Z15.length (fun t h0 h1=>?_) (by omega) (by omega) (by omega)) fun q _=>?_
 ·unfold Zti
  exact brD (fun _=>bd gr fun _ _=>brD (fun _=>di trivial) fun _=>bd wr fun _ _=>ni (by omega) (by omega)) fun _=>di trivial
 cases q with
 | inr _=>exact ok fun _=>hd
 | inl _=>
  refine bd (P:=fun _=>True) (li f.Z13.length (fun t h0 h1=>?_) (by omega) (by omega) (by omega)) fun q _=>by cases q <;> exact ok fun _=>hd
  unfold Zpt
  exact brD (fun _=>bd gr fun _ _=>brD (fun _=>di trivial) fun _=>bd wr fun _ _=>ni (by omega) (by omega)) fun _=>di trivial
theorem Y95 (f:Z1b) (hf:Z8s f) (hS:PS f.Z2p 1024):Ok (Zmm f) (fun e=>e=0→FewF f):=by
 have hp:=hf.pool.len
 have hi:=hf.ifsL
 have h3:∀ a (v:List UInt8×Int),Ok (Zdu a v f) (fun e=>e=0→FewF f):=fun a v=>by
  unfold Zdu
  exact bd (Y9i f hf) fun b hb=>br (fun _=>ok (by simp)) fun h=>br (fun _=>ok (by simp)) fun _=>bd (Y37 hp hS _ _ hi) fun _ _=>br (fun _=>ok (by simp)) fun _=>ok fun _=>hb h
 have h2:∀ (v:List UInt8×Int) a,Ok (Zev v f a) (fun e=>e=0→FewF f):=fun v a=>by
  unfold Zev
  exact bd (Zs0 _ _) fun _ _=>br! (fun _=>ok (by simp)) fun _=>br (fun _=>ok (by simp)) fun _=>bs (br (fun _=>br (fun _=>ok (by simp)) fun _=>h3 _ _) fun _=>h3 _ _)
 have h1:Ok (Zgs f) (fun e=>e=0→FewF f):=by
  unfold Zgs
  exact bd (Zfg hp hS _) fun v _=>brN (fun h=>ok fun h'=>absurd h' h) fun _=>brN (fun _=>bd (Zfg hp hS _) fun w _=>brN (fun h=>ok fun h'=>absurd h' h) fun _=>h2 _ _) fun _=>h2 _ _
 have hpl:∀ i,Ok (Zfq f.Z2p i) (fun _=>True):=fun i=>by
  unfold Zfq
  exact brD (fun _=>ok trivial) fun _=>ok trivial
 unfold Zmm
 exact bd (hpl _) fun _ _=>br! (fun _=>ok (by simp)) fun _=>brN (fun _=>bd (hpl _) fun _ _=>br! (fun _=>ok (by simp)) fun _=>h1) fun _=>h1
theorem Y9c (f:Z1b) (hf:Z8s f) (hS:PS f.Z2p 1024) (i:Int) (h0:0≤i) (h1:i<f.Z16.length):Ok (Zju f i) (fun _=>True):=by
 have:=hf.ifsL
 unfold Zju
 exact bd (gr h0 h1) fun _ _=>bd (Zfg hf.pool.len hS _) fun _ _=>brN (fun _=>ok trivial) fun _=>bd (sb (by omega) (by omega) (by omega)) fun r hr=>bd (Y37 hf.pool.len hS r _ (by have:=hr.1; omega)) fun _ _=>br (fun _=>ok trivial) fun _=>ok trivial
theorem Y85 (f:Z1b) (hf:Z8s f) (hS:PS f.Z2p 1024) (i:Int) (h0:0≤i) (h1:i<f.Z15.length):Ok (Zl4 f i) (fun _=>True):=by
 have hp:=hf.pool.len
 have hl:f.Z2p.length≤140737488355328:=by omega
 unfold Zl4
 refine bd (gr h0 h1) fun m hm=>bd (Z58 _ _ hl) fun v1 e1=>brN (fun _=>ok trivial) fun _=>bd (Zuf _ (by have:=Zcn hS e1; unfold Str; omega)) fun b hb=>br! (fun _=>ok trivial) fun h=>?_
 have hpos:=hb h
 refine bd gs fun _ _=>br (fun _=>ok trivial) fun _=>?_
 have h3:∀ v4 w,Ok (Zer m v4 f i w) (fun _=>True):=fun v4 w=>by
  unfold Zer
  exact bd (Zs0 _ _) fun _ _=>br! (fun _=>ok trivial) fun _=>bd (Y1k hp _ i hf.fldL h0 h1) fun _ _=>br (fun _=>ok trivial) fun _=>bd (Y5k hp m _ (hf.mem m (.inl hm)).2) fun _ _=>br! (fun _=>ok trivial) fun _=>ok trivial
 unfold Zpn Zrv
 exact bd (Z58 _ _ hl) fun v4 e4=>brN (fun _=>ok trivial) fun _=>bd (Zes _ (by have:=Zcn hS e4; unfold Str; omega)) fun _ _=>brN (fun _=>ok trivial) fun _=>br (fun _=>ok trivial) fun _=>bs (br (fun _=>h3 _ _) fun _=>h3 _ _)
theorem Ya2 (f:Z1b) (hf:Z8s f) (hS:PS f.Z2p 1024) (m:Z0g):Ok (Zi7 f m) (fun r=>r.2.1.Z6d.length≤1048576):=by
 have hl:f.Z2p.length≤140737488355328:=by have:=hf.pool.len; omega
 have h1:∀ v0,Ok (Zed v0 f m) (fun r=>r.2.1.Z6d.length≤1048576):=fun v0=>by
  unfold Zed
  refine bd (Z58 _ _ hl) fun v3 e3=>brN (fun _=>ok (by simp)) fun _=>bd (Zp9 _ (by have:=Zcn hS e3; omega)) fun v4 e4=>brN (fun _=>ok (by simp)) fun _=>?_
  repeat' first
   | exact ok e4
   | exact ok (by simp)
   | with_reducible refine br (fun _=>?_) fun _=>?_
 unfold Zi7
 exact bd (Z58 _ _ hl) fun v0 e0=>brN (fun _=>ok (by simp)) fun _=>bd (Zuf _ (by have:=Zcn hS e0; unfold Str; omega)) fun _ _=>br! (fun _=>ok (by simp)) fun _=>br (fun _=>bs (br (fun _=>ok (by simp)) fun _=>h1 _)) fun _=>h1 _
theorem Ya3 (f:Z1b) (m:Z0g) (s:List UInt8):Ok (Zhw f m s) (fun _=>True):=by
 unfold Zhw Zn0
 repeat' first
  | exact ok trivial
  | with_reducible refine br (fun _=>?_) fun _=>?_
  | with_reducible refine bd (Zs0 _ _) fun _ _=>?_
  | with_reducible refine bd (Zx8 _ _) fun _ _=>?_
  | with_reducible refine bs ?_
theorem Y7s (f:Z1b) (hf:Z8s f) (hS:PS f.Z2p 1024) (m:Z0g) (hm:m.Z1x.length≤140737488355328∧∀ a∈m.Z1x,Str a.Z2y) (g:Z28) (hg:g.Z6d.length≤1048576):Ok (Zkb f.Z2p m g) (fun _=>True):=by
 have hp:=hf.pool.len
 unfold Zkb
 refine bd (Zuk hp _ _ hm.1 hm.2) fun v0 e0=>bd (Zuk hp _ _ hm.1 hm.2) fun v1 e1=>bs (brD (fun _=>ok trivial) fun _=>brD (fun _=>ok trivial) fun _=>bd wr fun _ _=>brN (fun _=>ok trivial) fun _=>br (fun _=>ok trivial) fun _=>?_)
 have h4:∀ a b,Ok (Zgx a b) (fun _=>True):=fun a b=>by
  unfold Zgx
  exact brD (fun _=>ok trivial) fun _=>ok trivial
 have h3:∀ a b,Ok (Zgy a v1 f.Z2p b) (fun _=>True):=fun a b=>by
  unfold Zgy
  refine brD (fun _=>bd (Y5s _ e1.1) fun v7 e7=>brN (fun _=>ok trivial) fun _=>bd (P:=fun _=>True) (li v7.1.length (fun t h0 h1=>?_) (by omega) (by omega) (by omega)) fun q _=>?_) fun _=>h4 _ _
  ·unfold Zpo
   exact brD (fun _=>bd gr fun _ _=>bd (Zfg hp hS _) fun _ _=>brN (fun _=>di trivial) fun _=>bd wr fun _ _=>ni (by omega) (by omega)) fun _=>di trivial
  ·cases q with
   | inl _=>exact h4 _ _
   | inr _=>exact ok trivial
 unfold Ztw Zje
 exact bs (br (fun _=>bd wr fun _ _=>br (fun _=>bd (Zzn _ _ hf.pool e0.1) fun _ _=>brN (fun _=>ok trivial) fun _=>h3 _ _) fun _=>h3 _ _) fun _=>br (fun _=>bd (Zzn _ _ hf.pool e0.1) fun _ _=>brN (fun _=>ok trivial) fun _=>h3 _ _) fun _=>h3 _ _)
theorem Yaa (f:Z1b) (hf:Z8s f) (hS:PS f.Z2p 1024) (i:Int) (h0:0≤i) (h1:i<f.Z13.length):Ok (Zld f i) (fun _=>True):=by
 unfold Zld
 exact bd (gr h0 h1) fun m hm=>bd (Ya2 f hf hS m) fun v1 e1=>brN (fun _=>ok trivial) fun _=>bd (Ya3 _ _ _) fun _ _=>br! (fun _=>ok trivial) fun _=>bd (Y1k hf.pool.len _ i hf.metL h0 h1) fun _ _=>br (fun _=>ok trivial) fun _=>bd (Y7s f hf hS m (hf.mem m (.inr hm)) _ e1) fun _ _=>ok trivial
theorem Y9t (f:Z1b) (hf:Z8s f) (hS:PS f.Z2p 1024):Ok (Zmw f) (fun _=>True):=by
 unfold Zmw Ztj
 exact brE (fun _=>ok trivial) fun _=>bd gr fun a ha=>brD (fun _=>ok trivial) fun _=>bd (Ztm hf.pool.len _ _) fun _ _=>br! (fun _=>ok trivial) fun _=>brN (fun _=>ok trivial) fun _=>bd (Zg5 _ 0 2 (by omega) (hf.att a ha)) fun _ _=>bd (Z58 _ _ (by have:=hf.pool.len; omega)) fun _ _=>ok trivial
theorem Zsu (s:List UInt8) (n:Int) (hs:s.length≤1000) (h0:0≤n) (h1:n<100):Ok (Zdg s n) (fun _=>True):=by
 unfold Zdg
 have h10:∀ a:Int,0≤a→a<10→Ok (sub ([48,49,50,51,52,53,54,55,56,57]:List UInt8) a (a+1)) (fun r=>r.length≤1):=fun a ha hb=>(sb ha (by omega) (by simp; omega)).mono fun r hr=>by have:=hr.1; omega
 refine brD (fun _=>bd (ct (by simp; omega)) fun v0 e0=>bd wr fun v1 e1=>?_) fun _=>bd (ct (by simp; omega)) fun v4 e4=>?_
 ·rw [e1]
  exact bd (h10 n h0 (by omega)) fun v2 e2=>bd (ct (by have:=e0.2; simp at this; omega)) fun _ _=>ok trivial
 ·have hd:divK .i64 n 10=some (n / 10):=by
   unfold divK
   rw [if_pos (by decide)]
   congr 1
   rw [Int.tdiv_eq_ediv_of_nonneg h0]
   exact Zax (by omega) (by omega)
  have hm:modK n 10=some (n % 10):=by
   unfold modK
   rw [if_pos (by decide)]
   congr 1
   exact Int.tmod_eq_emod_of_nonneg h0
  rw [hd,hm]
  refine bs (bs (bd wr fun v7 e7=>?_))
  rw [e7]
  refine bd (h10 _ (by omega) (by omega)) fun v8 e8=>bd (ct (by have:=e4.2; simp at this; omega)) fun v9 e9=>bs (bs (bd wr fun v12 e12=>?_))
  rw [e12]
  exact bd (h10 _ (by omega) (by omega)) fun v13 e13=>bd (ct (by have:=e4.2; have:=e9.2; simp at *; omega)) fun _ _=>ok trivial
theorem Y8g (f:Z1b) (hf:Z8s f):Ok (Zj0 f) (fun r=>r.2=0→FewF f):=by
 unfold Zj0
 refine bd (Zuq _ hf.pool) fun v0 h0=>brN (fun h=>ok fun h'=>absurd h' h) fun h=>?_
 have hS:=h0 h
 refine bd (Y95 f hf hS) fun v1 h1=>brN (fun h=>ok fun h'=>absurd h' h) fun h=>?_
 have hF:=h1 h
 have k1:=hF.1; have k2:=hF.2.1; have k3:=hF.2.2
 refine bd (P:=fun _=>True) (li f.Z16.length (fun t h0 h1=>?_) (by omega) (by omega) (by omega)) fun q _=>?_
 ·unfold Zuh
  exact brD (fun hlt=>bd (Y9c f hf hS t h0 hlt) fun _ _=>brN (fun _=>bd (Zsu _ t (by simp) h0 (by omega)) fun _ _=>di trivial) fun _=>bd wr fun _ _=>ni (by omega) (by omega)) fun _=>di trivial
 cases q with
 | inr _=>exact ok fun _=>hF
 | inl _=>
 refine bd (P:=fun _=>True) (li f.Z15.length (fun t h0 h1=>?_) (by omega) (by omega) (by omega)) fun q _=>?_
 ·unfold Ztx
  exact brD (fun hlt=>bd (Y85 f hf hS t h0 hlt) fun _ _=>brN (fun _=>bd (Zsu _ t (by simp) h0 (by omega)) fun _ _=>di trivial) fun _=>bd wr fun _ _=>ni (by omega) (by omega)) fun _=>di trivial
 cases q with
 | inr _=>exact ok fun _=>hF
 | inl _=>
 refine bd (P:=fun _=>True) (li f.Z13.length (fun t h0 h1=>?_) (by omega) (by omega) (by omega)) fun q _=>?_
 ·unfold Zty
  exact brD (fun hlt=>bd (Yaa f hf hS t h0 hlt) fun _ _=>brN (fun _=>bd (Zsu _ t (by simp) h0 (by omega)) fun _ _=>di trivial) fun _=>bd wr fun _ _=>ni (by omega) (by omega)) fun _=>di trivial
 cases q with
 | inr _=>exact ok fun _=>hF
 | inl _=>exact bd (Y9t f hf hS) fun _ _=>br! (fun _=>ok fun _=>hF) fun _=>ok fun _=>hF
end Go.Proofs
set_option linter.unusedVariables false
namespace Go.Proofs
open Go.Den Go.Tot
def FewM (u:Z0y):Prop:=u.Z16.length≤8∧u.Z15.length≤64∧u.Z13.length≤64
theorem Y53 (u:Z0y) (hu:Z5r u):Ok (Zoc u) (fun r=>r.2=0→FewM u):=by
 have gm:=hu.metL
 unfold Zoc
 refine bd (Y6b u hu) fun _ _=>br! (fun _=>ok (by simp)) fun _=>bd (Y5l _ u Z19.nil hu) fun v1 h1=>brN (fun h=>ok fun h'=>absurd h' h) fun _=>?_
 have hm:=h1.fam.m; have hc:=h1.fam.c; have ht:=h1.fam.t; have hs:=h1.fam.s
 refine bd (P:=fun q:List (List UInt8)⊕(Z1b×Int)=>match q with|.inl q=>(q.length:Int)=u.Z13.length∧∀ s∈q,Str s|.inr y=>y.2≠0) (lp (fun t=>t.1) u.Z13.length (fun t=>(t.2.length:Int)=t.1∧∀ s∈t.2,Str s) (fun t hI h0 h1'=>?_) (by omega) ⟨rfl,Z4t⟩) fun q1 hq1=>?_
 ·obtain ⟨hI1,hI2⟩:=hI
  unfold Zsn
  have hj:t.1<u.Z13.length→∀ s e,Str s→Ok (Ze4 t s e) (St (fun t=>(t.2.length:Int)=t.1∧∀ s∈t.2,Str s) (fun t=>t.1) u.Z13.length (fun q:List (List UInt8)⊕(Z1b×Int)=>match q with|.inl q=>(q.length:Int)=u.Z13.length∧∀ s∈q,Str s|.inr y=>y.2≠0) t):=fun hlt s e hs'=>by
   unfold Ze4
   exact brN (fun h=>dn h) fun _=>bd gk fun _ _=>bd wr fun _ hv=>nx ⟨by simp only [List.length_append,List.length_cons,List.length_nil]; omega,Z77 hI2 hs'⟩
  exact brD (fun hlt=>bd gr fun _ _=>br (fun _=>bd gr fun c hcm=>bd (Y6h _ c h1.pool (h1.fam.code c hcm)) fun v8 h8=>hj (by omega) _ _ h8) fun _=>hj (by omega) _ _ (by simp)) fun hge=>dn ⟨by omega,hI2⟩
 cases q1 with
 | inr y=>exact ok fun h=>absurd h hq1
 | inl q0=>
 obtain ⟨k1,k2⟩:=hq1
 refine bd (P:=fun q:List Z0g⊕(Z1b×Int)=>match q with|.inl q=>(q.length:Int)=u.Z13.length∧∀ m∈q,m.Z1x.length≤2∧∀ a∈m.Z1x,Str a.Z2y|.inr y=>y.2≠0) (lp (fun t=>t.1) u.Z13.length (fun t=>(t.2.length:Int)=t.1∧∀ m∈t.2,m.Z1x.length≤2∧∀ a∈m.Z1x,Str a.Z2y) (fun t hI h0 h1'=>?_) (by omega) ⟨rfl,Z4t⟩) fun q3 hq3=>?_
 ·obtain ⟨hI1,hI2⟩:=hI
  have h3:t.1<u.Z13.length→∀ p:List Z1g,(p.length≤2∧∀ a∈p,Str a.Z2y)→Ok (Zdp t v1 p) (St (fun t=>(t.2.length:Int)=t.1∧∀ m∈t.2,m.Z1x.length≤2∧∀ a∈m.Z1x,Str a.Z2y) (fun t=>t.1) u.Z13.length (fun q:List Z0g⊕(Z1b×Int)=>match q with|.inl q=>(q.length:Int)=u.Z13.length∧∀ m∈q,m.Z1x.length≤2∧∀ a∈m.Z1x,Str a.Z2y|.inr y=>y.2≠0) t):=fun hlt p hp=>by
   unfold Zdp
   exact bd gr fun _ _=>bd gk fun _ _=>bd wr fun _ hv=>nx ⟨by simp only [List.length_append,List.length_cons,List.length_nil]; omega,Z77 hI2 hp⟩
  have h2:t.1<u.Z13.length→∀ p:List Z1g,(p.length≤1∧∀ a∈p,Str a.Z2y)→Ok (Zfe t v1 p) (St (fun t=>(t.2.length:Int)=t.1∧∀ m∈t.2,m.Z1x.length≤2∧∀ a∈m.Z1x,Str a.Z2y) (fun t=>t.1) u.Z13.length (fun q:List Z0g⊕(Z1b×Int)=>match q with|.inl q=>(q.length:Int)=u.Z13.length∧∀ m∈q,m.Z1x.length≤2∧∀ a∈m.Z1x,Str a.Z2y|.inr y=>y.2≠0) t):=fun hlt p hp=>by
   unfold Zfe
   exact bd gr fun _ _=>brN (fun _=>bd gr fun _ _=>bd (Y3e _) fun v30 h30=>brN (fun h=>dn h) fun _=>bd gr fun _ _=>bd gk fun _ _=>h3 hlt _ ⟨by simp only [List.length_append,List.length_cons,List.length_nil]; omega,Z77 hp.2 h30⟩) fun _=>h3 hlt p ⟨by omega,hp.2⟩
  unfold Zol
  exact brD (fun hlt=>bd gr fun _ _=>br (fun _=>bd gr fun _ _=>bd ik fun j hj=>bd (la (by omega)) fun b hb=>bd (gk (by simp) (by simp)) fun _ _=>h2 (by omega) _ ⟨by simp,Z77 Z4t (k2 b hb.2)⟩) fun _=>h2 (by omega) _ ⟨by simp,Z4t⟩) fun hge=>dn ⟨by omega,hI2⟩
 cases q3 with
 | inr y=>exact ok fun h=>absurd h hq3
 | inl q2=>
 obtain ⟨e1,e2⟩:=hq3
 refine bd (Y8g _ ⟨h1.pool,by have:=h1.ifsL; have:=hu.ifsL; dsimp only; omega,by have:=h1.fldL; have:=hu.fldL; dsimp only; omega,by dsimp only; omega,by have:=h1.attL; dsimp only; omega,h1.att,fun m hm=>?_⟩) fun w hw=>brN (fun h=>ok fun h'=>absurd h' h) fun h=>ok fun _=>?_
 rotate_left
 ·have hF:v1.2.f_F.Z16.length≤8∧v1.2.f_F.Z15.length≤64∧q2.length≤64:=hw h
  have:=h1.ifsL; have:=h1.fldL; exact ⟨by omega,by omega,by omega⟩
 rcases hm with hm|hm
 ·have:=h1.fld m hm; exact ⟨by omega,this.2⟩
 ·have:=e2 m hm; exact ⟨by omega,this.2⟩
theorem Y6a (u:Z0y) (hu:Z5r u):Ok (Zrx u) (fun e=>e=0→FewM u):=bd (Y53 u hu) fun _ h=>ok h
theorem Zsb (w:Z0v) (n i:Int) (s:List UInt8) (b:Bool) (hi:i≤w.Z1a.length):Ok (Zcm w n i s b) (fun r=>r=true→0≤n∧n<i):=by
 unfold Zcm
 exact brD (fun _=>brD (fun _=>bd gr fun _ _=>br (fun _=>bd gr fun _ _=>bs (ok fun _=>⟨by omega,by omega⟩)) fun _=>ok (by simp)) fun _=>ok (by simp)) fun _=>ok (by simp)
theorem Y4o (w:Z0v) (l:Int) (s:List UInt8) (hw:Z5f w):Ok (Zgj w l s) (fun _=>True):=by
 have:=hw.iniL
 unfold Zgj
 refine bd (P:=fun _=>True) (li w.Z2e.length (fun t h0 h1=>?_) (by omega) (by omega) (by omega)) fun q _=>by cases q <;> exact ok trivial
 unfold l92x1
 exact brD (fun _=>bd gr fun _ _=>br (fun _=>bd gr fun _ _=>br (fun _=>bd gr fun _ _=>di trivial) fun _=>bd wr fun _ _=>ni (by omega) (by omega)) fun _=>bd wr fun _ _=>ni (by omega) (by omega)) fun _=>di trivial
structure Zay (w:Z0v) (i:Int) (c:Z1s):Prop where
 sup:c.Z21= -1∨(0≤c.Z21∧c.Z21<i)
 ifs:∀ n∈c.Z16,0≤n∧n<i
 ifsL:c.Z16.length≤8
 few:FewM c.Z25
 lod:0≤c.Z37∧c.Z37<w.Z24.length
 lang:c.Z37≠0→Zag c.Z25.Z0f [108,97,110,103,47]=some false
theorem Y8c (w:Z0v) (hw:Z5f w) (i:Int) (h0:0≤i) (h1:i<w.Z1a.length) (c:Z1s) (hg:Z01 w.Z1a i=some c) (hm:c∈w.Z1a):Ok (Znx w i) (fun b=>b=true→Zay w i c):=by
 have hcl:=hw.clsL
 obtain ⟨hmod,hifs⟩:=hw.cls c hm
 have hmi:=hmod.ifsL
 have z:Ok (some false) (fun b=>b=true→Zay w i c):=ok (by simp)
 unfold Znx
 rw [hg]
 refine bs (brD (fun _=>z) fun k0=>brD (fun _=>z) fun k1=>bd (Y6a _ hmod) fun _ hck=>brN (fun _=>z) fun hck0=>brN (fun _=>z) fun hlen=>?_)
 have h2:(c.Z21= -1∨(0≤c.Z21∧c.Z21<i))→(c.Z37≠0→Zag c.Z25.Z0f [108,97,110,103,47]=some false)→Ok (Zbo c w i) (fun b=>b=true→Zay w i c):=fun hs hl=>by
  unfold Zbo
  refine bd (P:=fun q:Unit⊕Bool=>match q with|.inl _=>∀ n∈c.Z16,0≤n∧n<i|.inr b=>b=false) (Z75 (P:=fun n=>0≤n∧n<i) hifs (fun t g0 g1 v hv hvm hvg=>?_) fun t g0 g1 ha=>?_) fun q hq=>?_
  ·unfold Zmy
   rw [hvg]
   exact brD (fun _=>bs (bd gr fun _ _=>bd (Zsb w v i _ _ (by omega)) fun b hb=>br! (fun _=>ok rfl) fun h=>bd wr fun _ hw'=>ok ⟨hw',hb h⟩)) fun h=>absurd g1 h
  ·unfold Zmy
   exact brD (fun h=>absurd h (by omega)) fun _=>ok ha
  cases q with
  | inr b=>exact ok fun h=>by cases hq.symm.trans h
  | inl _=>
   have hd:Zay w i c:=⟨hs,hq,by have:=(hck hck0).1; omega,hck hck0,⟨by omega,by omega⟩,hl⟩
   refine bd (P:=fun _=>True) (li i (fun t g0 g1=>?_) (by omega) (by omega) (by omega)) fun q _=>?_
   ·unfold l61x2
    exact brD (fun _=>bd gr fun _ _=>br (fun _=>bd gr fun _ _=>br (fun _=>di trivial) fun _=>bd wr fun _ _=>ni (by omega) (by omega)) fun _=>bd wr fun _ _=>ni (by omega) (by omega)) fun _=>di trivial
   cases q with
   | inr _=>exact ok fun _=>hd
   | inl _=>exact bd (Y4o w _ _ hw) fun _ _=>br (fun _=>br (fun _=>brD (fun _=>brD (fun _=>ok fun _=>hd) fun _=>ok fun _=>hd) fun _=>ok fun _=>hd) fun _=>ok fun _=>hd) fun _=>ok fun _=>hd
 have h3:(c.Z37≠0→Zag c.Z25.Z0f [108,97,110,103,47]=some false)→Ok (Zdr c w i) (fun b=>b=true→Zay w i c):=fun hl=>by
  unfold Zdr
  exact brE (fun he=>br! (fun _=>bd (Zsb w _ i _ _ (by omega)) fun b hb=>br! (fun _=>z) fun h=>h2 (.inr (hb h)) hl) fun _=>h2 (.inl he) hl) fun _=>br! (fun _=>bd (Zsb w _ i _ _ (by omega)) fun b hb=>br! (fun _=>z) fun h=>h2 (.inr (hb h)) hl) fun _=>z
 exact brN (fun _=>bdE (Zx2 _ _) fun b hb _=>br (fun _=>z) fun h=>h3 fun _=>by rw [hb,h]) fun h=>h3 fun h'=>absurd h h'
structure Z7w (w:Z0v):Prop where
 cls:∀ (i:Nat) c,w.Z1a[i]?=some c→Zay w i c
 few:w.Z1a.length≤200
theorem Y92 (w:Z0v) (hw:Z5f w):Ok (Zea w) (fun b=>b=true→Z7w w):=by
 have hcl:=hw.clsL; have hil:=hw.iniL; have hcon:=hw.conL
 unfold Zea
 refine bd (Y7n _ hw.lod hw.lodL) fun v0 h0=>brN (fun _=>ok (by simp)) fun h=>brD (fun _=>ok (by simp)) fun hc2=>brD (fun _=>ok (by simp)) fun _=>?_
 have hl8:=h0 h
 unfold j29x1
 refine bd (P:=fun q:Unit⊕Bool=>match q with|.inl _=>∀ b∈w.Z31,Z90 w b|.inr b=>b=false) (Z75 (P:=Z90 w) hcon (fun t g0 g1 v hv hvm hvg=>?_) fun t g0 g1 ha=>?_) fun q hq=>?_
 ·unfold Zjj
  rw [hvg]
  exact brD (fun _=>bs (brD (fun _=>ok rfl) fun _=>brD (fun _=>ok rfl) fun _=>brD (fun _=>ok rfl) fun _=>brD (fun _=>ok rfl) fun _=>bd (Zla _ (hw.con v hvm)) fun _ _=>br! (fun _=>ok rfl) fun _=>bd wr fun _ hw'=>ok ⟨hw',by omega,by omega,by omega,by omega⟩)) fun h=>absurd g1 h
 ·unfold Zjj
  exact brD (fun h=>absurd h (by omega)) fun _=>ok ha
 cases q with
 | inr b=>exact ok fun h=>by cases hq.symm.trans h
 | inl _=>
 have hcons:∀ b∈w.Z31,Z90 w b:=hq
 refine bd (P:=fun q:Unit⊕Bool=>match q with|.inl _=>True|.inr b=>b=false) (lp (fun t=>t) w.Z2e.length (fun t=>∀ (j:Nat) v,(j:Int)<t→w.Z2e[j]?=some v→Z8k w v) (fun t hI g0 g1=>?_) (by omega) (fun j v h=>by omega) (by omega) (by omega)) fun q hq=>?_
 ·unfold l29x2
  refine brD (fun hlt=>bd (Y91 w t hw g0 hlt) fun b hb=>br! (fun _=>dn rfl) fun h=>?_) fun _=>dn trivial
  have hall:∀ (j:Nat) v,(j:Int)≤t→w.Z2e[j]?=some v→Z8k w v:=fun j v hj hv=>by
   rcases Int.lt_or_le (j:Int) t with h'|h'
   ·exact hI j v h' hv
   ·have:j=t.toNat:=by omega
    subst this
    exact hb h v hv
  exact bd (Y51 w t hw hl8 hcons g0 hlt hall) fun _ _=>br! (fun _=>dn rfl) fun _=>bd wr fun k hk=>nx (fun j v hj hv=>hall j v (by omega) hv) (by omega) (by omega)
 cases q with
 | inr b=>exact ok fun h=>by cases hq.symm.trans h
 | inl _=>
 refine bd (P:=fun q:Unit⊕Bool=>match q with|.inl _=>Z7w w|.inr b=>b=false) (lp (fun t=>t) w.Z1a.length (fun t=>∀ (j:Nat) c,(j:Int)<t→w.Z1a[j]?=some c→Zay w j c) (fun t hI g0 g1=>?_) (by omega) (fun j v h=>by omega) (by omega) (by omega)) fun q hq=>?_
 ·unfold l29x3
  refine brD (fun hlt=>?_) fun hge=>dn ⟨fun j c hc=>hI j c (by have:=(List.getElem?_eq_some_iff.1 hc).1; omega) hc,by omega⟩
  obtain ⟨c,hg,hm,hi⟩:=gri (l:=w.Z1a) g0 hlt
  refine bd (Y8c w hw t g0 hlt c hg hm) fun b hb=>br! (fun _=>dn rfl) fun h=>bd wr fun k hk=>nx (fun j d hj hd=>?_) (by omega) (by omega)
  rcases Int.lt_or_le (j:Int) t with h'|h'
  ·exact hI j d h' hd
  ·have:j=t.toNat:=by omega
   subst this
   rw [hi] at hd; cases hd
   have:=hb h
   rwa [show ((t.toNat:Nat):Int)=t by omega]
 cases q with
 | inr b=>exact ok fun h=>by cases hq.symm.trans h
 | inl _=>exact ok fun _=>hq
end Go.Proofs
