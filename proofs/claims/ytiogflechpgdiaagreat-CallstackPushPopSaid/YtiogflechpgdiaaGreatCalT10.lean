/-
  That a model comes to an answer: steps in Option that do not fail.
-/
import Derived.Test.YtiogflechpgdiaaGreatDenMod
import Derived.Test.YtiogflechpgdiaaGreatCal8
namespace Go.Tot
open Go.Den Go.RowKit
def Ok {α:Type} (o:Option α) (P:α→Prop):Prop:=∃ r,o=some r∧P r
section
variable {α β:Type} {P P':α→Prop} {Q:β→Prop}
theorem ok {x:α} (h:P x):Ok (some x) P:=⟨x,rfl,h⟩
theorem ok' {o:Option α} {x:α} (e:o=some x) (h:P x):Ok o P:=⟨x,e,h⟩
theorem Ok.mono {o:Option α} (h:Ok o P) (k:∀ x,P x→P' x):Ok o P':=by
 obtain ⟨r,e,p⟩:=h
 exact ⟨r,e,k r p⟩
theorem bd {o:Option α} {f:α→Option β} (h:Ok o P) (k:∀ x,P x→Ok (f x) Q):Ok (o.bind f) Q:=by
 obtain ⟨r,e,p⟩:=h
 obtain ⟨r',e',p'⟩:=k r p
 exact ⟨r',by rw [e]; exact e',p'⟩
theorem bs {x:α} {f:α→Option β} (k:Ok (f x) Q):Ok ((some x).bind f) Q:=k
theorem bdE {o:Option α} {f:α→Option β} (h:Ok o P) (k:∀ x,o=some x→P x→Ok (f x) Q):Ok (o.bind f) Q:=by
 obtain ⟨r,e,p⟩:=h
 obtain ⟨r',e',p'⟩:=k r e p
 exact ⟨r',by rw [e]; exact e',p'⟩
theorem br {b:Bool} {x y:Option α} (T:b=true→Ok x P) (F:b=false→Ok y P):Ok (if b=true then x else y) P:=by
 cases b with
 | true=>exact T rfl
 | false=>exact F rfl
theorem brD {p:Prop} [Decidable p] {x y:Option α} (T:p→Ok x P) (F: ¬p→Ok y P):Ok (if decide p=true then x else y) P:=by
 by_cases h:p
 ·rw [if_pos (decide_eq_true h)]; exact T h
 ·rw [if_neg (by simpa using h)]; exact F h
theorem brE {n m:Int} {x y:Option α} (T:n=m→Ok x P) (F:n≠m→Ok y P):Ok (if (n==m)=true then x else y) P:=by
 by_cases h:n=m
 ·rw [if_pos (by simpa using h)]; exact T h
 ·rw [if_neg (by simpa using h)]; exact F h
theorem brN {n m:Int} {x y:Option α} (T:n≠m→Ok x P) (F:n=m→Ok y P):Ok (if (n !=m)=true then x else y) P:=by
 by_cases h:n=m
 ·rw [if_neg (by simp [h])]; exact F h
 ·rw [if_pos (by simpa using h)]; exact T h
theorem br! {b:Bool} {x y:Option α} (T:b=false→Ok x P) (F:b=true→Ok y P):Ok (if (!b)=true then x else y) P:=by
 cases b with
 | true=>exact F rfl
 | false=>exact T rfl
end
section
variable {T R:Type} {f:T→Option (Ctl T R)} {Q:R→Prop}
def St (I:T→Prop) (ix:T→Int) (n:Int) (Q:R→Prop) (t:T):Ctl T R→Prop
 | .next t'=>I t'∧ix t<ix t'∧ix t'≤n
 | .done r=>Q r
variable {I:T→Prop} {ix:T→Int} {n:Int} {t:T}
theorem nx {t':T} (h:I t') (h1:ix t<ix t':=by first|omega|(dsimp only; omega)) (h2:ix t'≤n:=by first|omega|(dsimp only; omega)):Ok (some (Ctl.next t':Ctl T R)) (St I ix n Q t):=⟨_,rfl,h,h1,h2⟩
theorem dn {r:R} (h:Q r):Ok (some (Ctl.done r:Ctl T R)) (St I ix n Q t):=⟨_,rfl,h⟩
theorem lp (ix:T→Int) (n:Int) (I:T→Prop) (h:∀ t,I t→0≤ix t→ix t≤n→Ok (f t) (St I ix n Q t)) {t0:T} (hn:n≤9223372036854775807) (h0:I t0) (h1:0≤ix t0:=by first|omega|(dsimp only; omega)) (h2:ix t0≤n:=by first|omega|(dsimp only; omega)):Ok (Z04 f Z05 t0) Q:=by
 refine Zap (fun t=>I t∧0≤ix t∧ix t≤n) (fun t=>(n - ix t).toNat) Q (fun t ht=>?_) Z05 t0 ⟨h0,h1,h2⟩ (by unfold Z05; omega)
 obtain ⟨x,e,p⟩:=h t ht.1 ht.2.1 ht.2.2
 refine ⟨x,e,?_⟩
 cases x with
 | next t'=>exact ⟨⟨p.1,by have:=p.2.1; omega,p.2.2⟩,by have:=p.2.1; have:=p.2.2; omega⟩
 | done r=>exact p
end
section
variable {R:Type} {f:Int→Option (Ctl Int R)} {Q:R→Prop}
def Si (n:Int) (Q:R→Prop) (t:Int):Ctl Int R→Prop
 | .next t'=>t<t'∧t'≤n
 | .done r=>Q r
variable {n t:Int}
theorem ni {t':Int} (h1:t<t':=by omega) (h2:t'≤n:=by omega):Ok (some (Ctl.next t':Ctl Int R)) (Si n Q t):=⟨_,rfl,h1,h2⟩
theorem di {r:R} (h:Q r):Ok (some (Ctl.done r:Ctl Int R)) (Si n Q t):=⟨_,rfl,h⟩
theorem li (n:Int) (h:∀ t,0≤t→t≤n→Ok (f t) (Si n Q t)) {t0:Int} (hn:n≤9223372036854775807:=by omega) (h1:0≤t0:=by omega) (h2:t0≤n:=by omega):Ok (Z04 f Z05 t0) Q:=
 lp (fun t=>t) n (fun _=>True) (fun t _ a b=>(h t a b).mono fun x hx=>by
  cases x with
  | next t'=>exact ⟨trivial,hx.1,hx.2⟩
  | done r=>exact hx) hn trivial h1 h2
end
section
variable {α:Type}
theorem Z46 {n:Int} (h0: -9223372036854775808≤n) (h1:n≤9223372036854775807):IntKind.wrap .i64 n=n:=by
 have h:∀ m:Int,IntKind.wrap .i64 m=(m+9223372036854775808) % 18446744073709551616 - 9223372036854775808:=fun m=>by
  unfold IntKind.wrap
  simp [IntKind.bits,IntKind.signed,Int.bmod]
  omega
 rw [h]; omega
theorem wr {n:Int} (h0: -9223372036854775808≤n:=by omega) (h1:n≤9223372036854775807:=by omega):Ok (some (IntKind.wrap .i64 n)) fun v=>v=n:=ok (Z46 h0 h1)
theorem sm {x:α}:Ok (some x) fun _=>True:=ok trivial
theorem gr {l:List α} {i:Int} (h0:0≤i:=by omega) (h1:i<l.length:=by omega):Ok (Z01 l i) fun x=>x∈l:=by
 have hlt:i.toNat<l.length:=by omega
 refine ⟨l[i.toNat],?_,List.getElem_mem hlt⟩
 unfold Z01
 rw [if_pos h0,List.getElem?_eq_getElem hlt]
theorem gri {l:List α} {i:Int} (h0:0≤i:=by omega) (h1:i<l.length:=by omega):Ok (Z01 l i) fun x=>x∈l∧l[i.toNat]?=some x:=by
 have hlt:i.toNat<l.length:=by omega
 refine ⟨l[i.toNat],?_,List.getElem_mem hlt,List.getElem?_eq_getElem hlt⟩
 unfold Z01
 rw [if_pos h0,List.getElem?_eq_getElem hlt]
theorem gs {s:List UInt8} {i:Int} (h0:0≤i:=by omega) (h1:i<s.length:=by omega):Ok (Z2v s i) fun x=>0≤x∧x<256:=by
 have hlt:i.toNat<s.length:=by omega
 refine ⟨(s[i.toNat].toNat:Int),?_,by omega,by have:=s[i.toNat].toNat_lt; omega⟩
 unfold Z2v
 rw [if_pos h0,List.getElem?_eq_getElem hlt]
 rfl
theorem ik {i:Int} {n:Nat} (h0:0≤i:=by omega) (h1:i<n:=by omega):Ok (Z3q i n) fun j=>j=i.toNat∧j<n:=⟨i.toNat,by unfold Z3q; rw [if_pos ⟨h0,h1⟩],rfl,by omega⟩
theorem la {l:List α} {j:Nat} (h:j<l.length):Ok (l[j]?) fun x=>l[j]?=some x∧x∈l:=⟨l[j],List.getElem?_eq_getElem h,List.getElem?_eq_getElem h,List.getElem_mem h⟩
theorem gk {b n:Nat} (h:n*b≤140737488355328:=by first|omega|(simp only [List.length_append,List.length_cons,List.length_nil]; omega)) (hn:n≤9223372036854775807:=by first|omega|(simp only [List.length_append,List.length_cons,List.length_nil]; omega)):Ok (Z1a b n) fun _=>True:=⟨(),by unfold Z1a; rw [if_pos ⟨hn,h⟩],trivial⟩
theorem mk {b:Nat} {l c:Int} (h0:0≤l) (h1:l≤c) (h2:(b:Int)*c≤281474976710656) (h3:c≤9223372036854775807):Ok (Z7z b l c) fun _=>True:=⟨(),by unfold Z7z; rw [if_pos ⟨h0,h1,h2,h3⟩],trivial⟩
theorem ct {a b:List UInt8} (h:a.length+b.length≤9223372036854775807):Ok (Z2e a b) fun m=>m=a++b∧m.length=a.length+b.length:=⟨a++b,by unfold Z2e; rw [if_pos h],rfl,List.length_append⟩
theorem sb {l:List α} {lo hi:Int} (h0:0≤lo) (h1:lo≤hi) (h2:hi≤l.length):Ok (sub l lo hi) fun r=>(r.length:Int)=hi - lo∧∀ x∈r,x∈l:=by
 unfold sub
 rw [if_pos (by omega)]
 refine ok ⟨by simp; omega,fun x hx=>List.mem_of_mem_drop (List.mem_of_mem_take hx)⟩
end
end Go.Tot
set_option linter.unusedVariables false
namespace Go.Proofs
open Go.Den Go.Tot
abbrev Str (s:List UInt8):Prop:=s.length≤4503599627370496
structure WRef (r:Z20):Prop where
 c:Str r.Z0y
 n:Str r.Z0e
 d:Str r.Z1p
structure Z36 (i:Z02):Prop where
 keys:i.Z12.length*8≤140737488355328
 tos:i.Z0d.length*8≤140737488355328
 ref:WRef i.Z1l
 s:Str i.f_S
structure Z97 (f:Z5y):Prop where
 loc:∀ v∈f.Z0c,Str v.Z17.Z0e
 locL:f.Z0c.length*56≤140737488355328
 stk:∀ v∈f.Z0m,Str v.Z17.Z0e
 stkL:f.Z0m.length*56≤140737488355328
structure Z5v (c:Z09):Prop where
 ins:∀ i∈c.Z0k,Z36 i
 insL:c.Z0k.length*144≤140737488355328
 hnd:∀ h∈c.Z21,Str h.Z17
 hndL:c.Z21.length*48≤140737488355328
 map:∀ m∈c.Z1s,Z97 m.Z1w
 mapL:c.Z1s.length*64≤140737488355328
 linL:c.Z1y.length*16≤140737488355328
structure Zd6 (m:Z1r):Prop where
 n:Str m.Z0e
 d:Str m.Z1p
 code:Z5v m.Z13
 exc:∀ s∈m.Z6j,Str s
 excL:m.Z6j.length*16≤140737488355328
structure Ztb (f:Z5w):Prop where
 n:Str f.Z0e
 d:Str f.Z1p
 s:Str f.f_S
structure Z5u (u:Z0u):Prop where
 n:Str u.Z0e
 sup:Str u.Z28
 ifs:∀ s∈u.Z1b,Str s
 ifsL:u.Z1b.length*16≤140737488355328
 fld:∀ f∈u.Z18,Ztb f
 fldL:u.Z18.length*72≤140737488355328
 met:∀ m∈u.Z0j,Zd6 m
 metL:u.Z0j.length*184≤140737488355328
 src:Str u.Z87
structure Z84 (l:Z1i):Prop where
 del:∀ d∈l.Z45,Str d.Zdn
 delL:l.Z45.length≤140737488355328
 sto:∀ c∈l.Z3d,Str c.Z0e
 stoL:l.Z3d.length≤140737488355328
structure Z5d (w:Z0w):Prop where
 lod:∀ l∈w.Z2a,Z84 l
 lodL:w.Z2a.length≤140737488355328
 cls:∀ c∈w.Z0z,Z5u c.Z1f∧c.Z1b.length≤140737488355328
 clsL:w.Z0z.length≤140737488355328
 ini:∀ x∈w.Z2l,Str x.Z0e
 iniL:w.Z2l.length≤140737488355328
 con:∀ x∈w.Z37,Str x.Z0e
 conL:w.Z37.length≤140737488355328
theorem Yam (x:Int):Ok (Zet x) (fun _=>True):=by
 unfold Zet
 repeat' with_reducible first
  | refine brD (fun _=>?_) fun _=>?_
  | refine brE (fun _=>?_) fun _=>?_
  | refine ok ?_
  | exact True.intro
theorem L34x1 (x:List UInt8) (h:Str x):Ok (Z04 (Zdl x) Z05 0) (fun q=>match q with|.inl _=>True|.inr y=>y=false):=by
 refine li (x.length) (fun t _ _=>?_) (by omega) (by omega) (by omega)
 unfold Zdl
 repeat' first
  | with_reducible refine ni ?_ ?_
  | with_reducible refine di ?_
  | with_reducible refine brD (fun _=>?_) fun _=>?_
  | with_reducible refine br! (fun _=>?_) fun _=>?_
  | with_reducible refine brE (fun _=>?_) fun _=>?_
  | with_reducible refine bd gs fun _ _=>?_
  | with_reducible refine bd wr fun _ _=>?_
  | with_reducible refine bd (Yam _) fun _ _=>?_
  | (rfl)
  | exact True.intro
  | omega
theorem Zvj (x:List UInt8) (h:Str x):Ok (Za2 x) (fun b=>b=true→x≠[]):=by
 unfold Za2
 repeat' first
  | with_reducible refine bd (L34x1 _ (by first|assumption|omega|exact And.left (by assumption)|(dsimp only; omega))) fun _ _=>?_
  | with_reducible refine ok ?_
  | split
  | (first|(intro h; rintro rfl; simp at h; done)|(simp_all; done))
theorem L20x1 (x:List UInt8) (h:Str x):Ok (Z04 (Zen x) Z05 (0,0)) (fun q=>match q with|.inl y=>0≤y∧y≤x.length|.inr y=>True):=by
 refine lp (fun t=>t.2) (x.length) (fun t=>0≤t.1∧t.1≤t.2) (fun t hI _ _=>?_) (by omega) (by omega) (by omega) (by omega)
 try dsimp only at*
 unfold Zen
 repeat' first
  | with_reducible refine nx ?_ ?_ ?_
  | with_reducible refine dn ?_
  | with_reducible refine brD (fun _=>?_) fun _=>?_
  | with_reducible refine br! (fun _=>?_) fun _=>?_
  | with_reducible refine brE (fun _=>?_) fun _=>?_
  | with_reducible refine bd gs fun _ _=>?_
  | with_reducible refine bd wr fun _ _=>?_
  | with_reducible refine bd (sb (by omega) (by omega) (by omega)) fun _ _=>?_
  | with_reducible refine bd (Zvj _ (by unfold Str; omega)) fun _ _=>?_
  | exact True.intro
  | omega
theorem Zmi (x:List UInt8) (h:Str x):Ok (Z98 x) (fun b=>b=true→x.length≤64):=by
 unfold Z98
 repeat' first
  | with_reducible refine bdE (L20x1 _ (by assumption)) fun q _ hq=>?_
  | with_reducible refine brD (fun _=>?_) fun _=>?_
  | with_reducible refine bd (sb (by omega) (by omega) (by omega)) fun _ _=>?_
  | with_reducible refine bd (Zvj _ (by unfold Str; omega)) fun _ _=>?_
  | with_reducible refine ok ?_
  | split
  | ((intro hb; first|(cases hb; done)|omega))
theorem Y18 (x y:List UInt8):Ok (Zaw x y) (fun _=>True):=by
 unfold Zaw
 repeat' with_reducible first
  | refine brD (fun _=>?_) fun _=>?_
  | refine bd (sb (by omega) (by omega) (by omega)) fun _ _=>?_
  | refine ok ?_
  | exact True.intro
theorem L32x1 (x:Z1i) (i:Int) (h:Z84 x):Ok (Z04 (Zp9 x i) Z05 0) (fun _=>True):=by
 have:=h.stoL
 refine li (x.Z3d.length) (fun t _ _=>?_) (by omega) (by omega) (by omega)
 unfold Zp9
 repeat' first
  | with_reducible refine ni ?_ ?_
  | with_reducible refine di ?_
  | with_reducible refine brD (fun _=>?_) fun _=>?_
  | with_reducible refine br (fun _=>?_) fun _=>?_
  | with_reducible refine bd gr fun _ _=>?_
  | with_reducible refine bd wr fun _ _=>?_
  | with_reducible refine bd (Zmi _ (by exact h.sto _ (by assumption))) fun _ _=>?_
  | with_reducible refine bd (Y18 _ _) fun _ _=>?_
  | exact True.intro
  | omega
theorem Y7f (x:Z1i) (i:Int) (h:Z84 x):Ok (Zje x i) (fun _=>True):=by
 unfold Zje
 repeat' first
  | with_reducible refine bd (L32x1 _ _ (by first|assumption|omega|exact And.left (by assumption)|(dsimp only; omega))) fun _ _=>?_
  | with_reducible refine ok ?_
  | split
  | assumption
theorem L33x2 (k:Int) (x:Z1i) (hl:x.Z3d.length≤140737488355328) (h0:0≤k) (h1:k<x.Z3d.length):Ok (Z04 (Zn9 k x) Z05 0) (fun _=>True):=by
 refine li (k) (fun t _ _=>?_) (by omega) (by omega) (by omega)
 unfold Zn9
 repeat' first
  | with_reducible refine ni ?_ ?_
  | with_reducible refine di ?_
  | with_reducible refine brD (fun _=>?_) fun _=>?_
  | with_reducible refine br (fun _=>?_) fun _=>?_
  | with_reducible refine bd gr fun _ _=>?_
  | with_reducible refine bd wr fun _ _=>?_
  | exact True.intro
  | omega
theorem L33x1 (x:Z1i) (hl:x.Z3d.length≤140737488355328):Ok (Z04 (Zlj x) Z05 0) (fun _=>True):=by
 refine li (x.Z3d.length) (fun t _ _=>?_) (by omega) (by omega) (by omega)
 unfold Zlj
 repeat' first
  | with_reducible refine ni ?_ ?_
  | with_reducible refine di ?_
  | with_reducible refine brD (fun _=>?_) fun _=>?_
  | with_reducible refine bd wr fun _ _=>?_
  | with_reducible refine bd (L33x2 _ _ (by first|assumption|omega|exact And.left (by assumption)|(dsimp only; omega)) (by first|assumption|omega|exact And.left (by assumption)|(dsimp only; omega)) (by first|assumption|omega|exact And.left (by assumption)|(dsimp only; omega))) fun _ _=>?_
  | split
  | exact True.intro
  | omega
theorem Ybz (x:Z1i) (hl:x.Z3d.length≤140737488355328):Ok (Zqo x) (fun _=>True):=by
 unfold Zqo
 repeat' first
  | with_reducible refine bd (L33x1 _ (by first|assumption|omega|exact And.left (by assumption)|(dsimp only; omega))) fun _ _=>?_
  | with_reducible refine ok ?_
  | split
  | assumption
theorem L19x1 (x:List Z1i) (h:∀ l∈x,Z84 l) (hl:x.length≤140737488355328):Ok (Z04 (Zlt x) Z05 0) (fun _=>True):=by
 refine li (x.length) (fun t _ _=>?_) (by omega) (by omega) (by omega)
 unfold Zlt
 repeat' first
  | with_reducible refine ni ?_ ?_
  | with_reducible refine di ?_
  | with_reducible refine brD (fun _=>?_) fun _=>?_
  | with_reducible refine bd gr fun _ _=>?_
  | with_reducible refine bd wr fun _ _=>?_
  | exact True.intro
  | omega
theorem L19x3 (k:Int) (x:List Z1i) (h:∀ l∈x,Z84 l) (hl:x.length≤140737488355328) (h0:0≤k) (h1:k<x.length):Ok (Z04 (Zpd k x) Z05 0) (fun _=>True):=by
 obtain ⟨y,hy,hm⟩:=gr h0 h1
 have:=(h y hm).delL
 refine li (y.Z45.length) (fun t _ _=>?_) (by omega) (by omega) (by omega)
 unfold Zpd
 simp only [hy]
 repeat' first
  | with_reducible refine ni ?_ ?_
  | with_reducible refine di ?_
  | with_reducible refine brD (fun _=>?_) fun _=>?_
  | with_reducible refine bd gr fun _ _=>?_
  | with_reducible refine bd wr fun _ _=>?_
  | with_reducible refine bs ?_
  | exact True.intro
  | omega
theorem L19x2 (x:List Z1i) (h:∀ l∈x,Z84 l) (hl:x.length≤140737488355328):Ok (Z04 (Zmj x) Z05 0) (fun _=>True):=by
 refine li (x.length) (fun t _ _=>?_) (by omega) (by omega) (by omega)
 unfold Zmj
 repeat' first
  | with_reducible refine ni ?_ ?_
  | with_reducible refine di ?_
  | with_reducible refine brD (fun _=>?_) fun _=>?_
  | with_reducible refine bd wr fun _ _=>?_
  | with_reducible refine bd (L19x3 _ _ (by first|assumption|omega|exact And.left (by assumption)|(dsimp only; omega)) (by first|assumption|omega|exact And.left (by assumption)|(dsimp only; omega)) (by first|assumption|omega|exact And.left (by assumption)|(dsimp only; omega)) (by first|assumption|omega|exact And.left (by assumption)|(dsimp only; omega))) fun _ _=>?_
  | split
  | exact True.intro
  | omega
theorem L19x4 (x:List Z1i) (h:∀ l∈x,Z84 l) (hl:x.length≤140737488355328):Ok (Z04 (Zp5 x) Z05 0) (fun _=>True):=by
 refine li (x.length) (fun t _ _=>?_) (by omega) (by omega) (by omega)
 unfold Zp5
 repeat' first
  | with_reducible refine ni ?_ ?_
  | with_reducible refine di ?_
  | with_reducible refine brD (fun _=>?_) fun _=>?_
  | with_reducible refine brN (fun _=>?_) fun _=>?_
  | with_reducible refine bd gr fun _ _=>?_
  | with_reducible refine bd wr fun _ _=>?_
  | with_reducible refine bd (Y7f _ _ (by exact h _ (by assumption))) fun _ _=>?_
  | exact True.intro
  | omega
theorem L19x5 (x:List Z1i) (h:∀ l∈x,Z84 l) (hl:x.length≤140737488355328):Ok (Z04 (Zkr x) Z05 0) (fun _=>True):=by
 refine li (x.length) (fun t _ _=>?_) (by omega) (by omega) (by omega)
 unfold Zkr
 repeat' first
  | with_reducible refine ni ?_ ?_
  | with_reducible refine di ?_
  | with_reducible refine brD (fun _=>?_) fun _=>?_
  | with_reducible refine br (fun _=>?_) fun _=>?_
  | with_reducible refine bd gr fun _ _=>?_
  | with_reducible refine bd wr fun _ _=>?_
  | with_reducible refine bd (Ybz _ (by exact (h _ (by assumption)).stoL)) fun _ _=>?_
  | exact True.intro
  | omega
theorem Yb5 (x:List Z1i) (h:∀ l∈x,Z84 l) (hl:x.length≤140737488355328):Ok (Zmh x) (fun e=>e=0→x.length≤8):=by
 unfold Zmh
 repeat' first
  | unfold j57x1
  | with_reducible refine brD (fun _=>?_) fun _=>?_
  | with_reducible refine bd (L19x1 _ (by first|assumption|omega|exact And.left (by assumption)|(dsimp only; omega)) (by first|assumption|omega|exact And.left (by assumption)|(dsimp only; omega))) fun _ _=>?_
  | with_reducible refine bd (L19x2 _ (by first|assumption|omega|exact And.left (by assumption)|(dsimp only; omega)) (by first|assumption|omega|exact And.left (by assumption)|(dsimp only; omega))) fun _ _=>?_
  | with_reducible refine bd (L19x4 _ (by first|assumption|omega|exact And.left (by assumption)|(dsimp only; omega)) (by first|assumption|omega|exact And.left (by assumption)|(dsimp only; omega))) fun _ _=>?_
  | with_reducible refine bd (L19x5 _ (by first|assumption|omega|exact And.left (by assumption)|(dsimp only; omega)) (by first|assumption|omega|exact And.left (by assumption)|(dsimp only; omega))) fun _ _=>?_
  | with_reducible refine ok ?_
  | split
  | omega
theorem L21x1 (v:Z32) (w:Z0w) (i:Int) (h:Z5d w) (h0:0≤i) (h1:i<w.Z2l.length):Ok (Z04 (Zmp v w i) Z05 0) (fun _=>True):=by
 have:=h.iniL
 refine li (i) (fun t _ _=>?_) (by omega) (by omega) (by omega)
 unfold Zmp
 repeat' first
  | with_reducible refine ni ?_ ?_
  | with_reducible refine di ?_
  | with_reducible refine brD (fun _=>?_) fun _=>?_
  | with_reducible refine br (fun _=>?_) fun _=>?_
  | with_reducible refine bd gr fun _ _=>?_
  | with_reducible refine bd wr fun _ _=>?_
  | exact True.intro
  | omega
def Z9y (w:Z0w) (v:Z32):Prop:=0≤v.Z38∧v.Z38<w.Z2a.length∧0≤v.Z0y∧v.Z0y<w.Z0z.length
def Z9h (w:Z0w) (b:Z4i):Prop:=0≤b.f_A∧b.f_A<w.Z2a.length∧0≤b.f_B∧b.f_B<w.Z2a.length
theorem Yco (w:Z0w) (i:Int) (h:Z5d w) (h0:0≤i) (h1:i<w.Z2l.length):Ok (Zpn w i) (fun b=>b=true→∀ v,w.Z2l[i.toNat]?=some v→Z9y w v):=by
 have:=h.iniL
 unfold Zpn
 repeat' first
  | with_reducible refine bd gri fun _ _=>?_
  | unfold j59x1
  | with_reducible refine brD (fun _=>?_) fun _=>?_
  | with_reducible refine bd (L21x1 _ _ _ (by first|assumption|omega|exact And.left (by assumption)|(dsimp only; omega)) (by first|assumption|omega|exact And.left (by assumption)|(dsimp only; omega)) (by first|assumption|omega|exact And.left (by assumption)|(dsimp only; omega))) fun _ _=>?_
  | with_reducible refine ok ?_
  | split
  | ((intro hb v hv; first|(cases hb; done)|(have e:∀ a,w.Z2l[i.toNat]?=some a→a=v:=fun a ha=>by { rw [hv] at ha; cases ha; rfl }; have:=e _ (And.right (by assumption)); subst this; exact ⟨by omega,by omega,by omega,by omega⟩)))
theorem L35x2 (w:Z0w) (s:List UInt8) (l0:List Bool) (h:Z5d w) (hl:w.Z2a.length≤8) (hc:∀ b∈w.Z37,Z9h w b) (h0:l0.length=w.Z2a.length):Ok (Z04 (Zjq w s) Z05 (0,l0)) (fun r=>r.length=w.Z2a.length):=by
 have:=h.conL
 refine lp (fun t=>t.1) (w.Z37.length) (fun t=>t.2.length=w.Z2a.length) (fun t hI _ _=>?_) (by omega) (by exact h0) (by omega) (by omega)
 try dsimp only at*
 unfold Zjq
 repeat' first
  | with_reducible refine bd (ik (by have:=hc _ (by assumption); unfold Z9h at this; omega) (by have:=hc _ (by assumption); unfold Z9h at this; first|omega|(simp only [List.length_set]; omega))) fun _ _=>?_
  | with_reducible refine nx ?_ ?_ ?_
  | with_reducible refine dn ?_
  | unfold Zna
  | with_reducible refine brD (fun _=>?_) fun _=>?_
  | with_reducible refine br (fun _=>?_) fun _=>?_
  | with_reducible refine bd gr fun _ _=>?_
  | with_reducible refine bd (la (by first|omega|(simp only [List.length_set,List.length_append,List.length_cons,List.length_nil,List.length_replicate]; omega))) fun _ _=>?_
  | with_reducible refine bd wr fun _ _=>?_
  | assumption
  | (simp only [List.length_set,List.length_append,List.length_cons,List.length_nil,List.length_replicate]; omega)
theorem L35x1 (w:Z0w) (s:List UInt8) (l0:List Bool) (h:Z5d w) (hl:w.Z2a.length≤8) (hc:∀ b∈w.Z37,Z9h w b) (h0:l0.length=w.Z2a.length):Ok (Z04 (Zq6 w s) Z05 (0,l0)) (fun r=>r.length=w.Z2a.length):=by
 refine lp (fun t=>t.1) (w.Z2a.length) (fun t=>t.2.length=w.Z2a.length) (fun t hI _ _=>?_) (by omega) (by exact h0) (by omega) (by omega)
 try dsimp only at*
 unfold Zq6
 repeat' first
  | with_reducible refine nx ?_ ?_ ?_
  | with_reducible refine dn ?_
  | with_reducible refine brD (fun _=>?_) fun _=>?_
  | with_reducible refine bd wr fun _ _=>?_
  | with_reducible refine bd (L35x2 _ _ _ (by first|assumption|omega|exact And.left (by assumption)|(dsimp only; omega)) (by first|assumption|omega|exact And.left (by assumption)|(dsimp only; omega)) (by first|assumption|omega|exact And.left (by assumption)|(dsimp only; omega)) (by first|assumption|omega|exact And.left (by assumption)|(dsimp only; omega))) fun _ _=>?_
  | omega
theorem Y77 (w:Z0w) (s:List UInt8) (k:Int) (h:Z5d w) (hl:w.Z2a.length≤8) (hc:∀ b∈w.Z37,Z9h w b) (h0:0≤k) (h1:k<w.Z2a.length):Ok (Zqc w s k) (fun r=>r.length=w.Z2a.length):=by
 unfold Zqc
 repeat' first
  | with_reducible refine bd (ik (by omega) (by first|omega|(simp only [List.length_set,List.length_append,List.length_cons,List.length_nil,List.length_replicate]; omega))) fun _ _=>?_
  | with_reducible refine bd (la (by first|omega|(simp only [List.length_set,List.length_append,List.length_cons,List.length_nil,List.length_replicate]; omega))) fun _ _=>?_
  | with_reducible refine bd (mk (by omega) (by omega) (by omega) (by omega)) fun _ _=>?_
  | with_reducible refine bd (L35x1 _ _ _ (by first|assumption|(simp only [List.length_set,List.length_replicate]; omega)) (by first|assumption|(simp only [List.length_set,List.length_replicate]; omega)) (by first|assumption|(simp only [List.length_set,List.length_replicate]; omega)) (by first|assumption|(simp only [List.length_set,List.length_replicate]; omega))) fun _ _=>?_
  | with_reducible refine ok ?_
  | assumption
theorem L22x1 (v:Z32) (g:List Bool) (w:Z0w) (i:Int) (h:Z5d w) (h0:0≤i) (h1:i<w.Z2l.length) (hg:g.length=w.Z2a.length) (hs:∀ (j:Nat) v,j<i→w.Z2l[j]?=some v→Z9y w v):Ok (Z04 (Zng v g w i) Z05 0) (fun _=>True):=by
 have:=h.iniL
 refine li (i) (fun t _ _=>?_) (by omega) (by omega) (by omega)
 unfold Zng
 repeat' first
  | with_reducible refine bd gri fun _ _=>?_
  | with_reducible refine bd (gr (by have:=hs t.toNat _ (by omega) (And.right (by assumption)); unfold Z9y at this; omega) (by have:=hs t.toNat _ (by omega) (And.right (by assumption)); unfold Z9y at this; omega)) fun _ _=>?_
  | with_reducible refine ni ?_ ?_
  | with_reducible refine di ?_
  | with_reducible refine brD (fun _=>?_) fun _=>?_
  | with_reducible refine br (fun _=>?_) fun _=>?_
  | with_reducible refine bd wr fun _ _=>?_
  | exact True.intro
  | omega
theorem Yaf (w:Z0w) (i:Int) (h:Z5d w) (hl:w.Z2a.length≤8) (hc:∀ b∈w.Z37,Z9h w b) (h0:0≤i) (h1:i<w.Z2l.length) (hs:∀ (j:Nat) v,j≤i→w.Z2l[j]?=some v→Z9y w v):Ok (Znn w i) (fun _=>True):=by
 have:=h.iniL
 unfold Znn
 repeat' first
  | with_reducible refine bd gri fun _ _=>?_
  | with_reducible refine bd (Y77 _ _ _ h hl hc (by have:=hs i.toNat _ (by omega) (And.right (by assumption)); unfold Z9y at this; omega) (by have:=hs i.toNat _ (by omega) (And.right (by assumption)); unfold Z9y at this; omega)) fun _ _=>?_
  | with_reducible refine bd (L22x1 _ _ _ _ h h0 h1 (by assumption) (fun j v hj hv=>hs j v (by omega) hv)) fun _ _=>?_
  | with_reducible refine ok ?_
  | split
  | assumption
theorem L53x1 (x:List Z0l) (hl:x.length≤140737488355328):Ok (Z04 (Zm2 x) Z05 0) (fun _=>True):=by
 refine li (x.length) (fun t _ _=>?_) (by omega) (by omega) (by omega)
 unfold Zm2
 repeat' first
  | with_reducible refine ni ?_ ?_
  | with_reducible refine di ?_
  | with_reducible refine brD (fun _=>?_) fun _=>?_
  | with_reducible refine brN (fun _=>?_) fun _=>?_
  | with_reducible refine bd gr fun _ _=>?_
  | with_reducible refine bd wr fun _ _=>?_
  | exact True.intro
  | omega
theorem Y6f (x:List Z0l) (hl:x.length≤140737488355328):Ok (Zhi x) (fun _=>True):=by
 unfold Zhi
 repeat' first
  | with_reducible refine bd (L53x1 _ (by first|assumption|omega|exact And.left (by assumption)|(dsimp only; omega))) fun _ _=>?_
  | with_reducible refine ok ?_
  | split
  | assumption
theorem L47x1 (u:Z0u) (h:Z5u u):Ok (Z04 (Zoo u) Z05 0) (fun _=>True):=by
 have:=h.fldL
 refine li (u.Z18.length) (fun t _ _=>?_) (by omega) (by omega) (by omega)
 unfold Zoo
 repeat' first
  | with_reducible refine ni ?_ ?_
  | with_reducible refine di ?_
  | unfold Zp6
  | with_reducible refine brD (fun _=>?_) fun _=>?_
  | with_reducible refine br! (fun _=>?_) fun _=>?_
  | with_reducible refine brE (fun _=>?_) fun _=>?_
  | with_reducible refine brN (fun _=>?_) fun _=>?_
  | with_reducible refine bd gr fun _ _=>?_
  | with_reducible refine bd wr fun _ _=>?_
  | exact True.intro
  | omega
theorem L47x3 (m:Z1r) (h:Zd6 m):Ok (Z04 (Zmd m) Z05 0) (fun _=>True):=by
 have:=h.code.hndL
 refine li (m.Z13.Z21.length) (fun t _ _=>?_) (by omega) (by omega) (by omega)
 unfold Zmd
 repeat' first
  | with_reducible refine ni ?_ ?_
  | with_reducible refine di ?_
  | with_reducible refine brD (fun _=>?_) fun _=>?_
  | with_reducible refine brN (fun _=>?_) fun _=>?_
  | with_reducible refine bd gr fun _ _=>?_
  | with_reducible refine bd wr fun _ _=>?_
  | exact True.intro
  | omega
theorem L47x4 (m:Z1r) (h:Zd6 m):Ok (Z04 (Zlh m) Z05 0) (fun _=>True):=by
 have:=h.code.mapL
 refine li (m.Z13.Z1s.length) (fun t _ _=>?_) (by omega) (by omega) (by omega)
 unfold Zlh
 repeat' first
  | with_reducible refine bd (Y6f _ (by have:=(h.code.map _ (by assumption)).locL; omega)) fun _ _=>?_
  | with_reducible refine bd (Y6f _ (by have:=(h.code.map _ (by assumption)).stkL; omega)) fun _ _=>?_
  | with_reducible refine ni ?_ ?_
  | with_reducible refine di ?_
  | with_reducible refine brD (fun _=>?_) fun _=>?_
  | with_reducible refine br! (fun _=>?_) fun _=>?_
  | with_reducible refine bd gr fun _ _=>?_
  | with_reducible refine bd wr fun _ _=>?_
  | exact True.intro
  | omega
theorem L47x2 (u:Z0u) (h:Z5u u):Ok (Z04 (Zq4 u) Z05 0) (fun _=>True):=by
 have:=h.metL
 refine li (u.Z0j.length) (fun t _ _=>?_) (by omega) (by omega) (by omega)
 unfold Zq4
 repeat' first
  | with_reducible refine ni ?_ ?_
  | with_reducible refine di ?_
  | unfold Zk0
  | with_reducible refine brD (fun _=>?_) fun _=>?_
  | with_reducible refine bd gr fun _ _=>?_
  | with_reducible refine bd wr fun _ _=>?_
  | with_reducible refine bd (L47x3 _ (by exact h.met _ (by assumption))) fun _ _=>?_
  | with_reducible refine bd (L47x4 _ (by exact h.met _ (by assumption))) fun _ _=>?_
  | with_reducible refine bs ?_
  | split
  | exact True.intro
  | omega
theorem Y7c (u:Z0u) (h:Z5u u):Ok (Zpv u) (fun _=>True):=by
 unfold Zpv
 repeat' first
  | with_reducible refine bd (L47x1 _ (by first|assumption|omega|exact And.left (by assumption)|(dsimp only; omega))) fun _ _=>?_
  | with_reducible refine bd (L47x2 _ (by first|assumption|omega|exact And.left (by assumption)|(dsimp only; omega))) fun _ _=>?_
  | with_reducible refine ok ?_
  | split
  | assumption
end Go.Proofs
set_option linter.unusedVariables false
namespace Go.Proofs
open Go.Den Go.Tot
structure Z1e (p:List Z00):Prop where
 len:p.length≤1000
 ord:∀ (k:Nat) c,p[k]?=some c→c.f_A≤k∧c.f_B≤k
 str:∀ c∈p,Str c.f_S
theorem Z1e.app {p:List Z00} {c:Z00} (h:Z1e p) (hl:p.length<1000) (ha:c.f_A≤p.length) (hb:c.f_B≤p.length) (hs:Str c.f_S):Z1e (([]++p)++[c]):=by
 refine ⟨by simp; omega,fun k d hd=>?_,fun d hd=>?_⟩
 ·rw [List.nil_append] at hd
  rcases Nat.lt_trichotomy k p.length with h1|h1|h1
  ·rw [List.getElem?_append_left h1] at hd; exact h.ord k d hd
  ·subst h1
   rw [List.getElem?_append_right (Nat.le_refl _),Nat.sub_self] at hd
   cases hd; exact ⟨ha,hb⟩
  ·rw [List.getElem?_eq_none (by simp; omega)] at hd; cases hd
 ·rw [List.nil_append] at hd
  rcases List.mem_append.1 hd with hd|hd
  ·exact h.str d hd
  ·rw [List.mem_singleton.1 hd]; exact hs
theorem Z1e.nil:Z1e [] :=⟨by simp,fun k c h=>by simp at h,fun c h=>by simp at h⟩
abbrev PR (p:List Z00) (r:List Z00×Int×Int):Prop:=Z1e r.1∧p.length≤r.1.length∧0≤r.2.1∧r.2.1≤r.1.length∧r.1.length≤1000
theorem Z7j {α:Type} {P:α→Prop} {l:List α} {x:α} (h:∀ v∈l,P v) (hx:P x):∀ v∈l++[x],P v:=fun v hv=>by
 rcases List.mem_append.1 hv with hv|hv
 ·exact h v hv
 ·rw [List.mem_singleton.1 hv]; exact hx
theorem Z51 {α:Type} {P:α→Prop}:∀ v∈([]:List α),P v:=fun v hv=>by simp at hv
theorem W0 {op a:Int}:Z36 { f_Op:=op,f_A:=a,f_B:=0,f_To:=0,Z12:=[],Z0d:=[],Z1l:={ Z0y:=[],Z0e:=[],Z1p:=[] },f_S:=[] }:=⟨by simp,by simp,⟨by simp,by simp,by simp⟩,by simp⟩
theorem L77x1 (p:List Z00) (c:Z00) (hp:Z1e p):Ok (Z04 (Zi1 p c) Z05 0) (fun q=>match q with|.inl _=>True|.inr y=>PR p y):=by
 have:=hp.len
 refine li (p.length) (fun t _ _=>?_) (by omega) (by omega) (by omega)
 unfold Zi1
 repeat' first
  | with_reducible refine ni ?_ ?_
  | with_reducible refine di ?_
  | with_reducible refine brD (fun _=>?_) fun _=>?_
  | with_reducible refine br (fun _=>?_) fun _=>?_
  | with_reducible refine bd gr fun _ _=>?_
  | with_reducible refine bd wr fun _ _=>?_
  | with_reducible refine And.intro ?_ ?_
  | exact True.intro
  | omega
  | (dsimp only; omega)
theorem Zhs (p:List Z00) (c:Z00) (hp:Z1e p) (ha:c.f_A≤p.length) (hb:c.f_B≤p.length) (hs:Str c.f_S):Ok (Z7h p c) (PR p):=by
 have:=hp.len
 unfold Z7h
 repeat' first
  | with_reducible refine brD (fun _=>?_) fun _=>?_
  | with_reducible refine bd wr fun _ _=>?_
  | with_reducible refine bd gk fun _ _=>?_
  | with_reducible refine bd (L77x1 _ _ (by first|assumption|omega|exact And.left (by assumption)|(dsimp only; omega))) fun _ _=>?_
  | with_reducible refine ok ?_
  | split
  | (first|exact ⟨hp.app (by omega) ha hb hs,by simp,by dsimp only; omega,by simp; omega,by simp; omega⟩|exact ⟨hp,by dsimp only; omega,by dsimp only; omega,by dsimp only; omega,by dsimp only; omega⟩|(dsimp only at *; assumption))
theorem Zi9 (p:List Z00) (s:List UInt8) (hp:Z1e p) (hs:Str s):Ok (Z7m p s) (PR p):=by
 have:=hp.len
 unfold Z7m
 repeat' first
  | with_reducible refine bd (Zhs _ _ (by first|assumption|omega|(dsimp only; omega)|exact And.left (by assumption)|(simp; done)) (by first|assumption|omega|(dsimp only; omega)|exact And.left (by assumption)|(simp; done)) (by first|assumption|omega|(dsimp only; omega)|exact And.left (by assumption)|(simp; done)) (by first|assumption|omega|(dsimp only; omega)|exact And.left (by assumption)|(simp; done))) fun _ _=>?_
  | with_reducible refine ok ?_
  | (first|exact ⟨by first|exact hp|exact And.left (by assumption),by dsimp only; omega,by dsimp only; omega,by dsimp only; omega,by dsimp only; omega⟩|exact ⟨hp,by dsimp only; omega,by dsimp only; omega,by dsimp only; omega,by dsimp only; omega⟩)
theorem Y1g (p:List Z00) (tag:Int) (s:List UInt8) (hp:Z1e p) (hs:Str s):Ok (Zbz p tag s) (PR p):=by
 have:=hp.len
 unfold Zbz
 repeat' first
  | with_reducible refine brN (fun _=>?_) fun _=>?_
  | with_reducible refine bd (Zi9 _ _ (by first|assumption|omega|exact And.left (by assumption)|(dsimp only; omega)) (by first|assumption|omega|exact And.left (by assumption)|(dsimp only; omega))) fun _ _=>?_
  | with_reducible refine bd (Zhs _ _ (by first|assumption|omega|(dsimp only; omega)|exact And.left (by assumption)|(simp; done)) (by first|assumption|omega|(dsimp only; omega)|exact And.left (by assumption)|(simp; done)) (by first|assumption|omega|(dsimp only; omega)|exact And.left (by assumption)|(simp; done)) (by first|assumption|omega|(dsimp only; omega)|exact And.left (by assumption)|(simp; done))) fun _ _=>?_
  | with_reducible refine ok ?_
  | (first|exact ⟨by first|exact hp|exact And.left (by assumption),by dsimp only; omega,by dsimp only; omega,by dsimp only; omega,by dsimp only; omega⟩|exact ⟨hp,by dsimp only; omega,by dsimp only; omega,by dsimp only; omega,by dsimp only; omega⟩)
theorem Zta (p:List Z00) (s:List UInt8) (hp:Z1e p) (hs:Str s):Ok (Za7 p s) (PR p):=by
 have:=hp.len
 unfold Za7
 repeat' first
  | with_reducible refine bd (Y1g _ _ _ (by first|assumption|omega|exact And.left (by assumption)|(dsimp only; omega)) (by first|assumption|omega|exact And.left (by assumption)|(dsimp only; omega))) fun _ _=>?_
  | with_reducible refine ok ?_
  | (first|exact ⟨by first|exact hp|exact And.left (by assumption),by dsimp only; omega,by dsimp only; omega,by dsimp only; omega,by dsimp only; omega⟩|exact ⟨hp,by dsimp only; omega,by dsimp only; omega,by dsimp only; omega,by dsimp only; omega⟩)
theorem Y1q (p:List Z00) (s:List UInt8) (hp:Z1e p) (hs:Str s):Ok (Zbw p s) (PR p):=by
 have:=hp.len
 unfold Zbw
 repeat' first
  | with_reducible refine bd (Y1g _ _ _ (by first|assumption|omega|exact And.left (by assumption)|(dsimp only; omega)) (by first|assumption|omega|exact And.left (by assumption)|(dsimp only; omega))) fun _ _=>?_
  | with_reducible refine ok ?_
  | (first|exact ⟨by first|exact hp|exact And.left (by assumption),by dsimp only; omega,by dsimp only; omega,by dsimp only; omega,by dsimp only; omega⟩|exact ⟨hp,by dsimp only; omega,by dsimp only; omega,by dsimp only; omega,by dsimp only; omega⟩)
theorem Zgz (x:Z0p) (s:List UInt8) (hp:Z1e x.f_P) (hs:Str s):Ok (Z8j x s) (fun r=>Z1e r.1.f_P):=by
 unfold Z8j
 repeat' first
  | with_reducible refine brN (fun _=>?_) fun _=>?_
  | with_reducible refine bd (Zta _ _ (by first|assumption|omega|exact And.left (by assumption)|(dsimp only; omega)) (by first|assumption|omega|exact And.left (by assumption)|(dsimp only; omega))) fun _ _=>?_
  | with_reducible refine ok ?_
  | (exact And.left (by assumption))
  | assumption
theorem Z8p (x:Z0p) (s:List UInt8) (hp:Z1e x.f_P) (hs:Str s):Ok (Z6a x s) (fun r=>Z1e r.1.f_P):=by
 unfold Z6a
 repeat' first
  | with_reducible refine brN (fun _=>?_) fun _=>?_
  | with_reducible refine bd (Zi9 _ _ (by first|assumption|omega|exact And.left (by assumption)|(dsimp only; omega)) (by first|assumption|omega|exact And.left (by assumption)|(dsimp only; omega))) fun _ _=>?_
  | with_reducible refine ok ?_
  | (exact And.left (by assumption))
  | assumption
theorem Yau (x:Z0p) (f:Z5w) (hp:Z1e x.f_P) (hf:Ztb f):Ok (Zl7 x f) (fun r=>Z1e r.1.f_P):=by
 unfold Zl7
 repeat' first
  | unfold Zq7
  | with_reducible refine brE (fun _=>?_) fun _=>?_
  | with_reducible refine brN (fun _=>?_) fun _=>?_
  | with_reducible refine bd (Y1q _ _ (by first|exact hf.s|assumption) (by first|exact hf.s|assumption)) fun _ _=>?_
  | with_reducible refine bd (Zhs _ _ (by first|assumption|omega|(dsimp only; omega)|exact And.left (by assumption)|(simp; done)) (by first|assumption|omega|(dsimp only; omega)|exact And.left (by assumption)|(simp; done)) (by first|assumption|omega|(dsimp only; omega)|exact And.left (by assumption)|(simp; done)) (by first|assumption|omega|(dsimp only; omega)|exact And.left (by assumption)|(simp; done))) fun _ _=>?_
  | with_reducible refine ok ?_
  | (exact And.left (by assumption))
  | assumption
theorem Y8o (p:List Z00) (tag:Int) (r:Z20) (hp:Z1e p) (hr:WRef r):Ok (Zbb p tag r) (PR p):=by
 have:=hp.len
 unfold Zbb
 repeat' first
  | with_reducible refine bd (Zi9 _ _ (And.left (by assumption)) hr.n) fun _ _=>?_
  | with_reducible refine bd (Zi9 _ _ (And.left (by assumption)) hr.d) fun _ _=>?_
  | with_reducible refine brN (fun _=>?_) fun _=>?_
  | with_reducible refine bd (Zta _ _ (by first|exact hr.c|assumption) (by first|exact hr.c|assumption)) fun _ _=>?_
  | with_reducible refine bd (Zhs _ _ (by first|assumption|omega|(dsimp only; omega)|exact And.left (by assumption)|(simp; done)) (by first|assumption|omega|(dsimp only; omega)|exact And.left (by assumption)|(simp; done)) (by first|assumption|omega|(dsimp only; omega)|exact And.left (by assumption)|(simp; done)) (by first|assumption|omega|(dsimp only; omega)|exact And.left (by assumption)|(simp; done))) fun _ _=>?_
  | with_reducible refine ok ?_
  | (first|exact ⟨by first|exact hp|exact And.left (by assumption),by dsimp only; omega,by dsimp only; omega,by dsimp only; omega,by dsimp only; omega⟩|exact ⟨hp,by dsimp only; omega,by dsimp only; omega,by dsimp only; omega,by dsimp only; omega⟩)
theorem Zyo (x:Int):Ok (Zbs x) (fun _=>True):=by
 unfold Zbs
 repeat' with_reducible first
  | refine brD (fun _=>?_) fun _=>?_
  | refine ok ?_
  | exact True.intro
theorem Zzs (x a b:Int):Ok (Z7p x a b) (fun _=>True):=by
 unfold Z7p
 repeat' with_reducible first
  | refine brD (fun _=>?_) fun _=>?_
  | refine ok ?_
  | exact True.intro
theorem Y2c (x:Int):Ok (Zhu x) (fun _=>True):=by
 unfold Zhu
 repeat' with_reducible first
  | refine brD (fun _=>?_) fun _=>?_
  | refine ok ?_
  | exact True.intro
theorem Y8s (x:Int):Ok (Zpm x) (fun _=>True):=by
 unfold Zpm
 repeat' with_reducible first
  | refine brD (fun _=>?_) fun _=>?_
  | refine ok ?_
  | exact True.intro
theorem Y28 (x:Int):Ok (Zfn x) (fun _=>True):=by
 unfold Zfn
 repeat' with_reducible first
  | refine brE (fun _=>?_) fun _=>?_
  | refine ok ?_
  | exact True.intro
theorem Zsv (x:Int):Ok (Zfj x) (fun _=>True):=by
 unfold Zfj
 repeat' with_reducible first
  | refine brD (fun _=>?_) fun _=>?_
  | refine ok ?_
  | exact True.intro
theorem Y61 (x:Int):Ok (Z7x x) (fun _=>True):=by
 unfold Z7x
 repeat' first
  | unfold Zo4
  | unfold Zkb
  | with_reducible refine br (fun _=>?_) fun _=>?_
  | with_reducible refine bd (Zyo _) fun _ _=>?_
  | with_reducible refine bd (Zzs _ _ _) fun _ _=>?_
  | with_reducible refine ok ?_
  | assumption
theorem Yaz (x:Z02) (k:Int):Ok (Zdv x k) (fun _=>True):=by
 unfold Zdv
 repeat' with_reducible first
  | unfold Zl9
  | unfold Zfq
  | unfold Zgk
  | refine br! (fun _=>?_) fun _=>?_
  | refine brE (fun _=>?_) fun _=>?_
  | refine brN (fun _=>?_) fun _=>?_
  | refine ok ?_
  | exact True.intro
theorem L114x1 (x:Z02) (hx:Z36 x):Ok (Z04 (Zeb x) Z05 0) (fun _=>True):=by
 have:=hx.tos
 refine li (x.Z0d.length) (fun t _ _=>?_) (by omega) (by omega) (by omega)
 unfold Zeb
 repeat' first
  | with_reducible refine ni ?_ ?_
  | with_reducible refine di ?_
  | with_reducible refine brD (fun _=>?_) fun _=>?_
  | with_reducible refine bd gr fun _ _=>?_
  | with_reducible refine bd wr fun _ _=>?_
  | exact True.intro
  | omega
theorem Ycj (x:Z02) (hx:Z36 x):Ok (Z9m x) (fun _=>True):=by
 unfold Z9m
 repeat' with_reducible first
  | unfold Zq8
  | refine bd (L114x1 _ (by first|assumption|omega|exact And.left (by assumption)|(dsimp only; omega))) fun _ _=>?_
  | refine ok ?_
  | split
  | exact True.intro
theorem Y6b (x:Z02) (hx:Z36 x):Ok (Z04 (Znp x) Z05 0) (fun _=>True):=by
 have:=hx.keys
 refine li (x.Z12.length) (fun t _ _=>?_) (by omega) (by omega) (by omega)
 unfold Znp
 repeat' first
  | with_reducible refine ni ?_ ?_
  | with_reducible refine di ?_
  | with_reducible refine brD (fun _=>?_) fun _=>?_
  | with_reducible refine br! (fun _=>?_) fun _=>?_
  | with_reducible refine bd gr fun _ _=>?_
  | with_reducible refine bd wr fun _ _=>?_
  | with_reducible refine bd (Zsv _) fun _ _=>?_
  | exact True.intro
  | omega
theorem Zwi (x:Z02) (hx:Z36 x):Ok (Z04 (Zns x) Z05 1) (fun _=>True):=by
 have:=hx.keys
 refine lp (fun t=>t) (max 1 x.Z12.length) (fun t=>1≤t) (fun t hI _ _=>?_) (by omega) (by omega) (by omega) (by omega)
 unfold Zns
 repeat' first
  | with_reducible refine nx ?_ ?_ ?_
  | with_reducible refine dn ?_
  | with_reducible refine brD (fun _=>?_) fun _=>?_
  | with_reducible refine bd gr fun _ _=>?_
  | with_reducible refine bd wr fun _ _=>?_
  | exact True.intro
  | omega
theorem Ycn (x:Z02) (hx:Z36 x):Ok (Zf0 x) (fun _=>True):=by
 unfold Zf0
 repeat' with_reducible first
  | unfold Zln
  | unfold Zjt
  | refine brD (fun _=>?_) fun _=>?_
  | refine bd wr fun _ _=>?_
  | refine bd (Zsv _) fun _ _=>?_
  | refine bd (Y6b _ (by first|assumption|omega|exact And.left (by assumption)|(dsimp only; omega))) fun _ _=>?_
  | refine bd (Zwi _ (by assumption)) fun _ _=>?_
  | refine ok ?_
  | split
  | exact True.intro
theorem Yad (x:Z02) (hx:Z36 x):Ok (Z6b x) (fun _=>True):=by
 unfold Z6b
 repeat' first
  | unfold Zb3
  | unfold Zbn
  | unfold Zf5
  | unfold Zb1
  | unfold Ze2
  | with_reducible refine brD (fun _=>?_) fun _=>?_
  | with_reducible refine br! (fun _=>?_) fun _=>?_
  | with_reducible refine brE (fun _=>?_) fun _=>?_
  | with_reducible refine bd (Y61 _) fun _ _=>?_
  | with_reducible refine bd (Yaz _ _) fun _ _=>?_
  | with_reducible refine bd (Ycj _ (by first|assumption|omega|exact And.left (by assumption)|(dsimp only; omega))) fun _ _=>?_
  | with_reducible refine bd (Ycn _ (by first|assumption|omega|exact And.left (by assumption)|(dsimp only; omega))) fun _ _=>?_
  | with_reducible refine ok ?_
  | assumption
theorem Y9d (x:Z02) (hx:Z36 x):Ok (Zld x) (fun _=>True):=by
 unfold Zld
 repeat' with_reducible first
  | unfold Zrp
  | unfold Zol
  | unfold Zhv
  | refine br (fun _=>?_) fun _=>?_
  | refine bd (Y2c _) fun _ _=>?_
  | refine bd (Y8s _) fun _ _=>?_
  | refine bd (Y28 _) fun _ _=>?_
  | refine bs ?_
  | refine ok ?_
  | exact True.intro
theorem Y46 (x:Int):Ok (Zin x) (fun l=>l.length≤3):=by
 unfold Zin
 repeat' first
  | unfold Zrs
  | unfold Zwc
  | unfold Zvd
  | unfold Zv7
  | with_reducible refine br (fun _=>?_) fun _=>?_
  | with_reducible refine bd (Zzs _ _ _) fun _ _=>?_
  | with_reducible refine ok ?_
  | (first|(simp; done)|decide)
theorem L158x1 (l:List Int) (x:Int) (hl:l.length≤140737488355328):Ok (Z04 (Zmf l x) Z05 0) (fun _=>True):=by
 refine li (l.length) (fun t _ _=>?_) (by omega) (by omega) (by omega)
 unfold Zmf
 repeat' first
  | with_reducible refine ni ?_ ?_
  | with_reducible refine di ?_
  | with_reducible refine brD (fun _=>?_) fun _=>?_
  | with_reducible refine brE (fun _=>?_) fun _=>?_
  | with_reducible refine bd gr fun _ _=>?_
  | with_reducible refine bd wr fun _ _=>?_
  | exact True.intro
  | omega
theorem Y7j (l:List Int) (x:Int) (hl:l.length≤140737488355328):Ok (Zq3 l x) (fun _=>True):=by
 unfold Zq3
 repeat' first
  | with_reducible refine bd (L158x1 _ _ (by first|assumption|omega|exact And.left (by assumption)|(dsimp only; omega))) fun _ _=>?_
  | with_reducible refine ok ?_
  | split
  | assumption
theorem Yb7 (p:List Z00) (x:Z02) (hp:Z1e p) (hx:Z36 x):Ok (Zd7 p x) (PR p):=by
 have:=hp.len
 unfold Zd7
 repeat' first
  | unfold Znm
  | unfold Ziv
  | unfold Zh8
  | unfold Zoy
  | with_reducible refine br (fun _=>?_) fun _=>?_
  | with_reducible refine bd (Y1q _ _ (by first|exact hx.s|assumption) (by first|exact hx.s|assumption)) fun _ _=>?_
  | with_reducible refine bd (Zhs _ _ (by first|assumption|omega|(dsimp only; omega)|exact And.left (by assumption)|(simp; done)) (by first|assumption|omega|(dsimp only; omega)|exact And.left (by assumption)|(simp; done)) (by first|assumption|omega|(dsimp only; omega)|exact And.left (by assumption)|(simp; done)) (by first|assumption|omega|(dsimp only; omega)|exact And.left (by assumption)|(simp; done))) fun _ _=>?_
  | with_reducible refine bd (Y28 _) fun _ _=>?_
  | with_reducible refine bd (Zta _ _ (by first|exact hx.ref.c|assumption) (by first|exact hx.ref.c|assumption)) fun _ _=>?_
  | with_reducible refine bd (Zi9 _ _ (by first|exact hx.s|assumption) (by first|exact hx.s|assumption)) fun _ _=>?_
  | with_reducible refine bd (Y2c _) fun _ _=>?_
  | with_reducible refine bd (Y8o _ _ _ (by first|exact hx.ref|assumption) (by first|exact hx.ref|assumption)) fun _ _=>?_
  | with_reducible refine ok ?_
  | (first|exact ⟨by first|exact hp|exact And.left (by assumption),by dsimp only; omega,by dsimp only; omega,by dsimp only; omega,by dsimp only; omega⟩|exact ⟨hp,by dsimp only; omega,by dsimp only; omega,by dsimp only; omega,by dsimp only; omega⟩)
theorem Y9p (p:List Z00) (x:Z02) (hp:Z1e p) (hx:Z36 x):Ok (Zdp p x) (fun r=>Z1e r.1∧Z36 r.2.1):=by
 unfold Zdp
 repeat' first
  | unfold Zif
  | unfold Zdc
  | with_reducible refine br! (fun _=>?_) fun _=>?_
  | with_reducible refine brE (fun _=>?_) fun _=>?_
  | with_reducible refine brN (fun _=>?_) fun _=>?_
  | with_reducible refine bd (Zyo _) fun _ _=>?_
  | with_reducible refine bd (Y61 _) fun _ _=>?_
  | with_reducible refine bd (Yad _ (by first|assumption|omega|exact And.left (by assumption)|(dsimp only; omega))) fun _ _=>?_
  | with_reducible refine bd (Y9d _ (by first|assumption|omega|exact And.left (by assumption)|(dsimp only; omega))) fun _ _=>?_
  | with_reducible refine bd (Y46 _) fun _ _=>?_
  | with_reducible refine bd (Y7j _ _ (by first|assumption|omega|exact And.left (by assumption)|(dsimp only; omega))) fun _ _=>?_
  | with_reducible refine bd (Yb7 _ _ (by first|assumption|omega|exact And.left (by assumption)|(dsimp only; omega)) (by first|assumption|omega|exact And.left (by assumption)|(dsimp only; omega))) fun _ _=>?_
  | with_reducible refine ok ?_
  | (first|exact ⟨hp,W0⟩|exact ⟨hp,hx⟩|exact ⟨And.left (by assumption),W0⟩)
theorem Y92 (x:Z0p) (i:Z02) (hp:Z1e x.f_P) (hx:Z36 i):Ok (Zdm x i) (fun r=>Z1e r.1.f_P∧Z36 r.2):=by
 unfold Zdm
 repeat' first
  | with_reducible refine brN (fun _=>?_) fun _=>?_
  | with_reducible refine bd (Y9p _ _ (by first|assumption|omega|exact And.left (by assumption)|(dsimp only; omega)) (by first|assumption|omega|exact And.left (by assumption)|(dsimp only; omega))) fun _ _=>?_
  | with_reducible refine ok ?_
  | (first|exact ⟨hp,W0⟩|(dsimp only; assumption))
end Go.Proofs
set_option linter.unusedVariables false
namespace Go.Proofs
open Go.Den Go.Tot
theorem Yac (l:List Int):(bytesOf l).length=l.length:=by simp [bytesOf]
theorem Y20 {n:Int} (hn:n=1∨n=2∨n=4):Zog n=some true:=by
 rcases hn with rfl|rfl|rfl <;> rfl
theorem L62x1 (x n k:Int) (l:List Int) (hk:k=n - 1) (h0:0≤n) (hl:(l.length:Int)=n) (hn:n≤8):Ok (Z04 Zkp Z05 (x,k,l)) (fun r=>(r.length:Int)=n):=by
 refine lp (fun t=>n - 1 - t.2.1) n (fun t=>(t.2.2.length:Int)=n) (fun t hI h0 h1=>?_) (by omega) hl
 unfold Zkp
 refine brD (fun hlt=>?_) fun hge=>dn hI
 refine bs (bs (bd ik fun j hj=>bd (la (by omega)) fun _ _=>?_))
 refine bd (P:=fun _=>True) ⟨_,by unfold shrK; rw [if_pos (by decide)],trivial⟩ fun _ _=>bd wr fun v hv=>nx ?_
 dsimp only
 rw [List.length_set]; exact hI
theorem Zh2 (x n:Int) (hn:n=1∨n=2∨n=4):Ok (Zb6 x n) (fun r=>(r.1.length:Int)≤n):=by
 have hj:Ok (Zi0 x n) (fun r=>(r.1.length:Int)≤n):=by
  unfold Zi0
  refine bd (mk (by omega) (by omega) (by omega) (by omega)) fun _ _=>bd wr fun k hk=>?_
  exact bd (L62x1 x n k _ hk (by omega) (by simp; omega) (by omega)) fun q hq=>ok (by dsimp only; rw [Yac]; omega)
 unfold Zb6
 rw [Y20 hn]
 refine bs (br! (fun h=>by cases h) fun _=>brD (fun _=>?_) fun _=>hj)
 have hs:∀ y:Int,0≤y→Ok (Z7t .i64 1 y) (fun _=>True):=fun y hy=>⟨_,by unfold Z7t; rw [if_pos hy],trivial⟩
 refine bd wr fun _ _=>bd wr fun _ _=>bd (hs _ (by omega)) fun _ _=>bs (brD (fun _=>ok (by dsimp only; simp; omega)) fun _=>?_)
 exact bd wr fun _ _=>bd (hs _ (by omega)) fun _ _=>bs (brD (fun _=>ok (by dsimp only; simp; omega)) fun _=>hj)
theorem Y4f (x:Int):Ok (Zn4 x) (fun r=>r.length≤2):=bd (Zh2 x 2 (.inr (.inl rfl))) fun v h=>ok (by omega)
theorem Z60 (x:Int):Ok (Z4o x) (fun r=>r.length≤2):=bd (Zh2 x 2 (.inr (.inl rfl))) fun v h=>ok (by omega)
theorem Zu2 (x:Int):Ok (Zim x) (fun r=>r.length≤1):=bd (Zh2 x 1 (.inl rfl)) fun v h=>ok (by omega)
theorem Ybx (x n:Int) (hn:n=1∨n=2∨n=4):Ok (Z5k x n) (fun r=>r.length≤4):=bd (Zh2 x n hn) fun v h=>ok (by omega)
theorem Y81 (s:List UInt8) (a n:Int) (hn:n=1∨n=2∨n=4) (hl:Str s):Ok (Zn0 s a n) (fun e=>e=0→0≤a∧a+n≤s.length):=by
 unfold Zn0
 rw [Y20 hn]
 refine bs (br! (fun h=>by cases h) fun _=>brD (fun _=>ok (by omega)) fun _=>brD (fun _=>ok (by omega)) fun _=>?_)
 unfold Zw3
 exact bd wr fun v hv=>brD (fun _=>ok (by omega)) fun _=>ok (by omega)
def Sg (n v:Int):Prop:=(n=1∧ -128≤v∧v<128)∨(n=2∧ -32768≤v∧v<32768)∨(n=3∧ -8388608≤v∧v<8388608)∨(n=4∧ -2147483648≤v∧v<2147483648)
theorem L134x1 (s : List UInt8) (a n p : Int) (hn:1≤n∧n≤4) (hl:Str s) (h0:0≤a) (h1:a+n≤s.length) (hp: -128≤p∧p<128):Ok (Z04 (Zj2 s a n) Z05 (p,1)) (Sg n):=by
 refine lp (fun t=>t.2) n (fun t=>Sg t.2 t.1) (fun t hI g0 g1=>?_) (by omega) (.inl ⟨rfl,hp⟩)
 unfold Zj2
 unfold Sg at hI
 refine brD (fun hlt => ?_) fun hge => dn (by have:t.2=n:=by omega
                                              rw [← this]; exact hI)
 refine bd wr fun v9 e9=>bd wr fun v10 e10=>bd gs fun v11 e11=>bd wr fun v12 e12=>bd wr fun v13 e13=>bd wr fun v14 e14=>?_
 exact nx (by dsimp only; unfold Sg; omega)
theorem Y1e (s:List UInt8) (a n:Int) (hn:n=1∨n=2∨n=4) (hl:Str s):Ok (Zcn s a n) (fun r=>(r.2=0→0≤a∧a+n≤s.length∧Sg n r.1)∧(r.2≠0→r.1=0)):=by
 unfold Zcn
 refine bd (Y81 s a n hn hl) fun v0 h0=>brN (fun h=>ok ⟨fun h'=>absurd h' h,fun _=>rfl⟩) fun h=>?_
 obtain ⟨k0,k1⟩:=h0 h
 refine bd gs fun v1 h1=>bd wr fun v2 h2=>?_
 have key:∀ p:Int,-128≤p→p<128→Ok (Zco s a n p) (fun r=>(r.2=0→0≤a∧a+n≤s.length∧Sg n r.1)∧(r.2≠0→r.1=0)):=fun p h h'=>by
  unfold Zco
  exact bd (L134x1 s a n p (by omega) hl k0 k1 ⟨h,h'⟩) fun q hq=>ok ⟨fun _=>⟨k0,k1,hq⟩,fun h=>absurd rfl h⟩
 exact brD (fun _=>bd wr fun v3 h3=>key v3 (by omega) (by omega)) fun _=>key v2 (by omega) (by omega)
def Us (n v:Int):Prop:=0≤v∧(n=1→v<256)∧(n=2→v<65536)∧(n=4→v<4294967296)
theorem Zgb (s:List UInt8) (a n:Int) (hn:n=1∨n=2∨n=4) (hl:Str s):Ok (Z6v s a n) (fun r=>(r.2=0→0≤a∧a+n≤s.length)∧Us n r.1):=by
 unfold Z6v
 refine bd (Y1e s a n hn hl) fun v h=>?_
 have h2:=h.2
 refine brE (fun he=>?_) fun he=>ok ⟨fun h'=>absurd h' he,by dsimp only; unfold Us; rw [h2 he]; omega⟩
 obtain ⟨h0,h1,hs⟩:=h.1 he
 unfold Sg at hs
 refine brD (fun _=>brD (fun hneg=>?_) fun hnn=>ok ⟨fun _=>⟨h0,h1⟩,by dsimp only; unfold Us; omega⟩) fun hlt=>absurd hlt (by omega)
 unfold Zv4
 rcases hn with rfl|rfl|rfl
 ·refine bd wr fun v1 e1=>?_
  subst e1
  rw [show Z7t .i64 1 (8*1)=some 256 by decide]
  exact bs (bd wr fun v3 e3=>ok ⟨fun _=>⟨h0,h1⟩,by dsimp only; unfold Us; omega⟩)
 ·refine bd wr fun v1 e1=>?_
  subst e1
  rw [show Z7t .i64 1 (8*2)=some 65536 by decide]
  exact bs (bd wr fun v3 e3=>ok ⟨fun _=>⟨h0,h1⟩,by dsimp only; unfold Us; omega⟩)
 ·refine bd wr fun v1 e1=>?_
  subst e1
  rw [show Z7t .i64 1 (8*4)=some 4294967296 by decide]
  exact bs (bd wr fun v3 e3=>ok ⟨fun _=>⟨h0,h1⟩,by dsimp only; unfold Us; omega⟩)
def Z5r (s:List UInt8) (r:Z1h):Prop:=r.f_S=s∧0≤r.f_At∧r.f_At≤s.length
theorem Z4v (s:List UInt8) (r:Z1h) (n:Int) (hn:n=1∨n=2∨n=4) (hl:Str s) (hr:Z5r s r):Ok (Z3v r n) (fun x=>Us n x.1∧Z5r s x.2):=by
 obtain ⟨h1,h2,h3⟩:=hr
 unfold Z3v
 rw [h1]
 refine bd (Zgb s r.f_At n hn hl) fun v hv=>br (fun _=>ok ⟨by dsimp only; unfold Us; omega,rfl,h2,h3⟩) fun _=>brN (fun _=>ok ⟨by dsimp only; unfold Us; omega,rfl,h2,h3⟩) fun he=>?_
 obtain ⟨k0,k1⟩:=hv.1 he
 exact bd wr fun v1 e1=>ok ⟨hv.2,rfl,by dsimp only; omega,by dsimp only; omega⟩
abbrev SL_:=Int×(List UInt8)×Int×Bool×(List Z0l)
def IL (s:List UInt8) (t:SL_):Prop:=Z5r s ⟨t.2.1,t.2.2.1,t.2.2.2.1⟩∧(t.2.2.2.2.length:Int)=t.1∧∀ v∈t.2.2.2.2,v.Z17.Z0e=[]
def QL (s:List UInt8) (q:(List UInt8)×Int×Bool×(List Z0l)):Prop:=Z5r s ⟨q.1,q.2.1,q.2.2.1⟩∧q.2.2.2.length≤256∧∀ v∈q.2.2.2,v.Z17.Z0e=[]
theorem Z9b {α:Type} {P:α→Prop} {l:List α} {x:α} (h:∀ v∈l,P v) (hx:P x):∀ v∈l++[x],P v:=fun v hv=>by
 rcases List.mem_append.1 hv with hv|hv
 ·exact h v hv
 ·rw [List.mem_singleton.1 hv]; exact hx
theorem Zsw {s:List UInt8} {n p11 p13 p15:Int} {t0:SL_} {v5:Int×Z1h} {p12:List UInt8} {p14:Bool} (hI:IL s t0) (hr:Z5r s ⟨p12,p13,p14⟩) (h0:0≤t0.1) (h1:t0.1<n) (hn:n≤256):Ok (Zdb p11 t0 v5 p12 p13 p14 p15) (St (IL s) (fun t=>t.1) n (QL s) t0):=by
 unfold Zdb
 have:=hI.2.1
 refine bd gk fun _ _=>bd wr fun _ hv=>?_
 exact nx ⟨hr,by simp only [List.length_append,List.length_cons,List.length_nil]; omega,Z9b hI.2.2 rfl⟩
theorem Zxc {s:List UInt8} (hs:Str s) {n p9 p11:Int} {t0:SL_} {v5:Int×Z1h} {p8:List UInt8} {p10:Bool} (hI:IL s t0) (hr:Z5r s ⟨p8,p9,p10⟩) (h0:0≤t0.1) (h1:t0.1<n) (hn:n≤256):Ok (Zgn t0 v5 p8 p9 p10 p11) (St (IL s) (fun t=>t.1) n (QL s) t0):=by
 unfold Zgn
 refine brD (fun _=>brD (fun _=>?_) fun _=>Zsw hI hr h0 h1 hn) fun _=>Zsw hI hr h0 h1 hn
 unfold Zra
 exact bd (Z4v s _ 2 (by omega) hs hr) fun v hv=>Zsw hI hv.2 h0 h1 hn
theorem Y1b (s:List UInt8) (r:Z1h) (hs:Str s) (hr:Z5r s r):Ok (Zfv r) (fun x=>(x.1.length≤256∧∀ v∈x.1,v.Z17.Z0e=[])∧Z5r s x.2):=by
 unfold Zfv
 refine bd (Z4v s r 1 (by omega) hs hr) fun v0 h0=>bd (P:=QL s) ?_ fun q hq=>ok ⟨hq.2,hq.1⟩
 have hu:0≤v0.1∧v0.1<256:=⟨h0.1.1,h0.1.2.1 rfl⟩
 refine lp (fun t=>t.1) v0.1 (IL s) (fun t hI g0 g1=>?_) (by omega) ⟨h0.2,rfl,fun v hv=>by simp at hv⟩
 have hl:=hI.2.1
 have hd:QL s (t.2.1,t.2.2.1,t.2.2.2.1,t.2.2.2.2):=⟨hI.1,by dsimp only at *; omega,hI.2.2⟩
 unfold Zv9
 refine brD (fun hlt=>br! (fun _=>?_) fun _=>dn hd) fun _=>dn hd
 unfold Zt3
 exact bd (Z4v s _ 1 (by omega) hs hI.1) fun v5 h5=>brE (fun _=>bd (Z4v s _ 2 (by omega) hs h5.2) fun v6 h6=>Zxc hs hI h6.2 g0 hlt (by omega)) fun _=>Zxc hs hI h5.2 g0 hlt (by omega)
def RdT {α:Type} (s:List UInt8) (B:Nat) (P:α→Prop) (q:(List UInt8)×Int×Bool×(List α)):Prop:=Z5r s ⟨q.1,q.2.1,q.2.2.1⟩∧q.2.2.2.length≤B∧∀ v∈q.2.2.2,P v
def RdI {α:Type} (s:List UInt8) (P:α→Prop) (t:Int×(List UInt8)×Int×Bool×(List α)):Prop:=Z5r s ⟨t.2.1,t.2.2.1,t.2.2.2.1⟩∧(t.2.2.2.2.length:Int)=t.1∧∀ v∈t.2.2.2.2,P v
theorem rdL {α:Type} {s:List UInt8} {P:α→Prop} {n p2:Int} {p1:List UInt8} {p3:Bool} (hn:0≤n∧n<65536) (hr:Z5r s ⟨p1,p2,p3⟩) {f:Int×(List UInt8)×Int×Bool×(List α)→Option (Ctl (Int×(List UInt8)×Int×Bool×(List α)) ((List UInt8)×Int×Bool×(List α)))}
  (h:∀ t,RdI s P t→0≤t.1→t.1≤n→RdT s 65536 P (t.2.1,t.2.2.1,t.2.2.2.1,t.2.2.2.2)→Ok (f t) (St (RdI s P) (fun t=>t.1) n (RdT s 65536 P) t)):Ok (Z04 f Z05 (0,p1,p2,p3,[])) (RdT s 65536 P):=
 lp (fun t=>t.1) n (RdI s P) (fun t hI g0 g1=>h t hI g0 g1 ⟨hI.1,by have:=hI.2.1; dsimp only at *; omega,hI.2.2⟩) (by omega) ⟨hr,rfl,fun v hv=>by simp at hv⟩ (by dsimp only; omega) hn.1
theorem L152x1 {s:List UInt8} (hs:Str s) {v7:Int×Z1h} (h7:Us 2 v7.1∧Z5r s v7.2):Ok (Z04 (Zkq v7) Z05 (0,v7.2.f_S,v7.2.f_At,v7.2.Z48,[])) (RdT s 65536 fun v=>v.Z17=[]):=by
 refine rdL (n:=v7.1) ⟨h7.1.1,h7.1.2.2.1 rfl⟩ h7.2 fun t hI g0 g1 hd=>?_
 have hl:=hI.2.1
 have:=h7.1.2.2.1 rfl
 unfold Zkq
 refine brD (fun hlt=>br! (fun _=>?_) fun _=>dn hd) fun _=>dn hd
 unfold Zvc
 refine bd (Z4v s _ 2 (by omega) hs hI.1) fun v1 h1=>bd (Z4v s _ 2 (by omega) hs h1.2) fun v2 h2=>bd (Z4v s _ 2 (by omega) hs h2.2) fun v3 h3=>bd (Z4v s _ 2 (by omega) hs h3.2) fun v4 h4=>?_
 refine bd gk fun _ _=>bd wr fun _ hv=>?_
 exact nx ⟨h4.2,by simp only [List.length_append,List.length_cons,List.length_nil]; omega,Z9b hI.2.2 rfl⟩
theorem L152x3 {s:List UInt8} (hs:Str s) {v7:Int×Z1h} (h7:Us 2 v7.1∧Z5r s v7.2):Ok (Z04 (Zqq v7) Z05 (0,v7.2.f_S,v7.2.f_At,v7.2.Z48,[])) (RdT s 65536 fun _=>True):=by
 refine rdL (n:=v7.1) ⟨h7.1.1,h7.1.2.2.1 rfl⟩ h7.2 fun t hI g0 g1 hd=>?_
 have hl:=hI.2.1
 have:=h7.1.2.2.1 rfl
 unfold Zqq
 refine brD (fun hlt=>br! (fun _=>?_) fun _=>dn hd) fun _=>dn hd
 unfold Zvk
 refine bd (Z4v s _ 2 (by omega) hs hI.1) fun v1 h1=>bd (Z4v s _ 2 (by omega) hs h1.2) fun v2 h2=>?_
 refine bd gk fun _ _=>bd wr fun _ hv=>?_
 exact nx ⟨h2.2,by simp only [List.length_append,List.length_cons,List.length_nil]; omega,Z9b hI.2.2 trivial⟩
def RFr (m:Z0t):Prop:=(m.Z1w.Z0c.length≤256∧∀ v∈m.Z1w.Z0c,v.Z17.Z0e=[])∧m.Z1w.Z0m.length≤256∧∀ v∈m.Z1w.Z0m,v.Z17.Z0e=[]
def QM (s:List UInt8) (q:(List UInt8)×Int×Bool×(List Z0t)×(List Int)):Prop:=Z5r s ⟨q.1,q.2.1,q.2.2.1⟩∧q.2.2.2.1.length≤65536∧q.2.2.2.2.length=q.2.2.2.1.length∧∀ v∈q.2.2.2.1,RFr v
def IM (s:List UInt8) (t:Int×(List UInt8)×Int×Bool×(List Z0t)×(List Int)):Prop:=Z5r s ⟨t.2.1,t.2.2.1,t.2.2.2.1⟩∧(t.2.2.2.2.1.length:Int)=t.1∧t.2.2.2.2.2.length=t.2.2.2.2.1.length∧∀ v∈t.2.2.2.2.1,RFr v
theorem L152x2 {s:List UInt8} (hs:Str s) {v7:Int×Z1h} (h7:Us 2 v7.1∧Z5r s v7.2):Ok (Z04 (Znt v7) Z05 (0,v7.2.f_S,v7.2.f_At,v7.2.Z48,[],[])) (QM s):=by
 have:=h7.1.2.2.1 rfl
 have:=h7.1.1
 refine lp (fun t=>t.1) v7.1 (IM s) (fun t hI g0 g1=>?_) (by omega) ⟨h7.2,rfl,rfl,fun v hv=>by simp at hv⟩
 have hl:=hI.2.1
 have hl2:=hI.2.2.1
 have hd:QM s (t.2.1,t.2.2.1,t.2.2.2.1,t.2.2.2.2.1,t.2.2.2.2.2):=⟨hI.1,by dsimp only at *; omega,hI.2.2⟩
 unfold Znt
 refine brD (fun hlt=>br! (fun _=>?_) fun _=>dn hd) fun _=>dn hd
 unfold Zsa
 refine bd (Z4v s _ 2 (by omega) hs hI.1) fun v1 h1=>bd (Z4v s _ 1 (by omega) hs h1.2) fun v2 h2=>bd (Y1b s _ hs h2.2) fun v3 h3=>bd (Y1b s _ hs h3.2) fun v4 h4=>?_
 refine bd gk fun _ _=>?_
 refine bd gk fun _ _=>bd wr fun _ hv=>?_
 exact nx ⟨h4.2,by simp only [List.length_append,List.length_cons,List.length_nil]; omega,by simp only [List.length_append,List.length_cons,List.length_nil]; omega,Z9b hI.2.2.2 ⟨h3.1,h4.1⟩⟩
structure TkOk (s:List UInt8) (t:Z4a):Prop where
 ins:t.f_C.Z0k=[]
 hnd:∀ h∈t.f_C.Z21,h.Z17=[]
 hndL:t.f_C.Z21.length≤65536
 map:∀ m∈t.f_C.Z1s,RFr m
 mapL:t.f_C.Z1s.length≤65536
 raw:t.Zsp.length=t.f_C.Z1s.length
 lin:t.f_C.Z1y.length≤65536
 byt:t.Z2q.length≤s.length
theorem Y8d (s:List UInt8) (hs:Str s):Ok (Zdh s) (fun r=>TkOk s r.1):=by
 unfold Zdh
 refine bd (Z4v s _ 2 (by omega) hs ⟨rfl,by dsimp only; omega,by dsimp only; omega⟩) fun v0 h0=>bd (Z4v s _ 2 (by omega) hs h0.2) fun v1 h1=>bd (Z4v s _ 4 (by omega) hs h1.2) fun v2 h2=>?_
 have h5:Ok (Zcr v0 v1 v2) (fun r=>TkOk s r.1):=by
  unfold Zcr
  exact ok ⟨rfl,fun h hh=>by simp at hh,by simp,fun h hh=>by simp at hh,by simp,rfl,by simp,by simp⟩
 obtain ⟨k1,k2,k3⟩:=h2.2
 have k4:=h2.1.1
 have k5:=h2.1.2.2.2 rfl
 refine br (fun _=>h5) fun _=>bd wr fun v3 h3=>brD (fun _=>h5) fun hle=>?_
 unfold Zm4
 refine bd wr fun v4 h4=>bd (sb (by omega) (by omega) (by omega)) fun v5 h5=>bd wr fun v6 h6=>?_
 refine bd (Z4v s _ 2 (by omega) hs ⟨k1,by dsimp only; omega,by dsimp only; omega⟩) fun v7 h7=>bd (L152x1 hs h7) fun q0 hq0=>bd (Z4v s _ 2 (by omega) hs hq0.1) fun v24 h24=>bd (L152x2 hs h24) fun q2 hq2=>bd (Z4v s _ 2 (by omega) hs hq2.1) fun v44 h44=>bd (L152x3 hs h44) fun q4 hq4=>?_
 exact ok ⟨rfl,hq0.2.2,hq0.2.1,hq2.2.2.2,hq2.2.1,hq2.2.2.1,hq4.2.1,by have:=h5.1; dsimp only; omega⟩
end Go.Proofs
set_option linter.unusedVariables false
namespace Go.Proofs
open Go.Den Go.Tot
theorem is_eq (x:Int):Zbs x=some (decide (0≤x∧x<81)):=by
 unfold Zbs
 by_cases h:x≥0
 ·rw [if_pos (by simpa using h)]; congr 1; simp [h]
 ·rw [if_neg (by simpa using h)]; congr 1; simp; omega
theorem Ztc (x a b:Int):Z7p x a b=some (decide (a≤x∧x≤b)):=by
 unfold Z7p
 by_cases h:x≥a
 ·rw [if_pos (by simpa using h)]; congr 1; simp [h]
 ·rw [if_neg (by simpa using h)]; congr 1; simp; omega
def KindP (x k:Int):Prop:=(k=3↔36≤x∧x≤52)∧(k=6↔x=53)∧(k=7↔x=54)∧(k= -1↔ ¬(0≤x∧x<81))∧ -1≤k∧k≤7
theorem Zh4 (x:Int):Ok (Z7x x) (KindP x):=by
 unfold Z7x Zo4 Zkb
 simp only [is_eq,Ztc]
 unfold KindP
 repeat' first
  | with_reducible refine br! (fun _=>?_) fun _=>?_
  | with_reducible refine brD (fun _=>?_) fun _=>?_
  | with_reducible refine brE (fun _=>?_) fun _=>?_
  | with_reducible refine bs ?_
  | with_reducible refine ok ?_
  | (have h0:=of_decide_eq_true (by assumption:decide (0≤x∧x<81)=true); refine ⟨?_,?_,?_,?_,?_,?_⟩ <;> omega)
  | (have h0:=of_decide_eq_false (by assumption:decide (0≤x∧x<81)=false); refine ⟨?_,?_,?_,?_,?_,?_⟩ <;> omega)
theorem Y50 (x:Int):Ze5 x=some (decide (36≤x∧x≤54)):=by
 unfold Ze5; rw [Ztc]; rfl
theorem Y7v (x:Z02) (hx:Z36 x):Ok (Z04 (Zeb x) Z05 0) (fun q=>match q with|.inl _=>∀ v∈x.Z0d,0≤v∧v<1000|.inr b=>b=false):=by
 have:=hx.tos
 refine lp (fun t=>t) x.Z0d.length (fun t=>∀ (j:Nat) v,(j:Int)<t→x.Z0d[j]?=some v→0≤v∧v<1000) (fun t hI h0 h1=>?_) (by omega) (fun j v h=>by omega) (by omega) (by omega)
 unfold Zeb
 refine brD (fun hlt=>?_) fun hge=>dn fun v hv=>?_
 ·obtain ⟨y,hy,hm,hi⟩:=gri (l:=x.Z0d) (i:=t) (by omega) hlt
  rw [hy]
  refine bs (brD (fun _=>dn rfl) fun _=>bs (brD (fun _=>dn rfl) fun _=>bd wr fun v2 h2=>nx (fun j v hj hv=>?_) (by omega) (by omega)))
  rcases Int.lt_or_le (j:Int) t with hlt|hge
  ·exact hI j v hlt hv
  ·have:j=t.toNat:=by omega
   subst this
   rw [hi] at hv; cases hv
   omega
 ·obtain ⟨j,hj⟩:=List.mem_iff_getElem?.1 hv
  exact hI j v (by have:=(List.getElem?_eq_some_iff.1 hj).1; omega) hj
theorem aims_ok (x:Z02) (hx:Z36 x):Ok (Z9m x) (fun b=>b=true→0≤x.f_To∧x.f_To<1000∧∀ v∈x.Z0d,0≤v∧v<1000):=by
 unfold Z9m
 refine brD (fun _=>ok fun h=>by cases h) fun _=>brD (fun _=>ok fun h=>by cases h) fun _=>?_
 unfold Zq8
 refine bd (Y7v x hx) fun q hq=>?_
 cases q with
 | inl _=>exact ok fun _=>⟨by omega,by omega,hq⟩
 | inr b=>exact ok fun h=>by cases hq.symm.trans h
theorem keys_ok (x:Z02) (hx:Z36 x):Ok (Zf0 x) (fun e=>e=0→(x.f_Op=53→1≤x.Z0d.length∧x.Z0d.length≤64)∧(x.f_Op≠53→x.Z12.length≤64∧x.Z0d.length=x.Z12.length)):=by
 have:=hx.tos
 have:=hx.keys
 unfold Zf0 Zln Zjt
 refine brE (fun _=>brE (fun _=>ok (by omega)) fun _=>brD (fun _=>ok (by omega)) fun _=>bd (Zsv _) fun v h=>br! (fun _=>ok (by omega)) fun _=>bd wr fun _ _=>bd wr fun _ _=>brD (fun _=>ok (by omega)) fun _=>ok (by omega)) fun _=>?_
 refine brD (fun _=>ok (by omega)) fun _=>brN (fun _=>ok (by omega)) fun _=>bd (Y6b x hx) fun q _=>?_
 have h:∀ e:Int,Ok (some e) (fun e=>e=0→(x.f_Op=53→1≤x.Z0d.length∧x.Z0d.length≤64)∧(x.f_Op≠53→x.Z12.length≤64∧x.Z0d.length=x.Z12.length)):=fun e=>ok fun _=>⟨by omega,by omega⟩
 cases q with
 | inl _ => refine bd (Zwi x hx) fun q _=>?_
            cases q <;> exact h _
 | inr _=>exact h _
structure Z50 (x:Z02):Prop where
 op:0≤x.f_Op∧x.f_Op<81
 tab:x.f_Op=53→1≤x.Z0d.length∧x.Z0d.length≤64
 look:x.f_Op=54→x.Z12.length≤64∧x.Z0d.length=x.Z12.length
 aim:36≤x.f_Op→x.f_Op≤54→0≤x.f_To∧∀ v∈x.Z0d,0≤v
 few:x.f_Op≠53→x.f_Op≠54→x.Z0d=[]
theorem used_ok (x:Z02) (k:Int):Ok (Zdv x k) (fun b=>b=true→k≠6→k≠7→x.Z0d.length=0):=by
 unfold Zdv Zl9 Zfq Zgk
 repeat' first
  | with_reducible refine br! (fun _=>?_) fun _=>?_
  | with_reducible refine brE (fun _=>?_) fun _=>?_
  | with_reducible refine brN (fun _=>?_) fun _=>?_
  | with_reducible refine ok ?_
  | (intro hb h6 h7; first|(cases hb; done)|(simp only [beq_iff_eq] at *; omega))
theorem Zg4 (x:Z02) (hx:Z36 x):Ok (Z6b x) (fun e=>e=0→Z50 x):=by
 unfold Z6b
 refine bd (Zh4 x.f_Op) fun k hk=>brD (fun _=>ok (by omega)) fun hk0=>bd (used_ok x k) fun b hb=>br! (fun _=>ok (by omega)) fun hu=>?_
 obtain ⟨k3,k6,k7,km,k0,k1⟩:=hk
 have hfew:=hb hu
 have h5:(k=6∨k=7)→(0≤x.f_To∧∀ v∈x.Z0d,0≤v)→Ok (Ze2 x) (fun e=>e=0→Z50 x):=fun h ha=>by
  unfold Ze2
  exact bd (keys_ok x hx) fun v hv=>ok fun he=>⟨by omega,fun h=>(hv he).1 h,fun h=>(hv he).2 (by omega),fun _ _=>ha,fun _ _=>by omega⟩
 have h4:(k=3∨k=6∨k=7→0≤x.f_To∧∀ v∈x.Z0d,0≤v)→Ok (Zb1 k x) (fun e=>e=0→Z50 x):=fun ha=>by
  unfold Zb1
  exact brE (fun h=>h5 (.inl h) (ha (.inr (.inl h)))) fun h6=>brE (fun h=>h5 (.inr h) (ha (.inr (.inr h)))) fun h7=>ok fun _=>⟨by omega,by omega,by omega,fun h h'=>ha (by omega),fun _ _=>List.eq_nil_of_length_eq_zero (hfew h6 h7)⟩
 have ha:Ok (Z9m x) (fun b=>b=true→0≤x.f_To∧∀ v∈x.Z0d,0≤v):=(aims_ok x hx).mono fun b h hb=>⟨(h hb).1,fun v hv=>((h hb).2.2 v hv).1⟩
 have h3:Ok (Zf5 k x) (fun e=>e=0→Z50 x):=by
  unfold Zf5
  refine brE (fun _=>bd ha fun b hb=>br! (fun _=>ok (by omega)) fun h=>h4 fun _=>hb h) fun h3=>brE (fun _=>bd ha fun b hb=>br! (fun _=>ok (by omega)) fun h=>h4 fun _=>hb h) fun h6=>brE (fun _=>bd ha fun b hb=>br! (fun _=>ok (by omega)) fun h=>h4 fun _=>hb h) fun h7=>h4 fun h=>by omega
 have h2:Ok (Zbn k x) (fun e=>e=0→Z50 x):=by
  unfold Zbn
  exact brE (fun _=>brD (fun _=>ok (by omega)) fun _=>brD (fun _=>ok (by omega)) fun _=>h3) fun _=>h3
 have h1:Ok (Zb3 k x) (fun e=>e=0→Z50 x):=by
  unfold Zb3
  exact brE (fun _=>brD (fun _=>ok (by omega)) fun _=>brD (fun _=>ok (by omega)) fun _=>h2) fun _=>brE (fun _=>brD (fun _=>ok (by omega)) fun _=>brD (fun _=>ok (by omega)) fun _=>h2) fun _=>h2
 repeat' first
  | exact h1
  | with_reducible refine brE (fun _=>?_) fun _=>?_
  | with_reducible refine brD (fun _=>?_) fun _=>?_
  | exact ok (by omega)
theorem Y0y (x:Int):Ok (Zj9 x) (fun n=>0≤n∧n≤3∧(0≤x→x<81→x≠53→x≠54→1≤n)):=by
 unfold Zj9 Zs0 Zuy Zt4
 refine bd (Zh4 x) fun k hk=>?_
 obtain ⟨k3,k6,k7,km,k0,k1⟩:=hk
 repeat' first
  | with_reducible refine brE (fun _=>?_) fun _=>?_
  | with_reducible refine ok ?_
  | exact ⟨by omega,by omega,by omega⟩
theorem Y1z (x:Z02) (hx:Z36 x) (hc:Z50 x):Ok (Zlk x) (fun n=>0≤n∧n≤400):=by
 have:=hx.tos
 have:=hx.keys
 have:=hc.tab
 have:=hc.look
 unfold Zlk
 exact brE (fun _=>bd wr fun _ _=>bd wr fun _ _=>ok (by omega)) fun _=>brE (fun _=>bd wr fun _ _=>bd wr fun _ _=>ok (by omega)) fun _=>bd (Y0y _) fun n hn=>ok (by omega)
theorem L60x1 (l:List Z02) (hl:∀ i∈l,Z36 i) (hn:l.length≤140737488355328):Ok (Z04 (Zdg l) Z05 0) (fun q=>match q with|.inl _=>∀ i∈l,Z50 i|.inr y=>y.2≠0∧y.1=[]):=by
 refine lp (fun t=>t) l.length (fun t=>∀ (j:Nat) v,(j:Int)<t→l[j]?=some v→Z50 v) (fun t hI h0 h1=>?_) (by omega) (fun j v h=>by omega) (by omega) (by omega)
 unfold Zdg
 refine brD (fun hlt=>?_) fun hge=>dn fun v hv=>?_
 ·refine bd gri fun i hi=>bd (Zg4 i (hl i hi.1)) fun e he=>brN (fun h=>dn ⟨h,rfl⟩) fun h=>bd wr fun v2 h2=>nx (fun j v hj hv=>?_) (by omega) (by omega)
  rcases Int.lt_or_le (j:Int) t with hlt|hge
  ·exact hI j v hlt hv
  ·have:j=t.toNat:=by omega
   subst this
   rw [hi.2] at hv; cases hv
   exact he h
 ·obtain ⟨j,hj⟩:=List.mem_iff_getElem?.1 hv
  exact hI j v (by have:=(List.getElem?_eq_some_iff.1 hj).1; omega) hj
theorem Zrf (l:List Z02) (hl:∀ i∈l,Z36 i) (hn:l.length≤140737488355328):Ok (Z7i l) (fun r=>(r.2=0→r.1.length=l.length+1∧l.length≤1000∧∀ i∈l,Z50 i)∧r.1.length≤1001):=by
 unfold Z7i
 refine bd (L60x1 l hl hn) fun q hq=>?_
 cases q with
 | inr y=>exact ok ⟨fun h=>absurd h hq.1,by rw [hq.2]; simp⟩
 | inl _=>
  refine brD (fun _=>ok ⟨by omega,by simp⟩) fun hs=>?_
  refine bd (P:=fun r=>r.length=l.length+1) ?_ fun q2 hq2=>bd ik fun j hj=>bd (la (by omega)) fun _ _=>brD (fun _=>ok ⟨by omega,by simp⟩) fun _=>ok ⟨fun _=>⟨hq2,by omega,hq⟩,by dsimp only; omega⟩
  refine lp (fun t=>t.1) l.length (fun t=>(t.2.length:Int)=t.1+1∧∀ v∈t.2,0≤v∧v≤400*t.1) (fun t hI h0 h1=>?_) (by omega) ⟨rfl,by simp⟩
  obtain ⟨hI1,hI2⟩:=hI
  unfold Zlb
  refine brD (fun hlt=>?_) fun hge=>dn (by omega)
  refine bd ik fun j hj=>bd (la (by omega)) fun v hv=>bd gr fun i hi=>bd (Y1z i (hl i hi) (hq i hi)) fun n hn=>?_
  have hv2:=hI2 v hv.2
  refine bd wr fun w hw=>bd gk fun _ _=>bd wr fun k hk=>?_
  refine nx ⟨by simp only [List.length_append,List.length_cons,List.length_nil]; omega,Z9b (fun v hv=>?_) ?_⟩
  ·have:=hI2 v hv; dsimp only; omega
  ·dsimp only; omega
theorem Z89 (s:List UInt8) (a n:Int) (hn:n=1∨n=2∨n=4) (hs:Str s):Ok (Z7d s a n) (Us n):=bd (Zgb s a n hn hs) fun v h=>ok h.2
theorem Zk4 (s:List UInt8) (a n:Int) (hn:n=1∨n=2∨n=4) (hs:Str s):Ok (Zdr s a n) (fun _=>True):=bd (Y1e s a n hn hs) fun v h=>ok trivial
theorem need_ok (s:List UInt8) (a op:Int) (hs:Str s) (h0:0≤a) (h1:a≤s.length) (ho:0≤op) (h81:op<81):Ok (Zhq s a op) (fun n=>n<0∨(1≤n∧a+n≤s.length)):=by
 have h4:∀ p:Int,1≤p→p≤1000000→Ok (Zj8 s a p) (fun n=>n<0∨(1≤n∧a+n≤s.length)):=fun p hp hp'=>by
  unfold Zj8
  exact bd wr fun v hv=>brD (fun _=>ok (by omega)) fun _=>ok (by omega)
 have h2:∀ p q:Int,5≤p→p≤9→0≤q→q≤6→Ok (Zhl s a p q) (fun n=>n<0∨(1≤n∧a+n≤s.length)):=fun p q hp hp' hq hq'=>by
  unfold Zhl Zrz
  refine bd wr fun v1 e1=>bd wr fun v2 e2=>bd (Zgb s v2 2 (by omega) hs) fun v3 e3=>bd wr fun v4 e4=>brD (fun _=>ok (by omega)) fun _=>brN (fun _=>ok (by omega)) fun _=>?_
  have hu:=e3.2.2.2.1 rfl
  have hu0:=e3.2.1
  have hm:0≤q*v3.1∧q*v3.1≤6*65536:=⟨Int.mul_nonneg hq hu0,Int.le_trans (Int.mul_le_mul_of_nonneg_right hq' hu0) (by omega)⟩
  exact bd wr fun v5 e5=>bd wr fun v6 e6=>h4 v6 (by omega) (by omega)
 unfold Zhq Zmt
 exact bd (Y0y op) fun n hn=>brE (fun _=>brE (fun _=>h2 5 6 (by omega) (by omega) (by omega) (by omega)) fun _=>h2 9 2 (by omega) (by omega) (by omega) (by omega)) fun _=>brE (fun _=>brE (fun _=>h2 5 6 (by omega) (by omega) (by omega) (by omega)) fun _=>h2 9 2 (by omega) (by omega) (by omega) (by omega)) fun _=>h4 n (by omega) (by omega)
theorem L164x1 (n:Int) (s:List UInt8) (a:Int) (hs:Str s) (h0:0≤a) (h1:a≤s.length) (hn:0≤n) (hn':n<65536):Ok (Z04 (Zma n s a) Z05 (0,([]:List Int))) (fun r=>r.length≤65536):=by
 refine lp (fun t=>t.1) n (fun t=>(t.2.length:Int)=t.1) (fun t hI g0 g1=>?_) (by omega) rfl
 unfold Zma
 refine brD (fun hlt=>bd wr fun v1 e1=>bd wr fun v2 e2=>bd wr fun v3 e3=>bd (Z89 s v3 2 (by omega) hs) fun v4 e4=>?_) fun _=>dn (by omega)
 exact bd gk fun _ _=>bd wr fun k hk=>nx (by simp only [List.length_append,List.length_cons,List.length_nil]; omega)
theorem L164x2 (n:Int) (s:List UInt8) (a:Int) (hs:Str s) (h0:0≤a) (h1:a≤s.length) (hn:0≤n) (hn':n<65536):Ok (Z04 (Zkt n s a) Z05 (0,([]:List Int),([]:List Int))) (fun r=>r.1.length≤65536∧r.2.length≤65536):=by
 refine lp (fun t=>t.1) n (fun t=>(t.2.1.length:Int)=t.1∧(t.2.2.length:Int)=t.1) (fun t hI g0 g1=>?_) (by omega) ⟨rfl,rfl⟩
 unfold Zkt
 refine brD (fun hlt=>bd wr fun v1 e1=>bd wr fun v2 e2=>bd wr fun v3 e3=>bd (Zk4 s v3 4 (by omega) hs) fun v4 e4=>?_) fun _=>dn (by dsimp only at *; omega)
 refine bd gk fun _ _=>bd wr fun _ _=>bd wr fun _ _=>bd wr fun v5 _=>bd (Z89 s v5 2 (by omega) hs) fun _ _=>?_
 exact bd gk fun _ _=>bd wr fun k hk=>nx (by simp only [List.length_append,List.length_cons,List.length_nil]; omega)
def TkI (i:Z02):Prop:=i.Z12.length≤65536∧i.Z0d.length≤65536∧i.Z1l={ Z0y:=[],Z0e:=[],Z1p:=[] }∧i.f_S=[]
theorem TkI.w {i:Z02} (h:TkI i):Z36 i:=⟨by have:=h.1; omega,by have:=h.2.1; omega,by rw [h.2.2.1]; exact ⟨by simp,by simp,by simp⟩,by rw [h.2.2.2]; simp⟩
theorem take_ok (s:List UInt8) (a op:Int) (hs:Str s) (h0:0≤a) (h1:a≤s.length):Ok (Znh s a op) TkI:=by
 unfold Znh
 have z:∀ x y w v,TkI { f_Op:=x,f_A:=y,f_B:=w,f_To:=v,Z12:=[],Z0d:=[],Z1l:={ Z0y:=[],Z0e:=[],Z1p:=[] },f_S:=[] }:=fun _ _ _ _=>⟨by simp,by simp,rfl,rfl⟩
 refine bd (Zh4 op) fun k _=>brE (fun _=>?_) fun _=>brE (fun _=>?_) fun _=>brE (fun _=>?_) fun _=>brE (fun _=>?_) fun _=>brE (fun _=>?_) fun _=>brE (fun _=>?_) fun _=>brE (fun _=>?_) fun _=>ok (z _ _ _ _)
 ·exact bd wr fun _ _=>bd (Zk4 s _ 1 (by omega) hs) fun _ _=>ok (z _ _ _ _)
 ·exact bd wr fun _ _=>bd (Z89 s _ 2 (by omega) hs) fun _ _=>ok (z _ _ _ _)
 ·exact bd wr fun _ _=>bd (Z89 s _ 2 (by omega) hs) fun _ _=>ok (z _ _ _ _)
 ·exact bd wr fun _ _=>bd (Z89 s _ 1 (by omega) hs) fun _ _=>ok (z _ _ _ _)
 ·exact bd wr fun _ _=>bd (Z89 s _ 1 (by omega) hs) fun _ _=>bd wr fun _ _=>bd (Zk4 s _ 1 (by omega) hs) fun _ _=>ok (z _ _ _ _)
 ·refine bd wr fun _ _=>bd (Z89 s _ 2 (by omega) hs) fun _ _=>bd wr fun _ _=>bd (Zk4 s _ 4 (by omega) hs) fun _ _=>bd wr fun _ _=>bd (Z89 s _ 2 (by omega) hs) fun n hn=>?_
  exact bd (L164x1 n s a hs h0 h1 hn.1 (hn.2.2.1 rfl)) fun q hq=>ok ⟨by simp,hq,rfl,rfl⟩
 ·refine bd wr fun _ _=>bd (Z89 s _ 2 (by omega) hs) fun _ _=>bd wr fun _ _=>bd (Z89 s _ 2 (by omega) hs) fun n hn=>?_
  exact bd (L164x2 n s a hs h0 h1 hn.1 (hn.2.2.1 rfl)) fun q hq=>ok ⟨hq.1,hq.2,rfl,rfl⟩
theorem Y6a (l:List Int) (x:Int) (hl:l.length≤140737488355328):Ok (Zd9 l x) (fun k=>k<l.length):=by
 unfold Zd9
 refine bd (P:=fun q:Unit⊕Int=>match q with|.inl _=>True|.inr y=>y<l.length) (li l.length (fun t h0 h1=>?_) (by omega) (by omega) (by omega)) fun q hq=>?_
 ·unfold Zwd
  exact brD (fun _=>bd gr fun v _=>br (fun _=>di (by assumption)) fun _=>bd wr fun _ _=>ni (by omega) (by omega)) fun _=>di trivial
 ·cases q with
  | inl _=>exact ok (by omega)
  | inr y=>exact ok hq
theorem L153x1 (s:List UInt8) (hs:s.length≤20000):Ok (Z04 (Zg8 s) Z05 (0,([]:List Z02),([]:List Int))) (fun q=>match q with|.inl q=>(∀ i∈q.1,TkI i)∧q.1.length≤20000∧q.2.length≤20000|.inr y=>y.2≠0):=by
 refine lp (fun t=>t.1) s.length (fun t=>(∀ i∈t.2.1,TkI i)∧(t.2.1.length:Int)≤t.1∧(t.2.2.length:Int)≤t.1) (fun t hI h0 h1=>?_) (by omega) ⟨Z51,by simp,by simp⟩
 obtain ⟨hI1,hI2,hI3⟩:=hI
 unfold Zg8
 refine brD (fun hlt=>?_) fun _=>dn ⟨hI1,by dsimp only at *; omega,by dsimp only at *; omega⟩
 refine bd gs fun v hv=>bd wr fun op hop=>brD (fun _=>dn (by simp)) fun _=>bd (need_ok s t.1 op (by unfold Str; omega) h0 (by omega) (by omega) (by omega)) fun n hn=>brD (fun _=>dn (by simp)) fun _=>?_
 refine bd (take_ok s t.1 op (by unfold Str; omega) h0 (by omega)) fun i hi=>?_
 refine bd gk fun _ _=>?_
 refine bd gk fun _ _=>bd wr fun k hk=>?_
 exact nx ⟨Z9b hI1 hi,by simp only [List.length_append,List.length_cons,List.length_nil]; omega,by simp only [List.length_append,List.length_cons,List.length_nil]; omega⟩
theorem L153x3 (ps:List Int) (l:List Int) (hp:ps.length≤20000) (hl:l.length≤65536):Ok (Z04 (Zb2 ps l.length) Z05 (0,l)) (fun q=>match q with|.inl r=>r.length=l.length|.inr y=>y.2≠0):=by
 refine lp (fun t=>t.1) l.length (fun t=>t.2.length=l.length) (fun t hI h0 h1=>?_) (by omega) rfl
 unfold Zb2
 refine brD (fun hlt=>?_) fun _=>dn hI
 refine bd ik fun j hj=>bd (la (by omega)) fun v hv=>bd (Y6a ps v (by omega)) fun y hy=>bd (la (by rw [List.length_set]; omega)) fun z hz=>brD (fun _=>dn (by simp)) fun _=>bd wr fun k hk=>?_
 exact nx (by dsimp only; rw [List.length_set]; exact hI)
theorem L153x2 (ps:List Int) (l:List Z02) (hp:ps.length≤20000) (hl:∀ i∈l,TkI i) (hn:l.length≤20000):Ok (Z04 (Zia ps) Z05 (0,l)) (fun q=>match q with|.inl r=>(∀ i∈r,TkI i)∧r.length=l.length|.inr y=>y.2≠0):=by
 refine lp (fun t=>t.1) l.length (fun t=>(∀ i∈t.2,TkI i)∧t.2.length=l.length) (fun t hI h0 h1=>?_) (by omega) ⟨hl,rfl⟩
 obtain ⟨hI1,hI2⟩:=hI
 unfold Zia
 refine brD (fun hlt=>?_) fun _=>dn ⟨hI1,hI2⟩
 refine bd ik fun j hj=>bd (la (by omega)) fun v hv=>?_
 rw [Y50]
 refine bs (br! (fun _=>bd wr fun k hk=>nx ⟨hI1,hI2⟩) fun _=>?_)
 have hi:=hI1 v hv.2
 refine bd (Y6a ps _ (by omega)) fun y hy=>brD (fun _=>dn (by simp)) fun _=>bd (L153x3 ps v.Z0d hp hi.2.1) fun q hq=>?_
 cases q with
 | inr y=>exact dn hq
 | inl r=>
  refine bd wr fun k hk=>nx ⟨fun i hi'=>?_,by dsimp only; rw [List.length_set]; exact hI2⟩
  rcases List.mem_or_eq_of_mem_set hi' with h|rfl
  ·exact hI1 i h
  ·exact ⟨hi.1,by have:=hi.2.1; dsimp only at *; omega,hi.2.2.1,hi.2.2.2⟩
theorem dec_ok (s:List UInt8):Ok (Zew s) (fun r=>r.2=0→(∀ i∈r.1,TkI i)∧r.1.length≤20000):=by
 unfold Zew
 refine brD (fun _=>ok (by simp)) fun hs=>bd (L153x1 s (by omega)) fun q hq=>?_
 cases q with
 | inr y=>exact ok fun h=>absurd h hq
 | inl q=>
  obtain ⟨h1,h2,h3⟩:=hq
  refine brD (fun _=>ok (by simp)) fun _=>bd (L153x2 q.2 q.1 h3 h1 h2) fun q7 hq7=>?_
  cases q7 with
  | inr y=>exact ok fun h=>absurd h hq7
  | inl l=>
   obtain ⟨k1,k2⟩:=hq7
   refine bd (P:=fun q:Unit⊕(List Z02×Int)=>match q with|.inl _=>True|.inr y=>y.2≠0) (li l.length (fun t h0 h1=>?_) (by omega) (by omega) (by omega)) fun q9 hq9=>?_
   ·unfold Zo2
    exact brD (fun _=>bd ik fun j hj=>bd (la (by omega)) fun v hv=>bd (Zg4 v (k1 v hv.2).w) fun e _=>brN (fun h=>di h) fun _=>bd wr fun _ _=>ni (by omega) (by omega)) fun _=>di trivial
   ·cases q9 with
    | inl _=>exact ok fun _=>⟨k1,by dsimp only; omega⟩
    | inr y=>exact ok fun h=>absurd h hq9
end Go.Proofs
set_option linter.unusedVariables false
namespace Go.Proofs
open Go.Den Go.Tot
theorem runeLen (n:Int):(Zuz n).length≤4:=by
 unfold Zuz Utf8.encode
 dsimp only
 repeat' split
 all_goals simp [ByteArray.push]
theorem Zp1 (y:Z0i) (ht:Str y.Z0e):Ok (Z93 y) (fun b=>b=true→0≤y.Z11∧y.Z11≤8∧y.Z0e.length≤64):=by
 unfold Z93
 repeat' first
  | unfold Zm5
  | unfold Zkn
  | unfold Znx
  | with_reducible refine brD (fun _=>?_) fun _=>?_
  | with_reducible refine br (fun _=>?_) fun _=>?_
  | with_reducible refine bd (Zmi _ (by first|assumption|omega|exact And.left (by assumption)|(dsimp only; omega))) fun _ _=>?_
  | with_reducible refine ok ?_
  | ((intro hb; first|(cases hb; done)|exact ⟨by omega,by omega,by simp_all⟩))
theorem L136x1 (y:Z0i) (h0:0≤y.Z11) (h8:y.Z11≤8):Ok (Z04 (Zmu y) Z05 ([],0)) (fun r=>r.length≤8):=by
 refine lp (fun s=>s.2) (y.Z11) (fun s=>(s.1.length:Int)=s.2) (fun t hI _ _=>?_) (by omega) (by simp) (by omega) (by omega)
 try dsimp only at*
 unfold Zmu
 repeat' first
  | with_reducible refine nx ?_ ?_ ?_
  | with_reducible refine dn ?_
  | with_reducible refine brD (fun _=>?_) fun _=>?_
  | with_reducible refine bd wr fun _ _=>?_
  | with_reducible refine bd (ct (by first|omega|(simp only [List.length_cons,List.length_nil]; omega))) fun _ _=>?_
  | ((simp only [*,List.length_append,List.length_cons,List.length_nil]; omega))
  | omega
theorem Y7t (y:Z0i) (ht:Str y.Z0e):Ok (Zoz y) (fun r=>r.1.length≤100):=by
 have:=runeLen (IntKind.wrap .i32 y.Z15)
 unfold Zoz
 repeat' first
  | with_reducible refine bd (Zp1 _ ht) fun _ hv=>?_
  | with_reducible refine br! (fun _=>?_) fun hb=>?_
  | with_reducible refine bd (L136x1 _ (hv hb).1 (hv hb).2.1) fun _ _=>?_
  | with_reducible refine brE (fun _=>?_) fun _=>?_
  | with_reducible refine bd (ct (by have:=(hv hb).2.2; first|omega|(simp only [List.length_cons,List.length_nil]; omega))) fun _ _=>?_
  | with_reducible refine bs ?_
  | with_reducible refine ok ?_
  | (first|(simp; done)|(dsimp only; have:=(hv hb).2.2; simp only [List.length_cons,List.length_nil] at *; omega))
  | (dsimp only; omega)
theorem L106x1 (p:List Z00) (e:Int) (l:List Z0l) (hp:Z1e p) (hl:∀ v∈l,Str v.Z17.Z0e) (hn:l.length*56≤140737488355328):Ok (Z04 (Zj1 l) Z05 (0,p,e,([]:List Z0l))) (fun q=>Z1e q.1∧(∀ v∈q.2.2,Str v.Z17.Z0e)∧q.2.2.length=l.length):=by
 refine lp (fun t=>t.1) (l.length) (fun t=>Z1e t.2.1∧(∀ v∈t.2.2.2,Str v.Z17.Z0e)∧(t.2.2.2.length:Int)=t.1) (fun t hI _ _=>?_) (by omega) (by exact ⟨hp,Z51,rfl⟩) (by omega) (by omega)
 try dsimp only at*
 unfold Zj1
 obtain ⟨hI1,hI2,hI3⟩:=hI
 repeat' first
  | with_reducible refine nx ?_ ?_ ?_
  | with_reducible refine dn ?_
  | unfold Zci
  | unfold Z8g
  | with_reducible refine brD (fun _=>?_) fun _=>?_
  | with_reducible refine brE (fun _=>?_) fun _=>?_
  | with_reducible refine bd gr fun _ _=>?_
  | with_reducible refine bd wr fun _ _=>?_
  | with_reducible refine bd gk fun _ _=>?_
  | with_reducible refine bd (Y7t _ (by exact hl _ (by assumption))) fun _ _=>?_
  | with_reducible refine bd (Z8p _ _ (by first|assumption|omega) (by first|assumption|omega)) fun _ _=>?_
  | (first|exact Z7j hI2 (by first|exact hl _ (by assumption)|exact Nat.zero_le _))
  | with_reducible refine And.intro ?_ ?_
  | (simp only [List.length_set,List.length_append,List.length_cons,List.length_nil,List.length_replicate]; omega)
theorem Y3z (x:Z0p) (l:List Z0l) (hp:Z1e x.f_P) (hl:∀ v∈l,Str v.Z17.Z0e) (hn:l.length*56≤140737488355328):Ok (Zbm x l) (fun r=>Z1e r.1.f_P∧(∀ v∈r.2,Str v.Z17.Z0e)∧r.2.length=l.length):=by
 unfold Zbm
 repeat' first
  | with_reducible refine bd (L106x1 _ _ _ (by first|assumption|omega|exact And.left (by assumption)|(dsimp only; omega)) (by first|assumption|omega|exact And.left (by assumption)|(dsimp only; omega)) (by first|assumption|omega|exact And.left (by assumption)|(dsimp only; omega))) fun _ _=>?_
  | with_reducible refine ok ?_
  | assumption
  | (obtain ⟨_,_⟩:=‹_∧_›)
theorem L78x1 (p:List Z00) (e:Int) (c:Z09) (hp:Z1e p) (hc:Z5v c):Ok (Z04 (Zfs c) Z05 (0,p,e,([]:List Z02))) (fun q=>Z1e q.1∧(∀ v∈q.2.2,Z36 v)∧q.2.2.length=c.Z0k.length):=by
 have:=hc.insL
 refine lp (fun t=>t.1) (c.Z0k.length) (fun t=>Z1e t.2.1∧(∀ v∈t.2.2.2,Z36 v)∧(t.2.2.2.length:Int)=t.1) (fun t hI _ _=>?_) (by omega) (by exact ⟨hp,Z51,rfl⟩) (by omega) (by omega)
 try dsimp only at*
 unfold Zfs
 obtain ⟨hI1,hI2,hI3⟩:=hI
 repeat' first
  | with_reducible refine nx ?_ ?_ ?_
  | with_reducible refine dn ?_
  | with_reducible refine brD (fun _=>?_) fun _=>?_
  | with_reducible refine bd gr fun _ _=>?_
  | with_reducible refine bd wr fun _ _=>?_
  | with_reducible refine bd gk fun _ _=>?_
  | with_reducible refine bd (Y92 _ _ (by first|assumption|exact hc.ins _ (by assumption)) (by first|assumption|exact hc.ins _ (by assumption))) fun _ _=>?_
  | (exact Z7j hI2 (And.right (by assumption)))
  | with_reducible refine And.intro ?_ ?_
  | (simp only [List.length_set,List.length_append,List.length_cons,List.length_nil,List.length_replicate]; omega)
  | (obtain ⟨_,_⟩:=‹_∧_›)
theorem L78x2 (p:List Z00) (e:Int) (c:Z09) (hp:Z1e p) (hc:Z5v c):Ok (Z04 (Zhe c) Z05 (0,p,e,([]:List Z0r))) (fun q=>Z1e q.1∧(∀ v∈q.2.2,v.Z17=[])∧q.2.2.length=c.Z21.length):=by
 have:=hc.hndL
 refine lp (fun t=>t.1) (c.Z21.length) (fun t=>Z1e t.2.1∧(∀ v∈t.2.2.2,v.Z17=[])∧(t.2.2.2.length:Int)=t.1) (fun t hI _ _=>?_) (by omega) (by exact ⟨hp,Z51,rfl⟩) (by omega) (by omega)
 try dsimp only at*
 unfold Zhe
 obtain ⟨hI1,hI2,hI3⟩:=hI
 repeat' first
  | with_reducible refine nx ?_ ?_ ?_
  | with_reducible refine dn ?_
  | unfold Zh7
  | with_reducible refine brD (fun _=>?_) fun _=>?_
  | with_reducible refine br! (fun _=>?_) fun _=>?_
  | with_reducible refine bd gr fun _ _=>?_
  | with_reducible refine bd wr fun _ _=>?_
  | with_reducible refine bd gk fun _ _=>?_
  | with_reducible refine bd (Zgz _ _ (by first|assumption|exact hc.hnd _ (by assumption)) (by first|assumption|exact hc.hnd _ (by assumption))) fun _ _=>?_
  | (exact Z7j hI2 rfl)
  | with_reducible refine And.intro ?_ ?_
  | (simp only [List.length_set,List.length_append,List.length_cons,List.length_nil,List.length_replicate]; omega)
theorem Z97.of {m:Z0t} (h:Z97 m.Z1w) {l k:List Z0l} {b:Bool} (h1:∀ v∈l,Str v.Z17.Z0e) (h2:l.length=m.Z1w.Z0c.length) (h3:∀ v∈k,Str v.Z17.Z0e) (h4:k.length=m.Z1w.Z0m.length):
  Z97 { Z0c:=l,Z0m:=k,Z6y:=b }:=⟨h1,by have:=h.locL; dsimp only; omega,h3,by have:=h.stkL; dsimp only; omega⟩
theorem L78x3 (p:List Z00) (e:Int) (c:Z09) (hp:Z1e p) (hc:Z5v c):Ok (Z04 (Zh5 c) Z05 (0,p,e,([]:List Z0t))) (fun q=>Z1e q.1∧(∀ v∈q.2.2,Z97 v.Z1w)∧q.2.2.length=c.Z1s.length):=by
 have:=hc.mapL
 refine lp (fun t=>t.1) (c.Z1s.length) (fun t=>Z1e t.2.1∧(∀ v∈t.2.2.2,Z97 v.Z1w)∧(t.2.2.2.length:Int)=t.1) (fun t hI _ _=>?_) (by omega) ⟨hp,Z51,rfl⟩ (by omega) (by omega)
 obtain ⟨hI1,hI2,hI3⟩:=hI
 unfold Zh5
 refine brD (fun hlt=>?_) fun _=>dn ⟨hI1,hI2,by dsimp only; omega⟩
 obtain ⟨y,hy,hm⟩:=gr (l:=c.Z1s) (i:=t.1) (by omega) hlt
 simp only [hy]
 refine bs (bs (bd (Y3z _ _ hI1 (hc.map _ hm).loc (hc.map _ hm).locL) fun v1 h1=>bd (Y3z _ _ h1.1 (hc.map _ hm).stk (hc.map _ hm).stkL) fun v2 h2=>?_))
 refine bd gk fun _ _=>bd wr fun _ _=>?_
 exact nx ⟨h2.1,Z7j hI2 ((hc.map _ hm).of h1.2.1 h1.2.2 h2.2.1 h2.2.2),by simp only [List.length_append,List.length_cons,List.length_nil]; omega⟩
theorem Yb8 (x:Z0p) (c:Z09) (hp:Z1e x.f_P) (hc:Z5v c):Ok (Zdy x c) (fun r=>Z1e r.1.f_P∧Z5v r.2):=by
 unfold Zdy
 refine bd (L78x1 _ _ _ hp hc) fun q0 h0=>bd (L78x2 _ _ _ h0.1 hc) fun q2 h2=>bd (L78x3 _ _ _ h2.1 hc) fun q4 h4=>ok ⟨h4.1,h0.2.1,?_,fun v hv=>?_,?_,h4.2.1,?_,hc.linL⟩
 ·have:=hc.insL; have:=h0.2.2; dsimp only; omega
 ·rw [h2.2.1 v hv]; simp
 ·have:=hc.hndL; have:=h2.2.2; dsimp only; omega
 ·have:=hc.mapL; have:=h4.2.2; dsimp only; omega
theorem L58x2 (p:List Z00) (e:Int) (m:Z1r) (hp:Z1e p) (hm:Zd6 m):Ok (Z04 (Zi8 m) Z05 (0,p,e,([]:List Int))) (fun q=>Z1e q.1∧q.2.2.length≤140737488355328):=by
 have:=hm.excL
 refine lp (fun t=>t.1) (m.Z6j.length) (fun t=>Z1e t.2.1∧(t.2.2.2.length:Int)=t.1) (fun t hI _ _=>?_) (by omega) (by exact ⟨hp,rfl⟩) (by omega) (by omega)
 try dsimp only at*
 unfold Zi8
 obtain ⟨hI1,hI3⟩:=hI
 repeat' first
  | with_reducible refine nx ?_ ?_ ?_
  | with_reducible refine dn ?_
  | with_reducible refine brD (fun _=>?_) fun _=>?_
  | with_reducible refine bd gr fun _ _=>?_
  | with_reducible refine bd wr fun _ _=>?_
  | with_reducible refine bd gk fun _ _=>?_
  | with_reducible refine bd (Zgz _ _ (by first|assumption|exact hm.exc _ (by assumption)) (by first|assumption|exact hm.exc _ (by assumption))) fun _ _=>?_
  | with_reducible refine And.intro ?_ ?_
  | (simp only [List.length_set,List.length_append,List.length_cons,List.length_nil,List.length_replicate]; omega)
structure Zeg (n:Int) (ms:List Z0h) (cs:List Z09) (ts:List (List Int)) (ns:List Z24):Prop where
 m:(ms.length:Int)=n
 c:(cs.length:Int)=n
 t:(ts.length:Int)=n
 s:(ns.length:Int)=n
 code:∀ v∈cs,Z5v v
 att:∀ m∈ms,m.Z1v=[]
 thr:∀ l∈ts,l.length≤140737488355328
theorem Zeg.snoc {n k:Int} {ms:List Z0h} {cs:List Z09} {ts:List (List Int)} {ns:List Z24} (h:Zeg n ms cs ts ns) {m:Z0h} {c:Z09} {l:List Int} {s:Z24} (ha:m.Z1v=[]) (hc:Z5v c) (hl:l.length≤140737488355328) (hk:k=n+1):
  Zeg k (ms++[m]) (cs++[c]) (ts++[l]) (ns++[s]):=by
 obtain ⟨h1,h2,h3,h4,h5,h6,h7⟩:=h
 refine ⟨?_,?_,?_,?_,Z7j h5 hc,Z7j h6 ha,Z7j h7 hl⟩ <;> simp only [List.length_append,List.length_cons,List.length_nil] <;> omega
theorem WCode0:Z5v { Z0m:=0,Z0c:=0,Z0k:=[],Z21:=[],Z1s:=[],Z1y:=[] }:=⟨Z51,by simp,Z51,by simp,Z51,by simp,by simp⟩
abbrev S58:=Int×(List Z00)×Int×(List Z0h)×(List Z09)×(List (List Int))×(List Z24)
def I58 (t:S58):Prop:=Z1e t.2.1∧Zeg t.1 t.2.2.2.1 t.2.2.2.2.1 t.2.2.2.2.2.1 t.2.2.2.2.2.2
def Q58 (n:Int) (q:(List Z00)×Int×(List Z0h)×(List Z09)×(List (List Int))×(List Z24)):Prop:=Z1e q.1∧Zeg n q.2.2.1 q.2.2.2.1 q.2.2.2.2.1 q.2.2.2.2.2
theorem K58x2 {n:Int} {p26 p27 p28:Int} {p29:List Z02} {p30:List Z0r} {p31:List Z0t} {p32:List Z1g} {t0:S58} {v34:Z1r} {v35 v36:Z0p×Int} {p33:List Z00} {p34 p35:Int}
  (hI:I58 t0) (hp:Z1e p33) (hm:Zd6 v34) (hc:Z5v { Z0m:=p27,Z0c:=p28,Z0k:=p29,Z21:=p30,Z1s:=p31,Z1y:=p32 }) (h0:0≤t0.1) (h1:t0.1<n) (hn:n*184≤140737488355328):
  Ok (Zc0 p26 p27 p28 p29 p30 p31 p32 t0 v34 v35 v36 p33 p34 p35) (St I58 (fun t=>t.1) n (Q58 n) t0):=by
 unfold Zc0
 have:=hI.2.m; have:=hI.2.c; have:=hI.2.t; have:=hI.2.s
 refine bd (L58x2 _ _ _ hp hm) fun q4 h4=>?_
 refine bd gk fun _ _=>?_
 refine bd gk fun _ _=>?_
 refine bd gk fun _ _=>?_
 refine bd gk fun _ _=>?_
 refine bd wr fun _ hv=>?_
 exact nx ⟨h4.1,hI.2.snoc rfl hc h4.2 hv⟩
theorem K58x1 {n:Int} {t0:S58} {v34:Z1r} {v35 v36:Z0p×Int} {p24:List Z00} {p25 p26 p27 p28:Int} {p29:List Z02} {p30:List Z0r} {p31:List Z0t} {p32:List Z1g}
  (hI:I58 t0) (hp:Z1e p24) (hm:Zd6 v34) (hc:Z5v { Z0m:=p27,Z0c:=p28,Z0k:=p29,Z21:=p30,Z1s:=p31,Z1y:=p32 }) (h0:0≤t0.1) (h1:t0.1<n) (hn:n*184≤140737488355328):
  Ok (Zbo t0 v34 v35 v36 p24 p25 p26 p27 p28 p29 p30 p31 p32) (St I58 (fun t=>t.1) n (Q58 n) t0):=by
 unfold Zbo
 exact brD (fun _=>bd (Z8p _ _ hp (by simp)) fun v hv=>K58x2 hI hv hm hc h0 h1 hn) fun _=>K58x2 hI hp hm hc h0 h1 hn
theorem L58x1 (p : List Z00) (e : Int) (u : Z0u) (hp : Z1e p) (hu:Z5u u):Ok (Z04 (Zi3 u) Z05 (0,p,e,[],[],[],[])) (Q58 u.Z0j.length):=by
 have:=hu.metL
 refine lp (fun t=>t.1) (u.Z0j.length) I58 (fun t hI h0 h1=>?_) (by omega) ⟨hp,rfl,rfl,rfl,rfl,Z51,Z51,Z51⟩ (by omega) (by omega)
 unfold Zi3
 refine brD (fun hlt => ?_) fun hge => dn ⟨hI.1, by have:t.1=u.Z0j.length:=by omega
                                                    rw [← this]; exact hI.2⟩
 refine bd gr fun m hm=>bd (Z8p _ _ hI.1 (hu.met _ hm).n) fun v1 h1=>bd (Z8p _ _ h1 (hu.met _ hm).d) fun v2 h2=>br (fun _=>?_) fun _=>?_
 ·exact bd (Z8p _ _ h2 (by simp)) fun v3 h3=>bd (Yb8 _ _ h3 (hu.met _ hm).code) fun v4 h4=>K58x1 hI h4.1 (hu.met _ hm) h4.2 h0 hlt (by omega)
 ·exact K58x1 hI h2 (hu.met _ hm) WCode0 h0 hlt (by omega)
structure Zea (u:Z0u) (h:Z2z):Prop where
 pool:Z1e h.f_F.Z2f
 fam:Zeg u.Z0j.length h.f_F.Z0j h.Z6p h.Zep h.Z4z
 ifsL:h.f_F.Z1b.length=u.Z1b.length
 fldL:h.f_F.Z18.length=u.Z18.length
 fld:∀ m∈h.f_F.Z18,m.Z1v.length≤1∧∀ a∈m.Z1v,Str a.Z2q
 attL:h.f_F.Z1v.length≤1
 att:∀ a∈h.f_F.Z1v,Str a.Z2q
theorem L48x1 (p:List Z00) (e:Int) (u:Z0u) (hp:Z1e p) (hu:Z5u u):Ok (Z04 (Zmx u) Z05 (0,p,e,([]:List Int))) (fun q=>Z1e q.1∧q.2.2.length=u.Z1b.length):=by
 have:=hu.ifsL
 refine lp (fun t=>t.1) (u.Z1b.length) (fun t=>Z1e t.2.1∧(t.2.2.2.length:Int)=t.1) (fun t hI h0 h1=>?_) (by omega) ⟨hp,rfl⟩ (by omega) (by omega)
 obtain ⟨hI1,hI3⟩:=hI
 unfold Zmx
 refine brD (fun hlt=>?_) fun hge=>dn ⟨hI1,by dsimp only; omega⟩
 refine bd gr fun s hs=>bd (Zgz _ _ hI1 (hu.ifs _ hs)) fun v1 h1=>?_
 refine bd gk fun _ _=>bd wr fun _ hv=>?_
 exact nx ⟨h1,by simp only [List.length_append,List.length_cons,List.length_nil]; omega⟩
def MAt (m:Z0h):Prop:=m.Z1v.length≤1∧∀ a∈m.Z1v,Str a.Z2q
abbrev S48:=Int×(List Z00)×Int×(List Z0h)
def I48 (t:S48):Prop:=Z1e t.2.1∧(t.2.2.2.length:Int)=t.1∧∀ m∈t.2.2.2,MAt m
theorem K48x2 {u:Z0u} (hu:Z5u u) {t1:S48} {v26:Z5w} {v27 v28:Z0p×Int} {p9:List Z00} {p10:Int} {p11:List Z1j} (hI:I48 t1) (hp:Z1e p9) (ha:p11.length≤1∧∀ a∈p11,Str a.Z2q) (h0:0≤t1.1) (h1:t1.1<u.Z18.length):
  Ok (Zfz t1 v26 v27 v28 p9 p10 p11) (St I48 (fun t=>t.1) u.Z18.length (fun q=>Z1e q.1∧q.2.2.length=u.Z18.length∧∀ m∈q.2.2,MAt m) t1):=by
 have:=hu.fldL
 obtain ⟨hI1,hI2,hI3⟩:=hI
 unfold Zfz
 refine bd gk fun _ _=>bd wr fun _ hv=>?_
 exact nx ⟨hp,by simp only [List.length_append,List.length_cons,List.length_nil]; omega,Z7j hI3 ha⟩
theorem L48x2 (p:List Z00) (e:Int) (u:Z0u) (hp:Z1e p) (hu:Z5u u):Ok (Z04 (Zpz u) Z05 (0,p,e,([]:List Z0h))) (fun q=>Z1e q.1∧q.2.2.length=u.Z18.length∧∀ m∈q.2.2,MAt m):=by
 have:=hu.fldL
 refine lp (fun t=>t.1) (u.Z18.length) I48 (fun t hI h0 h1=>?_) (by omega) ⟨hp,rfl,Z51⟩ (by omega) (by omega)
 unfold Zpz
 refine brD (fun hlt=>?_) fun hge=>dn ⟨hI.1,by have:=hI.2.1; dsimp only; omega,hI.2.2⟩
 refine bd gr fun f hf=>bd (Z8p _ _ hI.1 (hu.fld _ hf).n) fun v1 h1=>bd (Z8p _ _ h1 (hu.fld _ hf).d) fun v2 h2=>brN (fun _=>?_) fun _=>?_
 ·exact bd (Z8p _ _ h2 (by simp)) fun v3 h3=>bd (Yau _ _ h3 (hu.fld _ hf)) fun v4 h4=>bd (Y4f _) fun v5 h5=>K48x2 hu hI h4 ⟨by simp,fun a ha=>by rw [List.mem_singleton.1 ha]; show v5.length≤_; omega⟩ h0 hlt
 ·exact K48x2 hu hI h2 ⟨by simp,Z51⟩ h0 hlt
theorem Y6w (x:Z0p) (u:Z0u) (h:Z2z) (hp:Z1e x.f_P) (hu:Z5u u) (hi:h.f_F.Z1b.length=u.Z1b.length) (hf:h.f_F.Z18.length=u.Z18.length) (hm:∀ m∈h.f_F.Z18,MAt m):
  Ok (Zec x u h) (fun r=>Z1e r.1.f_P∧Zea u r.2):=by
 unfold Zec
 exact bd (L58x1 _ _ _ hp hu) fun q hq=>ok ⟨hq.1,Z1e.nil,hq.2,hi,hf,hm,by simp,Z51⟩
theorem K48x3 {u:Z0u} {v34:Z0p×Z2z} (hw:Zea u v34.2) {p12:List Z00} {p13:Int} {p14:List Z1j} (hp:Z1e p12) (ha:p14.length≤1∧∀ a∈p14,Str a.Z2q):Ok (Zel v34 p12 p13 p14) (fun r=>Z1e r.1.f_P∧Zea u r.2):=by
 unfold Zel
 exact ok ⟨hp,hp,hw.fam,hw.ifsL,hw.fldL,hw.fld,ha.1,ha.2⟩
theorem K48x1 {u:Z0u} (hu:Z5u u) {v0:Z0p×Int} {p0:List Z00} {p1 p2:Int} (hp:Z1e p0):Ok (Zbx v0 u p0 p1 p2) (fun r=>Z1e r.1.f_P∧Zea u r.2):=by
 unfold Zbx
 refine bd (L48x1 _ _ _ hp hu) fun q0 h0=>bd (L48x2 _ _ _ h0.1 hu) fun q2 h2=>bd (Y6w _ _ _ h2.1 hu ?_ ?_ h2.2.2) fun v34 hv=>br (fun _=>?_) fun _=>K48x3 hv.2 hv.1 ⟨hv.2.attL,hv.2.att⟩
 ·exact h0.2
 ·exact h2.2.1
 ·exact bd (Z8p _ _ hv.1 (by simp)) fun v1 h1=>bd (Z8p _ _ h1 hu.src) fun v2 h2=>bd (Y4f _) fun v5 h5=>K48x3 hv.2 h2 ⟨by simp,fun a ha=>by rw [List.mem_singleton.1 ha]; show v5.length≤_; omega⟩
theorem Ycu (x:Z0p) (u:Z0u) (hp:Z1e x.f_P) (hu:Z5u u):Ok (Zev x u) (fun r=>Zea u r.2):=by
 unfold Zev
 refine (bd (Zgz _ _ hp hu.n) fun v0 h0=>br (fun _=>bd (Zgz _ _ h0 hu.sup) fun v1 h1=>K48x1 hu h1) fun _=>K48x1 hu h0:Ok _ (fun r:Z0p×Z2z=>Z1e r.1.f_P∧Zea u r.2)).mono fun r hr=>hr.2
end Go.Proofs
set_option linter.unusedVariables false
namespace Go.Proofs
open Go.Den Go.Tot
theorem Zuo (s:List UInt8) (a:Int) (hs:Str s) (h0:0≤a) (h1:a≤s.length):Ok (Z8i s a) (fun r=>r.2= -1∨(a<r.2∧r.2≤s.length)):=by
 unfold Z8i
 refine bd (P:=fun q:Int×Int=>a≤q.2∧q.2≤(s.length:Int)∧0≤q.1∧q.1≤4503599627370496) (lp (fun t=>t.1) s.length (fun t=>0≤t.2∧t.2≤t.1∧a≤t.1) (fun t hI g0 g1=>?_) (by omega) ⟨by omega,h0,by omega⟩ h0 h1) fun q hq=>?_
 ·unfold Zbg Zi6
  refine brD (fun hlt=>bd gs fun _ _=>brE (fun _=>bd wr fun _ _=>bd wr fun _ _=>nx ?_ ?_ ?_) fun _=>dn ?_) fun _=>dn ?_ <;> dsimp only <;> omega
 ·obtain ⟨q1,q2⟩:=q
  dsimp only at hq ⊢
  have j2:∀ (v:Int) (p0:List UInt8) (p1:Int),Str p0→a<p1→p1≤s.length→Ok (Z9i (q1,q2) v p0 p1) (fun r=>r.2= -1∨(a<r.2∧r.2≤s.length)):=fun v p0 p1 g1 g2 g3=>by
   unfold Z9i
   exact bd (Zp1 _ g1) fun b _=>br! (fun _=>ok (.inl rfl)) fun _=>ok (.inr ⟨g2,g3⟩)
  refine brD (fun _=>ok (.inl rfl)) fun _=>bd gs fun v5 _=>bd wr fun v6 h6=>brE (fun _=>?_) fun _=>j2 _ _ _ (by simp) (by omega) (by omega)
  refine bd (P:=fun q:Int=>v6≤q∧q≤(s.length:Int)) (lp (fun t=>t) s.length (fun t=>v6≤t) (fun t hI g0 g1=>?_) (by omega) (by omega) (by omega) (by omega)) fun q hq2=>?_
  ·unfold Zbj
   exact brD (fun hlt=>bd gs fun _ _=>brN (fun _=>bd wr fun _ _=>nx (by omega) (by omega) (by omega)) fun _=>dn ⟨by omega,by omega⟩) fun _=>dn ⟨by omega,by omega⟩
  ·exact brD (fun _=>ok (.inl rfl)) fun _=>bd (sb (by omega) (by omega) (by omega)) fun v11 h11=>bd wr fun v12 h12=>j2 _ _ _ (by have:=h11.1; unfold Str at *; omega) (by omega) (by omega)
theorem Zi4 (s:List UInt8) (hs:Str s):Ok (Z7r s) (fun _=>True):=by
 unfold Z7r
 exact bd (Zuo s 0 hs (by omega) (by omega)) fun v _=>brN (fun _=>ok trivial) fun _=>ok trivial
theorem Y44 {s:List UInt8} (h:(s==([]:List UInt8))=false):0<s.length:=by
 cases s with
 | nil=>simp at h
 | cons a r=>simp
theorem Yc8 (s:List UInt8) (hs:Str s):Ok (Zqg s) (fun _=>True):=by
 unfold Zqg Zsk
 exact bd (Zmi s hs) fun b _=>br (fun _=>ok trivial) fun _=>br (fun _=>ok trivial) fun h=>by
  have:=Y44 h
  exact bd gs fun v _=>brN (fun _=>ok trivial) fun _=>bd (Zi4 s hs) fun v _=>ok trivial
theorem Zu7 (s:List UInt8) (hs:Str s):Ok (Zdf s) (fun b=>b=true→0<s.length):=by
 unfold Zdf
 refine br (fun h=>ok fun _=>?_) fun _=>br (fun h=>ok fun _=>?_) fun _=>brD (fun _=>bd (Zvj s hs) fun b hb=>ok fun h=>?_) fun _=>ok fun h=>by cases h
 ·rw [eq_of_beq h]; simp
 ·rw [eq_of_beq h]; simp
 ·exact List.length_pos_iff.2 (hb h)
theorem Zut (s:List UInt8) (hs:s.length≤1048576):Ok (Z5m s) (fun r=>r.1.Z3b.length≤1048576):=by
 unfold Z5m
 refine br (fun _=>ok (by simp)) fun h=>?_
 have hpos:=Y44 h
 refine bd gs fun v _=>brN (fun _=>ok (by simp)) fun _=>?_
 unfold Zo5
 refine bd (P:=fun q:(List Z0i×Int)⊕(Z26×Int)=>match q with|.inl q=>q.1.length≤1048576∧0≤q.2∧q.2≤(s.length:Int)|.inr y=>y.1.Z3b=[]) (lp (fun t=>t.1) s.length (fun t=>(t.2.length:Int)≤t.1) (fun t hI g0 g1=>?_) (by omega) (by simp)) fun q hq=>?_
 ·unfold Zgv Zl0 Zoi
  have hd:t.2.length≤1048576∧0≤t.1∧t.1≤s.length:=⟨by omega,g0,g1⟩
  refine brD (fun hlt=>bd gs fun _ _=>brN (fun _=>?_) fun _=>dn hd) fun _=>dn hd
  refine bd (Zuo s t.1 (by unfold Str; omega) g0 g1) fun r hr=>brD (fun _=>dn rfl) fun hnn=>brE (fun _=>dn rfl) fun _=>?_
  have hlt2:t.1<r.2∧r.2≤s.length:=by omega
  exact bd gk fun _ _=>nx (by simp only [List.length_append,List.length_cons,List.length_nil]; omega) hlt2.1 hlt2.2
 ·cases q with
  | inr y=>exact ok (by rw [hq]; simp)
  | inl q=>
   obtain ⟨h1,h2,h3⟩:=hq
   refine brD (fun _=>ok (by simp)) fun _=>bd wr fun v hv=>bd (Zuo s v (by unfold Str; omega) (by omega) (by omega)) fun r _=>brN (fun _=>ok (by simp)) fun _=>brD (fun _=>ok (by simp)) fun _=>ok (by dsimp only; exact h1)
theorem Y8m (s:List UInt8) (hs:s.length≤1048576):Ok (Zoa s) (fun _=>True):=by
 unfold Zoa
 exact bd (Zi4 s (by unfold Str; omega)) fun v _=>brE (fun _=>ok trivial) fun _=>bd (Zut s hs) fun _ _=>ok trivial
def Ent (p:List Z00) (i:Int) (c:Z00):Prop:=∃ k:Nat,i=(k:Int)+1∧p[k]?=some c
theorem Ent.mem {p:List Z00} {i:Int} {c:Z00} (h:Ent p i c):c∈p:=by
 obtain ⟨k,-,h⟩:=h
 exact List.mem_of_getElem? h
theorem Zir (p:List Z00) (i:Int) (hp:p.length≤140737488355328):Ok (Z9p p i) (fun r=>(r.2=0→Ent p i r.1)∧(r.2≠0→r.1.f_S=[])):=by
 unfold Z9p
 refine brD (fun _=>ok ⟨by simp,by simp⟩) fun _=>brD (fun _=>ok ⟨by simp,by simp⟩) fun _=>bd wr fun v hv=>bd gri fun c hc=>ok ⟨fun _=>⟨v.toNat,by omega,hc.2⟩,by simp⟩
theorem Zk8 (p:List Z00) (i t:Int) (hp:p.length≤140737488355328):Ok (Zax p i t) (fun r=>(r.2=0→Ent p i r.1∧r.1.Z2g=t)∧(r.2≠0→r.1.f_S=[])):=by
 unfold Zax
 exact bd (Zir p i hp) fun v hv=>brN (fun h=>ok ⟨fun h'=>absurd h' h,fun _=>rfl⟩) fun h=>brN (fun _=>ok ⟨by simp,by simp⟩) fun ht=>ok ⟨fun _=>⟨hv.1 h,ht⟩,by simp⟩
theorem Z5i (p:List Z00) (i:Int) (hp:p.length≤140737488355328):Ok (Z3j p i) (fun r=>r.1=[]∨∃ c,Ent p i c∧r.1=c.f_S):=by
 unfold Z3j
 refine bd (Zk8 p i 1 hp) fun v hv=>ok ?_
 by_cases h:v.2=0
 ·exact .inr ⟨_,(hv.1 h).1,rfl⟩
 ·exact .inl (hv.2 h)
abbrev PS (p:List Z00) (B:Nat):Prop:=∀ c∈p,c.f_S.length≤B
theorem Zfd {p:List Z00} {i:Int} {B:Nat} (h:PS p B) {s:List UInt8} (hs:s=[]∨∃ c,Ent p i c∧s=c.f_S):s.length≤B:=by
 rcases hs with rfl|⟨c,hc,rfl⟩
 ·simp
 ·exact h c hc.mem
theorem Zre (p:List Z00) (i:Int) {B:Nat} (hp:p.length≤140737488355328) (h:PS p B):Ok (Zds p i) (fun r=>r.1.length≤B):=by
 unfold Zds
 exact bd (Zk8 p i 7 hp) fun v hv=>brN (fun _=>ok (by simp)) fun _=>bd (Z5i p _ hp) fun r hr=>ok (Zfd h hr)
theorem Zfg (t:Int):Ok (Zao t) (fun _=>True):=by
 unfold Zao
 exact br (fun _=>ok trivial) fun _=>br (fun _=>ok trivial) fun _=>ok trivial
theorem Y2r (p:List Z00) (i:Int) (hp:p.length≤140737488355328):Ok (Zhg p i) (fun r=>(r.1=[]∨∃ c,c∈p∧r.1=c.f_S)∧(r.2.1=[]∨∃ c d,Ent p i c∧Ent p c.f_B d∧r.2.1=d.f_S)):=by
 unfold Zhg
 refine bd (Zk8 p i 12 hp) fun v hv=>brN (fun _=>ok ⟨.inl rfl,.inl rfl⟩) fun h=>bd (Z5i p _ hp) fun a ha=>brN (fun _=>ok ⟨.inl rfl,.inl rfl⟩) fun _=>bd (Z5i p _ hp) fun b hb=>brN (fun _=>ok ⟨.inl rfl,.inl rfl⟩) fun _=>ok ⟨?_,?_⟩
 ·rcases ha with h1|⟨c,hc,h1⟩
  ·exact .inl h1
  ·exact .inr ⟨c,hc.mem,h1⟩
 ·rcases hb with h1|⟨c,hc,h1⟩
  ·exact .inl h1
  ·exact .inr ⟨_,c,(hv.1 h).1,hc,h1⟩
theorem Yat (p:List Z00) (i t:Int) {B:Nat} (hp:p.length≤140737488355328) (h:PS p B):Ok (Zl6 p i t) (fun _=>True):=by
 unfold Zl6 Zt1
 exact bd (Zir p i hp) fun v hv=>brN (fun _=>ok trivial) fun _=>bd (Zfg t) fun b _=>br! (fun _=>ok trivial) fun _=>brN (fun _=>ok trivial) fun _=>bd (Zre p _ hp h) fun r _=>brN (fun _=>ok trivial) fun _=>bd (Y2r p _ hp) fun r _=>brN (fun _=>ok trivial) fun _=>ok trivial
theorem Y6p (t:Int):Ok (Zo8 t) (fun _=>True):=by
 unfold Zo8
 repeat' first
  | exact ok trivial
  | with_reducible refine br (fun _=>?_) fun _=>?_
  | exact bd (Zfg t) fun _ _=>ok trivial
theorem Y8g (c:Z00):Ok (Zo3 c) (fun b=>b=true→c.Z2g≠1→c.f_S=[]):=by
 have h2:(c.Z2g≠1→c.f_S=[])→∀ p,Ok (Zij c p) (fun b=>b=true→c.Z2g≠1→c.f_S=[]):=fun h p=>by
  unfold Zij
  repeat' first
   | exact ok fun _=>h
   | with_reducible refine br (fun _=>?_) fun _=>?_
 have h1:(c.Z2g≠1→c.f_S=[])→Ok (Z9g c) (fun b=>b=true→c.Z2g≠1→c.f_S=[]):=fun h=>by
  unfold Z9g
  exact br (fun _=>h2 h _) fun _=>bd (Zfg _) fun _ _=>h2 h _
 unfold Zo3
 refine brN (fun _=>br! (fun _=>ok fun h=>by cases h) fun he=>?_) fun h1'=>?_
 ·have hS:c.f_S=[] :=by simpa using he
  repeat' first
   | exact h1 fun _=>hS
   | exact ok fun h=>by cases h
   | with_reducible refine brN (fun _=>?_) fun _=>?_
 ·repeat' first
   | exact h1 fun h=>absurd h1' h
   | exact ok fun h=>by cases h
   | with_reducible refine brN (fun _=>?_) fun _=>?_
theorem Ybn (p:List Z00) (c:Z00) (hp:p.length≤140737488355328):Ok (Zjf p c) (fun _=>True):=by
 have hr:∀ i t,Ok (Zls p i t) (fun _=>True):=fun i t=>bd (Zk8 p i t hp) fun _ _=>ok trivial
 have h1:∀ a b,Ok (Zio p c a b) (fun _=>True):=fun a b=>by
  unfold Zio Zsg
  exact bd (hr _ _) fun v _=>brN (fun _=>ok trivial) fun _=>br (fun _=>ok trivial) fun _=>br (fun _=>ok trivial) fun _=>bd (hr _ _) fun _ _=>ok trivial
 unfold Zjf
 exact bd (Zfg _) fun b _=>br (fun _=>h1 _ _) fun _=>h1 _ _
theorem Ybm (t:Int) (a b:List UInt8) (hb:b.length≤1048576):Ok (Znl t a b) (fun _=>True):=by
 unfold Znl
 refine bd (Zut b hb) fun v _=>?_
 repeat' first
  | exact ok trivial
  | with_reducible refine brD (fun _=>?_) fun _=>?_
  | with_reducible refine br (fun _=>?_) fun _=>?_
  | with_reducible refine bd gs fun _ _=>?_
theorem Yc5 (p:List Z00) (hp:Z1e p) (k:Nat) (c:Z00) (hc:p[k]?=some c) (hG:∀ (j:Nat) d,j<k→p[j]?=some d→d.f_S.length≤1024):Ok (Zey p c) (fun e=>e=0→c.f_S.length≤1024):=by
 have hl:p.length≤140737488355328:=by have:=hp.len; omega
 have ho:=hp.ord k c hc
 have hu:∀ i:Int,i≤k→∀ s:List UInt8,(s=[]∨∃ d,Ent p i d∧s=d.f_S)→s.length≤1024:=fun i hi s hs=>by
  rcases hs with rfl|⟨d,⟨j,h1,h2⟩,rfl⟩
  ·simp
  ·exact hG j d (by omega) h2
 have h2:Ok (Zgu p c) (fun _=>True):=by
  unfold Zgu
  refine bd (Zfg _) fun b _=>br (fun _=>bd (Y2r p _ hl) fun r hr=>brE (fun _=>bd (Ybm _ _ _ ?_) fun _ _=>ok trivial) fun _=>ok trivial) fun _=>ok trivial
  rcases hr.2 with h|⟨d,e,h1,h2,h3⟩
  ·rw [h]; simp
  ·obtain ⟨j,e1,e2⟩:=h1
   have:=hp.ord j d e2
   exact Nat.le_trans (hu d.f_B (by omega) _ (.inr ⟨e,h2,h3⟩)) (by omega)
 have h1:Ok (Zg6 p c) (fun _=>True):=by
  unfold Zg6
  refine brE (fun _=>bd (Z5i p _ hl) fun a ha=>bd (Z5i p _ hl) fun b hb=>bd (Zu7 _ (by have:=hu _ ho.1 _ ha; unfold Str; omega)) fun _ _=>br! (fun _=>ok trivial) fun _=>bd (Y8m _ (by have:=hu _ ho.2 _ hb; omega)) fun _ _=>br! (fun _=>ok trivial) fun _=>h2) fun _=>h2
 have hcont:Ok (Zmb p c) (fun _=>True):=by
  unfold Zmb
  exact brE (fun _=>bd (Z5i p _ hl) fun a ha=>bd (Yc8 _ (by have:=hu _ ho.1 _ ha; unfold Str; omega)) fun _ _=>brN (fun _=>ok trivial) fun _=>h1) fun _=>h1
 have hj:c.f_S.length≤1024→Ok (Zcl p c) (fun e=>e=0→c.f_S.length≤1024):=fun hs=>by
  unfold Zcl Zu6
  refine br (fun _=>ok fun _=>hs) fun _=>br (fun _=>ok fun _=>hs) fun _=>br (fun _=>ok fun _=>hs) fun _=>bd (Ybn p c hl) fun _ _=>brN (fun _=>ok fun _=>hs) fun _=>bd hcont fun _ _=>ok fun _=>hs
 unfold Zey
 refine bd (Y6p _) fun _ _=>br! (fun _=>ok (by simp)) fun _=>bd (Y8g c) fun b hb=>br! (fun _=>ok (by simp)) fun hf=>brE (fun ht=>brD (fun _=>ok (by simp)) fun hs=>?_) fun ht=>?_
 ·repeat' first
   | exact hj (by omega)
   | exact ok (by simp)
   | with_reducible refine brD (fun _=>?_) fun _=>?_
   | with_reducible refine brE (fun _=>?_) fun _=>?_
 ·have hS:=hb hf ht
  repeat' first
   | exact hj (by rw [hS]; simp)
   | exact ok (by simp)
   | with_reducible refine brD (fun _=>?_) fun _=>?_
   | with_reducible refine brE (fun _=>?_) fun _=>?_
theorem Y2b (p:List Z00) (hp:Z1e p):Ok (Zd2 p) (fun r=>r.2=0→PS p 1024):=by
 have:=hp.len
 unfold Zd2
 refine brD (fun _=>ok (by simp)) fun _=>bd (P:=fun q:Unit⊕(Int×Int)=>match q with|.inl _=>PS p 1024|.inr y=>y.2≠0) (lp (fun t=>t) p.length (fun t=>∀ (j:Nat) d,(j:Int)<t→p[j]?=some d→d.f_S.length≤1024) (fun t hI h0 h1=>?_) (by omega) (fun j v h=>by omega) (by omega) (by omega)) fun q hq=>?_
 ·unfold Zjw
  refine brD (fun hlt=>?_) fun hge=>dn fun v hv=>?_
  ·refine bd gri fun c hc=>bd (Yc5 p hp t.toNat c hc.2 fun j d hj hd=>hI j d (by omega) hd) fun e he=>brN (fun h=>bd wr fun _ _=>dn h) fun h=>bd wr fun v2 h2=>nx (fun j v hj hv=>?_) (by omega) (by omega)
   rcases Int.lt_or_le (j:Int) t with hlt|hge
   ·exact hI j v hlt hv
   ·have:j=t.toNat:=by omega
    subst this
    rw [hc.2] at hv; cases hv
    exact he h
  ·obtain ⟨j,hj⟩:=List.mem_iff_getElem?.1 hv
   exact hI j v (by have:=(List.getElem?_eq_some_iff.1 hj).1; omega) hj
 ·cases q with
  | inl _=>exact ok fun _=>hq
  | inr y=>exact ok fun h=>absurd h hq
end Go.Proofs
set_option linter.unusedVariables false
namespace Go.Proofs
open Go.Den Go.Tot
theorem Z79 {α R:Type} {l:List α} {P:α→Prop} {f:Int→Option (Ctl Int R)} {Q:R→Prop} (hn:l.length≤140737488355328) (h:∀ t:Int,0≤t→t<l.length→∀ v,l[t.toNat]?=some v→v∈l→Z01 l t=some v→Ok (f t) (fun x=>match x with|.next t'=>t'=t+1∧P v|.done r=>Q r))
  (he:∀ t:Int,0≤t→t=(l.length:Int)→(∀ v∈l,P v)→Ok (f t) (fun x=>match x with|.next _=>False|.done r=>Q r)):Ok (Z04 f Z05 0) Q:=by
 refine lp (fun t=>t) l.length (fun t=>∀ (j:Nat) v,(j:Int)<t→l[j]?=some v→P v) (fun t hI h0 h1=>?_) (by omega) (fun j v h=>by omega) (by omega) (by omega)
 rcases Int.lt_or_le t (l.length:Int) with hlt|hge
 ·obtain ⟨v,hg,hm,hi⟩:=gri (l:=l) h0 hlt
  refine (h t h0 hlt v hi hm hg).mono fun x hx=>?_
  cases x with
  | done r=>exact hx
  | next t'=>
   obtain ⟨rfl,hP⟩:=hx
   refine ⟨fun j w hj hw=>?_,by dsimp only; omega,by dsimp only; omega⟩
   rcases Int.lt_or_le (j:Int) t with h'|h'
   ·exact hI j w h' hw
   ·have:j=t.toNat:=by omega
    subst this
    rw [hi] at hw; cases hw; exact hP
 ·refine (he t h0 (by omega) fun v hv=>?_).mono fun x hx=>?_
  ·obtain ⟨j,hj⟩:=List.mem_iff_getElem?.1 hv
   exact hI j v (by have:=(List.getElem?_eq_some_iff.1 hj).1; omega) hj
  ·cases x with
   | done r=>exact hx
   | next t'=>exact absurd hx id
def tgt (x:Z02):List Int:=if 36≤x.f_Op∧x.f_Op≤54 then [x.f_To]++x.Z0d else []
theorem Z50.tosL {x:Z02} (h:Z50 x):x.Z0d.length≤64:=by
 by_cases h1:x.f_Op=53
 ·exact (h.tab h1).2
 ·by_cases h2:x.f_Op=54
  ·have:=h.look h2; omega
  ·rw [h.few h1 h2]; simp
theorem Zz6 (x:Z02) (h:Z50 x):Zh9 x=some (tgt x):=by
 unfold Zh9 tgt
 rw [Y50]
 have:=h.tosL
 by_cases hb:36≤x.f_Op∧x.f_Op≤54
 ·rw [if_pos hb]
  simp only [Option.bind_some,hb]
  obtain ⟨u,hu,-⟩:=gk (b:=8) (n:=([x.f_To]++x.Z0d).length) (by simp only [List.length_append,List.length_cons,List.length_nil]; omega) (by simp only [List.length_append,List.length_cons,List.length_nil]; omega)
  simp only [List.length_append,List.length_cons,List.length_nil,Nat.zero_add,Nat.add_comm] at hu
  simp [hu]
 ·rw [if_neg hb]
  simp [hb]
theorem put_ok (x:Z02) (at_:List Int) (hx:Z36 x) (hc:Z50 x) (ht:∀ t∈tgt x,t<at_.length):Ok (Zpk x at_) (fun r=>r.length≤1000):=by
 have htl:=hc.tosL
 have hbr:36≤x.f_Op→x.f_Op≤54→0≤x.f_To∧x.f_To<at_.length∧∀ v∈x.Z0d,0≤v∧v<at_.length:=fun h h'=>by
  have e:tgt x=[x.f_To]++x.Z0d:=if_pos ⟨h,h'⟩
  rw [e] at ht
  exact ⟨(hc.aim h h').1,ht _ (by simp),fun v hv=>⟨(hc.aim h h').2 v hv,ht v (by simp [hv])⟩⟩
 have num:=fun y n hn=>Ybx y n hn
 unfold Zpk
 refine bd (num _ 1 (by omega)) fun v0 h0=>bd (Zh4 x.f_Op) fun k hk=>?_
 obtain ⟨k3,k6,k7,km,k0,k1⟩:=hk
 refine brE (fun _=>?_) fun _=>brE (fun _=>?_) fun _=>brE (fun h3=>?_) fun _=>brE (fun _=>?_) fun _=>brE (fun _=>?_) fun _=>brE (fun h6=>?_) fun _=>brE (fun h7=>?_) fun _=>ok (by omega)
 ·exact bd (num _ 1 (by omega)) fun v1 h1=>bd (ct (by omega)) fun v2 h2=>ok (by omega)
 ·exact bd (num _ 2 (by omega)) fun v1 h1=>bd (ct (by omega)) fun v2 h2=>ok (by omega)
 ·have hb:=hbr (by omega) (by omega)
  exact bd (gr hb.1 hb.2.1) fun v _=>bd (num _ 2 (by omega)) fun v1 h1=>bd (ct (by omega)) fun v2 h2=>ok (by omega)
 ·exact bd (num _ 1 (by omega)) fun v1 h1=>bd (ct (by omega)) fun v2 h2=>ok (by omega)
 ·exact bd (num _ 1 (by omega)) fun v1 h1=>bd (ct (by omega)) fun v2 h2=>bd (num _ 1 (by omega)) fun v3 h3=>bd (ct (by omega)) fun v4 h4=>ok (by omega)
 ·have hb:=hbr (by omega) (by omega)
  refine bd (gr hb.1 hb.2.1) fun v _=>bd (num _ 2 (by omega)) fun v1 h1=>bd (ct (by omega)) fun v2 h2=>bd (num _ 4 (by omega)) fun v3 h3=>bd (ct (by omega)) fun v4 h4=>bd (num _ 2 (by omega)) fun v5 h5=>bd (ct (by omega)) fun v6 h6=>bd (P:=fun r=>r.length≤1000) ?_ fun q hq=>ok hq
  refine lp (fun t=>t.2) x.Z0d.length (fun t=>(t.1.length:Int)≤100+8*t.2) (fun t hI g0 g1=>?_) (by omega) (by dsimp only; omega)
  unfold Zt0
  refine brD (fun hlt=>bd gr fun w hw=>bd (gr (hb.2.2 w hw).1 (hb.2.2 w hw).2) fun z _=>bd (num _ 2 (by omega)) fun y1 e1=>bd (ct (by omega)) fun y2 e2=>bd wr fun k hk=>nx (by dsimp only; omega)) fun _=>dn (by omega)
 ·have hb:=hbr (by omega) (by omega)
  have hlk:=hc.look (by omega)
  refine bd (gr hb.1 hb.2.1) fun v _=>bd (num _ 2 (by omega)) fun v1 h1=>bd (ct (by omega)) fun v2 h2=>bd (num _ 2 (by omega)) fun v3 h3=>bd (ct (by omega)) fun v4 h4=>bd (P:=fun r=>r.length≤1000) ?_ fun q hq=>ok hq
  refine lp (fun t=>t.2) x.Z12.length (fun t=>(t.1.length:Int)≤100+8*t.2) (fun t hI g0 g1=>?_) (by omega) (by dsimp only; omega)
  unfold Zt8
  refine brD (fun hlt=>bd gr fun w0 hw0=>bd (num _ 4 (by omega)) fun z1 e1=>bd (ct (by omega)) fun z2 e2=>bd gr fun w hw=>bd (gr (hb.2.2 w hw).1 (hb.2.2 w hw).2) fun z _=>bd (num _ 2 (by omega)) fun y1 e1=>bd (ct (by omega)) fun y2 e2=>bd wr fun k hk=>nx (by dsimp only; omega)) fun _=>dn (by omega)
theorem enc_ok (l:List Z02) (hl:∀ i∈l,Z36 i) (hn:l.length≤140737488355328):Ok (Znd l) (fun r=>r.1.length≤1000000):=by
 unfold Znd
 refine bd (Zrf l hl hn) fun v0 h0=>brN (fun _=>ok (by simp)) fun h=>?_
 obtain ⟨g1,g2,g3⟩:=h0.1 h
 refine bd (P:=fun q:Unit⊕(List UInt8×Int)=>match q with|.inl _=>∀ i∈l,∀ t∈tgt i,t<l.length|.inr y=>y.1=[]) (Z79 (P:=fun i=>∀ t∈tgt i,t<l.length) hn (fun t h0 h1 i hi hm hg=>?_) fun t h0 h1 ha=>?_) fun q hq=>?_
 ·unfold Znk
  rw [hg]
  have hf:(tgt i).length≤65:=by
   have:=(g3 i hm).tosL
   unfold tgt; split <;> simp; omega
  refine brD (fun _=>bs ?_) fun h=>absurd h1 h
  rw [Zz6 i (g3 i hm)]
  refine bs (bd (P:=fun q:Unit⊕(List UInt8×Int)=>match q with|.inl _=>∀ t∈tgt i,t<l.length|.inr y=>y.1=[]) (Z79 (l:=tgt i) (P:=fun t=>t<(l.length:Int)) (by omega) (fun k k0 k1 v hv hvm hvg=>?_) fun k k0 k1 ha=>?_) fun q hq=>?_)
  ·unfold Zmz
   rw [hvg]
   exact brD (fun _=>bs (brD (fun _=>ok rfl) fun _=>bd wr fun w hw=>ok ⟨hw,by omega⟩)) fun h=>absurd k1 h
  ·unfold Zmz
   exact brD (fun h=>absurd h (by omega)) fun _=>ok ha
  ·cases q with
   | inl _=>exact bd wr fun w hw=>ok ⟨hw,hq⟩
   | inr y=>exact ok hq
 ·unfold Znk
  exact brD (fun h=>absurd h (by omega)) fun _=>ok ha
 ·cases q with
  | inr y=>exact ok (by rw [hq]; simp)
  | inl _=>
   refine bd (P:=fun r=>r.length≤1000000) (lp (fun t=>t.2) l.length (fun t=>(t.1.length:Int)≤1000*t.2) (fun t hI k0 k1=>?_) (by omega) (by simp)) fun q6 h6=>ok h6
   unfold Zry
   refine brD (fun hlt=>bd gr fun i hi=>bd (put_ok i v0.1 (hl i hi) (g3 i hi) fun t ht=>by have:=hq i hi t ht; omega) fun y hy=>bd (ct (by omega)) fun z hz=>bd wr fun w hw=>nx (by dsimp only; omega)) fun _=>dn (by omega)
theorem Y3m (l:List Z0l) (at_:List Int) (hn:l.length≤140737488355328) (h5:∀ v∈l,v.Z1c=5→0≤v.Z42∧v.Z42<at_.length):Ok (Zjc l at_) (fun r=>r.length≤1+5*l.length):=by
 unfold Zjc
 refine bd (Zu2 _) fun v0 h0=>bd (P:=fun r=>r.length≤1+5*l.length) (lp (fun t=>t.2) l.length (fun t=>(t.1.length:Int)≤1+5*t.2) (fun t hI k0 k1=>?_) (by omega) (by dsimp only; omega)) fun q hq=>ok hq
 unfold Zqy
 refine brD (fun hlt=>?_) fun _=>dn (by omega)
 obtain ⟨v,hg,hm⟩:=gr (l:=l) (i:=t.2) (by omega) hlt
 simp only [hg]
 have hj:∀ p:List UInt8,(p.length:Int)≤1+5*t.2+3→Ok (Zhx t l p) (St (fun t=>(t.1.length:Int)≤1+5*t.2) (fun t=>t.2) l.length (fun r=>r.length≤1+5*l.length) t):=fun p hp=>by
  unfold Zhx
  simp only [hg]
  exact bs (brD (fun _=>bs (bd (Z60 _) fun z hz=>bd (ct (by omega)) fun y hy=>bd wr fun w hw=>nx (by dsimp only; omega))) fun _=>bd wr fun w hw=>nx (by dsimp only; omega))
 refine bs (bd (Zu2 _) fun a ha=>bd (ct (by omega)) fun b hb=>bs (brE (fun h=>bs (bd (gr (h5 v hm h).1 (h5 v hm h).2) fun y _=>bd (Z60 _) fun z hz=>bd (ct (by omega)) fun w hw=>hj w (by omega))) fun _=>hj b (by omega)))
theorem Y5j (l:List Int):Ok (Zg0 l) (fun r=>Str r.1):=by
 unfold Zg0
 refine brD (fun _=>ok (by simp)) fun _=>bd (Z60 _) fun v0 h0=>bd (P:=fun q:List UInt8⊕(List UInt8×Int)=>match q with|.inl q=>q.length≤1000|.inr y=>y.1=[]) (lp (fun t=>t.2) l.length (fun t=>(t.1.length:Int)≤2+2*t.2) (fun t hI k0 k1=>?_) (by omega) (by dsimp only; omega)) fun q hq=>?_
 ·unfold Zrj Zv6
  refine brD (fun hlt=>bd gr fun _ _=>brD (fun _=>dn rfl) fun _=>bd gr fun _ _=>brD (fun _=>dn rfl) fun _=>bd gr fun _ _=>bd (Z60 _) fun y hy=>bd (ct (by omega)) fun z hz=>bd wr fun w hw=>nx (by dsimp only; omega)) fun _=>dn (by dsimp only; omega)
 ·cases q with
  | inl q => exact ok (by have h:q.length≤1000:=hq
                          show q.length≤_; omega)
  | inr y=>exact ok (by rw [hq]; simp)
structure CPre (c:Z09):Prop where
 ins:∀ i∈c.Z0k,Z36 i
 insL:c.Z0k.length≤140737488355328
 hndL:c.Z21.length≤140737488355328
 mapL:c.Z1s.length≤140737488355328
 linL:c.Z1y.length≤140737488355328
 frm:∀ m∈c.Z1s,m.Z1w.Z0c.length≤140737488355328∧m.Z1w.Z0m.length≤140737488355328
theorem Z5v.pre {c:Z09} (h:Z5v c):CPre c:=⟨h.ins,by have:=h.insL; omega,by have:=h.hndL; omega,by have:=h.mapL; omega,by have:=h.linL; omega,fun m hm=>⟨by have:=(h.map m hm).locL; omega,by have:=(h.map m hm).stkL; omega⟩⟩
def Chk0 (l:List Z02):Prop:=∀ i∈l,Z6b i=some 0
theorem all_ok (l:List Z02) (hl:∀ i∈l,Z36 i) (hn:l.length≤140737488355328):Ok (Zjg l) (fun b=>Chk0 l→b=true):=by
 unfold Zjg
 refine bd (P:=fun q:Unit⊕Bool=>match q with|.inl _=>True|.inr b=>¬ Chk0 l) (li l.length (fun t h0 h1=>?_) (by omega) (by omega) (by omega)) fun q hq=>?_
 ·unfold Ztp
  refine brD (fun _=>bd gr fun i hi=>bdE (Zg4 i (hl i hi)) fun e he _=>brN (fun h=>di fun hc=>h ?_) fun _=>bd wr fun _ _=>ni (by omega) (by omega)) fun _=>di trivial
  rw [hc i hi] at he; cases he; rfl
 ·cases q with
  | inl _=>exact ok fun _=>rfl
  | inr b=>exact ok fun h=>absurd h hq
theorem Ybk (l:List Z02) (hl:∀ i∈l,Z36 i) (hn:l.length≤1000):Ok (Z7i l) (fun r=>Chk0 l→r.2=0∨r.2=8):=by
 unfold Z7i
 refine bd (P:=fun q:Unit⊕(List Int×Int)=>match q with|.inl _=>∀ i∈l,Z50 i|.inr y=>¬ Chk0 l) (Z79 (l:=l) (P:=Z50) (by omega) (fun t h0 h1 i hi hm hg=>?_) fun t h0 h1 ha=>?_) fun q hq=>?_
 ·unfold Zdg
  rw [hg]
  refine brD (fun _=>bs (bdE (Zg4 i (hl i hm)) fun e he hc=>brN (fun h=>ok fun hc=>h ?_) fun h=>bd wr fun w hw=>ok ⟨hw,hc h⟩)) fun h=>absurd h1 h
  rw [hc i hm] at he; cases he; rfl
 ·unfold Zdg
  exact brD (fun h=>absurd h (by omega)) fun _=>ok ha
 ·cases q with
  | inr y=>exact ok fun h=>absurd h hq
  | inl _=>
   have hch:∀ i∈l,Z50 i:=hq
   refine brD (fun h=>absurd h (by omega)) fun _=>bd (P:=fun r=>r.length=l.length+1) ?_ fun q2 hq2=>bd ik fun j hj=>bd (la (by omega)) fun _ _=>brD (fun _=>ok fun _=> .inr rfl) fun _=>ok fun _=> .inl rfl
   refine lp (fun t=>t.1) l.length (fun t=>(t.2.length:Int)=t.1+1∧∀ v∈t.2,0≤v∧v≤400*t.1) (fun t hI h0 h1=>?_) (by omega) ⟨rfl,by simp⟩
   obtain ⟨hI1,hI2⟩:=hI
   unfold Zlb
   refine brD (fun hlt=>?_) fun hge=>dn (by omega)
   refine bd ik fun j hj=>bd (la (by omega)) fun v hv=>bd gr fun i hi=>bd (Y1z i (hl i hi) (hch i hi)) fun n hn=>?_
   have hv2:=hI2 v hv.2
   refine bd wr fun w hw=>bd gk fun _ _=>bd wr fun k hk=>?_
   refine nx ⟨by simp only [List.length_append,List.length_cons,List.length_nil]; omega,Z9b (fun v hv=>?_) ?_⟩
   ·have:=hI2 v hv; dsimp only; omega
   ·dsimp only; omega
theorem head_ok (p:List Z00) (c:Z09) (hp:Z1e p) (hc:CPre c):Ok (Zes p c) (fun e=>e=0→PS p 1024∧(c.Z0c≤32∧c.Z0m≤32)∧1≤c.Z0k.length∧c.Z0k.length≤1000∧(Chk0 c.Z0k→∃ v,Z7i c.Z0k=some v∧v.2=0)):=by
 unfold Zes
 refine bd (Y2b p hp) fun v0 h0=>brN (fun h=>ok fun h'=>absurd h' h) fun h=>?_
 have hps:=h0 h
 have hj:c.Z0c≤32∧c.Z0m≤32→Ok (Zgm c) (fun e=>e=0→PS p 1024∧(c.Z0c≤32∧c.Z0m≤32)∧1≤c.Z0k.length∧c.Z0k.length≤1000∧(Chk0 c.Z0k→∃ v,Z7i c.Z0k=some v∧v.2=0)):=fun hLT=>by
  unfold Zgm Zuf
  refine brE (fun _=>ok (by simp)) fun h1=>brD (fun _=>ok (by simp)) fun h2=>bd (all_ok _ hc.ins hc.insL) fun b hb=>br (fun _=>bdE (Ybk _ hc.ins (by omega)) fun v hv hv2=>brE (fun he=>ok fun h=>?_) fun he=>ok fun _=>⟨hps,hLT,by omega,by omega,fun hk=>⟨v,hv,(hv2 hk).resolve_right he⟩⟩) fun hf=>ok fun _=>⟨hps,hLT,by omega,by omega,fun hk=>?_⟩
  ·omega
  ·rw [hb hk] at hf; cases hf
 exact brD (fun _=>ok (by simp)) fun _=>brD (fun _=>ok (by simp)) fun _=>brD (fun _=>ok (by simp)) fun _=>brD (fun _=>ok (by simp)) fun _=>hj ⟨by omega,by omega⟩
theorem has_ok (l:List Int) (x:Int) (hl:l.length≤140737488355328):Ok (Zoj l x) (fun _=>True):=by
 unfold Zoj
 refine bd (li l.length (Q:=fun _=>True) (fun t h0 h1=>?_) (by omega) (by omega) (by omega)) fun q _=>by cases q <;> exact ok trivial
 unfold Zr0
 exact brD (fun _=>bd gr fun _ _=>br (fun _=>di trivial) fun _=>bd wr fun _ _=>ni (by omega) (by omega)) fun _=>di trivial
section
variable {p:List Z00} (hp:p.length≤1000) (hS:PS p 1024)
include hp hS
theorem Zsc (i:Int):Ok (Zb4 p i) (fun _=>True):=by
 unfold Zb4
 exact bd (Zre p i (by omega) hS) fun v hv=>brE (fun _=>brD (fun _=>bd gs fun _ _=>ok trivial) fun _=>ok trivial) fun _=>ok trivial
theorem Y9y (i:Int):Ok (Zca p i) (fun _=>True):=by
 unfold Zca
 exact bd (Zir p i (by omega)) fun v _=>bd (Yat p i _ (by omega) hS) fun _ _=>brE (fun _=>ok trivial) fun _=>ok trivial
theorem Y9f (x:Z02):Ok (Zks p x) (fun _=>True):=by
 have h2:Ok (Ziw p x) (fun _=>True):=by
  unfold Ziw
  have hn:Ok ((Zca p x.f_A).bind fun v=>if v=true then some 12 else some 0) (fun _:Int=>True):=bd (Y9y hp hS _) fun _ _=>br (fun _=>ok trivial) fun _=>ok trivial
  exact brE (fun _=>hn) fun _=>brE (fun _=>hn) fun _=>brE (fun _=>hn) fun _=>ok trivial
 unfold Zks
 refine bd (Zir p x.f_A (by omega)) fun v0 h0=>brN (fun _=>ok trivial) fun he=>?_
 have h1:Ok (Z7g v0 p x) (fun _=>True):=by
  unfold Z7g
  exact brE (fun _=>bd (Zi4 _ (by have:=hS _ (h0.1 he).mem; unfold Str; omega)) fun _ _=>brN (fun _=>ok trivial) fun _=>brE (fun _=>ok trivial) fun _=>h2) fun _=>h2
 have h3:Ok (if decide (x.f_Op≥59)=true then (if decide (x.f_Op≤66)=true then ((Zb4 p v0.1.f_A).bind fun v4=>if (!v4)=true then some 13 else Z7g v0 p x) else Z7g v0 p x) else Z7g v0 p x) (fun _=>True):=
  brD (fun _=>brD (fun _=>bd (Zsc hp hS _) fun _ _=>br! (fun _=>ok trivial) fun _=>h1) fun _=>h1) fun _=>h1
 exact bd (Y46 _) fun v1 g1=>bd (has_ok _ _ (by omega)) fun _ _=>br! (fun _=>ok trivial) fun _=>brE (fun _=>bd (Zsc hp hS _) fun _ _=>br! (fun _=>ok trivial) fun _=>h3) fun _=>h3
theorem Y8k (c:Z09) (x:Z02) (hx:Z36 x):Ok (Zq5 p c x) (fun e=>e=0→Z6b x=some 0∧Z50 x):=by
 unfold Zq5
 refine bdE (Zg4 x hx) fun v0 e0 h0=>brN (fun h=>ok fun h'=>absurd h' h) fun h=>?_
 have hc:=h0 h
 rw [h] at e0
 rw [Zz6 x hc]
 have hj:∀ v7,Ok (Ze7 v7 p x) (fun e=>e=0→Z6b x=some 0∧Z50 x):=fun v7=>by
  unfold Ze7
  exact brE (fun _=>bd (Y9f hp hS x) fun _ _=>ok fun _=>⟨e0,hc⟩) fun _=>ok fun _=>⟨e0,hc⟩
 have hf:(tgt x).length≤65:=by
  have:=hc.tosL
  unfold tgt; split <;> simp; omega
 refine bs (bd (P:=fun q:Unit⊕Int=>match q with|.inl _=>True|.inr e=>e≠0) (li (tgt x).length (fun t h0 h1=>?_) (by omega) (by omega) (by omega)) fun q hq=>?_)
 ·unfold Zs5
  exact brD (fun _=>bd gr fun _ _=>brD (fun _=>di (by simp)) fun _=>bd gr fun _ _=>brD (fun _=>di (by simp)) fun _=>bd wr fun _ _=>ni (by omega) (by omega)) fun _=>di trivial
 ·cases q with
  | inr e=>exact ok fun h=>absurd h hq
  | inl _=>exact bd (Zh4 _) fun v7 _=>brE (fun _=>brD (fun _=>ok (by simp)) fun _=>hj _) fun _=>brE (fun _=>brD (fun _=>ok (by simp)) fun _=>hj _) fun _=>hj _
def Zg9 (n:Int) (h:Z0r):Prop:=0≤h.Z6d∧h.Z6d<h.f_To∧h.f_To≤n∧0≤h.Z6n∧h.Z6n<n
theorem row9_ok (n:Int) (h:Z0r):Ok (Zp3 p n h) (fun b=>b=true→Zg9 n h):=by
 unfold Zp3
 have z:Ok (some false) (fun b=>b=true→Zg9 n h):=ok fun h=>by cases h
 exact brD (fun h1=>brD (fun h2=>brD (fun h3=>brD (fun h4=>brD (fun h5=>br (fun _=>brE (fun _=>ok fun _=>⟨by omega,h2,h3,by omega,h5⟩) fun _=>bd (Zsc hp hS _) fun _ _=>ok fun _=>⟨by omega,h2,h3,by omega,h5⟩) fun _=>z) fun _=>z) fun _=>z) fun _=>z) fun _=>z) fun _=>z
theorem Zw1 (i:Int) (b:Bool):Ok (Zdo p i b) (fun _=>True):=by
 unfold Zdo
 exact bd (Z5i p i (by omega)) fun v hv=>brN (fun _=>ok trivial) fun _=>bd (Zi4 _ (by have:=Zfd hS hv; unfold Str; omega)) fun _ _=>brN (fun _=>ok trivial) fun _=>brD (fun _=>ok trivial) fun _=>ok trivial
def VOk (n:Int) (v:Z0l):Prop:=v.Z1c=5→0≤v.Z42∧v.Z42<n
theorem Y9l (c:Z09) (v:Z0l):Ok (Zqt p c v) (fun b=>b=true→VOk c.Z0k.length v):=by
 unfold Zqt Zsz Zsi
 have z:Ok (some false) (fun b=>b=true→VOk c.Z0k.length v):=ok fun h=>by cases h
 have y:∀ b,v.Z1c≠5→Ok (some b) (fun b=>b=true→VOk c.Z0k.length v):=fun b h=>ok fun _ h'=>absurd h' h
 refine br! (fun _=>z) fun _=>brE (fun h=>brE (fun _=>y _ (by omega)) fun _=>z) fun _=>brE (fun h=>brE (fun _=>y _ (by omega)) fun _=>z) fun _=>brE (fun h=>brE (fun _=>y _ (by omega)) fun _=>z) fun _=>brE (fun h=>brE (fun _=>y _ (by omega)) fun _=>z) fun _=>?_
 refine brE (fun h=>brE (fun _=>bd (Zw1 hp hS _ _) fun _ _=>y _ (by omega)) fun _=>z) fun _=>brE (fun h=>brE (fun _=>bd (Zw1 hp hS _ _) fun _ _=>y _ (by omega)) fun _=>z) fun _=>brE (fun h=>brD (fun h1=>brD (fun h2=>bd gr fun _ _=>brE (fun _=>bd (Zw1 hp hS _ _) fun _ _=>ok fun _ _=>⟨by omega,h2⟩) fun _=>z) fun _=>z) fun _=>z) fun _=>z
theorem Zyw (c:Z09) (l:List Z0l) (hl:l.length≤140737488355328):Ok (Zhf p c l) (fun b=>b=true→∀ v∈l,VOk c.Z0k.length v):=by
 unfold Zhf
 refine bd (P:=fun q:Unit⊕Bool=>match q with|.inl _=>∀ v∈l,VOk c.Z0k.length v|.inr b=>b=false) (Z79 (P:=VOk c.Z0k.length) hl (fun t h0 h1 v hv hm hg=>?_) fun t h0 h1 ha=>?_) fun q hq=>?_
 ·unfold Znc
  rw [hg]
  exact brD (fun _=>bs (bd (Y9l hp hS c v) fun b hb=>br! (fun _=>ok rfl) fun h=>bd wr fun w hw=>ok ⟨hw,hb h⟩)) fun h=>absurd h1 h
 ·unfold Znc
  exact brD (fun h=>absurd h (by omega)) fun _=>ok ha
 ·cases q with
  | inl _=>exact ok fun _=>hq
  | inr b=>exact ok fun h=>by cases hq.symm.trans h
def Zd4 (n:Int) (m:Z0t):Prop:=0≤m.Z2o∧m.Z2o<n∧(∀ v∈m.Z1w.Z0c,VOk n v)∧(∀ v∈m.Z1w.Z0m,VOk n v)∧m.Z1w.Z0c.length≤32∧m.Z1w.Z0m.length≤32
theorem Y94 (c:Z09) (hc:CPre c) (hL:c.Z0c≤32) (hT:c.Z0m≤32) (i:Int) (h0:0≤i) (h1:i<c.Z1s.length) (m:Z0t) (hg:Z01 c.Z1s i=some m) (hm:m∈c.Z1s):Ok (Znw p c i) (fun b=>b=true→Zd4 c.Z0k.length m):=by
 have:=hc.mapL
 have z:Ok (some false) (fun b=>b=true→Zd4 c.Z0k.length m):=ok fun h=>by cases h
 unfold Znw
 rw [hg]
 refine bs (brD (fun _=>z) fun g0=>brD (fun _=>z) fun g1=>?_)
 have hj:(m.Z1w.Z0c.length:Int)≤c.Z0c→(m.Z1w.Z0m.length:Int)≤c.Z0m→Ok (Zf2 m p c) (fun b=>b=true→Zd4 c.Z0k.length m):=fun q1 q2=>by
  unfold Zf2
  exact bd (Zyw hp hS c _ (hc.frm m hm).1) fun b hb=>br (fun h=>bd (Zyw hp hS c _ (hc.frm m hm).2) fun b' hb'=>ok fun h'=>⟨by omega,by omega,hb h,hb' h',by omega,by omega⟩) fun _=>z
 have hk:Ok (if decide ((m.Z1w.Z0c.length:Int)>c.Z0c)=true then some false else if decide ((m.Z1w.Z0m.length:Int)>c.Z0m)=true then some false else Zf2 m p c) (fun b=>b=true→Zd4 c.Z0k.length m):=brD (fun _=>z) fun q1=>brD (fun _=>z) fun q2=>hj (by omega) (by omega)
 exact brD (fun _=>bd wr fun v1 e1=>bd gr fun v2 _=>brD (fun _=>z) fun _=>hk) fun _=>hk
def LinOk (n:Int) (x:Z1g):Prop:=0≤x.Z2o∧x.Z2o<n
structure Y01 (c:Z09):Prop where
 hnd:∀ h∈c.Z21,Zg9 c.Z0k.length h
 map:∀ m∈c.Z1s,Zd4 c.Z0k.length m
 lin:∀ x∈c.Z1y,LinOk c.Z0k.length x
theorem Y9v (c:Z09) (hc:CPre c) (hL:c.Z0c≤32) (hT:c.Z0m≤32):Ok (Zpc p c) (fun r=>r.2=0→Y01 c):=by
 have g1:=hc.hndL; have g2:=hc.mapL; have g3:=hc.linL
 unfold Zpc
 refine brD (fun _=>ok (by simp)) fun _=>bd (P:=fun q:Unit⊕(Int×Int)=>match q with|.inl _=>∀ h∈c.Z21,Zg9 c.Z0k.length h|.inr y=>y.2≠0) (Z79 (P:=Zg9 c.Z0k.length) g1 (fun t h0 h1 v hv hm hg=>?_) fun t h0 h1 ha=>?_) fun q1 hq1=>?_
 ·unfold Zl4
  rw [hg]
  exact brD (fun _=>bs (bd (row9_ok hp hS _ v) fun b hb=>br! (fun _=>ok (by simp)) fun h=>bd wr fun w hw=>ok ⟨hw,hb h⟩)) fun h=>absurd h1 h
 ·unfold Zl4
  exact brD (fun h=>absurd h (by omega)) fun _=>ok ha
 cases q1 with
 | inr y=>exact ok fun h=>absurd h hq1
 | inl _=>
 refine bd (P:=fun q:Unit⊕(Int×Int)=>match q with|.inl _=>∀ m∈c.Z1s,Zd4 c.Z0k.length m|.inr y=>y.2≠0) (Z79 (P:=Zd4 c.Z0k.length) g2 (fun t h0 h1 v hv hm hg=>?_) fun t h0 h1 ha=>?_) fun q2 hq2=>?_
 ·unfold Zn7
  exact brD (fun _=>bd (Y94 hp hS c hc hL hT t h0 h1 v hg hm) fun b hb=>br! (fun _=>ok (by simp)) fun h=>bd wr fun w hw=>ok ⟨hw,hb h⟩) fun h=>absurd h1 h
 ·unfold Zn7
  exact brD (fun h=>absurd h (by omega)) fun _=>ok ha
 cases q2 with
 | inr y=>exact ok fun h=>absurd h hq2
 | inl _=>
 refine bd (P:=fun q:Unit⊕(Int×Int)=>match q with|.inl _=>∀ x∈c.Z1y,LinOk c.Z0k.length x|.inr y=>y.2≠0) (Z79 (P:=LinOk c.Z0k.length) g3 (fun t h0 h1 v hv hm hg=>?_) fun t h0 h1 ha=>?_) fun q3 hq3=>?_
 ·unfold Zpf
  rw [hg]
  exact brD (fun _=>bs (brD (fun _=>ok (by simp)) fun k0=>brD (fun _=>ok (by simp)) fun k1=>brD (fun _=>bd wr fun w hw=>bd gr fun _ _=>brD (fun _=>ok (by simp)) fun _=>brD (fun _=>ok (by simp)) fun _=>brD (fun _=>ok (by simp)) fun _=>bd wr fun w hw=>ok ⟨hw,by omega,by omega⟩) fun _=>brD (fun _=>ok (by simp)) fun _=>brD (fun _=>ok (by simp)) fun _=>bd wr fun w hw=>ok ⟨hw,by omega,by omega⟩)) fun h=>absurd h1 h
 ·unfold Zpf
  exact brD (fun h=>absurd h (by omega)) fun _=>ok ha
 cases q3 with
 | inr y=>exact ok fun h=>absurd h hq3
 | inl _=>exact ok fun _=>⟨hq1,hq2,hq3⟩
end
theorem Y63 (p:List Z00) (c:Z09) (hp:Z1e p) (hc:CPre c):Ok (Zbr p c) (fun r=>r.2=0→Y01 c∧∃ v,Z7i c.Z0k=some v∧v.2=0):=by
 unfold Zbr
 refine bd (head_ok p c hp hc) fun v0 h0=>brN (fun h=>ok fun h'=>absurd h' h) fun h=>?_
 obtain ⟨hS,⟨hL,hT⟩,hn1,hn2,hoff⟩:=h0 h
 have hl:=hp.len
 refine bd (P:=fun q:Unit⊕(Int×Int)=>match q with|.inl _=>∀ i∈c.Z0k,Z6b i=some 0|.inr y=>y.2≠0) (Z79 (l:=c.Z0k) (P:=fun i=>Z6b i=some 0) (by omega) (fun t h0 h1 v hv hm hg=>?_) fun t h0 h1 ha=>?_) fun q hq=>?_
 ·unfold Zkv
  rw [hg]
  exact brD (fun _=>bs (bd (Y8k hl hS c v (hc.ins v hm)) fun e he=>brN (fun h=>ok h) fun h=>bd wr fun w hw=>ok ⟨hw,(he h).1⟩)) fun h=>absurd h1 h
 ·unfold Zkv
  exact brD (fun h=>absurd h (by omega)) fun _=>ok ha
 ·cases q with
  | inr y=>exact ok fun h=>absurd h hq
  | inl _=>
   refine bd wr fun v6 e6=>bd gr fun v7 _=>bd (P:=fun _=>True) ?_ fun v8 _=>br! (fun _=>bd wr fun _ _=>ok (by simp)) fun _=>bd (Y9v hl hS c hc hL hT) fun r hr=>ok fun h=>⟨hr h,hoff hq⟩
   unfold Zw9
   rw [Ztc]
   exact bs (br (fun _=>ok trivial) fun _=>ok trivial)
end Go.Proofs
set_option linter.unusedVariables false
namespace Go.Proofs
open Go.Den Go.Tot
theorem Y8b (p:List Z00) (c:Z09) (hp:Z1e p) (hc:Z5v c):Ok (Zf8 p c) (fun r=>Str r.1):=by
 have gI:=hc.insL; have gH:=hc.hndL; have gM:=hc.mapL; have gL:=hc.linL
 unfold Zf8
 refine bd (Y63 p c hp hc.pre) fun v0 h0=>brN (fun _=>ok (by simp)) fun h=>?_
 obtain ⟨hk,v,hv,hv2⟩:=h0 h
 rw [hv]
 obtain ⟨r,hr,hr2⟩:=Zrf c.Z0k hc.ins (by omega)
 rw [hv] at hr; cases hr
 obtain ⟨hlen,hn,-⟩:=hr2.1 hv2
 refine bs (bd (enc_ok _ hc.ins (by omega)) fun v2 h2=>bd (Zh2 _ 4 (by omega)) fun v3 h3=>bd (Z60 _) fun v4 h4=>bd (Z60 _) fun v5 h5=>bd (ct (by omega)) fun v6 h6=>bd (ct (by omega)) fun v7 h7=>bd (ct (by omega)) fun v8 h8=>bd (Z60 _) fun v9 h9=>bd (ct (by omega)) fun v10 h10=>?_)
 -- the lists are short by what they hold; here their lengths in memory do
 refine bd (P:=fun r=>(r.length:Int)≤2000000+8*c.Z21.length) (lp (fun t=>t.2) c.Z21.length (fun t=>(t.1.length:Int)≤2000000+8*t.2) (fun t hI g0 g1=>?_) (by omega) (by dsimp only; omega)) fun q0 hq0=>?_
 ·unfold Zpw
  refine brD (fun hlt=>bd gr fun x hx=>?_) fun _=>dn (by omega)
  obtain ⟨k1,k2,k3,k4,k5⟩:=hk.hnd x hx
  exact bd gr fun _ _=>bd (Z60 _) fun a ha=>bd (ct (by omega)) fun b hb=>bd gr fun _ _=>bd (Z60 _) fun a2 ha2=>bd (ct (by omega)) fun b2 hb2=>bd gr fun _ _=>bd (Z60 _) fun a3 ha3=>bd (ct (by omega)) fun b3 hb3=>bd (Z60 _) fun a4 ha4=>bd (ct (by omega)) fun b4 hb4=>bd wr fun w hw=>nx (by dsimp only; omega)
 refine bd (Z60 _) fun v36 h36=>bd (ct (by omega)) fun v37 h37=>?_
 refine bd (P:=fun r=>(r.length:Int)≤30000000000000+400*c.Z1s.length) (lp (fun t=>t.2) c.Z1s.length (fun t=>(t.1.length:Int)≤30000000000000+400*t.2) (fun t hI g0 g1=>?_) (by omega) (by dsimp only; omega)) fun q2 hq2=>?_
 ·unfold Zlu
  refine brD (fun hlt=>bd gr fun m hm=>?_) fun _=>dn (by omega)
  obtain ⟨k1,k2,k3,k4,k5,k6⟩:=hk.map m hm
  have hj:∀ x,Ok (Zc4 t v m x) (St (fun t=>(t.1.length:Int)≤30000000000000+400*t.2) (fun t=>t.2) c.Z1s.length (fun r=>(r.length:Int)≤30000000000000+400*c.Z1s.length) t):=fun x=>by
   unfold Zc4
   refine bd gr fun _ _=>bd (Z60 _) fun a ha=>bd (ct (by omega)) fun b hb=>bd (Zu2 _) fun a2 ha2=>bd (ct (by omega)) fun b2 hb2=>bd (Y3m _ v.1 (by omega) fun y hy h5=>?_) fun a3 ha3=>bd (ct (by omega)) fun b3 hb3=>bd (Y3m _ v.1 (by omega) fun y hy h5=>?_) fun a4 ha4=>bd (ct (by omega)) fun b4 hb4=>bd wr fun w hw=>nx (by dsimp only; omega)
   ·have:=k3 y hy h5; omega
   ·have:=k4 y hy h5; omega
  exact br (fun _=>hj _) fun _=>hj _
 refine bd (Z60 _) fun v59 h59=>bd (ct (by omega)) fun v60 h60=>bd (P:=fun r=>(r.length:Int)≤2000000000000000+4*c.Z1y.length) (lp (fun t=>t.2) c.Z1y.length (fun t=>(t.1.length:Int)≤2000000000000000+4*t.2) (fun t hI g0 g1=>?_) (by omega) (by dsimp only; omega)) fun q4 hq4=>ok (by dsimp only; omega)
 unfold Zlm
 refine brD (fun hlt=>?_) fun _=>dn (by omega)
 obtain ⟨x,hg,hm⟩:=gr (l:=c.Z1y) (i:=t.2) (by omega) hlt
 obtain ⟨k1,k2⟩:=hk.lin x hm
 simp only [hg]
 exact bs (bd gr fun _ _=>bd (Z60 _) fun a ha=>bd (ct (by omega)) fun b hb=>bs (bd (Z60 _) fun a2 ha2=>bd (ct (by omega)) fun b2 hb2=>bd wr fun w hw=>nx (by dsimp only; omega)))
theorem Zf1 (l:List Int) (x:Int) (hl:l.length≤140737488355328):Ok (Z8l l x) (fun _=>True):=by
 unfold Z8l
 refine bd (P:=fun _=>True) (li (max 0 (l.length:Int)) (fun t h0 h1=>?_) (by omega) (by omega) (by omega)) fun q _=>by cases q <;> exact ok trivial
 unfold Zvn
 exact bd wr fun v hv=>brD (fun _=>bd gr fun _ _=>br (fun _=>di trivial) fun _=>bd wr fun _ _=>ni (by omega) (by omega)) fun _=>di trivial
theorem edge_ok (l:List Int) (x:Int) (hl:l.length≤140737488355328):Ok (Zpy l x) (fun _=>True):=by
 unfold Zpy Zqf
 have hj:Ok ((Z8l l x).bind fun v3=>some v3) (fun _=>True):=bd (Zf1 l x hl) fun _ _=>ok trivial
 exact brD (fun _=>bd wr fun v hv=>bd gr fun _ _=>br (fun _=>bd wr fun _ _=>ok trivial) fun _=>hj) fun _=>hj
theorem Y6l (l:List Z0l) (at_:List Int) (hl:l.length≤256) (ha:at_.length≤140737488355328):Ok (Zj5 l at_) (fun r=>r.1.length≤256):=by
 unfold Zj5
 refine bd (P:=fun q:List Z0l⊕(List Z0l×Bool)=>match q with|.inl q=>q.length≤256|.inr y=>y.1=[]) (lp (fun t=>t.1) l.length (fun t=>(t.2.length:Int)=t.1) (fun t hI g0 g1=>?_) (by omega) rfl) fun q hq=>?_
 ·unfold Zv8
  have hd:t.2.length≤256:=by omega
  have hj:∀ (v:Z0l) (p:Int),t.1<l.length→Ok (Zgl t v p) (St (fun t=>(t.2.length:Int)=t.1) (fun t=>t.1) l.length (fun q:List Z0l⊕(List Z0l×Bool)=>match q with|.inl q=>q.length≤256|.inr y=>y.1=[]) t):=fun v p hlt=>by
   unfold Zgl
   exact bd gk fun _ _=>bd wr fun w hw=>nx (by simp only [List.length_append,List.length_cons,List.length_nil]; omega)
  exact brD (fun hlt=>bd gr fun v _=>brE (fun _=>bd (Zf1 at_ _ ha) fun w _=>brD (fun _=>dn rfl) fun _=>hj _ _ hlt) fun _=>hj _ _ hlt) fun _=>dn hd
 ·cases q with
  | inl q=>exact ok hq
  | inr y=>exact ok (by rw [hq]; simp)
theorem Ybh (s:List UInt8) (k:Z4a) (at_:List Int) (hk:TkOk s k) (ha:at_.length≤140737488355328):Ok (Zeo k at_) (fun r=>r.2=0→r.1.Z21.length≤65536∧r.1.Z1s.length≤65536∧r.1.Z1y.length≤65536∧∀ m∈r.1.Z1s,m.Z1w.Z0c.length≤256∧m.Z1w.Z0m.length≤256):=by
 have g1:=hk.hndL; have g2:=hk.mapL; have g3:=hk.lin; have g4:=hk.raw
 unfold Zeo
 refine bd (P:=fun q:List Z0r⊕(Z09×Int)=>match q with|.inl q=>q.length≤65536|.inr y=>y.2≠0) (lp (fun t=>t.1) k.f_C.Z21.length (fun t=>(t.2.length:Int)=t.1) (fun t hI h0 h1=>?_) (by omega) rfl) fun q1 hq1=>?_
 ·unfold Zkl Zk5
  have hd:t.2.length≤65536:=by omega
  exact brD (fun hlt=>bd gr fun v _=>bd (Zf1 at_ _ ha) fun _ _=>bd (edge_ok at_ _ ha) fun _ _=>bd (Zf1 at_ _ ha) fun _ _=>brD (fun _=>dn (by simp)) fun _=>brD (fun _=>dn (by simp)) fun _=>brD (fun _=>dn (by simp)) fun _=>bd gk fun _ _=>bd wr fun w hw=>nx (by simp only [List.length_append,List.length_cons,List.length_nil]; omega)) fun _=>dn hd
 cases q1 with
 | inr y=>exact ok fun h=>absurd h hq1
 | inl q1=>
 have hq1':q1.length≤65536:=hq1
 refine bd (P:=fun q:List Z0t⊕(Z09×Int)=>match q with|.inl q=>q.length≤65536∧∀ m∈q,m.Z1w.Z0c.length≤256∧m.Z1w.Z0m.length≤256|.inr y=>y.2≠0) (lp (fun t=>t.1) k.f_C.Z1s.length (fun t=>(t.2.length:Int)=t.1∧∀ m∈t.2,m.Z1w.Z0c.length≤256∧m.Z1w.Z0m.length≤256) (fun t hI h0 h1=>?_) (by omega) ⟨rfl,Z51⟩) fun q2 hq2=>?_
 ·obtain ⟨hI1,hI2⟩:=hI
  unfold Zmk Zo1
  refine brD (fun hlt=>bd gr fun v hv=>?_) fun _=>dn ⟨by omega,hI2⟩
  obtain ⟨f1,f2⟩:=hk.map v hv
  refine bd (Zf1 at_ _ ha) fun _ _=>bd (Y6l _ at_ f1.1 ha) fun a ha'=>bd (Y6l _ at_ f2.1 ha) fun b hb'=>brD (fun _=>dn (by simp)) fun _=>br! (fun _=>dn (by simp)) fun _=>br! (fun _=>dn (by simp)) fun _=>bd gr fun _ _=>brD (fun _=>dn (by simp)) fun _=>bd gk fun _ _=>bd wr fun w hw=>nx ⟨by simp only [List.length_append,List.length_cons,List.length_nil]; omega,Z9b hI2 ⟨ha',hb'⟩⟩
 cases q2 with
 | inr y=>exact ok fun h=>absurd h hq2
 | inl q2=>
 obtain ⟨e1,e2⟩:=hq2
 refine bd (P:=fun q:List Z1g⊕(Z09×Int)=>match q with|.inl q=>q.length≤65536|.inr y=>y.2≠0) (lp (fun t=>t.1) k.f_C.Z1y.length (fun t=>(t.2.length:Int)=t.1) (fun t hI h0 h1=>?_) (by omega) rfl) fun q3 hq3=>?_
 ·unfold Zoc
  have hd:t.2.length≤65536:=by omega
  exact brD (fun hlt=>bd gr fun v _=>bd (Zf1 at_ _ ha) fun _ _=>brD (fun _=>dn (by simp)) fun _=>bd gk fun _ _=>bd wr fun w hw=>nx (by simp only [List.length_append,List.length_cons,List.length_nil]; omega)) fun _=>dn hd
 cases q3 with
 | inr y=>exact ok fun h=>absurd h hq3
 | inl q3=>exact ok fun _=>⟨hq1',e1,hq3,e2⟩
theorem Y0c (p:List Z00) (s:List UInt8) (hp:Z1e p) (hs:Str s):Ok (Zcm p s) (fun _=>True):=by
 unfold Zcm
 refine bd (Y8d s hs) fun v0 h0=>br (fun _=>ok trivial) fun _=>bd (dec_ok _) fun v1 h1=>brN (fun _=>ok trivial) fun h=>?_
 obtain ⟨k1,k2⟩:=h1 h
 refine bd (Zrf v1.1 (fun i hi=>(k1 i hi).w) (by omega)) fun v2 h2=>brN (fun _=>ok trivial) fun _=>bd (Ybh s v0.1 v2.1 h0 (by have:=h2.2; omega)) fun v3 h3=>brN (fun _=>ok trivial) fun h=>?_
 obtain ⟨e1,e2,e3,e4⟩:=h3 h
 exact brN (fun _=>ok trivial) fun _=>bd (Y63 p _ hp ⟨fun i hi=>(k1 i hi).w,by dsimp only; omega,by dsimp only; omega,by dsimp only; omega,by dsimp only; omega,fun m hm=>by have:=e4 m hm; dsimp only at *; omega⟩) fun v4 _=>brN (fun _=>ok trivial) fun _=>ok trivial
theorem Yb0 (s:List UInt8) (hs:Str s):Ok (Zmq s) (fun r=>r.1.length≤65536):=by
 unfold Zmq
 refine bd (Z4v s _ 2 (by omega) hs ⟨rfl,by dsimp only; omega,by dsimp only; omega⟩) fun v0 h0=>bd (P:=RdT s 65536 fun _=>True) (rdL (n:=v0.1) ⟨h0.1.1,h0.1.2.2.1 rfl⟩ h0.2 fun t hI g0 g1 hd=>?_) fun q hq=>br (fun _=>ok (by simp)) fun _=>brN (fun _=>ok (by simp)) fun _=>bd (Y5j _) fun _ _=>brN (fun _=>ok (by simp)) fun _=>ok hq.2.1
 have hl:=hI.2.1
 have:=h0.1.2.2.1 rfl
 unfold Zvy
 refine brD (fun hlt=>br! (fun _=>?_) fun _=>dn hd) fun _=>dn hd
 unfold Zva
 exact bd (Z4v s _ 2 (by omega) hs hI.1) fun v1 h1=>bd gk fun _ _=>bd wr fun _ hv=>nx ⟨h1.2,by simp only [List.length_append,List.length_cons,List.length_nil]; omega,Z9b hI.2.2 trivial⟩
end Go.Proofs
set_option linter.unusedVariables false
namespace Go.Proofs
open Go.Den Go.Tot
section
variable {p:List Z00} (hp:p.length≤1000)
include hp
theorem Zrc (a:Z1j) (s:List UInt8):Ok (Z9e p a s) (fun _=>True):=by
 unfold Z9e
 exact bd (Z5i p _ (by omega)) fun _ _=>brE (fun _=>ok trivial) fun _=>ok trivial
theorem Y3x (l:List Z0h) (i:Int) (hl:l.length≤140737488355328) (h0:0≤i) (h1:i<l.length):Ok (Zgf p l i) (fun _=>True):=by
 unfold Zgf
 refine bd (gr h0 h1) fun _ _=>bd (Z5i p _ (by omega)) fun v1 _=>bd (gr h0 h1) fun _ _=>bd (Z5i p _ (by omega)) fun v3 _=>bd (P:=fun _=>True) (li i (fun t g0 g1=>?_) (by omega) (by omega) (by omega)) fun q _=>by cases q <;> exact ok trivial
 unfold Zrt
 exact brD (fun _=>bd gr fun _ _=>bd (Z5i p _ (by omega)) fun _ _=>bd gr fun _ _=>bd (Z5i p _ (by omega)) fun _ _=>br (fun _=>br (fun _=>di trivial) fun _=>bd wr fun _ _=>ni (by omega) (by omega)) fun _=>bd wr fun _ _=>ni (by omega) (by omega)) fun _=>di trivial
theorem Y7x (i:Int) (d:List UInt8):Ok (Znj p i d) (fun _=>True):=by
 unfold Znj
 refine bd (Zir p i (by omega)) fun v _=>brN (fun _=>ok trivial) fun _=>?_
 repeat' first
  | exact ok trivial
  | with_reducible refine br (fun _=>?_) fun _=>?_
theorem Y7b (m:Z0h) (d:List UInt8) (hm:∀ a∈m.Z1v,Str a.Z2q):Ok (Zke p m d) (fun _=>True):=by
 unfold Zke Zrh
 refine brE (fun _=>ok trivial) fun _=>bd gr fun a ha=>brD (fun _=>ok trivial) fun _=>bs (br (fun _=>ok trivial) fun _=>bd (Zrc hp _ _) fun _ _=>br! (fun _=>ok trivial) fun _=>brN (fun _=>ok trivial) fun _=>bd (Zgb _ 0 2 (by omega) (hm a ha)) fun _ _=>bd (Y7x hp _ _) fun _ _=>ok trivial)
theorem Y0q (l:List Z1j) (s:List UInt8) (hl:l.length≤140737488355328) (ha:∀ a∈l,Str a.Z2q):Ok (Zcw p l s) (fun r=>Str r.1∧0≤r.2∧r.2≤l.length):=by
 unfold Zcw
 refine bd (P:=fun q:List UInt8×Int=>Str q.1∧0≤q.2∧q.2≤(l.length:Int)) (lp (fun t=>t.2.2) l.length (fun t=>Str t.1∧0≤t.2.1∧t.2.1≤t.2.2) (fun t hI h0 h1=>?_) (by omega) ⟨by simp,by dsimp only; omega,by dsimp only; omega⟩) fun q hq=>ok hq
 obtain ⟨hI1,hI2,hI3⟩:=hI
 unfold Zjl
 exact brD (fun hlt=>bd gr fun a _=>bd (Zrc hp _ _) fun _ _=>br (fun _=>bd gr fun b hb=>bd wr fun _ _=>bd wr fun _ _=>nx ⟨ha b hb,by dsimp only; omega,by dsimp only; omega⟩) fun _=>bd wr fun _ _=>nx ⟨hI1,by dsimp only; omega,by dsimp only; omega⟩) fun _=>dn ⟨hI1,by dsimp only; omega,by dsimp only; omega⟩
variable (hS:PS p 1024)
include hS
theorem Zfh (i:Int):Ok (Zas p i) (fun _=>True):=by
 unfold Zas Zsf
 exact brD (fun _=>ok trivial) fun _=>brD (fun _=>ok trivial) fun _=>bd (Zre p i (by omega) hS) fun v hv=>brN (fun _=>ok trivial) fun _=>brE (fun _=>ok trivial) fun _=>bd gs fun _ _=>brE (fun _=>ok trivial) fun _=>ok trivial
theorem Y21 (l:List Int) (s:List UInt8) (hl:l.length≤140737488355328):Ok (Zig p l s) (fun _=>True):=by
 unfold Zig
 refine bd (P:=fun _=>True) (li l.length (fun t h0 h1=>?_) (by omega) (by omega) (by omega)) fun q _=>by cases q <;> exact ok trivial
 unfold Zqu
 exact brD (fun _=>bd gr fun _ _=>bd (Zfh hp hS _) fun _ _=>brE (fun _=>br (fun _=>di trivial) fun _=>bd wr fun _ _=>ni (by omega) (by omega)) fun _=>bd wr fun _ _=>ni (by omega) (by omega)) fun _=>di trivial
end
theorem Y7p (x y:Int):Ok (Zak x y) (fun _=>True):=bs (ok trivial)
theorem Y02 (x y:Int):Ok (Zbh x y) (fun _=>True):=by
 unfold Zbh
 exact brD (fun _=>bs (ok trivial)) fun _=>ok trivial
theorem Yc3 (x:Int):Ok (Zh6 x) (fun _=>True):=by
 unfold Zh6 Zm1 Zps
 have h:∀ n:Int,Ok ((some (Z2c .i64 x (4:Int))).bind fun v3=>if (v3 !=0)=true then ((some (IntKind.wrap .i64 (n+(1:Int)))).bind fun v4=>some (decide (v4≤1))) else (some (decide (n≤1)))) (fun _=>True):=fun n=>bs (br (fun _=>bs (ok trivial)) fun _=>ok trivial)
 have h1:∀ n:Int,Ok ((some (Z2c .i64 x (2:Int))).bind fun v1=>if (v1 !=0)=true then ((some (IntKind.wrap .i64 (n+(1:Int)))).bind fun v2=>(some (Z2c .i64 x (4:Int))).bind fun v3=>if (v3 !=0)=true then ((some (IntKind.wrap .i64 (v2+(1:Int)))).bind fun v4=>some (decide (v4≤1))) else (some (decide (v2≤1)))) else ((some (Z2c .i64 x (4:Int))).bind fun v3=>if (v3 !=0)=true then ((some (IntKind.wrap .i64 (n+(1:Int)))).bind fun v4=>some (decide (v4≤1))) else (some (decide (n≤1))))) (fun _=>True):=fun n=>bs (br (fun _=>bs (h _)) fun _=>h _)
 exact bs (br (fun _=>h1 1) fun _=>h1 0)
theorem Zru (s:List UInt8) (x:Int):Ok (Zc3 s x) (fun _=>True):=by
 unfold Zc3 Ze8 Zee
 repeat' first
  | exact ok trivial
  | with_reducible refine br (fun _=>?_) fun _=>?_
  | with_reducible refine bd (Y7p _ _) fun _ _=>?_
  | with_reducible refine bd (Y02 _ _) fun _ _=>?_
  | with_reducible refine bd (Yc3 _) fun _ _=>?_
  | with_reducible refine bs ?_
structure Z9q (f:Z1d):Prop where
 pool:Z1e f.Z2f
 ifsL:f.Z1b.length≤140737488355328
 fldL:f.Z18.length≤140737488355328
 metL:f.Z0j.length≤140737488355328
 attL:f.Z1v.length≤140737488355328
 att:∀ a∈f.Z1v,Str a.Z2q
 mem:∀ m,m∈f.Z18∨m∈f.Z0j→m.Z1v.length≤140737488355328∧∀ a∈m.Z1v,Str a.Z2q
def FewF (f:Z1d):Prop:=f.Z1b.length≤8∧f.Z18.length≤64∧f.Z0j.length≤64
theorem Y89 (f:Z1d) (hf:Z9q f):Ok (Zkh f) (fun b=>b=false→FewF f):=by
 have g1:=hf.fldL; have g2:=hf.metL
 unfold Zkh Zt5
 refine brD (fun _=>ok (by simp)) fun _=>brD (fun _=>ok (by simp)) fun _=>brD (fun _=>ok (by simp)) fun _=>brD (fun _=>ok (by simp)) fun _=>?_
 have hd:FewF f:=⟨by omega,by omega,by omega⟩
 refine bd (P:=fun _=>True) (li f.Z18.length (fun t h0 h1=>?_) (by omega) (by omega) (by omega)) fun q _=>?_
 ·unfold Zus
  exact brD (fun _=>bd gr fun _ _=>brD (fun _=>di trivial) fun _=>bd wr fun _ _=>ni (by omega) (by omega)) fun _=>di trivial
 cases q with
 | inr _=>exact ok fun _=>hd
 | inl _=>
  refine bd (P:=fun _=>True) (li f.Z0j.length (fun t h0 h1=>?_) (by omega) (by omega) (by omega)) fun q _=>by cases q <;> exact ok fun _=>hd
  unfold Zst
  exact brD (fun _=>bd gr fun _ _=>brD (fun _=>di trivial) fun _=>bd wr fun _ _=>ni (by omega) (by omega)) fun _=>di trivial
theorem Ybq (f:Z1d) (hf:Z9q f) (hS:PS f.Z2f 1024):Ok (Zob f) (fun e=>e=0→FewF f):=by
 have hp:=hf.pool.len
 have hi:=hf.ifsL
 have h3:∀ a (v:List UInt8×Int),Ok (Zii a v f) (fun e=>e=0→FewF f):=fun a v=>by
  unfold Zii
  exact bd (Y89 f hf) fun b hb=>br (fun _=>ok (by simp)) fun h=>br (fun _=>ok (by simp)) fun _=>bd (Y21 hp hS _ _ hi) fun _ _=>br (fun _=>ok (by simp)) fun _=>ok fun _=>hb h
 have h2:∀ (v:List UInt8×Int) a,Ok (Zgr v f a) (fun e=>e=0→FewF f):=fun v a=>by
  unfold Zgr
  exact bd (Zru _ _) fun _ _=>br! (fun _=>ok (by simp)) fun _=>br (fun _=>ok (by simp)) fun _=>bs (br (fun _=>br (fun _=>ok (by simp)) fun _=>h3 _ _) fun _=>h3 _ _)
 have h1:Ok (Zgc f) (fun e=>e=0→FewF f):=by
  unfold Zgc
  exact bd (Zfh hp hS _) fun v _=>brN (fun h=>ok fun h'=>absurd h' h) fun _=>brN (fun _=>bd (Zfh hp hS _) fun w _=>brN (fun h=>ok fun h'=>absurd h' h) fun _=>h2 _ _) fun _=>h2 _ _
 have hpl:∀ i,Ok (Zfk f.Z2f i) (fun _=>True):=fun i=>by
  unfold Zfk
  exact brD (fun _=>ok trivial) fun _=>ok trivial
 unfold Zob
 exact bd (hpl _) fun _ _=>br! (fun _=>ok (by simp)) fun _=>brN (fun _=>bd (hpl _) fun _ _=>br! (fun _=>ok (by simp)) fun _=>h1) fun _=>h1
theorem Y6t (f:Z1d) (hf:Z9q f) (hS:PS f.Z2f 1024) (i:Int) (h0:0≤i) (h1:i<f.Z1b.length):Ok (Zqn f i) (fun _=>True):=by
 have:=hf.ifsL
 unfold Zqn
 exact bd (gr h0 h1) fun _ _=>bd (Zfh hf.pool.len hS _) fun _ _=>brN (fun _=>ok trivial) fun _=>bd (sb (by omega) (by omega) (by omega)) fun r hr=>bd (Y21 hf.pool.len hS r _ (by have:=hr.1; omega)) fun _ _=>br (fun _=>ok trivial) fun _=>ok trivial
theorem Ycm (f:Z1d) (hf:Z9q f) (hS:PS f.Z2f 1024) (i:Int) (h0:0≤i) (h1:i<f.Z18.length):Ok (Zjv f i) (fun _=>True):=by
 have hp:=hf.pool.len
 have hl:f.Z2f.length≤140737488355328:=by omega
 unfold Zjv
 refine bd (gr h0 h1) fun m hm=>bd (Z5i _ _ hl) fun v1 e1=>brN (fun _=>ok trivial) fun _=>bd (Zu7 _ (by have:=Zfd hS e1; unfold Str; omega)) fun b hb=>br! (fun _=>ok trivial) fun h=>?_
 have hpos:=hb h
 refine bd gs fun _ _=>br (fun _=>ok trivial) fun _=>?_
 have h3:∀ v4 w,Ok (Zg1 m v4 f i w) (fun _=>True):=fun v4 w=>by
  unfold Zg1
  exact bd (Zru _ _) fun _ _=>br! (fun _=>ok trivial) fun _=>bd (Y3x hp _ i hf.fldL h0 h1) fun _ _=>br (fun _=>ok trivial) fun _=>bd (Y7b hp m _ (hf.mem m (.inl hm)).2) fun _ _=>br! (fun _=>ok trivial) fun _=>ok trivial
 unfold Zrr Zrk
 exact bd (Z5i _ _ hl) fun v4 e4=>brN (fun _=>ok trivial) fun _=>bd (Zi4 _ (by have:=Zfd hS e4; unfold Str; omega)) fun _ _=>brN (fun _=>ok trivial) fun _=>br (fun _=>ok trivial) fun _=>bs (br (fun _=>h3 _ _) fun _=>h3 _ _)
theorem Y83 (f:Z1d) (hf:Z9q f) (hS:PS f.Z2f 1024) (m:Z0h):Ok (Zf6 f m) (fun r=>r.2.1.Z3b.length≤1048576):=by
 have hl:f.Z2f.length≤140737488355328:=by have:=hf.pool.len; omega
 have h1:∀ v0,Ok (Zbi v0 f m) (fun r=>r.2.1.Z3b.length≤1048576):=fun v0=>by
  unfold Zbi
  refine bd (Z5i _ _ hl) fun v3 e3=>brN (fun _=>ok (by simp)) fun _=>bd (Zut _ (by have:=Zfd hS e3; omega)) fun v4 e4=>brN (fun _=>ok (by simp)) fun _=>?_
  repeat' first
   | exact ok e4
   | exact ok (by simp)
   | with_reducible refine br (fun _=>?_) fun _=>?_
 unfold Zf6
 exact bd (Z5i _ _ hl) fun v0 e0=>brN (fun _=>ok (by simp)) fun _=>bd (Zu7 _ (by have:=Zfd hS e0; unfold Str; omega)) fun _ _=>br! (fun _=>ok (by simp)) fun _=>br (fun _=>bs (br (fun _=>ok (by simp)) fun _=>h1 _)) fun _=>h1 _
theorem Y7m (f:Z1d) (m:Z0h) (s:List UInt8):Ok (Znv f m s) (fun _=>True):=by
 unfold Znv Zqd
 repeat' first
  | exact ok trivial
  | with_reducible refine br (fun _=>?_) fun _=>?_
  | with_reducible refine bd (Zru _ _) fun _ _=>?_
  | with_reducible refine bd (Y02 _ _) fun _ _=>?_
  | with_reducible refine bs ?_
theorem Ybb (f:Z1d) (hf:Z9q f) (hS:PS f.Z2f 1024) (m:Z0h) (hm:m.Z1v.length≤140737488355328∧∀ a∈m.Z1v,Str a.Z2q) (g:Z26) (hg:g.Z3b.length≤1048576):Ok (Zck f.Z2f m g) (fun _=>True):=by
 have hp:=hf.pool.len
 unfold Zck
 refine bd (Y0q hp _ _ hm.1 hm.2) fun v0 e0=>bd (Y0q hp _ _ hm.1 hm.2) fun v1 e1=>bs (brD (fun _=>ok trivial) fun _=>brD (fun _=>ok trivial) fun _=>bd wr fun _ _=>brN (fun _=>ok trivial) fun _=>br (fun _=>ok trivial) fun _=>?_)
 have h4:∀ a b,Ok (Zcs a b) (fun _=>True):=fun a b=>by
  unfold Zcs
  exact brD (fun _=>ok trivial) fun _=>ok trivial
 have h3:∀ a b,Ok (Zcz a v1 f.Z2f b) (fun _=>True):=fun a b=>by
  unfold Zcz
  refine brD (fun _=>bd (Yb0 _ e1.1) fun v7 e7=>brN (fun _=>ok trivial) fun _=>bd (P:=fun _=>True) (li v7.1.length (fun t h0 h1=>?_) (by omega) (by omega) (by omega)) fun q _=>?_) fun _=>h4 _ _
  ·unfold Znf
   exact brD (fun _=>bd gr fun _ _=>bd (Zfh hp hS _) fun _ _=>brN (fun _=>di trivial) fun _=>bd wr fun _ _=>ni (by omega) (by omega)) fun _=>di trivial
  ·cases q with
   | inl _=>exact h4 _ _
   | inr _=>exact ok trivial
 unfold Zn5 Zdx
 exact bs (br (fun _=>bd wr fun _ _=>br (fun _=>bd (Y0c _ _ hf.pool e0.1) fun _ _=>brN (fun _=>ok trivial) fun _=>h3 _ _) fun _=>h3 _ _) fun _=>br (fun _=>bd (Y0c _ _ hf.pool e0.1) fun _ _=>brN (fun _=>ok trivial) fun _=>h3 _ _) fun _=>h3 _ _)
theorem Y9i (f:Z1d) (hf:Z9q f) (hS:PS f.Z2f 1024) (i:Int) (h0:0≤i) (h1:i<f.Z0j.length):Ok (Z9t f i) (fun _=>True):=by
 unfold Z9t
 exact bd (gr h0 h1) fun m hm=>bd (Y83 f hf hS m) fun v1 e1=>brN (fun _=>ok trivial) fun _=>bd (Y7m _ _ _) fun _ _=>br! (fun _=>ok trivial) fun _=>bd (Y3x hf.pool.len _ i hf.metL h0 h1) fun _ _=>br (fun _=>ok trivial) fun _=>bd (Ybb f hf hS m (hf.mem m (.inr hm)) _ e1) fun _ _=>ok trivial
theorem Y8l (f:Z1d) (hf:Z9q f) (hS:PS f.Z2f 1024):Ok (Znb f) (fun _=>True):=by
 unfold Znb Zt6
 exact brE (fun _=>ok trivial) fun _=>bd gr fun a ha=>brD (fun _=>ok trivial) fun _=>bd (Zrc hf.pool.len _ _) fun _ _=>br! (fun _=>ok trivial) fun _=>brN (fun _=>ok trivial) fun _=>bd (Zgb _ 0 2 (by omega) (hf.att a ha)) fun _ _=>bd (Z5i _ _ (by have:=hf.pool.len; omega)) fun _ _=>ok trivial
theorem Zse (s:List UInt8) (n:Int) (hs:s.length≤1000) (h0:0≤n) (h1:n<100):Ok (Ze6 s n) (fun _=>True):=by
 unfold Ze6
 have h10:∀ a:Int,0≤a→a<10→Ok (sub ([48,49,50,51,52,53,54,55,56,57]:List UInt8) a (a+1)) (fun r=>r.length≤1):=fun a ha hb=>(sb ha (by omega) (by simp; omega)).mono fun r hr=>by have:=hr.1; omega
 refine brD (fun _=>bd (ct (by simp; omega)) fun v0 e0=>bd wr fun v1 e1=>?_) fun _=>bd (ct (by simp; omega)) fun v4 e4=>?_
 ·rw [e1]
  exact bd (h10 n h0 (by omega)) fun v2 e2=>bd (ct (by have:=e0.2; simp at this; omega)) fun _ _=>ok trivial
 ·have hd:divK .i64 n 10=some (n / 10):=by
   unfold divK
   rw [if_pos (by decide)]
   congr 1
   rw [Int.tdiv_eq_ediv_of_nonneg h0]
   exact Z46 (by omega) (by omega)
  have hm:modK n 10=some (n % 10):=by
   unfold modK
   rw [if_pos (by decide)]
   congr 1
   exact Int.tmod_eq_emod_of_nonneg h0
  rw [hd,hm]
  refine bs (bs (bd wr fun v7 e7=>?_))
  rw [e7]
  refine bd (h10 _ (by omega) (by omega)) fun v8 e8=>bd (ct (by have:=e4.2; simp at this; omega)) fun v9 e9=>bs (bs (bd wr fun v12 e12=>?_))
  rw [e12]
  exact bd (h10 _ (by omega) (by omega)) fun v13 e13=>bd (ct (by have:=e4.2; have:=e9.2; simp at *; omega)) fun _ _=>ok trivial
theorem Yby (f:Z1d) (hf:Z9q f):Ok (Zdw f) (fun r=>r.2=0→FewF f):=by
 unfold Zdw
 refine bd (Y2b _ hf.pool) fun v0 h0=>brN (fun h=>ok fun h'=>absurd h' h) fun h=>?_
 have hS:=h0 h
 refine bd (Ybq f hf hS) fun v1 h1=>brN (fun h=>ok fun h'=>absurd h' h) fun h=>?_
 have hF:=h1 h
 have k1:=hF.1; have k2:=hF.2.1; have k3:=hF.2.2
 refine bd (P:=fun _=>True) (li f.Z1b.length (fun t h0 h1=>?_) (by omega) (by omega) (by omega)) fun q _=>?_
 ·unfold Zox
  exact brD (fun hlt=>bd (Y6t f hf hS t h0 hlt) fun _ _=>brN (fun _=>bd (Zse _ t (by simp) h0 (by omega)) fun _ _=>di trivial) fun _=>bd wr fun _ _=>ni (by omega) (by omega)) fun _=>di trivial
 cases q with
 | inr _=>exact ok fun _=>hF
 | inl _=>
 refine bd (P:=fun _=>True) (li f.Z18.length (fun t h0 h1=>?_) (by omega) (by omega) (by omega)) fun q _=>?_
 ·unfold Zon
  exact brD (fun hlt=>bd (Ycm f hf hS t h0 hlt) fun _ _=>brN (fun _=>bd (Zse _ t (by simp) h0 (by omega)) fun _ _=>di trivial) fun _=>bd wr fun _ _=>ni (by omega) (by omega)) fun _=>di trivial
 cases q with
 | inr _=>exact ok fun _=>hF
 | inl _=>
 refine bd (P:=fun _=>True) (li f.Z0j.length (fun t h0 h1=>?_) (by omega) (by omega) (by omega)) fun q _=>?_
 ·unfold Zpo
  exact brD (fun hlt=>bd (Y9i f hf hS t h0 hlt) fun _ _=>brN (fun _=>bd (Zse _ t (by simp) h0 (by omega)) fun _ _=>di trivial) fun _=>bd wr fun _ _=>ni (by omega) (by omega)) fun _=>di trivial
 cases q with
 | inr _=>exact ok fun _=>hF
 | inl _=>exact bd (Y8l f hf hS) fun _ _=>br! (fun _=>ok fun _=>hF) fun _=>ok fun _=>hF
end Go.Proofs
set_option linter.unusedVariables false
namespace Go.Proofs
open Go.Den Go.Tot
def FewM (u:Z0u):Prop:=u.Z1b.length≤8∧u.Z18.length≤64∧u.Z0j.length≤64
theorem Yb2 (u:Z0u) (hu:Z5u u):Ok (Zfb u) (fun r=>r.2=0→FewM u):=by
 have gm:=hu.metL
 unfold Zfb
 refine bd (Y7c u hu) fun _ _=>br! (fun _=>ok (by simp)) fun _=>bd (Ycu _ u Z1e.nil hu) fun v1 h1=>brN (fun h=>ok fun h'=>absurd h' h) fun _=>?_
 have hm:=h1.fam.m; have hc:=h1.fam.c; have ht:=h1.fam.t; have hs:=h1.fam.s
 refine bd (P:=fun q:List (List UInt8)⊕(Z1d×Int)=>match q with|.inl q=>(q.length:Int)=u.Z0j.length∧∀ s∈q,Str s|.inr y=>y.2≠0) (lp (fun t=>t.1) u.Z0j.length (fun t=>(t.2.length:Int)=t.1∧∀ s∈t.2,Str s) (fun t hI h0 h1'=>?_) (by omega) ⟨rfl,Z51⟩) fun q1 hq1=>?_
 ·obtain ⟨hI1,hI2⟩:=hI
  unfold Zow
  have hj:t.1<u.Z0j.length→∀ s e,Str s→Ok (Zbe t s e) (St (fun t=>(t.2.length:Int)=t.1∧∀ s∈t.2,Str s) (fun t=>t.1) u.Z0j.length (fun q:List (List UInt8)⊕(Z1d×Int)=>match q with|.inl q=>(q.length:Int)=u.Z0j.length∧∀ s∈q,Str s|.inr y=>y.2≠0) t):=fun hlt s e hs'=>by
   unfold Zbe
   exact brN (fun h=>dn h) fun _=>bd gk fun _ _=>bd wr fun _ hv=>nx ⟨by simp only [List.length_append,List.length_cons,List.length_nil]; omega,Z7j hI2 hs'⟩
  exact brD (fun hlt=>bd gr fun _ _=>br (fun _=>bd gr fun c hcm=>bd (Y8b _ c h1.pool (h1.fam.code c hcm)) fun v8 h8=>hj (by omega) _ _ h8) fun _=>hj (by omega) _ _ (by simp)) fun hge=>dn ⟨by omega,hI2⟩
 cases q1 with
 | inr y=>exact ok fun h=>absurd h hq1
 | inl q0=>
 obtain ⟨k1,k2⟩:=hq1
 refine bd (P:=fun q:List Z0h⊕(Z1d×Int)=>match q with|.inl q=>(q.length:Int)=u.Z0j.length∧∀ m∈q,m.Z1v.length≤2∧∀ a∈m.Z1v,Str a.Z2q|.inr y=>y.2≠0) (lp (fun t=>t.1) u.Z0j.length (fun t=>(t.2.length:Int)=t.1∧∀ m∈t.2,m.Z1v.length≤2∧∀ a∈m.Z1v,Str a.Z2q) (fun t hI h0 h1'=>?_) (by omega) ⟨rfl,Z51⟩) fun q3 hq3=>?_
 ·obtain ⟨hI1,hI2⟩:=hI
  have h3:t.1<u.Z0j.length→∀ p:List Z1j,(p.length≤2∧∀ a∈p,Str a.Z2q)→Ok (Zbf t v1 p) (St (fun t=>(t.2.length:Int)=t.1∧∀ m∈t.2,m.Z1v.length≤2∧∀ a∈m.Z1v,Str a.Z2q) (fun t=>t.1) u.Z0j.length (fun q:List Z0h⊕(Z1d×Int)=>match q with|.inl q=>(q.length:Int)=u.Z0j.length∧∀ m∈q,m.Z1v.length≤2∧∀ a∈m.Z1v,Str a.Z2q|.inr y=>y.2≠0) t):=fun hlt p hp=>by
   unfold Zbf
   exact bd gr fun _ _=>bd gk fun _ _=>bd wr fun _ hv=>nx ⟨by simp only [List.length_append,List.length_cons,List.length_nil]; omega,Z7j hI2 hp⟩
  have h2:t.1<u.Z0j.length→∀ p:List Z1j,(p.length≤1∧∀ a∈p,Str a.Z2q)→Ok (Zc8 t v1 p) (St (fun t=>(t.2.length:Int)=t.1∧∀ m∈t.2,m.Z1v.length≤2∧∀ a∈m.Z1v,Str a.Z2q) (fun t=>t.1) u.Z0j.length (fun q:List Z0h⊕(Z1d×Int)=>match q with|.inl q=>(q.length:Int)=u.Z0j.length∧∀ m∈q,m.Z1v.length≤2∧∀ a∈m.Z1v,Str a.Z2q|.inr y=>y.2≠0) t):=fun hlt p hp=>by
   unfold Zc8
   exact bd gr fun _ _=>brN (fun _=>bd gr fun _ _=>bd (Y5j _) fun v30 h30=>brN (fun h=>dn h) fun _=>bd gr fun _ _=>bd gk fun _ _=>h3 hlt _ ⟨by simp only [List.length_append,List.length_cons,List.length_nil]; omega,Z7j hp.2 h30⟩) fun _=>h3 hlt p ⟨by omega,hp.2⟩
  unfold Zph
  exact brD (fun hlt=>bd gr fun _ _=>br (fun _=>bd gr fun _ _=>bd ik fun j hj=>bd (la (by omega)) fun b hb=>bd (gk (by simp) (by simp)) fun _ _=>h2 (by omega) _ ⟨by simp,Z7j Z51 (k2 b hb.2)⟩) fun _=>h2 (by omega) _ ⟨by simp,Z51⟩) fun hge=>dn ⟨by omega,hI2⟩
 cases q3 with
 | inr y=>exact ok fun h=>absurd h hq3
 | inl q2=>
 obtain ⟨e1,e2⟩:=hq3
 refine bd (Yby _ ⟨h1.pool,by have:=h1.ifsL; have:=hu.ifsL; dsimp only; omega,by have:=h1.fldL; have:=hu.fldL; dsimp only; omega,by dsimp only; omega,by have:=h1.attL; dsimp only; omega,h1.att,fun m hm=>?_⟩) fun w hw=>brN (fun h=>ok fun h'=>absurd h' h) fun h=>ok fun _=>?_
 rotate_left
 ·have hF:v1.2.f_F.Z1b.length≤8∧v1.2.f_F.Z18.length≤64∧q2.length≤64:=hw h
  have:=h1.ifsL; have:=h1.fldL; exact ⟨by omega,by omega,by omega⟩
 rcases hm with hm|hm
 ·have:=h1.fld m hm; exact ⟨by omega,this.2⟩
 ·have:=e2 m hm; exact ⟨by omega,this.2⟩
theorem Y8j (u:Z0u) (hu:Z5u u):Ok (Zcx u) (fun e=>e=0→FewM u):=bd (Yb2 u hu) fun _ h=>ok h
theorem Ztv (w:Z0w) (n i:Int) (s:List UInt8) (b:Bool) (hi:i≤w.Z0z.length):Ok (Zdi w n i s b) (fun r=>r=true→0≤n∧n<i):=by
 unfold Zdi
 exact brD (fun _=>brD (fun _=>bd gr fun _ _=>br (fun _=>bd gr fun _ _=>bs (ok fun _=>⟨by omega,by omega⟩)) fun _=>ok (by simp)) fun _=>ok (by simp)) fun _=>ok (by simp)
theorem Y3c (w:Z0w) (l:Int) (s:List UInt8) (hw:Z5d w):Ok (Zip w l s) (fun _=>True):=by
 have:=hw.iniL
 unfold Zip
 refine bd (P:=fun _=>True) (li w.Z2l.length (fun t h0 h1=>?_) (by omega) (by omega) (by omega)) fun q _=>by cases q <;> exact ok trivial
 unfold l92x1
 exact brD (fun _=>bd gr fun _ _=>br (fun _=>bd gr fun _ _=>br (fun _=>bd gr fun _ _=>di trivial) fun _=>bd wr fun _ _=>ni (by omega) (by omega)) fun _=>bd wr fun _ _=>ni (by omega) (by omega)) fun _=>di trivial
structure Zcp (w:Z0w) (i:Int) (c:Z1x):Prop where
 sup:c.Z28= -1∨(0≤c.Z28∧c.Z28<i)
 ifs:∀ n∈c.Z1b,0≤n∧n<i
 ifsL:c.Z1b.length≤8
 few:FewM c.Z1f
 lod:0≤c.Z38∧c.Z38<w.Z2a.length
 lang:c.Z38≠0→Zaw c.Z1f.Z0e [108,97,110,103,47]=some false
theorem Yb3 (w:Z0w) (hw:Z5d w) (i:Int) (h0:0≤i) (h1:i<w.Z0z.length) (c:Z1x) (hg:Z01 w.Z0z i=some c) (hm:c∈w.Z0z):Ok (Zf4 w i) (fun b=>b=true→Zcp w i c):=by
 have hcl:=hw.clsL
 obtain ⟨hmod,hifs⟩:=hw.cls c hm
 have hmi:=hmod.ifsL
 have z:Ok (some false) (fun b=>b=true→Zcp w i c):=ok (by simp)
 unfold Zf4
 rw [hg]
 refine bs (brD (fun _=>z) fun k0=>brD (fun _=>z) fun k1=>bd (Y8j _ hmod) fun _ hck=>brN (fun _=>z) fun hck0=>brN (fun _=>z) fun hlen=>?_)
 have h2:(c.Z28= -1∨(0≤c.Z28∧c.Z28<i))→(c.Z38≠0→Zaw c.Z1f.Z0e [108,97,110,103,47]=some false)→Ok (Zfe c w i) (fun b=>b=true→Zcp w i c):=fun hs hl=>by
  unfold Zfe
  refine bd (P:=fun q:Unit⊕Bool=>match q with|.inl _=>∀ n∈c.Z1b,0≤n∧n<i|.inr b=>b=false) (Z79 (P:=fun n=>0≤n∧n<i) hifs (fun t g0 g1 v hv hvm hvg=>?_) fun t g0 g1 ha=>?_) fun q hq=>?_
  ·unfold Zjm
   rw [hvg]
   exact brD (fun _=>bs (bd gr fun _ _=>bd (Ztv w v i _ _ (by omega)) fun b hb=>br! (fun _=>ok rfl) fun h=>bd wr fun _ hw'=>ok ⟨hw',hb h⟩)) fun h=>absurd g1 h
  ·unfold Zjm
   exact brD (fun h=>absurd h (by omega)) fun _=>ok ha
  cases q with
  | inr b=>exact ok fun h=>by cases hq.symm.trans h
  | inl _=>
   have hd:Zcp w i c:=⟨hs,hq,by have:=(hck hck0).1; omega,hck hck0,⟨by omega,by omega⟩,hl⟩
   refine bd (P:=fun _=>True) (li i (fun t g0 g1=>?_) (by omega) (by omega) (by omega)) fun q _=>?_
   ·unfold l61x2
    exact brD (fun _=>bd gr fun _ _=>br (fun _=>bd gr fun _ _=>br (fun _=>di trivial) fun _=>bd wr fun _ _=>ni (by omega) (by omega)) fun _=>bd wr fun _ _=>ni (by omega) (by omega)) fun _=>di trivial
   cases q with
   | inr _=>exact ok fun _=>hd
   | inl _=>exact bd (Y3c w _ _ hw) fun _ _=>br (fun _=>br (fun _=>brD (fun _=>brD (fun _=>ok fun _=>hd) fun _=>ok fun _=>hd) fun _=>ok fun _=>hd) fun _=>ok fun _=>hd) fun _=>ok fun _=>hd
 have h3:(c.Z38≠0→Zaw c.Z1f.Z0e [108,97,110,103,47]=some false)→Ok (Ziy c w i) (fun b=>b=true→Zcp w i c):=fun hl=>by
  unfold Ziy
  exact brE (fun he=>br! (fun _=>bd (Ztv w _ i _ _ (by omega)) fun b hb=>br! (fun _=>z) fun h=>h2 (.inr (hb h)) hl) fun _=>h2 (.inl he) hl) fun _=>br! (fun _=>bd (Ztv w _ i _ _ (by omega)) fun b hb=>br! (fun _=>z) fun h=>h2 (.inr (hb h)) hl) fun _=>z
 exact brN (fun _=>bdE (Y18 _ _) fun b hb _=>br (fun _=>z) fun h=>h3 fun _=>by rw [hb,h]) fun h=>h3 fun h'=>absurd h h'
structure Z8o (w:Z0w):Prop where
 cls:∀ (i:Nat) c,w.Z0z[i]?=some c→Zcp w i c
 few:w.Z0z.length≤200
theorem Yay (w:Z0w) (hw:Z5d w):Ok (Zcv w) (fun b=>b=true→Z8o w):=by
 have hcl:=hw.clsL; have hil:=hw.iniL; have hcon:=hw.conL
 unfold Zcv
 refine bd (Yb5 _ hw.lod hw.lodL) fun v0 h0=>brN (fun _=>ok (by simp)) fun h=>brD (fun _=>ok (by simp)) fun hc2=>brD (fun _=>ok (by simp)) fun _=>?_
 have hl8:=h0 h
 unfold Zfy
 refine bd (P:=fun q:Unit⊕Bool=>match q with|.inl _=>∀ b∈w.Z37,Z9h w b|.inr b=>b=false) (Z79 (P:=Z9h w) hcon (fun t g0 g1 v hv hvm hvg=>?_) fun t g0 g1 ha=>?_) fun q hq=>?_
 ·unfold Zh1
  rw [hvg]
  exact brD (fun _=>bs (brD (fun _=>ok rfl) fun _=>brD (fun _=>ok rfl) fun _=>brD (fun _=>ok rfl) fun _=>brD (fun _=>ok rfl) fun _=>bd (Zmi _ (hw.con v hvm)) fun _ _=>br! (fun _=>ok rfl) fun _=>bd wr fun _ hw'=>ok ⟨hw',by omega,by omega,by omega,by omega⟩)) fun h=>absurd g1 h
 ·unfold Zh1
  exact brD (fun h=>absurd h (by omega)) fun _=>ok ha
 cases q with
 | inr b=>exact ok fun h=>by cases hq.symm.trans h
 | inl _=>
 have hcons:∀ b∈w.Z37,Z9h w b:=hq
 refine bd (P:=fun q:Unit⊕Bool=>match q with|.inl _=>True|.inr b=>b=false) (lp (fun t=>t) w.Z2l.length (fun t=>∀ (j:Nat) v,(j:Int)<t→w.Z2l[j]?=some v→Z9y w v) (fun t hI g0 g1=>?_) (by omega) (fun j v h=>by omega) (by omega) (by omega)) fun q hq=>?_
 ·unfold Zpu
  refine brD (fun hlt=>bd (Yco w t hw g0 hlt) fun b hb=>br! (fun _=>dn rfl) fun h=>?_) fun _=>dn trivial
  have hall:∀ (j:Nat) v,(j:Int)≤t→w.Z2l[j]?=some v→Z9y w v:=fun j v hj hv=>by
   rcases Int.lt_or_le (j:Int) t with h'|h'
   ·exact hI j v h' hv
   ·have:j=t.toNat:=by omega
    subst this
    exact hb h v hv
  exact bd (Yaf w t hw hl8 hcons g0 hlt hall) fun _ _=>br! (fun _=>dn rfl) fun _=>bd wr fun k hk=>nx (fun j v hj hv=>hall j v (by omega) hv) (by omega) (by omega)
 cases q with
 | inr b=>exact ok fun h=>by cases hq.symm.trans h
 | inl _=>
 refine bd (P:=fun q:Unit⊕Bool=>match q with|.inl _=>Z8o w|.inr b=>b=false) (lp (fun t=>t) w.Z0z.length (fun t=>∀ (j:Nat) c,(j:Int)<t→w.Z0z[j]?=some c→Zcp w j c) (fun t hI g0 g1=>?_) (by omega) (fun j v h=>by omega) (by omega) (by omega)) fun q hq=>?_
 ·unfold Zoe
  refine brD (fun hlt=>?_) fun hge=>dn ⟨fun j c hc=>hI j c (by have:=(List.getElem?_eq_some_iff.1 hc).1; omega) hc,by omega⟩
  obtain ⟨c,hg,hm,hi⟩:=gri (l:=w.Z0z) g0 hlt
  refine bd (Yb3 w hw t g0 hlt c hg hm) fun b hb=>br! (fun _=>dn rfl) fun h=>bd wr fun k hk=>nx (fun j d hj hd=>?_) (by omega) (by omega)
  rcases Int.lt_or_le (j:Int) t with h'|h'
  ·exact hI j d h' hd
  ·have:j=t.toNat:=by omega
   subst this
   rw [hi] at hd; cases hd
   have:=hb h
   rwa [show ((t.toNat:Nat):Int)=t by omega]
 cases q with
 | inr b=>exact ok fun h=>by cases hq.symm.trans h
 | inl _=>exact ok fun _=>hq
end Go.Proofs
