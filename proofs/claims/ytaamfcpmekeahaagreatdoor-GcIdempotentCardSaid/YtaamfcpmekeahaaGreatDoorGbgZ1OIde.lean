/-
  That a model comes to an answer: steps in Option that do not fail.
-/
import Derived.Test.YtaamfcpmekeahaaGreatDoorGcF
import Derived.Test.YtaamfcpmekeahaaGreatDoorDenRel
import Derived.Test.YtaamfcpmekeahaaGreatDoorGbgX
import Derived.Test.YtaamfcpmekeahaaGreatDoorGbg12
import Derived.Test.YtaamfcpmekeahaaGreatDoorGbg11
import Derived.Test.YtaamfcpmekeahaaGreatDoorGbgK
set_option linter.unusedVariables false
set_option linter.unusedSimpArgs false
namespace Go.Tot
open Go.Den Go.RowKit
section
variable {α β:Type} {P P':α→Prop} {Q:β→Prop}
theorem ok' {o:Option α} {x:α} (e:o=some x) (h:P x):Ok o P:=⟨x,e,h⟩
end
section
variable {T R:Type} {f:T→Option (Ctl T R)} {Q:R→Prop}
variable {I:T→Prop} {ix:T→Int} {n:Int} {t:T}
end
section
variable {R:Type} {f:Int→Option (Ctl Int R)} {Q:R→Prop}
variable {n t:Int}
end
section
variable {α:Type}
end
end Go.Tot
namespace Go.Proofs
open Go.Den Go.Tot
theorem allL' {n:Nat} (l:n≤140737488355328) (g:Int→Option Bool) {f:Int→Option (Ctl Int (Unit⊕Bool))} (b:∀ t:Int,0≤t→t<n→g t=some true)
  (j:∀ t,f t=if decide (t<(n:Int))=true then ((g t).bind λv=>if (!v)=true then some (.done (.inr false)) else ((some (IntKind.wrap .i64 (t+1))).bind λk=>some (.next k))) else some (.done (.inl ()))):
  Z8 f Zb 0=some (.inl ()):=by
 obtain⟨q,e,h⟩:=allL l g (λt h c=>ok' (b t h c) trivial) j
 rcases h with ⟨rfl,_⟩|⟨_,t,d,i,a⟩
 ·exact e
 ·rw[b t d i] at a; cases a
theorem Uo.valid {m:Z6} (h:V4 m) (v:Uo m):Z37 m=some true:=by
 unfold Z37 Zcf
 rw[v.sp,v.txt,allL' h.heapL (Uy m) v.obj (λt=>by unfold Zdv; rfl),allL' h.iniL (Kf m) v.beg (λt=>by unfold Zdw; rfl),allL' h.thrL (Kh m) v.run (λt=>by unfold Zdx; rfl)]
 have:=v.max0; have:=v.max1; have:=v.heap; have:=v.init; have:=v.thr
 simp only[Option.bind_some,Bool.not_true,Bool.false_eq_true,if_false]
 rw[if_neg (by simpa using v.max0),if_neg (by simpa using v.max1),if_neg (by simp; omega),if_neg (by simp; omega),if_neg (by simp; omega)]
end Go.Proofs
namespace Go.Proofs
open Go.Den Go.Tot
theorem MG.re_is {m:Z6} (h:MG m) {k n:Int} (d:(Ua m).Re k n):IsO m n:=by
 induction d with
 | root c=>exact h.root_is c
 | ref _ b _=>exact h.refs_is b
 | to _ _ a _=>exact h.to_is a
end Go.Proofs
namespace Go.Proofs
open Go.Den Go.Tot
theorem Z6o {m:Z6} {l:List Int} {s:Bool} {n:Int}:IsO (Qe m l s) n↔IsO m n∧Qj s (Q8 l n)=true:=by
 constructor
 ·rintro⟨c,h⟩
  obtain⟨o,a,b,_⟩:=Zs1.1 h
  exact⟨⟨o,a⟩,b⟩
 ·rintro⟨⟨o,a⟩,b⟩
  exact⟨_,Z3x a b⟩
theorem Y3h (l:List Zf) (n:Int):n∈vtg ((Jd l).drop 1)↔n∈vtg (l.drop 1):=by
 cases l with
 | nil=>exact Iff.rfl
 | cons v r=>
  cases r with
  | nil=>exact Iff.rfl
  | cons w r=>
   simp only[Jd,List.drop_succ_cons,List.drop_zero]
   rw[Zj4,Zj4]
   simp only[List.mem_cons,exists_eq_or_imp]
   refine or_congr ?_ Iff.rfl
   unfold Z0a
   split
   ·rename_i h; simp[h]
   ·exact Iff.rfl
theorem Gr.Re.same' {g c:Gr} {k:Int} (i:∀ x,x∈g.roots↔x∈c.roots) (hs:∀ x,g.Re k x→(∀ y,y∈g.refs x↔y∈c.refs x)∧c.str x=g.str x∧(k≤g.str x→c.to x=g.to x)) (n:Int):g.Re k n↔c.Re k n:=by
 constructor
 ·intro h
  induction h with
  | root h=>exact .root ((i _).1 h)
  | ref h j ih=>exact .ref ih (((hs _ h).1 _).1 j)
  | @to n h a e ih=>
   obtain⟨_,f,d⟩:=hs n h
   have:=Gr.Re.to ih (by rw[f]; exact a) (by rw[d a]; exact e)
   rwa [d a] at this
 ·refine Gr.Re.least (S:=g.Re k) (λx b=> .root ((i x).2 b)) (λx b y l=> .ref b (((hs x b).1 y).2 l)) (λx b a e=>?_)
  obtain⟨_,f,d⟩:=hs x b
  rw[f] at a
  rw[d a] at e ⊢
  exact .to b a e
theorem Lv.ret_ref {m:Z6} {l:List Int} (h:Lv m l) {s:Bool} {n x:Int} {o:Zm} (a:Q9 m n=some o) (b:Qj s (Q8 l n)=true) (c:x∈Uc m n):Qj s (Q8 l x)=true:=by
 have:=IsO.range ⟨o,a⟩
 exact h.ret_re (.ref ((h.ret s this.1 this.2).1 b) c)
theorem Zpl (w:Zq) (o:Zm):Wr w (Ue o)=Wr w o:=rfl
theorem Lv.roots {m:Z6} {l:List Int} (h:Lv m l) (s:Bool) (x:Int):x∈U3 m↔x∈U3 (Qe m l s):=by
 rw[Zar,Zar]
 refine and_congr_right λf=>?_
 rw[Z6n m l s f]
 constructor
 ·rintro⟨o,c,a⟩
  have b:x∈U3 m:=(Zar m x).2 ⟨f,o,c,a⟩
  refine⟨Wf m l s x o,by rw[c]; rfl,a.imp id λa=>?_⟩
  have g:=h.ret_root s b
  unfold Wf
  split
  ·exact a
  ·split
   ·exact a
   ·exact a
 ·rintro⟨i,d,a⟩
  obtain⟨o,c,e⟩:=Option.map_eq_some_iff.1 d
  refine⟨o,c,a.imp id λa=>?_⟩
  rw[← e] at a
  unfold Wf at a
  split at a
  ·exact a
  ·split at a
   ·split at a
    ·exact a
    ·exact a
   ·cases a
theorem Lv.str_same {m:Z6} {l:List Int} {s:Bool} {n:Int} {o:Zm} (a:Q9 m n=some o) (b:Qj s (Q8 l n)=true):Ws (Qe m l s) n=Ws m n:=by
 unfold Ws
 rw[Z3x a b,a]
 dsimp only
 split
 ·exact Zpl _ _
 ·rfl
theorem Lv.refs_same {m:Z6} {l:List Int} {s:Bool} {n:Int} {o:Zm} (a:Q9 m n=some o) (c:Qj s (Q8 l n)=true) (y:Int):y∈Uc m n↔y∈Uc (Qe m l s) n:=by
 unfold Uc
 rw[Z3x a c,a]
 dsimp only
 split
 ·rename_i b
  obtain⟨hs,_⟩:=Z6l a b
  unfold refJ
  show _↔y∈vtg ((Jd o.Zw).drop (if 0<Wr m.Y0 (Ue o) then 1 else 0))
  rw[Zpl,if_pos hs]
  exact(Y3h _ _).symm
 ·exact Iff.rfl
theorem Lv.to_same {m:Z6} {l:List Int} {s:Bool} {n:Int} {o:Zm} (b:Q9 m n=some o) (c:Qj s (Q8 l n)=true):toO (Qe m l s) n=if clB m l s n=true then 0 else toO m n:=by
 unfold toO
 rw[Z3x b c,b]
 dsimp only
 by_cases a:clB m l s n=true
 ·obtain⟨hs,_,v,r,d,_⟩:=Z6l b a
  rw[if_pos a,if_pos a]
  show toJ m.Y0 (Ue o)=0
  unfold toJ
  rw[Zpl,if_neg (by omega)]
  show (match Jd o.Zw with|v::_=>if v.Zj=3 then v.f_N else 0|[] =>0)=0
  rw[d]
  cases r <;> rfl
 ·rw[if_neg a,if_neg a]
  rfl
theorem Lv.re_same {m:Z6} {l:List Int} (h:Lv m l) (s:Bool) {k:Int} (f:thr s≤k) (n:Int):(Ua m).Re k n↔(Ua (Qe m l s)).Re k n:=by
 refine Gr.Re.same' (h.roots s) (λx d=>?_) n
 obtain⟨o,b⟩:=h.mg.re_is d
 have c:=h.ret_re (d.mono f)
 refine⟨Lv.refs_same b c,Lv.str_same b c,λhs=>?_⟩
 show toO (Qe m l s) x=toO m x
 rw[Lv.to_same b c]
 by_cases e:toO m x=0
 ·rw[e]; split <;> rfl
 ·rw[if_neg]
  intro a
  have:=h.ret_re (Gr.Re.mono f (Gr.Re.to d hs e))
  unfold clB at a
  rw[show (Ua m).to x=toO m x from rfl] at this
  rw[this] at a
  simp at a
end Go.Proofs
namespace Go.Proofs
open Go.Den Go.Tot
theorem Lv.ret_again {m:Z6} {l l':List Int} {s:Bool} (h:Lv m l) (g:Lv (Qe m l s) l') {n:Int} (b:1≤n) (c:n≤m.Z7.length):Qj s (Q8 l' n)=Qj s (Q8 l n):=by
 have e:=h.ret s b c
 have a:=g.ret s b (by rw[Z2j]; exact c)
 rw[← h.re_same s (Int.le_refl _),← e] at a
 cases d:Qj s (Q8 l' n) <;> cases f:Qj s (Q8 l n)
 ·rfl
 ·rw[d] at a; exact absurd (a.2 f) (by simp)
 ·rw[f] at a; exact absurd (a.1 d) (by simp)
 ·rfl
theorem Lv.unr_again {m:Z6} {l l':List Int} {s:Bool} (h:Lv m l) (d:Lv (Qe m l s) l'):Wb (Qe m l s) l' s=[] :=by
 refine List.eq_nil_iff_forall_not_mem.2 λn e=>?_
 obtain⟨b,c⟩:=Z3n.1 e
 have:=b.range
 rw[Z2j] at this
 obtain⟨_,a⟩:=Z6o.1 b
 rw[h.ret_again d this.1 this.2,a] at c
 cases c
theorem Lv.clB_again {m:Z6} {l l':List Int} {s:Bool} (h:Lv m l) (d:Lv (Qe m l s) l') {n:Int} (e:IsO (Qe m l s) n):clB (Qe m l s) l' s n=false:=by
 obtain⟨⟨o,g⟩,i⟩:=Z6o.1 e
 unfold clB
 rw[Lv.to_same g i]
 by_cases a:clB m l s n=true
 ·rw[if_pos a]; rfl
 ·rw[if_neg a]
  by_cases b:toO m n=0
  ·rw[b]; rfl
  ·have c:=(h.mg.to_is b).range
   rw[h.ret_again d c.1 c.2]
   unfold clB at a
   rw[Bool.and_eq_true] at a
   have f:(toO m n !=0)=true:=by simpa using b
   cases hq:Qj s (Q8 l (toO m n))
   ·exact absurd ⟨f,by rw[hq]; rfl⟩ a
   ·simp
theorem Lv.clr_again {m:Z6} {l l':List Int} {s:Bool} (h:Lv m l) (b:Lv (Qe m l s) l'):Ud (Qe m l s) l' s=[] :=by
 refine List.eq_nil_iff_forall_not_mem.2 λn d=>?_
 obtain⟨c,_,a⟩:=Z14.1 d
 rw[h.clB_again b c] at a
 cases a
theorem Lv.col_again {m:Z6} {l l':List Int} {s:Bool} (h:Lv m l) (a:Lv (Qe m l s) l'):Qe (Qe m l s) l' s=Qe m l s:=by
 have e:=Zk5 (Qe m l s) l' s
 rw[h.unr_again a,h.clr_again a] at e
 have b:Qe (Qe m l s) l' s={ Qe m l s with Z7:=(Qe (Qe m l s) l' s).Z7 }:=rfl
 rw[b,← e]
 rfl
end Go.Proofs
namespace Go.Proofs
open Tryz
open Go.Den Go.Den.W
def R5 (a:Bool):D:= .bool a
def Zto (c : Z6) (d:Bool):Option (Bool):= (Z0l c).bind λe=> if !e then (Lu).bind λf=> some f else (Mj c d).bind λa=> (Mj a.1 d).bind λb=> if a.2.2 == 0 then (Z37 a.1).bind λg=> if g then if b.2.2==0 then if (b.2.1.length:Int)==0 then (Zaa a.1 b.1).bind λh=> if h then (Lu).bind λi=> some i else some false else some false else some false else some false else some false
theorem w5 {f g r} (h:Zto f g=some r):Zi prog 5 [.agg (Zr f),.bool g] (R5 r):= cs f5<|bd h λt i h=>go [] [rg 0 [(0,bo)],rg 1 [(1,k (w8 i))]]<|br h (λq h=>bd h λu j h=>Z0 2 [(0,k (w9 j))]<|rt h) λq h=> bd h λv l h=>bd h λs m h=>go [5] [rg 3 [(2,k (w17 l))],rg 4 [(2,k (w17 m))]]<|po<|pr 3 []<|sp h (λb h=>bd h λw n h=>pr 4 [(3,gw b g0),(4,gw b (k (w20 n))),(5,py b)]<|sp h (λd h=>pr 4 (gC d 7 2 [(9,py d)])<|sp h (λa h=>pr 5 [(11,gw a g0),(12,gw a (ln s.2.1)),(13,gw a g0),(14,py a)]<|sp h (λc h=>bd h λx o h=>pr 5 (gC c 16 2 [(18,gw c (k (w19 o))),(19,py c)])<|sp h (λe h=>bd h λy p h=>pr 3 [(21,gw e (k (w9 p))),(22,py e)]<|Zo h) λe h=> pr 3 [(21,gs1 e),(22,pn e)]<|Zo h) λc h=> pr 8 (gB c 16 3 [(19,pn c)])<|Zo h) λa h=> pr 13 (gB a 11 3 [(14,pn a)])<|Zo h) λd h=> pr 17 (gB d 7 2 [(9,pn d)])<|Zo h) λb h=> pr 21 (gB b 3 2 [(5,pn b)])<|Zo h
end Go.Proofs
namespace Go.Proofs
open Go.Den Go.Tot
def Sm {α:Type} (bad:α→Prop) (o a:Option α):Prop:=∀ x,o=some x→bad x∨a=some x
def nb (b:Bool):Prop:=b=false
def cb (x:Ctl Int (Unit⊕Bool)):Prop:=x=.done (.inr false)
namespace Sm
variable {α β:Type} {bad:α→Prop}
theorem rfl' {o:Option α}:Sm bad o o:=λ_ h=> .inr h
theorem no {x:α} {o:Option α} (h:bad x):Sm bad (some x) o:=λy e=>by cases e; exact .inl h
theorem br {b:Bool} {x y a c:Option α} (T:b=true→Sm bad x a) (F:b=false→Sm bad y c):Sm bad (if b=true then x else y) (if b=true then a else c):=by
 cases b with
 | true=>exact T rfl
 | false=>exact F rfl
theorem sk {o:Option β} {f b:β→Option α} (h:∀ v,o=some v→Sm bad (f v) (b v)):Sm bad (o.bind f) (o.bind b):=λx e=>by
 obtain⟨v,a,c⟩:=Option.bind_eq_some_iff.1 e
 rcases h v a x c with h|h
 ·exact .inl h
 ·exact .inr (by rw[a]; exact h)
theorem sk2 {o c:Option β} {f b:β→Option α} (h:∀ v,o=some v→∃ a,c=some a∧Sm bad (f v) (b a)):Sm bad (o.bind f) (c.bind b):=λx e=>by
 obtain⟨v,d,g⟩:=Option.bind_eq_some_iff.1 e
 obtain⟨a,i,h⟩:=h v d
 rcases h x g with h|h
 ·exact .inl h
 ·exact .inr (by rw[i]; exact h)
theorem bdn {o c:Option Bool} {z:α} {x d:Option α} (h:Sm nb o c) (i:bad z) (g:o=some true→Sm bad x d):Sm bad (o.bind λv=>if (!v)=true then some z else x) (c.bind λv=>if (!v)=true then some z else d):=λy e=>by
 obtain⟨v,a,b⟩:=Option.bind_eq_some_iff.1 e
 cases v with
 | false=>cases b; exact .inl i
 | true=>
  have f:=(h true a).resolve_left (by unfold nb; simp)
  rcases g a y b with h|h
  ·exact .inl h
  ·exact .inr (by rw[f]; exact h)
theorem bdy {o c:Option Bool} {z:α} {x d:Option α} (h:Sm nb o c) (i:bad z) (g:o=some true→Sm bad x d):Sm bad (o.bind λv=>if v=true then x else some z) (c.bind λv=>if v=true then d else some z):=λy e=>by
 obtain⟨v,a,b⟩:=Option.bind_eq_some_iff.1 e
 cases v with
 | false=>cases b; exact .inl i
 | true=>
  have f:=(h true a).resolve_left (by unfold nb; simp)
  rcases g a y b with h|h
  ·exact .inl h
  ·exact .inr (by rw[f]; exact h)
theorem vv {o b:Option Bool} (h:Sm nb o b):Sm nb (o.bind λv=>some v) (b.bind λv=>some v):=λy e=>by
 obtain⟨v,a,c⟩:=Option.bind_eq_some_iff.1 e
 have d:v=y:=Option.some.inj c
 rw[d] at a
 rcases h y a with h|h
 ·exact .inl h
 ·exact .inr (by rw[h]; rfl)
end Sm
theorem Sm.loop' {f a:Int→Option (Ctl Int (Unit⊕Bool))} (h:∀ t,Sm cb (f t) (a t)):
  Sm nb ((Z8 f Zb 0).bind λq=>match q with|.inl _=>some true|.inr y=>some y) ((Z8 a Zb 0).bind λq=>match q with|.inl _=>some true|.inr y=>some y):=by
 have key:∀ (n:Nat) (t:Int),∀ q,Z8 f n t=some q→q=.inr false∨Z8 a n t=some q:=by
  intro n
  induction n with
  | zero=>intro t q e; cases e
  | succ n ih=>
   intro t q e
   unfold Z8 at e ⊢
   cases c:f t with
   | none=>rw[c] at e; cases e
   | some x=>
    rw[c] at e
    rcases h t x c with i|b
    ·rw[i] at e
     cases e
     exact .inl rfl
    ·rw[b]
     cases x with
     | next j=>exact ih j q e
     | done r=>exact .inr e
 intro x e
 obtain⟨q,g,d⟩:=Option.bind_eq_some_iff.1 e
 rcases key Zb 0 q g with rfl|b
 ·cases d; exact .inl rfl
 ·exact .inr (by rw[b]; exact d)
def hmM (m:Z6) (H:List Zm):Z6:={ m with Z7:=H }
def Kp (m c:Z6) (n:Int):Prop:=IsO m n→IsO c n
def KpV (m c:Z6) (v:Zf):Prop:=v.Zj=3→Kp m c v.f_N
section
variable {m:Z6} {H:List Zm} (hH:m.Z7.length≤140737488355328) (hH':H.length≤140737488355328)
include hH hH'
theorem s_is {n:Int} (h:Kp m (hmM m H) n):Sm nb (Ul m n) (Ul (hmM m H) n):=by
 rw[Zbx m n hH,Zbx (hmM m H) n hH']
 intro x e
 cases e
 cases b:Q9 m n with
 | none=>exact .inl rfl
 | some o=>
  obtain⟨c,a⟩:=h ⟨o,b⟩
  rw[a]
  exact .inr rfl
theorem Zir {n:Int} (h:Kp m (hmM m H) n):Sm nb (Kg m n) (Kg (hmM m H) n):=by
 unfold Kg
 exact Sm.br (λ_=>Sm.rfl') λ_=>Sm.vv (s_is hH hH' h)
theorem Zav {v:Zf} (h:KpV m (hmM m H) v):Sm nb (Jt m v) (Jt (hmM m H) v):=by
 unfold Jt
 exact Sm.br (λ_=>Sm.rfl') λ_=>Sm.br (λ_=>Sm.rfl') λ_=>Sm.br (λ_=>Sm.rfl') λ_=>Sm.br (λa=>Sm.vv (Zir hH hH' (h (by simpa using a)))) λ_=>Sm.rfl'
omit hH hH' in
theorem Zv5 {l l' w:List Zf} (c:l'.length=l.length) (f:∀ t v,Z4 l t=some v→∃ a,Z4 l' t=some a∧a.Zj=v.Zj∧Sm nb (Jt m v) (Jt (hmM m H) a)):
  Sm nb (Jj m l w) (Jj (hmM m H) l' w):=by
 unfold Jj
 rw[c]
 refine Sm.br (λ_=>Sm.no rfl) λ_=>Sm.loop' λt=>?_
 unfold Z4n
 rw[c]
 refine Sm.br (λ_=>Sm.sk2 λv e=>?_) λ_=>Sm.rfl'
 obtain⟨a,b,ek,d⟩:=f t v e
 refine⟨a,b,Sm.sk λu _=>?_⟩
 rw[ek,e,b]
 exact Sm.br (λ_=>Sm.no rfl) λ_=>Sm.bdn d rfl λ_=>Sm.rfl'
theorem Zv6 {l w:List Zf} (a:∀ v∈l,KpV m (hmM m H) v):Sm nb (Jj m l w) (Jj (hmM m H) l w):=
 Zv5 rfl λt v e=>⟨v,e,rfl,Zav hH hH' (a v (by unfold Z4 at e; split at e; exact List.mem_of_getElem? e; cases e))⟩
theorem Zva {l:List Zf} (b:Bool) (a:∀ v∈l,KpV m (hmM m H) v):Sm nb (Mh m l b) (Mh (hmM m H) l b):=by
 unfold Mh
 refine Sm.loop' λt=>?_
 unfold Z4d
 refine Sm.br (λ_=>Sm.sk λv e=>?_) λ_=>Sm.rfl'
 exact Sm.bdn (Zav hH hH' (a v (by unfold Z4 at e; split at e; exact List.mem_of_getElem? e; cases e))) rfl λ_=>Sm.rfl'
theorem s_Act {a:Qb} (b:Kp m (hmM m H) a.Vo) (c:∀ v∈a.Y1,KpV m (hmM m H) v) (d:∀ v∈a.Y5,KpV m (hmM m H) v):Sm nb (La m a) (La (hmM m H) a):=by
 unfold La
 refine Sm.br (λ_=>Sm.no rfl) λ_=>Sm.br (λ_=>Sm.no rfl) λ_=>Sm.bdn (Zir hH hH' b) rfl λ_=>?_
 unfold Z89
 refine Sm.br (λ_=>Sm.rfl') λ_=>Sm.br (λ_=>Sm.rfl') λ_=>?_
 unfold Z8a
 refine Sm.sk λe _=>Sm.br (λ_=>Sm.no rfl) λ_=>Sm.br (λ_=>Sm.no rfl) λ_=>Sm.sk λf _=>Sm.br (λ_=>Sm.no rfl) λ_=>?_
 unfold Z8b
 exact Sm.sk λg _=>Sm.br (λ_=>Sm.br (λ_=>Sm.br (λ_=>Sm.br (λ_=>Sm.bdy (Zva hH hH' true c) rfl λ_=>Sm.vv (Zva hH hH' false d)) λ_=>Sm.rfl') λ_=>Sm.rfl') λ_=>Sm.rfl') λ_=>Sm.rfl'
omit hH hH' in
theorem Zv9 {o:Zm} {l':List Zf} (h:∀ w,Sm nb (Jj m o.Zw w) (Jj (hmM m H) l' w)):Sm nb (Z0q m o) (Z0q (hmM m H) { o with Zw:=l' }):=by
 unfold Z0q
 exact Sm.br (λ_=>Sm.br (λ_=>Sm.br (λ_=>Sm.br (λ_=>Sm.sk λb _=>Sm.sk λc _=>Sm.br (λ_=>Sm.br (λ_=>Sm.sk λa _=>Sm.vv (h a)) λ_=>Sm.rfl') λ_=>Sm.rfl') λ_=>Sm.rfl') λ_=>Sm.rfl') λ_=>Sm.rfl') λ_=>Sm.rfl'
theorem s_array {o:Zm} (a:∀ v∈o.Zw,KpV m (hmM m H) v):Sm nb (Z0o m o) (Z0o (hmM m H) o):=by
 unfold Z0o
 refine Sm.sk λb _=>Sm.sk λc _=>Sm.br (λ_=>Sm.no rfl) λ_=>Sm.br (λ_=>Sm.no rfl) λ_=>Sm.br (λ_=>Sm.no rfl) λ_=>Sm.br (λ_=>Sm.no rfl) λ_=>?_
 unfold Z86
 refine Sm.loop' λt=>?_
 unfold Z4m
 refine Sm.br (λ_=>Sm.sk λv e=>Sm.sk λu _=>Sm.br (λ_=>Sm.no rfl) λ_=>?_) λ_=>Sm.rfl'
 rw[e]
 exact Sm.bdn (Zav hH hH' (a v (by unfold Z4 at e; split at e; exact List.mem_of_getElem? e; cases e))) rfl λ_=>Sm.rfl'
omit hH hH' in
theorem Zv7 {t:Int} {o:Zm} {l':List Zf} (b:Z4 m.Z7 t=some o) (a:Z4 H t=some { o with Zw:=l' }):Z0p (hmM m H) t=Z0p m t:=by
 unfold Z0p
 rw[show (hmM m H).Z7=H from rfl,b,a]
 rfl
theorem Zv8 {t:Int} {o:Zm} (b:Z4 m.Z7 t=some o) (a:Z4 H t=some o) (c:∀ v∈o.Zw,KpV m (hmM m H) v):Sm nb (Uy m t) (Uy (hmM m H) t):=by
 have d:=Zv7 (l':=o.Zw) b a
 unfold Uy
 rw[show (hmM m H).Z7=H from rfl,b,a,d]
 simp only[Option.bind_some]
 exact Sm.br (λ_=>Sm.rfl') λ_=>Sm.br (λ_=>Sm.bdy (Zv9 (l':=o.Zw) λw=>Zv6 hH hH' c) rfl λ_=>Sm.rfl') λ_=>Sm.br (λ_=>Sm.bdy (s_array hH hH' c) rfl λ_=>Sm.rfl') λ_=>Sm.rfl'
omit hH hH' in
theorem Y6e {t:Int} {o:Zm} {l':List Zf} (c:Z4 m.Z7 t=some o) (a:Z4 H t=some { o with Zw:=l' }) (b:o.Zj=1) (h:∀ w,Sm nb (Jj m o.Zw w) (Jj (hmM m H) l' w)):Sm nb (Uy m t) (Uy (hmM m H) t):=by
 have d:=Zv7 c a
 unfold Uy
 rw[show (hmM m H).Z7=H from rfl,c,a,d]
 simp only[Option.bind_some]
 have k0: ¬(o.Zj==0)=true:=by rw[b]; decide
 have k1:(o.Zj==1)=true:=by rw[b]; decide
 simp only[if_neg k0,if_pos k1]
 exact Sm.bdy (Zv9 h) rfl λ_=>Sm.rfl'
omit hH hH' in
theorem s_free {t:Int} (a:Z4 H t=some Ko):Uy (hmM m H) t=some true:=by
 unfold Uy
 rw[show (hmM m H).Z7=H from rfl,a]
 rfl
theorem s_begun {t:Int} (h:∀ r,Z4 m.Xb t=some r→∀ v∈r.Qt,KpV m (hmM m H) v):Sm nb (Kf m t) (Kf (hmM m H) t):=by
 unfold Kf
 refine Sm.sk λr b=>?_
 have a:Sm nb (Kx r m t) (Kx r (hmM m H) t):=by
  unfold Kx
  exact Sm.br (λ_=>Sm.rfl') λ_=>Sm.sk λc _=>Sm.vv (Zv6 hH hH' (h r b))
 exact Sm.br (λ_=>Sm.rfl') λ_=>Sm.br (λ_=>Sm.rfl') λ_=>Sm.br (λ_=>Sm.bdn Sm.rfl' rfl λ_=>Sm.br (λ_=>Sm.br (λ_=>Sm.rfl') λ_=>a) λ_=>a) λ_=>Sm.br (λ_=>Sm.br (λ_=>Sm.rfl') λ_=>a) λ_=>a
def KpO (m:Z6) (H:List Zm):Prop:=∀ n o,Q9 m n=some o→IsO (hmM m H) n→∃ vs,Q9 (hmM m H) n=some { o with Zw:=vs }
omit hH hH' in
theorem Zbe {m:Z6} {n:Int} {o:Zm} (h:Q9 m n=some o) (c:m.Z7.length≤140737488355328):Z4 m.Z7 (IntKind.wrap .i64 (n - 1))=some o:=by
 obtain⟨b,a,_⟩:=Jl.1 h
 have:=(List.getElem?_eq_some_iff.1 a).1
 rw[J5 (by omega) (by omega)]
 unfold Z4
 rw[if_pos (by omega)]
 exact a
theorem s_state {t:Int} (d:KpO m H) (h:∀ th,Z4 m.Y9 t=some th→Kp m (hmM m H) th.V2):Sm nb (Z0r m t) (Z0r (hmM m H) t):=by
 unfold Z0r
 refine Sm.sk λth a=>Sm.br (λ_=>Sm.rfl') λ_=>?_
 unfold Z87
 refine Sm.br (λ_=>Sm.rfl') λ_=>?_
 unfold Z88
 have b:=s_is hH hH' (h th a)
 refine Sm.br (λ_=>Sm.bdy b rfl λ_=>Sm.rfl') λ_=>Sm.br (λ_=>Sm.bdy b rfl λe=>Sm.br (λ_=>Sm.sk λk g=>?_) λ_=>Sm.rfl') λ_=>Sm.br (λ_=>Sm.bdy b rfl λ_=>Sm.rfl') λ_=>Sm.rfl'
 cases g
 obtain⟨o,c⟩:=i_is hH _ e
 obtain⟨vs,f⟩:=d _ o c (h th a ⟨o,c⟩)
 rw[Zbe c hH,Zbe (m:=hmM m H) f hH']
 exact Sm.rfl'
theorem s_runs {t:Int} (j:KpO m H) (h:∀ th,Z4 m.Y9 t=some th→∀ x,refT th x→Kp m (hmM m H) x):Sm nb (Kh m t) (Kh (hmM m H) t):=by
 unfold Kh
 refine Sm.sk λth g=>Sm.bdn (s_state hH hH' j λth' e=>?_) rfl λ_=>?_
 ·exact h th' e _ (.inr (.inl rfl))
 have f:=h th g
 refine Sm.bdn (Zir hH hH' (f _ (.inl rfl))) rfl λ_=>Sm.bdn (Zir hH hH' (f _ (.inr (.inr (.inl rfl))))) rfl λ_=>Sm.bdn (Zav hH hH' λc=>f _ (.inr (.inr (.inr (.inl ⟨c,rfl⟩))))) rfl λ_=>Sm.br (λ_=>Sm.no rfl) λ_=>?_
 have d:Sm nb (Lr th m) (Lr th (hmM m H)):=by
  unfold Lr
  refine Sm.loop' λt=>?_
  unfold Z4j
  refine Sm.br (λ_=>Sm.sk λa e=>?_) λ_=>Sm.rfl'
  have k:a∈th.Yu:=by unfold Z4 at e; split at e; exact List.mem_of_getElem? e; cases e
  have b:∀ x,refA a x→Kp m (hmM m H) x:=λx l=>f x (.inr (.inr (.inr (.inr ⟨a,k,l⟩))))
  exact Sm.bdn (s_Act hH hH' (b _ (.inl rfl)) (λv i c=>b _ (.inr (.inl ⟨v,i,c,rfl⟩))) (λv i c=>b _ (.inr (.inr ⟨v,i,c,rfl⟩)))) rfl λ_=>Sm.rfl'
 unfold Z83
 exact Sm.br (λ_=>Sm.br (λ_=>Sm.rfl') λ_=>Sm.br (λ_=>Sm.br (λ_=>Sm.rfl') λ_=>Sm.br (λ_=>Sm.rfl') λ_=>d) λ_=>d) λ_=>Sm.br (λ_=>Sm.br (λ_=>Sm.rfl') λ_=>Sm.br (λ_=>Sm.rfl') λ_=>d) λ_=>d
theorem s_texts (i:KpO m H) (h:∀ y∈m.X1,Kp m (hmM m H) y.Xj):Sm nb (Mg m) (Mg (hmM m H)):=by
 unfold Mg
 refine Sm.loop' λt=>?_
 unfold Z4i
 refine Sm.br (λ_=>Sm.sk λy e=>?_) λ_=>Sm.rfl'
 have g:=h y (by unfold Z4 at e; split at e; exact List.mem_of_getElem? e; cases e)
 have d:=s_is hH hH' g
 have tail:∀ {f b:Zm→Option (Ctl Int (Unit⊕Bool))},Ul m y.Xj=some true→(∀ (o:Zm) vs,Sm cb (f o) (b { o with Zw:=vs }))→Sm cb ((Z4 m.Z7 (IntKind.wrap .i64 (y.Xj - 1))).bind f) ((Z4 (hmM m H).Z7 (IntKind.wrap .i64 (y.Xj - 1))).bind b):=λ{f b} e l=>by
  obtain⟨o,c⟩:=i_is hH _ e
  obtain⟨vs,j⟩:=i _ o c (g ⟨o,c⟩)
  rw[Zbe c hH,Zbe j hH']
  exact l o vs
 refine Sm.br (λ_=>Sm.sk λk _=>Sm.sk λu _=>Sm.br (λ_=>Sm.no rfl) λ_=>?_) λ_=>?_
 ·exact Sm.bdn d rfl λe=>Sm.sk λk a=>by
   cases a
   exact tail e λo vs=>Sm.br (λ_=>Sm.no rfl) λ_=>Sm.sk λk a=>by
    cases a
    exact tail e λo vs=>Sm.rfl'
 ·exact Sm.bdn d rfl λe=>Sm.sk λk a=>by
   cases a
   exact tail e λo vs=>Sm.br (λ_=>Sm.no rfl) λ_=>Sm.sk λk a=>by
    cases a
    exact tail e λo vs=>Sm.rfl'
end
theorem Sm.yes {o a:Option Bool} (h:Sm nb o a) (e:o=some true):a=some true:=(h true e).resolve_left (by unfold nb; simp)
end Go.Proofs
namespace Go.Proofs
open Go.Den Go.Tot
theorem Zbs {α:Type} {l:List α} {t:Int} {v:α} (h:Z4 l t=some v):0≤t∧l[t.toNat]?=some v:=by
 unfold Z4 at h
 split at h
 ·exact⟨by assumption,h⟩
 ·cases h
theorem Zrn {α:Type} {l:List α} {t:Int} {v:α} (a:0≤t) (h:l[t.toNat]?=some v):Z4 l t=some v:=by
 unfold Z4; rw[if_pos a]; exact h
theorem clrV_at {l:List Zf} {t:Int} {v:Zf} (h:Z4 l t=some v) (e:∀ v r,l=v::r→v.Zj=3):
  ∃ a,Z4 (Jd l) t=some a∧a.Zj=v.Zj∧(a=v∨a=Z1z∨(a.Zj=1∧a.f_N=1))∧(t=0→a=Z1z):=by
 obtain⟨d,h⟩:=Zbs h
 cases l with
 | nil=>simp at h
 | cons x r=>
  have g:=e x r rfl
  by_cases c:t=0
  ·subst c
   have:x=v:=by simpa using h
   subst this
   refine⟨Z1z,?_,by rw[g]; rfl,.inr (.inl rfl),λ_=>rfl⟩
   cases r <;> rfl
  ·cases r with
   | nil=>
    have:=(List.getElem?_eq_some_iff.1 h).1
    simp at this
    omega
   | cons w r=>
    by_cases b:t=1
    ·subst b
     have:w=v:=by simpa using h
     subst this
     refine⟨Z0a w,rfl,?_,?_,λh=>by omega⟩
     ·unfold Z0a; split <;> rfl
     ·unfold Z0a
      split
      ·rename_i f; exact .inr (.inr ⟨f,rfl⟩)
      ·exact .inl rfl
    ·refine⟨v,Zrn d ?_,rfl,.inl rfl,λh=>absurd h c⟩
     have:t.toNat=(t.toNat - 2)+1+1:=by omega
     rw[this] at h ⊢
     exact h
theorem Zs0 (m:Z6) (l:List Int) (s:Bool):KpO m (Qe m l s).Z7:=λn o b a=>by
 obtain⟨_,c⟩:=Z6o.1 (show IsO (Qe m l s) n from a)
 have e:=Z3x b c
 split at e
 ·exact⟨_,e⟩
 ·exact⟨o.Zw,e⟩
section
variable {m:Z6} {l:List Int} (h:Lv m l) (s:Bool)
include h
theorem Lv.kp {x:Int} (e:refM m x):Kp m (Qe m l s) x:=λd=>by
 obtain⟨o,a⟩:=d
 obtain⟨b,c,f⟩:=Jl.1 a
 exact Z6o.2 ⟨⟨o,a⟩,h.ret_root s ((Zar m x).2 ⟨b,o,c,.inl e⟩)⟩
theorem Lv.kpV {n:Int} {o:Zm} (p:Q9 m n=some o) (B:Qj s (Q8 l n)=true) {t:Int} {v:Zf} (c:Z4 o.Zw t=some v) (C:t=0→clB m l s n=false):KpV m (Qe m l s) v:=λy w=>by
 obtain⟨D,c⟩:=Zbs c
 have f:v.f_N≠0:=by
  obtain⟨F,q⟩:=w
  have:=(Jl.1 q).1
  omega
 refine Z6o.2 ⟨w,?_⟩
 by_cases b:v.f_N∈Uc m n
 ·exact h.ret_ref p B b
 ·-- the first value of a reference
  have j:∀ d,d≤t.toNat→v.f_N∈vtg (o.Zw.drop d):=λd E=>(Zj4 _ _).2 ⟨v,List.mem_of_getElem? (i:=t.toNat - d) (by rw[List.getElem?_drop,show d+(t.toNat - d)=t.toNat by omega]; exact c),y,f,rfl⟩
  have hst:0<Wr m.Y0 o∧t=0:=by
   refine Classical.byContradiction λk=>b ?_
   unfold Uc
   rw[p]
   dsimp only
   unfold refJ
   refine j _ ?_
   split
   ·rename_i hp
    have:t≠0:=λe=>k ⟨hp,e⟩
    omega
   ·omega
  obtain⟨hs,rfl⟩:=hst
  have u:toO m n=v.f_N:=by
   unfold toO
   rw[p]
   dsimp only
   unfold toJ
   rw[if_neg (by omega)]
   cases z:o.Zw with
   | nil=>rw[z] at c; simp at c
   | cons x r=>
    rw[z] at c
    have:x=v:=by simpa using c
    subst this
    simp only[if_pos y]
  have g:=C rfl
  unfold clB at g
  rw[u] at g
  have A:(v.f_N !=0)=true:=by simpa using f
  rw[A,Bool.true_and] at g
  simpa using g
theorem Lv.val {hw:V4 m} (v:Uo m):Uo (Qe m l s):=by
 have hH:=hw.heapL
 have a:(Qe m l s).Z7.length≤140737488355328:=by rw[Z2j]; exact hH
 refine⟨v.sp,v.vok,v.max0,v.max1,by rw[Z2j]; exact v.heap,v.init,v.thr,?_,λt g i=>?_,λt g i=>?_,λt g i=>?_⟩
 ·exact(s_texts hH a (Zs0 m l s) λy N=>h.kp s (.inr (.inr ⟨y,N,rfl⟩))).yes v.txt
 ·rw[Z2j] at i
  have q:=v.obj t g i
  obtain⟨o,eo,_,D⟩:=gri (l:=m.Z7) g i
  have d:Z4 (Qe m l s).Z7 t=some (Wf m l s (t+1) o):=by
   have:=Z6n m l s (n:=t+1) (by omega)
   rw[show (t+1 - 1).toNat=t.toNat by omega,D] at this
   exact Zrn g this
  by_cases f:o.Zj=0
  ·have e:Wf m l s (t+1) o=o:=by unfold Wf; rw[if_pos f]
   rw[e] at d
   refine(Zv8 hH a eo d λv B=>?_).yes q
   rw[h.mg.fval o (List.mem_of_getElem? D) f] at B
   cases B
  ·have p:Q9 m (t+1)=some o:=Jl.2 ⟨by omega,by rw[show (t+1 - 1).toNat=t.toNat by omega]; exact D,f⟩
   by_cases z:Qj s (Q8 l (t+1))=true
   ·by_cases c:clB m l s (t+1)=true
    ·have e:Wf m l s (t+1) o={ o with Zw:=Jd o.Zw }:=by unfold Wf; rw[if_neg f,if_pos z,if_pos c]; rfl
     rw[e] at d
     obtain⟨_,C,x,r,L,G,_⟩:=Z6l p c
     refine(Y6e eo d C λw=>Zv5 (Zry _) λk u H=>?_).yes q
     obtain⟨R,J,ek,j,O⟩:=clrV_at H λI S e=>by rw[L] at e; cases e; exact G
     refine⟨R,J,ek,?_⟩
     by_cases A:k=0
     ·rw[O A]
      intro b _
      cases b with
      | false=>exact .inl rfl
      | true=>exact .inr rfl
     ·rcases j with rfl|rfl|⟨P,Q⟩
      ·exact Zav hH a (h.kpV s p z H λe=>absurd e A)
      ·intro b _
       cases b with
       | false=>exact .inl rfl
       | true=>exact .inr rfl
      ·intro b _
       cases b with
       | false=>exact .inl rfl
       | true=>
        refine .inr ?_
        unfold Jt
        rw[P,Q]
        rfl
    ·have e:Wf m l s (t+1) o=o:=by unfold Wf; rw[if_neg f,if_pos z,if_neg c]
     rw[e] at d
     refine(Zv8 hH a eo d λv B=>?_).yes q
     obtain⟨k,_,_,K⟩:=Zbt B
     exact h.kpV s p z K λ_=>by simpa using c
   ·have e:Wf m l s (t+1) o=Ko:=by unfold Wf; rw[if_neg f,if_neg z]
    rw[e] at d
    exact s_free d
 ·refine(s_begun hH a λr z I F f=>?_).yes (v.beg t g i)
  exact h.kp s (.inr (.inl ⟨r,List.mem_of_getElem? (Zbs z).2,I,F,f,rfl⟩))
 ·refine(s_runs hH a (Zs0 m l s) λth E x M=>?_).yes (v.run t g i)
  exact h.kp s (.inl ⟨th,List.mem_of_getElem? (Zbs E).2,M⟩)
end
end Go.Proofs
namespace Go.Proofs
open Go.Den Go.Tot
theorem Y4y (m:Z6) (h:V4 m) (s:Bool):Zto m s=some true:=by
 refine Z99 h λf=>?_
 have g:=Uo.mg h f
 obtain⟨l,e,_,c⟩:=g.lv
 have hw:=Zk6 l s h
 have b:Uo (Qe m l s):=c.val s (hw:=h) f
 have d:=Uo.mg hw b
 obtain⟨l',k,_,a⟩:=d.lv
 rw[c.colP h s e,Z5z]
 simp only[Option.bind_some]
 rw[a.colP hw s k,c.col_again a,c.unr_again a]
 simp only[Option.bind_some]
 rw[b.valid hw,Zsm _ hw]; rfl
end Go.Proofs
