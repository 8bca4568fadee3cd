/-
  The laws of constraints. No condition.
-/
import Derived.Test.YtoijcliccgjolaaGreatConS
set_option linter.unusedVariables false
namespace Go.Proofs
open Go.Den Go.Tot
theorem works26 : Zec = some true:=by decide +kernel
abbrev Yes (o : Option Bool) : Prop:=Ok o fun r=>r = true
theorem Yes.eq {o : Option Bool} (h : Yes o) : o = some true:=by obtain ⟨r,e,h⟩:=h; rw [e,h]
theorem Zk5 : Yes (Zec.bind fun v=>some v):=ok' (by rw [works26]; rfl) rfl
theorem small26 (w : Z04) : Ok (Zi9 w) (fun b=>b = true → w.Z0g.length ≤ 30):=by
 unfold Zi9
 exact brD (fun _=>brD (fun _=>brD (fun _=>ok fun h=>by have:=of_decide_eq_true h; omega) fun _=>ok (by simp)) fun _=>ok (by simp)) fun _=>ok (by simp)
theorem Zz6 {T R : Type} {f g : T → Option (Ctl T R)} (I : T → Prop) (h : ∀ t,I t → g t = f t ∧ ∀ t',f t = some (.next t') → I t') : ∀ n t,I t → Z09 g n t = Z09 f n t
 | 0,_,_=>rfl
 | n + 1,t,ht=>by
  obtain ⟨e,k⟩:=h t ht
  unfold Z09
  rw [e]
  cases hf : f t with
  | none=>rfl
  | some x=>cases x with
   | next t'=>exact Zz6 I h n t' (k t' hf)
   | done r=>rfl
theorem Zqp (w : Z04) (S : Sp w) (s : List UInt8) (hs : Str s) (a b : Int) : ∃ r,Z6a w s a b = some r ∧ Z9x w s a b = some r ∧ Z7f w s a b r:=by
 obtain ⟨r,e,h⟩:=add_ok w S s hs a b
 obtain ⟨r',e',h'⟩:=add_ref w S s hs a b
 exact ⟨r,e,by rw [e',h.eq h'],h⟩
abbrev T19:=Int × (List Z0t) × (List Z1m) × (List Z1o) × (List Z0x)
def Z6p (t : T19) : Z04:={ Z0w:=t.2.1,Z1x:=t.2.2.1,Z0l:=t.2.2.2.1,Z0g:=t.2.2.2.2 }
theorem Zzo (w : Z04) (S : Sp w) (hc : w.Z0g.length ≤ 30) (l : List (List UInt8)) (hl : l.length ≤ 10) (hs : ∀ s ∈ l,Str s) (a b : Int) : ∃ r,Zht w l a b = some r ∧ Zge w l a b = some r ∧ Z30 r.1:=by
 let I : T19 → Prop:=fun t=>0 ≤ t.1 ∧ t.1 ≤ l.length ∧ Z30 (Z6p t) ∧ Val (Z6p t) ∧ ((Z6p t).Z0g.length : Int) ≤ 30 + t.1
 have step : ∀ t,I t → ∃ x,Zaf w l a b t = some x ∧ Zf8 w l a b t = some x ∧ match x with | .next t'=>I t' ∧ t.1 < t'.1 | .done (.inl q)=>q = t.2 | .done (.inr r)=>r.1 = w:=fun t ⟨h0,h1,h2,h3,h4⟩=>by
  unfold Zaf Zf8
  by_cases hlt : t.1 < (l.length : Int)
  ·rw [if_pos (decide_eq_true hlt),if_pos (decide_eq_true hlt)]
   obtain ⟨v,e,hv⟩:=gr (l:=l) h0 hlt
   have hcl : (Z6p t).Z0g.length ≤ 990:=by omega
   obtain ⟨r,e1,e2,hr⟩:=Zqp (Z6p t) ⟨h2,h3,hcl⟩ v (hs v hv) a b
   obtain ⟨k1,k2,k3,_⟩:=hr.sp ⟨h2,h3,hcl⟩ (hs v hv)
   rw [e]
   show ∃ x,((Z6a (Z6p t) v a b).bind _) = some x ∧ ((Z9x (Z6p t) v a b).bind _) = some x ∧ _
   rw [e1,e2]
   dsimp only [Option.bind]
   by_cases hr0 : r.2 = 0
   ·rw [if_neg (by simp [hr0]),Zjf (by omega) (by omega)]
    exact ⟨_,rfl,rfl,⟨by dsimp only; omega,by dsimp only; omega,k1,k2,by dsimp only [Z6p] at *; omega⟩,by dsimp only; omega⟩
   ·rw [if_pos (by simpa using hr0)]
    exact ⟨_,rfl,rfl,rfl⟩
  ·rw [if_neg (by simpa using hlt),if_neg (by simpa using hlt)]
   exact ⟨_,rfl,rfl,rfl⟩
 have hI : I (0,w.Z0w,w.Z1x,w.Z0l,w.Z0g):=⟨by dsimp only; omega,by dsimp only; omega,S.sw,S.sv,by dsimp only [Z6p]; omega⟩
 have hsame : Z09 (Zf8 w l a b) Z0a (0,w.Z0w,w.Z1x,w.Z0l,w.Z0g) = Z09 (Zaf w l a b) Z0a (0,w.Z0w,w.Z1x,w.Z0l,w.Z0g):=Zz6 I (fun t ht=>by
  obtain ⟨x,e1,e2,h⟩:=step t ht
  refine ⟨by rw [e1,e2],fun t' ht'=>?_⟩
  rw [e1] at ht'; cases ht'
  exact h.1) _ _ hI
 unfold Zht Zge
 rw [hsame]
 have hq : Ok (Z09 (Zaf w l a b) Z0a (0,w.Z0w,w.Z1x,w.Z0l,w.Z0g)) (fun q=>match q with | .inl q=>Z30 (Z6p (0,q)) | .inr r=>r.1 = w):=by
  refine lp (fun t=>t.1) l.length I (fun t ht h0 h1=>?_) (by omega) hI (by dsimp only; omega) (by dsimp only; omega)
  obtain ⟨x,e1,_,h⟩:=step t ht
  refine ⟨x,e1,?_⟩
  match x,h with
  | .next t',h=>exact ⟨h.1,h.2,h.1.2.1⟩
  | .done (.inl q),h=>subst h; exact ht.2.2.1
  | .done (.inr r),h=>exact h
 obtain ⟨q,e,h⟩:=hq
 rw [e]
 cases q with
 | inl q=>exact ⟨_,rfl,rfl,h⟩
 | inr r=>exact ⟨_,rfl,rfl,by rw [h]; exact S.sw⟩
theorem Y2h (w : Z04) (hw : Z30 w) (l : List (List UInt8)) (x : Z1l) (hs : ∀ s ∈ l,Str s) (E : ∀ w,Z30 w → Zaq w w = some true) : Zmq w l x = some true:=by
 refine Yes.eq ?_
 unfold Zmq
 refine bd (small26 w) fun b hb=>br! (fun _=>Zk5) fun e=>brD (fun _=>Zk5) fun hl=>bd (Y0g w hw) fun v hv=>br! (fun _=>Zk5) fun e'=>?_
 have hc:=hb e
 have S : Sp w:=⟨hw,hv.1 e',by omega⟩
 unfold j7x1
 obtain ⟨r,e1,e2,hr⟩:=Zzo w S hc l (by omega) hs x.a0 x.a1
 rw [e1,e2]
 refine bs (bs (brN (fun h=>absurd rfl h) fun _=>?_))
 rw [E r.1 hr]
 refine bs (br! (fun h=>by cases h) fun _=>?_)
 unfold j7x2
 refine bd (P:=fun q=>q = .inl ()) (li l.length (fun t h0 h1=>?_) (by omega) (by omega) (by omega)) fun q hq=>by subst hq; exact Zk5
 unfold l7x1
 refine brD (fun hlt=>?_) fun _=>di rfl
 obtain ⟨v,ev,hv⟩:=gr (l:=l) h0 hlt
 obtain ⟨r,e1,e2,hr⟩:=Zqp w S v (hs v hv) x.a0 x.a1
 rw [ev]
 refine bs ?_
 rw [e1]
 refine bs (bs ?_)
 rw [e2]
 refine bs (brN (fun h=>absurd rfl h) fun _=>?_)
 rw [E r.1 (hr.sp S (hs v hv)).1]
 exact bs (br! (fun h=>by cases h) fun _=>bd (wr (by omega) (by omega)) fun k hk=>ni (by omega) (by omega))
end Go.Proofs
