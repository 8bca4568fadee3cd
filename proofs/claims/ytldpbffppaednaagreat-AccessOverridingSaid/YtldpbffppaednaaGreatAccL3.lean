/-
  The laws of access. No condition.
-/
import Derived.Test.YtldpbffppaednaaGreatAccL2
set_option linter.unusedVariables false
namespace Go.Proofs
open Go.Den Go.Tot
theorem Zoo : Zdq = some true:=by decide +kernel
theorem Zpj : (Zdq.bind fun v=>some v) = some true:=by rw [Zoo]; rfl
abbrev Yes (o : Option Bool) : Prop:=Ok o fun r=>r = true
theorem Yes.eq {o : Option Bool} (h : Yes o) : o = some true:=by obtain ⟨r,e,h⟩:=h; rw [e,h]
theorem few29 {w : Z0c} {f : Bool → Option Bool} (hf : Yes (f false)) (ht : Yes (f true)) : Yes ((Zbh w).bind f):=by
 unfold Zbh
 cases decide ((w.Z1d.length : Int) ≤ 40) <;> assumption
theorem guard29 {w : Z0c} (hw : Z4u w) {s k : Option Bool} (hs : s = some true) (h : Z5g w → Yes k) :
  Yes ((Zbh w).bind fun v0=>if (!v0) = true then s else (Zda w).bind fun v1=>if (!v1) = true then s else k):=
 have z : Yes s:=ok' hs rfl
 few29 z (bd (Zwm w hw) fun b hb=>br! (fun _=>z) fun e=>h (hb e))
structure Two (w : Z0c) (a b : Int) (s t : Bool) : Prop where
 s1 : Z8r w a b = some s
 s2 : Zix w a b = some s
 t1 : Zbv w a b = some t
 t2 : Zaa w a b = some t
theorem two29 (w : Z0c) (hw : Z4u w) (hv : Z5g w) (a b : Int) : ∃ s t,Two w a b s t:=by
 obtain ⟨s,h1,h2,_⟩:=same_eq w hw a b
 obtain ⟨t,h3,h4,_⟩:=Zpf w hv a b
 exact ⟨s,t,h1,h2,h3,h4⟩
def memb (f a b : Int) (s t : Bool) : Bool:=
 if Z26 .i64 f 1 ≠ 0 then true else if Z26 .i64 f 2 ≠ 0 then a == b else s || (Z26 .i64 f 4 != 0 && t)
theorem Zpn {w : Z0c} {a b : Int} {s t : Bool} (h : Two w a b s t) (f : Int) : Z6x w a b f = some (decide (In w a) && decide (In w b) && memb f a b s t) ∧ Zvj w a b f = some (decide (In w a) && decide (In w b) && memb f a b s t):=by
 unfold Z6x Zvj j13x1 j14x1 j14x2 memb
 rw [Zha,Zha,Zv0,Zv0,h.s1,h.s2,h.t1,h.t2]
 by_cases ha : In w a <;> by_cases hb : In w b <;> simp [ha,hb]
 by_cases h1 : Z26 .i64 f 1 = 0 <;> simp [h1]
 by_cases h2 : Z26 .i64 f 2 = 0 <;> simp [h2]
 by_cases h4 : Z26 .i64 f 4 = 0 <;> cases s <;> cases t <;> simp [h4]
theorem Zyk (w : Z0c) (hw : Z4u w) (a b : Int) : Zrh w a b = some true:=by
 refine (guard29 hw Zpj fun hv=>?_ : Yes _).eq
 obtain ⟨s,t,h⟩:=two29 w hw hv a b
 rw [h.t2]
 refine bs (br! (fun _=>ok' Zpj rfl) fun e=>?_)
 subst e
 have hin : In w a ∧ In w b:=by
  refine Decidable.byContradiction fun hn=>?_
  obtain ⟨r,e1,_,e3⟩:=Zpf w hv a b
  rw [h.t1] at e1; cases e1
  exact absurd (e3 hn) (by simp)
 unfold j7x1
 rw [Zoo,(Zpn h 4).1,(Zpn h 28).1]
 have m4 : memb 4 a b s true = true:=by unfold memb; rw [if_neg (by decide),if_neg (by decide)]; simp [show Z26 .i64 4 4 = 4 by decide]
 have m28 : memb 28 a b s true = true:=by unfold memb; rw [if_neg (by decide),if_neg (by decide)]; simp [show Z26 .i64 28 4 = 4 by decide]
 exact ok' (by simp [hin.1,hin.2,m4,m28]) rfl
end Go.Proofs
