/-
  The laws of constraints. No condition.
-/
import Derived.Test.YtoijcliccgjolaaGreatConS
set_option linter.unusedVariables false
namespace Go.Proofs
open Go.Den Go.Tot
theorem works26 : Zb1 = some true:=by decide +kernel
abbrev Yes (o : Option Bool) : Prop:=Ok o fun r=>r = true
theorem Yes.eq {o : Option Bool} (h : Yes o) : o = some true:=by obtain ⟨r,e,h⟩:=h; rw [e,h]
theorem yes26 : Yes (Zb1.bind fun v=>some v):=ok' (by rw [works26]; rfl) rfl
theorem small26 (w : Z0b) : Ok (Zhh w) (fun b=>b = true → w.Z0m.length ≤ 30):=by
 unfold Zhh
 exact brD (fun _=>brD (fun _=>brD (fun _=>ok fun h=>by have:=of_decide_eq_true h; omega) fun _=>ok (by simp)) fun _=>ok (by simp)) fun _=>ok (by simp)
theorem bool_eq {a b : Bool} {P : Prop} (h : a = true ↔ P) (g : b = true ↔ P) : a = b:=by
 cases a <;> cases b <;> simp_all
theorem brT {α : Type} {b : Bool} {x y : Option α} {P : α → Prop} (hb : b = true) (h : Ok x P) : Ok (if b = true then x else y) P:=by rw [if_pos hb]; exact h
theorem Zz8 (w : Z0b) (hw : Z47 w) : Zlp w = some true:=by
 refine Yes.eq ?_
 unfold Zlp
 refine bd (small26 w) fun b hb=>br! (fun _=>yes26) fun e=>?_
 have hc:=hb e; have hi:=hw.iniL
 exact bd (cons_ok w (by omega) hi) fun a ha=>bd (Zzf w (by omega) hi) fun b hb=>brT (by rw [bool_eq ha hb]; simp) (br (fun _=>yes26) fun e=>bd (Zzh w hw) fun v hv=>br! (fun _=>yes26) fun ev=>absurd (ha.2 ((hv.1 ev).cons hw)) (by simp [e]))
end Go.Proofs
