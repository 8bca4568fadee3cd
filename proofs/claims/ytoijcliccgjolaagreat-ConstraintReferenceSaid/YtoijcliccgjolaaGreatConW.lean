/-
  The laws of constraints. No condition.
-/
import Derived.Test.YtoijcliccgjolaaGreatConS
set_option linter.unusedVariables false
namespace Go.Proofs
open Go.Den Go.Tot
theorem works26 : Zd8 = some true:=by decide +kernel
abbrev Yes (o : Option Bool) : Prop:=Ok o fun r=>r = true
theorem Yes.eq {o : Option Bool} (h : Yes o) : o = some true:=by obtain ⟨r,e,h⟩:=h; rw [e,h]
theorem Zhl : Yes (Zd8.bind fun v=>some v):=ok' (by rw [works26]; rfl) rfl
theorem small26 (w : Z0b) : Ok (Ziq w) (fun b=>b = true → w.Z0s.length ≤ 30):=by
 unfold Ziq
 exact brD (fun _=>brD (fun _=>brD (fun _=>ok fun h=>by have:=of_decide_eq_true h; omega) fun _=>ok (by simp)) fun _=>ok (by simp)) fun _=>ok (by simp)
theorem Zvl {a b : Bool} {P : Prop} (h : a = true ↔ P) (g : b = true ↔ P) : a = b:=by
 cases a <;> cases b <;> simp_all
theorem brT {α : Type} {b : Bool} {x y : Option α} {P : α → Prop} (hb : b = true) (h : Ok x P) : Ok (if b = true then x else y) P:=by rw [if_pos hb]; exact h
theorem Zwx (w : Z0b) (hw : Z4r w) (s : List UInt8) (x : Z74) : Zm1 w s x = some true:=by
 refine Yes.eq ?_
 unfold Zm1
 refine bd (small26 w) fun b hb=>br! (fun _=>Zhl) fun e=>brD (fun _=>Zhl) fun _=>bd (Y0i w hw) fun v hv=>br! (fun _=>Zhl) fun e'=>?_
 have V:=hv.1 e'; have hc:=hb e; have hi:=hw.iniL
 unfold j3x1
 refine bd (conn_ok w s x.a0 x.a1 (by omega)) fun c1 h1=>bd (Zxy w s x.a0 x.a1 (by omega) (V.lod hw) V.con') fun c2 h2=>brT (by rw [Zvl h1 h2]; simp) ?_
 exact bd (perm_ok w x.a0 s x.a2 (by omega) hi) fun c1 h1=>bd (Zxl w x.a0 s x.a2 (by omega) hi (V.lod hw) V.con' (V.seen hw)) fun c2 h2=>brT (by rw [Zvl h1 h2]; simp) Zhl
end Go.Proofs
