/-
  Models of functions of the program, part 1, and that the functions compute them. Printed by den2.py. No condition.
-/
import Derived.Test.YtbblhamkmlfgfaaRows
import Derived.Test.YtbblhamkmlfgfaaDenMod
import Derived.Test.YtbblhamkmlfgfaaDenClaim
set_option linter.unusedVariables false
namespace Go.Proofs
open Go.Den
/-! ### armature name.class -/
noncomputable def b22 : Code := Try.f22.body.getD .skip
noncomputable def c22x0 : Code := sub1 b22
noncomputable def c22x1 : Code := sub0 c22x0
noncomputable def c22x2 : Code := sub0 c22x1
noncomputable def c22x3 : Code := sub1 c22x2
noncomputable def c22x4 : Code := sub0 c22x3
noncomputable def c22x5 : Code := sub1 c22x3
noncomputable def c22x6 : Code := sub1 c22x0
noncomputable def c22x7 : Code := sub0 c22x2
noncomputable def c22x8 : Code := sub1 c22x7
noncomputable def c22x9 : Code := sub1 c22x8
noncomputable def c22x10 : Code := sub0 c22x9
noncomputable def c22x11 : Code := sub1 c22x9
noncomputable def c22x12 : Code := sub0 c22x8
noncomputable def c22x13 : Code := sub1 c22x11
noncomputable def c22x14 : Code := sub0 c22x13
noncomputable def c22x15 : Code := sub1 c22x13
noncomputable def c22x16 : Code := sub0 c22x11
noncomputable def c22x17 : Code := sub0 c22x15
noncomputable def c22x18 : Code := sub1 c22x15
noncomputable def c22x19 : Code := sub0 c22x5
noncomputable def c22x20 : Code := sub1 c22x5
noncomputable def c22x21 : Code := sub0 c22x20
noncomputable def c22x22 : Code := sub1 c22x20
def j22x4 (x0 : Int) : Option (Int) :=
  if (decide ((48 : Int) ≤ x0)) = true then (if (decide (x0 ≤ 57)) = true then
    (some 2) else
  (some 0)) else
  (some 0)
def j22x3 (x0 : Int) : Option (Int) :=
  if (x0 == 36) = true then
    (some 1) else
  ((j22x4 x0) )
def j22x2 (x0 : Int) : Option (Int) :=
  if (x0 == 95) = true then
    (some 1) else
  ((j22x3 x0) )
def j22x1 (x0 : Int) : Option (Int) :=
  if (decide ((65 : Int) ≤ x0)) = true then (if (decide (x0 ≤ 90)) = true then
    (some 1) else
  ((j22x2 x0) )) else
  ((j22x2 x0) )
def m_name_class (x0 : Int) : Option (Int) :=
  if (decide ((97 : Int) ≤ x0)) = true then (if (decide (x0 ≤ 122)) = true then
    (some 1) else
  ((j22x1 x0) )) else
  ((j22x1 x0) )
theorem wj22x4 (x0 : Int) (r : Int) (h : (j22x4 x0)  = some r) (Γ : Ctx) : EvOk Try.prog Γ (Den.Ends Try.prog Try.f22 (.int .i64 r)) (mkS 27 [(0, .int .u8 x0)] []) (.stop c22x19 [.seq c22x20, .blk 0, .seq c22x6]) := by
  refine EvOk.stop ?_
  rcases Bool.eq_false_or_eq_true (decide ((48 : Int) ≤ x0)) with h6 | h6
  · replace h := iteT h6 h
    refine At.adv [] [(6, { told := [(5, { ans := .yes })], gs := [(3, true), (4, true)], keep := some ([20], []) })] 400 (ev := .cond (decide (x0 ≤ 57)) c22x21 c22x22 [.blk 0, .seq c22x6]) (σ' := mkS 27 [(20, .bool (decide (x0 ≤ 57)))] []) (q := [((decide ((48 : Int) ≤ x0)) == true) = true ∧ True, ((decide ((48 : Int) ≤ x0)) == true) = true ∧ True, True ∧ ((decide ((48 : Int) ≤ x0)) = true)]) (by kernel_rfl) ⟨⟨(gB h6 rfl), trivial⟩, ⟨(gB h6 rfl), trivial⟩, ⟨trivial, h6⟩, trivial⟩ ?_
    refine EvOk.cond (fun h7 => ?_) (fun h7 => ?_)
    · replace h := iteT h7 h
      refine At.gc [] [] (n := 27) (l := []) (bl := []) (by kernel_rfl) ?_
      refine At.adv [] [(7, { told := [], gs := [], keep := some ([2], []) })] 400 (ev := .ret) (σ' := mkS 27 [(2, .int .i64 2)] []) (q := []) (by kernel_rfl) trivial ?_
      refine EvOk.ret ?_
      obtain rfl := someE h
      exact Den.Ends.mk (.inl rfl) (d := .int .i64 2) (p := (True ∧ True) ∧ (True ∧ True)) (by kernel_rfl) ⟨⟨trivial, trivial⟩, ⟨trivial, trivial⟩⟩ (by kernel_rfl)
    · replace h := iteF h7 h
      refine At.gc [] [] (n := 27) (l := []) (bl := []) (by kernel_rfl) ?_
      refine At.adv [] [(8, { told := [], gs := [], keep := some ([2], []) })] 400 (ev := .ret) (σ' := mkS 27 [(2, .int .i64 0)] []) (q := []) (by kernel_rfl) trivial ?_
      refine EvOk.ret ?_
      obtain rfl := someE h
      exact Den.Ends.mk (.inl rfl) (d := .int .i64 0) (p := (True ∧ True) ∧ (True ∧ True)) (by kernel_rfl) ⟨⟨trivial, trivial⟩, ⟨trivial, trivial⟩⟩ (by kernel_rfl)
  · replace h := iteF h6 h
    refine At.adv [] [(6, { told := [(5, { ans := .no })], gs := [(3, false), (4, false)], keep := some ([20], []) })] 400 (ev := .cond false c22x21 c22x22 [.blk 0, .seq c22x6]) (σ' := mkS 27 [(20, .bool false)] []) (q := [((decide ((48 : Int) ≤ x0)) == true) = false, ((decide ((48 : Int) ≤ x0)) == true) = false, True ∧ ((decide ((48 : Int) ≤ x0)) = false)]) (by kernel_rfl) ⟨gB h6 rfl, gB h6 rfl, ⟨trivial, h6⟩, trivial⟩ ?_
    refine EvOk.cond (fun hb => Bool.noConfusion hb) (fun _ => ?_)
    refine At.gc [] [] (n := 27) (l := []) (bl := []) (by kernel_rfl) ?_
    refine At.adv [] [(8, { told := [], gs := [], keep := some ([2], []) })] 400 (ev := .ret) (σ' := mkS 27 [(2, .int .i64 0)] []) (q := []) (by kernel_rfl) trivial ?_
    refine EvOk.ret ?_
    obtain rfl := someE h
    exact Den.Ends.mk (.inl rfl) (d := .int .i64 0) (p := (True ∧ True) ∧ (True ∧ True)) (by kernel_rfl) ⟨⟨trivial, trivial⟩, ⟨trivial, trivial⟩⟩ (by kernel_rfl)
theorem wj22x3 (x0 : Int) (r : Int) (h : (j22x3 x0)  = some r) (Γ : Ctx) : EvOk Try.prog Γ (Den.Ends Try.prog Try.f22 (.int .i64 r)) (mkS 27 [(0, .int .u8 x0), (3, .bool (x0 == 36))] []) (.cond (x0 == 36) c22x4 c22x5 [.blk 0, .seq c22x6]) := by
  refine EvOk.cond (fun h5 => ?_) (fun h5 => ?_)
  · replace h := iteT h5 h
    refine At.gc [] [] (n := 27) (l := []) (bl := []) (by kernel_rfl) ?_
    refine At.adv [] [(5, { told := [], gs := [], keep := some ([2], []) })] 400 (ev := .ret) (σ' := mkS 27 [(2, .int .i64 1)] []) (q := []) (by kernel_rfl) trivial ?_
    refine EvOk.ret ?_
    obtain rfl := someE h
    exact Den.Ends.mk (.inl rfl) (d := .int .i64 1) (p := (True ∧ True) ∧ (True ∧ True)) (by kernel_rfl) ⟨⟨trivial, trivial⟩, ⟨trivial, trivial⟩⟩ (by kernel_rfl)
  · replace h := iteF h5 h
    refine At.gc [0] [] (n := 27) (l := [(0, .int .u8 x0)]) (bl := []) (by kernel_rfl) ?_
    refine At.adv [6] [] 400 (ev := .stop c22x19 [.seq c22x20, .blk 0, .seq c22x6]) (σ' := mkS 27 [(0, .int .u8 x0)] []) (q := []) (by kernel_rfl) trivial ?_
    exact (wj22x4 x0)  r h Γ
theorem wj22x2 (x0 : Int) (r : Int) (h : (j22x2 x0)  = some r) (Γ : Ctx) : EvOk Try.prog Γ (Den.Ends Try.prog Try.f22 (.int .i64 r)) (mkS 27 [(0, .int .u8 x0)] []) (.stop c22x14 [.seq c22x15, .seq c22x3, .blk 0, .seq c22x6]) := by
  refine EvOk.stop ?_
  refine At.adv [] [(3, { told := [], gs := [], keep := some ([0, 3], []) })] 400 (ev := .cond (x0 == 95) c22x17 c22x18 [.seq c22x3, .blk 0, .seq c22x6]) (σ' := mkS 27 [(0, .int .u8 x0), (3, .bool (x0 == 95))] []) (q := []) (by kernel_rfl) trivial ?_
  refine EvOk.cond (fun h4 => ?_) (fun h4 => ?_)
  · replace h := iteT h4 h
    refine At.adv [] [] 400 (ev := .cond (x0 == 95) c22x4 c22x5 [.blk 0, .seq c22x6]) (σ' := mkS 27 [(0, .int .u8 x0), (3, .bool (x0 == 95))] []) (q := []) (by kernel_rfl) trivial ?_
    refine EvOk.cond (fun _ => ?_) (fun hb => Bool.noConfusion (h4.symm.trans hb))
    refine At.gc [] [] (n := 27) (l := []) (bl := []) (by kernel_rfl) ?_
    refine At.adv [] [(5, { told := [], gs := [], keep := some ([2], []) })] 400 (ev := .ret) (σ' := mkS 27 [(2, .int .i64 1)] []) (q := []) (by kernel_rfl) trivial ?_
    refine EvOk.ret ?_
    obtain rfl := someE h
    exact Den.Ends.mk (.inl rfl) (d := .int .i64 1) (p := (True ∧ True) ∧ (True ∧ True)) (by kernel_rfl) ⟨⟨trivial, trivial⟩, ⟨trivial, trivial⟩⟩ (by kernel_rfl)
  · replace h := iteF h4 h
    refine At.gc [0] [] (n := 27) (l := [(0, .int .u8 x0)]) (bl := []) (by kernel_rfl) ?_
    refine At.adv [] [(4, { told := [], gs := [], keep := some ([0, 3], []) })] 400 (ev := .cond (x0 == 36) c22x4 c22x5 [.blk 0, .seq c22x6]) (σ' := mkS 27 [(0, .int .u8 x0), (3, .bool (x0 == 36))] []) (q := []) (by kernel_rfl) trivial ?_
    exact (wj22x3 x0)  r h Γ
theorem wj22x1 (x0 : Int) (r : Int) (h : (j22x1 x0)  = some r) (Γ : Ctx) : EvOk Try.prog Γ (Den.Ends Try.prog Try.f22 (.int .i64 r)) (mkS 27 [(0, .int .u8 x0)] []) (.stop c22x10 [.seq c22x11, .seq c22x3, .blk 0, .seq c22x6]) := by
  refine EvOk.stop ?_
  rcases Bool.eq_false_or_eq_true (decide ((65 : Int) ≤ x0)) with h2 | h2
  · replace h := iteT h2 h
    refine At.adv [] [(2, { told := [(5, { ans := .yes })], gs := [(3, true), (4, true)], keep := some ([0, 3], []) })] 400 (ev := .cond (decide (x0 ≤ 90)) c22x16 c22x13 [.seq c22x3, .blk 0, .seq c22x6]) (σ' := mkS 27 [(0, .int .u8 x0), (3, .bool (decide (x0 ≤ 90)))] []) (q := [((decide ((65 : Int) ≤ x0)) == true) = true ∧ True, ((decide ((65 : Int) ≤ x0)) == true) = true ∧ True, True ∧ ((decide ((65 : Int) ≤ x0)) = true)]) (by kernel_rfl) ⟨⟨(gB h2 rfl), trivial⟩, ⟨(gB h2 rfl), trivial⟩, ⟨trivial, h2⟩, trivial⟩ ?_
    refine EvOk.cond (fun h3 => ?_) (fun h3 => ?_)
    · replace h := iteT h3 h
      refine At.adv [] [] 400 (ev := .cond (decide (x0 ≤ 90)) c22x4 c22x5 [.blk 0, .seq c22x6]) (σ' := mkS 27 [(0, .int .u8 x0), (3, .bool (decide (x0 ≤ 90)))] []) (q := []) (by kernel_rfl) trivial ?_
      refine EvOk.cond (fun _ => ?_) (fun hb => Bool.noConfusion (h3.symm.trans hb))
      refine At.gc [] [] (n := 27) (l := []) (bl := []) (by kernel_rfl) ?_
      refine At.adv [] [(5, { told := [], gs := [], keep := some ([2], []) })] 400 (ev := .ret) (σ' := mkS 27 [(2, .int .i64 1)] []) (q := []) (by kernel_rfl) trivial ?_
      refine EvOk.ret ?_
      obtain rfl := someE h
      exact Den.Ends.mk (.inl rfl) (d := .int .i64 1) (p := (True ∧ True) ∧ (True ∧ True)) (by kernel_rfl) ⟨⟨trivial, trivial⟩, ⟨trivial, trivial⟩⟩ (by kernel_rfl)
    · replace h := iteF h3 h
      refine At.gc [0] [] (n := 27) (l := [(0, .int .u8 x0)]) (bl := []) (by kernel_rfl) ?_
      refine At.adv [3] [] 400 (ev := .stop c22x14 [.seq c22x15, .seq c22x3, .blk 0, .seq c22x6]) (σ' := mkS 27 [(0, .int .u8 x0)] []) (q := []) (by kernel_rfl) trivial ?_
      exact (wj22x2 x0)  r h Γ
  · replace h := iteF h2 h
    refine At.adv [] [(2, { told := [(5, { ans := .no })], gs := [(3, false), (4, false)], keep := some ([0, 3], []) })] 400 (ev := .cond false c22x16 c22x13 [.seq c22x3, .blk 0, .seq c22x6]) (σ' := mkS 27 [(0, .int .u8 x0), (3, .bool false)] []) (q := [((decide ((65 : Int) ≤ x0)) == true) = false, ((decide ((65 : Int) ≤ x0)) == true) = false, True ∧ ((decide ((65 : Int) ≤ x0)) = false)]) (by kernel_rfl) ⟨gB h2 rfl, gB h2 rfl, ⟨trivial, h2⟩, trivial⟩ ?_
    refine EvOk.cond (fun hb => Bool.noConfusion hb) (fun _ => ?_)
    refine At.gc [0] [] (n := 27) (l := [(0, .int .u8 x0)]) (bl := []) (by kernel_rfl) ?_
    refine At.adv [3] [] 400 (ev := .stop c22x14 [.seq c22x15, .seq c22x3, .blk 0, .seq c22x6]) (σ' := mkS 27 [(0, .int .u8 x0)] []) (q := []) (by kernel_rfl) trivial ?_
    exact (wj22x2 x0)  r h Γ
theorem we22 (x0 : Int) (r : Int) (h : m_name_class x0 = some r) (Γ : Ctx) : At Try.prog Γ b22 [] (Den.Ends Try.prog Try.f22 (.int .i64 r)) (mkS 27 [(0, .int .u8 x0)] []) := by
  rcases Bool.eq_false_or_eq_true (decide ((97 : Int) ≤ x0)) with h0 | h0
  · replace h := iteT h0 h
    refine At.adv [] [(0, { told := [], gs := [], keep := some ([0], []) }), (1, { told := [(5, { ans := .yes })], gs := [(3, true), (4, true)], keep := some ([0, 3], []) })] 400 (ev := .cond (decide (x0 ≤ 122)) c22x12 c22x9 [.seq c22x3, .blk 0, .seq c22x6]) (σ' := mkS 27 [(0, .int .u8 x0), (3, .bool (decide (x0 ≤ 122)))] []) (q := [((decide ((97 : Int) ≤ x0)) == true) = true ∧ True, ((decide ((97 : Int) ≤ x0)) == true) = true ∧ True, True ∧ ((decide ((97 : Int) ≤ x0)) = true)]) (by kernel_rfl) ⟨⟨(gB h0 rfl), trivial⟩, ⟨(gB h0 rfl), trivial⟩, ⟨trivial, h0⟩, trivial⟩ ?_
    refine EvOk.cond (fun h1 => ?_) (fun h1 => ?_)
    · replace h := iteT h1 h
      refine At.adv [] [] 400 (ev := .cond (decide (x0 ≤ 122)) c22x4 c22x5 [.blk 0, .seq c22x6]) (σ' := mkS 27 [(0, .int .u8 x0), (3, .bool (decide (x0 ≤ 122)))] []) (q := []) (by kernel_rfl) trivial ?_
      refine EvOk.cond (fun _ => ?_) (fun hb => Bool.noConfusion (h1.symm.trans hb))
      refine At.gc [] [] (n := 27) (l := []) (bl := []) (by kernel_rfl) ?_
      refine At.adv [] [(5, { told := [], gs := [], keep := some ([2], []) })] 400 (ev := .ret) (σ' := mkS 27 [(2, .int .i64 1)] []) (q := []) (by kernel_rfl) trivial ?_
      refine EvOk.ret ?_
      obtain rfl := someE h
      exact Den.Ends.mk (.inl rfl) (d := .int .i64 1) (p := (True ∧ True) ∧ (True ∧ True)) (by kernel_rfl) ⟨⟨trivial, trivial⟩, ⟨trivial, trivial⟩⟩ (by kernel_rfl)
    · replace h := iteF h1 h
      refine At.gc [0] [] (n := 27) (l := [(0, .int .u8 x0)]) (bl := []) (by kernel_rfl) ?_
      refine At.adv [2] [] 400 (ev := .stop c22x10 [.seq c22x11, .seq c22x3, .blk 0, .seq c22x6]) (σ' := mkS 27 [(0, .int .u8 x0)] []) (q := []) (by kernel_rfl) trivial ?_
      exact (wj22x1 x0)  r h Γ
  · replace h := iteF h0 h
    refine At.adv [] [(0, { told := [], gs := [], keep := some ([0], []) }), (1, { told := [(5, { ans := .no })], gs := [(3, false), (4, false)], keep := some ([0, 3], []) })] 400 (ev := .cond false c22x12 c22x9 [.seq c22x3, .blk 0, .seq c22x6]) (σ' := mkS 27 [(0, .int .u8 x0), (3, .bool false)] []) (q := [((decide ((97 : Int) ≤ x0)) == true) = false, ((decide ((97 : Int) ≤ x0)) == true) = false, True ∧ ((decide ((97 : Int) ≤ x0)) = false)]) (by kernel_rfl) ⟨gB h0 rfl, gB h0 rfl, ⟨trivial, h0⟩, trivial⟩ ?_
    refine EvOk.cond (fun hb => Bool.noConfusion hb) (fun _ => ?_)
    refine At.gc [0] [] (n := 27) (l := [(0, .int .u8 x0)]) (bl := []) (by kernel_rfl) ?_
    refine At.adv [2] [] 400 (ev := .stop c22x10 [.seq c22x11, .seq c22x3, .blk 0, .seq c22x6]) (σ' := mkS 27 [(0, .int .u8 x0)] []) (q := []) (by kernel_rfl) trivial ?_
    exact (wj22x1 x0)  r h Γ
theorem w22 {x0 : Int} {r : Int} (h : m_name_class x0 = some r) : CallSpec Try.prog 22 [.int .u8 x0] (.int .i64 r) :=
  CallSpec.at2 b22 (n := 27) (l := [(0, .int .u8 x0)]) (by kernel_rfl) (by kernel_rfl) (by kernel_rfl) (by kernel_rfl) (by kernel_rfl) (Nat.le_of_ble_eq_true (by kernel_rfl)) (fun Γ => we22 x0 r h Γ)

/-! ### armature name.IsClassName -/
noncomputable def b8 : Code := Try.f8.body.getD .skip
noncomputable def c8x0 : Code := sub1 b8
noncomputable def c8x1 : Code := sub0 c8x0
noncomputable def c8x2 : Code := sub1 c8x1
noncomputable def c8x3 : Code := sub0 c8x2
noncomputable def c8x4 : Code := sub1 c8x2
noncomputable def c8x5 : Code := sub1 c8x0
noncomputable def c8x6 : Code := sub0 c8x5
noncomputable def c8x7 : Code := sub1 c8x5
noncomputable def c8x8 : Code := sub0 c8x7
noncomputable def c8x9 : Code := sub1 c8x8
noncomputable def c8x10 : Code := sub0 c8x9
noncomputable def c8x11 : Code := sub0 c8x10
noncomputable def c8x12 : Code := sub1 c8x11
noncomputable def c8x13 : Code := sub1 c8x12
noncomputable def c8x14 : Code := sub0 c8x13
noncomputable def c8x15 : Code := sub0 c8x14
noncomputable def c8x16 : Code := sub1 c8x15
noncomputable def c8x17 : Code := sub1 c8x16
noncomputable def c8x18 : Code := sub0 c8x17
noncomputable def c8x19 : Code := sub1 c8x18
noncomputable def c8x20 : Code := sub1 c8x19
noncomputable def c8x21 : Code := sub0 c8x20
noncomputable def c8x22 : Code := sub0 c8x21
noncomputable def c8x23 : Code := sub1 c8x21
noncomputable def c8x24 : Code := sub1 c8x20
noncomputable def c8x25 : Code := sub1 c8x13
noncomputable def c8x26 : Code := sub0 c8x19
noncomputable def c8x27 : Code := sub0 c8x12
noncomputable def c8x28 : Code := sub0 c8x27
noncomputable def c8x29 : Code := sub1 c8x27
noncomputable def c8x30 : Code := sub0 c8x24
noncomputable def c8x31 : Code := sub1 c8x24
noncomputable def c8x32 : Code := sub0 c8x23
noncomputable def c8x33 : Code := sub1 c8x23
noncomputable def c8x34 : Code := sub1 c8x7
def j8x5 (t0 : Bool × Int) : Option (Ctl (Bool × Int) (Bool ⊕ Bool)) :=
  (some (IntKind.wrap .i64 (t0.2 + (1 : Int)))).bind fun v7 =>
  some (.next (true, v7))
def j8x4 (t0 : Bool × Int) : Option (Ctl (Bool × Int) (Bool ⊕ Bool)) :=
  (some (IntKind.wrap .i64 (t0.2 + (1 : Int)))).bind fun v6 =>
  some (.next (false, v6))
def j8x3 (t0 : Bool × Int) : Option (Ctl (Bool × Int) (Bool ⊕ Bool)) :=
  if (!t0.1) = true then
    ((j8x4 t0) ) else
  (some (.done (.inr false)))
def j8x2 (t0 : Bool × Int) (v4 : Int) : Option (Ctl (Bool × Int) (Bool ⊕ Bool)) :=
  if (v4 == 1) = true then
    ((j8x4 t0) ) else
  (if (v4 == 2) = true then ((j8x3 t0) ) else
    (some (.done (.inr false))))
def l8x1 (x0 : List UInt8) (t0 : Bool × Int) : Option (Ctl (Bool × Int) (Bool ⊕ Bool)) :=
  if (decide (t0.2 < (x0.length : Int))) = true then
    ((getS x0 t0.2).bind fun v3 =>
    (m_name_class v3).bind fun v4 =>
    (getS x0 t0.2).bind fun v5 =>
    if (v5 == 47) = true then (if (!t0.1) = true then
      ((j8x5 t0) ) else
    ((j8x2 t0 v4) )) else
    ((j8x2 t0 v4) )) else
  (some (.done (.inl (t0.1))))
def j8x1 (x0 : List UInt8) : Option (Bool) :=
  (loopM (l8x1 x0) rounds (true, 0)).bind fun q1 =>
  match q1 with
  | .inl q0 => (some (!q0))
  | .inr y0 => (some y0)
def m_name_IsClassName (x0 : List UInt8) : Option (Bool) :=
  if (x0 == ([] : List UInt8)) = true then (some false) else
  (if (decide ((x0.length : Int) > 64)) = true then
    (some false) else
  ((j8x1 x0) ))
def st8x1 (x0 : List UInt8) : (Bool × Int) → S :=
  fun t0 => mkS 43 [(0, .str x0), (3, .bool t0.1), (14, .int .i64 (x0.length : Int)), (15, .int .i64 t0.2)] []
noncomputable def J8x1  : (Bool ⊕ Bool) → Exit → S → Prop :=
  JSum (JExit 0 (fun q0 : Bool => mkS 43 [(3, .bool q0)] [])) (JRet Try.prog Try.f8 (fun y : Bool => .bool y))
theorem wj8x5 (t0 : Bool × Int) (x0 : List UInt8) (r : Ctl (Bool × Int) (Bool ⊕ Bool)) (h : (j8x5 t0)  = some r) (Γ : Ctx) : EvOk Try.prog Γ (Round (st8x1 x0) J8x1 r) (mkS 43 [(0, .str x0), (14, .int .i64 (x0.length : Int)), (15, .int .i64 t0.2)] []) (.stop c8x26 [.blk 2, .blk 1, .seq c8x25]) := by
  refine EvOk.stop ?_
  obtain ⟨v7, e7, h⟩ := bindE h
  refine At.adv [] [(10, { told := [], gs := [], keep := some ([0, 3, 14, 15], []) }), (14, { told := [(0, { ans := .val (.int .i64 v7) })], gs := [], keep := some ([0, 3, 14, 15], []) })] 400 (ev := .normal) (σ' := mkS 43 [(0, .str x0), (3, .bool true), (14, .int .i64 (x0.length : Int)), (15, .int .i64 v7)] []) (q := [True ∧ (IntKind.wrap .i64 (t0.2 + (1 : Int)) = v7)]) (by kernel_rfl) ⟨⟨trivial, someE e7⟩, trivial⟩ ?_
  refine EvOk.normal ?_
  obtain rfl := someE h
  exact Round.next (by kernel_rfl)
theorem wj8x4 (t0 : Bool × Int) (x0 : List UInt8) (r : Ctl (Bool × Int) (Bool ⊕ Bool)) (h : (j8x4 t0)  = some r) (Γ : Ctx) : EvOk Try.prog Γ (Round (st8x1 x0) J8x1 r) (mkS 43 [(0, .str x0), (14, .int .i64 (x0.length : Int)), (15, .int .i64 t0.2)] []) (.stop c8x30 [.blk 2, .blk 1, .seq c8x25]) := by
  refine EvOk.stop ?_
  obtain ⟨v6, e6, h⟩ := bindE h
  refine At.adv [] [(13, { told := [], gs := [], keep := some ([0, 3, 14, 15], []) }), (14, { told := [(0, { ans := .val (.int .i64 v6) })], gs := [], keep := some ([0, 3, 14, 15], []) })] 400 (ev := .normal) (σ' := mkS 43 [(0, .str x0), (3, .bool false), (14, .int .i64 (x0.length : Int)), (15, .int .i64 v6)] []) (q := [True ∧ (IntKind.wrap .i64 (t0.2 + (1 : Int)) = v6)]) (by kernel_rfl) ⟨⟨trivial, someE e6⟩, trivial⟩ ?_
  refine EvOk.normal ?_
  obtain rfl := someE h
  exact Round.next (by kernel_rfl)
theorem wj8x3 (t0 : Bool × Int) (x0 : List UInt8) (r : Ctl (Bool × Int) (Bool ⊕ Bool)) (h : (j8x3 t0)  = some r) (Γ : Ctx) : EvOk Try.prog Γ (Round (st8x1 x0) J8x1 r) (mkS 43 [(0, .str x0), (14, .int .i64 (x0.length : Int)), (15, .int .i64 t0.2), (31, .bool (!t0.1))] []) (.cond (!t0.1) c8x30 c8x31 [.blk 2, .blk 1, .seq c8x25]) := by
  refine EvOk.cond (fun h11 => ?_) (fun h11 => ?_)
  · replace h := iteT h11 h
    refine At.gc [0, 14, 15] [] (n := 43) (l := [(0, .str x0), (14, .int .i64 (x0.length : Int)), (15, .int .i64 t0.2)]) (bl := []) (by kernel_rfl) ?_
    refine At.adv [13] [] 400 (ev := .stop c8x30 [.blk 2, .blk 1, .seq c8x25]) (σ' := mkS 43 [(0, .str x0), (14, .int .i64 (x0.length : Int)), (15, .int .i64 t0.2)] []) (q := []) (by kernel_rfl) trivial ?_
    exact (wj8x4 t0 x0)  r h Γ
  · replace h := iteF h11 h
    refine At.gc [] [] (n := 43) (l := []) (bl := []) (by kernel_rfl) ?_
    refine At.adv [] [(8, { told := [], gs := [], keep := some ([2], []) })] 400 (ev := .ret) (σ' := mkS 43 [(2, .bool false)] []) (q := []) (by kernel_rfl) trivial ?_
    refine EvOk.ret ?_
    obtain rfl := someE h
    exact Round.done neRet ⟨rfl, Den.Ends.mk (.inl rfl) (d := .bool false) (p := (True ∧ True) ∧ (True ∧ True)) (by kernel_rfl) ⟨⟨trivial, trivial⟩, ⟨trivial, trivial⟩⟩ (by kernel_rfl)⟩
theorem wj8x2 (t0 : Bool × Int) (v4 : Int) (x0 : List UInt8) (r : Ctl (Bool × Int) (Bool ⊕ Bool)) (h : (j8x2 t0 v4)  = some r) (Γ : Ctx) : EvOk Try.prog Γ (Round (st8x1 x0) J8x1 r) (mkS 43 [(0, .str x0), (3, .bool t0.1), (5, .int .i64 v4), (14, .int .i64 (x0.length : Int)), (15, .int .i64 t0.2)] []) (.stop c8x22 [.seq c8x23, .seq c8x24, .blk 2, .blk 1, .seq c8x25]) := by
  refine EvOk.stop ?_
  refine At.adv [] [(11, { told := [], gs := [], keep := some ([0, 3, 5, 14, 15, 31], []) })] 400 (ev := .cond (v4 == 1) c8x32 c8x33 [.seq c8x24, .blk 2, .blk 1, .seq c8x25]) (σ' := mkS 43 [(0, .str x0), (3, .bool t0.1), (5, .int .i64 v4), (14, .int .i64 (x0.length : Int)), (15, .int .i64 t0.2), (31, .bool (v4 == 1))] []) (q := []) (by kernel_rfl) trivial ?_
  refine EvOk.cond (fun h9 => ?_) (fun h9 => ?_)
  · replace h := iteT h9 h
    refine At.gc [0, 14, 15, 31] [] (n := 43) (l := [(0, .str x0), (14, .int .i64 (x0.length : Int)), (15, .int .i64 t0.2), (31, .bool (v4 == 1))]) (bl := []) (by kernel_rfl) ?_
    refine At.adv [] [] 400 (ev := .cond (v4 == 1) c8x30 c8x31 [.blk 2, .blk 1, .seq c8x25]) (σ' := mkS 43 [(0, .str x0), (14, .int .i64 (x0.length : Int)), (15, .int .i64 t0.2), (31, .bool (v4 == 1))] []) (q := []) (by kernel_rfl) trivial ?_
    refine EvOk.cond (fun _ => ?_) (fun hb => Bool.noConfusion (h9.symm.trans hb))
    refine At.gc [0, 14, 15] [] (n := 43) (l := [(0, .str x0), (14, .int .i64 (x0.length : Int)), (15, .int .i64 t0.2)]) (bl := []) (by kernel_rfl) ?_
    refine At.adv [13] [] 400 (ev := .stop c8x30 [.blk 2, .blk 1, .seq c8x25]) (σ' := mkS 43 [(0, .str x0), (14, .int .i64 (x0.length : Int)), (15, .int .i64 t0.2)] []) (q := []) (by kernel_rfl) trivial ?_
    exact (wj8x4 t0 x0)  r h Γ
  · replace h := iteF h9 h
    refine At.gc [0, 3, 5, 14, 15] [] (n := 43) (l := [(0, .str x0), (3, .bool t0.1), (5, .int .i64 v4), (14, .int .i64 (x0.length : Int)), (15, .int .i64 t0.2)]) (bl := []) (by kernel_rfl) ?_
    rcases Bool.eq_false_or_eq_true (v4 == 2) with h10 | h10
    · replace h := iteT h10 h
      refine At.adv [] [(12, { told := [(5, { ans := .yes })], gs := [(3, true), (4, true)], keep := some ([0, 14, 15, 31], []) })] 400 (ev := .cond (!t0.1) c8x30 c8x31 [.blk 2, .blk 1, .seq c8x25]) (σ' := mkS 43 [(0, .str x0), (14, .int .i64 (x0.length : Int)), (15, .int .i64 t0.2), (31, .bool (!t0.1))] []) (q := [((v4 == 2) == true) = true ∧ True, ((v4 == 2) == true) = true ∧ True, True ∧ ((v4 == 2) = true)]) (by kernel_rfl) ⟨⟨(gB h10 rfl), trivial⟩, ⟨(gB h10 rfl), trivial⟩, ⟨trivial, h10⟩, trivial⟩ ?_
      exact (wj8x3 t0 x0)  r h Γ
    · replace h := iteF h10 h
      refine At.adv [] [(12, { told := [(5, { ans := .no })], gs := [(3, false), (4, false)], keep := some ([0, 14, 15, 31], []) })] 400 (ev := .cond false c8x30 c8x31 [.blk 2, .blk 1, .seq c8x25]) (σ' := mkS 43 [(0, .str x0), (14, .int .i64 (x0.length : Int)), (15, .int .i64 t0.2), (31, .bool false)] []) (q := [((v4 == 2) == true) = false, ((v4 == 2) == true) = false, True ∧ ((v4 == 2) = false)]) (by kernel_rfl) ⟨gB h10 rfl, gB h10 rfl, ⟨trivial, h10⟩, trivial⟩ ?_
      refine EvOk.cond (fun hb => Bool.noConfusion hb) (fun _ => ?_)
      refine At.gc [] [] (n := 43) (l := []) (bl := []) (by kernel_rfl) ?_
      refine At.adv [] [(8, { told := [], gs := [], keep := some ([2], []) })] 400 (ev := .ret) (σ' := mkS 43 [(2, .bool false)] []) (q := []) (by kernel_rfl) trivial ?_
      refine EvOk.ret ?_
      obtain rfl := someE h
      exact Round.done neRet ⟨rfl, Den.Ends.mk (.inl rfl) (d := .bool false) (p := (True ∧ True) ∧ (True ∧ True)) (by kernel_rfl) ⟨⟨trivial, trivial⟩, ⟨trivial, trivial⟩⟩ (by kernel_rfl)⟩
theorem wl8x1 (x0 : List UInt8) (t0 : Bool × Int) (r : Ctl (Bool × Int) (Bool ⊕ Bool)) (h : (l8x1 x0) t0 = some r) (Γ : Ctx) : At Try.prog Γ c8x11 [] (Round (st8x1 x0) J8x1 r) ((st8x1 x0) t0) := by
  refine At.adv [] [(5, { told := [], gs := [], keep := some ([0, 3, 14, 15, 16], []) })] 400 (ev := .cond (decide (t0.2 < (x0.length : Int))) c8x28 c8x29 [.seq c8x13]) (σ' := mkS 43 [(0, .str x0), (3, .bool t0.1), (14, .int .i64 (x0.length : Int)), (15, .int .i64 t0.2), (16, .bool (decide (t0.2 < (x0.length : Int))))] []) (q := []) (by kernel_rfl) trivial ?_
  refine EvOk.cond (fun h6 => ?_) (fun h6 => ?_)
  · replace h := iteT h6 h
    refine At.gc [0, 3, 14, 15] [] (n := 43) (l := [(0, .str x0), (3, .bool t0.1), (14, .int .i64 (x0.length : Int)), (15, .int .i64 t0.2)]) (bl := []) (by kernel_rfl) ?_
    obtain ⟨v3, e3, h⟩ := bindE h
    obtain ⟨v4, e4, h⟩ := bindE h
    obtain ⟨v5, e5, h⟩ := bindE h
    rcases Bool.eq_false_or_eq_true (v5 == 47) with h7 | h7
    · replace h := iteT h7 h
      refine At.adv [] [(6, { told := [], gs := [], keep := some ([0, 3, 4, 14, 15], []) }), (7, { told := [(2, { ans := .val (.int .u8 v3) }), (3, { ans := .val (.int .i64 v4), args := [.int .u8 v3] })], gs := [], keep := some ([0, 3, 4, 5, 14, 15], []) }), (9, { told := [(2, { ans := .val (.int .u8 v5) }), (7, { ans := .yes })], gs := [(5, true), (6, true)], keep := some ([0, 3, 5, 14, 15, 22], []) })] 400 (ev := .cond (!t0.1) c8x26 c8x20 [.blk 2, .blk 1, .seq c8x25]) (σ' := mkS 43 [(0, .str x0), (3, .bool t0.1), (5, .int .i64 v4), (14, .int .i64 (x0.length : Int)), (15, .int .i64 t0.2), (22, .bool (!t0.1))] []) (q := [True ∧ (getS x0 t0.2 = some v3), True ∧ ((True ∧ True) ∧ ([.int .u8 v3] : List D) = [.int .u8 v3] ∧ CallAny Try.prog 22 [.int .u8 v3] (.int .i64 v4)), True ∧ (getS x0 t0.2 = some v5), ((v5 == 47) == true) = true ∧ True, ((v5 == 47) == true) = true ∧ True, True ∧ ((v5 == 47) = true)]) (by kernel_rfl) ⟨⟨trivial, e3⟩, ⟨trivial, ⟨⟨trivial, trivial⟩, rfl, .inl (w22 e4)⟩⟩, ⟨trivial, e5⟩, ⟨(gB h7 rfl), trivial⟩, ⟨(gB h7 rfl), trivial⟩, ⟨trivial, h7⟩, trivial⟩ ?_
      refine EvOk.cond (fun h8 => ?_) (fun h8 => ?_)
      · replace h := iteT h8 h
        refine At.gc [0, 14, 15] [] (n := 43) (l := [(0, .str x0), (14, .int .i64 (x0.length : Int)), (15, .int .i64 t0.2)]) (bl := []) (by kernel_rfl) ?_
        refine At.adv [10] [] 400 (ev := .stop c8x26 [.blk 2, .blk 1, .seq c8x25]) (σ' := mkS 43 [(0, .str x0), (14, .int .i64 (x0.length : Int)), (15, .int .i64 t0.2)] []) (q := []) (by kernel_rfl) trivial ?_
        exact (wj8x5 t0 x0)  r h Γ
      · replace h := iteF h8 h
        refine At.gc [0, 3, 5, 14, 15] [] (n := 43) (l := [(0, .str x0), (3, .bool t0.1), (5, .int .i64 v4), (14, .int .i64 (x0.length : Int)), (15, .int .i64 t0.2)]) (bl := []) (by kernel_rfl) ?_
        refine At.adv [11] [] 400 (ev := .stop c8x22 [.seq c8x23, .seq c8x24, .blk 2, .blk 1, .seq c8x25]) (σ' := mkS 43 [(0, .str x0), (3, .bool t0.1), (5, .int .i64 v4), (14, .int .i64 (x0.length : Int)), (15, .int .i64 t0.2)] []) (q := []) (by kernel_rfl) trivial ?_
        exact (wj8x2 t0 v4 x0)  r h Γ
    · replace h := iteF h7 h
      refine At.adv [] [(6, { told := [], gs := [], keep := some ([0, 3, 4, 14, 15], []) }), (7, { told := [(2, { ans := .val (.int .u8 v3) }), (3, { ans := .val (.int .i64 v4), args := [.int .u8 v3] })], gs := [], keep := some ([0, 3, 4, 5, 14, 15], []) }), (9, { told := [(2, { ans := .val (.int .u8 v5) }), (7, { ans := .no })], gs := [(5, false), (6, false)], keep := some ([0, 3, 5, 14, 15, 22], []) })] 400 (ev := .cond false c8x26 c8x20 [.blk 2, .blk 1, .seq c8x25]) (σ' := mkS 43 [(0, .str x0), (3, .bool t0.1), (5, .int .i64 v4), (14, .int .i64 (x0.length : Int)), (15, .int .i64 t0.2), (22, .bool false)] []) (q := [True ∧ (getS x0 t0.2 = some v3), True ∧ ((True ∧ True) ∧ ([.int .u8 v3] : List D) = [.int .u8 v3] ∧ CallAny Try.prog 22 [.int .u8 v3] (.int .i64 v4)), True ∧ (getS x0 t0.2 = some v5), ((v5 == 47) == true) = false, ((v5 == 47) == true) = false, True ∧ ((v5 == 47) = false)]) (by kernel_rfl) ⟨⟨trivial, e3⟩, ⟨trivial, ⟨⟨trivial, trivial⟩, rfl, .inl (w22 e4)⟩⟩, ⟨trivial, e5⟩, gB h7 rfl, gB h7 rfl, ⟨trivial, h7⟩, trivial⟩ ?_
      refine EvOk.cond (fun hb => Bool.noConfusion hb) (fun _ => ?_)
      refine At.gc [0, 3, 5, 14, 15] [] (n := 43) (l := [(0, .str x0), (3, .bool t0.1), (5, .int .i64 v4), (14, .int .i64 (x0.length : Int)), (15, .int .i64 t0.2)]) (bl := []) (by kernel_rfl) ?_
      refine At.adv [11] [] 400 (ev := .stop c8x22 [.seq c8x23, .seq c8x24, .blk 2, .blk 1, .seq c8x25]) (σ' := mkS 43 [(0, .str x0), (3, .bool t0.1), (5, .int .i64 v4), (14, .int .i64 (x0.length : Int)), (15, .int .i64 t0.2)] []) (q := []) (by kernel_rfl) trivial ?_
      exact (wj8x2 t0 v4 x0)  r h Γ
  · replace h := iteF h6 h
    refine At.gc [3] [] (n := 43) (l := [(3, .bool t0.1)]) (bl := []) (by kernel_rfl) ?_
    refine At.adv [] [] 400 (ev := .exit 0) (σ' := mkS 43 [(3, .bool t0.1)] []) (q := []) (by kernel_rfl) trivial ?_
    refine EvOk.exit ?_
    obtain rfl := someE h
    exact Round.done (neExit _) ⟨rfl, by kernel_rfl⟩
theorem wj8x1 (x0 : List UInt8) (r : Bool) (h : (j8x1 x0)  = some r) (Γ : Ctx) : EvOk Try.prog Γ (Den.Ends Try.prog Try.f8 (.bool r)) (mkS 43 [(0, .str x0)] []) (.stop c8x6 [.seq c8x7]) := by
  refine EvOk.stop ?_
  refine At.adv [] [(3, { told := [], gs := [], keep := some ([0, 3], []) }), (4, { told := [], gs := [], keep := some ([0, 3, 14, 15], []) })] 400 (ev := .loop c8x11 [.blk 0, .seq c8x34]) (σ' := mkS 43 [(0, .str x0), (3, .bool true), (14, .int .i64 (x0.length : Int)), (15, .int .i64 0)] []) (q := []) (by kernel_rfl) trivial ?_
  refine EvOk.loop ?_
  obtain ⟨q1, e8, h⟩ := bindE h
  refine At.loop (l8x1 x0) (st8x1 x0) J8x1 (true, 0) e8 (by kernel_rfl) (fun t x hx => (wl8x1 x0) t x hx Γ) ?_
  intro e σ' hJ
  rcases q1 with q0 | y0
  · obtain ⟨rfl, rfl⟩ := hJ
    refine At.exitK (K' := [.seq c8x34]) (by kernel_rfl) ?_
    refine At.advN [] [(15, { told := [], gs := [], keep := some ([2], []) })] 400 (ev := .ret) (σ' := mkS 43 [(2, .bool (!q0))] []) (q := []) (by kernel_rfl) trivial ?_
    refine EvOk.ret ?_
    obtain rfl := someE h
    exact Den.Ends.mk (.inl rfl) (d := .bool (!q0)) (p := (True ∧ True) ∧ (True ∧ True)) (by kernel_rfl) ⟨⟨trivial, trivial⟩, ⟨trivial, trivial⟩⟩ (by kernel_rfl)
  · obtain rfl := someE h
    obtain ⟨rfl, hE⟩ := hJ
    exact At.retK hE
theorem we8 (x0 : List UInt8) (r : Bool) (h : m_name_IsClassName x0 = some r) (Γ : Ctx) : At Try.prog Γ b8 [] (Den.Ends Try.prog Try.f8 (.bool r)) (mkS 43 [(0, .str x0)] []) := by
  rcases Bool.eq_false_or_eq_true (x0 == ([] : List UInt8)) with h0 | h0
  · replace h := iteT h0 h
    refine At.adv [] [(0, { told := [], gs := [], keep := some ([0], []) }), (1, { told := [(6, { ans := .yes })], gs := [(3, false), (4, false), (5, false)], keep := some ([0, 12], []) })] 400 (ev := .cond true c8x3 c8x4 [.seq c8x5]) (σ' := mkS 43 [(0, .str x0), (12, .bool true)] []) (q := [((x0 == ([] : List UInt8)) == false) = false, ((x0 == ([] : List UInt8)) == false) = false, ((x0 == ([] : List UInt8)) == false) = false, True ∧ ((x0 == ([] : List UInt8)) = true)]) (by kernel_rfl) ⟨gB h0 rfl, gB h0 rfl, gB h0 rfl, ⟨trivial, h0⟩, trivial⟩ ?_
    refine EvOk.cond (fun _ => ?_) (fun hb => Bool.noConfusion hb)
    refine At.gc [] [] (n := 43) (l := []) (bl := []) (by kernel_rfl) ?_
    refine At.adv [] [(2, { told := [], gs := [], keep := some ([2], []) })] 400 (ev := .ret) (σ' := mkS 43 [(2, .bool false)] []) (q := []) (by kernel_rfl) trivial ?_
    refine EvOk.ret ?_
    obtain rfl := someE h
    exact Den.Ends.mk (.inl rfl) (d := .bool false) (p := (True ∧ True) ∧ (True ∧ True)) (by kernel_rfl) ⟨⟨trivial, trivial⟩, ⟨trivial, trivial⟩⟩ (by kernel_rfl)
  · replace h := iteF h0 h
    refine At.adv [] [(0, { told := [], gs := [], keep := some ([0], []) }), (1, { told := [(6, { ans := .no })], gs := [(3, true), (4, true), (5, true)], keep := some ([0, 12], []) })] 400 (ev := .cond (decide ((x0.length : Int) > 64)) c8x3 c8x4 [.seq c8x5]) (σ' := mkS 43 [(0, .str x0), (12, .bool (decide ((x0.length : Int) > 64)))] []) (q := [((x0 == ([] : List UInt8)) == false) = true ∧ True, ((x0 == ([] : List UInt8)) == false) = true ∧ True, ((x0 == ([] : List UInt8)) == false) = true ∧ True, True ∧ ((x0 == ([] : List UInt8)) = false)]) (by kernel_rfl) ⟨⟨(gB h0 rfl), trivial⟩, ⟨(gB h0 rfl), trivial⟩, ⟨(gB h0 rfl), trivial⟩, ⟨trivial, h0⟩, trivial⟩ ?_
    refine EvOk.cond (fun h1 => ?_) (fun h1 => ?_)
    · replace h := iteT h1 h
      refine At.gc [] [] (n := 43) (l := []) (bl := []) (by kernel_rfl) ?_
      refine At.adv [] [(2, { told := [], gs := [], keep := some ([2], []) })] 400 (ev := .ret) (σ' := mkS 43 [(2, .bool false)] []) (q := []) (by kernel_rfl) trivial ?_
      refine EvOk.ret ?_
      obtain rfl := someE h
      exact Den.Ends.mk (.inl rfl) (d := .bool false) (p := (True ∧ True) ∧ (True ∧ True)) (by kernel_rfl) ⟨⟨trivial, trivial⟩, ⟨trivial, trivial⟩⟩ (by kernel_rfl)
    · replace h := iteF h1 h
      refine At.gc [0] [] (n := 43) (l := [(0, .str x0)]) (bl := []) (by kernel_rfl) ?_
      refine At.adv [3] [] 400 (ev := .stop c8x6 [.seq c8x7]) (σ' := mkS 43 [(0, .str x0)] []) (q := []) (by kernel_rfl) trivial ?_
      exact (wj8x1 x0)  r h Γ
theorem w8 {x0 : List UInt8} {r : Bool} (h : m_name_IsClassName x0 = some r) : CallSpec Try.prog 8 [.str x0] (.bool r) :=
  CallSpec.at2 b8 (n := 43) (l := [(0, .str x0)]) (by kernel_rfl) (by kernel_rfl) (by kernel_rfl) (by kernel_rfl) (by kernel_rfl) (Nat.le_of_ble_eq_true (by kernel_rfl)) (fun Γ => we8 x0 r h Γ)

/-! ### internal bytealg.IndexByteString -/
def m_internal_bytealg_IndexByteString (s : List UInt8) (c : Int) : Option Int := some (Lib.indexByte s c.toNat.toUInt8)
theorem w33 {s : List UInt8} {c r : Int} (h : m_internal_bytealg_IndexByteString s c = some r) : ExtSpec Try.prog 33 [.str s, .int .u8 c] (.int .i64 r) := by
  obtain rfl := someE h
  exact ext_indexByteString Try.func33 (by kernel_rfl) (by kernel_rfl) (by kernel_rfl) (by kernel_rfl) s c

/-! ### internal stringslite.IndexByte -/
noncomputable def b30 : Code := Try.f30.body.getD .skip
def m_internal_stringslite_IndexByte (x0 : List UInt8) (x1 : Int) : Option (Int) :=
  (m_internal_bytealg_IndexByteString x0 x1).bind fun v0 =>
  some v0
theorem we30 (x0 : List UInt8) (x1 : Int) (r : Int) (h : m_internal_stringslite_IndexByte x0 x1 = some r) (Γ : Ctx) : At Try.prog Γ b30 [] (Den.Ends Try.prog Try.f30 (.int .i64 r)) (mkS 8 [(0, .str x0), (1, .int .u8 x1)] []) := by
  obtain ⟨v0, e0, h⟩ := bindE h
  refine At.adv [] [(0, { told := [], gs := [], keep := some ([0, 1], []) }), (1, { told := [(2, { ans := .val (.int .i64 v0), args := [.str x0, .int .u8 x1] })], gs := [], keep := some ([4], []) })] 400 (ev := .ret) (σ' := mkS 8 [(4, .int .i64 v0)] []) (q := [True ∧ ((True ∧ (True ∧ True)) ∧ ([.str x0, .int .u8 x1] : List D) = [.str x0, .int .u8 x1] ∧ CallAny Try.prog 33 [.str x0, .int .u8 x1] (.int .i64 v0))]) (by kernel_rfl) ⟨⟨trivial, ⟨⟨trivial, ⟨trivial, trivial⟩⟩, rfl, .inr (w33 e0)⟩⟩, trivial⟩ ?_
  refine EvOk.ret ?_
  obtain rfl := someE h
  exact Den.Ends.mk (.inl rfl) (d := .int .i64 v0) (p := (True ∧ True) ∧ (True ∧ True)) (by kernel_rfl) ⟨⟨trivial, trivial⟩, ⟨trivial, trivial⟩⟩ (by kernel_rfl)
theorem w30 {x0 : List UInt8} {x1 : Int} {r : Int} (h : m_internal_stringslite_IndexByte x0 x1 = some r) : CallSpec Try.prog 30 [.str x0, .int .u8 x1] (.int .i64 r) :=
  CallSpec.at2 b30 (n := 8) (l := [(0, .str x0), (1, .int .u8 x1)]) (by kernel_rfl) (by kernel_rfl) (by kernel_rfl) (by kernel_rfl) (by kernel_rfl) (Nat.le_of_ble_eq_true (by kernel_rfl)) (fun Γ => we30 x0 x1 r h Γ)

/-! ### strings.IndexByte -/
noncomputable def b24 : Code := Try.f24.body.getD .skip
def m_strings_IndexByte (x0 : List UInt8) (x1 : Int) : Option (Int) :=
  (m_internal_stringslite_IndexByte x0 x1).bind fun v0 =>
  some v0
theorem we24 (x0 : List UInt8) (x1 : Int) (r : Int) (h : m_strings_IndexByte x0 x1 = some r) (Γ : Ctx) : At Try.prog Γ b24 [] (Den.Ends Try.prog Try.f24 (.int .i64 r)) (mkS 8 [(0, .str x0), (1, .int .u8 x1)] []) := by
  obtain ⟨v0, e0, h⟩ := bindE h
  refine At.adv [] [(0, { told := [], gs := [], keep := some ([0, 1], []) }), (1, { told := [(2, { ans := .val (.int .i64 v0), args := [.str x0, .int .u8 x1] })], gs := [], keep := some ([4], []) })] 400 (ev := .ret) (σ' := mkS 8 [(4, .int .i64 v0)] []) (q := [True ∧ ((True ∧ (True ∧ True)) ∧ ([.str x0, .int .u8 x1] : List D) = [.str x0, .int .u8 x1] ∧ CallAny Try.prog 30 [.str x0, .int .u8 x1] (.int .i64 v0))]) (by kernel_rfl) ⟨⟨trivial, ⟨⟨trivial, ⟨trivial, trivial⟩⟩, rfl, .inl (w30 e0)⟩⟩, trivial⟩ ?_
  refine EvOk.ret ?_
  obtain rfl := someE h
  exact Den.Ends.mk (.inl rfl) (d := .int .i64 v0) (p := (True ∧ True) ∧ (True ∧ True)) (by kernel_rfl) ⟨⟨trivial, trivial⟩, ⟨trivial, trivial⟩⟩ (by kernel_rfl)
theorem w24 {x0 : List UInt8} {x1 : Int} {r : Int} (h : m_strings_IndexByte x0 x1 = some r) : CallSpec Try.prog 24 [.str x0, .int .u8 x1] (.int .i64 r) :=
  CallSpec.at2 b24 (n := 8) (l := [(0, .str x0), (1, .int .u8 x1)]) (by kernel_rfl) (by kernel_rfl) (by kernel_rfl) (by kernel_rfl) (by kernel_rfl) (Nat.le_of_ble_eq_true (by kernel_rfl)) (fun Γ => we24 x0 x1 r h Γ)

/-! ### armature name.IsMemberName -/
noncomputable def b10 : Code := Try.f10.body.getD .skip
noncomputable def c10x0 : Code := sub1 b10
noncomputable def c10x1 : Code := sub0 c10x0
noncomputable def c10x2 : Code := sub1 c10x1
noncomputable def c10x3 : Code := sub0 c10x2
noncomputable def c10x4 : Code := sub1 c10x2
noncomputable def c10x5 : Code := sub1 c10x0
noncomputable def c10x6 : Code := sub0 c10x5
noncomputable def c10x7 : Code := sub1 c10x5
def j10x1 (x0 : List UInt8) : Option (Bool) :=
  (m_name_IsClassName x0).bind fun v0 =>
  if v0 = true then ((m_strings_IndexByte x0 47).bind fun v1 =>
  some (decide (v1 < 0))) else
  (some false)
def m_name_IsMemberName (x0 : List UInt8) : Option (Bool) :=
  if (x0 == ([60, 105, 110, 105, 116, 62] : List UInt8)) = true then (some true) else
  (if (x0 == ([60, 99, 108, 105, 110, 105, 116, 62] : List UInt8)) = true then
    (some true) else
  ((j10x1 x0) ))
theorem wj10x1 (x0 : List UInt8) (r : Bool) (h : (j10x1 x0)  = some r) (Γ : Ctx) : EvOk Try.prog Γ (Den.Ends Try.prog Try.f10 (.bool r)) (mkS 16 [(0, .str x0)] []) (.stop c10x6 [.seq c10x7]) := by
  refine EvOk.stop ?_
  obtain ⟨v0, e0, h⟩ := bindE h
  rcases Bool.eq_false_or_eq_true v0 with h2 | h2
  · replace h := iteT h2 h
    obtain ⟨v1, e1, h⟩ := bindE h
    refine At.adv [] [(3, { told := [(1, { ans := .val (.bool v0), args := [.str x0] }), (4, { ans := .val (.int .i64 v1), args := [.str x0, .int .u8 47] }), (6, { ans := .yes })], gs := [(3, true), (4, true), (5, true)], keep := some ([2], []) })] 400 (ev := .ret) (σ' := mkS 16 [(2, .bool (decide (v1 < 0)))] []) (q := [True ∧ ((True ∧ True) ∧ ([.str x0] : List D) = [.str x0] ∧ CallAny Try.prog 8 [.str x0] (.bool v0)), (v0 == true) = true ∧ True, (v0 == true) = true ∧ ((True ∧ (True ∧ True)) ∧ ([.str x0, .int .u8 47] : List D) = [.str x0, .int .u8 47] ∧ CallAny Try.prog 24 [.str x0, .int .u8 47] (.int .i64 v1)), (v0 == true) = true ∧ True, True ∧ (v0 = true)]) (by kernel_rfl) ⟨⟨trivial, ⟨⟨trivial, trivial⟩, rfl, .inl (w8 e0)⟩⟩, ⟨(gB h2 rfl), trivial⟩, ⟨(gB h2 rfl), ⟨⟨trivial, ⟨trivial, trivial⟩⟩, rfl, .inl (w24 e1)⟩⟩, ⟨(gB h2 rfl), trivial⟩, ⟨trivial, h2⟩, trivial⟩ ?_
    refine EvOk.ret ?_
    obtain rfl := someE h
    exact Den.Ends.mk (.inl rfl) (d := .bool (decide (v1 < 0))) (p := (True ∧ True) ∧ (True ∧ True)) (by kernel_rfl) ⟨⟨trivial, trivial⟩, ⟨trivial, trivial⟩⟩ (by kernel_rfl)
  · replace h := iteF h2 h
    refine At.adv [] [(3, { told := [(1, { ans := .val (.bool v0), args := [.str x0] }), (6, { ans := .no })], gs := [(3, false), (4, false), (5, false)], keep := some ([2], []) })] 400 (ev := .ret) (σ' := mkS 16 [(2, .bool false)] []) (q := [True ∧ ((True ∧ True) ∧ ([.str x0] : List D) = [.str x0] ∧ CallAny Try.prog 8 [.str x0] (.bool v0)), (v0 == true) = false, (v0 == true) = false, (v0 == true) = false, True ∧ (v0 = false)]) (by kernel_rfl) ⟨⟨trivial, ⟨⟨trivial, trivial⟩, rfl, .inl (w8 e0)⟩⟩, gB h2 rfl, gB h2 rfl, gB h2 rfl, ⟨trivial, h2⟩, trivial⟩ ?_
    refine EvOk.ret ?_
    obtain rfl := someE h
    exact Den.Ends.mk (.inl rfl) (d := .bool false) (p := (True ∧ True) ∧ (True ∧ True)) (by kernel_rfl) ⟨⟨trivial, trivial⟩, ⟨trivial, trivial⟩⟩ (by kernel_rfl)
theorem we10 (x0 : List UInt8) (r : Bool) (h : m_name_IsMemberName x0 = some r) (Γ : Ctx) : At Try.prog Γ b10 [] (Den.Ends Try.prog Try.f10 (.bool r)) (mkS 16 [(0, .str x0)] []) := by
  rcases Bool.eq_false_or_eq_true (x0 == ([60, 105, 110, 105, 116, 62] : List UInt8)) with h0 | h0
  · replace h := iteT h0 h
    refine At.adv [] [(0, { told := [], gs := [], keep := some ([0], []) }), (1, { told := [(5, { ans := .yes })], gs := [(3, false), (4, false)], keep := some ([0, 8], []) })] 400 (ev := .cond true c10x3 c10x4 [.seq c10x5]) (σ' := mkS 16 [(0, .str x0), (8, .bool true)] []) (q := [((x0 == ([60, 105, 110, 105, 116, 62] : List UInt8)) == false) = false, ((x0 == ([60, 105, 110, 105, 116, 62] : List UInt8)) == false) = false, True ∧ ((x0 == ([60, 105, 110, 105, 116, 62] : List UInt8)) = true)]) (by kernel_rfl) ⟨gB h0 rfl, gB h0 rfl, ⟨trivial, h0⟩, trivial⟩ ?_
    refine EvOk.cond (fun _ => ?_) (fun hb => Bool.noConfusion hb)
    refine At.gc [] [] (n := 16) (l := []) (bl := []) (by kernel_rfl) ?_
    refine At.adv [] [(2, { told := [], gs := [], keep := some ([2], []) })] 400 (ev := .ret) (σ' := mkS 16 [(2, .bool true)] []) (q := []) (by kernel_rfl) trivial ?_
    refine EvOk.ret ?_
    obtain rfl := someE h
    exact Den.Ends.mk (.inl rfl) (d := .bool true) (p := (True ∧ True) ∧ (True ∧ True)) (by kernel_rfl) ⟨⟨trivial, trivial⟩, ⟨trivial, trivial⟩⟩ (by kernel_rfl)
  · replace h := iteF h0 h
    refine At.adv [] [(0, { told := [], gs := [], keep := some ([0], []) }), (1, { told := [(5, { ans := .no })], gs := [(3, true), (4, true)], keep := some ([0, 8], []) })] 400 (ev := .cond (x0 == ([60, 99, 108, 105, 110, 105, 116, 62] : List UInt8)) c10x3 c10x4 [.seq c10x5]) (σ' := mkS 16 [(0, .str x0), (8, .bool (x0 == ([60, 99, 108, 105, 110, 105, 116, 62] : List UInt8)))] []) (q := [((x0 == ([60, 105, 110, 105, 116, 62] : List UInt8)) == false) = true ∧ True, ((x0 == ([60, 105, 110, 105, 116, 62] : List UInt8)) == false) = true ∧ True, True ∧ ((x0 == ([60, 105, 110, 105, 116, 62] : List UInt8)) = false)]) (by kernel_rfl) ⟨⟨(gB h0 rfl), trivial⟩, ⟨(gB h0 rfl), trivial⟩, ⟨trivial, h0⟩, trivial⟩ ?_
    refine EvOk.cond (fun h1 => ?_) (fun h1 => ?_)
    · replace h := iteT h1 h
      refine At.gc [] [] (n := 16) (l := []) (bl := []) (by kernel_rfl) ?_
      refine At.adv [] [(2, { told := [], gs := [], keep := some ([2], []) })] 400 (ev := .ret) (σ' := mkS 16 [(2, .bool true)] []) (q := []) (by kernel_rfl) trivial ?_
      refine EvOk.ret ?_
      obtain rfl := someE h
      exact Den.Ends.mk (.inl rfl) (d := .bool true) (p := (True ∧ True) ∧ (True ∧ True)) (by kernel_rfl) ⟨⟨trivial, trivial⟩, ⟨trivial, trivial⟩⟩ (by kernel_rfl)
    · replace h := iteF h1 h
      refine At.gc [0] [] (n := 16) (l := [(0, .str x0)]) (bl := []) (by kernel_rfl) ?_
      refine At.adv [3] [] 400 (ev := .stop c10x6 [.seq c10x7]) (σ' := mkS 16 [(0, .str x0)] []) (q := []) (by kernel_rfl) trivial ?_
      exact (wj10x1 x0)  r h Γ
theorem w10 {x0 : List UInt8} {r : Bool} (h : m_name_IsMemberName x0 = some r) : CallSpec Try.prog 10 [.str x0] (.bool r) :=
  CallSpec.at2 b10 (n := 16) (l := [(0, .str x0)]) (by kernel_rfl) (by kernel_rfl) (by kernel_rfl) (by kernel_rfl) (by kernel_rfl) (Nat.le_of_ble_eq_true (by kernel_rfl)) (fun Γ => we10 x0 r h Γ)

/-! ### internal bytealg.LastIndexByteString -/
noncomputable def b34 : Code := Try.f34.body.getD .skip
noncomputable def c34x0 : Code := sub1 b34
noncomputable def c34x1 : Code := sub0 c34x0
noncomputable def c34x2 : Code := sub1 c34x1
noncomputable def c34x3 : Code := sub0 c34x2
noncomputable def c34x4 : Code := sub0 c34x3
noncomputable def c34x5 : Code := sub1 c34x4
noncomputable def c34x6 : Code := sub0 c34x5
noncomputable def c34x7 : Code := sub0 c34x6
noncomputable def c34x8 : Code := sub1 c34x7
noncomputable def c34x9 : Code := sub0 c34x8
noncomputable def c34x10 : Code := sub1 c34x8
noncomputable def c34x11 : Code := sub1 c34x5
noncomputable def c34x12 : Code := sub0 c34x4
noncomputable def c34x13 : Code := sub1 c34x12
noncomputable def c34x14 : Code := sub0 c34x13
noncomputable def c34x15 : Code := sub1 c34x13
noncomputable def c34x16 : Code := sub1 c34x0
def l34x1 (x0 : List UInt8) (x1 : Int) (t0 : Int) : Option (Ctl (Int) (Unit ⊕ Int)) :=
  if (decide (t0 ≥ 0)) = true then
    ((getS x0 t0).bind fun v3 =>
    if (v3 == x1) = true then
      (some (.done (.inr t0))) else
    ((some (IntKind.wrap .i64 (t0 - (1 : Int)))).bind fun v4 =>
      some (.next v4))) else
  (some (.done (.inl (()))))
def m_internal_bytealg_LastIndexByteString (x0 : List UInt8) (x1 : Int) : Option (Int) :=
  (some (IntKind.wrap .i64 ((x0.length : Int) - (1 : Int)))).bind fun v0 =>
  (loopM (l34x1 x0 x1) rounds v0).bind fun q1 =>
  match q1 with
  | .inl q0 => (some (-1))
  | .inr y0 => (some y0)
def st34x1 (x0 : List UInt8) (x1 : Int) : Int → S :=
  fun t0 => mkS 19 [(0, .str x0), (1, .int .u8 x1), (5, .int .i64 t0)] []
noncomputable def J34x1  : (Unit ⊕ Int) → Exit → S → Prop :=
  JSum (JExit 0 (fun q0 : Unit => mkS 19 [] [])) (JRet Try.prog Try.f34 (fun y : Int => .int .i64 y))
theorem wl34x1 (x0 : List UInt8) (x1 : Int) (t0 : Int) (r : Ctl (Int) (Unit ⊕ Int)) (h : (l34x1 x0 x1) t0 = some r) (Γ : Ctx) : At Try.prog Γ c34x4 [] (Round (st34x1 x0 x1) J34x1 r) ((st34x1 x0 x1) t0) := by
  refine At.adv [] [(2, { told := [], gs := [], keep := some ([0, 1, 5, 10], []) })] 400 (ev := .cond (decide (t0 ≥ 0)) c34x14 c34x15 [.seq c34x5]) (σ' := mkS 19 [(0, .str x0), (1, .int .u8 x1), (5, .int .i64 t0), (10, .bool (decide (t0 ≥ 0)))] []) (q := []) (by kernel_rfl) trivial ?_
  refine EvOk.cond (fun h2 => ?_) (fun h2 => ?_)
  · replace h := iteT h2 h
    refine At.gc [0, 1, 5] [] (n := 19) (l := [(0, .str x0), (1, .int .u8 x1), (5, .int .i64 t0)]) (bl := []) (by kernel_rfl) ?_
    obtain ⟨v3, e3, h⟩ := bindE h
    refine At.adv [] [(4, { told := [(2, { ans := .val (.int .u8 v3) })], gs := [], keep := some ([0, 1, 5, 17], []) })] 400 (ev := .cond (v3 == x1) c34x9 c34x10 [.blk 1, .seq c34x11]) (σ' := mkS 19 [(0, .str x0), (1, .int .u8 x1), (5, .int .i64 t0), (17, .bool (v3 == x1))] []) (q := [True ∧ (getS x0 t0 = some v3)]) (by kernel_rfl) ⟨⟨trivial, e3⟩, trivial⟩ ?_
    refine EvOk.cond (fun h3 => ?_) (fun h3 => ?_)
    · replace h := iteT h3 h
      refine At.gc [5] [] (n := 19) (l := [(5, .int .i64 t0)]) (bl := []) (by kernel_rfl) ?_
      refine At.adv [] [(5, { told := [], gs := [], keep := some ([4], []) })] 400 (ev := .ret) (σ' := mkS 19 [(4, .int .i64 t0)] []) (q := []) (by kernel_rfl) trivial ?_
      refine EvOk.ret ?_
      obtain rfl := someE h
      exact Round.done neRet ⟨rfl, Den.Ends.mk (.inl rfl) (d := .int .i64 t0) (p := (True ∧ True) ∧ (True ∧ True)) (by kernel_rfl) ⟨⟨trivial, trivial⟩, ⟨trivial, trivial⟩⟩ (by kernel_rfl)⟩
    · replace h := iteF h3 h
      refine At.gc [0, 1, 5] [] (n := 19) (l := [(0, .str x0), (1, .int .u8 x1), (5, .int .i64 t0)]) (bl := []) (by kernel_rfl) ?_
      obtain ⟨v4, e4, h⟩ := bindE h
      refine At.adv [] [(3, { told := [(1, { ans := .val (.int .i64 v4) })], gs := [], keep := some ([0, 1, 5], []) })] 400 (ev := .normal) (σ' := mkS 19 [(0, .str x0), (1, .int .u8 x1), (5, .int .i64 v4)] []) (q := [True ∧ (IntKind.wrap .i64 (t0 - (1 : Int)) = v4)]) (by kernel_rfl) ⟨⟨trivial, someE e4⟩, trivial⟩ ?_
      refine EvOk.normal ?_
      obtain rfl := someE h
      exact Round.next (by kernel_rfl)
  · replace h := iteF h2 h
    refine At.gc [] [] (n := 19) (l := []) (bl := []) (by kernel_rfl) ?_
    refine At.adv [] [] 400 (ev := .exit 0) (σ' := mkS 19 [] []) (q := []) (by kernel_rfl) trivial ?_
    refine EvOk.exit ?_
    obtain rfl := someE h
    exact Round.done (neExit _) ⟨rfl, by kernel_rfl⟩
theorem we34 (x0 : List UInt8) (x1 : Int) (r : Int) (h : m_internal_bytealg_LastIndexByteString x0 x1 = some r) (Γ : Ctx) : At Try.prog Γ b34 [] (Den.Ends Try.prog Try.f34 (.int .i64 r)) (mkS 19 [(0, .str x0), (1, .int .u8 x1)] []) := by
  obtain ⟨v0, e0, h⟩ := bindE h
  refine At.adv [] [(0, { told := [], gs := [], keep := some ([0, 1], []) }), (1, { told := [(2, { ans := .val (.int .i64 v0) })], gs := [], keep := some ([0, 1, 5], []) })] 400 (ev := .loop c34x4 [.blk 0, .seq c34x16]) (σ' := mkS 19 [(0, .str x0), (1, .int .u8 x1), (5, .int .i64 v0)] []) (q := [True ∧ (IntKind.wrap .i64 ((x0.length : Int) - (1 : Int)) = v0)]) (by kernel_rfl) ⟨⟨trivial, someE e0⟩, trivial⟩ ?_
  refine EvOk.loop ?_
  obtain ⟨q1, e5, h⟩ := bindE h
  refine At.loop (l34x1 x0 x1) (st34x1 x0 x1) J34x1 v0 e5 (by kernel_rfl) (fun t x hx => (wl34x1 x0 x1) t x hx Γ) ?_
  intro e σ' hJ
  rcases q1 with q0 | y0
  · obtain ⟨rfl, rfl⟩ := hJ
    refine At.exitK (K' := [.seq c34x16]) (by kernel_rfl) ?_
    refine At.advN [] [(6, { told := [], gs := [], keep := some ([4], []) })] 400 (ev := .ret) (σ' := mkS 19 [(4, .int .i64 (-1))] []) (q := []) (by kernel_rfl) trivial ?_
    refine EvOk.ret ?_
    obtain rfl := someE h
    exact Den.Ends.mk (.inl rfl) (d := .int .i64 (-1)) (p := (True ∧ True) ∧ (True ∧ True)) (by kernel_rfl) ⟨⟨trivial, trivial⟩, ⟨trivial, trivial⟩⟩ (by kernel_rfl)
  · obtain rfl := someE h
    obtain ⟨rfl, hE⟩ := hJ
    exact At.retK hE
theorem w34 {x0 : List UInt8} {x1 : Int} {r : Int} (h : m_internal_bytealg_LastIndexByteString x0 x1 = some r) : CallSpec Try.prog 34 [.str x0, .int .u8 x1] (.int .i64 r) :=
  CallSpec.at2 b34 (n := 19) (l := [(0, .str x0), (1, .int .u8 x1)]) (by kernel_rfl) (by kernel_rfl) (by kernel_rfl) (by kernel_rfl) (by kernel_rfl) (Nat.le_of_ble_eq_true (by kernel_rfl)) (fun Γ => we34 x0 x1 r h Γ)

/-! ### strings.LastIndexByte -/
noncomputable def b31 : Code := Try.f31.body.getD .skip
def m_strings_LastIndexByte (x0 : List UInt8) (x1 : Int) : Option (Int) :=
  (m_internal_bytealg_LastIndexByteString x0 x1).bind fun v0 =>
  some v0
theorem we31 (x0 : List UInt8) (x1 : Int) (r : Int) (h : m_strings_LastIndexByte x0 x1 = some r) (Γ : Ctx) : At Try.prog Γ b31 [] (Den.Ends Try.prog Try.f31 (.int .i64 r)) (mkS 8 [(0, .str x0), (1, .int .u8 x1)] []) := by
  obtain ⟨v0, e0, h⟩ := bindE h
  refine At.adv [] [(0, { told := [], gs := [], keep := some ([0, 1], []) }), (1, { told := [(2, { ans := .val (.int .i64 v0), args := [.str x0, .int .u8 x1] })], gs := [], keep := some ([4], []) })] 400 (ev := .ret) (σ' := mkS 8 [(4, .int .i64 v0)] []) (q := [True ∧ ((True ∧ (True ∧ True)) ∧ ([.str x0, .int .u8 x1] : List D) = [.str x0, .int .u8 x1] ∧ CallAny Try.prog 34 [.str x0, .int .u8 x1] (.int .i64 v0))]) (by kernel_rfl) ⟨⟨trivial, ⟨⟨trivial, ⟨trivial, trivial⟩⟩, rfl, .inl (w34 e0)⟩⟩, trivial⟩ ?_
  refine EvOk.ret ?_
  obtain rfl := someE h
  exact Den.Ends.mk (.inl rfl) (d := .int .i64 v0) (p := (True ∧ True) ∧ (True ∧ True)) (by kernel_rfl) ⟨⟨trivial, trivial⟩, ⟨trivial, trivial⟩⟩ (by kernel_rfl)
theorem w31 {x0 : List UInt8} {x1 : Int} {r : Int} (h : m_strings_LastIndexByte x0 x1 = some r) : CallSpec Try.prog 31 [.str x0, .int .u8 x1] (.int .i64 r) :=
  CallSpec.at2 b31 (n := 8) (l := [(0, .str x0), (1, .int .u8 x1)]) (by kernel_rfl) (by kernel_rfl) (by kernel_rfl) (by kernel_rfl) (by kernel_rfl) (Nat.le_of_ble_eq_true (by kernel_rfl)) (fun Γ => we31 x0 x1 r h Γ)

/-! ### armature name.split -/
noncomputable def b25 : Code := Try.f25.body.getD .skip
def m_name_split (x0 : List UInt8) : Option (Int) :=
  (m_strings_LastIndexByte x0 47).bind fun v0 =>
  some v0
theorem we25 (x0 : List UInt8) (r : Int) (h : m_name_split x0 = some r) (Γ : Ctx) : At Try.prog Γ b25 [] (Den.Ends Try.prog Try.f25 (.int .i64 r)) (mkS 5 [(0, .str x0)] []) := by
  obtain ⟨v0, e0, h⟩ := bindE h
  refine At.adv [] [(0, { told := [], gs := [], keep := some ([0], []) }), (1, { told := [(1, { ans := .val (.int .i64 v0), args := [.str x0, .int .u8 47] })], gs := [], keep := some ([2], []) })] 400 (ev := .ret) (σ' := mkS 5 [(2, .int .i64 v0)] []) (q := [True ∧ ((True ∧ (True ∧ True)) ∧ ([.str x0, .int .u8 47] : List D) = [.str x0, .int .u8 47] ∧ CallAny Try.prog 31 [.str x0, .int .u8 47] (.int .i64 v0))]) (by kernel_rfl) ⟨⟨trivial, ⟨⟨trivial, ⟨trivial, trivial⟩⟩, rfl, .inl (w31 e0)⟩⟩, trivial⟩ ?_
  refine EvOk.ret ?_
  obtain rfl := someE h
  exact Den.Ends.mk (.inl rfl) (d := .int .i64 v0) (p := (True ∧ True) ∧ (True ∧ True)) (by kernel_rfl) ⟨⟨trivial, trivial⟩, ⟨trivial, trivial⟩⟩ (by kernel_rfl)
theorem w25 {x0 : List UInt8} {r : Int} (h : m_name_split x0 = some r) : CallSpec Try.prog 25 [.str x0] (.int .i64 r) :=
  CallSpec.at2 b25 (n := 5) (l := [(0, .str x0)]) (by kernel_rfl) (by kernel_rfl) (by kernel_rfl) (by kernel_rfl) (by kernel_rfl) (Nat.le_of_ble_eq_true (by kernel_rfl)) (fun Γ => we25 x0 r h Γ)

/-! ### armature name.Package -/
noncomputable def b12 : Code := Try.f12.body.getD .skip
def m_name_Package (x0 : List UInt8) : Option ((List UInt8)) :=
  (m_name_split x0).bind fun v0 =>
  (some (if v0 > (0 : Int) then v0 else 0)).bind fun v1 =>
  (sub x0 0 v1).bind fun v2 =>
  some v2
theorem we12 (x0 : List UInt8) (r : (List UInt8)) (h : m_name_Package x0 = some r) (Γ : Ctx) : At Try.prog Γ b12 [] (Den.Ends Try.prog Try.f12 (.str r)) (mkS 8 [(0, .str x0)] []) := by
  obtain ⟨v0, e0, h⟩ := bindE h
  obtain ⟨v1, e1, h⟩ := bindE h
  obtain ⟨v2, e2, h⟩ := bindE h
  refine At.adv [] [(0, { told := [], gs := [], keep := some ([0], []) }), (1, { told := [(2, { ans := .val (.int .i64 v0), args := [.str x0] }), (3, { ans := .val (.int .i64 v1) }), (4, { ans := .val (.str v2) })], gs := [], keep := some ([2], []) })] 400 (ev := .ret) (σ' := mkS 8 [(2, .str v2)] []) (q := [True ∧ ((True ∧ True) ∧ ([.str x0] : List D) = [.str x0] ∧ CallAny Try.prog 25 [.str x0] (.int .i64 v0)), True ∧ ((if v0 > (0 : Int) then v0 else 0) = v1), True ∧ (sub x0 0 v1 = some v2)]) (by kernel_rfl) ⟨⟨trivial, ⟨⟨trivial, trivial⟩, rfl, .inl (w25 e0)⟩⟩, ⟨trivial, someE e1⟩, ⟨trivial, e2⟩, trivial⟩ ?_
  refine EvOk.ret ?_
  obtain rfl := someE h
  exact Den.Ends.mk (.inl rfl) (d := .str v2) (p := (True ∧ True) ∧ (True ∧ True)) (by kernel_rfl) ⟨⟨trivial, trivial⟩, ⟨trivial, trivial⟩⟩ (by kernel_rfl)
theorem w12 {x0 : List UInt8} {r : (List UInt8)} (h : m_name_Package x0 = some r) : CallSpec Try.prog 12 [.str x0] (.str r) :=
  CallSpec.at2 b12 (n := 8) (l := [(0, .str x0)]) (by kernel_rfl) (by kernel_rfl) (by kernel_rfl) (by kernel_rfl) (by kernel_rfl) (Nat.le_of_ble_eq_true (by kernel_rfl)) (fun Γ => we12 x0 r h Γ)

/-! ### armature name.SimpleName -/
noncomputable def b14 : Code := Try.f14.body.getD .skip
def m_name_SimpleName (x0 : List UInt8) : Option ((List UInt8)) :=
  (m_name_split x0).bind fun v0 =>
  (some (IntKind.wrap .i64 (v0 + (1 : Int)))).bind fun v1 =>
  (sub x0 v1 (x0.length : Int)).bind fun v2 =>
  some v2
theorem we14 (x0 : List UInt8) (r : (List UInt8)) (h : m_name_SimpleName x0 = some r) (Γ : Ctx) : At Try.prog Γ b14 [] (Den.Ends Try.prog Try.f14 (.str r)) (mkS 8 [(0, .str x0)] []) := by
  obtain ⟨v0, e0, h⟩ := bindE h
  obtain ⟨v1, e1, h⟩ := bindE h
  obtain ⟨v2, e2, h⟩ := bindE h
  refine At.adv [] [(0, { told := [], gs := [], keep := some ([0], []) }), (1, { told := [(2, { ans := .val (.int .i64 v0), args := [.str x0] }), (3, { ans := .val (.int .i64 v1) }), (4, { ans := .val (.str v2) })], gs := [], keep := some ([2], []) })] 400 (ev := .ret) (σ' := mkS 8 [(2, .str v2)] []) (q := [True ∧ ((True ∧ True) ∧ ([.str x0] : List D) = [.str x0] ∧ CallAny Try.prog 25 [.str x0] (.int .i64 v0)), True ∧ (IntKind.wrap .i64 (v0 + (1 : Int)) = v1), True ∧ (sub x0 v1 (x0.length : Int) = some v2)]) (by kernel_rfl) ⟨⟨trivial, ⟨⟨trivial, trivial⟩, rfl, .inl (w25 e0)⟩⟩, ⟨trivial, someE e1⟩, ⟨trivial, e2⟩, trivial⟩ ?_
  refine EvOk.ret ?_
  obtain rfl := someE h
  exact Den.Ends.mk (.inl rfl) (d := .str v2) (p := (True ∧ True) ∧ (True ∧ True)) (by kernel_rfl) ⟨⟨trivial, trivial⟩, ⟨trivial, trivial⟩⟩ (by kernel_rfl)
theorem w14 {x0 : List UInt8} {r : (List UInt8)} (h : m_name_SimpleName x0 = some r) : CallSpec Try.prog 14 [.str x0] (.str r) :=
  CallSpec.at2 b14 (n := 8) (l := [(0, .str x0)]) (by kernel_rfl) (by kernel_rfl) (by kernel_rfl) (by kernel_rfl) (by kernel_rfl) (Nat.le_of_ble_eq_true (by kernel_rfl)) (fun Γ => we14 x0 r h Γ)

/-! ### armature name.Join -/
noncomputable def b16 : Code := Try.f16.body.getD .skip
noncomputable def c16x0 : Code := sub1 b16
noncomputable def c16x1 : Code := sub0 c16x0
noncomputable def c16x2 : Code := sub1 c16x1
noncomputable def c16x3 : Code := sub0 c16x2
noncomputable def c16x4 : Code := sub1 c16x2
noncomputable def c16x5 : Code := sub1 c16x0
def m_name_Join (x0 : List UInt8) (x1 : List UInt8) : Option ((List UInt8)) :=
  if (x0 == ([] : List UInt8)) = true then
    (some x1) else
  ((catK x0 ([47] : List UInt8)).bind fun v0 =>
    (catK v0 x1).bind fun v1 =>
    some v1)
theorem we16 (x0 : List UInt8) (x1 : List UInt8) (r : (List UInt8)) (h : m_name_Join x0 x1 = some r) (Γ : Ctx) : At Try.prog Γ b16 [] (Den.Ends Try.prog Try.f16 (.str r)) (mkS 12 [(0, .str x0), (1, .str x1)] []) := by
  refine At.adv [] [(0, { told := [], gs := [], keep := some ([0, 1], []) }), (1, { told := [], gs := [], keep := some ([0, 1, 6], []) })] 400 (ev := .cond (x0 == ([] : List UInt8)) c16x3 c16x4 [.seq c16x5]) (σ' := mkS 12 [(0, .str x0), (1, .str x1), (6, .bool (x0 == ([] : List UInt8)))] []) (q := []) (by kernel_rfl) trivial ?_
  refine EvOk.cond (fun h0 => ?_) (fun h0 => ?_)
  · replace h := iteT h0 h
    refine At.gc [1] [] (n := 12) (l := [(1, .str x1)]) (bl := []) (by kernel_rfl) ?_
    refine At.adv [] [(2, { told := [], gs := [], keep := some ([4], []) })] 400 (ev := .ret) (σ' := mkS 12 [(4, .str x1)] []) (q := []) (by kernel_rfl) trivial ?_
    refine EvOk.ret ?_
    obtain rfl := someE h
    exact Den.Ends.mk (.inl rfl) (d := .str x1) (p := (True ∧ True) ∧ (True ∧ True)) (by kernel_rfl) ⟨⟨trivial, trivial⟩, ⟨trivial, trivial⟩⟩ (by kernel_rfl)
  · replace h := iteF h0 h
    refine At.gc [0, 1] [] (n := 12) (l := [(0, .str x0), (1, .str x1)]) (bl := []) (by kernel_rfl) ?_
    obtain ⟨v0, e0, h⟩ := bindE h
    obtain ⟨v1, e1, h⟩ := bindE h
    refine At.adv [] [(3, { told := [(1, { ans := .val (.str v0) }), (3, { ans := .val (.str v1) })], gs := [], keep := some ([4], []) })] 400 (ev := .ret) (σ' := mkS 12 [(4, .str v1)] []) (q := [True ∧ (x0.length + ([47] : List UInt8).length ≤ 9223372036854775807 ∧ x0 ++ ([47] : List UInt8) = v0), True ∧ (v0.length + x1.length ≤ 9223372036854775807 ∧ v0 ++ x1 = v1)]) (by kernel_rfl) ⟨⟨trivial, catK_spec e0⟩, ⟨trivial, catK_spec e1⟩, trivial⟩ ?_
    refine EvOk.ret ?_
    obtain rfl := someE h
    exact Den.Ends.mk (.inl rfl) (d := .str v1) (p := (True ∧ True) ∧ (True ∧ True)) (by kernel_rfl) ⟨⟨trivial, trivial⟩, ⟨trivial, trivial⟩⟩ (by kernel_rfl)
theorem w16 {x0 : List UInt8} {x1 : List UInt8} {r : (List UInt8)} (h : m_name_Join x0 x1 = some r) : CallSpec Try.prog 16 [.str x0, .str x1] (.str r) :=
  CallSpec.at2 b16 (n := 12) (l := [(0, .str x0), (1, .str x1)]) (by kernel_rfl) (by kernel_rfl) (by kernel_rfl) (by kernel_rfl) (by kernel_rfl) (Nat.le_of_ble_eq_true (by kernel_rfl)) (fun Γ => we16 x0 x1 r h Γ)

/-! ### internal stringslite.HasPrefix -/
noncomputable def b27 : Code := Try.f27.body.getD .skip
def m_internal_stringslite_HasPrefix (x0 : List UInt8) (x1 : List UInt8) : Option (Bool) :=
  if (decide ((x0.length : Int) ≥ (x1.length : Int))) = true then ((sub x0 0 (x1.length : Int)).bind fun v0 =>
  some (v0 == x1)) else
  (some false)
theorem we27 (x0 : List UInt8) (x1 : List UInt8) (r : Bool) (h : m_internal_stringslite_HasPrefix x0 x1 = some r) (Γ : Ctx) : At Try.prog Γ b27 [] (Den.Ends Try.prog Try.f27 (.bool r)) (mkS 18 [(0, .str x0), (1, .str x1)] []) := by
  rcases Bool.eq_false_or_eq_true (decide ((x0.length : Int) ≥ (x1.length : Int))) with h0 | h0
  · replace h := iteT h0 h
    obtain ⟨v0, e0, h⟩ := bindE h
    refine At.adv [] [(0, { told := [], gs := [], keep := some ([0, 1], []) }), (1, { told := [(9, { ans := .val (.str v0) }), (12, { ans := .yes })], gs := [(6, true), (7, true), (8, true), (9, true), (10, true), (11, true)], keep := some ([4], []) })] 400 (ev := .ret) (σ' := mkS 18 [(4, .bool (v0 == x1))] []) (q := [((decide ((x0.length : Int) ≥ (x1.length : Int))) == true) = true ∧ True, ((decide ((x0.length : Int) ≥ (x1.length : Int))) == true) = true ∧ True, ((decide ((x0.length : Int) ≥ (x1.length : Int))) == true) = true ∧ True, ((decide ((x0.length : Int) ≥ (x1.length : Int))) == true) = true ∧ (sub x0 0 (x1.length : Int) = some v0), ((decide ((x0.length : Int) ≥ (x1.length : Int))) == true) = true ∧ True, ((decide ((x0.length : Int) ≥ (x1.length : Int))) == true) = true ∧ True, True ∧ ((decide ((x0.length : Int) ≥ (x1.length : Int))) = true)]) (by kernel_rfl) ⟨⟨(gB h0 rfl), trivial⟩, ⟨(gB h0 rfl), trivial⟩, ⟨(gB h0 rfl), trivial⟩, ⟨(gB h0 rfl), e0⟩, ⟨(gB h0 rfl), trivial⟩, ⟨(gB h0 rfl), trivial⟩, ⟨trivial, h0⟩, trivial⟩ ?_
    refine EvOk.ret ?_
    obtain rfl := someE h
    exact Den.Ends.mk (.inl rfl) (d := .bool (v0 == x1)) (p := (True ∧ True) ∧ (True ∧ True)) (by kernel_rfl) ⟨⟨trivial, trivial⟩, ⟨trivial, trivial⟩⟩ (by kernel_rfl)
  · replace h := iteF h0 h
    refine At.adv [] [(0, { told := [], gs := [], keep := some ([0, 1], []) }), (1, { told := [(12, { ans := .no })], gs := [(6, false), (7, false), (8, false), (9, false), (10, false), (11, false)], keep := some ([4], []) })] 400 (ev := .ret) (σ' := mkS 18 [(4, .bool false)] []) (q := [((decide ((x0.length : Int) ≥ (x1.length : Int))) == true) = false, ((decide ((x0.length : Int) ≥ (x1.length : Int))) == true) = false, ((decide ((x0.length : Int) ≥ (x1.length : Int))) == true) = false, ((decide ((x0.length : Int) ≥ (x1.length : Int))) == true) = false, ((decide ((x0.length : Int) ≥ (x1.length : Int))) == true) = false, ((decide ((x0.length : Int) ≥ (x1.length : Int))) == true) = false, True ∧ ((decide ((x0.length : Int) ≥ (x1.length : Int))) = false)]) (by kernel_rfl) ⟨gB h0 rfl, gB h0 rfl, gB h0 rfl, gB h0 rfl, gB h0 rfl, gB h0 rfl, ⟨trivial, h0⟩, trivial⟩ ?_
    refine EvOk.ret ?_
    obtain rfl := someE h
    exact Den.Ends.mk (.inl rfl) (d := .bool false) (p := (True ∧ True) ∧ (True ∧ True)) (by kernel_rfl) ⟨⟨trivial, trivial⟩, ⟨trivial, trivial⟩⟩ (by kernel_rfl)
theorem w27 {x0 : List UInt8} {x1 : List UInt8} {r : Bool} (h : m_internal_stringslite_HasPrefix x0 x1 = some r) : CallSpec Try.prog 27 [.str x0, .str x1] (.bool r) :=
  CallSpec.at2 b27 (n := 18) (l := [(0, .str x0), (1, .str x1)]) (by kernel_rfl) (by kernel_rfl) (by kernel_rfl) (by kernel_rfl) (by kernel_rfl) (Nat.le_of_ble_eq_true (by kernel_rfl)) (fun Γ => we27 x0 x1 r h Γ)

/-! ### strings.HasPrefix -/
noncomputable def b20 : Code := Try.f20.body.getD .skip
def m_strings_HasPrefix (x0 : List UInt8) (x1 : List UInt8) : Option (Bool) :=
  (m_internal_stringslite_HasPrefix x0 x1).bind fun v0 =>
  some v0
theorem we20 (x0 : List UInt8) (x1 : List UInt8) (r : Bool) (h : m_strings_HasPrefix x0 x1 = some r) (Γ : Ctx) : At Try.prog Γ b20 [] (Den.Ends Try.prog Try.f20 (.bool r)) (mkS 8 [(0, .str x0), (1, .str x1)] []) := by
  obtain ⟨v0, e0, h⟩ := bindE h
  refine At.adv [] [(0, { told := [], gs := [], keep := some ([0, 1], []) }), (1, { told := [(2, { ans := .val (.bool v0), args := [.str x0, .str x1] })], gs := [], keep := some ([4], []) })] 400 (ev := .ret) (σ' := mkS 8 [(4, .bool v0)] []) (q := [True ∧ ((True ∧ (True ∧ True)) ∧ ([.str x0, .str x1] : List D) = [.str x0, .str x1] ∧ CallAny Try.prog 27 [.str x0, .str x1] (.bool v0))]) (by kernel_rfl) ⟨⟨trivial, ⟨⟨trivial, ⟨trivial, trivial⟩⟩, rfl, .inl (w27 e0)⟩⟩, trivial⟩ ?_
  refine EvOk.ret ?_
  obtain rfl := someE h
  exact Den.Ends.mk (.inl rfl) (d := .bool v0) (p := (True ∧ True) ∧ (True ∧ True)) (by kernel_rfl) ⟨⟨trivial, trivial⟩, ⟨trivial, trivial⟩⟩ (by kernel_rfl)
theorem w20 {x0 : List UInt8} {x1 : List UInt8} {r : Bool} (h : m_strings_HasPrefix x0 x1 = some r) : CallSpec Try.prog 20 [.str x0, .str x1] (.bool r) :=
  CallSpec.at2 b20 (n := 8) (l := [(0, .str x0), (1, .str x1)]) (by kernel_rfl) (by kernel_rfl) (by kernel_rfl) (by kernel_rfl) (by kernel_rfl) (Nat.le_of_ble_eq_true (by kernel_rfl)) (fun Γ => we20 x0 x1 r h Γ)

/-! ### armature name.HasPrefix -/
noncomputable def b18 : Code := Try.f18.body.getD .skip
def m_name_HasPrefix (x0 : List UInt8) (x1 : List UInt8) : Option (Bool) :=
  (m_strings_HasPrefix x0 x1).bind fun v0 =>
  some v0
theorem we18 (x0 : List UInt8) (x1 : List UInt8) (r : Bool) (h : m_name_HasPrefix x0 x1 = some r) (Γ : Ctx) : At Try.prog Γ b18 [] (Den.Ends Try.prog Try.f18 (.bool r)) (mkS 8 [(0, .str x0), (1, .str x1)] []) := by
  obtain ⟨v0, e0, h⟩ := bindE h
  refine At.adv [] [(0, { told := [], gs := [], keep := some ([0, 1], []) }), (1, { told := [(2, { ans := .val (.bool v0), args := [.str x0, .str x1] })], gs := [], keep := some ([4], []) })] 400 (ev := .ret) (σ' := mkS 8 [(4, .bool v0)] []) (q := [True ∧ ((True ∧ (True ∧ True)) ∧ ([.str x0, .str x1] : List D) = [.str x0, .str x1] ∧ CallAny Try.prog 20 [.str x0, .str x1] (.bool v0))]) (by kernel_rfl) ⟨⟨trivial, ⟨⟨trivial, ⟨trivial, trivial⟩⟩, rfl, .inl (w20 e0)⟩⟩, trivial⟩ ?_
  refine EvOk.ret ?_
  obtain rfl := someE h
  exact Den.Ends.mk (.inl rfl) (d := .bool v0) (p := (True ∧ True) ∧ (True ∧ True)) (by kernel_rfl) ⟨⟨trivial, trivial⟩, ⟨trivial, trivial⟩⟩ (by kernel_rfl)
theorem w18 {x0 : List UInt8} {x1 : List UInt8} {r : Bool} (h : m_name_HasPrefix x0 x1 = some r) : CallSpec Try.prog 18 [.str x0, .str x1] (.bool r) :=
  CallSpec.at2 b18 (n := 8) (l := [(0, .str x0), (1, .str x1)]) (by kernel_rfl) (by kernel_rfl) (by kernel_rfl) (by kernel_rfl) (by kernel_rfl) (Nat.le_of_ble_eq_true (by kernel_rfl)) (fun Γ => we18 x0 x1 r h Γ)

/-! ### armature armaturelaw03.awake -/
noncomputable def b7 : Code := Try.f7.body.getD .skip
def m_armaturelaw03_awake  : Option (Bool) :=
  (m_name_IsClassName [97, 47, 98, 95, 49, 47, 36, 99]).bind fun v0 =>
  if v0 = true then ((m_name_IsClassName [97, 47, 47, 98]).bind fun v1 =>
  if (!v1) = true then ((m_name_IsClassName [49, 97]).bind fun v2 =>
  if (!v2) = true then ((m_name_IsClassName []).bind fun v3 =>
  if (!v3) = true then ((m_name_IsMemberName [60, 105, 110, 105, 116, 62]).bind fun v4 =>
  if v4 = true then ((m_name_IsClassName [60, 105, 110, 105, 116, 62]).bind fun v5 =>
  if (!v5) = true then ((m_name_Package [97, 47, 98, 47, 99]).bind fun v6 =>
  if (v6 == ([97, 47, 98] : List UInt8)) = true then ((m_name_SimpleName [97, 47, 98, 47, 99]).bind fun v7 =>
  if (v7 == ([99] : List UInt8)) = true then ((m_name_Join [] [120]).bind fun v8 =>
  if (v8 == ([120] : List UInt8)) = true then ((m_name_Join [112] [120]).bind fun v9 =>
  if (v9 == ([112, 47, 120] : List UInt8)) = true then ((m_name_HasPrefix [97, 98, 99] [97, 98]).bind fun v10 =>
  if v10 = true then ((m_name_HasPrefix [97, 98] [97, 98, 99]).bind fun v11 =>
  some (!v11)) else
  (some false)) else
  (some false)) else
  (some false)) else
  (some false)) else
  (some false)) else
  (some false)) else
  (some false)) else
  (some false)) else
  (some false)) else
  (some false)) else
  (some false)
theorem we7  (r : Bool) (h : m_armaturelaw03_awake = some r) (Γ : Ctx) : At Try.prog Γ b7 [] (Den.Ends Try.prog Try.f7 (.bool r)) (mkS 44 [] []) := by
  obtain ⟨v0, e0, h⟩ := bindE h
  rcases Bool.eq_false_or_eq_true v0 with h0 | h0
  · replace h := iteT h0 h
    obtain ⟨v1, e1, h⟩ := bindE h
    rcases Bool.eq_false_or_eq_true (!v1) with h1 | h1
    · replace h := iteT h1 h
      obtain ⟨v2, e2, h⟩ := bindE h
      rcases Bool.eq_false_or_eq_true (!v2) with h2 | h2
      · replace h := iteT h2 h
        obtain ⟨v3, e3, h⟩ := bindE h
        rcases Bool.eq_false_or_eq_true (!v3) with h3 | h3
        · replace h := iteT h3 h
          obtain ⟨v4, e4, h⟩ := bindE h
          rcases Bool.eq_false_or_eq_true v4 with h4 | h4
          · replace h := iteT h4 h
            obtain ⟨v5, e5, h⟩ := bindE h
            rcases Bool.eq_false_or_eq_true (!v5) with h5 | h5
            · replace h := iteT h5 h
              obtain ⟨v6, e6, h⟩ := bindE h
              rcases Bool.eq_false_or_eq_true (v6 == ([97, 47, 98] : List UInt8)) with h6 | h6
              · replace h := iteT h6 h
                obtain ⟨v7, e7, h⟩ := bindE h
                rcases Bool.eq_false_or_eq_true (v7 == ([99] : List UInt8)) with h7 | h7
                · replace h := iteT h7 h
                  obtain ⟨v8, e8, h⟩ := bindE h
                  rcases Bool.eq_false_or_eq_true (v8 == ([120] : List UInt8)) with h8 | h8
                  · replace h := iteT h8 h
                    obtain ⟨v9, e9, h⟩ := bindE h
                    rcases Bool.eq_false_or_eq_true (v9 == ([112, 47, 120] : List UInt8)) with h9 | h9
                    · replace h := iteT h9 h
                      obtain ⟨v10, e10, h⟩ := bindE h
                      rcases Bool.eq_false_or_eq_true v10 with h10 | h10
                      · replace h := iteT h10 h
                        obtain ⟨v11, e11, h⟩ := bindE h
                        refine At.adv [] [(0, { told := [], gs := [], keep := some ([], []) }), (1, { told := [(0, { ans := .val (.bool v0), args := [.str [97, 47, 98, 95, 49, 47, 36, 99]] }), (2, { ans := .val (.bool v1), args := [.str [97, 47, 47, 98]] }), (4, { ans := .yes }), (6, { ans := .val (.bool v2), args := [.str [49, 97]] }), (8, { ans := .yes }), (10, { ans := .val (.bool v3), args := [.str []] }), (12, { ans := .yes }), (14, { ans := .val (.bool v4), args := [.str [60, 105, 110, 105, 116, 62]] }), (15, { ans := .yes }), (17, { ans := .val (.bool v5), args := [.str [60, 105, 110, 105, 116, 62]] }), (19, { ans := .yes }), (21, { ans := .val (.str v6), args := [.str [97, 47, 98, 47, 99]] }), (23, { ans := .yes }), (25, { ans := .val (.str v7), args := [.str [97, 47, 98, 47, 99]] }), (27, { ans := .yes }), (29, { ans := .val (.str v8), args := [.str [], .str [120]] }), (31, { ans := .yes }), (33, { ans := .val (.str v9), args := [.str [112], .str [120]] }), (35, { ans := .yes }), (37, { ans := .val (.bool v10), args := [.str [97, 98, 99], .str [97, 98]] }), (38, { ans := .yes }), (40, { ans := .val (.bool v11), args := [.str [97, 98], .str [97, 98, 99]] }), (42, { ans := .yes })], gs := [(2, true), (3, true), (6, true), (7, true), (10, true), (11, true), (14, true), (17, true), (18, true), (21, true), (22, true), (25, true), (26, true), (29, true), (30, true), (33, true), (34, true), (37, true), (40, true), (41, true)], keep := some ([0], []) })] 400 (ev := .ret) (σ' := mkS 44 [(0, .bool (!v11))] []) (q := [True ∧ ((True ∧ True) ∧ ([.str [97, 47, 98, 95, 49, 47, 36, 99]] : List D) = [.str [97, 47, 98, 95, 49, 47, 36, 99]] ∧ CallAny Try.prog 8 [.str [97, 47, 98, 95, 49, 47, 36, 99]] (.bool v0)), (v0 == true) = true ∧ ((True ∧ True) ∧ ([.str [97, 47, 47, 98]] : List D) = [.str [97, 47, 47, 98]] ∧ CallAny Try.prog 8 [.str [97, 47, 47, 98]] (.bool v1)), (v0 == true) = true ∧ True, True ∧ (v0 = true), ((!v1) == true) = true ∧ ((True ∧ True) ∧ ([.str [49, 97]] : List D) = [.str [49, 97]] ∧ CallAny Try.prog 8 [.str [49, 97]] (.bool v2)), ((!v1) == true) = true ∧ True, True ∧ ((!v1) = true), ((!v2) == true) = true ∧ ((True ∧ True) ∧ ([.str []] : List D) = [.str []] ∧ CallAny Try.prog 8 [.str []] (.bool v3)), ((!v2) == true) = true ∧ True, True ∧ ((!v2) = true), ((!v3) == true) = true ∧ ((True ∧ True) ∧ ([.str [60, 105, 110, 105, 116, 62]] : List D) = [.str [60, 105, 110, 105, 116, 62]] ∧ CallAny Try.prog 10 [.str [60, 105, 110, 105, 116, 62]] (.bool v4)), True ∧ ((!v3) = true), (v4 == true) = true ∧ ((True ∧ True) ∧ ([.str [60, 105, 110, 105, 116, 62]] : List D) = [.str [60, 105, 110, 105, 116, 62]] ∧ CallAny Try.prog 8 [.str [60, 105, 110, 105, 116, 62]] (.bool v5)), (v4 == true) = true ∧ True, True ∧ (v4 = true), ((!v5) == true) = true ∧ ((True ∧ True) ∧ ([.str [97, 47, 98, 47, 99]] : List D) = [.str [97, 47, 98, 47, 99]] ∧ CallAny Try.prog 12 [.str [97, 47, 98, 47, 99]] (.str v6)), ((!v5) == true) = true ∧ True, True ∧ ((!v5) = true), ((v6 == ([97, 47, 98] : List UInt8)) == true) = true ∧ ((True ∧ True) ∧ ([.str [97, 47, 98, 47, 99]] : List D) = [.str [97, 47, 98, 47, 99]] ∧ CallAny Try.prog 14 [.str [97, 47, 98, 47, 99]] (.str v7)), ((v6 == ([97, 47, 98] : List UInt8)) == true) = true ∧ True, True ∧ ((v6 == ([97, 47, 98] : List UInt8)) = true), ((v7 == ([99] : List UInt8)) == true) = true ∧ ((True ∧ (True ∧ True)) ∧ ([.str [], .str [120]] : List D) = [.str [], .str [120]] ∧ CallAny Try.prog 16 [.str [], .str [120]] (.str v8)), ((v7 == ([99] : List UInt8)) == true) = true ∧ True, True ∧ ((v7 == ([99] : List UInt8)) = true), ((v8 == ([120] : List UInt8)) == true) = true ∧ ((True ∧ (True ∧ True)) ∧ ([.str [112], .str [120]] : List D) = [.str [112], .str [120]] ∧ CallAny Try.prog 16 [.str [112], .str [120]] (.str v9)), ((v8 == ([120] : List UInt8)) == true) = true ∧ True, True ∧ ((v8 == ([120] : List UInt8)) = true), ((v9 == ([112, 47, 120] : List UInt8)) == true) = true ∧ ((True ∧ (True ∧ True)) ∧ ([.str [97, 98, 99], .str [97, 98]] : List D) = [.str [97, 98, 99], .str [97, 98]] ∧ CallAny Try.prog 18 [.str [97, 98, 99], .str [97, 98]] (.bool v10)), True ∧ ((v9 == ([112, 47, 120] : List UInt8)) = true), (v10 == true) = true ∧ ((True ∧ (True ∧ True)) ∧ ([.str [97, 98], .str [97, 98, 99]] : List D) = [.str [97, 98], .str [97, 98, 99]] ∧ CallAny Try.prog 18 [.str [97, 98], .str [97, 98, 99]] (.bool v11)), (v10 == true) = true ∧ True, True ∧ (v10 = true)]) (by kernel_rfl) ⟨⟨trivial, ⟨⟨trivial, trivial⟩, rfl, .inl (w8 e0)⟩⟩, ⟨(gB h0 rfl), ⟨⟨trivial, trivial⟩, rfl, .inl (w8 e1)⟩⟩, ⟨(gB h0 rfl), trivial⟩, ⟨trivial, h0⟩, ⟨(gB h1 rfl), ⟨⟨trivial, trivial⟩, rfl, .inl (w8 e2)⟩⟩, ⟨(gB h1 rfl), trivial⟩, ⟨trivial, h1⟩, ⟨(gB h2 rfl), ⟨⟨trivial, trivial⟩, rfl, .inl (w8 e3)⟩⟩, ⟨(gB h2 rfl), trivial⟩, ⟨trivial, h2⟩, ⟨(gB h3 rfl), ⟨⟨trivial, trivial⟩, rfl, .inl (w10 e4)⟩⟩, ⟨trivial, h3⟩, ⟨(gB h4 rfl), ⟨⟨trivial, trivial⟩, rfl, .inl (w8 e5)⟩⟩, ⟨(gB h4 rfl), trivial⟩, ⟨trivial, h4⟩, ⟨(gB h5 rfl), ⟨⟨trivial, trivial⟩, rfl, .inl (w12 e6)⟩⟩, ⟨(gB h5 rfl), trivial⟩, ⟨trivial, h5⟩, ⟨(gB h6 rfl), ⟨⟨trivial, trivial⟩, rfl, .inl (w14 e7)⟩⟩, ⟨(gB h6 rfl), trivial⟩, ⟨trivial, h6⟩, ⟨(gB h7 rfl), ⟨⟨trivial, ⟨trivial, trivial⟩⟩, rfl, .inl (w16 e8)⟩⟩, ⟨(gB h7 rfl), trivial⟩, ⟨trivial, h7⟩, ⟨(gB h8 rfl), ⟨⟨trivial, ⟨trivial, trivial⟩⟩, rfl, .inl (w16 e9)⟩⟩, ⟨(gB h8 rfl), trivial⟩, ⟨trivial, h8⟩, ⟨(gB h9 rfl), ⟨⟨trivial, ⟨trivial, trivial⟩⟩, rfl, .inl (w18 e10)⟩⟩, ⟨trivial, h9⟩, ⟨(gB h10 rfl), ⟨⟨trivial, ⟨trivial, trivial⟩⟩, rfl, .inl (w18 e11)⟩⟩, ⟨(gB h10 rfl), trivial⟩, ⟨trivial, h10⟩, trivial⟩ ?_
                        refine EvOk.ret ?_
                        obtain rfl := someE h
                        exact Den.Ends.mk (.inl rfl) (d := .bool (!v11)) (p := (True ∧ True) ∧ (True ∧ True)) (by kernel_rfl) ⟨⟨trivial, trivial⟩, ⟨trivial, trivial⟩⟩ (by kernel_rfl)
                      · replace h := iteF h10 h
                        refine At.adv [] [(0, { told := [], gs := [], keep := some ([], []) }), (1, { told := [(0, { ans := .val (.bool v0), args := [.str [97, 47, 98, 95, 49, 47, 36, 99]] }), (2, { ans := .val (.bool v1), args := [.str [97, 47, 47, 98]] }), (4, { ans := .yes }), (6, { ans := .val (.bool v2), args := [.str [49, 97]] }), (8, { ans := .yes }), (10, { ans := .val (.bool v3), args := [.str []] }), (12, { ans := .yes }), (14, { ans := .val (.bool v4), args := [.str [60, 105, 110, 105, 116, 62]] }), (15, { ans := .yes }), (17, { ans := .val (.bool v5), args := [.str [60, 105, 110, 105, 116, 62]] }), (19, { ans := .yes }), (21, { ans := .val (.str v6), args := [.str [97, 47, 98, 47, 99]] }), (23, { ans := .yes }), (25, { ans := .val (.str v7), args := [.str [97, 47, 98, 47, 99]] }), (27, { ans := .yes }), (29, { ans := .val (.str v8), args := [.str [], .str [120]] }), (31, { ans := .yes }), (33, { ans := .val (.str v9), args := [.str [112], .str [120]] }), (35, { ans := .yes }), (37, { ans := .val (.bool v10), args := [.str [97, 98, 99], .str [97, 98]] }), (38, { ans := .yes }), (42, { ans := .no })], gs := [(2, true), (3, true), (6, true), (7, true), (10, true), (11, true), (14, true), (17, true), (18, true), (21, true), (22, true), (25, true), (26, true), (29, true), (30, true), (33, true), (34, true), (37, true), (40, false), (41, false)], keep := some ([0], []) })] 400 (ev := .ret) (σ' := mkS 44 [(0, .bool false)] []) (q := [True ∧ ((True ∧ True) ∧ ([.str [97, 47, 98, 95, 49, 47, 36, 99]] : List D) = [.str [97, 47, 98, 95, 49, 47, 36, 99]] ∧ CallAny Try.prog 8 [.str [97, 47, 98, 95, 49, 47, 36, 99]] (.bool v0)), (v0 == true) = true ∧ ((True ∧ True) ∧ ([.str [97, 47, 47, 98]] : List D) = [.str [97, 47, 47, 98]] ∧ CallAny Try.prog 8 [.str [97, 47, 47, 98]] (.bool v1)), (v0 == true) = true ∧ True, True ∧ (v0 = true), ((!v1) == true) = true ∧ ((True ∧ True) ∧ ([.str [49, 97]] : List D) = [.str [49, 97]] ∧ CallAny Try.prog 8 [.str [49, 97]] (.bool v2)), ((!v1) == true) = true ∧ True, True ∧ ((!v1) = true), ((!v2) == true) = true ∧ ((True ∧ True) ∧ ([.str []] : List D) = [.str []] ∧ CallAny Try.prog 8 [.str []] (.bool v3)), ((!v2) == true) = true ∧ True, True ∧ ((!v2) = true), ((!v3) == true) = true ∧ ((True ∧ True) ∧ ([.str [60, 105, 110, 105, 116, 62]] : List D) = [.str [60, 105, 110, 105, 116, 62]] ∧ CallAny Try.prog 10 [.str [60, 105, 110, 105, 116, 62]] (.bool v4)), True ∧ ((!v3) = true), (v4 == true) = true ∧ ((True ∧ True) ∧ ([.str [60, 105, 110, 105, 116, 62]] : List D) = [.str [60, 105, 110, 105, 116, 62]] ∧ CallAny Try.prog 8 [.str [60, 105, 110, 105, 116, 62]] (.bool v5)), (v4 == true) = true ∧ True, True ∧ (v4 = true), ((!v5) == true) = true ∧ ((True ∧ True) ∧ ([.str [97, 47, 98, 47, 99]] : List D) = [.str [97, 47, 98, 47, 99]] ∧ CallAny Try.prog 12 [.str [97, 47, 98, 47, 99]] (.str v6)), ((!v5) == true) = true ∧ True, True ∧ ((!v5) = true), ((v6 == ([97, 47, 98] : List UInt8)) == true) = true ∧ ((True ∧ True) ∧ ([.str [97, 47, 98, 47, 99]] : List D) = [.str [97, 47, 98, 47, 99]] ∧ CallAny Try.prog 14 [.str [97, 47, 98, 47, 99]] (.str v7)), ((v6 == ([97, 47, 98] : List UInt8)) == true) = true ∧ True, True ∧ ((v6 == ([97, 47, 98] : List UInt8)) = true), ((v7 == ([99] : List UInt8)) == true) = true ∧ ((True ∧ (True ∧ True)) ∧ ([.str [], .str [120]] : List D) = [.str [], .str [120]] ∧ CallAny Try.prog 16 [.str [], .str [120]] (.str v8)), ((v7 == ([99] : List UInt8)) == true) = true ∧ True, True ∧ ((v7 == ([99] : List UInt8)) = true), ((v8 == ([120] : List UInt8)) == true) = true ∧ ((True ∧ (True ∧ True)) ∧ ([.str [112], .str [120]] : List D) = [.str [112], .str [120]] ∧ CallAny Try.prog 16 [.str [112], .str [120]] (.str v9)), ((v8 == ([120] : List UInt8)) == true) = true ∧ True, True ∧ ((v8 == ([120] : List UInt8)) = true), ((v9 == ([112, 47, 120] : List UInt8)) == true) = true ∧ ((True ∧ (True ∧ True)) ∧ ([.str [97, 98, 99], .str [97, 98]] : List D) = [.str [97, 98, 99], .str [97, 98]] ∧ CallAny Try.prog 18 [.str [97, 98, 99], .str [97, 98]] (.bool v10)), True ∧ ((v9 == ([112, 47, 120] : List UInt8)) = true), (v10 == true) = false, (v10 == true) = false, True ∧ (v10 = false)]) (by kernel_rfl) ⟨⟨trivial, ⟨⟨trivial, trivial⟩, rfl, .inl (w8 e0)⟩⟩, ⟨(gB h0 rfl), ⟨⟨trivial, trivial⟩, rfl, .inl (w8 e1)⟩⟩, ⟨(gB h0 rfl), trivial⟩, ⟨trivial, h0⟩, ⟨(gB h1 rfl), ⟨⟨trivial, trivial⟩, rfl, .inl (w8 e2)⟩⟩, ⟨(gB h1 rfl), trivial⟩, ⟨trivial, h1⟩, ⟨(gB h2 rfl), ⟨⟨trivial, trivial⟩, rfl, .inl (w8 e3)⟩⟩, ⟨(gB h2 rfl), trivial⟩, ⟨trivial, h2⟩, ⟨(gB h3 rfl), ⟨⟨trivial, trivial⟩, rfl, .inl (w10 e4)⟩⟩, ⟨trivial, h3⟩, ⟨(gB h4 rfl), ⟨⟨trivial, trivial⟩, rfl, .inl (w8 e5)⟩⟩, ⟨(gB h4 rfl), trivial⟩, ⟨trivial, h4⟩, ⟨(gB h5 rfl), ⟨⟨trivial, trivial⟩, rfl, .inl (w12 e6)⟩⟩, ⟨(gB h5 rfl), trivial⟩, ⟨trivial, h5⟩, ⟨(gB h6 rfl), ⟨⟨trivial, trivial⟩, rfl, .inl (w14 e7)⟩⟩, ⟨(gB h6 rfl), trivial⟩, ⟨trivial, h6⟩, ⟨(gB h7 rfl), ⟨⟨trivial, ⟨trivial, trivial⟩⟩, rfl, .inl (w16 e8)⟩⟩, ⟨(gB h7 rfl), trivial⟩, ⟨trivial, h7⟩, ⟨(gB h8 rfl), ⟨⟨trivial, ⟨trivial, trivial⟩⟩, rfl, .inl (w16 e9)⟩⟩, ⟨(gB h8 rfl), trivial⟩, ⟨trivial, h8⟩, ⟨(gB h9 rfl), ⟨⟨trivial, ⟨trivial, trivial⟩⟩, rfl, .inl (w18 e10)⟩⟩, ⟨trivial, h9⟩, gB h10 rfl, gB h10 rfl, ⟨trivial, h10⟩, trivial⟩ ?_
                        refine EvOk.ret ?_
                        obtain rfl := someE h
                        exact Den.Ends.mk (.inl rfl) (d := .bool false) (p := (True ∧ True) ∧ (True ∧ True)) (by kernel_rfl) ⟨⟨trivial, trivial⟩, ⟨trivial, trivial⟩⟩ (by kernel_rfl)
                    · replace h := iteF h9 h
                      refine At.adv [] [(0, { told := [], gs := [], keep := some ([], []) }), (1, { told := [(0, { ans := .val (.bool v0), args := [.str [97, 47, 98, 95, 49, 47, 36, 99]] }), (2, { ans := .val (.bool v1), args := [.str [97, 47, 47, 98]] }), (4, { ans := .yes }), (6, { ans := .val (.bool v2), args := [.str [49, 97]] }), (8, { ans := .yes }), (10, { ans := .val (.bool v3), args := [.str []] }), (12, { ans := .yes }), (14, { ans := .val (.bool v4), args := [.str [60, 105, 110, 105, 116, 62]] }), (15, { ans := .yes }), (17, { ans := .val (.bool v5), args := [.str [60, 105, 110, 105, 116, 62]] }), (19, { ans := .yes }), (21, { ans := .val (.str v6), args := [.str [97, 47, 98, 47, 99]] }), (23, { ans := .yes }), (25, { ans := .val (.str v7), args := [.str [97, 47, 98, 47, 99]] }), (27, { ans := .yes }), (29, { ans := .val (.str v8), args := [.str [], .str [120]] }), (31, { ans := .yes }), (33, { ans := .val (.str v9), args := [.str [112], .str [120]] }), (35, { ans := .yes }), (38, { ans := .no })], gs := [(2, true), (3, true), (6, true), (7, true), (10, true), (11, true), (14, true), (17, true), (18, true), (21, true), (22, true), (25, true), (26, true), (29, true), (30, true), (33, true), (34, true), (37, false)], keep := some ([0], []) })] 400 (ev := .ret) (σ' := mkS 44 [(0, .bool false)] []) (q := [True ∧ ((True ∧ True) ∧ ([.str [97, 47, 98, 95, 49, 47, 36, 99]] : List D) = [.str [97, 47, 98, 95, 49, 47, 36, 99]] ∧ CallAny Try.prog 8 [.str [97, 47, 98, 95, 49, 47, 36, 99]] (.bool v0)), (v0 == true) = true ∧ ((True ∧ True) ∧ ([.str [97, 47, 47, 98]] : List D) = [.str [97, 47, 47, 98]] ∧ CallAny Try.prog 8 [.str [97, 47, 47, 98]] (.bool v1)), (v0 == true) = true ∧ True, True ∧ (v0 = true), ((!v1) == true) = true ∧ ((True ∧ True) ∧ ([.str [49, 97]] : List D) = [.str [49, 97]] ∧ CallAny Try.prog 8 [.str [49, 97]] (.bool v2)), ((!v1) == true) = true ∧ True, True ∧ ((!v1) = true), ((!v2) == true) = true ∧ ((True ∧ True) ∧ ([.str []] : List D) = [.str []] ∧ CallAny Try.prog 8 [.str []] (.bool v3)), ((!v2) == true) = true ∧ True, True ∧ ((!v2) = true), ((!v3) == true) = true ∧ ((True ∧ True) ∧ ([.str [60, 105, 110, 105, 116, 62]] : List D) = [.str [60, 105, 110, 105, 116, 62]] ∧ CallAny Try.prog 10 [.str [60, 105, 110, 105, 116, 62]] (.bool v4)), True ∧ ((!v3) = true), (v4 == true) = true ∧ ((True ∧ True) ∧ ([.str [60, 105, 110, 105, 116, 62]] : List D) = [.str [60, 105, 110, 105, 116, 62]] ∧ CallAny Try.prog 8 [.str [60, 105, 110, 105, 116, 62]] (.bool v5)), (v4 == true) = true ∧ True, True ∧ (v4 = true), ((!v5) == true) = true ∧ ((True ∧ True) ∧ ([.str [97, 47, 98, 47, 99]] : List D) = [.str [97, 47, 98, 47, 99]] ∧ CallAny Try.prog 12 [.str [97, 47, 98, 47, 99]] (.str v6)), ((!v5) == true) = true ∧ True, True ∧ ((!v5) = true), ((v6 == ([97, 47, 98] : List UInt8)) == true) = true ∧ ((True ∧ True) ∧ ([.str [97, 47, 98, 47, 99]] : List D) = [.str [97, 47, 98, 47, 99]] ∧ CallAny Try.prog 14 [.str [97, 47, 98, 47, 99]] (.str v7)), ((v6 == ([97, 47, 98] : List UInt8)) == true) = true ∧ True, True ∧ ((v6 == ([97, 47, 98] : List UInt8)) = true), ((v7 == ([99] : List UInt8)) == true) = true ∧ ((True ∧ (True ∧ True)) ∧ ([.str [], .str [120]] : List D) = [.str [], .str [120]] ∧ CallAny Try.prog 16 [.str [], .str [120]] (.str v8)), ((v7 == ([99] : List UInt8)) == true) = true ∧ True, True ∧ ((v7 == ([99] : List UInt8)) = true), ((v8 == ([120] : List UInt8)) == true) = true ∧ ((True ∧ (True ∧ True)) ∧ ([.str [112], .str [120]] : List D) = [.str [112], .str [120]] ∧ CallAny Try.prog 16 [.str [112], .str [120]] (.str v9)), ((v8 == ([120] : List UInt8)) == true) = true ∧ True, True ∧ ((v8 == ([120] : List UInt8)) = true), ((v9 == ([112, 47, 120] : List UInt8)) == true) = false, True ∧ ((v9 == ([112, 47, 120] : List UInt8)) = false), True, True]) (by kernel_rfl) ⟨⟨trivial, ⟨⟨trivial, trivial⟩, rfl, .inl (w8 e0)⟩⟩, ⟨(gB h0 rfl), ⟨⟨trivial, trivial⟩, rfl, .inl (w8 e1)⟩⟩, ⟨(gB h0 rfl), trivial⟩, ⟨trivial, h0⟩, ⟨(gB h1 rfl), ⟨⟨trivial, trivial⟩, rfl, .inl (w8 e2)⟩⟩, ⟨(gB h1 rfl), trivial⟩, ⟨trivial, h1⟩, ⟨(gB h2 rfl), ⟨⟨trivial, trivial⟩, rfl, .inl (w8 e3)⟩⟩, ⟨(gB h2 rfl), trivial⟩, ⟨trivial, h2⟩, ⟨(gB h3 rfl), ⟨⟨trivial, trivial⟩, rfl, .inl (w10 e4)⟩⟩, ⟨trivial, h3⟩, ⟨(gB h4 rfl), ⟨⟨trivial, trivial⟩, rfl, .inl (w8 e5)⟩⟩, ⟨(gB h4 rfl), trivial⟩, ⟨trivial, h4⟩, ⟨(gB h5 rfl), ⟨⟨trivial, trivial⟩, rfl, .inl (w12 e6)⟩⟩, ⟨(gB h5 rfl), trivial⟩, ⟨trivial, h5⟩, ⟨(gB h6 rfl), ⟨⟨trivial, trivial⟩, rfl, .inl (w14 e7)⟩⟩, ⟨(gB h6 rfl), trivial⟩, ⟨trivial, h6⟩, ⟨(gB h7 rfl), ⟨⟨trivial, ⟨trivial, trivial⟩⟩, rfl, .inl (w16 e8)⟩⟩, ⟨(gB h7 rfl), trivial⟩, ⟨trivial, h7⟩, ⟨(gB h8 rfl), ⟨⟨trivial, ⟨trivial, trivial⟩⟩, rfl, .inl (w16 e9)⟩⟩, ⟨(gB h8 rfl), trivial⟩, ⟨trivial, h8⟩, gB h9 rfl, ⟨trivial, h9⟩, trivial, trivial, trivial⟩ ?_
                      refine EvOk.ret ?_
                      obtain rfl := someE h
                      exact Den.Ends.mk (.inl rfl) (d := .bool false) (p := (True ∧ True) ∧ (True ∧ True)) (by kernel_rfl) ⟨⟨trivial, trivial⟩, ⟨trivial, trivial⟩⟩ (by kernel_rfl)
                  · replace h := iteF h8 h
                    refine At.adv [] [(0, { told := [], gs := [], keep := some ([], []) }), (1, { told := [(0, { ans := .val (.bool v0), args := [.str [97, 47, 98, 95, 49, 47, 36, 99]] }), (2, { ans := .val (.bool v1), args := [.str [97, 47, 47, 98]] }), (4, { ans := .yes }), (6, { ans := .val (.bool v2), args := [.str [49, 97]] }), (8, { ans := .yes }), (10, { ans := .val (.bool v3), args := [.str []] }), (12, { ans := .yes }), (14, { ans := .val (.bool v4), args := [.str [60, 105, 110, 105, 116, 62]] }), (15, { ans := .yes }), (17, { ans := .val (.bool v5), args := [.str [60, 105, 110, 105, 116, 62]] }), (19, { ans := .yes }), (21, { ans := .val (.str v6), args := [.str [97, 47, 98, 47, 99]] }), (23, { ans := .yes }), (25, { ans := .val (.str v7), args := [.str [97, 47, 98, 47, 99]] }), (27, { ans := .yes }), (29, { ans := .val (.str v8), args := [.str [], .str [120]] }), (31, { ans := .yes }), (35, { ans := .no })], gs := [(2, true), (3, true), (6, true), (7, true), (10, true), (11, true), (14, true), (17, true), (18, true), (21, true), (22, true), (25, true), (26, true), (29, true), (30, true), (33, false), (34, false)], keep := some ([0], []) })] 400 (ev := .ret) (σ' := mkS 44 [(0, .bool false)] []) (q := [True ∧ ((True ∧ True) ∧ ([.str [97, 47, 98, 95, 49, 47, 36, 99]] : List D) = [.str [97, 47, 98, 95, 49, 47, 36, 99]] ∧ CallAny Try.prog 8 [.str [97, 47, 98, 95, 49, 47, 36, 99]] (.bool v0)), (v0 == true) = true ∧ ((True ∧ True) ∧ ([.str [97, 47, 47, 98]] : List D) = [.str [97, 47, 47, 98]] ∧ CallAny Try.prog 8 [.str [97, 47, 47, 98]] (.bool v1)), (v0 == true) = true ∧ True, True ∧ (v0 = true), ((!v1) == true) = true ∧ ((True ∧ True) ∧ ([.str [49, 97]] : List D) = [.str [49, 97]] ∧ CallAny Try.prog 8 [.str [49, 97]] (.bool v2)), ((!v1) == true) = true ∧ True, True ∧ ((!v1) = true), ((!v2) == true) = true ∧ ((True ∧ True) ∧ ([.str []] : List D) = [.str []] ∧ CallAny Try.prog 8 [.str []] (.bool v3)), ((!v2) == true) = true ∧ True, True ∧ ((!v2) = true), ((!v3) == true) = true ∧ ((True ∧ True) ∧ ([.str [60, 105, 110, 105, 116, 62]] : List D) = [.str [60, 105, 110, 105, 116, 62]] ∧ CallAny Try.prog 10 [.str [60, 105, 110, 105, 116, 62]] (.bool v4)), True ∧ ((!v3) = true), (v4 == true) = true ∧ ((True ∧ True) ∧ ([.str [60, 105, 110, 105, 116, 62]] : List D) = [.str [60, 105, 110, 105, 116, 62]] ∧ CallAny Try.prog 8 [.str [60, 105, 110, 105, 116, 62]] (.bool v5)), (v4 == true) = true ∧ True, True ∧ (v4 = true), ((!v5) == true) = true ∧ ((True ∧ True) ∧ ([.str [97, 47, 98, 47, 99]] : List D) = [.str [97, 47, 98, 47, 99]] ∧ CallAny Try.prog 12 [.str [97, 47, 98, 47, 99]] (.str v6)), ((!v5) == true) = true ∧ True, True ∧ ((!v5) = true), ((v6 == ([97, 47, 98] : List UInt8)) == true) = true ∧ ((True ∧ True) ∧ ([.str [97, 47, 98, 47, 99]] : List D) = [.str [97, 47, 98, 47, 99]] ∧ CallAny Try.prog 14 [.str [97, 47, 98, 47, 99]] (.str v7)), ((v6 == ([97, 47, 98] : List UInt8)) == true) = true ∧ True, True ∧ ((v6 == ([97, 47, 98] : List UInt8)) = true), ((v7 == ([99] : List UInt8)) == true) = true ∧ ((True ∧ (True ∧ True)) ∧ ([.str [], .str [120]] : List D) = [.str [], .str [120]] ∧ CallAny Try.prog 16 [.str [], .str [120]] (.str v8)), ((v7 == ([99] : List UInt8)) == true) = true ∧ True, True ∧ ((v7 == ([99] : List UInt8)) = true), ((v8 == ([120] : List UInt8)) == true) = false, ((v8 == ([120] : List UInt8)) == true) = false, True ∧ ((v8 == ([120] : List UInt8)) = false), True, True, True]) (by kernel_rfl) ⟨⟨trivial, ⟨⟨trivial, trivial⟩, rfl, .inl (w8 e0)⟩⟩, ⟨(gB h0 rfl), ⟨⟨trivial, trivial⟩, rfl, .inl (w8 e1)⟩⟩, ⟨(gB h0 rfl), trivial⟩, ⟨trivial, h0⟩, ⟨(gB h1 rfl), ⟨⟨trivial, trivial⟩, rfl, .inl (w8 e2)⟩⟩, ⟨(gB h1 rfl), trivial⟩, ⟨trivial, h1⟩, ⟨(gB h2 rfl), ⟨⟨trivial, trivial⟩, rfl, .inl (w8 e3)⟩⟩, ⟨(gB h2 rfl), trivial⟩, ⟨trivial, h2⟩, ⟨(gB h3 rfl), ⟨⟨trivial, trivial⟩, rfl, .inl (w10 e4)⟩⟩, ⟨trivial, h3⟩, ⟨(gB h4 rfl), ⟨⟨trivial, trivial⟩, rfl, .inl (w8 e5)⟩⟩, ⟨(gB h4 rfl), trivial⟩, ⟨trivial, h4⟩, ⟨(gB h5 rfl), ⟨⟨trivial, trivial⟩, rfl, .inl (w12 e6)⟩⟩, ⟨(gB h5 rfl), trivial⟩, ⟨trivial, h5⟩, ⟨(gB h6 rfl), ⟨⟨trivial, trivial⟩, rfl, .inl (w14 e7)⟩⟩, ⟨(gB h6 rfl), trivial⟩, ⟨trivial, h6⟩, ⟨(gB h7 rfl), ⟨⟨trivial, ⟨trivial, trivial⟩⟩, rfl, .inl (w16 e8)⟩⟩, ⟨(gB h7 rfl), trivial⟩, ⟨trivial, h7⟩, gB h8 rfl, gB h8 rfl, ⟨trivial, h8⟩, trivial, trivial, trivial, trivial⟩ ?_
                    refine EvOk.ret ?_
                    obtain rfl := someE h
                    exact Den.Ends.mk (.inl rfl) (d := .bool false) (p := (True ∧ True) ∧ (True ∧ True)) (by kernel_rfl) ⟨⟨trivial, trivial⟩, ⟨trivial, trivial⟩⟩ (by kernel_rfl)
                · replace h := iteF h7 h
                  refine At.adv [] [(0, { told := [], gs := [], keep := some ([], []) }), (1, { told := [(0, { ans := .val (.bool v0), args := [.str [97, 47, 98, 95, 49, 47, 36, 99]] }), (2, { ans := .val (.bool v1), args := [.str [97, 47, 47, 98]] }), (4, { ans := .yes }), (6, { ans := .val (.bool v2), args := [.str [49, 97]] }), (8, { ans := .yes }), (10, { ans := .val (.bool v3), args := [.str []] }), (12, { ans := .yes }), (14, { ans := .val (.bool v4), args := [.str [60, 105, 110, 105, 116, 62]] }), (15, { ans := .yes }), (17, { ans := .val (.bool v5), args := [.str [60, 105, 110, 105, 116, 62]] }), (19, { ans := .yes }), (21, { ans := .val (.str v6), args := [.str [97, 47, 98, 47, 99]] }), (23, { ans := .yes }), (25, { ans := .val (.str v7), args := [.str [97, 47, 98, 47, 99]] }), (27, { ans := .yes }), (31, { ans := .no })], gs := [(2, true), (3, true), (6, true), (7, true), (10, true), (11, true), (14, true), (17, true), (18, true), (21, true), (22, true), (25, true), (26, true), (29, false), (30, false)], keep := some ([0], []) })] 400 (ev := .ret) (σ' := mkS 44 [(0, .bool false)] []) (q := [True ∧ ((True ∧ True) ∧ ([.str [97, 47, 98, 95, 49, 47, 36, 99]] : List D) = [.str [97, 47, 98, 95, 49, 47, 36, 99]] ∧ CallAny Try.prog 8 [.str [97, 47, 98, 95, 49, 47, 36, 99]] (.bool v0)), (v0 == true) = true ∧ ((True ∧ True) ∧ ([.str [97, 47, 47, 98]] : List D) = [.str [97, 47, 47, 98]] ∧ CallAny Try.prog 8 [.str [97, 47, 47, 98]] (.bool v1)), (v0 == true) = true ∧ True, True ∧ (v0 = true), ((!v1) == true) = true ∧ ((True ∧ True) ∧ ([.str [49, 97]] : List D) = [.str [49, 97]] ∧ CallAny Try.prog 8 [.str [49, 97]] (.bool v2)), ((!v1) == true) = true ∧ True, True ∧ ((!v1) = true), ((!v2) == true) = true ∧ ((True ∧ True) ∧ ([.str []] : List D) = [.str []] ∧ CallAny Try.prog 8 [.str []] (.bool v3)), ((!v2) == true) = true ∧ True, True ∧ ((!v2) = true), ((!v3) == true) = true ∧ ((True ∧ True) ∧ ([.str [60, 105, 110, 105, 116, 62]] : List D) = [.str [60, 105, 110, 105, 116, 62]] ∧ CallAny Try.prog 10 [.str [60, 105, 110, 105, 116, 62]] (.bool v4)), True ∧ ((!v3) = true), (v4 == true) = true ∧ ((True ∧ True) ∧ ([.str [60, 105, 110, 105, 116, 62]] : List D) = [.str [60, 105, 110, 105, 116, 62]] ∧ CallAny Try.prog 8 [.str [60, 105, 110, 105, 116, 62]] (.bool v5)), (v4 == true) = true ∧ True, True ∧ (v4 = true), ((!v5) == true) = true ∧ ((True ∧ True) ∧ ([.str [97, 47, 98, 47, 99]] : List D) = [.str [97, 47, 98, 47, 99]] ∧ CallAny Try.prog 12 [.str [97, 47, 98, 47, 99]] (.str v6)), ((!v5) == true) = true ∧ True, True ∧ ((!v5) = true), ((v6 == ([97, 47, 98] : List UInt8)) == true) = true ∧ ((True ∧ True) ∧ ([.str [97, 47, 98, 47, 99]] : List D) = [.str [97, 47, 98, 47, 99]] ∧ CallAny Try.prog 14 [.str [97, 47, 98, 47, 99]] (.str v7)), ((v6 == ([97, 47, 98] : List UInt8)) == true) = true ∧ True, True ∧ ((v6 == ([97, 47, 98] : List UInt8)) = true), ((v7 == ([99] : List UInt8)) == true) = false, ((v7 == ([99] : List UInt8)) == true) = false, True ∧ ((v7 == ([99] : List UInt8)) = false), True, True, True, True, True]) (by kernel_rfl) ⟨⟨trivial, ⟨⟨trivial, trivial⟩, rfl, .inl (w8 e0)⟩⟩, ⟨(gB h0 rfl), ⟨⟨trivial, trivial⟩, rfl, .inl (w8 e1)⟩⟩, ⟨(gB h0 rfl), trivial⟩, ⟨trivial, h0⟩, ⟨(gB h1 rfl), ⟨⟨trivial, trivial⟩, rfl, .inl (w8 e2)⟩⟩, ⟨(gB h1 rfl), trivial⟩, ⟨trivial, h1⟩, ⟨(gB h2 rfl), ⟨⟨trivial, trivial⟩, rfl, .inl (w8 e3)⟩⟩, ⟨(gB h2 rfl), trivial⟩, ⟨trivial, h2⟩, ⟨(gB h3 rfl), ⟨⟨trivial, trivial⟩, rfl, .inl (w10 e4)⟩⟩, ⟨trivial, h3⟩, ⟨(gB h4 rfl), ⟨⟨trivial, trivial⟩, rfl, .inl (w8 e5)⟩⟩, ⟨(gB h4 rfl), trivial⟩, ⟨trivial, h4⟩, ⟨(gB h5 rfl), ⟨⟨trivial, trivial⟩, rfl, .inl (w12 e6)⟩⟩, ⟨(gB h5 rfl), trivial⟩, ⟨trivial, h5⟩, ⟨(gB h6 rfl), ⟨⟨trivial, trivial⟩, rfl, .inl (w14 e7)⟩⟩, ⟨(gB h6 rfl), trivial⟩, ⟨trivial, h6⟩, gB h7 rfl, gB h7 rfl, ⟨trivial, h7⟩, trivial, trivial, trivial, trivial, trivial, trivial⟩ ?_
                  refine EvOk.ret ?_
                  obtain rfl := someE h
                  exact Den.Ends.mk (.inl rfl) (d := .bool false) (p := (True ∧ True) ∧ (True ∧ True)) (by kernel_rfl) ⟨⟨trivial, trivial⟩, ⟨trivial, trivial⟩⟩ (by kernel_rfl)
              · replace h := iteF h6 h
                refine At.adv [] [(0, { told := [], gs := [], keep := some ([], []) }), (1, { told := [(0, { ans := .val (.bool v0), args := [.str [97, 47, 98, 95, 49, 47, 36, 99]] }), (2, { ans := .val (.bool v1), args := [.str [97, 47, 47, 98]] }), (4, { ans := .yes }), (6, { ans := .val (.bool v2), args := [.str [49, 97]] }), (8, { ans := .yes }), (10, { ans := .val (.bool v3), args := [.str []] }), (12, { ans := .yes }), (14, { ans := .val (.bool v4), args := [.str [60, 105, 110, 105, 116, 62]] }), (15, { ans := .yes }), (17, { ans := .val (.bool v5), args := [.str [60, 105, 110, 105, 116, 62]] }), (19, { ans := .yes }), (21, { ans := .val (.str v6), args := [.str [97, 47, 98, 47, 99]] }), (23, { ans := .yes }), (27, { ans := .no })], gs := [(2, true), (3, true), (6, true), (7, true), (10, true), (11, true), (14, true), (17, true), (18, true), (21, true), (22, true), (25, false), (26, false)], keep := some ([0], []) })] 400 (ev := .ret) (σ' := mkS 44 [(0, .bool false)] []) (q := [True ∧ ((True ∧ True) ∧ ([.str [97, 47, 98, 95, 49, 47, 36, 99]] : List D) = [.str [97, 47, 98, 95, 49, 47, 36, 99]] ∧ CallAny Try.prog 8 [.str [97, 47, 98, 95, 49, 47, 36, 99]] (.bool v0)), (v0 == true) = true ∧ ((True ∧ True) ∧ ([.str [97, 47, 47, 98]] : List D) = [.str [97, 47, 47, 98]] ∧ CallAny Try.prog 8 [.str [97, 47, 47, 98]] (.bool v1)), (v0 == true) = true ∧ True, True ∧ (v0 = true), ((!v1) == true) = true ∧ ((True ∧ True) ∧ ([.str [49, 97]] : List D) = [.str [49, 97]] ∧ CallAny Try.prog 8 [.str [49, 97]] (.bool v2)), ((!v1) == true) = true ∧ True, True ∧ ((!v1) = true), ((!v2) == true) = true ∧ ((True ∧ True) ∧ ([.str []] : List D) = [.str []] ∧ CallAny Try.prog 8 [.str []] (.bool v3)), ((!v2) == true) = true ∧ True, True ∧ ((!v2) = true), ((!v3) == true) = true ∧ ((True ∧ True) ∧ ([.str [60, 105, 110, 105, 116, 62]] : List D) = [.str [60, 105, 110, 105, 116, 62]] ∧ CallAny Try.prog 10 [.str [60, 105, 110, 105, 116, 62]] (.bool v4)), True ∧ ((!v3) = true), (v4 == true) = true ∧ ((True ∧ True) ∧ ([.str [60, 105, 110, 105, 116, 62]] : List D) = [.str [60, 105, 110, 105, 116, 62]] ∧ CallAny Try.prog 8 [.str [60, 105, 110, 105, 116, 62]] (.bool v5)), (v4 == true) = true ∧ True, True ∧ (v4 = true), ((!v5) == true) = true ∧ ((True ∧ True) ∧ ([.str [97, 47, 98, 47, 99]] : List D) = [.str [97, 47, 98, 47, 99]] ∧ CallAny Try.prog 12 [.str [97, 47, 98, 47, 99]] (.str v6)), ((!v5) == true) = true ∧ True, True ∧ ((!v5) = true), ((v6 == ([97, 47, 98] : List UInt8)) == true) = false, ((v6 == ([97, 47, 98] : List UInt8)) == true) = false, True ∧ ((v6 == ([97, 47, 98] : List UInt8)) = false), True, True, True, True, True, True, True]) (by kernel_rfl) ⟨⟨trivial, ⟨⟨trivial, trivial⟩, rfl, .inl (w8 e0)⟩⟩, ⟨(gB h0 rfl), ⟨⟨trivial, trivial⟩, rfl, .inl (w8 e1)⟩⟩, ⟨(gB h0 rfl), trivial⟩, ⟨trivial, h0⟩, ⟨(gB h1 rfl), ⟨⟨trivial, trivial⟩, rfl, .inl (w8 e2)⟩⟩, ⟨(gB h1 rfl), trivial⟩, ⟨trivial, h1⟩, ⟨(gB h2 rfl), ⟨⟨trivial, trivial⟩, rfl, .inl (w8 e3)⟩⟩, ⟨(gB h2 rfl), trivial⟩, ⟨trivial, h2⟩, ⟨(gB h3 rfl), ⟨⟨trivial, trivial⟩, rfl, .inl (w10 e4)⟩⟩, ⟨trivial, h3⟩, ⟨(gB h4 rfl), ⟨⟨trivial, trivial⟩, rfl, .inl (w8 e5)⟩⟩, ⟨(gB h4 rfl), trivial⟩, ⟨trivial, h4⟩, ⟨(gB h5 rfl), ⟨⟨trivial, trivial⟩, rfl, .inl (w12 e6)⟩⟩, ⟨(gB h5 rfl), trivial⟩, ⟨trivial, h5⟩, gB h6 rfl, gB h6 rfl, ⟨trivial, h6⟩, trivial, trivial, trivial, trivial, trivial, trivial, trivial, trivial⟩ ?_
                refine EvOk.ret ?_
                obtain rfl := someE h
                exact Den.Ends.mk (.inl rfl) (d := .bool false) (p := (True ∧ True) ∧ (True ∧ True)) (by kernel_rfl) ⟨⟨trivial, trivial⟩, ⟨trivial, trivial⟩⟩ (by kernel_rfl)
            · replace h := iteF h5 h
              refine At.adv [] [(0, { told := [], gs := [], keep := some ([], []) }), (1, { told := [(0, { ans := .val (.bool v0), args := [.str [97, 47, 98, 95, 49, 47, 36, 99]] }), (2, { ans := .val (.bool v1), args := [.str [97, 47, 47, 98]] }), (4, { ans := .yes }), (6, { ans := .val (.bool v2), args := [.str [49, 97]] }), (8, { ans := .yes }), (10, { ans := .val (.bool v3), args := [.str []] }), (12, { ans := .yes }), (14, { ans := .val (.bool v4), args := [.str [60, 105, 110, 105, 116, 62]] }), (15, { ans := .yes }), (17, { ans := .val (.bool v5), args := [.str [60, 105, 110, 105, 116, 62]] }), (19, { ans := .yes }), (23, { ans := .no })], gs := [(2, true), (3, true), (6, true), (7, true), (10, true), (11, true), (14, true), (17, true), (18, true), (21, false), (22, false)], keep := some ([0], []) })] 400 (ev := .ret) (σ' := mkS 44 [(0, .bool false)] []) (q := [True ∧ ((True ∧ True) ∧ ([.str [97, 47, 98, 95, 49, 47, 36, 99]] : List D) = [.str [97, 47, 98, 95, 49, 47, 36, 99]] ∧ CallAny Try.prog 8 [.str [97, 47, 98, 95, 49, 47, 36, 99]] (.bool v0)), (v0 == true) = true ∧ ((True ∧ True) ∧ ([.str [97, 47, 47, 98]] : List D) = [.str [97, 47, 47, 98]] ∧ CallAny Try.prog 8 [.str [97, 47, 47, 98]] (.bool v1)), (v0 == true) = true ∧ True, True ∧ (v0 = true), ((!v1) == true) = true ∧ ((True ∧ True) ∧ ([.str [49, 97]] : List D) = [.str [49, 97]] ∧ CallAny Try.prog 8 [.str [49, 97]] (.bool v2)), ((!v1) == true) = true ∧ True, True ∧ ((!v1) = true), ((!v2) == true) = true ∧ ((True ∧ True) ∧ ([.str []] : List D) = [.str []] ∧ CallAny Try.prog 8 [.str []] (.bool v3)), ((!v2) == true) = true ∧ True, True ∧ ((!v2) = true), ((!v3) == true) = true ∧ ((True ∧ True) ∧ ([.str [60, 105, 110, 105, 116, 62]] : List D) = [.str [60, 105, 110, 105, 116, 62]] ∧ CallAny Try.prog 10 [.str [60, 105, 110, 105, 116, 62]] (.bool v4)), True ∧ ((!v3) = true), (v4 == true) = true ∧ ((True ∧ True) ∧ ([.str [60, 105, 110, 105, 116, 62]] : List D) = [.str [60, 105, 110, 105, 116, 62]] ∧ CallAny Try.prog 8 [.str [60, 105, 110, 105, 116, 62]] (.bool v5)), (v4 == true) = true ∧ True, True ∧ (v4 = true), ((!v5) == true) = false, ((!v5) == true) = false, True ∧ ((!v5) = false), True, True, True, True, True, True, True, True, True]) (by kernel_rfl) ⟨⟨trivial, ⟨⟨trivial, trivial⟩, rfl, .inl (w8 e0)⟩⟩, ⟨(gB h0 rfl), ⟨⟨trivial, trivial⟩, rfl, .inl (w8 e1)⟩⟩, ⟨(gB h0 rfl), trivial⟩, ⟨trivial, h0⟩, ⟨(gB h1 rfl), ⟨⟨trivial, trivial⟩, rfl, .inl (w8 e2)⟩⟩, ⟨(gB h1 rfl), trivial⟩, ⟨trivial, h1⟩, ⟨(gB h2 rfl), ⟨⟨trivial, trivial⟩, rfl, .inl (w8 e3)⟩⟩, ⟨(gB h2 rfl), trivial⟩, ⟨trivial, h2⟩, ⟨(gB h3 rfl), ⟨⟨trivial, trivial⟩, rfl, .inl (w10 e4)⟩⟩, ⟨trivial, h3⟩, ⟨(gB h4 rfl), ⟨⟨trivial, trivial⟩, rfl, .inl (w8 e5)⟩⟩, ⟨(gB h4 rfl), trivial⟩, ⟨trivial, h4⟩, gB h5 rfl, gB h5 rfl, ⟨trivial, h5⟩, trivial, trivial, trivial, trivial, trivial, trivial, trivial, trivial, trivial, trivial⟩ ?_
              refine EvOk.ret ?_
              obtain rfl := someE h
              exact Den.Ends.mk (.inl rfl) (d := .bool false) (p := (True ∧ True) ∧ (True ∧ True)) (by kernel_rfl) ⟨⟨trivial, trivial⟩, ⟨trivial, trivial⟩⟩ (by kernel_rfl)
          · replace h := iteF h4 h
            refine At.adv [] [(0, { told := [], gs := [], keep := some ([], []) }), (1, { told := [(0, { ans := .val (.bool v0), args := [.str [97, 47, 98, 95, 49, 47, 36, 99]] }), (2, { ans := .val (.bool v1), args := [.str [97, 47, 47, 98]] }), (4, { ans := .yes }), (6, { ans := .val (.bool v2), args := [.str [49, 97]] }), (8, { ans := .yes }), (10, { ans := .val (.bool v3), args := [.str []] }), (12, { ans := .yes }), (14, { ans := .val (.bool v4), args := [.str [60, 105, 110, 105, 116, 62]] }), (15, { ans := .yes }), (19, { ans := .no })], gs := [(2, true), (3, true), (6, true), (7, true), (10, true), (11, true), (14, true), (17, false), (18, false)], keep := some ([0], []) })] 400 (ev := .ret) (σ' := mkS 44 [(0, .bool false)] []) (q := [True ∧ ((True ∧ True) ∧ ([.str [97, 47, 98, 95, 49, 47, 36, 99]] : List D) = [.str [97, 47, 98, 95, 49, 47, 36, 99]] ∧ CallAny Try.prog 8 [.str [97, 47, 98, 95, 49, 47, 36, 99]] (.bool v0)), (v0 == true) = true ∧ ((True ∧ True) ∧ ([.str [97, 47, 47, 98]] : List D) = [.str [97, 47, 47, 98]] ∧ CallAny Try.prog 8 [.str [97, 47, 47, 98]] (.bool v1)), (v0 == true) = true ∧ True, True ∧ (v0 = true), ((!v1) == true) = true ∧ ((True ∧ True) ∧ ([.str [49, 97]] : List D) = [.str [49, 97]] ∧ CallAny Try.prog 8 [.str [49, 97]] (.bool v2)), ((!v1) == true) = true ∧ True, True ∧ ((!v1) = true), ((!v2) == true) = true ∧ ((True ∧ True) ∧ ([.str []] : List D) = [.str []] ∧ CallAny Try.prog 8 [.str []] (.bool v3)), ((!v2) == true) = true ∧ True, True ∧ ((!v2) = true), ((!v3) == true) = true ∧ ((True ∧ True) ∧ ([.str [60, 105, 110, 105, 116, 62]] : List D) = [.str [60, 105, 110, 105, 116, 62]] ∧ CallAny Try.prog 10 [.str [60, 105, 110, 105, 116, 62]] (.bool v4)), True ∧ ((!v3) = true), (v4 == true) = false, (v4 == true) = false, True ∧ (v4 = false), True, True, True, True, True, True, True, True, True, True, True]) (by kernel_rfl) ⟨⟨trivial, ⟨⟨trivial, trivial⟩, rfl, .inl (w8 e0)⟩⟩, ⟨(gB h0 rfl), ⟨⟨trivial, trivial⟩, rfl, .inl (w8 e1)⟩⟩, ⟨(gB h0 rfl), trivial⟩, ⟨trivial, h0⟩, ⟨(gB h1 rfl), ⟨⟨trivial, trivial⟩, rfl, .inl (w8 e2)⟩⟩, ⟨(gB h1 rfl), trivial⟩, ⟨trivial, h1⟩, ⟨(gB h2 rfl), ⟨⟨trivial, trivial⟩, rfl, .inl (w8 e3)⟩⟩, ⟨(gB h2 rfl), trivial⟩, ⟨trivial, h2⟩, ⟨(gB h3 rfl), ⟨⟨trivial, trivial⟩, rfl, .inl (w10 e4)⟩⟩, ⟨trivial, h3⟩, gB h4 rfl, gB h4 rfl, ⟨trivial, h4⟩, trivial, trivial, trivial, trivial, trivial, trivial, trivial, trivial, trivial, trivial, trivial, trivial⟩ ?_
            refine EvOk.ret ?_
            obtain rfl := someE h
            exact Den.Ends.mk (.inl rfl) (d := .bool false) (p := (True ∧ True) ∧ (True ∧ True)) (by kernel_rfl) ⟨⟨trivial, trivial⟩, ⟨trivial, trivial⟩⟩ (by kernel_rfl)
        · replace h := iteF h3 h
          refine At.adv [] [(0, { told := [], gs := [], keep := some ([], []) }), (1, { told := [(0, { ans := .val (.bool v0), args := [.str [97, 47, 98, 95, 49, 47, 36, 99]] }), (2, { ans := .val (.bool v1), args := [.str [97, 47, 47, 98]] }), (4, { ans := .yes }), (6, { ans := .val (.bool v2), args := [.str [49, 97]] }), (8, { ans := .yes }), (10, { ans := .val (.bool v3), args := [.str []] }), (12, { ans := .yes }), (15, { ans := .no })], gs := [(2, true), (3, true), (6, true), (7, true), (10, true), (11, true), (14, false)], keep := some ([0], []) })] 400 (ev := .ret) (σ' := mkS 44 [(0, .bool false)] []) (q := [True ∧ ((True ∧ True) ∧ ([.str [97, 47, 98, 95, 49, 47, 36, 99]] : List D) = [.str [97, 47, 98, 95, 49, 47, 36, 99]] ∧ CallAny Try.prog 8 [.str [97, 47, 98, 95, 49, 47, 36, 99]] (.bool v0)), (v0 == true) = true ∧ ((True ∧ True) ∧ ([.str [97, 47, 47, 98]] : List D) = [.str [97, 47, 47, 98]] ∧ CallAny Try.prog 8 [.str [97, 47, 47, 98]] (.bool v1)), (v0 == true) = true ∧ True, True ∧ (v0 = true), ((!v1) == true) = true ∧ ((True ∧ True) ∧ ([.str [49, 97]] : List D) = [.str [49, 97]] ∧ CallAny Try.prog 8 [.str [49, 97]] (.bool v2)), ((!v1) == true) = true ∧ True, True ∧ ((!v1) = true), ((!v2) == true) = true ∧ ((True ∧ True) ∧ ([.str []] : List D) = [.str []] ∧ CallAny Try.prog 8 [.str []] (.bool v3)), ((!v2) == true) = true ∧ True, True ∧ ((!v2) = true), ((!v3) == true) = false, True ∧ ((!v3) = false), True, True, True, True, True, True, True, True, True, True, True, True, True]) (by kernel_rfl) ⟨⟨trivial, ⟨⟨trivial, trivial⟩, rfl, .inl (w8 e0)⟩⟩, ⟨(gB h0 rfl), ⟨⟨trivial, trivial⟩, rfl, .inl (w8 e1)⟩⟩, ⟨(gB h0 rfl), trivial⟩, ⟨trivial, h0⟩, ⟨(gB h1 rfl), ⟨⟨trivial, trivial⟩, rfl, .inl (w8 e2)⟩⟩, ⟨(gB h1 rfl), trivial⟩, ⟨trivial, h1⟩, ⟨(gB h2 rfl), ⟨⟨trivial, trivial⟩, rfl, .inl (w8 e3)⟩⟩, ⟨(gB h2 rfl), trivial⟩, ⟨trivial, h2⟩, gB h3 rfl, ⟨trivial, h3⟩, trivial, trivial, trivial, trivial, trivial, trivial, trivial, trivial, trivial, trivial, trivial, trivial, trivial, trivial⟩ ?_
          refine EvOk.ret ?_
          obtain rfl := someE h
          exact Den.Ends.mk (.inl rfl) (d := .bool false) (p := (True ∧ True) ∧ (True ∧ True)) (by kernel_rfl) ⟨⟨trivial, trivial⟩, ⟨trivial, trivial⟩⟩ (by kernel_rfl)
      · replace h := iteF h2 h
        refine At.adv [] [(0, { told := [], gs := [], keep := some ([], []) }), (1, { told := [(0, { ans := .val (.bool v0), args := [.str [97, 47, 98, 95, 49, 47, 36, 99]] }), (2, { ans := .val (.bool v1), args := [.str [97, 47, 47, 98]] }), (4, { ans := .yes }), (6, { ans := .val (.bool v2), args := [.str [49, 97]] }), (8, { ans := .yes }), (12, { ans := .no })], gs := [(2, true), (3, true), (6, true), (7, true), (10, false), (11, false)], keep := some ([0], []) })] 400 (ev := .ret) (σ' := mkS 44 [(0, .bool false)] []) (q := [True ∧ ((True ∧ True) ∧ ([.str [97, 47, 98, 95, 49, 47, 36, 99]] : List D) = [.str [97, 47, 98, 95, 49, 47, 36, 99]] ∧ CallAny Try.prog 8 [.str [97, 47, 98, 95, 49, 47, 36, 99]] (.bool v0)), (v0 == true) = true ∧ ((True ∧ True) ∧ ([.str [97, 47, 47, 98]] : List D) = [.str [97, 47, 47, 98]] ∧ CallAny Try.prog 8 [.str [97, 47, 47, 98]] (.bool v1)), (v0 == true) = true ∧ True, True ∧ (v0 = true), ((!v1) == true) = true ∧ ((True ∧ True) ∧ ([.str [49, 97]] : List D) = [.str [49, 97]] ∧ CallAny Try.prog 8 [.str [49, 97]] (.bool v2)), ((!v1) == true) = true ∧ True, True ∧ ((!v1) = true), ((!v2) == true) = false, ((!v2) == true) = false, True ∧ ((!v2) = false), True, True, True, True, True, True, True, True, True, True, True, True, True, True]) (by kernel_rfl) ⟨⟨trivial, ⟨⟨trivial, trivial⟩, rfl, .inl (w8 e0)⟩⟩, ⟨(gB h0 rfl), ⟨⟨trivial, trivial⟩, rfl, .inl (w8 e1)⟩⟩, ⟨(gB h0 rfl), trivial⟩, ⟨trivial, h0⟩, ⟨(gB h1 rfl), ⟨⟨trivial, trivial⟩, rfl, .inl (w8 e2)⟩⟩, ⟨(gB h1 rfl), trivial⟩, ⟨trivial, h1⟩, gB h2 rfl, gB h2 rfl, ⟨trivial, h2⟩, trivial, trivial, trivial, trivial, trivial, trivial, trivial, trivial, trivial, trivial, trivial, trivial, trivial, trivial, trivial⟩ ?_
        refine EvOk.ret ?_
        obtain rfl := someE h
        exact Den.Ends.mk (.inl rfl) (d := .bool false) (p := (True ∧ True) ∧ (True ∧ True)) (by kernel_rfl) ⟨⟨trivial, trivial⟩, ⟨trivial, trivial⟩⟩ (by kernel_rfl)
    · replace h := iteF h1 h
      refine At.adv [] [(0, { told := [], gs := [], keep := some ([], []) }), (1, { told := [(0, { ans := .val (.bool v0), args := [.str [97, 47, 98, 95, 49, 47, 36, 99]] }), (2, { ans := .val (.bool v1), args := [.str [97, 47, 47, 98]] }), (4, { ans := .yes }), (8, { ans := .no })], gs := [(2, true), (3, true), (6, false), (7, false)], keep := some ([0], []) })] 400 (ev := .ret) (σ' := mkS 44 [(0, .bool false)] []) (q := [True ∧ ((True ∧ True) ∧ ([.str [97, 47, 98, 95, 49, 47, 36, 99]] : List D) = [.str [97, 47, 98, 95, 49, 47, 36, 99]] ∧ CallAny Try.prog 8 [.str [97, 47, 98, 95, 49, 47, 36, 99]] (.bool v0)), (v0 == true) = true ∧ ((True ∧ True) ∧ ([.str [97, 47, 47, 98]] : List D) = [.str [97, 47, 47, 98]] ∧ CallAny Try.prog 8 [.str [97, 47, 47, 98]] (.bool v1)), (v0 == true) = true ∧ True, True ∧ (v0 = true), ((!v1) == true) = false, ((!v1) == true) = false, True ∧ ((!v1) = false), True, True, True, True, True, True, True, True, True, True, True, True, True, True, True, True]) (by kernel_rfl) ⟨⟨trivial, ⟨⟨trivial, trivial⟩, rfl, .inl (w8 e0)⟩⟩, ⟨(gB h0 rfl), ⟨⟨trivial, trivial⟩, rfl, .inl (w8 e1)⟩⟩, ⟨(gB h0 rfl), trivial⟩, ⟨trivial, h0⟩, gB h1 rfl, gB h1 rfl, ⟨trivial, h1⟩, trivial, trivial, trivial, trivial, trivial, trivial, trivial, trivial, trivial, trivial, trivial, trivial, trivial, trivial, trivial, trivial, trivial⟩ ?_
      refine EvOk.ret ?_
      obtain rfl := someE h
      exact Den.Ends.mk (.inl rfl) (d := .bool false) (p := (True ∧ True) ∧ (True ∧ True)) (by kernel_rfl) ⟨⟨trivial, trivial⟩, ⟨trivial, trivial⟩⟩ (by kernel_rfl)
  · replace h := iteF h0 h
    refine At.adv [] [(0, { told := [], gs := [], keep := some ([], []) }), (1, { told := [(0, { ans := .val (.bool v0), args := [.str [97, 47, 98, 95, 49, 47, 36, 99]] }), (4, { ans := .no })], gs := [(2, false), (3, false)], keep := some ([0], []) })] 400 (ev := .ret) (σ' := mkS 44 [(0, .bool false)] []) (q := [True ∧ ((True ∧ True) ∧ ([.str [97, 47, 98, 95, 49, 47, 36, 99]] : List D) = [.str [97, 47, 98, 95, 49, 47, 36, 99]] ∧ CallAny Try.prog 8 [.str [97, 47, 98, 95, 49, 47, 36, 99]] (.bool v0)), (v0 == true) = false, (v0 == true) = false, True ∧ (v0 = false), True, True, True, True, True, True, True, True, True, True, True, True, True, True, True, True, True, True]) (by kernel_rfl) ⟨⟨trivial, ⟨⟨trivial, trivial⟩, rfl, .inl (w8 e0)⟩⟩, gB h0 rfl, gB h0 rfl, ⟨trivial, h0⟩, trivial, trivial, trivial, trivial, trivial, trivial, trivial, trivial, trivial, trivial, trivial, trivial, trivial, trivial, trivial, trivial, trivial, trivial, trivial⟩ ?_
    refine EvOk.ret ?_
    obtain rfl := someE h
    exact Den.Ends.mk (.inl rfl) (d := .bool false) (p := (True ∧ True) ∧ (True ∧ True)) (by kernel_rfl) ⟨⟨trivial, trivial⟩, ⟨trivial, trivial⟩⟩ (by kernel_rfl)
theorem w7  {r : Bool} (h : m_armaturelaw03_awake = some r) : CallSpec Try.prog 7 [] (.bool r) :=
  CallSpec.at2 b7 (n := 44) (l := []) (by kernel_rfl) (by kernel_rfl) (by kernel_rfl) (by kernel_rfl) (by kernel_rfl) (Nat.le_of_ble_eq_true (by kernel_rfl)) (fun Γ => we7  r h Γ)

/-! ### armature armatureref03.letter -/
noncomputable def b29 : Code := Try.f29.body.getD .skip
def m_armatureref03_letter (x0 : Int) : Option (Bool) :=
  if (decide (x0 ≥ 97)) = true then (if (decide (x0 ≤ 122)) = true then (some true) else
  (if (decide (x0 ≥ 65)) = true then (if (decide (x0 ≤ 90)) = true then (some true) else
  (if (x0 == 95) = true then (some true) else
  (some (x0 == 36)))) else
  (if (x0 == 95) = true then (some true) else
  (some (x0 == 36))))) else
  (if (decide (x0 ≥ 65)) = true then (if (decide (x0 ≤ 90)) = true then (some true) else
  (if (x0 == 95) = true then (some true) else
  (some (x0 == 36)))) else
  (if (x0 == 95) = true then (some true) else
  (some (x0 == 36))))
theorem we29 (x0 : Int) (r : Bool) (h : m_armatureref03_letter x0 = some r) (Γ : Ctx) : At Try.prog Γ b29 [] (Den.Ends Try.prog Try.f29 (.bool r)) (mkS 25 [(0, .int .u8 x0)] []) := by
  rcases Bool.eq_false_or_eq_true (decide (x0 ≥ 97)) with h0 | h0
  · replace h := iteT h0 h
    rcases Bool.eq_false_or_eq_true (decide (x0 ≤ 122)) with h1 | h1
    · replace h := iteT h1 h
      refine At.adv [] [(0, { told := [], gs := [], keep := some ([0], []) }), (1, { told := [(5, { ans := .yes }), (13, { ans := .yes })], gs := [(3, true), (4, true), (7, false), (8, false), (9, false), (12, false)], keep := some ([2], []) })] 400 (ev := .ret) (σ' := mkS 25 [(2, .bool true)] []) (q := [((decide (x0 ≥ 97)) == true) = true ∧ True, ((decide (x0 ≥ 97)) == true) = true ∧ True, True ∧ ((decide (x0 ≥ 97)) = true), ((decide (x0 ≤ 122)) == false) = false, ((decide (x0 ≤ 122)) == false) = false, ((decide (x0 ≤ 122)) == false) = false, True, True, ((decide (x0 ≤ 122)) == false) = false, True ∧ ((decide (x0 ≤ 122)) = true), True, True, True, True]) (by kernel_rfl) ⟨⟨(gB h0 rfl), trivial⟩, ⟨(gB h0 rfl), trivial⟩, ⟨trivial, h0⟩, gB h1 rfl, gB h1 rfl, gB h1 rfl, trivial, trivial, gB h1 rfl, ⟨trivial, h1⟩, trivial, trivial, trivial, trivial, trivial⟩ ?_
      refine EvOk.ret ?_
      obtain rfl := someE h
      exact Den.Ends.mk (.inl rfl) (d := .bool true) (p := (True ∧ True) ∧ (True ∧ True)) (by kernel_rfl) ⟨⟨trivial, trivial⟩, ⟨trivial, trivial⟩⟩ (by kernel_rfl)
    · replace h := iteF h1 h
      rcases Bool.eq_false_or_eq_true (decide (x0 ≥ 65)) with h2 | h2
      · replace h := iteT h2 h
        rcases Bool.eq_false_or_eq_true (decide (x0 ≤ 90)) with h3 | h3
        · replace h := iteT h3 h
          refine At.adv [] [(0, { told := [], gs := [], keep := some ([0], []) }), (1, { told := [(5, { ans := .yes }), (12, { ans := .yes }), (13, { ans := .no }), (17, { ans := .yes })], gs := [(3, true), (4, true), (7, true), (8, true), (9, true), (10, true), (11, true), (12, true), (15, false), (16, false)], keep := some ([2], []) })] 400 (ev := .ret) (σ' := mkS 25 [(2, .bool true)] []) (q := [((decide (x0 ≥ 97)) == true) = true ∧ True, ((decide (x0 ≥ 97)) == true) = true ∧ True, True ∧ ((decide (x0 ≥ 97)) = true), ((decide (x0 ≤ 122)) == false) = true ∧ True, ((decide (x0 ≤ 122)) == false) = true ∧ True, ((decide (x0 ≤ 122)) == false) = true ∧ True, ((decide (x0 ≥ 65)) == true) = true ∧ True, ((decide (x0 ≥ 65)) == true) = true ∧ True, ((decide (x0 ≤ 122)) == false) = true ∧ ((decide (x0 ≥ 65)) = true), True ∧ ((decide (x0 ≤ 122)) = false), ((decide (x0 ≤ 90)) == false) = false, ((decide (x0 ≤ 90)) == false) = false, True ∧ ((decide (x0 ≤ 90)) = true), True, True]) (by kernel_rfl) ⟨⟨(gB h0 rfl), trivial⟩, ⟨(gB h0 rfl), trivial⟩, ⟨trivial, h0⟩, ⟨(gB h1 rfl), trivial⟩, ⟨(gB h1 rfl), trivial⟩, ⟨(gB h1 rfl), trivial⟩, ⟨(gB h2 rfl), trivial⟩, ⟨(gB h2 rfl), trivial⟩, ⟨(gB h1 rfl), h2⟩, ⟨trivial, h1⟩, gB h3 rfl, gB h3 rfl, ⟨trivial, h3⟩, trivial, trivial, trivial⟩ ?_
          refine EvOk.ret ?_
          obtain rfl := someE h
          exact Den.Ends.mk (.inl rfl) (d := .bool true) (p := (True ∧ True) ∧ (True ∧ True)) (by kernel_rfl) ⟨⟨trivial, trivial⟩, ⟨trivial, trivial⟩⟩ (by kernel_rfl)
        · replace h := iteF h3 h
          rcases Bool.eq_false_or_eq_true (x0 == 95) with h4 | h4
          · replace h := iteT h4 h
            refine At.adv [] [(0, { told := [], gs := [], keep := some ([0], []) }), (1, { told := [(5, { ans := .yes }), (12, { ans := .yes }), (13, { ans := .no }), (17, { ans := .no }), (21, { ans := .yes })], gs := [(3, true), (4, true), (7, true), (8, true), (9, true), (10, true), (11, true), (12, true), (15, true), (16, true), (19, false), (20, false)], keep := some ([2], []) })] 400 (ev := .ret) (σ' := mkS 25 [(2, .bool true)] []) (q := [((decide (x0 ≥ 97)) == true) = true ∧ True, ((decide (x0 ≥ 97)) == true) = true ∧ True, True ∧ ((decide (x0 ≥ 97)) = true), ((decide (x0 ≤ 122)) == false) = true ∧ True, ((decide (x0 ≤ 122)) == false) = true ∧ True, ((decide (x0 ≤ 122)) == false) = true ∧ True, ((decide (x0 ≥ 65)) == true) = true ∧ True, ((decide (x0 ≥ 65)) == true) = true ∧ True, ((decide (x0 ≤ 122)) == false) = true ∧ ((decide (x0 ≥ 65)) = true), True ∧ ((decide (x0 ≤ 122)) = false), ((decide (x0 ≤ 90)) == false) = true ∧ True, ((decide (x0 ≤ 90)) == false) = true ∧ True, True ∧ ((decide (x0 ≤ 90)) = false), ((x0 == 95) == false) = false, ((x0 == 95) == false) = false, True ∧ ((x0 == 95) = true)]) (by kernel_rfl) ⟨⟨(gB h0 rfl), trivial⟩, ⟨(gB h0 rfl), trivial⟩, ⟨trivial, h0⟩, ⟨(gB h1 rfl), trivial⟩, ⟨(gB h1 rfl), trivial⟩, ⟨(gB h1 rfl), trivial⟩, ⟨(gB h2 rfl), trivial⟩, ⟨(gB h2 rfl), trivial⟩, ⟨(gB h1 rfl), h2⟩, ⟨trivial, h1⟩, ⟨(gB h3 rfl), trivial⟩, ⟨(gB h3 rfl), trivial⟩, ⟨trivial, h3⟩, gB h4 rfl, gB h4 rfl, ⟨trivial, h4⟩, trivial⟩ ?_
            refine EvOk.ret ?_
            obtain rfl := someE h
            exact Den.Ends.mk (.inl rfl) (d := .bool true) (p := (True ∧ True) ∧ (True ∧ True)) (by kernel_rfl) ⟨⟨trivial, trivial⟩, ⟨trivial, trivial⟩⟩ (by kernel_rfl)
          · replace h := iteF h4 h
            refine At.adv [] [(0, { told := [], gs := [], keep := some ([0], []) }), (1, { told := [(5, { ans := .yes }), (12, { ans := .yes }), (13, { ans := .no }), (17, { ans := .no }), (21, { ans := .no })], gs := [(3, true), (4, true), (7, true), (8, true), (9, true), (10, true), (11, true), (12, true), (15, true), (16, true), (19, true), (20, true)], keep := some ([2], []) })] 400 (ev := .ret) (σ' := mkS 25 [(2, .bool (x0 == 36))] []) (q := [((decide (x0 ≥ 97)) == true) = true ∧ True, ((decide (x0 ≥ 97)) == true) = true ∧ True, True ∧ ((decide (x0 ≥ 97)) = true), ((decide (x0 ≤ 122)) == false) = true ∧ True, ((decide (x0 ≤ 122)) == false) = true ∧ True, ((decide (x0 ≤ 122)) == false) = true ∧ True, ((decide (x0 ≥ 65)) == true) = true ∧ True, ((decide (x0 ≥ 65)) == true) = true ∧ True, ((decide (x0 ≤ 122)) == false) = true ∧ ((decide (x0 ≥ 65)) = true), True ∧ ((decide (x0 ≤ 122)) = false), ((decide (x0 ≤ 90)) == false) = true ∧ True, ((decide (x0 ≤ 90)) == false) = true ∧ True, True ∧ ((decide (x0 ≤ 90)) = false), ((x0 == 95) == false) = true ∧ True, ((x0 == 95) == false) = true ∧ True, True ∧ ((x0 == 95) = false)]) (by kernel_rfl) ⟨⟨(gB h0 rfl), trivial⟩, ⟨(gB h0 rfl), trivial⟩, ⟨trivial, h0⟩, ⟨(gB h1 rfl), trivial⟩, ⟨(gB h1 rfl), trivial⟩, ⟨(gB h1 rfl), trivial⟩, ⟨(gB h2 rfl), trivial⟩, ⟨(gB h2 rfl), trivial⟩, ⟨(gB h1 rfl), h2⟩, ⟨trivial, h1⟩, ⟨(gB h3 rfl), trivial⟩, ⟨(gB h3 rfl), trivial⟩, ⟨trivial, h3⟩, ⟨(gB h4 rfl), trivial⟩, ⟨(gB h4 rfl), trivial⟩, ⟨trivial, h4⟩, trivial⟩ ?_
            refine EvOk.ret ?_
            obtain rfl := someE h
            exact Den.Ends.mk (.inl rfl) (d := .bool (x0 == 36)) (p := (True ∧ True) ∧ (True ∧ True)) (by kernel_rfl) ⟨⟨trivial, trivial⟩, ⟨trivial, trivial⟩⟩ (by kernel_rfl)
      · replace h := iteF h2 h
        rcases Bool.eq_false_or_eq_true (x0 == 95) with h5 | h5
        · replace h := iteT h5 h
          refine At.adv [] [(0, { told := [], gs := [], keep := some ([0], []) }), (1, { told := [(5, { ans := .yes }), (12, { ans := .no }), (13, { ans := .no }), (21, { ans := .yes })], gs := [(3, true), (4, true), (7, true), (8, true), (9, true), (10, false), (11, false), (12, true), (19, false), (20, false)], keep := some ([2], []) })] 400 (ev := .ret) (σ' := mkS 25 [(2, .bool true)] []) (q := [((decide (x0 ≥ 97)) == true) = true ∧ True, ((decide (x0 ≥ 97)) == true) = true ∧ True, True ∧ ((decide (x0 ≥ 97)) = true), ((decide (x0 ≤ 122)) == false) = true ∧ True, ((decide (x0 ≤ 122)) == false) = true ∧ True, ((decide (x0 ≤ 122)) == false) = true ∧ True, ((decide (x0 ≥ 65)) == true) = false, ((decide (x0 ≥ 65)) == true) = false, ((decide (x0 ≤ 122)) == false) = true ∧ ((decide (x0 ≥ 65)) = false), True ∧ ((decide (x0 ≤ 122)) = false), True ∧ True, True ∧ True, ((x0 == 95) == false) = false, ((x0 == 95) == false) = false, True ∧ ((x0 == 95) = true)]) (by kernel_rfl) ⟨⟨(gB h0 rfl), trivial⟩, ⟨(gB h0 rfl), trivial⟩, ⟨trivial, h0⟩, ⟨(gB h1 rfl), trivial⟩, ⟨(gB h1 rfl), trivial⟩, ⟨(gB h1 rfl), trivial⟩, gB h2 rfl, gB h2 rfl, ⟨(gB h1 rfl), h2⟩, ⟨trivial, h1⟩, ⟨trivial, trivial⟩, ⟨trivial, trivial⟩, gB h5 rfl, gB h5 rfl, ⟨trivial, h5⟩, trivial⟩ ?_
          refine EvOk.ret ?_
          obtain rfl := someE h
          exact Den.Ends.mk (.inl rfl) (d := .bool true) (p := (True ∧ True) ∧ (True ∧ True)) (by kernel_rfl) ⟨⟨trivial, trivial⟩, ⟨trivial, trivial⟩⟩ (by kernel_rfl)
        · replace h := iteF h5 h
          refine At.adv [] [(0, { told := [], gs := [], keep := some ([0], []) }), (1, { told := [(5, { ans := .yes }), (12, { ans := .no }), (13, { ans := .no }), (21, { ans := .no })], gs := [(3, true), (4, true), (7, true), (8, true), (9, true), (10, false), (11, false), (12, true), (19, true), (20, true)], keep := some ([2], []) })] 400 (ev := .ret) (σ' := mkS 25 [(2, .bool (x0 == 36))] []) (q := [((decide (x0 ≥ 97)) == true) = true ∧ True, ((decide (x0 ≥ 97)) == true) = true ∧ True, True ∧ ((decide (x0 ≥ 97)) = true), ((decide (x0 ≤ 122)) == false) = true ∧ True, ((decide (x0 ≤ 122)) == false) = true ∧ True, ((decide (x0 ≤ 122)) == false) = true ∧ True, ((decide (x0 ≥ 65)) == true) = false, ((decide (x0 ≥ 65)) == true) = false, ((decide (x0 ≤ 122)) == false) = true ∧ ((decide (x0 ≥ 65)) = false), True ∧ ((decide (x0 ≤ 122)) = false), True ∧ True, True ∧ True, ((x0 == 95) == false) = true ∧ True, ((x0 == 95) == false) = true ∧ True, True ∧ ((x0 == 95) = false)]) (by kernel_rfl) ⟨⟨(gB h0 rfl), trivial⟩, ⟨(gB h0 rfl), trivial⟩, ⟨trivial, h0⟩, ⟨(gB h1 rfl), trivial⟩, ⟨(gB h1 rfl), trivial⟩, ⟨(gB h1 rfl), trivial⟩, gB h2 rfl, gB h2 rfl, ⟨(gB h1 rfl), h2⟩, ⟨trivial, h1⟩, ⟨trivial, trivial⟩, ⟨trivial, trivial⟩, ⟨(gB h5 rfl), trivial⟩, ⟨(gB h5 rfl), trivial⟩, ⟨trivial, h5⟩, trivial⟩ ?_
          refine EvOk.ret ?_
          obtain rfl := someE h
          exact Den.Ends.mk (.inl rfl) (d := .bool (x0 == 36)) (p := (True ∧ True) ∧ (True ∧ True)) (by kernel_rfl) ⟨⟨trivial, trivial⟩, ⟨trivial, trivial⟩⟩ (by kernel_rfl)
  · replace h := iteF h0 h
    rcases Bool.eq_false_or_eq_true (decide (x0 ≥ 65)) with h6 | h6
    · replace h := iteT h6 h
      rcases Bool.eq_false_or_eq_true (decide (x0 ≤ 90)) with h7 | h7
      · replace h := iteT h7 h
        refine At.adv [] [(0, { told := [], gs := [], keep := some ([0], []) }), (1, { told := [(5, { ans := .no }), (12, { ans := .yes }), (17, { ans := .yes })], gs := [(3, false), (4, false), (10, true), (11, true), (15, false), (16, false)], keep := some ([2], []) })] 400 (ev := .ret) (σ' := mkS 25 [(2, .bool true)] []) (q := [((decide (x0 ≥ 97)) == true) = false, ((decide (x0 ≥ 97)) == true) = false, True ∧ ((decide (x0 ≥ 97)) = false), True ∧ True, True ∧ True, True ∧ True, ((decide (x0 ≥ 65)) == true) = true ∧ True, ((decide (x0 ≥ 65)) == true) = true ∧ True, True ∧ ((decide (x0 ≥ 65)) = true), ((decide (x0 ≤ 90)) == false) = false, ((decide (x0 ≤ 90)) == false) = false, True ∧ ((decide (x0 ≤ 90)) = true), True, True]) (by kernel_rfl) ⟨gB h0 rfl, gB h0 rfl, ⟨trivial, h0⟩, ⟨trivial, trivial⟩, ⟨trivial, trivial⟩, ⟨trivial, trivial⟩, ⟨(gB h6 rfl), trivial⟩, ⟨(gB h6 rfl), trivial⟩, ⟨trivial, h6⟩, gB h7 rfl, gB h7 rfl, ⟨trivial, h7⟩, trivial, trivial, trivial⟩ ?_
        refine EvOk.ret ?_
        obtain rfl := someE h
        exact Den.Ends.mk (.inl rfl) (d := .bool true) (p := (True ∧ True) ∧ (True ∧ True)) (by kernel_rfl) ⟨⟨trivial, trivial⟩, ⟨trivial, trivial⟩⟩ (by kernel_rfl)
      · replace h := iteF h7 h
        rcases Bool.eq_false_or_eq_true (x0 == 95) with h8 | h8
        · replace h := iteT h8 h
          refine At.adv [] [(0, { told := [], gs := [], keep := some ([0], []) }), (1, { told := [(5, { ans := .no }), (12, { ans := .yes }), (17, { ans := .no }), (21, { ans := .yes })], gs := [(3, false), (4, false), (10, true), (11, true), (15, true), (16, true), (19, false), (20, false)], keep := some ([2], []) })] 400 (ev := .ret) (σ' := mkS 25 [(2, .bool true)] []) (q := [((decide (x0 ≥ 97)) == true) = false, ((decide (x0 ≥ 97)) == true) = false, True ∧ ((decide (x0 ≥ 97)) = false), True ∧ True, True ∧ True, True ∧ True, ((decide (x0 ≥ 65)) == true) = true ∧ True, ((decide (x0 ≥ 65)) == true) = true ∧ True, True ∧ ((decide (x0 ≥ 65)) = true), ((decide (x0 ≤ 90)) == false) = true ∧ True, ((decide (x0 ≤ 90)) == false) = true ∧ True, True ∧ ((decide (x0 ≤ 90)) = false), ((x0 == 95) == false) = false, ((x0 == 95) == false) = false, True ∧ ((x0 == 95) = true)]) (by kernel_rfl) ⟨gB h0 rfl, gB h0 rfl, ⟨trivial, h0⟩, ⟨trivial, trivial⟩, ⟨trivial, trivial⟩, ⟨trivial, trivial⟩, ⟨(gB h6 rfl), trivial⟩, ⟨(gB h6 rfl), trivial⟩, ⟨trivial, h6⟩, ⟨(gB h7 rfl), trivial⟩, ⟨(gB h7 rfl), trivial⟩, ⟨trivial, h7⟩, gB h8 rfl, gB h8 rfl, ⟨trivial, h8⟩, trivial⟩ ?_
          refine EvOk.ret ?_
          obtain rfl := someE h
          exact Den.Ends.mk (.inl rfl) (d := .bool true) (p := (True ∧ True) ∧ (True ∧ True)) (by kernel_rfl) ⟨⟨trivial, trivial⟩, ⟨trivial, trivial⟩⟩ (by kernel_rfl)
        · replace h := iteF h8 h
          refine At.adv [] [(0, { told := [], gs := [], keep := some ([0], []) }), (1, { told := [(5, { ans := .no }), (12, { ans := .yes }), (17, { ans := .no }), (21, { ans := .no })], gs := [(3, false), (4, false), (10, true), (11, true), (15, true), (16, true), (19, true), (20, true)], keep := some ([2], []) })] 400 (ev := .ret) (σ' := mkS 25 [(2, .bool (x0 == 36))] []) (q := [((decide (x0 ≥ 97)) == true) = false, ((decide (x0 ≥ 97)) == true) = false, True ∧ ((decide (x0 ≥ 97)) = false), True ∧ True, True ∧ True, True ∧ True, ((decide (x0 ≥ 65)) == true) = true ∧ True, ((decide (x0 ≥ 65)) == true) = true ∧ True, True ∧ ((decide (x0 ≥ 65)) = true), ((decide (x0 ≤ 90)) == false) = true ∧ True, ((decide (x0 ≤ 90)) == false) = true ∧ True, True ∧ ((decide (x0 ≤ 90)) = false), ((x0 == 95) == false) = true ∧ True, ((x0 == 95) == false) = true ∧ True, True ∧ ((x0 == 95) = false)]) (by kernel_rfl) ⟨gB h0 rfl, gB h0 rfl, ⟨trivial, h0⟩, ⟨trivial, trivial⟩, ⟨trivial, trivial⟩, ⟨trivial, trivial⟩, ⟨(gB h6 rfl), trivial⟩, ⟨(gB h6 rfl), trivial⟩, ⟨trivial, h6⟩, ⟨(gB h7 rfl), trivial⟩, ⟨(gB h7 rfl), trivial⟩, ⟨trivial, h7⟩, ⟨(gB h8 rfl), trivial⟩, ⟨(gB h8 rfl), trivial⟩, ⟨trivial, h8⟩, trivial⟩ ?_
          refine EvOk.ret ?_
          obtain rfl := someE h
          exact Den.Ends.mk (.inl rfl) (d := .bool (x0 == 36)) (p := (True ∧ True) ∧ (True ∧ True)) (by kernel_rfl) ⟨⟨trivial, trivial⟩, ⟨trivial, trivial⟩⟩ (by kernel_rfl)
    · replace h := iteF h6 h
      rcases Bool.eq_false_or_eq_true (x0 == 95) with h9 | h9
      · replace h := iteT h9 h
        refine At.adv [] [(0, { told := [], gs := [], keep := some ([0], []) }), (1, { told := [(5, { ans := .no }), (12, { ans := .no }), (21, { ans := .yes })], gs := [(3, false), (4, false), (10, false), (11, false), (19, false), (20, false)], keep := some ([2], []) })] 400 (ev := .ret) (σ' := mkS 25 [(2, .bool true)] []) (q := [((decide (x0 ≥ 97)) == true) = false, ((decide (x0 ≥ 97)) == true) = false, True ∧ ((decide (x0 ≥ 97)) = false), True ∧ True, True ∧ True, True ∧ True, ((decide (x0 ≥ 65)) == true) = false, ((decide (x0 ≥ 65)) == true) = false, True ∧ ((decide (x0 ≥ 65)) = false), True ∧ True, True ∧ True, ((x0 == 95) == false) = false, ((x0 == 95) == false) = false, True ∧ ((x0 == 95) = true)]) (by kernel_rfl) ⟨gB h0 rfl, gB h0 rfl, ⟨trivial, h0⟩, ⟨trivial, trivial⟩, ⟨trivial, trivial⟩, ⟨trivial, trivial⟩, gB h6 rfl, gB h6 rfl, ⟨trivial, h6⟩, ⟨trivial, trivial⟩, ⟨trivial, trivial⟩, gB h9 rfl, gB h9 rfl, ⟨trivial, h9⟩, trivial⟩ ?_
        refine EvOk.ret ?_
        obtain rfl := someE h
        exact Den.Ends.mk (.inl rfl) (d := .bool true) (p := (True ∧ True) ∧ (True ∧ True)) (by kernel_rfl) ⟨⟨trivial, trivial⟩, ⟨trivial, trivial⟩⟩ (by kernel_rfl)
      · replace h := iteF h9 h
        refine At.adv [] [(0, { told := [], gs := [], keep := some ([0], []) }), (1, { told := [(5, { ans := .no }), (12, { ans := .no }), (21, { ans := .no })], gs := [(3, false), (4, false), (10, false), (11, false), (19, true), (20, true)], keep := some ([2], []) })] 400 (ev := .ret) (σ' := mkS 25 [(2, .bool (x0 == 36))] []) (q := [((decide (x0 ≥ 97)) == true) = false, ((decide (x0 ≥ 97)) == true) = false, True ∧ ((decide (x0 ≥ 97)) = false), True ∧ True, True ∧ True, True ∧ True, ((decide (x0 ≥ 65)) == true) = false, ((decide (x0 ≥ 65)) == true) = false, True ∧ ((decide (x0 ≥ 65)) = false), True ∧ True, True ∧ True, ((x0 == 95) == false) = true ∧ True, ((x0 == 95) == false) = true ∧ True, True ∧ ((x0 == 95) = false)]) (by kernel_rfl) ⟨gB h0 rfl, gB h0 rfl, ⟨trivial, h0⟩, ⟨trivial, trivial⟩, ⟨trivial, trivial⟩, ⟨trivial, trivial⟩, gB h6 rfl, gB h6 rfl, ⟨trivial, h6⟩, ⟨trivial, trivial⟩, ⟨trivial, trivial⟩, ⟨(gB h9 rfl), trivial⟩, ⟨(gB h9 rfl), trivial⟩, ⟨trivial, h9⟩, trivial⟩ ?_
        refine EvOk.ret ?_
        obtain rfl := someE h
        exact Den.Ends.mk (.inl rfl) (d := .bool (x0 == 36)) (p := (True ∧ True) ∧ (True ∧ True)) (by kernel_rfl) ⟨⟨trivial, trivial⟩, ⟨trivial, trivial⟩⟩ (by kernel_rfl)
theorem w29 {x0 : Int} {r : Bool} (h : m_armatureref03_letter x0 = some r) : CallSpec Try.prog 29 [.int .u8 x0] (.bool r) :=
  CallSpec.at2 b29 (n := 25) (l := [(0, .int .u8 x0)]) (by kernel_rfl) (by kernel_rfl) (by kernel_rfl) (by kernel_rfl) (by kernel_rfl) (Nat.le_of_ble_eq_true (by kernel_rfl)) (fun Γ => we29 x0 r h Γ)

/-! ### armature armatureref03.part -/
noncomputable def b23 : Code := Try.f23.body.getD .skip
noncomputable def c23x0 : Code := sub1 b23
noncomputable def c23x1 : Code := sub0 c23x0
noncomputable def c23x2 : Code := sub1 c23x1
noncomputable def c23x3 : Code := sub0 c23x2
noncomputable def c23x4 : Code := sub0 c23x3
noncomputable def c23x5 : Code := sub1 c23x4
noncomputable def c23x6 : Code := sub0 c23x5
noncomputable def c23x7 : Code := sub0 c23x6
noncomputable def c23x8 : Code := sub1 c23x7
noncomputable def c23x9 : Code := sub0 c23x8
noncomputable def c23x10 : Code := sub1 c23x8
noncomputable def c23x11 : Code := sub1 c23x5
noncomputable def c23x12 : Code := sub0 c23x4
noncomputable def c23x13 : Code := sub1 c23x12
noncomputable def c23x14 : Code := sub0 c23x13
noncomputable def c23x15 : Code := sub1 c23x13
noncomputable def c23x16 : Code := sub1 c23x0
def l23x1 (x0 : List UInt8) (t0 : Int) : Option (Ctl (Int) (Unit ⊕ Bool)) :=
  if (decide (t0 < (x0.length : Int))) = true then
    ((getS x0 t0).bind fun v2 =>
    (m_armatureref03_letter v2).bind fun v3 =>
    if (!v3) = true then (if (t0 == 0) = true then (some (.done (.inr false))) else
    ((getS x0 t0).bind fun v4 =>
    if (decide (v4 < 48)) = true then (some (.done (.inr false))) else
    ((getS x0 t0).bind fun v5 =>
    if (decide (v5 > 57)) = true then
      (some (.done (.inr false))) else
    ((some (IntKind.wrap .i64 (t0 + (1 : Int)))).bind fun v6 =>
      some (.next v6))))) else
    ((some (IntKind.wrap .i64 (t0 + (1 : Int)))).bind fun v7 =>
      some (.next v7))) else
  (some (.done (.inl (()))))
def m_armatureref03_part (x0 : List UInt8) : Option (Bool) :=
  (loopM (l23x1 x0) rounds 0).bind fun q1 =>
  match q1 with
  | .inl q0 => (some (decide ((x0.length : Int) > 0)))
  | .inr y0 => (some y0)
def st23x1 (x0 : List UInt8) : Int → S :=
  fun t0 => mkS 34 [(0, .str x0), (3, .int .i64 t0)] []
noncomputable def J23x1 (x0 : List UInt8) : (Unit ⊕ Bool) → Exit → S → Prop :=
  JSum (JExit 0 (fun q0 : Unit => mkS 34 [(0, .str x0)] [])) (JRet Try.prog Try.f23 (fun y : Bool => .bool y))
theorem wl23x1 (x0 : List UInt8) (t0 : Int) (r : Ctl (Int) (Unit ⊕ Bool)) (h : (l23x1 x0) t0 = some r) (Γ : Ctx) : At Try.prog Γ c23x4 [] (Round (st23x1 x0) (J23x1 x0) r) ((st23x1 x0) t0) := by
  refine At.adv [] [(2, { told := [], gs := [], keep := some ([0, 3, 7], []) })] 400 (ev := .cond (decide (t0 < (x0.length : Int))) c23x14 c23x15 [.seq c23x5]) (σ' := mkS 34 [(0, .str x0), (3, .int .i64 t0), (7, .bool (decide (t0 < (x0.length : Int))))] []) (q := []) (by kernel_rfl) trivial ?_
  refine EvOk.cond (fun h2 => ?_) (fun h2 => ?_)
  · replace h := iteT h2 h
    refine At.gc [0, 3] [] (n := 34) (l := [(0, .str x0), (3, .int .i64 t0)]) (bl := []) (by kernel_rfl) ?_
    obtain ⟨v2, e2, h⟩ := bindE h
    obtain ⟨v3, e3, h⟩ := bindE h
    rcases Bool.eq_false_or_eq_true (!v3) with h3 | h3
    · replace h := iteT h3 h
      rcases Bool.eq_false_or_eq_true (t0 == 0) with h4 | h4
      · replace h := iteT h4 h
        refine At.adv [] [(4, { told := [(2, { ans := .val (.int .u8 v2) }), (3, { ans := .val (.bool v3), args := [.int .u8 v2] }), (13, { ans := .yes }), (20, { ans := .yes })], gs := [(6, true), (7, true), (8, true), (9, false), (10, false), (11, false), (12, false), (13, true), (14, true), (19, true)], keep := some ([0, 3, 30], []) })] 400 (ev := .cond true c23x9 c23x10 [.blk 1, .seq c23x11]) (σ' := mkS 34 [(0, .str x0), (3, .int .i64 t0), (30, .bool true)] []) (q := [True ∧ (getS x0 t0 = some v2), True ∧ ((True ∧ True) ∧ ([.int .u8 v2] : List D) = [.int .u8 v2] ∧ CallAny Try.prog 29 [.int .u8 v2] (.bool v3)), ((!v3) == true) = true ∧ True, ((!v3) == true) = true ∧ True, ((!v3) == true) = true ∧ True, ((t0 == 0) == false) = false, ((t0 == 0) == false) = false, ((t0 == 0) == false) = false, ((t0 == 0) == false) = false, ((!v3) == true) = true ∧ ((t0 == 0) = true), ((!v3) == true) = true ∧ True, True, True, True, True, ((!v3) == true) = true ∧ True, True ∧ ((!v3) = true)]) (by kernel_rfl) ⟨⟨trivial, e2⟩, ⟨trivial, ⟨⟨trivial, trivial⟩, rfl, .inl (w29 e3)⟩⟩, ⟨(gB h3 rfl), trivial⟩, ⟨(gB h3 rfl), trivial⟩, ⟨(gB h3 rfl), trivial⟩, gB h4 rfl, gB h4 rfl, gB h4 rfl, gB h4 rfl, ⟨(gB h3 rfl), h4⟩, ⟨(gB h3 rfl), trivial⟩, trivial, trivial, trivial, trivial, ⟨(gB h3 rfl), trivial⟩, ⟨trivial, h3⟩, trivial⟩ ?_
        refine EvOk.cond (fun _ => ?_) (fun hb => Bool.noConfusion hb)
        refine At.gc [] [] (n := 34) (l := []) (bl := []) (by kernel_rfl) ?_
        refine At.adv [] [(5, { told := [], gs := [], keep := some ([2], []) })] 400 (ev := .ret) (σ' := mkS 34 [(2, .bool false)] []) (q := []) (by kernel_rfl) trivial ?_
        refine EvOk.ret ?_
        obtain rfl := someE h
        exact Round.done neRet ⟨rfl, Den.Ends.mk (.inl rfl) (d := .bool false) (p := (True ∧ True) ∧ (True ∧ True)) (by kernel_rfl) ⟨⟨trivial, trivial⟩, ⟨trivial, trivial⟩⟩ (by kernel_rfl)⟩
      · replace h := iteF h4 h
        obtain ⟨v4, e4, h⟩ := bindE h
        rcases Bool.eq_false_or_eq_true (decide (v4 < 48)) with h5 | h5
        · replace h := iteT h5 h
          refine At.adv [] [(4, { told := [(2, { ans := .val (.int .u8 v2) }), (3, { ans := .val (.bool v3), args := [.int .u8 v2] }), (11, { ans := .val (.int .u8 v4) }), (13, { ans := .no }), (19, { ans := .yes }), (20, { ans := .yes })], gs := [(6, true), (7, true), (8, true), (9, true), (10, true), (11, true), (12, true), (13, true), (14, true), (15, false), (16, false), (17, false), (18, false), (19, true)], keep := some ([0, 3, 30], []) })] 400 (ev := .cond true c23x9 c23x10 [.blk 1, .seq c23x11]) (σ' := mkS 34 [(0, .str x0), (3, .int .i64 t0), (30, .bool true)] []) (q := [True ∧ (getS x0 t0 = some v2), True ∧ ((True ∧ True) ∧ ([.int .u8 v2] : List D) = [.int .u8 v2] ∧ CallAny Try.prog 29 [.int .u8 v2] (.bool v3)), ((!v3) == true) = true ∧ True, ((!v3) == true) = true ∧ True, ((!v3) == true) = true ∧ True, ((t0 == 0) == false) = true ∧ True, ((t0 == 0) == false) = true ∧ True, ((t0 == 0) == false) = true ∧ (getS x0 t0 = some v4), ((t0 == 0) == false) = true ∧ True, ((!v3) == true) = true ∧ ((t0 == 0) = false), ((!v3) == true) = true ∧ True, ((decide (v4 < 48)) == false) = false, ((decide (v4 < 48)) == false) = false, ((decide (v4 < 48)) == false) = false, ((decide (v4 < 48)) == false) = false, ((!v3) == true) = true ∧ ((decide (v4 < 48)) = true), True ∧ ((!v3) = true)]) (by kernel_rfl) ⟨⟨trivial, e2⟩, ⟨trivial, ⟨⟨trivial, trivial⟩, rfl, .inl (w29 e3)⟩⟩, ⟨(gB h3 rfl), trivial⟩, ⟨(gB h3 rfl), trivial⟩, ⟨(gB h3 rfl), trivial⟩, ⟨(gB h4 rfl), trivial⟩, ⟨(gB h4 rfl), trivial⟩, ⟨(gB h4 rfl), e4⟩, ⟨(gB h4 rfl), trivial⟩, ⟨(gB h3 rfl), h4⟩, ⟨(gB h3 rfl), trivial⟩, gB h5 rfl, gB h5 rfl, gB h5 rfl, gB h5 rfl, ⟨(gB h3 rfl), h5⟩, ⟨trivial, h3⟩, trivial⟩ ?_
          refine EvOk.cond (fun _ => ?_) (fun hb => Bool.noConfusion hb)
          refine At.gc [] [] (n := 34) (l := []) (bl := []) (by kernel_rfl) ?_
          refine At.adv [] [(5, { told := [], gs := [], keep := some ([2], []) })] 400 (ev := .ret) (σ' := mkS 34 [(2, .bool false)] []) (q := []) (by kernel_rfl) trivial ?_
          refine EvOk.ret ?_
          obtain rfl := someE h
          exact Round.done neRet ⟨rfl, Den.Ends.mk (.inl rfl) (d := .bool false) (p := (True ∧ True) ∧ (True ∧ True)) (by kernel_rfl) ⟨⟨trivial, trivial⟩, ⟨trivial, trivial⟩⟩ (by kernel_rfl)⟩
        · replace h := iteF h5 h
          obtain ⟨v5, e5, h⟩ := bindE h
          refine At.adv [] [(4, { told := [(2, { ans := .val (.int .u8 v2) }), (3, { ans := .val (.bool v3), args := [.int .u8 v2] }), (11, { ans := .val (.int .u8 v4) }), (13, { ans := .no }), (17, { ans := .val (.int .u8 v5) }), (19, { ans := .no }), (20, { ans := .yes })], gs := [(6, true), (7, true), (8, true), (9, true), (10, true), (11, true), (12, true), (13, true), (14, true), (15, true), (16, true), (17, true), (18, true), (19, true)], keep := some ([0, 3, 30], []) })] 400 (ev := .cond (decide (v5 > 57)) c23x9 c23x10 [.blk 1, .seq c23x11]) (σ' := mkS 34 [(0, .str x0), (3, .int .i64 t0), (30, .bool (decide (v5 > 57)))] []) (q := [True ∧ (getS x0 t0 = some v2), True ∧ ((True ∧ True) ∧ ([.int .u8 v2] : List D) = [.int .u8 v2] ∧ CallAny Try.prog 29 [.int .u8 v2] (.bool v3)), ((!v3) == true) = true ∧ True, ((!v3) == true) = true ∧ True, ((!v3) == true) = true ∧ True, ((t0 == 0) == false) = true ∧ True, ((t0 == 0) == false) = true ∧ True, ((t0 == 0) == false) = true ∧ (getS x0 t0 = some v4), ((t0 == 0) == false) = true ∧ True, ((!v3) == true) = true ∧ ((t0 == 0) = false), ((!v3) == true) = true ∧ True, ((decide (v4 < 48)) == false) = true ∧ True, ((decide (v4 < 48)) == false) = true ∧ True, ((decide (v4 < 48)) == false) = true ∧ (getS x0 t0 = some v5), ((decide (v4 < 48)) == false) = true ∧ True, ((!v3) == true) = true ∧ ((decide (v4 < 48)) = false), True ∧ ((!v3) = true)]) (by kernel_rfl) ⟨⟨trivial, e2⟩, ⟨trivial, ⟨⟨trivial, trivial⟩, rfl, .inl (w29 e3)⟩⟩, ⟨(gB h3 rfl), trivial⟩, ⟨(gB h3 rfl), trivial⟩, ⟨(gB h3 rfl), trivial⟩, ⟨(gB h4 rfl), trivial⟩, ⟨(gB h4 rfl), trivial⟩, ⟨(gB h4 rfl), e4⟩, ⟨(gB h4 rfl), trivial⟩, ⟨(gB h3 rfl), h4⟩, ⟨(gB h3 rfl), trivial⟩, ⟨(gB h5 rfl), trivial⟩, ⟨(gB h5 rfl), trivial⟩, ⟨(gB h5 rfl), e5⟩, ⟨(gB h5 rfl), trivial⟩, ⟨(gB h3 rfl), h5⟩, ⟨trivial, h3⟩, trivial⟩ ?_
          refine EvOk.cond (fun h6 => ?_) (fun h6 => ?_)
          · replace h := iteT h6 h
            refine At.gc [] [] (n := 34) (l := []) (bl := []) (by kernel_rfl) ?_
            refine At.adv [] [(5, { told := [], gs := [], keep := some ([2], []) })] 400 (ev := .ret) (σ' := mkS 34 [(2, .bool false)] []) (q := []) (by kernel_rfl) trivial ?_
            refine EvOk.ret ?_
            obtain rfl := someE h
            exact Round.done neRet ⟨rfl, Den.Ends.mk (.inl rfl) (d := .bool false) (p := (True ∧ True) ∧ (True ∧ True)) (by kernel_rfl) ⟨⟨trivial, trivial⟩, ⟨trivial, trivial⟩⟩ (by kernel_rfl)⟩
          · replace h := iteF h6 h
            refine At.gc [0, 3] [] (n := 34) (l := [(0, .str x0), (3, .int .i64 t0)]) (bl := []) (by kernel_rfl) ?_
            obtain ⟨v6, e6, h⟩ := bindE h
            refine At.adv [] [(3, { told := [(1, { ans := .val (.int .i64 v6) })], gs := [], keep := some ([0, 3], []) })] 400 (ev := .normal) (σ' := mkS 34 [(0, .str x0), (3, .int .i64 v6)] []) (q := [True ∧ (IntKind.wrap .i64 (t0 + (1 : Int)) = v6)]) (by kernel_rfl) ⟨⟨trivial, someE e6⟩, trivial⟩ ?_
            refine EvOk.normal ?_
            obtain rfl := someE h
            exact Round.next (by kernel_rfl)
    · replace h := iteF h3 h
      refine At.adv [] [(4, { told := [(2, { ans := .val (.int .u8 v2) }), (3, { ans := .val (.bool v3), args := [.int .u8 v2] }), (20, { ans := .no })], gs := [(6, false), (7, false), (8, false), (13, false), (14, false), (19, false)], keep := some ([0, 3, 30], []) })] 400 (ev := .cond false c23x9 c23x10 [.blk 1, .seq c23x11]) (σ' := mkS 34 [(0, .str x0), (3, .int .i64 t0), (30, .bool false)] []) (q := [True ∧ (getS x0 t0 = some v2), True ∧ ((True ∧ True) ∧ ([.int .u8 v2] : List D) = [.int .u8 v2] ∧ CallAny Try.prog 29 [.int .u8 v2] (.bool v3)), ((!v3) == true) = false, ((!v3) == true) = false, ((!v3) == true) = false, True, True, True, True, ((!v3) == true) = false, ((!v3) == true) = false, True, True, True, True, ((!v3) == true) = false, True ∧ ((!v3) = false)]) (by kernel_rfl) ⟨⟨trivial, e2⟩, ⟨trivial, ⟨⟨trivial, trivial⟩, rfl, .inl (w29 e3)⟩⟩, gB h3 rfl, gB h3 rfl, gB h3 rfl, trivial, trivial, trivial, trivial, gB h3 rfl, gB h3 rfl, trivial, trivial, trivial, trivial, gB h3 rfl, ⟨trivial, h3⟩, trivial⟩ ?_
      refine EvOk.cond (fun hb => Bool.noConfusion hb) (fun _ => ?_)
      refine At.gc [0, 3] [] (n := 34) (l := [(0, .str x0), (3, .int .i64 t0)]) (bl := []) (by kernel_rfl) ?_
      obtain ⟨v7, e7, h⟩ := bindE h
      refine At.adv [] [(3, { told := [(1, { ans := .val (.int .i64 v7) })], gs := [], keep := some ([0, 3], []) })] 400 (ev := .normal) (σ' := mkS 34 [(0, .str x0), (3, .int .i64 v7)] []) (q := [True ∧ (IntKind.wrap .i64 (t0 + (1 : Int)) = v7)]) (by kernel_rfl) ⟨⟨trivial, someE e7⟩, trivial⟩ ?_
      refine EvOk.normal ?_
      obtain rfl := someE h
      exact Round.next (by kernel_rfl)
  · replace h := iteF h2 h
    refine At.gc [0] [] (n := 34) (l := [(0, .str x0)]) (bl := []) (by kernel_rfl) ?_
    refine At.adv [] [] 400 (ev := .exit 0) (σ' := mkS 34 [(0, .str x0)] []) (q := []) (by kernel_rfl) trivial ?_
    refine EvOk.exit ?_
    obtain rfl := someE h
    exact Round.done (neExit _) ⟨rfl, by kernel_rfl⟩
theorem we23 (x0 : List UInt8) (r : Bool) (h : m_armatureref03_part x0 = some r) (Γ : Ctx) : At Try.prog Γ b23 [] (Den.Ends Try.prog Try.f23 (.bool r)) (mkS 34 [(0, .str x0)] []) := by
  refine At.adv [] [(0, { told := [], gs := [], keep := some ([0], []) }), (1, { told := [], gs := [], keep := some ([0, 3], []) })] 400 (ev := .loop c23x4 [.blk 0, .seq c23x16]) (σ' := mkS 34 [(0, .str x0), (3, .int .i64 0)] []) (q := []) (by kernel_rfl) trivial ?_
  refine EvOk.loop ?_
  obtain ⟨q1, e8, h⟩ := bindE h
  refine At.loop (l23x1 x0) (st23x1 x0) (J23x1 x0) 0 e8 (by kernel_rfl) (fun t x hx => (wl23x1 x0) t x hx Γ) ?_
  intro e σ' hJ
  rcases q1 with q0 | y0
  · obtain ⟨rfl, rfl⟩ := hJ
    refine At.exitK (K' := [.seq c23x16]) (by kernel_rfl) ?_
    refine At.advN [] [(6, { told := [], gs := [], keep := some ([2], []) })] 400 (ev := .ret) (σ' := mkS 34 [(2, .bool (decide ((x0.length : Int) > 0)))] []) (q := []) (by kernel_rfl) trivial ?_
    refine EvOk.ret ?_
    obtain rfl := someE h
    exact Den.Ends.mk (.inl rfl) (d := .bool (decide ((x0.length : Int) > 0))) (p := (True ∧ True) ∧ (True ∧ True)) (by kernel_rfl) ⟨⟨trivial, trivial⟩, ⟨trivial, trivial⟩⟩ (by kernel_rfl)
  · obtain rfl := someE h
    obtain ⟨rfl, hE⟩ := hJ
    exact At.retK hE
theorem w23 {x0 : List UInt8} {r : Bool} (h : m_armatureref03_part x0 = some r) : CallSpec Try.prog 23 [.str x0] (.bool r) :=
  CallSpec.at2 b23 (n := 34) (l := [(0, .str x0)]) (by kernel_rfl) (by kernel_rfl) (by kernel_rfl) (by kernel_rfl) (by kernel_rfl) (Nat.le_of_ble_eq_true (by kernel_rfl)) (fun Γ => we23 x0 r h Γ)

/-! ### armature armatureref03.IsClassName -/
noncomputable def b9 : Code := Try.f9.body.getD .skip
noncomputable def c9x0 : Code := sub1 b9
noncomputable def c9x1 : Code := sub1 c9x0
noncomputable def c9x2 : Code := sub1 c9x1
noncomputable def c9x3 : Code := sub0 c9x2
noncomputable def c9x4 : Code := sub1 c9x3
noncomputable def c9x5 : Code := sub0 c9x4
noncomputable def c9x6 : Code := sub0 c9x5
noncomputable def c9x7 : Code := sub1 c9x6
noncomputable def c9x8 : Code := sub0 c9x7
noncomputable def c9x9 : Code := sub0 c9x8
noncomputable def c9x10 : Code := sub1 c9x9
noncomputable def c9x11 : Code := sub0 c9x10
noncomputable def c9x12 : Code := sub0 c9x11
noncomputable def c9x13 : Code := sub1 c9x12
noncomputable def c9x14 : Code := sub0 c9x13
noncomputable def c9x15 : Code := sub1 c9x13
noncomputable def c9x16 : Code := sub1 c9x11
noncomputable def c9x17 : Code := sub1 c9x7
noncomputable def c9x18 : Code := sub1 c9x10
noncomputable def c9x19 : Code := sub0 c9x6
noncomputable def c9x20 : Code := sub1 c9x19
noncomputable def c9x21 : Code := sub0 c9x20
noncomputable def c9x22 : Code := sub1 c9x20
noncomputable def c9x23 : Code := sub1 c9x2
noncomputable def c9x24 : Code := sub0 c9x0
noncomputable def c9x25 : Code := sub1 c9x24
noncomputable def c9x26 : Code := sub0 c9x25
noncomputable def c9x27 : Code := sub1 c9x25
def l9x1 (x0 : List UInt8) (t0 : Int × Int) : Option (Ctl (Int × Int) (Int ⊕ Bool)) :=
  if (decide (t0.2 < (x0.length : Int))) = true then
    ((getS x0 t0.2).bind fun v3 =>
    if (v3 == 47) = true then
      ((sub x0 t0.1 t0.2).bind fun v4 =>
      (m_armatureref03_part v4).bind fun v5 =>
      if (!v5) = true then
        (some (.done (.inr false))) else
      ((some (IntKind.wrap .i64 (t0.2 + (1 : Int)))).bind fun v6 =>
        (some (IntKind.wrap .i64 (t0.2 + (1 : Int)))).bind fun v7 =>
        some (.next (v6, v7)))) else
    ((some (IntKind.wrap .i64 (t0.2 + (1 : Int)))).bind fun v8 =>
      some (.next (t0.1, v8)))) else
  (some (.done (.inl (t0.1))))
def m_armatureref03_IsClassName (x0 : List UInt8) : Option (Bool) :=
  if (decide ((x0.length : Int) > 64)) = true then
    (some false) else
  ((loopM (l9x1 x0) rounds (0, 0)).bind fun q1 =>
    match q1 with
    | .inl q0 => ((sub x0 q0 (x0.length : Int)).bind fun v9 =>
      (m_armatureref03_part v9).bind fun v10 =>
      some v10)
    | .inr y0 => (some y0))
def st9x1 (x0 : List UInt8) : (Int × Int) → S :=
  fun t0 => mkS 30 [(0, .str x0), (3, .int .i64 t0.1), (4, .int .i64 t0.2)] []
noncomputable def J9x1 (x0 : List UInt8) : (Int ⊕ Bool) → Exit → S → Prop :=
  JSum (JExit 0 (fun q0 : Int => mkS 30 [(0, .str x0), (3, .int .i64 q0)] [])) (JRet Try.prog Try.f9 (fun y : Bool => .bool y))
theorem wl9x1 (x0 : List UInt8) (t0 : Int × Int) (r : Ctl (Int × Int) (Int ⊕ Bool)) (h : (l9x1 x0) t0 = some r) (Γ : Ctx) : At Try.prog Γ c9x6 [] (Round (st9x1 x0) (J9x1 x0) r) ((st9x1 x0) t0) := by
  refine At.adv [] [(5, { told := [], gs := [], keep := some ([0, 3, 4, 11], []) })] 400 (ev := .cond (decide (t0.2 < (x0.length : Int))) c9x21 c9x22 [.seq c9x7]) (σ' := mkS 30 [(0, .str x0), (3, .int .i64 t0.1), (4, .int .i64 t0.2), (11, .bool (decide (t0.2 < (x0.length : Int))))] []) (q := []) (by kernel_rfl) trivial ?_
  refine EvOk.cond (fun h4 => ?_) (fun h4 => ?_)
  · replace h := iteT h4 h
    refine At.gc [0, 3, 4] [] (n := 30) (l := [(0, .str x0), (3, .int .i64 t0.1), (4, .int .i64 t0.2)]) (bl := []) (by kernel_rfl) ?_
    obtain ⟨v3, e3, h⟩ := bindE h
    refine At.adv [] [(7, { told := [(2, { ans := .val (.int .u8 v3) })], gs := [], keep := some ([0, 3, 4, 17], []) })] 400 (ev := .cond (v3 == 47) c9x11 c9x18 [.blk 1, .seq c9x17]) (σ' := mkS 30 [(0, .str x0), (3, .int .i64 t0.1), (4, .int .i64 t0.2), (17, .bool (v3 == 47))] []) (q := [True ∧ (getS x0 t0.2 = some v3)]) (by kernel_rfl) ⟨⟨trivial, e3⟩, trivial⟩ ?_
    refine EvOk.cond (fun h5 => ?_) (fun h5 => ?_)
    · replace h := iteT h5 h
      refine At.gc [0, 3, 4] [] (n := 30) (l := [(0, .str x0), (3, .int .i64 t0.1), (4, .int .i64 t0.2)]) (bl := []) (by kernel_rfl) ?_
      obtain ⟨v4, e4, h⟩ := bindE h
      obtain ⟨v5, e5, h⟩ := bindE h
      refine At.adv [] [(8, { told := [(3, { ans := .val (.str v4) }), (4, { ans := .val (.bool v5), args := [.str v4] })], gs := [], keep := some ([0, 4, 23], []) })] 400 (ev := .cond (!v5) c9x14 c9x15 [.seq c9x16, .blk 1, .seq c9x17]) (σ' := mkS 30 [(0, .str x0), (4, .int .i64 t0.2), (23, .bool (!v5))] []) (q := [True ∧ (sub x0 t0.1 t0.2 = some v4), True ∧ ((True ∧ True) ∧ ([.str v4] : List D) = [.str v4] ∧ CallAny Try.prog 23 [.str v4] (.bool v5))]) (by kernel_rfl) ⟨⟨trivial, e4⟩, ⟨trivial, ⟨⟨trivial, trivial⟩, rfl, .inl (w23 e5)⟩⟩, trivial⟩ ?_
      refine EvOk.cond (fun h6 => ?_) (fun h6 => ?_)
      · replace h := iteT h6 h
        refine At.gc [] [] (n := 30) (l := []) (bl := []) (by kernel_rfl) ?_
        refine At.adv [] [(9, { told := [], gs := [], keep := some ([2], []) })] 400 (ev := .ret) (σ' := mkS 30 [(2, .bool false)] []) (q := []) (by kernel_rfl) trivial ?_
        refine EvOk.ret ?_
        obtain rfl := someE h
        exact Round.done neRet ⟨rfl, Den.Ends.mk (.inl rfl) (d := .bool false) (p := (True ∧ True) ∧ (True ∧ True)) (by kernel_rfl) ⟨⟨trivial, trivial⟩, ⟨trivial, trivial⟩⟩ (by kernel_rfl)⟩
      · replace h := iteF h6 h
        refine At.gc [0, 4] [] (n := 30) (l := [(0, .str x0), (4, .int .i64 t0.2)]) (bl := []) (by kernel_rfl) ?_
        obtain ⟨v6, e6, h⟩ := bindE h
        obtain ⟨v7, e7, h⟩ := bindE h
        refine At.adv [] [(10, { told := [(1, { ans := .val (.int .i64 v6) })], gs := [], keep := some ([0, 3, 4], []) }), (6, { told := [(1, { ans := .val (.int .i64 v7) })], gs := [], keep := some ([0, 3, 4], []) })] 400 (ev := .normal) (σ' := mkS 30 [(0, .str x0), (3, .int .i64 v6), (4, .int .i64 v7)] []) (q := [True ∧ (IntKind.wrap .i64 (t0.2 + (1 : Int)) = v6), True ∧ (IntKind.wrap .i64 (t0.2 + (1 : Int)) = v7)]) (by kernel_rfl) ⟨⟨trivial, someE e6⟩, ⟨trivial, someE e7⟩, trivial⟩ ?_
        refine EvOk.normal ?_
        obtain rfl := someE h
        exact Round.next (by kernel_rfl)
    · replace h := iteF h5 h
      refine At.gc [0, 3, 4] [] (n := 30) (l := [(0, .str x0), (3, .int .i64 t0.1), (4, .int .i64 t0.2)]) (bl := []) (by kernel_rfl) ?_
      obtain ⟨v8, e8, h⟩ := bindE h
      refine At.adv [] [(6, { told := [(1, { ans := .val (.int .i64 v8) })], gs := [], keep := some ([0, 3, 4], []) })] 400 (ev := .normal) (σ' := mkS 30 [(0, .str x0), (3, .int .i64 t0.1), (4, .int .i64 v8)] []) (q := [True ∧ (IntKind.wrap .i64 (t0.2 + (1 : Int)) = v8)]) (by kernel_rfl) ⟨⟨trivial, someE e8⟩, trivial⟩ ?_
      refine EvOk.normal ?_
      obtain rfl := someE h
      exact Round.next (by kernel_rfl)
  · replace h := iteF h4 h
    refine At.gc [0, 3] [] (n := 30) (l := [(0, .str x0), (3, .int .i64 t0.1)]) (bl := []) (by kernel_rfl) ?_
    refine At.adv [] [] 400 (ev := .exit 0) (σ' := mkS 30 [(0, .str x0), (3, .int .i64 t0.1)] []) (q := []) (by kernel_rfl) trivial ?_
    refine EvOk.exit ?_
    obtain rfl := someE h
    exact Round.done (neExit _) ⟨rfl, by kernel_rfl⟩
theorem we9 (x0 : List UInt8) (r : Bool) (h : m_armatureref03_IsClassName x0 = some r) (Γ : Ctx) : At Try.prog Γ b9 [] (Den.Ends Try.prog Try.f9 (.bool r)) (mkS 30 [(0, .str x0)] []) := by
  refine At.adv [] [(0, { told := [], gs := [], keep := some ([0], []) }), (1, { told := [], gs := [], keep := some ([0, 7], []) })] 400 (ev := .cond (decide ((x0.length : Int) > 64)) c9x26 c9x27 [.seq c9x1]) (σ' := mkS 30 [(0, .str x0), (7, .bool (decide ((x0.length : Int) > 64)))] []) (q := []) (by kernel_rfl) trivial ?_
  refine EvOk.cond (fun h0 => ?_) (fun h0 => ?_)
  · replace h := iteT h0 h
    refine At.gc [] [] (n := 30) (l := []) (bl := []) (by kernel_rfl) ?_
    refine At.adv [] [(2, { told := [], gs := [], keep := some ([2], []) })] 400 (ev := .ret) (σ' := mkS 30 [(2, .bool false)] []) (q := []) (by kernel_rfl) trivial ?_
    refine EvOk.ret ?_
    obtain rfl := someE h
    exact Den.Ends.mk (.inl rfl) (d := .bool false) (p := (True ∧ True) ∧ (True ∧ True)) (by kernel_rfl) ⟨⟨trivial, trivial⟩, ⟨trivial, trivial⟩⟩ (by kernel_rfl)
  · replace h := iteF h0 h
    refine At.gc [0] [] (n := 30) (l := [(0, .str x0)]) (bl := []) (by kernel_rfl) ?_
    refine At.adv [] [(3, { told := [], gs := [], keep := some ([0, 3], []) }), (4, { told := [], gs := [], keep := some ([0, 3, 4], []) })] 400 (ev := .loop c9x6 [.blk 0, .seq c9x23]) (σ' := mkS 30 [(0, .str x0), (3, .int .i64 0), (4, .int .i64 0)] []) (q := []) (by kernel_rfl) trivial ?_
    refine EvOk.loop ?_
    obtain ⟨q1, e9, h⟩ := bindE h
    refine At.loop (l9x1 x0) (st9x1 x0) (J9x1 x0) (0, 0) e9 (by kernel_rfl) (fun t x hx => (wl9x1 x0) t x hx Γ) ?_
    intro e σ' hJ
    rcases q1 with q0 | y0
    · obtain ⟨rfl, rfl⟩ := hJ
      refine At.exitK (K' := [.seq c9x23]) (by kernel_rfl) ?_
      obtain ⟨v9, e10, h⟩ := bindE h
      obtain ⟨v10, e11, h⟩ := bindE h
      refine At.advN [] [(11, { told := [(2, { ans := .val (.str v9) }), (3, { ans := .val (.bool v10), args := [.str v9] })], gs := [], keep := some ([2], []) })] 400 (ev := .ret) (σ' := mkS 30 [(2, .bool v10)] []) (q := [True ∧ (sub x0 q0 (x0.length : Int) = some v9), True ∧ ((True ∧ True) ∧ ([.str v9] : List D) = [.str v9] ∧ CallAny Try.prog 23 [.str v9] (.bool v10))]) (by kernel_rfl) ⟨⟨trivial, e10⟩, ⟨trivial, ⟨⟨trivial, trivial⟩, rfl, .inl (w23 e11)⟩⟩, trivial⟩ ?_
      refine EvOk.ret ?_
      obtain rfl := someE h
      exact Den.Ends.mk (.inl rfl) (d := .bool v10) (p := (True ∧ True) ∧ (True ∧ True)) (by kernel_rfl) ⟨⟨trivial, trivial⟩, ⟨trivial, trivial⟩⟩ (by kernel_rfl)
    · obtain rfl := someE h
      obtain ⟨rfl, hE⟩ := hJ
      exact At.retK hE
theorem w9 {x0 : List UInt8} {r : Bool} (h : m_armatureref03_IsClassName x0 = some r) : CallSpec Try.prog 9 [.str x0] (.bool r) :=
  CallSpec.at2 b9 (n := 30) (l := [(0, .str x0)]) (by kernel_rfl) (by kernel_rfl) (by kernel_rfl) (by kernel_rfl) (by kernel_rfl) (Nat.le_of_ble_eq_true (by kernel_rfl)) (fun Γ => we9 x0 r h Γ)

/-! ### armature armatureref03.IsMemberName -/
noncomputable def b11 : Code := Try.f11.body.getD .skip
def m_armatureref03_IsMemberName (x0 : List UInt8) : Option (Bool) :=
  if (x0 == ([60, 105, 110, 105, 116, 62] : List UInt8)) = true then (some true) else
  (if (x0 == ([60, 99, 108, 105, 110, 105, 116, 62] : List UInt8)) = true then (some true) else
  (if (decide ((x0.length : Int) ≤ 64)) = true then ((m_armatureref03_part x0).bind fun v0 =>
  some v0) else
  (some false)))
theorem we11 (x0 : List UInt8) (r : Bool) (h : m_armatureref03_IsMemberName x0 = some r) (Γ : Ctx) : At Try.prog Γ b11 [] (Den.Ends Try.prog Try.f11 (.bool r)) (mkS 18 [(0, .str x0)] []) := by
  rcases Bool.eq_false_or_eq_true (x0 == ([60, 105, 110, 105, 116, 62] : List UInt8)) with h0 | h0
  · replace h := iteT h0 h
    refine At.adv [] [(0, { told := [], gs := [], keep := some ([0], []) }), (1, { told := [(5, { ans := .yes })], gs := [(3, false), (4, false)], keep := some ([2], []) })] 400 (ev := .ret) (σ' := mkS 18 [(2, .bool true)] []) (q := [((x0 == ([60, 105, 110, 105, 116, 62] : List UInt8)) == false) = false, ((x0 == ([60, 105, 110, 105, 116, 62] : List UInt8)) == false) = false, True ∧ ((x0 == ([60, 105, 110, 105, 116, 62] : List UInt8)) = true), True, True, True, True, True, True, True]) (by kernel_rfl) ⟨gB h0 rfl, gB h0 rfl, ⟨trivial, h0⟩, trivial, trivial, trivial, trivial, trivial, trivial, trivial, trivial⟩ ?_
    refine EvOk.ret ?_
    obtain rfl := someE h
    exact Den.Ends.mk (.inl rfl) (d := .bool true) (p := (True ∧ True) ∧ (True ∧ True)) (by kernel_rfl) ⟨⟨trivial, trivial⟩, ⟨trivial, trivial⟩⟩ (by kernel_rfl)
  · replace h := iteF h0 h
    rcases Bool.eq_false_or_eq_true (x0 == ([60, 99, 108, 105, 110, 105, 116, 62] : List UInt8)) with h1 | h1
    · replace h := iteT h1 h
      refine At.adv [] [(0, { told := [], gs := [], keep := some ([0], []) }), (1, { told := [(5, { ans := .no }), (14, { ans := .yes })], gs := [(3, true), (4, true), (7, false), (8, false), (9, false), (10, false), (13, false)], keep := some ([2], []) })] 400 (ev := .ret) (σ' := mkS 18 [(2, .bool true)] []) (q := [((x0 == ([60, 105, 110, 105, 116, 62] : List UInt8)) == false) = true ∧ True, ((x0 == ([60, 105, 110, 105, 116, 62] : List UInt8)) == false) = true ∧ True, True ∧ ((x0 == ([60, 105, 110, 105, 116, 62] : List UInt8)) = false), ((x0 == ([60, 99, 108, 105, 110, 105, 116, 62] : List UInt8)) == false) = false, ((x0 == ([60, 99, 108, 105, 110, 105, 116, 62] : List UInt8)) == false) = false, ((x0 == ([60, 99, 108, 105, 110, 105, 116, 62] : List UInt8)) == false) = false, ((x0 == ([60, 99, 108, 105, 110, 105, 116, 62] : List UInt8)) == false) = false, True, True, ((x0 == ([60, 99, 108, 105, 110, 105, 116, 62] : List UInt8)) == false) = false, True ∧ ((x0 == ([60, 99, 108, 105, 110, 105, 116, 62] : List UInt8)) = true)]) (by kernel_rfl) ⟨⟨(gB h0 rfl), trivial⟩, ⟨(gB h0 rfl), trivial⟩, ⟨trivial, h0⟩, gB h1 rfl, gB h1 rfl, gB h1 rfl, gB h1 rfl, trivial, trivial, gB h1 rfl, ⟨trivial, h1⟩, trivial⟩ ?_
      refine EvOk.ret ?_
      obtain rfl := someE h
      exact Den.Ends.mk (.inl rfl) (d := .bool true) (p := (True ∧ True) ∧ (True ∧ True)) (by kernel_rfl) ⟨⟨trivial, trivial⟩, ⟨trivial, trivial⟩⟩ (by kernel_rfl)
    · replace h := iteF h1 h
      rcases Bool.eq_false_or_eq_true (decide ((x0.length : Int) ≤ 64)) with h2 | h2
      · replace h := iteT h2 h
        obtain ⟨v0, e0, h⟩ := bindE h
        refine At.adv [] [(0, { told := [], gs := [], keep := some ([0], []) }), (1, { told := [(5, { ans := .no }), (12, { ans := .val (.bool v0), args := [.str x0] }), (13, { ans := .yes }), (14, { ans := .no })], gs := [(3, true), (4, true), (7, true), (8, true), (9, true), (10, true), (11, true), (12, true), (13, true)], keep := some ([2], []) })] 400 (ev := .ret) (σ' := mkS 18 [(2, .bool v0)] []) (q := [((x0 == ([60, 105, 110, 105, 116, 62] : List UInt8)) == false) = true ∧ True, ((x0 == ([60, 105, 110, 105, 116, 62] : List UInt8)) == false) = true ∧ True, True ∧ ((x0 == ([60, 105, 110, 105, 116, 62] : List UInt8)) = false), ((x0 == ([60, 99, 108, 105, 110, 105, 116, 62] : List UInt8)) == false) = true ∧ True, ((x0 == ([60, 99, 108, 105, 110, 105, 116, 62] : List UInt8)) == false) = true ∧ True, ((x0 == ([60, 99, 108, 105, 110, 105, 116, 62] : List UInt8)) == false) = true ∧ True, ((x0 == ([60, 99, 108, 105, 110, 105, 116, 62] : List UInt8)) == false) = true ∧ True, ((decide ((x0.length : Int) ≤ 64)) == true) = true ∧ True, ((decide ((x0.length : Int) ≤ 64)) == true) = true ∧ ((True ∧ True) ∧ ([.str x0] : List D) = [.str x0] ∧ CallAny Try.prog 23 [.str x0] (.bool v0)), ((x0 == ([60, 99, 108, 105, 110, 105, 116, 62] : List UInt8)) == false) = true ∧ ((decide ((x0.length : Int) ≤ 64)) = true), True ∧ ((x0 == ([60, 99, 108, 105, 110, 105, 116, 62] : List UInt8)) = false)]) (by kernel_rfl) ⟨⟨(gB h0 rfl), trivial⟩, ⟨(gB h0 rfl), trivial⟩, ⟨trivial, h0⟩, ⟨(gB h1 rfl), trivial⟩, ⟨(gB h1 rfl), trivial⟩, ⟨(gB h1 rfl), trivial⟩, ⟨(gB h1 rfl), trivial⟩, ⟨(gB h2 rfl), trivial⟩, ⟨(gB h2 rfl), ⟨⟨trivial, trivial⟩, rfl, .inl (w23 e0)⟩⟩, ⟨(gB h1 rfl), h2⟩, ⟨trivial, h1⟩, trivial⟩ ?_
        refine EvOk.ret ?_
        obtain rfl := someE h
        exact Den.Ends.mk (.inl rfl) (d := .bool v0) (p := (True ∧ True) ∧ (True ∧ True)) (by kernel_rfl) ⟨⟨trivial, trivial⟩, ⟨trivial, trivial⟩⟩ (by kernel_rfl)
      · replace h := iteF h2 h
        refine At.adv [] [(0, { told := [], gs := [], keep := some ([0], []) }), (1, { told := [(5, { ans := .no }), (13, { ans := .no }), (14, { ans := .no })], gs := [(3, true), (4, true), (7, true), (8, true), (9, true), (10, true), (11, false), (12, false), (13, true)], keep := some ([2], []) })] 400 (ev := .ret) (σ' := mkS 18 [(2, .bool false)] []) (q := [((x0 == ([60, 105, 110, 105, 116, 62] : List UInt8)) == false) = true ∧ True, ((x0 == ([60, 105, 110, 105, 116, 62] : List UInt8)) == false) = true ∧ True, True ∧ ((x0 == ([60, 105, 110, 105, 116, 62] : List UInt8)) = false), ((x0 == ([60, 99, 108, 105, 110, 105, 116, 62] : List UInt8)) == false) = true ∧ True, ((x0 == ([60, 99, 108, 105, 110, 105, 116, 62] : List UInt8)) == false) = true ∧ True, ((x0 == ([60, 99, 108, 105, 110, 105, 116, 62] : List UInt8)) == false) = true ∧ True, ((x0 == ([60, 99, 108, 105, 110, 105, 116, 62] : List UInt8)) == false) = true ∧ True, ((decide ((x0.length : Int) ≤ 64)) == true) = false, ((decide ((x0.length : Int) ≤ 64)) == true) = false, ((x0 == ([60, 99, 108, 105, 110, 105, 116, 62] : List UInt8)) == false) = true ∧ ((decide ((x0.length : Int) ≤ 64)) = false), True ∧ ((x0 == ([60, 99, 108, 105, 110, 105, 116, 62] : List UInt8)) = false)]) (by kernel_rfl) ⟨⟨(gB h0 rfl), trivial⟩, ⟨(gB h0 rfl), trivial⟩, ⟨trivial, h0⟩, ⟨(gB h1 rfl), trivial⟩, ⟨(gB h1 rfl), trivial⟩, ⟨(gB h1 rfl), trivial⟩, ⟨(gB h1 rfl), trivial⟩, gB h2 rfl, gB h2 rfl, ⟨(gB h1 rfl), h2⟩, ⟨trivial, h1⟩, trivial⟩ ?_
        refine EvOk.ret ?_
        obtain rfl := someE h
        exact Den.Ends.mk (.inl rfl) (d := .bool false) (p := (True ∧ True) ∧ (True ∧ True)) (by kernel_rfl) ⟨⟨trivial, trivial⟩, ⟨trivial, trivial⟩⟩ (by kernel_rfl)
theorem w11 {x0 : List UInt8} {r : Bool} (h : m_armatureref03_IsMemberName x0 = some r) : CallSpec Try.prog 11 [.str x0] (.bool r) :=
  CallSpec.at2 b11 (n := 18) (l := [(0, .str x0)]) (by kernel_rfl) (by kernel_rfl) (by kernel_rfl) (by kernel_rfl) (by kernel_rfl) (Nat.le_of_ble_eq_true (by kernel_rfl)) (fun Γ => we11 x0 r h Γ)

/-! ### armature armatureref03.slash -/
noncomputable def b26 : Code := Try.f26.body.getD .skip
noncomputable def c26x0 : Code := sub1 b26
noncomputable def c26x1 : Code := sub0 c26x0
noncomputable def c26x2 : Code := sub1 c26x1
noncomputable def c26x3 : Code := sub0 c26x2
noncomputable def c26x4 : Code := sub0 c26x3
noncomputable def c26x5 : Code := sub1 c26x4
noncomputable def c26x6 : Code := sub0 c26x5
noncomputable def c26x7 : Code := sub0 c26x6
noncomputable def c26x8 : Code := sub1 c26x7
noncomputable def c26x9 : Code := sub0 c26x8
noncomputable def c26x10 : Code := sub1 c26x8
noncomputable def c26x11 : Code := sub1 c26x5
noncomputable def c26x12 : Code := sub0 c26x4
noncomputable def c26x13 : Code := sub1 c26x12
noncomputable def c26x14 : Code := sub0 c26x13
noncomputable def c26x15 : Code := sub1 c26x13
noncomputable def c26x16 : Code := sub1 c26x0
def l26x1 (x0 : List UInt8) (t0 : Int) : Option (Ctl (Int) (Unit ⊕ Int)) :=
  if (decide (t0 ≥ 0)) = true then
    ((getS x0 t0).bind fun v3 =>
    if (v3 == 47) = true then
      (some (.done (.inr t0))) else
    ((some (IntKind.wrap .i64 (t0 - (1 : Int)))).bind fun v4 =>
      some (.next v4))) else
  (some (.done (.inl (()))))
def m_armatureref03_slash (x0 : List UInt8) : Option (Int) :=
  (some (IntKind.wrap .i64 ((x0.length : Int) - (1 : Int)))).bind fun v0 =>
  (loopM (l26x1 x0) rounds v0).bind fun q1 =>
  match q1 with
  | .inl q0 => (some (-1))
  | .inr y0 => (some y0)
def st26x1 (x0 : List UInt8) : Int → S :=
  fun t0 => mkS 16 [(0, .str x0), (3, .int .i64 t0)] []
noncomputable def J26x1  : (Unit ⊕ Int) → Exit → S → Prop :=
  JSum (JExit 0 (fun q0 : Unit => mkS 16 [] [])) (JRet Try.prog Try.f26 (fun y : Int => .int .i64 y))
theorem wl26x1 (x0 : List UInt8) (t0 : Int) (r : Ctl (Int) (Unit ⊕ Int)) (h : (l26x1 x0) t0 = some r) (Γ : Ctx) : At Try.prog Γ c26x4 [] (Round (st26x1 x0) J26x1 r) ((st26x1 x0) t0) := by
  refine At.adv [] [(2, { told := [], gs := [], keep := some ([0, 3, 8], []) })] 400 (ev := .cond (decide (t0 ≥ 0)) c26x14 c26x15 [.seq c26x5]) (σ' := mkS 16 [(0, .str x0), (3, .int .i64 t0), (8, .bool (decide (t0 ≥ 0)))] []) (q := []) (by kernel_rfl) trivial ?_
  refine EvOk.cond (fun h2 => ?_) (fun h2 => ?_)
  · replace h := iteT h2 h
    refine At.gc [0, 3] [] (n := 16) (l := [(0, .str x0), (3, .int .i64 t0)]) (bl := []) (by kernel_rfl) ?_
    obtain ⟨v3, e3, h⟩ := bindE h
    refine At.adv [] [(4, { told := [(2, { ans := .val (.int .u8 v3) })], gs := [], keep := some ([0, 3, 14], []) })] 400 (ev := .cond (v3 == 47) c26x9 c26x10 [.blk 1, .seq c26x11]) (σ' := mkS 16 [(0, .str x0), (3, .int .i64 t0), (14, .bool (v3 == 47))] []) (q := [True ∧ (getS x0 t0 = some v3)]) (by kernel_rfl) ⟨⟨trivial, e3⟩, trivial⟩ ?_
    refine EvOk.cond (fun h3 => ?_) (fun h3 => ?_)
    · replace h := iteT h3 h
      refine At.gc [3] [] (n := 16) (l := [(3, .int .i64 t0)]) (bl := []) (by kernel_rfl) ?_
      refine At.adv [] [(5, { told := [], gs := [], keep := some ([2], []) })] 400 (ev := .ret) (σ' := mkS 16 [(2, .int .i64 t0)] []) (q := []) (by kernel_rfl) trivial ?_
      refine EvOk.ret ?_
      obtain rfl := someE h
      exact Round.done neRet ⟨rfl, Den.Ends.mk (.inl rfl) (d := .int .i64 t0) (p := (True ∧ True) ∧ (True ∧ True)) (by kernel_rfl) ⟨⟨trivial, trivial⟩, ⟨trivial, trivial⟩⟩ (by kernel_rfl)⟩
    · replace h := iteF h3 h
      refine At.gc [0, 3] [] (n := 16) (l := [(0, .str x0), (3, .int .i64 t0)]) (bl := []) (by kernel_rfl) ?_
      obtain ⟨v4, e4, h⟩ := bindE h
      refine At.adv [] [(3, { told := [(1, { ans := .val (.int .i64 v4) })], gs := [], keep := some ([0, 3], []) })] 400 (ev := .normal) (σ' := mkS 16 [(0, .str x0), (3, .int .i64 v4)] []) (q := [True ∧ (IntKind.wrap .i64 (t0 - (1 : Int)) = v4)]) (by kernel_rfl) ⟨⟨trivial, someE e4⟩, trivial⟩ ?_
      refine EvOk.normal ?_
      obtain rfl := someE h
      exact Round.next (by kernel_rfl)
  · replace h := iteF h2 h
    refine At.gc [] [] (n := 16) (l := []) (bl := []) (by kernel_rfl) ?_
    refine At.adv [] [] 400 (ev := .exit 0) (σ' := mkS 16 [] []) (q := []) (by kernel_rfl) trivial ?_
    refine EvOk.exit ?_
    obtain rfl := someE h
    exact Round.done (neExit _) ⟨rfl, by kernel_rfl⟩
theorem we26 (x0 : List UInt8) (r : Int) (h : m_armatureref03_slash x0 = some r) (Γ : Ctx) : At Try.prog Γ b26 [] (Den.Ends Try.prog Try.f26 (.int .i64 r)) (mkS 16 [(0, .str x0)] []) := by
  obtain ⟨v0, e0, h⟩ := bindE h
  refine At.adv [] [(0, { told := [], gs := [], keep := some ([0], []) }), (1, { told := [(2, { ans := .val (.int .i64 v0) })], gs := [], keep := some ([0, 3], []) })] 400 (ev := .loop c26x4 [.blk 0, .seq c26x16]) (σ' := mkS 16 [(0, .str x0), (3, .int .i64 v0)] []) (q := [True ∧ (IntKind.wrap .i64 ((x0.length : Int) - (1 : Int)) = v0)]) (by kernel_rfl) ⟨⟨trivial, someE e0⟩, trivial⟩ ?_
  refine EvOk.loop ?_
  obtain ⟨q1, e5, h⟩ := bindE h
  refine At.loop (l26x1 x0) (st26x1 x0) J26x1 v0 e5 (by kernel_rfl) (fun t x hx => (wl26x1 x0) t x hx Γ) ?_
  intro e σ' hJ
  rcases q1 with q0 | y0
  · obtain ⟨rfl, rfl⟩ := hJ
    refine At.exitK (K' := [.seq c26x16]) (by kernel_rfl) ?_
    refine At.advN [] [(6, { told := [], gs := [], keep := some ([2], []) })] 400 (ev := .ret) (σ' := mkS 16 [(2, .int .i64 (-1))] []) (q := []) (by kernel_rfl) trivial ?_
    refine EvOk.ret ?_
    obtain rfl := someE h
    exact Den.Ends.mk (.inl rfl) (d := .int .i64 (-1)) (p := (True ∧ True) ∧ (True ∧ True)) (by kernel_rfl) ⟨⟨trivial, trivial⟩, ⟨trivial, trivial⟩⟩ (by kernel_rfl)
  · obtain rfl := someE h
    obtain ⟨rfl, hE⟩ := hJ
    exact At.retK hE
theorem w26 {x0 : List UInt8} {r : Int} (h : m_armatureref03_slash x0 = some r) : CallSpec Try.prog 26 [.str x0] (.int .i64 r) :=
  CallSpec.at2 b26 (n := 16) (l := [(0, .str x0)]) (by kernel_rfl) (by kernel_rfl) (by kernel_rfl) (by kernel_rfl) (by kernel_rfl) (Nat.le_of_ble_eq_true (by kernel_rfl)) (fun Γ => we26 x0 r h Γ)

/-! ### armature armatureref03.Package -/
noncomputable def b13 : Code := Try.f13.body.getD .skip
noncomputable def c13x0 : Code := sub1 b13
noncomputable def c13x1 : Code := sub1 c13x0
noncomputable def c13x2 : Code := sub0 c13x1
noncomputable def c13x3 : Code := sub1 c13x2
noncomputable def c13x4 : Code := sub0 c13x3
noncomputable def c13x5 : Code := sub1 c13x3
noncomputable def c13x6 : Code := sub1 c13x1
def m_armatureref03_Package (x0 : List UInt8) : Option ((List UInt8)) :=
  (m_armatureref03_slash x0).bind fun v0 =>
  if (decide (v0 < 0)) = true then
    (some []) else
  ((sub x0 0 v0).bind fun v1 =>
    some v1)
theorem we13 (x0 : List UInt8) (r : (List UInt8)) (h : m_armatureref03_Package x0 = some r) (Γ : Ctx) : At Try.prog Γ b13 [] (Den.Ends Try.prog Try.f13 (.str r)) (mkS 11 [(0, .str x0)] []) := by
  obtain ⟨v0, e0, h⟩ := bindE h
  refine At.adv [] [(0, { told := [], gs := [], keep := some ([0], []) }), (1, { told := [(1, { ans := .val (.int .i64 v0), args := [.str x0] })], gs := [], keep := some ([0, 3], []) }), (2, { told := [], gs := [], keep := some ([0, 3, 7], []) })] 400 (ev := .cond (decide (v0 < 0)) c13x4 c13x5 [.seq c13x6]) (σ' := mkS 11 [(0, .str x0), (3, .int .i64 v0), (7, .bool (decide (v0 < 0)))] []) (q := [True ∧ ((True ∧ True) ∧ ([.str x0] : List D) = [.str x0] ∧ CallAny Try.prog 26 [.str x0] (.int .i64 v0))]) (by kernel_rfl) ⟨⟨trivial, ⟨⟨trivial, trivial⟩, rfl, .inl (w26 e0)⟩⟩, trivial⟩ ?_
  refine EvOk.cond (fun h0 => ?_) (fun h0 => ?_)
  · replace h := iteT h0 h
    refine At.gc [] [] (n := 11) (l := []) (bl := []) (by kernel_rfl) ?_
    refine At.adv [] [(3, { told := [], gs := [], keep := some ([2], []) })] 400 (ev := .ret) (σ' := mkS 11 [(2, .str [])] []) (q := []) (by kernel_rfl) trivial ?_
    refine EvOk.ret ?_
    obtain rfl := someE h
    exact Den.Ends.mk (.inl rfl) (d := .str []) (p := (True ∧ True) ∧ (True ∧ True)) (by kernel_rfl) ⟨⟨trivial, trivial⟩, ⟨trivial, trivial⟩⟩ (by kernel_rfl)
  · replace h := iteF h0 h
    refine At.gc [0, 3] [] (n := 11) (l := [(0, .str x0), (3, .int .i64 v0)]) (bl := []) (by kernel_rfl) ?_
    obtain ⟨v1, e1, h⟩ := bindE h
    refine At.adv [] [(4, { told := [(2, { ans := .val (.str v1) })], gs := [], keep := some ([2], []) })] 400 (ev := .ret) (σ' := mkS 11 [(2, .str v1)] []) (q := [True ∧ (sub x0 0 v0 = some v1)]) (by kernel_rfl) ⟨⟨trivial, e1⟩, trivial⟩ ?_
    refine EvOk.ret ?_
    obtain rfl := someE h
    exact Den.Ends.mk (.inl rfl) (d := .str v1) (p := (True ∧ True) ∧ (True ∧ True)) (by kernel_rfl) ⟨⟨trivial, trivial⟩, ⟨trivial, trivial⟩⟩ (by kernel_rfl)
theorem w13 {x0 : List UInt8} {r : (List UInt8)} (h : m_armatureref03_Package x0 = some r) : CallSpec Try.prog 13 [.str x0] (.str r) :=
  CallSpec.at2 b13 (n := 11) (l := [(0, .str x0)]) (by kernel_rfl) (by kernel_rfl) (by kernel_rfl) (by kernel_rfl) (by kernel_rfl) (Nat.le_of_ble_eq_true (by kernel_rfl)) (fun Γ => we13 x0 r h Γ)

/-! ### armature armatureref03.SimpleName -/
noncomputable def b15 : Code := Try.f15.body.getD .skip
def m_armatureref03_SimpleName (x0 : List UInt8) : Option ((List UInt8)) :=
  (m_armatureref03_slash x0).bind fun v0 =>
  (some (IntKind.wrap .i64 (v0 + (1 : Int)))).bind fun v1 =>
  (sub x0 v1 (x0.length : Int)).bind fun v2 =>
  some v2
theorem we15 (x0 : List UInt8) (r : (List UInt8)) (h : m_armatureref03_SimpleName x0 = some r) (Γ : Ctx) : At Try.prog Γ b15 [] (Den.Ends Try.prog Try.f15 (.str r)) (mkS 8 [(0, .str x0)] []) := by
  obtain ⟨v0, e0, h⟩ := bindE h
  obtain ⟨v1, e1, h⟩ := bindE h
  obtain ⟨v2, e2, h⟩ := bindE h
  refine At.adv [] [(0, { told := [], gs := [], keep := some ([0], []) }), (1, { told := [(2, { ans := .val (.int .i64 v0), args := [.str x0] }), (3, { ans := .val (.int .i64 v1) }), (4, { ans := .val (.str v2) })], gs := [], keep := some ([2], []) })] 400 (ev := .ret) (σ' := mkS 8 [(2, .str v2)] []) (q := [True ∧ ((True ∧ True) ∧ ([.str x0] : List D) = [.str x0] ∧ CallAny Try.prog 26 [.str x0] (.int .i64 v0)), True ∧ (IntKind.wrap .i64 (v0 + (1 : Int)) = v1), True ∧ (sub x0 v1 (x0.length : Int) = some v2)]) (by kernel_rfl) ⟨⟨trivial, ⟨⟨trivial, trivial⟩, rfl, .inl (w26 e0)⟩⟩, ⟨trivial, someE e1⟩, ⟨trivial, e2⟩, trivial⟩ ?_
  refine EvOk.ret ?_
  obtain rfl := someE h
  exact Den.Ends.mk (.inl rfl) (d := .str v2) (p := (True ∧ True) ∧ (True ∧ True)) (by kernel_rfl) ⟨⟨trivial, trivial⟩, ⟨trivial, trivial⟩⟩ (by kernel_rfl)
theorem w15 {x0 : List UInt8} {r : (List UInt8)} (h : m_armatureref03_SimpleName x0 = some r) : CallSpec Try.prog 15 [.str x0] (.str r) :=
  CallSpec.at2 b15 (n := 8) (l := [(0, .str x0)]) (by kernel_rfl) (by kernel_rfl) (by kernel_rfl) (by kernel_rfl) (by kernel_rfl) (Nat.le_of_ble_eq_true (by kernel_rfl)) (fun Γ => we15 x0 r h Γ)

/-! ### armature armatureref03.Join -/
noncomputable def b17 : Code := Try.f17.body.getD .skip
noncomputable def c17x0 : Code := sub1 b17
noncomputable def c17x1 : Code := sub0 c17x0
noncomputable def c17x2 : Code := sub1 c17x1
noncomputable def c17x3 : Code := sub0 c17x2
noncomputable def c17x4 : Code := sub1 c17x2
noncomputable def c17x5 : Code := sub1 c17x0
def m_armatureref03_Join (x0 : List UInt8) (x1 : List UInt8) : Option ((List UInt8)) :=
  if (x0 == ([] : List UInt8)) = true then
    (some x1) else
  ((catK x0 ([47] : List UInt8)).bind fun v0 =>
    (catK v0 x1).bind fun v1 =>
    some v1)
theorem we17 (x0 : List UInt8) (x1 : List UInt8) (r : (List UInt8)) (h : m_armatureref03_Join x0 x1 = some r) (Γ : Ctx) : At Try.prog Γ b17 [] (Den.Ends Try.prog Try.f17 (.str r)) (mkS 12 [(0, .str x0), (1, .str x1)] []) := by
  refine At.adv [] [(0, { told := [], gs := [], keep := some ([0, 1], []) }), (1, { told := [], gs := [], keep := some ([0, 1, 6], []) })] 400 (ev := .cond (x0 == ([] : List UInt8)) c17x3 c17x4 [.seq c17x5]) (σ' := mkS 12 [(0, .str x0), (1, .str x1), (6, .bool (x0 == ([] : List UInt8)))] []) (q := []) (by kernel_rfl) trivial ?_
  refine EvOk.cond (fun h0 => ?_) (fun h0 => ?_)
  · replace h := iteT h0 h
    refine At.gc [1] [] (n := 12) (l := [(1, .str x1)]) (bl := []) (by kernel_rfl) ?_
    refine At.adv [] [(2, { told := [], gs := [], keep := some ([4], []) })] 400 (ev := .ret) (σ' := mkS 12 [(4, .str x1)] []) (q := []) (by kernel_rfl) trivial ?_
    refine EvOk.ret ?_
    obtain rfl := someE h
    exact Den.Ends.mk (.inl rfl) (d := .str x1) (p := (True ∧ True) ∧ (True ∧ True)) (by kernel_rfl) ⟨⟨trivial, trivial⟩, ⟨trivial, trivial⟩⟩ (by kernel_rfl)
  · replace h := iteF h0 h
    refine At.gc [0, 1] [] (n := 12) (l := [(0, .str x0), (1, .str x1)]) (bl := []) (by kernel_rfl) ?_
    obtain ⟨v0, e0, h⟩ := bindE h
    obtain ⟨v1, e1, h⟩ := bindE h
    refine At.adv [] [(3, { told := [(1, { ans := .val (.str v0) }), (3, { ans := .val (.str v1) })], gs := [], keep := some ([4], []) })] 400 (ev := .ret) (σ' := mkS 12 [(4, .str v1)] []) (q := [True ∧ (x0.length + ([47] : List UInt8).length ≤ 9223372036854775807 ∧ x0 ++ ([47] : List UInt8) = v0), True ∧ (v0.length + x1.length ≤ 9223372036854775807 ∧ v0 ++ x1 = v1)]) (by kernel_rfl) ⟨⟨trivial, catK_spec e0⟩, ⟨trivial, catK_spec e1⟩, trivial⟩ ?_
    refine EvOk.ret ?_
    obtain rfl := someE h
    exact Den.Ends.mk (.inl rfl) (d := .str v1) (p := (True ∧ True) ∧ (True ∧ True)) (by kernel_rfl) ⟨⟨trivial, trivial⟩, ⟨trivial, trivial⟩⟩ (by kernel_rfl)
theorem w17 {x0 : List UInt8} {x1 : List UInt8} {r : (List UInt8)} (h : m_armatureref03_Join x0 x1 = some r) : CallSpec Try.prog 17 [.str x0, .str x1] (.str r) :=
  CallSpec.at2 b17 (n := 12) (l := [(0, .str x0), (1, .str x1)]) (by kernel_rfl) (by kernel_rfl) (by kernel_rfl) (by kernel_rfl) (by kernel_rfl) (Nat.le_of_ble_eq_true (by kernel_rfl)) (fun Γ => we17 x0 x1 r h Γ)

/-! ### armature armatureref03.HasPrefix -/
noncomputable def b19 : Code := Try.f19.body.getD .skip
def m_armatureref03_HasPrefix (x0 : List UInt8) (x1 : List UInt8) : Option (Bool) :=
  if (decide ((x1.length : Int) ≤ (x0.length : Int))) = true then ((sub x0 0 (x1.length : Int)).bind fun v0 =>
  some (v0 == x1)) else
  (some false)
theorem we19 (x0 : List UInt8) (x1 : List UInt8) (r : Bool) (h : m_armatureref03_HasPrefix x0 x1 = some r) (Γ : Ctx) : At Try.prog Γ b19 [] (Den.Ends Try.prog Try.f19 (.bool r)) (mkS 18 [(0, .str x0), (1, .str x1)] []) := by
  rcases Bool.eq_false_or_eq_true (decide ((x1.length : Int) ≤ (x0.length : Int))) with h0 | h0
  · replace h := iteT h0 h
    obtain ⟨v0, e0, h⟩ := bindE h
    refine At.adv [] [(0, { told := [], gs := [], keep := some ([0, 1], []) }), (1, { told := [(9, { ans := .val (.str v0) }), (12, { ans := .yes })], gs := [(6, true), (7, true), (8, true), (9, true), (10, true), (11, true)], keep := some ([4], []) })] 400 (ev := .ret) (σ' := mkS 18 [(4, .bool (v0 == x1))] []) (q := [((decide ((x1.length : Int) ≤ (x0.length : Int))) == true) = true ∧ True, ((decide ((x1.length : Int) ≤ (x0.length : Int))) == true) = true ∧ True, ((decide ((x1.length : Int) ≤ (x0.length : Int))) == true) = true ∧ True, ((decide ((x1.length : Int) ≤ (x0.length : Int))) == true) = true ∧ (sub x0 0 (x1.length : Int) = some v0), ((decide ((x1.length : Int) ≤ (x0.length : Int))) == true) = true ∧ True, ((decide ((x1.length : Int) ≤ (x0.length : Int))) == true) = true ∧ True, True ∧ ((decide ((x1.length : Int) ≤ (x0.length : Int))) = true)]) (by kernel_rfl) ⟨⟨(gB h0 rfl), trivial⟩, ⟨(gB h0 rfl), trivial⟩, ⟨(gB h0 rfl), trivial⟩, ⟨(gB h0 rfl), e0⟩, ⟨(gB h0 rfl), trivial⟩, ⟨(gB h0 rfl), trivial⟩, ⟨trivial, h0⟩, trivial⟩ ?_
    refine EvOk.ret ?_
    obtain rfl := someE h
    exact Den.Ends.mk (.inl rfl) (d := .bool (v0 == x1)) (p := (True ∧ True) ∧ (True ∧ True)) (by kernel_rfl) ⟨⟨trivial, trivial⟩, ⟨trivial, trivial⟩⟩ (by kernel_rfl)
  · replace h := iteF h0 h
    refine At.adv [] [(0, { told := [], gs := [], keep := some ([0, 1], []) }), (1, { told := [(12, { ans := .no })], gs := [(6, false), (7, false), (8, false), (9, false), (10, false), (11, false)], keep := some ([4], []) })] 400 (ev := .ret) (σ' := mkS 18 [(4, .bool false)] []) (q := [((decide ((x1.length : Int) ≤ (x0.length : Int))) == true) = false, ((decide ((x1.length : Int) ≤ (x0.length : Int))) == true) = false, ((decide ((x1.length : Int) ≤ (x0.length : Int))) == true) = false, ((decide ((x1.length : Int) ≤ (x0.length : Int))) == true) = false, ((decide ((x1.length : Int) ≤ (x0.length : Int))) == true) = false, ((decide ((x1.length : Int) ≤ (x0.length : Int))) == true) = false, True ∧ ((decide ((x1.length : Int) ≤ (x0.length : Int))) = false)]) (by kernel_rfl) ⟨gB h0 rfl, gB h0 rfl, gB h0 rfl, gB h0 rfl, gB h0 rfl, gB h0 rfl, ⟨trivial, h0⟩, trivial⟩ ?_
    refine EvOk.ret ?_
    obtain rfl := someE h
    exact Den.Ends.mk (.inl rfl) (d := .bool false) (p := (True ∧ True) ∧ (True ∧ True)) (by kernel_rfl) ⟨⟨trivial, trivial⟩, ⟨trivial, trivial⟩⟩ (by kernel_rfl)
theorem w19 {x0 : List UInt8} {x1 : List UInt8} {r : Bool} (h : m_armatureref03_HasPrefix x0 x1 = some r) : CallSpec Try.prog 19 [.str x0, .str x1] (.bool r) :=
  CallSpec.at2 b19 (n := 18) (l := [(0, .str x0), (1, .str x1)]) (by kernel_rfl) (by kernel_rfl) (by kernel_rfl) (by kernel_rfl) (by kernel_rfl) (Nat.le_of_ble_eq_true (by kernel_rfl)) (fun Γ => we19 x0 x1 r h Γ)

/-! ### armature armaturelaw03.NameValidity -/
noncomputable def b3 : Code := Try.f3.body.getD .skip
noncomputable def c3x0 : Code := sub1 b3
noncomputable def c3x1 : Code := sub0 c3x0
noncomputable def c3x2 : Code := sub1 c3x1
noncomputable def c3x3 : Code := sub0 c3x2
noncomputable def c3x4 : Code := sub0 c3x3
noncomputable def c3x5 : Code := sub1 c3x3
noncomputable def c3x6 : Code := sub1 c3x0
noncomputable def c3x7 : Code := sub1 c3x2
noncomputable def c3x8 : Code := sub0 c3x6
noncomputable def c3x9 : Code := sub1 c3x6
def j3x2  : Option (Bool) :=
  (m_armaturelaw03_awake).bind fun v13 =>
  some v13
def j3x1 (x0 : List UInt8) (x1 : List UInt8) : Option (Bool) :=
  (m_armaturelaw03_awake).bind fun v0 =>
  if v0 = true then ((m_name_IsClassName x0).bind fun v1 =>
  (m_armatureref03_IsClassName x0).bind fun v2 =>
  if (v1 == v2) = true then ((m_name_IsMemberName x0).bind fun v3 =>
  (m_armatureref03_IsMemberName x0).bind fun v4 =>
  if (v3 == v4) = true then ((m_name_Package x0).bind fun v5 =>
  (m_armatureref03_Package x0).bind fun v6 =>
  if (v5 == v6) = true then ((m_name_SimpleName x0).bind fun v7 =>
  (m_armatureref03_SimpleName x0).bind fun v8 =>
  if (v7 == v8) = true then ((m_name_Join x0 x1).bind fun v9 =>
  (m_armatureref03_Join x0 x1).bind fun v10 =>
  if (v9 == v10) = true then ((m_name_HasPrefix x0 x1).bind fun v11 =>
  (m_armatureref03_HasPrefix x0 x1).bind fun v12 =>
  some (v11 == v12)) else
  (some false)) else
  (some false)) else
  (some false)) else
  (some false)) else
  (some false)) else
  (some false)
def m_armaturelaw03_NameValidity (x0 : List UInt8) (x1 : List UInt8) : Option (Bool) :=
  if (decide ((x0.length : Int) > 2000)) = true then (j3x2 ) else
  (if (decide ((x1.length : Int) > 2000)) = true then
    (j3x2 ) else
  ((j3x1 x0 x1) ))
theorem wj3x2  (r : Bool) (h : j3x2  = some r) (Γ : Ctx) : EvOk Try.prog Γ (Den.Ends Try.prog Try.f3 (.bool r)) (mkS 61 [] []) (.stop c3x4 [.seq c3x5, .seq c3x6]) := by
  refine EvOk.stop ?_
  obtain ⟨v13, e13, h⟩ := bindE h
  refine At.adv [] [(2, { told := [(0, { ans := .val (.bool v13), args := [] })], gs := [], keep := some ([4], []) })] 400 (ev := .ret) (σ' := mkS 61 [(4, .bool v13)] []) (q := [True ∧ (True ∧ ([] : List D) = [] ∧ CallAny Try.prog 7 [] (.bool v13))]) (by kernel_rfl) ⟨⟨trivial, ⟨trivial, rfl, .inl (w7 e13)⟩⟩, trivial⟩ ?_
  refine EvOk.ret ?_
  obtain rfl := someE h
  exact Den.Ends.mk (.inl rfl) (d := .bool v13) (p := (True ∧ True) ∧ (True ∧ True)) (by kernel_rfl) ⟨⟨trivial, trivial⟩, ⟨trivial, trivial⟩⟩ (by kernel_rfl)
theorem wj3x1 (x0 : List UInt8) (x1 : List UInt8) (r : Bool) (h : (j3x1 x0 x1)  = some r) (Γ : Ctx) : EvOk Try.prog Γ (Den.Ends Try.prog Try.f3 (.bool r)) (mkS 61 [(0, .str x0), (1, .str x1)] []) (.stop c3x8 [.seq c3x9]) := by
  refine EvOk.stop ?_
  obtain ⟨v0, e0, h⟩ := bindE h
  rcases Bool.eq_false_or_eq_true v0 with h2 | h2
  · replace h := iteT h2 h
    obtain ⟨v1, e1, h⟩ := bindE h
    obtain ⟨v2, e2, h⟩ := bindE h
    rcases Bool.eq_false_or_eq_true (v1 == v2) with h3 | h3
    · replace h := iteT h3 h
      obtain ⟨v3, e3, h⟩ := bindE h
      obtain ⟨v4, e4, h⟩ := bindE h
      rcases Bool.eq_false_or_eq_true (v3 == v4) with h4 | h4
      · replace h := iteT h4 h
        obtain ⟨v5, e5, h⟩ := bindE h
        obtain ⟨v6, e6, h⟩ := bindE h
        rcases Bool.eq_false_or_eq_true (v5 == v6) with h5 | h5
        · replace h := iteT h5 h
          obtain ⟨v7, e7, h⟩ := bindE h
          obtain ⟨v8, e8, h⟩ := bindE h
          rcases Bool.eq_false_or_eq_true (v7 == v8) with h6 | h6
          · replace h := iteT h6 h
            obtain ⟨v9, e9, h⟩ := bindE h
            obtain ⟨v10, e10, h⟩ := bindE h
            rcases Bool.eq_false_or_eq_true (v9 == v10) with h7 | h7
            · replace h := iteT h7 h
              obtain ⟨v11, e11, h⟩ := bindE h
              obtain ⟨v12, e12, h⟩ := bindE h
              refine At.adv [] [(3, { told := [(0, { ans := .val (.bool v0), args := [] }), (3, { ans := .val (.bool v1), args := [.str x0] }), (5, { ans := .val (.bool v2), args := [.str x0] }), (7, { ans := .yes }), (10, { ans := .val (.bool v3), args := [.str x0] }), (12, { ans := .val (.bool v4), args := [.str x0] }), (14, { ans := .yes }), (17, { ans := .val (.str v5), args := [.str x0] }), (19, { ans := .val (.str v6), args := [.str x0] }), (21, { ans := .yes }), (24, { ans := .val (.str v7), args := [.str x0] }), (26, { ans := .val (.str v8), args := [.str x0] }), (28, { ans := .yes }), (32, { ans := .val (.str v9), args := [.str x0, .str x1] }), (35, { ans := .val (.str v10), args := [.str x0, .str x1] }), (37, { ans := .yes }), (41, { ans := .val (.bool v11), args := [.str x0, .str x1] }), (44, { ans := .val (.bool v12), args := [.str x0, .str x1] }), (46, { ans := .yes })], gs := [(2, true), (3, true), (4, true), (5, true), (6, true), (9, true), (10, true), (11, true), (12, true), (13, true), (16, true), (17, true), (18, true), (19, true), (20, true), (23, true), (24, true), (25, true), (26, true), (27, true), (30, true), (31, true), (32, true), (33, true), (34, true), (35, true), (36, true), (39, true), (40, true), (41, true), (42, true), (43, true), (44, true), (45, true)], keep := some ([4], []) })] 400 (ev := .ret) (σ' := mkS 61 [(4, .bool (v11 == v12))] []) (q := [True ∧ (True ∧ ([] : List D) = [] ∧ CallAny Try.prog 7 [] (.bool v0)), (v0 == true) = true ∧ True, (v0 == true) = true ∧ ((True ∧ True) ∧ ([.str x0] : List D) = [.str x0] ∧ CallAny Try.prog 8 [.str x0] (.bool v1)), (v0 == true) = true ∧ True, (v0 == true) = true ∧ ((True ∧ True) ∧ ([.str x0] : List D) = [.str x0] ∧ CallAny Try.prog 9 [.str x0] (.bool v2)), (v0 == true) = true ∧ True, True ∧ (v0 = true), ((v1 == v2) == true) = true ∧ True, ((v1 == v2) == true) = true ∧ ((True ∧ True) ∧ ([.str x0] : List D) = [.str x0] ∧ CallAny Try.prog 10 [.str x0] (.bool v3)), ((v1 == v2) == true) = true ∧ True, ((v1 == v2) == true) = true ∧ ((True ∧ True) ∧ ([.str x0] : List D) = [.str x0] ∧ CallAny Try.prog 11 [.str x0] (.bool v4)), ((v1 == v2) == true) = true ∧ True, True ∧ ((v1 == v2) = true), ((v3 == v4) == true) = true ∧ True, ((v3 == v4) == true) = true ∧ ((True ∧ True) ∧ ([.str x0] : List D) = [.str x0] ∧ CallAny Try.prog 12 [.str x0] (.str v5)), ((v3 == v4) == true) = true ∧ True, ((v3 == v4) == true) = true ∧ ((True ∧ True) ∧ ([.str x0] : List D) = [.str x0] ∧ CallAny Try.prog 13 [.str x0] (.str v6)), ((v3 == v4) == true) = true ∧ True, True ∧ ((v3 == v4) = true), ((v5 == v6) == true) = true ∧ True, ((v5 == v6) == true) = true ∧ ((True ∧ True) ∧ ([.str x0] : List D) = [.str x0] ∧ CallAny Try.prog 14 [.str x0] (.str v7)), ((v5 == v6) == true) = true ∧ True, ((v5 == v6) == true) = true ∧ ((True ∧ True) ∧ ([.str x0] : List D) = [.str x0] ∧ CallAny Try.prog 15 [.str x0] (.str v8)), ((v5 == v6) == true) = true ∧ True, True ∧ ((v5 == v6) = true), ((v7 == v8) == true) = true ∧ True, ((v7 == v8) == true) = true ∧ True, ((v7 == v8) == true) = true ∧ ((True ∧ (True ∧ True)) ∧ ([.str x0, .str x1] : List D) = [.str x0, .str x1] ∧ CallAny Try.prog 16 [.str x0, .str x1] (.str v9)), ((v7 == v8) == true) = true ∧ True, ((v7 == v8) == true) = true ∧ True, ((v7 == v8) == true) = true ∧ ((True ∧ (True ∧ True)) ∧ ([.str x0, .str x1] : List D) = [.str x0, .str x1] ∧ CallAny Try.prog 17 [.str x0, .str x1] (.str v10)), ((v7 == v8) == true) = true ∧ True, True ∧ ((v7 == v8) = true), ((v9 == v10) == true) = true ∧ True, ((v9 == v10) == true) = true ∧ True, ((v9 == v10) == true) = true ∧ ((True ∧ (True ∧ True)) ∧ ([.str x0, .str x1] : List D) = [.str x0, .str x1] ∧ CallAny Try.prog 18 [.str x0, .str x1] (.bool v11)), ((v9 == v10) == true) = true ∧ True, ((v9 == v10) == true) = true ∧ True, ((v9 == v10) == true) = true ∧ ((True ∧ (True ∧ True)) ∧ ([.str x0, .str x1] : List D) = [.str x0, .str x1] ∧ CallAny Try.prog 19 [.str x0, .str x1] (.bool v12)), ((v9 == v10) == true) = true ∧ True, True ∧ ((v9 == v10) = true)]) (by kernel_rfl) ⟨⟨trivial, ⟨trivial, rfl, .inl (w7 e0)⟩⟩, ⟨(gB h2 rfl), trivial⟩, ⟨(gB h2 rfl), ⟨⟨trivial, trivial⟩, rfl, .inl (w8 e1)⟩⟩, ⟨(gB h2 rfl), trivial⟩, ⟨(gB h2 rfl), ⟨⟨trivial, trivial⟩, rfl, .inl (w9 e2)⟩⟩, ⟨(gB h2 rfl), trivial⟩, ⟨trivial, h2⟩, ⟨(gB h3 rfl), trivial⟩, ⟨(gB h3 rfl), ⟨⟨trivial, trivial⟩, rfl, .inl (w10 e3)⟩⟩, ⟨(gB h3 rfl), trivial⟩, ⟨(gB h3 rfl), ⟨⟨trivial, trivial⟩, rfl, .inl (w11 e4)⟩⟩, ⟨(gB h3 rfl), trivial⟩, ⟨trivial, h3⟩, ⟨(gB h4 rfl), trivial⟩, ⟨(gB h4 rfl), ⟨⟨trivial, trivial⟩, rfl, .inl (w12 e5)⟩⟩, ⟨(gB h4 rfl), trivial⟩, ⟨(gB h4 rfl), ⟨⟨trivial, trivial⟩, rfl, .inl (w13 e6)⟩⟩, ⟨(gB h4 rfl), trivial⟩, ⟨trivial, h4⟩, ⟨(gB h5 rfl), trivial⟩, ⟨(gB h5 rfl), ⟨⟨trivial, trivial⟩, rfl, .inl (w14 e7)⟩⟩, ⟨(gB h5 rfl), trivial⟩, ⟨(gB h5 rfl), ⟨⟨trivial, trivial⟩, rfl, .inl (w15 e8)⟩⟩, ⟨(gB h5 rfl), trivial⟩, ⟨trivial, h5⟩, ⟨(gB h6 rfl), trivial⟩, ⟨(gB h6 rfl), trivial⟩, ⟨(gB h6 rfl), ⟨⟨trivial, ⟨trivial, trivial⟩⟩, rfl, .inl (w16 e9)⟩⟩, ⟨(gB h6 rfl), trivial⟩, ⟨(gB h6 rfl), trivial⟩, ⟨(gB h6 rfl), ⟨⟨trivial, ⟨trivial, trivial⟩⟩, rfl, .inl (w17 e10)⟩⟩, ⟨(gB h6 rfl), trivial⟩, ⟨trivial, h6⟩, ⟨(gB h7 rfl), trivial⟩, ⟨(gB h7 rfl), trivial⟩, ⟨(gB h7 rfl), ⟨⟨trivial, ⟨trivial, trivial⟩⟩, rfl, .inl (w18 e11)⟩⟩, ⟨(gB h7 rfl), trivial⟩, ⟨(gB h7 rfl), trivial⟩, ⟨(gB h7 rfl), ⟨⟨trivial, ⟨trivial, trivial⟩⟩, rfl, .inl (w19 e12)⟩⟩, ⟨(gB h7 rfl), trivial⟩, ⟨trivial, h7⟩, trivial⟩ ?_
              refine EvOk.ret ?_
              obtain rfl := someE h
              exact Den.Ends.mk (.inl rfl) (d := .bool (v11 == v12)) (p := (True ∧ True) ∧ (True ∧ True)) (by kernel_rfl) ⟨⟨trivial, trivial⟩, ⟨trivial, trivial⟩⟩ (by kernel_rfl)
            · replace h := iteF h7 h
              refine At.adv [] [(3, { told := [(0, { ans := .val (.bool v0), args := [] }), (3, { ans := .val (.bool v1), args := [.str x0] }), (5, { ans := .val (.bool v2), args := [.str x0] }), (7, { ans := .yes }), (10, { ans := .val (.bool v3), args := [.str x0] }), (12, { ans := .val (.bool v4), args := [.str x0] }), (14, { ans := .yes }), (17, { ans := .val (.str v5), args := [.str x0] }), (19, { ans := .val (.str v6), args := [.str x0] }), (21, { ans := .yes }), (24, { ans := .val (.str v7), args := [.str x0] }), (26, { ans := .val (.str v8), args := [.str x0] }), (28, { ans := .yes }), (32, { ans := .val (.str v9), args := [.str x0, .str x1] }), (35, { ans := .val (.str v10), args := [.str x0, .str x1] }), (37, { ans := .yes }), (46, { ans := .no })], gs := [(2, true), (3, true), (4, true), (5, true), (6, true), (9, true), (10, true), (11, true), (12, true), (13, true), (16, true), (17, true), (18, true), (19, true), (20, true), (23, true), (24, true), (25, true), (26, true), (27, true), (30, true), (31, true), (32, true), (33, true), (34, true), (35, true), (36, true), (39, false), (40, false), (41, false), (42, false), (43, false), (44, false), (45, false)], keep := some ([4], []) })] 400 (ev := .ret) (σ' := mkS 61 [(4, .bool false)] []) (q := [True ∧ (True ∧ ([] : List D) = [] ∧ CallAny Try.prog 7 [] (.bool v0)), (v0 == true) = true ∧ True, (v0 == true) = true ∧ ((True ∧ True) ∧ ([.str x0] : List D) = [.str x0] ∧ CallAny Try.prog 8 [.str x0] (.bool v1)), (v0 == true) = true ∧ True, (v0 == true) = true ∧ ((True ∧ True) ∧ ([.str x0] : List D) = [.str x0] ∧ CallAny Try.prog 9 [.str x0] (.bool v2)), (v0 == true) = true ∧ True, True ∧ (v0 = true), ((v1 == v2) == true) = true ∧ True, ((v1 == v2) == true) = true ∧ ((True ∧ True) ∧ ([.str x0] : List D) = [.str x0] ∧ CallAny Try.prog 10 [.str x0] (.bool v3)), ((v1 == v2) == true) = true ∧ True, ((v1 == v2) == true) = true ∧ ((True ∧ True) ∧ ([.str x0] : List D) = [.str x0] ∧ CallAny Try.prog 11 [.str x0] (.bool v4)), ((v1 == v2) == true) = true ∧ True, True ∧ ((v1 == v2) = true), ((v3 == v4) == true) = true ∧ True, ((v3 == v4) == true) = true ∧ ((True ∧ True) ∧ ([.str x0] : List D) = [.str x0] ∧ CallAny Try.prog 12 [.str x0] (.str v5)), ((v3 == v4) == true) = true ∧ True, ((v3 == v4) == true) = true ∧ ((True ∧ True) ∧ ([.str x0] : List D) = [.str x0] ∧ CallAny Try.prog 13 [.str x0] (.str v6)), ((v3 == v4) == true) = true ∧ True, True ∧ ((v3 == v4) = true), ((v5 == v6) == true) = true ∧ True, ((v5 == v6) == true) = true ∧ ((True ∧ True) ∧ ([.str x0] : List D) = [.str x0] ∧ CallAny Try.prog 14 [.str x0] (.str v7)), ((v5 == v6) == true) = true ∧ True, ((v5 == v6) == true) = true ∧ ((True ∧ True) ∧ ([.str x0] : List D) = [.str x0] ∧ CallAny Try.prog 15 [.str x0] (.str v8)), ((v5 == v6) == true) = true ∧ True, True ∧ ((v5 == v6) = true), ((v7 == v8) == true) = true ∧ True, ((v7 == v8) == true) = true ∧ True, ((v7 == v8) == true) = true ∧ ((True ∧ (True ∧ True)) ∧ ([.str x0, .str x1] : List D) = [.str x0, .str x1] ∧ CallAny Try.prog 16 [.str x0, .str x1] (.str v9)), ((v7 == v8) == true) = true ∧ True, ((v7 == v8) == true) = true ∧ True, ((v7 == v8) == true) = true ∧ ((True ∧ (True ∧ True)) ∧ ([.str x0, .str x1] : List D) = [.str x0, .str x1] ∧ CallAny Try.prog 17 [.str x0, .str x1] (.str v10)), ((v7 == v8) == true) = true ∧ True, True ∧ ((v7 == v8) = true), ((v9 == v10) == true) = false, ((v9 == v10) == true) = false, ((v9 == v10) == true) = false, ((v9 == v10) == true) = false, ((v9 == v10) == true) = false, ((v9 == v10) == true) = false, ((v9 == v10) == true) = false, True ∧ ((v9 == v10) = false)]) (by kernel_rfl) ⟨⟨trivial, ⟨trivial, rfl, .inl (w7 e0)⟩⟩, ⟨(gB h2 rfl), trivial⟩, ⟨(gB h2 rfl), ⟨⟨trivial, trivial⟩, rfl, .inl (w8 e1)⟩⟩, ⟨(gB h2 rfl), trivial⟩, ⟨(gB h2 rfl), ⟨⟨trivial, trivial⟩, rfl, .inl (w9 e2)⟩⟩, ⟨(gB h2 rfl), trivial⟩, ⟨trivial, h2⟩, ⟨(gB h3 rfl), trivial⟩, ⟨(gB h3 rfl), ⟨⟨trivial, trivial⟩, rfl, .inl (w10 e3)⟩⟩, ⟨(gB h3 rfl), trivial⟩, ⟨(gB h3 rfl), ⟨⟨trivial, trivial⟩, rfl, .inl (w11 e4)⟩⟩, ⟨(gB h3 rfl), trivial⟩, ⟨trivial, h3⟩, ⟨(gB h4 rfl), trivial⟩, ⟨(gB h4 rfl), ⟨⟨trivial, trivial⟩, rfl, .inl (w12 e5)⟩⟩, ⟨(gB h4 rfl), trivial⟩, ⟨(gB h4 rfl), ⟨⟨trivial, trivial⟩, rfl, .inl (w13 e6)⟩⟩, ⟨(gB h4 rfl), trivial⟩, ⟨trivial, h4⟩, ⟨(gB h5 rfl), trivial⟩, ⟨(gB h5 rfl), ⟨⟨trivial, trivial⟩, rfl, .inl (w14 e7)⟩⟩, ⟨(gB h5 rfl), trivial⟩, ⟨(gB h5 rfl), ⟨⟨trivial, trivial⟩, rfl, .inl (w15 e8)⟩⟩, ⟨(gB h5 rfl), trivial⟩, ⟨trivial, h5⟩, ⟨(gB h6 rfl), trivial⟩, ⟨(gB h6 rfl), trivial⟩, ⟨(gB h6 rfl), ⟨⟨trivial, ⟨trivial, trivial⟩⟩, rfl, .inl (w16 e9)⟩⟩, ⟨(gB h6 rfl), trivial⟩, ⟨(gB h6 rfl), trivial⟩, ⟨(gB h6 rfl), ⟨⟨trivial, ⟨trivial, trivial⟩⟩, rfl, .inl (w17 e10)⟩⟩, ⟨(gB h6 rfl), trivial⟩, ⟨trivial, h6⟩, gB h7 rfl, gB h7 rfl, gB h7 rfl, gB h7 rfl, gB h7 rfl, gB h7 rfl, gB h7 rfl, ⟨trivial, h7⟩, trivial⟩ ?_
              refine EvOk.ret ?_
              obtain rfl := someE h
              exact Den.Ends.mk (.inl rfl) (d := .bool false) (p := (True ∧ True) ∧ (True ∧ True)) (by kernel_rfl) ⟨⟨trivial, trivial⟩, ⟨trivial, trivial⟩⟩ (by kernel_rfl)
          · replace h := iteF h6 h
            refine At.adv [] [(3, { told := [(0, { ans := .val (.bool v0), args := [] }), (3, { ans := .val (.bool v1), args := [.str x0] }), (5, { ans := .val (.bool v2), args := [.str x0] }), (7, { ans := .yes }), (10, { ans := .val (.bool v3), args := [.str x0] }), (12, { ans := .val (.bool v4), args := [.str x0] }), (14, { ans := .yes }), (17, { ans := .val (.str v5), args := [.str x0] }), (19, { ans := .val (.str v6), args := [.str x0] }), (21, { ans := .yes }), (24, { ans := .val (.str v7), args := [.str x0] }), (26, { ans := .val (.str v8), args := [.str x0] }), (28, { ans := .yes }), (37, { ans := .no })], gs := [(2, true), (3, true), (4, true), (5, true), (6, true), (9, true), (10, true), (11, true), (12, true), (13, true), (16, true), (17, true), (18, true), (19, true), (20, true), (23, true), (24, true), (25, true), (26, true), (27, true), (30, false), (31, false), (32, false), (33, false), (34, false), (35, false), (36, false)], keep := some ([4], []) })] 400 (ev := .ret) (σ' := mkS 61 [(4, .bool false)] []) (q := [True ∧ (True ∧ ([] : List D) = [] ∧ CallAny Try.prog 7 [] (.bool v0)), (v0 == true) = true ∧ True, (v0 == true) = true ∧ ((True ∧ True) ∧ ([.str x0] : List D) = [.str x0] ∧ CallAny Try.prog 8 [.str x0] (.bool v1)), (v0 == true) = true ∧ True, (v0 == true) = true ∧ ((True ∧ True) ∧ ([.str x0] : List D) = [.str x0] ∧ CallAny Try.prog 9 [.str x0] (.bool v2)), (v0 == true) = true ∧ True, True ∧ (v0 = true), ((v1 == v2) == true) = true ∧ True, ((v1 == v2) == true) = true ∧ ((True ∧ True) ∧ ([.str x0] : List D) = [.str x0] ∧ CallAny Try.prog 10 [.str x0] (.bool v3)), ((v1 == v2) == true) = true ∧ True, ((v1 == v2) == true) = true ∧ ((True ∧ True) ∧ ([.str x0] : List D) = [.str x0] ∧ CallAny Try.prog 11 [.str x0] (.bool v4)), ((v1 == v2) == true) = true ∧ True, True ∧ ((v1 == v2) = true), ((v3 == v4) == true) = true ∧ True, ((v3 == v4) == true) = true ∧ ((True ∧ True) ∧ ([.str x0] : List D) = [.str x0] ∧ CallAny Try.prog 12 [.str x0] (.str v5)), ((v3 == v4) == true) = true ∧ True, ((v3 == v4) == true) = true ∧ ((True ∧ True) ∧ ([.str x0] : List D) = [.str x0] ∧ CallAny Try.prog 13 [.str x0] (.str v6)), ((v3 == v4) == true) = true ∧ True, True ∧ ((v3 == v4) = true), ((v5 == v6) == true) = true ∧ True, ((v5 == v6) == true) = true ∧ ((True ∧ True) ∧ ([.str x0] : List D) = [.str x0] ∧ CallAny Try.prog 14 [.str x0] (.str v7)), ((v5 == v6) == true) = true ∧ True, ((v5 == v6) == true) = true ∧ ((True ∧ True) ∧ ([.str x0] : List D) = [.str x0] ∧ CallAny Try.prog 15 [.str x0] (.str v8)), ((v5 == v6) == true) = true ∧ True, True ∧ ((v5 == v6) = true), ((v7 == v8) == true) = false, ((v7 == v8) == true) = false, ((v7 == v8) == true) = false, ((v7 == v8) == true) = false, ((v7 == v8) == true) = false, ((v7 == v8) == true) = false, ((v7 == v8) == true) = false, True ∧ ((v7 == v8) = false), True, True, True, True, True, True, True]) (by kernel_rfl) ⟨⟨trivial, ⟨trivial, rfl, .inl (w7 e0)⟩⟩, ⟨(gB h2 rfl), trivial⟩, ⟨(gB h2 rfl), ⟨⟨trivial, trivial⟩, rfl, .inl (w8 e1)⟩⟩, ⟨(gB h2 rfl), trivial⟩, ⟨(gB h2 rfl), ⟨⟨trivial, trivial⟩, rfl, .inl (w9 e2)⟩⟩, ⟨(gB h2 rfl), trivial⟩, ⟨trivial, h2⟩, ⟨(gB h3 rfl), trivial⟩, ⟨(gB h3 rfl), ⟨⟨trivial, trivial⟩, rfl, .inl (w10 e3)⟩⟩, ⟨(gB h3 rfl), trivial⟩, ⟨(gB h3 rfl), ⟨⟨trivial, trivial⟩, rfl, .inl (w11 e4)⟩⟩, ⟨(gB h3 rfl), trivial⟩, ⟨trivial, h3⟩, ⟨(gB h4 rfl), trivial⟩, ⟨(gB h4 rfl), ⟨⟨trivial, trivial⟩, rfl, .inl (w12 e5)⟩⟩, ⟨(gB h4 rfl), trivial⟩, ⟨(gB h4 rfl), ⟨⟨trivial, trivial⟩, rfl, .inl (w13 e6)⟩⟩, ⟨(gB h4 rfl), trivial⟩, ⟨trivial, h4⟩, ⟨(gB h5 rfl), trivial⟩, ⟨(gB h5 rfl), ⟨⟨trivial, trivial⟩, rfl, .inl (w14 e7)⟩⟩, ⟨(gB h5 rfl), trivial⟩, ⟨(gB h5 rfl), ⟨⟨trivial, trivial⟩, rfl, .inl (w15 e8)⟩⟩, ⟨(gB h5 rfl), trivial⟩, ⟨trivial, h5⟩, gB h6 rfl, gB h6 rfl, gB h6 rfl, gB h6 rfl, gB h6 rfl, gB h6 rfl, gB h6 rfl, ⟨trivial, h6⟩, trivial, trivial, trivial, trivial, trivial, trivial, trivial, trivial⟩ ?_
            refine EvOk.ret ?_
            obtain rfl := someE h
            exact Den.Ends.mk (.inl rfl) (d := .bool false) (p := (True ∧ True) ∧ (True ∧ True)) (by kernel_rfl) ⟨⟨trivial, trivial⟩, ⟨trivial, trivial⟩⟩ (by kernel_rfl)
        · replace h := iteF h5 h
          refine At.adv [] [(3, { told := [(0, { ans := .val (.bool v0), args := [] }), (3, { ans := .val (.bool v1), args := [.str x0] }), (5, { ans := .val (.bool v2), args := [.str x0] }), (7, { ans := .yes }), (10, { ans := .val (.bool v3), args := [.str x0] }), (12, { ans := .val (.bool v4), args := [.str x0] }), (14, { ans := .yes }), (17, { ans := .val (.str v5), args := [.str x0] }), (19, { ans := .val (.str v6), args := [.str x0] }), (21, { ans := .yes }), (28, { ans := .no })], gs := [(2, true), (3, true), (4, true), (5, true), (6, true), (9, true), (10, true), (11, true), (12, true), (13, true), (16, true), (17, true), (18, true), (19, true), (20, true), (23, false), (24, false), (25, false), (26, false), (27, false)], keep := some ([4], []) })] 400 (ev := .ret) (σ' := mkS 61 [(4, .bool false)] []) (q := [True ∧ (True ∧ ([] : List D) = [] ∧ CallAny Try.prog 7 [] (.bool v0)), (v0 == true) = true ∧ True, (v0 == true) = true ∧ ((True ∧ True) ∧ ([.str x0] : List D) = [.str x0] ∧ CallAny Try.prog 8 [.str x0] (.bool v1)), (v0 == true) = true ∧ True, (v0 == true) = true ∧ ((True ∧ True) ∧ ([.str x0] : List D) = [.str x0] ∧ CallAny Try.prog 9 [.str x0] (.bool v2)), (v0 == true) = true ∧ True, True ∧ (v0 = true), ((v1 == v2) == true) = true ∧ True, ((v1 == v2) == true) = true ∧ ((True ∧ True) ∧ ([.str x0] : List D) = [.str x0] ∧ CallAny Try.prog 10 [.str x0] (.bool v3)), ((v1 == v2) == true) = true ∧ True, ((v1 == v2) == true) = true ∧ ((True ∧ True) ∧ ([.str x0] : List D) = [.str x0] ∧ CallAny Try.prog 11 [.str x0] (.bool v4)), ((v1 == v2) == true) = true ∧ True, True ∧ ((v1 == v2) = true), ((v3 == v4) == true) = true ∧ True, ((v3 == v4) == true) = true ∧ ((True ∧ True) ∧ ([.str x0] : List D) = [.str x0] ∧ CallAny Try.prog 12 [.str x0] (.str v5)), ((v3 == v4) == true) = true ∧ True, ((v3 == v4) == true) = true ∧ ((True ∧ True) ∧ ([.str x0] : List D) = [.str x0] ∧ CallAny Try.prog 13 [.str x0] (.str v6)), ((v3 == v4) == true) = true ∧ True, True ∧ ((v3 == v4) = true), ((v5 == v6) == true) = false, ((v5 == v6) == true) = false, ((v5 == v6) == true) = false, ((v5 == v6) == true) = false, ((v5 == v6) == true) = false, True ∧ ((v5 == v6) = false), True, True, True, True, True, True, True, True, True, True, True, True, True, True]) (by kernel_rfl) ⟨⟨trivial, ⟨trivial, rfl, .inl (w7 e0)⟩⟩, ⟨(gB h2 rfl), trivial⟩, ⟨(gB h2 rfl), ⟨⟨trivial, trivial⟩, rfl, .inl (w8 e1)⟩⟩, ⟨(gB h2 rfl), trivial⟩, ⟨(gB h2 rfl), ⟨⟨trivial, trivial⟩, rfl, .inl (w9 e2)⟩⟩, ⟨(gB h2 rfl), trivial⟩, ⟨trivial, h2⟩, ⟨(gB h3 rfl), trivial⟩, ⟨(gB h3 rfl), ⟨⟨trivial, trivial⟩, rfl, .inl (w10 e3)⟩⟩, ⟨(gB h3 rfl), trivial⟩, ⟨(gB h3 rfl), ⟨⟨trivial, trivial⟩, rfl, .inl (w11 e4)⟩⟩, ⟨(gB h3 rfl), trivial⟩, ⟨trivial, h3⟩, ⟨(gB h4 rfl), trivial⟩, ⟨(gB h4 rfl), ⟨⟨trivial, trivial⟩, rfl, .inl (w12 e5)⟩⟩, ⟨(gB h4 rfl), trivial⟩, ⟨(gB h4 rfl), ⟨⟨trivial, trivial⟩, rfl, .inl (w13 e6)⟩⟩, ⟨(gB h4 rfl), trivial⟩, ⟨trivial, h4⟩, gB h5 rfl, gB h5 rfl, gB h5 rfl, gB h5 rfl, gB h5 rfl, ⟨trivial, h5⟩, trivial, trivial, trivial, trivial, trivial, trivial, trivial, trivial, trivial, trivial, trivial, trivial, trivial, trivial, trivial⟩ ?_
          refine EvOk.ret ?_
          obtain rfl := someE h
          exact Den.Ends.mk (.inl rfl) (d := .bool false) (p := (True ∧ True) ∧ (True ∧ True)) (by kernel_rfl) ⟨⟨trivial, trivial⟩, ⟨trivial, trivial⟩⟩ (by kernel_rfl)
      · replace h := iteF h4 h
        refine At.adv [] [(3, { told := [(0, { ans := .val (.bool v0), args := [] }), (3, { ans := .val (.bool v1), args := [.str x0] }), (5, { ans := .val (.bool v2), args := [.str x0] }), (7, { ans := .yes }), (10, { ans := .val (.bool v3), args := [.str x0] }), (12, { ans := .val (.bool v4), args := [.str x0] }), (14, { ans := .yes }), (21, { ans := .no })], gs := [(2, true), (3, true), (4, true), (5, true), (6, true), (9, true), (10, true), (11, true), (12, true), (13, true), (16, false), (17, false), (18, false), (19, false), (20, false)], keep := some ([4], []) })] 400 (ev := .ret) (σ' := mkS 61 [(4, .bool false)] []) (q := [True ∧ (True ∧ ([] : List D) = [] ∧ CallAny Try.prog 7 [] (.bool v0)), (v0 == true) = true ∧ True, (v0 == true) = true ∧ ((True ∧ True) ∧ ([.str x0] : List D) = [.str x0] ∧ CallAny Try.prog 8 [.str x0] (.bool v1)), (v0 == true) = true ∧ True, (v0 == true) = true ∧ ((True ∧ True) ∧ ([.str x0] : List D) = [.str x0] ∧ CallAny Try.prog 9 [.str x0] (.bool v2)), (v0 == true) = true ∧ True, True ∧ (v0 = true), ((v1 == v2) == true) = true ∧ True, ((v1 == v2) == true) = true ∧ ((True ∧ True) ∧ ([.str x0] : List D) = [.str x0] ∧ CallAny Try.prog 10 [.str x0] (.bool v3)), ((v1 == v2) == true) = true ∧ True, ((v1 == v2) == true) = true ∧ ((True ∧ True) ∧ ([.str x0] : List D) = [.str x0] ∧ CallAny Try.prog 11 [.str x0] (.bool v4)), ((v1 == v2) == true) = true ∧ True, True ∧ ((v1 == v2) = true), ((v3 == v4) == true) = false, ((v3 == v4) == true) = false, ((v3 == v4) == true) = false, ((v3 == v4) == true) = false, ((v3 == v4) == true) = false, True ∧ ((v3 == v4) = false), True, True, True, True, True, True, True, True, True, True, True, True, True, True, True, True, True, True, True]) (by kernel_rfl) ⟨⟨trivial, ⟨trivial, rfl, .inl (w7 e0)⟩⟩, ⟨(gB h2 rfl), trivial⟩, ⟨(gB h2 rfl), ⟨⟨trivial, trivial⟩, rfl, .inl (w8 e1)⟩⟩, ⟨(gB h2 rfl), trivial⟩, ⟨(gB h2 rfl), ⟨⟨trivial, trivial⟩, rfl, .inl (w9 e2)⟩⟩, ⟨(gB h2 rfl), trivial⟩, ⟨trivial, h2⟩, ⟨(gB h3 rfl), trivial⟩, ⟨(gB h3 rfl), ⟨⟨trivial, trivial⟩, rfl, .inl (w10 e3)⟩⟩, ⟨(gB h3 rfl), trivial⟩, ⟨(gB h3 rfl), ⟨⟨trivial, trivial⟩, rfl, .inl (w11 e4)⟩⟩, ⟨(gB h3 rfl), trivial⟩, ⟨trivial, h3⟩, gB h4 rfl, gB h4 rfl, gB h4 rfl, gB h4 rfl, gB h4 rfl, ⟨trivial, h4⟩, trivial, trivial, trivial, trivial, trivial, trivial, trivial, trivial, trivial, trivial, trivial, trivial, trivial, trivial, trivial, trivial, trivial, trivial, trivial, trivial⟩ ?_
        refine EvOk.ret ?_
        obtain rfl := someE h
        exact Den.Ends.mk (.inl rfl) (d := .bool false) (p := (True ∧ True) ∧ (True ∧ True)) (by kernel_rfl) ⟨⟨trivial, trivial⟩, ⟨trivial, trivial⟩⟩ (by kernel_rfl)
    · replace h := iteF h3 h
      refine At.adv [] [(3, { told := [(0, { ans := .val (.bool v0), args := [] }), (3, { ans := .val (.bool v1), args := [.str x0] }), (5, { ans := .val (.bool v2), args := [.str x0] }), (7, { ans := .yes }), (14, { ans := .no })], gs := [(2, true), (3, true), (4, true), (5, true), (6, true), (9, false), (10, false), (11, false), (12, false), (13, false)], keep := some ([4], []) })] 400 (ev := .ret) (σ' := mkS 61 [(4, .bool false)] []) (q := [True ∧ (True ∧ ([] : List D) = [] ∧ CallAny Try.prog 7 [] (.bool v0)), (v0 == true) = true ∧ True, (v0 == true) = true ∧ ((True ∧ True) ∧ ([.str x0] : List D) = [.str x0] ∧ CallAny Try.prog 8 [.str x0] (.bool v1)), (v0 == true) = true ∧ True, (v0 == true) = true ∧ ((True ∧ True) ∧ ([.str x0] : List D) = [.str x0] ∧ CallAny Try.prog 9 [.str x0] (.bool v2)), (v0 == true) = true ∧ True, True ∧ (v0 = true), ((v1 == v2) == true) = false, ((v1 == v2) == true) = false, ((v1 == v2) == true) = false, ((v1 == v2) == true) = false, ((v1 == v2) == true) = false, True ∧ ((v1 == v2) = false), True, True, True, True, True, True, True, True, True, True, True, True, True, True, True, True, True, True, True, True, True, True, True, True]) (by kernel_rfl) ⟨⟨trivial, ⟨trivial, rfl, .inl (w7 e0)⟩⟩, ⟨(gB h2 rfl), trivial⟩, ⟨(gB h2 rfl), ⟨⟨trivial, trivial⟩, rfl, .inl (w8 e1)⟩⟩, ⟨(gB h2 rfl), trivial⟩, ⟨(gB h2 rfl), ⟨⟨trivial, trivial⟩, rfl, .inl (w9 e2)⟩⟩, ⟨(gB h2 rfl), trivial⟩, ⟨trivial, h2⟩, gB h3 rfl, gB h3 rfl, gB h3 rfl, gB h3 rfl, gB h3 rfl, ⟨trivial, h3⟩, trivial, trivial, trivial, trivial, trivial, trivial, trivial, trivial, trivial, trivial, trivial, trivial, trivial, trivial, trivial, trivial, trivial, trivial, trivial, trivial, trivial, trivial, trivial, trivial, trivial⟩ ?_
      refine EvOk.ret ?_
      obtain rfl := someE h
      exact Den.Ends.mk (.inl rfl) (d := .bool false) (p := (True ∧ True) ∧ (True ∧ True)) (by kernel_rfl) ⟨⟨trivial, trivial⟩, ⟨trivial, trivial⟩⟩ (by kernel_rfl)
  · replace h := iteF h2 h
    refine At.adv [] [(3, { told := [(0, { ans := .val (.bool v0), args := [] }), (7, { ans := .no })], gs := [(2, false), (3, false), (4, false), (5, false), (6, false)], keep := some ([4], []) })] 400 (ev := .ret) (σ' := mkS 61 [(4, .bool false)] []) (q := [True ∧ (True ∧ ([] : List D) = [] ∧ CallAny Try.prog 7 [] (.bool v0)), (v0 == true) = false, (v0 == true) = false, (v0 == true) = false, (v0 == true) = false, (v0 == true) = false, True ∧ (v0 = false), True, True, True, True, True, True, True, True, True, True, True, True, True, True, True, True, True, True, True, True, True, True, True, True, True, True, True, True, True]) (by kernel_rfl) ⟨⟨trivial, ⟨trivial, rfl, .inl (w7 e0)⟩⟩, gB h2 rfl, gB h2 rfl, gB h2 rfl, gB h2 rfl, gB h2 rfl, ⟨trivial, h2⟩, trivial, trivial, trivial, trivial, trivial, trivial, trivial, trivial, trivial, trivial, trivial, trivial, trivial, trivial, trivial, trivial, trivial, trivial, trivial, trivial, trivial, trivial, trivial, trivial, trivial, trivial, trivial, trivial, trivial, trivial⟩ ?_
    refine EvOk.ret ?_
    obtain rfl := someE h
    exact Den.Ends.mk (.inl rfl) (d := .bool false) (p := (True ∧ True) ∧ (True ∧ True)) (by kernel_rfl) ⟨⟨trivial, trivial⟩, ⟨trivial, trivial⟩⟩ (by kernel_rfl)
theorem we3 (x0 : List UInt8) (x1 : List UInt8) (r : Bool) (h : m_armaturelaw03_NameValidity x0 x1 = some r) (Γ : Ctx) : At Try.prog Γ b3 [] (Den.Ends Try.prog Try.f3 (.bool r)) (mkS 61 [(0, .str x0), (1, .str x1)] []) := by
  rcases Bool.eq_false_or_eq_true (decide ((x0.length : Int) > 2000)) with h0 | h0
  · replace h := iteT h0 h
    refine At.adv [] [(0, { told := [], gs := [], keep := some ([0, 1], []) }), (1, { told := [(7, { ans := .yes })], gs := [(4, false), (5, false), (6, false)], keep := some ([0, 1, 12], []) })] 400 (ev := .cond true c3x3 c3x7 [.seq c3x6]) (σ' := mkS 61 [(0, .str x0), (1, .str x1), (12, .bool true)] []) (q := [((decide ((x0.length : Int) > 2000)) == false) = false, ((decide ((x0.length : Int) > 2000)) == false) = false, ((decide ((x0.length : Int) > 2000)) == false) = false, True ∧ ((decide ((x0.length : Int) > 2000)) = true)]) (by kernel_rfl) ⟨gB h0 rfl, gB h0 rfl, gB h0 rfl, ⟨trivial, h0⟩, trivial⟩ ?_
    refine EvOk.cond (fun _ => ?_) (fun hb => Bool.noConfusion hb)
    refine At.gc [] [] (n := 61) (l := []) (bl := []) (by kernel_rfl) ?_
    refine At.adv [2] [] 400 (ev := .stop c3x4 [.seq c3x5, .seq c3x6]) (σ' := mkS 61 [] []) (q := []) (by kernel_rfl) trivial ?_
    exact wj3x2  r h Γ
  · replace h := iteF h0 h
    refine At.adv [] [(0, { told := [], gs := [], keep := some ([0, 1], []) }), (1, { told := [(7, { ans := .no })], gs := [(4, true), (5, true), (6, true)], keep := some ([0, 1, 12], []) })] 400 (ev := .cond (decide ((x1.length : Int) > 2000)) c3x3 c3x7 [.seq c3x6]) (σ' := mkS 61 [(0, .str x0), (1, .str x1), (12, .bool (decide ((x1.length : Int) > 2000)))] []) (q := [((decide ((x0.length : Int) > 2000)) == false) = true ∧ True, ((decide ((x0.length : Int) > 2000)) == false) = true ∧ True, ((decide ((x0.length : Int) > 2000)) == false) = true ∧ True, True ∧ ((decide ((x0.length : Int) > 2000)) = false)]) (by kernel_rfl) ⟨⟨(gB h0 rfl), trivial⟩, ⟨(gB h0 rfl), trivial⟩, ⟨(gB h0 rfl), trivial⟩, ⟨trivial, h0⟩, trivial⟩ ?_
    refine EvOk.cond (fun h1 => ?_) (fun h1 => ?_)
    · replace h := iteT h1 h
      refine At.gc [] [] (n := 61) (l := []) (bl := []) (by kernel_rfl) ?_
      refine At.adv [2] [] 400 (ev := .stop c3x4 [.seq c3x5, .seq c3x6]) (σ' := mkS 61 [] []) (q := []) (by kernel_rfl) trivial ?_
      exact wj3x2  r h Γ
    · replace h := iteF h1 h
      refine At.gc [0, 1] [] (n := 61) (l := [(0, .str x0), (1, .str x1)]) (bl := []) (by kernel_rfl) ?_
      refine At.adv [3] [] 400 (ev := .stop c3x8 [.seq c3x9]) (σ' := mkS 61 [(0, .str x0), (1, .str x1)] []) (q := []) (by kernel_rfl) trivial ?_
      exact (wj3x1 x0 x1)  r h Γ
theorem w3 {x0 : List UInt8} {x1 : List UInt8} {r : Bool} (h : m_armaturelaw03_NameValidity x0 x1 = some r) : CallSpec Try.prog 3 [.str x0, .str x1] (.bool r) :=
  CallSpec.at2 b3 (n := 61) (l := [(0, .str x0), (1, .str x1)]) (by kernel_rfl) (by kernel_rfl) (by kernel_rfl) (by kernel_rfl) (by kernel_rfl) (Nat.le_of_ble_eq_true (by kernel_rfl)) (fun Γ => we3 x0 x1 r h Γ)

/-! ### armature armaturelaw03.NamePrefix -/
noncomputable def b4 : Code := Try.f4.body.getD .skip
noncomputable def c4x0 : Code := sub1 b4
noncomputable def c4x1 : Code := sub0 c4x0
noncomputable def c4x2 : Code := sub1 c4x1
noncomputable def c4x3 : Code := sub0 c4x2
noncomputable def c4x4 : Code := sub0 c4x3
noncomputable def c4x5 : Code := sub1 c4x3
noncomputable def c4x6 : Code := sub1 c4x0
noncomputable def c4x7 : Code := sub1 c4x2
noncomputable def c4x8 : Code := sub0 c4x6
noncomputable def c4x9 : Code := sub1 c4x6
def j4x2  : Option (Bool) :=
  (m_armaturelaw03_awake).bind fun v13 =>
  some v13
def j4x1 (x0 : List UInt8) (x1 : List UInt8) (x2 : Int) : Option (Bool) :=
  (some (IntKind.wrap .i64 x2)).bind fun v0 =>
  (some (IntKind.wrap .i64 ((x0.length : Int) + (1 : Int)))).bind fun v1 =>
  (modK v0 v1).bind fun v2 =>
  (m_armaturelaw03_awake).bind fun v3 =>
  if v3 = true then ((catK x0 x1).bind fun v4 =>
  (m_name_HasPrefix v4 x0).bind fun v5 =>
  if v5 = true then ((sub x0 0 v2).bind fun v6 =>
  (m_name_HasPrefix x0 v6).bind fun v7 =>
  if v7 = true then ((m_name_HasPrefix x0 []).bind fun v8 =>
  if v8 = true then ((catK x0 x1).bind fun v9 =>
  (m_name_HasPrefix x0 v9).bind fun v10 =>
  if (v10 == (x1 == ([] : List UInt8))) = true then ((m_name_HasPrefix x0 x1).bind fun v11 =>
  (m_strings_HasPrefix x0 x1).bind fun v12 =>
  some (v11 == v12)) else
  (some false)) else
  (some false)) else
  (some false)) else
  (some false)) else
  (some false)
def m_armaturelaw03_NamePrefix (x0 : List UInt8) (x1 : List UInt8) (x2 : Int) : Option (Bool) :=
  if (decide ((x0.length : Int) > 300)) = true then (j4x2 ) else
  (if (decide ((x1.length : Int) > 300)) = true then
    (j4x2 ) else
  ((j4x1 x0 x1 x2) ))
theorem wj4x2  (r : Bool) (h : j4x2  = some r) (Γ : Ctx) : EvOk Try.prog Γ (Den.Ends Try.prog Try.f4 (.bool r)) (mkS 61 [] []) (.stop c4x4 [.seq c4x5, .seq c4x6]) := by
  refine EvOk.stop ?_
  obtain ⟨v13, e13, h⟩ := bindE h
  refine At.adv [] [(2, { told := [(0, { ans := .val (.bool v13), args := [] })], gs := [], keep := some ([6], []) })] 400 (ev := .ret) (σ' := mkS 61 [(6, .bool v13)] []) (q := [True ∧ (True ∧ ([] : List D) = [] ∧ CallAny Try.prog 7 [] (.bool v13))]) (by kernel_rfl) ⟨⟨trivial, ⟨trivial, rfl, .inl (w7 e13)⟩⟩, trivial⟩ ?_
  refine EvOk.ret ?_
  obtain rfl := someE h
  exact Den.Ends.mk (.inl rfl) (d := .bool v13) (p := (True ∧ True) ∧ (True ∧ True)) (by kernel_rfl) ⟨⟨trivial, trivial⟩, ⟨trivial, trivial⟩⟩ (by kernel_rfl)
theorem wj4x1 (x0 : List UInt8) (x1 : List UInt8) (x2 : Int) (r : Bool) (h : (j4x1 x0 x1 x2)  = some r) (Γ : Ctx) : EvOk Try.prog Γ (Den.Ends Try.prog Try.f4 (.bool r)) (mkS 61 [(0, .str x0), (1, .str x1), (2, .int .u8 x2)] []) (.stop c4x8 [.seq c4x9]) := by
  refine EvOk.stop ?_
  obtain ⟨v0, e0, h⟩ := bindE h
  obtain ⟨v1, e1, h⟩ := bindE h
  obtain ⟨v2, e2, h⟩ := bindE h
  obtain ⟨v3, e3, h⟩ := bindE h
  rcases Bool.eq_false_or_eq_true v3 with h2 | h2
  · replace h := iteT h2 h
    obtain ⟨v4, e4, h⟩ := bindE h
    obtain ⟨v5, e5, h⟩ := bindE h
    rcases Bool.eq_false_or_eq_true v5 with h3 | h3
    · replace h := iteT h3 h
      obtain ⟨v6, e6, h⟩ := bindE h
      obtain ⟨v7, e7, h⟩ := bindE h
      rcases Bool.eq_false_or_eq_true v7 with h4 | h4
      · replace h := iteT h4 h
        obtain ⟨v8, e8, h⟩ := bindE h
        rcases Bool.eq_false_or_eq_true v8 with h5 | h5
        · replace h := iteT h5 h
          obtain ⟨v9, e9, h⟩ := bindE h
          obtain ⟨v10, e10, h⟩ := bindE h
          rcases Bool.eq_false_or_eq_true (v10 == (x1 == ([] : List UInt8))) with h6 | h6
          · replace h := iteT h6 h
            obtain ⟨v11, e11, h⟩ := bindE h
            obtain ⟨v12, e12, h⟩ := bindE h
            refine At.adv [] [(3, { told := [(1, { ans := .val (.int .i64 v0) }), (4, { ans := .val (.int .i64 v1) }), (5, { ans := .val (.int .i64 v2) })], gs := [], keep := some ([0, 1, 7], []) }), (4, { told := [(0, { ans := .val (.bool v3), args := [] }), (4, { ans := .val (.str v4) }), (6, { ans := .val (.bool v5), args := [.str v4, .str x0] }), (7, { ans := .yes }), (12, { ans := .val (.str v6) }), (13, { ans := .val (.bool v7), args := [.str x0, .str v6] }), (14, { ans := .yes }), (17, { ans := .val (.bool v8), args := [.str x0, .str []] }), (18, { ans := .yes }), (23, { ans := .val (.str v9) }), (24, { ans := .val (.bool v10), args := [.str x0, .str v9] }), (28, { ans := .yes }), (32, { ans := .val (.bool v11), args := [.str x0, .str x1] }), (35, { ans := .val (.bool v12), args := [.str x0, .str x1] }), (37, { ans := .yes })], gs := [(2, true), (3, true), (4, true), (5, true), (6, true), (9, true), (10, true), (11, true), (12, true), (13, true), (16, true), (17, true), (20, true), (21, true), (22, true), (23, true), (24, true), (25, true), (26, true), (27, true), (30, true), (31, true), (32, true), (33, true), (34, true), (35, true), (36, true)], keep := some ([6], []) })] 400 (ev := .ret) (σ' := mkS 61 [(6, .bool (v11 == v12))] []) (q := [True ∧ (IntKind.wrap .i64 x2 = v0), True ∧ (IntKind.wrap .i64 ((x0.length : Int) + (1 : Int)) = v1), True ∧ (v1 ≠ 0 ∧ Int.tmod v0 v1 = v2), True ∧ (True ∧ ([] : List D) = [] ∧ CallAny Try.prog 7 [] (.bool v3)), (v3 == true) = true ∧ True, (v3 == true) = true ∧ True, (v3 == true) = true ∧ (x0.length + x1.length ≤ 9223372036854775807 ∧ x0 ++ x1 = v4), (v3 == true) = true ∧ True, (v3 == true) = true ∧ ((True ∧ (True ∧ True)) ∧ ([.str v4, .str x0] : List D) = [.str v4, .str x0] ∧ CallAny Try.prog 18 [.str v4, .str x0] (.bool v5)), True ∧ (v3 = true), (v5 == true) = true ∧ True, (v5 == true) = true ∧ True, (v5 == true) = true ∧ True, (v5 == true) = true ∧ (sub x0 0 v2 = some v6), (v5 == true) = true ∧ ((True ∧ (True ∧ True)) ∧ ([.str x0, .str v6] : List D) = [.str x0, .str v6] ∧ CallAny Try.prog 18 [.str x0, .str v6] (.bool v7)), True ∧ (v5 = true), (v7 == true) = true ∧ True, (v7 == true) = true ∧ ((True ∧ (True ∧ True)) ∧ ([.str x0, .str []] : List D) = [.str x0, .str []] ∧ CallAny Try.prog 18 [.str x0, .str []] (.bool v8)), True ∧ (v7 = true), (v8 == true) = true ∧ True, (v8 == true) = true ∧ True, (v8 == true) = true ∧ True, (v8 == true) = true ∧ (x0.length + x1.length ≤ 9223372036854775807 ∧ x0 ++ x1 = v9), (v8 == true) = true ∧ ((True ∧ (True ∧ True)) ∧ ([.str x0, .str v9] : List D) = [.str x0, .str v9] ∧ CallAny Try.prog 18 [.str x0, .str v9] (.bool v10)), (v8 == true) = true ∧ True, (v8 == true) = true ∧ True, (v8 == true) = true ∧ True, True ∧ (v8 = true), ((v10 == (x1 == ([] : List UInt8))) == true) = true ∧ True, ((v10 == (x1 == ([] : List UInt8))) == true) = true ∧ True, ((v10 == (x1 == ([] : List UInt8))) == true) = true ∧ ((True ∧ (True ∧ True)) ∧ ([.str x0, .str x1] : List D) = [.str x0, .str x1] ∧ CallAny Try.prog 18 [.str x0, .str x1] (.bool v11)), ((v10 == (x1 == ([] : List UInt8))) == true) = true ∧ True, ((v10 == (x1 == ([] : List UInt8))) == true) = true ∧ True, ((v10 == (x1 == ([] : List UInt8))) == true) = true ∧ ((True ∧ (True ∧ True)) ∧ ([.str x0, .str x1] : List D) = [.str x0, .str x1] ∧ CallAny Try.prog 20 [.str x0, .str x1] (.bool v12)), ((v10 == (x1 == ([] : List UInt8))) == true) = true ∧ True, True ∧ ((v10 == (x1 == ([] : List UInt8))) = true)]) (by kernel_rfl) ⟨⟨trivial, someE e0⟩, ⟨trivial, someE e1⟩, ⟨trivial, modK_spec e2⟩, ⟨trivial, ⟨trivial, rfl, .inl (w7 e3)⟩⟩, ⟨(gB h2 rfl), trivial⟩, ⟨(gB h2 rfl), trivial⟩, ⟨(gB h2 rfl), catK_spec e4⟩, ⟨(gB h2 rfl), trivial⟩, ⟨(gB h2 rfl), ⟨⟨trivial, ⟨trivial, trivial⟩⟩, rfl, .inl (w18 e5)⟩⟩, ⟨trivial, h2⟩, ⟨(gB h3 rfl), trivial⟩, ⟨(gB h3 rfl), trivial⟩, ⟨(gB h3 rfl), trivial⟩, ⟨(gB h3 rfl), e6⟩, ⟨(gB h3 rfl), ⟨⟨trivial, ⟨trivial, trivial⟩⟩, rfl, .inl (w18 e7)⟩⟩, ⟨trivial, h3⟩, ⟨(gB h4 rfl), trivial⟩, ⟨(gB h4 rfl), ⟨⟨trivial, ⟨trivial, trivial⟩⟩, rfl, .inl (w18 e8)⟩⟩, ⟨trivial, h4⟩, ⟨(gB h5 rfl), trivial⟩, ⟨(gB h5 rfl), trivial⟩, ⟨(gB h5 rfl), trivial⟩, ⟨(gB h5 rfl), catK_spec e9⟩, ⟨(gB h5 rfl), ⟨⟨trivial, ⟨trivial, trivial⟩⟩, rfl, .inl (w18 e10)⟩⟩, ⟨(gB h5 rfl), trivial⟩, ⟨(gB h5 rfl), trivial⟩, ⟨(gB h5 rfl), trivial⟩, ⟨trivial, h5⟩, ⟨(gB h6 rfl), trivial⟩, ⟨(gB h6 rfl), trivial⟩, ⟨(gB h6 rfl), ⟨⟨trivial, ⟨trivial, trivial⟩⟩, rfl, .inl (w18 e11)⟩⟩, ⟨(gB h6 rfl), trivial⟩, ⟨(gB h6 rfl), trivial⟩, ⟨(gB h6 rfl), ⟨⟨trivial, ⟨trivial, trivial⟩⟩, rfl, .inl (w20 e12)⟩⟩, ⟨(gB h6 rfl), trivial⟩, ⟨trivial, h6⟩, trivial⟩ ?_
            refine EvOk.ret ?_
            obtain rfl := someE h
            exact Den.Ends.mk (.inl rfl) (d := .bool (v11 == v12)) (p := (True ∧ True) ∧ (True ∧ True)) (by kernel_rfl) ⟨⟨trivial, trivial⟩, ⟨trivial, trivial⟩⟩ (by kernel_rfl)
          · replace h := iteF h6 h
            refine At.adv [] [(3, { told := [(1, { ans := .val (.int .i64 v0) }), (4, { ans := .val (.int .i64 v1) }), (5, { ans := .val (.int .i64 v2) })], gs := [], keep := some ([0, 1, 7], []) }), (4, { told := [(0, { ans := .val (.bool v3), args := [] }), (4, { ans := .val (.str v4) }), (6, { ans := .val (.bool v5), args := [.str v4, .str x0] }), (7, { ans := .yes }), (12, { ans := .val (.str v6) }), (13, { ans := .val (.bool v7), args := [.str x0, .str v6] }), (14, { ans := .yes }), (17, { ans := .val (.bool v8), args := [.str x0, .str []] }), (18, { ans := .yes }), (23, { ans := .val (.str v9) }), (24, { ans := .val (.bool v10), args := [.str x0, .str v9] }), (28, { ans := .yes }), (37, { ans := .no })], gs := [(2, true), (3, true), (4, true), (5, true), (6, true), (9, true), (10, true), (11, true), (12, true), (13, true), (16, true), (17, true), (20, true), (21, true), (22, true), (23, true), (24, true), (25, true), (26, true), (27, true), (30, false), (31, false), (32, false), (33, false), (34, false), (35, false), (36, false)], keep := some ([6], []) })] 400 (ev := .ret) (σ' := mkS 61 [(6, .bool false)] []) (q := [True ∧ (IntKind.wrap .i64 x2 = v0), True ∧ (IntKind.wrap .i64 ((x0.length : Int) + (1 : Int)) = v1), True ∧ (v1 ≠ 0 ∧ Int.tmod v0 v1 = v2), True ∧ (True ∧ ([] : List D) = [] ∧ CallAny Try.prog 7 [] (.bool v3)), (v3 == true) = true ∧ True, (v3 == true) = true ∧ True, (v3 == true) = true ∧ (x0.length + x1.length ≤ 9223372036854775807 ∧ x0 ++ x1 = v4), (v3 == true) = true ∧ True, (v3 == true) = true ∧ ((True ∧ (True ∧ True)) ∧ ([.str v4, .str x0] : List D) = [.str v4, .str x0] ∧ CallAny Try.prog 18 [.str v4, .str x0] (.bool v5)), True ∧ (v3 = true), (v5 == true) = true ∧ True, (v5 == true) = true ∧ True, (v5 == true) = true ∧ True, (v5 == true) = true ∧ (sub x0 0 v2 = some v6), (v5 == true) = true ∧ ((True ∧ (True ∧ True)) ∧ ([.str x0, .str v6] : List D) = [.str x0, .str v6] ∧ CallAny Try.prog 18 [.str x0, .str v6] (.bool v7)), True ∧ (v5 = true), (v7 == true) = true ∧ True, (v7 == true) = true ∧ ((True ∧ (True ∧ True)) ∧ ([.str x0, .str []] : List D) = [.str x0, .str []] ∧ CallAny Try.prog 18 [.str x0, .str []] (.bool v8)), True ∧ (v7 = true), (v8 == true) = true ∧ True, (v8 == true) = true ∧ True, (v8 == true) = true ∧ True, (v8 == true) = true ∧ (x0.length + x1.length ≤ 9223372036854775807 ∧ x0 ++ x1 = v9), (v8 == true) = true ∧ ((True ∧ (True ∧ True)) ∧ ([.str x0, .str v9] : List D) = [.str x0, .str v9] ∧ CallAny Try.prog 18 [.str x0, .str v9] (.bool v10)), (v8 == true) = true ∧ True, (v8 == true) = true ∧ True, (v8 == true) = true ∧ True, True ∧ (v8 = true), ((v10 == (x1 == ([] : List UInt8))) == true) = false, ((v10 == (x1 == ([] : List UInt8))) == true) = false, ((v10 == (x1 == ([] : List UInt8))) == true) = false, ((v10 == (x1 == ([] : List UInt8))) == true) = false, ((v10 == (x1 == ([] : List UInt8))) == true) = false, ((v10 == (x1 == ([] : List UInt8))) == true) = false, ((v10 == (x1 == ([] : List UInt8))) == true) = false, True ∧ ((v10 == (x1 == ([] : List UInt8))) = false)]) (by kernel_rfl) ⟨⟨trivial, someE e0⟩, ⟨trivial, someE e1⟩, ⟨trivial, modK_spec e2⟩, ⟨trivial, ⟨trivial, rfl, .inl (w7 e3)⟩⟩, ⟨(gB h2 rfl), trivial⟩, ⟨(gB h2 rfl), trivial⟩, ⟨(gB h2 rfl), catK_spec e4⟩, ⟨(gB h2 rfl), trivial⟩, ⟨(gB h2 rfl), ⟨⟨trivial, ⟨trivial, trivial⟩⟩, rfl, .inl (w18 e5)⟩⟩, ⟨trivial, h2⟩, ⟨(gB h3 rfl), trivial⟩, ⟨(gB h3 rfl), trivial⟩, ⟨(gB h3 rfl), trivial⟩, ⟨(gB h3 rfl), e6⟩, ⟨(gB h3 rfl), ⟨⟨trivial, ⟨trivial, trivial⟩⟩, rfl, .inl (w18 e7)⟩⟩, ⟨trivial, h3⟩, ⟨(gB h4 rfl), trivial⟩, ⟨(gB h4 rfl), ⟨⟨trivial, ⟨trivial, trivial⟩⟩, rfl, .inl (w18 e8)⟩⟩, ⟨trivial, h4⟩, ⟨(gB h5 rfl), trivial⟩, ⟨(gB h5 rfl), trivial⟩, ⟨(gB h5 rfl), trivial⟩, ⟨(gB h5 rfl), catK_spec e9⟩, ⟨(gB h5 rfl), ⟨⟨trivial, ⟨trivial, trivial⟩⟩, rfl, .inl (w18 e10)⟩⟩, ⟨(gB h5 rfl), trivial⟩, ⟨(gB h5 rfl), trivial⟩, ⟨(gB h5 rfl), trivial⟩, ⟨trivial, h5⟩, gB h6 rfl, gB h6 rfl, gB h6 rfl, gB h6 rfl, gB h6 rfl, gB h6 rfl, gB h6 rfl, ⟨trivial, h6⟩, trivial⟩ ?_
            refine EvOk.ret ?_
            obtain rfl := someE h
            exact Den.Ends.mk (.inl rfl) (d := .bool false) (p := (True ∧ True) ∧ (True ∧ True)) (by kernel_rfl) ⟨⟨trivial, trivial⟩, ⟨trivial, trivial⟩⟩ (by kernel_rfl)
        · replace h := iteF h5 h
          refine At.adv [] [(3, { told := [(1, { ans := .val (.int .i64 v0) }), (4, { ans := .val (.int .i64 v1) }), (5, { ans := .val (.int .i64 v2) })], gs := [], keep := some ([0, 1, 7], []) }), (4, { told := [(0, { ans := .val (.bool v3), args := [] }), (4, { ans := .val (.str v4) }), (6, { ans := .val (.bool v5), args := [.str v4, .str x0] }), (7, { ans := .yes }), (12, { ans := .val (.str v6) }), (13, { ans := .val (.bool v7), args := [.str x0, .str v6] }), (14, { ans := .yes }), (17, { ans := .val (.bool v8), args := [.str x0, .str []] }), (18, { ans := .yes }), (28, { ans := .no })], gs := [(2, true), (3, true), (4, true), (5, true), (6, true), (9, true), (10, true), (11, true), (12, true), (13, true), (16, true), (17, true), (20, false), (21, false), (22, false), (23, false), (24, false), (25, false), (26, false), (27, false)], keep := some ([6], []) })] 400 (ev := .ret) (σ' := mkS 61 [(6, .bool false)] []) (q := [True ∧ (IntKind.wrap .i64 x2 = v0), True ∧ (IntKind.wrap .i64 ((x0.length : Int) + (1 : Int)) = v1), True ∧ (v1 ≠ 0 ∧ Int.tmod v0 v1 = v2), True ∧ (True ∧ ([] : List D) = [] ∧ CallAny Try.prog 7 [] (.bool v3)), (v3 == true) = true ∧ True, (v3 == true) = true ∧ True, (v3 == true) = true ∧ (x0.length + x1.length ≤ 9223372036854775807 ∧ x0 ++ x1 = v4), (v3 == true) = true ∧ True, (v3 == true) = true ∧ ((True ∧ (True ∧ True)) ∧ ([.str v4, .str x0] : List D) = [.str v4, .str x0] ∧ CallAny Try.prog 18 [.str v4, .str x0] (.bool v5)), True ∧ (v3 = true), (v5 == true) = true ∧ True, (v5 == true) = true ∧ True, (v5 == true) = true ∧ True, (v5 == true) = true ∧ (sub x0 0 v2 = some v6), (v5 == true) = true ∧ ((True ∧ (True ∧ True)) ∧ ([.str x0, .str v6] : List D) = [.str x0, .str v6] ∧ CallAny Try.prog 18 [.str x0, .str v6] (.bool v7)), True ∧ (v5 = true), (v7 == true) = true ∧ True, (v7 == true) = true ∧ ((True ∧ (True ∧ True)) ∧ ([.str x0, .str []] : List D) = [.str x0, .str []] ∧ CallAny Try.prog 18 [.str x0, .str []] (.bool v8)), True ∧ (v7 = true), (v8 == true) = false, (v8 == true) = false, (v8 == true) = false, (v8 == true) = false, (v8 == true) = false, (v8 == true) = false, (v8 == true) = false, (v8 == true) = false, True ∧ (v8 = false), True, True, True, True, True, True, True]) (by kernel_rfl) ⟨⟨trivial, someE e0⟩, ⟨trivial, someE e1⟩, ⟨trivial, modK_spec e2⟩, ⟨trivial, ⟨trivial, rfl, .inl (w7 e3)⟩⟩, ⟨(gB h2 rfl), trivial⟩, ⟨(gB h2 rfl), trivial⟩, ⟨(gB h2 rfl), catK_spec e4⟩, ⟨(gB h2 rfl), trivial⟩, ⟨(gB h2 rfl), ⟨⟨trivial, ⟨trivial, trivial⟩⟩, rfl, .inl (w18 e5)⟩⟩, ⟨trivial, h2⟩, ⟨(gB h3 rfl), trivial⟩, ⟨(gB h3 rfl), trivial⟩, ⟨(gB h3 rfl), trivial⟩, ⟨(gB h3 rfl), e6⟩, ⟨(gB h3 rfl), ⟨⟨trivial, ⟨trivial, trivial⟩⟩, rfl, .inl (w18 e7)⟩⟩, ⟨trivial, h3⟩, ⟨(gB h4 rfl), trivial⟩, ⟨(gB h4 rfl), ⟨⟨trivial, ⟨trivial, trivial⟩⟩, rfl, .inl (w18 e8)⟩⟩, ⟨trivial, h4⟩, gB h5 rfl, gB h5 rfl, gB h5 rfl, gB h5 rfl, gB h5 rfl, gB h5 rfl, gB h5 rfl, gB h5 rfl, ⟨trivial, h5⟩, trivial, trivial, trivial, trivial, trivial, trivial, trivial, trivial⟩ ?_
          refine EvOk.ret ?_
          obtain rfl := someE h
          exact Den.Ends.mk (.inl rfl) (d := .bool false) (p := (True ∧ True) ∧ (True ∧ True)) (by kernel_rfl) ⟨⟨trivial, trivial⟩, ⟨trivial, trivial⟩⟩ (by kernel_rfl)
      · replace h := iteF h4 h
        refine At.adv [] [(3, { told := [(1, { ans := .val (.int .i64 v0) }), (4, { ans := .val (.int .i64 v1) }), (5, { ans := .val (.int .i64 v2) })], gs := [], keep := some ([0, 1, 7], []) }), (4, { told := [(0, { ans := .val (.bool v3), args := [] }), (4, { ans := .val (.str v4) }), (6, { ans := .val (.bool v5), args := [.str v4, .str x0] }), (7, { ans := .yes }), (12, { ans := .val (.str v6) }), (13, { ans := .val (.bool v7), args := [.str x0, .str v6] }), (14, { ans := .yes }), (18, { ans := .no })], gs := [(2, true), (3, true), (4, true), (5, true), (6, true), (9, true), (10, true), (11, true), (12, true), (13, true), (16, false), (17, false)], keep := some ([6], []) })] 400 (ev := .ret) (σ' := mkS 61 [(6, .bool false)] []) (q := [True ∧ (IntKind.wrap .i64 x2 = v0), True ∧ (IntKind.wrap .i64 ((x0.length : Int) + (1 : Int)) = v1), True ∧ (v1 ≠ 0 ∧ Int.tmod v0 v1 = v2), True ∧ (True ∧ ([] : List D) = [] ∧ CallAny Try.prog 7 [] (.bool v3)), (v3 == true) = true ∧ True, (v3 == true) = true ∧ True, (v3 == true) = true ∧ (x0.length + x1.length ≤ 9223372036854775807 ∧ x0 ++ x1 = v4), (v3 == true) = true ∧ True, (v3 == true) = true ∧ ((True ∧ (True ∧ True)) ∧ ([.str v4, .str x0] : List D) = [.str v4, .str x0] ∧ CallAny Try.prog 18 [.str v4, .str x0] (.bool v5)), True ∧ (v3 = true), (v5 == true) = true ∧ True, (v5 == true) = true ∧ True, (v5 == true) = true ∧ True, (v5 == true) = true ∧ (sub x0 0 v2 = some v6), (v5 == true) = true ∧ ((True ∧ (True ∧ True)) ∧ ([.str x0, .str v6] : List D) = [.str x0, .str v6] ∧ CallAny Try.prog 18 [.str x0, .str v6] (.bool v7)), True ∧ (v5 = true), (v7 == true) = false, (v7 == true) = false, True ∧ (v7 = false), True, True, True, True, True, True, True, True, True, True, True, True, True, True, True]) (by kernel_rfl) ⟨⟨trivial, someE e0⟩, ⟨trivial, someE e1⟩, ⟨trivial, modK_spec e2⟩, ⟨trivial, ⟨trivial, rfl, .inl (w7 e3)⟩⟩, ⟨(gB h2 rfl), trivial⟩, ⟨(gB h2 rfl), trivial⟩, ⟨(gB h2 rfl), catK_spec e4⟩, ⟨(gB h2 rfl), trivial⟩, ⟨(gB h2 rfl), ⟨⟨trivial, ⟨trivial, trivial⟩⟩, rfl, .inl (w18 e5)⟩⟩, ⟨trivial, h2⟩, ⟨(gB h3 rfl), trivial⟩, ⟨(gB h3 rfl), trivial⟩, ⟨(gB h3 rfl), trivial⟩, ⟨(gB h3 rfl), e6⟩, ⟨(gB h3 rfl), ⟨⟨trivial, ⟨trivial, trivial⟩⟩, rfl, .inl (w18 e7)⟩⟩, ⟨trivial, h3⟩, gB h4 rfl, gB h4 rfl, ⟨trivial, h4⟩, trivial, trivial, trivial, trivial, trivial, trivial, trivial, trivial, trivial, trivial, trivial, trivial, trivial, trivial, trivial, trivial⟩ ?_
        refine EvOk.ret ?_
        obtain rfl := someE h
        exact Den.Ends.mk (.inl rfl) (d := .bool false) (p := (True ∧ True) ∧ (True ∧ True)) (by kernel_rfl) ⟨⟨trivial, trivial⟩, ⟨trivial, trivial⟩⟩ (by kernel_rfl)
    · replace h := iteF h3 h
      refine At.adv [] [(3, { told := [(1, { ans := .val (.int .i64 v0) }), (4, { ans := .val (.int .i64 v1) }), (5, { ans := .val (.int .i64 v2) })], gs := [], keep := some ([0, 1, 7], []) }), (4, { told := [(0, { ans := .val (.bool v3), args := [] }), (4, { ans := .val (.str v4) }), (6, { ans := .val (.bool v5), args := [.str v4, .str x0] }), (7, { ans := .yes }), (14, { ans := .no })], gs := [(2, true), (3, true), (4, true), (5, true), (6, true), (9, false), (10, false), (11, false), (12, false), (13, false)], keep := some ([6], []) })] 400 (ev := .ret) (σ' := mkS 61 [(6, .bool false)] []) (q := [True ∧ (IntKind.wrap .i64 x2 = v0), True ∧ (IntKind.wrap .i64 ((x0.length : Int) + (1 : Int)) = v1), True ∧ (v1 ≠ 0 ∧ Int.tmod v0 v1 = v2), True ∧ (True ∧ ([] : List D) = [] ∧ CallAny Try.prog 7 [] (.bool v3)), (v3 == true) = true ∧ True, (v3 == true) = true ∧ True, (v3 == true) = true ∧ (x0.length + x1.length ≤ 9223372036854775807 ∧ x0 ++ x1 = v4), (v3 == true) = true ∧ True, (v3 == true) = true ∧ ((True ∧ (True ∧ True)) ∧ ([.str v4, .str x0] : List D) = [.str v4, .str x0] ∧ CallAny Try.prog 18 [.str v4, .str x0] (.bool v5)), True ∧ (v3 = true), (v5 == true) = false, (v5 == true) = false, (v5 == true) = false, (v5 == true) = false, (v5 == true) = false, True ∧ (v5 = false), True, True, True, True, True, True, True, True, True, True, True, True, True, True, True, True, True]) (by kernel_rfl) ⟨⟨trivial, someE e0⟩, ⟨trivial, someE e1⟩, ⟨trivial, modK_spec e2⟩, ⟨trivial, ⟨trivial, rfl, .inl (w7 e3)⟩⟩, ⟨(gB h2 rfl), trivial⟩, ⟨(gB h2 rfl), trivial⟩, ⟨(gB h2 rfl), catK_spec e4⟩, ⟨(gB h2 rfl), trivial⟩, ⟨(gB h2 rfl), ⟨⟨trivial, ⟨trivial, trivial⟩⟩, rfl, .inl (w18 e5)⟩⟩, ⟨trivial, h2⟩, gB h3 rfl, gB h3 rfl, gB h3 rfl, gB h3 rfl, gB h3 rfl, ⟨trivial, h3⟩, trivial, trivial, trivial, trivial, trivial, trivial, trivial, trivial, trivial, trivial, trivial, trivial, trivial, trivial, trivial, trivial, trivial, trivial⟩ ?_
      refine EvOk.ret ?_
      obtain rfl := someE h
      exact Den.Ends.mk (.inl rfl) (d := .bool false) (p := (True ∧ True) ∧ (True ∧ True)) (by kernel_rfl) ⟨⟨trivial, trivial⟩, ⟨trivial, trivial⟩⟩ (by kernel_rfl)
  · replace h := iteF h2 h
    refine At.adv [] [(3, { told := [(1, { ans := .val (.int .i64 v0) }), (4, { ans := .val (.int .i64 v1) }), (5, { ans := .val (.int .i64 v2) })], gs := [], keep := some ([0, 1, 7], []) }), (4, { told := [(0, { ans := .val (.bool v3), args := [] }), (7, { ans := .no })], gs := [(2, false), (3, false), (4, false), (5, false), (6, false)], keep := some ([6], []) })] 400 (ev := .ret) (σ' := mkS 61 [(6, .bool false)] []) (q := [True ∧ (IntKind.wrap .i64 x2 = v0), True ∧ (IntKind.wrap .i64 ((x0.length : Int) + (1 : Int)) = v1), True ∧ (v1 ≠ 0 ∧ Int.tmod v0 v1 = v2), True ∧ (True ∧ ([] : List D) = [] ∧ CallAny Try.prog 7 [] (.bool v3)), (v3 == true) = false, (v3 == true) = false, (v3 == true) = false, (v3 == true) = false, (v3 == true) = false, True ∧ (v3 = false), True, True, True, True, True, True, True, True, True, True, True, True, True, True, True, True, True, True, True, True, True, True]) (by kernel_rfl) ⟨⟨trivial, someE e0⟩, ⟨trivial, someE e1⟩, ⟨trivial, modK_spec e2⟩, ⟨trivial, ⟨trivial, rfl, .inl (w7 e3)⟩⟩, gB h2 rfl, gB h2 rfl, gB h2 rfl, gB h2 rfl, gB h2 rfl, ⟨trivial, h2⟩, trivial, trivial, trivial, trivial, trivial, trivial, trivial, trivial, trivial, trivial, trivial, trivial, trivial, trivial, trivial, trivial, trivial, trivial, trivial, trivial, trivial, trivial, trivial⟩ ?_
    refine EvOk.ret ?_
    obtain rfl := someE h
    exact Den.Ends.mk (.inl rfl) (d := .bool false) (p := (True ∧ True) ∧ (True ∧ True)) (by kernel_rfl) ⟨⟨trivial, trivial⟩, ⟨trivial, trivial⟩⟩ (by kernel_rfl)
theorem we4 (x0 : List UInt8) (x1 : List UInt8) (x2 : Int) (r : Bool) (h : m_armaturelaw03_NamePrefix x0 x1 x2 = some r) (Γ : Ctx) : At Try.prog Γ b4 [] (Den.Ends Try.prog Try.f4 (.bool r)) (mkS 61 [(0, .str x0), (1, .str x1), (2, .int .u8 x2)] []) := by
  rcases Bool.eq_false_or_eq_true (decide ((x0.length : Int) > 300)) with h0 | h0
  · replace h := iteT h0 h
    refine At.adv [] [(0, { told := [], gs := [], keep := some ([0, 1, 2], []) }), (1, { told := [(7, { ans := .yes })], gs := [(4, false), (5, false), (6, false)], keep := some ([0, 1, 2, 15], []) })] 400 (ev := .cond true c4x3 c4x7 [.seq c4x6]) (σ' := mkS 61 [(0, .str x0), (1, .str x1), (2, .int .u8 x2), (15, .bool true)] []) (q := [((decide ((x0.length : Int) > 300)) == false) = false, ((decide ((x0.length : Int) > 300)) == false) = false, ((decide ((x0.length : Int) > 300)) == false) = false, True ∧ ((decide ((x0.length : Int) > 300)) = true)]) (by kernel_rfl) ⟨gB h0 rfl, gB h0 rfl, gB h0 rfl, ⟨trivial, h0⟩, trivial⟩ ?_
    refine EvOk.cond (fun _ => ?_) (fun hb => Bool.noConfusion hb)
    refine At.gc [] [] (n := 61) (l := []) (bl := []) (by kernel_rfl) ?_
    refine At.adv [2] [] 400 (ev := .stop c4x4 [.seq c4x5, .seq c4x6]) (σ' := mkS 61 [] []) (q := []) (by kernel_rfl) trivial ?_
    exact wj4x2  r h Γ
  · replace h := iteF h0 h
    refine At.adv [] [(0, { told := [], gs := [], keep := some ([0, 1, 2], []) }), (1, { told := [(7, { ans := .no })], gs := [(4, true), (5, true), (6, true)], keep := some ([0, 1, 2, 15], []) })] 400 (ev := .cond (decide ((x1.length : Int) > 300)) c4x3 c4x7 [.seq c4x6]) (σ' := mkS 61 [(0, .str x0), (1, .str x1), (2, .int .u8 x2), (15, .bool (decide ((x1.length : Int) > 300)))] []) (q := [((decide ((x0.length : Int) > 300)) == false) = true ∧ True, ((decide ((x0.length : Int) > 300)) == false) = true ∧ True, ((decide ((x0.length : Int) > 300)) == false) = true ∧ True, True ∧ ((decide ((x0.length : Int) > 300)) = false)]) (by kernel_rfl) ⟨⟨(gB h0 rfl), trivial⟩, ⟨(gB h0 rfl), trivial⟩, ⟨(gB h0 rfl), trivial⟩, ⟨trivial, h0⟩, trivial⟩ ?_
    refine EvOk.cond (fun h1 => ?_) (fun h1 => ?_)
    · replace h := iteT h1 h
      refine At.gc [] [] (n := 61) (l := []) (bl := []) (by kernel_rfl) ?_
      refine At.adv [2] [] 400 (ev := .stop c4x4 [.seq c4x5, .seq c4x6]) (σ' := mkS 61 [] []) (q := []) (by kernel_rfl) trivial ?_
      exact wj4x2  r h Γ
    · replace h := iteF h1 h
      refine At.gc [0, 1, 2] [] (n := 61) (l := [(0, .str x0), (1, .str x1), (2, .int .u8 x2)]) (bl := []) (by kernel_rfl) ?_
      refine At.adv [3] [] 400 (ev := .stop c4x8 [.seq c4x9]) (σ' := mkS 61 [(0, .str x0), (1, .str x1), (2, .int .u8 x2)] []) (q := []) (by kernel_rfl) trivial ?_
      exact (wj4x1 x0 x1 x2)  r h Γ
theorem w4 {x0 : List UInt8} {x1 : List UInt8} {x2 : Int} {r : Bool} (h : m_armaturelaw03_NamePrefix x0 x1 x2 = some r) : CallSpec Try.prog 4 [.str x0, .str x1, .int .u8 x2] (.bool r) :=
  CallSpec.at2 b4 (n := 61) (l := [(0, .str x0), (1, .str x1), (2, .int .u8 x2)]) (by kernel_rfl) (by kernel_rfl) (by kernel_rfl) (by kernel_rfl) (by kernel_rfl) (Nat.le_of_ble_eq_true (by kernel_rfl)) (fun Γ => we4 x0 x1 x2 r h Γ)

/-! ### internal stringslite.Index -/
noncomputable def b32 : Code := Try.f32.body.getD .skip
noncomputable def c32x0 : Code := sub1 b32
noncomputable def c32x1 : Code := sub1 c32x0
noncomputable def c32x2 : Code := sub0 c32x1
noncomputable def c32x3 : Code := sub0 c32x2
noncomputable def c32x4 : Code := sub1 c32x3
noncomputable def c32x5 : Code := sub0 c32x4
noncomputable def c32x6 : Code := sub1 c32x4
noncomputable def c32x7 : Code := sub1 c32x1
noncomputable def c32x8 : Code := sub0 c32x6
noncomputable def c32x9 : Code := sub1 c32x6
noncomputable def c32x10 : Code := sub1 c32x9
noncomputable def c32x11 : Code := sub1 c32x10
noncomputable def c32x12 : Code := sub0 c32x11
noncomputable def c32x13 : Code := sub1 c32x11
noncomputable def c32x14 : Code := sub0 c32x9
def j32x1 (x0 : List UInt8) (x1 : List UInt8) : Option (Int) :=
  if ((x1.length : Int) == 1) = true then
    ((getS x1 0).bind fun v0 =>
    (m_internal_stringslite_IndexByte x0 v0).bind fun v1 =>
    some v1) else
  (if (decide ((x1.length : Int) ≥ (x0.length : Int))) = true then
      (some (-1)) else
    (none))
def m_internal_stringslite_Index (x0 : List UInt8) (x1 : List UInt8) : Option (Int) :=
  if ((x1.length : Int) == 0) = true then (some 0) else
  (if (x1 == x0) = true then
    (some 0) else
  ((j32x1 x0 x1) ))
theorem wj32x1 (x0 : List UInt8) (x1 : List UInt8) (r : Int) (h : (j32x1 x0 x1)  = some r) (Γ : Ctx) : EvOk Try.prog Γ (Den.Ends Try.prog Try.f32 (.int .i64 r)) (mkS 143 [(0, .str x0), (1, .str x1), (5, .int .i64 (x1.length : Int))] []) (.stop c32x8 [.seq c32x9, .blk 0, .seq c32x7]) := by
  refine EvOk.stop ?_
  refine At.adv [] [(4, { told := [], gs := [], keep := some ([0, 1, 5, 24], []) })] 400 (ev := .cond ((x1.length : Int) == 1) c32x14 c32x10 [.blk 0, .seq c32x7]) (σ' := mkS 143 [(0, .str x0), (1, .str x1), (5, .int .i64 (x1.length : Int)), (24, .bool ((x1.length : Int) == 1))] []) (q := []) (by kernel_rfl) trivial ?_
  refine EvOk.cond (fun h2 => ?_) (fun h2 => ?_)
  · replace h := iteT h2 h
    refine At.gc [0, 1] [] (n := 143) (l := [(0, .str x0), (1, .str x1)]) (bl := []) (by kernel_rfl) ?_
    obtain ⟨v0, e0, h⟩ := bindE h
    obtain ⟨v1, e1, h⟩ := bindE h
    refine At.adv [] [(5, { told := [(2, { ans := .val (.int .u8 v0) }), (3, { ans := .val (.int .i64 v1), args := [.str x0, .int .u8 v0] })], gs := [], keep := some ([4], []) })] 400 (ev := .ret) (σ' := mkS 143 [(4, .int .i64 v1)] []) (q := [True ∧ (getS x1 0 = some v0), True ∧ ((True ∧ (True ∧ True)) ∧ ([.str x0, .int .u8 v0] : List D) = [.str x0, .int .u8 v0] ∧ CallAny Try.prog 30 [.str x0, .int .u8 v0] (.int .i64 v1))]) (by kernel_rfl) ⟨⟨trivial, e0⟩, ⟨trivial, ⟨⟨trivial, ⟨trivial, trivial⟩⟩, rfl, .inl (w30 e1)⟩⟩, trivial⟩ ?_
    refine EvOk.ret ?_
    obtain rfl := someE h
    exact Den.Ends.mk (.inl rfl) (d := .int .i64 v1) (p := (True ∧ True) ∧ (True ∧ True)) (by kernel_rfl) ⟨⟨trivial, trivial⟩, ⟨trivial, trivial⟩⟩ (by kernel_rfl)
  · replace h := iteF h2 h
    refine At.gc [0, 1, 5] [] (n := 143) (l := [(0, .str x0), (1, .str x1), (5, .int .i64 (x1.length : Int))]) (bl := []) (by kernel_rfl) ?_
    refine At.adv [] [(6, { told := [], gs := [], keep := some ([0, 1, 5, 31], []) })] 400 (ev := .cond (decide ((x1.length : Int) ≥ (x0.length : Int))) c32x12 c32x13 [.blk 0, .seq c32x7]) (σ' := mkS 143 [(0, .str x0), (1, .str x1), (5, .int .i64 (x1.length : Int)), (31, .bool (decide ((x1.length : Int) ≥ (x0.length : Int))))] []) (q := []) (by kernel_rfl) trivial ?_
    refine EvOk.cond (fun h3 => ?_) (fun h3 => ?_)
    · replace h := iteT h3 h
      refine At.gc [] [] (n := 143) (l := []) (bl := []) (by kernel_rfl) ?_
      refine At.adv [] [(7, { told := [], gs := [], keep := some ([4], []) })] 400 (ev := .ret) (σ' := mkS 143 [(4, .int .i64 (-1))] []) (q := []) (by kernel_rfl) trivial ?_
      refine EvOk.ret ?_
      obtain rfl := someE h
      exact Den.Ends.mk (.inl rfl) (d := .int .i64 (-1)) (p := (True ∧ True) ∧ (True ∧ True)) (by kernel_rfl) ⟨⟨trivial, trivial⟩, ⟨trivial, trivial⟩⟩ (by kernel_rfl)
    · replace h := iteF h3 h
      refine At.gc [0, 1, 5] [] (n := 143) (l := [(0, .str x0), (1, .str x1), (5, .int .i64 (x1.length : Int))]) (bl := []) (by kernel_rfl) ?_
      exact noneE h
theorem we32 (x0 : List UInt8) (x1 : List UInt8) (r : Int) (h : m_internal_stringslite_Index x0 x1 = some r) (Γ : Ctx) : At Try.prog Γ b32 [] (Den.Ends Try.prog Try.f32 (.int .i64 r)) (mkS 143 [(0, .str x0), (1, .str x1)] []) := by
  rcases Bool.eq_false_or_eq_true ((x1.length : Int) == 0) with h0 | h0
  · replace h := iteT h0 h
    refine At.adv [] [(0, { told := [], gs := [], keep := some ([0, 1], []) }), (1, { told := [], gs := [], keep := some ([0, 1, 5], []) }), (2, { told := [(6, { ans := .yes })], gs := [(3, false), (4, false), (5, false)], keep := some ([0, 1, 5, 16], []) })] 400 (ev := .cond true c32x5 c32x6 [.blk 0, .seq c32x7]) (σ' := mkS 143 [(0, .str x0), (1, .str x1), (5, .int .i64 (x1.length : Int)), (16, .bool true)] []) (q := [(((x1.length : Int) == 0) == false) = false, (((x1.length : Int) == 0) == false) = false, (((x1.length : Int) == 0) == false) = false, True ∧ (((x1.length : Int) == 0) = true)]) (by kernel_rfl) ⟨gB h0 rfl, gB h0 rfl, gB h0 rfl, ⟨trivial, h0⟩, trivial⟩ ?_
    refine EvOk.cond (fun _ => ?_) (fun hb => Bool.noConfusion hb)
    refine At.gc [] [] (n := 143) (l := []) (bl := []) (by kernel_rfl) ?_
    refine At.adv [] [(3, { told := [], gs := [], keep := some ([4], []) })] 400 (ev := .ret) (σ' := mkS 143 [(4, .int .i64 0)] []) (q := []) (by kernel_rfl) trivial ?_
    refine EvOk.ret ?_
    obtain rfl := someE h
    exact Den.Ends.mk (.inl rfl) (d := .int .i64 0) (p := (True ∧ True) ∧ (True ∧ True)) (by kernel_rfl) ⟨⟨trivial, trivial⟩, ⟨trivial, trivial⟩⟩ (by kernel_rfl)
  · replace h := iteF h0 h
    refine At.adv [] [(0, { told := [], gs := [], keep := some ([0, 1], []) }), (1, { told := [], gs := [], keep := some ([0, 1, 5], []) }), (2, { told := [(6, { ans := .no })], gs := [(3, true), (4, true), (5, true)], keep := some ([0, 1, 5, 16], []) })] 400 (ev := .cond (x1 == x0) c32x5 c32x6 [.blk 0, .seq c32x7]) (σ' := mkS 143 [(0, .str x0), (1, .str x1), (5, .int .i64 (x1.length : Int)), (16, .bool (x1 == x0))] []) (q := [(((x1.length : Int) == 0) == false) = true ∧ True, (((x1.length : Int) == 0) == false) = true ∧ True, (((x1.length : Int) == 0) == false) = true ∧ True, True ∧ (((x1.length : Int) == 0) = false)]) (by kernel_rfl) ⟨⟨(gB h0 rfl), trivial⟩, ⟨(gB h0 rfl), trivial⟩, ⟨(gB h0 rfl), trivial⟩, ⟨trivial, h0⟩, trivial⟩ ?_
    refine EvOk.cond (fun h1 => ?_) (fun h1 => ?_)
    · replace h := iteT h1 h
      refine At.gc [] [] (n := 143) (l := []) (bl := []) (by kernel_rfl) ?_
      refine At.adv [] [(3, { told := [], gs := [], keep := some ([4], []) })] 400 (ev := .ret) (σ' := mkS 143 [(4, .int .i64 0)] []) (q := []) (by kernel_rfl) trivial ?_
      refine EvOk.ret ?_
      obtain rfl := someE h
      exact Den.Ends.mk (.inl rfl) (d := .int .i64 0) (p := (True ∧ True) ∧ (True ∧ True)) (by kernel_rfl) ⟨⟨trivial, trivial⟩, ⟨trivial, trivial⟩⟩ (by kernel_rfl)
    · replace h := iteF h1 h
      refine At.gc [0, 1, 5] [] (n := 143) (l := [(0, .str x0), (1, .str x1), (5, .int .i64 (x1.length : Int))]) (bl := []) (by kernel_rfl) ?_
      refine At.adv [4] [] 400 (ev := .stop c32x8 [.seq c32x9, .blk 0, .seq c32x7]) (σ' := mkS 143 [(0, .str x0), (1, .str x1), (5, .int .i64 (x1.length : Int))] []) (q := []) (by kernel_rfl) trivial ?_
      exact (wj32x1 x0 x1)  r h Γ
theorem w32 {x0 : List UInt8} {x1 : List UInt8} {r : Int} (h : m_internal_stringslite_Index x0 x1 = some r) : CallSpec Try.prog 32 [.str x0, .str x1] (.int .i64 r) :=
  CallSpec.at2 b32 (n := 143) (l := [(0, .str x0), (1, .str x1)]) (by kernel_rfl) (by kernel_rfl) (by kernel_rfl) (by kernel_rfl) (by kernel_rfl) (Nat.le_of_ble_eq_true (by kernel_rfl)) (fun Γ => we32 x0 x1 r h Γ)

/-! ### strings.Index -/
noncomputable def b28 : Code := Try.f28.body.getD .skip
def m_strings_Index (x0 : List UInt8) (x1 : List UInt8) : Option (Int) :=
  (m_internal_stringslite_Index x0 x1).bind fun v0 =>
  some v0
theorem we28 (x0 : List UInt8) (x1 : List UInt8) (r : Int) (h : m_strings_Index x0 x1 = some r) (Γ : Ctx) : At Try.prog Γ b28 [] (Den.Ends Try.prog Try.f28 (.int .i64 r)) (mkS 8 [(0, .str x0), (1, .str x1)] []) := by
  obtain ⟨v0, e0, h⟩ := bindE h
  refine At.adv [] [(0, { told := [], gs := [], keep := some ([0, 1], []) }), (1, { told := [(2, { ans := .val (.int .i64 v0), args := [.str x0, .str x1] })], gs := [], keep := some ([4], []) })] 400 (ev := .ret) (σ' := mkS 8 [(4, .int .i64 v0)] []) (q := [True ∧ ((True ∧ (True ∧ True)) ∧ ([.str x0, .str x1] : List D) = [.str x0, .str x1] ∧ CallAny Try.prog 32 [.str x0, .str x1] (.int .i64 v0))]) (by kernel_rfl) ⟨⟨trivial, ⟨⟨trivial, ⟨trivial, trivial⟩⟩, rfl, .inl (w32 e0)⟩⟩, trivial⟩ ?_
  refine EvOk.ret ?_
  obtain rfl := someE h
  exact Den.Ends.mk (.inl rfl) (d := .int .i64 v0) (p := (True ∧ True) ∧ (True ∧ True)) (by kernel_rfl) ⟨⟨trivial, trivial⟩, ⟨trivial, trivial⟩⟩ (by kernel_rfl)
theorem w28 {x0 : List UInt8} {x1 : List UInt8} {r : Int} (h : m_strings_Index x0 x1 = some r) : CallSpec Try.prog 28 [.str x0, .str x1] (.int .i64 r) :=
  CallSpec.at2 b28 (n := 8) (l := [(0, .str x0), (1, .str x1)]) (by kernel_rfl) (by kernel_rfl) (by kernel_rfl) (by kernel_rfl) (by kernel_rfl) (Nat.le_of_ble_eq_true (by kernel_rfl)) (fun Γ => we28 x0 x1 r h Γ)

/-! ### strings.Contains -/
noncomputable def b21 : Code := Try.f21.body.getD .skip
def m_strings_Contains (x0 : List UInt8) (x1 : List UInt8) : Option (Bool) :=
  (m_strings_Index x0 x1).bind fun v0 =>
  some (decide (v0 ≥ 0))
theorem we21 (x0 : List UInt8) (x1 : List UInt8) (r : Bool) (h : m_strings_Contains x0 x1 = some r) (Γ : Ctx) : At Try.prog Γ b21 [] (Den.Ends Try.prog Try.f21 (.bool r)) (mkS 9 [(0, .str x0), (1, .str x1)] []) := by
  obtain ⟨v0, e0, h⟩ := bindE h
  refine At.adv [] [(0, { told := [], gs := [], keep := some ([0, 1], []) }), (1, { told := [(2, { ans := .val (.int .i64 v0), args := [.str x0, .str x1] })], gs := [], keep := some ([4], []) })] 400 (ev := .ret) (σ' := mkS 9 [(4, .bool (decide (v0 ≥ 0)))] []) (q := [True ∧ ((True ∧ (True ∧ True)) ∧ ([.str x0, .str x1] : List D) = [.str x0, .str x1] ∧ CallAny Try.prog 28 [.str x0, .str x1] (.int .i64 v0))]) (by kernel_rfl) ⟨⟨trivial, ⟨⟨trivial, ⟨trivial, trivial⟩⟩, rfl, .inl (w28 e0)⟩⟩, trivial⟩ ?_
  refine EvOk.ret ?_
  obtain rfl := someE h
  exact Den.Ends.mk (.inl rfl) (d := .bool (decide (v0 ≥ 0))) (p := (True ∧ True) ∧ (True ∧ True)) (by kernel_rfl) ⟨⟨trivial, trivial⟩, ⟨trivial, trivial⟩⟩ (by kernel_rfl)
theorem w21 {x0 : List UInt8} {x1 : List UInt8} {r : Bool} (h : m_strings_Contains x0 x1 = some r) : CallSpec Try.prog 21 [.str x0, .str x1] (.bool r) :=
  CallSpec.at2 b21 (n := 9) (l := [(0, .str x0), (1, .str x1)]) (by kernel_rfl) (by kernel_rfl) (by kernel_rfl) (by kernel_rfl) (by kernel_rfl) (Nat.le_of_ble_eq_true (by kernel_rfl)) (fun Γ => we21 x0 x1 r h Γ)
end Go.Proofs
