/-
  Models of functions of the program, and that the functions compute them. Printed by den2.py. No condition.
-/
import Derived.Test.YtbkfbbghkbmkaaaRows
import Derived.Test.YtbkfbbghkbmkaaaDenMod
import Derived.Test.YtbkfbbghkbmkaaaDenClaim
set_option linter.unusedVariables false
namespace Go.Proofs
open Go.Den
structure T_api_Type where
  f_Dim : Int
  f_Base : Int
  f_Name : List UInt8

def row_T_api_Type (x : T_api_Type) : List D := [.int .i64 x.f_Dim, .int .u8 x.f_Base, .str x.f_Name]

structure T_api_Sig where
  f_Params : List T_api_Type
  f_Result : T_api_Type

def row_T_api_Sig (x : T_api_Sig) : List D := [.sl false (x.f_Params.map row_T_api_Type), .int .i64 x.f_Result.f_Dim, .int .u8 x.f_Result.f_Base, .str x.f_Result.f_Name]

def eqb_T_api_Type (x y : T_api_Type) : Bool := ((x.f_Dim == y.f_Dim) && ((x.f_Base == y.f_Base) && ((x.f_Name == y.f_Name) && true)))

def eqq_24 : Prop := Try.prog.stoodInHeld 24 = false ∧ ("Dim" ≠ "_" ∧ True ∧ ("Base" ≠ "_" ∧ True ∧ ("Name" ≠ "_" ∧ True ∧ True)))

theorem eqp_24 : eqq_24 := ⟨by kernel_rfl, ⟨by decide, trivial, ⟨by decide, trivial, ⟨by decide, trivial, trivial⟩⟩⟩⟩

theorem eqg_24 : Try.prog.eqGuardType Try.prog.depth 24 = false := by kernel_rfl

/-! ### armature name.class -/
noncomputable def b43 : Code := Try.f43.body.getD .skip
noncomputable def c43x0 : Code := sub1 b43
noncomputable def c43x1 : Code := sub0 c43x0
noncomputable def c43x2 : Code := sub0 c43x1
noncomputable def c43x3 : Code := sub1 c43x2
noncomputable def c43x4 : Code := sub0 c43x3
noncomputable def c43x5 : Code := sub1 c43x3
noncomputable def c43x6 : Code := sub1 c43x0
noncomputable def c43x7 : Code := sub0 c43x2
noncomputable def c43x8 : Code := sub1 c43x7
noncomputable def c43x9 : Code := sub1 c43x8
noncomputable def c43x10 : Code := sub0 c43x9
noncomputable def c43x11 : Code := sub1 c43x9
noncomputable def c43x12 : Code := sub0 c43x8
noncomputable def c43x13 : Code := sub1 c43x11
noncomputable def c43x14 : Code := sub0 c43x13
noncomputable def c43x15 : Code := sub1 c43x13
noncomputable def c43x16 : Code := sub0 c43x11
noncomputable def c43x17 : Code := sub0 c43x15
noncomputable def c43x18 : Code := sub1 c43x15
noncomputable def c43x19 : Code := sub0 c43x5
noncomputable def c43x20 : Code := sub1 c43x5
noncomputable def c43x21 : Code := sub0 c43x20
noncomputable def c43x22 : Code := sub1 c43x20
def j43x4 (x0 : Int) : Option (Int) :=
  if (decide ((48 : Int) ≤ x0)) = true then (if (decide (x0 ≤ 57)) = true then
    (some 2) else
  (some 0)) else
  (some 0)
def j43x3 (x0 : Int) : Option (Int) :=
  if (x0 == 36) = true then
    (some 1) else
  ((j43x4 x0) )
def j43x2 (x0 : Int) : Option (Int) :=
  if (x0 == 95) = true then
    (some 1) else
  ((j43x3 x0) )
def j43x1 (x0 : Int) : Option (Int) :=
  if (decide ((65 : Int) ≤ x0)) = true then (if (decide (x0 ≤ 90)) = true then
    (some 1) else
  ((j43x2 x0) )) else
  ((j43x2 x0) )
def m_name_class (x0 : Int) : Option (Int) :=
  if (decide ((97 : Int) ≤ x0)) = true then (if (decide (x0 ≤ 122)) = true then
    (some 1) else
  ((j43x1 x0) )) else
  ((j43x1 x0) )
theorem wj43x4 (x0 : Int) (r : Int) (h : (j43x4 x0)  = some r) (Γ : Ctx) : EvOk Try.prog Γ (Den.Ends Try.prog Try.f43 (.int .i64 r)) (mkS 27 [(0, .int .u8 x0)] []) (.stop c43x19 [.seq c43x20, .blk 0, .seq c43x6]) := by
  refine EvOk.stop ?_
  rcases Bool.eq_false_or_eq_true (decide ((48 : Int) ≤ x0)) with h6 | h6
  · replace h := iteT h6 h
    refine At.adv [] [(6, { told := [(5, { ans := .yes })], gs := [(3, true), (4, true)], keep := some ([20], []) })] 400 (ev := .cond (decide (x0 ≤ 57)) c43x21 c43x22 [.blk 0, .seq c43x6]) (σ' := mkS 27 [(20, .bool (decide (x0 ≤ 57)))] []) (q := [((decide ((48 : Int) ≤ x0)) == true) = true ∧ True, ((decide ((48 : Int) ≤ x0)) == true) = true ∧ True, True ∧ ((decide ((48 : Int) ≤ x0)) = true)]) (by kernel_rfl) ⟨⟨(gB h6 rfl), trivial⟩, ⟨(gB h6 rfl), trivial⟩, ⟨trivial, h6⟩, trivial⟩ ?_
    refine EvOk.cond (fun h7 => ?_) (fun h7 => ?_)
    · replace h := iteT h7 h
      refine At.gc [] [] (n := 27) (l := []) (bl := []) (by kernel_rfl) ?_
      refine At.adv [] [(7, { told := [], gs := [], keep := some ([2], []) })] 400 (ev := .ret) (σ' := mkS 27 [(2, .int .i64 2)] []) (q := []) (by kernel_rfl) trivial ?_
      refine EvOk.ret ?_
      obtain rfl := someE h
      exact Den.Ends.mk (.inl rfl) (d := .int .i64 2) (p := (True ∧ True) ∧ (True ∧ True)) (by kernel_rfl) ⟨⟨trivial, trivial⟩, ⟨trivial, trivial⟩⟩ (by kernel_rfl)
    · replace h := iteF h7 h
      refine At.gc [] [] (n := 27) (l := []) (bl := []) (by kernel_rfl) ?_
      refine At.adv [] [(8, { told := [], gs := [], keep := some ([2], []) })] 400 (ev := .ret) (σ' := mkS 27 [(2, .int .i64 0)] []) (q := []) (by kernel_rfl) trivial ?_
      refine EvOk.ret ?_
      obtain rfl := someE h
      exact Den.Ends.mk (.inl rfl) (d := .int .i64 0) (p := (True ∧ True) ∧ (True ∧ True)) (by kernel_rfl) ⟨⟨trivial, trivial⟩, ⟨trivial, trivial⟩⟩ (by kernel_rfl)
  · replace h := iteF h6 h
    refine At.adv [] [(6, { told := [(5, { ans := .no })], gs := [(3, false), (4, false)], keep := some ([20], []) })] 400 (ev := .cond false c43x21 c43x22 [.blk 0, .seq c43x6]) (σ' := mkS 27 [(20, .bool false)] []) (q := [((decide ((48 : Int) ≤ x0)) == true) = false, ((decide ((48 : Int) ≤ x0)) == true) = false, True ∧ ((decide ((48 : Int) ≤ x0)) = false)]) (by kernel_rfl) ⟨gB h6 rfl, gB h6 rfl, ⟨trivial, h6⟩, trivial⟩ ?_
    refine EvOk.cond (fun hb => Bool.noConfusion hb) (fun _ => ?_)
    refine At.gc [] [] (n := 27) (l := []) (bl := []) (by kernel_rfl) ?_
    refine At.adv [] [(8, { told := [], gs := [], keep := some ([2], []) })] 400 (ev := .ret) (σ' := mkS 27 [(2, .int .i64 0)] []) (q := []) (by kernel_rfl) trivial ?_
    refine EvOk.ret ?_
    obtain rfl := someE h
    exact Den.Ends.mk (.inl rfl) (d := .int .i64 0) (p := (True ∧ True) ∧ (True ∧ True)) (by kernel_rfl) ⟨⟨trivial, trivial⟩, ⟨trivial, trivial⟩⟩ (by kernel_rfl)
theorem wj43x3 (x0 : Int) (r : Int) (h : (j43x3 x0)  = some r) (Γ : Ctx) : EvOk Try.prog Γ (Den.Ends Try.prog Try.f43 (.int .i64 r)) (mkS 27 [(0, .int .u8 x0), (3, .bool (x0 == 36))] []) (.cond (x0 == 36) c43x4 c43x5 [.blk 0, .seq c43x6]) := by
  refine EvOk.cond (fun h5 => ?_) (fun h5 => ?_)
  · replace h := iteT h5 h
    refine At.gc [] [] (n := 27) (l := []) (bl := []) (by kernel_rfl) ?_
    refine At.adv [] [(5, { told := [], gs := [], keep := some ([2], []) })] 400 (ev := .ret) (σ' := mkS 27 [(2, .int .i64 1)] []) (q := []) (by kernel_rfl) trivial ?_
    refine EvOk.ret ?_
    obtain rfl := someE h
    exact Den.Ends.mk (.inl rfl) (d := .int .i64 1) (p := (True ∧ True) ∧ (True ∧ True)) (by kernel_rfl) ⟨⟨trivial, trivial⟩, ⟨trivial, trivial⟩⟩ (by kernel_rfl)
  · replace h := iteF h5 h
    refine At.gc [0] [] (n := 27) (l := [(0, .int .u8 x0)]) (bl := []) (by kernel_rfl) ?_
    refine At.adv [6] [] 400 (ev := .stop c43x19 [.seq c43x20, .blk 0, .seq c43x6]) (σ' := mkS 27 [(0, .int .u8 x0)] []) (q := []) (by kernel_rfl) trivial ?_
    exact (wj43x4 x0)  r h Γ
theorem wj43x2 (x0 : Int) (r : Int) (h : (j43x2 x0)  = some r) (Γ : Ctx) : EvOk Try.prog Γ (Den.Ends Try.prog Try.f43 (.int .i64 r)) (mkS 27 [(0, .int .u8 x0)] []) (.stop c43x14 [.seq c43x15, .seq c43x3, .blk 0, .seq c43x6]) := by
  refine EvOk.stop ?_
  refine At.adv [] [(3, { told := [], gs := [], keep := some ([0, 3], []) })] 400 (ev := .cond (x0 == 95) c43x17 c43x18 [.seq c43x3, .blk 0, .seq c43x6]) (σ' := mkS 27 [(0, .int .u8 x0), (3, .bool (x0 == 95))] []) (q := []) (by kernel_rfl) trivial ?_
  refine EvOk.cond (fun h4 => ?_) (fun h4 => ?_)
  · replace h := iteT h4 h
    refine At.adv [] [] 400 (ev := .cond (x0 == 95) c43x4 c43x5 [.blk 0, .seq c43x6]) (σ' := mkS 27 [(0, .int .u8 x0), (3, .bool (x0 == 95))] []) (q := []) (by kernel_rfl) trivial ?_
    refine EvOk.cond (fun _ => ?_) (fun hb => Bool.noConfusion (h4.symm.trans hb))
    refine At.gc [] [] (n := 27) (l := []) (bl := []) (by kernel_rfl) ?_
    refine At.adv [] [(5, { told := [], gs := [], keep := some ([2], []) })] 400 (ev := .ret) (σ' := mkS 27 [(2, .int .i64 1)] []) (q := []) (by kernel_rfl) trivial ?_
    refine EvOk.ret ?_
    obtain rfl := someE h
    exact Den.Ends.mk (.inl rfl) (d := .int .i64 1) (p := (True ∧ True) ∧ (True ∧ True)) (by kernel_rfl) ⟨⟨trivial, trivial⟩, ⟨trivial, trivial⟩⟩ (by kernel_rfl)
  · replace h := iteF h4 h
    refine At.gc [0] [] (n := 27) (l := [(0, .int .u8 x0)]) (bl := []) (by kernel_rfl) ?_
    refine At.adv [] [(4, { told := [], gs := [], keep := some ([0, 3], []) })] 400 (ev := .cond (x0 == 36) c43x4 c43x5 [.blk 0, .seq c43x6]) (σ' := mkS 27 [(0, .int .u8 x0), (3, .bool (x0 == 36))] []) (q := []) (by kernel_rfl) trivial ?_
    exact (wj43x3 x0)  r h Γ
theorem wj43x1 (x0 : Int) (r : Int) (h : (j43x1 x0)  = some r) (Γ : Ctx) : EvOk Try.prog Γ (Den.Ends Try.prog Try.f43 (.int .i64 r)) (mkS 27 [(0, .int .u8 x0)] []) (.stop c43x10 [.seq c43x11, .seq c43x3, .blk 0, .seq c43x6]) := by
  refine EvOk.stop ?_
  rcases Bool.eq_false_or_eq_true (decide ((65 : Int) ≤ x0)) with h2 | h2
  · replace h := iteT h2 h
    refine At.adv [] [(2, { told := [(5, { ans := .yes })], gs := [(3, true), (4, true)], keep := some ([0, 3], []) })] 400 (ev := .cond (decide (x0 ≤ 90)) c43x16 c43x13 [.seq c43x3, .blk 0, .seq c43x6]) (σ' := mkS 27 [(0, .int .u8 x0), (3, .bool (decide (x0 ≤ 90)))] []) (q := [((decide ((65 : Int) ≤ x0)) == true) = true ∧ True, ((decide ((65 : Int) ≤ x0)) == true) = true ∧ True, True ∧ ((decide ((65 : Int) ≤ x0)) = true)]) (by kernel_rfl) ⟨⟨(gB h2 rfl), trivial⟩, ⟨(gB h2 rfl), trivial⟩, ⟨trivial, h2⟩, trivial⟩ ?_
    refine EvOk.cond (fun h3 => ?_) (fun h3 => ?_)
    · replace h := iteT h3 h
      refine At.adv [] [] 400 (ev := .cond (decide (x0 ≤ 90)) c43x4 c43x5 [.blk 0, .seq c43x6]) (σ' := mkS 27 [(0, .int .u8 x0), (3, .bool (decide (x0 ≤ 90)))] []) (q := []) (by kernel_rfl) trivial ?_
      refine EvOk.cond (fun _ => ?_) (fun hb => Bool.noConfusion (h3.symm.trans hb))
      refine At.gc [] [] (n := 27) (l := []) (bl := []) (by kernel_rfl) ?_
      refine At.adv [] [(5, { told := [], gs := [], keep := some ([2], []) })] 400 (ev := .ret) (σ' := mkS 27 [(2, .int .i64 1)] []) (q := []) (by kernel_rfl) trivial ?_
      refine EvOk.ret ?_
      obtain rfl := someE h
      exact Den.Ends.mk (.inl rfl) (d := .int .i64 1) (p := (True ∧ True) ∧ (True ∧ True)) (by kernel_rfl) ⟨⟨trivial, trivial⟩, ⟨trivial, trivial⟩⟩ (by kernel_rfl)
    · replace h := iteF h3 h
      refine At.gc [0] [] (n := 27) (l := [(0, .int .u8 x0)]) (bl := []) (by kernel_rfl) ?_
      refine At.adv [3] [] 400 (ev := .stop c43x14 [.seq c43x15, .seq c43x3, .blk 0, .seq c43x6]) (σ' := mkS 27 [(0, .int .u8 x0)] []) (q := []) (by kernel_rfl) trivial ?_
      exact (wj43x2 x0)  r h Γ
  · replace h := iteF h2 h
    refine At.adv [] [(2, { told := [(5, { ans := .no })], gs := [(3, false), (4, false)], keep := some ([0, 3], []) })] 400 (ev := .cond false c43x16 c43x13 [.seq c43x3, .blk 0, .seq c43x6]) (σ' := mkS 27 [(0, .int .u8 x0), (3, .bool false)] []) (q := [((decide ((65 : Int) ≤ x0)) == true) = false, ((decide ((65 : Int) ≤ x0)) == true) = false, True ∧ ((decide ((65 : Int) ≤ x0)) = false)]) (by kernel_rfl) ⟨gB h2 rfl, gB h2 rfl, ⟨trivial, h2⟩, trivial⟩ ?_
    refine EvOk.cond (fun hb => Bool.noConfusion hb) (fun _ => ?_)
    refine At.gc [0] [] (n := 27) (l := [(0, .int .u8 x0)]) (bl := []) (by kernel_rfl) ?_
    refine At.adv [3] [] 400 (ev := .stop c43x14 [.seq c43x15, .seq c43x3, .blk 0, .seq c43x6]) (σ' := mkS 27 [(0, .int .u8 x0)] []) (q := []) (by kernel_rfl) trivial ?_
    exact (wj43x2 x0)  r h Γ
theorem we43 (x0 : Int) (r : Int) (h : m_name_class x0 = some r) (Γ : Ctx) : At Try.prog Γ b43 [] (Den.Ends Try.prog Try.f43 (.int .i64 r)) (mkS 27 [(0, .int .u8 x0)] []) := by
  rcases Bool.eq_false_or_eq_true (decide ((97 : Int) ≤ x0)) with h0 | h0
  · replace h := iteT h0 h
    refine At.adv [] [(0, { told := [], gs := [], keep := some ([0], []) }), (1, { told := [(5, { ans := .yes })], gs := [(3, true), (4, true)], keep := some ([0, 3], []) })] 400 (ev := .cond (decide (x0 ≤ 122)) c43x12 c43x9 [.seq c43x3, .blk 0, .seq c43x6]) (σ' := mkS 27 [(0, .int .u8 x0), (3, .bool (decide (x0 ≤ 122)))] []) (q := [((decide ((97 : Int) ≤ x0)) == true) = true ∧ True, ((decide ((97 : Int) ≤ x0)) == true) = true ∧ True, True ∧ ((decide ((97 : Int) ≤ x0)) = true)]) (by kernel_rfl) ⟨⟨(gB h0 rfl), trivial⟩, ⟨(gB h0 rfl), trivial⟩, ⟨trivial, h0⟩, trivial⟩ ?_
    refine EvOk.cond (fun h1 => ?_) (fun h1 => ?_)
    · replace h := iteT h1 h
      refine At.adv [] [] 400 (ev := .cond (decide (x0 ≤ 122)) c43x4 c43x5 [.blk 0, .seq c43x6]) (σ' := mkS 27 [(0, .int .u8 x0), (3, .bool (decide (x0 ≤ 122)))] []) (q := []) (by kernel_rfl) trivial ?_
      refine EvOk.cond (fun _ => ?_) (fun hb => Bool.noConfusion (h1.symm.trans hb))
      refine At.gc [] [] (n := 27) (l := []) (bl := []) (by kernel_rfl) ?_
      refine At.adv [] [(5, { told := [], gs := [], keep := some ([2], []) })] 400 (ev := .ret) (σ' := mkS 27 [(2, .int .i64 1)] []) (q := []) (by kernel_rfl) trivial ?_
      refine EvOk.ret ?_
      obtain rfl := someE h
      exact Den.Ends.mk (.inl rfl) (d := .int .i64 1) (p := (True ∧ True) ∧ (True ∧ True)) (by kernel_rfl) ⟨⟨trivial, trivial⟩, ⟨trivial, trivial⟩⟩ (by kernel_rfl)
    · replace h := iteF h1 h
      refine At.gc [0] [] (n := 27) (l := [(0, .int .u8 x0)]) (bl := []) (by kernel_rfl) ?_
      refine At.adv [2] [] 400 (ev := .stop c43x10 [.seq c43x11, .seq c43x3, .blk 0, .seq c43x6]) (σ' := mkS 27 [(0, .int .u8 x0)] []) (q := []) (by kernel_rfl) trivial ?_
      exact (wj43x1 x0)  r h Γ
  · replace h := iteF h0 h
    refine At.adv [] [(0, { told := [], gs := [], keep := some ([0], []) }), (1, { told := [(5, { ans := .no })], gs := [(3, false), (4, false)], keep := some ([0, 3], []) })] 400 (ev := .cond false c43x12 c43x9 [.seq c43x3, .blk 0, .seq c43x6]) (σ' := mkS 27 [(0, .int .u8 x0), (3, .bool false)] []) (q := [((decide ((97 : Int) ≤ x0)) == true) = false, ((decide ((97 : Int) ≤ x0)) == true) = false, True ∧ ((decide ((97 : Int) ≤ x0)) = false)]) (by kernel_rfl) ⟨gB h0 rfl, gB h0 rfl, ⟨trivial, h0⟩, trivial⟩ ?_
    refine EvOk.cond (fun hb => Bool.noConfusion hb) (fun _ => ?_)
    refine At.gc [0] [] (n := 27) (l := [(0, .int .u8 x0)]) (bl := []) (by kernel_rfl) ?_
    refine At.adv [2] [] 400 (ev := .stop c43x10 [.seq c43x11, .seq c43x3, .blk 0, .seq c43x6]) (σ' := mkS 27 [(0, .int .u8 x0)] []) (q := []) (by kernel_rfl) trivial ?_
    exact (wj43x1 x0)  r h Γ
theorem w43 {x0 : Int} {r : Int} (h : m_name_class x0 = some r) : CallSpec Try.prog 43 [.int .u8 x0] (.int .i64 r) :=
  CallSpec.at2 b43 (n := 27) (l := [(0, .int .u8 x0)]) (by kernel_rfl) (by kernel_rfl) (by kernel_rfl) (by kernel_rfl) (by kernel_rfl) (Nat.le_of_ble_eq_true (by kernel_rfl)) (fun Γ => we43 x0 r h Γ)

/-! ### armature name.IsClassName -/
noncomputable def b37 : Code := Try.f37.body.getD .skip
noncomputable def c37x0 : Code := sub1 b37
noncomputable def c37x1 : Code := sub0 c37x0
noncomputable def c37x2 : Code := sub1 c37x1
noncomputable def c37x3 : Code := sub0 c37x2
noncomputable def c37x4 : Code := sub1 c37x2
noncomputable def c37x5 : Code := sub1 c37x0
noncomputable def c37x6 : Code := sub0 c37x5
noncomputable def c37x7 : Code := sub1 c37x5
noncomputable def c37x8 : Code := sub0 c37x7
noncomputable def c37x9 : Code := sub1 c37x8
noncomputable def c37x10 : Code := sub0 c37x9
noncomputable def c37x11 : Code := sub0 c37x10
noncomputable def c37x12 : Code := sub1 c37x11
noncomputable def c37x13 : Code := sub1 c37x12
noncomputable def c37x14 : Code := sub0 c37x13
noncomputable def c37x15 : Code := sub0 c37x14
noncomputable def c37x16 : Code := sub1 c37x15
noncomputable def c37x17 : Code := sub1 c37x16
noncomputable def c37x18 : Code := sub0 c37x17
noncomputable def c37x19 : Code := sub1 c37x18
noncomputable def c37x20 : Code := sub1 c37x19
noncomputable def c37x21 : Code := sub0 c37x20
noncomputable def c37x22 : Code := sub0 c37x21
noncomputable def c37x23 : Code := sub1 c37x21
noncomputable def c37x24 : Code := sub1 c37x20
noncomputable def c37x25 : Code := sub1 c37x13
noncomputable def c37x26 : Code := sub0 c37x19
noncomputable def c37x27 : Code := sub0 c37x12
noncomputable def c37x28 : Code := sub0 c37x27
noncomputable def c37x29 : Code := sub1 c37x27
noncomputable def c37x30 : Code := sub0 c37x24
noncomputable def c37x31 : Code := sub1 c37x24
noncomputable def c37x32 : Code := sub0 c37x23
noncomputable def c37x33 : Code := sub1 c37x23
noncomputable def c37x34 : Code := sub1 c37x7
def j37x5 (t0 : Bool × Int) : Option (Ctl (Bool × Int) (Bool ⊕ Bool)) :=
  (some (IntKind.wrap .i64 (t0.2 + (1 : Int)))).bind fun v7 =>
  some (.next (true, v7))
def j37x4 (t0 : Bool × Int) : Option (Ctl (Bool × Int) (Bool ⊕ Bool)) :=
  (some (IntKind.wrap .i64 (t0.2 + (1 : Int)))).bind fun v6 =>
  some (.next (false, v6))
def j37x3 (t0 : Bool × Int) : Option (Ctl (Bool × Int) (Bool ⊕ Bool)) :=
  if (!t0.1) = true then
    ((j37x4 t0) ) else
  (some (.done (.inr false)))
def j37x2 (t0 : Bool × Int) (v4 : Int) : Option (Ctl (Bool × Int) (Bool ⊕ Bool)) :=
  if (v4 == 1) = true then
    ((j37x4 t0) ) else
  (if (v4 == 2) = true then ((j37x3 t0) ) else
    (some (.done (.inr false))))
def l37x1 (x0 : List UInt8) (t0 : Bool × Int) : Option (Ctl (Bool × Int) (Bool ⊕ Bool)) :=
  if (decide (t0.2 < (x0.length : Int))) = true then
    ((getS x0 t0.2).bind fun v3 =>
    (m_name_class v3).bind fun v4 =>
    (getS x0 t0.2).bind fun v5 =>
    if (v5 == 47) = true then (if (!t0.1) = true then
      ((j37x5 t0) ) else
    ((j37x2 t0 v4) )) else
    ((j37x2 t0 v4) )) else
  (some (.done (.inl (t0.1))))
def j37x1 (x0 : List UInt8) : Option (Bool) :=
  (loopM (l37x1 x0) rounds (true, 0)).bind fun q1 =>
  match q1 with
  | .inl q0 => (some (!q0))
  | .inr y0 => (some y0)
def m_name_IsClassName (x0 : List UInt8) : Option (Bool) :=
  if (x0 == ([] : List UInt8)) = true then (some false) else
  (if (decide ((x0.length : Int) > 64)) = true then
    (some false) else
  ((j37x1 x0) ))
def st37x1 (x0 : List UInt8) : (Bool × Int) → S :=
  fun t0 => mkS 43 [(0, .str x0), (3, .bool t0.1), (14, .int .i64 (x0.length : Int)), (15, .int .i64 t0.2)] []
noncomputable def J37x1  : (Bool ⊕ Bool) → Exit → S → Prop :=
  JSum (JExit 0 (fun q0 : Bool => mkS 43 [(3, .bool q0)] [])) (JRet Try.prog Try.f37 (fun y : Bool => .bool y))
theorem wj37x5 (t0 : Bool × Int) (x0 : List UInt8) (r : Ctl (Bool × Int) (Bool ⊕ Bool)) (h : (j37x5 t0)  = some r) (Γ : Ctx) : EvOk Try.prog Γ (Round (st37x1 x0) J37x1 r) (mkS 43 [(0, .str x0), (14, .int .i64 (x0.length : Int)), (15, .int .i64 t0.2)] []) (.stop c37x26 [.blk 2, .blk 1, .seq c37x25]) := by
  refine EvOk.stop ?_
  obtain ⟨v7, e7, h⟩ := bindE h
  refine At.adv [] [(10, { told := [], gs := [], keep := some ([0, 3, 14, 15], []) }), (14, { told := [(0, { ans := .val (.int .i64 v7) })], gs := [], keep := some ([0, 3, 14, 15], []) })] 400 (ev := .normal) (σ' := mkS 43 [(0, .str x0), (3, .bool true), (14, .int .i64 (x0.length : Int)), (15, .int .i64 v7)] []) (q := [True ∧ (IntKind.wrap .i64 (t0.2 + (1 : Int)) = v7)]) (by kernel_rfl) ⟨⟨trivial, someE e7⟩, trivial⟩ ?_
  refine EvOk.normal ?_
  obtain rfl := someE h
  exact Round.next (by kernel_rfl)
theorem wj37x4 (t0 : Bool × Int) (x0 : List UInt8) (r : Ctl (Bool × Int) (Bool ⊕ Bool)) (h : (j37x4 t0)  = some r) (Γ : Ctx) : EvOk Try.prog Γ (Round (st37x1 x0) J37x1 r) (mkS 43 [(0, .str x0), (14, .int .i64 (x0.length : Int)), (15, .int .i64 t0.2)] []) (.stop c37x30 [.blk 2, .blk 1, .seq c37x25]) := by
  refine EvOk.stop ?_
  obtain ⟨v6, e6, h⟩ := bindE h
  refine At.adv [] [(13, { told := [], gs := [], keep := some ([0, 3, 14, 15], []) }), (14, { told := [(0, { ans := .val (.int .i64 v6) })], gs := [], keep := some ([0, 3, 14, 15], []) })] 400 (ev := .normal) (σ' := mkS 43 [(0, .str x0), (3, .bool false), (14, .int .i64 (x0.length : Int)), (15, .int .i64 v6)] []) (q := [True ∧ (IntKind.wrap .i64 (t0.2 + (1 : Int)) = v6)]) (by kernel_rfl) ⟨⟨trivial, someE e6⟩, trivial⟩ ?_
  refine EvOk.normal ?_
  obtain rfl := someE h
  exact Round.next (by kernel_rfl)
theorem wj37x3 (t0 : Bool × Int) (x0 : List UInt8) (r : Ctl (Bool × Int) (Bool ⊕ Bool)) (h : (j37x3 t0)  = some r) (Γ : Ctx) : EvOk Try.prog Γ (Round (st37x1 x0) J37x1 r) (mkS 43 [(0, .str x0), (14, .int .i64 (x0.length : Int)), (15, .int .i64 t0.2), (31, .bool (!t0.1))] []) (.cond (!t0.1) c37x30 c37x31 [.blk 2, .blk 1, .seq c37x25]) := by
  refine EvOk.cond (fun h11 => ?_) (fun h11 => ?_)
  · replace h := iteT h11 h
    refine At.gc [0, 14, 15] [] (n := 43) (l := [(0, .str x0), (14, .int .i64 (x0.length : Int)), (15, .int .i64 t0.2)]) (bl := []) (by kernel_rfl) ?_
    refine At.adv [13] [] 400 (ev := .stop c37x30 [.blk 2, .blk 1, .seq c37x25]) (σ' := mkS 43 [(0, .str x0), (14, .int .i64 (x0.length : Int)), (15, .int .i64 t0.2)] []) (q := []) (by kernel_rfl) trivial ?_
    exact (wj37x4 t0 x0)  r h Γ
  · replace h := iteF h11 h
    refine At.gc [] [] (n := 43) (l := []) (bl := []) (by kernel_rfl) ?_
    refine At.adv [] [(8, { told := [], gs := [], keep := some ([2], []) })] 400 (ev := .ret) (σ' := mkS 43 [(2, .bool false)] []) (q := []) (by kernel_rfl) trivial ?_
    refine EvOk.ret ?_
    obtain rfl := someE h
    exact Round.done neRet ⟨rfl, Den.Ends.mk (.inl rfl) (d := .bool false) (p := (True ∧ True) ∧ (True ∧ True)) (by kernel_rfl) ⟨⟨trivial, trivial⟩, ⟨trivial, trivial⟩⟩ (by kernel_rfl)⟩
theorem wj37x2 (t0 : Bool × Int) (v4 : Int) (x0 : List UInt8) (r : Ctl (Bool × Int) (Bool ⊕ Bool)) (h : (j37x2 t0 v4)  = some r) (Γ : Ctx) : EvOk Try.prog Γ (Round (st37x1 x0) J37x1 r) (mkS 43 [(0, .str x0), (3, .bool t0.1), (5, .int .i64 v4), (14, .int .i64 (x0.length : Int)), (15, .int .i64 t0.2)] []) (.stop c37x22 [.seq c37x23, .seq c37x24, .blk 2, .blk 1, .seq c37x25]) := by
  refine EvOk.stop ?_
  refine At.adv [] [(11, { told := [], gs := [], keep := some ([0, 3, 5, 14, 15, 31], []) })] 400 (ev := .cond (v4 == 1) c37x32 c37x33 [.seq c37x24, .blk 2, .blk 1, .seq c37x25]) (σ' := mkS 43 [(0, .str x0), (3, .bool t0.1), (5, .int .i64 v4), (14, .int .i64 (x0.length : Int)), (15, .int .i64 t0.2), (31, .bool (v4 == 1))] []) (q := []) (by kernel_rfl) trivial ?_
  refine EvOk.cond (fun h9 => ?_) (fun h9 => ?_)
  · replace h := iteT h9 h
    refine At.gc [0, 14, 15, 31] [] (n := 43) (l := [(0, .str x0), (14, .int .i64 (x0.length : Int)), (15, .int .i64 t0.2), (31, .bool (v4 == 1))]) (bl := []) (by kernel_rfl) ?_
    refine At.adv [] [] 400 (ev := .cond (v4 == 1) c37x30 c37x31 [.blk 2, .blk 1, .seq c37x25]) (σ' := mkS 43 [(0, .str x0), (14, .int .i64 (x0.length : Int)), (15, .int .i64 t0.2), (31, .bool (v4 == 1))] []) (q := []) (by kernel_rfl) trivial ?_
    refine EvOk.cond (fun _ => ?_) (fun hb => Bool.noConfusion (h9.symm.trans hb))
    refine At.gc [0, 14, 15] [] (n := 43) (l := [(0, .str x0), (14, .int .i64 (x0.length : Int)), (15, .int .i64 t0.2)]) (bl := []) (by kernel_rfl) ?_
    refine At.adv [13] [] 400 (ev := .stop c37x30 [.blk 2, .blk 1, .seq c37x25]) (σ' := mkS 43 [(0, .str x0), (14, .int .i64 (x0.length : Int)), (15, .int .i64 t0.2)] []) (q := []) (by kernel_rfl) trivial ?_
    exact (wj37x4 t0 x0)  r h Γ
  · replace h := iteF h9 h
    refine At.gc [0, 3, 5, 14, 15] [] (n := 43) (l := [(0, .str x0), (3, .bool t0.1), (5, .int .i64 v4), (14, .int .i64 (x0.length : Int)), (15, .int .i64 t0.2)]) (bl := []) (by kernel_rfl) ?_
    rcases Bool.eq_false_or_eq_true (v4 == 2) with h10 | h10
    · replace h := iteT h10 h
      refine At.adv [] [(12, { told := [(5, { ans := .yes })], gs := [(3, true), (4, true)], keep := some ([0, 14, 15, 31], []) })] 400 (ev := .cond (!t0.1) c37x30 c37x31 [.blk 2, .blk 1, .seq c37x25]) (σ' := mkS 43 [(0, .str x0), (14, .int .i64 (x0.length : Int)), (15, .int .i64 t0.2), (31, .bool (!t0.1))] []) (q := [((v4 == 2) == true) = true ∧ True, ((v4 == 2) == true) = true ∧ True, True ∧ ((v4 == 2) = true)]) (by kernel_rfl) ⟨⟨(gB h10 rfl), trivial⟩, ⟨(gB h10 rfl), trivial⟩, ⟨trivial, h10⟩, trivial⟩ ?_
      exact (wj37x3 t0 x0)  r h Γ
    · replace h := iteF h10 h
      refine At.adv [] [(12, { told := [(5, { ans := .no })], gs := [(3, false), (4, false)], keep := some ([0, 14, 15, 31], []) })] 400 (ev := .cond false c37x30 c37x31 [.blk 2, .blk 1, .seq c37x25]) (σ' := mkS 43 [(0, .str x0), (14, .int .i64 (x0.length : Int)), (15, .int .i64 t0.2), (31, .bool false)] []) (q := [((v4 == 2) == true) = false, ((v4 == 2) == true) = false, True ∧ ((v4 == 2) = false)]) (by kernel_rfl) ⟨gB h10 rfl, gB h10 rfl, ⟨trivial, h10⟩, trivial⟩ ?_
      refine EvOk.cond (fun hb => Bool.noConfusion hb) (fun _ => ?_)
      refine At.gc [] [] (n := 43) (l := []) (bl := []) (by kernel_rfl) ?_
      refine At.adv [] [(8, { told := [], gs := [], keep := some ([2], []) })] 400 (ev := .ret) (σ' := mkS 43 [(2, .bool false)] []) (q := []) (by kernel_rfl) trivial ?_
      refine EvOk.ret ?_
      obtain rfl := someE h
      exact Round.done neRet ⟨rfl, Den.Ends.mk (.inl rfl) (d := .bool false) (p := (True ∧ True) ∧ (True ∧ True)) (by kernel_rfl) ⟨⟨trivial, trivial⟩, ⟨trivial, trivial⟩⟩ (by kernel_rfl)⟩
theorem wl37x1 (x0 : List UInt8) (t0 : Bool × Int) (r : Ctl (Bool × Int) (Bool ⊕ Bool)) (h : (l37x1 x0) t0 = some r) (Γ : Ctx) : At Try.prog Γ c37x11 [] (Round (st37x1 x0) J37x1 r) ((st37x1 x0) t0) := by
  refine At.adv [] [(5, { told := [], gs := [], keep := some ([0, 3, 14, 15, 16], []) })] 400 (ev := .cond (decide (t0.2 < (x0.length : Int))) c37x28 c37x29 [.seq c37x13]) (σ' := mkS 43 [(0, .str x0), (3, .bool t0.1), (14, .int .i64 (x0.length : Int)), (15, .int .i64 t0.2), (16, .bool (decide (t0.2 < (x0.length : Int))))] []) (q := []) (by kernel_rfl) trivial ?_
  refine EvOk.cond (fun h6 => ?_) (fun h6 => ?_)
  · replace h := iteT h6 h
    refine At.gc [0, 3, 14, 15] [] (n := 43) (l := [(0, .str x0), (3, .bool t0.1), (14, .int .i64 (x0.length : Int)), (15, .int .i64 t0.2)]) (bl := []) (by kernel_rfl) ?_
    obtain ⟨v3, e3, h⟩ := bindE h
    obtain ⟨v4, e4, h⟩ := bindE h
    obtain ⟨v5, e5, h⟩ := bindE h
    rcases Bool.eq_false_or_eq_true (v5 == 47) with h7 | h7
    · replace h := iteT h7 h
      refine At.adv [] [(6, { told := [], gs := [], keep := some ([0, 3, 4, 14, 15], []) }), (7, { told := [(2, { ans := .val (.int .u8 v3) }), (3, { ans := .val (.int .i64 v4), args := [.int .u8 v3] })], gs := [], keep := some ([0, 3, 4, 5, 14, 15], []) }), (9, { told := [(2, { ans := .val (.int .u8 v5) }), (7, { ans := .yes })], gs := [(5, true), (6, true)], keep := some ([0, 3, 5, 14, 15, 22], []) })] 400 (ev := .cond (!t0.1) c37x26 c37x20 [.blk 2, .blk 1, .seq c37x25]) (σ' := mkS 43 [(0, .str x0), (3, .bool t0.1), (5, .int .i64 v4), (14, .int .i64 (x0.length : Int)), (15, .int .i64 t0.2), (22, .bool (!t0.1))] []) (q := [True ∧ (getS x0 t0.2 = some v3), True ∧ ((True ∧ True) ∧ ([.int .u8 v3] : List D) = [.int .u8 v3] ∧ CallAny Try.prog 43 [.int .u8 v3] (.int .i64 v4)), True ∧ (getS x0 t0.2 = some v5), ((v5 == 47) == true) = true ∧ True, ((v5 == 47) == true) = true ∧ True, True ∧ ((v5 == 47) = true)]) (by kernel_rfl) ⟨⟨trivial, e3⟩, ⟨trivial, ⟨⟨trivial, trivial⟩, rfl, .inl (w43 e4)⟩⟩, ⟨trivial, e5⟩, ⟨(gB h7 rfl), trivial⟩, ⟨(gB h7 rfl), trivial⟩, ⟨trivial, h7⟩, trivial⟩ ?_
      refine EvOk.cond (fun h8 => ?_) (fun h8 => ?_)
      · replace h := iteT h8 h
        refine At.gc [0, 14, 15] [] (n := 43) (l := [(0, .str x0), (14, .int .i64 (x0.length : Int)), (15, .int .i64 t0.2)]) (bl := []) (by kernel_rfl) ?_
        refine At.adv [10] [] 400 (ev := .stop c37x26 [.blk 2, .blk 1, .seq c37x25]) (σ' := mkS 43 [(0, .str x0), (14, .int .i64 (x0.length : Int)), (15, .int .i64 t0.2)] []) (q := []) (by kernel_rfl) trivial ?_
        exact (wj37x5 t0 x0)  r h Γ
      · replace h := iteF h8 h
        refine At.gc [0, 3, 5, 14, 15] [] (n := 43) (l := [(0, .str x0), (3, .bool t0.1), (5, .int .i64 v4), (14, .int .i64 (x0.length : Int)), (15, .int .i64 t0.2)]) (bl := []) (by kernel_rfl) ?_
        refine At.adv [11] [] 400 (ev := .stop c37x22 [.seq c37x23, .seq c37x24, .blk 2, .blk 1, .seq c37x25]) (σ' := mkS 43 [(0, .str x0), (3, .bool t0.1), (5, .int .i64 v4), (14, .int .i64 (x0.length : Int)), (15, .int .i64 t0.2)] []) (q := []) (by kernel_rfl) trivial ?_
        exact (wj37x2 t0 v4 x0)  r h Γ
    · replace h := iteF h7 h
      refine At.adv [] [(6, { told := [], gs := [], keep := some ([0, 3, 4, 14, 15], []) }), (7, { told := [(2, { ans := .val (.int .u8 v3) }), (3, { ans := .val (.int .i64 v4), args := [.int .u8 v3] })], gs := [], keep := some ([0, 3, 4, 5, 14, 15], []) }), (9, { told := [(2, { ans := .val (.int .u8 v5) }), (7, { ans := .no })], gs := [(5, false), (6, false)], keep := some ([0, 3, 5, 14, 15, 22], []) })] 400 (ev := .cond false c37x26 c37x20 [.blk 2, .blk 1, .seq c37x25]) (σ' := mkS 43 [(0, .str x0), (3, .bool t0.1), (5, .int .i64 v4), (14, .int .i64 (x0.length : Int)), (15, .int .i64 t0.2), (22, .bool false)] []) (q := [True ∧ (getS x0 t0.2 = some v3), True ∧ ((True ∧ True) ∧ ([.int .u8 v3] : List D) = [.int .u8 v3] ∧ CallAny Try.prog 43 [.int .u8 v3] (.int .i64 v4)), True ∧ (getS x0 t0.2 = some v5), ((v5 == 47) == true) = false, ((v5 == 47) == true) = false, True ∧ ((v5 == 47) = false)]) (by kernel_rfl) ⟨⟨trivial, e3⟩, ⟨trivial, ⟨⟨trivial, trivial⟩, rfl, .inl (w43 e4)⟩⟩, ⟨trivial, e5⟩, gB h7 rfl, gB h7 rfl, ⟨trivial, h7⟩, trivial⟩ ?_
      refine EvOk.cond (fun hb => Bool.noConfusion hb) (fun _ => ?_)
      refine At.gc [0, 3, 5, 14, 15] [] (n := 43) (l := [(0, .str x0), (3, .bool t0.1), (5, .int .i64 v4), (14, .int .i64 (x0.length : Int)), (15, .int .i64 t0.2)]) (bl := []) (by kernel_rfl) ?_
      refine At.adv [11] [] 400 (ev := .stop c37x22 [.seq c37x23, .seq c37x24, .blk 2, .blk 1, .seq c37x25]) (σ' := mkS 43 [(0, .str x0), (3, .bool t0.1), (5, .int .i64 v4), (14, .int .i64 (x0.length : Int)), (15, .int .i64 t0.2)] []) (q := []) (by kernel_rfl) trivial ?_
      exact (wj37x2 t0 v4 x0)  r h Γ
  · replace h := iteF h6 h
    refine At.gc [3] [] (n := 43) (l := [(3, .bool t0.1)]) (bl := []) (by kernel_rfl) ?_
    refine At.adv [] [] 400 (ev := .exit 0) (σ' := mkS 43 [(3, .bool t0.1)] []) (q := []) (by kernel_rfl) trivial ?_
    refine EvOk.exit ?_
    obtain rfl := someE h
    exact Round.done (neExit _) ⟨rfl, by kernel_rfl⟩
theorem wj37x1 (x0 : List UInt8) (r : Bool) (h : (j37x1 x0)  = some r) (Γ : Ctx) : EvOk Try.prog Γ (Den.Ends Try.prog Try.f37 (.bool r)) (mkS 43 [(0, .str x0)] []) (.stop c37x6 [.seq c37x7]) := by
  refine EvOk.stop ?_
  refine At.adv [] [(3, { told := [], gs := [], keep := some ([0, 3], []) }), (4, { told := [], gs := [], keep := some ([0, 3, 14, 15], []) })] 400 (ev := .loop c37x11 [.blk 0, .seq c37x34]) (σ' := mkS 43 [(0, .str x0), (3, .bool true), (14, .int .i64 (x0.length : Int)), (15, .int .i64 0)] []) (q := []) (by kernel_rfl) trivial ?_
  refine EvOk.loop ?_
  obtain ⟨q1, e8, h⟩ := bindE h
  refine At.loop (l37x1 x0) (st37x1 x0) J37x1 (true, 0) e8 (by kernel_rfl) (fun t x hx => (wl37x1 x0) t x hx Γ) ?_
  intro e σ' hJ
  rcases q1 with q0 | y0
  · obtain ⟨rfl, rfl⟩ := hJ
    refine At.exitK (K' := [.seq c37x34]) (by kernel_rfl) ?_
    refine At.advN [] [(15, { told := [], gs := [], keep := some ([2], []) })] 400 (ev := .ret) (σ' := mkS 43 [(2, .bool (!q0))] []) (q := []) (by kernel_rfl) trivial ?_
    refine EvOk.ret ?_
    obtain rfl := someE h
    exact Den.Ends.mk (.inl rfl) (d := .bool (!q0)) (p := (True ∧ True) ∧ (True ∧ True)) (by kernel_rfl) ⟨⟨trivial, trivial⟩, ⟨trivial, trivial⟩⟩ (by kernel_rfl)
  · obtain rfl := someE h
    obtain ⟨rfl, hE⟩ := hJ
    exact At.retK hE
theorem we37 (x0 : List UInt8) (r : Bool) (h : m_name_IsClassName x0 = some r) (Γ : Ctx) : At Try.prog Γ b37 [] (Den.Ends Try.prog Try.f37 (.bool r)) (mkS 43 [(0, .str x0)] []) := by
  rcases Bool.eq_false_or_eq_true (x0 == ([] : List UInt8)) with h0 | h0
  · replace h := iteT h0 h
    refine At.adv [] [(0, { told := [], gs := [], keep := some ([0], []) }), (1, { told := [(6, { ans := .yes })], gs := [(3, false), (4, false), (5, false)], keep := some ([0, 12], []) })] 400 (ev := .cond true c37x3 c37x4 [.seq c37x5]) (σ' := mkS 43 [(0, .str x0), (12, .bool true)] []) (q := [((x0 == ([] : List UInt8)) == false) = false, ((x0 == ([] : List UInt8)) == false) = false, ((x0 == ([] : List UInt8)) == false) = false, True ∧ ((x0 == ([] : List UInt8)) = true)]) (by kernel_rfl) ⟨gB h0 rfl, gB h0 rfl, gB h0 rfl, ⟨trivial, h0⟩, trivial⟩ ?_
    refine EvOk.cond (fun _ => ?_) (fun hb => Bool.noConfusion hb)
    refine At.gc [] [] (n := 43) (l := []) (bl := []) (by kernel_rfl) ?_
    refine At.adv [] [(2, { told := [], gs := [], keep := some ([2], []) })] 400 (ev := .ret) (σ' := mkS 43 [(2, .bool false)] []) (q := []) (by kernel_rfl) trivial ?_
    refine EvOk.ret ?_
    obtain rfl := someE h
    exact Den.Ends.mk (.inl rfl) (d := .bool false) (p := (True ∧ True) ∧ (True ∧ True)) (by kernel_rfl) ⟨⟨trivial, trivial⟩, ⟨trivial, trivial⟩⟩ (by kernel_rfl)
  · replace h := iteF h0 h
    refine At.adv [] [(0, { told := [], gs := [], keep := some ([0], []) }), (1, { told := [(6, { ans := .no })], gs := [(3, true), (4, true), (5, true)], keep := some ([0, 12], []) })] 400 (ev := .cond (decide ((x0.length : Int) > 64)) c37x3 c37x4 [.seq c37x5]) (σ' := mkS 43 [(0, .str x0), (12, .bool (decide ((x0.length : Int) > 64)))] []) (q := [((x0 == ([] : List UInt8)) == false) = true ∧ True, ((x0 == ([] : List UInt8)) == false) = true ∧ True, ((x0 == ([] : List UInt8)) == false) = true ∧ True, True ∧ ((x0 == ([] : List UInt8)) = false)]) (by kernel_rfl) ⟨⟨(gB h0 rfl), trivial⟩, ⟨(gB h0 rfl), trivial⟩, ⟨(gB h0 rfl), trivial⟩, ⟨trivial, h0⟩, trivial⟩ ?_
    refine EvOk.cond (fun h1 => ?_) (fun h1 => ?_)
    · replace h := iteT h1 h
      refine At.gc [] [] (n := 43) (l := []) (bl := []) (by kernel_rfl) ?_
      refine At.adv [] [(2, { told := [], gs := [], keep := some ([2], []) })] 400 (ev := .ret) (σ' := mkS 43 [(2, .bool false)] []) (q := []) (by kernel_rfl) trivial ?_
      refine EvOk.ret ?_
      obtain rfl := someE h
      exact Den.Ends.mk (.inl rfl) (d := .bool false) (p := (True ∧ True) ∧ (True ∧ True)) (by kernel_rfl) ⟨⟨trivial, trivial⟩, ⟨trivial, trivial⟩⟩ (by kernel_rfl)
    · replace h := iteF h1 h
      refine At.gc [0] [] (n := 43) (l := [(0, .str x0)]) (bl := []) (by kernel_rfl) ?_
      refine At.adv [3] [] 400 (ev := .stop c37x6 [.seq c37x7]) (σ' := mkS 43 [(0, .str x0)] []) (q := []) (by kernel_rfl) trivial ?_
      exact (wj37x1 x0)  r h Γ
theorem w37 {x0 : List UInt8} {r : Bool} (h : m_name_IsClassName x0 = some r) : CallSpec Try.prog 37 [.str x0] (.bool r) :=
  CallSpec.at2 b37 (n := 43) (l := [(0, .str x0)]) (by kernel_rfl) (by kernel_rfl) (by kernel_rfl) (by kernel_rfl) (by kernel_rfl) (Nat.le_of_ble_eq_true (by kernel_rfl)) (fun Γ => we37 x0 r h Γ)

/-! ### armature desc.Valid -/
noncomputable def b25 : Code := Try.f25.body.getD .skip
noncomputable def c25x0 : Code := sub1 b25
noncomputable def c25x1 : Code := sub0 c25x0
noncomputable def c25x2 : Code := sub1 c25x1
noncomputable def c25x3 : Code := sub0 c25x2
noncomputable def c25x4 : Code := sub1 c25x2
noncomputable def c25x5 : Code := sub1 c25x0
noncomputable def c25x6 : Code := sub0 c25x5
noncomputable def c25x7 : Code := sub0 c25x6
noncomputable def c25x8 : Code := sub1 c25x6
noncomputable def c25x9 : Code := sub1 c25x5
noncomputable def c25x10 : Code := sub0 c25x8
noncomputable def c25x11 : Code := sub1 c25x10
noncomputable def c25x12 : Code := sub0 c25x11
noncomputable def c25x13 : Code := sub1 c25x11
noncomputable def c25x14 : Code := sub0 c25x10
noncomputable def c25x15 : Code := sub1 c25x14
noncomputable def c25x16 : Code := sub0 c25x15
noncomputable def c25x17 : Code := sub1 c25x15
noncomputable def c25x18 : Code := sub0 c25x13
noncomputable def c25x19 : Code := sub1 c25x13
noncomputable def c25x20 : Code := sub1 c25x19
noncomputable def c25x21 : Code := sub1 c25x20
noncomputable def c25x22 : Code := sub0 c25x21
noncomputable def c25x23 : Code := sub1 c25x21
noncomputable def c25x24 : Code := sub0 c25x19
def j25x3 (x0 : T_api_Type) : Option (Bool) :=
  if (x0.f_Base == 86) = true then
    (if (x0.f_Dim == 0) = true then (some (x0.f_Name == ([] : List UInt8))) else
    (some false)) else
  (if (x0.f_Base == 76) = true then
      ((m_name_IsClassName x0.f_Name).bind fun v0 =>
      some v0) else
    (some false))
def j25x2 (x0 : T_api_Type) : Option (Bool) :=
  if (x0.f_Base == 74) = true then
    (some (x0.f_Name == ([] : List UInt8))) else
  ((j25x3 x0) )
def j25x1 (x0 : T_api_Type) : Option (Bool) :=
  if (x0.f_Base == 73) = true then
    (some (x0.f_Name == ([] : List UInt8))) else
  ((j25x2 x0) )
def m_desc_Valid (x0 : T_api_Type) : Option (Bool) :=
  if (decide (x0.f_Dim < 0)) = true then (some false) else
  (if (decide (x0.f_Dim > 8)) = true then
    (some false) else
  ((j25x1 x0) ))
theorem wj25x3 (x0 : T_api_Type) (r : Bool) (h : (j25x3 x0)  = some r) (Γ : Ctx) : EvOk Try.prog Γ (Den.Ends Try.prog Try.f25 (.bool r)) (mkS 34 [(1, .ptr [.int .i64 x0.f_Dim, .int .u8 x0.f_Base, .str x0.f_Name]), (12, .int .u8 x0.f_Base)] []) (.stop c25x18 [.seq c25x19, .blk 0, .seq c25x9]) := by
  refine EvOk.stop ?_
  refine At.adv [] [(7, { told := [], gs := [], keep := some ([1, 12, 19], []) })] 400 (ev := .cond (x0.f_Base == 86) c25x24 c25x20 [.blk 0, .seq c25x9]) (σ' := mkS 34 [(1, .ptr [.int .i64 x0.f_Dim, .int .u8 x0.f_Base, .str x0.f_Name]), (12, .int .u8 x0.f_Base), (19, .bool (x0.f_Base == 86))] []) (q := []) (by kernel_rfl) trivial ?_
  refine EvOk.cond (fun h4 => ?_) (fun h4 => ?_)
  · replace h := iteT h4 h
    refine At.gc [1] [] (n := 34) (l := [(1, .ptr [.int .i64 x0.f_Dim, .int .u8 x0.f_Base, .str x0.f_Name])]) (bl := []) (by kernel_rfl) ?_
    rcases Bool.eq_false_or_eq_true (x0.f_Dim == 0) with h5 | h5
    · replace h := iteT h5 h
      refine At.adv [] [(8, { told := [(7, { ans := .yes })], gs := [(4, true), (5, true), (6, true)], keep := some ([2], []) })] 400 (ev := .ret) (σ' := mkS 34 [(2, .bool (x0.f_Name == ([] : List UInt8)))] []) (q := [((x0.f_Dim == 0) == true) = true ∧ True, ((x0.f_Dim == 0) == true) = true ∧ True, ((x0.f_Dim == 0) == true) = true ∧ True, True ∧ ((x0.f_Dim == 0) = true)]) (by kernel_rfl) ⟨⟨(gB h5 rfl), trivial⟩, ⟨(gB h5 rfl), trivial⟩, ⟨(gB h5 rfl), trivial⟩, ⟨trivial, h5⟩, trivial⟩ ?_
      refine EvOk.ret ?_
      obtain rfl := someE h
      exact Den.Ends.mk (.inl rfl) (d := .bool (x0.f_Name == ([] : List UInt8))) (p := (True ∧ True) ∧ (True ∧ True)) (by kernel_rfl) ⟨⟨trivial, trivial⟩, ⟨trivial, trivial⟩⟩ (by kernel_rfl)
    · replace h := iteF h5 h
      refine At.adv [] [(8, { told := [(7, { ans := .no })], gs := [(4, false), (5, false), (6, false)], keep := some ([2], []) })] 400 (ev := .ret) (σ' := mkS 34 [(2, .bool false)] []) (q := [((x0.f_Dim == 0) == true) = false, ((x0.f_Dim == 0) == true) = false, ((x0.f_Dim == 0) == true) = false, True ∧ ((x0.f_Dim == 0) = false)]) (by kernel_rfl) ⟨gB h5 rfl, gB h5 rfl, gB h5 rfl, ⟨trivial, h5⟩, trivial⟩ ?_
      refine EvOk.ret ?_
      obtain rfl := someE h
      exact Den.Ends.mk (.inl rfl) (d := .bool false) (p := (True ∧ True) ∧ (True ∧ True)) (by kernel_rfl) ⟨⟨trivial, trivial⟩, ⟨trivial, trivial⟩⟩ (by kernel_rfl)
  · replace h := iteF h4 h
    refine At.gc [1, 12] [] (n := 34) (l := [(1, .ptr [.int .i64 x0.f_Dim, .int .u8 x0.f_Base, .str x0.f_Name]), (12, .int .u8 x0.f_Base)]) (bl := []) (by kernel_rfl) ?_
    refine At.adv [] [(9, { told := [], gs := [], keep := some ([1, 29], []) })] 400 (ev := .cond (x0.f_Base == 76) c25x22 c25x23 [.blk 0, .seq c25x9]) (σ' := mkS 34 [(1, .ptr [.int .i64 x0.f_Dim, .int .u8 x0.f_Base, .str x0.f_Name]), (29, .bool (x0.f_Base == 76))] []) (q := []) (by kernel_rfl) trivial ?_
    refine EvOk.cond (fun h6 => ?_) (fun h6 => ?_)
    · replace h := iteT h6 h
      refine At.gc [1] [] (n := 34) (l := [(1, .ptr [.int .i64 x0.f_Dim, .int .u8 x0.f_Base, .str x0.f_Name])]) (bl := []) (by kernel_rfl) ?_
      obtain ⟨v0, e0, h⟩ := bindE h
      refine At.adv [] [(10, { told := [(2, { ans := .val (.bool v0), args := [.str x0.f_Name] })], gs := [], keep := some ([2], []) })] 400 (ev := .ret) (σ' := mkS 34 [(2, .bool v0)] []) (q := [True ∧ ((True ∧ True) ∧ ([.str x0.f_Name] : List D) = [.str x0.f_Name] ∧ CallAny Try.prog 37 [.str x0.f_Name] (.bool v0))]) (by kernel_rfl) ⟨⟨trivial, ⟨⟨trivial, trivial⟩, rfl, .inl (w37 e0)⟩⟩, trivial⟩ ?_
      refine EvOk.ret ?_
      obtain rfl := someE h
      exact Den.Ends.mk (.inl rfl) (d := .bool v0) (p := (True ∧ True) ∧ (True ∧ True)) (by kernel_rfl) ⟨⟨trivial, trivial⟩, ⟨trivial, trivial⟩⟩ (by kernel_rfl)
    · replace h := iteF h6 h
      refine At.gc [] [] (n := 34) (l := []) (bl := []) (by kernel_rfl) ?_
      refine At.adv [] [(11, { told := [], gs := [], keep := some ([2], []) })] 400 (ev := .ret) (σ' := mkS 34 [(2, .bool false)] []) (q := []) (by kernel_rfl) trivial ?_
      refine EvOk.ret ?_
      obtain rfl := someE h
      exact Den.Ends.mk (.inl rfl) (d := .bool false) (p := (True ∧ True) ∧ (True ∧ True)) (by kernel_rfl) ⟨⟨trivial, trivial⟩, ⟨trivial, trivial⟩⟩ (by kernel_rfl)
theorem wj25x2 (x0 : T_api_Type) (r : Bool) (h : (j25x2 x0)  = some r) (Γ : Ctx) : EvOk Try.prog Γ (Den.Ends Try.prog Try.f25 (.bool r)) (mkS 34 [(1, .ptr [.int .i64 x0.f_Dim, .int .u8 x0.f_Base, .str x0.f_Name]), (12, .int .u8 x0.f_Base), (13, .bool (x0.f_Base == 74))] []) (.cond (x0.f_Base == 74) c25x12 c25x13 [.blk 0, .seq c25x9]) := by
  refine EvOk.cond (fun h3 => ?_) (fun h3 => ?_)
  · replace h := iteT h3 h
    refine At.gc [1] [] (n := 34) (l := [(1, .ptr [.int .i64 x0.f_Dim, .int .u8 x0.f_Base, .str x0.f_Name])]) (bl := []) (by kernel_rfl) ?_
    refine At.adv [] [(6, { told := [], gs := [], keep := some ([2], []) })] 400 (ev := .ret) (σ' := mkS 34 [(2, .bool (x0.f_Name == ([] : List UInt8)))] []) (q := []) (by kernel_rfl) trivial ?_
    refine EvOk.ret ?_
    obtain rfl := someE h
    exact Den.Ends.mk (.inl rfl) (d := .bool (x0.f_Name == ([] : List UInt8))) (p := (True ∧ True) ∧ (True ∧ True)) (by kernel_rfl) ⟨⟨trivial, trivial⟩, ⟨trivial, trivial⟩⟩ (by kernel_rfl)
  · replace h := iteF h3 h
    refine At.gc [1, 12] [] (n := 34) (l := [(1, .ptr [.int .i64 x0.f_Dim, .int .u8 x0.f_Base, .str x0.f_Name]), (12, .int .u8 x0.f_Base)]) (bl := []) (by kernel_rfl) ?_
    refine At.adv [7] [] 400 (ev := .stop c25x18 [.seq c25x19, .blk 0, .seq c25x9]) (σ' := mkS 34 [(1, .ptr [.int .i64 x0.f_Dim, .int .u8 x0.f_Base, .str x0.f_Name]), (12, .int .u8 x0.f_Base)] []) (q := []) (by kernel_rfl) trivial ?_
    exact (wj25x3 x0)  r h Γ
theorem wj25x1 (x0 : T_api_Type) (r : Bool) (h : (j25x1 x0)  = some r) (Γ : Ctx) : EvOk Try.prog Γ (Den.Ends Try.prog Try.f25 (.bool r)) (mkS 34 [(1, .ptr [.int .i64 x0.f_Dim, .int .u8 x0.f_Base, .str x0.f_Name])] []) (.stop c25x7 [.seq c25x8, .seq c25x9]) := by
  refine EvOk.stop ?_
  refine At.adv [] [(3, { told := [], gs := [], keep := some ([1, 12], []) }), (4, { told := [], gs := [], keep := some ([1, 12, 13], []) })] 400 (ev := .cond (x0.f_Base == 73) c25x16 c25x17 [.seq c25x11, .blk 0, .seq c25x9]) (σ' := mkS 34 [(1, .ptr [.int .i64 x0.f_Dim, .int .u8 x0.f_Base, .str x0.f_Name]), (12, .int .u8 x0.f_Base), (13, .bool (x0.f_Base == 73))] []) (q := []) (by kernel_rfl) trivial ?_
  refine EvOk.cond (fun h2 => ?_) (fun h2 => ?_)
  · replace h := iteT h2 h
    refine At.adv [] [] 400 (ev := .cond (x0.f_Base == 73) c25x12 c25x13 [.blk 0, .seq c25x9]) (σ' := mkS 34 [(1, .ptr [.int .i64 x0.f_Dim, .int .u8 x0.f_Base, .str x0.f_Name]), (12, .int .u8 x0.f_Base), (13, .bool (x0.f_Base == 73))] []) (q := []) (by kernel_rfl) trivial ?_
    refine EvOk.cond (fun _ => ?_) (fun hb => Bool.noConfusion (h2.symm.trans hb))
    refine At.gc [1] [] (n := 34) (l := [(1, .ptr [.int .i64 x0.f_Dim, .int .u8 x0.f_Base, .str x0.f_Name])]) (bl := []) (by kernel_rfl) ?_
    refine At.adv [] [(6, { told := [], gs := [], keep := some ([2], []) })] 400 (ev := .ret) (σ' := mkS 34 [(2, .bool (x0.f_Name == ([] : List UInt8)))] []) (q := []) (by kernel_rfl) trivial ?_
    refine EvOk.ret ?_
    obtain rfl := someE h
    exact Den.Ends.mk (.inl rfl) (d := .bool (x0.f_Name == ([] : List UInt8))) (p := (True ∧ True) ∧ (True ∧ True)) (by kernel_rfl) ⟨⟨trivial, trivial⟩, ⟨trivial, trivial⟩⟩ (by kernel_rfl)
  · replace h := iteF h2 h
    refine At.gc [1, 12] [] (n := 34) (l := [(1, .ptr [.int .i64 x0.f_Dim, .int .u8 x0.f_Base, .str x0.f_Name]), (12, .int .u8 x0.f_Base)]) (bl := []) (by kernel_rfl) ?_
    refine At.adv [] [(5, { told := [], gs := [], keep := some ([1, 12, 13], []) })] 400 (ev := .cond (x0.f_Base == 74) c25x12 c25x13 [.blk 0, .seq c25x9]) (σ' := mkS 34 [(1, .ptr [.int .i64 x0.f_Dim, .int .u8 x0.f_Base, .str x0.f_Name]), (12, .int .u8 x0.f_Base), (13, .bool (x0.f_Base == 74))] []) (q := []) (by kernel_rfl) trivial ?_
    exact (wj25x2 x0)  r h Γ
theorem we25 (x0 : T_api_Type) (r : Bool) (h : m_desc_Valid x0 = some r) (Γ : Ctx) : At Try.prog Γ b25 [] (Den.Ends Try.prog Try.f25 (.bool r)) (mkS 34 [(0, .agg (row_T_api_Type x0))] []) := by
  rcases Bool.eq_false_or_eq_true (decide (x0.f_Dim < 0)) with h0 | h0
  · replace h := iteT h0 h
    refine At.adv [] [(0, { told := [(0, { ro := true })], gs := [], keep := some ([1], []) }), (1, { told := [(7, { ans := .yes })], gs := [(4, false), (5, false), (6, false)], keep := some ([1, 10], []) })] 400 (ev := .cond true c25x3 c25x4 [.seq c25x5]) (σ' := mkS 34 [(1, .ptr [.int .i64 x0.f_Dim, .int .u8 x0.f_Base, .str x0.f_Name]), (10, .bool true)] []) (q := [((decide (x0.f_Dim < 0)) == false) = false, ((decide (x0.f_Dim < 0)) == false) = false, ((decide (x0.f_Dim < 0)) == false) = false, True ∧ ((decide (x0.f_Dim < 0)) = true)]) (by kernel_rfl) ⟨gB h0 rfl, gB h0 rfl, gB h0 rfl, ⟨trivial, h0⟩, trivial⟩ ?_
    refine EvOk.cond (fun _ => ?_) (fun hb => Bool.noConfusion hb)
    refine At.gc [] [] (n := 34) (l := []) (bl := []) (by kernel_rfl) ?_
    refine At.adv [] [(2, { told := [], gs := [], keep := some ([2], []) })] 400 (ev := .ret) (σ' := mkS 34 [(2, .bool false)] []) (q := []) (by kernel_rfl) trivial ?_
    refine EvOk.ret ?_
    obtain rfl := someE h
    exact Den.Ends.mk (.inl rfl) (d := .bool false) (p := (True ∧ True) ∧ (True ∧ True)) (by kernel_rfl) ⟨⟨trivial, trivial⟩, ⟨trivial, trivial⟩⟩ (by kernel_rfl)
  · replace h := iteF h0 h
    refine At.adv [] [(0, { told := [(0, { ro := true })], gs := [], keep := some ([1], []) }), (1, { told := [(7, { ans := .no })], gs := [(4, true), (5, true), (6, true)], keep := some ([1, 10], []) })] 400 (ev := .cond (decide (x0.f_Dim > 8)) c25x3 c25x4 [.seq c25x5]) (σ' := mkS 34 [(1, .ptr [.int .i64 x0.f_Dim, .int .u8 x0.f_Base, .str x0.f_Name]), (10, .bool (decide (x0.f_Dim > 8)))] []) (q := [((decide (x0.f_Dim < 0)) == false) = true ∧ True, ((decide (x0.f_Dim < 0)) == false) = true ∧ True, ((decide (x0.f_Dim < 0)) == false) = true ∧ True, True ∧ ((decide (x0.f_Dim < 0)) = false)]) (by kernel_rfl) ⟨⟨(gB h0 rfl), trivial⟩, ⟨(gB h0 rfl), trivial⟩, ⟨(gB h0 rfl), trivial⟩, ⟨trivial, h0⟩, trivial⟩ ?_
    refine EvOk.cond (fun h1 => ?_) (fun h1 => ?_)
    · replace h := iteT h1 h
      refine At.gc [] [] (n := 34) (l := []) (bl := []) (by kernel_rfl) ?_
      refine At.adv [] [(2, { told := [], gs := [], keep := some ([2], []) })] 400 (ev := .ret) (σ' := mkS 34 [(2, .bool false)] []) (q := []) (by kernel_rfl) trivial ?_
      refine EvOk.ret ?_
      obtain rfl := someE h
      exact Den.Ends.mk (.inl rfl) (d := .bool false) (p := (True ∧ True) ∧ (True ∧ True)) (by kernel_rfl) ⟨⟨trivial, trivial⟩, ⟨trivial, trivial⟩⟩ (by kernel_rfl)
    · replace h := iteF h1 h
      refine At.gc [1] [] (n := 34) (l := [(1, .ptr [.int .i64 x0.f_Dim, .int .u8 x0.f_Base, .str x0.f_Name])]) (bl := []) (by kernel_rfl) ?_
      refine At.adv [3] [] 400 (ev := .stop c25x7 [.seq c25x8, .seq c25x9]) (σ' := mkS 34 [(1, .ptr [.int .i64 x0.f_Dim, .int .u8 x0.f_Base, .str x0.f_Name])] []) (q := []) (by kernel_rfl) trivial ?_
      exact (wj25x1 x0)  r h Γ
theorem w25 {x0 : T_api_Type} {r : Bool} (h : m_desc_Valid x0 = some r) : CallSpec Try.prog 25 [.agg (row_T_api_Type x0)] (.bool r) :=
  CallSpec.at2 b25 (n := 34) (l := [(0, .agg (row_T_api_Type x0))]) (by kernel_rfl) (by kernel_rfl) (by kernel_rfl) (by kernel_rfl) (by kernel_rfl) (Nat.le_of_ble_eq_true (by kernel_rfl)) (fun Γ => we25 x0 r h Γ)

/-! ### armature desc.appendType -/
noncomputable def b40 : Code := Try.f40.body.getD .skip
noncomputable def c40x0 : Code := sub1 b40
noncomputable def c40x1 : Code := sub0 c40x0
noncomputable def c40x2 : Code := sub1 c40x1
noncomputable def c40x3 : Code := sub0 c40x2
noncomputable def c40x4 : Code := sub0 c40x3
noncomputable def c40x5 : Code := sub0 c40x4
noncomputable def c40x6 : Code := sub1 c40x5
noncomputable def c40x7 : Code := sub0 c40x6
noncomputable def c40x8 : Code := sub1 c40x6
noncomputable def c40x9 : Code := sub1 c40x4
noncomputable def c40x10 : Code := sub1 c40x0
noncomputable def c40x11 : Code := sub1 c40x10
noncomputable def c40x12 : Code := sub0 c40x11
noncomputable def c40x13 : Code := sub1 c40x12
noncomputable def c40x14 : Code := sub0 c40x13
noncomputable def c40x15 : Code := sub1 c40x13
noncomputable def c40x16 : Code := sub1 c40x11
def l40x1 (x1 : T_api_Type) (t0 : Int × (List Int)) : Option (Ctl (Int × (List Int)) (((List Int)))) :=
  if (decide (t0.1 < x1.f_Dim)) = true then
    ((growK 1 (t0.2 ++ [91]).length).bind fun v1 =>
    (some (IntKind.wrap .i64 (t0.1 + (1 : Int)))).bind fun v2 =>
    some (.next (v2, (t0.2 ++ [91])))) else
  (some (.done (t0.2)))
def m_desc_appendType (x0 : List Int) (x1 : T_api_Type) : Option (List Int) :=
  (loopM (l40x1 x1) rounds (0, x0)).bind fun q0 =>
  (growK 1 (q0 ++ [x1.f_Base]).length).bind fun v3 =>
  if (x1.f_Base == 76) = true then
    ((growK 1 ((q0 ++ [x1.f_Base]) ++ (bytesI x1.f_Name)).length).bind fun v4 =>
    (growK 1 (((q0 ++ [x1.f_Base]) ++ (bytesI x1.f_Name)) ++ [59]).length).bind fun v5 =>
    some (((q0 ++ [x1.f_Base]) ++ (bytesI x1.f_Name)) ++ [59])) else
  (some (q0 ++ [x1.f_Base]))
def st40x1 (x1 : T_api_Type) : (Int × (List Int)) → S :=
  fun t0 => mkS 31 [(0, .lsl 0 0 ((t0.2.map rU8).length)), (3, .ptr [.int .i64 x1.f_Dim, .int .u8 x1.f_Base, .str x1.f_Name]), (5, .int .i64 t0.1)] [(0, { sz := 1, rows := (t0.2.map rU8), frz := 0, pure := true })]
noncomputable def J40x1 (x1 : T_api_Type) : (((List Int))) → Exit → S → Prop :=
  JExit 0 (fun q0 : (List Int) => mkS 31 [(0, .lsl 0 0 ((q0.map rU8).length)), (3, .ptr [.int .i64 x1.f_Dim, .int .u8 x1.f_Base, .str x1.f_Name])] [(0, { sz := 1, rows := (q0.map rU8), frz := 0, pure := true })])
theorem wl40x1 (x1 : T_api_Type) (t0 : Int × (List Int)) (r : Ctl (Int × (List Int)) (((List Int)))) (h : (l40x1 x1) t0 = some r) (Γ : Ctx) : At Try.prog Γ c40x4 [] (Round (st40x1 x1) (J40x1 x1) r) ((st40x1 x1) t0) := by
  refine At.adv [] [(2, { told := [], gs := [], keep := some ([0, 3, 5, 9], [(0, 0)]) })] 400 (ev := .cond (decide (t0.1 < x1.f_Dim)) c40x7 c40x8 [.seq c40x9]) (σ' := mkS 31 [(0, .lsl 0 0 ((t0.2.map rU8).length)), (3, .ptr [.int .i64 x1.f_Dim, .int .u8 x1.f_Base, .str x1.f_Name]), (5, .int .i64 t0.1), (9, .bool (decide (t0.1 < x1.f_Dim)))] [(0, { sz := 1, rows := (t0.2.map rU8), frz := 0, pure := true })]) (q := []) (by kernel_rfl) trivial ?_
  refine EvOk.cond (fun h1 => ?_) (fun h1 => ?_)
  · replace h := iteT h1 h
    refine At.gc [0, 3, 5] [(0, 0)] (n := 31) (l := [(0, .lsl 0 0 ((t0.2.map rU8).length)), (3, .ptr [.int .i64 x1.f_Dim, .int .u8 x1.f_Base, .str x1.f_Name]), (5, .int .i64 t0.1)]) (bl := [(0, { sz := 1, rows := (t0.2.map rU8), frz := 0, pure := true })]) (by kernel_rfl) ?_
    obtain ⟨v1, e1, h⟩ := bindE h
    obtain ⟨v2, e2, h⟩ := bindE h
    refine At.adv [] [(4, { told := [(2, { rows := some ((t0.2 ++ [91]).map rU8) })], gs := [], keep := some ([0, 3, 5], [(0, 0)]) }), (3, { told := [(1, { ans := .val (.int .i64 v2) })], gs := [], keep := some ([0, 3, 5], [(0, 0)]) })] 400 (ev := .normal) (σ' := mkS 31 [(0, .lsl 0 0 (((t0.2 ++ [91]).map rU8).length)), (3, .ptr [.int .i64 x1.f_Dim, .int .u8 x1.f_Base, .str x1.f_Name]), (5, .int .i64 v2)] [(0, { sz := 1, rows := ((t0.2 ++ [91]).map rU8), frz := 0, pure := true })]) (q := [True ∧ (True ∧ True), True ∧ ((0 + ([91].map rU8).length ≤ ([91].map rU8).length) ∧ (t0.2.map rU8).length = (t0.2.map rU8).length ∧ (∀ r ∈ ((([91].map rU8).drop 0).take ([91].map rU8).length), r.length = 1) ∧ (t0.2.map rU8) ++ ((([91].map rU8).drop 0).take ([91].map rU8).length) = ((t0.2 ++ [91]).map rU8) ∧ ((t0.2 ++ [91]).map rU8).length ≤ 9223372036854775807 ∧ ((t0.2 ++ [91]).map rU8).length * 1 ≤ 140737488355328), True ∧ (IntKind.wrap .i64 (t0.1 + (1 : Int)) = v2)]) (by kernel_rfl) ⟨⟨trivial, ⟨trivial, trivial⟩⟩, ⟨trivial, ⟨roomAll _, rfl, by rw [takeAll]; exact szM (f := rU8) (n := 1) (fun _ => rfl) _, by rw [takeAll]; exact appM rU8 _ _, (growK_spec e1 (lenMN _ _)).1, (growK_spec e1 (lenMN _ _)).2⟩⟩, ⟨trivial, someE e2⟩, trivial⟩ ?_
    refine EvOk.normal ?_
    obtain rfl := someE h
    exact Round.next (by kernel_rfl)
  · replace h := iteF h1 h
    refine At.gc [0, 3] [(0, 0)] (n := 31) (l := [(0, .lsl 0 0 ((t0.2.map rU8).length)), (3, .ptr [.int .i64 x1.f_Dim, .int .u8 x1.f_Base, .str x1.f_Name])]) (bl := [(0, { sz := 1, rows := (t0.2.map rU8), frz := 0, pure := true })]) (by kernel_rfl) ?_
    refine At.adv [] [] 400 (ev := .exit 0) (σ' := mkS 31 [(0, .lsl 0 0 ((t0.2.map rU8).length)), (3, .ptr [.int .i64 x1.f_Dim, .int .u8 x1.f_Base, .str x1.f_Name])] [(0, { sz := 1, rows := (t0.2.map rU8), frz := 0, pure := true })]) (q := []) (by kernel_rfl) trivial ?_
    refine EvOk.exit ?_
    obtain rfl := someE h
    exact Round.done (neExit _) ⟨rfl, by kernel_rfl⟩
theorem we40 (x0 : List Int) (x1 : T_api_Type) (r : List Int) (h : m_desc_appendType x0 x1 = some r) (Γ : Ctx) : At Try.prog Γ b40 [] (EndsO Try.prog Try.f40 1 [false] (.lsl 0 0 ((r.map rU8).length)) [{ sz := 1, rows := (r.map rU8), frz := 0, pure := true }]) (mkS 31 [(0, .lsl 0 0 ((x0.map rU8).length)), (1, .agg (row_T_api_Type x1))] [(0, { sz := 1, rows := (x0.map rU8), frz := 0, pure := true })]) := by
  refine At.adv [] [(0, { told := [(0, { ro := true })], gs := [], keep := some ([0, 3], [(0, 0)]) }), (1, { told := [], gs := [], keep := some ([0, 3, 5], [(0, 0)]) })] 400 (ev := .loop c40x4 [.blk 0, .seq c40x10]) (σ' := mkS 31 [(0, .lsl 0 0 ((x0.map rU8).length)), (3, .ptr [.int .i64 x1.f_Dim, .int .u8 x1.f_Base, .str x1.f_Name]), (5, .int .i64 0)] [(0, { sz := 1, rows := (x0.map rU8), frz := 0, pure := true })]) (q := []) (by kernel_rfl) trivial ?_
  refine EvOk.loop ?_
  obtain ⟨q0, e3, h⟩ := bindE h
  refine At.loop (l40x1 x1) (st40x1 x1) (J40x1 x1) (0, x0) e3 (by kernel_rfl) (fun t x hx => (wl40x1 x1) t x hx Γ) ?_
  intro e σ' hJ
  obtain ⟨rfl, rfl⟩ := hJ
  refine At.exitK (K' := [.seq c40x10]) (by kernel_rfl) ?_
  obtain ⟨v3, e4, h⟩ := bindE h
  refine At.advN [] [(5, { told := [(4, { rows := some ((q0 ++ [x1.f_Base]).map rU8) })], gs := [], keep := some ([0, 3], [(0, 0)]) }), (6, { told := [], gs := [], keep := some ([0, 3, 22], [(0, 0)]) })] 400 (ev := .cond (x1.f_Base == 76) c40x14 c40x15 [.seq c40x16]) (σ' := mkS 31 [(0, .lsl 0 0 (((q0 ++ [x1.f_Base]).map rU8).length)), (3, .ptr [.int .i64 x1.f_Dim, .int .u8 x1.f_Base, .str x1.f_Name]), (22, .bool (x1.f_Base == 76))] [(0, { sz := 1, rows := ((q0 ++ [x1.f_Base]).map rU8), frz := 0, pure := true })]) (q := [True ∧ (True ∧ True), True ∧ ((0 + ([x1.f_Base].map rU8).length ≤ ([x1.f_Base].map rU8).length) ∧ (q0.map rU8).length = (q0.map rU8).length ∧ (∀ r ∈ ((([x1.f_Base].map rU8).drop 0).take ([x1.f_Base].map rU8).length), r.length = 1) ∧ (q0.map rU8) ++ ((([x1.f_Base].map rU8).drop 0).take ([x1.f_Base].map rU8).length) = ((q0 ++ [x1.f_Base]).map rU8) ∧ ((q0 ++ [x1.f_Base]).map rU8).length ≤ 9223372036854775807 ∧ ((q0 ++ [x1.f_Base]).map rU8).length * 1 ≤ 140737488355328)]) (by kernel_rfl) ⟨⟨trivial, ⟨trivial, trivial⟩⟩, ⟨trivial, ⟨roomAll _, rfl, by rw [takeAll]; exact szM (f := rU8) (n := 1) (fun _ => rfl) _, by rw [takeAll]; exact appM rU8 _ _, (growK_spec e4 (lenMN _ _)).1, (growK_spec e4 (lenMN _ _)).2⟩⟩, trivial⟩ ?_
  refine EvOk.cond (fun h2 => ?_) (fun h2 => ?_)
  · replace h := iteT h2 h
    refine At.gc [0, 3] [(0, 0)] (n := 31) (l := [(0, .lsl 0 0 (((q0 ++ [x1.f_Base]).map rU8).length)), (3, .ptr [.int .i64 x1.f_Dim, .int .u8 x1.f_Base, .str x1.f_Name])]) (bl := [(0, { sz := 1, rows := ((q0 ++ [x1.f_Base]).map rU8), frz := 0, pure := true })]) (by kernel_rfl) ?_
    obtain ⟨v4, e5, h⟩ := bindE h
    obtain ⟨v5, e6, h⟩ := bindE h
    refine At.adv [] [(7, { told := [(3, { rows := some (((q0 ++ [x1.f_Base]) ++ (bytesI x1.f_Name)).map rU8) })], gs := [], keep := some ([0], [(0, 0)]) }), (8, { told := [(2, { rows := some ((((q0 ++ [x1.f_Base]) ++ (bytesI x1.f_Name)) ++ [59]).map rU8) })], gs := [], keep := some ([0], [(0, 0)]) }), (9, { told := [], gs := [], keep := some ([4], [(0, 0)]) })] 400 (ev := .ret) (σ' := mkS 31 [(4, .lsl 0 0 (((((q0 ++ [x1.f_Base]) ++ (bytesI x1.f_Name)) ++ [59]).map rU8).length))] [(0, { sz := 1, rows := ((((q0 ++ [x1.f_Base]) ++ (bytesI x1.f_Name)) ++ [59]).map rU8), frz := 0, pure := true })]) (q := [True ∧ (True ∧ ((q0 ++ [x1.f_Base]).map rU8).length = ((q0 ++ [x1.f_Base]).map rU8).length ∧ (∀ r ∈ (x1.f_Name.map fun b => [D.int .u8 b.toNat]), r.length = 1) ∧ ((q0 ++ [x1.f_Base]).map rU8) ++ (x1.f_Name.map fun b => [D.int .u8 b.toNat]) = (((q0 ++ [x1.f_Base]) ++ (bytesI x1.f_Name)).map rU8) ∧ (((q0 ++ [x1.f_Base]) ++ (bytesI x1.f_Name)).map rU8).length ≤ 9223372036854775807 ∧ (((q0 ++ [x1.f_Base]) ++ (bytesI x1.f_Name)).map rU8).length * 1 ≤ 140737488355328), True ∧ (True ∧ True), True ∧ ((0 + ([59].map rU8).length ≤ ([59].map rU8).length) ∧ (((q0 ++ [x1.f_Base]) ++ (bytesI x1.f_Name)).map rU8).length = (((q0 ++ [x1.f_Base]) ++ (bytesI x1.f_Name)).map rU8).length ∧ (∀ r ∈ ((([59].map rU8).drop 0).take ([59].map rU8).length), r.length = 1) ∧ (((q0 ++ [x1.f_Base]) ++ (bytesI x1.f_Name)).map rU8) ++ ((([59].map rU8).drop 0).take ([59].map rU8).length) = ((((q0 ++ [x1.f_Base]) ++ (bytesI x1.f_Name)) ++ [59]).map rU8) ∧ ((((q0 ++ [x1.f_Base]) ++ (bytesI x1.f_Name)) ++ [59]).map rU8).length ≤ 9223372036854775807 ∧ ((((q0 ++ [x1.f_Base]) ++ (bytesI x1.f_Name)) ++ [59]).map rU8).length * 1 ≤ 140737488355328)]) (by kernel_rfl) ⟨⟨trivial, ⟨trivial, rfl, by rw [bytesI_row]; exact szM (f := rU8) (n := 1) (fun _ => rfl) _, by rw [bytesI_row]; exact appM rU8 _ _, (growK_spec e5 (lenMN _ _)).1, (growK_spec e5 (lenMN _ _)).2⟩⟩, ⟨trivial, ⟨trivial, trivial⟩⟩, ⟨trivial, ⟨roomAll _, rfl, by rw [takeAll]; exact szM (f := rU8) (n := 1) (fun _ => rfl) _, by rw [takeAll]; exact appM rU8 _ _, (growK_spec e6 (lenMN _ _)).1, (growK_spec e6 (lenMN _ _)).2⟩⟩, trivial⟩ ?_
    refine EvOk.ret ?_
    obtain rfl := someE h
    exact EndsO.mk (.inl rfl) (by kernel_rfl) (d := .lsl 0 0 (((((q0 ++ [x1.f_Base]) ++ (bytesI x1.f_Name)) ++ [59]).map rU8).length)) (bs1 := [{ sz := 1, rows := ((((q0 ++ [x1.f_Base]) ++ (bytesI x1.f_Name)) ++ [59]).map rU8), frz := 0, pure := true }]) (p := (True ∧ True) ∧ True) (by kernel_rfl) ⟨⟨trivial, trivial⟩, trivial⟩ (by kernel_rfl) (by kernel_rfl)
  · replace h := iteF h2 h
    refine At.gc [0] [(0, 0)] (n := 31) (l := [(0, .lsl 0 0 (((q0 ++ [x1.f_Base]).map rU8).length))]) (bl := [(0, { sz := 1, rows := ((q0 ++ [x1.f_Base]).map rU8), frz := 0, pure := true })]) (by kernel_rfl) ?_
    refine At.adv [] [(9, { told := [], gs := [], keep := some ([4], [(0, 0)]) })] 400 (ev := .ret) (σ' := mkS 31 [(4, .lsl 0 0 (((q0 ++ [x1.f_Base]).map rU8).length))] [(0, { sz := 1, rows := ((q0 ++ [x1.f_Base]).map rU8), frz := 0, pure := true })]) (q := []) (by kernel_rfl) trivial ?_
    refine EvOk.ret ?_
    obtain rfl := someE h
    exact EndsO.mk (.inl rfl) (by kernel_rfl) (d := .lsl 0 0 (((q0 ++ [x1.f_Base]).map rU8).length)) (bs1 := [{ sz := 1, rows := ((q0 ++ [x1.f_Base]).map rU8), frz := 0, pure := true }]) (p := (True ∧ True) ∧ True) (by kernel_rfl) ⟨⟨trivial, trivial⟩, trivial⟩ (by kernel_rfl) (by kernel_rfl)
theorem w40 {x0 : List Int} {x1 : T_api_Type} {r : List Int} (h : m_desc_appendType x0 x1 = some r) : CallSpecO Try.prog 40 [.lsl 0 0 ((x0.map rU8).length), .agg (row_T_api_Type x1)] [{ sz := 1, rows := (x0.map rU8), frz := 0, pure := true }] (.lsl 0 0 ((r.map rU8).length)) [{ sz := 1, rows := (r.map rU8), frz := 0, pure := true }] :=
  CallSpecO.at2 b40 1 [false] (n := 31) (l := [(0, .lsl 0 0 ((x0.map rU8).length)), (1, .agg (row_T_api_Type x1))]) (bl := [(0, { sz := 1, rows := (x0.map rU8), frz := 0, pure := true })]) (by kernel_rfl) (by kernel_rfl) (by kernel_rfl) (by kernel_rfl) (by kernel_rfl) (by kernel_rfl) (Nat.le_of_ble_eq_true (by kernel_rfl)) (fun Γ => we40 x0 x1 r h Γ)

/-! ### armature desc.Format -/
noncomputable def b20 : Code := Try.f20.body.getD .skip
noncomputable def c20x0 : Code := sub1 b20
noncomputable def c20x1 : Code := sub0 c20x0
noncomputable def c20x2 : Code := sub1 c20x1
noncomputable def c20x3 : Code := sub0 c20x2
noncomputable def c20x4 : Code := sub1 c20x2
noncomputable def c20x5 : Code := sub1 c20x0
def m_desc_Format (x0 : T_api_Type) : Option ((List UInt8) × Int) :=
  (m_desc_Valid x0).bind fun v0 =>
  if (!v0) = true then
    (some ([], 13)) else
  ((m_desc_appendType ([] : List Int) x0).bind fun v1 =>
    some ((bytesOf v1), 0))
theorem we20 (x0 : T_api_Type) (r : (List UInt8) × Int) (h : m_desc_Format x0 = some r) (Γ : Ctx) : At Try.prog Γ b20 [] (Den.Ends Try.prog Try.f20 (.tup [.str r.1, .int .i64 r.2])) (mkS 10 [(0, .agg (row_T_api_Type x0))] []) := by
  obtain ⟨v0, e0, h⟩ := bindE h
  refine At.adv [] [(0, { told := [(0, { ro := true })], gs := [], keep := some ([1], []) }), (1, { told := [(1, { ans := .val (.bool v0), args := [.agg [.int .i64 x0.f_Dim, .int .u8 x0.f_Base, .str x0.f_Name]] })], gs := [], keep := some ([1, 6], []) })] 400 (ev := .cond (!v0) c20x3 c20x4 [.seq c20x5]) (σ' := mkS 10 [(1, .ptr [.int .i64 x0.f_Dim, .int .u8 x0.f_Base, .str x0.f_Name]), (6, .bool (!v0))] []) (q := [True ∧ (((True ∧ (True ∧ (True ∧ True))) ∧ True) ∧ ([.agg [.int .i64 x0.f_Dim, .int .u8 x0.f_Base, .str x0.f_Name]] : List D) = [.agg [.int .i64 x0.f_Dim, .int .u8 x0.f_Base, .str x0.f_Name]] ∧ CallAny Try.prog 25 [.agg [.int .i64 x0.f_Dim, .int .u8 x0.f_Base, .str x0.f_Name]] (.bool v0))]) (by kernel_rfl) ⟨⟨trivial, ⟨⟨⟨trivial, ⟨trivial, ⟨trivial, trivial⟩⟩⟩, trivial⟩, rfl, .inl (w25 e0)⟩⟩, trivial⟩ ?_
  refine EvOk.cond (fun h0 => ?_) (fun h0 => ?_)
  · replace h := iteT h0 h
    refine At.gc [] [] (n := 10) (l := []) (bl := []) (by kernel_rfl) ?_
    refine At.adv [] [(2, { told := [], gs := [], keep := some ([2, 3], []) })] 400 (ev := .ret) (σ' := mkS 10 [(2, .str []), (3, .int .i64 13)] []) (q := []) (by kernel_rfl) trivial ?_
    refine EvOk.ret ?_
    obtain rfl := someE h
    exact Den.Ends.mk (.inl rfl) (d := .tup [.str [], .int .i64 13]) (p := (True ∧ (True ∧ True)) ∧ (True ∧ (True ∧ True))) (by kernel_rfl) ⟨⟨trivial, ⟨trivial, trivial⟩⟩, ⟨trivial, ⟨trivial, trivial⟩⟩⟩ (by kernel_rfl)
  · replace h := iteF h0 h
    refine At.gc [1] [] (n := 10) (l := [(1, .ptr [.int .i64 x0.f_Dim, .int .u8 x0.f_Base, .str x0.f_Name])]) (bl := []) (by kernel_rfl) ?_
    obtain ⟨v1, e1, h⟩ := bindE h
    refine At.adv [] [(3, { told := [(1, { ans := .val (.lsl 0 0 ((v1.map rU8).length)), args := [.lsl 0 0 ((([] : List Int).map rU8).length), .agg [.int .i64 x0.f_Dim, .int .u8 x0.f_Base, .str x0.f_Name]], io := some { names := [8], fresh := [(8, 1)], nils := [(0, 8)], bs := [{ sz := 1, rows := (([] : List Int).map rU8), frz := 0, pure := true }], bs' := [{ sz := 1, rows := (v1.map rU8), frz := 0, pure := true }] } }), (2, { ans := .val (.str (bytesOf v1)) })], gs := [], keep := some ([2, 3], []) })] 400 (ev := .ret) (σ' := mkS 10 [(2, .str (bytesOf v1)), (3, .int .i64 0)] []) (q := [True ∧ (((True ∧ (True ∧ (True ∧ True))) ∧ True) ∧ ([.lsl 0 0 ((([] : List Int).map rU8).length), .agg [.int .i64 x0.f_Dim, .int .u8 x0.f_Base, .str x0.f_Name]] : List D) = [.lsl 0 0 ((([] : List Int).map rU8).length), .agg [.int .i64 x0.f_Dim, .int .u8 x0.f_Base, .str x0.f_Name]] ∧ ([{ sz := 1, rows := (([] : List Int).map rU8), frz := 0, pure := true }] : List Blk) = [{ sz := 1, rows := (([] : List Int).map rU8), frz := 0, pure := true }] ∧ CallSpecO Try.prog 40 [.lsl 0 0 ((([] : List Int).map rU8).length), .agg [.int .i64 x0.f_Dim, .int .u8 x0.f_Base, .str x0.f_Name]] [{ sz := 1, rows := (([] : List Int).map rU8), frz := 0, pure := true }] (.lsl 0 0 ((v1.map rU8).length)) [{ sz := 1, rows := (v1.map rU8), frz := 0, pure := true }]), True ∧ ((0 + (v1.map rU8).length ≤ (v1.map rU8).length) ∧ rowBytes (((v1.map rU8).drop 0).take (v1.map rU8).length) = some (bytesOf v1))]) (by kernel_rfl) ⟨⟨trivial, ⟨⟨⟨trivial, ⟨trivial, ⟨trivial, trivial⟩⟩⟩, trivial⟩, rfl, rfl, w40 e1⟩⟩, ⟨trivial, ⟨roomAll _, by rw [takeAll]; exact rowBytes_of _⟩⟩, trivial⟩ ?_
    refine EvOk.ret ?_
    obtain rfl := someE h
    exact Den.Ends.mk (.inl rfl) (d := .tup [.str (bytesOf v1), .int .i64 0]) (p := (True ∧ (True ∧ True)) ∧ (True ∧ (True ∧ True))) (by kernel_rfl) ⟨⟨trivial, ⟨trivial, trivial⟩⟩, ⟨trivial, ⟨trivial, trivial⟩⟩⟩ (by kernel_rfl)
theorem w20 {x0 : T_api_Type} {r : (List UInt8) × Int} (h : m_desc_Format x0 = some r) : CallSpec Try.prog 20 [.agg (row_T_api_Type x0)] (.tup [.str r.1, .int .i64 r.2]) :=
  CallSpec.at2 b20 (n := 10) (l := [(0, .agg (row_T_api_Type x0))]) (by kernel_rfl) (by kernel_rfl) (by kernel_rfl) (by kernel_rfl) (by kernel_rfl) (Nat.le_of_ble_eq_true (by kernel_rfl)) (fun Γ => we20 x0 r h Γ)

/-! ### internal bytealg.IndexByteString -/
def m_internal_bytealg_IndexByteString (s : List UInt8) (c : Int) : Option Int := some (Lib.indexByte s c.toNat.toUInt8)
theorem w49 {s : List UInt8} {c r : Int} (h : m_internal_bytealg_IndexByteString s c = some r) : ExtSpec Try.prog 49 [.str s, .int .u8 c] (.int .i64 r) := by
  obtain rfl := someE h
  exact ext_indexByteString Try.func49 (by kernel_rfl) (by kernel_rfl) (by kernel_rfl) (by kernel_rfl) s c

/-! ### internal stringslite.IndexByte -/
noncomputable def b47 : Code := Try.f47.body.getD .skip
def m_internal_stringslite_IndexByte (x0 : List UInt8) (x1 : Int) : Option (Int) :=
  (m_internal_bytealg_IndexByteString x0 x1).bind fun v0 =>
  some v0
theorem we47 (x0 : List UInt8) (x1 : Int) (r : Int) (h : m_internal_stringslite_IndexByte x0 x1 = some r) (Γ : Ctx) : At Try.prog Γ b47 [] (Den.Ends Try.prog Try.f47 (.int .i64 r)) (mkS 8 [(0, .str x0), (1, .int .u8 x1)] []) := by
  obtain ⟨v0, e0, h⟩ := bindE h
  refine At.adv [] [(0, { told := [], gs := [], keep := some ([0, 1], []) }), (1, { told := [(2, { ans := .val (.int .i64 v0), args := [.str x0, .int .u8 x1] })], gs := [], keep := some ([4], []) })] 400 (ev := .ret) (σ' := mkS 8 [(4, .int .i64 v0)] []) (q := [True ∧ ((True ∧ (True ∧ True)) ∧ ([.str x0, .int .u8 x1] : List D) = [.str x0, .int .u8 x1] ∧ CallAny Try.prog 49 [.str x0, .int .u8 x1] (.int .i64 v0))]) (by kernel_rfl) ⟨⟨trivial, ⟨⟨trivial, ⟨trivial, trivial⟩⟩, rfl, .inr (w49 e0)⟩⟩, trivial⟩ ?_
  refine EvOk.ret ?_
  obtain rfl := someE h
  exact Den.Ends.mk (.inl rfl) (d := .int .i64 v0) (p := (True ∧ True) ∧ (True ∧ True)) (by kernel_rfl) ⟨⟨trivial, trivial⟩, ⟨trivial, trivial⟩⟩ (by kernel_rfl)
theorem w47 {x0 : List UInt8} {x1 : Int} {r : Int} (h : m_internal_stringslite_IndexByte x0 x1 = some r) : CallSpec Try.prog 47 [.str x0, .int .u8 x1] (.int .i64 r) :=
  CallSpec.at2 b47 (n := 8) (l := [(0, .str x0), (1, .int .u8 x1)]) (by kernel_rfl) (by kernel_rfl) (by kernel_rfl) (by kernel_rfl) (by kernel_rfl) (Nat.le_of_ble_eq_true (by kernel_rfl)) (fun Γ => we47 x0 x1 r h Γ)

/-! ### strings.IndexByte -/
noncomputable def b42 : Code := Try.f42.body.getD .skip
def m_strings_IndexByte (x0 : List UInt8) (x1 : Int) : Option (Int) :=
  (m_internal_stringslite_IndexByte x0 x1).bind fun v0 =>
  some v0
theorem we42 (x0 : List UInt8) (x1 : Int) (r : Int) (h : m_strings_IndexByte x0 x1 = some r) (Γ : Ctx) : At Try.prog Γ b42 [] (Den.Ends Try.prog Try.f42 (.int .i64 r)) (mkS 8 [(0, .str x0), (1, .int .u8 x1)] []) := by
  obtain ⟨v0, e0, h⟩ := bindE h
  refine At.adv [] [(0, { told := [], gs := [], keep := some ([0, 1], []) }), (1, { told := [(2, { ans := .val (.int .i64 v0), args := [.str x0, .int .u8 x1] })], gs := [], keep := some ([4], []) })] 400 (ev := .ret) (σ' := mkS 8 [(4, .int .i64 v0)] []) (q := [True ∧ ((True ∧ (True ∧ True)) ∧ ([.str x0, .int .u8 x1] : List D) = [.str x0, .int .u8 x1] ∧ CallAny Try.prog 47 [.str x0, .int .u8 x1] (.int .i64 v0))]) (by kernel_rfl) ⟨⟨trivial, ⟨⟨trivial, ⟨trivial, trivial⟩⟩, rfl, .inl (w47 e0)⟩⟩, trivial⟩ ?_
  refine EvOk.ret ?_
  obtain rfl := someE h
  exact Den.Ends.mk (.inl rfl) (d := .int .i64 v0) (p := (True ∧ True) ∧ (True ∧ True)) (by kernel_rfl) ⟨⟨trivial, trivial⟩, ⟨trivial, trivial⟩⟩ (by kernel_rfl)
theorem w42 {x0 : List UInt8} {x1 : Int} {r : Int} (h : m_strings_IndexByte x0 x1 = some r) : CallSpec Try.prog 42 [.str x0, .int .u8 x1] (.int .i64 r) :=
  CallSpec.at2 b42 (n := 8) (l := [(0, .str x0), (1, .int .u8 x1)]) (by kernel_rfl) (by kernel_rfl) (by kernel_rfl) (by kernel_rfl) (by kernel_rfl) (Nat.le_of_ble_eq_true (by kernel_rfl)) (fun Γ => we42 x0 x1 r h Γ)

/-! ### armature desc.prefix -/
noncomputable def b35 : Code := Try.f35.body.getD .skip
noncomputable def c35x0 : Code := sub1 b35
noncomputable def c35x1 : Code := sub1 c35x0
noncomputable def c35x2 : Code := sub0 c35x1
noncomputable def c35x3 : Code := sub0 c35x2
noncomputable def c35x4 : Code := sub0 c35x3
noncomputable def c35x5 : Code := sub0 c35x4
noncomputable def c35x6 : Code := sub1 c35x5
noncomputable def c35x7 : Code := sub0 c35x6
noncomputable def c35x8 : Code := sub1 c35x6
noncomputable def c35x9 : Code := sub1 c35x4
noncomputable def c35x10 : Code := sub1 c35x1
noncomputable def c35x11 : Code := sub1 c35x10
noncomputable def c35x12 : Code := sub1 c35x11
noncomputable def c35x13 : Code := sub1 c35x12
noncomputable def c35x14 : Code := sub1 c35x13
noncomputable def c35x15 : Code := sub1 c35x14
noncomputable def c35x16 : Code := sub0 c35x15
noncomputable def c35x17 : Code := sub1 c35x15
noncomputable def c35x18 : Code := sub0 c35x14
noncomputable def c35x19 : Code := sub1 c35x18
noncomputable def c35x20 : Code := sub0 c35x19
noncomputable def c35x21 : Code := sub1 c35x20
noncomputable def c35x22 : Code := sub0 c35x21
noncomputable def c35x23 : Code := sub1 c35x22
noncomputable def c35x24 : Code := sub0 c35x23
noncomputable def c35x25 : Code := sub1 c35x23
noncomputable def c35x26 : Code := sub1 c35x21
noncomputable def c35x27 : Code := sub1 c35x19
noncomputable def c35x28 : Code := sub0 c35x11
noncomputable def c35x29 : Code := sub1 c35x28
noncomputable def c35x30 : Code := sub0 c35x29
noncomputable def c35x31 : Code := sub1 c35x29
def l35x1 (x0 : List UInt8) (t0 : Int) : Option (Ctl (Int) (Int)) :=
  if (decide (t0 < (x0.length : Int))) = true then ((getS x0 t0).bind fun v1 =>
  if (v1 == 91) = true then
    ((some (IntKind.wrap .i64 (t0 + (1 : Int)))).bind fun v2 =>
    some (.next v2)) else
  (some (.done (t0)))) else
  (some (.done (t0)))
def j35x1 (q0 : Int) (v4 : Int) (p0 : List UInt8) (p1 : List UInt8) : Option (T_api_Type × (List UInt8) × Bool) :=
  (m_desc_Valid ({ f_Dim := q0, f_Base := v4, f_Name := p0 } : T_api_Type)).bind fun v10 =>
  some (({ f_Dim := q0, f_Base := v4, f_Name := p0 } : T_api_Type), p1, v10)
def m_desc_prefix (x0 : List UInt8) : Option (T_api_Type × (List UInt8) × Bool) :=
  (loopM (l35x1 x0) rounds 0).bind fun q0 =>
  (sub x0 q0 (x0.length : Int)).bind fun v3 =>
  if (v3 == ([] : List UInt8)) = true then
    (some (({ f_Dim := 0, f_Base := 0, f_Name := [] } : T_api_Type), [], false)) else
  ((getS v3 0).bind fun v4 =>
    (sub v3 1 (v3.length : Int)).bind fun v5 =>
    if (v4 == 76) = true then
      ((m_strings_IndexByte v5 59).bind fun v6 =>
      if (decide (v6 < 0)) = true then
        (some (({ f_Dim := 0, f_Base := 0, f_Name := [] } : T_api_Type), [], false)) else
      ((sub v5 0 v6).bind fun v7 =>
        (some (IntKind.wrap .i64 (v6 + (1 : Int)))).bind fun v8 =>
        (sub v5 v8 (v5.length : Int)).bind fun v9 =>
        (j35x1 q0 v4) v7 v9)) else
    ((j35x1 q0 v4) [] v5))
def st35x1 (x0 : List UInt8) : Int → S :=
  fun t0 => mkS 56 [(0, .str x0), (2, .lptr 2 0 0), (5, .lptr 5 0 0)] [(2, { sz := 3, rows := [[.int .i64 0, .int .u8 0, .str []]], frz := 0, pure := false }), (5, { sz := 3, rows := [[.int .i64 t0, .int .u8 0, .str []]], frz := 0, pure := false })]
noncomputable def J35x1 (x0 : List UInt8) : Int → Exit → S → Prop :=
  JExit 0 (fun q0 : Int => mkS 56 [(0, .str x0), (2, .lptr 2 0 0), (5, .lptr 5 0 0)] [(2, { sz := 3, rows := [[.int .i64 0, .int .u8 0, .str []]], frz := 0, pure := false }), (5, { sz := 3, rows := [[.int .i64 q0, .int .u8 0, .str []]], frz := 0, pure := false })])
theorem wl35x1 (x0 : List UInt8) (t0 : Int) (r : Ctl (Int) (Int)) (h : (l35x1 x0) t0 = some r) (Γ : Ctx) : At Try.prog Γ c35x4 [] (Round (st35x1 x0) (J35x1 x0) r) ((st35x1 x0) t0) := by
  rcases Bool.eq_false_or_eq_true (decide (t0 < (x0.length : Int))) with h2 | h2
  · replace h := iteT h2 h
    obtain ⟨v1, e1, h⟩ := bindE h
    refine At.adv [] [(2, { told := [(9, { ans := .val (.int .u8 v1) }), (11, { ans := .yes })], gs := [(6, true), (7, true), (8, true), (9, true), (10, true)], keep := some ([0, 2, 5, 19], [(2, 2), (5, 5)]) })] 400 (ev := .cond (v1 == 91) c35x7 c35x8 [.seq c35x9]) (σ' := mkS 56 [(0, .str x0), (2, .lptr 2 0 0), (5, .lptr 5 0 0), (19, .bool (v1 == 91))] [(2, { sz := 3, rows := [[.int .i64 0, .int .u8 0, .str []]], frz := 0, pure := false }), (5, { sz := 3, rows := [[.int .i64 t0, .int .u8 0, .str []]], frz := 0, pure := false })]) (q := [((decide (t0 < (x0.length : Int))) == true) = true ∧ True, ((decide (t0 < (x0.length : Int))) == true) = true ∧ True, ((decide (t0 < (x0.length : Int))) == true) = true ∧ True, ((decide (t0 < (x0.length : Int))) == true) = true ∧ (getS x0 t0 = some v1), ((decide (t0 < (x0.length : Int))) == true) = true ∧ True, True ∧ ((decide (t0 < (x0.length : Int))) = true)]) (by kernel_rfl) ⟨⟨(gB h2 rfl), trivial⟩, ⟨(gB h2 rfl), trivial⟩, ⟨(gB h2 rfl), trivial⟩, ⟨(gB h2 rfl), e1⟩, ⟨(gB h2 rfl), trivial⟩, ⟨trivial, h2⟩, trivial⟩ ?_
    refine EvOk.cond (fun h3 => ?_) (fun h3 => ?_)
    · replace h := iteT h3 h
      refine At.gc [0, 2, 5] [(2, 2), (5, 5)] (n := 56) (l := [(0, .str x0), (2, .lptr 2 0 0), (5, .lptr 5 0 0)]) (bl := [(2, { sz := 3, rows := [[.int .i64 0, .int .u8 0, .str []]], frz := 0, pure := false }), (5, { sz := 3, rows := [[.int .i64 t0, .int .u8 0, .str []]], frz := 0, pure := false })]) (by kernel_rfl) ?_
      obtain ⟨v2, e2, h⟩ := bindE h
      refine At.adv [] [(3, { told := [(2, { ans := .val (.int .i64 v2) })], gs := [], keep := some ([0, 2, 5], [(2, 2), (5, 5)]) })] 400 (ev := .normal) (σ' := mkS 56 [(0, .str x0), (2, .lptr 2 0 0), (5, .lptr 5 0 0)] [(2, { sz := 3, rows := [[.int .i64 0, .int .u8 0, .str []]], frz := 0, pure := false }), (5, { sz := 3, rows := [[.int .i64 v2, .int .u8 0, .str []]], frz := 0, pure := false })]) (q := [True ∧ (IntKind.wrap .i64 (t0 + (1 : Int)) = v2), True ∧ (0 ≤ 0 ∧ 0 + ([.int .i64 v2] : List D).length ≤ ([.int .i64 t0, .int .u8 0, .str []] : List D).length ∧ ([[.int .i64 v2, .int .u8 0, .str []]] : List (List D)) = ([[.int .i64 v2, .int .u8 0, .str []]] : List (List D)))]) (by kernel_rfl) ⟨⟨trivial, someE e2⟩, ⟨trivial, ⟨Nat.zero_le _, Nat.le_of_ble_eq_true rfl, rfl⟩⟩, trivial⟩ ?_
      refine EvOk.normal ?_
      obtain rfl := someE h
      exact Round.next (by kernel_rfl)
    · replace h := iteF h3 h
      refine At.gc [0, 2, 5] [(2, 2), (5, 5)] (n := 56) (l := [(0, .str x0), (2, .lptr 2 0 0), (5, .lptr 5 0 0)]) (bl := [(2, { sz := 3, rows := [[.int .i64 0, .int .u8 0, .str []]], frz := 0, pure := false }), (5, { sz := 3, rows := [[.int .i64 t0, .int .u8 0, .str []]], frz := 0, pure := false })]) (by kernel_rfl) ?_
      refine At.adv [] [] 400 (ev := .exit 0) (σ' := mkS 56 [(0, .str x0), (2, .lptr 2 0 0), (5, .lptr 5 0 0)] [(2, { sz := 3, rows := [[.int .i64 0, .int .u8 0, .str []]], frz := 0, pure := false }), (5, { sz := 3, rows := [[.int .i64 t0, .int .u8 0, .str []]], frz := 0, pure := false })]) (q := []) (by kernel_rfl) trivial ?_
      refine EvOk.exit ?_
      obtain rfl := someE h
      exact Round.done (neExit _) ⟨rfl, by kernel_rfl⟩
  · replace h := iteF h2 h
    refine At.adv [] [(2, { told := [(11, { ans := .no })], gs := [(6, false), (7, false), (8, false), (9, false), (10, false)], keep := some ([0, 2, 5, 19], [(2, 2), (5, 5)]) })] 400 (ev := .cond false c35x7 c35x8 [.seq c35x9]) (σ' := mkS 56 [(0, .str x0), (2, .lptr 2 0 0), (5, .lptr 5 0 0), (19, .bool false)] [(2, { sz := 3, rows := [[.int .i64 0, .int .u8 0, .str []]], frz := 0, pure := false }), (5, { sz := 3, rows := [[.int .i64 t0, .int .u8 0, .str []]], frz := 0, pure := false })]) (q := [((decide (t0 < (x0.length : Int))) == true) = false, ((decide (t0 < (x0.length : Int))) == true) = false, ((decide (t0 < (x0.length : Int))) == true) = false, ((decide (t0 < (x0.length : Int))) == true) = false, ((decide (t0 < (x0.length : Int))) == true) = false, True ∧ ((decide (t0 < (x0.length : Int))) = false)]) (by kernel_rfl) ⟨gB h2 rfl, gB h2 rfl, gB h2 rfl, gB h2 rfl, gB h2 rfl, ⟨trivial, h2⟩, trivial⟩ ?_
    refine EvOk.cond (fun hb => Bool.noConfusion hb) (fun _ => ?_)
    refine At.gc [0, 2, 5] [(2, 2), (5, 5)] (n := 56) (l := [(0, .str x0), (2, .lptr 2 0 0), (5, .lptr 5 0 0)]) (bl := [(2, { sz := 3, rows := [[.int .i64 0, .int .u8 0, .str []]], frz := 0, pure := false }), (5, { sz := 3, rows := [[.int .i64 t0, .int .u8 0, .str []]], frz := 0, pure := false })]) (by kernel_rfl) ?_
    refine At.adv [] [] 400 (ev := .exit 0) (σ' := mkS 56 [(0, .str x0), (2, .lptr 2 0 0), (5, .lptr 5 0 0)] [(2, { sz := 3, rows := [[.int .i64 0, .int .u8 0, .str []]], frz := 0, pure := false }), (5, { sz := 3, rows := [[.int .i64 t0, .int .u8 0, .str []]], frz := 0, pure := false })]) (q := []) (by kernel_rfl) trivial ?_
    refine EvOk.exit ?_
    obtain rfl := someE h
    exact Round.done (neExit _) ⟨rfl, by kernel_rfl⟩
theorem wj35x1 (q0 : Int) (v4 : Int) (p0 : List UInt8) (p1 : List UInt8) (r : T_api_Type × (List UInt8) × Bool) (h : (j35x1 q0 v4) p0 p1 = some r) (Γ : Ctx) : EvOk Try.prog Γ (Den.Ends Try.prog Try.f35 (.tup [.agg (row_T_api_Type r.1), .str r.2.1, .bool r.2.2])) (mkS 56 [(0, .str p1), (2, .lptr 2 0 0), (5, .lptr 5 0 0)] [(2, { sz := 3, rows := [[.int .i64 0, .int .u8 0, .str []]], frz := 0, pure := false }), (5, { sz := 3, rows := [[.int .i64 q0, .int .u8 v4, .str p0]], frz := 0, pure := false })]) (.stop c35x16 [.seq c35x17]) := by
  refine EvOk.stop ?_
  obtain ⟨v10, e11, h⟩ := bindE h
  refine At.adv [] [(15, { told := [(3, { ans := .val (.bool v10), args := [.agg [.int .i64 q0, .int .u8 v4, .str p0]] })], gs := [], keep := some ([2, 3, 4], [(2, 2)]), ord := some ([0, 1, 2, 3, 4, 5, 6], [4, 1001], [(3, [2]), (4, [0, 2, 3]), (5, [0, 1, 2, 3, 4]), (6, [0, 1, 2, 3, 4, 5])]) })] 400 (ev := .ret) (σ' := mkS 56 [(2, .lptr 2 0 0), (3, .str p1), (4, .bool v10)] [(2, { sz := 3, rows := [[.int .i64 q0, .int .u8 v4, .str p0]], frz := 0, pure := false })]) (q := [True ∧ (((True ∧ (True ∧ (True ∧ True))) ∧ True) ∧ ([.agg [.int .i64 q0, .int .u8 v4, .str p0]] : List D) = [.agg [.int .i64 q0, .int .u8 v4, .str p0]] ∧ CallAny Try.prog 25 [.agg [.int .i64 q0, .int .u8 v4, .str p0]] (.bool v10)), True ∧ (0 ≤ 0 ∧ 0 + ([.int .i64 q0, .int .u8 v4, .str p0] : List D).length ≤ ([.int .i64 0, .int .u8 0, .str []] : List D).length ∧ ([[.int .i64 q0, .int .u8 v4, .str p0]] : List (List D)) = ([[.int .i64 q0, .int .u8 v4, .str p0]] : List (List D)))]) (by kernel_rfl) ⟨⟨trivial, ⟨⟨⟨trivial, ⟨trivial, ⟨trivial, trivial⟩⟩⟩, trivial⟩, rfl, .inl (w25 e11)⟩⟩, ⟨trivial, ⟨Nat.zero_le _, Nat.le_of_ble_eq_true rfl, rfl⟩⟩, trivial⟩ ?_
  refine EvOk.ret ?_
  obtain rfl := someE h
  exact Den.Ends.mk (.inl rfl) (d := .tup [.agg [.int .i64 q0, .int .u8 v4, .str p0], .str p1, .bool v10]) (p := (True ∧ (True ∧ (True ∧ True))) ∧ ((True ∧ (True ∧ (True ∧ True))) ∧ (True ∧ (True ∧ True)))) (by kernel_rfl) ⟨⟨trivial, ⟨trivial, ⟨trivial, trivial⟩⟩⟩, ⟨⟨trivial, ⟨trivial, ⟨trivial, trivial⟩⟩⟩, ⟨trivial, ⟨trivial, trivial⟩⟩⟩⟩ (by kernel_rfl)
theorem we35 (x0 : List UInt8) (r : T_api_Type × (List UInt8) × Bool) (h : m_desc_prefix x0 = some r) (Γ : Ctx) : At Try.prog Γ b35 [] (Den.Ends Try.prog Try.f35 (.tup [.agg (row_T_api_Type r.1), .str r.2.1, .bool r.2.2])) (mkS 56 [(0, .str x0)] []) := by
  refine At.adv [] [(0, { told := [], gs := [], keep := some ([0, 2], [(2, 2)]) }), (1, { told := [], gs := [], keep := some ([0, 2, 5], [(2, 2), (5, 5)]) })] 400 (ev := .loop c35x4 [.blk 0, .seq c35x10]) (σ' := mkS 56 [(0, .str x0), (2, .lptr 2 0 0), (5, .lptr 5 0 0)] [(2, { sz := 3, rows := [[.int .i64 0, .int .u8 0, .str []]], frz := 0, pure := false }), (5, { sz := 3, rows := [[.int .i64 0, .int .u8 0, .str []]], frz := 0, pure := false })]) (q := [True ∧ (0 ≤ 0 ∧ 0 + ([.int .i64 0, .int .u8 0, .str []] : List D).length ≤ ([.int .i64 0, .int .u8 0, .str []] : List D).length ∧ ([[.int .i64 0, .int .u8 0, .str []]] : List (List D)) = ([[.int .i64 0, .int .u8 0, .str []]] : List (List D)))]) (by kernel_rfl) ⟨⟨trivial, ⟨Nat.zero_le _, Nat.le_of_ble_eq_true rfl, rfl⟩⟩, trivial⟩ ?_
  refine EvOk.loop ?_
  obtain ⟨q0, e3, h⟩ := bindE h
  refine At.loop (l35x1 x0) (st35x1 x0) (J35x1 x0) 0 e3 (by kernel_rfl) (fun t x hx => (wl35x1 x0) t x hx Γ) ?_
  intro e σ' hJ
  obtain ⟨rfl, rfl⟩ := hJ
  refine At.exitK (K' := [.seq c35x10]) (by kernel_rfl) ?_
  obtain ⟨v3, e4, h⟩ := bindE h
  refine At.advN [] [(4, { told := [(3, { ans := .val (.str v3) })], gs := [], keep := some ([0, 2, 5], [(2, 2), (5, 5)]) }), (5, { told := [], gs := [], keep := some ([0, 2, 5, 29], [(2, 2), (5, 5)]) })] 400 (ev := .cond (v3 == ([] : List UInt8)) c35x30 c35x31 [.seq c35x12]) (σ' := mkS 56 [(0, .str v3), (2, .lptr 2 0 0), (5, .lptr 5 0 0), (29, .bool (v3 == ([] : List UInt8)))] [(2, { sz := 3, rows := [[.int .i64 0, .int .u8 0, .str []]], frz := 0, pure := false }), (5, { sz := 3, rows := [[.int .i64 q0, .int .u8 0, .str []]], frz := 0, pure := false })]) (q := [True ∧ (sub x0 q0 (x0.length : Int) = some v3)]) (by kernel_rfl) ⟨⟨trivial, e4⟩, trivial⟩ ?_
  refine EvOk.cond (fun h4 => ?_) (fun h4 => ?_)
  · replace h := iteT h4 h
    refine At.gc [2] [(2, 2)] (n := 56) (l := [(2, .lptr 2 0 0)]) (bl := [(2, { sz := 3, rows := [[.int .i64 0, .int .u8 0, .str []]], frz := 0, pure := false })]) (by kernel_rfl) ?_
    refine At.adv [] [(6, { told := [], gs := [], keep := some ([2, 3, 4], [(2, 2)]) })] 400 (ev := .ret) (σ' := mkS 56 [(2, .lptr 2 0 0), (3, .str []), (4, .bool false)] [(2, { sz := 3, rows := [[.int .i64 0, .int .u8 0, .str []]], frz := 0, pure := false })]) (q := [True ∧ (0 ≤ 0 ∧ 0 + ([.int .i64 0, .int .u8 0, .str []] : List D).length ≤ ([.int .i64 0, .int .u8 0, .str []] : List D).length ∧ ([[.int .i64 0, .int .u8 0, .str []]] : List (List D)) = ([[.int .i64 0, .int .u8 0, .str []]] : List (List D)))]) (by kernel_rfl) ⟨⟨trivial, ⟨Nat.zero_le _, Nat.le_of_ble_eq_true rfl, rfl⟩⟩, trivial⟩ ?_
    refine EvOk.ret ?_
    obtain rfl := someE h
    exact Den.Ends.mk (.inl rfl) (d := .tup [.agg [.int .i64 0, .int .u8 0, .str []], .str [], .bool false]) (p := (True ∧ (True ∧ (True ∧ True))) ∧ ((True ∧ (True ∧ (True ∧ True))) ∧ (True ∧ (True ∧ True)))) (by kernel_rfl) ⟨⟨trivial, ⟨trivial, ⟨trivial, trivial⟩⟩⟩, ⟨⟨trivial, ⟨trivial, ⟨trivial, trivial⟩⟩⟩, ⟨trivial, ⟨trivial, trivial⟩⟩⟩⟩ (by kernel_rfl)
  · replace h := iteF h4 h
    refine At.gc [0, 2, 5] [(2, 2), (5, 5)] (n := 56) (l := [(0, .str v3), (2, .lptr 2 0 0), (5, .lptr 5 0 0)]) (bl := [(2, { sz := 3, rows := [[.int .i64 0, .int .u8 0, .str []]], frz := 0, pure := false }), (5, { sz := 3, rows := [[.int .i64 q0, .int .u8 0, .str []]], frz := 0, pure := false })]) (by kernel_rfl) ?_
    obtain ⟨v4, e5, h⟩ := bindE h
    obtain ⟨v5, e6, h⟩ := bindE h
    refine At.adv [] [(7, { told := [(1, { ans := .val (.int .u8 v4) })], gs := [], keep := some ([0, 2, 5], [(2, 2), (5, 5)]) }), (8, { told := [(1, { ans := .val (.str v5) })], gs := [], keep := some ([0, 2, 5], [(2, 2), (5, 5)]) }), (9, { told := [], gs := [], keep := some ([0, 2, 5, 38], [(2, 2), (5, 5)]) })] 400 (ev := .cond (v4 == 76) c35x20 c35x27 [.seq c35x15]) (σ' := mkS 56 [(0, .str v5), (2, .lptr 2 0 0), (5, .lptr 5 0 0), (38, .bool (v4 == 76))] [(2, { sz := 3, rows := [[.int .i64 0, .int .u8 0, .str []]], frz := 0, pure := false }), (5, { sz := 3, rows := [[.int .i64 q0, .int .u8 v4, .str []]], frz := 0, pure := false })]) (q := [True ∧ (getS v3 0 = some v4), True ∧ (0 ≤ 0 ∧ 1 + ([.int .u8 v4] : List D).length ≤ ([.int .i64 q0, .int .u8 0, .str []] : List D).length ∧ ([[.int .i64 q0, .int .u8 v4, .str []]] : List (List D)) = ([[.int .i64 q0, .int .u8 v4, .str []]] : List (List D))), True ∧ (sub v3 1 (v3.length : Int) = some v5)]) (by kernel_rfl) ⟨⟨trivial, e5⟩, ⟨trivial, ⟨Nat.zero_le _, Nat.le_of_ble_eq_true rfl, rfl⟩⟩, ⟨trivial, e6⟩, trivial⟩ ?_
    refine EvOk.cond (fun h5 => ?_) (fun h5 => ?_)
    · replace h := iteT h5 h
      refine At.gc [0, 2, 5] [(2, 2), (5, 5)] (n := 56) (l := [(0, .str v5), (2, .lptr 2 0 0), (5, .lptr 5 0 0)]) (bl := [(2, { sz := 3, rows := [[.int .i64 0, .int .u8 0, .str []]], frz := 0, pure := false }), (5, { sz := 3, rows := [[.int .i64 q0, .int .u8 v4, .str []]], frz := 0, pure := false })]) (by kernel_rfl) ?_
      obtain ⟨v6, e7, h⟩ := bindE h
      refine At.adv [] [(10, { told := [(1, { ans := .val (.int .i64 v6), args := [.str v5, .int .u8 59] })], gs := [], keep := some ([0, 2, 5, 6], [(2, 2), (5, 5)]) }), (11, { told := [], gs := [], keep := some ([0, 2, 5, 6, 42], [(2, 2), (5, 5)]) })] 400 (ev := .cond (decide (v6 < 0)) c35x24 c35x25 [.seq c35x26, .seq c35x15]) (σ' := mkS 56 [(0, .str v5), (2, .lptr 2 0 0), (5, .lptr 5 0 0), (6, .int .i64 v6), (42, .bool (decide (v6 < 0)))] [(2, { sz := 3, rows := [[.int .i64 0, .int .u8 0, .str []]], frz := 0, pure := false }), (5, { sz := 3, rows := [[.int .i64 q0, .int .u8 v4, .str []]], frz := 0, pure := false })]) (q := [True ∧ ((True ∧ (True ∧ True)) ∧ ([.str v5, .int .u8 59] : List D) = [.str v5, .int .u8 59] ∧ CallAny Try.prog 42 [.str v5, .int .u8 59] (.int .i64 v6))]) (by kernel_rfl) ⟨⟨trivial, ⟨⟨trivial, ⟨trivial, trivial⟩⟩, rfl, .inl (w42 e7)⟩⟩, trivial⟩ ?_
      refine EvOk.cond (fun h6 => ?_) (fun h6 => ?_)
      · replace h := iteT h6 h
        refine At.gc [2] [(2, 2)] (n := 56) (l := [(2, .lptr 2 0 0)]) (bl := [(2, { sz := 3, rows := [[.int .i64 0, .int .u8 0, .str []]], frz := 0, pure := false })]) (by kernel_rfl) ?_
        refine At.adv [] [(12, { told := [], gs := [], keep := some ([2, 3, 4], [(2, 2)]) })] 400 (ev := .ret) (σ' := mkS 56 [(2, .lptr 2 0 0), (3, .str []), (4, .bool false)] [(2, { sz := 3, rows := [[.int .i64 0, .int .u8 0, .str []]], frz := 0, pure := false })]) (q := [True ∧ (0 ≤ 0 ∧ 0 + ([.int .i64 0, .int .u8 0, .str []] : List D).length ≤ ([.int .i64 0, .int .u8 0, .str []] : List D).length ∧ ([[.int .i64 0, .int .u8 0, .str []]] : List (List D)) = ([[.int .i64 0, .int .u8 0, .str []]] : List (List D)))]) (by kernel_rfl) ⟨⟨trivial, ⟨Nat.zero_le _, Nat.le_of_ble_eq_true rfl, rfl⟩⟩, trivial⟩ ?_
        refine EvOk.ret ?_
        obtain rfl := someE h
        exact Den.Ends.mk (.inl rfl) (d := .tup [.agg [.int .i64 0, .int .u8 0, .str []], .str [], .bool false]) (p := (True ∧ (True ∧ (True ∧ True))) ∧ ((True ∧ (True ∧ (True ∧ True))) ∧ (True ∧ (True ∧ True)))) (by kernel_rfl) ⟨⟨trivial, ⟨trivial, ⟨trivial, trivial⟩⟩⟩, ⟨⟨trivial, ⟨trivial, ⟨trivial, trivial⟩⟩⟩, ⟨trivial, ⟨trivial, trivial⟩⟩⟩⟩ (by kernel_rfl)
      · replace h := iteF h6 h
        refine At.gc [0, 2, 5, 6] [(2, 2), (5, 5)] (n := 56) (l := [(0, .str v5), (2, .lptr 2 0 0), (5, .lptr 5 0 0), (6, .int .i64 v6)]) (bl := [(2, { sz := 3, rows := [[.int .i64 0, .int .u8 0, .str []]], frz := 0, pure := false }), (5, { sz := 3, rows := [[.int .i64 q0, .int .u8 v4, .str []]], frz := 0, pure := false })]) (by kernel_rfl) ?_
        obtain ⟨v7, e8, h⟩ := bindE h
        obtain ⟨v8, e9, h⟩ := bindE h
        obtain ⟨v9, e10, h⟩ := bindE h
        refine At.adv [15] [(13, { told := [(2, { ans := .val (.str v7) })], gs := [], keep := some ([0, 2, 5, 6], [(2, 2), (5, 5)]) }), (14, { told := [(2, { ans := .val (.int .i64 v8) }), (3, { ans := .val (.str v9) })], gs := [], keep := some ([0, 2, 5], [(2, 2), (5, 5)]) })] 400 (ev := .stop c35x16 [.seq c35x17]) (σ' := mkS 56 [(0, .str v9), (2, .lptr 2 0 0), (5, .lptr 5 0 0)] [(2, { sz := 3, rows := [[.int .i64 0, .int .u8 0, .str []]], frz := 0, pure := false }), (5, { sz := 3, rows := [[.int .i64 q0, .int .u8 v4, .str v7]], frz := 0, pure := false })]) (q := [True ∧ (sub v5 0 v6 = some v7), True ∧ (0 ≤ 0 ∧ 2 + ([.str v7] : List D).length ≤ ([.int .i64 q0, .int .u8 v4, .str []] : List D).length ∧ ([[.int .i64 q0, .int .u8 v4, .str v7]] : List (List D)) = ([[.int .i64 q0, .int .u8 v4, .str v7]] : List (List D))), True ∧ (IntKind.wrap .i64 (v6 + (1 : Int)) = v8), True ∧ (sub v5 v8 (v5.length : Int) = some v9)]) (by kernel_rfl) ⟨⟨trivial, e8⟩, ⟨trivial, ⟨Nat.zero_le _, Nat.le_of_ble_eq_true rfl, rfl⟩⟩, ⟨trivial, someE e9⟩, ⟨trivial, e10⟩, trivial⟩ ?_
        exact (wj35x1 q0 v4) v7 v9 r h Γ
    · replace h := iteF h5 h
      refine At.gc [0, 2, 5] [(2, 2), (5, 5)] (n := 56) (l := [(0, .str v5), (2, .lptr 2 0 0), (5, .lptr 5 0 0)]) (bl := [(2, { sz := 3, rows := [[.int .i64 0, .int .u8 0, .str []]], frz := 0, pure := false }), (5, { sz := 3, rows := [[.int .i64 q0, .int .u8 v4, .str []]], frz := 0, pure := false })]) (by kernel_rfl) ?_
      refine At.adv [15] [] 400 (ev := .stop c35x16 [.seq c35x17]) (σ' := mkS 56 [(0, .str v5), (2, .lptr 2 0 0), (5, .lptr 5 0 0)] [(2, { sz := 3, rows := [[.int .i64 0, .int .u8 0, .str []]], frz := 0, pure := false }), (5, { sz := 3, rows := [[.int .i64 q0, .int .u8 v4, .str []]], frz := 0, pure := false })]) (q := []) (by kernel_rfl) trivial ?_
      exact (wj35x1 q0 v4) [] v5 r h Γ
theorem w35 {x0 : List UInt8} {r : T_api_Type × (List UInt8) × Bool} (h : m_desc_prefix x0 = some r) : CallSpec Try.prog 35 [.str x0] (.tup [.agg (row_T_api_Type r.1), .str r.2.1, .bool r.2.2]) :=
  CallSpec.at2 b35 (n := 56) (l := [(0, .str x0)]) (by kernel_rfl) (by kernel_rfl) (by kernel_rfl) (by kernel_rfl) (by kernel_rfl) (Nat.le_of_ble_eq_true (by kernel_rfl)) (fun Γ => we35 x0 r h Γ)

/-! ### armature desc.Parse -/
noncomputable def b11 : Code := Try.f11.body.getD .skip
noncomputable def c11x0 : Code := sub1 b11
noncomputable def c11x1 : Code := sub1 c11x0
noncomputable def c11x2 : Code := sub0 c11x1
noncomputable def c11x3 : Code := sub1 c11x2
noncomputable def c11x4 : Code := sub0 c11x3
noncomputable def c11x5 : Code := sub1 c11x3
noncomputable def c11x6 : Code := sub1 c11x1
def m_desc_Parse (x0 : List UInt8) : Option (T_api_Type × Int) :=
  (m_desc_prefix x0).bind fun v0 =>
  if (!v0.2.2) = true then (some (({ f_Dim := 0, f_Base := 0, f_Name := [] } : T_api_Type), 13)) else
  (if (!(v0.2.1 == ([] : List UInt8))) = true then
    (some (({ f_Dim := 0, f_Base := 0, f_Name := [] } : T_api_Type), 13)) else
  (some (({ f_Dim := v0.1.f_Dim, f_Base := v0.1.f_Base, f_Name := v0.1.f_Name } : T_api_Type), 0)))
theorem we11 (x0 : List UInt8) (r : T_api_Type × Int) (h : m_desc_Parse x0 = some r) (Γ : Ctx) : At Try.prog Γ b11 [] (Den.Ends Try.prog Try.f11 (.tup [.agg (row_T_api_Type r.1), .int .i64 r.2])) (mkS 21 [(0, .str x0)] []) := by
  obtain ⟨v0, e0, h⟩ := bindE h
  rcases Bool.eq_false_or_eq_true (!v0.2.2) with h0 | h0
  · replace h := iteT h0 h
    refine At.adv [] [(0, { told := [], gs := [], keep := some ([0, 2], [(2, 2)]) }), (1, { told := [(1, { ans := .val (.tup [.agg (row_T_api_Type v0.1), .str v0.2.1, .bool v0.2.2]), args := [.str x0] })], gs := [], keep := some ([2, 4, 5, 6], [(2, 2), (4, 4)]) }), (2, { told := [(5, { ans := .yes })], gs := [(3, false), (4, false)], keep := some ([2, 4, 18], [(2, 2), (4, 4)]) })] 400 (ev := .cond true c11x4 c11x5 [.seq c11x6]) (σ' := mkS 21 [(2, .lptr 2 0 0), (4, .lptr 4 0 0), (18, .bool true)] [(2, { sz := 3, rows := [[.int .i64 0, .int .u8 0, .str []]], frz := 0, pure := false }), (4, { sz := 3, rows := [[.int .i64 v0.1.f_Dim, .int .u8 v0.1.f_Base, .str v0.1.f_Name]], frz := 0, pure := false })]) (q := [True ∧ ((True ∧ True) ∧ ([.str x0] : List D) = [.str x0] ∧ CallAny Try.prog 35 [.str x0] (.tup [.agg (row_T_api_Type v0.1), .str v0.2.1, .bool v0.2.2])), True ∧ (0 ≤ 0 ∧ 0 + ([.int .i64 v0.1.f_Dim, .int .u8 v0.1.f_Base, .str v0.1.f_Name] : List D).length ≤ ([.int .i64 0, .int .u8 0, .str []] : List D).length ∧ ([[.int .i64 v0.1.f_Dim, .int .u8 v0.1.f_Base, .str v0.1.f_Name]] : List (List D)) = ([[.int .i64 v0.1.f_Dim, .int .u8 v0.1.f_Base, .str v0.1.f_Name]] : List (List D))), ((!v0.2.2) == false) = false, ((!v0.2.2) == false) = false, True ∧ ((!v0.2.2) = true)]) (by kernel_rfl) ⟨⟨trivial, ⟨⟨trivial, trivial⟩, rfl, .inl (w35 e0)⟩⟩, ⟨trivial, ⟨Nat.zero_le _, Nat.le_of_ble_eq_true rfl, rfl⟩⟩, gB h0 rfl, gB h0 rfl, ⟨trivial, h0⟩, trivial⟩ ?_
    refine EvOk.cond (fun _ => ?_) (fun hb => Bool.noConfusion hb)
    refine At.gc [2] [(2, 2)] (n := 21) (l := [(2, .lptr 2 0 0)]) (bl := [(2, { sz := 3, rows := [[.int .i64 0, .int .u8 0, .str []]], frz := 0, pure := false })]) (by kernel_rfl) ?_
    refine At.adv [] [(3, { told := [], gs := [], keep := some ([2, 3], [(2, 2)]) })] 400 (ev := .ret) (σ' := mkS 21 [(2, .lptr 2 0 0), (3, .int .i64 13)] [(2, { sz := 3, rows := [[.int .i64 0, .int .u8 0, .str []]], frz := 0, pure := false })]) (q := [True ∧ (0 ≤ 0 ∧ 0 + ([.int .i64 0, .int .u8 0, .str []] : List D).length ≤ ([.int .i64 0, .int .u8 0, .str []] : List D).length ∧ ([[.int .i64 0, .int .u8 0, .str []]] : List (List D)) = ([[.int .i64 0, .int .u8 0, .str []]] : List (List D)))]) (by kernel_rfl) ⟨⟨trivial, ⟨Nat.zero_le _, Nat.le_of_ble_eq_true rfl, rfl⟩⟩, trivial⟩ ?_
    refine EvOk.ret ?_
    obtain rfl := someE h
    exact Den.Ends.mk (.inl rfl) (d := .tup [.agg [.int .i64 0, .int .u8 0, .str []], .int .i64 13]) (p := (True ∧ (True ∧ True)) ∧ ((True ∧ (True ∧ (True ∧ True))) ∧ (True ∧ True))) (by kernel_rfl) ⟨⟨trivial, ⟨trivial, trivial⟩⟩, ⟨⟨trivial, ⟨trivial, ⟨trivial, trivial⟩⟩⟩, ⟨trivial, trivial⟩⟩⟩ (by kernel_rfl)
  · replace h := iteF h0 h
    refine At.adv [] [(0, { told := [], gs := [], keep := some ([0, 2], [(2, 2)]) }), (1, { told := [(1, { ans := .val (.tup [.agg (row_T_api_Type v0.1), .str v0.2.1, .bool v0.2.2]), args := [.str x0] })], gs := [], keep := some ([2, 4, 5, 6], [(2, 2), (4, 4)]) }), (2, { told := [(5, { ans := .no })], gs := [(3, true), (4, true)], keep := some ([2, 4, 18], [(2, 2), (4, 4)]) })] 400 (ev := .cond (!(v0.2.1 == ([] : List UInt8))) c11x4 c11x5 [.seq c11x6]) (σ' := mkS 21 [(2, .lptr 2 0 0), (4, .lptr 4 0 0), (18, .bool (!(v0.2.1 == ([] : List UInt8))))] [(2, { sz := 3, rows := [[.int .i64 0, .int .u8 0, .str []]], frz := 0, pure := false }), (4, { sz := 3, rows := [[.int .i64 v0.1.f_Dim, .int .u8 v0.1.f_Base, .str v0.1.f_Name]], frz := 0, pure := false })]) (q := [True ∧ ((True ∧ True) ∧ ([.str x0] : List D) = [.str x0] ∧ CallAny Try.prog 35 [.str x0] (.tup [.agg (row_T_api_Type v0.1), .str v0.2.1, .bool v0.2.2])), True ∧ (0 ≤ 0 ∧ 0 + ([.int .i64 v0.1.f_Dim, .int .u8 v0.1.f_Base, .str v0.1.f_Name] : List D).length ≤ ([.int .i64 0, .int .u8 0, .str []] : List D).length ∧ ([[.int .i64 v0.1.f_Dim, .int .u8 v0.1.f_Base, .str v0.1.f_Name]] : List (List D)) = ([[.int .i64 v0.1.f_Dim, .int .u8 v0.1.f_Base, .str v0.1.f_Name]] : List (List D))), ((!v0.2.2) == false) = true ∧ True, ((!v0.2.2) == false) = true ∧ True, True ∧ ((!v0.2.2) = false)]) (by kernel_rfl) ⟨⟨trivial, ⟨⟨trivial, trivial⟩, rfl, .inl (w35 e0)⟩⟩, ⟨trivial, ⟨Nat.zero_le _, Nat.le_of_ble_eq_true rfl, rfl⟩⟩, ⟨(gB h0 rfl), trivial⟩, ⟨(gB h0 rfl), trivial⟩, ⟨trivial, h0⟩, trivial⟩ ?_
    refine EvOk.cond (fun h1 => ?_) (fun h1 => ?_)
    · replace h := iteT h1 h
      refine At.gc [2] [(2, 2)] (n := 21) (l := [(2, .lptr 2 0 0)]) (bl := [(2, { sz := 3, rows := [[.int .i64 0, .int .u8 0, .str []]], frz := 0, pure := false })]) (by kernel_rfl) ?_
      refine At.adv [] [(3, { told := [], gs := [], keep := some ([2, 3], [(2, 2)]) })] 400 (ev := .ret) (σ' := mkS 21 [(2, .lptr 2 0 0), (3, .int .i64 13)] [(2, { sz := 3, rows := [[.int .i64 0, .int .u8 0, .str []]], frz := 0, pure := false })]) (q := [True ∧ (0 ≤ 0 ∧ 0 + ([.int .i64 0, .int .u8 0, .str []] : List D).length ≤ ([.int .i64 0, .int .u8 0, .str []] : List D).length ∧ ([[.int .i64 0, .int .u8 0, .str []]] : List (List D)) = ([[.int .i64 0, .int .u8 0, .str []]] : List (List D)))]) (by kernel_rfl) ⟨⟨trivial, ⟨Nat.zero_le _, Nat.le_of_ble_eq_true rfl, rfl⟩⟩, trivial⟩ ?_
      refine EvOk.ret ?_
      obtain rfl := someE h
      exact Den.Ends.mk (.inl rfl) (d := .tup [.agg [.int .i64 0, .int .u8 0, .str []], .int .i64 13]) (p := (True ∧ (True ∧ True)) ∧ ((True ∧ (True ∧ (True ∧ True))) ∧ (True ∧ True))) (by kernel_rfl) ⟨⟨trivial, ⟨trivial, trivial⟩⟩, ⟨⟨trivial, ⟨trivial, ⟨trivial, trivial⟩⟩⟩, ⟨trivial, trivial⟩⟩⟩ (by kernel_rfl)
    · replace h := iteF h1 h
      refine At.gc [2, 4] [(2, 2), (4, 4)] (n := 21) (l := [(2, .lptr 2 0 0), (4, .lptr 4 0 0)]) (bl := [(2, { sz := 3, rows := [[.int .i64 0, .int .u8 0, .str []]], frz := 0, pure := false }), (4, { sz := 3, rows := [[.int .i64 v0.1.f_Dim, .int .u8 v0.1.f_Base, .str v0.1.f_Name]], frz := 0, pure := false })]) (by kernel_rfl) ?_
      refine At.adv [] [(4, { told := [], gs := [], keep := some ([2, 3], [(2, 2)]) })] 400 (ev := .ret) (σ' := mkS 21 [(2, .lptr 2 0 0), (3, .int .i64 0)] [(2, { sz := 3, rows := [[.int .i64 v0.1.f_Dim, .int .u8 v0.1.f_Base, .str v0.1.f_Name]], frz := 0, pure := false })]) (q := [True ∧ (0 ≤ 0 ∧ 0 + ([.int .i64 v0.1.f_Dim, .int .u8 v0.1.f_Base, .str v0.1.f_Name] : List D).length ≤ ([.int .i64 0, .int .u8 0, .str []] : List D).length ∧ ([[.int .i64 v0.1.f_Dim, .int .u8 v0.1.f_Base, .str v0.1.f_Name]] : List (List D)) = ([[.int .i64 v0.1.f_Dim, .int .u8 v0.1.f_Base, .str v0.1.f_Name]] : List (List D)))]) (by kernel_rfl) ⟨⟨trivial, ⟨Nat.zero_le _, Nat.le_of_ble_eq_true rfl, rfl⟩⟩, trivial⟩ ?_
      refine EvOk.ret ?_
      obtain rfl := someE h
      exact Den.Ends.mk (.inl rfl) (d := .tup [.agg [.int .i64 v0.1.f_Dim, .int .u8 v0.1.f_Base, .str v0.1.f_Name], .int .i64 0]) (p := (True ∧ (True ∧ True)) ∧ ((True ∧ (True ∧ (True ∧ True))) ∧ (True ∧ True))) (by kernel_rfl) ⟨⟨trivial, ⟨trivial, trivial⟩⟩, ⟨⟨trivial, ⟨trivial, ⟨trivial, trivial⟩⟩⟩, ⟨trivial, trivial⟩⟩⟩ (by kernel_rfl)
theorem w11 {x0 : List UInt8} {r : T_api_Type × Int} (h : m_desc_Parse x0 = some r) : CallSpec Try.prog 11 [.str x0] (.tup [.agg (row_T_api_Type r.1), .int .i64 r.2]) :=
  CallSpec.at2 b11 (n := 21) (l := [(0, .str x0)]) (by kernel_rfl) (by kernel_rfl) (by kernel_rfl) (by kernel_rfl) (by kernel_rfl) (Nat.le_of_ble_eq_true (by kernel_rfl)) (fun Γ => we11 x0 r h Γ)

/-! ### armature desc.ParseSignature -/
noncomputable def b15 : Code := Try.f15.body.getD .skip
noncomputable def c15x0 : Code := sub1 b15
noncomputable def c15x1 : Code := sub0 c15x0
noncomputable def c15x2 : Code := sub1 c15x1
noncomputable def c15x3 : Code := sub0 c15x2
noncomputable def c15x4 : Code := sub1 c15x2
noncomputable def c15x5 : Code := sub1 c15x0
noncomputable def c15x6 : Code := sub0 c15x5
noncomputable def c15x7 : Code := sub1 c15x5
noncomputable def c15x8 : Code := sub1 c15x7
noncomputable def c15x9 : Code := sub0 c15x8
noncomputable def c15x10 : Code := sub0 c15x9
noncomputable def c15x11 : Code := sub0 c15x10
noncomputable def c15x12 : Code := sub1 c15x11
noncomputable def c15x13 : Code := sub0 c15x12
noncomputable def c15x14 : Code := sub0 c15x13
noncomputable def c15x15 : Code := sub1 c15x13
noncomputable def c15x16 : Code := sub0 c15x11
noncomputable def c15x17 : Code := sub1 c15x16
noncomputable def c15x18 : Code := sub0 c15x17
noncomputable def c15x19 : Code := sub1 c15x17
noncomputable def c15x20 : Code := sub0 c15x15
noncomputable def c15x21 : Code := sub1 c15x20
noncomputable def c15x22 : Code := sub0 c15x21
noncomputable def c15x23 : Code := sub1 c15x21
noncomputable def c15x24 : Code := sub1 c15x15
noncomputable def c15x25 : Code := sub0 c15x24
noncomputable def c15x26 : Code := sub1 c15x24
noncomputable def c15x27 : Code := sub1 c15x8
noncomputable def c15x28 : Code := sub1 c15x27
noncomputable def c15x29 : Code := sub1 c15x28
noncomputable def c15x30 : Code := sub1 c15x29
noncomputable def c15x31 : Code := sub0 c15x30
noncomputable def c15x32 : Code := sub1 c15x31
noncomputable def c15x33 : Code := sub0 c15x32
noncomputable def c15x34 : Code := sub1 c15x32
noncomputable def c15x35 : Code := sub1 c15x30
noncomputable def c15x36 : Code := sub0 c15x29
noncomputable def c15x37 : Code := sub1 c15x36
noncomputable def c15x38 : Code := sub0 c15x37
noncomputable def c15x39 : Code := sub1 c15x37
noncomputable def c15x40 : Code := sub0 c15x27
noncomputable def c15x41 : Code := sub1 c15x40
noncomputable def c15x42 : Code := sub0 c15x41
noncomputable def c15x43 : Code := sub1 c15x41
def j15x3 (t0 : (List UInt8) × (List T_api_Type)) (v9 : T_api_Type × (List UInt8) × Bool) : Option (Ctl ((List UInt8) × (List T_api_Type)) (((List T_api_Type) × (List UInt8)) ⊕ (T_api_Sig × Int))) :=
  (growK 32 (t0.2 ++ [({ f_Dim := v9.1.f_Dim, f_Base := v9.1.f_Base, f_Name := v9.1.f_Name } : T_api_Type)]).length).bind fun v10 =>
  some (.next (v9.2.1, (t0.2 ++ [({ f_Dim := v9.1.f_Dim, f_Base := v9.1.f_Base, f_Name := v9.1.f_Name } : T_api_Type)])))
def j15x2 (t0 : (List UInt8) × (List T_api_Type)) : Option (Ctl ((List UInt8) × (List T_api_Type)) (((List T_api_Type) × (List UInt8)) ⊕ (T_api_Sig × Int))) :=
  (m_desc_prefix t0.1).bind fun v9 =>
  if (!v9.2.2) = true then (some (.done (.inr (({ f_Params := ([] : List T_api_Type), f_Result := ({ f_Dim := 0, f_Base := 0, f_Name := [] } : T_api_Type) } : T_api_Sig), 13)))) else
  (if (v9.1.f_Base == 86) = true then
    (some (.done (.inr (({ f_Params := ([] : List T_api_Type), f_Result := ({ f_Dim := 0, f_Base := 0, f_Name := [] } : T_api_Type) } : T_api_Sig), 13)))) else
  ((j15x3 t0 v9) ))
def l15x1 (t0 : (List UInt8) × (List T_api_Type)) : Option (Ctl ((List UInt8) × (List T_api_Type)) (((List T_api_Type) × (List UInt8)) ⊕ (T_api_Sig × Int))) :=
  if (!(t0.1 == ([] : List UInt8))) = true then ((getS t0.1 0).bind fun v8 =>
  if (v8 != 41) = true then
    ((j15x2 t0) ) else
  (some (.done (.inl ((t0.2, t0.1)))))) else
  (some (.done (.inl ((t0.2, t0.1)))))
def j15x1 (x0 : List UInt8) : Option (T_api_Sig × Int) :=
  (sub x0 1 (x0.length : Int)).bind fun v1 =>
  (loopM l15x1 rounds (v1, ([] : List T_api_Type))).bind fun q1 =>
  match q1 with
  | .inl q0 => (if (q0.2 == ([] : List UInt8)) = true then
      (some (({ f_Params := ([] : List T_api_Type), f_Result := ({ f_Dim := 0, f_Base := 0, f_Name := [] } : T_api_Type) } : T_api_Sig), 13)) else
    ((sub q0.2 1 (q0.2.length : Int)).bind fun v11 =>
      (m_desc_Parse v11).bind fun v12 =>
      if (v12.2 != 0) = true then
        (some (({ f_Params := ([] : List T_api_Type), f_Result := ({ f_Dim := 0, f_Base := 0, f_Name := [] } : T_api_Type) } : T_api_Sig), v12.2)) else
      (if (decide ((q0.1.length : Int) > 16)) = true then
          (some (({ f_Params := ([] : List T_api_Type), f_Result := ({ f_Dim := 0, f_Base := 0, f_Name := [] } : T_api_Type) } : T_api_Sig), 5)) else
        (some (({ f_Params := q0.1, f_Result := ({ f_Dim := v12.1.f_Dim, f_Base := v12.1.f_Base, f_Name := v12.1.f_Name } : T_api_Type) } : T_api_Sig), 0)))))
  | .inr y0 => (some y0)
def m_desc_ParseSignature (x0 : List UInt8) : Option (T_api_Sig × Int) :=
  if (x0 == ([] : List UInt8)) = true then (some (({ f_Params := ([] : List T_api_Type), f_Result := ({ f_Dim := 0, f_Base := 0, f_Name := [] } : T_api_Type) } : T_api_Sig), 13)) else
  ((getS x0 0).bind fun v0 =>
  if (v0 != 40) = true then
    (some (({ f_Params := ([] : List T_api_Type), f_Result := ({ f_Dim := 0, f_Base := 0, f_Name := [] } : T_api_Type) } : T_api_Sig), 13)) else
  ((j15x1 x0) ))
def st15x1  : ((List UInt8) × (List T_api_Type)) → S :=
  fun t0 => mkS 70 [(0, .str t0.1), (2, .lptr 2 0 0), (4, .lptr 4 0 0)] [(2, { sz := 4, rows := [[.sl true (([] : List T_api_Type).map row_T_api_Type), .int .i64 0, .int .u8 0, .str []]], frz := 0, pure := false }), (4, { sz := 4, rows := [[.lsl 1004 0 ((t0.2.map row_T_api_Type).length), .int .i64 0, .int .u8 0, .str []]], frz := 0, pure := false }), (1004, { sz := 3, rows := (t0.2.map row_T_api_Type), frz := 0, pure := true })]
noncomputable def J15x1  : (((List T_api_Type) × (List UInt8)) ⊕ (T_api_Sig × Int)) → Exit → S → Prop :=
  JSum (JExit 0 (fun q0 : (List T_api_Type) × (List UInt8) => mkS 70 [(0, .str q0.2), (2, .lptr 2 0 0), (4, .lptr 4 0 0)] [(2, { sz := 4, rows := [[.sl true (([] : List T_api_Type).map row_T_api_Type), .int .i64 0, .int .u8 0, .str []]], frz := 0, pure := false }), (4, { sz := 4, rows := [[.lsl 1004 0 ((q0.1.map row_T_api_Type).length), .int .i64 0, .int .u8 0, .str []]], frz := 0, pure := false }), (1004, { sz := 3, rows := (q0.1.map row_T_api_Type), frz := 0, pure := true })])) (JRet Try.prog Try.f15 (fun y : T_api_Sig × Int => .tup [.agg (row_T_api_Sig y.1), .int .i64 y.2]))
theorem wj15x3 (t0 : (List UInt8) × (List T_api_Type)) (v9 : T_api_Type × (List UInt8) × Bool) (r : Ctl ((List UInt8) × (List T_api_Type)) (((List T_api_Type) × (List UInt8)) ⊕ (T_api_Sig × Int))) (h : (j15x3 t0 v9)  = some r) (Γ : Ctx) : EvOk Try.prog Γ (Round st15x1 J15x1 r) (mkS 70 [(2, .lptr 2 0 0), (4, .lptr 4 0 0), (5, .lptr 5 0 0), (6, .str v9.2.1)] [(2, { sz := 4, rows := [[.sl true (([] : List T_api_Type).map row_T_api_Type), .int .i64 0, .int .u8 0, .str []]], frz := 0, pure := false }), (4, { sz := 4, rows := [[.lsl 1004 0 ((t0.2.map row_T_api_Type).length), .int .i64 0, .int .u8 0, .str []]], frz := 0, pure := false }), (5, { sz := 3, rows := [[.int .i64 v9.1.f_Dim, .int .u8 v9.1.f_Base, .str v9.1.f_Name]], frz := 0, pure := false }), (1004, { sz := 3, rows := (t0.2.map row_T_api_Type), frz := 0, pure := true })]) (.stop c15x25 [.seq c15x26, .blk 1]) := by
  refine EvOk.stop ?_
  obtain ⟨v10, e10, h⟩ := bindE h
  refine At.adv [] [(9, { told := [(4, { rows := some ((t0.2 ++ [({ f_Dim := v9.1.f_Dim, f_Base := v9.1.f_Base, f_Name := v9.1.f_Name } : T_api_Type)]).map row_T_api_Type) })], gs := [], keep := some ([2, 4, 6], [(2, 2), (4, 4), (1004, 1004)]) }), (10, { told := [], gs := [], keep := some ([0, 2, 4], [(2, 2), (4, 4), (1004, 1004)]) })] 400 (ev := .normal) (σ' := mkS 70 [(0, .str v9.2.1), (2, .lptr 2 0 0), (4, .lptr 4 0 0)] [(2, { sz := 4, rows := [[.sl true (([] : List T_api_Type).map row_T_api_Type), .int .i64 0, .int .u8 0, .str []]], frz := 0, pure := false }), (4, { sz := 4, rows := [[.lsl 1004 0 (((t0.2 ++ [({ f_Dim := v9.1.f_Dim, f_Base := v9.1.f_Base, f_Name := v9.1.f_Name } : T_api_Type)]).map row_T_api_Type).length), .int .i64 0, .int .u8 0, .str []]], frz := 0, pure := false }), (1004, { sz := 3, rows := ((t0.2 ++ [({ f_Dim := v9.1.f_Dim, f_Base := v9.1.f_Base, f_Name := v9.1.f_Name } : T_api_Type)]).map row_T_api_Type), frz := 0, pure := true })]) (q := [True ∧ ((True ∧ (True ∧ (True ∧ True))) ∧ True), True ∧ ((0 + ([({ f_Dim := v9.1.f_Dim, f_Base := v9.1.f_Base, f_Name := v9.1.f_Name } : T_api_Type)].map row_T_api_Type).length ≤ ([({ f_Dim := v9.1.f_Dim, f_Base := v9.1.f_Base, f_Name := v9.1.f_Name } : T_api_Type)].map row_T_api_Type).length) ∧ (t0.2.map row_T_api_Type).length = (t0.2.map row_T_api_Type).length ∧ (∀ r ∈ ((([({ f_Dim := v9.1.f_Dim, f_Base := v9.1.f_Base, f_Name := v9.1.f_Name } : T_api_Type)].map row_T_api_Type).drop 0).take ([({ f_Dim := v9.1.f_Dim, f_Base := v9.1.f_Base, f_Name := v9.1.f_Name } : T_api_Type)].map row_T_api_Type).length), r.length = 3) ∧ (t0.2.map row_T_api_Type) ++ ((([({ f_Dim := v9.1.f_Dim, f_Base := v9.1.f_Base, f_Name := v9.1.f_Name } : T_api_Type)].map row_T_api_Type).drop 0).take ([({ f_Dim := v9.1.f_Dim, f_Base := v9.1.f_Base, f_Name := v9.1.f_Name } : T_api_Type)].map row_T_api_Type).length) = ((t0.2 ++ [({ f_Dim := v9.1.f_Dim, f_Base := v9.1.f_Base, f_Name := v9.1.f_Name } : T_api_Type)]).map row_T_api_Type) ∧ ((t0.2 ++ [({ f_Dim := v9.1.f_Dim, f_Base := v9.1.f_Base, f_Name := v9.1.f_Name } : T_api_Type)]).map row_T_api_Type).length ≤ 9223372036854775807 ∧ ((t0.2 ++ [({ f_Dim := v9.1.f_Dim, f_Base := v9.1.f_Base, f_Name := v9.1.f_Name } : T_api_Type)]).map row_T_api_Type).length * 32 ≤ 140737488355328), True ∧ (0 ≤ 0 ∧ 0 + ([.lsl 1004 0 (((t0.2 ++ [({ f_Dim := v9.1.f_Dim, f_Base := v9.1.f_Base, f_Name := v9.1.f_Name } : T_api_Type)]).map row_T_api_Type).length)] : List D).length ≤ ([.undef, .int .i64 0, .int .u8 0, .str []] : List D).length ∧ ([[.lsl 1004 0 (((t0.2 ++ [({ f_Dim := v9.1.f_Dim, f_Base := v9.1.f_Base, f_Name := v9.1.f_Name } : T_api_Type)]).map row_T_api_Type).length), .int .i64 0, .int .u8 0, .str []]] : List (List D)) = ([[.lsl 1004 0 (((t0.2 ++ [({ f_Dim := v9.1.f_Dim, f_Base := v9.1.f_Base, f_Name := v9.1.f_Name } : T_api_Type)]).map row_T_api_Type).length), .int .i64 0, .int .u8 0, .str []]] : List (List D)))]) (by kernel_rfl) ⟨⟨trivial, ⟨⟨trivial, ⟨trivial, ⟨trivial, trivial⟩⟩⟩, trivial⟩⟩, ⟨trivial, ⟨roomAll _, rfl, by rw [takeAll]; exact szM (f := row_T_api_Type) (n := 3) (fun _ => rfl) _, by rw [takeAll]; exact appM row_T_api_Type _ _, (growK_spec e10 (lenMN _ _)).1, (growK_spec e10 (lenMN _ _)).2⟩⟩, ⟨trivial, ⟨Nat.zero_le _, Nat.le_of_ble_eq_true rfl, rfl⟩⟩, trivial⟩ ?_
  refine EvOk.normal ?_
  obtain rfl := someE h
  exact Round.next (by kernel_rfl)
theorem wj15x2 (t0 : (List UInt8) × (List T_api_Type)) (r : Ctl ((List UInt8) × (List T_api_Type)) (((List T_api_Type) × (List UInt8)) ⊕ (T_api_Sig × Int))) (h : (j15x2 t0)  = some r) (Γ : Ctx) : EvOk Try.prog Γ (Round st15x1 J15x1 r) (mkS 70 [(0, .str t0.1), (2, .lptr 2 0 0), (4, .lptr 4 0 0)] [(2, { sz := 4, rows := [[.sl true (([] : List T_api_Type).map row_T_api_Type), .int .i64 0, .int .u8 0, .str []]], frz := 0, pure := false }), (4, { sz := 4, rows := [[.lsl 1004 0 ((t0.2.map row_T_api_Type).length), .int .i64 0, .int .u8 0, .str []]], frz := 0, pure := false }), (1004, { sz := 3, rows := (t0.2.map row_T_api_Type), frz := 0, pure := true })]) (.stop c15x14 [.seq c15x15, .blk 1]) := by
  refine EvOk.stop ?_
  obtain ⟨v9, e9, h⟩ := bindE h
  rcases Bool.eq_false_or_eq_true (!v9.2.2) with h12 | h12
  · replace h := iteT h12 h
    refine At.adv [] [(6, { told := [(1, { ans := .val (.tup [.agg (row_T_api_Type v9.1), .str v9.2.1, .bool v9.2.2]), args := [.str t0.1] })], gs := [], keep := some ([2, 4, 5, 6, 7], [(2, 2), (4, 4), (5, 5), (1004, 1004)]) }), (7, { told := [(6, { ans := .yes })], gs := [(3, false), (4, false), (5, false)], keep := some ([2, 4, 5, 6, 40], [(2, 2), (4, 4), (5, 5), (1004, 1004)]) })] 400 (ev := .cond true c15x22 c15x23 [.seq c15x24, .blk 1]) (σ' := mkS 70 [(2, .lptr 2 0 0), (4, .lptr 4 0 0), (5, .lptr 5 0 0), (6, .str v9.2.1), (40, .bool true)] [(2, { sz := 4, rows := [[.sl true (([] : List T_api_Type).map row_T_api_Type), .int .i64 0, .int .u8 0, .str []]], frz := 0, pure := false }), (4, { sz := 4, rows := [[.lsl 1004 0 ((t0.2.map row_T_api_Type).length), .int .i64 0, .int .u8 0, .str []]], frz := 0, pure := false }), (5, { sz := 3, rows := [[.int .i64 v9.1.f_Dim, .int .u8 v9.1.f_Base, .str v9.1.f_Name]], frz := 0, pure := false }), (1004, { sz := 3, rows := (t0.2.map row_T_api_Type), frz := 0, pure := true })]) (q := [True ∧ ((True ∧ True) ∧ ([.str t0.1] : List D) = [.str t0.1] ∧ CallAny Try.prog 35 [.str t0.1] (.tup [.agg (row_T_api_Type v9.1), .str v9.2.1, .bool v9.2.2])), True ∧ (0 ≤ 0 ∧ 0 + ([.int .i64 v9.1.f_Dim, .int .u8 v9.1.f_Base, .str v9.1.f_Name] : List D).length ≤ ([.int .i64 0, .int .u8 0, .str []] : List D).length ∧ ([[.int .i64 v9.1.f_Dim, .int .u8 v9.1.f_Base, .str v9.1.f_Name]] : List (List D)) = ([[.int .i64 v9.1.f_Dim, .int .u8 v9.1.f_Base, .str v9.1.f_Name]] : List (List D))), ((!v9.2.2) == false) = false, ((!v9.2.2) == false) = false, ((!v9.2.2) == false) = false, True ∧ ((!v9.2.2) = true)]) (by kernel_rfl) ⟨⟨trivial, ⟨⟨trivial, trivial⟩, rfl, .inl (w35 e9)⟩⟩, ⟨trivial, ⟨Nat.zero_le _, Nat.le_of_ble_eq_true rfl, rfl⟩⟩, gB h12 rfl, gB h12 rfl, gB h12 rfl, ⟨trivial, h12⟩, trivial⟩ ?_
    refine EvOk.cond (fun _ => ?_) (fun hb => Bool.noConfusion hb)
    refine At.gc [2] [(2, 2)] (n := 70) (l := [(2, .lptr 2 0 0)]) (bl := [(2, { sz := 4, rows := [[.sl true (([] : List T_api_Type).map row_T_api_Type), .int .i64 0, .int .u8 0, .str []]], frz := 0, pure := false })]) (by kernel_rfl) ?_
    refine At.adv [] [(8, { told := [], gs := [], keep := some ([2, 3], [(2, 2)]) })] 400 (ev := .ret) (σ' := mkS 70 [(2, .lptr 2 0 0), (3, .int .i64 13)] [(2, { sz := 4, rows := [[.sl true (([] : List T_api_Type).map row_T_api_Type), .int .i64 0, .int .u8 0, .str []]], frz := 0, pure := false })]) (q := [True ∧ (0 ≤ 0 ∧ 0 + ([.sl true (([] : List T_api_Type).map row_T_api_Type), .int .i64 0, .int .u8 0, .str []] : List D).length ≤ ([.sl true (([] : List T_api_Type).map row_T_api_Type), .int .i64 0, .int .u8 0, .str []] : List D).length ∧ ([[.sl true (([] : List T_api_Type).map row_T_api_Type), .int .i64 0, .int .u8 0, .str []]] : List (List D)) = ([[.sl true (([] : List T_api_Type).map row_T_api_Type), .int .i64 0, .int .u8 0, .str []]] : List (List D)))]) (by kernel_rfl) ⟨⟨trivial, ⟨Nat.zero_le _, Nat.le_of_ble_eq_true rfl, rfl⟩⟩, trivial⟩ ?_
    refine EvOk.ret ?_
    obtain rfl := someE h
    exact Round.done neRet ⟨rfl, Den.Ends.mk (.inl rfl) (d := .tup [.agg [.sl false (([] : List T_api_Type).map row_T_api_Type), .int .i64 0, .int .u8 0, .str []], .int .i64 13]) (p := (True ∧ (True ∧ True)) ∧ ((True ∧ (True ∧ (True ∧ (True ∧ True)))) ∧ (True ∧ True))) (by kernel_rfl) ⟨⟨trivial, ⟨trivial, trivial⟩⟩, ⟨⟨trivial, ⟨trivial, ⟨trivial, ⟨trivial, trivial⟩⟩⟩⟩, ⟨trivial, trivial⟩⟩⟩ (by kernel_rfl)⟩
  · replace h := iteF h12 h
    refine At.adv [] [(6, { told := [(1, { ans := .val (.tup [.agg (row_T_api_Type v9.1), .str v9.2.1, .bool v9.2.2]), args := [.str t0.1] })], gs := [], keep := some ([2, 4, 5, 6, 7], [(2, 2), (4, 4), (5, 5), (1004, 1004)]) }), (7, { told := [(6, { ans := .no })], gs := [(3, true), (4, true), (5, true)], keep := some ([2, 4, 5, 6, 40], [(2, 2), (4, 4), (5, 5), (1004, 1004)]) })] 400 (ev := .cond (v9.1.f_Base == 86) c15x22 c15x23 [.seq c15x24, .blk 1]) (σ' := mkS 70 [(2, .lptr 2 0 0), (4, .lptr 4 0 0), (5, .lptr 5 0 0), (6, .str v9.2.1), (40, .bool (v9.1.f_Base == 86))] [(2, { sz := 4, rows := [[.sl true (([] : List T_api_Type).map row_T_api_Type), .int .i64 0, .int .u8 0, .str []]], frz := 0, pure := false }), (4, { sz := 4, rows := [[.lsl 1004 0 ((t0.2.map row_T_api_Type).length), .int .i64 0, .int .u8 0, .str []]], frz := 0, pure := false }), (5, { sz := 3, rows := [[.int .i64 v9.1.f_Dim, .int .u8 v9.1.f_Base, .str v9.1.f_Name]], frz := 0, pure := false }), (1004, { sz := 3, rows := (t0.2.map row_T_api_Type), frz := 0, pure := true })]) (q := [True ∧ ((True ∧ True) ∧ ([.str t0.1] : List D) = [.str t0.1] ∧ CallAny Try.prog 35 [.str t0.1] (.tup [.agg (row_T_api_Type v9.1), .str v9.2.1, .bool v9.2.2])), True ∧ (0 ≤ 0 ∧ 0 + ([.int .i64 v9.1.f_Dim, .int .u8 v9.1.f_Base, .str v9.1.f_Name] : List D).length ≤ ([.int .i64 0, .int .u8 0, .str []] : List D).length ∧ ([[.int .i64 v9.1.f_Dim, .int .u8 v9.1.f_Base, .str v9.1.f_Name]] : List (List D)) = ([[.int .i64 v9.1.f_Dim, .int .u8 v9.1.f_Base, .str v9.1.f_Name]] : List (List D))), ((!v9.2.2) == false) = true ∧ True, ((!v9.2.2) == false) = true ∧ True, ((!v9.2.2) == false) = true ∧ True, True ∧ ((!v9.2.2) = false)]) (by kernel_rfl) ⟨⟨trivial, ⟨⟨trivial, trivial⟩, rfl, .inl (w35 e9)⟩⟩, ⟨trivial, ⟨Nat.zero_le _, Nat.le_of_ble_eq_true rfl, rfl⟩⟩, ⟨(gB h12 rfl), trivial⟩, ⟨(gB h12 rfl), trivial⟩, ⟨(gB h12 rfl), trivial⟩, ⟨trivial, h12⟩, trivial⟩ ?_
    refine EvOk.cond (fun h13 => ?_) (fun h13 => ?_)
    · replace h := iteT h13 h
      refine At.gc [2] [(2, 2)] (n := 70) (l := [(2, .lptr 2 0 0)]) (bl := [(2, { sz := 4, rows := [[.sl true (([] : List T_api_Type).map row_T_api_Type), .int .i64 0, .int .u8 0, .str []]], frz := 0, pure := false })]) (by kernel_rfl) ?_
      refine At.adv [] [(8, { told := [], gs := [], keep := some ([2, 3], [(2, 2)]) })] 400 (ev := .ret) (σ' := mkS 70 [(2, .lptr 2 0 0), (3, .int .i64 13)] [(2, { sz := 4, rows := [[.sl true (([] : List T_api_Type).map row_T_api_Type), .int .i64 0, .int .u8 0, .str []]], frz := 0, pure := false })]) (q := [True ∧ (0 ≤ 0 ∧ 0 + ([.sl true (([] : List T_api_Type).map row_T_api_Type), .int .i64 0, .int .u8 0, .str []] : List D).length ≤ ([.sl true (([] : List T_api_Type).map row_T_api_Type), .int .i64 0, .int .u8 0, .str []] : List D).length ∧ ([[.sl true (([] : List T_api_Type).map row_T_api_Type), .int .i64 0, .int .u8 0, .str []]] : List (List D)) = ([[.sl true (([] : List T_api_Type).map row_T_api_Type), .int .i64 0, .int .u8 0, .str []]] : List (List D)))]) (by kernel_rfl) ⟨⟨trivial, ⟨Nat.zero_le _, Nat.le_of_ble_eq_true rfl, rfl⟩⟩, trivial⟩ ?_
      refine EvOk.ret ?_
      obtain rfl := someE h
      exact Round.done neRet ⟨rfl, Den.Ends.mk (.inl rfl) (d := .tup [.agg [.sl false (([] : List T_api_Type).map row_T_api_Type), .int .i64 0, .int .u8 0, .str []], .int .i64 13]) (p := (True ∧ (True ∧ True)) ∧ ((True ∧ (True ∧ (True ∧ (True ∧ True)))) ∧ (True ∧ True))) (by kernel_rfl) ⟨⟨trivial, ⟨trivial, trivial⟩⟩, ⟨⟨trivial, ⟨trivial, ⟨trivial, ⟨trivial, trivial⟩⟩⟩⟩, ⟨trivial, trivial⟩⟩⟩ (by kernel_rfl)⟩
    · replace h := iteF h13 h
      refine At.gc [2, 4, 5, 6] [(2, 2), (4, 4), (5, 5), (1004, 1004)] (n := 70) (l := [(2, .lptr 2 0 0), (4, .lptr 4 0 0), (5, .lptr 5 0 0), (6, .str v9.2.1)]) (bl := [(2, { sz := 4, rows := [[.sl true (([] : List T_api_Type).map row_T_api_Type), .int .i64 0, .int .u8 0, .str []]], frz := 0, pure := false }), (4, { sz := 4, rows := [[.lsl 1004 0 ((t0.2.map row_T_api_Type).length), .int .i64 0, .int .u8 0, .str []]], frz := 0, pure := false }), (5, { sz := 3, rows := [[.int .i64 v9.1.f_Dim, .int .u8 v9.1.f_Base, .str v9.1.f_Name]], frz := 0, pure := false }), (1004, { sz := 3, rows := (t0.2.map row_T_api_Type), frz := 0, pure := true })]) (by kernel_rfl) ?_
      refine At.adv [9] [] 400 (ev := .stop c15x25 [.seq c15x26, .blk 1]) (σ' := mkS 70 [(2, .lptr 2 0 0), (4, .lptr 4 0 0), (5, .lptr 5 0 0), (6, .str v9.2.1)] [(2, { sz := 4, rows := [[.sl true (([] : List T_api_Type).map row_T_api_Type), .int .i64 0, .int .u8 0, .str []]], frz := 0, pure := false }), (4, { sz := 4, rows := [[.lsl 1004 0 ((t0.2.map row_T_api_Type).length), .int .i64 0, .int .u8 0, .str []]], frz := 0, pure := false }), (5, { sz := 3, rows := [[.int .i64 v9.1.f_Dim, .int .u8 v9.1.f_Base, .str v9.1.f_Name]], frz := 0, pure := false }), (1004, { sz := 3, rows := (t0.2.map row_T_api_Type), frz := 0, pure := true })]) (q := []) (by kernel_rfl) trivial ?_
      exact (wj15x3 t0 v9)  r h Γ
theorem wl15x1 (t0 : (List UInt8) × (List T_api_Type)) (r : Ctl ((List UInt8) × (List T_api_Type)) (((List T_api_Type) × (List UInt8)) ⊕ (T_api_Sig × Int))) (h : l15x1 t0 = some r) (Γ : Ctx) : At Try.prog Γ c15x11 [] (Round st15x1 J15x1 r) (st15x1 t0) := by
  rcases Bool.eq_false_or_eq_true (!(t0.1 == ([] : List UInt8))) with h10 | h10
  · replace h := iteT h10 h
    obtain ⟨v8, e8, h⟩ := bindE h
    refine At.adv [] [(5, { told := [(4, { ans := .val (.int .u8 v8) }), (6, { ans := .yes })], gs := [(3, true), (4, true), (5, true)], keep := some ([0, 2, 4, 27], [(2, 2), (4, 4), (1004, 1004)]) })] 400 (ev := .cond (v8 != 41) c15x18 c15x19 [.seq c15x12]) (σ' := mkS 70 [(0, .str t0.1), (2, .lptr 2 0 0), (4, .lptr 4 0 0), (27, .bool (v8 != 41))] [(2, { sz := 4, rows := [[.sl true (([] : List T_api_Type).map row_T_api_Type), .int .i64 0, .int .u8 0, .str []]], frz := 0, pure := false }), (4, { sz := 4, rows := [[.lsl 1004 0 ((t0.2.map row_T_api_Type).length), .int .i64 0, .int .u8 0, .str []]], frz := 0, pure := false }), (1004, { sz := 3, rows := (t0.2.map row_T_api_Type), frz := 0, pure := true })]) (q := [((!(t0.1 == ([] : List UInt8))) == true) = true ∧ True, ((!(t0.1 == ([] : List UInt8))) == true) = true ∧ (getS t0.1 0 = some v8), ((!(t0.1 == ([] : List UInt8))) == true) = true ∧ True, True ∧ ((!(t0.1 == ([] : List UInt8))) = true)]) (by kernel_rfl) ⟨⟨(gB h10 rfl), trivial⟩, ⟨(gB h10 rfl), e8⟩, ⟨(gB h10 rfl), trivial⟩, ⟨trivial, h10⟩, trivial⟩ ?_
    refine EvOk.cond (fun h11 => ?_) (fun h11 => ?_)
    · replace h := iteT h11 h
      refine At.gc [0, 2, 4] [(2, 2), (4, 4), (1004, 1004)] (n := 70) (l := [(0, .str t0.1), (2, .lptr 2 0 0), (4, .lptr 4 0 0)]) (bl := [(2, { sz := 4, rows := [[.sl true (([] : List T_api_Type).map row_T_api_Type), .int .i64 0, .int .u8 0, .str []]], frz := 0, pure := false }), (4, { sz := 4, rows := [[.lsl 1004 0 ((t0.2.map row_T_api_Type).length), .int .i64 0, .int .u8 0, .str []]], frz := 0, pure := false }), (1004, { sz := 3, rows := (t0.2.map row_T_api_Type), frz := 0, pure := true })]) (by kernel_rfl) ?_
      refine At.adv [6] [] 400 (ev := .stop c15x14 [.seq c15x15, .blk 1]) (σ' := mkS 70 [(0, .str t0.1), (2, .lptr 2 0 0), (4, .lptr 4 0 0)] [(2, { sz := 4, rows := [[.sl true (([] : List T_api_Type).map row_T_api_Type), .int .i64 0, .int .u8 0, .str []]], frz := 0, pure := false }), (4, { sz := 4, rows := [[.lsl 1004 0 ((t0.2.map row_T_api_Type).length), .int .i64 0, .int .u8 0, .str []]], frz := 0, pure := false }), (1004, { sz := 3, rows := (t0.2.map row_T_api_Type), frz := 0, pure := true })]) (q := []) (by kernel_rfl) trivial ?_
      exact (wj15x2 t0)  r h Γ
    · replace h := iteF h11 h
      refine At.gc [0, 2, 4] [(2, 2), (4, 4), (1004, 1004)] (n := 70) (l := [(0, .str t0.1), (2, .lptr 2 0 0), (4, .lptr 4 0 0)]) (bl := [(2, { sz := 4, rows := [[.sl true (([] : List T_api_Type).map row_T_api_Type), .int .i64 0, .int .u8 0, .str []]], frz := 0, pure := false }), (4, { sz := 4, rows := [[.lsl 1004 0 ((t0.2.map row_T_api_Type).length), .int .i64 0, .int .u8 0, .str []]], frz := 0, pure := false }), (1004, { sz := 3, rows := (t0.2.map row_T_api_Type), frz := 0, pure := true })]) (by kernel_rfl) ?_
      refine At.adv [] [] 400 (ev := .exit 0) (σ' := mkS 70 [(0, .str t0.1), (2, .lptr 2 0 0), (4, .lptr 4 0 0)] [(2, { sz := 4, rows := [[.sl true (([] : List T_api_Type).map row_T_api_Type), .int .i64 0, .int .u8 0, .str []]], frz := 0, pure := false }), (4, { sz := 4, rows := [[.lsl 1004 0 ((t0.2.map row_T_api_Type).length), .int .i64 0, .int .u8 0, .str []]], frz := 0, pure := false }), (1004, { sz := 3, rows := (t0.2.map row_T_api_Type), frz := 0, pure := true })]) (q := []) (by kernel_rfl) trivial ?_
      refine EvOk.exit ?_
      obtain rfl := someE h
      exact Round.done (neExit _) ⟨rfl, by kernel_rfl⟩
  · replace h := iteF h10 h
    refine At.adv [] [(5, { told := [(6, { ans := .no })], gs := [(3, false), (4, false), (5, false)], keep := some ([0, 2, 4, 27], [(2, 2), (4, 4), (1004, 1004)]) })] 400 (ev := .cond false c15x18 c15x19 [.seq c15x12]) (σ' := mkS 70 [(0, .str t0.1), (2, .lptr 2 0 0), (4, .lptr 4 0 0), (27, .bool false)] [(2, { sz := 4, rows := [[.sl true (([] : List T_api_Type).map row_T_api_Type), .int .i64 0, .int .u8 0, .str []]], frz := 0, pure := false }), (4, { sz := 4, rows := [[.lsl 1004 0 ((t0.2.map row_T_api_Type).length), .int .i64 0, .int .u8 0, .str []]], frz := 0, pure := false }), (1004, { sz := 3, rows := (t0.2.map row_T_api_Type), frz := 0, pure := true })]) (q := [((!(t0.1 == ([] : List UInt8))) == true) = false, ((!(t0.1 == ([] : List UInt8))) == true) = false, ((!(t0.1 == ([] : List UInt8))) == true) = false, True ∧ ((!(t0.1 == ([] : List UInt8))) = false)]) (by kernel_rfl) ⟨gB h10 rfl, gB h10 rfl, gB h10 rfl, ⟨trivial, h10⟩, trivial⟩ ?_
    refine EvOk.cond (fun hb => Bool.noConfusion hb) (fun _ => ?_)
    refine At.gc [0, 2, 4] [(2, 2), (4, 4), (1004, 1004)] (n := 70) (l := [(0, .str t0.1), (2, .lptr 2 0 0), (4, .lptr 4 0 0)]) (bl := [(2, { sz := 4, rows := [[.sl true (([] : List T_api_Type).map row_T_api_Type), .int .i64 0, .int .u8 0, .str []]], frz := 0, pure := false }), (4, { sz := 4, rows := [[.lsl 1004 0 ((t0.2.map row_T_api_Type).length), .int .i64 0, .int .u8 0, .str []]], frz := 0, pure := false }), (1004, { sz := 3, rows := (t0.2.map row_T_api_Type), frz := 0, pure := true })]) (by kernel_rfl) ?_
    refine At.adv [] [] 400 (ev := .exit 0) (σ' := mkS 70 [(0, .str t0.1), (2, .lptr 2 0 0), (4, .lptr 4 0 0)] [(2, { sz := 4, rows := [[.sl true (([] : List T_api_Type).map row_T_api_Type), .int .i64 0, .int .u8 0, .str []]], frz := 0, pure := false }), (4, { sz := 4, rows := [[.lsl 1004 0 ((t0.2.map row_T_api_Type).length), .int .i64 0, .int .u8 0, .str []]], frz := 0, pure := false }), (1004, { sz := 3, rows := (t0.2.map row_T_api_Type), frz := 0, pure := true })]) (q := []) (by kernel_rfl) trivial ?_
    refine EvOk.exit ?_
    obtain rfl := someE h
    exact Round.done (neExit _) ⟨rfl, by kernel_rfl⟩
theorem wj15x1 (x0 : List UInt8) (r : T_api_Sig × Int) (h : (j15x1 x0)  = some r) (Γ : Ctx) : EvOk Try.prog Γ (Den.Ends Try.prog Try.f15 (.tup [.agg (row_T_api_Sig r.1), .int .i64 r.2])) (mkS 70 [(0, .str x0), (2, .lptr 2 0 0)] [(2, { sz := 4, rows := [[.sl true (([] : List T_api_Type).map row_T_api_Type), .int .i64 0, .int .u8 0, .str []]], frz := 0, pure := false })]) (.stop c15x6 [.seq c15x7]) := by
  refine EvOk.stop ?_
  obtain ⟨v1, e1, h⟩ := bindE h
  refine At.adv [] [(3, { told := [(1, { ans := .val (.str v1) })], gs := [], keep := some ([0, 2], [(2, 2)]) }), (4, { told := [], gs := [], keep := some ([0, 2, 4], [(2, 2), (4, 4)]) })] 400 (ev := .loop c15x11 [.blk 0, .seq c15x27]) (σ' := mkS 70 [(0, .str v1), (2, .lptr 2 0 0), (4, .lptr 4 0 0)] [(2, { sz := 4, rows := [[.sl true (([] : List T_api_Type).map row_T_api_Type), .int .i64 0, .int .u8 0, .str []]], frz := 0, pure := false }), (4, { sz := 4, rows := [[.sl true (([] : List T_api_Type).map row_T_api_Type), .int .i64 0, .int .u8 0, .str []]], frz := 0, pure := false })]) (q := [True ∧ (sub x0 1 (x0.length : Int) = some v1), True ∧ (0 ≤ 0 ∧ 0 + ([.sl true (([] : List T_api_Type).map row_T_api_Type), .int .i64 0, .int .u8 0, .str []] : List D).length ≤ ([.sl true (([] : List T_api_Type).map row_T_api_Type), .int .i64 0, .int .u8 0, .str []] : List D).length ∧ ([[.sl true (([] : List T_api_Type).map row_T_api_Type), .int .i64 0, .int .u8 0, .str []]] : List (List D)) = ([[.sl true (([] : List T_api_Type).map row_T_api_Type), .int .i64 0, .int .u8 0, .str []]] : List (List D)))]) (by kernel_rfl) ⟨⟨trivial, e1⟩, ⟨trivial, ⟨Nat.zero_le _, Nat.le_of_ble_eq_true rfl, rfl⟩⟩, trivial⟩ ?_
  refine EvOk.loop ?_
  obtain ⟨q1, e11, h⟩ := bindE h
  refine At.convG [.blk 4 0 1004 3] [0, 2, 4] [(2, 2), (4, 4), (1004, 1004)] (n := 70) (l := [(0, .str v1), (2, .lptr 2 0 0), (4, .lptr 4 0 0)]) (bl := [(2, { sz := 4, rows := [[.sl true (([] : List T_api_Type).map row_T_api_Type), .int .i64 0, .int .u8 0, .str []]], frz := 0, pure := false }), (4, { sz := 4, rows := [[.lsl 1004 0 ((([] : List T_api_Type).map row_T_api_Type).length), .int .i64 0, .int .u8 0, .str []]], frz := 0, pure := false }), (1004, { sz := 3, rows := (([] : List T_api_Type).map row_T_api_Type), frz := 0, pure := true })]) (by kernel_rfl) ?_
  refine At.loop l15x1 st15x1 J15x1 (v1, ([] : List T_api_Type)) e11 (by kernel_rfl) (fun t x hx => wl15x1 t x hx Γ) ?_
  intro e σ' hJ
  rcases q1 with q0 | y0
  · obtain ⟨rfl, rfl⟩ := hJ
    refine At.exitK (K' := [.seq c15x27]) (by kernel_rfl) ?_
    refine At.advN [] [(11, { told := [], gs := [], keep := some ([0, 2, 4, 50], [(2, 2), (4, 4), (1004, 1004)]) })] 400 (ev := .cond (q0.2 == ([] : List UInt8)) c15x42 c15x43 [.seq c15x28]) (σ' := mkS 70 [(0, .str q0.2), (2, .lptr 2 0 0), (4, .lptr 4 0 0), (50, .bool (q0.2 == ([] : List UInt8)))] [(2, { sz := 4, rows := [[.sl true (([] : List T_api_Type).map row_T_api_Type), .int .i64 0, .int .u8 0, .str []]], frz := 0, pure := false }), (4, { sz := 4, rows := [[.lsl 1004 0 ((q0.1.map row_T_api_Type).length), .int .i64 0, .int .u8 0, .str []]], frz := 0, pure := false }), (1004, { sz := 3, rows := (q0.1.map row_T_api_Type), frz := 0, pure := true })]) (q := []) (by kernel_rfl) trivial ?_
    refine EvOk.cond (fun h14 => ?_) (fun h14 => ?_)
    · replace h := iteT h14 h
      refine At.gc [2] [(2, 2)] (n := 70) (l := [(2, .lptr 2 0 0)]) (bl := [(2, { sz := 4, rows := [[.sl true (([] : List T_api_Type).map row_T_api_Type), .int .i64 0, .int .u8 0, .str []]], frz := 0, pure := false })]) (by kernel_rfl) ?_
      refine At.adv [] [(12, { told := [], gs := [], keep := some ([2, 3], [(2, 2)]) })] 400 (ev := .ret) (σ' := mkS 70 [(2, .lptr 2 0 0), (3, .int .i64 13)] [(2, { sz := 4, rows := [[.sl true (([] : List T_api_Type).map row_T_api_Type), .int .i64 0, .int .u8 0, .str []]], frz := 0, pure := false })]) (q := [True ∧ (0 ≤ 0 ∧ 0 + ([.sl true (([] : List T_api_Type).map row_T_api_Type), .int .i64 0, .int .u8 0, .str []] : List D).length ≤ ([.sl true (([] : List T_api_Type).map row_T_api_Type), .int .i64 0, .int .u8 0, .str []] : List D).length ∧ ([[.sl true (([] : List T_api_Type).map row_T_api_Type), .int .i64 0, .int .u8 0, .str []]] : List (List D)) = ([[.sl true (([] : List T_api_Type).map row_T_api_Type), .int .i64 0, .int .u8 0, .str []]] : List (List D)))]) (by kernel_rfl) ⟨⟨trivial, ⟨Nat.zero_le _, Nat.le_of_ble_eq_true rfl, rfl⟩⟩, trivial⟩ ?_
      refine EvOk.ret ?_
      obtain rfl := someE h
      exact Den.Ends.mk (.inl rfl) (d := .tup [.agg [.sl false (([] : List T_api_Type).map row_T_api_Type), .int .i64 0, .int .u8 0, .str []], .int .i64 13]) (p := (True ∧ (True ∧ True)) ∧ ((True ∧ (True ∧ (True ∧ (True ∧ True)))) ∧ (True ∧ True))) (by kernel_rfl) ⟨⟨trivial, ⟨trivial, trivial⟩⟩, ⟨⟨trivial, ⟨trivial, ⟨trivial, ⟨trivial, trivial⟩⟩⟩⟩, ⟨trivial, trivial⟩⟩⟩ (by kernel_rfl)
    · replace h := iteF h14 h
      refine At.gc [0, 2, 4] [(2, 2), (4, 4), (1004, 1004)] (n := 70) (l := [(0, .str q0.2), (2, .lptr 2 0 0), (4, .lptr 4 0 0)]) (bl := [(2, { sz := 4, rows := [[.sl true (([] : List T_api_Type).map row_T_api_Type), .int .i64 0, .int .u8 0, .str []]], frz := 0, pure := false }), (4, { sz := 4, rows := [[.lsl 1004 0 ((q0.1.map row_T_api_Type).length), .int .i64 0, .int .u8 0, .str []]], frz := 0, pure := false }), (1004, { sz := 3, rows := (q0.1.map row_T_api_Type), frz := 0, pure := true })]) (by kernel_rfl) ?_
      obtain ⟨v11, e12, h⟩ := bindE h
      obtain ⟨v12, e13, h⟩ := bindE h
      refine At.adv [] [(13, { told := [(1, { ans := .val (.str v11) }), (2, { ans := .val (.tup [.agg (row_T_api_Type v12.1), .int .i64 v12.2]), args := [.str v11] })], gs := [], keep := some ([2, 4, 8, 9], [(2, 2), (4, 4), (8, 8), (1004, 1004)]) }), (14, { told := [], gs := [], keep := some ([2, 4, 8, 9, 59], [(2, 2), (4, 4), (8, 8), (1004, 1004)]) })] 400 (ev := .cond (v12.2 != 0) c15x38 c15x39 [.seq c15x30]) (σ' := mkS 70 [(2, .lptr 2 0 0), (4, .lptr 4 0 0), (8, .lptr 8 0 0), (9, .int .i64 v12.2), (59, .bool (v12.2 != 0))] [(2, { sz := 4, rows := [[.sl true (([] : List T_api_Type).map row_T_api_Type), .int .i64 0, .int .u8 0, .str []]], frz := 0, pure := false }), (4, { sz := 4, rows := [[.lsl 1004 0 ((q0.1.map row_T_api_Type).length), .int .i64 0, .int .u8 0, .str []]], frz := 0, pure := false }), (8, { sz := 3, rows := [[.int .i64 v12.1.f_Dim, .int .u8 v12.1.f_Base, .str v12.1.f_Name]], frz := 0, pure := false }), (1004, { sz := 3, rows := (q0.1.map row_T_api_Type), frz := 0, pure := true })]) (q := [True ∧ (sub q0.2 1 (q0.2.length : Int) = some v11), True ∧ ((True ∧ True) ∧ ([.str v11] : List D) = [.str v11] ∧ CallAny Try.prog 11 [.str v11] (.tup [.agg (row_T_api_Type v12.1), .int .i64 v12.2])), True ∧ (0 ≤ 0 ∧ 0 + ([.int .i64 v12.1.f_Dim, .int .u8 v12.1.f_Base, .str v12.1.f_Name] : List D).length ≤ ([.int .i64 0, .int .u8 0, .str []] : List D).length ∧ ([[.int .i64 v12.1.f_Dim, .int .u8 v12.1.f_Base, .str v12.1.f_Name]] : List (List D)) = ([[.int .i64 v12.1.f_Dim, .int .u8 v12.1.f_Base, .str v12.1.f_Name]] : List (List D)))]) (by kernel_rfl) ⟨⟨trivial, e12⟩, ⟨trivial, ⟨⟨trivial, trivial⟩, rfl, .inl (w11 e13)⟩⟩, ⟨trivial, ⟨Nat.zero_le _, Nat.le_of_ble_eq_true rfl, rfl⟩⟩, trivial⟩ ?_
      refine EvOk.cond (fun h15 => ?_) (fun h15 => ?_)
      · replace h := iteT h15 h
        refine At.gc [2, 9] [(2, 2)] (n := 70) (l := [(2, .lptr 2 0 0), (9, .int .i64 v12.2)]) (bl := [(2, { sz := 4, rows := [[.sl true (([] : List T_api_Type).map row_T_api_Type), .int .i64 0, .int .u8 0, .str []]], frz := 0, pure := false })]) (by kernel_rfl) ?_
        refine At.adv [] [(15, { told := [], gs := [], keep := some ([2, 3], [(2, 2)]) })] 400 (ev := .ret) (σ' := mkS 70 [(2, .lptr 2 0 0), (3, .int .i64 v12.2)] [(2, { sz := 4, rows := [[.sl true (([] : List T_api_Type).map row_T_api_Type), .int .i64 0, .int .u8 0, .str []]], frz := 0, pure := false })]) (q := [True ∧ (0 ≤ 0 ∧ 0 + ([.sl true (([] : List T_api_Type).map row_T_api_Type), .int .i64 0, .int .u8 0, .str []] : List D).length ≤ ([.sl true (([] : List T_api_Type).map row_T_api_Type), .int .i64 0, .int .u8 0, .str []] : List D).length ∧ ([[.sl true (([] : List T_api_Type).map row_T_api_Type), .int .i64 0, .int .u8 0, .str []]] : List (List D)) = ([[.sl true (([] : List T_api_Type).map row_T_api_Type), .int .i64 0, .int .u8 0, .str []]] : List (List D)))]) (by kernel_rfl) ⟨⟨trivial, ⟨Nat.zero_le _, Nat.le_of_ble_eq_true rfl, rfl⟩⟩, trivial⟩ ?_
        refine EvOk.ret ?_
        obtain rfl := someE h
        exact Den.Ends.mk (.inl rfl) (d := .tup [.agg [.sl false (([] : List T_api_Type).map row_T_api_Type), .int .i64 0, .int .u8 0, .str []], .int .i64 v12.2]) (p := (True ∧ (True ∧ True)) ∧ ((True ∧ (True ∧ (True ∧ (True ∧ True)))) ∧ (True ∧ True))) (by kernel_rfl) ⟨⟨trivial, ⟨trivial, trivial⟩⟩, ⟨⟨trivial, ⟨trivial, ⟨trivial, ⟨trivial, trivial⟩⟩⟩⟩, ⟨trivial, trivial⟩⟩⟩ (by kernel_rfl)
      · replace h := iteF h15 h
        refine At.gc [2, 4, 8] [(2, 2), (4, 4), (8, 8), (1004, 1004)] (n := 70) (l := [(2, .lptr 2 0 0), (4, .lptr 4 0 0), (8, .lptr 8 0 0)]) (bl := [(2, { sz := 4, rows := [[.sl true (([] : List T_api_Type).map row_T_api_Type), .int .i64 0, .int .u8 0, .str []]], frz := 0, pure := false }), (4, { sz := 4, rows := [[.lsl 1004 0 ((q0.1.map row_T_api_Type).length), .int .i64 0, .int .u8 0, .str []]], frz := 0, pure := false }), (8, { sz := 3, rows := [[.int .i64 v12.1.f_Dim, .int .u8 v12.1.f_Base, .str v12.1.f_Name]], frz := 0, pure := false }), (1004, { sz := 3, rows := (q0.1.map row_T_api_Type), frz := 0, pure := true })]) (by kernel_rfl) ?_
        refine At.adv [] [(16, { told := [(2, { ans := .val (.int .i64 (q0.1.length : Int)) })], gs := [], keep := some ([2, 4, 8, 65], [(2, 2), (4, 4), (8, 8), (1004, 1004)]) })] 400 (ev := .cond (decide ((q0.1.length : Int) > 16)) c15x33 c15x34 [.seq c15x35]) (σ' := mkS 70 [(2, .lptr 2 0 0), (4, .lptr 4 0 0), (8, .lptr 8 0 0), (65, .bool (decide ((q0.1.length : Int) > 16)))] [(2, { sz := 4, rows := [[.sl true (([] : List T_api_Type).map row_T_api_Type), .int .i64 0, .int .u8 0, .str []]], frz := 0, pure := false }), (4, { sz := 4, rows := [[.lsl 1004 0 ((q0.1.map row_T_api_Type).length), .int .i64 0, .int .u8 0, .str []]], frz := 0, pure := false }), (8, { sz := 3, rows := [[.int .i64 v12.1.f_Dim, .int .u8 v12.1.f_Base, .str v12.1.f_Name]], frz := 0, pure := false }), (1004, { sz := 3, rows := (q0.1.map row_T_api_Type), frz := 0, pure := true })]) (q := [True ∧ ((((q0.1.map row_T_api_Type).length : Nat) : Int) = (q0.1.length : Int))]) (by kernel_rfl) ⟨⟨trivial, lenM _ _⟩, trivial⟩ ?_
        refine EvOk.cond (fun h16 => ?_) (fun h16 => ?_)
        · replace h := iteT h16 h
          refine At.gc [2] [(2, 2)] (n := 70) (l := [(2, .lptr 2 0 0)]) (bl := [(2, { sz := 4, rows := [[.sl true (([] : List T_api_Type).map row_T_api_Type), .int .i64 0, .int .u8 0, .str []]], frz := 0, pure := false })]) (by kernel_rfl) ?_
          refine At.adv [] [(17, { told := [], gs := [], keep := some ([2, 3], [(2, 2)]) })] 400 (ev := .ret) (σ' := mkS 70 [(2, .lptr 2 0 0), (3, .int .i64 5)] [(2, { sz := 4, rows := [[.sl true (([] : List T_api_Type).map row_T_api_Type), .int .i64 0, .int .u8 0, .str []]], frz := 0, pure := false })]) (q := [True ∧ (0 ≤ 0 ∧ 0 + ([.sl true (([] : List T_api_Type).map row_T_api_Type), .int .i64 0, .int .u8 0, .str []] : List D).length ≤ ([.sl true (([] : List T_api_Type).map row_T_api_Type), .int .i64 0, .int .u8 0, .str []] : List D).length ∧ ([[.sl true (([] : List T_api_Type).map row_T_api_Type), .int .i64 0, .int .u8 0, .str []]] : List (List D)) = ([[.sl true (([] : List T_api_Type).map row_T_api_Type), .int .i64 0, .int .u8 0, .str []]] : List (List D)))]) (by kernel_rfl) ⟨⟨trivial, ⟨Nat.zero_le _, Nat.le_of_ble_eq_true rfl, rfl⟩⟩, trivial⟩ ?_
          refine EvOk.ret ?_
          obtain rfl := someE h
          exact Den.Ends.mk (.inl rfl) (d := .tup [.agg [.sl false (([] : List T_api_Type).map row_T_api_Type), .int .i64 0, .int .u8 0, .str []], .int .i64 5]) (p := (True ∧ (True ∧ True)) ∧ ((True ∧ (True ∧ (True ∧ (True ∧ True)))) ∧ (True ∧ True))) (by kernel_rfl) ⟨⟨trivial, ⟨trivial, trivial⟩⟩, ⟨⟨trivial, ⟨trivial, ⟨trivial, ⟨trivial, trivial⟩⟩⟩⟩, ⟨trivial, trivial⟩⟩⟩ (by kernel_rfl)
        · replace h := iteF h16 h
          refine At.gc [2, 4, 8] [(2, 2), (4, 4), (8, 8), (1004, 1004)] (n := 70) (l := [(2, .lptr 2 0 0), (4, .lptr 4 0 0), (8, .lptr 8 0 0)]) (bl := [(2, { sz := 4, rows := [[.sl true (([] : List T_api_Type).map row_T_api_Type), .int .i64 0, .int .u8 0, .str []]], frz := 0, pure := false }), (4, { sz := 4, rows := [[.lsl 1004 0 ((q0.1.map row_T_api_Type).length), .int .i64 0, .int .u8 0, .str []]], frz := 0, pure := false }), (8, { sz := 3, rows := [[.int .i64 v12.1.f_Dim, .int .u8 v12.1.f_Base, .str v12.1.f_Name]], frz := 0, pure := false }), (1004, { sz := 3, rows := (q0.1.map row_T_api_Type), frz := 0, pure := true })]) (by kernel_rfl) ?_
          refine At.adv [] [(18, { told := [], gs := [], keep := some ([2, 4], [(2, 2), (4, 4), (1004, 1004)]) }), (19, { told := [], gs := [], keep := some ([2, 3], [(2, 2), (1004, 1004)]) })] 400 (ev := .ret) (σ' := mkS 70 [(2, .lptr 2 0 0), (3, .int .i64 0)] [(2, { sz := 4, rows := [[.lsl 1004 0 ((q0.1.map row_T_api_Type).length), .int .i64 v12.1.f_Dim, .int .u8 v12.1.f_Base, .str v12.1.f_Name]], frz := 0, pure := false }), (1004, { sz := 3, rows := (q0.1.map row_T_api_Type), frz := 0, pure := true })]) (q := [True ∧ (0 ≤ 0 ∧ 1 + ([.int .i64 v12.1.f_Dim, .int .u8 v12.1.f_Base, .str v12.1.f_Name] : List D).length ≤ ([.lsl 1004 0 ((q0.1.map row_T_api_Type).length), .int .i64 0, .int .u8 0, .str []] : List D).length ∧ ([[.lsl 1004 0 ((q0.1.map row_T_api_Type).length), .int .i64 v12.1.f_Dim, .int .u8 v12.1.f_Base, .str v12.1.f_Name]] : List (List D)) = ([[.lsl 1004 0 ((q0.1.map row_T_api_Type).length), .int .i64 v12.1.f_Dim, .int .u8 v12.1.f_Base, .str v12.1.f_Name]] : List (List D))), True ∧ (0 ≤ 0 ∧ 0 + ([.lsl 1004 0 ((q0.1.map row_T_api_Type).length), .int .i64 v12.1.f_Dim, .int .u8 v12.1.f_Base, .str v12.1.f_Name] : List D).length ≤ ([.sl true (([] : List T_api_Type).map row_T_api_Type), .int .i64 0, .int .u8 0, .str []] : List D).length ∧ ([[.lsl 1004 0 ((q0.1.map row_T_api_Type).length), .int .i64 v12.1.f_Dim, .int .u8 v12.1.f_Base, .str v12.1.f_Name]] : List (List D)) = ([[.lsl 1004 0 ((q0.1.map row_T_api_Type).length), .int .i64 v12.1.f_Dim, .int .u8 v12.1.f_Base, .str v12.1.f_Name]] : List (List D)))]) (by kernel_rfl) ⟨⟨trivial, ⟨Nat.zero_le _, Nat.le_of_ble_eq_true rfl, rfl⟩⟩, ⟨trivial, ⟨Nat.zero_le _, Nat.le_of_ble_eq_true rfl, rfl⟩⟩, trivial⟩ ?_
          refine EvOk.ret ?_
          obtain rfl := someE h
          exact Den.Ends.mk (.inl rfl) (d := .tup [.agg [.sl false (((q0.1.map row_T_api_Type).drop 0).take (q0.1.map row_T_api_Type).length), .int .i64 v12.1.f_Dim, .int .u8 v12.1.f_Base, .str v12.1.f_Name], .int .i64 0]) (p := (True ∧ (True ∧ True)) ∧ (((0 + (q0.1.map row_T_api_Type).length ≤ (q0.1.map row_T_api_Type).length) ∧ (True ∧ (True ∧ (True ∧ True)))) ∧ (True ∧ True))) (by kernel_rfl) ⟨⟨trivial, ⟨trivial, trivial⟩⟩, ⟨⟨roomAll _, ⟨trivial, ⟨trivial, ⟨trivial, trivial⟩⟩⟩⟩, ⟨trivial, trivial⟩⟩⟩ (by simp only [takeAll] <;> kernel_rfl)
  · obtain rfl := someE h
    obtain ⟨rfl, hE⟩ := hJ
    exact At.retK hE
theorem we15 (x0 : List UInt8) (r : T_api_Sig × Int) (h : m_desc_ParseSignature x0 = some r) (Γ : Ctx) : At Try.prog Γ b15 [] (Den.Ends Try.prog Try.f15 (.tup [.agg (row_T_api_Sig r.1), .int .i64 r.2])) (mkS 70 [(0, .str x0)] []) := by
  rcases Bool.eq_false_or_eq_true (x0 == ([] : List UInt8)) with h0 | h0
  · replace h := iteT h0 h
    refine At.adv [] [(0, { told := [], gs := [], keep := some ([0, 2], [(2, 2)]) }), (1, { told := [(6, { ans := .yes })], gs := [(3, false), (4, false), (5, false)], keep := some ([0, 2, 16], [(2, 2)]) })] 400 (ev := .cond true c15x3 c15x4 [.seq c15x5]) (σ' := mkS 70 [(0, .str x0), (2, .lptr 2 0 0), (16, .bool true)] [(2, { sz := 4, rows := [[.sl true (([] : List T_api_Type).map row_T_api_Type), .int .i64 0, .int .u8 0, .str []]], frz := 0, pure := false })]) (q := [((x0 == ([] : List UInt8)) == false) = false, ((x0 == ([] : List UInt8)) == false) = false, ((x0 == ([] : List UInt8)) == false) = false, True ∧ ((x0 == ([] : List UInt8)) = true)]) (by kernel_rfl) ⟨gB h0 rfl, gB h0 rfl, gB h0 rfl, ⟨trivial, h0⟩, trivial⟩ ?_
    refine EvOk.cond (fun _ => ?_) (fun hb => Bool.noConfusion hb)
    refine At.gc [2] [(2, 2)] (n := 70) (l := [(2, .lptr 2 0 0)]) (bl := [(2, { sz := 4, rows := [[.sl true (([] : List T_api_Type).map row_T_api_Type), .int .i64 0, .int .u8 0, .str []]], frz := 0, pure := false })]) (by kernel_rfl) ?_
    refine At.adv [] [(2, { told := [], gs := [], keep := some ([2, 3], [(2, 2)]) })] 400 (ev := .ret) (σ' := mkS 70 [(2, .lptr 2 0 0), (3, .int .i64 13)] [(2, { sz := 4, rows := [[.sl true (([] : List T_api_Type).map row_T_api_Type), .int .i64 0, .int .u8 0, .str []]], frz := 0, pure := false })]) (q := [True ∧ (0 ≤ 0 ∧ 0 + ([.sl true (([] : List T_api_Type).map row_T_api_Type), .int .i64 0, .int .u8 0, .str []] : List D).length ≤ ([.sl true (([] : List T_api_Type).map row_T_api_Type), .int .i64 0, .int .u8 0, .str []] : List D).length ∧ ([[.sl true (([] : List T_api_Type).map row_T_api_Type), .int .i64 0, .int .u8 0, .str []]] : List (List D)) = ([[.sl true (([] : List T_api_Type).map row_T_api_Type), .int .i64 0, .int .u8 0, .str []]] : List (List D)))]) (by kernel_rfl) ⟨⟨trivial, ⟨Nat.zero_le _, Nat.le_of_ble_eq_true rfl, rfl⟩⟩, trivial⟩ ?_
    refine EvOk.ret ?_
    obtain rfl := someE h
    exact Den.Ends.mk (.inl rfl) (d := .tup [.agg [.sl false (([] : List T_api_Type).map row_T_api_Type), .int .i64 0, .int .u8 0, .str []], .int .i64 13]) (p := (True ∧ (True ∧ True)) ∧ ((True ∧ (True ∧ (True ∧ (True ∧ True)))) ∧ (True ∧ True))) (by kernel_rfl) ⟨⟨trivial, ⟨trivial, trivial⟩⟩, ⟨⟨trivial, ⟨trivial, ⟨trivial, ⟨trivial, trivial⟩⟩⟩⟩, ⟨trivial, trivial⟩⟩⟩ (by kernel_rfl)
  · replace h := iteF h0 h
    obtain ⟨v0, e0, h⟩ := bindE h
    refine At.adv [] [(0, { told := [], gs := [], keep := some ([0, 2], [(2, 2)]) }), (1, { told := [(4, { ans := .val (.int .u8 v0) }), (6, { ans := .no })], gs := [(3, true), (4, true), (5, true)], keep := some ([0, 2, 16], [(2, 2)]) })] 400 (ev := .cond (v0 != 40) c15x3 c15x4 [.seq c15x5]) (σ' := mkS 70 [(0, .str x0), (2, .lptr 2 0 0), (16, .bool (v0 != 40))] [(2, { sz := 4, rows := [[.sl true (([] : List T_api_Type).map row_T_api_Type), .int .i64 0, .int .u8 0, .str []]], frz := 0, pure := false })]) (q := [((x0 == ([] : List UInt8)) == false) = true ∧ True, ((x0 == ([] : List UInt8)) == false) = true ∧ (getS x0 0 = some v0), ((x0 == ([] : List UInt8)) == false) = true ∧ True, True ∧ ((x0 == ([] : List UInt8)) = false)]) (by kernel_rfl) ⟨⟨(gB h0 rfl), trivial⟩, ⟨(gB h0 rfl), e0⟩, ⟨(gB h0 rfl), trivial⟩, ⟨trivial, h0⟩, trivial⟩ ?_
    refine EvOk.cond (fun h1 => ?_) (fun h1 => ?_)
    · replace h := iteT h1 h
      refine At.gc [2] [(2, 2)] (n := 70) (l := [(2, .lptr 2 0 0)]) (bl := [(2, { sz := 4, rows := [[.sl true (([] : List T_api_Type).map row_T_api_Type), .int .i64 0, .int .u8 0, .str []]], frz := 0, pure := false })]) (by kernel_rfl) ?_
      refine At.adv [] [(2, { told := [], gs := [], keep := some ([2, 3], [(2, 2)]) })] 400 (ev := .ret) (σ' := mkS 70 [(2, .lptr 2 0 0), (3, .int .i64 13)] [(2, { sz := 4, rows := [[.sl true (([] : List T_api_Type).map row_T_api_Type), .int .i64 0, .int .u8 0, .str []]], frz := 0, pure := false })]) (q := [True ∧ (0 ≤ 0 ∧ 0 + ([.sl true (([] : List T_api_Type).map row_T_api_Type), .int .i64 0, .int .u8 0, .str []] : List D).length ≤ ([.sl true (([] : List T_api_Type).map row_T_api_Type), .int .i64 0, .int .u8 0, .str []] : List D).length ∧ ([[.sl true (([] : List T_api_Type).map row_T_api_Type), .int .i64 0, .int .u8 0, .str []]] : List (List D)) = ([[.sl true (([] : List T_api_Type).map row_T_api_Type), .int .i64 0, .int .u8 0, .str []]] : List (List D)))]) (by kernel_rfl) ⟨⟨trivial, ⟨Nat.zero_le _, Nat.le_of_ble_eq_true rfl, rfl⟩⟩, trivial⟩ ?_
      refine EvOk.ret ?_
      obtain rfl := someE h
      exact Den.Ends.mk (.inl rfl) (d := .tup [.agg [.sl false (([] : List T_api_Type).map row_T_api_Type), .int .i64 0, .int .u8 0, .str []], .int .i64 13]) (p := (True ∧ (True ∧ True)) ∧ ((True ∧ (True ∧ (True ∧ (True ∧ True)))) ∧ (True ∧ True))) (by kernel_rfl) ⟨⟨trivial, ⟨trivial, trivial⟩⟩, ⟨⟨trivial, ⟨trivial, ⟨trivial, ⟨trivial, trivial⟩⟩⟩⟩, ⟨trivial, trivial⟩⟩⟩ (by kernel_rfl)
    · replace h := iteF h1 h
      refine At.gc [0, 2] [(2, 2)] (n := 70) (l := [(0, .str x0), (2, .lptr 2 0 0)]) (bl := [(2, { sz := 4, rows := [[.sl true (([] : List T_api_Type).map row_T_api_Type), .int .i64 0, .int .u8 0, .str []]], frz := 0, pure := false })]) (by kernel_rfl) ?_
      refine At.adv [3] [] 400 (ev := .stop c15x6 [.seq c15x7]) (σ' := mkS 70 [(0, .str x0), (2, .lptr 2 0 0)] [(2, { sz := 4, rows := [[.sl true (([] : List T_api_Type).map row_T_api_Type), .int .i64 0, .int .u8 0, .str []]], frz := 0, pure := false })]) (q := []) (by kernel_rfl) trivial ?_
      exact (wj15x1 x0)  r h Γ
theorem w15 {x0 : List UInt8} {r : T_api_Sig × Int} (h : m_desc_ParseSignature x0 = some r) : CallSpec Try.prog 15 [.str x0] (.tup [.agg (row_T_api_Sig r.1), .int .i64 r.2]) :=
  CallSpec.at2 b15 (n := 70) (l := [(0, .str x0)]) (by kernel_rfl) (by kernel_rfl) (by kernel_rfl) (by kernel_rfl) (by kernel_rfl) (Nat.le_of_ble_eq_true (by kernel_rfl)) (fun Γ => we15 x0 r h Γ)

/-! ### internal stringslite.HasPrefix -/
noncomputable def b44 : Code := Try.f44.body.getD .skip
def m_internal_stringslite_HasPrefix (x0 : List UInt8) (x1 : List UInt8) : Option (Bool) :=
  if (decide ((x0.length : Int) ≥ (x1.length : Int))) = true then ((sub x0 0 (x1.length : Int)).bind fun v0 =>
  some (v0 == x1)) else
  (some false)
theorem we44 (x0 : List UInt8) (x1 : List UInt8) (r : Bool) (h : m_internal_stringslite_HasPrefix x0 x1 = some r) (Γ : Ctx) : At Try.prog Γ b44 [] (Den.Ends Try.prog Try.f44 (.bool r)) (mkS 18 [(0, .str x0), (1, .str x1)] []) := by
  rcases Bool.eq_false_or_eq_true (decide ((x0.length : Int) ≥ (x1.length : Int))) with h0 | h0
  · replace h := iteT h0 h
    obtain ⟨v0, e0, h⟩ := bindE h
    refine At.adv [] [(0, { told := [], gs := [], keep := some ([0, 1], []) }), (1, { told := [(9, { ans := .val (.str v0) }), (12, { ans := .yes })], gs := [(6, true), (7, true), (8, true), (9, true), (10, true), (11, true)], keep := some ([4], []) })] 400 (ev := .ret) (σ' := mkS 18 [(4, .bool (v0 == x1))] []) (q := [((decide ((x0.length : Int) ≥ (x1.length : Int))) == true) = true ∧ True, ((decide ((x0.length : Int) ≥ (x1.length : Int))) == true) = true ∧ True, ((decide ((x0.length : Int) ≥ (x1.length : Int))) == true) = true ∧ True, ((decide ((x0.length : Int) ≥ (x1.length : Int))) == true) = true ∧ (sub x0 0 (x1.length : Int) = some v0), ((decide ((x0.length : Int) ≥ (x1.length : Int))) == true) = true ∧ True, ((decide ((x0.length : Int) ≥ (x1.length : Int))) == true) = true ∧ True, True ∧ ((decide ((x0.length : Int) ≥ (x1.length : Int))) = true)]) (by kernel_rfl) ⟨⟨(gB h0 rfl), trivial⟩, ⟨(gB h0 rfl), trivial⟩, ⟨(gB h0 rfl), trivial⟩, ⟨(gB h0 rfl), e0⟩, ⟨(gB h0 rfl), trivial⟩, ⟨(gB h0 rfl), trivial⟩, ⟨trivial, h0⟩, trivial⟩ ?_
    refine EvOk.ret ?_
    obtain rfl := someE h
    exact Den.Ends.mk (.inl rfl) (d := .bool (v0 == x1)) (p := (True ∧ True) ∧ (True ∧ True)) (by kernel_rfl) ⟨⟨trivial, trivial⟩, ⟨trivial, trivial⟩⟩ (by kernel_rfl)
  · replace h := iteF h0 h
    refine At.adv [] [(0, { told := [], gs := [], keep := some ([0, 1], []) }), (1, { told := [(12, { ans := .no })], gs := [(6, false), (7, false), (8, false), (9, false), (10, false), (11, false)], keep := some ([4], []) })] 400 (ev := .ret) (σ' := mkS 18 [(4, .bool false)] []) (q := [((decide ((x0.length : Int) ≥ (x1.length : Int))) == true) = false, ((decide ((x0.length : Int) ≥ (x1.length : Int))) == true) = false, ((decide ((x0.length : Int) ≥ (x1.length : Int))) == true) = false, ((decide ((x0.length : Int) ≥ (x1.length : Int))) == true) = false, ((decide ((x0.length : Int) ≥ (x1.length : Int))) == true) = false, ((decide ((x0.length : Int) ≥ (x1.length : Int))) == true) = false, True ∧ ((decide ((x0.length : Int) ≥ (x1.length : Int))) = false)]) (by kernel_rfl) ⟨gB h0 rfl, gB h0 rfl, gB h0 rfl, gB h0 rfl, gB h0 rfl, gB h0 rfl, ⟨trivial, h0⟩, trivial⟩ ?_
    refine EvOk.ret ?_
    obtain rfl := someE h
    exact Den.Ends.mk (.inl rfl) (d := .bool false) (p := (True ∧ True) ∧ (True ∧ True)) (by kernel_rfl) ⟨⟨trivial, trivial⟩, ⟨trivial, trivial⟩⟩ (by kernel_rfl)
theorem w44 {x0 : List UInt8} {x1 : List UInt8} {r : Bool} (h : m_internal_stringslite_HasPrefix x0 x1 = some r) : CallSpec Try.prog 44 [.str x0, .str x1] (.bool r) :=
  CallSpec.at2 b44 (n := 18) (l := [(0, .str x0), (1, .str x1)]) (by kernel_rfl) (by kernel_rfl) (by kernel_rfl) (by kernel_rfl) (by kernel_rfl) (Nat.le_of_ble_eq_true (by kernel_rfl)) (fun Γ => we44 x0 x1 r h Γ)

/-! ### strings.HasPrefix -/
noncomputable def b38 : Code := Try.f38.body.getD .skip
def m_strings_HasPrefix (x0 : List UInt8) (x1 : List UInt8) : Option (Bool) :=
  (m_internal_stringslite_HasPrefix x0 x1).bind fun v0 =>
  some v0
theorem we38 (x0 : List UInt8) (x1 : List UInt8) (r : Bool) (h : m_strings_HasPrefix x0 x1 = some r) (Γ : Ctx) : At Try.prog Γ b38 [] (Den.Ends Try.prog Try.f38 (.bool r)) (mkS 8 [(0, .str x0), (1, .str x1)] []) := by
  obtain ⟨v0, e0, h⟩ := bindE h
  refine At.adv [] [(0, { told := [], gs := [], keep := some ([0, 1], []) }), (1, { told := [(2, { ans := .val (.bool v0), args := [.str x0, .str x1] })], gs := [], keep := some ([4], []) })] 400 (ev := .ret) (σ' := mkS 8 [(4, .bool v0)] []) (q := [True ∧ ((True ∧ (True ∧ True)) ∧ ([.str x0, .str x1] : List D) = [.str x0, .str x1] ∧ CallAny Try.prog 44 [.str x0, .str x1] (.bool v0))]) (by kernel_rfl) ⟨⟨trivial, ⟨⟨trivial, ⟨trivial, trivial⟩⟩, rfl, .inl (w44 e0)⟩⟩, trivial⟩ ?_
  refine EvOk.ret ?_
  obtain rfl := someE h
  exact Den.Ends.mk (.inl rfl) (d := .bool v0) (p := (True ∧ True) ∧ (True ∧ True)) (by kernel_rfl) ⟨⟨trivial, trivial⟩, ⟨trivial, trivial⟩⟩ (by kernel_rfl)
theorem w38 {x0 : List UInt8} {x1 : List UInt8} {r : Bool} (h : m_strings_HasPrefix x0 x1 = some r) : CallSpec Try.prog 38 [.str x0, .str x1] (.bool r) :=
  CallSpec.at2 b38 (n := 8) (l := [(0, .str x0), (1, .str x1)]) (by kernel_rfl) (by kernel_rfl) (by kernel_rfl) (by kernel_rfl) (by kernel_rfl) (Nat.le_of_ble_eq_true (by kernel_rfl)) (fun Γ => we38 x0 x1 r h Γ)

/-! ### armature desc.ParseClassConstant -/
noncomputable def b13 : Code := Try.f13.body.getD .skip
noncomputable def c13x0 : Code := sub1 b13
noncomputable def c13x1 : Code := sub1 c13x0
noncomputable def c13x2 : Code := sub0 c13x1
noncomputable def c13x3 : Code := sub1 c13x2
noncomputable def c13x4 : Code := sub0 c13x3
noncomputable def c13x5 : Code := sub1 c13x3
noncomputable def c13x6 : Code := sub1 c13x1
noncomputable def c13x7 : Code := sub0 c13x0
noncomputable def c13x8 : Code := sub1 c13x7
noncomputable def c13x9 : Code := sub0 c13x8
noncomputable def c13x10 : Code := sub1 c13x8
def m_desc_ParseClassConstant (x0 : List UInt8) : Option (T_api_Type × Int) :=
  (m_name_IsClassName x0).bind fun v0 =>
  if v0 = true then
    (some (({ f_Dim := 0, f_Base := 76, f_Name := x0 } : T_api_Type), 0)) else
  ((m_strings_HasPrefix x0 [91]).bind fun v1 =>
    if v1 = true then
      ((m_desc_Parse x0).bind fun v2 =>
      some (({ f_Dim := v2.1.f_Dim, f_Base := v2.1.f_Base, f_Name := v2.1.f_Name } : T_api_Type), v2.2)) else
    (some (({ f_Dim := 0, f_Base := 0, f_Name := [] } : T_api_Type), 13)))
theorem we13 (x0 : List UInt8) (r : T_api_Type × Int) (h : m_desc_ParseClassConstant x0 = some r) (Γ : Ctx) : At Try.prog Γ b13 [] (Den.Ends Try.prog Try.f13 (.tup [.agg (row_T_api_Type r.1), .int .i64 r.2])) (mkS 15 [(0, .str x0)] []) := by
  obtain ⟨v0, e0, h⟩ := bindE h
  refine At.adv [] [(0, { told := [], gs := [], keep := some ([0, 2], [(2, 2)]) }), (1, { told := [(1, { ans := .val (.bool v0), args := [.str x0] })], gs := [], keep := some ([0, 2, 5], [(2, 2)]) })] 400 (ev := .cond v0 c13x9 c13x10 [.seq c13x1]) (σ' := mkS 15 [(0, .str x0), (2, .lptr 2 0 0), (5, .bool v0)] [(2, { sz := 3, rows := [[.int .i64 0, .int .u8 0, .str []]], frz := 0, pure := false })]) (q := [True ∧ ((True ∧ True) ∧ ([.str x0] : List D) = [.str x0] ∧ CallAny Try.prog 37 [.str x0] (.bool v0))]) (by kernel_rfl) ⟨⟨trivial, ⟨⟨trivial, trivial⟩, rfl, .inl (w37 e0)⟩⟩, trivial⟩ ?_
  refine EvOk.cond (fun h0 => ?_) (fun h0 => ?_)
  · replace h := iteT h0 h
    refine At.gc [0, 2] [(2, 2)] (n := 15) (l := [(0, .str x0), (2, .lptr 2 0 0)]) (bl := [(2, { sz := 3, rows := [[.int .i64 0, .int .u8 0, .str []]], frz := 0, pure := false })]) (by kernel_rfl) ?_
    refine At.adv [] [(2, { told := [], gs := [], keep := some ([2, 3], [(2, 2)]) })] 400 (ev := .ret) (σ' := mkS 15 [(2, .lptr 2 0 0), (3, .int .i64 0)] [(2, { sz := 3, rows := [[.int .i64 0, .int .u8 76, .str x0]], frz := 0, pure := false })]) (q := [True ∧ (0 ≤ 0 ∧ 0 + ([.int .i64 0, .int .u8 76, .str x0] : List D).length ≤ ([.int .i64 0, .int .u8 0, .str []] : List D).length ∧ ([[.int .i64 0, .int .u8 76, .str x0]] : List (List D)) = ([[.int .i64 0, .int .u8 76, .str x0]] : List (List D)))]) (by kernel_rfl) ⟨⟨trivial, ⟨Nat.zero_le _, Nat.le_of_ble_eq_true rfl, rfl⟩⟩, trivial⟩ ?_
    refine EvOk.ret ?_
    obtain rfl := someE h
    exact Den.Ends.mk (.inl rfl) (d := .tup [.agg [.int .i64 0, .int .u8 76, .str x0], .int .i64 0]) (p := (True ∧ (True ∧ True)) ∧ ((True ∧ (True ∧ (True ∧ True))) ∧ (True ∧ True))) (by kernel_rfl) ⟨⟨trivial, ⟨trivial, trivial⟩⟩, ⟨⟨trivial, ⟨trivial, ⟨trivial, trivial⟩⟩⟩, ⟨trivial, trivial⟩⟩⟩ (by kernel_rfl)
  · replace h := iteF h0 h
    refine At.gc [0, 2] [(2, 2)] (n := 15) (l := [(0, .str x0), (2, .lptr 2 0 0)]) (bl := [(2, { sz := 3, rows := [[.int .i64 0, .int .u8 0, .str []]], frz := 0, pure := false })]) (by kernel_rfl) ?_
    obtain ⟨v1, e1, h⟩ := bindE h
    refine At.adv [] [(3, { told := [(1, { ans := .val (.bool v1), args := [.str x0, .str [91]] })], gs := [], keep := some ([0, 2, 9], [(2, 2)]) })] 400 (ev := .cond v1 c13x4 c13x5 [.seq c13x6]) (σ' := mkS 15 [(0, .str x0), (2, .lptr 2 0 0), (9, .bool v1)] [(2, { sz := 3, rows := [[.int .i64 0, .int .u8 0, .str []]], frz := 0, pure := false })]) (q := [True ∧ ((True ∧ (True ∧ True)) ∧ ([.str x0, .str [91]] : List D) = [.str x0, .str [91]] ∧ CallAny Try.prog 38 [.str x0, .str [91]] (.bool v1))]) (by kernel_rfl) ⟨⟨trivial, ⟨⟨trivial, ⟨trivial, trivial⟩⟩, rfl, .inl (w38 e1)⟩⟩, trivial⟩ ?_
    refine EvOk.cond (fun h1 => ?_) (fun h1 => ?_)
    · replace h := iteT h1 h
      refine At.gc [0, 2] [(2, 2)] (n := 15) (l := [(0, .str x0), (2, .lptr 2 0 0)]) (bl := [(2, { sz := 3, rows := [[.int .i64 0, .int .u8 0, .str []]], frz := 0, pure := false })]) (by kernel_rfl) ?_
      obtain ⟨v2, e2, h⟩ := bindE h
      refine At.adv [] [(4, { told := [(1, { ans := .val (.tup [.agg (row_T_api_Type v2.1), .int .i64 v2.2]), args := [.str x0] })], gs := [], keep := some ([2, 3], [(2, 2)]) })] 400 (ev := .ret) (σ' := mkS 15 [(2, .lptr 2 0 0), (3, .int .i64 v2.2)] [(2, { sz := 3, rows := [[.int .i64 v2.1.f_Dim, .int .u8 v2.1.f_Base, .str v2.1.f_Name]], frz := 0, pure := false })]) (q := [True ∧ ((True ∧ True) ∧ ([.str x0] : List D) = [.str x0] ∧ CallAny Try.prog 11 [.str x0] (.tup [.agg (row_T_api_Type v2.1), .int .i64 v2.2])), True ∧ (0 ≤ 0 ∧ 0 + ([.int .i64 v2.1.f_Dim, .int .u8 v2.1.f_Base, .str v2.1.f_Name] : List D).length ≤ ([.int .i64 0, .int .u8 0, .str []] : List D).length ∧ ([[.int .i64 v2.1.f_Dim, .int .u8 v2.1.f_Base, .str v2.1.f_Name]] : List (List D)) = ([[.int .i64 v2.1.f_Dim, .int .u8 v2.1.f_Base, .str v2.1.f_Name]] : List (List D)))]) (by kernel_rfl) ⟨⟨trivial, ⟨⟨trivial, trivial⟩, rfl, .inl (w11 e2)⟩⟩, ⟨trivial, ⟨Nat.zero_le _, Nat.le_of_ble_eq_true rfl, rfl⟩⟩, trivial⟩ ?_
      refine EvOk.ret ?_
      obtain rfl := someE h
      exact Den.Ends.mk (.inl rfl) (d := .tup [.agg [.int .i64 v2.1.f_Dim, .int .u8 v2.1.f_Base, .str v2.1.f_Name], .int .i64 v2.2]) (p := (True ∧ (True ∧ True)) ∧ ((True ∧ (True ∧ (True ∧ True))) ∧ (True ∧ True))) (by kernel_rfl) ⟨⟨trivial, ⟨trivial, trivial⟩⟩, ⟨⟨trivial, ⟨trivial, ⟨trivial, trivial⟩⟩⟩, ⟨trivial, trivial⟩⟩⟩ (by kernel_rfl)
    · replace h := iteF h1 h
      refine At.gc [2] [(2, 2)] (n := 15) (l := [(2, .lptr 2 0 0)]) (bl := [(2, { sz := 3, rows := [[.int .i64 0, .int .u8 0, .str []]], frz := 0, pure := false })]) (by kernel_rfl) ?_
      refine At.adv [] [(5, { told := [], gs := [], keep := some ([2, 3], [(2, 2)]) })] 400 (ev := .ret) (σ' := mkS 15 [(2, .lptr 2 0 0), (3, .int .i64 13)] [(2, { sz := 3, rows := [[.int .i64 0, .int .u8 0, .str []]], frz := 0, pure := false })]) (q := [True ∧ (0 ≤ 0 ∧ 0 + ([.int .i64 0, .int .u8 0, .str []] : List D).length ≤ ([.int .i64 0, .int .u8 0, .str []] : List D).length ∧ ([[.int .i64 0, .int .u8 0, .str []]] : List (List D)) = ([[.int .i64 0, .int .u8 0, .str []]] : List (List D)))]) (by kernel_rfl) ⟨⟨trivial, ⟨Nat.zero_le _, Nat.le_of_ble_eq_true rfl, rfl⟩⟩, trivial⟩ ?_
      refine EvOk.ret ?_
      obtain rfl := someE h
      exact Den.Ends.mk (.inl rfl) (d := .tup [.agg [.int .i64 0, .int .u8 0, .str []], .int .i64 13]) (p := (True ∧ (True ∧ True)) ∧ ((True ∧ (True ∧ (True ∧ True))) ∧ (True ∧ True))) (by kernel_rfl) ⟨⟨trivial, ⟨trivial, trivial⟩⟩, ⟨⟨trivial, ⟨trivial, ⟨trivial, trivial⟩⟩⟩, ⟨trivial, trivial⟩⟩⟩ (by kernel_rfl)
theorem w13 {x0 : List UInt8} {r : T_api_Type × Int} (h : m_desc_ParseClassConstant x0 = some r) : CallSpec Try.prog 13 [.str x0] (.tup [.agg (row_T_api_Type r.1), .int .i64 r.2]) :=
  CallSpec.at2 b13 (n := 15) (l := [(0, .str x0)]) (by kernel_rfl) (by kernel_rfl) (by kernel_rfl) (by kernel_rfl) (by kernel_rfl) (Nat.le_of_ble_eq_true (by kernel_rfl)) (fun Γ => we13 x0 r h Γ)
end Go.Proofs
