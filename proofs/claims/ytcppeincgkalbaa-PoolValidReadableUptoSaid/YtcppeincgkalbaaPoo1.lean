/-
  Models of functions of the program, and that the functions compute them. Printed by den2.py. No condition.
-/
import Derived.Test.YtcppeincgkalbaaRows
import Derived.Test.YtcppeincgkalbaaDenMod
import Derived.Test.YtcppeincgkalbaaDenClaim
set_option linter.unusedVariables false
namespace Go.Proofs
open Go.Den
structure T_api_Const where
  f_Tag : Int
  f_S : List UInt8
  f_N : Int
  f_A : Int
  f_B : Int

def row_T_api_Const (x : T_api_Const) : List D := [.int .i64 x.f_Tag, .str x.f_S, .int .i64 x.f_N, .int .i64 x.f_A, .int .i64 x.f_B]

structure T_api_Ref where
  f_Class : List UInt8
  f_Name : List UInt8
  f_Desc : List UInt8

def row_T_api_Ref (x : T_api_Ref) : List D := [.str x.f_Class, .str x.f_Name, .str x.f_Desc]

structure T_api_Type where
  f_Dim : Int
  f_Base : Int
  f_Name : List UInt8

def row_T_api_Type (x : T_api_Type) : List D := [.int .i64 x.f_Dim, .int .u8 x.f_Base, .str x.f_Name]

structure T_api_Sig where
  f_Params : List T_api_Type
  f_Result : T_api_Type

def row_T_api_Sig (x : T_api_Sig) : List D := [.sl false (x.f_Params.map row_T_api_Type), .int .i64 x.f_Result.f_Dim, .int .u8 x.f_Result.f_Base, .str x.f_Result.f_Name]

structure T_pool_builder where
  f_pool : List T_api_Const
  f_err : Int

def row_T_pool_builder (x : T_pool_builder) : List D := [.sl false (x.f_pool.map row_T_api_Const), .int .i64 x.f_err]

def eqb_T_api_Const (x y : T_api_Const) : Bool := ((x.f_Tag == y.f_Tag) && ((x.f_S == y.f_S) && ((x.f_N == y.f_N) && ((x.f_A == y.f_A) && ((x.f_B == y.f_B) && true)))))

def eqq_29 : Prop := Try.prog.stoodInHeld 29 = false ∧ ("Tag" ≠ "_" ∧ True ∧ ("S" ≠ "_" ∧ True ∧ ("N" ≠ "_" ∧ True ∧ ("A" ≠ "_" ∧ True ∧ ("B" ≠ "_" ∧ True ∧ True)))))

theorem eqp_29 : eqq_29 := ⟨by kernel_rfl, ⟨by decide, trivial, ⟨by decide, trivial, ⟨by decide, trivial, ⟨by decide, trivial, ⟨by decide, trivial, trivial⟩⟩⟩⟩⟩⟩

theorem eqg_29 : Try.prog.eqGuardType Try.prog.depth 29 = false := by kernel_rfl

def eqb_T_api_Ref (x y : T_api_Ref) : Bool := ((x.f_Class == y.f_Class) && ((x.f_Name == y.f_Name) && ((x.f_Desc == y.f_Desc) && true)))

def eqq_37 : Prop := Try.prog.stoodInHeld 37 = false ∧ ("Class" ≠ "_" ∧ True ∧ ("Name" ≠ "_" ∧ True ∧ ("Desc" ≠ "_" ∧ True ∧ True)))

theorem eqp_37 : eqq_37 := ⟨by kernel_rfl, ⟨by decide, trivial, ⟨by decide, trivial, ⟨by decide, trivial, trivial⟩⟩⟩⟩

theorem eqg_37 : Try.prog.eqGuardType Try.prog.depth 37 = false := by kernel_rfl

def eqb_T_api_Type (x y : T_api_Type) : Bool := ((x.f_Dim == y.f_Dim) && ((x.f_Base == y.f_Base) && ((x.f_Name == y.f_Name) && true)))

def eqq_66 : Prop := Try.prog.stoodInHeld 66 = false ∧ ("Dim" ≠ "_" ∧ True ∧ ("Base" ≠ "_" ∧ True ∧ ("Name" ≠ "_" ∧ True ∧ True)))

theorem eqp_66 : eqq_66 := ⟨by kernel_rfl, ⟨by decide, trivial, ⟨by decide, trivial, ⟨by decide, trivial, trivial⟩⟩⟩⟩

theorem eqg_66 : Try.prog.eqGuardType Try.prog.depth 66 = false := by kernel_rfl

/-! ### armature armaturelaw05.few -/
noncomputable def b8 : Code := Try.f8.body.getD .skip
def m_armaturelaw05_few (x0 : List T_api_Const) : Option (Bool) :=
  some (decide ((x0.length : Int) ≤ 1100))
theorem we8 (x0 : List T_api_Const) (r : Bool) (h : m_armaturelaw05_few x0 = some r) (Γ : Ctx) : At Try.prog Γ b8 [] (Den.Ends Try.prog Try.f8 (.bool r)) (mkS 6 [(0, .sl false (x0.map row_T_api_Const))] []) := by
  refine At.adv [] [(0, { keep := some ([0], []) }), (1, { told := [(1, { ans := .val (dI (x0.length : Int)) })], keep := some ([2], []) })] 400 (ev := .ret) (σ' := mkS 6 [(2, .bool (decide ((x0.length : Int) ≤ 1100)))] []) (q := [True ∧ (((x0.map row_T_api_Const).length : Int) = (x0.length : Int))]) (by kernel_rfl) ⟨⟨trivial, lenM _ _⟩, trivial⟩ ?_
  refine EvOk.ret ?_
  obtain rfl := someE h
  exact Den.Ends.mk (.inl rfl) (d := .bool (decide ((x0.length : Int) ≤ 1100))) (p := (True ∧ True) ∧ (tN 1)) (by kernel_rfl) ⟨⟨trivial, trivial⟩, tNi 1⟩ (by kernel_rfl)
theorem w8 {x0 : List T_api_Const} {r : Bool} (h : m_armaturelaw05_few x0 = some r) : CallSpec Try.prog 8 [.sl false (x0.map row_T_api_Const)] (.bool r) :=
  CallSpec.at2 b8 (n := 6) (l := [(0, .sl false (x0.map row_T_api_Const))]) (by kernel_rfl) (by kernel_rfl) (by kernel_rfl) (by kernel_rfl) (by kernel_rfl) (Nat.le_of_ble_eq_true (by kernel_rfl)) (fun Γ => we8 x0 r h Γ)

/-! ### armature pool.links -/
noncomputable def b47 : Code := Try.f47.body.getD .skip
noncomputable def c47x0 : Code := sub1 b47
noncomputable def c47x1 : Code := sub0 c47x0
noncomputable def c47x2 : Code := sub1 c47x1
noncomputable def c47x3 : Code := sub0 c47x2
noncomputable def c47x4 : Code := sub1 c47x3
noncomputable def c47x5 : Code := sub0 c47x4
noncomputable def c47x6 : Code := sub1 c47x4
noncomputable def c47x7 : Code := sub1 c47x0
noncomputable def c47x8 : Code := sub0 c47x3
noncomputable def c47x9 : Code := sub1 c47x8
noncomputable def c47x10 : Code := sub1 c47x9
noncomputable def c47x11 : Code := sub1 c47x10
noncomputable def c47x12 : Code := sub0 c47x11
noncomputable def c47x13 : Code := sub1 c47x11
noncomputable def c47x14 : Code := sub0 c47x9
noncomputable def c47x15 : Code := sub0 c47x6
noncomputable def c47x16 : Code := sub0 c47x15
noncomputable def c47x17 : Code := sub1 c47x15
noncomputable def c47x18 : Code := sub1 c47x6
noncomputable def c47x19 : Code := sub0 c47x18
noncomputable def c47x20 : Code := sub1 c47x18
noncomputable def c47x21 : Code := sub0 c47x17
noncomputable def c47x22 : Code := sub1 c47x17
noncomputable def c47x23 : Code := sub0 c47x20
noncomputable def c47x24 : Code := sub1 c47x20
noncomputable def c47x25 : Code := sub1 c47x24
noncomputable def c47x26 : Code := sub1 c47x25
noncomputable def c47x27 : Code := sub0 c47x26
noncomputable def c47x28 : Code := sub1 c47x26
noncomputable def c47x29 : Code := sub0 c47x25
noncomputable def c47x30 : Code := sub1 c47x29
noncomputable def c47x31 : Code := sub1 c47x30
noncomputable def c47x32 : Code := sub1 c47x31
noncomputable def c47x33 : Code := sub0 c47x32
noncomputable def c47x34 : Code := sub1 c47x32
noncomputable def c47x35 : Code := sub0 c47x30
noncomputable def c47x36 : Code := sub0 c47x24
def j47x5 (x0 : Int) : Option (Int × Int × Bool) :=
  if (x0 == 11) = true then
    (some (7, 12, true)) else
  (some (0, 0, false))
def j47x4 (x0 : Int) : Option (Int × Int × Bool) :=
  if (x0 == 12) = true then
    (some (1, 1, true)) else
  (if (x0 == 9) = true then
      (some (7, 12, true)) else
    (if (x0 == 10) = true then
        (some (7, 12, true)) else
      ((j47x5 x0) )))
def j47x3 (x0 : Int) : Option (Int × Int × Bool) :=
  if (x0 == 8) = true then
    (some (1, 0, true)) else
  ((j47x4 x0) )
def j47x2 (x0 : Int) : Option (Int × Int × Bool) :=
  if (x0 == 7) = true then
    (some (1, 0, true)) else
  ((j47x3 x0) )
def j47x1 (x0 : Int) : Option (Int × Int × Bool) :=
  if (x0 == 5) = true then
    (some (0, 0, true)) else
  ((j47x2 x0) )
def m_pool_links (x0 : Int) : Option (Int × Int × Bool) :=
  if (x0 == 1) = true then
    (some (0, 0, true)) else
  (if (x0 == 3) = true then
      (some (0, 0, true)) else
    ((j47x1 x0) ))
theorem wj47x5 (x0 : Int) (r : Int × Int × Bool) (h : (j47x5 x0)  = some r) (Γ : Ctx) : EvOk Try.prog Γ (Den.Ends Try.prog Try.f47 (.tup [dI r.1, dI r.2.1, .bool r.2.2])) (mkS 19 [(15, .bool (x0 == 11))] []) (.cond (x0 == 11) c47x27 c47x28 [.blk 0, .seq c47x7]) := by
  refine EvOk.cond (fun h8 => ?_) (fun h8 => ?_)
  · replace h := iteT h8 h
    refine At.gc [] [] (n := 19) (l := []) (bl := []) (by kernel_rfl) ?_
    refine At.adv [] [(14, { keep := some ([2, 3, 4], []) })] 400 (ev := .ret) (σ' := mkS 19 [(2, dI 7), (3, dI 12), (4, .bool true)] []) (q := []) (by kernel_rfl) trivial ?_
    refine EvOk.ret ?_
    obtain rfl := someE h
    exact Den.Ends.mk (.inl rfl) (d := .tup [dI 7, dI 12, .bool true]) (p := (True ∧ (True ∧ (True ∧ True))) ∧ (tN 3)) (by kernel_rfl) ⟨⟨trivial, ⟨trivial, ⟨trivial, trivial⟩⟩⟩, tNi 3⟩ (by kernel_rfl)
  · replace h := iteF h8 h
    refine At.gc [] [] (n := 19) (l := []) (bl := []) (by kernel_rfl) ?_
    refine At.adv [] [(15, { keep := some ([2, 3, 4], []) })] 400 (ev := .ret) (σ' := mkS 19 [(2, dI 0), (3, dI 0), (4, .bool false)] []) (q := []) (by kernel_rfl) trivial ?_
    refine EvOk.ret ?_
    obtain rfl := someE h
    exact Den.Ends.mk (.inl rfl) (d := .tup [dI 0, dI 0, .bool false]) (p := (True ∧ (True ∧ (True ∧ True))) ∧ (tN 3)) (by kernel_rfl) ⟨⟨trivial, ⟨trivial, ⟨trivial, trivial⟩⟩⟩, tNi 3⟩ (by kernel_rfl)
theorem wj47x4 (x0 : Int) (r : Int × Int × Bool) (h : (j47x4 x0)  = some r) (Γ : Ctx) : EvOk Try.prog Γ (Den.Ends Try.prog Try.f47 (.tup [dI r.1, dI r.2.1, .bool r.2.2])) (mkS 19 [(5, dI x0)] []) (.stop c47x23 [.seq c47x24, .blk 0, .seq c47x7]) := by
  refine EvOk.stop ?_
  refine At.adv [] [(9, { keep := some ([5, 13], []) })] 400 (ev := .cond (x0 == 12) c47x36 c47x25 [.blk 0, .seq c47x7]) (σ' := mkS 19 [(5, dI x0), (13, .bool (x0 == 12))] []) (q := []) (by kernel_rfl) trivial ?_
  refine EvOk.cond (fun h5 => ?_) (fun h5 => ?_)
  · replace h := iteT h5 h
    refine At.gc [] [] (n := 19) (l := []) (bl := []) (by kernel_rfl) ?_
    refine At.adv [] [(10, { keep := some ([2, 3, 4], []) })] 400 (ev := .ret) (σ' := mkS 19 [(2, dI 1), (3, dI 1), (4, .bool true)] []) (q := []) (by kernel_rfl) trivial ?_
    refine EvOk.ret ?_
    obtain rfl := someE h
    exact Den.Ends.mk (.inl rfl) (d := .tup [dI 1, dI 1, .bool true]) (p := (True ∧ (True ∧ (True ∧ True))) ∧ (tN 3)) (by kernel_rfl) ⟨⟨trivial, ⟨trivial, ⟨trivial, trivial⟩⟩⟩, tNi 3⟩ (by kernel_rfl)
  · replace h := iteF h5 h
    refine At.gc [5] [] (n := 19) (l := [(5, dI x0)]) (bl := []) (by kernel_rfl) ?_
    refine At.adv [] [(11, { keep := some ([5, 15], []) })] 400 (ev := .cond (x0 == 9) c47x35 c47x31 [.seq c47x26, .blk 0, .seq c47x7]) (σ' := mkS 19 [(5, dI x0), (15, .bool (x0 == 9))] []) (q := []) (by kernel_rfl) trivial ?_
    refine EvOk.cond (fun h6 => ?_) (fun h6 => ?_)
    · replace h := iteT h6 h
      refine At.gc [15] [] (n := 19) (l := [(15, .bool (x0 == 9))]) (bl := []) (by kernel_rfl) ?_
      refine At.adv [] [] 400 (ev := .cond (x0 == 9) c47x27 c47x28 [.blk 0, .seq c47x7]) (σ' := mkS 19 [(15, .bool (x0 == 9))] []) (q := []) (by kernel_rfl) trivial ?_
      refine EvOk.cond (fun _ => ?_) (fun hb => Bool.noConfusion (h6.symm.trans hb))
      refine At.gc [] [] (n := 19) (l := []) (bl := []) (by kernel_rfl) ?_
      refine At.adv [] [(14, { keep := some ([2, 3, 4], []) })] 400 (ev := .ret) (σ' := mkS 19 [(2, dI 7), (3, dI 12), (4, .bool true)] []) (q := []) (by kernel_rfl) trivial ?_
      refine EvOk.ret ?_
      obtain rfl := someE h
      exact Den.Ends.mk (.inl rfl) (d := .tup [dI 7, dI 12, .bool true]) (p := (True ∧ (True ∧ (True ∧ True))) ∧ (tN 3)) (by kernel_rfl) ⟨⟨trivial, ⟨trivial, ⟨trivial, trivial⟩⟩⟩, tNi 3⟩ (by kernel_rfl)
    · replace h := iteF h6 h
      refine At.gc [5] [] (n := 19) (l := [(5, dI x0)]) (bl := []) (by kernel_rfl) ?_
      refine At.adv [] [(12, { keep := some ([5, 15], []) })] 400 (ev := .cond (x0 == 10) c47x33 c47x34 [.seq c47x26, .blk 0, .seq c47x7]) (σ' := mkS 19 [(5, dI x0), (15, .bool (x0 == 10))] []) (q := []) (by kernel_rfl) trivial ?_
      refine EvOk.cond (fun h7 => ?_) (fun h7 => ?_)
      · replace h := iteT h7 h
        refine At.gc [15] [] (n := 19) (l := [(15, .bool (x0 == 10))]) (bl := []) (by kernel_rfl) ?_
        refine At.adv [] [] 400 (ev := .cond (x0 == 10) c47x27 c47x28 [.blk 0, .seq c47x7]) (σ' := mkS 19 [(15, .bool (x0 == 10))] []) (q := []) (by kernel_rfl) trivial ?_
        refine EvOk.cond (fun _ => ?_) (fun hb => Bool.noConfusion (h7.symm.trans hb))
        refine At.gc [] [] (n := 19) (l := []) (bl := []) (by kernel_rfl) ?_
        refine At.adv [] [(14, { keep := some ([2, 3, 4], []) })] 400 (ev := .ret) (σ' := mkS 19 [(2, dI 7), (3, dI 12), (4, .bool true)] []) (q := []) (by kernel_rfl) trivial ?_
        refine EvOk.ret ?_
        obtain rfl := someE h
        exact Den.Ends.mk (.inl rfl) (d := .tup [dI 7, dI 12, .bool true]) (p := (True ∧ (True ∧ (True ∧ True))) ∧ (tN 3)) (by kernel_rfl) ⟨⟨trivial, ⟨trivial, ⟨trivial, trivial⟩⟩⟩, tNi 3⟩ (by kernel_rfl)
      · replace h := iteF h7 h
        refine At.gc [5] [] (n := 19) (l := [(5, dI x0)]) (bl := []) (by kernel_rfl) ?_
        refine At.adv [] [(13, { keep := some ([15], []) })] 400 (ev := .cond (x0 == 11) c47x27 c47x28 [.blk 0, .seq c47x7]) (σ' := mkS 19 [(15, .bool (x0 == 11))] []) (q := []) (by kernel_rfl) trivial ?_
        exact (wj47x5 x0)  r h Γ
theorem wj47x3 (x0 : Int) (r : Int × Int × Bool) (h : (j47x3 x0)  = some r) (Γ : Ctx) : EvOk Try.prog Γ (Den.Ends Try.prog Try.f47 (.tup [dI r.1, dI r.2.1, .bool r.2.2])) (mkS 19 [(5, dI x0), (10, .bool (x0 == 8))] []) (.cond (x0 == 8) c47x19 c47x20 [.blk 0, .seq c47x7]) := by
  refine EvOk.cond (fun h4 => ?_) (fun h4 => ?_)
  · replace h := iteT h4 h
    refine At.gc [] [] (n := 19) (l := []) (bl := []) (by kernel_rfl) ?_
    refine At.adv [] [(8, { keep := some ([2, 3, 4], []) })] 400 (ev := .ret) (σ' := mkS 19 [(2, dI 1), (3, dI 0), (4, .bool true)] []) (q := []) (by kernel_rfl) trivial ?_
    refine EvOk.ret ?_
    obtain rfl := someE h
    exact Den.Ends.mk (.inl rfl) (d := .tup [dI 1, dI 0, .bool true]) (p := (True ∧ (True ∧ (True ∧ True))) ∧ (tN 3)) (by kernel_rfl) ⟨⟨trivial, ⟨trivial, ⟨trivial, trivial⟩⟩⟩, tNi 3⟩ (by kernel_rfl)
  · replace h := iteF h4 h
    refine At.gc [5] [] (n := 19) (l := [(5, dI x0)]) (bl := []) (by kernel_rfl) ?_
    refine At.adv [9] [] 400 (ev := .stop c47x23 [.seq c47x24, .blk 0, .seq c47x7]) (σ' := mkS 19 [(5, dI x0)] []) (q := []) (by kernel_rfl) trivial ?_
    exact (wj47x4 x0)  r h Γ
theorem wj47x2 (x0 : Int) (r : Int × Int × Bool) (h : (j47x2 x0)  = some r) (Γ : Ctx) : EvOk Try.prog Γ (Den.Ends Try.prog Try.f47 (.tup [dI r.1, dI r.2.1, .bool r.2.2])) (mkS 19 [(5, dI x0)] []) (.stop c47x16 [.seq c47x17, .seq c47x18, .blk 0, .seq c47x7]) := by
  refine EvOk.stop ?_
  refine At.adv [] [(6, { keep := some ([5, 10], []) })] 400 (ev := .cond (x0 == 7) c47x21 c47x22 [.seq c47x18, .blk 0, .seq c47x7]) (σ' := mkS 19 [(5, dI x0), (10, .bool (x0 == 7))] []) (q := []) (by kernel_rfl) trivial ?_
  refine EvOk.cond (fun h3 => ?_) (fun h3 => ?_)
  · replace h := iteT h3 h
    refine At.adv [] [] 400 (ev := .cond (x0 == 7) c47x19 c47x20 [.blk 0, .seq c47x7]) (σ' := mkS 19 [(5, dI x0), (10, .bool (x0 == 7))] []) (q := []) (by kernel_rfl) trivial ?_
    refine EvOk.cond (fun _ => ?_) (fun hb => Bool.noConfusion (h3.symm.trans hb))
    refine At.gc [] [] (n := 19) (l := []) (bl := []) (by kernel_rfl) ?_
    refine At.adv [] [(8, { keep := some ([2, 3, 4], []) })] 400 (ev := .ret) (σ' := mkS 19 [(2, dI 1), (3, dI 0), (4, .bool true)] []) (q := []) (by kernel_rfl) trivial ?_
    refine EvOk.ret ?_
    obtain rfl := someE h
    exact Den.Ends.mk (.inl rfl) (d := .tup [dI 1, dI 0, .bool true]) (p := (True ∧ (True ∧ (True ∧ True))) ∧ (tN 3)) (by kernel_rfl) ⟨⟨trivial, ⟨trivial, ⟨trivial, trivial⟩⟩⟩, tNi 3⟩ (by kernel_rfl)
  · replace h := iteF h3 h
    refine At.gc [5] [] (n := 19) (l := [(5, dI x0)]) (bl := []) (by kernel_rfl) ?_
    refine At.adv [] [(7, { keep := some ([5, 10], []) })] 400 (ev := .cond (x0 == 8) c47x19 c47x20 [.blk 0, .seq c47x7]) (σ' := mkS 19 [(5, dI x0), (10, .bool (x0 == 8))] []) (q := []) (by kernel_rfl) trivial ?_
    exact (wj47x3 x0)  r h Γ
theorem wj47x1 (x0 : Int) (r : Int × Int × Bool) (h : (j47x1 x0)  = some r) (Γ : Ctx) : EvOk Try.prog Γ (Den.Ends Try.prog Try.f47 (.tup [dI r.1, dI r.2.1, .bool r.2.2])) (mkS 19 [(5, dI x0), (6, .bool (x0 == 5))] []) (.cond (x0 == 5) c47x5 c47x6 [.blk 0, .seq c47x7]) := by
  refine EvOk.cond (fun h2 => ?_) (fun h2 => ?_)
  · replace h := iteT h2 h
    refine At.gc [] [] (n := 19) (l := []) (bl := []) (by kernel_rfl) ?_
    refine At.adv [] [(5, { keep := some ([2, 3, 4], []) })] 400 (ev := .ret) (σ' := mkS 19 [(2, dI 0), (3, dI 0), (4, .bool true)] []) (q := []) (by kernel_rfl) trivial ?_
    refine EvOk.ret ?_
    obtain rfl := someE h
    exact Den.Ends.mk (.inl rfl) (d := .tup [dI 0, dI 0, .bool true]) (p := (True ∧ (True ∧ (True ∧ True))) ∧ (tN 3)) (by kernel_rfl) ⟨⟨trivial, ⟨trivial, ⟨trivial, trivial⟩⟩⟩, tNi 3⟩ (by kernel_rfl)
  · replace h := iteF h2 h
    refine At.gc [5] [] (n := 19) (l := [(5, dI x0)]) (bl := []) (by kernel_rfl) ?_
    refine At.adv [6] [] 400 (ev := .stop c47x16 [.seq c47x17, .seq c47x18, .blk 0, .seq c47x7]) (σ' := mkS 19 [(5, dI x0)] []) (q := []) (by kernel_rfl) trivial ?_
    exact (wj47x2 x0)  r h Γ
theorem we47 (x0 : Int) (r : Int × Int × Bool) (h : m_pool_links x0 = some r) (Γ : Ctx) : At Try.prog Γ b47 [] (Den.Ends Try.prog Try.f47 (.tup [dI r.1, dI r.2.1, .bool r.2.2])) (mkS 19 [(0, dI x0)] []) := by
  refine At.adv [] [(0, { keep := some ([0], []) }), (1, { keep := some ([5], []) }), (2, { keep := some ([5, 6], []) })] 400 (ev := .cond (x0 == 1) c47x14 c47x10 [.seq c47x4, .blk 0, .seq c47x7]) (σ' := mkS 19 [(5, dI x0), (6, .bool (x0 == 1))] []) (q := []) (by kernel_rfl) trivial ?_
  refine EvOk.cond (fun h0 => ?_) (fun h0 => ?_)
  · replace h := iteT h0 h
    refine At.adv [] [] 400 (ev := .cond (x0 == 1) c47x5 c47x6 [.blk 0, .seq c47x7]) (σ' := mkS 19 [(5, dI x0), (6, .bool (x0 == 1))] []) (q := []) (by kernel_rfl) trivial ?_
    refine EvOk.cond (fun _ => ?_) (fun hb => Bool.noConfusion (h0.symm.trans hb))
    refine At.gc [] [] (n := 19) (l := []) (bl := []) (by kernel_rfl) ?_
    refine At.adv [] [(5, { keep := some ([2, 3, 4], []) })] 400 (ev := .ret) (σ' := mkS 19 [(2, dI 0), (3, dI 0), (4, .bool true)] []) (q := []) (by kernel_rfl) trivial ?_
    refine EvOk.ret ?_
    obtain rfl := someE h
    exact Den.Ends.mk (.inl rfl) (d := .tup [dI 0, dI 0, .bool true]) (p := (True ∧ (True ∧ (True ∧ True))) ∧ (tN 3)) (by kernel_rfl) ⟨⟨trivial, ⟨trivial, ⟨trivial, trivial⟩⟩⟩, tNi 3⟩ (by kernel_rfl)
  · replace h := iteF h0 h
    refine At.gc [5] [] (n := 19) (l := [(5, dI x0)]) (bl := []) (by kernel_rfl) ?_
    refine At.adv [] [(3, { keep := some ([5, 6], []) })] 400 (ev := .cond (x0 == 3) c47x12 c47x13 [.seq c47x4, .blk 0, .seq c47x7]) (σ' := mkS 19 [(5, dI x0), (6, .bool (x0 == 3))] []) (q := []) (by kernel_rfl) trivial ?_
    refine EvOk.cond (fun h1 => ?_) (fun h1 => ?_)
    · replace h := iteT h1 h
      refine At.adv [] [] 400 (ev := .cond (x0 == 3) c47x5 c47x6 [.blk 0, .seq c47x7]) (σ' := mkS 19 [(5, dI x0), (6, .bool (x0 == 3))] []) (q := []) (by kernel_rfl) trivial ?_
      refine EvOk.cond (fun _ => ?_) (fun hb => Bool.noConfusion (h1.symm.trans hb))
      refine At.gc [] [] (n := 19) (l := []) (bl := []) (by kernel_rfl) ?_
      refine At.adv [] [(5, { keep := some ([2, 3, 4], []) })] 400 (ev := .ret) (σ' := mkS 19 [(2, dI 0), (3, dI 0), (4, .bool true)] []) (q := []) (by kernel_rfl) trivial ?_
      refine EvOk.ret ?_
      obtain rfl := someE h
      exact Den.Ends.mk (.inl rfl) (d := .tup [dI 0, dI 0, .bool true]) (p := (True ∧ (True ∧ (True ∧ True))) ∧ (tN 3)) (by kernel_rfl) ⟨⟨trivial, ⟨trivial, ⟨trivial, trivial⟩⟩⟩, tNi 3⟩ (by kernel_rfl)
    · replace h := iteF h1 h
      refine At.gc [5] [] (n := 19) (l := [(5, dI x0)]) (bl := []) (by kernel_rfl) ?_
      refine At.adv [] [(4, { keep := some ([5, 6], []) })] 400 (ev := .cond (x0 == 5) c47x5 c47x6 [.blk 0, .seq c47x7]) (σ' := mkS 19 [(5, dI x0), (6, .bool (x0 == 5))] []) (q := []) (by kernel_rfl) trivial ?_
      exact (wj47x1 x0)  r h Γ
theorem w47 {x0 : Int} {r : Int × Int × Bool} (h : m_pool_links x0 = some r) : CallSpec Try.prog 47 [.int .i64 x0] (.tup [.int .i64 r.1, .int .i64 r.2.1, .bool r.2.2]) :=
  CallSpec.at2 b47 (n := 19) (l := [(0, .int .i64 x0)]) (by kernel_rfl) (by kernel_rfl) (by kernel_rfl) (by kernel_rfl) (by kernel_rfl) (Nat.le_of_ble_eq_true (by kernel_rfl)) (fun Γ => we47 x0 r h Γ)

/-! ### armature pool.unused -/
noncomputable def b48 : Code := Try.f48.body.getD .skip
noncomputable def c48x0 : Code := sub1 b48
noncomputable def c48x1 : Code := sub1 c48x0
noncomputable def c48x2 : Code := sub0 c48x1
noncomputable def c48x3 : Code := sub1 c48x1
def m_pool_unused (x0 : T_api_Const) (x1 : Int) (x2 : Int) : Option (Bool) :=
  if (x0.f_Tag == 3) = true then (if (!(x0.f_Tag == 1)) = true then (if (!(x0.f_S == ([] : List UInt8))) = true then (some true) else
    (if (x1 == 0) = true then (if (x0.f_A != 0) = true then (some true) else
        (if (x2 == 0) = true then (some (x0.f_B != 0)) else
          (some false))) else
      (if (x2 == 0) = true then (some (x0.f_B != 0)) else
        (some false)))) else
  (if (x1 == 0) = true then (if (x0.f_A != 0) = true then (some true) else
      (if (x2 == 0) = true then (some (x0.f_B != 0)) else
        (some false))) else
    (if (x2 == 0) = true then (some (x0.f_B != 0)) else
      (some false)))) else
  (if (!(x0.f_Tag == 1)) = true then (if (!(x0.f_S == ([] : List UInt8))) = true then (some true) else
    (if (!(x0.f_Tag == 5)) = true then (if (x0.f_N != 0) = true then (some true) else
        (if (x1 == 0) = true then (if (x0.f_A != 0) = true then (some true) else
            (if (x2 == 0) = true then (some (x0.f_B != 0)) else
              (some false))) else
          (if (x2 == 0) = true then (some (x0.f_B != 0)) else
            (some false)))) else
      (if (x1 == 0) = true then (if (x0.f_A != 0) = true then (some true) else
          (if (x2 == 0) = true then (some (x0.f_B != 0)) else
            (some false))) else
        (if (x2 == 0) = true then (some (x0.f_B != 0)) else
          (some false))))) else
  (if (!(x0.f_Tag == 5)) = true then (if (x0.f_N != 0) = true then (some true) else
      (if (x1 == 0) = true then (if (x0.f_A != 0) = true then (some true) else
          (if (x2 == 0) = true then (some (x0.f_B != 0)) else
            (some false))) else
        (if (x2 == 0) = true then (some (x0.f_B != 0)) else
          (some false)))) else
    (if (x1 == 0) = true then (if (x0.f_A != 0) = true then (some true) else
        (if (x2 == 0) = true then (some (x0.f_B != 0)) else
          (some false))) else
      (if (x2 == 0) = true then (some (x0.f_B != 0)) else
        (some false)))))
theorem we48 (x0 : T_api_Const) (x1 : Int) (x2 : Int) (r : Bool) (h : m_pool_unused x0 x1 x2 = some r) (Γ : Ctx) : At Try.prog Γ b48 [] (Den.Ends Try.prog Try.f48 (.bool r)) (mkS 54 [(0, .agg (row_T_api_Const x0)), (1, dI x1), (2, dI x2)] []) := by
  rcases Bool.eq_false_or_eq_true (x0.f_Tag == 3) with h0 | h0
  · replace h := iteT h0 h
    refine At.adv [2] [(0, { told := [(0, { ro := true })], keep := some ([1, 2, 3], []) }), (1, { told := [(5, aB true)], keep := some ([1, 2, 3, 7, 8], []), ord := some ([0, 1, 2, 3, 4, 5, 6, 7, 8, 9, 10, 11, 12], [], [(1, [0]), (2, [0, 1]), (4, [3]), (5, [3, 4]), (6, [3, 4, 5]), (7, [3, 4, 5, 6]), (8, [3, 4, 5, 6, 7]), (9, [3, 4, 5, 6, 7, 8]), (10, [3, 4, 5, 6, 7, 8, 9]), (11, [0, 1, 2, 3, 4, 5, 6]), (12, [0, 1, 2, 3, 4, 5, 6, 7, 8, 9, 10, 11])]) })] 400 (ev := .stop c48x2 [.seq c48x3]) (σ' := mkS 54 [(1, dI x1), (2, dI x2), (3, .ptr (row_T_api_Const x0)), (7, .bool (x0.f_Tag == 1)), (8, .bool true)] []) (q := [True ∧ ((x0.f_Tag == 3) = true), True, True, True]) (by kernel_rfl) ⟨⟨trivial, h0⟩, trivial, trivial, trivial, trivial⟩ ?_
    refine EvOk.stop (At.ops (l := iv 0 35) (by kernel_rfl) (by kernel_rfl) ?_)
    refine AtOps.run (iv 0 3) (iv 3 32) [] [] [1, 2, 3, 8, 22] [] (n := 54) (sl := [(1, dI x1), (2, dI x2), (3, .ptr (row_T_api_Const x0)), (8, .bool true), (22, .bool (!(x0.f_Tag == 1)))]) (bl := []) (q := []) (by kernel_rfl) (by kernel_rfl) trivial ?_
    rcases Bool.eq_false_or_eq_true (!(x0.f_Tag == 1)) with h1 | h1
    · replace h := iteT h1 h
      refine AtOps.run (iv 3 5) (iv 8 27) [(6, aT)] [(3, true), (4, true), (5, true)] [1, 2, 3, 8, 27] [] (n := 54) (sl := [(1, dI x1), (2, dI x2), (3, .ptr (row_T_api_Const x0)), (8, .bool true), (27, .bool (!(x0.f_S == ([] : List UInt8))))]) (bl := []) (q := [((!(x0.f_Tag == 1)) == true) = true ∧ True, ((!(x0.f_Tag == 1)) == true) = true ∧ True, ((!(x0.f_Tag == 1)) == true) = true ∧ True, True ∧ ((!(x0.f_Tag == 1)) = true)]) (by kernel_rfl) (by kernel_rfl) ⟨⟨(gB h1 rfl), trivial⟩, ⟨(gB h1 rfl), trivial⟩, ⟨(gB h1 rfl), trivial⟩, ⟨trivial, h1⟩, trivial⟩ ?_
      rcases Bool.eq_false_or_eq_true (!(x0.f_S == ([] : List UInt8))) with h2 | h2
      · replace h := iteT h2 h
        refine AtOps.run (iv 8 27) (iv 35 0) [(15, aT)] [(8, false), (9, false), (10, false), (14, false)] [6] [] (n := 54) (sl := [(6, .bool true)]) (bl := []) (q := [((!(x0.f_S == ([] : List UInt8))) == false) = false, ((!(x0.f_S == ([] : List UInt8))) == false) = false, ((!(x0.f_S == ([] : List UInt8))) == false) = false, True, True, True, ((!(x0.f_S == ([] : List UInt8))) == false) = false, True ∧ ((!(x0.f_S == ([] : List UInt8))) = true), True, True, True, True, True, True, True, True, True, True, True, True, True, True]) (by kernel_rfl) (by kernel_rfl) ⟨gB h2 rfl, gB h2 rfl, gB h2 rfl, trivial, trivial, trivial, gB h2 rfl, ⟨trivial, h2⟩, trivial, trivial, trivial, trivial, trivial, trivial, trivial, trivial, trivial, trivial, trivial, trivial, trivial, trivial, trivial⟩ ?_
        refine AtOps.done ?_
        refine At.advN [] [] 400 (ev := .ret) (σ' := mkS 54 [(6, .bool true)] []) (q := []) (by kernel_rfl) trivial ?_
        refine EvOk.ret ?_
        obtain rfl := someE h
        exact Den.Ends.mk (.inl rfl) (d := .bool true) (p := (True ∧ True) ∧ (tN 1)) (by kernel_rfl) ⟨⟨trivial, trivial⟩, tNi 1⟩ (by kernel_rfl)
      · replace h := iteF h2 h
        refine AtOps.run (iv 8 12) (iv 20 15) [(15, aF)] [(8, true), (9, true), (10, true), (14, true)] [2, 3, 36, 39] [] (n := 54) (sl := [(2, dI x2), (3, .ptr (row_T_api_Const x0)), (36, .bool false), (39, .bool (x1 == 0))]) (bl := []) (q := [((!(x0.f_S == ([] : List UInt8))) == false) = true ∧ True, ((!(x0.f_S == ([] : List UInt8))) == false) = true ∧ True, ((!(x0.f_S == ([] : List UInt8))) == false) = true ∧ True, True, True, True, ((!(x0.f_S == ([] : List UInt8))) == false) = true ∧ True, True ∧ ((!(x0.f_S == ([] : List UInt8))) = false), True ∧ True, True ∧ True, True ∧ True]) (by kernel_rfl) (by kernel_rfl) ⟨⟨(gB h2 rfl), trivial⟩, ⟨(gB h2 rfl), trivial⟩, ⟨(gB h2 rfl), trivial⟩, trivial, trivial, trivial, ⟨(gB h2 rfl), trivial⟩, ⟨trivial, h2⟩, ⟨trivial, trivial⟩, ⟨trivial, trivial⟩, ⟨trivial, trivial⟩, trivial⟩ ?_
        rcases Bool.eq_false_or_eq_true (x1 == 0) with h3 | h3
        · replace h := iteT h3 h
          refine AtOps.run (iv 20 6) (iv 26 9) [(23, aT)] [(20, true), (21, true), (22, true)] [2, 3, 45] [] (n := 54) (sl := [(2, dI x2), (3, .ptr (row_T_api_Const x0)), (45, .bool (x0.f_A != 0))]) (bl := []) (q := [((x1 == 0) == true) = true ∧ True, ((x1 == 0) == true) = true ∧ True, ((x1 == 0) == true) = true ∧ True, True ∧ ((x1 == 0) = true)]) (by kernel_rfl) (by kernel_rfl) ⟨⟨(gB h3 rfl), trivial⟩, ⟨(gB h3 rfl), trivial⟩, ⟨(gB h3 rfl), trivial⟩, ⟨trivial, h3⟩, trivial⟩ ?_
          rcases Bool.eq_false_or_eq_true (x0.f_A != 0) with h4 | h4
          · replace h := iteT h4 h
            refine AtOps.run (iv 26 9) (iv 35 0) [(33, aT)] [(26, false), (27, false), (28, false), (32, false)] [6] [] (n := 54) (sl := [(6, .bool true)]) (bl := []) (q := [((x0.f_A != 0) == false) = false, ((x0.f_A != 0) == false) = false, ((x0.f_A != 0) == false) = false, True, True, True, ((x0.f_A != 0) == false) = false, True ∧ ((x0.f_A != 0) = true)]) (by kernel_rfl) (by kernel_rfl) ⟨gB h4 rfl, gB h4 rfl, gB h4 rfl, trivial, trivial, trivial, gB h4 rfl, ⟨trivial, h4⟩, trivial⟩ ?_
            refine AtOps.done ?_
            refine At.advN [] [] 400 (ev := .ret) (σ' := mkS 54 [(6, .bool true)] []) (q := []) (by kernel_rfl) trivial ?_
            refine EvOk.ret ?_
            obtain rfl := someE h
            exact Den.Ends.mk (.inl rfl) (d := .bool true) (p := (True ∧ True) ∧ (tN 1)) (by kernel_rfl) ⟨⟨trivial, trivial⟩, tNi 1⟩ (by kernel_rfl)
          · replace h := iteF h4 h
            refine AtOps.run (iv 26 3) (iv 29 6) [] [(26, true), (27, true), (28, true)] [3, 45, 48] [] (n := 54) (sl := [(3, .ptr (row_T_api_Const x0)), (45, .bool (x0.f_A != 0)), (48, .bool (x2 == 0))]) (bl := []) (q := [((x0.f_A != 0) == false) = true ∧ True, ((x0.f_A != 0) == false) = true ∧ True, ((x0.f_A != 0) == false) = true ∧ True]) (by kernel_rfl) (by kernel_rfl) ⟨⟨(gB h4 rfl), trivial⟩, ⟨(gB h4 rfl), trivial⟩, ⟨(gB h4 rfl), trivial⟩, trivial⟩ ?_
            rcases Bool.eq_false_or_eq_true (x2 == 0) with h5 | h5
            · replace h := iteT h5 h
              refine AtOps.run (iv 29 6) (iv 35 0) [(32, aT), (33, aF)] [(29, true), (30, true), (31, true), (32, true)] [6] [] (n := 54) (sl := [(6, .bool (x0.f_B != 0))]) (bl := []) (q := [((x2 == 0) == true) = true ∧ True, ((x2 == 0) == true) = true ∧ True, ((x2 == 0) == true) = true ∧ True, ((x0.f_A != 0) == false) = true ∧ ((x2 == 0) = true), True ∧ ((x0.f_A != 0) = false)]) (by kernel_rfl) (by kernel_rfl) ⟨⟨(gB h5 rfl), trivial⟩, ⟨(gB h5 rfl), trivial⟩, ⟨(gB h5 rfl), trivial⟩, ⟨(gB h4 rfl), h5⟩, ⟨trivial, h4⟩, trivial⟩ ?_
              refine AtOps.done ?_
              refine At.advN [] [] 400 (ev := .ret) (σ' := mkS 54 [(6, .bool (x0.f_B != 0))] []) (q := []) (by kernel_rfl) trivial ?_
              refine EvOk.ret ?_
              obtain rfl := someE h
              exact Den.Ends.mk (.inl rfl) (d := .bool (x0.f_B != 0)) (p := (True ∧ True) ∧ (tN 1)) (by kernel_rfl) ⟨⟨trivial, trivial⟩, tNi 1⟩ (by kernel_rfl)
            · replace h := iteF h5 h
              refine AtOps.run (iv 29 6) (iv 35 0) [(32, aF), (33, aF)] [(29, false), (30, false), (31, false), (32, true)] [6] [] (n := 54) (sl := [(6, .bool false)]) (bl := []) (q := [((x2 == 0) == true) = false, ((x2 == 0) == true) = false, ((x2 == 0) == true) = false, ((x0.f_A != 0) == false) = true ∧ ((x2 == 0) = false), True ∧ ((x0.f_A != 0) = false)]) (by kernel_rfl) (by kernel_rfl) ⟨gB h5 rfl, gB h5 rfl, gB h5 rfl, ⟨(gB h4 rfl), h5⟩, ⟨trivial, h4⟩, trivial⟩ ?_
              refine AtOps.done ?_
              refine At.advN [] [] 400 (ev := .ret) (σ' := mkS 54 [(6, .bool false)] []) (q := []) (by kernel_rfl) trivial ?_
              refine EvOk.ret ?_
              obtain rfl := someE h
              exact Den.Ends.mk (.inl rfl) (d := .bool false) (p := (True ∧ True) ∧ (tN 1)) (by kernel_rfl) ⟨⟨trivial, trivial⟩, tNi 1⟩ (by kernel_rfl)
        · replace h := iteF h3 h
          refine AtOps.run (iv 20 9) (iv 29 6) [(23, aF)] [(20, false), (21, false), (22, false)] [3, 45, 48] [] (n := 54) (sl := [(3, .ptr (row_T_api_Const x0)), (45, .bool false), (48, .bool (x2 == 0))]) (bl := []) (q := [((x1 == 0) == true) = false, ((x1 == 0) == true) = false, ((x1 == 0) == true) = false, True ∧ ((x1 == 0) = false), True ∧ True, True ∧ True, True ∧ True]) (by kernel_rfl) (by kernel_rfl) ⟨gB h3 rfl, gB h3 rfl, gB h3 rfl, ⟨trivial, h3⟩, ⟨trivial, trivial⟩, ⟨trivial, trivial⟩, ⟨trivial, trivial⟩, trivial⟩ ?_
          rcases Bool.eq_false_or_eq_true (x2 == 0) with h6 | h6
          · replace h := iteT h6 h
            refine AtOps.run (iv 29 6) (iv 35 0) [(32, aT)] [(29, true), (30, true), (31, true)] [6] [] (n := 54) (sl := [(6, .bool (x0.f_B != 0))]) (bl := []) (q := [((x2 == 0) == true) = true ∧ True, ((x2 == 0) == true) = true ∧ True, ((x2 == 0) == true) = true ∧ True, True ∧ ((x2 == 0) = true)]) (by kernel_rfl) (by kernel_rfl) ⟨⟨(gB h6 rfl), trivial⟩, ⟨(gB h6 rfl), trivial⟩, ⟨(gB h6 rfl), trivial⟩, ⟨trivial, h6⟩, trivial⟩ ?_
            refine AtOps.done ?_
            refine At.advN [] [] 400 (ev := .ret) (σ' := mkS 54 [(6, .bool (x0.f_B != 0))] []) (q := []) (by kernel_rfl) trivial ?_
            refine EvOk.ret ?_
            obtain rfl := someE h
            exact Den.Ends.mk (.inl rfl) (d := .bool (x0.f_B != 0)) (p := (True ∧ True) ∧ (tN 1)) (by kernel_rfl) ⟨⟨trivial, trivial⟩, tNi 1⟩ (by kernel_rfl)
          · replace h := iteF h6 h
            refine AtOps.run (iv 29 6) (iv 35 0) [(32, aF)] [(29, false), (30, false), (31, false)] [6] [] (n := 54) (sl := [(6, .bool false)]) (bl := []) (q := [((x2 == 0) == true) = false, ((x2 == 0) == true) = false, ((x2 == 0) == true) = false, True ∧ ((x2 == 0) = false)]) (by kernel_rfl) (by kernel_rfl) ⟨gB h6 rfl, gB h6 rfl, gB h6 rfl, ⟨trivial, h6⟩, trivial⟩ ?_
            refine AtOps.done ?_
            refine At.advN [] [] 400 (ev := .ret) (σ' := mkS 54 [(6, .bool false)] []) (q := []) (by kernel_rfl) trivial ?_
            refine EvOk.ret ?_
            obtain rfl := someE h
            exact Den.Ends.mk (.inl rfl) (d := .bool false) (p := (True ∧ True) ∧ (tN 1)) (by kernel_rfl) ⟨⟨trivial, trivial⟩, tNi 1⟩ (by kernel_rfl)
    · replace h := iteF h1 h
      refine AtOps.run (iv 3 17) (iv 20 15) [(6, aF)] [(3, false), (4, false), (5, false)] [2, 3, 36, 39] [] (n := 54) (sl := [(2, dI x2), (3, .ptr (row_T_api_Const x0)), (36, .bool false), (39, .bool (x1 == 0))]) (bl := []) (q := [((!(x0.f_Tag == 1)) == true) = false, ((!(x0.f_Tag == 1)) == true) = false, ((!(x0.f_Tag == 1)) == true) = false, True ∧ ((!(x0.f_Tag == 1)) = false), True ∧ True, True ∧ True, True ∧ True, True, True, True, True ∧ True, True ∧ True, True ∧ True, True ∧ True]) (by kernel_rfl) (by kernel_rfl) ⟨gB h1 rfl, gB h1 rfl, gB h1 rfl, ⟨trivial, h1⟩, ⟨trivial, trivial⟩, ⟨trivial, trivial⟩, ⟨trivial, trivial⟩, trivial, trivial, trivial, ⟨trivial, trivial⟩, ⟨trivial, trivial⟩, ⟨trivial, trivial⟩, ⟨trivial, trivial⟩, trivial⟩ ?_
      rcases Bool.eq_false_or_eq_true (x1 == 0) with h7 | h7
      · replace h := iteT h7 h
        refine AtOps.run (iv 20 6) (iv 26 9) [(23, aT)] [(20, true), (21, true), (22, true)] [2, 3, 45] [] (n := 54) (sl := [(2, dI x2), (3, .ptr (row_T_api_Const x0)), (45, .bool (x0.f_A != 0))]) (bl := []) (q := [((x1 == 0) == true) = true ∧ True, ((x1 == 0) == true) = true ∧ True, ((x1 == 0) == true) = true ∧ True, True ∧ ((x1 == 0) = true)]) (by kernel_rfl) (by kernel_rfl) ⟨⟨(gB h7 rfl), trivial⟩, ⟨(gB h7 rfl), trivial⟩, ⟨(gB h7 rfl), trivial⟩, ⟨trivial, h7⟩, trivial⟩ ?_
        rcases Bool.eq_false_or_eq_true (x0.f_A != 0) with h8 | h8
        · replace h := iteT h8 h
          refine AtOps.run (iv 26 9) (iv 35 0) [(33, aT)] [(26, false), (27, false), (28, false), (32, false)] [6] [] (n := 54) (sl := [(6, .bool true)]) (bl := []) (q := [((x0.f_A != 0) == false) = false, ((x0.f_A != 0) == false) = false, ((x0.f_A != 0) == false) = false, True, True, True, ((x0.f_A != 0) == false) = false, True ∧ ((x0.f_A != 0) = true)]) (by kernel_rfl) (by kernel_rfl) ⟨gB h8 rfl, gB h8 rfl, gB h8 rfl, trivial, trivial, trivial, gB h8 rfl, ⟨trivial, h8⟩, trivial⟩ ?_
          refine AtOps.done ?_
          refine At.advN [] [] 400 (ev := .ret) (σ' := mkS 54 [(6, .bool true)] []) (q := []) (by kernel_rfl) trivial ?_
          refine EvOk.ret ?_
          obtain rfl := someE h
          exact Den.Ends.mk (.inl rfl) (d := .bool true) (p := (True ∧ True) ∧ (tN 1)) (by kernel_rfl) ⟨⟨trivial, trivial⟩, tNi 1⟩ (by kernel_rfl)
        · replace h := iteF h8 h
          refine AtOps.run (iv 26 3) (iv 29 6) [] [(26, true), (27, true), (28, true)] [3, 45, 48] [] (n := 54) (sl := [(3, .ptr (row_T_api_Const x0)), (45, .bool (x0.f_A != 0)), (48, .bool (x2 == 0))]) (bl := []) (q := [((x0.f_A != 0) == false) = true ∧ True, ((x0.f_A != 0) == false) = true ∧ True, ((x0.f_A != 0) == false) = true ∧ True]) (by kernel_rfl) (by kernel_rfl) ⟨⟨(gB h8 rfl), trivial⟩, ⟨(gB h8 rfl), trivial⟩, ⟨(gB h8 rfl), trivial⟩, trivial⟩ ?_
          rcases Bool.eq_false_or_eq_true (x2 == 0) with h9 | h9
          · replace h := iteT h9 h
            refine AtOps.run (iv 29 6) (iv 35 0) [(32, aT), (33, aF)] [(29, true), (30, true), (31, true), (32, true)] [6] [] (n := 54) (sl := [(6, .bool (x0.f_B != 0))]) (bl := []) (q := [((x2 == 0) == true) = true ∧ True, ((x2 == 0) == true) = true ∧ True, ((x2 == 0) == true) = true ∧ True, ((x0.f_A != 0) == false) = true ∧ ((x2 == 0) = true), True ∧ ((x0.f_A != 0) = false)]) (by kernel_rfl) (by kernel_rfl) ⟨⟨(gB h9 rfl), trivial⟩, ⟨(gB h9 rfl), trivial⟩, ⟨(gB h9 rfl), trivial⟩, ⟨(gB h8 rfl), h9⟩, ⟨trivial, h8⟩, trivial⟩ ?_
            refine AtOps.done ?_
            refine At.advN [] [] 400 (ev := .ret) (σ' := mkS 54 [(6, .bool (x0.f_B != 0))] []) (q := []) (by kernel_rfl) trivial ?_
            refine EvOk.ret ?_
            obtain rfl := someE h
            exact Den.Ends.mk (.inl rfl) (d := .bool (x0.f_B != 0)) (p := (True ∧ True) ∧ (tN 1)) (by kernel_rfl) ⟨⟨trivial, trivial⟩, tNi 1⟩ (by kernel_rfl)
          · replace h := iteF h9 h
            refine AtOps.run (iv 29 6) (iv 35 0) [(32, aF), (33, aF)] [(29, false), (30, false), (31, false), (32, true)] [6] [] (n := 54) (sl := [(6, .bool false)]) (bl := []) (q := [((x2 == 0) == true) = false, ((x2 == 0) == true) = false, ((x2 == 0) == true) = false, ((x0.f_A != 0) == false) = true ∧ ((x2 == 0) = false), True ∧ ((x0.f_A != 0) = false)]) (by kernel_rfl) (by kernel_rfl) ⟨gB h9 rfl, gB h9 rfl, gB h9 rfl, ⟨(gB h8 rfl), h9⟩, ⟨trivial, h8⟩, trivial⟩ ?_
            refine AtOps.done ?_
            refine At.advN [] [] 400 (ev := .ret) (σ' := mkS 54 [(6, .bool false)] []) (q := []) (by kernel_rfl) trivial ?_
            refine EvOk.ret ?_
            obtain rfl := someE h
            exact Den.Ends.mk (.inl rfl) (d := .bool false) (p := (True ∧ True) ∧ (tN 1)) (by kernel_rfl) ⟨⟨trivial, trivial⟩, tNi 1⟩ (by kernel_rfl)
      · replace h := iteF h7 h
        refine AtOps.run (iv 20 9) (iv 29 6) [(23, aF)] [(20, false), (21, false), (22, false)] [3, 45, 48] [] (n := 54) (sl := [(3, .ptr (row_T_api_Const x0)), (45, .bool false), (48, .bool (x2 == 0))]) (bl := []) (q := [((x1 == 0) == true) = false, ((x1 == 0) == true) = false, ((x1 == 0) == true) = false, True ∧ ((x1 == 0) = false), True ∧ True, True ∧ True, True ∧ True]) (by kernel_rfl) (by kernel_rfl) ⟨gB h7 rfl, gB h7 rfl, gB h7 rfl, ⟨trivial, h7⟩, ⟨trivial, trivial⟩, ⟨trivial, trivial⟩, ⟨trivial, trivial⟩, trivial⟩ ?_
        rcases Bool.eq_false_or_eq_true (x2 == 0) with h10 | h10
        · replace h := iteT h10 h
          refine AtOps.run (iv 29 6) (iv 35 0) [(32, aT)] [(29, true), (30, true), (31, true)] [6] [] (n := 54) (sl := [(6, .bool (x0.f_B != 0))]) (bl := []) (q := [((x2 == 0) == true) = true ∧ True, ((x2 == 0) == true) = true ∧ True, ((x2 == 0) == true) = true ∧ True, True ∧ ((x2 == 0) = true)]) (by kernel_rfl) (by kernel_rfl) ⟨⟨(gB h10 rfl), trivial⟩, ⟨(gB h10 rfl), trivial⟩, ⟨(gB h10 rfl), trivial⟩, ⟨trivial, h10⟩, trivial⟩ ?_
          refine AtOps.done ?_
          refine At.advN [] [] 400 (ev := .ret) (σ' := mkS 54 [(6, .bool (x0.f_B != 0))] []) (q := []) (by kernel_rfl) trivial ?_
          refine EvOk.ret ?_
          obtain rfl := someE h
          exact Den.Ends.mk (.inl rfl) (d := .bool (x0.f_B != 0)) (p := (True ∧ True) ∧ (tN 1)) (by kernel_rfl) ⟨⟨trivial, trivial⟩, tNi 1⟩ (by kernel_rfl)
        · replace h := iteF h10 h
          refine AtOps.run (iv 29 6) (iv 35 0) [(32, aF)] [(29, false), (30, false), (31, false)] [6] [] (n := 54) (sl := [(6, .bool false)]) (bl := []) (q := [((x2 == 0) == true) = false, ((x2 == 0) == true) = false, ((x2 == 0) == true) = false, True ∧ ((x2 == 0) = false)]) (by kernel_rfl) (by kernel_rfl) ⟨gB h10 rfl, gB h10 rfl, gB h10 rfl, ⟨trivial, h10⟩, trivial⟩ ?_
          refine AtOps.done ?_
          refine At.advN [] [] 400 (ev := .ret) (σ' := mkS 54 [(6, .bool false)] []) (q := []) (by kernel_rfl) trivial ?_
          refine EvOk.ret ?_
          obtain rfl := someE h
          exact Den.Ends.mk (.inl rfl) (d := .bool false) (p := (True ∧ True) ∧ (tN 1)) (by kernel_rfl) ⟨⟨trivial, trivial⟩, tNi 1⟩ (by kernel_rfl)
  · replace h := iteF h0 h
    refine At.adv [2] [(0, { told := [(0, { ro := true })], keep := some ([1, 2, 3], []) }), (1, { told := [(5, aB false)], keep := some ([1, 2, 3, 7, 8], []), ord := some ([0, 1, 2, 3, 4, 5, 6, 7, 8, 9, 10, 11, 12], [], [(1, [0]), (2, [0, 1]), (4, [3]), (5, [3, 4]), (6, [3, 4, 5]), (7, [3, 4, 5, 6]), (8, [3, 4, 5, 6, 7]), (9, [3, 4, 5, 6, 7, 8]), (10, [3, 4, 5, 6, 7, 8, 9]), (11, [0, 1, 2, 3, 4, 5, 6]), (12, [0, 1, 2, 3, 4, 5, 6, 7, 8, 9, 10, 11])]) })] 400 (ev := .stop c48x2 [.seq c48x3]) (σ' := mkS 54 [(1, dI x1), (2, dI x2), (3, .ptr (row_T_api_Const x0)), (7, .bool (x0.f_Tag == 1)), (8, .bool (x0.f_Tag == 5))] []) (q := [True ∧ ((x0.f_Tag == 3) = false), True ∧ True, True ∧ True, True ∧ True]) (by kernel_rfl) ⟨⟨trivial, h0⟩, ⟨trivial, trivial⟩, ⟨trivial, trivial⟩, ⟨trivial, trivial⟩, trivial⟩ ?_
    refine EvOk.stop (At.ops (l := iv 0 35) (by kernel_rfl) (by kernel_rfl) ?_)
    refine AtOps.run (iv 0 3) (iv 3 32) [] [] [1, 2, 3, 8, 22] [] (n := 54) (sl := [(1, dI x1), (2, dI x2), (3, .ptr (row_T_api_Const x0)), (8, .bool (x0.f_Tag == 5)), (22, .bool (!(x0.f_Tag == 1)))]) (bl := []) (q := []) (by kernel_rfl) (by kernel_rfl) trivial ?_
    rcases Bool.eq_false_or_eq_true (!(x0.f_Tag == 1)) with h11 | h11
    · replace h := iteT h11 h
      refine AtOps.run (iv 3 5) (iv 8 27) [(6, aT)] [(3, true), (4, true), (5, true)] [1, 2, 3, 8, 27] [] (n := 54) (sl := [(1, dI x1), (2, dI x2), (3, .ptr (row_T_api_Const x0)), (8, .bool (x0.f_Tag == 5)), (27, .bool (!(x0.f_S == ([] : List UInt8))))]) (bl := []) (q := [((!(x0.f_Tag == 1)) == true) = true ∧ True, ((!(x0.f_Tag == 1)) == true) = true ∧ True, ((!(x0.f_Tag == 1)) == true) = true ∧ True, True ∧ ((!(x0.f_Tag == 1)) = true)]) (by kernel_rfl) (by kernel_rfl) ⟨⟨(gB h11 rfl), trivial⟩, ⟨(gB h11 rfl), trivial⟩, ⟨(gB h11 rfl), trivial⟩, ⟨trivial, h11⟩, trivial⟩ ?_
      rcases Bool.eq_false_or_eq_true (!(x0.f_S == ([] : List UInt8))) with h12 | h12
      · replace h := iteT h12 h
        refine AtOps.run (iv 8 27) (iv 35 0) [(15, aT)] [(8, false), (9, false), (10, false), (14, false)] [6] [] (n := 54) (sl := [(6, .bool true)]) (bl := []) (q := [((!(x0.f_S == ([] : List UInt8))) == false) = false, ((!(x0.f_S == ([] : List UInt8))) == false) = false, ((!(x0.f_S == ([] : List UInt8))) == false) = false, True, True, True, ((!(x0.f_S == ([] : List UInt8))) == false) = false, True ∧ ((!(x0.f_S == ([] : List UInt8))) = true), True, True, True, True, True, True, True, True, True, True, True, True, True, True]) (by kernel_rfl) (by kernel_rfl) ⟨gB h12 rfl, gB h12 rfl, gB h12 rfl, trivial, trivial, trivial, gB h12 rfl, ⟨trivial, h12⟩, trivial, trivial, trivial, trivial, trivial, trivial, trivial, trivial, trivial, trivial, trivial, trivial, trivial, trivial, trivial⟩ ?_
        refine AtOps.done ?_
        refine At.advN [] [] 400 (ev := .ret) (σ' := mkS 54 [(6, .bool true)] []) (q := []) (by kernel_rfl) trivial ?_
        refine EvOk.ret ?_
        obtain rfl := someE h
        exact Den.Ends.mk (.inl rfl) (d := .bool true) (p := (True ∧ True) ∧ (tN 1)) (by kernel_rfl) ⟨⟨trivial, trivial⟩, tNi 1⟩ (by kernel_rfl)
      · replace h := iteF h12 h
        refine AtOps.run (iv 8 3) (iv 11 24) [] [(8, true), (9, true), (10, true)] [1, 2, 3, 27, 30] [] (n := 54) (sl := [(1, dI x1), (2, dI x2), (3, .ptr (row_T_api_Const x0)), (27, .bool (!(x0.f_S == ([] : List UInt8)))), (30, .bool (!(x0.f_Tag == 5)))]) (bl := []) (q := [((!(x0.f_S == ([] : List UInt8))) == false) = true ∧ True, ((!(x0.f_S == ([] : List UInt8))) == false) = true ∧ True, ((!(x0.f_S == ([] : List UInt8))) == false) = true ∧ True]) (by kernel_rfl) (by kernel_rfl) ⟨⟨(gB h12 rfl), trivial⟩, ⟨(gB h12 rfl), trivial⟩, ⟨(gB h12 rfl), trivial⟩, trivial⟩ ?_
        rcases Bool.eq_false_or_eq_true (!(x0.f_Tag == 5)) with h13 | h13
        · replace h := iteT h13 h
          refine AtOps.run (iv 11 6) (iv 17 18) [(14, aT), (15, aF)] [(11, true), (12, true), (13, true), (14, true)] [1, 2, 3, 36] [] (n := 54) (sl := [(1, dI x1), (2, dI x2), (3, .ptr (row_T_api_Const x0)), (36, .bool (x0.f_N != 0))]) (bl := []) (q := [((!(x0.f_Tag == 5)) == true) = true ∧ True, ((!(x0.f_Tag == 5)) == true) = true ∧ True, ((!(x0.f_Tag == 5)) == true) = true ∧ True, ((!(x0.f_S == ([] : List UInt8))) == false) = true ∧ ((!(x0.f_Tag == 5)) = true), True ∧ ((!(x0.f_S == ([] : List UInt8))) = false)]) (by kernel_rfl) (by kernel_rfl) ⟨⟨(gB h13 rfl), trivial⟩, ⟨(gB h13 rfl), trivial⟩, ⟨(gB h13 rfl), trivial⟩, ⟨(gB h12 rfl), h13⟩, ⟨trivial, h12⟩, trivial⟩ ?_
          rcases Bool.eq_false_or_eq_true (x0.f_N != 0) with h14 | h14
          · replace h := iteT h14 h
            refine AtOps.run (iv 17 18) (iv 35 0) [(24, aT)] [(17, false), (18, false), (19, false), (23, false)] [6] [] (n := 54) (sl := [(6, .bool true)]) (bl := []) (q := [((x0.f_N != 0) == false) = false, ((x0.f_N != 0) == false) = false, ((x0.f_N != 0) == false) = false, True, True, True, ((x0.f_N != 0) == false) = false, True ∧ ((x0.f_N != 0) = true), True, True, True, True, True, True, True]) (by kernel_rfl) (by kernel_rfl) ⟨gB h14 rfl, gB h14 rfl, gB h14 rfl, trivial, trivial, trivial, gB h14 rfl, ⟨trivial, h14⟩, trivial, trivial, trivial, trivial, trivial, trivial, trivial, trivial⟩ ?_
            refine AtOps.done ?_
            refine At.advN [] [] 400 (ev := .ret) (σ' := mkS 54 [(6, .bool true)] []) (q := []) (by kernel_rfl) trivial ?_
            refine EvOk.ret ?_
            obtain rfl := someE h
            exact Den.Ends.mk (.inl rfl) (d := .bool true) (p := (True ∧ True) ∧ (tN 1)) (by kernel_rfl) ⟨⟨trivial, trivial⟩, tNi 1⟩ (by kernel_rfl)
          · replace h := iteF h14 h
            refine AtOps.run (iv 17 3) (iv 20 15) [] [(17, true), (18, true), (19, true)] [2, 3, 36, 39] [] (n := 54) (sl := [(2, dI x2), (3, .ptr (row_T_api_Const x0)), (36, .bool (x0.f_N != 0)), (39, .bool (x1 == 0))]) (bl := []) (q := [((x0.f_N != 0) == false) = true ∧ True, ((x0.f_N != 0) == false) = true ∧ True, ((x0.f_N != 0) == false) = true ∧ True]) (by kernel_rfl) (by kernel_rfl) ⟨⟨(gB h14 rfl), trivial⟩, ⟨(gB h14 rfl), trivial⟩, ⟨(gB h14 rfl), trivial⟩, trivial⟩ ?_
            rcases Bool.eq_false_or_eq_true (x1 == 0) with h15 | h15
            · replace h := iteT h15 h
              refine AtOps.run (iv 20 6) (iv 26 9) [(23, aT), (24, aF)] [(20, true), (21, true), (22, true), (23, true)] [2, 3, 45] [] (n := 54) (sl := [(2, dI x2), (3, .ptr (row_T_api_Const x0)), (45, .bool (x0.f_A != 0))]) (bl := []) (q := [((x1 == 0) == true) = true ∧ True, ((x1 == 0) == true) = true ∧ True, ((x1 == 0) == true) = true ∧ True, ((x0.f_N != 0) == false) = true ∧ ((x1 == 0) = true), True ∧ ((x0.f_N != 0) = false)]) (by kernel_rfl) (by kernel_rfl) ⟨⟨(gB h15 rfl), trivial⟩, ⟨(gB h15 rfl), trivial⟩, ⟨(gB h15 rfl), trivial⟩, ⟨(gB h14 rfl), h15⟩, ⟨trivial, h14⟩, trivial⟩ ?_
              rcases Bool.eq_false_or_eq_true (x0.f_A != 0) with h16 | h16
              · replace h := iteT h16 h
                refine AtOps.run (iv 26 9) (iv 35 0) [(33, aT)] [(26, false), (27, false), (28, false), (32, false)] [6] [] (n := 54) (sl := [(6, .bool true)]) (bl := []) (q := [((x0.f_A != 0) == false) = false, ((x0.f_A != 0) == false) = false, ((x0.f_A != 0) == false) = false, True, True, True, ((x0.f_A != 0) == false) = false, True ∧ ((x0.f_A != 0) = true)]) (by kernel_rfl) (by kernel_rfl) ⟨gB h16 rfl, gB h16 rfl, gB h16 rfl, trivial, trivial, trivial, gB h16 rfl, ⟨trivial, h16⟩, trivial⟩ ?_
                refine AtOps.done ?_
                refine At.advN [] [] 400 (ev := .ret) (σ' := mkS 54 [(6, .bool true)] []) (q := []) (by kernel_rfl) trivial ?_
                refine EvOk.ret ?_
                obtain rfl := someE h
                exact Den.Ends.mk (.inl rfl) (d := .bool true) (p := (True ∧ True) ∧ (tN 1)) (by kernel_rfl) ⟨⟨trivial, trivial⟩, tNi 1⟩ (by kernel_rfl)
              · replace h := iteF h16 h
                refine AtOps.run (iv 26 3) (iv 29 6) [] [(26, true), (27, true), (28, true)] [3, 45, 48] [] (n := 54) (sl := [(3, .ptr (row_T_api_Const x0)), (45, .bool (x0.f_A != 0)), (48, .bool (x2 == 0))]) (bl := []) (q := [((x0.f_A != 0) == false) = true ∧ True, ((x0.f_A != 0) == false) = true ∧ True, ((x0.f_A != 0) == false) = true ∧ True]) (by kernel_rfl) (by kernel_rfl) ⟨⟨(gB h16 rfl), trivial⟩, ⟨(gB h16 rfl), trivial⟩, ⟨(gB h16 rfl), trivial⟩, trivial⟩ ?_
                rcases Bool.eq_false_or_eq_true (x2 == 0) with h17 | h17
                · replace h := iteT h17 h
                  refine AtOps.run (iv 29 6) (iv 35 0) [(32, aT), (33, aF)] [(29, true), (30, true), (31, true), (32, true)] [6] [] (n := 54) (sl := [(6, .bool (x0.f_B != 0))]) (bl := []) (q := [((x2 == 0) == true) = true ∧ True, ((x2 == 0) == true) = true ∧ True, ((x2 == 0) == true) = true ∧ True, ((x0.f_A != 0) == false) = true ∧ ((x2 == 0) = true), True ∧ ((x0.f_A != 0) = false)]) (by kernel_rfl) (by kernel_rfl) ⟨⟨(gB h17 rfl), trivial⟩, ⟨(gB h17 rfl), trivial⟩, ⟨(gB h17 rfl), trivial⟩, ⟨(gB h16 rfl), h17⟩, ⟨trivial, h16⟩, trivial⟩ ?_
                  refine AtOps.done ?_
                  refine At.advN [] [] 400 (ev := .ret) (σ' := mkS 54 [(6, .bool (x0.f_B != 0))] []) (q := []) (by kernel_rfl) trivial ?_
                  refine EvOk.ret ?_
                  obtain rfl := someE h
                  exact Den.Ends.mk (.inl rfl) (d := .bool (x0.f_B != 0)) (p := (True ∧ True) ∧ (tN 1)) (by kernel_rfl) ⟨⟨trivial, trivial⟩, tNi 1⟩ (by kernel_rfl)
                · replace h := iteF h17 h
                  refine AtOps.run (iv 29 6) (iv 35 0) [(32, aF), (33, aF)] [(29, false), (30, false), (31, false), (32, true)] [6] [] (n := 54) (sl := [(6, .bool false)]) (bl := []) (q := [((x2 == 0) == true) = false, ((x2 == 0) == true) = false, ((x2 == 0) == true) = false, ((x0.f_A != 0) == false) = true ∧ ((x2 == 0) = false), True ∧ ((x0.f_A != 0) = false)]) (by kernel_rfl) (by kernel_rfl) ⟨gB h17 rfl, gB h17 rfl, gB h17 rfl, ⟨(gB h16 rfl), h17⟩, ⟨trivial, h16⟩, trivial⟩ ?_
                  refine AtOps.done ?_
                  refine At.advN [] [] 400 (ev := .ret) (σ' := mkS 54 [(6, .bool false)] []) (q := []) (by kernel_rfl) trivial ?_
                  refine EvOk.ret ?_
                  obtain rfl := someE h
                  exact Den.Ends.mk (.inl rfl) (d := .bool false) (p := (True ∧ True) ∧ (tN 1)) (by kernel_rfl) ⟨⟨trivial, trivial⟩, tNi 1⟩ (by kernel_rfl)
            · replace h := iteF h15 h
              refine AtOps.run (iv 20 9) (iv 29 6) [(23, aF), (24, aF)] [(20, false), (21, false), (22, false), (23, true)] [3, 45, 48] [] (n := 54) (sl := [(3, .ptr (row_T_api_Const x0)), (45, .bool false), (48, .bool (x2 == 0))]) (bl := []) (q := [((x1 == 0) == true) = false, ((x1 == 0) == true) = false, ((x1 == 0) == true) = false, ((x0.f_N != 0) == false) = true ∧ ((x1 == 0) = false), True ∧ ((x0.f_N != 0) = false), True ∧ True, True ∧ True, True ∧ True]) (by kernel_rfl) (by kernel_rfl) ⟨gB h15 rfl, gB h15 rfl, gB h15 rfl, ⟨(gB h14 rfl), h15⟩, ⟨trivial, h14⟩, ⟨trivial, trivial⟩, ⟨trivial, trivial⟩, ⟨trivial, trivial⟩, trivial⟩ ?_
              rcases Bool.eq_false_or_eq_true (x2 == 0) with h18 | h18
              · replace h := iteT h18 h
                refine AtOps.run (iv 29 6) (iv 35 0) [(32, aT)] [(29, true), (30, true), (31, true)] [6] [] (n := 54) (sl := [(6, .bool (x0.f_B != 0))]) (bl := []) (q := [((x2 == 0) == true) = true ∧ True, ((x2 == 0) == true) = true ∧ True, ((x2 == 0) == true) = true ∧ True, True ∧ ((x2 == 0) = true)]) (by kernel_rfl) (by kernel_rfl) ⟨⟨(gB h18 rfl), trivial⟩, ⟨(gB h18 rfl), trivial⟩, ⟨(gB h18 rfl), trivial⟩, ⟨trivial, h18⟩, trivial⟩ ?_
                refine AtOps.done ?_
                refine At.advN [] [] 400 (ev := .ret) (σ' := mkS 54 [(6, .bool (x0.f_B != 0))] []) (q := []) (by kernel_rfl) trivial ?_
                refine EvOk.ret ?_
                obtain rfl := someE h
                exact Den.Ends.mk (.inl rfl) (d := .bool (x0.f_B != 0)) (p := (True ∧ True) ∧ (tN 1)) (by kernel_rfl) ⟨⟨trivial, trivial⟩, tNi 1⟩ (by kernel_rfl)
              · replace h := iteF h18 h
                refine AtOps.run (iv 29 6) (iv 35 0) [(32, aF)] [(29, false), (30, false), (31, false)] [6] [] (n := 54) (sl := [(6, .bool false)]) (bl := []) (q := [((x2 == 0) == true) = false, ((x2 == 0) == true) = false, ((x2 == 0) == true) = false, True ∧ ((x2 == 0) = false)]) (by kernel_rfl) (by kernel_rfl) ⟨gB h18 rfl, gB h18 rfl, gB h18 rfl, ⟨trivial, h18⟩, trivial⟩ ?_
                refine AtOps.done ?_
                refine At.advN [] [] 400 (ev := .ret) (σ' := mkS 54 [(6, .bool false)] []) (q := []) (by kernel_rfl) trivial ?_
                refine EvOk.ret ?_
                obtain rfl := someE h
                exact Den.Ends.mk (.inl rfl) (d := .bool false) (p := (True ∧ True) ∧ (tN 1)) (by kernel_rfl) ⟨⟨trivial, trivial⟩, tNi 1⟩ (by kernel_rfl)
        · replace h := iteF h13 h
          refine AtOps.run (iv 11 9) (iv 20 15) [(14, aF), (15, aF)] [(11, false), (12, false), (13, false), (14, true)] [2, 3, 36, 39] [] (n := 54) (sl := [(2, dI x2), (3, .ptr (row_T_api_Const x0)), (36, .bool false), (39, .bool (x1 == 0))]) (bl := []) (q := [((!(x0.f_Tag == 5)) == true) = false, ((!(x0.f_Tag == 5)) == true) = false, ((!(x0.f_Tag == 5)) == true) = false, ((!(x0.f_S == ([] : List UInt8))) == false) = true ∧ ((!(x0.f_Tag == 5)) = false), True ∧ ((!(x0.f_S == ([] : List UInt8))) = false), True ∧ True, True ∧ True, True ∧ True]) (by kernel_rfl) (by kernel_rfl) ⟨gB h13 rfl, gB h13 rfl, gB h13 rfl, ⟨(gB h12 rfl), h13⟩, ⟨trivial, h12⟩, ⟨trivial, trivial⟩, ⟨trivial, trivial⟩, ⟨trivial, trivial⟩, trivial⟩ ?_
          rcases Bool.eq_false_or_eq_true (x1 == 0) with h19 | h19
          · replace h := iteT h19 h
            refine AtOps.run (iv 20 6) (iv 26 9) [(23, aT)] [(20, true), (21, true), (22, true)] [2, 3, 45] [] (n := 54) (sl := [(2, dI x2), (3, .ptr (row_T_api_Const x0)), (45, .bool (x0.f_A != 0))]) (bl := []) (q := [((x1 == 0) == true) = true ∧ True, ((x1 == 0) == true) = true ∧ True, ((x1 == 0) == true) = true ∧ True, True ∧ ((x1 == 0) = true)]) (by kernel_rfl) (by kernel_rfl) ⟨⟨(gB h19 rfl), trivial⟩, ⟨(gB h19 rfl), trivial⟩, ⟨(gB h19 rfl), trivial⟩, ⟨trivial, h19⟩, trivial⟩ ?_
            rcases Bool.eq_false_or_eq_true (x0.f_A != 0) with h20 | h20
            · replace h := iteT h20 h
              refine AtOps.run (iv 26 9) (iv 35 0) [(33, aT)] [(26, false), (27, false), (28, false), (32, false)] [6] [] (n := 54) (sl := [(6, .bool true)]) (bl := []) (q := [((x0.f_A != 0) == false) = false, ((x0.f_A != 0) == false) = false, ((x0.f_A != 0) == false) = false, True, True, True, ((x0.f_A != 0) == false) = false, True ∧ ((x0.f_A != 0) = true)]) (by kernel_rfl) (by kernel_rfl) ⟨gB h20 rfl, gB h20 rfl, gB h20 rfl, trivial, trivial, trivial, gB h20 rfl, ⟨trivial, h20⟩, trivial⟩ ?_
              refine AtOps.done ?_
              refine At.advN [] [] 400 (ev := .ret) (σ' := mkS 54 [(6, .bool true)] []) (q := []) (by kernel_rfl) trivial ?_
              refine EvOk.ret ?_
              obtain rfl := someE h
              exact Den.Ends.mk (.inl rfl) (d := .bool true) (p := (True ∧ True) ∧ (tN 1)) (by kernel_rfl) ⟨⟨trivial, trivial⟩, tNi 1⟩ (by kernel_rfl)
            · replace h := iteF h20 h
              refine AtOps.run (iv 26 3) (iv 29 6) [] [(26, true), (27, true), (28, true)] [3, 45, 48] [] (n := 54) (sl := [(3, .ptr (row_T_api_Const x0)), (45, .bool (x0.f_A != 0)), (48, .bool (x2 == 0))]) (bl := []) (q := [((x0.f_A != 0) == false) = true ∧ True, ((x0.f_A != 0) == false) = true ∧ True, ((x0.f_A != 0) == false) = true ∧ True]) (by kernel_rfl) (by kernel_rfl) ⟨⟨(gB h20 rfl), trivial⟩, ⟨(gB h20 rfl), trivial⟩, ⟨(gB h20 rfl), trivial⟩, trivial⟩ ?_
              rcases Bool.eq_false_or_eq_true (x2 == 0) with h21 | h21
              · replace h := iteT h21 h
                refine AtOps.run (iv 29 6) (iv 35 0) [(32, aT), (33, aF)] [(29, true), (30, true), (31, true), (32, true)] [6] [] (n := 54) (sl := [(6, .bool (x0.f_B != 0))]) (bl := []) (q := [((x2 == 0) == true) = true ∧ True, ((x2 == 0) == true) = true ∧ True, ((x2 == 0) == true) = true ∧ True, ((x0.f_A != 0) == false) = true ∧ ((x2 == 0) = true), True ∧ ((x0.f_A != 0) = false)]) (by kernel_rfl) (by kernel_rfl) ⟨⟨(gB h21 rfl), trivial⟩, ⟨(gB h21 rfl), trivial⟩, ⟨(gB h21 rfl), trivial⟩, ⟨(gB h20 rfl), h21⟩, ⟨trivial, h20⟩, trivial⟩ ?_
                refine AtOps.done ?_
                refine At.advN [] [] 400 (ev := .ret) (σ' := mkS 54 [(6, .bool (x0.f_B != 0))] []) (q := []) (by kernel_rfl) trivial ?_
                refine EvOk.ret ?_
                obtain rfl := someE h
                exact Den.Ends.mk (.inl rfl) (d := .bool (x0.f_B != 0)) (p := (True ∧ True) ∧ (tN 1)) (by kernel_rfl) ⟨⟨trivial, trivial⟩, tNi 1⟩ (by kernel_rfl)
              · replace h := iteF h21 h
                refine AtOps.run (iv 29 6) (iv 35 0) [(32, aF), (33, aF)] [(29, false), (30, false), (31, false), (32, true)] [6] [] (n := 54) (sl := [(6, .bool false)]) (bl := []) (q := [((x2 == 0) == true) = false, ((x2 == 0) == true) = false, ((x2 == 0) == true) = false, ((x0.f_A != 0) == false) = true ∧ ((x2 == 0) = false), True ∧ ((x0.f_A != 0) = false)]) (by kernel_rfl) (by kernel_rfl) ⟨gB h21 rfl, gB h21 rfl, gB h21 rfl, ⟨(gB h20 rfl), h21⟩, ⟨trivial, h20⟩, trivial⟩ ?_
                refine AtOps.done ?_
                refine At.advN [] [] 400 (ev := .ret) (σ' := mkS 54 [(6, .bool false)] []) (q := []) (by kernel_rfl) trivial ?_
                refine EvOk.ret ?_
                obtain rfl := someE h
                exact Den.Ends.mk (.inl rfl) (d := .bool false) (p := (True ∧ True) ∧ (tN 1)) (by kernel_rfl) ⟨⟨trivial, trivial⟩, tNi 1⟩ (by kernel_rfl)
          · replace h := iteF h19 h
            refine AtOps.run (iv 20 9) (iv 29 6) [(23, aF)] [(20, false), (21, false), (22, false)] [3, 45, 48] [] (n := 54) (sl := [(3, .ptr (row_T_api_Const x0)), (45, .bool false), (48, .bool (x2 == 0))]) (bl := []) (q := [((x1 == 0) == true) = false, ((x1 == 0) == true) = false, ((x1 == 0) == true) = false, True ∧ ((x1 == 0) = false), True ∧ True, True ∧ True, True ∧ True]) (by kernel_rfl) (by kernel_rfl) ⟨gB h19 rfl, gB h19 rfl, gB h19 rfl, ⟨trivial, h19⟩, ⟨trivial, trivial⟩, ⟨trivial, trivial⟩, ⟨trivial, trivial⟩, trivial⟩ ?_
            rcases Bool.eq_false_or_eq_true (x2 == 0) with h22 | h22
            · replace h := iteT h22 h
              refine AtOps.run (iv 29 6) (iv 35 0) [(32, aT)] [(29, true), (30, true), (31, true)] [6] [] (n := 54) (sl := [(6, .bool (x0.f_B != 0))]) (bl := []) (q := [((x2 == 0) == true) = true ∧ True, ((x2 == 0) == true) = true ∧ True, ((x2 == 0) == true) = true ∧ True, True ∧ ((x2 == 0) = true)]) (by kernel_rfl) (by kernel_rfl) ⟨⟨(gB h22 rfl), trivial⟩, ⟨(gB h22 rfl), trivial⟩, ⟨(gB h22 rfl), trivial⟩, ⟨trivial, h22⟩, trivial⟩ ?_
              refine AtOps.done ?_
              refine At.advN [] [] 400 (ev := .ret) (σ' := mkS 54 [(6, .bool (x0.f_B != 0))] []) (q := []) (by kernel_rfl) trivial ?_
              refine EvOk.ret ?_
              obtain rfl := someE h
              exact Den.Ends.mk (.inl rfl) (d := .bool (x0.f_B != 0)) (p := (True ∧ True) ∧ (tN 1)) (by kernel_rfl) ⟨⟨trivial, trivial⟩, tNi 1⟩ (by kernel_rfl)
            · replace h := iteF h22 h
              refine AtOps.run (iv 29 6) (iv 35 0) [(32, aF)] [(29, false), (30, false), (31, false)] [6] [] (n := 54) (sl := [(6, .bool false)]) (bl := []) (q := [((x2 == 0) == true) = false, ((x2 == 0) == true) = false, ((x2 == 0) == true) = false, True ∧ ((x2 == 0) = false)]) (by kernel_rfl) (by kernel_rfl) ⟨gB h22 rfl, gB h22 rfl, gB h22 rfl, ⟨trivial, h22⟩, trivial⟩ ?_
              refine AtOps.done ?_
              refine At.advN [] [] 400 (ev := .ret) (σ' := mkS 54 [(6, .bool false)] []) (q := []) (by kernel_rfl) trivial ?_
              refine EvOk.ret ?_
              obtain rfl := someE h
              exact Den.Ends.mk (.inl rfl) (d := .bool false) (p := (True ∧ True) ∧ (tN 1)) (by kernel_rfl) ⟨⟨trivial, trivial⟩, tNi 1⟩ (by kernel_rfl)
    · replace h := iteF h11 h
      refine AtOps.run (iv 3 8) (iv 11 24) [(6, aF)] [(3, false), (4, false), (5, false)] [1, 2, 3, 27, 30] [] (n := 54) (sl := [(1, dI x1), (2, dI x2), (3, .ptr (row_T_api_Const x0)), (27, .bool false), (30, .bool (!(x0.f_Tag == 5)))]) (bl := []) (q := [((!(x0.f_Tag == 1)) == true) = false, ((!(x0.f_Tag == 1)) == true) = false, ((!(x0.f_Tag == 1)) == true) = false, True ∧ ((!(x0.f_Tag == 1)) = false), True ∧ True, True ∧ True, True ∧ True]) (by kernel_rfl) (by kernel_rfl) ⟨gB h11 rfl, gB h11 rfl, gB h11 rfl, ⟨trivial, h11⟩, ⟨trivial, trivial⟩, ⟨trivial, trivial⟩, ⟨trivial, trivial⟩, trivial⟩ ?_
      rcases Bool.eq_false_or_eq_true (!(x0.f_Tag == 5)) with h23 | h23
      · replace h := iteT h23 h
        refine AtOps.run (iv 11 6) (iv 17 18) [(14, aT)] [(11, true), (12, true), (13, true)] [1, 2, 3, 36] [] (n := 54) (sl := [(1, dI x1), (2, dI x2), (3, .ptr (row_T_api_Const x0)), (36, .bool (x0.f_N != 0))]) (bl := []) (q := [((!(x0.f_Tag == 5)) == true) = true ∧ True, ((!(x0.f_Tag == 5)) == true) = true ∧ True, ((!(x0.f_Tag == 5)) == true) = true ∧ True, True ∧ ((!(x0.f_Tag == 5)) = true)]) (by kernel_rfl) (by kernel_rfl) ⟨⟨(gB h23 rfl), trivial⟩, ⟨(gB h23 rfl), trivial⟩, ⟨(gB h23 rfl), trivial⟩, ⟨trivial, h23⟩, trivial⟩ ?_
        rcases Bool.eq_false_or_eq_true (x0.f_N != 0) with h24 | h24
        · replace h := iteT h24 h
          refine AtOps.run (iv 17 18) (iv 35 0) [(24, aT)] [(17, false), (18, false), (19, false), (23, false)] [6] [] (n := 54) (sl := [(6, .bool true)]) (bl := []) (q := [((x0.f_N != 0) == false) = false, ((x0.f_N != 0) == false) = false, ((x0.f_N != 0) == false) = false, True, True, True, ((x0.f_N != 0) == false) = false, True ∧ ((x0.f_N != 0) = true), True, True, True, True, True, True, True]) (by kernel_rfl) (by kernel_rfl) ⟨gB h24 rfl, gB h24 rfl, gB h24 rfl, trivial, trivial, trivial, gB h24 rfl, ⟨trivial, h24⟩, trivial, trivial, trivial, trivial, trivial, trivial, trivial, trivial⟩ ?_
          refine AtOps.done ?_
          refine At.advN [] [] 400 (ev := .ret) (σ' := mkS 54 [(6, .bool true)] []) (q := []) (by kernel_rfl) trivial ?_
          refine EvOk.ret ?_
          obtain rfl := someE h
          exact Den.Ends.mk (.inl rfl) (d := .bool true) (p := (True ∧ True) ∧ (tN 1)) (by kernel_rfl) ⟨⟨trivial, trivial⟩, tNi 1⟩ (by kernel_rfl)
        · replace h := iteF h24 h
          refine AtOps.run (iv 17 3) (iv 20 15) [] [(17, true), (18, true), (19, true)] [2, 3, 36, 39] [] (n := 54) (sl := [(2, dI x2), (3, .ptr (row_T_api_Const x0)), (36, .bool (x0.f_N != 0)), (39, .bool (x1 == 0))]) (bl := []) (q := [((x0.f_N != 0) == false) = true ∧ True, ((x0.f_N != 0) == false) = true ∧ True, ((x0.f_N != 0) == false) = true ∧ True]) (by kernel_rfl) (by kernel_rfl) ⟨⟨(gB h24 rfl), trivial⟩, ⟨(gB h24 rfl), trivial⟩, ⟨(gB h24 rfl), trivial⟩, trivial⟩ ?_
          rcases Bool.eq_false_or_eq_true (x1 == 0) with h25 | h25
          · replace h := iteT h25 h
            refine AtOps.run (iv 20 6) (iv 26 9) [(23, aT), (24, aF)] [(20, true), (21, true), (22, true), (23, true)] [2, 3, 45] [] (n := 54) (sl := [(2, dI x2), (3, .ptr (row_T_api_Const x0)), (45, .bool (x0.f_A != 0))]) (bl := []) (q := [((x1 == 0) == true) = true ∧ True, ((x1 == 0) == true) = true ∧ True, ((x1 == 0) == true) = true ∧ True, ((x0.f_N != 0) == false) = true ∧ ((x1 == 0) = true), True ∧ ((x0.f_N != 0) = false)]) (by kernel_rfl) (by kernel_rfl) ⟨⟨(gB h25 rfl), trivial⟩, ⟨(gB h25 rfl), trivial⟩, ⟨(gB h25 rfl), trivial⟩, ⟨(gB h24 rfl), h25⟩, ⟨trivial, h24⟩, trivial⟩ ?_
            rcases Bool.eq_false_or_eq_true (x0.f_A != 0) with h26 | h26
            · replace h := iteT h26 h
              refine AtOps.run (iv 26 9) (iv 35 0) [(33, aT)] [(26, false), (27, false), (28, false), (32, false)] [6] [] (n := 54) (sl := [(6, .bool true)]) (bl := []) (q := [((x0.f_A != 0) == false) = false, ((x0.f_A != 0) == false) = false, ((x0.f_A != 0) == false) = false, True, True, True, ((x0.f_A != 0) == false) = false, True ∧ ((x0.f_A != 0) = true)]) (by kernel_rfl) (by kernel_rfl) ⟨gB h26 rfl, gB h26 rfl, gB h26 rfl, trivial, trivial, trivial, gB h26 rfl, ⟨trivial, h26⟩, trivial⟩ ?_
              refine AtOps.done ?_
              refine At.advN [] [] 400 (ev := .ret) (σ' := mkS 54 [(6, .bool true)] []) (q := []) (by kernel_rfl) trivial ?_
              refine EvOk.ret ?_
              obtain rfl := someE h
              exact Den.Ends.mk (.inl rfl) (d := .bool true) (p := (True ∧ True) ∧ (tN 1)) (by kernel_rfl) ⟨⟨trivial, trivial⟩, tNi 1⟩ (by kernel_rfl)
            · replace h := iteF h26 h
              refine AtOps.run (iv 26 3) (iv 29 6) [] [(26, true), (27, true), (28, true)] [3, 45, 48] [] (n := 54) (sl := [(3, .ptr (row_T_api_Const x0)), (45, .bool (x0.f_A != 0)), (48, .bool (x2 == 0))]) (bl := []) (q := [((x0.f_A != 0) == false) = true ∧ True, ((x0.f_A != 0) == false) = true ∧ True, ((x0.f_A != 0) == false) = true ∧ True]) (by kernel_rfl) (by kernel_rfl) ⟨⟨(gB h26 rfl), trivial⟩, ⟨(gB h26 rfl), trivial⟩, ⟨(gB h26 rfl), trivial⟩, trivial⟩ ?_
              rcases Bool.eq_false_or_eq_true (x2 == 0) with h27 | h27
              · replace h := iteT h27 h
                refine AtOps.run (iv 29 6) (iv 35 0) [(32, aT), (33, aF)] [(29, true), (30, true), (31, true), (32, true)] [6] [] (n := 54) (sl := [(6, .bool (x0.f_B != 0))]) (bl := []) (q := [((x2 == 0) == true) = true ∧ True, ((x2 == 0) == true) = true ∧ True, ((x2 == 0) == true) = true ∧ True, ((x0.f_A != 0) == false) = true ∧ ((x2 == 0) = true), True ∧ ((x0.f_A != 0) = false)]) (by kernel_rfl) (by kernel_rfl) ⟨⟨(gB h27 rfl), trivial⟩, ⟨(gB h27 rfl), trivial⟩, ⟨(gB h27 rfl), trivial⟩, ⟨(gB h26 rfl), h27⟩, ⟨trivial, h26⟩, trivial⟩ ?_
                refine AtOps.done ?_
                refine At.advN [] [] 400 (ev := .ret) (σ' := mkS 54 [(6, .bool (x0.f_B != 0))] []) (q := []) (by kernel_rfl) trivial ?_
                refine EvOk.ret ?_
                obtain rfl := someE h
                exact Den.Ends.mk (.inl rfl) (d := .bool (x0.f_B != 0)) (p := (True ∧ True) ∧ (tN 1)) (by kernel_rfl) ⟨⟨trivial, trivial⟩, tNi 1⟩ (by kernel_rfl)
              · replace h := iteF h27 h
                refine AtOps.run (iv 29 6) (iv 35 0) [(32, aF), (33, aF)] [(29, false), (30, false), (31, false), (32, true)] [6] [] (n := 54) (sl := [(6, .bool false)]) (bl := []) (q := [((x2 == 0) == true) = false, ((x2 == 0) == true) = false, ((x2 == 0) == true) = false, ((x0.f_A != 0) == false) = true ∧ ((x2 == 0) = false), True ∧ ((x0.f_A != 0) = false)]) (by kernel_rfl) (by kernel_rfl) ⟨gB h27 rfl, gB h27 rfl, gB h27 rfl, ⟨(gB h26 rfl), h27⟩, ⟨trivial, h26⟩, trivial⟩ ?_
                refine AtOps.done ?_
                refine At.advN [] [] 400 (ev := .ret) (σ' := mkS 54 [(6, .bool false)] []) (q := []) (by kernel_rfl) trivial ?_
                refine EvOk.ret ?_
                obtain rfl := someE h
                exact Den.Ends.mk (.inl rfl) (d := .bool false) (p := (True ∧ True) ∧ (tN 1)) (by kernel_rfl) ⟨⟨trivial, trivial⟩, tNi 1⟩ (by kernel_rfl)
          · replace h := iteF h25 h
            refine AtOps.run (iv 20 9) (iv 29 6) [(23, aF), (24, aF)] [(20, false), (21, false), (22, false), (23, true)] [3, 45, 48] [] (n := 54) (sl := [(3, .ptr (row_T_api_Const x0)), (45, .bool false), (48, .bool (x2 == 0))]) (bl := []) (q := [((x1 == 0) == true) = false, ((x1 == 0) == true) = false, ((x1 == 0) == true) = false, ((x0.f_N != 0) == false) = true ∧ ((x1 == 0) = false), True ∧ ((x0.f_N != 0) = false), True ∧ True, True ∧ True, True ∧ True]) (by kernel_rfl) (by kernel_rfl) ⟨gB h25 rfl, gB h25 rfl, gB h25 rfl, ⟨(gB h24 rfl), h25⟩, ⟨trivial, h24⟩, ⟨trivial, trivial⟩, ⟨trivial, trivial⟩, ⟨trivial, trivial⟩, trivial⟩ ?_
            rcases Bool.eq_false_or_eq_true (x2 == 0) with h28 | h28
            · replace h := iteT h28 h
              refine AtOps.run (iv 29 6) (iv 35 0) [(32, aT)] [(29, true), (30, true), (31, true)] [6] [] (n := 54) (sl := [(6, .bool (x0.f_B != 0))]) (bl := []) (q := [((x2 == 0) == true) = true ∧ True, ((x2 == 0) == true) = true ∧ True, ((x2 == 0) == true) = true ∧ True, True ∧ ((x2 == 0) = true)]) (by kernel_rfl) (by kernel_rfl) ⟨⟨(gB h28 rfl), trivial⟩, ⟨(gB h28 rfl), trivial⟩, ⟨(gB h28 rfl), trivial⟩, ⟨trivial, h28⟩, trivial⟩ ?_
              refine AtOps.done ?_
              refine At.advN [] [] 400 (ev := .ret) (σ' := mkS 54 [(6, .bool (x0.f_B != 0))] []) (q := []) (by kernel_rfl) trivial ?_
              refine EvOk.ret ?_
              obtain rfl := someE h
              exact Den.Ends.mk (.inl rfl) (d := .bool (x0.f_B != 0)) (p := (True ∧ True) ∧ (tN 1)) (by kernel_rfl) ⟨⟨trivial, trivial⟩, tNi 1⟩ (by kernel_rfl)
            · replace h := iteF h28 h
              refine AtOps.run (iv 29 6) (iv 35 0) [(32, aF)] [(29, false), (30, false), (31, false)] [6] [] (n := 54) (sl := [(6, .bool false)]) (bl := []) (q := [((x2 == 0) == true) = false, ((x2 == 0) == true) = false, ((x2 == 0) == true) = false, True ∧ ((x2 == 0) = false)]) (by kernel_rfl) (by kernel_rfl) ⟨gB h28 rfl, gB h28 rfl, gB h28 rfl, ⟨trivial, h28⟩, trivial⟩ ?_
              refine AtOps.done ?_
              refine At.advN [] [] 400 (ev := .ret) (σ' := mkS 54 [(6, .bool false)] []) (q := []) (by kernel_rfl) trivial ?_
              refine EvOk.ret ?_
              obtain rfl := someE h
              exact Den.Ends.mk (.inl rfl) (d := .bool false) (p := (True ∧ True) ∧ (tN 1)) (by kernel_rfl) ⟨⟨trivial, trivial⟩, tNi 1⟩ (by kernel_rfl)
      · replace h := iteF h23 h
        refine AtOps.run (iv 11 9) (iv 20 15) [(14, aF)] [(11, false), (12, false), (13, false)] [2, 3, 36, 39] [] (n := 54) (sl := [(2, dI x2), (3, .ptr (row_T_api_Const x0)), (36, .bool false), (39, .bool (x1 == 0))]) (bl := []) (q := [((!(x0.f_Tag == 5)) == true) = false, ((!(x0.f_Tag == 5)) == true) = false, ((!(x0.f_Tag == 5)) == true) = false, True ∧ ((!(x0.f_Tag == 5)) = false), True ∧ True, True ∧ True, True ∧ True]) (by kernel_rfl) (by kernel_rfl) ⟨gB h23 rfl, gB h23 rfl, gB h23 rfl, ⟨trivial, h23⟩, ⟨trivial, trivial⟩, ⟨trivial, trivial⟩, ⟨trivial, trivial⟩, trivial⟩ ?_
        rcases Bool.eq_false_or_eq_true (x1 == 0) with h29 | h29
        · replace h := iteT h29 h
          refine AtOps.run (iv 20 6) (iv 26 9) [(23, aT)] [(20, true), (21, true), (22, true)] [2, 3, 45] [] (n := 54) (sl := [(2, dI x2), (3, .ptr (row_T_api_Const x0)), (45, .bool (x0.f_A != 0))]) (bl := []) (q := [((x1 == 0) == true) = true ∧ True, ((x1 == 0) == true) = true ∧ True, ((x1 == 0) == true) = true ∧ True, True ∧ ((x1 == 0) = true)]) (by kernel_rfl) (by kernel_rfl) ⟨⟨(gB h29 rfl), trivial⟩, ⟨(gB h29 rfl), trivial⟩, ⟨(gB h29 rfl), trivial⟩, ⟨trivial, h29⟩, trivial⟩ ?_
          rcases Bool.eq_false_or_eq_true (x0.f_A != 0) with h30 | h30
          · replace h := iteT h30 h
            refine AtOps.run (iv 26 9) (iv 35 0) [(33, aT)] [(26, false), (27, false), (28, false), (32, false)] [6] [] (n := 54) (sl := [(6, .bool true)]) (bl := []) (q := [((x0.f_A != 0) == false) = false, ((x0.f_A != 0) == false) = false, ((x0.f_A != 0) == false) = false, True, True, True, ((x0.f_A != 0) == false) = false, True ∧ ((x0.f_A != 0) = true)]) (by kernel_rfl) (by kernel_rfl) ⟨gB h30 rfl, gB h30 rfl, gB h30 rfl, trivial, trivial, trivial, gB h30 rfl, ⟨trivial, h30⟩, trivial⟩ ?_
            refine AtOps.done ?_
            refine At.advN [] [] 400 (ev := .ret) (σ' := mkS 54 [(6, .bool true)] []) (q := []) (by kernel_rfl) trivial ?_
            refine EvOk.ret ?_
            obtain rfl := someE h
            exact Den.Ends.mk (.inl rfl) (d := .bool true) (p := (True ∧ True) ∧ (tN 1)) (by kernel_rfl) ⟨⟨trivial, trivial⟩, tNi 1⟩ (by kernel_rfl)
          · replace h := iteF h30 h
            refine AtOps.run (iv 26 3) (iv 29 6) [] [(26, true), (27, true), (28, true)] [3, 45, 48] [] (n := 54) (sl := [(3, .ptr (row_T_api_Const x0)), (45, .bool (x0.f_A != 0)), (48, .bool (x2 == 0))]) (bl := []) (q := [((x0.f_A != 0) == false) = true ∧ True, ((x0.f_A != 0) == false) = true ∧ True, ((x0.f_A != 0) == false) = true ∧ True]) (by kernel_rfl) (by kernel_rfl) ⟨⟨(gB h30 rfl), trivial⟩, ⟨(gB h30 rfl), trivial⟩, ⟨(gB h30 rfl), trivial⟩, trivial⟩ ?_
            rcases Bool.eq_false_or_eq_true (x2 == 0) with h31 | h31
            · replace h := iteT h31 h
              refine AtOps.run (iv 29 6) (iv 35 0) [(32, aT), (33, aF)] [(29, true), (30, true), (31, true), (32, true)] [6] [] (n := 54) (sl := [(6, .bool (x0.f_B != 0))]) (bl := []) (q := [((x2 == 0) == true) = true ∧ True, ((x2 == 0) == true) = true ∧ True, ((x2 == 0) == true) = true ∧ True, ((x0.f_A != 0) == false) = true ∧ ((x2 == 0) = true), True ∧ ((x0.f_A != 0) = false)]) (by kernel_rfl) (by kernel_rfl) ⟨⟨(gB h31 rfl), trivial⟩, ⟨(gB h31 rfl), trivial⟩, ⟨(gB h31 rfl), trivial⟩, ⟨(gB h30 rfl), h31⟩, ⟨trivial, h30⟩, trivial⟩ ?_
              refine AtOps.done ?_
              refine At.advN [] [] 400 (ev := .ret) (σ' := mkS 54 [(6, .bool (x0.f_B != 0))] []) (q := []) (by kernel_rfl) trivial ?_
              refine EvOk.ret ?_
              obtain rfl := someE h
              exact Den.Ends.mk (.inl rfl) (d := .bool (x0.f_B != 0)) (p := (True ∧ True) ∧ (tN 1)) (by kernel_rfl) ⟨⟨trivial, trivial⟩, tNi 1⟩ (by kernel_rfl)
            · replace h := iteF h31 h
              refine AtOps.run (iv 29 6) (iv 35 0) [(32, aF), (33, aF)] [(29, false), (30, false), (31, false), (32, true)] [6] [] (n := 54) (sl := [(6, .bool false)]) (bl := []) (q := [((x2 == 0) == true) = false, ((x2 == 0) == true) = false, ((x2 == 0) == true) = false, ((x0.f_A != 0) == false) = true ∧ ((x2 == 0) = false), True ∧ ((x0.f_A != 0) = false)]) (by kernel_rfl) (by kernel_rfl) ⟨gB h31 rfl, gB h31 rfl, gB h31 rfl, ⟨(gB h30 rfl), h31⟩, ⟨trivial, h30⟩, trivial⟩ ?_
              refine AtOps.done ?_
              refine At.advN [] [] 400 (ev := .ret) (σ' := mkS 54 [(6, .bool false)] []) (q := []) (by kernel_rfl) trivial ?_
              refine EvOk.ret ?_
              obtain rfl := someE h
              exact Den.Ends.mk (.inl rfl) (d := .bool false) (p := (True ∧ True) ∧ (tN 1)) (by kernel_rfl) ⟨⟨trivial, trivial⟩, tNi 1⟩ (by kernel_rfl)
        · replace h := iteF h29 h
          refine AtOps.run (iv 20 9) (iv 29 6) [(23, aF)] [(20, false), (21, false), (22, false)] [3, 45, 48] [] (n := 54) (sl := [(3, .ptr (row_T_api_Const x0)), (45, .bool false), (48, .bool (x2 == 0))]) (bl := []) (q := [((x1 == 0) == true) = false, ((x1 == 0) == true) = false, ((x1 == 0) == true) = false, True ∧ ((x1 == 0) = false), True ∧ True, True ∧ True, True ∧ True]) (by kernel_rfl) (by kernel_rfl) ⟨gB h29 rfl, gB h29 rfl, gB h29 rfl, ⟨trivial, h29⟩, ⟨trivial, trivial⟩, ⟨trivial, trivial⟩, ⟨trivial, trivial⟩, trivial⟩ ?_
          rcases Bool.eq_false_or_eq_true (x2 == 0) with h32 | h32
          · replace h := iteT h32 h
            refine AtOps.run (iv 29 6) (iv 35 0) [(32, aT)] [(29, true), (30, true), (31, true)] [6] [] (n := 54) (sl := [(6, .bool (x0.f_B != 0))]) (bl := []) (q := [((x2 == 0) == true) = true ∧ True, ((x2 == 0) == true) = true ∧ True, ((x2 == 0) == true) = true ∧ True, True ∧ ((x2 == 0) = true)]) (by kernel_rfl) (by kernel_rfl) ⟨⟨(gB h32 rfl), trivial⟩, ⟨(gB h32 rfl), trivial⟩, ⟨(gB h32 rfl), trivial⟩, ⟨trivial, h32⟩, trivial⟩ ?_
            refine AtOps.done ?_
            refine At.advN [] [] 400 (ev := .ret) (σ' := mkS 54 [(6, .bool (x0.f_B != 0))] []) (q := []) (by kernel_rfl) trivial ?_
            refine EvOk.ret ?_
            obtain rfl := someE h
            exact Den.Ends.mk (.inl rfl) (d := .bool (x0.f_B != 0)) (p := (True ∧ True) ∧ (tN 1)) (by kernel_rfl) ⟨⟨trivial, trivial⟩, tNi 1⟩ (by kernel_rfl)
          · replace h := iteF h32 h
            refine AtOps.run (iv 29 6) (iv 35 0) [(32, aF)] [(29, false), (30, false), (31, false)] [6] [] (n := 54) (sl := [(6, .bool false)]) (bl := []) (q := [((x2 == 0) == true) = false, ((x2 == 0) == true) = false, ((x2 == 0) == true) = false, True ∧ ((x2 == 0) = false)]) (by kernel_rfl) (by kernel_rfl) ⟨gB h32 rfl, gB h32 rfl, gB h32 rfl, ⟨trivial, h32⟩, trivial⟩ ?_
            refine AtOps.done ?_
            refine At.advN [] [] 400 (ev := .ret) (σ' := mkS 54 [(6, .bool false)] []) (q := []) (by kernel_rfl) trivial ?_
            refine EvOk.ret ?_
            obtain rfl := someE h
            exact Den.Ends.mk (.inl rfl) (d := .bool false) (p := (True ∧ True) ∧ (tN 1)) (by kernel_rfl) ⟨⟨trivial, trivial⟩, tNi 1⟩ (by kernel_rfl)
theorem w48 {x0 : T_api_Const} {x1 : Int} {x2 : Int} {r : Bool} (h : m_pool_unused x0 x1 x2 = some r) : CallSpec Try.prog 48 [.agg (row_T_api_Const x0), .int .i64 x1, .int .i64 x2] (.bool r) :=
  CallSpec.at2 b48 (n := 54) (l := [(0, .agg (row_T_api_Const x0)), (1, .int .i64 x1), (2, .int .i64 x2)]) (by kernel_rfl) (by kernel_rfl) (by kernel_rfl) (by kernel_rfl) (by kernel_rfl) (Nat.le_of_ble_eq_true (by kernel_rfl)) (fun Γ => we48 x0 x1 x2 r h Γ)

/-! ### armature pool.At -/
noncomputable def b12 : Code := Try.f12.body.getD .skip
noncomputable def c12x0 : Code := sub1 b12
noncomputable def c12x1 : Code := sub0 c12x0
noncomputable def c12x2 : Code := sub1 c12x1
noncomputable def c12x3 : Code := sub0 c12x2
noncomputable def c12x4 : Code := sub1 c12x2
noncomputable def c12x5 : Code := sub1 c12x0
def m_pool_At (x0 : List T_api_Const) (x1 : Int) : Option (T_api_Const × Int) :=
  if (decide (x1 < 1)) = true then (some (({ f_Tag := 0, f_S := [], f_N := 0, f_A := 0, f_B := 0 } : T_api_Const), 2)) else
  (if (decide (x1 > (x0.length : Int))) = true then
    (some (({ f_Tag := 0, f_S := [], f_N := 0, f_A := 0, f_B := 0 } : T_api_Const), 2)) else
  ((some (IntKind.wrap .i64 (x1 - (1 : Int)))).bind fun v0 =>
    (getR x0 v0).bind fun v1 =>
    some (v1, 0)))
theorem we12 (x0 : List T_api_Const) (x1 : Int) (r : T_api_Const × Int) (h : m_pool_At x0 x1 = some r) (Γ : Ctx) : At Try.prog Γ b12 [] (Den.Ends Try.prog Try.f12 (.tup [.agg (row_T_api_Const r.1), dI r.2])) (mkS 20 [(0, .sl false (x0.map row_T_api_Const)), (1, dI x1)] []) := by
  rcases Bool.eq_false_or_eq_true (decide (x1 < 1)) with h0 | h0
  · replace h := iteT h0 h
    refine At.adv [] [(0, { keep := some ([0, 1, 4], [(4, 4)]) }), (1, { told := [(1, aB true)], keep := some ([0, 1, 4, 13], [(4, 4)]) })] 400 (ev := .cond true c12x3 c12x4 [.seq c12x5]) (σ' := mkS 20 [(0, .sl false (x0.map row_T_api_Const)), (1, dI x1), (4, .lptr 4 0 0), (13, .bool true)] [(4, { sz := 5, rows := [[dI 0, .str [], dI 0, dI 0, dI 0]], frz := 0, pure := false })]) (q := [True ∧ ((decide (x1 < 1)) = true), True, True, True, True]) (by kernel_rfl) ⟨⟨trivial, h0⟩, trivial, trivial, trivial, trivial, trivial⟩ ?_
    refine EvOk.cond (fun _ => ?_) (fun hb => Bool.noConfusion hb)
    refine At.gc [4] [(4, 4)] (n := 20) (l := [(4, .lptr 4 0 0)]) (bl := [(4, { sz := 5, rows := [[dI 0, .str [], dI 0, dI 0, dI 0]], frz := 0, pure := false })]) (by kernel_rfl) ?_
    refine At.adv [] [(2, { keep := some ([4, 5], [(4, 4)]) })] 400 (ev := .ret) (σ' := mkS 20 [(4, .lptr 4 0 0), (5, dI 2)] [(4, { sz := 5, rows := [[dI 0, .str [], dI 0, dI 0, dI 0]], frz := 0, pure := false })]) (q := [True ∧ (0 ≤ 0 ∧ 0 + ([dI 0, .str [], dI 0, dI 0, dI 0] : List D).length ≤ ([dI 0, .str [], dI 0, dI 0, dI 0] : List D).length ∧ ([[dI 0, .str [], dI 0, dI 0, dI 0]] : List (List D)) = ([[dI 0, .str [], dI 0, dI 0, dI 0]] : List (List D)))]) (by kernel_rfl) ⟨⟨trivial, ⟨Nat.zero_le _, Nat.le_of_ble_eq_true rfl, rfl⟩⟩, trivial⟩ ?_
    refine EvOk.ret ?_
    obtain rfl := someE h
    exact Den.Ends.mk (.inl rfl) (d := .tup [.agg [dI 0, .str [], dI 0, dI 0, dI 0], dI 2]) (p := (True ∧ (True ∧ True)) ∧ ((tN 5) ∧ (True ∧ True))) (by kernel_rfl) ⟨⟨trivial, ⟨trivial, trivial⟩⟩, ⟨tNi 5, ⟨trivial, trivial⟩⟩⟩ (by kernel_rfl)
  · replace h := iteF h0 h
    refine At.adv [] [(0, { keep := some ([0, 1, 4], [(4, 4)]) }), (1, { told := [(1, aB false), (5, { ans := .val (dI (x0.length : Int)) })], keep := some ([0, 1, 4, 13], [(4, 4)]) })] 400 (ev := .cond (decide (x1 > (x0.length : Int))) c12x3 c12x4 [.seq c12x5]) (σ' := mkS 20 [(0, .sl false (x0.map row_T_api_Const)), (1, dI x1), (4, .lptr 4 0 0), (13, .bool (decide (x1 > (x0.length : Int))))] [(4, { sz := 5, rows := [[dI 0, .str [], dI 0, dI 0, dI 0]], frz := 0, pure := false })]) (q := [True ∧ ((decide (x1 < 1)) = false), True ∧ True, True ∧ True, True ∧ (((x0.map row_T_api_Const).length : Int) = (x0.length : Int)), True ∧ True]) (by kernel_rfl) ⟨⟨trivial, h0⟩, ⟨trivial, trivial⟩, ⟨trivial, trivial⟩, ⟨trivial, lenM _ _⟩, ⟨trivial, trivial⟩, trivial⟩ ?_
    refine EvOk.cond (fun h1 => ?_) (fun h1 => ?_)
    · replace h := iteT h1 h
      refine At.gc [4] [(4, 4)] (n := 20) (l := [(4, .lptr 4 0 0)]) (bl := [(4, { sz := 5, rows := [[dI 0, .str [], dI 0, dI 0, dI 0]], frz := 0, pure := false })]) (by kernel_rfl) ?_
      refine At.adv [] [(2, { keep := some ([4, 5], [(4, 4)]) })] 400 (ev := .ret) (σ' := mkS 20 [(4, .lptr 4 0 0), (5, dI 2)] [(4, { sz := 5, rows := [[dI 0, .str [], dI 0, dI 0, dI 0]], frz := 0, pure := false })]) (q := [True ∧ (0 ≤ 0 ∧ 0 + ([dI 0, .str [], dI 0, dI 0, dI 0] : List D).length ≤ ([dI 0, .str [], dI 0, dI 0, dI 0] : List D).length ∧ ([[dI 0, .str [], dI 0, dI 0, dI 0]] : List (List D)) = ([[dI 0, .str [], dI 0, dI 0, dI 0]] : List (List D)))]) (by kernel_rfl) ⟨⟨trivial, ⟨Nat.zero_le _, Nat.le_of_ble_eq_true rfl, rfl⟩⟩, trivial⟩ ?_
      refine EvOk.ret ?_
      obtain rfl := someE h
      exact Den.Ends.mk (.inl rfl) (d := .tup [.agg [dI 0, .str [], dI 0, dI 0, dI 0], dI 2]) (p := (True ∧ (True ∧ True)) ∧ ((tN 5) ∧ (True ∧ True))) (by kernel_rfl) ⟨⟨trivial, ⟨trivial, trivial⟩⟩, ⟨tNi 5, ⟨trivial, trivial⟩⟩⟩ (by kernel_rfl)
    · replace h := iteF h1 h
      refine At.gc [0, 1, 4] [(4, 4)] (n := 20) (l := [(0, .sl false (x0.map row_T_api_Const)), (1, dI x1), (4, .lptr 4 0 0)]) (bl := [(4, { sz := 5, rows := [[dI 0, .str [], dI 0, dI 0, dI 0]], frz := 0, pure := false })]) (by kernel_rfl) ?_
      obtain ⟨v0, e0, h⟩ := bindE h
      obtain ⟨v1, e1, h⟩ := bindE h
      refine At.adv [] [(3, { told := [(2, aI v0), (3, { ans := .row (row_T_api_Const v1) })], keep := some ([4, 5], [(4, 4)]) })] 400 (ev := .ret) (σ' := mkS 20 [(4, .lptr 4 0 0), (5, dI 0)] [(4, { sz := 5, rows := [row_T_api_Const v1], frz := 0, pure := false })]) (q := [True ∧ (IntKind.wrap .i64 (x1 - (1 : Int)) = v0), True ∧ (getR (x0.map row_T_api_Const) v0 = some (row_T_api_Const v1)), True ∧ (0 ≤ 0 ∧ 0 + ([dI v1.f_Tag, .str v1.f_S, dI v1.f_N, dI v1.f_A, dI v1.f_B] : List D).length ≤ ([dI 0, .str [], dI 0, dI 0, dI 0] : List D).length ∧ ([[dI v1.f_Tag, .str v1.f_S, dI v1.f_N, dI v1.f_A, dI v1.f_B]] : List (List D)) = ([[dI v1.f_Tag, .str v1.f_S, dI v1.f_N, dI v1.f_A, dI v1.f_B]] : List (List D)))]) (by kernel_rfl) ⟨⟨trivial, someE e0⟩, ⟨trivial, getR_map row_T_api_Const e1⟩, ⟨trivial, ⟨Nat.zero_le _, Nat.le_of_ble_eq_true rfl, rfl⟩⟩, trivial⟩ ?_
      refine EvOk.ret ?_
      obtain rfl := someE h
      exact Den.Ends.mk (.inl rfl) (d := .tup [.agg [dI v1.f_Tag, .str v1.f_S, dI v1.f_N, dI v1.f_A, dI v1.f_B], dI 0]) (p := (True ∧ (True ∧ True)) ∧ ((tN 5) ∧ (True ∧ True))) (by kernel_rfl) ⟨⟨trivial, ⟨trivial, trivial⟩⟩, ⟨tNi 5, ⟨trivial, trivial⟩⟩⟩ (by kernel_rfl)
theorem w12 {x0 : List T_api_Const} {x1 : Int} {r : T_api_Const × Int} (h : m_pool_At x0 x1 = some r) : CallSpec Try.prog 12 [.sl false (x0.map row_T_api_Const), .int .i64 x1] (.tup [.agg (row_T_api_Const r.1), .int .i64 r.2]) :=
  CallSpec.at2 b12 (n := 20) (l := [(0, .sl false (x0.map row_T_api_Const)), (1, .int .i64 x1)]) (by kernel_rfl) (by kernel_rfl) (by kernel_rfl) (by kernel_rfl) (by kernel_rfl) (Nat.le_of_ble_eq_true (by kernel_rfl)) (fun Γ => we12 x0 x1 r h Γ)

/-! ### armature pool.tagged -/
noncomputable def b38 : Code := Try.f38.body.getD .skip
noncomputable def c38x0 : Code := sub1 b38
noncomputable def c38x1 : Code := sub1 c38x0
noncomputable def c38x2 : Code := sub0 c38x1
noncomputable def c38x3 : Code := sub1 c38x2
noncomputable def c38x4 : Code := sub0 c38x3
noncomputable def c38x5 : Code := sub1 c38x3
noncomputable def c38x6 : Code := sub1 c38x1
def m_pool_tagged (x0 : List T_api_Const) (x1 : Int) (x2 : Int) : Option (T_api_Const × Int) :=
  (m_pool_At x0 x1).bind fun v0 =>
  if (v0.2 == 0) = true then (if (v0.1.f_Tag != x2) = true then
    (some (({ f_Tag := 0, f_S := [], f_N := 0, f_A := 0, f_B := 0 } : T_api_Const), 11)) else
  (some (v0.1, v0.2))) else
  (some (v0.1, v0.2))
theorem we38 (x0 : List T_api_Const) (x1 : Int) (x2 : Int) (r : T_api_Const × Int) (h : m_pool_tagged x0 x1 x2 = some r) (Γ : Ctx) : At Try.prog Γ b38 [] (Den.Ends Try.prog Try.f38 (.tup [.agg (row_T_api_Const r.1), dI r.2])) (mkS 27 [(0, .sl false (x0.map row_T_api_Const)), (1, dI x1), (2, dI x2)] []) := by
  obtain ⟨v0, e0, h⟩ := bindE h
  rcases Bool.eq_false_or_eq_true (v0.2 == 0) with h0 | h0
  · replace h := iteT h0 h
    refine At.adv [] [(0, { keep := some ([0, 1, 2, 6], [(6, 6)]) }), (1, { told := [(2, { ans := .val (.tup [.agg (row_T_api_Const v0.1), dI v0.2]) })], keep := some ([2, 6, 8, 9], [(6, 6), (8, 8)]) }), (2, { told := [(1, aB true)], keep := some ([6, 8, 9, 23], [(6, 6), (8, 8)]) })] 400 (ev := .cond (v0.1.f_Tag != x2) c38x4 c38x5 [.seq c38x6]) (σ' := mkS 27 [(6, .lptr 6 0 0), (8, .lptr 8 0 0), (9, dI v0.2), (23, .bool (v0.1.f_Tag != x2))] [(6, { sz := 5, rows := [[dI 0, .str [], dI 0, dI 0, dI 0]], frz := 0, pure := false }), (8, { sz := 5, rows := [row_T_api_Const v0.1], frz := 0, pure := false })]) (q := [True ∧ (cq Try.prog (tN 2) 12 [.sl false (x0.map row_T_api_Const), dI x1] (.tup [.agg (row_T_api_Const v0.1), dI v0.2])), True ∧ (0 ≤ 0 ∧ 0 + ([dI v0.1.f_Tag, .str v0.1.f_S, dI v0.1.f_N, dI v0.1.f_A, dI v0.1.f_B] : List D).length ≤ ([dI 0, .str [], dI 0, dI 0, dI 0] : List D).length ∧ ([[dI v0.1.f_Tag, .str v0.1.f_S, dI v0.1.f_N, dI v0.1.f_A, dI v0.1.f_B]] : List (List D)) = ([[dI v0.1.f_Tag, .str v0.1.f_S, dI v0.1.f_N, dI v0.1.f_A, dI v0.1.f_B]] : List (List D))), True ∧ ((v0.2 == 0) = true), True ∧ True, True ∧ True, True ∧ True, True ∧ True]) (by kernel_rfl) ⟨⟨trivial, cqi (tNi 2) (w12 e0)⟩, ⟨trivial, ⟨Nat.zero_le _, Nat.le_of_ble_eq_true rfl, rfl⟩⟩, ⟨trivial, h0⟩, ⟨trivial, trivial⟩, ⟨trivial, trivial⟩, ⟨trivial, trivial⟩, ⟨trivial, trivial⟩, trivial⟩ ?_
    refine EvOk.cond (fun h1 => ?_) (fun h1 => ?_)
    · replace h := iteT h1 h
      refine At.gc [6] [(6, 6)] (n := 27) (l := [(6, .lptr 6 0 0)]) (bl := [(6, { sz := 5, rows := [[dI 0, .str [], dI 0, dI 0, dI 0]], frz := 0, pure := false })]) (by kernel_rfl) ?_
      refine At.adv [] [(3, { keep := some ([6, 7], [(6, 6)]) })] 400 (ev := .ret) (σ' := mkS 27 [(6, .lptr 6 0 0), (7, dI 11)] [(6, { sz := 5, rows := [[dI 0, .str [], dI 0, dI 0, dI 0]], frz := 0, pure := false })]) (q := [True ∧ (0 ≤ 0 ∧ 0 + ([dI 0, .str [], dI 0, dI 0, dI 0] : List D).length ≤ ([dI 0, .str [], dI 0, dI 0, dI 0] : List D).length ∧ ([[dI 0, .str [], dI 0, dI 0, dI 0]] : List (List D)) = ([[dI 0, .str [], dI 0, dI 0, dI 0]] : List (List D)))]) (by kernel_rfl) ⟨⟨trivial, ⟨Nat.zero_le _, Nat.le_of_ble_eq_true rfl, rfl⟩⟩, trivial⟩ ?_
      refine EvOk.ret ?_
      obtain rfl := someE h
      exact Den.Ends.mk (.inl rfl) (d := .tup [.agg [dI 0, .str [], dI 0, dI 0, dI 0], dI 11]) (p := (True ∧ (True ∧ True)) ∧ ((tN 5) ∧ (True ∧ True))) (by kernel_rfl) ⟨⟨trivial, ⟨trivial, trivial⟩⟩, ⟨tNi 5, ⟨trivial, trivial⟩⟩⟩ (by kernel_rfl)
    · replace h := iteF h1 h
      refine At.gc [6, 8, 9] [(6, 6), (8, 8)] (n := 27) (l := [(6, .lptr 6 0 0), (8, .lptr 8 0 0), (9, dI v0.2)]) (bl := [(6, { sz := 5, rows := [[dI 0, .str [], dI 0, dI 0, dI 0]], frz := 0, pure := false }), (8, { sz := 5, rows := [row_T_api_Const v0.1], frz := 0, pure := false })]) (by kernel_rfl) ?_
      refine At.adv [] [(4, { keep := some ([6, 7], [(6, 6)]) })] 400 (ev := .ret) (σ' := mkS 27 [(6, .lptr 6 0 0), (7, dI v0.2)] [(6, { sz := 5, rows := [row_T_api_Const v0.1], frz := 0, pure := false })]) (q := [True ∧ (0 ≤ 0 ∧ 0 + ([dI v0.1.f_Tag, .str v0.1.f_S, dI v0.1.f_N, dI v0.1.f_A, dI v0.1.f_B] : List D).length ≤ ([dI 0, .str [], dI 0, dI 0, dI 0] : List D).length ∧ ([[dI v0.1.f_Tag, .str v0.1.f_S, dI v0.1.f_N, dI v0.1.f_A, dI v0.1.f_B]] : List (List D)) = ([[dI v0.1.f_Tag, .str v0.1.f_S, dI v0.1.f_N, dI v0.1.f_A, dI v0.1.f_B]] : List (List D)))]) (by kernel_rfl) ⟨⟨trivial, ⟨Nat.zero_le _, Nat.le_of_ble_eq_true rfl, rfl⟩⟩, trivial⟩ ?_
      refine EvOk.ret ?_
      obtain rfl := someE h
      exact Den.Ends.mk (.inl rfl) (d := .tup [.agg [dI v0.1.f_Tag, .str v0.1.f_S, dI v0.1.f_N, dI v0.1.f_A, dI v0.1.f_B], dI v0.2]) (p := (True ∧ (True ∧ True)) ∧ ((tN 5) ∧ (True ∧ True))) (by kernel_rfl) ⟨⟨trivial, ⟨trivial, trivial⟩⟩, ⟨tNi 5, ⟨trivial, trivial⟩⟩⟩ (by kernel_rfl)
  · replace h := iteF h0 h
    refine At.adv [] [(0, { keep := some ([0, 1, 2, 6], [(6, 6)]) }), (1, { told := [(2, { ans := .val (.tup [.agg (row_T_api_Const v0.1), dI v0.2]) })], keep := some ([2, 6, 8, 9], [(6, 6), (8, 8)]) }), (2, { told := [(1, aB false)], keep := some ([6, 8, 9, 23], [(6, 6), (8, 8)]) })] 400 (ev := .cond false c38x4 c38x5 [.seq c38x6]) (σ' := mkS 27 [(6, .lptr 6 0 0), (8, .lptr 8 0 0), (9, dI v0.2), (23, .bool false)] [(6, { sz := 5, rows := [[dI 0, .str [], dI 0, dI 0, dI 0]], frz := 0, pure := false }), (8, { sz := 5, rows := [row_T_api_Const v0.1], frz := 0, pure := false })]) (q := [True ∧ (cq Try.prog (tN 2) 12 [.sl false (x0.map row_T_api_Const), dI x1] (.tup [.agg (row_T_api_Const v0.1), dI v0.2])), True ∧ (0 ≤ 0 ∧ 0 + ([dI v0.1.f_Tag, .str v0.1.f_S, dI v0.1.f_N, dI v0.1.f_A, dI v0.1.f_B] : List D).length ≤ ([dI 0, .str [], dI 0, dI 0, dI 0] : List D).length ∧ ([[dI v0.1.f_Tag, .str v0.1.f_S, dI v0.1.f_N, dI v0.1.f_A, dI v0.1.f_B]] : List (List D)) = ([[dI v0.1.f_Tag, .str v0.1.f_S, dI v0.1.f_N, dI v0.1.f_A, dI v0.1.f_B]] : List (List D))), True ∧ ((v0.2 == 0) = false), True, True, True, True]) (by kernel_rfl) ⟨⟨trivial, cqi (tNi 2) (w12 e0)⟩, ⟨trivial, ⟨Nat.zero_le _, Nat.le_of_ble_eq_true rfl, rfl⟩⟩, ⟨trivial, h0⟩, trivial, trivial, trivial, trivial, trivial⟩ ?_
    refine EvOk.cond (fun hb => Bool.noConfusion hb) (fun _ => ?_)
    refine At.gc [6, 8, 9] [(6, 6), (8, 8)] (n := 27) (l := [(6, .lptr 6 0 0), (8, .lptr 8 0 0), (9, dI v0.2)]) (bl := [(6, { sz := 5, rows := [[dI 0, .str [], dI 0, dI 0, dI 0]], frz := 0, pure := false }), (8, { sz := 5, rows := [row_T_api_Const v0.1], frz := 0, pure := false })]) (by kernel_rfl) ?_
    refine At.adv [] [(4, { keep := some ([6, 7], [(6, 6)]) })] 400 (ev := .ret) (σ' := mkS 27 [(6, .lptr 6 0 0), (7, dI v0.2)] [(6, { sz := 5, rows := [row_T_api_Const v0.1], frz := 0, pure := false })]) (q := [True ∧ (0 ≤ 0 ∧ 0 + ([dI v0.1.f_Tag, .str v0.1.f_S, dI v0.1.f_N, dI v0.1.f_A, dI v0.1.f_B] : List D).length ≤ ([dI 0, .str [], dI 0, dI 0, dI 0] : List D).length ∧ ([[dI v0.1.f_Tag, .str v0.1.f_S, dI v0.1.f_N, dI v0.1.f_A, dI v0.1.f_B]] : List (List D)) = ([[dI v0.1.f_Tag, .str v0.1.f_S, dI v0.1.f_N, dI v0.1.f_A, dI v0.1.f_B]] : List (List D)))]) (by kernel_rfl) ⟨⟨trivial, ⟨Nat.zero_le _, Nat.le_of_ble_eq_true rfl, rfl⟩⟩, trivial⟩ ?_
    refine EvOk.ret ?_
    obtain rfl := someE h
    exact Den.Ends.mk (.inl rfl) (d := .tup [.agg [dI v0.1.f_Tag, .str v0.1.f_S, dI v0.1.f_N, dI v0.1.f_A, dI v0.1.f_B], dI v0.2]) (p := (True ∧ (True ∧ True)) ∧ ((tN 5) ∧ (True ∧ True))) (by kernel_rfl) ⟨⟨trivial, ⟨trivial, trivial⟩⟩, ⟨tNi 5, ⟨trivial, trivial⟩⟩⟩ (by kernel_rfl)
theorem w38 {x0 : List T_api_Const} {x1 : Int} {x2 : Int} {r : T_api_Const × Int} (h : m_pool_tagged x0 x1 x2 = some r) : CallSpec Try.prog 38 [.sl false (x0.map row_T_api_Const), .int .i64 x1, .int .i64 x2] (.tup [.agg (row_T_api_Const r.1), .int .i64 r.2]) :=
  CallSpec.at2 b38 (n := 27) (l := [(0, .sl false (x0.map row_T_api_Const)), (1, .int .i64 x1), (2, .int .i64 x2)]) (by kernel_rfl) (by kernel_rfl) (by kernel_rfl) (by kernel_rfl) (by kernel_rfl) (Nat.le_of_ble_eq_true (by kernel_rfl)) (fun Γ => we38 x0 x1 x2 r h Γ)

/-! ### armature pool.UTF8 -/
noncomputable def b14 : Code := Try.f14.body.getD .skip
noncomputable def c14x0 : Code := sub1 b14
noncomputable def c14x1 : Code := sub1 c14x0
noncomputable def c14x2 : Code := sub0 c14x1
noncomputable def c14x3 : Code := sub1 c14x2
noncomputable def c14x4 : Code := sub0 c14x3
noncomputable def c14x5 : Code := sub1 c14x3
noncomputable def c14x6 : Code := sub1 c14x1
def m_pool_UTF8 (x0 : List T_api_Const) (x1 : Int) : Option ((List UInt8) × Int) :=
  (m_pool_tagged x0 x1 1).bind fun v0 =>
  if (v0.2 != 0) = true then
    (some ([], v0.2)) else
  (some (v0.1.f_S, 0))
theorem we14 (x0 : List T_api_Const) (x1 : Int) (r : (List UInt8) × Int) (h : m_pool_UTF8 x0 x1 = some r) (Γ : Ctx) : At Try.prog Γ b14 [] (Den.Ends Try.prog Try.f14 (.tup [.str r.1, dI r.2])) (mkS 19 [(0, .sl false (x0.map row_T_api_Const)), (1, dI x1)] []) := by
  obtain ⟨v0, e0, h⟩ := bindE h
  refine At.adv [] [(0, { keep := some ([0, 1], []) }), (1, { told := [(2, { ans := .val (.tup [.agg (row_T_api_Const v0.1), dI v0.2]) })], keep := some ([6, 7], [(6, 6)]) }), (2, { keep := some ([6, 7, 15], [(6, 6)]) })] 400 (ev := .cond (v0.2 != 0) c14x4 c14x5 [.seq c14x6]) (σ' := mkS 19 [(6, .lptr 6 0 0), (7, dI v0.2), (15, .bool (v0.2 != 0))] [(6, { sz := 5, rows := [row_T_api_Const v0.1], frz := 0, pure := false })]) (q := [True ∧ (cq Try.prog (tN 3) 38 [.sl false (x0.map row_T_api_Const), dI x1, dI 1] (.tup [.agg (row_T_api_Const v0.1), dI v0.2])), True ∧ (0 ≤ 0 ∧ 0 + ([dI v0.1.f_Tag, .str v0.1.f_S, dI v0.1.f_N, dI v0.1.f_A, dI v0.1.f_B] : List D).length ≤ ([dI 0, .str [], dI 0, dI 0, dI 0] : List D).length ∧ ([[dI v0.1.f_Tag, .str v0.1.f_S, dI v0.1.f_N, dI v0.1.f_A, dI v0.1.f_B]] : List (List D)) = ([[dI v0.1.f_Tag, .str v0.1.f_S, dI v0.1.f_N, dI v0.1.f_A, dI v0.1.f_B]] : List (List D)))]) (by kernel_rfl) ⟨⟨trivial, cqi (tNi 3) (w38 e0)⟩, ⟨trivial, ⟨Nat.zero_le _, Nat.le_of_ble_eq_true rfl, rfl⟩⟩, trivial⟩ ?_
  refine EvOk.cond (fun h0 => ?_) (fun h0 => ?_)
  · replace h := iteT h0 h
    refine At.gc [7] [] (n := 19) (l := [(7, dI v0.2)]) (bl := []) (by kernel_rfl) ?_
    refine At.adv [] [(3, { keep := some ([4, 5], []) })] 400 (ev := .ret) (σ' := mkS 19 [(4, .str []), (5, dI v0.2)] []) (q := []) (by kernel_rfl) trivial ?_
    refine EvOk.ret ?_
    obtain rfl := someE h
    exact Den.Ends.mk (.inl rfl) (d := .tup [.str [], dI v0.2]) (p := (True ∧ (True ∧ True)) ∧ (tN 2)) (by kernel_rfl) ⟨⟨trivial, ⟨trivial, trivial⟩⟩, tNi 2⟩ (by kernel_rfl)
  · replace h := iteF h0 h
    refine At.gc [6] [(6, 6)] (n := 19) (l := [(6, .lptr 6 0 0)]) (bl := [(6, { sz := 5, rows := [row_T_api_Const v0.1], frz := 0, pure := false })]) (by kernel_rfl) ?_
    refine At.adv [] [(4, { keep := some ([4, 5], []) })] 400 (ev := .ret) (σ' := mkS 19 [(4, .str v0.1.f_S), (5, dI 0)] []) (q := []) (by kernel_rfl) trivial ?_
    refine EvOk.ret ?_
    obtain rfl := someE h
    exact Den.Ends.mk (.inl rfl) (d := .tup [.str v0.1.f_S, dI 0]) (p := (True ∧ (True ∧ True)) ∧ (tN 2)) (by kernel_rfl) ⟨⟨trivial, ⟨trivial, trivial⟩⟩, tNi 2⟩ (by kernel_rfl)
theorem w14 {x0 : List T_api_Const} {x1 : Int} {r : (List UInt8) × Int} (h : m_pool_UTF8 x0 x1 = some r) : CallSpec Try.prog 14 [.sl false (x0.map row_T_api_Const), .int .i64 x1] (.tup [.str r.1, .int .i64 r.2]) :=
  CallSpec.at2 b14 (n := 19) (l := [(0, .sl false (x0.map row_T_api_Const)), (1, .int .i64 x1)]) (by kernel_rfl) (by kernel_rfl) (by kernel_rfl) (by kernel_rfl) (by kernel_rfl) (Nat.le_of_ble_eq_true (by kernel_rfl)) (fun Γ => we14 x0 x1 r h Γ)

/-! ### armature name.class -/
noncomputable def b72 : Code := Try.f72.body.getD .skip
noncomputable def c72x0 : Code := sub1 b72
noncomputable def c72x1 : Code := sub0 c72x0
noncomputable def c72x2 : Code := sub0 c72x1
noncomputable def c72x3 : Code := sub1 c72x2
noncomputable def c72x4 : Code := sub0 c72x3
noncomputable def c72x5 : Code := sub1 c72x3
noncomputable def c72x6 : Code := sub1 c72x0
noncomputable def c72x7 : Code := sub0 c72x2
noncomputable def c72x8 : Code := sub1 c72x7
noncomputable def c72x9 : Code := sub1 c72x8
noncomputable def c72x10 : Code := sub0 c72x9
noncomputable def c72x11 : Code := sub1 c72x9
noncomputable def c72x12 : Code := sub0 c72x8
noncomputable def c72x13 : Code := sub1 c72x11
noncomputable def c72x14 : Code := sub0 c72x13
noncomputable def c72x15 : Code := sub1 c72x13
noncomputable def c72x16 : Code := sub0 c72x11
noncomputable def c72x17 : Code := sub0 c72x15
noncomputable def c72x18 : Code := sub1 c72x15
noncomputable def c72x19 : Code := sub0 c72x5
noncomputable def c72x20 : Code := sub1 c72x5
noncomputable def c72x21 : Code := sub0 c72x20
noncomputable def c72x22 : Code := sub1 c72x20
def j72x4 (x0 : Int) : Option (Int) :=
  if (decide ((48 : Int) ≤ x0)) = true then (if (decide (x0 ≤ 57)) = true then
    (some 2) else
  (some 0)) else
  (some 0)
def j72x3 (x0 : Int) : Option (Int) :=
  if (x0 == 36) = true then
    (some 1) else
  ((j72x4 x0) )
def j72x2 (x0 : Int) : Option (Int) :=
  if (x0 == 95) = true then
    (some 1) else
  ((j72x3 x0) )
def j72x1 (x0 : Int) : Option (Int) :=
  if (decide ((65 : Int) ≤ x0)) = true then (if (decide (x0 ≤ 90)) = true then
    (some 1) else
  ((j72x2 x0) )) else
  ((j72x2 x0) )
def m_name_class (x0 : Int) : Option (Int) :=
  if (decide ((97 : Int) ≤ x0)) = true then (if (decide (x0 ≤ 122)) = true then
    (some 1) else
  ((j72x1 x0) )) else
  ((j72x1 x0) )
theorem wj72x4 (x0 : Int) (r : Int) (h : (j72x4 x0)  = some r) (Γ : Ctx) : EvOk Try.prog Γ (Den.Ends Try.prog Try.f72 (dI r)) (mkS 27 [(0, d8 x0)] []) (.stop c72x19 [.seq c72x20, .blk 0, .seq c72x6]) := by
  refine EvOk.stop ?_
  rcases Bool.eq_false_or_eq_true (decide ((48 : Int) ≤ x0)) with h6 | h6
  · replace h := iteT h6 h
    refine At.adv [] [(6, { told := [(1, aB true)], keep := some ([20], []) })] 400 (ev := .cond (decide (x0 ≤ 57)) c72x21 c72x22 [.blk 0, .seq c72x6]) (σ' := mkS 27 [(20, .bool (decide (x0 ≤ 57)))] []) (q := [True ∧ ((decide ((48 : Int) ≤ x0)) = true), True ∧ True, True ∧ True]) (by kernel_rfl) ⟨⟨trivial, h6⟩, ⟨trivial, trivial⟩, ⟨trivial, trivial⟩, trivial⟩ ?_
    refine EvOk.cond (fun h7 => ?_) (fun h7 => ?_)
    · replace h := iteT h7 h
      refine At.gc [] [] (n := 27) (l := []) (bl := []) (by kernel_rfl) ?_
      refine At.adv [] [(7, { keep := some ([2], []) })] 400 (ev := .ret) (σ' := mkS 27 [(2, dI 2)] []) (q := []) (by kernel_rfl) trivial ?_
      refine EvOk.ret ?_
      obtain rfl := someE h
      exact Den.Ends.mk (.inl rfl) (d := dI 2) (p := (True ∧ True) ∧ (tN 1)) (by kernel_rfl) ⟨⟨trivial, trivial⟩, tNi 1⟩ (by kernel_rfl)
    · replace h := iteF h7 h
      refine At.gc [] [] (n := 27) (l := []) (bl := []) (by kernel_rfl) ?_
      refine At.adv [] [(8, { keep := some ([2], []) })] 400 (ev := .ret) (σ' := mkS 27 [(2, dI 0)] []) (q := []) (by kernel_rfl) trivial ?_
      refine EvOk.ret ?_
      obtain rfl := someE h
      exact Den.Ends.mk (.inl rfl) (d := dI 0) (p := (True ∧ True) ∧ (tN 1)) (by kernel_rfl) ⟨⟨trivial, trivial⟩, tNi 1⟩ (by kernel_rfl)
  · replace h := iteF h6 h
    refine At.adv [] [(6, { told := [(1, aB false)], keep := some ([20], []) })] 400 (ev := .cond false c72x21 c72x22 [.blk 0, .seq c72x6]) (σ' := mkS 27 [(20, .bool false)] []) (q := [True ∧ ((decide ((48 : Int) ≤ x0)) = false), True, True]) (by kernel_rfl) ⟨⟨trivial, h6⟩, trivial, trivial, trivial⟩ ?_
    refine EvOk.cond (fun hb => Bool.noConfusion hb) (fun _ => ?_)
    refine At.gc [] [] (n := 27) (l := []) (bl := []) (by kernel_rfl) ?_
    refine At.adv [] [(8, { keep := some ([2], []) })] 400 (ev := .ret) (σ' := mkS 27 [(2, dI 0)] []) (q := []) (by kernel_rfl) trivial ?_
    refine EvOk.ret ?_
    obtain rfl := someE h
    exact Den.Ends.mk (.inl rfl) (d := dI 0) (p := (True ∧ True) ∧ (tN 1)) (by kernel_rfl) ⟨⟨trivial, trivial⟩, tNi 1⟩ (by kernel_rfl)
theorem wj72x3 (x0 : Int) (r : Int) (h : (j72x3 x0)  = some r) (Γ : Ctx) : EvOk Try.prog Γ (Den.Ends Try.prog Try.f72 (dI r)) (mkS 27 [(0, d8 x0), (3, .bool (x0 == 36))] []) (.cond (x0 == 36) c72x4 c72x5 [.blk 0, .seq c72x6]) := by
  refine EvOk.cond (fun h5 => ?_) (fun h5 => ?_)
  · replace h := iteT h5 h
    refine At.gc [] [] (n := 27) (l := []) (bl := []) (by kernel_rfl) ?_
    refine At.adv [] [(5, { keep := some ([2], []) })] 400 (ev := .ret) (σ' := mkS 27 [(2, dI 1)] []) (q := []) (by kernel_rfl) trivial ?_
    refine EvOk.ret ?_
    obtain rfl := someE h
    exact Den.Ends.mk (.inl rfl) (d := dI 1) (p := (True ∧ True) ∧ (tN 1)) (by kernel_rfl) ⟨⟨trivial, trivial⟩, tNi 1⟩ (by kernel_rfl)
  · replace h := iteF h5 h
    refine At.gc [0] [] (n := 27) (l := [(0, d8 x0)]) (bl := []) (by kernel_rfl) ?_
    refine At.adv [6] [] 400 (ev := .stop c72x19 [.seq c72x20, .blk 0, .seq c72x6]) (σ' := mkS 27 [(0, d8 x0)] []) (q := []) (by kernel_rfl) trivial ?_
    exact (wj72x4 x0)  r h Γ
theorem wj72x2 (x0 : Int) (r : Int) (h : (j72x2 x0)  = some r) (Γ : Ctx) : EvOk Try.prog Γ (Den.Ends Try.prog Try.f72 (dI r)) (mkS 27 [(0, d8 x0)] []) (.stop c72x14 [.seq c72x15, .seq c72x3, .blk 0, .seq c72x6]) := by
  refine EvOk.stop ?_
  refine At.adv [] [(3, { keep := some ([0, 3], []) })] 400 (ev := .cond (x0 == 95) c72x17 c72x18 [.seq c72x3, .blk 0, .seq c72x6]) (σ' := mkS 27 [(0, d8 x0), (3, .bool (x0 == 95))] []) (q := []) (by kernel_rfl) trivial ?_
  refine EvOk.cond (fun h4 => ?_) (fun h4 => ?_)
  · replace h := iteT h4 h
    refine At.adv [] [] 400 (ev := .cond (x0 == 95) c72x4 c72x5 [.blk 0, .seq c72x6]) (σ' := mkS 27 [(0, d8 x0), (3, .bool (x0 == 95))] []) (q := []) (by kernel_rfl) trivial ?_
    refine EvOk.cond (fun _ => ?_) (fun hb => Bool.noConfusion (h4.symm.trans hb))
    refine At.gc [] [] (n := 27) (l := []) (bl := []) (by kernel_rfl) ?_
    refine At.adv [] [(5, { keep := some ([2], []) })] 400 (ev := .ret) (σ' := mkS 27 [(2, dI 1)] []) (q := []) (by kernel_rfl) trivial ?_
    refine EvOk.ret ?_
    obtain rfl := someE h
    exact Den.Ends.mk (.inl rfl) (d := dI 1) (p := (True ∧ True) ∧ (tN 1)) (by kernel_rfl) ⟨⟨trivial, trivial⟩, tNi 1⟩ (by kernel_rfl)
  · replace h := iteF h4 h
    refine At.gc [0] [] (n := 27) (l := [(0, d8 x0)]) (bl := []) (by kernel_rfl) ?_
    refine At.adv [] [(4, { keep := some ([0, 3], []) })] 400 (ev := .cond (x0 == 36) c72x4 c72x5 [.blk 0, .seq c72x6]) (σ' := mkS 27 [(0, d8 x0), (3, .bool (x0 == 36))] []) (q := []) (by kernel_rfl) trivial ?_
    exact (wj72x3 x0)  r h Γ
theorem wj72x1 (x0 : Int) (r : Int) (h : (j72x1 x0)  = some r) (Γ : Ctx) : EvOk Try.prog Γ (Den.Ends Try.prog Try.f72 (dI r)) (mkS 27 [(0, d8 x0)] []) (.stop c72x10 [.seq c72x11, .seq c72x3, .blk 0, .seq c72x6]) := by
  refine EvOk.stop ?_
  rcases Bool.eq_false_or_eq_true (decide ((65 : Int) ≤ x0)) with h2 | h2
  · replace h := iteT h2 h
    refine At.adv [] [(2, { told := [(1, aB true)], keep := some ([0, 3], []) })] 400 (ev := .cond (decide (x0 ≤ 90)) c72x16 c72x13 [.seq c72x3, .blk 0, .seq c72x6]) (σ' := mkS 27 [(0, d8 x0), (3, .bool (decide (x0 ≤ 90)))] []) (q := [True ∧ ((decide ((65 : Int) ≤ x0)) = true), True ∧ True, True ∧ True]) (by kernel_rfl) ⟨⟨trivial, h2⟩, ⟨trivial, trivial⟩, ⟨trivial, trivial⟩, trivial⟩ ?_
    refine EvOk.cond (fun h3 => ?_) (fun h3 => ?_)
    · replace h := iteT h3 h
      refine At.adv [] [] 400 (ev := .cond (decide (x0 ≤ 90)) c72x4 c72x5 [.blk 0, .seq c72x6]) (σ' := mkS 27 [(0, d8 x0), (3, .bool (decide (x0 ≤ 90)))] []) (q := []) (by kernel_rfl) trivial ?_
      refine EvOk.cond (fun _ => ?_) (fun hb => Bool.noConfusion (h3.symm.trans hb))
      refine At.gc [] [] (n := 27) (l := []) (bl := []) (by kernel_rfl) ?_
      refine At.adv [] [(5, { keep := some ([2], []) })] 400 (ev := .ret) (σ' := mkS 27 [(2, dI 1)] []) (q := []) (by kernel_rfl) trivial ?_
      refine EvOk.ret ?_
      obtain rfl := someE h
      exact Den.Ends.mk (.inl rfl) (d := dI 1) (p := (True ∧ True) ∧ (tN 1)) (by kernel_rfl) ⟨⟨trivial, trivial⟩, tNi 1⟩ (by kernel_rfl)
    · replace h := iteF h3 h
      refine At.gc [0] [] (n := 27) (l := [(0, d8 x0)]) (bl := []) (by kernel_rfl) ?_
      refine At.adv [3] [] 400 (ev := .stop c72x14 [.seq c72x15, .seq c72x3, .blk 0, .seq c72x6]) (σ' := mkS 27 [(0, d8 x0)] []) (q := []) (by kernel_rfl) trivial ?_
      exact (wj72x2 x0)  r h Γ
  · replace h := iteF h2 h
    refine At.adv [] [(2, { told := [(1, aB false)], keep := some ([0, 3], []) })] 400 (ev := .cond false c72x16 c72x13 [.seq c72x3, .blk 0, .seq c72x6]) (σ' := mkS 27 [(0, d8 x0), (3, .bool false)] []) (q := [True ∧ ((decide ((65 : Int) ≤ x0)) = false), True, True]) (by kernel_rfl) ⟨⟨trivial, h2⟩, trivial, trivial, trivial⟩ ?_
    refine EvOk.cond (fun hb => Bool.noConfusion hb) (fun _ => ?_)
    refine At.gc [0] [] (n := 27) (l := [(0, d8 x0)]) (bl := []) (by kernel_rfl) ?_
    refine At.adv [3] [] 400 (ev := .stop c72x14 [.seq c72x15, .seq c72x3, .blk 0, .seq c72x6]) (σ' := mkS 27 [(0, d8 x0)] []) (q := []) (by kernel_rfl) trivial ?_
    exact (wj72x2 x0)  r h Γ
theorem we72 (x0 : Int) (r : Int) (h : m_name_class x0 = some r) (Γ : Ctx) : At Try.prog Γ b72 [] (Den.Ends Try.prog Try.f72 (dI r)) (mkS 27 [(0, d8 x0)] []) := by
  rcases Bool.eq_false_or_eq_true (decide ((97 : Int) ≤ x0)) with h0 | h0
  · replace h := iteT h0 h
    refine At.adv [] [(0, { keep := some ([0], []) }), (1, { told := [(1, aB true)], keep := some ([0, 3], []) })] 400 (ev := .cond (decide (x0 ≤ 122)) c72x12 c72x9 [.seq c72x3, .blk 0, .seq c72x6]) (σ' := mkS 27 [(0, d8 x0), (3, .bool (decide (x0 ≤ 122)))] []) (q := [True ∧ ((decide ((97 : Int) ≤ x0)) = true), True ∧ True, True ∧ True]) (by kernel_rfl) ⟨⟨trivial, h0⟩, ⟨trivial, trivial⟩, ⟨trivial, trivial⟩, trivial⟩ ?_
    refine EvOk.cond (fun h1 => ?_) (fun h1 => ?_)
    · replace h := iteT h1 h
      refine At.adv [] [] 400 (ev := .cond (decide (x0 ≤ 122)) c72x4 c72x5 [.blk 0, .seq c72x6]) (σ' := mkS 27 [(0, d8 x0), (3, .bool (decide (x0 ≤ 122)))] []) (q := []) (by kernel_rfl) trivial ?_
      refine EvOk.cond (fun _ => ?_) (fun hb => Bool.noConfusion (h1.symm.trans hb))
      refine At.gc [] [] (n := 27) (l := []) (bl := []) (by kernel_rfl) ?_
      refine At.adv [] [(5, { keep := some ([2], []) })] 400 (ev := .ret) (σ' := mkS 27 [(2, dI 1)] []) (q := []) (by kernel_rfl) trivial ?_
      refine EvOk.ret ?_
      obtain rfl := someE h
      exact Den.Ends.mk (.inl rfl) (d := dI 1) (p := (True ∧ True) ∧ (tN 1)) (by kernel_rfl) ⟨⟨trivial, trivial⟩, tNi 1⟩ (by kernel_rfl)
    · replace h := iteF h1 h
      refine At.gc [0] [] (n := 27) (l := [(0, d8 x0)]) (bl := []) (by kernel_rfl) ?_
      refine At.adv [2] [] 400 (ev := .stop c72x10 [.seq c72x11, .seq c72x3, .blk 0, .seq c72x6]) (σ' := mkS 27 [(0, d8 x0)] []) (q := []) (by kernel_rfl) trivial ?_
      exact (wj72x1 x0)  r h Γ
  · replace h := iteF h0 h
    refine At.adv [] [(0, { keep := some ([0], []) }), (1, { told := [(1, aB false)], keep := some ([0, 3], []) })] 400 (ev := .cond false c72x12 c72x9 [.seq c72x3, .blk 0, .seq c72x6]) (σ' := mkS 27 [(0, d8 x0), (3, .bool false)] []) (q := [True ∧ ((decide ((97 : Int) ≤ x0)) = false), True, True]) (by kernel_rfl) ⟨⟨trivial, h0⟩, trivial, trivial, trivial⟩ ?_
    refine EvOk.cond (fun hb => Bool.noConfusion hb) (fun _ => ?_)
    refine At.gc [0] [] (n := 27) (l := [(0, d8 x0)]) (bl := []) (by kernel_rfl) ?_
    refine At.adv [2] [] 400 (ev := .stop c72x10 [.seq c72x11, .seq c72x3, .blk 0, .seq c72x6]) (σ' := mkS 27 [(0, d8 x0)] []) (q := []) (by kernel_rfl) trivial ?_
    exact (wj72x1 x0)  r h Γ
theorem w72 {x0 : Int} {r : Int} (h : m_name_class x0 = some r) : CallSpec Try.prog 72 [.int .u8 x0] (.int .i64 r) :=
  CallSpec.at2 b72 (n := 27) (l := [(0, .int .u8 x0)]) (by kernel_rfl) (by kernel_rfl) (by kernel_rfl) (by kernel_rfl) (by kernel_rfl) (Nat.le_of_ble_eq_true (by kernel_rfl)) (fun Γ => we72 x0 r h Γ)

/-! ### armature name.IsClassName -/
noncomputable def b64 : Code := Try.f64.body.getD .skip
noncomputable def c64x0 : Code := sub1 b64
noncomputable def c64x1 : Code := sub0 c64x0
noncomputable def c64x2 : Code := sub1 c64x1
noncomputable def c64x3 : Code := sub0 c64x2
noncomputable def c64x4 : Code := sub1 c64x2
noncomputable def c64x5 : Code := sub1 c64x0
noncomputable def c64x6 : Code := sub0 c64x5
noncomputable def c64x7 : Code := sub1 c64x5
noncomputable def c64x8 : Code := sub0 c64x7
noncomputable def c64x9 : Code := sub1 c64x8
noncomputable def c64x10 : Code := sub0 c64x9
noncomputable def c64x11 : Code := sub0 c64x10
noncomputable def c64x12 : Code := sub1 c64x11
noncomputable def c64x13 : Code := sub1 c64x12
noncomputable def c64x14 : Code := sub0 c64x13
noncomputable def c64x15 : Code := sub0 c64x14
noncomputable def c64x16 : Code := sub1 c64x15
noncomputable def c64x17 : Code := sub1 c64x16
noncomputable def c64x18 : Code := sub0 c64x17
noncomputable def c64x19 : Code := sub1 c64x18
noncomputable def c64x20 : Code := sub1 c64x19
noncomputable def c64x21 : Code := sub0 c64x20
noncomputable def c64x22 : Code := sub0 c64x21
noncomputable def c64x23 : Code := sub1 c64x21
noncomputable def c64x24 : Code := sub1 c64x20
noncomputable def c64x25 : Code := sub1 c64x13
noncomputable def c64x26 : Code := sub0 c64x19
noncomputable def c64x27 : Code := sub0 c64x12
noncomputable def c64x28 : Code := sub0 c64x27
noncomputable def c64x29 : Code := sub1 c64x27
noncomputable def c64x30 : Code := sub0 c64x24
noncomputable def c64x31 : Code := sub1 c64x24
noncomputable def c64x32 : Code := sub0 c64x23
noncomputable def c64x33 : Code := sub1 c64x23
noncomputable def c64x34 : Code := sub1 c64x7
def j64x5 (t0 : Bool × Int) : Option (Ctl (Bool × Int) (Bool ⊕ Bool)) :=
  (some (IntKind.wrap .i64 (t0.2 + (1 : Int)))).bind fun v7 =>
  some (.next (true, v7))
def j64x4 (t0 : Bool × Int) : Option (Ctl (Bool × Int) (Bool ⊕ Bool)) :=
  (some (IntKind.wrap .i64 (t0.2 + (1 : Int)))).bind fun v6 =>
  some (.next (false, v6))
def j64x3 (t0 : Bool × Int) : Option (Ctl (Bool × Int) (Bool ⊕ Bool)) :=
  if (!t0.1) = true then
    ((j64x4 t0) ) else
  (some (.done (.inr false)))
def j64x2 (t0 : Bool × Int) (v4 : Int) : Option (Ctl (Bool × Int) (Bool ⊕ Bool)) :=
  if (v4 == 1) = true then
    ((j64x4 t0) ) else
  (if (v4 == 2) = true then ((j64x3 t0) ) else
    (some (.done (.inr false))))
def l64x1 (x0 : List UInt8) (t0 : Bool × Int) : Option (Ctl (Bool × Int) (Bool ⊕ Bool)) :=
  if (decide (t0.2 < (x0.length : Int))) = true then
    ((getS x0 t0.2).bind fun v3 =>
    (m_name_class v3).bind fun v4 =>
    (getS x0 t0.2).bind fun v5 =>
    if (v5 == 47) = true then (if (!t0.1) = true then
      ((j64x5 t0) ) else
    ((j64x2 t0 v4) )) else
    ((j64x2 t0 v4) )) else
  (some (.done (.inl (t0.1))))
def j64x1 (x0 : List UInt8) : Option (Bool) :=
  (loopM (l64x1 x0) rounds (true, 0)).bind fun q1 =>
  match q1 with
  | .inl q0 => (some (!q0))
  | .inr y0 => (some y0)
def m_name_IsClassName (x0 : List UInt8) : Option (Bool) :=
  if (x0 == ([] : List UInt8)) = true then (some false) else
  (if (decide ((x0.length : Int) > 64)) = true then
    (some false) else
  ((j64x1 x0) ))
def st64x1 (x0 : List UInt8) : (Bool × Int) → S :=
  fun t0 => mkS 43 [(0, .str x0), (3, .bool t0.1), (14, .int .i64 (x0.length : Int)), (15, .int .i64 t0.2)] []
noncomputable def J64x1  : (Bool ⊕ Bool) → Exit → S → Prop :=
  JSum (JExit 0 (fun q0 : Bool => mkS 43 [(3, .bool q0)] [])) (JRet Try.prog Try.f64 (fun y : Bool => .bool y))
theorem wj64x5 (t0 : Bool × Int) (x0 : List UInt8) (r : Ctl (Bool × Int) (Bool ⊕ Bool)) (h : (j64x5 t0)  = some r) (Γ : Ctx) : EvOk Try.prog Γ (Round (st64x1 x0) J64x1 r) (mkS 43 [(0, .str x0), (14, dI (x0.length : Int)), (15, dI t0.2)] []) (.stop c64x26 [.blk 2, .blk 1, .seq c64x25]) := by
  refine EvOk.stop ?_
  obtain ⟨v7, e7, h⟩ := bindE h
  refine At.adv [] [(10, { keep := some ([0, 3, 14, 15], []) }), (14, { told := [(0, aI v7)], keep := some ([0, 3, 14, 15], []) })] 400 (ev := .normal) (σ' := mkS 43 [(0, .str x0), (3, .bool true), (14, dI (x0.length : Int)), (15, dI v7)] []) (q := [True ∧ (IntKind.wrap .i64 (t0.2 + (1 : Int)) = v7)]) (by kernel_rfl) ⟨⟨trivial, someE e7⟩, trivial⟩ ?_
  refine EvOk.normal ?_
  obtain rfl := someE h
  exact Round.next (by kernel_rfl)
theorem wj64x4 (t0 : Bool × Int) (x0 : List UInt8) (r : Ctl (Bool × Int) (Bool ⊕ Bool)) (h : (j64x4 t0)  = some r) (Γ : Ctx) : EvOk Try.prog Γ (Round (st64x1 x0) J64x1 r) (mkS 43 [(0, .str x0), (14, dI (x0.length : Int)), (15, dI t0.2)] []) (.stop c64x30 [.blk 2, .blk 1, .seq c64x25]) := by
  refine EvOk.stop ?_
  obtain ⟨v6, e6, h⟩ := bindE h
  refine At.adv [] [(13, { keep := some ([0, 3, 14, 15], []) }), (14, { told := [(0, aI v6)], keep := some ([0, 3, 14, 15], []) })] 400 (ev := .normal) (σ' := mkS 43 [(0, .str x0), (3, .bool false), (14, dI (x0.length : Int)), (15, dI v6)] []) (q := [True ∧ (IntKind.wrap .i64 (t0.2 + (1 : Int)) = v6)]) (by kernel_rfl) ⟨⟨trivial, someE e6⟩, trivial⟩ ?_
  refine EvOk.normal ?_
  obtain rfl := someE h
  exact Round.next (by kernel_rfl)
theorem wj64x3 (t0 : Bool × Int) (x0 : List UInt8) (r : Ctl (Bool × Int) (Bool ⊕ Bool)) (h : (j64x3 t0)  = some r) (Γ : Ctx) : EvOk Try.prog Γ (Round (st64x1 x0) J64x1 r) (mkS 43 [(0, .str x0), (14, dI (x0.length : Int)), (15, dI t0.2), (31, .bool (!t0.1))] []) (.cond (!t0.1) c64x30 c64x31 [.blk 2, .blk 1, .seq c64x25]) := by
  refine EvOk.cond (fun h11 => ?_) (fun h11 => ?_)
  · replace h := iteT h11 h
    refine At.gc [0, 14, 15] [] (n := 43) (l := [(0, .str x0), (14, dI (x0.length : Int)), (15, dI t0.2)]) (bl := []) (by kernel_rfl) ?_
    refine At.adv [13] [] 400 (ev := .stop c64x30 [.blk 2, .blk 1, .seq c64x25]) (σ' := mkS 43 [(0, .str x0), (14, dI (x0.length : Int)), (15, dI t0.2)] []) (q := []) (by kernel_rfl) trivial ?_
    exact (wj64x4 t0 x0)  r h Γ
  · replace h := iteF h11 h
    refine At.gc [] [] (n := 43) (l := []) (bl := []) (by kernel_rfl) ?_
    refine At.adv [] [(8, { keep := some ([2], []) })] 400 (ev := .ret) (σ' := mkS 43 [(2, .bool false)] []) (q := []) (by kernel_rfl) trivial ?_
    refine EvOk.ret ?_
    obtain rfl := someE h
    exact Round.done neRet ⟨rfl, Den.Ends.mk (.inl rfl) (d := .bool false) (p := (True ∧ True) ∧ (tN 1)) (by kernel_rfl) ⟨⟨trivial, trivial⟩, tNi 1⟩ (by kernel_rfl)⟩
theorem wj64x2 (t0 : Bool × Int) (v4 : Int) (x0 : List UInt8) (r : Ctl (Bool × Int) (Bool ⊕ Bool)) (h : (j64x2 t0 v4)  = some r) (Γ : Ctx) : EvOk Try.prog Γ (Round (st64x1 x0) J64x1 r) (mkS 43 [(0, .str x0), (3, .bool t0.1), (5, dI v4), (14, dI (x0.length : Int)), (15, dI t0.2)] []) (.stop c64x22 [.seq c64x23, .seq c64x24, .blk 2, .blk 1, .seq c64x25]) := by
  refine EvOk.stop ?_
  refine At.adv [] [(11, { keep := some ([0, 3, 5, 14, 15, 31], []) })] 400 (ev := .cond (v4 == 1) c64x32 c64x33 [.seq c64x24, .blk 2, .blk 1, .seq c64x25]) (σ' := mkS 43 [(0, .str x0), (3, .bool t0.1), (5, dI v4), (14, dI (x0.length : Int)), (15, dI t0.2), (31, .bool (v4 == 1))] []) (q := []) (by kernel_rfl) trivial ?_
  refine EvOk.cond (fun h9 => ?_) (fun h9 => ?_)
  · replace h := iteT h9 h
    refine At.gc [0, 14, 15, 31] [] (n := 43) (l := [(0, .str x0), (14, dI (x0.length : Int)), (15, dI t0.2), (31, .bool (v4 == 1))]) (bl := []) (by kernel_rfl) ?_
    refine At.adv [] [] 400 (ev := .cond (v4 == 1) c64x30 c64x31 [.blk 2, .blk 1, .seq c64x25]) (σ' := mkS 43 [(0, .str x0), (14, dI (x0.length : Int)), (15, dI t0.2), (31, .bool (v4 == 1))] []) (q := []) (by kernel_rfl) trivial ?_
    refine EvOk.cond (fun _ => ?_) (fun hb => Bool.noConfusion (h9.symm.trans hb))
    refine At.gc [0, 14, 15] [] (n := 43) (l := [(0, .str x0), (14, dI (x0.length : Int)), (15, dI t0.2)]) (bl := []) (by kernel_rfl) ?_
    refine At.adv [13] [] 400 (ev := .stop c64x30 [.blk 2, .blk 1, .seq c64x25]) (σ' := mkS 43 [(0, .str x0), (14, dI (x0.length : Int)), (15, dI t0.2)] []) (q := []) (by kernel_rfl) trivial ?_
    exact (wj64x4 t0 x0)  r h Γ
  · replace h := iteF h9 h
    refine At.gc [0, 3, 5, 14, 15] [] (n := 43) (l := [(0, .str x0), (3, .bool t0.1), (5, dI v4), (14, dI (x0.length : Int)), (15, dI t0.2)]) (bl := []) (by kernel_rfl) ?_
    rcases Bool.eq_false_or_eq_true (v4 == 2) with h10 | h10
    · replace h := iteT h10 h
      refine At.adv [] [(12, { told := [(1, aB true)], keep := some ([0, 14, 15, 31], []) })] 400 (ev := .cond (!t0.1) c64x30 c64x31 [.blk 2, .blk 1, .seq c64x25]) (σ' := mkS 43 [(0, .str x0), (14, dI (x0.length : Int)), (15, dI t0.2), (31, .bool (!t0.1))] []) (q := [True ∧ ((v4 == 2) = true), True ∧ True, True ∧ True]) (by kernel_rfl) ⟨⟨trivial, h10⟩, ⟨trivial, trivial⟩, ⟨trivial, trivial⟩, trivial⟩ ?_
      exact (wj64x3 t0 x0)  r h Γ
    · replace h := iteF h10 h
      refine At.adv [] [(12, { told := [(1, aB false)], keep := some ([0, 14, 15, 31], []) })] 400 (ev := .cond false c64x30 c64x31 [.blk 2, .blk 1, .seq c64x25]) (σ' := mkS 43 [(0, .str x0), (14, dI (x0.length : Int)), (15, dI t0.2), (31, .bool false)] []) (q := [True ∧ ((v4 == 2) = false), True, True]) (by kernel_rfl) ⟨⟨trivial, h10⟩, trivial, trivial, trivial⟩ ?_
      refine EvOk.cond (fun hb => Bool.noConfusion hb) (fun _ => ?_)
      refine At.gc [] [] (n := 43) (l := []) (bl := []) (by kernel_rfl) ?_
      refine At.adv [] [(8, { keep := some ([2], []) })] 400 (ev := .ret) (σ' := mkS 43 [(2, .bool false)] []) (q := []) (by kernel_rfl) trivial ?_
      refine EvOk.ret ?_
      obtain rfl := someE h
      exact Round.done neRet ⟨rfl, Den.Ends.mk (.inl rfl) (d := .bool false) (p := (True ∧ True) ∧ (tN 1)) (by kernel_rfl) ⟨⟨trivial, trivial⟩, tNi 1⟩ (by kernel_rfl)⟩
theorem wl64x1 (x0 : List UInt8) (t0 : Bool × Int) (r : Ctl (Bool × Int) (Bool ⊕ Bool)) (h : (l64x1 x0) t0 = some r) (Γ : Ctx) : At Try.prog Γ c64x11 [] (Round (st64x1 x0) J64x1 r) ((st64x1 x0) t0) := by
  refine At.adv [] [(5, { keep := some ([0, 3, 14, 15, 16], []) })] 400 (ev := .cond (decide (t0.2 < (x0.length : Int))) c64x28 c64x29 [.seq c64x13]) (σ' := mkS 43 [(0, .str x0), (3, .bool t0.1), (14, dI (x0.length : Int)), (15, dI t0.2), (16, .bool (decide (t0.2 < (x0.length : Int))))] []) (q := []) (by kernel_rfl) trivial ?_
  refine EvOk.cond (fun h6 => ?_) (fun h6 => ?_)
  · replace h := iteT h6 h
    refine At.gc [0, 3, 14, 15] [] (n := 43) (l := [(0, .str x0), (3, .bool t0.1), (14, dI (x0.length : Int)), (15, dI t0.2)]) (bl := []) (by kernel_rfl) ?_
    obtain ⟨v3, e3, h⟩ := bindE h
    obtain ⟨v4, e4, h⟩ := bindE h
    obtain ⟨v5, e5, h⟩ := bindE h
    rcases Bool.eq_false_or_eq_true (v5 == 47) with h7 | h7
    · replace h := iteT h7 h
      refine At.adv [] [(6, { keep := some ([0, 3, 4, 14, 15], []) }), (7, { told := [(2, a8 v3), (3, aI v4)], keep := some ([0, 3, 4, 5, 14, 15], []) }), (9, { told := [(2, a8 v5), (3, aB true)], keep := some ([0, 3, 5, 14, 15, 22], []) })] 400 (ev := .cond (!t0.1) c64x26 c64x20 [.blk 2, .blk 1, .seq c64x25]) (σ' := mkS 43 [(0, .str x0), (3, .bool t0.1), (5, dI v4), (14, dI (x0.length : Int)), (15, dI t0.2), (22, .bool (!t0.1))] []) (q := [True ∧ (getS x0 t0.2 = some v3), True ∧ (cq Try.prog (tN 1) 72 [d8 v3] (dI v4)), True ∧ (getS x0 t0.2 = some v5), True ∧ ((v5 == 47) = true), True ∧ True, True ∧ True]) (by kernel_rfl) ⟨⟨trivial, e3⟩, ⟨trivial, cqi (tNi 1) (w72 e4)⟩, ⟨trivial, e5⟩, ⟨trivial, h7⟩, ⟨trivial, trivial⟩, ⟨trivial, trivial⟩, trivial⟩ ?_
      refine EvOk.cond (fun h8 => ?_) (fun h8 => ?_)
      · replace h := iteT h8 h
        refine At.gc [0, 14, 15] [] (n := 43) (l := [(0, .str x0), (14, dI (x0.length : Int)), (15, dI t0.2)]) (bl := []) (by kernel_rfl) ?_
        refine At.adv [10] [] 400 (ev := .stop c64x26 [.blk 2, .blk 1, .seq c64x25]) (σ' := mkS 43 [(0, .str x0), (14, dI (x0.length : Int)), (15, dI t0.2)] []) (q := []) (by kernel_rfl) trivial ?_
        exact (wj64x5 t0 x0)  r h Γ
      · replace h := iteF h8 h
        refine At.gc [0, 3, 5, 14, 15] [] (n := 43) (l := [(0, .str x0), (3, .bool t0.1), (5, dI v4), (14, dI (x0.length : Int)), (15, dI t0.2)]) (bl := []) (by kernel_rfl) ?_
        refine At.adv [11] [] 400 (ev := .stop c64x22 [.seq c64x23, .seq c64x24, .blk 2, .blk 1, .seq c64x25]) (σ' := mkS 43 [(0, .str x0), (3, .bool t0.1), (5, dI v4), (14, dI (x0.length : Int)), (15, dI t0.2)] []) (q := []) (by kernel_rfl) trivial ?_
        exact (wj64x2 t0 v4 x0)  r h Γ
    · replace h := iteF h7 h
      refine At.adv [] [(6, { keep := some ([0, 3, 4, 14, 15], []) }), (7, { told := [(2, a8 v3), (3, aI v4)], keep := some ([0, 3, 4, 5, 14, 15], []) }), (9, { told := [(2, a8 v5), (3, aB false)], keep := some ([0, 3, 5, 14, 15, 22], []) })] 400 (ev := .cond false c64x26 c64x20 [.blk 2, .blk 1, .seq c64x25]) (σ' := mkS 43 [(0, .str x0), (3, .bool t0.1), (5, dI v4), (14, dI (x0.length : Int)), (15, dI t0.2), (22, .bool false)] []) (q := [True ∧ (getS x0 t0.2 = some v3), True ∧ (cq Try.prog (tN 1) 72 [d8 v3] (dI v4)), True ∧ (getS x0 t0.2 = some v5), True ∧ ((v5 == 47) = false), True, True]) (by kernel_rfl) ⟨⟨trivial, e3⟩, ⟨trivial, cqi (tNi 1) (w72 e4)⟩, ⟨trivial, e5⟩, ⟨trivial, h7⟩, trivial, trivial, trivial⟩ ?_
      refine EvOk.cond (fun hb => Bool.noConfusion hb) (fun _ => ?_)
      refine At.gc [0, 3, 5, 14, 15] [] (n := 43) (l := [(0, .str x0), (3, .bool t0.1), (5, dI v4), (14, dI (x0.length : Int)), (15, dI t0.2)]) (bl := []) (by kernel_rfl) ?_
      refine At.adv [11] [] 400 (ev := .stop c64x22 [.seq c64x23, .seq c64x24, .blk 2, .blk 1, .seq c64x25]) (σ' := mkS 43 [(0, .str x0), (3, .bool t0.1), (5, dI v4), (14, dI (x0.length : Int)), (15, dI t0.2)] []) (q := []) (by kernel_rfl) trivial ?_
      exact (wj64x2 t0 v4 x0)  r h Γ
  · replace h := iteF h6 h
    refine At.gc [3] [] (n := 43) (l := [(3, .bool t0.1)]) (bl := []) (by kernel_rfl) ?_
    refine At.adv [] [] 400 (ev := .exit 0) (σ' := mkS 43 [(3, .bool t0.1)] []) (q := []) (by kernel_rfl) trivial ?_
    refine EvOk.exit ?_
    obtain rfl := someE h
    exact Round.done (neExit _) ⟨rfl, by kernel_rfl⟩
theorem wj64x1 (x0 : List UInt8) (r : Bool) (h : (j64x1 x0)  = some r) (Γ : Ctx) : EvOk Try.prog Γ (Den.Ends Try.prog Try.f64 (.bool r)) (mkS 43 [(0, .str x0)] []) (.stop c64x6 [.seq c64x7]) := by
  refine EvOk.stop ?_
  refine At.adv [] [(3, { keep := some ([0, 3], []) }), (4, { keep := some ([0, 3, 14, 15], []) })] 400 (ev := .loop c64x11 [.blk 0, .seq c64x34]) (σ' := mkS 43 [(0, .str x0), (3, .bool true), (14, dI (x0.length : Int)), (15, dI 0)] []) (q := []) (by kernel_rfl) trivial ?_
  refine EvOk.loop ?_
  obtain ⟨q1, e8, h⟩ := bindE h
  refine At.loop (l64x1 x0) (st64x1 x0) J64x1 (true, 0) e8 (by kernel_rfl) (fun t x hx => (wl64x1 x0) t x hx Γ) ?_
  intro e σ' hJ
  rcases q1 with q0 | y0
  · obtain ⟨rfl, rfl⟩ := hJ
    refine At.exitK (K' := [.seq c64x34]) (by kernel_rfl) ?_
    refine At.advN [] [(15, { keep := some ([2], []) })] 400 (ev := .ret) (σ' := mkS 43 [(2, .bool (!q0))] []) (q := []) (by kernel_rfl) trivial ?_
    refine EvOk.ret ?_
    obtain rfl := someE h
    exact Den.Ends.mk (.inl rfl) (d := .bool (!q0)) (p := (True ∧ True) ∧ (tN 1)) (by kernel_rfl) ⟨⟨trivial, trivial⟩, tNi 1⟩ (by kernel_rfl)
  · obtain rfl := someE h
    obtain ⟨rfl, hE⟩ := hJ
    exact At.retK hE
theorem we64 (x0 : List UInt8) (r : Bool) (h : m_name_IsClassName x0 = some r) (Γ : Ctx) : At Try.prog Γ b64 [] (Den.Ends Try.prog Try.f64 (.bool r)) (mkS 43 [(0, .str x0)] []) := by
  rcases Bool.eq_false_or_eq_true (x0 == ([] : List UInt8)) with h0 | h0
  · replace h := iteT h0 h
    refine At.adv [] [(0, { keep := some ([0], []) }), (1, { told := [(1, aB true)], keep := some ([0, 12], []) })] 400 (ev := .cond true c64x3 c64x4 [.seq c64x5]) (σ' := mkS 43 [(0, .str x0), (12, .bool true)] []) (q := [True ∧ ((x0 == ([] : List UInt8)) = true), True, True, True]) (by kernel_rfl) ⟨⟨trivial, h0⟩, trivial, trivial, trivial, trivial⟩ ?_
    refine EvOk.cond (fun _ => ?_) (fun hb => Bool.noConfusion hb)
    refine At.gc [] [] (n := 43) (l := []) (bl := []) (by kernel_rfl) ?_
    refine At.adv [] [(2, { keep := some ([2], []) })] 400 (ev := .ret) (σ' := mkS 43 [(2, .bool false)] []) (q := []) (by kernel_rfl) trivial ?_
    refine EvOk.ret ?_
    obtain rfl := someE h
    exact Den.Ends.mk (.inl rfl) (d := .bool false) (p := (True ∧ True) ∧ (tN 1)) (by kernel_rfl) ⟨⟨trivial, trivial⟩, tNi 1⟩ (by kernel_rfl)
  · replace h := iteF h0 h
    refine At.adv [] [(0, { keep := some ([0], []) }), (1, { told := [(1, aB false)], keep := some ([0, 12], []) })] 400 (ev := .cond (decide ((x0.length : Int) > 64)) c64x3 c64x4 [.seq c64x5]) (σ' := mkS 43 [(0, .str x0), (12, .bool (decide ((x0.length : Int) > 64)))] []) (q := [True ∧ ((x0 == ([] : List UInt8)) = false), True ∧ True, True ∧ True, True ∧ True]) (by kernel_rfl) ⟨⟨trivial, h0⟩, ⟨trivial, trivial⟩, ⟨trivial, trivial⟩, ⟨trivial, trivial⟩, trivial⟩ ?_
    refine EvOk.cond (fun h1 => ?_) (fun h1 => ?_)
    · replace h := iteT h1 h
      refine At.gc [] [] (n := 43) (l := []) (bl := []) (by kernel_rfl) ?_
      refine At.adv [] [(2, { keep := some ([2], []) })] 400 (ev := .ret) (σ' := mkS 43 [(2, .bool false)] []) (q := []) (by kernel_rfl) trivial ?_
      refine EvOk.ret ?_
      obtain rfl := someE h
      exact Den.Ends.mk (.inl rfl) (d := .bool false) (p := (True ∧ True) ∧ (tN 1)) (by kernel_rfl) ⟨⟨trivial, trivial⟩, tNi 1⟩ (by kernel_rfl)
    · replace h := iteF h1 h
      refine At.gc [0] [] (n := 43) (l := [(0, .str x0)]) (bl := []) (by kernel_rfl) ?_
      refine At.adv [3] [] 400 (ev := .stop c64x6 [.seq c64x7]) (σ' := mkS 43 [(0, .str x0)] []) (q := []) (by kernel_rfl) trivial ?_
      exact (wj64x1 x0)  r h Γ
theorem w64 {x0 : List UInt8} {r : Bool} (h : m_name_IsClassName x0 = some r) : CallSpec Try.prog 64 [.str x0] (.bool r) :=
  CallSpec.at2 b64 (n := 43) (l := [(0, .str x0)]) (by kernel_rfl) (by kernel_rfl) (by kernel_rfl) (by kernel_rfl) (by kernel_rfl) (Nat.le_of_ble_eq_true (by kernel_rfl)) (fun Γ => we64 x0 r h Γ)

/-! ### internal stringslite.HasPrefix -/
noncomputable def b73 : Code := Try.f73.body.getD .skip
def m_internal_stringslite_HasPrefix (x0 : List UInt8) (x1 : List UInt8) : Option (Bool) :=
  if (decide ((x0.length : Int) ≥ (x1.length : Int))) = true then ((sub x0 0 (x1.length : Int)).bind fun v0 =>
  some (v0 == x1)) else
  (some false)
theorem we73 (x0 : List UInt8) (x1 : List UInt8) (r : Bool) (h : m_internal_stringslite_HasPrefix x0 x1 = some r) (Γ : Ctx) : At Try.prog Γ b73 [] (Den.Ends Try.prog Try.f73 (.bool r)) (mkS 18 [(0, .str x0), (1, .str x1)] []) := by
  rcases Bool.eq_false_or_eq_true (decide ((x0.length : Int) ≥ (x1.length : Int))) with h0 | h0
  · replace h := iteT h0 h
    obtain ⟨v0, e0, h⟩ := bindE h
    refine At.adv [] [(0, { keep := some ([0, 1], []) }), (1, { told := [(4, aB true), (9, aS v0)], keep := some ([4], []) })] 400 (ev := .ret) (σ' := mkS 18 [(4, .bool (v0 == x1))] []) (q := [True ∧ ((decide ((x0.length : Int) ≥ (x1.length : Int))) = true), True ∧ True, True ∧ True, True ∧ True, True ∧ (sub x0 0 (x1.length : Int) = some v0), True ∧ True, True ∧ True]) (by kernel_rfl) ⟨⟨trivial, h0⟩, ⟨trivial, trivial⟩, ⟨trivial, trivial⟩, ⟨trivial, trivial⟩, ⟨trivial, e0⟩, ⟨trivial, trivial⟩, ⟨trivial, trivial⟩, trivial⟩ ?_
    refine EvOk.ret ?_
    obtain rfl := someE h
    exact Den.Ends.mk (.inl rfl) (d := .bool (v0 == x1)) (p := (True ∧ True) ∧ (tN 1)) (by kernel_rfl) ⟨⟨trivial, trivial⟩, tNi 1⟩ (by kernel_rfl)
  · replace h := iteF h0 h
    refine At.adv [] [(0, { keep := some ([0, 1], []) }), (1, { told := [(4, aB false)], keep := some ([4], []) })] 400 (ev := .ret) (σ' := mkS 18 [(4, .bool false)] []) (q := [True ∧ ((decide ((x0.length : Int) ≥ (x1.length : Int))) = false), True, True, True, True, True, True]) (by kernel_rfl) ⟨⟨trivial, h0⟩, trivial, trivial, trivial, trivial, trivial, trivial, trivial⟩ ?_
    refine EvOk.ret ?_
    obtain rfl := someE h
    exact Den.Ends.mk (.inl rfl) (d := .bool false) (p := (True ∧ True) ∧ (tN 1)) (by kernel_rfl) ⟨⟨trivial, trivial⟩, tNi 1⟩ (by kernel_rfl)
theorem w73 {x0 : List UInt8} {x1 : List UInt8} {r : Bool} (h : m_internal_stringslite_HasPrefix x0 x1 = some r) : CallSpec Try.prog 73 [.str x0, .str x1] (.bool r) :=
  CallSpec.at2 b73 (n := 18) (l := [(0, .str x0), (1, .str x1)]) (by kernel_rfl) (by kernel_rfl) (by kernel_rfl) (by kernel_rfl) (by kernel_rfl) (Nat.le_of_ble_eq_true (by kernel_rfl)) (fun Γ => we73 x0 x1 r h Γ)

/-! ### strings.HasPrefix -/
noncomputable def b65 : Code := Try.f65.body.getD .skip
def m_strings_HasPrefix (x0 : List UInt8) (x1 : List UInt8) : Option (Bool) :=
  (m_internal_stringslite_HasPrefix x0 x1).bind fun v0 =>
  some v0
theorem we65 (x0 : List UInt8) (x1 : List UInt8) (r : Bool) (h : m_strings_HasPrefix x0 x1 = some r) (Γ : Ctx) : At Try.prog Γ b65 [] (Den.Ends Try.prog Try.f65 (.bool r)) (mkS 8 [(0, .str x0), (1, .str x1)] []) := by
  obtain ⟨v0, e0, h⟩ := bindE h
  refine At.adv [] [(0, { keep := some ([0, 1], []) }), (1, { told := [(2, aB v0)], keep := some ([4], []) })] 400 (ev := .ret) (σ' := mkS 8 [(4, .bool v0)] []) (q := [True ∧ (cq Try.prog (tN 2) 73 [.str x0, .str x1] (.bool v0))]) (by kernel_rfl) ⟨⟨trivial, cqi (tNi 2) (w73 e0)⟩, trivial⟩ ?_
  refine EvOk.ret ?_
  obtain rfl := someE h
  exact Den.Ends.mk (.inl rfl) (d := .bool v0) (p := (True ∧ True) ∧ (tN 1)) (by kernel_rfl) ⟨⟨trivial, trivial⟩, tNi 1⟩ (by kernel_rfl)
theorem w65 {x0 : List UInt8} {x1 : List UInt8} {r : Bool} (h : m_strings_HasPrefix x0 x1 = some r) : CallSpec Try.prog 65 [.str x0, .str x1] (.bool r) :=
  CallSpec.at2 b65 (n := 8) (l := [(0, .str x0), (1, .str x1)]) (by kernel_rfl) (by kernel_rfl) (by kernel_rfl) (by kernel_rfl) (by kernel_rfl) (Nat.le_of_ble_eq_true (by kernel_rfl)) (fun Γ => we65 x0 x1 r h Γ)

/-! ### internal bytealg.IndexByteString -/
def m_internal_bytealg_IndexByteString (s : List UInt8) (c : Int) : Option Int := some (Lib.indexByte s c.toNat.toUInt8)
theorem w78 {s : List UInt8} {c r : Int} (h : m_internal_bytealg_IndexByteString s c = some r) : ExtSpec Try.prog 78 [.str s, .int .u8 c] (.int .i64 r) := by
  obtain rfl := someE h
  exact ext_indexByteString Try.func78 (by kernel_rfl) (by kernel_rfl) (by kernel_rfl) (by kernel_rfl) s c

/-! ### internal stringslite.IndexByte -/
noncomputable def b74 : Code := Try.f74.body.getD .skip
def m_internal_stringslite_IndexByte (x0 : List UInt8) (x1 : Int) : Option (Int) :=
  (m_internal_bytealg_IndexByteString x0 x1).bind fun v0 =>
  some v0
theorem we74 (x0 : List UInt8) (x1 : Int) (r : Int) (h : m_internal_stringslite_IndexByte x0 x1 = some r) (Γ : Ctx) : At Try.prog Γ b74 [] (Den.Ends Try.prog Try.f74 (dI r)) (mkS 8 [(0, .str x0), (1, d8 x1)] []) := by
  obtain ⟨v0, e0, h⟩ := bindE h
  refine At.adv [] [(0, { keep := some ([0, 1], []) }), (1, { told := [(2, aI v0)], keep := some ([4], []) })] 400 (ev := .ret) (σ' := mkS 8 [(4, dI v0)] []) (q := [True ∧ (cq Try.prog (tN 2) 78 [.str x0, d8 x1] (dI v0))]) (by kernel_rfl) ⟨⟨trivial, cqx (tNi 2) (w78 e0)⟩, trivial⟩ ?_
  refine EvOk.ret ?_
  obtain rfl := someE h
  exact Den.Ends.mk (.inl rfl) (d := dI v0) (p := (True ∧ True) ∧ (tN 1)) (by kernel_rfl) ⟨⟨trivial, trivial⟩, tNi 1⟩ (by kernel_rfl)
theorem w74 {x0 : List UInt8} {x1 : Int} {r : Int} (h : m_internal_stringslite_IndexByte x0 x1 = some r) : CallSpec Try.prog 74 [.str x0, .int .u8 x1] (.int .i64 r) :=
  CallSpec.at2 b74 (n := 8) (l := [(0, .str x0), (1, .int .u8 x1)]) (by kernel_rfl) (by kernel_rfl) (by kernel_rfl) (by kernel_rfl) (by kernel_rfl) (Nat.le_of_ble_eq_true (by kernel_rfl)) (fun Γ => we74 x0 x1 r h Γ)

/-! ### strings.IndexByte -/
noncomputable def b66 : Code := Try.f66.body.getD .skip
def m_strings_IndexByte (x0 : List UInt8) (x1 : Int) : Option (Int) :=
  (m_internal_stringslite_IndexByte x0 x1).bind fun v0 =>
  some v0
theorem we66 (x0 : List UInt8) (x1 : Int) (r : Int) (h : m_strings_IndexByte x0 x1 = some r) (Γ : Ctx) : At Try.prog Γ b66 [] (Den.Ends Try.prog Try.f66 (dI r)) (mkS 8 [(0, .str x0), (1, d8 x1)] []) := by
  obtain ⟨v0, e0, h⟩ := bindE h
  refine At.adv [] [(0, { keep := some ([0, 1], []) }), (1, { told := [(2, aI v0)], keep := some ([4], []) })] 400 (ev := .ret) (σ' := mkS 8 [(4, dI v0)] []) (q := [True ∧ (cq Try.prog (tN 2) 74 [.str x0, d8 x1] (dI v0))]) (by kernel_rfl) ⟨⟨trivial, cqi (tNi 2) (w74 e0)⟩, trivial⟩ ?_
  refine EvOk.ret ?_
  obtain rfl := someE h
  exact Den.Ends.mk (.inl rfl) (d := dI v0) (p := (True ∧ True) ∧ (tN 1)) (by kernel_rfl) ⟨⟨trivial, trivial⟩, tNi 1⟩ (by kernel_rfl)
theorem w66 {x0 : List UInt8} {x1 : Int} {r : Int} (h : m_strings_IndexByte x0 x1 = some r) : CallSpec Try.prog 66 [.str x0, .int .u8 x1] (.int .i64 r) :=
  CallSpec.at2 b66 (n := 8) (l := [(0, .str x0), (1, .int .u8 x1)]) (by kernel_rfl) (by kernel_rfl) (by kernel_rfl) (by kernel_rfl) (by kernel_rfl) (Nat.le_of_ble_eq_true (by kernel_rfl)) (fun Γ => we66 x0 x1 r h Γ)

/-! ### armature desc.Valid -/
noncomputable def b75 : Code := Try.f75.body.getD .skip
noncomputable def c75x0 : Code := sub1 b75
noncomputable def c75x1 : Code := sub0 c75x0
noncomputable def c75x2 : Code := sub1 c75x1
noncomputable def c75x3 : Code := sub0 c75x2
noncomputable def c75x4 : Code := sub1 c75x2
noncomputable def c75x5 : Code := sub1 c75x0
noncomputable def c75x6 : Code := sub0 c75x5
noncomputable def c75x7 : Code := sub0 c75x6
noncomputable def c75x8 : Code := sub1 c75x6
noncomputable def c75x9 : Code := sub1 c75x5
noncomputable def c75x10 : Code := sub0 c75x8
noncomputable def c75x11 : Code := sub1 c75x10
noncomputable def c75x12 : Code := sub0 c75x11
noncomputable def c75x13 : Code := sub1 c75x11
noncomputable def c75x14 : Code := sub0 c75x10
noncomputable def c75x15 : Code := sub1 c75x14
noncomputable def c75x16 : Code := sub0 c75x15
noncomputable def c75x17 : Code := sub1 c75x15
noncomputable def c75x18 : Code := sub0 c75x13
noncomputable def c75x19 : Code := sub1 c75x13
noncomputable def c75x20 : Code := sub1 c75x19
noncomputable def c75x21 : Code := sub1 c75x20
noncomputable def c75x22 : Code := sub0 c75x21
noncomputable def c75x23 : Code := sub1 c75x21
noncomputable def c75x24 : Code := sub0 c75x19
def j75x3 (x0 : T_api_Type) : Option (Bool) :=
  if (x0.f_Base == 86) = true then
    (if (x0.f_Dim == 0) = true then (some (x0.f_Name == ([] : List UInt8))) else
    (some false)) else
  (if (x0.f_Base == 76) = true then
      ((m_name_IsClassName x0.f_Name).bind fun v0 =>
      some v0) else
    (some false))
def j75x2 (x0 : T_api_Type) : Option (Bool) :=
  if (x0.f_Base == 74) = true then
    (some (x0.f_Name == ([] : List UInt8))) else
  ((j75x3 x0) )
def j75x1 (x0 : T_api_Type) : Option (Bool) :=
  if (x0.f_Base == 73) = true then
    (some (x0.f_Name == ([] : List UInt8))) else
  ((j75x2 x0) )
def m_desc_Valid (x0 : T_api_Type) : Option (Bool) :=
  if (decide (x0.f_Dim < 0)) = true then (some false) else
  (if (decide (x0.f_Dim > 8)) = true then
    (some false) else
  ((j75x1 x0) ))
theorem wj75x3 (x0 : T_api_Type) (r : Bool) (h : (j75x3 x0)  = some r) (Γ : Ctx) : EvOk Try.prog Γ (Den.Ends Try.prog Try.f75 (.bool r)) (mkS 34 [(1, .ptr (row_T_api_Type x0)), (12, d8 x0.f_Base)] []) (.stop c75x18 [.seq c75x19, .blk 0, .seq c75x9]) := by
  refine EvOk.stop ?_
  refine At.adv [] [(7, { keep := some ([1, 12, 19], []) })] 400 (ev := .cond (x0.f_Base == 86) c75x24 c75x20 [.blk 0, .seq c75x9]) (σ' := mkS 34 [(1, .ptr (row_T_api_Type x0)), (12, d8 x0.f_Base), (19, .bool (x0.f_Base == 86))] []) (q := []) (by kernel_rfl) trivial ?_
  refine EvOk.cond (fun h4 => ?_) (fun h4 => ?_)
  · replace h := iteT h4 h
    refine At.gc [1] [] (n := 34) (l := [(1, .ptr (row_T_api_Type x0))]) (bl := []) (by kernel_rfl) ?_
    rcases Bool.eq_false_or_eq_true (x0.f_Dim == 0) with h5 | h5
    · replace h := iteT h5 h
      refine At.adv [] [(8, { told := [(2, aB true)], keep := some ([2], []) })] 400 (ev := .ret) (σ' := mkS 34 [(2, .bool (x0.f_Name == ([] : List UInt8)))] []) (q := [True ∧ ((x0.f_Dim == 0) = true), True ∧ True, True ∧ True, True ∧ True]) (by kernel_rfl) ⟨⟨trivial, h5⟩, ⟨trivial, trivial⟩, ⟨trivial, trivial⟩, ⟨trivial, trivial⟩, trivial⟩ ?_
      refine EvOk.ret ?_
      obtain rfl := someE h
      exact Den.Ends.mk (.inl rfl) (d := .bool (x0.f_Name == ([] : List UInt8))) (p := (True ∧ True) ∧ (tN 1)) (by kernel_rfl) ⟨⟨trivial, trivial⟩, tNi 1⟩ (by kernel_rfl)
    · replace h := iteF h5 h
      refine At.adv [] [(8, { told := [(2, aB false)], keep := some ([2], []) })] 400 (ev := .ret) (σ' := mkS 34 [(2, .bool false)] []) (q := [True ∧ ((x0.f_Dim == 0) = false), True, True, True]) (by kernel_rfl) ⟨⟨trivial, h5⟩, trivial, trivial, trivial, trivial⟩ ?_
      refine EvOk.ret ?_
      obtain rfl := someE h
      exact Den.Ends.mk (.inl rfl) (d := .bool false) (p := (True ∧ True) ∧ (tN 1)) (by kernel_rfl) ⟨⟨trivial, trivial⟩, tNi 1⟩ (by kernel_rfl)
  · replace h := iteF h4 h
    refine At.gc [1, 12] [] (n := 34) (l := [(1, .ptr (row_T_api_Type x0)), (12, d8 x0.f_Base)]) (bl := []) (by kernel_rfl) ?_
    refine At.adv [] [(9, { keep := some ([1, 29], []) })] 400 (ev := .cond (x0.f_Base == 76) c75x22 c75x23 [.blk 0, .seq c75x9]) (σ' := mkS 34 [(1, .ptr (row_T_api_Type x0)), (29, .bool (x0.f_Base == 76))] []) (q := []) (by kernel_rfl) trivial ?_
    refine EvOk.cond (fun h6 => ?_) (fun h6 => ?_)
    · replace h := iteT h6 h
      refine At.gc [1] [] (n := 34) (l := [(1, .ptr (row_T_api_Type x0))]) (bl := []) (by kernel_rfl) ?_
      obtain ⟨v0, e0, h⟩ := bindE h
      refine At.adv [] [(10, { told := [(2, aB v0)], keep := some ([2], []) })] 400 (ev := .ret) (σ' := mkS 34 [(2, .bool v0)] []) (q := [True ∧ (cq Try.prog (tN 1) 64 [.str x0.f_Name] (.bool v0))]) (by kernel_rfl) ⟨⟨trivial, cqi (tNi 1) (w64 e0)⟩, trivial⟩ ?_
      refine EvOk.ret ?_
      obtain rfl := someE h
      exact Den.Ends.mk (.inl rfl) (d := .bool v0) (p := (True ∧ True) ∧ (tN 1)) (by kernel_rfl) ⟨⟨trivial, trivial⟩, tNi 1⟩ (by kernel_rfl)
    · replace h := iteF h6 h
      refine At.gc [] [] (n := 34) (l := []) (bl := []) (by kernel_rfl) ?_
      refine At.adv [] [(11, { keep := some ([2], []) })] 400 (ev := .ret) (σ' := mkS 34 [(2, .bool false)] []) (q := []) (by kernel_rfl) trivial ?_
      refine EvOk.ret ?_
      obtain rfl := someE h
      exact Den.Ends.mk (.inl rfl) (d := .bool false) (p := (True ∧ True) ∧ (tN 1)) (by kernel_rfl) ⟨⟨trivial, trivial⟩, tNi 1⟩ (by kernel_rfl)
theorem wj75x2 (x0 : T_api_Type) (r : Bool) (h : (j75x2 x0)  = some r) (Γ : Ctx) : EvOk Try.prog Γ (Den.Ends Try.prog Try.f75 (.bool r)) (mkS 34 [(1, .ptr (row_T_api_Type x0)), (12, d8 x0.f_Base), (13, .bool (x0.f_Base == 74))] []) (.cond (x0.f_Base == 74) c75x12 c75x13 [.blk 0, .seq c75x9]) := by
  refine EvOk.cond (fun h3 => ?_) (fun h3 => ?_)
  · replace h := iteT h3 h
    refine At.gc [1] [] (n := 34) (l := [(1, .ptr (row_T_api_Type x0))]) (bl := []) (by kernel_rfl) ?_
    refine At.adv [] [(6, { keep := some ([2], []) })] 400 (ev := .ret) (σ' := mkS 34 [(2, .bool (x0.f_Name == ([] : List UInt8)))] []) (q := []) (by kernel_rfl) trivial ?_
    refine EvOk.ret ?_
    obtain rfl := someE h
    exact Den.Ends.mk (.inl rfl) (d := .bool (x0.f_Name == ([] : List UInt8))) (p := (True ∧ True) ∧ (tN 1)) (by kernel_rfl) ⟨⟨trivial, trivial⟩, tNi 1⟩ (by kernel_rfl)
  · replace h := iteF h3 h
    refine At.gc [1, 12] [] (n := 34) (l := [(1, .ptr (row_T_api_Type x0)), (12, d8 x0.f_Base)]) (bl := []) (by kernel_rfl) ?_
    refine At.adv [7] [] 400 (ev := .stop c75x18 [.seq c75x19, .blk 0, .seq c75x9]) (σ' := mkS 34 [(1, .ptr (row_T_api_Type x0)), (12, d8 x0.f_Base)] []) (q := []) (by kernel_rfl) trivial ?_
    exact (wj75x3 x0)  r h Γ
theorem wj75x1 (x0 : T_api_Type) (r : Bool) (h : (j75x1 x0)  = some r) (Γ : Ctx) : EvOk Try.prog Γ (Den.Ends Try.prog Try.f75 (.bool r)) (mkS 34 [(1, .ptr (row_T_api_Type x0))] []) (.stop c75x7 [.seq c75x8, .seq c75x9]) := by
  refine EvOk.stop ?_
  refine At.adv [] [(3, { keep := some ([1, 12], []) }), (4, { keep := some ([1, 12, 13], []) })] 400 (ev := .cond (x0.f_Base == 73) c75x16 c75x17 [.seq c75x11, .blk 0, .seq c75x9]) (σ' := mkS 34 [(1, .ptr (row_T_api_Type x0)), (12, d8 x0.f_Base), (13, .bool (x0.f_Base == 73))] []) (q := []) (by kernel_rfl) trivial ?_
  refine EvOk.cond (fun h2 => ?_) (fun h2 => ?_)
  · replace h := iteT h2 h
    refine At.adv [] [] 400 (ev := .cond (x0.f_Base == 73) c75x12 c75x13 [.blk 0, .seq c75x9]) (σ' := mkS 34 [(1, .ptr (row_T_api_Type x0)), (12, d8 x0.f_Base), (13, .bool (x0.f_Base == 73))] []) (q := []) (by kernel_rfl) trivial ?_
    refine EvOk.cond (fun _ => ?_) (fun hb => Bool.noConfusion (h2.symm.trans hb))
    refine At.gc [1] [] (n := 34) (l := [(1, .ptr (row_T_api_Type x0))]) (bl := []) (by kernel_rfl) ?_
    refine At.adv [] [(6, { keep := some ([2], []) })] 400 (ev := .ret) (σ' := mkS 34 [(2, .bool (x0.f_Name == ([] : List UInt8)))] []) (q := []) (by kernel_rfl) trivial ?_
    refine EvOk.ret ?_
    obtain rfl := someE h
    exact Den.Ends.mk (.inl rfl) (d := .bool (x0.f_Name == ([] : List UInt8))) (p := (True ∧ True) ∧ (tN 1)) (by kernel_rfl) ⟨⟨trivial, trivial⟩, tNi 1⟩ (by kernel_rfl)
  · replace h := iteF h2 h
    refine At.gc [1, 12] [] (n := 34) (l := [(1, .ptr (row_T_api_Type x0)), (12, d8 x0.f_Base)]) (bl := []) (by kernel_rfl) ?_
    refine At.adv [] [(5, { keep := some ([1, 12, 13], []) })] 400 (ev := .cond (x0.f_Base == 74) c75x12 c75x13 [.blk 0, .seq c75x9]) (σ' := mkS 34 [(1, .ptr (row_T_api_Type x0)), (12, d8 x0.f_Base), (13, .bool (x0.f_Base == 74))] []) (q := []) (by kernel_rfl) trivial ?_
    exact (wj75x2 x0)  r h Γ
theorem we75 (x0 : T_api_Type) (r : Bool) (h : m_desc_Valid x0 = some r) (Γ : Ctx) : At Try.prog Γ b75 [] (Den.Ends Try.prog Try.f75 (.bool r)) (mkS 34 [(0, .agg (row_T_api_Type x0))] []) := by
  rcases Bool.eq_false_or_eq_true (decide (x0.f_Dim < 0)) with h0 | h0
  · replace h := iteT h0 h
    refine At.adv [] [(0, { told := [(0, { ro := true })], keep := some ([1], []) }), (1, { told := [(2, aB true)], keep := some ([1, 10], []) })] 400 (ev := .cond true c75x3 c75x4 [.seq c75x5]) (σ' := mkS 34 [(1, .ptr (row_T_api_Type x0)), (10, .bool true)] []) (q := [True ∧ ((decide (x0.f_Dim < 0)) = true), True, True, True]) (by kernel_rfl) ⟨⟨trivial, h0⟩, trivial, trivial, trivial, trivial⟩ ?_
    refine EvOk.cond (fun _ => ?_) (fun hb => Bool.noConfusion hb)
    refine At.gc [] [] (n := 34) (l := []) (bl := []) (by kernel_rfl) ?_
    refine At.adv [] [(2, { keep := some ([2], []) })] 400 (ev := .ret) (σ' := mkS 34 [(2, .bool false)] []) (q := []) (by kernel_rfl) trivial ?_
    refine EvOk.ret ?_
    obtain rfl := someE h
    exact Den.Ends.mk (.inl rfl) (d := .bool false) (p := (True ∧ True) ∧ (tN 1)) (by kernel_rfl) ⟨⟨trivial, trivial⟩, tNi 1⟩ (by kernel_rfl)
  · replace h := iteF h0 h
    refine At.adv [] [(0, { told := [(0, { ro := true })], keep := some ([1], []) }), (1, { told := [(2, aB false)], keep := some ([1, 10], []) })] 400 (ev := .cond (decide (x0.f_Dim > 8)) c75x3 c75x4 [.seq c75x5]) (σ' := mkS 34 [(1, .ptr (row_T_api_Type x0)), (10, .bool (decide (x0.f_Dim > 8)))] []) (q := [True ∧ ((decide (x0.f_Dim < 0)) = false), True ∧ True, True ∧ True, True ∧ True]) (by kernel_rfl) ⟨⟨trivial, h0⟩, ⟨trivial, trivial⟩, ⟨trivial, trivial⟩, ⟨trivial, trivial⟩, trivial⟩ ?_
    refine EvOk.cond (fun h1 => ?_) (fun h1 => ?_)
    · replace h := iteT h1 h
      refine At.gc [] [] (n := 34) (l := []) (bl := []) (by kernel_rfl) ?_
      refine At.adv [] [(2, { keep := some ([2], []) })] 400 (ev := .ret) (σ' := mkS 34 [(2, .bool false)] []) (q := []) (by kernel_rfl) trivial ?_
      refine EvOk.ret ?_
      obtain rfl := someE h
      exact Den.Ends.mk (.inl rfl) (d := .bool false) (p := (True ∧ True) ∧ (tN 1)) (by kernel_rfl) ⟨⟨trivial, trivial⟩, tNi 1⟩ (by kernel_rfl)
    · replace h := iteF h1 h
      refine At.gc [1] [] (n := 34) (l := [(1, .ptr (row_T_api_Type x0))]) (bl := []) (by kernel_rfl) ?_
      refine At.adv [3] [] 400 (ev := .stop c75x7 [.seq c75x8, .seq c75x9]) (σ' := mkS 34 [(1, .ptr (row_T_api_Type x0))] []) (q := []) (by kernel_rfl) trivial ?_
      exact (wj75x1 x0)  r h Γ
theorem w75 {x0 : T_api_Type} {r : Bool} (h : m_desc_Valid x0 = some r) : CallSpec Try.prog 75 [.agg (row_T_api_Type x0)] (.bool r) :=
  CallSpec.at2 b75 (n := 34) (l := [(0, .agg (row_T_api_Type x0))]) (by kernel_rfl) (by kernel_rfl) (by kernel_rfl) (by kernel_rfl) (by kernel_rfl) (Nat.le_of_ble_eq_true (by kernel_rfl)) (fun Γ => we75 x0 r h Γ)

/-! ### armature desc.prefix -/
noncomputable def b67 : Code := Try.f67.body.getD .skip
noncomputable def c67x0 : Code := sub1 b67
noncomputable def c67x1 : Code := sub1 c67x0
noncomputable def c67x2 : Code := sub0 c67x1
noncomputable def c67x3 : Code := sub0 c67x2
noncomputable def c67x4 : Code := sub0 c67x3
noncomputable def c67x5 : Code := sub0 c67x4
noncomputable def c67x6 : Code := sub1 c67x5
noncomputable def c67x7 : Code := sub0 c67x6
noncomputable def c67x8 : Code := sub1 c67x6
noncomputable def c67x9 : Code := sub1 c67x4
noncomputable def c67x10 : Code := sub1 c67x1
noncomputable def c67x11 : Code := sub1 c67x10
noncomputable def c67x12 : Code := sub1 c67x11
noncomputable def c67x13 : Code := sub1 c67x12
noncomputable def c67x14 : Code := sub1 c67x13
noncomputable def c67x15 : Code := sub1 c67x14
noncomputable def c67x16 : Code := sub0 c67x15
noncomputable def c67x17 : Code := sub1 c67x15
noncomputable def c67x18 : Code := sub0 c67x14
noncomputable def c67x19 : Code := sub1 c67x18
noncomputable def c67x20 : Code := sub0 c67x19
noncomputable def c67x21 : Code := sub1 c67x20
noncomputable def c67x22 : Code := sub0 c67x21
noncomputable def c67x23 : Code := sub1 c67x22
noncomputable def c67x24 : Code := sub0 c67x23
noncomputable def c67x25 : Code := sub1 c67x23
noncomputable def c67x26 : Code := sub1 c67x21
noncomputable def c67x27 : Code := sub1 c67x19
noncomputable def c67x28 : Code := sub0 c67x11
noncomputable def c67x29 : Code := sub1 c67x28
noncomputable def c67x30 : Code := sub0 c67x29
noncomputable def c67x31 : Code := sub1 c67x29
def l67x1 (x0 : List UInt8) (t0 : Int) : Option (Ctl (Int) (Int)) :=
  if (decide (t0 < (x0.length : Int))) = true then ((getS x0 t0).bind fun v1 =>
  if (v1 == 91) = true then
    ((some (IntKind.wrap .i64 (t0 + (1 : Int)))).bind fun v2 =>
    some (.next v2)) else
  (some (.done (t0)))) else
  (some (.done (t0)))
def j67x1 (q0 : Int) (v4 : Int) (p0 : List UInt8) (p1 : List UInt8) : Option (T_api_Type × (List UInt8) × Bool) :=
  (m_desc_Valid ({ f_Dim := q0, f_Base := v4, f_Name := p0 } : T_api_Type)).bind fun v10 =>
  some (({ f_Dim := q0, f_Base := v4, f_Name := p0 } : T_api_Type), p1, v10)
def m_desc_prefix (x0 : List UInt8) : Option (T_api_Type × (List UInt8) × Bool) :=
  (loopM (l67x1 x0) rounds 0).bind fun q0 =>
  (sub x0 q0 (x0.length : Int)).bind fun v3 =>
  if (v3 == ([] : List UInt8)) = true then
    (some (({ f_Dim := 0, f_Base := 0, f_Name := [] } : T_api_Type), [], false)) else
  ((getS v3 0).bind fun v4 =>
    (sub v3 1 (v3.length : Int)).bind fun v5 =>
    if (v4 == 76) = true then
      ((m_strings_IndexByte v5 59).bind fun v6 =>
      if (decide (v6 < 0)) = true then
        (some (({ f_Dim := 0, f_Base := 0, f_Name := [] } : T_api_Type), [], false)) else
      ((sub v5 0 v6).bind fun v7 =>
        (some (IntKind.wrap .i64 (v6 + (1 : Int)))).bind fun v8 =>
        (sub v5 v8 (v5.length : Int)).bind fun v9 =>
        (j67x1 q0 v4) v7 v9)) else
    ((j67x1 q0 v4) [] v5))
def st67x1 (x0 : List UInt8) : Int → S :=
  fun t0 => mkS 56 [(0, .str x0), (2, .lptr 2 0 0), (5, .lptr 5 0 0)] [(2, { sz := 3, rows := [[.int .i64 0, .int .u8 0, .str []]], frz := 0, pure := false }), (5, { sz := 3, rows := [[.int .i64 t0, .int .u8 0, .str []]], frz := 0, pure := false })]
noncomputable def J67x1 (x0 : List UInt8) : Int → Exit → S → Prop :=
  JExit 0 (fun q0 : Int => mkS 56 [(0, .str x0), (2, .lptr 2 0 0), (5, .lptr 5 0 0)] [(2, { sz := 3, rows := [[.int .i64 0, .int .u8 0, .str []]], frz := 0, pure := false }), (5, { sz := 3, rows := [[.int .i64 q0, .int .u8 0, .str []]], frz := 0, pure := false })])
theorem wl67x1 (x0 : List UInt8) (t0 : Int) (r : Ctl (Int) (Int)) (h : (l67x1 x0) t0 = some r) (Γ : Ctx) : At Try.prog Γ c67x4 [] (Round (st67x1 x0) (J67x1 x0) r) ((st67x1 x0) t0) := by
  rcases Bool.eq_false_or_eq_true (decide (t0 < (x0.length : Int))) with h2 | h2
  · replace h := iteT h2 h
    obtain ⟨v1, e1, h⟩ := bindE h
    refine At.adv [] [(2, { told := [(4, aB true), (9, a8 v1)], keep := some ([0, 2, 5, 19], [(2, 2), (5, 5)]) })] 400 (ev := .cond (v1 == 91) c67x7 c67x8 [.seq c67x9]) (σ' := mkS 56 [(0, .str x0), (2, .lptr 2 0 0), (5, .lptr 5 0 0), (19, .bool (v1 == 91))] [(2, { sz := 3, rows := [[dI 0, d8 0, .str []]], frz := 0, pure := false }), (5, { sz := 3, rows := [[dI t0, d8 0, .str []]], frz := 0, pure := false })]) (q := [True ∧ ((decide (t0 < (x0.length : Int))) = true), True ∧ True, True ∧ True, True ∧ True, True ∧ (getS x0 t0 = some v1), True ∧ True]) (by kernel_rfl) ⟨⟨trivial, h2⟩, ⟨trivial, trivial⟩, ⟨trivial, trivial⟩, ⟨trivial, trivial⟩, ⟨trivial, e1⟩, ⟨trivial, trivial⟩, trivial⟩ ?_
    refine EvOk.cond (fun h3 => ?_) (fun h3 => ?_)
    · replace h := iteT h3 h
      refine At.gc [0, 2, 5] [(2, 2), (5, 5)] (n := 56) (l := [(0, .str x0), (2, .lptr 2 0 0), (5, .lptr 5 0 0)]) (bl := [(2, { sz := 3, rows := [[dI 0, d8 0, .str []]], frz := 0, pure := false }), (5, { sz := 3, rows := [[dI t0, d8 0, .str []]], frz := 0, pure := false })]) (by kernel_rfl) ?_
      obtain ⟨v2, e2, h⟩ := bindE h
      refine At.adv [] [(3, { told := [(2, aI v2)], keep := some ([0, 2, 5], [(2, 2), (5, 5)]) })] 400 (ev := .normal) (σ' := mkS 56 [(0, .str x0), (2, .lptr 2 0 0), (5, .lptr 5 0 0)] [(2, { sz := 3, rows := [[dI 0, d8 0, .str []]], frz := 0, pure := false }), (5, { sz := 3, rows := [[dI v2, d8 0, .str []]], frz := 0, pure := false })]) (q := [True ∧ (IntKind.wrap .i64 (t0 + (1 : Int)) = v2), True ∧ (0 ≤ 0 ∧ 0 + ([dI v2] : List D).length ≤ ([dI t0, d8 0, .str []] : List D).length ∧ ([[dI v2, d8 0, .str []]] : List (List D)) = ([[dI v2, d8 0, .str []]] : List (List D)))]) (by kernel_rfl) ⟨⟨trivial, someE e2⟩, ⟨trivial, ⟨Nat.zero_le _, Nat.le_of_ble_eq_true rfl, rfl⟩⟩, trivial⟩ ?_
      refine EvOk.normal ?_
      obtain rfl := someE h
      exact Round.next (by kernel_rfl)
    · replace h := iteF h3 h
      refine At.gc [0, 2, 5] [(2, 2), (5, 5)] (n := 56) (l := [(0, .str x0), (2, .lptr 2 0 0), (5, .lptr 5 0 0)]) (bl := [(2, { sz := 3, rows := [[dI 0, d8 0, .str []]], frz := 0, pure := false }), (5, { sz := 3, rows := [[dI t0, d8 0, .str []]], frz := 0, pure := false })]) (by kernel_rfl) ?_
      refine At.adv [] [] 400 (ev := .exit 0) (σ' := mkS 56 [(0, .str x0), (2, .lptr 2 0 0), (5, .lptr 5 0 0)] [(2, { sz := 3, rows := [[dI 0, d8 0, .str []]], frz := 0, pure := false }), (5, { sz := 3, rows := [[dI t0, d8 0, .str []]], frz := 0, pure := false })]) (q := []) (by kernel_rfl) trivial ?_
      refine EvOk.exit ?_
      obtain rfl := someE h
      exact Round.done (neExit _) ⟨rfl, by kernel_rfl⟩
  · replace h := iteF h2 h
    refine At.adv [] [(2, { told := [(4, aB false)], keep := some ([0, 2, 5, 19], [(2, 2), (5, 5)]) })] 400 (ev := .cond false c67x7 c67x8 [.seq c67x9]) (σ' := mkS 56 [(0, .str x0), (2, .lptr 2 0 0), (5, .lptr 5 0 0), (19, .bool false)] [(2, { sz := 3, rows := [[dI 0, d8 0, .str []]], frz := 0, pure := false }), (5, { sz := 3, rows := [[dI t0, d8 0, .str []]], frz := 0, pure := false })]) (q := [True ∧ ((decide (t0 < (x0.length : Int))) = false), True, True, True, True, True]) (by kernel_rfl) ⟨⟨trivial, h2⟩, trivial, trivial, trivial, trivial, trivial, trivial⟩ ?_
    refine EvOk.cond (fun hb => Bool.noConfusion hb) (fun _ => ?_)
    refine At.gc [0, 2, 5] [(2, 2), (5, 5)] (n := 56) (l := [(0, .str x0), (2, .lptr 2 0 0), (5, .lptr 5 0 0)]) (bl := [(2, { sz := 3, rows := [[dI 0, d8 0, .str []]], frz := 0, pure := false }), (5, { sz := 3, rows := [[dI t0, d8 0, .str []]], frz := 0, pure := false })]) (by kernel_rfl) ?_
    refine At.adv [] [] 400 (ev := .exit 0) (σ' := mkS 56 [(0, .str x0), (2, .lptr 2 0 0), (5, .lptr 5 0 0)] [(2, { sz := 3, rows := [[dI 0, d8 0, .str []]], frz := 0, pure := false }), (5, { sz := 3, rows := [[dI t0, d8 0, .str []]], frz := 0, pure := false })]) (q := []) (by kernel_rfl) trivial ?_
    refine EvOk.exit ?_
    obtain rfl := someE h
    exact Round.done (neExit _) ⟨rfl, by kernel_rfl⟩
theorem wj67x1 (q0 : Int) (v4 : Int) (p0 : List UInt8) (p1 : List UInt8) (r : T_api_Type × (List UInt8) × Bool) (h : (j67x1 q0 v4) p0 p1 = some r) (Γ : Ctx) : EvOk Try.prog Γ (Den.Ends Try.prog Try.f67 (.tup [.agg (row_T_api_Type r.1), .str r.2.1, .bool r.2.2])) (mkS 56 [(0, .str p1), (2, .lptr 2 0 0), (5, .lptr 5 0 0)] [(2, { sz := 3, rows := [[dI 0, d8 0, .str []]], frz := 0, pure := false }), (5, { sz := 3, rows := [[dI q0, d8 v4, .str p0]], frz := 0, pure := false })]) (.stop c67x16 [.seq c67x17]) := by
  refine EvOk.stop ?_
  obtain ⟨v10, e11, h⟩ := bindE h
  refine At.adv [] [(15, { told := [(3, aB v10)], keep := some ([2, 3, 4], [(2, 2)]), ord := some ([0, 1, 2, 3, 4, 5, 6], [4, 1001], [(3, [2]), (4, [0, 2, 3]), (5, [0, 1, 2, 3, 4]), (6, [0, 1, 2, 3, 4, 5])]) })] 400 (ev := .ret) (σ' := mkS 56 [(2, .lptr 2 0 0), (3, .str p1), (4, .bool v10)] [(2, { sz := 3, rows := [[dI q0, d8 v4, .str p0]], frz := 0, pure := false })]) (q := [True ∧ (cq Try.prog ((tN 3) ∧ True) 75 [.agg [dI q0, d8 v4, .str p0]] (.bool v10)), True ∧ (0 ≤ 0 ∧ 0 + ([dI q0, d8 v4, .str p0] : List D).length ≤ ([dI 0, d8 0, .str []] : List D).length ∧ ([[dI q0, d8 v4, .str p0]] : List (List D)) = ([[dI q0, d8 v4, .str p0]] : List (List D)))]) (by kernel_rfl) ⟨⟨trivial, cqi (⟨tNi 3, trivial⟩) (w75 e11)⟩, ⟨trivial, ⟨Nat.zero_le _, Nat.le_of_ble_eq_true rfl, rfl⟩⟩, trivial⟩ ?_
  refine EvOk.ret ?_
  obtain rfl := someE h
  exact Den.Ends.mk (.inl rfl) (d := .tup [.agg [dI q0, d8 v4, .str p0], .str p1, .bool v10]) (p := (True ∧ (True ∧ (True ∧ True))) ∧ ((tN 3) ∧ (True ∧ (True ∧ True)))) (by kernel_rfl) ⟨⟨trivial, ⟨trivial, ⟨trivial, trivial⟩⟩⟩, ⟨tNi 3, ⟨trivial, ⟨trivial, trivial⟩⟩⟩⟩ (by kernel_rfl)
theorem we67 (x0 : List UInt8) (r : T_api_Type × (List UInt8) × Bool) (h : m_desc_prefix x0 = some r) (Γ : Ctx) : At Try.prog Γ b67 [] (Den.Ends Try.prog Try.f67 (.tup [.agg (row_T_api_Type r.1), .str r.2.1, .bool r.2.2])) (mkS 56 [(0, .str x0)] []) := by
  refine At.adv [] [(0, { keep := some ([0, 2], [(2, 2)]) }), (1, { keep := some ([0, 2, 5], [(2, 2), (5, 5)]) })] 400 (ev := .loop c67x4 [.blk 0, .seq c67x10]) (σ' := mkS 56 [(0, .str x0), (2, .lptr 2 0 0), (5, .lptr 5 0 0)] [(2, { sz := 3, rows := [[dI 0, d8 0, .str []]], frz := 0, pure := false }), (5, { sz := 3, rows := [[dI 0, d8 0, .str []]], frz := 0, pure := false })]) (q := [True ∧ (0 ≤ 0 ∧ 0 + ([dI 0, d8 0, .str []] : List D).length ≤ ([dI 0, d8 0, .str []] : List D).length ∧ ([[dI 0, d8 0, .str []]] : List (List D)) = ([[dI 0, d8 0, .str []]] : List (List D)))]) (by kernel_rfl) ⟨⟨trivial, ⟨Nat.zero_le _, Nat.le_of_ble_eq_true rfl, rfl⟩⟩, trivial⟩ ?_
  refine EvOk.loop ?_
  obtain ⟨q0, e3, h⟩ := bindE h
  refine At.loop (l67x1 x0) (st67x1 x0) (J67x1 x0) 0 e3 (by kernel_rfl) (fun t x hx => (wl67x1 x0) t x hx Γ) ?_
  intro e σ' hJ
  obtain ⟨rfl, rfl⟩ := hJ
  refine At.exitK (K' := [.seq c67x10]) (by kernel_rfl) ?_
  obtain ⟨v3, e4, h⟩ := bindE h
  refine At.advN [] [(4, { told := [(3, aS v3)], keep := some ([0, 2, 5], [(2, 2), (5, 5)]) }), (5, { keep := some ([0, 2, 5, 29], [(2, 2), (5, 5)]) })] 400 (ev := .cond (v3 == ([] : List UInt8)) c67x30 c67x31 [.seq c67x12]) (σ' := mkS 56 [(0, .str v3), (2, .lptr 2 0 0), (5, .lptr 5 0 0), (29, .bool (v3 == ([] : List UInt8)))] [(2, { sz := 3, rows := [[dI 0, d8 0, .str []]], frz := 0, pure := false }), (5, { sz := 3, rows := [[dI q0, d8 0, .str []]], frz := 0, pure := false })]) (q := [True ∧ (sub x0 q0 (x0.length : Int) = some v3)]) (by kernel_rfl) ⟨⟨trivial, e4⟩, trivial⟩ ?_
  refine EvOk.cond (fun h4 => ?_) (fun h4 => ?_)
  · replace h := iteT h4 h
    refine At.gc [2] [(2, 2)] (n := 56) (l := [(2, .lptr 2 0 0)]) (bl := [(2, { sz := 3, rows := [[dI 0, d8 0, .str []]], frz := 0, pure := false })]) (by kernel_rfl) ?_
    refine At.adv [] [(6, { keep := some ([2, 3, 4], [(2, 2)]) })] 400 (ev := .ret) (σ' := mkS 56 [(2, .lptr 2 0 0), (3, .str []), (4, .bool false)] [(2, { sz := 3, rows := [[dI 0, d8 0, .str []]], frz := 0, pure := false })]) (q := [True ∧ (0 ≤ 0 ∧ 0 + ([dI 0, d8 0, .str []] : List D).length ≤ ([dI 0, d8 0, .str []] : List D).length ∧ ([[dI 0, d8 0, .str []]] : List (List D)) = ([[dI 0, d8 0, .str []]] : List (List D)))]) (by kernel_rfl) ⟨⟨trivial, ⟨Nat.zero_le _, Nat.le_of_ble_eq_true rfl, rfl⟩⟩, trivial⟩ ?_
    refine EvOk.ret ?_
    obtain rfl := someE h
    exact Den.Ends.mk (.inl rfl) (d := .tup [.agg [dI 0, d8 0, .str []], .str [], .bool false]) (p := (True ∧ (True ∧ (True ∧ True))) ∧ ((tN 3) ∧ (True ∧ (True ∧ True)))) (by kernel_rfl) ⟨⟨trivial, ⟨trivial, ⟨trivial, trivial⟩⟩⟩, ⟨tNi 3, ⟨trivial, ⟨trivial, trivial⟩⟩⟩⟩ (by kernel_rfl)
  · replace h := iteF h4 h
    refine At.gc [0, 2, 5] [(2, 2), (5, 5)] (n := 56) (l := [(0, .str v3), (2, .lptr 2 0 0), (5, .lptr 5 0 0)]) (bl := [(2, { sz := 3, rows := [[dI 0, d8 0, .str []]], frz := 0, pure := false }), (5, { sz := 3, rows := [[dI q0, d8 0, .str []]], frz := 0, pure := false })]) (by kernel_rfl) ?_
    obtain ⟨v4, e5, h⟩ := bindE h
    obtain ⟨v5, e6, h⟩ := bindE h
    refine At.adv [] [(7, { told := [(1, a8 v4)], keep := some ([0, 2, 5], [(2, 2), (5, 5)]) }), (8, { told := [(1, aS v5)], keep := some ([0, 2, 5], [(2, 2), (5, 5)]) }), (9, { keep := some ([0, 2, 5, 38], [(2, 2), (5, 5)]) })] 400 (ev := .cond (v4 == 76) c67x20 c67x27 [.seq c67x15]) (σ' := mkS 56 [(0, .str v5), (2, .lptr 2 0 0), (5, .lptr 5 0 0), (38, .bool (v4 == 76))] [(2, { sz := 3, rows := [[dI 0, d8 0, .str []]], frz := 0, pure := false }), (5, { sz := 3, rows := [[dI q0, d8 v4, .str []]], frz := 0, pure := false })]) (q := [True ∧ (getS v3 0 = some v4), True ∧ (0 ≤ 0 ∧ 1 + ([d8 v4] : List D).length ≤ ([dI q0, d8 0, .str []] : List D).length ∧ ([[dI q0, d8 v4, .str []]] : List (List D)) = ([[dI q0, d8 v4, .str []]] : List (List D))), True ∧ (sub v3 1 (v3.length : Int) = some v5)]) (by kernel_rfl) ⟨⟨trivial, e5⟩, ⟨trivial, ⟨Nat.zero_le _, Nat.le_of_ble_eq_true rfl, rfl⟩⟩, ⟨trivial, e6⟩, trivial⟩ ?_
    refine EvOk.cond (fun h5 => ?_) (fun h5 => ?_)
    · replace h := iteT h5 h
      refine At.gc [0, 2, 5] [(2, 2), (5, 5)] (n := 56) (l := [(0, .str v5), (2, .lptr 2 0 0), (5, .lptr 5 0 0)]) (bl := [(2, { sz := 3, rows := [[dI 0, d8 0, .str []]], frz := 0, pure := false }), (5, { sz := 3, rows := [[dI q0, d8 v4, .str []]], frz := 0, pure := false })]) (by kernel_rfl) ?_
      obtain ⟨v6, e7, h⟩ := bindE h
      refine At.adv [] [(10, { told := [(1, aI v6)], keep := some ([0, 2, 5, 6], [(2, 2), (5, 5)]) }), (11, { keep := some ([0, 2, 5, 6, 42], [(2, 2), (5, 5)]) })] 400 (ev := .cond (decide (v6 < 0)) c67x24 c67x25 [.seq c67x26, .seq c67x15]) (σ' := mkS 56 [(0, .str v5), (2, .lptr 2 0 0), (5, .lptr 5 0 0), (6, dI v6), (42, .bool (decide (v6 < 0)))] [(2, { sz := 3, rows := [[dI 0, d8 0, .str []]], frz := 0, pure := false }), (5, { sz := 3, rows := [[dI q0, d8 v4, .str []]], frz := 0, pure := false })]) (q := [True ∧ (cq Try.prog (tN 2) 66 [.str v5, d8 59] (dI v6))]) (by kernel_rfl) ⟨⟨trivial, cqi (tNi 2) (w66 e7)⟩, trivial⟩ ?_
      refine EvOk.cond (fun h6 => ?_) (fun h6 => ?_)
      · replace h := iteT h6 h
        refine At.gc [2] [(2, 2)] (n := 56) (l := [(2, .lptr 2 0 0)]) (bl := [(2, { sz := 3, rows := [[dI 0, d8 0, .str []]], frz := 0, pure := false })]) (by kernel_rfl) ?_
        refine At.adv [] [(12, { keep := some ([2, 3, 4], [(2, 2)]) })] 400 (ev := .ret) (σ' := mkS 56 [(2, .lptr 2 0 0), (3, .str []), (4, .bool false)] [(2, { sz := 3, rows := [[dI 0, d8 0, .str []]], frz := 0, pure := false })]) (q := [True ∧ (0 ≤ 0 ∧ 0 + ([dI 0, d8 0, .str []] : List D).length ≤ ([dI 0, d8 0, .str []] : List D).length ∧ ([[dI 0, d8 0, .str []]] : List (List D)) = ([[dI 0, d8 0, .str []]] : List (List D)))]) (by kernel_rfl) ⟨⟨trivial, ⟨Nat.zero_le _, Nat.le_of_ble_eq_true rfl, rfl⟩⟩, trivial⟩ ?_
        refine EvOk.ret ?_
        obtain rfl := someE h
        exact Den.Ends.mk (.inl rfl) (d := .tup [.agg [dI 0, d8 0, .str []], .str [], .bool false]) (p := (True ∧ (True ∧ (True ∧ True))) ∧ ((tN 3) ∧ (True ∧ (True ∧ True)))) (by kernel_rfl) ⟨⟨trivial, ⟨trivial, ⟨trivial, trivial⟩⟩⟩, ⟨tNi 3, ⟨trivial, ⟨trivial, trivial⟩⟩⟩⟩ (by kernel_rfl)
      · replace h := iteF h6 h
        refine At.gc [0, 2, 5, 6] [(2, 2), (5, 5)] (n := 56) (l := [(0, .str v5), (2, .lptr 2 0 0), (5, .lptr 5 0 0), (6, dI v6)]) (bl := [(2, { sz := 3, rows := [[dI 0, d8 0, .str []]], frz := 0, pure := false }), (5, { sz := 3, rows := [[dI q0, d8 v4, .str []]], frz := 0, pure := false })]) (by kernel_rfl) ?_
        obtain ⟨v7, e8, h⟩ := bindE h
        obtain ⟨v8, e9, h⟩ := bindE h
        obtain ⟨v9, e10, h⟩ := bindE h
        refine At.adv [15] [(13, { told := [(2, aS v7)], keep := some ([0, 2, 5, 6], [(2, 2), (5, 5)]) }), (14, { told := [(2, aI v8), (3, aS v9)], keep := some ([0, 2, 5], [(2, 2), (5, 5)]) })] 400 (ev := .stop c67x16 [.seq c67x17]) (σ' := mkS 56 [(0, .str v9), (2, .lptr 2 0 0), (5, .lptr 5 0 0)] [(2, { sz := 3, rows := [[dI 0, d8 0, .str []]], frz := 0, pure := false }), (5, { sz := 3, rows := [[dI q0, d8 v4, .str v7]], frz := 0, pure := false })]) (q := [True ∧ (sub v5 0 v6 = some v7), True ∧ (0 ≤ 0 ∧ 2 + ([.str v7] : List D).length ≤ ([dI q0, d8 v4, .str []] : List D).length ∧ ([[dI q0, d8 v4, .str v7]] : List (List D)) = ([[dI q0, d8 v4, .str v7]] : List (List D))), True ∧ (IntKind.wrap .i64 (v6 + (1 : Int)) = v8), True ∧ (sub v5 v8 (v5.length : Int) = some v9)]) (by kernel_rfl) ⟨⟨trivial, e8⟩, ⟨trivial, ⟨Nat.zero_le _, Nat.le_of_ble_eq_true rfl, rfl⟩⟩, ⟨trivial, someE e9⟩, ⟨trivial, e10⟩, trivial⟩ ?_
        exact (wj67x1 q0 v4) v7 v9 r h Γ
    · replace h := iteF h5 h
      refine At.gc [0, 2, 5] [(2, 2), (5, 5)] (n := 56) (l := [(0, .str v5), (2, .lptr 2 0 0), (5, .lptr 5 0 0)]) (bl := [(2, { sz := 3, rows := [[dI 0, d8 0, .str []]], frz := 0, pure := false }), (5, { sz := 3, rows := [[dI q0, d8 v4, .str []]], frz := 0, pure := false })]) (by kernel_rfl) ?_
      refine At.adv [15] [] 400 (ev := .stop c67x16 [.seq c67x17]) (σ' := mkS 56 [(0, .str v5), (2, .lptr 2 0 0), (5, .lptr 5 0 0)] [(2, { sz := 3, rows := [[dI 0, d8 0, .str []]], frz := 0, pure := false }), (5, { sz := 3, rows := [[dI q0, d8 v4, .str []]], frz := 0, pure := false })]) (q := []) (by kernel_rfl) trivial ?_
      exact (wj67x1 q0 v4) [] v5 r h Γ
theorem w67 {x0 : List UInt8} {r : T_api_Type × (List UInt8) × Bool} (h : m_desc_prefix x0 = some r) : CallSpec Try.prog 67 [.str x0] (.tup [.agg (row_T_api_Type r.1), .str r.2.1, .bool r.2.2]) :=
  CallSpec.at2 b67 (n := 56) (l := [(0, .str x0)]) (by kernel_rfl) (by kernel_rfl) (by kernel_rfl) (by kernel_rfl) (by kernel_rfl) (Nat.le_of_ble_eq_true (by kernel_rfl)) (fun Γ => we67 x0 r h Γ)

/-! ### armature desc.Parse -/
noncomputable def b56 : Code := Try.f56.body.getD .skip
noncomputable def c56x0 : Code := sub1 b56
noncomputable def c56x1 : Code := sub1 c56x0
noncomputable def c56x2 : Code := sub0 c56x1
noncomputable def c56x3 : Code := sub1 c56x2
noncomputable def c56x4 : Code := sub0 c56x3
noncomputable def c56x5 : Code := sub1 c56x3
noncomputable def c56x6 : Code := sub1 c56x1
def m_desc_Parse (x0 : List UInt8) : Option (T_api_Type × Int) :=
  (m_desc_prefix x0).bind fun v0 =>
  if (!v0.2.2) = true then (some (({ f_Dim := 0, f_Base := 0, f_Name := [] } : T_api_Type), 13)) else
  (if (!(v0.2.1 == ([] : List UInt8))) = true then
    (some (({ f_Dim := 0, f_Base := 0, f_Name := [] } : T_api_Type), 13)) else
  (some (v0.1, 0)))
theorem we56 (x0 : List UInt8) (r : T_api_Type × Int) (h : m_desc_Parse x0 = some r) (Γ : Ctx) : At Try.prog Γ b56 [] (Den.Ends Try.prog Try.f56 (.tup [.agg (row_T_api_Type r.1), dI r.2])) (mkS 21 [(0, .str x0)] []) := by
  obtain ⟨v0, e0, h⟩ := bindE h
  rcases Bool.eq_false_or_eq_true (!v0.2.2) with h0 | h0
  · replace h := iteT h0 h
    refine At.adv [] [(0, { keep := some ([0, 2], [(2, 2)]) }), (1, { told := [(1, { ans := .val (.tup [.agg (row_T_api_Type v0.1), .str v0.2.1, .bool v0.2.2]) })], keep := some ([2, 4, 5, 6], [(2, 2), (4, 4)]) }), (2, { told := [(5, aT)], gs := [(3, false), (4, false)], keep := some ([2, 4, 18], [(2, 2), (4, 4)]) })] 400 (ev := .cond true c56x4 c56x5 [.seq c56x6]) (σ' := mkS 21 [(2, .lptr 2 0 0), (4, .lptr 4 0 0), (18, .bool true)] [(2, { sz := 3, rows := [[dI 0, d8 0, .str []]], frz := 0, pure := false }), (4, { sz := 3, rows := [row_T_api_Type v0.1], frz := 0, pure := false })]) (q := [True ∧ (cq Try.prog (tN 1) 67 [.str x0] (.tup [.agg (row_T_api_Type v0.1), .str v0.2.1, .bool v0.2.2])), True ∧ (0 ≤ 0 ∧ 0 + ([dI v0.1.f_Dim, d8 v0.1.f_Base, .str v0.1.f_Name] : List D).length ≤ ([dI 0, d8 0, .str []] : List D).length ∧ ([[dI v0.1.f_Dim, d8 v0.1.f_Base, .str v0.1.f_Name]] : List (List D)) = ([[dI v0.1.f_Dim, d8 v0.1.f_Base, .str v0.1.f_Name]] : List (List D))), ((!v0.2.2) == false) = false, ((!v0.2.2) == false) = false, True ∧ ((!v0.2.2) = true)]) (by kernel_rfl) ⟨⟨trivial, cqi (tNi 1) (w67 e0)⟩, ⟨trivial, ⟨Nat.zero_le _, Nat.le_of_ble_eq_true rfl, rfl⟩⟩, gB h0 rfl, gB h0 rfl, ⟨trivial, h0⟩, trivial⟩ ?_
    refine EvOk.cond (fun _ => ?_) (fun hb => Bool.noConfusion hb)
    refine At.gc [2] [(2, 2)] (n := 21) (l := [(2, .lptr 2 0 0)]) (bl := [(2, { sz := 3, rows := [[dI 0, d8 0, .str []]], frz := 0, pure := false })]) (by kernel_rfl) ?_
    refine At.adv [] [(3, { keep := some ([2, 3], [(2, 2)]) })] 400 (ev := .ret) (σ' := mkS 21 [(2, .lptr 2 0 0), (3, dI 13)] [(2, { sz := 3, rows := [[dI 0, d8 0, .str []]], frz := 0, pure := false })]) (q := [True ∧ (0 ≤ 0 ∧ 0 + ([dI 0, d8 0, .str []] : List D).length ≤ ([dI 0, d8 0, .str []] : List D).length ∧ ([[dI 0, d8 0, .str []]] : List (List D)) = ([[dI 0, d8 0, .str []]] : List (List D)))]) (by kernel_rfl) ⟨⟨trivial, ⟨Nat.zero_le _, Nat.le_of_ble_eq_true rfl, rfl⟩⟩, trivial⟩ ?_
    refine EvOk.ret ?_
    obtain rfl := someE h
    exact Den.Ends.mk (.inl rfl) (d := .tup [.agg [dI 0, d8 0, .str []], dI 13]) (p := (True ∧ (True ∧ True)) ∧ ((tN 3) ∧ (True ∧ True))) (by kernel_rfl) ⟨⟨trivial, ⟨trivial, trivial⟩⟩, ⟨tNi 3, ⟨trivial, trivial⟩⟩⟩ (by kernel_rfl)
  · replace h := iteF h0 h
    refine At.adv [] [(0, { keep := some ([0, 2], [(2, 2)]) }), (1, { told := [(1, { ans := .val (.tup [.agg (row_T_api_Type v0.1), .str v0.2.1, .bool v0.2.2]) })], keep := some ([2, 4, 5, 6], [(2, 2), (4, 4)]) }), (2, { told := [(5, aF)], gs := [(3, true), (4, true)], keep := some ([2, 4, 18], [(2, 2), (4, 4)]) })] 400 (ev := .cond (!(v0.2.1 == ([] : List UInt8))) c56x4 c56x5 [.seq c56x6]) (σ' := mkS 21 [(2, .lptr 2 0 0), (4, .lptr 4 0 0), (18, .bool (!(v0.2.1 == ([] : List UInt8))))] [(2, { sz := 3, rows := [[dI 0, d8 0, .str []]], frz := 0, pure := false }), (4, { sz := 3, rows := [row_T_api_Type v0.1], frz := 0, pure := false })]) (q := [True ∧ (cq Try.prog (tN 1) 67 [.str x0] (.tup [.agg (row_T_api_Type v0.1), .str v0.2.1, .bool v0.2.2])), True ∧ (0 ≤ 0 ∧ 0 + ([dI v0.1.f_Dim, d8 v0.1.f_Base, .str v0.1.f_Name] : List D).length ≤ ([dI 0, d8 0, .str []] : List D).length ∧ ([[dI v0.1.f_Dim, d8 v0.1.f_Base, .str v0.1.f_Name]] : List (List D)) = ([[dI v0.1.f_Dim, d8 v0.1.f_Base, .str v0.1.f_Name]] : List (List D))), ((!v0.2.2) == false) = true ∧ True, ((!v0.2.2) == false) = true ∧ True, True ∧ ((!v0.2.2) = false)]) (by kernel_rfl) ⟨⟨trivial, cqi (tNi 1) (w67 e0)⟩, ⟨trivial, ⟨Nat.zero_le _, Nat.le_of_ble_eq_true rfl, rfl⟩⟩, ⟨(gB h0 rfl), trivial⟩, ⟨(gB h0 rfl), trivial⟩, ⟨trivial, h0⟩, trivial⟩ ?_
    refine EvOk.cond (fun h1 => ?_) (fun h1 => ?_)
    · replace h := iteT h1 h
      refine At.gc [2] [(2, 2)] (n := 21) (l := [(2, .lptr 2 0 0)]) (bl := [(2, { sz := 3, rows := [[dI 0, d8 0, .str []]], frz := 0, pure := false })]) (by kernel_rfl) ?_
      refine At.adv [] [(3, { keep := some ([2, 3], [(2, 2)]) })] 400 (ev := .ret) (σ' := mkS 21 [(2, .lptr 2 0 0), (3, dI 13)] [(2, { sz := 3, rows := [[dI 0, d8 0, .str []]], frz := 0, pure := false })]) (q := [True ∧ (0 ≤ 0 ∧ 0 + ([dI 0, d8 0, .str []] : List D).length ≤ ([dI 0, d8 0, .str []] : List D).length ∧ ([[dI 0, d8 0, .str []]] : List (List D)) = ([[dI 0, d8 0, .str []]] : List (List D)))]) (by kernel_rfl) ⟨⟨trivial, ⟨Nat.zero_le _, Nat.le_of_ble_eq_true rfl, rfl⟩⟩, trivial⟩ ?_
      refine EvOk.ret ?_
      obtain rfl := someE h
      exact Den.Ends.mk (.inl rfl) (d := .tup [.agg [dI 0, d8 0, .str []], dI 13]) (p := (True ∧ (True ∧ True)) ∧ ((tN 3) ∧ (True ∧ True))) (by kernel_rfl) ⟨⟨trivial, ⟨trivial, trivial⟩⟩, ⟨tNi 3, ⟨trivial, trivial⟩⟩⟩ (by kernel_rfl)
    · replace h := iteF h1 h
      refine At.gc [2, 4] [(2, 2), (4, 4)] (n := 21) (l := [(2, .lptr 2 0 0), (4, .lptr 4 0 0)]) (bl := [(2, { sz := 3, rows := [[dI 0, d8 0, .str []]], frz := 0, pure := false }), (4, { sz := 3, rows := [row_T_api_Type v0.1], frz := 0, pure := false })]) (by kernel_rfl) ?_
      refine At.adv [] [(4, { keep := some ([2, 3], [(2, 2)]) })] 400 (ev := .ret) (σ' := mkS 21 [(2, .lptr 2 0 0), (3, dI 0)] [(2, { sz := 3, rows := [row_T_api_Type v0.1], frz := 0, pure := false })]) (q := [True ∧ (0 ≤ 0 ∧ 0 + ([dI v0.1.f_Dim, d8 v0.1.f_Base, .str v0.1.f_Name] : List D).length ≤ ([dI 0, d8 0, .str []] : List D).length ∧ ([[dI v0.1.f_Dim, d8 v0.1.f_Base, .str v0.1.f_Name]] : List (List D)) = ([[dI v0.1.f_Dim, d8 v0.1.f_Base, .str v0.1.f_Name]] : List (List D)))]) (by kernel_rfl) ⟨⟨trivial, ⟨Nat.zero_le _, Nat.le_of_ble_eq_true rfl, rfl⟩⟩, trivial⟩ ?_
      refine EvOk.ret ?_
      obtain rfl := someE h
      exact Den.Ends.mk (.inl rfl) (d := .tup [.agg [dI v0.1.f_Dim, d8 v0.1.f_Base, .str v0.1.f_Name], dI 0]) (p := (True ∧ (True ∧ True)) ∧ ((tN 3) ∧ (True ∧ True))) (by kernel_rfl) ⟨⟨trivial, ⟨trivial, trivial⟩⟩, ⟨tNi 3, ⟨trivial, trivial⟩⟩⟩ (by kernel_rfl)
theorem w56 {x0 : List UInt8} {r : T_api_Type × Int} (h : m_desc_Parse x0 = some r) : CallSpec Try.prog 56 [.str x0] (.tup [.agg (row_T_api_Type r.1), .int .i64 r.2]) :=
  CallSpec.at2 b56 (n := 21) (l := [(0, .str x0)]) (by kernel_rfl) (by kernel_rfl) (by kernel_rfl) (by kernel_rfl) (by kernel_rfl) (Nat.le_of_ble_eq_true (by kernel_rfl)) (fun Γ => we56 x0 r h Γ)

/-! ### armature desc.ParseClassConstant -/
noncomputable def b54 : Code := Try.f54.body.getD .skip
noncomputable def c54x0 : Code := sub1 b54
noncomputable def c54x1 : Code := sub1 c54x0
noncomputable def c54x2 : Code := sub0 c54x1
noncomputable def c54x3 : Code := sub1 c54x2
noncomputable def c54x4 : Code := sub0 c54x3
noncomputable def c54x5 : Code := sub1 c54x3
noncomputable def c54x6 : Code := sub1 c54x1
noncomputable def c54x7 : Code := sub0 c54x0
noncomputable def c54x8 : Code := sub1 c54x7
noncomputable def c54x9 : Code := sub0 c54x8
noncomputable def c54x10 : Code := sub1 c54x8
def m_desc_ParseClassConstant (x0 : List UInt8) : Option (T_api_Type × Int) :=
  (m_name_IsClassName x0).bind fun v0 =>
  if v0 = true then
    (some (({ f_Dim := 0, f_Base := 76, f_Name := x0 } : T_api_Type), 0)) else
  ((m_strings_HasPrefix x0 [91]).bind fun v1 =>
    if v1 = true then
      ((m_desc_Parse x0).bind fun v2 =>
      some (v2.1, v2.2)) else
    (some (({ f_Dim := 0, f_Base := 0, f_Name := [] } : T_api_Type), 13)))
theorem we54 (x0 : List UInt8) (r : T_api_Type × Int) (h : m_desc_ParseClassConstant x0 = some r) (Γ : Ctx) : At Try.prog Γ b54 [] (Den.Ends Try.prog Try.f54 (.tup [.agg (row_T_api_Type r.1), dI r.2])) (mkS 15 [(0, .str x0)] []) := by
  obtain ⟨v0, e0, h⟩ := bindE h
  refine At.adv [] [(0, { keep := some ([0, 2], [(2, 2)]) }), (1, { told := [(1, aB v0)], keep := some ([0, 2, 5], [(2, 2)]) })] 400 (ev := .cond v0 c54x9 c54x10 [.seq c54x1]) (σ' := mkS 15 [(0, .str x0), (2, .lptr 2 0 0), (5, .bool v0)] [(2, { sz := 3, rows := [[dI 0, d8 0, .str []]], frz := 0, pure := false })]) (q := [True ∧ (cq Try.prog (tN 1) 64 [.str x0] (.bool v0))]) (by kernel_rfl) ⟨⟨trivial, cqi (tNi 1) (w64 e0)⟩, trivial⟩ ?_
  refine EvOk.cond (fun h0 => ?_) (fun h0 => ?_)
  · replace h := iteT h0 h
    refine At.gc [0, 2] [(2, 2)] (n := 15) (l := [(0, .str x0), (2, .lptr 2 0 0)]) (bl := [(2, { sz := 3, rows := [[dI 0, d8 0, .str []]], frz := 0, pure := false })]) (by kernel_rfl) ?_
    refine At.adv [] [(2, { keep := some ([2, 3], [(2, 2)]) })] 400 (ev := .ret) (σ' := mkS 15 [(2, .lptr 2 0 0), (3, dI 0)] [(2, { sz := 3, rows := [[dI 0, d8 76, .str x0]], frz := 0, pure := false })]) (q := [True ∧ (0 ≤ 0 ∧ 0 + ([dI 0, d8 76, .str x0] : List D).length ≤ ([dI 0, d8 0, .str []] : List D).length ∧ ([[dI 0, d8 76, .str x0]] : List (List D)) = ([[dI 0, d8 76, .str x0]] : List (List D)))]) (by kernel_rfl) ⟨⟨trivial, ⟨Nat.zero_le _, Nat.le_of_ble_eq_true rfl, rfl⟩⟩, trivial⟩ ?_
    refine EvOk.ret ?_
    obtain rfl := someE h
    exact Den.Ends.mk (.inl rfl) (d := .tup [.agg [dI 0, d8 76, .str x0], dI 0]) (p := (True ∧ (True ∧ True)) ∧ ((tN 3) ∧ (True ∧ True))) (by kernel_rfl) ⟨⟨trivial, ⟨trivial, trivial⟩⟩, ⟨tNi 3, ⟨trivial, trivial⟩⟩⟩ (by kernel_rfl)
  · replace h := iteF h0 h
    refine At.gc [0, 2] [(2, 2)] (n := 15) (l := [(0, .str x0), (2, .lptr 2 0 0)]) (bl := [(2, { sz := 3, rows := [[dI 0, d8 0, .str []]], frz := 0, pure := false })]) (by kernel_rfl) ?_
    obtain ⟨v1, e1, h⟩ := bindE h
    refine At.adv [] [(3, { told := [(1, aB v1)], keep := some ([0, 2, 9], [(2, 2)]) })] 400 (ev := .cond v1 c54x4 c54x5 [.seq c54x6]) (σ' := mkS 15 [(0, .str x0), (2, .lptr 2 0 0), (9, .bool v1)] [(2, { sz := 3, rows := [[dI 0, d8 0, .str []]], frz := 0, pure := false })]) (q := [True ∧ (cq Try.prog (tN 2) 65 [.str x0, .str [91]] (.bool v1))]) (by kernel_rfl) ⟨⟨trivial, cqi (tNi 2) (w65 e1)⟩, trivial⟩ ?_
    refine EvOk.cond (fun h1 => ?_) (fun h1 => ?_)
    · replace h := iteT h1 h
      refine At.gc [0, 2] [(2, 2)] (n := 15) (l := [(0, .str x0), (2, .lptr 2 0 0)]) (bl := [(2, { sz := 3, rows := [[dI 0, d8 0, .str []]], frz := 0, pure := false })]) (by kernel_rfl) ?_
      obtain ⟨v2, e2, h⟩ := bindE h
      refine At.adv [] [(4, { told := [(1, { ans := .val (.tup [.agg (row_T_api_Type v2.1), dI v2.2]) })], keep := some ([2, 3], [(2, 2)]) })] 400 (ev := .ret) (σ' := mkS 15 [(2, .lptr 2 0 0), (3, dI v2.2)] [(2, { sz := 3, rows := [row_T_api_Type v2.1], frz := 0, pure := false })]) (q := [True ∧ (cq Try.prog (tN 1) 56 [.str x0] (.tup [.agg (row_T_api_Type v2.1), dI v2.2])), True ∧ (0 ≤ 0 ∧ 0 + ([dI v2.1.f_Dim, d8 v2.1.f_Base, .str v2.1.f_Name] : List D).length ≤ ([dI 0, d8 0, .str []] : List D).length ∧ ([[dI v2.1.f_Dim, d8 v2.1.f_Base, .str v2.1.f_Name]] : List (List D)) = ([[dI v2.1.f_Dim, d8 v2.1.f_Base, .str v2.1.f_Name]] : List (List D)))]) (by kernel_rfl) ⟨⟨trivial, cqi (tNi 1) (w56 e2)⟩, ⟨trivial, ⟨Nat.zero_le _, Nat.le_of_ble_eq_true rfl, rfl⟩⟩, trivial⟩ ?_
      refine EvOk.ret ?_
      obtain rfl := someE h
      exact Den.Ends.mk (.inl rfl) (d := .tup [.agg [dI v2.1.f_Dim, d8 v2.1.f_Base, .str v2.1.f_Name], dI v2.2]) (p := (True ∧ (True ∧ True)) ∧ ((tN 3) ∧ (True ∧ True))) (by kernel_rfl) ⟨⟨trivial, ⟨trivial, trivial⟩⟩, ⟨tNi 3, ⟨trivial, trivial⟩⟩⟩ (by kernel_rfl)
    · replace h := iteF h1 h
      refine At.gc [2] [(2, 2)] (n := 15) (l := [(2, .lptr 2 0 0)]) (bl := [(2, { sz := 3, rows := [[dI 0, d8 0, .str []]], frz := 0, pure := false })]) (by kernel_rfl) ?_
      refine At.adv [] [(5, { keep := some ([2, 3], [(2, 2)]) })] 400 (ev := .ret) (σ' := mkS 15 [(2, .lptr 2 0 0), (3, dI 13)] [(2, { sz := 3, rows := [[dI 0, d8 0, .str []]], frz := 0, pure := false })]) (q := [True ∧ (0 ≤ 0 ∧ 0 + ([dI 0, d8 0, .str []] : List D).length ≤ ([dI 0, d8 0, .str []] : List D).length ∧ ([[dI 0, d8 0, .str []]] : List (List D)) = ([[dI 0, d8 0, .str []]] : List (List D)))]) (by kernel_rfl) ⟨⟨trivial, ⟨Nat.zero_le _, Nat.le_of_ble_eq_true rfl, rfl⟩⟩, trivial⟩ ?_
      refine EvOk.ret ?_
      obtain rfl := someE h
      exact Den.Ends.mk (.inl rfl) (d := .tup [.agg [dI 0, d8 0, .str []], dI 13]) (p := (True ∧ (True ∧ True)) ∧ ((tN 3) ∧ (True ∧ True))) (by kernel_rfl) ⟨⟨trivial, ⟨trivial, trivial⟩⟩, ⟨tNi 3, ⟨trivial, trivial⟩⟩⟩ (by kernel_rfl)
theorem w54 {x0 : List UInt8} {r : T_api_Type × Int} (h : m_desc_ParseClassConstant x0 = some r) : CallSpec Try.prog 54 [.str x0] (.tup [.agg (row_T_api_Type r.1), .int .i64 r.2]) :=
  CallSpec.at2 b54 (n := 15) (l := [(0, .str x0)]) (by kernel_rfl) (by kernel_rfl) (by kernel_rfl) (by kernel_rfl) (by kernel_rfl) (Nat.le_of_ble_eq_true (by kernel_rfl)) (fun Γ => we54 x0 r h Γ)

/-! ### armature name.IsMemberName -/
noncomputable def b55 : Code := Try.f55.body.getD .skip
noncomputable def c55x0 : Code := sub1 b55
noncomputable def c55x1 : Code := sub0 c55x0
noncomputable def c55x2 : Code := sub1 c55x1
noncomputable def c55x3 : Code := sub0 c55x2
noncomputable def c55x4 : Code := sub1 c55x2
noncomputable def c55x5 : Code := sub1 c55x0
noncomputable def c55x6 : Code := sub0 c55x5
noncomputable def c55x7 : Code := sub1 c55x5
def j55x1 (x0 : List UInt8) : Option (Bool) :=
  (m_name_IsClassName x0).bind fun v0 =>
  if v0 = true then ((m_strings_IndexByte x0 47).bind fun v1 =>
  some (decide (v1 < 0))) else
  (some false)
def m_name_IsMemberName (x0 : List UInt8) : Option (Bool) :=
  if (x0 == ([60, 105, 110, 105, 116, 62] : List UInt8)) = true then (some true) else
  (if (x0 == ([60, 99, 108, 105, 110, 105, 116, 62] : List UInt8)) = true then
    (some true) else
  ((j55x1 x0) ))
theorem wj55x1 (x0 : List UInt8) (r : Bool) (h : (j55x1 x0)  = some r) (Γ : Ctx) : EvOk Try.prog Γ (Den.Ends Try.prog Try.f55 (.bool r)) (mkS 16 [(0, .str x0)] []) (.stop c55x6 [.seq c55x7]) := by
  refine EvOk.stop ?_
  obtain ⟨v0, e0, h⟩ := bindE h
  rcases Bool.eq_false_or_eq_true v0 with h2 | h2
  · replace h := iteT h2 h
    obtain ⟨v1, e1, h⟩ := bindE h
    refine At.adv [] [(3, { told := [(1, aB v0), (4, aI v1), (6, aT)], gs := [(3, true), (4, true), (5, true)], keep := some ([2], []) })] 400 (ev := .ret) (σ' := mkS 16 [(2, .bool (decide (v1 < 0)))] []) (q := [True ∧ (cq Try.prog (tN 1) 64 [.str x0] (.bool v0)), (v0 == true) = true ∧ True, (v0 == true) = true ∧ (cq Try.prog (tN 2) 66 [.str x0, d8 47] (dI v1)), (v0 == true) = true ∧ True, True ∧ (v0 = true)]) (by kernel_rfl) ⟨⟨trivial, cqi (tNi 1) (w64 e0)⟩, ⟨(gB h2 rfl), trivial⟩, ⟨(gB h2 rfl), cqi (tNi 2) (w66 e1)⟩, ⟨(gB h2 rfl), trivial⟩, ⟨trivial, h2⟩, trivial⟩ ?_
    refine EvOk.ret ?_
    obtain rfl := someE h
    exact Den.Ends.mk (.inl rfl) (d := .bool (decide (v1 < 0))) (p := (True ∧ True) ∧ (tN 1)) (by kernel_rfl) ⟨⟨trivial, trivial⟩, tNi 1⟩ (by kernel_rfl)
  · replace h := iteF h2 h
    refine At.adv [] [(3, { told := [(1, aB v0), (6, aF)], gs := [(3, false), (4, false), (5, false)], keep := some ([2], []) })] 400 (ev := .ret) (σ' := mkS 16 [(2, .bool false)] []) (q := [True ∧ (cq Try.prog (tN 1) 64 [.str x0] (.bool v0)), (v0 == true) = false, (v0 == true) = false, (v0 == true) = false, True ∧ (v0 = false)]) (by kernel_rfl) ⟨⟨trivial, cqi (tNi 1) (w64 e0)⟩, gB h2 rfl, gB h2 rfl, gB h2 rfl, ⟨trivial, h2⟩, trivial⟩ ?_
    refine EvOk.ret ?_
    obtain rfl := someE h
    exact Den.Ends.mk (.inl rfl) (d := .bool false) (p := (True ∧ True) ∧ (tN 1)) (by kernel_rfl) ⟨⟨trivial, trivial⟩, tNi 1⟩ (by kernel_rfl)
theorem we55 (x0 : List UInt8) (r : Bool) (h : m_name_IsMemberName x0 = some r) (Γ : Ctx) : At Try.prog Γ b55 [] (Den.Ends Try.prog Try.f55 (.bool r)) (mkS 16 [(0, .str x0)] []) := by
  rcases Bool.eq_false_or_eq_true (x0 == ([60, 105, 110, 105, 116, 62] : List UInt8)) with h0 | h0
  · replace h := iteT h0 h
    refine At.adv [] [(0, { keep := some ([0], []) }), (1, { told := [(1, aB true)], keep := some ([0, 8], []) })] 400 (ev := .cond true c55x3 c55x4 [.seq c55x5]) (σ' := mkS 16 [(0, .str x0), (8, .bool true)] []) (q := [True ∧ ((x0 == ([60, 105, 110, 105, 116, 62] : List UInt8)) = true), True, True]) (by kernel_rfl) ⟨⟨trivial, h0⟩, trivial, trivial, trivial⟩ ?_
    refine EvOk.cond (fun _ => ?_) (fun hb => Bool.noConfusion hb)
    refine At.gc [] [] (n := 16) (l := []) (bl := []) (by kernel_rfl) ?_
    refine At.adv [] [(2, { keep := some ([2], []) })] 400 (ev := .ret) (σ' := mkS 16 [(2, .bool true)] []) (q := []) (by kernel_rfl) trivial ?_
    refine EvOk.ret ?_
    obtain rfl := someE h
    exact Den.Ends.mk (.inl rfl) (d := .bool true) (p := (True ∧ True) ∧ (tN 1)) (by kernel_rfl) ⟨⟨trivial, trivial⟩, tNi 1⟩ (by kernel_rfl)
  · replace h := iteF h0 h
    refine At.adv [] [(0, { keep := some ([0], []) }), (1, { told := [(1, aB false)], keep := some ([0, 8], []) })] 400 (ev := .cond (x0 == ([60, 99, 108, 105, 110, 105, 116, 62] : List UInt8)) c55x3 c55x4 [.seq c55x5]) (σ' := mkS 16 [(0, .str x0), (8, .bool (x0 == ([60, 99, 108, 105, 110, 105, 116, 62] : List UInt8)))] []) (q := [True ∧ ((x0 == ([60, 105, 110, 105, 116, 62] : List UInt8)) = false), True ∧ True, True ∧ True]) (by kernel_rfl) ⟨⟨trivial, h0⟩, ⟨trivial, trivial⟩, ⟨trivial, trivial⟩, trivial⟩ ?_
    refine EvOk.cond (fun h1 => ?_) (fun h1 => ?_)
    · replace h := iteT h1 h
      refine At.gc [] [] (n := 16) (l := []) (bl := []) (by kernel_rfl) ?_
      refine At.adv [] [(2, { keep := some ([2], []) })] 400 (ev := .ret) (σ' := mkS 16 [(2, .bool true)] []) (q := []) (by kernel_rfl) trivial ?_
      refine EvOk.ret ?_
      obtain rfl := someE h
      exact Den.Ends.mk (.inl rfl) (d := .bool true) (p := (True ∧ True) ∧ (tN 1)) (by kernel_rfl) ⟨⟨trivial, trivial⟩, tNi 1⟩ (by kernel_rfl)
    · replace h := iteF h1 h
      refine At.gc [0] [] (n := 16) (l := [(0, .str x0)]) (bl := []) (by kernel_rfl) ?_
      refine At.adv [3] [] 400 (ev := .stop c55x6 [.seq c55x7]) (σ' := mkS 16 [(0, .str x0)] []) (q := []) (by kernel_rfl) trivial ?_
      exact (wj55x1 x0)  r h Γ
theorem w55 {x0 : List UInt8} {r : Bool} (h : m_name_IsMemberName x0 = some r) : CallSpec Try.prog 55 [.str x0] (.bool r) :=
  CallSpec.at2 b55 (n := 16) (l := [(0, .str x0)]) (by kernel_rfl) (by kernel_rfl) (by kernel_rfl) (by kernel_rfl) (by kernel_rfl) (Nat.le_of_ble_eq_true (by kernel_rfl)) (fun Γ => we55 x0 r h Γ)

/-! ### armature desc.ParseSignature -/
noncomputable def b57 : Code := Try.f57.body.getD .skip
noncomputable def c57x0 : Code := sub1 b57
noncomputable def c57x1 : Code := sub0 c57x0
noncomputable def c57x2 : Code := sub1 c57x1
noncomputable def c57x3 : Code := sub0 c57x2
noncomputable def c57x4 : Code := sub1 c57x2
noncomputable def c57x5 : Code := sub1 c57x0
noncomputable def c57x6 : Code := sub0 c57x5
noncomputable def c57x7 : Code := sub1 c57x5
noncomputable def c57x8 : Code := sub1 c57x7
noncomputable def c57x9 : Code := sub0 c57x8
noncomputable def c57x10 : Code := sub0 c57x9
noncomputable def c57x11 : Code := sub0 c57x10
noncomputable def c57x12 : Code := sub1 c57x11
noncomputable def c57x13 : Code := sub0 c57x12
noncomputable def c57x14 : Code := sub0 c57x13
noncomputable def c57x15 : Code := sub1 c57x13
noncomputable def c57x16 : Code := sub0 c57x11
noncomputable def c57x17 : Code := sub1 c57x16
noncomputable def c57x18 : Code := sub0 c57x17
noncomputable def c57x19 : Code := sub1 c57x17
noncomputable def c57x20 : Code := sub0 c57x15
noncomputable def c57x21 : Code := sub1 c57x20
noncomputable def c57x22 : Code := sub0 c57x21
noncomputable def c57x23 : Code := sub1 c57x21
noncomputable def c57x24 : Code := sub1 c57x15
noncomputable def c57x25 : Code := sub0 c57x24
noncomputable def c57x26 : Code := sub1 c57x24
noncomputable def c57x27 : Code := sub1 c57x8
noncomputable def c57x28 : Code := sub1 c57x27
noncomputable def c57x29 : Code := sub1 c57x28
noncomputable def c57x30 : Code := sub1 c57x29
noncomputable def c57x31 : Code := sub0 c57x30
noncomputable def c57x32 : Code := sub1 c57x31
noncomputable def c57x33 : Code := sub0 c57x32
noncomputable def c57x34 : Code := sub1 c57x32
noncomputable def c57x35 : Code := sub1 c57x30
noncomputable def c57x36 : Code := sub0 c57x29
noncomputable def c57x37 : Code := sub1 c57x36
noncomputable def c57x38 : Code := sub0 c57x37
noncomputable def c57x39 : Code := sub1 c57x37
noncomputable def c57x40 : Code := sub0 c57x27
noncomputable def c57x41 : Code := sub1 c57x40
noncomputable def c57x42 : Code := sub0 c57x41
noncomputable def c57x43 : Code := sub1 c57x41
def j57x3 (t0 : (List UInt8) × (List T_api_Type)) (v9 : T_api_Type × (List UInt8) × Bool) : Option (Ctl ((List UInt8) × (List T_api_Type)) (((List T_api_Type) × (List UInt8)) ⊕ (T_api_Sig × Int))) :=
  (growK 32 (t0.2 ++ [v9.1]).length).bind fun v10 =>
  some (.next (v9.2.1, (t0.2 ++ [v9.1])))
def j57x2 (t0 : (List UInt8) × (List T_api_Type)) : Option (Ctl ((List UInt8) × (List T_api_Type)) (((List T_api_Type) × (List UInt8)) ⊕ (T_api_Sig × Int))) :=
  (m_desc_prefix t0.1).bind fun v9 =>
  if (!v9.2.2) = true then (some (.done (.inr (({ f_Params := ([] : List T_api_Type), f_Result := ({ f_Dim := 0, f_Base := 0, f_Name := [] } : T_api_Type) } : T_api_Sig), 13)))) else
  (if (v9.1.f_Base == 86) = true then
    (some (.done (.inr (({ f_Params := ([] : List T_api_Type), f_Result := ({ f_Dim := 0, f_Base := 0, f_Name := [] } : T_api_Type) } : T_api_Sig), 13)))) else
  ((j57x3 t0 v9) ))
def l57x1 (t0 : (List UInt8) × (List T_api_Type)) : Option (Ctl ((List UInt8) × (List T_api_Type)) (((List T_api_Type) × (List UInt8)) ⊕ (T_api_Sig × Int))) :=
  if (!(t0.1 == ([] : List UInt8))) = true then ((getS t0.1 0).bind fun v8 =>
  if (v8 != 41) = true then
    ((j57x2 t0) ) else
  (some (.done (.inl ((t0.2, t0.1)))))) else
  (some (.done (.inl ((t0.2, t0.1)))))
def j57x1 (x0 : List UInt8) : Option (T_api_Sig × Int) :=
  (sub x0 1 (x0.length : Int)).bind fun v1 =>
  (loopM l57x1 rounds (v1, ([] : List T_api_Type))).bind fun q1 =>
  match q1 with
  | .inl q0 => (if (q0.2 == ([] : List UInt8)) = true then
      (some (({ f_Params := ([] : List T_api_Type), f_Result := ({ f_Dim := 0, f_Base := 0, f_Name := [] } : T_api_Type) } : T_api_Sig), 13)) else
    ((sub q0.2 1 (q0.2.length : Int)).bind fun v11 =>
      (m_desc_Parse v11).bind fun v12 =>
      if (v12.2 != 0) = true then
        (some (({ f_Params := ([] : List T_api_Type), f_Result := ({ f_Dim := 0, f_Base := 0, f_Name := [] } : T_api_Type) } : T_api_Sig), v12.2)) else
      (if (decide ((q0.1.length : Int) > 16)) = true then
          (some (({ f_Params := ([] : List T_api_Type), f_Result := ({ f_Dim := 0, f_Base := 0, f_Name := [] } : T_api_Type) } : T_api_Sig), 5)) else
        (some (({ f_Params := q0.1, f_Result := v12.1 } : T_api_Sig), 0)))))
  | .inr y0 => (some y0)
def m_desc_ParseSignature (x0 : List UInt8) : Option (T_api_Sig × Int) :=
  if (x0 == ([] : List UInt8)) = true then (some (({ f_Params := ([] : List T_api_Type), f_Result := ({ f_Dim := 0, f_Base := 0, f_Name := [] } : T_api_Type) } : T_api_Sig), 13)) else
  ((getS x0 0).bind fun v0 =>
  if (v0 != 40) = true then
    (some (({ f_Params := ([] : List T_api_Type), f_Result := ({ f_Dim := 0, f_Base := 0, f_Name := [] } : T_api_Type) } : T_api_Sig), 13)) else
  ((j57x1 x0) ))
def st57x1  : ((List UInt8) × (List T_api_Type)) → S :=
  fun t0 => mkS 70 [(0, .str t0.1), (2, .lptr 2 0 0), (4, .lptr 4 0 0)] [(2, { sz := 4, rows := [[.sl true (([] : List T_api_Type).map row_T_api_Type), .int .i64 0, .int .u8 0, .str []]], frz := 0, pure := false }), (4, { sz := 4, rows := [[.lsl 1004 0 ((t0.2.map row_T_api_Type).length), .int .i64 0, .int .u8 0, .str []]], frz := 0, pure := false }), (1004, { sz := 3, rows := (t0.2.map row_T_api_Type), frz := 0, pure := true })]
noncomputable def J57x1  : (((List T_api_Type) × (List UInt8)) ⊕ (T_api_Sig × Int)) → Exit → S → Prop :=
  JSum (JExit 0 (fun q0 : (List T_api_Type) × (List UInt8) => mkS 70 [(0, .str q0.2), (2, .lptr 2 0 0), (4, .lptr 4 0 0)] [(2, { sz := 4, rows := [[.sl true (([] : List T_api_Type).map row_T_api_Type), .int .i64 0, .int .u8 0, .str []]], frz := 0, pure := false }), (4, { sz := 4, rows := [[.lsl 1004 0 ((q0.1.map row_T_api_Type).length), .int .i64 0, .int .u8 0, .str []]], frz := 0, pure := false }), (1004, { sz := 3, rows := (q0.1.map row_T_api_Type), frz := 0, pure := true })])) (JRet Try.prog Try.f57 (fun y : T_api_Sig × Int => .tup [.agg (row_T_api_Sig y.1), .int .i64 y.2]))
theorem wj57x3 (t0 : (List UInt8) × (List T_api_Type)) (v9 : T_api_Type × (List UInt8) × Bool) (r : Ctl ((List UInt8) × (List T_api_Type)) (((List T_api_Type) × (List UInt8)) ⊕ (T_api_Sig × Int))) (h : (j57x3 t0 v9)  = some r) (Γ : Ctx) : EvOk Try.prog Γ (Round st57x1 J57x1 r) (mkS 70 [(2, .lptr 2 0 0), (4, .lptr 4 0 0), (5, .lptr 5 0 0), (6, .str v9.2.1)] [(2, { sz := 4, rows := [[.sl true (([] : List T_api_Type).map row_T_api_Type), dI 0, d8 0, .str []]], frz := 0, pure := false }), (4, { sz := 4, rows := [[.lsl 1004 0 ((t0.2.map row_T_api_Type).length), dI 0, d8 0, .str []]], frz := 0, pure := false }), (5, { sz := 3, rows := [row_T_api_Type v9.1], frz := 0, pure := false }), (1004, { sz := 3, rows := (t0.2.map row_T_api_Type), frz := 0, pure := true })]) (.stop c57x25 [.seq c57x26, .blk 1]) := by
  refine EvOk.stop ?_
  obtain ⟨v10, e10, h⟩ := bindE h
  refine At.adv [] [(9, { told := [(3, { ro := true }), (4, { rows := some ((t0.2 ++ [v9.1]).map row_T_api_Type) })], keep := some ([2, 4, 6], [(2, 2), (4, 4), (1004, 1004)]) }), (10, { keep := some ([0, 2, 4], [(2, 2), (4, 4), (1004, 1004)]) })] 400 (ev := .normal) (σ' := mkS 70 [(0, .str v9.2.1), (2, .lptr 2 0 0), (4, .lptr 4 0 0)] [(2, { sz := 4, rows := [[.sl true (([] : List T_api_Type).map row_T_api_Type), dI 0, d8 0, .str []]], frz := 0, pure := false }), (4, { sz := 4, rows := [[.lsl 1004 0 (((t0.2 ++ [v9.1]).map row_T_api_Type).length), dI 0, d8 0, .str []]], frz := 0, pure := false }), (1004, { sz := 3, rows := ((t0.2 ++ [v9.1]).map row_T_api_Type), frz := 0, pure := true })]) (q := [True ∧ ((tN 3) ∧ True), True ∧ (True ∧ (t0.2.map row_T_api_Type).length = (t0.2.map row_T_api_Type).length ∧ (∀ r ∈ ([v9.1].map row_T_api_Type), r.length = 3) ∧ (t0.2.map row_T_api_Type) ++ ([v9.1].map row_T_api_Type) = ((t0.2 ++ [v9.1]).map row_T_api_Type) ∧ ((t0.2 ++ [v9.1]).map row_T_api_Type).length ≤ 9223372036854775807 ∧ ((t0.2 ++ [v9.1]).map row_T_api_Type).length * 32 ≤ 140737488355328), True ∧ (0 ≤ 0 ∧ 0 + ([.lsl 1004 0 (((t0.2 ++ [v9.1]).map row_T_api_Type).length)] : List D).length ≤ ([.undef, dI 0, d8 0, .str []] : List D).length ∧ ([[.lsl 1004 0 (((t0.2 ++ [v9.1]).map row_T_api_Type).length), dI 0, d8 0, .str []]] : List (List D)) = ([[.lsl 1004 0 (((t0.2 ++ [v9.1]).map row_T_api_Type).length), dI 0, d8 0, .str []]] : List (List D)))]) (by kernel_rfl) ⟨⟨trivial, ⟨tNi 3, trivial⟩⟩, ⟨trivial, ⟨trivial, rfl, szM (f := row_T_api_Type) (n := 3) (fun _ => rfl) _, appM row_T_api_Type _ _, (growK_spec e10 (lenMN _ _)).1, (growK_spec e10 (lenMN _ _)).2⟩⟩, ⟨trivial, ⟨Nat.zero_le _, Nat.le_of_ble_eq_true rfl, rfl⟩⟩, trivial⟩ ?_
  refine EvOk.normal ?_
  obtain rfl := someE h
  exact Round.next (by kernel_rfl)
theorem wj57x2 (t0 : (List UInt8) × (List T_api_Type)) (r : Ctl ((List UInt8) × (List T_api_Type)) (((List T_api_Type) × (List UInt8)) ⊕ (T_api_Sig × Int))) (h : (j57x2 t0)  = some r) (Γ : Ctx) : EvOk Try.prog Γ (Round st57x1 J57x1 r) (mkS 70 [(0, .str t0.1), (2, .lptr 2 0 0), (4, .lptr 4 0 0)] [(2, { sz := 4, rows := [[.sl true (([] : List T_api_Type).map row_T_api_Type), dI 0, d8 0, .str []]], frz := 0, pure := false }), (4, { sz := 4, rows := [[.lsl 1004 0 ((t0.2.map row_T_api_Type).length), dI 0, d8 0, .str []]], frz := 0, pure := false }), (1004, { sz := 3, rows := (t0.2.map row_T_api_Type), frz := 0, pure := true })]) (.stop c57x14 [.seq c57x15, .blk 1]) := by
  refine EvOk.stop ?_
  obtain ⟨v9, e9, h⟩ := bindE h
  rcases Bool.eq_false_or_eq_true (!v9.2.2) with h12 | h12
  · replace h := iteT h12 h
    refine At.adv [] [(6, { told := [(1, { ans := .val (.tup [.agg (row_T_api_Type v9.1), .str v9.2.1, .bool v9.2.2]) })], keep := some ([2, 4, 5, 6, 7], [(2, 2), (4, 4), (5, 5), (1004, 1004)]) }), (7, { told := [(6, aT)], gs := [(3, false), (4, false), (5, false)], keep := some ([2, 4, 5, 6, 40], [(2, 2), (4, 4), (5, 5), (1004, 1004)]) })] 400 (ev := .cond true c57x22 c57x23 [.seq c57x24, .blk 1]) (σ' := mkS 70 [(2, .lptr 2 0 0), (4, .lptr 4 0 0), (5, .lptr 5 0 0), (6, .str v9.2.1), (40, .bool true)] [(2, { sz := 4, rows := [[.sl true (([] : List T_api_Type).map row_T_api_Type), dI 0, d8 0, .str []]], frz := 0, pure := false }), (4, { sz := 4, rows := [[.lsl 1004 0 ((t0.2.map row_T_api_Type).length), dI 0, d8 0, .str []]], frz := 0, pure := false }), (5, { sz := 3, rows := [row_T_api_Type v9.1], frz := 0, pure := false }), (1004, { sz := 3, rows := (t0.2.map row_T_api_Type), frz := 0, pure := true })]) (q := [True ∧ (cq Try.prog (tN 1) 67 [.str t0.1] (.tup [.agg (row_T_api_Type v9.1), .str v9.2.1, .bool v9.2.2])), True ∧ (0 ≤ 0 ∧ 0 + ([dI v9.1.f_Dim, d8 v9.1.f_Base, .str v9.1.f_Name] : List D).length ≤ ([dI 0, d8 0, .str []] : List D).length ∧ ([[dI v9.1.f_Dim, d8 v9.1.f_Base, .str v9.1.f_Name]] : List (List D)) = ([[dI v9.1.f_Dim, d8 v9.1.f_Base, .str v9.1.f_Name]] : List (List D))), ((!v9.2.2) == false) = false, ((!v9.2.2) == false) = false, ((!v9.2.2) == false) = false, True ∧ ((!v9.2.2) = true)]) (by kernel_rfl) ⟨⟨trivial, cqi (tNi 1) (w67 e9)⟩, ⟨trivial, ⟨Nat.zero_le _, Nat.le_of_ble_eq_true rfl, rfl⟩⟩, gB h12 rfl, gB h12 rfl, gB h12 rfl, ⟨trivial, h12⟩, trivial⟩ ?_
    refine EvOk.cond (fun _ => ?_) (fun hb => Bool.noConfusion hb)
    refine At.gc [2] [(2, 2)] (n := 70) (l := [(2, .lptr 2 0 0)]) (bl := [(2, { sz := 4, rows := [[.sl true (([] : List T_api_Type).map row_T_api_Type), dI 0, d8 0, .str []]], frz := 0, pure := false })]) (by kernel_rfl) ?_
    refine At.adv [] [(8, { keep := some ([2, 3], [(2, 2)]) })] 400 (ev := .ret) (σ' := mkS 70 [(2, .lptr 2 0 0), (3, dI 13)] [(2, { sz := 4, rows := [[.sl true (([] : List T_api_Type).map row_T_api_Type), dI 0, d8 0, .str []]], frz := 0, pure := false })]) (q := [True ∧ (0 ≤ 0 ∧ 0 + ([.sl true (([] : List T_api_Type).map row_T_api_Type), dI 0, d8 0, .str []] : List D).length ≤ ([.sl true (([] : List T_api_Type).map row_T_api_Type), dI 0, d8 0, .str []] : List D).length ∧ ([[.sl true (([] : List T_api_Type).map row_T_api_Type), dI 0, d8 0, .str []]] : List (List D)) = ([[.sl true (([] : List T_api_Type).map row_T_api_Type), dI 0, d8 0, .str []]] : List (List D)))]) (by kernel_rfl) ⟨⟨trivial, ⟨Nat.zero_le _, Nat.le_of_ble_eq_true rfl, rfl⟩⟩, trivial⟩ ?_
    refine EvOk.ret ?_
    obtain rfl := someE h
    exact Round.done neRet ⟨rfl, Den.Ends.mk (.inl rfl) (d := .tup [.agg [.sl false (([] : List T_api_Type).map row_T_api_Type), dI 0, d8 0, .str []], dI 13]) (p := (True ∧ (True ∧ True)) ∧ ((tN 4) ∧ (True ∧ True))) (by kernel_rfl) ⟨⟨trivial, ⟨trivial, trivial⟩⟩, ⟨tNi 4, ⟨trivial, trivial⟩⟩⟩ (by kernel_rfl)⟩
  · replace h := iteF h12 h
    refine At.adv [] [(6, { told := [(1, { ans := .val (.tup [.agg (row_T_api_Type v9.1), .str v9.2.1, .bool v9.2.2]) })], keep := some ([2, 4, 5, 6, 7], [(2, 2), (4, 4), (5, 5), (1004, 1004)]) }), (7, { told := [(6, aF)], gs := [(3, true), (4, true), (5, true)], keep := some ([2, 4, 5, 6, 40], [(2, 2), (4, 4), (5, 5), (1004, 1004)]) })] 400 (ev := .cond (v9.1.f_Base == 86) c57x22 c57x23 [.seq c57x24, .blk 1]) (σ' := mkS 70 [(2, .lptr 2 0 0), (4, .lptr 4 0 0), (5, .lptr 5 0 0), (6, .str v9.2.1), (40, .bool (v9.1.f_Base == 86))] [(2, { sz := 4, rows := [[.sl true (([] : List T_api_Type).map row_T_api_Type), dI 0, d8 0, .str []]], frz := 0, pure := false }), (4, { sz := 4, rows := [[.lsl 1004 0 ((t0.2.map row_T_api_Type).length), dI 0, d8 0, .str []]], frz := 0, pure := false }), (5, { sz := 3, rows := [row_T_api_Type v9.1], frz := 0, pure := false }), (1004, { sz := 3, rows := (t0.2.map row_T_api_Type), frz := 0, pure := true })]) (q := [True ∧ (cq Try.prog (tN 1) 67 [.str t0.1] (.tup [.agg (row_T_api_Type v9.1), .str v9.2.1, .bool v9.2.2])), True ∧ (0 ≤ 0 ∧ 0 + ([dI v9.1.f_Dim, d8 v9.1.f_Base, .str v9.1.f_Name] : List D).length ≤ ([dI 0, d8 0, .str []] : List D).length ∧ ([[dI v9.1.f_Dim, d8 v9.1.f_Base, .str v9.1.f_Name]] : List (List D)) = ([[dI v9.1.f_Dim, d8 v9.1.f_Base, .str v9.1.f_Name]] : List (List D))), ((!v9.2.2) == false) = true ∧ True, ((!v9.2.2) == false) = true ∧ True, ((!v9.2.2) == false) = true ∧ True, True ∧ ((!v9.2.2) = false)]) (by kernel_rfl) ⟨⟨trivial, cqi (tNi 1) (w67 e9)⟩, ⟨trivial, ⟨Nat.zero_le _, Nat.le_of_ble_eq_true rfl, rfl⟩⟩, ⟨(gB h12 rfl), trivial⟩, ⟨(gB h12 rfl), trivial⟩, ⟨(gB h12 rfl), trivial⟩, ⟨trivial, h12⟩, trivial⟩ ?_
    refine EvOk.cond (fun h13 => ?_) (fun h13 => ?_)
    · replace h := iteT h13 h
      refine At.gc [2] [(2, 2)] (n := 70) (l := [(2, .lptr 2 0 0)]) (bl := [(2, { sz := 4, rows := [[.sl true (([] : List T_api_Type).map row_T_api_Type), dI 0, d8 0, .str []]], frz := 0, pure := false })]) (by kernel_rfl) ?_
      refine At.adv [] [(8, { keep := some ([2, 3], [(2, 2)]) })] 400 (ev := .ret) (σ' := mkS 70 [(2, .lptr 2 0 0), (3, dI 13)] [(2, { sz := 4, rows := [[.sl true (([] : List T_api_Type).map row_T_api_Type), dI 0, d8 0, .str []]], frz := 0, pure := false })]) (q := [True ∧ (0 ≤ 0 ∧ 0 + ([.sl true (([] : List T_api_Type).map row_T_api_Type), dI 0, d8 0, .str []] : List D).length ≤ ([.sl true (([] : List T_api_Type).map row_T_api_Type), dI 0, d8 0, .str []] : List D).length ∧ ([[.sl true (([] : List T_api_Type).map row_T_api_Type), dI 0, d8 0, .str []]] : List (List D)) = ([[.sl true (([] : List T_api_Type).map row_T_api_Type), dI 0, d8 0, .str []]] : List (List D)))]) (by kernel_rfl) ⟨⟨trivial, ⟨Nat.zero_le _, Nat.le_of_ble_eq_true rfl, rfl⟩⟩, trivial⟩ ?_
      refine EvOk.ret ?_
      obtain rfl := someE h
      exact Round.done neRet ⟨rfl, Den.Ends.mk (.inl rfl) (d := .tup [.agg [.sl false (([] : List T_api_Type).map row_T_api_Type), dI 0, d8 0, .str []], dI 13]) (p := (True ∧ (True ∧ True)) ∧ ((tN 4) ∧ (True ∧ True))) (by kernel_rfl) ⟨⟨trivial, ⟨trivial, trivial⟩⟩, ⟨tNi 4, ⟨trivial, trivial⟩⟩⟩ (by kernel_rfl)⟩
    · replace h := iteF h13 h
      refine At.gc [2, 4, 5, 6] [(2, 2), (4, 4), (5, 5), (1004, 1004)] (n := 70) (l := [(2, .lptr 2 0 0), (4, .lptr 4 0 0), (5, .lptr 5 0 0), (6, .str v9.2.1)]) (bl := [(2, { sz := 4, rows := [[.sl true (([] : List T_api_Type).map row_T_api_Type), dI 0, d8 0, .str []]], frz := 0, pure := false }), (4, { sz := 4, rows := [[.lsl 1004 0 ((t0.2.map row_T_api_Type).length), dI 0, d8 0, .str []]], frz := 0, pure := false }), (5, { sz := 3, rows := [row_T_api_Type v9.1], frz := 0, pure := false }), (1004, { sz := 3, rows := (t0.2.map row_T_api_Type), frz := 0, pure := true })]) (by kernel_rfl) ?_
      refine At.adv [9] [] 400 (ev := .stop c57x25 [.seq c57x26, .blk 1]) (σ' := mkS 70 [(2, .lptr 2 0 0), (4, .lptr 4 0 0), (5, .lptr 5 0 0), (6, .str v9.2.1)] [(2, { sz := 4, rows := [[.sl true (([] : List T_api_Type).map row_T_api_Type), dI 0, d8 0, .str []]], frz := 0, pure := false }), (4, { sz := 4, rows := [[.lsl 1004 0 ((t0.2.map row_T_api_Type).length), dI 0, d8 0, .str []]], frz := 0, pure := false }), (5, { sz := 3, rows := [row_T_api_Type v9.1], frz := 0, pure := false }), (1004, { sz := 3, rows := (t0.2.map row_T_api_Type), frz := 0, pure := true })]) (q := []) (by kernel_rfl) trivial ?_
      exact (wj57x3 t0 v9)  r h Γ
theorem wl57x1 (t0 : (List UInt8) × (List T_api_Type)) (r : Ctl ((List UInt8) × (List T_api_Type)) (((List T_api_Type) × (List UInt8)) ⊕ (T_api_Sig × Int))) (h : l57x1 t0 = some r) (Γ : Ctx) : At Try.prog Γ c57x11 [] (Round st57x1 J57x1 r) (st57x1 t0) := by
  rcases Bool.eq_false_or_eq_true (!(t0.1 == ([] : List UInt8))) with h10 | h10
  · replace h := iteT h10 h
    obtain ⟨v8, e8, h⟩ := bindE h
    refine At.adv [] [(5, { told := [(1, aB true), (4, a8 v8)], keep := some ([0, 2, 4, 27], [(2, 2), (4, 4), (1004, 1004)]) })] 400 (ev := .cond (v8 != 41) c57x18 c57x19 [.seq c57x12]) (σ' := mkS 70 [(0, .str t0.1), (2, .lptr 2 0 0), (4, .lptr 4 0 0), (27, .bool (v8 != 41))] [(2, { sz := 4, rows := [[.sl true (([] : List T_api_Type).map row_T_api_Type), dI 0, d8 0, .str []]], frz := 0, pure := false }), (4, { sz := 4, rows := [[.lsl 1004 0 ((t0.2.map row_T_api_Type).length), dI 0, d8 0, .str []]], frz := 0, pure := false }), (1004, { sz := 3, rows := (t0.2.map row_T_api_Type), frz := 0, pure := true })]) (q := [True ∧ ((!(t0.1 == ([] : List UInt8))) = true), True ∧ True, True ∧ (getS t0.1 0 = some v8), True ∧ True]) (by kernel_rfl) ⟨⟨trivial, h10⟩, ⟨trivial, trivial⟩, ⟨trivial, e8⟩, ⟨trivial, trivial⟩, trivial⟩ ?_
    refine EvOk.cond (fun h11 => ?_) (fun h11 => ?_)
    · replace h := iteT h11 h
      refine At.gc [0, 2, 4] [(2, 2), (4, 4), (1004, 1004)] (n := 70) (l := [(0, .str t0.1), (2, .lptr 2 0 0), (4, .lptr 4 0 0)]) (bl := [(2, { sz := 4, rows := [[.sl true (([] : List T_api_Type).map row_T_api_Type), dI 0, d8 0, .str []]], frz := 0, pure := false }), (4, { sz := 4, rows := [[.lsl 1004 0 ((t0.2.map row_T_api_Type).length), dI 0, d8 0, .str []]], frz := 0, pure := false }), (1004, { sz := 3, rows := (t0.2.map row_T_api_Type), frz := 0, pure := true })]) (by kernel_rfl) ?_
      refine At.adv [6] [] 400 (ev := .stop c57x14 [.seq c57x15, .blk 1]) (σ' := mkS 70 [(0, .str t0.1), (2, .lptr 2 0 0), (4, .lptr 4 0 0)] [(2, { sz := 4, rows := [[.sl true (([] : List T_api_Type).map row_T_api_Type), dI 0, d8 0, .str []]], frz := 0, pure := false }), (4, { sz := 4, rows := [[.lsl 1004 0 ((t0.2.map row_T_api_Type).length), dI 0, d8 0, .str []]], frz := 0, pure := false }), (1004, { sz := 3, rows := (t0.2.map row_T_api_Type), frz := 0, pure := true })]) (q := []) (by kernel_rfl) trivial ?_
      exact (wj57x2 t0)  r h Γ
    · replace h := iteF h11 h
      refine At.gc [0, 2, 4] [(2, 2), (4, 4), (1004, 1004)] (n := 70) (l := [(0, .str t0.1), (2, .lptr 2 0 0), (4, .lptr 4 0 0)]) (bl := [(2, { sz := 4, rows := [[.sl true (([] : List T_api_Type).map row_T_api_Type), dI 0, d8 0, .str []]], frz := 0, pure := false }), (4, { sz := 4, rows := [[.lsl 1004 0 ((t0.2.map row_T_api_Type).length), dI 0, d8 0, .str []]], frz := 0, pure := false }), (1004, { sz := 3, rows := (t0.2.map row_T_api_Type), frz := 0, pure := true })]) (by kernel_rfl) ?_
      refine At.adv [] [] 400 (ev := .exit 0) (σ' := mkS 70 [(0, .str t0.1), (2, .lptr 2 0 0), (4, .lptr 4 0 0)] [(2, { sz := 4, rows := [[.sl true (([] : List T_api_Type).map row_T_api_Type), dI 0, d8 0, .str []]], frz := 0, pure := false }), (4, { sz := 4, rows := [[.lsl 1004 0 ((t0.2.map row_T_api_Type).length), dI 0, d8 0, .str []]], frz := 0, pure := false }), (1004, { sz := 3, rows := (t0.2.map row_T_api_Type), frz := 0, pure := true })]) (q := []) (by kernel_rfl) trivial ?_
      refine EvOk.exit ?_
      obtain rfl := someE h
      exact Round.done (neExit _) ⟨rfl, by kernel_rfl⟩
  · replace h := iteF h10 h
    refine At.adv [] [(5, { told := [(1, aB false)], keep := some ([0, 2, 4, 27], [(2, 2), (4, 4), (1004, 1004)]) })] 400 (ev := .cond false c57x18 c57x19 [.seq c57x12]) (σ' := mkS 70 [(0, .str t0.1), (2, .lptr 2 0 0), (4, .lptr 4 0 0), (27, .bool false)] [(2, { sz := 4, rows := [[.sl true (([] : List T_api_Type).map row_T_api_Type), dI 0, d8 0, .str []]], frz := 0, pure := false }), (4, { sz := 4, rows := [[.lsl 1004 0 ((t0.2.map row_T_api_Type).length), dI 0, d8 0, .str []]], frz := 0, pure := false }), (1004, { sz := 3, rows := (t0.2.map row_T_api_Type), frz := 0, pure := true })]) (q := [True ∧ ((!(t0.1 == ([] : List UInt8))) = false), True, True, True]) (by kernel_rfl) ⟨⟨trivial, h10⟩, trivial, trivial, trivial, trivial⟩ ?_
    refine EvOk.cond (fun hb => Bool.noConfusion hb) (fun _ => ?_)
    refine At.gc [0, 2, 4] [(2, 2), (4, 4), (1004, 1004)] (n := 70) (l := [(0, .str t0.1), (2, .lptr 2 0 0), (4, .lptr 4 0 0)]) (bl := [(2, { sz := 4, rows := [[.sl true (([] : List T_api_Type).map row_T_api_Type), dI 0, d8 0, .str []]], frz := 0, pure := false }), (4, { sz := 4, rows := [[.lsl 1004 0 ((t0.2.map row_T_api_Type).length), dI 0, d8 0, .str []]], frz := 0, pure := false }), (1004, { sz := 3, rows := (t0.2.map row_T_api_Type), frz := 0, pure := true })]) (by kernel_rfl) ?_
    refine At.adv [] [] 400 (ev := .exit 0) (σ' := mkS 70 [(0, .str t0.1), (2, .lptr 2 0 0), (4, .lptr 4 0 0)] [(2, { sz := 4, rows := [[.sl true (([] : List T_api_Type).map row_T_api_Type), dI 0, d8 0, .str []]], frz := 0, pure := false }), (4, { sz := 4, rows := [[.lsl 1004 0 ((t0.2.map row_T_api_Type).length), dI 0, d8 0, .str []]], frz := 0, pure := false }), (1004, { sz := 3, rows := (t0.2.map row_T_api_Type), frz := 0, pure := true })]) (q := []) (by kernel_rfl) trivial ?_
    refine EvOk.exit ?_
    obtain rfl := someE h
    exact Round.done (neExit _) ⟨rfl, by kernel_rfl⟩
theorem wj57x1 (x0 : List UInt8) (r : T_api_Sig × Int) (h : (j57x1 x0)  = some r) (Γ : Ctx) : EvOk Try.prog Γ (Den.Ends Try.prog Try.f57 (.tup [.agg (row_T_api_Sig r.1), dI r.2])) (mkS 70 [(0, .str x0), (2, .lptr 2 0 0)] [(2, { sz := 4, rows := [[.sl true (([] : List T_api_Type).map row_T_api_Type), dI 0, d8 0, .str []]], frz := 0, pure := false })]) (.stop c57x6 [.seq c57x7]) := by
  refine EvOk.stop ?_
  obtain ⟨v1, e1, h⟩ := bindE h
  refine At.adv [] [(3, { told := [(1, aS v1)], keep := some ([0, 2], [(2, 2)]) }), (4, { keep := some ([0, 2, 4], [(2, 2), (4, 4)]) })] 400 (ev := .loop c57x11 [.blk 0, .seq c57x27]) (σ' := mkS 70 [(0, .str v1), (2, .lptr 2 0 0), (4, .lptr 4 0 0)] [(2, { sz := 4, rows := [[.sl true (([] : List T_api_Type).map row_T_api_Type), dI 0, d8 0, .str []]], frz := 0, pure := false }), (4, { sz := 4, rows := [[.sl true (([] : List T_api_Type).map row_T_api_Type), dI 0, d8 0, .str []]], frz := 0, pure := false })]) (q := [True ∧ (sub x0 1 (x0.length : Int) = some v1), True ∧ (0 ≤ 0 ∧ 0 + ([.sl true (([] : List T_api_Type).map row_T_api_Type), dI 0, d8 0, .str []] : List D).length ≤ ([.sl true (([] : List T_api_Type).map row_T_api_Type), dI 0, d8 0, .str []] : List D).length ∧ ([[.sl true (([] : List T_api_Type).map row_T_api_Type), dI 0, d8 0, .str []]] : List (List D)) = ([[.sl true (([] : List T_api_Type).map row_T_api_Type), dI 0, d8 0, .str []]] : List (List D)))]) (by kernel_rfl) ⟨⟨trivial, e1⟩, ⟨trivial, ⟨Nat.zero_le _, Nat.le_of_ble_eq_true rfl, rfl⟩⟩, trivial⟩ ?_
  refine EvOk.loop ?_
  obtain ⟨q1, e11, h⟩ := bindE h
  refine At.convG [.blk 4 0 1004 3] [0, 2, 4] [(2, 2), (4, 4), (1004, 1004)] (n := 70) (l := [(0, .str v1), (2, .lptr 2 0 0), (4, .lptr 4 0 0)]) (bl := [(2, { sz := 4, rows := [[.sl true (([] : List T_api_Type).map row_T_api_Type), dI 0, d8 0, .str []]], frz := 0, pure := false }), (4, { sz := 4, rows := [[.lsl 1004 0 ((([] : List T_api_Type).map row_T_api_Type).length), dI 0, d8 0, .str []]], frz := 0, pure := false }), (1004, { sz := 3, rows := (([] : List T_api_Type).map row_T_api_Type), frz := 0, pure := true })]) (by kernel_rfl) ?_
  refine At.loop l57x1 st57x1 J57x1 (v1, ([] : List T_api_Type)) e11 (by kernel_rfl) (fun t x hx => wl57x1 t x hx Γ) ?_
  intro e σ' hJ
  rcases q1 with q0 | y0
  · obtain ⟨rfl, rfl⟩ := hJ
    refine At.exitK (K' := [.seq c57x27]) (by kernel_rfl) ?_
    refine At.advN [] [(11, { keep := some ([0, 2, 4, 50], [(2, 2), (4, 4), (1004, 1004)]) })] 400 (ev := .cond (q0.2 == ([] : List UInt8)) c57x42 c57x43 [.seq c57x28]) (σ' := mkS 70 [(0, .str q0.2), (2, .lptr 2 0 0), (4, .lptr 4 0 0), (50, .bool (q0.2 == ([] : List UInt8)))] [(2, { sz := 4, rows := [[.sl true (([] : List T_api_Type).map row_T_api_Type), dI 0, d8 0, .str []]], frz := 0, pure := false }), (4, { sz := 4, rows := [[.lsl 1004 0 ((q0.1.map row_T_api_Type).length), dI 0, d8 0, .str []]], frz := 0, pure := false }), (1004, { sz := 3, rows := (q0.1.map row_T_api_Type), frz := 0, pure := true })]) (q := []) (by kernel_rfl) trivial ?_
    refine EvOk.cond (fun h14 => ?_) (fun h14 => ?_)
    · replace h := iteT h14 h
      refine At.gc [2] [(2, 2)] (n := 70) (l := [(2, .lptr 2 0 0)]) (bl := [(2, { sz := 4, rows := [[.sl true (([] : List T_api_Type).map row_T_api_Type), dI 0, d8 0, .str []]], frz := 0, pure := false })]) (by kernel_rfl) ?_
      refine At.adv [] [(12, { keep := some ([2, 3], [(2, 2)]) })] 400 (ev := .ret) (σ' := mkS 70 [(2, .lptr 2 0 0), (3, dI 13)] [(2, { sz := 4, rows := [[.sl true (([] : List T_api_Type).map row_T_api_Type), dI 0, d8 0, .str []]], frz := 0, pure := false })]) (q := [True ∧ (0 ≤ 0 ∧ 0 + ([.sl true (([] : List T_api_Type).map row_T_api_Type), dI 0, d8 0, .str []] : List D).length ≤ ([.sl true (([] : List T_api_Type).map row_T_api_Type), dI 0, d8 0, .str []] : List D).length ∧ ([[.sl true (([] : List T_api_Type).map row_T_api_Type), dI 0, d8 0, .str []]] : List (List D)) = ([[.sl true (([] : List T_api_Type).map row_T_api_Type), dI 0, d8 0, .str []]] : List (List D)))]) (by kernel_rfl) ⟨⟨trivial, ⟨Nat.zero_le _, Nat.le_of_ble_eq_true rfl, rfl⟩⟩, trivial⟩ ?_
      refine EvOk.ret ?_
      obtain rfl := someE h
      exact Den.Ends.mk (.inl rfl) (d := .tup [.agg [.sl false (([] : List T_api_Type).map row_T_api_Type), dI 0, d8 0, .str []], dI 13]) (p := (True ∧ (True ∧ True)) ∧ ((tN 4) ∧ (True ∧ True))) (by kernel_rfl) ⟨⟨trivial, ⟨trivial, trivial⟩⟩, ⟨tNi 4, ⟨trivial, trivial⟩⟩⟩ (by kernel_rfl)
    · replace h := iteF h14 h
      refine At.gc [0, 2, 4] [(2, 2), (4, 4), (1004, 1004)] (n := 70) (l := [(0, .str q0.2), (2, .lptr 2 0 0), (4, .lptr 4 0 0)]) (bl := [(2, { sz := 4, rows := [[.sl true (([] : List T_api_Type).map row_T_api_Type), dI 0, d8 0, .str []]], frz := 0, pure := false }), (4, { sz := 4, rows := [[.lsl 1004 0 ((q0.1.map row_T_api_Type).length), dI 0, d8 0, .str []]], frz := 0, pure := false }), (1004, { sz := 3, rows := (q0.1.map row_T_api_Type), frz := 0, pure := true })]) (by kernel_rfl) ?_
      obtain ⟨v11, e12, h⟩ := bindE h
      obtain ⟨v12, e13, h⟩ := bindE h
      refine At.adv [] [(13, { told := [(1, aS v11), (2, { ans := .val (.tup [.agg (row_T_api_Type v12.1), dI v12.2]) })], keep := some ([2, 4, 8, 9], [(2, 2), (4, 4), (8, 8), (1004, 1004)]) }), (14, { keep := some ([2, 4, 8, 9, 59], [(2, 2), (4, 4), (8, 8), (1004, 1004)]) })] 400 (ev := .cond (v12.2 != 0) c57x38 c57x39 [.seq c57x30]) (σ' := mkS 70 [(2, .lptr 2 0 0), (4, .lptr 4 0 0), (8, .lptr 8 0 0), (9, dI v12.2), (59, .bool (v12.2 != 0))] [(2, { sz := 4, rows := [[.sl true (([] : List T_api_Type).map row_T_api_Type), dI 0, d8 0, .str []]], frz := 0, pure := false }), (4, { sz := 4, rows := [[.lsl 1004 0 ((q0.1.map row_T_api_Type).length), dI 0, d8 0, .str []]], frz := 0, pure := false }), (8, { sz := 3, rows := [row_T_api_Type v12.1], frz := 0, pure := false }), (1004, { sz := 3, rows := (q0.1.map row_T_api_Type), frz := 0, pure := true })]) (q := [True ∧ (sub q0.2 1 (q0.2.length : Int) = some v11), True ∧ (cq Try.prog (tN 1) 56 [.str v11] (.tup [.agg (row_T_api_Type v12.1), dI v12.2])), True ∧ (0 ≤ 0 ∧ 0 + ([dI v12.1.f_Dim, d8 v12.1.f_Base, .str v12.1.f_Name] : List D).length ≤ ([dI 0, d8 0, .str []] : List D).length ∧ ([[dI v12.1.f_Dim, d8 v12.1.f_Base, .str v12.1.f_Name]] : List (List D)) = ([[dI v12.1.f_Dim, d8 v12.1.f_Base, .str v12.1.f_Name]] : List (List D)))]) (by kernel_rfl) ⟨⟨trivial, e12⟩, ⟨trivial, cqi (tNi 1) (w56 e13)⟩, ⟨trivial, ⟨Nat.zero_le _, Nat.le_of_ble_eq_true rfl, rfl⟩⟩, trivial⟩ ?_
      refine EvOk.cond (fun h15 => ?_) (fun h15 => ?_)
      · replace h := iteT h15 h
        refine At.gc [2, 9] [(2, 2)] (n := 70) (l := [(2, .lptr 2 0 0), (9, dI v12.2)]) (bl := [(2, { sz := 4, rows := [[.sl true (([] : List T_api_Type).map row_T_api_Type), dI 0, d8 0, .str []]], frz := 0, pure := false })]) (by kernel_rfl) ?_
        refine At.adv [] [(15, { keep := some ([2, 3], [(2, 2)]) })] 400 (ev := .ret) (σ' := mkS 70 [(2, .lptr 2 0 0), (3, dI v12.2)] [(2, { sz := 4, rows := [[.sl true (([] : List T_api_Type).map row_T_api_Type), dI 0, d8 0, .str []]], frz := 0, pure := false })]) (q := [True ∧ (0 ≤ 0 ∧ 0 + ([.sl true (([] : List T_api_Type).map row_T_api_Type), dI 0, d8 0, .str []] : List D).length ≤ ([.sl true (([] : List T_api_Type).map row_T_api_Type), dI 0, d8 0, .str []] : List D).length ∧ ([[.sl true (([] : List T_api_Type).map row_T_api_Type), dI 0, d8 0, .str []]] : List (List D)) = ([[.sl true (([] : List T_api_Type).map row_T_api_Type), dI 0, d8 0, .str []]] : List (List D)))]) (by kernel_rfl) ⟨⟨trivial, ⟨Nat.zero_le _, Nat.le_of_ble_eq_true rfl, rfl⟩⟩, trivial⟩ ?_
        refine EvOk.ret ?_
        obtain rfl := someE h
        exact Den.Ends.mk (.inl rfl) (d := .tup [.agg [.sl false (([] : List T_api_Type).map row_T_api_Type), dI 0, d8 0, .str []], dI v12.2]) (p := (True ∧ (True ∧ True)) ∧ ((tN 4) ∧ (True ∧ True))) (by kernel_rfl) ⟨⟨trivial, ⟨trivial, trivial⟩⟩, ⟨tNi 4, ⟨trivial, trivial⟩⟩⟩ (by kernel_rfl)
      · replace h := iteF h15 h
        refine At.gc [2, 4, 8] [(2, 2), (4, 4), (8, 8), (1004, 1004)] (n := 70) (l := [(2, .lptr 2 0 0), (4, .lptr 4 0 0), (8, .lptr 8 0 0)]) (bl := [(2, { sz := 4, rows := [[.sl true (([] : List T_api_Type).map row_T_api_Type), dI 0, d8 0, .str []]], frz := 0, pure := false }), (4, { sz := 4, rows := [[.lsl 1004 0 ((q0.1.map row_T_api_Type).length), dI 0, d8 0, .str []]], frz := 0, pure := false }), (8, { sz := 3, rows := [row_T_api_Type v12.1], frz := 0, pure := false }), (1004, { sz := 3, rows := (q0.1.map row_T_api_Type), frz := 0, pure := true })]) (by kernel_rfl) ?_
        refine At.adv [] [(16, { told := [(2, { ans := .val (dI (q0.1.length : Int)) })], keep := some ([2, 4, 8, 65], [(2, 2), (4, 4), (8, 8), (1004, 1004)]) })] 400 (ev := .cond (decide ((q0.1.length : Int) > 16)) c57x33 c57x34 [.seq c57x35]) (σ' := mkS 70 [(2, .lptr 2 0 0), (4, .lptr 4 0 0), (8, .lptr 8 0 0), (65, .bool (decide ((q0.1.length : Int) > 16)))] [(2, { sz := 4, rows := [[.sl true (([] : List T_api_Type).map row_T_api_Type), dI 0, d8 0, .str []]], frz := 0, pure := false }), (4, { sz := 4, rows := [[.lsl 1004 0 ((q0.1.map row_T_api_Type).length), dI 0, d8 0, .str []]], frz := 0, pure := false }), (8, { sz := 3, rows := [row_T_api_Type v12.1], frz := 0, pure := false }), (1004, { sz := 3, rows := (q0.1.map row_T_api_Type), frz := 0, pure := true })]) (q := [True ∧ ((((q0.1.map row_T_api_Type).length : Nat) : Int) = (q0.1.length : Int))]) (by kernel_rfl) ⟨⟨trivial, lenM _ _⟩, trivial⟩ ?_
        refine EvOk.cond (fun h16 => ?_) (fun h16 => ?_)
        · replace h := iteT h16 h
          refine At.gc [2] [(2, 2)] (n := 70) (l := [(2, .lptr 2 0 0)]) (bl := [(2, { sz := 4, rows := [[.sl true (([] : List T_api_Type).map row_T_api_Type), dI 0, d8 0, .str []]], frz := 0, pure := false })]) (by kernel_rfl) ?_
          refine At.adv [] [(17, { keep := some ([2, 3], [(2, 2)]) })] 400 (ev := .ret) (σ' := mkS 70 [(2, .lptr 2 0 0), (3, dI 5)] [(2, { sz := 4, rows := [[.sl true (([] : List T_api_Type).map row_T_api_Type), dI 0, d8 0, .str []]], frz := 0, pure := false })]) (q := [True ∧ (0 ≤ 0 ∧ 0 + ([.sl true (([] : List T_api_Type).map row_T_api_Type), dI 0, d8 0, .str []] : List D).length ≤ ([.sl true (([] : List T_api_Type).map row_T_api_Type), dI 0, d8 0, .str []] : List D).length ∧ ([[.sl true (([] : List T_api_Type).map row_T_api_Type), dI 0, d8 0, .str []]] : List (List D)) = ([[.sl true (([] : List T_api_Type).map row_T_api_Type), dI 0, d8 0, .str []]] : List (List D)))]) (by kernel_rfl) ⟨⟨trivial, ⟨Nat.zero_le _, Nat.le_of_ble_eq_true rfl, rfl⟩⟩, trivial⟩ ?_
          refine EvOk.ret ?_
          obtain rfl := someE h
          exact Den.Ends.mk (.inl rfl) (d := .tup [.agg [.sl false (([] : List T_api_Type).map row_T_api_Type), dI 0, d8 0, .str []], dI 5]) (p := (True ∧ (True ∧ True)) ∧ ((tN 4) ∧ (True ∧ True))) (by kernel_rfl) ⟨⟨trivial, ⟨trivial, trivial⟩⟩, ⟨tNi 4, ⟨trivial, trivial⟩⟩⟩ (by kernel_rfl)
        · replace h := iteF h16 h
          refine At.gc [2, 4, 8] [(2, 2), (4, 4), (8, 8), (1004, 1004)] (n := 70) (l := [(2, .lptr 2 0 0), (4, .lptr 4 0 0), (8, .lptr 8 0 0)]) (bl := [(2, { sz := 4, rows := [[.sl true (([] : List T_api_Type).map row_T_api_Type), dI 0, d8 0, .str []]], frz := 0, pure := false }), (4, { sz := 4, rows := [[.lsl 1004 0 ((q0.1.map row_T_api_Type).length), dI 0, d8 0, .str []]], frz := 0, pure := false }), (8, { sz := 3, rows := [row_T_api_Type v12.1], frz := 0, pure := false }), (1004, { sz := 3, rows := (q0.1.map row_T_api_Type), frz := 0, pure := true })]) (by kernel_rfl) ?_
          refine At.adv [] [(18, { keep := some ([2, 4], [(2, 2), (4, 4), (1004, 1004)]) }), (19, { keep := some ([2, 3], [(2, 2), (1004, 1004)]) })] 400 (ev := .ret) (σ' := mkS 70 [(2, .lptr 2 0 0), (3, dI 0)] [(2, { sz := 4, rows := [[.lsl 1004 0 ((q0.1.map row_T_api_Type).length), dI v12.1.f_Dim, d8 v12.1.f_Base, .str v12.1.f_Name]], frz := 0, pure := false }), (1004, { sz := 3, rows := (q0.1.map row_T_api_Type), frz := 0, pure := true })]) (q := [True ∧ (0 ≤ 0 ∧ 1 + ([dI v12.1.f_Dim, d8 v12.1.f_Base, .str v12.1.f_Name] : List D).length ≤ ([.lsl 1004 0 ((q0.1.map row_T_api_Type).length), dI 0, d8 0, .str []] : List D).length ∧ ([[.lsl 1004 0 ((q0.1.map row_T_api_Type).length), dI v12.1.f_Dim, d8 v12.1.f_Base, .str v12.1.f_Name]] : List (List D)) = ([[.lsl 1004 0 ((q0.1.map row_T_api_Type).length), dI v12.1.f_Dim, d8 v12.1.f_Base, .str v12.1.f_Name]] : List (List D))), True ∧ (0 ≤ 0 ∧ 0 + ([.lsl 1004 0 ((q0.1.map row_T_api_Type).length), dI v12.1.f_Dim, d8 v12.1.f_Base, .str v12.1.f_Name] : List D).length ≤ ([.sl true (([] : List T_api_Type).map row_T_api_Type), dI 0, d8 0, .str []] : List D).length ∧ ([[.lsl 1004 0 ((q0.1.map row_T_api_Type).length), dI v12.1.f_Dim, d8 v12.1.f_Base, .str v12.1.f_Name]] : List (List D)) = ([[.lsl 1004 0 ((q0.1.map row_T_api_Type).length), dI v12.1.f_Dim, d8 v12.1.f_Base, .str v12.1.f_Name]] : List (List D)))]) (by kernel_rfl) ⟨⟨trivial, ⟨Nat.zero_le _, Nat.le_of_ble_eq_true rfl, rfl⟩⟩, ⟨trivial, ⟨Nat.zero_le _, Nat.le_of_ble_eq_true rfl, rfl⟩⟩, trivial⟩ ?_
          refine EvOk.ret ?_
          obtain rfl := someE h
          exact Den.Ends.mk (.inl rfl) (d := .tup [.agg [.sl false (((q0.1.map row_T_api_Type).drop 0).take (q0.1.map row_T_api_Type).length), dI v12.1.f_Dim, d8 v12.1.f_Base, .str v12.1.f_Name], dI 0]) (p := (True ∧ (True ∧ True)) ∧ (((0 + (q0.1.map row_T_api_Type).length ≤ (q0.1.map row_T_api_Type).length) ∧ (True ∧ (True ∧ (True ∧ True)))) ∧ (True ∧ True))) (by kernel_rfl) ⟨⟨trivial, ⟨trivial, trivial⟩⟩, ⟨⟨roomAll _, ⟨trivial, ⟨trivial, ⟨trivial, trivial⟩⟩⟩⟩, ⟨trivial, trivial⟩⟩⟩ (by simp only [takeAll] <;> kernel_rfl)
  · obtain rfl := someE h
    obtain ⟨rfl, hE⟩ := hJ
    exact At.retK hE
theorem we57 (x0 : List UInt8) (r : T_api_Sig × Int) (h : m_desc_ParseSignature x0 = some r) (Γ : Ctx) : At Try.prog Γ b57 [] (Den.Ends Try.prog Try.f57 (.tup [.agg (row_T_api_Sig r.1), dI r.2])) (mkS 70 [(0, .str x0)] []) := by
  rcases Bool.eq_false_or_eq_true (x0 == ([] : List UInt8)) with h0 | h0
  · replace h := iteT h0 h
    refine At.adv [] [(0, { keep := some ([0, 2], [(2, 2)]) }), (1, { told := [(1, aB true)], keep := some ([0, 2, 16], [(2, 2)]) })] 400 (ev := .cond true c57x3 c57x4 [.seq c57x5]) (σ' := mkS 70 [(0, .str x0), (2, .lptr 2 0 0), (16, .bool true)] [(2, { sz := 4, rows := [[.sl true (([] : List T_api_Type).map row_T_api_Type), dI 0, d8 0, .str []]], frz := 0, pure := false })]) (q := [True ∧ ((x0 == ([] : List UInt8)) = true), True, True, True]) (by kernel_rfl) ⟨⟨trivial, h0⟩, trivial, trivial, trivial, trivial⟩ ?_
    refine EvOk.cond (fun _ => ?_) (fun hb => Bool.noConfusion hb)
    refine At.gc [2] [(2, 2)] (n := 70) (l := [(2, .lptr 2 0 0)]) (bl := [(2, { sz := 4, rows := [[.sl true (([] : List T_api_Type).map row_T_api_Type), dI 0, d8 0, .str []]], frz := 0, pure := false })]) (by kernel_rfl) ?_
    refine At.adv [] [(2, { keep := some ([2, 3], [(2, 2)]) })] 400 (ev := .ret) (σ' := mkS 70 [(2, .lptr 2 0 0), (3, dI 13)] [(2, { sz := 4, rows := [[.sl true (([] : List T_api_Type).map row_T_api_Type), dI 0, d8 0, .str []]], frz := 0, pure := false })]) (q := [True ∧ (0 ≤ 0 ∧ 0 + ([.sl true (([] : List T_api_Type).map row_T_api_Type), dI 0, d8 0, .str []] : List D).length ≤ ([.sl true (([] : List T_api_Type).map row_T_api_Type), dI 0, d8 0, .str []] : List D).length ∧ ([[.sl true (([] : List T_api_Type).map row_T_api_Type), dI 0, d8 0, .str []]] : List (List D)) = ([[.sl true (([] : List T_api_Type).map row_T_api_Type), dI 0, d8 0, .str []]] : List (List D)))]) (by kernel_rfl) ⟨⟨trivial, ⟨Nat.zero_le _, Nat.le_of_ble_eq_true rfl, rfl⟩⟩, trivial⟩ ?_
    refine EvOk.ret ?_
    obtain rfl := someE h
    exact Den.Ends.mk (.inl rfl) (d := .tup [.agg [.sl false (([] : List T_api_Type).map row_T_api_Type), dI 0, d8 0, .str []], dI 13]) (p := (True ∧ (True ∧ True)) ∧ ((tN 4) ∧ (True ∧ True))) (by kernel_rfl) ⟨⟨trivial, ⟨trivial, trivial⟩⟩, ⟨tNi 4, ⟨trivial, trivial⟩⟩⟩ (by kernel_rfl)
  · replace h := iteF h0 h
    obtain ⟨v0, e0, h⟩ := bindE h
    refine At.adv [] [(0, { keep := some ([0, 2], [(2, 2)]) }), (1, { told := [(1, aB false), (4, a8 v0)], keep := some ([0, 2, 16], [(2, 2)]) })] 400 (ev := .cond (v0 != 40) c57x3 c57x4 [.seq c57x5]) (σ' := mkS 70 [(0, .str x0), (2, .lptr 2 0 0), (16, .bool (v0 != 40))] [(2, { sz := 4, rows := [[.sl true (([] : List T_api_Type).map row_T_api_Type), dI 0, d8 0, .str []]], frz := 0, pure := false })]) (q := [True ∧ ((x0 == ([] : List UInt8)) = false), True ∧ True, True ∧ (getS x0 0 = some v0), True ∧ True]) (by kernel_rfl) ⟨⟨trivial, h0⟩, ⟨trivial, trivial⟩, ⟨trivial, e0⟩, ⟨trivial, trivial⟩, trivial⟩ ?_
    refine EvOk.cond (fun h1 => ?_) (fun h1 => ?_)
    · replace h := iteT h1 h
      refine At.gc [2] [(2, 2)] (n := 70) (l := [(2, .lptr 2 0 0)]) (bl := [(2, { sz := 4, rows := [[.sl true (([] : List T_api_Type).map row_T_api_Type), dI 0, d8 0, .str []]], frz := 0, pure := false })]) (by kernel_rfl) ?_
      refine At.adv [] [(2, { keep := some ([2, 3], [(2, 2)]) })] 400 (ev := .ret) (σ' := mkS 70 [(2, .lptr 2 0 0), (3, dI 13)] [(2, { sz := 4, rows := [[.sl true (([] : List T_api_Type).map row_T_api_Type), dI 0, d8 0, .str []]], frz := 0, pure := false })]) (q := [True ∧ (0 ≤ 0 ∧ 0 + ([.sl true (([] : List T_api_Type).map row_T_api_Type), dI 0, d8 0, .str []] : List D).length ≤ ([.sl true (([] : List T_api_Type).map row_T_api_Type), dI 0, d8 0, .str []] : List D).length ∧ ([[.sl true (([] : List T_api_Type).map row_T_api_Type), dI 0, d8 0, .str []]] : List (List D)) = ([[.sl true (([] : List T_api_Type).map row_T_api_Type), dI 0, d8 0, .str []]] : List (List D)))]) (by kernel_rfl) ⟨⟨trivial, ⟨Nat.zero_le _, Nat.le_of_ble_eq_true rfl, rfl⟩⟩, trivial⟩ ?_
      refine EvOk.ret ?_
      obtain rfl := someE h
      exact Den.Ends.mk (.inl rfl) (d := .tup [.agg [.sl false (([] : List T_api_Type).map row_T_api_Type), dI 0, d8 0, .str []], dI 13]) (p := (True ∧ (True ∧ True)) ∧ ((tN 4) ∧ (True ∧ True))) (by kernel_rfl) ⟨⟨trivial, ⟨trivial, trivial⟩⟩, ⟨tNi 4, ⟨trivial, trivial⟩⟩⟩ (by kernel_rfl)
    · replace h := iteF h1 h
      refine At.gc [0, 2] [(2, 2)] (n := 70) (l := [(0, .str x0), (2, .lptr 2 0 0)]) (bl := [(2, { sz := 4, rows := [[.sl true (([] : List T_api_Type).map row_T_api_Type), dI 0, d8 0, .str []]], frz := 0, pure := false })]) (by kernel_rfl) ?_
      refine At.adv [3] [] 400 (ev := .stop c57x6 [.seq c57x7]) (σ' := mkS 70 [(0, .str x0), (2, .lptr 2 0 0)] [(2, { sz := 4, rows := [[.sl true (([] : List T_api_Type).map row_T_api_Type), dI 0, d8 0, .str []]], frz := 0, pure := false })]) (q := []) (by kernel_rfl) trivial ?_
      exact (wj57x1 x0)  r h Γ
theorem w57 {x0 : List UInt8} {r : T_api_Sig × Int} (h : m_desc_ParseSignature x0 = some r) : CallSpec Try.prog 57 [.str x0] (.tup [.agg (row_T_api_Sig r.1), .int .i64 r.2]) :=
  CallSpec.at2 b57 (n := 70) (l := [(0, .str x0)]) (by kernel_rfl) (by kernel_rfl) (by kernel_rfl) (by kernel_rfl) (by kernel_rfl) (Nat.le_of_ble_eq_true (by kernel_rfl)) (fun Γ => we57 x0 r h Γ)

/-! ### armature pool.NameAndType -/
noncomputable def b20 : Code := Try.f20.body.getD .skip
noncomputable def c20x0 : Code := sub1 b20
noncomputable def c20x1 : Code := sub1 c20x0
noncomputable def c20x2 : Code := sub1 c20x1
noncomputable def c20x3 : Code := sub1 c20x2
noncomputable def c20x4 : Code := sub1 c20x3
noncomputable def c20x5 : Code := sub1 c20x4
noncomputable def c20x6 : Code := sub0 c20x5
noncomputable def c20x7 : Code := sub1 c20x6
noncomputable def c20x8 : Code := sub0 c20x7
noncomputable def c20x9 : Code := sub1 c20x7
noncomputable def c20x10 : Code := sub1 c20x5
noncomputable def c20x11 : Code := sub0 c20x3
noncomputable def c20x12 : Code := sub1 c20x11
noncomputable def c20x13 : Code := sub0 c20x12
noncomputable def c20x14 : Code := sub1 c20x12
noncomputable def c20x15 : Code := sub0 c20x1
noncomputable def c20x16 : Code := sub1 c20x15
noncomputable def c20x17 : Code := sub0 c20x16
noncomputable def c20x18 : Code := sub1 c20x16
def m_pool_NameAndType (x0 : List T_api_Const) (x1 : Int) : Option ((List UInt8) × (List UInt8) × Int) :=
  (m_pool_tagged x0 x1 12).bind fun v0 =>
  if (v0.2 != 0) = true then
    (some ([], [], v0.2)) else
  ((m_pool_UTF8 x0 v0.1.f_A).bind fun v1 =>
    if (v1.2 != 0) = true then
      (some ([], [], v1.2)) else
    ((m_pool_UTF8 x0 v0.1.f_B).bind fun v2 =>
      if (v2.2 != 0) = true then
        (some ([], [], v2.2)) else
      (some (v1.1, v2.1, 0))))
theorem we20 (x0 : List T_api_Const) (x1 : Int) (r : (List UInt8) × (List UInt8) × Int) (h : m_pool_NameAndType x0 x1 = some r) (Γ : Ctx) : At Try.prog Γ b20 [] (Den.Ends Try.prog Try.f20 (.tup [.str r.1, .str r.2.1, dI r.2.2])) (mkS 42 [(0, .sl false (x0.map row_T_api_Const)), (1, dI x1)] []) := by
  obtain ⟨v0, e0, h⟩ := bindE h
  refine At.adv [] [(0, { keep := some ([0, 1], []) }), (1, { told := [(2, { ans := .val (.tup [.agg (row_T_api_Const v0.1), dI v0.2]) })], keep := some ([0, 7, 8], [(7, 7)]) }), (2, { keep := some ([0, 7, 8, 18], [(7, 7)]) })] 400 (ev := .cond (v0.2 != 0) c20x17 c20x18 [.seq c20x2]) (σ' := mkS 42 [(0, .sl false (x0.map row_T_api_Const)), (7, .lptr 7 0 0), (8, dI v0.2), (18, .bool (v0.2 != 0))] [(7, { sz := 5, rows := [row_T_api_Const v0.1], frz := 0, pure := false })]) (q := [True ∧ (cq Try.prog (tN 3) 38 [.sl false (x0.map row_T_api_Const), dI x1, dI 12] (.tup [.agg (row_T_api_Const v0.1), dI v0.2])), True ∧ (0 ≤ 0 ∧ 0 + ([dI v0.1.f_Tag, .str v0.1.f_S, dI v0.1.f_N, dI v0.1.f_A, dI v0.1.f_B] : List D).length ≤ ([dI 0, .str [], dI 0, dI 0, dI 0] : List D).length ∧ ([[dI v0.1.f_Tag, .str v0.1.f_S, dI v0.1.f_N, dI v0.1.f_A, dI v0.1.f_B]] : List (List D)) = ([[dI v0.1.f_Tag, .str v0.1.f_S, dI v0.1.f_N, dI v0.1.f_A, dI v0.1.f_B]] : List (List D)))]) (by kernel_rfl) ⟨⟨trivial, cqi (tNi 3) (w38 e0)⟩, ⟨trivial, ⟨Nat.zero_le _, Nat.le_of_ble_eq_true rfl, rfl⟩⟩, trivial⟩ ?_
  refine EvOk.cond (fun h0 => ?_) (fun h0 => ?_)
  · replace h := iteT h0 h
    refine At.gc [8] [] (n := 42) (l := [(8, dI v0.2)]) (bl := []) (by kernel_rfl) ?_
    refine At.adv [] [(3, { keep := some ([4, 5, 6], []) })] 400 (ev := .ret) (σ' := mkS 42 [(4, .str []), (5, .str []), (6, dI v0.2)] []) (q := []) (by kernel_rfl) trivial ?_
    refine EvOk.ret ?_
    obtain rfl := someE h
    exact Den.Ends.mk (.inl rfl) (d := .tup [.str [], .str [], dI v0.2]) (p := (True ∧ (True ∧ (True ∧ True))) ∧ (tN 3)) (by kernel_rfl) ⟨⟨trivial, ⟨trivial, ⟨trivial, trivial⟩⟩⟩, tNi 3⟩ (by kernel_rfl)
  · replace h := iteF h0 h
    refine At.gc [0, 7] [(7, 7)] (n := 42) (l := [(0, .sl false (x0.map row_T_api_Const)), (7, .lptr 7 0 0)]) (bl := [(7, { sz := 5, rows := [row_T_api_Const v0.1], frz := 0, pure := false })]) (by kernel_rfl) ?_
    obtain ⟨v1, e1, h⟩ := bindE h
    refine At.adv [] [(4, { told := [(3, { ans := .val (.tup [.str v1.1, dI v1.2]) })], keep := some ([0, 7, 8, 9], [(7, 7)]) }), (5, { keep := some ([0, 7, 8, 9, 28], [(7, 7)]) })] 400 (ev := .cond (v1.2 != 0) c20x13 c20x14 [.seq c20x4]) (σ' := mkS 42 [(0, .sl false (x0.map row_T_api_Const)), (7, .lptr 7 0 0), (8, dI v1.2), (9, .str v1.1), (28, .bool (v1.2 != 0))] [(7, { sz := 5, rows := [row_T_api_Const v0.1], frz := 0, pure := false })]) (q := [True ∧ (cq Try.prog (tN 2) 14 [.sl false (x0.map row_T_api_Const), dI v0.1.f_A] (.tup [.str v1.1, dI v1.2]))]) (by kernel_rfl) ⟨⟨trivial, cqi (tNi 2) (w14 e1)⟩, trivial⟩ ?_
    refine EvOk.cond (fun h1 => ?_) (fun h1 => ?_)
    · replace h := iteT h1 h
      refine At.gc [8] [] (n := 42) (l := [(8, dI v1.2)]) (bl := []) (by kernel_rfl) ?_
      refine At.adv [] [(6, { keep := some ([4, 5, 6], []) })] 400 (ev := .ret) (σ' := mkS 42 [(4, .str []), (5, .str []), (6, dI v1.2)] []) (q := []) (by kernel_rfl) trivial ?_
      refine EvOk.ret ?_
      obtain rfl := someE h
      exact Den.Ends.mk (.inl rfl) (d := .tup [.str [], .str [], dI v1.2]) (p := (True ∧ (True ∧ (True ∧ True))) ∧ (tN 3)) (by kernel_rfl) ⟨⟨trivial, ⟨trivial, ⟨trivial, trivial⟩⟩⟩, tNi 3⟩ (by kernel_rfl)
    · replace h := iteF h1 h
      refine At.gc [0, 7, 9] [(7, 7)] (n := 42) (l := [(0, .sl false (x0.map row_T_api_Const)), (7, .lptr 7 0 0), (9, .str v1.1)]) (bl := [(7, { sz := 5, rows := [row_T_api_Const v0.1], frz := 0, pure := false })]) (by kernel_rfl) ?_
      obtain ⟨v2, e2, h⟩ := bindE h
      refine At.adv [] [(7, { told := [(3, { ans := .val (.tup [.str v2.1, dI v2.2]) })], keep := some ([8, 9, 10], []) }), (8, { keep := some ([8, 9, 10, 38], []) })] 400 (ev := .cond (v2.2 != 0) c20x8 c20x9 [.seq c20x10]) (σ' := mkS 42 [(8, dI v2.2), (9, .str v1.1), (10, .str v2.1), (38, .bool (v2.2 != 0))] []) (q := [True ∧ (cq Try.prog (tN 2) 14 [.sl false (x0.map row_T_api_Const), dI v0.1.f_B] (.tup [.str v2.1, dI v2.2]))]) (by kernel_rfl) ⟨⟨trivial, cqi (tNi 2) (w14 e2)⟩, trivial⟩ ?_
      refine EvOk.cond (fun h2 => ?_) (fun h2 => ?_)
      · replace h := iteT h2 h
        refine At.gc [8] [] (n := 42) (l := [(8, dI v2.2)]) (bl := []) (by kernel_rfl) ?_
        refine At.adv [] [(9, { keep := some ([4, 5, 6], []) })] 400 (ev := .ret) (σ' := mkS 42 [(4, .str []), (5, .str []), (6, dI v2.2)] []) (q := []) (by kernel_rfl) trivial ?_
        refine EvOk.ret ?_
        obtain rfl := someE h
        exact Den.Ends.mk (.inl rfl) (d := .tup [.str [], .str [], dI v2.2]) (p := (True ∧ (True ∧ (True ∧ True))) ∧ (tN 3)) (by kernel_rfl) ⟨⟨trivial, ⟨trivial, ⟨trivial, trivial⟩⟩⟩, tNi 3⟩ (by kernel_rfl)
      · replace h := iteF h2 h
        refine At.gc [9, 10] [] (n := 42) (l := [(9, .str v1.1), (10, .str v2.1)]) (bl := []) (by kernel_rfl) ?_
        refine At.adv [] [(10, { keep := some ([4, 5, 6], []) })] 400 (ev := .ret) (σ' := mkS 42 [(4, .str v1.1), (5, .str v2.1), (6, dI 0)] []) (q := []) (by kernel_rfl) trivial ?_
        refine EvOk.ret ?_
        obtain rfl := someE h
        exact Den.Ends.mk (.inl rfl) (d := .tup [.str v1.1, .str v2.1, dI 0]) (p := (True ∧ (True ∧ (True ∧ True))) ∧ (tN 3)) (by kernel_rfl) ⟨⟨trivial, ⟨trivial, ⟨trivial, trivial⟩⟩⟩, tNi 3⟩ (by kernel_rfl)
theorem w20 {x0 : List T_api_Const} {x1 : Int} {r : (List UInt8) × (List UInt8) × Int} (h : m_pool_NameAndType x0 x1 = some r) : CallSpec Try.prog 20 [.sl false (x0.map row_T_api_Const), .int .i64 x1] (.tup [.str r.1, .str r.2.1, .int .i64 r.2.2]) :=
  CallSpec.at2 b20 (n := 42) (l := [(0, .sl false (x0.map row_T_api_Const)), (1, .int .i64 x1)]) (by kernel_rfl) (by kernel_rfl) (by kernel_rfl) (by kernel_rfl) (by kernel_rfl) (Nat.le_of_ble_eq_true (by kernel_rfl)) (fun Γ => we20 x0 x1 r h Γ)

/-! ### armature pool.member -/
noncomputable def b58 : Code := Try.f58.body.getD .skip
noncomputable def c58x0 : Code := sub1 b58
noncomputable def c58x1 : Code := sub1 c58x0
noncomputable def c58x2 : Code := sub1 c58x1
noncomputable def c58x3 : Code := sub1 c58x2
noncomputable def c58x4 : Code := sub1 c58x3
noncomputable def c58x5 : Code := sub1 c58x4
noncomputable def c58x6 : Code := sub0 c58x5
noncomputable def c58x7 : Code := sub0 c58x6
noncomputable def c58x8 : Code := sub1 c58x6
noncomputable def c58x9 : Code := sub1 c58x5
noncomputable def c58x10 : Code := sub0 c58x4
noncomputable def c58x11 : Code := sub0 c58x3
noncomputable def c58x12 : Code := sub1 c58x11
noncomputable def c58x13 : Code := sub0 c58x12
noncomputable def c58x14 : Code := sub1 c58x12
noncomputable def c58x15 : Code := sub0 c58x1
noncomputable def c58x16 : Code := sub1 c58x15
noncomputable def c58x17 : Code := sub0 c58x16
noncomputable def c58x18 : Code := sub1 c58x16
noncomputable def c58x19 : Code := sub0 c58x9
noncomputable def c58x20 : Code := sub0 c58x19
noncomputable def c58x21 : Code := sub1 c58x19
noncomputable def c58x22 : Code := sub1 c58x9
noncomputable def c58x23 : Code := sub0 c58x8
noncomputable def c58x24 : Code := sub1 c58x8
noncomputable def c58x25 : Code := sub0 c58x21
noncomputable def c58x26 : Code := sub1 c58x21
def j58x2 (p1 : Bool) : Option (Int) :=
  if p1 = true then
    (some 12) else
  (some 0)
def j58x1 (v0 : (List UInt8) × (List UInt8) × Int) (x1 : T_api_Const) (p0 : Bool) : Option (Int) :=
  if (x1.f_Tag == 9) = true then
    (if (!(v0.1 == ([] : List UInt8))) = true then ((getS v0.1 0).bind fun v2 =>
    j58x2 (v2 == 60)) else
    (j58x2 false)) else
  (j58x2 p0)
def m_pool_member (x0 : List T_api_Const) (x1 : T_api_Const) : Option (Int) :=
  (m_pool_NameAndType x0 x1.f_B).bind fun v0 =>
  if (v0.2.2 != 0) = true then
    (some 0) else
  ((m_desc_ParseSignature v0.2.1).bind fun v1 =>
    if ((v1.2 == 0) == (x1.f_Tag == 9)) = true then
      (some 13) else
    (if (v0.1 == ([60, 99, 108, 105, 110, 105, 116, 62] : List UInt8)) = true then ((j58x1 v0 x1) true) else
      (if (v0.1 == ([60, 105, 110, 105, 116, 62] : List UInt8)) = true then (if (x1.f_Tag == 11) = true then ((j58x1 v0 x1) true) else
          ((j58x1 v0 x1) (!(eqb_T_api_Type v1.1.f_Result ({ f_Dim := 0, f_Base := 86, f_Name := [] } : T_api_Type))))) else
        ((j58x1 v0 x1) false))))
theorem wj58x2 (p1 : Bool) (r : Int) (h : j58x2 p1 = some r) (Γ : Ctx) : EvOk Try.prog Γ (Den.Ends Try.prog Try.f58 (dI r)) (mkS 60 [(10, .bool p1)] []) (.stop c58x20 [.seq c58x21, .seq c58x22]) := by
  refine EvOk.stop ?_
  refine At.adv [] [(10, { keep := some ([59], []) })] 400 (ev := .cond p1 c58x25 c58x26 [.seq c58x22]) (σ' := mkS 60 [(59, .bool p1)] []) (q := []) (by kernel_rfl) trivial ?_
  refine EvOk.cond (fun h7 => ?_) (fun h7 => ?_)
  · replace h := iteT h7 h
    refine At.gc [] [] (n := 60) (l := []) (bl := []) (by kernel_rfl) ?_
    refine At.adv [] [(11, { keep := some ([4], []) })] 400 (ev := .ret) (σ' := mkS 60 [(4, dI 12)] []) (q := []) (by kernel_rfl) trivial ?_
    refine EvOk.ret ?_
    obtain rfl := someE h
    exact Den.Ends.mk (.inl rfl) (d := dI 12) (p := (True ∧ True) ∧ (tN 1)) (by kernel_rfl) ⟨⟨trivial, trivial⟩, tNi 1⟩ (by kernel_rfl)
  · replace h := iteF h7 h
    refine At.gc [] [] (n := 60) (l := []) (bl := []) (by kernel_rfl) ?_
    refine At.adv [] [(12, { keep := some ([4], []) })] 400 (ev := .ret) (σ' := mkS 60 [(4, dI 0)] []) (q := []) (by kernel_rfl) trivial ?_
    refine EvOk.ret ?_
    obtain rfl := someE h
    exact Den.Ends.mk (.inl rfl) (d := dI 0) (p := (True ∧ True) ∧ (tN 1)) (by kernel_rfl) ⟨⟨trivial, trivial⟩, tNi 1⟩ (by kernel_rfl)
theorem wj58x1 (v0 : (List UInt8) × (List UInt8) × Int) (x1 : T_api_Const) (p0 : Bool) (r : Int) (h : (j58x1 v0 x1) p0 = some r) (Γ : Ctx) : EvOk Try.prog Γ (Den.Ends Try.prog Try.f58 (dI r)) (mkS 60 [(3, .ptr (row_T_api_Const x1)), (5, .str v0.1), (10, .bool p0)] []) (.stop c58x7 [.seq c58x8, .seq c58x9]) := by
  refine EvOk.stop ?_
  refine At.adv [] [(8, { keep := some ([5, 10, 51], []) })] 400 (ev := .cond (x1.f_Tag == 9) c58x23 c58x24 [.seq c58x9]) (σ' := mkS 60 [(5, .str v0.1), (10, .bool p0), (51, .bool (x1.f_Tag == 9))] []) (q := []) (by kernel_rfl) trivial ?_
  refine EvOk.cond (fun h5 => ?_) (fun h5 => ?_)
  · replace h := iteT h5 h
    refine At.gc [5] [] (n := 60) (l := [(5, .str v0.1)]) (bl := []) (by kernel_rfl) ?_
    rcases Bool.eq_false_or_eq_true (!(v0.1 == ([] : List UInt8))) with h6 | h6
    · replace h := iteT h6 h
      obtain ⟨v2, e2, h⟩ := bindE h
      refine At.adv [10] [(9, { told := [(1, aB true), (4, a8 v2)], keep := some ([10], []) })] 400 (ev := .stop c58x20 [.seq c58x21, .seq c58x22]) (σ' := mkS 60 [(10, .bool (v2 == 60))] []) (q := [True ∧ ((!(v0.1 == ([] : List UInt8))) = true), True ∧ True, True ∧ (getS v0.1 0 = some v2), True ∧ True]) (by kernel_rfl) ⟨⟨trivial, h6⟩, ⟨trivial, trivial⟩, ⟨trivial, e2⟩, ⟨trivial, trivial⟩, trivial⟩ ?_
      exact wj58x2 (v2 == 60) r h Γ
    · replace h := iteF h6 h
      refine At.adv [10] [(9, { told := [(1, aB false)], keep := some ([10], []) })] 400 (ev := .stop c58x20 [.seq c58x21, .seq c58x22]) (σ' := mkS 60 [(10, .bool false)] []) (q := [True ∧ ((!(v0.1 == ([] : List UInt8))) = false), True, True, True]) (by kernel_rfl) ⟨⟨trivial, h6⟩, trivial, trivial, trivial, trivial⟩ ?_
      exact wj58x2 false r h Γ
  · replace h := iteF h5 h
    refine At.gc [10] [] (n := 60) (l := [(10, .bool p0)]) (bl := []) (by kernel_rfl) ?_
    refine At.adv [10] [] 400 (ev := .stop c58x20 [.seq c58x21, .seq c58x22]) (σ' := mkS 60 [(10, .bool p0)] []) (q := []) (by kernel_rfl) trivial ?_
    exact wj58x2 p0 r h Γ
theorem we58 (x0 : List T_api_Const) (x1 : T_api_Const) (r : Int) (h : m_pool_member x0 x1 = some r) (Γ : Ctx) : At Try.prog Γ b58 [] (Den.Ends Try.prog Try.f58 (dI r)) (mkS 60 [(0, .sl false (x0.map row_T_api_Const)), (1, .agg (row_T_api_Const x1))] []) := by
  obtain ⟨v0, e0, h⟩ := bindE h
  refine At.adv [] [(0, { told := [(0, { ro := true })], keep := some ([0, 3], []) }), (1, { told := [(3, { ans := .val (.tup [.str v0.1, .str v0.2.1, dI v0.2.2]) })], keep := some ([3, 5, 6, 7], []) }), (2, { keep := some ([3, 5, 6, 20], []) })] 400 (ev := .cond (v0.2.2 != 0) c58x17 c58x18 [.seq c58x2]) (σ' := mkS 60 [(3, .ptr (row_T_api_Const x1)), (5, .str v0.1), (6, .str v0.2.1), (20, .bool (v0.2.2 != 0))] []) (q := [True ∧ (cq Try.prog (tN 2) 20 [.sl false (x0.map row_T_api_Const), dI x1.f_B] (.tup [.str v0.1, .str v0.2.1, dI v0.2.2]))]) (by kernel_rfl) ⟨⟨trivial, cqi (tNi 2) (w20 e0)⟩, trivial⟩ ?_
  refine EvOk.cond (fun h0 => ?_) (fun h0 => ?_)
  · replace h := iteT h0 h
    refine At.gc [] [] (n := 60) (l := []) (bl := []) (by kernel_rfl) ?_
    refine At.adv [] [(3, { keep := some ([4], []) })] 400 (ev := .ret) (σ' := mkS 60 [(4, dI 0)] []) (q := []) (by kernel_rfl) trivial ?_
    refine EvOk.ret ?_
    obtain rfl := someE h
    exact Den.Ends.mk (.inl rfl) (d := dI 0) (p := (True ∧ True) ∧ (tN 1)) (by kernel_rfl) ⟨⟨trivial, trivial⟩, tNi 1⟩ (by kernel_rfl)
  · replace h := iteF h0 h
    refine At.gc [3, 5, 6] [] (n := 60) (l := [(3, .ptr (row_T_api_Const x1)), (5, .str v0.1), (6, .str v0.2.1)]) (bl := []) (by kernel_rfl) ?_
    obtain ⟨v1, e1, h⟩ := bindE h
    refine At.adv [] [(4, { told := [(1, { ans := .val (.tup [.agg (row_T_api_Sig v1.1), dI v1.2]) })], keep := some ([3, 5, 8, 9], [(8, 8)]) }), (5, { keep := some ([3, 5, 8, 31], [(8, 8)]) })] 400 (ev := .cond ((v1.2 == 0) == (x1.f_Tag == 9)) c58x13 c58x14 [.seq c58x4]) (σ' := mkS 60 [(3, .ptr (row_T_api_Const x1)), (5, .str v0.1), (8, .lptr 8 0 0), (31, .bool ((v1.2 == 0) == (x1.f_Tag == 9)))] [(8, { sz := 4, rows := [row_T_api_Sig v1.1], frz := 0, pure := false })]) (q := [True ∧ (cq Try.prog (tN 1) 57 [.str v0.2.1] (.tup [.agg (row_T_api_Sig v1.1), dI v1.2])), True ∧ (0 ≤ 0 ∧ 0 + ([.sl false (v1.1.f_Params.map row_T_api_Type), dI v1.1.f_Result.f_Dim, d8 v1.1.f_Result.f_Base, .str v1.1.f_Result.f_Name] : List D).length ≤ ([.sl true (([] : List T_api_Type).map row_T_api_Type), dI 0, d8 0, .str []] : List D).length ∧ ([[.sl false (v1.1.f_Params.map row_T_api_Type), dI v1.1.f_Result.f_Dim, d8 v1.1.f_Result.f_Base, .str v1.1.f_Result.f_Name]] : List (List D)) = ([[.sl false (v1.1.f_Params.map row_T_api_Type), dI v1.1.f_Result.f_Dim, d8 v1.1.f_Result.f_Base, .str v1.1.f_Result.f_Name]] : List (List D)))]) (by kernel_rfl) ⟨⟨trivial, cqi (tNi 1) (w57 e1)⟩, ⟨trivial, ⟨Nat.zero_le _, Nat.le_of_ble_eq_true rfl, rfl⟩⟩, trivial⟩ ?_
    refine EvOk.cond (fun h1 => ?_) (fun h1 => ?_)
    · replace h := iteT h1 h
      refine At.gc [] [] (n := 60) (l := []) (bl := []) (by kernel_rfl) ?_
      refine At.adv [] [(6, { keep := some ([4], []) })] 400 (ev := .ret) (σ' := mkS 60 [(4, dI 13)] []) (q := []) (by kernel_rfl) trivial ?_
      refine EvOk.ret ?_
      obtain rfl := someE h
      exact Den.Ends.mk (.inl rfl) (d := dI 13) (p := (True ∧ True) ∧ (tN 1)) (by kernel_rfl) ⟨⟨trivial, trivial⟩, tNi 1⟩ (by kernel_rfl)
    · replace h := iteF h1 h
      refine At.gc [3, 5, 8] [(8, 8)] (n := 60) (l := [(3, .ptr (row_T_api_Const x1)), (5, .str v0.1), (8, .lptr 8 0 0)]) (bl := [(8, { sz := 4, rows := [row_T_api_Sig v1.1], frz := 0, pure := false })]) (by kernel_rfl) ?_
      refine At.adv [7] [] 400 (ev := .stop c58x10 [.seq c58x5]) (σ' := mkS 60 [(3, .ptr (row_T_api_Const x1)), (5, .str v0.1), (8, .lptr 8 0 0)] [(8, { sz := 4, rows := [row_T_api_Sig v1.1], frz := 0, pure := false })]) (q := []) (by kernel_rfl) trivial ?_
      refine EvOk.stop (At.ops (l := iv 0 18) (by kernel_rfl) (by kernel_rfl) ?_)
      refine AtOps.run (iv 0 3) (iv 3 15) [] [] [3, 5, 8, 34] [(8, 8)] (n := 60) (sl := [(3, .ptr (row_T_api_Const x1)), (5, .str v0.1), (8, .lptr 8 0 0), (34, .bool (v0.1 == ([60, 99, 108, 105, 110, 105, 116, 62] : List UInt8)))]) (bl := [(8, { sz := 4, rows := [row_T_api_Sig v1.1], frz := 0, pure := false })]) (q := []) (by kernel_rfl) (by kernel_rfl) trivial ?_
      rcases Bool.eq_false_or_eq_true (v0.1 == ([60, 99, 108, 105, 110, 105, 116, 62] : List UInt8)) with h2 | h2
      · replace h := iteT h2 h
        refine AtOps.run (iv 3 15) (iv 18 0) [(16, aT)] [(3, false), (4, false), (5, false), (15, false)] [3, 5, 10] [] (n := 60) (sl := [(3, .ptr (row_T_api_Const x1)), (5, .str v0.1), (10, .bool true)]) (bl := []) (q := [((v0.1 == ([60, 99, 108, 105, 110, 105, 116, 62] : List UInt8)) == false) = false, ((v0.1 == ([60, 99, 108, 105, 110, 105, 116, 62] : List UInt8)) == false) = false, ((v0.1 == ([60, 99, 108, 105, 110, 105, 116, 62] : List UInt8)) == false) = false, True, True, True, True, True, True, True, True, True, ((v0.1 == ([60, 99, 108, 105, 110, 105, 116, 62] : List UInt8)) == false) = false, True ∧ ((v0.1 == ([60, 99, 108, 105, 110, 105, 116, 62] : List UInt8)) = true)]) (by kernel_rfl) (by kernel_rfl) ⟨gB h2 rfl, gB h2 rfl, gB h2 rfl, trivial, trivial, trivial, trivial, trivial, trivial, trivial, trivial, trivial, gB h2 rfl, ⟨trivial, h2⟩, trivial⟩ ?_
        refine AtOps.done ?_
        refine At.advN [8] [] 400 (ev := .stop c58x7 [.seq c58x8, .seq c58x9]) (σ' := mkS 60 [(3, .ptr (row_T_api_Const x1)), (5, .str v0.1), (10, .bool true)] []) (q := []) (by kernel_rfl) trivial ?_
        exact (wj58x1 v0 x1) true r h Γ
      · replace h := iteF h2 h
        refine AtOps.run (iv 3 3) (iv 6 12) [] [(3, true), (4, true), (5, true)] [3, 5, 8, 34, 37] [(8, 8)] (n := 60) (sl := [(3, .ptr (row_T_api_Const x1)), (5, .str v0.1), (8, .lptr 8 0 0), (34, .bool (v0.1 == ([60, 99, 108, 105, 110, 105, 116, 62] : List UInt8))), (37, .bool (v0.1 == ([60, 105, 110, 105, 116, 62] : List UInt8)))]) (bl := [(8, { sz := 4, rows := [row_T_api_Sig v1.1], frz := 0, pure := false })]) (q := [((v0.1 == ([60, 99, 108, 105, 110, 105, 116, 62] : List UInt8)) == false) = true ∧ True, ((v0.1 == ([60, 99, 108, 105, 110, 105, 116, 62] : List UInt8)) == false) = true ∧ True, ((v0.1 == ([60, 99, 108, 105, 110, 105, 116, 62] : List UInt8)) == false) = true ∧ True]) (by kernel_rfl) (by kernel_rfl) ⟨⟨(gB h2 rfl), trivial⟩, ⟨(gB h2 rfl), trivial⟩, ⟨(gB h2 rfl), trivial⟩, trivial⟩ ?_
        rcases Bool.eq_false_or_eq_true (v0.1 == ([60, 105, 110, 105, 116, 62] : List UInt8)) with h3 | h3
        · replace h := iteT h3 h
          refine AtOps.run (iv 6 4) (iv 10 8) [] [(6, true), (7, true), (8, true), (9, true)] [3, 5, 8, 34, 37, 41] [(8, 8)] (n := 60) (sl := [(3, .ptr (row_T_api_Const x1)), (5, .str v0.1), (8, .lptr 8 0 0), (34, .bool (v0.1 == ([60, 99, 108, 105, 110, 105, 116, 62] : List UInt8))), (37, .bool (v0.1 == ([60, 105, 110, 105, 116, 62] : List UInt8))), (41, .bool (x1.f_Tag == 11))]) (bl := [(8, { sz := 4, rows := [row_T_api_Sig v1.1], frz := 0, pure := false })]) (q := [((v0.1 == ([60, 105, 110, 105, 116, 62] : List UInt8)) == true) = true ∧ True, ((v0.1 == ([60, 105, 110, 105, 116, 62] : List UInt8)) == true) = true ∧ True, ((v0.1 == ([60, 105, 110, 105, 116, 62] : List UInt8)) == true) = true ∧ True, ((v0.1 == ([60, 105, 110, 105, 116, 62] : List UInt8)) == true) = true ∧ True]) (by kernel_rfl) (by kernel_rfl) ⟨⟨(gB h3 rfl), trivial⟩, ⟨(gB h3 rfl), trivial⟩, ⟨(gB h3 rfl), trivial⟩, ⟨(gB h3 rfl), trivial⟩, trivial⟩ ?_
          rcases Bool.eq_false_or_eq_true (x1.f_Tag == 11) with h4 | h4
          · replace h := iteT h4 h
            refine AtOps.run (iv 10 8) (iv 18 0) [(14, aT), (15, aT), (16, aF)] [(10, false), (11, false), (12, false), (13, false), (14, true), (15, true)] [3, 5, 10] [] (n := 60) (sl := [(3, .ptr (row_T_api_Const x1)), (5, .str v0.1), (10, .bool true)]) (bl := []) (q := [((x1.f_Tag == 11) == false) = false, ((x1.f_Tag == 11) == false) = false, ((x1.f_Tag == 11) == false) = false, ((x1.f_Tag == 11) == false) = false, ((v0.1 == ([60, 105, 110, 105, 116, 62] : List UInt8)) == true) = true ∧ ((x1.f_Tag == 11) = true), ((v0.1 == ([60, 99, 108, 105, 110, 105, 116, 62] : List UInt8)) == false) = true ∧ ((v0.1 == ([60, 105, 110, 105, 116, 62] : List UInt8)) = true), True ∧ ((v0.1 == ([60, 99, 108, 105, 110, 105, 116, 62] : List UInt8)) = false)]) (by kernel_rfl) (by kernel_rfl) ⟨gB h4 rfl, gB h4 rfl, gB h4 rfl, gB h4 rfl, ⟨(gB h3 rfl), h4⟩, ⟨(gB h2 rfl), h3⟩, ⟨trivial, h2⟩, trivial⟩ ?_
            refine AtOps.done ?_
            refine At.advN [8] [] 400 (ev := .stop c58x7 [.seq c58x8, .seq c58x9]) (σ' := mkS 60 [(3, .ptr (row_T_api_Const x1)), (5, .str v0.1), (10, .bool true)] []) (q := []) (by kernel_rfl) trivial ?_
            exact (wj58x1 v0 x1) true r h Γ
          · replace h := iteF h4 h
            refine AtOps.run (iv 10 8) (iv 18 0) [(13, { ans := .val (.bool (!(eqb_T_api_Type v1.1.f_Result ({ f_Dim := 0, f_Base := 86, f_Name := [] } : T_api_Type)))) }), (14, aF), (15, aT), (16, aF)] [(10, true), (11, true), (12, true), (13, true), (14, true), (15, true)] [3, 5, 10] [] (n := 60) (sl := [(3, .ptr (row_T_api_Const x1)), (5, .str v0.1), (10, .bool (!(eqb_T_api_Type v1.1.f_Result ({ f_Dim := 0, f_Base := 86, f_Name := [] } : T_api_Type))))]) (bl := []) (q := [((x1.f_Tag == 11) == false) = true ∧ True, ((x1.f_Tag == 11) == false) = true ∧ True, ((x1.f_Tag == 11) == false) = true ∧ True, ((x1.f_Tag == 11) == false) = true ∧ (Try.prog.eqGuardType Try.prog.depth 66 = false ∧ eqq_66 ∧ (!(eqb_T_api_Type v1.1.f_Result ({ f_Dim := 0, f_Base := 86, f_Name := [] } : T_api_Type))) = (!(eqb_T_api_Type v1.1.f_Result ({ f_Dim := 0, f_Base := 86, f_Name := [] } : T_api_Type)))), ((v0.1 == ([60, 105, 110, 105, 116, 62] : List UInt8)) == true) = true ∧ ((x1.f_Tag == 11) = false), ((v0.1 == ([60, 99, 108, 105, 110, 105, 116, 62] : List UInt8)) == false) = true ∧ ((v0.1 == ([60, 105, 110, 105, 116, 62] : List UInt8)) = true), True ∧ ((v0.1 == ([60, 99, 108, 105, 110, 105, 116, 62] : List UInt8)) = false)]) (by kernel_rfl) (by kernel_rfl) ⟨⟨(gB h4 rfl), trivial⟩, ⟨(gB h4 rfl), trivial⟩, ⟨(gB h4 rfl), trivial⟩, ⟨(gB h4 rfl), ⟨eqg_66, eqp_66, rfl⟩⟩, ⟨(gB h3 rfl), h4⟩, ⟨(gB h2 rfl), h3⟩, ⟨trivial, h2⟩, trivial⟩ ?_
            refine AtOps.done ?_
            refine At.advN [8] [] 400 (ev := .stop c58x7 [.seq c58x8, .seq c58x9]) (σ' := mkS 60 [(3, .ptr (row_T_api_Const x1)), (5, .str v0.1), (10, .bool (!(eqb_T_api_Type v1.1.f_Result ({ f_Dim := 0, f_Base := 86, f_Name := [] } : T_api_Type))))] []) (q := []) (by kernel_rfl) trivial ?_
            exact (wj58x1 v0 x1) (!(eqb_T_api_Type v1.1.f_Result ({ f_Dim := 0, f_Base := 86, f_Name := [] } : T_api_Type))) r h Γ
        · replace h := iteF h3 h
          refine AtOps.run (iv 6 12) (iv 18 0) [(15, aF), (16, aF)] [(6, false), (7, false), (8, false), (9, false), (14, false), (15, true)] [3, 5, 10] [] (n := 60) (sl := [(3, .ptr (row_T_api_Const x1)), (5, .str v0.1), (10, .bool false)]) (bl := []) (q := [((v0.1 == ([60, 105, 110, 105, 116, 62] : List UInt8)) == true) = false, ((v0.1 == ([60, 105, 110, 105, 116, 62] : List UInt8)) == true) = false, ((v0.1 == ([60, 105, 110, 105, 116, 62] : List UInt8)) == true) = false, ((v0.1 == ([60, 105, 110, 105, 116, 62] : List UInt8)) == true) = false, True, True, True, True, ((v0.1 == ([60, 105, 110, 105, 116, 62] : List UInt8)) == true) = false, ((v0.1 == ([60, 99, 108, 105, 110, 105, 116, 62] : List UInt8)) == false) = true ∧ ((v0.1 == ([60, 105, 110, 105, 116, 62] : List UInt8)) = false), True ∧ ((v0.1 == ([60, 99, 108, 105, 110, 105, 116, 62] : List UInt8)) = false)]) (by kernel_rfl) (by kernel_rfl) ⟨gB h3 rfl, gB h3 rfl, gB h3 rfl, gB h3 rfl, trivial, trivial, trivial, trivial, gB h3 rfl, ⟨(gB h2 rfl), h3⟩, ⟨trivial, h2⟩, trivial⟩ ?_
          refine AtOps.done ?_
          refine At.advN [8] [] 400 (ev := .stop c58x7 [.seq c58x8, .seq c58x9]) (σ' := mkS 60 [(3, .ptr (row_T_api_Const x1)), (5, .str v0.1), (10, .bool false)] []) (q := []) (by kernel_rfl) trivial ?_
          exact (wj58x1 v0 x1) false r h Γ
theorem w58 {x0 : List T_api_Const} {x1 : T_api_Const} {r : Int} (h : m_pool_member x0 x1 = some r) : CallSpec Try.prog 58 [.sl false (x0.map row_T_api_Const), .agg (row_T_api_Const x1)] (.int .i64 r) :=
  CallSpec.at2 b58 (n := 60) (l := [(0, .sl false (x0.map row_T_api_Const)), (1, .agg (row_T_api_Const x1))]) (by kernel_rfl) (by kernel_rfl) (by kernel_rfl) (by kernel_rfl) (by kernel_rfl) (Nat.le_of_ble_eq_true (by kernel_rfl)) (fun Γ => we58 x0 x1 r h Γ)
end Go.Proofs
