/-
  Models of functions of the program, and that the functions compute them. Printed by den2.py. No condition.
-/
import Derived.Test.YtcppeincgkalbaaPoo4
set_option linter.unusedVariables false
namespace Go.Proofs
open Go.Den
/-! ### armature armaturelaw05.PoolValidReadable -/
noncomputable def b6 : Code := Try.f6.body.getD .skip
noncomputable def c6x0 : Code := sub1 b6
noncomputable def c6x1 : Code := sub1 c6x0
noncomputable def c6x2 : Code := sub1 c6x1
noncomputable def c6x3 : Code := sub0 c6x2
noncomputable def c6x4 : Code := sub1 c6x3
noncomputable def c6x5 : Code := sub0 c6x4
noncomputable def c6x6 : Code := sub0 c6x5
noncomputable def c6x7 : Code := sub1 c6x5
noncomputable def c6x8 : Code := sub1 c6x2
noncomputable def c6x9 : Code := sub0 c6x8
noncomputable def c6x10 : Code := sub1 c6x9
noncomputable def c6x11 : Code := sub0 c6x10
noncomputable def c6x12 : Code := sub0 c6x11
noncomputable def c6x13 : Code := sub1 c6x12
noncomputable def c6x14 : Code := sub0 c6x13
noncomputable def c6x15 : Code := sub0 c6x14
noncomputable def c6x16 : Code := sub1 c6x15
noncomputable def c6x17 : Code := sub0 c6x16
noncomputable def c6x18 : Code := sub1 c6x16
noncomputable def c6x19 : Code := sub1 c6x13
noncomputable def c6x20 : Code := sub0 c6x12
noncomputable def c6x21 : Code := sub1 c6x20
noncomputable def c6x22 : Code := sub0 c6x21
noncomputable def c6x23 : Code := sub1 c6x21
noncomputable def c6x24 : Code := sub1 c6x8
noncomputable def c6x25 : Code := sub1 c6x24
noncomputable def c6x26 : Code := sub1 c6x25
noncomputable def c6x27 : Code := sub0 c6x26
noncomputable def c6x28 : Code := sub1 c6x26
noncomputable def c6x29 : Code := sub1 c6x4
noncomputable def c6x30 : Code := sub0 c6x0
noncomputable def c6x31 : Code := sub1 c6x30
noncomputable def c6x32 : Code := sub0 c6x31
noncomputable def c6x33 : Code := sub1 c6x31
def l6x1 (x0 : List T_api_Const) (t0 : Int) : Option (Ctl (Int) (Unit ⊕ Bool)) :=
  if (decide (t0 ≤ (x0.length : Int))) = true then
    ((m_armaturelaw05_asked x0 t0).bind fun v5 =>
    if (!v5) = true then
      (some (.done (.inr false))) else
    ((some (IntKind.wrap .i64 (t0 + (1 : Int)))).bind fun v6 =>
      some (.next v6))) else
  (some (.done (.inl (()))))
def m_armaturelaw05_PoolValidReadable (x0 : List T_api_Const) (x1 : List UInt8) : Option (Bool) :=
  (m_armaturelaw05_few x0).bind fun v0 =>
  if (!v0) = true then
    ((m_armaturelaw05_awake).bind fun v1 =>
    some v1) else
  ((m_pool_Check x0).bind fun v2 =>
    if (v2.2 != 0) = true then
      ((m_armaturelaw05_awake).bind fun v3 =>
      if v3 = true then (if (decide (v2.1 ≥ 0)) = true then (if (decide (v2.1 ≤ (x0.length : Int))) = true then (some ((decide (v2.1 > 0)) == (v2.2 != 5))) else
          (some false)) else
        (some false)) else
      (some false)) else
    ((loopM (l6x1 x0) rounds 1).bind fun q1 =>
      match q1 with
      | .inl q0 => ((m_pool_AddString x0 x1).bind fun v7 =>
        (m_pool_Check v7.1).bind fun v8 =>
        (m_armaturelaw05_awake).bind fun v9 =>
        if v9 = true then (if (v2.1 == 0) = true then (if (v7.2.2 != 0) = true then (some true) else
            (some ((v8.2 == 0) == (decide ((x1.length : Int) ≤ 1024))))) else
          (some false)) else
        (some false))
      | .inr y0 => (some y0)))
def st6x1 (v2 : Int × Int) (x0 : List T_api_Const) (x1 : List UInt8) : Int → S :=
  fun t0 => mkS 81 [(0, .sl false (x0.map row_T_api_Const)), (1, .str x1), (5, .int .i64 v2.1), (7, .int .i64 t0)] []
noncomputable def J6x1 (v2 : Int × Int) (x0 : List T_api_Const) (x1 : List UInt8) : (Unit ⊕ Bool) → Exit → S → Prop :=
  JSum (JExit 0 (fun q0 : Unit => mkS 81 [(0, .sl false (x0.map row_T_api_Const)), (1, .str x1), (5, .int .i64 v2.1)] [])) (JRet Try.prog Try.f6 (fun y : Bool => .bool y))
theorem wl6x1 (v2 : Int × Int) (x0 : List T_api_Const) (x1 : List UInt8) (t0 : Int) (r : Ctl (Int) (Unit ⊕ Bool)) (h : (l6x1 x0) t0 = some r) (Γ : Ctx) : At Try.prog Γ c6x12 [] (Round (st6x1 v2 x0 x1) (J6x1 v2 x0 x1) r) ((st6x1 v2 x0 x1) t0) := by
  refine At.adv [] [(7, { told := [(2, { ans := .val (dI (x0.length : Int)) })], keep := some ([0, 1, 5, 7, 45], []) })] 400 (ev := .cond (decide (t0 ≤ (x0.length : Int))) c6x22 c6x23 [.seq c6x13]) (σ' := mkS 81 [(0, .sl false (x0.map row_T_api_Const)), (1, .str x1), (5, dI v2.1), (7, dI t0), (45, .bool (decide (t0 ≤ (x0.length : Int))))] []) (q := [True ∧ (((x0.map row_T_api_Const).length : Int) = (x0.length : Int))]) (by kernel_rfl) ⟨⟨trivial, lenM _ _⟩, trivial⟩ ?_
  refine EvOk.cond (fun h7 => ?_) (fun h7 => ?_)
  · replace h := iteT h7 h
    refine At.gc [0, 1, 5, 7] [] (n := 81) (l := [(0, .sl false (x0.map row_T_api_Const)), (1, .str x1), (5, dI v2.1), (7, dI t0)]) (bl := []) (by kernel_rfl) ?_
    obtain ⟨v5, e5, h⟩ := bindE h
    refine At.adv [] [(9, { told := [(2, aB v5)], keep := some ([0, 1, 5, 7, 51], []) })] 400 (ev := .cond (!v5) c6x17 c6x18 [.blk 1, .seq c6x19]) (σ' := mkS 81 [(0, .sl false (x0.map row_T_api_Const)), (1, .str x1), (5, dI v2.1), (7, dI t0), (51, .bool (!v5))] []) (q := [True ∧ (cq Try.prog (tN 2) 28 [.sl false (x0.map row_T_api_Const), dI t0] (.bool v5))]) (by kernel_rfl) ⟨⟨trivial, cqi (tNi 2) (w28 e5)⟩, trivial⟩ ?_
    refine EvOk.cond (fun h8 => ?_) (fun h8 => ?_)
    · replace h := iteT h8 h
      refine At.gc [] [] (n := 81) (l := []) (bl := []) (by kernel_rfl) ?_
      refine At.adv [] [(10, { keep := some ([4], []) })] 400 (ev := .ret) (σ' := mkS 81 [(4, .bool false)] []) (q := []) (by kernel_rfl) trivial ?_
      refine EvOk.ret ?_
      obtain rfl := someE h
      exact Round.done neRet ⟨rfl, Den.Ends.mk (.inl rfl) (d := .bool false) (p := (True ∧ True) ∧ (tN 1)) (by kernel_rfl) ⟨⟨trivial, trivial⟩, tNi 1⟩ (by kernel_rfl)⟩
    · replace h := iteF h8 h
      refine At.gc [0, 1, 5, 7] [] (n := 81) (l := [(0, .sl false (x0.map row_T_api_Const)), (1, .str x1), (5, dI v2.1), (7, dI t0)]) (bl := []) (by kernel_rfl) ?_
      obtain ⟨v6, e6, h⟩ := bindE h
      refine At.adv [] [(8, { told := [(1, aI v6)], keep := some ([0, 1, 5, 7], []) })] 400 (ev := .normal) (σ' := mkS 81 [(0, .sl false (x0.map row_T_api_Const)), (1, .str x1), (5, dI v2.1), (7, dI v6)] []) (q := [True ∧ (IntKind.wrap .i64 (t0 + (1 : Int)) = v6)]) (by kernel_rfl) ⟨⟨trivial, someE e6⟩, trivial⟩ ?_
      refine EvOk.normal ?_
      obtain rfl := someE h
      exact Round.next (by kernel_rfl)
  · replace h := iteF h7 h
    refine At.gc [0, 1, 5] [] (n := 81) (l := [(0, .sl false (x0.map row_T_api_Const)), (1, .str x1), (5, dI v2.1)]) (bl := []) (by kernel_rfl) ?_
    refine At.adv [] [] 400 (ev := .exit 0) (σ' := mkS 81 [(0, .sl false (x0.map row_T_api_Const)), (1, .str x1), (5, dI v2.1)] []) (q := []) (by kernel_rfl) trivial ?_
    refine EvOk.exit ?_
    obtain rfl := someE h
    exact Round.done (neExit _) ⟨rfl, by kernel_rfl⟩
theorem we6 (x0 : List T_api_Const) (x1 : List UInt8) (r : Bool) (h : m_armaturelaw05_PoolValidReadable x0 x1 = some r) (Γ : Ctx) : At Try.prog Γ b6 [] (Den.Ends Try.prog Try.f6 (.bool r)) (mkS 81 [(0, .sl false (x0.map row_T_api_Const)), (1, .str x1)] []) := by
  obtain ⟨v0, e0, h⟩ := bindE h
  refine At.adv [] [(0, { keep := some ([0, 1], []) }), (1, { told := [(1, aB v0)], keep := some ([0, 1, 15], []) })] 400 (ev := .cond (!v0) c6x32 c6x33 [.seq c6x1]) (σ' := mkS 81 [(0, .sl false (x0.map row_T_api_Const)), (1, .str x1), (15, .bool (!v0))] []) (q := [True ∧ (cq Try.prog (tN 1) 8 [.sl false (x0.map row_T_api_Const)] (.bool v0))]) (by kernel_rfl) ⟨⟨trivial, cqi (tNi 1) (w8 e0)⟩, trivial⟩ ?_
  refine EvOk.cond (fun h0 => ?_) (fun h0 => ?_)
  · replace h := iteT h0 h
    refine At.gc [] [] (n := 81) (l := []) (bl := []) (by kernel_rfl) ?_
    obtain ⟨v1, e1, h⟩ := bindE h
    refine At.adv [] [(2, { told := [(0, aB v1)], keep := some ([4], []) })] 400 (ev := .ret) (σ' := mkS 81 [(4, .bool v1)] []) (q := [True ∧ (cq Try.prog (tN 0) 10 [] (.bool v1))]) (by kernel_rfl) ⟨⟨trivial, cqi (tNi 0) (w10 e1)⟩, trivial⟩ ?_
    refine EvOk.ret ?_
    obtain rfl := someE h
    exact Den.Ends.mk (.inl rfl) (d := .bool v1) (p := (True ∧ True) ∧ (tN 1)) (by kernel_rfl) ⟨⟨trivial, trivial⟩, tNi 1⟩ (by kernel_rfl)
  · replace h := iteF h0 h
    refine At.gc [0, 1] [] (n := 81) (l := [(0, .sl false (x0.map row_T_api_Const)), (1, .str x1)]) (bl := []) (by kernel_rfl) ?_
    obtain ⟨v2, e2, h⟩ := bindE h
    refine At.adv [] [(3, { told := [(1, { ans := .val (.tup [dI v2.1, dI v2.2]) })], keep := some ([0, 1, 5, 6], []) }), (4, { keep := some ([0, 1, 5, 6, 23], []) })] 400 (ev := .cond (v2.2 != 0) c6x5 c6x29 [.seq c6x8]) (σ' := mkS 81 [(0, .sl false (x0.map row_T_api_Const)), (1, .str x1), (5, dI v2.1), (6, dI v2.2), (23, .bool (v2.2 != 0))] []) (q := [True ∧ (cq Try.prog (tN 1) 9 [.sl false (x0.map row_T_api_Const)] (.tup [dI v2.1, dI v2.2]))]) (by kernel_rfl) ⟨⟨trivial, cqi (tNi 1) (w9 e2)⟩, trivial⟩ ?_
    refine EvOk.cond (fun h1 => ?_) (fun h1 => ?_)
    · replace h := iteT h1 h
      refine At.gc [0, 5, 6] [] (n := 81) (l := [(0, .sl false (x0.map row_T_api_Const)), (5, dI v2.1), (6, dI v2.2)]) (bl := []) (by kernel_rfl) ?_
      refine At.adv [5] [] 400 (ev := .stop c6x6 [.seq c6x7, .seq c6x8]) (σ' := mkS 81 [(0, .sl false (x0.map row_T_api_Const)), (5, dI v2.1), (6, dI v2.2)] []) (q := []) (by kernel_rfl) trivial ?_
      refine EvOk.stop (At.ops (l := iv 0 19) (by kernel_rfl) (by kernel_rfl) ?_)
      obtain ⟨v3, e3, h⟩ := bindE h
      refine AtOps.run (iv 0 2) (iv 2 17) [(0, aB v3)] [] [0, 5, 6, 25] [] (n := 81) (sl := [(0, .sl false (x0.map row_T_api_Const)), (5, dI v2.1), (6, dI v2.2), (25, .bool v3)]) (bl := []) (q := [True ∧ (cq Try.prog (tN 0) 10 [] (.bool v3))]) (by kernel_rfl) (by kernel_rfl) ⟨⟨trivial, cqi (tNi 0) (w10 e3)⟩, trivial⟩ ?_
      rcases Bool.eq_false_or_eq_true v3 with h2 | h2
      · replace h := iteT h2 h
        refine AtOps.run (iv 2 4) (iv 6 13) [(4, aT)] [(2, true), (3, true)] [0, 5, 6, 29] [] (n := 81) (sl := [(0, .sl false (x0.map row_T_api_Const)), (5, dI v2.1), (6, dI v2.2), (29, .bool (decide (v2.1 ≥ 0)))]) (bl := []) (q := [(v3 == true) = true ∧ True, (v3 == true) = true ∧ True, True ∧ (v3 = true)]) (by kernel_rfl) (by kernel_rfl) ⟨⟨(gB h2 rfl), trivial⟩, ⟨(gB h2 rfl), trivial⟩, ⟨trivial, h2⟩, trivial⟩ ?_
        rcases Bool.eq_false_or_eq_true (decide (v2.1 ≥ 0)) with h3 | h3
        · replace h := iteT h3 h
          refine AtOps.run (iv 6 6) (iv 12 7) [(8, { ans := .val (dI (x0.length : Int)) }), (10, aT)] [(6, true), (7, true), (8, true), (9, true)] [5, 6, 35] [] (n := 81) (sl := [(5, dI v2.1), (6, dI v2.2), (35, .bool (decide (v2.1 ≤ (x0.length : Int))))]) (bl := []) (q := [((decide (v2.1 ≥ 0)) == true) = true ∧ True, ((decide (v2.1 ≥ 0)) == true) = true ∧ True, ((decide (v2.1 ≥ 0)) == true) = true ∧ (((x0.map row_T_api_Const).length : Int) = (x0.length : Int)), ((decide (v2.1 ≥ 0)) == true) = true ∧ True, True ∧ ((decide (v2.1 ≥ 0)) = true)]) (by kernel_rfl) (by kernel_rfl) ⟨⟨(gB h3 rfl), trivial⟩, ⟨(gB h3 rfl), trivial⟩, ⟨(gB h3 rfl), lenM _ _⟩, ⟨(gB h3 rfl), trivial⟩, ⟨trivial, h3⟩, trivial⟩ ?_
          rcases Bool.eq_false_or_eq_true (decide (v2.1 ≤ (x0.length : Int))) with h4 | h4
          · replace h := iteT h4 h
            refine AtOps.run (iv 12 7) (iv 19 0) [(17, aT)] [(12, true), (13, true), (14, true), (15, true), (16, true)] [4] [] (n := 81) (sl := [(4, .bool ((decide (v2.1 > 0)) == (v2.2 != 5)))]) (bl := []) (q := [((decide (v2.1 ≤ (x0.length : Int))) == true) = true ∧ True, ((decide (v2.1 ≤ (x0.length : Int))) == true) = true ∧ True, ((decide (v2.1 ≤ (x0.length : Int))) == true) = true ∧ True, ((decide (v2.1 ≤ (x0.length : Int))) == true) = true ∧ True, ((decide (v2.1 ≤ (x0.length : Int))) == true) = true ∧ True, True ∧ ((decide (v2.1 ≤ (x0.length : Int))) = true)]) (by kernel_rfl) (by kernel_rfl) ⟨⟨(gB h4 rfl), trivial⟩, ⟨(gB h4 rfl), trivial⟩, ⟨(gB h4 rfl), trivial⟩, ⟨(gB h4 rfl), trivial⟩, ⟨(gB h4 rfl), trivial⟩, ⟨trivial, h4⟩, trivial⟩ ?_
            refine AtOps.done ?_
            refine At.advN [] [] 400 (ev := .ret) (σ' := mkS 81 [(4, .bool ((decide (v2.1 > 0)) == (v2.2 != 5)))] []) (q := []) (by kernel_rfl) trivial ?_
            refine EvOk.ret ?_
            obtain rfl := someE h
            exact Den.Ends.mk (.inl rfl) (d := .bool ((decide (v2.1 > 0)) == (v2.2 != 5))) (p := (True ∧ True) ∧ (tN 1)) (by kernel_rfl) ⟨⟨trivial, trivial⟩, tNi 1⟩ (by kernel_rfl)
          · replace h := iteF h4 h
            refine AtOps.run (iv 12 7) (iv 19 0) [(17, aF)] [(12, false), (13, false), (14, false), (15, false), (16, false)] [4] [] (n := 81) (sl := [(4, .bool false)]) (bl := []) (q := [((decide (v2.1 ≤ (x0.length : Int))) == true) = false, ((decide (v2.1 ≤ (x0.length : Int))) == true) = false, ((decide (v2.1 ≤ (x0.length : Int))) == true) = false, ((decide (v2.1 ≤ (x0.length : Int))) == true) = false, ((decide (v2.1 ≤ (x0.length : Int))) == true) = false, True ∧ ((decide (v2.1 ≤ (x0.length : Int))) = false)]) (by kernel_rfl) (by kernel_rfl) ⟨gB h4 rfl, gB h4 rfl, gB h4 rfl, gB h4 rfl, gB h4 rfl, ⟨trivial, h4⟩, trivial⟩ ?_
            refine AtOps.done ?_
            refine At.advN [] [] 400 (ev := .ret) (σ' := mkS 81 [(4, .bool false)] []) (q := []) (by kernel_rfl) trivial ?_
            refine EvOk.ret ?_
            obtain rfl := someE h
            exact Den.Ends.mk (.inl rfl) (d := .bool false) (p := (True ∧ True) ∧ (tN 1)) (by kernel_rfl) ⟨⟨trivial, trivial⟩, tNi 1⟩ (by kernel_rfl)
        · replace h := iteF h3 h
          refine AtOps.run (iv 6 13) (iv 19 0) [(10, aF)] [(6, false), (7, false), (8, false), (9, false)] [4] [] (n := 81) (sl := [(4, .bool false)]) (bl := []) (q := [((decide (v2.1 ≥ 0)) == true) = false, ((decide (v2.1 ≥ 0)) == true) = false, ((decide (v2.1 ≥ 0)) == true) = false, ((decide (v2.1 ≥ 0)) == true) = false, True ∧ ((decide (v2.1 ≥ 0)) = false), True, True, True, True, True]) (by kernel_rfl) (by kernel_rfl) ⟨gB h3 rfl, gB h3 rfl, gB h3 rfl, gB h3 rfl, ⟨trivial, h3⟩, trivial, trivial, trivial, trivial, trivial, trivial⟩ ?_
          refine AtOps.done ?_
          refine At.advN [] [] 400 (ev := .ret) (σ' := mkS 81 [(4, .bool false)] []) (q := []) (by kernel_rfl) trivial ?_
          refine EvOk.ret ?_
          obtain rfl := someE h
          exact Den.Ends.mk (.inl rfl) (d := .bool false) (p := (True ∧ True) ∧ (tN 1)) (by kernel_rfl) ⟨⟨trivial, trivial⟩, tNi 1⟩ (by kernel_rfl)
      · replace h := iteF h2 h
        refine AtOps.run (iv 2 17) (iv 19 0) [(4, aF)] [(2, false), (3, false)] [4] [] (n := 81) (sl := [(4, .bool false)]) (bl := []) (q := [(v3 == true) = false, (v3 == true) = false, True ∧ (v3 = false), True, True, True, True, True, True, True, True, True]) (by kernel_rfl) (by kernel_rfl) ⟨gB h2 rfl, gB h2 rfl, ⟨trivial, h2⟩, trivial, trivial, trivial, trivial, trivial, trivial, trivial, trivial, trivial, trivial⟩ ?_
        refine AtOps.done ?_
        refine At.advN [] [] 400 (ev := .ret) (σ' := mkS 81 [(4, .bool false)] []) (q := []) (by kernel_rfl) trivial ?_
        refine EvOk.ret ?_
        obtain rfl := someE h
        exact Den.Ends.mk (.inl rfl) (d := .bool false) (p := (True ∧ True) ∧ (tN 1)) (by kernel_rfl) ⟨⟨trivial, trivial⟩, tNi 1⟩ (by kernel_rfl)
    · replace h := iteF h1 h
      refine At.gc [0, 1, 5] [] (n := 81) (l := [(0, .sl false (x0.map row_T_api_Const)), (1, .str x1), (5, dI v2.1)]) (bl := []) (by kernel_rfl) ?_
      refine At.adv [] [(6, { keep := some ([0, 1, 5, 7], []) })] 400 (ev := .loop c6x12 [.blk 0, .seq c6x24]) (σ' := mkS 81 [(0, .sl false (x0.map row_T_api_Const)), (1, .str x1), (5, dI v2.1), (7, dI 1)] []) (q := []) (by kernel_rfl) trivial ?_
      refine EvOk.loop ?_
      obtain ⟨q1, e7, h⟩ := bindE h
      refine At.loop (l6x1 x0) (st6x1 v2 x0 x1) (J6x1 v2 x0 x1) 1 e7 (by kernel_rfl) (fun t x hx => (wl6x1 v2 x0 x1) t x hx Γ) ?_
      intro e σ' hJ
      rcases q1 with q0 | y0
      · obtain ⟨rfl, rfl⟩ := hJ
        refine At.exitK (K' := [.seq c6x24]) (by kernel_rfl) ?_
        obtain ⟨v7, e8, h⟩ := bindE h
        obtain ⟨v8, e9, h⟩ := bindE h
        refine At.advN [13] [(11, { told := [(2, { ans := .val (.tup [.sl false (v7.1.map row_T_api_Const), dI v7.2.1, dI v7.2.2]) })], keep := some ([1, 5, 8, 10], []) }), (12, { told := [(1, { ans := .val (.tup [dI v8.1, dI v8.2]) })], keep := some ([1, 5, 10, 12], []) })] 400 (ev := .stop c6x27 [.seq c6x28]) (σ' := mkS 81 [(1, .str x1), (5, dI v2.1), (10, dI v7.2.2), (12, dI v8.2)] []) (q := [True ∧ (cq Try.prog (tN 2) 25 [.sl false (x0.map row_T_api_Const), .str x1] (.tup [.sl false (v7.1.map row_T_api_Const), dI v7.2.1, dI v7.2.2])), True ∧ (cq Try.prog (tN 1) 9 [.sl false (v7.1.map row_T_api_Const)] (.tup [dI v8.1, dI v8.2]))]) (by kernel_rfl) ⟨⟨trivial, cqi (tNi 2) (w25 e8)⟩, ⟨trivial, cqi (tNi 1) (w9 e9)⟩, trivial⟩ ?_
        refine EvOk.stop (At.ops (l := iv 0 18) (by kernel_rfl) (by kernel_rfl) ?_)
        obtain ⟨v9, e10, h⟩ := bindE h
        refine AtOps.run (iv 0 2) (iv 2 16) [(0, aB v9)] [] [1, 5, 10, 12, 65] [] (n := 81) (sl := [(1, .str x1), (5, dI v2.1), (10, dI v7.2.2), (12, dI v8.2), (65, .bool v9)]) (bl := []) (q := [True ∧ (cq Try.prog (tN 0) 10 [] (.bool v9))]) (by kernel_rfl) (by kernel_rfl) ⟨⟨trivial, cqi (tNi 0) (w10 e10)⟩, trivial⟩ ?_
        rcases Bool.eq_false_or_eq_true v9 with h9 | h9
        · replace h := iteT h9 h
          refine AtOps.run (iv 2 4) (iv 6 12) [(4, aT)] [(2, true), (3, true)] [1, 10, 12, 69] [] (n := 81) (sl := [(1, .str x1), (10, dI v7.2.2), (12, dI v8.2), (69, .bool (v2.1 == 0))]) (bl := []) (q := [(v9 == true) = true ∧ True, (v9 == true) = true ∧ True, True ∧ (v9 = true)]) (by kernel_rfl) (by kernel_rfl) ⟨⟨(gB h9 rfl), trivial⟩, ⟨(gB h9 rfl), trivial⟩, ⟨trivial, h9⟩, trivial⟩ ?_
          rcases Bool.eq_false_or_eq_true (v2.1 == 0) with h10 | h10
          · replace h := iteT h10 h
            refine AtOps.run (iv 6 3) (iv 9 9) [] [(6, true), (7, true), (8, true)] [1, 12, 69, 72] [] (n := 81) (sl := [(1, .str x1), (12, dI v8.2), (69, .bool (v2.1 == 0)), (72, .bool (v7.2.2 != 0))]) (bl := []) (q := [((v2.1 == 0) == true) = true ∧ True, ((v2.1 == 0) == true) = true ∧ True, ((v2.1 == 0) == true) = true ∧ True]) (by kernel_rfl) (by kernel_rfl) ⟨⟨(gB h10 rfl), trivial⟩, ⟨(gB h10 rfl), trivial⟩, ⟨(gB h10 rfl), trivial⟩, trivial⟩ ?_
            rcases Bool.eq_false_or_eq_true (v7.2.2 != 0) with h11 | h11
            · replace h := iteT h11 h
              refine AtOps.run (iv 9 9) (iv 18 0) [(15, aT), (16, aT)] [(9, false), (10, false), (11, false), (12, false), (13, false), (14, false), (15, true)] [4] [] (n := 81) (sl := [(4, .bool true)]) (bl := []) (q := [((v7.2.2 != 0) == false) = false, ((v7.2.2 != 0) == false) = false, ((v7.2.2 != 0) == false) = false, ((v7.2.2 != 0) == false) = false, ((v7.2.2 != 0) == false) = false, ((v7.2.2 != 0) == false) = false, ((v2.1 == 0) == true) = true ∧ ((v7.2.2 != 0) = true), True ∧ ((v2.1 == 0) = true)]) (by kernel_rfl) (by kernel_rfl) ⟨gB h11 rfl, gB h11 rfl, gB h11 rfl, gB h11 rfl, gB h11 rfl, gB h11 rfl, ⟨(gB h10 rfl), h11⟩, ⟨trivial, h10⟩, trivial⟩ ?_
              refine AtOps.done ?_
              refine At.advN [] [] 400 (ev := .ret) (σ' := mkS 81 [(4, .bool true)] []) (q := []) (by kernel_rfl) trivial ?_
              refine EvOk.ret ?_
              obtain rfl := someE h
              exact Den.Ends.mk (.inl rfl) (d := .bool true) (p := (True ∧ True) ∧ (tN 1)) (by kernel_rfl) ⟨⟨trivial, trivial⟩, tNi 1⟩ (by kernel_rfl)
            · replace h := iteF h11 h
              refine AtOps.run (iv 9 9) (iv 18 0) [(15, aF), (16, aT)] [(9, true), (10, true), (11, true), (12, true), (13, true), (14, true), (15, true)] [4] [] (n := 81) (sl := [(4, .bool ((v8.2 == 0) == (decide ((x1.length : Int) ≤ 1024))))]) (bl := []) (q := [((v7.2.2 != 0) == false) = true ∧ True, ((v7.2.2 != 0) == false) = true ∧ True, ((v7.2.2 != 0) == false) = true ∧ True, ((v7.2.2 != 0) == false) = true ∧ True, ((v7.2.2 != 0) == false) = true ∧ True, ((v7.2.2 != 0) == false) = true ∧ True, ((v2.1 == 0) == true) = true ∧ ((v7.2.2 != 0) = false), True ∧ ((v2.1 == 0) = true)]) (by kernel_rfl) (by kernel_rfl) ⟨⟨(gB h11 rfl), trivial⟩, ⟨(gB h11 rfl), trivial⟩, ⟨(gB h11 rfl), trivial⟩, ⟨(gB h11 rfl), trivial⟩, ⟨(gB h11 rfl), trivial⟩, ⟨(gB h11 rfl), trivial⟩, ⟨(gB h10 rfl), h11⟩, ⟨trivial, h10⟩, trivial⟩ ?_
              refine AtOps.done ?_
              refine At.advN [] [] 400 (ev := .ret) (σ' := mkS 81 [(4, .bool ((v8.2 == 0) == (decide ((x1.length : Int) ≤ 1024))))] []) (q := []) (by kernel_rfl) trivial ?_
              refine EvOk.ret ?_
              obtain rfl := someE h
              exact Den.Ends.mk (.inl rfl) (d := .bool ((v8.2 == 0) == (decide ((x1.length : Int) ≤ 1024)))) (p := (True ∧ True) ∧ (tN 1)) (by kernel_rfl) ⟨⟨trivial, trivial⟩, tNi 1⟩ (by kernel_rfl)
          · replace h := iteF h10 h
            refine AtOps.run (iv 6 12) (iv 18 0) [(16, aF)] [(6, false), (7, false), (8, false), (15, false)] [4] [] (n := 81) (sl := [(4, .bool false)]) (bl := []) (q := [((v2.1 == 0) == true) = false, ((v2.1 == 0) == true) = false, ((v2.1 == 0) == true) = false, True, True, True, True, True, True, ((v2.1 == 0) == true) = false, True ∧ ((v2.1 == 0) = false)]) (by kernel_rfl) (by kernel_rfl) ⟨gB h10 rfl, gB h10 rfl, gB h10 rfl, trivial, trivial, trivial, trivial, trivial, trivial, gB h10 rfl, ⟨trivial, h10⟩, trivial⟩ ?_
            refine AtOps.done ?_
            refine At.advN [] [] 400 (ev := .ret) (σ' := mkS 81 [(4, .bool false)] []) (q := []) (by kernel_rfl) trivial ?_
            refine EvOk.ret ?_
            obtain rfl := someE h
            exact Den.Ends.mk (.inl rfl) (d := .bool false) (p := (True ∧ True) ∧ (tN 1)) (by kernel_rfl) ⟨⟨trivial, trivial⟩, tNi 1⟩ (by kernel_rfl)
        · replace h := iteF h9 h
          refine AtOps.run (iv 2 16) (iv 18 0) [(4, aF)] [(2, false), (3, false)] [4] [] (n := 81) (sl := [(4, .bool false)]) (bl := []) (q := [(v9 == true) = false, (v9 == true) = false, True ∧ (v9 = false), True, True, True, True, True, True, True, True, True, True]) (by kernel_rfl) (by kernel_rfl) ⟨gB h9 rfl, gB h9 rfl, ⟨trivial, h9⟩, trivial, trivial, trivial, trivial, trivial, trivial, trivial, trivial, trivial, trivial, trivial⟩ ?_
          refine AtOps.done ?_
          refine At.advN [] [] 400 (ev := .ret) (σ' := mkS 81 [(4, .bool false)] []) (q := []) (by kernel_rfl) trivial ?_
          refine EvOk.ret ?_
          obtain rfl := someE h
          exact Den.Ends.mk (.inl rfl) (d := .bool false) (p := (True ∧ True) ∧ (tN 1)) (by kernel_rfl) ⟨⟨trivial, trivial⟩, tNi 1⟩ (by kernel_rfl)
      · obtain rfl := someE h
        obtain ⟨rfl, hE⟩ := hJ
        exact At.retK hE
theorem w6 {x0 : List T_api_Const} {x1 : List UInt8} {r : Bool} (h : m_armaturelaw05_PoolValidReadable x0 x1 = some r) : CallSpec Try.prog 6 [.sl false (x0.map row_T_api_Const), .str x1] (.bool r) :=
  CallSpec.at2 b6 (n := 81) (l := [(0, .sl false (x0.map row_T_api_Const)), (1, .str x1)]) (by kernel_rfl) (by kernel_rfl) (by kernel_rfl) (by kernel_rfl) (by kernel_rfl) (Nat.le_of_ble_eq_true (by kernel_rfl)) (fun Γ => we6 x0 x1 r h Γ)
end Go.Proofs
