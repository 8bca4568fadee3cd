/-
  Models of functions of the program, part 1, and that the functions compute them. Printed by den2.py. No condition.
-/
import Derived.Test.YtogbjlbjljopcaaRows
import Derived.Test.YtogbjlbjljopcaaDenMod
import Derived.Test.YtogbjlbjljopcaaDenClaim
set_option linter.unusedVariables false
namespace Go.Proofs
open Go.Den
/-! ### armature octet.width -/
noncomputable def b20 : Code := Try.f20.body.getD .skip
noncomputable def c20x0 : Code := sub1 b20
noncomputable def c20x1 : Code := sub0 c20x0
noncomputable def c20x2 : Code := sub1 c20x1
noncomputable def c20x3 : Code := sub0 c20x2
noncomputable def c20x4 : Code := sub1 c20x3
noncomputable def c20x5 : Code := sub0 c20x4
noncomputable def c20x6 : Code := sub1 c20x4
noncomputable def c20x7 : Code := sub1 c20x0
noncomputable def c20x8 : Code := sub0 c20x3
noncomputable def c20x9 : Code := sub1 c20x8
noncomputable def c20x10 : Code := sub1 c20x9
noncomputable def c20x11 : Code := sub1 c20x10
noncomputable def c20x12 : Code := sub1 c20x11
noncomputable def c20x13 : Code := sub1 c20x12
noncomputable def c20x14 : Code := sub0 c20x13
noncomputable def c20x15 : Code := sub1 c20x13
noncomputable def c20x16 : Code := sub0 c20x11
noncomputable def c20x17 : Code := sub0 c20x9
def j20x1 (x0 : Int) : Option (Int) :=
  if (x0 == 8) = true then
    ((some (IntKind.wrap .i64 ((8 : Int) * x0))).bind fun v3 =>
    some v3) else
  (some 0)
def m_octet_width (x0 : Int) : Option (Int) :=
  if (x0 == 1) = true then
    ((some (IntKind.wrap .i64 ((8 : Int) * x0))).bind fun v0 =>
      some v0) else
  (if (x0 == 2) = true then
      ((some (IntKind.wrap .i64 ((8 : Int) * x0))).bind fun v1 =>
        some v1) else
    (if (x0 == 4) = true then
        ((some (IntKind.wrap .i64 ((8 : Int) * x0))).bind fun v2 =>
          some v2) else
      ((j20x1 x0) )))
theorem wj20x1 (x0 : Int) (r : Int) (h : (j20x1 x0)  = some r) (Γ : Ctx) : EvOk Try.prog Γ (Den.Ends Try.prog Try.f20 (.int .i64 r)) (mkS 11 [(0, .int .i64 x0), (4, .bool (x0 == 8))] []) (.cond (x0 == 8) c20x5 c20x6 [.blk 0, .seq c20x7]) := by
  refine EvOk.cond (fun h3 => ?_) (fun h3 => ?_)
  · replace h := iteT h3 h
    refine At.gc [0] [] (n := 11) (l := [(0, .int .i64 x0)]) (bl := []) (by kernel_rfl) ?_
    obtain ⟨v3, e3, h⟩ := bindE h
    refine At.adv [] [(6, { told := [(1, { ans := .val (.int .i64 v3) })], gs := [], keep := some ([2], []) })] 400 (ev := .ret) (σ' := mkS 11 [(2, .int .i64 v3)] []) (q := [True ∧ (IntKind.wrap .i64 ((8 : Int) * x0) = v3)]) (by kernel_rfl) ⟨⟨trivial, someE e3⟩, trivial⟩ ?_
    refine EvOk.ret ?_
    obtain rfl := someE h
    exact Den.Ends.mk (.inl rfl) (d := .int .i64 v3) (p := (True ∧ True) ∧ (True ∧ True)) (by kernel_rfl) ⟨⟨trivial, trivial⟩, ⟨trivial, trivial⟩⟩ (by kernel_rfl)
  · replace h := iteF h3 h
    refine At.gc [] [] (n := 11) (l := []) (bl := []) (by kernel_rfl) ?_
    refine At.adv [] [(7, { told := [], gs := [], keep := some ([2], []) })] 400 (ev := .ret) (σ' := mkS 11 [(2, .int .i64 0)] []) (q := []) (by kernel_rfl) trivial ?_
    refine EvOk.ret ?_
    obtain rfl := someE h
    exact Den.Ends.mk (.inl rfl) (d := .int .i64 0) (p := (True ∧ True) ∧ (True ∧ True)) (by kernel_rfl) ⟨⟨trivial, trivial⟩, ⟨trivial, trivial⟩⟩ (by kernel_rfl)
theorem we20 (x0 : Int) (r : Int) (h : m_octet_width x0 = some r) (Γ : Ctx) : At Try.prog Γ b20 [] (Den.Ends Try.prog Try.f20 (.int .i64 r)) (mkS 11 [(0, .int .i64 x0)] []) := by
  refine At.adv [] [(0, { told := [], gs := [], keep := some ([0], []) }), (1, { told := [], gs := [], keep := some ([0, 3], []) }), (2, { told := [], gs := [], keep := some ([0, 3, 4], []) })] 400 (ev := .cond (x0 == 1) c20x17 c20x10 [.seq c20x4, .blk 0, .seq c20x7]) (σ' := mkS 11 [(0, .int .i64 x0), (3, .int .i64 x0), (4, .bool (x0 == 1))] []) (q := []) (by kernel_rfl) trivial ?_
  refine EvOk.cond (fun h0 => ?_) (fun h0 => ?_)
  · replace h := iteT h0 h
    refine At.gc [0, 4] [] (n := 11) (l := [(0, .int .i64 x0), (4, .bool (x0 == 1))]) (bl := []) (by kernel_rfl) ?_
    refine At.adv [] [] 400 (ev := .cond (x0 == 1) c20x5 c20x6 [.blk 0, .seq c20x7]) (σ' := mkS 11 [(0, .int .i64 x0), (4, .bool (x0 == 1))] []) (q := []) (by kernel_rfl) trivial ?_
    refine EvOk.cond (fun _ => ?_) (fun hb => Bool.noConfusion (h0.symm.trans hb))
    refine At.gc [0] [] (n := 11) (l := [(0, .int .i64 x0)]) (bl := []) (by kernel_rfl) ?_
    obtain ⟨v0, e0, h⟩ := bindE h
    refine At.adv [] [(6, { told := [(1, { ans := .val (.int .i64 v0) })], gs := [], keep := some ([2], []) })] 400 (ev := .ret) (σ' := mkS 11 [(2, .int .i64 v0)] []) (q := [True ∧ (IntKind.wrap .i64 ((8 : Int) * x0) = v0)]) (by kernel_rfl) ⟨⟨trivial, someE e0⟩, trivial⟩ ?_
    refine EvOk.ret ?_
    obtain rfl := someE h
    exact Den.Ends.mk (.inl rfl) (d := .int .i64 v0) (p := (True ∧ True) ∧ (True ∧ True)) (by kernel_rfl) ⟨⟨trivial, trivial⟩, ⟨trivial, trivial⟩⟩ (by kernel_rfl)
  · replace h := iteF h0 h
    refine At.gc [0, 3] [] (n := 11) (l := [(0, .int .i64 x0), (3, .int .i64 x0)]) (bl := []) (by kernel_rfl) ?_
    refine At.adv [] [(3, { told := [], gs := [], keep := some ([0, 3, 4], []) })] 400 (ev := .cond (x0 == 2) c20x16 c20x12 [.seq c20x4, .blk 0, .seq c20x7]) (σ' := mkS 11 [(0, .int .i64 x0), (3, .int .i64 x0), (4, .bool (x0 == 2))] []) (q := []) (by kernel_rfl) trivial ?_
    refine EvOk.cond (fun h1 => ?_) (fun h1 => ?_)
    · replace h := iteT h1 h
      refine At.gc [0, 4] [] (n := 11) (l := [(0, .int .i64 x0), (4, .bool (x0 == 2))]) (bl := []) (by kernel_rfl) ?_
      refine At.adv [] [] 400 (ev := .cond (x0 == 2) c20x5 c20x6 [.blk 0, .seq c20x7]) (σ' := mkS 11 [(0, .int .i64 x0), (4, .bool (x0 == 2))] []) (q := []) (by kernel_rfl) trivial ?_
      refine EvOk.cond (fun _ => ?_) (fun hb => Bool.noConfusion (h1.symm.trans hb))
      refine At.gc [0] [] (n := 11) (l := [(0, .int .i64 x0)]) (bl := []) (by kernel_rfl) ?_
      obtain ⟨v1, e1, h⟩ := bindE h
      refine At.adv [] [(6, { told := [(1, { ans := .val (.int .i64 v1) })], gs := [], keep := some ([2], []) })] 400 (ev := .ret) (σ' := mkS 11 [(2, .int .i64 v1)] []) (q := [True ∧ (IntKind.wrap .i64 ((8 : Int) * x0) = v1)]) (by kernel_rfl) ⟨⟨trivial, someE e1⟩, trivial⟩ ?_
      refine EvOk.ret ?_
      obtain rfl := someE h
      exact Den.Ends.mk (.inl rfl) (d := .int .i64 v1) (p := (True ∧ True) ∧ (True ∧ True)) (by kernel_rfl) ⟨⟨trivial, trivial⟩, ⟨trivial, trivial⟩⟩ (by kernel_rfl)
    · replace h := iteF h1 h
      refine At.gc [0, 3] [] (n := 11) (l := [(0, .int .i64 x0), (3, .int .i64 x0)]) (bl := []) (by kernel_rfl) ?_
      refine At.adv [] [(4, { told := [], gs := [], keep := some ([0, 3, 4], []) })] 400 (ev := .cond (x0 == 4) c20x14 c20x15 [.seq c20x4, .blk 0, .seq c20x7]) (σ' := mkS 11 [(0, .int .i64 x0), (3, .int .i64 x0), (4, .bool (x0 == 4))] []) (q := []) (by kernel_rfl) trivial ?_
      refine EvOk.cond (fun h2 => ?_) (fun h2 => ?_)
      · replace h := iteT h2 h
        refine At.gc [0, 4] [] (n := 11) (l := [(0, .int .i64 x0), (4, .bool (x0 == 4))]) (bl := []) (by kernel_rfl) ?_
        refine At.adv [] [] 400 (ev := .cond (x0 == 4) c20x5 c20x6 [.blk 0, .seq c20x7]) (σ' := mkS 11 [(0, .int .i64 x0), (4, .bool (x0 == 4))] []) (q := []) (by kernel_rfl) trivial ?_
        refine EvOk.cond (fun _ => ?_) (fun hb => Bool.noConfusion (h2.symm.trans hb))
        refine At.gc [0] [] (n := 11) (l := [(0, .int .i64 x0)]) (bl := []) (by kernel_rfl) ?_
        obtain ⟨v2, e2, h⟩ := bindE h
        refine At.adv [] [(6, { told := [(1, { ans := .val (.int .i64 v2) })], gs := [], keep := some ([2], []) })] 400 (ev := .ret) (σ' := mkS 11 [(2, .int .i64 v2)] []) (q := [True ∧ (IntKind.wrap .i64 ((8 : Int) * x0) = v2)]) (by kernel_rfl) ⟨⟨trivial, someE e2⟩, trivial⟩ ?_
        refine EvOk.ret ?_
        obtain rfl := someE h
        exact Den.Ends.mk (.inl rfl) (d := .int .i64 v2) (p := (True ∧ True) ∧ (True ∧ True)) (by kernel_rfl) ⟨⟨trivial, trivial⟩, ⟨trivial, trivial⟩⟩ (by kernel_rfl)
      · replace h := iteF h2 h
        refine At.gc [0, 3] [] (n := 11) (l := [(0, .int .i64 x0), (3, .int .i64 x0)]) (bl := []) (by kernel_rfl) ?_
        refine At.adv [] [(5, { told := [], gs := [], keep := some ([0, 4], []) })] 400 (ev := .cond (x0 == 8) c20x5 c20x6 [.blk 0, .seq c20x7]) (σ' := mkS 11 [(0, .int .i64 x0), (4, .bool (x0 == 8))] []) (q := []) (by kernel_rfl) trivial ?_
        exact (wj20x1 x0)  r h Γ
theorem w20 {x0 : Int} {r : Int} (h : m_octet_width x0 = some r) : CallSpec Try.prog 20 [.int .i64 x0] (.int .i64 r) :=
  CallSpec.at2 b20 (n := 11) (l := [(0, .int .i64 x0)]) (by kernel_rfl) (by kernel_rfl) (by kernel_rfl) (by kernel_rfl) (by kernel_rfl) (Nat.le_of_ble_eq_true (by kernel_rfl)) (fun Γ => we20 x0 r h Γ)

/-! ### armature octet.Put -/
noncomputable def b9 : Code := Try.f9.body.getD .skip
noncomputable def c9x0 : Code := sub1 b9
noncomputable def c9x1 : Code := sub1 c9x0
noncomputable def c9x2 : Code := sub1 c9x1
noncomputable def c9x3 : Code := sub0 c9x2
noncomputable def c9x4 : Code := sub1 c9x3
noncomputable def c9x5 : Code := sub0 c9x4
noncomputable def c9x6 : Code := sub1 c9x4
noncomputable def c9x7 : Code := sub1 c9x2
noncomputable def c9x8 : Code := sub0 c9x7
noncomputable def c9x9 : Code := sub1 c9x7
noncomputable def c9x10 : Code := sub0 c9x1
noncomputable def c9x11 : Code := sub1 c9x10
noncomputable def c9x12 : Code := sub0 c9x11
noncomputable def c9x13 : Code := sub1 c9x11
noncomputable def c9x14 : Code := sub0 c9x9
noncomputable def c9x15 : Code := sub1 c9x14
noncomputable def c9x16 : Code := sub0 c9x15
noncomputable def c9x17 : Code := sub0 c9x16
noncomputable def c9x18 : Code := sub1 c9x17
noncomputable def c9x19 : Code := sub1 c9x18
noncomputable def c9x20 : Code := sub0 c9x17
noncomputable def c9x21 : Code := sub1 c9x20
noncomputable def c9x22 : Code := sub0 c9x21
noncomputable def c9x23 : Code := sub1 c9x21
noncomputable def c9x24 : Code := sub1 c9x9
def l9x1 (t0 : Int × Int × (List Int)) : Option (Ctl (Int × Int × (List Int)) (((List Int)))) :=
  if (decide (t0.1 ≥ 0)) = true then
    ((some (IntKind.wrap .u8 t0.2.1)).bind fun v13 =>
    (idxK t0.1 t0.2.2.length).bind fun v14 =>
    (t0.2.2[v14]?).bind fun v15 =>
    (some (IntKind.wrap .i64 (t0.1 - (1 : Int)))).bind fun v16 =>
    (shrK .u64 t0.2.1 (8 : Int)).bind fun v17 =>
    some (.next (v16, v17, (t0.2.2.set v14 v13)))) else
  (some (.done (t0.2.2)))
def j9x1 (x0 : Int) (x1 : Int) : Option ((List UInt8) × Int) :=
  (makeK 1 x1 x1).bind fun v5 =>
  (some (IntKind.wrap .i64 (x1 - (1 : Int)))).bind fun v6 =>
  (some (IntKind.wrap .u64 x0)).bind fun v7 =>
  (loopM l9x1 rounds (v6, v7, (List.replicate x1.toNat 0))).bind fun q0 =>
  some ((bytesOf q0), 0)
def m_octet_Put (x0 : Int) (x1 : Int) : Option ((List UInt8) × Int) :=
  (m_octet_width x1).bind fun v0 =>
  if (v0 == 0) = true then
    (some ([], 1)) else
  (if (decide (v0 < 64)) = true then ((some (IntKind.wrap .i64 (v0 - (1 : Int)))).bind fun v1 =>
    (shlK .i64 (1 : Int) v1).bind fun v2 =>
    (some (IntKind.wrap .i64 (0 - v2))).bind fun v3 =>
    if (decide (x0 < v3)) = true then (some ([], 8)) else
    ((shlK .i64 (1 : Int) v0).bind fun v4 =>
    if (decide (x0 ≥ v4)) = true then
      (some ([], 8)) else
    ((j9x1 x0 x1) ))) else
    ((j9x1 x0 x1) ))
def st9x1  : (Int × Int × (List Int)) → S :=
  fun t0 => mkS 49 [(7, .lsl 7 0 ((t0.2.2.map rU8).length)), (8, .int .i64 t0.1), (9, .int .u64 t0.2.1)] [(7, { sz := 1, rows := (t0.2.2.map rU8), frz := 0, pure := true })]
noncomputable def J9x1  : (((List Int))) → Exit → S → Prop :=
  JExit 0 (fun q0 : (List Int) => mkS 49 [(7, .lsl 7 0 ((q0.map rU8).length))] [(7, { sz := 1, rows := (q0.map rU8), frz := 0, pure := true })])
theorem wl9x1 (t0 : Int × Int × (List Int)) (r : Ctl (Int × Int × (List Int)) (((List Int)))) (h : l9x1 t0 = some r) (Γ : Ctx) : At Try.prog Γ c9x17 [] (Round st9x1 J9x1 r) (st9x1 t0) := by
  refine At.adv [] [(8, { told := [], gs := [], keep := some ([7, 8, 9, 37], [(7, 7)]) })] 400 (ev := .cond (decide (t0.1 ≥ 0)) c9x22 c9x23 [.seq c9x18]) (σ' := mkS 49 [(7, .lsl 7 0 ((t0.2.2.map rU8).length)), (8, .int .i64 t0.1), (9, .int .u64 t0.2.1), (37, .bool (decide (t0.1 ≥ 0)))] [(7, { sz := 1, rows := (t0.2.2.map rU8), frz := 0, pure := true })]) (q := []) (by kernel_rfl) trivial ?_
  refine EvOk.cond (fun h5 => ?_) (fun h5 => ?_)
  · replace h := iteT h5 h
    refine At.gc [7, 8, 9] [(7, 7)] (n := 49) (l := [(7, .lsl 7 0 ((t0.2.2.map rU8).length)), (8, .int .i64 t0.1), (9, .int .u64 t0.2.1)]) (bl := [(7, { sz := 1, rows := (t0.2.2.map rU8), frz := 0, pure := true })]) (by kernel_rfl) ?_
    obtain ⟨v13, e13, h⟩ := bindE h
    obtain ⟨v14, e14, h⟩ := bindE h
    obtain ⟨v15, e15, h⟩ := bindE h
    refine At.adv [9] [(10, { told := [(3, { ans := .val (.int .u8 v13) }), (4, { ans := .val (.lptr 7 v14 0) }), (5, { row := some (rU8 v15), rows := some ((t0.2.2.set v14 v13).map rU8) })], gs := [], keep := some ([7, 8, 9], [(7, 7)]) })] 400 (ev := .stop c9x19 []) (σ' := mkS 49 [(7, .lsl 7 0 ((t0.2.2.map rU8).length)), (8, .int .i64 t0.1), (9, .int .u64 t0.2.1)] [(7, { sz := 1, rows := ((t0.2.2.set v14 v13).map rU8), frz := 0, pure := true })]) (q := [True ∧ (IntKind.wrap .u8 t0.2.1 = v13), True ∧ (0 ≤ t0.1 ∧ t0.1 < (((t0.2.2.map rU8).length : Nat) : Int) ∧ ((0 : Nat) : Int) + t0.1 = (v14 : Nat)), True ∧ (0 ≤ v14 ∧ (t0.2.2.map rU8)[v14]? = some (rU8 v15) ∧ 0 + ([.int .u8 v13] : List D).length ≤ (rU8 v15).length ∧ (t0.2.2.map rU8).set v14 (rU8 v13) = (t0.2.2.set v14 v13).map rU8)]) (by kernel_rfl) ⟨⟨trivial, someE e13⟩, ⟨trivial, idxK_spec e14 (lenMN _ _)⟩, ⟨trivial, ⟨Nat.zero_le _, getM rU8 e15, Nat.le_of_ble_eq_true rfl, setM rU8 _ _ _⟩⟩, trivial⟩ ?_
    refine EvOk.eq (congrArg (fun nn : Nat => mkS 49 [(7, .lsl 7 0 nn), (8, .int .i64 t0.1), (9, .int .u64 t0.2.1)] [(7, { sz := 1, rows := ((t0.2.2.set v14 v13).map rU8), frz := 0, pure := true })]) (by simp only [List.length_map, List.length_set] : (t0.2.2.map rU8).length = ((t0.2.2.set v14 v13).map rU8).length)) ?_
    refine EvOk.stop ?_
    obtain ⟨v16, e16, h⟩ := bindE h
    obtain ⟨v17, e17, h⟩ := bindE h
    refine At.adv [] [(9, { told := [(1, { ans := .val (.int .i64 v16) }), (3, { ans := .val (.int .u64 v17) })], gs := [], keep := some ([7, 8, 9], [(7, 7)]) })] 400 (ev := .normal) (σ' := mkS 49 [(7, .lsl 7 0 (((t0.2.2.set v14 v13).map rU8).length)), (8, .int .i64 v16), (9, .int .u64 v17)] [(7, { sz := 1, rows := ((t0.2.2.set v14 v13).map rU8), frz := 0, pure := true })]) (q := [True ∧ (IntKind.wrap .i64 (t0.1 - (1 : Int)) = v16), True ∧ (0 ≤ (8 : Int) ∧ Int.fdiv t0.2.1 (2 ^ (min ((8 : Int)).toNat (IntKind.bits .u64))) = v17)]) (by kernel_rfl) ⟨⟨trivial, someE e16⟩, ⟨trivial, shrK_spec e17⟩, trivial⟩ ?_
    refine EvOk.normal ?_
    obtain rfl := someE h
    exact Round.next (by kernel_rfl)
  · replace h := iteF h5 h
    refine At.gc [7] [(7, 7)] (n := 49) (l := [(7, .lsl 7 0 ((t0.2.2.map rU8).length))]) (bl := [(7, { sz := 1, rows := (t0.2.2.map rU8), frz := 0, pure := true })]) (by kernel_rfl) ?_
    refine At.adv [] [] 400 (ev := .exit 0) (σ' := mkS 49 [(7, .lsl 7 0 ((t0.2.2.map rU8).length))] [(7, { sz := 1, rows := (t0.2.2.map rU8), frz := 0, pure := true })]) (q := []) (by kernel_rfl) trivial ?_
    refine EvOk.exit ?_
    obtain rfl := someE h
    exact Round.done (neExit _) ⟨rfl, by kernel_rfl⟩
theorem wj9x1 (x0 : Int) (x1 : Int) (r : (List UInt8) × Int) (h : (j9x1 x0 x1)  = some r) (Γ : Ctx) : EvOk Try.prog Γ (Den.Ends Try.prog Try.f9 (.tup [.str r.1, .int .i64 r.2])) (mkS 49 [(0, .int .i64 x0), (1, .int .i64 x1)] []) (.stop c9x8 [.seq c9x9]) := by
  refine EvOk.stop ?_
  obtain ⟨v5, e5, h⟩ := bindE h
  obtain ⟨v6, e6, h⟩ := bindE h
  obtain ⟨v7, e7, h⟩ := bindE h
  refine At.adv [] [(6, { told := [(1, { rows := some ((List.replicate x1.toNat 0).map rU8) })], gs := [], keep := some ([0, 1, 7], [(31, 31)]) }), (7, { told := [(1, { ans := .val (.int .i64 v6) }), (3, { ans := .val (.int .u64 v7) })], gs := [], keep := some ([7, 8, 9], [(31, 7)]) })] 400 (ev := .loop c9x17 [.blk 0, .seq c9x24]) (σ' := mkS 49 [(7, .lsl 7 0 (((List.replicate x1.toNat 0).map rU8).length)), (8, .int .i64 v6), (9, .int .u64 v7)] [(7, { sz := 1, rows := ((List.replicate x1.toNat 0).map rU8), frz := 0, pure := true })]) (q := [True ∧ (0 ≤ x1 ∧ x1 ≤ x1 ∧ ((1 : Nat) : Int) * x1 ≤ 281474976710656 ∧ x1 ≤ 9223372036854775807 ∧ List.replicate (x1 : Int).toNat ([.int .u8 0] : List D) = (List.replicate x1.toNat 0).map rU8), True ∧ (IntKind.wrap .i64 (x1 - (1 : Int)) = v6), True ∧ (IntKind.wrap .u64 x0 = v7)]) (by kernel_rfl) ⟨⟨trivial, ⟨(makeK_spec e5).1, (makeK_spec e5).2.1, (makeK_spec e5).2.2.1, (makeK_spec e5).2.2.2, repM rU8 _ _⟩⟩, ⟨trivial, someE e6⟩, ⟨trivial, someE e7⟩, trivial⟩ ?_
  refine EvOk.loop ?_
  obtain ⟨q0, e18, h⟩ := bindE h
  refine At.loop l9x1 st9x1 J9x1 (v6, v7, (List.replicate x1.toNat 0)) e18 (by kernel_rfl) (fun t x hx => wl9x1 t x hx Γ) ?_
  intro e σ' hJ
  obtain ⟨rfl, rfl⟩ := hJ
  refine At.exitK (K' := [.seq c9x24]) (by kernel_rfl) ?_
  refine At.advN [] [(11, { told := [(1, { ans := .val (.str (bytesOf q0)) })], gs := [], keep := some ([4, 5], []) })] 400 (ev := .ret) (σ' := mkS 49 [(4, .str (bytesOf q0)), (5, .int .i64 0)] []) (q := [True ∧ ((0 + (q0.map rU8).length ≤ (q0.map rU8).length) ∧ rowBytes (((q0.map rU8).drop 0).take (q0.map rU8).length) = some (bytesOf q0))]) (by kernel_rfl) ⟨⟨trivial, ⟨roomAll _, by rw [takeAll]; exact rowBytes_of _⟩⟩, trivial⟩ ?_
  refine EvOk.ret ?_
  obtain rfl := someE h
  exact Den.Ends.mk (.inl rfl) (d := .tup [.str (bytesOf q0), .int .i64 0]) (p := (True ∧ (True ∧ True)) ∧ (True ∧ (True ∧ True))) (by kernel_rfl) ⟨⟨trivial, ⟨trivial, trivial⟩⟩, ⟨trivial, ⟨trivial, trivial⟩⟩⟩ (by kernel_rfl)
theorem we9 (x0 : Int) (x1 : Int) (r : (List UInt8) × Int) (h : m_octet_Put x0 x1 = some r) (Γ : Ctx) : At Try.prog Γ b9 [] (Den.Ends Try.prog Try.f9 (.tup [.str r.1, .int .i64 r.2])) (mkS 49 [(0, .int .i64 x0), (1, .int .i64 x1)] []) := by
  obtain ⟨v0, e0, h⟩ := bindE h
  refine At.adv [] [(0, { told := [], gs := [], keep := some ([0, 1], []) }), (1, { told := [(1, { ans := .val (.int .i64 v0), args := [.int .i64 x1] })], gs := [], keep := some ([0, 1, 6], []) }), (2, { told := [], gs := [], keep := some ([0, 1, 6, 13], []) })] 400 (ev := .cond (v0 == 0) c9x12 c9x13 [.seq c9x2]) (σ' := mkS 49 [(0, .int .i64 x0), (1, .int .i64 x1), (6, .int .i64 v0), (13, .bool (v0 == 0))] []) (q := [True ∧ ((True ∧ True) ∧ ([.int .i64 x1] : List D) = [.int .i64 x1] ∧ CallSpec Try.prog 20 [.int .i64 x1] (.int .i64 v0))]) (by kernel_rfl) ⟨⟨trivial, ⟨⟨trivial, trivial⟩, rfl, w20 e0⟩⟩, trivial⟩ ?_
  refine EvOk.cond (fun h0 => ?_) (fun h0 => ?_)
  · replace h := iteT h0 h
    refine At.gc [] [] (n := 49) (l := []) (bl := []) (by kernel_rfl) ?_
    refine At.adv [] [(3, { told := [], gs := [], keep := some ([4, 5], []) })] 400 (ev := .ret) (σ' := mkS 49 [(4, .str []), (5, .int .i64 1)] []) (q := []) (by kernel_rfl) trivial ?_
    refine EvOk.ret ?_
    obtain rfl := someE h
    exact Den.Ends.mk (.inl rfl) (d := .tup [.str [], .int .i64 1]) (p := (True ∧ (True ∧ True)) ∧ (True ∧ (True ∧ True))) (by kernel_rfl) ⟨⟨trivial, ⟨trivial, trivial⟩⟩, ⟨trivial, ⟨trivial, trivial⟩⟩⟩ (by kernel_rfl)
  · replace h := iteF h0 h
    refine At.gc [0, 1, 6] [] (n := 49) (l := [(0, .int .i64 x0), (1, .int .i64 x1), (6, .int .i64 v0)]) (bl := []) (by kernel_rfl) ?_
    rcases Bool.eq_false_or_eq_true (decide (v0 < 64)) with h1 | h1
    · replace h := iteT h1 h
      obtain ⟨v1, e1, h⟩ := bindE h
      obtain ⟨v2, e2, h⟩ := bindE h
      obtain ⟨v3, e3, h⟩ := bindE h
      rcases Bool.eq_false_or_eq_true (decide (x0 < v3)) with h2 | h2
      · replace h := iteT h2 h
        refine At.adv [] [(4, { told := [(5, { ans := .val (.int .i64 v1) }), (6, { ans := .val (.int .i64 v2) }), (7, { ans := .val (.int .i64 v3) }), (14, { ans := .yes }), (15, { ans := .yes })], gs := [(3, true), (4, true), (5, true), (6, true), (7, true), (8, true), (9, true), (10, false), (11, false), (12, false), (13, false), (14, true)], keep := some ([0, 1, 29], []) })] 400 (ev := .cond true c9x5 c9x6 [.seq c9x7]) (σ' := mkS 49 [(0, .int .i64 x0), (1, .int .i64 x1), (29, .bool true)] []) (q := [((decide (v0 < 64)) == true) = true ∧ True, ((decide (v0 < 64)) == true) = true ∧ True, ((decide (v0 < 64)) == true) = true ∧ (IntKind.wrap .i64 (v0 - (1 : Int)) = v1), ((decide (v0 < 64)) == true) = true ∧ (0 ≤ v1 ∧ IntKind.wrap .i64 ((1 : Int) * 2 ^ (min (v1).toNat (IntKind.bits .i64))) = v2), ((decide (v0 < 64)) == true) = true ∧ (IntKind.wrap .i64 (0 - v2) = v3), ((decide (v0 < 64)) == true) = true ∧ True, ((decide (v0 < 64)) == true) = true ∧ True, ((decide (x0 < v3)) == false) = false, ((decide (x0 < v3)) == false) = false, ((decide (x0 < v3)) == false) = false, ((decide (x0 < v3)) == false) = false, ((decide (v0 < 64)) == true) = true ∧ ((decide (x0 < v3)) = true), True ∧ ((decide (v0 < 64)) = true)]) (by kernel_rfl) ⟨⟨(gB h1 rfl), trivial⟩, ⟨(gB h1 rfl), trivial⟩, ⟨(gB h1 rfl), someE e1⟩, ⟨(gB h1 rfl), shlK_spec e2⟩, ⟨(gB h1 rfl), someE e3⟩, ⟨(gB h1 rfl), trivial⟩, ⟨(gB h1 rfl), trivial⟩, gB h2 rfl, gB h2 rfl, gB h2 rfl, gB h2 rfl, ⟨(gB h1 rfl), h2⟩, ⟨trivial, h1⟩, trivial⟩ ?_
        refine EvOk.cond (fun _ => ?_) (fun hb => Bool.noConfusion hb)
        refine At.gc [] [] (n := 49) (l := []) (bl := []) (by kernel_rfl) ?_
        refine At.adv [] [(5, { told := [], gs := [], keep := some ([4, 5], []) })] 400 (ev := .ret) (σ' := mkS 49 [(4, .str []), (5, .int .i64 8)] []) (q := []) (by kernel_rfl) trivial ?_
        refine EvOk.ret ?_
        obtain rfl := someE h
        exact Den.Ends.mk (.inl rfl) (d := .tup [.str [], .int .i64 8]) (p := (True ∧ (True ∧ True)) ∧ (True ∧ (True ∧ True))) (by kernel_rfl) ⟨⟨trivial, ⟨trivial, trivial⟩⟩, ⟨trivial, ⟨trivial, trivial⟩⟩⟩ (by kernel_rfl)
      · replace h := iteF h2 h
        obtain ⟨v4, e4, h⟩ := bindE h
        refine At.adv [] [(4, { told := [(5, { ans := .val (.int .i64 v1) }), (6, { ans := .val (.int .i64 v2) }), (7, { ans := .val (.int .i64 v3) }), (12, { ans := .val (.int .i64 v4) }), (14, { ans := .no }), (15, { ans := .yes })], gs := [(3, true), (4, true), (5, true), (6, true), (7, true), (8, true), (9, true), (10, true), (11, true), (12, true), (13, true), (14, true)], keep := some ([0, 1, 29], []) })] 400 (ev := .cond (decide (x0 ≥ v4)) c9x5 c9x6 [.seq c9x7]) (σ' := mkS 49 [(0, .int .i64 x0), (1, .int .i64 x1), (29, .bool (decide (x0 ≥ v4)))] []) (q := [((decide (v0 < 64)) == true) = true ∧ True, ((decide (v0 < 64)) == true) = true ∧ True, ((decide (v0 < 64)) == true) = true ∧ (IntKind.wrap .i64 (v0 - (1 : Int)) = v1), ((decide (v0 < 64)) == true) = true ∧ (0 ≤ v1 ∧ IntKind.wrap .i64 ((1 : Int) * 2 ^ (min (v1).toNat (IntKind.bits .i64))) = v2), ((decide (v0 < 64)) == true) = true ∧ (IntKind.wrap .i64 (0 - v2) = v3), ((decide (v0 < 64)) == true) = true ∧ True, ((decide (v0 < 64)) == true) = true ∧ True, ((decide (x0 < v3)) == false) = true ∧ True, ((decide (x0 < v3)) == false) = true ∧ True, ((decide (x0 < v3)) == false) = true ∧ (0 ≤ v0 ∧ IntKind.wrap .i64 ((1 : Int) * 2 ^ (min (v0).toNat (IntKind.bits .i64))) = v4), ((decide (x0 < v3)) == false) = true ∧ True, ((decide (v0 < 64)) == true) = true ∧ ((decide (x0 < v3)) = false), True ∧ ((decide (v0 < 64)) = true)]) (by kernel_rfl) ⟨⟨(gB h1 rfl), trivial⟩, ⟨(gB h1 rfl), trivial⟩, ⟨(gB h1 rfl), someE e1⟩, ⟨(gB h1 rfl), shlK_spec e2⟩, ⟨(gB h1 rfl), someE e3⟩, ⟨(gB h1 rfl), trivial⟩, ⟨(gB h1 rfl), trivial⟩, ⟨(gB h2 rfl), trivial⟩, ⟨(gB h2 rfl), trivial⟩, ⟨(gB h2 rfl), shlK_spec e4⟩, ⟨(gB h2 rfl), trivial⟩, ⟨(gB h1 rfl), h2⟩, ⟨trivial, h1⟩, trivial⟩ ?_
        refine EvOk.cond (fun h3 => ?_) (fun h3 => ?_)
        · replace h := iteT h3 h
          refine At.gc [] [] (n := 49) (l := []) (bl := []) (by kernel_rfl) ?_
          refine At.adv [] [(5, { told := [], gs := [], keep := some ([4, 5], []) })] 400 (ev := .ret) (σ' := mkS 49 [(4, .str []), (5, .int .i64 8)] []) (q := []) (by kernel_rfl) trivial ?_
          refine EvOk.ret ?_
          obtain rfl := someE h
          exact Den.Ends.mk (.inl rfl) (d := .tup [.str [], .int .i64 8]) (p := (True ∧ (True ∧ True)) ∧ (True ∧ (True ∧ True))) (by kernel_rfl) ⟨⟨trivial, ⟨trivial, trivial⟩⟩, ⟨trivial, ⟨trivial, trivial⟩⟩⟩ (by kernel_rfl)
        · replace h := iteF h3 h
          refine At.gc [0, 1] [] (n := 49) (l := [(0, .int .i64 x0), (1, .int .i64 x1)]) (bl := []) (by kernel_rfl) ?_
          refine At.adv [6] [] 400 (ev := .stop c9x8 [.seq c9x9]) (σ' := mkS 49 [(0, .int .i64 x0), (1, .int .i64 x1)] []) (q := []) (by kernel_rfl) trivial ?_
          exact (wj9x1 x0 x1)  r h Γ
    · replace h := iteF h1 h
      refine At.adv [] [(4, { told := [(15, { ans := .no })], gs := [(3, false), (4, false), (5, false), (6, false), (7, false), (8, false), (9, false), (14, false)], keep := some ([0, 1, 29], []) })] 400 (ev := .cond false c9x5 c9x6 [.seq c9x7]) (σ' := mkS 49 [(0, .int .i64 x0), (1, .int .i64 x1), (29, .bool false)] []) (q := [((decide (v0 < 64)) == true) = false, ((decide (v0 < 64)) == true) = false, ((decide (v0 < 64)) == true) = false, ((decide (v0 < 64)) == true) = false, ((decide (v0 < 64)) == true) = false, ((decide (v0 < 64)) == true) = false, ((decide (v0 < 64)) == true) = false, True, True, True, True, ((decide (v0 < 64)) == true) = false, True ∧ ((decide (v0 < 64)) = false)]) (by kernel_rfl) ⟨gB h1 rfl, gB h1 rfl, gB h1 rfl, gB h1 rfl, gB h1 rfl, gB h1 rfl, gB h1 rfl, trivial, trivial, trivial, trivial, gB h1 rfl, ⟨trivial, h1⟩, trivial⟩ ?_
      refine EvOk.cond (fun hb => Bool.noConfusion hb) (fun _ => ?_)
      refine At.gc [0, 1] [] (n := 49) (l := [(0, .int .i64 x0), (1, .int .i64 x1)]) (bl := []) (by kernel_rfl) ?_
      refine At.adv [6] [] 400 (ev := .stop c9x8 [.seq c9x9]) (σ' := mkS 49 [(0, .int .i64 x0), (1, .int .i64 x1)] []) (q := []) (by kernel_rfl) trivial ?_
      exact (wj9x1 x0 x1)  r h Γ
theorem w9 {x0 : Int} {x1 : Int} {r : (List UInt8) × Int} (h : m_octet_Put x0 x1 = some r) : CallSpec Try.prog 9 [.int .i64 x0, .int .i64 x1] (.tup [.str r.1, .int .i64 r.2]) :=
  CallSpec.at2 b9 (n := 49) (l := [(0, .int .i64 x0), (1, .int .i64 x1)]) (by kernel_rfl) (by kernel_rfl) (by kernel_rfl) (by kernel_rfl) (by kernel_rfl) (Nat.le_of_ble_eq_true (by kernel_rfl)) (fun Γ => we9 x0 x1 r h Γ)

/-! ### armature armatureref02.sized -/
noncomputable def b21 : Code := Try.f21.body.getD .skip
def m_armatureref02_sized (x0 : Int) : Option (Bool) :=
  if (x0 == 1) = true then (some true) else
  (if (x0 == 2) = true then (some true) else
  (if (x0 == 4) = true then (some true) else
  (some (x0 == 8))))
theorem we21 (x0 : Int) (r : Bool) (h : m_armatureref02_sized x0 = some r) (Γ : Ctx) : At Try.prog Γ b21 [] (Den.Ends Try.prog Try.f21 (.bool r)) (mkS 17 [(0, .int .i64 x0)] []) := by
  rcases Bool.eq_false_or_eq_true (x0 == 1) with h0 | h0
  · replace h := iteT h0 h
    refine At.adv [] [(0, { told := [], gs := [], keep := some ([0], []) }), (1, { told := [(5, { ans := .yes })], gs := [(3, false), (4, false)], keep := some ([2], []) })] 400 (ev := .ret) (σ' := mkS 17 [(2, .bool true)] []) (q := [((x0 == 1) == false) = false, ((x0 == 1) == false) = false, True ∧ ((x0 == 1) = true), True, True, True, True]) (by kernel_rfl) ⟨gB h0 rfl, gB h0 rfl, ⟨trivial, h0⟩, trivial, trivial, trivial, trivial, trivial⟩ ?_
    refine EvOk.ret ?_
    obtain rfl := someE h
    exact Den.Ends.mk (.inl rfl) (d := .bool true) (p := (True ∧ True) ∧ (True ∧ True)) (by kernel_rfl) ⟨⟨trivial, trivial⟩, ⟨trivial, trivial⟩⟩ (by kernel_rfl)
  · replace h := iteF h0 h
    rcases Bool.eq_false_or_eq_true (x0 == 2) with h1 | h1
    · replace h := iteT h1 h
      refine At.adv [] [(0, { told := [], gs := [], keep := some ([0], []) }), (1, { told := [(5, { ans := .no }), (9, { ans := .yes })], gs := [(3, true), (4, true), (7, false), (8, false)], keep := some ([2], []) })] 400 (ev := .ret) (σ' := mkS 17 [(2, .bool true)] []) (q := [((x0 == 1) == false) = true ∧ True, ((x0 == 1) == false) = true ∧ True, True ∧ ((x0 == 1) = false), ((x0 == 2) == false) = false, ((x0 == 2) == false) = false, True ∧ ((x0 == 2) = true), True, True]) (by kernel_rfl) ⟨⟨(gB h0 rfl), trivial⟩, ⟨(gB h0 rfl), trivial⟩, ⟨trivial, h0⟩, gB h1 rfl, gB h1 rfl, ⟨trivial, h1⟩, trivial, trivial, trivial⟩ ?_
      refine EvOk.ret ?_
      obtain rfl := someE h
      exact Den.Ends.mk (.inl rfl) (d := .bool true) (p := (True ∧ True) ∧ (True ∧ True)) (by kernel_rfl) ⟨⟨trivial, trivial⟩, ⟨trivial, trivial⟩⟩ (by kernel_rfl)
    · replace h := iteF h1 h
      rcases Bool.eq_false_or_eq_true (x0 == 4) with h2 | h2
      · replace h := iteT h2 h
        refine At.adv [] [(0, { told := [], gs := [], keep := some ([0], []) }), (1, { told := [(5, { ans := .no }), (9, { ans := .no }), (13, { ans := .yes })], gs := [(3, true), (4, true), (7, true), (8, true), (11, false), (12, false)], keep := some ([2], []) })] 400 (ev := .ret) (σ' := mkS 17 [(2, .bool true)] []) (q := [((x0 == 1) == false) = true ∧ True, ((x0 == 1) == false) = true ∧ True, True ∧ ((x0 == 1) = false), ((x0 == 2) == false) = true ∧ True, ((x0 == 2) == false) = true ∧ True, True ∧ ((x0 == 2) = false), ((x0 == 4) == false) = false, ((x0 == 4) == false) = false, True ∧ ((x0 == 4) = true)]) (by kernel_rfl) ⟨⟨(gB h0 rfl), trivial⟩, ⟨(gB h0 rfl), trivial⟩, ⟨trivial, h0⟩, ⟨(gB h1 rfl), trivial⟩, ⟨(gB h1 rfl), trivial⟩, ⟨trivial, h1⟩, gB h2 rfl, gB h2 rfl, ⟨trivial, h2⟩, trivial⟩ ?_
        refine EvOk.ret ?_
        obtain rfl := someE h
        exact Den.Ends.mk (.inl rfl) (d := .bool true) (p := (True ∧ True) ∧ (True ∧ True)) (by kernel_rfl) ⟨⟨trivial, trivial⟩, ⟨trivial, trivial⟩⟩ (by kernel_rfl)
      · replace h := iteF h2 h
        refine At.adv [] [(0, { told := [], gs := [], keep := some ([0], []) }), (1, { told := [(5, { ans := .no }), (9, { ans := .no }), (13, { ans := .no })], gs := [(3, true), (4, true), (7, true), (8, true), (11, true), (12, true)], keep := some ([2], []) })] 400 (ev := .ret) (σ' := mkS 17 [(2, .bool (x0 == 8))] []) (q := [((x0 == 1) == false) = true ∧ True, ((x0 == 1) == false) = true ∧ True, True ∧ ((x0 == 1) = false), ((x0 == 2) == false) = true ∧ True, ((x0 == 2) == false) = true ∧ True, True ∧ ((x0 == 2) = false), ((x0 == 4) == false) = true ∧ True, ((x0 == 4) == false) = true ∧ True, True ∧ ((x0 == 4) = false)]) (by kernel_rfl) ⟨⟨(gB h0 rfl), trivial⟩, ⟨(gB h0 rfl), trivial⟩, ⟨trivial, h0⟩, ⟨(gB h1 rfl), trivial⟩, ⟨(gB h1 rfl), trivial⟩, ⟨trivial, h1⟩, ⟨(gB h2 rfl), trivial⟩, ⟨(gB h2 rfl), trivial⟩, ⟨trivial, h2⟩, trivial⟩ ?_
        refine EvOk.ret ?_
        obtain rfl := someE h
        exact Den.Ends.mk (.inl rfl) (d := .bool (x0 == 8)) (p := (True ∧ True) ∧ (True ∧ True)) (by kernel_rfl) ⟨⟨trivial, trivial⟩, ⟨trivial, trivial⟩⟩ (by kernel_rfl)
theorem w21 {x0 : Int} {r : Bool} (h : m_armatureref02_sized x0 = some r) : CallSpec Try.prog 21 [.int .i64 x0] (.bool r) :=
  CallSpec.at2 b21 (n := 17) (l := [(0, .int .i64 x0)]) (by kernel_rfl) (by kernel_rfl) (by kernel_rfl) (by kernel_rfl) (by kernel_rfl) (Nat.le_of_ble_eq_true (by kernel_rfl)) (fun Γ => we21 x0 r h Γ)

/-! ### armature armatureref02.Put -/
noncomputable def b10 : Code := Try.f10.body.getD .skip
noncomputable def c10x0 : Code := sub1 b10
noncomputable def c10x1 : Code := sub1 c10x0
noncomputable def c10x2 : Code := sub0 c10x1
noncomputable def c10x3 : Code := sub1 c10x2
noncomputable def c10x4 : Code := sub0 c10x3
noncomputable def c10x5 : Code := sub1 c10x3
noncomputable def c10x6 : Code := sub1 c10x1
noncomputable def c10x7 : Code := sub0 c10x6
noncomputable def c10x8 : Code := sub1 c10x6
noncomputable def c10x9 : Code := sub0 c10x0
noncomputable def c10x10 : Code := sub1 c10x9
noncomputable def c10x11 : Code := sub0 c10x10
noncomputable def c10x12 : Code := sub1 c10x10
noncomputable def c10x13 : Code := sub1 c10x8
noncomputable def c10x14 : Code := sub0 c10x13
noncomputable def c10x15 : Code := sub1 c10x14
noncomputable def c10x16 : Code := sub0 c10x15
noncomputable def c10x17 : Code := sub0 c10x16
noncomputable def c10x18 : Code := sub1 c10x17
noncomputable def c10x19 : Code := sub0 c10x18
noncomputable def c10x20 : Code := sub0 c10x19
noncomputable def c10x21 : Code := sub1 c10x20
noncomputable def c10x22 : Code := sub1 c10x18
noncomputable def c10x23 : Code := sub0 c10x17
noncomputable def c10x24 : Code := sub1 c10x23
noncomputable def c10x25 : Code := sub0 c10x24
noncomputable def c10x26 : Code := sub1 c10x24
noncomputable def c10x27 : Code := sub1 c10x13
def l10x1 (t0 : Int × Int × (List Int)) : Option (Ctl (Int × Int × (List Int)) (((List Int)))) :=
  if (decide (t0.2.1 ≥ 0)) = true then
    ((some (andK .i64 t0.1 (255 : Int))).bind fun v16 =>
    (some (IntKind.wrap .u8 v16)).bind fun v17 =>
    (idxK t0.2.1 t0.2.2.length).bind fun v18 =>
    (t0.2.2[v18]?).bind fun v19 =>
    (shrK .i64 t0.1 (8 : Int)).bind fun v20 =>
    (some (IntKind.wrap .i64 (t0.2.1 - (1 : Int)))).bind fun v21 =>
    some (.next (v20, v21, (t0.2.2.set v18 v17)))) else
  (some (.done (t0.2.2)))
def j10x1 (x0 : Int) (x1 : Int) : Option ((List UInt8) × Int) :=
  (makeK 1 x1 x1).bind fun v8 =>
  (some (IntKind.wrap .i64 (x1 - (1 : Int)))).bind fun v9 =>
  (loopM l10x1 rounds (x0, v9, (List.replicate x1.toNat 0))).bind fun q0 =>
  some ((bytesOf q0), 0)
def m_armatureref02_Put (x0 : Int) (x1 : Int) : Option ((List UInt8) × Int) :=
  (m_armatureref02_sized x1).bind fun v0 =>
  if (!v0) = true then
    (some ([], 1)) else
  (if (decide (x1 < 8)) = true then ((some (IntKind.wrap .i64 ((8 : Int) * x1))).bind fun v1 =>
    (some (IntKind.wrap .i64 (v1 - (1 : Int)))).bind fun v2 =>
    (shlK .i64 (1 : Int) v2).bind fun v3 =>
    (some (IntKind.wrap .i64 (0 - v3))).bind fun v4 =>
    if (decide (x0 < v4)) = true then (some ([], 8)) else
    ((some (IntKind.wrap .i64 ((8 : Int) * x1))).bind fun v5 =>
    (shlK .i64 (1 : Int) v5).bind fun v6 =>
    (some (IntKind.wrap .i64 (v6 - (1 : Int)))).bind fun v7 =>
    if (decide (x0 > v7)) = true then
      (some ([], 8)) else
    ((j10x1 x0 x1) ))) else
    ((j10x1 x0 x1) ))
def st10x1  : (Int × Int × (List Int)) → S :=
  fun t0 => mkS 50 [(6, .lsl 6 0 ((t0.2.2.map rU8).length)), (7, .int .i64 t0.1), (8, .int .i64 t0.2.1)] [(6, { sz := 1, rows := (t0.2.2.map rU8), frz := 0, pure := true })]
noncomputable def J10x1  : (((List Int))) → Exit → S → Prop :=
  JExit 0 (fun q0 : (List Int) => mkS 50 [(6, .lsl 6 0 ((q0.map rU8).length))] [(6, { sz := 1, rows := (q0.map rU8), frz := 0, pure := true })])
theorem wl10x1 (t0 : Int × Int × (List Int)) (r : Ctl (Int × Int × (List Int)) (((List Int)))) (h : l10x1 t0 = some r) (Γ : Ctx) : At Try.prog Γ c10x17 [] (Round st10x1 J10x1 r) (st10x1 t0) := by
  refine At.adv [] [(8, { told := [], gs := [], keep := some ([6, 7, 8, 37], [(6, 6)]) })] 400 (ev := .cond (decide (t0.2.1 ≥ 0)) c10x25 c10x26 [.seq c10x18]) (σ' := mkS 50 [(6, .lsl 6 0 ((t0.2.2.map rU8).length)), (7, .int .i64 t0.1), (8, .int .i64 t0.2.1), (37, .bool (decide (t0.2.1 ≥ 0)))] [(6, { sz := 1, rows := (t0.2.2.map rU8), frz := 0, pure := true })]) (q := []) (by kernel_rfl) trivial ?_
  refine EvOk.cond (fun h5 => ?_) (fun h5 => ?_)
  · replace h := iteT h5 h
    refine At.gc [6, 7, 8] [(6, 6)] (n := 50) (l := [(6, .lsl 6 0 ((t0.2.2.map rU8).length)), (7, .int .i64 t0.1), (8, .int .i64 t0.2.1)]) (bl := [(6, { sz := 1, rows := (t0.2.2.map rU8), frz := 0, pure := true })]) (by kernel_rfl) ?_
    obtain ⟨v16, e16, h⟩ := bindE h
    obtain ⟨v17, e17, h⟩ := bindE h
    obtain ⟨v18, e18, h⟩ := bindE h
    obtain ⟨v19, e19, h⟩ := bindE h
    refine At.adv [11] [(10, { told := [(3, { ans := .val (.int .i64 v16) }), (4, { ans := .val (.int .u8 v17) }), (5, { ans := .val (.lptr 6 v18 0) }), (6, { row := some (rU8 v19), rows := some ((t0.2.2.set v18 v17).map rU8) })], gs := [], keep := some ([6, 7, 8], [(6, 6)]) })] 400 (ev := .stop c10x21 [.blk 1, .seq c10x22]) (σ' := mkS 50 [(6, .lsl 6 0 ((t0.2.2.map rU8).length)), (7, .int .i64 t0.1), (8, .int .i64 t0.2.1)] [(6, { sz := 1, rows := ((t0.2.2.set v18 v17).map rU8), frz := 0, pure := true })]) (q := [True ∧ (andK .i64 t0.1 (255 : Int) = v16), True ∧ (IntKind.wrap .u8 v16 = v17), True ∧ (0 ≤ t0.2.1 ∧ t0.2.1 < (((t0.2.2.map rU8).length : Nat) : Int) ∧ ((0 : Nat) : Int) + t0.2.1 = (v18 : Nat)), True ∧ (0 ≤ v18 ∧ (t0.2.2.map rU8)[v18]? = some (rU8 v19) ∧ 0 + ([.int .u8 v17] : List D).length ≤ (rU8 v19).length ∧ (t0.2.2.map rU8).set v18 (rU8 v17) = (t0.2.2.set v18 v17).map rU8)]) (by kernel_rfl) ⟨⟨trivial, someE e16⟩, ⟨trivial, someE e17⟩, ⟨trivial, idxK_spec e18 (lenMN _ _)⟩, ⟨trivial, ⟨Nat.zero_le _, getM rU8 e19, Nat.le_of_ble_eq_true rfl, setM rU8 _ _ _⟩⟩, trivial⟩ ?_
    refine EvOk.eq (congrArg (fun nn : Nat => mkS 50 [(6, .lsl 6 0 nn), (7, .int .i64 t0.1), (8, .int .i64 t0.2.1)] [(6, { sz := 1, rows := ((t0.2.2.set v18 v17).map rU8), frz := 0, pure := true })]) (by simp only [List.length_map, List.length_set] : (t0.2.2.map rU8).length = ((t0.2.2.set v18 v17).map rU8).length)) ?_
    refine EvOk.stop ?_
    obtain ⟨v20, e20, h⟩ := bindE h
    obtain ⟨v21, e21, h⟩ := bindE h
    refine At.adv [] [(11, { told := [(1, { ans := .val (.int .i64 v20) })], gs := [], keep := some ([6, 7, 8], [(6, 6)]) }), (9, { told := [(1, { ans := .val (.int .i64 v21) })], gs := [], keep := some ([6, 7, 8], [(6, 6)]) })] 400 (ev := .normal) (σ' := mkS 50 [(6, .lsl 6 0 (((t0.2.2.set v18 v17).map rU8).length)), (7, .int .i64 v20), (8, .int .i64 v21)] [(6, { sz := 1, rows := ((t0.2.2.set v18 v17).map rU8), frz := 0, pure := true })]) (q := [True ∧ (0 ≤ (8 : Int) ∧ Int.fdiv t0.1 (2 ^ (min ((8 : Int)).toNat (IntKind.bits .i64))) = v20), True ∧ (IntKind.wrap .i64 (t0.2.1 - (1 : Int)) = v21)]) (by kernel_rfl) ⟨⟨trivial, shrK_spec e20⟩, ⟨trivial, someE e21⟩, trivial⟩ ?_
    refine EvOk.normal ?_
    obtain rfl := someE h
    exact Round.next (by kernel_rfl)
  · replace h := iteF h5 h
    refine At.gc [6] [(6, 6)] (n := 50) (l := [(6, .lsl 6 0 ((t0.2.2.map rU8).length))]) (bl := [(6, { sz := 1, rows := (t0.2.2.map rU8), frz := 0, pure := true })]) (by kernel_rfl) ?_
    refine At.adv [] [] 400 (ev := .exit 0) (σ' := mkS 50 [(6, .lsl 6 0 ((t0.2.2.map rU8).length))] [(6, { sz := 1, rows := (t0.2.2.map rU8), frz := 0, pure := true })]) (q := []) (by kernel_rfl) trivial ?_
    refine EvOk.exit ?_
    obtain rfl := someE h
    exact Round.done (neExit _) ⟨rfl, by kernel_rfl⟩
theorem wj10x1 (x0 : Int) (x1 : Int) (r : (List UInt8) × Int) (h : (j10x1 x0 x1)  = some r) (Γ : Ctx) : EvOk Try.prog Γ (Den.Ends Try.prog Try.f10 (.tup [.str r.1, .int .i64 r.2])) (mkS 50 [(0, .int .i64 x0), (1, .int .i64 x1)] []) (.stop c10x7 [.seq c10x8]) := by
  refine EvOk.stop ?_
  obtain ⟨v8, e8, h⟩ := bindE h
  obtain ⟨v9, e9, h⟩ := bindE h
  refine At.adv [] [(5, { told := [(1, { rows := some ((List.replicate x1.toNat 0).map rU8) })], gs := [], keep := some ([0, 1, 6], [(32, 32)]) }), (6, { told := [], gs := [], keep := some ([1, 6, 7], [(32, 32)]) }), (7, { told := [(1, { ans := .val (.int .i64 v9) })], gs := [], keep := some ([6, 7, 8], [(32, 6)]) })] 400 (ev := .loop c10x17 [.blk 0, .seq c10x27]) (σ' := mkS 50 [(6, .lsl 6 0 (((List.replicate x1.toNat 0).map rU8).length)), (7, .int .i64 x0), (8, .int .i64 v9)] [(6, { sz := 1, rows := ((List.replicate x1.toNat 0).map rU8), frz := 0, pure := true })]) (q := [True ∧ (0 ≤ x1 ∧ x1 ≤ x1 ∧ ((1 : Nat) : Int) * x1 ≤ 281474976710656 ∧ x1 ≤ 9223372036854775807 ∧ List.replicate (x1 : Int).toNat ([.int .u8 0] : List D) = (List.replicate x1.toNat 0).map rU8), True ∧ (IntKind.wrap .i64 (x1 - (1 : Int)) = v9)]) (by kernel_rfl) ⟨⟨trivial, ⟨(makeK_spec e8).1, (makeK_spec e8).2.1, (makeK_spec e8).2.2.1, (makeK_spec e8).2.2.2, repM rU8 _ _⟩⟩, ⟨trivial, someE e9⟩, trivial⟩ ?_
  refine EvOk.loop ?_
  obtain ⟨q0, e22, h⟩ := bindE h
  refine At.loop l10x1 st10x1 J10x1 (x0, v9, (List.replicate x1.toNat 0)) e22 (by kernel_rfl) (fun t x hx => wl10x1 t x hx Γ) ?_
  intro e σ' hJ
  obtain ⟨rfl, rfl⟩ := hJ
  refine At.exitK (K' := [.seq c10x27]) (by kernel_rfl) ?_
  refine At.advN [] [(12, { told := [(1, { ans := .val (.str (bytesOf q0)) })], gs := [], keep := some ([4, 5], []) })] 400 (ev := .ret) (σ' := mkS 50 [(4, .str (bytesOf q0)), (5, .int .i64 0)] []) (q := [True ∧ ((0 + (q0.map rU8).length ≤ (q0.map rU8).length) ∧ rowBytes (((q0.map rU8).drop 0).take (q0.map rU8).length) = some (bytesOf q0))]) (by kernel_rfl) ⟨⟨trivial, ⟨roomAll _, by rw [takeAll]; exact rowBytes_of _⟩⟩, trivial⟩ ?_
  refine EvOk.ret ?_
  obtain rfl := someE h
  exact Den.Ends.mk (.inl rfl) (d := .tup [.str (bytesOf q0), .int .i64 0]) (p := (True ∧ (True ∧ True)) ∧ (True ∧ (True ∧ True))) (by kernel_rfl) ⟨⟨trivial, ⟨trivial, trivial⟩⟩, ⟨trivial, ⟨trivial, trivial⟩⟩⟩ (by kernel_rfl)
theorem we10 (x0 : Int) (x1 : Int) (r : (List UInt8) × Int) (h : m_armatureref02_Put x0 x1 = some r) (Γ : Ctx) : At Try.prog Γ b10 [] (Den.Ends Try.prog Try.f10 (.tup [.str r.1, .int .i64 r.2])) (mkS 50 [(0, .int .i64 x0), (1, .int .i64 x1)] []) := by
  obtain ⟨v0, e0, h⟩ := bindE h
  refine At.adv [] [(0, { told := [], gs := [], keep := some ([0, 1], []) }), (1, { told := [(1, { ans := .val (.bool v0), args := [.int .i64 x1] })], gs := [], keep := some ([0, 1, 11], []) })] 400 (ev := .cond (!v0) c10x11 c10x12 [.seq c10x1]) (σ' := mkS 50 [(0, .int .i64 x0), (1, .int .i64 x1), (11, .bool (!v0))] []) (q := [True ∧ ((True ∧ True) ∧ ([.int .i64 x1] : List D) = [.int .i64 x1] ∧ CallSpec Try.prog 21 [.int .i64 x1] (.bool v0))]) (by kernel_rfl) ⟨⟨trivial, ⟨⟨trivial, trivial⟩, rfl, w21 e0⟩⟩, trivial⟩ ?_
  refine EvOk.cond (fun h0 => ?_) (fun h0 => ?_)
  · replace h := iteT h0 h
    refine At.gc [] [] (n := 50) (l := []) (bl := []) (by kernel_rfl) ?_
    refine At.adv [] [(2, { told := [], gs := [], keep := some ([4, 5], []) })] 400 (ev := .ret) (σ' := mkS 50 [(4, .str []), (5, .int .i64 1)] []) (q := []) (by kernel_rfl) trivial ?_
    refine EvOk.ret ?_
    obtain rfl := someE h
    exact Den.Ends.mk (.inl rfl) (d := .tup [.str [], .int .i64 1]) (p := (True ∧ (True ∧ True)) ∧ (True ∧ (True ∧ True))) (by kernel_rfl) ⟨⟨trivial, ⟨trivial, trivial⟩⟩, ⟨trivial, ⟨trivial, trivial⟩⟩⟩ (by kernel_rfl)
  · replace h := iteF h0 h
    refine At.gc [0, 1] [] (n := 50) (l := [(0, .int .i64 x0), (1, .int .i64 x1)]) (bl := []) (by kernel_rfl) ?_
    rcases Bool.eq_false_or_eq_true (decide (x1 < 8)) with h1 | h1
    · replace h := iteT h1 h
      obtain ⟨v1, e1, h⟩ := bindE h
      obtain ⟨v2, e2, h⟩ := bindE h
      obtain ⟨v3, e3, h⟩ := bindE h
      obtain ⟨v4, e4, h⟩ := bindE h
      rcases Bool.eq_false_or_eq_true (decide (x0 < v4)) with h2 | h2
      · replace h := iteT h2 h
        refine At.adv [] [(3, { told := [(5, { ans := .val (.int .i64 v1) }), (6, { ans := .val (.int .i64 v2) }), (7, { ans := .val (.int .i64 v3) }), (8, { ans := .val (.int .i64 v4) }), (17, { ans := .yes }), (18, { ans := .yes })], gs := [(3, true), (4, true), (5, true), (6, true), (7, true), (8, true), (9, true), (10, true), (11, false), (12, false), (13, false), (14, false), (15, false), (16, false), (17, true)], keep := some ([0, 1, 30], []) })] 400 (ev := .cond true c10x4 c10x5 [.seq c10x6]) (σ' := mkS 50 [(0, .int .i64 x0), (1, .int .i64 x1), (30, .bool true)] []) (q := [((decide (x1 < 8)) == true) = true ∧ True, ((decide (x1 < 8)) == true) = true ∧ True, ((decide (x1 < 8)) == true) = true ∧ (IntKind.wrap .i64 ((8 : Int) * x1) = v1), ((decide (x1 < 8)) == true) = true ∧ (IntKind.wrap .i64 (v1 - (1 : Int)) = v2), ((decide (x1 < 8)) == true) = true ∧ (0 ≤ v2 ∧ IntKind.wrap .i64 ((1 : Int) * 2 ^ (min (v2).toNat (IntKind.bits .i64))) = v3), ((decide (x1 < 8)) == true) = true ∧ (IntKind.wrap .i64 (0 - v3) = v4), ((decide (x1 < 8)) == true) = true ∧ True, ((decide (x1 < 8)) == true) = true ∧ True, ((decide (x0 < v4)) == false) = false, ((decide (x0 < v4)) == false) = false, ((decide (x0 < v4)) == false) = false, ((decide (x0 < v4)) == false) = false, ((decide (x0 < v4)) == false) = false, ((decide (x0 < v4)) == false) = false, ((decide (x1 < 8)) == true) = true ∧ ((decide (x0 < v4)) = true), True ∧ ((decide (x1 < 8)) = true)]) (by kernel_rfl) ⟨⟨(gB h1 rfl), trivial⟩, ⟨(gB h1 rfl), trivial⟩, ⟨(gB h1 rfl), someE e1⟩, ⟨(gB h1 rfl), someE e2⟩, ⟨(gB h1 rfl), shlK_spec e3⟩, ⟨(gB h1 rfl), someE e4⟩, ⟨(gB h1 rfl), trivial⟩, ⟨(gB h1 rfl), trivial⟩, gB h2 rfl, gB h2 rfl, gB h2 rfl, gB h2 rfl, gB h2 rfl, gB h2 rfl, ⟨(gB h1 rfl), h2⟩, ⟨trivial, h1⟩, trivial⟩ ?_
        refine EvOk.cond (fun _ => ?_) (fun hb => Bool.noConfusion hb)
        refine At.gc [] [] (n := 50) (l := []) (bl := []) (by kernel_rfl) ?_
        refine At.adv [] [(4, { told := [], gs := [], keep := some ([4, 5], []) })] 400 (ev := .ret) (σ' := mkS 50 [(4, .str []), (5, .int .i64 8)] []) (q := []) (by kernel_rfl) trivial ?_
        refine EvOk.ret ?_
        obtain rfl := someE h
        exact Den.Ends.mk (.inl rfl) (d := .tup [.str [], .int .i64 8]) (p := (True ∧ (True ∧ True)) ∧ (True ∧ (True ∧ True))) (by kernel_rfl) ⟨⟨trivial, ⟨trivial, trivial⟩⟩, ⟨trivial, ⟨trivial, trivial⟩⟩⟩ (by kernel_rfl)
      · replace h := iteF h2 h
        obtain ⟨v5, e5, h⟩ := bindE h
        obtain ⟨v6, e6, h⟩ := bindE h
        obtain ⟨v7, e7, h⟩ := bindE h
        refine At.adv [] [(3, { told := [(5, { ans := .val (.int .i64 v1) }), (6, { ans := .val (.int .i64 v2) }), (7, { ans := .val (.int .i64 v3) }), (8, { ans := .val (.int .i64 v4) }), (13, { ans := .val (.int .i64 v5) }), (14, { ans := .val (.int .i64 v6) }), (15, { ans := .val (.int .i64 v7) }), (17, { ans := .no }), (18, { ans := .yes })], gs := [(3, true), (4, true), (5, true), (6, true), (7, true), (8, true), (9, true), (10, true), (11, true), (12, true), (13, true), (14, true), (15, true), (16, true), (17, true)], keep := some ([0, 1, 30], []) })] 400 (ev := .cond (decide (x0 > v7)) c10x4 c10x5 [.seq c10x6]) (σ' := mkS 50 [(0, .int .i64 x0), (1, .int .i64 x1), (30, .bool (decide (x0 > v7)))] []) (q := [((decide (x1 < 8)) == true) = true ∧ True, ((decide (x1 < 8)) == true) = true ∧ True, ((decide (x1 < 8)) == true) = true ∧ (IntKind.wrap .i64 ((8 : Int) * x1) = v1), ((decide (x1 < 8)) == true) = true ∧ (IntKind.wrap .i64 (v1 - (1 : Int)) = v2), ((decide (x1 < 8)) == true) = true ∧ (0 ≤ v2 ∧ IntKind.wrap .i64 ((1 : Int) * 2 ^ (min (v2).toNat (IntKind.bits .i64))) = v3), ((decide (x1 < 8)) == true) = true ∧ (IntKind.wrap .i64 (0 - v3) = v4), ((decide (x1 < 8)) == true) = true ∧ True, ((decide (x1 < 8)) == true) = true ∧ True, ((decide (x0 < v4)) == false) = true ∧ True, ((decide (x0 < v4)) == false) = true ∧ True, ((decide (x0 < v4)) == false) = true ∧ (IntKind.wrap .i64 ((8 : Int) * x1) = v5), ((decide (x0 < v4)) == false) = true ∧ (0 ≤ v5 ∧ IntKind.wrap .i64 ((1 : Int) * 2 ^ (min (v5).toNat (IntKind.bits .i64))) = v6), ((decide (x0 < v4)) == false) = true ∧ (IntKind.wrap .i64 (v6 - (1 : Int)) = v7), ((decide (x0 < v4)) == false) = true ∧ True, ((decide (x1 < 8)) == true) = true ∧ ((decide (x0 < v4)) = false), True ∧ ((decide (x1 < 8)) = true)]) (by kernel_rfl) ⟨⟨(gB h1 rfl), trivial⟩, ⟨(gB h1 rfl), trivial⟩, ⟨(gB h1 rfl), someE e1⟩, ⟨(gB h1 rfl), someE e2⟩, ⟨(gB h1 rfl), shlK_spec e3⟩, ⟨(gB h1 rfl), someE e4⟩, ⟨(gB h1 rfl), trivial⟩, ⟨(gB h1 rfl), trivial⟩, ⟨(gB h2 rfl), trivial⟩, ⟨(gB h2 rfl), trivial⟩, ⟨(gB h2 rfl), someE e5⟩, ⟨(gB h2 rfl), shlK_spec e6⟩, ⟨(gB h2 rfl), someE e7⟩, ⟨(gB h2 rfl), trivial⟩, ⟨(gB h1 rfl), h2⟩, ⟨trivial, h1⟩, trivial⟩ ?_
        refine EvOk.cond (fun h3 => ?_) (fun h3 => ?_)
        · replace h := iteT h3 h
          refine At.gc [] [] (n := 50) (l := []) (bl := []) (by kernel_rfl) ?_
          refine At.adv [] [(4, { told := [], gs := [], keep := some ([4, 5], []) })] 400 (ev := .ret) (σ' := mkS 50 [(4, .str []), (5, .int .i64 8)] []) (q := []) (by kernel_rfl) trivial ?_
          refine EvOk.ret ?_
          obtain rfl := someE h
          exact Den.Ends.mk (.inl rfl) (d := .tup [.str [], .int .i64 8]) (p := (True ∧ (True ∧ True)) ∧ (True ∧ (True ∧ True))) (by kernel_rfl) ⟨⟨trivial, ⟨trivial, trivial⟩⟩, ⟨trivial, ⟨trivial, trivial⟩⟩⟩ (by kernel_rfl)
        · replace h := iteF h3 h
          refine At.gc [0, 1] [] (n := 50) (l := [(0, .int .i64 x0), (1, .int .i64 x1)]) (bl := []) (by kernel_rfl) ?_
          refine At.adv [5] [] 400 (ev := .stop c10x7 [.seq c10x8]) (σ' := mkS 50 [(0, .int .i64 x0), (1, .int .i64 x1)] []) (q := []) (by kernel_rfl) trivial ?_
          exact (wj10x1 x0 x1)  r h Γ
    · replace h := iteF h1 h
      refine At.adv [] [(3, { told := [(18, { ans := .no })], gs := [(3, false), (4, false), (5, false), (6, false), (7, false), (8, false), (9, false), (10, false), (17, false)], keep := some ([0, 1, 30], []) })] 400 (ev := .cond false c10x4 c10x5 [.seq c10x6]) (σ' := mkS 50 [(0, .int .i64 x0), (1, .int .i64 x1), (30, .bool false)] []) (q := [((decide (x1 < 8)) == true) = false, ((decide (x1 < 8)) == true) = false, ((decide (x1 < 8)) == true) = false, ((decide (x1 < 8)) == true) = false, ((decide (x1 < 8)) == true) = false, ((decide (x1 < 8)) == true) = false, ((decide (x1 < 8)) == true) = false, ((decide (x1 < 8)) == true) = false, True, True, True, True, True, True, ((decide (x1 < 8)) == true) = false, True ∧ ((decide (x1 < 8)) = false)]) (by kernel_rfl) ⟨gB h1 rfl, gB h1 rfl, gB h1 rfl, gB h1 rfl, gB h1 rfl, gB h1 rfl, gB h1 rfl, gB h1 rfl, trivial, trivial, trivial, trivial, trivial, trivial, gB h1 rfl, ⟨trivial, h1⟩, trivial⟩ ?_
      refine EvOk.cond (fun hb => Bool.noConfusion hb) (fun _ => ?_)
      refine At.gc [0, 1] [] (n := 50) (l := [(0, .int .i64 x0), (1, .int .i64 x1)]) (bl := []) (by kernel_rfl) ?_
      refine At.adv [5] [] 400 (ev := .stop c10x7 [.seq c10x8]) (σ' := mkS 50 [(0, .int .i64 x0), (1, .int .i64 x1)] []) (q := []) (by kernel_rfl) trivial ?_
      exact (wj10x1 x0 x1)  r h Γ
theorem w10 {x0 : Int} {x1 : Int} {r : (List UInt8) × Int} (h : m_armatureref02_Put x0 x1 = some r) : CallSpec Try.prog 10 [.int .i64 x0, .int .i64 x1] (.tup [.str r.1, .int .i64 r.2]) :=
  CallSpec.at2 b10 (n := 50) (l := [(0, .int .i64 x0), (1, .int .i64 x1)]) (by kernel_rfl) (by kernel_rfl) (by kernel_rfl) (by kernel_rfl) (by kernel_rfl) (Nat.le_of_ble_eq_true (by kernel_rfl)) (fun Γ => we10 x0 x1 r h Γ)

/-! ### armature octet.window -/
noncomputable def b24 : Code := Try.f24.body.getD .skip
noncomputable def c24x0 : Code := sub1 b24
noncomputable def c24x1 : Code := sub0 c24x0
noncomputable def c24x2 : Code := sub0 c24x1
noncomputable def c24x3 : Code := sub1 c24x2
noncomputable def c24x4 : Code := sub0 c24x3
noncomputable def c24x5 : Code := sub1 c24x3
noncomputable def c24x6 : Code := sub1 c24x0
noncomputable def c24x7 : Code := sub0 c24x5
noncomputable def c24x8 : Code := sub1 c24x5
noncomputable def c24x9 : Code := sub0 c24x8
noncomputable def c24x10 : Code := sub1 c24x8
def j24x1 (x0 : List UInt8) (x1 : Int) (x2 : Int) : Option ((List UInt8) × Int) :=
  (some (IntKind.wrap .i64 ((x0.length : Int) - x1))).bind fun v0 =>
  if (decide (v0 < x2)) = true then
    (some ([], 3)) else
  ((some (IntKind.wrap .i64 (x1 + x2))).bind fun v1 =>
    (sub x0 x1 v1).bind fun v2 =>
    some (v2, 0))
def m_octet_window (x0 : List UInt8) (x1 : Int) (x2 : Int) : Option ((List UInt8) × Int) :=
  if (decide (x1 < 0)) = true then (some ([], 2)) else
  (if (decide (x1 > (x0.length : Int))) = true then
    (some ([], 2)) else
  ((j24x1 x0 x1 x2) ))
theorem wj24x1 (x0 : List UInt8) (x1 : Int) (x2 : Int) (r : (List UInt8) × Int) (h : (j24x1 x0 x1 x2)  = some r) (Γ : Ctx) : EvOk Try.prog Γ (Den.Ends Try.prog Try.f24 (.tup [.str r.1, .int .i64 r.2])) (mkS 30 [(0, .str x0), (1, .int .i64 x1), (2, .int .i64 x2)] []) (.stop c24x7 [.seq c24x8, .blk 0, .seq c24x6]) := by
  refine EvOk.stop ?_
  obtain ⟨v0, e0, h⟩ := bindE h
  refine At.adv [] [(3, { told := [(3, { ans := .val (.int .i64 v0) })], gs := [], keep := some ([0, 1, 2, 17], []) })] 400 (ev := .cond (decide (v0 < x2)) c24x9 c24x10 [.blk 0, .seq c24x6]) (σ' := mkS 30 [(0, .str x0), (1, .int .i64 x1), (2, .int .i64 x2), (17, .bool (decide (v0 < x2)))] []) (q := [True ∧ (IntKind.wrap .i64 ((x0.length : Int) - x1) = v0)]) (by kernel_rfl) ⟨⟨trivial, someE e0⟩, trivial⟩ ?_
  refine EvOk.cond (fun h2 => ?_) (fun h2 => ?_)
  · replace h := iteT h2 h
    refine At.gc [] [] (n := 30) (l := []) (bl := []) (by kernel_rfl) ?_
    refine At.adv [] [(4, { told := [], gs := [], keep := some ([6, 7], []) })] 400 (ev := .ret) (σ' := mkS 30 [(6, .str []), (7, .int .i64 3)] []) (q := []) (by kernel_rfl) trivial ?_
    refine EvOk.ret ?_
    obtain rfl := someE h
    exact Den.Ends.mk (.inl rfl) (d := .tup [.str [], .int .i64 3]) (p := (True ∧ (True ∧ True)) ∧ (True ∧ (True ∧ True))) (by kernel_rfl) ⟨⟨trivial, ⟨trivial, trivial⟩⟩, ⟨trivial, ⟨trivial, trivial⟩⟩⟩ (by kernel_rfl)
  · replace h := iteF h2 h
    refine At.gc [0, 1, 2] [] (n := 30) (l := [(0, .str x0), (1, .int .i64 x1), (2, .int .i64 x2)]) (bl := []) (by kernel_rfl) ?_
    obtain ⟨v1, e1, h⟩ := bindE h
    obtain ⟨v2, e2, h⟩ := bindE h
    refine At.adv [] [(5, { told := [(4, { ans := .val (.int .i64 v1) }), (5, { ans := .val (.str v2) })], gs := [], keep := some ([6, 7], []) })] 400 (ev := .ret) (σ' := mkS 30 [(6, .str v2), (7, .int .i64 0)] []) (q := [True ∧ (IntKind.wrap .i64 (x1 + x2) = v1), True ∧ (sub x0 x1 v1 = some v2)]) (by kernel_rfl) ⟨⟨trivial, someE e1⟩, ⟨trivial, e2⟩, trivial⟩ ?_
    refine EvOk.ret ?_
    obtain rfl := someE h
    exact Den.Ends.mk (.inl rfl) (d := .tup [.str v2, .int .i64 0]) (p := (True ∧ (True ∧ True)) ∧ (True ∧ (True ∧ True))) (by kernel_rfl) ⟨⟨trivial, ⟨trivial, trivial⟩⟩, ⟨trivial, ⟨trivial, trivial⟩⟩⟩ (by kernel_rfl)
theorem we24 (x0 : List UInt8) (x1 : Int) (x2 : Int) (r : (List UInt8) × Int) (h : m_octet_window x0 x1 x2 = some r) (Γ : Ctx) : At Try.prog Γ b24 [] (Den.Ends Try.prog Try.f24 (.tup [.str r.1, .int .i64 r.2])) (mkS 30 [(0, .str x0), (1, .int .i64 x1), (2, .int .i64 x2)] []) := by
  rcases Bool.eq_false_or_eq_true (decide (x1 < 0)) with h0 | h0
  · replace h := iteT h0 h
    refine At.adv [] [(0, { told := [], gs := [], keep := some ([0, 1, 2], []) }), (1, { told := [(7, { ans := .yes })], gs := [(3, false), (4, false), (5, false), (6, false)], keep := some ([0, 1, 2, 8], []) })] 400 (ev := .cond true c24x4 c24x5 [.blk 0, .seq c24x6]) (σ' := mkS 30 [(0, .str x0), (1, .int .i64 x1), (2, .int .i64 x2), (8, .bool true)] []) (q := [((decide (x1 < 0)) == false) = false, ((decide (x1 < 0)) == false) = false, ((decide (x1 < 0)) == false) = false, ((decide (x1 < 0)) == false) = false, True ∧ ((decide (x1 < 0)) = true)]) (by kernel_rfl) ⟨gB h0 rfl, gB h0 rfl, gB h0 rfl, gB h0 rfl, ⟨trivial, h0⟩, trivial⟩ ?_
    refine EvOk.cond (fun _ => ?_) (fun hb => Bool.noConfusion hb)
    refine At.gc [] [] (n := 30) (l := []) (bl := []) (by kernel_rfl) ?_
    refine At.adv [] [(2, { told := [], gs := [], keep := some ([6, 7], []) })] 400 (ev := .ret) (σ' := mkS 30 [(6, .str []), (7, .int .i64 2)] []) (q := []) (by kernel_rfl) trivial ?_
    refine EvOk.ret ?_
    obtain rfl := someE h
    exact Den.Ends.mk (.inl rfl) (d := .tup [.str [], .int .i64 2]) (p := (True ∧ (True ∧ True)) ∧ (True ∧ (True ∧ True))) (by kernel_rfl) ⟨⟨trivial, ⟨trivial, trivial⟩⟩, ⟨trivial, ⟨trivial, trivial⟩⟩⟩ (by kernel_rfl)
  · replace h := iteF h0 h
    refine At.adv [] [(0, { told := [], gs := [], keep := some ([0, 1, 2], []) }), (1, { told := [(7, { ans := .no })], gs := [(3, true), (4, true), (5, true), (6, true)], keep := some ([0, 1, 2, 8], []) })] 400 (ev := .cond (decide (x1 > (x0.length : Int))) c24x4 c24x5 [.blk 0, .seq c24x6]) (σ' := mkS 30 [(0, .str x0), (1, .int .i64 x1), (2, .int .i64 x2), (8, .bool (decide (x1 > (x0.length : Int))))] []) (q := [((decide (x1 < 0)) == false) = true ∧ True, ((decide (x1 < 0)) == false) = true ∧ True, ((decide (x1 < 0)) == false) = true ∧ True, ((decide (x1 < 0)) == false) = true ∧ True, True ∧ ((decide (x1 < 0)) = false)]) (by kernel_rfl) ⟨⟨(gB h0 rfl), trivial⟩, ⟨(gB h0 rfl), trivial⟩, ⟨(gB h0 rfl), trivial⟩, ⟨(gB h0 rfl), trivial⟩, ⟨trivial, h0⟩, trivial⟩ ?_
    refine EvOk.cond (fun h1 => ?_) (fun h1 => ?_)
    · replace h := iteT h1 h
      refine At.gc [] [] (n := 30) (l := []) (bl := []) (by kernel_rfl) ?_
      refine At.adv [] [(2, { told := [], gs := [], keep := some ([6, 7], []) })] 400 (ev := .ret) (σ' := mkS 30 [(6, .str []), (7, .int .i64 2)] []) (q := []) (by kernel_rfl) trivial ?_
      refine EvOk.ret ?_
      obtain rfl := someE h
      exact Den.Ends.mk (.inl rfl) (d := .tup [.str [], .int .i64 2]) (p := (True ∧ (True ∧ True)) ∧ (True ∧ (True ∧ True))) (by kernel_rfl) ⟨⟨trivial, ⟨trivial, trivial⟩⟩, ⟨trivial, ⟨trivial, trivial⟩⟩⟩ (by kernel_rfl)
    · replace h := iteF h1 h
      refine At.gc [0, 1, 2] [] (n := 30) (l := [(0, .str x0), (1, .int .i64 x1), (2, .int .i64 x2)]) (bl := []) (by kernel_rfl) ?_
      refine At.adv [3] [] 400 (ev := .stop c24x7 [.seq c24x8, .blk 0, .seq c24x6]) (σ' := mkS 30 [(0, .str x0), (1, .int .i64 x1), (2, .int .i64 x2)] []) (q := []) (by kernel_rfl) trivial ?_
      exact (wj24x1 x0 x1 x2)  r h Γ
theorem w24 {x0 : List UInt8} {x1 : Int} {x2 : Int} {r : (List UInt8) × Int} (h : m_octet_window x0 x1 x2 = some r) : CallSpec Try.prog 24 [.str x0, .int .i64 x1, .int .i64 x2] (.tup [.str r.1, .int .i64 r.2]) :=
  CallSpec.at2 b24 (n := 30) (l := [(0, .str x0), (1, .int .i64 x1), (2, .int .i64 x2)]) (by kernel_rfl) (by kernel_rfl) (by kernel_rfl) (by kernel_rfl) (by kernel_rfl) (Nat.le_of_ble_eq_true (by kernel_rfl)) (fun Γ => we24 x0 x1 x2 r h Γ)

/-! ### armature octet.bits -/
noncomputable def b22 : Code := Try.f22.body.getD .skip
noncomputable def c22x0 : Code := sub1 b22
noncomputable def c22x1 : Code := sub1 c22x0
noncomputable def c22x2 : Code := sub1 c22x1
noncomputable def c22x3 : Code := sub1 c22x2
noncomputable def c22x4 : Code := sub0 c22x3
noncomputable def c22x5 : Code := sub1 c22x4
noncomputable def c22x6 : Code := sub0 c22x5
noncomputable def c22x7 : Code := sub0 c22x6
noncomputable def c22x8 : Code := sub1 c22x7
noncomputable def c22x9 : Code := sub0 c22x8
noncomputable def c22x10 : Code := sub0 c22x9
noncomputable def c22x11 : Code := sub1 c22x9
noncomputable def c22x12 : Code := sub1 c22x8
noncomputable def c22x13 : Code := sub1 c22x3
noncomputable def c22x14 : Code := sub0 c22x0
noncomputable def c22x15 : Code := sub1 c22x14
noncomputable def c22x16 : Code := sub0 c22x15
noncomputable def c22x17 : Code := sub1 c22x15
def l22x1 (v1 : (List UInt8) × Int) (t0 : Int × Int) : Option (Ctl (Int × Int) (Int)) :=
  if (decide (t0.2 < (v1.1.length : Int))) = true then
    ((shlK .u64 t0.1 (8 : Int)).bind fun v6 =>
    (getS v1.1 t0.2).bind fun v7 =>
    (some (IntKind.wrap .u64 v7)).bind fun v8 =>
    (some (orK .u64 v6 v8)).bind fun v9 =>
    (some (IntKind.wrap .i64 (t0.2 + (1 : Int)))).bind fun v10 =>
    some (.next (v9, v10))) else
  (some (.done (t0.1)))
def m_octet_bits (x0 : List UInt8) (x1 : Int) (x2 : Int) : Option (Int × Int) :=
  (m_octet_width x2).bind fun v0 =>
  if (v0 == 0) = true then
    (some (0, 1)) else
  ((m_octet_window x0 x1 x2).bind fun v1 =>
    (loopM (l22x1 v1) rounds (0, 0)).bind fun q0 =>
    some (q0, v1.2))
def st22x1 (v1 : (List UInt8) × Int) : (Int × Int) → S :=
  fun t0 => mkS 37 [(8, .str v1.1), (9, .int .i64 v1.2), (10, .int .u64 t0.1), (23, .int .i64 (v1.1.length : Int)), (24, .int .i64 t0.2)] []
noncomputable def J22x1 (v1 : (List UInt8) × Int) : Int → Exit → S → Prop :=
  JExit 0 (fun q0 : Int => mkS 37 [(9, .int .i64 v1.2), (10, .int .u64 q0)] [])
theorem wl22x1 (v1 : (List UInt8) × Int) (t0 : Int × Int) (r : Ctl (Int × Int) (Int)) (h : (l22x1 v1) t0 = some r) (Γ : Ctx) : At Try.prog Γ c22x7 [] (Round (st22x1 v1) (J22x1 v1) r) ((st22x1 v1) t0) := by
  refine At.adv [] [(6, { told := [], gs := [], keep := some ([8, 9, 10, 23, 24, 25], []) })] 400 (ev := .cond (decide (t0.2 < (v1.1.length : Int))) c22x10 c22x11 [.seq c22x12]) (σ' := mkS 37 [(8, .str v1.1), (9, .int .i64 v1.2), (10, .int .u64 t0.1), (23, .int .i64 (v1.1.length : Int)), (24, .int .i64 t0.2), (25, .bool (decide (t0.2 < (v1.1.length : Int))))] []) (q := []) (by kernel_rfl) trivial ?_
  refine EvOk.cond (fun h2 => ?_) (fun h2 => ?_)
  · replace h := iteT h2 h
    refine At.gc [8, 9, 10, 23, 24] [] (n := 37) (l := [(8, .str v1.1), (9, .int .i64 v1.2), (10, .int .u64 t0.1), (23, .int .i64 (v1.1.length : Int)), (24, .int .i64 t0.2)]) (bl := []) (by kernel_rfl) ?_
    obtain ⟨v6, e6, h⟩ := bindE h
    obtain ⟨v7, e7, h⟩ := bindE h
    obtain ⟨v8, e8, h⟩ := bindE h
    obtain ⟨v9, e9, h⟩ := bindE h
    obtain ⟨v10, e10, h⟩ := bindE h
    refine At.adv [] [(7, { told := [], gs := [], keep := some ([8, 9, 10, 11, 23, 24], []) }), (8, { told := [(1, { ans := .val (.int .u64 v6) }), (4, { ans := .val (.int .u8 v7) }), (5, { ans := .val (.int .u64 v8) }), (6, { ans := .val (.int .u64 v9) })], gs := [], keep := some ([8, 9, 10, 23, 24], []) }), (9, { told := [(0, { ans := .val (.int .i64 v10) })], gs := [], keep := some ([8, 9, 10, 23, 24], []) })] 400 (ev := .normal) (σ' := mkS 37 [(8, .str v1.1), (9, .int .i64 v1.2), (10, .int .u64 v9), (23, .int .i64 (v1.1.length : Int)), (24, .int .i64 v10)] []) (q := [True ∧ (0 ≤ (8 : Int) ∧ IntKind.wrap .u64 (t0.1 * 2 ^ (min ((8 : Int)).toNat (IntKind.bits .u64))) = v6), True ∧ (getS v1.1 t0.2 = some v7), True ∧ (IntKind.wrap .u64 v7 = v8), True ∧ (orK .u64 v6 v8 = v9), True ∧ (IntKind.wrap .i64 (t0.2 + (1 : Int)) = v10)]) (by kernel_rfl) ⟨⟨trivial, shlK_spec e6⟩, ⟨trivial, e7⟩, ⟨trivial, someE e8⟩, ⟨trivial, someE e9⟩, ⟨trivial, someE e10⟩, trivial⟩ ?_
    refine EvOk.normal ?_
    obtain rfl := someE h
    exact Round.next (by kernel_rfl)
  · replace h := iteF h2 h
    refine At.gc [9, 10] [] (n := 37) (l := [(9, .int .i64 v1.2), (10, .int .u64 t0.1)]) (bl := []) (by kernel_rfl) ?_
    refine At.adv [] [] 400 (ev := .exit 0) (σ' := mkS 37 [(9, .int .i64 v1.2), (10, .int .u64 t0.1)] []) (q := []) (by kernel_rfl) trivial ?_
    refine EvOk.exit ?_
    obtain rfl := someE h
    exact Round.done (neExit _) ⟨rfl, by kernel_rfl⟩
theorem we22 (x0 : List UInt8) (x1 : Int) (x2 : Int) (r : Int × Int) (h : m_octet_bits x0 x1 x2 = some r) (Γ : Ctx) : At Try.prog Γ b22 [] (Den.Ends Try.prog Try.f22 (.tup [.int .u64 r.1, .int .i64 r.2])) (mkS 37 [(0, .str x0), (1, .int .i64 x1), (2, .int .i64 x2)] []) := by
  obtain ⟨v0, e0, h⟩ := bindE h
  refine At.adv [] [(0, { told := [], gs := [], keep := some ([0, 1, 2], []) }), (1, { told := [(1, { ans := .val (.int .i64 v0), args := [.int .i64 x2] })], gs := [], keep := some ([0, 1, 2, 14], []) })] 400 (ev := .cond (v0 == 0) c22x16 c22x17 [.seq c22x1]) (σ' := mkS 37 [(0, .str x0), (1, .int .i64 x1), (2, .int .i64 x2), (14, .bool (v0 == 0))] []) (q := [True ∧ ((True ∧ True) ∧ ([.int .i64 x2] : List D) = [.int .i64 x2] ∧ CallSpec Try.prog 20 [.int .i64 x2] (.int .i64 v0))]) (by kernel_rfl) ⟨⟨trivial, ⟨⟨trivial, trivial⟩, rfl, w20 e0⟩⟩, trivial⟩ ?_
  refine EvOk.cond (fun h0 => ?_) (fun h0 => ?_)
  · replace h := iteT h0 h
    refine At.gc [] [] (n := 37) (l := []) (bl := []) (by kernel_rfl) ?_
    refine At.adv [] [(2, { told := [], gs := [], keep := some ([6, 7], []) })] 400 (ev := .ret) (σ' := mkS 37 [(6, .int .u64 0), (7, .int .i64 1)] []) (q := []) (by kernel_rfl) trivial ?_
    refine EvOk.ret ?_
    obtain rfl := someE h
    exact Den.Ends.mk (.inl rfl) (d := .tup [.int .u64 0, .int .i64 1]) (p := (True ∧ (True ∧ True)) ∧ (True ∧ (True ∧ True))) (by kernel_rfl) ⟨⟨trivial, ⟨trivial, trivial⟩⟩, ⟨trivial, ⟨trivial, trivial⟩⟩⟩ (by kernel_rfl)
  · replace h := iteF h0 h
    refine At.gc [0, 1, 2] [] (n := 37) (l := [(0, .str x0), (1, .int .i64 x1), (2, .int .i64 x2)]) (bl := []) (by kernel_rfl) ?_
    obtain ⟨v1, e1, h⟩ := bindE h
    refine At.adv [] [(3, { told := [(3, { ans := .val (.tup [.str v1.1, .int .i64 v1.2]), args := [.str x0, .int .i64 x1, .int .i64 x2] })], gs := [], keep := some ([8, 9], []) }), (4, { told := [], gs := [], keep := some ([8, 9, 10], []) }), (5, { told := [], gs := [], keep := some ([8, 9, 10, 23, 24], []) })] 400 (ev := .loop c22x7 [.blk 0, .seq c22x13]) (σ' := mkS 37 [(8, .str v1.1), (9, .int .i64 v1.2), (10, .int .u64 0), (23, .int .i64 (v1.1.length : Int)), (24, .int .i64 0)] []) (q := [True ∧ ((True ∧ (True ∧ (True ∧ True))) ∧ ([.str x0, .int .i64 x1, .int .i64 x2] : List D) = [.str x0, .int .i64 x1, .int .i64 x2] ∧ CallSpec Try.prog 24 [.str x0, .int .i64 x1, .int .i64 x2] (.tup [.str v1.1, .int .i64 v1.2]))]) (by kernel_rfl) ⟨⟨trivial, ⟨⟨trivial, ⟨trivial, ⟨trivial, trivial⟩⟩⟩, rfl, w24 e1⟩⟩, trivial⟩ ?_
    refine EvOk.loop ?_
    obtain ⟨q0, e11, h⟩ := bindE h
    refine At.loop (l22x1 v1) (st22x1 v1) (J22x1 v1) (0, 0) e11 (by kernel_rfl) (fun t x hx => (wl22x1 v1) t x hx Γ) ?_
    intro e σ' hJ
    obtain ⟨rfl, rfl⟩ := hJ
    refine At.exitK (K' := [.seq c22x13]) (by kernel_rfl) ?_
    refine At.advN [] [(10, { told := [], gs := [], keep := some ([6, 7], []) })] 400 (ev := .ret) (σ' := mkS 37 [(6, .int .u64 q0), (7, .int .i64 v1.2)] []) (q := []) (by kernel_rfl) trivial ?_
    refine EvOk.ret ?_
    obtain rfl := someE h
    exact Den.Ends.mk (.inl rfl) (d := .tup [.int .u64 q0, .int .i64 v1.2]) (p := (True ∧ (True ∧ True)) ∧ (True ∧ (True ∧ True))) (by kernel_rfl) ⟨⟨trivial, ⟨trivial, trivial⟩⟩, ⟨trivial, ⟨trivial, trivial⟩⟩⟩ (by kernel_rfl)
theorem w22 {x0 : List UInt8} {x1 : Int} {x2 : Int} {r : Int × Int} (h : m_octet_bits x0 x1 x2 = some r) : CallSpec Try.prog 22 [.str x0, .int .i64 x1, .int .i64 x2] (.tup [.int .u64 r.1, .int .i64 r.2]) :=
  CallSpec.at2 b22 (n := 37) (l := [(0, .str x0), (1, .int .i64 x1), (2, .int .i64 x2)]) (by kernel_rfl) (by kernel_rfl) (by kernel_rfl) (by kernel_rfl) (by kernel_rfl) (Nat.le_of_ble_eq_true (by kernel_rfl)) (fun Γ => we22 x0 x1 x2 r h Γ)

/-! ### armature octet.Signed -/
noncomputable def b14 : Code := Try.f14.body.getD .skip
noncomputable def c14x0 : Code := sub1 b14
noncomputable def c14x1 : Code := sub1 c14x0
noncomputable def c14x2 : Code := sub0 c14x1
noncomputable def c14x3 : Code := sub1 c14x2
noncomputable def c14x4 : Code := sub0 c14x3
noncomputable def c14x5 : Code := sub1 c14x3
noncomputable def c14x6 : Code := sub1 c14x1
def m_octet_Signed (x0 : List UInt8) (x1 : Int) (x2 : Int) : Option (Int × Int) :=
  (m_octet_bits x0 x1 x2).bind fun v0 =>
  if (v0.2 != 0) = true then
    (some (0, v0.2)) else
  ((m_octet_width x2).bind fun v1 =>
    (some (IntKind.wrap .i64 ((64 : Int) - v1))).bind fun v2 =>
    (some (IntKind.wrap .u64 v2)).bind fun v3 =>
    (shlK .u64 v0.1 v3).bind fun v4 =>
    (some (IntKind.wrap .i64 v4)).bind fun v5 =>
    (shrK .i64 v5 v3).bind fun v6 =>
    some (v6, 0))
theorem we14 (x0 : List UInt8) (x1 : Int) (x2 : Int) (r : Int × Int) (h : m_octet_Signed x0 x1 x2 = some r) (Γ : Ctx) : At Try.prog Γ b14 [] (Den.Ends Try.prog Try.f14 (.tup [.int .i64 r.1, .int .i64 r.2])) (mkS 31 [(0, .str x0), (1, .int .i64 x1), (2, .int .i64 x2)] []) := by
  obtain ⟨v0, e0, h⟩ := bindE h
  refine At.adv [] [(0, { told := [], gs := [], keep := some ([0, 1, 2], []) }), (1, { told := [(3, { ans := .val (.tup [.int .u64 v0.1, .int .i64 v0.2]), args := [.str x0, .int .i64 x1, .int .i64 x2] })], gs := [], keep := some ([2, 8, 9], []) }), (2, { told := [], gs := [], keep := some ([2, 8, 9, 19], []) })] 400 (ev := .cond (v0.2 != 0) c14x4 c14x5 [.seq c14x6]) (σ' := mkS 31 [(2, .int .i64 x2), (8, .int .u64 v0.1), (9, .int .i64 v0.2), (19, .bool (v0.2 != 0))] []) (q := [True ∧ ((True ∧ (True ∧ (True ∧ True))) ∧ ([.str x0, .int .i64 x1, .int .i64 x2] : List D) = [.str x0, .int .i64 x1, .int .i64 x2] ∧ CallSpec Try.prog 22 [.str x0, .int .i64 x1, .int .i64 x2] (.tup [.int .u64 v0.1, .int .i64 v0.2]))]) (by kernel_rfl) ⟨⟨trivial, ⟨⟨trivial, ⟨trivial, ⟨trivial, trivial⟩⟩⟩, rfl, w22 e0⟩⟩, trivial⟩ ?_
  refine EvOk.cond (fun h0 => ?_) (fun h0 => ?_)
  · replace h := iteT h0 h
    refine At.gc [9] [] (n := 31) (l := [(9, .int .i64 v0.2)]) (bl := []) (by kernel_rfl) ?_
    refine At.adv [] [(3, { told := [], gs := [], keep := some ([6, 7], []) })] 400 (ev := .ret) (σ' := mkS 31 [(6, .int .i64 0), (7, .int .i64 v0.2)] []) (q := []) (by kernel_rfl) trivial ?_
    refine EvOk.ret ?_
    obtain rfl := someE h
    exact Den.Ends.mk (.inl rfl) (d := .tup [.int .i64 0, .int .i64 v0.2]) (p := (True ∧ (True ∧ True)) ∧ (True ∧ (True ∧ True))) (by kernel_rfl) ⟨⟨trivial, ⟨trivial, trivial⟩⟩, ⟨trivial, ⟨trivial, trivial⟩⟩⟩ (by kernel_rfl)
  · replace h := iteF h0 h
    refine At.gc [2, 8] [] (n := 31) (l := [(2, .int .i64 x2), (8, .int .u64 v0.1)]) (bl := []) (by kernel_rfl) ?_
    obtain ⟨v1, e1, h⟩ := bindE h
    obtain ⟨v2, e2, h⟩ := bindE h
    obtain ⟨v3, e3, h⟩ := bindE h
    obtain ⟨v4, e4, h⟩ := bindE h
    obtain ⟨v5, e5, h⟩ := bindE h
    obtain ⟨v6, e6, h⟩ := bindE h
    refine At.adv [] [(4, { told := [(1, { ans := .val (.int .i64 v1), args := [.int .i64 x2] }), (2, { ans := .val (.int .i64 v2) }), (3, { ans := .val (.int .u64 v3) })], gs := [], keep := some ([8, 10], []) }), (5, { told := [(2, { ans := .val (.int .u64 v4) }), (3, { ans := .val (.int .i64 v5) }), (5, { ans := .val (.int .i64 v6) })], gs := [], keep := some ([6, 7], []) })] 400 (ev := .ret) (σ' := mkS 31 [(6, .int .i64 v6), (7, .int .i64 0)] []) (q := [True ∧ ((True ∧ True) ∧ ([.int .i64 x2] : List D) = [.int .i64 x2] ∧ CallSpec Try.prog 20 [.int .i64 x2] (.int .i64 v1)), True ∧ (IntKind.wrap .i64 ((64 : Int) - v1) = v2), True ∧ (IntKind.wrap .u64 v2 = v3), True ∧ (0 ≤ v3 ∧ IntKind.wrap .u64 (v0.1 * 2 ^ (min (v3).toNat (IntKind.bits .u64))) = v4), True ∧ (IntKind.wrap .i64 v4 = v5), True ∧ (0 ≤ v3 ∧ Int.fdiv v5 (2 ^ (min (v3).toNat (IntKind.bits .i64))) = v6)]) (by kernel_rfl) ⟨⟨trivial, ⟨⟨trivial, trivial⟩, rfl, w20 e1⟩⟩, ⟨trivial, someE e2⟩, ⟨trivial, someE e3⟩, ⟨trivial, shlK_spec e4⟩, ⟨trivial, someE e5⟩, ⟨trivial, shrK_spec e6⟩, trivial⟩ ?_
    refine EvOk.ret ?_
    obtain rfl := someE h
    exact Den.Ends.mk (.inl rfl) (d := .tup [.int .i64 v6, .int .i64 0]) (p := (True ∧ (True ∧ True)) ∧ (True ∧ (True ∧ True))) (by kernel_rfl) ⟨⟨trivial, ⟨trivial, trivial⟩⟩, ⟨trivial, ⟨trivial, trivial⟩⟩⟩ (by kernel_rfl)
theorem w14 {x0 : List UInt8} {x1 : Int} {x2 : Int} {r : Int × Int} (h : m_octet_Signed x0 x1 x2 = some r) : CallSpec Try.prog 14 [.str x0, .int .i64 x1, .int .i64 x2] (.tup [.int .i64 r.1, .int .i64 r.2]) :=
  CallSpec.at2 b14 (n := 31) (l := [(0, .str x0), (1, .int .i64 x1), (2, .int .i64 x2)]) (by kernel_rfl) (by kernel_rfl) (by kernel_rfl) (by kernel_rfl) (by kernel_rfl) (Nat.le_of_ble_eq_true (by kernel_rfl)) (fun Γ => we14 x0 x1 x2 r h Γ)

/-! ### armature octet.Unsigned -/
noncomputable def b12 : Code := Try.f12.body.getD .skip
def m_octet_Unsigned (x0 : List UInt8) (x1 : Int) (x2 : Int) : Option (Int × Int) :=
  (m_octet_bits x0 x1 x2).bind fun v0 =>
  (some (IntKind.wrap .i64 v0.1)).bind fun v1 =>
  some (v1, v0.2)
theorem we12 (x0 : List UInt8) (x1 : Int) (x2 : Int) (r : Int × Int) (h : m_octet_Unsigned x0 x1 x2 = some r) (Γ : Ctx) : At Try.prog Γ b12 [] (Den.Ends Try.prog Try.f12 (.tup [.int .i64 r.1, .int .i64 r.2])) (mkS 20 [(0, .str x0), (1, .int .i64 x1), (2, .int .i64 x2)] []) := by
  obtain ⟨v0, e0, h⟩ := bindE h
  obtain ⟨v1, e1, h⟩ := bindE h
  refine At.adv [] [(0, { told := [], gs := [], keep := some ([0, 1, 2], []) }), (1, { told := [(3, { ans := .val (.tup [.int .u64 v0.1, .int .i64 v0.2]), args := [.str x0, .int .i64 x1, .int .i64 x2] })], gs := [], keep := some ([8, 9], []) }), (2, { told := [(1, { ans := .val (.int .i64 v1) })], gs := [], keep := some ([6, 7], []) })] 400 (ev := .ret) (σ' := mkS 20 [(6, .int .i64 v1), (7, .int .i64 v0.2)] []) (q := [True ∧ ((True ∧ (True ∧ (True ∧ True))) ∧ ([.str x0, .int .i64 x1, .int .i64 x2] : List D) = [.str x0, .int .i64 x1, .int .i64 x2] ∧ CallSpec Try.prog 22 [.str x0, .int .i64 x1, .int .i64 x2] (.tup [.int .u64 v0.1, .int .i64 v0.2])), True ∧ (IntKind.wrap .i64 v0.1 = v1)]) (by kernel_rfl) ⟨⟨trivial, ⟨⟨trivial, ⟨trivial, ⟨trivial, trivial⟩⟩⟩, rfl, w22 e0⟩⟩, ⟨trivial, someE e1⟩, trivial⟩ ?_
  refine EvOk.ret ?_
  obtain rfl := someE h
  exact Den.Ends.mk (.inl rfl) (d := .tup [.int .i64 v1, .int .i64 v0.2]) (p := (True ∧ (True ∧ True)) ∧ (True ∧ (True ∧ True))) (by kernel_rfl) ⟨⟨trivial, ⟨trivial, trivial⟩⟩, ⟨trivial, ⟨trivial, trivial⟩⟩⟩ (by kernel_rfl)
theorem w12 {x0 : List UInt8} {x1 : Int} {x2 : Int} {r : Int × Int} (h : m_octet_Unsigned x0 x1 x2 = some r) : CallSpec Try.prog 12 [.str x0, .int .i64 x1, .int .i64 x2] (.tup [.int .i64 r.1, .int .i64 r.2]) :=
  CallSpec.at2 b12 (n := 20) (l := [(0, .str x0), (1, .int .i64 x1), (2, .int .i64 x2)]) (by kernel_rfl) (by kernel_rfl) (by kernel_rfl) (by kernel_rfl) (by kernel_rfl) (Nat.le_of_ble_eq_true (by kernel_rfl)) (fun Γ => we12 x0 x1 x2 r h Γ)

/-! ### armature octet.GetString -/
noncomputable def b18 : Code := Try.f18.body.getD .skip
noncomputable def c18x0 : Code := sub1 b18
noncomputable def c18x1 : Code := sub1 c18x0
noncomputable def c18x2 : Code := sub1 c18x1
noncomputable def c18x3 : Code := sub1 c18x2
noncomputable def c18x4 : Code := sub0 c18x3
noncomputable def c18x5 : Code := sub1 c18x4
noncomputable def c18x6 : Code := sub0 c18x5
noncomputable def c18x7 : Code := sub1 c18x5
noncomputable def c18x8 : Code := sub1 c18x3
noncomputable def c18x9 : Code := sub0 c18x1
noncomputable def c18x10 : Code := sub1 c18x9
noncomputable def c18x11 : Code := sub0 c18x10
noncomputable def c18x12 : Code := sub1 c18x10
def m_octet_GetString (x0 : List UInt8) (x1 : Int) : Option ((List UInt8) × Int × Int) :=
  (m_octet_Unsigned x0 x1 2).bind fun v0 =>
  if (v0.2 != 0) = true then
    (some ([], 0, v0.2)) else
  ((some (IntKind.wrap .i64 (x1 + (2 : Int)))).bind fun v1 =>
    (m_octet_window x0 v1 v0.1).bind fun v2 =>
    if (v2.2 != 0) = true then
      (some ([], 0, v2.2)) else
    ((some (IntKind.wrap .i64 (x1 + (2 : Int)))).bind fun v3 =>
      (some (IntKind.wrap .i64 (v3 + v0.1))).bind fun v4 =>
      some (v2.1, v4, 0)))
theorem we18 (x0 : List UInt8) (x1 : Int) (r : (List UInt8) × Int × Int) (h : m_octet_GetString x0 x1 = some r) (Γ : Ctx) : At Try.prog Γ b18 [] (Den.Ends Try.prog Try.f18 (.tup [.str r.1, .int .i64 r.2.1, .int .i64 r.2.2])) (mkS 35 [(0, .str x0), (1, .int .i64 x1)] []) := by
  obtain ⟨v0, e0, h⟩ := bindE h
  refine At.adv [] [(0, { told := [], gs := [], keep := some ([0, 1], []) }), (1, { told := [(2, { ans := .val (.tup [.int .i64 v0.1, .int .i64 v0.2]), args := [.str x0, .int .i64 x1, .int .i64 2] })], gs := [], keep := some ([0, 1, 7, 8], []) }), (2, { told := [], gs := [], keep := some ([0, 1, 7, 8, 17], []) })] 400 (ev := .cond (v0.2 != 0) c18x11 c18x12 [.seq c18x2]) (σ' := mkS 35 [(0, .str x0), (1, .int .i64 x1), (7, .int .i64 v0.1), (8, .int .i64 v0.2), (17, .bool (v0.2 != 0))] []) (q := [True ∧ ((True ∧ (True ∧ (True ∧ True))) ∧ ([.str x0, .int .i64 x1, .int .i64 2] : List D) = [.str x0, .int .i64 x1, .int .i64 2] ∧ CallSpec Try.prog 12 [.str x0, .int .i64 x1, .int .i64 2] (.tup [.int .i64 v0.1, .int .i64 v0.2]))]) (by kernel_rfl) ⟨⟨trivial, ⟨⟨trivial, ⟨trivial, ⟨trivial, trivial⟩⟩⟩, rfl, w12 e0⟩⟩, trivial⟩ ?_
  refine EvOk.cond (fun h0 => ?_) (fun h0 => ?_)
  · replace h := iteT h0 h
    refine At.gc [8] [] (n := 35) (l := [(8, .int .i64 v0.2)]) (bl := []) (by kernel_rfl) ?_
    refine At.adv [] [(3, { told := [], gs := [], keep := some ([4, 5, 6], []) })] 400 (ev := .ret) (σ' := mkS 35 [(4, .str []), (5, .int .i64 0), (6, .int .i64 v0.2)] []) (q := []) (by kernel_rfl) trivial ?_
    refine EvOk.ret ?_
    obtain rfl := someE h
    exact Den.Ends.mk (.inl rfl) (d := .tup [.str [], .int .i64 0, .int .i64 v0.2]) (p := (True ∧ (True ∧ (True ∧ True))) ∧ (True ∧ (True ∧ (True ∧ True)))) (by kernel_rfl) ⟨⟨trivial, ⟨trivial, ⟨trivial, trivial⟩⟩⟩, ⟨trivial, ⟨trivial, ⟨trivial, trivial⟩⟩⟩⟩ (by kernel_rfl)
  · replace h := iteF h0 h
    refine At.gc [0, 1, 7] [] (n := 35) (l := [(0, .str x0), (1, .int .i64 x1), (7, .int .i64 v0.1)]) (bl := []) (by kernel_rfl) ?_
    obtain ⟨v1, e1, h⟩ := bindE h
    obtain ⟨v2, e2, h⟩ := bindE h
    refine At.adv [] [(4, { told := [(2, { ans := .val (.int .i64 v1) }), (4, { ans := .val (.tup [.str v2.1, .int .i64 v2.2]), args := [.str x0, .int .i64 v1, .int .i64 v0.1] })], gs := [], keep := some ([1, 7, 8, 9], []) }), (5, { told := [], gs := [], keep := some ([1, 7, 8, 9, 28], []) })] 400 (ev := .cond (v2.2 != 0) c18x6 c18x7 [.seq c18x8]) (σ' := mkS 35 [(1, .int .i64 x1), (7, .int .i64 v0.1), (8, .int .i64 v2.2), (9, .str v2.1), (28, .bool (v2.2 != 0))] []) (q := [True ∧ (IntKind.wrap .i64 (x1 + (2 : Int)) = v1), True ∧ ((True ∧ (True ∧ (True ∧ True))) ∧ ([.str x0, .int .i64 v1, .int .i64 v0.1] : List D) = [.str x0, .int .i64 v1, .int .i64 v0.1] ∧ CallSpec Try.prog 24 [.str x0, .int .i64 v1, .int .i64 v0.1] (.tup [.str v2.1, .int .i64 v2.2]))]) (by kernel_rfl) ⟨⟨trivial, someE e1⟩, ⟨trivial, ⟨⟨trivial, ⟨trivial, ⟨trivial, trivial⟩⟩⟩, rfl, w24 e2⟩⟩, trivial⟩ ?_
    refine EvOk.cond (fun h1 => ?_) (fun h1 => ?_)
    · replace h := iteT h1 h
      refine At.gc [8] [] (n := 35) (l := [(8, .int .i64 v2.2)]) (bl := []) (by kernel_rfl) ?_
      refine At.adv [] [(6, { told := [], gs := [], keep := some ([4, 5, 6], []) })] 400 (ev := .ret) (σ' := mkS 35 [(4, .str []), (5, .int .i64 0), (6, .int .i64 v2.2)] []) (q := []) (by kernel_rfl) trivial ?_
      refine EvOk.ret ?_
      obtain rfl := someE h
      exact Den.Ends.mk (.inl rfl) (d := .tup [.str [], .int .i64 0, .int .i64 v2.2]) (p := (True ∧ (True ∧ (True ∧ True))) ∧ (True ∧ (True ∧ (True ∧ True)))) (by kernel_rfl) ⟨⟨trivial, ⟨trivial, ⟨trivial, trivial⟩⟩⟩, ⟨trivial, ⟨trivial, ⟨trivial, trivial⟩⟩⟩⟩ (by kernel_rfl)
    · replace h := iteF h1 h
      refine At.gc [1, 7, 9] [] (n := 35) (l := [(1, .int .i64 x1), (7, .int .i64 v0.1), (9, .str v2.1)]) (bl := []) (by kernel_rfl) ?_
      obtain ⟨v3, e3, h⟩ := bindE h
      obtain ⟨v4, e4, h⟩ := bindE h
      refine At.adv [] [(7, { told := [(2, { ans := .val (.int .i64 v3) }), (4, { ans := .val (.int .i64 v4) })], gs := [], keep := some ([4, 5, 6], []) })] 400 (ev := .ret) (σ' := mkS 35 [(4, .str v2.1), (5, .int .i64 v4), (6, .int .i64 0)] []) (q := [True ∧ (IntKind.wrap .i64 (x1 + (2 : Int)) = v3), True ∧ (IntKind.wrap .i64 (v3 + v0.1) = v4)]) (by kernel_rfl) ⟨⟨trivial, someE e3⟩, ⟨trivial, someE e4⟩, trivial⟩ ?_
      refine EvOk.ret ?_
      obtain rfl := someE h
      exact Den.Ends.mk (.inl rfl) (d := .tup [.str v2.1, .int .i64 v4, .int .i64 0]) (p := (True ∧ (True ∧ (True ∧ True))) ∧ (True ∧ (True ∧ (True ∧ True)))) (by kernel_rfl) ⟨⟨trivial, ⟨trivial, ⟨trivial, trivial⟩⟩⟩, ⟨trivial, ⟨trivial, ⟨trivial, trivial⟩⟩⟩⟩ (by kernel_rfl)
theorem w18 {x0 : List UInt8} {x1 : Int} {r : (List UInt8) × Int × Int} (h : m_octet_GetString x0 x1 = some r) : CallSpec Try.prog 18 [.str x0, .int .i64 x1] (.tup [.str r.1, .int .i64 r.2.1, .int .i64 r.2.2]) :=
  CallSpec.at2 b18 (n := 35) (l := [(0, .str x0), (1, .int .i64 x1)]) (by kernel_rfl) (by kernel_rfl) (by kernel_rfl) (by kernel_rfl) (by kernel_rfl) (Nat.le_of_ble_eq_true (by kernel_rfl)) (fun Γ => we18 x0 x1 r h Γ)

/-! ### armature armaturelaw02.awake -/
noncomputable def b11 : Code := Try.f11.body.getD .skip
def m_armaturelaw02_awake  : Option (Bool) :=
  (m_octet_Put 258 2).bind fun v0 =>
  (m_octet_Put (-1) 1).bind fun v1 =>
  (m_octet_Signed v1.1 0 1).bind fun v2 =>
  (m_octet_Unsigned v1.1 0 1).bind fun v3 =>
  (m_octet_GetString [120, 0, 1, 97, 98] 1).bind fun v4 =>
  if (v0.1 == ([1, 2] : List UInt8)) = true then (if (v0.2 == 0) = true then (if (v1.1 == ([255] : List UInt8)) = true then (if (v1.2 == 0) = true then (if (v2.1 == (-1)) = true then (if (v2.2 == 0) = true then (if (v3.1 == 255) = true then (if (v3.2 == 0) = true then (if (v4.1 == ([97] : List UInt8)) = true then (if (v4.2.1 == 4) = true then (some (v4.2.2 == 0)) else
  (some false)) else
  (some false)) else
  (some false)) else
  (some false)) else
  (some false)) else
  (some false)) else
  (some false)) else
  (some false)) else
  (some false)) else
  (some false)
theorem we11  (r : Bool) (h : m_armaturelaw02_awake = some r) (Γ : Ctx) : At Try.prog Γ b11 [] (Den.Ends Try.prog Try.f11 (.bool r)) (mkS 77 [] []) := by
  obtain ⟨v0, e0, h⟩ := bindE h
  obtain ⟨v1, e1, h⟩ := bindE h
  obtain ⟨v2, e2, h⟩ := bindE h
  obtain ⟨v3, e3, h⟩ := bindE h
  obtain ⟨v4, e4, h⟩ := bindE h
  rcases Bool.eq_false_or_eq_true (v0.1 == ([1, 2] : List UInt8)) with h0 | h0
  · replace h := iteT h0 h
    rcases Bool.eq_false_or_eq_true (v0.2 == 0) with h1 | h1
    · replace h := iteT h1 h
      rcases Bool.eq_false_or_eq_true (v1.1 == ([255] : List UInt8)) with h2 | h2
      · replace h := iteT h2 h
        rcases Bool.eq_false_or_eq_true (v1.2 == 0) with h3 | h3
        · replace h := iteT h3 h
          rcases Bool.eq_false_or_eq_true (v2.1 == (-1)) with h4 | h4
          · replace h := iteT h4 h
            rcases Bool.eq_false_or_eq_true (v2.2 == 0) with h5 | h5
            · replace h := iteT h5 h
              rcases Bool.eq_false_or_eq_true (v3.1 == 255) with h6 | h6
              · replace h := iteT h6 h
                rcases Bool.eq_false_or_eq_true (v3.2 == 0) with h7 | h7
                · replace h := iteT h7 h
                  rcases Bool.eq_false_or_eq_true (v4.1 == ([97] : List UInt8)) with h8 | h8
                  · replace h := iteT h8 h
                    rcases Bool.eq_false_or_eq_true (v4.2.1 == 4) with h9 | h9
                    · replace h := iteT h9 h
                      refine At.adv [] [(0, { told := [], gs := [], keep := some ([], []) }), (1, { told := [(0, { ans := .val (.tup [.str v0.1, .int .i64 v0.2]), args := [.int .i64 258, .int .i64 2] })], gs := [], keep := some ([1, 2], []) }), (2, { told := [(0, { ans := .val (.tup [.str v1.1, .int .i64 v1.2]), args := [.int .i64 (-1), .int .i64 1] })], gs := [], keep := some ([1, 2, 3, 4], []) }), (3, { told := [(1, { ans := .val (.tup [.int .i64 v2.1, .int .i64 v2.2]), args := [.str v1.1, .int .i64 0, .int .i64 1] })], gs := [], keep := some ([1, 2, 3, 4, 5, 6], []) }), (4, { told := [(1, { ans := .val (.tup [.int .i64 v3.1, .int .i64 v3.2]), args := [.str v1.1, .int .i64 0, .int .i64 1] })], gs := [], keep := some ([1, 2, 3, 4, 5, 6, 7, 8], []) }), (5, { told := [(0, { ans := .val (.tup [.str v4.1, .int .i64 v4.2.1, .int .i64 v4.2.2]), args := [.str [120, 0, 1, 97, 98], .int .i64 1] })], gs := [], keep := some ([1, 2, 3, 4, 5, 6, 7, 8, 9, 10, 11], []) }), (6, { told := [(5, { ans := .yes }), (9, { ans := .yes }), (13, { ans := .yes }), (17, { ans := .yes }), (21, { ans := .yes }), (25, { ans := .yes }), (29, { ans := .yes }), (33, { ans := .yes }), (37, { ans := .yes }), (41, { ans := .yes })], gs := [(3, true), (4, true), (7, true), (8, true), (11, true), (12, true), (15, true), (16, true), (19, true), (20, true), (23, true), (24, true), (27, true), (28, true), (31, true), (32, true), (35, true), (36, true), (39, true), (40, true)], keep := some ([0], []) })] 400 (ev := .ret) (σ' := mkS 77 [(0, .bool (v4.2.2 == 0))] []) (q := [True ∧ ((True ∧ (True ∧ True)) ∧ ([.int .i64 258, .int .i64 2] : List D) = [.int .i64 258, .int .i64 2] ∧ CallSpec Try.prog 9 [.int .i64 258, .int .i64 2] (.tup [.str v0.1, .int .i64 v0.2])), True ∧ ((True ∧ (True ∧ True)) ∧ ([.int .i64 (-1), .int .i64 1] : List D) = [.int .i64 (-1), .int .i64 1] ∧ CallSpec Try.prog 9 [.int .i64 (-1), .int .i64 1] (.tup [.str v1.1, .int .i64 v1.2])), True ∧ ((True ∧ (True ∧ (True ∧ True))) ∧ ([.str v1.1, .int .i64 0, .int .i64 1] : List D) = [.str v1.1, .int .i64 0, .int .i64 1] ∧ CallSpec Try.prog 14 [.str v1.1, .int .i64 0, .int .i64 1] (.tup [.int .i64 v2.1, .int .i64 v2.2])), True ∧ ((True ∧ (True ∧ (True ∧ True))) ∧ ([.str v1.1, .int .i64 0, .int .i64 1] : List D) = [.str v1.1, .int .i64 0, .int .i64 1] ∧ CallSpec Try.prog 12 [.str v1.1, .int .i64 0, .int .i64 1] (.tup [.int .i64 v3.1, .int .i64 v3.2])), True ∧ ((True ∧ (True ∧ True)) ∧ ([.str [120, 0, 1, 97, 98], .int .i64 1] : List D) = [.str [120, 0, 1, 97, 98], .int .i64 1] ∧ CallSpec Try.prog 18 [.str [120, 0, 1, 97, 98], .int .i64 1] (.tup [.str v4.1, .int .i64 v4.2.1, .int .i64 v4.2.2])), ((v0.1 == ([1, 2] : List UInt8)) == true) = true ∧ True, ((v0.1 == ([1, 2] : List UInt8)) == true) = true ∧ True, True ∧ ((v0.1 == ([1, 2] : List UInt8)) = true), ((v0.2 == 0) == true) = true ∧ True, ((v0.2 == 0) == true) = true ∧ True, True ∧ ((v0.2 == 0) = true), ((v1.1 == ([255] : List UInt8)) == true) = true ∧ True, ((v1.1 == ([255] : List UInt8)) == true) = true ∧ True, True ∧ ((v1.1 == ([255] : List UInt8)) = true), ((v1.2 == 0) == true) = true ∧ True, ((v1.2 == 0) == true) = true ∧ True, True ∧ ((v1.2 == 0) = true), ((v2.1 == (-1)) == true) = true ∧ True, ((v2.1 == (-1)) == true) = true ∧ True, True ∧ ((v2.1 == (-1)) = true), ((v2.2 == 0) == true) = true ∧ True, ((v2.2 == 0) == true) = true ∧ True, True ∧ ((v2.2 == 0) = true), ((v3.1 == 255) == true) = true ∧ True, ((v3.1 == 255) == true) = true ∧ True, True ∧ ((v3.1 == 255) = true), ((v3.2 == 0) == true) = true ∧ True, ((v3.2 == 0) == true) = true ∧ True, True ∧ ((v3.2 == 0) = true), ((v4.1 == ([97] : List UInt8)) == true) = true ∧ True, ((v4.1 == ([97] : List UInt8)) == true) = true ∧ True, True ∧ ((v4.1 == ([97] : List UInt8)) = true), ((v4.2.1 == 4) == true) = true ∧ True, ((v4.2.1 == 4) == true) = true ∧ True, True ∧ ((v4.2.1 == 4) = true)]) (by kernel_rfl) ⟨⟨trivial, ⟨⟨trivial, ⟨trivial, trivial⟩⟩, rfl, w9 e0⟩⟩, ⟨trivial, ⟨⟨trivial, ⟨trivial, trivial⟩⟩, rfl, w9 e1⟩⟩, ⟨trivial, ⟨⟨trivial, ⟨trivial, ⟨trivial, trivial⟩⟩⟩, rfl, w14 e2⟩⟩, ⟨trivial, ⟨⟨trivial, ⟨trivial, ⟨trivial, trivial⟩⟩⟩, rfl, w12 e3⟩⟩, ⟨trivial, ⟨⟨trivial, ⟨trivial, trivial⟩⟩, rfl, w18 e4⟩⟩, ⟨(gB h0 rfl), trivial⟩, ⟨(gB h0 rfl), trivial⟩, ⟨trivial, h0⟩, ⟨(gB h1 rfl), trivial⟩, ⟨(gB h1 rfl), trivial⟩, ⟨trivial, h1⟩, ⟨(gB h2 rfl), trivial⟩, ⟨(gB h2 rfl), trivial⟩, ⟨trivial, h2⟩, ⟨(gB h3 rfl), trivial⟩, ⟨(gB h3 rfl), trivial⟩, ⟨trivial, h3⟩, ⟨(gB h4 rfl), trivial⟩, ⟨(gB h4 rfl), trivial⟩, ⟨trivial, h4⟩, ⟨(gB h5 rfl), trivial⟩, ⟨(gB h5 rfl), trivial⟩, ⟨trivial, h5⟩, ⟨(gB h6 rfl), trivial⟩, ⟨(gB h6 rfl), trivial⟩, ⟨trivial, h6⟩, ⟨(gB h7 rfl), trivial⟩, ⟨(gB h7 rfl), trivial⟩, ⟨trivial, h7⟩, ⟨(gB h8 rfl), trivial⟩, ⟨(gB h8 rfl), trivial⟩, ⟨trivial, h8⟩, ⟨(gB h9 rfl), trivial⟩, ⟨(gB h9 rfl), trivial⟩, ⟨trivial, h9⟩, trivial⟩ ?_
                      refine EvOk.ret ?_
                      obtain rfl := someE h
                      exact Den.Ends.mk (.inl rfl) (d := .bool (v4.2.2 == 0)) (p := (True ∧ True) ∧ (True ∧ True)) (by kernel_rfl) ⟨⟨trivial, trivial⟩, ⟨trivial, trivial⟩⟩ (by kernel_rfl)
                    · replace h := iteF h9 h
                      refine At.adv [] [(0, { told := [], gs := [], keep := some ([], []) }), (1, { told := [(0, { ans := .val (.tup [.str v0.1, .int .i64 v0.2]), args := [.int .i64 258, .int .i64 2] })], gs := [], keep := some ([1, 2], []) }), (2, { told := [(0, { ans := .val (.tup [.str v1.1, .int .i64 v1.2]), args := [.int .i64 (-1), .int .i64 1] })], gs := [], keep := some ([1, 2, 3, 4], []) }), (3, { told := [(1, { ans := .val (.tup [.int .i64 v2.1, .int .i64 v2.2]), args := [.str v1.1, .int .i64 0, .int .i64 1] })], gs := [], keep := some ([1, 2, 3, 4, 5, 6], []) }), (4, { told := [(1, { ans := .val (.tup [.int .i64 v3.1, .int .i64 v3.2]), args := [.str v1.1, .int .i64 0, .int .i64 1] })], gs := [], keep := some ([1, 2, 3, 4, 5, 6, 7, 8], []) }), (5, { told := [(0, { ans := .val (.tup [.str v4.1, .int .i64 v4.2.1, .int .i64 v4.2.2]), args := [.str [120, 0, 1, 97, 98], .int .i64 1] })], gs := [], keep := some ([1, 2, 3, 4, 5, 6, 7, 8, 9, 10, 11], []) }), (6, { told := [(5, { ans := .yes }), (9, { ans := .yes }), (13, { ans := .yes }), (17, { ans := .yes }), (21, { ans := .yes }), (25, { ans := .yes }), (29, { ans := .yes }), (33, { ans := .yes }), (37, { ans := .yes }), (41, { ans := .no })], gs := [(3, true), (4, true), (7, true), (8, true), (11, true), (12, true), (15, true), (16, true), (19, true), (20, true), (23, true), (24, true), (27, true), (28, true), (31, true), (32, true), (35, true), (36, true), (39, false), (40, false)], keep := some ([0], []) })] 400 (ev := .ret) (σ' := mkS 77 [(0, .bool false)] []) (q := [True ∧ ((True ∧ (True ∧ True)) ∧ ([.int .i64 258, .int .i64 2] : List D) = [.int .i64 258, .int .i64 2] ∧ CallSpec Try.prog 9 [.int .i64 258, .int .i64 2] (.tup [.str v0.1, .int .i64 v0.2])), True ∧ ((True ∧ (True ∧ True)) ∧ ([.int .i64 (-1), .int .i64 1] : List D) = [.int .i64 (-1), .int .i64 1] ∧ CallSpec Try.prog 9 [.int .i64 (-1), .int .i64 1] (.tup [.str v1.1, .int .i64 v1.2])), True ∧ ((True ∧ (True ∧ (True ∧ True))) ∧ ([.str v1.1, .int .i64 0, .int .i64 1] : List D) = [.str v1.1, .int .i64 0, .int .i64 1] ∧ CallSpec Try.prog 14 [.str v1.1, .int .i64 0, .int .i64 1] (.tup [.int .i64 v2.1, .int .i64 v2.2])), True ∧ ((True ∧ (True ∧ (True ∧ True))) ∧ ([.str v1.1, .int .i64 0, .int .i64 1] : List D) = [.str v1.1, .int .i64 0, .int .i64 1] ∧ CallSpec Try.prog 12 [.str v1.1, .int .i64 0, .int .i64 1] (.tup [.int .i64 v3.1, .int .i64 v3.2])), True ∧ ((True ∧ (True ∧ True)) ∧ ([.str [120, 0, 1, 97, 98], .int .i64 1] : List D) = [.str [120, 0, 1, 97, 98], .int .i64 1] ∧ CallSpec Try.prog 18 [.str [120, 0, 1, 97, 98], .int .i64 1] (.tup [.str v4.1, .int .i64 v4.2.1, .int .i64 v4.2.2])), ((v0.1 == ([1, 2] : List UInt8)) == true) = true ∧ True, ((v0.1 == ([1, 2] : List UInt8)) == true) = true ∧ True, True ∧ ((v0.1 == ([1, 2] : List UInt8)) = true), ((v0.2 == 0) == true) = true ∧ True, ((v0.2 == 0) == true) = true ∧ True, True ∧ ((v0.2 == 0) = true), ((v1.1 == ([255] : List UInt8)) == true) = true ∧ True, ((v1.1 == ([255] : List UInt8)) == true) = true ∧ True, True ∧ ((v1.1 == ([255] : List UInt8)) = true), ((v1.2 == 0) == true) = true ∧ True, ((v1.2 == 0) == true) = true ∧ True, True ∧ ((v1.2 == 0) = true), ((v2.1 == (-1)) == true) = true ∧ True, ((v2.1 == (-1)) == true) = true ∧ True, True ∧ ((v2.1 == (-1)) = true), ((v2.2 == 0) == true) = true ∧ True, ((v2.2 == 0) == true) = true ∧ True, True ∧ ((v2.2 == 0) = true), ((v3.1 == 255) == true) = true ∧ True, ((v3.1 == 255) == true) = true ∧ True, True ∧ ((v3.1 == 255) = true), ((v3.2 == 0) == true) = true ∧ True, ((v3.2 == 0) == true) = true ∧ True, True ∧ ((v3.2 == 0) = true), ((v4.1 == ([97] : List UInt8)) == true) = true ∧ True, ((v4.1 == ([97] : List UInt8)) == true) = true ∧ True, True ∧ ((v4.1 == ([97] : List UInt8)) = true), ((v4.2.1 == 4) == true) = false, ((v4.2.1 == 4) == true) = false, True ∧ ((v4.2.1 == 4) = false)]) (by kernel_rfl) ⟨⟨trivial, ⟨⟨trivial, ⟨trivial, trivial⟩⟩, rfl, w9 e0⟩⟩, ⟨trivial, ⟨⟨trivial, ⟨trivial, trivial⟩⟩, rfl, w9 e1⟩⟩, ⟨trivial, ⟨⟨trivial, ⟨trivial, ⟨trivial, trivial⟩⟩⟩, rfl, w14 e2⟩⟩, ⟨trivial, ⟨⟨trivial, ⟨trivial, ⟨trivial, trivial⟩⟩⟩, rfl, w12 e3⟩⟩, ⟨trivial, ⟨⟨trivial, ⟨trivial, trivial⟩⟩, rfl, w18 e4⟩⟩, ⟨(gB h0 rfl), trivial⟩, ⟨(gB h0 rfl), trivial⟩, ⟨trivial, h0⟩, ⟨(gB h1 rfl), trivial⟩, ⟨(gB h1 rfl), trivial⟩, ⟨trivial, h1⟩, ⟨(gB h2 rfl), trivial⟩, ⟨(gB h2 rfl), trivial⟩, ⟨trivial, h2⟩, ⟨(gB h3 rfl), trivial⟩, ⟨(gB h3 rfl), trivial⟩, ⟨trivial, h3⟩, ⟨(gB h4 rfl), trivial⟩, ⟨(gB h4 rfl), trivial⟩, ⟨trivial, h4⟩, ⟨(gB h5 rfl), trivial⟩, ⟨(gB h5 rfl), trivial⟩, ⟨trivial, h5⟩, ⟨(gB h6 rfl), trivial⟩, ⟨(gB h6 rfl), trivial⟩, ⟨trivial, h6⟩, ⟨(gB h7 rfl), trivial⟩, ⟨(gB h7 rfl), trivial⟩, ⟨trivial, h7⟩, ⟨(gB h8 rfl), trivial⟩, ⟨(gB h8 rfl), trivial⟩, ⟨trivial, h8⟩, gB h9 rfl, gB h9 rfl, ⟨trivial, h9⟩, trivial⟩ ?_
                      refine EvOk.ret ?_
                      obtain rfl := someE h
                      exact Den.Ends.mk (.inl rfl) (d := .bool false) (p := (True ∧ True) ∧ (True ∧ True)) (by kernel_rfl) ⟨⟨trivial, trivial⟩, ⟨trivial, trivial⟩⟩ (by kernel_rfl)
                  · replace h := iteF h8 h
                    refine At.adv [] [(0, { told := [], gs := [], keep := some ([], []) }), (1, { told := [(0, { ans := .val (.tup [.str v0.1, .int .i64 v0.2]), args := [.int .i64 258, .int .i64 2] })], gs := [], keep := some ([1, 2], []) }), (2, { told := [(0, { ans := .val (.tup [.str v1.1, .int .i64 v1.2]), args := [.int .i64 (-1), .int .i64 1] })], gs := [], keep := some ([1, 2, 3, 4], []) }), (3, { told := [(1, { ans := .val (.tup [.int .i64 v2.1, .int .i64 v2.2]), args := [.str v1.1, .int .i64 0, .int .i64 1] })], gs := [], keep := some ([1, 2, 3, 4, 5, 6], []) }), (4, { told := [(1, { ans := .val (.tup [.int .i64 v3.1, .int .i64 v3.2]), args := [.str v1.1, .int .i64 0, .int .i64 1] })], gs := [], keep := some ([1, 2, 3, 4, 5, 6, 7, 8], []) }), (5, { told := [(0, { ans := .val (.tup [.str v4.1, .int .i64 v4.2.1, .int .i64 v4.2.2]), args := [.str [120, 0, 1, 97, 98], .int .i64 1] })], gs := [], keep := some ([1, 2, 3, 4, 5, 6, 7, 8, 9, 10, 11], []) }), (6, { told := [(5, { ans := .yes }), (9, { ans := .yes }), (13, { ans := .yes }), (17, { ans := .yes }), (21, { ans := .yes }), (25, { ans := .yes }), (29, { ans := .yes }), (33, { ans := .yes }), (37, { ans := .no })], gs := [(3, true), (4, true), (7, true), (8, true), (11, true), (12, true), (15, true), (16, true), (19, true), (20, true), (23, true), (24, true), (27, true), (28, true), (31, true), (32, true), (35, false), (36, false)], keep := some ([0], []) })] 400 (ev := .ret) (σ' := mkS 77 [(0, .bool false)] []) (q := [True ∧ ((True ∧ (True ∧ True)) ∧ ([.int .i64 258, .int .i64 2] : List D) = [.int .i64 258, .int .i64 2] ∧ CallSpec Try.prog 9 [.int .i64 258, .int .i64 2] (.tup [.str v0.1, .int .i64 v0.2])), True ∧ ((True ∧ (True ∧ True)) ∧ ([.int .i64 (-1), .int .i64 1] : List D) = [.int .i64 (-1), .int .i64 1] ∧ CallSpec Try.prog 9 [.int .i64 (-1), .int .i64 1] (.tup [.str v1.1, .int .i64 v1.2])), True ∧ ((True ∧ (True ∧ (True ∧ True))) ∧ ([.str v1.1, .int .i64 0, .int .i64 1] : List D) = [.str v1.1, .int .i64 0, .int .i64 1] ∧ CallSpec Try.prog 14 [.str v1.1, .int .i64 0, .int .i64 1] (.tup [.int .i64 v2.1, .int .i64 v2.2])), True ∧ ((True ∧ (True ∧ (True ∧ True))) ∧ ([.str v1.1, .int .i64 0, .int .i64 1] : List D) = [.str v1.1, .int .i64 0, .int .i64 1] ∧ CallSpec Try.prog 12 [.str v1.1, .int .i64 0, .int .i64 1] (.tup [.int .i64 v3.1, .int .i64 v3.2])), True ∧ ((True ∧ (True ∧ True)) ∧ ([.str [120, 0, 1, 97, 98], .int .i64 1] : List D) = [.str [120, 0, 1, 97, 98], .int .i64 1] ∧ CallSpec Try.prog 18 [.str [120, 0, 1, 97, 98], .int .i64 1] (.tup [.str v4.1, .int .i64 v4.2.1, .int .i64 v4.2.2])), ((v0.1 == ([1, 2] : List UInt8)) == true) = true ∧ True, ((v0.1 == ([1, 2] : List UInt8)) == true) = true ∧ True, True ∧ ((v0.1 == ([1, 2] : List UInt8)) = true), ((v0.2 == 0) == true) = true ∧ True, ((v0.2 == 0) == true) = true ∧ True, True ∧ ((v0.2 == 0) = true), ((v1.1 == ([255] : List UInt8)) == true) = true ∧ True, ((v1.1 == ([255] : List UInt8)) == true) = true ∧ True, True ∧ ((v1.1 == ([255] : List UInt8)) = true), ((v1.2 == 0) == true) = true ∧ True, ((v1.2 == 0) == true) = true ∧ True, True ∧ ((v1.2 == 0) = true), ((v2.1 == (-1)) == true) = true ∧ True, ((v2.1 == (-1)) == true) = true ∧ True, True ∧ ((v2.1 == (-1)) = true), ((v2.2 == 0) == true) = true ∧ True, ((v2.2 == 0) == true) = true ∧ True, True ∧ ((v2.2 == 0) = true), ((v3.1 == 255) == true) = true ∧ True, ((v3.1 == 255) == true) = true ∧ True, True ∧ ((v3.1 == 255) = true), ((v3.2 == 0) == true) = true ∧ True, ((v3.2 == 0) == true) = true ∧ True, True ∧ ((v3.2 == 0) = true), ((v4.1 == ([97] : List UInt8)) == true) = false, ((v4.1 == ([97] : List UInt8)) == true) = false, True ∧ ((v4.1 == ([97] : List UInt8)) = false), True, True]) (by kernel_rfl) ⟨⟨trivial, ⟨⟨trivial, ⟨trivial, trivial⟩⟩, rfl, w9 e0⟩⟩, ⟨trivial, ⟨⟨trivial, ⟨trivial, trivial⟩⟩, rfl, w9 e1⟩⟩, ⟨trivial, ⟨⟨trivial, ⟨trivial, ⟨trivial, trivial⟩⟩⟩, rfl, w14 e2⟩⟩, ⟨trivial, ⟨⟨trivial, ⟨trivial, ⟨trivial, trivial⟩⟩⟩, rfl, w12 e3⟩⟩, ⟨trivial, ⟨⟨trivial, ⟨trivial, trivial⟩⟩, rfl, w18 e4⟩⟩, ⟨(gB h0 rfl), trivial⟩, ⟨(gB h0 rfl), trivial⟩, ⟨trivial, h0⟩, ⟨(gB h1 rfl), trivial⟩, ⟨(gB h1 rfl), trivial⟩, ⟨trivial, h1⟩, ⟨(gB h2 rfl), trivial⟩, ⟨(gB h2 rfl), trivial⟩, ⟨trivial, h2⟩, ⟨(gB h3 rfl), trivial⟩, ⟨(gB h3 rfl), trivial⟩, ⟨trivial, h3⟩, ⟨(gB h4 rfl), trivial⟩, ⟨(gB h4 rfl), trivial⟩, ⟨trivial, h4⟩, ⟨(gB h5 rfl), trivial⟩, ⟨(gB h5 rfl), trivial⟩, ⟨trivial, h5⟩, ⟨(gB h6 rfl), trivial⟩, ⟨(gB h6 rfl), trivial⟩, ⟨trivial, h6⟩, ⟨(gB h7 rfl), trivial⟩, ⟨(gB h7 rfl), trivial⟩, ⟨trivial, h7⟩, gB h8 rfl, gB h8 rfl, ⟨trivial, h8⟩, trivial, trivial, trivial⟩ ?_
                    refine EvOk.ret ?_
                    obtain rfl := someE h
                    exact Den.Ends.mk (.inl rfl) (d := .bool false) (p := (True ∧ True) ∧ (True ∧ True)) (by kernel_rfl) ⟨⟨trivial, trivial⟩, ⟨trivial, trivial⟩⟩ (by kernel_rfl)
                · replace h := iteF h7 h
                  refine At.adv [] [(0, { told := [], gs := [], keep := some ([], []) }), (1, { told := [(0, { ans := .val (.tup [.str v0.1, .int .i64 v0.2]), args := [.int .i64 258, .int .i64 2] })], gs := [], keep := some ([1, 2], []) }), (2, { told := [(0, { ans := .val (.tup [.str v1.1, .int .i64 v1.2]), args := [.int .i64 (-1), .int .i64 1] })], gs := [], keep := some ([1, 2, 3, 4], []) }), (3, { told := [(1, { ans := .val (.tup [.int .i64 v2.1, .int .i64 v2.2]), args := [.str v1.1, .int .i64 0, .int .i64 1] })], gs := [], keep := some ([1, 2, 3, 4, 5, 6], []) }), (4, { told := [(1, { ans := .val (.tup [.int .i64 v3.1, .int .i64 v3.2]), args := [.str v1.1, .int .i64 0, .int .i64 1] })], gs := [], keep := some ([1, 2, 3, 4, 5, 6, 7, 8], []) }), (5, { told := [(0, { ans := .val (.tup [.str v4.1, .int .i64 v4.2.1, .int .i64 v4.2.2]), args := [.str [120, 0, 1, 97, 98], .int .i64 1] })], gs := [], keep := some ([1, 2, 3, 4, 5, 6, 7, 8, 9, 10, 11], []) }), (6, { told := [(5, { ans := .yes }), (9, { ans := .yes }), (13, { ans := .yes }), (17, { ans := .yes }), (21, { ans := .yes }), (25, { ans := .yes }), (29, { ans := .yes }), (33, { ans := .no })], gs := [(3, true), (4, true), (7, true), (8, true), (11, true), (12, true), (15, true), (16, true), (19, true), (20, true), (23, true), (24, true), (27, true), (28, true), (31, false), (32, false)], keep := some ([0], []) })] 400 (ev := .ret) (σ' := mkS 77 [(0, .bool false)] []) (q := [True ∧ ((True ∧ (True ∧ True)) ∧ ([.int .i64 258, .int .i64 2] : List D) = [.int .i64 258, .int .i64 2] ∧ CallSpec Try.prog 9 [.int .i64 258, .int .i64 2] (.tup [.str v0.1, .int .i64 v0.2])), True ∧ ((True ∧ (True ∧ True)) ∧ ([.int .i64 (-1), .int .i64 1] : List D) = [.int .i64 (-1), .int .i64 1] ∧ CallSpec Try.prog 9 [.int .i64 (-1), .int .i64 1] (.tup [.str v1.1, .int .i64 v1.2])), True ∧ ((True ∧ (True ∧ (True ∧ True))) ∧ ([.str v1.1, .int .i64 0, .int .i64 1] : List D) = [.str v1.1, .int .i64 0, .int .i64 1] ∧ CallSpec Try.prog 14 [.str v1.1, .int .i64 0, .int .i64 1] (.tup [.int .i64 v2.1, .int .i64 v2.2])), True ∧ ((True ∧ (True ∧ (True ∧ True))) ∧ ([.str v1.1, .int .i64 0, .int .i64 1] : List D) = [.str v1.1, .int .i64 0, .int .i64 1] ∧ CallSpec Try.prog 12 [.str v1.1, .int .i64 0, .int .i64 1] (.tup [.int .i64 v3.1, .int .i64 v3.2])), True ∧ ((True ∧ (True ∧ True)) ∧ ([.str [120, 0, 1, 97, 98], .int .i64 1] : List D) = [.str [120, 0, 1, 97, 98], .int .i64 1] ∧ CallSpec Try.prog 18 [.str [120, 0, 1, 97, 98], .int .i64 1] (.tup [.str v4.1, .int .i64 v4.2.1, .int .i64 v4.2.2])), ((v0.1 == ([1, 2] : List UInt8)) == true) = true ∧ True, ((v0.1 == ([1, 2] : List UInt8)) == true) = true ∧ True, True ∧ ((v0.1 == ([1, 2] : List UInt8)) = true), ((v0.2 == 0) == true) = true ∧ True, ((v0.2 == 0) == true) = true ∧ True, True ∧ ((v0.2 == 0) = true), ((v1.1 == ([255] : List UInt8)) == true) = true ∧ True, ((v1.1 == ([255] : List UInt8)) == true) = true ∧ True, True ∧ ((v1.1 == ([255] : List UInt8)) = true), ((v1.2 == 0) == true) = true ∧ True, ((v1.2 == 0) == true) = true ∧ True, True ∧ ((v1.2 == 0) = true), ((v2.1 == (-1)) == true) = true ∧ True, ((v2.1 == (-1)) == true) = true ∧ True, True ∧ ((v2.1 == (-1)) = true), ((v2.2 == 0) == true) = true ∧ True, ((v2.2 == 0) == true) = true ∧ True, True ∧ ((v2.2 == 0) = true), ((v3.1 == 255) == true) = true ∧ True, ((v3.1 == 255) == true) = true ∧ True, True ∧ ((v3.1 == 255) = true), ((v3.2 == 0) == true) = false, ((v3.2 == 0) == true) = false, True ∧ ((v3.2 == 0) = false), True, True, True, True]) (by kernel_rfl) ⟨⟨trivial, ⟨⟨trivial, ⟨trivial, trivial⟩⟩, rfl, w9 e0⟩⟩, ⟨trivial, ⟨⟨trivial, ⟨trivial, trivial⟩⟩, rfl, w9 e1⟩⟩, ⟨trivial, ⟨⟨trivial, ⟨trivial, ⟨trivial, trivial⟩⟩⟩, rfl, w14 e2⟩⟩, ⟨trivial, ⟨⟨trivial, ⟨trivial, ⟨trivial, trivial⟩⟩⟩, rfl, w12 e3⟩⟩, ⟨trivial, ⟨⟨trivial, ⟨trivial, trivial⟩⟩, rfl, w18 e4⟩⟩, ⟨(gB h0 rfl), trivial⟩, ⟨(gB h0 rfl), trivial⟩, ⟨trivial, h0⟩, ⟨(gB h1 rfl), trivial⟩, ⟨(gB h1 rfl), trivial⟩, ⟨trivial, h1⟩, ⟨(gB h2 rfl), trivial⟩, ⟨(gB h2 rfl), trivial⟩, ⟨trivial, h2⟩, ⟨(gB h3 rfl), trivial⟩, ⟨(gB h3 rfl), trivial⟩, ⟨trivial, h3⟩, ⟨(gB h4 rfl), trivial⟩, ⟨(gB h4 rfl), trivial⟩, ⟨trivial, h4⟩, ⟨(gB h5 rfl), trivial⟩, ⟨(gB h5 rfl), trivial⟩, ⟨trivial, h5⟩, ⟨(gB h6 rfl), trivial⟩, ⟨(gB h6 rfl), trivial⟩, ⟨trivial, h6⟩, gB h7 rfl, gB h7 rfl, ⟨trivial, h7⟩, trivial, trivial, trivial, trivial, trivial⟩ ?_
                  refine EvOk.ret ?_
                  obtain rfl := someE h
                  exact Den.Ends.mk (.inl rfl) (d := .bool false) (p := (True ∧ True) ∧ (True ∧ True)) (by kernel_rfl) ⟨⟨trivial, trivial⟩, ⟨trivial, trivial⟩⟩ (by kernel_rfl)
              · replace h := iteF h6 h
                refine At.adv [] [(0, { told := [], gs := [], keep := some ([], []) }), (1, { told := [(0, { ans := .val (.tup [.str v0.1, .int .i64 v0.2]), args := [.int .i64 258, .int .i64 2] })], gs := [], keep := some ([1, 2], []) }), (2, { told := [(0, { ans := .val (.tup [.str v1.1, .int .i64 v1.2]), args := [.int .i64 (-1), .int .i64 1] })], gs := [], keep := some ([1, 2, 3, 4], []) }), (3, { told := [(1, { ans := .val (.tup [.int .i64 v2.1, .int .i64 v2.2]), args := [.str v1.1, .int .i64 0, .int .i64 1] })], gs := [], keep := some ([1, 2, 3, 4, 5, 6], []) }), (4, { told := [(1, { ans := .val (.tup [.int .i64 v3.1, .int .i64 v3.2]), args := [.str v1.1, .int .i64 0, .int .i64 1] })], gs := [], keep := some ([1, 2, 3, 4, 5, 6, 7, 8], []) }), (5, { told := [(0, { ans := .val (.tup [.str v4.1, .int .i64 v4.2.1, .int .i64 v4.2.2]), args := [.str [120, 0, 1, 97, 98], .int .i64 1] })], gs := [], keep := some ([1, 2, 3, 4, 5, 6, 7, 8, 9, 10, 11], []) }), (6, { told := [(5, { ans := .yes }), (9, { ans := .yes }), (13, { ans := .yes }), (17, { ans := .yes }), (21, { ans := .yes }), (25, { ans := .yes }), (29, { ans := .no })], gs := [(3, true), (4, true), (7, true), (8, true), (11, true), (12, true), (15, true), (16, true), (19, true), (20, true), (23, true), (24, true), (27, false), (28, false)], keep := some ([0], []) })] 400 (ev := .ret) (σ' := mkS 77 [(0, .bool false)] []) (q := [True ∧ ((True ∧ (True ∧ True)) ∧ ([.int .i64 258, .int .i64 2] : List D) = [.int .i64 258, .int .i64 2] ∧ CallSpec Try.prog 9 [.int .i64 258, .int .i64 2] (.tup [.str v0.1, .int .i64 v0.2])), True ∧ ((True ∧ (True ∧ True)) ∧ ([.int .i64 (-1), .int .i64 1] : List D) = [.int .i64 (-1), .int .i64 1] ∧ CallSpec Try.prog 9 [.int .i64 (-1), .int .i64 1] (.tup [.str v1.1, .int .i64 v1.2])), True ∧ ((True ∧ (True ∧ (True ∧ True))) ∧ ([.str v1.1, .int .i64 0, .int .i64 1] : List D) = [.str v1.1, .int .i64 0, .int .i64 1] ∧ CallSpec Try.prog 14 [.str v1.1, .int .i64 0, .int .i64 1] (.tup [.int .i64 v2.1, .int .i64 v2.2])), True ∧ ((True ∧ (True ∧ (True ∧ True))) ∧ ([.str v1.1, .int .i64 0, .int .i64 1] : List D) = [.str v1.1, .int .i64 0, .int .i64 1] ∧ CallSpec Try.prog 12 [.str v1.1, .int .i64 0, .int .i64 1] (.tup [.int .i64 v3.1, .int .i64 v3.2])), True ∧ ((True ∧ (True ∧ True)) ∧ ([.str [120, 0, 1, 97, 98], .int .i64 1] : List D) = [.str [120, 0, 1, 97, 98], .int .i64 1] ∧ CallSpec Try.prog 18 [.str [120, 0, 1, 97, 98], .int .i64 1] (.tup [.str v4.1, .int .i64 v4.2.1, .int .i64 v4.2.2])), ((v0.1 == ([1, 2] : List UInt8)) == true) = true ∧ True, ((v0.1 == ([1, 2] : List UInt8)) == true) = true ∧ True, True ∧ ((v0.1 == ([1, 2] : List UInt8)) = true), ((v0.2 == 0) == true) = true ∧ True, ((v0.2 == 0) == true) = true ∧ True, True ∧ ((v0.2 == 0) = true), ((v1.1 == ([255] : List UInt8)) == true) = true ∧ True, ((v1.1 == ([255] : List UInt8)) == true) = true ∧ True, True ∧ ((v1.1 == ([255] : List UInt8)) = true), ((v1.2 == 0) == true) = true ∧ True, ((v1.2 == 0) == true) = true ∧ True, True ∧ ((v1.2 == 0) = true), ((v2.1 == (-1)) == true) = true ∧ True, ((v2.1 == (-1)) == true) = true ∧ True, True ∧ ((v2.1 == (-1)) = true), ((v2.2 == 0) == true) = true ∧ True, ((v2.2 == 0) == true) = true ∧ True, True ∧ ((v2.2 == 0) = true), ((v3.1 == 255) == true) = false, ((v3.1 == 255) == true) = false, True ∧ ((v3.1 == 255) = false), True, True, True, True, True, True]) (by kernel_rfl) ⟨⟨trivial, ⟨⟨trivial, ⟨trivial, trivial⟩⟩, rfl, w9 e0⟩⟩, ⟨trivial, ⟨⟨trivial, ⟨trivial, trivial⟩⟩, rfl, w9 e1⟩⟩, ⟨trivial, ⟨⟨trivial, ⟨trivial, ⟨trivial, trivial⟩⟩⟩, rfl, w14 e2⟩⟩, ⟨trivial, ⟨⟨trivial, ⟨trivial, ⟨trivial, trivial⟩⟩⟩, rfl, w12 e3⟩⟩, ⟨trivial, ⟨⟨trivial, ⟨trivial, trivial⟩⟩, rfl, w18 e4⟩⟩, ⟨(gB h0 rfl), trivial⟩, ⟨(gB h0 rfl), trivial⟩, ⟨trivial, h0⟩, ⟨(gB h1 rfl), trivial⟩, ⟨(gB h1 rfl), trivial⟩, ⟨trivial, h1⟩, ⟨(gB h2 rfl), trivial⟩, ⟨(gB h2 rfl), trivial⟩, ⟨trivial, h2⟩, ⟨(gB h3 rfl), trivial⟩, ⟨(gB h3 rfl), trivial⟩, ⟨trivial, h3⟩, ⟨(gB h4 rfl), trivial⟩, ⟨(gB h4 rfl), trivial⟩, ⟨trivial, h4⟩, ⟨(gB h5 rfl), trivial⟩, ⟨(gB h5 rfl), trivial⟩, ⟨trivial, h5⟩, gB h6 rfl, gB h6 rfl, ⟨trivial, h6⟩, trivial, trivial, trivial, trivial, trivial, trivial, trivial⟩ ?_
                refine EvOk.ret ?_
                obtain rfl := someE h
                exact Den.Ends.mk (.inl rfl) (d := .bool false) (p := (True ∧ True) ∧ (True ∧ True)) (by kernel_rfl) ⟨⟨trivial, trivial⟩, ⟨trivial, trivial⟩⟩ (by kernel_rfl)
            · replace h := iteF h5 h
              refine At.adv [] [(0, { told := [], gs := [], keep := some ([], []) }), (1, { told := [(0, { ans := .val (.tup [.str v0.1, .int .i64 v0.2]), args := [.int .i64 258, .int .i64 2] })], gs := [], keep := some ([1, 2], []) }), (2, { told := [(0, { ans := .val (.tup [.str v1.1, .int .i64 v1.2]), args := [.int .i64 (-1), .int .i64 1] })], gs := [], keep := some ([1, 2, 3, 4], []) }), (3, { told := [(1, { ans := .val (.tup [.int .i64 v2.1, .int .i64 v2.2]), args := [.str v1.1, .int .i64 0, .int .i64 1] })], gs := [], keep := some ([1, 2, 3, 4, 5, 6], []) }), (4, { told := [(1, { ans := .val (.tup [.int .i64 v3.1, .int .i64 v3.2]), args := [.str v1.1, .int .i64 0, .int .i64 1] })], gs := [], keep := some ([1, 2, 3, 4, 5, 6, 7, 8], []) }), (5, { told := [(0, { ans := .val (.tup [.str v4.1, .int .i64 v4.2.1, .int .i64 v4.2.2]), args := [.str [120, 0, 1, 97, 98], .int .i64 1] })], gs := [], keep := some ([1, 2, 3, 4, 5, 6, 7, 8, 9, 10, 11], []) }), (6, { told := [(5, { ans := .yes }), (9, { ans := .yes }), (13, { ans := .yes }), (17, { ans := .yes }), (21, { ans := .yes }), (25, { ans := .no })], gs := [(3, true), (4, true), (7, true), (8, true), (11, true), (12, true), (15, true), (16, true), (19, true), (20, true), (23, false), (24, false)], keep := some ([0], []) })] 400 (ev := .ret) (σ' := mkS 77 [(0, .bool false)] []) (q := [True ∧ ((True ∧ (True ∧ True)) ∧ ([.int .i64 258, .int .i64 2] : List D) = [.int .i64 258, .int .i64 2] ∧ CallSpec Try.prog 9 [.int .i64 258, .int .i64 2] (.tup [.str v0.1, .int .i64 v0.2])), True ∧ ((True ∧ (True ∧ True)) ∧ ([.int .i64 (-1), .int .i64 1] : List D) = [.int .i64 (-1), .int .i64 1] ∧ CallSpec Try.prog 9 [.int .i64 (-1), .int .i64 1] (.tup [.str v1.1, .int .i64 v1.2])), True ∧ ((True ∧ (True ∧ (True ∧ True))) ∧ ([.str v1.1, .int .i64 0, .int .i64 1] : List D) = [.str v1.1, .int .i64 0, .int .i64 1] ∧ CallSpec Try.prog 14 [.str v1.1, .int .i64 0, .int .i64 1] (.tup [.int .i64 v2.1, .int .i64 v2.2])), True ∧ ((True ∧ (True ∧ (True ∧ True))) ∧ ([.str v1.1, .int .i64 0, .int .i64 1] : List D) = [.str v1.1, .int .i64 0, .int .i64 1] ∧ CallSpec Try.prog 12 [.str v1.1, .int .i64 0, .int .i64 1] (.tup [.int .i64 v3.1, .int .i64 v3.2])), True ∧ ((True ∧ (True ∧ True)) ∧ ([.str [120, 0, 1, 97, 98], .int .i64 1] : List D) = [.str [120, 0, 1, 97, 98], .int .i64 1] ∧ CallSpec Try.prog 18 [.str [120, 0, 1, 97, 98], .int .i64 1] (.tup [.str v4.1, .int .i64 v4.2.1, .int .i64 v4.2.2])), ((v0.1 == ([1, 2] : List UInt8)) == true) = true ∧ True, ((v0.1 == ([1, 2] : List UInt8)) == true) = true ∧ True, True ∧ ((v0.1 == ([1, 2] : List UInt8)) = true), ((v0.2 == 0) == true) = true ∧ True, ((v0.2 == 0) == true) = true ∧ True, True ∧ ((v0.2 == 0) = true), ((v1.1 == ([255] : List UInt8)) == true) = true ∧ True, ((v1.1 == ([255] : List UInt8)) == true) = true ∧ True, True ∧ ((v1.1 == ([255] : List UInt8)) = true), ((v1.2 == 0) == true) = true ∧ True, ((v1.2 == 0) == true) = true ∧ True, True ∧ ((v1.2 == 0) = true), ((v2.1 == (-1)) == true) = true ∧ True, ((v2.1 == (-1)) == true) = true ∧ True, True ∧ ((v2.1 == (-1)) = true), ((v2.2 == 0) == true) = false, ((v2.2 == 0) == true) = false, True ∧ ((v2.2 == 0) = false), True, True, True, True, True, True, True, True]) (by kernel_rfl) ⟨⟨trivial, ⟨⟨trivial, ⟨trivial, trivial⟩⟩, rfl, w9 e0⟩⟩, ⟨trivial, ⟨⟨trivial, ⟨trivial, trivial⟩⟩, rfl, w9 e1⟩⟩, ⟨trivial, ⟨⟨trivial, ⟨trivial, ⟨trivial, trivial⟩⟩⟩, rfl, w14 e2⟩⟩, ⟨trivial, ⟨⟨trivial, ⟨trivial, ⟨trivial, trivial⟩⟩⟩, rfl, w12 e3⟩⟩, ⟨trivial, ⟨⟨trivial, ⟨trivial, trivial⟩⟩, rfl, w18 e4⟩⟩, ⟨(gB h0 rfl), trivial⟩, ⟨(gB h0 rfl), trivial⟩, ⟨trivial, h0⟩, ⟨(gB h1 rfl), trivial⟩, ⟨(gB h1 rfl), trivial⟩, ⟨trivial, h1⟩, ⟨(gB h2 rfl), trivial⟩, ⟨(gB h2 rfl), trivial⟩, ⟨trivial, h2⟩, ⟨(gB h3 rfl), trivial⟩, ⟨(gB h3 rfl), trivial⟩, ⟨trivial, h3⟩, ⟨(gB h4 rfl), trivial⟩, ⟨(gB h4 rfl), trivial⟩, ⟨trivial, h4⟩, gB h5 rfl, gB h5 rfl, ⟨trivial, h5⟩, trivial, trivial, trivial, trivial, trivial, trivial, trivial, trivial, trivial⟩ ?_
              refine EvOk.ret ?_
              obtain rfl := someE h
              exact Den.Ends.mk (.inl rfl) (d := .bool false) (p := (True ∧ True) ∧ (True ∧ True)) (by kernel_rfl) ⟨⟨trivial, trivial⟩, ⟨trivial, trivial⟩⟩ (by kernel_rfl)
          · replace h := iteF h4 h
            refine At.adv [] [(0, { told := [], gs := [], keep := some ([], []) }), (1, { told := [(0, { ans := .val (.tup [.str v0.1, .int .i64 v0.2]), args := [.int .i64 258, .int .i64 2] })], gs := [], keep := some ([1, 2], []) }), (2, { told := [(0, { ans := .val (.tup [.str v1.1, .int .i64 v1.2]), args := [.int .i64 (-1), .int .i64 1] })], gs := [], keep := some ([1, 2, 3, 4], []) }), (3, { told := [(1, { ans := .val (.tup [.int .i64 v2.1, .int .i64 v2.2]), args := [.str v1.1, .int .i64 0, .int .i64 1] })], gs := [], keep := some ([1, 2, 3, 4, 5, 6], []) }), (4, { told := [(1, { ans := .val (.tup [.int .i64 v3.1, .int .i64 v3.2]), args := [.str v1.1, .int .i64 0, .int .i64 1] })], gs := [], keep := some ([1, 2, 3, 4, 5, 6, 7, 8], []) }), (5, { told := [(0, { ans := .val (.tup [.str v4.1, .int .i64 v4.2.1, .int .i64 v4.2.2]), args := [.str [120, 0, 1, 97, 98], .int .i64 1] })], gs := [], keep := some ([1, 2, 3, 4, 5, 6, 7, 8, 9, 10, 11], []) }), (6, { told := [(5, { ans := .yes }), (9, { ans := .yes }), (13, { ans := .yes }), (17, { ans := .yes }), (21, { ans := .no })], gs := [(3, true), (4, true), (7, true), (8, true), (11, true), (12, true), (15, true), (16, true), (19, false), (20, false)], keep := some ([0], []) })] 400 (ev := .ret) (σ' := mkS 77 [(0, .bool false)] []) (q := [True ∧ ((True ∧ (True ∧ True)) ∧ ([.int .i64 258, .int .i64 2] : List D) = [.int .i64 258, .int .i64 2] ∧ CallSpec Try.prog 9 [.int .i64 258, .int .i64 2] (.tup [.str v0.1, .int .i64 v0.2])), True ∧ ((True ∧ (True ∧ True)) ∧ ([.int .i64 (-1), .int .i64 1] : List D) = [.int .i64 (-1), .int .i64 1] ∧ CallSpec Try.prog 9 [.int .i64 (-1), .int .i64 1] (.tup [.str v1.1, .int .i64 v1.2])), True ∧ ((True ∧ (True ∧ (True ∧ True))) ∧ ([.str v1.1, .int .i64 0, .int .i64 1] : List D) = [.str v1.1, .int .i64 0, .int .i64 1] ∧ CallSpec Try.prog 14 [.str v1.1, .int .i64 0, .int .i64 1] (.tup [.int .i64 v2.1, .int .i64 v2.2])), True ∧ ((True ∧ (True ∧ (True ∧ True))) ∧ ([.str v1.1, .int .i64 0, .int .i64 1] : List D) = [.str v1.1, .int .i64 0, .int .i64 1] ∧ CallSpec Try.prog 12 [.str v1.1, .int .i64 0, .int .i64 1] (.tup [.int .i64 v3.1, .int .i64 v3.2])), True ∧ ((True ∧ (True ∧ True)) ∧ ([.str [120, 0, 1, 97, 98], .int .i64 1] : List D) = [.str [120, 0, 1, 97, 98], .int .i64 1] ∧ CallSpec Try.prog 18 [.str [120, 0, 1, 97, 98], .int .i64 1] (.tup [.str v4.1, .int .i64 v4.2.1, .int .i64 v4.2.2])), ((v0.1 == ([1, 2] : List UInt8)) == true) = true ∧ True, ((v0.1 == ([1, 2] : List UInt8)) == true) = true ∧ True, True ∧ ((v0.1 == ([1, 2] : List UInt8)) = true), ((v0.2 == 0) == true) = true ∧ True, ((v0.2 == 0) == true) = true ∧ True, True ∧ ((v0.2 == 0) = true), ((v1.1 == ([255] : List UInt8)) == true) = true ∧ True, ((v1.1 == ([255] : List UInt8)) == true) = true ∧ True, True ∧ ((v1.1 == ([255] : List UInt8)) = true), ((v1.2 == 0) == true) = true ∧ True, ((v1.2 == 0) == true) = true ∧ True, True ∧ ((v1.2 == 0) = true), ((v2.1 == (-1)) == true) = false, ((v2.1 == (-1)) == true) = false, True ∧ ((v2.1 == (-1)) = false), True, True, True, True, True, True, True, True, True, True]) (by kernel_rfl) ⟨⟨trivial, ⟨⟨trivial, ⟨trivial, trivial⟩⟩, rfl, w9 e0⟩⟩, ⟨trivial, ⟨⟨trivial, ⟨trivial, trivial⟩⟩, rfl, w9 e1⟩⟩, ⟨trivial, ⟨⟨trivial, ⟨trivial, ⟨trivial, trivial⟩⟩⟩, rfl, w14 e2⟩⟩, ⟨trivial, ⟨⟨trivial, ⟨trivial, ⟨trivial, trivial⟩⟩⟩, rfl, w12 e3⟩⟩, ⟨trivial, ⟨⟨trivial, ⟨trivial, trivial⟩⟩, rfl, w18 e4⟩⟩, ⟨(gB h0 rfl), trivial⟩, ⟨(gB h0 rfl), trivial⟩, ⟨trivial, h0⟩, ⟨(gB h1 rfl), trivial⟩, ⟨(gB h1 rfl), trivial⟩, ⟨trivial, h1⟩, ⟨(gB h2 rfl), trivial⟩, ⟨(gB h2 rfl), trivial⟩, ⟨trivial, h2⟩, ⟨(gB h3 rfl), trivial⟩, ⟨(gB h3 rfl), trivial⟩, ⟨trivial, h3⟩, gB h4 rfl, gB h4 rfl, ⟨trivial, h4⟩, trivial, trivial, trivial, trivial, trivial, trivial, trivial, trivial, trivial, trivial, trivial⟩ ?_
            refine EvOk.ret ?_
            obtain rfl := someE h
            exact Den.Ends.mk (.inl rfl) (d := .bool false) (p := (True ∧ True) ∧ (True ∧ True)) (by kernel_rfl) ⟨⟨trivial, trivial⟩, ⟨trivial, trivial⟩⟩ (by kernel_rfl)
        · replace h := iteF h3 h
          refine At.adv [] [(0, { told := [], gs := [], keep := some ([], []) }), (1, { told := [(0, { ans := .val (.tup [.str v0.1, .int .i64 v0.2]), args := [.int .i64 258, .int .i64 2] })], gs := [], keep := some ([1, 2], []) }), (2, { told := [(0, { ans := .val (.tup [.str v1.1, .int .i64 v1.2]), args := [.int .i64 (-1), .int .i64 1] })], gs := [], keep := some ([1, 2, 3, 4], []) }), (3, { told := [(1, { ans := .val (.tup [.int .i64 v2.1, .int .i64 v2.2]), args := [.str v1.1, .int .i64 0, .int .i64 1] })], gs := [], keep := some ([1, 2, 3, 4, 5, 6], []) }), (4, { told := [(1, { ans := .val (.tup [.int .i64 v3.1, .int .i64 v3.2]), args := [.str v1.1, .int .i64 0, .int .i64 1] })], gs := [], keep := some ([1, 2, 3, 4, 5, 6, 7, 8], []) }), (5, { told := [(0, { ans := .val (.tup [.str v4.1, .int .i64 v4.2.1, .int .i64 v4.2.2]), args := [.str [120, 0, 1, 97, 98], .int .i64 1] })], gs := [], keep := some ([1, 2, 3, 4, 5, 6, 7, 8, 9, 10, 11], []) }), (6, { told := [(5, { ans := .yes }), (9, { ans := .yes }), (13, { ans := .yes }), (17, { ans := .no })], gs := [(3, true), (4, true), (7, true), (8, true), (11, true), (12, true), (15, false), (16, false)], keep := some ([0], []) })] 400 (ev := .ret) (σ' := mkS 77 [(0, .bool false)] []) (q := [True ∧ ((True ∧ (True ∧ True)) ∧ ([.int .i64 258, .int .i64 2] : List D) = [.int .i64 258, .int .i64 2] ∧ CallSpec Try.prog 9 [.int .i64 258, .int .i64 2] (.tup [.str v0.1, .int .i64 v0.2])), True ∧ ((True ∧ (True ∧ True)) ∧ ([.int .i64 (-1), .int .i64 1] : List D) = [.int .i64 (-1), .int .i64 1] ∧ CallSpec Try.prog 9 [.int .i64 (-1), .int .i64 1] (.tup [.str v1.1, .int .i64 v1.2])), True ∧ ((True ∧ (True ∧ (True ∧ True))) ∧ ([.str v1.1, .int .i64 0, .int .i64 1] : List D) = [.str v1.1, .int .i64 0, .int .i64 1] ∧ CallSpec Try.prog 14 [.str v1.1, .int .i64 0, .int .i64 1] (.tup [.int .i64 v2.1, .int .i64 v2.2])), True ∧ ((True ∧ (True ∧ (True ∧ True))) ∧ ([.str v1.1, .int .i64 0, .int .i64 1] : List D) = [.str v1.1, .int .i64 0, .int .i64 1] ∧ CallSpec Try.prog 12 [.str v1.1, .int .i64 0, .int .i64 1] (.tup [.int .i64 v3.1, .int .i64 v3.2])), True ∧ ((True ∧ (True ∧ True)) ∧ ([.str [120, 0, 1, 97, 98], .int .i64 1] : List D) = [.str [120, 0, 1, 97, 98], .int .i64 1] ∧ CallSpec Try.prog 18 [.str [120, 0, 1, 97, 98], .int .i64 1] (.tup [.str v4.1, .int .i64 v4.2.1, .int .i64 v4.2.2])), ((v0.1 == ([1, 2] : List UInt8)) == true) = true ∧ True, ((v0.1 == ([1, 2] : List UInt8)) == true) = true ∧ True, True ∧ ((v0.1 == ([1, 2] : List UInt8)) = true), ((v0.2 == 0) == true) = true ∧ True, ((v0.2 == 0) == true) = true ∧ True, True ∧ ((v0.2 == 0) = true), ((v1.1 == ([255] : List UInt8)) == true) = true ∧ True, ((v1.1 == ([255] : List UInt8)) == true) = true ∧ True, True ∧ ((v1.1 == ([255] : List UInt8)) = true), ((v1.2 == 0) == true) = false, ((v1.2 == 0) == true) = false, True ∧ ((v1.2 == 0) = false), True, True, True, True, True, True, True, True, True, True, True, True]) (by kernel_rfl) ⟨⟨trivial, ⟨⟨trivial, ⟨trivial, trivial⟩⟩, rfl, w9 e0⟩⟩, ⟨trivial, ⟨⟨trivial, ⟨trivial, trivial⟩⟩, rfl, w9 e1⟩⟩, ⟨trivial, ⟨⟨trivial, ⟨trivial, ⟨trivial, trivial⟩⟩⟩, rfl, w14 e2⟩⟩, ⟨trivial, ⟨⟨trivial, ⟨trivial, ⟨trivial, trivial⟩⟩⟩, rfl, w12 e3⟩⟩, ⟨trivial, ⟨⟨trivial, ⟨trivial, trivial⟩⟩, rfl, w18 e4⟩⟩, ⟨(gB h0 rfl), trivial⟩, ⟨(gB h0 rfl), trivial⟩, ⟨trivial, h0⟩, ⟨(gB h1 rfl), trivial⟩, ⟨(gB h1 rfl), trivial⟩, ⟨trivial, h1⟩, ⟨(gB h2 rfl), trivial⟩, ⟨(gB h2 rfl), trivial⟩, ⟨trivial, h2⟩, gB h3 rfl, gB h3 rfl, ⟨trivial, h3⟩, trivial, trivial, trivial, trivial, trivial, trivial, trivial, trivial, trivial, trivial, trivial, trivial, trivial⟩ ?_
          refine EvOk.ret ?_
          obtain rfl := someE h
          exact Den.Ends.mk (.inl rfl) (d := .bool false) (p := (True ∧ True) ∧ (True ∧ True)) (by kernel_rfl) ⟨⟨trivial, trivial⟩, ⟨trivial, trivial⟩⟩ (by kernel_rfl)
      · replace h := iteF h2 h
        refine At.adv [] [(0, { told := [], gs := [], keep := some ([], []) }), (1, { told := [(0, { ans := .val (.tup [.str v0.1, .int .i64 v0.2]), args := [.int .i64 258, .int .i64 2] })], gs := [], keep := some ([1, 2], []) }), (2, { told := [(0, { ans := .val (.tup [.str v1.1, .int .i64 v1.2]), args := [.int .i64 (-1), .int .i64 1] })], gs := [], keep := some ([1, 2, 3, 4], []) }), (3, { told := [(1, { ans := .val (.tup [.int .i64 v2.1, .int .i64 v2.2]), args := [.str v1.1, .int .i64 0, .int .i64 1] })], gs := [], keep := some ([1, 2, 3, 4, 5, 6], []) }), (4, { told := [(1, { ans := .val (.tup [.int .i64 v3.1, .int .i64 v3.2]), args := [.str v1.1, .int .i64 0, .int .i64 1] })], gs := [], keep := some ([1, 2, 3, 4, 5, 6, 7, 8], []) }), (5, { told := [(0, { ans := .val (.tup [.str v4.1, .int .i64 v4.2.1, .int .i64 v4.2.2]), args := [.str [120, 0, 1, 97, 98], .int .i64 1] })], gs := [], keep := some ([1, 2, 3, 4, 5, 6, 7, 8, 9, 10, 11], []) }), (6, { told := [(5, { ans := .yes }), (9, { ans := .yes }), (13, { ans := .no })], gs := [(3, true), (4, true), (7, true), (8, true), (11, false), (12, false)], keep := some ([0], []) })] 400 (ev := .ret) (σ' := mkS 77 [(0, .bool false)] []) (q := [True ∧ ((True ∧ (True ∧ True)) ∧ ([.int .i64 258, .int .i64 2] : List D) = [.int .i64 258, .int .i64 2] ∧ CallSpec Try.prog 9 [.int .i64 258, .int .i64 2] (.tup [.str v0.1, .int .i64 v0.2])), True ∧ ((True ∧ (True ∧ True)) ∧ ([.int .i64 (-1), .int .i64 1] : List D) = [.int .i64 (-1), .int .i64 1] ∧ CallSpec Try.prog 9 [.int .i64 (-1), .int .i64 1] (.tup [.str v1.1, .int .i64 v1.2])), True ∧ ((True ∧ (True ∧ (True ∧ True))) ∧ ([.str v1.1, .int .i64 0, .int .i64 1] : List D) = [.str v1.1, .int .i64 0, .int .i64 1] ∧ CallSpec Try.prog 14 [.str v1.1, .int .i64 0, .int .i64 1] (.tup [.int .i64 v2.1, .int .i64 v2.2])), True ∧ ((True ∧ (True ∧ (True ∧ True))) ∧ ([.str v1.1, .int .i64 0, .int .i64 1] : List D) = [.str v1.1, .int .i64 0, .int .i64 1] ∧ CallSpec Try.prog 12 [.str v1.1, .int .i64 0, .int .i64 1] (.tup [.int .i64 v3.1, .int .i64 v3.2])), True ∧ ((True ∧ (True ∧ True)) ∧ ([.str [120, 0, 1, 97, 98], .int .i64 1] : List D) = [.str [120, 0, 1, 97, 98], .int .i64 1] ∧ CallSpec Try.prog 18 [.str [120, 0, 1, 97, 98], .int .i64 1] (.tup [.str v4.1, .int .i64 v4.2.1, .int .i64 v4.2.2])), ((v0.1 == ([1, 2] : List UInt8)) == true) = true ∧ True, ((v0.1 == ([1, 2] : List UInt8)) == true) = true ∧ True, True ∧ ((v0.1 == ([1, 2] : List UInt8)) = true), ((v0.2 == 0) == true) = true ∧ True, ((v0.2 == 0) == true) = true ∧ True, True ∧ ((v0.2 == 0) = true), ((v1.1 == ([255] : List UInt8)) == true) = false, ((v1.1 == ([255] : List UInt8)) == true) = false, True ∧ ((v1.1 == ([255] : List UInt8)) = false), True, True, True, True, True, True, True, True, True, True, True, True, True, True]) (by kernel_rfl) ⟨⟨trivial, ⟨⟨trivial, ⟨trivial, trivial⟩⟩, rfl, w9 e0⟩⟩, ⟨trivial, ⟨⟨trivial, ⟨trivial, trivial⟩⟩, rfl, w9 e1⟩⟩, ⟨trivial, ⟨⟨trivial, ⟨trivial, ⟨trivial, trivial⟩⟩⟩, rfl, w14 e2⟩⟩, ⟨trivial, ⟨⟨trivial, ⟨trivial, ⟨trivial, trivial⟩⟩⟩, rfl, w12 e3⟩⟩, ⟨trivial, ⟨⟨trivial, ⟨trivial, trivial⟩⟩, rfl, w18 e4⟩⟩, ⟨(gB h0 rfl), trivial⟩, ⟨(gB h0 rfl), trivial⟩, ⟨trivial, h0⟩, ⟨(gB h1 rfl), trivial⟩, ⟨(gB h1 rfl), trivial⟩, ⟨trivial, h1⟩, gB h2 rfl, gB h2 rfl, ⟨trivial, h2⟩, trivial, trivial, trivial, trivial, trivial, trivial, trivial, trivial, trivial, trivial, trivial, trivial, trivial, trivial, trivial⟩ ?_
        refine EvOk.ret ?_
        obtain rfl := someE h
        exact Den.Ends.mk (.inl rfl) (d := .bool false) (p := (True ∧ True) ∧ (True ∧ True)) (by kernel_rfl) ⟨⟨trivial, trivial⟩, ⟨trivial, trivial⟩⟩ (by kernel_rfl)
    · replace h := iteF h1 h
      refine At.adv [] [(0, { told := [], gs := [], keep := some ([], []) }), (1, { told := [(0, { ans := .val (.tup [.str v0.1, .int .i64 v0.2]), args := [.int .i64 258, .int .i64 2] })], gs := [], keep := some ([1, 2], []) }), (2, { told := [(0, { ans := .val (.tup [.str v1.1, .int .i64 v1.2]), args := [.int .i64 (-1), .int .i64 1] })], gs := [], keep := some ([1, 2, 3, 4], []) }), (3, { told := [(1, { ans := .val (.tup [.int .i64 v2.1, .int .i64 v2.2]), args := [.str v1.1, .int .i64 0, .int .i64 1] })], gs := [], keep := some ([1, 2, 3, 4, 5, 6], []) }), (4, { told := [(1, { ans := .val (.tup [.int .i64 v3.1, .int .i64 v3.2]), args := [.str v1.1, .int .i64 0, .int .i64 1] })], gs := [], keep := some ([1, 2, 3, 4, 5, 6, 7, 8], []) }), (5, { told := [(0, { ans := .val (.tup [.str v4.1, .int .i64 v4.2.1, .int .i64 v4.2.2]), args := [.str [120, 0, 1, 97, 98], .int .i64 1] })], gs := [], keep := some ([1, 2, 3, 4, 5, 6, 7, 8, 9, 10, 11], []) }), (6, { told := [(5, { ans := .yes }), (9, { ans := .no })], gs := [(3, true), (4, true), (7, false), (8, false)], keep := some ([0], []) })] 400 (ev := .ret) (σ' := mkS 77 [(0, .bool false)] []) (q := [True ∧ ((True ∧ (True ∧ True)) ∧ ([.int .i64 258, .int .i64 2] : List D) = [.int .i64 258, .int .i64 2] ∧ CallSpec Try.prog 9 [.int .i64 258, .int .i64 2] (.tup [.str v0.1, .int .i64 v0.2])), True ∧ ((True ∧ (True ∧ True)) ∧ ([.int .i64 (-1), .int .i64 1] : List D) = [.int .i64 (-1), .int .i64 1] ∧ CallSpec Try.prog 9 [.int .i64 (-1), .int .i64 1] (.tup [.str v1.1, .int .i64 v1.2])), True ∧ ((True ∧ (True ∧ (True ∧ True))) ∧ ([.str v1.1, .int .i64 0, .int .i64 1] : List D) = [.str v1.1, .int .i64 0, .int .i64 1] ∧ CallSpec Try.prog 14 [.str v1.1, .int .i64 0, .int .i64 1] (.tup [.int .i64 v2.1, .int .i64 v2.2])), True ∧ ((True ∧ (True ∧ (True ∧ True))) ∧ ([.str v1.1, .int .i64 0, .int .i64 1] : List D) = [.str v1.1, .int .i64 0, .int .i64 1] ∧ CallSpec Try.prog 12 [.str v1.1, .int .i64 0, .int .i64 1] (.tup [.int .i64 v3.1, .int .i64 v3.2])), True ∧ ((True ∧ (True ∧ True)) ∧ ([.str [120, 0, 1, 97, 98], .int .i64 1] : List D) = [.str [120, 0, 1, 97, 98], .int .i64 1] ∧ CallSpec Try.prog 18 [.str [120, 0, 1, 97, 98], .int .i64 1] (.tup [.str v4.1, .int .i64 v4.2.1, .int .i64 v4.2.2])), ((v0.1 == ([1, 2] : List UInt8)) == true) = true ∧ True, ((v0.1 == ([1, 2] : List UInt8)) == true) = true ∧ True, True ∧ ((v0.1 == ([1, 2] : List UInt8)) = true), ((v0.2 == 0) == true) = false, ((v0.2 == 0) == true) = false, True ∧ ((v0.2 == 0) = false), True, True, True, True, True, True, True, True, True, True, True, True, True, True, True, True]) (by kernel_rfl) ⟨⟨trivial, ⟨⟨trivial, ⟨trivial, trivial⟩⟩, rfl, w9 e0⟩⟩, ⟨trivial, ⟨⟨trivial, ⟨trivial, trivial⟩⟩, rfl, w9 e1⟩⟩, ⟨trivial, ⟨⟨trivial, ⟨trivial, ⟨trivial, trivial⟩⟩⟩, rfl, w14 e2⟩⟩, ⟨trivial, ⟨⟨trivial, ⟨trivial, ⟨trivial, trivial⟩⟩⟩, rfl, w12 e3⟩⟩, ⟨trivial, ⟨⟨trivial, ⟨trivial, trivial⟩⟩, rfl, w18 e4⟩⟩, ⟨(gB h0 rfl), trivial⟩, ⟨(gB h0 rfl), trivial⟩, ⟨trivial, h0⟩, gB h1 rfl, gB h1 rfl, ⟨trivial, h1⟩, trivial, trivial, trivial, trivial, trivial, trivial, trivial, trivial, trivial, trivial, trivial, trivial, trivial, trivial, trivial, trivial, trivial⟩ ?_
      refine EvOk.ret ?_
      obtain rfl := someE h
      exact Den.Ends.mk (.inl rfl) (d := .bool false) (p := (True ∧ True) ∧ (True ∧ True)) (by kernel_rfl) ⟨⟨trivial, trivial⟩, ⟨trivial, trivial⟩⟩ (by kernel_rfl)
  · replace h := iteF h0 h
    refine At.adv [] [(0, { told := [], gs := [], keep := some ([], []) }), (1, { told := [(0, { ans := .val (.tup [.str v0.1, .int .i64 v0.2]), args := [.int .i64 258, .int .i64 2] })], gs := [], keep := some ([1, 2], []) }), (2, { told := [(0, { ans := .val (.tup [.str v1.1, .int .i64 v1.2]), args := [.int .i64 (-1), .int .i64 1] })], gs := [], keep := some ([1, 2, 3, 4], []) }), (3, { told := [(1, { ans := .val (.tup [.int .i64 v2.1, .int .i64 v2.2]), args := [.str v1.1, .int .i64 0, .int .i64 1] })], gs := [], keep := some ([1, 2, 3, 4, 5, 6], []) }), (4, { told := [(1, { ans := .val (.tup [.int .i64 v3.1, .int .i64 v3.2]), args := [.str v1.1, .int .i64 0, .int .i64 1] })], gs := [], keep := some ([1, 2, 3, 4, 5, 6, 7, 8], []) }), (5, { told := [(0, { ans := .val (.tup [.str v4.1, .int .i64 v4.2.1, .int .i64 v4.2.2]), args := [.str [120, 0, 1, 97, 98], .int .i64 1] })], gs := [], keep := some ([1, 2, 3, 4, 5, 6, 7, 8, 9, 10, 11], []) }), (6, { told := [(5, { ans := .no })], gs := [(3, false), (4, false)], keep := some ([0], []) })] 400 (ev := .ret) (σ' := mkS 77 [(0, .bool false)] []) (q := [True ∧ ((True ∧ (True ∧ True)) ∧ ([.int .i64 258, .int .i64 2] : List D) = [.int .i64 258, .int .i64 2] ∧ CallSpec Try.prog 9 [.int .i64 258, .int .i64 2] (.tup [.str v0.1, .int .i64 v0.2])), True ∧ ((True ∧ (True ∧ True)) ∧ ([.int .i64 (-1), .int .i64 1] : List D) = [.int .i64 (-1), .int .i64 1] ∧ CallSpec Try.prog 9 [.int .i64 (-1), .int .i64 1] (.tup [.str v1.1, .int .i64 v1.2])), True ∧ ((True ∧ (True ∧ (True ∧ True))) ∧ ([.str v1.1, .int .i64 0, .int .i64 1] : List D) = [.str v1.1, .int .i64 0, .int .i64 1] ∧ CallSpec Try.prog 14 [.str v1.1, .int .i64 0, .int .i64 1] (.tup [.int .i64 v2.1, .int .i64 v2.2])), True ∧ ((True ∧ (True ∧ (True ∧ True))) ∧ ([.str v1.1, .int .i64 0, .int .i64 1] : List D) = [.str v1.1, .int .i64 0, .int .i64 1] ∧ CallSpec Try.prog 12 [.str v1.1, .int .i64 0, .int .i64 1] (.tup [.int .i64 v3.1, .int .i64 v3.2])), True ∧ ((True ∧ (True ∧ True)) ∧ ([.str [120, 0, 1, 97, 98], .int .i64 1] : List D) = [.str [120, 0, 1, 97, 98], .int .i64 1] ∧ CallSpec Try.prog 18 [.str [120, 0, 1, 97, 98], .int .i64 1] (.tup [.str v4.1, .int .i64 v4.2.1, .int .i64 v4.2.2])), ((v0.1 == ([1, 2] : List UInt8)) == true) = false, ((v0.1 == ([1, 2] : List UInt8)) == true) = false, True ∧ ((v0.1 == ([1, 2] : List UInt8)) = false), True, True, True, True, True, True, True, True, True, True, True, True, True, True, True, True, True, True]) (by kernel_rfl) ⟨⟨trivial, ⟨⟨trivial, ⟨trivial, trivial⟩⟩, rfl, w9 e0⟩⟩, ⟨trivial, ⟨⟨trivial, ⟨trivial, trivial⟩⟩, rfl, w9 e1⟩⟩, ⟨trivial, ⟨⟨trivial, ⟨trivial, ⟨trivial, trivial⟩⟩⟩, rfl, w14 e2⟩⟩, ⟨trivial, ⟨⟨trivial, ⟨trivial, ⟨trivial, trivial⟩⟩⟩, rfl, w12 e3⟩⟩, ⟨trivial, ⟨⟨trivial, ⟨trivial, trivial⟩⟩, rfl, w18 e4⟩⟩, gB h0 rfl, gB h0 rfl, ⟨trivial, h0⟩, trivial, trivial, trivial, trivial, trivial, trivial, trivial, trivial, trivial, trivial, trivial, trivial, trivial, trivial, trivial, trivial, trivial, trivial, trivial⟩ ?_
    refine EvOk.ret ?_
    obtain rfl := someE h
    exact Den.Ends.mk (.inl rfl) (d := .bool false) (p := (True ∧ True) ∧ (True ∧ True)) (by kernel_rfl) ⟨⟨trivial, trivial⟩, ⟨trivial, trivial⟩⟩ (by kernel_rfl)
theorem w11  {r : Bool} (h : m_armaturelaw02_awake = some r) : CallSpec Try.prog 11 [] (.bool r) :=
  CallSpec.at2 b11 (n := 77) (l := []) (by kernel_rfl) (by kernel_rfl) (by kernel_rfl) (by kernel_rfl) (by kernel_rfl) (Nat.le_of_ble_eq_true (by kernel_rfl)) (fun Γ => we11  r h Γ)

/-! ### armature armaturelaw02.OctetPutReference -/
noncomputable def b3 : Code := Try.f3.body.getD .skip
def m_armaturelaw02_OctetPutReference (x0 : Int) (x1 : Int) : Option (Bool) :=
  (m_octet_Put x0 x1).bind fun v0 =>
  (m_armatureref02_Put x0 x1).bind fun v1 =>
  (m_armaturelaw02_awake).bind fun v2 =>
  if v2 = true then (if (v0.1 == v1.1) = true then (some (v0.2 == v1.2)) else
  (some false)) else
  (some false)
theorem we3 (x0 : Int) (x1 : Int) (r : Bool) (h : m_armaturelaw02_OctetPutReference x0 x1 = some r) (Γ : Ctx) : At Try.prog Γ b3 [] (Den.Ends Try.prog Try.f3 (.bool r)) (mkS 32 [(0, .int .i64 x0), (1, .int .i64 x1)] []) := by
  obtain ⟨v0, e0, h⟩ := bindE h
  obtain ⟨v1, e1, h⟩ := bindE h
  obtain ⟨v2, e2, h⟩ := bindE h
  rcases Bool.eq_false_or_eq_true v2 with h0 | h0
  · replace h := iteT h0 h
    rcases Bool.eq_false_or_eq_true (v0.1 == v1.1) with h1 | h1
    · replace h := iteT h1 h
      refine At.adv [] [(0, { told := [], gs := [], keep := some ([0, 1], []) }), (1, { told := [(2, { ans := .val (.tup [.str v0.1, .int .i64 v0.2]), args := [.int .i64 x0, .int .i64 x1] })], gs := [], keep := some ([0, 1, 5, 6], []) }), (2, { told := [(2, { ans := .val (.tup [.str v1.1, .int .i64 v1.2]), args := [.int .i64 x0, .int .i64 x1] })], gs := [], keep := some ([5, 6, 7, 8], []) }), (3, { told := [(0, { ans := .val (.bool v2), args := [] }), (5, { ans := .yes }), (10, { ans := .yes })], gs := [(2, true), (3, true), (4, true), (7, true), (8, true), (9, true)], keep := some ([4], []) })] 400 (ev := .ret) (σ' := mkS 32 [(4, .bool (v0.2 == v1.2))] []) (q := [True ∧ ((True ∧ (True ∧ True)) ∧ ([.int .i64 x0, .int .i64 x1] : List D) = [.int .i64 x0, .int .i64 x1] ∧ CallSpec Try.prog 9 [.int .i64 x0, .int .i64 x1] (.tup [.str v0.1, .int .i64 v0.2])), True ∧ ((True ∧ (True ∧ True)) ∧ ([.int .i64 x0, .int .i64 x1] : List D) = [.int .i64 x0, .int .i64 x1] ∧ CallSpec Try.prog 10 [.int .i64 x0, .int .i64 x1] (.tup [.str v1.1, .int .i64 v1.2])), True ∧ (True ∧ ([] : List D) = [] ∧ CallSpec Try.prog 11 [] (.bool v2)), (v2 == true) = true ∧ True, (v2 == true) = true ∧ True, (v2 == true) = true ∧ True, True ∧ (v2 = true), ((v0.1 == v1.1) == true) = true ∧ True, ((v0.1 == v1.1) == true) = true ∧ True, ((v0.1 == v1.1) == true) = true ∧ True, True ∧ ((v0.1 == v1.1) = true)]) (by kernel_rfl) ⟨⟨trivial, ⟨⟨trivial, ⟨trivial, trivial⟩⟩, rfl, w9 e0⟩⟩, ⟨trivial, ⟨⟨trivial, ⟨trivial, trivial⟩⟩, rfl, w10 e1⟩⟩, ⟨trivial, ⟨trivial, rfl, w11 e2⟩⟩, ⟨(gB h0 rfl), trivial⟩, ⟨(gB h0 rfl), trivial⟩, ⟨(gB h0 rfl), trivial⟩, ⟨trivial, h0⟩, ⟨(gB h1 rfl), trivial⟩, ⟨(gB h1 rfl), trivial⟩, ⟨(gB h1 rfl), trivial⟩, ⟨trivial, h1⟩, trivial⟩ ?_
      refine EvOk.ret ?_
      obtain rfl := someE h
      exact Den.Ends.mk (.inl rfl) (d := .bool (v0.2 == v1.2)) (p := (True ∧ True) ∧ (True ∧ True)) (by kernel_rfl) ⟨⟨trivial, trivial⟩, ⟨trivial, trivial⟩⟩ (by kernel_rfl)
    · replace h := iteF h1 h
      refine At.adv [] [(0, { told := [], gs := [], keep := some ([0, 1], []) }), (1, { told := [(2, { ans := .val (.tup [.str v0.1, .int .i64 v0.2]), args := [.int .i64 x0, .int .i64 x1] })], gs := [], keep := some ([0, 1, 5, 6], []) }), (2, { told := [(2, { ans := .val (.tup [.str v1.1, .int .i64 v1.2]), args := [.int .i64 x0, .int .i64 x1] })], gs := [], keep := some ([5, 6, 7, 8], []) }), (3, { told := [(0, { ans := .val (.bool v2), args := [] }), (5, { ans := .yes }), (10, { ans := .no })], gs := [(2, true), (3, true), (4, true), (7, false), (8, false), (9, false)], keep := some ([4], []) })] 400 (ev := .ret) (σ' := mkS 32 [(4, .bool false)] []) (q := [True ∧ ((True ∧ (True ∧ True)) ∧ ([.int .i64 x0, .int .i64 x1] : List D) = [.int .i64 x0, .int .i64 x1] ∧ CallSpec Try.prog 9 [.int .i64 x0, .int .i64 x1] (.tup [.str v0.1, .int .i64 v0.2])), True ∧ ((True ∧ (True ∧ True)) ∧ ([.int .i64 x0, .int .i64 x1] : List D) = [.int .i64 x0, .int .i64 x1] ∧ CallSpec Try.prog 10 [.int .i64 x0, .int .i64 x1] (.tup [.str v1.1, .int .i64 v1.2])), True ∧ (True ∧ ([] : List D) = [] ∧ CallSpec Try.prog 11 [] (.bool v2)), (v2 == true) = true ∧ True, (v2 == true) = true ∧ True, (v2 == true) = true ∧ True, True ∧ (v2 = true), ((v0.1 == v1.1) == true) = false, ((v0.1 == v1.1) == true) = false, ((v0.1 == v1.1) == true) = false, True ∧ ((v0.1 == v1.1) = false)]) (by kernel_rfl) ⟨⟨trivial, ⟨⟨trivial, ⟨trivial, trivial⟩⟩, rfl, w9 e0⟩⟩, ⟨trivial, ⟨⟨trivial, ⟨trivial, trivial⟩⟩, rfl, w10 e1⟩⟩, ⟨trivial, ⟨trivial, rfl, w11 e2⟩⟩, ⟨(gB h0 rfl), trivial⟩, ⟨(gB h0 rfl), trivial⟩, ⟨(gB h0 rfl), trivial⟩, ⟨trivial, h0⟩, gB h1 rfl, gB h1 rfl, gB h1 rfl, ⟨trivial, h1⟩, trivial⟩ ?_
      refine EvOk.ret ?_
      obtain rfl := someE h
      exact Den.Ends.mk (.inl rfl) (d := .bool false) (p := (True ∧ True) ∧ (True ∧ True)) (by kernel_rfl) ⟨⟨trivial, trivial⟩, ⟨trivial, trivial⟩⟩ (by kernel_rfl)
  · replace h := iteF h0 h
    refine At.adv [] [(0, { told := [], gs := [], keep := some ([0, 1], []) }), (1, { told := [(2, { ans := .val (.tup [.str v0.1, .int .i64 v0.2]), args := [.int .i64 x0, .int .i64 x1] })], gs := [], keep := some ([0, 1, 5, 6], []) }), (2, { told := [(2, { ans := .val (.tup [.str v1.1, .int .i64 v1.2]), args := [.int .i64 x0, .int .i64 x1] })], gs := [], keep := some ([5, 6, 7, 8], []) }), (3, { told := [(0, { ans := .val (.bool v2), args := [] }), (5, { ans := .no })], gs := [(2, false), (3, false), (4, false)], keep := some ([4], []) })] 400 (ev := .ret) (σ' := mkS 32 [(4, .bool false)] []) (q := [True ∧ ((True ∧ (True ∧ True)) ∧ ([.int .i64 x0, .int .i64 x1] : List D) = [.int .i64 x0, .int .i64 x1] ∧ CallSpec Try.prog 9 [.int .i64 x0, .int .i64 x1] (.tup [.str v0.1, .int .i64 v0.2])), True ∧ ((True ∧ (True ∧ True)) ∧ ([.int .i64 x0, .int .i64 x1] : List D) = [.int .i64 x0, .int .i64 x1] ∧ CallSpec Try.prog 10 [.int .i64 x0, .int .i64 x1] (.tup [.str v1.1, .int .i64 v1.2])), True ∧ (True ∧ ([] : List D) = [] ∧ CallSpec Try.prog 11 [] (.bool v2)), (v2 == true) = false, (v2 == true) = false, (v2 == true) = false, True ∧ (v2 = false), True, True, True]) (by kernel_rfl) ⟨⟨trivial, ⟨⟨trivial, ⟨trivial, trivial⟩⟩, rfl, w9 e0⟩⟩, ⟨trivial, ⟨⟨trivial, ⟨trivial, trivial⟩⟩, rfl, w10 e1⟩⟩, ⟨trivial, ⟨trivial, rfl, w11 e2⟩⟩, gB h0 rfl, gB h0 rfl, gB h0 rfl, ⟨trivial, h0⟩, trivial, trivial, trivial, trivial⟩ ?_
    refine EvOk.ret ?_
    obtain rfl := someE h
    exact Den.Ends.mk (.inl rfl) (d := .bool false) (p := (True ∧ True) ∧ (True ∧ True)) (by kernel_rfl) ⟨⟨trivial, trivial⟩, ⟨trivial, trivial⟩⟩ (by kernel_rfl)
theorem w3 {x0 : Int} {x1 : Int} {r : Bool} (h : m_armaturelaw02_OctetPutReference x0 x1 = some r) : CallSpec Try.prog 3 [.int .i64 x0, .int .i64 x1] (.bool r) :=
  CallSpec.at2 b3 (n := 32) (l := [(0, .int .i64 x0), (1, .int .i64 x1)]) (by kernel_rfl) (by kernel_rfl) (by kernel_rfl) (by kernel_rfl) (by kernel_rfl) (Nat.le_of_ble_eq_true (by kernel_rfl)) (fun Γ => we3 x0 x1 r h Γ)

/-! ### armature armatureref02.there -/
noncomputable def b23 : Code := Try.f23.body.getD .skip
noncomputable def c23x0 : Code := sub1 b23
noncomputable def c23x1 : Code := sub1 c23x0
noncomputable def c23x2 : Code := sub0 c23x1
noncomputable def c23x3 : Code := sub1 c23x2
noncomputable def c23x4 : Code := sub0 c23x3
noncomputable def c23x5 : Code := sub1 c23x3
noncomputable def c23x6 : Code := sub1 c23x1
noncomputable def c23x7 : Code := sub0 c23x6
noncomputable def c23x8 : Code := sub0 c23x7
noncomputable def c23x9 : Code := sub1 c23x7
noncomputable def c23x10 : Code := sub1 c23x6
noncomputable def c23x11 : Code := sub0 c23x0
noncomputable def c23x12 : Code := sub1 c23x11
noncomputable def c23x13 : Code := sub0 c23x12
noncomputable def c23x14 : Code := sub1 c23x12
noncomputable def c23x15 : Code := sub0 c23x9
noncomputable def c23x16 : Code := sub1 c23x9
def j23x1 (x0 : List UInt8) (x1 : Int) (x2 : Int) : Option (Int) :=
  (some (IntKind.wrap .i64 ((x0.length : Int) - x1))).bind fun v1 =>
  if (decide (v1 < x2)) = true then
    (some 3) else
  (some 0)
def m_armatureref02_there (x0 : List UInt8) (x1 : Int) (x2 : Int) : Option (Int) :=
  (m_armatureref02_sized x2).bind fun v0 =>
  if (!v0) = true then
    (some 1) else
  (if (decide (x1 < 0)) = true then (some 2) else
    (if (decide (x1 > (x0.length : Int))) = true then
      (some 2) else
    ((j23x1 x0 x1 x2) )))
theorem wj23x1 (x0 : List UInt8) (x1 : Int) (x2 : Int) (r : Int) (h : (j23x1 x0 x1 x2)  = some r) (Γ : Ctx) : EvOk Try.prog Γ (Den.Ends Try.prog Try.f23 (.int .i64 r)) (mkS 24 [(0, .str x0), (1, .int .i64 x1), (2, .int .i64 x2)] []) (.stop c23x8 [.seq c23x9, .seq c23x10]) := by
  refine EvOk.stop ?_
  obtain ⟨v1, e1, h⟩ := bindE h
  refine At.adv [] [(5, { told := [(3, { ans := .val (.int .i64 v1) })], gs := [], keep := some ([23], []) })] 400 (ev := .cond (decide (v1 < x2)) c23x15 c23x16 [.seq c23x10]) (σ' := mkS 24 [(23, .bool (decide (v1 < x2)))] []) (q := [True ∧ (IntKind.wrap .i64 ((x0.length : Int) - x1) = v1)]) (by kernel_rfl) ⟨⟨trivial, someE e1⟩, trivial⟩ ?_
  refine EvOk.cond (fun h3 => ?_) (fun h3 => ?_)
  · replace h := iteT h3 h
    refine At.gc [] [] (n := 24) (l := []) (bl := []) (by kernel_rfl) ?_
    refine At.adv [] [(6, { told := [], gs := [], keep := some ([6], []) })] 400 (ev := .ret) (σ' := mkS 24 [(6, .int .i64 3)] []) (q := []) (by kernel_rfl) trivial ?_
    refine EvOk.ret ?_
    obtain rfl := someE h
    exact Den.Ends.mk (.inl rfl) (d := .int .i64 3) (p := (True ∧ True) ∧ (True ∧ True)) (by kernel_rfl) ⟨⟨trivial, trivial⟩, ⟨trivial, trivial⟩⟩ (by kernel_rfl)
  · replace h := iteF h3 h
    refine At.gc [] [] (n := 24) (l := []) (bl := []) (by kernel_rfl) ?_
    refine At.adv [] [(7, { told := [], gs := [], keep := some ([6], []) })] 400 (ev := .ret) (σ' := mkS 24 [(6, .int .i64 0)] []) (q := []) (by kernel_rfl) trivial ?_
    refine EvOk.ret ?_
    obtain rfl := someE h
    exact Den.Ends.mk (.inl rfl) (d := .int .i64 0) (p := (True ∧ True) ∧ (True ∧ True)) (by kernel_rfl) ⟨⟨trivial, trivial⟩, ⟨trivial, trivial⟩⟩ (by kernel_rfl)
theorem we23 (x0 : List UInt8) (x1 : Int) (x2 : Int) (r : Int) (h : m_armatureref02_there x0 x1 x2 = some r) (Γ : Ctx) : At Try.prog Γ b23 [] (Den.Ends Try.prog Try.f23 (.int .i64 r)) (mkS 24 [(0, .str x0), (1, .int .i64 x1), (2, .int .i64 x2)] []) := by
  obtain ⟨v0, e0, h⟩ := bindE h
  refine At.adv [] [(0, { told := [], gs := [], keep := some ([0, 1, 2], []) }), (1, { told := [(1, { ans := .val (.bool v0), args := [.int .i64 x2] })], gs := [], keep := some ([0, 1, 2, 9], []) })] 400 (ev := .cond (!v0) c23x13 c23x14 [.seq c23x1]) (σ' := mkS 24 [(0, .str x0), (1, .int .i64 x1), (2, .int .i64 x2), (9, .bool (!v0))] []) (q := [True ∧ ((True ∧ True) ∧ ([.int .i64 x2] : List D) = [.int .i64 x2] ∧ CallSpec Try.prog 21 [.int .i64 x2] (.bool v0))]) (by kernel_rfl) ⟨⟨trivial, ⟨⟨trivial, trivial⟩, rfl, w21 e0⟩⟩, trivial⟩ ?_
  refine EvOk.cond (fun h0 => ?_) (fun h0 => ?_)
  · replace h := iteT h0 h
    refine At.gc [] [] (n := 24) (l := []) (bl := []) (by kernel_rfl) ?_
    refine At.adv [] [(2, { told := [], gs := [], keep := some ([6], []) })] 400 (ev := .ret) (σ' := mkS 24 [(6, .int .i64 1)] []) (q := []) (by kernel_rfl) trivial ?_
    refine EvOk.ret ?_
    obtain rfl := someE h
    exact Den.Ends.mk (.inl rfl) (d := .int .i64 1) (p := (True ∧ True) ∧ (True ∧ True)) (by kernel_rfl) ⟨⟨trivial, trivial⟩, ⟨trivial, trivial⟩⟩ (by kernel_rfl)
  · replace h := iteF h0 h
    refine At.gc [0, 1, 2] [] (n := 24) (l := [(0, .str x0), (1, .int .i64 x1), (2, .int .i64 x2)]) (bl := []) (by kernel_rfl) ?_
    rcases Bool.eq_false_or_eq_true (decide (x1 < 0)) with h1 | h1
    · replace h := iteT h1 h
      refine At.adv [] [(3, { told := [(7, { ans := .yes })], gs := [(3, false), (4, false), (5, false), (6, false)], keep := some ([0, 1, 2, 17], []) })] 400 (ev := .cond true c23x4 c23x5 [.seq c23x6]) (σ' := mkS 24 [(0, .str x0), (1, .int .i64 x1), (2, .int .i64 x2), (17, .bool true)] []) (q := [((decide (x1 < 0)) == false) = false, ((decide (x1 < 0)) == false) = false, ((decide (x1 < 0)) == false) = false, ((decide (x1 < 0)) == false) = false, True ∧ ((decide (x1 < 0)) = true)]) (by kernel_rfl) ⟨gB h1 rfl, gB h1 rfl, gB h1 rfl, gB h1 rfl, ⟨trivial, h1⟩, trivial⟩ ?_
      refine EvOk.cond (fun _ => ?_) (fun hb => Bool.noConfusion hb)
      refine At.gc [] [] (n := 24) (l := []) (bl := []) (by kernel_rfl) ?_
      refine At.adv [] [(4, { told := [], gs := [], keep := some ([6], []) })] 400 (ev := .ret) (σ' := mkS 24 [(6, .int .i64 2)] []) (q := []) (by kernel_rfl) trivial ?_
      refine EvOk.ret ?_
      obtain rfl := someE h
      exact Den.Ends.mk (.inl rfl) (d := .int .i64 2) (p := (True ∧ True) ∧ (True ∧ True)) (by kernel_rfl) ⟨⟨trivial, trivial⟩, ⟨trivial, trivial⟩⟩ (by kernel_rfl)
    · replace h := iteF h1 h
      refine At.adv [] [(3, { told := [(7, { ans := .no })], gs := [(3, true), (4, true), (5, true), (6, true)], keep := some ([0, 1, 2, 17], []) })] 400 (ev := .cond (decide (x1 > (x0.length : Int))) c23x4 c23x5 [.seq c23x6]) (σ' := mkS 24 [(0, .str x0), (1, .int .i64 x1), (2, .int .i64 x2), (17, .bool (decide (x1 > (x0.length : Int))))] []) (q := [((decide (x1 < 0)) == false) = true ∧ True, ((decide (x1 < 0)) == false) = true ∧ True, ((decide (x1 < 0)) == false) = true ∧ True, ((decide (x1 < 0)) == false) = true ∧ True, True ∧ ((decide (x1 < 0)) = false)]) (by kernel_rfl) ⟨⟨(gB h1 rfl), trivial⟩, ⟨(gB h1 rfl), trivial⟩, ⟨(gB h1 rfl), trivial⟩, ⟨(gB h1 rfl), trivial⟩, ⟨trivial, h1⟩, trivial⟩ ?_
      refine EvOk.cond (fun h2 => ?_) (fun h2 => ?_)
      · replace h := iteT h2 h
        refine At.gc [] [] (n := 24) (l := []) (bl := []) (by kernel_rfl) ?_
        refine At.adv [] [(4, { told := [], gs := [], keep := some ([6], []) })] 400 (ev := .ret) (σ' := mkS 24 [(6, .int .i64 2)] []) (q := []) (by kernel_rfl) trivial ?_
        refine EvOk.ret ?_
        obtain rfl := someE h
        exact Den.Ends.mk (.inl rfl) (d := .int .i64 2) (p := (True ∧ True) ∧ (True ∧ True)) (by kernel_rfl) ⟨⟨trivial, trivial⟩, ⟨trivial, trivial⟩⟩ (by kernel_rfl)
      · replace h := iteF h2 h
        refine At.gc [0, 1, 2] [] (n := 24) (l := [(0, .str x0), (1, .int .i64 x1), (2, .int .i64 x2)]) (bl := []) (by kernel_rfl) ?_
        refine At.adv [5] [] 400 (ev := .stop c23x8 [.seq c23x9, .seq c23x10]) (σ' := mkS 24 [(0, .str x0), (1, .int .i64 x1), (2, .int .i64 x2)] []) (q := []) (by kernel_rfl) trivial ?_
        exact (wj23x1 x0 x1 x2)  r h Γ
theorem w23 {x0 : List UInt8} {x1 : Int} {x2 : Int} {r : Int} (h : m_armatureref02_there x0 x1 x2 = some r) : CallSpec Try.prog 23 [.str x0, .int .i64 x1, .int .i64 x2] (.int .i64 r) :=
  CallSpec.at2 b23 (n := 24) (l := [(0, .str x0), (1, .int .i64 x1), (2, .int .i64 x2)]) (by kernel_rfl) (by kernel_rfl) (by kernel_rfl) (by kernel_rfl) (by kernel_rfl) (Nat.le_of_ble_eq_true (by kernel_rfl)) (fun Γ => we23 x0 x1 x2 r h Γ)

/-! ### armature armatureref02.Signed -/
noncomputable def b15 : Code := Try.f15.body.getD .skip
noncomputable def c15x0 : Code := sub1 b15
noncomputable def c15x1 : Code := sub1 c15x0
noncomputable def c15x2 : Code := sub1 c15x1
noncomputable def c15x3 : Code := sub1 c15x2
noncomputable def c15x4 : Code := sub0 c15x3
noncomputable def c15x5 : Code := sub0 c15x4
noncomputable def c15x6 : Code := sub1 c15x4
noncomputable def c15x7 : Code := sub1 c15x3
noncomputable def c15x8 : Code := sub0 c15x2
noncomputable def c15x9 : Code := sub1 c15x8
noncomputable def c15x10 : Code := sub0 c15x9
noncomputable def c15x11 : Code := sub1 c15x9
noncomputable def c15x12 : Code := sub0 c15x0
noncomputable def c15x13 : Code := sub1 c15x12
noncomputable def c15x14 : Code := sub1 c15x13
noncomputable def c15x15 : Code := sub0 c15x14
noncomputable def c15x16 : Code := sub1 c15x14
noncomputable def c15x17 : Code := sub0 c15x6
noncomputable def c15x18 : Code := sub0 c15x17
noncomputable def c15x19 : Code := sub0 c15x18
noncomputable def c15x20 : Code := sub1 c15x19
noncomputable def c15x21 : Code := sub0 c15x20
noncomputable def c15x22 : Code := sub1 c15x20
noncomputable def c15x23 : Code := sub1 c15x18
def l15x1 (x0 : List UInt8) (x1 : Int) (x2 : Int) (t0 : Int × Int) : Option (Ctl (Int × Int) (Int)) :=
  if (decide (t0.2 < x2)) = true then
    ((some (IntKind.wrap .i64 (t0.1 * (256 : Int)))).bind fun v9 =>
    (some (IntKind.wrap .i64 (x1 + t0.2))).bind fun v10 =>
    (getS x0 v10).bind fun v11 =>
    (some (IntKind.wrap .i64 v11)).bind fun v12 =>
    (some (IntKind.wrap .i64 (v9 + v12))).bind fun v13 =>
    (some (IntKind.wrap .i64 (t0.2 + (1 : Int)))).bind fun v14 =>
    some (.next (v13, v14))) else
  (some (.done (t0.1)))
def j15x1 (x0 : List UInt8) (x1 : Int) (x2 : Int) (p0 : Int) : Option (Int × Int) :=
  (loopM (l15x1 x0 x1 x2) rounds (p0, 1)).bind fun q0 =>
  some (q0, 0)
def m_armatureref02_Signed (x0 : List UInt8) (x1 : Int) (x2 : Int) : Option (Int × Int) :=
  (m_armatureref02_there x0 x1 x2).bind fun v0 =>
  if (v0 != 0) = true then
    (some (0, v0)) else
  ((getS x0 x1).bind fun v1 =>
    (some (IntKind.wrap .i64 v1)).bind fun v2 =>
    if (decide (v2 > 127)) = true then
      ((some (IntKind.wrap .i64 (v2 - (256 : Int)))).bind fun v3 =>
      (j15x1 x0 x1 x2) v3) else
    ((j15x1 x0 x1 x2) v2))
def st15x1 (x0 : List UInt8) (x1 : Int) (x2 : Int) : (Int × Int) → S :=
  fun t0 => mkS 41 [(0, .str x0), (1, .int .i64 x1), (2, .int .i64 x2), (9, .int .i64 t0.1), (10, .int .i64 t0.2)] []
noncomputable def J15x1  : Int → Exit → S → Prop :=
  JExit 0 (fun q0 : Int => mkS 41 [(9, .int .i64 q0)] [])
theorem wl15x1 (x0 : List UInt8) (x1 : Int) (x2 : Int) (t0 : Int × Int) (r : Ctl (Int × Int) (Int)) (h : (l15x1 x0 x1 x2) t0 = some r) (Γ : Ctx) : At Try.prog Γ c15x18 [] (Round (st15x1 x0 x1 x2) J15x1 r) ((st15x1 x0 x1 x2) t0) := by
  refine At.adv [] [(8, { told := [], gs := [], keep := some ([0, 1, 2, 9, 10, 28], []) })] 400 (ev := .cond (decide (t0.2 < x2)) c15x21 c15x22 [.seq c15x23]) (σ' := mkS 41 [(0, .str x0), (1, .int .i64 x1), (2, .int .i64 x2), (9, .int .i64 t0.1), (10, .int .i64 t0.2), (28, .bool (decide (t0.2 < x2)))] []) (q := []) (by kernel_rfl) trivial ?_
  refine EvOk.cond (fun h3 => ?_) (fun h3 => ?_)
  · replace h := iteT h3 h
    refine At.gc [0, 1, 2, 9, 10] [] (n := 41) (l := [(0, .str x0), (1, .int .i64 x1), (2, .int .i64 x2), (9, .int .i64 t0.1), (10, .int .i64 t0.2)]) (bl := []) (by kernel_rfl) ?_
    obtain ⟨v9, e9, h⟩ := bindE h
    obtain ⟨v10, e10, h⟩ := bindE h
    obtain ⟨v11, e11, h⟩ := bindE h
    obtain ⟨v12, e12, h⟩ := bindE h
    obtain ⟨v13, e13, h⟩ := bindE h
    obtain ⟨v14, e14, h⟩ := bindE h
    refine At.adv [] [(10, { told := [(1, { ans := .val (.int .i64 v9) }), (5, { ans := .val (.int .i64 v10) }), (6, { ans := .val (.int .u8 v11) }), (7, { ans := .val (.int .i64 v12) }), (8, { ans := .val (.int .i64 v13) })], gs := [], keep := some ([0, 1, 2, 9, 10], []) }), (9, { told := [(1, { ans := .val (.int .i64 v14) })], gs := [], keep := some ([0, 1, 2, 9, 10], []) })] 400 (ev := .normal) (σ' := mkS 41 [(0, .str x0), (1, .int .i64 x1), (2, .int .i64 x2), (9, .int .i64 v13), (10, .int .i64 v14)] []) (q := [True ∧ (IntKind.wrap .i64 (t0.1 * (256 : Int)) = v9), True ∧ (IntKind.wrap .i64 (x1 + t0.2) = v10), True ∧ (getS x0 v10 = some v11), True ∧ (IntKind.wrap .i64 v11 = v12), True ∧ (IntKind.wrap .i64 (v9 + v12) = v13), True ∧ (IntKind.wrap .i64 (t0.2 + (1 : Int)) = v14)]) (by kernel_rfl) ⟨⟨trivial, someE e9⟩, ⟨trivial, someE e10⟩, ⟨trivial, e11⟩, ⟨trivial, someE e12⟩, ⟨trivial, someE e13⟩, ⟨trivial, someE e14⟩, trivial⟩ ?_
    refine EvOk.normal ?_
    obtain rfl := someE h
    exact Round.next (by kernel_rfl)
  · replace h := iteF h3 h
    refine At.gc [9] [] (n := 41) (l := [(9, .int .i64 t0.1)]) (bl := []) (by kernel_rfl) ?_
    refine At.adv [] [] 400 (ev := .exit 0) (σ' := mkS 41 [(9, .int .i64 t0.1)] []) (q := []) (by kernel_rfl) trivial ?_
    refine EvOk.exit ?_
    obtain rfl := someE h
    exact Round.done (neExit _) ⟨rfl, by kernel_rfl⟩
theorem wj15x1 (x0 : List UInt8) (x1 : Int) (x2 : Int) (p0 : Int) (r : Int × Int) (h : (j15x1 x0 x1 x2) p0 = some r) (Γ : Ctx) : EvOk Try.prog Γ (Den.Ends Try.prog Try.f15 (.tup [.int .i64 r.1, .int .i64 r.2])) (mkS 41 [(0, .str x0), (1, .int .i64 x1), (2, .int .i64 x2), (9, .int .i64 p0)] []) (.stop c15x5 [.seq c15x6, .seq c15x7]) := by
  refine EvOk.stop ?_
  refine At.adv [] [(7, { told := [], gs := [], keep := some ([0, 1, 2, 9, 10], []) })] 400 (ev := .loop c15x18 [.blk 0, .seq c15x7]) (σ' := mkS 41 [(0, .str x0), (1, .int .i64 x1), (2, .int .i64 x2), (9, .int .i64 p0), (10, .int .i64 1)] []) (q := []) (by kernel_rfl) trivial ?_
  refine EvOk.loop ?_
  obtain ⟨q0, e15, h⟩ := bindE h
  refine At.loop (l15x1 x0 x1 x2) (st15x1 x0 x1 x2) J15x1 (p0, 1) e15 (by kernel_rfl) (fun t x hx => (wl15x1 x0 x1 x2) t x hx Γ) ?_
  intro e σ' hJ
  obtain ⟨rfl, rfl⟩ := hJ
  refine At.exitK (K' := [.seq c15x7]) (by kernel_rfl) ?_
  refine At.advN [] [(11, { told := [], gs := [], keep := some ([6, 7], []) })] 400 (ev := .ret) (σ' := mkS 41 [(6, .int .i64 q0), (7, .int .i64 0)] []) (q := []) (by kernel_rfl) trivial ?_
  refine EvOk.ret ?_
  obtain rfl := someE h
  exact Den.Ends.mk (.inl rfl) (d := .tup [.int .i64 q0, .int .i64 0]) (p := (True ∧ (True ∧ True)) ∧ (True ∧ (True ∧ True))) (by kernel_rfl) ⟨⟨trivial, ⟨trivial, trivial⟩⟩, ⟨trivial, ⟨trivial, trivial⟩⟩⟩ (by kernel_rfl)
theorem we15 (x0 : List UInt8) (x1 : Int) (x2 : Int) (r : Int × Int) (h : m_armatureref02_Signed x0 x1 x2 = some r) (Γ : Ctx) : At Try.prog Γ b15 [] (Den.Ends Try.prog Try.f15 (.tup [.int .i64 r.1, .int .i64 r.2])) (mkS 41 [(0, .str x0), (1, .int .i64 x1), (2, .int .i64 x2)] []) := by
  obtain ⟨v0, e0, h⟩ := bindE h
  refine At.adv [] [(0, { told := [], gs := [], keep := some ([0, 1, 2], []) }), (1, { told := [(3, { ans := .val (.int .i64 v0), args := [.str x0, .int .i64 x1, .int .i64 x2] })], gs := [], keep := some ([0, 1, 2, 8], []) }), (2, { told := [], gs := [], keep := some ([0, 1, 2, 8, 16], []) })] 400 (ev := .cond (v0 != 0) c15x15 c15x16 [.seq c15x1]) (σ' := mkS 41 [(0, .str x0), (1, .int .i64 x1), (2, .int .i64 x2), (8, .int .i64 v0), (16, .bool (v0 != 0))] []) (q := [True ∧ ((True ∧ (True ∧ (True ∧ True))) ∧ ([.str x0, .int .i64 x1, .int .i64 x2] : List D) = [.str x0, .int .i64 x1, .int .i64 x2] ∧ CallSpec Try.prog 23 [.str x0, .int .i64 x1, .int .i64 x2] (.int .i64 v0))]) (by kernel_rfl) ⟨⟨trivial, ⟨⟨trivial, ⟨trivial, ⟨trivial, trivial⟩⟩⟩, rfl, w23 e0⟩⟩, trivial⟩ ?_
  refine EvOk.cond (fun h0 => ?_) (fun h0 => ?_)
  · replace h := iteT h0 h
    refine At.gc [8] [] (n := 41) (l := [(8, .int .i64 v0)]) (bl := []) (by kernel_rfl) ?_
    refine At.adv [] [(3, { told := [], gs := [], keep := some ([6, 7], []) })] 400 (ev := .ret) (σ' := mkS 41 [(6, .int .i64 0), (7, .int .i64 v0)] []) (q := []) (by kernel_rfl) trivial ?_
    refine EvOk.ret ?_
    obtain rfl := someE h
    exact Den.Ends.mk (.inl rfl) (d := .tup [.int .i64 0, .int .i64 v0]) (p := (True ∧ (True ∧ True)) ∧ (True ∧ (True ∧ True))) (by kernel_rfl) ⟨⟨trivial, ⟨trivial, trivial⟩⟩, ⟨trivial, ⟨trivial, trivial⟩⟩⟩ (by kernel_rfl)
  · replace h := iteF h0 h
    refine At.gc [0, 1, 2] [] (n := 41) (l := [(0, .str x0), (1, .int .i64 x1), (2, .int .i64 x2)]) (bl := []) (by kernel_rfl) ?_
    obtain ⟨v1, e1, h⟩ := bindE h
    obtain ⟨v2, e2, h⟩ := bindE h
    refine At.adv [] [(4, { told := [(2, { ans := .val (.int .u8 v1) }), (3, { ans := .val (.int .i64 v2) })], gs := [], keep := some ([0, 1, 2, 9], []) }), (5, { told := [], gs := [], keep := some ([0, 1, 2, 9, 23], []) })] 400 (ev := .cond (decide (v2 > 127)) c15x10 c15x11 [.seq c15x3]) (σ' := mkS 41 [(0, .str x0), (1, .int .i64 x1), (2, .int .i64 x2), (9, .int .i64 v2), (23, .bool (decide (v2 > 127)))] []) (q := [True ∧ (getS x0 x1 = some v1), True ∧ (IntKind.wrap .i64 v1 = v2)]) (by kernel_rfl) ⟨⟨trivial, e1⟩, ⟨trivial, someE e2⟩, trivial⟩ ?_
    refine EvOk.cond (fun h1 => ?_) (fun h1 => ?_)
    · replace h := iteT h1 h
      refine At.gc [0, 1, 2, 9] [] (n := 41) (l := [(0, .str x0), (1, .int .i64 x1), (2, .int .i64 x2), (9, .int .i64 v2)]) (bl := []) (by kernel_rfl) ?_
      obtain ⟨v3, e3, h⟩ := bindE h
      refine At.adv [7] [(6, { told := [(1, { ans := .val (.int .i64 v3) })], gs := [], keep := some ([0, 1, 2, 9], []) })] 400 (ev := .stop c15x5 [.seq c15x6, .seq c15x7]) (σ' := mkS 41 [(0, .str x0), (1, .int .i64 x1), (2, .int .i64 x2), (9, .int .i64 v3)] []) (q := [True ∧ (IntKind.wrap .i64 (v2 - (256 : Int)) = v3)]) (by kernel_rfl) ⟨⟨trivial, someE e3⟩, trivial⟩ ?_
      exact (wj15x1 x0 x1 x2) v3 r h Γ
    · replace h := iteF h1 h
      refine At.gc [0, 1, 2, 9] [] (n := 41) (l := [(0, .str x0), (1, .int .i64 x1), (2, .int .i64 x2), (9, .int .i64 v2)]) (bl := []) (by kernel_rfl) ?_
      refine At.adv [7] [] 400 (ev := .stop c15x5 [.seq c15x6, .seq c15x7]) (σ' := mkS 41 [(0, .str x0), (1, .int .i64 x1), (2, .int .i64 x2), (9, .int .i64 v2)] []) (q := []) (by kernel_rfl) trivial ?_
      exact (wj15x1 x0 x1 x2) v2 r h Γ
theorem w15 {x0 : List UInt8} {x1 : Int} {x2 : Int} {r : Int × Int} (h : m_armatureref02_Signed x0 x1 x2 = some r) : CallSpec Try.prog 15 [.str x0, .int .i64 x1, .int .i64 x2] (.tup [.int .i64 r.1, .int .i64 r.2]) :=
  CallSpec.at2 b15 (n := 41) (l := [(0, .str x0), (1, .int .i64 x1), (2, .int .i64 x2)]) (by kernel_rfl) (by kernel_rfl) (by kernel_rfl) (by kernel_rfl) (by kernel_rfl) (Nat.le_of_ble_eq_true (by kernel_rfl)) (fun Γ => we15 x0 x1 x2 r h Γ)

/-! ### armature armatureref02.Unsigned -/
noncomputable def b13 : Code := Try.f13.body.getD .skip
noncomputable def c13x0 : Code := sub1 b13
noncomputable def c13x1 : Code := sub1 c13x0
noncomputable def c13x2 : Code := sub0 c13x1
noncomputable def c13x3 : Code := sub1 c13x2
noncomputable def c13x4 : Code := sub0 c13x3
noncomputable def c13x5 : Code := sub1 c13x1
noncomputable def c13x6 : Code := sub1 c13x3
def j13x1 (v0 : Int × Int) (x2 : Int) : Option (Int × Int) :=
  (some (IntKind.wrap .i64 ((8 : Int) * x2))).bind fun v1 =>
  (shlK .i64 (1 : Int) v1).bind fun v2 =>
  (some (IntKind.wrap .i64 (v0.1 + v2))).bind fun v3 =>
  some (v3, v0.2)
def m_armatureref02_Unsigned (x0 : List UInt8) (x1 : Int) (x2 : Int) : Option (Int × Int) :=
  (m_armatureref02_Signed x0 x1 x2).bind fun v0 =>
  if (v0.2 == 0) = true then (if (decide (x2 < 8)) = true then (if (decide (v0.1 < 0)) = true then
    ((j13x1 v0 x2) ) else
  (some (v0.1, v0.2))) else
  (some (v0.1, v0.2))) else
  (some (v0.1, v0.2))
theorem wj13x1 (v0 : Int × Int) (x2 : Int) (r : Int × Int) (h : (j13x1 v0 x2)  = some r) (Γ : Ctx) : EvOk Try.prog Γ (Den.Ends Try.prog Try.f13 (.tup [.int .i64 r.1, .int .i64 r.2])) (mkS 34 [(2, .int .i64 x2), (8, .int .i64 v0.1), (9, .int .i64 v0.2)] []) (.stop c13x4 [.seq c13x5]) := by
  refine EvOk.stop ?_
  obtain ⟨v1, e1, h⟩ := bindE h
  obtain ⟨v2, e2, h⟩ := bindE h
  obtain ⟨v3, e3, h⟩ := bindE h
  refine At.adv [] [(3, { told := [(2, { ans := .val (.int .i64 v1) }), (3, { ans := .val (.int .i64 v2) }), (4, { ans := .val (.int .i64 v3) })], gs := [], keep := some ([8, 9], []) }), (4, { told := [], gs := [], keep := some ([6, 7], []) })] 400 (ev := .ret) (σ' := mkS 34 [(6, .int .i64 v3), (7, .int .i64 v0.2)] []) (q := [True ∧ (IntKind.wrap .i64 ((8 : Int) * x2) = v1), True ∧ (0 ≤ v1 ∧ IntKind.wrap .i64 ((1 : Int) * 2 ^ (min (v1).toNat (IntKind.bits .i64))) = v2), True ∧ (IntKind.wrap .i64 (v0.1 + v2) = v3)]) (by kernel_rfl) ⟨⟨trivial, someE e1⟩, ⟨trivial, shlK_spec e2⟩, ⟨trivial, someE e3⟩, trivial⟩ ?_
  refine EvOk.ret ?_
  obtain rfl := someE h
  exact Den.Ends.mk (.inl rfl) (d := .tup [.int .i64 v3, .int .i64 v0.2]) (p := (True ∧ (True ∧ True)) ∧ (True ∧ (True ∧ True))) (by kernel_rfl) ⟨⟨trivial, ⟨trivial, trivial⟩⟩, ⟨trivial, ⟨trivial, trivial⟩⟩⟩ (by kernel_rfl)
theorem we13 (x0 : List UInt8) (x1 : Int) (x2 : Int) (r : Int × Int) (h : m_armatureref02_Unsigned x0 x1 x2 = some r) (Γ : Ctx) : At Try.prog Γ b13 [] (Den.Ends Try.prog Try.f13 (.tup [.int .i64 r.1, .int .i64 r.2])) (mkS 34 [(0, .str x0), (1, .int .i64 x1), (2, .int .i64 x2)] []) := by
  obtain ⟨v0, e0, h⟩ := bindE h
  rcases Bool.eq_false_or_eq_true (v0.2 == 0) with h0 | h0
  · replace h := iteT h0 h
    rcases Bool.eq_false_or_eq_true (decide (x2 < 8)) with h1 | h1
    · replace h := iteT h1 h
      refine At.adv [] [(0, { told := [], gs := [], keep := some ([0, 1, 2], []) }), (1, { told := [(3, { ans := .val (.tup [.int .i64 v0.1, .int .i64 v0.2]), args := [.str x0, .int .i64 x1, .int .i64 x2] })], gs := [], keep := some ([2, 8, 9], []) }), (2, { told := [(5, { ans := .yes }), (9, { ans := .yes })], gs := [(3, true), (4, true), (7, true), (8, true)], keep := some ([2, 8, 9, 26], []) })] 400 (ev := .cond (decide (v0.1 < 0)) c13x4 c13x6 [.seq c13x5]) (σ' := mkS 34 [(2, .int .i64 x2), (8, .int .i64 v0.1), (9, .int .i64 v0.2), (26, .bool (decide (v0.1 < 0)))] []) (q := [True ∧ ((True ∧ (True ∧ (True ∧ True))) ∧ ([.str x0, .int .i64 x1, .int .i64 x2] : List D) = [.str x0, .int .i64 x1, .int .i64 x2] ∧ CallSpec Try.prog 15 [.str x0, .int .i64 x1, .int .i64 x2] (.tup [.int .i64 v0.1, .int .i64 v0.2])), ((v0.2 == 0) == true) = true ∧ True, ((v0.2 == 0) == true) = true ∧ True, True ∧ ((v0.2 == 0) = true), ((decide (x2 < 8)) == true) = true ∧ True, ((decide (x2 < 8)) == true) = true ∧ True, True ∧ ((decide (x2 < 8)) = true)]) (by kernel_rfl) ⟨⟨trivial, ⟨⟨trivial, ⟨trivial, ⟨trivial, trivial⟩⟩⟩, rfl, w15 e0⟩⟩, ⟨(gB h0 rfl), trivial⟩, ⟨(gB h0 rfl), trivial⟩, ⟨trivial, h0⟩, ⟨(gB h1 rfl), trivial⟩, ⟨(gB h1 rfl), trivial⟩, ⟨trivial, h1⟩, trivial⟩ ?_
      refine EvOk.cond (fun h2 => ?_) (fun h2 => ?_)
      · replace h := iteT h2 h
        refine At.gc [2, 8, 9] [] (n := 34) (l := [(2, .int .i64 x2), (8, .int .i64 v0.1), (9, .int .i64 v0.2)]) (bl := []) (by kernel_rfl) ?_
        refine At.adv [3] [] 400 (ev := .stop c13x4 [.seq c13x5]) (σ' := mkS 34 [(2, .int .i64 x2), (8, .int .i64 v0.1), (9, .int .i64 v0.2)] []) (q := []) (by kernel_rfl) trivial ?_
        exact (wj13x1 v0 x2)  r h Γ
      · replace h := iteF h2 h
        refine At.gc [8, 9] [] (n := 34) (l := [(8, .int .i64 v0.1), (9, .int .i64 v0.2)]) (bl := []) (by kernel_rfl) ?_
        refine At.adv [] [(4, { told := [], gs := [], keep := some ([6, 7], []) })] 400 (ev := .ret) (σ' := mkS 34 [(6, .int .i64 v0.1), (7, .int .i64 v0.2)] []) (q := []) (by kernel_rfl) trivial ?_
        refine EvOk.ret ?_
        obtain rfl := someE h
        exact Den.Ends.mk (.inl rfl) (d := .tup [.int .i64 v0.1, .int .i64 v0.2]) (p := (True ∧ (True ∧ True)) ∧ (True ∧ (True ∧ True))) (by kernel_rfl) ⟨⟨trivial, ⟨trivial, trivial⟩⟩, ⟨trivial, ⟨trivial, trivial⟩⟩⟩ (by kernel_rfl)
    · replace h := iteF h1 h
      refine At.adv [] [(0, { told := [], gs := [], keep := some ([0, 1, 2], []) }), (1, { told := [(3, { ans := .val (.tup [.int .i64 v0.1, .int .i64 v0.2]), args := [.str x0, .int .i64 x1, .int .i64 x2] })], gs := [], keep := some ([2, 8, 9], []) }), (2, { told := [(5, { ans := .yes }), (9, { ans := .no })], gs := [(3, true), (4, true), (7, false), (8, false)], keep := some ([2, 8, 9, 26], []) })] 400 (ev := .cond false c13x4 c13x6 [.seq c13x5]) (σ' := mkS 34 [(2, .int .i64 x2), (8, .int .i64 v0.1), (9, .int .i64 v0.2), (26, .bool false)] []) (q := [True ∧ ((True ∧ (True ∧ (True ∧ True))) ∧ ([.str x0, .int .i64 x1, .int .i64 x2] : List D) = [.str x0, .int .i64 x1, .int .i64 x2] ∧ CallSpec Try.prog 15 [.str x0, .int .i64 x1, .int .i64 x2] (.tup [.int .i64 v0.1, .int .i64 v0.2])), ((v0.2 == 0) == true) = true ∧ True, ((v0.2 == 0) == true) = true ∧ True, True ∧ ((v0.2 == 0) = true), ((decide (x2 < 8)) == true) = false, ((decide (x2 < 8)) == true) = false, True ∧ ((decide (x2 < 8)) = false)]) (by kernel_rfl) ⟨⟨trivial, ⟨⟨trivial, ⟨trivial, ⟨trivial, trivial⟩⟩⟩, rfl, w15 e0⟩⟩, ⟨(gB h0 rfl), trivial⟩, ⟨(gB h0 rfl), trivial⟩, ⟨trivial, h0⟩, gB h1 rfl, gB h1 rfl, ⟨trivial, h1⟩, trivial⟩ ?_
      refine EvOk.cond (fun hb => Bool.noConfusion hb) (fun _ => ?_)
      refine At.gc [8, 9] [] (n := 34) (l := [(8, .int .i64 v0.1), (9, .int .i64 v0.2)]) (bl := []) (by kernel_rfl) ?_
      refine At.adv [] [(4, { told := [], gs := [], keep := some ([6, 7], []) })] 400 (ev := .ret) (σ' := mkS 34 [(6, .int .i64 v0.1), (7, .int .i64 v0.2)] []) (q := []) (by kernel_rfl) trivial ?_
      refine EvOk.ret ?_
      obtain rfl := someE h
      exact Den.Ends.mk (.inl rfl) (d := .tup [.int .i64 v0.1, .int .i64 v0.2]) (p := (True ∧ (True ∧ True)) ∧ (True ∧ (True ∧ True))) (by kernel_rfl) ⟨⟨trivial, ⟨trivial, trivial⟩⟩, ⟨trivial, ⟨trivial, trivial⟩⟩⟩ (by kernel_rfl)
  · replace h := iteF h0 h
    refine At.adv [] [(0, { told := [], gs := [], keep := some ([0, 1, 2], []) }), (1, { told := [(3, { ans := .val (.tup [.int .i64 v0.1, .int .i64 v0.2]), args := [.str x0, .int .i64 x1, .int .i64 x2] })], gs := [], keep := some ([2, 8, 9], []) }), (2, { told := [(5, { ans := .no })], gs := [(3, false), (4, false)], keep := some ([2, 8, 9, 26], []) })] 400 (ev := .cond false c13x4 c13x6 [.seq c13x5]) (σ' := mkS 34 [(2, .int .i64 x2), (8, .int .i64 v0.1), (9, .int .i64 v0.2), (26, .bool false)] []) (q := [True ∧ ((True ∧ (True ∧ (True ∧ True))) ∧ ([.str x0, .int .i64 x1, .int .i64 x2] : List D) = [.str x0, .int .i64 x1, .int .i64 x2] ∧ CallSpec Try.prog 15 [.str x0, .int .i64 x1, .int .i64 x2] (.tup [.int .i64 v0.1, .int .i64 v0.2])), ((v0.2 == 0) == true) = false, ((v0.2 == 0) == true) = false, True ∧ ((v0.2 == 0) = false), True, True]) (by kernel_rfl) ⟨⟨trivial, ⟨⟨trivial, ⟨trivial, ⟨trivial, trivial⟩⟩⟩, rfl, w15 e0⟩⟩, gB h0 rfl, gB h0 rfl, ⟨trivial, h0⟩, trivial, trivial, trivial⟩ ?_
    refine EvOk.cond (fun hb => Bool.noConfusion hb) (fun _ => ?_)
    refine At.gc [8, 9] [] (n := 34) (l := [(8, .int .i64 v0.1), (9, .int .i64 v0.2)]) (bl := []) (by kernel_rfl) ?_
    refine At.adv [] [(4, { told := [], gs := [], keep := some ([6, 7], []) })] 400 (ev := .ret) (σ' := mkS 34 [(6, .int .i64 v0.1), (7, .int .i64 v0.2)] []) (q := []) (by kernel_rfl) trivial ?_
    refine EvOk.ret ?_
    obtain rfl := someE h
    exact Den.Ends.mk (.inl rfl) (d := .tup [.int .i64 v0.1, .int .i64 v0.2]) (p := (True ∧ (True ∧ True)) ∧ (True ∧ (True ∧ True))) (by kernel_rfl) ⟨⟨trivial, ⟨trivial, trivial⟩⟩, ⟨trivial, ⟨trivial, trivial⟩⟩⟩ (by kernel_rfl)
theorem w13 {x0 : List UInt8} {x1 : Int} {x2 : Int} {r : Int × Int} (h : m_armatureref02_Unsigned x0 x1 x2 = some r) : CallSpec Try.prog 13 [.str x0, .int .i64 x1, .int .i64 x2] (.tup [.int .i64 r.1, .int .i64 r.2]) :=
  CallSpec.at2 b13 (n := 34) (l := [(0, .str x0), (1, .int .i64 x1), (2, .int .i64 x2)]) (by kernel_rfl) (by kernel_rfl) (by kernel_rfl) (by kernel_rfl) (by kernel_rfl) (Nat.le_of_ble_eq_true (by kernel_rfl)) (fun Γ => we13 x0 x1 x2 r h Γ)

/-! ### armature armaturelaw02.OctetGetReference -/
noncomputable def b4 : Code := Try.f4.body.getD .skip
def m_armaturelaw02_OctetGetReference (x0 : List UInt8) (x1 : Int) (x2 : Int) : Option (Bool) :=
  (m_octet_Unsigned x0 x1 x2).bind fun v0 =>
  (m_armatureref02_Unsigned x0 x1 x2).bind fun v1 =>
  (m_octet_Signed x0 x1 x2).bind fun v2 =>
  (m_armatureref02_Signed x0 x1 x2).bind fun v3 =>
  (m_armaturelaw02_awake).bind fun v4 =>
  if v4 = true then (if (v0.1 == v1.1) = true then (if (v0.2 == v1.2) = true then (if (v2.1 == v3.1) = true then (some (v2.2 == v3.2)) else
  (some false)) else
  (some false)) else
  (some false)) else
  (some false)
theorem we4 (x0 : List UInt8) (x1 : Int) (x2 : Int) (r : Bool) (h : m_armaturelaw02_OctetGetReference x0 x1 x2 = some r) (Γ : Ctx) : At Try.prog Γ b4 [] (Den.Ends Try.prog Try.f4 (.bool r)) (mkS 64 [(0, .str x0), (1, .int .i64 x1), (2, .int .i64 x2)] []) := by
  obtain ⟨v0, e0, h⟩ := bindE h
  obtain ⟨v1, e1, h⟩ := bindE h
  obtain ⟨v2, e2, h⟩ := bindE h
  obtain ⟨v3, e3, h⟩ := bindE h
  obtain ⟨v4, e4, h⟩ := bindE h
  rcases Bool.eq_false_or_eq_true v4 with h0 | h0
  · replace h := iteT h0 h
    rcases Bool.eq_false_or_eq_true (v0.1 == v1.1) with h1 | h1
    · replace h := iteT h1 h
      rcases Bool.eq_false_or_eq_true (v0.2 == v1.2) with h2 | h2
      · replace h := iteT h2 h
        rcases Bool.eq_false_or_eq_true (v2.1 == v3.1) with h3 | h3
        · replace h := iteT h3 h
          refine At.adv [] [(0, { told := [], gs := [], keep := some ([0, 1, 2], []) }), (1, { told := [(3, { ans := .val (.tup [.int .i64 v0.1, .int .i64 v0.2]), args := [.str x0, .int .i64 x1, .int .i64 x2] })], gs := [], keep := some ([0, 1, 2, 7, 8], []) }), (2, { told := [(3, { ans := .val (.tup [.int .i64 v1.1, .int .i64 v1.2]), args := [.str x0, .int .i64 x1, .int .i64 x2] })], gs := [], keep := some ([0, 1, 2, 7, 8, 9, 10], []) }), (3, { told := [(3, { ans := .val (.tup [.int .i64 v2.1, .int .i64 v2.2]), args := [.str x0, .int .i64 x1, .int .i64 x2] })], gs := [], keep := some ([0, 1, 2, 7, 8, 9, 10, 11, 12], []) }), (4, { told := [(3, { ans := .val (.tup [.int .i64 v3.1, .int .i64 v3.2]), args := [.str x0, .int .i64 x1, .int .i64 x2] })], gs := [], keep := some ([7, 8, 9, 10, 11, 12, 13, 14], []) }), (5, { told := [(0, { ans := .val (.bool v4), args := [] }), (5, { ans := .yes }), (10, { ans := .yes }), (15, { ans := .yes }), (20, { ans := .yes })], gs := [(2, true), (3, true), (4, true), (7, true), (8, true), (9, true), (12, true), (13, true), (14, true), (17, true), (18, true), (19, true)], keep := some ([6], []) })] 400 (ev := .ret) (σ' := mkS 64 [(6, .bool (v2.2 == v3.2))] []) (q := [True ∧ ((True ∧ (True ∧ (True ∧ True))) ∧ ([.str x0, .int .i64 x1, .int .i64 x2] : List D) = [.str x0, .int .i64 x1, .int .i64 x2] ∧ CallSpec Try.prog 12 [.str x0, .int .i64 x1, .int .i64 x2] (.tup [.int .i64 v0.1, .int .i64 v0.2])), True ∧ ((True ∧ (True ∧ (True ∧ True))) ∧ ([.str x0, .int .i64 x1, .int .i64 x2] : List D) = [.str x0, .int .i64 x1, .int .i64 x2] ∧ CallSpec Try.prog 13 [.str x0, .int .i64 x1, .int .i64 x2] (.tup [.int .i64 v1.1, .int .i64 v1.2])), True ∧ ((True ∧ (True ∧ (True ∧ True))) ∧ ([.str x0, .int .i64 x1, .int .i64 x2] : List D) = [.str x0, .int .i64 x1, .int .i64 x2] ∧ CallSpec Try.prog 14 [.str x0, .int .i64 x1, .int .i64 x2] (.tup [.int .i64 v2.1, .int .i64 v2.2])), True ∧ ((True ∧ (True ∧ (True ∧ True))) ∧ ([.str x0, .int .i64 x1, .int .i64 x2] : List D) = [.str x0, .int .i64 x1, .int .i64 x2] ∧ CallSpec Try.prog 15 [.str x0, .int .i64 x1, .int .i64 x2] (.tup [.int .i64 v3.1, .int .i64 v3.2])), True ∧ (True ∧ ([] : List D) = [] ∧ CallSpec Try.prog 11 [] (.bool v4)), (v4 == true) = true ∧ True, (v4 == true) = true ∧ True, (v4 == true) = true ∧ True, True ∧ (v4 = true), ((v0.1 == v1.1) == true) = true ∧ True, ((v0.1 == v1.1) == true) = true ∧ True, ((v0.1 == v1.1) == true) = true ∧ True, True ∧ ((v0.1 == v1.1) = true), ((v0.2 == v1.2) == true) = true ∧ True, ((v0.2 == v1.2) == true) = true ∧ True, ((v0.2 == v1.2) == true) = true ∧ True, True ∧ ((v0.2 == v1.2) = true), ((v2.1 == v3.1) == true) = true ∧ True, ((v2.1 == v3.1) == true) = true ∧ True, ((v2.1 == v3.1) == true) = true ∧ True, True ∧ ((v2.1 == v3.1) = true)]) (by kernel_rfl) ⟨⟨trivial, ⟨⟨trivial, ⟨trivial, ⟨trivial, trivial⟩⟩⟩, rfl, w12 e0⟩⟩, ⟨trivial, ⟨⟨trivial, ⟨trivial, ⟨trivial, trivial⟩⟩⟩, rfl, w13 e1⟩⟩, ⟨trivial, ⟨⟨trivial, ⟨trivial, ⟨trivial, trivial⟩⟩⟩, rfl, w14 e2⟩⟩, ⟨trivial, ⟨⟨trivial, ⟨trivial, ⟨trivial, trivial⟩⟩⟩, rfl, w15 e3⟩⟩, ⟨trivial, ⟨trivial, rfl, w11 e4⟩⟩, ⟨(gB h0 rfl), trivial⟩, ⟨(gB h0 rfl), trivial⟩, ⟨(gB h0 rfl), trivial⟩, ⟨trivial, h0⟩, ⟨(gB h1 rfl), trivial⟩, ⟨(gB h1 rfl), trivial⟩, ⟨(gB h1 rfl), trivial⟩, ⟨trivial, h1⟩, ⟨(gB h2 rfl), trivial⟩, ⟨(gB h2 rfl), trivial⟩, ⟨(gB h2 rfl), trivial⟩, ⟨trivial, h2⟩, ⟨(gB h3 rfl), trivial⟩, ⟨(gB h3 rfl), trivial⟩, ⟨(gB h3 rfl), trivial⟩, ⟨trivial, h3⟩, trivial⟩ ?_
          refine EvOk.ret ?_
          obtain rfl := someE h
          exact Den.Ends.mk (.inl rfl) (d := .bool (v2.2 == v3.2)) (p := (True ∧ True) ∧ (True ∧ True)) (by kernel_rfl) ⟨⟨trivial, trivial⟩, ⟨trivial, trivial⟩⟩ (by kernel_rfl)
        · replace h := iteF h3 h
          refine At.adv [] [(0, { told := [], gs := [], keep := some ([0, 1, 2], []) }), (1, { told := [(3, { ans := .val (.tup [.int .i64 v0.1, .int .i64 v0.2]), args := [.str x0, .int .i64 x1, .int .i64 x2] })], gs := [], keep := some ([0, 1, 2, 7, 8], []) }), (2, { told := [(3, { ans := .val (.tup [.int .i64 v1.1, .int .i64 v1.2]), args := [.str x0, .int .i64 x1, .int .i64 x2] })], gs := [], keep := some ([0, 1, 2, 7, 8, 9, 10], []) }), (3, { told := [(3, { ans := .val (.tup [.int .i64 v2.1, .int .i64 v2.2]), args := [.str x0, .int .i64 x1, .int .i64 x2] })], gs := [], keep := some ([0, 1, 2, 7, 8, 9, 10, 11, 12], []) }), (4, { told := [(3, { ans := .val (.tup [.int .i64 v3.1, .int .i64 v3.2]), args := [.str x0, .int .i64 x1, .int .i64 x2] })], gs := [], keep := some ([7, 8, 9, 10, 11, 12, 13, 14], []) }), (5, { told := [(0, { ans := .val (.bool v4), args := [] }), (5, { ans := .yes }), (10, { ans := .yes }), (15, { ans := .yes }), (20, { ans := .no })], gs := [(2, true), (3, true), (4, true), (7, true), (8, true), (9, true), (12, true), (13, true), (14, true), (17, false), (18, false), (19, false)], keep := some ([6], []) })] 400 (ev := .ret) (σ' := mkS 64 [(6, .bool false)] []) (q := [True ∧ ((True ∧ (True ∧ (True ∧ True))) ∧ ([.str x0, .int .i64 x1, .int .i64 x2] : List D) = [.str x0, .int .i64 x1, .int .i64 x2] ∧ CallSpec Try.prog 12 [.str x0, .int .i64 x1, .int .i64 x2] (.tup [.int .i64 v0.1, .int .i64 v0.2])), True ∧ ((True ∧ (True ∧ (True ∧ True))) ∧ ([.str x0, .int .i64 x1, .int .i64 x2] : List D) = [.str x0, .int .i64 x1, .int .i64 x2] ∧ CallSpec Try.prog 13 [.str x0, .int .i64 x1, .int .i64 x2] (.tup [.int .i64 v1.1, .int .i64 v1.2])), True ∧ ((True ∧ (True ∧ (True ∧ True))) ∧ ([.str x0, .int .i64 x1, .int .i64 x2] : List D) = [.str x0, .int .i64 x1, .int .i64 x2] ∧ CallSpec Try.prog 14 [.str x0, .int .i64 x1, .int .i64 x2] (.tup [.int .i64 v2.1, .int .i64 v2.2])), True ∧ ((True ∧ (True ∧ (True ∧ True))) ∧ ([.str x0, .int .i64 x1, .int .i64 x2] : List D) = [.str x0, .int .i64 x1, .int .i64 x2] ∧ CallSpec Try.prog 15 [.str x0, .int .i64 x1, .int .i64 x2] (.tup [.int .i64 v3.1, .int .i64 v3.2])), True ∧ (True ∧ ([] : List D) = [] ∧ CallSpec Try.prog 11 [] (.bool v4)), (v4 == true) = true ∧ True, (v4 == true) = true ∧ True, (v4 == true) = true ∧ True, True ∧ (v4 = true), ((v0.1 == v1.1) == true) = true ∧ True, ((v0.1 == v1.1) == true) = true ∧ True, ((v0.1 == v1.1) == true) = true ∧ True, True ∧ ((v0.1 == v1.1) = true), ((v0.2 == v1.2) == true) = true ∧ True, ((v0.2 == v1.2) == true) = true ∧ True, ((v0.2 == v1.2) == true) = true ∧ True, True ∧ ((v0.2 == v1.2) = true), ((v2.1 == v3.1) == true) = false, ((v2.1 == v3.1) == true) = false, ((v2.1 == v3.1) == true) = false, True ∧ ((v2.1 == v3.1) = false)]) (by kernel_rfl) ⟨⟨trivial, ⟨⟨trivial, ⟨trivial, ⟨trivial, trivial⟩⟩⟩, rfl, w12 e0⟩⟩, ⟨trivial, ⟨⟨trivial, ⟨trivial, ⟨trivial, trivial⟩⟩⟩, rfl, w13 e1⟩⟩, ⟨trivial, ⟨⟨trivial, ⟨trivial, ⟨trivial, trivial⟩⟩⟩, rfl, w14 e2⟩⟩, ⟨trivial, ⟨⟨trivial, ⟨trivial, ⟨trivial, trivial⟩⟩⟩, rfl, w15 e3⟩⟩, ⟨trivial, ⟨trivial, rfl, w11 e4⟩⟩, ⟨(gB h0 rfl), trivial⟩, ⟨(gB h0 rfl), trivial⟩, ⟨(gB h0 rfl), trivial⟩, ⟨trivial, h0⟩, ⟨(gB h1 rfl), trivial⟩, ⟨(gB h1 rfl), trivial⟩, ⟨(gB h1 rfl), trivial⟩, ⟨trivial, h1⟩, ⟨(gB h2 rfl), trivial⟩, ⟨(gB h2 rfl), trivial⟩, ⟨(gB h2 rfl), trivial⟩, ⟨trivial, h2⟩, gB h3 rfl, gB h3 rfl, gB h3 rfl, ⟨trivial, h3⟩, trivial⟩ ?_
          refine EvOk.ret ?_
          obtain rfl := someE h
          exact Den.Ends.mk (.inl rfl) (d := .bool false) (p := (True ∧ True) ∧ (True ∧ True)) (by kernel_rfl) ⟨⟨trivial, trivial⟩, ⟨trivial, trivial⟩⟩ (by kernel_rfl)
      · replace h := iteF h2 h
        refine At.adv [] [(0, { told := [], gs := [], keep := some ([0, 1, 2], []) }), (1, { told := [(3, { ans := .val (.tup [.int .i64 v0.1, .int .i64 v0.2]), args := [.str x0, .int .i64 x1, .int .i64 x2] })], gs := [], keep := some ([0, 1, 2, 7, 8], []) }), (2, { told := [(3, { ans := .val (.tup [.int .i64 v1.1, .int .i64 v1.2]), args := [.str x0, .int .i64 x1, .int .i64 x2] })], gs := [], keep := some ([0, 1, 2, 7, 8, 9, 10], []) }), (3, { told := [(3, { ans := .val (.tup [.int .i64 v2.1, .int .i64 v2.2]), args := [.str x0, .int .i64 x1, .int .i64 x2] })], gs := [], keep := some ([0, 1, 2, 7, 8, 9, 10, 11, 12], []) }), (4, { told := [(3, { ans := .val (.tup [.int .i64 v3.1, .int .i64 v3.2]), args := [.str x0, .int .i64 x1, .int .i64 x2] })], gs := [], keep := some ([7, 8, 9, 10, 11, 12, 13, 14], []) }), (5, { told := [(0, { ans := .val (.bool v4), args := [] }), (5, { ans := .yes }), (10, { ans := .yes }), (15, { ans := .no })], gs := [(2, true), (3, true), (4, true), (7, true), (8, true), (9, true), (12, false), (13, false), (14, false)], keep := some ([6], []) })] 400 (ev := .ret) (σ' := mkS 64 [(6, .bool false)] []) (q := [True ∧ ((True ∧ (True ∧ (True ∧ True))) ∧ ([.str x0, .int .i64 x1, .int .i64 x2] : List D) = [.str x0, .int .i64 x1, .int .i64 x2] ∧ CallSpec Try.prog 12 [.str x0, .int .i64 x1, .int .i64 x2] (.tup [.int .i64 v0.1, .int .i64 v0.2])), True ∧ ((True ∧ (True ∧ (True ∧ True))) ∧ ([.str x0, .int .i64 x1, .int .i64 x2] : List D) = [.str x0, .int .i64 x1, .int .i64 x2] ∧ CallSpec Try.prog 13 [.str x0, .int .i64 x1, .int .i64 x2] (.tup [.int .i64 v1.1, .int .i64 v1.2])), True ∧ ((True ∧ (True ∧ (True ∧ True))) ∧ ([.str x0, .int .i64 x1, .int .i64 x2] : List D) = [.str x0, .int .i64 x1, .int .i64 x2] ∧ CallSpec Try.prog 14 [.str x0, .int .i64 x1, .int .i64 x2] (.tup [.int .i64 v2.1, .int .i64 v2.2])), True ∧ ((True ∧ (True ∧ (True ∧ True))) ∧ ([.str x0, .int .i64 x1, .int .i64 x2] : List D) = [.str x0, .int .i64 x1, .int .i64 x2] ∧ CallSpec Try.prog 15 [.str x0, .int .i64 x1, .int .i64 x2] (.tup [.int .i64 v3.1, .int .i64 v3.2])), True ∧ (True ∧ ([] : List D) = [] ∧ CallSpec Try.prog 11 [] (.bool v4)), (v4 == true) = true ∧ True, (v4 == true) = true ∧ True, (v4 == true) = true ∧ True, True ∧ (v4 = true), ((v0.1 == v1.1) == true) = true ∧ True, ((v0.1 == v1.1) == true) = true ∧ True, ((v0.1 == v1.1) == true) = true ∧ True, True ∧ ((v0.1 == v1.1) = true), ((v0.2 == v1.2) == true) = false, ((v0.2 == v1.2) == true) = false, ((v0.2 == v1.2) == true) = false, True ∧ ((v0.2 == v1.2) = false), True, True, True]) (by kernel_rfl) ⟨⟨trivial, ⟨⟨trivial, ⟨trivial, ⟨trivial, trivial⟩⟩⟩, rfl, w12 e0⟩⟩, ⟨trivial, ⟨⟨trivial, ⟨trivial, ⟨trivial, trivial⟩⟩⟩, rfl, w13 e1⟩⟩, ⟨trivial, ⟨⟨trivial, ⟨trivial, ⟨trivial, trivial⟩⟩⟩, rfl, w14 e2⟩⟩, ⟨trivial, ⟨⟨trivial, ⟨trivial, ⟨trivial, trivial⟩⟩⟩, rfl, w15 e3⟩⟩, ⟨trivial, ⟨trivial, rfl, w11 e4⟩⟩, ⟨(gB h0 rfl), trivial⟩, ⟨(gB h0 rfl), trivial⟩, ⟨(gB h0 rfl), trivial⟩, ⟨trivial, h0⟩, ⟨(gB h1 rfl), trivial⟩, ⟨(gB h1 rfl), trivial⟩, ⟨(gB h1 rfl), trivial⟩, ⟨trivial, h1⟩, gB h2 rfl, gB h2 rfl, gB h2 rfl, ⟨trivial, h2⟩, trivial, trivial, trivial, trivial⟩ ?_
        refine EvOk.ret ?_
        obtain rfl := someE h
        exact Den.Ends.mk (.inl rfl) (d := .bool false) (p := (True ∧ True) ∧ (True ∧ True)) (by kernel_rfl) ⟨⟨trivial, trivial⟩, ⟨trivial, trivial⟩⟩ (by kernel_rfl)
    · replace h := iteF h1 h
      refine At.adv [] [(0, { told := [], gs := [], keep := some ([0, 1, 2], []) }), (1, { told := [(3, { ans := .val (.tup [.int .i64 v0.1, .int .i64 v0.2]), args := [.str x0, .int .i64 x1, .int .i64 x2] })], gs := [], keep := some ([0, 1, 2, 7, 8], []) }), (2, { told := [(3, { ans := .val (.tup [.int .i64 v1.1, .int .i64 v1.2]), args := [.str x0, .int .i64 x1, .int .i64 x2] })], gs := [], keep := some ([0, 1, 2, 7, 8, 9, 10], []) }), (3, { told := [(3, { ans := .val (.tup [.int .i64 v2.1, .int .i64 v2.2]), args := [.str x0, .int .i64 x1, .int .i64 x2] })], gs := [], keep := some ([0, 1, 2, 7, 8, 9, 10, 11, 12], []) }), (4, { told := [(3, { ans := .val (.tup [.int .i64 v3.1, .int .i64 v3.2]), args := [.str x0, .int .i64 x1, .int .i64 x2] })], gs := [], keep := some ([7, 8, 9, 10, 11, 12, 13, 14], []) }), (5, { told := [(0, { ans := .val (.bool v4), args := [] }), (5, { ans := .yes }), (10, { ans := .no })], gs := [(2, true), (3, true), (4, true), (7, false), (8, false), (9, false)], keep := some ([6], []) })] 400 (ev := .ret) (σ' := mkS 64 [(6, .bool false)] []) (q := [True ∧ ((True ∧ (True ∧ (True ∧ True))) ∧ ([.str x0, .int .i64 x1, .int .i64 x2] : List D) = [.str x0, .int .i64 x1, .int .i64 x2] ∧ CallSpec Try.prog 12 [.str x0, .int .i64 x1, .int .i64 x2] (.tup [.int .i64 v0.1, .int .i64 v0.2])), True ∧ ((True ∧ (True ∧ (True ∧ True))) ∧ ([.str x0, .int .i64 x1, .int .i64 x2] : List D) = [.str x0, .int .i64 x1, .int .i64 x2] ∧ CallSpec Try.prog 13 [.str x0, .int .i64 x1, .int .i64 x2] (.tup [.int .i64 v1.1, .int .i64 v1.2])), True ∧ ((True ∧ (True ∧ (True ∧ True))) ∧ ([.str x0, .int .i64 x1, .int .i64 x2] : List D) = [.str x0, .int .i64 x1, .int .i64 x2] ∧ CallSpec Try.prog 14 [.str x0, .int .i64 x1, .int .i64 x2] (.tup [.int .i64 v2.1, .int .i64 v2.2])), True ∧ ((True ∧ (True ∧ (True ∧ True))) ∧ ([.str x0, .int .i64 x1, .int .i64 x2] : List D) = [.str x0, .int .i64 x1, .int .i64 x2] ∧ CallSpec Try.prog 15 [.str x0, .int .i64 x1, .int .i64 x2] (.tup [.int .i64 v3.1, .int .i64 v3.2])), True ∧ (True ∧ ([] : List D) = [] ∧ CallSpec Try.prog 11 [] (.bool v4)), (v4 == true) = true ∧ True, (v4 == true) = true ∧ True, (v4 == true) = true ∧ True, True ∧ (v4 = true), ((v0.1 == v1.1) == true) = false, ((v0.1 == v1.1) == true) = false, ((v0.1 == v1.1) == true) = false, True ∧ ((v0.1 == v1.1) = false), True, True, True, True, True, True]) (by kernel_rfl) ⟨⟨trivial, ⟨⟨trivial, ⟨trivial, ⟨trivial, trivial⟩⟩⟩, rfl, w12 e0⟩⟩, ⟨trivial, ⟨⟨trivial, ⟨trivial, ⟨trivial, trivial⟩⟩⟩, rfl, w13 e1⟩⟩, ⟨trivial, ⟨⟨trivial, ⟨trivial, ⟨trivial, trivial⟩⟩⟩, rfl, w14 e2⟩⟩, ⟨trivial, ⟨⟨trivial, ⟨trivial, ⟨trivial, trivial⟩⟩⟩, rfl, w15 e3⟩⟩, ⟨trivial, ⟨trivial, rfl, w11 e4⟩⟩, ⟨(gB h0 rfl), trivial⟩, ⟨(gB h0 rfl), trivial⟩, ⟨(gB h0 rfl), trivial⟩, ⟨trivial, h0⟩, gB h1 rfl, gB h1 rfl, gB h1 rfl, ⟨trivial, h1⟩, trivial, trivial, trivial, trivial, trivial, trivial, trivial⟩ ?_
      refine EvOk.ret ?_
      obtain rfl := someE h
      exact Den.Ends.mk (.inl rfl) (d := .bool false) (p := (True ∧ True) ∧ (True ∧ True)) (by kernel_rfl) ⟨⟨trivial, trivial⟩, ⟨trivial, trivial⟩⟩ (by kernel_rfl)
  · replace h := iteF h0 h
    refine At.adv [] [(0, { told := [], gs := [], keep := some ([0, 1, 2], []) }), (1, { told := [(3, { ans := .val (.tup [.int .i64 v0.1, .int .i64 v0.2]), args := [.str x0, .int .i64 x1, .int .i64 x2] })], gs := [], keep := some ([0, 1, 2, 7, 8], []) }), (2, { told := [(3, { ans := .val (.tup [.int .i64 v1.1, .int .i64 v1.2]), args := [.str x0, .int .i64 x1, .int .i64 x2] })], gs := [], keep := some ([0, 1, 2, 7, 8, 9, 10], []) }), (3, { told := [(3, { ans := .val (.tup [.int .i64 v2.1, .int .i64 v2.2]), args := [.str x0, .int .i64 x1, .int .i64 x2] })], gs := [], keep := some ([0, 1, 2, 7, 8, 9, 10, 11, 12], []) }), (4, { told := [(3, { ans := .val (.tup [.int .i64 v3.1, .int .i64 v3.2]), args := [.str x0, .int .i64 x1, .int .i64 x2] })], gs := [], keep := some ([7, 8, 9, 10, 11, 12, 13, 14], []) }), (5, { told := [(0, { ans := .val (.bool v4), args := [] }), (5, { ans := .no })], gs := [(2, false), (3, false), (4, false)], keep := some ([6], []) })] 400 (ev := .ret) (σ' := mkS 64 [(6, .bool false)] []) (q := [True ∧ ((True ∧ (True ∧ (True ∧ True))) ∧ ([.str x0, .int .i64 x1, .int .i64 x2] : List D) = [.str x0, .int .i64 x1, .int .i64 x2] ∧ CallSpec Try.prog 12 [.str x0, .int .i64 x1, .int .i64 x2] (.tup [.int .i64 v0.1, .int .i64 v0.2])), True ∧ ((True ∧ (True ∧ (True ∧ True))) ∧ ([.str x0, .int .i64 x1, .int .i64 x2] : List D) = [.str x0, .int .i64 x1, .int .i64 x2] ∧ CallSpec Try.prog 13 [.str x0, .int .i64 x1, .int .i64 x2] (.tup [.int .i64 v1.1, .int .i64 v1.2])), True ∧ ((True ∧ (True ∧ (True ∧ True))) ∧ ([.str x0, .int .i64 x1, .int .i64 x2] : List D) = [.str x0, .int .i64 x1, .int .i64 x2] ∧ CallSpec Try.prog 14 [.str x0, .int .i64 x1, .int .i64 x2] (.tup [.int .i64 v2.1, .int .i64 v2.2])), True ∧ ((True ∧ (True ∧ (True ∧ True))) ∧ ([.str x0, .int .i64 x1, .int .i64 x2] : List D) = [.str x0, .int .i64 x1, .int .i64 x2] ∧ CallSpec Try.prog 15 [.str x0, .int .i64 x1, .int .i64 x2] (.tup [.int .i64 v3.1, .int .i64 v3.2])), True ∧ (True ∧ ([] : List D) = [] ∧ CallSpec Try.prog 11 [] (.bool v4)), (v4 == true) = false, (v4 == true) = false, (v4 == true) = false, True ∧ (v4 = false), True, True, True, True, True, True, True, True, True]) (by kernel_rfl) ⟨⟨trivial, ⟨⟨trivial, ⟨trivial, ⟨trivial, trivial⟩⟩⟩, rfl, w12 e0⟩⟩, ⟨trivial, ⟨⟨trivial, ⟨trivial, ⟨trivial, trivial⟩⟩⟩, rfl, w13 e1⟩⟩, ⟨trivial, ⟨⟨trivial, ⟨trivial, ⟨trivial, trivial⟩⟩⟩, rfl, w14 e2⟩⟩, ⟨trivial, ⟨⟨trivial, ⟨trivial, ⟨trivial, trivial⟩⟩⟩, rfl, w15 e3⟩⟩, ⟨trivial, ⟨trivial, rfl, w11 e4⟩⟩, gB h0 rfl, gB h0 rfl, gB h0 rfl, ⟨trivial, h0⟩, trivial, trivial, trivial, trivial, trivial, trivial, trivial, trivial, trivial, trivial⟩ ?_
    refine EvOk.ret ?_
    obtain rfl := someE h
    exact Den.Ends.mk (.inl rfl) (d := .bool false) (p := (True ∧ True) ∧ (True ∧ True)) (by kernel_rfl) ⟨⟨trivial, trivial⟩, ⟨trivial, trivial⟩⟩ (by kernel_rfl)
theorem w4 {x0 : List UInt8} {x1 : Int} {x2 : Int} {r : Bool} (h : m_armaturelaw02_OctetGetReference x0 x1 x2 = some r) : CallSpec Try.prog 4 [.str x0, .int .i64 x1, .int .i64 x2] (.bool r) :=
  CallSpec.at2 b4 (n := 64) (l := [(0, .str x0), (1, .int .i64 x1), (2, .int .i64 x2)]) (by kernel_rfl) (by kernel_rfl) (by kernel_rfl) (by kernel_rfl) (by kernel_rfl) (Nat.le_of_ble_eq_true (by kernel_rfl)) (fun Γ => we4 x0 x1 x2 r h Γ)

/-! ### armature armaturelaw02.OctetNumberRoundTrip -/
noncomputable def b5 : Code := Try.f5.body.getD .skip
noncomputable def c5x0 : Code := sub1 b5
noncomputable def c5x1 : Code := sub1 c5x0
noncomputable def c5x2 : Code := sub1 c5x1
noncomputable def c5x3 : Code := sub1 c5x2
noncomputable def c5x4 : Code := sub1 c5x3
noncomputable def c5x5 : Code := sub1 c5x4
noncomputable def c5x6 : Code := sub0 c5x5
noncomputable def c5x7 : Code := sub1 c5x6
noncomputable def c5x8 : Code := sub0 c5x7
noncomputable def c5x9 : Code := sub1 c5x7
noncomputable def c5x10 : Code := sub1 c5x5
noncomputable def c5x11 : Code := sub0 c5x10
noncomputable def c5x12 : Code := sub1 c5x10
noncomputable def c5x13 : Code := sub0 c5x1
noncomputable def c5x14 : Code := sub1 c5x13
noncomputable def c5x15 : Code := sub0 c5x14
noncomputable def c5x16 : Code := sub1 c5x14
def j5x1 (v0 : (List UInt8) × Int) (v4 : Int × Int) (v5 : Int × Int) (x0 : Int) (x1 : Int) : Option (Bool) :=
  (m_octet_Put v4.1 x1).bind fun v6 =>
  (m_armaturelaw02_awake).bind fun v7 =>
  if v7 = true then (if (v6.2 == 0) = true then (if (v6.1 == v0.1) = true then (if (decide (x0 < 0)) = true then (if (v5.1 == x0) = true then (if (decide (x0 ≥ 0)) = true then (some true) else
  (if (x1 == 8) = true then (some true) else
  (some (decide (v4.1 > 127))))) else
  (if (decide (x0 ≥ 0)) = true then (if (v4.1 == x0) = true then (some true) else
  (some false)) else
  (some false))) else
  (if (decide (x0 ≥ 0)) = true then (if (v4.1 == x0) = true then (some true) else
  (some false)) else
  (some false))) else
  (some false)) else
  (some false)) else
  (some false)
def m_armaturelaw02_OctetNumberRoundTrip (x0 : Int) (x1 : Int) (x2 : List UInt8) (x3 : List UInt8) : Option (Bool) :=
  (m_octet_Put x0 x1).bind fun v0 =>
  if (v0.2 != 0) = true then
    ((m_armaturelaw02_awake).bind fun v1 =>
    if v1 = true then (if (v0.1 == ([] : List UInt8)) = true then (if (v0.2 == 1) = true then (some true) else
    (some (v0.2 == 8))) else
    (some false)) else
    (some false)) else
  ((catK x2 v0.1).bind fun v2 =>
    (catK v2 x3).bind fun v3 =>
    (m_octet_Unsigned v3 (x2.length : Int) x1).bind fun v4 =>
    (m_octet_Signed v3 (x2.length : Int) x1).bind fun v5 =>
    if ((v0.1.length : Int) != x1) = true then (some false) else
    (if (v4.2 != 0) = true then (some false) else
    (if (v5.2 != 0) = true then (some false) else
    (if (decide (x1 < 8)) = true then (if (decide (v4.1 < 0)) = true then
      (some false) else
    ((j5x1 v0 v4 v5 x0 x1) )) else
    ((j5x1 v0 v4 v5 x0 x1) )))))
theorem wj5x1 (v0 : (List UInt8) × Int) (v4 : Int × Int) (v5 : Int × Int) (x0 : Int) (x1 : Int) (r : Bool) (h : (j5x1 v0 v4 v5 x0 x1)  = some r) (Γ : Ctx) : EvOk Try.prog Γ (Den.Ends Try.prog Try.f5 (.bool r)) (mkS 126 [(0, .int .i64 x0), (1, .int .i64 x1), (9, .str v0.1), (12, .int .i64 v4.1), (14, .int .i64 v5.1)] []) (.stop c5x11 [.seq c5x12]) := by
  refine EvOk.stop ?_
  obtain ⟨v6, e6, h⟩ := bindE h
  obtain ⟨v7, e7, h⟩ := bindE h
  rcases Bool.eq_false_or_eq_true v7 with h9 | h9
  · replace h := iteT h9 h
    rcases Bool.eq_false_or_eq_true (v6.2 == 0) with h10 | h10
    · replace h := iteT h10 h
      rcases Bool.eq_false_or_eq_true (v6.1 == v0.1) with h11 | h11
      · replace h := iteT h11 h
        rcases Bool.eq_false_or_eq_true (decide (x0 < 0)) with h12 | h12
        · replace h := iteT h12 h
          rcases Bool.eq_false_or_eq_true (v5.1 == x0) with h13 | h13
          · replace h := iteT h13 h
            rcases Bool.eq_false_or_eq_true (decide (x0 ≥ 0)) with h14 | h14
            · replace h := iteT h14 h
              refine At.adv [] [(9, { told := [(2, { ans := .val (.tup [.str v6.1, .int .i64 v6.2]), args := [.int .i64 v4.1, .int .i64 x1] })], gs := [], keep := some ([0, 1, 9, 12, 14, 16, 17], []) }), (10, { told := [(0, { ans := .val (.bool v7), args := [] }), (4, { ans := .yes }), (9, { ans := .yes }), (17, { ans := .yes }), (26, { ans := .yes }), (27, { ans := .yes }), (34, { ans := .yes })], gs := [(2, true), (3, true), (6, true), (7, true), (8, true), (11, true), (12, true), (13, true), (14, true), (15, true), (16, true), (17, true), (18, true), (19, false), (20, false), (21, false), (25, false), (26, true), (32, false), (33, false)], keep := some ([8], []) })] 400 (ev := .ret) (σ' := mkS 126 [(8, .bool true)] []) (q := [True ∧ ((True ∧ (True ∧ True)) ∧ ([.int .i64 v4.1, .int .i64 x1] : List D) = [.int .i64 v4.1, .int .i64 x1] ∧ CallSpec Try.prog 9 [.int .i64 v4.1, .int .i64 x1] (.tup [.str v6.1, .int .i64 v6.2])), True ∧ (True ∧ ([] : List D) = [] ∧ CallSpec Try.prog 11 [] (.bool v7)), (v7 == true) = true ∧ True, (v7 == true) = true ∧ True, True ∧ (v7 = true), ((v6.2 == 0) == true) = true ∧ True, ((v6.2 == 0) == true) = true ∧ True, ((v6.2 == 0) == true) = true ∧ True, True ∧ ((v6.2 == 0) = true), ((v6.1 == v0.1) == true) = true ∧ True, ((v6.1 == v0.1) == true) = true ∧ True, ((v6.1 == v0.1) == true) = true ∧ True, ((decide (x0 < 0)) == true) = true ∧ True, ((decide (x0 < 0)) == true) = true ∧ True, ((decide (x0 < 0)) == true) = true ∧ True, ((v6.1 == v0.1) == true) = true ∧ ((decide (x0 < 0)) = true), ((v6.1 == v0.1) == true) = true ∧ True, ((v5.1 == x0) == false) = false, ((v5.1 == x0) == false) = false, ((v5.1 == x0) == false) = false, True, True, True, ((v5.1 == x0) == false) = false, ((v6.1 == v0.1) == true) = true ∧ ((v5.1 == x0) = true), True ∧ ((v6.1 == v0.1) = true), True ∧ True, True ∧ True, True ∧ True, ((decide (x0 ≥ 0)) == false) = false, ((decide (x0 ≥ 0)) == false) = false, True ∧ ((decide (x0 ≥ 0)) = true), True ∧ True, True, True, True ∧ True]) (by kernel_rfl) ⟨⟨trivial, ⟨⟨trivial, ⟨trivial, trivial⟩⟩, rfl, w9 e6⟩⟩, ⟨trivial, ⟨trivial, rfl, w11 e7⟩⟩, ⟨(gB h9 rfl), trivial⟩, ⟨(gB h9 rfl), trivial⟩, ⟨trivial, h9⟩, ⟨(gB h10 rfl), trivial⟩, ⟨(gB h10 rfl), trivial⟩, ⟨(gB h10 rfl), trivial⟩, ⟨trivial, h10⟩, ⟨(gB h11 rfl), trivial⟩, ⟨(gB h11 rfl), trivial⟩, ⟨(gB h11 rfl), trivial⟩, ⟨(gB h12 rfl), trivial⟩, ⟨(gB h12 rfl), trivial⟩, ⟨(gB h12 rfl), trivial⟩, ⟨(gB h11 rfl), h12⟩, ⟨(gB h11 rfl), trivial⟩, gB h13 rfl, gB h13 rfl, gB h13 rfl, trivial, trivial, trivial, gB h13 rfl, ⟨(gB h11 rfl), h13⟩, ⟨trivial, h11⟩, ⟨trivial, trivial⟩, ⟨trivial, trivial⟩, ⟨trivial, trivial⟩, gB h14 rfl, gB h14 rfl, ⟨trivial, h14⟩, ⟨trivial, trivial⟩, trivial, trivial, ⟨trivial, trivial⟩, trivial⟩ ?_
              refine EvOk.ret ?_
              obtain rfl := someE h
              exact Den.Ends.mk (.inl rfl) (d := .bool true) (p := (True ∧ True) ∧ (True ∧ True)) (by kernel_rfl) ⟨⟨trivial, trivial⟩, ⟨trivial, trivial⟩⟩ (by kernel_rfl)
            · replace h := iteF h14 h
              rcases Bool.eq_false_or_eq_true (x1 == 8) with h15 | h15
              · replace h := iteT h15 h
                refine At.adv [] [(9, { told := [(2, { ans := .val (.tup [.str v6.1, .int .i64 v6.2]), args := [.int .i64 v4.1, .int .i64 x1] })], gs := [], keep := some ([0, 1, 9, 12, 14, 16, 17], []) }), (10, { told := [(0, { ans := .val (.bool v7), args := [] }), (4, { ans := .yes }), (9, { ans := .yes }), (17, { ans := .yes }), (26, { ans := .yes }), (27, { ans := .yes }), (34, { ans := .no }), (38, { ans := .yes })], gs := [(2, true), (3, true), (6, true), (7, true), (8, true), (11, true), (12, true), (13, true), (14, true), (15, true), (16, true), (17, true), (18, true), (19, false), (20, false), (21, false), (25, false), (26, true), (32, true), (33, true), (36, false), (37, false)], keep := some ([8], []) })] 400 (ev := .ret) (σ' := mkS 126 [(8, .bool true)] []) (q := [True ∧ ((True ∧ (True ∧ True)) ∧ ([.int .i64 v4.1, .int .i64 x1] : List D) = [.int .i64 v4.1, .int .i64 x1] ∧ CallSpec Try.prog 9 [.int .i64 v4.1, .int .i64 x1] (.tup [.str v6.1, .int .i64 v6.2])), True ∧ (True ∧ ([] : List D) = [] ∧ CallSpec Try.prog 11 [] (.bool v7)), (v7 == true) = true ∧ True, (v7 == true) = true ∧ True, True ∧ (v7 = true), ((v6.2 == 0) == true) = true ∧ True, ((v6.2 == 0) == true) = true ∧ True, ((v6.2 == 0) == true) = true ∧ True, True ∧ ((v6.2 == 0) = true), ((v6.1 == v0.1) == true) = true ∧ True, ((v6.1 == v0.1) == true) = true ∧ True, ((v6.1 == v0.1) == true) = true ∧ True, ((decide (x0 < 0)) == true) = true ∧ True, ((decide (x0 < 0)) == true) = true ∧ True, ((decide (x0 < 0)) == true) = true ∧ True, ((v6.1 == v0.1) == true) = true ∧ ((decide (x0 < 0)) = true), ((v6.1 == v0.1) == true) = true ∧ True, ((v5.1 == x0) == false) = false, ((v5.1 == x0) == false) = false, ((v5.1 == x0) == false) = false, True, True, True, ((v5.1 == x0) == false) = false, ((v6.1 == v0.1) == true) = true ∧ ((v5.1 == x0) = true), True ∧ ((v6.1 == v0.1) = true), True ∧ True, True ∧ True, True ∧ True, ((decide (x0 ≥ 0)) == false) = true ∧ True, ((decide (x0 ≥ 0)) == false) = true ∧ True, True ∧ ((decide (x0 ≥ 0)) = false), True ∧ True, ((x1 == 8) == false) = false, ((x1 == 8) == false) = false, True ∧ ((x1 == 8) = true)]) (by kernel_rfl) ⟨⟨trivial, ⟨⟨trivial, ⟨trivial, trivial⟩⟩, rfl, w9 e6⟩⟩, ⟨trivial, ⟨trivial, rfl, w11 e7⟩⟩, ⟨(gB h9 rfl), trivial⟩, ⟨(gB h9 rfl), trivial⟩, ⟨trivial, h9⟩, ⟨(gB h10 rfl), trivial⟩, ⟨(gB h10 rfl), trivial⟩, ⟨(gB h10 rfl), trivial⟩, ⟨trivial, h10⟩, ⟨(gB h11 rfl), trivial⟩, ⟨(gB h11 rfl), trivial⟩, ⟨(gB h11 rfl), trivial⟩, ⟨(gB h12 rfl), trivial⟩, ⟨(gB h12 rfl), trivial⟩, ⟨(gB h12 rfl), trivial⟩, ⟨(gB h11 rfl), h12⟩, ⟨(gB h11 rfl), trivial⟩, gB h13 rfl, gB h13 rfl, gB h13 rfl, trivial, trivial, trivial, gB h13 rfl, ⟨(gB h11 rfl), h13⟩, ⟨trivial, h11⟩, ⟨trivial, trivial⟩, ⟨trivial, trivial⟩, ⟨trivial, trivial⟩, ⟨(gB h14 rfl), trivial⟩, ⟨(gB h14 rfl), trivial⟩, ⟨trivial, h14⟩, ⟨trivial, trivial⟩, gB h15 rfl, gB h15 rfl, ⟨trivial, h15⟩, trivial⟩ ?_
                refine EvOk.ret ?_
                obtain rfl := someE h
                exact Den.Ends.mk (.inl rfl) (d := .bool true) (p := (True ∧ True) ∧ (True ∧ True)) (by kernel_rfl) ⟨⟨trivial, trivial⟩, ⟨trivial, trivial⟩⟩ (by kernel_rfl)
              · replace h := iteF h15 h
                refine At.adv [] [(9, { told := [(2, { ans := .val (.tup [.str v6.1, .int .i64 v6.2]), args := [.int .i64 v4.1, .int .i64 x1] })], gs := [], keep := some ([0, 1, 9, 12, 14, 16, 17], []) }), (10, { told := [(0, { ans := .val (.bool v7), args := [] }), (4, { ans := .yes }), (9, { ans := .yes }), (17, { ans := .yes }), (26, { ans := .yes }), (27, { ans := .yes }), (34, { ans := .no }), (38, { ans := .no })], gs := [(2, true), (3, true), (6, true), (7, true), (8, true), (11, true), (12, true), (13, true), (14, true), (15, true), (16, true), (17, true), (18, true), (19, false), (20, false), (21, false), (25, false), (26, true), (32, true), (33, true), (36, true), (37, true)], keep := some ([8], []) })] 400 (ev := .ret) (σ' := mkS 126 [(8, .bool (decide (v4.1 > 127)))] []) (q := [True ∧ ((True ∧ (True ∧ True)) ∧ ([.int .i64 v4.1, .int .i64 x1] : List D) = [.int .i64 v4.1, .int .i64 x1] ∧ CallSpec Try.prog 9 [.int .i64 v4.1, .int .i64 x1] (.tup [.str v6.1, .int .i64 v6.2])), True ∧ (True ∧ ([] : List D) = [] ∧ CallSpec Try.prog 11 [] (.bool v7)), (v7 == true) = true ∧ True, (v7 == true) = true ∧ True, True ∧ (v7 = true), ((v6.2 == 0) == true) = true ∧ True, ((v6.2 == 0) == true) = true ∧ True, ((v6.2 == 0) == true) = true ∧ True, True ∧ ((v6.2 == 0) = true), ((v6.1 == v0.1) == true) = true ∧ True, ((v6.1 == v0.1) == true) = true ∧ True, ((v6.1 == v0.1) == true) = true ∧ True, ((decide (x0 < 0)) == true) = true ∧ True, ((decide (x0 < 0)) == true) = true ∧ True, ((decide (x0 < 0)) == true) = true ∧ True, ((v6.1 == v0.1) == true) = true ∧ ((decide (x0 < 0)) = true), ((v6.1 == v0.1) == true) = true ∧ True, ((v5.1 == x0) == false) = false, ((v5.1 == x0) == false) = false, ((v5.1 == x0) == false) = false, True, True, True, ((v5.1 == x0) == false) = false, ((v6.1 == v0.1) == true) = true ∧ ((v5.1 == x0) = true), True ∧ ((v6.1 == v0.1) = true), True ∧ True, True ∧ True, True ∧ True, ((decide (x0 ≥ 0)) == false) = true ∧ True, ((decide (x0 ≥ 0)) == false) = true ∧ True, True ∧ ((decide (x0 ≥ 0)) = false), True ∧ True, ((x1 == 8) == false) = true ∧ True, ((x1 == 8) == false) = true ∧ True, True ∧ ((x1 == 8) = false)]) (by kernel_rfl) ⟨⟨trivial, ⟨⟨trivial, ⟨trivial, trivial⟩⟩, rfl, w9 e6⟩⟩, ⟨trivial, ⟨trivial, rfl, w11 e7⟩⟩, ⟨(gB h9 rfl), trivial⟩, ⟨(gB h9 rfl), trivial⟩, ⟨trivial, h9⟩, ⟨(gB h10 rfl), trivial⟩, ⟨(gB h10 rfl), trivial⟩, ⟨(gB h10 rfl), trivial⟩, ⟨trivial, h10⟩, ⟨(gB h11 rfl), trivial⟩, ⟨(gB h11 rfl), trivial⟩, ⟨(gB h11 rfl), trivial⟩, ⟨(gB h12 rfl), trivial⟩, ⟨(gB h12 rfl), trivial⟩, ⟨(gB h12 rfl), trivial⟩, ⟨(gB h11 rfl), h12⟩, ⟨(gB h11 rfl), trivial⟩, gB h13 rfl, gB h13 rfl, gB h13 rfl, trivial, trivial, trivial, gB h13 rfl, ⟨(gB h11 rfl), h13⟩, ⟨trivial, h11⟩, ⟨trivial, trivial⟩, ⟨trivial, trivial⟩, ⟨trivial, trivial⟩, ⟨(gB h14 rfl), trivial⟩, ⟨(gB h14 rfl), trivial⟩, ⟨trivial, h14⟩, ⟨trivial, trivial⟩, ⟨(gB h15 rfl), trivial⟩, ⟨(gB h15 rfl), trivial⟩, ⟨trivial, h15⟩, trivial⟩ ?_
                refine EvOk.ret ?_
                obtain rfl := someE h
                exact Den.Ends.mk (.inl rfl) (d := .bool (decide (v4.1 > 127))) (p := (True ∧ True) ∧ (True ∧ True)) (by kernel_rfl) ⟨⟨trivial, trivial⟩, ⟨trivial, trivial⟩⟩ (by kernel_rfl)
          · replace h := iteF h13 h
            rcases Bool.eq_false_or_eq_true (decide (x0 ≥ 0)) with h16 | h16
            · replace h := iteT h16 h
              rcases Bool.eq_false_or_eq_true (v4.1 == x0) with h17 | h17
              · replace h := iteT h17 h
                refine At.adv [] [(9, { told := [(2, { ans := .val (.tup [.str v6.1, .int .i64 v6.2]), args := [.int .i64 v4.1, .int .i64 x1] })], gs := [], keep := some ([0, 1, 9, 12, 14, 16, 17], []) }), (10, { told := [(0, { ans := .val (.bool v7), args := [] }), (4, { ans := .yes }), (9, { ans := .yes }), (17, { ans := .yes }), (25, { ans := .yes }), (26, { ans := .no }), (27, { ans := .yes }), (34, { ans := .yes }), (39, { ans := .yes })], gs := [(2, true), (3, true), (6, true), (7, true), (8, true), (11, true), (12, true), (13, true), (14, true), (15, true), (16, true), (17, true), (18, true), (19, true), (20, true), (21, true), (22, true), (23, true), (24, true), (25, true), (26, true), (29, true), (30, true), (31, true), (32, false), (33, false), (34, true), (35, true), (38, true)], keep := some ([8], []) })] 400 (ev := .ret) (σ' := mkS 126 [(8, .bool true)] []) (q := [True ∧ ((True ∧ (True ∧ True)) ∧ ([.int .i64 v4.1, .int .i64 x1] : List D) = [.int .i64 v4.1, .int .i64 x1] ∧ CallSpec Try.prog 9 [.int .i64 v4.1, .int .i64 x1] (.tup [.str v6.1, .int .i64 v6.2])), True ∧ (True ∧ ([] : List D) = [] ∧ CallSpec Try.prog 11 [] (.bool v7)), (v7 == true) = true ∧ True, (v7 == true) = true ∧ True, True ∧ (v7 = true), ((v6.2 == 0) == true) = true ∧ True, ((v6.2 == 0) == true) = true ∧ True, ((v6.2 == 0) == true) = true ∧ True, True ∧ ((v6.2 == 0) = true), ((v6.1 == v0.1) == true) = true ∧ True, ((v6.1 == v0.1) == true) = true ∧ True, ((v6.1 == v0.1) == true) = true ∧ True, ((decide (x0 < 0)) == true) = true ∧ True, ((decide (x0 < 0)) == true) = true ∧ True, ((decide (x0 < 0)) == true) = true ∧ True, ((v6.1 == v0.1) == true) = true ∧ ((decide (x0 < 0)) = true), ((v6.1 == v0.1) == true) = true ∧ True, ((v5.1 == x0) == false) = true ∧ True, ((v5.1 == x0) == false) = true ∧ True, ((v5.1 == x0) == false) = true ∧ True, ((decide (x0 ≥ 0)) == true) = true ∧ True, ((decide (x0 ≥ 0)) == true) = true ∧ True, ((decide (x0 ≥ 0)) == true) = true ∧ True, ((v5.1 == x0) == false) = true ∧ ((decide (x0 ≥ 0)) = true), ((v6.1 == v0.1) == true) = true ∧ ((v5.1 == x0) = false), True ∧ ((v6.1 == v0.1) = true), ((v4.1 == x0) == true) = true ∧ True, ((v4.1 == x0) == true) = true ∧ True, ((v4.1 == x0) == true) = true ∧ True, ((decide (x0 ≥ 0)) == false) = false, ((decide (x0 ≥ 0)) == false) = false, ((v4.1 == x0) == true) = true ∧ ((decide (x0 ≥ 0)) = true), ((v4.1 == x0) == true) = true ∧ True, True, True, ((v4.1 == x0) == true) = true ∧ True, True ∧ ((v4.1 == x0) = true)]) (by kernel_rfl) ⟨⟨trivial, ⟨⟨trivial, ⟨trivial, trivial⟩⟩, rfl, w9 e6⟩⟩, ⟨trivial, ⟨trivial, rfl, w11 e7⟩⟩, ⟨(gB h9 rfl), trivial⟩, ⟨(gB h9 rfl), trivial⟩, ⟨trivial, h9⟩, ⟨(gB h10 rfl), trivial⟩, ⟨(gB h10 rfl), trivial⟩, ⟨(gB h10 rfl), trivial⟩, ⟨trivial, h10⟩, ⟨(gB h11 rfl), trivial⟩, ⟨(gB h11 rfl), trivial⟩, ⟨(gB h11 rfl), trivial⟩, ⟨(gB h12 rfl), trivial⟩, ⟨(gB h12 rfl), trivial⟩, ⟨(gB h12 rfl), trivial⟩, ⟨(gB h11 rfl), h12⟩, ⟨(gB h11 rfl), trivial⟩, ⟨(gB h13 rfl), trivial⟩, ⟨(gB h13 rfl), trivial⟩, ⟨(gB h13 rfl), trivial⟩, ⟨(gB h16 rfl), trivial⟩, ⟨(gB h16 rfl), trivial⟩, ⟨(gB h16 rfl), trivial⟩, ⟨(gB h13 rfl), h16⟩, ⟨(gB h11 rfl), h13⟩, ⟨trivial, h11⟩, ⟨(gB h17 rfl), trivial⟩, ⟨(gB h17 rfl), trivial⟩, ⟨(gB h17 rfl), trivial⟩, gB h16 rfl, gB h16 rfl, ⟨(gB h17 rfl), h16⟩, ⟨(gB h17 rfl), trivial⟩, trivial, trivial, ⟨(gB h17 rfl), trivial⟩, ⟨trivial, h17⟩, trivial⟩ ?_
                refine EvOk.ret ?_
                obtain rfl := someE h
                exact Den.Ends.mk (.inl rfl) (d := .bool true) (p := (True ∧ True) ∧ (True ∧ True)) (by kernel_rfl) ⟨⟨trivial, trivial⟩, ⟨trivial, trivial⟩⟩ (by kernel_rfl)
              · replace h := iteF h17 h
                refine At.adv [] [(9, { told := [(2, { ans := .val (.tup [.str v6.1, .int .i64 v6.2]), args := [.int .i64 v4.1, .int .i64 x1] })], gs := [], keep := some ([0, 1, 9, 12, 14, 16, 17], []) }), (10, { told := [(0, { ans := .val (.bool v7), args := [] }), (4, { ans := .yes }), (9, { ans := .yes }), (17, { ans := .yes }), (25, { ans := .yes }), (26, { ans := .no }), (27, { ans := .yes }), (39, { ans := .no })], gs := [(2, true), (3, true), (6, true), (7, true), (8, true), (11, true), (12, true), (13, true), (14, true), (15, true), (16, true), (17, true), (18, true), (19, true), (20, true), (21, true), (22, true), (23, true), (24, true), (25, true), (26, true), (29, false), (30, false), (31, false), (34, false), (35, false), (38, false)], keep := some ([8], []) })] 400 (ev := .ret) (σ' := mkS 126 [(8, .bool false)] []) (q := [True ∧ ((True ∧ (True ∧ True)) ∧ ([.int .i64 v4.1, .int .i64 x1] : List D) = [.int .i64 v4.1, .int .i64 x1] ∧ CallSpec Try.prog 9 [.int .i64 v4.1, .int .i64 x1] (.tup [.str v6.1, .int .i64 v6.2])), True ∧ (True ∧ ([] : List D) = [] ∧ CallSpec Try.prog 11 [] (.bool v7)), (v7 == true) = true ∧ True, (v7 == true) = true ∧ True, True ∧ (v7 = true), ((v6.2 == 0) == true) = true ∧ True, ((v6.2 == 0) == true) = true ∧ True, ((v6.2 == 0) == true) = true ∧ True, True ∧ ((v6.2 == 0) = true), ((v6.1 == v0.1) == true) = true ∧ True, ((v6.1 == v0.1) == true) = true ∧ True, ((v6.1 == v0.1) == true) = true ∧ True, ((decide (x0 < 0)) == true) = true ∧ True, ((decide (x0 < 0)) == true) = true ∧ True, ((decide (x0 < 0)) == true) = true ∧ True, ((v6.1 == v0.1) == true) = true ∧ ((decide (x0 < 0)) = true), ((v6.1 == v0.1) == true) = true ∧ True, ((v5.1 == x0) == false) = true ∧ True, ((v5.1 == x0) == false) = true ∧ True, ((v5.1 == x0) == false) = true ∧ True, ((decide (x0 ≥ 0)) == true) = true ∧ True, ((decide (x0 ≥ 0)) == true) = true ∧ True, ((decide (x0 ≥ 0)) == true) = true ∧ True, ((v5.1 == x0) == false) = true ∧ ((decide (x0 ≥ 0)) = true), ((v6.1 == v0.1) == true) = true ∧ ((v5.1 == x0) = false), True ∧ ((v6.1 == v0.1) = true), ((v4.1 == x0) == true) = false, ((v4.1 == x0) == true) = false, ((v4.1 == x0) == true) = false, True, True, ((v4.1 == x0) == true) = false, ((v4.1 == x0) == true) = false, True, True, ((v4.1 == x0) == true) = false, True ∧ ((v4.1 == x0) = false)]) (by kernel_rfl) ⟨⟨trivial, ⟨⟨trivial, ⟨trivial, trivial⟩⟩, rfl, w9 e6⟩⟩, ⟨trivial, ⟨trivial, rfl, w11 e7⟩⟩, ⟨(gB h9 rfl), trivial⟩, ⟨(gB h9 rfl), trivial⟩, ⟨trivial, h9⟩, ⟨(gB h10 rfl), trivial⟩, ⟨(gB h10 rfl), trivial⟩, ⟨(gB h10 rfl), trivial⟩, ⟨trivial, h10⟩, ⟨(gB h11 rfl), trivial⟩, ⟨(gB h11 rfl), trivial⟩, ⟨(gB h11 rfl), trivial⟩, ⟨(gB h12 rfl), trivial⟩, ⟨(gB h12 rfl), trivial⟩, ⟨(gB h12 rfl), trivial⟩, ⟨(gB h11 rfl), h12⟩, ⟨(gB h11 rfl), trivial⟩, ⟨(gB h13 rfl), trivial⟩, ⟨(gB h13 rfl), trivial⟩, ⟨(gB h13 rfl), trivial⟩, ⟨(gB h16 rfl), trivial⟩, ⟨(gB h16 rfl), trivial⟩, ⟨(gB h16 rfl), trivial⟩, ⟨(gB h13 rfl), h16⟩, ⟨(gB h11 rfl), h13⟩, ⟨trivial, h11⟩, gB h17 rfl, gB h17 rfl, gB h17 rfl, trivial, trivial, gB h17 rfl, gB h17 rfl, trivial, trivial, gB h17 rfl, ⟨trivial, h17⟩, trivial⟩ ?_
                refine EvOk.ret ?_
                obtain rfl := someE h
                exact Den.Ends.mk (.inl rfl) (d := .bool false) (p := (True ∧ True) ∧ (True ∧ True)) (by kernel_rfl) ⟨⟨trivial, trivial⟩, ⟨trivial, trivial⟩⟩ (by kernel_rfl)
            · replace h := iteF h16 h
              refine At.adv [] [(9, { told := [(2, { ans := .val (.tup [.str v6.1, .int .i64 v6.2]), args := [.int .i64 v4.1, .int .i64 x1] })], gs := [], keep := some ([0, 1, 9, 12, 14, 16, 17], []) }), (10, { told := [(0, { ans := .val (.bool v7), args := [] }), (4, { ans := .yes }), (9, { ans := .yes }), (17, { ans := .yes }), (25, { ans := .no }), (26, { ans := .no }), (27, { ans := .yes })], gs := [(2, true), (3, true), (6, true), (7, true), (8, true), (11, true), (12, true), (13, true), (14, true), (15, true), (16, true), (17, true), (18, true), (19, true), (20, true), (21, true), (22, false), (23, false), (24, false), (25, true), (26, true)], keep := some ([8], []) })] 400 (ev := .ret) (σ' := mkS 126 [(8, .bool false)] []) (q := [True ∧ ((True ∧ (True ∧ True)) ∧ ([.int .i64 v4.1, .int .i64 x1] : List D) = [.int .i64 v4.1, .int .i64 x1] ∧ CallSpec Try.prog 9 [.int .i64 v4.1, .int .i64 x1] (.tup [.str v6.1, .int .i64 v6.2])), True ∧ (True ∧ ([] : List D) = [] ∧ CallSpec Try.prog 11 [] (.bool v7)), (v7 == true) = true ∧ True, (v7 == true) = true ∧ True, True ∧ (v7 = true), ((v6.2 == 0) == true) = true ∧ True, ((v6.2 == 0) == true) = true ∧ True, ((v6.2 == 0) == true) = true ∧ True, True ∧ ((v6.2 == 0) = true), ((v6.1 == v0.1) == true) = true ∧ True, ((v6.1 == v0.1) == true) = true ∧ True, ((v6.1 == v0.1) == true) = true ∧ True, ((decide (x0 < 0)) == true) = true ∧ True, ((decide (x0 < 0)) == true) = true ∧ True, ((decide (x0 < 0)) == true) = true ∧ True, ((v6.1 == v0.1) == true) = true ∧ ((decide (x0 < 0)) = true), ((v6.1 == v0.1) == true) = true ∧ True, ((v5.1 == x0) == false) = true ∧ True, ((v5.1 == x0) == false) = true ∧ True, ((v5.1 == x0) == false) = true ∧ True, ((decide (x0 ≥ 0)) == true) = false, ((decide (x0 ≥ 0)) == true) = false, ((decide (x0 ≥ 0)) == true) = false, ((v5.1 == x0) == false) = true ∧ ((decide (x0 ≥ 0)) = false), ((v6.1 == v0.1) == true) = true ∧ ((v5.1 == x0) = false), True ∧ ((v6.1 == v0.1) = true), True, True, True, True, True, True, True, True, True, True]) (by kernel_rfl) ⟨⟨trivial, ⟨⟨trivial, ⟨trivial, trivial⟩⟩, rfl, w9 e6⟩⟩, ⟨trivial, ⟨trivial, rfl, w11 e7⟩⟩, ⟨(gB h9 rfl), trivial⟩, ⟨(gB h9 rfl), trivial⟩, ⟨trivial, h9⟩, ⟨(gB h10 rfl), trivial⟩, ⟨(gB h10 rfl), trivial⟩, ⟨(gB h10 rfl), trivial⟩, ⟨trivial, h10⟩, ⟨(gB h11 rfl), trivial⟩, ⟨(gB h11 rfl), trivial⟩, ⟨(gB h11 rfl), trivial⟩, ⟨(gB h12 rfl), trivial⟩, ⟨(gB h12 rfl), trivial⟩, ⟨(gB h12 rfl), trivial⟩, ⟨(gB h11 rfl), h12⟩, ⟨(gB h11 rfl), trivial⟩, ⟨(gB h13 rfl), trivial⟩, ⟨(gB h13 rfl), trivial⟩, ⟨(gB h13 rfl), trivial⟩, gB h16 rfl, gB h16 rfl, gB h16 rfl, ⟨(gB h13 rfl), h16⟩, ⟨(gB h11 rfl), h13⟩, ⟨trivial, h11⟩, trivial, trivial, trivial, trivial, trivial, trivial, trivial, trivial, trivial, trivial, trivial⟩ ?_
              refine EvOk.ret ?_
              obtain rfl := someE h
              exact Den.Ends.mk (.inl rfl) (d := .bool false) (p := (True ∧ True) ∧ (True ∧ True)) (by kernel_rfl) ⟨⟨trivial, trivial⟩, ⟨trivial, trivial⟩⟩ (by kernel_rfl)
        · replace h := iteF h12 h
          rcases Bool.eq_false_or_eq_true (decide (x0 ≥ 0)) with h18 | h18
          · replace h := iteT h18 h
            rcases Bool.eq_false_or_eq_true (v4.1 == x0) with h19 | h19
            · replace h := iteT h19 h
              refine At.adv [] [(9, { told := [(2, { ans := .val (.tup [.str v6.1, .int .i64 v6.2]), args := [.int .i64 v4.1, .int .i64 x1] })], gs := [], keep := some ([0, 1, 9, 12, 14, 16, 17], []) }), (10, { told := [(0, { ans := .val (.bool v7), args := [] }), (4, { ans := .yes }), (9, { ans := .yes }), (17, { ans := .no }), (25, { ans := .yes }), (27, { ans := .yes }), (34, { ans := .yes }), (39, { ans := .yes })], gs := [(2, true), (3, true), (6, true), (7, true), (8, true), (11, true), (12, true), (13, true), (14, false), (15, false), (16, false), (17, true), (18, true), (22, true), (23, true), (24, true), (26, true), (29, true), (30, true), (31, true), (32, false), (33, false), (34, true), (35, true), (38, true)], keep := some ([8], []) })] 400 (ev := .ret) (σ' := mkS 126 [(8, .bool true)] []) (q := [True ∧ ((True ∧ (True ∧ True)) ∧ ([.int .i64 v4.1, .int .i64 x1] : List D) = [.int .i64 v4.1, .int .i64 x1] ∧ CallSpec Try.prog 9 [.int .i64 v4.1, .int .i64 x1] (.tup [.str v6.1, .int .i64 v6.2])), True ∧ (True ∧ ([] : List D) = [] ∧ CallSpec Try.prog 11 [] (.bool v7)), (v7 == true) = true ∧ True, (v7 == true) = true ∧ True, True ∧ (v7 = true), ((v6.2 == 0) == true) = true ∧ True, ((v6.2 == 0) == true) = true ∧ True, ((v6.2 == 0) == true) = true ∧ True, True ∧ ((v6.2 == 0) = true), ((v6.1 == v0.1) == true) = true ∧ True, ((v6.1 == v0.1) == true) = true ∧ True, ((v6.1 == v0.1) == true) = true ∧ True, ((decide (x0 < 0)) == true) = false, ((decide (x0 < 0)) == true) = false, ((decide (x0 < 0)) == true) = false, ((v6.1 == v0.1) == true) = true ∧ ((decide (x0 < 0)) = false), ((v6.1 == v0.1) == true) = true ∧ True, True ∧ True, True ∧ True, True ∧ True, ((decide (x0 ≥ 0)) == true) = true ∧ True, ((decide (x0 ≥ 0)) == true) = true ∧ True, ((decide (x0 ≥ 0)) == true) = true ∧ True, True ∧ ((decide (x0 ≥ 0)) = true), ((v6.1 == v0.1) == true) = true ∧ True, True ∧ ((v6.1 == v0.1) = true), ((v4.1 == x0) == true) = true ∧ True, ((v4.1 == x0) == true) = true ∧ True, ((v4.1 == x0) == true) = true ∧ True, ((decide (x0 ≥ 0)) == false) = false, ((decide (x0 ≥ 0)) == false) = false, ((v4.1 == x0) == true) = true ∧ ((decide (x0 ≥ 0)) = true), ((v4.1 == x0) == true) = true ∧ True, True, True, ((v4.1 == x0) == true) = true ∧ True, True ∧ ((v4.1 == x0) = true)]) (by kernel_rfl) ⟨⟨trivial, ⟨⟨trivial, ⟨trivial, trivial⟩⟩, rfl, w9 e6⟩⟩, ⟨trivial, ⟨trivial, rfl, w11 e7⟩⟩, ⟨(gB h9 rfl), trivial⟩, ⟨(gB h9 rfl), trivial⟩, ⟨trivial, h9⟩, ⟨(gB h10 rfl), trivial⟩, ⟨(gB h10 rfl), trivial⟩, ⟨(gB h10 rfl), trivial⟩, ⟨trivial, h10⟩, ⟨(gB h11 rfl), trivial⟩, ⟨(gB h11 rfl), trivial⟩, ⟨(gB h11 rfl), trivial⟩, gB h12 rfl, gB h12 rfl, gB h12 rfl, ⟨(gB h11 rfl), h12⟩, ⟨(gB h11 rfl), trivial⟩, ⟨trivial, trivial⟩, ⟨trivial, trivial⟩, ⟨trivial, trivial⟩, ⟨(gB h18 rfl), trivial⟩, ⟨(gB h18 rfl), trivial⟩, ⟨(gB h18 rfl), trivial⟩, ⟨trivial, h18⟩, ⟨(gB h11 rfl), trivial⟩, ⟨trivial, h11⟩, ⟨(gB h19 rfl), trivial⟩, ⟨(gB h19 rfl), trivial⟩, ⟨(gB h19 rfl), trivial⟩, gB h18 rfl, gB h18 rfl, ⟨(gB h19 rfl), h18⟩, ⟨(gB h19 rfl), trivial⟩, trivial, trivial, ⟨(gB h19 rfl), trivial⟩, ⟨trivial, h19⟩, trivial⟩ ?_
              refine EvOk.ret ?_
              obtain rfl := someE h
              exact Den.Ends.mk (.inl rfl) (d := .bool true) (p := (True ∧ True) ∧ (True ∧ True)) (by kernel_rfl) ⟨⟨trivial, trivial⟩, ⟨trivial, trivial⟩⟩ (by kernel_rfl)
            · replace h := iteF h19 h
              refine At.adv [] [(9, { told := [(2, { ans := .val (.tup [.str v6.1, .int .i64 v6.2]), args := [.int .i64 v4.1, .int .i64 x1] })], gs := [], keep := some ([0, 1, 9, 12, 14, 16, 17], []) }), (10, { told := [(0, { ans := .val (.bool v7), args := [] }), (4, { ans := .yes }), (9, { ans := .yes }), (17, { ans := .no }), (25, { ans := .yes }), (27, { ans := .yes }), (39, { ans := .no })], gs := [(2, true), (3, true), (6, true), (7, true), (8, true), (11, true), (12, true), (13, true), (14, false), (15, false), (16, false), (17, true), (18, true), (22, true), (23, true), (24, true), (26, true), (29, false), (30, false), (31, false), (34, false), (35, false), (38, false)], keep := some ([8], []) })] 400 (ev := .ret) (σ' := mkS 126 [(8, .bool false)] []) (q := [True ∧ ((True ∧ (True ∧ True)) ∧ ([.int .i64 v4.1, .int .i64 x1] : List D) = [.int .i64 v4.1, .int .i64 x1] ∧ CallSpec Try.prog 9 [.int .i64 v4.1, .int .i64 x1] (.tup [.str v6.1, .int .i64 v6.2])), True ∧ (True ∧ ([] : List D) = [] ∧ CallSpec Try.prog 11 [] (.bool v7)), (v7 == true) = true ∧ True, (v7 == true) = true ∧ True, True ∧ (v7 = true), ((v6.2 == 0) == true) = true ∧ True, ((v6.2 == 0) == true) = true ∧ True, ((v6.2 == 0) == true) = true ∧ True, True ∧ ((v6.2 == 0) = true), ((v6.1 == v0.1) == true) = true ∧ True, ((v6.1 == v0.1) == true) = true ∧ True, ((v6.1 == v0.1) == true) = true ∧ True, ((decide (x0 < 0)) == true) = false, ((decide (x0 < 0)) == true) = false, ((decide (x0 < 0)) == true) = false, ((v6.1 == v0.1) == true) = true ∧ ((decide (x0 < 0)) = false), ((v6.1 == v0.1) == true) = true ∧ True, True ∧ True, True ∧ True, True ∧ True, ((decide (x0 ≥ 0)) == true) = true ∧ True, ((decide (x0 ≥ 0)) == true) = true ∧ True, ((decide (x0 ≥ 0)) == true) = true ∧ True, True ∧ ((decide (x0 ≥ 0)) = true), ((v6.1 == v0.1) == true) = true ∧ True, True ∧ ((v6.1 == v0.1) = true), ((v4.1 == x0) == true) = false, ((v4.1 == x0) == true) = false, ((v4.1 == x0) == true) = false, True, True, ((v4.1 == x0) == true) = false, ((v4.1 == x0) == true) = false, True, True, ((v4.1 == x0) == true) = false, True ∧ ((v4.1 == x0) = false)]) (by kernel_rfl) ⟨⟨trivial, ⟨⟨trivial, ⟨trivial, trivial⟩⟩, rfl, w9 e6⟩⟩, ⟨trivial, ⟨trivial, rfl, w11 e7⟩⟩, ⟨(gB h9 rfl), trivial⟩, ⟨(gB h9 rfl), trivial⟩, ⟨trivial, h9⟩, ⟨(gB h10 rfl), trivial⟩, ⟨(gB h10 rfl), trivial⟩, ⟨(gB h10 rfl), trivial⟩, ⟨trivial, h10⟩, ⟨(gB h11 rfl), trivial⟩, ⟨(gB h11 rfl), trivial⟩, ⟨(gB h11 rfl), trivial⟩, gB h12 rfl, gB h12 rfl, gB h12 rfl, ⟨(gB h11 rfl), h12⟩, ⟨(gB h11 rfl), trivial⟩, ⟨trivial, trivial⟩, ⟨trivial, trivial⟩, ⟨trivial, trivial⟩, ⟨(gB h18 rfl), trivial⟩, ⟨(gB h18 rfl), trivial⟩, ⟨(gB h18 rfl), trivial⟩, ⟨trivial, h18⟩, ⟨(gB h11 rfl), trivial⟩, ⟨trivial, h11⟩, gB h19 rfl, gB h19 rfl, gB h19 rfl, trivial, trivial, gB h19 rfl, gB h19 rfl, trivial, trivial, gB h19 rfl, ⟨trivial, h19⟩, trivial⟩ ?_
              refine EvOk.ret ?_
              obtain rfl := someE h
              exact Den.Ends.mk (.inl rfl) (d := .bool false) (p := (True ∧ True) ∧ (True ∧ True)) (by kernel_rfl) ⟨⟨trivial, trivial⟩, ⟨trivial, trivial⟩⟩ (by kernel_rfl)
          · replace h := iteF h18 h
            refine At.adv [] [(9, { told := [(2, { ans := .val (.tup [.str v6.1, .int .i64 v6.2]), args := [.int .i64 v4.1, .int .i64 x1] })], gs := [], keep := some ([0, 1, 9, 12, 14, 16, 17], []) }), (10, { told := [(0, { ans := .val (.bool v7), args := [] }), (4, { ans := .yes }), (9, { ans := .yes }), (17, { ans := .no }), (25, { ans := .no }), (27, { ans := .yes })], gs := [(2, true), (3, true), (6, true), (7, true), (8, true), (11, true), (12, true), (13, true), (14, false), (15, false), (16, false), (17, true), (18, true), (22, false), (23, false), (24, false), (26, true)], keep := some ([8], []) })] 400 (ev := .ret) (σ' := mkS 126 [(8, .bool false)] []) (q := [True ∧ ((True ∧ (True ∧ True)) ∧ ([.int .i64 v4.1, .int .i64 x1] : List D) = [.int .i64 v4.1, .int .i64 x1] ∧ CallSpec Try.prog 9 [.int .i64 v4.1, .int .i64 x1] (.tup [.str v6.1, .int .i64 v6.2])), True ∧ (True ∧ ([] : List D) = [] ∧ CallSpec Try.prog 11 [] (.bool v7)), (v7 == true) = true ∧ True, (v7 == true) = true ∧ True, True ∧ (v7 = true), ((v6.2 == 0) == true) = true ∧ True, ((v6.2 == 0) == true) = true ∧ True, ((v6.2 == 0) == true) = true ∧ True, True ∧ ((v6.2 == 0) = true), ((v6.1 == v0.1) == true) = true ∧ True, ((v6.1 == v0.1) == true) = true ∧ True, ((v6.1 == v0.1) == true) = true ∧ True, ((decide (x0 < 0)) == true) = false, ((decide (x0 < 0)) == true) = false, ((decide (x0 < 0)) == true) = false, ((v6.1 == v0.1) == true) = true ∧ ((decide (x0 < 0)) = false), ((v6.1 == v0.1) == true) = true ∧ True, True ∧ True, True ∧ True, True ∧ True, ((decide (x0 ≥ 0)) == true) = false, ((decide (x0 ≥ 0)) == true) = false, ((decide (x0 ≥ 0)) == true) = false, True ∧ ((decide (x0 ≥ 0)) = false), ((v6.1 == v0.1) == true) = true ∧ True, True ∧ ((v6.1 == v0.1) = true), True, True, True, True, True, True, True, True, True, True]) (by kernel_rfl) ⟨⟨trivial, ⟨⟨trivial, ⟨trivial, trivial⟩⟩, rfl, w9 e6⟩⟩, ⟨trivial, ⟨trivial, rfl, w11 e7⟩⟩, ⟨(gB h9 rfl), trivial⟩, ⟨(gB h9 rfl), trivial⟩, ⟨trivial, h9⟩, ⟨(gB h10 rfl), trivial⟩, ⟨(gB h10 rfl), trivial⟩, ⟨(gB h10 rfl), trivial⟩, ⟨trivial, h10⟩, ⟨(gB h11 rfl), trivial⟩, ⟨(gB h11 rfl), trivial⟩, ⟨(gB h11 rfl), trivial⟩, gB h12 rfl, gB h12 rfl, gB h12 rfl, ⟨(gB h11 rfl), h12⟩, ⟨(gB h11 rfl), trivial⟩, ⟨trivial, trivial⟩, ⟨trivial, trivial⟩, ⟨trivial, trivial⟩, gB h18 rfl, gB h18 rfl, gB h18 rfl, ⟨trivial, h18⟩, ⟨(gB h11 rfl), trivial⟩, ⟨trivial, h11⟩, trivial, trivial, trivial, trivial, trivial, trivial, trivial, trivial, trivial, trivial, trivial⟩ ?_
            refine EvOk.ret ?_
            obtain rfl := someE h
            exact Den.Ends.mk (.inl rfl) (d := .bool false) (p := (True ∧ True) ∧ (True ∧ True)) (by kernel_rfl) ⟨⟨trivial, trivial⟩, ⟨trivial, trivial⟩⟩ (by kernel_rfl)
      · replace h := iteF h11 h
        refine At.adv [] [(9, { told := [(2, { ans := .val (.tup [.str v6.1, .int .i64 v6.2]), args := [.int .i64 v4.1, .int .i64 x1] })], gs := [], keep := some ([0, 1, 9, 12, 14, 16, 17], []) }), (10, { told := [(0, { ans := .val (.bool v7), args := [] }), (4, { ans := .yes }), (9, { ans := .yes }), (27, { ans := .no })], gs := [(2, true), (3, true), (6, true), (7, true), (8, true), (11, false), (12, false), (13, false), (17, false), (18, false), (26, false)], keep := some ([8], []) })] 400 (ev := .ret) (σ' := mkS 126 [(8, .bool false)] []) (q := [True ∧ ((True ∧ (True ∧ True)) ∧ ([.int .i64 v4.1, .int .i64 x1] : List D) = [.int .i64 v4.1, .int .i64 x1] ∧ CallSpec Try.prog 9 [.int .i64 v4.1, .int .i64 x1] (.tup [.str v6.1, .int .i64 v6.2])), True ∧ (True ∧ ([] : List D) = [] ∧ CallSpec Try.prog 11 [] (.bool v7)), (v7 == true) = true ∧ True, (v7 == true) = true ∧ True, True ∧ (v7 = true), ((v6.2 == 0) == true) = true ∧ True, ((v6.2 == 0) == true) = true ∧ True, ((v6.2 == 0) == true) = true ∧ True, True ∧ ((v6.2 == 0) = true), ((v6.1 == v0.1) == true) = false, ((v6.1 == v0.1) == true) = false, ((v6.1 == v0.1) == true) = false, True, True, True, ((v6.1 == v0.1) == true) = false, ((v6.1 == v0.1) == true) = false, True, True, True, True, True, True, True, ((v6.1 == v0.1) == true) = false, True ∧ ((v6.1 == v0.1) = false), True, True, True, True, True, True, True, True, True, True]) (by kernel_rfl) ⟨⟨trivial, ⟨⟨trivial, ⟨trivial, trivial⟩⟩, rfl, w9 e6⟩⟩, ⟨trivial, ⟨trivial, rfl, w11 e7⟩⟩, ⟨(gB h9 rfl), trivial⟩, ⟨(gB h9 rfl), trivial⟩, ⟨trivial, h9⟩, ⟨(gB h10 rfl), trivial⟩, ⟨(gB h10 rfl), trivial⟩, ⟨(gB h10 rfl), trivial⟩, ⟨trivial, h10⟩, gB h11 rfl, gB h11 rfl, gB h11 rfl, trivial, trivial, trivial, gB h11 rfl, gB h11 rfl, trivial, trivial, trivial, trivial, trivial, trivial, trivial, gB h11 rfl, ⟨trivial, h11⟩, trivial, trivial, trivial, trivial, trivial, trivial, trivial, trivial, trivial, trivial, trivial⟩ ?_
        refine EvOk.ret ?_
        obtain rfl := someE h
        exact Den.Ends.mk (.inl rfl) (d := .bool false) (p := (True ∧ True) ∧ (True ∧ True)) (by kernel_rfl) ⟨⟨trivial, trivial⟩, ⟨trivial, trivial⟩⟩ (by kernel_rfl)
    · replace h := iteF h10 h
      refine At.adv [] [(9, { told := [(2, { ans := .val (.tup [.str v6.1, .int .i64 v6.2]), args := [.int .i64 v4.1, .int .i64 x1] })], gs := [], keep := some ([0, 1, 9, 12, 14, 16, 17], []) }), (10, { told := [(0, { ans := .val (.bool v7), args := [] }), (4, { ans := .yes }), (9, { ans := .no })], gs := [(2, true), (3, true), (6, false), (7, false), (8, false)], keep := some ([8], []) })] 400 (ev := .ret) (σ' := mkS 126 [(8, .bool false)] []) (q := [True ∧ ((True ∧ (True ∧ True)) ∧ ([.int .i64 v4.1, .int .i64 x1] : List D) = [.int .i64 v4.1, .int .i64 x1] ∧ CallSpec Try.prog 9 [.int .i64 v4.1, .int .i64 x1] (.tup [.str v6.1, .int .i64 v6.2])), True ∧ (True ∧ ([] : List D) = [] ∧ CallSpec Try.prog 11 [] (.bool v7)), (v7 == true) = true ∧ True, (v7 == true) = true ∧ True, True ∧ (v7 = true), ((v6.2 == 0) == true) = false, ((v6.2 == 0) == true) = false, ((v6.2 == 0) == true) = false, True ∧ ((v6.2 == 0) = false), True, True, True, True, True, True, True, True, True, True, True, True, True, True, True, True, True, True, True, True, True, True, True, True, True, True]) (by kernel_rfl) ⟨⟨trivial, ⟨⟨trivial, ⟨trivial, trivial⟩⟩, rfl, w9 e6⟩⟩, ⟨trivial, ⟨trivial, rfl, w11 e7⟩⟩, ⟨(gB h9 rfl), trivial⟩, ⟨(gB h9 rfl), trivial⟩, ⟨trivial, h9⟩, gB h10 rfl, gB h10 rfl, gB h10 rfl, ⟨trivial, h10⟩, trivial, trivial, trivial, trivial, trivial, trivial, trivial, trivial, trivial, trivial, trivial, trivial, trivial, trivial, trivial, trivial, trivial, trivial, trivial, trivial, trivial, trivial, trivial, trivial, trivial, trivial, trivial⟩ ?_
      refine EvOk.ret ?_
      obtain rfl := someE h
      exact Den.Ends.mk (.inl rfl) (d := .bool false) (p := (True ∧ True) ∧ (True ∧ True)) (by kernel_rfl) ⟨⟨trivial, trivial⟩, ⟨trivial, trivial⟩⟩ (by kernel_rfl)
  · replace h := iteF h9 h
    refine At.adv [] [(9, { told := [(2, { ans := .val (.tup [.str v6.1, .int .i64 v6.2]), args := [.int .i64 v4.1, .int .i64 x1] })], gs := [], keep := some ([0, 1, 9, 12, 14, 16, 17], []) }), (10, { told := [(0, { ans := .val (.bool v7), args := [] }), (4, { ans := .no })], gs := [(2, false), (3, false)], keep := some ([8], []) })] 400 (ev := .ret) (σ' := mkS 126 [(8, .bool false)] []) (q := [True ∧ ((True ∧ (True ∧ True)) ∧ ([.int .i64 v4.1, .int .i64 x1] : List D) = [.int .i64 v4.1, .int .i64 x1] ∧ CallSpec Try.prog 9 [.int .i64 v4.1, .int .i64 x1] (.tup [.str v6.1, .int .i64 v6.2])), True ∧ (True ∧ ([] : List D) = [] ∧ CallSpec Try.prog 11 [] (.bool v7)), (v7 == true) = false, (v7 == true) = false, True ∧ (v7 = false), True, True, True, True, True, True, True, True, True, True, True, True, True, True, True, True, True, True, True, True, True, True, True, True, True, True, True, True, True]) (by kernel_rfl) ⟨⟨trivial, ⟨⟨trivial, ⟨trivial, trivial⟩⟩, rfl, w9 e6⟩⟩, ⟨trivial, ⟨trivial, rfl, w11 e7⟩⟩, gB h9 rfl, gB h9 rfl, ⟨trivial, h9⟩, trivial, trivial, trivial, trivial, trivial, trivial, trivial, trivial, trivial, trivial, trivial, trivial, trivial, trivial, trivial, trivial, trivial, trivial, trivial, trivial, trivial, trivial, trivial, trivial, trivial, trivial, trivial, trivial, trivial, trivial⟩ ?_
    refine EvOk.ret ?_
    obtain rfl := someE h
    exact Den.Ends.mk (.inl rfl) (d := .bool false) (p := (True ∧ True) ∧ (True ∧ True)) (by kernel_rfl) ⟨⟨trivial, trivial⟩, ⟨trivial, trivial⟩⟩ (by kernel_rfl)
theorem we5 (x0 : Int) (x1 : Int) (x2 : List UInt8) (x3 : List UInt8) (r : Bool) (h : m_armaturelaw02_OctetNumberRoundTrip x0 x1 x2 x3 = some r) (Γ : Ctx) : At Try.prog Γ b5 [] (Den.Ends Try.prog Try.f5 (.bool r)) (mkS 126 [(0, .int .i64 x0), (1, .int .i64 x1), (2, .str x2), (3, .str x3)] []) := by
  obtain ⟨v0, e0, h⟩ := bindE h
  refine At.adv [] [(0, { told := [], gs := [], keep := some ([0, 1, 2, 3], []) }), (1, { told := [(2, { ans := .val (.tup [.str v0.1, .int .i64 v0.2]), args := [.int .i64 x0, .int .i64 x1] })], gs := [], keep := some ([0, 1, 2, 3, 9, 10], []) }), (2, { told := [], gs := [], keep := some ([0, 1, 2, 3, 9, 10, 25], []) })] 400 (ev := .cond (v0.2 != 0) c5x15 c5x16 [.seq c5x2]) (σ' := mkS 126 [(0, .int .i64 x0), (1, .int .i64 x1), (2, .str x2), (3, .str x3), (9, .str v0.1), (10, .int .i64 v0.2), (25, .bool (v0.2 != 0))] []) (q := [True ∧ ((True ∧ (True ∧ True)) ∧ ([.int .i64 x0, .int .i64 x1] : List D) = [.int .i64 x0, .int .i64 x1] ∧ CallSpec Try.prog 9 [.int .i64 x0, .int .i64 x1] (.tup [.str v0.1, .int .i64 v0.2]))]) (by kernel_rfl) ⟨⟨trivial, ⟨⟨trivial, ⟨trivial, trivial⟩⟩, rfl, w9 e0⟩⟩, trivial⟩ ?_
  refine EvOk.cond (fun h0 => ?_) (fun h0 => ?_)
  · replace h := iteT h0 h
    refine At.gc [9, 10] [] (n := 126) (l := [(9, .str v0.1), (10, .int .i64 v0.2)]) (bl := []) (by kernel_rfl) ?_
    obtain ⟨v1, e1, h⟩ := bindE h
    rcases Bool.eq_false_or_eq_true v1 with h1 | h1
    · replace h := iteT h1 h
      rcases Bool.eq_false_or_eq_true (v0.1 == ([] : List UInt8)) with h2 | h2
      · replace h := iteT h2 h
        rcases Bool.eq_false_or_eq_true (v0.2 == 1) with h3 | h3
        · replace h := iteT h3 h
          refine At.adv [] [(3, { told := [(0, { ans := .val (.bool v1), args := [] }), (4, { ans := .yes }), (11, { ans := .yes }), (12, { ans := .yes })], gs := [(2, true), (3, true), (6, true), (7, true), (8, true), (9, false), (10, false), (11, true)], keep := some ([8], []) })] 400 (ev := .ret) (σ' := mkS 126 [(8, .bool true)] []) (q := [True ∧ (True ∧ ([] : List D) = [] ∧ CallSpec Try.prog 11 [] (.bool v1)), (v1 == true) = true ∧ True, (v1 == true) = true ∧ True, True ∧ (v1 = true), ((v0.1 == ([] : List UInt8)) == true) = true ∧ True, ((v0.1 == ([] : List UInt8)) == true) = true ∧ True, ((v0.1 == ([] : List UInt8)) == true) = true ∧ True, ((v0.2 == 1) == false) = false, ((v0.2 == 1) == false) = false, ((v0.1 == ([] : List UInt8)) == true) = true ∧ ((v0.2 == 1) = true), True ∧ ((v0.1 == ([] : List UInt8)) = true)]) (by kernel_rfl) ⟨⟨trivial, ⟨trivial, rfl, w11 e1⟩⟩, ⟨(gB h1 rfl), trivial⟩, ⟨(gB h1 rfl), trivial⟩, ⟨trivial, h1⟩, ⟨(gB h2 rfl), trivial⟩, ⟨(gB h2 rfl), trivial⟩, ⟨(gB h2 rfl), trivial⟩, gB h3 rfl, gB h3 rfl, ⟨(gB h2 rfl), h3⟩, ⟨trivial, h2⟩, trivial⟩ ?_
          refine EvOk.ret ?_
          obtain rfl := someE h
          exact Den.Ends.mk (.inl rfl) (d := .bool true) (p := (True ∧ True) ∧ (True ∧ True)) (by kernel_rfl) ⟨⟨trivial, trivial⟩, ⟨trivial, trivial⟩⟩ (by kernel_rfl)
        · replace h := iteF h3 h
          refine At.adv [] [(3, { told := [(0, { ans := .val (.bool v1), args := [] }), (4, { ans := .yes }), (11, { ans := .no }), (12, { ans := .yes })], gs := [(2, true), (3, true), (6, true), (7, true), (8, true), (9, true), (10, true), (11, true)], keep := some ([8], []) })] 400 (ev := .ret) (σ' := mkS 126 [(8, .bool (v0.2 == 8))] []) (q := [True ∧ (True ∧ ([] : List D) = [] ∧ CallSpec Try.prog 11 [] (.bool v1)), (v1 == true) = true ∧ True, (v1 == true) = true ∧ True, True ∧ (v1 = true), ((v0.1 == ([] : List UInt8)) == true) = true ∧ True, ((v0.1 == ([] : List UInt8)) == true) = true ∧ True, ((v0.1 == ([] : List UInt8)) == true) = true ∧ True, ((v0.2 == 1) == false) = true ∧ True, ((v0.2 == 1) == false) = true ∧ True, ((v0.1 == ([] : List UInt8)) == true) = true ∧ ((v0.2 == 1) = false), True ∧ ((v0.1 == ([] : List UInt8)) = true)]) (by kernel_rfl) ⟨⟨trivial, ⟨trivial, rfl, w11 e1⟩⟩, ⟨(gB h1 rfl), trivial⟩, ⟨(gB h1 rfl), trivial⟩, ⟨trivial, h1⟩, ⟨(gB h2 rfl), trivial⟩, ⟨(gB h2 rfl), trivial⟩, ⟨(gB h2 rfl), trivial⟩, ⟨(gB h3 rfl), trivial⟩, ⟨(gB h3 rfl), trivial⟩, ⟨(gB h2 rfl), h3⟩, ⟨trivial, h2⟩, trivial⟩ ?_
          refine EvOk.ret ?_
          obtain rfl := someE h
          exact Den.Ends.mk (.inl rfl) (d := .bool (v0.2 == 8)) (p := (True ∧ True) ∧ (True ∧ True)) (by kernel_rfl) ⟨⟨trivial, trivial⟩, ⟨trivial, trivial⟩⟩ (by kernel_rfl)
      · replace h := iteF h2 h
        refine At.adv [] [(3, { told := [(0, { ans := .val (.bool v1), args := [] }), (4, { ans := .yes }), (12, { ans := .no })], gs := [(2, true), (3, true), (6, false), (7, false), (8, false), (11, false)], keep := some ([8], []) })] 400 (ev := .ret) (σ' := mkS 126 [(8, .bool false)] []) (q := [True ∧ (True ∧ ([] : List D) = [] ∧ CallSpec Try.prog 11 [] (.bool v1)), (v1 == true) = true ∧ True, (v1 == true) = true ∧ True, True ∧ (v1 = true), ((v0.1 == ([] : List UInt8)) == true) = false, ((v0.1 == ([] : List UInt8)) == true) = false, ((v0.1 == ([] : List UInt8)) == true) = false, True, True, ((v0.1 == ([] : List UInt8)) == true) = false, True ∧ ((v0.1 == ([] : List UInt8)) = false)]) (by kernel_rfl) ⟨⟨trivial, ⟨trivial, rfl, w11 e1⟩⟩, ⟨(gB h1 rfl), trivial⟩, ⟨(gB h1 rfl), trivial⟩, ⟨trivial, h1⟩, gB h2 rfl, gB h2 rfl, gB h2 rfl, trivial, trivial, gB h2 rfl, ⟨trivial, h2⟩, trivial⟩ ?_
        refine EvOk.ret ?_
        obtain rfl := someE h
        exact Den.Ends.mk (.inl rfl) (d := .bool false) (p := (True ∧ True) ∧ (True ∧ True)) (by kernel_rfl) ⟨⟨trivial, trivial⟩, ⟨trivial, trivial⟩⟩ (by kernel_rfl)
    · replace h := iteF h1 h
      refine At.adv [] [(3, { told := [(0, { ans := .val (.bool v1), args := [] }), (4, { ans := .no })], gs := [(2, false), (3, false)], keep := some ([8], []) })] 400 (ev := .ret) (σ' := mkS 126 [(8, .bool false)] []) (q := [True ∧ (True ∧ ([] : List D) = [] ∧ CallSpec Try.prog 11 [] (.bool v1)), (v1 == true) = false, (v1 == true) = false, True ∧ (v1 = false), True, True, True, True, True, True]) (by kernel_rfl) ⟨⟨trivial, ⟨trivial, rfl, w11 e1⟩⟩, gB h1 rfl, gB h1 rfl, ⟨trivial, h1⟩, trivial, trivial, trivial, trivial, trivial, trivial, trivial⟩ ?_
      refine EvOk.ret ?_
      obtain rfl := someE h
      exact Den.Ends.mk (.inl rfl) (d := .bool false) (p := (True ∧ True) ∧ (True ∧ True)) (by kernel_rfl) ⟨⟨trivial, trivial⟩, ⟨trivial, trivial⟩⟩ (by kernel_rfl)
  · replace h := iteF h0 h
    refine At.gc [0, 1, 2, 3, 9] [] (n := 126) (l := [(0, .int .i64 x0), (1, .int .i64 x1), (2, .str x2), (3, .str x3), (9, .str v0.1)]) (bl := []) (by kernel_rfl) ?_
    obtain ⟨v2, e2, h⟩ := bindE h
    obtain ⟨v3, e3, h⟩ := bindE h
    obtain ⟨v4, e4, h⟩ := bindE h
    obtain ⟨v5, e5, h⟩ := bindE h
    rcases Bool.eq_false_or_eq_true ((v0.1.length : Int) != x1) with h4 | h4
    · replace h := iteT h4 h
      refine At.adv [] [(4, { told := [(2, { ans := .val (.str v2) }), (4, { ans := .val (.str v3) })], gs := [], keep := some ([0, 1, 2, 9, 11], []) }), (5, { told := [(4, { ans := .val (.tup [.int .i64 v4.1, .int .i64 v4.2]), args := [.str v3, .int .i64 (x2.length : Int), .int .i64 x1] })], gs := [], keep := some ([0, 1, 2, 9, 11, 12, 13], []) }), (6, { told := [(4, { ans := .val (.tup [.int .i64 v5.1, .int .i64 v5.2]), args := [.str v3, .int .i64 (x2.length : Int), .int .i64 x1] })], gs := [], keep := some ([0, 1, 9, 12, 13, 14, 15], []) }), (7, { told := [(7, { ans := .yes })], gs := [(5, false), (6, false)], keep := some ([0, 1, 9, 12, 14, 79], []) })] 400 (ev := .cond true c5x8 c5x9 [.seq c5x10]) (σ' := mkS 126 [(0, .int .i64 x0), (1, .int .i64 x1), (9, .str v0.1), (12, .int .i64 v4.1), (14, .int .i64 v5.1), (79, .bool true)] []) (q := [True ∧ (x2.length + v0.1.length ≤ 9223372036854775807 ∧ x2 ++ v0.1 = v2), True ∧ (v2.length + x3.length ≤ 9223372036854775807 ∧ v2 ++ x3 = v3), True ∧ ((True ∧ (True ∧ (True ∧ True))) ∧ ([.str v3, .int .i64 (x2.length : Int), .int .i64 x1] : List D) = [.str v3, .int .i64 (x2.length : Int), .int .i64 x1] ∧ CallSpec Try.prog 12 [.str v3, .int .i64 (x2.length : Int), .int .i64 x1] (.tup [.int .i64 v4.1, .int .i64 v4.2])), True ∧ ((True ∧ (True ∧ (True ∧ True))) ∧ ([.str v3, .int .i64 (x2.length : Int), .int .i64 x1] : List D) = [.str v3, .int .i64 (x2.length : Int), .int .i64 x1] ∧ CallSpec Try.prog 14 [.str v3, .int .i64 (x2.length : Int), .int .i64 x1] (.tup [.int .i64 v5.1, .int .i64 v5.2])), (((v0.1.length : Int) != x1) == false) = false, (((v0.1.length : Int) != x1) == false) = false, True ∧ (((v0.1.length : Int) != x1) = true), True, True, True, True, True, True, True, True]) (by kernel_rfl) ⟨⟨trivial, catK_spec e2⟩, ⟨trivial, catK_spec e3⟩, ⟨trivial, ⟨⟨trivial, ⟨trivial, ⟨trivial, trivial⟩⟩⟩, rfl, w12 e4⟩⟩, ⟨trivial, ⟨⟨trivial, ⟨trivial, ⟨trivial, trivial⟩⟩⟩, rfl, w14 e5⟩⟩, gB h4 rfl, gB h4 rfl, ⟨trivial, h4⟩, trivial, trivial, trivial, trivial, trivial, trivial, trivial, trivial, trivial⟩ ?_
      refine EvOk.cond (fun _ => ?_) (fun hb => Bool.noConfusion hb)
      refine At.gc [] [] (n := 126) (l := []) (bl := []) (by kernel_rfl) ?_
      refine At.adv [] [(8, { told := [], gs := [], keep := some ([8], []) })] 400 (ev := .ret) (σ' := mkS 126 [(8, .bool false)] []) (q := []) (by kernel_rfl) trivial ?_
      refine EvOk.ret ?_
      obtain rfl := someE h
      exact Den.Ends.mk (.inl rfl) (d := .bool false) (p := (True ∧ True) ∧ (True ∧ True)) (by kernel_rfl) ⟨⟨trivial, trivial⟩, ⟨trivial, trivial⟩⟩ (by kernel_rfl)
    · replace h := iteF h4 h
      rcases Bool.eq_false_or_eq_true (v4.2 != 0) with h5 | h5
      · replace h := iteT h5 h
        refine At.adv [] [(4, { told := [(2, { ans := .val (.str v2) }), (4, { ans := .val (.str v3) })], gs := [], keep := some ([0, 1, 2, 9, 11], []) }), (5, { told := [(4, { ans := .val (.tup [.int .i64 v4.1, .int .i64 v4.2]), args := [.str v3, .int .i64 (x2.length : Int), .int .i64 x1] })], gs := [], keep := some ([0, 1, 2, 9, 11, 12, 13], []) }), (6, { told := [(4, { ans := .val (.tup [.int .i64 v5.1, .int .i64 v5.2]), args := [.str v3, .int .i64 (x2.length : Int), .int .i64 x1] })], gs := [], keep := some ([0, 1, 9, 12, 13, 14, 15], []) }), (7, { told := [(7, { ans := .no }), (11, { ans := .yes })], gs := [(5, true), (6, true), (9, false), (10, false)], keep := some ([0, 1, 9, 12, 14, 79], []) })] 400 (ev := .cond true c5x8 c5x9 [.seq c5x10]) (σ' := mkS 126 [(0, .int .i64 x0), (1, .int .i64 x1), (9, .str v0.1), (12, .int .i64 v4.1), (14, .int .i64 v5.1), (79, .bool true)] []) (q := [True ∧ (x2.length + v0.1.length ≤ 9223372036854775807 ∧ x2 ++ v0.1 = v2), True ∧ (v2.length + x3.length ≤ 9223372036854775807 ∧ v2 ++ x3 = v3), True ∧ ((True ∧ (True ∧ (True ∧ True))) ∧ ([.str v3, .int .i64 (x2.length : Int), .int .i64 x1] : List D) = [.str v3, .int .i64 (x2.length : Int), .int .i64 x1] ∧ CallSpec Try.prog 12 [.str v3, .int .i64 (x2.length : Int), .int .i64 x1] (.tup [.int .i64 v4.1, .int .i64 v4.2])), True ∧ ((True ∧ (True ∧ (True ∧ True))) ∧ ([.str v3, .int .i64 (x2.length : Int), .int .i64 x1] : List D) = [.str v3, .int .i64 (x2.length : Int), .int .i64 x1] ∧ CallSpec Try.prog 14 [.str v3, .int .i64 (x2.length : Int), .int .i64 x1] (.tup [.int .i64 v5.1, .int .i64 v5.2])), (((v0.1.length : Int) != x1) == false) = true ∧ True, (((v0.1.length : Int) != x1) == false) = true ∧ True, True ∧ (((v0.1.length : Int) != x1) = false), ((v4.2 != 0) == false) = false, ((v4.2 != 0) == false) = false, True ∧ ((v4.2 != 0) = true), True, True, True, True, True, True]) (by kernel_rfl) ⟨⟨trivial, catK_spec e2⟩, ⟨trivial, catK_spec e3⟩, ⟨trivial, ⟨⟨trivial, ⟨trivial, ⟨trivial, trivial⟩⟩⟩, rfl, w12 e4⟩⟩, ⟨trivial, ⟨⟨trivial, ⟨trivial, ⟨trivial, trivial⟩⟩⟩, rfl, w14 e5⟩⟩, ⟨(gB h4 rfl), trivial⟩, ⟨(gB h4 rfl), trivial⟩, ⟨trivial, h4⟩, gB h5 rfl, gB h5 rfl, ⟨trivial, h5⟩, trivial, trivial, trivial, trivial, trivial, trivial, trivial⟩ ?_
        refine EvOk.cond (fun _ => ?_) (fun hb => Bool.noConfusion hb)
        refine At.gc [] [] (n := 126) (l := []) (bl := []) (by kernel_rfl) ?_
        refine At.adv [] [(8, { told := [], gs := [], keep := some ([8], []) })] 400 (ev := .ret) (σ' := mkS 126 [(8, .bool false)] []) (q := []) (by kernel_rfl) trivial ?_
        refine EvOk.ret ?_
        obtain rfl := someE h
        exact Den.Ends.mk (.inl rfl) (d := .bool false) (p := (True ∧ True) ∧ (True ∧ True)) (by kernel_rfl) ⟨⟨trivial, trivial⟩, ⟨trivial, trivial⟩⟩ (by kernel_rfl)
      · replace h := iteF h5 h
        rcases Bool.eq_false_or_eq_true (v5.2 != 0) with h6 | h6
        · replace h := iteT h6 h
          refine At.adv [] [(4, { told := [(2, { ans := .val (.str v2) }), (4, { ans := .val (.str v3) })], gs := [], keep := some ([0, 1, 2, 9, 11], []) }), (5, { told := [(4, { ans := .val (.tup [.int .i64 v4.1, .int .i64 v4.2]), args := [.str v3, .int .i64 (x2.length : Int), .int .i64 x1] })], gs := [], keep := some ([0, 1, 2, 9, 11, 12, 13], []) }), (6, { told := [(4, { ans := .val (.tup [.int .i64 v5.1, .int .i64 v5.2]), args := [.str v3, .int .i64 (x2.length : Int), .int .i64 x1] })], gs := [], keep := some ([0, 1, 9, 12, 13, 14, 15], []) }), (7, { told := [(7, { ans := .no }), (11, { ans := .no }), (19, { ans := .yes })], gs := [(5, true), (6, true), (9, true), (10, true), (13, false), (14, false), (15, false), (18, false)], keep := some ([0, 1, 9, 12, 14, 79], []) })] 400 (ev := .cond true c5x8 c5x9 [.seq c5x10]) (σ' := mkS 126 [(0, .int .i64 x0), (1, .int .i64 x1), (9, .str v0.1), (12, .int .i64 v4.1), (14, .int .i64 v5.1), (79, .bool true)] []) (q := [True ∧ (x2.length + v0.1.length ≤ 9223372036854775807 ∧ x2 ++ v0.1 = v2), True ∧ (v2.length + x3.length ≤ 9223372036854775807 ∧ v2 ++ x3 = v3), True ∧ ((True ∧ (True ∧ (True ∧ True))) ∧ ([.str v3, .int .i64 (x2.length : Int), .int .i64 x1] : List D) = [.str v3, .int .i64 (x2.length : Int), .int .i64 x1] ∧ CallSpec Try.prog 12 [.str v3, .int .i64 (x2.length : Int), .int .i64 x1] (.tup [.int .i64 v4.1, .int .i64 v4.2])), True ∧ ((True ∧ (True ∧ (True ∧ True))) ∧ ([.str v3, .int .i64 (x2.length : Int), .int .i64 x1] : List D) = [.str v3, .int .i64 (x2.length : Int), .int .i64 x1] ∧ CallSpec Try.prog 14 [.str v3, .int .i64 (x2.length : Int), .int .i64 x1] (.tup [.int .i64 v5.1, .int .i64 v5.2])), (((v0.1.length : Int) != x1) == false) = true ∧ True, (((v0.1.length : Int) != x1) == false) = true ∧ True, True ∧ (((v0.1.length : Int) != x1) = false), ((v4.2 != 0) == false) = true ∧ True, ((v4.2 != 0) == false) = true ∧ True, True ∧ ((v4.2 != 0) = false), ((v5.2 != 0) == false) = false, ((v5.2 != 0) == false) = false, ((v5.2 != 0) == false) = false, True, True, ((v5.2 != 0) == false) = false, True ∧ ((v5.2 != 0) = true)]) (by kernel_rfl) ⟨⟨trivial, catK_spec e2⟩, ⟨trivial, catK_spec e3⟩, ⟨trivial, ⟨⟨trivial, ⟨trivial, ⟨trivial, trivial⟩⟩⟩, rfl, w12 e4⟩⟩, ⟨trivial, ⟨⟨trivial, ⟨trivial, ⟨trivial, trivial⟩⟩⟩, rfl, w14 e5⟩⟩, ⟨(gB h4 rfl), trivial⟩, ⟨(gB h4 rfl), trivial⟩, ⟨trivial, h4⟩, ⟨(gB h5 rfl), trivial⟩, ⟨(gB h5 rfl), trivial⟩, ⟨trivial, h5⟩, gB h6 rfl, gB h6 rfl, gB h6 rfl, trivial, trivial, gB h6 rfl, ⟨trivial, h6⟩, trivial⟩ ?_
          refine EvOk.cond (fun _ => ?_) (fun hb => Bool.noConfusion hb)
          refine At.gc [] [] (n := 126) (l := []) (bl := []) (by kernel_rfl) ?_
          refine At.adv [] [(8, { told := [], gs := [], keep := some ([8], []) })] 400 (ev := .ret) (σ' := mkS 126 [(8, .bool false)] []) (q := []) (by kernel_rfl) trivial ?_
          refine EvOk.ret ?_
          obtain rfl := someE h
          exact Den.Ends.mk (.inl rfl) (d := .bool false) (p := (True ∧ True) ∧ (True ∧ True)) (by kernel_rfl) ⟨⟨trivial, trivial⟩, ⟨trivial, trivial⟩⟩ (by kernel_rfl)
        · replace h := iteF h6 h
          rcases Bool.eq_false_or_eq_true (decide (x1 < 8)) with h7 | h7
          · replace h := iteT h7 h
            refine At.adv [] [(4, { told := [(2, { ans := .val (.str v2) }), (4, { ans := .val (.str v3) })], gs := [], keep := some ([0, 1, 2, 9, 11], []) }), (5, { told := [(4, { ans := .val (.tup [.int .i64 v4.1, .int .i64 v4.2]), args := [.str v3, .int .i64 (x2.length : Int), .int .i64 x1] })], gs := [], keep := some ([0, 1, 2, 9, 11, 12, 13], []) }), (6, { told := [(4, { ans := .val (.tup [.int .i64 v5.1, .int .i64 v5.2]), args := [.str v3, .int .i64 (x2.length : Int), .int .i64 x1] })], gs := [], keep := some ([0, 1, 9, 12, 13, 14, 15], []) }), (7, { told := [(7, { ans := .no }), (11, { ans := .no }), (18, { ans := .yes }), (19, { ans := .no })], gs := [(5, true), (6, true), (9, true), (10, true), (13, true), (14, true), (15, true), (16, true), (17, true), (18, true)], keep := some ([0, 1, 9, 12, 14, 79], []) })] 400 (ev := .cond (decide (v4.1 < 0)) c5x8 c5x9 [.seq c5x10]) (σ' := mkS 126 [(0, .int .i64 x0), (1, .int .i64 x1), (9, .str v0.1), (12, .int .i64 v4.1), (14, .int .i64 v5.1), (79, .bool (decide (v4.1 < 0)))] []) (q := [True ∧ (x2.length + v0.1.length ≤ 9223372036854775807 ∧ x2 ++ v0.1 = v2), True ∧ (v2.length + x3.length ≤ 9223372036854775807 ∧ v2 ++ x3 = v3), True ∧ ((True ∧ (True ∧ (True ∧ True))) ∧ ([.str v3, .int .i64 (x2.length : Int), .int .i64 x1] : List D) = [.str v3, .int .i64 (x2.length : Int), .int .i64 x1] ∧ CallSpec Try.prog 12 [.str v3, .int .i64 (x2.length : Int), .int .i64 x1] (.tup [.int .i64 v4.1, .int .i64 v4.2])), True ∧ ((True ∧ (True ∧ (True ∧ True))) ∧ ([.str v3, .int .i64 (x2.length : Int), .int .i64 x1] : List D) = [.str v3, .int .i64 (x2.length : Int), .int .i64 x1] ∧ CallSpec Try.prog 14 [.str v3, .int .i64 (x2.length : Int), .int .i64 x1] (.tup [.int .i64 v5.1, .int .i64 v5.2])), (((v0.1.length : Int) != x1) == false) = true ∧ True, (((v0.1.length : Int) != x1) == false) = true ∧ True, True ∧ (((v0.1.length : Int) != x1) = false), ((v4.2 != 0) == false) = true ∧ True, ((v4.2 != 0) == false) = true ∧ True, True ∧ ((v4.2 != 0) = false), ((v5.2 != 0) == false) = true ∧ True, ((v5.2 != 0) == false) = true ∧ True, ((v5.2 != 0) == false) = true ∧ True, ((decide (x1 < 8)) == true) = true ∧ True, ((decide (x1 < 8)) == true) = true ∧ True, ((v5.2 != 0) == false) = true ∧ ((decide (x1 < 8)) = true), True ∧ ((v5.2 != 0) = false)]) (by kernel_rfl) ⟨⟨trivial, catK_spec e2⟩, ⟨trivial, catK_spec e3⟩, ⟨trivial, ⟨⟨trivial, ⟨trivial, ⟨trivial, trivial⟩⟩⟩, rfl, w12 e4⟩⟩, ⟨trivial, ⟨⟨trivial, ⟨trivial, ⟨trivial, trivial⟩⟩⟩, rfl, w14 e5⟩⟩, ⟨(gB h4 rfl), trivial⟩, ⟨(gB h4 rfl), trivial⟩, ⟨trivial, h4⟩, ⟨(gB h5 rfl), trivial⟩, ⟨(gB h5 rfl), trivial⟩, ⟨trivial, h5⟩, ⟨(gB h6 rfl), trivial⟩, ⟨(gB h6 rfl), trivial⟩, ⟨(gB h6 rfl), trivial⟩, ⟨(gB h7 rfl), trivial⟩, ⟨(gB h7 rfl), trivial⟩, ⟨(gB h6 rfl), h7⟩, ⟨trivial, h6⟩, trivial⟩ ?_
            refine EvOk.cond (fun h8 => ?_) (fun h8 => ?_)
            · replace h := iteT h8 h
              refine At.gc [] [] (n := 126) (l := []) (bl := []) (by kernel_rfl) ?_
              refine At.adv [] [(8, { told := [], gs := [], keep := some ([8], []) })] 400 (ev := .ret) (σ' := mkS 126 [(8, .bool false)] []) (q := []) (by kernel_rfl) trivial ?_
              refine EvOk.ret ?_
              obtain rfl := someE h
              exact Den.Ends.mk (.inl rfl) (d := .bool false) (p := (True ∧ True) ∧ (True ∧ True)) (by kernel_rfl) ⟨⟨trivial, trivial⟩, ⟨trivial, trivial⟩⟩ (by kernel_rfl)
            · replace h := iteF h8 h
              refine At.gc [0, 1, 9, 12, 14] [] (n := 126) (l := [(0, .int .i64 x0), (1, .int .i64 x1), (9, .str v0.1), (12, .int .i64 v4.1), (14, .int .i64 v5.1)]) (bl := []) (by kernel_rfl) ?_
              refine At.adv [9] [] 400 (ev := .stop c5x11 [.seq c5x12]) (σ' := mkS 126 [(0, .int .i64 x0), (1, .int .i64 x1), (9, .str v0.1), (12, .int .i64 v4.1), (14, .int .i64 v5.1)] []) (q := []) (by kernel_rfl) trivial ?_
              exact (wj5x1 v0 v4 v5 x0 x1)  r h Γ
          · replace h := iteF h7 h
            refine At.adv [] [(4, { told := [(2, { ans := .val (.str v2) }), (4, { ans := .val (.str v3) })], gs := [], keep := some ([0, 1, 2, 9, 11], []) }), (5, { told := [(4, { ans := .val (.tup [.int .i64 v4.1, .int .i64 v4.2]), args := [.str v3, .int .i64 (x2.length : Int), .int .i64 x1] })], gs := [], keep := some ([0, 1, 2, 9, 11, 12, 13], []) }), (6, { told := [(4, { ans := .val (.tup [.int .i64 v5.1, .int .i64 v5.2]), args := [.str v3, .int .i64 (x2.length : Int), .int .i64 x1] })], gs := [], keep := some ([0, 1, 9, 12, 13, 14, 15], []) }), (7, { told := [(7, { ans := .no }), (11, { ans := .no }), (18, { ans := .no }), (19, { ans := .no })], gs := [(5, true), (6, true), (9, true), (10, true), (13, true), (14, true), (15, true), (16, false), (17, false), (18, true)], keep := some ([0, 1, 9, 12, 14, 79], []) })] 400 (ev := .cond false c5x8 c5x9 [.seq c5x10]) (σ' := mkS 126 [(0, .int .i64 x0), (1, .int .i64 x1), (9, .str v0.1), (12, .int .i64 v4.1), (14, .int .i64 v5.1), (79, .bool false)] []) (q := [True ∧ (x2.length + v0.1.length ≤ 9223372036854775807 ∧ x2 ++ v0.1 = v2), True ∧ (v2.length + x3.length ≤ 9223372036854775807 ∧ v2 ++ x3 = v3), True ∧ ((True ∧ (True ∧ (True ∧ True))) ∧ ([.str v3, .int .i64 (x2.length : Int), .int .i64 x1] : List D) = [.str v3, .int .i64 (x2.length : Int), .int .i64 x1] ∧ CallSpec Try.prog 12 [.str v3, .int .i64 (x2.length : Int), .int .i64 x1] (.tup [.int .i64 v4.1, .int .i64 v4.2])), True ∧ ((True ∧ (True ∧ (True ∧ True))) ∧ ([.str v3, .int .i64 (x2.length : Int), .int .i64 x1] : List D) = [.str v3, .int .i64 (x2.length : Int), .int .i64 x1] ∧ CallSpec Try.prog 14 [.str v3, .int .i64 (x2.length : Int), .int .i64 x1] (.tup [.int .i64 v5.1, .int .i64 v5.2])), (((v0.1.length : Int) != x1) == false) = true ∧ True, (((v0.1.length : Int) != x1) == false) = true ∧ True, True ∧ (((v0.1.length : Int) != x1) = false), ((v4.2 != 0) == false) = true ∧ True, ((v4.2 != 0) == false) = true ∧ True, True ∧ ((v4.2 != 0) = false), ((v5.2 != 0) == false) = true ∧ True, ((v5.2 != 0) == false) = true ∧ True, ((v5.2 != 0) == false) = true ∧ True, ((decide (x1 < 8)) == true) = false, ((decide (x1 < 8)) == true) = false, ((v5.2 != 0) == false) = true ∧ ((decide (x1 < 8)) = false), True ∧ ((v5.2 != 0) = false)]) (by kernel_rfl) ⟨⟨trivial, catK_spec e2⟩, ⟨trivial, catK_spec e3⟩, ⟨trivial, ⟨⟨trivial, ⟨trivial, ⟨trivial, trivial⟩⟩⟩, rfl, w12 e4⟩⟩, ⟨trivial, ⟨⟨trivial, ⟨trivial, ⟨trivial, trivial⟩⟩⟩, rfl, w14 e5⟩⟩, ⟨(gB h4 rfl), trivial⟩, ⟨(gB h4 rfl), trivial⟩, ⟨trivial, h4⟩, ⟨(gB h5 rfl), trivial⟩, ⟨(gB h5 rfl), trivial⟩, ⟨trivial, h5⟩, ⟨(gB h6 rfl), trivial⟩, ⟨(gB h6 rfl), trivial⟩, ⟨(gB h6 rfl), trivial⟩, gB h7 rfl, gB h7 rfl, ⟨(gB h6 rfl), h7⟩, ⟨trivial, h6⟩, trivial⟩ ?_
            refine EvOk.cond (fun hb => Bool.noConfusion hb) (fun _ => ?_)
            refine At.gc [0, 1, 9, 12, 14] [] (n := 126) (l := [(0, .int .i64 x0), (1, .int .i64 x1), (9, .str v0.1), (12, .int .i64 v4.1), (14, .int .i64 v5.1)]) (bl := []) (by kernel_rfl) ?_
            refine At.adv [9] [] 400 (ev := .stop c5x11 [.seq c5x12]) (σ' := mkS 126 [(0, .int .i64 x0), (1, .int .i64 x1), (9, .str v0.1), (12, .int .i64 v4.1), (14, .int .i64 v5.1)] []) (q := []) (by kernel_rfl) trivial ?_
            exact (wj5x1 v0 v4 v5 x0 x1)  r h Γ
theorem w5 {x0 : Int} {x1 : Int} {x2 : List UInt8} {x3 : List UInt8} {r : Bool} (h : m_armaturelaw02_OctetNumberRoundTrip x0 x1 x2 x3 = some r) : CallSpec Try.prog 5 [.int .i64 x0, .int .i64 x1, .str x2, .str x3] (.bool r) :=
  CallSpec.at2 b5 (n := 126) (l := [(0, .int .i64 x0), (1, .int .i64 x1), (2, .str x2), (3, .str x3)]) (by kernel_rfl) (by kernel_rfl) (by kernel_rfl) (by kernel_rfl) (by kernel_rfl) (Nat.le_of_ble_eq_true (by kernel_rfl)) (fun Γ => we5 x0 x1 x2 x3 r h Γ)
end Go.Proofs
