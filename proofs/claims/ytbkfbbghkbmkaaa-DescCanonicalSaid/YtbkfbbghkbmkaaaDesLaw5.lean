/-
  What the models of desc's functions come to: signatures that are read. No condition.
-/
import Derived.Test.YtbkfbbghkbmkaaaDesLaw4
namespace Go.Proofs
open Go.Den

/-- Two loops in step. -/
theorem loopM_two {T T' R R' : Type} {f : T → Option (Ctl T R)} {f' : T' → Option (Ctl T' R')} (I : T → T' → Prop) (μ : T → Nat) (Post : R → R' → Prop)
    (step : ∀ t t', I t t' → ∃ x x', f t = some x ∧ f' t' = some x' ∧ match x, x' with
      | .next a, .next b => I a b ∧ μ a < μ t
      | .done a, .done b => Post a b
      | _, _ => False) : ∀ (n : Nat) (t : T) (t' : T'), I t t' → μ t < n → ∃ r r', loopM f n t = some r ∧ loopM f' n t' = some r' ∧ Post r r'
  | 0, t, t', _, h => absurd h (Nat.not_lt_zero _)
  | n + 1, t, t', hI, h => by
    obtain ⟨x, x', hx, hx', hp⟩ := step t t' hI
    cases x with
    | next a =>
      cases x' with
      | next b =>
        obtain ⟨r, r', h1, h2, h3⟩ := loopM_two I μ Post step n a b hp.1 (by have := hp.2; omega)
        exact ⟨r, r', by rw [loopM, hx]; exact h1, by rw [loopM, hx']; exact h2, h3⟩
      | done b => exact absurd hp id
    | done a =>
      cases x' with
      | next b => exact absurd hp id
      | done b => exact ⟨a, b, by rw [loopM, hx], by rw [loopM, hx'], hp⟩

def zeroG : T_api_Sig := { f_Params := [], f_Result := zeroT }

theorem sig_loop (s : List UInt8) (hl : s.length ≤ 1000000) (h1 : 1 ≤ s.length) : ∃ r r', loopM l15x1 rounds (s.drop 1, []) = some r ∧ loopM (l16x1 s) rounds (1, []) = some r' ∧ match r, r' with
    | .inl a, .inl b => a.1 = b.1 ∧ a.1.all okP1 = true ∧ a.1.length ≤ 1000000 ∧ (∃ k : Nat, b.2 = (k : Int) ∧ k ≤ s.length ∧ a.2 = s.drop k) ∧ a.1.flatMap fmt ++ a.2 = s.drop 1 ∧ (a.2 = [] ∨ ∃ q, a.2 = 41 :: q)
    | .inr a, .inr b => a = (zeroG, 13) ∧ b = (zeroG, 13)
    | _, _ => False := by
  refine loopM_two (fun p p' => p.2 = p'.2 ∧ p.2.all okP1 = true ∧ (∃ k : Nat, p'.1 = (k : Int) ∧ k ≤ s.length ∧ p.1 = s.drop k ∧ p.2.length ≤ k) ∧ p.2.flatMap fmt ++ p.1 = s.drop 1) (fun p => p.1.length) _ ?_ rounds _ _
    ⟨rfl, by simp, ⟨1, rfl, h1, rfl, by simp⟩, by simp⟩ ?_
  · rintro ⟨s', acc⟩ ⟨at_, acc'⟩ ⟨e1, hok, ⟨k, e2, hk, e3, hac⟩, hcat⟩
    dsimp only at e1 e2 e3 hok hac hcat
    subst e1 e2 e3
    unfold l15x1 l16x1
    dsimp only
    cases hd : s.drop k with
    | nil =>
      have : s.length ≤ k := by simpa using hd
      rw [if_neg (by simp), if_neg (by simp; omega)]
      refine ⟨_, _, rfl, rfl, ?_⟩
      exact ⟨rfl, hok, by show acc.length ≤ 1000000; omega, ⟨k, rfl, hk, hd.symm⟩, by rw [← hd]; exact hcat, .inl rfl⟩
    | cons c q =>
      have hlt : k < s.length := by
        rcases Nat.lt_or_ge k s.length with h' | h'
        · exact h'
        · rw [List.drop_eq_nil_of_le h'] at hd; cases hd
      have hc : s[k]? = some c := by
        have := congrArg (fun l => l[0]?) hd
        simpa using this
      rw [if_pos (by simp), if_pos (decide_eq_true (by omega)), getS0, getS_of hc]
      simp only [Option.bind_some]
      rw [show (41 : Int) = ((41 : UInt8).toNat : Int) from rfl, bne, i8_beq]
      by_cases h41 : c = 41
      · rw [if_neg (by simpa using h41), if_neg (by simpa using h41)]
        refine ⟨_, _, rfl, rfl, ?_⟩
        exact ⟨rfl, hok, by show acc.length ≤ 1000000; omega, ⟨k, rfl, hk, hd.symm⟩, by rw [← hd]; exact hcat, .inr ⟨q, by rw [h41]⟩⟩
      · rw [if_pos (by simpa using h41), if_pos (by simpa using h41)]
        unfold j15x2 j16x2
        dsimp only
        rw [← hd]
        obtain ⟨v, hv, hrd⟩ := pre_desc (s.drop k) (by rw [List.length_drop]; omega)
        rw [hv, take_ref s (by omega) k hk]
        simp only [Option.bind_some]
        cases hr : rd (s.drop k) with
        | none =>
          rw [hr] at hrd
          dsimp only at hrd ⊢
          rw [hrd]
          exact ⟨_, _, rfl, rfl, rfl, rfl⟩
        | some x =>
          obtain ⟨t, r⟩ := x
          rw [hr] at hrd
          dsimp only at hrd ⊢
          subst hrd
          obtain ⟨g1, g2, g3, g4⟩ := rd_spec hr
          dsimp only
          rw [if_neg (show ¬ ((!true) = true) by decide), if_neg (show ¬ (decide (((s.length - r.length : Nat) : Int) < 0) = true) by simp)]
          by_cases h86 : t.f_Base = 86
          · rw [if_pos (by simpa using h86), if_pos (by simpa using h86)]
            exact ⟨_, _, rfl, rfl, rfl, rfl⟩
          · rw [if_neg (by simpa using h86), if_neg (by simpa using h86)]
            unfold j15x3 j16x3
            dsimp only
            have hrl : r.length < s.length - k := by rw [← List.length_drop]; exact g3
            rw [growK_ok 32 (by simp; omega) (by omega)]
            simp only [Option.bind_some]
            refine ⟨_, _, rfl, rfl, ⟨rfl, ?_, ⟨s.length - r.length, rfl, by omega, ?_, ?_⟩, ?_⟩, g3⟩
            · rw [List.all_append, hok]
              show (true && ([t].all okP1)) = true
              simp [okP1, g1, h86]
            · dsimp only
              have hf := (fmt_len g1).2
              have e5 : s.drop k = fmt t ++ r := g2
              have e6 : (fmt t).length + r.length = s.length - k := by rw [← List.length_append, ← e5, List.length_drop]
              have e7 : s.drop (s.length - r.length) = (s.drop k).drop (fmt t).length := by rw [List.drop_drop]; congr 1; omega
              rw [e7, e5, List.drop_left]
            · dsimp only
              rw [List.length_append]
              simp only [List.length_singleton]
              omega
            · dsimp only
              rw [List.flatMap_append, List.append_assoc]
              show List.flatMap fmt acc ++ ([t].flatMap fmt ++ r) = _
              rw [show [t].flatMap fmt = fmt t by simp, ← g2]; exact hcat
  · show (s.drop 1).length < 18446744073709551616
    rw [List.length_drop]; omega

theorem sig_same (s : List UInt8) (hl : s.length ≤ 1000000) : ∃ v, m_desc_ParseSignature s = some v ∧ m_armatureref04_ParseSignature s = some v ∧
    (v.2 = 0 → fsig v.1 = (s, 0) ∧ (∀ t ∈ v.1.f_Params, (t.f_Name.length : Int) ≤ 140737488355328) ∧ (v.1.f_Result.f_Name.length : Int) ≤ 140737488355328) ∧ (v.1.f_Params.length ≤ 1000000) := by
  unfold m_desc_ParseSignature m_armatureref04_ParseSignature
  cases s with
  | nil => exact ⟨_, rfl, rfl, (fun h => absurd h (by decide)), by simp⟩
  | cons c q =>
    rw [if_neg (by simp), if_neg (by simp), getS0]
    simp only [Option.bind_some]
    rw [show (40 : Int) = ((40 : UInt8).toNat : Int) from rfl, bne, i8_beq]
    by_cases h40 : c = 40
    · rw [if_neg (by simpa using h40), if_neg (by simpa using h40)]
      unfold j15x1 j16x1
      obtain ⟨r, r', h1, h2, h3⟩ := sig_loop (c :: q) hl (by simp)
      rw [show sub (c :: q) 1 ((c :: q).length : Int) = some ((c :: q).drop 1) from sub_drop (c :: q) 1 (by simp), h2]
      simp only [Option.bind_some]
      rw [h1]
      simp only [Option.bind_some]
      cases r with
      | inr a =>
        cases r' with
        | inl b => exact absurd h3 id
        | inr b =>
          dsimp only at h3 ⊢
          obtain ⟨rfl, rfl⟩ := h3
          exact ⟨_, rfl, rfl, (fun h => absurd h (by decide)), by simp [zeroG]⟩
      | inl a =>
        cases r' with
        | inr b => exact absurd h3 id
        | inl b =>
          obtain ⟨acc, s'⟩ := a
          obtain ⟨acc', at_⟩ := b
          dsimp only at h3 ⊢
          obtain ⟨e1, hok, hacc, ⟨k, e2, hk, e3⟩, hcat, hend⟩ := h3
          have hlc : (c :: q).length = q.length + 1 := List.length_cons
          subst e1 e2
          rcases hend with hnil | ⟨q', hq'⟩
          · subst hnil
            have : (c :: q).length ≤ k := by
              have := congrArg List.length e3
              rw [List.length_drop] at this
              simp only [List.length_nil] at this
              omega
            rw [if_pos (by simp), if_pos (decide_eq_true (by omega))]
            exact ⟨_, rfl, rfl, (fun h => absurd h (by decide)), by simp⟩
          · have hlen : q'.length + 1 = (c :: q).length - k := by
              have := congrArg List.length e3
              rw [List.length_drop, hq'] at this
              simpa using this
            have hdrop : (c :: q).drop (k + 1) = q' := by
              rw [← List.drop_drop, ← e3, hq']; rfl
            rw [hq', if_neg (by simp), if_neg (by simp; omega)]
            rw [show sub (41 :: q') 1 ((41 :: q').length : Int) = some ((41 :: q').drop 1) from sub_drop (41 :: q') 1 (by simp)]
            simp only [Option.bind_some]
            rw [wrap_ok (by omega) (by omega)]
            simp only [Option.bind_some, List.drop_succ_cons, List.drop_zero]
            rw [parse_desc q' (by omega), show (k : Int) + 1 = ((k + 1 : Nat) : Int) by omega, take_ref (c :: q) (by omega) (k + 1) (by omega), hdrop]
            simp only [Option.bind_some]
            unfold parseF
            cases hr : rd q' with
            | none =>
              dsimp only
              rw [if_pos (by decide), if_pos (by simp <;> omega)]
              exact ⟨_, rfl, rfl, (fun h => absurd h (by decide)), by simp⟩
            | some x =>
              obtain ⟨t, r⟩ := x
              obtain ⟨g1, g2, g3, g4⟩ := rd_spec hr
              cases r with
              | cons c2 r2 =>
                have hne : (((c :: q).length - (c2 :: r2).length : Nat) : Int) ≠ ((c :: q).length : Int) := by
                  simp only [List.length_cons] at g3 hlen ⊢; omega
                dsimp only
                rw [if_pos (by decide), if_pos (bne_iff_ne.2 hne)]
                exact ⟨_, rfl, rfl, (fun h => absurd h (by decide)), by simp⟩
              | nil =>
                dsimp only
                rw [if_neg (show ¬ (((0 : Int) != 0) = true) by decide), if_neg (show ¬ ((((c :: q).length - ([] : List UInt8).length : Nat) : Int) != ((c :: q).length : Int)) = true by simp)]
                by_cases h16 : (acc.length : Int) > 16
                · rw [if_pos (decide_eq_true h16)]
                  exact ⟨_, rfl, rfl, (fun h => absurd h (by decide)), by simp⟩
                · rw [if_neg (by simpa using h16)]
                  refine ⟨_, rfl, rfl, fun _ => ⟨?_, fun t' ht => ?_, by show (t.f_Name.length : Int) ≤ _; omega⟩, hacc⟩
                  · unfold fsig
                    dsimp only
                    rw [show ({ f_Dim := t.f_Dim, f_Base := t.f_Base, f_Name := t.f_Name } : T_api_Type) = t from rfl, if_neg (by omega), hok, g1]
                    rw [List.append_nil] at g2
                    simp only [Bool.and_self, if_true, Prod.mk.injEq, and_true]
                    rw [h40, ← g2, List.cons_append, ← hq', hcat]; rfl
                  · have := (List.all_eq_true.1 hok) t' ht
                    unfold okP1 at this
                    rw [Bool.and_eq_true] at this
                    have := (valid_facts this.1).2.2.2
                    omega
    · rw [if_pos (by simpa using h40), if_pos (by simpa using h40)]
      exact ⟨_, rfl, rfl, (fun h => absurd h (by decide)), by simp⟩

theorem same_refl (g : T_api_Sig) (hl : g.f_Params.length ≤ 1000000) : m_armatureref04_Same g g = some true := by
  unfold m_armatureref04_Same j17x1
  rw [if_neg (by simp), eqb_refl, if_neg (by decide)]
  have : ∃ r, loopM (l17x1 g g) rounds 0 = some r ∧ r = .inl () := by
    refine loopM_ind (fun p : Int => ∃ k : Nat, k ≤ g.f_Params.length ∧ p = (k : Int)) (fun p => g.f_Params.length - p.toNat) (fun r : Unit ⊕ Bool => r = .inl ()) ?_ rounds 0 ⟨0, by omega, rfl⟩ ?_
    · rintro p ⟨k, hk, rfl⟩
      unfold l17x1
      by_cases hlt : k < g.f_Params.length
      · rw [if_pos (decide_eq_true (by omega)), getR_of (List.getElem?_eq_getElem hlt)]
        simp only [Option.bind_some]
        rw [eqb_refl, if_neg (by decide), wrap_ok (by omega) (by omega)]
        exact ⟨_, rfl, ⟨k + 1, by omega, by simp⟩, by omega⟩
      · rw [if_neg (by simp; omega)]
        exact ⟨_, rfl, rfl⟩
    · show g.f_Params.length - (0 : Int).toNat < 18446744073709551616
      omega
  obtain ⟨r, h1, h2⟩ := this
  rw [h1, h2]; rfl

end Go.Proofs
