/-
  The model of the law PoolValidReadable answers true for pools and texts of at most 1048576 bytes a text. No other condition.
-/
import Derived.Test.YtcppeincgkalbaaPooL6
import Derived.Test.YtcppeincgkalbaaPooLaw7
namespace Go.Proofs
open Go.Den

theorem asked_loop (p : List T_api_Const) (hl : p.length ≤ 1000000) (hs : Sound p) : loopM (l6x1 p) rounds 1 = some (.inl ()) := by
  obtain ⟨r, h1, h2⟩ := loopM_ind (f := l6x1 p) (fun q : Int => ∃ k : Nat, k ≤ p.length ∧ q = (k : Int) + 1) (fun q => p.length + 1 - q.toNat) (fun r : Unit ⊕ Bool => r = .inl ()) (by
    rintro q ⟨k, hk, rfl⟩
    unfold l6x1
    by_cases hlt : k < p.length
    · rw [if_pos (decide_eq_true (by omega)), asked_sound p hl hs k hlt, wrapP (by omega) (by omega)]
      exact ⟨_, rfl, ⟨k + 1, by omega, by simp⟩, by omega⟩
    · rw [if_neg (by simp; omega)]
      exact ⟨_, rfl, rfl⟩) rounds 1 ⟨0, by omega, rfl⟩ (by show p.length + 1 - (1 : Int).toNat < 18446744073709551616; omega)
  rw [h1, h2]

theorem addF_mem {p q : List T_api_Const} {c : T_api_Const} {i : Int} (h : addF p c = (q, i, 0)) : ∀ x ∈ q, x ∈ p ∨ x = c := by
  unfold addF at h
  split at h
  · cases h; exact fun x hx => .inl hx
  · split at h
    · simp at h
    · cases h
      intro x hx
      simpa using hx
theorem addF_le {p q : List T_api_Const} {c : T_api_Const} {i : Int} (h : addF p c = (q, i, 0)) (hp : p.length ≤ 1000) : q.length ≤ 1000 := by
  unfold addF at h
  split at h
  · cases h; exact hp
  · split at h
    · simp at h
    · cases h; simp; omega
theorem At1.mem {q : List T_api_Const} {c : T_api_Const} {i : Int} (h : At1 q c i) : c ∈ q := by
  obtain ⟨k, -, h⟩ := h
  exact List.mem_of_getElem? (idxC_some h).1

theorem law_PoolValidReadable (p : List T_api_Const) (s : List UInt8) (hp : ∀ c ∈ p, c.f_S.length ≤ 1048576) (hs : s.length ≤ 1048576) : m_armaturelaw05_PoolValidReadable p s = some true := by
  unfold m_armaturelaw05_PoolValidReadable
  rw [few5, awake5]
  by_cases h : (p.length : Int) ≤ 1100
  · rw [decide_eq_true h]
    simp only [Option.bind_some, Bool.not_true, Bool.false_eq_true, if_false]
    by_cases h2 : p.length ≤ 1000
    · obtain ⟨v, h1, hv⟩ := Check_says p ⟨by omega, hp⟩ h2
      rw [h1]
      simp only [Option.bind_some]
      rcases hv with ⟨rfl, hsd⟩ | ⟨k, e, hk, rfl, he, hc⟩
      · rw [if_neg (by decide), asked_loop p (by omega) hsd, string_pool p s (by omega)]
        simp only [Option.bind_some]
        have hlen := namedF_len p 8 s
        obtain ⟨-, d2⟩ := named_rich p 8 s
        generalize hv : namedF p 8 s = v at *
        obtain ⟨q, i, x⟩ := v
        dsimp only at hlen d2 ⊢
        have hq : ∀ {q' : List T_api_Const}, (∀ y ∈ q', y ∈ p ∨ y.f_S = s ∨ y.f_S = []) → ∀ c ∈ q', c.f_S.length ≤ 1048576 := fun hq c hc => by
          rcases hq c hc with h | h | h
          · exact hp c h
          · rw [h]; exact hs
          · rw [h]; simp
        by_cases hx : x = 0
        · subst hx
          obtain ⟨q1, i1, a1, a2⟩ := d2 rfl
          obtain ⟨A1, P1, L1, -⟩ := add_ok a1
          obtain ⟨A2, P2, L2, -⟩ := add_ok a2
          have M1 := addF_mem a1
          have M2 := addF_mem a2
          have hl1 := addF_le a2 (addF_le a1 h2)
          have hm : ∀ y ∈ q, y ∈ p ∨ y = uC s ∨ y = kC 8 i1 0 := fun y hy => by
            rcases M2 y hy with h | h
            · rcases M1 y h with h | h
              · exact .inl h
              · exact .inr (.inl h)
            · exact .inr (.inr h)
          have hshq : shortP q := ⟨by omega, hq (fun y hy => by
            rcases hm y hy with h | rfl | rfl
            · exact .inl h
            · exact .inr (.inl rfl)
            · exact .inr (.inr rfl))⟩
          have hpre : p <+: q := P1.trans P2
          obtain ⟨w, w1, w2⟩ := Check_says q hshq hl1
          have hi1 : At1 q (uC s) i1 := A1.ext P2
          have hkey : decide ((s.length : Int) ≤ 1024) = (w.2 == 0) := by
            by_cases hs2 : s.length ≤ 1024
            · rw [decide_eq_true (by omega)]
              have hall : ∀ y ∈ q, m_pool_check q y = some 0 := fun y hy => by
                rcases hm y hy with h | rfl | rfl
                · obtain ⟨a, b, hf⟩ := hsd y h
                  exact (hf.pre (by omega) (by omega) hsd hpre).check (by omega)
                · exact Fine.check (a := 0) (b := 0) ⟨rfl, rfl, fun _ => hs2, fun h => absurd (show (1 : Int) = 3 from h) (by decide), fun h => absurd rfl h, fun h => absurd rfl h, by unfold m_pool_texts j49x1; rfl⟩ (by omega)
                · refine Fine.check (a := 1) (b := 0) ⟨rfl, rfl, fun h => absurd (show (8 : Int) = 1 from h) (by decide), fun h => absurd (show (8 : Int) = 3 from h) (by decide), fun _ => ?_, fun h => absurd rfl h, by unfold m_pool_texts j49x1; rfl⟩ (by omega)
                  show (getF q i1 1).2 = 0
                  rw [get_at (tag := 1) hi1 rfl]
              rcases w2 with ⟨rfl, -⟩ | ⟨k, e, hk, rfl, he, hc⟩
              · rfl
              · rw [hall _ (List.getElem_mem hk)] at hc
                cases hc
                exact absurd rfl he
            · rw [decide_eq_false (by omega)]
              rcases w2 with ⟨rfl, hsq⟩ | ⟨k, e, hk, rfl, he, hc⟩
              · obtain ⟨a, b, hf⟩ := hsq _ hi1.mem
                exact absurd (hf.short rfl) hs2
              · symm
                simpa using he
          rw [w1]
          simp only [Option.bind_some, hkey]
          simp
        · have : ∃ w, m_pool_Check q = some w := by
            have hqp : q = p := by
              unfold namedF at hv
              split at hv
              · split at hv
                · cases hv; exact absurd rfl hx
                · cases hv; rfl
              · cases hv; rfl
            rw [hqp]
            exact ⟨_, h1⟩
          obtain ⟨w, w1⟩ := this
          rw [w1]
          simp [hx]
      · have hc5 := (check_says ⟨by omega, hp⟩ hc).1
        rw [if_pos (by simpa using he)]
        have hbd : (k : Int) + 1 ≤ (p.length : Int) := by omega
        have h5 : (e != 5) = true := by simpa using hc5
        simp only [Option.bind_some, if_true]
        rw [if_pos (decide_eq_true (by omega)), if_pos (decide_eq_true hbd), h5, decide_eq_true (by omega)]
        rfl
    · have h1 : m_pool_Check p = some (0, 5) := by
        unfold m_pool_Check
        rw [if_pos (decide_eq_true (by omega))]
      rw [h1]
      simp
  · rw [decide_eq_false h]
    rfl

end Go.Proofs
