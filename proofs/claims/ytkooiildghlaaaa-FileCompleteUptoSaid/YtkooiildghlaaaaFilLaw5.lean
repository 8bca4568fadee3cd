/-
  The laws FileDecode, FileRoundTrip, FileCanonical and FileComplete. Numbers in their ranges, texts of a bounded size.
-/
import Derived.Test.YtkooiildghlaaaaFilLaw4
namespace Go.Proofs
open Go.Den

theorem j4_works : j4x2 = some true := by unfold j4x2; rw [works11]; rfl
theorem F0_eq : eqF F0 := ⟨by decide, by decide, by decide, fun m hm => (by cases hm), by decide, fun m hm => (by cases hm), by decide⟩
theorem F0_def : ({ f_Pool := ([] : List T_api_Const), f_Flags := 0, f_This := 0, f_Super := 0, f_Interfaces := ([] : List Int), f_Fields := ([] : List T_api_Member), f_Methods := ([] : List T_api_Member), f_Attributes := ([] : List T_api_Attr) } : T_api_File) = F0 := rfl

theorem dec_some (s : List UInt8) : ∃ r, (s.length : Int) ≤ 1048576 → decF s 6 = some r := by
  by_cases h : (s.length : Int) ≤ 1048576
  · obtain ⟨-, r, hr⟩ := dec_ref (s := s) (by omega) 6
    exact ⟨r, fun _ => hr⟩
  · exact ⟨([], 0, 0), fun h' => absurd h' h⟩

/-- What Decode gives is nothing, or what stands there. -/
theorem dec_two {s : List UInt8} {r : List T_api_Const × Int × Int} : ((decFile s r).1 = F0 ∧ (decFile s r).2 ≠ 0) ∨ (∃ f, decFile s r = (f, 0) ∧ (s.length : Int) ≤ 1048576) := by
  unfold decFile
  by_cases h1 : (s.length : Int) > 1048576
  · rw [if_pos h1]; exact .inl ⟨rfl, by decide⟩
  rw [if_neg h1]
  cases hasP s hdr
  · rw [if_pos rfl]; exact .inl ⟨rfl, (by decide : ¬ ((4 : Int) = 0))⟩
  rw [if_neg (by decide)]
  unfold decR
  by_cases h2 : r.2.2 = 0
  case neg => rw [if_pos h2]; exact .inl ⟨rfl, h2⟩
  rw [if_neg (fun x => x h2)]
  by_cases h3 : (restI s).e r.2.1 = 0
  case neg => rw [if_pos h3]; exact .inl ⟨rfl, h3⟩
  rw [if_neg (fun x => x h3)]
  by_cases h4 : (restI s).n r.2.1 < (s.length : Int)
  · rw [if_pos h4]; exact .inl ⟨rfl, by decide⟩
  · rw [if_neg h4]; exact .inr ⟨_, rfl, by omega⟩

theorem law_FileDecode (s : List UInt8) : m_armaturelaw11_FileDecode s = some true := by
  unfold m_armaturelaw11_FileDecode
  have main : j4x1 s = some true := by
    obtain ⟨r, hr⟩ := dec_some s
    unfold j4x1
    rw [decode_eq hr, decode_ref hr, works11]
    simp only [Option.bind_some]
    have hs : m_armatureref11_Same (decFile s r).1 (decFile s r).1 = some true := by
      rcases dec_two (s := s) (r := r) with ⟨h, -⟩ | ⟨f, h, hl⟩
      · rw [h]; exact same_file F0_eq
      · rw [h]
        obtain ⟨-, h1, h2, -⟩ := back_file (by omega) (hr hl) h
        exact same_file (rest_ok h1 h2).eq
    rw [hs]
    simp
  rw [j4_works, main]
  split
  · split <;> rfl
  · rfl

theorem law_FileCanonical (s : List UInt8) : m_armaturelaw11_FileCanonical s = some true := by
  unfold m_armaturelaw11_FileCanonical
  rw [works11]
  by_cases h : (s.length : Int) > 3000
  · rw [if_pos (decide_eq_true h)]; rfl
  rw [if_neg (by simpa using h)]
  obtain ⟨r, hr⟩ := dec_some s
  rw [decode_eq hr]
  simp only [Option.bind_some]
  rcases dec_two (s := s) (r := r) with ⟨h1, h2⟩ | ⟨f, h1, hl⟩
  · rw [if_pos (by simpa using h2), h1, F0_def, same_file F0_eq]
    rfl
  · rw [h1, if_neg (by simp)]
    obtain ⟨-, g1, g2, -, g4, v, g5, g6⟩ := back_file (by omega) (hr hl) h1
    dsimp only
    rw [encode_eq (rest_ok g1 g2) g5]
    obtain ⟨c1, c2⟩ := of_rest g1
    unfold fileF
    rw [if_neg (fun x => x g6), c1, c2, g4, if_neg (by decide), if_neg (by decide), if_neg (by omega)]
    simp

/-- What Encode gives without error. -/
theorem enc_file {f : T_api_File} {v : Int × Int} (h : (fileF f v).2 = 0) : v.2 = 0 ∧ restP f ∧ fileF f v = (fileS f, 0) ∧ ((fileS f).length : Int) ≤ 1048576 := by
  unfold fileF at *
  by_cases h1 : v.2 = 0
  case neg => rw [if_pos h1] at h; exact absurd h h1
  rw [if_neg (fun x => x h1)] at h ⊢
  cases c1 : cntOk f
  · rw [c1, if_pos rfl] at h; cases h
  rw [c1, if_neg (by decide)] at h
  cases c2 : numFit f
  · rw [c2, if_pos rfl] at h; cases h
  rw [c2, if_neg (by decide)] at h
  by_cases h2 : ((fileS f).length : Int) > 1048576
  · rw [if_pos h2] at h; cases h
  rw [if_neg (by decide), if_neg (by decide), if_neg h2]
  exact ⟨h1, rest_of c1 c2, rfl, by omega⟩
theorem enc_bad {f : T_api_File} {v : Int × Int} (h : (fileF f v).2 ≠ 0) : (fileF f v).1 = [] := by
  unfold fileF at *
  split
  · rfl
  rename_i h1
  rw [if_neg h1] at h
  split
  · rfl
  rename_i h2
  rw [if_neg h2] at h
  split
  · rfl
  rename_i h3
  rw [if_neg h3] at h
  split
  · rfl
  rename_i h4
  rw [if_neg h4] at h
  exact absurd rfl h

theorem law_FileRoundTrip (f : T_api_File) (hc : capF f) (hr : ranged f.f_Pool) : m_armaturelaw11_FileRoundTrip f = some true := by
  obtain ⟨b, hb, hs⟩ := small_eq hc
  unfold m_armaturelaw11_FileRoundTrip m_file_EncodedSize
  rw [hb, works11]
  cases b with
  | false => rfl
  | true =>
    have hf := hs rfl
    obtain ⟨-, -, v, hv, -⟩ := enc_both hf.pool
    rw [encode_eq hf hv]
    simp only [Option.bind_some, Bool.not_true, Bool.false_eq_true, if_false]
    by_cases h0 : (fileF f v).2 = 0
    · obtain ⟨h1, h2, h3, h4⟩ := enc_file h0
      obtain ⟨r, hd, he⟩ := fwd_file h2 hf.pool hr hv h1 (w := []) (by rw [List.append_nil]; omega)
      rw [List.append_nil, if_pos rfl] at *
      rw [h3, if_neg (by simp), decode_eq (r := r) (fun _ => by simpa using hd), show decFile (fileS f) r = (f, 0) by simpa using he]
      simp only [Option.bind_some]
      rw [if_pos (by simp), same_file hf.eq]
      rfl
    · rw [if_pos (by simpa using h0), enc_bad h0]
      rfl

theorem law_FileComplete (f : T_api_File) (k : Int) (w : List UInt8) (hc : capF f) (hr : ranged f.f_Pool) (hk : 0 ≤ k ∧ k ≤ 65535) : m_armaturelaw11_FileComplete f k w = some true := by
  obtain ⟨b, hb, hs⟩ := small_eq hc
  have h4' : j7x4 = some true := by unfold j7x4; rw [works11]; rfl
  have h3' : j7x3 = some true := by unfold j7x3; rw [works11]; rfl
  unfold m_armaturelaw11_FileComplete
  rw [hb, h4']
  cases b with
  | false => rfl
  | true =>
    have hf := hs rfl
    obtain ⟨-, -, v, hv, -⟩ := enc_both hf.pool
    simp only [Option.bind_some, Bool.not_true, Bool.false_eq_true, if_false]
    by_cases hw : (w.length : Int) > 50
    · rw [if_pos (decide_eq_true hw)]
    rw [if_neg (by simpa using hw)]
    unfold j7x1
    rw [encode_eq hf hv, h3']
    simp only [Option.bind_some]
    by_cases h0 : (fileF f v).2 = 0
    case neg => rw [if_pos (by simpa using h0)]
    obtain ⟨h1, h2, h3, h4⟩ := enc_file h0
    rw [h3, if_neg (by simp)]
    by_cases h5 : ((fileS f).length : Int) > 3000
    · rw [if_pos (decide_eq_true h5)]
    rw [if_neg (by simpa using h5)]
    unfold j7x2
    dsimp only
    have hpos : 6 ≤ (fileS f).length := by unfold fileS; rw [List.length_append]; simp [hdr]
    rw [if_neg (by simp; intro h; rw [h] at hpos; simp at hpos)]
    have hwk : IntKind.wrap .i64 k = k := wrapS (by omega) (by omega)
    have hmod : modK k ((fileS f).length : Int) = some (k % ((fileS f).length : Int)) := by
      unfold modK
      rw [if_pos (by omega), Int.tmod_eq_emod_of_nonneg hk.1]
    have hm0 := Int.emod_nonneg k (b := ((fileS f).length : Int)) (by omega)
    have hm1 := Int.emod_lt_of_pos k (b := ((fileS f).length : Int)) (by omega)
    generalize hmm : k % ((fileS f).length : Int) = m at *
    have hsub : sub (fileS f) 0 m = some ((fileS f).take m.toNat) := by
      unfold sub
      rw [if_pos (by omega)]; simp
    simp only [Option.bind_some, hwk]
    rw [hmod]
    simp only [Option.bind_some]
    rw [hsub]
    simp only [Option.bind_some]
    -- the part
    obtain ⟨r, hrr⟩ := dec_some ((fileS f).take m.toNat)
    rw [decode_eq hrr]
    simp only [Option.bind_some]
    rw [cat_ok (by omega)]
    simp only [Option.bind_some]
    obtain ⟨r2, hd, he⟩ := fwd_file h2 hf.pool hr hv h1 (w := w) (by rw [List.length_append]; omega)
    rw [decode_eq (r := r2) (fun _ => hd), he, works11]
    simp only [Option.bind_some]
    have hcut : (decFile ((fileS f).take m.toNat) r).2 ≠ 0 := by
      rcases dec_two (s := (fileS f).take m.toNat) (r := r) with ⟨-, h⟩ | ⟨g, h, hl⟩
      · exact h
      · exfalso
        have hlt : ((fileS f).take m.toNat).length ≤ 1048576 := by omega
        obtain ⟨-, g1, g2, g3, g4, v', g5, g6⟩ := back_file hlt (hrr hl) h
        have hsplit : fileS g ++ (fileS f).drop m.toNat = fileS f := by rw [g4, List.take_append_drop]
        have hne : (fileS f).drop m.toNat ≠ [] := by
          intro hz
          have := congrArg List.length hz
          rw [List.length_drop] at this
          simp at this; omega
        obtain ⟨r3, q1, q2⟩ := fwd_file g1 g2 g3 g5 g6 (w := (fileS f).drop m.toNat) (by rw [hsplit]; omega)
        rw [hsplit, if_neg hne] at q2
        rw [hsplit] at q1
        obtain ⟨r4, q3, q4⟩ := fwd_file h2 hf.pool hr hv h1 (w := []) (by rw [List.append_nil]; omega)
        rw [List.append_nil] at q3 q4
        rw [if_pos rfl] at q4
        rw [q1] at q3
        cases q3
        rw [q2] at q4
        exact absurd (congrArg Prod.snd q4) (by decide : ¬ ((10 : Int) = 0))
    rw [if_pos (by simpa using hcut)]
    cases w with
    | nil => rfl
    | cons c w => rfl
end Go.Proofs
