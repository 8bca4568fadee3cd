/-
  A state is made smaller: slots and blocks that nobody needs are let go, blocks get other names; an empty slice becomes a block; a block becomes data.
-/
import Derived.Test.YtbblhamkmlfgfaaDenCode
namespace Go.Den
open Go.RowKit

/-- The new name of an old block. -/
def newOf : List (Nat × Nat) → Nat → Option Nat
  | [], _ => none
  | (o, n) :: r, b => if b = o then some n else newOf r b
/-- The old name of a new block. -/
def oldOf : List (Nat × Nat) → Nat → Option Nat
  | [], _ => none
  | (o, n) :: r, b => if b = n then some o else oldOf r b

def D.renA (ps : List (Nat × Nat)) : D → D
  | .lptr b i o => match newOf ps b with | some b' => .lptr b' i o | none => .undef
  | .lsl b lo n => match newOf ps b with | some b' => .lsl b' lo n | none => .undef
  | d => d
def D.renB (ps : List (Nat × Nat)) : D → D
  | .agg cs => .agg (cs.map (D.renA ps))
  | .tup _ => .undef
  | d => d.renA ps
def D.ren (ps : List (Nat × Nat)) : D → D
  | .tup vs => .tup (vs.map (D.renB ps))
  | d => d.renB ps
def Blk.ren (ps : List (Nat × Nat)) (k : Blk) : Blk := match k.pure with | true => k | false => { k with rows := k.rows.map (·.map (D.renA ps)) }

def gcT (ps : List (Nat × Nat)) (σ : S) : List Nat → List (Nat × D)
  | [] => []
  | t :: r => (t, (σ.tmps t).ren ps) :: gcT ps σ r
def gcB (ps : List (Nat × Nat)) (σ : S) : List (Nat × Nat) → Option (List (Nat × Blk))
  | [] => some []
  | (o, n) :: r =>
    match σ.heap o, gcB ps σ r with
    | some k, some l => some ((n, k.ren ps) :: l)
    | _, _ => none
/-- No old name twice, no new name twice. -/
def namesOk : List (Nat × Nat) → Bool
  | [] => true
  | (o, n) :: r => (newOf r o).isNone && (oldOf r n).isNone && namesOk r
def gcL (keep : List Nat) (ps : List (Nat × Nat)) (σ : S) : Option (List (Nat × D) × List (Nat × Blk)) :=
  match namesOk ps with
  | true =>
    match gcB ps σ ps with
    | some bl => some (gcT ps σ keep, bl)
    | none => none
  | false => none

variable {P : Program} {Γ : Ctx} {σ σ' : S} {a : Act} {w w' : World} {G G' : Nat → Nat} {β β' : Nat → Option (Nat × Nat)}

theorem old_new : ∀ {ps : List (Nat × Nat)}, namesOk ps = true → ∀ o n, newOf ps o = some n ↔ oldOf ps n = some o
  | [], _, o, n => by simp [newOf, oldOf]
  | (o', n') :: r, h, o, n => by
    simp only [namesOk, Bool.and_eq_true, Option.isNone_iff_eq_none] at h
    obtain ⟨⟨h1, h2⟩, h3⟩ := h
    have ih := old_new h3
    unfold newOf oldOf
    by_cases e1 : o = o' <;> by_cases e2 : n = n'
    · subst e1 e2; simp
    · subst e1
      rw [if_pos rfl, if_neg e2]
      constructor
      · intro h; cases h; exact absurd rfl e2
      · intro h; rw [← ih] at h; rw [h1] at h; cases h
    · subst e2
      rw [if_neg e1, if_pos rfl]
      constructor
      · intro h; rw [ih] at h; rw [h2] at h; cases h
      · intro h; cases h; exact absurd rfl e1
    · rw [if_neg e1, if_neg e2]; exact ih o n

def renβ (ps : List (Nat × Nat)) (β : Nat → Option (Nat × Nat)) : Nat → Option (Nat × Nat) := fun u => (oldOf ps u).bind β

theorem renβ_new {ps : List (Nat × Nat)} (h : namesOk ps = true) {o n : Nat} (hn : newOf ps o = some n) : renβ ps β n = β o := by
  unfold renβ; rw [(old_new h o n).1 hn]; rfl

theorem VRep.renE {ps : List (Nat × Nat)} (hp : namesOk ps = true) {v : Value} {d : D} (h : VRep w G β v d) (h1 : one v = true) : VRep w G (renβ ps β) v (d.renA ps) := by
  cases h with
  | undef v => exact .undef v
  | lptr b i o c sz hβ =>
    simp only [D.renA]
    split
    · rename_i b' hb; exact .lptr b' i o c sz (by rw [renβ_new hp hb]; exact hβ)
    · exact .undef _
  | lslnil b x =>
    simp only [D.renA]
    split
    · exact .lslnil _ x
    · exact .undef _
  | lsl b lo n cap c sz off hβ hcap hoff hroom =>
    simp only [D.renA]
    split
    · rename_i b' hb; exact .lsl b' lo n cap c sz off (by rw [renβ_new hp hb]; exact hβ) hcap hoff hroom
    · exact .undef _
  | agg vs cs => simp [one] at h1
  | tup vs ds => simp [one] at h1
  | bool x => exact .bool x
  | int k n => exact .int k n
  | str s => exact .str s
  | slnil c x => exact .slnil c x
  | sl c b' off n cap sz rows val hn hcc hcap hsz himm hcell hone hdat hrep => exact (VRep.sl c b' off n cap sz rows val hn hcc hcap hsz himm hcell hone hdat hrep).of_dat (fun _ _ _ => rfl) (fun _ => Nat.le_refl _) rfl
  | ptr b' off cs val himm hcell hone hdat hrep => exact (VRep.ptr b' off cs val himm hcell hone hdat hrep).of_dat (fun _ _ _ => rfl) (fun _ => Nat.le_refl _) rfl
  | nilptr => exact .nilptr
  | fn f => exact .fn f

theorem VRep.renB {ps : List (Nat × Nat)} (hp : namesOk ps = true) {v : Value} {d : D} (h : VRep w G β v d) : VRep w G (renβ ps β) v (d.renB ps) := by
  by_cases ha : ∃ cs, d = .agg cs
  · obtain ⟨cs, rfl⟩ := ha
    obtain ⟨vs, rfl, hn, hone, hrep⟩ := inv_agg h
    refine .agg vs _ (by simpa using hn) hone (fun j v d hv hd => ?_)
    rw [List.getElem?_map] at hd
    obtain ⟨d', hd', rfl⟩ := opt_map hd
    exact (hrep j v d' hv hd').renE hp (hone j v hv)
  · by_cases ht : ∃ cs, d = .tup cs
    · obtain ⟨cs, rfl⟩ := ht
      exact .undef v
    · by_cases hu : d = .undef
      · subst hu; exact .undef v
      · have := h.renE hp (oneCell_of h hu (fun cs e => ha ⟨cs, e⟩) (fun cs e => ht ⟨cs, e⟩))
        cases d <;> first | exact this | exact absurd ⟨_, rfl⟩ ha | exact absurd ⟨_, rfl⟩ ht

theorem VRep.ren {ps : List (Nat × Nat)} (hp : namesOk ps = true) {v : Value} {d : D} (h : VRep w G β v d) : VRep w G (renβ ps β) v (d.ren ps) := by
  cases d with
  | tup ds =>
    cases h with
    | tup vs _ hn hrep =>
      refine .tup vs _ (by simpa using hn) (fun j v d hv hd => ?_)
      rw [List.getElem?_map] at hd
      obtain ⟨d', hd', rfl⟩ := opt_map hd
      exact (hrep j v d' hv hd').renB hp
  | _ => exact h.renB hp

theorem ofL_gcT (ps : List (Nat × Nat)) (σ : S) : ∀ (l : List Nat) (t : Nat), ofL (gcT ps σ l) t = (σ.tmps t).ren ps ∨ ofL (gcT ps σ l) t = .undef
  | [], t => .inr rfl
  | u :: r, t => by
    unfold gcT ofL
    by_cases h : t = u
    · subst h; simp
    · rw [if_neg h]; exact ofL_gcT ps σ r t

theorem ofB_gcB (qs : List (Nat × Nat)) (σ : S) : ∀ (ps : List (Nat × Nat)) {bl : List (Nat × Blk)}, gcB qs σ ps = some bl → ∀ u k, ofB bl u = some k ↔ ∃ o k', oldOf ps u = some o ∧ σ.heap o = some k' ∧ k = k'.ren qs
  | [], bl, h, u, k => by cases h; simp [ofB, oldOf]
  | (o, n) :: r, bl, h, u, k => by
    unfold gcB at h
    split at h
    · rename_i k0 l h1 h2
      cases h
      unfold ofB oldOf
      by_cases e : u = n
      · rw [if_pos e, if_pos e]
        constructor
        · intro h; cases h; exact ⟨o, k0, rfl, h1, rfl⟩
        · rintro ⟨o', k', h3, h4, rfl⟩; cases h3; rw [h1] at h4; cases h4; rfl
      · rw [if_neg e, if_neg e]; exact ofB_gcB qs σ r h2 u k
    · cases h

theorem Conc.gc (h : Conc Γ σ a w G β) {keep : List Nat} {ps : List (Nat × Nat)} {l : List (Nat × D)} {bl : List (Nat × Blk)} (hg : gcL keep ps σ = some (l, bl)) : Conc Γ (mkS σ.n l bl) a w G (renβ ps β) := by
  unfold gcL at hg
  split at hg
  · rename_i hp
    split at hg
    · rename_i bl' hb
      cases hg
      have hβ : ∀ u x, renβ ps β u = some x → ∃ o, oldOf ps u = some o ∧ β o = some x := fun u x hu => by
        unfold renβ at hu
        cases ho : oldOf ps u with
        | none => rw [ho] at hu; cases hu
        | some o => rw [ho] at hu; exact ⟨o, rfl, hu⟩
      refine ⟨h.defers, h.size, fun t => ?_, fun u k hu => ?_, fun u x hu => ?_, fun u u' c s s' hu hu' => ?_, h.kept, h.marks, h.fresh, h.big⟩
      · show VRep w G _ _ (ofL (gcT ps σ keep) t)
        rcases ofL_gcT ps σ keep t with e | e
        · rw [e]; exact (h.tmps t).ren hp
        · rw [e]; exact .undef _
      · obtain ⟨o, k', h1, h2, rfl⟩ := (ofB_gcB ps σ ps hb u k).1 hu
        have hsz : (Blk.ren ps k').sz = k'.sz := by unfold Blk.ren; split <;> rfl
        rcases h.heap o k' h2 with ⟨h3, h4, h5⟩ | ⟨c, h3, hB⟩
        · refine .inl ⟨by unfold renβ; rw [h1]; exact h3, ?_, ?_⟩
          · unfold Blk.ren; split
            · exact h4
            · simp [h4]
          · unfold Blk.ren; split <;> exact h5
        · refine .inr ⟨c, by unfold renβ; rw [h1, hsz]; exact h3, ?_⟩
          obtain ⟨own, frz, top, dat, hsz', vs, e, fr, e1, e2, e3, e4⟩ := hB
          unfold Blk.ren
          split
          · rename_i hpu
            refine ⟨own, frz, top, dat, hsz', vs, e, fr, e1, e2, e3, fun i j r d hr hd => ?_⟩
            obtain ⟨v, a1, a2, a3⟩ := e4 i j r d hr hd
            exact ⟨v, a1, a2, a3.of_dat (fun _ _ _ => rfl) (fun _ => Nat.le_refl _) (dat hpu i j r d hr hd)⟩
          · rename_i hpu
            refine ⟨own, frz, by simpa using top, (fun hp' => by rw [hpu] at hp'; cases hp'), fun i r hr => ?_, vs, e, fr, e1, e2, by simpa using e3, fun i j r d hr hd => ?_⟩
            · simp only [List.getElem?_map] at hr
              obtain ⟨r', hr', rfl⟩ := opt_map hr
              simpa using hsz' i r' hr'
            · simp only [List.getElem?_map] at hr
              obtain ⟨r', hr', rfl⟩ := opt_map hr
              rw [List.getElem?_map] at hd
              obtain ⟨d', hd', rfl⟩ := opt_map hd
              obtain ⟨v, a1, a2, a3⟩ := e4 i j r' d' hr' hd'
              exact ⟨v, a1, a2, a3.renE hp a2⟩
      · obtain ⟨o, h1, h2⟩ := hβ u x hu
        obtain ⟨k, hk⟩ := h.dom o x h2
        exact ⟨_, (ofB_gcB ps σ ps hb u _).2 ⟨o, k, h1, hk, rfl⟩⟩
      · obtain ⟨o, h1, h2⟩ := hβ u _ hu
        obtain ⟨o', h1', h2'⟩ := hβ u' _ hu'
        have := h.inj o o' c s s' h2 h2'
        subst this
        have e1 := (old_new hp o u).2 h1
        have e2 := (old_new hp o u').2 h1'
        rw [e1] at e2; cases e2; rfl
    · cases hg
  · cases hg

theorem DWP.gc {c : Code} {Q : Exit → S → Prop} (keep : List Nat) (ps : List (Nat × Nat)) {l : List (Nat × D)} {bl : List (Nat × Blk)} (hg : gcL keep ps σ = some (l, bl)) (h : DWP P Γ c Q (mkS σ.n l bl)) : DWP P Γ c Q σ :=
  fun a w G _ hC => h a w G _ (hC.gc hg)

end Go.Den
