/-
  A class space equals itself, as the reference compares them. No condition.
-/
import Derived.Test.YtoijcliccgjolaaGreatConT10
set_option linter.unusedVariables false
namespace Go.Proofs
open Go.Den Go.Tot
theorem rfL {α : Type} (l : List α) {f : Int → Option (Ctl Int (Unit ⊕ Bool))} (hm : l.length ≤ 4503599627370496) (h : ∀ (t : Int) v,t < l.length → v ∈ l → Z08 l t = some v → IntKind.wrap .i64 (t + 1) = t + 1 → f t = some (.next (t + 1))) (he : ∀ t : Int,¬t < l.length → f t = some (.done (.inl ()))) :
  Z09 f Z0a 0 = some (.inl ()):=by
 have : Ok (Z09 f Z0a 0) (fun q=>q = .inl ()):=by
  refine li l.length (fun t h0 h1=>?_) (by omega) (by omega) (by omega)
  rcases Int.lt_or_le t l.length with hlt | hge
  ·obtain ⟨v,e,hv,_⟩:=gri (l:=l) h0 hlt
   rw [h t v hlt hv e (wrapI (by omega) (by omega))]
   exact ni (by omega) (by omega)
  ·rw [he t (by omega)]; exact di rfl
 obtain ⟨q,e,rfl⟩:=this
 exact e
theorem Zrg (l : List (List UInt8)) (h : l.length ≤ 4503599627370496) : Zen l l = some true:=by
 unfold Zen
 rw [rfL l h (fun t v h1 hv e hw=>by unfold Zjv; rw [if_pos (decide_eq_true h1),e]; simp [hw]) fun t h=>by unfold Zjv; rw [if_neg (by simpa using h)]]
 simp
theorem Zxp (l : List Z0f) (h : l.length ≤ 4503599627370496) : Zey l l = some true:=by
 unfold Zey
 rw [rfL l h (fun t v h1 hv e hw=>by unfold Zl4; rw [if_pos (decide_eq_true h1),e]; simp [hw,Zlq,Zhx]) fun t h=>by unfold Zl4; rw [if_neg (by simpa using h)]]
 simp
theorem Y3e (f : Z4e) (h : Z7f f) : Zk1 f f = some true:=by
 unfold Zk1
 rw [Zxp _ (by have:=h.locL; omega),Zxp _ (by have:=h.stkL; omega)]
 simp
theorem eq_maps (l : List Z0j) (h : l.length ≤ 4503599627370496) (hf : ∀ m ∈ l,Z7f m.Z1m) : Zin l l = some true:=by
 unfold Zin
 rw [rfL l h (fun t v h1 hv e hw=>by unfold Zgj; rw [if_pos (decide_eq_true h1),e]; simp [hw,Y3e _ (hf v hv)]) fun t h=>by unfold Zgj; rw [if_neg (by simpa using h)]]
 simp
theorem Ztt (l : List Int) (h : l.length ≤ 4503599627370496) : Ze6 l l = some true:=by
 unfold Ze6
 rw [rfL l h (fun t v h1 hv e hw=>by unfold Zgt; rw [if_pos (decide_eq_true h1),e]; simp [hw]) fun t h=>by unfold Zgt; rw [if_neg (by simpa using h)]]
 simp
theorem eq_insn (i : Z01) (h : Z2q i) : Zgq i i = some true:=by
 unfold Zgq
 rw [Ztt _ (by have:=h.keys; omega),Ztt _ (by have:=h.tos; omega)]
 simp [Zbc]
theorem eq_code (c : Z06) (h : Z4j c) : Zfn c c = some true:=by
 unfold Zfn j55x1
 rw [eq_maps _ (by have:=h.mapL; omega) h.map,
  rfL c.Z0k (by have:=h.insL; omega) (fun t v h1 hv e hw=>by unfold Zhb; rw [if_pos (decide_eq_true h1),e]; simp [hw,eq_insn _ (h.ins v hv)]) fun t h=>by unfold Zhb; rw [if_neg (by simpa using h)]]
 simp only [Option.bind]
 rw [rfL c.Z1c (by have:=h.hndL; omega) (fun t v h1 hv e hw=>by unfold Zgw; rw [if_pos (decide_eq_true h1),e]; simp [hw,Zoo]) fun t h=>by unfold Zgw; rw [if_neg (by simpa using h)]]
 simp only []
 rw [rfL c.Z18 (by have:=h.linL; omega) (fun t v h1 hv e hw=>by unfold Zl5; rw [if_pos (decide_eq_true h1),e]; simp [hw,Znd]) fun t h=>by unfold Zl5; rw [if_neg (by simpa using h)]]
 simp
theorem Y33 (u : Z0x) (h : Z4n u) : Zie u u = some true:=by
 unfold Zie j51x1
 rw [Zrg _ (by have:=h.ifsL; omega),
  rfL u.Z17 (by have:=h.fldL; omega) (fun t v h1 hv e hw=>by unfold Zfy; rw [if_pos (decide_eq_true h1),e]; simp [hw,Zm8]) fun t h=>by unfold Zfy; rw [if_neg (by simpa using h)]]
 simp only [Option.bind]
 rw [rfL u.Z16 (by have:=h.metL; omega) (fun t v h1 hv e hw=>by unfold Zg2; rw [if_pos (decide_eq_true h1),e]; simp [hw,eq_code _ (h.met v hv).code,Zrg _ (show v.Z5e.length ≤ _ by have:=(h.met v hv).excL; omega)]) fun t h=>by unfold Zg2; rw [if_neg (by simpa using h)]]
 simp
theorem Y1h (l : List Z1z) (hl : l.length ≤ 140737488355328) (h : ∀ c ∈ l,Z4n c.Z2l ∧ c.Z0y.length ≤ 140737488355328) : Zjf l l = some true:=by
 unfold Zjf
 rw [rfL l (by omega) (fun t v h1 hv e hw=>by
  unfold Zgx j39x1
  have hi : Z09 (Zcz v v) Z0a 0 = some (.inl ()):=rfL v.Z0y (by have:=(h v hv).2; omega) (fun t v h1 hv e hw=>by unfold Zcz; rw [if_pos (decide_eq_true h1),e]; simp [hw]) fun t h=>by unfold Zcz; rw [if_neg (by simpa using h)]
  rw [if_pos (decide_eq_true h1),e]
  simp [hw,Y33 _ (h v hv).1,hi]) fun t h=>by unfold Zgx; rw [if_neg (by simpa using h)]]
 simp
theorem Y2r (l : List Z1a) (hl : l.length ≤ 140737488355328) (h : ∀ c ∈ l,Z6a c) : Zjo l l = some true:=by
 unfold Zjo
 rw [rfL l (by omega) (fun t v h1 hv e hw=>by
  unfold Zkj j38x1
  have h2 : Z09 (Zct t l l) Z0a 0 = some (.inl ()):=rfL v.Z2x (by have:=(h v hv).delL; omega) (fun t v h1 hv e' hw=>by unfold Zct; rw [e]; dsimp only [Option.bind]; rw [if_pos (decide_eq_true h1),e']; simp [hw,Zmd]) fun t h=>by unfold Zct; rw [e]; dsimp only [Option.bind]; rw [if_neg (by simpa using h)]
  have h3 : Z09 (Zcw t l l) Z0a 0 = some (.inl ()):=rfL v.Z2n (by have:=(h v hv).stoL; omega) (fun t v h1 hv e' hw=>by unfold Zcw; rw [e]; dsimp only [Option.bind]; rw [if_pos (decide_eq_true h1),e']; simp [hw,Zp5]) fun t h=>by unfold Zcw; rw [e]; dsimp only [Option.bind]; rw [if_neg (by simpa using h)]
  rw [if_pos (decide_eq_true h1),e]
  simp [hw,h2,h3]) fun t h=>by unfold Zkj; rw [if_neg (by simpa using h)]]
 simp
theorem Y06 (w : Z07) (h : Z31 w) : Zb2 w w = some true:=by
 unfold Zb2 j18x1
 rw [Y2r _ h.lodL h.lod,Y1h _ h.clsL h.cls,
  rfL w.Z0p (by have:=h.iniL; omega) (fun t v h1 hv e hw=>by unfold Zji; rw [if_pos (decide_eq_true h1),e]; simp [hw,Zm5]) fun t h=>by unfold Zji; rw [if_neg (by simpa using h)]]
 simp only [Option.bind]
 rw [rfL w.Z0g (by have:=h.conL; omega) (fun t v h1 hv e hw=>by unfold Zh1; rw [if_pos (decide_eq_true h1),e]; simp [hw,Zo5]) fun t h=>by unfold Zh1; rw [if_neg (by simpa using h)]]
 simp
end Go.Proofs
