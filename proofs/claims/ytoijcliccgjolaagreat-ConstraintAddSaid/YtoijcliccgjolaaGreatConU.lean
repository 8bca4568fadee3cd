/-
  A class space equals itself, as the reference compares them. No condition.
-/
import Derived.Test.YtoijcliccgjolaaGreatConT10
set_option linter.unusedVariables false
namespace Go.Proofs
open Go.Den Go.Tot
theorem rfL {α : Type} (l : List α) {f : Int → Option (Ctl Int (Unit ⊕ Bool))} (hm : l.length ≤ 4503599627370496) (h : ∀ (t : Int) v,t < l.length → v ∈ l → Z08 l t = some v → IntKind.wrap .i64 (t + 1) = t + 1 → f t = some (.next (t + 1))) (he : ∀ t : Int,¬t < l.length → f t = some (.done (.inl ()))) :
  Z09 f Z0a 0 = some (.inl ()):=by
 have : Ok (Z09 f Z0a 0) (fun q=>q = .inl ()):=by
  refine li l.length (fun t h0 h1=>?_) (by omega) (by omega) (by omega)
  rcases Int.lt_or_le t l.length with hlt | hge
  ·obtain ⟨v,e,hv,_⟩:=gri (l:=l) h0 hlt
   rw [h t v hlt hv e (Zjf (by omega) (by omega))]
   exact ni (by omega) (by omega)
  ·rw [he t (by omega)]; exact di rfl
 obtain ⟨q,e,rfl⟩:=this
 exact e
theorem Zr4 (l : List (List UInt8)) (h : l.length ≤ 4503599627370496) : Zf0 l l = some true:=by
 unfold Zf0
 rw [rfL l h (fun t v h1 hv e hw=>by unfold Zkq; rw [if_pos (decide_eq_true h1),e]; simp [hw]) fun t h=>by unfold Zkq; rw [if_neg (by simpa using h)]]
 simp
theorem Zy1 (l : List Z0f) (h : l.length ≤ 4503599627370496) : Zf3 l l = some true:=by
 unfold Zf3
 rw [rfL l h (fun t v h1 hv e hw=>by unfold Zkm; rw [if_pos (decide_eq_true h1),e]; simp [hw,Zoh,Zj2]) fun t h=>by unfold Zkm; rw [if_neg (by simpa using h)]]
 simp
theorem Y41 (f : Z4h) (h : Z7c f) : Zgc f f = some true:=by
 unfold Zgc
 rw [Zy1 _ (by have:=h.locL; omega),Zy1 _ (by have:=h.stkL; omega)]
 simp
theorem eq_maps (l : List Z0j) (h : l.length ≤ 4503599627370496) (hf : ∀ m ∈ l,Z7c m.Z1p) : Zjy l l = some true:=by
 unfold Zjy
 rw [rfL l h (fun t v h1 hv e hw=>by unfold Zl1; rw [if_pos (decide_eq_true h1),e]; simp [hw,Y41 _ (hf v hv)]) fun t h=>by unfold Zl1; rw [if_neg (by simpa using h)]]
 simp
theorem Zst (l : List Int) (h : l.length ≤ 4503599627370496) : Zf1 l l = some true:=by
 unfold Zf1
 rw [rfL l h (fun t v h1 hv e hw=>by unfold Zk6; rw [if_pos (decide_eq_true h1),e]; simp [hw]) fun t h=>by unfold Zk6; rw [if_neg (by simpa using h)]]
 simp
theorem eq_insn (i : Z01) (h : Z2t i) : Zlf i i = some true:=by
 unfold Zlf
 rw [Zst _ (by have:=h.keys; omega),Zst _ (by have:=h.tos; omega)]
 simp [Zb8]
theorem eq_code (c : Z07) (h : Z4n c) : Zl4 c c = some true:=by
 unfold Zl4 j55x1
 rw [eq_maps _ (by have:=h.mapL; omega) h.map,
  rfL c.Z0k (by have:=h.insL; omega) (fun t v h1 hv e hw=>by unfold Zfu; rw [if_pos (decide_eq_true h1),e]; simp [hw,eq_insn _ (h.ins v hv)]) fun t h=>by unfold Zfu; rw [if_neg (by simpa using h)]]
 simp only [Option.bind]
 rw [rfL c.Z1d (by have:=h.hndL; omega) (fun t v h1 hv e hw=>by unfold Zi8; rw [if_pos (decide_eq_true h1),e]; simp [hw,Zo6]) fun t h=>by unfold Zi8; rw [if_neg (by simpa using h)]]
 simp only []
 rw [rfL c.Z1b (by have:=h.linL; omega) (fun t v h1 hv e hw=>by unfold Zfn; rw [if_pos (decide_eq_true h1),e]; simp [hw,Znq]) fun t h=>by unfold Zfn; rw [if_neg (by simpa using h)]]
 simp
theorem Y30 (u : Z10) (h : Z4t u) : Zlk u u = some true:=by
 unfold Zlk j51x1
 rw [Zr4 _ (by have:=h.ifsL; omega),
  rfL u.Z1a (by have:=h.fldL; omega) (fun t v h1 hv e hw=>by unfold Ziq; rw [if_pos (decide_eq_true h1),e]; simp [hw,Zly]) fun t h=>by unfold Ziq; rw [if_neg (by simpa using h)]]
 simp only [Option.bind]
 rw [rfL u.Z17 (by have:=h.metL; omega) (fun t v h1 hv e hw=>by unfold Zjt; rw [if_pos (decide_eq_true h1),e]; simp [hw,eq_code _ (h.met v hv).code,Zr4 _ (show v.Z5b.length ≤ _ by have:=(h.met v hv).excL; omega)]) fun t h=>by unfold Zjt; rw [if_neg (by simpa using h)]]
 simp
theorem Y1q (l : List Z1m) (hl : l.length ≤ 140737488355328) (h : ∀ c ∈ l,Z4t c.Z2n ∧ c.Z11.length ≤ 140737488355328) : Zga l l = some true:=by
 unfold Zga
 rw [rfL l (by omega) (fun t v h1 hv e hw=>by
  unfold Zlj j39x1
  have hi : Z09 (Zer v v) Z0a 0 = some (.inl ()):=rfL v.Z11 (by have:=(h v hv).2; omega) (fun t v h1 hv e hw=>by unfold Zer; rw [if_pos (decide_eq_true h1),e]; simp [hw]) fun t h=>by unfold Zer; rw [if_neg (by simpa using h)]
  rw [if_pos (decide_eq_true h1),e]
  simp [hw,Y30 _ (h v hv).1,hi]) fun t h=>by unfold Zlj; rw [if_neg (by simpa using h)]]
 simp
theorem Y2p (l : List Z0t) (hl : l.length ≤ 140737488355328) (h : ∀ c ∈ l,Z6m c) : Zft l l = some true:=by
 unfold Zft
 rw [rfL l (by omega) (fun t v h1 hv e hw=>by
  unfold Zl8 j38x1
  have h2 : Z09 (Zdb t l l) Z0a 0 = some (.inl ()):=rfL v.Z31 (by have:=(h v hv).delL; omega) (fun t v h1 hv e' hw=>by unfold Zdb; rw [e]; dsimp only [Option.bind]; rw [if_pos (decide_eq_true h1),e']; simp [hw,Zmp]) fun t h=>by unfold Zdb; rw [e]; dsimp only [Option.bind]; rw [if_neg (by simpa using h)]
  have h3 : Z09 (Zfb t l l) Z0a 0 = some (.inl ()):=rfL v.Z2p (by have:=(h v hv).stoL; omega) (fun t v h1 hv e' hw=>by unfold Zfb; rw [e]; dsimp only [Option.bind]; rw [if_pos (decide_eq_true h1),e']; simp [hw,Zm4]) fun t h=>by unfold Zfb; rw [e]; dsimp only [Option.bind]; rw [if_neg (by simpa using h)]
  rw [if_pos (decide_eq_true h1),e]
  simp [hw,h2,h3]) fun t h=>by unfold Zl8; rw [if_neg (by simpa using h)]]
 simp
theorem Y1k (w : Z04) (h : Z30 w) : Zaq w w = some true:=by
 unfold Zaq j18x1
 rw [Y2p _ h.lodL h.lod,Y1q _ h.clsL h.cls,
  rfL w.Z0l (by have:=h.iniL; omega) (fun t v h1 hv e hw=>by unfold Zku; rw [if_pos (decide_eq_true h1),e]; simp [hw,Zmv]) fun t h=>by unfold Zku; rw [if_neg (by simpa using h)]]
 simp only [Option.bind]
 rw [rfL w.Z0g (by have:=h.conL; omega) (fun t v h1 hv e hw=>by unfold Zja; rw [if_pos (decide_eq_true h1),e]; simp [hw,Zpa]) fun t h=>by unfold Zja; rw [if_neg (by simpa using h)]]
 simp
end Go.Proofs
