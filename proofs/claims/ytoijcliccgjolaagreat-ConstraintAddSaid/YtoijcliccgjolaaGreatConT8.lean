/-
  That the models come to an answer, part eight: a class file is written and checked. No condition.
-/
import Derived.Test.YtoijcliccgjolaaGreatConT7
set_option linter.unusedVariables false
namespace Go.Proofs
open Go.Den Go.Tot
theorem Y2k (p : List Z00) (c : Z07) (hp : Z1g p) (hc : Z4n c) : Ok (Zjb p c) (fun r=>Str r.1):=by
 have gI:=hc.insL; have gH:=hc.hndL; have gM:=hc.mapL; have gL:=hc.linL
 unfold Zjb
 refine bd (Zug p c hp hc.pre) fun v0 h0=>brN (fun _=>ok (by simp)) fun h=>?_
 obtain ⟨hk,v,hv,hv2⟩:=h0 h
 rw [hv]
 obtain ⟨r,hr,hr2⟩:=Zpr c.Z0k hc.ins (by omega)
 rw [hv] at hr; cases hr
 obtain ⟨hlen,hn,-⟩:=hr2.1 hv2
 refine bs (bd (enc_ok _ hc.ins (by omega)) fun v2 h2=>bd (Zdl _ 4 (by omega)) fun v3 h3=>bd (Z4m _) fun v4 h4=>bd (Z4m _) fun v5 h5=>bd (ct (by omega)) fun v6 h6=>bd (ct (by omega)) fun v7 h7=>bd (ct (by omega)) fun v8 h8=>bd (Z4m _) fun v9 h9=>bd (ct (by omega)) fun v10 h10=>?_)
 -- the lists are short by what they hold; here their lengths in memory do
 refine bd (P:=fun r=>(r.length : Int) ≤ 2000000 + 8 * c.Z1d.length) (lp (fun t=>t.2) c.Z1d.length (fun t=>(t.1.length : Int) ≤ 2000000 + 8 * t.2) (fun t hI g0 g1=>?_) (by omega) (by dsimp only; omega) (by dsimp only; omega) (by dsimp only; omega)) fun q0 hq0=>?_
 ·unfold l58x1
  refine brD (fun hlt=>bd (gr (by omega) (by omega)) fun x hx=>?_) fun _=>dn (by omega)
  obtain ⟨k1,k2,k3,k4,k5⟩:=hk.hnd x hx
  exact bd (gr (by omega) (by omega)) fun _ _=>bd (Z4m _) fun a ha=>bd (ct (by omega)) fun b hb=>bd (gr (by omega) (by omega)) fun _ _=>bd (Z4m _) fun a2 ha2=>bd (ct (by omega)) fun b2 hb2=>bd (gr (by omega) (by omega)) fun _ _=>bd (Z4m _) fun a3 ha3=>bd (ct (by omega)) fun b3 hb3=>bd (Z4m _) fun a4 ha4=>bd (ct (by omega)) fun b4 hb4=>bd (wr (by omega) (by omega)) fun w hw=>nx (by dsimp only; omega) (by dsimp only; omega) (by dsimp only; omega)
 refine bd (Z4m _) fun v36 h36=>bd (ct (by omega)) fun v37 h37=>?_
 refine bd (P:=fun r=>(r.length : Int) ≤ 30000000000000 + 400 * c.Z16.length) (lp (fun t=>t.2) c.Z16.length (fun t=>(t.1.length : Int) ≤ 30000000000000 + 400 * t.2) (fun t hI g0 g1=>?_) (by omega) (by dsimp only; omega) (by dsimp only; omega) (by dsimp only; omega)) fun q2 hq2=>?_
 ·unfold l58x2
  refine brD (fun hlt=>bd (gr (by omega) (by omega)) fun m hm=>?_) fun _=>dn (by omega)
  obtain ⟨k1,k2,k3,k4,k5,k6⟩:=hk.map m hm
  have hj : ∀ x,Ok (Zc7 t v m x) (St (fun t=>(t.1.length : Int) ≤ 30000000000000 + 400 * t.2) (fun t=>t.2) c.Z16.length (fun r=>(r.length : Int) ≤ 30000000000000 + 400 * c.Z16.length) t):=fun x=>by
   unfold Zc7
   refine bd (gr (by omega) (by omega)) fun _ _=>bd (Z4m _) fun a ha=>bd (ct (by omega)) fun b hb=>bd (Znc _) fun a2 ha2=>bd (ct (by omega)) fun b2 hb2=>bd (Ztm _ v.1 (by omega) fun y hy h5=>?_) fun a3 ha3=>bd (ct (by omega)) fun b3 hb3=>bd (Ztm _ v.1 (by omega) fun y hy h5=>?_) fun a4 ha4=>bd (ct (by omega)) fun b4 hb4=>bd (wr (by omega) (by omega)) fun w hw=>nx (by dsimp only; omega) (by dsimp only; omega) (by dsimp only; omega)
   ·have:=k3 y hy h5; omega
   ·have:=k4 y hy h5; omega
  exact br (fun _=>hj _) fun _=>hj _
 refine bd (Z4m _) fun v59 h59=>bd (ct (by omega)) fun v60 h60=>bd (P:=fun r=>(r.length : Int) ≤ 2000000000000000 + 4 * c.Z1b.length) (lp (fun t=>t.2) c.Z1b.length (fun t=>(t.1.length : Int) ≤ 2000000000000000 + 4 * t.2) (fun t hI g0 g1=>?_) (by omega) (by dsimp only; omega) (by dsimp only; omega) (by dsimp only; omega)) fun q4 hq4=>ok (by dsimp only; omega)
 unfold l58x3
 refine brD (fun hlt=>?_) fun _=>dn (by omega)
 obtain ⟨x,hg,hm⟩:=gr (l:=c.Z1b) (i:=t.2) (by omega) hlt
 obtain ⟨k1,k2⟩:=hk.lin x hm
 simp only [hg]
 exact bs (bd (gr (by omega) (by omega)) fun _ _=>bd (Z4m _) fun a ha=>bd (ct (by omega)) fun b hb=>bs (bd (Z4m _) fun a2 ha2=>bd (ct (by omega)) fun b2 hb2=>bd (wr (by omega) (by omega)) fun w hw=>nx (by dsimp only; omega) (by dsimp only; omega) (by dsimp only; omega)))
theorem Zag (l : List Int) (x : Int) (hl : l.length ≤ 140737488355328) : Ok (Z6z l x) (fun _=>True):=by
 unfold Z6z
 refine bd (P:=fun _=>True) (li (max 0 (l.length : Int)) (fun t h0 h1=>?_) (by omega) (by omega) (by omega)) fun q _=>by cases q <;> exact ok trivial
 unfold Zpo
 exact bd (wr (by omega) (by omega)) fun v hv=>brD (fun _=>bd (gr (by omega) (by omega)) fun _ _=>br (fun _=>di trivial) fun _=>bd (wr (by omega) (by omega)) fun _ _=>ni (by omega) (by omega)) fun _=>di trivial
theorem edge_ok (l : List Int) (x : Int) (hl : l.length ≤ 140737488355328) : Ok (Zj6 l x) (fun _=>True):=by
 unfold Zj6 Zfm
 have hj : Ok ((Z6z l x).bind fun v3=>some v3) (fun _=>True):=bd (Zag l x hl) fun _ _=>ok trivial
 exact brD (fun _=>bd (wr (by omega) (by omega)) fun v hv=>bd (gr (by omega) (by omega)) fun _ _=>br (fun _=>bd (wr (by omega) (by omega)) fun _ _=>ok trivial) fun _=>hj) fun _=>hj
theorem Zxq (l : List Z0f) (at_ : List Int) (hl : l.length ≤ 256) (ha : at_.length ≤ 140737488355328) : Ok (Zdj l at_) (fun r=>r.1.length ≤ 256):=by
 unfold Zdj
 refine bd (P:=fun q : List Z0f ⊕ (List Z0f × Bool)=>match q with | .inl q=>q.length ≤ 256 | .inr y=>y.1 = []) (lp (fun t=>t.1) l.length (fun t=>(t.2.length : Int) = t.1) (fun t hI g0 g1=>?_) (by omega) rfl (by dsimp only; omega) (by dsimp only; omega)) fun q hq=>?_
 ·unfold Zo8
  have hd : t.2.length ≤ 256:=by omega
  have hj : ∀ (v : Z0f) (p : Int),t.1 < l.length → Ok (Zez t v p) (St (fun t=>(t.2.length : Int) = t.1) (fun t=>t.1) l.length (fun q : List Z0f ⊕ (List Z0f × Bool)=>match q with | .inl q=>q.length ≤ 256 | .inr y=>y.1 = []) t):=fun v p hlt=>by
   unfold Zez
   exact bd (gk (by simp only [List.length_append,List.length_cons,List.length_nil]; omega) (by simp only [List.length_append,List.length_cons,List.length_nil]; omega)) fun _ _=>bd (wr (by omega) (by omega)) fun w hw=>nx (by simp only [List.length_append,List.length_cons,List.length_nil]; omega) (by dsimp only; omega) (by dsimp only; omega)
  exact brD (fun hlt=>bd (gr (by omega) (by omega)) fun v _=>brE (fun _=>bd (Zag at_ _ ha) fun w _=>brD (fun _=>dn rfl) fun _=>hj _ _ hlt) fun _=>hj _ _ hlt) fun _=>dn hd
 ·cases q with
  | inl q=>exact ok hq
  | inr y=>exact ok (by rw [hq]; simp)
theorem Y35 (s : List UInt8) (k : Z2y) (at_ : List Int) (hk : TkOk s k) (ha : at_.length ≤ 140737488355328) : Ok (Zhi k at_) (fun r=>r.2 = 0 → r.1.Z1d.length ≤ 65536 ∧ r.1.Z16.length ≤ 65536 ∧ r.1.Z1b.length ≤ 65536 ∧ ∀ m ∈ r.1.Z16,m.Z1p.Z0q.length ≤ 256 ∧ m.Z1p.Z0s.length ≤ 256):=by
 have g1:=hk.hndL; have g2:=hk.mapL; have g3:=hk.lin; have g4:=hk.raw
 unfold Zhi
 refine bd (P:=fun q : List Z0h ⊕ (Z07 × Int)=>match q with | .inl q=>q.length ≤ 65536 | .inr y=>y.2 ≠ 0) (lp (fun t=>t.1) k.f_C.Z1d.length (fun t=>(t.2.length : Int) = t.1) (fun t hI h0 h1=>?_) (by omega) rfl (by dsimp only; omega) (by dsimp only; omega)) fun q1 hq1=>?_
 ·unfold Zlq Zme
  have hd : t.2.length ≤ 65536:=by omega
  exact brD (fun hlt=>bd (gr (by omega) (by omega)) fun v _=>bd (Zag at_ _ ha) fun _ _=>bd (edge_ok at_ _ ha) fun _ _=>bd (Zag at_ _ ha) fun _ _=>brD (fun _=>dn (by simp)) fun _=>brD (fun _=>dn (by simp)) fun _=>brD (fun _=>dn (by simp)) fun _=>bd (gk (by simp only [List.length_append,List.length_cons,List.length_nil]; omega) (by simp only [List.length_append,List.length_cons,List.length_nil]; omega)) fun _ _=>bd (wr (by omega) (by omega)) fun w hw=>nx (by simp only [List.length_append,List.length_cons,List.length_nil]; omega) (by dsimp only; omega) (by dsimp only; omega)) fun _=>dn hd
 cases q1 with
 | inr y=>exact ok fun h=>absurd h hq1
 | inl q1=>
 have hq1' : q1.length ≤ 65536:=hq1
 refine bd (P:=fun q : List Z0j ⊕ (Z07 × Int)=>match q with | .inl q=>q.length ≤ 65536 ∧ ∀ m ∈ q,m.Z1p.Z0q.length ≤ 256 ∧ m.Z1p.Z0s.length ≤ 256 | .inr y=>y.2 ≠ 0) (lp (fun t=>t.1) k.f_C.Z16.length (fun t=>(t.2.length : Int) = t.1 ∧ ∀ m ∈ t.2,m.Z1p.Z0q.length ≤ 256 ∧ m.Z1p.Z0s.length ≤ 256) (fun t hI h0 h1=>?_) (by omega) ⟨rfl,Z3x⟩ (by dsimp only; omega) (by dsimp only; omega)) fun q2 hq2=>?_
 ·obtain ⟨hI1,hI2⟩:=hI
  unfold Zp1 Zo5
  refine brD (fun hlt=>bd (gr (by omega) (by omega)) fun v hv=>?_) fun _=>dn ⟨by omega,hI2⟩
  obtain ⟨f1,f2⟩:=hk.map v hv
  refine bd (Zag at_ _ ha) fun _ _=>bd (Zxq _ at_ f1.1 ha) fun a ha'=>bd (Zxq _ at_ f2.1 ha) fun b hb'=>brD (fun _=>dn (by simp)) fun _=>br! (fun _=>dn (by simp)) fun _=>br! (fun _=>dn (by simp)) fun _=>bd (gr (by omega) (by omega)) fun _ _=>brD (fun _=>dn (by simp)) fun _=>bd (gk (by simp only [List.length_append,List.length_cons,List.length_nil]; omega) (by simp only [List.length_append,List.length_cons,List.length_nil]; omega)) fun _ _=>bd (wr (by omega) (by omega)) fun w hw=>nx ⟨by simp only [List.length_append,List.length_cons,List.length_nil]; omega,Z7b hI2 ⟨ha',hb'⟩⟩ (by dsimp only; omega) (by dsimp only; omega)
 cases q2 with
 | inr y=>exact ok fun h=>absurd h hq2
 | inl q2=>
 obtain ⟨e1,e2⟩:=hq2
 refine bd (P:=fun q : List Z0v ⊕ (Z07 × Int)=>match q with | .inl q=>q.length ≤ 65536 | .inr y=>y.2 ≠ 0) (lp (fun t=>t.1) k.f_C.Z1b.length (fun t=>(t.2.length : Int) = t.1) (fun t hI h0 h1=>?_) (by omega) rfl (by dsimp only; omega) (by dsimp only; omega)) fun q3 hq3=>?_
 ·unfold Zp3
  have hd : t.2.length ≤ 65536:=by omega
  exact brD (fun hlt=>bd (gr (by omega) (by omega)) fun v _=>bd (Zag at_ _ ha) fun _ _=>brD (fun _=>dn (by simp)) fun _=>bd (gk (by simp only [List.length_append,List.length_cons,List.length_nil]; omega) (by simp only [List.length_append,List.length_cons,List.length_nil]; omega)) fun _ _=>bd (wr (by omega) (by omega)) fun w hw=>nx (by simp only [List.length_append,List.length_cons,List.length_nil]; omega) (by dsimp only; omega) (by dsimp only; omega)) fun _=>dn hd
 cases q3 with
 | inr y=>exact ok fun h=>absurd h hq3
 | inl q3=>exact ok fun _=>⟨hq1',e1,hq3,e2⟩
theorem Zvi (p : List Z00) (s : List UInt8) (hp : Z1g p) (hs : Str s) : Ok (Zfs p s) (fun _=>True):=by
 unfold Zfs
 refine bd (Y32 s hs) fun v0 h0=>br (fun _=>ok trivial) fun _=>bd (dec_ok _) fun v1 h1=>brN (fun _=>ok trivial) fun h=>?_
 obtain ⟨k1,k2⟩:=h1 h
 refine bd (Zpr v1.1 (fun i hi=>(k1 i hi).w) (by omega)) fun v2 h2=>brN (fun _=>ok trivial) fun _=>bd (Y35 s v0.1 v2.1 h0 (by have:=h2.2; omega)) fun v3 h3=>brN (fun _=>ok trivial) fun h=>?_
 obtain ⟨e1,e2,e3,e4⟩:=h3 h
 exact brN (fun _=>ok trivial) fun _=>bd (Zug p _ hp ⟨fun i hi=>(k1 i hi).w,by dsimp only; omega,by dsimp only; omega,by dsimp only; omega,by dsimp only; omega,fun m hm=>by have:=e4 m hm; dsimp only at *; omega⟩) fun v4 _=>brN (fun _=>ok trivial) fun _=>ok trivial
theorem Zzu (s : List UInt8) (hs : Str s) : Ok (Zjd s) (fun r=>r.1.length ≤ 65536):=by
 unfold Zjd
 refine bd (Z3p s _ 2 (by omega) hs ⟨rfl,by dsimp only; omega,by dsimp only; omega⟩) fun v0 h0=>bd (P:=RdT s 65536 fun _=>True) (rdL (n:=v0.1) ⟨h0.1.1,h0.1.2.2.1 rfl⟩ h0.2 fun t hI g0 g1 hd=>?_) fun q hq=>br (fun _=>ok (by simp)) fun _=>brN (fun _=>ok (by simp)) fun _=>bd (Zw5 _) fun _ _=>brN (fun _=>ok (by simp)) fun _=>ok hq.2.1
 have hl:=hI.2.1
 have:=h0.1.2.2.1 rfl
 unfold Zom
 refine brD (fun hlt=>br! (fun _=>?_) fun _=>dn hd) fun _=>dn hd
 unfold Zp4
 exact bd (Z3p s _ 2 (by omega) hs hI.1) fun v1 h1=>bd (gk (by simp only [List.length_append,List.length_cons,List.length_nil]; omega) (by simp only [List.length_append,List.length_cons,List.length_nil]; omega)) fun _ _=>bd (wr (by omega) (by omega)) fun _ hv=>nx ⟨h1.2,by simp only [List.length_append,List.length_cons,List.length_nil]; omega,Z7b hI.2.2 trivial⟩ (by dsimp only; omega) (by dsimp only; omega)
end Go.Proofs
