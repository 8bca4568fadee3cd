/-
  That the models come to an answer, part three: a model becomes half a file. No condition.
-/
import Derived.Test.YtoijcliccgjolaaGreatConT2
import Derived.Test.YtoijcliccgjolaaGreatConT4
set_option linter.unusedVariables false
namespace Go.Proofs
open Go.Den Go.Tot
theorem runeLen (n : Int) : (Zn1 n).length ≤ 4:=by
 unfold Zn1 Utf8.encode
 dsimp only
 repeat' split
 all_goals simp [ByteArray.push]
theorem Zul (y : Z0m) (ht : Str y.Z02) : Ok (Zec y) (fun b=>b = true → 0 ≤ y.Z1u ∧ y.Z1u ≤ 8 ∧ y.Z02.length ≤ 64):=by
 unfold Zec
 repeat' first
  | unfold Zlu
  | unfold Znx
  | unfold Zlt
  | with_reducible refine brD (fun _=>?_) fun _=>?_
  | with_reducible refine brE (fun _=>?_) fun _=>?_
  | with_reducible refine br (fun _=>?_) fun _=>?_
  | with_reducible refine bd (Zg8 _ (by first | assumption | omega | exact And.left (by assumption) | (dsimp only; omega))) fun _ _=>?_
  | with_reducible refine bs ?_
  | with_reducible refine ok ?_
  | ((intro hb; first | (cases hb; done) | exact ⟨by omega,by omega,by simp_all⟩))
  | with_reducible refine And.intro ?_ ?_
  | assumption
  | exact True.intro
  | omega
  | (dsimp only; omega)
  | (simp only [List.length_set,List.length_append,List.length_cons,List.length_nil,List.length_replicate]; omega)
  | (obtain ⟨_,_⟩:=‹_ ∧ _›)
theorem L136x1 (y : Z0m) (h0 : 0 ≤ y.Z1u) (h8 : y.Z1u ≤ 8) : Ok (Z09 (Zg1 y) Z0a ([],0)) (fun r=>r.length ≤ 8):=by
 refine lp (fun s=>s.2) (y.Z1u) (fun s=>(s.1.length : Int) = s.2) (fun t hI _ _=>?_) (by omega) (by simp) (by omega) (by omega)
 try dsimp only at *
 unfold Zg1
 repeat' first
  | with_reducible refine nx ?_ ?_ ?_
  | with_reducible refine dn ?_
  | with_reducible refine brD (fun _=>?_) fun _=>?_
  | with_reducible refine br (fun _=>?_) fun _=>?_
  | with_reducible refine bd (wr (by omega) (by omega)) fun _ _=>?_
  | with_reducible refine bd (ct (by first | omega | (simp only [List.length_cons,List.length_nil]; omega))) fun _ _=>?_
  | with_reducible refine bs ?_
  | ((simp only [*,List.length_append,List.length_cons,List.length_nil]; omega))
  | with_reducible refine And.intro ?_ ?_
  | assumption
  | exact True.intro
  | omega
  | (dsimp only; omega)
  | (simp only [List.length_set,List.length_append,List.length_cons,List.length_nil,List.length_replicate]; omega)
  | (obtain ⟨_,_⟩:=‹_ ∧ _›)
theorem Y2p (y : Z0m) (ht : Str y.Z02) : Ok (Zhs y) (fun r=>r.1.length ≤ 100):=by
 have:=runeLen (IntKind.wrap .i32 y.Z1q)
 unfold Zhs
 repeat' first
  | with_reducible refine bd (Zul _ ht) fun _ hv=>?_
  | with_reducible refine br! (fun _=>?_) fun hb=>?_
  | with_reducible refine bd (L136x1 _ (hv hb).1 (hv hb).2.1) fun _ _=>?_
  | with_reducible refine br! (fun _=>?_) fun _=>?_
  | with_reducible refine brE (fun _=>?_) fun _=>?_
  | with_reducible refine br (fun _=>?_) fun _=>?_
  | with_reducible refine bd (ct (by have:=(hv hb).2.2; first | omega | (simp only [List.length_cons,List.length_nil]; omega))) fun _ _=>?_
  | with_reducible refine bs ?_
  | with_reducible refine ok ?_
  | (first | (simp; done) | (dsimp only; have:=(hv hb).2.2; simp only [List.length_cons,List.length_nil] at *; omega))
  | with_reducible refine And.intro ?_ ?_
  | assumption
  | exact True.intro
  | omega
  | (dsimp only; omega)
  | (simp only [List.length_set,List.length_append,List.length_cons,List.length_nil,List.length_replicate]; omega)
  | (obtain ⟨_,_⟩:=‹_ ∧ _›)
theorem L106x1 (p : List Z00) (e : Int) (l : List Z0f) (hp : Z1f p) (hl : ∀ v ∈ l,Str v.Z1i.Z02) (hn : l.length * 56 ≤ 140737488355328) : Ok (Z09 (Zh2 l) Z0a (0,p,e,([] : List Z0f))) (fun q=>Z1f q.1 ∧ (∀ v ∈ q.2.2,Str v.Z1i.Z02) ∧ q.2.2.length = l.length):=by
 refine lp (fun t=>t.1) (l.length) (fun t=>Z1f t.2.1 ∧ (∀ v ∈ t.2.2.2,Str v.Z1i.Z02) ∧ (t.2.2.2.length : Int) = t.1) (fun t hI _ _=>?_) (by omega) (by exact ⟨hp,Z3z,rfl⟩) (by omega) (by omega)
 try dsimp only at *
 unfold Zh2
 obtain ⟨hI1,hI2,hI3⟩:=hI
 repeat' first
  | with_reducible refine nx ?_ ?_ ?_
  | with_reducible refine dn ?_
  | unfold Zei
  | unfold Z9o
  | with_reducible refine brD (fun _=>?_) fun _=>?_
  | with_reducible refine brE (fun _=>?_) fun _=>?_
  | with_reducible refine br (fun _=>?_) fun _=>?_
  | with_reducible refine bd (gr (by omega) (by omega)) fun _ _=>?_
  | with_reducible refine bd (wr (by omega) (by omega)) fun _ _=>?_
  | with_reducible refine bd (gk (by simp only [List.length_append,List.length_cons,List.length_nil]; omega) (by simp only [List.length_append,List.length_cons,List.length_nil]; omega)) fun _ _=>?_
  | with_reducible refine bd (Y2p _ (by exact hl _ (by assumption))) fun _ _=>?_
  | with_reducible refine bd (Z6q _ _ (by first | assumption | omega) (by first | assumption | omega)) fun _ _=>?_
  | with_reducible refine bs ?_
  | (first | exact Z63 hI2 (by first | exact hl _ (by assumption) | exact Nat.zero_le _))
  | with_reducible refine And.intro ?_ ?_
  | assumption
  | exact True.intro
  | omega
  | (dsimp only; omega)
  | (simp only [List.length_set,List.length_append,List.length_cons,List.length_nil,List.length_replicate]; omega)
  | (obtain ⟨_,_⟩:=‹_ ∧ _›)
theorem Zt3 (x : Z0l) (l : List Z0f) (hp : Z1f x.f_P) (hl : ∀ v ∈ l,Str v.Z1i.Z02) (hn : l.length * 56 ≤ 140737488355328) : Ok (Zdp x l) (fun r=>Z1f r.1.f_P ∧ (∀ v ∈ r.2,Str v.Z1i.Z02) ∧ r.2.length = l.length):=by
 unfold Zdp
 repeat' first
  | with_reducible refine bd (L106x1 _ _ _ (by first | assumption | omega | exact And.left (by assumption) | (dsimp only; omega)) (by first | assumption | omega | exact And.left (by assumption) | (dsimp only; omega)) (by first | assumption | omega | exact And.left (by assumption) | (dsimp only; omega))) fun _ _=>?_
  | with_reducible refine ok ?_
  | with_reducible refine And.intro ?_ ?_
  | assumption
  | exact True.intro
  | omega
  | (dsimp only; omega)
  | (simp only [List.length_set,List.length_append,List.length_cons,List.length_nil,List.length_replicate]; omega)
  | (obtain ⟨_,_⟩:=‹_ ∧ _›)
theorem L78x1 (p : List Z00) (e : Int) (c : Z06) (hp : Z1f p) (hc : Z4j c) : Ok (Z09 (Zgy c) Z0a (0,p,e,([] : List Z01))) (fun q=>Z1f q.1 ∧ (∀ v ∈ q.2.2,Z2q v) ∧ q.2.2.length = c.Z0k.length):=by
 have:=hc.insL
 refine lp (fun t=>t.1) (c.Z0k.length) (fun t=>Z1f t.2.1 ∧ (∀ v ∈ t.2.2.2,Z2q v) ∧ (t.2.2.2.length : Int) = t.1) (fun t hI _ _=>?_) (by omega) (by exact ⟨hp,Z3z,rfl⟩) (by omega) (by omega)
 try dsimp only at *
 unfold Zgy
 obtain ⟨hI1,hI2,hI3⟩:=hI
 repeat' first
  | with_reducible refine nx ?_ ?_ ?_
  | with_reducible refine dn ?_
  | with_reducible refine brD (fun _=>?_) fun _=>?_
  | with_reducible refine br (fun _=>?_) fun _=>?_
  | with_reducible refine bd (gr (by omega) (by omega)) fun _ _=>?_
  | with_reducible refine bd (wr (by omega) (by omega)) fun _ _=>?_
  | with_reducible refine bd (gk (by simp only [List.length_append,List.length_cons,List.length_nil]; omega) (by simp only [List.length_append,List.length_cons,List.length_nil]; omega)) fun _ _=>?_
  | with_reducible refine bd (Y27 _ _ (by first | assumption | exact hc.ins _ (by assumption)) (by first | assumption | exact hc.ins _ (by assumption))) fun _ _=>?_
  | with_reducible refine bs ?_
  | (exact Z63 hI2 (And.right (by assumption)))
  | with_reducible refine And.intro ?_ ?_
  | assumption
  | exact True.intro
  | omega
  | (dsimp only; omega)
  | (simp only [List.length_set,List.length_append,List.length_cons,List.length_nil,List.length_replicate]; omega)
  | (obtain ⟨_,_⟩:=‹_ ∧ _›)
theorem L78x2 (p : List Z00) (e : Int) (c : Z06) (hp : Z1f p) (hc : Z4j c) : Ok (Z09 (Zg3 c) Z0a (0,p,e,([] : List Z0i))) (fun q=>Z1f q.1 ∧ (∀ v ∈ q.2.2,v.Z1i = []) ∧ q.2.2.length = c.Z1c.length):=by
 have:=hc.hndL
 refine lp (fun t=>t.1) (c.Z1c.length) (fun t=>Z1f t.2.1 ∧ (∀ v ∈ t.2.2.2,v.Z1i = []) ∧ (t.2.2.2.length : Int) = t.1) (fun t hI _ _=>?_) (by omega) (by exact ⟨hp,Z3z,rfl⟩) (by omega) (by omega)
 try dsimp only at *
 unfold Zg3
 obtain ⟨hI1,hI2,hI3⟩:=hI
 repeat' first
  | with_reducible refine nx ?_ ?_ ?_
  | with_reducible refine dn ?_
  | unfold Zj1
  | with_reducible refine brD (fun _=>?_) fun _=>?_
  | with_reducible refine br! (fun _=>?_) fun _=>?_
  | with_reducible refine br (fun _=>?_) fun _=>?_
  | with_reducible refine bd (gr (by omega) (by omega)) fun _ _=>?_
  | with_reducible refine bd (wr (by omega) (by omega)) fun _ _=>?_
  | with_reducible refine bd (gk (by simp only [List.length_append,List.length_cons,List.length_nil]; omega) (by simp only [List.length_append,List.length_cons,List.length_nil]; omega)) fun _ _=>?_
  | with_reducible refine bd (Zdb _ _ (by first | assumption | exact hc.hnd _ (by assumption)) (by first | assumption | exact hc.hnd _ (by assumption))) fun _ _=>?_
  | with_reducible refine bs ?_
  | (exact Z63 hI2 rfl)
  | with_reducible refine And.intro ?_ ?_
  | assumption
  | exact True.intro
  | omega
  | (dsimp only; omega)
  | (simp only [List.length_set,List.length_append,List.length_cons,List.length_nil,List.length_replicate]; omega)
  | (obtain ⟨_,_⟩:=‹_ ∧ _›)
theorem Z7f.of {m : Z0j} (h : Z7f m.Z1m) {l k : List Z0f} {b : Bool} (h1 : ∀ v ∈ l,Str v.Z1i.Z02) (h2 : l.length = m.Z1m.Z0o.length) (h3 : ∀ v ∈ k,Str v.Z1i.Z02) (h4 : k.length = m.Z1m.Z0s.length) :
  Z7f { Z0o:=l,Z0s:=k,Z3y:=b }:=⟨h1,by have:=h.locL; dsimp only; omega,h3,by have:=h.stkL; dsimp only; omega⟩
theorem L78x3 (p : List Z00) (e : Int) (c : Z06) (hp : Z1f p) (hc : Z4j c) : Ok (Z09 (Zik c) Z0a (0,p,e,([] : List Z0j))) (fun q=>Z1f q.1 ∧ (∀ v ∈ q.2.2,Z7f v.Z1m) ∧ q.2.2.length = c.Z15.length):=by
 have:=hc.mapL
 refine lp (fun t=>t.1) (c.Z15.length) (fun t=>Z1f t.2.1 ∧ (∀ v ∈ t.2.2.2,Z7f v.Z1m) ∧ (t.2.2.2.length : Int) = t.1) (fun t hI _ _=>?_) (by omega) ⟨hp,Z3z,rfl⟩ (by omega) (by omega)
 obtain ⟨hI1,hI2,hI3⟩:=hI
 unfold Zik
 refine brD (fun hlt=>?_) fun _=>dn ⟨hI1,hI2,by dsimp only; omega⟩
 obtain ⟨y,hy,hm⟩:=gr (l:=c.Z15) (i:=t.1) (by omega) hlt
 simp only [hy]
 refine bs (bs (bd (Zt3 _ _ hI1 (hc.map _ hm).loc (hc.map _ hm).locL) fun v1 h1=>bd (Zt3 _ _ h1.1 (hc.map _ hm).stk (hc.map _ hm).stkL) fun v2 h2=>?_))
 refine bd (gk (by simp only [List.length_append,List.length_cons,List.length_nil]; omega) (by simp only [List.length_append,List.length_cons,List.length_nil]; omega)) fun _ _=>bd (wr (by omega) (by omega)) fun _ _=>?_
 exact nx ⟨h2.1,Z63 hI2 ((hc.map _ hm).of h1.2.1 h1.2.2 h2.2.1 h2.2.2),by simp only [List.length_append,List.length_cons,List.length_nil]; omega⟩ (by dsimp only; omega) (by dsimp only; omega)
theorem Y1a (x : Z0l) (c : Z06) (hp : Z1f x.f_P) (hc : Z4j c) : Ok (Zid x c) (fun r=>Z1f r.1.f_P ∧ Z4j r.2):=by
 unfold Zid
 refine bd (L78x1 _ _ _ hp hc) fun q0 h0=>bd (L78x2 _ _ _ h0.1 hc) fun q2 h2=>bd (L78x3 _ _ _ h2.1 hc) fun q4 h4=>ok ⟨h4.1,h0.2.1,?_,fun v hv=>?_,?_,h4.2.1,?_,hc.linL⟩
 ·have:=hc.insL; have:=h0.2.2; dsimp only; omega
 ·rw [h2.2.1 v hv]; simp
 ·have:=hc.hndL; have:=h2.2.2; dsimp only; omega
 ·have:=hc.mapL; have:=h4.2.2; dsimp only; omega
theorem L58x2 (p : List Z00) (e : Int) (m : Z2m) (hp : Z1f p) (hm : Z9k m) : Ok (Z09 (Zgb m) Z0a (0,p,e,([] : List Int))) (fun q=>Z1f q.1 ∧ q.2.2.length ≤ 140737488355328):=by
 have:=hm.excL
 refine lp (fun t=>t.1) (m.Z5e.length) (fun t=>Z1f t.2.1 ∧ (t.2.2.2.length : Int) = t.1) (fun t hI _ _=>?_) (by omega) (by exact ⟨hp,rfl⟩) (by omega) (by omega)
 try dsimp only at *
 unfold Zgb
 obtain ⟨hI1,hI3⟩:=hI
 repeat' first
  | with_reducible refine nx ?_ ?_ ?_
  | with_reducible refine dn ?_
  | with_reducible refine brD (fun _=>?_) fun _=>?_
  | with_reducible refine br (fun _=>?_) fun _=>?_
  | with_reducible refine bd (gr (by omega) (by omega)) fun _ _=>?_
  | with_reducible refine bd (wr (by omega) (by omega)) fun _ _=>?_
  | with_reducible refine bd (gk (by simp only [List.length_append,List.length_cons,List.length_nil]; omega) (by simp only [List.length_append,List.length_cons,List.length_nil]; omega)) fun _ _=>?_
  | with_reducible refine bd (Zdb _ _ (by first | assumption | exact hm.exc _ (by assumption)) (by first | assumption | exact hm.exc _ (by assumption))) fun _ _=>?_
  | with_reducible refine bs ?_
  | with_reducible refine And.intro ?_ ?_
  | assumption
  | exact True.intro
  | omega
  | (dsimp only; omega)
  | (simp only [List.length_set,List.length_append,List.length_cons,List.length_nil,List.length_replicate]; omega)
  | (obtain ⟨_,_⟩:=‹_ ∧ _›)
structure Zac (n : Int) (ms : List Z0d) (cs : List Z06) (ts : List (List Int)) (ns : List Z1e) : Prop where
 m : (ms.length : Int) = n
 c : (cs.length : Int) = n
 t : (ts.length : Int) = n
 s : (ns.length : Int) = n
 code : ∀ v ∈ cs,Z4j v
 att : ∀ m ∈ ms,m.Z1g = []
 thr : ∀ l ∈ ts,l.length ≤ 140737488355328
theorem Zac.snoc {n k : Int} {ms : List Z0d} {cs : List Z06} {ts : List (List Int)} {ns : List Z1e} (h : Zac n ms cs ts ns) {m : Z0d} {c : Z06} {l : List Int} {s : Z1e} (ha : m.Z1g = []) (hc : Z4j c) (hl : l.length ≤ 140737488355328) (hk : k = n + 1) :
  Zac k (ms ++ [m]) (cs ++ [c]) (ts ++ [l]) (ns ++ [s]):=by
 obtain ⟨h1,h2,h3,h4,h5,h6,h7⟩:=h
 refine ⟨?_,?_,?_,?_,Z63 h5 hc,Z63 h6 ha,Z63 h7 hl⟩ <;> simp only [List.length_append,List.length_cons,List.length_nil] <;> omega
theorem WCode0 : Z4j { Z0s:=0,Z0o:=0,Z0k:=[],Z1c:=[],Z15:=[],Z18:=[] }:=⟨Z3z,by simp,Z3z,by simp,Z3z,by simp,by simp⟩
abbrev S58:=Int × (List Z00) × Int × (List Z0d) × (List Z06) × (List (List Int)) × (List Z1e)
def I58 (t : S58) : Prop:=Z1f t.2.1 ∧ Zac t.1 t.2.2.2.1 t.2.2.2.2.1 t.2.2.2.2.2.1 t.2.2.2.2.2.2
def Q58 (n : Int) (q : (List Z00) × Int × (List Z0d) × (List Z06) × (List (List Int)) × (List Z1e)) : Prop:=Z1f q.1 ∧ Zac n q.2.2.1 q.2.2.2.1 q.2.2.2.2.1 q.2.2.2.2.2
theorem K58x2 {n : Int} {p26 p27 p28 : Int} {p29 : List Z01} {p30 : List Z0i} {p31 : List Z0j} {p32 : List Z0u} {t0 : S58} {v34 : Z2m} {v35 v36 : Z0l × Int} {p33 : List Z00} {p34 p35 : Int}
  (hI : I58 t0) (hp : Z1f p33) (hm : Z9k v34) (hc : Z4j { Z0s:=p27,Z0o:=p28,Z0k:=p29,Z1c:=p30,Z15:=p31,Z18:=p32 }) (h0 : 0 ≤ t0.1) (h1 : t0.1 < n) (hn : n * 184 ≤ 140737488355328) :
  Ok (Zed p26 p27 p28 p29 p30 p31 p32 t0 v34 v35 v36 p33 p34 p35) (St I58 (fun t=>t.1) n (Q58 n) t0):=by
 unfold Zed
 have:=hI.2.m; have:=hI.2.c; have:=hI.2.t; have:=hI.2.s
 refine bd (L58x2 _ _ _ hp hm) fun q4 h4=>?_
 refine bd (gk (by simp only [List.length_append,List.length_cons,List.length_nil]; omega) (by simp only [List.length_append,List.length_cons,List.length_nil]; omega)) fun _ _=>?_
 refine bd (gk (by simp only [List.length_append,List.length_cons,List.length_nil]; omega) (by simp only [List.length_append,List.length_cons,List.length_nil]; omega)) fun _ _=>?_
 refine bd (gk (by simp only [List.length_append,List.length_cons,List.length_nil]; omega) (by simp only [List.length_append,List.length_cons,List.length_nil]; omega)) fun _ _=>?_
 refine bd (gk (by simp only [List.length_append,List.length_cons,List.length_nil]; omega) (by simp only [List.length_append,List.length_cons,List.length_nil]; omega)) fun _ _=>?_
 refine bd (wr (by omega) (by omega)) fun _ hv=>?_
 exact nx ⟨h4.1,hI.2.snoc rfl hc h4.2 hv⟩ (by dsimp only; omega) (by dsimp only; omega)
theorem K58x1 {n : Int} {t0 : S58} {v34 : Z2m} {v35 v36 : Z0l × Int} {p24 : List Z00} {p25 p26 p27 p28 : Int} {p29 : List Z01} {p30 : List Z0i} {p31 : List Z0j} {p32 : List Z0u}
  (hI : I58 t0) (hp : Z1f p24) (hm : Z9k v34) (hc : Z4j { Z0s:=p27,Z0o:=p28,Z0k:=p29,Z1c:=p30,Z15:=p31,Z18:=p32 }) (h0 : 0 ≤ t0.1) (h1 : t0.1 < n) (hn : n * 184 ≤ 140737488355328) :
  Ok (Zc2 t0 v34 v35 v36 p24 p25 p26 p27 p28 p29 p30 p31 p32) (St I58 (fun t=>t.1) n (Q58 n) t0):=by
 unfold Zc2
 exact brD (fun _=>bd (Z6q _ _ hp (by simp)) fun v hv=>K58x2 hI hv hm hc h0 h1 hn) fun _=>K58x2 hI hp hm hc h0 h1 hn
theorem L58x1 (p : List Z00) (e : Int) (u : Z0x) (hp : Z1f p) (hu : Z4n u) : Ok (Z09 (Zim u) Z0a (0,p,e,[],[],[],[])) (Q58 u.Z16.length):=by
 have:=hu.metL
 refine lp (fun t=>t.1) (u.Z16.length) I58 (fun t hI h0 h1=>?_) (by omega) ⟨hp,rfl,rfl,rfl,rfl,Z3z,Z3z,Z3z⟩ (by omega) (by omega)
 unfold Zim
 refine brD (fun hlt => ?_) fun hge => dn ⟨hI.1, by have : t.1 = u.Z16.length:=by omega
                                                    rw [← this]; exact hI.2⟩
 refine bd (gr (by omega) (by omega)) fun m hm=>bd (Z6q _ _ hI.1 (hu.met _ hm).n) fun v1 h1=>bd (Z6q _ _ h1 (hu.met _ hm).d) fun v2 h2=>br (fun _=>?_) fun _=>?_
 ·exact bd (Z6q _ _ h2 (by simp)) fun v3 h3=>bd (Y1a _ _ h3 (hu.met _ hm).code) fun v4 h4=>K58x1 hI h4.1 (hu.met _ hm) h4.2 h0 hlt (by omega)
 ·exact K58x1 hI h2 (hu.met _ hm) WCode0 h0 hlt (by omega)
structure Zbj (u : Z0x) (h : Z20) : Prop where
 pool : Z1f h.f_F.Z1w
 fam : Zac u.Z16.length h.f_F.Z16 h.Z7k h.Z7r h.Z6i
 ifsL : h.f_F.Z0y.length = u.Z0y.length
 fldL : h.f_F.Z17.length = u.Z17.length
 fld : ∀ m ∈ h.f_F.Z17,m.Z1g.length ≤ 1 ∧ ∀ a ∈ m.Z1g,Str a.Z26
 attL : h.f_F.Z1g.length ≤ 1
 att : ∀ a ∈ h.f_F.Z1g,Str a.Z26
theorem L48x1 (p : List Z00) (e : Int) (u : Z0x) (hp : Z1f p) (hu : Z4n u) : Ok (Z09 (Ziq u) Z0a (0,p,e,([] : List Int))) (fun q=>Z1f q.1 ∧ q.2.2.length = u.Z0y.length):=by
 have:=hu.ifsL
 refine lp (fun t=>t.1) (u.Z0y.length) (fun t=>Z1f t.2.1 ∧ (t.2.2.2.length : Int) = t.1) (fun t hI h0 h1=>?_) (by omega) ⟨hp,rfl⟩ (by omega) (by omega)
 obtain ⟨hI1,hI3⟩:=hI
 unfold Ziq
 refine brD (fun hlt=>?_) fun hge=>dn ⟨hI1,by dsimp only; omega⟩
 refine bd (gr (by omega) (by omega)) fun s hs=>bd (Zdb _ _ hI1 (hu.ifs _ hs)) fun v1 h1=>?_
 refine bd (gk (by simp only [List.length_append,List.length_cons,List.length_nil]; omega) (by simp only [List.length_append,List.length_cons,List.length_nil]; omega)) fun _ _=>bd (wr (by omega) (by omega)) fun _ hv=>?_
 exact nx ⟨h1,by simp only [List.length_append,List.length_cons,List.length_nil]; omega⟩ (by dsimp only; omega) (by dsimp only; omega)
def MAt (m : Z0d) : Prop:=m.Z1g.length ≤ 1 ∧ ∀ a ∈ m.Z1g,Str a.Z26
abbrev S48:=Int × (List Z00) × Int × (List Z0d)
def I48 (t : S48) : Prop:=Z1f t.2.1 ∧ (t.2.2.2.length : Int) = t.1 ∧ ∀ m ∈ t.2.2.2,MAt m
theorem K48x2 {u : Z0x} (hu : Z4n u) {t1 : S48} {v26 : Z3o} {v27 v28 : Z0l × Int} {p9 : List Z00} {p10 : Int} {p11 : List Z10} (hI : I48 t1) (hp : Z1f p9) (ha : p11.length ≤ 1 ∧ ∀ a ∈ p11,Str a.Z26) (h0 : 0 ≤ t1.1) (h1 : t1.1 < u.Z17.length) :
  Ok (Zcv t1 v26 v27 v28 p9 p10 p11) (St I48 (fun t=>t.1) u.Z17.length (fun q=>Z1f q.1 ∧ q.2.2.length = u.Z17.length ∧ ∀ m ∈ q.2.2,MAt m) t1):=by
 have:=hu.fldL
 obtain ⟨hI1,hI2,hI3⟩:=hI
 unfold Zcv
 refine bd (gk (by simp only [List.length_append,List.length_cons,List.length_nil]; omega) (by simp only [List.length_append,List.length_cons,List.length_nil]; omega)) fun _ _=>bd (wr (by omega) (by omega)) fun _ hv=>?_
 exact nx ⟨hp,by simp only [List.length_append,List.length_cons,List.length_nil]; omega,Z63 hI3 ha⟩ (by dsimp only; omega) (by dsimp only; omega)
theorem L48x2 (p : List Z00) (e : Int) (u : Z0x) (hp : Z1f p) (hu : Z4n u) : Ok (Z09 (Zg4 u) Z0a (0,p,e,([] : List Z0d))) (fun q=>Z1f q.1 ∧ q.2.2.length = u.Z17.length ∧ ∀ m ∈ q.2.2,MAt m):=by
 have:=hu.fldL
 refine lp (fun t=>t.1) (u.Z17.length) I48 (fun t hI h0 h1=>?_) (by omega) ⟨hp,rfl,Z3z⟩ (by omega) (by omega)
 unfold Zg4
 refine brD (fun hlt=>?_) fun hge=>dn ⟨hI.1,by have:=hI.2.1; dsimp only; omega,hI.2.2⟩
 refine bd (gr (by omega) (by omega)) fun f hf=>bd (Z6q _ _ hI.1 (hu.fld _ hf).n) fun v1 h1=>bd (Z6q _ _ h1 (hu.fld _ hf).d) fun v2 h2=>brN (fun _=>?_) fun _=>?_
 ·exact bd (Z6q _ _ h2 (by simp)) fun v3 h3=>bd (Y2i _ _ h3 (hu.fld _ hf)) fun v4 h4=>bd (Zvc _) fun v5 h5=>K48x2 hu hI h4 ⟨by simp,fun a ha=>by rw [List.mem_singleton.1 ha]; show v5.length ≤ _; omega⟩ h0 hlt
 ·exact K48x2 hu hI h2 ⟨by simp,Z3z⟩ h0 hlt
theorem Y3t (x : Z0l) (u : Z0x) (h : Z20) (hp : Z1f x.f_P) (hu : Z4n u) (hi : h.f_F.Z0y.length = u.Z0y.length) (hf : h.f_F.Z17.length = u.Z17.length) (hm : ∀ m ∈ h.f_F.Z17,MAt m) :
  Ok (Zhe x u h) (fun r=>Z1f r.1.f_P ∧ Zbj u r.2):=by
 unfold Zhe
 exact bd (L58x1 _ _ _ hp hu) fun q hq=>ok ⟨hq.1,Z1f.nil,hq.2,hi,hf,hm,by simp,Z3z⟩
theorem K48x3 {u : Z0x} {v34 : Z0l × Z20} (hw : Zbj u v34.2) {p12 : List Z00} {p13 : Int} {p14 : List Z10} (hp : Z1f p12) (ha : p14.length ≤ 1 ∧ ∀ a ∈ p14,Str a.Z26) : Ok (Zdf v34 p12 p13 p14) (fun r=>Z1f r.1.f_P ∧ Zbj u r.2):=by
 unfold Zdf
 exact ok ⟨hp,hp,hw.fam,hw.ifsL,hw.fldL,hw.fld,ha.1,ha.2⟩
theorem K48x1 {u : Z0x} (hu : Z4n u) {v0 : Z0l × Int} {p0 : List Z00} {p1 p2 : Int} (hp : Z1f p0) : Ok (Zek v0 u p0 p1 p2) (fun r=>Z1f r.1.f_P ∧ Zbj u r.2):=by
 unfold Zek
 refine bd (L48x1 _ _ _ hp hu) fun q0 h0=>bd (L48x2 _ _ _ h0.1 hu) fun q2 h2=>bd (Y3t _ _ _ h2.1 hu ?_ ?_ h2.2.2) fun v34 hv=>br (fun _=>?_) fun _=>K48x3 hv.2 hv.1 ⟨hv.2.attL,hv.2.att⟩
 ·exact h0.2
 ·exact h2.2.1
 ·exact bd (Z6q _ _ hv.1 (by simp)) fun v1 h1=>bd (Z6q _ _ h1 hu.src) fun v2 h2=>bd (Zvc _) fun v5 h5=>K48x3 hv.2 h2 ⟨by simp,fun a ha=>by rw [List.mem_singleton.1 ha]; show v5.length ≤ _; omega⟩
theorem Y2e (x : Z0l) (u : Z0x) (hp : Z1f x.f_P) (hu : Z4n u) : Ok (Zi1 x u) (fun r=>Zbj u r.2):=by
 unfold Zi1
 refine (bd (Zdb _ _ hp hu.n) fun v0 h0=>br (fun _=>bd (Zdb _ _ h0 hu.sup) fun v1 h1=>K48x1 hu h1) fun _=>K48x1 hu h0 : Ok _ (fun r : Z0l × Z20=>Z1f r.1.f_P ∧ Zbj u r.2)).mono fun r hr=>hr.2
end Go.Proofs
