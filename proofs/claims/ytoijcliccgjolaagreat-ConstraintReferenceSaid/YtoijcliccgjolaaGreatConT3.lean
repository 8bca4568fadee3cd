/-
  That the models come to an answer, part three: a model becomes half a file. No condition.
-/
import Derived.Test.YtoijcliccgjolaaGreatConT2
import Derived.Test.YtoijcliccgjolaaGreatConT4
set_option linter.unusedVariables false
namespace Go.Proofs
open Go.Den Go.Tot
theorem runeLen (n : Int) : (Zk7 n).length ≤ 4:=by
 unfold Zk7 Utf8.encode
 dsimp only
 repeat' split
 all_goals simp [ByteArray.push]
theorem Zra (y : Z0l) (ht : Str y.Z05) : Ok (Zd4 y) (fun b=>b = true → 0 ≤ y.Z1r ∧ y.Z1r ≤ 8 ∧ y.Z05.length ≤ 64):=by
 unfold Zd4
 repeat' first
  | unfold Zno
  | unfold Zm9
  | unfold Zmw
  | with_reducible refine brD (fun _=>?_) fun _=>?_
  | with_reducible refine brE (fun _=>?_) fun _=>?_
  | with_reducible refine br (fun _=>?_) fun _=>?_
  | with_reducible refine bd (Zju _ (by first | assumption | omega | exact And.left (by assumption) | (dsimp only; omega))) fun _ _=>?_
  | with_reducible refine bs ?_
  | with_reducible refine ok ?_
  | ((intro hb; first | (cases hb; done) | exact ⟨by omega,by omega,by simp_all⟩))
  | with_reducible refine And.intro ?_ ?_
  | assumption
  | exact True.intro
  | omega
  | (dsimp only; omega)
  | (simp only [List.length_set,List.length_append,List.length_cons,List.length_nil,List.length_replicate]; omega)
  | (obtain ⟨_,_⟩:=‹_ ∧ _›)
theorem L136x1 (y : Z0l) (h0 : 0 ≤ y.Z1r) (h8 : y.Z1r ≤ 8) : Ok (Z0a (Zfp y) Z0e ([],0)) (fun r=>r.length ≤ 8):=by
 refine lp (fun s=>s.2) (y.Z1r) (fun s=>(s.1.length : Int) = s.2) (fun t hI _ _=>?_) (by omega) (by simp) (by omega) (by omega)
 try dsimp only at *
 unfold Zfp
 repeat' first
  | with_reducible refine nx ?_ ?_ ?_
  | with_reducible refine dn ?_
  | with_reducible refine brD (fun _=>?_) fun _=>?_
  | with_reducible refine br (fun _=>?_) fun _=>?_
  | with_reducible refine bd (wr (by omega) (by omega)) fun _ _=>?_
  | with_reducible refine bd (ct (by first | omega | (simp only [List.length_cons,List.length_nil]; omega))) fun _ _=>?_
  | with_reducible refine bs ?_
  | ((simp only [*,List.length_append,List.length_cons,List.length_nil]; omega))
  | with_reducible refine And.intro ?_ ?_
  | assumption
  | exact True.intro
  | omega
  | (dsimp only; omega)
  | (simp only [List.length_set,List.length_append,List.length_cons,List.length_nil,List.length_replicate]; omega)
  | (obtain ⟨_,_⟩:=‹_ ∧ _›)
theorem Y09 (y : Z0l) (ht : Str y.Z05) : Ok (Zft y) (fun r=>r.1.length ≤ 100):=by
 have:=runeLen (IntKind.wrap .i32 y.Z1k)
 unfold Zft
 repeat' first
  | with_reducible refine bd (Zra _ ht) fun _ hv=>?_
  | with_reducible refine br! (fun _=>?_) fun hb=>?_
  | with_reducible refine bd (L136x1 _ (hv hb).1 (hv hb).2.1) fun _ _=>?_
  | with_reducible refine br! (fun _=>?_) fun _=>?_
  | with_reducible refine brE (fun _=>?_) fun _=>?_
  | with_reducible refine br (fun _=>?_) fun _=>?_
  | with_reducible refine bd (ct (by have:=(hv hb).2.2; first | omega | (simp only [List.length_cons,List.length_nil]; omega))) fun _ _=>?_
  | with_reducible refine bs ?_
  | with_reducible refine ok ?_
  | (first | (simp; done) | (dsimp only; have:=(hv hb).2.2; simp only [List.length_cons,List.length_nil] at *; omega))
  | with_reducible refine And.intro ?_ ?_
  | assumption
  | exact True.intro
  | omega
  | (dsimp only; omega)
  | (simp only [List.length_set,List.length_append,List.length_cons,List.length_nil,List.length_replicate]; omega)
  | (obtain ⟨_,_⟩:=‹_ ∧ _›)
theorem L106x1 (p : List Z00) (e : Int) (l : List Z0d) (hp : Z16 p) (hl : ∀ v ∈ l,Str v.Z1g.Z05) (hn : l.length * 56 ≤ 140737488355328) : Ok (Z0a (Zj0 l) Z0e (0,p,e,([] : List Z0d))) (fun q=>Z16 q.1 ∧ (∀ v ∈ q.2.2,Str v.Z1g.Z05) ∧ q.2.2.length = l.length):=by
 refine lp (fun t=>t.1) (l.length) (fun t=>Z16 t.2.1 ∧ (∀ v ∈ t.2.2.2,Str v.Z1g.Z05) ∧ (t.2.2.2.length : Int) = t.1) (fun t hI _ _=>?_) (by omega) (by exact ⟨hp,Z3u,rfl⟩) (by omega) (by omega)
 try dsimp only at *
 unfold Zj0
 obtain ⟨hI1,hI2,hI3⟩:=hI
 repeat' first
  | with_reducible refine nx ?_ ?_ ?_
  | with_reducible refine dn ?_
  | unfold Zbs
  | unfold Z9g
  | with_reducible refine brD (fun _=>?_) fun _=>?_
  | with_reducible refine brE (fun _=>?_) fun _=>?_
  | with_reducible refine br (fun _=>?_) fun _=>?_
  | with_reducible refine bd (gr (by omega) (by omega)) fun _ _=>?_
  | with_reducible refine bd (wr (by omega) (by omega)) fun _ _=>?_
  | with_reducible refine bd (gk (by simp only [List.length_append,List.length_cons,List.length_nil]; omega) (by simp only [List.length_append,List.length_cons,List.length_nil]; omega)) fun _ _=>?_
  | with_reducible refine bd (Y09 _ (by exact hl _ (by assumption))) fun _ _=>?_
  | with_reducible refine bd (Z6m _ _ (by first | assumption | omega) (by first | assumption | omega)) fun _ _=>?_
  | with_reducible refine bs ?_
  | (first | exact Z5l hI2 (by first | exact hl _ (by assumption) | exact Nat.zero_le _))
  | with_reducible refine And.intro ?_ ?_
  | assumption
  | exact True.intro
  | omega
  | (dsimp only; omega)
  | (simp only [List.length_set,List.length_append,List.length_cons,List.length_nil,List.length_replicate]; omega)
  | (obtain ⟨_,_⟩:=‹_ ∧ _›)
theorem Zvk (x : Z0j) (l : List Z0d) (hp : Z16 x.f_P) (hl : ∀ v ∈ l,Str v.Z1g.Z05) (hn : l.length * 56 ≤ 140737488355328) : Ok (Zcc x l) (fun r=>Z16 r.1.f_P ∧ (∀ v ∈ r.2,Str v.Z1g.Z05) ∧ r.2.length = l.length):=by
 unfold Zcc
 repeat' first
  | with_reducible refine bd (L106x1 _ _ _ (by first | assumption | omega | exact And.left (by assumption) | (dsimp only; omega)) (by first | assumption | omega | exact And.left (by assumption) | (dsimp only; omega)) (by first | assumption | omega | exact And.left (by assumption) | (dsimp only; omega))) fun _ _=>?_
  | with_reducible refine ok ?_
  | with_reducible refine And.intro ?_ ?_
  | assumption
  | exact True.intro
  | omega
  | (dsimp only; omega)
  | (simp only [List.length_set,List.length_append,List.length_cons,List.length_nil,List.length_replicate]; omega)
  | (obtain ⟨_,_⟩:=‹_ ∧ _›)
theorem L78x1 (p : List Z00) (e : Int) (c : Z06) (hp : Z16 p) (hc : Z4m c) : Ok (Z0a (Zj5 c) Z0e (0,p,e,([] : List Z01))) (fun q=>Z16 q.1 ∧ (∀ v ∈ q.2.2,Z2m v) ∧ q.2.2.length = c.Z0k.length):=by
 have:=hc.insL
 refine lp (fun t=>t.1) (c.Z0k.length) (fun t=>Z16 t.2.1 ∧ (∀ v ∈ t.2.2.2,Z2m v) ∧ (t.2.2.2.length : Int) = t.1) (fun t hI _ _=>?_) (by omega) (by exact ⟨hp,Z3u,rfl⟩) (by omega) (by omega)
 try dsimp only at *
 unfold Zj5
 obtain ⟨hI1,hI2,hI3⟩:=hI
 repeat' first
  | with_reducible refine nx ?_ ?_ ?_
  | with_reducible refine dn ?_
  | with_reducible refine brD (fun _=>?_) fun _=>?_
  | with_reducible refine br (fun _=>?_) fun _=>?_
  | with_reducible refine bd (gr (by omega) (by omega)) fun _ _=>?_
  | with_reducible refine bd (wr (by omega) (by omega)) fun _ _=>?_
  | with_reducible refine bd (gk (by simp only [List.length_append,List.length_cons,List.length_nil]; omega) (by simp only [List.length_append,List.length_cons,List.length_nil]; omega)) fun _ _=>?_
  | with_reducible refine bd (Zwr _ _ (by first | assumption | exact hc.ins _ (by assumption)) (by first | assumption | exact hc.ins _ (by assumption))) fun _ _=>?_
  | with_reducible refine bs ?_
  | (exact Z5l hI2 (And.right (by assumption)))
  | with_reducible refine And.intro ?_ ?_
  | assumption
  | exact True.intro
  | omega
  | (dsimp only; omega)
  | (simp only [List.length_set,List.length_append,List.length_cons,List.length_nil,List.length_replicate]; omega)
  | (obtain ⟨_,_⟩:=‹_ ∧ _›)
theorem L78x2 (p : List Z00) (e : Int) (c : Z06) (hp : Z16 p) (hc : Z4m c) : Ok (Z0a (Zhj c) Z0e (0,p,e,([] : List Z0g))) (fun q=>Z16 q.1 ∧ (∀ v ∈ q.2.2,v.Z1g = []) ∧ q.2.2.length = c.Z1f.length):=by
 have:=hc.hndL
 refine lp (fun t=>t.1) (c.Z1f.length) (fun t=>Z16 t.2.1 ∧ (∀ v ∈ t.2.2.2,v.Z1g = []) ∧ (t.2.2.2.length : Int) = t.1) (fun t hI _ _=>?_) (by omega) (by exact ⟨hp,Z3u,rfl⟩) (by omega) (by omega)
 try dsimp only at *
 unfold Zhj
 obtain ⟨hI1,hI2,hI3⟩:=hI
 repeat' first
  | with_reducible refine nx ?_ ?_ ?_
  | with_reducible refine dn ?_
  | unfold Zg2
  | with_reducible refine brD (fun _=>?_) fun _=>?_
  | with_reducible refine br! (fun _=>?_) fun _=>?_
  | with_reducible refine br (fun _=>?_) fun _=>?_
  | with_reducible refine bd (gr (by omega) (by omega)) fun _ _=>?_
  | with_reducible refine bd (wr (by omega) (by omega)) fun _ _=>?_
  | with_reducible refine bd (gk (by simp only [List.length_append,List.length_cons,List.length_nil]; omega) (by simp only [List.length_append,List.length_cons,List.length_nil]; omega)) fun _ _=>?_
  | with_reducible refine bd (Zcr _ _ (by first | assumption | exact hc.hnd _ (by assumption)) (by first | assumption | exact hc.hnd _ (by assumption))) fun _ _=>?_
  | with_reducible refine bs ?_
  | (exact Z5l hI2 rfl)
  | with_reducible refine And.intro ?_ ?_
  | assumption
  | exact True.intro
  | omega
  | (dsimp only; omega)
  | (simp only [List.length_set,List.length_append,List.length_cons,List.length_nil,List.length_replicate]; omega)
  | (obtain ⟨_,_⟩:=‹_ ∧ _›)
theorem Z95.of {m : Z0i} (h : Z95 m.Z1h) {l k : List Z0d} {b : Bool} (h1 : ∀ v ∈ l,Str v.Z1g.Z05) (h2 : l.length = m.Z1h.Z0n.length) (h3 : ∀ v ∈ k,Str v.Z1g.Z05) (h4 : k.length = m.Z1h.Z0q.length) :
  Z95 { Z0n:=l,Z0q:=k,Z4d:=b }:=⟨h1,by have:=h.locL; dsimp only; omega,h3,by have:=h.stkL; dsimp only; omega⟩
theorem L78x3 (p : List Z00) (e : Int) (c : Z06) (hp : Z16 p) (hc : Z4m c) : Ok (Z0a (Zet c) Z0e (0,p,e,([] : List Z0i))) (fun q=>Z16 q.1 ∧ (∀ v ∈ q.2.2,Z95 v.Z1h) ∧ q.2.2.length = c.Z0z.length):=by
 have:=hc.mapL
 refine lp (fun t=>t.1) (c.Z0z.length) (fun t=>Z16 t.2.1 ∧ (∀ v ∈ t.2.2.2,Z95 v.Z1h) ∧ (t.2.2.2.length : Int) = t.1) (fun t hI _ _=>?_) (by omega) ⟨hp,Z3u,rfl⟩ (by omega) (by omega)
 obtain ⟨hI1,hI2,hI3⟩:=hI
 unfold Zet
 refine brD (fun hlt=>?_) fun _=>dn ⟨hI1,hI2,by dsimp only; omega⟩
 obtain ⟨y,hy,hm⟩:=gr (l:=c.Z0z) (i:=t.1) (by omega) hlt
 simp only [hy]
 refine bs (bs (bd (Zvk _ _ hI1 (hc.map _ hm).loc (hc.map _ hm).locL) fun v1 h1=>bd (Zvk _ _ h1.1 (hc.map _ hm).stk (hc.map _ hm).stkL) fun v2 h2=>?_))
 refine bd (gk (by simp only [List.length_append,List.length_cons,List.length_nil]; omega) (by simp only [List.length_append,List.length_cons,List.length_nil]; omega)) fun _ _=>bd (wr (by omega) (by omega)) fun _ _=>?_
 exact nx ⟨h2.1,Z5l hI2 ((hc.map _ hm).of h1.2.1 h1.2.2 h2.2.1 h2.2.2),by simp only [List.length_append,List.length_cons,List.length_nil]; omega⟩ (by dsimp only; omega) (by dsimp only; omega)
theorem Y0z (x : Z0j) (c : Z06) (hp : Z16 x.f_P) (hc : Z4m c) : Ok (Zgl x c) (fun r=>Z16 r.1.f_P ∧ Z4m r.2):=by
 unfold Zgl
 refine bd (L78x1 _ _ _ hp hc) fun q0 h0=>bd (L78x2 _ _ _ h0.1 hc) fun q2 h2=>bd (L78x3 _ _ _ h2.1 hc) fun q4 h4=>ok ⟨h4.1,h0.2.1,?_,fun v hv=>?_,?_,h4.2.1,?_,hc.linL⟩
 ·have:=hc.insL; have:=h0.2.2; dsimp only; omega
 ·rw [h2.2.1 v hv]; simp
 ·have:=hc.hndL; have:=h2.2.2; dsimp only; omega
 ·have:=hc.mapL; have:=h4.2.2; dsimp only; omega
theorem L58x2 (p : List Z00) (e : Int) (m : Z2f) (hp : Z16 p) (hm : Z9h m) : Ok (Z0a (Zg3 m) Z0e (0,p,e,([] : List Int))) (fun q=>Z16 q.1 ∧ q.2.2.length ≤ 140737488355328):=by
 have:=hm.excL
 refine lp (fun t=>t.1) (m.Z64.length) (fun t=>Z16 t.2.1 ∧ (t.2.2.2.length : Int) = t.1) (fun t hI _ _=>?_) (by omega) (by exact ⟨hp,rfl⟩) (by omega) (by omega)
 try dsimp only at *
 unfold Zg3
 obtain ⟨hI1,hI3⟩:=hI
 repeat' first
  | with_reducible refine nx ?_ ?_ ?_
  | with_reducible refine dn ?_
  | with_reducible refine brD (fun _=>?_) fun _=>?_
  | with_reducible refine br (fun _=>?_) fun _=>?_
  | with_reducible refine bd (gr (by omega) (by omega)) fun _ _=>?_
  | with_reducible refine bd (wr (by omega) (by omega)) fun _ _=>?_
  | with_reducible refine bd (gk (by simp only [List.length_append,List.length_cons,List.length_nil]; omega) (by simp only [List.length_append,List.length_cons,List.length_nil]; omega)) fun _ _=>?_
  | with_reducible refine bd (Zcr _ _ (by first | assumption | exact hm.exc _ (by assumption)) (by first | assumption | exact hm.exc _ (by assumption))) fun _ _=>?_
  | with_reducible refine bs ?_
  | with_reducible refine And.intro ?_ ?_
  | assumption
  | exact True.intro
  | omega
  | (dsimp only; omega)
  | (simp only [List.length_set,List.length_append,List.length_cons,List.length_nil,List.length_replicate]; omega)
  | (obtain ⟨_,_⟩:=‹_ ∧ _›)
structure Zba (n : Int) (ms : List Z08) (cs : List Z06) (ts : List (List Int)) (ns : List Z1p) : Prop where
 m : (ms.length : Int) = n
 c : (cs.length : Int) = n
 t : (ts.length : Int) = n
 s : (ns.length : Int) = n
 code : ∀ v ∈ cs,Z4m v
 att : ∀ m ∈ ms,m.Z18 = []
 thr : ∀ l ∈ ts,l.length ≤ 140737488355328
theorem Zba.snoc {n k : Int} {ms : List Z08} {cs : List Z06} {ts : List (List Int)} {ns : List Z1p} (h : Zba n ms cs ts ns) {m : Z08} {c : Z06} {l : List Int} {s : Z1p} (ha : m.Z18 = []) (hc : Z4m c) (hl : l.length ≤ 140737488355328) (hk : k = n + 1) :
  Zba k (ms ++ [m]) (cs ++ [c]) (ts ++ [l]) (ns ++ [s]):=by
 obtain ⟨h1,h2,h3,h4,h5,h6,h7⟩:=h
 refine ⟨?_,?_,?_,?_,Z5l h5 hc,Z5l h6 ha,Z5l h7 hl⟩ <;> simp only [List.length_append,List.length_cons,List.length_nil] <;> omega
theorem WCode0 : Z4m { Z0q:=0,Z0n:=0,Z0k:=[],Z1f:=[],Z0z:=[],Z1a:=[] }:=⟨Z3u,by simp,Z3u,by simp,Z3u,by simp,by simp⟩
abbrev S58:=Int × (List Z00) × Int × (List Z08) × (List Z06) × (List (List Int)) × (List Z1p)
def I58 (t : S58) : Prop:=Z16 t.2.1 ∧ Zba t.1 t.2.2.2.1 t.2.2.2.2.1 t.2.2.2.2.2.1 t.2.2.2.2.2.2
def Q58 (n : Int) (q : (List Z00) × Int × (List Z08) × (List Z06) × (List (List Int)) × (List Z1p)) : Prop:=Z16 q.1 ∧ Zba n q.2.2.1 q.2.2.2.1 q.2.2.2.2.1 q.2.2.2.2.2
theorem K58x2 {n : Int} {p26 p27 p28 : Int} {p29 : List Z01} {p30 : List Z0g} {p31 : List Z0i} {p32 : List Z0r} {t0 : S58} {v34 : Z2f} {v35 v36 : Z0j × Int} {p33 : List Z00} {p34 p35 : Int}
  (hI : I58 t0) (hp : Z16 p33) (hm : Z9h v34) (hc : Z4m { Z0q:=p27,Z0n:=p28,Z0k:=p29,Z1f:=p30,Z0z:=p31,Z1a:=p32 }) (h0 : 0 ≤ t0.1) (h1 : t0.1 < n) (hn : n * 184 ≤ 140737488355328) :
  Ok (Zcd p26 p27 p28 p29 p30 p31 p32 t0 v34 v35 v36 p33 p34 p35) (St I58 (fun t=>t.1) n (Q58 n) t0):=by
 unfold Zcd
 have:=hI.2.m; have:=hI.2.c; have:=hI.2.t; have:=hI.2.s
 refine bd (L58x2 _ _ _ hp hm) fun q4 h4=>?_
 refine bd (gk (by simp only [List.length_append,List.length_cons,List.length_nil]; omega) (by simp only [List.length_append,List.length_cons,List.length_nil]; omega)) fun _ _=>?_
 refine bd (gk (by simp only [List.length_append,List.length_cons,List.length_nil]; omega) (by simp only [List.length_append,List.length_cons,List.length_nil]; omega)) fun _ _=>?_
 refine bd (gk (by simp only [List.length_append,List.length_cons,List.length_nil]; omega) (by simp only [List.length_append,List.length_cons,List.length_nil]; omega)) fun _ _=>?_
 refine bd (gk (by simp only [List.length_append,List.length_cons,List.length_nil]; omega) (by simp only [List.length_append,List.length_cons,List.length_nil]; omega)) fun _ _=>?_
 refine bd (wr (by omega) (by omega)) fun _ hv=>?_
 exact nx ⟨h4.1,hI.2.snoc rfl hc h4.2 hv⟩ (by dsimp only; omega) (by dsimp only; omega)
theorem K58x1 {n : Int} {t0 : S58} {v34 : Z2f} {v35 v36 : Z0j × Int} {p24 : List Z00} {p25 p26 p27 p28 : Int} {p29 : List Z01} {p30 : List Z0g} {p31 : List Z0i} {p32 : List Z0r}
  (hI : I58 t0) (hp : Z16 p24) (hm : Z9h v34) (hc : Z4m { Z0q:=p27,Z0n:=p28,Z0k:=p29,Z1f:=p30,Z0z:=p31,Z1a:=p32 }) (h0 : 0 ≤ t0.1) (h1 : t0.1 < n) (hn : n * 184 ≤ 140737488355328) :
  Ok (Zda t0 v34 v35 v36 p24 p25 p26 p27 p28 p29 p30 p31 p32) (St I58 (fun t=>t.1) n (Q58 n) t0):=by
 unfold Zda
 exact brD (fun _=>bd (Z6m _ _ hp (by simp)) fun v hv=>K58x2 hI hv hm hc h0 h1 hn) fun _=>K58x2 hI hp hm hc h0 h1 hn
theorem L58x1 (p : List Z00) (e : Int) (u : Z12) (hp : Z16 p) (hu : Z57 u) : Ok (Z0a (Zih u) Z0e (0,p,e,[],[],[],[])) (Q58 u.Z17.length):=by
 have:=hu.metL
 refine lp (fun t=>t.1) (u.Z17.length) I58 (fun t hI h0 h1=>?_) (by omega) ⟨hp,rfl,rfl,rfl,rfl,Z3u,Z3u,Z3u⟩ (by omega) (by omega)
 unfold Zih
 refine brD (fun hlt => ?_) fun hge => dn ⟨hI.1, by have : t.1 = u.Z17.length:=by omega
                                                    rw [← this]; exact hI.2⟩
 refine bd (gr (by omega) (by omega)) fun m hm=>bd (Z6m _ _ hI.1 (hu.met _ hm).n) fun v1 h1=>bd (Z6m _ _ h1 (hu.met _ hm).d) fun v2 h2=>br (fun _=>?_) fun _=>?_
 ·exact bd (Z6m _ _ h2 (by simp)) fun v3 h3=>bd (Y0z _ _ h3 (hu.met _ hm).code) fun v4 h4=>K58x1 hI h4.1 (hu.met _ hm) h4.2 h0 hlt (by omega)
 ·exact K58x1 hI h2 (hu.met _ hm) WCode0 h0 hlt (by omega)
structure Zb4 (u : Z12) (h : Z1z) : Prop where
 pool : Z16 h.f_F.Z1u
 fam : Zba u.Z17.length h.f_F.Z17 h.Z7o h.Z7e h.Z6b
 ifsL : h.f_F.Z13.length = u.Z13.length
 fldL : h.f_F.Z19.length = u.Z19.length
 fld : ∀ m ∈ h.f_F.Z19,m.Z18.length ≤ 1 ∧ ∀ a ∈ m.Z18,Str a.Z23
 attL : h.f_F.Z18.length ≤ 1
 att : ∀ a ∈ h.f_F.Z18,Str a.Z23
theorem L48x1 (p : List Z00) (e : Int) (u : Z12) (hp : Z16 p) (hu : Z57 u) : Ok (Z0a (Zhx u) Z0e (0,p,e,([] : List Int))) (fun q=>Z16 q.1 ∧ q.2.2.length = u.Z13.length):=by
 have:=hu.ifsL
 refine lp (fun t=>t.1) (u.Z13.length) (fun t=>Z16 t.2.1 ∧ (t.2.2.2.length : Int) = t.1) (fun t hI h0 h1=>?_) (by omega) ⟨hp,rfl⟩ (by omega) (by omega)
 obtain ⟨hI1,hI3⟩:=hI
 unfold Zhx
 refine brD (fun hlt=>?_) fun hge=>dn ⟨hI1,by dsimp only; omega⟩
 refine bd (gr (by omega) (by omega)) fun s hs=>bd (Zcr _ _ hI1 (hu.ifs _ hs)) fun v1 h1=>?_
 refine bd (gk (by simp only [List.length_append,List.length_cons,List.length_nil]; omega) (by simp only [List.length_append,List.length_cons,List.length_nil]; omega)) fun _ _=>bd (wr (by omega) (by omega)) fun _ hv=>?_
 exact nx ⟨h1,by simp only [List.length_append,List.length_cons,List.length_nil]; omega⟩ (by dsimp only; omega) (by dsimp only; omega)
def MAt (m : Z08) : Prop:=m.Z18.length ≤ 1 ∧ ∀ a ∈ m.Z18,Str a.Z23
abbrev S48:=Int × (List Z00) × Int × (List Z08)
def I48 (t : S48) : Prop:=Z16 t.2.1 ∧ (t.2.2.2.length : Int) = t.1 ∧ ∀ m ∈ t.2.2.2,MAt m
theorem K48x2 {u : Z12} (hu : Z57 u) {t1 : S48} {v26 : Z3k} {v27 v28 : Z0j × Int} {p9 : List Z00} {p10 : Int} {p11 : List Z0w} (hI : I48 t1) (hp : Z16 p9) (ha : p11.length ≤ 1 ∧ ∀ a ∈ p11,Str a.Z23) (h0 : 0 ≤ t1.1) (h1 : t1.1 < u.Z19.length) :
  Ok (Zdo t1 v26 v27 v28 p9 p10 p11) (St I48 (fun t=>t.1) u.Z19.length (fun q=>Z16 q.1 ∧ q.2.2.length = u.Z19.length ∧ ∀ m ∈ q.2.2,MAt m) t1):=by
 have:=hu.fldL
 obtain ⟨hI1,hI2,hI3⟩:=hI
 unfold Zdo
 refine bd (gk (by simp only [List.length_append,List.length_cons,List.length_nil]; omega) (by simp only [List.length_append,List.length_cons,List.length_nil]; omega)) fun _ _=>bd (wr (by omega) (by omega)) fun _ hv=>?_
 exact nx ⟨hp,by simp only [List.length_append,List.length_cons,List.length_nil]; omega,Z5l hI3 ha⟩ (by dsimp only; omega) (by dsimp only; omega)
theorem L48x2 (p : List Z00) (e : Int) (u : Z12) (hp : Z16 p) (hu : Z57 u) : Ok (Z0a (Zgw u) Z0e (0,p,e,([] : List Z08))) (fun q=>Z16 q.1 ∧ q.2.2.length = u.Z19.length ∧ ∀ m ∈ q.2.2,MAt m):=by
 have:=hu.fldL
 refine lp (fun t=>t.1) (u.Z19.length) I48 (fun t hI h0 h1=>?_) (by omega) ⟨hp,rfl,Z3u⟩ (by omega) (by omega)
 unfold Zgw
 refine brD (fun hlt=>?_) fun hge=>dn ⟨hI.1,by have:=hI.2.1; dsimp only; omega,hI.2.2⟩
 refine bd (gr (by omega) (by omega)) fun f hf=>bd (Z6m _ _ hI.1 (hu.fld _ hf).n) fun v1 h1=>bd (Z6m _ _ h1 (hu.fld _ hf).d) fun v2 h2=>brN (fun _=>?_) fun _=>?_
 ·exact bd (Z6m _ _ h2 (by simp)) fun v3 h3=>bd (Zzg _ _ h3 (hu.fld _ hf)) fun v4 h4=>bd (Zq0 _) fun v5 h5=>K48x2 hu hI h4 ⟨by simp,fun a ha=>by rw [List.mem_singleton.1 ha]; show v5.length ≤ _; omega⟩ h0 hlt
 ·exact K48x2 hu hI h2 ⟨by simp,Z3u⟩ h0 hlt
theorem Zzv (x : Z0j) (u : Z12) (h : Z1z) (hp : Z16 x.f_P) (hu : Z57 u) (hi : h.f_F.Z13.length = u.Z13.length) (hf : h.f_F.Z19.length = u.Z19.length) (hm : ∀ m ∈ h.f_F.Z19,MAt m) :
  Ok (Zi0 x u h) (fun r=>Z16 r.1.f_P ∧ Zb4 u r.2):=by
 unfold Zi0
 exact bd (L58x1 _ _ _ hp hu) fun q hq=>ok ⟨hq.1,Z16.nil,hq.2,hi,hf,hm,by simp,Z3u⟩
theorem K48x3 {u : Z12} {v34 : Z0j × Z1z} (hw : Zb4 u v34.2) {p12 : List Z00} {p13 : Int} {p14 : List Z0w} (hp : Z16 p12) (ha : p14.length ≤ 1 ∧ ∀ a ∈ p14,Str a.Z23) : Ok (Ze4 v34 p12 p13 p14) (fun r=>Z16 r.1.f_P ∧ Zb4 u r.2):=by
 unfold Ze4
 exact ok ⟨hp,hp,hw.fam,hw.ifsL,hw.fldL,hw.fld,ha.1,ha.2⟩
theorem K48x1 {u : Z12} (hu : Z57 u) {v0 : Z0j × Int} {p0 : List Z00} {p1 p2 : Int} (hp : Z16 p0) : Ok (Zdg v0 u p0 p1 p2) (fun r=>Z16 r.1.f_P ∧ Zb4 u r.2):=by
 unfold Zdg
 refine bd (L48x1 _ _ _ hp hu) fun q0 h0=>bd (L48x2 _ _ _ h0.1 hu) fun q2 h2=>bd (Zzv _ _ _ h2.1 hu ?_ ?_ h2.2.2) fun v34 hv=>br (fun _=>?_) fun _=>K48x3 hv.2 hv.1 ⟨hv.2.attL,hv.2.att⟩
 ·exact h0.2
 ·exact h2.2.1
 ·exact bd (Z6m _ _ hv.1 (by simp)) fun v1 h1=>bd (Z6m _ _ h1 hu.src) fun v2 h2=>bd (Zq0 _) fun v5 h5=>K48x3 hv.2 h2 ⟨by simp,fun a ha=>by rw [List.mem_singleton.1 ha]; show v5.length ≤ _; omega⟩
theorem Zxs (x : Z0j) (u : Z12) (hp : Z16 x.f_P) (hu : Z57 u) : Ok (Zjg x u) (fun r=>Zb4 u r.2):=by
 unfold Zjg
 refine (bd (Zcr _ _ hp hu.n) fun v0 h0=>br (fun _=>bd (Zcr _ _ h0 hu.sup) fun v1 h1=>K48x1 hu h1) fun _=>K48x1 hu h0 : Ok _ (fun r : Z0j × Z1z=>Z16 r.1.f_P ∧ Zb4 u r.2)).mono fun r hr=>hr.2
end Go.Proofs
