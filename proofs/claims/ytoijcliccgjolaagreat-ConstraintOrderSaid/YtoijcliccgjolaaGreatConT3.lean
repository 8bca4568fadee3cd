/-
  That the models come to an answer, part three: a model becomes half a file. No condition.
-/
import Derived.Test.YtoijcliccgjolaaGreatConT2
import Derived.Test.YtoijcliccgjolaaGreatConT4
set_option linter.unusedVariables false
namespace Go.Proofs
open Go.Den Go.Tot
theorem runeLen (n : Int) : (Zny n).length ≤ 4:=by
 unfold Zny Utf8.encode
 dsimp only
 repeat' split
 all_goals simp [ByteArray.push]
theorem Zts (y : Z0m) (ht : Str y.Z03) : Ok (Zdk y) (fun b=>b = true → 0 ≤ y.Z1u ∧ y.Z1u ≤ 8 ∧ y.Z03.length ≤ 64):=by
 unfold Zdk
 repeat' first
  | unfold Znh
  | unfold Zlw
  | unfold Zon
  | with_reducible refine brD (fun _=>?_) fun _=>?_
  | with_reducible refine brE (fun _=>?_) fun _=>?_
  | with_reducible refine br (fun _=>?_) fun _=>?_
  | with_reducible refine bd (Zh1 _ (by first | assumption | omega | exact And.left (by assumption) | (dsimp only; omega))) fun _ _=>?_
  | with_reducible refine bs ?_
  | with_reducible refine ok ?_
  | ((intro hb; first | (cases hb; done) | exact ⟨by omega,by omega,by simp_all⟩))
  | with_reducible refine And.intro ?_ ?_
  | assumption
  | exact True.intro
  | omega
  | (dsimp only; omega)
  | (simp only [List.length_set,List.length_append,List.length_cons,List.length_nil,List.length_replicate]; omega)
  | (obtain ⟨_,_⟩:=‹_ ∧ _›)
theorem L136x1 (y : Z0m) (h0 : 0 ≤ y.Z1u) (h8 : y.Z1u ≤ 8) : Ok (Z0b (Zk7 y) Z0c ([],0)) (fun r=>r.length ≤ 8):=by
 refine lp (fun s=>s.2) (y.Z1u) (fun s=>(s.1.length : Int) = s.2) (fun t hI _ _=>?_) (by omega) (by simp) (by omega) (by omega)
 try dsimp only at *
 unfold Zk7
 repeat' first
  | with_reducible refine nx ?_ ?_ ?_
  | with_reducible refine dn ?_
  | with_reducible refine brD (fun _=>?_) fun _=>?_
  | with_reducible refine br (fun _=>?_) fun _=>?_
  | with_reducible refine bd (wr (by omega) (by omega)) fun _ _=>?_
  | with_reducible refine bd (ct (by first | omega | (simp only [List.length_cons,List.length_nil]; omega))) fun _ _=>?_
  | with_reducible refine bs ?_
  | ((simp only [*,List.length_append,List.length_cons,List.length_nil]; omega))
  | with_reducible refine And.intro ?_ ?_
  | assumption
  | exact True.intro
  | omega
  | (dsimp only; omega)
  | (simp only [List.length_set,List.length_append,List.length_cons,List.length_nil,List.length_replicate]; omega)
  | (obtain ⟨_,_⟩:=‹_ ∧ _›)
theorem Zxp (y : Z0m) (ht : Str y.Z03) : Ok (Zg9 y) (fun r=>r.1.length ≤ 100):=by
 have:=runeLen (IntKind.wrap .i32 y.Z1o)
 unfold Zg9
 repeat' first
  | with_reducible refine bd (Zts _ ht) fun _ hv=>?_
  | with_reducible refine br! (fun _=>?_) fun hb=>?_
  | with_reducible refine bd (L136x1 _ (hv hb).1 (hv hb).2.1) fun _ _=>?_
  | with_reducible refine br! (fun _=>?_) fun _=>?_
  | with_reducible refine brE (fun _=>?_) fun _=>?_
  | with_reducible refine br (fun _=>?_) fun _=>?_
  | with_reducible refine bd (ct (by have:=(hv hb).2.2; first | omega | (simp only [List.length_cons,List.length_nil]; omega))) fun _ _=>?_
  | with_reducible refine bs ?_
  | with_reducible refine ok ?_
  | (first | (simp; done) | (dsimp only; have:=(hv hb).2.2; simp only [List.length_cons,List.length_nil] at *; omega))
  | with_reducible refine And.intro ?_ ?_
  | assumption
  | exact True.intro
  | omega
  | (dsimp only; omega)
  | (simp only [List.length_set,List.length_append,List.length_cons,List.length_nil,List.length_replicate]; omega)
  | (obtain ⟨_,_⟩:=‹_ ∧ _›)
theorem L106x1 (p : List Z00) (e : Int) (l : List Z0d) (hp : Z19 p) (hl : ∀ v ∈ l,Str v.Z1j.Z03) (hn : l.length * 56 ≤ 140737488355328) : Ok (Z0b (Zhw l) Z0c (0,p,e,([] : List Z0d))) (fun q=>Z19 q.1 ∧ (∀ v ∈ q.2.2,Str v.Z1j.Z03) ∧ q.2.2.length = l.length):=by
 refine lp (fun t=>t.1) (l.length) (fun t=>Z19 t.2.1 ∧ (∀ v ∈ t.2.2.2,Str v.Z1j.Z03) ∧ (t.2.2.2.length : Int) = t.1) (fun t hI _ _=>?_) (by omega) (by exact ⟨hp,Z3y,rfl⟩) (by omega) (by omega)
 try dsimp only at *
 unfold Zhw
 obtain ⟨hI1,hI2,hI3⟩:=hI
 repeat' first
  | with_reducible refine nx ?_ ?_ ?_
  | with_reducible refine dn ?_
  | unfold Zek
  | unfold Z9t
  | with_reducible refine brD (fun _=>?_) fun _=>?_
  | with_reducible refine brE (fun _=>?_) fun _=>?_
  | with_reducible refine br (fun _=>?_) fun _=>?_
  | with_reducible refine bd (gr (by omega) (by omega)) fun _ _=>?_
  | with_reducible refine bd (wr (by omega) (by omega)) fun _ _=>?_
  | with_reducible refine bd (gk (by simp only [List.length_append,List.length_cons,List.length_nil]; omega) (by simp only [List.length_append,List.length_cons,List.length_nil]; omega)) fun _ _=>?_
  | with_reducible refine bd (Zxp _ (by exact hl _ (by assumption))) fun _ _=>?_
  | with_reducible refine bd (Z6r _ _ (by first | assumption | omega) (by first | assumption | omega)) fun _ _=>?_
  | with_reducible refine bs ?_
  | (first | exact Z5v hI2 (by first | exact hl _ (by assumption) | exact Nat.zero_le _))
  | with_reducible refine And.intro ?_ ?_
  | assumption
  | exact True.intro
  | omega
  | (dsimp only; omega)
  | (simp only [List.length_set,List.length_append,List.length_cons,List.length_nil,List.length_replicate]; omega)
  | (obtain ⟨_,_⟩:=‹_ ∧ _›)
theorem Zu0 (x : Z0k) (l : List Z0d) (hp : Z19 x.f_P) (hl : ∀ v ∈ l,Str v.Z1j.Z03) (hn : l.length * 56 ≤ 140737488355328) : Ok (Ze6 x l) (fun r=>Z19 r.1.f_P ∧ (∀ v ∈ r.2,Str v.Z1j.Z03) ∧ r.2.length = l.length):=by
 unfold Ze6
 repeat' first
  | with_reducible refine bd (L106x1 _ _ _ (by first | assumption | omega | exact And.left (by assumption) | (dsimp only; omega)) (by first | assumption | omega | exact And.left (by assumption) | (dsimp only; omega)) (by first | assumption | omega | exact And.left (by assumption) | (dsimp only; omega))) fun _ _=>?_
  | with_reducible refine ok ?_
  | with_reducible refine And.intro ?_ ?_
  | assumption
  | exact True.intro
  | omega
  | (dsimp only; omega)
  | (simp only [List.length_set,List.length_append,List.length_cons,List.length_nil,List.length_replicate]; omega)
  | (obtain ⟨_,_⟩:=‹_ ∧ _›)
theorem L78x1 (p : List Z00) (e : Int) (c : Z06) (hp : Z19 p) (hc : Z4r c) : Ok (Z0b (Ziq c) Z0c (0,p,e,([] : List Z01))) (fun q=>Z19 q.1 ∧ (∀ v ∈ q.2.2,Z2n v) ∧ q.2.2.length = c.Z0l.length):=by
 have:=hc.insL
 refine lp (fun t=>t.1) (c.Z0l.length) (fun t=>Z19 t.2.1 ∧ (∀ v ∈ t.2.2.2,Z2n v) ∧ (t.2.2.2.length : Int) = t.1) (fun t hI _ _=>?_) (by omega) (by exact ⟨hp,Z3y,rfl⟩) (by omega) (by omega)
 try dsimp only at *
 unfold Ziq
 obtain ⟨hI1,hI2,hI3⟩:=hI
 repeat' first
  | with_reducible refine nx ?_ ?_ ?_
  | with_reducible refine dn ?_
  | with_reducible refine brD (fun _=>?_) fun _=>?_
  | with_reducible refine br (fun _=>?_) fun _=>?_
  | with_reducible refine bd (gr (by omega) (by omega)) fun _ _=>?_
  | with_reducible refine bd (wr (by omega) (by omega)) fun _ _=>?_
  | with_reducible refine bd (gk (by simp only [List.length_append,List.length_cons,List.length_nil]; omega) (by simp only [List.length_append,List.length_cons,List.length_nil]; omega)) fun _ _=>?_
  | with_reducible refine bd (Zy0 _ _ (by first | assumption | exact hc.ins _ (by assumption)) (by first | assumption | exact hc.ins _ (by assumption))) fun _ _=>?_
  | with_reducible refine bs ?_
  | (exact Z5v hI2 (And.right (by assumption)))
  | with_reducible refine And.intro ?_ ?_
  | assumption
  | exact True.intro
  | omega
  | (dsimp only; omega)
  | (simp only [List.length_set,List.length_append,List.length_cons,List.length_nil,List.length_replicate]; omega)
  | (obtain ⟨_,_⟩:=‹_ ∧ _›)
theorem L78x2 (p : List Z00) (e : Int) (c : Z06) (hp : Z19 p) (hc : Z4r c) : Ok (Z0b (Zkf c) Z0c (0,p,e,([] : List Z0g))) (fun q=>Z19 q.1 ∧ (∀ v ∈ q.2.2,v.Z1j = []) ∧ q.2.2.length = c.Z1i.length):=by
 have:=hc.hndL
 refine lp (fun t=>t.1) (c.Z1i.length) (fun t=>Z19 t.2.1 ∧ (∀ v ∈ t.2.2.2,v.Z1j = []) ∧ (t.2.2.2.length : Int) = t.1) (fun t hI _ _=>?_) (by omega) (by exact ⟨hp,Z3y,rfl⟩) (by omega) (by omega)
 try dsimp only at *
 unfold Zkf
 obtain ⟨hI1,hI2,hI3⟩:=hI
 repeat' first
  | with_reducible refine nx ?_ ?_ ?_
  | with_reducible refine dn ?_
  | unfold Zh9
  | with_reducible refine brD (fun _=>?_) fun _=>?_
  | with_reducible refine br! (fun _=>?_) fun _=>?_
  | with_reducible refine br (fun _=>?_) fun _=>?_
  | with_reducible refine bd (gr (by omega) (by omega)) fun _ _=>?_
  | with_reducible refine bd (wr (by omega) (by omega)) fun _ _=>?_
  | with_reducible refine bd (gk (by simp only [List.length_append,List.length_cons,List.length_nil]; omega) (by simp only [List.length_append,List.length_cons,List.length_nil]; omega)) fun _ _=>?_
  | with_reducible refine bd (Zct _ _ (by first | assumption | exact hc.hnd _ (by assumption)) (by first | assumption | exact hc.hnd _ (by assumption))) fun _ _=>?_
  | with_reducible refine bs ?_
  | (exact Z5v hI2 rfl)
  | with_reducible refine And.intro ?_ ?_
  | assumption
  | exact True.intro
  | omega
  | (dsimp only; omega)
  | (simp only [List.length_set,List.length_append,List.length_cons,List.length_nil,List.length_replicate]; omega)
  | (obtain ⟨_,_⟩:=‹_ ∧ _›)
theorem Z96.of {m : Z0i} (h : Z96 m.Z1k) {l k : List Z0d} {b : Bool} (h1 : ∀ v ∈ l,Str v.Z1j.Z03) (h2 : l.length = m.Z1k.Z0o.length) (h3 : ∀ v ∈ k,Str v.Z1j.Z03) (h4 : k.length = m.Z1k.Z0r.length) :
  Z96 { Z0o:=l,Z0r:=k,Z4c:=b }:=⟨h1,by have:=h.locL; dsimp only; omega,h3,by have:=h.stkL; dsimp only; omega⟩
theorem L78x3 (p : List Z00) (e : Int) (c : Z06) (hp : Z19 p) (hc : Z4r c) : Ok (Z0b (Zhg c) Z0c (0,p,e,([] : List Z0i))) (fun q=>Z19 q.1 ∧ (∀ v ∈ q.2.2,Z96 v.Z1k) ∧ q.2.2.length = c.Z12.length):=by
 have:=hc.mapL
 refine lp (fun t=>t.1) (c.Z12.length) (fun t=>Z19 t.2.1 ∧ (∀ v ∈ t.2.2.2,Z96 v.Z1k) ∧ (t.2.2.2.length : Int) = t.1) (fun t hI _ _=>?_) (by omega) ⟨hp,Z3y,rfl⟩ (by omega) (by omega)
 obtain ⟨hI1,hI2,hI3⟩:=hI
 unfold Zhg
 refine brD (fun hlt=>?_) fun _=>dn ⟨hI1,hI2,by dsimp only; omega⟩
 obtain ⟨y,hy,hm⟩:=gr (l:=c.Z12) (i:=t.1) (by omega) hlt
 simp only [hy]
 refine bs (bs (bd (Zu0 _ _ hI1 (hc.map _ hm).loc (hc.map _ hm).locL) fun v1 h1=>bd (Zu0 _ _ h1.1 (hc.map _ hm).stk (hc.map _ hm).stkL) fun v2 h2=>?_))
 refine bd (gk (by simp only [List.length_append,List.length_cons,List.length_nil]; omega) (by simp only [List.length_append,List.length_cons,List.length_nil]; omega)) fun _ _=>bd (wr (by omega) (by omega)) fun _ _=>?_
 exact nx ⟨h2.1,Z5v hI2 ((hc.map _ hm).of h1.2.1 h1.2.2 h2.2.1 h2.2.2),by simp only [List.length_append,List.length_cons,List.length_nil]; omega⟩ (by dsimp only; omega) (by dsimp only; omega)
theorem Zyj (x : Z0k) (c : Z06) (hp : Z19 x.f_P) (hc : Z4r c) : Ok (Zjd x c) (fun r=>Z19 r.1.f_P ∧ Z4r r.2):=by
 unfold Zjd
 refine bd (L78x1 _ _ _ hp hc) fun q0 h0=>bd (L78x2 _ _ _ h0.1 hc) fun q2 h2=>bd (L78x3 _ _ _ h2.1 hc) fun q4 h4=>ok ⟨h4.1,h0.2.1,?_,fun v hv=>?_,?_,h4.2.1,?_,hc.linL⟩
 ·have:=hc.insL; have:=h0.2.2; dsimp only; omega
 ·rw [h2.2.1 v hv]; simp
 ·have:=hc.hndL; have:=h2.2.2; dsimp only; omega
 ·have:=hc.mapL; have:=h4.2.2; dsimp only; omega
theorem L58x2 (p : List Z00) (e : Int) (m : Z2i) (hp : Z19 p) (hm : Z97 m) : Ok (Z0b (Zhm m) Z0c (0,p,e,([] : List Int))) (fun q=>Z19 q.1 ∧ q.2.2.length ≤ 140737488355328):=by
 have:=hm.excL
 refine lp (fun t=>t.1) (m.Z6b.length) (fun t=>Z19 t.2.1 ∧ (t.2.2.2.length : Int) = t.1) (fun t hI _ _=>?_) (by omega) (by exact ⟨hp,rfl⟩) (by omega) (by omega)
 try dsimp only at *
 unfold Zhm
 obtain ⟨hI1,hI3⟩:=hI
 repeat' first
  | with_reducible refine nx ?_ ?_ ?_
  | with_reducible refine dn ?_
  | with_reducible refine brD (fun _=>?_) fun _=>?_
  | with_reducible refine br (fun _=>?_) fun _=>?_
  | with_reducible refine bd (gr (by omega) (by omega)) fun _ _=>?_
  | with_reducible refine bd (wr (by omega) (by omega)) fun _ _=>?_
  | with_reducible refine bd (gk (by simp only [List.length_append,List.length_cons,List.length_nil]; omega) (by simp only [List.length_append,List.length_cons,List.length_nil]; omega)) fun _ _=>?_
  | with_reducible refine bd (Zct _ _ (by first | assumption | exact hm.exc _ (by assumption)) (by first | assumption | exact hm.exc _ (by assumption))) fun _ _=>?_
  | with_reducible refine bs ?_
  | with_reducible refine And.intro ?_ ?_
  | assumption
  | exact True.intro
  | omega
  | (dsimp only; omega)
  | (simp only [List.length_set,List.length_append,List.length_cons,List.length_nil,List.length_replicate]; omega)
  | (obtain ⟨_,_⟩:=‹_ ∧ _›)
structure Zb4 (n : Int) (ms : List Z0a) (cs : List Z06) (ts : List (List Int)) (ns : List Z1p) : Prop where
 m : (ms.length : Int) = n
 c : (cs.length : Int) = n
 t : (ts.length : Int) = n
 s : (ns.length : Int) = n
 code : ∀ v ∈ cs,Z4r v
 att : ∀ m ∈ ms,m.Z1d = []
 thr : ∀ l ∈ ts,l.length ≤ 140737488355328
theorem Zb4.snoc {n k : Int} {ms : List Z0a} {cs : List Z06} {ts : List (List Int)} {ns : List Z1p} (h : Zb4 n ms cs ts ns) {m : Z0a} {c : Z06} {l : List Int} {s : Z1p} (ha : m.Z1d = []) (hc : Z4r c) (hl : l.length ≤ 140737488355328) (hk : k = n + 1) :
  Zb4 k (ms ++ [m]) (cs ++ [c]) (ts ++ [l]) (ns ++ [s]):=by
 obtain ⟨h1,h2,h3,h4,h5,h6,h7⟩:=h
 refine ⟨?_,?_,?_,?_,Z5v h5 hc,Z5v h6 ha,Z5v h7 hl⟩ <;> simp only [List.length_append,List.length_cons,List.length_nil] <;> omega
theorem WCode0 : Z4r { Z0r:=0,Z0o:=0,Z0l:=[],Z1i:=[],Z12:=[],Z1b:=[] }:=⟨Z3y,by simp,Z3y,by simp,Z3y,by simp,by simp⟩
abbrev S58:=Int × (List Z00) × Int × (List Z0a) × (List Z06) × (List (List Int)) × (List Z1p)
def I58 (t : S58) : Prop:=Z19 t.2.1 ∧ Zb4 t.1 t.2.2.2.1 t.2.2.2.2.1 t.2.2.2.2.2.1 t.2.2.2.2.2.2
def Q58 (n : Int) (q : (List Z00) × Int × (List Z0a) × (List Z06) × (List (List Int)) × (List Z1p)) : Prop:=Z19 q.1 ∧ Zb4 n q.2.2.1 q.2.2.2.1 q.2.2.2.2.1 q.2.2.2.2.2
theorem K58x2 {n : Int} {p26 p27 p28 : Int} {p29 : List Z01} {p30 : List Z0g} {p31 : List Z0i} {p32 : List Z0t} {t0 : S58} {v34 : Z2i} {v35 v36 : Z0k × Int} {p33 : List Z00} {p34 p35 : Int}
  (hI : I58 t0) (hp : Z19 p33) (hm : Z97 v34) (hc : Z4r { Z0r:=p27,Z0o:=p28,Z0l:=p29,Z1i:=p30,Z12:=p31,Z1b:=p32 }) (h0 : 0 ≤ t0.1) (h1 : t0.1 < n) (hn : n * 184 ≤ 140737488355328) :
  Ok (Zcy p26 p27 p28 p29 p30 p31 p32 t0 v34 v35 v36 p33 p34 p35) (St I58 (fun t=>t.1) n (Q58 n) t0):=by
 unfold Zcy
 have:=hI.2.m; have:=hI.2.c; have:=hI.2.t; have:=hI.2.s
 refine bd (L58x2 _ _ _ hp hm) fun q4 h4=>?_
 refine bd (gk (by simp only [List.length_append,List.length_cons,List.length_nil]; omega) (by simp only [List.length_append,List.length_cons,List.length_nil]; omega)) fun _ _=>?_
 refine bd (gk (by simp only [List.length_append,List.length_cons,List.length_nil]; omega) (by simp only [List.length_append,List.length_cons,List.length_nil]; omega)) fun _ _=>?_
 refine bd (gk (by simp only [List.length_append,List.length_cons,List.length_nil]; omega) (by simp only [List.length_append,List.length_cons,List.length_nil]; omega)) fun _ _=>?_
 refine bd (gk (by simp only [List.length_append,List.length_cons,List.length_nil]; omega) (by simp only [List.length_append,List.length_cons,List.length_nil]; omega)) fun _ _=>?_
 refine bd (wr (by omega) (by omega)) fun _ hv=>?_
 exact nx ⟨h4.1,hI.2.snoc rfl hc h4.2 hv⟩ (by dsimp only; omega) (by dsimp only; omega)
theorem K58x1 {n : Int} {t0 : S58} {v34 : Z2i} {v35 v36 : Z0k × Int} {p24 : List Z00} {p25 p26 p27 p28 : Int} {p29 : List Z01} {p30 : List Z0g} {p31 : List Z0i} {p32 : List Z0t}
  (hI : I58 t0) (hp : Z19 p24) (hm : Z97 v34) (hc : Z4r { Z0r:=p27,Z0o:=p28,Z0l:=p29,Z1i:=p30,Z12:=p31,Z1b:=p32 }) (h0 : 0 ≤ t0.1) (h1 : t0.1 < n) (hn : n * 184 ≤ 140737488355328) :
  Ok (Zdo t0 v34 v35 v36 p24 p25 p26 p27 p28 p29 p30 p31 p32) (St I58 (fun t=>t.1) n (Q58 n) t0):=by
 unfold Zdo
 exact brD (fun _=>bd (Z6r _ _ hp (by simp)) fun v hv=>K58x2 hI hv hm hc h0 h1 hn) fun _=>K58x2 hI hp hm hc h0 h1 hn
theorem L58x1 (p : List Z00) (e : Int) (u : Z14) (hp : Z19 p) (hu : Z58 u) : Ok (Z0b (Zfr u) Z0c (0,p,e,[],[],[],[])) (Q58 u.Z18.length):=by
 have:=hu.metL
 refine lp (fun t=>t.1) (u.Z18.length) I58 (fun t hI h0 h1=>?_) (by omega) ⟨hp,rfl,rfl,rfl,rfl,Z3y,Z3y,Z3y⟩ (by omega) (by omega)
 unfold Zfr
 refine brD (fun hlt => ?_) fun hge => dn ⟨hI.1, by have : t.1 = u.Z18.length:=by omega
                                                    rw [← this]; exact hI.2⟩
 refine bd (gr (by omega) (by omega)) fun m hm=>bd (Z6r _ _ hI.1 (hu.met _ hm).n) fun v1 h1=>bd (Z6r _ _ h1 (hu.met _ hm).d) fun v2 h2=>br (fun _=>?_) fun _=>?_
 ·exact bd (Z6r _ _ h2 (by simp)) fun v3 h3=>bd (Zyj _ _ h3 (hu.met _ hm).code) fun v4 h4=>K58x1 hI h4.1 (hu.met _ hm) h4.2 h0 hlt (by omega)
 ·exact K58x1 hI h2 (hu.met _ hm) WCode0 h0 hlt (by omega)
structure Zas (u : Z14) (h : Z20) : Prop where
 pool : Z19 h.f_F.Z1w
 fam : Zb4 u.Z18.length h.f_F.Z18 h.Z7p h.Z7b h.Z6d
 ifsL : h.f_F.Z15.length = u.Z15.length
 fldL : h.f_F.Z1c.length = u.Z1c.length
 fld : ∀ m ∈ h.f_F.Z1c,m.Z1d.length ≤ 1 ∧ ∀ a ∈ m.Z1d,Str a.Z25
 attL : h.f_F.Z1d.length ≤ 1
 att : ∀ a ∈ h.f_F.Z1d,Str a.Z25
theorem L48x1 (p : List Z00) (e : Int) (u : Z14) (hp : Z19 p) (hu : Z58 u) : Ok (Z0b (Zi5 u) Z0c (0,p,e,([] : List Int))) (fun q=>Z19 q.1 ∧ q.2.2.length = u.Z15.length):=by
 have:=hu.ifsL
 refine lp (fun t=>t.1) (u.Z15.length) (fun t=>Z19 t.2.1 ∧ (t.2.2.2.length : Int) = t.1) (fun t hI h0 h1=>?_) (by omega) ⟨hp,rfl⟩ (by omega) (by omega)
 obtain ⟨hI1,hI3⟩:=hI
 unfold Zi5
 refine brD (fun hlt=>?_) fun hge=>dn ⟨hI1,by dsimp only; omega⟩
 refine bd (gr (by omega) (by omega)) fun s hs=>bd (Zct _ _ hI1 (hu.ifs _ hs)) fun v1 h1=>?_
 refine bd (gk (by simp only [List.length_append,List.length_cons,List.length_nil]; omega) (by simp only [List.length_append,List.length_cons,List.length_nil]; omega)) fun _ _=>bd (wr (by omega) (by omega)) fun _ hv=>?_
 exact nx ⟨h1,by simp only [List.length_append,List.length_cons,List.length_nil]; omega⟩ (by dsimp only; omega) (by dsimp only; omega)
def MAt (m : Z0a) : Prop:=m.Z1d.length ≤ 1 ∧ ∀ a ∈ m.Z1d,Str a.Z25
abbrev S48:=Int × (List Z00) × Int × (List Z0a)
def I48 (t : S48) : Prop:=Z19 t.2.1 ∧ (t.2.2.2.length : Int) = t.1 ∧ ∀ m ∈ t.2.2.2,MAt m
theorem K48x2 {u : Z14} (hu : Z58 u) {t1 : S48} {v26 : Z3p} {v27 v28 : Z0k × Int} {p9 : List Z00} {p10 : Int} {p11 : List Z0x} (hI : I48 t1) (hp : Z19 p9) (ha : p11.length ≤ 1 ∧ ∀ a ∈ p11,Str a.Z25) (h0 : 0 ≤ t1.1) (h1 : t1.1 < u.Z1c.length) :
  Ok (Zeb t1 v26 v27 v28 p9 p10 p11) (St I48 (fun t=>t.1) u.Z1c.length (fun q=>Z19 q.1 ∧ q.2.2.length = u.Z1c.length ∧ ∀ m ∈ q.2.2,MAt m) t1):=by
 have:=hu.fldL
 obtain ⟨hI1,hI2,hI3⟩:=hI
 unfold Zeb
 refine bd (gk (by simp only [List.length_append,List.length_cons,List.length_nil]; omega) (by simp only [List.length_append,List.length_cons,List.length_nil]; omega)) fun _ _=>bd (wr (by omega) (by omega)) fun _ hv=>?_
 exact nx ⟨hp,by simp only [List.length_append,List.length_cons,List.length_nil]; omega,Z5v hI3 ha⟩ (by dsimp only; omega) (by dsimp only; omega)
theorem L48x2 (p : List Z00) (e : Int) (u : Z14) (hp : Z19 p) (hu : Z58 u) : Ok (Z0b (Zfa u) Z0c (0,p,e,([] : List Z0a))) (fun q=>Z19 q.1 ∧ q.2.2.length = u.Z1c.length ∧ ∀ m ∈ q.2.2,MAt m):=by
 have:=hu.fldL
 refine lp (fun t=>t.1) (u.Z1c.length) I48 (fun t hI h0 h1=>?_) (by omega) ⟨hp,rfl,Z3y⟩ (by omega) (by omega)
 unfold Zfa
 refine brD (fun hlt=>?_) fun hge=>dn ⟨hI.1,by have:=hI.2.1; dsimp only; omega,hI.2.2⟩
 refine bd (gr (by omega) (by omega)) fun f hf=>bd (Z6r _ _ hI.1 (hu.fld _ hf).n) fun v1 h1=>bd (Z6r _ _ h1 (hu.fld _ hf).d) fun v2 h2=>brN (fun _=>?_) fun _=>?_
 ·exact bd (Z6r _ _ h2 (by simp)) fun v3 h3=>bd (Y1w _ _ h3 (hu.fld _ hf)) fun v4 h4=>bd (Ztv _) fun v5 h5=>K48x2 hu hI h4 ⟨by simp,fun a ha=>by rw [List.mem_singleton.1 ha]; show v5.length ≤ _; omega⟩ h0 hlt
 ·exact K48x2 hu hI h2 ⟨by simp,Z3y⟩ h0 hlt
theorem Y10 (x : Z0k) (u : Z14) (h : Z20) (hp : Z19 x.f_P) (hu : Z58 u) (hi : h.f_F.Z15.length = u.Z15.length) (hf : h.f_F.Z1c.length = u.Z1c.length) (hm : ∀ m ∈ h.f_F.Z1c,MAt m) :
  Ok (Zk9 x u h) (fun r=>Z19 r.1.f_P ∧ Zas u r.2):=by
 unfold Zk9
 exact bd (L58x1 _ _ _ hp hu) fun q hq=>ok ⟨hq.1,Z19.nil,hq.2,hi,hf,hm,by simp,Z3y⟩
theorem K48x3 {u : Z14} {v34 : Z0k × Z20} (hw : Zas u v34.2) {p12 : List Z00} {p13 : Int} {p14 : List Z0x} (hp : Z19 p12) (ha : p14.length ≤ 1 ∧ ∀ a ∈ p14,Str a.Z25) : Ok (Zcb v34 p12 p13 p14) (fun r=>Z19 r.1.f_P ∧ Zas u r.2):=by
 unfold Zcb
 exact ok ⟨hp,hp,hw.fam,hw.ifsL,hw.fldL,hw.fld,ha.1,ha.2⟩
theorem K48x1 {u : Z14} (hu : Z58 u) {v0 : Z0k × Int} {p0 : List Z00} {p1 p2 : Int} (hp : Z19 p0) : Ok (Zda v0 u p0 p1 p2) (fun r=>Z19 r.1.f_P ∧ Zas u r.2):=by
 unfold Zda
 refine bd (L48x1 _ _ _ hp hu) fun q0 h0=>bd (L48x2 _ _ _ h0.1 hu) fun q2 h2=>bd (Y10 _ _ _ h2.1 hu ?_ ?_ h2.2.2) fun v34 hv=>br (fun _=>?_) fun _=>K48x3 hv.2 hv.1 ⟨hv.2.attL,hv.2.att⟩
 ·exact h0.2
 ·exact h2.2.1
 ·exact bd (Z6r _ _ hv.1 (by simp)) fun v1 h1=>bd (Z6r _ _ h1 hu.src) fun v2 h2=>bd (Ztv _) fun v5 h5=>K48x3 hv.2 h2 ⟨by simp,fun a ha=>by rw [List.mem_singleton.1 ha]; show v5.length ≤ _; omega⟩
theorem Zyw (x : Z0k) (u : Z14) (hp : Z19 x.f_P) (hu : Z58 u) : Ok (Zgf x u) (fun r=>Zas u r.2):=by
 unfold Zgf
 refine (bd (Zct _ _ hp hu.n) fun v0 h0=>br (fun _=>bd (Zct _ _ h0 hu.sup) fun v1 h1=>K48x1 hu h1) fun _=>K48x1 hu h0 : Ok _ (fun r : Z0k × Z20=>Z19 r.1.f_P ∧ Zas u r.2)).mono fun r hr=>hr.2
end Go.Proofs
