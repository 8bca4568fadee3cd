/-
  That the models come to an answer, part three: a model becomes half a file. No condition.
-/
import Derived.Test.YtldpbffppaednaaGreatAccT2
import Derived.Test.YtldpbffppaednaaGreatAccT4
set_option linter.unusedVariables false
namespace Go.Proofs
open Go.Den Go.Tot
theorem runeLen (n : Int) : (Zkz n).length ≤ 4:=by
 unfold Zkz Utf8.encode
 dsimp only
 repeat' split
 all_goals simp [ByteArray.push]
theorem Zt2 (y : Z0r) (ht : Str y.Z02) : Ok (Zd0 y) (fun b=>b = true → 0 ≤ y.Z1x ∧ y.Z1x ≤ 8 ∧ y.Z02.length ≤ 64):=by
 unfold Zd0
 repeat' first
  | unfold Zko
  | unfold Zkg
  | unfold Zky
  | with_reducible refine brD (fun _=>?_) fun _=>?_
  | with_reducible refine brE (fun _=>?_) fun _=>?_
  | with_reducible refine br (fun _=>?_) fun _=>?_
  | with_reducible refine bd (Zgv _ (by first | assumption | omega | exact And.left (by assumption) | (dsimp only; omega))) fun _ _=>?_
  | with_reducible refine bs ?_
  | with_reducible refine ok ?_
  | ((intro hb; first | (cases hb; done) | exact ⟨by omega,by omega,by simp_all⟩))
  | with_reducible refine And.intro ?_ ?_
  | assumption
  | exact True.intro
  | omega
  | (dsimp only; omega)
  | (simp only [List.length_set,List.length_append,List.length_cons,List.length_nil,List.length_replicate]; omega)
  | (obtain ⟨_,_⟩:=‹_ ∧ _›)
theorem L136x1 (y : Z0r) (h0 : 0 ≤ y.Z1x) (h8 : y.Z1x ≤ 8) : Ok (Z0d (Zji y) Z0h ([],0)) (fun r=>r.length ≤ 8):=by
 refine lp (fun s=>s.2) (y.Z1x) (fun s=>(s.1.length : Int) = s.2) (fun t hI _ _=>?_) (by omega) (by simp) (by omega) (by omega)
 try dsimp only at *
 unfold Zji
 repeat' first
  | with_reducible refine nx ?_ ?_ ?_
  | with_reducible refine dn ?_
  | with_reducible refine brD (fun _=>?_) fun _=>?_
  | with_reducible refine br (fun _=>?_) fun _=>?_
  | with_reducible refine bd (wr (by omega) (by omega)) fun _ _=>?_
  | with_reducible refine bd (ct (by first | omega | (simp only [List.length_cons,List.length_nil]; omega))) fun _ _=>?_
  | with_reducible refine bs ?_
  | ((simp only [*,List.length_append,List.length_cons,List.length_nil]; omega))
  | with_reducible refine And.intro ?_ ?_
  | assumption
  | exact True.intro
  | omega
  | (dsimp only; omega)
  | (simp only [List.length_set,List.length_append,List.length_cons,List.length_nil,List.length_replicate]; omega)
  | (obtain ⟨_,_⟩:=‹_ ∧ _›)
theorem Zwt (y : Z0r) (ht : Str y.Z02) : Ok (Zhu y) (fun r=>r.1.length ≤ 100):=by
 have:=runeLen (IntKind.wrap .i32 y.Z1r)
 unfold Zhu
 repeat' first
  | with_reducible refine bd (Zt2 _ ht) fun _ hv=>?_
  | with_reducible refine br! (fun _=>?_) fun hb=>?_
  | with_reducible refine bd (L136x1 _ (hv hb).1 (hv hb).2.1) fun _ _=>?_
  | with_reducible refine br! (fun _=>?_) fun _=>?_
  | with_reducible refine brE (fun _=>?_) fun _=>?_
  | with_reducible refine br (fun _=>?_) fun _=>?_
  | with_reducible refine bd (ct (by have:=(hv hb).2.2; first | omega | (simp only [List.length_cons,List.length_nil]; omega))) fun _ _=>?_
  | with_reducible refine bs ?_
  | with_reducible refine ok ?_
  | (first | (simp; done) | (dsimp only; have:=(hv hb).2.2; simp only [List.length_cons,List.length_nil] at *; omega))
  | with_reducible refine And.intro ?_ ?_
  | assumption
  | exact True.intro
  | omega
  | (dsimp only; omega)
  | (simp only [List.length_set,List.length_append,List.length_cons,List.length_nil,List.length_replicate]; omega)
  | (obtain ⟨_,_⟩:=‹_ ∧ _›)
theorem L106x1 (p : List Z00) (e : Int) (l : List Z0e) (hp : Z1e p) (hl : ∀ v ∈ l,Str v.Z1o.Z02) (hn : l.length * 56 ≤ 140737488355328) : Ok (Z0d (Zg6 l) Z0h (0,p,e,([] : List Z0e))) (fun q=>Z1e q.1 ∧ (∀ v ∈ q.2.2,Str v.Z1o.Z02) ∧ q.2.2.length = l.length):=by
 refine lp (fun t=>t.1) (l.length) (fun t=>Z1e t.2.1 ∧ (∀ v ∈ t.2.2.2,Str v.Z1o.Z02) ∧ (t.2.2.2.length : Int) = t.1) (fun t hI _ _=>?_) (by omega) (by exact ⟨hp,Z3r,rfl⟩) (by omega) (by omega)
 try dsimp only at *
 unfold Zg6
 obtain ⟨hI1,hI2,hI3⟩:=hI
 repeat' first
  | with_reducible refine nx ?_ ?_ ?_
  | with_reducible refine dn ?_
  | unfold Zbb
  | unfold Z8x
  | with_reducible refine brD (fun _=>?_) fun _=>?_
  | with_reducible refine brE (fun _=>?_) fun _=>?_
  | with_reducible refine br (fun _=>?_) fun _=>?_
  | with_reducible refine bd (gr (by omega) (by omega)) fun _ _=>?_
  | with_reducible refine bd (wr (by omega) (by omega)) fun _ _=>?_
  | with_reducible refine bd (gk (by simp only [List.length_append,List.length_cons,List.length_nil]; omega) (by simp only [List.length_append,List.length_cons,List.length_nil]; omega)) fun _ _=>?_
  | with_reducible refine bd (Zwt _ (by exact hl _ (by assumption))) fun _ _=>?_
  | with_reducible refine bd (Z6q _ _ (by first | assumption | omega) (by first | assumption | omega)) fun _ _=>?_
  | with_reducible refine bs ?_
  | (first | exact Z5y hI2 (by first | exact hl _ (by assumption) | exact Nat.zero_le _))
  | with_reducible refine And.intro ?_ ?_
  | assumption
  | exact True.intro
  | omega
  | (dsimp only; omega)
  | (simp only [List.length_set,List.length_append,List.length_cons,List.length_nil,List.length_replicate]; omega)
  | (obtain ⟨_,_⟩:=‹_ ∧ _›)
theorem Zqt (x : Z0p) (l : List Z0e) (hp : Z1e x.f_P) (hl : ∀ v ∈ l,Str v.Z1o.Z02) (hn : l.length * 56 ≤ 140737488355328) : Ok (Zdx x l) (fun r=>Z1e r.1.f_P ∧ (∀ v ∈ r.2,Str v.Z1o.Z02) ∧ r.2.length = l.length):=by
 unfold Zdx
 repeat' first
  | with_reducible refine bd (L106x1 _ _ _ (by first | assumption | omega | exact And.left (by assumption) | (dsimp only; omega)) (by first | assumption | omega | exact And.left (by assumption) | (dsimp only; omega)) (by first | assumption | omega | exact And.left (by assumption) | (dsimp only; omega))) fun _ _=>?_
  | with_reducible refine ok ?_
  | with_reducible refine And.intro ?_ ?_
  | assumption
  | exact True.intro
  | omega
  | (dsimp only; omega)
  | (simp only [List.length_set,List.length_append,List.length_cons,List.length_nil,List.length_replicate]; omega)
  | (obtain ⟨_,_⟩:=‹_ ∧ _›)
theorem L78x1 (p : List Z00) (e : Int) (c : Z08) (hp : Z1e p) (hc : Z4s c) : Ok (Z0d (Zem c) Z0h (0,p,e,([] : List Z01))) (fun q=>Z1e q.1 ∧ (∀ v ∈ q.2.2,Z2r v) ∧ q.2.2.length = c.Z0q.length):=by
 have:=hc.insL
 refine lp (fun t=>t.1) (c.Z0q.length) (fun t=>Z1e t.2.1 ∧ (∀ v ∈ t.2.2.2,Z2r v) ∧ (t.2.2.2.length : Int) = t.1) (fun t hI _ _=>?_) (by omega) (by exact ⟨hp,Z3r,rfl⟩) (by omega) (by omega)
 try dsimp only at *
 unfold Zem
 obtain ⟨hI1,hI2,hI3⟩:=hI
 repeat' first
  | with_reducible refine nx ?_ ?_ ?_
  | with_reducible refine dn ?_
  | with_reducible refine brD (fun _=>?_) fun _=>?_
  | with_reducible refine br (fun _=>?_) fun _=>?_
  | with_reducible refine bd (gr (by omega) (by omega)) fun _ _=>?_
  | with_reducible refine bd (wr (by omega) (by omega)) fun _ _=>?_
  | with_reducible refine bd (gk (by simp only [List.length_append,List.length_cons,List.length_nil]; omega) (by simp only [List.length_append,List.length_cons,List.length_nil]; omega)) fun _ _=>?_
  | with_reducible refine bd (Zyc _ _ (by first | assumption | exact hc.ins _ (by assumption)) (by first | assumption | exact hc.ins _ (by assumption))) fun _ _=>?_
  | with_reducible refine bs ?_
  | (exact Z5y hI2 (And.right (by assumption)))
  | with_reducible refine And.intro ?_ ?_
  | assumption
  | exact True.intro
  | omega
  | (dsimp only; omega)
  | (simp only [List.length_set,List.length_append,List.length_cons,List.length_nil,List.length_replicate]; omega)
  | (obtain ⟨_,_⟩:=‹_ ∧ _›)
theorem L78x2 (p : List Z00) (e : Int) (c : Z08) (hp : Z1e p) (hc : Z4s c) : Ok (Z0d (Zhl c) Z0h (0,p,e,([] : List Z0k))) (fun q=>Z1e q.1 ∧ (∀ v ∈ q.2.2,v.Z1o = []) ∧ q.2.2.length = c.Z1n.length):=by
 have:=hc.hndL
 refine lp (fun t=>t.1) (c.Z1n.length) (fun t=>Z1e t.2.1 ∧ (∀ v ∈ t.2.2.2,v.Z1o = []) ∧ (t.2.2.2.length : Int) = t.1) (fun t hI _ _=>?_) (by omega) (by exact ⟨hp,Z3r,rfl⟩) (by omega) (by omega)
 try dsimp only at *
 unfold Zhl
 obtain ⟨hI1,hI2,hI3⟩:=hI
 repeat' first
  | with_reducible refine nx ?_ ?_ ?_
  | with_reducible refine dn ?_
  | unfold Zj3
  | with_reducible refine brD (fun _=>?_) fun _=>?_
  | with_reducible refine br! (fun _=>?_) fun _=>?_
  | with_reducible refine br (fun _=>?_) fun _=>?_
  | with_reducible refine bd (gr (by omega) (by omega)) fun _ _=>?_
  | with_reducible refine bd (wr (by omega) (by omega)) fun _ _=>?_
  | with_reducible refine bd (gk (by simp only [List.length_append,List.length_cons,List.length_nil]; omega) (by simp only [List.length_append,List.length_cons,List.length_nil]; omega)) fun _ _=>?_
  | with_reducible refine bd (Zdf _ _ (by first | assumption | exact hc.hnd _ (by assumption)) (by first | assumption | exact hc.hnd _ (by assumption))) fun _ _=>?_
  | with_reducible refine bs ?_
  | (exact Z5y hI2 rfl)
  | with_reducible refine And.intro ?_ ?_
  | assumption
  | exact True.intro
  | omega
  | (dsimp only; omega)
  | (simp only [List.length_set,List.length_append,List.length_cons,List.length_nil,List.length_replicate]; omega)
  | (obtain ⟨_,_⟩:=‹_ ∧ _›)
theorem Z94.of {m : Z0o} (h : Z94 m.Z1p) {l k : List Z0e} {b : Bool} (h1 : ∀ v ∈ l,Str v.Z1o.Z02) (h2 : l.length = m.Z1p.Z0v.length) (h3 : ∀ v ∈ k,Str v.Z1o.Z02) (h4 : k.length = m.Z1p.Z10.length) :
  Z94 { Z0v:=l,Z10:=k,Z48:=b }:=⟨h1,by have:=h.locL; dsimp only; omega,h3,by have:=h.stkL; dsimp only; omega⟩
theorem L78x3 (p : List Z00) (e : Int) (c : Z08) (hp : Z1e p) (hc : Z4s c) : Ok (Z0d (Zhf c) Z0h (0,p,e,([] : List Z0o))) (fun q=>Z1e q.1 ∧ (∀ v ∈ q.2.2,Z94 v.Z1p) ∧ q.2.2.length = c.Z17.length):=by
 have:=hc.mapL
 refine lp (fun t=>t.1) (c.Z17.length) (fun t=>Z1e t.2.1 ∧ (∀ v ∈ t.2.2.2,Z94 v.Z1p) ∧ (t.2.2.2.length : Int) = t.1) (fun t hI _ _=>?_) (by omega) ⟨hp,Z3r,rfl⟩ (by omega) (by omega)
 obtain ⟨hI1,hI2,hI3⟩:=hI
 unfold Zhf
 refine brD (fun hlt=>?_) fun _=>dn ⟨hI1,hI2,by dsimp only; omega⟩
 obtain ⟨y,hy,hm⟩:=gr (l:=c.Z17) (i:=t.1) (by omega) hlt
 simp only [hy]
 refine bs (bs (bd (Zqt _ _ hI1 (hc.map _ hm).loc (hc.map _ hm).locL) fun v1 h1=>bd (Zqt _ _ h1.1 (hc.map _ hm).stk (hc.map _ hm).stkL) fun v2 h2=>?_))
 refine bd (gk (by simp only [List.length_append,List.length_cons,List.length_nil]; omega) (by simp only [List.length_append,List.length_cons,List.length_nil]; omega)) fun _ _=>bd (wr (by omega) (by omega)) fun _ _=>?_
 exact nx ⟨h2.1,Z5y hI2 ((hc.map _ hm).of h1.2.1 h1.2.2 h2.2.1 h2.2.2),by simp only [List.length_append,List.length_cons,List.length_nil]; omega⟩ (by dsimp only; omega) (by dsimp only; omega)
theorem Y02 (x : Z0p) (c : Z08) (hp : Z1e x.f_P) (hc : Z4s c) : Ok (Zgi x c) (fun r=>Z1e r.1.f_P ∧ Z4s r.2):=by
 unfold Zgi
 refine bd (L78x1 _ _ _ hp hc) fun q0 h0=>bd (L78x2 _ _ _ h0.1 hc) fun q2 h2=>bd (L78x3 _ _ _ h2.1 hc) fun q4 h4=>ok ⟨h4.1,h0.2.1,?_,fun v hv=>?_,?_,h4.2.1,?_,hc.linL⟩
 ·have:=hc.insL; have:=h0.2.2; dsimp only; omega
 ·rw [h2.2.1 v hv]; simp
 ·have:=hc.hndL; have:=h2.2.2; dsimp only; omega
 ·have:=hc.mapL; have:=h4.2.2; dsimp only; omega
theorem L58x2 (p : List Z00) (e : Int) (m : Z0x) (hp : Z1e p) (hm : Z9c m) : Ok (Z0d (Zgb m) Z0h (0,p,e,([] : List Int))) (fun q=>Z1e q.1 ∧ q.2.2.length ≤ 140737488355328):=by
 have:=hm.excL
 refine lp (fun t=>t.1) (m.Z66.length) (fun t=>Z1e t.2.1 ∧ (t.2.2.2.length : Int) = t.1) (fun t hI _ _=>?_) (by omega) (by exact ⟨hp,rfl⟩) (by omega) (by omega)
 try dsimp only at *
 unfold Zgb
 obtain ⟨hI1,hI3⟩:=hI
 repeat' first
  | with_reducible refine nx ?_ ?_ ?_
  | with_reducible refine dn ?_
  | with_reducible refine brD (fun _=>?_) fun _=>?_
  | with_reducible refine br (fun _=>?_) fun _=>?_
  | with_reducible refine bd (gr (by omega) (by omega)) fun _ _=>?_
  | with_reducible refine bd (wr (by omega) (by omega)) fun _ _=>?_
  | with_reducible refine bd (gk (by simp only [List.length_append,List.length_cons,List.length_nil]; omega) (by simp only [List.length_append,List.length_cons,List.length_nil]; omega)) fun _ _=>?_
  | with_reducible refine bd (Zdf _ _ (by first | assumption | exact hm.exc _ (by assumption)) (by first | assumption | exact hm.exc _ (by assumption))) fun _ _=>?_
  | with_reducible refine bs ?_
  | with_reducible refine And.intro ?_ ?_
  | assumption
  | exact True.intro
  | omega
  | (dsimp only; omega)
  | (simp only [List.length_set,List.length_append,List.length_cons,List.length_nil,List.length_replicate]; omega)
  | (obtain ⟨_,_⟩:=‹_ ∧ _›)
structure Z9z (n : Int) (ms : List Z0a) (cs : List Z08) (ts : List (List Int)) (ns : List Z1u) : Prop where
 m : (ms.length : Int) = n
 c : (cs.length : Int) = n
 t : (ts.length : Int) = n
 s : (ns.length : Int) = n
 code : ∀ v ∈ cs,Z4s v
 att : ∀ m ∈ ms,m.Z1i = []
 thr : ∀ l ∈ ts,l.length ≤ 140737488355328
theorem Z9z.snoc {n k : Int} {ms : List Z0a} {cs : List Z08} {ts : List (List Int)} {ns : List Z1u} (h : Z9z n ms cs ts ns) {m : Z0a} {c : Z08} {l : List Int} {s : Z1u} (ha : m.Z1i = []) (hc : Z4s c) (hl : l.length ≤ 140737488355328) (hk : k = n + 1) :
  Z9z k (ms ++ [m]) (cs ++ [c]) (ts ++ [l]) (ns ++ [s]):=by
 obtain ⟨h1,h2,h3,h4,h5,h6,h7⟩:=h
 refine ⟨?_,?_,?_,?_,Z5y h5 hc,Z5y h6 ha,Z5y h7 hl⟩ <;> simp only [List.length_append,List.length_cons,List.length_nil] <;> omega
theorem WCode0 : Z4s { Z10:=0,Z0v:=0,Z0q:=[],Z1n:=[],Z17:=[],Z1h:=[] }:=⟨Z3r,by simp,Z3r,by simp,Z3r,by simp,by simp⟩
abbrev S58:=Int × (List Z00) × Int × (List Z0a) × (List Z08) × (List (List Int)) × (List Z1u)
def I58 (t : S58) : Prop:=Z1e t.2.1 ∧ Z9z t.1 t.2.2.2.1 t.2.2.2.2.1 t.2.2.2.2.2.1 t.2.2.2.2.2.2
def Q58 (n : Int) (q : (List Z00) × Int × (List Z0a) × (List Z08) × (List (List Int)) × (List Z1u)) : Prop:=Z1e q.1 ∧ Z9z n q.2.2.1 q.2.2.2.1 q.2.2.2.2.1 q.2.2.2.2.2
theorem K58x2 {n : Int} {p26 p27 p28 : Int} {p29 : List Z01} {p30 : List Z0k} {p31 : List Z0o} {p32 : List Z11} {t0 : S58} {v34 : Z0x} {v35 v36 : Z0p × Int} {p33 : List Z00} {p34 p35 : Int}
  (hI : I58 t0) (hp : Z1e p33) (hm : Z9c v34) (hc : Z4s { Z10:=p27,Z0v:=p28,Z0q:=p29,Z1n:=p30,Z17:=p31,Z1h:=p32 }) (h0 : 0 ≤ t0.1) (h1 : t0.1 < n) (hn : n * 184 ≤ 140737488355328) :
  Ok (Zba p26 p27 p28 p29 p30 p31 p32 t0 v34 v35 v36 p33 p34 p35) (St I58 (fun t=>t.1) n (Q58 n) t0):=by
 unfold Zba
 have:=hI.2.m; have:=hI.2.c; have:=hI.2.t; have:=hI.2.s
 refine bd (L58x2 _ _ _ hp hm) fun q4 h4=>?_
 refine bd (gk (by simp only [List.length_append,List.length_cons,List.length_nil]; omega) (by simp only [List.length_append,List.length_cons,List.length_nil]; omega)) fun _ _=>?_
 refine bd (gk (by simp only [List.length_append,List.length_cons,List.length_nil]; omega) (by simp only [List.length_append,List.length_cons,List.length_nil]; omega)) fun _ _=>?_
 refine bd (gk (by simp only [List.length_append,List.length_cons,List.length_nil]; omega) (by simp only [List.length_append,List.length_cons,List.length_nil]; omega)) fun _ _=>?_
 refine bd (gk (by simp only [List.length_append,List.length_cons,List.length_nil]; omega) (by simp only [List.length_append,List.length_cons,List.length_nil]; omega)) fun _ _=>?_
 refine bd (wr (by omega) (by omega)) fun _ hv=>?_
 exact nx ⟨h4.1,hI.2.snoc rfl hc h4.2 hv⟩ (by dsimp only; omega) (by dsimp only; omega)
theorem K58x1 {n : Int} {t0 : S58} {v34 : Z0x} {v35 v36 : Z0p × Int} {p24 : List Z00} {p25 p26 p27 p28 : Int} {p29 : List Z01} {p30 : List Z0k} {p31 : List Z0o} {p32 : List Z11}
  (hI : I58 t0) (hp : Z1e p24) (hm : Z9c v34) (hc : Z4s { Z10:=p27,Z0v:=p28,Z0q:=p29,Z1n:=p30,Z17:=p31,Z1h:=p32 }) (h0 : 0 ≤ t0.1) (h1 : t0.1 < n) (hn : n * 184 ≤ 140737488355328) :
  Ok (Zdr t0 v34 v35 v36 p24 p25 p26 p27 p28 p29 p30 p31 p32) (St I58 (fun t=>t.1) n (Q58 n) t0):=by
 unfold Zdr
 exact brD (fun _=>bd (Z6q _ _ hp (by simp)) fun v hv=>K58x2 hI hv hm hc h0 h1 hn) fun _=>K58x2 hI hp hm hc h0 h1 hn
theorem L58x1 (p : List Z00) (e : Int) (u : Z0j) (hp : Z1e p) (hu : Z51 u) : Ok (Z0d (Zf2 u) Z0h (0,p,e,[],[],[],[])) (Q58 u.Z0m.length):=by
 have:=hu.metL
 refine lp (fun t=>t.1) (u.Z0m.length) I58 (fun t hI h0 h1=>?_) (by omega) ⟨hp,rfl,rfl,rfl,rfl,Z3r,Z3r,Z3r⟩ (by omega) (by omega)
 unfold Zf2
 refine brD (fun hlt => ?_) fun hge => dn ⟨hI.1, by have : t.1 = u.Z0m.length:=by omega
                                                    rw [← this]; exact hI.2⟩
 refine bd (gr (by omega) (by omega)) fun m hm=>bd (Z6q _ _ hI.1 (hu.met _ hm).n) fun v1 h1=>bd (Z6q _ _ h1 (hu.met _ hm).d) fun v2 h2=>br (fun _=>?_) fun _=>?_
 ·exact bd (Z6q _ _ h2 (by simp)) fun v3 h3=>bd (Y02 _ _ h3 (hu.met _ hm).code) fun v4 h4=>K58x1 hI h4.1 (hu.met _ hm) h4.2 h0 hlt (by omega)
 ·exact K58x1 hI h2 (hu.met _ hm) WCode0 h0 hlt (by omega)
structure Z9x (u : Z0j) (h : Z24) : Prop where
 pool : Z1e h.f_F.Z1z
 fam : Z9z u.Z0m.length h.f_F.Z0m h.Z7c h.Z7h h.Z60
 ifsL : h.f_F.Z05.length = u.Z05.length
 fldL : h.f_F.Z0n.length = u.Z0n.length
 fld : ∀ m ∈ h.f_F.Z0n,m.Z1i.length ≤ 1 ∧ ∀ a ∈ m.Z1i,Str a.Z2a
 attL : h.f_F.Z1i.length ≤ 1
 att : ∀ a ∈ h.f_F.Z1i,Str a.Z2a
theorem L48x1 (p : List Z00) (e : Int) (u : Z0j) (hp : Z1e p) (hu : Z51 u) : Ok (Z0d (Zig u) Z0h (0,p,e,([] : List Int))) (fun q=>Z1e q.1 ∧ q.2.2.length = u.Z05.length):=by
 have:=hu.ifsL
 refine lp (fun t=>t.1) (u.Z05.length) (fun t=>Z1e t.2.1 ∧ (t.2.2.2.length : Int) = t.1) (fun t hI h0 h1=>?_) (by omega) ⟨hp,rfl⟩ (by omega) (by omega)
 obtain ⟨hI1,hI3⟩:=hI
 unfold Zig
 refine brD (fun hlt=>?_) fun hge=>dn ⟨hI1,by dsimp only; omega⟩
 refine bd (gr (by omega) (by omega)) fun s hs=>bd (Zdf _ _ hI1 (hu.ifs _ hs)) fun v1 h1=>?_
 refine bd (gk (by simp only [List.length_append,List.length_cons,List.length_nil]; omega) (by simp only [List.length_append,List.length_cons,List.length_nil]; omega)) fun _ _=>bd (wr (by omega) (by omega)) fun _ hv=>?_
 exact nx ⟨h1,by simp only [List.length_append,List.length_cons,List.length_nil]; omega⟩ (by dsimp only; omega) (by dsimp only; omega)
def MAt (m : Z0a) : Prop:=m.Z1i.length ≤ 1 ∧ ∀ a ∈ m.Z1i,Str a.Z2a
abbrev S48:=Int × (List Z00) × Int × (List Z0a)
def I48 (t : S48) : Prop:=Z1e t.2.1 ∧ (t.2.2.2.length : Int) = t.1 ∧ ∀ m ∈ t.2.2.2,MAt m
theorem K48x2 {u : Z0j} (hu : Z51 u) {t1 : S48} {v26 : Z13} {v27 v28 : Z0p × Int} {p9 : List Z00} {p10 : Int} {p11 : List Z14} (hI : I48 t1) (hp : Z1e p9) (ha : p11.length ≤ 1 ∧ ∀ a ∈ p11,Str a.Z2a) (h0 : 0 ≤ t1.1) (h1 : t1.1 < u.Z0n.length) :
  Ok (Zdz t1 v26 v27 v28 p9 p10 p11) (St I48 (fun t=>t.1) u.Z0n.length (fun q=>Z1e q.1 ∧ q.2.2.length = u.Z0n.length ∧ ∀ m ∈ q.2.2,MAt m) t1):=by
 have:=hu.fldL
 obtain ⟨hI1,hI2,hI3⟩:=hI
 unfold Zdz
 refine bd (gk (by simp only [List.length_append,List.length_cons,List.length_nil]; omega) (by simp only [List.length_append,List.length_cons,List.length_nil]; omega)) fun _ _=>bd (wr (by omega) (by omega)) fun _ hv=>?_
 exact nx ⟨hp,by simp only [List.length_append,List.length_cons,List.length_nil]; omega,Z5y hI3 ha⟩ (by dsimp only; omega) (by dsimp only; omega)
theorem L48x2 (p : List Z00) (e : Int) (u : Z0j) (hp : Z1e p) (hu : Z51 u) : Ok (Z0d (Zgw u) Z0h (0,p,e,([] : List Z0a))) (fun q=>Z1e q.1 ∧ q.2.2.length = u.Z0n.length ∧ ∀ m ∈ q.2.2,MAt m):=by
 have:=hu.fldL
 refine lp (fun t=>t.1) (u.Z0n.length) I48 (fun t hI h0 h1=>?_) (by omega) ⟨hp,rfl,Z3r⟩ (by omega) (by omega)
 unfold Zgw
 refine brD (fun hlt=>?_) fun hge=>dn ⟨hI.1,by have:=hI.2.1; dsimp only; omega,hI.2.2⟩
 refine bd (gr (by omega) (by omega)) fun f hf=>bd (Z6q _ _ hI.1 (hu.fld _ hf).n) fun v1 h1=>bd (Z6q _ _ h1 (hu.fld _ hf).d) fun v2 h2=>brN (fun _=>?_) fun _=>?_
 ·exact bd (Z6q _ _ h2 (by simp)) fun v3 h3=>bd (Zw5 _ _ h3 (hu.fld _ hf)) fun v4 h4=>bd (Zr8 _) fun v5 h5=>K48x2 hu hI h4 ⟨by simp,fun a ha=>by rw [List.mem_singleton.1 ha]; show v5.length ≤ _; omega⟩ h0 hlt
 ·exact K48x2 hu hI h2 ⟨by simp,Z3r⟩ h0 hlt
theorem Zy5 (x : Z0p) (u : Z0j) (h : Z24) (hp : Z1e x.f_P) (hu : Z51 u) (hi : h.f_F.Z05.length = u.Z05.length) (hf : h.f_F.Z0n.length = u.Z0n.length) (hm : ∀ m ∈ h.f_F.Z0n,MAt m) :
  Ok (Zij x u h) (fun r=>Z1e r.1.f_P ∧ Z9x u r.2):=by
 unfold Zij
 exact bd (L58x1 _ _ _ hp hu) fun q hq=>ok ⟨hq.1,Z1e.nil,hq.2,hi,hf,hm,by simp,Z3r⟩
theorem K48x3 {u : Z0j} {v34 : Z0p × Z24} (hw : Z9x u v34.2) {p12 : List Z00} {p13 : Int} {p14 : List Z14} (hp : Z1e p12) (ha : p14.length ≤ 1 ∧ ∀ a ∈ p14,Str a.Z2a) : Ok (Zcl v34 p12 p13 p14) (fun r=>Z1e r.1.f_P ∧ Z9x u r.2):=by
 unfold Zcl
 exact ok ⟨hp,hp,hw.fam,hw.ifsL,hw.fldL,hw.fld,ha.1,ha.2⟩
theorem K48x1 {u : Z0j} (hu : Z51 u) {v0 : Z0p × Int} {p0 : List Z00} {p1 p2 : Int} (hp : Z1e p0) : Ok (Zdw v0 u p0 p1 p2) (fun r=>Z1e r.1.f_P ∧ Z9x u r.2):=by
 unfold Zdw
 refine bd (L48x1 _ _ _ hp hu) fun q0 h0=>bd (L48x2 _ _ _ h0.1 hu) fun q2 h2=>bd (Zy5 _ _ _ h2.1 hu ?_ ?_ h2.2.2) fun v34 hv=>br (fun _=>?_) fun _=>K48x3 hv.2 hv.1 ⟨hv.2.attL,hv.2.att⟩
 ·exact h0.2
 ·exact h2.2.1
 ·exact bd (Z6q _ _ hv.1 (by simp)) fun v1 h1=>bd (Z6q _ _ h1 hu.src) fun v2 h2=>bd (Zr8 _) fun v5 h5=>K48x3 hv.2 h2 ⟨by simp,fun a ha=>by rw [List.mem_singleton.1 ha]; show v5.length ≤ _; omega⟩
theorem Zyj (x : Z0p) (u : Z0j) (hp : Z1e x.f_P) (hu : Z51 u) : Ok (Zfv x u) (fun r=>Z9x u r.2):=by
 unfold Zfv
 refine (bd (Zdf _ _ hp hu.n) fun v0 h0=>br (fun _=>bd (Zdf _ _ h0 hu.sup) fun v1 h1=>K48x1 hu h1) fun _=>K48x1 hu h0 : Ok _ (fun r : Z0p × Z24=>Z1e r.1.f_P ∧ Z9x u r.2)).mono fun r hr=>hr.2
end Go.Proofs
