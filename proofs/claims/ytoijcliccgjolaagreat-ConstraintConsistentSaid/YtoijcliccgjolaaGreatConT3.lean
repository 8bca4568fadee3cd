/-
  That the models come to an answer, part three: a model becomes half a file. No condition.
-/
import Derived.Test.YtoijcliccgjolaaGreatConT2
import Derived.Test.YtoijcliccgjolaaGreatConT4
set_option linter.unusedVariables false
namespace Go.Proofs
open Go.Den Go.Tot
theorem runeLen (n : Int) : (Zlk n).length ≤ 4:=by
 unfold Zlk Utf8.encode
 dsimp only
 repeat' split
 all_goals simp [ByteArray.push]
theorem Zvt (y : Z0l) (ht : Str y.Z03) : Ok (Zbg y) (fun b=>b = true → 0 ≤ y.Z1t ∧ y.Z1t ≤ 8 ∧ y.Z03.length ≤ 64):=by
 unfold Zbg
 repeat' first
  | unfold Zo3
  | unfold Zlx
  | unfold Zl5
  | with_reducible refine brD (fun _=>?_) fun _=>?_
  | with_reducible refine brE (fun _=>?_) fun _=>?_
  | with_reducible refine br (fun _=>?_) fun _=>?_
  | with_reducible refine bd (Zgo _ (by first | assumption | omega | exact And.left (by assumption) | (dsimp only; omega))) fun _ _=>?_
  | with_reducible refine bs ?_
  | with_reducible refine ok ?_
  | ((intro hb; first | (cases hb; done) | exact ⟨by omega,by omega,by simp_all⟩))
  | with_reducible refine And.intro ?_ ?_
  | assumption
  | exact True.intro
  | omega
  | (dsimp only; omega)
  | (simp only [List.length_set,List.length_append,List.length_cons,List.length_nil,List.length_replicate]; omega)
  | (obtain ⟨_,_⟩:=‹_ ∧ _›)
theorem L136x1 (y : Z0l) (h0 : 0 ≤ y.Z1t) (h8 : y.Z1t ≤ 8) : Ok (Z08 (Zf5 y) Z0c ([],0)) (fun r=>r.length ≤ 8):=by
 refine lp (fun s=>s.2) (y.Z1t) (fun s=>(s.1.length : Int) = s.2) (fun t hI _ _=>?_) (by omega) (by simp) (by omega) (by omega)
 try dsimp only at *
 unfold Zf5
 repeat' first
  | with_reducible refine nx ?_ ?_ ?_
  | with_reducible refine dn ?_
  | with_reducible refine brD (fun _=>?_) fun _=>?_
  | with_reducible refine br (fun _=>?_) fun _=>?_
  | with_reducible refine bd (wr (by omega) (by omega)) fun _ _=>?_
  | with_reducible refine bd (ct (by first | omega | (simp only [List.length_cons,List.length_nil]; omega))) fun _ _=>?_
  | with_reducible refine bs ?_
  | ((simp only [*,List.length_append,List.length_cons,List.length_nil]; omega))
  | with_reducible refine And.intro ?_ ?_
  | assumption
  | exact True.intro
  | omega
  | (dsimp only; omega)
  | (simp only [List.length_set,List.length_append,List.length_cons,List.length_nil,List.length_replicate]; omega)
  | (obtain ⟨_,_⟩:=‹_ ∧ _›)
theorem Y1a (y : Z0l) (ht : Str y.Z03) : Ok (Zid y) (fun r=>r.1.length ≤ 100):=by
 have:=runeLen (IntKind.wrap .i32 y.Z1m)
 unfold Zid
 repeat' first
  | with_reducible refine bd (Zvt _ ht) fun _ hv=>?_
  | with_reducible refine br! (fun _=>?_) fun hb=>?_
  | with_reducible refine bd (L136x1 _ (hv hb).1 (hv hb).2.1) fun _ _=>?_
  | with_reducible refine br! (fun _=>?_) fun _=>?_
  | with_reducible refine brE (fun _=>?_) fun _=>?_
  | with_reducible refine br (fun _=>?_) fun _=>?_
  | with_reducible refine bd (ct (by have:=(hv hb).2.2; first | omega | (simp only [List.length_cons,List.length_nil]; omega))) fun _ _=>?_
  | with_reducible refine bs ?_
  | with_reducible refine ok ?_
  | (first | (simp; done) | (dsimp only; have:=(hv hb).2.2; simp only [List.length_cons,List.length_nil] at *; omega))
  | with_reducible refine And.intro ?_ ?_
  | assumption
  | exact True.intro
  | omega
  | (dsimp only; omega)
  | (simp only [List.length_set,List.length_append,List.length_cons,List.length_nil,List.length_replicate]; omega)
  | (obtain ⟨_,_⟩:=‹_ ∧ _›)
theorem L106x1 (p : List Z00) (e : Int) (l : List Z0d) (hp : Z16 p) (hl : ∀ v ∈ l,Str v.Z1h.Z03) (hn : l.length * 56 ≤ 140737488355328) : Ok (Z08 (Zg1 l) Z0c (0,p,e,([] : List Z0d))) (fun q=>Z16 q.1 ∧ (∀ v ∈ q.2.2,Str v.Z1h.Z03) ∧ q.2.2.length = l.length):=by
 refine lp (fun t=>t.1) (l.length) (fun t=>Z16 t.2.1 ∧ (∀ v ∈ t.2.2.2,Str v.Z1h.Z03) ∧ (t.2.2.2.length : Int) = t.1) (fun t hI _ _=>?_) (by omega) (by exact ⟨hp,Z3v,rfl⟩) (by omega) (by omega)
 try dsimp only at *
 unfold Zg1
 obtain ⟨hI1,hI2,hI3⟩:=hI
 repeat' first
  | with_reducible refine nx ?_ ?_ ?_
  | with_reducible refine dn ?_
  | unfold Zbf
  | unfold Z9m
  | with_reducible refine brD (fun _=>?_) fun _=>?_
  | with_reducible refine brE (fun _=>?_) fun _=>?_
  | with_reducible refine br (fun _=>?_) fun _=>?_
  | with_reducible refine bd (gr (by omega) (by omega)) fun _ _=>?_
  | with_reducible refine bd (wr (by omega) (by omega)) fun _ _=>?_
  | with_reducible refine bd (gk (by simp only [List.length_append,List.length_cons,List.length_nil]; omega) (by simp only [List.length_append,List.length_cons,List.length_nil]; omega)) fun _ _=>?_
  | with_reducible refine bd (Y1a _ (by exact hl _ (by assumption))) fun _ _=>?_
  | with_reducible refine bd (Z6z _ _ (by first | assumption | omega) (by first | assumption | omega)) fun _ _=>?_
  | with_reducible refine bs ?_
  | (first | exact Z5p hI2 (by first | exact hl _ (by assumption) | exact Nat.zero_le _))
  | with_reducible refine And.intro ?_ ?_
  | assumption
  | exact True.intro
  | omega
  | (dsimp only; omega)
  | (simp only [List.length_set,List.length_append,List.length_cons,List.length_nil,List.length_replicate]; omega)
  | (obtain ⟨_,_⟩:=‹_ ∧ _›)
theorem Zsh (x : Z0j) (l : List Z0d) (hp : Z16 x.f_P) (hl : ∀ v ∈ l,Str v.Z1h.Z03) (hn : l.length * 56 ≤ 140737488355328) : Ok (Zcu x l) (fun r=>Z16 r.1.f_P ∧ (∀ v ∈ r.2,Str v.Z1h.Z03) ∧ r.2.length = l.length):=by
 unfold Zcu
 repeat' first
  | with_reducible refine bd (L106x1 _ _ _ (by first | assumption | omega | exact And.left (by assumption) | (dsimp only; omega)) (by first | assumption | omega | exact And.left (by assumption) | (dsimp only; omega)) (by first | assumption | omega | exact And.left (by assumption) | (dsimp only; omega))) fun _ _=>?_
  | with_reducible refine ok ?_
  | with_reducible refine And.intro ?_ ?_
  | assumption
  | exact True.intro
  | omega
  | (dsimp only; omega)
  | (simp only [List.length_set,List.length_append,List.length_cons,List.length_nil,List.length_replicate]; omega)
  | (obtain ⟨_,_⟩:=‹_ ∧ _›)
theorem L78x1 (p : List Z00) (e : Int) (c : Z06) (hp : Z16 p) (hc : Z4w c) : Ok (Z08 (Zf6 c) Z0c (0,p,e,([] : List Z01))) (fun q=>Z16 q.1 ∧ (∀ v ∈ q.2.2,Z2o v) ∧ q.2.2.length = c.Z0k.length):=by
 have:=hc.insL
 refine lp (fun t=>t.1) (c.Z0k.length) (fun t=>Z16 t.2.1 ∧ (∀ v ∈ t.2.2.2,Z2o v) ∧ (t.2.2.2.length : Int) = t.1) (fun t hI _ _=>?_) (by omega) (by exact ⟨hp,Z3v,rfl⟩) (by omega) (by omega)
 try dsimp only at *
 unfold Zf6
 obtain ⟨hI1,hI2,hI3⟩:=hI
 repeat' first
  | with_reducible refine nx ?_ ?_ ?_
  | with_reducible refine dn ?_
  | with_reducible refine brD (fun _=>?_) fun _=>?_
  | with_reducible refine br (fun _=>?_) fun _=>?_
  | with_reducible refine bd (gr (by omega) (by omega)) fun _ _=>?_
  | with_reducible refine bd (wr (by omega) (by omega)) fun _ _=>?_
  | with_reducible refine bd (gk (by simp only [List.length_append,List.length_cons,List.length_nil]; omega) (by simp only [List.length_append,List.length_cons,List.length_nil]; omega)) fun _ _=>?_
  | with_reducible refine bd (Zxu _ _ (by first | assumption | exact hc.ins _ (by assumption)) (by first | assumption | exact hc.ins _ (by assumption))) fun _ _=>?_
  | with_reducible refine bs ?_
  | (exact Z5p hI2 (And.right (by assumption)))
  | with_reducible refine And.intro ?_ ?_
  | assumption
  | exact True.intro
  | omega
  | (dsimp only; omega)
  | (simp only [List.length_set,List.length_append,List.length_cons,List.length_nil,List.length_replicate]; omega)
  | (obtain ⟨_,_⟩:=‹_ ∧ _›)
theorem L78x2 (p : List Z00) (e : Int) (c : Z06) (hp : Z16 p) (hc : Z4w c) : Ok (Z08 (Zjn c) Z0c (0,p,e,([] : List Z0g))) (fun q=>Z16 q.1 ∧ (∀ v ∈ q.2.2,v.Z1h = []) ∧ q.2.2.length = c.Z1g.length):=by
 have:=hc.hndL
 refine lp (fun t=>t.1) (c.Z1g.length) (fun t=>Z16 t.2.1 ∧ (∀ v ∈ t.2.2.2,v.Z1h = []) ∧ (t.2.2.2.length : Int) = t.1) (fun t hI _ _=>?_) (by omega) (by exact ⟨hp,Z3v,rfl⟩) (by omega) (by omega)
 try dsimp only at *
 unfold Zjn
 obtain ⟨hI1,hI2,hI3⟩:=hI
 repeat' first
  | with_reducible refine nx ?_ ?_ ?_
  | with_reducible refine dn ?_
  | unfold Zet
  | with_reducible refine brD (fun _=>?_) fun _=>?_
  | with_reducible refine br! (fun _=>?_) fun _=>?_
  | with_reducible refine br (fun _=>?_) fun _=>?_
  | with_reducible refine bd (gr (by omega) (by omega)) fun _ _=>?_
  | with_reducible refine bd (wr (by omega) (by omega)) fun _ _=>?_
  | with_reducible refine bd (gk (by simp only [List.length_append,List.length_cons,List.length_nil]; omega) (by simp only [List.length_append,List.length_cons,List.length_nil]; omega)) fun _ _=>?_
  | with_reducible refine bd (Zc0 _ _ (by first | assumption | exact hc.hnd _ (by assumption)) (by first | assumption | exact hc.hnd _ (by assumption))) fun _ _=>?_
  | with_reducible refine bs ?_
  | (exact Z5p hI2 rfl)
  | with_reducible refine And.intro ?_ ?_
  | assumption
  | exact True.intro
  | omega
  | (dsimp only; omega)
  | (simp only [List.length_set,List.length_append,List.length_cons,List.length_nil,List.length_replicate]; omega)
  | (obtain ⟨_,_⟩:=‹_ ∧ _›)
theorem Z92.of {m : Z0i} (h : Z92 m.Z1i) {l k : List Z0d} {b : Bool} (h1 : ∀ v ∈ l,Str v.Z1h.Z03) (h2 : l.length = m.Z1i.Z0p.length) (h3 : ∀ v ∈ k,Str v.Z1h.Z03) (h4 : k.length = m.Z1i.Z0s.length) :
  Z92 { Z0p:=l,Z0s:=k,Z4d:=b }:=⟨h1,by have:=h.locL; dsimp only; omega,h3,by have:=h.stkL; dsimp only; omega⟩
theorem L78x3 (p : List Z00) (e : Int) (c : Z06) (hp : Z16 p) (hc : Z4w c) : Ok (Z08 (Zi1 c) Z0c (0,p,e,([] : List Z0i))) (fun q=>Z16 q.1 ∧ (∀ v ∈ q.2.2,Z92 v.Z1i) ∧ q.2.2.length = c.Z11.length):=by
 have:=hc.mapL
 refine lp (fun t=>t.1) (c.Z11.length) (fun t=>Z16 t.2.1 ∧ (∀ v ∈ t.2.2.2,Z92 v.Z1i) ∧ (t.2.2.2.length : Int) = t.1) (fun t hI _ _=>?_) (by omega) ⟨hp,Z3v,rfl⟩ (by omega) (by omega)
 obtain ⟨hI1,hI2,hI3⟩:=hI
 unfold Zi1
 refine brD (fun hlt=>?_) fun _=>dn ⟨hI1,hI2,by dsimp only; omega⟩
 obtain ⟨y,hy,hm⟩:=gr (l:=c.Z11) (i:=t.1) (by omega) hlt
 simp only [hy]
 refine bs (bs (bd (Zsh _ _ hI1 (hc.map _ hm).loc (hc.map _ hm).locL) fun v1 h1=>bd (Zsh _ _ h1.1 (hc.map _ hm).stk (hc.map _ hm).stkL) fun v2 h2=>?_))
 refine bd (gk (by simp only [List.length_append,List.length_cons,List.length_nil]; omega) (by simp only [List.length_append,List.length_cons,List.length_nil]; omega)) fun _ _=>bd (wr (by omega) (by omega)) fun _ _=>?_
 exact nx ⟨h2.1,Z5p hI2 ((hc.map _ hm).of h1.2.1 h1.2.2 h2.2.1 h2.2.2),by simp only [List.length_append,List.length_cons,List.length_nil]; omega⟩ (by dsimp only; omega) (by dsimp only; omega)
theorem Zxr (x : Z0j) (c : Z06) (hp : Z16 x.f_P) (hc : Z4w c) : Ok (Zfe x c) (fun r=>Z16 r.1.f_P ∧ Z4w r.2):=by
 unfold Zfe
 refine bd (L78x1 _ _ _ hp hc) fun q0 h0=>bd (L78x2 _ _ _ h0.1 hc) fun q2 h2=>bd (L78x3 _ _ _ h2.1 hc) fun q4 h4=>ok ⟨h4.1,h0.2.1,?_,fun v hv=>?_,?_,h4.2.1,?_,hc.linL⟩
 ·have:=hc.insL; have:=h0.2.2; dsimp only; omega
 ·rw [h2.2.1 v hv]; simp
 ·have:=hc.hndL; have:=h2.2.2; dsimp only; omega
 ·have:=hc.mapL; have:=h4.2.2; dsimp only; omega
theorem L58x2 (p : List Z00) (e : Int) (m : Z2f) (hp : Z16 p) (hm : Z94 m) : Ok (Z08 (Zjs m) Z0c (0,p,e,([] : List Int))) (fun q=>Z16 q.1 ∧ q.2.2.length ≤ 140737488355328):=by
 have:=hm.excL
 refine lp (fun t=>t.1) (m.Z6a.length) (fun t=>Z16 t.2.1 ∧ (t.2.2.2.length : Int) = t.1) (fun t hI _ _=>?_) (by omega) (by exact ⟨hp,rfl⟩) (by omega) (by omega)
 try dsimp only at *
 unfold Zjs
 obtain ⟨hI1,hI3⟩:=hI
 repeat' first
  | with_reducible refine nx ?_ ?_ ?_
  | with_reducible refine dn ?_
  | with_reducible refine brD (fun _=>?_) fun _=>?_
  | with_reducible refine br (fun _=>?_) fun _=>?_
  | with_reducible refine bd (gr (by omega) (by omega)) fun _ _=>?_
  | with_reducible refine bd (wr (by omega) (by omega)) fun _ _=>?_
  | with_reducible refine bd (gk (by simp only [List.length_append,List.length_cons,List.length_nil]; omega) (by simp only [List.length_append,List.length_cons,List.length_nil]; omega)) fun _ _=>?_
  | with_reducible refine bd (Zc0 _ _ (by first | assumption | exact hm.exc _ (by assumption)) (by first | assumption | exact hm.exc _ (by assumption))) fun _ _=>?_
  | with_reducible refine bs ?_
  | with_reducible refine And.intro ?_ ?_
  | assumption
  | exact True.intro
  | omega
  | (dsimp only; omega)
  | (simp only [List.length_set,List.length_append,List.length_cons,List.length_nil,List.length_replicate]; omega)
  | (obtain ⟨_,_⟩:=‹_ ∧ _›)
structure Zar (n : Int) (ms : List Z0a) (cs : List Z06) (ts : List (List Int)) (ns : List Z1q) : Prop where
 m : (ms.length : Int) = n
 c : (cs.length : Int) = n
 t : (ts.length : Int) = n
 s : (ns.length : Int) = n
 code : ∀ v ∈ cs,Z4w v
 att : ∀ m ∈ ms,m.Z18 = []
 thr : ∀ l ∈ ts,l.length ≤ 140737488355328
theorem Zar.snoc {n k : Int} {ms : List Z0a} {cs : List Z06} {ts : List (List Int)} {ns : List Z1q} (h : Zar n ms cs ts ns) {m : Z0a} {c : Z06} {l : List Int} {s : Z1q} (ha : m.Z18 = []) (hc : Z4w c) (hl : l.length ≤ 140737488355328) (hk : k = n + 1) :
  Zar k (ms ++ [m]) (cs ++ [c]) (ts ++ [l]) (ns ++ [s]):=by
 obtain ⟨h1,h2,h3,h4,h5,h6,h7⟩:=h
 refine ⟨?_,?_,?_,?_,Z5p h5 hc,Z5p h6 ha,Z5p h7 hl⟩ <;> simp only [List.length_append,List.length_cons,List.length_nil] <;> omega
theorem WCode0 : Z4w { Z0s:=0,Z0p:=0,Z0k:=[],Z1g:=[],Z11:=[],Z1a:=[] }:=⟨Z3v,by simp,Z3v,by simp,Z3v,by simp,by simp⟩
abbrev S58:=Int × (List Z00) × Int × (List Z0a) × (List Z06) × (List (List Int)) × (List Z1q)
def I58 (t : S58) : Prop:=Z16 t.2.1 ∧ Zar t.1 t.2.2.2.1 t.2.2.2.2.1 t.2.2.2.2.2.1 t.2.2.2.2.2.2
def Q58 (n : Int) (q : (List Z00) × Int × (List Z0a) × (List Z06) × (List (List Int)) × (List Z1q)) : Prop:=Z16 q.1 ∧ Zar n q.2.2.1 q.2.2.2.1 q.2.2.2.2.1 q.2.2.2.2.2
theorem K58x2 {n : Int} {p26 p27 p28 : Int} {p29 : List Z01} {p30 : List Z0g} {p31 : List Z0i} {p32 : List Z0t} {t0 : S58} {v34 : Z2f} {v35 v36 : Z0j × Int} {p33 : List Z00} {p34 p35 : Int}
  (hI : I58 t0) (hp : Z16 p33) (hm : Z94 v34) (hc : Z4w { Z0s:=p27,Z0p:=p28,Z0k:=p29,Z1g:=p30,Z11:=p31,Z1a:=p32 }) (h0 : 0 ≤ t0.1) (h1 : t0.1 < n) (hn : n * 184 ≤ 140737488355328) :
  Ok (Zds p26 p27 p28 p29 p30 p31 p32 t0 v34 v35 v36 p33 p34 p35) (St I58 (fun t=>t.1) n (Q58 n) t0):=by
 unfold Zds
 have:=hI.2.m; have:=hI.2.c; have:=hI.2.t; have:=hI.2.s
 refine bd (L58x2 _ _ _ hp hm) fun q4 h4=>?_
 refine bd (gk (by simp only [List.length_append,List.length_cons,List.length_nil]; omega) (by simp only [List.length_append,List.length_cons,List.length_nil]; omega)) fun _ _=>?_
 refine bd (gk (by simp only [List.length_append,List.length_cons,List.length_nil]; omega) (by simp only [List.length_append,List.length_cons,List.length_nil]; omega)) fun _ _=>?_
 refine bd (gk (by simp only [List.length_append,List.length_cons,List.length_nil]; omega) (by simp only [List.length_append,List.length_cons,List.length_nil]; omega)) fun _ _=>?_
 refine bd (gk (by simp only [List.length_append,List.length_cons,List.length_nil]; omega) (by simp only [List.length_append,List.length_cons,List.length_nil]; omega)) fun _ _=>?_
 refine bd (wr (by omega) (by omega)) fun _ hv=>?_
 exact nx ⟨h4.1,hI.2.snoc rfl hc h4.2 hv⟩ (by dsimp only; omega) (by dsimp only; omega)
theorem K58x1 {n : Int} {t0 : S58} {v34 : Z2f} {v35 v36 : Z0j × Int} {p24 : List Z00} {p25 p26 p27 p28 : Int} {p29 : List Z01} {p30 : List Z0g} {p31 : List Z0i} {p32 : List Z0t}
  (hI : I58 t0) (hp : Z16 p24) (hm : Z94 v34) (hc : Z4w { Z0s:=p27,Z0p:=p28,Z0k:=p29,Z1g:=p30,Z11:=p31,Z1a:=p32 }) (h0 : 0 ≤ t0.1) (h1 : t0.1 < n) (hn : n * 184 ≤ 140737488355328) :
  Ok (Zdt t0 v34 v35 v36 p24 p25 p26 p27 p28 p29 p30 p31 p32) (St I58 (fun t=>t.1) n (Q58 n) t0):=by
 unfold Zdt
 exact brD (fun _=>bd (Z6z _ _ hp (by simp)) fun v hv=>K58x2 hI hv hm hc h0 h1 hn) fun _=>K58x2 hI hp hm hc h0 h1 hn
theorem L58x1 (p : List Z00) (e : Int) (u : Z12) (hp : Z16 p) (hu : Z55 u) : Ok (Z08 (Zfw u) Z0c (0,p,e,[],[],[],[])) (Q58 u.Z17.length):=by
 have:=hu.metL
 refine lp (fun t=>t.1) (u.Z17.length) I58 (fun t hI h0 h1=>?_) (by omega) ⟨hp,rfl,rfl,rfl,rfl,Z3v,Z3v,Z3v⟩ (by omega) (by omega)
 unfold Zfw
 refine brD (fun hlt => ?_) fun hge => dn ⟨hI.1, by have : t.1 = u.Z17.length:=by omega
                                                    rw [← this]; exact hI.2⟩
 refine bd (gr (by omega) (by omega)) fun m hm=>bd (Z6z _ _ hI.1 (hu.met _ hm).n) fun v1 h1=>bd (Z6z _ _ h1 (hu.met _ hm).d) fun v2 h2=>br (fun _=>?_) fun _=>?_
 ·exact bd (Z6z _ _ h2 (by simp)) fun v3 h3=>bd (Zxr _ _ h3 (hu.met _ hm).code) fun v4 h4=>K58x1 hI h4.1 (hu.met _ hm) h4.2 h0 hlt (by omega)
 ·exact K58x1 hI h2 (hu.met _ hm) WCode0 h0 hlt (by omega)
structure Zb9 (u : Z12) (h : Z1z) : Prop where
 pool : Z16 h.f_F.Z1v
 fam : Zar u.Z17.length h.f_F.Z17 h.Z7h h.Z7d h.Z6e
 ifsL : h.f_F.Z14.length = u.Z14.length
 fldL : h.f_F.Z19.length = u.Z19.length
 fld : ∀ m ∈ h.f_F.Z19,m.Z18.length ≤ 1 ∧ ∀ a ∈ m.Z18,Str a.Z23
 attL : h.f_F.Z18.length ≤ 1
 att : ∀ a ∈ h.f_F.Z18,Str a.Z23
theorem L48x1 (p : List Z00) (e : Int) (u : Z12) (hp : Z16 p) (hu : Z55 u) : Ok (Z08 (Zis u) Z0c (0,p,e,([] : List Int))) (fun q=>Z16 q.1 ∧ q.2.2.length = u.Z14.length):=by
 have:=hu.ifsL
 refine lp (fun t=>t.1) (u.Z14.length) (fun t=>Z16 t.2.1 ∧ (t.2.2.2.length : Int) = t.1) (fun t hI h0 h1=>?_) (by omega) ⟨hp,rfl⟩ (by omega) (by omega)
 obtain ⟨hI1,hI3⟩:=hI
 unfold Zis
 refine brD (fun hlt=>?_) fun hge=>dn ⟨hI1,by dsimp only; omega⟩
 refine bd (gr (by omega) (by omega)) fun s hs=>bd (Zc0 _ _ hI1 (hu.ifs _ hs)) fun v1 h1=>?_
 refine bd (gk (by simp only [List.length_append,List.length_cons,List.length_nil]; omega) (by simp only [List.length_append,List.length_cons,List.length_nil]; omega)) fun _ _=>bd (wr (by omega) (by omega)) fun _ hv=>?_
 exact nx ⟨h1,by simp only [List.length_append,List.length_cons,List.length_nil]; omega⟩ (by dsimp only; omega) (by dsimp only; omega)
def MAt (m : Z0a) : Prop:=m.Z18.length ≤ 1 ∧ ∀ a ∈ m.Z18,Str a.Z23
abbrev S48:=Int × (List Z00) × Int × (List Z0a)
def I48 (t : S48) : Prop:=Z16 t.2.1 ∧ (t.2.2.2.length : Int) = t.1 ∧ ∀ m ∈ t.2.2.2,MAt m
theorem K48x2 {u : Z12} (hu : Z55 u) {t1 : S48} {v26 : Z3i} {v27 v28 : Z0j × Int} {p9 : List Z00} {p10 : Int} {p11 : List Z0x} (hI : I48 t1) (hp : Z16 p9) (ha : p11.length ≤ 1 ∧ ∀ a ∈ p11,Str a.Z23) (h0 : 0 ≤ t1.1) (h1 : t1.1 < u.Z19.length) :
  Ok (Zdk t1 v26 v27 v28 p9 p10 p11) (St I48 (fun t=>t.1) u.Z19.length (fun q=>Z16 q.1 ∧ q.2.2.length = u.Z19.length ∧ ∀ m ∈ q.2.2,MAt m) t1):=by
 have:=hu.fldL
 obtain ⟨hI1,hI2,hI3⟩:=hI
 unfold Zdk
 refine bd (gk (by simp only [List.length_append,List.length_cons,List.length_nil]; omega) (by simp only [List.length_append,List.length_cons,List.length_nil]; omega)) fun _ _=>bd (wr (by omega) (by omega)) fun _ hv=>?_
 exact nx ⟨hp,by simp only [List.length_append,List.length_cons,List.length_nil]; omega,Z5p hI3 ha⟩ (by dsimp only; omega) (by dsimp only; omega)
theorem L48x2 (p : List Z00) (e : Int) (u : Z12) (hp : Z16 p) (hu : Z55 u) : Ok (Z08 (Zg3 u) Z0c (0,p,e,([] : List Z0a))) (fun q=>Z16 q.1 ∧ q.2.2.length = u.Z19.length ∧ ∀ m ∈ q.2.2,MAt m):=by
 have:=hu.fldL
 refine lp (fun t=>t.1) (u.Z19.length) I48 (fun t hI h0 h1=>?_) (by omega) ⟨hp,rfl,Z3v⟩ (by omega) (by omega)
 unfold Zg3
 refine brD (fun hlt=>?_) fun hge=>dn ⟨hI.1,by have:=hI.2.1; dsimp only; omega,hI.2.2⟩
 refine bd (gr (by omega) (by omega)) fun f hf=>bd (Z6z _ _ hI.1 (hu.fld _ hf).n) fun v1 h1=>bd (Z6z _ _ h1 (hu.fld _ hf).d) fun v2 h2=>brN (fun _=>?_) fun _=>?_
 ·exact bd (Z6z _ _ h2 (by simp)) fun v3 h3=>bd (Y0u _ _ h3 (hu.fld _ hf)) fun v4 h4=>bd (Zp4 _) fun v5 h5=>K48x2 hu hI h4 ⟨by simp,fun a ha=>by rw [List.mem_singleton.1 ha]; show v5.length ≤ _; omega⟩ h0 hlt
 ·exact K48x2 hu hI h2 ⟨by simp,Z3v⟩ h0 hlt
theorem Zxa (x : Z0j) (u : Z12) (h : Z1z) (hp : Z16 x.f_P) (hu : Z55 u) (hi : h.f_F.Z14.length = u.Z14.length) (hf : h.f_F.Z19.length = u.Z19.length) (hm : ∀ m ∈ h.f_F.Z19,MAt m) :
  Ok (Zi9 x u h) (fun r=>Z16 r.1.f_P ∧ Zb9 u r.2):=by
 unfold Zi9
 exact bd (L58x1 _ _ _ hp hu) fun q hq=>ok ⟨hq.1,Z16.nil,hq.2,hi,hf,hm,by simp,Z3v⟩
theorem K48x3 {u : Z12} {v34 : Z0j × Z1z} (hw : Zb9 u v34.2) {p12 : List Z00} {p13 : Int} {p14 : List Z0x} (hp : Z16 p12) (ha : p14.length ≤ 1 ∧ ∀ a ∈ p14,Str a.Z23) : Ok (Zbz v34 p12 p13 p14) (fun r=>Z16 r.1.f_P ∧ Zb9 u r.2):=by
 unfold Zbz
 exact ok ⟨hp,hp,hw.fam,hw.ifsL,hw.fldL,hw.fld,ha.1,ha.2⟩
theorem K48x1 {u : Z12} (hu : Z55 u) {v0 : Z0j × Int} {p0 : List Z00} {p1 p2 : Int} (hp : Z16 p0) : Ok (Zc3 v0 u p0 p1 p2) (fun r=>Z16 r.1.f_P ∧ Zb9 u r.2):=by
 unfold Zc3
 refine bd (L48x1 _ _ _ hp hu) fun q0 h0=>bd (L48x2 _ _ _ h0.1 hu) fun q2 h2=>bd (Zxa _ _ _ h2.1 hu ?_ ?_ h2.2.2) fun v34 hv=>br (fun _=>?_) fun _=>K48x3 hv.2 hv.1 ⟨hv.2.attL,hv.2.att⟩
 ·exact h0.2
 ·exact h2.2.1
 ·exact bd (Z6z _ _ hv.1 (by simp)) fun v1 h1=>bd (Z6z _ _ h1 hu.src) fun v2 h2=>bd (Zp4 _) fun v5 h5=>K48x3 hv.2 h2 ⟨by simp,fun a ha=>by rw [List.mem_singleton.1 ha]; show v5.length ≤ _; omega⟩
theorem Zxx (x : Z0j) (u : Z12) (hp : Z16 x.f_P) (hu : Z55 u) : Ok (Zjq x u) (fun r=>Zb9 u r.2):=by
 unfold Zjq
 refine (bd (Zc0 _ _ hp hu.n) fun v0 h0=>br (fun _=>bd (Zc0 _ _ h0 hu.sup) fun v1 h1=>K48x1 hu h1) fun _=>K48x1 hu h0 : Ok _ (fun r : Z0j × Z1z=>Z16 r.1.f_P ∧ Zb9 u r.2)).mono fun r hr=>hr.2
end Go.Proofs
