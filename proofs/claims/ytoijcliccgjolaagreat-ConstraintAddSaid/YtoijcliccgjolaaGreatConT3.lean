/-
  That the models come to an answer, part three: a model becomes half a file. No condition.
-/
import Derived.Test.YtoijcliccgjolaaGreatConT2
import Derived.Test.YtoijcliccgjolaaGreatConT4
set_option linter.unusedVariables false
namespace Go.Proofs
open Go.Den Go.Tot
theorem runeLen (n : Int) : (Zol n).length ≤ 4:=by
 unfold Zol Utf8.encode
 dsimp only
 repeat' split
 all_goals simp [ByteArray.push]
theorem Zr0 (y : Z0n) (ht : Str y.Z02) : Ok (Zcd y) (fun b=>b = true → 0 ≤ y.Z1w ∧ y.Z1w ≤ 8 ∧ y.Z02.length ≤ 64):=by
 unfold Zcd
 repeat' first
  | unfold Zny
  | unfold Zn3
  | unfold Zos
  | with_reducible refine brD (fun _=>?_) fun _=>?_
  | with_reducible refine brE (fun _=>?_) fun _=>?_
  | with_reducible refine br (fun _=>?_) fun _=>?_
  | with_reducible refine bd (Zjz _ (by first | assumption | omega | exact And.left (by assumption) | (dsimp only; omega))) fun _ _=>?_
  | with_reducible refine bs ?_
  | with_reducible refine ok ?_
  | ((intro hb; first | (cases hb; done) | exact ⟨by omega,by omega,by simp_all⟩))
  | with_reducible refine And.intro ?_ ?_
  | assumption
  | exact True.intro
  | omega
  | (dsimp only; omega)
  | (simp only [List.length_set,List.length_append,List.length_cons,List.length_nil,List.length_replicate]; omega)
  | (obtain ⟨_,_⟩:=‹_ ∧ _›)
theorem L136x1 (y : Z0n) (h0 : 0 ≤ y.Z1w) (h8 : y.Z1w ≤ 8) : Ok (Z09 (Zfx y) Z0a ([],0)) (fun r=>r.length ≤ 8):=by
 refine lp (fun s=>s.2) (y.Z1w) (fun s=>(s.1.length : Int) = s.2) (fun t hI _ _=>?_) (by omega) (by simp) (by omega) (by omega)
 try dsimp only at *
 unfold Zfx
 repeat' first
  | with_reducible refine nx ?_ ?_ ?_
  | with_reducible refine dn ?_
  | with_reducible refine brD (fun _=>?_) fun _=>?_
  | with_reducible refine br (fun _=>?_) fun _=>?_
  | with_reducible refine bd (wr (by omega) (by omega)) fun _ _=>?_
  | with_reducible refine bd (ct (by first | omega | (simp only [List.length_cons,List.length_nil]; omega))) fun _ _=>?_
  | with_reducible refine bs ?_
  | ((simp only [*,List.length_append,List.length_cons,List.length_nil]; omega))
  | with_reducible refine And.intro ?_ ?_
  | assumption
  | exact True.intro
  | omega
  | (dsimp only; omega)
  | (simp only [List.length_set,List.length_append,List.length_cons,List.length_nil,List.length_replicate]; omega)
  | (obtain ⟨_,_⟩:=‹_ ∧ _›)
theorem Y2w (y : Z0n) (ht : Str y.Z02) : Ok (Zhj y) (fun r=>r.1.length ≤ 100):=by
 have:=runeLen (IntKind.wrap .i32 y.Z1s)
 unfold Zhj
 repeat' first
  | with_reducible refine bd (Zr0 _ ht) fun _ hv=>?_
  | with_reducible refine br! (fun _=>?_) fun hb=>?_
  | with_reducible refine bd (L136x1 _ (hv hb).1 (hv hb).2.1) fun _ _=>?_
  | with_reducible refine br! (fun _=>?_) fun _=>?_
  | with_reducible refine brE (fun _=>?_) fun _=>?_
  | with_reducible refine br (fun _=>?_) fun _=>?_
  | with_reducible refine bd (ct (by have:=(hv hb).2.2; first | omega | (simp only [List.length_cons,List.length_nil]; omega))) fun _ _=>?_
  | with_reducible refine bs ?_
  | with_reducible refine ok ?_
  | (first | (simp; done) | (dsimp only; have:=(hv hb).2.2; simp only [List.length_cons,List.length_nil] at *; omega))
  | with_reducible refine And.intro ?_ ?_
  | assumption
  | exact True.intro
  | omega
  | (dsimp only; omega)
  | (simp only [List.length_set,List.length_append,List.length_cons,List.length_nil,List.length_replicate]; omega)
  | (obtain ⟨_,_⟩:=‹_ ∧ _›)
theorem L106x1 (p : List Z00) (e : Int) (l : List Z0f) (hp : Z1g p) (hl : ∀ v ∈ l,Str v.Z1k.Z02) (hn : l.length * 56 ≤ 140737488355328) : Ok (Z09 (Zjl l) Z0a (0,p,e,([] : List Z0f))) (fun q=>Z1g q.1 ∧ (∀ v ∈ q.2.2,Str v.Z1k.Z02) ∧ q.2.2.length = l.length):=by
 refine lp (fun t=>t.1) (l.length) (fun t=>Z1g t.2.1 ∧ (∀ v ∈ t.2.2.2,Str v.Z1k.Z02) ∧ (t.2.2.2.length : Int) = t.1) (fun t hI _ _=>?_) (by omega) (by exact ⟨hp,Z3x,rfl⟩) (by omega) (by omega)
 try dsimp only at *
 unfold Zjl
 obtain ⟨hI1,hI2,hI3⟩:=hI
 repeat' first
  | with_reducible refine nx ?_ ?_ ?_
  | with_reducible refine dn ?_
  | unfold Zdg
  | unfold Z9p
  | with_reducible refine brD (fun _=>?_) fun _=>?_
  | with_reducible refine brE (fun _=>?_) fun _=>?_
  | with_reducible refine br (fun _=>?_) fun _=>?_
  | with_reducible refine bd (gr (by omega) (by omega)) fun _ _=>?_
  | with_reducible refine bd (wr (by omega) (by omega)) fun _ _=>?_
  | with_reducible refine bd (gk (by simp only [List.length_append,List.length_cons,List.length_nil]; omega) (by simp only [List.length_append,List.length_cons,List.length_nil]; omega)) fun _ _=>?_
  | with_reducible refine bd (Y2w _ (by exact hl _ (by assumption))) fun _ _=>?_
  | with_reducible refine bd (Z73 _ _ (by first | assumption | omega) (by first | assumption | omega)) fun _ _=>?_
  | with_reducible refine bs ?_
  | (first | exact Z5y hI2 (by first | exact hl _ (by assumption) | exact Nat.zero_le _))
  | with_reducible refine And.intro ?_ ?_
  | assumption
  | exact True.intro
  | omega
  | (dsimp only; omega)
  | (simp only [List.length_set,List.length_append,List.length_cons,List.length_nil,List.length_replicate]; omega)
  | (obtain ⟨_,_⟩:=‹_ ∧ _›)
theorem Ztq (x : Z0m) (l : List Z0f) (hp : Z1g x.f_P) (hl : ∀ v ∈ l,Str v.Z1k.Z02) (hn : l.length * 56 ≤ 140737488355328) : Ok (Zfa x l) (fun r=>Z1g r.1.f_P ∧ (∀ v ∈ r.2,Str v.Z1k.Z02) ∧ r.2.length = l.length):=by
 unfold Zfa
 repeat' first
  | with_reducible refine bd (L106x1 _ _ _ (by first | assumption | omega | exact And.left (by assumption) | (dsimp only; omega)) (by first | assumption | omega | exact And.left (by assumption) | (dsimp only; omega)) (by first | assumption | omega | exact And.left (by assumption) | (dsimp only; omega))) fun _ _=>?_
  | with_reducible refine ok ?_
  | with_reducible refine And.intro ?_ ?_
  | assumption
  | exact True.intro
  | omega
  | (dsimp only; omega)
  | (simp only [List.length_set,List.length_append,List.length_cons,List.length_nil,List.length_replicate]; omega)
  | (obtain ⟨_,_⟩:=‹_ ∧ _›)
theorem L78x1 (p : List Z00) (e : Int) (c : Z07) (hp : Z1g p) (hc : Z4n c) : Ok (Z09 (Zlc c) Z0a (0,p,e,([] : List Z01))) (fun q=>Z1g q.1 ∧ (∀ v ∈ q.2.2,Z2t v) ∧ q.2.2.length = c.Z0k.length):=by
 have:=hc.insL
 refine lp (fun t=>t.1) (c.Z0k.length) (fun t=>Z1g t.2.1 ∧ (∀ v ∈ t.2.2.2,Z2t v) ∧ (t.2.2.2.length : Int) = t.1) (fun t hI _ _=>?_) (by omega) (by exact ⟨hp,Z3x,rfl⟩) (by omega) (by omega)
 try dsimp only at *
 unfold Zlc
 obtain ⟨hI1,hI2,hI3⟩:=hI
 repeat' first
  | with_reducible refine nx ?_ ?_ ?_
  | with_reducible refine dn ?_
  | with_reducible refine brD (fun _=>?_) fun _=>?_
  | with_reducible refine br (fun _=>?_) fun _=>?_
  | with_reducible refine bd (gr (by omega) (by omega)) fun _ _=>?_
  | with_reducible refine bd (wr (by omega) (by omega)) fun _ _=>?_
  | with_reducible refine bd (gk (by simp only [List.length_append,List.length_cons,List.length_nil]; omega) (by simp only [List.length_append,List.length_cons,List.length_nil]; omega)) fun _ _=>?_
  | with_reducible refine bd (Zzx _ _ (by first | assumption | exact hc.ins _ (by assumption)) (by first | assumption | exact hc.ins _ (by assumption))) fun _ _=>?_
  | with_reducible refine bs ?_
  | (exact Z5y hI2 (And.right (by assumption)))
  | with_reducible refine And.intro ?_ ?_
  | assumption
  | exact True.intro
  | omega
  | (dsimp only; omega)
  | (simp only [List.length_set,List.length_append,List.length_cons,List.length_nil,List.length_replicate]; omega)
  | (obtain ⟨_,_⟩:=‹_ ∧ _›)
theorem L78x2 (p : List Z00) (e : Int) (c : Z07) (hp : Z1g p) (hc : Z4n c) : Ok (Z09 (Zld c) Z0a (0,p,e,([] : List Z0h))) (fun q=>Z1g q.1 ∧ (∀ v ∈ q.2.2,v.Z1k = []) ∧ q.2.2.length = c.Z1d.length):=by
 have:=hc.hndL
 refine lp (fun t=>t.1) (c.Z1d.length) (fun t=>Z1g t.2.1 ∧ (∀ v ∈ t.2.2.2,v.Z1k = []) ∧ (t.2.2.2.length : Int) = t.1) (fun t hI _ _=>?_) (by omega) (by exact ⟨hp,Z3x,rfl⟩) (by omega) (by omega)
 try dsimp only at *
 unfold Zld
 obtain ⟨hI1,hI2,hI3⟩:=hI
 repeat' first
  | with_reducible refine nx ?_ ?_ ?_
  | with_reducible refine dn ?_
  | unfold Zgx
  | with_reducible refine brD (fun _=>?_) fun _=>?_
  | with_reducible refine br! (fun _=>?_) fun _=>?_
  | with_reducible refine br (fun _=>?_) fun _=>?_
  | with_reducible refine bd (gr (by omega) (by omega)) fun _ _=>?_
  | with_reducible refine bd (wr (by omega) (by omega)) fun _ _=>?_
  | with_reducible refine bd (gk (by simp only [List.length_append,List.length_cons,List.length_nil]; omega) (by simp only [List.length_append,List.length_cons,List.length_nil]; omega)) fun _ _=>?_
  | with_reducible refine bd (Zex _ _ (by first | assumption | exact hc.hnd _ (by assumption)) (by first | assumption | exact hc.hnd _ (by assumption))) fun _ _=>?_
  | with_reducible refine bs ?_
  | (exact Z5y hI2 rfl)
  | with_reducible refine And.intro ?_ ?_
  | assumption
  | exact True.intro
  | omega
  | (dsimp only; omega)
  | (simp only [List.length_set,List.length_append,List.length_cons,List.length_nil,List.length_replicate]; omega)
  | (obtain ⟨_,_⟩:=‹_ ∧ _›)
theorem Z7c.of {m : Z0j} (h : Z7c m.Z1p) {l k : List Z0f} {b : Bool} (h1 : ∀ v ∈ l,Str v.Z1k.Z02) (h2 : l.length = m.Z1p.Z0q.length) (h3 : ∀ v ∈ k,Str v.Z1k.Z02) (h4 : k.length = m.Z1p.Z0s.length) :
  Z7c { Z0q:=l,Z0s:=k,Z3z:=b }:=⟨h1,by have:=h.locL; dsimp only; omega,h3,by have:=h.stkL; dsimp only; omega⟩
theorem L78x3 (p : List Z00) (e : Int) (c : Z07) (hp : Z1g p) (hc : Z4n c) : Ok (Z09 (Zib c) Z0a (0,p,e,([] : List Z0j))) (fun q=>Z1g q.1 ∧ (∀ v ∈ q.2.2,Z7c v.Z1p) ∧ q.2.2.length = c.Z16.length):=by
 have:=hc.mapL
 refine lp (fun t=>t.1) (c.Z16.length) (fun t=>Z1g t.2.1 ∧ (∀ v ∈ t.2.2.2,Z7c v.Z1p) ∧ (t.2.2.2.length : Int) = t.1) (fun t hI _ _=>?_) (by omega) ⟨hp,Z3x,rfl⟩ (by omega) (by omega)
 obtain ⟨hI1,hI2,hI3⟩:=hI
 unfold Zib
 refine brD (fun hlt=>?_) fun _=>dn ⟨hI1,hI2,by dsimp only; omega⟩
 obtain ⟨y,hy,hm⟩:=gr (l:=c.Z16) (i:=t.1) (by omega) hlt
 simp only [hy]
 refine bs (bs (bd (Ztq _ _ hI1 (hc.map _ hm).loc (hc.map _ hm).locL) fun v1 h1=>bd (Ztq _ _ h1.1 (hc.map _ hm).stk (hc.map _ hm).stkL) fun v2 h2=>?_))
 refine bd (gk (by simp only [List.length_append,List.length_cons,List.length_nil]; omega) (by simp only [List.length_append,List.length_cons,List.length_nil]; omega)) fun _ _=>bd (wr (by omega) (by omega)) fun _ _=>?_
 exact nx ⟨h2.1,Z5y hI2 ((hc.map _ hm).of h1.2.1 h1.2.2 h2.2.1 h2.2.2),by simp only [List.length_append,List.length_cons,List.length_nil]; omega⟩ (by dsimp only; omega) (by dsimp only; omega)
theorem Y11 (x : Z0m) (c : Z07) (hp : Z1g x.f_P) (hc : Z4n c) : Ok (Zkv x c) (fun r=>Z1g r.1.f_P ∧ Z4n r.2):=by
 unfold Zkv
 refine bd (L78x1 _ _ _ hp hc) fun q0 h0=>bd (L78x2 _ _ _ h0.1 hc) fun q2 h2=>bd (L78x3 _ _ _ h2.1 hc) fun q4 h4=>ok ⟨h4.1,h0.2.1,?_,fun v hv=>?_,?_,h4.2.1,?_,hc.linL⟩
 ·have:=hc.insL; have:=h0.2.2; dsimp only; omega
 ·rw [h2.2.1 v hv]; simp
 ·have:=hc.hndL; have:=h2.2.2; dsimp only; omega
 ·have:=hc.mapL; have:=h4.2.2; dsimp only; omega
theorem L58x2 (p : List Z00) (e : Int) (m : Z2m) (hp : Z1g p) (hm : Z9k m) : Ok (Z09 (Zhm m) Z0a (0,p,e,([] : List Int))) (fun q=>Z1g q.1 ∧ q.2.2.length ≤ 140737488355328):=by
 have:=hm.excL
 refine lp (fun t=>t.1) (m.Z5b.length) (fun t=>Z1g t.2.1 ∧ (t.2.2.2.length : Int) = t.1) (fun t hI _ _=>?_) (by omega) (by exact ⟨hp,rfl⟩) (by omega) (by omega)
 try dsimp only at *
 unfold Zhm
 obtain ⟨hI1,hI3⟩:=hI
 repeat' first
  | with_reducible refine nx ?_ ?_ ?_
  | with_reducible refine dn ?_
  | with_reducible refine brD (fun _=>?_) fun _=>?_
  | with_reducible refine br (fun _=>?_) fun _=>?_
  | with_reducible refine bd (gr (by omega) (by omega)) fun _ _=>?_
  | with_reducible refine bd (wr (by omega) (by omega)) fun _ _=>?_
  | with_reducible refine bd (gk (by simp only [List.length_append,List.length_cons,List.length_nil]; omega) (by simp only [List.length_append,List.length_cons,List.length_nil]; omega)) fun _ _=>?_
  | with_reducible refine bd (Zex _ _ (by first | assumption | exact hm.exc _ (by assumption)) (by first | assumption | exact hm.exc _ (by assumption))) fun _ _=>?_
  | with_reducible refine bs ?_
  | with_reducible refine And.intro ?_ ?_
  | assumption
  | exact True.intro
  | omega
  | (dsimp only; omega)
  | (simp only [List.length_set,List.length_append,List.length_cons,List.length_nil,List.length_replicate]; omega)
  | (obtain ⟨_,_⟩:=‹_ ∧ _›)
structure Zbb (n : Int) (ms : List Z0e) (cs : List Z07) (ts : List (List Int)) (ns : List Z1l) : Prop where
 m : (ms.length : Int) = n
 c : (cs.length : Int) = n
 t : (ts.length : Int) = n
 s : (ns.length : Int) = n
 code : ∀ v ∈ cs,Z4n v
 att : ∀ m ∈ ms,m.Z1i = []
 thr : ∀ l ∈ ts,l.length ≤ 140737488355328
theorem Zbb.snoc {n k : Int} {ms : List Z0e} {cs : List Z07} {ts : List (List Int)} {ns : List Z1l} (h : Zbb n ms cs ts ns) {m : Z0e} {c : Z07} {l : List Int} {s : Z1l} (ha : m.Z1i = []) (hc : Z4n c) (hl : l.length ≤ 140737488355328) (hk : k = n + 1) :
  Zbb k (ms ++ [m]) (cs ++ [c]) (ts ++ [l]) (ns ++ [s]):=by
 obtain ⟨h1,h2,h3,h4,h5,h6,h7⟩:=h
 refine ⟨?_,?_,?_,?_,Z5y h5 hc,Z5y h6 ha,Z5y h7 hl⟩ <;> simp only [List.length_append,List.length_cons,List.length_nil] <;> omega
theorem WCode0 : Z4n { Z0s:=0,Z0q:=0,Z0k:=[],Z1d:=[],Z16:=[],Z1b:=[] }:=⟨Z3x,by simp,Z3x,by simp,Z3x,by simp,by simp⟩
abbrev S58:=Int × (List Z00) × Int × (List Z0e) × (List Z07) × (List (List Int)) × (List Z1l)
def I58 (t : S58) : Prop:=Z1g t.2.1 ∧ Zbb t.1 t.2.2.2.1 t.2.2.2.2.1 t.2.2.2.2.2.1 t.2.2.2.2.2.2
def Q58 (n : Int) (q : (List Z00) × Int × (List Z0e) × (List Z07) × (List (List Int)) × (List Z1l)) : Prop:=Z1g q.1 ∧ Zbb n q.2.2.1 q.2.2.2.1 q.2.2.2.2.1 q.2.2.2.2.2
theorem K58x2 {n : Int} {p26 p27 p28 : Int} {p29 : List Z01} {p30 : List Z0h} {p31 : List Z0j} {p32 : List Z0v} {t0 : S58} {v34 : Z2m} {v35 v36 : Z0m × Int} {p33 : List Z00} {p34 p35 : Int}
  (hI : I58 t0) (hp : Z1g p33) (hm : Z9k v34) (hc : Z4n { Z0s:=p27,Z0q:=p28,Z0k:=p29,Z1d:=p30,Z16:=p31,Z1b:=p32 }) (h0 : 0 ≤ t0.1) (h1 : t0.1 < n) (hn : n * 184 ≤ 140737488355328) :
  Ok (Zce p26 p27 p28 p29 p30 p31 p32 t0 v34 v35 v36 p33 p34 p35) (St I58 (fun t=>t.1) n (Q58 n) t0):=by
 unfold Zce
 have:=hI.2.m; have:=hI.2.c; have:=hI.2.t; have:=hI.2.s
 refine bd (L58x2 _ _ _ hp hm) fun q4 h4=>?_
 refine bd (gk (by simp only [List.length_append,List.length_cons,List.length_nil]; omega) (by simp only [List.length_append,List.length_cons,List.length_nil]; omega)) fun _ _=>?_
 refine bd (gk (by simp only [List.length_append,List.length_cons,List.length_nil]; omega) (by simp only [List.length_append,List.length_cons,List.length_nil]; omega)) fun _ _=>?_
 refine bd (gk (by simp only [List.length_append,List.length_cons,List.length_nil]; omega) (by simp only [List.length_append,List.length_cons,List.length_nil]; omega)) fun _ _=>?_
 refine bd (gk (by simp only [List.length_append,List.length_cons,List.length_nil]; omega) (by simp only [List.length_append,List.length_cons,List.length_nil]; omega)) fun _ _=>?_
 refine bd (wr (by omega) (by omega)) fun _ hv=>?_
 exact nx ⟨h4.1,hI.2.snoc rfl hc h4.2 hv⟩ (by dsimp only; omega) (by dsimp only; omega)
theorem K58x1 {n : Int} {t0 : S58} {v34 : Z2m} {v35 v36 : Z0m × Int} {p24 : List Z00} {p25 p26 p27 p28 : Int} {p29 : List Z01} {p30 : List Z0h} {p31 : List Z0j} {p32 : List Z0v}
  (hI : I58 t0) (hp : Z1g p24) (hm : Z9k v34) (hc : Z4n { Z0s:=p27,Z0q:=p28,Z0k:=p29,Z1d:=p30,Z16:=p31,Z1b:=p32 }) (h0 : 0 ≤ t0.1) (h1 : t0.1 < n) (hn : n * 184 ≤ 140737488355328) :
  Ok (Zeo t0 v34 v35 v36 p24 p25 p26 p27 p28 p29 p30 p31 p32) (St I58 (fun t=>t.1) n (Q58 n) t0):=by
 unfold Zeo
 exact brD (fun _=>bd (Z73 _ _ hp (by simp)) fun v hv=>K58x2 hI hv hm hc h0 h1 hn) fun _=>K58x2 hI hp hm hc h0 h1 hn
theorem L58x1 (p : List Z00) (e : Int) (u : Z10) (hp : Z1g p) (hu : Z4t u) : Ok (Z09 (Zk7 u) Z0a (0,p,e,[],[],[],[])) (Q58 u.Z17.length):=by
 have:=hu.metL
 refine lp (fun t=>t.1) (u.Z17.length) I58 (fun t hI h0 h1=>?_) (by omega) ⟨hp,rfl,rfl,rfl,rfl,Z3x,Z3x,Z3x⟩ (by omega) (by omega)
 unfold Zk7
 refine brD (fun hlt => ?_) fun hge => dn ⟨hI.1, by have : t.1 = u.Z17.length:=by omega
                                                    rw [← this]; exact hI.2⟩
 refine bd (gr (by omega) (by omega)) fun m hm=>bd (Z73 _ _ hI.1 (hu.met _ hm).n) fun v1 h1=>bd (Z73 _ _ h1 (hu.met _ hm).d) fun v2 h2=>br (fun _=>?_) fun _=>?_
 ·exact bd (Z73 _ _ h2 (by simp)) fun v3 h3=>bd (Y11 _ _ h3 (hu.met _ hm).code) fun v4 h4=>K58x1 hI h4.1 (hu.met _ hm) h4.2 h0 hlt (by omega)
 ·exact K58x1 hI h2 (hu.met _ hm) WCode0 h0 hlt (by omega)
structure Zav (u : Z10) (h : Z24) : Prop where
 pool : Z1g h.f_F.Z1z
 fam : Zbb u.Z17.length h.f_F.Z17 h.Z7s h.Z7g h.Z6k
 ifsL : h.f_F.Z11.length = u.Z11.length
 fldL : h.f_F.Z1a.length = u.Z1a.length
 fld : ∀ m ∈ h.f_F.Z1a,m.Z1i.length ≤ 1 ∧ ∀ a ∈ m.Z1i,Str a.Z27
 attL : h.f_F.Z1i.length ≤ 1
 att : ∀ a ∈ h.f_F.Z1i,Str a.Z27
theorem L48x1 (p : List Z00) (e : Int) (u : Z10) (hp : Z1g p) (hu : Z4t u) : Ok (Z09 (Zgv u) Z0a (0,p,e,([] : List Int))) (fun q=>Z1g q.1 ∧ q.2.2.length = u.Z11.length):=by
 have:=hu.ifsL
 refine lp (fun t=>t.1) (u.Z11.length) (fun t=>Z1g t.2.1 ∧ (t.2.2.2.length : Int) = t.1) (fun t hI h0 h1=>?_) (by omega) ⟨hp,rfl⟩ (by omega) (by omega)
 obtain ⟨hI1,hI3⟩:=hI
 unfold Zgv
 refine brD (fun hlt=>?_) fun hge=>dn ⟨hI1,by dsimp only; omega⟩
 refine bd (gr (by omega) (by omega)) fun s hs=>bd (Zex _ _ hI1 (hu.ifs _ hs)) fun v1 h1=>?_
 refine bd (gk (by simp only [List.length_append,List.length_cons,List.length_nil]; omega) (by simp only [List.length_append,List.length_cons,List.length_nil]; omega)) fun _ _=>bd (wr (by omega) (by omega)) fun _ hv=>?_
 exact nx ⟨h1,by simp only [List.length_append,List.length_cons,List.length_nil]; omega⟩ (by dsimp only; omega) (by dsimp only; omega)
def MAt (m : Z0e) : Prop:=m.Z1i.length ≤ 1 ∧ ∀ a ∈ m.Z1i,Str a.Z27
abbrev S48:=Int × (List Z00) × Int × (List Z0e)
def I48 (t : S48) : Prop:=Z1g t.2.1 ∧ (t.2.2.2.length : Int) = t.1 ∧ ∀ m ∈ t.2.2.2,MAt m
theorem K48x2 {u : Z10} (hu : Z4t u) {t1 : S48} {v26 : Z3n} {v27 v28 : Z0m × Int} {p9 : List Z00} {p10 : Int} {p11 : List Z13} (hI : I48 t1) (hp : Z1g p9) (ha : p11.length ≤ 1 ∧ ∀ a ∈ p11,Str a.Z27) (h0 : 0 ≤ t1.1) (h1 : t1.1 < u.Z1a.length) :
  Ok (Zdf t1 v26 v27 v28 p9 p10 p11) (St I48 (fun t=>t.1) u.Z1a.length (fun q=>Z1g q.1 ∧ q.2.2.length = u.Z1a.length ∧ ∀ m ∈ q.2.2,MAt m) t1):=by
 have:=hu.fldL
 obtain ⟨hI1,hI2,hI3⟩:=hI
 unfold Zdf
 refine bd (gk (by simp only [List.length_append,List.length_cons,List.length_nil]; omega) (by simp only [List.length_append,List.length_cons,List.length_nil]; omega)) fun _ _=>bd (wr (by omega) (by omega)) fun _ hv=>?_
 exact nx ⟨hp,by simp only [List.length_append,List.length_cons,List.length_nil]; omega,Z5y hI3 ha⟩ (by dsimp only; omega) (by dsimp only; omega)
theorem L48x2 (p : List Z00) (e : Int) (u : Z10) (hp : Z1g p) (hu : Z4t u) : Ok (Z09 (Zle u) Z0a (0,p,e,([] : List Z0e))) (fun q=>Z1g q.1 ∧ q.2.2.length = u.Z1a.length ∧ ∀ m ∈ q.2.2,MAt m):=by
 have:=hu.fldL
 refine lp (fun t=>t.1) (u.Z1a.length) I48 (fun t hI h0 h1=>?_) (by omega) ⟨hp,rfl,Z3x⟩ (by omega) (by omega)
 unfold Zle
 refine brD (fun hlt=>?_) fun hge=>dn ⟨hI.1,by have:=hI.2.1; dsimp only; omega,hI.2.2⟩
 refine bd (gr (by omega) (by omega)) fun f hf=>bd (Z73 _ _ hI.1 (hu.fld _ hf).n) fun v1 h1=>bd (Z73 _ _ h1 (hu.fld _ hf).d) fun v2 h2=>brN (fun _=>?_) fun _=>?_
 ·exact bd (Z73 _ _ h2 (by simp)) fun v3 h3=>bd (Y0d _ _ h3 (hu.fld _ hf)) fun v4 h4=>bd (Zsg _) fun v5 h5=>K48x2 hu hI h4 ⟨by simp,fun a ha=>by rw [List.mem_singleton.1 ha]; show v5.length ≤ _; omega⟩ h0 hlt
 ·exact K48x2 hu hI h2 ⟨by simp,Z3x⟩ h0 hlt
theorem Y45 (x : Z0m) (u : Z10) (h : Z24) (hp : Z1g x.f_P) (hu : Z4t u) (hi : h.f_F.Z11.length = u.Z11.length) (hf : h.f_F.Z1a.length = u.Z1a.length) (hm : ∀ m ∈ h.f_F.Z1a,MAt m) :
  Ok (Zk2 x u h) (fun r=>Z1g r.1.f_P ∧ Zav u r.2):=by
 unfold Zk2
 exact bd (L58x1 _ _ _ hp hu) fun q hq=>ok ⟨hq.1,Z1g.nil,hq.2,hi,hf,hm,by simp,Z3x⟩
theorem K48x3 {u : Z10} {v34 : Z0m × Z24} (hw : Zav u v34.2) {p12 : List Z00} {p13 : Int} {p14 : List Z13} (hp : Z1g p12) (ha : p14.length ≤ 1 ∧ ∀ a ∈ p14,Str a.Z27) : Ok (Zeq v34 p12 p13 p14) (fun r=>Z1g r.1.f_P ∧ Zav u r.2):=by
 unfold Zeq
 exact ok ⟨hp,hp,hw.fam,hw.ifsL,hw.fldL,hw.fld,ha.1,ha.2⟩
theorem K48x1 {u : Z10} (hu : Z4t u) {v0 : Z0m × Int} {p0 : List Z00} {p1 p2 : Int} (hp : Z1g p0) : Ok (Zfc v0 u p0 p1 p2) (fun r=>Z1g r.1.f_P ∧ Zav u r.2):=by
 unfold Zfc
 refine bd (L48x1 _ _ _ hp hu) fun q0 h0=>bd (L48x2 _ _ _ h0.1 hu) fun q2 h2=>bd (Y45 _ _ _ h2.1 hu ?_ ?_ h2.2.2) fun v34 hv=>br (fun _=>?_) fun _=>K48x3 hv.2 hv.1 ⟨hv.2.attL,hv.2.att⟩
 ·exact h0.2
 ·exact h2.2.1
 ·exact bd (Z73 _ _ hv.1 (by simp)) fun v1 h1=>bd (Z73 _ _ h1 hu.src) fun v2 h2=>bd (Zsg _) fun v5 h5=>K48x3 hv.2 h2 ⟨by simp,fun a ha=>by rw [List.mem_singleton.1 ha]; show v5.length ≤ _; omega⟩
theorem Y2q (x : Z0m) (u : Z10) (hp : Z1g x.f_P) (hu : Z4t u) : Ok (Zjx x u) (fun r=>Zav u r.2):=by
 unfold Zjx
 refine (bd (Zex _ _ hp hu.n) fun v0 h0=>br (fun _=>bd (Zex _ _ h0 hu.sup) fun v1 h1=>K48x1 hu h1) fun _=>K48x1 hu h0 : Ok _ (fun r : Z0m × Z24=>Z1g r.1.f_P ∧ Zav u r.2)).mono fun r hr=>hr.2
end Go.Proofs
