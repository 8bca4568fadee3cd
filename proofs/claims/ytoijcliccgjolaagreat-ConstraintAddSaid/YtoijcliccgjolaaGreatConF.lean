/-
  armatureref08.Decode, its second loop: a member of the family is named for a round. No condition.
-/
import Derived.Test.YtoijcliccgjolaaGreatConE
set_option linter.unusedVariables false
namespace Go.Proofs
open Go.Den Go.Den.W
variable {Γ : Ctx} {σ σ' : S} {a a' : Act} {w w' : World} {G G' : Nat → Nat} {β β' : Nat → Option (Nat × Nat)}
def sY2 (m : Nat) (ps : List Int) (k : Int) (ys : List YI) : SL:=⟨130,[(4,.lsl 4 0 m),tP ps,(9,dI k)],[bI ys,bP ps]⟩
theorem S.ext' {σ σ' : S} (h1 : σ.n = σ'.n) (h2 : ∀ t,σ.tmps t = σ'.tmps t) (h3 : ∀ t,σ.heap t = σ'.heap t) : σ = σ':=by
 cases σ; cases σ'
 cases h1
 cases (funext h2 : _ = _)
 cases (funext h3 : _ = _)
 rfl
def rawY (y : YI) : Prop:=∃ u,y.2 = .raw u
theorem Mem.raw {y : YI} {o : Option Nat} (h : Mem Γ w G β y o) : rawY y:=by
 cases o with
 | none=>obtain ⟨x,h1,-⟩:=h; exact ⟨_,h1⟩
 | some c=>obtain ⟨cap,h1,-⟩:=h; exact ⟨_,h1⟩
theorem Y3k {y : YI} {j : Nat} {d : D} (h : (Z2w y)[j]? = some d) : (j = 5 ∧ d = y.2) ∨ (j ≠ 5 ∧ d.dat = true):=by
 match j,h with
 | 0,h=>cases h; exact .inr ⟨by decide,rfl⟩
 | 1,h=>cases h; exact .inr ⟨by decide,rfl⟩
 | 2,h=>cases h; exact .inr ⟨by decide,rfl⟩
 | 3,h=>cases h; exact .inr ⟨by decide,rfl⟩
 | 4,h=>cases h; exact .inr ⟨by decide,rfl⟩
 | 5,h=>cases h; exact .inl ⟨rfl,rfl⟩
 | 6,h=>cases h; exact .inr ⟨by decide,rfl⟩
 | 7,h=>cases h; exact .inr ⟨by decide,rfl⟩
 | 8,h=>cases h; exact .inr ⟨by decide,rfl⟩
 | 9,h=>cases h; exact .inr ⟨by decide,rfl⟩
 | j + 10,h=>exact absurd h (by rw [List.getElem?_eq_none (by simp [Z2w,Z8p,Z8g])]; simp)
theorem Y2z {x : Z01} {l : List Int} {d e d1 d2 : D} {j : Nat} (hj : j ≠ 5) (h1 : (Z2w (x,d))[j]? = some d1) (h2 : (Z2w ({ f_Op:=x.f_Op,f_A:=x.f_A,f_B:=x.f_B,f_To:=x.f_To,Z0r:=x.Z0r,Z0d:=l,Z15:=x.Z15,f_S:=x.f_S },e))[j]? = some d2) : d1 = d2:=by
 match j,h1,h2,hj with
 | 0,h1,h2,_=>cases h1; cases h2; rfl
 | 1,h1,h2,_=>cases h1; cases h2; rfl
 | 2,h1,h2,_=>cases h1; cases h2; rfl
 | 3,h1,h2,_=>cases h1; cases h2; rfl
 | 4,h1,h2,_=>cases h1; cases h2; rfl
 | 5,h1,h2,hj=>exact absurd rfl hj
 | 6,h1,h2,_=>cases h1; cases h2; rfl
 | 7,h1,h2,_=>cases h1; cases h2; rfl
 | 8,h1,h2,_=>cases h1; cases h2; rfl
 | 9,h1,h2,_=>cases h1; cases h2; rfl
 | j + 10,h1,_,_=>exact absurd h1 (by rw [List.getElem?_eq_none (by simp [Z2w,Z8p,Z8g])]; simp)
theorem Z05.setY (h : Z05 Γ σ a w G β) {ys : List YI} {kk : Nat} {x : Z01} {d d' : D} {l : List Int} {p0 p : Bool} (hb : σ.heap 4 = some { sz:=10,rows:=ys.map Z2w,frz:=0,pure:=p0 }) (hy : ys[kk]? = some (x,d))
  (hd : ∀ c vs e fr v,β 4 = some (c,10) → w.heap[c]? = some (.cells vs e fr) → vs[kk * 10 + 5]? = some v → one v = true → Z06 w G β v d → Z06 w G β v d')
  (hp : p = true → ∀ (j : Nat) y,(ys.set kk ({ f_Op:=x.f_Op,f_A:=x.f_A,f_B:=x.f_B,f_To:=x.f_To,Z0r:=x.Z0r,Z0d:=l,Z15:=x.Z15,f_S:=x.f_S },d'))[j]? = some y → y.2.dat = true) :
  Z05 Γ (σ.setB 4 (some { sz:=10,rows:=(ys.set kk ({ f_Op:=x.f_Op,f_A:=x.f_A,f_B:=x.f_B,f_To:=x.f_To,Z0r:=x.Z0r,Z0d:=l,Z15:=x.Z15,f_S:=x.f_S },d')).map Z2w,frz:=0,pure:=p })) a w G β:=by
 refine h.refine hb _ (by simp) (fun c vs e fr h1 h2 i r' hr'=>?_) p fun hpt i j r d1 hr hd1=>?_
 ·rw [List.getElem?_map] at hr'
  obtain ⟨y',hy',rfl⟩:=Z26 hr'
  refine ⟨rfl,fun j d2 hd2 r d1 v hr hd1 hv ho hrep=>?_⟩
  dsimp only at hr
  rw [List.getElem?_map] at hr
  obtain ⟨y,hyi,rfl⟩:=Z26 hr
  rcases Nat.decEq i kk with hne | rfl
  ·rw [List.getElem?_set_ne (Ne.symm hne)] at hy'
   rw [hyi] at hy'; cases hy'
   rw [hd1] at hd2; cases hd2
   exact hrep
  ·have hlt : i < ys.length:=(List.getElem?_eq_some_iff.1 hy).1
   rw [List.getElem?_set_self hlt] at hy'
   cases hy'
   rw [hy] at hyi; cases hyi
   rcases Nat.decEq j 5 with hne | rfl
   ·rw [← Y2z hne hd1 hd2]; exact hrep
   ·cases hd1; cases hd2
    exact hd c vs e fr v h1 h2 hv ho hrep
 ·rw [List.getElem?_map] at hr
  obtain ⟨y,hyi,rfl⟩:=Z26 hr
  rcases Y3k hd1 with ⟨-,rfl⟩ | ⟨-,h1⟩
  ·exact hp hpt i y hyi
  ·exact h1
theorem nameY {m : Nat} {ps : List Int} {k : Int} {ys : List YI} {loc : Nat → Option Nat} {kk : Nat} {x : Z01} {d : D} (h : Z05 Γ (sY2 m ps k ys).s a w G β) (hF : Fam Γ w G β ys loc) (hy : ys[kk]? = some (x,d)) :
  ∃ β',Z05 Γ (stA m ps (k,ys.set kk (x,.lsl 777 0 x.Z0d.length),x.Z0d)).s a w G β' ∧ ∀ (j : Nat) y,j ≠ kk → ys[j]? = some y → Mem Γ w G β' y (loc j):=by
 have hkl : kk < ys.length:=(List.getElem?_eq_some_iff.1 hy).1
 have hm:=hF.mem kk _ hy
 have h777 : (sY2 m ps k ys).s.heap 777 = none:=rfl
 have key : ∃ β',Z05 Γ ((sY2 m ps k ys).s.setB 777 (some (Z4q x.Z0d none))) a w G β' ∧ (∀ v,Z06 w G β' v d → Z06 w G β' v (.lsl 777 0 x.Z0d.length)) ∧ ∀ (j : Nat) y,j ≠ kk → ys[j]? = some y → Mem Γ w G β' y (loc j):=by
  cases hl : loc kk with
  | none=>
   rw [hl] at hm
   obtain ⟨z,h1,h2⟩:=hm
   dsimp only at h1 h2
   refine ⟨β,h.nameNil h777 ⟨by rw [h2]; rfl,rfl⟩,fun v hv=>?_,fun j y _ hj=>hF.mem j y hj⟩
   rw [h2]
   rw [h1] at hv
   cases hv
   exact .lslnil 777 z
  | some c=>
   rw [hl] at hm
   obtain ⟨cap,h1,h2,h3,h4,h5,h6⟩:=hm
   dsimp only at h1 h2 h3
   refine ⟨_,h.name (c:=c) h777 h6 (h3.rep h4 (.inl h5) (by simp)),fun v hv=>?_,fun j y hj hyj=>?_⟩
   ·rw [h1] at hv
    cases hv
    obtain ⟨vs,e,fr,k1,k2,k3,k4,k5⟩:=h3
    exact .lsl 777 0 _ cap c 1 0 (by simp [upd,Z4q]) h2 (.inr rfl) ⟨vs,e,fr,k1,by omega⟩
   ·have hmj:=hF.mem j y hyj
    cases hlj : loc j with
    | none=>rw [hlj] at hmj; exact hmj
    | some c'=>
     rw [hlj] at hmj
     obtain ⟨cap',g1,g2,g3,g4,g5,g6⟩:=hmj
     refine ⟨cap',g1,g2,g3,g4,g5,fun b s hb=>?_⟩
     unfold upd at hb
     split at hb
     ·cases hb
      exact hj (hF.inj j kk _ hlj hl (List.getElem?_eq_some_iff.1 hyj).1 hkl)
     ·exact g6 b s hb
 obtain ⟨β',k1,k2,k3⟩:=key
 refine ⟨β',?_,k3⟩
 have:=Z05.setY k1 (ys:=ys) (kk:=kk) (x:=x) (d:=d) (d':= .lsl 777 0 x.Z0d.length) (l:=x.Z0d) (p0:=true) (p:=false) rfl hy (fun c vs e fr v _ _ _ _ hv=>k2 v hv) (by simp)
 have e : ((sY2 m ps k ys).s.setB 777 (some (Z4q x.Z0d none))).setB 4 (some { sz:=10,rows:=(ys.set kk (x,D.lsl 777 0 x.Z0d.length)).map Z2w,frz:=0,pure:=false }) = (stA m ps (k,ys.set kk (x,.lsl 777 0 x.Z0d.length),x.Z0d)).s:=by
  refine S.ext' rfl (fun t=>rfl) fun t=>?_
  simp only [S.setB,sY2,stA,sA,SL.s,mkS,ofB,bI,bY,bP,bTo]
  by_cases h1 : t = 4
  ·simp [h1]
  ·by_cases h2 : t = 777
   ·simp [h2]
   ·by_cases h3 : t = 5
    ·simp [h3]
    ·simp [h1,h2,h3]
 rw [← e]
 exact this
theorem backY {m : Nat} {ps : List Int} {k : Int} {ys : List YI} {loc : Nat → Option Nat} {kk n : Nat} {x : Z01} {tos : List Int} (hX : ∀ c,¬ Γ.X c) (h : Z05 Γ (stA m ps (k,ys,tos)).s a w G β) (hy : ys[kk]? = some (x,.lsl 777 0 n)) (hn : tos.length = n)
  (hF : ∀ (j : Nat) y,j ≠ kk → ys[j]? = some y → Mem Γ w G β y (loc j)) (hinj : ∀ i j c,loc i = some c → loc j = some c → i < ys.length → j < ys.length → i = j) :
  ∃ v β' loc',Z05 Γ (sY2 m ps k (ys.set kk ({ f_Op:=x.f_Op,f_A:=x.f_A,f_B:=x.f_B,f_To:=x.f_To,Z0r:=x.Z0r,Z0d:=tos,Z15:=x.Z15,f_S:=x.f_S },.raw v))).s a w G β' ∧
   Fam Γ w G β' (ys.set kk ({ f_Op:=x.f_Op,f_A:=x.f_A,f_B:=x.f_B,f_To:=x.f_To,Z0r:=x.Z0r,Z0d:=tos,Z15:=x.Z15,f_S:=x.f_S },.raw v)) loc':=by
 subst hn
 have hkl : kk < ys.length:=(List.getElem?_eq_some_iff.1 hy).1
 have hb : (stA m ps (k,ys,tos)).s.heap 4 = some { sz:=10,rows:=ys.map Z2w,frz:=0,pure:=false }:=rfl
 have hb7 : (stA m ps (k,ys,tos)).s.heap 777 = some (Z4q tos none):=rfl
 obtain ⟨c0,vs,e,fr,v,hβ4,hcell,hv,ho,hrep⟩:=h.cellOf hb (i:=kk) (j:=5) (r:=Z2w (x,.lsl 777 0 tos.length)) (d:= .lsl 777 0 tos.length) (by rw [List.getElem?_map,hy]; rfl) rfl
 have h1:=Z05.setY h hb hy (d':= .raw v) (l:=tos) (p:=true) (fun c vs' e' fr' v' k1 k2 k3 k4 _=>by
  rw [hβ4] at k1
  cases k1
  rw [hcell] at k2
  cases k2
  rw [hv] at k3
  cases k3
  exact .raw _ k4) fun _ j y hyj=>by
   rcases Nat.decEq j kk with hne | rfl
   ·rw [List.getElem?_set_ne (Ne.symm hne)] at hyj
    obtain ⟨u,hu⟩:=(hF j y hne hyj).raw
    rw [hu]; rfl
   ·rw [List.getElem?_set_self hkl] at hyj
    cases hyj
    rfl
 have h2:=h1.unname 777 (fun t=>by
  show (ofL (sA m ps k (ys.map Z2w) tos).l t).kill 777 = ofL (sA m ps k (ys.map Z2w) tos).l t
  simp only [sA,tP,ofL]
  by_cases e1 : t = 4
  ·simp [e1]; rfl
  ·by_cases e2 : t = 5
   ·simp [e2]; rfl
   ·by_cases e3 : t = 9
    ·simp [e3]; rfl
    ·simp [e1,e2,e3]; rfl) fun u blk hu hk=>by
  simp only [S.setB,stA,sA,SL.s,mkS,ofB,bY,bP,bTo] at hk
  by_cases e1 : u = 4
  ·rw [if_pos e1] at hk; cases hk; rfl
  ·rw [if_neg e1,if_neg e1] at hk
   by_cases e2 : u = 5
   ·rw [if_pos e2] at hk; cases hk; rfl
   ·rw [if_neg e2,if_neg hu] at hk; cases hk
 have e : ∀ rows,(⟨((stA m ps (k,ys,tos)).s.setB 4 (some { sz:=10,rows:=rows,frz:=0,pure:=true })).n,((stA m ps (k,ys,tos)).s.setB 4 (some { sz:=10,rows:=rows,frz:=0,pure:=true })).tmps,fun u=>if u = 777 then none else ((stA m ps (k,ys,tos)).s.setB 4 (some { sz:=10,rows:=rows,frz:=0,pure:=true })).heap u⟩ : S) = mkS 130 [(4,.lsl 4 0 m),tP ps,(9,dI k)] [(4,{ sz:=10,rows:=rows,frz:=0,pure:=true }),bP ps] :=fun rows=>by
  refine S.ext' rfl (fun t=>rfl) fun t=>?_
  simp only [S.setB,stA,sA,SL.s,mkS,ofB,bY,bP,bTo]
  by_cases h1 : t = 4
  ·simp [h1]
  ·by_cases h2 : t = 777
   ·simp [h2]
   ·by_cases h3 : t = 5
    ·simp [h3]
    ·simp [h1,h2,h3]
 rw [e] at h2
 have hothers : ∀ (j : Nat) y,j ≠ kk → ys[j]? = some y → Mem Γ w G (upd β 777 none) y (loc j):=fun j y hj hyj=>by
  have hm:=hF j y hj hyj
  cases hl : loc j with
  | none=>rw [hl] at hm; exact hm
  | some c=>
   rw [hl] at hm
   obtain ⟨cap,g1,g2,g3,g4,g5,g6⟩:=hm
   refine ⟨cap,g1,g2,g3,g4,g5,fun b s hb=>?_⟩
   unfold upd at hb
   split at hb
   ·cases hb
   ·exact g6 b s hb
 have hfr : Z80 w G Γ.B v tos:=by
  rcases Z06.fresh h hrep (l:=tos) (.inr ⟨777,by rw [List.length_map],hb7⟩) with h3 | ⟨b,c,s,-,-,h3⟩
  ·exact h3
  ·exact absurd h3 (hX c)
 have fin : ∀ o,Mem Γ w G (upd β 777 none) ({ f_Op:=x.f_Op,f_A:=x.f_A,f_B:=x.f_B,f_To:=x.f_To,Z0r:=x.Z0r,Z0d:=tos,Z15:=x.Z15,f_S:=x.f_S },.raw v) o → (∀ j c,o = some c → j ≠ kk → j < ys.length → loc j ≠ some c) →
   Fam Γ w G (upd β 777 none) (ys.set kk ({ f_Op:=x.f_Op,f_A:=x.f_A,f_B:=x.f_B,f_To:=x.f_To,Z0r:=x.Z0r,Z0d:=tos,Z15:=x.Z15,f_S:=x.f_S },.raw v)) (fun j=>if j = kk then o else loc j):=fun o hm hno=>by
  refine ⟨fun j y hyj=>?_,fun i j c hi hj hil hjl=>?_⟩
  ·rcases Nat.decEq j kk with hne | rfl
   ·rw [List.getElem?_set_ne (Ne.symm hne)] at hyj
    rw [if_neg hne]
    exact hothers j y hne hyj
   ·rw [List.getElem?_set_self hkl] at hyj
    cases hyj
    rw [if_pos rfl]
    exact hm
  ·rw [List.length_set] at hil hjl
   split at hi
   ·split at hj
    ·omega
    ·rename_i hne; exact absurd hj (hno j c hi hne hjl)
   ·split at hj
    ·rename_i hne _; exact absurd hi (hno i c hj hne hil)
    ·exact hinj i j c hi hj hil hjl
 have key : ∃ o,Mem Γ w G (upd β 777 none) ({ f_Op:=x.f_Op,f_A:=x.f_A,f_B:=x.f_B,f_To:=x.f_To,Z0r:=x.Z0r,Z0d:=tos,Z15:=x.Z15,f_S:=x.f_S },.raw v) o ∧ (∀ j c,o = some c → j ≠ kk → j < ys.length → loc j ≠ some c):=by
  cases hfr with
  | nil z=>exact ⟨none,⟨z,rfl,rfl⟩,fun j c hc=>by cases hc⟩
  | blk c cap _ hcap hi hG hB=>
   by_cases hz : cap = 0
   ·subst hz
    obtain rfl:=List.eq_nil_of_length_eq_zero (Nat.le_zero.1 hcap)
    exact ⟨none,⟨_,rfl,rfl⟩,fun j c hc=>by cases hc⟩
   ·have h7 : ∃ s,β 777 = some (c,s):=by
     generalize tos.length = q at hrep
     cases hrep with
     | lslnil=>exact absurd rfl hz
     | lsl b lo n cap c sz off k1=>exact ⟨_,k1⟩
    obtain ⟨s7,h7⟩:=h7
    refine ⟨some c,⟨cap,rfl,hcap,hi,hG,hB,fun b s hb=>?_⟩,fun j c' hc hj hjl hlj=>?_⟩
    ·unfold upd at hb
     split at hb
     ·cases hb
     ·rename_i hne
      exact hne (h.inj b 777 c s s7 hb h7)
    ·cases hc
     have hm:=hF j _ hj (List.getElem?_eq_getElem hjl)
     rw [hlj] at hm
     obtain ⟨cap',-,-,-,-,-,g6⟩:=hm
     exact g6 777 s7 h7
 obtain ⟨o,k1,k2⟩:=key
 exact ⟨v,upd β 777 none,_,h2,fin o k1 k2⟩
theorem Zyl {ys : List YI} {loc : Nat → Option Nat} (h : Z05 Γ σ a w G β) (hF : Fam Γ w G β ys loc) : ∀ m,m ≤ ys.length → ∃ G',Z05 Γ σ a w G' β ∧ (∀ c,G c ≤ G' c) ∧ ∀ (k : Nat) y c,k < m → ys[k]? = some y → loc k = some c → y.1.Z0d.length ≤ G' c
 | 0,_=>⟨G,h,fun _=>Nat.le_refl _,fun k y c hk=>absurd hk (Nat.not_lt_zero _)⟩
 | m + 1,hm=>by
  obtain ⟨G1,h1,h2,h3⟩:=Zyl h hF m (by omega)
  obtain ⟨y,hy⟩ : ∃ y,ys[m]? = some y:=⟨_,List.getElem?_eq_getElem (by omega)⟩
  cases hl : loc m with
  | none=>
   refine ⟨G1,h1,h2,fun k z c hk hz hlk=>?_⟩
   rcases Nat.lt_or_ge k m with hlt | hge
   ·exact h3 k z c hlt hz hlk
   ·obtain rfl : k = m:=by omega
    rw [hl] at hlk; cases hlk
  | some c0=>
   have hmm:=hF.mem m y hy
   rw [hl] at hmm
   obtain ⟨cap,g1,g2,g3,g4,g5,g6⟩:=hmm
   have h4:=h1.mark (c0:=c0) g6 g5 (Z4o.lt g3) (k:=G1 c0 + y.1.Z0d.length) (Nat.le_add_right _ _)
   refine ⟨_,h4,fun c=>?_,fun k z c hk hz hlk=>?_⟩
   ·split
    ·rename_i e; subst e; have:=h2 c; omega
    ·exact h2 c
   ·rcases Nat.lt_or_ge k m with hlt | hge
    ·split
     ·rename_i e; subst e
      have:=h3 k z c hlt hz hlk; omega
     ·exact h3 k z c hlt hz hlk
    ·obtain rfl : k = m:=by omega
     rw [hl] at hlk; cases hlk
     rw [hy] at hz; cases hz
     rw [if_pos rfl]; omega
def sJ2 (m : Nat) (ys : List YI) : SL:=⟨130,[(4,.lsl 4 0 m)],[bI ys]⟩
def sJ3 (m : Nat) (l : List Z01) : SL:=⟨130,[(4,.lsl 4 0 m)],[(4,{ sz:=10,rows:=l.map Z0i,frz:=0,pure:=true })]⟩
theorem Y1c {y : YI} {j : Nat} {d d' : D} (h : (Z2w y)[j]? = some d) (h' : (Z0i y.1)[j]? = some d') : (j = 5 ∧ d = y.2 ∧ d' = .sl false (y.1.Z0d.map Z03)) ∨ (j ≠ 5 ∧ d = d'):=by
 match j,h,h' with
 | 0,h,h'=>cases h; cases h'; exact .inr ⟨by decide,rfl⟩
 | 1,h,h'=>cases h; cases h'; exact .inr ⟨by decide,rfl⟩
 | 2,h,h'=>cases h; cases h'; exact .inr ⟨by decide,rfl⟩
 | 3,h,h'=>cases h; cases h'; exact .inr ⟨by decide,rfl⟩
 | 4,h,h'=>cases h; cases h'; exact .inr ⟨by decide,rfl⟩
 | 5,h,h'=>cases h; cases h'; exact .inl ⟨rfl,rfl,rfl⟩
 | 6,h,h'=>cases h; cases h'; exact .inr ⟨by decide,rfl⟩
 | 7,h,h'=>cases h; cases h'; exact .inr ⟨by decide,rfl⟩
 | 8,h,h'=>cases h; cases h'; exact .inr ⟨by decide,rfl⟩
 | 9,h,h'=>cases h; cases h'; exact .inr ⟨by decide,rfl⟩
 | j + 10,h,_=>exact absurd h (by rw [List.getElem?_eq_none (by simp [Z2w,Z8p,Z8g])]; simp)
theorem Y0w {x : Z01} {j : Nat} {d : D} (h : (Z0i x)[j]? = some d) : d.dat = true:=by
 match j,h with
 | 0,h=>cases h; rfl
 | 1,h=>cases h; rfl
 | 2,h=>cases h; rfl
 | 3,h=>cases h; rfl
 | 4,h=>cases h; rfl
 | 5,h=>cases h; rfl
 | 6,h=>cases h; rfl
 | 7,h=>cases h; rfl
 | 8,h=>cases h; rfl
 | 9,h=>cases h; rfl
 | j + 10,h=>exact absurd h (by rw [List.getElem?_eq_none (by simp [Z0i])]; simp)
theorem finY {m : Nat} {ys : List YI} {loc : Nat → Option Nat} (h : Z05 Γ (sJ2 m ys).s a w G β) (hF : Fam Γ w G β ys loc) : ∃ G',Z05 Γ (sJ3 m (ys.map Prod.fst)).s a w G' β:=by
 obtain ⟨G',h1,h2,h3⟩:=Zyl h hF ys.length (Nat.le_refl _)
 refine ⟨G',?_⟩
 have h4:=h1.refine (b:=4) (blk:={ sz:=10,rows:=ys.map Z2w,frz:=0,pure:=true }) rfl ((ys.map Prod.fst).map Z0i) (by simp) (fun c vs e fr k1 k2 i r' hr'=>?_) true fun _ i j r d hr hd=>?_
 ·have e : (sJ2 m ys).s.setB 4 (some { sz:=10,rows:=(ys.map Prod.fst).map Z0i,frz:=0,pure:=true }) = (sJ3 m (ys.map Prod.fst)).s:=by
   refine S.ext' rfl (fun t=>rfl) fun t=>?_
   simp only [S.setB,sJ2,sJ3,SL.s,mkS,ofB,bI]
   by_cases h1 : t = 4
   ·simp [h1]
   ·simp [h1]
  rw [← e]
  exact h4
 ·rw [List.map_map,List.getElem?_map] at hr'
  obtain ⟨y,hy,rfl⟩:=Z26 hr'
  refine ⟨rfl,fun j d' hd' r d v hr hd hv ho hrep=>?_⟩
  dsimp only at hr
  rw [List.getElem?_map,hy] at hr
  cases hr
  rcases Y1c hd hd' with ⟨-,rfl,rfl⟩ | ⟨-,rfl⟩
  ·have hm:=hF.mem i y hy
   cases hl : loc i with
   | none=>
    rw [hl] at hm
    obtain ⟨z,g1,g2⟩:=hm
    rw [g1] at hrep
    cases hrep
    rw [g2]
    exact .slnil _ z
   | some c=>
    rw [hl] at hm
    obtain ⟨cap,g1,g2,g3,g4,g5,g6⟩:=hm
    rw [g1] at hrep
    cases hrep
    obtain ⟨us,e',fr',q1,q2,q3,q4,q5⟩:=g3
    have hle:=h3 i y c (List.getElem?_eq_some_iff.1 hy).1 hy hl
    have hx : ∀ (i : Nat),i < y.1.Z0d.length → ∃ x,y.1.Z0d[i]? = some x ∧ us[i]? = some (.int .i64 x):=fun i hi=>⟨_,List.getElem?_eq_getElem hi,q5 i _ (List.getElem?_eq_getElem hi)⟩
    refine .sl false c 0 y.1.Z0d.length cap 1 (y.1.Z0d.map Z03) (fun i j=> .int .i64 (y.1.Z0d.getD i 0)) (by simp) (fun h=>by cases h) g2 (fun i r hr=>?_) (fun i j hi hj=>by omega) (fun i j hi hj=>?_) (fun _ _ _ _=>rfl) (fun i j r d hr hd=>?_) fun i j r d hr hd=>?_
    ·rw [List.getElem?_map] at hr
     obtain ⟨x,-,rfl⟩:=Z26 hr
     rfl
    ·obtain ⟨x,hx1,hx2⟩:=hx i hi
     rw [Z4p,q1]
     dsimp only
     rw [show 0 + i * 1 + j = i by omega,hx2]
     simp [List.getD,hx1]
    ·obtain ⟨-,x,-,rfl⟩:=Zig hr hd; rfl
    ·obtain ⟨-,x,hx1,rfl⟩:=Zig hr hd
     simp only [List.getD,hx1,Option.getD_some]
     exact .int _ _
  ·exact hrep
 ·rw [List.getElem?_map] at hr
  obtain ⟨x,-,rfl⟩:=Z26 hr
  exact Y0w hd
end Go.Proofs
