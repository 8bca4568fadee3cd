/-
  Calls that work on blocks of the caller.
-/
import Derived.Test.YtoijcliccgjolaaGreatDenWrite
namespace Go.Den
open Go.RowKit
variable {P : Program} {Γ : Ctx} {σ : S} {a : Act} {w w' : World} {G G' : Nat → Nat} {β β' : Nat → Option (Nat × Nat)} {ρ : List Nat}
theorem Z9h : ∀ {ρ : List Nat} {b k : Nat},Z35 b ρ = some k → ρ[k]? = some b
 | [],_,_,h=>by cases h
 | x :: r,b,k,h=>by
  unfold Z35 at h
  split at h
  ·rename_i hx; cases h; simpa using (eq_of_beq hx).symm
  ·split at h
   ·rename_i j hj; cases h; simpa using Z9h hj
   ·cases h
theorem Zeh : ∀ {ρ : List Nat} {b k : Nat},Z6f ρ = true → ρ[k]? = some b → Z35 b ρ = some k
 | [],_,_,_,h=>by simp at h
 | x :: r,b,k,hd,h=>by
  unfold Z6f at hd
  rw [Bool.and_eq_true] at hd
  cases k with
  | zero=>simp at h; subst h; simp [Z35]
  | succ k=>
   simp at h
   have ih:=Zeh hd.2 h
   have hne : b ≠ x:=by
    rintro rfl
    rw [ih] at hd
    exact absurd hd.1 (by simp)
   have : (b == x) = false:=by simpa using hne
   simp only [Z35,this,ih]
def Z47 (ρ : List Nat) (β : Nat → Option (Nat × Nat)) : Nat → Option (Nat × Nat):=fun k=>(ρ[k]?).bind β
theorem Zdn {k : Nat} {x : Nat × Nat} (h : Z47 ρ β k = some x) : ∃ b,ρ[k]? = some b ∧ β b = some x:=by
 unfold Z47 at h
 cases hb : ρ[k]? with
 | none=>rw [hb] at h; cases h
 | some b=>rw [hb] at h; exact ⟨b,rfl,h⟩
theorem Zfe {k b : Nat} (h : ρ[k]? = some b) : Z47 ρ β k = β b:=by unfold Z47; rw [h]; rfl
theorem Z06.inA {v : Value} {d d' : D} (h : Z06 w G β v d) (hi : inA ρ d = some d') : Z06 w G (Z47 ρ β) v d':=by
 have hdat : ∀ d,Z06 w G β v d → d.dat = true → Z06 w G (Z47 ρ β) v d:=fun d h hd=>h.of_dat (fun _ _ _=>rfl) (fun _=>Nat.le_refl _) hd
 cases d with
 | lptr b i o=>
  simp only [Den.inA] at hi
  split at hi
  ·rename_i k hk
   cases hi
   cases h with
   | lptr _ _ _ c sz hβ=>exact .lptr k i o c sz (by rw [Zfe (Z9h hk),hβ])
  ·cases hi
 | lsl b lo n=>
  simp only [Den.inA] at hi
  split at hi
  ·rename_i k hk
   cases hi
   cases h with
   | lslnil _ x=>exact .lslnil k x
   | lsl _ _ _ cap c sz off hβ hcap hoff hroom=>exact .lsl k lo n cap c sz off (by rw [Zfe (Z9h hk),hβ]) hcap hoff hroom
  ·cases hi
 | undef=>cases hi; exact .undef v
 | agg cs=>simp [Den.inA,D.dat] at hi
 | tup cs=>simp [Den.inA,D.dat] at hi
 | _=>simp only [Den.inA,D.dat] at hi; cases hi; exact hdat _ h rfl
theorem Zqi : ∀ {l l' : List D},inL ρ l = some l' → l'.length = l.length ∧ ∀ (j : Nat) d',l'[j]? = some d' → ∃ d,l[j]? = some d ∧ inA ρ d = some d'
 | [],l',h=>by cases h; exact ⟨rfl,fun j d' h=>by simp at h⟩
 | d :: r,l',h=>by
  unfold inL at h
  split at h
  ·rename_i x y hx hy
   cases h
   obtain ⟨h1,h2⟩:=Zqi hy
   refine ⟨by simp [h1],fun j d' hd'=>?_⟩
   cases j with
   | zero=>simp at hd'; subst hd'; exact ⟨d,rfl,hx⟩
   | succ j=>simp at hd'; simpa using h2 j d' hd'
  ·cases h
theorem Zlt : ∀ {l l' : List (List D)},inR ρ l = some l' → l'.length = l.length ∧ ∀ (j : Nat) d',l'[j]? = some d' → ∃ d,l[j]? = some d ∧ inL ρ d = some d'
 | [],l',h=>by cases h; exact ⟨rfl,fun j d' h=>by simp at h⟩
 | d :: r,l',h=>by
  unfold inR at h
  split at h
  ·rename_i x y hx hy
   cases h
   obtain ⟨h1,h2⟩:=Zlt hy
   refine ⟨by simp [h1],fun j d' hd'=>?_⟩
   cases j with
   | zero=>simp at hd'; subst hd'; exact ⟨d,rfl,hx⟩
   | succ j=>simp at hd'; simpa using h2 j d' hd'
  ·cases h
theorem Zmt {pin : Option Nat} {blk blk' : Blk} (h : inB ρ pin blk = some blk') : blk'.sz = blk.sz ∧ blk'.frz = blk.frz ∧ blk'.pin = pin ∧ (blk.rows = [] → blk'.rows = []):=by
 unfold inB at h
 split at h
 ·cases h; exact ⟨rfl,rfl,rfl,id⟩
 ·split at h
  ·rename_i rows hr
   cases h
   refine ⟨rfl,rfl,rfl,fun h0=>?_⟩
   have:=(Zlt hr).1
   rw [h0] at this
   exact List.eq_nil_of_length_eq_zero this
  ·cases h
theorem Z37.into {Γ' : Ctx} {c : Nat} {blk blk' : Blk} {pin : Option Nat} (hB : Z37 w G β Γ c blk) (h : inB ρ pin blk = some blk') (hown : Γ'.B ≤ c ∨ Γ'.X c) (hpin : ∀ k,pin = some k → Γ'.pin k = c) :
  Z37 w G (Z47 ρ β) Γ' c blk':=by
 obtain ⟨own,pin',ty,frz,top,dat,hsz,vs,e,fr,h1,h2,h3,h4⟩:=hB
 unfold inB at h
 split at h
 ·rename_i hp
  cases h
  exact ⟨hown,hpin,ty,frz,top,dat,hsz,vs,e,fr,h1,h2,h3,fun i j r d hr hd=>by
   obtain ⟨v,a1,a2,a3⟩:=h4 i j r d hr hd
   exact ⟨v,a1,a2,a3.of_dat (fun _ _ _=>rfl) (fun _=>Nat.le_refl _) (dat hp i j r d hr hd)⟩⟩
 ·rename_i hp
  split at h
  ·rename_i rows hr
   cases h
   obtain ⟨k1,k2⟩:=Zlt hr
   refine ⟨hown,hpin,ty,frz,by simpa [k1] using top,(fun hp'=>by rw [hp] at hp'; cases hp'),(fun i r' hr'=>?_),vs,e,fr,h1,h2,by simpa [k1] using h3,(fun i j r' d' hr' hd'=>?_)⟩
   ·obtain ⟨r,e1,e2⟩:=k2 i r' hr'
    rw [(Zqi e2).1]; exact hsz i r e1
   ·obtain ⟨r,e1,e2⟩:=k2 i r' hr'
    obtain ⟨d,e3,e4⟩:=(Zqi e2).2 j d' hd'
    obtain ⟨v,a1,a2,a3⟩:=h4 i j r d e1 e3
    exact ⟨v,a1,a2,a3.inA e4⟩
  ·cases h
theorem inRef_A {d d' : D} (h : inRef ρ d = some d') : inA ρ d = some d':=by
 cases d <;> simp only [inRef] at h <;> first | (cases h; done) | (cases h; rfl) | skip
 all_goals
  simp only [Den.inA]
  split at h
  ·cases h; rename_i hk; simp only [hk]
  ·cases h
theorem Znm (h : Z05 Γ σ a w G β) {kp : Bool} : ∀ {ds ds' : List D} {l : List Nat} {p : Prop},Z4x kp σ ρ ds = some (ds',l,p) → p → (∀ b ∈ l,Z65 σ G β b) → ds'.length = ds.length ∧
  ∀ (j : Nat) v d d',Z06 w G β v d → ds[j]? = some d → ds'[j]? = some d' → Z06 w G (Z47 ρ β) v d'
 | [],ds',l,p,hd,hp,hf=>by cases hd; exact ⟨rfl,fun j v d d' _ h=>by simp at h⟩
 | x :: r,ds',l,p,hd,hp,hf=>by
  unfold Z4x at hd
  split at hd
  ·rename_i y hy
   split at hd
   ·rename_i y' l' q hq
    cases hd
    obtain ⟨k1,k3⟩:=Znm h hq hp hf
    refine ⟨by simp [k1],fun j v d d' hv hd hd'=>?_⟩
    cases j with
    | zero=>simp at hd hd'; subst hd hd'; exact hv.inA (inRef_A hy)
    | succ j=>simp at hd hd'; exact k3 j v d d' hv hd hd'
   ·cases hd
  ·split at hd
   ·rename_i d1 l1 p1 r1 l2 p2 e1 e2
    cases hd
    obtain ⟨k1,k3⟩:=Znm h e2 hp.2 (fun b hb=>hf b (by simp [hb]))
    refine ⟨by simp [k1],fun j v d d' hv hd hd'=>?_⟩
    cases j with
    | zero=>simp at hd hd'; subst hd hd'; exact (Y1d h hv e1 hp.1 (fun b hb=>hf b (by simp [hb]))).mono (fun _ _ _=>rfl) (fun _=>Nat.le_refl _) (fun b x hx=>by cases hx) (.refl w)
    | succ j=>simp at hd hd'; exact k3 j v d d' hv hd hd'
   ·cases hd
theorem Zof {kp : Bool} {σ σ' : S} (h : Z57 σ σ') : ∀ ds,Z4x kp σ' ρ ds = Z4x kp σ ρ ds
 | [] =>rfl
 | d :: r=>by unfold Z4x; rw [Y0h h,Zof h r]
theorem Zul (h : Z05 Γ σ a w G β) {kp : Bool} {ds ds' : List D} {l : List Nat} {p : Prop} (hd : Z4x kp σ ρ ds = some (ds',l,p)) (hp : p) :
  ∃ G',Z05 Γ (σ.freezeL l) a w G' β ∧ (∀ k,G k ≤ G' k) ∧ ds'.length = ds.length ∧ ∀ (j : Nat) v d d',Z06 w G β v d → ds[j]? = some d → ds'[j]? = some d' → Z06 w G' (Z47 ρ β) v d':=by
 obtain ⟨G',h1,h2,h3⟩:=Z05.freezeL l h
 rw [← Zof (Zmn l σ)] at hd
 obtain ⟨k1,k2⟩:=Znm h1 hd hp (fun b hb=>Zu4 l (h3 b hb))
 exact ⟨G',h1,h2,k1,fun j v d d' hv=>k2 j v d d' (hv.mono (fun _ _ _=>rfl) h2 (fun _ _ h=>h) (.refl w))⟩
theorem Zpc {mark : Option Nat → Nat → Option Nat} : ∀ {j0 : Nat} {ρ' : List Nat} {bs : List Blk},Z6e σ ρ mark j0 ρ' = some bs → bs.length = ρ'.length ∧
  ∀ k b,ρ'[k]? = some b → ∃ blk blk',σ.heap b = some blk ∧ bs[k]? = some blk' ∧ inB ρ (mark blk.pin (j0 + k)) blk = some blk'
 | j0,[],bs,h=>by cases h; exact ⟨rfl,fun k b h=>by simp at h⟩
 | j0, b0 :: r,bs,h=>by
  unfold Z6e at h
  split at h
  ·rename_i k0 hk0
   split at h
   ·rename_i x y hx hy
    cases h
    obtain ⟨h1,h2⟩:=Zpc hy
    refine ⟨by simp [h1],fun k b hb=>?_⟩
    cases k with
    | zero=>simp at hb; subst hb; exact ⟨k0,x,hk0,rfl,hx⟩
    | succ k=>
     simp at hb
     obtain ⟨blk,blk',e1,e2,e3⟩:=h2 k b hb
     exact ⟨blk,blk',e1,by simpa using e2,by rw [← e3,show j0 + (k + 1) = j0 + 1 + k by omega]⟩
   ·cases h
  ·cases h
theorem Zut : ∀ (bs : List Blk) (i t : Nat),ofB (Z4e i bs) t = if i ≤ t then bs[t - i]? else none
 | [],i,t=>by simp [Z4e,ofB]
 | d :: r,i,t=>by
  unfold Z4e ofB
  rw [Zut r (i + 1) t]
  by_cases h : t = i
  ·subst h; simp
  ·rw [if_neg h]
   by_cases h2 : i ≤ t
   ·rw [if_pos (by omega),if_pos h2,show t - i = (t - (i + 1)) + 1 by omega]; rfl
   ·rw [if_neg (by omega),if_neg h2]
theorem Zli (bs : List Blk) (t : Nat) : ofB (Z4e 0 bs) t = bs[t]? :=by rw [Zut,if_pos (Nat.zero_le _),Nat.sub_zero]
theorem Zcr : ∀ (ds : List D) (i t : Nat),ofL (Z3s i ds) t = if i ≤ t then ds.getD (t - i) .undef else .undef
 | [],i,t=>by simp [Z3s,ofL]
 | d :: r,i,t=>by
  unfold Z3s ofL
  rw [Zcr r (i + 1) t]
  by_cases h : t = i
  ·subst h; simp
  ·rw [if_neg h]
   by_cases h2 : i ≤ t
   ·rw [if_pos (by omega),if_pos h2,show t - i = (t - (i + 1)) + 1 by omega]; rfl
   ·rw [if_neg (by omega),if_neg h2]
theorem Z05.enter {mark : Option Nat → Nat → Option Nat} (h : Z05 Γ σ a w G β) (hd : Z6f ρ = true) {bs : List Blk} (hb : Z6e σ ρ mark 0 ρ = some bs) {Γ' : Ctx} (hΓ : Γ'.B ≤ w.heap.size)
  (own' : ∀ k c s,Z47 ρ β k = some (c,s) → Γ'.B ≤ c ∨ Γ'.X c)
  (pin' : ∀ k b blk c s i,ρ[k]? = some b → σ.heap b = some blk → Z47 ρ β k = some (c,s) → mark blk.pin k = some i → Γ'.pin i = c)
  (kept : Z5a Γ'.B Γ'.X Γ'.w0 w) (marks : ∀ c,c < Γ'.B → ¬ Γ'.X c → G c = Γ'.G0 c) {vs : Array Value} {ds : List D} (hn : ds.length = vs.size)
  (hv : ∀ (j : Nat) v d,vs[j]? = some v → ds[j]? = some d → Z06 w G (Z47 ρ β) v d) :
  Z05 Γ' (mkS ds.length (Z3s 0 ds) (Z4e 0 bs)) { tmps:=vs,defers:=[] } w G (Z47 ρ β):=by
 obtain ⟨hl,hg⟩:=Zpc hb
 refine ⟨rfl,hn.symm,fun t=>?_,fun k blk' hk=>?_,fun k x hx=>?_,fun k k' c s s' hk hk'=>?_,kept,marks,h.fresh,hΓ⟩
 ·show Z06 w G _ _ (ofL (Z3s 0 ds) t)
  rw [Zcr,if_pos (Nat.zero_le _),Nat.sub_zero]
  rcases Nat.lt_or_ge t ds.length with ht | ht
  ·have ht' : t < vs.size:=by omega
   have e1 : ds.getD t .undef = ds[t] :=by simp [List.getD,List.getElem?_eq_getElem ht]
   have e2 : vs.getD t Go.undef = vs[t] :=by simp [Array.getD_eq_getD_getElem?,Array.getElem?_eq_getElem ht']
   show Z06 w G _ (vs.getD t Go.undef) _
   rw [e1,e2]
   exact hv t _ _ (Array.getElem?_eq_getElem ht') (List.getElem?_eq_getElem ht)
  ·have e1 : ds.getD t .undef = .undef:=by simp [List.getD,List.getElem?_eq_none ht]
   rw [e1]; exact .undef _
 ·have hk' : bs[k]? = some blk':=by rw [← Zli]; exact hk
  have hlt : k < ρ.length:=by
   rcases Nat.lt_or_ge k bs.length with h' | h'
   ·omega
   ·rw [List.getElem?_eq_none h'] at hk'; cases hk'
  obtain ⟨blk,blk2,e1,e2,e3⟩:=hg k ρ[k] (List.getElem?_eq_getElem hlt)
  rw [hk'] at e2; cases e2
  rw [Nat.zero_add] at e3
  obtain ⟨s1,s2,s3,s4⟩:=Zmt e3
  have hpre : Z47 ρ β k = β ρ[k] :=Zfe (List.getElem?_eq_getElem hlt)
  rcases h.heap _ blk e1 with ⟨h0,h1,h2⟩ | ⟨c,h0,hB⟩
  ·exact .inl ⟨hpre.trans h0,s4 h1,s2.trans h2⟩
  ·refine .inr ⟨c,by rw [hpre,h0,s1],hB.into e3 (own' k c _ (hpre.trans h0)) fun i hi=>pin' k _ blk c _ i (List.getElem?_eq_getElem hlt) e1 (hpre.trans h0) hi⟩
 ·obtain ⟨b,e1,e2⟩:=Zdn hx
  obtain ⟨blk,blk',-,f2,-⟩:=hg k b e1
  exact ⟨blk',by show ofB (Z4e 0 bs) k = _; rw [Zli]; exact f2⟩
 ·obtain ⟨b,e1,e2⟩:=Zdn hk
  obtain ⟨b',e1',e2'⟩:=Zdn hk'
  obtain rfl:=h.inj b b' c s s' e2 e2'
  have:=(Zeh hd e1).symm.trans (Zeh hd e1')
  simpa using this
theorem Z06.outA {β3 : Nat → Option (Nat × Nat)} (hout : ∀ k b,ρ[k]? = some b → β3 b = β k) {v : Value} {d : D} (h : Z06 w G β v d) : Z06 w G β3 v (outA ρ d):=by
 cases d with
 | lptr k i o=>
  simp only [Den.outA]
  split
  ·rename_i b hb
   cases h with
   | lptr _ _ _ c sz hβ=>exact .lptr b i o c sz ((hout k b hb).trans hβ)
  ·exact .undef v
 | lsl k lo n=>
  simp only [Den.outA]
  split
  ·rename_i b hb
   cases h with
   | lslnil _ x=>exact .lslnil b x
   | lsl _ _ _ cap c sz off hβ hcap hoff hroom=>exact .lsl b lo n cap c sz off ((hout k b hb).trans hβ) hcap hoff hroom
  ·exact .undef v
 | agg cs=>exact .undef v
 | tup cs=>exact .undef v
 | undef=>exact .undef v
 | _=>exact h.of_dat (fun _ _ _=>rfl) (fun _=>Nat.le_refl _) rfl
theorem Z06.outE {β3 : Nat → Option (Nat × Nat)} (hout : ∀ k b,ρ[k]? = some b → β3 b = β k) {v : Value} {d : D} (h : Z06 w G β v d) : Z06 w G β3 v (outE ρ d):=by
 cases d with
 | agg cs=>
  obtain ⟨vs,rfl,hn,hone,hrep⟩:=Z58 h
  refine .agg vs _ (by simpa using hn) hone (fun j v d hv hd=>?_)
  rw [List.getElem?_map] at hd
  obtain ⟨d',hd',rfl⟩:=Z26 hd
  exact (hrep j v d' hv hd').outA hout
 | _=>exact h.outA hout
theorem Z06.outD {β3 : Nat → Option (Nat × Nat)} (hout : ∀ k b,ρ[k]? = some b → β3 b = β k) {v : Value} {d : D} (h : Z06 w G β v d) : Z06 w G β3 v (outD ρ d):=by
 cases d with
 | tup ds=>
  cases h with
  | tup vs _ hn hrep=>
   refine .tup vs _ (by simpa using hn) (fun j v d hv hd=>?_)
   rw [List.getElem?_map] at hd
   obtain ⟨d',hd',rfl⟩:=Z26 hd
   exact (hrep j v d' hv hd').outE hout
 | _=>exact h.outE hout
theorem Z37.out {Γ' : Ctx} {β3 : Nat → Option (Nat × Nat)} (hout : ∀ k b,ρ[k]? = some b → β3 b = β k) {c : Nat} {blk : Blk} {pin : Option Nat} (hB : Z37 w G β Γ' c blk) (hown : Γ.B ≤ c ∨ Γ.X c) (hpin : ∀ k,pin = some k → Γ.pin k = c) :
  Z37 w G β3 Γ c (Z7d ρ pin blk):=by
 obtain ⟨own,pin',ty,frz,top,dat,hsz,vs,e,fr,h1,h2,h3,h4⟩:=hB
 unfold Z7d
 split
 ·rename_i hp
  exact ⟨hown,hpin,ty,frz,top,dat,hsz,vs,e,fr,h1,h2,h3,fun i j r d hr hd=>by
   obtain ⟨v,a1,a2,a3⟩:=h4 i j r d hr hd
   exact ⟨v,a1,a2,a3.of_dat (fun _ _ _=>rfl) (fun _=>Nat.le_refl _) (dat hp i j r d hr hd)⟩⟩
 ·rename_i hp
  refine ⟨hown,hpin,ty,frz,by simpa using top,(fun hp'=>by rw [hp] at hp'; cases hp'),(fun i r hr=>?_),vs,e,fr,h1,h2,by simpa using h3,(fun i j r d hr hd=>?_)⟩
  ·simp only [List.getElem?_map] at hr
   obtain ⟨r',hr',rfl⟩:=Z26 hr
   simpa using hsz i r' hr'
  ·simp only [List.getElem?_map] at hr
   obtain ⟨r',hr',rfl⟩:=Z26 hr
   rw [List.getElem?_map] at hd
   obtain ⟨d',hd',rfl⟩:=Z26 hd
   obtain ⟨v,a1,a2,a3⟩:=h4 i j r' d' hr' hd'
   exact ⟨v,a1,a2,a3.outA hout⟩
theorem Y4d (ρ : List Nat) (pin : Option Nat) (blk : Blk) : (Z7d ρ pin blk).sz = blk.sz ∧ (Z7d ρ pin blk).frz = blk.frz ∧ (blk.rows = [] → (Z7d ρ pin blk).rows = []):=by
 unfold Z7d
 split
 ·exact ⟨rfl,rfl,id⟩
 ·exact ⟨rfl,rfl,fun h=>by simp [h]⟩
theorem Z05.leave {β1 β2 : Nat → Option (Nat × Nat)} {G2 : Nat → Nat} (h1 : Z05 Γ σ a w G β1) (hd : Z6f ρ = true) {Γ' : Ctx} {r : D} {bs' bs2 : List Blk} {v : Value}
  (h2 : Z05 Γ' (mkS 1 [(0,r)] (Z4e 0 bs')) { tmps:=#[v],defers:=[] } w' G2 β2) (hB : Γ'.B = w.heap.size) (hw : Γ'.w0 = w) (hG : Γ'.G0 = G)
  (hX : ∀ c,Γ'.X c → c < w.heap.size ∧ (Γ.B ≤ c ∨ Γ.X c) ∧ G c = 0)
  (hfree : ∀ b c s,β1 b = some (c,s) → Z35 b ρ = none → ¬ Γ'.X c)
  (hkeep : ∀ b k x,Z35 b ρ = some k → β1 b = some x → β2 k = some x)
  (hbs : ∀ b k blk',Z35 b ρ = some k → bs2[k]? = some blk' → ∃ blk pin,bs'[k]? = some blk ∧ blk' = Z7d ρ pin blk ∧ ∀ i c s,pin = some i → β2 k = some (c,s) → Γ.pin i = c)
  (hlen : ∀ (b k : Nat) (blk : Blk),Z35 b ρ = some k → bs'[k]? = some blk → ∃ blk' : Blk,bs2[k]? = some blk') :
  ∃ β3,Z05 Γ (σ.setL ρ bs2) a w' G2 β3 ∧ Z06 w' G2 β3 v (outD ρ r):=by
 let β3 : Nat → Option (Nat × Nat):=fun b=>match Z35 b ρ with
  | some k=>β2 k
  | none=>β1 b
 have b3in : ∀ {b k},Z35 b ρ = some k → β3 b = β2 k:=fun {b k} h=>by simp only [β3,h]
 have b3out : ∀ {b},Z35 b ρ = none → β3 b = β1 b:=fun {b} h=>by simp only [β3,h]
 have hout : ∀ k b,ρ[k]? = some b → β3 b = β2 k:=fun k b h=>b3in (Zeh hd h)
 have hk2:=h2.kept
 rw [hB,hw] at hk2
 have hgone : ∀ c,¬ c < w.heap.size → ¬ Γ'.X c:=fun c hc hx=>hc (hX c hx).1
 have hG2 : ∀ c,c < w.heap.size → ¬ Γ'.X c → G2 c = G c:=fun c hc hx=>by rw [h2.marks c (by rw [hB]; exact hc) hx,hG]
 have hcell : ∀ b o,o < G b → w'.cell? ⟨b,o,none⟩ = w.cell? ⟨b,o,none⟩:=fun b o ho=>by
  refine Z79 (hk2.block b (h1.marksLt ho) fun hx=>?_) o
  have:=(hX b hx).2.2
  omega
 have hGle : ∀ b,G b ≤ G2 b:=fun b=>by
  by_cases hb : b < w.heap.size
  ·by_cases hx : Γ'.X b
   ·rw [(hX b hx).2.2]; exact Nat.zero_le _
   ·rw [hG2 b hb hx]; exact Nat.le_refl _
  ·rw [h1.fresh b (by omega)]; exact Nat.zero_le _
 have hβ : ∀ b x,β1 b = some x → β3 b = some x:=fun b x hx=>by
  cases hi : Z35 b ρ with
  | some k=>rw [b3in hi]; exact hkeep b k x hi hx
  | none=>rw [b3out hi]; exact hx
 have hs : Z56 w w':=hk2.same
 have heap2 : ∀ k,(mkS 1 [(0,r)] (Z4e 0 bs')).heap k = bs'[k]? :=fun k=>Zli bs' k
 have hlt1 : ∀ {b c s},β1 b = some (c,s) → c < w.heap.size ∧ ∃ blk,σ.heap b = some blk ∧ Z37 w G β1 Γ c blk ∧ s = blk.sz:=fun {b c s} hb=>by
  obtain ⟨blk,hk⟩:=h1.dom b _ hb
  obtain ⟨e,hBr⟩:=h1.blk hk hb
  exact ⟨hBr.lt,blk,hk,hBr,e⟩
 have own2 : ∀ {k c s},β2 k = some (c,s) → (w.heap.size ≤ c ∨ Γ'.X c):=fun {k c s} hb=>by
  obtain ⟨blk,hk⟩:=h2.dom k _ hb
  obtain ⟨-,hBr⟩:=h2.blk hk hb
  rw [← hB]; exact hBr.own
 refine ⟨β3,⟨h1.defers,h1.size,fun t=>(h1.tmps t).mono hcell hGle hβ hs,fun u blk hu=>?_,fun u x hu=>?_,fun u u' c s s' hu hu'=>?_,h1.kept.trans ⟨hk2.os,hk2.tape,hk2.output,hk2.size,fun k hk hx=>hk2.block k (Nat.lt_of_lt_of_le hk h1.big) fun hx'=>(hX k hx').2.1.elim (fun h=>by omega) hx,hs⟩,fun c hc hx=>?_,h2.fresh,Nat.le_trans h1.big hk2.size⟩,?_⟩
 ·simp only [S.setL] at hu
  split at hu
  ·rename_i k hk
   obtain ⟨blk0,pin,e1,rfl,e3⟩:=hbs u k blk hk hu
   obtain ⟨s1,s2,s3⟩:=Y4d ρ pin blk0
   rcases h2.heap k blk0 ((heap2 k).trans e1) with ⟨g0,g1,g2⟩ | ⟨c,g0,hBr⟩
   ·exact .inl ⟨(b3in hk).trans g0,s3 g1,s2.trans g2⟩
   ·refine .inr ⟨c,by rw [b3in hk,g0,s1],hBr.out hout ?_ fun i hi=>e3 i c _ hi g0⟩
    rcases own2 g0 with h | h
    ·exact .inl (Nat.le_trans h1.big h)
    ·exact (hX c h).2.1
  ·rename_i hk
   rcases h1.heap u blk hu with ⟨g0,g1⟩ | ⟨c,g0,hBr⟩
   ·exact .inl ⟨(b3out hk).trans g0,g1⟩
   ·have hx:=hfree u c _ g0 hk
    exact .inr ⟨c,(b3out hk).trans g0,hBr.mono hcell hGle (hG2 c hBr.lt hx) hβ hs (hk2.block c hBr.lt hx)⟩
 ·simp only [S.setL]
  cases hk : Z35 u ρ with
  | some k=>
   rw [b3in hk] at hu
   obtain ⟨blk,hb⟩:=h2.dom k x hu
   rw [heap2] at hb
   exact hlen u k blk hk hb
  | none=>
   rw [b3out hk] at hu
   exact h1.dom u x hu
 ·cases hk : Z35 u ρ with
  | some k=>
   rw [b3in hk] at hu
   cases hk' : Z35 u' ρ with
   | some k'=>
    rw [b3in hk'] at hu'
    obtain rfl:=h2.inj k k' c s s' hu hu'
    have:=(Z9h hk).symm.trans (Z9h hk')
    simpa using this
   | none=>
    rw [b3out hk'] at hu'
    have hlt:=(hlt1 hu').1
    rcases own2 hu with h | h
    ·omega
    ·exact absurd h (hfree u' c s' hu' hk')
  | none=>
   rw [b3out hk] at hu
   cases hk' : Z35 u' ρ with
   | some k'=>
    rw [b3in hk'] at hu'
    have hlt:=(hlt1 hu).1
    rcases own2 hu' with h | h
    ·omega
    ·exact absurd h (hfree u c s hu hk)
   | none=>
    rw [b3out hk'] at hu'
    exact h1.inj u u' c s s' hu hu'
 ·have hc':=Nat.lt_of_lt_of_le hc h1.big
  rw [hG2 c hc' fun hx'=>(hX c hx').2.1.elim (fun h=>by omega) hx]
  exact h1.marks c hc hx
 ·have:=h2.tmps 0
  exact this.outD hout
theorem Z05.dropL : ∀ (l : List Nat) {σ : S} {β : Nat → Option (Nat × Nat)},Z05 Γ σ a w G β → ∃ β1,Z05 Γ (σ.dropL l) a w G β1 ∧ ∀ b x,β1 b = some x → β b = some x ∧ b ∉ l
 | [],σ,β,h=>⟨β,h,fun b x hx=>⟨hx,by simp⟩⟩
 | u :: l,σ,β,h=>by
  obtain ⟨β1,h1,h2⟩:=Z05.dropL l (h.drop u)
  refine ⟨β1,h1,fun b x hx=>?_⟩
  obtain ⟨e1,e2⟩:=h2 b x hx
  unfold upd at e1
  split at e1
  ·cases e1
  ·rename_i hne; exact ⟨e1,by simp [hne,e2]⟩
theorem Zym : ∀ (l : List Nat) (σ : S),(σ.dropL l).n = σ.n
 | [],_=>rfl
 | b :: l,σ=>Zym l (σ.drop b)
theorem Z05.nilL : ∀ (l : List (Nat × Nat)) {σ σ' : S},Z05 Γ σ a w G β → σ.nilL l = some σ' → Z05 Γ σ' a w G β ∧ σ'.tmps = σ.tmps ∧ σ'.n = σ.n
 | [],σ,σ',h,hs=>by cases hs; exact ⟨h,rfl,rfl⟩
 | (b,sz) :: l,σ,σ',h,hs=>by
  unfold S.nilL at hs
  split at hs
  ·rename_i hb
   obtain ⟨h1,h2,h3⟩:=Z05.nilL l (h.nameNil (blk:={ sz,rows:=[],frz:=0,pure:=true }) hb ⟨rfl,rfl⟩) hs
   exact ⟨h1,h2,h3⟩
  ·cases hs
theorem Zso (l : List (Nat × Nat)) : ∀ (ds : List D) (j0 : Nat),(Z77 l j0 ds).length = ds.length ∧ ∀ (j : Nat) v d,Z06 w G β v d → ds[j]? = some d → ∃ d',(Z77 l j0 ds)[j]? = some d' ∧ Z06 w G β v d'
 | [],j0=>⟨rfl,fun j v d _ h=>by simp at h⟩
 | x :: r,j0=>by
  obtain ⟨h1,h2⟩:=Zso l r (j0 + 1)
  refine ⟨by simp [Z77,h1],fun j v d hv hd=>?_⟩
  cases j with
  | zero=>
   simp at hd; subst hd
   refine ⟨_,rfl,?_⟩
   split
   ·split
    ·cases hv with
     | slnil _ y=>exact .lslnil _ y
     | sl c b off n cap sz _ val hn hcc=>simp at hn; subst hn; rw [hcc rfl]; exact .lslnil _ _
    ·exact hv
   ·exact hv
  | succ j=>
   simp at hd
   obtain ⟨d',e1,e2⟩:=h2 j v d hv hd
   exact ⟨d',by simpa [Z77] using e1,e2⟩
theorem Y3x {bs : List Blk} {j i : Nat} (h : Ze2 bs j = some i) : i = j:=by
 unfold Ze2 at h
 repeat' split at h
 all_goals first | (cases h; rfl) | (cases h; done)
theorem Ztj : ∀ {j0 : Nat} {ρ : List Nat} {bs : List Blk} {k b : Nat} {blk : Blk},ρ[k]? = some b → bs[k]? = some blk → b ∉ Z87 j0 ρ bs → Z8n (j0 + k) blk = true
 | j0,[],bs,k,b,blk,h,_,_=>by simp at h
 | j0,x :: r,[],k,b,blk,_,h,_=>by simp at h
 | j0,x :: r,y :: l,k,b,blk,h1,h2,h3=>by
  unfold Z87 at h3
  cases k with
  | zero=>
   simp at h1 h2; subst h1 h2
   rcases Bool.eq_false_or_eq_true (Z8n j0 y) with hk | hk
   ·exact hk
   ·rw [hk] at h3; simp at h3
  | succ k=>
   simp at h1 h2
   rw [show j0 + (k + 1) = j0 + 1 + k by omega]
   refine Ztj h1 h2 fun hm=>h3 ?_
   split
   ·exact hm
   ·exact List.mem_cons_of_mem _ hm
theorem Y3e {j : Nat} {k : Blk} (h : Z8n j k = true) : k.pin = some j ∧ k.rows ≠ [] :=by
 unfold Z8n at h
 split at h
 ·rename_i i hi
  split at h
  ·rename_i he
   obtain rfl:=eq_of_beq he
   split at h
   ·rename_i hr; exact ⟨hi,by rw [hr]; simp⟩
   ·cases h
  ·cases h
 ·cases h
theorem Zsn : ∀ {j0 : Nat} {ρ' : List Nat} {bs : List Blk},bs.length = ρ'.length → (Z5e σ ρ j0 ρ' bs).length = bs.length ∧ ∀ k blk',(Z5e σ ρ j0 ρ' bs)[k]? = some blk' → ∃ b blk pin,ρ'[k]? = some b ∧ bs[k]? = some blk ∧ blk' = Z7d ρ pin blk ∧
  ∀ i,pin = some i → Z8n (j0 + k) blk = true ∧ ∃ k0,σ.heap b = some k0 ∧ k0.pin = some i ∧ k0.rows ≠ []
 | j0,[],[],_=>⟨rfl,fun k blk' h=>by simp [Z5e] at h⟩
 | j0,[],_ :: _,h=>by simp at h
 | j0,_ :: _,[],h=>by simp at h
 | j0, x :: r,y :: l,hl=>by
  obtain ⟨h1,h2⟩:=Zsn (j0:=j0 + 1) (ρ':=r) (bs:=l) (by simpa using hl)
  refine ⟨by simp [Z5e,h1],fun k blk' h=>?_⟩
  cases k with
  | zero=>
   simp only [Z5e,List.getElem?_cons_zero,Option.some.injEq] at h
   refine ⟨x,y,_,rfl,rfl,h.symm,fun i hi=>?_⟩
   split at hi
   ·rename_i hk
    refine ⟨hk,?_⟩
    split at hi
    ·rename_i k0 hk0
     split at hi
     ·rename_i hr; exact ⟨k0,hk0,hi,by rw [hr]; simp⟩
     ·cases hi
    ·cases hi
   ·cases hi
  | succ k=>
   simp only [Z5e,List.getElem?_cons_succ] at h
   obtain ⟨b,blk,pin,e1,e2,e3,e4⟩:=h2 k blk' h
   exact ⟨b,blk,pin,by simpa using e1,by simpa using e2,e3,fun i hi=>by rw [show j0 + (k + 1) = j0 + 1 + k by omega]; exact e4 i hi⟩
theorem Zqv : ∀ {bs bs' : List Blk},Z8k bs bs' = true → bs.length = bs'.length ∧ ∀ (k : Nat) b b',bs[k]? = some b → bs'[k]? = some b' → b.sz = b'.sz ∧ b.frz = 0
 | [],[],_=>⟨rfl,fun k b b' h=>by simp at h⟩
 | [],_ :: _,h=>by simp [Z8k] at h
 | _ :: _,[],h=>by simp [Z8k] at h
 | x :: l,y :: l',h=>by
  simp only [Z8k,Bool.and_eq_true,beq_iff_eq] at h
  obtain ⟨h1,h2⟩:=Zqv h.2
  refine ⟨by simp [h1],fun k b b' hb hb'=>?_⟩
  cases k with
  | zero=>simp at hb hb'; subst hb hb'; exact h.1
  | succ k=>simp at hb hb'; exact h2 k b b' hb hb'
theorem Zzz (hC : Z05 Γ σ a w G β) {o : Oper} {fo : Operand} {args : Array Operand} {ts : Array TypeId} (ho : o.op = .call { callee:= .value fo,args,argTypes:=ts }) {f : FuncId} (hfo : σ.ev fo = .fn f)
  {told : Z1j} {io : IO} {σ' : S} {q : Prop} (h : Z9j P σ o f (args.toList.map σ.ev) told io = some (σ',q)) (hq : q) : Reach P Γ o a w σ':=by
 unfold Z9j at h
 split at h
 ·rename_i r hr
  split at h
  ·rename_i σ0 h0
   split at h
   ·rename_i ds l p hd
    split at h
    ·rename_i bs hbs
     split at h
     ·rename_i hcond
      cases h
      obtain ⟨hp,hds,hbe,hent,hcall⟩:=hq
      simp only [Bool.and_eq_true] at hcond
      obtain ⟨⟨hdst,hdis⟩,hsz⟩:=hcond
      rw [← hbe] at hsz hcall
      rw [← hds] at hcall
      obtain ⟨hC0,htm,hn0⟩:=hC.nilL _ h0
      obtain ⟨G',hCf,hGG,hlen,hvals⟩:=Zul hC0 hd hp
      obtain ⟨hsl,hsg⟩:=Zqv hsz
      obtain ⟨hbl,hbg⟩:=Zpc hbs
      have hval : a.eval fo = .func (.func f) #[] #[] :=by
       have:=Z3d hC fo
       rw [hfo] at this
       generalize a.eval fo = u at this
       cases this; rfl
      have hrun0 : (execOp a.eval o).run P w = (callFunc f (args.map a.eval)).run P w:=by
       simp [execOp,ho,resolve,hval,Deferred.ofValue,invoke]
      obtain ⟨hna,hnb⟩:=Zso (w:=w) (G:=G) (β:=β) io.nils (args.toList.map σ.ev) 0
      -- where the blocks stand
      let pre:=Z47 io.names β
      let Γ' : Ctx:={ B:=w.heap.size,X:=fun c=>∃ k s,pre k = some (c,s),w0:=w,G0:=G',hB:=Nat.le_refl _,pin:=fun k=>match pre k with
       | some (c,_)=>c
       | none=>0 }
      have hblk : ∀ {k c s},pre k = some (c,s) → ∃ b blk,io.names[k]? = some b ∧ β b = some (c,s) ∧ (σ0.freezeL l).heap b = some blk ∧ Z37 w G' β Γ c blk ∧ s = blk.sz:=fun {k c s} hk=>by
       obtain ⟨b,e1,e2⟩:=Zdn hk
       obtain ⟨blk,hb⟩:=hCf.dom b _ e2
       obtain ⟨e3,hBr⟩:=hCf.blk hb e2
       exact ⟨b,blk,e1,e2,hb,hBr,e3⟩
      have hXs : ∀ c,Γ'.X c → c < w.heap.size ∧ (Γ.B ≤ c ∨ Γ.X c) ∧ G' c = 0:=fun c hc=>by
       obtain ⟨k,s,hk⟩:=hc
       obtain ⟨b,blk,e1,e2,e3,hBr,-⟩:=hblk hk
       refine ⟨hBr.lt,hBr.own,?_⟩
       obtain ⟨blk2,blk',f1,f2,f3⟩:=hbg k b e1
       rw [e3] at f1; cases f1
       have hk' : k < io.bs'.length:=by
        rw [← hsl]
        rcases Nat.lt_or_ge k bs.length with h' | h'
        ·exact h'
        ·rw [List.getElem?_eq_none h'] at f2; cases f2
       have hz:=(hsg k _ _ f2 (List.getElem?_eq_getElem hk')).2
       have hz' : blk.frz = 0:=by rw [← (Zmt f3).2.1]; exact hz
       rcases Nat.eq_zero_or_pos (G' c) with h' | h'
       ·exact h'
       ·have:=hBr.frz 0 h'; rw [hz'] at this; simp at this
      have hE : Z05 Γ' (mkS ds.length (Z3s 0 ds) (Z4e 0 bs)) { tmps:=args.map a.eval,defers:=[] } w G' pre:=by
       refine hCf.enter (Γ':=Γ') hdis hbs (Nat.le_refl _) (fun k c s hk=>Or.inr ⟨k,s,hk⟩) (fun k b blk c s i hb hbk hk hi=>?_) (Z5a.refl _ _ _) (fun _ _ _=>rfl) (by rw [hlen,hna]; simp) (fun j v d hv hd=>?_)
       ·obtain rfl:=Y3x hi
        show (match pre i with
         | some (c,_)=>c
         | none=>0) = c
        rw [show pre i = some (c,s) from hk]
       ·simp only [Array.getElem?_map] at hv
        obtain ⟨x,hx,rfl⟩:=Z26 hv
        obtain ⟨d',e1,e2⟩:=hnb j _ (σ.ev x) (Z3d hC x) (by simp [hx])
        exact hvals j _ d' d e2 e1 hd
      refine fun next Q hn=>?_
      unfold Oper.wp
      rw [hrun0,Zlo hent,Oper.upon_enter]
      refine (hcall Γ' _ w G' pre hE).mono fun e w' he=>?_
      obtain ⟨v,G2,β2,rfl,h2⟩:=he
      obtain ⟨β1,hC1,hβ1⟩:=hCf.dropL (Z87 0 io.names io.bs')
      have hkept : ∀ {b k c s},io.names[k]? = some b → β b = some (c,s) → ∀ blk',io.bs'[k]? = some blk' → Z8n k blk' = true → β2 k = some (c,s):=fun {b k c s} hb hβ blk' hb' hk=>by
       obtain ⟨hpin,hne⟩:=Y3e hk
       have hpre : pre k = some (c,s):=(Zfe hb).trans hβ
       rcases h2.heap k blk' ((Zli _ _).trans hb') with ⟨-,g1,-⟩ | ⟨c',g0,hBr⟩
       ·exact absurd g1 hne
       ·have e:=hBr.pin k hpin
        have e' : Γ'.pin k = c:=by
         show (match pre k with
          | some (c,_)=>c
          | none=>0) = c
         rw [hpre]
        obtain ⟨b2,blk,f1,f2,f3,-,f4⟩:=hblk hpre
        rw [hb] at f1; cases f1
        obtain ⟨blk2,bk,f5,f6,f7⟩:=hbg k b hb
        rw [f3] at f5; cases f5
        have hs1:=(hsg k _ _ f6 hb').1
        rw [g0,← e,e',f4,← hs1,(Zmt f7).1]
      obtain ⟨hol,hog⟩:=Zsn (σ:=σ0.freezeL l) (ρ:=io.names) (j0:=0) (ρ':=io.names) (bs:=io.bs') (by omega)
      have hlv : ∃ β3,Z05 Γ (((σ0.freezeL l).dropL (Z87 0 io.names io.bs')).setL io.names (Z5e (σ0.freezeL l) io.names 0 io.names io.bs')) a w' G2 β3 ∧ Z06 w' G2 β3 v (outD io.names r):=by
       refine hC1.leave (bs2:=Z5e (σ0.freezeL l) io.names 0 io.names io.bs') hdis h2 rfl rfl rfl hXs (fun b c s hb hi hx=>?_) (fun b k x hi hb=>?_) (fun b k blk' hi hb=>?_) (fun b k blk hi hb=>?_)
       ·obtain ⟨k,s',hk⟩:=hx
        obtain ⟨b',blk,f1,f2,-⟩:=hblk hk
        obtain rfl:=hCf.inj b b' c s s' (hβ1 b _ hb).1 f2
        rw [Zeh hdis f1] at hi; cases hi
       ·have hg:=Z9h hi
        obtain ⟨e1,e2⟩:=hβ1 b x hb
        have hk' : k < io.bs'.length:=by
         rw [← hsl,hbl]
         rcases Nat.lt_or_ge k io.names.length with h' | h'
         ·exact h'
         ·rw [List.getElem?_eq_none h'] at hg; cases hg
        have hkk:=Ztj hg (List.getElem?_eq_getElem hk') e2
        rw [Nat.zero_add] at hkk
        exact hkept hg e1 _ (List.getElem?_eq_getElem hk') hkk
       ·obtain ⟨b',blk,pin,f1,f2,f3,f4⟩:=hog k blk' hb
        refine ⟨blk,pin,f2,f3,fun i c s hi hc=>?_⟩
        obtain ⟨g1,k0,g2,g3,g4⟩:=f4 i hi
        rw [Nat.zero_add] at g1
        rcases hCf.heap b' k0 g2 with ⟨-,g5,-⟩ | ⟨c0,g5,hBr⟩
        ·exact absurd g5 g4
        ·have:=hkept f1 g5 blk f2 g1
         rw [hc] at this
         cases this
         exact hBr.pin i g3
       ·have hk' : k < io.bs'.length:=by
         rcases Nat.lt_or_ge k io.bs'.length with h' | h'
         ·exact h'
         ·rw [List.getElem?_eq_none h'] at hb; cases hb
        exact ⟨_,List.getElem?_eq_getElem (by rw [hol]; exact hk')⟩
      obtain ⟨β3,k1,k2⟩:=hlv
      refine hn _ _ _ _ (k1.put ?_ k2)
      intro t ht
      change t < ((σ0.freezeL l).dropL _).n
      rw [Zym,(Zb5 l σ0).2,hn0]
      exact Z59 hdst t ht
     ·cases h
    ·cases h
   ·cases h
  ·cases h
 ·cases h
end Go.Den
