/-
  Calls that work on blocks of the caller.
-/
import Derived.Test.YtbhghodobphdeaaGreatDenWrite
import Derived.Laws.BytesArg
namespace Go.Den
open Go.RowKit
variable {P:Program} {Γ:Ctx} {σ:S} {a:Act} {w w':World} {G G':Nat→Nat} {β β':Nat→Option (Nat×Nat)} {ρ:List Nat}
theorem Z9e:∀ {ρ:List Nat} {b k:Nat},Z2v b ρ=some k→ρ[k]?=some b
 | [],_,_,h=>by cases h
 | x :: r,b,k,h=>by
  unfold Z2v at h
  split at h
  ·rename_i hx; cases h; simpa using (eq_of_beq hx).symm
  ·split at h
   ·rename_i j hj; cases h; simpa using Z9e hj
   ·cases h
theorem Zdu:∀ {ρ:List Nat} {b k:Nat},Z6m ρ=true→ρ[k]?=some b→Z2v b ρ=some k
 | [],_,_,_,h=>by simp at h
 | x :: r,b,k,hd,h=>by
  unfold Z6m at hd
  rw [Bool.and_eq_true] at hd
  cases k with
  | zero=>simp at h; subst h; simp [Z2v]
  | succ k=>
   simp at h
   have ih:=Zdu hd.2 h
   have hne:b≠x:=by
    rintro rfl
    rw [ih] at hd
    exact absurd hd.1 (by simp)
   have:(b==x)=false:=by simpa using hne
   simp only [Z2v,this,ih]
def Z4b (ρ:List Nat) (β:Nat→Option (Nat×Nat)):Nat→Option (Nat×Nat):=fun k=>(ρ[k]?).bind β
theorem Zdn {k:Nat} {x:Nat×Nat} (h:Z4b ρ β k=some x):∃ b,ρ[k]?=some b∧β b=some x:=by
 unfold Z4b at h
 cases hb:ρ[k]? with
 | none=>rw [hb] at h; cases h
 | some b=>rw [hb] at h; exact ⟨b,rfl,h⟩
theorem Zef {k b:Nat} (h:ρ[k]?=some b):Z4b ρ β k=β b:=by unfold Z4b; rw [h]; rfl
theorem Z03.inA {v:Value} {d d':D} (h:Z03 w G β v d) (hi:inA ρ d=some d'):Z03 w G (Z4b ρ β) v d':=by
 have hdat:∀ d,Z03 w G β v d→d.dat=true→Z03 w G (Z4b ρ β) v d:=fun d h hd=>h.of_dat (fun _ _ _=>rfl) (fun _=>Nat.le_refl _) hd
 cases d with
 | lptr b i o=>
  simp only [Den.inA] at hi
  split at hi
  ·rename_i k hk
   cases hi
   cases h with
   | lptr _ _ _ c sz hβ=>exact .lptr k i o c sz (by rw [Zef (Z9e hk),hβ])
  ·cases hi
 | lsl b lo n=>
  simp only [Den.inA] at hi
  split at hi
  ·rename_i k hk
   cases hi
   cases h with
   | lslnil _ x=>exact .lslnil k x
   | lsl _ _ _ cap c sz off hβ hcap hoff hroom=>exact .lsl k lo n cap c sz off (by rw [Zef (Z9e hk),hβ]) hcap hoff hroom
  ·cases hi
 | undef=>cases hi; exact .undef v
 | agg cs=>simp [Den.inA,D.dat] at hi
 | tup cs=>simp [Den.inA,D.dat] at hi
 | _=>simp only [Den.inA,D.dat] at hi; cases hi; exact hdat _ h rfl
theorem Zkz:∀ {l l':List D},inL ρ l=some l'→l'.length=l.length∧∀ (j:Nat) d',l'[j]?=some d'→∃ d,l[j]?=some d∧inA ρ d=some d'
 | [],l',h=>by cases h; exact ⟨rfl,fun j d' h=>by simp at h⟩
 | d :: r,l',h=>by
  unfold inL at h
  split at h
  ·rename_i x y hx hy
   cases h
   obtain ⟨h1,h2⟩:=Zkz hy
   refine ⟨by simp [h1],fun j d' hd'=>?_⟩
   cases j with
   | zero=>simp at hd'; subst hd'; exact ⟨d,rfl,hx⟩
   | succ j=>simp at hd'; simpa using h2 j d' hd'
  ·cases h
theorem Zls:∀ {l l':List (List D)},inR ρ l=some l'→l'.length=l.length∧∀ (j:Nat) d',l'[j]?=some d'→∃ d,l[j]?=some d∧inL ρ d=some d'
 | [],l',h=>by cases h; exact ⟨rfl,fun j d' h=>by simp at h⟩
 | d :: r,l',h=>by
  unfold inR at h
  split at h
  ·rename_i x y hx hy
   cases h
   obtain ⟨h1,h2⟩:=Zls hy
   refine ⟨by simp [h1],fun j d' hd'=>?_⟩
   cases j with
   | zero=>simp at hd'; subst hd'; exact ⟨d,rfl,hx⟩
   | succ j=>simp at hd'; simpa using h2 j d' hd'
  ·cases h
theorem Zo6 {pin:Option Nat} {blk blk':Blk} (h:inB ρ pin blk=some blk'):blk'.sz=blk.sz∧blk'.frz=blk.frz∧blk'.pin=pin∧(blk.rows=[]→blk'.rows=[]):=by
 unfold inB at h
 split at h
 ·cases h; exact ⟨rfl,rfl,rfl,id⟩
 ·split at h
  ·rename_i rows hr
   cases h
   refine ⟨rfl,rfl,rfl,fun h0=>?_⟩
   have:=(Zls hr).1
   rw [h0] at this
   exact List.eq_nil_of_length_eq_zero this
  ·cases h
theorem Z2x.into {Γ':Ctx} {c:Nat} {blk blk':Blk} {pin:Option Nat} (hB:Z2x w G β Γ c blk) (h:inB ρ pin blk=some blk') (hown:Γ'.B≤c∨Γ'.X c) (hpin:∀ k,pin=some k→Γ'.pin k=c):
  Z2x w G (Z4b ρ β) Γ' c blk':=by
 obtain ⟨own,pin',ty,frz,top,dat,hsz,vs,e,fr,h1,h2,h3,h4⟩:=hB
 unfold inB at h
 split at h
 ·rename_i hp
  cases h
  exact ⟨hown,hpin,ty,frz,top,dat,hsz,vs,e,fr,h1,h2,h3,fun i j r d hr hd=>by
   obtain ⟨v,a1,a2,a3⟩:=h4 i j r d hr hd
   exact ⟨v,a1,a2,a3.of_dat (fun _ _ _=>rfl) (fun _=>Nat.le_refl _) (dat hp i j r d hr hd)⟩⟩
 ·rename_i hp
  split at h
  ·rename_i rows hr
   cases h
   obtain ⟨k1,k2⟩:=Zls hr
   refine ⟨hown,hpin,ty,frz,by simpa [k1] using top,(fun hp'=>by rw [hp] at hp'; cases hp'),(fun i r' hr'=>?_),vs,e,fr,h1,h2,by simpa [k1] using h3,(fun i j r' d' hr' hd'=>?_)⟩
   ·obtain ⟨r,e1,e2⟩:=k2 i r' hr'
    rw [(Zkz e2).1]; exact hsz i r e1
   ·obtain ⟨r,e1,e2⟩:=k2 i r' hr'
    obtain ⟨d,e3,e4⟩:=(Zkz e2).2 j d' hd'
    obtain ⟨v,a1,a2,a3⟩:=h4 i j r d e1 e3
    exact ⟨v,a1,a2,a3.inA e4⟩
  ·cases h
theorem inRef_A {d d':D} (h:inRef ρ d=some d'):inA ρ d=some d':=by
 cases d <;> simp only [inRef] at h <;> first|(cases h; done)|(cases h; rfl)|skip
 all_goals
  simp only [Den.inA]
  split at h
  ·cases h; rename_i hk; simp only [hk]
  ·cases h
theorem Zp1 (h:Z04 Γ σ a w G β) {kp:Bool}:∀ {ds ds':List D} {l:List Nat} {p:Prop},Z4u kp σ ρ ds=some (ds',l,p)→p→(∀ b∈l,Z60 σ G β b)→ds'.length=ds.length∧
  ∀ (j:Nat) v d d',Z03 w G β v d→ds[j]?=some d→ds'[j]?=some d'→Z03 w G (Z4b ρ β) v d'
 | [],ds',l,p,hd,hp,hf=>by cases hd; exact ⟨rfl,fun j v d d' _ h=>by simp at h⟩
 | x :: r,ds',l,p,hd,hp,hf=>by
  unfold Z4u at hd
  split at hd
  ·rename_i y hy
   split at hd
   ·rename_i y' l' q hq
    cases hd
    obtain ⟨k1,k3⟩:=Zp1 h hq hp hf
    refine ⟨by simp [k1],fun j v d d' hv hd hd'=>?_⟩
    cases j with
    | zero=>simp at hd hd'; subst hd hd'; exact hv.inA (inRef_A hy)
    | succ j=>simp at hd hd'; exact k3 j v d d' hv hd hd'
   ·cases hd
  ·split at hd
   ·rename_i d1 l1 p1 r1 l2 p2 e1 e2
    cases hd
    obtain ⟨k1,k3⟩:=Zp1 h e2 hp.2 (fun b hb=>hf b (by simp [hb]))
    refine ⟨by simp [k1],fun j v d d' hv hd hd'=>?_⟩
    cases j with
    | zero=>simp at hd hd'; subst hd hd'; exact (Zzo h hv e1 hp.1 (fun b hb=>hf b (by simp [hb]))).mono (fun _ _ _=>rfl) (fun _=>Nat.le_refl _) (fun b x hx=>by cases hx) (.refl w)
    | succ j=>simp at hd hd'; exact k3 j v d d' hv hd hd'
   ·cases hd
theorem Zli {kp:Bool} {σ σ':S} (h:Z5e σ σ'):∀ ds,Z4u kp σ' ρ ds=Z4u kp σ ρ ds
 | [] =>rfl
 | d::r=>by unfold Z4u; rw [Y1t h,Zli h r]
theorem Zxx (h:Z04 Γ σ a w G β) {kp:Bool} {ds ds':List D} {l:List Nat} {p:Prop} (hd:Z4u kp σ ρ ds=some (ds',l,p)) (hp:p):
  ∃ G',Z04 Γ (σ.freezeL l) a w G' β∧(∀ k,G k≤G' k)∧ds'.length=ds.length∧∀ (j:Nat) v d d',Z03 w G β v d→ds[j]?=some d→ds'[j]?=some d'→Z03 w G' (Z4b ρ β) v d':=by
 obtain ⟨G',h1,h2,h3⟩:=Z04.freezeL l h
 rw [← Zli (Zpf l σ)] at hd
 obtain ⟨k1,k2⟩:=Zp1 h1 hd hp (fun b hb=>Zuk l (h3 b hb))
 exact ⟨G',h1,h2,k1,fun j v d d' hv=>k2 j v d d' (hv.mono (fun _ _ _=>rfl) h2 (fun _ _ h=>h) (.refl w))⟩
theorem Zo0 {mark:Option Nat→Nat→Option Nat}:∀ {j0:Nat} {ρ':List Nat} {bs:List Blk},Z6n σ ρ mark j0 ρ'=some bs→bs.length=ρ'.length∧
  ∀ k b,ρ'[k]?=some b→∃ blk blk',σ.heap b=some blk∧bs[k]?=some blk'∧inB ρ (mark blk.pin (j0+k)) blk=some blk'
 | j0,[],bs,h=>by cases h; exact ⟨rfl,fun k b h=>by simp at h⟩
 | j0, b0::r,bs,h=>by
  unfold Z6n at h
  split at h
  ·rename_i k0 hk0
   split at h
   ·rename_i x y hx hy
    cases h
    obtain ⟨h1,h2⟩:=Zo0 hy
    refine ⟨by simp [h1],fun k b hb=>?_⟩
    cases k with
    | zero=>simp at hb; subst hb; exact ⟨k0,x,hk0,rfl,hx⟩
    | succ k=>
     simp at hb
     obtain ⟨blk,blk',e1,e2,e3⟩:=h2 k b hb
     exact ⟨blk,blk',e1,by simpa using e2,by rw [← e3,show j0+(k+1)=j0+1+k by omega]⟩
   ·cases h
  ·cases h
theorem Zu6:∀ (bs:List Blk) (i t:Nat),ofB (Z4g i bs) t=if i≤t then bs[t - i]? else none
 | [],i,t=>by simp [Z4g,ofB]
 | d :: r,i,t=>by
  unfold Z4g ofB
  rw [Zu6 r (i+1) t]
  by_cases h:t=i
  ·subst h; simp
  ·rw [if_neg h]
   by_cases h2:i≤t
   ·rw [if_pos (by omega),if_pos h2,show t - i=(t - (i+1))+1 by omega]; rfl
   ·rw [if_neg (by omega),if_neg h2]
theorem Zgz (bs:List Blk) (t:Nat):ofB (Z4g 0 bs) t=bs[t]? :=by rw [Zu6,if_pos (Nat.zero_le _),Nat.sub_zero]
theorem Zcn:∀ (ds:List D) (i t:Nat),ofL (Z3v i ds) t=if i≤t then ds.getD (t - i) .undef else .undef
 | [],i,t=>by simp [Z3v,ofL]
 | d :: r,i,t=>by
  unfold Z3v ofL
  rw [Zcn r (i+1) t]
  by_cases h:t=i
  ·subst h; simp
  ·rw [if_neg h]
   by_cases h2:i≤t
   ·rw [if_pos (by omega),if_pos h2,show t - i=(t - (i+1))+1 by omega]; rfl
   ·rw [if_neg (by omega),if_neg h2]
theorem Z04.enter {mark:Option Nat→Nat→Option Nat} (h:Z04 Γ σ a w G β) (hd:Z6m ρ=true) {bs:List Blk} (hb:Z6n σ ρ mark 0 ρ=some bs) {Γ':Ctx} (hΓ:Γ'.B≤w.heap.size)
  (own':∀ k c s,Z4b ρ β k=some (c,s)→Γ'.B≤c∨Γ'.X c)
  (pin':∀ k b blk c s i,ρ[k]?=some b→σ.heap b=some blk→Z4b ρ β k=some (c,s)→mark blk.pin k=some i→Γ'.pin i=c)
  (kept:Z5b Γ'.B Γ'.X Γ'.w0 w) (marks:∀ c,c<Γ'.B→ ¬ Γ'.X c→G c=Γ'.G0 c) {vs:Array Value} {ds:List D} (hn:ds.length=vs.size)
  (hv:∀ (j:Nat) v d,vs[j]?=some v→ds[j]?=some d→Z03 w G (Z4b ρ β) v d):
  Z04 Γ' (mkS ds.length (Z3v 0 ds) (Z4g 0 bs)) { tmps:=vs,defers:=[] } w G (Z4b ρ β):=by
 obtain ⟨hl,hg⟩:=Zo0 hb
 refine ⟨rfl,hn.symm,fun t=>?_,fun k blk' hk=>?_,fun k x hx=>?_,fun k k' c s s' hk hk'=>?_,kept,marks,h.fresh,hΓ⟩
 ·show Z03 w G _ _ (ofL (Z3v 0 ds) t)
  rw [Zcn,if_pos (Nat.zero_le _),Nat.sub_zero]
  rcases Nat.lt_or_ge t ds.length with ht|ht
  ·have ht':t<vs.size:=by omega
   have e1:ds.getD t .undef=ds[t] :=by simp [List.getD,List.getElem?_eq_getElem ht]
   have e2:vs.getD t Go.undef=vs[t] :=by simp [Array.getD_eq_getD_getElem?,Array.getElem?_eq_getElem ht']
   show Z03 w G _ (vs.getD t Go.undef) _
   rw [e1,e2]
   exact hv t _ _ (Array.getElem?_eq_getElem ht') (List.getElem?_eq_getElem ht)
  ·have e1:ds.getD t .undef=.undef:=by simp [List.getD,List.getElem?_eq_none ht]
   rw [e1]; exact .undef _
 ·have hk':bs[k]?=some blk':=by rw [← Zgz]; exact hk
  have hlt:k<ρ.length:=by
   rcases Nat.lt_or_ge k bs.length with h'|h'
   ·omega
   ·rw [List.getElem?_eq_none h'] at hk'; cases hk'
  obtain ⟨blk,blk2,e1,e2,e3⟩:=hg k ρ[k] (List.getElem?_eq_getElem hlt)
  rw [hk'] at e2; cases e2
  rw [Nat.zero_add] at e3
  obtain ⟨s1,s2,s3,s4⟩:=Zo6 e3
  have hpre:Z4b ρ β k=β ρ[k] :=Zef (List.getElem?_eq_getElem hlt)
  rcases h.heap _ blk e1 with ⟨h0,h1,h2⟩|⟨c,h0,hB⟩
  ·exact .inl ⟨hpre.trans h0,s4 h1,s2.trans h2⟩
  ·refine .inr ⟨c,by rw [hpre,h0,s1],hB.into e3 (own' k c _ (hpre.trans h0)) fun i hi=>pin' k _ blk c _ i (List.getElem?_eq_getElem hlt) e1 (hpre.trans h0) hi⟩
 ·obtain ⟨b,e1,e2⟩:=Zdn hx
  obtain ⟨blk,blk',-,f2,-⟩:=hg k b e1
  exact ⟨blk',by show ofB (Z4g 0 bs) k=_; rw [Zgz]; exact f2⟩
 ·obtain ⟨b,e1,e2⟩:=Zdn hk
  obtain ⟨b',e1',e2'⟩:=Zdn hk'
  obtain rfl:=h.inj b b' c s s' e2 e2'
  have:=(Zdu hd e1).symm.trans (Zdu hd e1')
  simpa using this
theorem Z03.outA {β3:Nat→Option (Nat×Nat)} (hout:∀ k b,ρ[k]?=some b→β3 b=β k) {v:Value} {d:D} (h:Z03 w G β v d):Z03 w G β3 v (outA ρ d):=by
 cases d with
 | lptr k i o=>
  simp only [Den.outA]
  split
  ·rename_i b hb
   cases h with
   | lptr _ _ _ c sz hβ=>exact .lptr b i o c sz ((hout k b hb).trans hβ)
  ·exact .undef v
 | lsl k lo n=>
  simp only [Den.outA]
  split
  ·rename_i b hb
   cases h with
   | lslnil _ x=>exact .lslnil b x
   | lsl _ _ _ cap c sz off hβ hcap hoff hroom=>exact .lsl b lo n cap c sz off ((hout k b hb).trans hβ) hcap hoff hroom
  ·exact .undef v
 | agg cs=>exact .undef v
 | tup cs=>exact .undef v
 | undef=>exact .undef v
 | _=>exact h.of_dat (fun _ _ _=>rfl) (fun _=>Nat.le_refl _) rfl
theorem Z03.outE {β3:Nat→Option (Nat×Nat)} (hout:∀ k b,ρ[k]?=some b→β3 b=β k) {v:Value} {d:D} (h:Z03 w G β v d):Z03 w G β3 v (outE ρ d):=by
 cases d with
 | agg cs=>
  obtain ⟨vs,rfl,hn,hone,hrep⟩:=Z4t h
  refine .agg vs _ (by simpa using hn) hone (fun j v d hv hd=>?_)
  rw [List.getElem?_map] at hd
  obtain ⟨d',hd',rfl⟩:=Z20 hd
  exact (hrep j v d' hv hd').outA hout
 | _=>exact h.outA hout
theorem Z03.outD {β3:Nat→Option (Nat×Nat)} (hout:∀ k b,ρ[k]?=some b→β3 b=β k) {v:Value} {d:D} (h:Z03 w G β v d):Z03 w G β3 v (outD ρ d):=by
 cases d with
 | tup ds=>
  cases h with
  | tup vs _ hn hrep=>
   refine .tup vs _ (by simpa using hn) (fun j v d hv hd=>?_)
   rw [List.getElem?_map] at hd
   obtain ⟨d',hd',rfl⟩:=Z20 hd
   exact (hrep j v d' hv hd').outE hout
 | _=>exact h.outE hout
theorem Z2x.out {Γ':Ctx} {β3:Nat→Option (Nat×Nat)} (hout:∀ k b,ρ[k]?=some b→β3 b=β k) {c:Nat} {blk:Blk} {pin:Option Nat} (hB:Z2x w G β Γ' c blk) (hown:Γ.B≤c∨Γ.X c) (hpin:∀ k,pin=some k→Γ.pin k=c):
  Z2x w G β3 Γ c (Z7y ρ pin blk):=by
 obtain ⟨own,pin',ty,frz,top,dat,hsz,vs,e,fr,h1,h2,h3,h4⟩:=hB
 unfold Z7y
 split
 ·rename_i hp
  exact ⟨hown,hpin,ty,frz,top,dat,hsz,vs,e,fr,h1,h2,h3,fun i j r d hr hd=>by
   obtain ⟨v,a1,a2,a3⟩:=h4 i j r d hr hd
   exact ⟨v,a1,a2,a3.of_dat (fun _ _ _=>rfl) (fun _=>Nat.le_refl _) (dat hp i j r d hr hd)⟩⟩
 ·rename_i hp
  refine ⟨hown,hpin,ty,frz,by simpa using top,(fun hp'=>by rw [hp] at hp'; cases hp'),(fun i r hr=>?_),vs,e,fr,h1,h2,by simpa using h3,(fun i j r d hr hd=>?_)⟩
  ·simp only [List.getElem?_map] at hr
   obtain ⟨r',hr',rfl⟩:=Z20 hr
   simpa using hsz i r' hr'
  ·simp only [List.getElem?_map] at hr
   obtain ⟨r',hr',rfl⟩:=Z20 hr
   rw [List.getElem?_map] at hd
   obtain ⟨d',hd',rfl⟩:=Z20 hd
   obtain ⟨v,a1,a2,a3⟩:=h4 i j r' d' hr' hd'
   exact ⟨v,a1,a2,a3.outA hout⟩
theorem Y3s (ρ:List Nat) (pin:Option Nat) (blk:Blk):(Z7y ρ pin blk).sz=blk.sz∧(Z7y ρ pin blk).frz=blk.frz∧(blk.rows=[]→(Z7y ρ pin blk).rows=[]):=by
 unfold Z7y
 split
 ·exact ⟨rfl,rfl,id⟩
 ·exact ⟨rfl,rfl,fun h=>by simp [h]⟩
theorem Z04.leave {β1 β2:Nat→Option (Nat×Nat)} {G2:Nat→Nat} (h1:Z04 Γ σ a w G β1) (hd:Z6m ρ=true) {Γ':Ctx} {r:D} {bs' bs2:List Blk} {v:Value}
  (h2:Z04 Γ' (mkS 1 [(0,r)] (Z4g 0 bs')) { tmps:=#[v],defers:=[] } w' G2 β2) (hB:Γ'.B=w.heap.size) (hw:Γ'.w0=w) (hG:Γ'.G0=G)
  (hX:∀ c,Γ'.X c→c<w.heap.size∧(Γ.B≤c∨Γ.X c)∧G c=0)
  (hfree:∀ b c s,β1 b=some (c,s)→Z2v b ρ=none→ ¬ Γ'.X c)
  (hkeep:∀ b k x,Z2v b ρ=some k→β1 b=some x→β2 k=some x)
  (hbs:∀ b k blk',Z2v b ρ=some k→bs2[k]?=some blk'→∃ blk pin,bs'[k]?=some blk∧blk'=Z7y ρ pin blk∧∀ i c s,pin=some i→β2 k=some (c,s)→Γ.pin i=c)
  (hlen:∀ (b k:Nat) (blk:Blk),Z2v b ρ=some k→bs'[k]?=some blk→∃ blk':Blk,bs2[k]?=some blk'):
  ∃ β3,Z04 Γ (σ.setL ρ bs2) a w' G2 β3∧Z03 w' G2 β3 v (outD ρ r):=by
 let β3:Nat→Option (Nat×Nat):=fun b=>match Z2v b ρ with
  | some k=>β2 k
  | none=>β1 b
 have b3in:∀ {b k},Z2v b ρ=some k→β3 b=β2 k:=fun {b k} h=>by simp only [β3,h]
 have b3out:∀ {b},Z2v b ρ=none→β3 b=β1 b:=fun {b} h=>by simp only [β3,h]
 have hout:∀ k b,ρ[k]?=some b→β3 b=β2 k:=fun k b h=>b3in (Zdu hd h)
 have hk2:=h2.kept
 rw [hB,hw] at hk2
 have hgone:∀ c,¬ c<w.heap.size→ ¬ Γ'.X c:=fun c hc hx=>hc (hX c hx).1
 have hG2:∀ c,c<w.heap.size→ ¬ Γ'.X c→G2 c=G c:=fun c hc hx=>by rw [h2.marks c (by rw [hB]; exact hc) hx,hG]
 have hcell:∀ b o,o<G b→w'.cell? ⟨b,o,none⟩=w.cell? ⟨b,o,none⟩:=fun b o ho=>by
  refine Z5v (hk2.block b (h1.marksLt ho) fun hx=>?_) o
  have:=(hX b hx).2.2
  omega
 have hGle:∀ b,G b≤G2 b:=fun b=>by
  by_cases hb:b<w.heap.size
  ·by_cases hx:Γ'.X b
   ·rw [(hX b hx).2.2]; exact Nat.zero_le _
   ·rw [hG2 b hb hx]; exact Nat.le_refl _
  ·rw [h1.fresh b (by omega)]; exact Nat.zero_le _
 have hβ:∀ b x,β1 b=some x→β3 b=some x:=fun b x hx=>by
  cases hi:Z2v b ρ with
  | some k=>rw [b3in hi]; exact hkeep b k x hi hx
  | none=>rw [b3out hi]; exact hx
 have hs:Z58 w w':=hk2.same
 have heap2:∀ k,(mkS 1 [(0,r)] (Z4g 0 bs')).heap k=bs'[k]? :=fun k=>Zgz bs' k
 have hlt1:∀ {b c s},β1 b=some (c,s)→c<w.heap.size∧∃ blk,σ.heap b=some blk∧Z2x w G β1 Γ c blk∧s=blk.sz:=fun {b c s} hb=>by
  obtain ⟨blk,hk⟩:=h1.dom b _ hb
  obtain ⟨e,hBr⟩:=h1.blk hk hb
  exact ⟨hBr.lt,blk,hk,hBr,e⟩
 have own2:∀ {k c s},β2 k=some (c,s)→(w.heap.size≤c∨Γ'.X c):=fun {k c s} hb=>by
  obtain ⟨blk,hk⟩:=h2.dom k _ hb
  obtain ⟨-,hBr⟩:=h2.blk hk hb
  rw [← hB]; exact hBr.own
 refine ⟨β3,⟨h1.defers,h1.size,fun t=>(h1.tmps t).mono hcell hGle hβ hs,fun u blk hu=>?_,fun u x hu=>?_,fun u u' c s s' hu hu'=>?_,h1.kept.trans ⟨hk2.os,hk2.tape,hk2.output,hk2.size,fun k hk hx=>hk2.block k (Nat.lt_of_lt_of_le hk h1.big) fun hx'=>(hX k hx').2.1.elim (fun h=>by omega) hx,hs⟩,fun c hc hx=>?_,h2.fresh,Nat.le_trans h1.big hk2.size⟩,?_⟩
 ·simp only [S.setL] at hu
  split at hu
  ·rename_i k hk
   obtain ⟨blk0,pin,e1,rfl,e3⟩:=hbs u k blk hk hu
   obtain ⟨s1,s2,s3⟩:=Y3s ρ pin blk0
   rcases h2.heap k blk0 ((heap2 k).trans e1) with ⟨g0,g1,g2⟩|⟨c,g0,hBr⟩
   ·exact .inl ⟨(b3in hk).trans g0,s3 g1,s2.trans g2⟩
   ·refine .inr ⟨c,by rw [b3in hk,g0,s1],hBr.out hout ?_ fun i hi=>e3 i c _ hi g0⟩
    rcases own2 g0 with h|h
    ·exact .inl (Nat.le_trans h1.big h)
    ·exact (hX c h).2.1
  ·rename_i hk
   rcases h1.heap u blk hu with ⟨g0,g1⟩|⟨c,g0,hBr⟩
   ·exact .inl ⟨(b3out hk).trans g0,g1⟩
   ·have hx:=hfree u c _ g0 hk
    exact .inr ⟨c,(b3out hk).trans g0,hBr.mono hcell hGle (hG2 c hBr.lt hx) hβ hs (hk2.block c hBr.lt hx)⟩
 ·simp only [S.setL]
  cases hk:Z2v u ρ with
  | some k=>
   rw [b3in hk] at hu
   obtain ⟨blk,hb⟩:=h2.dom k x hu
   rw [heap2] at hb
   exact hlen u k blk hk hb
  | none=>
   rw [b3out hk] at hu
   exact h1.dom u x hu
 ·cases hk:Z2v u ρ with
  | some k=>
   rw [b3in hk] at hu
   cases hk':Z2v u' ρ with
   | some k'=>
    rw [b3in hk'] at hu'
    obtain rfl:=h2.inj k k' c s s' hu hu'
    have:=(Z9e hk).symm.trans (Z9e hk')
    simpa using this
   | none=>
    rw [b3out hk'] at hu'
    have hlt:=(hlt1 hu').1
    rcases own2 hu with h|h
    ·omega
    ·exact absurd h (hfree u' c s' hu' hk')
  | none=>
   rw [b3out hk] at hu
   cases hk':Z2v u' ρ with
   | some k'=>
    rw [b3in hk'] at hu'
    have hlt:=(hlt1 hu).1
    rcases own2 hu' with h|h
    ·omega
    ·exact absurd h (hfree u c s hu hk)
   | none=>
    rw [b3out hk'] at hu'
    exact h1.inj u u' c s s' hu hu'
 ·have hc':=Nat.lt_of_lt_of_le hc h1.big
  rw [hG2 c hc' fun hx'=>(hX c hx').2.1.elim (fun h=>by omega) hx]
  exact h1.marks c hc hx
 ·have:=h2.tmps 0
  exact this.outD hout
theorem Z04.dropL:∀ (l:List Nat) {σ:S} {β:Nat→Option (Nat×Nat)},Z04 Γ σ a w G β→∃ β1,Z04 Γ (σ.dropL l) a w G β1∧∀ b x,β1 b=some x→β b=some x∧b ∉ l
 | [],σ,β,h=>⟨β,h,fun b x hx=>⟨hx,by simp⟩⟩
 | u::l,σ,β,h=>by
  obtain ⟨β1,h1,h2⟩:=Z04.dropL l (h.drop u)
  refine ⟨β1,h1,fun b x hx=>?_⟩
  obtain ⟨e1,e2⟩:=h2 b x hx
  unfold upd at e1
  split at e1
  ·cases e1
  ·rename_i hne; exact ⟨e1,by simp [hne,e2]⟩
theorem Zs3:∀ (l:List Nat) (σ:S),(σ.dropL l).n=σ.n
 | [],_=>rfl
 | b::l,σ=>Zs3 l (σ.drop b)
theorem Z04.nilL:∀ (l:List (Nat×Nat)) {σ σ':S},Z04 Γ σ a w G β→σ.nilL l=some σ'→Z04 Γ σ' a w G β∧σ'.tmps=σ.tmps∧σ'.n=σ.n
 | [],σ,σ',h,hs=>by cases hs; exact ⟨h,rfl,rfl⟩
 | (b,sz)::l,σ,σ',h,hs=>by
  unfold S.nilL at hs
  split at hs
  ·rename_i hb
   obtain ⟨h1,h2,h3⟩:=Z04.nilL l (h.nameNil (blk:={ sz,rows:=[],frz:=0,pure:=true }) hb ⟨rfl,rfl⟩) hs
   exact ⟨h1,h2,h3⟩
  ·cases hs
theorem Zqp (l:List (Nat×Nat)):∀ (ds:List D) (j0:Nat),(Z87 l j0 ds).length=ds.length∧∀ (j:Nat) v d,Z03 w G β v d→ds[j]?=some d→∃ d',(Z87 l j0 ds)[j]?=some d'∧Z03 w G β v d'
 | [],j0=>⟨rfl,fun j v d _ h=>by simp at h⟩
 | x :: r,j0=>by
  obtain ⟨h1,h2⟩:=Zqp l r (j0+1)
  refine ⟨by simp [Z87,h1],fun j v d hv hd=>?_⟩
  cases j with
  | zero=>
   simp at hd; subst hd
   refine ⟨_,rfl,?_⟩
   split
   ·split
    ·cases hv with
     | slnil _ y=>exact .lslnil _ y
     | sl c b off n cap sz _ val hn hcc=>simp at hn; subst hn; rw [hcc rfl]; exact .lslnil _ _
    ·exact hv
   ·exact hv
  | succ j=>
   simp at hd
   obtain ⟨d',e1,e2⟩:=h2 j v d hv hd
   exact ⟨d',by simpa [Z87] using e1,e2⟩
theorem Y16 {bs:List Blk} {j i:Nat} (h:Zd4 bs j=some i):i=j:=by
 unfold Zd4 at h
 repeat' split at h
 all_goals first|(cases h; rfl)|(cases h; done)
theorem Zqc:∀ {j0:Nat} {ρ:List Nat} {bs:List Blk} {k b:Nat} {blk:Blk},ρ[k]?=some b→bs[k]?=some blk→b ∉ Z8n j0 ρ bs→Z98 (j0+k) blk=true
 | j0,[],bs,k,b,blk,h,_,_=>by simp at h
 | j0,x::r,[],k,b,blk,_,h,_=>by simp at h
 | j0,x::r,y::l,k,b,blk,h1,h2,h3=>by
  unfold Z8n at h3
  cases k with
  | zero=>
   simp at h1 h2; subst h1 h2
   rcases Bool.eq_false_or_eq_true (Z98 j0 y) with hk|hk
   ·exact hk
   ·rw [hk] at h3; simp at h3
  | succ k=>
   simp at h1 h2
   rw [show j0+(k+1)=j0+1+k by omega]
   refine Zqc h1 h2 fun hm=>h3 ?_
   split
   ·exact hm
   ·exact List.mem_cons_of_mem _ hm
theorem Y0r {j:Nat} {k:Blk} (h:Z98 j k=true):k.pin=some j∧k.rows≠[] :=by
 unfold Z98 at h
 split at h
 ·rename_i i hi
  split at h
  ·rename_i he
   obtain rfl:=eq_of_beq he
   split at h
   ·rename_i hr; exact ⟨hi,by rw [hr]; simp⟩
   ·cases h
  ·cases h
 ·cases h
theorem Zuo:∀ {j0:Nat} {ρ':List Nat} {bs:List Blk},bs.length=ρ'.length→(Z5a σ ρ j0 ρ' bs).length=bs.length∧∀ k blk',(Z5a σ ρ j0 ρ' bs)[k]?=some blk'→∃ b blk pin,ρ'[k]?=some b∧bs[k]?=some blk∧blk'=Z7y ρ pin blk∧
  ∀ i,pin=some i→Z98 (j0+k) blk=true∧∃ k0,σ.heap b=some k0∧k0.pin=some i∧k0.rows≠[]
 | j0,[],[],_=>⟨rfl,fun k blk' h=>by simp [Z5a] at h⟩
 | j0,[],_::_,h=>by simp at h
 | j0,_::_,[],h=>by simp at h
 | j0, x :: r,y::l,hl=>by
  obtain ⟨h1,h2⟩:=Zuo (j0:=j0+1) (ρ':=r) (bs:=l) (by simpa using hl)
  refine ⟨by simp [Z5a,h1],fun k blk' h=>?_⟩
  cases k with
  | zero=>
   simp only [Z5a,List.getElem?_cons_zero,Option.some.injEq] at h
   refine ⟨x,y,_,rfl,rfl,h.symm,fun i hi=>?_⟩
   split at hi
   ·rename_i hk
    refine ⟨hk,?_⟩
    split at hi
    ·rename_i k0 hk0
     split at hi
     ·rename_i hr; exact ⟨k0,hk0,hi,by rw [hr]; simp⟩
     ·cases hi
    ·cases hi
   ·cases hi
  | succ k=>
   simp only [Z5a,List.getElem?_cons_succ] at h
   obtain ⟨b,blk,pin,e1,e2,e3,e4⟩:=h2 k blk' h
   exact ⟨b,blk,pin,by simpa using e1,by simpa using e2,e3,fun i hi=>by rw [show j0+(k+1)=j0+1+k by omega]; exact e4 i hi⟩
theorem Ztd:∀ {bs bs':List Blk},Z8s bs bs'=true→bs.length=bs'.length∧∀ (k:Nat) b b',bs[k]?=some b→bs'[k]?=some b'→b.sz=b'.sz∧b.frz=0
 | [],[],_=>⟨rfl,fun k b b' h=>by simp at h⟩
 | [],_::_,h=>by simp [Z8s] at h
 | _::_,[],h=>by simp [Z8s] at h
 | x::l,y::l',h=>by
  simp only [Z8s,Bool.and_eq_true,beq_iff_eq] at h
  obtain ⟨h1,h2⟩:=Ztd h.2
  refine ⟨by simp [h1],fun k b b' hb hb'=>?_⟩
  cases k with
  | zero=>simp at hb hb'; subst hb hb'; exact h.1
  | succ k=>simp at hb hb'; exact h2 k b b' hb hb'
theorem Y3c (hC : Z04 Γ σ a w G β) {o:Oper} {fo:Operand} {args:Array Operand} {ts:Array TypeId} (ho:o.op=.call { callee:= .value fo,args,argTypes:=ts }) {f:FuncId} (hfo:σ.ev fo=.fn f)
  {told:Z18} {io:IO} {σ':S} {q:Prop} (h:Z9c P σ o f (args.toList.map σ.ev) told io=some (σ',q)) (hq:q):Reach P Γ o a w σ':=by
 unfold Z9c at h
 split at h
 ·rename_i r hr
  split at h
  ·rename_i σ0 h0
   split at h
   ·rename_i ds l p hd
    split at h
    ·rename_i bs hbs
     split at h
     ·rename_i hcond
      cases h
      obtain ⟨hp,hds,hbe,hent,hcall⟩:=hq
      simp only [Bool.and_eq_true] at hcond
      obtain ⟨⟨hdst,hdis⟩,hsz⟩:=hcond
      rw [← hbe] at hsz hcall
      rw [← hds] at hcall
      obtain ⟨hC0,htm,hn0⟩:=hC.nilL _ h0
      obtain ⟨G',hCf,hGG,hlen,hvals⟩:=Zxx hC0 hd hp
      obtain ⟨hsl,hsg⟩:=Ztd hsz
      obtain ⟨hbl,hbg⟩:=Zo0 hbs
      have hval:a.eval fo=.func (.func f) #[] #[] :=by
       have:=Z32 hC fo
       rw [hfo] at this
       generalize a.eval fo=u at this
       cases this; rfl
      have hrun0:(execOp a.eval o).run P w=(callFunc f (args.map a.eval)).run P w:=by
       simp [execOp,ho,resolve,hval,Deferred.ofValue,invoke]
      obtain ⟨hna,hnb⟩:=Zqp (w:=w) (G:=G) (β:=β) io.nils (args.toList.map σ.ev) 0
      -- where the blocks stand
      let pre:=Z4b io.names β
      let Γ':Ctx:={ B:=w.heap.size,X:=fun c=>∃ k s,pre k=some (c,s),w0:=w,G0:=G',hB:=Nat.le_refl _,pin:=fun k=>match pre k with
       | some (c,_)=>c
       | none=>0 }
      have hblk:∀ {k c s},pre k=some (c,s)→∃ b blk,io.names[k]?=some b∧β b=some (c,s)∧(σ0.freezeL l).heap b=some blk∧Z2x w G' β Γ c blk∧s=blk.sz:=fun {k c s} hk=>by
       obtain ⟨b,e1,e2⟩:=Zdn hk
       obtain ⟨blk,hb⟩:=hCf.dom b _ e2
       obtain ⟨e3,hBr⟩:=hCf.blk hb e2
       exact ⟨b,blk,e1,e2,hb,hBr,e3⟩
      have hXs:∀ c,Γ'.X c→c<w.heap.size∧(Γ.B≤c∨Γ.X c)∧G' c=0:=fun c hc=>by
       obtain ⟨k,s,hk⟩:=hc
       obtain ⟨b,blk,e1,e2,e3,hBr,-⟩:=hblk hk
       refine ⟨hBr.lt,hBr.own,?_⟩
       obtain ⟨blk2,blk',f1,f2,f3⟩:=hbg k b e1
       rw [e3] at f1; cases f1
       have hk':k<io.bs'.length:=by
        rw [← hsl]
        rcases Nat.lt_or_ge k bs.length with h'|h'
        ·exact h'
        ·rw [List.getElem?_eq_none h'] at f2; cases f2
       have hz:=(hsg k _ _ f2 (List.getElem?_eq_getElem hk')).2
       have hz':blk.frz=0:=by rw [← (Zo6 f3).2.1]; exact hz
       rcases Nat.eq_zero_or_pos (G' c) with h'|h'
       ·exact h'
       ·have:=hBr.frz 0 h'; rw [hz'] at this; simp at this
      have hE:Z04 Γ' (mkS ds.length (Z3v 0 ds) (Z4g 0 bs)) { tmps:=args.map a.eval,defers:=[] } w G' pre:=by
       refine hCf.enter (Γ':=Γ') hdis hbs (Nat.le_refl _) (fun k c s hk=>Or.inr ⟨k,s,hk⟩) (fun k b blk c s i hb hbk hk hi=>?_) (Z5b.refl _ _ _) (fun _ _ _=>rfl) (by rw [hlen,hna]; simp) (fun j v d hv hd=>?_)
       ·obtain rfl:=Y16 hi
        show (match pre i with
         | some (c,_)=>c
         | none=>0)=c
        rw [show pre i=some (c,s) from hk]
       ·simp only [Array.getElem?_map] at hv
        obtain ⟨x,hx,rfl⟩:=Z20 hv
        obtain ⟨d',e1,e2⟩:=hnb j _ (σ.ev x) (Z32 hC x) (by simp [hx])
        exact hvals j _ d' d e2 e1 hd
      refine fun next Q hn=>?_
      unfold Oper.wp
      rw [hrun0,Zmc hent,Oper.upon_enter]
      refine (hcall Γ' _ w G' pre hE).mono fun e w' he=>?_
      obtain ⟨v,G2,β2,rfl,h2⟩:=he
      obtain ⟨β1,hC1,hβ1⟩:=hCf.dropL (Z8n 0 io.names io.bs')
      have hkept:∀ {b k c s},io.names[k]?=some b→β b=some (c,s)→∀ blk',io.bs'[k]?=some blk'→Z98 k blk'=true→β2 k=some (c,s):=fun {b k c s} hb hβ blk' hb' hk=>by
       obtain ⟨hpin,hne⟩:=Y0r hk
       have hpre:pre k=some (c,s):=(Zef hb).trans hβ
       rcases h2.heap k blk' ((Zgz _ _).trans hb') with ⟨-,g1,-⟩|⟨c',g0,hBr⟩
       ·exact absurd g1 hne
       ·have e:=hBr.pin k hpin
        have e':Γ'.pin k=c:=by
         show (match pre k with
          | some (c,_)=>c
          | none=>0)=c
         rw [hpre]
        obtain ⟨b2,blk,f1,f2,f3,-,f4⟩:=hblk hpre
        rw [hb] at f1; cases f1
        obtain ⟨blk2,bk,f5,f6,f7⟩:=hbg k b hb
        rw [f3] at f5; cases f5
        have hs1:=(hsg k _ _ f6 hb').1
        rw [g0,← e,e',f4,← hs1,(Zo6 f7).1]
      obtain ⟨hol,hog⟩:=Zuo (σ:=σ0.freezeL l) (ρ:=io.names) (j0:=0) (ρ':=io.names) (bs:=io.bs') (by omega)
      have hlv:∃ β3,Z04 Γ (((σ0.freezeL l).dropL (Z8n 0 io.names io.bs')).setL io.names (Z5a (σ0.freezeL l) io.names 0 io.names io.bs')) a w' G2 β3∧Z03 w' G2 β3 v (outD io.names r):=by
       refine hC1.leave (bs2:=Z5a (σ0.freezeL l) io.names 0 io.names io.bs') hdis h2 rfl rfl rfl hXs (fun b c s hb hi hx=>?_) (fun b k x hi hb=>?_) (fun b k blk' hi hb=>?_) (fun b k blk hi hb=>?_)
       ·obtain ⟨k,s',hk⟩:=hx
        obtain ⟨b',blk,f1,f2,-⟩:=hblk hk
        obtain rfl:=hCf.inj b b' c s s' (hβ1 b _ hb).1 f2
        rw [Zdu hdis f1] at hi; cases hi
       ·have hg:=Z9e hi
        obtain ⟨e1,e2⟩:=hβ1 b x hb
        have hk':k<io.bs'.length:=by
         rw [← hsl,hbl]
         rcases Nat.lt_or_ge k io.names.length with h'|h'
         ·exact h'
         ·rw [List.getElem?_eq_none h'] at hg; cases hg
        have hkk:=Zqc hg (List.getElem?_eq_getElem hk') e2
        rw [Nat.zero_add] at hkk
        exact hkept hg e1 _ (List.getElem?_eq_getElem hk') hkk
       ·obtain ⟨b',blk,pin,f1,f2,f3,f4⟩:=hog k blk' hb
        refine ⟨blk,pin,f2,f3,fun i c s hi hc=>?_⟩
        obtain ⟨g1,k0,g2,g3,g4⟩:=f4 i hi
        rw [Nat.zero_add] at g1
        rcases hCf.heap b' k0 g2 with ⟨-,g5,-⟩|⟨c0,g5,hBr⟩
        ·exact absurd g5 g4
        ·have:=hkept f1 g5 blk f2 g1
         rw [hc] at this
         cases this
         exact hBr.pin i g3
       ·have hk':k<io.bs'.length:=by
         rcases Nat.lt_or_ge k io.bs'.length with h'|h'
         ·exact h'
         ·rw [List.getElem?_eq_none h'] at hb; cases hb
        exact ⟨_,List.getElem?_eq_getElem (by rw [hol]; exact hk')⟩
      obtain ⟨β3,k1,k2⟩:=hlv
      refine hn _ _ _ _ (k1.put ?_ k2)
      intro t ht
      change t<((σ0.freezeL l).dropL _).n
      rw [Zs3,(Zc7 l σ0).2,hn0]
      exact Z57 hdst t ht
     ·cases h
    ·cases h
   ·cases h
  ·cases h
 ·cases h
end Go.Den
namespace Go.Den
open Go.RowKit
variable {P:Program} {Γ:Ctx} {σ:S} {a:Act} {w w':World} {G G':Nat→Nat} {β β':Nat→Option (Nat×Nat)}
structure Z7q (P:Program) (w:World) (G:Nat→Nat) (v:Value) (rows:List (List D)) (size:Nat) (cells:List Value):Prop where
 shape:∃ a0 cap,v=.slice a0 rows.length cap∧rows.length≤cap
 len:cells.length=rows.length*size
 run:∀ w':World,(∀ ad,w'.cell? ad=w.cell? ad)→(Builtin.firstCells size rows.length v).run P w'=.ok cells.toArray w'
 one:∀ u∈cells,one u=true
 rep:∀ (i j:Nat) r d,rows[i]?=some r→r[j]?=some d→∃ u,cells[i*size+j]?=some u∧Z03 w G (fun _=>none) u d∧d.dat=true
structure Zbk (P:Program) (w:World) (G:Nat→Nat) (v:Value) (rows:List (List D)) (size:Nat) (cells:List Value):Prop where
 lenr:∀ w':World,(Builtin.lenOf v).run P w'=.ok rows.length w'
 len:cells.length=rows.length*size
 run:∀ w':World,(∀ ad,w'.cell? ad=w.cell? ad)→(Builtin.firstCells size rows.length v).run P w'=.ok cells.toArray w'
 one:∀ u∈cells,one u=true
 rep:∀ (i j:Nat) r d,rows[i]?=some r→r[j]?=some d→∃ u,cells[i*size+j]?=some u∧Z03 w G (fun _=>none) u d∧d.dat=true
theorem Z7q.news {v:Value} {rows:List (List D)} {size:Nat} {cells:List Value} (h:Z7q P w G v rows size cells):Zbk P w G v rows size cells:=by
 obtain ⟨⟨ax,cx,hvx,-⟩,h2,h3,h4,h5⟩:=h
 exact ⟨fun w'=>by subst hvx; simp [Builtin.lenOf],h2,h3,h4,h5⟩
theorem Y19 (s:ByteArray) {size:Nat} (hs:∀ r∈(s.data.toList.map fun b=>[D.int .u8 b.toNat]),r.length=size):
  Zbk P w G (.string s) (s.data.toList.map fun b=>[.int .u8 b.toNat]) size (s.data.toList.map fun b=> .int .u8 b.toNat):=by
 have hsize:s.data.toList=[]∨size=1:=by
  cases hd:s.data.toList with
  | nil=>exact .inl rfl
  | cons b r=>have:=hs [D.int .u8 b.toNat] (by rw [hd]; simp); exact .inr this.symm
 refine ⟨fun w'=>?_,?_,fun w' _=>?_,fun u hu=>?_,fun i j r d hr hd=>?_⟩
 ·simp [Builtin.lenOf]
 ·rcases hsize with h|h
  ·rw [h]; simp
  ·rw [h]; simp
 ·have e:(List.map (fun b=>[D.int IntKind.u8 ↑b.toNat]) s.data.toList).length=s.size:=by simp
  rw [e]
  simp only [Builtin.firstCells,ByteArray.extract_zero_size,Sem.run_pure]
  congr 1
  apply Array.ext'
  simp
 ·simp at hu; obtain ⟨b,-,rfl⟩:=hu; rfl
 ·rcases hsize with h|h
  ·rw [h] at hr; simp at hr
  ·subst h
   rw [List.getElem?_map] at hr
   obtain ⟨b,hb,rfl⟩:=Z20 hr
   cases j with
   | zero=>simp at hd; subst hd; exact ⟨.int .u8 b.toNat,by rw [List.getElem?_map,Nat.mul_one,Nat.add_zero,hb]; rfl,.int _ _,rfl⟩
   | succ j=>simp at hd
theorem Znx (v:Value) (x:Option Addr) (cap:Nat) (hv:v=.slice x 0 cap) (size:Nat):Z7q P w G v [] size [] :=
 ⟨⟨x,cap,hv,Nat.zero_le _⟩,by simp,fun w' _=>by subst hv; cases x <;> simp [Builtin.firstCells,loadCells,loadCellsFrom],by simp,fun i j r d h=>by simp at h⟩
theorem Zys {v:Value} {b off n cap size:Nat} (hv:v=.slice (some ⟨b,off,none⟩) n cap) (hcap:n≤cap) {rows:List (List D)} (hn:rows.length=n) (hsz:∀ (i:Nat) r,rows[i]?=some r→r.length=size)
  (f:Nat→Value) (hcell:∀ i j,i<n→j<size→w.cell? ⟨b,off+(i*size+j),none⟩=some (f (i*size+j)))
  (hrep:∀ (i j:Nat) r d,rows[i]?=some r→r[j]?=some d→one (f (i*size+j))=true∧Z03 w G (fun _=>none) (f (i*size+j)) d∧d.dat=true):
  Z7q P w G v rows size ((List.range (n*size)).map f):=by
 have hidx:∀ k,k<n*size→∃ i j,i<n∧j<size∧k=i*size+j:=fun k hk=>by
  have hs:0<size:=by
   rcases Nat.eq_zero_or_pos size with h|h
   ·subst h; simp at hk
   ·exact h
  refine ⟨k / size,k % size,Nat.div_lt_of_lt_mul (by rw [Nat.mul_comm]; exact hk),Nat.mod_lt _ hs,?_⟩
  rw [Nat.mul_comm]; exact (Nat.div_add_mod k size).symm
 refine ⟨⟨_,cap,by rw [hn]; exact hv,by omega⟩,by simp [hn],fun w' hw'=>?_,fun u hu=>?_,fun i j r d hr hd=>?_⟩
 ·subst hv
  simp only [Builtin.firstCells,hn]
  refine run_loadCells (P:=P) w' _ _ f (fun k hk=>?_)
  obtain ⟨i,j,hi,hj,rfl⟩:=hidx k hk
  rw [Addr.add_none,hw']
  exact hcell i j hi hj
 ·simp only [List.mem_map,List.mem_range] at hu
  obtain ⟨k,hk,rfl⟩:=hu
  obtain ⟨i,j,hi,hj,rfl⟩:=hidx k hk
  have hr:rows[i]?=some rows[i] :=List.getElem?_eq_getElem (by omega)
  have hl:=hsz i _ hr
  exact (hrep i j _ _ hr (List.getElem?_eq_getElem (by omega))).1
 ·obtain ⟨h1,h2,h3⟩:=hrep i j r d hr hd
  have hi:i<n:=by
   rcases Nat.lt_or_ge i rows.length with h'|h'
   ·omega
   ·rw [List.getElem?_eq_none h'] at hr; cases hr
  have hj:j<size:=by
   rw [← hsz i r hr]
   rcases Nat.lt_or_ge j r.length with h'|h'
   ·exact h'
   ·rw [List.getElem?_eq_none h'] at hd; cases hd
  have hk:i*size+j<n*size:=by
   have:(i+1)*size≤n*size:=Nat.mul_le_mul_right _ (by omega)
   rw [Nat.add_mul] at this; omega
  exact ⟨f (i*size+j),by simp [hk],h2,h3⟩
theorem Zuh {v:Value} {c:Bool} {rows:List (List D)} (h:Z03 w G β v (.sl c rows)) {size:Nat} (hsz:∀ r∈rows,r.length=size):∃ cells,Z7q P w G v rows size cells:=by
 cases h with
 | slnil _ x=>exact ⟨[],Znx _ x 0 rfl size⟩
 | sl _ b off n cap sz _ val hn hcc hcap hsz' himm hcell hone hdat hrep=>
  have hss:∀ i,i<n→sz=size:=fun i hi=>by
   rw [← hsz' i rows[i] (List.getElem?_eq_getElem (by omega))]
   exact hsz _ (List.getElem_mem _)
  refine ⟨_,Zys rfl hcap hn (fun i r hr=>hsz r (List.mem_of_getElem? hr)) (fun k=>val (k / size) (k % size)) (fun i j hi hj=>?_) (fun i j r d hr hd=>?_)⟩
  ·have e:=hss i hi
   subst e
   have:=hcell i j hi hj
   rw [show (i*sz+j) / sz=i by rw [Nat.mul_comm,Nat.mul_add_div (by omega),Nat.div_eq_of_lt hj,Nat.add_zero],show (i*sz+j) % sz=j by rw [Nat.mul_comm,Nat.mul_add_mod,Nat.mod_eq_of_lt hj]]
   rw [← this]; congr 2; omega
  ·have hi:i<n:=by
    rcases Nat.lt_or_ge i rows.length with h'|h'
    ·omega
    ·rw [List.getElem?_eq_none h'] at hr; cases hr
   have e:=hss i hi
   subst e
   have hj:j<sz:=by
    rw [← hsz' i r hr]
    rcases Nat.lt_or_ge j r.length with h'|h'
    ·exact h'
    ·rw [List.getElem?_eq_none h'] at hd; cases hd
   rw [show (i*sz+j) / sz=i by rw [Nat.mul_comm,Nat.mul_add_div (by omega),Nat.div_eq_of_lt hj,Nat.add_zero],show (i*sz+j) % sz=j by rw [Nat.mul_comm,Nat.mul_add_mod,Nat.mod_eq_of_lt hj]]
   exact ⟨hone i j hi hj,Z9i (hrep i j r d hr hd) (hdat i j r d hr hd),hdat i j r d hr hd⟩
theorem Zu4 {v:Value} {b lo n:Nat} {blk:Blk} (h:Z04 Γ σ a w G β) (hv:Z03 w G β v (.lsl b lo n)) (hb:σ.heap b=some blk) (hp:blk.pure=true) (hle:lo+n≤blk.rows.length) {size:Nat}
  (hsz:∀ r∈(blk.rows.drop lo).take n,r.length=size):∃ cells,Z7q P w G v ((blk.rows.drop lo).take n) size cells:=by
 have hlen:((blk.rows.drop lo).take n).length=n:=by simp; omega
 cases hv with
 | lslnil _ x=>exact ⟨[],by simpa using Znx _ x 0 rfl size⟩
 | lsl _ _ _ cap c sz off hβ hcap hoff hroom=>
  obtain ⟨rfl,hB⟩:=h.blk hb hβ
  obtain ⟨vs,e,fr,h1,h2,h3,h4⟩:=hB.cells
  have hback:∀ (i:Nat) r,((blk.rows.drop lo).take n)[i]?=some r→blk.rows[lo+i]?=some r∧i<n:=fun i r hr=>by
   rw [List.getElem?_take] at hr
   split at hr
   ·rw [List.getElem?_drop] at hr; exact ⟨hr,by assumption⟩
   ·cases hr
  have hrow:∀ i,i<n→∃ r,blk.rows[lo+i]?=some r∧((blk.rows.drop lo).take n)[i]?=some r∧r.length=blk.sz∧r.length=size:=fun i hi=>by
   have hlt:lo+i<blk.rows.length:=by omega
   have hm:((blk.rows.drop lo).take n)[i]?=some blk.rows[lo+i] :=by
    rw [List.getElem?_take_of_lt hi,List.getElem?_drop]; exact List.getElem?_eq_getElem hlt
   exact ⟨blk.rows[lo+i],List.getElem?_eq_getElem hlt,hm,hB.hsz (lo+i) _ (List.getElem?_eq_getElem hlt),hsz _ (List.mem_of_getElem? hm)⟩
  refine ⟨_,Zys (w:=w) (G:=G) (b:=c) (off:=off) rfl hcap hlen (fun i r hr=>hsz r (List.mem_of_getElem? hr)) (fun k=>vs.getD (lo*blk.sz+k) Go.undef) (fun i j hi hj=>?_) (fun i j r d hr hd=>?_)⟩
  ·obtain ⟨r,hr,-,hl1,hl2⟩:=hrow i hi
   have hss:size=blk.sz:=by omega
   subst hss
   obtain ⟨u,a1,a2,a3⟩:=h4 (lo+i) j r r[j] hr (List.getElem?_eq_getElem (by omega))
   rw [hoff.resolve_left (by omega),Z3l,h1]
   have:lo*blk.sz+(i*blk.sz+j)=(lo+i)*blk.sz+j:=by rw [Nat.add_mul]; omega
   simp [this,a1,Array.getD_eq_getD_getElem?]
  ·obtain ⟨hr',hi⟩:=hback i r hr
   obtain ⟨r2,hr2,-,hl1,hl2⟩:=hrow i hi
   rw [hr'] at hr2; cases hr2
   have hss:size=blk.sz:=by omega
   subst hss
   obtain ⟨u,a1,a2,a3⟩:=h4 (lo+i) j r d hr' hd
   have:lo*blk.sz+(i*blk.sz+j)=(lo+i)*blk.sz+j:=by rw [Nat.add_mul]; omega
   simp only [this,Array.getD_eq_getD_getElem?,a1,Option.getD_some]
   exact ⟨a2,Z9i a3 (hB.dat hp _ j r d hr' hd),hB.dat hp _ j r d hr' hd⟩
theorem Zrd {v:Value} {x:D} (h:Z04 Γ σ a w G β) (hv:Z03 w G β v x) {rows:List (List D)} {q:Prop} (hr:Z5j σ x=some (rows,q)) (hq:q) {size:Nat} (hsz:∀ r∈rows,r.length=size):
  ∃ cells,Z7q P w G v rows size cells:=by
 unfold Z5j at hr
 split at hr
 ·cases hr; exact Zuh hv hsz
 ·split at hr
  ·rename_i blk hb
   split at hr
   ·rename_i hp
    cases hr
    exact Zu4 h hv hb hp hq hsz
   ·cases hr
  ·cases hr
 ·cases hr
theorem Zx8 {t t':TypeId} {e:TypeId} (ht:P.underlying t=some (.slice e)) {v:Value} {x:D} (h:Z04 Γ σ a w G β) (hv:Z03 w G β v x) {rows:List (List D)} {q:Prop} (hr:Z8l P σ t t' x=some (rows,q)) (hq:q) {size:Nat} (hsz:∀ r∈rows,r.length=size):
  (∃ cells,Zbk P w G v rows size cells)∧∃ td,P.underlying t'=some td∧(td=.slice e∨td=.string):=by
 unfold Z8l at hr
 split at hr
 ·split at hr
  ·rename_i hs
   cases hr
   obtain ⟨s,rfl,rfl⟩:=Z7f hv
   exact ⟨⟨_,Y19 s hsz⟩,_,hs,.inr rfl⟩
  ·cases hr
 ·split at hr
  ·rename_i htt
   obtain rfl:t=t':=by simpa using htt
   obtain ⟨c,hc⟩:=Zrd (P:=P) h hv hr hq hsz
   exact ⟨⟨c,hc.news⟩,_,ht,.inl rfl⟩
  ·cases hr
theorem Zx2 {t t' ty e:TypeId} {td:TypeDesc} {i:TypeInfo} {z:Value} (ht:P.underlying t=some (.slice e)) (ht':P.underlying t'=some td) (htd:td=.slice e∨td=.string) (hi:P.info? e=some i) (hz:i.zero=some z) {vs vx:Value} {olds news:List (List D)} {co cn:List Value}
  (ho:Z7q P w G vs olds i.size co) (hn:Zbk P w G vx news i.size cn) {ao:Option Addr} {cap:Nat} (hvs:vs=.slice ao olds.length cap) (hg:cap<olds.length+news.length)
  (h63:olds.length+news.length≤9223372036854775807) (hfit:(olds.length+news.length)*i.bytes≤140737488355328):
  (Builtin.append_ #[t,t'] ty #[vs,vx]).run P w=
   .ok (.slice (some ⟨w.heap.size,0,none⟩) (olds.length+news.length) (grownCap w (olds.length+news.length) cap e))
    (w.drew.alloc (.cells (co.toArray++cn.toArray++Builtin.zeroCells z.cells (grownCap w (olds.length+news.length) cap e - (olds.length+news.length))) e)):=by
 have h1:=ho.run w.drew (fun _=>rfl)
 have h2:=hn.run w.drew (fun _=>rfl)
 have h3:=hn.lenr w
 subst hvs
 have hn': ¬ (olds.length+news.length≤cap):=by omega
 have h63': ¬ (9223372036854775807<((olds.length:Int)+(news.length:Int))):=by omega
 have h48': ¬ (281474976710656<Builtin.nextslicecap (olds.length+news.length) cap*i.bytes):=by have:=growslice_fits hg hfit; omega
 rcases htd with rfl|rfl
 ·simp [Builtin.append_,run_underlying ht,run_underlying ht',sizeOf,typeInfo,zeroValue,hi,hz,h3,hn',h63',h48',Question.forced,h1,h2,newRow,grownCap]
  congr 2
  apply Array.ext'
  simp [List.append_assoc]
 ·simp [Builtin.append_,run_underlying ht,run_underlying ht',sizeOf,typeInfo,zeroValue,hi,hz,h3,hn',h63',h48',Question.forced,h1,h2,newRow,grownCap]
  congr 2
  apply Array.ext'
  simp [List.append_assoc]
theorem Y2d {t t' ty e:TypeId} {td:TypeDesc} {i:TypeInfo} (ht:P.underlying t=some (.slice e)) (ht':P.underlying t'=some td) (htd:td=.slice e∨td=.string) (hi:P.info? e=some i) {vx:Value} {n:Nat} {news:List (List D)} {cn:List Value}
  (hn:Zbk P w G vx news i.size cn) {c cap:Nat} (hroom:n+news.length≤cap) {cur:Array Value} {e':TypeId} {fr:Nat×Nat} (hh:w.heap[c]?=some (.cells cur e' fr))
  (hfr:∀ o,o<cur.size→ ¬ (fr.1≤o∧o<fr.2)) (hfit:(n+news.length)*i.size≤cur.size):
  ∃ cur',(Builtin.append_ #[t,t'] ty #[.slice (some ⟨c,0,none⟩) n cap,vx]).run P w=.ok (.slice (some ⟨c,0,none⟩) (n+news.length) cap) (w.setRow c cur')∧cur'.size=cur.size∧
   ∀ k,cur'[k]?=if n*i.size≤k∧k<n*i.size+cn.length then cn[k - n*i.size]? else cur[k]? :=by
 have h2:=hn.run w (fun _=>rfl)
 have h3:=hn.lenr w
 obtain ⟨cur',e1,e2,e3⟩:=Zm4 (P:=P) c (n*i.size) e' fr cn 0 cur w hh hfr (by rw [hn.len,Nat.add_zero,← Nat.add_mul]; exact hfit) hn.one
 refine ⟨cur',?_,e2,by simpa using e3⟩
 rcases htd with rfl|rfl
 ·simp [Builtin.append_,run_underlying ht,run_underlying ht',sizeOf,typeInfo,hi,h3,hroom,h2,Addr.add_none,e1]
 ·simp [Builtin.append_,run_underlying ht,run_underlying ht',sizeOf,typeInfo,hi,h3,hroom,h2,Addr.add_none,e1]
theorem Zan {news olds:List (List D)} {i:Nat} {r:List D} (h:(olds++news)[i]?=some r):(i<olds.length∧olds[i]?=some r)∨(olds.length≤i∧news[i - olds.length]?=some r):=by
 rw [List.getElem?_append] at h
 split at h
 ·exact .inl ⟨by assumption,h⟩
 ·exact .inr ⟨by omega,h⟩
theorem Zvy (h:Z04 Γ σ a w G β) {olds news:List (List D)} {co cn:List Value} {size:Nat} {vs vx:Value} (ho:Z7q P w G vs olds size co) (hn:Zbk P w G vx news size cn)
  (hso:∀ r∈olds,r.length=size) (hsn:∀ r∈news,r.length=size) {zs:Array Value} {e:TypeId} {frz:Nat} {ty:Option TypeId} (hty:∀ t,ty=some t→e=t) (hf:frz≤olds.length+news.length) {β':Nat→Option (Nat×Nat)}:
  Z2x (w.drew.alloc (.cells (co.toArray++cn.toArray++zs) e)) G β' Γ w.heap.size { sz:=size,rows:=olds++news,frz,pure:=true,ty }:=by
 have hG0:G w.heap.size=0:=h.fresh _ (Nat.le_refl _)
 have hb:Below w.heap.size w (w.drew.alloc (.cells (co.toArray++cn.toArray++zs) e)):=(Z8v w).trans (Z6w w.drew _)
 have hlift:∀ u d,Z03 w G (fun _=>none) u d→d.dat=true→Z03 (w.drew.alloc (.cells (co.toArray++cn.toArray++zs) e)) G β' u d:=fun u d hu hd=>
  hu.of_dat (fun b o ho=>Z5v (hb.block b (h.marksLt ho)) o) (fun _=>Nat.le_refl _) hd
 refine ⟨.inl h.big,(fun k hk=>by cases hk),(fun t ht=>by obtain rfl:=hty t ht; exact ⟨_,_,Z64 w.drew _,Nat.le_refl _⟩),(fun o ho=>by rw [hG0] at ho; omega),by simpa using hf,fun _ i j r d hr hd=>?_,fun i r hr=>?_,_,e,(0,0),Z64 w.drew _,fun o _=>by simp,?_,fun i j r d hr hd=>?_⟩
 ·rcases Zan hr with ⟨_,hr'⟩|⟨_,hr'⟩
  ·obtain ⟨u,-,-,h3⟩:=ho.rep _ j r d hr' hd; exact h3
  ·obtain ⟨u,-,-,h3⟩:=hn.rep _ j r d hr' hd; exact h3
 ·rcases Zan hr with ⟨_,hr'⟩|⟨_,hr'⟩
  ·exact hso r (List.mem_of_getElem? hr')
  ·exact hsn r (List.mem_of_getElem? hr')
 ·show (olds++news).length*size≤_
  simp [ho.len,hn.len,Nat.add_mul]
 ·show ∃ v,(co.toArray++cn.toArray++zs)[i*size+j]?=some v∧_
  rcases Zan hr with ⟨hi,hr'⟩|⟨hi,hr'⟩
  ·obtain ⟨u,h1,h2,h3⟩:=ho.rep i j r d hr' hd
   have hlt:i*size+j<co.length:=by
    rcases Nat.lt_or_ge (i*size+j) co.length with h'|h'
    ·exact h'
    ·rw [List.getElem?_eq_none h'] at h1; cases h1
   refine ⟨u,?_,ho.one u (List.mem_of_getElem? h1),hlift u d h2 h3⟩
   rw [Array.append_assoc,Array.getElem?_append_left (by simpa using hlt)]
   simpa using h1
  ·obtain ⟨u,h1,h2,h3⟩:=hn.rep _ j r d hr' hd
   have hlt:(i - olds.length)*size+j<cn.length:=by
    rcases Nat.lt_or_ge ((i - olds.length)*size+j) cn.length with h'|h'
    ·exact h'
    ·rw [List.getElem?_eq_none h'] at h1; cases h1
   refine ⟨u,?_,hn.one u (List.mem_of_getElem? h1),hlift u d h2 h3⟩
   have hidx:i*size+j=co.length+((i - olds.length)*size+j):=by
    rw [ho.len,← Nat.add_assoc,← Nat.add_mul]; congr 2; omega
   rw [hidx,Array.append_assoc,Array.getElem?_append_right (by simp),Array.getElem?_append_left (by simp; omega)]
   simpa using h1
theorem Y10 (hC : Z04 Γ σ a w G β) {o:Oper} {args:Array Operand} {ts:Array TypeId} (ho:o.op=.call { callee:= .builtin .append,args,argTypes:=ts }) {so xo:Operand} {t:TypeId}
  {t':TypeId} (h0:args= #[so,xo]) (ht:ts= #[t,t']) {told:Z18} {σ':S} {q:Prop} (h:Z9q P σ o t t' (σ.ev so) (σ.ev xo) told=some (σ',q)) (hq:q):Reach P Γ o a w σ':=by
 subst h0 ht
 have hs:=Z32 hC so
 have hx:=Z32 hC xo
 have hrun:∀ {v:Value} {w':World},(Builtin.append_ #[t,t'] o.type #[a.eval so,a.eval xo]).run P w=.ok v w'→(execOp a.eval o).run P w=.ok (.value v) w':=fun h=>by
  simp [execOp,ho,resolve,invoke,builtin,h]
 unfold Z9q at h
 split at h
 ·cases h
 ·rename_i e he
  have hu:=Zen he
  split at h
  ·rename_i ie news qn hie hnews
   split at h
   ·cases h
   ·rename_i z hz
    split at h
    ·cases h
    ·rename_i hcond
     simp only [Bool.and_eq_true,beq_iff_eq] at hcond
     split at h
     ·-- a block of the call's own
      rename_i b n hse
      rw [hse] at hs
      split at h
      ·rename_i blk hb
       split at h
       ·rename_i hc2
        simp only [Bool.and_eq_true,beq_iff_eq] at hc2
        obtain ⟨⟨hpure,hbsz⟩,hdst⟩:=hc2
        cases h
        obtain ⟨q1,q2,q3,q4,q5,q6⟩:=hq
        rw [← q4] at q5 q6 ⊢
        rw [List.length_append]
        subst q2
        obtain ⟨⟨cn,hn⟩,td,htd',htd⟩:=Zx8 (P:=P) hu hC hx hnews q1 q3
        have hso:∀ r∈blk.rows,r.length=ie.size:=fun r hr=>by
         obtain ⟨i,hi⟩:=List.getElem?_of_mem hr
         rcases hC.heap b blk hb with ⟨_,h1,-⟩|⟨c,h1,hB⟩
         ·rw [h1] at hr; cases hr
         ·rw [hB.hsz i r hi,hbsz]
        obtain ⟨co,hO⟩:=Zu4 (P:=P) hC hs hb hpure (by omega) (size:=ie.size) (fun r hr=>hso r (List.mem_of_mem_drop (List.mem_of_mem_take hr)))
        rw [show (blk.rows.drop 0).take blk.rows.length=blk.rows by simp] at hO
        obtain ⟨ao,cap,hva,hcap⟩:=hO.shape
        simp only [List.length_append] at q5 q6
        have hput:∀ {w2 G2 β2 v},Z04 Γ ((σ.drop b).setB b (some { blk with rows:=blk.rows++news,pin:=none,ty:=tyM told.mt blk.ty e })) a w2 G2 β2→Z03 w2 G2 β2 v (.lsl b 0 (blk.rows.length+news.length))→
          Z04 Γ (((σ.drop b).setB b (some { blk with rows:=blk.rows++news,pin:=none,ty:=tyM told.mt blk.ty e })).put o.dst (.lsl b 0 (blk.rows.length+news.length))) (a.put o.dst v) w2 G2 β2:=fun h1 h2=>h1.put (fun t ht=>Z57 hdst t ht) h2
        have hnone:(σ.drop b).heap b=none:=by simp [S.drop]
        by_cases hroom:blk.rows.length+news.length≤cap
        ·-- there is room
         generalize hve:a.eval so=vs at hs hva
         obtain ⟨n0,hn0⟩:∃ n0,n0=blk.rows.length:=⟨_,rfl⟩
         rw [← hn0] at hs
         cases hs with
         | lslnil _ x=>
          have hr0:blk.rows=[] :=List.eq_nil_of_length_eq_zero hn0.symm
          have hcap0:cap=0:=by injection hva with _ _ h; exact h.symm
          have hm:news=[] :=List.eq_nil_of_length_eq_zero (by omega)
          subst hm
          have hcn:cn=[] :=List.eq_nil_of_length_eq_zero (by simpa using hn.len)
          subst hcn
          have hfc:=hn.run w (fun _=>rfl)
          have hln:=hn.lenr w
          have hr:(Builtin.append_ #[t,t'] o.type #[a.eval so,a.eval xo]).run P w=.ok (.slice x 0 0) w:=by
           rw [hve]
           simp at hfc hln
           rcases htd with rfl|rfl <;> cases x <;> simp [Builtin.append_,run_underlying hu,run_underlying htd',sizeOf,typeInfo,hie,hln,hfc,storeCells]
          refine Reach.of_value (hrun hr) (hput ((hC.drop b).nameNil hnone ⟨by simp [hr0],?_⟩) (by rw [show blk.rows.length+([]:List (List D)).length=0 by simp [hr0]]; exact .lslnil b x))
          rcases hC.heap b blk hb with ⟨_,_,h2⟩|⟨c,h1,hB⟩
          ·exact h2
          ·have:=hB.top; rw [hr0] at this; simpa using this
         | lsl _ _ _ cap' c sz off hβ hcap' hoff hroom'=>
          obtain ⟨rfl,rfl,rfl⟩:ao=some ⟨c,off,none⟩∧n0=blk.rows.length∧cap'=cap:=by injection hva with h1 h2 h3; exact ⟨h1.symm,h2,h3⟩
          obtain ⟨rfl,hB⟩:=hC.blk hb hβ
          obtain ⟨cur,e',fr,k1,k2,k3,k4⟩:=hB.cells
          have hoff0:off=0∨cap'=0:=by rcases hoff with h|h; exact .inr h; exact .inl (by simpa using h)
          have hfit:(blk.rows.length+news.length)*ie.size≤cur.size:=by
           obtain ⟨vs2,e2,fr2,l1,l2⟩:=hroom'
           rw [k1] at l1; cases l1
           rcases l2 with l2|l2
           ·have:blk.rows.length+news.length=0:=by omega
            rw [this]; simp
           ·rw [← hbsz]
            refine Nat.le_trans (Nat.mul_le_mul_right _ ?_) l2; omega
          by_cases hcap0:cap'=0
          ·have hr0:blk.rows=[] :=List.eq_nil_of_length_eq_zero (by omega)
           have hm:news=[] :=List.eq_nil_of_length_eq_zero (by omega)
           subst hm
           have hcn:cn=[] :=List.eq_nil_of_length_eq_zero (by simpa using hn.len)
           subst hcn
           have hfc:=hn.run w (fun _=>rfl)
           have hln:=hn.lenr w
           have hr:(Builtin.append_ #[t,t'] o.type #[a.eval so,a.eval xo]).run P w=.ok (.slice (some ⟨c,off,none⟩) 0 0) w:=by
            rw [hve,hr0,hcap0]
            simp at hfc hln
            rcases htd with rfl|rfl <;> simp [Builtin.append_,run_underlying hu,run_underlying htd',sizeOf,typeInfo,hie,hln,hfc,storeCells]
           refine Reach.of_value (hrun hr) (hput ((hC.drop b).nameNil hnone ⟨by simp [hr0],?_⟩) (by rw [show blk.rows.length+([]:List (List D)).length=0 by simp [hr0]]; exact .lslnil b _))
           have:=hB.top; rw [hr0] at this; simpa using this
          ·obtain rfl:off=0:=hoff0.resolve_right hcap0
           obtain ⟨cur',r1,r2,r3⟩:=Y2d (ty:=o.type) hu htd' htd hie hn hroom k1 k2 hfit
           rw [hve] at hrun
           have hW:Z6e Γ G c w (w.setRow c cur'):=Zwm k1 r2 hB.own fun k hk=>by
            rw [r3 k,if_neg]
            intro hcon
            have h5:=hB.frz k hk
            have:blk.frz*blk.sz≤blk.rows.length*ie.size:=by rw [← hbsz]; exact Nat.mul_le_mul_right _ (by have:=hB.top; omega)
            omega
           have hfree:∀ b' s,upd β b none b'≠some (c,s):=fun b' s hbs=>by
            unfold upd at hbs
            split at hbs
            ·cases hbs
            ·rename_i hne; exact hne (hC.inj b' b c s blk.sz hbs hβ)
           have hC1:=(hC.drop b).scratch hfree hW
           have hlift:∀ u d,Z03 w G (fun _=>none) u d→d.dat=true→Z03 (w.setRow c cur') G (upd β b none) u d:=fun u d hu hd=>hu.of_dat hW.cells (fun _=>Nat.le_refl _) hd
           have hB':Z2x (w.setRow c cur') G (upd β b none) Γ c { blk with rows:=blk.rows++news,pin:=none,ty:=tyM told.mt blk.ty e }:=by
            refine ⟨hB.own,(fun k hk=>by cases hk),(fun t ht=>by obtain ⟨vs2,fr2,g,gle⟩:=hB.ty t (Zxo ht).1; rw [k1] at g; cases g; exact ⟨_,_,setRow_heap w c cur cur' _ _ k1,gle⟩),hB.frz,by have:=hB.top; simp; omega,fun _ i j r d hr hd=>?_,fun i r hr=>?_,cur',e',fr,setRow_heap w c cur cur' e' fr k1,fun o ho=>k2 o (by omega),?_,fun i j r d hr hd=>?_⟩
            ·rcases Zan hr with ⟨_,hr'⟩|⟨_,hr'⟩
             ·exact hB.dat hpure _ j r d hr' hd
             ·obtain ⟨u,-,-,h3⟩:=hn.rep _ j r d hr' hd; exact h3
            ·rcases Zan hr with ⟨_,hr'⟩|⟨_,hr'⟩
             ·exact hB.hsz _ r hr'
             ·show _=blk.sz
              rw [hbsz]; exact q3 r (List.mem_of_getElem? hr')
            ·show (blk.rows++news).length*blk.sz≤_
             rw [List.length_append,hbsz,r2]; exact hfit
            ·show ∃ v,cur'[i*blk.sz+j]?=some v∧_
             rcases Zan hr with ⟨hi,hr'⟩|⟨hi,hr'⟩
             ·obtain ⟨u,h1,h2,h3⟩:=k4 i j r d hr' hd
              have hj:j<blk.sz:=by
               rw [← hB.hsz i r hr']
               rcases Nat.lt_or_ge j r.length with h'|h'
               ·exact h'
               ·rw [List.getElem?_eq_none h'] at hd; cases hd
              have hlt:i*blk.sz+j<blk.rows.length*ie.size:=by
               rw [← hbsz]
               have:(i+1)*blk.sz≤blk.rows.length*blk.sz:=Nat.mul_le_mul_right _ (by omega)
               rw [Nat.add_mul] at this; omega
              exact ⟨u,by rw [r3,if_neg (by omega)]; exact h1,h2,hlift u d (Z9i h3 (hB.dat hpure _ j r d hr' hd)) (hB.dat hpure _ j r d hr' hd)⟩
             ·obtain ⟨u,h1,h2,h3⟩:=hn.rep _ j r d hr' hd
              have hlt:(i - blk.rows.length)*ie.size+j<cn.length:=by
               rcases Nat.lt_or_ge ((i - blk.rows.length)*ie.size+j) cn.length with h'|h'
               ·exact h'
               ·rw [List.getElem?_eq_none h'] at h1; cases h1
              have hidx:i*blk.sz+j=blk.rows.length*ie.size+((i - blk.rows.length)*ie.size+j):=by
               rw [hbsz,← Nat.add_assoc,← Nat.add_mul]; congr 2; omega
              exact ⟨u,by rw [r3,hidx,if_pos (by omega),Nat.add_sub_cancel_left]; exact h1,hn.one u (List.mem_of_getElem? h1),hlift u d h2 h3⟩
           have hC2:=hC1.name (b:=b) (blk:={ blk with rows:=blk.rows++news,pin:=none,ty:=tyM told.mt blk.ty e }) hnone hfree hB'
           refine Reach.of_value (hrun r1) (hput hC2 ?_)
           refine .lsl b 0 _ cap' c blk.sz 0 (by simp [upd]) hroom (.inr (by simp)) ⟨cur',e',fr,setRow_heap w c cur cur' e' fr k1,?_⟩
           obtain ⟨vs2,e2,fr2,l1,l2⟩:=hroom'
           rw [k1] at l1; cases l1
           rw [r2]; exact l2
        ·-- it grows
         have hrg:=Zx2 hu htd' htd hie hz hO hn hva (by omega) q5 q6 (ty:=o.type)
         have hblk:=Zvy hC hO hn hso q3 (zs:=Builtin.zeroCells z.cells (grownCap w (blk.rows.length+news.length) cap e - (blk.rows.length+news.length))) (e:=e) (frz:=blk.frz) (ty:=tyM told.mt blk.ty e) (fun t ht=>(Zxo ht).2) (by
          rcases hC.heap b blk hb with ⟨_,_,h1⟩|⟨c,h1,hB⟩
          ·omega
          ·have:=hB.top; omega) (β':=upd β b none)
         have hbe:({ sz:=ie.size,rows:=blk.rows++news,frz:=blk.frz,pure:=true,ty:=tyM told.mt blk.ty e }:Blk)={ blk with rows:=blk.rows++news,pin:=none,ty:=tyM told.mt blk.ty e }:=by
          rw [← hbsz,← hpure]
         rw [hbe] at hblk
         have hbel:Below w.heap.size w (w.drew.alloc (.cells (co.toArray++cn.toArray++Builtin.zeroCells z.cells (grownCap w (blk.rows.length+news.length) cap e - (blk.rows.length+news.length))) e)):=(Z8v w).trans (Z6w w.drew _)
         have hC1:=(hC.drop b).quiet hbel
         have hfree:∀ b' s,upd β b none b'≠some (w.heap.size,s):=fun b' s hbs=>by
          unfold upd at hbs
          split at hbs
          ·cases hbs
          ·obtain ⟨k,hk⟩:=hC.dom b' _ hbs
           rcases hC.heap b' k hk with ⟨h0,-⟩|⟨c,h0,hB⟩
           ·rw [h0] at hbs; cases hbs
           ·rw [h0] at hbs; cases hbs; have:=hB.lt; omega
         have hC2:=hC1.name (b:=b) hnone hfree hblk
         refine Reach.of_value (hrun hrg) (hput hC2 ?_)
         refine .lsl b 0 _ _ w.heap.size blk.sz 0 (by simp [upd]) (grownCap_ge w _ cap e) (.inr (by simp)) ⟨_,e,(0,0),Z64 w.drew _,.inr ?_⟩
         have hzz:(Builtin.zeroCells z.cells (grownCap w (blk.rows.length+news.length) cap e - (blk.rows.length+news.length))).size=(grownCap w (blk.rows.length+news.length) cap e - (blk.rows.length+news.length))*ie.size:=by rw [size_zeroCells,hcond.1]
         simp only [Array.size_append,List.size_toArray,hO.len,hn.len,hzz,hbsz,Nat.zero_add,← Nat.add_mul]
         refine Nat.mul_le_mul_right _ ?_
         have:=grownCap_ge w (blk.rows.length+news.length) cap e
         omega
       ·cases h
      ·cases h
     ·-- nil,or a slice without room
      rename_i olds hse
      rw [hse] at hs
      obtain ⟨tt,ht,hb,hlt,rfl,hqp⟩:=Z91 h
      rw [hqp] at hq
      obtain ⟨q1,q0,q2,q3,q4,q5,q6⟩:=hq
      obtain ⟨⟨cn,hn⟩,td,htd',htd⟩:=Zx8 (P:=P) hu hC hx hnews q1 q3
      obtain ⟨co,hO⟩:=Zuh (P:=P) hs q2
      obtain ⟨ao,cap,hva,hcap,hcc⟩:=Zm8 hs
      have hcap':=hcc rfl
      rw [← q4] at q5 q6 ⊢
      simp only [List.length_append] at q5 q6
      by_cases hm:news=[]
      ·have ho0:olds=[] :=q0.resolve_right (by simp [hm])
       subst hm ho0
       have hcn:cn=[] :=List.eq_nil_of_length_eq_zero (by simpa using hn.len)
       subst hcn
       have hfc:=hn.run w (fun _=>rfl)
       have hln:=hn.lenr w
       have hc0:cap=0:=by simpa using hcap'
       subst hc0
       have hr:(Builtin.append_ #[t,t'] o.type #[a.eval so,a.eval xo]).run P w=.ok (.slice ao 0 0) w:=by
        rw [hva]
        simp at hfc hln
        rcases htd with rfl|rfl <;> cases ao <;> simp [Builtin.append_,run_underlying hu,run_underlying htd',sizeOf,typeInfo,hie,hln,hfc,storeCells]
       refine Reach.of_value (hrun hr) (G':=G) (β':=β) ?_
       rw [ht]
       exact (hC.nameNil hb ⟨rfl,rfl⟩).put (fun u hu=>by cases hu; exact hlt) (.lslnil tt ao)
      ·have hpos:0<news.length:=List.length_pos_iff.2 hm
       have hrg:=Zx2 hu htd' htd hie hz hO hn hva (by omega) q5 q6 (ty:=o.type)
       have hblk:=Zvy hC hO hn q2 q3 (zs:=Builtin.zeroCells z.cells (grownCap w (olds.length+news.length) cap e - (olds.length+news.length))) (e:=e) (frz:=0) (ty:=none) (fun t ht=>by cases ht) (Nat.zero_le _) (β':=β)
       have hbel:Below w.heap.size w (w.drew.alloc (.cells (co.toArray++cn.toArray++Builtin.zeroCells z.cells (grownCap w (olds.length+news.length) cap e - (olds.length+news.length))) e)):=(Z8v w).trans (Z6w w.drew _)
       have hC1:=hC.quiet hbel
       have hfree:∀ b' s,β b'≠some (w.heap.size,s):=fun b' s hbs=>by
        obtain ⟨k,hk⟩:=hC.dom b' _ hbs
        rcases hC.heap b' k hk with ⟨h0,-⟩|⟨c,h0,hB⟩
        ·rw [h0] at hbs; cases hbs
        ·rw [h0] at hbs; cases hbs; have:=hB.lt; omega
       have hC2:=hC1.name (b:=tt) hb hfree hblk
       refine Reach.of_value (hrun hrg) (G':=G) (β':=upd β tt (some (w.heap.size,ie.size))) ?_
       rw [ht]
       refine hC2.put (fun u hu=>by cases hu; exact hlt) ?_
       rw [List.length_append]
       refine .lsl tt 0 _ _ w.heap.size ie.size 0 (by simp [upd]) (grownCap_ge w _ cap e) (.inr (by simp)) ⟨_,e,(0,0),Z64 w.drew _,.inr ?_⟩
       have hzz:(Builtin.zeroCells z.cells (grownCap w (olds.length+news.length) cap e - (olds.length+news.length))).size=(grownCap w (olds.length+news.length) cap e - (olds.length+news.length))*ie.size:=by rw [size_zeroCells,hcond.1]
       simp only [Array.size_append,List.size_toArray,hO.len,hn.len,hzz,Nat.zero_add,← Nat.add_mul]
       refine Nat.mul_le_mul_right _ ?_
       have:=grownCap_ge w (olds.length+news.length) cap e
       omega
     ·cases h
  ·cases h
theorem Zl7:∀ {rows:List (List D)} {s:List UInt8},Z6q rows=some s→∃ xs:List Int,rows=xs.map (fun n=>[.int .u8 n])∧s=xs.map fun n=>UInt8.ofNat n.toNat
 | [],s,h=>by cases h; exact ⟨[],rfl,rfl⟩
 | r :: rows,s,h=>by
  unfold Z6q at h
  split at h
  ·rename_i heq; cases heq
  ·rename_i n r' heq
   cases heq
   split at h
   ·rename_i s' hs
    cases h
    obtain ⟨xs,rfl,rfl⟩:=Zl7 hs
    exact ⟨n::xs,rfl,rfl⟩
   ·cases h
  ·cases h
theorem Y4l {fits:TypeId→Bool} {d:Nat} {e:TypeId} {n:Nat} {count count' off:Nat} (hle:count≤count') (h:rowAt P fits d e count off n=true):rowAt P fits d e count' off n=true:=by
 cases d with
 | zero=>exact h
 | succ d=>
  unfold rowAt at h ⊢
  dsimp only at h ⊢
  split
  ·rename_i h0; rw [if_pos h0] at h; exact h
  ·rename_i h0
   rw [if_neg h0] at h
   rw [Bool.or_eq_true] at h ⊢
   rcases h with h|h
   ·left
    simp only [Bool.and_eq_true,decide_eq_true_eq] at h ⊢
    exact ⟨⟨h.1.1,by omega⟩,h.2⟩
   ·right
    rw [Bool.and_eq_true] at h ⊢
    exact ⟨by have:=of_decide_eq_true h.1; exact decide_eq_true (by omega),h.2⟩
theorem Zyp:∀ {d:Nat} {e u:TypeId} {n:Nat} {count count' off:Nat},count≤count'→liesAt P d e count off u n=true→liesAt P d e count' off u n=true
 | 0,_,_,_,_,_,_,_,h=>h
 | d + 1,e,u,n,count,count',off,hle,h=>by
  unfold liesAt at h ⊢
  rw [Bool.or_eq_true] at h ⊢
  rcases h with h|h
  ·exact .inl (Y4l hle h)
  ·right
   split at h
   ·exact Zyp hle h
   ·cases h
theorem Zhg {w:World} {c:Nat} {vs:Array Value} {e:TypeId} {fr:Nat×Nat} (h:w.heap[c]?=some (.cells vs e fr)):w.shape? c=some (e,vs.size):=by simp [World.shape?,h]
theorem Y25 (hC:Z04 Γ σ a w G β) {src dst:TypeId} {b c sz:Nat} (h:Zf4 P σ src dst b=true) (hβ:β b=some (c,sz)):
  (convert src dst (.pointer (some ⟨c,0,none⟩))).run P w=.ok (.pointer (some ⟨c,0,none⟩)) w:=by
 unfold Zf4 at h
 split at h
 ·rename_i k hk
  obtain ⟨rfl,hB⟩:=hC.blk hk hβ
  split at h
  ·rename_i e hty
   obtain ⟨vs,fr,hh,-⟩:=hB.ty e hty
   have hroom:k.rows.length*k.sz≤vs.size:=by
    obtain ⟨vs',e',fr',g1,-,g3,-⟩:=hB.cells
    rw [hh] at g1; cases g1; exact g3
   split at h
   ·rename_i t hs hd
    split at h
    ·rename_i j hj
     rw [Bool.and_eq_true] at h
     refine Lib.run_to_unsafe w ⟨c,0,none⟩ hs hd hj (fun h0=>?_) (Zhg hh) ?_
     ·rw [h0] at h; exact absurd h.1 (by decide)
     ·have:=Nat.le_of_ble_eq_true h.2
      show 0<vs.size
      omega
    ·cases h
   ·rename_i u hs hd
    split at h
    ·rename_i j hj
     simp only [Bool.and_eq_true] at h
     have h1:=Nat.le_of_ble_eq_true h.1.1
     have h2:=Nat.le_of_ble_eq_true h.1.2
     exact Lib.run_from_unsafe w ⟨c,0,none⟩ hs hd hj (Zhg hh) (Zyp ((Nat.le_div_iff_mul_le (by omega)).2 (by omega)) h.2)
    ·cases h
   ·cases h
  ·cases h
 ·cases h
theorem Zs7 (w:World):∀ (l:List Int) (a:Addr) (acc:ByteArray),(∀ j x,l[j]?=some x→w.cell? (a.add j)=some (.int .u8 x))→
  (loadBytes a acc l.length).run P w=.ok ⟨acc.data++(l.map fun n=>UInt8.ofNat n.toNat).toArray⟩ w
 | [],a,acc,_=>by simp [loadBytes]
 | x :: l,a,acc,h=>by
  have h0:w.cell? a=some (.int .u8 x):=by
   have:=h 0 x rfl
   simpa [Addr.add] using this
  have ih:=Zs7 w l (a.add 1) (acc.push (UInt8.ofNat x.toNat)) (fun j y hy=>by
   have:=h (j+1) y (by simpa using hy)
   have e:(a.add 1).add j=a.add (j+1):=by
    unfold Addr.add
    by_cases hj:j=0
    ·subst hj; simp
    ·simp [hj]; omega
   rw [e]; exact this)
  simp only [List.length_cons,loadBytes,Sem.run_bind,run_load,h0,Result.andThen]
  rw [show x.toNat.toUInt8=UInt8.ofNat x.toNat from rfl,ih]
  congr 1
  apply ByteArray.ext
  simp [ByteArray.push]
theorem Z04.frozen (h:Z04 Γ σ a w G β) {c n:Nat} (hc:∀ b s,β b≠some (c,s)) (hown:Γ.B≤c∨Γ.X c):Z04 Γ σ a (w.freeze ⟨c,0,none⟩ n) G β:=by
 unfold World.freeze
 split
 ·exact h
 ·generalize hw:({ w with heap:=w.heap.modify (⟨c,0,none⟩:Addr).block fun
   | .cells cs elem (lo,hi)=> .cells cs elem (if lo==hi then ((⟨c,0,none⟩:Addr).off,(⟨c,0,none⟩:Addr).off+n) else (min lo (⟨c,0,none⟩:Addr).off,max hi ((⟨c,0,none⟩:Addr).off+n)))
   | o=>o }:World)=w'
  have hother:∀ k,k≠c→w'.heap[k]?=w.heap[k]? :=fun k hk=>by
   subst hw
   show (w.heap.modify c _)[k]?=_
   rw [Array.getElem?_modify,if_neg (fun e=>hk e.symm)]
  have hsame:∀ vs e fr,w.heap[c]?=some (.cells vs e fr)→∃ fr',w'.heap[c]?=some (.cells vs e fr'):=fun vs e fr hh=>by
   subst hw
   show ∃ fr',(w.heap.modify c _)[c]?=_
   rw [Array.getElem?_modify,if_pos rfl,hh]
   exact ⟨_,rfl⟩
  have hcell:∀ b o,w'.cell? ⟨b,o,none⟩=w.cell? ⟨b,o,none⟩:=fun b o=>by
   by_cases hb:b=c
   ·subst hb
    rw [Z3l,Z3l]
    cases hh:w.heap[b]? with
    | none=>
     have:w'.heap[b]?=none:=by
      subst hw
      show (w.heap.modify b _)[b]?=_
      rw [Array.getElem?_modify,if_pos rfl,hh]; rfl
     rw [this]
    | some x=>
     cases x with
     | cells vs e fr=>obtain ⟨fr',h2⟩:=hsame vs e fr hh; rw [h2]
     | _ =>
      have:w'.heap[b]?=w.heap[b]? :=by
       subst hw
       show (w.heap.modify b _)[b]?=_
       rw [Array.getElem?_modify,if_pos rfl,hh]; rfl
      rw [this,hh]
   ·exact Z5v (hother b hb) o
  have hs:Z58 w w':=fun k vs e fr hk=>by
   by_cases hb:k=c
   ·subst hb; obtain ⟨fr',h2⟩:=hsame vs e fr hk; exact ⟨vs,fr',h2,rfl⟩
   ·exact ⟨vs,fr,by rw [hother k hb]; exact hk,rfl⟩
  have hsz:w'.heap.size=w.heap.size:=by subst hw; simp
  have hkept:Z5b Γ.B Γ.X w w':=⟨by subst hw; rfl,by subst hw; rfl,by subst hw; rfl,by rw [hsz]; exact Nat.le_refl _,fun k hk hx=>hother k (fun e=>by subst e; exact hown.elim (fun h1=>by omega) hx),hs⟩
  refine ⟨h.defers,h.size,fun t=>(h.tmps t).mono (fun b o _=>hcell b o) (fun _=>Nat.le_refl _) (fun _ _ h=>h) hs,fun b blk hblk=>?_,h.dom,h.inj,h.kept.trans hkept,h.marks,fun k hk=>h.fresh k (by rw [← hsz]; exact hk),by rw [hsz]; exact h.big⟩
  rcases h.heap b blk hblk with h0|⟨k,h0,hB⟩
  ·exact .inl h0
  ·exact .inr ⟨k,h0,hB.mono (fun b o _=>hcell b o) (fun _=>Nat.le_refl _) rfl (fun _ _ h=>h) hs (hother k (fun e=>hc b blk.sz (e ▸ h0)))⟩
theorem Z04.marked (h:Z04 Γ σ a w G β) {b c:Nat} {blk:Blk} {sz:Nat} (hb:σ.heap b=some blk) (hβ:β b=some (c,sz)) {vs:Array Value} {e:TypeId} {fr:Nat×Nat} (hh:w.heap[c]?=some (.cells vs e fr)) (hle:fr.1≤fr.2):
  Z04 Γ σ a (w.freeze ⟨c,vs.size,none⟩ 1) G β:=by
 obtain ⟨rfl,hB⟩:=h.blk hb hβ
 obtain ⟨lo,hi⟩:=fr
 obtain ⟨fr',hfr',hh',hother,hos,htape,hout,hsz⟩:∃ fr':Nat×Nat,(fr'=if lo==hi then (vs.size,vs.size+1) else (min lo vs.size,max hi (vs.size+1)))∧(w.freeze ⟨c,vs.size,none⟩ 1).heap[c]?=some (.cells vs e fr')∧(∀ k,k≠c→(w.freeze ⟨c,vs.size,none⟩ 1).heap[k]?=w.heap[k]?)∧
   (w.freeze ⟨c,vs.size,none⟩ 1).os=w.os∧(w.freeze ⟨c,vs.size,none⟩ 1).tape=w.tape∧(w.freeze ⟨c,vs.size,none⟩ 1).output=w.output∧(w.freeze ⟨c,vs.size,none⟩ 1).heap.size=w.heap.size:=by
  unfold World.freeze
  rw [if_neg (show ¬ (1=0) by decide)]
  refine ⟨_,rfl,?_,fun k hk=>?_,rfl,rfl,rfl,by simp⟩
  ·show (w.heap.modify c _)[c]?=_
   rw [Array.getElem?_modify,if_pos rfl,hh]; rfl
  ·show (w.heap.modify c _)[k]?=_
   rw [Array.getElem?_modify,if_neg (fun e=>hk e.symm)]
 generalize w.freeze ⟨c,vs.size,none⟩ 1=w' at*
 have hcell:∀ b o,w'.cell? ⟨b,o,none⟩=w.cell? ⟨b,o,none⟩:=fun b o=>by
  by_cases hb:b=c
  ·subst hb; rw [Z3l,Z3l,hh,hh']
  ·exact Z5v (hother b hb) o
 have hs:Z58 w w':=fun k vs2 e2 fr2 hk=>by
  by_cases hb:k=c
  ·subst hb; rw [hh] at hk; cases hk; exact ⟨_,_,hh',rfl⟩
  ·exact ⟨_,_,by rw [hother k hb]; exact hk,rfl⟩
 have hkept:Z5b Γ.B Γ.X w w':=⟨hos,htape,hout,by rw [hsz]; exact Nat.le_refl _,fun k hk hx=>hother k (fun e=>by subst e; exact hB.own.elim (fun h1=>by omega) hx),hs⟩
 refine ⟨h.defers,h.size,fun t=>(h.tmps t).mono (fun b o _=>hcell b o) (fun _=>Nat.le_refl _) (fun _ _ h=>h) hs,fun u k hu=>?_,h.dom,h.inj,h.kept.trans hkept,h.marks,fun k hk=>h.fresh k (by rw [← hsz]; exact hk),by rw [hsz]; exact h.big⟩
 rcases h.heap u k hu with h0|⟨c',h0,hB'⟩
 ·exact .inl h0
 ·by_cases hcc:c'=c
  ·subst hcc
   obtain ⟨own,pin,ty,frz,top,dat,hsz',vs',e',fr2,h1,h2,h3,h4⟩:=hB'
   rw [hh] at h1; cases h1
   refine .inr ⟨_,h0,own,pin,fun t ht=>?_,frz,top,dat,hsz',vs,e,fr',hh',fun o ho hcon=>?_,h3,fun i j r d hr hd=>?_⟩
   ·obtain ⟨vs3,fr3,g1,g2⟩:=ty t ht
    rw [hh] at g1; cases g1
    refine ⟨_,_,hh',?_⟩
    rw [hfr']; split <;> simp <;> omega
   ·rw [hfr'] at hcon
    have h5:=h2 o ho
    split at hcon
    ·simp at hcon; omega
    ·rename_i hne
     have hne':lo≠hi:=by simpa using hne
     by_cases hl:lo<vs.size
     ·have h6:=h2 lo hl
      simp at h6 hle
      omega
     ·simp at hcon; omega
   ·obtain ⟨v,a1,a2,a3⟩:=h4 i j r d hr hd
    exact ⟨v,a1,a2,a3.mono (fun b o _=>hcell b o) (fun _=>Nat.le_refl _) (fun _ _ h=>h) hs⟩
  ·exact .inr ⟨c',h0,hB'.mono (fun b o _=>hcell b o) (fun _=>Nat.le_refl _) rfl (fun _ _ h=>h) hs (hother c' hcc)⟩
theorem Y13 (hC : Z04 Γ σ a w G β) {src dst:TypeId} {v:Value} {x:D} (h:Za1 P σ src dst x=true) (hx:Z03 w G β v x):
  ∃ w2,(convert src dst v).run P w=.ok v w2∧Z04 Γ σ a w2 G β∧Z03 w2 G β v x:=by
 unfold Za1 at h
 split at h
 ·rename_i b lo n
  split at h
  ·rename_i k e hk hd
   split at h
   ·rename_i hu
    simp only [Bool.and_eq_true] at h
    obtain rfl:=Nat.eq_of_beq_eq_true h.1.1
    have hn:=Nat.le_of_ble_eq_true h.1.2
    cases hx with
    | lslnil=>exact absurd hn (by simp)
    | lsl _ _ _ cap c sz off hβ hcap hoff hroom=>
     obtain ⟨rfl,hB⟩:=hC.blk hk hβ
     obtain ⟨t,ht⟩:=Option.isSome_iff_exists.1 h.2
     obtain ⟨vs,fr,hh,hle⟩:=hB.ty t ht
     refine ⟨_,?_,hC.marked hk hβ hh hle,.lsl b lo n cap c k.sz off hβ hcap hoff ?_⟩
     ·simp [convert,run_underlying hd,run_underlying hu,markStringish,Zhg hh]
     ·obtain ⟨vs',e',fr2,g1,g2⟩:=hroom
      rw [hh] at g1; cases g1
      unfold World.freeze
      rw [if_neg (show ¬ (1=0) by decide)]
      have:∃ fr',(w.heap.modify c fun
        | .cells cs elem (lo,hi)=> .cells cs elem (if lo==hi then (vs.size,vs.size+1) else (min lo vs.size,max hi (vs.size+1)))
        | o=>o)[c]?=some (.cells vs t fr'):=by
       rw [Array.getElem?_modify,if_pos rfl,hh]; exact ⟨_,rfl⟩
      obtain ⟨fr',h3⟩:=this
      exact ⟨vs,t,fr',h3,g2⟩
   ·cases h
  ·cases h
 ·cases h
theorem Y0t (hC : Z04 Γ σ a w G β) {o:Oper} {x n:Operand} {pt it:TypeId} (ho:o.op=.call { callee:= .builtin .unsafeString,args:=#[x,n],argTypes:=#[pt,it] }) {told:Z18} {σ':S} {q:Prop}
  (h:unsD P σ o pt (σ.ev x) (σ.ev n) told=some (σ',q)) (hq:q):Reach P Γ o a w σ':=by
 have hx:=Z32 hC x
 have hn:=Z32 hC n
 unfold unsD at h
 split at h
 ·rename_i b m hxe hne
  rw [hxe] at hx
  rw [hne] at hn
  split at h
  ·rename_i k e s hk hpt hans
   split at h
   ·rename_i hc
    cases h
    obtain ⟨q1,rfl,q3,q4⟩:=hq
    simp only [Bool.and_eq_true] at hc
    have hsz:=Nat.eq_of_beq_eq_true hc.1.1.1
    have hce:=Nat.eq_of_beq_eq_true hc.1.1.2
    have hty:k.ty=some e:=by
     have:=hc.1.2
     unfold tyIs at this
     split at this
     ·rename_i t ht; rw [ht,Nat.eq_of_beq_eq_true this]
     ·cases this
    obtain ⟨xs,hrows,rfl⟩:=Zl7 q1
    obtain ⟨c,sz,hv,hβ⟩:∃ c sz,a.eval x=.pointer (some ⟨c,0,none⟩)∧β b=some (c,sz):=by
     generalize a.eval x=u at hx
     cases hx with
     | lptr _ _ _ c sz hβ=>exact ⟨c,sz,by simp,hβ⟩
    obtain ⟨rfl,hB⟩:=hC.blk hk hβ
    obtain ⟨vs,fr,hh,-⟩:=hB.ty e hty
    obtain ⟨vs',e',fr',g1,-,g3,g4⟩:=hB.cells
    rw [hh] at g1; cases g1
    have hlen:xs.length≤vs.size:=by rw [hrows,hsz] at g3; simpa using g3
    have hcell:∀ j y,xs[j]?=some y→w.cell? ((⟨c,0,none⟩:Addr).add j)=some (.int .u8 y):=fun j y hy=>by
     obtain ⟨v,a1,a2,a3⟩:=g4 j 0 [.int .u8 y] (.int .u8 y) (by rw [hrows]; simp [hy]) rfl
     rw [Z3b a3] at a1
     rw [Addr.add_none,Nat.zero_add,Z3l,hh]
     rw [hsz] at a1
     simpa using a1
    have hl0:xs.length≠0:=by intro h0; apply q3; rw [List.eq_nil_of_length_eq_zero h0]; rfl
    have hlb:=Zs7 (P:=P) w xs ⟨c,0,none⟩ .empty hcell
    have hlies:=Lib.liesAt_bytes (P:=P) hce (vs.size / P.cellsOf e) xs.length (by rw [hce]; simpa using hlen)
    have hsh:=Zhg hh
    have h63:xs.length≤9223372036854775807:=by simpa using q4
    have hrun:(Builtin.unsafeString_ #[pt,it] o.type #[.pointer (some ⟨c,0,none⟩),.int .i64 (xs.length:Int)]).run P w=.ok (.string ⟨(xs.map fun n=>UInt8.ofNat n.toNat).toArray⟩) (w.freeze ⟨c,0,none⟩ xs.length):=by
     have hdef:Builtin.unsafeString_ #[pt,it] o.type #[.pointer (some ⟨c,0,none⟩),.int .i64 (xs.length:Int)]=
      (do
       let n ← asInt (.int .i64 (xs.length:Int))
       if n < 0 then runtimePanic (.error "unsafe.String: len out of range")
       if n > IntKind.i64.max then unsupported (.unsafePointer "String: a length above the largest int")
       if n=0 then pure (.string .empty)
       else if ← variablesAt ⟨c,0,none⟩ (← elemOf pt) n.toNat then do
        let s ← loadBytes ⟨c,0,none⟩ .empty n.toNat
        freeze ⟨c,0,none⟩ n.toNat
        pure (.string s)
       else unsupported (.unsafePointer "String: not so many bytes at ptr")) := rfl
     rw [hdef]
     have hmax:IntKind.i64.max=9223372036854775807:=rfl
     have h63': ¬ (9223372036854775807:Int)<(xs.length:Int):=by omega
     have hneg: ¬ (xs.length:Int)<0:=by omega
     simp [asInt,asIntOf,hmax,h63',hneg,hl0,variablesAt,hsh,elemOf,run_underlying hpt,hlies,hlb]
    have hfree:∀ b' s,upd β b none b'≠some (c,s):=fun b' s hbs=>by
     unfold upd at hbs
     split at hbs
     ·cases hbs
     ·rename_i hne; exact hne (hC.inj b' b c s k.sz hbs hβ)
    have hC1:=((hC.drop b).frozen (n:=xs.length) hfree hB.own).nameNil (b:=b) (blk:={ sz:=1,rows:=[],frz:=0,pure:=true }) (by simp [S.drop]) ⟨rfl,rfl⟩
    refine Reach.of_value (v:= .string ⟨(xs.map fun n=>UInt8.ofNat n.toNat).toArray⟩) ?_ (hC1.put (Z57 hc.2) (Zfq _ _ (by simp)))
    have hn':a.eval n=.int .i64 (xs.length:Int):=by rw [Z3b hn]; simp
    simp [execOp,ho,resolve,invoke,builtin,hv,hn',hrun]
   ·cases h
  ·cases h
 ·cases h
theorem Y2c (hC:Z04 Γ σ a w G β) {o:Oper} {src dst:TypeId} {x:Operand} (ho:o.op=.convert src dst x) {told:Z18} {σ':S} {q:Prop} (h:Z9z P σ o src dst (σ.ev x) told=some (σ',q)) (hq:q):Reach P Γ o a w σ':=by
 have hx:=Z32 hC x
 unfold Z9z at h
 split at h
 ·rename_i b hxe
  split at h
  ·rename_i hc
   cases h
   rw [Bool.and_eq_true] at hc
   rw [hxe] at hx
   obtain ⟨c,sz,hv,hβ⟩:∃ c sz,a.eval x=.pointer (some ⟨c,0,none⟩)∧β b=some (c,sz):=by
    generalize a.eval x=u at hx
    cases hx with
    | lptr _ _ _ c sz hβ=>exact ⟨c,sz,by simp,hβ⟩
   have hrun:(convert src dst (.pointer (some ⟨c,0,none⟩))).run P w=.ok (.pointer (some ⟨c,0,none⟩)) w:=Y25 hC hc.1 hβ
   exact Reach.of_value (v:=a.eval x) (by simp only [execOp,ho]; rw [hv]; exact Zbn hrun) (hC.put (Z57 hc.2) hx)
  ·cases h
 split at h
 ·rename_i hc
  cases h
  rw [Bool.and_eq_true] at hc
  obtain ⟨w2,hrun,hC2,hv2⟩:=Y13 (P:=P) hC hc.1 hx
  exact Reach.of_value (v:=a.eval x) (by simp only [execOp,ho]; exact Zbn hrun) (hC2.put (Z57 hc.2) hv2)
 split at h
 ·rename_i e hd he
  split at h
  ·rename_i hu hsz
   split at h
   ·rename_i rows q0 s hr ht hdst
    cases h
    obtain ⟨q1,q2⟩:=hq
    obtain ⟨xs,rfl,rfl⟩:=Zl7 q2
    obtain ⟨cells,hc⟩:=Zrd (P:=P) hC hx hr q1 (size:=1) (fun r hr=>by
     obtain ⟨n,_,rfl⟩:=List.mem_map.1 hr; rfl)
    obtain ⟨a0,cap,hv,-⟩:=hc.shape
    have hcells:cells=xs.map (Value.int .u8):=by
     apply List.ext_getElem?
     intro j
     by_cases hj:j<xs.length
     ·obtain ⟨u,h1,h2,-⟩:=hc.rep j 0 [.int .u8 xs[j]] (.int .u8 xs[j]) (by simp [hj]) rfl
      have:=Z3b h2
      subst this
      simp only [Nat.mul_one,Nat.add_zero] at h1
      rw [h1]; simp [hj]
     ·rw [List.getElem?_eq_none (by rw [hc.len]; simp; omega),List.getElem?_eq_none (by simp; omega)]
    have hrun:=hc.run w (fun _=>rfl)
    rw [hcells] at hrun
    have hconv:(convert src dst (a.eval x)).run P w=.ok (.string (strOfNums xs)) w:=by
     rw [hv] at hrun ⊢
     cases a0 with
     | none=>
      rw [run_convert_bytes_nil w src e (Zen he) hu _ _ dst hd]
      have hx0:xs=[] :=by
       simp [Builtin.firstCells] at hrun
       exact hrun
      subst hx0
      rfl
     | some ad=>
      simp only [Builtin.firstCells,Nat.mul_one,List.length_map] at hrun
      rw [run_convert_bytes_string w src dst e _ _ _ (Zen he) hu hd,run_bytesToString w ad _ cap xs (by simpa using hrun),foldl_push_bytes]
      simp [strOfNums,ByteArray.empty,ByteArray.emptyWithCapacity]
      rfl
    exact Reach.of_value (by simp only [execOp,ho]; exact Zbn hconv) (hC.put (Z57 hdst) (Zfq _ _ (strOfNums_data xs)))
   ·cases h
  ·cases h
 ·cases h
theorem Y37 (hC:Z04 Γ σ a w G β) {o:Oper} {told:Z18} {σ':S} {q:Prop} (h:Z35 P σ o told=some (σ',q)) (hq:q):Reach P Γ o a w σ':=by
 have h0:=h
 unfold Z35 at h
 split at h
 ·rename_i e ho
  split at h
  ·rename_i cs hz
   obtain ⟨i,v,hi,hv,z1,z2,z3⟩:=Zis hz
   have hrun:(execOp a.eval o).run P w=.ok (.value (.pointer (some ⟨w.heap.size,0,none⟩))) (w.alloc (.cells v.cells e)):=by
    simp [execOp,ho,Instr.alloc,zeroValue,typeInfo,hi,hv,newVar,newRow]
   obtain ⟨-,-,-,-,-,hqp⟩:=Z91 h
   exact Reach.box hC (q:=q) (by rw [h]) hrun (fun t ht=>by unfold tyR at ht; split at ht <;> cases ht; rfl) z1 z2 (z3 w G β)
  ·cases h
 ·rename_i e x ho
  split at h
  ·rename_i cs hcs
   obtain ⟨c1,c2,c3⟩:=Zmr (Z32 hC x) hcs
   have hrun:(execOp a.eval o).run P w=.ok (.value (.pointer (some ⟨w.heap.size,0,none⟩))) (w.alloc (.cells (a.eval x).cells e)):=by
    simp [execOp,ho,Instr.box,newVar,newRow]
   split at h
   ·split at h
    ·rename_i hall hdst
     cases h
     exact Reach.boxRo hC (Z57 hdst) hall hrun c1 c2 c3
    ·cases h
   ·exact Reach.box hC (q:=q) (by rw [h]) hrun (fun t ht=>by cases ht) c1 c2 c3
  ·cases h
 ·rename_i t parts ho
  split at h
  ·rename_i z pl hz hp
   split at h
   ·rename_i cs hf
    split at h
    ·rename_i hdst
     cases h
     obtain ⟨vs,h1,h2⟩:=Y2p (P:=P) hC hz hp hf
     exact Reach.of_value (v:= .agg vs) (by simp only [execOp,ho]; exact Zbn h1) (hC.put (Z57 hdst) (.agg vs cs h2.1 h2.2.1 h2.2.2))
    ·cases h
   ·cases h
  ·cases h
 ·rename_i t len parts ho; exact Y0a hC ho h0 hq
 ·rename_i t l c ho; exact Y3g hC ho h0 hq
 ·rename_i src dst x ho; exact Y2c hC ho h hq
 ·rename_i t x v ho; exact Y2f hC ho h hq
 ·rename_i f args ts ho
  split at h
  ·rename_i f' hf
   split at h
   ·exact Y45 hC ho hf h hq
   ·exact Y3c hC ho hf h hq
  ·cases h
 ·rename_i args ts ho
  split at h
  ·rename_i s x t t'
   exact Y10 hC ho rfl rfl h hq
  ·cases h
 ·rename_i args ts ho
  split at h
  ·exact Y0t hC ho h hq
  ·cases h
 ·cases h
theorem Y2a (hC:Z04 Γ σ a w G β) {o:Oper} {told:Z18} {σ':S} {q:Prop} (h:Z2e P σ o told=some (σ',q)) (hq:q):Reach P Γ o a w σ':=by
 unfold Z2e at h
 split at h
 ·rename_i d p hp
  split at h
  ·rename_i hdst
   cases h
   obtain ⟨v,h1,h2⟩:=Y0h hC hp hq
   exact Reach.of_value h1 (hC.put (Z57 hdst) h2)
  ·cases h
 ·exact Y37 hC h hq
end Go.Den
namespace Go.Den
open Go.RowKit
def Z31:List (Nat×Z18)→Nat→Z18
 | [],_=>{}
 | (k,t)::r,i=>if i=k then t else Z31 r i
def Z4r (ops:Array Oper) (σ:S) (o:Oper) (g:Option Bool):Option (Bool×Prop):=
 match o.guard with
 | none=>some (true,True)
 | some (j,want)=>
  match ((ops[j]?).bind (·.dst)).map σ.tmps with
  | some (.bool b)=>
   match g with
   | some x=>some (x,(b==want)=x)
   | none=>match b==want with
    | true=>some (true,True)
    | false=>some (false,True)
  | some (.tup [])=>some (false,True)
  | _=>none
def gAt:List (Nat×Bool)→Nat→Option Bool
 | [],_=>none
 | (k,b)::r,i=>if i=k then some b else gAt r i
def Z30 (P:Program) (ops:Array Oper) (told:List (Nat×Z18)) (gs:List (Nat×Bool)) (i:Nat) (σ:S):Option (S×Prop):=
 match ops[i]? with
 | none=>some (σ,True)
 | some o=>
  match Z4r ops σ o (gAt gs i) with
  | none=>none
  | some (true,g)=>
   match Z2e P σ o (Z31 told i) with
   | some (σ',p)=>some (σ',g∧p)
   | none=>none
  | some (false,g)=>match Z1x σ o with
   | true=>some (σ.put o.dst (.tup []),g)
   | false=>none
def Z7l (P:Program) (ops:Array Oper) (told:List (Nat×Z18)) (gs:List (Nat×Bool)):List Nat→S→Option (S×Prop)
 | [],σ=>some (σ,True)
 | i :: r,σ=>
  match Z30 P ops told gs i σ with
  | some (σ',p)=>
   match Z7l P ops told gs r σ' with
   | some (σ'',q)=>some (σ'',p∧q)
   | none=>none
  | none=>none
variable {P:Program} {Γ:Ctx} {σ σ':S} {a:Act} {w w':World} {G G':Nat→Nat} {β β':Nat→Option (Nat×Nat)}
theorem Zqz (hC:Z04 Γ σ a w G β) {ops:Array Oper} {o:Oper} {g:Option Bool} {b:Bool} {p:Prop} (h:Z4r ops σ o g=some (b,p)) (hp:p):Region.wanted o (yielded ops a.tmps)=b:=by
 unfold Z4r at h
 unfold Region.wanted
 split at h
 ·rename_i hg; cases h; rw [hg]
 ·rename_i j want hg
  rw [hg]
  dsimp only
  have key:∀ d,((ops[j]?).bind (·.dst)).map σ.tmps=some d→∃ t,(ops[j]?).bind (·.dst)=some t∧σ.tmps t=d:=fun d hd=>Z20 hd
  split at h
  ·rename_i c hc
   obtain ⟨t,ht,hd⟩:=key _ hc
   have hv:=hC.tmps t
   rw [hd] at hv
   have hv':=Z7j hv
   have hy:yielded ops a.tmps j=some c:=by
    unfold yielded
    rw [ht]
    simp only [Option.bind_some]
    have hlt:t<a.tmps.size:=by
     rcases Nat.lt_or_ge t a.tmps.size with h'|h'
     ·exact h'
     ·simp [Array.getD_eq_getD_getElem?,Array.getElem?_eq_none h',Go.undef] at hv'
    simp only [Array.getD_eq_getD_getElem?,Array.getElem?_eq_getElem hlt,Option.getD_some] at hv'
    rw [Array.getElem?_eq_getElem hlt,hv']
   rw [hy]
   have e:(some c==some want)=(c==want):=rfl
   rw [e]
   split at h
   ·cases h; exact hp
   ·split at h
    ·cases h; assumption
    ·cases h; assumption
  ·rename_i hc
   obtain ⟨t,ht,hd⟩:=key _ hc
   have hv:=hC.tmps t
   rw [hd] at hv
   cases h
   have hy:yielded ops a.tmps j=none:=by
    unfold yielded
    rw [ht]
    simp only [Option.bind_some]
    rcases Nat.lt_or_ge t a.tmps.size with h'|h'
    ·rw [Array.getElem?_eq_getElem h']
     simp only [Array.getD_eq_getD_getElem?,Array.getElem?_eq_getElem h',Option.getD_some] at hv
     generalize a.tmps[t]=u at hv
     cases hv; rfl
    ·rw [Array.getElem?_eq_none h']
   rw [hy]; rfl
  ·cases h
theorem Zpb (hC:Z04 Γ σ a w G β) {ops:Array Oper} {told:List (Nat×Z18)} {gs:List (Nat×Bool)} {i:Nat} {p:Prop} (h:Z30 P ops told gs i σ=some (σ',p)) (hp:p)
  {K:Act→World→Prop} {Q:Exit→Act→World→Prop} (hK:∀ a' w' G' β',Z04 Γ σ' a' w' G' β'→K a' w'):wpOp P ops Q i K a w:=by
 unfold Z30 at h
 unfold wpOp
 split at h
 ·rename_i ho; cases h; rw [ho]; exact hK _ _ _ _ hC
 ·rename_i o ho
  rw [ho]
  dsimp only
  split at h
  ·cases h
  ·rename_i g hg
   split at h
   ·rename_i σ1 q hs
    cases h
    rw [Zqz hC hg hp.1]
    exact .inl (Y2a hC hs hp.2 K Q hK)
   ·cases h
  ·rename_i g hg
   split at h
   ·rename_i hd
    cases h
    rw [Zqz hC hg hp]
    refine hK _ _ G β (hC.put (Z57 hd) ?_)
    exact .tup #[] [] rfl (fun j v d h=>by simp at h)
   ·cases h
theorem Zvb {ops:Array Oper} {told:List (Nat×Z18)} {gs:List (Nat×Bool)} {Q:Exit→Act→World→Prop}:∀ (l:List Nat) {σ:S} {a:Act} {w:World} {G β} {p:Prop},Z04 Γ σ a w G β→
  Z7l P ops told gs l σ=some (σ',p)→p→(∀ a' w' G' β',Z04 Γ σ' a' w' G' β'→Q .normal a' w')→wpOps P ops Q l a w
 | [],σ,a,w,G,β,p,hC,h,hp,hQ=>by cases h; exact hQ _ _ _ _ hC
 | i :: r,σ,a,w,G,β,p,hC,h,hp,hQ=>by
  unfold Z7l at h
  split at h
  ·rename_i σ1 p1 h1
   split at h
   ·rename_i σ2 p2 h2
    cases h
    rw [wpOps_cons]
    exact Zpb hC h1 hp.1 (fun a' w' G' β' hC'=>Zvb r hC' h2 hp.2 hQ)
   ·cases h
  ·cases h
def DWP (P:Program) (Γ:Ctx) (c:Code) (Q:Exit→S→Prop) (σ:S):Prop:=
 ∀ a w G β,Z04 Γ σ a w G β→c.wp P (fun e a' w'=>∃ σ' G' β',Z04 Γ σ' a' w' G' β'∧Q e σ') a w
theorem DWP.mono {c:Code} {Q Q':Exit→S→Prop} (h:DWP P Γ c Q σ) (hq:∀ e σ',Q e σ'→Q' e σ'):DWP P Γ c Q' σ:=
 fun a w G β hC=>wp_mono (h a w G β hC) fun _ _ _ ⟨σ',G',β',h1,h2⟩=>⟨σ',G',β',h1,hq _ _ h2⟩
theorem DWP.skip {Q:Exit→S→Prop} (h:Q .normal σ):DWP P Γ .skip Q σ:=fun _ _ G β hC=>wp_skip ⟨σ,G,β,hC,h⟩
theorem DWP.ret {Q:Exit→S→Prop} (h:Q .ret σ):DWP P Γ .ret Q σ:=fun _ _ G β hC=>wp_ret ⟨σ,G,β,hC,h⟩
theorem DWP.exit {id:Nat} {Q:Exit→S→Prop} (h:Q (.exit id) σ):DWP P Γ (.exit id) Q σ:=fun _ _ G β hC=>wp_exit ⟨σ,G,β,hC,h⟩
def thenD (P:Program) (Γ:Ctx) (y:Code) (Q:Exit→S→Prop):Exit→S→Prop
 | .normal,σ=>DWP P Γ y Q σ
 | e,σ=>Q e σ
theorem DWP.seq {x y:Code} {Q:Exit→S→Prop} (h:DWP P Γ x (thenD P Γ y Q) σ):DWP P Γ (.seq x y) Q σ:=fun a w G β hC=>by
 refine wp_seq (wp_mono (h a w G β hC) fun e a' w' ⟨σ',G',β',h1,h2⟩=>?_)
 cases e with
 | normal=>exact h2 a' w' G' β' h1
 | _=>exact ⟨σ',G',β',h1,h2⟩
theorem DWP.cond {c:Operand} {x y:Code} {b:Bool} {Q:Exit→S→Prop} (hc:σ.ev c=.bool b) (ht:b=true→DWP P Γ x Q σ) (hf:b=false→DWP P Γ y Q σ):DWP P Γ (.cond c x y) Q σ:=fun a w G β hC=>by
 have:=Z32 hC c
 rw [hc] at this
 exact wp_cond_split (Z7j this) (fun hb=>ht hb a w G β hC) (fun hb=>hf hb a w G β hC)
def Zv7 (id:Nat) (Q:Exit→S→Prop):Exit→S→Prop
 | .exit id',σ=>if id'=id then Q .normal σ else Q (.exit id') σ
 | e,σ=>Q e σ
theorem DWP.block {id:Nat} {c:Code} {Q:Exit→S→Prop} (h:DWP P Γ c (Zv7 id Q) σ):DWP P Γ (.block id c) Q σ:=fun a w G β hC=>by
 refine wp_block (wp_mono (h a w G β hC) fun e a' w' ⟨σ',G',β',h1,h2⟩=>?_)
 cases e with
 | exit id'=>
  simp only [Exit.inBlock,Zv7] at h2 ⊢
  split
  ·rename_i he; rw [if_pos he] at h2; exact ⟨σ',G',β',h1,h2⟩
  ·rename_i he; rw [if_neg he] at h2; exact ⟨σ',G',β',h1,h2⟩
 | _=>exact ⟨σ',G',β',h1,h2⟩
theorem DWP.region {id:Nat} {ops:Array Oper} {told:List (Nat×Z18)} {gs:List (Nat×Bool)} {p:Prop} {Q:Exit→S→Prop} (h:Z7l P ops told gs (List.range ops.size) σ=some (σ',p)) (hp:p) (hQ:Q .normal σ'):
  DWP P Γ (.region id ops false) Q σ:=fun _ _ _ _ hC=>
 wp_region (Zvb _ hC h hp fun _ _ G' β' hC'=>⟨σ',G',β',hC',hQ⟩)
theorem Zwt {c:Code} {Q:Exit→Act→World→Prop} (I:Nat→Act→World→Prop)
  (round:∀ n a w,I n a w→∃ m,n=m+1∧c.wp P (Exit.then (fun a' w'=>I m a' w') Q) a w) (n:Nat) (a:Act) (w:World) (h:I n a w):(Code.loop c).wp P Q a w:=by
 intro b k cs
 have key:∀ n a w,I n a w→∃ e a' w',Q e a' w'∧Arrives P (lone (b.at a (.code c:: .inLoop c::k)) cs w) b k cs e a' w':=by
  intro n
  induction n with
  | zero=>
   intro a w hI
   obtain ⟨m,hm,-⟩:=round 0 a w hI
   omega
  | succ n ih=>
   intro a w hI
   obtain ⟨m,hm,hr⟩:=round _ a w hI
   obtain rfl:n=m:=by omega
   obtain ⟨e,a₁,w₁,hq,harr⟩:=hr b (.inLoop c::k) cs
   cases e with
   | normal=>
    obtain ⟨e₂,a₂,w₂,hq₂,harr₂⟩:=ih a₁ w₁ hq
    exact ⟨e₂,a₂,w₂,hq₂,.of_steps (Steps.trans harr (.one step_inLoop)) harr₂⟩
   | exit id=>exact ⟨_,a₁,w₁,hq,.pass (x:= .inLoop c) rfl (fun _ _=> .inl (by simp)) harr⟩
   | goto l=>exact ⟨_,a₁,w₁,hq,.pass (x:= .inLoop c) rfl (fun _ _=> .inl (by simp)) harr⟩
   | ret=>exact ⟨_,a₁,w₁,hq,.pass (x:= .inLoop c) rfl (fun _ _=> .inl (by simp)) harr⟩
   | panic ch=>exact ⟨_,a₁,w₁,hq,.pass (x:= .inLoop c) rfl (fun _ _=> .inl (by simp)) harr⟩
   | outgrown=>exact ⟨_,a₁,w₁,hq,.pass (x:= .inLoop c) rfl (fun _ _=> .inl (by simp)) harr⟩
 obtain ⟨e,a',w',hq,harr⟩:=key n a w h
 exact ⟨e,a',w',hq,.of_steps (.one step_loop) harr⟩
inductive Ctl (S R:Type) where
 | next (s:S)
 | done (r:R)
def Z07 {S R:Type} (f:S→Option (Ctl S R)):Nat→S→Option R
 | 0,_=>none
 | n+1,s=>
  match f s with
  | some (.next s')=>Z07 f n s'
  | some (.done r)=>some r
  | none=>none
theorem DWP.loop {T R:Type} {c:Code} {f:T→Option (Ctl T R)} {st:T→S} {Q:Exit→S→Prop} {K:R→Exit→S→Prop}
  (round:∀ t x,f t=some x→DWP P Γ c (fun e σ'=>match x with
   | .next t'=>e=.normal∧σ'=st t'
   | .done r=>e≠ .normal∧K r e σ') (st t))
  {n:Nat} {t:T} {r:R} (h:Z07 f n t=some r) (hQ:∀ e σ',K r e σ'→Q e σ'):DWP P Γ (.loop c) Q (st t):=fun a w G β hC=>by
 refine Zwt (fun n a w=>∃ t G β,Z07 f n t=some r∧Z04 Γ (st t) a w G β) ?_ n a w ⟨t,G,β,h,hC⟩
 rintro n a w ⟨t,G,β,h,hC⟩
 cases n with
 | zero=>cases h
 | succ m=>
  refine ⟨m,rfl,?_⟩
  unfold Z07 at h
  cases hf:f t with
  | none=>rw [hf] at h; cases h
  | some x=>
   rw [hf] at h
   refine wp_mono (round t x hf a w G β hC) fun e a' w' ⟨σ',G',β',h1,h2⟩=>?_
   cases x with
   | next t'=>
    obtain ⟨rfl,rfl⟩:=h2
    exact ⟨t',G',β',h,h1⟩
   | done r'=>
    cases h
    obtain ⟨hne,hk⟩:=h2
    cases e with
    | normal=>exact absurd rfl hne
    | _=>exact ⟨σ',G',β',h1,hQ _ _ hk⟩
def resOne (P:Program) (σ:S):ResultVar→Option (D×Prop)
 | .tmp t=>some (σ.tmps t,True)
 | .cell t ty=>Z5o P σ ty (σ.tmps t) .go
def Z97 (P:Program) (σ:S):List ResultVar→Option (List D×Prop)
 | [] =>some ([],True)
 | x::r=>
  match resOne P σ x,Z97 P σ r with
  | some (d,p),some (ds,q)=>some (d::ds,p∧q)
  | _,_=>none
def tupD:List D→D
 | [d] =>d
 | ds=> .tup ds
def Z9j (P:Program) (fn:Func) (σ:S):Option (D×Prop):=
 match Z97 P σ fn.results.toList with
 | some (ds,p)=>
  match Z2z σ ds with
  | some (ds',_,q)=>some (tupD ds',p∧q)
  | none=>none
 | none=>none
def Zhx (a:Act):ResultVar→Sem Value
 | .tmp t=>pure (a.tmps.getD t Go.undef)
 | .cell b t=>do loadVar t (← asAddr (a.tmps.getD b Go.undef))
theorem Zln (fn:Func) (a:Act):results fn a.tmps=(do
   let vs ← fn.results.mapM (Zhx a)
   pure (if h:vs.size=1 then vs[0] else .tuple vs):Sem Value):=by
 unfold results
 congr 1
theorem Zjn (hC : Z04 Γ σ a w G β):∀ (l:List ResultVar) {ds:List D} {p:Prop},Z97 P σ l=some (ds,p)→p→
  ∃ vs:List Value,(l.mapM (Zhx a)).run P w=.ok vs w∧vs.length=ds.length∧
   ∀ (j:Nat) v d,vs[j]?=some v→ds[j]?=some d→Z03 w G β v d
 | [],ds,p,h,hp=>by cases h; exact ⟨[],by simp,rfl,fun j v d h=>by simp at h⟩
 | x :: r, ds, p,h,hp=>by
  unfold Z97 at h
  split at h
  ·rename_i d p1 ds2 p2 h1 h2
   cases h
   obtain ⟨vs,e1,e2,e3⟩:=Zjn hC r h2 hp.2
   have key:∃ v,(Zhx a x).run P w=.ok v w∧Z03 w G β v d:=by
    cases x with
    | tmp t=>cases h1; exact ⟨_,rfl,hC.tmps t⟩
    | cell t ty=>
     have h1':Z5o P σ ty (σ.tmps t) .go=some (d,p1):=h1
     have hv:=hC.tmps t
     obtain ⟨v,r1,r2⟩:=Zxc hC hv h1' hp.1
     refine ⟨v,?_,r2⟩
     have hptr:∃ ad,a.tmps.getD t Go.undef=.pointer (some ad):=by
      unfold Z5o at h1'
      split at h1'
      ·rename_i cs q hq
       split at h1'
       ·cases h1'
        obtain ⟨b,off,hu,-⟩:=Zxy hC hv hq hp.1
        exact ⟨_,hu⟩
       ·cases h1'
      ·cases h1'
     obtain ⟨ad,had⟩:=hptr
     rw [had] at r1
     simp only [Zhx,had]
     simpa [Instr.loadAt,Instr.sureAddr,asAddr] using r1
   obtain ⟨v,k1,k2⟩:=key
   refine ⟨v::vs,by simp only [List.mapM_cons,Sem.run_bind,k1,Result.andThen_ok,e1,Sem.run_pure],by simp [e2],fun j u d' hu hd=>?_⟩
   cases j with
   | zero=>simp at hu hd; subst hu hd; exact k2
   | succ j=>simp at hu hd; exact e3 j u d' hu hd
  ·cases h
theorem Zzq (hC:Z04 Γ σ a w G β) {fn:Func} {d:D} {p:Prop} (h:Z9j P fn σ=some (d,p)) (hp:p):
  ∃ v G' σ',(results fn a.tmps).run P w=.ok v w∧Z04 Γ σ' a w G' β∧Z03 w G' (fun _=>none) v d:=by
 unfold Z9j at h
 split at h
 ·rename_i ds p1 h1
  split at h
  ·rename_i ds' l p2 h2
   cases h
   obtain ⟨vs,e1,e2,e3⟩:=Zjn (P:=P) hC _ h1 hp.1
   obtain ⟨G',k1,k2,k3,k4⟩:=Zd9 hC h2 hp.2
   have hrep:∀ (j:Nat) v d,vs[j]?=some v→ds'[j]?=some d→Z03 w G' (fun _=>none) v d:=fun j v d hv hd=>by
    have hj:j<ds.length:=by
     rcases Nat.lt_or_ge j ds'.length with h'|h'
     ·omega
     ·rw [List.getElem?_eq_none h'] at hd; cases hd
    exact k4 j v _ d (e3 j v _ hv (List.getElem?_eq_getElem hj)) (List.getElem?_eq_getElem hj) hd
   have hrun:(results fn a.tmps).run P w=.ok (if h:vs.toArray.size=1 then vs.toArray[0] else .tuple vs.toArray) w:=by
    rw [Zln,Array.mapM_eq_mapM_toList]
    simp only [Sem.run_bind,Sem.run_map,e1,Result.andThen_ok,Sem.run_pure]
   refine ⟨_,G',_,hrun,k1,?_⟩
   have hl:vs.length=ds'.length:=by omega
   match ds',hl,hrep with
   | [d],hl,hrep=>
    match vs,hl,hrep with
    | [v],_,hrep=>exact hrep 0 v d rfl rfl
   | [],hl,hrep=>
    match vs,hl with
    | [],_=>exact .tup #[] [] rfl (fun j v d h=>by simp at h)
   | d1::d2::dr,hl,hrep=>
    rw [dif_neg (by simp; simp at hl; omega)]
    exact .tup vs.toArray _ (by simpa using hl.symm) (fun j v d hv hd=>hrep j v d (by simpa using hv) hd)
  ·cases h
 ·cases h
def Ends (P:Program) (fn:Func) (r:D):Exit→S→Prop:=fun e σ=>(e=.ret∨e=.normal)∧∃ p,Z9j P fn σ=some (r,p)∧p
theorem Z08.mk {f:FuncId} {fn:Func} {c:Code} {ds:List D} {r:D} (hf:P.funcs[f]?=some fn) (hb:fn.body=some c) (hent:Z6h P f=true) (hn:ds.length≤fn.ntmps)
  (h:∀ Γ:Ctx,DWP P Γ c (Ends P fn r) (mkS fn.ntmps (Z3v 0 ds) [])):Z08 P f ds r:=by
 refine ⟨hent,fun w G vs hG hargs=>?_⟩
 let Γ:Ctx:={ B:=w.heap.size,X:=fun _=>False,w0:=w,G0:=G,hB:=Nat.le_refl _,pin:=fun _=>0 }
 have hC : Z04 Γ (mkS fn.ntmps (Z3v 0 ds) []) { tmps:=vs++Array.replicate (fn.ntmps - vs.size) Go.undef,defers:=[] } w G (fun _=>none):=by
  refine ⟨rfl,?_,fun t=>?_,fun b blk hb=>?_,fun b x hx=>?_,fun b b' c s s' hb=>?_,.refl _ _ _,fun _ _ _=>rfl,hG,Nat.le_refl _⟩
  ·simp only [Array.size_append,Array.size_replicate,mkS]; have:=hargs.size; omega
  ·show Z03 w G _ _ (ofL (Z3v 0 ds) t)
   rw [Zcn,if_pos (Nat.zero_le _),Nat.sub_zero]
   rcases Nat.lt_or_ge t ds.length with ht|ht
   ·have ht':t<vs.size:=by rw [← hargs.size]; exact ht
    have e1:ds.getD t .undef=ds[t] :=by simp [List.getD,List.getElem?_eq_getElem ht]
    have e2:(vs++Array.replicate (fn.ntmps - vs.size) Go.undef).getD t Go.undef=vs[t] :=by
     rw [Array.getD_eq_getD_getElem?,Array.getElem?_append_left ht',Array.getElem?_eq_getElem ht']; rfl
    rw [e1,e2]
    exact hargs.rep t _ _ (Array.getElem?_eq_getElem ht') (List.getElem?_eq_getElem ht)
   ·have e1:ds.getD t .undef=.undef:=by simp [List.getD,List.getElem?_eq_none ht]
    rw [e1]; exact .undef _
  ·cases hb
  ·cases hx
  ·cases hb
 refine calls_of_wp hf hb (wp_mono (h Γ _ w G _ hC) fun e a' w' ⟨σ',G',β',hC',he,p,hr,hp⟩=>?_)
 obtain ⟨v,G2,σ2,e1,e2,e3⟩:=Zzq hC' hr hp
 have hR:∃ v' G',Ending.returned v=.returned v'∧Below w.heap.size w w'∧(∀ c,c<w.heap.size→G' c=G c)∧(∀ c,w'.heap.size≤c→G' c=0)∧Z03 w' G' (fun _=>none) v' r:=
  ⟨v,G2,rfl,⟨e2.kept.os,e2.kept.tape,e2.kept.output,e2.kept.size,fun k hk=>e2.kept.block k hk (fun h=>h)⟩,fun c hc=>e2.marks c hc (fun h=>h),e2.fresh,e3⟩
 rcases he with rfl|rfl
 ·exact ⟨hC'.defers,v,e1,hR⟩
 ·exact ⟨hC'.defers,v,e1,hR⟩
def Zk9 (P:Program) (fn:Func) (m:Nat) (keep:List Bool) (σ:S):Option (D×List Blk×Prop):=
 match Z97 P σ fn.results.toList with
 | some (ds,p)=>
  match Z4u false σ (List.range m) ds with
  | some (ds',l,q)=>
   match Z6n (σ.freezeL l) (List.range m) (fun pin j=>match keep[j]? with
    | some true=>pin
    | _=>none) 0 (List.range m) with
   | some bs=>some (tupD ds',bs,p∧q)
   | none=>none
  | none=>none
 | none=>none
def Zbx (P:Program) (fn:Func) (m:Nat) (keep:List Bool) (r:D) (bs:List Blk):Exit→S→Prop:=fun e σ=>(e=.ret∨e=.normal)∧Z6m (List.range m)=true∧∃ bs1 p,Zk9 P fn m keep σ=some (r,bs1,p)∧p∧bs1=bs
theorem Y1v (hC:Z04 Γ σ a w G β) {fn:Func} {m:Nat} {keep:List Bool} {d:D} {bs:List Blk} {p:Prop} (hm:Z6m (List.range m)=true) (h:Zk9 P fn m keep σ=some (d,bs,p)) (hp:p):
  ∃ v G' β',(results fn a.tmps).run P w=.ok v w∧Z04 Γ (mkS 1 [(0,d)] (Z4g 0 bs)) { tmps:=#[v],defers:=[] } w G' β':=by
 unfold Zk9 at h
 split at h
 ·rename_i ds p1 h1
  split at h
  ·rename_i ds' l p2 h2
   split at h
   ·rename_i bs1 hbs
    cases h
    obtain ⟨vs,e1,e2,e3⟩:=Zjn (P:=P) hC _ h1 hp.1
    obtain ⟨G',k1,k2,k3,k4⟩:=Zxx hC h2 hp.2
    have hrep:∀ (j:Nat) v d,vs[j]?=some v→ds'[j]?=some d→Z03 w G' (Z4b (List.range m) β) v d:=fun j v d hv hd=>by
     have hj:j<ds.length:=by
      rcases Nat.lt_or_ge j ds'.length with h'|h'
      ·omega
      ·rw [List.getElem?_eq_none h'] at hd; cases hd
     exact k4 j v _ d (e3 j v _ hv (List.getElem?_eq_getElem hj)) (List.getElem?_eq_getElem hj) hd
    have hrun:(results fn a.tmps).run P w=.ok (if h:vs.toArray.size=1 then vs.toArray[0] else .tuple vs.toArray) w:=by
     rw [Zln,Array.mapM_eq_mapM_toList]
     simp only [Sem.run_bind,Sem.run_map,e1,Result.andThen_ok,Sem.run_pure]
    refine ⟨_,G',Z4b (List.range m) β,hrun,?_⟩
    have hl:vs.length=ds'.length:=by omega
    have main:Z03 w G' (Z4b (List.range m) β) (if h:vs.toArray.size=1 then vs.toArray[0] else .tuple vs.toArray) (tupD ds'):=by
     match ds',hl,hrep with
     | [d],hl,hrep=>
      match vs,hl,hrep with
      | [v],_,hrep=>exact hrep 0 v d rfl rfl
     | [],hl,hrep=>
      match vs,hl with
      | [],_=>exact .tup #[] [] rfl (fun j v d h=>by simp at h)
     | d1::d2::dr,hl,hrep=>
      rw [dif_neg (by simp; simp at hl; omega)]
      exact .tup vs.toArray _ (by simpa using hl.symm) (fun j v d hv hd=>hrep j v d (by simpa using hv) hd)
    refine k1.enter (Γ':=Γ) (ds:=[tupD ds']) (vs:=#[if h:vs.toArray.size=1 then vs.toArray[0] else .tuple vs.toArray]) hm hbs k1.big (fun k c s hk=>?_) (fun k b blk c s i hb hbk hk hi=>?_) k1.kept k1.marks rfl (fun j v d hv hd=>?_)
    ·obtain ⟨b,f1,f2⟩:=Zdn hk
     obtain ⟨blk,f3⟩:=k1.dom b _ f2
     obtain ⟨-,hB⟩:=k1.blk f3 f2
     exact hB.own
    ·have hk':=(Zef hb).symm.trans hk
     obtain ⟨-,hB⟩:=k1.blk hbk hk'
     have:blk.pin=some i:=by
      split at hi
      ·exact hi
      ·cases hi
     exact hB.pin i this
    ·cases j with
     | zero=>simp at hv hd; subst hv hd; exact main
     | succ j=>simp at hv
   ·cases h
  ·cases h
 ·cases h
theorem Z4e.mk {f:FuncId} {fn:Func} {c:Code} {ds:List D} {bs:List Blk} {r:D} {bs':List Blk} (m:Nat) (keep:List Bool) (hf:P.funcs[f]?=some fn) (hb:fn.body=some c) (hent:Z6h P f=true) (hn:ds.length≤fn.ntmps)
  (h:∀ Γ:Ctx,DWP P Γ c (Zbx P fn m keep r bs') (mkS fn.ntmps (Z3v 0 ds) (Z4g 0 bs))):Z4e P f ds bs r bs':=by
 refine ⟨hent,fun Γ vs w G β hC0=>?_⟩
 have hsz:vs.size=ds.length:=hC0.size
 have hC : Z04 Γ (mkS fn.ntmps (Z3v 0 ds) (Z4g 0 bs)) { tmps:=vs++Array.replicate (fn.ntmps - vs.size) Go.undef,defers:=[] } w G β:=by
  refine { hC0 with size:=?_,tmps:=fun t=>?_,defers:=rfl }
  ·simp only [Array.size_append,Array.size_replicate,mkS]; omega
  ·show Z03 w G _ _ (ofL (Z3v 0 ds) t)
   rcases Nat.lt_or_ge t vs.size with ht'|ht
   ·have:=hC0.tmps t
    have e2:(vs++Array.replicate (fn.ntmps - vs.size) Go.undef).getD t Go.undef=vs.getD t Go.undef:=by
     rw [Array.getD_eq_getD_getElem?,Array.getElem?_append_left ht',Array.getD_eq_getD_getElem?]
    rw [e2]; exact this
   ·rw [Zcn,if_pos (Nat.zero_le _),Nat.sub_zero]
    have e1:ds.getD t .undef=.undef:=by simp [List.getD,List.getElem?_eq_none (show ds.length≤t by omega)]
    rw [e1]; exact .undef _
 refine calls_of_wp hf hb (wp_mono (h Γ _ w G _ hC) fun e a' w' ⟨σ',G',β',hC',he,hm,bs1,p,hr,hp,hbe⟩=>?_)
 subst hbe
 obtain ⟨v,G2,β2,e1,e2⟩:=Y1v hC' hm hr hp
 have hR:∃ v' G' β',Ending.returned v=.returned v'∧Z04 Γ (mkS 1 [(0,r)] (Z4g 0 bs1)) { tmps:=#[v'],defers:=[] } w' G' β':=⟨v,G2,β2,rfl,e2⟩
 rcases he with rfl|rfl
 ·exact ⟨hC'.defers,v,e1,hR⟩
 ·exact ⟨hC'.defers,v,e1,hR⟩
end Go.Den
namespace Go.Den
open Go.RowKit
def Z8g:List (Nat×Nat)→Nat→Option Nat
 | [],_=>none
 | (o,n)::r,b=>if b=o then some n else Z8g r b
def Z6o:List (Nat×Nat)→Nat→Option Nat
 | [],_=>none
 | (o,n)::r,b=>if b=n then some o else Z6o r b
def D.renA (ps:List (Nat×Nat)):D→D
 | .lptr b i o=>match Z8g ps b with|some b'=> .lptr b' i o|none=> .undef
 | .lsl b lo n=>match Z8g ps b with|some b'=> .lsl b' lo n|none=> .undef
 | d=>d
def D.renB (ps:List (Nat×Nat)):D→D
 | .agg cs=> .agg (cs.map (D.renA ps))
 | .tup _=> .undef
 | d=>d.renA ps
def D.ren (ps:List (Nat×Nat)):D→D
 | .tup vs=> .tup (vs.map (D.renB ps))
 | d=>d.renB ps
def Blk.ren (ps:List (Nat×Nat)) (k:Blk):Blk:=match k.pure with|true=>k|false=>{ k with rows:=k.rows.map (·.map (D.renA ps)) }
def gcT (ps:List (Nat×Nat)) (σ:S):List Nat→List (Nat×D)
 | [] =>[]
 | t::r=>(t,(σ.tmps t).ren ps)::gcT ps σ r
def gcB (ps:List (Nat×Nat)) (σ:S):List (Nat×Nat)→Option (List (Nat×Blk))
 | [] =>some []
 | (o,n)::r=>
  match σ.heap o,gcB ps σ r with
  | some k,some l=>some ((n,k.ren ps)::l)
  | _,_=>none
def Z8o:List (Nat×Nat)→Bool
 | [] =>true
 | (o,n)::r=>(Z8g r o).isNone&&(Z6o r n).isNone&&Z8o r
def gcL (keep:List Nat) (ps:List (Nat×Nat)) (σ:S):Option (List (Nat×D)×List (Nat×Blk)):=
 match Z8o ps with
 | true=>
  match gcB ps σ ps with
  | some bl=>some (gcT ps σ keep,bl)
  | none=>none
 | false=>none
variable {P:Program} {Γ:Ctx} {σ σ':S} {a:Act} {w w':World} {G G':Nat→Nat} {β β':Nat→Option (Nat×Nat)}
theorem Zkb:∀ {ps:List (Nat×Nat)},Z8o ps=true→∀ o n,Z8g ps o=some n↔Z6o ps n=some o
 | [],_,o,n=>by simp [Z8g,Z6o]
 | (o',n')::r,h,o,n=>by
  simp only [Z8o,Bool.and_eq_true,Option.isNone_iff_eq_none] at h
  obtain ⟨⟨h1,h2⟩,h3⟩:=h
  have ih:=Zkb h3
  unfold Z8g Z6o
  by_cases e1:o=o' <;> by_cases e2:n=n'
  ·subst e1 e2; simp
  ·subst e1
   rw [if_pos rfl,if_neg e2]
   constructor
   ·intro h; cases h; exact absurd rfl e2
   ·intro h; rw [← ih] at h; rw [h1] at h; cases h
  ·subst e2
   rw [if_neg e1,if_pos rfl]
   constructor
   ·intro h; rw [ih] at h; rw [h2] at h; cases h
   ·intro h; cases h; exact absurd rfl e1
  ·rw [if_neg e1,if_neg e2]; exact ih o n
def Z7c (ps:List (Nat×Nat)) (β:Nat→Option (Nat×Nat)):Nat→Option (Nat×Nat):=fun u=>(Z6o ps u).bind β
theorem Ztf {ps:List (Nat×Nat)} (h:Z8o ps=true) {o n:Nat} (hn:Z8g ps o=some n):Z7c ps β n=β o:=by
 unfold Z7c; rw [(Zkb h o n).1 hn]; rfl
theorem Z03.renE {ps:List (Nat×Nat)} (hp:Z8o ps=true) {v:Value} {d:D} (h:Z03 w G β v d) (h1:one v=true):Z03 w G (Z7c ps β) v (d.renA ps):=by
 cases h with
 | undef v=>exact .undef v
 | lptr b i o c sz hβ=>
  simp only [D.renA]
  split
  ·rename_i b' hb; exact .lptr b' i o c sz (by rw [Ztf hp hb]; exact hβ)
  ·exact .undef _
 | lslnil b x=>
  simp only [D.renA]
  split
  ·exact .lslnil _ x
  ·exact .undef _
 | lsl b lo n cap c sz off hβ hcap hoff hroom=>
  simp only [D.renA]
  split
  ·rename_i b' hb; exact .lsl b' lo n cap c sz off (by rw [Ztf hp hb]; exact hβ) hcap hoff hroom
  ·exact .undef _
 | agg vs cs=>simp [one] at h1
 | tup vs ds=>simp [one] at h1
 | bool x=>exact .bool x
 | int k n=>exact .int k n
 | str s=>exact .str s
 | slnil c x=>exact .slnil c x
 | sl c b' off n cap sz rows val hn hcc hcap hsz himm hcell hone hdat hrep=>exact (Z03.sl c b' off n cap sz rows val hn hcc hcap hsz himm hcell hone hdat hrep).of_dat (fun _ _ _=>rfl) (fun _=>Nat.le_refl _) rfl
 | ptr b' off cs val himm hcell hone hdat hrep=>exact (Z03.ptr b' off cs val himm hcell hone hdat hrep).of_dat (fun _ _ _=>rfl) (fun _=>Nat.le_refl _) rfl
 | nilptr=>exact .nilptr
 | fn f=>exact .fn f
 | raw v h=>exact .raw v h
theorem Z03.renB {ps:List (Nat×Nat)} (hp:Z8o ps=true) {v:Value} {d:D} (h:Z03 w G β v d):Z03 w G (Z7c ps β) v (d.renB ps):=by
 by_cases ha:∃ cs,d=.agg cs
 ·obtain ⟨cs,rfl⟩:=ha
  obtain ⟨vs,rfl,hn,hone,hrep⟩:=Z4t h
  refine .agg vs _ (by simpa using hn) hone (fun j v d hv hd=>?_)
  rw [List.getElem?_map] at hd
  obtain ⟨d',hd',rfl⟩:=Z20 hd
  exact (hrep j v d' hv hd').renE hp (hone j v hv)
 ·by_cases ht:∃ cs,d=.tup cs
  ·obtain ⟨cs,rfl⟩:=ht
   exact .undef v
  ·by_cases hu:d=.undef
   ·subst hu; exact .undef v
   ·have:=h.renE hp (Zqf h hu (fun cs e=>ha ⟨cs,e⟩) (fun cs e=>ht ⟨cs,e⟩))
    cases d <;> first|exact this|exact absurd ⟨_,rfl⟩ ha|exact absurd ⟨_,rfl⟩ ht
theorem Z03.ren {ps:List (Nat×Nat)} (hp:Z8o ps=true) {v:Value} {d:D} (h:Z03 w G β v d):Z03 w G (Z7c ps β) v (d.ren ps):=by
 cases d with
 | tup ds=>
  cases h with
  | tup vs _ hn hrep=>
   refine .tup vs _ (by simpa using hn) (fun j v d hv hd=>?_)
   rw [List.getElem?_map] at hd
   obtain ⟨d',hd',rfl⟩:=Z20 hd
   exact (hrep j v d' hv hd').renB hp
 | _=>exact h.renB hp
theorem Zxz (ps:List (Nat×Nat)) (σ:S):∀ (l:List Nat) (t:Nat),ofL (gcT ps σ l) t=(σ.tmps t).ren ps∨ofL (gcT ps σ l) t=.undef
 | [],t=> .inr rfl
 | u::r,t=>by
  unfold gcT ofL
  by_cases h:t=u
  ·subst h; simp
  ·rw [if_neg h]; exact Zxz ps σ r t
theorem Zow (qs:List (Nat×Nat)) (σ:S):∀ (ps:List (Nat×Nat)) {bl:List (Nat×Blk)},gcB qs σ ps=some bl→∀ u k,ofB bl u=some k↔∃ o k',Z6o ps u=some o∧σ.heap o=some k'∧k=k'.ren qs
 | [],bl,h,u,k=>by cases h; simp [ofB,Z6o]
 | (o, n)::r,bl,h,u,k=>by
  unfold gcB at h
  split at h
  ·rename_i k0 l h1 h2
   cases h
   unfold ofB Z6o
   by_cases e:u=n
   ·rw [if_pos e,if_pos e]
    constructor
    ·intro h; cases h; exact ⟨o,k0,rfl,h1,rfl⟩
    ·rintro ⟨o',k',h3,h4,rfl⟩; cases h3; rw [h1] at h4; cases h4; rfl
   ·rw [if_neg e,if_neg e]; exact Zow qs σ r h2 u k
  ·cases h
theorem Z04.gc (h:Z04 Γ σ a w G β) {keep:List Nat} {ps:List (Nat×Nat)} {l:List (Nat×D)} {bl:List (Nat×Blk)} (hg:gcL keep ps σ=some (l,bl)):Z04 Γ (mkS σ.n l bl) a w G (Z7c ps β):=by
 unfold gcL at hg
 split at hg
 ·rename_i hp
  split at hg
  ·rename_i bl' hb
   cases hg
   have hβ:∀ u x,Z7c ps β u=some x→∃ o,Z6o ps u=some o∧β o=some x:=fun u x hu=>by
    unfold Z7c at hu
    cases ho:Z6o ps u with
    | none=>rw [ho] at hu; cases hu
    | some o=>rw [ho] at hu; exact ⟨o,rfl,hu⟩
   refine ⟨h.defers,h.size,fun t=>?_,fun u k hu=>?_,fun u x hu=>?_,fun u u' c s s' hu hu'=>?_,h.kept,h.marks,h.fresh,h.big⟩
   ·show Z03 w G _ _ (ofL (gcT ps σ keep) t)
    rcases Zxz ps σ keep t with e|e
    ·rw [e]; exact (h.tmps t).ren hp
    ·rw [e]; exact .undef _
   ·obtain ⟨o,k',h1,h2,rfl⟩:=(Zow ps σ ps hb u k).1 hu
    have hsz:(Blk.ren ps k').sz=k'.sz:=by unfold Blk.ren; split <;> rfl
    rcases h.heap o k' h2 with ⟨h3,h4,h5⟩|⟨c,h3,hB⟩
    ·refine .inl ⟨by unfold Z7c; rw [h1]; exact h3,?_,?_⟩
     ·unfold Blk.ren; split
      ·exact h4
      ·simp [h4]
     ·unfold Blk.ren; split <;> exact h5
    ·refine .inr ⟨c,by unfold Z7c; rw [h1,hsz]; exact h3,?_⟩
     obtain ⟨own,pin,ty,frz,top,dat,hsz',vs,e,fr,e1,e2,e3,e4⟩:=hB
     unfold Blk.ren
     split
     ·rename_i hpu
      refine ⟨own,pin,ty,frz,top,dat,hsz',vs,e,fr,e1,e2,e3,fun i j r d hr hd=>?_⟩
      obtain ⟨v,a1,a2,a3⟩:=e4 i j r d hr hd
      exact ⟨v,a1,a2,a3.of_dat (fun _ _ _=>rfl) (fun _=>Nat.le_refl _) (dat hpu i j r d hr hd)⟩
     ·rename_i hpu
      refine ⟨own,pin,ty,frz,by simpa using top,(fun hp'=>by rw [hpu] at hp'; cases hp'),fun i r hr=>?_,vs,e,fr,e1,e2,by simpa using e3,fun i j r d hr hd=>?_⟩
      ·simp only [List.getElem?_map] at hr
       obtain ⟨r',hr',rfl⟩:=Z20 hr
       simpa using hsz' i r' hr'
      ·simp only [List.getElem?_map] at hr
       obtain ⟨r',hr',rfl⟩:=Z20 hr
       rw [List.getElem?_map] at hd
       obtain ⟨d',hd',rfl⟩:=Z20 hd
       obtain ⟨v,a1,a2,a3⟩:=e4 i j r' d' hr' hd'
       exact ⟨v,a1,a2,a3.renE hp a2⟩
   ·obtain ⟨o,h1,h2⟩:=hβ u x hu
    obtain ⟨k,hk⟩:=h.dom o x h2
    exact ⟨_,(Zow ps σ ps hb u _).2 ⟨o,k,h1,hk,rfl⟩⟩
   ·obtain ⟨o,h1,h2⟩:=hβ u _ hu
    obtain ⟨o',h1',h2'⟩:=hβ u' _ hu'
    have:=h.inj o o' c s s' h2 h2'
    subst this
    have e1:=(Zkb hp o u).2 h1
    have e2:=(Zkb hp o u').2 h1'
    rw [e1] at e2; cases e2; rfl
  ·cases hg
 ·cases hg
inductive Z4w where
 | tmp (t b sz:Nat)
 | cell (t i b sz:Nat)
 | blk (b0 o b sz:Nat) (ty:Option TypeId:=none)
 /-- of a slice in a cell of a block:that it has no room is forgotten -/
 | loose (b0 o:Nat)
 /-- .. of a slice in a temporary -/
 | tl (t:Nat)
def Zf5:D→Bool
 | .sl true [] =>true
 | _=>false
def Zcd (sz:Nat) (ty:Option TypeId:=none):Blk:={ sz,rows:=[],frz:=0,pure:=true,ty }
def S.conv1 (σ:S):Z4w→Option S
 | .tmp t b sz=>
  match σ.heap b with
  | none=>match Zf5 (σ.tmps t) with
   | true=>some { σ with tmps:=fun u=>if u=t then .lsl b 0 0 else σ.tmps u,heap:=fun u=>if u=b then some (Zcd sz) else σ.heap u }
   | false=>none
  | some _=>none
 | .cell t i b sz=>
  match σ.heap b,σ.tmps t with
  | none,.agg cs=>
   match cs[i]? with
   | some d=>match Zf5 d with
    | true=>some { σ with tmps:=fun u=>if u=t then .agg (cs.set i (.lsl b 0 0)) else σ.tmps u,heap:=fun u=>if u=b then some (Zcd sz) else σ.heap u }
    | false=>none
   | none=>none
  | _,_=>none
 | .blk b0 o b sz ty=>
  match σ.heap b,σ.heap b0 with
  | none,some k=>
   match k.pure,k.rows with
   | false,[r] =>
    match r[o]? with
    | some d=>match Zf5 d with
     | true=>some { σ with heap:=fun u=>if u=b then some (Zcd sz ty) else if u=b0 then some { k with rows:=[r.set o (.lsl b 0 0)] } else σ.heap u }
     | false=>none
    | none=>none
   | _,_=>none
  | _,_=>none
 | .loose b0 o=>
  match σ.heap b0 with
  | some k=>
   match k.rows with
   | [r] =>
    match r[o]? with
    | some (.sl _ rows)=>some { σ with heap:=fun u=>if u=b0 then some { k with rows:=[r.set o (.sl false rows)] } else σ.heap u }
    | _=>none
   | _=>none
  | none=>none
 | .tl t=>
  match σ.tmps t with
  | .sl _ rows=>some { σ with tmps:=fun u=>if u=t then .sl false rows else σ.tmps u }
  | _=>none
def S.conv (σ:S):List Z4w→Option S
 | [] =>some σ
 | x::l=>match σ.conv1 x with
  | some σ'=>σ'.conv l
  | none=>none
theorem Zph {v:Value} {d:D} (h:Z03 w G β v d) (hn:Zf5 d=true) (b:Nat):Z03 w G β v (.lsl b 0 0):=by
 unfold Zf5 at hn
 split at hn
 ·cases h with
  | slnil _ y=>exact .lslnil _ y
  | sl c b off n cap sz _ val hn hcc=>simp at hn; subst hn; rw [hcc rfl]; exact .lslnil _ _
 ·cases hn
theorem Y0j {v:Value} {c:Bool} {rows:List (List D)} (h:Z03 w G β v (.sl c rows)):Z03 w G β v (.sl false rows):=by
 cases h with
 | slnil _ x=>exact .slnil false x
 | sl c b off n cap sz rows val hn hcc hcap hsz himm hcell hone hdat hrep=>exact .sl false b off n cap sz _ val hn (fun h=>by cases h) hcap hsz himm hcell hone hdat hrep
theorem Z04.conv1 (h:Z04 Γ σ a w G β) {x:Z4w} (hx:σ.conv1 x=some σ'):Z04 Γ σ' a w G β:=by
 have none_of:∀ b,σ.heap b=none→β b=none:=fun b hb=>by
  cases hβ:β b with
  | none=>rfl
  | some x=>obtain ⟨k,hk⟩:=h.dom b x hβ; rw [hb] at hk; cases hk
 cases x with
 | tl t=>
  simp only [S.conv1] at hx
  split at hx
  ·rename_i c0 rows hd
   cases hx
   refine { h with tmps:=fun u=>?_ }
   dsimp only
   split
   ·rename_i hu; subst hu
    exact Y0j (hd ▸ h.tmps u)
   ·exact h.tmps u
  ·cases hx
 | tmp t b sz=>
  simp only [S.conv1] at hx
  split at hx
  ·rename_i hb
   split at hx
   ·rename_i hn
    cases hx
    have h1:=h.nameNil (blk:=Zcd sz) hb ⟨rfl,rfl⟩
    refine { h1 with tmps:=fun u=>?_ }
    dsimp only
    split
    ·rename_i hu; subst hu; exact Zph (h.tmps u) hn b
    ·exact h.tmps u
   ·cases hx
  ·cases hx
 | cell t i b sz=>
  simp only [S.conv1] at hx
  split at hx
  ·rename_i cs hb ht
   split at hx
   ·rename_i d hd
    split at hx
    ·rename_i hn
     cases hx
     have h1:=h.nameNil (blk:=Zcd sz) hb ⟨rfl,rfl⟩
     refine { h1 with tmps:=fun u=>?_ }
     dsimp only
     split
     ·rename_i hu; subst hu
      have h0:=h.tmps u
      rw [ht] at h0
      obtain ⟨vs,hv,hl,hone,hrep⟩:=Z4t h0
      rw [hv]
      refine .agg vs _ (by simpa using hl) hone (fun j v d' hj hd'=>?_)
      rw [List.getElem?_set] at hd'
      split at hd'
      ·rename_i hij; subst hij
       split at hd'
       ·cases hd'; exact Zph (hrep i v d hj hd) hn b
       ·cases hd'
      ·exact hrep j v d' hj hd'
     ·exact h.tmps u
    ·cases hx
   ·cases hx
  ·cases hx
 | blk b0 o b sz ty=>
  simp only [S.conv1] at hx
  split at hx
  ·rename_i k hb hk
   split at hx
   ·rename_i r hp hr
    split at hx
    ·rename_i d hd
     split at hx
     ·rename_i hn
      cases hx
      have h1:=h.nameNil (blk:=Zcd sz ty) hb ⟨rfl,rfl⟩
      have hbb:b0≠b:=by rintro rfl; rw [hb] at hk; cases hk
      refine { h1 with heap:=fun u blk hu=>?_,dom:=fun u x hu=>?_ }
      ·dsimp only at hu
       split at hu
       ·cases hu; rename_i hub; subst hub; exact .inl ⟨none_of u hb,rfl,rfl⟩
       ·split at hu
        ·rename_i hub; subst hub
         cases hu
         rcases h.heap u k hk with ⟨g0,g1,g2⟩|⟨c,g0,hB⟩
         ·rw [hr] at g1; cases g1
         ·refine .inr ⟨c,g0,?_⟩
          obtain ⟨own,pin,ty',frz,top,dat,hsz',vs,e,fr,e1,e2,e3,e4⟩:=hB
          rw [hr] at e3 hsz' e4 top
          refine ⟨own,pin,ty',frz,by simpa using top,(fun hp'=>by rw [hp] at hp'; cases hp'),(fun i r' hr'=>?_),vs,e,fr,e1,e2,by simpa using e3,(fun i j r' d' hr' hd'=>?_)⟩
          ·cases i with
           | zero=>simp at hr'; subst hr'; simpa using hsz' 0 r rfl
           | succ i=>simp at hr'
          ·cases i with
           | zero=>
            simp at hr'; subst hr'
            rw [List.getElem?_set] at hd'
            split at hd'
            ·rename_i hij; subst hij
             split at hd'
             ·cases hd'
              obtain ⟨v,a1,a2,a3⟩:=e4 0 o r d rfl hd
              exact ⟨v,a1,a2,Zph a3 hn b⟩
             ·cases hd'
            ·exact e4 0 j r d' rfl hd'
           | succ i=>simp at hr'
        ·exact h.heap u blk hu
      ·dsimp only
       split
       ·exact ⟨_,rfl⟩
       ·split
        ·exact ⟨_,rfl⟩
        ·exact h.dom u x hu
     ·cases hx
    ·cases hx
   ·cases hx
  ·cases hx
 | loose b0 o=>
  simp only [S.conv1] at hx
  split at hx
  ·rename_i k hk
   split at hx
   ·rename_i r hr
    split at hx
    ·rename_i c0 rows hd
     cases hx
     refine { h with heap:=fun u blk hu=>?_,dom:=fun u x hu=>?_ }
     ·dsimp only at hu
      split at hu
      ·rename_i hub; subst hub
       cases hu
       rcases h.heap u k hk with ⟨g0,g1,g2⟩|⟨c,g0,hB⟩
       ·rw [hr] at g1; cases g1
       ·refine .inr ⟨c,g0,?_⟩
        obtain ⟨own,pin,ty',frz,top,dat,hsz',vs,e,fr,e1,e2,e3,e4⟩:=hB
        rw [hr] at e3 hsz' e4 top dat
        refine ⟨own,pin,ty',frz,by simpa using top,(fun hp' i j r' d' hr' hd'=>?_),(fun i r' hr'=>?_),vs,e,fr,e1,e2,by simpa using e3,(fun i j r' d' hr' hd'=>?_)⟩
        ·cases i with
         | zero=>
          simp at hr'; subst hr'
          rw [List.getElem?_set] at hd'
          split at hd'
          ·split at hd'
           ·cases hd'; rfl
           ·cases hd'
          ·exact dat hp' 0 j r d' rfl hd'
         | succ i=>simp at hr'
        ·cases i with
         | zero=>simp at hr'; subst hr'; simpa using hsz' 0 r rfl
         | succ i=>simp at hr'
        ·cases i with
         | zero=>
          simp at hr'; subst hr'
          rw [List.getElem?_set] at hd'
          split at hd'
          ·rename_i hij; subst hij
           split at hd'
           ·cases hd'
            obtain ⟨v,a1,a2,a3⟩:=e4 0 o r _ rfl hd
            refine ⟨v,a1,a2,?_⟩
            cases a3 with
            | slnil _ x=>exact .slnil false x
            | sl c b off n cap sz rows val hn hcc hcap hsz himm hcell hone hdat hrep=>exact .sl false b off n cap sz _ val hn (fun h=>by cases h) hcap hsz himm hcell hone hdat hrep
           ·cases hd'
          ·exact e4 0 j r d' rfl hd'
         | succ i=>simp at hr'
      ·exact h.heap u blk hu
     ·dsimp only
      split
      ·exact ⟨_,rfl⟩
      ·exact h.dom u x hu
    ·cases hx
   ·cases hx
  ·cases hx
theorem Z04.conv:∀ (l:List Z4w) {σ σ':S},Z04 Γ σ a w G β→σ.conv l=some σ'→Z04 Γ σ' a w G β
 | [],σ,σ',h,hx=>by cases hx; exact h
 | x::l,σ,σ',h,hx=>by
  unfold S.conv at hx
  split at hx
  ·rename_i σ1 h1; exact Z04.conv l (h.conv1 h1) hx
  ·cases hx
def Z59 (cv:List Z4w) (keep:List Nat) (ps:List (Nat×Nat)) (σ:S):Option (List (Nat×D)×List (Nat×Blk)):=
 match σ.conv cv with
 | some σ'=>gcL keep ps σ'
 | none=>none
end Go.Den
