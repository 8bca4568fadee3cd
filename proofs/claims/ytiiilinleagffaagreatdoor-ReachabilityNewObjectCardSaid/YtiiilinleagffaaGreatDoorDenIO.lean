/-
  Calls that work on blocks of the caller.
-/
import Derived.Test.YtiiilinleagffaaGreatDoorDenWrite
set_option linter.unusedVariables false
set_option linter.unusedSimpArgs false
namespace Go.Den
open Go.RowKit
variable {P:Program} {Γ:Ctx} {σ:S} {a:Act} {w w':World} {G G':Nat→Nat} {β β':Nat→Option (Nat×Nat)} {ρ:List Nat}
theorem Z29:∀ {ρ:List Nat} {b k:Nat},V9 b ρ=some k→ρ[k]?=some b
 | [],_,_,h=>by cases h
 | x :: r,b,k,h=>by
  unfold V9 at h
  split at h
  ·rename_i hx; cases h; simpa using (eq_of_beq hx).symm
  ·split at h
   ·rename_i j hj; cases h; simpa using Z29 hj
   ·cases h
theorem Z7d:∀ {ρ:List Nat} {b k:Nat},Ut ρ=true→ρ[k]?=some b→V9 b ρ=some k
 | [],_,_,_,h=>by simp at h
 | x :: r,b,k,hd,h=>by
  unfold Ut at hd
  rw[Bool.and_eq_true] at hd
  cases k with
  | zero=>simp at h; subst h; simp[V9]
  | succ k=>
   simp at h
   have ih:=Z7d hd.2 h
   have hne:b≠x:=by
    rintro rfl
    rw[ih] at hd
    exact absurd hd.1 (by simp)
   have:(b==x)=false:=by simpa using hne
   simp only[V9,this,ih]
def Wv (ρ:List Nat) (β:Nat→Option (Nat×Nat)):Nat→Option (Nat×Nat):=λk=>(ρ[k]?).bind β
theorem Z7z {k:Nat} {x:Nat×Nat} (h:Wv ρ β k=some x):∃ b,ρ[k]?=some b∧β b=some x:=by
 unfold Wv at h
 cases hb:ρ[k]? with
 | none=>rw[hb] at h; cases h
 | some b=>rw[hb] at h; exact⟨b,rfl,h⟩
theorem Z8e {k b:Nat} (h:ρ[k]?=some b):Wv ρ β k=β b:=by unfold Wv; rw[h]; rfl
theorem Z9.inA {v:Value} {d d':D} (h:Z9 w G β v d) (hi:inA ρ d=some d'):Z9 w G (Wv ρ β) v d':=by
 have hdat:∀ d,Z9 w G β v d→d.dat=true→Z9 w G (Wv ρ β) v d:=λd h hd=>h.of_dat (λ_ _ _=>rfl) (λ_=>Nat.le_refl _) hd
 cases d with
 | lptr b i o=>
  simp only[Den.inA] at hi
  split at hi
  ·rename_i k hk
   cases hi
   cases h with
   | lptr _ _ _ c sz hβ=>exact .lptr k i o c sz (by rw[Z8e (Z29 hk),hβ])
  ·cases hi
 | lsl b lo n=>
  simp only[Den.inA] at hi
  split at hi
  ·rename_i k hk
   cases hi
   cases h with
   | lslnil _ x=>exact .lslnil k x
   | lsl _ _ _ cap c sz off hβ hcap hoff hroom=>exact .lsl k lo n cap c sz off (by rw[Z8e (Z29 hk),hβ]) hcap hoff hroom
  ·cases hi
 | undef=>cases hi; exact .undef v
 | agg cs=>simp[Den.inA,D.dat] at hi
 | tup cs=>simp[Den.inA,D.dat] at hi
 | clo f bs=>simp[Den.inA,D.dat] at hi
 | lsk f b lo n=>simp[Den.inA,D.dat] at hi
 | _=>simp only[Den.inA,D.dat] at hi; cases hi; exact hdat _ h rfl
theorem Zm4:∀ {l l':List D},inL ρ l=some l'→l'.length=l.length∧∀ (j:Nat) d',l'[j]?=some d'→∃ d,l[j]?=some d∧inA ρ d=some d'
 | [],l',h=>by cases h; exact⟨rfl,λj d' h=>by simp at h⟩
 | d :: r,l',h=>by
  unfold inL at h
  split at h
  ·rename_i x y hx hy
   cases h
   obtain⟨h1,h2⟩:=Zm4 hy
   refine⟨by simp[h1],λj d' hd'=>?_⟩
   cases j with
   | zero=>simp at hd'; subst hd'; exact⟨d,rfl,hx⟩
   | succ j=>simp at hd'; simpa using h2 j d' hd'
  ·cases h
theorem Zkd:∀ {l l':List (List D)},inR ρ l=some l'→l'.length=l.length∧∀ (j:Nat) d',l'[j]?=some d'→∃ d,l[j]?=some d∧inL ρ d=some d'
 | [],l',h=>by cases h; exact⟨rfl,λj d' h=>by simp at h⟩
 | d :: r,l',h=>by
  unfold inR at h
  split at h
  ·rename_i x y hx hy
   cases h
   obtain⟨h1,h2⟩:=Zkd hy
   refine⟨by simp[h1],λj d' hd'=>?_⟩
   cases j with
   | zero=>simp at hd'; subst hd'; exact⟨d,rfl,hx⟩
   | succ j=>simp at hd'; simpa using h2 j d' hd'
  ·cases h
theorem Zge {pin:Option Nat} {blk blk':Blk} (h:inB ρ pin blk=some blk'):blk'.sz=blk.sz∧blk'.frz=blk.frz∧blk'.pin=pin∧(blk.rows=[]→blk'.rows=[]):=by
 unfold inB at h
 split at h
 ·cases h; exact⟨rfl,rfl,rfl,id⟩
 ·split at h
  ·rename_i rows hr
   cases h
   refine⟨rfl,rfl,rfl,λh0=>?_⟩
   have:=(Zkd hr).1
   rw[h0] at this
   exact List.eq_nil_of_length_eq_zero this
  ·cases h
theorem Va.into {Γ':Ctx} {c:Nat} {blk blk':Blk} {pin:Option Nat} (hB:Va w G β Γ c blk) (h:inB ρ pin blk=some blk') (hown:Γ'.B≤c∨Γ'.X c) (hpin:∀ k,pin=some k→Γ'.pin k=c):
  Va w G (Wv ρ β) Γ' c blk':=by
 obtain⟨own,pin',ty,frz,top,dat,hsz,vs,e,fr,h1,h2,h3,h4⟩:=hB
 unfold inB at h
 split at h
 ·rename_i hp
  cases h
  exact ⟨hown,hpin,ty,frz,top,dat,hsz,vs,e,fr,h1,h2,h3,λi j r d hr hd=>by
   obtain⟨v,a1,a2,a3⟩:=h4 i j r d hr hd
   exact⟨v,a1,a2,a3.of_dat (λ_ _ _=>rfl) (λ_=>Nat.le_refl _) (dat hp i j r d hr hd)⟩⟩
 ·rename_i hp
  split at h
  ·rename_i rows hr
   cases h
   obtain⟨k1,k2⟩:=Zkd hr
   refine⟨hown,hpin,ty,frz,by simpa [k1] using top,(λhp'=>by rw[hp] at hp'; cases hp'),(λi r' hr'=>?_),vs,e,fr,h1,h2,by simpa [k1] using h3,(λi j r' d' hr' hd'=>?_)⟩
   ·obtain⟨r,e1,e2⟩:=k2 i r' hr'
    rw[(Zm4 e2).1]; exact hsz i r e1
   ·obtain⟨r,e1,e2⟩:=k2 i r' hr'
    obtain⟨d,e3,e4⟩:=(Zm4 e2).2 j d' hd'
    obtain⟨v,a1,a2,a3⟩:=h4 i j r d e1 e3
    exact⟨v,a1,a2,a3.inA e4⟩
  ·cases h
theorem inRef_A {d d':D} (h:inRef ρ d=some d'):inA ρ d=some d':=by
 cases d <;> simp only[inRef] at h <;> first|(cases h; done)|(cases h; rfl)|skip
 all_goals
  simp only[Den.inA]
  split at h
  ·cases h; rename_i hk; simp only[hk]
  ·cases h
theorem Zm8 (h:Za Γ σ a w G β) {kp:Bool}:∀ {ds ds':List D} {l:List Nat} {p:Prop},U0 kp σ ρ ds=some (ds',l,p)→p→(∀ b∈l,Lo σ G β b)→ds'.length=ds.length∧
  ∀ (j:Nat) v d d',Z9 w G β v d→ds[j]?=some d→ds'[j]?=some d'→Z9 w G (Wv ρ β) v d'
 | [],ds',l,p,hd,hp,hf=>by cases hd; exact⟨rfl,λj v d d' _ h=>by simp at h⟩
 | x :: r,ds',l,p,hd,hp,hf=>by
  unfold U0 at hd
  split at hd
  ·rename_i y hy
   split at hd
   ·rename_i y' l' q hq
    cases hd
    obtain⟨k1,k3⟩:=Zm8 h hq hp hf
    refine⟨by simp[k1],λj v d d' hv hd hd'=>?_⟩
    cases j with
    | zero=>simp at hd hd'; subst hd hd'; exact hv.inA (inRef_A hy)
    | succ j=>simp at hd hd'; exact k3 j v d d' hv hd hd'
   ·cases hd
  ·split at hd
   ·rename_i d1 l1 p1 r1 l2 p2 e1 e2
    cases hd
    obtain⟨k1,k3⟩:=Zm8 h e2 hp.2 (λb hb=>hf b (by simp[hb]))
    refine⟨by simp[k1],λj v d d' hv hd hd'=>?_⟩
    cases j with
    | zero=>simp at hd hd'; subst hd hd'; exact(Y0g h hv e1 hp.1 (λb hb=>hf b (by simp[hb]))).mono (λ_ _ _=>rfl) (λ_=>Nat.le_refl _) (λb x hx=>by cases hx) (.refl w)
    | succ j=>simp at hd hd'; exact k3 j v d d' hv hd hd'
   ·cases hd
theorem Zls {kp:Bool} {σ σ':S} (h:Je σ σ'):∀ ds,U0 kp σ' ρ ds=U0 kp σ ρ ds
 | [] =>rfl
 | d::r=>by unfold U0; rw[Zzi h,Zls h r]
theorem Zuq (h:Za Γ σ a w G β) {kp:Bool} {ds ds':List D} {l:List Nat} {p:Prop} (hd:U0 kp σ ρ ds=some (ds',l,p)) (hp:p):
  ∃ G',Za Γ (σ.freezeL l) a w G' β∧(∀ k,G k≤G' k)∧ds'.length=ds.length∧∀ (j:Nat) v d d',Z9 w G β v d→ds[j]?=some d→ds'[j]?=some d'→Z9 w G' (Wv ρ β) v d':=by
 obtain⟨G',h1,h2,h3⟩:=Za.freezeL l h
 rw[← Zls (Zjg l σ)] at hd
 obtain⟨k1,k2⟩:=Zm8 h1 hd hp (λb hb=>Zs5 l (h3 b hb))
 exact⟨G',h1,h2,k1,λj v d d' hv=>k2 j v d d' (hv.mono (λ_ _ _=>rfl) h2 (λ_ _ h=>h) (.refl w))⟩
theorem Zm7 {mark:Option Nat→Nat→Option Nat}:∀ {j0:Nat} {ρ':List Nat} {bs:List Blk},Jk σ ρ mark j0 ρ'=some bs→bs.length=ρ'.length∧
  ∀ k b,ρ'[k]?=some b→∃ blk blk',σ.heap b=some blk∧bs[k]?=some blk'∧inB ρ (mark blk.pin (j0+k)) blk=some blk'
 | j0,[],bs,h=>by cases h; exact⟨rfl,λk b h=>by simp at h⟩
 | j0, b0::r,bs,h=>by
  unfold Jk at h
  split at h
  ·rename_i k0 hk0
   split at h
   ·rename_i x y hx hy
    cases h
    obtain⟨h1,h2⟩:=Zm7 hy
    refine⟨by simp[h1],λk b hb=>?_⟩
    cases k with
    | zero=>simp at hb; subst hb; exact⟨k0,x,hk0,rfl,hx⟩
    | succ k=>
     simp at hb
     obtain⟨blk,blk',e1,e2,e3⟩:=h2 k b hb
     exact⟨blk,blk',e1,by simpa using e2,by rw[← e3,show j0+(k+1)=j0+1+k by omega]⟩
   ·cases h
  ·cases h
theorem Zmo:∀ (bs:List Blk) (i t:Nat),ofB (W2 i bs) t=if i≤t then bs[t - i]? else none
 | [],i,t=>by simp[W2,ofB]
 | d :: r,i,t=>by
  unfold W2 ofB
  rw[Zmo r (i+1) t]
  by_cases h:t=i
  ·subst h; simp
  ·rw[if_neg h]
   by_cases h2:i≤t
   ·rw[if_pos (by omega),if_pos h2,show t - i=(t - (i+1))+1 by omega]; rfl
   ·rw[if_neg (by omega),if_neg h2]
theorem Zdk (bs:List Blk) (t:Nat):ofB (W2 0 bs) t=bs[t]? :=by rw[Zmo,if_pos (Nat.zero_le _),Nat.sub_zero]
theorem Z3t:∀ (ds:List D) (i t:Nat),ofL (Ve i ds) t=if i≤t then ds.getD (t - i) .undef else .undef
 | [],i,t=>by simp[Ve,ofL]
 | d :: r,i,t=>by
  unfold Ve ofL
  rw[Z3t r (i+1) t]
  by_cases h:t=i
  ·subst h; simp
  ·rw[if_neg h]
   by_cases h2:i≤t
   ·rw[if_pos (by omega),if_pos h2,show t - i=(t - (i+1))+1 by omega]; rfl
   ·rw[if_neg (by omega),if_neg h2]
theorem Za.enter {mark:Option Nat→Nat→Option Nat} (h:Za Γ σ a w G β) (hd:Ut ρ=true) {bs:List Blk} (hb:Jk σ ρ mark 0 ρ=some bs) {Γ':Ctx} (hΓ:Γ'.B≤w.heap.size)
  (own':∀ k c s,Wv ρ β k=some (c,s)→Γ'.B≤c∨Γ'.X c)
  (pin':∀ k b blk c s i,ρ[k]?=some b→σ.heap b=some blk→Wv ρ β k=some (c,s)→mark blk.pin k=some i→Γ'.pin i=c)
  (kept:Jf Γ'.B Γ'.X Γ'.w0 w) (marks:∀ c,c<Γ'.B→ ¬ Γ'.X c→G c=Γ'.G0 c) {vs:Array Value} {ds:List D} (hn:ds.length=vs.size)
  (hv:∀ (j:Nat) v d,vs[j]?=some v→ds[j]?=some d→Z9 w G (Wv ρ β) v d):
  Za Γ' (mkS ds.length (Ve 0 ds) (W2 0 bs)) { tmps:=vs,defers:=[] } w G (Wv ρ β):=by
 obtain⟨hl,hg⟩:=Zm7 hb
 refine⟨rfl,hn.symm,λt=>?_,λk blk' hk=>?_,λk x hx=>?_,λk k' c s s' hk hk'=>?_,kept,marks,h.fresh,hΓ,h.glob⟩
 ·show Z9 w G _ _ (ofL (Ve 0 ds) t)
  rw[Z3t,if_pos (Nat.zero_le _),Nat.sub_zero]
  rcases Nat.lt_or_ge t ds.length with ht|ht
  ·have ht':t<vs.size:=by omega
   have e1:ds.getD t .undef=ds[t] :=by simp[List.getD,List.getElem?_eq_getElem ht]
   have e2:vs.getD t Go.undef=vs[t] :=by simp[Array.getD_eq_getD_getElem?,Array.getElem?_eq_getElem ht']
   show Z9 w G _ (vs.getD t Go.undef) _
   rw[e1,e2]
   exact hv t _ _ (Array.getElem?_eq_getElem ht') (List.getElem?_eq_getElem ht)
  ·have e1:ds.getD t .undef=.undef:=by simp[List.getD,List.getElem?_eq_none ht]
   rw[e1]; exact .undef _
 ·have hk':bs[k]?=some blk':=by rw[← Zdk]; exact hk
  have hlt:k<ρ.length:=by
   rcases Nat.lt_or_ge k bs.length with h'|h'
   ·omega
   ·rw[List.getElem?_eq_none h'] at hk'; cases hk'
  obtain⟨blk,blk2,e1,e2,e3⟩:=hg k ρ[k] (List.getElem?_eq_getElem hlt)
  rw[hk'] at e2; cases e2
  rw[Nat.zero_add] at e3
  obtain⟨s1,s2,s3,s4⟩:=Zge e3
  have hpre:Wv ρ β k=β ρ[k] :=Z8e (List.getElem?_eq_getElem hlt)
  rcases h.heap _ blk e1 with ⟨h0,h1,h2⟩|⟨c,h0,hB⟩
  ·exact .inl ⟨hpre.trans h0,s4 h1,s2.trans h2⟩
  ·refine .inr ⟨c,by rw[hpre,h0,s1],hB.into e3 (own' k c _ (hpre.trans h0)) λi hi=>pin' k _ blk c _ i (List.getElem?_eq_getElem hlt) e1 (hpre.trans h0) hi⟩
 ·obtain⟨b,e1,e2⟩:=Z7z hx
  obtain⟨blk,blk',-,f2,-⟩:=hg k b e1
  exact⟨blk',by show ofB (W2 0 bs) k=_; rw[Zdk]; exact f2⟩
 ·obtain⟨b,e1,e2⟩:=Z7z hk
  obtain⟨b',e1',e2'⟩:=Z7z hk'
  obtain rfl:=h.inj b b' c s s' e2 e2'
  have:=(Z7d hd e1).symm.trans (Z7d hd e1')
  simpa using this
theorem Z9.outA {β3:Nat→Option (Nat×Nat)} (hout:∀ k b,ρ[k]?=some b→β3 b=β k) {v:Value} {d:D} (h:Z9 w G β v d):Z9 w G β3 v (outA ρ d):=by
 cases d with
 | lptr k i o=>
  simp only[Den.outA]
  split
  ·rename_i b hb
   cases h with
   | lptr _ _ _ c sz hβ=>exact .lptr b i o c sz ((hout k b hb).trans hβ)
  ·exact .undef v
 | lsl k lo n=>
  simp only[Den.outA]
  split
  ·rename_i b hb
   cases h with
   | lslnil _ x=>exact .lslnil b x
   | lsl _ _ _ cap c sz off hβ hcap hoff hroom=>exact .lsl b lo n cap c sz off ((hout k b hb).trans hβ) hcap hoff hroom
  ·exact .undef v
 | agg cs=>exact .undef v
 | tup cs=>exact .undef v
 | undef=>exact .undef v
 | clo f bs=>exact .undef v
 | lsk f b lo n=>exact .undef v
 | _=>exact h.of_dat (λ_ _ _=>rfl) (λ_=>Nat.le_refl _) rfl
theorem Z9.outE {β3:Nat→Option (Nat×Nat)} (hout:∀ k b,ρ[k]?=some b→β3 b=β k) {v:Value} {d:D} (h:Z9 w G β v d):Z9 w G β3 v (outE ρ d):=by
 cases d with
 | agg cs=>
  obtain⟨vs,rfl,hn,hone,hrep⟩:=Jd h
  refine .agg vs _ (by simpa using hn) hone (λj v d hv hd=>?_)
  rw[List.getElem?_map] at hd
  obtain⟨d',hd',rfl⟩:=Xt hd
  exact(hrep j v d' hv hd').outA hout
 | _=>exact h.outA hout
theorem Z9.outD {β3:Nat→Option (Nat×Nat)} (hout:∀ k b,ρ[k]?=some b→β3 b=β k) {v:Value} {d:D} (h:Z9 w G β v d):Z9 w G β3 v (outD ρ d):=by
 cases d with
 | tup ds=>
  cases h with
  | tup vs _ hn hrep=>
   refine .tup vs _ (by simpa using hn) (λj v d hv hd=>?_)
   rw[List.getElem?_map] at hd
   obtain⟨d',hd',rfl⟩:=Xt hd
   exact(hrep j v d' hv hd').outE hout
 | _=>exact h.outE hout
theorem Va.out {Γ':Ctx} {β3:Nat→Option (Nat×Nat)} (hout:∀ k b,ρ[k]?=some b→β3 b=β k) {c:Nat} {blk:Blk} {pin:Option Nat} (hB:Va w G β Γ' c blk) (hown:Γ.B≤c∨Γ.X c) (hpin:∀ k,pin=some k→Γ.pin k=c):
  Va w G β3 Γ c (Mq ρ pin blk):=by
 obtain⟨own,pin',ty,frz,top,dat,hsz,vs,e,fr,h1,h2,h3,h4⟩:=hB
 unfold Mq
 split
 ·rename_i hp
  exact ⟨hown,hpin,ty,frz,top,dat,hsz,vs,e,fr,h1,h2,h3,λi j r d hr hd=>by
   obtain⟨v,a1,a2,a3⟩:=h4 i j r d hr hd
   exact⟨v,a1,a2,a3.of_dat (λ_ _ _=>rfl) (λ_=>Nat.le_refl _) (dat hp i j r d hr hd)⟩⟩
 ·rename_i hp
  refine⟨hown,hpin,ty,frz,by simpa using top,(λhp'=>by rw[hp] at hp'; cases hp'),(λi r hr=>?_),vs,e,fr,h1,h2,by simpa using h3,(λi j r d hr hd=>?_)⟩
  ·simp only[List.getElem?_map] at hr
   obtain⟨r',hr',rfl⟩:=Xt hr
   simpa using hsz i r' hr'
  ·simp only[List.getElem?_map] at hr
   obtain⟨r',hr',rfl⟩:=Xt hr
   rw[List.getElem?_map] at hd
   obtain⟨d',hd',rfl⟩:=Xt hd
   obtain⟨v,a1,a2,a3⟩:=h4 i j r' d' hr' hd'
   exact⟨v,a1,a2,a3.outA hout⟩
theorem Y05 (ρ:List Nat) (pin:Option Nat) (blk:Blk):(Mq ρ pin blk).sz=blk.sz∧(Mq ρ pin blk).frz=blk.frz∧(blk.rows=[]→(Mq ρ pin blk).rows=[]):=by
 unfold Mq
 split
 ·exact⟨rfl,rfl,id⟩
 ·exact⟨rfl,rfl,λh=>by simp[h]⟩
theorem Za.leave {β1 β2:Nat→Option (Nat×Nat)} {G2:Nat→Nat} (h1:Za Γ σ a w G β1) (hd:Ut ρ=true) {Γ':Ctx} {r:D} {bs' bs2:List Blk} {v:Value}
  (h2:Za Γ' (mkS 1 [(0,r)] (W2 0 bs')) { tmps:=#[v],defers:=[] } w' G2 β2) (hB:Γ'.B=w.heap.size) (hw:Γ'.w0=w) (hG:Γ'.G0=G)
  (hX:∀ c,Γ'.X c→c<w.heap.size∧(Γ.B≤c∨Γ.X c)∧G c=0)
  (hfree:∀ b c s,β1 b=some (c,s)→V9 b ρ=none→ ¬ Γ'.X c)
  (hkeep:∀ b k x,V9 b ρ=some k→β1 b=some x→β2 k=some x)
  (hbs:∀ b k blk',V9 b ρ=some k→bs2[k]?=some blk'→∃ blk pin,bs'[k]?=some blk∧blk'=Mq ρ pin blk∧∀ i c s,pin=some i→β2 k=some (c,s)→Γ.pin i=c)
  (hlen:∀ (b k:Nat) (blk:Blk),V9 b ρ=some k→bs'[k]?=some blk→∃ blk':Blk,bs2[k]?=some blk'):
  ∃ β3,Za Γ (σ.setL ρ bs2) a w' G2 β3∧Z9 w' G2 β3 v (outD ρ r):=by
 let β3:Nat→Option (Nat×Nat):=λb=>match V9 b ρ with
  | some k=>β2 k
  | none=>β1 b
 have b3in:∀ {b k},V9 b ρ=some k→β3 b=β2 k:=λ{b k} h=>by simp only[β3,h]
 have b3out:∀ {b},V9 b ρ=none→β3 b=β1 b:=λ{b} h=>by simp only[β3,h]
 have hout:∀ k b,ρ[k]?=some b→β3 b=β2 k:=λk b h=>b3in (Z7d hd h)
 have hk2:=h2.kept
 rw[hB,hw] at hk2
 have hgone:∀ c,¬ c<w.heap.size→ ¬ Γ'.X c:=λc hc hx=>hc (hX c hx).1
 have hG2:∀ c,c<w.heap.size→ ¬ Γ'.X c→G2 c=G c:=λc hc hx=>by rw[h2.marks c (by rw[hB]; exact hc) hx,hG]
 have hcell:∀ b o,o<G b→w'.cell? ⟨b,o,none⟩=w.cell? ⟨b,o,none⟩:=λb o ho=>by
  refine Kx (hk2.block b (h1.marksLt ho) λhx=>?_) o
  have:=(hX b hx).2.2
  omega
 have hGle:∀ b,G b≤G2 b:=λb=>by
  by_cases hb:b<w.heap.size
  ·by_cases hx:Γ'.X b
   ·rw[(hX b hx).2.2]; exact Nat.zero_le _
   ·rw[hG2 b hb hx]; exact Nat.le_refl _
  ·rw[h1.fresh b (by omega)]; exact Nat.zero_le _
 have hβ:∀ b x,β1 b=some x→β3 b=some x:=λb x hx=>by
  cases hi:V9 b ρ with
  | some k=>rw[b3in hi]; exact hkeep b k x hi hx
  | none=>rw[b3out hi]; exact hx
 have hs:J8 w w':=hk2.same
 have heap2:∀ k,(mkS 1 [(0,r)] (W2 0 bs')).heap k=bs'[k]? :=λk=>Zdk bs' k
 have hlt1:∀ {b c s},β1 b=some (c,s)→c<w.heap.size∧∃ blk,σ.heap b=some blk∧Va w G β1 Γ c blk∧s=blk.sz:=λ{b c s} hb=>by
  obtain⟨blk,hk⟩:=h1.dom b _ hb
  obtain⟨e,hBr⟩:=h1.blk hk hb
  exact⟨hBr.lt,blk,hk,hBr,e⟩
 have own2:∀ {k c s},β2 k=some (c,s)→(w.heap.size≤c∨Γ'.X c):=λ{k c s} hb=>by
  obtain⟨blk,hk⟩:=h2.dom k _ hb
  obtain⟨-,hBr⟩:=h2.blk hk hb
  rw[← hB]; exact hBr.own
 refine⟨β3,⟨h1.defers,h1.size,λt=>(h1.tmps t).mono hcell hGle hβ hs,λu blk hu=>?_,λu x hu=>?_,λu u' c s s' hu hu'=>?_,h1.kept.trans ⟨hk2.os,hk2.tape,hk2.output,hk2.size,λk hk hx=>hk2.block k (Nat.lt_of_lt_of_le hk h1.big) λhx'=>(hX k hx').2.1.elim (λh=>by omega) hx,hs⟩,λc hc hx=>?_,h2.fresh,Nat.le_trans h1.big hk2.size,h2.glob⟩,?_⟩
 ·simp only[S.setL] at hu
  split at hu
  ·rename_i k hk
   obtain⟨blk0,pin,e1,rfl,e3⟩:=hbs u k blk hk hu
   obtain⟨s1,s2,s3⟩:=Y05 ρ pin blk0
   rcases h2.heap k blk0 ((heap2 k).trans e1) with ⟨g0,g1,g2⟩|⟨c,g0,hBr⟩
   ·exact .inl ⟨(b3in hk).trans g0,s3 g1,s2.trans g2⟩
   ·refine .inr ⟨c,by rw[b3in hk,g0,s1],hBr.out hout ?_ λi hi=>e3 i c _ hi g0⟩
    rcases own2 g0 with h|h
    ·exact .inl (Nat.le_trans h1.big h)
    ·exact(hX c h).2.1
  ·rename_i hk
   rcases h1.heap u blk hu with ⟨g0,g1⟩|⟨c,g0,hBr⟩
   ·exact .inl ⟨(b3out hk).trans g0,g1⟩
   ·have hx:=hfree u c _ g0 hk
    exact .inr ⟨c,(b3out hk).trans g0,hBr.mono hcell hGle (hG2 c hBr.lt hx) hβ hs (hk2.block c hBr.lt hx)⟩
 ·simp only[S.setL]
  cases hk:V9 u ρ with
  | some k=>
   rw[b3in hk] at hu
   obtain⟨blk,hb⟩:=h2.dom k x hu
   rw[heap2] at hb
   exact hlen u k blk hk hb
  | none=>
   rw[b3out hk] at hu
   exact h1.dom u x hu
 ·cases hk:V9 u ρ with
  | some k=>
   rw[b3in hk] at hu
   cases hk':V9 u' ρ with
   | some k'=>
    rw[b3in hk'] at hu'
    obtain rfl:=h2.inj k k' c s s' hu hu'
    have:=(Z29 hk).symm.trans (Z29 hk')
    simpa using this
   | none=>
    rw[b3out hk'] at hu'
    have hlt:=(hlt1 hu').1
    rcases own2 hu with h|h
    ·omega
    ·exact absurd h (hfree u' c s' hu' hk')
  | none=>
   rw[b3out hk] at hu
   cases hk':V9 u' ρ with
   | some k'=>
    rw[b3in hk'] at hu'
    have hlt:=(hlt1 hu).1
    rcases own2 hu' with h|h
    ·omega
    ·exact absurd h (hfree u c s hu hk)
   | none=>
    rw[b3out hk'] at hu'
    exact h1.inj u u' c s s' hu hu'
 ·have hc':=Nat.lt_of_lt_of_le hc h1.big
  rw[hG2 c hc' λhx'=>(hX c hx').2.1.elim (λh=>by omega) hx]
  exact h1.marks c hc hx
 ·have:=h2.tmps 0
  exact this.outD hout
theorem Za.dropL:∀ (l:List Nat) {σ:S} {β:Nat→Option (Nat×Nat)},Za Γ σ a w G β→∃ β1,Za Γ (σ.dropL l) a w G β1∧∀ b x,β1 b=some x→β b=some x∧b ∉ l
 | [],σ,β,h=>⟨β,h,λb x hx=>⟨hx,by simp⟩⟩
 | u::l,σ,β,h=>by
  obtain⟨β1,h1,h2⟩:=Za.dropL l (h.drop u)
  refine⟨β1,h1,λb x hx=>?_⟩
  obtain⟨e1,e2⟩:=h2 b x hx
  unfold upd at e1
  split at e1
  ·cases e1
  ·rename_i hne; exact⟨e1,by simp[hne,e2]⟩
theorem Zon:∀ (l:List Nat) (σ:S),(σ.dropL l).n=σ.n
 | [],_=>rfl
 | b::l,σ=>Zon l (σ.drop b)
theorem Za.nilL:∀ (l:List (Nat×Nat)) {σ σ':S},Za Γ σ a w G β→σ.nilL l=some σ'→Za Γ σ' a w G β∧σ'.tmps=σ.tmps∧σ'.n=σ.n
 | [],σ,σ',h,hs=>by cases hs; exact⟨h,rfl,rfl⟩
 | (b,sz)::l,σ,σ',h,hs=>by
  unfold S.nilL at hs
  split at hs
  ·rename_i hb
   obtain⟨h1,h2,h3⟩:=Za.nilL l (h.nameNil (blk:={ sz,rows:=[],frz:=0,pure:=true }) hb ⟨rfl,rfl⟩) hs
   exact⟨h1,h2,h3⟩
  ·cases hs
theorem Zr4 (l:List (Nat×Nat)):∀ (ds:List D) (j0:Nat),(Jt l j0 ds).length=ds.length∧∀ (j:Nat) v d,Z9 w G β v d→ds[j]?=some d→∃ d',(Jt l j0 ds)[j]?=some d'∧Z9 w G β v d'
 | [],j0=>⟨rfl,λj v d _ h=>by simp at h⟩
 | x :: r,j0=>by
  obtain⟨h1,h2⟩:=Zr4 l r (j0+1)
  refine⟨by simp[Jt,h1],λj v d hv hd=>?_⟩
  cases j with
  | zero=>
   simp at hd; subst hd
   refine⟨_,rfl,?_⟩
   split
   ·split
    ·cases hv with
     | slnil _ y=>exact .lslnil _ y
     | sl c b off n cap sz _ val hn hcc=>simp at hn; subst hn; rw[hcc rfl]; exact .lslnil _ _
    ·exact hv
   ·exact hv
  | succ j=>
   simp at hd
   obtain⟨d',e1,e2⟩:=h2 j v d hv hd
   exact⟨d',by simpa [Jt] using e1,e2⟩
theorem Zxg {bs:List Blk} {j i:Nat} (h:Z0r bs j=some i):i=j:=by
 unfold Z0r at h
 repeat' split at h
 all_goals first|(cases h; rfl)|(cases h; done)
theorem Zp0:∀ {j0:Nat} {ρ:List Nat} {bs:List Blk} {k b:Nat} {blk:Blk},ρ[k]?=some b→bs[k]?=some blk→b ∉ Kn j0 ρ bs→Z18 (j0+k) blk=true
 | j0,[],bs,k,b,blk,h,_,_=>by simp at h
 | j0,x::r,[],k,b,blk,_,h,_=>by simp at h
 | j0,x::r,y::l,k,b,blk,h1,h2,h3=>by
  unfold Kn at h3
  cases k with
  | zero=>
   simp at h1 h2; subst h1 h2
   rcases Bool.eq_false_or_eq_true (Z18 j0 y) with hk|hk
   ·exact hk
   ·rw[hk] at h3; simp at h3
  | succ k=>
   simp at h1 h2
   rw[show j0+(k+1)=j0+1+k by omega]
   refine Zp0 h1 h2 λhm=>h3 ?_
   split
   ·exact hm
   ·exact List.mem_cons_of_mem _ hm
theorem Zxc {j:Nat} {k:Blk} (h:Z18 j k=true):k.pin=some j∧k.rows≠[] :=by
 unfold Z18 at h
 split at h
 ·rename_i i hi
  split at h
  ·rename_i he
   obtain rfl:=eq_of_beq he
   split at h
   ·rename_i hr; exact⟨hi,by rw[hr]; simp⟩
   ·cases h
  ·cases h
 ·cases h
theorem Zrf:∀ {j0:Nat} {ρ':List Nat} {bs:List Blk},bs.length=ρ'.length→(Ui σ ρ j0 ρ' bs).length=bs.length∧∀ k blk',(Ui σ ρ j0 ρ' bs)[k]?=some blk'→∃ b blk pin,ρ'[k]?=some b∧bs[k]?=some blk∧blk'=Mq ρ pin blk∧
  ∀ i,pin=some i→Z18 (j0+k) blk=true∧∃ k0,σ.heap b=some k0∧k0.pin=some i∧k0.rows≠[]
 | j0,[],[],_=>⟨rfl,λk blk' h=>by simp[Ui] at h⟩
 | j0,[],_::_,h=>by simp at h
 | j0,_::_,[],h=>by simp at h
 | j0, x :: r,y::l,hl=>by
  obtain⟨h1,h2⟩:=Zrf (j0:=j0+1) (ρ':=r) (bs:=l) (by simpa using hl)
  refine⟨by simp[Ui,h1],λk blk' h=>?_⟩
  cases k with
  | zero=>
   simp only[Ui,List.getElem?_cons_zero,Option.some.injEq] at h
   refine⟨x,y,_,rfl,rfl,h.symm,λi hi=>?_⟩
   split at hi
   ·rename_i hk
    refine⟨hk,?_⟩
    split at hi
    ·rename_i k0 hk0
     split at hi
     ·rename_i hr; exact⟨k0,hk0,hi,by rw[hr]; simp⟩
     ·cases hi
    ·cases hi
   ·cases hi
  | succ k=>
   simp only[Ui,List.getElem?_cons_succ] at h
   obtain⟨b,blk,pin,e1,e2,e3,e4⟩:=h2 k blk' h
   exact⟨b,blk,pin,by simpa using e1,by simpa using e2,e3,λi hi=>by rw[show j0+(k+1)=j0+1+k by omega]; exact e4 i hi⟩
theorem Zif:∀ {bs bs':List Blk},Ls bs bs'=true→bs.length=bs'.length∧∀ (k:Nat) b b',bs[k]?=some b→bs'[k]?=some b'→b.sz=b'.sz∧b.frz=0
 | [],[],_=>⟨rfl,λk b b' h=>by simp at h⟩
 | [],_::_,h=>by simp[Ls] at h
 | _::_,[],h=>by simp[Ls] at h
 | x::l,y::l',h=>by
  simp only[Ls,Bool.and_eq_true,beq_iff_eq] at h
  obtain⟨h1,h2⟩:=Zif h.2
  refine⟨by simp[h1],λk b b' hb hb'=>?_⟩
  cases k with
  | zero=>simp at hb hb'; subst hb hb'; exact h.1
  | succ k=>simp at hb hb'; exact h2 k b b' hb hb'
theorem Zst (hC:Za Γ σ a w G β) {o:Oper} {f:FuncId} {vs:Array Value} {dsv:List D} (hrun0:(execOp a.eval o).run P w=(callFunc f vs).run P w) (hlv:dsv.length=vs.size)
  (hrep:∀ (j:Nat) v d,vs[j]?=some v→dsv[j]?=some d→Z9 w G β v d) {fresh nils:List (Nat×Nat)} {names:List Nat} {kp:Bool} {σ0:S} (h0:σ.nilL fresh=some σ0)
  {ds:List D} {l:List Nat} {p:Prop} (hd:U0 kp σ0 names (Jt nils 0 dsv)=some (ds,l,p)) (hp:p) {bs:List Blk} (hbs:Jk (σ0.freezeL l) names (λ_ j=>Z0r bs j) 0 names=some bs)
  (hdst:Xe σ o=true) (hdis:Ut names=true) {R:D→List Blk→Prop} (hsz:∀ r bs',R r bs'→Ls bs bs'=true) (hfrz:∀ (k:Nat) b,bs[k]?=some b→b.frz=0) (hR:Lk P f ds bs R)
  (next:Act→World→Prop) (Q:Exit→Act→World→Prop)
  (hn:∀ r bs' a' w' G' β',R r bs'→Za Γ ((((σ0.freezeL l).dropL (Kn 0 names bs')).setL names (Ui (σ0.freezeL l) names 0 names bs')).put o.dst (outD names r)) a' w' G' β'→next a' w'):o.wp P a w next Q:=by
 obtain⟨hent,hcall⟩:=hR
 obtain⟨hC0,htm,hn0⟩:=hC.nilL _ h0
 obtain⟨G',hCf,hGG,hlen,hvals⟩:=Zuq hC0 hd hp
 obtain⟨hbl,hbg⟩:=Zm7 hbs
 obtain⟨hna,hnb⟩:=Zr4 (w:=w) (G:=G) (β:=β) nils dsv 0
 -- where the blocks stand
 let pre:=Wv names β
 let Γ':Ctx:={ B:=w.heap.size,X:=λc=>∃ k s,pre k=some (c,s),w0:=w,G0:=G',hB:=Nat.le_refl _,pin:=λk=>match pre k with
  | some (c,_)=>c
  | none=>0 }
 have hblk:∀ {k c s},pre k=some (c,s)→∃ b blk,names[k]?=some b∧β b=some (c,s)∧(σ0.freezeL l).heap b=some blk∧Va w G' β Γ c blk∧s=blk.sz:=λ{k c s} hk=>by
  obtain⟨b,e1,e2⟩:=Z7z hk
  obtain⟨blk,hb⟩:=hCf.dom b _ e2
  obtain⟨e3,hBr⟩:=hCf.blk hb e2
  exact⟨b,blk,e1,e2,hb,hBr,e3⟩
 have hXs:∀ c,Γ'.X c→c<w.heap.size∧(Γ.B≤c∨Γ.X c)∧G' c=0:=λc hc=>by
  obtain⟨k,s,hk⟩:=hc
  obtain⟨b,blk,e1,e2,e3,hBr,-⟩:=hblk hk
  refine⟨hBr.lt,hBr.own,?_⟩
  obtain⟨blk2,blk',f1,f2,f3⟩:=hbg k b e1
  rw[e3] at f1; cases f1
  have hz:=hfrz k _ f2
  have hz':blk.frz=0:=by rw[← (Zge f3).2.1]; exact hz
  rcases Nat.eq_zero_or_pos (G' c) with h'|h'
  ·exact h'
  ·have:=hBr.frz 0 h'; rw[hz'] at this; simp at this
 have hE:Za Γ' (mkS ds.length (Ve 0 ds) (W2 0 bs)) { tmps:=vs,defers:=[] } w G' pre:=by
  refine hCf.enter (Γ':=Γ') hdis hbs (Nat.le_refl _) (λk c s hk=>Or.inr ⟨k,s,hk⟩) (λk b blk c s i hb hbk hk hi=>?_) (Jf.refl _ _ _) (λ_ _ _=>rfl) (by rw[hlen,hna]; exact hlv) (λj v d hv hd=>?_)
  ·obtain rfl:=Zxg hi
   show (match pre i with
    | some (c,_)=>c
    | none=>0)=c
   rw[show pre i=some (c,s) from hk]
  ·have hj:j<dsv.length:=by
    rw[hlv]
    rcases Nat.lt_or_ge j vs.size with h'|h'
    ·exact h'
    ·rw[Array.getElem?_eq_none h'] at hv; cases hv
   obtain⟨d',e1,e2⟩:=hnb j _ dsv[j] (hrep j v _ hv (List.getElem?_eq_getElem hj)) (List.getElem?_eq_getElem hj)
   exact hvals j _ d' d e2 e1 hd
 unfold Oper.wp
 rw[hrun0,Zlm hent,Oper.upon_enter]
 refine(hcall Γ' _ w G' pre hE).mono λe w' he=>?_
 obtain⟨v,G2,β2,r,bs',hRr,rfl,h2⟩:=he
 obtain⟨hsl,hsg⟩:=Zif (hsz r bs' hRr)
 obtain⟨β1,hC1,hβ1⟩:=hCf.dropL (Kn 0 names bs')
 have hkept:∀ {b k c s},names[k]?=some b→β b=some (c,s)→∀ blk',bs'[k]?=some blk'→Z18 k blk'=true→β2 k=some (c,s):=λ{b k c s} hb hβ blk' hb' hk=>by
  obtain⟨hpin,hne⟩:=Zxc hk
  have hpre:pre k=some (c,s):=(Z8e hb).trans hβ
  rcases h2.heap k blk' ((Zdk _ _).trans hb') with ⟨-,g1,-⟩|⟨c',g0,hBr⟩
  ·exact absurd g1 hne
  ·have e:=hBr.pin k hpin
   have e':Γ'.pin k=c:=by
    show (match pre k with
     | some (c,_)=>c
     | none=>0)=c
    rw[hpre]
   obtain⟨b2,blk,f1,f2,f3,-,f4⟩:=hblk hpre
   rw[hb] at f1; cases f1
   obtain⟨blk2,bk,f5,f6,f7⟩:=hbg k b hb
   rw[f3] at f5; cases f5
   have hs1:=(hsg k _ _ f6 hb').1
   rw[g0,← e,e',f4,← hs1,(Zge f7).1]
 obtain⟨hol,hog⟩:=Zrf (σ:=σ0.freezeL l) (ρ:=names) (j0:=0) (ρ':=names) (bs:=bs') (by omega)
 have hlv:∃ β3,Za Γ (((σ0.freezeL l).dropL (Kn 0 names bs')).setL names (Ui (σ0.freezeL l) names 0 names bs')) a w' G2 β3∧Z9 w' G2 β3 v (outD names r):=by
  refine hC1.leave (bs2:=Ui (σ0.freezeL l) names 0 names bs') hdis h2 rfl rfl rfl hXs (λb c s hb hi hx=>?_) (λb k x hi hb=>?_) (λb k blk' hi hb=>?_) (λb k blk hi hb=>?_)
  ·obtain⟨k,s',hk⟩:=hx
   obtain⟨b',blk,f1,f2,-⟩:=hblk hk
   obtain rfl:=hCf.inj b b' c s s' (hβ1 b _ hb).1 f2
   rw[Z7d hdis f1] at hi; cases hi
  ·have hg:=Z29 hi
   obtain⟨e1,e2⟩:=hβ1 b x hb
   have hk':k<bs'.length:=by
    rw[← hsl,hbl]
    rcases Nat.lt_or_ge k names.length with h'|h'
    ·exact h'
    ·rw[List.getElem?_eq_none h'] at hg; cases hg
   have hkk:=Zp0 hg (List.getElem?_eq_getElem hk') e2
   rw[Nat.zero_add] at hkk
   exact hkept hg e1 _ (List.getElem?_eq_getElem hk') hkk
  ·obtain⟨b',blk,pin,f1,f2,f3,f4⟩:=hog k blk' hb
   refine⟨blk,pin,f2,f3,λi c s hi hc=>?_⟩
   obtain⟨g1,k0,g2,g3,g4⟩:=f4 i hi
   rw[Nat.zero_add] at g1
   rcases hCf.heap b' k0 g2 with ⟨-,g5,-⟩|⟨c0,g5,hBr⟩
   ·exact absurd g5 g4
   ·have:=hkept f1 g5 blk f2 g1
    rw[hc] at this
    cases this
    exact hBr.pin i g3
  ·have hk':k<bs'.length:=by
    rcases Nat.lt_or_ge k bs'.length with h'|h'
    ·exact h'
    ·rw[List.getElem?_eq_none h'] at hb; cases hb
   exact⟨_,List.getElem?_eq_getElem (by rw[hol]; exact hk')⟩
 obtain⟨β3,k1,k2⟩:=hlv
 refine hn r bs' _ _ _ _ hRr (k1.put ?_ k2)
 intro t ht
 change t<((σ0.freezeL l).dropL _).n
 rw[Zon,(Z3l l σ0).2,hn0]
 exact Uv hdst t ht
theorem Zms (hC:Za Γ σ a w G β) {o:Oper} {fo:Operand} {args:Array Operand} {ts:Array TypeId} (ho:o.op=.call { callee:= .value fo,args,argTypes:=ts }) {f:FuncId} {ds:List D} (hfo:funA (σ.ev fo)=some (f,ds)):
  ∃ vs:Array Value,(execOp a.eval o).run P w=(callFunc f vs).run P w∧(args.toList.map σ.ev++ds).length=vs.size∧∀ (j:Nat) v d,vs[j]?=some v→(args.toList.map σ.ev++ds)[j]?=some d→Z9 w G β v d:=by
 have hA:∀ (j:Nat) v d,(args.map a.eval)[j]?=some v→(args.toList.map σ.ev)[j]?=some d→Z9 w G β v d:=λj v d hv hd=>by
  rw[Array.getElem?_map] at hv
  obtain⟨x,hx,rfl⟩:=Xt hv
  rw[List.getElem?_map,Array.getElem?_toList,hx] at hd
  cases hd
  exact Vo hC x
 have hs:=Vo hC fo
 unfold funA at hfo
 split at hfo
 ·rename_i g hg
  cases hfo
  rw[hg] at hs
  have hval:a.eval fo=.func (.func f) #[] #[] :=by
   generalize a.eval fo=u at hs
   cases hs; rfl
  refine⟨args.map a.eval,by simp[execOp,ho,resolve,hval,Deferred.ofValue,invoke],by simp,λj v d hv hd=>hA j v d hv (by simpa using hd)⟩
 ·rename_i g bs hg
  cases hfo
  rw[hg] at hs
  generalize hval:a.eval fo=u at hs
  cases hs with
  | clo _ vs _ hn hrep=>
   refine⟨args.map a.eval++vs,by simp[execOp,ho,resolve,hval,Deferred.ofValue,invoke],by simp[hn],λj v d hv hd=>?_⟩
   rcases Nat.lt_or_ge j args.size with h'|h'
   ·rw[Array.getElem?_append_left (by simpa using h')] at hv
    rw[List.getElem?_append_left (by simpa using h')] at hd
    exact hA j v d hv hd
   ·rw[Array.getElem?_append_right (by simpa using h')] at hv
    rw[List.getElem?_append_right (by simpa using h')] at hd
    simp only[Array.size_map,List.length_map,Array.length_toList] at hv hd
    rw[List.getElem?_map] at hd
    obtain⟨b,hb,rfl⟩:=Xt hd
    obtain⟨c,sz,h1,rfl⟩:=hrep _ v b hv hb
    have:=Z9.lptr (w:=w) (G:=G) (β:=β) b 0 0 c sz h1
    simpa using this
 ·cases hfo
theorem Y1q (hC : Za Γ σ a w G β) {o:Oper} {fo:Operand} {args:Array Operand} {ts:Array TypeId} (ho:o.op=.call { callee:= .value fo,args,argTypes:=ts }) {f:FuncId} {es:List D} (hfo:funA (σ.ev fo)=some (f,es))
  {told:Yt} {io:IO} {σ':S} {q:Prop} (h:Z1g P σ o f (args.toList.map σ.ev++es) told io=some (σ',q)) (hq:q):Reach P Γ o a w σ':=by
 unfold Z1g at h
 split at h
 ·rename_i r hr
  split at h
  ·rename_i σ0 h0
   split at h
   ·rename_i ds l p hd
    split at h
    ·rename_i bs hbs
     split at h
     ·rename_i hcond
      cases h
      obtain⟨hp,hds,hbe,hcall⟩:=hq
      simp only[Bool.and_eq_true] at hcond
      obtain⟨⟨hdst,hdis⟩,hsz⟩:=hcond
      rw[← hds] at hcall
      subst hbe
      obtain⟨vs,hrun0,hlv,hrep⟩:=Zms (P:=P) hC ho hfo
      intro next Q hn
      refine Zst hC hrun0 hlv hrep h0 hd hp hbs hdst hdis (R:=λr' bs'=>r'=r∧bs'=io.bs') (λr' bs' hR=>by rw[hR.2]; exact hsz) (λk b hb=>?_) ⟨hcall.1,λΓ' vs' w' G' β' hE=>(hcall.2 Γ' vs' w' G' β' hE).mono λe w2 he=>?_⟩ next Q λr' bs' a' w' G' β' hR hC'=>?_
      ·obtain⟨e1,e2⟩:=Zif hsz
       have hk:k<io.bs'.length:=by
        rw[← e1]
        rcases Nat.lt_or_ge k io.bs.length with h'|h'
        ·exact h'
        ·rw[List.getElem?_eq_none h'] at hb; cases hb
       exact(e2 k b _ hb (List.getElem?_eq_getElem hk)).2
      ·obtain⟨v,G2,β2,e1,e2⟩:=he
       exact⟨v,G2,β2,r,io.bs',⟨rfl,rfl⟩,e1,e2⟩
      ·obtain⟨rfl,rfl⟩:=hR
       exact hn _ _ _ _ hC'
     ·cases h
    ·cases h
   ·cases h
  ·cases h
 ·cases h
end Go.Den
