/-
  Calls that work on blocks of the caller.
-/
import Derived.Test.YtaamfcpmekeahaaGreatDoorDenWrite
set_option linter.unusedVariables false
set_option linter.unusedSimpArgs false
namespace Go.Den
open Go.RowKit
variable {P:Program} {Γ:Ctx} {σ:S} {a:Act} {w w':World} {G G':Nat→Nat} {β β':Nat→Option (Nat×Nat)} {ρ:List Nat}
theorem Z2r:∀ {ρ:List Nat} {b k:Nat},Vd b ρ=some k→ρ[k]?=some b
 | [],_,_,h=>by cases h
 | x :: r,b,k,h=>by
  unfold Vd at h
  split at h
  ·rename_i d; cases h; simpa using (eq_of_beq d).symm
  ·split at h
   ·rename_i j c; cases h; simpa using Z2r c
   ·cases h
theorem Z6z:∀ {ρ:List Nat} {b k:Nat},Je ρ=true→ρ[k]?=some b→Vd b ρ=some k
 | [],_,_,_,h=>by simp at h
 | x :: r,b,k,c,h=>by
  unfold Je at c
  rw[Bool.and_eq_true] at c
  cases k with
  | zero=>simp at h; subst h; simp[Vd]
  | succ k=>
   simp at h
   have ih:=Z6z c.2 h
   have d:b≠x:=by
    rintro rfl
    rw[ih] at c
    exact absurd c.1 (by simp)
   have:(b==x)=false:=by simpa using d
   simp only[Vd,this,ih]
def Um (ρ:List Nat) (β:Nat→Option (Nat×Nat)):Nat→Option (Nat×Nat):=λk=>(ρ[k]?).bind β
theorem Zaq {k:Nat} {x:Nat×Nat} (h:Um ρ β k=some x):∃ b,ρ[k]?=some b∧β b=some x:=by
 unfold Um at h
 cases c:ρ[k]? with
 | none=>rw[c] at h; cases h
 | some b=>rw[c] at h; exact⟨b,rfl,h⟩
theorem Zap {k b:Nat} (h:ρ[k]?=some b):Um ρ β k=β b:=by unfold Um; rw[h]; rfl
theorem Zh.inA {v:Value} {d d':D} (h:Zh w G β v d) (e:inA ρ d=some d'):Zh w G (Um ρ β) v d':=by
 have l:∀ d,Zh w G β v d→d.dat=true→Zh w G (Um ρ β) v d:=λd h r=>h.of_dat (λ_ _ _=>rfl) (λ_=>Nat.le_refl _) r
 cases d with
 | lptr b i o=>
  simp only[Den.inA] at e
  split at e
  ·rename_i k p
   cases e
   cases h with
   | lptr _ _ _ c sz q=>exact .lptr k i o c sz (by rw[Zap (Z2r p),q])
  ·cases e
 | lsl b lo n=>
  simp only[Den.inA] at e
  split at e
  ·rename_i k p
   cases e
   cases h with
   | lslnil _ x=>exact .lslnil k x
   | lsl _ _ _ cap c sz off q j m g=>exact .lsl k lo n cap c sz off (by rw[Zap (Z2r p),q]) j m g
  ·cases e
 | undef=>cases e; exact .undef v
 | agg cs=>simp[Den.inA,D.dat] at e
 | tup cs=>simp[Den.inA,D.dat] at e
 | clo f bs=>simp[Den.inA,D.dat] at e
 | lsk f b lo n=>simp[Den.inA,D.dat] at e
 | _=>simp only[Den.inA,D.dat] at e; cases e; exact l _ h rfl
theorem Zl3:∀ {l l':List D},inL ρ l=some l'→l'.length=l.length∧∀ (j:Nat) d',l'[j]?=some d'→∃ d,l[j]?=some d∧inA ρ d=some d'
 | [],l',h=>by cases h; exact⟨rfl,λj d' h=>by simp at h⟩
 | d :: r,l',h=>by
  unfold inL at h
  split at h
  ·rename_i x y f g
   cases h
   obtain⟨c,e⟩:=Zl3 g
   refine⟨by simp[c],λj d' b=>?_⟩
   cases j with
   | zero=>simp at b; subst b; exact⟨d,rfl,f⟩
   | succ j=>simp at b; simpa using e j d' b
  ·cases h
theorem Zl4:∀ {l l':List (List D)},inR ρ l=some l'→l'.length=l.length∧∀ (j:Nat) d',l'[j]?=some d'→∃ d,l[j]?=some d∧inL ρ d=some d'
 | [],l',h=>by cases h; exact⟨rfl,λj d' h=>by simp at h⟩
 | d :: r,l',h=>by
  unfold inR at h
  split at h
  ·rename_i x y f g
   cases h
   obtain⟨c,e⟩:=Zl4 g
   refine⟨by simp[c],λj d' b=>?_⟩
   cases j with
   | zero=>simp at b; subst b; exact⟨d,rfl,f⟩
   | succ j=>simp at b; simpa using e j d' b
  ·cases h
theorem Zl0 {pin:Option Nat} {blk blk':Blk} (h:inB ρ pin blk=some blk'):blk'.sz=blk.sz∧blk'.frz=blk.frz∧blk'.pin=pin∧(blk.rows=[]→blk'.rows=[]):=by
 unfold inB at h
 split at h
 ·cases h; exact⟨rfl,rfl,rfl,id⟩
 ·split at h
  ·rename_i rows c
   cases h
   refine⟨rfl,rfl,rfl,λb=>?_⟩
   have:=(Zl4 c).1
   rw[b] at this
   exact List.eq_nil_of_length_eq_zero this
  ·cases h
theorem Vr.into {Γ':Ctx} {c:Nat} {blk blk':Blk} {pin:Option Nat} (hB:Vr w G β Γ c blk) (h:inB ρ pin blk=some blk') (b:Γ'.B≤c∨Γ'.X c) (f:∀ k,pin=some k→Γ'.pin k=c):
  Vr w G (Um ρ β) Γ' c blk':=by
 obtain⟨own,pin',ty,frz,top,dat,hsz,vs,e,fr,t,u,x,y⟩:=hB
 unfold inB at h
 split at h
 ·rename_i hp
  cases h
  exact ⟨b,f,ty,frz,top,dat,hsz,vs,e,fr,t,u,x,λi j r d m z=>by
   obtain⟨v,a1,a2,n⟩:=y i j r d m z
   exact⟨v,a1,a2,n.of_dat (λ_ _ _=>rfl) (λ_=>Nat.le_refl _) (dat hp i j r d m z)⟩⟩
 ·rename_i hp
  split at h
  ·rename_i rows m
   cases h
   obtain⟨k1,k2⟩:=Zl4 m
   refine⟨b,f,ty,frz,by simpa [k1] using top,(λl=>by rw[hp] at l; cases l),(λi s g=>?_),vs,e,fr,t,u,by simpa [k1] using x,(λi j s d' g q=>?_)⟩
   ·obtain⟨r,o,p⟩:=k2 i s g
    rw[(Zl3 p).1]; exact hsz i r o
   ·obtain⟨r,o,p⟩:=k2 i s g
    obtain⟨d,A,C⟩:=(Zl3 p).2 j d' q
    obtain⟨v,a1,a2,n⟩:=y i j r d o A
    exact⟨v,a1,a2,n.inA C⟩
  ·cases h
theorem inRef_A {d d':D} (h:inRef ρ d=some d'):inA ρ d=some d':=by
 cases d <;> simp only[inRef] at h <;> first|(cases h; done)|(cases h; rfl)|skip
 all_goals
  simp only[Den.inA]
  split at h
  ·cases h; rename_i b; simp only[b]
  ·cases h
theorem Zla (h:Zk Γ σ a w G β) {kp:Bool}:∀ {ds ds':List D} {l:List Nat} {p:Prop},Uj kp σ ρ ds=some (ds',l,p)→p→(∀ b∈l,K4 σ G β b)→ds'.length=ds.length∧
  ∀ (j:Nat) v d d',Zh w G β v d→ds[j]?=some d→ds'[j]?=some d'→Zh w G (Um ρ β) v d'
 | [],ds',l,p,c,hp,g=>by cases c; exact⟨rfl,λj v d d' _ h=>by simp at h⟩
 | x :: r,ds',l,p,c,hp,g=>by
  unfold Uj at c
  split at c
  ·rename_i y o
   split at c
   ·rename_i B l' q hq
    cases c
    obtain⟨k1,k3⟩:=Zla h hq hp g
    refine⟨by simp[k1],λj v d d' f c e=>?_⟩
    cases j with
    | zero=>simp at c e; subst c e; exact f.inA (inRef_A o)
    | succ j=>simp at c e; exact k3 j v d d' f c e
   ·cases c
  ·split at c
   ·rename_i d1 s u A t z k m
    cases c
    obtain⟨k1,k3⟩:=Zla h m hp.2 (λb i=>g b (by simp[i]))
    refine⟨by simp[k1],λj v d d' f c e=>?_⟩
    cases j with
    | zero=>simp at c e; subst c e; exact(Y3s h f k hp.1 (λb i=>g b (by simp[i]))).mono (λ_ _ _=>rfl) (λ_=>Nat.le_refl _) (λb x n=>by cases n) (.refl w)
    | succ j=>simp at c e; exact k3 j v d d' f c e
   ·cases c
theorem Zjx {kp:Bool} {σ σ':S} (h:L1 σ σ'):∀ ds,Uj kp σ' ρ ds=Uj kp σ ρ ds
 | [] =>rfl
 | d::r=>by unfold Uj; rw[Y2u h,Zjx h r]
theorem Ztc (h:Zk Γ σ a w G β) {kp:Bool} {ds ds':List D} {l:List Nat} {p:Prop} (f:Uj kp σ ρ ds=some (ds',l,p)) (hp:p):
  ∃ G',Zk Γ (σ.freezeL l) a w G' β∧(∀ k,G k≤G' k)∧ds'.length=ds.length∧∀ (j:Nat) v d d',Zh w G β v d→ds[j]?=some d→ds'[j]?=some d'→Zh w G' (Um ρ β) v d':=by
 obtain⟨G',c,e,g⟩:=Zk.freezeL l h
 rw[← Zjx (Z6f l σ)] at f
 obtain⟨k1,k2⟩:=Zla c f hp (λb i=>Zbr l (g b i))
 exact⟨G',c,e,k1,λj v d d' m=>k2 j v d d' (m.mono (λ_ _ _=>rfl) e (λ_ _ h=>h) (.refl w))⟩
theorem Zl1 {mark:Option Nat→Nat→Option Nat}:∀ {j0:Nat} {ρ':List Nat} {bs:List Blk},L8 σ ρ mark j0 ρ'=some bs→bs.length=ρ'.length∧
  ∀ k b,ρ'[k]?=some b→∃ blk blk',σ.heap b=some blk∧bs[k]?=some blk'∧inB ρ (mark blk.pin (j0+k)) blk=some blk'
 | j0,[],bs,h=>by cases h; exact⟨rfl,λk b h=>by simp at h⟩
 | j0, n :: r,bs,h=>by
  unfold L8 at h
  split at h
  ·rename_i k0 d
   split at h
   ·rename_i x y l m
    cases h
    obtain⟨i,j⟩:=Zl1 m
    refine⟨by simp[i],λk b c=>?_⟩
    cases k with
    | zero=>simp at c; subst c; exact⟨k0,x,d,rfl,l⟩
    | succ k=>
     simp at c
     obtain⟨blk,blk',e,f,g⟩:=j k b c
     exact⟨blk,blk',e,by simpa using f,by rw[← g,show j0+(k+1)=j0+1+k by omega]⟩
   ·cases h
  ·cases h
theorem Zu9:∀ (bs:List Blk) (i t:Nat),ofB (We i bs) t=if i≤t then bs[t - i]? else none
 | [],i,t=>by simp[We,ofB]
 | d :: r,i,t=>by
  unfold We ofB
  rw[Zu9 r (i+1) t]
  by_cases h:t=i
  ·subst h; simp
  ·rw[if_neg h]
   by_cases b:i≤t
   ·rw[if_pos (by omega),if_pos b,show t - i=(t - (i+1))+1 by omega]; rfl
   ·rw[if_neg (by omega),if_neg b]
theorem Zi7 (bs:List Blk) (t:Nat):ofB (We 0 bs) t=bs[t]? :=by rw[Zu9,if_pos (Nat.zero_le _),Nat.sub_zero]
theorem Z5l:∀ (ds:List D) (i t:Nat),ofL (Vv i ds) t=if i≤t then ds.getD (t - i) .undef else .undef
 | [],i,t=>by simp[Vv,ofL]
 | d :: r,i,t=>by
  unfold Vv ofL
  rw[Z5l r (i+1) t]
  by_cases h:t=i
  ·subst h; simp
  ·rw[if_neg h]
   by_cases b:i≤t
   ·rw[if_pos (by omega),if_pos b,show t - i=(t - (i+1))+1 by omega]; rfl
   ·rw[if_neg (by omega),if_neg b]
theorem Zk.enter {mark:Option Nat→Nat→Option Nat} (h:Zk Γ σ a w G β) (A:Je ρ=true) {bs:List Blk} (J:L8 σ ρ mark 0 ρ=some bs) {Γ':Ctx} (O:Γ'.B≤w.heap.size)
  (own':∀ k c s,Um ρ β k=some (c,s)→Γ'.B≤c∨Γ'.X c)
  (pin':∀ k b blk c s i,ρ[k]?=some b→σ.heap b=some blk→Um ρ β k=some (c,s)→mark blk.pin k=some i→Γ'.pin i=c)
  (kept:L2 Γ'.B Γ'.X Γ'.w0 w) (marks:∀ c,c<Γ'.B→ ¬ Γ'.X c→G c=Γ'.G0 c) {vs:Array Value} {ds:List D} (L:ds.length=vs.size)
  (M:∀ (j:Nat) v d,vs[j]?=some v→ds[j]?=some d→Zh w G (Um ρ β) v d):
  Zk Γ' (mkS ds.length (Vv 0 ds) (We 0 bs)) { tmps:=vs,defers:=[] } w G (Um ρ β):=by
 obtain⟨U,C⟩:=Zl1 J
 refine⟨rfl,L.symm,λt=>?_,λk blk' y=>?_,λk x N=>?_,λk V c s Q y f=>?_,kept,marks,h.fresh,O,h.glob⟩
 ·show Zh w G _ _ (ofL (Vv 0 ds) t)
  rw[Z5l,if_pos (Nat.zero_le _),Nat.sub_zero]
  rcases Nat.lt_or_ge t ds.length with p|p
  ·have o:t<vs.size:=by omega
   have g:ds.getD t .undef=ds[t] :=by simp[List.getD,List.getElem?_eq_getElem p]
   have l:vs.getD t Go.undef=vs[t] :=by simp[Array.getD_eq_getD_getElem?,Array.getElem?_eq_getElem o]
   show Zh w G _ (vs.getD t Go.undef) _
   rw[g,l]
   exact M t _ _ (Array.getElem?_eq_getElem o) (List.getElem?_eq_getElem p)
  ·have g:ds.getD t .undef=.undef:=by simp[List.getD,List.getElem?_eq_none p]
   rw[g]; exact .undef _
 ·have f:bs[k]?=some blk':=by rw[← Zi7]; exact y
  have m:k<ρ.length:=by
   rcases Nat.lt_or_ge k bs.length with z|z
   ·omega
   ·rw[List.getElem?_eq_none z] at f; cases f
  obtain⟨blk,blk2,g,l,u⟩:=C k ρ[k] (List.getElem?_eq_getElem m)
  rw[f] at l; cases l
  rw[Nat.zero_add] at u
  obtain⟨R,T,s3,s4⟩:=Zl0 u
  have e:Um ρ β k=β ρ[k] :=Zap (List.getElem?_eq_getElem m)
  rcases h.heap _ blk g with ⟨n,H,I⟩|⟨c,n,hB⟩
  ·exact .inl ⟨e.trans n,s4 H,T.trans I⟩
  ·refine .inr ⟨c,by rw[e,n,R],hB.into u (own' k c _ (e.trans n)) λi K=>pin' k _ blk c _ i (List.getElem?_eq_getElem m) g (e.trans n) K⟩
 ·obtain⟨b,g,l⟩:=Zaq N
  obtain⟨blk,blk',-,F,-⟩:=C k b g
  exact⟨blk',by show ofB (We 0 bs) k=_; rw[Zi7]; exact F⟩
 ·obtain⟨b,g,l⟩:=Zaq y
  obtain⟨E,q,r⟩:=Zaq f
  obtain rfl:=h.inj b E c s Q l r
  have:=(Z6z A g).symm.trans (Z6z A q)
  simpa using this
theorem Zh.outA {β3:Nat→Option (Nat×Nat)} (e:∀ k b,ρ[k]?=some b→β3 b=β k) {v:Value} {d:D} (h:Zh w G β v d):Zh w G β3 v (outA ρ d):=by
 cases d with
 | lptr k i o=>
  simp only[Den.outA]
  split
  ·rename_i b m
   cases h with
   | lptr _ _ _ c sz p=>exact .lptr b i o c sz ((e k b m).trans p)
  ·exact .undef v
 | lsl k lo n=>
  simp only[Den.outA]
  split
  ·rename_i b m
   cases h with
   | lslnil _ x=>exact .lslnil b x
   | lsl _ _ _ cap c sz off p j l g=>exact .lsl b lo n cap c sz off ((e k b m).trans p) j l g
  ·exact .undef v
 | agg cs=>exact .undef v
 | tup cs=>exact .undef v
 | undef=>exact .undef v
 | clo f bs=>exact .undef v
 | lsk f b lo n=>exact .undef v
 | _=>exact h.of_dat (λ_ _ _=>rfl) (λ_=>Nat.le_refl _) rfl
theorem Zh.outE {β3:Nat→Option (Nat×Nat)} (c:∀ k b,ρ[k]?=some b→β3 b=β k) {v:Value} {d:D} (h:Zh w G β v d):Zh w G β3 v (outE ρ d):=by
 cases d with
 | agg cs=>
  obtain⟨vs,rfl,l,e,f⟩:=L9 h
  refine .agg vs _ (by simpa using l) e (λj v d m i=>?_)
  rw[List.getElem?_map] at i
  obtain⟨d',g,rfl⟩:=Qg i
  exact(f j v d' m g).outA c
 | _=>exact h.outA c
theorem Zh.outD {β3:Nat→Option (Nat×Nat)} (c:∀ k b,ρ[k]?=some b→β3 b=β k) {v:Value} {d:D} (h:Zh w G β v d):Zh w G β3 v (outD ρ d):=by
 cases d with
 | tup ds=>
  cases h with
  | tup vs _ i e=>
   refine .tup vs _ (by simpa using i) (λj v d l g=>?_)
   rw[List.getElem?_map] at g
   obtain⟨d',f,rfl⟩:=Qg g
   exact(e j v d' l f).outE c
 | _=>exact h.outE c
theorem Vr.out {Γ':Ctx} {β3:Nat→Option (Nat×Nat)} (n:∀ k b,ρ[k]?=some b→β3 b=β k) {c:Nat} {blk:Blk} {pin:Option Nat} (hB:Vr w G β Γ' c blk) (f:Γ.B≤c∨Γ.X c) (g:∀ k,pin=some k→Γ.pin k=c):
  Vr w G β3 Γ c (Z0v ρ pin blk):=by
 obtain⟨own,pin',ty,frz,top,dat,hsz,vs,e,fr,t,u,x,y⟩:=hB
 unfold Z0v
 split
 ·rename_i hp
  exact ⟨f,g,ty,frz,top,dat,hsz,vs,e,fr,t,u,x,λi j r d h m=>by
   obtain⟨v,a1,a2,p⟩:=y i j r d h m
   exact⟨v,a1,a2,p.of_dat (λ_ _ _=>rfl) (λ_=>Nat.le_refl _) (dat hp i j r d h m)⟩⟩
 ·rename_i hp
  refine⟨f,g,ty,frz,by simpa using top,(λo=>by rw[hp] at o; cases o),(λi r h=>?_),vs,e,fr,t,u,by simpa using x,(λi j r d h m=>?_)⟩
  ·simp only[List.getElem?_map] at h
   obtain⟨s,l,rfl⟩:=Qg h
   simpa using hsz i s l
  ·simp only[List.getElem?_map] at h
   obtain⟨s,l,rfl⟩:=Qg h
   rw[List.getElem?_map] at m
   obtain⟨d',q,rfl⟩:=Qg m
   obtain⟨v,a1,a2,p⟩:=y i j s d' l q
   exact⟨v,a1,a2,p.outA n⟩
theorem Y5n (ρ:List Nat) (pin:Option Nat) (blk:Blk):(Z0v ρ pin blk).sz=blk.sz∧(Z0v ρ pin blk).frz=blk.frz∧(blk.rows=[]→(Z0v ρ pin blk).rows=[]):=by
 unfold Z0v
 split
 ·exact⟨rfl,rfl,id⟩
 ·exact⟨rfl,rfl,λh=>by simp[h]⟩
theorem Zk.leave {β1 β2:Nat→Option (Nat×Nat)} {G2:Nat→Nat} (n:Zk Γ σ a w G β1) (hd:Je ρ=true) {Γ':Ctx} {r:D} {bs' bs2:List Blk} {v:Value}
  (A:Zk Γ' (mkS 1 [(0,r)] (We 0 bs')) { tmps:=#[v],defers:=[] } w' G2 β2) (hB:Γ'.B=w.heap.size) (hw:Γ'.w0=w) (hG:Γ'.G0=G)
  (L:∀ c,Γ'.X c→c<w.heap.size∧(Γ.B≤c∨Γ.X c)∧G c=0)
  (p:∀ b c s,β1 b=some (c,s)→Vd b ρ=none→ ¬ Γ'.X c)
  (J:∀ b k x,Vd b ρ=some k→β1 b=some x→β2 k=some x)
  (T:∀ b k blk',Vd b ρ=some k→bs2[k]?=some blk'→∃ blk pin,bs'[k]?=some blk∧blk'=Z0v ρ pin blk∧∀ i c s,pin=some i→β2 k=some (c,s)→Γ.pin i=c)
  (O:∀ (b k:Nat) (blk:Blk),Vd b ρ=some k→bs'[k]?=some blk→∃ blk':Blk,bs2[k]?=some blk'):
  ∃ β3,Zk Γ (σ.setL ρ bs2) a w' G2 β3∧Zh w' G2 β3 v (outD ρ r):=by
 let β3:Nat→Option (Nat×Nat):=λb=>match Vd b ρ with
  | some k=>β2 k
  | none=>β1 b
 have b3in:∀ {b k},Vd b ρ=some k→β3 b=β2 k:=λ{b k} h=>by simp only[β3,h]
 have b3out:∀ {b},Vd b ρ=none→β3 b=β1 b:=λ{b} h=>by simp only[β3,h]
 have H:∀ k b,ρ[k]?=some b→β3 b=β2 k:=λk b h=>b3in (Z6z hd h)
 have g:=A.kept
 rw[hB,hw] at g
 have V:∀ c,¬ c<w.heap.size→ ¬ Γ'.X c:=λc M l=>M (L c l).1
 have I:∀ c,c<w.heap.size→ ¬ Γ'.X c→G2 c=G c:=λc M l=>by rw[A.marks c (by rw[hB]; exact M) l,hG]
 have y:∀ b o,o<G b→w'.cell? ⟨b,o,none⟩=w.cell? ⟨b,o,none⟩:=λb o ho=>by
  refine Z09 (g.block b (n.marksLt ho) λl=>?_) o
  have:=(L b l).2.2
  omega
 have E:∀ b,G b≤G2 b:=λb=>by
  by_cases C:b<w.heap.size
  ·by_cases l:Γ'.X b
   ·rw[(L b l).2.2]; exact Nat.zero_le _
   ·rw[I b C l]; exact Nat.le_refl _
  ·rw[n.fresh b (by omega)]; exact Nat.zero_le _
 have Z:∀ b x,β1 b=some x→β3 b=some x:=λb x l=>by
  cases N:Vd b ρ with
  | some k=>rw[b3in N]; exact J b k x N l
  | none=>rw[b3out N]; exact l
 have hs:L3 w w':=g.same
 have z:∀ k,(mkS 1 [(0,r)] (We 0 bs')).heap k=bs'[k]? :=λk=>Zi7 bs' k
 have F:∀ {b c s},β1 b=some (c,s)→c<w.heap.size∧∃ blk,σ.heap b=some blk∧Vr w G β1 Γ c blk∧s=blk.sz:=λ{b c s} C=>by
  obtain⟨blk,d⟩:=n.dom b _ C
  obtain⟨e,f⟩:=n.blk d C
  exact⟨f.lt,blk,d,f,e⟩
 have own2:∀ {k c s},β2 k=some (c,s)→(w.heap.size≤c∨Γ'.X c):=λ{k c s} C=>by
  obtain⟨blk,d⟩:=A.dom k _ C
  obtain⟨-,f⟩:=A.blk d C
  rw[← hB]; exact f.own
 refine⟨β3,⟨n.defers,n.size,λt=>(n.tmps t).mono y E Z hs,λu blk m=>?_,λu x m=>?_,λu Q c s Y m j=>?_,n.kept.trans ⟨g.os,g.tape,g.output,g.size,λk d l=>g.block k (Nat.lt_of_lt_of_le d n.big) λK=>(L k K).2.1.elim (λh=>by omega) l,hs⟩,λc M l=>?_,A.fresh,Nat.le_trans n.big g.size,A.glob⟩,?_⟩
 ·simp only[S.setL] at m
  split at m
  ·rename_i k d
   obtain⟨blk0,pin,e1,rfl,e3⟩:=T u k blk d m
   obtain⟨s1,s2,s3⟩:=Y5n ρ pin blk0
   rcases A.heap k blk0 ((z k).trans e1) with ⟨g0,R,g2⟩|⟨c,g0,f⟩
   ·exact .inl ⟨(b3in d).trans g0,s3 R,s2.trans g2⟩
   ·refine .inr ⟨c,by rw[b3in d,g0,s1],f.out H ?_ λi N=>e3 i c _ N g0⟩
    rcases own2 g0 with h|h
    ·exact .inl (Nat.le_trans n.big h)
    ·exact(L c h).2.1
  ·rename_i d
   rcases n.heap u blk m with ⟨g0,R⟩|⟨c,g0,f⟩
   ·exact .inl ⟨(b3out d).trans g0,R⟩
   ·have l:=p u c _ g0 d
    exact .inr ⟨c,(b3out d).trans g0,f.mono y E (I c f.lt l) Z hs (g.block c f.lt l)⟩
 ·simp only[S.setL]
  cases d:Vd u ρ with
  | some k=>
   rw[b3in d] at m
   obtain⟨blk,C⟩:=A.dom k x m
   rw[z] at C
   exact O u k blk d C
  | none=>
   rw[b3out d] at m
   exact n.dom u x m
 ·cases d:Vd u ρ with
  | some k=>
   rw[b3in d] at m
   cases q:Vd Q ρ with
   | some k'=>
    rw[b3in q] at j
    obtain rfl:=A.inj k k' c s Y m j
    have:=(Z2r d).symm.trans (Z2r q)
    simpa using this
   | none=>
    rw[b3out q] at j
    have W:=(F j).1
    rcases own2 m with h|h
    ·omega
    ·exact absurd h (p Q c Y j q)
  | none=>
   rw[b3out d] at m
   cases q:Vd Q ρ with
   | some k'=>
    rw[b3in q] at j
    have W:=(F m).1
    rcases own2 j with h|h
    ·omega
    ·exact absurd h (p u c s m d)
   | none=>
    rw[b3out q] at j
    exact n.inj u Q c s Y m j
 ·have U:=Nat.lt_of_lt_of_le M n.big
  rw[I c U λK=>(L c K).2.1.elim (λh=>by omega) l]
  exact n.marks c M l
 ·have:=A.tmps 0
  exact this.outD H
theorem Zk.dropL:∀ (l:List Nat) {σ:S} {β:Nat→Option (Nat×Nat)},Zk Γ σ a w G β→∃ β1,Zk Γ (σ.dropL l) a w G β1∧∀ b x,β1 b=some x→β b=some x∧b ∉ l
 | [],σ,β,h=>⟨β,h,λb x e=>⟨e,by simp⟩⟩
 | u::l,σ,β,h=>by
  obtain⟨β1,g,i⟩:=Zk.dropL l (h.drop u)
  refine⟨β1,g,λb x e=>?_⟩
  obtain⟨c,f⟩:=i b x e
  unfold upd at c
  split at c
  ·cases c
  ·rename_i d; exact⟨c,by simp[d,f]⟩
theorem Zsf:∀ (l:List Nat) (σ:S),(σ.dropL l).n=σ.n
 | [],_=>rfl
 | b::l,σ=>Zsf l (σ.drop b)
theorem Zk.nilL:∀ (l:List (Nat×Nat)) {σ σ':S},Zk Γ σ a w G β→σ.nilL l=some σ'→Zk Γ σ' a w G β∧σ'.tmps=σ.tmps∧σ'.n=σ.n
 | [],σ,σ',h,hs=>by cases hs; exact⟨h,rfl,rfl⟩
 | (b,sz)::l,σ,σ',h,hs=>by
  unfold S.nilL at hs
  split at hs
  ·rename_i f
   obtain⟨c,d,e⟩:=Zk.nilL l (h.nameNil (blk:={ sz,rows:=[],frz:=0,pure:=true }) f ⟨rfl,rfl⟩) hs
   exact⟨c,d,e⟩
  ·cases hs
theorem Zu5 (l:List (Nat×Nat)):∀ (ds:List D) (j0:Nat),(Lw l j0 ds).length=ds.length∧∀ (j:Nat) v d,Zh w G β v d→ds[j]?=some d→∃ d',(Lw l j0 ds)[j]?=some d'∧Zh w G β v d'
 | [],j0=>⟨rfl,λj v d _ h=>by simp at h⟩
 | x :: r,j0=>by
  obtain⟨o,p⟩:=Zu5 l r (j0+1)
  refine⟨by simp[Lw,o],λj v d f e=>?_⟩
  cases j with
  | zero=>
   simp at e; subst e
   refine⟨_,rfl,?_⟩
   split
   ·split
    ·cases f with
     | slnil _ y=>exact .lslnil _ y
     | sl c b off n cap sz _ val i g=>simp at i; subst i; rw[g rfl]; exact .lslnil _ _
    ·exact f
   ·exact f
  | succ j=>
   simp at e
   obtain⟨d',k,m⟩:=p j v d f e
   exact⟨d',by simpa [Lw] using k,m⟩
theorem Y5r {bs:List Blk} {j i:Nat} (h:Z20 bs j=some i):i=j:=by
 unfold Z20 at h
 repeat' split at h
 all_goals first|(cases h; rfl)|(cases h; done)
theorem Zt6:∀ {j0:Nat} {ρ:List Nat} {bs:List Blk} {k b:Nat} {blk:Blk},ρ[k]?=some b→bs[k]?=some blk→b ∉ Me j0 ρ bs→Z1c (j0+k) blk=true
 | j0,[],bs,k,b,blk,h,_,_=>by simp at h
 | j0,x::r,[],k,b,blk,_,h,_=>by simp at h
 | j0,x::r,y::l,k,b,blk,c,d,e=>by
  unfold Me at e
  cases k with
  | zero=>
   simp at c d; subst c d
   rcases Bool.eq_false_or_eq_true (Z1c j0 y) with f|f
   ·exact f
   ·rw[f] at e; simp at e
  | succ k=>
   simp at c d
   rw[show j0+(k+1)=j0+1+k by omega]
   refine Zt6 c d λg=>e ?_
   split
   ·exact g
   ·exact List.mem_cons_of_mem _ g
theorem Y4t {j:Nat} {k:Blk} (h:Z1c j k=true):k.pin=some j∧k.rows≠[] :=by
 unfold Z1c at h
 split at h
 ·rename_i i b
  split at h
  ·rename_i he
   obtain rfl:=eq_of_beq he
   split at h
   ·rename_i c; exact⟨b,by rw[c]; simp⟩
   ·cases h
  ·cases h
 ·cases h
theorem Zuc:∀ {j0:Nat} {ρ':List Nat} {bs:List Blk},bs.length=ρ'.length→(Jm σ ρ j0 ρ' bs).length=bs.length∧∀ k blk',(Jm σ ρ j0 ρ' bs)[k]?=some blk'→∃ b blk pin,ρ'[k]?=some b∧bs[k]?=some blk∧blk'=Z0v ρ pin blk∧
  ∀ i,pin=some i→Z1c (j0+k) blk=true∧∃ k0,σ.heap b=some k0∧k0.pin=some i∧k0.rows≠[]
 | j0,[],[],_=>⟨rfl,λk blk' h=>by simp[Jm] at h⟩
 | j0,[],_::_,h=>by simp at h
 | j0,_::_,[],h=>by simp at h
 | j0, x :: r,y::l,p=>by
  obtain⟨m,n⟩:=Zuc (j0:=j0+1) (ρ':=r) (bs:=l) (by simpa using p)
  refine⟨by simp[Jm,m],λk blk' h=>?_⟩
  cases k with
  | zero=>
   simp only[Jm,List.getElem?_cons_zero,Option.some.injEq] at h
   refine⟨x,y,_,rfl,rfl,h.symm,λi c=>?_⟩
   split at c
   ·rename_i o
    refine⟨o,?_⟩
    split at c
    ·rename_i k0 d
     split at c
     ·rename_i q; exact⟨k0,d,c,by rw[q]; simp⟩
     ·cases c
    ·cases c
   ·cases c
  | succ k=>
   simp only[Jm,List.getElem?_cons_succ] at h
   obtain⟨b,blk,pin,e,f,g,j⟩:=n k blk' h
   exact⟨b,blk,pin,by simpa using e,by simpa using f,g,λi c=>by rw[show j0+(k+1)=j0+1+k by omega]; exact j i c⟩
theorem Zol:∀ {bs bs':List Blk},Km bs bs'=true→bs.length=bs'.length∧∀ (k:Nat) b d,bs[k]?=some b→bs'[k]?=some d→b.sz=d.sz∧b.frz=0
 | [],[],_=>⟨rfl,λk b d h=>by simp at h⟩
 | [],_::_,h=>by simp[Km] at h
 | _::_,[],h=>by simp[Km] at h
 | x::l,y::l',h=>by
  simp only[Km,Bool.and_eq_true,beq_iff_eq] at h
  obtain⟨f,g⟩:=Zol h.2
  refine⟨by simp[f],λk b d e c=>?_⟩
  cases k with
  | zero=>simp at e c; subst e c; exact h.1
  | succ k=>simp at e c; exact g k b d e c
theorem Zrr (hC:Zk Γ σ a w G β) {o:Oper} {f:FuncId} {vs:Array Value} {dsv:List D} (N:(execOp a.eval o).run P w=(callFunc f vs).run P w) (H:dsv.length=vs.size)
  (hrep:∀ (j:Nat) v d,vs[j]?=some v→dsv[j]?=some d→Zh w G β v d) {fresh nils:List (Nat×Nat)} {names:List Nat} {kp:Bool} {σ0:S} (h0:σ.nilL fresh=some σ0)
  {ds:List D} {l:List Nat} {p:Prop} (hd:Uj kp σ0 names (Lw nils 0 dsv)=some (ds,l,p)) (hp:p) {bs:List Blk} (Y:L8 (σ0.freezeL l) names (λ_ j=>Z20 bs j) 0 names=some bs)
  (Z:Xx σ o=true) (y:Je names=true) {R:D→List Blk→Prop} (hsz:∀ r bs',R r bs'→Km bs bs'=true) (hfrz:∀ (k:Nat) b,bs[k]?=some b→b.frz=0) (hR:K3 P f ds bs R)
  (next:Act→World→Prop) (Q:Exit→Act→World→Prop)
  (hn:∀ r bs' a' w' G' β',R r bs'→Zk Γ ((((σ0.freezeL l).dropL (Me 0 names bs')).setL names (Jm (σ0.freezeL l) names 0 names bs')).put o.dst (outD names r)) a' w' G' β'→next a' w'):o.wp P a w next Q:=by
 obtain⟨hent,M⟩:=hR
 obtain⟨hC0,htm,hn0⟩:=hC.nilL _ h0
 obtain⟨G',q,hGG,hlen,O⟩:=Ztc hC0 hd hp
 obtain⟨hbl,W⟩:=Zl1 Y
 obtain⟨hna,hnb⟩:=Zu5 (w:=w) (G:=G) (β:=β) nils dsv 0
 -- where the blocks stand
 let pre:=Um names β
 let Γ':Ctx:={ B:=w.heap.size,X:=λc=>∃ k s,pre k=some (c,s),w0:=w,G0:=G',hB:=Nat.le_refl _,pin:=λk=>match pre k with
  | some (c,_)=>c
  | none=>0 }
 have u:∀ {k c s},pre k=some (c,s)→∃ b blk,names[k]?=some b∧β b=some (c,s)∧(σ0.freezeL l).heap b=some blk∧Vr w G' β Γ c blk∧s=blk.sz:=λ{k c s} z=>by
  obtain⟨b,K,I⟩:=Zaq z
  obtain⟨blk,h⟩:=q.dom b _ I
  obtain⟨e3,g⟩:=q.blk h I
  exact⟨b,blk,K,I,h,g,e3⟩
 have hXs:∀ c,Γ'.X c→c<w.heap.size∧(Γ.B≤c∨Γ.X c)∧G' c=0:=λc hc=>by
  obtain⟨k,s,z⟩:=hc
  obtain⟨b,blk,K,I,e3,g,-⟩:=u z
  refine⟨g.lt,g.own,?_⟩
  obtain⟨blk2,blk',E,L,T⟩:=W k b K
  rw[e3] at E; cases E
  have hz:=hfrz k _ L
  have hz':blk.frz=0:=by rw[← (Zl0 T).2.1]; exact hz
  rcases Nat.eq_zero_or_pos (G' c) with m|m
  ·exact m
  ·have:=g.frz 0 m; rw[hz'] at this; simp at this
 have hE:Zk Γ' (mkS ds.length (Vv 0 ds) (We 0 bs)) { tmps:=vs,defers:=[] } w G' pre:=by
  refine q.enter (Γ':=Γ') y Y (Nat.le_refl _) (λk c s z=>Or.inr ⟨k,s,z⟩) (λk b blk c s i h hbk z C=>?_) (L2.refl _ _ _) (λ_ _ _=>rfl) (by rw[hlen,hna]; exact H) (λj v d hv hd=>?_)
  ·obtain rfl:=Y5r C
   show (match pre i with
    | some (c,_)=>c
    | none=>0)=c
   rw[show pre i=some (c,s) from z]
  ·have hj:j<dsv.length:=by
    rw[H]
    rcases Nat.lt_or_ge j vs.size with m|m
    ·exact m
    ·rw[Array.getElem?_eq_none m] at hv; cases hv
   obtain⟨d',K,I⟩:=hnb j _ dsv[j] (hrep j v _ hv (List.getElem?_eq_getElem hj)) (List.getElem?_eq_getElem hj)
   exact O j _ d' d I K hd
 unfold Oper.wp
 rw[N,Zog hent,Oper.upon_enter]
 refine(M Γ' _ w G' pre hE).mono λe w' he=>?_
 obtain⟨v,G2,β2,r,bs',U,rfl,h2⟩:=he
 obtain⟨hsl,hsg⟩:=Zol (hsz r bs' U)
 obtain⟨β1,hC1,hβ1⟩:=q.dropL (Me 0 names bs')
 have A:∀ {b k c s},names[k]?=some b→β b=some (c,s)→∀ blk',bs'[k]?=some blk'→Z1c k blk'=true→β2 k=some (c,s):=λ{b k c s} h hβ blk' V z=>by
  obtain⟨hpin,hne⟩:=Y4t z
  have J:pre k=some (c,s):=(Zap h).trans hβ
  rcases h2.heap k blk' ((Zi7 _ _).trans V) with ⟨-,g1,-⟩|⟨c',g0,g⟩
  ·exact absurd g1 hne
  ·have e:=g.pin k hpin
   have e':Γ'.pin k=c:=by
    show (match pre k with
     | some (c,_)=>c
     | none=>0)=c
    rw[J]
   obtain⟨b2,blk,E,L,T,-,f4⟩:=u J
   rw[h] at E; cases E
   obtain⟨blk2,bk,f5,f6,f7⟩:=W k b h
   rw[T] at f5; cases f5
   have hs1:=(hsg k _ _ f6 V).1
   rw[g0,← e,e',f4,← hs1,(Zl0 f7).1]
 obtain⟨hol,hog⟩:=Zuc (σ:=σ0.freezeL l) (ρ:=names) (j0:=0) (ρ':=names) (bs:=bs') (by omega)
 have H:∃ β3,Zk Γ (((σ0.freezeL l).dropL (Me 0 names bs')).setL names (Jm (σ0.freezeL l) names 0 names bs')) a w' G2 β3∧Zh w' G2 β3 v (outD names r):=by
  refine hC1.leave (bs2:=Jm (σ0.freezeL l) names 0 names bs') y h2 rfl rfl rfl hXs (λb c s h C hx=>?_) (λb k x C h=>?_) (λb k blk' C h=>?_) (λb k blk C h=>?_)
  ·obtain⟨k,s',z⟩:=hx
   obtain⟨b',blk,E,L,-⟩:=u z
   obtain rfl:=q.inj b b' c s s' (hβ1 b _ h).1 L
   rw[Z6z y E] at C; cases C
  ·have hg:=Z2r C
   obtain⟨K,I⟩:=hβ1 b x h
   have F:k<bs'.length:=by
    rw[← hsl,hbl]
    rcases Nat.lt_or_ge k names.length with m|m
    ·exact m
    ·rw[List.getElem?_eq_none m] at hg; cases hg
   have hkk:=Zt6 hg (List.getElem?_eq_getElem F) I
   rw[Nat.zero_add] at hkk
   exact A hg K _ (List.getElem?_eq_getElem F) hkk
  ·obtain⟨b',blk,pin,E,L,T,f4⟩:=hog k blk' h
   refine⟨blk,pin,L,T,λi c s C hc=>?_⟩
   obtain⟨g1,k0,g2,g3,g4⟩:=f4 i C
   rw[Nat.zero_add] at g1
   rcases q.heap b' k0 g2 with ⟨-,g5,-⟩|⟨c0,g5,g⟩
   ·exact absurd g5 g4
   ·have:=A E g5 blk L g1
    rw[hc] at this
    cases this
    exact g.pin i g3
  ·have F:k<bs'.length:=by
    rcases Nat.lt_or_ge k bs'.length with m|m
    ·exact m
    ·rw[List.getElem?_eq_none m] at h; cases h
   exact⟨_,List.getElem?_eq_getElem (by rw[hol]; exact F)⟩
 obtain⟨β3,k1,k2⟩:=H
 refine hn r bs' _ _ _ _ U (k1.put ?_ k2)
 intro t ht
 change t<((σ0.freezeL l).dropL _).n
 rw[Zsf,(Z44 l σ0).2,hn0]
 exact Jf Z t ht
theorem Zt3 (q:Zk Γ σ a w G β) {o:Oper} {fo:Operand} {args:Array Operand} {ts:Array TypeId} (r:o.op=.call { callee:= .value fo,args,argTypes:=ts }) {f:FuncId} {ds:List D} (h:funA (σ.ev fo)=some (f,ds)):
  ∃ vs:Array Value,(execOp a.eval o).run P w=(callFunc f vs).run P w∧(args.toList.map σ.ev++ds).length=vs.size∧∀ (j:Nat) v d,vs[j]?=some v→(args.toList.map σ.ev++ds)[j]?=some d→Zh w G β v d:=by
 have p:∀ (j:Nat) v d,(args.map a.eval)[j]?=some v→(args.toList.map σ.ev)[j]?=some d→Zh w G β v d:=λj v d k e=>by
  rw[Array.getElem?_map] at k
  obtain⟨x,z,rfl⟩:=Qg k
  rw[List.getElem?_map,Array.getElem?_toList,z] at e
  cases e
  exact W8 q x
 have hs:=W8 q fo
 unfold funA at h
 split at h
 ·rename_i g n
  cases h
  rw[n] at hs
  have i:a.eval fo=.func (.func f) #[] #[] :=by
   generalize a.eval fo=u at hs
   cases hs; rfl
  refine⟨args.map a.eval,by simp[execOp,r,resolve,i,Deferred.ofValue,invoke],by simp,λj v d k e=>p j v d k (by simpa using e)⟩
 ·rename_i g bs n
  cases h
  rw[n] at hs
  generalize i:a.eval fo=u at hs
  cases hs with
  | clo _ vs _ y m=>
   refine⟨args.map a.eval++vs,by simp[execOp,r,resolve,i,Deferred.ofValue,invoke],by simp[y],λj v d k e=>?_⟩
   rcases Nat.lt_or_ge j args.size with l|l
   ·rw[Array.getElem?_append_left (by simpa using l)] at k
    rw[List.getElem?_append_left (by simpa using l)] at e
    exact p j v d k e
   ·rw[Array.getElem?_append_right (by simpa using l)] at k
    rw[List.getElem?_append_right (by simpa using l)] at e
    simp only[Array.size_map,List.length_map,Array.length_toList] at k e
    rw[List.getElem?_map] at e
    obtain⟨b,t,rfl⟩:=Qg e
    obtain⟨c,sz,s,rfl⟩:=m _ v b k t
    have:=Zh.lptr (w:=w) (G:=G) (β:=β) b 0 0 c sz s
    simpa using this
 ·cases h
theorem Y39 (H:Zk Γ σ a w G β) {o:Oper} {fo:Operand} {args:Array Operand} {ts:Array TypeId} (N:o.op=.call { callee:= .value fo,args,argTypes:=ts }) {f:FuncId} {es:List D} (C:funA (σ.ev fo)=some (f,es))
  {told:X8} {io:IO} {σ':S} {q:Prop} (h:Z2i P σ o f (args.toList.map σ.ev++es) told io=some (σ',q)) (hq:q):Reach P Γ o a w σ':=by
 unfold Z2i at h
 split at h
 ·rename_i r T
  split at h
  ·rename_i σ0 I
   split at h
   ·rename_i ds l p K
    split at h
    ·rename_i bs A
     split at h
     ·rename_i d
      cases h
      obtain⟨hp,B,z,c⟩:=hq
      simp only[Bool.and_eq_true] at d
      obtain⟨⟨j,i⟩,hsz⟩:=d
      rw[← B] at c
      subst z
      obtain⟨vs,g,E,m⟩:=Zt3 (P:=P) H N C
      intro next Q M
      refine Zrr H g E m I K hp A j i (R:=λF bs'=>F=r∧bs'=io.bs') (λF bs' x=>by rw[x.2]; exact hsz) (λk b y=>?_) ⟨c.1,λΓ' vs' w' G' β' J=>(c.2 Γ' vs' w' G' β' J).mono λe U he=>?_⟩ next Q λF bs' O w' G' β' x u=>?_
      ·obtain⟨n,s⟩:=Zol hsz
       have L:k<io.bs'.length:=by
        rw[← n]
        rcases Nat.lt_or_ge k io.bs.length with t|t
        ·exact t
        ·rw[List.getElem?_eq_none t] at y; cases y
       exact(s k b _ y (List.getElem?_eq_getElem L)).2
      ·obtain⟨v,G2,β2,n,s⟩:=he
       exact⟨v,G2,β2,r,io.bs',⟨rfl,rfl⟩,n,s⟩
      ·obtain⟨rfl,rfl⟩:=x
       exact M _ _ _ _ u
     ·cases h
    ·cases h
   ·cases h
  ·cases h
 ·cases h
end Go.Den
