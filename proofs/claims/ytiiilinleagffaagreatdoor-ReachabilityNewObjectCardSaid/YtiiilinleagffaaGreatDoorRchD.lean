/-
  A call that keeps blocks without names: a context within a context; blocks of numbers that are named for a while.
-/
import Derived.Test.YtiiilinleagffaaGreatDoorDenClaim
import Derived.Test.YtiiilinleagffaaGreatDoorRch5
set_option linter.unusedVariables false
set_option linter.unusedSimpArgs false
namespace Go.Den
open Go.RowKit
variable {P:Program} {Γ:Ctx} {σ σ':S} {a a':Act} {w w':World} {G G':Nat→Nat} {β β':Nat→Option (Nat×Nat)}
def Ctx.sub (Γ:Ctx) (w:World) (G:Nat→Nat) (β:Nat→Option (Nat×Nat)):Ctx:=
 { B:=w.heap.size,X:=λc=>∃ b s,β b=some (c,s),w0:=w,G0:=G,hB:=Nat.le_refl _,pin:=Γ.pin }
theorem Va.ctx {Γ':Ctx} {c:Nat} {blk:Blk} (h:Va w G β Γ c blk) (ho:Γ'.B≤c∨Γ'.X c) (hp:Γ'.pin=Γ.pin):Va w G β Γ' c blk:=by
 obtain⟨own,pin,ty,frz,top,dat,hsz,cells⟩:=h
 exact⟨ho,λk hk=>by rw[hp]; exact pin k hk,ty,frz,top,dat,hsz,cells⟩
theorem Za.sub (h:Za Γ σ a w G β):Za (Γ.sub w G β) σ a w G β:=by
 refine⟨h.defers,h.size,h.tmps,λb blk hb=>?_,h.dom,h.inj,.refl _ _ _,λ_ _ _=>rfl,h.fresh,Nat.le_refl _,h.glob⟩
 rcases h.heap b blk hb with h0|⟨c,h0,hB⟩
 ·exact .inl h0
 ·exact .inr ⟨c,h0,hB.ctx (.inr ⟨b,_,h0⟩) rfl⟩
theorem Za.owned (h:Za Γ σ a w G β) {b c s:Nat} (hb:β b=some (c,s)):(Γ.B≤c∨Γ.X c)∧c<w.heap.size:=by
 obtain⟨blk,hk⟩:=h.dom b _ hb
 rcases h.heap b blk hk with ⟨h0,-⟩|⟨c',h0,hB⟩
 ·rw[hb] at h0; cases h0
 ·rw[hb] at h0; cases h0; exact⟨hB.own,hB.lt⟩
theorem Za.lift (h0:Za Γ σ a w G β) (h:Za (Γ.sub w G β) σ' a' w' G' β'):Za Γ σ' a' w' G' β':=by
 have hx:∀ k,k<Γ.B→ ¬ Γ.X k→ ¬ (Γ.sub w G β).X k:=λk hk hn ⟨b,s,hb⟩=>(h0.owned hb).1.elim (λh1=>by omega) hn
 have hk:Jf Γ.B Γ.X w w':=⟨h.kept.os,h.kept.tape,h.kept.output,h.kept.size,λk hk hn=>h.kept.block k (Nat.lt_of_lt_of_le hk h0.big) (hx k hk hn),h.kept.same⟩
 refine⟨h.defers,h.size,h.tmps,λb blk hb=>?_,h.dom,h.inj,h0.kept.trans hk,λc hc hn=>?_,h.fresh,Nat.le_trans h0.big h.kept.size,h.glob⟩
 ·rcases h.heap b blk hb with h1|⟨c,h1,hB⟩
  ·exact .inl h1
  ·refine .inr ⟨c,h1,hB.ctx ?_ rfl⟩
   rcases hB.own with h2|⟨b',s,h2⟩
   ·exact .inl (Nat.le_trans h0.big h2)
   ·exact(h0.owned h2).1
 ·rw[h.marks c (Nat.lt_of_lt_of_le hc h0.big) (hx c hc hn)]
  exact h0.marks c hc hn
theorem Za.frame (h:Za (Γ.sub w G β) σ' a' w' G' β') {c:Nat} (hc:c<w.heap.size) (hn:∀ b s,β b≠some (c,s)):w'.heap[c]?=w.heap[c]?∧G' c=G c∧∀ b s,β' b≠some (c,s):=by
 have hx: ¬ (Γ.sub w G β).X c:=λ⟨b,s,hb⟩=>hn b s hb
 refine⟨h.kept.block c hc hx,h.marks c hc hx,λb s hb=>?_⟩
 rcases (h.owned hb).1 with h1|h1
 ·exact absurd h1 (by show ¬ (w.heap.size≤c); omega)
 ·exact hx h1
def Ug (w:World) (c:Nat) (l:List Int) (cap:Nat):Prop:=∃ vs e fr,w.heap[c]?=some (.cells vs e fr)∧(∀ o,o<vs.size→ ¬ (fr.1≤o∧o<fr.2))∧l.length≤vs.size∧cap≤vs.size∧
 ∀ (i:Nat) x,l[i]?=some x→vs[i]?=some (.int .i64 x)
theorem Ug.same {c:Nat} {l:List Int} {cap:Nat} (h:Ug w c l cap) (hb:w'.heap[c]?=w.heap[c]?):Ug w' c l cap:=by
 obtain⟨vs,e,fr,h1,h2⟩:=h
 exact⟨vs,e,fr,hb.trans h1,h2⟩
def Uq (l:List Int) (pin:Option Nat):Blk:={ sz:=1,rows:=l.map Z1,frz:=0,pure:=true,pin }
theorem Zfc {l:List Int} {i j:Nat} {r:List D} {d:D} (hr:(l.map Z1)[i]?=some r) (hd:r[j]?=some d):j=0∧∃ x,l[i]?=some x∧d=.int .i64 x:=by
 rw[List.getElem?_map] at hr
 cases hx:l[i]? with
 | none=>rw[hx] at hr; cases hr
 | some x=>
  rw[hx] at hr; cases hr
  cases j with
  | zero=>cases hd; exact⟨rfl,x,rfl,rfl⟩
  | succ j=>simp[Z1] at hd
theorem Ug.rep {c:Nat} {l:List Int} {cap:Nat} (h:Ug w c l cap) (hG:G c=0) (ho:Γ.B≤c∨Γ.X c) {pin:Option Nat} (hp:∀ k,pin=some k→Γ.pin k=c):Va w G β Γ c (Uq l pin):=by
 obtain⟨vs,e,fr,h1,h2,h3,h4,h5⟩:=h
 refine⟨ho,hp,λt ht=>(by cases ht),λo ho=>(by omega),Nat.zero_le _,λ_ i j r d hr hd=>?_,λi r hr=>?_,vs,e,fr,h1,h2,by simpa [Uq] using h3,λi j r d hr hd=>?_⟩
 ·obtain⟨-,x,-,rfl⟩:=Zfc hr hd; rfl
 ·simp only[Uq,List.getElem?_map] at hr
  obtain⟨x,-,rfl⟩:=Xt hr
  rfl
 ·obtain⟨rfl,x,hx,rfl⟩:=Zfc hr hd
  exact⟨_,by simpa [Uq] using h5 i x hx,rfl,.int _ _⟩
theorem Ug.of {c:Nat} {l:List Int} {pin:Option Nat} (h:Va w G β Γ c (Uq l pin)) {cap:Nat} (hcap:∀ vs e fr,w.heap[c]?=some (.cells vs e fr)→cap≤vs.size):Ug w c l cap:=by
 obtain⟨vs,e,fr,h1,h2,h3,h4⟩:=h.cells
 refine⟨vs,e,fr,h1,h2,by simpa [Uq] using h3,hcap vs e fr h1,λi x hx=>?_⟩
 obtain⟨v,e1,-,e3⟩:=h4 i 0 [.int .i64 x] (.int .i64 x) (by simp[Uq,hx,Z1]) rfl
 cases e3
 simpa [Uq] using e1
theorem Za.refine (h:Za Γ σ a w G β) {b:Nat} {blk:Blk} (hb:σ.heap b=some blk) (rows:List (List D)) (hl:rows.length=blk.rows.length)
  (hr:∀ c vs e fr,β b=some (c,blk.sz)→w.heap[c]?=some (.cells vs e fr)→∀ (i:Nat) (r':List D),rows[i]?=some r'→r'.length=blk.sz∧∀ (j:Nat) d',r'[j]?=some d'→∀ r d v,blk.rows[i]?=some r→r[j]?=some d→vs[i*blk.sz+j]?=some v→one v=true→Z9 w G β v d→Z9 w G β v d') (p:Bool)
  (hp:p=true→∀ (i j:Nat) (r:List D) (d:D),rows[i]?=some r→r[j]?=some d→d.dat=true):
  Za Γ (σ.setB b (some { blk with rows:=rows,pure:=p })) a w G β:=by
 refine⟨h.defers,h.size,h.tmps,λu k hu=>?_,λu x hu=>?_,h.inj,h.kept,h.marks,h.fresh,h.big,h.glob⟩
 ·simp only[S.setB] at hu
  split at hu
  ·cases hu; rename_i hub; subst hub
   rcases h.heap _ blk hb with ⟨h0,h1,h2⟩|⟨c,h0,hB⟩
   ·refine .inl ⟨h0,?_,h2⟩
    rw[h1] at hl
    exact List.eq_nil_of_length_eq_zero hl
   ·refine .inr ⟨c,h0,?_⟩
    obtain⟨own,pin,ty,frz,top,dat,hsz,vs,e,fr,h1,h2,h3,h4⟩:=hB
    refine⟨own,pin,ty,frz,by rw[hl]; exact top,hp,λi r' hr'=>(hr c vs e fr h0 h1 i r' hr').1,vs,e,fr,h1,h2,by rw[hl]; exact h3,λi j r' d' hr' hd'=>?_⟩
    have hi:i<blk.rows.length:=by
     rw[← hl]
     rcases Nat.lt_or_ge i rows.length with h'|h'
     ·exact h'
     ·rw[List.getElem?_eq_none h'] at hr'; cases hr'
    obtain⟨r,hri⟩:∃ r,blk.rows[i]?=some r:=⟨_,List.getElem?_eq_getElem hi⟩
    have hj:j<r.length:=by
     rw[hsz i r hri,← (hr c vs e fr h0 h1 i r' hr').1]
     rcases Nat.lt_or_ge j r'.length with h'|h'
     ·exact h'
     ·rw[List.getElem?_eq_none h'] at hd'; cases hd'
    obtain⟨v,a1,a2,a3⟩:=h4 i j r r[j] hri (List.getElem?_eq_getElem hj)
    exact⟨v,a1,a2,(hr c vs e fr h0 h1 i r' hr').2 j d' hd' r _ v hri (List.getElem?_eq_getElem hj) a1 a2 a3⟩
  ·exact h.heap u k hu
 ·simp only[S.setB]
  split
  ·exact⟨_,rfl⟩
  ·exact h.dom u x hu
theorem Za.cellOf (h:Za Γ σ a w G β) {b:Nat} {blk:Blk} (hb:σ.heap b=some blk) {i j:Nat} {r:List D} {d:D} (hr:blk.rows[i]?=some r) (hd:r[j]?=some d):
  ∃ c vs e fr v,β b=some (c,blk.sz)∧w.heap[c]?=some (.cells vs e fr)∧vs[i*blk.sz+j]?=some v∧one v=true∧Z9 w G β v d:=by
 rcases h.heap b blk hb with ⟨-,h1,-⟩|⟨c,h0,hB⟩
 ·rw[h1] at hr; simp at hr
 ·obtain⟨vs,e,fr,h1,h2,h3,h4⟩:=hB.cells
  obtain⟨v,a1,a2,a3⟩:=h4 i j r d hr hd
  exact⟨c,vs,e,fr,v,h0,h1,a1,a2,a3⟩
theorem Za.unname (h:Za Γ σ a w G β) (b:Nat) (ht:∀ t,(σ.tmps t).kill b=σ.tmps t) (hh:∀ u k,u≠b→σ.heap u=some k→Blk.kill b k=k):
  Za Γ { σ with heap:=λu=>if u=b then none else σ.heap u } a w G (upd β b none):=by
 have h1:=h.drop b
 have e:σ.drop b={ σ with heap:=λu=>if u=b then none else σ.heap u }:=by
  unfold S.drop
  congr 1
  ·funext t; exact ht t
  ·funext u
   by_cases hu:u=b
   ·rw[if_pos hu,if_pos hu]
   ·rw[if_neg hu,if_neg hu]
    cases hk:σ.heap u with
    | none=>rfl
    | some k=>exact congrArg some (hh u k hu hk)
 rw[e] at h1
 exact h1
inductive Mw (w:World) (G:Nat→Nat) (B:Nat):Value→List Int→Prop
 | nil (x:Option Addr):Mw w G B (.slice x 0 0) []
 | blk (c cap:Nat) (l:List Int) (hcap:l.length≤cap) (hi:Ug w c l cap) (hG:G c=0) (hB:B≤c):Mw w G B (.slice (some ⟨c,0,none⟩) l.length cap) l
def TakeS (P:Program) (f:FuncId) (ds pre post:List D) (tos:List Int):Prop:=
 Ji P f=true∧∀ (w:World) (G:Nat→Nat) (vs:Array Value),(∀ c,w.heap.size≤c→G c=0)→Mo w G→Lv w G vs ds→
  Calls P f vs w λe w'=>∃ v G' u,e=.returned v∧Below w.heap.size w w'∧(∀ c,c<w.heap.size→G' c=G c)∧(∀ c,w'.heap.size≤c→G' c=0)∧
   Z9 w' G' (λ_=>none) v (.agg (pre++ .raw u::post))∧Mw w' G' w.heap.size u tos
def EndsT (P:Program) (fn:Func) (Q:List D→S→Prop):Exit→S→Prop:=λe σ=>(e=.ret∨e=.normal)∧∃ cs p,Z04 P σ fn.results.toList=some ([.agg cs],p)∧p∧Q cs σ
def OwnD (σ:S) (d:D) (l:List Int):Prop:=(d=.sl true []∧l=[])∨∃ b,d=.lsl b 0 (l.map Z1).length∧σ.heap b=some (Uq l none)
def Zqv (pre post:List D) (tos:List Int) (cs:List D) (σ:S):Prop:=∃ cpre d cpost l p,cs=cpre++d::cpost∧cpre.length=pre.length∧Vi σ (cpre++cpost)=some (pre++post,l,p)∧p∧OwnD σ d tos∧∀ b n,d=.lsl b 0 n→b ∉ l
theorem Zri:∀ (l:List Nat) (σ:S) {b:Nat},b ∉ l→(σ.freezeL l).heap b=σ.heap b
 | [],_,_,_=>rfl
 | x::l,σ,b,h=>by
  have h1:b≠x:=λe=>h (by simp[e])
  have h2:b ∉ l:=λe=>h (by simp[e])
  show ((σ.freeze x).freezeL l).heap b=_
  rw[Zri l (σ.freeze x) h2]
  simp[S.freeze,h1]
theorem Z9.fresh (h:Za Γ σ a w G β) {v:Value} {d:D} {l:List Int} (hv:Z9 w G β v d) (ho:OwnD σ d l):Mw w G Γ.B v l∨∃ b c s,d=.lsl b 0 (l.map Z1).length∧β b=some (c,s)∧Γ.X c:=by
 rcases ho with ⟨rfl,rfl⟩|⟨b,rfl,hb⟩
 ·cases hv with
  | slnil c x=>exact .inl (.nil x)
  | sl c b off n cap sz rows val hn hc hcap=>
   have h0:n=0:=by simpa using hn.symm
   subst h0
   obtain rfl:cap=0:=hc rfl
   exact .inl (.nil _)
 ·generalize hn:(l.map Z1).length=n at hv
  rw[List.length_map] at hn
  cases hv with
  | lslnil b x=>
   obtain rfl:=List.eq_nil_of_length_eq_zero hn
   exact .inl (.nil x)
  | lsl b lo n cap c sz off hβ hcap hoff hroom=>
   subst hn
   by_cases hz:cap=0
   ·subst hz
    obtain rfl:l=[] :=List.eq_nil_of_length_eq_zero (by omega)
    exact .inl (.nil _)
   ·have h0 : off=0:=by
     rcases hoff with h1|h1
     ·exact absurd h1 hz
     ·simpa using h1
    subst h0
    rcases h.heap b _ hb with ⟨h0,-⟩|⟨c',h0,hB⟩
    ·rw[hβ] at h0; cases h0
    ·rw[hβ] at h0
     simp only[Uq,Option.some.injEq,Prod.mk.injEq] at h0
     obtain⟨rfl,rfl⟩:=h0
     rcases hB.own with ho|ho
     ·refine .inl (.blk c cap l hcap (Ug.of hB λvs e fr hh=>?_) ?_ ho)
      ·obtain⟨vs',e',fr',k1,k2⟩:=hroom
       rw[hh] at k1; cases k1
       rcases k2 with k2|k2
       ·omega
       ·omega
      ·rcases Nat.eq_zero_or_pos (G c) with hg|hg
       ·exact hg
       ·have:=hB.frz 0 hg
        simp[Uq] at this
     ·exact .inr ⟨b,c,_,rfl,hβ,ho⟩
theorem Zzg {f:FuncId} {fn:Func} {c:Code} {ds pre post:List D} {tos:List Int} (hf:P.funcs[f]?=some fn) (hb:fn.body=some c) (hent:Ji P f=true) (hn:ds.length≤fn.ntmps)
  (h:∀ Γ:Ctx,DWP P Γ c (EndsT P fn (Zqv pre post tos)) (mkS fn.ntmps (Ve 0 ds) [])):TakeS P f ds pre post tos:=by
 refine⟨hent,λw G vs hG hgl hargs=>?_⟩
 let Γ:Ctx:={ B:=w.heap.size,X:=λ_=>False,w0:=w,G0:=G,hB:=Nat.le_refl _,pin:=λ_=>0 }
 have hC : Za Γ (mkS fn.ntmps (Ve 0 ds) []) { tmps:=vs++Array.replicate (fn.ntmps - vs.size) Go.undef,defers:=[] } w G (λ_=>none):=by
  refine⟨rfl,?_,λt=>?_,λb blk hb=>?_,λb x hx=>?_,λb b' c s s' hb=>?_,.refl _ _ _,λ_ _ _=>rfl,hG,Nat.le_refl _,hgl⟩
  ·simp only[Array.size_append,Array.size_replicate,mkS]; have:=hargs.size; omega
  ·show Z9 w G _ _ (ofL (Ve 0 ds) t)
   rw[Z3t,if_pos (Nat.zero_le _),Nat.sub_zero]
   rcases Nat.lt_or_ge t ds.length with ht|ht
   ·have ht':t<vs.size:=by rw[← hargs.size]; exact ht
    have e1:ds.getD t .undef=ds[t] :=by simp[List.getD,List.getElem?_eq_getElem ht]
    have e2:(vs++Array.replicate (fn.ntmps - vs.size) Go.undef).getD t Go.undef=vs[t] :=by
     rw[Array.getD_eq_getD_getElem?,Array.getElem?_append_left ht',Array.getElem?_eq_getElem ht']; rfl
    rw[e1,e2]
    exact hargs.rep t _ _ (Array.getElem?_eq_getElem ht') (List.getElem?_eq_getElem ht)
   ·have e1:ds.getD t .undef=.undef:=by simp[List.getD,List.getElem?_eq_none ht]
    rw[e1]; exact .undef _
  ·cases hb
  ·cases hx
  ·cases hb
 refine calls_of_wp hf hb (wp_mono (h Γ _ w G _ hC) λe a' w' ⟨σ',G',β',hC',he,cs,p,hr,hp,cpre,d,cpost,l,q,hcs,hlen,hd,hq,ho,hnl⟩=>?_)
 subst hcs
 obtain⟨vs,e1,e2,e3⟩:=Z97 (P:=P) hC' _ hr hp
 obtain ⟨v,rfl⟩:∃ v,vs=[v] :=by
  match vs,e2 with
  | [v],_=>exact⟨v,rfl⟩
 have hv:=e3 0 v _ rfl rfl
 obtain⟨us,rfl,k1,k2,k3⟩:=Jd hv
 obtain⟨G2,f1,f2,f3,f4⟩:=Z5b hC' hd hq
 have hi:cpre.length<us.size:=by rw[← k1]; simp
 obtain⟨u,hu⟩:∃ u,us[cpre.length]?=some u:=⟨_,Array.getElem?_eq_getElem hi⟩
 have hud:=k3 cpre.length _ d hu (by simp)
 -- the block stands as it stood
 have ho2:OwnD (σ'.freezeL l) d tos:=by
  rcases ho with ho|⟨b,h1,h2⟩
  ·exact .inl ho
  ·exact .inr ⟨b,h1,by rw[Zri l σ' (hnl b _ h1)]; exact h2⟩
 have hfr:Mw w' G2 w.heap.size u tos:=by
  rcases Z9.fresh f1 (hud.mono (λ_ _ _=>rfl) f2 (λ_ _ h=>h) (.refl w')) ho2 with h1|⟨b,c,s,-,-,h1⟩
  ·exact h1
  ·exact absurd h1 (λh=>h)
 have hagg:Z9 w' G2 (λ_=>none) (.agg us) (.agg (pre++ .raw u::post)):=by
  have hl2:(pre++post).length=(cpre++cpost).length:=f3
  refine .agg us _ ?_ k2 λj v d' hv hd'=>?_
  ·rw[← k1]; simp only[List.length_append,List.length_cons] at hl2 ⊢; omega
  ·rcases Nat.lt_trichotomy j cpre.length with hj|hj|hj
   ·rw[List.getElem?_append_left (by omega)] at hd'
    have hx:(cpre++d::cpost)[j]?=(cpre++cpost)[j]? :=by rw[List.getElem?_append_left hj,List.getElem?_append_left hj]
    have hex:∃ d0,(cpre++cpost)[j]?=some d0:=⟨_,List.getElem?_eq_getElem (by simp; omega)⟩
    obtain⟨d0,hd0⟩:=hex
    exact f4 j v d0 d' (k3 j v d0 hv (hx.trans hd0)) hd0 (by rw[List.getElem?_append_left (by omega)]; exact hd')
   ·subst hj
    rw[List.getElem?_append_right (by omega),hlen,Nat.sub_self] at hd'
    cases hd'
    rw[hu] at hv; cases hv
    exact .raw _ (k2 _ _ hu)
   ·rw[List.getElem?_append_right (by omega),show j - pre.length=(j - 1 - pre.length)+1 by omega,List.getElem?_cons_succ] at hd'
    have hx:(cpre++d::cpost)[j]?=(cpre++cpost)[j - 1]? :=by
     rw[List.getElem?_append_right (by omega),show j - cpre.length=(j - 1 - cpre.length)+1 by omega,List.getElem?_cons_succ,List.getElem?_append_right (by omega)]
    have hlt:j - 1<(cpre++cpost).length:=by
     rcases Nat.lt_or_ge (j - 1 - pre.length) post.length with h'|h'
     ·rw[← hl2,List.length_append]; omega
     ·rw[List.getElem?_eq_none h'] at hd'; cases hd'
    obtain⟨d0,hd0⟩:∃ d0,(cpre++cpost)[j - 1]?=some d0:=⟨_,List.getElem?_eq_getElem hlt⟩
    exact f4 (j - 1) v d0 d' (k3 j v d0 hv (hx.trans hd0)) hd0 (by rw[List.getElem?_append_right (by omega)]; exact hd')
 have hrun:(results fn a'.tmps).run P w'=.ok (.agg us) w':=by
  rw[Ziu,Array.mapM_eq_mapM_toList]
  simp only[Sem.run_bind,Sem.run_map,e1,Result.andThen_ok,Sem.run_pure]
  rfl
 have hR:∃ v' G' u,Ending.returned (.agg us)=.returned v'∧Below w.heap.size w w'∧(∀ c,c<w.heap.size→G' c=G c)∧(∀ c,w'.heap.size≤c→G' c=0)∧Z9 w' G' (λ_=>none) v' (.agg (pre++ .raw u::post))∧Mw w' G' w.heap.size u tos:=
  ⟨_,G2,_,rfl,⟨f1.kept.os,f1.kept.tape,f1.kept.output,f1.kept.size,λk hk=>f1.kept.block k hk (λh=>h)⟩,λc hc=>f1.marks c hc (λh=>h),f1.fresh,hagg,hfr⟩
 rcases he with rfl|rfl
 ·exact⟨hC'.defers,_,hrun,hR⟩
 ·exact⟨hC'.defers,_,hrun,hR⟩
theorem Zws (hC:Za Γ σ a w G β) {ops:Array Oper} {i:Nat} {o:Oper} (hi:ops[i]?=some o) (hg:o.guard=none) {fo:Operand} {args:Array Operand} {ts:Array TypeId} (ho:o.op=.call { callee:= .value fo,args,argTypes:=ts }) {f:FuncId} (hfo:σ.ev fo=.fn f)
  {ds pre post:List D} {tos:List Int} {p:Prop} (hd:Vi σ (args.toList.map σ.ev)=some (ds,[],p)) (hp:p) {t:Nat} (hdst:o.dst=some t) (ht:t<σ.n) (hT:TakeS P f ds pre post tos)
  {K:Act→World→Prop} {Q:Exit→Act→World→Prop} (hK:∀ v w' G' u,Za Γ (σ.put (some t) (.agg (pre++ .raw u::post))) (a.put (some t) v) w' G' β→Mw w' G' w.heap.size u tos→K (a.put (some t) v) w'):wpOp P ops Q i K a w:=by
 have hval:a.eval fo=.func (.func f) #[] #[] :=by
  have:=Vo hC fo
  rw[hfo] at this
  generalize a.eval fo=u at this
  cases this; rfl
 obtain⟨G',h1,h2,h3,h4⟩:=Z5b hC hd hp
 change Za Γ σ a w G' β at h1
 have hargs:Lv w G' (args.map a.eval) ds:=by
  refine⟨by rw[h3]; simp,λj v d hv hd=>?_⟩
  simp only[Array.getElem?_map] at hv
  obtain⟨x,hx,rfl⟩:=Xt hv
  exact h4 j _ (σ.ev x) d (Vo hC x) (by simp[hx]) hd
 have hrun0:(execOp a.eval o).run P w=(callFunc f (args.map a.eval)).run P w:=by
  simp[execOp,ho,resolve,hval,Deferred.ofValue,invoke]
 unfold wpOp
 rw[hi]
 have hw:Region.wanted o (yielded ops a.tmps)=true:=by unfold Region.wanted; rw[hg]
 dsimp only
 rw[hw]
 refine .inl ?_
 unfold Oper.wp
 rw[hrun0,Zlm hT.1,Oper.upon_enter]
 refine(hT.2 w G' _ h1.fresh h1.glob hargs).mono λe w' he=>?_
 obtain⟨v,G2,u,rfl,b1,b2,b3,b4,b5⟩:=he
 have hq':=h1.quiet b1
 have hG:∀ k,G' k≤G2 k:=λk=>by
  rcases Nat.lt_or_ge k w.heap.size with hk|hk
  ·rw[b2 k hk]; exact Nat.le_refl _
  ·rw[h1.fresh k hk]; exact Nat.zero_le _
 have hcell:∀ b o,o<G' b→w'.cell? ⟨b,o,none⟩=w'.cell? ⟨b,o,none⟩:=λ_ _ _=>rfl
 have hC2:Za Γ σ a w' G2 β:=by
  refine⟨hq'.defers,hq'.size,λt=>(hq'.tmps t).mono hcell hG (λ_ _ h=>h) (.refl w'),λb blk hb=>?_,hq'.dom,hq'.inj,hq'.kept,λc hc hx=>?_,b3,hq'.big,hq'.glob.mono hcell hG⟩
  ·rcases hq'.heap b blk hb with h0|⟨c,h0,hB⟩
   ·exact .inl h0
   ·rcases h1.heap b blk hb with ⟨h0',-⟩|⟨c',h0',hB'⟩
    ·rw[h0'] at h0; cases h0
    ·have hlt:=hB'.lt
     rw[h0'] at h0; cases h0
     exact .inr ⟨_,h0',hB.mono hcell hG (b2 _ hlt) (λ_ _ h=>h) (.refl w') rfl⟩
  ·rw[b2 c (Nat.lt_of_lt_of_le hc h1.big)]; exact h1.marks c hc hx
 have:=hC2.put (dst:=some t) (λt' h'=>by cases h'; exact ht) (b4.mono (λ_ _ _=>rfl) (λ_=>Nat.le_refl _) (λb x hx=>by cases hx) (.refl w'))
 rw[hdst]
 exact hK v w' G2 u this b5
theorem Zkw {x:Code} {Q:Exit→S→Prop} (hx:DWP P (Γ.sub w G β) x Q σ) (hC:Za Γ σ a w G β) {post:Exit→Act→World→Prop}
  (h:∀ e σ' a' w' G' β',Q e σ'→Za Γ σ' a' w' G' β'→Za (Γ.sub w G β) σ' a' w' G' β'→post e a' w'):x.wp P post a w:=
 wp_mono (hx a w G β hC.sub) λe a' w' ⟨σ',G',β',k1,k2⟩=>h e σ' a' w' G' β' k2 (hC.lift k1) k1
theorem seqS {x y:Code} {Q:Exit→S→Prop} (hx:DWP P (Γ.sub w G β) x Q σ) (hC:Za Γ σ a w G β) {post:Exit→Act→World→Prop}
  (hn:∀ σ' a' w' G' β',Q .normal σ'→Za Γ σ' a' w' G' β'→Za (Γ.sub w G β) σ' a' w' G' β'→y.wp P post a' w')
  (he:∀ e σ' a' w' G' β',e≠ .normal→Q e σ'→Za Γ σ' a' w' G' β'→Za (Γ.sub w G β) σ' a' w' G' β'→post e a' w'):(Code.seq x y).wp P post a w:=by
 refine wp_seq (Zkw hx hC λe σ' a' w' G' β' h1 h2 h3=>?_)
 cases e with
 | normal=>exact hn σ' a' w' G' β' h1 h2 h3
 | _=>exact he _ σ' a' w' G' β' (by simp) h1 h2 h3
theorem DWP.noX {c:Code} {Q:Exit→S→Prop} (hσ:∀ b,σ.heap b=none) (h:∀ Γ:Ctx,(∀ c,¬ Γ.X c)→DWP P Γ c Q σ):DWP P Γ c Q σ:=λa w G β hC=>
 wp_mono (h (Γ.sub w G β) (λc ⟨b,s,hb⟩=>by obtain⟨k,hk⟩:=hC.dom b _ hb; rw[hσ] at hk; cases hk) a w G β hC.sub) λ_ _ _ ⟨σ',G',β',k1,k2⟩=>⟨σ',G',β',hC.lift k1,k2⟩
def RdW {T R:Type} (I:T→Act→World→Prop) (J:R→Exit→Act→World→Prop):Ctl T R→Exit→Act→World→Prop
 | .next t',e,a,w=>e=.normal∧I t' a w
 | .done r,e,a,w=>e≠ .normal∧J r e a w
theorem loopS {T R:Type} {c:Code} {f:T→Option (Ctl T R)} {I:T→Act→World→Prop} {J:R→Exit→Act→World→Prop} {post:Exit→Act→World→Prop}
  (round:∀ t x,f t=some x→∀ a w,I t a w→c.wp P (RdW I J x) a w)
  {n:Nat} {t:T} {r:R} (h:Z7 f n t=some r) (hJ:∀ e a w,J r e a w→post e a w) {a:Act} {w:World} (hI:I t a w):(Code.loop c).wp P post a w:=by
 refine Zl1 (λn a w=>∃ t,Z7 f n t=some r∧I t a w) ?_ n a w ⟨t,h,hI⟩
 rintro n a w ⟨t,h,hC⟩
 cases n with
 | zero=>cases h
 | succ m=>
  refine⟨m,rfl,?_⟩
  unfold Z7 at h
  cases hf:f t with
  | none=>rw[hf] at h; cases h
  | some x=>
   rw[hf] at h
   refine wp_mono (round t x hf a w hC) λe a' w' h1=>?_
   cases x with
   | next t'=>
    obtain⟨rfl,h2⟩:=h1
    exact⟨t',h,h2⟩
   | done r'=>
    cases h
    obtain⟨hne,hk⟩:=h1
    cases e with
    | normal=>exact absurd rfl hne
    | _=>exact hJ _ _ _ hk
theorem prS0 {ops:Array Oper} {told:List (Nat×Yt)} {gs:List (Nat×Bool)} {l1 l2:List Nat} {p:Prop} (hC:Za Γ σ a w G β) (h:M4 P ops told gs l1 σ=some (σ',p)) (hp:p) {Q:Exit→Act→World→Prop}
  (hQ:∀ a' w' G' β',Za Γ σ' a' w' G' β'→Za (Γ.sub w G β) σ' a' w' G' β'→wpOps P ops Q l2 a' w'):wpOps P ops Q (l1++l2) a w:=
 Zlt l1 hC.sub h hp λa' w' G' β' h1=>hQ a' w' G' β' (hC.lift h1) h1
namespace W
def iaN (b m:Nat) {i:Int} {j:Nat} (h:Xq i m=some j):GT:=
 GT.of { ans:= .val (.lptr b j 0) } (p:=0≤i∧i<((m:Nat):Int)∧((0:Nat):Int)+i=j) (Lb h rfl)
def lnN (m:Nat):GT:=GT.of { ans:= .val (.int .i64 m) } (p:=(m:Int)=(m:Int)) rfl
def PQ (e0:Exit) (x:SL):Exit→S→Prop:=λe σ=>e=e0∧Sub σ x.s
theorem pg {e0:Exit} {ev:Ev} {x:SL} (cv:List Wa:=[]) (ps:List (Nat×Nat):=x.ps) (hk:(Ws cv x.ts ps σ,σ.n,et ev)=(some (x.l,x.bl),x.n,some e0):=by kernel_rfl):E P Γ (PQ e0 x) σ ev:=by
 have h1:=congrArg Prod.fst hk
 have h2:=congrArg (λx=>x.2.1) hk
 have h3:=congrArg (λx=>x.2.2) hk
 dsimp only at h1 h2 h3
 have hs:Sub σ x.s:=Jz (cv:=cv) (ps:=ps) (by rw[h1,h2])
 cases ev <;> cases h3 <;> exact⟨⟨rfl,hs⟩⟩
theorem L2 {x y:Code} {z:SL} (hx:∀ {Γ:Ctx},A P Γ x [] (PQ .normal z) σ) (hC:Za Γ σ a w G β) {post:Exit→Act→World→Prop}
  (h:∀ a' w' G' β',Za Γ z.s a' w' G' β'→Za (Γ.sub w G β) z.s a' w' G' β'→y.wp P post a' w'):(Code.seq x y).wp P post a w:=
 seqS (Q:=PQ .normal z) hx.h hC (λσ' a' w' G' β' h1 _ h3=>by
  obtain⟨G2,β2,h4⟩:=h1.2 _ _ _ _ _ h3
  exact h a' w' G2 β2 (hC.lift h4) h4) λe σ' a' w' G' β' hne h1 _ _=>absurd h1.1 hne
theorem seqE {x y:Code} {z:SL} {e0:Exit} (hne:e0≠ .normal) (hx:∀ {Γ:Ctx},A P Γ x [] (PQ e0 z) σ) (hC:Za Γ σ a w G β) {post:Exit→Act→World→Prop}
  (h:∀ a' w' G' β',Za Γ z.s a' w' G' β'→Za (Γ.sub w G β) z.s a' w' G' β'→post e0 a' w'):(Code.seq x y).wp P post a w:=
 seqS (Q:=PQ e0 z) hx.h hC (λσ' a' w' G' β' h1 _ h3=>absurd h1.1.symm hne) λe σ' a' w' G' β' _ h1 _ h3=>by
  obtain⟨rfl,h1⟩:=h1
  obtain⟨G2,β2,h4⟩:=h1 _ _ _ _ _ h3
  exact h a' w' G2 β2 (hC.lift h4) h4
theorem pieceC {x:Code} {z:SL} {e0:Exit} (hx:∀ {Γ:Ctx},A P Γ x [] (PQ e0 z) σ) (hC:Za Γ σ a w G β) {post:Exit→Act→World→Prop}
  (h:∀ a' w' G' β',Za Γ z.s a' w' G' β'→Za (Γ.sub w G β) z.s a' w' G' β'→post e0 a' w'):x.wp P post a w:=
 Zkw (Q:=PQ e0 z) hx.h hC λe σ' a' w' G' β' h1 _ h3=>by
  obtain⟨rfl,h1⟩:=h1
  obtain⟨G2,β2,h4⟩:=h1 _ _ _ _ _ h3
  exact h a' w' G2 β2 (hC.lift h4) h4
theorem prS {ops:Array Oper} {l:List Nat} (hC:Za Γ σ a w G β) (m:Nat) (rs:List (Nat×GT)) {z:SL} (cv:List Wa:=[]) (ps:List (Nat×Nat):=z.ps) {Q:Exit→Act→World→Prop}
  (h:∀ a' w' G' β',Za Γ z.s a' w' G' β'→Za (Γ.sub w G β) z.s a' w' G' β'→wpOps P ops Q (l.drop m) a' w')
  (hk:((Z2h P ops rs (l.take m) σ).q,Ws cv z.ts ps (Z2h P ops rs (l.take m) σ).s,(Z2h P ops rs (l.take m) σ).s.n)=(some (Z1w rs []),some (z.l,z.bl),z.n):=by kernel_rfl):wpOps P ops Q l a w:=by
 have k1:=congrArg Prod.fst hk
 have k2:=congrArg (λx=>x.2.1) hk
 have k3:=congrArg (λx=>x.2.2) hk
 dsimp only at k1 k2 k3
 unfold Z2h at k1 k2 k3
 split at k1
 ·rename_i σ1 q hr
  rw[hr] at k2 k3
  obtain⟨p,e,hp⟩:=Z5g _ hr (by cases k1; exact Z84 rs trivial)
  have hs:Sub σ1 z.s:=Jz (cv:=cv) (ps:=ps) (by rw[show Ws cv z.ts ps σ1=_ from k2,show σ1.n=_ from k3])
  rw[← List.take_append_drop m l]
  exact prS0 hC e hp λa' w' G' β' _ h1=>by
   obtain⟨G2,β2,h4⟩:=hs _ _ _ _ _ h1
   exact h a' w' G2 β2 (hC.lift h4) h4
 ·cases k1
theorem rtT {fn:Func} {ev:Ev} {cs:List D} {Q:List D→S→Prop} (hQ:Q cs σ) (hk:(fin ev,Z04 P σ fn.results.toList)=(true,some ([.agg cs],tN fn.results.size)):=by kernel_rfl):E P Γ (EndsT P fn Q) σ ev:=by
 have h1:=congrArg Prod.fst hk
 have h2:=congrArg Prod.snd hk
 dsimp only at h1 h2
 cases ev <;> first|cases h1|skip
 ·exact⟨⟨.inl rfl,_,_,h2,tNi _,hQ⟩⟩
 ·exact⟨⟨.inr rfl,_,_,h2,tNi _,hQ⟩⟩
end W
end Go.Den
namespace Go.Proofs
open Tryz
open Go.Den Go.Den.W
def Z06 (x:Z6):List D:=[dI x.f_Op,dI x.f_A,dI x.f_B,dI x.f_To,.sl false (x.Y9.map Z1)]
def Z01 (x:Z6):List D:=[.str x.Yr.Zq,.str x.Yr.Ze,.str x.Yr.Xb,.str x.f_S]
abbrev EndT (r:Z6):Exit→S→Prop:=EndsT prog f213 (Zqv (Z06 r) (Z01 r) r.Zh)
theorem rtN {Γ:Ctx} {σ:S} {ev:Ev} {x r:Z6} (h:some x=some r) (hk0:x.Y9=[]) (ht0:x.Zh=[])
  (hk:(fin ev,Z04 prog σ f213.results.toList)=(true,some ([.agg [dI x.f_Op,dI x.f_A,dI x.f_B,dI x.f_To,.sl true [],.sl true [],.str x.Yr.Zq,.str x.Yr.Ze,.str x.Yr.Xb,.str x.f_S]],tN f213.results.size)):=by kernel_rfl):E prog Γ (EndT r) σ ev:=by
 cases h
 refine rtT ⟨[dI x.f_Op,dI x.f_A,dI x.f_B,dI x.f_To,.sl true []],.sl true [],Z01 x,[],True∧(True∧(True∧(True∧(True∧(True∧(True∧(True∧(True∧True)))))))),rfl,rfl,?_,?_,.inl ⟨rfl,ht0⟩,λb n h=>(by cases h)⟩ hk
 ·unfold Z06; rw[hk0]; rfl
 ·exact⟨trivial,trivial,trivial,trivial,trivial,trivial,trivial,trivial,trivial,trivial⟩
theorem t164 {x0:List UInt8} {x1 x2:Int} {r:Z6} (h:Zd0 x0 x1 x2=some r):TakeS prog 213 [.str x0,dI x1,dI x2] (Z06 r) (Z01 r) r.Zh:=by
 refine Zzg (fn:=f213) (c:=U3 f213) (by kernel_rfl) (by kernel_rfl) (by kernel_rfl) (Nat.le_of_ble_eq_true (by kernel_rfl)) λΓ=>A.h (K:=[]) ?_
 exact bd h λv0 e0 h=>go [] [rg 2 [(1,k (w159 e0))]]<|br h (λh0 h=>bd h λv1 e1 h=>bd h λv2 e2 h=>go [] [rg 4 [(2,n e1),(3,k (w223 e2))]]<|rtN h rfl rfl) λh0 h=>
 go [] [] <| br h (λh1 h=>bd h λv3 e3 h=>bd h λv4 e4 h=>go [] [rg 6 [(2,n e3),(3,k (Kw e4))]]<|rtN h rfl rfl) λh1 h=>
  go [] [] <| br h (λh2 h=>bd h λv5 e5 h=>bd h λv6 e6 h=>go [] [rg 8 [(2,n e5),(3,k (Kw e6))]]<|rtN h rfl rfl) λh2 h=>
   go [] []<|br h (λh3 h=>bd h λv7 e7 h=>bd h λv8 e8 h=>go [] [rg 10 [(2,n e7),(3,k (Kw e8))]]<|rtN h rfl rfl) λh3 h=>
    go [] []<|br h (λh4 h=>bd h λv9 e9 h=>bd h λv10 e10 h=>bd h λv11 e11 h=>bd h λv12 e12 h=>go [] [rg 12 [(2,n e9),(3,k (Kw e10))],rg 13 [(2,n e11),(3,k (w223 e12))]]<|rtN h rfl rfl) λh4 h=>
     go [] []<|br h (λh5 h=>bd h λv13 e13 h=>bd h λv14 e14 h=>bd h λv15 e15 h=>bd h λv16 e16 h=>bd h λv17 e17 h=>bd h λv18 e18 h=>go [] [rg 15 [(2,n e13),(3,k (Kw e14))],rg 16 [(2,n e15),(3,k (w223 e16))],rg 17 [(2,n e17),(3,k (Kw e18))]]<|bd h λq0 e33 h=>lp (cv:=[.blk 7 5 1007 1]) e33 (wl213x1 v14 v16 x2)<|qe<|goN [] []<|by
       cases h
       exact rtT ⟨[dI x2,dI v16,dI 0,dI v14,.sl true []],.lsl 1007 0 ((q0.map Z1).length),[.str [],.str [],.str [],.str []],[],True∧(True∧(True∧(True∧(True∧(True∧(True∧(True∧(True∧True)))))))),rfl,rfl,rfl,⟨trivial,trivial,trivial,trivial,trivial,trivial,trivial,trivial,trivial,trivial⟩,.inr ⟨1007,rfl,by kernel_rfl⟩,λb n h=>by simp⟩) λh5 h=>
      go [] []<|br h (λh9 h=>bd h λv33 e34 h=>bd h λv34 e35 h=>bd h λv35 e36 h=>bd h λv36 e37 h=>go [] [rg 23 [(2,n e34),(3,k (Kw e35))],rg 24 [(2,n e36),(3,k (Kw e37))]]<|bd h λq2 e65 h=>lp (cv:=[.blk 7 4 1007 1,.blk 7 5 2007 1]) e65 (wl213x2 v34 x2)<|qe<|goN [] []<|by
       cases h
       exact rtT ⟨[dI x2,dI 0,dI 0,dI v34,.lsl 1007 0 ((q2.1.map Z1).length)],.lsl 2007 0 ((q2.2.map Z1).length),[.str [],.str [],.str [],.str []],[1007],True∧(True∧(True∧(True∧((0+(q2.1.map Z1).length≤(q2.1.map Z1).length)∧(True∧(True∧(True∧(True∧True)))))))),rfl,rfl,
        (Eq.trans (b:=some ([dI x2,dI 0,dI 0,dI v34,rw_ q2.1,.str [],.str [],.str [],.str []],[1007],True∧(True∧(True∧(True∧((0+(q2.1.map Z1).length≤(q2.1.map Z1).length)∧(True∧(True∧(True∧(True∧True)))))))))) (by kernel_rfl) (by unfold Z06 Z01; simp only[rwE]; rfl)),⟨trivial,trivial,trivial,trivial,by omega,trivial,trivial,trivial,trivial,trivial⟩,.inr ⟨2007,rfl,by kernel_rfl⟩,λb n h=>by cases h; simp⟩) λh9 h=>
       go [] []<|rtN h rfl rfl
end Go.Proofs
namespace Go.Proofs
open Tryz
open Go.Den Go.Den.W
def Mh (y0:(List Z6)×Int):D:= .tup [.sl false (y0.1.map Zm),.int .i64 y0.2]
def Z6s (x0:List UInt8) (t0:Int×(List Z6)×(List Int)):Option (Ctl (Int×(List Z6)×(List Int)) (((List Z6)×(List Int))⊕((List Z6)×Int))):=
 if (decide (t0.1<(x0.length:Int)))=true then
  ((Vh x0 t0.1).bind λv14=>
  (some (IntKind.wrap .i64 v14)).bind λv15=>
  if (decide (v15≥81))=true then
   (some (.done (.inr (([]:List Z6),15)))) else
  ((Z90 x0 t0.1 v15).bind λv16=>
   if (decide (v16<0))=true then
    (some (.done (.inr (([]:List Z6),3)))) else
   ((Zd0 x0 t0.1 v15).bind λv17=>
    (Ye 144 (t0.2.1++[v17]).length).bind λv18=>
    (Ye 8 (t0.2.2++[t0.1]).length).bind λv19=>
    (some (IntKind.wrap .i64 (t0.1+v16))).bind λv20=>
    some (.next (v20,(t0.2.1++[v17]),(t0.2.2++[t0.1])))))) else
 (some (.done (.inl ((t0.2.1,t0.2.2)))))
abbrev YI:=Z6×D
def Qv (y:YI):List D:=Z06 y.1++y.2::Z01 y.1
instance rowYI:Row YI:=⟨Qv,10,λ_=>rfl⟩
def Mem (Γ:Ctx) (w:World) (G:Nat→Nat) (β:Nat→Option (Nat×Nat)) (y:YI):Option Nat→Prop
 | none=>∃ x,y.2=.raw (.slice x 0 0)∧y.1.Zh=[]
 | some c=>∃ cap,y.2=.raw (.slice (some ⟨c,0,none⟩) y.1.Zh.length cap)∧y.1.Zh.length≤cap∧Ug w c y.1.Zh cap∧G c=0∧Γ.B≤c∧∀ b s,β b≠some (c,s)
structure Fam (Γ:Ctx) (w:World) (G:Nat→Nat) (β:Nat→Option (Nat×Nat)) (ys:List YI) (loc:Nat→Option Nat):Prop where
 mem:∀ (k:Nat) y,ys[k]?=some y→Mem Γ w G β y (loc k)
 inj:∀ j k c,loc j=some c→loc k=some c→j<ys.length→k<ys.length→j=k
variable {Γ:Ctx} {σ σ':S} {a a':Act} {w w':World} {G G':Nat→Nat} {β β':Nat→Option (Nat×Nat)}
theorem Ug.lt {c:Nat} {l:List Int} {cap:Nat} (h:Ug w c l cap):c<w.heap.size:=by
 obtain⟨vs,e,fr,h1,-⟩:=h
 exact(Array.getElem?_eq_some_iff.1 h1).1
theorem Mem.frame {y:YI} {o:Option Nat} (h:Mem Γ w G β y o) (hC:Za (Γ.sub w G β) σ' a' w' G' β'):Mem Γ w' G' β' y o:=by
 cases o with
 | none=>exact h
 | some c=>
  obtain⟨cap,h1,h2,h3,h4,h5,h6⟩:=h
  obtain⟨k1,k2,k3⟩:=hC.frame (Ug.lt h3) h6
  exact⟨cap,h1,h2,h3.same k1,k2.trans h4,h5,k3⟩
theorem Fam.frame {ys:List YI} {loc:Nat→Option Nat} (h:Fam Γ w G β ys loc) (hC:Za (Γ.sub w G β) σ' a' w' G' β'):Fam Γ w' G' β' ys loc:=
 ⟨λk y hk=>(h.mem k y hk).frame hC,h.inj⟩
theorem Fam.none:Fam Γ w G β [] (λ_=>none):=⟨λk y h=>(by simp at h),λj k c h=>(by cases h)⟩
theorem Fam.snoc1 {ys:List YI} {loc:Nat→Option Nat} (h:Fam Γ w G β ys loc) {y:YI} {o:Option Nat} (hm:Mem Γ w G β y o) (hn:∀ k c,o=some c→k<ys.length→loc k≠some c):
  Fam Γ w G β (ys++[y]) (λk=>if k=ys.length then o else loc k):=by
 refine⟨λk z hk=>?_,λj k c hj hk h1 h2=>?_⟩
 ·rcases Nat.lt_trichotomy k ys.length with h1|h1|h1
  ·rw[List.getElem?_append_left h1] at hk
   rw[if_neg (by omega)]
   exact h.mem k z hk
  ·subst h1
   rw[List.getElem?_append_right (Nat.le_refl _),Nat.sub_self] at hk
   cases hk
   rw[if_pos rfl]
   exact hm
  ·rw[List.getElem?_eq_none (by simp; omega)] at hk
   cases hk
 ·simp only[List.length_append,List.length_cons,List.length_nil] at h1 h2
  split at hj
  ·split at hk
   ·omega
   ·exact absurd hk (hn k c hj (by omega))
  ·split at hk
   ·exact absurd hj (hn j c hk (by omega))
   ·exact h.inj j k c hj hk (by omega) (by omega)
theorem Fam.snoc {ys:List YI} {loc:Nat→Option Nat} (h:Fam Γ w G β ys loc) (h0:Za Γ σ a w G β) (hC:Za (Γ.sub w G β) σ' a' w' G' β) {x:Z6} {u:Value} (hu:Mw w' G' w.heap.size u x.Zh):
  ∃ loc',Fam Γ w' G' β (ys++[(x,.raw u)]) loc':=by
 have h1:=h.frame hC
 generalize ht:x.Zh=l at hu
 cases hu with
 | nil z=>exact⟨_,h1.snoc1 (o:=Option.none) ⟨z,rfl,ht⟩ (λk c hc=>by cases hc)⟩
 | blk c cap _ hcap hi hG hB=>
  refine⟨_,h1.snoc1 (o:=some c) ⟨cap,?_,?_,?_,hG,Nat.le_trans h0.big hB,λb s hb=>?_⟩ λk c' hc hk hl=>?_⟩
  ·show D.raw _=_
   rw[← ht]
  ·show x.Zh.length≤cap
   rw[ht]; exact hcap
  ·show Ug w' c x.Zh cap
   rw[ht]; exact hi
  ·have:=(h0.owned hb).2
   omega
  ·cases hc
   obtain⟨y,hy⟩:∃ y,ys[k]?=some y:=⟨_,List.getElem?_eq_getElem hk⟩
   have hm:=h.mem k y hy
   rw[hl] at hm
   obtain⟨cap',-,-,h3,-⟩:=hm
   have:=Ug.lt h3
   omega
theorem rE {P:Program} {fn:Func} {R:Type} {res:R→D} {y:R} {ev:Ev} (hk:(et ev,Z1c P fn σ)=(some .ret,some (res y,tN fn.results.size∧pR (res y))):=by kernel_rfl):E P Γ (λe σ=>e=.ret∧Go.Den.Ends P fn (res y) .ret σ) σ ev:=by
 have h1:=congrArg Prod.fst hk
 have h2:=congrArg Prod.snd hk
 dsimp only at h1 h2
 cases ev <;> cases h1
 exact⟨⟨rfl,.inl rfl,_,h2,tNi _,pRi _⟩⟩
def bI (ys:List YI):Nat×Blk:=(4,{ sz:=10,rows:=ys.map Qv,frz:=0,pure:=true })
def bP (ps:List Int):Nat×Blk:=(5,{ sz:=1,rows:=ps.map Z1,frz:=0,pure:=true })
def tI (ys:List YI):Nat×D:=(4,.lsl 4 0 (ys.map Qv).length)
def tP (ps:List Int):Nat×D:=(5,.lsl 5 0 (ps.map Z1).length)
def sY1 (x0:List UInt8) (at_:Int) (ys:List YI) (ps:List Int):SL:=⟨130,[(0,.str x0),tI ys,tP ps,(6,dI at_)],[bI ys,bP ps]⟩
def sY1b (x0:List UInt8) (at_ v15:Int) (ys:List YI) (ps:List Int):SL:=⟨130,[(0,.str x0),tI ys,tP ps,(6,dI at_),(7,dI v15)],[bI ys,bP ps]⟩
def sY1d (x0:List UInt8) (at_ v15 v16:Int) (ys:List YI) (ps:List Int):SL:=⟨130,[(0,.str x0),tI ys,tP ps,(6,dI at_),(7,dI v15),(8,dI v16)],[bI ys,bP ps]⟩
def sY1e (x0:List UInt8) (at_ v15 v16:Int) (ys:List YI) (ps:List Int):SL:=⟨130,[(0,.str x0),tI ys,tP ps,(6,dI at_),(7,dI v15),(8,dI v16),(32,.lsl 4 0 (ys.map Qv).length),(33,.str x0),(34,dI at_),(35,dI v15)],[bI ys,bP ps]⟩
def sJ1 (ys:List YI) (ps:List Int):SL:=⟨130,[tI ys,tP ps],[bI ys,bP ps]⟩
def c1A (f:Func):Code:=U9 (lpC f 175)
def c1 (f:Func):Code:=U9 (Qr (lpC f 175))
def c1B (f:Func):Code:=U9 (c1 f)
def c1C (f:Func):Code:=U9 (Qr (c1 f))
def c1D (f:Func):Code:=U9 (Qr (Qr (c1 f)))
def c1E (f:Func):Code:=U9 (Qr (Qr (Qr (c1 f))))
def c1F (f:Func):Code:=U9 (Qr (Qr (Qr (Qr (c1 f)))))
def c1G (f:Func):Code:=Qr (Qr (Qr (Qr (Qr (c1 f)))))
theorem b1_eq:lpC f202 175=.seq (c1A f202) (.block 1 (.seq (c1B f202) (.seq (c1C f202) (.seq (c1D f202) (.seq (c1E f202) (.seq (c1F f202) (c1G f202))))))):=by kernel_rfl
theorem c1F_eq:(c1F f202)=.region 13 (Z00 (c1F f202)) false:=by kernel_rfl
def Ret (y:(List Z6)×Int):Exit→S→Prop:=λe σ=>e=.ret∧Go.Den.Ends prog f202 (Mh y) .ret σ
section
variable {x0:List UInt8} {at_ v14 v15 v16 v20:Int} {ys:List YI} {ps:List Int}
theorem p1A1 (h:decide (at_<(x0.length:Int))=true):A prog Γ (c1A f202) [] (PQ .normal (sY1 x0 at_ ys ps)) (sY1 x0 at_ ys ps).s:=go [] []<|bT h<|go [] []<|pg
theorem p1A0 (h:decide (at_<(x0.length:Int))=false):A prog Γ (c1A f202) [] (PQ (.exit 0) (sJ1 ys ps)) (sY1 x0 at_ ys ps).s:=go [] []<|bF h<|go [] []<|pg
theorem p1B (h:Vh x0 at_=some v14) (h2:some (IntKind.wrap .i64 v14)=some v15):A prog Γ (c1B f202) [] (PQ .normal (sY1b x0 at_ v15 ys ps)) (sY1 x0 at_ ys ps).s:=go [] [rg 7 [(2,ib h),(3,n h2)]]<|pg
theorem p1C1 (h:decide (v15≥81)=true):A prog Γ (c1C f202) [] (Ret ([],15)) (sY1b x0 at_ v15 ys ps).s:=go [] []<|bT h<|go [] []<|rE
theorem p1C0 (h:decide (v15≥81)=false):A prog Γ (c1C f202) [] (PQ .normal (sY1b x0 at_ v15 ys ps)) (sY1b x0 at_ v15 ys ps).s:=go [] []<|bF h<|go [] []<|pg
theorem p1D (h:Z90 x0 at_ v15=some v16):A prog Γ (c1D f202) [] (PQ .normal (sY1d x0 at_ v15 v16 ys ps)) (sY1b x0 at_ v15 ys ps).s:=go [] [rg 10 [(3,k (w212 h))]]<|pg
theorem p1E1 (h:decide (v16<0)=true):A prog Γ (c1E f202) [] (Ret ([],3)) (sY1d x0 at_ v15 v16 ys ps).s:=go [] []<|bT h<|go [] []<|rE
theorem p1E0 (h:decide (v16<0)=false):A prog Γ (c1E f202) [] (PQ .normal (sY1d x0 at_ v15 v16 ys ps)) (sY1d x0 at_ v15 v16 ys ps).s:=go [] []<|bF h<|go [] []<|pg
theorem p1G {u:Unit} (h:Ye 8 (ps++[at_]).length=some u) (h2:some (IntKind.wrap .i64 (at_+v16))=some v20):A prog Γ (c1G f202) [] (PQ .normal (sY1 x0 v20 ys (ps++[at_]))) (sY1d x0 at_ v15 v16 ys ps).s:=
 go [] [rg 14 [(2,br0 1 0),(3,ap h)],rg 15 [(2,n h2)]]<|pg
end
def o13 (f:Func):Option Oper:=(Z00 (c1F f))[4]?
theorem Zqx:(o13 f202).isSome=true:=by kernel_rfl
def o13g (f:Func) (h:(o13 f).isSome=true):Oper:=(o13 f).get h
theorem o13_eq:(Z00 (c1F f202))[4]?=some (o13g f202 Zqx):=(Option.some_get Zqx).symm
def I1 (Γ:Ctx) (x0:List UInt8) (t:Int×(List Z6)×(List Int)) (a:Act) (w:World):Prop:=
 ∃ ys G β loc,ys.map Prod.fst=t.2.1∧Za Γ (sY1 x0 t.1 ys t.2.2).s a w G β∧Fam Γ w G β ys loc
def J1 (Γ:Ctx) (r:((List Z6)×(List Int))⊕((List Z6)×Int)) (e:Exit) (a:Act) (w:World):Prop:=match r with
 | .inl q=>e=.exit 0∧∃ ys G β loc,ys.map Prod.fst=q.1∧Za Γ (sJ1 ys q.2).s a w G β∧Fam Γ w G β ys loc
 | .inr y=>∃ σ G β,Za Γ σ a w G β∧Ret y e σ
theorem Zej {x y:Code} {z:(List Z6)×Int} (hx:∀ {Γ:Ctx},A prog Γ x [] (Ret z) σ) (hC:Za Γ σ a w G β) {post:Exit→Act→World→Prop}
  (h:∀ a' w',J1 Γ (.inr z) .ret a' w'→post .ret a' w'):(Code.seq x y).wp prog post a w:=
 seqS (Q:=Ret z) hx.h hC (λσ' a' w' G' β' h1 _ _=>absurd h1.1 (by simp)) λe σ' a' w' G' β' _ h1 h2 _=>by
  obtain⟨rfl,h1⟩:=h1
  exact h a' w' ⟨σ',G',β',h2,rfl,h1⟩
theorem round1 {x0:List UInt8} (t:Int×(List Z6)×(List Int)) (x) (h:Z6s x0 t=some x) (a:Act) (w:World) (hI:I1 Γ x0 t a w):
  (lpC f202 175).wp prog (RdW (I1 Γ x0) (J1 Γ) x) a w:=by
 obtain⟨ys,G,β,loc,hys,hC,hF⟩:=hI
 obtain⟨at_,l,ps⟩:=t
 dsimp only at hys hC
 subst hys
 rw[b1_eq]
 unfold Z6s at h
 dsimp only at h
 refine sp h (λh1 h=>?_) λh1 h=>?_
 rotate_left
 ·cases h
  exact seqE (by simp) (p1A0 h1) hC λa1 w1 G1 β1 hC1 hS1=>⟨by simp,rfl,ys,G1,β1,loc,rfl,hC1,hF.frame hS1⟩
 refine bd h λv14 e14 h=>bd h λv15 e15 h=>?_
 refine L2 (p1A1 h1) hC λa1 w1 G1 β1 hC1 hS1=>wp_block ?_
 have hF1:=hF.frame hS1
 refine L2 (p1B e14 e15) hC1 λa2 w2 G2 β2 hC2 hS2=>?_
 have hF2:=hF1.frame hS2
 refine sp h (λh2 h=>?_) λh2 h=>?_
 ·cases h
  exact Zej (p1C1 h2) hC2 λa' w' hJ=>⟨by simp,hJ⟩
 refine bd h λv16 e16 h=>?_
 refine L2 (p1C0 h2) hC2 λa3 w3 G3 β3 hC3 hS3=>?_
 have hF3:=hF2.frame hS3
 refine L2 (p1D e16) hC3 λa4 w4 G4 β4 hC4 hS4=>?_
 have hF4:=hF3.frame hS4
 refine sp h (λh3 h=>?_) λh3 h=>?_
 ·cases h
  exact Zej (p1E1 h3) hC4 λa' w' hJ=>⟨by simp,hJ⟩
 refine bd h λv17 e17 h=>bd h λv18 e18 h=>bd h λv19 e19 h=>bd h λv20 e20 h=>?_
 refine L2 (p1E0 h3) hC4 λa5 w5 G5 β5 hC5 hS5=>?_
 have hF5:=hF4.frame hS5
 cases h
 rw[c1F_eq]
 refine wp_seq (wp_region ?_)
 refine prS (l:=List.range (Z00 (c1F f202)).size) hC5 4 [] (z:=sY1e x0 at_ v15 v16 ys ps) (h:=λa6 w6 G6 β6 hC6 hS6=>?_)
 have hF6:=hF5.frame hS6
 rw[show (List.range (Z00 (c1F f202)).size).drop 4=[4,5,6,7] by kernel_rfl,wpOps_cons]
 refine Zws (hC6.sub) o13_eq (by kernel_rfl) (fo:= .func 213) (args:=#[.tmp 33,.tmp 34,.tmp 35]) (ts:=#[9,3,3]) (by kernel_rfl) (f:=213) (by kernel_rfl) (ds:=[.str x0,dI at_,dI v15]) (p:=True∧(True∧(True∧True))) (by kernel_rfl) ⟨trivial,trivial,trivial,trivial⟩
  (t:=36) (by kernel_rfl) (Nat.le_of_ble_eq_true (by kernel_rfl)) (t164 e17) λv w7 G7 u hS7 hfr=>?_
 obtain⟨loc7,hF7⟩:=hF6.snoc hC6 hS7 hfr
 have hC7:=hC6.lift hS7
 have hg:Ye 144 (ys++[((v17,.raw u):YI)]).length=some v18:=by rw[← e18]; congr 1; simp
 refine prS hC7 3 [(5,br0 1 10),(6,ap hg)] (z:=sY1d x0 at_ v15 v16 (ys++[(v17,.raw u)]) ps) (h:=λa8 w8 G8 β8 hC8 hS8=>?_)
 have hF8:=hF7.frame hS8
 show Exit.then _ _ .normal _ _
 refine pieceC (p1G e19 e20) hC8 λa9 w9 G9 β9 hC9 hS9=>⟨rfl,_,G9,β9,loc7,?_,hC9,hF8.frame hS9⟩
 simp
end Go.Proofs
namespace Go.Proofs
open Tryz
open Go.Den Go.Den.W
variable {Γ:Ctx} {σ σ':S} {a a':Act} {w w':World} {G G':Nat→Nat} {β β':Nat→Option (Nat×Nat)}
def Z07 (ps:List Int) (n:Nat) (t:Int×List Int):Option (Ctl (Int×List Int) (List Int⊕((List Z6)×Int))):=
 if (decide (t.1<(n:Int)))=true then
  ((Xq t.1 n).bind λv57=>
  (t.2[v57]?).bind λv58=>
  (Z2z ps v58).bind λv59=>
  ((t.2.set v57 v59)[v57]?).bind λv60=>
  if (decide (v60<0))=true then
   (some (.done (.inr (([]:List Z6),16)))) else
  ((some (IntKind.wrap .i64 (t.1+(1:Int)))).bind λv61=>
   some (.next (v61,t.2.set v57 v59)))) else
 (some (.done (.inl t.2)))
def m2R (ps:List Int) (k:Int) (kk:Nat) (ys:List YI) (x:Z6) (n:Nat) (tos:List Int):Option (Ctl (Int×List YI×List Int) ((List Z6)×Int)):=
 (Z2s x.f_Op).bind λv42=>
 if (!v42)=true then
  ((some (IntKind.wrap .i64 (k+(1:Int)))).bind λv43=>
  some (.next (v43,ys,tos))) else
 ((Z2z ps x.f_To).bind λv46=>
  if (decide (v46<0))=true then
   (some (.done (([]:List Z6),16))) else
  ((Z7 (Z07 ps n) Z8 (0,tos)).bind λq5=>
   match q5 with
   | .inl q4=>((some (IntKind.wrap .i64 (k+(1:Int)))).bind λv60=>
    some (.next (v60,ys.set kk ({ f_Op:=x.f_Op,f_A:=x.f_A,f_B:=x.f_B,f_To:=v46,Y9:=x.Y9,Zh:=x.Zh,Yr:=x.Yr,f_S:=x.f_S },.lsl 777 0 n),q4)))
   | .inr y1=>(some (.done y1))))
def qs3:List (Nat×Nat):=[(4,4),(5,5),(777,777)]
def Ok3 (ys:List YI):Prop:=∀ y∈ys,y.2.renA qs3=y.2
theorem ren3 {ys:List YI} (h:Ok3 ys):(ys.map Qv).map (·.map (D.renA qs3))=ys.map Qv:=by
 rw[List.map_map]
 refine List.map_congr_left λy hy=>?_
 have:=h y hy
 show [_,_,_,_,_,y.2.renA qs3,_,_,_,_]=_
 rw[this]
 rfl
theorem Ok3.set {ys:List YI} (h:Ok3 ys) (k:Nat) (x:Z6) (n:Nat):Ok3 (ys.set k (x,.lsl 777 0 n)):=λy hy=>by
 rcases List.mem_or_eq_of_mem_set hy with h1|rfl
 ·exact h y h1
 ·rfl
def bY (rows:List (List D)):Nat×Blk:=(4,{ sz:=10,rows,frz:=0,pure:=false })
def bTo (tos:List Int):Nat×Blk:=(777,Uq tos none)
def ren (rows:List (List D)):List (List D):=rows.map (·.map (D.renA qs3))
def sA (m:Nat) (ps:List Int) (k:Int) (rows:List (List D)) (tos:List Int):SL:=⟨130,[(4,.lsl 4 0 m),tP ps,(9,dI k)],[bY rows,bP ps,bTo tos]⟩
def sB (m:Nat) (ps:List Int) (k j:Int) (rows:List (List D)) (tos:List Int):SL:=⟨130,[(4,.lsl 4 0 m),tP ps,(9,dI k),(10,dI j)],[bY rows,bP ps,bTo tos]⟩
def stA (m:Nat) (ps:List Int):Int×List YI×List Int→SL:=λt=>sA m ps t.1 (t.2.1.map Qv) t.2.2
def stB (m:Nat) (ps:List Int) (k:Int) (ys:List YI):Int×List Int→SL:=λt=>sB m ps k t.1 (ys.map Qv) t.2
def JB (m:Nat) (ps:List Int) (k:Int) (ys:List YI):JT (List Int⊕((List Z6)×Int)):=
 ju (je 4 λtos:List Int=>sA m ps k (ys.map Qv) tos) (jr prog f202 Mh)
theorem wl202x3 {m n kk:Nat} {ps:List Int} {k:Int} {ys:List YI} {x:Z6} (hk:Xq k m=some kk) (hy:ys[kk]?=some (x,.lsl 777 0 n)) (h3:Ok3 ys) {t:Int×List Int} {r:Ctl (Int×List Int) (List Int⊕((List Z6)×Int))} {Γ:Ctx} (h:Z07 ps n t=some r):
  A prog Γ (lpC f202 386239) [] (Rd (stB m ps k ys) (JB m ps k ys) r) (stB m ps k ys t).s:=
 go [] [rg 26 [(3,iaN 4 m hk),(5,lb hy),(6,lnN n)]]<|br h (λh1 h=>bd h λv57 e57 h=>bd h λv58 e58 h=>bd h λv59 e59 h=>bd h λv60 e60 h=>
  go [] [rgq 28 [(2,iaN 4 m hk),(4,lb hy),(9,iaN 4 m hk),(11,lb hy),(13,iaN 777 n e57),(14,lb e58),(15,kB (a2 (rpI ps) (a2 trivial trivial)) [rw_ ps,dI v58] (by simp only[rwE] <;> kernel_rfl) (w214 e59)),(16,iaN 777 n e57),(17,st e58 0 [dI v59] v59)] [0,1,2,3,4,5,6,7,8,9,10,11,12,13,14,15,16,17] [17],
   rg 29 [(2,iaN 4 m hk),(4,lb hy),(6,iaN 777 n e57),(7,lb e60)]]<|br h (λh2 h=>go [] []<|dn h (i2 iR)) λh2 h=>
   bd h λv61 e61 h=>go [] [rg 27 [(1,W.n e61)]]<|nxE (y:=sB m ps k v61 (ren (ys.map Qv)) (t.2.set v57 v59)) h (congrArg (λr=>sB m ps k v61 r (t.2.set v57 v59)) (ren3 h3))) λh1 h=>
 go [] []<|dn h (i1 (iEE (y:=sA m ps k (ren (ys.map Qv)) t.2) (congrArg (λr=>sA m ps k r t.2) (ren3 h3))))
def c2A (f:Func):Code:=U9 (lpC f 703)
def c2R (f:Func):Code:=Qr (lpC f 703)
theorem c2_eq:lpC f202 703=.seq (c2A f202) (c2R f202):=by kernel_rfl
theorem lpE {P:Program} {T R:Type} {Q:Exit→S→Prop} {ev:Ev} {c:Code} {f:T→Option (Ctl T R)} {st:T→SL} {J:JT R} {n:Nat} {t:T} {r:R} {y:SL} (hm:Z7 f n t=some r)
  (hw:∀ {t x} {Γ:Ctx},f t=some x→A P Γ c [] (Rd st J x) (st t).s) (hQ:JQ P Γ (ek ev) Q J r) (he:y=st t)
  (hk:(Ws [] y.ts y.ps σ,σ.n,ev)=(some (y.l,y.bl),y.n,.loop c (ek ev)):=by kernel_rfl):E P Γ Q σ ev:=by
 subst he
 exact lp hm hw hQ [] _ hk
theorem p2R {m n kk:Nat} {ps tos:List Int} {k:Int} {ys:List YI} {x:Z6} (hk:Xq k m=some kk) (hy:ys[kk]?=some (x,.lsl 777 0 n)) (h3:Ok3 ys) {r:Ctl (Int×List YI×List Int) ((List Z6)×Int)} {Γ:Ctx} (h:m2R ps k kk ys x n tos=some r):
  A prog Γ (c2R f202) [] (Rd (stA m ps) (jr prog f202 Mh) r) (stA m ps (k,ys,tos)).s:=
 bd h λv42 e42 h=>go [] [rg 21 [(2,iaN 4 m hk),(4,lb hy),(5,W.k (w168 e42))]]<|br h (λh16 h=>bd h λv43 e43 h=>go [] [rg 20 [(1,W.n e43)]]<|nxE (y:=sA m ps v43 (ren (ys.map Qv)) tos) h (congrArg (λr=>sA m ps v43 r tos) (ren3 h3))) λh16 h=>
  bd h λv46 e46 h=>have hkl:kk<ys.length:=(List.getElem?_eq_some_iff.1 hy).1
  have hy1:(ys.set kk ({ f_Op:=x.f_Op,f_A:=x.f_A,f_B:=x.f_B,f_To:=v46,Y9:=x.Y9,Zh:=x.Zh,Yr:=x.Yr,f_S:=x.f_S },.lsl 777 0 n))[kk]?=some (({ f_Op:=x.f_Op,f_A:=x.f_A,f_B:=x.f_B,f_To:=v46,Y9:=x.Y9,Zh:=x.Zh,Yr:=x.Yr,f_S:=x.f_S }:Z6),.lsl 777 0 n):=by simp[hkl]
  have h4:Ok3 (ys.set kk ({ f_Op:=x.f_Op,f_A:=x.f_A,f_B:=x.f_B,f_To:=v46,Y9:=x.Y9,Zh:=x.Zh,Yr:=x.Yr,f_S:=x.f_S },.lsl 777 0 n)):=h3.set _ _ _
  go [] [rg 22 [(5,iaN 4 m hk),(7,lb hy),(8,kB (a2 (rpI ps) (a2 trivial trivial)) [rw_ ps,dI x.f_To] (by simp only[rwE] <;> kernel_rfl) (w214 e46)),(9,iaN 4 m hk),(11,st hy 3 [dI v46] ({ f_Op:=x.f_Op,f_A:=x.f_A,f_B:=x.f_B,f_To:=v46,Y9:=x.Y9,Zh:=x.Zh,Yr:=x.Yr,f_S:=x.f_S },.lsl 777 0 n))],rg 23 [(2,iaN 4 m hk),(4,lb hy1)]]<|br h (λh17 h=>go [] []<|dn h iR) λh17 h=>
   go [] []<|bd h λq5 e62 h=>lpE (st:=stB m ps k _) (y:=sB m ps k 0 (ren ((ys.set kk ({ f_Op:=x.f_Op,f_A:=x.f_A,f_B:=x.f_B,f_To:=v46,Y9:=x.Y9,Zh:=x.Zh,Yr:=x.Yr,f_S:=x.f_S },.lsl 777 0 n)).map Qv)) tos) e62 (wl202x3 hk hy1 h4) (he:=congrArg (λr=>sB m ps k 0 r tos) (ren3 h4))<|match q5,h with
    | .inl q4,h=>j1<|(qe<|bd h λv60 e63 h=>goN [] [rg 20 [(1,W.n e63)]]<|nxE (y:=sA m ps v60 (ren ((ys.set kk ({ f_Op:=x.f_Op,f_A:=x.f_A,f_B:=x.f_B,f_To:=v46,Y9:=x.Y9,Zh:=x.Zh,Yr:=x.Yr,f_S:=x.f_S },.lsl 777 0 n)).map Qv)) q4) h (congrArg (λr=>sA m ps v60 r q4) (ren3 h4)))
    | .inr y1,h=>j2<|(ql h λ_ _ p=>iS p)
end Go.Proofs
namespace Go.Proofs
open Go.Den Go.Den.W
variable {Γ:Ctx} {σ σ':S} {a a':Act} {w w':World} {G G':Nat→Nat} {β β':Nat→Option (Nat×Nat)}
def sY2 (m:Nat) (ps:List Int) (k:Int) (ys:List YI):SL:=⟨130,[(4,.lsl 4 0 m),tP ps,(9,dI k)],[bI ys,bP ps]⟩
theorem S.ext' {σ σ':S} (h1:σ.n=σ'.n) (h2:∀ t,σ.tmps t=σ'.tmps t) (h3:∀ t,σ.heap t=σ'.heap t):σ=σ':=by
 cases σ; cases σ'
 cases h1
 cases (funext h2:_=_)
 cases (funext h3:_=_)
 rfl
def rawY (y:YI):Prop:=∃ u,y.2=.raw u
theorem Mem.raw {y:YI} {o:Option Nat} (h:Mem Γ w G β y o):rawY y:=by
 cases o with
 | none=>obtain⟨x,h1,-⟩:=h; exact⟨_,h1⟩
 | some c=>obtain⟨cap,h1,-⟩:=h; exact⟨_,h1⟩
theorem Y20 {y:YI} {j:Nat} {d:D} (h:(Qv y)[j]?=some d):(j=5∧d=y.2)∨(j≠5∧d.dat=true):=by
 match j,h with
 | 0,h=>cases h; exact .inr ⟨by decide,rfl⟩
 | 1,h=>cases h; exact .inr ⟨by decide,rfl⟩
 | 2,h=>cases h; exact .inr ⟨by decide,rfl⟩
 | 3,h=>cases h; exact .inr ⟨by decide,rfl⟩
 | 4,h=>cases h; exact .inr ⟨by decide,rfl⟩
 | 5,h=>cases h; exact .inl ⟨rfl,rfl⟩
 | 6,h=>cases h; exact .inr ⟨by decide,rfl⟩
 | 7,h=>cases h; exact .inr ⟨by decide,rfl⟩
 | 8,h=>cases h; exact .inr ⟨by decide,rfl⟩
 | 9,h=>cases h; exact .inr ⟨by decide,rfl⟩
 | j+10,h=>exact absurd h (by rw[List.getElem?_eq_none (by simp[Qv,Z06,Z01])]; simp)
theorem Y1b {x:Z6} {l:List Int} {d e d1 d2:D} {j:Nat} (hj:j≠5) (h1:(Qv (x,d))[j]?=some d1) (h2:(Qv ({ f_Op:=x.f_Op,f_A:=x.f_A,f_B:=x.f_B,f_To:=x.f_To,Y9:=x.Y9,Zh:=l,Yr:=x.Yr,f_S:=x.f_S },e))[j]?=some d2):d1=d2:=by
 match j,h1,h2,hj with
 | 0,h1,h2,_=>cases h1; cases h2; rfl
 | 1,h1,h2,_=>cases h1; cases h2; rfl
 | 2,h1,h2,_=>cases h1; cases h2; rfl
 | 3,h1,h2,_=>cases h1; cases h2; rfl
 | 4,h1,h2,_=>cases h1; cases h2; rfl
 | 5,h1,h2,hj=>exact absurd rfl hj
 | 6,h1,h2,_=>cases h1; cases h2; rfl
 | 7,h1,h2,_=>cases h1; cases h2; rfl
 | 8,h1,h2,_=>cases h1; cases h2; rfl
 | 9,h1,h2,_=>cases h1; cases h2; rfl
 | j+10,h1,_,_=>exact absurd h1 (by rw[List.getElem?_eq_none (by simp[Qv,Z06,Z01])]; simp)
theorem Za.setY (h:Za Γ σ a w G β) {ys:List YI} {kk:Nat} {x:Z6} {d d':D} {l:List Int} {p0 p:Bool} (hb:σ.heap 4=some { sz:=10,rows:=ys.map Qv,frz:=0,pure:=p0 }) (hy:ys[kk]?=some (x,d))
  (hd:∀ c vs e fr v,β 4=some (c,10)→w.heap[c]?=some (.cells vs e fr)→vs[kk*10+5]?=some v→one v=true→Z9 w G β v d→Z9 w G β v d')
  (hp:p=true→∀ (j:Nat) y,(ys.set kk ({ f_Op:=x.f_Op,f_A:=x.f_A,f_B:=x.f_B,f_To:=x.f_To,Y9:=x.Y9,Zh:=l,Yr:=x.Yr,f_S:=x.f_S },d'))[j]?=some y→y.2.dat=true):
  Za Γ (σ.setB 4 (some { sz:=10,rows:=(ys.set kk ({ f_Op:=x.f_Op,f_A:=x.f_A,f_B:=x.f_B,f_To:=x.f_To,Y9:=x.Y9,Zh:=l,Yr:=x.Yr,f_S:=x.f_S },d')).map Qv,frz:=0,pure:=p })) a w G β:=by
 refine h.refine hb _ (by simp) (λc vs e fr h1 h2 i r' hr'=>?_) p λhpt i j r d1 hr hd1=>?_
 ·rw[List.getElem?_map] at hr'
  obtain⟨y',hy',rfl⟩:=Xt hr'
  refine⟨rfl,λj d2 hd2 r d1 v hr hd1 hv ho hrep=>?_⟩
  dsimp only at hr
  rw[List.getElem?_map] at hr
  obtain⟨y,hyi,rfl⟩:=Xt hr
  rcases Nat.decEq i kk with hne|rfl
  ·rw[List.getElem?_set_ne (Ne.symm hne)] at hy'
   rw[hyi] at hy'; cases hy'
   rw[hd1] at hd2; cases hd2
   exact hrep
  ·have hlt:i<ys.length:=(List.getElem?_eq_some_iff.1 hy).1
   rw[List.getElem?_set_self hlt] at hy'
   cases hy'
   rw[hy] at hyi; cases hyi
   rcases Nat.decEq j 5 with hne|rfl
   ·rw[← Y1b hne hd1 hd2]; exact hrep
   ·cases hd1; cases hd2
    exact hd c vs e fr v h1 h2 hv ho hrep
 ·rw[List.getElem?_map] at hr
  obtain⟨y,hyi,rfl⟩:=Xt hr
  rcases Y20 hd1 with ⟨-,rfl⟩|⟨-,h1⟩
  ·exact hp hpt i y hyi
  ·exact h1
theorem nameY {m:Nat} {ps:List Int} {k:Int} {ys:List YI} {loc:Nat→Option Nat} {kk:Nat} {x:Z6} {d:D} (h:Za Γ (sY2 m ps k ys).s a w G β) (hF:Fam Γ w G β ys loc) (hy:ys[kk]?=some (x,d)):
  ∃ β',Za Γ (stA m ps (k,ys.set kk (x,.lsl 777 0 x.Zh.length),x.Zh)).s a w G β'∧∀ (j:Nat) y,j≠kk→ys[j]?=some y→Mem Γ w G β' y (loc j):=by
 have hkl:kk<ys.length:=(List.getElem?_eq_some_iff.1 hy).1
 have hm:=hF.mem kk _ hy
 have h777:(sY2 m ps k ys).s.heap 777=none:=rfl
 have key:∃ β',Za Γ ((sY2 m ps k ys).s.setB 777 (some (Uq x.Zh none))) a w G β'∧(∀ v,Z9 w G β' v d→Z9 w G β' v (.lsl 777 0 x.Zh.length))∧∀ (j:Nat) y,j≠kk→ys[j]?=some y→Mem Γ w G β' y (loc j):=by
  cases hl:loc kk with
  | none=>
   rw[hl] at hm
   obtain⟨z,h1,h2⟩:=hm
   dsimp only at h1 h2
   refine⟨β,h.nameNil h777 ⟨by rw[h2]; rfl,rfl⟩,λv hv=>?_,λj y _ hj=>hF.mem j y hj⟩
   rw[h2]
   rw[h1] at hv
   cases hv
   exact .lslnil 777 z
  | some c=>
   rw[hl] at hm
   obtain⟨cap,h1,h2,h3,h4,h5,h6⟩:=hm
   dsimp only at h1 h2 h3
   refine⟨_,h.name (c:=c) h777 h6 (h3.rep h4 (.inl h5) (by simp)),λv hv=>?_,λj y hj hyj=>?_⟩
   ·rw[h1] at hv
    cases hv
    obtain⟨vs,e,fr,k1,k2,k3,k4,k5⟩:=h3
    exact .lsl 777 0 _ cap c 1 0 (by simp[upd,Uq]) h2 (.inr rfl) ⟨vs,e,fr,k1,by omega⟩
   ·have hmj:=hF.mem j y hyj
    cases hlj:loc j with
    | none=>rw[hlj] at hmj; exact hmj
    | some c'=>
     rw[hlj] at hmj
     obtain⟨cap',g1,g2,g3,g4,g5,g6⟩:=hmj
     refine⟨cap',g1,g2,g3,g4,g5,λb s hb=>?_⟩
     unfold upd at hb
     split at hb
     ·cases hb
      exact hj (hF.inj j kk _ hlj hl (List.getElem?_eq_some_iff.1 hyj).1 hkl)
     ·exact g6 b s hb
 obtain⟨β',k1,k2,k3⟩:=key
 refine⟨β',?_,k3⟩
 have:=Za.setY k1 (ys:=ys) (kk:=kk) (x:=x) (d:=d) (d':= .lsl 777 0 x.Zh.length) (l:=x.Zh) (p0:=true) (p:=false) rfl hy (λc vs e fr v _ _ _ _ hv=>k2 v hv) (by simp)
 have e:((sY2 m ps k ys).s.setB 777 (some (Uq x.Zh none))).setB 4 (some { sz:=10,rows:=(ys.set kk (x,D.lsl 777 0 x.Zh.length)).map Qv,frz:=0,pure:=false })=(stA m ps (k,ys.set kk (x,.lsl 777 0 x.Zh.length),x.Zh)).s:=by
  refine S.ext' rfl (λt=>rfl) λt=>?_
  simp only[S.setB,sY2,stA,sA,SL.s,mkS,ofB,bI,bY,bP,bTo]
  by_cases h1:t=4
  ·simp[h1]
  ·by_cases h2:t=777
   ·simp[h2]
   ·by_cases h3:t=5
    ·simp[h3]
    ·simp[h1,h2,h3]
 rw[← e]
 exact this
theorem backY {m:Nat} {ps:List Int} {k:Int} {ys:List YI} {loc:Nat→Option Nat} {kk n:Nat} {x:Z6} {tos:List Int} (hX:∀ c,¬ Γ.X c) (h:Za Γ (stA m ps (k,ys,tos)).s a w G β) (hy:ys[kk]?=some (x,.lsl 777 0 n)) (hn:tos.length=n)
  (hF:∀ (j:Nat) y,j≠kk→ys[j]?=some y→Mem Γ w G β y (loc j)) (hinj:∀ i j c,loc i=some c→loc j=some c→i<ys.length→j<ys.length→i=j):
  ∃ v β' loc',Za Γ (sY2 m ps k (ys.set kk ({ f_Op:=x.f_Op,f_A:=x.f_A,f_B:=x.f_B,f_To:=x.f_To,Y9:=x.Y9,Zh:=tos,Yr:=x.Yr,f_S:=x.f_S },.raw v))).s a w G β'∧
   Fam Γ w G β' (ys.set kk ({ f_Op:=x.f_Op,f_A:=x.f_A,f_B:=x.f_B,f_To:=x.f_To,Y9:=x.Y9,Zh:=tos,Yr:=x.Yr,f_S:=x.f_S },.raw v)) loc':=by
 subst hn
 have hkl:kk<ys.length:=(List.getElem?_eq_some_iff.1 hy).1
 have hb:(stA m ps (k,ys,tos)).s.heap 4=some { sz:=10,rows:=ys.map Qv,frz:=0,pure:=false }:=rfl
 have hb7:(stA m ps (k,ys,tos)).s.heap 777=some (Uq tos none):=rfl
 obtain⟨c0,vs,e,fr,v,hβ4,hcell,hv,ho,hrep⟩:=h.cellOf hb (i:=kk) (j:=5) (r:=Qv (x,.lsl 777 0 tos.length)) (d:= .lsl 777 0 tos.length) (by rw[List.getElem?_map,hy]; rfl) rfl
 have h1:=Za.setY h hb hy (d':= .raw v) (l:=tos) (p:=true) (λc vs' e' fr' v' k1 k2 k3 k4 _=>by
  rw[hβ4] at k1
  cases k1
  rw[hcell] at k2
  cases k2
  rw[hv] at k3
  cases k3
  exact .raw _ k4) λ_ j y hyj=>by
   rcases Nat.decEq j kk with hne|rfl
   ·rw[List.getElem?_set_ne (Ne.symm hne)] at hyj
    obtain⟨u,hu⟩:=(hF j y hne hyj).raw
    rw[hu]; rfl
   ·rw[List.getElem?_set_self hkl] at hyj
    cases hyj
    rfl
 have h2:=h1.unname 777 (λt=>by
  show (ofL (sA m ps k (ys.map Qv) tos).l t).kill 777=ofL (sA m ps k (ys.map Qv) tos).l t
  simp only[sA,tP,ofL]
  by_cases e1:t=4
  ·simp[e1]; rfl
  ·by_cases e2:t=5
   ·simp[e2]; rfl
   ·by_cases e3:t=9
    ·simp[e3]; rfl
    ·simp[e1,e2,e3]; rfl) λu blk hu hk=>by
  simp only[S.setB,stA,sA,SL.s,mkS,ofB,bY,bP,bTo] at hk
  by_cases e1:u=4
  ·rw[if_pos e1] at hk; cases hk; rfl
  ·rw[if_neg e1,if_neg e1] at hk
   by_cases e2:u=5
   ·rw[if_pos e2] at hk; cases hk; rfl
   ·rw[if_neg e2,if_neg hu] at hk; cases hk
 have e:∀ rows,(⟨((stA m ps (k,ys,tos)).s.setB 4 (some { sz:=10,rows:=rows,frz:=0,pure:=true })).n,((stA m ps (k,ys,tos)).s.setB 4 (some { sz:=10,rows:=rows,frz:=0,pure:=true })).tmps,λu=>if u=777 then none else ((stA m ps (k,ys,tos)).s.setB 4 (some { sz:=10,rows:=rows,frz:=0,pure:=true })).heap u⟩:S)=mkS 130 [(4,.lsl 4 0 m),tP ps,(9,dI k)] [(4,{ sz:=10,rows:=rows,frz:=0,pure:=true }),bP ps] :=λrows=>by
  refine S.ext' rfl (λt=>rfl) λt=>?_
  simp only[S.setB,stA,sA,SL.s,mkS,ofB,bY,bP,bTo]
  by_cases h1:t=4
  ·simp[h1]
  ·by_cases h2:t=777
   ·simp[h2]
   ·by_cases h3:t=5
    ·simp[h3]
    ·simp[h1,h2,h3]
 rw[e] at h2
 have hothers:∀ (j:Nat) y,j≠kk→ys[j]?=some y→Mem Γ w G (upd β 777 none) y (loc j):=λj y hj hyj=>by
  have hm:=hF j y hj hyj
  cases hl:loc j with
  | none=>rw[hl] at hm; exact hm
  | some c=>
   rw[hl] at hm
   obtain⟨cap,g1,g2,g3,g4,g5,g6⟩:=hm
   refine⟨cap,g1,g2,g3,g4,g5,λb s hb=>?_⟩
   unfold upd at hb
   split at hb
   ·cases hb
   ·exact g6 b s hb
 have hfr:Mw w G Γ.B v tos:=by
  rcases Z9.fresh h hrep (l:=tos) (.inr ⟨777,by rw[List.length_map],hb7⟩) with h3|⟨b,c,s,-,-,h3⟩
  ·exact h3
  ·exact absurd h3 (hX c)
 have fin:∀ o,Mem Γ w G (upd β 777 none) ({ f_Op:=x.f_Op,f_A:=x.f_A,f_B:=x.f_B,f_To:=x.f_To,Y9:=x.Y9,Zh:=tos,Yr:=x.Yr,f_S:=x.f_S },.raw v) o→(∀ j c,o=some c→j≠kk→j<ys.length→loc j≠some c)→
   Fam Γ w G (upd β 777 none) (ys.set kk ({ f_Op:=x.f_Op,f_A:=x.f_A,f_B:=x.f_B,f_To:=x.f_To,Y9:=x.Y9,Zh:=tos,Yr:=x.Yr,f_S:=x.f_S },.raw v)) (λj=>if j=kk then o else loc j):=λo hm hno=>by
  refine⟨λj y hyj=>?_,λi j c hi hj hil hjl=>?_⟩
  ·rcases Nat.decEq j kk with hne|rfl
   ·rw[List.getElem?_set_ne (Ne.symm hne)] at hyj
    rw[if_neg hne]
    exact hothers j y hne hyj
   ·rw[List.getElem?_set_self hkl] at hyj
    cases hyj
    rw[if_pos rfl]
    exact hm
  ·rw[List.length_set] at hil hjl
   split at hi
   ·split at hj
    ·omega
    ·rename_i hne; exact absurd hj (hno j c hi hne hjl)
   ·split at hj
    ·rename_i hne _; exact absurd hi (hno i c hj hne hil)
    ·exact hinj i j c hi hj hil hjl
 have key:∃ o,Mem Γ w G (upd β 777 none) ({ f_Op:=x.f_Op,f_A:=x.f_A,f_B:=x.f_B,f_To:=x.f_To,Y9:=x.Y9,Zh:=tos,Yr:=x.Yr,f_S:=x.f_S },.raw v) o∧(∀ j c,o=some c→j≠kk→j<ys.length→loc j≠some c):=by
  cases hfr with
  | nil z=>exact⟨none,⟨z,rfl,rfl⟩,λj c hc=>by cases hc⟩
  | blk c cap _ hcap hi hG hB=>
   by_cases hz:cap=0
   ·subst hz
    obtain rfl:=List.eq_nil_of_length_eq_zero (Nat.le_zero.1 hcap)
    exact⟨none,⟨_,rfl,rfl⟩,λj c hc=>by cases hc⟩
   ·have h7:∃ s,β 777=some (c,s):=by
     generalize tos.length=q at hrep
     cases hrep with
     | lslnil=>exact absurd rfl hz
     | lsl b lo n cap c sz off k1=>exact⟨_,k1⟩
    obtain⟨s7,h7⟩:=h7
    refine⟨some c,⟨cap,rfl,hcap,hi,hG,hB,λb s hb=>?_⟩,λj c' hc hj hjl hlj=>?_⟩
    ·unfold upd at hb
     split at hb
     ·cases hb
     ·rename_i hne
      exact hne (h.inj b 777 c s s7 hb h7)
    ·cases hc
     have hm:=hF j _ hj (List.getElem?_eq_getElem hjl)
     rw[hlj] at hm
     obtain⟨cap',-,-,-,-,-,g6⟩:=hm
     exact g6 777 s7 h7
 obtain⟨o,k1,k2⟩:=key
 exact⟨v,upd β 777 none,_,h2,fin o k1 k2⟩
theorem Zul {ys:List YI} {loc:Nat→Option Nat} (h:Za Γ σ a w G β) (hF:Fam Γ w G β ys loc):∀ m,m≤ys.length→∃ G',Za Γ σ a w G' β∧(∀ c,G c≤G' c)∧∀ (k:Nat) y c,k<m→ys[k]?=some y→loc k=some c→y.1.Zh.length≤G' c
 | 0,_=>⟨G,h,λ_=>Nat.le_refl _,λk y c hk=>absurd hk (Nat.not_lt_zero _)⟩
 | m + 1,hm=>by
  obtain⟨G1,h1,h2,h3⟩:=Zul h hF m (by omega)
  obtain⟨y,hy⟩:∃ y,ys[m]?=some y:=⟨_,List.getElem?_eq_getElem (by omega)⟩
  cases hl:loc m with
  | none=>
   refine⟨G1,h1,h2,λk z c hk hz hlk=>?_⟩
   rcases Nat.lt_or_ge k m with hlt|hge
   ·exact h3 k z c hlt hz hlk
   ·obtain rfl:k=m:=by omega
    rw[hl] at hlk; cases hlk
  | some c0=>
   have hmm:=hF.mem m y hy
   rw[hl] at hmm
   obtain⟨cap,g1,g2,g3,g4,g5,g6⟩:=hmm
   have h4:=h1.mark (c0:=c0) g6 g5 (Ug.lt g3) (k:=G1 c0+y.1.Zh.length) (Nat.le_add_right _ _)
   refine⟨_,h4,λc=>?_,λk z c hk hz hlk=>?_⟩
   ·split
    ·rename_i e; subst e; have:=h2 c; omega
    ·exact h2 c
   ·rcases Nat.lt_or_ge k m with hlt|hge
    ·split
     ·rename_i e; subst e
      have:=h3 k z c hlt hz hlk; omega
     ·exact h3 k z c hlt hz hlk
    ·obtain rfl:k=m:=by omega
     rw[hl] at hlk; cases hlk
     rw[hy] at hz; cases hz
     rw[if_pos rfl]; omega
def sJ2 (m:Nat) (ys:List YI):SL:=⟨130,[(4,.lsl 4 0 m)],[bI ys]⟩
def sJ3 (m:Nat) (l:List Z6):SL:=⟨130,[(4,.lsl 4 0 m)],[(4,{ sz:=10,rows:=l.map Zm,frz:=0,pure:=true })]⟩
theorem Zxv {y:YI} {j:Nat} {d d':D} (h:(Qv y)[j]?=some d) (h':(Zm y.1)[j]?=some d'):(j=5∧d=y.2∧d'=.sl false (y.1.Zh.map Z1))∨(j≠5∧d=d'):=by
 match j,h,h' with
 | 0,h,h'=>cases h; cases h'; exact .inr ⟨by decide,rfl⟩
 | 1,h,h'=>cases h; cases h'; exact .inr ⟨by decide,rfl⟩
 | 2,h,h'=>cases h; cases h'; exact .inr ⟨by decide,rfl⟩
 | 3,h,h'=>cases h; cases h'; exact .inr ⟨by decide,rfl⟩
 | 4,h,h'=>cases h; cases h'; exact .inr ⟨by decide,rfl⟩
 | 5,h,h'=>cases h; cases h'; exact .inl ⟨rfl,rfl,rfl⟩
 | 6,h,h'=>cases h; cases h'; exact .inr ⟨by decide,rfl⟩
 | 7,h,h'=>cases h; cases h'; exact .inr ⟨by decide,rfl⟩
 | 8,h,h'=>cases h; cases h'; exact .inr ⟨by decide,rfl⟩
 | 9,h,h'=>cases h; cases h'; exact .inr ⟨by decide,rfl⟩
 | j+10,h,_=>exact absurd h (by rw[List.getElem?_eq_none (by simp[Qv,Z06,Z01])]; simp)
theorem Zye {x:Z6} {j:Nat} {d:D} (h:(Zm x)[j]?=some d):d.dat=true:=by
 match j,h with
 | 0,h=>cases h; rfl
 | 1,h=>cases h; rfl
 | 2,h=>cases h; rfl
 | 3,h=>cases h; rfl
 | 4,h=>cases h; rfl
 | 5,h=>cases h; rfl
 | 6,h=>cases h; rfl
 | 7,h=>cases h; rfl
 | 8,h=>cases h; rfl
 | 9,h=>cases h; rfl
 | j+10,h=>exact absurd h (by rw[List.getElem?_eq_none (by simp[Zm])]; simp)
theorem finY {m:Nat} {ys:List YI} {loc:Nat→Option Nat} (h:Za Γ (sJ2 m ys).s a w G β) (hF:Fam Γ w G β ys loc):∃ G',Za Γ (sJ3 m (ys.map Prod.fst)).s a w G' β:=by
 obtain⟨G',h1,h2,h3⟩:=Zul h hF ys.length (Nat.le_refl _)
 refine⟨G',?_⟩
 have h4:=h1.refine (b:=4) (blk:={ sz:=10,rows:=ys.map Qv,frz:=0,pure:=true }) rfl ((ys.map Prod.fst).map Zm) (by simp) (λc vs e fr k1 k2 i r' hr'=>?_) true λ_ i j r d hr hd=>?_
 ·have e:(sJ2 m ys).s.setB 4 (some { sz:=10,rows:=(ys.map Prod.fst).map Zm,frz:=0,pure:=true })=(sJ3 m (ys.map Prod.fst)).s:=by
   refine S.ext' rfl (λt=>rfl) λt=>?_
   simp only[S.setB,sJ2,sJ3,SL.s,mkS,ofB,bI]
   by_cases h1:t=4
   ·simp[h1]
   ·simp[h1]
  rw[← e]
  exact h4
 ·rw[List.map_map,List.getElem?_map] at hr'
  obtain⟨y,hy,rfl⟩:=Xt hr'
  refine⟨rfl,λj d' hd' r d v hr hd hv ho hrep=>?_⟩
  dsimp only at hr
  rw[List.getElem?_map,hy] at hr
  cases hr
  rcases Zxv hd hd' with ⟨-,rfl,rfl⟩|⟨-,rfl⟩
  ·have hm:=hF.mem i y hy
   cases hl:loc i with
   | none=>
    rw[hl] at hm
    obtain⟨z,g1,g2⟩:=hm
    rw[g1] at hrep
    cases hrep
    rw[g2]
    exact .slnil _ z
   | some c=>
    rw[hl] at hm
    obtain⟨cap,g1,g2,g3,g4,g5,g6⟩:=hm
    rw[g1] at hrep
    cases hrep
    obtain⟨us,e',fr',q1,q2,q3,q4,q5⟩:=g3
    have hle:=h3 i y c (List.getElem?_eq_some_iff.1 hy).1 hy hl
    have hx:∀ (i:Nat),i<y.1.Zh.length→∃ x,y.1.Zh[i]?=some x∧us[i]?=some (.int .i64 x):=λi hi=>⟨_,List.getElem?_eq_getElem hi,q5 i _ (List.getElem?_eq_getElem hi)⟩
    refine .sl false c 0 y.1.Zh.length cap 1 (y.1.Zh.map Z1) (λi j=> .int .i64 (y.1.Zh.getD i 0)) (by simp) (λh=>by cases h) g2 (λi r hr=>?_) (λi j hi hj=>by omega) (λi j hi hj=>?_) (λ_ _ _ _=>rfl) (λi j r d hr hd=>?_) λi j r d hr hd=>?_
    ·rw[List.getElem?_map] at hr
     obtain⟨x,-,rfl⟩:=Xt hr
     rfl
    ·obtain⟨x,hx1,hx2⟩:=hx i hi
     rw[Uo,q1]
     dsimp only
     rw[show 0+i*1+j=i by omega,hx2]
     simp[List.getD,hx1]
    ·obtain⟨-,x,-,rfl⟩:=Zfc hr hd; rfl
    ·obtain⟨-,x,hx1,rfl⟩:=Zfc hr hd
     simp only[List.getD,hx1,Option.getD_some]
     exact .int _ _
  ·exact hrep
 ·rw[List.getElem?_map] at hr
  obtain⟨x,-,rfl⟩:=Xt hr
  exact Zye hd
end Go.Proofs
namespace Go.Proofs
open Tryz
open Go.Den Go.Den.W
variable {Γ:Ctx} {σ σ':S} {a a':Act} {w w':World} {G G':Nat→Nat} {β β':Nat→Option (Nat×Nat)}
def Z6p (ps:List Int) (t1:Int×(List Z6)):Option (Ctl (Int×(List Z6)) (((List Z6))⊕((List Z6)×Int))):=
 if (decide (t1.1<(t1.2.length:Int)))=true then
  ((Xq t1.1 t1.2.length).bind λv40=>
  (t1.2[v40]?).bind λv41=>
  (Z2s v41.f_Op).bind λv42=>
  if (!v42)=true then
   ((some (IntKind.wrap .i64 (t1.1+(1:Int)))).bind λv43=>
   some (.next (v43,t1.2))) else
  ((Z2z ps v41.f_To).bind λv46=>
   if (decide (v46<0))=true then
    (some (.done (.inr (([]:List Z6),16)))) else
   ((Z7 (Z07 ps v41.Zh.length) Z8 (0,v41.Zh)).bind λq5=>
    match q5 with
    | .inl q4=>((some (IntKind.wrap .i64 (t1.1+(1:Int)))).bind λv60=>
     some (.next (v60,(t1.2.set v40 ({ f_Op:=v41.f_Op,f_A:=v41.f_A,f_B:=v41.f_B,f_To:=v46,Y9:=v41.Y9,Zh:=q4,Yr:=v41.Yr,f_S:=v41.f_S }:Z6)))))
    | .inr y1=>(some (.done (.inr y1)))))) else
 (some (.done (.inl (t1.2))))
def Zac (q6:(List Z6)) (t4:Int):Option (Ctl (Int) (Unit⊕((List Z6)×Int))):=
 if (decide (t4<(q6.length:Int)))=true then
  ((Xq t4 q6.length).bind λv64=>
  (q6[v64]?).bind λv65=>
  (Uw v65).bind λv66=>
  if (v66 !=0)=true then
   (some (.done (.inr (([]:List Z6),v66)))) else
  ((some (IntKind.wrap .i64 (t4+(1:Int)))).bind λv67=>
   some (.next v67))) else
 (some (.done (.inl (()))))
def Z3b (x0:List UInt8):Option ((List Z6)×Int):=
 if (decide ((x0.length:Int)>20000))=true then
  (some (([]:List Z6),8)) else
 ((Z7 (Z6s x0) Z8 (0,([]:List Z6),([]:List Int))).bind λq1=>
  match q1 with
  | .inl q0=>(if (decide ((q0.1.length:Int)>1000))=true then
    (some (([]:List Z6),5)) else
   ((Z7 (Z6p q0.2) Z8 (0,q0.1)).bind λq7=>
    match q7 with
    | .inl q6=>((Z7 (Zac q6) Z8 0).bind λq9=>
     match q9 with
     | .inl q8=>(some (q6,0))
     | .inr y2=>(some y2))
    | .inr y3=>(some y3)))
  | .inr y4=>(some y4))
theorem Zoc {ps:List Int} {n:Nat} {t:Int×List Int} {r:List Int⊕((List Z6)×Int)}:∀ (m:Nat) (t:Int×List Int),Z7 (Z07 ps n) m t=some r→∀ q,r=.inl q→q.length=t.2.length
 | 0,t,h,_,_=>by cases h
 | m + 1,t,h,q,hq=>by
  unfold Z7 at h
  cases hf:Z07 ps n t with
  | none=>rw[hf] at h; cases h
  | some x=>
   rw[hf] at h
   unfold Z07 at hf
   refine sp hf (λ_ hf=>bd hf λv57 _ hf=>bd hf λv58 _ hf=>bd hf λv59 _ hf=>bd hf λv60 _ hf=>sp hf (λ_ hf=>?_) (λ_ hf=>bd hf λv61 _ hf=>?_)) λ_ hf=>?_
   ·cases hf; cases h; cases hq
   ·cases hf
    have:=Zoc (t:=t) m _ h q hq
    rw[this]; simp
   ·cases hf; cases h; cases hq; rfl
def I2 (Γ:Ctx) (ps:List Int) (t:Int×(List Z6)) (a:Act) (w:World):Prop:=
 ∃ ys G β loc,ys.map Prod.fst=t.2∧Za Γ (sY2 ys.length ps t.1 ys).s a w G β∧Fam Γ w G β ys loc
def J2 (Γ:Ctx) (r:(List Z6)⊕((List Z6)×Int)) (e:Exit) (a:Act) (w:World):Prop:=match r with
 | .inl l=>e=.exit 2∧∃ ys G β loc,ys.map Prod.fst=l∧Za Γ (sJ2 ys.length ys).s a w G β∧Fam Γ w G β ys loc
 | .inr y=>∃ σ G β,Za Γ σ a w G β∧Ret y e σ
section
variable {m:Nat} {ps:List Int} {k:Int} {ys:List YI}
theorem p2A1 (h:decide (k<(m:Int))=true):A prog Γ (c2A f202) [] (PQ .normal (sY2 m ps k ys)) (sY2 m ps k ys).s:=go [] [rg 19 [(2,lnN m)]]<|bT h<|go [] []<|pg
theorem p2A0 (h:decide (k<(m:Int))=false):A prog Γ (c2A f202) [] (PQ (.exit 2) (sJ2 m ys)) (sY2 m ps k ys).s:=go [] [rg 19 [(2,lnN m)]]<|bF h<|go [] []<|pg
end
theorem Ok3_of {ys:List YI} (h:∀ y∈ys,rawY y):Ok3 ys:=λy hy=>by
 obtain⟨u,hu⟩:=h y hy
 rw[hu]; rfl
theorem Zal {ps:List Int} {k:Int} {kk n m:Nat} {ys:List YI} {x:Z6} {tos:List Int} (hk:Xq k m=some kk) (hy:ys[kk]?=some (x,.lsl 777 0 n)) (h3:Ok3 ys)
  (hC:Za Γ (stA m ps (k,ys,tos)).s a w G β) {r:Ctl (Int×List YI×List Int) ((List Z6)×Int)} (hm:m2R ps k kk ys x n tos=some r) {post:Exit→Act→World→Prop}
  (hn:∀ t,r=.next t→∀ a' w' G' β',Za Γ (stA m ps t).s a' w' G' β'→Za (Γ.sub w G β) (stA m ps t).s a' w' G' β'→post .normal a' w')
  (hr:∀ y,r=.done y→∀ e a' w',e≠ .normal→(∃ σ G β,Za Γ σ a' w' G β∧Ret y e σ)→post e a' w'):(c2R f202).wp prog post a w:=by
 refine Zkw (Q:=Rd (stA m ps) (jr prog f202 Mh) r) (p2R hk hy h3 hm).h hC λe σ' a' w' G' β' h1 h2 h4=>?_
 cases r with
 | next t=>
  obtain⟨rfl,hsub⟩:=h1
  obtain⟨G2,β2,h5⟩:=hsub _ _ _ _ _ h4
  exact hn t rfl a' w' G2 β2 (hC.lift h5) h5
 | done y=>
  obtain⟨hne,hj⟩:=h1
  exact hr y rfl e a' w' hne ⟨σ',G',β',h2,hj⟩
theorem round2 {ps:List Int} (hX:∀ c,¬ Γ.X c) (t:Int×(List Z6)) (x) (h:Z6p ps t=some x) (a:Act) (w:World) (hI:I2 Γ ps t a w):
  (lpC f202 703).wp prog (RdW (I2 Γ ps) (J2 Γ) x) a w:=by
 obtain⟨ys,G,β,loc,hys,hC,hF⟩:=hI
 obtain⟨k,l⟩:=t
 dsimp only at hys hC
 subst hys
 rw[c2_eq]
 unfold Z6p at h
 dsimp only at h
 rw[List.length_map] at h
 refine sp h (λh1 h=>?_) λh1 h=>?_
 rotate_left
 ·cases h
  exact seqE (by simp) (p2A0 h1) hC λa1 w1 G1 β1 hC1 hS1=>⟨by simp,rfl,ys,G1,β1,loc,rfl,hC1,hF.frame hS1⟩
 refine bd h λkk e40 h=>bd h λv e41 h=>?_
 rw[List.getElem?_map] at e41
 obtain⟨y,hy,rfl⟩:=Xt e41
 obtain⟨v,d⟩:=y
 dsimp only at h
 refine L2 (p2A1 h1) hC λa1 w1 G1 β1 hC1 hS1=>?_
 have hF1:=hF.frame hS1
 have hkl:kk<ys.length:=(List.getElem?_eq_some_iff.1 hy).1
 obtain⟨β2,hC2,hF2⟩:=nameY hC1 hF1 hy
 have hraw:∀ y∈ys,rawY y:=λy hy=>by
  obtain⟨j,hj⟩:=List.mem_iff_getElem?.1 hy
  exact(hF1.mem j y hj).raw
 have hy1:(ys.set kk (v,.lsl 777 0 v.Zh.length))[kk]?=some (v,.lsl 777 0 v.Zh.length):=by simp[hkl]
 have h3:Ok3 (ys.set kk (v,.lsl 777 0 v.Zh.length)):=(Ok3_of hraw).set _ _ _
 -- what the round leaves,taken back
 have back:∀ (k':Int) (x2:Z6) (tos2:List Int) a' w' G' β',tos2.length=v.Zh.length→Za Γ (stA ys.length ps (k',ys.set kk (x2,.lsl 777 0 v.Zh.length),tos2)).s a' w' G' β'→
   Za (Γ.sub w1 G1 β2) (stA ys.length ps (k',ys.set kk (x2,.lsl 777 0 v.Zh.length),tos2)).s a' w' G' β'→
   I2 Γ ps (k',(ys.map Prod.fst).set kk { f_Op:=x2.f_Op,f_A:=x2.f_A,f_B:=x2.f_B,f_To:=x2.f_To,Y9:=x2.Y9,Zh:=tos2,Yr:=x2.Yr,f_S:=x2.f_S }) a' w':=λk' x2 tos2 a' w' G' β' hl k1 k2=>by
  obtain ⟨u,β3,loc3,q1,q2⟩:=backY (kk:=kk) (x:=x2) (loc:=loc) hX k1 (by simp[hkl]) hl (λj y hj hyj=>by
   rw[List.getElem?_set_ne (Ne.symm hj)] at hyj
   exact(hF2 j y hj hyj).frame k2) (λi j c hi hj hil hjl=>hF1.inj i j c hi hj (by simpa using hil) (by simpa using hjl))
  refine⟨_,G',β3,loc3,?_,?_,q2⟩
  ·rw[List.set_set,List.map_set]
  ·rw[List.set_set] at q1 ⊢
   rw[List.length_set]
   exact q1
 refine bd h λv42 e42 h=>?_
 refine sp h (λh2 h=>bd h λv43 e43 h=>?_) λh2 h=>bd h λv46 e46 h=>sp h (λh4 h=>?_) λh4 h=>bd h λq5 e5 h=>?_
 ·-- no branch
  cases h
  have hm:m2R ps k kk (ys.set kk (v,.lsl 777 0 v.Zh.length)) v v.Zh.length v.Zh=some (.next (v43,ys.set kk (v,.lsl 777 0 v.Zh.length),v.Zh)):=by
   unfold m2R
   rw[e42,Option.bind_some,if_pos h2,e43,Option.bind_some]
  refine Zal e40 hy1 h3 hC2 hm (λt ht a' w' G' β' k1 k2=>?_) (λy hd=>by cases hd)
  cases ht
  refine⟨rfl,?_⟩
  have:=back v43 v v.Zh a' w' G' β' rfl k1 k2
  have e:(ys.map Prod.fst).set kk v=ys.map Prod.fst:=by
   apply List.ext_getElem?
   intro i
   rcases Nat.decEq i kk with hne|rfl
   ·rw[List.getElem?_set_ne (Ne.symm hne)]
   ·rw[List.getElem?_set_self (by simpa using hkl),List.getElem?_map,hy]; rfl
  have e2:({ f_Op:=v.f_Op,f_A:=v.f_A,f_B:=v.f_B,f_To:=v.f_To,Y9:=v.Y9,Zh:=v.Zh,Yr:=v.Yr,f_S:=v.f_S }:Z6)=v:=rfl
  rw[e2,e] at this
  exact this
 ·-- no such place
  cases h
  have hm:m2R ps k kk (ys.set kk (v,.lsl 777 0 v.Zh.length)) v v.Zh.length v.Zh=some (.done (([]:List Z6),16)):=by
   unfold m2R
   rw[e42,Option.bind_some,if_neg (by simpa using h2),e46,Option.bind_some,if_pos h4]
  refine Zal e40 hy1 h3 hC2 hm (λt ht=>by cases ht) (λy hd e a' w' hne hj=>?_)
  cases hd
  exact⟨hne,hj⟩
 ·cases q5 with
  | inl q4=>
   dsimp only at h
   refine bd h λv60 e60 h=>?_
   cases h
   have hm:m2R ps k kk (ys.set kk (v,.lsl 777 0 v.Zh.length)) v v.Zh.length v.Zh=some (.next (v60,(ys.set kk (v,.lsl 777 0 v.Zh.length)).set kk ({ f_Op:=v.f_Op,f_A:=v.f_A,f_B:=v.f_B,f_To:=v46,Y9:=v.Y9,Zh:=v.Zh,Yr:=v.Yr,f_S:=v.f_S },.lsl 777 0 v.Zh.length),q4)):=by
    unfold m2R
    rw[e42,Option.bind_some,if_neg (by simpa using h2),e46,Option.bind_some,if_neg (by simpa using h4),e5,Option.bind_some]
    dsimp only
    rw[e60,Option.bind_some]
   refine Zal e40 hy1 h3 hC2 hm (λt ht a' w' G' β' k1 k2=>?_) (λy hd=>by cases hd)
   cases ht
   rw[List.set_set] at k1 k2
   exact⟨rfl,back v60 _ q4 a' w' G' β' (Zoc (t:=(0,v.Zh)) _ _ e5 q4 rfl) k1 k2⟩
  | inr y1=>
   cases h
   have hm:m2R ps k kk (ys.set kk (v,.lsl 777 0 v.Zh.length)) v v.Zh.length v.Zh=some (.done y1):=by
    unfold m2R
    rw[e42,Option.bind_some,if_neg (by simpa using h2),e46,Option.bind_some,if_neg (by simpa using h4),e5,Option.bind_some]
   refine Zal e40 hy1 h3 hC2 hm (λt ht=>by cases ht) (λy hd e a' w' hne hj=>?_)
   cases hd
   exact⟨hne,hj⟩
def Zw2 (q6:(List Z6)):Int→SL:=
 λt4=>⟨130,[(4,.lsl 4 0 ((q6.map Zm).length)),(11,dI t4)],[(4,{ sz:=10,rows:=(q6.map Zm),frz:=0,pure:=true })]⟩
def J202x4 (q6:(List Z6)):JT (Unit⊕((List Z6)×Int)):=
 ju (je 6 λq8:Unit=>⟨130,[(4,.lsl 4 0 ((q6.map Zm).length))],[(4,{ sz:=10,rows:=(q6.map Zm),frz:=0,pure:=true })]⟩) (jr prog f202 Mh)
theorem wl202x4 {q6:(List Z6)} {t4:Int} {r:Ctl (Int) (Unit⊕((List Z6)×Int))} {Γ:Ctx} (h:(Zac q6) t4=some r):A prog Γ (lpC f202 1407) [] (Rd (Zw2 q6) (J202x4 q6) r) ((Zw2 q6) t4).s:=
 go [] [rg 32 [(2,ln q6)]]<|br h (λh21 h=>bd h λv64 e68 h=>bd h λv65 e69 h=>bd h λv66 e70 h=>go [] [rg 34 [(2,ia 4 e68),(3,lb e69),(4,W.k (w135 e70))]]<|br h (λh22 h=>go [] []<|dn h (i2 iR)) λh22 h=>
  bd h λv67 e71 h=>go [] [rg 33 [(1,W.n e71)]]<|nx h) λh21 h=>
 go [] []<|dn h (i1 iE)
def d0 (f:Func):Code:=U9 (U3 f)
def d1 (f:Func):Code:=U9 (Qr (U3 f))
def d3 (f:Func):Code:=U9 (Qr (Qr (U3 f)))
def d4 (f:Func):Code:=U9 (Qr (Qr (Qr (U3 f))))
def dT (f:Func):Code:=Qr (Qr (Qr (Qr (U3 f))))
def d5 (f:Func):Code:=U9 (U9 (dT f))
def d16 (f:Func):Code:=U9 (Qr (dT f))
def d18 (f:Func):Code:=U9 (U9 (Qr (Qr (dT f))))
def dZ (f:Func):Code:=Qr (Qr (Qr (dT f)))
theorem d_eq:U3 f202=.seq (d0 f202) (.seq (d1 f202) (.seq (d3 f202) (.seq (d4 f202) (.seq (.seq (d5 f202) (.block 0 (.loop (lpC f202 175)))) (.seq (d16 f202) (.seq (.seq (d18 f202) (.block 2 (.loop (lpC f202 703)))) (dZ f202))))))):=by kernel_rfl
def s0 (x0:List UInt8):SL:=⟨130,[(0,.str x0)],[]⟩
def s3 (x0:List UInt8):SL:=⟨130,[(0,.str x0),(4,.sl true [])],[]⟩
def s4 (x0:List UInt8):SL:=⟨130,[(0,.str x0),(4,.sl true []),(5,.sl true [])],[]⟩
section
variable {x0:List UInt8} {ys:List YI} {ps:List Int}
theorem q0:A prog Γ (d0 f202) [] (PQ .normal (s0 x0)) (s0 x0).s:=go [] []<|pg
theorem q1T (h:decide ((x0.length:Int)>20000)=true):A prog Γ (d1 f202) [] (Ret ([],8)) (s0 x0).s:=go [] []<|bT h<|go [] []<|rE
theorem q1F (h:decide ((x0.length:Int)>20000)=false):A prog Γ (d1 f202) [] (PQ .normal (s0 x0)) (s0 x0).s:=go [] []<|bF h<|go [] []<|pg
theorem q3:A prog Γ (d3 f202) [] (PQ .normal (s3 x0)) (s0 x0).s:=go [] []<|pg
theorem q4:A prog Γ (d4 f202) [] (PQ .normal (s4 x0)) (s3 x0).s:=go [] []<|pg
theorem q5:A prog Γ (d5 f202) [] (PQ .normal (sY1 x0 0 [] [])) (s4 x0).s:=go [] []<|pg [.tmp 4 4 10,.tmp 5 5 1]
theorem q16T (h:decide ((ys.length:Int)>1000)=true):A prog Γ (d16 f202) [] (Ret ([],5)) (sJ1 ys ps).s:=go [] [rg 16 [(1,ln ys)]]<|bT h<|go [] []<|rE
theorem q16F (h:decide ((ys.length:Int)>1000)=false):A prog Γ (d16 f202) [] (PQ .normal (sJ1 ys ps)) (sJ1 ys ps).s:=go [] [rg 16 [(1,ln ys)]]<|bF h<|go [] []<|pg
theorem q18:A prog Γ (d18 f202) [] (PQ .normal (sY2 (ys.map Qv).length ps 0 ys)) (sJ1 ys ps).s:=go [] []<|pg
end
theorem qZ {l:List Z6} {r:(List Z6)×Int} (h:((Z7 (Zac l) Z8 0).bind λq9=>
     match q9 with
     | .inl q8=>(some (l,0))
     | .inr y2=>(some y2))=some r):A prog Γ (dZ f202) [] (Go.Den.Ends prog f202 (Mh r)) (sJ3 (l.map Zm).length l).s:=
 go [] []<|bd h λq9 e72 h=>lp e72 wl202x4<|match q9,h with
  | .inl q8,h=>j1<|(qe<|goN [] []<|rtB h (.tup [rw_ l,dI 0]) (a2 (rpI l) (a2 trivial trivial)) (by simp only[rwE] <;> kernel_rfl))
  | .inr y2,h=>j2<|(qr h)
theorem inB {id:Nat} {Q:Exit→Act→World→Prop} (h:Q .normal a w):Exit.inBlock id Q (.exit id) a w:=by
 show (if id=id then Q .normal a w else Q (.exit id) a w)
 rw[if_pos rfl]
 exact h
theorem Zaq {y r:(List Z6)×Int} (he:some y=some r) {e:Exit} (h:Ret y e σ):e=.ret∧Go.Den.Ends prog f202 (Mh r) .ret σ:=by
 cases he; exact h
theorem body153 {x0:List UInt8} {r:(List Z6)×Int} (h:Z3b x0=some r) (hX:∀ c,¬ Γ.X c):DWP prog Γ (U3 f202) (Go.Den.Ends prog f202 (Mh r)) (s0 x0).s:=λa w G β hC=>by
 rw[d_eq]
 unfold Z3b at h
 refine L2 q0 hC λa1 w1 G1 β1 hC1 _=>?_
 refine sp h (λh1 h=>?_) λh1 h=>?_
 ·refine Zej (q1T h1) hC1 λa' w' ⟨σ',G',β',k1,k2⟩=>?_
  obtain⟨-,k3⟩:=Zaq h k2
  exact⟨σ',G',β',k1,k3⟩
 refine bd h λt1 e1 h=>?_
 refine L2 (q1F h1) hC1 λa2 w2 G2 β2 hC2 _=>?_
 refine L2 q3 hC2 λa3 w3 G3 β3 hC3 _=>?_
 refine L2 q4 hC3 λa4 w4 G4 β4 hC4 _=>?_
 refine wp_seq (L2 q5 hC4 λa5 w5 G5 β5 hC5 _=>wp_block ?_)
 refine loopS (I:=I1 Γ x0) (J:=J1 Γ) round1 e1 (λe a6 w6 hJ=>?_) ⟨[],G5,β5,_,rfl,hC5,Fam.none⟩
 cases t1 with
 | inr y=>
  obtain⟨σ',G',β',k1,k2⟩:=hJ
  obtain⟨rfl,k3⟩:=Zaq h k2
  exact⟨σ',G',β',k1,k3⟩
 | inl q0=>
  obtain⟨rfl,ys,G6,β6,loc,hys,hC6,hF6⟩:=hJ
  obtain⟨l,ps⟩:=q0
  dsimp only at hys hC6 h
  subst hys
  refine inB ?_
  show Code.wp _ _ _ _ _
  rw[List.length_map] at h
  refine sp h (λh2 h=>?_) λh2 h=>?_
  ·refine Zej (q16T h2) hC6 λa' w' ⟨σ',G',β',k1,k2⟩=>?_
   obtain⟨-,k3⟩:=Zaq h k2
   exact⟨σ',G',β',k1,k3⟩
  refine bd h λt2 e2 h=>?_
  refine L2 (q16F h2) hC6 λa7 w7 G7 β7 hC7 hS7=>?_
  have hF7:=hF6.frame hS7
  refine wp_seq (L2 q18 hC7 λa8 w8 G8 β8 hC8 hS8=>wp_block ?_)
  have hF8:=hF7.frame hS8
  rw[List.length_map] at hC8
  refine loopS (I:=I2 Γ ps) (J:=J2 Γ) (round2 hX) e2 (λe a9 w9 hJ=>?_) ⟨ys,G8,β8,loc,rfl,hC8,hF8⟩
  cases t2 with
  | inr y=>
   obtain⟨σ',G',β',k1,k2⟩:=hJ
   obtain⟨rfl,k3⟩:=Zaq h k2
   exact⟨σ',G',β',k1,k3⟩
  | inl l=>
   obtain⟨rfl,ys2,G9,β9,loc9,hys,hC9,hF9⟩:=hJ
   subst hys
   refine inB ?_
   show Code.wp _ _ _ _ _
   obtain⟨G10,hC10⟩:=finY hC9 hF9
   rw[show ys2.length=((ys2.map Prod.fst).map Zm).length by simp] at hC10
   exact(qZ h).h a9 w9 G10 β9 hC10
theorem w202 {x0:List UInt8} {r:(List Z6)×Int} (h:Z3b x0=some r):Zb prog 202 [.str x0] (Mh r):=
 Zb.mk (fn:=f202) (c:=U3 f202) (by kernel_rfl) (by kernel_rfl) (by kernel_rfl) (Nat.le_of_ble_eq_true (by kernel_rfl)) λΓ=>DWP.noX (λb=>rfl) λΓ hX=>body153 h hX
end Go.Proofs
