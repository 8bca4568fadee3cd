/-
  A call that keeps blocks without names: a context within a context; blocks of numbers that are named for a while.
-/
import Derived.Test.YtaamfcpmekeahaaGreatDoorDenClaim
import Derived.Test.YtaamfcpmekeahaaGreatDoorGbg5
set_option linter.unusedVariables false
set_option linter.unusedSimpArgs false
namespace Go.Den
open Go.RowKit
variable {P:Program} {Γ:Ctx} {σ σ':S} {a a':Act} {w w':World} {G G':Nat→Nat} {β β':Nat→Option (Nat×Nat)}
def Ctx.sub (Γ:Ctx) (w:World) (G:Nat→Nat) (β:Nat→Option (Nat×Nat)):Ctx:=
 { B:=w.heap.size,X:=λc=>∃ b s,β b=some (c,s),w0:=w,G0:=G,hB:=Nat.le_refl _,pin:=Γ.pin }
theorem Vr.ctx {Γ':Ctx} {c:Nat} {blk:Blk} (h:Vr w G β Γ c blk) (d:Γ'.B≤c∨Γ'.X c) (hp:Γ'.pin=Γ.pin):Vr w G β Γ' c blk:=by
 obtain⟨own,pin,ty,frz,top,dat,hsz,cells⟩:=h
 exact⟨d,λk b=>by rw[hp]; exact pin k b,ty,frz,top,dat,hsz,cells⟩
theorem Zk.sub (h:Zk Γ σ a w G β):Zk (Γ.sub w G β) σ a w G β:=by
 refine⟨h.defers,h.size,h.tmps,λb blk e=>?_,h.dom,h.inj,.refl _ _ _,λ_ _ _=>rfl,h.fresh,Nat.le_refl _,h.glob⟩
 rcases h.heap b blk e with d|⟨c,d,hB⟩
 ·exact .inl d
 ·exact .inr ⟨c,d,hB.ctx (.inr ⟨b,_,d⟩) rfl⟩
theorem Zk.owned (h:Zk Γ σ a w G β) {b c s:Nat} (e:β b=some (c,s)):(Γ.B≤c∨Γ.X c)∧c<w.heap.size:=by
 obtain⟨blk,f⟩:=h.dom b _ e
 rcases h.heap b blk f with ⟨d,-⟩|⟨c',d,hB⟩
 ·rw[e] at d; cases d
 ·rw[e] at d; cases d; exact⟨hB.own,hB.lt⟩
theorem Zk.lift (d:Zk Γ σ a w G β) (h:Zk (Γ.sub w G β) σ' a' w' G' β'):Zk Γ σ' a' w' G' β':=by
 have m:∀ k,k<Γ.B→ ¬ Γ.X k→ ¬ (Γ.sub w G β).X k:=λk f e ⟨b,s,j⟩=>(d.owned j).1.elim (λg=>by omega) e
 have f:L2 Γ.B Γ.X w w':=⟨h.kept.os,h.kept.tape,h.kept.output,h.kept.size,λk f e=>h.kept.block k (Nat.lt_of_lt_of_le f d.big) (m k f e),h.kept.same⟩
 refine⟨h.defers,h.size,h.tmps,λb blk j=>?_,h.dom,h.inj,d.kept.trans f,λc l e=>?_,h.fresh,Nat.le_trans d.big h.kept.size,h.glob⟩
 ·rcases h.heap b blk j with g|⟨c,g,hB⟩
  ·exact .inl g
  ·refine .inr ⟨c,g,hB.ctx ?_ rfl⟩
   rcases hB.own with i|⟨n,s,i⟩
   ·exact .inl (Nat.le_trans d.big i)
   ·exact(d.owned i).1
 ·rw[h.marks c (Nat.lt_of_lt_of_le l d.big) (m c l e)]
  exact d.marks c l e
theorem Zk.frame (h:Zk (Γ.sub w G β) σ' a' w' G' β') {c:Nat} (g:c<w.heap.size) (i:∀ b s,β b≠some (c,s)):w'.heap[c]?=w.heap[c]?∧G' c=G c∧∀ b s,β' b≠some (c,s):=by
 have f: ¬ (Γ.sub w G β).X c:=λ⟨b,s,e⟩=>i b s e
 refine⟨h.kept.block c g f,h.marks c g f,λb s e=>?_⟩
 rcases (h.owned e).1 with d|d
 ·exact absurd d (by show ¬ (w.heap.size≤c); omega)
 ·exact f d
def J6 (w:World) (c:Nat) (l:List Int) (cap:Nat):Prop:=∃ vs e fr,w.heap[c]?=some (.cells vs e fr)∧(∀ o,o<vs.size→ ¬ (fr.1≤o∧o<fr.2))∧l.length≤vs.size∧cap≤vs.size∧
 ∀ (i:Nat) x,l[i]?=some x→vs[i]?=some (.int .i64 x)
theorem J6.same {c:Nat} {l:List Int} {cap:Nat} (h:J6 w c l cap) (f:w'.heap[c]?=w.heap[c]?):J6 w' c l cap:=by
 obtain⟨vs,e,fr,b,d⟩:=h
 exact⟨vs,e,fr,f.trans b,d⟩
def Jb (l:List Int) (pin:Option Nat):Blk:={ sz:=1,rows:=l.map Z5,frz:=0,pure:=true,pin }
theorem Zie {l:List Int} {i j:Nat} {r:List D} {d:D} (b:(l.map Z5)[i]?=some r) (c:r[j]?=some d):j=0∧∃ x,l[i]?=some x∧d=.int .i64 x:=by
 rw[List.getElem?_map] at b
 cases e:l[i]? with
 | none=>rw[e] at b; cases b
 | some x=>
  rw[e] at b; cases b
  cases j with
  | zero=>cases c; exact⟨rfl,x,rfl,rfl⟩
  | succ j=>simp[Z5] at c
theorem J6.rep {c:Nat} {l:List Int} {cap:Nat} (h:J6 w c l cap) (y:G c=0) (g:Γ.B≤c∨Γ.X c) {pin:Option Nat} (hp:∀ k,pin=some k→Γ.pin k=c):Vr w G β Γ c (Jb l pin):=by
 obtain⟨vs,e,fr,m,n,p,v,q⟩:=h
 refine⟨g,hp,λt s=>(by cases s),λo g=>(by omega),Nat.zero_le _,λ_ i j r d b f=>?_,λi r b=>?_,vs,e,fr,m,n,by simpa [Jb] using p,λi j r d b f=>?_⟩
 ·obtain⟨-,x,-,rfl⟩:=Zie b f; rfl
 ·simp only[Jb,List.getElem?_map] at b
  obtain⟨x,-,rfl⟩:=Qg b
  rfl
 ·obtain⟨rfl,x,u,rfl⟩:=Zie b f
  exact⟨_,by simpa [Jb] using q i x u,rfl,.int _ _⟩
theorem J6.of {c:Nat} {l:List Int} {pin:Option Nat} (h:Vr w G β Γ c (Jb l pin)) {cap:Nat} (b:∀ vs e fr,w.heap[c]?=some (.cells vs e fr)→cap≤vs.size):J6 w c l cap:=by
 obtain⟨vs,e,fr,d,j,k,m⟩:=h.cells
 refine⟨vs,e,fr,d,j,by simpa [Jb] using k,b vs e fr d,λi x n=>?_⟩
 obtain⟨v,f,-,g⟩:=m i 0 [.int .i64 x] (.int .i64 x) (by simp[Jb,n,Z5]) rfl
 cases g
 simpa [Jb] using f
theorem Zk.refine (h:Zk Γ σ a w G β) {b:Nat} {blk:Blk} (H:σ.heap b=some blk) (rows:List (List D)) (t:rows.length=blk.rows.length)
  (z:∀ c vs e fr,β b=some (c,blk.sz)→w.heap[c]?=some (.cells vs e fr)→∀ (i:Nat) (g:List D),rows[i]?=some g→g.length=blk.sz∧∀ (j:Nat) d',g[j]?=some d'→∀ r d v,blk.rows[i]?=some r→r[j]?=some d→vs[i*blk.sz+j]?=some v→one v=true→Zh w G β v d→Zh w G β v d') (p:Bool)
  (hp:p=true→∀ (i j:Nat) (r:List D) (d:D),rows[i]?=some r→r[j]?=some d→d.dat=true):
  Zk Γ (σ.setB b (some { blk with rows:=rows,pure:=p })) a w G β:=by
 refine⟨h.defers,h.size,h.tmps,λu k s=>?_,λu x s=>?_,h.inj,h.kept,h.marks,h.fresh,h.big,h.glob⟩
 ·simp only[S.setB] at s
  split at s
  ·cases s; rename_i A; subst A
   rcases h.heap _ blk H with ⟨o,q,y⟩|⟨c,o,hB⟩
   ·refine .inl ⟨o,?_,y⟩
    rw[q] at t
    exact List.eq_nil_of_length_eq_zero t
   ·refine .inr ⟨c,o,?_⟩
    obtain⟨own,pin,ty,frz,top,dat,hsz,vs,e,fr,q,y,E,F⟩:=hB
    refine⟨own,pin,ty,frz,by rw[t]; exact top,hp,λi g f=>(z c vs e fr o q i g f).1,vs,e,fr,q,y,by rw[t]; exact E,λi j g d' f m=>?_⟩
    have I:i<blk.rows.length:=by
     rw[← t]
     rcases Nat.lt_or_ge i rows.length with l|l
     ·exact l
     ·rw[List.getElem?_eq_none l] at f; cases f
    obtain⟨r,n⟩:∃ r,blk.rows[i]?=some r:=⟨_,List.getElem?_eq_getElem I⟩
    have B:j<r.length:=by
     rw[hsz i r n,← (z c vs e fr o q i g f).1]
     rcases Nat.lt_or_ge j g.length with l|l
     ·exact l
     ·rw[List.getElem?_eq_none l] at m; cases m
    obtain⟨v,a1,a2,C⟩:=F i j r r[j] n (List.getElem?_eq_getElem B)
    exact⟨v,a1,a2,(z c vs e fr o q i g f).2 j d' m r _ v n (List.getElem?_eq_getElem B) a1 a2 C⟩
  ·exact h.heap u k s
 ·simp only[S.setB]
  split
  ·exact⟨_,rfl⟩
  ·exact h.dom u x s
theorem Zk.cellOf (h:Zk Γ σ a w G β) {b:Nat} {blk:Blk} (n:σ.heap b=some blk) {i j:Nat} {r:List D} {d:D} (g:blk.rows[i]?=some r) (o:r[j]?=some d):
  ∃ c vs e fr v,β b=some (c,blk.sz)∧w.heap[c]?=some (.cells vs e fr)∧vs[i*blk.sz+j]?=some v∧one v=true∧Zh w G β v d:=by
 rcases h.heap b blk n with ⟨-,f,-⟩|⟨c,l,hB⟩
 ·rw[f] at g; simp at g
 ·obtain⟨vs,e,fr,f,p,q,m⟩:=hB.cells
  obtain⟨v,a1,a2,k⟩:=m i j r d g o
  exact⟨c,vs,e,fr,v,l,f,a1,a2,k⟩
theorem Zk.unname (h:Zk Γ σ a w G β) (b:Nat) (i:∀ t,(σ.tmps t).kill b=σ.tmps t) (f:∀ u k,u≠b→σ.heap u=some k→Blk.kill b k=k):
  Zk Γ { σ with heap:=λu=>if u=b then none else σ.heap u } a w G (upd β b none):=by
 have d:=h.drop b
 have e:σ.drop b={ σ with heap:=λu=>if u=b then none else σ.heap u }:=by
  unfold S.drop
  congr 1
  ·funext t; exact i t
  ·funext u
   by_cases c:u=b
   ·rw[if_pos c,if_pos c]
   ·rw[if_neg c,if_neg c]
    cases g:σ.heap u with
    | none=>rfl
    | some k=>exact congrArg some (f u k c g)
 rw[e] at d
 exact d
inductive Mz (w:World) (G:Nat→Nat) (B:Nat):Value→List Int→Prop
 | nil (x:Option Addr):Mz w G B (.slice x 0 0) []
 | blk (c cap:Nat) (l:List Int) (hcap:l.length≤cap) (hi:J6 w c l cap) (hG:G c=0) (hB:B≤c):Mz w G B (.slice (some ⟨c,0,none⟩) l.length cap) l
def TakeS (P:Program) (f:FuncId) (ds pre post:List D) (tos:List Int):Prop:=
 L5 P f=true∧∀ (w:World) (G:Nat→Nat) (vs:Array Value),(∀ c,w.heap.size≤c→G c=0)→Z00 w G→Kr w G vs ds→
  Calls P f vs w λe w'=>∃ v G' u,e=.returned v∧Below w.heap.size w w'∧(∀ c,c<w.heap.size→G' c=G c)∧(∀ c,w'.heap.size≤c→G' c=0)∧
   Zh w' G' (λ_=>none) v (.agg (pre++ .raw u::post))∧Mz w' G' w.heap.size u tos
def EndsT (P:Program) (fn:Func) (Q:List D→S→Prop):Exit→S→Prop:=λe σ=>(e=.ret∨e=.normal)∧∃ cs p,Z24 P σ fn.results.toList=some ([.agg cs],p)∧p∧Q cs σ
def OwnD (σ:S) (d:D) (l:List Int):Prop:=(d=.sl true []∧l=[])∨∃ b,d=.lsl b 0 (l.map Z5).length∧σ.heap b=some (Jb l none)
def Zqu (pre post:List D) (tos:List Int) (cs:List D) (σ:S):Prop:=∃ cpre d cpost l p,cs=cpre++d::cpost∧cpre.length=pre.length∧Vz σ (cpre++cpost)=some (pre++post,l,p)∧p∧OwnD σ d tos∧∀ b n,d=.lsl b 0 n→b ∉ l
theorem Zt0:∀ (l:List Nat) (σ:S) {b:Nat},b ∉ l→(σ.freezeL l).heap b=σ.heap b
 | [],_,_,_=>rfl
 | x::l,σ,b,h=>by
  have c:b≠x:=λe=>h (by simp[e])
  have d:b ∉ l:=λe=>h (by simp[e])
  show ((σ.freeze x).freezeL l).heap b=_
  rw[Zt0 l (σ.freeze x) d]
  simp[S.freeze,c]
theorem Zh.fresh (h:Zk Γ σ a w G β) {v:Value} {d:D} {l:List Int} (q:Zh w G β v d) (k:OwnD σ d l):Mz w G Γ.B v l∨∃ b c s,d=.lsl b 0 (l.map Z5).length∧β b=some (c,s)∧Γ.X c:=by
 rcases k with ⟨rfl,rfl⟩|⟨b,rfl,u⟩
 ·cases q with
  | slnil c x=>exact .inl (.nil x)
  | sl c b off n cap sz rows val j y g=>
   have f:n=0:=by simpa using j.symm
   subst f
   obtain rfl:cap=0:=y rfl
   exact .inl (.nil _)
 ·generalize j:(l.map Z5).length=n at q
  rw[List.length_map] at j
  cases q with
  | lslnil b x=>
   obtain rfl:=List.eq_nil_of_length_eq_zero j
   exact .inl (.nil x)
  | lsl b lo n cap c sz off r g m i=>
   subst j
   by_cases t:cap=0
   ·subst t
    obtain rfl:l=[] :=List.eq_nil_of_length_eq_zero (by omega)
    exact .inl (.nil _)
   ·have f:off=0:=by
     rcases m with o|o
     ·exact absurd o t
     ·simpa using o
    subst f
    rcases h.heap b _ u with ⟨f,-⟩|⟨c',f,hB⟩
    ·rw[r] at f; cases f
    ·rw[r] at f
     simp only[Jb,Option.some.injEq,Prod.mk.injEq] at f
     obtain⟨rfl,rfl⟩:=f
     rcases hB.own with k|k
     ·refine .inl (.blk c cap l g (J6.of hB λvs e fr z=>?_) ?_ k)
      ·obtain⟨vs',A,fr',k1,k2⟩:=i
       rw[z] at k1; cases k1
       rcases k2 with k2|k2
       ·omega
       ·omega
      ·rcases Nat.eq_zero_or_pos (G c) with p|p
       ·exact p
       ·have:=hB.frz 0 p
        simp[Jb] at this
     ·exact .inr ⟨b,c,_,rfl,r,k⟩
theorem Y6z {f:FuncId} {fn:Func} {c:Code} {ds pre post:List D} {tos:List Int} (hf:P.funcs[f]?=some fn) (F:fn.body=some c) (H:L5 P f=true) (hn:ds.length≤fn.ntmps)
  (h:∀ Γ:Ctx,DWP P Γ c (EndsT P fn (Zqu pre post tos)) (mkS fn.ntmps (Vv 0 ds) [])):TakeS P f ds pre post tos:=by
 refine⟨H,λw G vs hG T i=>?_⟩
 let Γ:Ctx:={ B:=w.heap.size,X:=λ_=>False,w0:=w,G0:=G,hB:=Nat.le_refl _,pin:=λ_=>0 }
 have hC : Zk Γ (mkS fn.ntmps (Vv 0 ds) []) { tmps:=vs++Array.replicate (fn.ntmps - vs.size) Go.undef,defers:=[] } w G (λ_=>none):=by
  refine⟨rfl,?_,λt=>?_,λb blk F=>?_,λb x M=>?_,λb b' c s s' F=>?_,.refl _ _ _,λ_ _ _=>rfl,hG,Nat.le_refl _,T⟩
  ·simp only[Array.size_append,Array.size_replicate,mkS]; have:=i.size; omega
  ·show Zh w G _ _ (ofL (Vv 0 ds) t)
   rw[Z5l,if_pos (Nat.zero_le _),Nat.sub_zero]
   rcases Nat.lt_or_ge t ds.length with L|L
   ·have y:t<vs.size:=by rw[← i.size]; exact L
    have C:ds.getD t .undef=ds[t] :=by simp[List.getD,List.getElem?_eq_getElem L]
    have N:(vs++Array.replicate (fn.ntmps - vs.size) Go.undef).getD t Go.undef=vs[t] :=by
     rw[Array.getD_eq_getD_getElem?,Array.getElem?_append_left y,Array.getElem?_eq_getElem y]; rfl
    rw[C,N]
    exact i.rep t _ _ (Array.getElem?_eq_getElem y) (List.getElem?_eq_getElem L)
   ·have C:ds.getD t .undef=.undef:=by simp[List.getD,List.getElem?_eq_none L]
    rw[C]; exact .undef _
  ·cases F
  ·cases M
  ·cases F
 refine calls_of_wp hf F (wp_mono (h Γ _ w G _ hC) λe a' w' ⟨σ',G',β',n,he,cs,p,hr,hp,cpre,d,cpost,l,q,O,K,hd,hq,W,V⟩=>?_)
 subst O
 obtain⟨vs,C,N,e3⟩:=Zig (P:=P) n _ hr hp
 obtain ⟨v,rfl⟩:∃ v,vs=[v] :=by
  match vs,N with
  | [v],_=>exact⟨v,rfl⟩
 have A:=e3 0 v _ rfl rfl
 obtain⟨us,rfl,k1,k2,k3⟩:=L9 A
 obtain⟨G2,o,f2,f3,f4⟩:=Z6s n hd hq
 have hi:cpre.length<us.size:=by rw[← k1]; simp
 obtain⟨u,Z⟩:∃ u,us[cpre.length]?=some u:=⟨_,Array.getElem?_eq_getElem hi⟩
 have hud:=k3 cpre.length _ d Z (by simp)
 -- the block stands as it stood
 have Y:OwnD (σ'.freezeL l) d tos:=by
  rcases W with W|⟨b,z,h2⟩
  ·exact .inl W
  ·exact .inr ⟨b,z,by rw[Zt0 l σ' (V b _ z)]; exact h2⟩
 have R:Mz w' G2 w.heap.size u tos:=by
  rcases Zh.fresh o (hud.mono (λ_ _ _=>rfl) f2 (λ_ _ h=>h) (.refl w')) Y with z|⟨b,c,s,-,-,z⟩
  ·exact z
  ·exact absurd z (λh=>h)
 have E:Zh w' G2 (λ_=>none) (.agg us) (.agg (pre++ .raw u::post)):=by
  have J:(pre++post).length=(cpre++cpost).length:=f3
  refine .agg us _ ?_ k2 λj v d' A g=>?_
  ·rw[← k1]; simp only[List.length_append,List.length_cons] at J ⊢; omega
  ·rcases Nat.lt_trichotomy j cpre.length with I|I|I
   ·rw[List.getElem?_append_left (by omega)] at g
    have M:(cpre++d::cpost)[j]?=(cpre++cpost)[j]? :=by rw[List.getElem?_append_left I,List.getElem?_append_left I]
    have Q:∃ d0,(cpre++cpost)[j]?=some d0:=⟨_,List.getElem?_eq_getElem (by simp; omega)⟩
    obtain⟨d0,m⟩:=Q
    exact f4 j v d0 d' (k3 j v d0 A (M.trans m)) m (by rw[List.getElem?_append_left (by omega)]; exact g)
   ·subst I
    rw[List.getElem?_append_right (by omega),K,Nat.sub_self] at g
    cases g
    rw[Z] at A; cases A
    exact .raw _ (k2 _ _ Z)
   ·rw[List.getElem?_append_right (by omega),show j - pre.length=(j - 1 - pre.length)+1 by omega,List.getElem?_cons_succ] at g
    have M:(cpre++d::cpost)[j]?=(cpre++cpost)[j - 1]? :=by
     rw[List.getElem?_append_right (by omega),show j - cpre.length=(j - 1 - cpre.length)+1 by omega,List.getElem?_cons_succ,List.getElem?_append_right (by omega)]
    have U:j - 1<(cpre++cpost).length:=by
     rcases Nat.lt_or_ge (j - 1 - pre.length) post.length with h'|h'
     ·rw[← J,List.length_append]; omega
     ·rw[List.getElem?_eq_none h'] at g; cases g
    obtain⟨d0,m⟩:∃ d0,(cpre++cpost)[j - 1]?=some d0:=⟨_,List.getElem?_eq_getElem U⟩
    exact f4 (j - 1) v d0 d' (k3 j v d0 A (M.trans m)) m (by rw[List.getElem?_append_right (by omega)]; exact g)
 have r:(results fn a'.tmps).run P w'=.ok (.agg us) w':=by
  rw[Zo9,Array.mapM_eq_mapM_toList]
  simp only[Sem.run_bind,Sem.run_map,C,Result.andThen_ok,Sem.run_pure]
  rfl
 have hR:∃ v' G' u,Ending.returned (.agg us)=.returned v'∧Below w.heap.size w w'∧(∀ c,c<w.heap.size→G' c=G c)∧(∀ c,w'.heap.size≤c→G' c=0)∧Zh w' G' (λ_=>none) v' (.agg (pre++ .raw u::post))∧Mz w' G' w.heap.size u tos:=
  ⟨_,G2,_,rfl,⟨o.kept.os,o.kept.tape,o.kept.output,o.kept.size,λk hk=>o.kept.block k hk (λh=>h)⟩,λc hc=>o.marks c hc (λh=>h),o.fresh,E,R⟩
 rcases he with rfl|rfl
 ·exact⟨n.defers,_,r,hR⟩
 ·exact⟨n.defers,_,r,hR⟩
theorem Y3a (F:Zk Γ σ a w G β) {ops:Array Oper} {i:Nat} {o:Oper} (hi:ops[i]?=some o) (hg:o.guard=none) {fo:Operand} {args:Array Operand} {ts:Array TypeId} (ho:o.op=.call { callee:= .value fo,args,argTypes:=ts }) {f:FuncId} (L:σ.ev fo=.fn f)
  {ds pre post:List D} {tos:List Int} {p:Prop} (J:Vz σ (args.toList.map σ.ev)=some (ds,[],p)) (hp:p) {t:Nat} (z:o.dst=some t) (ht:t<σ.n) (O:TakeS P f ds pre post tos)
  {K:Act→World→Prop} {Q:Exit→Act→World→Prop} (hK:∀ v w' G' u,Zk Γ (σ.put (some t) (.agg (pre++ .raw u::post))) (a.put (some t) v) w' G' β→Mz w' G' w.heap.size u tos→K (a.put (some t) v) w'):wpOp P ops Q i K a w:=by
 have A:a.eval fo=.func (.func f) #[] #[] :=by
  have:=W8 F fo
  rw[L] at this
  generalize a.eval fo=u at this
  cases this; rfl
 obtain⟨G',q,h2,h3,h4⟩:=Z6s F J hp
 change Zk Γ σ a w G' β at q
 have r:Kr w G' (args.map a.eval) ds:=by
  refine⟨by rw[h3]; simp,λj v d U J=>?_⟩
  simp only[Array.getElem?_map] at U
  obtain⟨x,B,rfl⟩:=Qg U
  exact h4 j _ (σ.ev x) d (W8 F x) (by simp[B]) J
 have s:(execOp a.eval o).run P w=(callFunc f (args.map a.eval)).run P w:=by
  simp[execOp,ho,resolve,A,Deferred.ofValue,invoke]
 unfold wpOp
 rw[hi]
 have hw:Region.wanted o (yielded ops a.tmps)=true:=by unfold Region.wanted; rw[hg]
 dsimp only
 rw[hw]
 refine .inl ?_
 unfold Oper.wp
 rw[s,Zog O.1,Oper.upon_enter]
 refine(O.2 w G' _ q.fresh q.glob r).mono λe w' he=>?_
 obtain⟨v,G2,u,rfl,V,C,W,X,Y⟩:=he
 have g:=q.quiet V
 have I:∀ k,G' k≤G2 k:=λk=>by
  rcases Nat.lt_or_ge k w.heap.size with M|M
  ·rw[C k M]; exact Nat.le_refl _
  ·rw[q.fresh k M]; exact Nat.zero_le _
 have l:∀ b o,o<G' b→w'.cell? ⟨b,o,none⟩=w'.cell? ⟨b,o,none⟩:=λ_ _ _=>rfl
 have H:Zk Γ σ a w' G2 β:=by
  refine⟨g.defers,g.size,λt=>(g.tmps t).mono l I (λ_ _ h=>h) (.refl w'),λb blk R=>?_,g.dom,g.inj,g.kept,λc T B=>?_,W,g.big,g.glob.mono l I⟩
  ·rcases g.heap b blk R with y|⟨c,y,hB⟩
   ·exact .inl y
   ·rcases q.heap b blk R with ⟨m,-⟩|⟨c',m,E⟩
    ·rw[m] at y; cases y
    ·have N:=E.lt
     rw[m] at y; cases y
     exact .inr ⟨_,m,hB.mono l I (C _ N) (λ_ _ h=>h) (.refl w') rfl⟩
  ·rw[C c (Nat.lt_of_lt_of_le T q.big)]; exact q.marks c T B
 have:=H.put (dst:=some t) (λt' Z=>by cases Z; exact ht) (X.mono (λ_ _ _=>rfl) (λ_=>Nat.le_refl _) (λb x B=>by cases B) (.refl w'))
 rw[z]
 exact hK v w' G2 u this Y
theorem Zo6 {x:Code} {Q:Exit→S→Prop} (c:DWP P (Γ.sub w G β) x Q σ) (b:Zk Γ σ a w G β) {post:Exit→Act→World→Prop}
  (h:∀ e σ' a' w' G' β',Q e σ'→Zk Γ σ' a' w' G' β'→Zk (Γ.sub w G β) σ' a' w' G' β'→post e a' w'):x.wp P post a w:=
 wp_mono (c a w G β b.sub) λe a' w' ⟨σ',G',β',k1,k2⟩=>h e σ' a' w' G' β' k2 (b.lift k1) k1
theorem seqS {x y:Code} {Q:Exit→S→Prop} (h:DWP P (Γ.sub w G β) x Q σ) (f:Zk Γ σ a w G β) {post:Exit→Act→World→Prop}
  (g:∀ σ' a' w' G' β',Q .normal σ'→Zk Γ σ' a' w' G' β'→Zk (Γ.sub w G β) σ' a' w' G' β'→y.wp P post a' w')
  (he:∀ e σ' a' w' G' β',e≠ .normal→Q e σ'→Zk Γ σ' a' w' G' β'→Zk (Γ.sub w G β) σ' a' w' G' β'→post e a' w'):(Code.seq x y).wp P post a w:=by
 refine wp_seq (Zo6 h f λe σ' a' w' G' β' b c d=>?_)
 cases e with
 | normal=>exact g σ' a' w' G' β' b c d
 | _=>exact he _ σ' a' w' G' β' (by simp) b c d
theorem DWP.noX {c:Code} {Q:Exit→S→Prop} (g:∀ b,σ.heap b=none) (h:∀ Γ:Ctx,(∀ c,¬ Γ.X c)→DWP P Γ c Q σ):DWP P Γ c Q σ:=λa w G β d=>
 wp_mono (h (Γ.sub w G β) (λc ⟨b,s,f⟩=>by obtain⟨k,e⟩:=d.dom b _ f; rw[g] at e; cases e) a w G β d.sub) λ_ _ _ ⟨σ',G',β',k1,k2⟩=>⟨σ',G',β',d.lift k1,k2⟩
def RdW {T R:Type} (I:T→Act→World→Prop) (J:R→Exit→Act→World→Prop):Ctl T R→Exit→Act→World→Prop
 | .next b,e,a,w=>e=.normal∧I b a w
 | .done r,e,a,w=>e≠ .normal∧J r e a w
theorem loopS {T R:Type} {c:Code} {f:T→Option (Ctl T R)} {I:T→Act→World→Prop} {J:R→Exit→Act→World→Prop} {post:Exit→Act→World→Prop}
  (round:∀ t x,f t=some x→∀ a w,I t a w→c.wp P (RdW I J x) a w)
  {n:Nat} {t:T} {r:R} (h:Z8 f n t=some r) (l:∀ e a w,J r e a w→post e a w) {a:Act} {w:World} (k:I t a w):(Code.loop c).wp P post a w:=by
 refine Zq5 (λn a w=>∃ t,Z8 f n t=some r∧I t a w) ?_ n a w ⟨t,h,k⟩
 rintro n a w ⟨t,h,j⟩
 cases n with
 | zero=>cases h
 | succ m=>
  refine⟨m,rfl,?_⟩
  unfold Z8 at h
  cases b:f t with
  | none=>rw[b] at h; cases h
  | some x=>
   rw[b] at h
   refine wp_mono (round t x b a w j) λe a' w' g=>?_
   cases x with
   | next p=>
    obtain⟨rfl,i⟩:=g
    exact⟨p,h,i⟩
   | done q=>
    cases h
    obtain⟨d,o⟩:=g
    cases e with
    | normal=>exact absurd rfl d
    | _=>exact l _ _ _ o
theorem prS0 {ops:Array Oper} {told:List (Nat×X8)} {gs:List (Nat×Bool)} {b e:List Nat} {p:Prop} (d:Zk Γ σ a w G β) (h:Z0z P ops told gs b σ=some (σ',p)) (hp:p) {Q:Exit→Act→World→Prop}
  (f:∀ a' w' G' β',Zk Γ σ' a' w' G' β'→Zk (Γ.sub w G β) σ' a' w' G' β'→wpOps P ops Q e a' w'):wpOps P ops Q (b++e) a w:=
 Zod b d.sub h hp λa' w' G' β' c=>f a' w' G' β' (d.lift c) c
namespace W
def iaN (b m:Nat) {i:Int} {j:Nat} (h:X7 i m=some j):GT:=
 GT.of { ans:= .val (.lptr b j 0) } (p:=0≤i∧i<((m:Nat):Int)∧((0:Nat):Int)+i=j) (Ka h rfl)
def lnN (m:Nat):GT:=GT.of { ans:= .val (.int .i64 m) } (p:=(m:Int)=(m:Int)) rfl
def PQ (b:Exit) (x:SL):Exit→S→Prop:=λe σ=>e=b∧Sub σ x.s
theorem pg {c:Exit} {ev:Ev} {x:SL} (cv:List U6:=[]) (ps:List (Nat×Nat):=x.ps) (b:(Uf cv x.ts ps σ,σ.n,et ev)=(some (x.l,x.bl),x.n,some c):=by kernel_rfl):E P Γ (PQ c x) σ ev:=by
 have d:=congrArg Prod.fst b
 have e:=congrArg (λx=>x.2.1) b
 have f:=congrArg (λx=>x.2.2) b
 dsimp only at d e f
 have hs:Sub σ x.s:=K1 (cv:=cv) (ps:=ps) (by rw[d,e])
 cases ev <;> cases f <;> exact⟨⟨rfl,hs⟩⟩
theorem Lz {x y:Code} {z:SL} (i:∀ {Γ:Ctx},A P Γ x [] (PQ .normal z) σ) (f:Zk Γ σ a w G β) {post:Exit→Act→World→Prop}
  (h:∀ a' w' G' β',Zk Γ z.s a' w' G' β'→Zk (Γ.sub w G β) z.s a' w' G' β'→y.wp P post a' w'):(Code.seq x y).wp P post a w:=
 seqS (Q:=PQ .normal z) i.h f (λσ' a' w' G' β' b _ g=>by
  obtain⟨G2,β2,d⟩:=b.2 _ _ _ _ _ g
  exact h a' w' G2 β2 (f.lift d) d) λe σ' a' w' G' β' c b _ _=>absurd b.1 c
theorem seqE {x y:Code} {z:SL} {c:Exit} (d:c≠ .normal) (j:∀ {Γ:Ctx},A P Γ x [] (PQ c z) σ) (i:Zk Γ σ a w G β) {post:Exit→Act→World→Prop}
  (h:∀ a' w' G' β',Zk Γ z.s a' w' G' β'→Zk (Γ.sub w G β) z.s a' w' G' β'→post c a' w'):(Code.seq x y).wp P post a w:=
 seqS (Q:=PQ c z) j.h i (λσ' a' w' G' β' b _ f=>absurd b.1.symm d) λe σ' a' w' G' β' _ b _ f=>by
  obtain⟨rfl,b⟩:=b
  obtain⟨G2,β2,g⟩:=b _ _ _ _ _ f
  exact h a' w' G2 β2 (i.lift g) g
theorem pieceC {x:Code} {z:SL} {b:Exit} (i:∀ {Γ:Ctx},A P Γ x [] (PQ b z) σ) (f:Zk Γ σ a w G β) {post:Exit→Act→World→Prop}
  (h:∀ a' w' G' β',Zk Γ z.s a' w' G' β'→Zk (Γ.sub w G β) z.s a' w' G' β'→post b a' w'):x.wp P post a w:=
 Zo6 (Q:=PQ b z) i.h f λe σ' a' w' G' β' c _ g=>by
  obtain⟨rfl,c⟩:=c
  obtain⟨G2,β2,d⟩:=c _ _ _ _ _ g
  exact h a' w' G2 β2 (f.lift d) d
theorem prS {ops:Array Oper} {l:List Nat} (d:Zk Γ σ a w G β) (m:Nat) (rs:List (Nat×GT)) {z:SL} (cv:List U6:=[]) (ps:List (Nat×Nat):=z.ps) {Q:Exit→Act→World→Prop}
  (h:∀ a' w' G' β',Zk Γ z.s a' w' G' β'→Zk (Γ.sub w G β) z.s a' w' G' β'→wpOps P ops Q (l.drop m) a' w')
  (b:((Z3h P ops rs (l.take m) σ).q,Uf cv z.ts ps (Z3h P ops rs (l.take m) σ).s,(Z3h P ops rs (l.take m) σ).s.n)=(some (Z3f rs []),some (z.l,z.bl),z.n):=by kernel_rfl):wpOps P ops Q l a w:=by
 have k1:=congrArg Prod.fst b
 have k2:=congrArg (λx=>x.2.1) b
 have k3:=congrArg (λx=>x.2.2) b
 dsimp only at k1 k2 k3
 unfold Z3h at k1 k2 k3
 split at k1
 ·rename_i σ1 q f
  rw[f] at k2 k3
  obtain⟨p,e,hp⟩:=Zau _ f (by cases k1; exact Zan rs trivial)
  have hs:Sub σ1 z.s:=K1 (cv:=cv) (ps:=ps) (by rw[show Uf cv z.ts ps σ1=_ from k2,show σ1.n=_ from k3])
  rw[← List.take_append_drop m l]
  exact prS0 d e hp λa' w' G' β' _ g=>by
   obtain⟨G2,β2,c⟩:=hs _ _ _ _ _ g
   exact h a' w' G2 β2 (d.lift c) c
 ·cases k1
theorem rtT {fn:Func} {ev:Ev} {cs:List D} {Q:List D→S→Prop} (d:Q cs σ) (e:(fin ev,Z24 P σ fn.results.toList)=(true,some ([.agg cs],tN fn.results.size)):=by kernel_rfl):E P Γ (EndsT P fn Q) σ ev:=by
 have c:=congrArg Prod.fst e
 have b:=congrArg Prod.snd e
 dsimp only at c b
 cases ev <;> first|cases c|skip
 ·exact⟨⟨.inl rfl,_,_,b,tNi _,d⟩⟩
 ·exact⟨⟨.inr rfl,_,_,b,tNi _,d⟩⟩
end W
end Go.Den
namespace Go.Proofs
open Tryz
open Go.Den Go.Den.W
def Z22 (x:Zg):List D:=[dI x.f_Op,dI x.f_A,dI x.f_B,dI x.f_To,.sl false (x.Yg.map Z5)]
def Z21 (x:Zg):List D:=[.str x.Yv.Zy,.str x.Yv.Zn,.str x.Yv.Xh,.str x.f_S]
abbrev EndT (r:Zg):Exit→S→Prop:=EndsT prog f239 (Zqu (Z22 r) (Z21 r) r.Zs)
theorem rtN {Γ:Ctx} {σ:S} {ev:Ev} {x r:Zg} (h:some x=some r) (a:x.Yg=[]) (c:x.Zs=[])
  (d:(fin ev,Z24 prog σ f239.results.toList)=(true,some ([.agg [dI x.f_Op,dI x.f_A,dI x.f_B,dI x.f_To,.sl true [],.sl true [],.str x.Yv.Zy,.str x.Yv.Zn,.str x.Yv.Xh,.str x.f_S]],tN f239.results.size)):=by kernel_rfl):E prog Γ (EndT r) σ ev:=by
 cases h
 refine rtT ⟨[dI x.f_Op,dI x.f_A,dI x.f_B,dI x.f_To,.sl true []],.sl true [],Z21 x,[],True∧(True∧(True∧(True∧(True∧(True∧(True∧(True∧(True∧True)))))))),rfl,rfl,?_,?_,.inl ⟨rfl,c⟩,λb n h=>(by cases h)⟩ d
 ·unfold Z22; rw[a]; rfl
 ·exact⟨trivial,trivial,trivial,trivial,trivial,trivial,trivial,trivial,trivial,trivial⟩
theorem t164 {B : List UInt8} {C e:Int} {r:Zg} (h:Zfy B C e=some r):TakeS prog 239 [.str B,dI C,dI e] (Z22 r) (Z21 r) r.Zs:=by
 refine Y6z (fn:=f239) (c:=Ur f239) (by kernel_rfl) (by kernel_rfl) (by kernel_rfl) (Nat.le_of_ble_eq_true (by kernel_rfl)) λΓ=>A.h (K:=[]) ?_
 exact bd h λv0 D h=>go [] [rg 2 [(1,k (w185 D))]]<|br h (λO h=>bd h λv1 E h=>bd h λv2 F h=>go [] [rg 4 [(2,n E),(3,k (w249 F))]]<|rtN h rfl rfl) λO h=>
 go [] [] <| br h (λP h=>bd h λv3 G h=>bd h λv4 H h=>go [] [rg 6 [(2,n G),(3,k (Mw H))]]<|rtN h rfl rfl) λP h=>
  go [] [] <| br h (λQ h=>bd h λv5 I h=>bd h λv6 J h=>go [] [rg 8 [(2,n I),(3,k (Mw J))]]<|rtN h rfl rfl) λQ h=>
   go [] []<|br h (λR h=>bd h λv7 L h=>bd h λv8 M h=>go [] [rg 10 [(2,n L),(3,k (Mw M))]]<|rtN h rfl rfl) λR h=>
    go [] []<|br h (λS h=>bd h λv9 N h=>bd h λV i h=>bd h λW j h=>bd h λX l h=>go [] [rg 12 [(2,n N),(3,k (Mw i))],rg 13 [(2,n j),(3,k (w249 l))]]<|rtN h rfl rfl) λS h=>
     go [] []<|br h (λT h=>bd h λY m h=>bd h λf o h=>bd h λZ p h=>bd h λg q h=>bd h λv17 s h=>bd h λv18 t h=>go [] [rg 15 [(2,n m),(3,k (Mw o))],rg 16 [(2,n p),(3,k (w249 q))],rg 17 [(2,n s),(3,k (Mw t))]]<|bd h λq0 u h=>lp (cv:=[.blk 7 5 1007 1]) u (wl239x1 f g e)<|qe<|goN [] []<|by
       cases h
       exact rtT ⟨[dI e,dI g,dI 0,dI f,.sl true []],.lsl 1007 0 ((q0.map Z5).length),[.str [],.str [],.str [],.str []],[],True∧(True∧(True∧(True∧(True∧(True∧(True∧(True∧(True∧True)))))))),rfl,rfl,rfl,⟨trivial,trivial,trivial,trivial,trivial,trivial,trivial,trivial,trivial,trivial⟩,.inr ⟨1007,rfl,by kernel_rfl⟩,λb n h=>by simp⟩) λT h=>
      go [] []<|br h (λU h=>bd h λv33 v h=>bd h λd w h=>bd h λv35 x h=>bd h λv36 y h=>go [] [rg 23 [(2,n v),(3,k (Mw w))],rg 24 [(2,n x),(3,k (Mw y))]]<|bd h λa z h=>lp (cv:=[.blk 7 4 1007 1,.blk 7 5 2007 1]) z (wl239x2 d e)<|qe<|goN [] []<|by
       cases h
       exact rtT ⟨[dI e,dI 0,dI 0,dI d,.lsl 1007 0 ((a.1.map Z5).length)],.lsl 2007 0 ((a.2.map Z5).length),[.str [],.str [],.str [],.str []],[1007],True∧(True∧(True∧(True∧((0+(a.1.map Z5).length≤(a.1.map Z5).length)∧(True∧(True∧(True∧(True∧True)))))))),rfl,rfl,
        (Eq.trans (b:=some ([dI e,dI 0,dI 0,dI d,rw_ a.1,.str [],.str [],.str [],.str []],[1007],True∧(True∧(True∧(True∧((0+(a.1.map Z5).length≤(a.1.map Z5).length)∧(True∧(True∧(True∧(True∧True)))))))))) (by kernel_rfl) (by unfold Z22 Z21; simp only[rwE]; rfl)),⟨trivial,trivial,trivial,trivial,by omega,trivial,trivial,trivial,trivial,trivial⟩,.inr ⟨2007,rfl,by kernel_rfl⟩,λb n h=>by cases h; simp⟩) λU h=>
       go [] []<|rtN h rfl rfl
end Go.Proofs
namespace Go.Proofs
open Tryz
open Go.Den Go.Den.W
def Z01 (b:(List Zg)×Int):D:= .tup [.sl false (b.1.map Y4),.int .i64 b.2]
def Z8q (x0:List UInt8) (t0:Int×(List Zg)×(List Int)):Option (Ctl (Int×(List Zg)×(List Int)) (((List Zg)×(List Int))⊕((List Zg)×Int))):=
 if (decide (t0.1<(x0.length:Int)))=true then
  ((Vw x0 t0.1).bind λv14=>
  (some (IntKind.wrap .i64 v14)).bind λv15=>
  if (decide (v15≥81))=true then
   (some (.done (.inr (([]:List Zg),15)))) else
  ((Z9m x0 t0.1 v15).bind λv16=>
   if (decide (v16<0))=true then
    (some (.done (.inr (([]:List Zg),3)))) else
   ((Zfy x0 t0.1 v15).bind λb=>
    (Yp 144 (t0.2.1++[b]).length).bind λc=>
    (Yp 8 (t0.2.2++[t0.1]).length).bind λd=>
    (some (IntKind.wrap .i64 (t0.1+v16))).bind λv20=>
    some (.next (v20,(t0.2.1++[b]),(t0.2.2++[t0.1])))))) else
 (some (.done (.inl ((t0.2.1,t0.2.2)))))
abbrev YI:=Zg×D
def Vf (y:YI):List D:=Z22 y.1++y.2::Z21 y.1
instance rowYI:Row YI:=⟨Vf,10,λ_=>rfl⟩
def Mem (Γ:Ctx) (w:World) (G:Nat→Nat) (β:Nat→Option (Nat×Nat)) (y:YI):Option Nat→Prop
 | none=>∃ x,y.2=.raw (.slice x 0 0)∧y.1.Zs=[]
 | some c=>∃ cap,y.2=.raw (.slice (some ⟨c,0,none⟩) y.1.Zs.length cap)∧y.1.Zs.length≤cap∧J6 w c y.1.Zs cap∧G c=0∧Γ.B≤c∧∀ b s,β b≠some (c,s)
structure Fam (Γ:Ctx) (w:World) (G:Nat→Nat) (β:Nat→Option (Nat×Nat)) (ys:List YI) (loc:Nat→Option Nat):Prop where
 mem:∀ (k:Nat) y,ys[k]?=some y→Mem Γ w G β y (loc k)
 inj:∀ j k c,loc j=some c→loc k=some c→j<ys.length→k<ys.length→j=k
variable {Γ:Ctx} {σ σ':S} {a a':Act} {w w':World} {G G':Nat→Nat} {β β':Nat→Option (Nat×Nat)}
theorem J6.lt {c:Nat} {l:List Int} {cap:Nat} (h:J6 w c l cap):c<w.heap.size:=by
 obtain⟨vs,e,fr,b,-⟩:=h
 exact(Array.getElem?_eq_some_iff.1 b).1
theorem Mem.frame {y:YI} {o:Option Nat} (h:Mem Γ w G β y o) (j:Zk (Γ.sub w G β) σ' a' w' G' β'):Mem Γ w' G' β' y o:=by
 cases o with
 | none=>exact h
 | some c=>
  obtain⟨cap,d,e,b,f,g,i⟩:=h
  obtain⟨k1,k2,k3⟩:=j.frame (J6.lt b) i
  exact⟨cap,d,e,b.same k1,k2.trans f,g,k3⟩
theorem Fam.frame {ys:List YI} {loc:Nat→Option Nat} (h:Fam Γ w G β ys loc) (b:Zk (Γ.sub w G β) σ' a' w' G' β'):Fam Γ w' G' β' ys loc:=
 ⟨λk y c=>(h.mem k y c).frame b,h.inj⟩
theorem Fam.none:Fam Γ w G β [] (λ_=>none):=⟨λk y h=>(by simp at h),λj k c h=>(by cases h)⟩
theorem Fam.snoc1 {ys:List YI} {loc:Nat→Option Nat} (h:Fam Γ w G β ys loc) {y:YI} {o:Option Nat} (i:Mem Γ w G β y o) (f:∀ k c,o=some c→k<ys.length→loc k≠some c):
  Fam Γ w G β (ys++[y]) (λk=>if k=ys.length then o else loc k):=by
 refine⟨λk z b=>?_,λj k c e b d g=>?_⟩
 ·rcases Nat.lt_trichotomy k ys.length with d|d|d
  ·rw[List.getElem?_append_left d] at b
   rw[if_neg (by omega)]
   exact h.mem k z b
  ·subst d
   rw[List.getElem?_append_right (Nat.le_refl _),Nat.sub_self] at b
   cases b
   rw[if_pos rfl]
   exact i
  ·rw[List.getElem?_eq_none (by simp; omega)] at b
   cases b
 ·simp only[List.length_append,List.length_cons,List.length_nil] at d g
  split at e
  ·split at b
   ·omega
   ·exact absurd b (f k c e (by omega))
  ·split at b
   ·exact absurd e (f j c b (by omega))
   ·exact h.inj j k c e b (by omega) (by omega)
theorem Fam.snoc {ys:List YI} {loc:Nat→Option Nat} (h:Fam Γ w G β ys loc) (g:Zk Γ σ a w G β) (p:Zk (Γ.sub w G β) σ' a' w' G' β) {x:Zg} {u:Value} (m:Mz w' G' w.heap.size u x.Zs):
  ∃ loc',Fam Γ w' G' β (ys++[(x,.raw u)]) loc':=by
 have i:=h.frame p
 generalize e:x.Zs=l at m
 cases m with
 | nil z=>exact⟨_,i.snoc1 (o:=Option.none) ⟨z,rfl,e⟩ (λk c f=>by cases f)⟩
 | blk c cap _ d t q hB=>
  refine⟨_,i.snoc1 (o:=some c) ⟨cap,?_,?_,?_,q,Nat.le_trans g.big hB,λb s r=>?_⟩ λk c' f v A=>?_⟩
  ·show D.raw _=_
   rw[← e]
  ·show x.Zs.length≤cap
   rw[e]; exact d
  ·show J6 w' c x.Zs cap
   rw[e]; exact t
  ·have:=(g.owned r).2
   omega
  ·cases f
   obtain⟨y,B⟩:∃ y,ys[k]?=some y:=⟨_,List.getElem?_eq_getElem v⟩
   have j:=h.mem k y B
   rw[A] at j
   obtain⟨cap',-,-,n,-⟩:=j
   have:=J6.lt n
   omega
theorem rE {P:Program} {fn:Func} {R:Type} {res:R→D} {y:R} {ev:Ev} (d:(et ev,Mo P fn σ)=(some .ret,some (res y,tN fn.results.size∧pR (res y))):=by kernel_rfl):E P Γ (λe σ=>e=.ret∧Go.Den.Ends P fn (res y) .ret σ) σ ev:=by
 have b:=congrArg Prod.fst d
 have c:=congrArg Prod.snd d
 dsimp only at b c
 cases ev <;> cases b
 exact⟨⟨rfl,.inl rfl,_,c,tNi _,pRi _⟩⟩
def bI (ys:List YI):Nat×Blk:=(4,{ sz:=10,rows:=ys.map Vf,frz:=0,pure:=true })
def bP (ps:List Int):Nat×Blk:=(5,{ sz:=1,rows:=ps.map Z5,frz:=0,pure:=true })
def tI (ys:List YI):Nat×D:=(4,.lsl 4 0 (ys.map Vf).length)
def tP (ps:List Int):Nat×D:=(5,.lsl 5 0 (ps.map Z5).length)
def sY1 (x0:List UInt8) (at_:Int) (ys:List YI) (ps:List Int):SL:=⟨130,[(0,.str x0),tI ys,tP ps,(6,dI at_)],[bI ys,bP ps]⟩
def sY1b (x0:List UInt8) (at_ v15:Int) (ys:List YI) (ps:List Int):SL:=⟨130,[(0,.str x0),tI ys,tP ps,(6,dI at_),(7,dI v15)],[bI ys,bP ps]⟩
def sY1d (x0:List UInt8) (at_ v15 v16:Int) (ys:List YI) (ps:List Int):SL:=⟨130,[(0,.str x0),tI ys,tP ps,(6,dI at_),(7,dI v15),(8,dI v16)],[bI ys,bP ps]⟩
def sY1e (x0:List UInt8) (at_ v15 v16:Int) (ys:List YI) (ps:List Int):SL:=⟨130,[(0,.str x0),tI ys,tP ps,(6,dI at_),(7,dI v15),(8,dI v16),(32,.lsl 4 0 (ys.map Vf).length),(33,.str x0),(34,dI at_),(35,dI v15)],[bI ys,bP ps]⟩
def sJ1 (ys:List YI) (ps:List Int):SL:=⟨130,[tI ys,tP ps],[bI ys,bP ps]⟩
def c1A (f:Func):Code:=J4 (lpC f 175)
def c1 (f:Func):Code:=J4 (V6 (lpC f 175))
def c1B (f:Func):Code:=J4 (c1 f)
def c1C (f:Func):Code:=J4 (V6 (c1 f))
def c1D (f:Func):Code:=J4 (V6 (V6 (c1 f)))
def c1E (f:Func):Code:=J4 (V6 (V6 (V6 (c1 f))))
def c1F (f:Func):Code:=J4 (V6 (V6 (V6 (V6 (c1 f)))))
def c1G (f:Func):Code:=V6 (V6 (V6 (V6 (V6 (c1 f)))))
theorem b1_eq:lpC f228 175=.seq (c1A f228) (.block 1 (.seq (c1B f228) (.seq (c1C f228) (.seq (c1D f228) (.seq (c1E f228) (.seq (c1F f228) (c1G f228))))))):=by kernel_rfl
theorem c1F_eq:(c1F f228)=.region 13 (Z0u (c1F f228)) false:=by kernel_rfl
def Ret (y:(List Zg)×Int):Exit→S→Prop:=λe σ=>e=.ret∧Go.Den.Ends prog f228 (Z01 y) .ret σ
section
variable {x0:List UInt8} {at_ v14 v15 v16 v20:Int} {ys:List YI} {ps:List Int}
theorem p1A1 (h:decide (at_<(x0.length:Int))=true):A prog Γ (c1A f228) [] (PQ .normal (sY1 x0 at_ ys ps)) (sY1 x0 at_ ys ps).s:=go [] []<|bT h<|go [] []<|pg
theorem p1A0 (h:decide (at_<(x0.length:Int))=false):A prog Γ (c1A f228) [] (PQ (.exit 0) (sJ1 ys ps)) (sY1 x0 at_ ys ps).s:=go [] []<|bF h<|go [] []<|pg
theorem p1B (h:Vw x0 at_=some v14) (b:some (IntKind.wrap .i64 v14)=some v15):A prog Γ (c1B f228) [] (PQ .normal (sY1b x0 at_ v15 ys ps)) (sY1 x0 at_ ys ps).s:=go [] [rg 7 [(2,ib h),(3,n b)]]<|pg
theorem p1C1 (h:decide (v15≥81)=true):A prog Γ (c1C f228) [] (Ret ([],15)) (sY1b x0 at_ v15 ys ps).s:=go [] []<|bT h<|go [] []<|rE
theorem p1C0 (h:decide (v15≥81)=false):A prog Γ (c1C f228) [] (PQ .normal (sY1b x0 at_ v15 ys ps)) (sY1b x0 at_ v15 ys ps).s:=go [] []<|bF h<|go [] []<|pg
theorem p1D (h:Z9m x0 at_ v15=some v16):A prog Γ (c1D f228) [] (PQ .normal (sY1d x0 at_ v15 v16 ys ps)) (sY1b x0 at_ v15 ys ps).s:=go [] [rg 10 [(3,k (w238 h))]]<|pg
theorem p1E1 (h:decide (v16<0)=true):A prog Γ (c1E f228) [] (Ret ([],3)) (sY1d x0 at_ v15 v16 ys ps).s:=go [] []<|bT h<|go [] []<|rE
theorem p1E0 (h:decide (v16<0)=false):A prog Γ (c1E f228) [] (PQ .normal (sY1d x0 at_ v15 v16 ys ps)) (sY1d x0 at_ v15 v16 ys ps).s:=go [] []<|bF h<|go [] []<|pg
theorem p1G {u:Unit} (h:Yp 8 (ps++[at_]).length=some u) (b:some (IntKind.wrap .i64 (at_+v16))=some v20):A prog Γ (c1G f228) [] (PQ .normal (sY1 x0 v20 ys (ps++[at_]))) (sY1d x0 at_ v15 v16 ys ps).s:=
 go [] [rg 14 [(2,br0 1 0),(3,ap h)],rg 15 [(2,n b)]]<|pg
end
def o13 (f:Func):Option Oper:=(Z0u (c1F f))[4]?
theorem Zu7:(o13 f228).isSome=true:=by kernel_rfl
def o13g (f:Func) (h:(o13 f).isSome=true):Oper:=(o13 f).get h
theorem o13_eq:(Z0u (c1F f228))[4]?=some (o13g f228 Zu7):=(Option.some_get Zu7).symm
def I1 (Γ:Ctx) (x0:List UInt8) (t:Int×(List Zg)×(List Int)) (a:Act) (w:World):Prop:=
 ∃ ys G β loc,ys.map Prod.fst=t.2.1∧Zk Γ (sY1 x0 t.1 ys t.2.2).s a w G β∧Fam Γ w G β ys loc
def J1 (Γ:Ctx) (r:((List Zg)×(List Int))⊕((List Zg)×Int)) (e:Exit) (a:Act) (w:World):Prop:=match r with
 | .inl q=>e=.exit 0∧∃ ys G β loc,ys.map Prod.fst=q.1∧Zk Γ (sJ1 ys q.2).s a w G β∧Fam Γ w G β ys loc
 | .inr y=>∃ σ G β,Zk Γ σ a w G β∧Ret y e σ
theorem Zij {x y:Code} {z:(List Zg)×Int} (f:∀ {Γ:Ctx},A prog Γ x [] (Ret z) σ) (d:Zk Γ σ a w G β) {post:Exit→Act→World→Prop}
  (h:∀ a' w',J1 Γ (.inr z) .ret a' w'→post .ret a' w'):(Code.seq x y).wp prog post a w:=
 seqS (Q:=Ret z) f.h d (λσ' a' w' G' β' b _ _=>absurd b.1 (by simp)) λe σ' a' w' G' β' _ b c _=>by
  obtain⟨rfl,b⟩:=b
  exact h a' w' ⟨σ',G',β',c,rfl,b⟩
theorem round1 {x0:List UInt8} (t:Int×(List Zg)×(List Int)) (x) (h:Z8q x0 t=some x) (a:Act) (w:World) (hI:I1 Γ x0 t a w):
  (lpC f228 175).wp prog (RdW (I1 Γ x0) (J1 Γ) x) a w:=by
 obtain⟨ys,G,β,loc,j,D,hF⟩:=hI
 obtain⟨at_,l,ps⟩:=t
 dsimp only at j D
 subst j
 rw[b1_eq]
 unfold Z8q at h
 dsimp only at h
 refine sp h (λA h=>?_) λA h=>?_
 rotate_left
 ·cases h
  exact seqE (by simp) (p1A0 A) D λa1 w1 G1 β1 b d=>⟨by simp,rfl,ys,G1,β1,loc,rfl,b,hF.frame d⟩
 refine bd h λv14 m h=>bd h λv15 n h=>?_
 refine Lz (p1A1 A) D λa1 w1 G1 β1 b d=>wp_block ?_
 have K:=hF.frame d
 refine Lz (p1B m n) b λa2 w2 G2 β2 e U=>?_
 have L:=K.frame U
 refine sp h (λB h=>?_) λB h=>?_
 ·cases h
  exact Zij (p1C1 B) e λa' w' T=>⟨by simp,T⟩
 refine bd h λv16 o h=>?_
 refine Lz (p1C0 B) e λa3 w3 G3 β3 E V=>?_
 have M:=L.frame V
 refine Lz (p1D o) E λa4 w4 G4 β4 g W=>?_
 have N:=M.frame W
 refine sp h (λC h=>?_) λC h=>?_
 ·cases h
  exact Zij (p1E1 C) g λa' w' T=>⟨by simp,T⟩
 refine bd h λk q h=>bd h λv18 r h=>bd h λv19 s h=>bd h λv20 y h=>?_
 refine Lz (p1E0 C) g λa5 w5 G5 β5 F X=>?_
 have O:=N.frame X
 cases h
 rw[c1F_eq]
 refine wp_seq (wp_region ?_)
 refine prS (l:=List.range (Z0u (c1F f228)).size) F 4 [] (z:=sY1e x0 at_ v15 v16 ys ps) (h:=λa6 w6 G6 β6 c Y=>?_)
 have P:=O.frame Y
 rw[show (List.range (Z0u (c1F f228)).size).drop 4=[4,5,6,7] by kernel_rfl,wpOps_cons]
 refine Y3a (c.sub) o13_eq (by kernel_rfl) (fo:= .func 239) (args:=#[.tmp 33,.tmp 34,.tmp 35]) (ts:=#[9,3,3]) (by kernel_rfl) (f:=239) (by kernel_rfl) (ds:=[.str x0,dI at_,dI v15]) (p:=True∧(True∧(True∧True))) (by kernel_rfl) ⟨trivial,trivial,trivial,trivial⟩
  (t:=36) (by kernel_rfl) (Nat.le_of_ble_eq_true (by kernel_rfl)) (t164 q) λv w7 G7 u i hfr=>?_
 obtain⟨loc7,Q⟩:=P.snoc c i hfr
 have H:=c.lift i
 have hg:Yp 144 (ys++[((k,.raw u):YI)]).length=some v18:=by rw[← r]; congr 1; simp
 refine prS H 3 [(5,br0 1 10),(6,ap hg)] (z:=sY1d x0 at_ v15 v16 (ys++[(k,.raw u)]) ps) (h:=λa8 w8 G8 β8 I Z=>?_)
 have R:=Q.frame Z
 show Exit.then _ _ .normal _ _
 refine pieceC (p1G s y) I λa9 w9 G9 β9 J hS9=>⟨rfl,_,G9,β9,loc7,?_,J,R.frame hS9⟩
 simp
end Go.Proofs
namespace Go.Proofs
open Tryz
open Go.Den Go.Den.W
variable {Γ:Ctx} {σ σ':S} {a a':Act} {w w':World} {G G':Nat→Nat} {β β':Nat→Option (Nat×Nat)}
def Z1d (ps:List Int) (n:Nat) (t:Int×List Int):Option (Ctl (Int×List Int) (List Int⊕((List Zg)×Int))):=
 if (decide (t.1<(n:Int)))=true then
  ((X7 t.1 n).bind λb=>
  (t.2[b]?).bind λd=>
  (Z52 ps d).bind λc=>
  ((t.2.set b c)[b]?).bind λe=>
  if (decide (e<0))=true then
   (some (.done (.inr (([]:List Zg),16)))) else
  ((some (IntKind.wrap .i64 (t.1+(1:Int)))).bind λf=>
   some (.next (f,t.2.set b c)))) else
 (some (.done (.inl t.2)))
def m2R (ps:List Int) (k:Int) (kk:Nat) (ys:List YI) (x:Zg) (n:Nat) (tos:List Int):Option (Ctl (Int×List YI×List Int) ((List Zg)×Int)):=
 (Z4x x.f_Op).bind λc=>
 if (!c)=true then
  ((some (IntKind.wrap .i64 (k+(1:Int)))).bind λd=>
  some (.next (d,ys,tos))) else
 ((Z52 ps x.f_To).bind λb=>
  if (decide (b<0))=true then
   (some (.done (([]:List Zg),16))) else
  ((Z8 (Z1d ps n) Zb (0,tos)).bind λq5=>
   match q5 with
   | .inl q4=>((some (IntKind.wrap .i64 (k+(1:Int)))).bind λe=>
    some (.next (e,ys.set kk ({ f_Op:=x.f_Op,f_A:=x.f_A,f_B:=x.f_B,f_To:=b,Yg:=x.Yg,Zs:=x.Zs,Yv:=x.Yv,f_S:=x.f_S },.lsl 777 0 n),q4)))
   | .inr f=>(some (.done f))))
def qs3:List (Nat×Nat):=[(4,4),(5,5),(777,777)]
def Ok3 (ys:List YI):Prop:=∀ y∈ys,y.2.renA qs3=y.2
theorem ren3 {ys:List YI} (h:Ok3 ys):(ys.map Vf).map (·.map (D.renA qs3))=ys.map Vf:=by
 rw[List.map_map]
 refine List.map_congr_left λy b=>?_
 have:=h y b
 show [_,_,_,_,_,y.2.renA qs3,_,_,_,_]=_
 rw[this]
 rfl
theorem Ok3.set {ys:List YI} (h:Ok3 ys) (k:Nat) (x:Zg) (n:Nat):Ok3 (ys.set k (x,.lsl 777 0 n)):=λy c=>by
 rcases List.mem_or_eq_of_mem_set c with b|rfl
 ·exact h y b
 ·rfl
def bY (rows:List (List D)):Nat×Blk:=(4,{ sz:=10,rows,frz:=0,pure:=false })
def bTo (tos:List Int):Nat×Blk:=(777,Jb tos none)
def ren (rows:List (List D)):List (List D):=rows.map (·.map (D.renA qs3))
def sA (m:Nat) (ps:List Int) (k:Int) (rows:List (List D)) (tos:List Int):SL:=⟨130,[(4,.lsl 4 0 m),tP ps,(9,dI k)],[bY rows,bP ps,bTo tos]⟩
def sB (m:Nat) (ps:List Int) (k j:Int) (rows:List (List D)) (tos:List Int):SL:=⟨130,[(4,.lsl 4 0 m),tP ps,(9,dI k),(10,dI j)],[bY rows,bP ps,bTo tos]⟩
def stA (m:Nat) (ps:List Int):Int×List YI×List Int→SL:=λt=>sA m ps t.1 (t.2.1.map Vf) t.2.2
def stB (m:Nat) (ps:List Int) (k:Int) (ys:List YI):Int×List Int→SL:=λt=>sB m ps k t.1 (ys.map Vf) t.2
def JB (m:Nat) (ps:List Int) (k:Int) (ys:List YI):JT (List Int⊕((List Zg)×Int)):=
 ju (je 4 λtos:List Int=>sA m ps k (ys.map Vf) tos) (jr prog f228 Z01)
theorem wl228x3 {m n kk:Nat} {ps:List Int} {k:Int} {ys:List YI} {x:Zg} (g:X7 k m=some kk) (i:ys[kk]?=some (x,.lsl 777 0 n)) (q:Ok3 ys) {t:Int×List Int} {r:Ctl (Int×List Int) (List Int⊕((List Zg)×Int))} {Γ:Ctx} (h:Z1d ps n t=some r):
  A prog Γ (lpC f228 386239) [] (Rd (stB m ps k ys) (JB m ps k ys) r) (stB m ps k ys t).s:=
 go [] [rg 26 [(3,iaN 4 m g),(5,lb i),(6,lnN n)]]<|br h (λu h=>bd h λe c h=>bd h λp d h=>bd h λb j h=>bd h λz l h=>
  go [] [rgq 28 [(2,iaN 4 m g),(4,lb i),(9,iaN 4 m g),(11,lb i),(13,iaN 777 n c),(14,lb d),(15,kB (a2 (rpI ps) (a2 trivial trivial)) [rw_ ps,dI p] (by simp only[rwE] <;> kernel_rfl) (w240 j)),(16,iaN 777 n c),(17,st d 0 [dI b] b)] [0,1,2,3,4,5,6,7,8,9,10,11,12,13,14,15,16,17] [17],
   rg 29 [(2,iaN 4 m g),(4,lb i),(6,iaN 777 n c),(7,lb l)]]<|br h (λv h=>go [] []<|dn h (i2 iR)) λv h=>
   bd h λf o h=>go [] [rg 27 [(1,W.n o)]]<|nxE (y:=sB m ps k f (ren (ys.map Vf)) (t.2.set e b)) h (congrArg (λr=>sB m ps k f r (t.2.set e b)) (ren3 q))) λu h=>
 go [] []<|dn h (i1 (iEE (y:=sA m ps k (ren (ys.map Vf)) t.2) (congrArg (λr=>sA m ps k r t.2) (ren3 q))))
def c2A (f:Func):Code:=J4 (lpC f 703)
def c2R (f:Func):Code:=V6 (lpC f 703)
theorem c2_eq:lpC f228 703=.seq (c2A f228) (c2R f228):=by kernel_rfl
theorem lpE {P:Program} {T R:Type} {Q:Exit→S→Prop} {ev:Ev} {c:Code} {f:T→Option (Ctl T R)} {st:T→SL} {J:JT R} {n:Nat} {t:T} {r:R} {y:SL} (e:Z8 f n t=some r)
  (hw:∀ {t x} {Γ:Ctx},f t=some x→A P Γ c [] (Rd st J x) (st t).s) (b:JQ P Γ (ek ev) Q J r) (he:y=st t)
  (d:(Uf [] y.ts y.ps σ,σ.n,ev)=(some (y.l,y.bl),y.n,.loop c (ek ev)):=by kernel_rfl):E P Γ Q σ ev:=by
 subst he
 exact lp e hw b [] _ d
theorem p2R {m n kk:Nat} {ps tos:List Int} {k:Int} {ys:List YI} {x:Zg} (c:X7 k m=some kk) (g:ys[kk]?=some (x,.lsl 777 0 n)) (B:Ok3 ys) {r:Ctl (Int×List YI×List Int) ((List Zg)×Int)} {Γ:Ctx} (h:m2R ps k kk ys x n tos=some r):
  A prog Γ (c2R f228) [] (Rd (stA m ps) (jr prog f228 Z01) r) (stA m ps (k,ys,tos)).s:=
 bd h λC i h=>go [] [rg 21 [(2,iaN 4 m c),(4,lb g),(5,W.k (w194 i))]]<|br h (λt h=>bd h λe j h=>go [] [rg 20 [(1,W.n j)]]<|nxE (y:=sA m ps e (ren (ys.map Vf)) tos) h (congrArg (λr=>sA m ps e r tos) (ren3 B))) λt h=>
  bd h λb l h=>have z:kk<ys.length:=(List.getElem?_eq_some_iff.1 g).1
  have d:(ys.set kk ({ f_Op:=x.f_Op,f_A:=x.f_A,f_B:=x.f_B,f_To:=b,Yg:=x.Yg,Zs:=x.Zs,Yv:=x.Yv,f_S:=x.f_S },.lsl 777 0 n))[kk]?=some (({ f_Op:=x.f_Op,f_A:=x.f_A,f_B:=x.f_B,f_To:=b,Yg:=x.Yg,Zs:=x.Zs,Yv:=x.Yv,f_S:=x.f_S }:Zg),.lsl 777 0 n):=by simp[z]
  have v:Ok3 (ys.set kk ({ f_Op:=x.f_Op,f_A:=x.f_A,f_B:=x.f_B,f_To:=b,Yg:=x.Yg,Zs:=x.Zs,Yv:=x.Yv,f_S:=x.f_S },.lsl 777 0 n)):=B.set _ _ _
  go [] [rg 22 [(5,iaN 4 m c),(7,lb g),(8,kB (a2 (rpI ps) (a2 trivial trivial)) [rw_ ps,dI x.f_To] (by simp only[rwE] <;> kernel_rfl) (w240 l)),(9,iaN 4 m c),(11,st g 3 [dI b] ({ f_Op:=x.f_Op,f_A:=x.f_A,f_B:=x.f_B,f_To:=b,Yg:=x.Yg,Zs:=x.Zs,Yv:=x.Yv,f_S:=x.f_S },.lsl 777 0 n))],rg 23 [(2,iaN 4 m c),(4,lb d)]]<|br h (λu h=>go [] []<|dn h iR) λu h=>
   go [] []<|bd h λq5 o h=>lpE (st:=stB m ps k _) (y:=sB m ps k 0 (ren ((ys.set kk ({ f_Op:=x.f_Op,f_A:=x.f_A,f_B:=x.f_B,f_To:=b,Yg:=x.Yg,Zs:=x.Zs,Yv:=x.Yv,f_S:=x.f_S },.lsl 777 0 n)).map Vf)) tos) o (wl228x3 c d v) (he:=congrArg (λr=>sB m ps k 0 r tos) (ren3 v))<|match q5,h with
    | .inl q4,h=>j1<|(qe<|bd h λf q h=>goN [] [rg 20 [(1,W.n q)]]<|nxE (y:=sA m ps f (ren ((ys.set kk ({ f_Op:=x.f_Op,f_A:=x.f_A,f_B:=x.f_B,f_To:=b,Yg:=x.Yg,Zs:=x.Zs,Yv:=x.Yv,f_S:=x.f_S },.lsl 777 0 n)).map Vf)) q4) h (congrArg (λr=>sA m ps f r q4) (ren3 v)))
    | .inr D,h=>j2<|(ql h λ_ _ p=>iS p)
end Go.Proofs
namespace Go.Proofs
open Go.Den Go.Den.W
variable {Γ:Ctx} {σ σ':S} {a a':Act} {w w':World} {G G':Nat→Nat} {β β':Nat→Option (Nat×Nat)}
def sY2 (m:Nat) (ps:List Int) (k:Int) (ys:List YI):SL:=⟨130,[(4,.lsl 4 0 m),tP ps,(9,dI k)],[bI ys,bP ps]⟩
theorem S.ext' {σ σ':S} (b:σ.n=σ'.n) (c:∀ t,σ.tmps t=σ'.tmps t) (d:∀ t,σ.heap t=σ'.heap t):σ=σ':=by
 cases σ; cases σ'
 cases b
 cases (funext c:_=_)
 cases (funext d:_=_)
 rfl
def rawY (y:YI):Prop:=∃ u,y.2=.raw u
theorem Mem.raw {y:YI} {o:Option Nat} (h:Mem Γ w G β y o):rawY y:=by
 cases o with
 | none=>obtain⟨x,b,-⟩:=h; exact⟨_,b⟩
 | some c=>obtain⟨cap,b,-⟩:=h; exact⟨_,b⟩
theorem Y66 {y:YI} {j:Nat} {d:D} (h:(Vf y)[j]?=some d):(j=5∧d=y.2)∨(j≠5∧d.dat=true):=by
 match j,h with
 | 0,h=>cases h; exact .inr ⟨by decide,rfl⟩
 | 1,h=>cases h; exact .inr ⟨by decide,rfl⟩
 | 2,h=>cases h; exact .inr ⟨by decide,rfl⟩
 | 3,h=>cases h; exact .inr ⟨by decide,rfl⟩
 | 4,h=>cases h; exact .inr ⟨by decide,rfl⟩
 | 5,h=>cases h; exact .inl ⟨rfl,rfl⟩
 | 6,h=>cases h; exact .inr ⟨by decide,rfl⟩
 | 7,h=>cases h; exact .inr ⟨by decide,rfl⟩
 | 8,h=>cases h; exact .inr ⟨by decide,rfl⟩
 | 9,h=>cases h; exact .inr ⟨by decide,rfl⟩
 | j+10,h=>exact absurd h (by rw[List.getElem?_eq_none (by simp[Vf,Z22,Z21])]; simp)
theorem Y67 {x:Zg} {l:List Int} {d e d1 g:D} {j:Nat} (f:j≠5) (b:(Vf (x,d))[j]?=some d1) (c:(Vf ({ f_Op:=x.f_Op,f_A:=x.f_A,f_B:=x.f_B,f_To:=x.f_To,Yg:=x.Yg,Zs:=l,Yv:=x.Yv,f_S:=x.f_S },e))[j]?=some g):d1=g:=by
 match j,b,c,f with
 | 0,b,c,_=>cases b; cases c; rfl
 | 1,b,c,_=>cases b; cases c; rfl
 | 2,b,c,_=>cases b; cases c; rfl
 | 3,b,c,_=>cases b; cases c; rfl
 | 4,b,c,_=>cases b; cases c; rfl
 | 5,b,c,f=>exact absurd rfl f
 | 6,b,c,_=>cases b; cases c; rfl
 | 7,b,c,_=>cases b; cases c; rfl
 | 8,b,c,_=>cases b; cases c; rfl
 | 9,b,c,_=>cases b; cases c; rfl
 | j+10,b,_,_=>exact absurd b (by rw[List.getElem?_eq_none (by simp[Vf,Z22,Z21])]; simp)
theorem Zk.setY (h:Zk Γ σ a w G β) {ys:List YI} {kk:Nat} {x:Zg} {d d':D} {l:List Int} {p0 p:Bool} (B:σ.heap 4=some { sz:=10,rows:=ys.map Vf,frz:=0,pure:=p0 }) (z:ys[kk]?=some (x,d))
  (C:∀ c vs e fr v,β 4=some (c,10)→w.heap[c]?=some (.cells vs e fr)→vs[kk*10+5]?=some v→one v=true→Zh w G β v d→Zh w G β v d')
  (hp:p=true→∀ (j:Nat) y,(ys.set kk ({ f_Op:=x.f_Op,f_A:=x.f_A,f_B:=x.f_B,f_To:=x.f_To,Yg:=x.Yg,Zs:=l,Yv:=x.Yv,f_S:=x.f_S },d'))[j]?=some y→y.2.dat=true):
  Zk Γ (σ.setB 4 (some { sz:=10,rows:=(ys.set kk ({ f_Op:=x.f_Op,f_A:=x.f_A,f_B:=x.f_B,f_To:=x.f_To,Yg:=x.Yg,Zs:=l,Yv:=x.Yv,f_S:=x.f_S },d')).map Vf,frz:=0,pure:=p })) a w G β:=by
 refine h.refine B _ (by simp) (λc vs e fr s A i I q=>?_) p λu i j r d1 o b=>?_
 ·rw[List.getElem?_map] at q
  obtain⟨J,g,rfl⟩:=Qg q
  refine⟨rfl,λj H m r d1 v o b F E f=>?_⟩
  dsimp only at o
  rw[List.getElem?_map] at o
  obtain⟨y,k,rfl⟩:=Qg o
  rcases Nat.decEq i kk with n|rfl
  ·rw[List.getElem?_set_ne (Ne.symm n)] at g
   rw[k] at g; cases g
   rw[b] at m; cases m
   exact f
  ·have t:i<ys.length:=(List.getElem?_eq_some_iff.1 z).1
   rw[List.getElem?_set_self t] at g
   cases g
   rw[z] at k; cases k
   rcases Nat.decEq j 5 with n|rfl
   ·rw[← Y67 n b m]; exact f
   ·cases b; cases m
    exact C c vs e fr v s A F E f
 ·rw[List.getElem?_map] at o
  obtain⟨y,k,rfl⟩:=Qg o
  rcases Y66 b with ⟨-,rfl⟩|⟨-,s⟩
  ·exact hp u i y k
  ·exact s
theorem nameY {m:Nat} {ps:List Int} {k:Int} {ys:List YI} {loc:Nat→Option Nat} {kk:Nat} {x:Zg} {d:D} (h:Zk Γ (sY2 m ps k ys).s a w G β) (A:Fam Γ w G β ys loc) (I:ys[kk]?=some (x,d)):
  ∃ β',Zk Γ (stA m ps (k,ys.set kk (x,.lsl 777 0 x.Zs.length),x.Zs)).s a w G β'∧∀ (j:Nat) y,j≠kk→ys[j]?=some y→Mem Γ w G β' y (loc j):=by
 have F:kk<ys.length:=(List.getElem?_eq_some_iff.1 I).1
 have C:=A.mem kk _ I
 have n:(sY2 m ps k ys).s.heap 777=none:=rfl
 have key:∃ β',Zk Γ ((sY2 m ps k ys).s.setB 777 (some (Jb x.Zs none))) a w G β'∧(∀ v,Zh w G β' v d→Zh w G β' v (.lsl 777 0 x.Zs.length))∧∀ (j:Nat) y,j≠kk→ys[j]?=some y→Mem Γ w G β' y (loc j):=by
  cases H:loc kk with
  | none=>
   rw[H] at C
   obtain⟨z,i,f⟩:=C
   dsimp only at i f
   refine⟨β,h.nameNil n ⟨by rw[f]; rfl,rfl⟩,λv q=>?_,λj y _ E=>A.mem j y E⟩
   rw[f]
   rw[i] at q
   cases q
   exact .lslnil 777 z
  | some c=>
   rw[H] at C
   obtain⟨cap,i,f,r,P,Q,R⟩:=C
   dsimp only at i f r
   refine⟨_,h.name (c:=c) n R (r.rep P (.inl Q) (by simp)),λv q=>?_,λj y E u=>?_⟩
   ·rw[i] at q
    cases q
    obtain⟨vs,e,fr,k1,k2,k3,k4,k5⟩:=r
    exact .lsl 777 0 _ cap c 1 0 (by simp[upd,Jb]) f (.inr rfl) ⟨vs,e,fr,k1,by omega⟩
   ·have g:=A.mem j y u
    cases o:loc j with
    | none=>rw[o] at g; exact g
    | some c'=>
     rw[o] at g
     obtain⟨cap',J,K,L,M,N,O⟩:=g
     refine⟨cap',J,K,L,M,N,λb s B=>?_⟩
     unfold upd at B
     split at B
     ·cases B
      exact E (A.inj j kk _ o H (List.getElem?_eq_some_iff.1 u).1 F)
     ·exact O b s B
 obtain⟨β',k1,k2,k3⟩:=key
 refine⟨β',?_,k3⟩
 have:=Zk.setY k1 (ys:=ys) (kk:=kk) (x:=x) (d:=d) (d':= .lsl 777 0 x.Zs.length) (l:=x.Zs) (p0:=true) (p:=false) rfl I (λc vs e fr v _ _ _ _ q=>k2 v q) (by simp)
 have e:((sY2 m ps k ys).s.setB 777 (some (Jb x.Zs none))).setB 4 (some { sz:=10,rows:=(ys.set kk (x,D.lsl 777 0 x.Zs.length)).map Vf,frz:=0,pure:=false })=(stA m ps (k,ys.set kk (x,.lsl 777 0 x.Zs.length),x.Zs)).s:=by
  refine S.ext' rfl (λt=>rfl) λt=>?_
  simp only[S.setB,sY2,stA,sA,SL.s,mkS,ofB,bI,bY,bP,bTo]
  by_cases i:t=4
  ·simp[i]
  ·by_cases f:t=777
   ·simp[f]
   ·by_cases r:t=5
    ·simp[r]
    ·simp[i,f,r]
 rw[← e]
 exact this
theorem backY {m:Nat} {ps:List Int} {k:Int} {ys:List YI} {loc:Nat→Option Nat} {kk n:Nat} {x:Zg} {tos:List Int} (hX:∀ c,¬ Γ.X c) (h:Zk Γ (stA m ps (k,ys,tos)).s a w G β) (hy:ys[kk]?=some (x,.lsl 777 0 n)) (hn:tos.length=n)
  (hF:∀ (j:Nat) y,j≠kk→ys[j]?=some y→Mem Γ w G β y (loc j)) (T:∀ i j c,loc i=some c→loc j=some c→i<ys.length→j<ys.length→i=j):
  ∃ v β' loc',Zk Γ (sY2 m ps k (ys.set kk ({ f_Op:=x.f_Op,f_A:=x.f_A,f_B:=x.f_B,f_To:=x.f_To,Yg:=x.Yg,Zs:=tos,Yv:=x.Yv,f_S:=x.f_S },.raw v))).s a w G β'∧
   Fam Γ w G β' (ys.set kk ({ f_Op:=x.f_Op,f_A:=x.f_A,f_B:=x.f_B,f_To:=x.f_To,Yg:=x.Yg,Zs:=tos,Yv:=x.Yv,f_S:=x.f_S },.raw v)) loc':=by
 subst hn
 have U:kk<ys.length:=(List.getElem?_eq_some_iff.1 hy).1
 have A:(stA m ps (k,ys,tos)).s.heap 4=some { sz:=10,rows:=ys.map Vf,frz:=0,pure:=false }:=rfl
 have hb7:(stA m ps (k,ys,tos)).s.heap 777=some (Jb tos none):=rfl
 obtain⟨c0,vs,e,fr,v,hβ4,K,hv,ho,E⟩:=h.cellOf A (i:=kk) (j:=5) (r:=Vf (x,.lsl 777 0 tos.length)) (d:= .lsl 777 0 tos.length) (by rw[List.getElem?_map,hy]; rfl) rfl
 have W:=Zk.setY h A hy (d':= .raw v) (l:=tos) (p:=true) (λc vs' e' fr' v' k1 k2 k3 k4 _=>by
  rw[hβ4] at k1
  cases k1
  rw[K] at k2
  cases k2
  rw[hv] at k3
  cases k3
  exact .raw _ k4) λ_ j y g=>by
   rcases Nat.decEq j kk with f|rfl
   ·rw[List.getElem?_set_ne (Ne.symm f)] at g
    obtain⟨u,hu⟩:=(hF j y f g).raw
    rw[hu]; rfl
   ·rw[List.getElem?_set_self U] at g
    cases g
    rfl
 have Q:=W.unname 777 (λt=>by
  show (ofL (sA m ps k (ys.map Vf) tos).l t).kill 777=ofL (sA m ps k (ys.map Vf) tos).l t
  simp only[sA,tP,ofL]
  by_cases M:t=4
  ·simp[M]; rfl
  ·by_cases P:t=5
   ·simp[P]; rfl
   ·by_cases e3:t=9
    ·simp[e3]; rfl
    ·simp[M,P,e3]; rfl) λu blk hu J=>by
  simp only[S.setB,stA,sA,SL.s,mkS,ofB,bY,bP,bTo] at J
  by_cases M:u=4
  ·rw[if_pos M] at J; cases J; rfl
  ·rw[if_neg M,if_neg M] at J
   by_cases P:u=5
   ·rw[if_pos P] at J; cases J; rfl
   ·rw[if_neg P,if_neg hu] at J; cases J
 have e:∀ rows,(⟨((stA m ps (k,ys,tos)).s.setB 4 (some { sz:=10,rows:=rows,frz:=0,pure:=true })).n,((stA m ps (k,ys,tos)).s.setB 4 (some { sz:=10,rows:=rows,frz:=0,pure:=true })).tmps,λu=>if u=777 then none else ((stA m ps (k,ys,tos)).s.setB 4 (some { sz:=10,rows:=rows,frz:=0,pure:=true })).heap u⟩:S)=mkS 130 [(4,.lsl 4 0 m),tP ps,(9,dI k)] [(4,{ sz:=10,rows:=rows,frz:=0,pure:=true }),bP ps] :=λrows=>by
  refine S.ext' rfl (λt=>rfl) λt=>?_
  simp only[S.setB,stA,sA,SL.s,mkS,ofB,bY,bP,bTo]
  by_cases W:t=4
  ·simp[W]
  ·by_cases Q:t=777
   ·simp[Q]
   ·by_cases N:t=5
    ·simp[N]
    ·simp[W,Q,N]
 rw[e] at Q
 have D:∀ (j:Nat) y,j≠kk→ys[j]?=some y→Mem Γ w G (upd β 777 none) y (loc j):=λj y F g=>by
  have H:=hF j y F g
  cases hl:loc j with
  | none=>rw[hl] at H; exact H
  | some c=>
   rw[hl] at H
   obtain⟨cap,g1,g2,g3,g4,g5,Z⟩:=H
   refine⟨cap,g1,g2,g3,g4,g5,λb s A=>?_⟩
   unfold upd at A
   split at A
   ·cases A
   ·exact Z b s A
 have hfr:Mz w G Γ.B v tos:=by
  rcases Zh.fresh h E (l:=tos) (.inr ⟨777,by rw[List.length_map],hb7⟩) with N|⟨b,c,s,-,-,N⟩
  ·exact N
  ·exact absurd N (hX c)
 have fin:∀ o,Mem Γ w G (upd β 777 none) ({ f_Op:=x.f_Op,f_A:=x.f_A,f_B:=x.f_B,f_To:=x.f_To,Yg:=x.Yg,Zs:=tos,Yv:=x.Yv,f_S:=x.f_S },.raw v) o→(∀ j c,o=some c→j≠kk→j<ys.length→loc j≠some c)→
   Fam Γ w G (upd β 777 none) (ys.set kk ({ f_Op:=x.f_Op,f_A:=x.f_A,f_B:=x.f_B,f_To:=x.f_To,Yg:=x.Yg,Zs:=tos,Yv:=x.Yv,f_S:=x.f_S },.raw v)) (λj=>if j=kk then o else loc j):=λo H V=>by
  refine⟨λj y g=>?_,λi j c O F L C=>?_⟩
  ·rcases Nat.decEq j kk with f|rfl
   ·rw[List.getElem?_set_ne (Ne.symm f)] at g
    rw[if_neg f]
    exact D j y f g
   ·rw[List.getElem?_set_self U] at g
    cases g
    rw[if_pos rfl]
    exact H
  ·rw[List.length_set] at L C
   split at O
   ·split at F
    ·omega
    ·rename_i f; exact absurd F (V j c O f C)
   ·split at F
    ·rename_i f _; exact absurd O (V i c F f L)
    ·exact T i j c O F L C
 have key:∃ o,Mem Γ w G (upd β 777 none) ({ f_Op:=x.f_Op,f_A:=x.f_A,f_B:=x.f_B,f_To:=x.f_To,Yg:=x.Yg,Zs:=tos,Yv:=x.Yv,f_S:=x.f_S },.raw v) o∧(∀ j c,o=some c→j≠kk→j<ys.length→loc j≠some c):=by
  cases hfr with
  | nil z=>exact⟨none,⟨z,rfl,rfl⟩,λj c R=>by cases R⟩
  | blk c cap _ I O hG hB=>
   by_cases hz:cap=0
   ·subst hz
    obtain rfl:=List.eq_nil_of_length_eq_zero (Nat.le_zero.1 I)
    exact⟨none,⟨_,rfl,rfl⟩,λj c R=>by cases R⟩
   ·have Y:∃ s,β 777=some (c,s):=by
     generalize tos.length=q at E
     cases E with
     | lslnil=>exact absurd rfl hz
     | lsl b lo n cap c sz off k1=>exact⟨_,k1⟩
    obtain⟨s7,Y⟩:=Y
    refine⟨some c,⟨cap,rfl,I,O,hG,hB,λb s A=>?_⟩,λj c' R F C hlj=>?_⟩
    ·unfold upd at A
     split at A
     ·cases A
     ·rename_i f
      exact f (h.inj b 777 c s s7 A Y)
    ·cases R
     have H:=hF j _ F (List.getElem?_eq_getElem C)
     rw[hlj] at H
     obtain⟨cap',-,-,-,-,-,Z⟩:=H
     exact Z 777 s7 Y
 obtain⟨o,k1,k2⟩:=key
 exact⟨v,upd β 777 none,_,Q,fin o k1 k2⟩
theorem Zts {ys:List YI} {loc:Nat→Option Nat} (h:Zk Γ σ a w G β) (q:Fam Γ w G β ys loc):∀ m,m≤ys.length→∃ G',Zk Γ σ a w G' β∧(∀ c,G c≤G' c)∧∀ (k:Nat) y c,k<m→ys[k]?=some y→loc k=some c→y.1.Zs.length≤G' c
 | 0,_=>⟨G,h,λ_=>Nat.le_refl _,λk y c n=>absurd n (Nat.not_lt_zero _)⟩
 | m + 1,C=>by
  obtain⟨G1,p,i,j⟩:=Zts h q m (by omega)
  obtain⟨y,r⟩:∃ y,ys[m]?=some y:=⟨_,List.getElem?_eq_getElem (by omega)⟩
  cases o:loc m with
  | none=>
   refine⟨G1,p,i,λk z c n f b=>?_⟩
   rcases Nat.lt_or_ge k m with d|l
   ·exact j k z c d f b
   ·obtain rfl:k=m:=by omega
    rw[o] at b; cases b
  | some c0=>
   have g:=q.mem m y r
   rw[o] at g
   obtain⟨cap,x,A,s,B,t,u⟩:=g
   have v:=p.mark (c0:=c0) u t (J6.lt s) (k:=G1 c0+y.1.Zs.length) (Nat.le_add_right _ _)
   refine⟨_,v,λc=>?_,λk z c n f b=>?_⟩
   ·split
    ·rename_i e; subst e; have:=i c; omega
    ·exact i c
   ·rcases Nat.lt_or_ge k m with d|l
    ·split
     ·rename_i e; subst e
      have:=j k z c d f b; omega
     ·exact j k z c d f b
    ·obtain rfl:k=m:=by omega
     rw[o] at b; cases b
     rw[r] at f; cases f
     rw[if_pos rfl]; omega
def sJ2 (m:Nat) (ys:List YI):SL:=⟨130,[(4,.lsl 4 0 m)],[bI ys]⟩
def sJ3 (m:Nat) (l:List Zg):SL:=⟨130,[(4,.lsl 4 0 m)],[(4,{ sz:=10,rows:=l.map Y4,frz:=0,pure:=true })]⟩
theorem Y65 {y:YI} {j:Nat} {d d':D} (h:(Vf y)[j]?=some d) (b:(Y4 y.1)[j]?=some d'):(j=5∧d=y.2∧d'=.sl false (y.1.Zs.map Z5))∨(j≠5∧d=d'):=by
 match j,h,b with
 | 0,h,b=>cases h; cases b; exact .inr ⟨by decide,rfl⟩
 | 1,h,b=>cases h; cases b; exact .inr ⟨by decide,rfl⟩
 | 2,h,b=>cases h; cases b; exact .inr ⟨by decide,rfl⟩
 | 3,h,b=>cases h; cases b; exact .inr ⟨by decide,rfl⟩
 | 4,h,b=>cases h; cases b; exact .inr ⟨by decide,rfl⟩
 | 5,h,b=>cases h; cases b; exact .inl ⟨rfl,rfl,rfl⟩
 | 6,h,b=>cases h; cases b; exact .inr ⟨by decide,rfl⟩
 | 7,h,b=>cases h; cases b; exact .inr ⟨by decide,rfl⟩
 | 8,h,b=>cases h; cases b; exact .inr ⟨by decide,rfl⟩
 | 9,h,b=>cases h; cases b; exact .inr ⟨by decide,rfl⟩
 | j+10,h,_=>exact absurd h (by rw[List.getElem?_eq_none (by simp[Vf,Z22,Z21])]; simp)
theorem Y64 {x:Zg} {j:Nat} {d:D} (h:(Y4 x)[j]?=some d):d.dat=true:=by
 match j,h with
 | 0,h=>cases h; rfl
 | 1,h=>cases h; rfl
 | 2,h=>cases h; rfl
 | 3,h=>cases h; rfl
 | 4,h=>cases h; rfl
 | 5,h=>cases h; rfl
 | 6,h=>cases h; rfl
 | 7,h=>cases h; rfl
 | 8,h=>cases h; rfl
 | 9,h=>cases h; rfl
 | j+10,h=>exact absurd h (by rw[List.getElem?_eq_none (by simp[Y4])]; simp)
theorem finY {m:Nat} {ys:List YI} {loc:Nat→Option Nat} (h:Zk Γ (sJ2 m ys).s a w G β) (F:Fam Γ w G β ys loc):∃ G',Zk Γ (sJ3 m (ys.map Prod.fst)).s a w G' β:=by
 obtain⟨G',p,T,I⟩:=Zts h F ys.length (Nat.le_refl _)
 refine⟨G',?_⟩
 have J:=p.refine (b:=4) (blk:={ sz:=10,rows:=ys.map Vf,frz:=0,pure:=true }) rfl ((ys.map Prod.fst).map Y4) (by simp) (λc vs e fr k1 k2 i X o=>?_) true λ_ i j r d g k=>?_
 ·have e:(sJ2 m ys).s.setB 4 (some { sz:=10,rows:=(ys.map Prod.fst).map Y4,frz:=0,pure:=true })=(sJ3 m (ys.map Prod.fst)).s:=by
   refine S.ext' rfl (λt=>rfl) λt=>?_
   simp only[S.setB,sJ2,sJ3,SL.s,mkS,ofB,bI]
   by_cases p:t=4
   ·simp[p]
   ·simp[p]
  rw[← e]
  exact J
 ·rw[List.map_map,List.getElem?_map] at o
  obtain⟨y,u,rfl⟩:=Qg o
  refine⟨rfl,λj d' C r d v g k V U f=>?_⟩
  dsimp only at g
  rw[List.getElem?_map,u] at g
  cases g
  rcases Y65 k C with ⟨-,rfl,rfl⟩|⟨-,rfl⟩
  ·have q:=F.mem i y u
   cases D:loc i with
   | none=>
    rw[D] at q
    obtain⟨z,A,B⟩:=q
    rw[A] at f
    cases f
    rw[B]
    exact .slnil _ z
   | some c=>
    rw[D] at q
    obtain⟨cap,A,B,H,P,Q,R⟩:=q
    rw[A] at f
    cases f
    obtain⟨us,O,fr',N,W,q3,q4,q5⟩:=H
    have L:=I i y c (List.getElem?_eq_some_iff.1 u).1 u D
    have M:∀ (i:Nat),i<y.1.Zs.length→∃ x,y.1.Zs[i]?=some x∧us[i]?=some (.int .i64 x):=λi n=>⟨_,List.getElem?_eq_getElem n,q5 i _ (List.getElem?_eq_getElem n)⟩
    refine .sl false c 0 y.1.Zs.length cap 1 (y.1.Zs.map Z5) (λi j=> .int .i64 (y.1.Zs.getD i 0)) (by simp) (λh=>by cases h) B (λi r g=>?_) (λi j n K=>by omega) (λi j n K=>?_) (λ_ _ _ _=>rfl) (λi j r d g k=>?_) λi j r d g k=>?_
    ·rw[List.getElem?_map] at g
     obtain⟨x,-,rfl⟩:=Qg g
     rfl
    ·obtain⟨x,l,E⟩:=M i n
     rw[Jc,N]
     dsimp only
     rw[show 0+i*1+j=i by omega,E]
     simp[List.getD,l]
    ·obtain⟨-,x,-,rfl⟩:=Zie g k; rfl
    ·obtain⟨-,x,l,rfl⟩:=Zie g k
     simp only[List.getD,l,Option.getD_some]
     exact .int _ _
  ·exact f
 ·rw[List.getElem?_map] at g
  obtain⟨x,-,rfl⟩:=Qg g
  exact Y64 k
end Go.Proofs
namespace Go.Proofs
open Tryz
open Go.Den Go.Den.W
variable {Γ:Ctx} {σ σ':S} {a a':Act} {w w':World} {G G':Nat→Nat} {β β':Nat→Option (Nat×Nat)}
def Z8r (ps:List Int) (t1:Int×(List Zg)):Option (Ctl (Int×(List Zg)) (((List Zg))⊕((List Zg)×Int))):=
 if (decide (t1.1<(t1.2.length:Int)))=true then
  ((X7 t1.1 t1.2.length).bind λc=>
  (t1.2[c]?).bind λb=>
  (Z4x b.f_Op).bind λe=>
  if (!e)=true then
   ((some (IntKind.wrap .i64 (t1.1+(1:Int)))).bind λf=>
   some (.next (f,t1.2))) else
  ((Z52 ps b.f_To).bind λd=>
   if (decide (d<0))=true then
    (some (.done (.inr (([]:List Zg),16)))) else
   ((Z8 (Z1d ps b.Zs.length) Zb (0,b.Zs)).bind λq5=>
    match q5 with
    | .inl q4=>((some (IntKind.wrap .i64 (t1.1+(1:Int)))).bind λg=>
     some (.next (g,(t1.2.set c ({ f_Op:=b.f_Op,f_A:=b.f_A,f_B:=b.f_B,f_To:=d,Yg:=b.Yg,Zs:=q4,Yv:=b.Yv,f_S:=b.f_S }:Zg)))))
    | .inr h=>(some (.done (.inr h)))))) else
 (some (.done (.inl (t1.2))))
def Ze4 (c:(List Zg)) (t4:Int):Option (Ctl (Int) (Unit⊕((List Zg)×Int))):=
 if (decide (t4<(c.length:Int)))=true then
  ((X7 t4 c.length).bind λd=>
  (c[d]?).bind λe=>
  (Js e).bind λb=>
  if (b !=0)=true then
   (some (.done (.inr (([]:List Zg),b)))) else
  ((some (IntKind.wrap .i64 (t4+(1:Int)))).bind λf=>
   some (.next f))) else
 (some (.done (.inl (()))))
def Z4y (x0:List UInt8):Option ((List Zg)×Int):=
 if (decide ((x0.length:Int)>20000))=true then
  (some (([]:List Zg),8)) else
 ((Z8 (Z8q x0) Zb (0,([]:List Zg),([]:List Int))).bind λc=>
  match c with
  | .inl q0=>(if (decide ((q0.1.length:Int)>1000))=true then
    (some (([]:List Zg),5)) else
   ((Z8 (Z8r q0.2) Zb (0,q0.1)).bind λd=>
    match d with
    | .inl b=>((Z8 (Ze4 b) Zb 0).bind λe=>
     match e with
     | .inl i=>(some (b,0))
     | .inr f=>(some f))
    | .inr g=>(some g)))
  | .inr h=>(some h))
theorem Y1b {ps:List Int} {n:Nat} {t:Int×List Int} {r:List Int⊕((List Zg)×Int)}:∀ (m:Nat) (t:Int×List Int),Z8 (Z1d ps n) m t=some r→∀ q,r=.inl q→q.length=t.2.length
 | 0,t,h,_,_=>by cases h
 | m + 1,t,h,q,hq=>by
  unfold Z8 at h
  cases b:Z1d ps n t with
  | none=>rw[b] at h; cases h
  | some x=>
   rw[b] at h
   unfold Z1d at b
   refine sp b (λ_ b=>bd b λc _ b=>bd b λd _ b=>bd b λe _ b=>bd b λf _ b=>sp b (λ_ b=>?_) (λ_ b=>bd b λg _ b=>?_)) λ_ b=>?_
   ·cases b; cases h; cases hq
   ·cases b
    have:=Y1b (t:=t) m _ h q hq
    rw[this]; simp
   ·cases b; cases h; cases hq; rfl
def I2 (Γ:Ctx) (ps:List Int) (t:Int×(List Zg)) (a:Act) (w:World):Prop:=
 ∃ ys G β loc,ys.map Prod.fst=t.2∧Zk Γ (sY2 ys.length ps t.1 ys).s a w G β∧Fam Γ w G β ys loc
def J2 (Γ:Ctx) (r:(List Zg)⊕((List Zg)×Int)) (e:Exit) (a:Act) (w:World):Prop:=match r with
 | .inl l=>e=.exit 2∧∃ ys G β loc,ys.map Prod.fst=l∧Zk Γ (sJ2 ys.length ys).s a w G β∧Fam Γ w G β ys loc
 | .inr y=>∃ σ G β,Zk Γ σ a w G β∧Ret y e σ
section
variable {m:Nat} {ps:List Int} {k:Int} {ys:List YI}
theorem p2A1 (h:decide (k<(m:Int))=true):A prog Γ (c2A f228) [] (PQ .normal (sY2 m ps k ys)) (sY2 m ps k ys).s:=go [] [rg 19 [(2,lnN m)]]<|bT h<|go [] []<|pg
theorem p2A0 (h:decide (k<(m:Int))=false):A prog Γ (c2A f228) [] (PQ (.exit 2) (sJ2 m ys)) (sY2 m ps k ys).s:=go [] [rg 19 [(2,lnN m)]]<|bF h<|go [] []<|pg
end
theorem Ok3_of {ys:List YI} (h:∀ y∈ys,rawY y):Ok3 ys:=λy c=>by
 obtain⟨u,b⟩:=h y c
 rw[b]; rfl
theorem Zil {ps:List Int} {k:Int} {kk n m:Nat} {ys:List YI} {x:Zg} {tos:List Int} (p:X7 k m=some kk) (z:ys[kk]?=some (x,.lsl 777 0 n)) (j:Ok3 ys)
  (g:Zk Γ (stA m ps (k,ys,tos)).s a w G β) {r:Ctl (Int×List YI×List Int) ((List Zg)×Int)} (q:m2R ps k kk ys x n tos=some r) {post:Exit→Act→World→Prop}
  (u:∀ t,r=.next t→∀ a' w' G' β',Zk Γ (stA m ps t).s a' w' G' β'→Zk (Γ.sub w G β) (stA m ps t).s a' w' G' β'→post .normal a' w')
  (v:∀ y,r=.done y→∀ e a' w',e≠ .normal→(∃ σ G β,Zk Γ σ a' w' G β∧Ret y e σ)→post e a' w'):(c2R f228).wp prog post a w:=by
 refine Zo6 (Q:=Rd (stA m ps) (jr prog f228 Z01) r) (p2R p z j q).h g λe σ' a' w' G' β' d i l=>?_
 cases r with
 | next t=>
  obtain⟨rfl,b⟩:=d
  obtain⟨G2,β2,f⟩:=b _ _ _ _ _ l
  exact u t rfl a' w' G2 β2 (g.lift f) f
 | done y=>
  obtain⟨c,o⟩:=d
  exact v y rfl e a' w' c ⟨σ',G',β',i,o⟩
theorem round2 {ps:List Int} (hX:∀ c,¬ Γ.X c) (t:Int×(List Zg)) (x) (h:Z8r ps t=some x) (a:Act) (w:World) (hI:I2 Γ ps t a w):
  (lpC f228 703).wp prog (RdW (I2 Γ ps) (J2 Γ) x) a w:=by
 obtain⟨ys,G,β,loc,M,Y,hF⟩:=hI
 obtain⟨k,l⟩:=t
 dsimp only at M Y
 subst M
 rw[c2_eq]
 unfold Z8r at h
 dsimp only at h
 rw[List.length_map] at h
 refine sp h (λW h=>?_) λW h=>?_
 rotate_left
 ·cases h
  exact seqE (by simp) (p2A0 W) Y λa1 w1 G1 β1 z B=>⟨by simp,rfl,ys,G1,β1,loc,rfl,z,hF.frame B⟩
 refine bd h λkk n h=>bd h λv H h=>?_
 rw[List.getElem?_map] at H
 obtain⟨y,K,rfl⟩:=Qg H
 obtain⟨v,d⟩:=y
 dsimp only at h
 refine Lz (p2A1 W) Y λa1 w1 G1 β1 z B=>?_
 have A:=hF.frame B
 have D:kk<ys.length:=(List.getElem?_eq_some_iff.1 K).1
 obtain⟨β2,p,Z⟩:=nameY z A K
 have J:∀ y∈ys,rawY y:=λy K=>by
  obtain⟨j,g⟩:=List.mem_iff_getElem?.1 K
  exact(A.mem j y g).raw
 have q:(ys.set kk (v,.lsl 777 0 v.Zs.length))[kk]?=some (v,.lsl 777 0 v.Zs.length):=by simp[D]
 have P:Ok3 (ys.set kk (v,.lsl 777 0 v.Zs.length)):=(Ok3_of J).set _ _ _
 -- what the round leaves,taken back
 have back:∀ (R:Int) (f:Zg) (tos2:List Int) a' w' G' β',tos2.length=v.Zs.length→Zk Γ (stA ys.length ps (R,ys.set kk (f,.lsl 777 0 v.Zs.length),tos2)).s a' w' G' β'→
   Zk (Γ.sub w1 G1 β2) (stA ys.length ps (R,ys.set kk (f,.lsl 777 0 v.Zs.length),tos2)).s a' w' G' β'→
   I2 Γ ps (R,(ys.map Prod.fst).set kk { f_Op:=f.f_Op,f_A:=f.f_A,f_B:=f.f_B,f_To:=f.f_To,Yg:=f.Yg,Zs:=tos2,Yv:=f.Yv,f_S:=f.f_S }) a' w':=λR f tos2 a' w' G' β' hl k1 k2=>by
  obtain ⟨u,β3,loc3,q1,q2⟩:=backY (kk:=kk) (x:=f) (loc:=loc) hX k1 (by simp[D]) hl (λj y g L=>by
   rw[List.getElem?_set_ne (Ne.symm g)] at L
   exact(Z j y g L).frame k2) (λi j c hi g hil hjl=>A.inj i j c hi g (by simpa using hil) (by simpa using hjl))
  refine⟨_,G',β3,loc3,?_,?_,q2⟩
  ·rw[List.set_set,List.map_set]
  ·rw[List.set_set] at q1 ⊢
   rw[List.length_set]
   exact q1
 refine bd h λv42 o h=>?_
 refine sp h (λI h=>bd h λN T h=>?_) λI h=>bd h λv46 r h=>sp h (λQ h=>?_) λQ h=>bd h λq5 U h=>?_
 ·-- no branch
  cases h
  have E:m2R ps k kk (ys.set kk (v,.lsl 777 0 v.Zs.length)) v v.Zs.length v.Zs=some (.next (N,ys.set kk (v,.lsl 777 0 v.Zs.length),v.Zs)):=by
   unfold m2R
   rw[o,Option.bind_some,if_pos I,T,Option.bind_some]
  refine Zil n q P p E (λt F a' w' G' β' k1 k2=>?_) (λy C=>by cases C)
  cases F
  refine⟨rfl,?_⟩
  have:=back N v v.Zs a' w' G' β' rfl k1 k2
  have e:(ys.map Prod.fst).set kk v=ys.map Prod.fst:=by
   apply List.ext_getElem?
   intro i
   rcases Nat.decEq i kk with b|rfl
   ·rw[List.getElem?_set_ne (Ne.symm b)]
   ·rw[List.getElem?_set_self (by simpa using D),List.getElem?_map,K]; rfl
  have e2:({ f_Op:=v.f_Op,f_A:=v.f_A,f_B:=v.f_B,f_To:=v.f_To,Yg:=v.Yg,Zs:=v.Zs,Yv:=v.Yv,f_S:=v.f_S }:Zg)=v:=rfl
  rw[e2,e] at this
  exact this
 ·-- no such place
  cases h
  have E:m2R ps k kk (ys.set kk (v,.lsl 777 0 v.Zs.length)) v v.Zs.length v.Zs=some (.done (([]:List Zg),16)):=by
   unfold m2R
   rw[o,Option.bind_some,if_neg (by simpa using I),r,Option.bind_some,if_pos Q]
  refine Zil n q P p E (λt F=>by cases F) (λy C e a' w' b g=>?_)
  cases C
  exact⟨b,g⟩
 ·cases q5 with
  | inl q4=>
   dsimp only at h
   refine bd h λO V h=>?_
   cases h
   have E:m2R ps k kk (ys.set kk (v,.lsl 777 0 v.Zs.length)) v v.Zs.length v.Zs=some (.next (O,(ys.set kk (v,.lsl 777 0 v.Zs.length)).set kk ({ f_Op:=v.f_Op,f_A:=v.f_A,f_B:=v.f_B,f_To:=v46,Yg:=v.Yg,Zs:=v.Zs,Yv:=v.Yv,f_S:=v.f_S },.lsl 777 0 v.Zs.length),q4)):=by
    unfold m2R
    rw[o,Option.bind_some,if_neg (by simpa using I),r,Option.bind_some,if_neg (by simpa using Q),U,Option.bind_some]
    dsimp only
    rw[V,Option.bind_some]
   refine Zil n q P p E (λt F a' w' G' β' k1 k2=>?_) (λy C=>by cases C)
   cases F
   rw[List.set_set] at k1 k2
   exact⟨rfl,back O _ q4 a' w' G' β' (Y1b (t:=(0,v.Zs)) _ _ U q4 rfl) k1 k2⟩
  | inr y1=>
   cases h
   have E:m2R ps k kk (ys.set kk (v,.lsl 777 0 v.Zs.length)) v v.Zs.length v.Zs=some (.done y1):=by
    unfold m2R
    rw[o,Option.bind_some,if_neg (by simpa using I),r,Option.bind_some,if_neg (by simpa using Q),U,Option.bind_some]
   refine Zil n q P p E (λt F=>by cases F) (λy C e a' w' b g=>?_)
   cases C
   exact⟨b,g⟩
def Zxb (b:(List Zg)):Int→SL:=
 λt4=>⟨130,[(4,.lsl 4 0 ((b.map Y4).length)),(11,dI t4)],[(4,{ sz:=10,rows:=(b.map Y4),frz:=0,pure:=true })]⟩
def J228x4 (b:(List Zg)):JT (Unit⊕((List Zg)×Int)):=
 ju (je 6 λc:Unit=>⟨130,[(4,.lsl 4 0 ((b.map Y4).length))],[(4,{ sz:=10,rows:=(b.map Y4),frz:=0,pure:=true })]⟩) (jr prog f228 Z01)
theorem wl228x4 {b:(List Zg)} {t4:Int} {r:Ctl (Int) (Unit⊕((List Zg)×Int))} {Γ:Ctx} (h:(Ze4 b) t4=some r):A prog Γ (lpC f228 1407) [] (Rd (Zxb b) (J228x4 b) r) ((Zxb b) t4).s:=
 go [] [rg 32 [(2,ln b)]]<|br h (λg h=>bd h λj c h=>bd h λl d h=>bd h λo e h=>go [] [rg 34 [(2,ia 4 c),(3,lb d),(4,W.k (w161 e))]]<|br h (λi h=>go [] []<|dn h (i2 iR)) λi h=>
  bd h λp f h=>go [] [rg 33 [(1,W.n f)]]<|nx h) λg h=>
 go [] []<|dn h (i1 iE)
def d0 (f:Func):Code:=J4 (Ur f)
def d1 (f:Func):Code:=J4 (V6 (Ur f))
def d3 (f:Func):Code:=J4 (V6 (V6 (Ur f)))
def d4 (f:Func):Code:=J4 (V6 (V6 (V6 (Ur f))))
def dT (f:Func):Code:=V6 (V6 (V6 (V6 (Ur f))))
def d5 (f:Func):Code:=J4 (J4 (dT f))
def d16 (f:Func):Code:=J4 (V6 (dT f))
def d18 (f:Func):Code:=J4 (J4 (V6 (V6 (dT f))))
def dZ (f:Func):Code:=V6 (V6 (V6 (dT f)))
theorem d_eq:Ur f228=.seq (d0 f228) (.seq (d1 f228) (.seq (d3 f228) (.seq (d4 f228) (.seq (.seq (d5 f228) (.block 0 (.loop (lpC f228 175)))) (.seq (d16 f228) (.seq (.seq (d18 f228) (.block 2 (.loop (lpC f228 703)))) (dZ f228))))))):=by kernel_rfl
def s0 (x0:List UInt8):SL:=⟨130,[(0,.str x0)],[]⟩
def s3 (x0:List UInt8):SL:=⟨130,[(0,.str x0),(4,.sl true [])],[]⟩
def s4 (x0:List UInt8):SL:=⟨130,[(0,.str x0),(4,.sl true []),(5,.sl true [])],[]⟩
section
variable {x0:List UInt8} {ys:List YI} {ps:List Int}
theorem q0:A prog Γ (d0 f228) [] (PQ .normal (s0 x0)) (s0 x0).s:=go [] []<|pg
theorem q1T (h:decide ((x0.length:Int)>20000)=true):A prog Γ (d1 f228) [] (Ret ([],8)) (s0 x0).s:=go [] []<|bT h<|go [] []<|rE
theorem q1F (h:decide ((x0.length:Int)>20000)=false):A prog Γ (d1 f228) [] (PQ .normal (s0 x0)) (s0 x0).s:=go [] []<|bF h<|go [] []<|pg
theorem q3:A prog Γ (d3 f228) [] (PQ .normal (s3 x0)) (s0 x0).s:=go [] []<|pg
theorem q4:A prog Γ (d4 f228) [] (PQ .normal (s4 x0)) (s3 x0).s:=go [] []<|pg
theorem q5:A prog Γ (d5 f228) [] (PQ .normal (sY1 x0 0 [] [])) (s4 x0).s:=go [] []<|pg [.tmp 4 4 10,.tmp 5 5 1]
theorem q16T (h:decide ((ys.length:Int)>1000)=true):A prog Γ (d16 f228) [] (Ret ([],5)) (sJ1 ys ps).s:=go [] [rg 16 [(1,ln ys)]]<|bT h<|go [] []<|rE
theorem q16F (h:decide ((ys.length:Int)>1000)=false):A prog Γ (d16 f228) [] (PQ .normal (sJ1 ys ps)) (sJ1 ys ps).s:=go [] [rg 16 [(1,ln ys)]]<|bF h<|go [] []<|pg
theorem q18:A prog Γ (d18 f228) [] (PQ .normal (sY2 (ys.map Vf).length ps 0 ys)) (sJ1 ys ps).s:=go [] []<|pg
end
theorem qZ {l:List Zg} {r:(List Zg)×Int} (h:((Z8 (Ze4 l) Zb 0).bind λc=>
     match c with
     | .inl e=>(some (l,0))
     | .inr d=>(some d))=some r):A prog Γ (dZ f228) [] (Go.Den.Ends prog f228 (Z01 r)) (sJ3 (l.map Y4).length l).s:=
 go [] []<|bd h λc b h=>lp b wl228x4<|match c,h with
  | .inl e,h=>j1<|(qe<|goN [] []<|rtB h (.tup [rw_ l,dI 0]) (a2 (rpI l) (a2 trivial trivial)) (by simp only[rwE] <;> kernel_rfl))
  | .inr d,h=>j2<|(qr h)
theorem inB {id:Nat} {Q:Exit→Act→World→Prop} (h:Q .normal a w):Exit.inBlock id Q (.exit id) a w:=by
 show (if id=id then Q .normal a w else Q (.exit id) a w)
 rw[if_pos rfl]
 exact h
theorem Zii {y r:(List Zg)×Int} (he:some y=some r) {e:Exit} (h:Ret y e σ):e=.ret∧Go.Den.Ends prog f228 (Z01 r) .ret σ:=by
 cases he; exact h
theorem body153 {x0:List UInt8} {r:(List Zg)×Int} (h:Z4y x0=some r) (M:∀ c,¬ Γ.X c):DWP prog Γ (Ur f228) (Go.Den.Ends prog f228 (Z01 r)) (s0 x0).s:=λa w G β L=>by
 rw[d_eq]
 unfold Z4y at h
 refine Lz q0 L λa1 T G1 β1 g _=>?_
 refine sp h (λn h=>?_) λn h=>?_
 ·refine Zij (q1T n) g λa' w' ⟨σ',G',β',k1,k2⟩=>?_
  obtain⟨-,k3⟩:=Zii h k2
  exact⟨σ',G',β',k1,k3⟩
 refine bd h λt1 H h=>?_
 refine Lz (q1F n) g λa2 U G2 β2 p _=>?_
 refine Lz q3 p λN w3 G3 β3 q _=>?_
 refine Lz q4 q λO w4 G4 β4 t _=>?_
 refine wp_seq (Lz q5 t λP w5 G5 β5 u _=>wp_block ?_)
 refine loopS (I:=I1 Γ x0) (J:=J1 Γ) round1 H (λe Q w6 j=>?_) ⟨[],G5,β5,_,rfl,u,Fam.none⟩
 cases t1 with
 | inr y=>
  obtain⟨σ',G',β',k1,k2⟩:=j
  obtain⟨rfl,k3⟩:=Zii h k2
  exact⟨σ',G',β',k1,k3⟩
 | inl q0=>
  obtain⟨rfl,ys,G6,β6,loc,b,f,z⟩:=j
  obtain⟨l,ps⟩:=q0
  dsimp only at b f h
  subst b
  refine inB ?_
  show Code.wp _ _ _ _ _
  rw[List.length_map] at h
  refine sp h (λo h=>?_) λo h=>?_
  ·refine Zij (q16T o) f λa' w' ⟨σ',G',β',k1,k2⟩=>?_
   obtain⟨-,k3⟩:=Zii h k2
   exact⟨σ',G',β',k1,k3⟩
  refine bd h λt2 K h=>?_
  refine Lz (q16F o) f λR w7 G7 β7 v D=>?_
  have A:=z.frame D
  refine wp_seq (Lz q18 v λa8 w8 G8 β8 i E=>wp_block ?_)
  have B:=A.frame E
  rw[List.length_map] at i
  refine loopS (I:=I2 Γ ps) (J:=J2 Γ) (round2 M) K (λe F w9 j=>?_) ⟨ys,G8,β8,loc,rfl,i,B⟩
  cases t2 with
  | inr y=>
   obtain⟨σ',G',β',k1,k2⟩:=j
   obtain⟨rfl,k3⟩:=Zii h k2
   exact⟨σ',G',β',k1,k3⟩
  | inl l=>
   obtain⟨rfl,ys2,G9,β9,loc9,b,x,C⟩:=j
   subst b
   refine inB ?_
   show Code.wp _ _ _ _ _
   obtain⟨G10,d⟩:=finY x C
   rw[show ys2.length=((ys2.map Prod.fst).map Y4).length by simp] at d
   exact(qZ h).h F w9 G10 β9 d
theorem w228 {x0:List UInt8} {r:(List Zg)×Int} (h:Z4y x0=some r):Zi prog 228 [.str x0] (Z01 r):=
 Zi.mk (fn:=f228) (c:=Ur f228) (by kernel_rfl) (by kernel_rfl) (by kernel_rfl) (Nat.le_of_ble_eq_true (by kernel_rfl)) λΓ=>DWP.noX (λb=>rfl) λΓ d=>body153 h d
end Go.Proofs
