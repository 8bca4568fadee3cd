/-
  A call that keeps blocks without names: a context within a context; blocks of numbers that are named for a while.
-/
import Derived.Test.YtaamfcpmekeahaaGreatDoorDenClaim
import Derived.Test.YtaamfcpmekeahaaGreatDoorGbg5
set_option linter.unusedVariables false
set_option linter.unusedSimpArgs false
namespace Go.Den
open Go.RowKit
variable {P:Program} {Γ:Ctx} {σ σ':S} {a a':Act} {w w':World} {G G':Nat→Nat} {β β':Nat→Option (Nat×Nat)}
def Ctx.sub (Γ:Ctx) (w:World) (G:Nat→Nat) (β:Nat→Option (Nat×Nat)):Ctx:=
 { B:=w.heap.size,X:=λc=>∃ b s,β b=some (c,s),w0:=w,G0:=G,hB:=Nat.le_refl _,pin:=Γ.pin }
theorem Vq.ctx {Γ':Ctx} {c:Nat} {blk:Blk} (h:Vq w G β Γ c blk) (b:Γ'.B≤c∨Γ'.X c) (hp:Γ'.pin=Γ.pin):Vq w G β Γ' c blk:=by
 obtain⟨own,pin,ty,frz,top,dat,hsz,cells⟩:=h
 exact⟨b,λk d=>by rw[hp]; exact pin k d,ty,frz,top,dat,hsz,cells⟩
theorem Zk.sub (h:Zk Γ σ a w G β):Zk (Γ.sub w G β) σ a w G β:=by
 refine⟨h.defers,h.size,h.tmps,λb blk e=>?_,h.dom,h.inj,.refl _ _ _,λ_ _ _=>rfl,h.fresh,Nat.le_refl _,h.glob⟩
 rcases h.heap b blk e with d|⟨c,d,hB⟩
 ·exact .inl d
 ·exact .inr ⟨c,d,hB.ctx (.inr ⟨b,_,d⟩) rfl⟩
theorem Zk.owned (h:Zk Γ σ a w G β) {b c s:Nat} (e:β b=some (c,s)):(Γ.B≤c∨Γ.X c)∧c<w.heap.size:=by
 obtain⟨blk,f⟩:=h.dom b _ e
 rcases h.heap b blk f with ⟨d,-⟩|⟨c',d,hB⟩
 ·rw[e] at d; cases d
 ·rw[e] at d; cases d; exact⟨hB.own,hB.lt⟩
theorem Zk.lift (d:Zk Γ σ a w G β) (h:Zk (Γ.sub w G β) σ' a' w' G' β'):Zk Γ σ' a' w' G' β':=by
 have m:∀ k,k<Γ.B→ ¬ Γ.X k→ ¬ (Γ.sub w G β).X k:=λk f e ⟨b,s,i⟩=>(d.owned i).1.elim (λg=>by omega) e
 have f:Lb Γ.B Γ.X w w':=⟨h.kept.os,h.kept.tape,h.kept.output,h.kept.size,λk f e=>h.kept.block k (Nat.lt_of_lt_of_le f d.big) (m k f e),h.kept.same⟩
 refine⟨h.defers,h.size,h.tmps,λb blk i=>?_,h.dom,h.inj,d.kept.trans f,λc j e=>?_,h.fresh,Nat.le_trans d.big h.kept.size,h.glob⟩
 ·rcases h.heap b blk i with g|⟨c,g,hB⟩
  ·exact .inl g
  ·refine .inr ⟨c,g,hB.ctx ?_ rfl⟩
   rcases hB.own with l|⟨n,s,l⟩
   ·exact .inl (Nat.le_trans d.big l)
   ·exact(d.owned l).1
 ·rw[h.marks c (Nat.lt_of_lt_of_le j d.big) (m c j e)]
  exact d.marks c j e
theorem Zk.frame (h:Zk (Γ.sub w G β) σ' a' w' G' β') {c:Nat} (g:c<w.heap.size) (i:∀ b s,β b≠some (c,s)):w'.heap[c]?=w.heap[c]?∧G' c=G c∧∀ b s,β' b≠some (c,s):=by
 have d: ¬ (Γ.sub w G β).X c:=λ⟨b,s,e⟩=>i b s e
 refine⟨h.kept.block c g d,h.marks c g d,λb s e=>?_⟩
 rcases (h.owned e).1 with f|f
 ·exact absurd f (by show ¬ (w.heap.size≤c); omega)
 ·exact d f
def J7 (w:World) (c:Nat) (l:List Int) (cap:Nat):Prop:=∃ vs e fr,w.heap[c]?=some (.cells vs e fr)∧(∀ o,o<vs.size→ ¬ (fr.1≤o∧o<fr.2))∧l.length≤vs.size∧cap≤vs.size∧
 ∀ (i:Nat) x,l[i]?=some x→vs[i]?=some (.int .i64 x)
theorem J7.same {c:Nat} {l:List Int} {cap:Nat} (h:J7 w c l cap) (b:w'.heap[c]?=w.heap[c]?):J7 w' c l cap:=by
 obtain⟨vs,e,fr,d,f⟩:=h
 exact⟨vs,e,fr,b.trans d,f⟩
def Je (l:List Int) (pin:Option Nat):Blk:={ sz:=1,rows:=l.map Z5,frz:=0,pure:=true,pin }
theorem Zbj {l:List Int} {i j:Nat} {r:List D} {d:D} (b:(l.map Z5)[i]?=some r) (c:r[j]?=some d):j=0∧∃ x,l[i]?=some x∧d=.int .i64 x:=by
 rw[List.getElem?_map] at b
 cases e:l[i]? with
 | none=>rw[e] at b; cases b
 | some x=>
  rw[e] at b; cases b
  cases j with
  | zero=>cases c; exact⟨rfl,x,rfl,rfl⟩
  | succ j=>simp[Z5] at c
theorem J7.rep {c:Nat} {l:List Int} {cap:Nat} (h:J7 w c l cap) (v:G c=0) (g:Γ.B≤c∨Γ.X c) {pin:Option Nat} (hp:∀ k,pin=some k→Γ.pin k=c):Vq w G β Γ c (Je l pin):=by
 obtain⟨vs,e,fr,m,n,p,y,q⟩:=h
 refine⟨g,hp,λt s=>(by cases s),λo g=>(by omega),Nat.zero_le _,λ_ i j r d b f=>?_,λi r b=>?_,vs,e,fr,m,n,by simpa [Je] using p,λi j r d b f=>?_⟩
 ·obtain⟨-,x,-,rfl⟩:=Zbj b f; rfl
 ·simp only[Je,List.getElem?_map] at b
  obtain⟨x,-,rfl⟩:=Qf b
  rfl
 ·obtain⟨rfl,x,u,rfl⟩:=Zbj b f
  exact⟨_,by simpa [Je] using q i x u,rfl,.int _ _⟩
theorem J7.of {c:Nat} {l:List Int} {pin:Option Nat} (h:Vq w G β Γ c (Je l pin)) {cap:Nat} (b:∀ vs e fr,w.heap[c]?=some (.cells vs e fr)→cap≤vs.size):J7 w c l cap:=by
 obtain⟨vs,e,fr,d,f,g,j⟩:=h.cells
 refine⟨vs,e,fr,d,f,by simpa [Je] using g,b vs e fr d,λi x k=>?_⟩
 obtain⟨v,m,-,n⟩:=j i 0 [.int .i64 x] (.int .i64 x) (by simp[Je,k,Z5]) rfl
 cases n
 simpa [Je] using m
theorem Zk.refine (h:Zk Γ σ a w G β) {b:Nat} {blk:Blk} (C:σ.heap b=some blk) (rows:List (List D)) (t:rows.length=blk.rows.length)
  (y:∀ c vs e fr,β b=some (c,blk.sz)→w.heap[c]?=some (.cells vs e fr)→∀ (i:Nat) (g:List D),rows[i]?=some g→g.length=blk.sz∧∀ (j:Nat) d',g[j]?=some d'→∀ r d v,blk.rows[i]?=some r→r[j]?=some d→vs[i*blk.sz+j]?=some v→one v=true→Zh w G β v d→Zh w G β v d') (p:Bool)
  (hp:p=true→∀ (i j:Nat) (r:List D) (d:D),rows[i]?=some r→r[j]?=some d→d.dat=true):
  Zk Γ (σ.setB b (some { blk with rows:=rows,pure:=p })) a w G β:=by
 refine⟨h.defers,h.size,h.tmps,λu k o=>?_,λu x o=>?_,h.inj,h.kept,h.marks,h.fresh,h.big,h.glob⟩
 ·simp only[S.setB] at o
  split at o
  ·cases o; rename_i z; subst z
   rcases h.heap _ blk C with ⟨q,s,A⟩|⟨c,q,hB⟩
   ·refine .inl ⟨q,?_,A⟩
    rw[s] at t
    exact List.eq_nil_of_length_eq_zero t
   ·refine .inr ⟨c,q,?_⟩
    obtain⟨own,pin,ty,frz,top,dat,hsz,vs,e,fr,s,A,E,F⟩:=hB
    refine⟨own,pin,ty,frz,by rw[t]; exact top,hp,λi g f=>(y c vs e fr q s i g f).1,vs,e,fr,s,A,by rw[t]; exact E,λi j g d' f l=>?_⟩
    have H:i<blk.rows.length:=by
     rw[← t]
     rcases Nat.lt_or_ge i rows.length with m|m
     ·exact m
     ·rw[List.getElem?_eq_none m] at f; cases f
    obtain⟨r,n⟩:∃ r,blk.rows[i]?=some r:=⟨_,List.getElem?_eq_getElem H⟩
    have B:j<r.length:=by
     rw[hsz i r n,← (y c vs e fr q s i g f).1]
     rcases Nat.lt_or_ge j g.length with m|m
     ·exact m
     ·rw[List.getElem?_eq_none m] at l; cases l
    obtain⟨v,a1,a2,I⟩:=F i j r r[j] n (List.getElem?_eq_getElem B)
    exact⟨v,a1,a2,(y c vs e fr q s i g f).2 j d' l r _ v n (List.getElem?_eq_getElem B) a1 a2 I⟩
  ·exact h.heap u k o
 ·simp only[S.setB]
  split
  ·exact⟨_,rfl⟩
  ·exact h.dom u x o
theorem Zk.cellOf (h:Zk Γ σ a w G β) {b:Nat} {blk:Blk} (k:σ.heap b=some blk) {i j:Nat} {r:List D} {d:D} (f:blk.rows[i]?=some r) (l:r[j]?=some d):
  ∃ c vs e fr v,β b=some (c,blk.sz)∧w.heap[c]?=some (.cells vs e fr)∧vs[i*blk.sz+j]?=some v∧one v=true∧Zh w G β v d:=by
 rcases h.heap b blk k with ⟨-,g,-⟩|⟨c,m,hB⟩
 ·rw[g] at f; simp at f
 ·obtain⟨vs,e,fr,g,p,q,n⟩:=hB.cells
  obtain⟨v,a1,a2,o⟩:=n i j r d f l
  exact⟨c,vs,e,fr,v,m,g,a1,a2,o⟩
theorem Zk.unname (h:Zk Γ σ a w G β) (b:Nat) (f:∀ t,(σ.tmps t).kill b=σ.tmps t) (g:∀ u k,u≠b→σ.heap u=some k→Blk.kill b k=k):
  Zk Γ { σ with heap:=λu=>if u=b then none else σ.heap u } a w G (upd β b none):=by
 have d:=h.drop b
 have e:σ.drop b={ σ with heap:=λu=>if u=b then none else σ.heap u }:=by
  unfold S.drop
  congr 1
  ·funext t; exact f t
  ·funext u
   by_cases c:u=b
   ·rw[if_pos c,if_pos c]
   ·rw[if_neg c,if_neg c]
    cases i:σ.heap u with
    | none=>rfl
    | some k=>exact congrArg some (g u k c i)
 rw[e] at d
 exact d
inductive Z0p (w:World) (G:Nat→Nat) (B:Nat):Value→List Int→Prop
 | nil (x:Option Addr):Z0p w G B (.slice x 0 0) []
 | blk (c cap:Nat) (l:List Int) (hcap:l.length≤cap) (hi:J7 w c l cap) (hG:G c=0) (hB:B≤c):Z0p w G B (.slice (some ⟨c,0,none⟩) l.length cap) l
def TakeS (P:Program) (f:FuncId) (ds pre post:List D) (tos:List Int):Prop:=
 L5 P f=true∧∀ (w:World) (G:Nat→Nat) (vs:Array Value),(∀ c,w.heap.size≤c→G c=0)→Z0y w G→M7 w G vs ds→
  Calls P f vs w λe w'=>∃ v G' u,e=.returned v∧Below w.heap.size w w'∧(∀ c,c<w.heap.size→G' c=G c)∧(∀ c,w'.heap.size≤c→G' c=0)∧
   Zh w' G' (λ_=>none) v (.agg (pre++ .raw u::post))∧Z0p w' G' w.heap.size u tos
def EndsT (P:Program) (fn:Func) (Q:List D→S→Prop):Exit→S→Prop:=λe σ=>(e=.ret∨e=.normal)∧∃ cs p,Z1m P σ fn.results.toList=some ([.agg cs],p)∧p∧Q cs σ
def OwnD (σ:S) (d:D) (l:List Int):Prop:=(d=.sl true []∧l=[])∨∃ b,d=.lsl b 0 (l.map Z5).length∧σ.heap b=some (Je l none)
def Ztb (pre post:List D) (tos:List Int) (cs:List D) (σ:S):Prop:=∃ cpre d cpost l p,cs=cpre++d::cpost∧cpre.length=pre.length∧W3 σ (cpre++cpost)=some (pre++post,l,p)∧p∧OwnD σ d tos∧∀ b n,d=.lsl b 0 n→b ∉ l
theorem Zxz:∀ (l:List Nat) (σ:S) {b:Nat},b ∉ l→(σ.freezeL l).heap b=σ.heap b
 | [],_,_,_=>rfl
 | x::l,σ,b,h=>by
  have c:b≠x:=λe=>h (by simp[e])
  have d:b ∉ l:=λe=>h (by simp[e])
  show ((σ.freeze x).freezeL l).heap b=_
  rw[Zxz l (σ.freeze x) d]
  simp[S.freeze,c]
theorem Zh.fresh (h:Zk Γ σ a w G β) {v:Value} {d:D} {l:List Int} (o:Zh w G β v d) (j:OwnD σ d l):Z0p w G Γ.B v l∨∃ b c s,d=.lsl b 0 (l.map Z5).length∧β b=some (c,s)∧Γ.X c:=by
 rcases j with ⟨rfl,rfl⟩|⟨b,rfl,u⟩
 ·cases o with
  | slnil c x=>exact .inl (.nil x)
  | sl c b off n cap sz rows val k y g=>
   have f:n=0:=by simpa using k.symm
   subst f
   obtain rfl:cap=0:=y rfl
   exact .inl (.nil _)
 ·generalize k:(l.map Z5).length=n at o
  rw[List.length_map] at k
  cases o with
  | lslnil b x=>
   obtain rfl:=List.eq_nil_of_length_eq_zero k
   exact .inl (.nil x)
  | lsl b lo n cap c sz off p g m i=>
   subst k
   by_cases t:cap=0
   ·subst t
    obtain rfl:l=[] :=List.eq_nil_of_length_eq_zero (by omega)
    exact .inl (.nil _)
   ·have f:off=0:=by
     rcases m with q|q
     ·exact absurd q t
     ·simpa using q
    subst f
    rcases h.heap b _ u with ⟨f,-⟩|⟨c',f,hB⟩
    ·rw[p] at f; cases f
    ·rw[p] at f
     simp only[Je,Option.some.injEq,Prod.mk.injEq] at f
     obtain⟨rfl,rfl⟩:=f
     rcases hB.own with j|j
     ·refine .inl (.blk c cap l g (J7.of hB λvs e fr z=>?_) ?_ j)
      ·obtain⟨vs',A,fr',k1,k2⟩:=i
       rw[z] at k1; cases k1
       rcases k2 with k2|k2
       ·omega
       ·omega
      ·rcases Nat.eq_zero_or_pos (G c) with r|r
       ·exact r
       ·have:=hB.frz 0 r
        simp[Je] at this
     ·exact .inr ⟨b,c,_,rfl,p,j⟩
theorem Y32 {f:FuncId} {fn:Func} {c:Code} {ds pre post:List D} {tos:List Int} (hf:P.funcs[f]?=some fn) (C:fn.body=some c) (E:L5 P f=true) (hn:ds.length≤fn.ntmps)
  (h:∀ Γ:Ctx,DWP P Γ c (EndsT P fn (Ztb pre post tos)) (mkS fn.ntmps (Vw 0 ds) [])):TakeS P f ds pre post tos:=by
 refine⟨E,λw G vs hG N i=>?_⟩
 let Γ:Ctx:={ B:=w.heap.size,X:=λ_=>False,w0:=w,G0:=G,hB:=Nat.le_refl _,pin:=λ_=>0 }
 have hC : Zk Γ (mkS fn.ntmps (Vw 0 ds) []) { tmps:=vs++Array.replicate (fn.ntmps - vs.size) Go.undef,defers:=[] } w G (λ_=>none):=by
  refine⟨rfl,?_,λt=>?_,λb blk C=>?_,λb x F=>?_,λb b' c s s' C=>?_,.refl _ _ _,λ_ _ _=>rfl,hG,Nat.le_refl _,N⟩
  ·simp only[Array.size_append,Array.size_replicate,mkS]; have:=i.size; omega
  ·show Zh w G _ _ (ofL (Vw 0 ds) t)
   rw[Z5c,if_pos (Nat.zero_le _),Nat.sub_zero]
   rcases Nat.lt_or_ge t ds.length with H|H
   ·have y:t<vs.size:=by rw[← i.size]; exact H
    have I:ds.getD t .undef=ds[t] :=by simp[List.getD,List.getElem?_eq_getElem H]
    have O:(vs++Array.replicate (fn.ntmps - vs.size) Go.undef).getD t Go.undef=vs[t] :=by
     rw[Array.getD_eq_getD_getElem?,Array.getElem?_append_left y,Array.getElem?_eq_getElem y]; rfl
    rw[I,O]
    exact i.rep t _ _ (Array.getElem?_eq_getElem y) (List.getElem?_eq_getElem H)
   ·have I:ds.getD t .undef=.undef:=by simp[List.getD,List.getElem?_eq_none H]
    rw[I]; exact .undef _
  ·cases C
  ·cases F
  ·cases C
 refine calls_of_wp hf C (wp_mono (h Γ _ w G _ hC) λe a' w' ⟨σ',G',β',n,he,cs,p,hr,hp,cpre,d,cpost,l,q,Q,J,hd,hq,R,T⟩=>?_)
 subst Q
 obtain⟨vs,I,O,e3⟩:=Zds (P:=P) n _ hr hp
 obtain ⟨v,rfl⟩:∃ v,vs=[v] :=by
  match vs,O with
  | [v],_=>exact⟨v,rfl⟩
 have z:=e3 0 v _ rfl rfl
 obtain⟨us,rfl,k1,k2,k3⟩:=L2 z
 obtain⟨G2,o,f2,f3,f4⟩:=Z79 n hd hq
 have hi:cpre.length<us.size:=by rw[← k1]; simp
 obtain⟨u,U⟩:∃ u,us[cpre.length]?=some u:=⟨_,Array.getElem?_eq_getElem hi⟩
 have V:=k3 cpre.length _ d U (by simp)
 -- the block stands as it stood
 have W:OwnD (σ'.freezeL l) d tos:=by
  rcases R with R|⟨b,A,h2⟩
  ·exact .inl R
  ·exact .inr ⟨b,A,by rw[Zxz l σ' (T b _ A)]; exact h2⟩
 have Y:Z0p w' G2 w.heap.size u tos:=by
  rcases Zh.fresh o (V.mono (λ_ _ _=>rfl) f2 (λ_ _ h=>h) (.refl w')) W with A|⟨b,c,s,-,-,A⟩
  ·exact A
  ·exact absurd A (λh=>h)
 have K:Zh w' G2 (λ_=>none) (.agg us) (.agg (pre++ .raw u::post)):=by
  have L:(pre++post).length=(cpre++cpost).length:=f3
  refine .agg us _ ?_ k2 λj v d' z g=>?_
  ·rw[← k1]; simp only[List.length_append,List.length_cons] at L ⊢; omega
  ·rcases Nat.lt_trichotomy j cpre.length with M|M|M
   ·rw[List.getElem?_append_left (by omega)] at g
    have F:(cpre++d::cpost)[j]?=(cpre++cpost)[j]? :=by rw[List.getElem?_append_left M,List.getElem?_append_left M]
    have Z:∃ d0,(cpre++cpost)[j]?=some d0:=⟨_,List.getElem?_eq_getElem (by simp; omega)⟩
    obtain⟨d0,m⟩:=Z
    exact f4 j v d0 d' (k3 j v d0 z (F.trans m)) m (by rw[List.getElem?_append_left (by omega)]; exact g)
   ·subst M
    rw[List.getElem?_append_right (by omega),J,Nat.sub_self] at g
    cases g
    rw[U] at z; cases z
    exact .raw _ (k2 _ _ U)
   ·rw[List.getElem?_append_right (by omega),show j - pre.length=(j - 1 - pre.length)+1 by omega,List.getElem?_cons_succ] at g
    have F:(cpre++d::cpost)[j]?=(cpre++cpost)[j - 1]? :=by
     rw[List.getElem?_append_right (by omega),show j - cpre.length=(j - 1 - cpre.length)+1 by omega,List.getElem?_cons_succ,List.getElem?_append_right (by omega)]
    have hlt:j - 1<(cpre++cpost).length:=by
     rcases Nat.lt_or_ge (j - 1 - pre.length) post.length with h'|h'
     ·rw[← L,List.length_append]; omega
     ·rw[List.getElem?_eq_none h'] at g; cases g
    obtain⟨d0,m⟩:∃ d0,(cpre++cpost)[j - 1]?=some d0:=⟨_,List.getElem?_eq_getElem hlt⟩
    exact f4 (j - 1) v d0 d' (k3 j v d0 z (F.trans m)) m (by rw[List.getElem?_append_right (by omega)]; exact g)
 have r:(results fn a'.tmps).run P w'=.ok (.agg us) w':=by
  rw[Zpy,Array.mapM_eq_mapM_toList]
  simp only[Sem.run_bind,Sem.run_map,I,Result.andThen_ok,Sem.run_pure]
  rfl
 have hR:∃ v' G' u,Ending.returned (.agg us)=.returned v'∧Below w.heap.size w w'∧(∀ c,c<w.heap.size→G' c=G c)∧(∀ c,w'.heap.size≤c→G' c=0)∧Zh w' G' (λ_=>none) v' (.agg (pre++ .raw u::post))∧Z0p w' G' w.heap.size u tos:=
  ⟨_,G2,_,rfl,⟨o.kept.os,o.kept.tape,o.kept.output,o.kept.size,λk hk=>o.kept.block k hk (λh=>h)⟩,λc hc=>o.marks c hc (λh=>h),o.fresh,K,Y⟩
 rcases he with rfl|rfl
 ·exact⟨n.defers,_,r,hR⟩
 ·exact⟨n.defers,_,r,hR⟩
theorem Y6e (C:Zk Γ σ a w G β) {ops:Array Oper} {i:Nat} {o:Oper} (V:ops[i]?=some o) (W:o.guard=none) {fo:Operand} {args:Array Operand} {ts:Array TypeId} (X:o.op=.call { callee:= .value fo,args,argTypes:=ts }) {f:FuncId} (E:σ.ev fo=.fn f)
  {ds pre post:List D} {tos:List Int} {p:Prop} (F:W3 σ (args.toList.map σ.ev)=some (ds,[],p)) (hp:p) {t:Nat} (z:o.dst=some t) (Y:t<σ.n) (O:TakeS P f ds pre post tos)
  {K:Act→World→Prop} {Q:Exit→Act→World→Prop} (Z:∀ v w' G' u,Zk Γ (σ.put (some t) (.agg (pre++ .raw u::post))) (a.put (some t) v) w' G' β→Z0p w' G' w.heap.size u tos→K (a.put (some t) v) w'):wpOp P ops Q i K a w:=by
 have A:a.eval fo=.func (.func f) #[] #[] :=by
  have:=Wc C fo
  rw[E] at this
  generalize a.eval fo=u at this
  cases this; rfl
 obtain⟨G',q,h2,h3,h4⟩:=Z79 C F hp
 change Zk Γ σ a w G' β at q
 have r:M7 w G' (args.map a.eval) ds:=by
  refine⟨by rw[h3]; simp,λj v d R F=>?_⟩
  simp only[Array.getElem?_map] at R
  obtain⟨x,B,rfl⟩:=Qf R
  exact h4 j _ (σ.ev x) d (Wc C x) (by simp[B]) F
 have s:(execOp a.eval o).run P w=(callFunc f (args.map a.eval)).run P w:=by
  simp[execOp,X,resolve,A,Deferred.ofValue,invoke]
 unfold wpOp
 rw[V]
 have hw:Region.wanted o (yielded ops a.tmps)=true:=by unfold Region.wanted; rw[W]
 dsimp only
 rw[hw]
 refine .inl ?_
 unfold Oper.wp
 rw[s,Zpn O.1,Oper.upon_enter]
 refine(O.2 w G' _ q.fresh q.glob r).mono λe w' he=>?_
 obtain⟨v,G2,u,rfl,b1,H,b3,b4,b5⟩:=he
 have g:=q.quiet b1
 have I:∀ k,G' k≤G2 k:=λk=>by
  rcases Nat.lt_or_ge k w.heap.size with J|J
  ·rw[H k J]; exact Nat.le_refl _
  ·rw[q.fresh k J]; exact Nat.zero_le _
 have l:∀ b o,o<G' b→w'.cell? ⟨b,o,none⟩=w'.cell? ⟨b,o,none⟩:=λ_ _ _=>rfl
 have L:Zk Γ σ a w' G2 β:=by
  refine⟨g.defers,g.size,λt=>(g.tmps t).mono l I (λ_ _ h=>h) (.refl w'),λb blk T=>?_,g.dom,g.inj,g.kept,λc U B=>?_,b3,g.big,g.glob.mono l I⟩
  ·rcases g.heap b blk T with y|⟨c,y,hB⟩
   ·exact .inl y
   ·rcases q.heap b blk T with ⟨m,-⟩|⟨c',m,M⟩
    ·rw[m] at y; cases y
    ·have N:=M.lt
     rw[m] at y; cases y
     exact .inr ⟨_,m,hB.mono l I (H _ N) (λ_ _ h=>h) (.refl w') rfl⟩
  ·rw[H c (Nat.lt_of_lt_of_le U q.big)]; exact q.marks c U B
 have:=L.put (dst:=some t) (λt' h'=>by cases h'; exact Y) (b4.mono (λ_ _ _=>rfl) (λ_=>Nat.le_refl _) (λb x B=>by cases B) (.refl w'))
 rw[z]
 exact Z v w' G2 u this b5
theorem Zm5 {x:Code} {Q:Exit→S→Prop} (c:DWP P (Γ.sub w G β) x Q σ) (b:Zk Γ σ a w G β) {post:Exit→Act→World→Prop}
  (h:∀ e σ' a' w' G' β',Q e σ'→Zk Γ σ' a' w' G' β'→Zk (Γ.sub w G β) σ' a' w' G' β'→post e a' w'):x.wp P post a w:=
 wp_mono (c a w G β b.sub) λe a' w' ⟨σ',G',β',k1,k2⟩=>h e σ' a' w' G' β' k2 (b.lift k1) k1
theorem seqS {x y:Code} {Q:Exit→S→Prop} (f:DWP P (Γ.sub w G β) x Q σ) (g:Zk Γ σ a w G β) {post:Exit→Act→World→Prop}
  (h:∀ σ' a' w' G' β',Q .normal σ'→Zk Γ σ' a' w' G' β'→Zk (Γ.sub w G β) σ' a' w' G' β'→y.wp P post a' w')
  (he:∀ e σ' a' w' G' β',e≠ .normal→Q e σ'→Zk Γ σ' a' w' G' β'→Zk (Γ.sub w G β) σ' a' w' G' β'→post e a' w'):(Code.seq x y).wp P post a w:=by
 refine wp_seq (Zm5 f g λe σ' a' w' G' β' b c d=>?_)
 cases e with
 | normal=>exact h σ' a' w' G' β' b c d
 | _=>exact he _ σ' a' w' G' β' (by simp) b c d
theorem DWP.noX {c:Code} {Q:Exit→S→Prop} (f:∀ b,σ.heap b=none) (h:∀ Γ:Ctx,(∀ c,¬ Γ.X c)→DWP P Γ c Q σ):DWP P Γ c Q σ:=λa w G β d=>
 wp_mono (h (Γ.sub w G β) (λc ⟨b,s,g⟩=>by obtain⟨k,e⟩:=d.dom b _ g; rw[f] at e; cases e) a w G β d.sub) λ_ _ _ ⟨σ',G',β',k1,k2⟩=>⟨σ',G',β',d.lift k1,k2⟩
def RdW {T R:Type} (I:T→Act→World→Prop) (J:R→Exit→Act→World→Prop):Ctl T R→Exit→Act→World→Prop
 | .next b,e,a,w=>e=.normal∧I b a w
 | .done r,e,a,w=>e≠ .normal∧J r e a w
theorem loopS {T R:Type} {c:Code} {f:T→Option (Ctl T R)} {I:T→Act→World→Prop} {J:R→Exit→Act→World→Prop} {post:Exit→Act→World→Prop}
  (round:∀ t x,f t=some x→∀ a w,I t a w→c.wp P (RdW I J x) a w)
  {n:Nat} {t:T} {r:R} (h:Z8 f n t=some r) (i:∀ e a w,J r e a w→post e a w) {a:Act} {w:World} (j:I t a w):(Code.loop c).wp P post a w:=by
 refine Zm3 (λn a w=>∃ t,Z8 f n t=some r∧I t a w) ?_ n a w ⟨t,h,j⟩
 rintro n a w ⟨t,h,k⟩
 cases n with
 | zero=>cases h
 | succ m=>
  refine⟨m,rfl,?_⟩
  unfold Z8 at h
  cases b:f t with
  | none=>rw[b] at h; cases h
  | some x=>
   rw[b] at h
   refine wp_mono (round t x b a w k) λe a' w' g=>?_
   cases x with
   | next l=>
    obtain⟨rfl,o⟩:=g
    exact⟨l,h,o⟩
   | done q=>
    cases h
    obtain⟨d,p⟩:=g
    cases e with
    | normal=>exact absurd rfl d
    | _=>exact i _ _ _ p
theorem prS0 {ops:Array Oper} {told:List (Nat×X8)} {gs:List (Nat×Bool)} {b c:List Nat} {p:Prop} (d:Zk Γ σ a w G β) (h:Z0u P ops told gs b σ=some (σ',p)) (hp:p) {Q:Exit→Act→World→Prop}
  (f:∀ a' w' G' β',Zk Γ σ' a' w' G' β'→Zk (Γ.sub w G β) σ' a' w' G' β'→wpOps P ops Q c a' w'):wpOps P ops Q (b++c) a w:=
 Zmf b d.sub h hp λa' w' G' β' e=>f a' w' G' β' (d.lift e) e
namespace W
def iaN (b m:Nat) {i:Int} {j:Nat} (h:X7 i m=some j):GT:=
 GT.of { ans:= .val (.lptr b j 0) } (p:=0≤i∧i<((m:Nat):Int)∧((0:Nat):Int)+i=j) (K7 h rfl)
def lnN (m:Nat):GT:=GT.of { ans:= .val (.int .i64 m) } (p:=(m:Int)=(m:Int)) rfl
def PQ (b:Exit) (x:SL):Exit→S→Prop:=λe σ=>e=b∧Sub σ x.s
theorem pg {c:Exit} {ev:Ev} {x:SL} (cv:List Ub:=[]) (ps:List (Nat×Nat):=x.ps) (b:(Ue cv x.ts ps σ,σ.n,et ev)=(some (x.l,x.bl),x.n,some c):=by kernel_rfl):E P Γ (PQ c x) σ ev:=by
 have d:=congrArg Prod.fst b
 have e:=congrArg (λx=>x.2.1) b
 have f:=congrArg (λx=>x.2.2) b
 dsimp only at d e f
 have hs:Sub σ x.s:=K0 (cv:=cv) (ps:=ps) (by rw[d,e])
 cases ev <;> cases f <;> exact⟨⟨rfl,hs⟩⟩
theorem K2 {x y:Code} {z:SL} (g:∀ {Γ:Ctx},A P Γ x [] (PQ .normal z) σ) (d:Zk Γ σ a w G β) {post:Exit→Act→World→Prop}
  (h:∀ a' w' G' β',Zk Γ z.s a' w' G' β'→Zk (Γ.sub w G β) z.s a' w' G' β'→y.wp P post a' w'):(Code.seq x y).wp P post a w:=
 seqS (Q:=PQ .normal z) g.h d (λσ' a' w' G' β' b _ i=>by
  obtain⟨G2,β2,f⟩:=b.2 _ _ _ _ _ i
  exact h a' w' G2 β2 (d.lift f) f) λe σ' a' w' G' β' c b _ _=>absurd b.1 c
theorem seqE {x y:Code} {z:SL} {c:Exit} (d:c≠ .normal) (j:∀ {Γ:Ctx},A P Γ x [] (PQ c z) σ) (f:Zk Γ σ a w G β) {post:Exit→Act→World→Prop}
  (h:∀ a' w' G' β',Zk Γ z.s a' w' G' β'→Zk (Γ.sub w G β) z.s a' w' G' β'→post c a' w'):(Code.seq x y).wp P post a w:=
 seqS (Q:=PQ c z) j.h f (λσ' a' w' G' β' b _ g=>absurd b.1.symm d) λe σ' a' w' G' β' _ b _ g=>by
  obtain⟨rfl,b⟩:=b
  obtain⟨G2,β2,i⟩:=b _ _ _ _ _ g
  exact h a' w' G2 β2 (f.lift i) i
theorem pieceC {x:Code} {z:SL} {b:Exit} (g:∀ {Γ:Ctx},A P Γ x [] (PQ b z) σ) (d:Zk Γ σ a w G β) {post:Exit→Act→World→Prop}
  (h:∀ a' w' G' β',Zk Γ z.s a' w' G' β'→Zk (Γ.sub w G β) z.s a' w' G' β'→post b a' w'):x.wp P post a w:=
 Zm5 (Q:=PQ b z) g.h d λe σ' a' w' G' β' c _ i=>by
  obtain⟨rfl,c⟩:=c
  obtain⟨G2,β2,f⟩:=c _ _ _ _ _ i
  exact h a' w' G2 β2 (d.lift f) f
theorem prS {ops:Array Oper} {l:List Nat} (c:Zk Γ σ a w G β) (m:Nat) (rs:List (Nat×GT)) {z:SL} (cv:List Ub:=[]) (ps:List (Nat×Nat):=z.ps) {Q:Exit→Act→World→Prop}
  (h:∀ a' w' G' β',Zk Γ z.s a' w' G' β'→Zk (Γ.sub w G β) z.s a' w' G' β'→wpOps P ops Q (l.drop m) a' w')
  (b:((Z2e P ops rs (l.take m) σ).q,Ue cv z.ts ps (Z2e P ops rs (l.take m) σ).s,(Z2e P ops rs (l.take m) σ).s.n)=(some (Z3e rs []),some (z.l,z.bl),z.n):=by kernel_rfl):wpOps P ops Q l a w:=by
 have k1:=congrArg Prod.fst b
 have k2:=congrArg (λx=>x.2.1) b
 have k3:=congrArg (λx=>x.2.2) b
 dsimp only at k1 k2 k3
 unfold Z2e at k1 k2 k3
 split at k1
 ·rename_i σ1 q d
  rw[d] at k2 k3
  obtain⟨p,e,hp⟩:=Zai _ d (by cases k1; exact Z98 rs trivial)
  have hs:Sub σ1 z.s:=K0 (cv:=cv) (ps:=ps) (by rw[show Ue cv z.ts ps σ1=_ from k2,show σ1.n=_ from k3])
  rw[← List.take_append_drop m l]
  exact prS0 c e hp λa' w' G' β' _ g=>by
   obtain⟨G2,β2,f⟩:=hs _ _ _ _ _ g
   exact h a' w' G2 β2 (c.lift f) f
 ·cases k1
theorem rtT {fn:Func} {ev:Ev} {cs:List D} {Q:List D→S→Prop} (c:Q cs σ) (d:(fin ev,Z1m P σ fn.results.toList)=(true,some ([.agg cs],tN fn.results.size)):=by kernel_rfl):E P Γ (EndsT P fn Q) σ ev:=by
 have e:=congrArg Prod.fst d
 have b:=congrArg Prod.snd d
 dsimp only at e b
 cases ev <;> first|cases e|skip
 ·exact⟨⟨.inl rfl,_,_,b,tNi _,c⟩⟩
 ·exact⟨⟨.inr rfl,_,_,b,tNi _,c⟩⟩
end W
end Go.Den
namespace Go.Proofs
open Tryz
open Go.Den Go.Den.W
def Z1u (x:Zg):List D:=[dI x.f_Op,dI x.f_A,dI x.f_B,dI x.f_To,.sl false (x.Yg.map Z5)]
def Z17 (x:Zg):List D:=[.str x.Yv.Zy,.str x.Yv.Zo,.str x.Yv.Xh,.str x.f_S]
abbrev EndT (r:Zg):Exit→S→Prop:=EndsT prog f239 (Ztb (Z1u r) (Z17 r) r.Zs)
theorem rtN {Γ:Ctx} {σ:S} {ev:Ev} {x r:Zg} (h:some x=some r) (a:x.Yg=[]) (c:x.Zs=[])
  (d:(fin ev,Z1m prog σ f239.results.toList)=(true,some ([.agg [dI x.f_Op,dI x.f_A,dI x.f_B,dI x.f_To,.sl true [],.sl true [],.str x.Yv.Zy,.str x.Yv.Zo,.str x.Yv.Xh,.str x.f_S]],tN f239.results.size)):=by kernel_rfl):E prog Γ (EndT r) σ ev:=by
 cases h
 refine rtT ⟨[dI x.f_Op,dI x.f_A,dI x.f_B,dI x.f_To,.sl true []],.sl true [],Z17 x,[],True∧(True∧(True∧(True∧(True∧(True∧(True∧(True∧(True∧True)))))))),rfl,rfl,?_,?_,.inl ⟨rfl,c⟩,λb n h=>(by cases h)⟩ d
 ·unfold Z1u; rw[a]; rfl
 ·exact⟨trivial,trivial,trivial,trivial,trivial,trivial,trivial,trivial,trivial,trivial⟩
theorem t164 {B : List UInt8} {C a:Int} {r:Zg} (h:Zd3 B C a=some r):TakeS prog 239 [.str B,dI C,dI a] (Z1u r) (Z17 r) r.Zs:=by
 refine Y32 (fn:=f239) (c:=Ut f239) (by kernel_rfl) (by kernel_rfl) (by kernel_rfl) (Nat.le_of_ble_eq_true (by kernel_rfl)) λΓ=>A.h (K:=[]) ?_
 exact bd h λv0 D h=>go [] [rg 2 [(1,k (w185 D))]]<|br h (λE h=>bd h λv1 F h=>bd h λv2 G h=>go [] [rg 4 [(2,n F),(3,k (w249 G))]]<|rtN h rfl rfl) λE h=>
 go [] [] <| br h (λH h=>bd h λv3 I h=>bd h λv4 J h=>go [] [rg 6 [(2,n I),(3,k (Mk J))]]<|rtN h rfl rfl) λH h=>
  go [] [] <| br h (λL h=>bd h λv5 M h=>bd h λv6 N h=>go [] [rg 8 [(2,n M),(3,k (Mk N))]]<|rtN h rfl rfl) λL h=>
   go [] []<|br h (λO h=>bd h λv7 P h=>bd h λv8 Q h=>go [] [rg 10 [(2,n P),(3,k (Mk Q))]]<|rtN h rfl rfl) λO h=>
    go [] []<|br h (λR h=>bd h λv9 S h=>bd h λT i h=>bd h λU j h=>bd h λV l h=>go [] [rg 12 [(2,n S),(3,k (Mk i))],rg 13 [(2,n j),(3,k (w249 l))]]<|rtN h rfl rfl) λR h=>
     go [] []<|br h (λW h=>bd h λX m h=>bd h λf o h=>bd h λY p h=>bd h λg q h=>bd h λZ s h=>bd h λv18 t h=>go [] [rg 15 [(2,n m),(3,k (Mk o))],rg 16 [(2,n p),(3,k (w249 q))],rg 17 [(2,n s),(3,k (Mk t))]]<|bd h λq0 u h=>lp (cv:=[.blk 7 5 1007 1]) u (wl239x1 f g a)<|qe<|goN [] []<|by
       cases h
       exact rtT ⟨[dI a,dI g,dI 0,dI f,.sl true []],.lsl 1007 0 ((q0.map Z5).length),[.str [],.str [],.str [],.str []],[],True∧(True∧(True∧(True∧(True∧(True∧(True∧(True∧(True∧True)))))))),rfl,rfl,rfl,⟨trivial,trivial,trivial,trivial,trivial,trivial,trivial,trivial,trivial,trivial⟩,.inr ⟨1007,rfl,by kernel_rfl⟩,λb n h=>by simp⟩) λW h=>
      go [] []<|br h (λh9 h=>bd h λv33 v h=>bd h λd w h=>bd h λv35 x h=>bd h λv36 y h=>go [] [rg 23 [(2,n v),(3,k (Mk w))],rg 24 [(2,n x),(3,k (Mk y))]]<|bd h λe z h=>lp (cv:=[.blk 7 4 1007 1,.blk 7 5 2007 1]) z (wl239x2 d a)<|qe<|goN [] []<|by
       cases h
       exact rtT ⟨[dI a,dI 0,dI 0,dI d,.lsl 1007 0 ((e.1.map Z5).length)],.lsl 2007 0 ((e.2.map Z5).length),[.str [],.str [],.str [],.str []],[1007],True∧(True∧(True∧(True∧((0+(e.1.map Z5).length≤(e.1.map Z5).length)∧(True∧(True∧(True∧(True∧True)))))))),rfl,rfl,
        (Eq.trans (b:=some ([dI a,dI 0,dI 0,dI d,rw_ e.1,.str [],.str [],.str [],.str []],[1007],True∧(True∧(True∧(True∧((0+(e.1.map Z5).length≤(e.1.map Z5).length)∧(True∧(True∧(True∧(True∧True)))))))))) (by kernel_rfl) (by unfold Z1u Z17; simp only[rwE]; rfl)),⟨trivial,trivial,trivial,trivial,by omega,trivial,trivial,trivial,trivial,trivial⟩,.inr ⟨2007,rfl,by kernel_rfl⟩,λb n h=>by cases h; simp⟩) λh9 h=>
       go [] []<|rtN h rfl rfl
end Go.Proofs
namespace Go.Proofs
open Tryz
open Go.Den Go.Den.W
def Z0m (b:(List Zg)×Int):D:= .tup [.sl false (b.1.map Y4),.int .i64 b.2]
def Z6o (x0:List UInt8) (t0:Int×(List Zg)×(List Int)):Option (Ctl (Int×(List Zg)×(List Int)) (((List Zg)×(List Int))⊕((List Zg)×Int))):=
 if (decide (t0.1<(x0.length:Int)))=true then
  ((Vx x0 t0.1).bind λv14=>
  (some (IntKind.wrap .i64 v14)).bind λv15=>
  if (decide (v15≥81))=true then
   (some (.done (.inr (([]:List Zg),15)))) else
  ((Z71 x0 t0.1 v15).bind λv16=>
   if (decide (v16<0))=true then
    (some (.done (.inr (([]:List Zg),3)))) else
   ((Zd3 x0 t0.1 v15).bind λb=>
    (Yp 144 (t0.2.1++[b]).length).bind λc=>
    (Yp 8 (t0.2.2++[t0.1]).length).bind λd=>
    (some (IntKind.wrap .i64 (t0.1+v16))).bind λv20=>
    some (.next (v20,(t0.2.1++[b]),(t0.2.2++[t0.1])))))) else
 (some (.done (.inl ((t0.2.1,t0.2.2)))))
abbrev YI:=Zg×D
def Vh (y:YI):List D:=Z1u y.1++y.2::Z17 y.1
instance rowYI:Row YI:=⟨Vh,10,λ_=>rfl⟩
def Mem (Γ:Ctx) (w:World) (G:Nat→Nat) (β:Nat→Option (Nat×Nat)) (y:YI):Option Nat→Prop
 | none=>∃ x,y.2=.raw (.slice x 0 0)∧y.1.Zs=[]
 | some c=>∃ cap,y.2=.raw (.slice (some ⟨c,0,none⟩) y.1.Zs.length cap)∧y.1.Zs.length≤cap∧J7 w c y.1.Zs cap∧G c=0∧Γ.B≤c∧∀ b s,β b≠some (c,s)
structure Fam (Γ:Ctx) (w:World) (G:Nat→Nat) (β:Nat→Option (Nat×Nat)) (ys:List YI) (loc:Nat→Option Nat):Prop where
 mem:∀ (k:Nat) y,ys[k]?=some y→Mem Γ w G β y (loc k)
 inj:∀ j k c,loc j=some c→loc k=some c→j<ys.length→k<ys.length→j=k
variable {Γ:Ctx} {σ σ':S} {a a':Act} {w w':World} {G G':Nat→Nat} {β β':Nat→Option (Nat×Nat)}
theorem J7.lt {c:Nat} {l:List Int} {cap:Nat} (h:J7 w c l cap):c<w.heap.size:=by
 obtain⟨vs,e,fr,b,-⟩:=h
 exact(Array.getElem?_eq_some_iff.1 b).1
theorem Mem.frame {y:YI} {o:Option Nat} (h:Mem Γ w G β y o) (d:Zk (Γ.sub w G β) σ' a' w' G' β'):Mem Γ w' G' β' y o:=by
 cases o with
 | none=>exact h
 | some c=>
  obtain⟨cap,e,f,b,g,i,j⟩:=h
  obtain⟨k1,k2,k3⟩:=d.frame (J7.lt b) j
  exact⟨cap,e,f,b.same k1,k2.trans g,i,k3⟩
theorem Fam.frame {ys:List YI} {loc:Nat→Option Nat} (h:Fam Γ w G β ys loc) (b:Zk (Γ.sub w G β) σ' a' w' G' β'):Fam Γ w' G' β' ys loc:=
 ⟨λk y c=>(h.mem k y c).frame b,h.inj⟩
theorem Fam.none:Fam Γ w G β [] (λ_=>none):=⟨λk y h=>(by simp at h),λj k c h=>(by cases h)⟩
theorem Fam.snoc1 {ys:List YI} {loc:Nat→Option Nat} (h:Fam Γ w G β ys loc) {y:YI} {o:Option Nat} (g:Mem Γ w G β y o) (f:∀ k c,o=some c→k<ys.length→loc k≠some c):
  Fam Γ w G β (ys++[y]) (λk=>if k=ys.length then o else loc k):=by
 refine⟨λk z b=>?_,λj k c e b d i=>?_⟩
 ·rcases Nat.lt_trichotomy k ys.length with d|d|d
  ·rw[List.getElem?_append_left d] at b
   rw[if_neg (by omega)]
   exact h.mem k z b
  ·subst d
   rw[List.getElem?_append_right (Nat.le_refl _),Nat.sub_self] at b
   cases b
   rw[if_pos rfl]
   exact g
  ·rw[List.getElem?_eq_none (by simp; omega)] at b
   cases b
 ·simp only[List.length_append,List.length_cons,List.length_nil] at d i
  split at e
  ·split at b
   ·omega
   ·exact absurd b (f k c e (by omega))
  ·split at b
   ·exact absurd e (f j c b (by omega))
   ·exact h.inj j k c e b (by omega) (by omega)
theorem Fam.snoc {ys:List YI} {loc:Nat→Option Nat} (h:Fam Γ w G β ys loc) (g:Zk Γ σ a w G β) (n:Zk (Γ.sub w G β) σ' a' w' G' β) {x:Zg} {u:Value} (i:Z0p w' G' w.heap.size u x.Zs):
  ∃ loc',Fam Γ w' G' β (ys++[(x,.raw u)]) loc':=by
 have j:=h.frame n
 generalize e:x.Zs=l at i
 cases i with
 | nil z=>exact⟨_,j.snoc1 (o:=Option.none) ⟨z,rfl,e⟩ (λk c f=>by cases f)⟩
 | blk c cap _ d p q hB=>
  refine⟨_,j.snoc1 (o:=some c) ⟨cap,?_,?_,?_,q,Nat.le_trans g.big hB,λb s r=>?_⟩ λk c' f t v=>?_⟩
  ·show D.raw _=_
   rw[← e]
  ·show x.Zs.length≤cap
   rw[e]; exact d
  ·show J7 w' c x.Zs cap
   rw[e]; exact p
  ·have:=(g.owned r).2
   omega
  ·cases f
   obtain⟨y,A⟩:∃ y,ys[k]?=some y:=⟨_,List.getElem?_eq_getElem t⟩
   have m:=h.mem k y A
   rw[v] at m
   obtain⟨cap',-,-,B,-⟩:=m
   have:=J7.lt B
   omega
theorem rE {P:Program} {fn:Func} {R:Type} {res:R→D} {y:R} {ev:Ev} (b:(et ev,Mq P fn σ)=(some .ret,some (res y,tN fn.results.size∧pR (res y))):=by kernel_rfl):E P Γ (λe σ=>e=.ret∧Go.Den.Ends P fn (res y) .ret σ) σ ev:=by
 have c:=congrArg Prod.fst b
 have d:=congrArg Prod.snd b
 dsimp only at c d
 cases ev <;> cases c
 exact⟨⟨rfl,.inl rfl,_,d,tNi _,pRi _⟩⟩
def bI (ys:List YI):Nat×Blk:=(4,{ sz:=10,rows:=ys.map Vh,frz:=0,pure:=true })
def bP (ps:List Int):Nat×Blk:=(5,{ sz:=1,rows:=ps.map Z5,frz:=0,pure:=true })
def tI (ys:List YI):Nat×D:=(4,.lsl 4 0 (ys.map Vh).length)
def tP (ps:List Int):Nat×D:=(5,.lsl 5 0 (ps.map Z5).length)
def sY1 (x0:List UInt8) (at_:Int) (ys:List YI) (ps:List Int):SL:=⟨130,[(0,.str x0),tI ys,tP ps,(6,dI at_)],[bI ys,bP ps]⟩
def sY1b (x0:List UInt8) (at_ v15:Int) (ys:List YI) (ps:List Int):SL:=⟨130,[(0,.str x0),tI ys,tP ps,(6,dI at_),(7,dI v15)],[bI ys,bP ps]⟩
def sY1d (x0:List UInt8) (at_ v15 v16:Int) (ys:List YI) (ps:List Int):SL:=⟨130,[(0,.str x0),tI ys,tP ps,(6,dI at_),(7,dI v15),(8,dI v16)],[bI ys,bP ps]⟩
def sY1e (x0:List UInt8) (at_ v15 v16:Int) (ys:List YI) (ps:List Int):SL:=⟨130,[(0,.str x0),tI ys,tP ps,(6,dI at_),(7,dI v15),(8,dI v16),(32,.lsl 4 0 (ys.map Vh).length),(33,.str x0),(34,dI at_),(35,dI v15)],[bI ys,bP ps]⟩
def sJ1 (ys:List YI) (ps:List Int):SL:=⟨130,[tI ys,tP ps],[bI ys,bP ps]⟩
def c1A (f:Func):Code:=J5 (lpC f 175)
def c1 (f:Func):Code:=J5 (V5 (lpC f 175))
def c1B (f:Func):Code:=J5 (c1 f)
def c1C (f:Func):Code:=J5 (V5 (c1 f))
def c1D (f:Func):Code:=J5 (V5 (V5 (c1 f)))
def c1E (f:Func):Code:=J5 (V5 (V5 (V5 (c1 f))))
def c1F (f:Func):Code:=J5 (V5 (V5 (V5 (V5 (c1 f)))))
def c1G (f:Func):Code:=V5 (V5 (V5 (V5 (V5 (c1 f)))))
theorem b1_eq:lpC f228 175=.seq (c1A f228) (.block 1 (.seq (c1B f228) (.seq (c1C f228) (.seq (c1D f228) (.seq (c1E f228) (.seq (c1F f228) (c1G f228))))))):=by kernel_rfl
theorem c1F_eq:(c1F f228)=.region 13 (Z0h (c1F f228)) false:=by kernel_rfl
def Ret (y:(List Zg)×Int):Exit→S→Prop:=λe σ=>e=.ret∧Go.Den.Ends prog f228 (Z0m y) .ret σ
section
variable {x0:List UInt8} {at_ v14 v15 v16 v20:Int} {ys:List YI} {ps:List Int}
theorem p1A1 (h:decide (at_<(x0.length:Int))=true):A prog Γ (c1A f228) [] (PQ .normal (sY1 x0 at_ ys ps)) (sY1 x0 at_ ys ps).s:=go [] []<|bT h<|go [] []<|pg
theorem p1A0 (h:decide (at_<(x0.length:Int))=false):A prog Γ (c1A f228) [] (PQ (.exit 0) (sJ1 ys ps)) (sY1 x0 at_ ys ps).s:=go [] []<|bF h<|go [] []<|pg
theorem p1B (h:Vx x0 at_=some v14) (b:some (IntKind.wrap .i64 v14)=some v15):A prog Γ (c1B f228) [] (PQ .normal (sY1b x0 at_ v15 ys ps)) (sY1 x0 at_ ys ps).s:=go [] [rg 7 [(2,ib h),(3,n b)]]<|pg
theorem p1C1 (h:decide (v15≥81)=true):A prog Γ (c1C f228) [] (Ret ([],15)) (sY1b x0 at_ v15 ys ps).s:=go [] []<|bT h<|go [] []<|rE
theorem p1C0 (h:decide (v15≥81)=false):A prog Γ (c1C f228) [] (PQ .normal (sY1b x0 at_ v15 ys ps)) (sY1b x0 at_ v15 ys ps).s:=go [] []<|bF h<|go [] []<|pg
theorem p1D (h:Z71 x0 at_ v15=some v16):A prog Γ (c1D f228) [] (PQ .normal (sY1d x0 at_ v15 v16 ys ps)) (sY1b x0 at_ v15 ys ps).s:=go [] [rg 10 [(3,k (w238 h))]]<|pg
theorem p1E1 (h:decide (v16<0)=true):A prog Γ (c1E f228) [] (Ret ([],3)) (sY1d x0 at_ v15 v16 ys ps).s:=go [] []<|bT h<|go [] []<|rE
theorem p1E0 (h:decide (v16<0)=false):A prog Γ (c1E f228) [] (PQ .normal (sY1d x0 at_ v15 v16 ys ps)) (sY1d x0 at_ v15 v16 ys ps).s:=go [] []<|bF h<|go [] []<|pg
theorem p1G {u:Unit} (h:Yp 8 (ps++[at_]).length=some u) (b:some (IntKind.wrap .i64 (at_+v16))=some v20):A prog Γ (c1G f228) [] (PQ .normal (sY1 x0 v20 ys (ps++[at_]))) (sY1d x0 at_ v15 v16 ys ps).s:=
 go [] [rg 14 [(2,br0 1 0),(3,ap h)],rg 15 [(2,n b)]]<|pg
end
def o13 (f:Func):Option Oper:=(Z0h (c1F f))[4]?
theorem Zw6:(o13 f228).isSome=true:=by kernel_rfl
def o13g (f:Func) (h:(o13 f).isSome=true):Oper:=(o13 f).get h
theorem o13_eq:(Z0h (c1F f228))[4]?=some (o13g f228 Zw6):=(Option.some_get Zw6).symm
def I1 (Γ:Ctx) (x0:List UInt8) (t:Int×(List Zg)×(List Int)) (a:Act) (w:World):Prop:=
 ∃ ys G β loc,ys.map Prod.fst=t.2.1∧Zk Γ (sY1 x0 t.1 ys t.2.2).s a w G β∧Fam Γ w G β ys loc
def J1 (Γ:Ctx) (r:((List Zg)×(List Int))⊕((List Zg)×Int)) (e:Exit) (a:Act) (w:World):Prop:=match r with
 | .inl q=>e=.exit 0∧∃ ys G β loc,ys.map Prod.fst=q.1∧Zk Γ (sJ1 ys q.2).s a w G β∧Fam Γ w G β ys loc
 | .inr y=>∃ σ G β,Zk Γ σ a w G β∧Ret y e σ
theorem Zd7 {x y:Code} {z:(List Zg)×Int} (c:∀ {Γ:Ctx},A prog Γ x [] (Ret z) σ) (d:Zk Γ σ a w G β) {post:Exit→Act→World→Prop}
  (h:∀ a' w',J1 Γ (.inr z) .ret a' w'→post .ret a' w'):(Code.seq x y).wp prog post a w:=
 seqS (Q:=Ret z) c.h d (λσ' a' w' G' β' b _ _=>absurd b.1 (by simp)) λe σ' a' w' G' β' _ b f _=>by
  obtain⟨rfl,b⟩:=b
  exact h a' w' ⟨σ',G',β',f,rfl,b⟩
theorem round1 {x0:List UInt8} (t:Int×(List Zg)×(List Int)) (x) (h:Z6o x0 t=some x) (a:Act) (w:World) (hI:I1 Γ x0 t a w):
  (lpC f228 175).wp prog (RdW (I1 Γ x0) (J1 Γ) x) a w:=by
 obtain⟨ys,G,β,loc,e,m,hF⟩:=hI
 obtain⟨at_,l,ps⟩:=t
 dsimp only at e m
 subst e
 rw[b1_eq]
 unfold Z6o at h
 dsimp only at h
 refine sp h (λn h=>?_) λn h=>?_
 rotate_left
 ·cases h
  exact seqE (by simp) (p1A0 n) m λa1 w1 G1 β1 b c=>⟨by simp,rfl,ys,G1,β1,loc,rfl,b,hF.frame c⟩
 refine bd h λv14 o h=>bd h λv15 q h=>?_
 refine K2 (p1A1 n) m λa1 w1 G1 β1 b c=>wp_block ?_
 have r:=hF.frame c
 refine K2 (p1B o q) b λa2 w2 G2 β2 g s=>?_
 have y:=r.frame s
 refine sp h (λA h=>?_) λA h=>?_
 ·cases h
  exact Zd7 (p1C1 A) g λa' w' B=>⟨by simp,B⟩
 refine bd h λv16 C h=>?_
 refine K2 (p1C0 A) g λa3 w3 G3 β3 D E=>?_
 have F:=y.frame E
 refine K2 (p1D C) D λa4 w4 G4 β4 i H=>?_
 have I:=F.frame H
 refine sp h (λJ h=>?_) λJ h=>?_
 ·cases h
  exact Zd7 (p1E1 J) i λa' w' B=>⟨by simp,B⟩
 refine bd h λj K h=>bd h λL M h=>bd h λv19 N h=>bd h λv20 O h=>?_
 refine K2 (p1E0 J) i λa5 w5 G5 β5 P Q=>?_
 have R:=I.frame Q
 cases h
 rw[c1F_eq]
 refine wp_seq (wp_region ?_)
 refine prS (l:=List.range (Z0h (c1F f228)).size) P 4 [] (z:=sY1e x0 at_ v15 v16 ys ps) (h:=λa6 w6 G6 β6 d T=>?_)
 have U:=R.frame T
 rw[show (List.range (Z0h (c1F f228)).size).drop 4=[4,5,6,7] by kernel_rfl,wpOps_cons]
 refine Y6e (d.sub) o13_eq (by kernel_rfl) (fo:= .func 239) (args:=#[.tmp 33,.tmp 34,.tmp 35]) (ts:=#[9,3,3]) (by kernel_rfl) (f:=239) (by kernel_rfl) (ds:=[.str x0,dI at_,dI v15]) (p:=True∧(True∧(True∧True))) (by kernel_rfl) ⟨trivial,trivial,trivial,trivial⟩
  (t:=36) (by kernel_rfl) (Nat.le_of_ble_eq_true (by kernel_rfl)) (t164 K) λv w7 G7 u k V=>?_
 obtain⟨loc7,W⟩:=U.snoc d k V
 have X:=d.lift k
 have hg:Yp 144 (ys++[((j,.raw u):YI)]).length=some L:=by rw[← M]; congr 1; simp
 refine prS X 3 [(5,br0 1 10),(6,ap hg)] (z:=sY1d x0 at_ v15 v16 (ys++[(j,.raw u)]) ps) (h:=λa8 w8 G8 β8 Y Z=>?_)
 have hF8:=W.frame Z
 show Exit.then _ _ .normal _ _
 refine pieceC (p1G N O) Y λa9 w9 G9 β9 hC9 hS9=>⟨rfl,_,G9,β9,loc7,?_,hC9,hF8.frame hS9⟩
 simp
end Go.Proofs
namespace Go.Proofs
open Tryz
open Go.Den Go.Den.W
variable {Γ:Ctx} {σ σ':S} {a a':Act} {w w':World} {G G':Nat→Nat} {β β':Nat→Option (Nat×Nat)}
def Z18 (ps:List Int) (n:Nat) (t:Int×List Int):Option (Ctl (Int×List Int) (List Int⊕((List Zg)×Int))):=
 if (decide (t.1<(n:Int)))=true then
  ((X7 t.1 n).bind λb=>
  (t.2[b]?).bind λd=>
  (Z3v ps d).bind λc=>
  ((t.2.set b c)[b]?).bind λe=>
  if (decide (e<0))=true then
   (some (.done (.inr (([]:List Zg),16)))) else
  ((some (IntKind.wrap .i64 (t.1+(1:Int)))).bind λf=>
   some (.next (f,t.2.set b c)))) else
 (some (.done (.inl t.2)))
def m2R (ps:List Int) (k:Int) (kk:Nat) (ys:List YI) (x:Zg) (n:Nat) (tos:List Int):Option (Ctl (Int×List YI×List Int) ((List Zg)×Int)):=
 (Z3w x.f_Op).bind λc=>
 if (!c)=true then
  ((some (IntKind.wrap .i64 (k+(1:Int)))).bind λd=>
  some (.next (d,ys,tos))) else
 ((Z3v ps x.f_To).bind λb=>
  if (decide (b<0))=true then
   (some (.done (([]:List Zg),16))) else
  ((Z8 (Z18 ps n) Zb (0,tos)).bind λq5=>
   match q5 with
   | .inl q4=>((some (IntKind.wrap .i64 (k+(1:Int)))).bind λe=>
    some (.next (e,ys.set kk ({ f_Op:=x.f_Op,f_A:=x.f_A,f_B:=x.f_B,f_To:=b,Yg:=x.Yg,Zs:=x.Zs,Yv:=x.Yv,f_S:=x.f_S },.lsl 777 0 n),q4)))
   | .inr f=>(some (.done f))))
def qs3:List (Nat×Nat):=[(4,4),(5,5),(777,777)]
def Ok3 (ys:List YI):Prop:=∀ y∈ys,y.2.renA qs3=y.2
theorem ren3 {ys:List YI} (h:Ok3 ys):(ys.map Vh).map (·.map (D.renA qs3))=ys.map Vh:=by
 rw[List.map_map]
 refine List.map_congr_left λy b=>?_
 have:=h y b
 show [_,_,_,_,_,y.2.renA qs3,_,_,_,_]=_
 rw[this]
 rfl
theorem Ok3.set {ys:List YI} (h:Ok3 ys) (k:Nat) (x:Zg) (n:Nat):Ok3 (ys.set k (x,.lsl 777 0 n)):=λy b=>by
 rcases List.mem_or_eq_of_mem_set b with c|rfl
 ·exact h y c
 ·rfl
def bY (rows:List (List D)):Nat×Blk:=(4,{ sz:=10,rows,frz:=0,pure:=false })
def bTo (tos:List Int):Nat×Blk:=(777,Je tos none)
def ren (rows:List (List D)):List (List D):=rows.map (·.map (D.renA qs3))
def sA (m:Nat) (ps:List Int) (k:Int) (rows:List (List D)) (tos:List Int):SL:=⟨130,[(4,.lsl 4 0 m),tP ps,(9,dI k)],[bY rows,bP ps,bTo tos]⟩
def sB (m:Nat) (ps:List Int) (k j:Int) (rows:List (List D)) (tos:List Int):SL:=⟨130,[(4,.lsl 4 0 m),tP ps,(9,dI k),(10,dI j)],[bY rows,bP ps,bTo tos]⟩
def stA (m:Nat) (ps:List Int):Int×List YI×List Int→SL:=λt=>sA m ps t.1 (t.2.1.map Vh) t.2.2
def stB (m:Nat) (ps:List Int) (k:Int) (ys:List YI):Int×List Int→SL:=λt=>sB m ps k t.1 (ys.map Vh) t.2
def JB (m:Nat) (ps:List Int) (k:Int) (ys:List YI):JT (List Int⊕((List Zg)×Int)):=
 ju (je 4 λtos:List Int=>sA m ps k (ys.map Vh) tos) (jr prog f228 Z0m)
theorem wl228x3 {m n kk:Nat} {ps:List Int} {k:Int} {ys:List YI} {x:Zg} (g:X7 k m=some kk) (i:ys[kk]?=some (x,.lsl 777 0 n)) (q:Ok3 ys) {t:Int×List Int} {r:Ctl (Int×List Int) (List Int⊕((List Zg)×Int))} {Γ:Ctx} (h:Z18 ps n t=some r):
  A prog Γ (lpC f228 386239) [] (Rd (stB m ps k ys) (JB m ps k ys) r) (stB m ps k ys t).s:=
 go [] [rg 26 [(3,iaN 4 m g),(5,lb i),(6,lnN n)]]<|br h (λu h=>bd h λd c h=>bd h λj e h=>bd h λb l h=>bd h λv o h=>
  go [] [rgq 28 [(2,iaN 4 m g),(4,lb i),(9,iaN 4 m g),(11,lb i),(13,iaN 777 n c),(14,lb e),(15,kB (a2 (rpI ps) (a2 trivial trivial)) [rw_ ps,dI j] (by simp only[rwE] <;> kernel_rfl) (w240 l)),(16,iaN 777 n c),(17,st e 0 [dI b] b)] [0,1,2,3,4,5,6,7,8,9,10,11,12,13,14,15,16,17] [17],
   rg 29 [(2,iaN 4 m g),(4,lb i),(6,iaN 777 n c),(7,lb o)]]<|br h (λz h=>go [] []<|dn h (i2 iR)) λz h=>
   bd h λf p h=>go [] [rg 27 [(1,W.n p)]]<|nxE (y:=sB m ps k f (ren (ys.map Vh)) (t.2.set d b)) h (congrArg (λr=>sB m ps k f r (t.2.set d b)) (ren3 q))) λu h=>
 go [] []<|dn h (i1 (iEE (y:=sA m ps k (ren (ys.map Vh)) t.2) (congrArg (λr=>sA m ps k r t.2) (ren3 q))))
def c2A (f:Func):Code:=J5 (lpC f 703)
def c2R (f:Func):Code:=V5 (lpC f 703)
theorem c2_eq:lpC f228 703=.seq (c2A f228) (c2R f228):=by kernel_rfl
theorem lpE {P:Program} {T R:Type} {Q:Exit→S→Prop} {ev:Ev} {c:Code} {f:T→Option (Ctl T R)} {st:T→SL} {J:JT R} {n:Nat} {t:T} {r:R} {y:SL} (b:Z8 f n t=some r)
  (hw:∀ {t x} {Γ:Ctx},f t=some x→A P Γ c [] (Rd st J x) (st t).s) (d:JQ P Γ (ek ev) Q J r) (he:y=st t)
  (e:(Ue [] y.ts y.ps σ,σ.n,ev)=(some (y.l,y.bl),y.n,.loop c (ek ev)):=by kernel_rfl):E P Γ Q σ ev:=by
 subst he
 exact lp b hw d [] _ e
theorem p2R {m n kk:Nat} {ps tos:List Int} {k:Int} {ys:List YI} {x:Zg} (c:X7 k m=some kk) (g:ys[kk]?=some (x,.lsl 777 0 n)) (B:Ok3 ys) {r:Ctl (Int×List YI×List Int) ((List Zg)×Int)} {Γ:Ctx} (h:m2R ps k kk ys x n tos=some r):
  A prog Γ (c2R f228) [] (Rd (stA m ps) (jr prog f228 Z0m) r) (stA m ps (k,ys,tos)).s:=
 bd h λC i h=>go [] [rg 21 [(2,iaN 4 m c),(4,lb g),(5,W.k (w194 i))]]<|br h (λj h=>bd h λd l h=>go [] [rg 20 [(1,W.n l)]]<|nxE (y:=sA m ps d (ren (ys.map Vh)) tos) h (congrArg (λr=>sA m ps d r tos) (ren3 B))) λj h=>
  bd h λb o h=>have q:kk<ys.length:=(List.getElem?_eq_some_iff.1 g).1
  have e:(ys.set kk ({ f_Op:=x.f_Op,f_A:=x.f_A,f_B:=x.f_B,f_To:=b,Yg:=x.Yg,Zs:=x.Zs,Yv:=x.Yv,f_S:=x.f_S },.lsl 777 0 n))[kk]?=some (({ f_Op:=x.f_Op,f_A:=x.f_A,f_B:=x.f_B,f_To:=b,Yg:=x.Yg,Zs:=x.Zs,Yv:=x.Yv,f_S:=x.f_S }:Zg),.lsl 777 0 n):=by simp[q]
  have t:Ok3 (ys.set kk ({ f_Op:=x.f_Op,f_A:=x.f_A,f_B:=x.f_B,f_To:=b,Yg:=x.Yg,Zs:=x.Zs,Yv:=x.Yv,f_S:=x.f_S },.lsl 777 0 n)):=B.set _ _ _
  go [] [rg 22 [(5,iaN 4 m c),(7,lb g),(8,kB (a2 (rpI ps) (a2 trivial trivial)) [rw_ ps,dI x.f_To] (by simp only[rwE] <;> kernel_rfl) (w240 o)),(9,iaN 4 m c),(11,st g 3 [dI b] ({ f_Op:=x.f_Op,f_A:=x.f_A,f_B:=x.f_B,f_To:=b,Yg:=x.Yg,Zs:=x.Zs,Yv:=x.Yv,f_S:=x.f_S },.lsl 777 0 n))],rg 23 [(2,iaN 4 m c),(4,lb e)]]<|br h (λu h=>go [] []<|dn h iR) λu h=>
   go [] []<|bd h λq5 v h=>lpE (st:=stB m ps k _) (y:=sB m ps k 0 (ren ((ys.set kk ({ f_Op:=x.f_Op,f_A:=x.f_A,f_B:=x.f_B,f_To:=b,Yg:=x.Yg,Zs:=x.Zs,Yv:=x.Yv,f_S:=x.f_S },.lsl 777 0 n)).map Vh)) tos) v (wl228x3 c e t) (he:=congrArg (λr=>sB m ps k 0 r tos) (ren3 t))<|match q5,h with
    | .inl q4,h=>j1<|(qe<|bd h λf z h=>goN [] [rg 20 [(1,W.n z)]]<|nxE (y:=sA m ps f (ren ((ys.set kk ({ f_Op:=x.f_Op,f_A:=x.f_A,f_B:=x.f_B,f_To:=b,Yg:=x.Yg,Zs:=x.Zs,Yv:=x.Yv,f_S:=x.f_S },.lsl 777 0 n)).map Vh)) q4) h (congrArg (λr=>sA m ps f r q4) (ren3 t)))
    | .inr D,h=>j2<|(ql h λ_ _ p=>iS p)
end Go.Proofs
namespace Go.Proofs
open Go.Den Go.Den.W
variable {Γ:Ctx} {σ σ':S} {a a':Act} {w w':World} {G G':Nat→Nat} {β β':Nat→Option (Nat×Nat)}
def sY2 (m:Nat) (ps:List Int) (k:Int) (ys:List YI):SL:=⟨130,[(4,.lsl 4 0 m),tP ps,(9,dI k)],[bI ys,bP ps]⟩
theorem S.ext' {σ σ':S} (b:σ.n=σ'.n) (c:∀ t,σ.tmps t=σ'.tmps t) (d:∀ t,σ.heap t=σ'.heap t):σ=σ':=by
 cases σ; cases σ'
 cases b
 cases (funext c:_=_)
 cases (funext d:_=_)
 rfl
def rawY (y:YI):Prop:=∃ u,y.2=.raw u
theorem Mem.raw {y:YI} {o:Option Nat} (h:Mem Γ w G β y o):rawY y:=by
 cases o with
 | none=>obtain⟨x,b,-⟩:=h; exact⟨_,b⟩
 | some c=>obtain⟨cap,b,-⟩:=h; exact⟨_,b⟩
theorem Y5y {y:YI} {j:Nat} {d:D} (h:(Vh y)[j]?=some d):(j=5∧d=y.2)∨(j≠5∧d.dat=true):=by
 match j,h with
 | 0,h=>cases h; exact .inr ⟨by decide,rfl⟩
 | 1,h=>cases h; exact .inr ⟨by decide,rfl⟩
 | 2,h=>cases h; exact .inr ⟨by decide,rfl⟩
 | 3,h=>cases h; exact .inr ⟨by decide,rfl⟩
 | 4,h=>cases h; exact .inr ⟨by decide,rfl⟩
 | 5,h=>cases h; exact .inl ⟨rfl,rfl⟩
 | 6,h=>cases h; exact .inr ⟨by decide,rfl⟩
 | 7,h=>cases h; exact .inr ⟨by decide,rfl⟩
 | 8,h=>cases h; exact .inr ⟨by decide,rfl⟩
 | 9,h=>cases h; exact .inr ⟨by decide,rfl⟩
 | j+10,h=>exact absurd h (by rw[List.getElem?_eq_none (by simp[Vh,Z1u,Z17])]; simp)
theorem Y2y {x:Zg} {l:List Int} {d e d1 g:D} {j:Nat} (f:j≠5) (b:(Vh (x,d))[j]?=some d1) (c:(Vh ({ f_Op:=x.f_Op,f_A:=x.f_A,f_B:=x.f_B,f_To:=x.f_To,Yg:=x.Yg,Zs:=l,Yv:=x.Yv,f_S:=x.f_S },e))[j]?=some g):d1=g:=by
 match j,b,c,f with
 | 0,b,c,_=>cases b; cases c; rfl
 | 1,b,c,_=>cases b; cases c; rfl
 | 2,b,c,_=>cases b; cases c; rfl
 | 3,b,c,_=>cases b; cases c; rfl
 | 4,b,c,_=>cases b; cases c; rfl
 | 5,b,c,f=>exact absurd rfl f
 | 6,b,c,_=>cases b; cases c; rfl
 | 7,b,c,_=>cases b; cases c; rfl
 | 8,b,c,_=>cases b; cases c; rfl
 | 9,b,c,_=>cases b; cases c; rfl
 | j+10,b,_,_=>exact absurd b (by rw[List.getElem?_eq_none (by simp[Vh,Z1u,Z17])]; simp)
theorem Zk.setY (h:Zk Γ σ a w G β) {ys:List YI} {kk:Nat} {x:Zg} {d d':D} {l:List Int} {p0 p:Bool} (A:σ.heap 4=some { sz:=10,rows:=ys.map Vh,frz:=0,pure:=p0 }) (z:ys[kk]?=some (x,d))
  (B:∀ c vs e fr v,β 4=some (c,10)→w.heap[c]?=some (.cells vs e fr)→vs[kk*10+5]?=some v→one v=true→Zh w G β v d→Zh w G β v d')
  (hp:p=true→∀ (j:Nat) y,(ys.set kk ({ f_Op:=x.f_Op,f_A:=x.f_A,f_B:=x.f_B,f_To:=x.f_To,Yg:=x.Yg,Zs:=l,Yv:=x.Yv,f_S:=x.f_S },d'))[j]?=some y→y.2.dat=true):
  Zk Γ (σ.setB 4 (some { sz:=10,rows:=(ys.set kk ({ f_Op:=x.f_Op,f_A:=x.f_A,f_B:=x.f_B,f_To:=x.f_To,Yg:=x.Yg,Zs:=l,Yv:=x.Yv,f_S:=x.f_S },d')).map Vh,frz:=0,pure:=p })) a w G β:=by
 refine h.refine A _ (by simp) (λc vs e fr s C i H q=>?_) p λt i j r d1 o b=>?_
 ·rw[List.getElem?_map] at q
  obtain⟨I,f,rfl⟩:=Qf q
  refine⟨rfl,λj J m r d1 v o b E F g=>?_⟩
  dsimp only at o
  rw[List.getElem?_map] at o
  obtain⟨y,k,rfl⟩:=Qf o
  rcases Nat.decEq i kk with n|rfl
  ·rw[List.getElem?_set_ne (Ne.symm n)] at f
   rw[k] at f; cases f
   rw[b] at m; cases m
   exact g
  ·have u:i<ys.length:=(List.getElem?_eq_some_iff.1 z).1
   rw[List.getElem?_set_self u] at f
   cases f
   rw[z] at k; cases k
   rcases Nat.decEq j 5 with n|rfl
   ·rw[← Y2y n b m]; exact g
   ·cases b; cases m
    exact B c vs e fr v s C E F g
 ·rw[List.getElem?_map] at o
  obtain⟨y,k,rfl⟩:=Qf o
  rcases Y5y b with ⟨-,rfl⟩|⟨-,s⟩
  ·exact hp t i y k
  ·exact s
theorem nameY {m:Nat} {ps:List Int} {k:Int} {ys:List YI} {loc:Nat→Option Nat} {kk:Nat} {x:Zg} {d:D} (h:Zk Γ (sY2 m ps k ys).s a w G β) (A:Fam Γ w G β ys loc) (E:ys[kk]?=some (x,d)):
  ∃ β',Zk Γ (stA m ps (k,ys.set kk (x,.lsl 777 0 x.Zs.length),x.Zs)).s a w G β'∧∀ (j:Nat) y,j≠kk→ys[j]?=some y→Mem Γ w G β' y (loc j):=by
 have F:kk<ys.length:=(List.getElem?_eq_some_iff.1 E).1
 have B:=A.mem kk _ E
 have i:(sY2 m ps k ys).s.heap 777=none:=rfl
 have key:∃ β',Zk Γ ((sY2 m ps k ys).s.setB 777 (some (Je x.Zs none))) a w G β'∧(∀ v,Zh w G β' v d→Zh w G β' v (.lsl 777 0 x.Zs.length))∧∀ (j:Nat) y,j≠kk→ys[j]?=some y→Mem Γ w G β' y (loc j):=by
  cases H:loc kk with
  | none=>
   rw[H] at B
   obtain⟨z,n,f⟩:=B
   dsimp only at n f
   refine⟨β,h.nameNil i ⟨by rw[f]; rfl,rfl⟩,λv o=>?_,λj y _ I=>A.mem j y I⟩
   rw[f]
   rw[n] at o
   cases o
   exact .lslnil 777 z
  | some c=>
   rw[H] at B
   obtain⟨cap,n,f,r,J,K,L⟩:=B
   dsimp only at n f r
   refine⟨_,h.name (c:=c) i L (r.rep J (.inl K) (by simp)),λv o=>?_,λj y I u=>?_⟩
   ·rw[n] at o
    cases o
    obtain⟨vs,e,fr,k1,k2,k3,k4,k5⟩:=r
    exact .lsl 777 0 _ cap c 1 0 (by simp[upd,Je]) f (.inr rfl) ⟨vs,e,fr,k1,by omega⟩
   ·have g:=A.mem j y u
    cases q:loc j with
    | none=>rw[q] at g; exact g
    | some c'=>
     rw[q] at g
     obtain⟨cap',M,N,O,P,Q,R⟩:=g
     refine⟨cap',M,N,O,P,Q,λb s C=>?_⟩
     unfold upd at C
     split at C
     ·cases C
      exact I (A.inj j kk _ q H (List.getElem?_eq_some_iff.1 u).1 F)
     ·exact R b s C
 obtain⟨β',k1,k2,k3⟩:=key
 refine⟨β',?_,k3⟩
 have:=Zk.setY k1 (ys:=ys) (kk:=kk) (x:=x) (d:=d) (d':= .lsl 777 0 x.Zs.length) (l:=x.Zs) (p0:=true) (p:=false) rfl E (λc vs e fr v _ _ _ _ o=>k2 v o) (by simp)
 have e:((sY2 m ps k ys).s.setB 777 (some (Je x.Zs none))).setB 4 (some { sz:=10,rows:=(ys.set kk (x,D.lsl 777 0 x.Zs.length)).map Vh,frz:=0,pure:=false })=(stA m ps (k,ys.set kk (x,.lsl 777 0 x.Zs.length),x.Zs)).s:=by
  refine S.ext' rfl (λt=>rfl) λt=>?_
  simp only[S.setB,sY2,stA,sA,SL.s,mkS,ofB,bI,bY,bP,bTo]
  by_cases n:t=4
  ·simp[n]
  ·by_cases f:t=777
   ·simp[f]
   ·by_cases r:t=5
    ·simp[r]
    ·simp[n,f,r]
 rw[← e]
 exact this
theorem backY {m:Nat} {ps:List Int} {k:Int} {ys:List YI} {loc:Nat→Option Nat} {kk n:Nat} {x:Zg} {tos:List Int} (hX:∀ c,¬ Γ.X c) (h:Zk Γ (stA m ps (k,ys,tos)).s a w G β) (Z:ys[kk]?=some (x,.lsl 777 0 n)) (hn:tos.length=n)
  (hF:∀ (j:Nat) y,j≠kk→ys[j]?=some y→Mem Γ w G β y (loc j)) (P:∀ i j c,loc i=some c→loc j=some c→i<ys.length→j<ys.length→i=j):
  ∃ v β' loc',Zk Γ (sY2 m ps k (ys.set kk ({ f_Op:=x.f_Op,f_A:=x.f_A,f_B:=x.f_B,f_To:=x.f_To,Yg:=x.Yg,Zs:=tos,Yv:=x.Yv,f_S:=x.f_S },.raw v))).s a w G β'∧
   Fam Γ w G β' (ys.set kk ({ f_Op:=x.f_Op,f_A:=x.f_A,f_B:=x.f_B,f_To:=x.f_To,Yg:=x.Yg,Zs:=tos,Yv:=x.Yv,f_S:=x.f_S },.raw v)) loc':=by
 subst hn
 have Q:kk<ys.length:=(List.getElem?_eq_some_iff.1 Z).1
 have A:(stA m ps (k,ys,tos)).s.heap 4=some { sz:=10,rows:=ys.map Vh,frz:=0,pure:=false }:=rfl
 have hb7:(stA m ps (k,ys,tos)).s.heap 777=some (Je tos none):=rfl
 obtain⟨c0,vs,e,fr,v,hβ4,K,hv,ho,C⟩:=h.cellOf A (i:=kk) (j:=5) (r:=Vh (x,.lsl 777 0 tos.length)) (d:= .lsl 777 0 tos.length) (by rw[List.getElem?_map,Z]; rfl) rfl
 have W:=Zk.setY h A Z (d':= .raw v) (l:=tos) (p:=true) (λc vs' e' fr' v' k1 k2 k3 k4 _=>by
  rw[hβ4] at k1
  cases k1
  rw[K] at k2
  cases k2
  rw[hv] at k3
  cases k3
  exact .raw _ k4) λ_ j y g=>by
   rcases Nat.decEq j kk with f|rfl
   ·rw[List.getElem?_set_ne (Ne.symm f)] at g
    obtain⟨u,hu⟩:=(hF j y f g).raw
    rw[hu]; rfl
   ·rw[List.getElem?_set_self Q] at g
    cases g
    rfl
 have R:=W.unname 777 (λt=>by
  show (ofL (sA m ps k (ys.map Vh) tos).l t).kill 777=ofL (sA m ps k (ys.map Vh) tos).l t
  simp only[sA,tP,ofL]
  by_cases M:t=4
  ·simp[M]; rfl
  ·by_cases T:t=5
   ·simp[T]; rfl
   ·by_cases e3:t=9
    ·simp[e3]; rfl
    ·simp[M,T,e3]; rfl) λu blk hu I=>by
  simp only[S.setB,stA,sA,SL.s,mkS,ofB,bY,bP,bTo] at I
  by_cases M:u=4
  ·rw[if_pos M] at I; cases I; rfl
  ·rw[if_neg M,if_neg M] at I
   by_cases T:u=5
   ·rw[if_pos T] at I; cases I; rfl
   ·rw[if_neg T,if_neg hu] at I; cases I
 have e:∀ rows,(⟨((stA m ps (k,ys,tos)).s.setB 4 (some { sz:=10,rows:=rows,frz:=0,pure:=true })).n,((stA m ps (k,ys,tos)).s.setB 4 (some { sz:=10,rows:=rows,frz:=0,pure:=true })).tmps,λu=>if u=777 then none else ((stA m ps (k,ys,tos)).s.setB 4 (some { sz:=10,rows:=rows,frz:=0,pure:=true })).heap u⟩:S)=mkS 130 [(4,.lsl 4 0 m),tP ps,(9,dI k)] [(4,{ sz:=10,rows:=rows,frz:=0,pure:=true }),bP ps] :=λrows=>by
  refine S.ext' rfl (λt=>rfl) λt=>?_
  simp only[S.setB,stA,sA,SL.s,mkS,ofB,bY,bP,bTo]
  by_cases W:t=4
  ·simp[W]
  ·by_cases R:t=777
   ·simp[R]
   ·by_cases N:t=5
    ·simp[N]
    ·simp[W,R,N]
 rw[e] at R
 have D:∀ (j:Nat) y,j≠kk→ys[j]?=some y→Mem Γ w G (upd β 777 none) y (loc j):=λj y F g=>by
  have H:=hF j y F g
  cases hl:loc j with
  | none=>rw[hl] at H; exact H
  | some c=>
   rw[hl] at H
   obtain⟨cap,g1,g2,g3,g4,g5,g6⟩:=H
   refine⟨cap,g1,g2,g3,g4,g5,λb s A=>?_⟩
   unfold upd at A
   split at A
   ·cases A
   ·exact g6 b s A
 have hfr:Z0p w G Γ.B v tos:=by
  rcases Zh.fresh h C (l:=tos) (.inr ⟨777,by rw[List.length_map],hb7⟩) with N|⟨b,c,s,-,-,N⟩
  ·exact N
  ·exact absurd N (hX c)
 have fin:∀ o,Mem Γ w G (upd β 777 none) ({ f_Op:=x.f_Op,f_A:=x.f_A,f_B:=x.f_B,f_To:=x.f_To,Yg:=x.Yg,Zs:=tos,Yv:=x.Yv,f_S:=x.f_S },.raw v) o→(∀ j c,o=some c→j≠kk→j<ys.length→loc j≠some c)→
   Fam Γ w G (upd β 777 none) (ys.set kk ({ f_Op:=x.f_Op,f_A:=x.f_A,f_B:=x.f_B,f_To:=x.f_To,Yg:=x.Yg,Zs:=tos,Yv:=x.Yv,f_S:=x.f_S },.raw v)) (λj=>if j=kk then o else loc j):=λo H U=>by
  refine⟨λj y g=>?_,λi j c O F L E=>?_⟩
  ·rcases Nat.decEq j kk with f|rfl
   ·rw[List.getElem?_set_ne (Ne.symm f)] at g
    rw[if_neg f]
    exact D j y f g
   ·rw[List.getElem?_set_self Q] at g
    cases g
    rw[if_pos rfl]
    exact H
  ·rw[List.length_set] at L E
   split at O
   ·split at F
    ·omega
    ·rename_i f; exact absurd F (U j c O f E)
   ·split at F
    ·rename_i f _; exact absurd O (U i c F f L)
    ·exact P i j c O F L E
 have key:∃ o,Mem Γ w G (upd β 777 none) ({ f_Op:=x.f_Op,f_A:=x.f_A,f_B:=x.f_B,f_To:=x.f_To,Yg:=x.Yg,Zs:=tos,Yv:=x.Yv,f_S:=x.f_S },.raw v) o∧(∀ j c,o=some c→j≠kk→j<ys.length→loc j≠some c):=by
  cases hfr with
  | nil z=>exact⟨none,⟨z,rfl,rfl⟩,λj c V=>by cases V⟩
  | blk c cap _ J O hG hB=>
   by_cases hz:cap=0
   ·subst hz
    obtain rfl:=List.eq_nil_of_length_eq_zero (Nat.le_zero.1 J)
    exact⟨none,⟨_,rfl,rfl⟩,λj c V=>by cases V⟩
   ·have Y:∃ s,β 777=some (c,s):=by
     generalize tos.length=q at C
     cases C with
     | lslnil=>exact absurd rfl hz
     | lsl b lo n cap c sz off k1=>exact⟨_,k1⟩
    obtain⟨s7,Y⟩:=Y
    refine⟨some c,⟨cap,rfl,J,O,hG,hB,λb s A=>?_⟩,λj c' V F E hlj=>?_⟩
    ·unfold upd at A
     split at A
     ·cases A
     ·rename_i f
      exact f (h.inj b 777 c s s7 A Y)
    ·cases V
     have H:=hF j _ F (List.getElem?_eq_getElem E)
     rw[hlj] at H
     obtain⟨cap',-,-,-,-,-,g6⟩:=H
     exact g6 777 s7 Y
 obtain⟨o,k1,k2⟩:=key
 exact⟨v,upd β 777 none,_,R,fin o k1 k2⟩
theorem Zs4 {ys:List YI} {loc:Nat→Option Nat} (h:Zk Γ σ a w G β) (p:Fam Γ w G β ys loc):∀ m,m≤ys.length→∃ G',Zk Γ σ a w G' β∧(∀ c,G c≤G' c)∧∀ (k:Nat) y c,k<m→ys[k]?=some y→loc k=some c→y.1.Zs.length≤G' c
 | 0,_=>⟨G,h,λ_=>Nat.le_refl _,λk y c i=>absurd i (Nat.not_lt_zero _)⟩
 | m + 1,x=>by
  obtain⟨G1,q,j,l⟩:=Zs4 h p m (by omega)
  obtain⟨y,r⟩:∃ y,ys[m]?=some y:=⟨_,List.getElem?_eq_getElem (by omega)⟩
  cases n:loc m with
  | none=>
   refine⟨G1,q,j,λk z c i f b=>?_⟩
   rcases Nat.lt_or_ge k m with d|o
   ·exact l k z c d f b
   ·obtain rfl:k=m:=by omega
    rw[n] at b; cases b
  | some c0=>
   have g:=p.mem m y r
   rw[n] at g
   obtain⟨cap,A,B,s,C,t,u⟩:=g
   have v:=q.mark (c0:=c0) u t (J7.lt s) (k:=G1 c0+y.1.Zs.length) (Nat.le_add_right _ _)
   refine⟨_,v,λc=>?_,λk z c i f b=>?_⟩
   ·split
    ·rename_i e; subst e; have:=j c; omega
    ·exact j c
   ·rcases Nat.lt_or_ge k m with d|o
    ·split
     ·rename_i e; subst e
      have:=l k z c d f b; omega
     ·exact l k z c d f b
    ·obtain rfl:k=m:=by omega
     rw[n] at b; cases b
     rw[r] at f; cases f
     rw[if_pos rfl]; omega
def sJ2 (m:Nat) (ys:List YI):SL:=⟨130,[(4,.lsl 4 0 m)],[bI ys]⟩
def sJ3 (m:Nat) (l:List Zg):SL:=⟨130,[(4,.lsl 4 0 m)],[(4,{ sz:=10,rows:=l.map Y4,frz:=0,pure:=true })]⟩
theorem Y4s {y:YI} {j:Nat} {d d':D} (h:(Vh y)[j]?=some d) (b:(Y4 y.1)[j]?=some d'):(j=5∧d=y.2∧d'=.sl false (y.1.Zs.map Z5))∨(j≠5∧d=d'):=by
 match j,h,b with
 | 0,h,b=>cases h; cases b; exact .inr ⟨by decide,rfl⟩
 | 1,h,b=>cases h; cases b; exact .inr ⟨by decide,rfl⟩
 | 2,h,b=>cases h; cases b; exact .inr ⟨by decide,rfl⟩
 | 3,h,b=>cases h; cases b; exact .inr ⟨by decide,rfl⟩
 | 4,h,b=>cases h; cases b; exact .inr ⟨by decide,rfl⟩
 | 5,h,b=>cases h; cases b; exact .inl ⟨rfl,rfl,rfl⟩
 | 6,h,b=>cases h; cases b; exact .inr ⟨by decide,rfl⟩
 | 7,h,b=>cases h; cases b; exact .inr ⟨by decide,rfl⟩
 | 8,h,b=>cases h; cases b; exact .inr ⟨by decide,rfl⟩
 | 9,h,b=>cases h; cases b; exact .inr ⟨by decide,rfl⟩
 | j+10,h,_=>exact absurd h (by rw[List.getElem?_eq_none (by simp[Vh,Z1u,Z17])]; simp)
theorem Y6b {x:Zg} {j:Nat} {d:D} (h:(Y4 x)[j]?=some d):d.dat=true:=by
 match j,h with
 | 0,h=>cases h; rfl
 | 1,h=>cases h; rfl
 | 2,h=>cases h; rfl
 | 3,h=>cases h; rfl
 | 4,h=>cases h; rfl
 | 5,h=>cases h; rfl
 | 6,h=>cases h; rfl
 | 7,h=>cases h; rfl
 | 8,h=>cases h; rfl
 | 9,h=>cases h; rfl
 | j+10,h=>exact absurd h (by rw[List.getElem?_eq_none (by simp[Y4])]; simp)
theorem finY {m:Nat} {ys:List YI} {loc:Nat→Option Nat} (h:Zk Γ (sJ2 m ys).s a w G β) (F:Fam Γ w G β ys loc):∃ G',Zk Γ (sJ3 m (ys.map Prod.fst)).s a w G' β:=by
 obtain⟨G',p,O,H⟩:=Zs4 h F ys.length (Nat.le_refl _)
 refine⟨G',?_⟩
 have I:=p.refine (b:=4) (blk:={ sz:=10,rows:=ys.map Vh,frz:=0,pure:=true }) rfl ((ys.map Prod.fst).map Y4) (by simp) (λc vs e fr k1 k2 i P n=>?_) true λ_ i j r d g k=>?_
 ·have e:(sJ2 m ys).s.setB 4 (some { sz:=10,rows:=(ys.map Prod.fst).map Y4,frz:=0,pure:=true })=(sJ3 m (ys.map Prod.fst)).s:=by
   refine S.ext' rfl (λt=>rfl) λt=>?_
   simp only[S.setB,sJ2,sJ3,SL.s,mkS,ofB,bI]
   by_cases p:t=4
   ·simp[p]
   ·simp[p]
  rw[← e]
  exact I
 ·rw[List.map_map,List.getElem?_map] at n
  obtain⟨y,q,rfl⟩:=Qf n
  refine⟨rfl,λj d' A r d v g k Q R f=>?_⟩
  dsimp only at g
  rw[List.getElem?_map,q] at g
  cases g
  rcases Y4s k A with ⟨-,rfl,rfl⟩|⟨-,rfl⟩
  ·have u:=F.mem i y q
   cases B:loc i with
   | none=>
    rw[B] at u
    obtain⟨z,C,D⟩:=u
    rw[C] at f
    cases f
    rw[D]
    exact .slnil _ z
   | some c=>
    rw[B] at u
    obtain⟨cap,C,D,J,T,U,V⟩:=u
    rw[C] at f
    cases f
    obtain⟨us,W,fr',K,X,q3,q4,q5⟩:=J
    have L:=H i y c (List.getElem?_eq_some_iff.1 q).1 q B
    have M:∀ (i:Nat),i<y.1.Zs.length→∃ x,y.1.Zs[i]?=some x∧us[i]?=some (.int .i64 x):=λi o=>⟨_,List.getElem?_eq_getElem o,q5 i _ (List.getElem?_eq_getElem o)⟩
    refine .sl false c 0 y.1.Zs.length cap 1 (y.1.Zs.map Z5) (λi j=> .int .i64 (y.1.Zs.getD i 0)) (by simp) (λh=>by cases h) D (λi r g=>?_) (λi j o N=>by omega) (λi j o N=>?_) (λ_ _ _ _=>rfl) (λi j r d g k=>?_) λi j r d g k=>?_
    ·rw[List.getElem?_map] at g
     obtain⟨x,-,rfl⟩:=Qf g
     rfl
    ·obtain⟨x,l,E⟩:=M i o
     rw[Jk,K]
     dsimp only
     rw[show 0+i*1+j=i by omega,E]
     simp[List.getD,l]
    ·obtain⟨-,x,-,rfl⟩:=Zbj g k; rfl
    ·obtain⟨-,x,l,rfl⟩:=Zbj g k
     simp only[List.getD,l,Option.getD_some]
     exact .int _ _
  ·exact f
 ·rw[List.getElem?_map] at g
  obtain⟨x,-,rfl⟩:=Qf g
  exact Y6b k
end Go.Proofs
namespace Go.Proofs
open Tryz
open Go.Den Go.Den.W
variable {Γ:Ctx} {σ σ':S} {a a':Act} {w w':World} {G G':Nat→Nat} {β β':Nat→Option (Nat×Nat)}
def Z7m (ps:List Int) (t1:Int×(List Zg)):Option (Ctl (Int×(List Zg)) (((List Zg))⊕((List Zg)×Int))):=
 if (decide (t1.1<(t1.2.length:Int)))=true then
  ((X7 t1.1 t1.2.length).bind λc=>
  (t1.2[c]?).bind λb=>
  (Z3w b.f_Op).bind λe=>
  if (!e)=true then
   ((some (IntKind.wrap .i64 (t1.1+(1:Int)))).bind λf=>
   some (.next (f,t1.2))) else
  ((Z3v ps b.f_To).bind λd=>
   if (decide (d<0))=true then
    (some (.done (.inr (([]:List Zg),16)))) else
   ((Z8 (Z18 ps b.Zs.length) Zb (0,b.Zs)).bind λq5=>
    match q5 with
    | .inl q4=>((some (IntKind.wrap .i64 (t1.1+(1:Int)))).bind λg=>
     some (.next (g,(t1.2.set c ({ f_Op:=b.f_Op,f_A:=b.f_A,f_B:=b.f_B,f_To:=d,Yg:=b.Yg,Zs:=q4,Yv:=b.Yv,f_S:=b.f_S }:Zg)))))
    | .inr h=>(some (.done (.inr h)))))) else
 (some (.done (.inl (t1.2))))
def Zdf (c:(List Zg)) (t4:Int):Option (Ctl (Int) (Unit⊕((List Zg)×Int))):=
 if (decide (t4<(c.length:Int)))=true then
  ((X7 t4 c.length).bind λd=>
  (c[d]?).bind λe=>
  (Jz e).bind λb=>
  if (b !=0)=true then
   (some (.done (.inr (([]:List Zg),b)))) else
  ((some (IntKind.wrap .i64 (t4+(1:Int)))).bind λf=>
   some (.next f))) else
 (some (.done (.inl (()))))
def Z49 (x0:List UInt8):Option ((List Zg)×Int):=
 if (decide ((x0.length:Int)>20000))=true then
  (some (([]:List Zg),8)) else
 ((Z8 (Z6o x0) Zb (0,([]:List Zg),([]:List Int))).bind λc=>
  match c with
  | .inl q0=>(if (decide ((q0.1.length:Int)>1000))=true then
    (some (([]:List Zg),5)) else
   ((Z8 (Z7m q0.2) Zb (0,q0.1)).bind λd=>
    match d with
    | .inl b=>((Z8 (Zdf b) Zb 0).bind λe=>
     match e with
     | .inl i=>(some (b,0))
     | .inr f=>(some f))
    | .inr g=>(some g)))
  | .inr h=>(some h))
theorem Zs7 {ps:List Int} {n:Nat} {t:Int×List Int} {r:List Int⊕((List Zg)×Int)}:∀ (m:Nat) (t:Int×List Int),Z8 (Z18 ps n) m t=some r→∀ q,r=.inl q→q.length=t.2.length
 | 0,t,h,_,_=>by cases h
 | m + 1,t,h,q,hq=>by
  unfold Z8 at h
  cases b:Z18 ps n t with
  | none=>rw[b] at h; cases h
  | some x=>
   rw[b] at h
   unfold Z18 at b
   refine sp b (λ_ b=>bd b λc _ b=>bd b λd _ b=>bd b λe _ b=>bd b λf _ b=>sp b (λ_ b=>?_) (λ_ b=>bd b λg _ b=>?_)) λ_ b=>?_
   ·cases b; cases h; cases hq
   ·cases b
    have:=Zs7 (t:=t) m _ h q hq
    rw[this]; simp
   ·cases b; cases h; cases hq; rfl
def I2 (Γ:Ctx) (ps:List Int) (t:Int×(List Zg)) (a:Act) (w:World):Prop:=
 ∃ ys G β loc,ys.map Prod.fst=t.2∧Zk Γ (sY2 ys.length ps t.1 ys).s a w G β∧Fam Γ w G β ys loc
def J2 (Γ:Ctx) (r:(List Zg)⊕((List Zg)×Int)) (e:Exit) (a:Act) (w:World):Prop:=match r with
 | .inl l=>e=.exit 2∧∃ ys G β loc,ys.map Prod.fst=l∧Zk Γ (sJ2 ys.length ys).s a w G β∧Fam Γ w G β ys loc
 | .inr y=>∃ σ G β,Zk Γ σ a w G β∧Ret y e σ
section
variable {m:Nat} {ps:List Int} {k:Int} {ys:List YI}
theorem p2A1 (h:decide (k<(m:Int))=true):A prog Γ (c2A f228) [] (PQ .normal (sY2 m ps k ys)) (sY2 m ps k ys).s:=go [] [rg 19 [(2,lnN m)]]<|bT h<|go [] []<|pg
theorem p2A0 (h:decide (k<(m:Int))=false):A prog Γ (c2A f228) [] (PQ (.exit 2) (sJ2 m ys)) (sY2 m ps k ys).s:=go [] [rg 19 [(2,lnN m)]]<|bF h<|go [] []<|pg
end
theorem Ok3_of {ys:List YI} (h:∀ y∈ys,rawY y):Ok3 ys:=λy b=>by
 obtain⟨u,c⟩:=h y b
 rw[c]; rfl
theorem Zd6 {ps:List Int} {k:Int} {kk n m:Nat} {ys:List YI} {x:Zg} {tos:List Int} (i:X7 k m=some kk) (j:ys[kk]?=some (x,.lsl 777 0 n)) (l:Ok3 ys)
  (d:Zk Γ (stA m ps (k,ys,tos)).s a w G β) {r:Ctl (Int×List YI×List Int) ((List Zg)×Int)} (o:m2R ps k kk ys x n tos=some r) {post:Exit→Act→World→Prop}
  (p:∀ t,r=.next t→∀ a' w' G' β',Zk Γ (stA m ps t).s a' w' G' β'→Zk (Γ.sub w G β) (stA m ps t).s a' w' G' β'→post .normal a' w')
  (q:∀ y,r=.done y→∀ e a' w',e≠ .normal→(∃ σ G β,Zk Γ σ a' w' G β∧Ret y e σ)→post e a' w'):(c2R f228).wp prog post a w:=by
 refine Zm5 (Q:=Rd (stA m ps) (jr prog f228 Z0m) r) (p2R i j l o).h d λe σ' a' w' G' β' f u v=>?_
 cases r with
 | next t=>
  obtain⟨rfl,b⟩:=f
  obtain⟨G2,β2,g⟩:=b _ _ _ _ _ v
  exact p t rfl a' w' G2 β2 (d.lift g) g
 | done y=>
  obtain⟨c,z⟩:=f
  exact q y rfl e a' w' c ⟨σ',G',β',u,z⟩
theorem round2 {ps:List Int} (hX:∀ c,¬ Γ.X c) (t:Int×(List Zg)) (x) (h:Z7m ps t=some x) (a:Act) (w:World) (hI:I2 Γ ps t a w):
  (lpC f228 703).wp prog (RdW (I2 Γ ps) (J2 Γ) x) a w:=by
 obtain⟨ys,G,β,loc,H,T,hF⟩:=hI
 obtain⟨k,l⟩:=t
 dsimp only at H T
 subst H
 rw[c2_eq]
 unfold Z7m at h
 dsimp only at h
 rw[List.length_map] at h
 refine sp h (λU h=>?_) λU h=>?_
 rotate_left
 ·cases h
  exact seqE (by simp) (p2A0 U) T λa1 w1 G1 β1 r z=>⟨by simp,rfl,ys,G1,β1,loc,rfl,r,hF.frame z⟩
 refine bd h λkk n h=>bd h λv I h=>?_
 rw[List.getElem?_map] at I
 obtain⟨y,J,rfl⟩:=Qf I
 obtain⟨v,d⟩:=y
 dsimp only at h
 refine K2 (p2A1 U) T λa1 w1 G1 β1 r z=>?_
 have A:=hF.frame z
 have B:kk<ys.length:=(List.getElem?_eq_some_iff.1 J).1
 obtain⟨β2,o,V⟩:=nameY r A J
 have K:∀ y∈ys,rawY y:=λy J=>by
  obtain⟨j,g⟩:=List.mem_iff_getElem?.1 J
  exact(A.mem j y g).raw
 have p:(ys.set kk (v,.lsl 777 0 v.Zs.length))[kk]?=some (v,.lsl 777 0 v.Zs.length):=by simp[B]
 have P:Ok3 (ys.set kk (v,.lsl 777 0 v.Zs.length)):=(Ok3_of K).set _ _ _
 -- what the round leaves,taken back
 have back:∀ (Q:Int) (b:Zg) (tos2:List Int) a' w' G' β',tos2.length=v.Zs.length→Zk Γ (stA ys.length ps (Q,ys.set kk (b,.lsl 777 0 v.Zs.length),tos2)).s a' w' G' β'→
   Zk (Γ.sub w1 G1 β2) (stA ys.length ps (Q,ys.set kk (b,.lsl 777 0 v.Zs.length),tos2)).s a' w' G' β'→
   I2 Γ ps (Q,(ys.map Prod.fst).set kk { f_Op:=b.f_Op,f_A:=b.f_A,f_B:=b.f_B,f_To:=b.f_To,Yg:=b.Yg,Zs:=tos2,Yv:=b.Yv,f_S:=b.f_S }) a' w':=λQ b tos2 a' w' G' β' hl k1 k2=>by
  obtain ⟨u,β3,loc3,q1,q2⟩:=backY (kk:=kk) (x:=b) (loc:=loc) hX k1 (by simp[B]) hl (λj y g L=>by
   rw[List.getElem?_set_ne (Ne.symm g)] at L
   exact(V j y g L).frame k2) (λi j c hi g W Y=>A.inj i j c hi g (by simpa using W) (by simpa using Y))
  refine⟨_,G',β3,loc3,?_,?_,q2⟩
  ·rw[List.set_set,List.map_set]
  ·rw[List.set_set] at q1 ⊢
   rw[List.length_set]
   exact q1
 refine bd h λv42 q h=>?_
 refine sp h (λM h=>bd h λN Z h=>?_) λM h=>bd h λv46 C h=>sp h (λR h=>?_) λR h=>bd h λq5 e5 h=>?_
 ·-- no branch
  cases h
  have D:m2R ps k kk (ys.set kk (v,.lsl 777 0 v.Zs.length)) v v.Zs.length v.Zs=some (.next (N,ys.set kk (v,.lsl 777 0 v.Zs.length),v.Zs)):=by
   unfold m2R
   rw[q,Option.bind_some,if_pos M,Z,Option.bind_some]
  refine Zd6 n p P o D (λt E a' w' G' β' k1 k2=>?_) (λy F=>by cases F)
  cases E
  refine⟨rfl,?_⟩
  have:=back N v v.Zs a' w' G' β' rfl k1 k2
  have e:(ys.map Prod.fst).set kk v=ys.map Prod.fst:=by
   apply List.ext_getElem?
   intro i
   rcases Nat.decEq i kk with f|rfl
   ·rw[List.getElem?_set_ne (Ne.symm f)]
   ·rw[List.getElem?_set_self (by simpa using B),List.getElem?_map,J]; rfl
  have e2:({ f_Op:=v.f_Op,f_A:=v.f_A,f_B:=v.f_B,f_To:=v.f_To,Yg:=v.Yg,Zs:=v.Zs,Yv:=v.Yv,f_S:=v.f_S }:Zg)=v:=rfl
  rw[e2,e] at this
  exact this
 ·-- no such place
  cases h
  have D:m2R ps k kk (ys.set kk (v,.lsl 777 0 v.Zs.length)) v v.Zs.length v.Zs=some (.done (([]:List Zg),16)):=by
   unfold m2R
   rw[q,Option.bind_some,if_neg (by simpa using M),C,Option.bind_some,if_pos R]
  refine Zd6 n p P o D (λt E=>by cases E) (λy F e a' w' f g=>?_)
  cases F
  exact⟨f,g⟩
 ·cases q5 with
  | inl q4=>
   dsimp only at h
   refine bd h λO e60 h=>?_
   cases h
   have D:m2R ps k kk (ys.set kk (v,.lsl 777 0 v.Zs.length)) v v.Zs.length v.Zs=some (.next (O,(ys.set kk (v,.lsl 777 0 v.Zs.length)).set kk ({ f_Op:=v.f_Op,f_A:=v.f_A,f_B:=v.f_B,f_To:=v46,Yg:=v.Yg,Zs:=v.Zs,Yv:=v.Yv,f_S:=v.f_S },.lsl 777 0 v.Zs.length),q4)):=by
    unfold m2R
    rw[q,Option.bind_some,if_neg (by simpa using M),C,Option.bind_some,if_neg (by simpa using R),e5,Option.bind_some]
    dsimp only
    rw[e60,Option.bind_some]
   refine Zd6 n p P o D (λt E a' w' G' β' k1 k2=>?_) (λy F=>by cases F)
   cases E
   rw[List.set_set] at k1 k2
   exact⟨rfl,back O _ q4 a' w' G' β' (Zs7 (t:=(0,v.Zs)) _ _ e5 q4 rfl) k1 k2⟩
  | inr y1=>
   cases h
   have D:m2R ps k kk (ys.set kk (v,.lsl 777 0 v.Zs.length)) v v.Zs.length v.Zs=some (.done y1):=by
    unfold m2R
    rw[q,Option.bind_some,if_neg (by simpa using M),C,Option.bind_some,if_neg (by simpa using R),e5,Option.bind_some]
   refine Zd6 n p P o D (λt E=>by cases E) (λy F e a' w' f g=>?_)
   cases F
   exact⟨f,g⟩
def Zrg (b:(List Zg)):Int→SL:=
 λt4=>⟨130,[(4,.lsl 4 0 ((b.map Y4).length)),(11,dI t4)],[(4,{ sz:=10,rows:=(b.map Y4),frz:=0,pure:=true })]⟩
def J228x4 (b:(List Zg)):JT (Unit⊕((List Zg)×Int)):=
 ju (je 6 λc:Unit=>⟨130,[(4,.lsl 4 0 ((b.map Y4).length))],[(4,{ sz:=10,rows:=(b.map Y4),frz:=0,pure:=true })]⟩) (jr prog f228 Z0m)
theorem wl228x4 {b:(List Zg)} {t4:Int} {r:Ctl (Int) (Unit⊕((List Zg)×Int))} {Γ:Ctx} (h:(Zdf b) t4=some r):A prog Γ (lpC f228 1407) [] (Rd (Zrg b) (J228x4 b) r) ((Zrg b) t4).s:=
 go [] [rg 32 [(2,ln b)]]<|br h (λc h=>bd h λj d h=>bd h λl e h=>bd h λo f h=>go [] [rg 34 [(2,ia 4 d),(3,lb e),(4,W.k (w161 f))]]<|br h (λg h=>go [] []<|dn h (i2 iR)) λg h=>
  bd h λp i h=>go [] [rg 33 [(1,W.n i)]]<|nx h) λc h=>
 go [] []<|dn h (i1 iE)
def d0 (f:Func):Code:=J5 (Ut f)
def d1 (f:Func):Code:=J5 (V5 (Ut f))
def d3 (f:Func):Code:=J5 (V5 (V5 (Ut f)))
def d4 (f:Func):Code:=J5 (V5 (V5 (V5 (Ut f))))
def dT (f:Func):Code:=V5 (V5 (V5 (V5 (Ut f))))
def d5 (f:Func):Code:=J5 (J5 (dT f))
def d16 (f:Func):Code:=J5 (V5 (dT f))
def d18 (f:Func):Code:=J5 (J5 (V5 (V5 (dT f))))
def dZ (f:Func):Code:=V5 (V5 (V5 (dT f)))
theorem d_eq:Ut f228=.seq (d0 f228) (.seq (d1 f228) (.seq (d3 f228) (.seq (d4 f228) (.seq (.seq (d5 f228) (.block 0 (.loop (lpC f228 175)))) (.seq (d16 f228) (.seq (.seq (d18 f228) (.block 2 (.loop (lpC f228 703)))) (dZ f228))))))):=by kernel_rfl
def s0 (x0:List UInt8):SL:=⟨130,[(0,.str x0)],[]⟩
def s3 (x0:List UInt8):SL:=⟨130,[(0,.str x0),(4,.sl true [])],[]⟩
def s4 (x0:List UInt8):SL:=⟨130,[(0,.str x0),(4,.sl true []),(5,.sl true [])],[]⟩
section
variable {x0:List UInt8} {ys:List YI} {ps:List Int}
theorem q0:A prog Γ (d0 f228) [] (PQ .normal (s0 x0)) (s0 x0).s:=go [] []<|pg
theorem q1T (h:decide ((x0.length:Int)>20000)=true):A prog Γ (d1 f228) [] (Ret ([],8)) (s0 x0).s:=go [] []<|bT h<|go [] []<|rE
theorem q1F (h:decide ((x0.length:Int)>20000)=false):A prog Γ (d1 f228) [] (PQ .normal (s0 x0)) (s0 x0).s:=go [] []<|bF h<|go [] []<|pg
theorem q3:A prog Γ (d3 f228) [] (PQ .normal (s3 x0)) (s0 x0).s:=go [] []<|pg
theorem q4:A prog Γ (d4 f228) [] (PQ .normal (s4 x0)) (s3 x0).s:=go [] []<|pg
theorem q5:A prog Γ (d5 f228) [] (PQ .normal (sY1 x0 0 [] [])) (s4 x0).s:=go [] []<|pg [.tmp 4 4 10,.tmp 5 5 1]
theorem q16T (h:decide ((ys.length:Int)>1000)=true):A prog Γ (d16 f228) [] (Ret ([],5)) (sJ1 ys ps).s:=go [] [rg 16 [(1,ln ys)]]<|bT h<|go [] []<|rE
theorem q16F (h:decide ((ys.length:Int)>1000)=false):A prog Γ (d16 f228) [] (PQ .normal (sJ1 ys ps)) (sJ1 ys ps).s:=go [] [rg 16 [(1,ln ys)]]<|bF h<|go [] []<|pg
theorem q18:A prog Γ (d18 f228) [] (PQ .normal (sY2 (ys.map Vh).length ps 0 ys)) (sJ1 ys ps).s:=go [] []<|pg
end
theorem qZ {l:List Zg} {r:(List Zg)×Int} (h:((Z8 (Zdf l) Zb 0).bind λb=>
     match b with
     | .inl e=>(some (l,0))
     | .inr d=>(some d))=some r):A prog Γ (dZ f228) [] (Go.Den.Ends prog f228 (Z0m r)) (sJ3 (l.map Y4).length l).s:=
 go [] []<|bd h λb c h=>lp c wl228x4<|match b,h with
  | .inl e,h=>j1<|(qe<|goN [] []<|rtB h (.tup [rw_ l,dI 0]) (a2 (rpI l) (a2 trivial trivial)) (by simp only[rwE] <;> kernel_rfl))
  | .inr d,h=>j2<|(qr h)
theorem inB {id:Nat} {Q:Exit→Act→World→Prop} (h:Q .normal a w):Exit.inBlock id Q (.exit id) a w:=by
 show (if id=id then Q .normal a w else Q (.exit id) a w)
 rw[if_pos rfl]
 exact h
theorem Zhu {y r:(List Zg)×Int} (he:some y=some r) {e:Exit} (h:Ret y e σ):e=.ret∧Go.Den.Ends prog f228 (Z0m r) .ret σ:=by
 cases he; exact h
theorem body153 {x0:List UInt8} {r:(List Zg)×Int} (h:Z49 x0=some r) (F:∀ c,¬ Γ.X c):DWP prog Γ (Ut f228) (Go.Den.Ends prog f228 (Z0m r)) (s0 x0).s:=λa w G β H=>by
 rw[d_eq]
 unfold Z49 at h
 refine K2 q0 H λa1 N G1 β1 g _=>?_
 refine sp h (λn h=>?_) λn h=>?_
 ·refine Zd7 (q1T n) g λa' w' ⟨σ',G',β',k1,k2⟩=>?_
  obtain⟨-,k3⟩:=Zhu h k2
  exact⟨σ',G',β',k1,k3⟩
 refine bd h λt1 K h=>?_
 refine K2 (q1F n) g λa2 O G2 β2 o _=>?_
 refine K2 q3 o λP w3 G3 β3 p _=>?_
 refine K2 q4 p λQ w4 G4 β4 q _=>?_
 refine wp_seq (K2 q5 q λR w5 G5 β5 t _=>wp_block ?_)
 refine loopS (I:=I1 Γ x0) (J:=J1 Γ) round1 K (λe T w6 i=>?_) ⟨[],G5,β5,_,rfl,t,Fam.none⟩
 cases t1 with
 | inr y=>
  obtain⟨σ',G',β',k1,k2⟩:=i
  obtain⟨rfl,k3⟩:=Zhu h k2
  exact⟨σ',G',β',k1,k3⟩
 | inl q0=>
  obtain⟨rfl,ys,G6,β6,loc,b,f,u⟩:=i
  obtain⟨l,ps⟩:=q0
  dsimp only at b f h
  subst b
  refine inB ?_
  show Code.wp _ _ _ _ _
  rw[List.length_map] at h
  refine sp h (λv h=>?_) λv h=>?_
  ·refine Zd7 (q16T v) f λa' w' ⟨σ',G',β',k1,k2⟩=>?_
   obtain⟨-,k3⟩:=Zhu h k2
   exact⟨σ',G',β',k1,k3⟩
  refine bd h λt2 L h=>?_
  refine K2 (q16F v) f λU w7 G7 β7 x z=>?_
  have A:=u.frame z
  refine wp_seq (K2 q18 x λa8 w8 G8 β8 j B=>wp_block ?_)
  have C:=A.frame B
  rw[List.length_map] at j
  refine loopS (I:=I2 Γ ps) (J:=J2 Γ) (round2 F) L (λe M w9 i=>?_) ⟨ys,G8,β8,loc,rfl,j,C⟩
  cases t2 with
  | inr y=>
   obtain⟨σ',G',β',k1,k2⟩:=i
   obtain⟨rfl,k3⟩:=Zhu h k2
   exact⟨σ',G',β',k1,k3⟩
  | inl l=>
   obtain⟨rfl,ys2,G9,β9,loc9,b,D,E⟩:=i
   subst b
   refine inB ?_
   show Code.wp _ _ _ _ _
   obtain⟨G10,d⟩:=finY D E
   rw[show ys2.length=((ys2.map Prod.fst).map Y4).length by simp] at d
   exact(qZ h).h M w9 G10 β9 d
theorem w228 {x0:List UInt8} {r:(List Zg)×Int} (h:Z49 x0=some r):Zi prog 228 [.str x0] (Z0m r):=
 Zi.mk (fn:=f228) (c:=Ut f228) (by kernel_rfl) (by kernel_rfl) (by kernel_rfl) (Nat.le_of_ble_eq_true (by kernel_rfl)) λΓ=>DWP.noX (λb=>rfl) λΓ d=>body153 h d
end Go.Proofs
