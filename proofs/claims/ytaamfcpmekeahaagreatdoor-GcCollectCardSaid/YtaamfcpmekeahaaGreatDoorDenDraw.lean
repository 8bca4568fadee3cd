/-
  Regions that draw their order: an operation reads its operands, its guard and the heap, and yields a value or a new block; what is not bound to an order may change places.
-/
import Derived.Test.YtaamfcpmekeahaaGreatDoorDenGc
import Derived.Orders
set_option linter.unusedVariables false
set_option linter.unusedSimpArgs false
namespace Go.Den
open Go.RowKit
def Xq (n:Nat):List Nat→Bool
 | [] =>false
 | x::r=>match n==x with
  | true=>true
  | false=>Xq n r
inductive K6 where
 | val (d:D)
 | blk (k:Blk) (v:Nat→D)
def Qq (σ:S) (dst:Option Nat):K6→Option S
 | .val d=>some (σ.put dst d)
 | .blk k v=>match dst with
  | some t=>match σ.heap t with
   | none=>some ((σ.setB t (some k)).put (some t) (v t))
   | some _=>none
  | none=>none
def Z08 (P:Program) (σ:S) (f:FuncId) (args:List D) (told:X8):Option (D×Prop):=
 match told.ans,told.io with
 | .val r,none=>
  match Vz σ args with
  | some (ds,l,p)=>
   match r.scalar||l.isEmpty with
   | true=>some (r,p∧ds=(Kt told ds)∧Z3q P f (Kt told ds) r)
   | false=>none
  | none=>none
 | _,_=>none
def Z3u (P:Program) (σ:S) (src dst:TypeId) (x:D) (told:X8):Option (D×Prop):=
 match P.underlying dst,Ln P src with
 | some .string,some e=>
  match P.underlying e,Un P e with
  | some (.int .u8),some 1=>
   match Ly σ x,told.ans with
   | some (rows,q),.val (.str s)=>some (.str s,q∧Mp rows=some s)
   | _,_=>none
  | _,_=>none
 | _,_=>none
def Ug (P : Program) (σ:S) (o:Oper) (told:X8):Option (K6×Prop):=
 match Xx σ o with
 | false=>none
 | true=>
  match Q1 P σ o told.ans with
  | some (d,p)=>some (.val d,p)
  | none=>
   match o.op with
   | .alloc e=>
    match Kq P e with
    | some cs=>some (.blk { sz:=cs.length,rows:=[cs],frz:=0,pure:=false,ty:=tyR told.ro e } (λt=> .lptr t 0 0),True)
    | none=>none
   | .box _ x=>
    match cellsOf (σ.ev x) with
    | some cs=>match told.ro with
     | true=>(match cs.all D.dat with
      | true=>some (.val (.ptr cs),True)
      | false=>none)
     | false=>some (.blk { sz:=cs.length,rows:=[cs],frz:=0,pure:=false } (λt=> .lptr t 0 0),True)
    | none=>none
   | .build t parts=>
    match Kq P t,Zid P t with
    | some z,some pl=>
     match Z0c pl z (parts.toList.map λx=>(x.1,σ.ev x.2)) with
     | some cs=>some (.val (.agg cs),True)
     | none=>none
    | _,_=>none
   | .buildSlice t len parts=>
    match Ln P t with
    | some e=>
     match P.info? e with
     | some ie =>
      match Vz σ (parts.toList.map λx=>σ.ev x.2) with
      | some (ds,[],p)=>
       match Z0c (λi=>some (i*ie.size,ie.size)) (List.replicate (len*ie.size) .undef) ((parts.toList.map (·.1)).zip ds) with
       | some cs=>match cs.all D.dat&&Nat.ble (len*ie.size) 16777216&&(Kq P e).isSome with
        | true=>match told.ro with
         | true=>(match told.rows with
          | none=>some (.val (.sl true (L4 ie.size len cs)),p)
          | some _=>none)
         | false=>some (.blk { sz:=ie.size,rows:=L4 ie.size len cs,frz:=0,pure:=true,ty:=tyR told.mt e } (λt=> .lsl t 0 len),p)
        | false=>none
       | none=>none
      | _=>none
     | none=>none
    | none=>none
   | .makeSlice t l c=>
    match Ln P t,σ.ev l,σ.ev c with
    | some e,.int _ l,.int _ c=>
     match P.info? e,Zb4 P e with
     | some ie,some z=>match z.length==ie.size&&z.all D.dat with
      | true=>
       let rows:=told.rows.getD (List.replicate l.toNat z)
       some (.blk { sz:=ie.size,rows,frz:=0,pure:=true } (λt=> .lsl t 0 rows.length),0≤l∧l≤c∧(ie.bytes:Int)*c≤281474976710656∧c≤9223372036854775807∧List.replicate l.toNat z=rows)
      | false=>none
     | _,_=>none
    | _,_,_=>none
   | .convert src dst x=>
    match Z3u P σ src dst (σ.ev x) told with
    | some (d,p)=>some (.val d,p)
    | none=>none
   | .call { callee:= .value f,args,.. }=>
    match σ.ev f with
    | .fn f=>match Z08 P σ f (args.toList.map σ.ev) told with
     | some (d,p)=>some (.val d,p)
     | none=>none
    | _=>none
   | _=>none
variable {P:Program} {Γ:Ctx} {σ τ σ':S} {a:Act} {w w':World} {G G':Nat→Nat} {β β':Nat→Option (Nat×Nat)}
theorem Zsy (σ:S):σ.freezeL []=σ:=rfl
theorem Zi4 {o:Oper} {blk:Blk} {v:Nat→D} {p:Prop} (c:Xx σ o=true) (h:Qq σ o.dst (.blk blk v)=some σ'):Ju σ o blk v p=some (σ',p):=by
 simp only[Qq] at h
 unfold Ju
 split at h
 ·rename_i t b
  rw[b]
  split at h
  ·rename_i e
   cases h
   have:Nat.blt t σ.n=true:=by simpa [Xx,b] using c
   simp only[e,this]
  ·cases h
 ·cases h
theorem Y40 {o:Oper} {told:X8} {y:K6} {p:Prop} (h:Ug P σ o told=some (y,p)) (i:Qq σ o.dst y=some σ'):V1 P σ o told=some (σ',p):=by
 unfold Ug at h
 split at h
 ·cases h
 ·rename_i u
  unfold V1
  split at h
  ·rename_i d q hq
   cases h; simp only[Qq,Option.some.injEq] at i; subst i
   rw[hq]; dsimp only; rw[u]
  ·rename_i Q
   rw[Q]
   dsimp only
   unfold W7
   split at h
   ·rename_i e heq
    simp only[heq]
    split at h
    ·rename_i cs M; cases h; simp only[M]; exact Zi4 u i
    ·cases h
   ·rename_i e x heq
    simp only[heq]
    split at h
    ·rename_i cs M
     simp only[M]
     split at h
     ·rename_i j
      split at h
      ·rename_i F
       cases h; simp only[Qq,Option.some.injEq] at i; subst i; simp only[j,F,u]
      ·cases h
     ·rename_i j; cases h; simp only[j]; exact Zi4 u i
    ·cases h
   ·rename_i t parts heq
    simp only[heq]
    split at h
    ·rename_i z pl m n
     split at h
     ·rename_i cs v; cases h; simp only[Qq,Option.some.injEq] at i; subst i; simp only[m,n,v,u]
     ·cases h
    ·cases h
   ·rename_i t len parts heq
    simp only[heq]
    split at h
    ·rename_i e m
     split at h
     ·rename_i ie n
      split at h
      ·rename_i ds q v
       split at h
       ·rename_i cs E
        split at h
        ·rename_i A
         split at h
         ·rename_i j
          split at h
          ·rename_i J
           cases h; simp only[Qq,Option.some.injEq] at i; subst i; simp only[m,n,v,E,A,j,u,Zsy,J]
          ·cases h
         ·rename_i j
          cases h; simp only[m,n,v,E,A,j,Zsy]; exact Zi4 u i
        ·cases h
       ·cases h
      ·cases h
     ·cases h
    ·cases h
   ·rename_i t l c heq
    simp only[heq]
    split at h
    ·rename_i e k l' V c' m n v
     split at h
     ·rename_i ie z E A
      split at h
      ·rename_i H; cases h; simp only[m,n,v,E,A,H]; exact Zi4 u i
      ·cases h
     ·cases h
    ·cases h
   ·rename_i src dst x heq
    simp only[heq]
    split at h
    ·rename_i d q B
     cases h; simp only[Qq,Option.some.injEq] at i; subst i
     unfold Z3u at B
     unfold Z2h
     split at B
     ·rename_i e m n
      split at B
      ·rename_i v E
       split at B
       ·rename_i rows U s A H
        cases B
        split
        ·rename_i b L; rw[L] at A; cases A
        ·have K:Z3l P σ src dst (σ.ev x)=false:=by
          unfold Z3l
          split
          ·split
           ·rename_i N; rw[m] at N; cases N
           ·rfl
          ·rfl
         simp only[K,Bool.false_and,m,n,v,E,A,H,u]
       ·cases B
      ·cases B
     ·cases B
    ·cases h
   ·rename_i f args ts heq
    simp only[heq]
    split at h
    ·rename_i g O
     split at h
     ·rename_i d q C
      cases h; simp only[Qq,Option.some.injEq] at i; subst i
      unfold Z08 at C
      unfold Z3w
      split at C
      ·rename_i r T I
       split at C
       ·rename_i ds l U m
        split at C
        ·rename_i n
         cases C
         simp only[O,I,T,m,u]
         cases hs:d.scalar with
         | true=>rfl
         | false=>
          simp only[hs,Bool.false_or,List.isEmpty_iff] at n
          subst n; rfl
        ·cases C
       ·cases C
      ·cases C
     ·cases h
    ·cases h
   ·cases h
structure More (o:Oper) (σ τ:S):Prop where
 n:τ.n=σ.n
 ev:∀ x∈o.op.operands,τ.ev x=σ.ev x
 heap:∀ b k,σ.heap b=some k→τ.heap b=some k
variable {o:Oper}
theorem Y3u (e:∀ b k,σ.heap b=some k→τ.heap b=some k) {x:D} {ans:Ans} {r:List D×Prop} (h:Mb σ x ans=some r):Mb τ x ans=some r:=by
 unfold Mb at*
 split at h
 ·exact h
 ·split at h
  ·rename_i blk c; rw[e _ _ c]; exact h
  ·cases h
 ·cases h
theorem Y56 (e:∀ b k,σ.heap b=some k→τ.heap b=some k) {t:TypeId} {x:D} {ans:Ans} {r:D×Prop} (h:Ls P σ t x ans=some r):Ls P τ t x ans=some r:=by
 unfold Ls at*
 split at h
 ·rename_i cs p c; rw[Y3u e c]; exact h
 ·cases h
theorem Y4m (e:∀ b k,σ.heap b=some k→τ.heap b=some k) {t:TypeId} {x i:D} {ans:Ans} {r:D×Prop} (h:Z0d P σ t x i ans=some r):Z0d P τ t x i ans=some r:=by
 unfold Z0d at*
 split at h
 ·split at h
  ·split at h
   ·split at h
    ·exact h
    ·split at h
     ·rename_i blk c; simp only[e _ _ c]; exact h
     ·cases h
    ·cases h
   ·cases h
  ·exact h
  ·cases h
 ·cases h
theorem Y6l (f:∀ b k,σ.heap b=some k→τ.heap b=some k) {t:TypeId} {x:D} {lo c mx:Option D} {ans:Ans} {r:D×Prop} (h:Z11 P σ t x lo c mx ans=some r):Z11 P τ t x lo c mx ans=some r:=by
 unfold Z11 at*
 split at h
 ·exact h
 ·exact h
 ·split at h
  ·rename_i blk sz e hs; simp only[f _ _ e,hs]; exact h
  ·cases h
 ·cases h
theorem Zs3 (e:∀ b k,σ.heap b=some k→τ.heap b=some k) {d:D} {r:D×List Nat×Prop} (h:Ww σ d=some r):Ww τ d=some r:=by
 unfold Ww at*
 split at h
 ·split at h
  ·rename_i blk c; simp only[e _ _ c]; exact h
  ·cases h
 ·split at h
  ·rename_i blk c; simp only[e _ _ c]; exact h
  ·cases h
 ·exact h
 ·exact h
theorem Zs6 (c:∀ b k,σ.heap b=some k→τ.heap b=some k):∀ {ds:List D} {r:List D×List Nat×Prop},Lm σ ds=some r→Lm τ ds=some r
 | [],r,h=>h
 | d :: l,r,h=>by
  unfold Lm at*
  split at h
  ·rename_i d' g j n i m e f
   rw[Zs3 c e,Zs6 c f]; exact h
  ·cases h
theorem Y3q (c:∀ b k,σ.heap b=some k→τ.heap b=some k) {d:D} {r:D×List Nat×Prop} (h:Ll σ d=some r):Ll τ d=some r:=by
 unfold Ll at*
 split at h
 ·split at h
  ·rename_i cs' l p e; rw[Zs6 c e]; exact h
  ·cases h
 ·exact Zs3 c h
theorem Zka (c:∀ b k,σ.heap b=some k→τ.heap b=some k):∀ {ds:List D} {r:List D×List Nat×Prop},Vz σ ds=some r→Vz τ ds=some r
 | [],r,h=>h
 | d :: l,r,h=>by
  unfold Vz at*
  split at h
  ·rename_i d' g j n i m e f
   rw[Y3q c e,Zka c f]; exact h
  ·cases h
theorem Y68 (e:∀ b k,σ.heap b=some k→τ.heap b=some k) {d:D} {r:List (List D)×Prop} (h:Ly σ d=some r):Ly τ d=some r:=by
 unfold Ly at*
 split at h
 ·exact h
 ·split at h
  ·rename_i blk c; simp only[e _ _ c]; exact h
  ·cases h
 ·cases h
theorem Y37 (f:∀ b k,σ.heap b=some k→τ.heap b=some k) {src dst:TypeId} {x:D} {told:X8} {r:D×Prop} (h:Z3u P σ src dst x told=some r):Z3u P τ src dst x told=some r:=by
 unfold Z3u at*
 split at h
 ·split at h
  ·split at h
   ·rename_i rows q s c e; rw[Y68 f c]; simp only[e]; exact h
   ·cases h
  ·cases h
 ·cases h
theorem Y3b (c:∀ b k,σ.heap b=some k→τ.heap b=some k) {f:FuncId} {args:List D} {told:X8} {r:D×Prop} (h:Z08 P σ f args told=some r):Z08 P τ f args told=some r:=by
 unfold Z08 at*
 split at h
 ·split at h
  ·rename_i ds l p e; rw[Zka c e]; exact h
  ·cases h
 ·cases h
theorem Zo8 {ans:Ans} (p:More o σ τ) {r:D×Prop} (h:Q1 P σ o ans=some r):Q1 P τ o ans=some r:=by
 obtain⟨dst,op,ty,pos,after,guard⟩:=o
 have e:=p.ev
 have j:=p.heap
 cases op <;> simp only[Op.operands] at e <;> simp only[Q1] at h ⊢
 case move x=>rw[e x (by simp)]; exact h
 case assign x=>rw[e x (by simp)]; exact h
 case pick c x y=>rw[e c (by simp),e x (by simp),e y (by simp)]; exact h
 case binOp b xt x y yt=>rw[e x (by simp),e y (by simp)]; exact h
 case unOp u t x=>rw[e x (by simp)]; exact h
 case convert s t x=>rw[e x (by simp)]; exact h
 case load t x=>rw[e x (by simp)]; exact Y56 j h
 case fieldAddr s x f=>rw[e x (by simp)]; exact h
 case field s x f=>rw[e x (by simp)]; exact h
 case indexAddr t x i=>rw[e x (by simp),e i (by simp)]; exact Y4m j h
 case index t x i=>rw[e x (by simp),e i (by simp)]; exact h
 case slice t x lo k mx=>
  have q:lo.map τ.ev=lo.map σ.ev:=by cases lo with|none=>rfl|some l=>simp[e l (by simp)]
  have v:k.map τ.ev=k.map σ.ev:=by cases k with|none=>rfl|some l=>simp[e l (by simp)]
  have z:mx.map τ.ev=mx.map σ.ev:=by cases mx with|none=>rfl|some l=>simp[e l (by simp)]
  rw[e x (by simp),q,v,z]; exact Y6l j h
 case extract x i=>rw[e x (by simp)]; exact h
 case nilCheck x=>rw[e x (by simp)]; exact h
 case call c=>
  obtain⟨callee,args,ts⟩:=c
  cases callee with
  | builtin b=>
   cases b with
   | len=>
    dsimp only at h ⊢
    split at h
    ·rename_i x t A B
     have n:x∈args:=Array.mem_of_getElem? A
     rw[e x (by simpa [Call.operands] using n)]; exact h
    ·cases h
   | unsafeSliceData=>
    match args,h,e with
    | ⟨[x]⟩,h,e=>
     dsimp only at h ⊢
     rw[e x (by simp[Call.operands])]; exact h
    | ⟨[]⟩,h,_=>cases h
    | ⟨_::_::_⟩,h,_=>cases h
   | max=>
    match args,h,e with
    | ⟨[x,y]⟩,h,e=>
     dsimp only at h ⊢
     rw[e x (by simp[Call.operands]),e y (by simp[Call.operands])]; exact h
    | ⟨[]⟩,h,_=>cases h
    | ⟨[_]⟩,h,_=>cases h
    | ⟨_::_::_::_⟩,h,_=>cases h
   | min=>
    match args,h,e with
    | ⟨[x,y]⟩,h,e=>
     dsimp only at h ⊢
     rw[e x (by simp[Call.operands]),e y (by simp[Call.operands])]; exact h
    | ⟨[]⟩,h,_=>cases h
    | ⟨[_]⟩,h,_=>cases h
    | ⟨_::_::_::_⟩,h,_=>cases h
   | _=>cases h
  | value f=>cases h
  | invoke r m=>cases h
 case makeFunc f first captured=>
  rw[List.map_congr_left (g:=σ.ev) λx n=>e x (by simp[Op.operands]; exact .inr (by simpa using n))]; exact h
 all_goals cases h
theorem Zkc {told:X8} (s:More o σ τ) {r:K6×Prop} (h:Ug P σ o told=some r):Ug P τ o told=some r:=by
 unfold Ug at*
 have C:Xx τ o=Xx σ o:=by unfold Xx; rw[s.n]
 rw[C]
 split at h
 ·cases h
 ·rename_i E
  split at h
  ·rename_i d p hp
   rw[Zo8 s hp]; exact h
  ·rename_i v
   obtain⟨dst,op,ty,pos,after,guard⟩:=o
   have i:=s.ev
   have u:=s.heap
   cases op <;> simp only[Op.operands] at i
   case alloc e=>exact h
   case box e x=>simp only[Q1] at h ⊢; rw[i x (by simp)]; exact h
   case build t parts=>
    have j:(parts.toList.map λx=>(x.1,τ.ev x.2))=(parts.toList.map λx=>(x.1,σ.ev x.2)):=List.map_congr_left λx k=>by
     rw[i x.2 (by simp; exact⟨x.1,by simpa using k⟩)]
    simp only[Q1,j] at h ⊢; exact h
   case buildSlice t len parts=>
    have j:(parts.toList.map λx=>τ.ev x.2)=(parts.toList.map λx=>σ.ev x.2):=List.map_congr_left λx k=>by
     rw[i x.2 (by simp; exact⟨x.1,by simpa using k⟩)]
    simp only[Q1] at h ⊢
    rw[j]
    split at h
    ·rename_i e F
     split at h
     ·rename_i ie y
      split at h
      ·rename_i ds q z; simp only[y,Zka u z]; exact h
      ·cases h
     ·cases h
    ·cases h
   case makeSlice t l c=>simp only[Q1] at h ⊢; rw[i l (by simp),i c (by simp)]; exact h
   case convert src dst x=>
    have j:=i x (by simp)
    simp only[Q1] at h v ⊢
    rw[j,v]
    simp only[v] at h ⊢
    split at h
    ·rename_i d q A; rw[Y37 u A]; exact h
    ·cases h
   case call c=>
    obtain⟨callee,args,ts⟩:=c
    cases callee with
    | value f=>
     simp only[Q1] at h ⊢
     have j:args.toList.map τ.ev=args.toList.map σ.ev:=List.map_congr_left λx k=>i x (by simp[Call.operands]; exact .inr (by simpa using k))
     rw[i f (by simp[Call.operands]),j]
     split at h
     ·rename_i g H
      split at h
      ·rename_i d q B; rw[Y3b u B]; exact h
      ·cases h
     ·cases h
    | builtin b=>cases h
    | invoke r m=>cases h
   all_goals cases h
def Lb:D→Bool
 | .lptr .. |.lsl .. |.agg _|.tup _|.clo .. |.lsk .. =>false
 | _=>true
def Jk:D→Bool
 | .agg cs=>cs.all Lb
 | d=>Lb d
def Vu:D→Bool
 | .tup vs=>vs.all Jk
 | d=>Jk d
theorem Y4u {d:D} (h:Lb d=true) (b:Nat):d.killA b=d:=by cases d <;> first|rfl|cases h
theorem Zte {d:D} (h:Jk d=true) (b:Nat):d.killB b=d:=by
 cases d with
 | agg cs=>
  simp only[Jk,List.all_eq_true] at h
  simp only[D.killB,D.agg.injEq]
  exact(List.map_congr_left λx e=>Y4u (h x e) b).trans (List.map_id _)
 | tup vs=>simp[Jk,Lb] at h
 | lptr c i o=>simp[Jk,Lb] at h
 | lsl c lo n=>simp[Jk,Lb] at h
 | clo f bs=>simp[Jk,Lb] at h
 | lsk f c lo n=>simp[Jk,Lb] at h
 | _=>rfl
theorem Ztg {d:D} (h:Vu d=true) (b:Nat):d.kill b=d:=by
 cases d with
 | tup vs=>
  simp only[Vu,List.all_eq_true] at h
  simp only[D.kill,D.tup.injEq]
  exact(List.map_congr_left λx e=>Zte (h x e) b).trans (List.map_id _)
 | agg cs=>exact Zte (d:= .agg cs) h b
 | lptr c i o=>simp[Vu,Jk,Lb] at h
 | lsl c lo n=>simp[Vu,Jk,Lb] at h
 | clo f bs=>simp[Vu,Jk,Lb] at h
 | lsk f c lo n=>simp[Vu,Jk,Lb] at h
 | _=>rfl
structure Fr (dst:Option Nat) (σ σ':S):Prop where
 n:σ'.n=σ.n
 tmps:∀ t,dst≠some t→Vu (σ.tmps t)=true→σ'.tmps t=σ.tmps t
theorem Fr.refl (dst:Option Nat) (σ:S):Fr dst σ σ:=⟨rfl,λ_ _ _=>rfl⟩
theorem Fr.trans {dst:Option Nat} {a b c:S} (h:Fr dst a b) (k:Fr dst b c):Fr dst a c:=
 ⟨k.n.trans h.n,λt f e=>by rw[k.tmps t f (by rw[h.tmps t f e]; exact e),h.tmps t f e]⟩
theorem Fr.put {dst:Option Nat} {a b:S} (h:Fr dst a b) (d:D):Fr dst a (b.put dst d):=h.trans ⟨by cases dst <;> rfl,λt c f=>by
 cases dst with
 | none=>rfl
 | some u=>simp only[S.put]; rw[if_neg (λe=>c (by rw[e]))]⟩
theorem Fr.setB {dst:Option Nat} {a b:S} (h:Fr dst a b) (k:Nat) (x:Option Blk):Fr dst a (b.setB k x):=⟨h.n,h.tmps⟩
theorem Fr.drop {dst:Option Nat} {a b:S} (h:Fr dst a b) (k:Nat):Fr dst a (b.drop k):=h.trans ⟨rfl,λt _ c=>Ztg c k⟩
theorem Fr.freezeL {dst:Option Nat} {a b:S} (h:Fr dst a b) (l:List Nat):Fr dst a (b.freezeL l):=h.trans ⟨(Z44 l b).2,λt _ _=>by rw[(Z44 l b).1]⟩
theorem Fr.dropL {dst:Option Nat} {a:S}:∀ (l:List Nat) {b:S},Fr dst a b→Fr dst a (b.dropL l)
 | [],_,h=>h
 | x::l,_,h=>Fr.dropL l (h.drop x)
theorem Fr.setL {dst:Option Nat} {a b:S} (h:Fr dst a b) (ρ:List Nat) (bs:List Blk):Fr dst a (b.setL ρ bs):=⟨h.n,h.tmps⟩
theorem Znv:∀ (l:List (Nat×Nat)) {σ σ':S},σ.nilL l=some σ'→σ'.tmps=σ.tmps∧σ'.n=σ.n
 | [],σ,σ',hs=>by cases hs; exact⟨rfl,rfl⟩
 | (b,sz)::l,σ,σ',hs=>by
  unfold S.nilL at hs
  split at hs
  ·obtain⟨c,e⟩:=Znv l hs
   exact⟨c,e⟩
  ·cases hs
theorem Zak {o:Oper} {blk:Blk} {v:Nat→D} {p q:Prop} (h:Ju τ o blk v p=some (σ',q)) (b:Fr o.dst σ τ):Fr o.dst σ σ':=by
 obtain⟨t,e,f,c,rfl,-⟩:=Z1x h
 rw[e] at b ⊢
 exact(b.setB t _).put _
theorem Y6r {o:Oper} {told:X8} {p:Prop} (h:V1 P σ o told=some (σ',p)):Fr o.dst σ σ':=by
 have b:=Fr.refl o.dst σ
 unfold V1 at h
 split at h
 ·split at h
  ·cases h; exact b.put _
  ·cases h
 ·unfold W7 at h
  split at h
  ·split at h
   ·exact Zak h b
   ·cases h
  ·split at h
   ·split at h
    ·split at h
     ·cases h; exact b.put _
     ·cases h
    ·exact Zak h b
   ·cases h
  ·split at h
   ·split at h
    ·split at h
     ·cases h; exact b.put _
     ·cases h
    ·cases h
   ·cases h
  ·split at h
   ·split at h
    ·split at h
     ·split at h
      ·split at h
       ·split at h
        ·split at h
         ·split at h
          ·cases h; exact(b.freezeL _).put _
          ·cases h; exact(b.freezeL _).put _
         ·cases h
        ·exact Zak h (b.freezeL _)
       ·cases h
      ·cases h
     ·cases h
    ·cases h
   ·cases h
  ·split at h
   ·split at h
    ·split at h
     ·exact Zak h b
     ·cases h
    ·cases h
   ·cases h
  ·unfold Z2h at h
   repeat' split at h
   all_goals first|(cases h; done)|(cases h; exact b.put _)
  ·unfold Z29 at h
   repeat' split at h
   all_goals first|(cases h; done)|(cases h; exact(b.setB _ _).put _)
  ·split at h
   ·split at h
    ·unfold Z3w at h
     repeat' split at h
     all_goals first|(cases h; done)|(cases h; exact b.put _)|(cases h; exact(b.freezeL _).put _)
    ·unfold Z2i at h
     split at h
     ·split at h
      ·rename_i σ0 c
       have e:Fr o.dst σ σ0:=⟨(Znv _ c).2,λt _ _=>by rw[(Znv _ c).1]⟩
       split at h
       ·split at h
        ·split at h
         ·cases h
          exact((Fr.dropL _ (e.freezeL _)).setL _ _).put _
         ·cases h
        ·cases h
       ·cases h
      ·cases h
     ·cases h
   ·cases h
  ·split at h
   ·unfold Z2g at h
    repeat' split at h
    all_goals first
     | (cases h; done)
     | (cases h; exact((b.drop _).setB _ _).put _)
     | exact Zak h b
   ·cases h
  ·split at h
   ·unfold unsD at h
    repeat' split at h
    all_goals first|(cases h; done)|(cases h; exact((b.drop _).setB _ _).put _)
   ·cases h
  ·cases h
section
variable {db:Nat} {d:D}
theorem Wj {x:Option Nat} (e:x≠some db) (σ:S) (u:D):(σ.put (some db) d).put x u=(σ.put x u).put (some db) d:=by
 cases x with
 | none=>rfl
 | some t=>
  simp only[S.put,S.mk.injEq,true_and,and_true]
  funext v
  by_cases b:v=t <;> by_cases c:v=db
  ·subst b c; exact absurd rfl e
  ·simp[b,c]; intro h; subst b; exact absurd h c
  ·simp[b,c]; intro h; subst c; exact absurd h b
  ·simp[b,c]
theorem Mu (σ:S) (b:Nat) (k:Option Blk):(σ.put (some db) d).setB b k=(σ.setB b k).put (some db) d:=rfl
theorem Z6u (c:Vu d=true) (σ:S) (b:Nat):(σ.put (some db) d).drop b=(σ.drop b).put (some db) d:=by
 simp only[S.put,S.drop,S.mk.injEq,true_and,and_true]
 funext v
 split
 ·exact Ztg c b
 ·rfl
theorem Z43:∀ (l:List Nat) (σ:S),(σ.put (some db) d).freezeL l=(σ.freezeL l).put (some db) d
 | [],_=>rfl
 | b::l,σ=>Z43 l (σ.freeze b)
theorem Zsg (c:Vu d=true):∀ (l:List Nat) (σ:S),(σ.put (some db) d).dropL l=(σ.dropL l).put (some db) d
 | [],_=>rfl
 | b::l,σ=>by
  show ((σ.put (some db) d).drop b).dropL l=_
  rw[Z6u c,Zsg c l]; rfl
theorem Zvc (σ:S) (ρ:List Nat) (bs:List Blk):(σ.put (some db) d).setL ρ bs=(σ.setL ρ bs).put (some db) d:=rfl
theorem Zu6:∀ (l:List (Nat×Nat)) (σ:S),(σ.put (some db) d).nilL l=(σ.nilL l).map (·.put (some db) d)
 | [],_=>rfl
 | (b,sz)::l,σ=>by
  show (match σ.heap b with
   | none=>((σ.put (some db) d).setB b (some { sz,rows:=[],frz:=0,pure:=true })).nilL l
   | some _=>none)=Option.map _ (match σ.heap b with
   | none=>(σ.setB b (some { sz,rows:=[],frz:=0,pure:=true })).nilL l
   | some _=>none)
  cases σ.heap b with
  | none=>exact Zu6 l (σ.setB b (some { sz,rows:=[],frz:=0,pure:=true }))
  | some _=>rfl
theorem Zv1 (σ:S) (x:D):Ly (σ.put (some db) d) x=Ly σ x:=by cases x <;> rfl
theorem Zu4 (σ:S) (t b:TypeId) (x:D):Z1y P (σ.put (some db) d) t b x=Z1y P σ t b x:=by
 unfold Z1y
 split
 ·rfl
 ·rw[Zv1]
theorem Zsa (σ:S) (ds:List D):Vz (σ.put (some db) d) ds=Vz σ ds:=Zjw (σ:=σ) (σ':=σ.put (some db) d) (λ_=>rfl) ds
theorem Zl9 (kp:Bool) (σ:S) (ρ:List Nat) (ds:List D):Uj kp (σ.put (some db) d) ρ ds=Uj kp σ ρ ds:=Zjx (σ:=σ) (σ':=σ.put (some db) d) (λ_=>rfl) ds
theorem Zl2 {ρ:List Nat} {mark:Option Nat→Nat→Option Nat} (σ:S):∀ (l:List Nat) (j:Nat),L8 (σ.put (some db) d) ρ mark j l=L8 σ ρ mark j l
 | [],_=>rfl
 | b::r,j=>by
  unfold L8
  rw[Zl2 σ r (j+1)]
  rfl
theorem Zo5 {ρ:List Nat} (σ:S):∀ (l:List Nat) (bs:List Blk) (j:Nat),Jm (σ.put (some db) d) ρ j l bs=Jm σ ρ j l bs
 | [],_,_=>rfl
 | _::_,[],_=>rfl
 | b::r,k::l,j=>by
  unfold Jm
  rw[Zo5 σ r l (j+1)]
  rfl
theorem Zal {o:Oper} (b:o.dst≠some db) (σ:S) (blk:Blk) (v:Nat→D) (p:Prop):Ju (σ.put (some db) d) o blk v p=(Ju σ o blk v p).map λr=>(r.1.put (some db) d,r.2):=by
 unfold Ju
 cases c:o.dst with
 | none=>rfl
 | some t=>
  rw[c] at b
  show (match σ.heap t with
   | some _=>none
   | none=>match Nat.blt t σ.n with
    | true=>some ((((σ.put (some db) d).setB t (some blk)).put (some t) (v t),p):S×Prop)
    | false=>none)=Option.map _ (match σ.heap t with
   | some _=>none
   | none=>match Nat.blt t σ.n with
    | true=>some (((σ.setB t (some blk)).put (some t) (v t),p):S×Prop)
    | false=>none)
  cases σ.heap t with
  | some _=>rfl
  | none=>
   cases Nat.blt t σ.n with
   | false=>rfl
   | true=>
    show some ((((σ.put (some db) d).setB t (some blk)).put (some t) (v t),p):S×Prop)=some _
    rw[Mu,Wj b]
theorem Ut (o:Oper) (σ:S):Xx (σ.put (some db) d) o=Xx σ o:=by unfold Xx; rfl
theorem Y6s {o : Oper} (E : Vu d=true) (u:o.dst≠some db) {σ:S} (k:∀ x∈o.op.operands,(σ.put (some db) d).ev x=σ.ev x) (told:X8):
  V1 P (σ.put (some db) d) o told=(V1 P σ o told).map λr=>(r.1.put (some db) d,r.2):=by
 have hp:Q1 P (σ.put (some db) d) o told.ans=Q1 P σ o told.ans:=by
  cases J:Q1 P σ o told.ans with
  | some r=>exact Zo8 (o:=o) (σ:=σ) (τ:=σ.put (some db) d) ⟨rfl,k,λ_ _ h=>h⟩ J
  | none=>
   cases M:Q1 P (σ.put (some db) d) o told.ans with
   | none=>rfl
   | some r=>
    have:=Zo8 (o:=o) (σ:=σ.put (some db) d) (τ:=σ) ⟨rfl,λx y=>(k x y).symm,λ_ _ h=>h⟩ M
    rw[J] at this; cases this
 unfold V1
 rw[hp,Ut]
 cases H:Q1 P σ o told.ans with
 | some r=>
  dsimp only
  cases Xx σ o with
  | true=>simp only[Option.map_some,Wj u]
  | false=>rfl
 | none=>
  dsimp only
  clear hp H
  obtain⟨dst,op,ty,pos,after,guard⟩:=o
  unfold W7
  cases op <;> simp only[Op.operands] at k <;> dsimp only at u ⊢
  case alloc e=>
   cases Kq P e with
   | none=>rfl
   | some cs=>exact Zal u σ _ _ _
  case box e x=>
   rw[k x (by simp)]
   cases cellsOf (σ.ev x) with
   | none=>rfl
   | some cs=>
    dsimp only
    cases told.ro with
    | true=>
     dsimp only
     rw[Ut]
     cases cs.all D.dat <;> cases Xx σ _ <;> first|rfl|simp only[Option.map_some,Wj u]
    | false=>exact Zal u σ _ _ _
  case build t parts=>
   have B:(parts.toList.map λx=>(x.1,(σ.put (some db) d).ev x.2))=(parts.toList.map λx=>(x.1,σ.ev x.2)):=List.map_congr_left λx y=>by
    rw[k x.2 (by simp; exact⟨x.1,by simpa using y⟩)]
   rw[B,Ut]
   repeat' split
   all_goals first|rfl|simp only[Option.map_some,Wj u]|(exfalso; simp_all; done)|simp_all
  case buildSlice t len parts=>
   have B:(parts.toList.map λx=>(σ.put (some db) d).ev x.2)=(parts.toList.map λx=>σ.ev x.2):=List.map_congr_left λx y=>by
    rw[k x.2 (by simp; exact⟨x.1,by simpa using y⟩)]
   rw[B,Zsa]
   cases Ln P t with
   | none=>rfl
   | some e=>
    dsimp only
    cases P.info? e with
    | none=>rfl
    | some ie =>
     dsimp only
     cases Vz σ (parts.toList.map λx=>σ.ev x.2) with
     | none=>rfl
     | some r=>
      obtain⟨ds,l,q⟩:=r
      dsimp only
      cases Z0c (λi=>some (i*ie.size,ie.size)) (List.replicate (len*ie.size) .undef) ((parts.toList.map (·.1)).zip ds) with
      | none=>rfl
      | some cs=>
       dsimp only
       cases cs.all D.dat&&Nat.ble (len*ie.size) 16777216&&(Kq P e).isSome with
       | false=>rfl
       | true=>
        dsimp only
        cases told.ro with
        | true=>
         dsimp only
         rw[Ut,Z43]
         cases Xx σ _ <;> cases told.rows <;> first|rfl|simp only[Option.map_some,Wj u]
        | false=>dsimp only; rw[Z43]; exact Zal u _ _ _ _
  case makeSlice t l c=>
   rw[k l (by simp),k c (by simp)]
   generalize Ln P t=X
   generalize σ.ev l=L
   generalize σ.ev c=C
   cases X <;> cases L <;> cases C <;> try rfl
   rename_i e _ l _ c
   dsimp only
   cases P.info? e with
   | none=>rfl
   | some ie=>
    cases Zb4 P e with
    | none=>rfl
    | some z=>
     dsimp only
     cases z.length==ie.size&&z.all D.dat with
     | false=>rfl
     | true=>exact Zal u σ _ _ _
  case convert src dst' x=>
   rw[k x (by simp)]
   unfold Z2h
   have F:∀ b,Z6q P (σ.put (some db) d) src dst' b=Z6q P σ src dst' b:=λ_=>rfl
   have I:∀ x,Z3l P (σ.put (some db) d) src dst' x=Z3l P σ src dst' x:=λ_=>rfl
   simp only[Zv1,Ut,F,I]
   repeat' split
   all_goals first|rfl|simp only[Option.map_some,Wj u]|(exfalso; simp_all; done)|simp_all
  case store t x v=>
   rw[k x (by simp),k v (by simp)]
   unfold Z29
   cases σ.ev x with
   | lptr b i off=>
    dsimp only
    rw[show (σ.put (some db) d).heap b=σ.heap b from rfl,Ut]
    cases σ.heap b with
    | none=>rfl
    | some blk=>
     cases cellsOf (σ.ev v) with
     | none=>rfl
     | some cs=>
      cases Un P t with
      | none=>rfl
      | some sz=>
       dsimp only
       cases cs.length==sz&&(!blk.pure||cs.all D.dat)&&Xx σ _ with
       | false=>rfl
       | true=>
        dsimp only
        cases told.row with
        | some r=>dsimp only; rw[Mu,Wj u]; rfl
        | none=>
         dsimp only
         cases blk.rows[i]? with
         | none=>rfl
         | some r=>dsimp only; rw[Mu,Wj u]; rfl
   | _=>rfl
  case call c =>
   obtain⟨callee,args,ts⟩:=c
   cases callee with
   | value f =>
    have B:args.toList.map (σ.put (some db) d).ev=args.toList.map σ.ev:=List.map_congr_left λx y=>k x (by simp[Call.operands]; exact .inr (by simpa using y))
    dsimp only
    rw[k f (by simp[Call.operands]),B]
    cases σ.ev f with
    | fn g=>
     dsimp only
     cases told.io with
     | none=>
      dsimp only
      unfold Z3w
      rw[Zsa,Ut]
      cases told.ans with
      | val r=>
       dsimp only
       cases Vz σ (args.toList.map σ.ev) with
       | none=>rfl
       | some q=>
        obtain⟨ds,l,p⟩:=q
        dsimp only
        cases Xx σ _ with
        | false=>rfl
        | true=>
         dsimp only
         cases r.scalar with
         | true=>dsimp only; rw[Wj u]; rfl
         | false=>dsimp only; rw[Z43,Wj u]; rfl
      | go=>
       dsimp only
       generalize args.toList.map σ.ev=A
       split
       ·simp only[Option.map_some,Wj u]
       ·rfl
      | _=>rfl
     | some io =>
      dsimp only
      unfold Z2i
      rw[Zu6,Ut]
      cases told.ans with
      | val r =>
       dsimp only
       cases K:σ.nilL io.fresh with
       | none=>rfl
       | some σ0=>
        simp only[Option.map_some]
        rw[Zl9]
        cases Uj io.kp σ0 io.names (Lw io.nils 0 (args.toList.map σ.ev)) with
        | none=>rfl
        | some q=>
         obtain⟨ds,l,p⟩:=q
         dsimp only
         rw[Z43,Zl2]
         cases L8 (σ0.freezeL l) io.names (λ_ j=>Z20 io.bs j) 0 io.names with
         | none=>rfl
         | some bs=>
          dsimp only
          cases Xx σ _&&Je io.names&&Km io.bs io.bs' with
          | false=>rfl
          | true=>dsimp only; rw[Zo5,Zsg E,Zvc,Wj u]; rfl
      | _=>rfl
    | _=>rfl
   | builtin b =>
    cases b with
    | append=>
     obtain⟨args⟩:=args
     obtain⟨ts⟩:=ts
     match args,ts,k with
     | [s, x], [t, N],k=>
      dsimp only
      rw[k s (by simp[Call.operands]),k x (by simp[Call.operands])]
      unfold Z2g
      rw[Zu4]
      cases Ln P t with
      | none=>rfl
      | some e=>
       dsimp only
       cases P.info? e with
       | none=>rfl
       | some ie =>
        cases Z1y P σ t N (σ.ev x) with
        | none=>rfl
        | some nq =>
         obtain⟨news,q⟩:=nq
         dsimp only
         cases ie.zero with
         | none=>rfl
         | some z=>
          dsimp only
          cases z.cells.size==ie.size&&Nat.blt 0 ie.size with
          | false=>rfl
          | true=>
           dsimp only
           split
           ·rename_i b n hs
            rw[show (σ.put (some db) d).heap b=σ.heap b from rfl,Ut]
            cases σ.heap b with
            | none=>rfl
            | some blk=>
             dsimp only
             cases blk.pure&&blk.sz==ie.size&&Xx σ _ with
             | false=>rfl
             | true=>dsimp only; rw[Z6u E,Mu,Wj u]; rfl
           ·rename_i b lo n hs
            rw[show (σ.put (some db) d).heap b=σ.heap b from rfl,Ut]
            cases σ.heap b with
            | none=>rfl
            | some blk=>
             dsimp only
             cases blk.pure&&blk.sz==ie.size&&Xx σ _&&news.length==1 with
             | false=>rfl
             | true=>dsimp only; rw[Z6u E,Mu,Wj u]; rfl
           ·rename_i b lo n hs
            rw[show (σ.put (some db) d).heap b=σ.heap b from rfl,Ut]
            cases σ.heap b with
            | none=>rfl
            | some blk=>
             dsimp only
             cases blk.pure&&blk.sz==ie.size&&Xx σ _&&news.length==1 with
             | false=>rfl
             | true=>dsimp only; rw[Z6u E,Mu,Wj u]; rfl
           ·exact Zal u σ _ _ _
           ·rfl
     | [],_,_=>rfl
     | [_],_,_=>rfl
     | _::_::_::_,_,_=>rfl
     | [_,_],[],_=>rfl
     | [_,_],[_],_=>rfl
     | [_,_],_::_::_::_,_=>rfl
    | unsafeString=>
     obtain⟨args⟩:=args
     obtain⟨ts⟩:=ts
     match args,ts,k with
     | [x, n],[pt,it],k=>
      dsimp only
      rw[k x (by simp[Call.operands]),k n (by simp[Call.operands])]
      unfold unsD
      simp only[Ut]
      split
      ·rename_i b m y O
       rw[show (σ.put (some db) d).heap b=σ.heap b from rfl]
       split
       ·split
        ·rw[Z6u E,Mu,Wj u]; rfl
        ·rfl
       ·rfl
      ·rfl
     | [],_,_=>rfl
     | [_],_,_=>rfl
     | _::_::_::_,_,_=>rfl
     | [_,_],[],_=>rfl
     | [_,_],[_],_=>rfl
     | [_,_],_::_::_::_,_=>rfl
    | _=>rfl
   | invoke r m=>rfl
  all_goals rfl
end
section
variable {R:Nat→Bool}
def Z5q (R:Nat→Bool):D→Bool
 | .lptr b _ _|.lsl b _ _|.lsk _ b _ _=>R b
 | .clo _ bs=>bs.all R
 | .agg _|.tup _=>false
 | _=>true
def Z3i (R:Nat→Bool):D→Bool
 | .agg cs=>cs.all (Z5q R)
 | d=>Z5q R d
def Wk (R:Nat→Bool):D→Bool
 | .tup vs=>vs.all (Z3i R)
 | d=>Z3i R d
def S.only (R:Nat→Bool) (σ:S):S:={ σ with heap:=λb=>match R b with
 | true=>σ.heap b
 | false=>none }
theorem Z5n {b:Nat} (h:R b=true):(σ.only R).heap b=σ.heap b:=by simp only[S.only,h]
theorem Y3v {x:D} (c:Wk R x=true) (ans:Ans):Mb σ x ans=Mb (σ.only R) x ans:=by
 cases x with
 | lptr b i o=>simp only[Mb,Z5n (σ:=σ) (show R b=true from c)]
 | _=>rfl
theorem load_on {t:TypeId} {x:D} (b:Wk R x=true) (ans:Ans):Ls P σ t x ans=Ls P (σ.only R) t x ans:=by
 unfold Ls; rw[Y3v b]
theorem Y4n {t:TypeId} {x i:D} (c:Wk R x=true) (ans:Ans):Z0d P σ t x i ans=Z0d P (σ.only R) t x i ans:=by
 unfold Z0d
 split
 ·split
  ·split
   ·split
    ·rfl
    ·rename_i b lo n; rw[Z5n (σ:=σ) (show R b=true from c)]
    ·rfl
   ·rfl
  ·rfl
  ·rfl
 ·rfl
theorem Y6m {t:TypeId} {x:D} {lo c mx:Option D} (f:Wk R x=true) (ans:Ans):Z11 P σ t x lo c mx ans=Z11 P (σ.only R) t x lo c mx ans:=by
 unfold Z11
 split
 ·rfl
 ·rfl
 ·rename_i e b l0 n _; rw[Z5n (σ:=σ) (show R b=true from f)]
 ·rfl
theorem Zk9 {d:D} (c:Z5q R d=true):Ww σ d=Ww (σ.only R) d:=by
 cases d with
 | lptr b i o=>simp only[Ww,Z5n (σ:=σ) (show R b=true from c)]
 | lsl b lo n=>simp only[Ww,Z5n (σ:=σ) (show R b=true from c)]
 | _=>rfl
theorem Zs7:∀ {ds:List D},ds.all (Z5q R)=true→Lm σ ds=Lm (σ.only R) ds
 | [],_=>rfl
 | d::r,h=>by
  simp only[List.all_cons,Bool.and_eq_true] at h
  unfold Lm
  rw[Zk9 h.1,Zs7 h.2]
theorem Y3r {d:D} (c:Wk R d=true):Ll σ d=Ll (σ.only R) d:=by
 cases d with
 | agg cs=>
  unfold Ll
  dsimp only
  rw[Zs7 (by simpa [Wk,Z3i] using c)]
 | lptr b i o=>exact Zk9 (d:= .lptr b i o) c
 | lsl b lo n=>exact Zk9 (d:= .lsl b lo n) c
 | _=>rfl
theorem Zkb:∀ {ds:List D},(∀ d∈ds,Wk R d=true)→Vz σ ds=Vz (σ.only R) ds
 | [],_=>rfl
 | d::r,h=>by
  unfold Vz
  rw[Y3r (h d (by simp)),Zkb λx b=>h x (by simp[b])]
theorem rows_on {x:D} (c:Wk R x=true):Ly σ x=Ly (σ.only R) x:=by
 cases x with
 | lsl b lo n=>simp only[Ly,Z5n (σ:=σ) (show R b=true from c)]
 | _=>rfl
theorem Zi9 (R:Nat→Bool) (σ:S):(σ.only R).ev=σ.ev:=funext λx=>by cases x <;> rfl
theorem pure_on (e:∀ x∈o.op.operands,Wk R (σ.ev x)=true) (ans:Ans):Q1 P σ o ans=Q1 P (σ.only R) o ans:=by
 obtain⟨dst,op,ty,pos,after,guard⟩:=o
 unfold Q1
 rw[Zi9]
 cases op <;> simp only[Op.operands] at e <;> dsimp only
 case load t x=>rw[load_on (e x (by simp))]
 case indexAddr t x i=>rw[Y4n (e x (by simp))]
 case slice t x lo g mx=>rw[Y6m (e x (by simp))]
 case call c=>
  obtain⟨callee,args,ts⟩:=c
  cases callee with
  | builtin b=>cases b <;> first|rfl|(obtain⟨l⟩:=args; rcases l with _|⟨x,_|⟨y,_|⟨z,l⟩⟩⟩ <;> rfl)
  | value f=>rfl
  | invoke r m=>rfl
theorem Zsh (b:∀ x∈o.op.operands,Wk R (σ.ev x)=true) (told:X8):Ug P σ o told=Ug P (σ.only R) o told:=by
 unfold Ug
 rw[← pure_on b told.ans,show Xx (σ.only R) o=Xx σ o from rfl,Zi9]
 cases Xx σ o with
 | false=>rfl
 | true=>
  dsimp only
  cases Q1 P σ o told.ans with
  | some r=>rfl
  | none=>
   dsimp only
   obtain⟨dst,op,ty,pos,after,guard⟩:=o
   cases op <;> simp only[Op.operands] at b <;> dsimp only
   case buildSlice t len parts=>
    rw [← Zkb (σ:=σ) (ds:=parts.toList.map λx=>σ.ev x.2) λd e=>by
     obtain⟨x,g,rfl⟩:=List.mem_map.1 e
     exact b x.2 (by simp; exact⟨x.1,by simpa using g⟩)]
   case convert src dst' x=>
    unfold Z3u
    rw[← rows_on (b x (by simp))]
   case call c=>
    obtain⟨callee,args,ts⟩:=c
    cases callee with
    | value f=>
     dsimp only
     unfold Z08
     rw [← Zkb (σ:=σ) (ds:=args.toList.map σ.ev) λd e=>by
      obtain⟨x,g,rfl⟩:=List.mem_map.1 e
      exact b x (by simp[Call.operands]; exact .inr (by simpa using g))]
    | _=>rfl
theorem Y3y (g:∀ x∈o.op.operands,Wk R (σ.ev x)=true) {τ:S} (i:τ.n=σ.n) (f:∀ x∈o.op.operands,τ.ev x=σ.ev x) (j:∀ b,R b=true→τ.heap b=σ.heap b) (told:X8) {r:K6×Prop} (h:Ug P σ o told=some r):Ug P τ o told=some r:=by
 rw[Zsh g] at h
 rw[Zsh λx e=>by rw[f x e]; exact g x e]
 refine Zkc (σ:=σ.only R) (τ:=τ.only R) ⟨i,λx e=>by rw[Zi9,Zi9]; exact f x e,λb k c=>?_⟩ h
 simp only[S.only] at c ⊢
 split at c
 ·rename_i l; rw[j b l]; exact c
 ·cases c
def Kj (σ:S) (o:Oper) (told:X8) (R:Nat→Bool):Bool:=
 match o.op with
 | .store _ x _=>match σ.ev x with
  | .lptr b _ _=>!R b
  | _=>false
 | .call { callee:= .value f,args,.. }=>
  match σ.ev f,told.io with
  | .fn _,some io=>io.fresh.isEmpty&&(Me 0 io.names io.bs').isEmpty&&io.names.all (λb=>!R b)&&
   (match Uj io.kp σ io.names (Lw io.nils 0 (args.toList.map σ.ev)) with
   | some (_,[],_)=>true
   | _=>false)
  | _,_=>false
 | _=>false
theorem Zul {db:Nat} {d:D} {told:X8} (b:∀ x∈o.op.operands,(σ.put (some db) d).ev x=σ.ev x):Kj (σ.put (some db) d) o told R=Kj σ o told R:=by
 obtain⟨dst,op,ty,pos,after,guard⟩:=o
 unfold Kj
 cases op <;> simp only[Op.operands] at b <;> dsimp only
 case store t x v=>rw[b x (by simp)]
 case call c=>
  obtain⟨callee,args,ts⟩:=c
  cases callee with
  | value f=>
   have e:args.toList.map (σ.put (some db) d).ev=args.toList.map σ.ev:=List.map_congr_left λx g=>b x (by simp[Call.operands]; exact .inr (by simpa using g))
   dsimp only
   rw[b f (by simp[Call.operands]),e]
   cases σ.ev f <;> try rfl
   cases told.io with
   | none=>rfl
   | some io=>dsimp only; rw[Zl9]
  | _=>rfl
theorem Y5u {told : X8} (j:Kj σ o told R=true) {p:Prop} (h:V1 P σ o told=some (σ',p)):
  σ'.n=σ.n∧(∀ t,o.dst≠some t→σ'.tmps t=σ.tmps t)∧(∀ b,R b=true→σ'.heap b=σ.heap b):=by
 have m:∀ (τ:S) (u:D),(τ.put o.dst u).n=τ.n∧(∀ t,o.dst≠some t→(τ.put o.dst u).tmps t=τ.tmps t)∧(τ.put o.dst u).heap=τ.heap:=λτ u=>by
  cases B:o.dst with
  | none=>exact⟨rfl,λ_ _=>rfl,rfl⟩
  | some v=>exact⟨rfl,λt y=>by simp only[S.put]; rw[if_neg (λe=>y (by rw[e]))],rfl⟩
 obtain⟨dst,op,ty,pos,after,guard⟩:=o
 unfold Kj at j
 unfold V1 at h
 cases op <;> dsimp only at j <;> first|(cases j; done)|skip
 case store t x v=>
  have hp:Q1 P σ ⟨dst,.store t x v,ty,pos,after,guard⟩ told.ans=none:=rfl
  rw[hp] at h
  dsimp only at h
  unfold W7 at h
  dsimp only at h
  unfold Z29 at h
  cases z:σ.ev x with
  | lptr b i off=>
   rw[z] at h j
   dsimp only at h j
   have I:R b=false:=by simpa using j
   have fin:∀ (blk:Blk),(({ σ with heap:=(σ.setB b (some blk)).heap }:S).put dst .undef)=σ'→σ'.n=σ.n∧(∀ t,dst≠some t→σ'.tmps t=σ.tmps t)∧(∀ b,R b=true→σ'.heap b=σ.heap b):=λblk e=>by
    subst e
    obtain⟨k1,k2,k3⟩:=m { σ with heap:=(σ.setB b (some blk)).heap } .undef
    refine⟨k1,λt y=>k2 t y,λc r=>?_⟩
    rw[k3]
    simp only[S.setB]
    rw[if_neg (λe=>by rw[e,I] at r; cases r)]
   repeat' split at h
   all_goals first|(cases h; done)|(cases h; exact fin _ rfl)
  | _=>rw[z] at j; cases j
 case call c =>
  obtain⟨callee,args,ts⟩:=c
  cases callee with
  | value f =>
   dsimp only at j
   have hp:Q1 P σ ⟨dst,.call ⟨.value f,args,ts⟩,ty,pos,after,guard⟩ told.ans=none:=rfl
   rw[hp] at h
   dsimp only at h
   unfold W7 at h
   dsimp only at h
   cases C:σ.ev f with
   | fn g=>
    rw[C] at h j
    cases s:told.io with
    | none=>rw[s] at j; cases j
    | some io =>
     rw[s] at h j
     dsimp only at h j
     simp only[Bool.and_eq_true,List.isEmpty_iff,List.all_eq_true,Bool.not_eq_true'] at j
     obtain⟨⟨⟨E,F⟩,H⟩,A⟩:=j
     unfold Z2i at h
     split at h
     ·rw[E] at h
      simp only[S.nilL] at h
      split at h
      ·rename_i ds l q B
       rw[B] at A
       cases l with
       | cons _ _=>cases A
       | nil =>
        split at h
        ·split at h
         ·cases h
          rw[F]
          obtain⟨k1,k2,k3⟩:=m (((σ.freezeL []).dropL []).setL io.names (Jm (σ.freezeL []) io.names 0 io.names io.bs')) (outD io.names _)
          refine⟨k1,λt y=>k2 t y,λc r=>?_⟩
          rw[k3]
          simp only[S.setL]
          have:Vd c io.names=none:=by
           cases J:Vd c io.names with
           | none=>rfl
           | some k=>
            have:=H c (List.mem_of_getElem? (Z2r J))
            rw[this] at r; cases r
          rw[this]; rfl
         ·cases h
        ·cases h
      ·cases h
     ·cases h
   | _=>rw[C] at j; cases j
  | _=>cases j
theorem Y5t {db : Nat} {d:D} {told:X8} (e:Kj σ o told R=true) (k:o.dst≠some db) (h:∀ x∈o.op.operands,(σ.put (some db) d).ev x=σ.ev x):
  V1 P (σ.put (some db) d) o told=(V1 P σ o told).map λr=>(r.1.put (some db) d,r.2):=by
 obtain⟨dst,op,ty,pos,after,guard⟩:=o
 unfold Kj at e
 unfold V1
 cases op <;> dsimp only at e <;> first|(cases e; done)|skip
 case store t x v=>
  have hp:∀ τ:S,Q1 P τ ⟨dst,.store t x v,ty,pos,after,guard⟩ told.ans=none:=λ_=>rfl
  rw[hp,hp]
  simp only[Op.operands] at h
  dsimp only at k ⊢
  unfold W7
  dsimp only
  rw[h x (by simp),h v (by simp)]
  unfold Z29
  cases σ.ev x with
  | lptr b i off=>
   dsimp only
   rw[show (σ.put (some db) d).heap b=σ.heap b from rfl,Ut]
   cases σ.heap b with
   | none=>rfl
   | some blk=>
    cases cellsOf (σ.ev v) with
    | none=>rfl
    | some cs=>
     cases Un P t with
     | none=>rfl
     | some sz=>
      dsimp only
      cases cs.length==sz&&(!blk.pure||cs.all D.dat)&&Xx σ _ with
      | false=>rfl
      | true=>
       dsimp only
       cases told.row with
       | some r=>dsimp only; rw[Mu,Wj k]; rfl
       | none=>
        dsimp only
        cases blk.rows[i]? with
        | none=>rfl
        | some r=>dsimp only; rw[Mu,Wj k]; rfl
  | _=>rfl
 case call c =>
  obtain⟨callee,args,ts⟩:=c
  cases callee with
  | value f =>
   dsimp only at e
   have hp:∀ τ:S,Q1 P τ ⟨dst,.call ⟨.value f,args,ts⟩,ty,pos,after,guard⟩ told.ans=none:=λ_=>rfl
   rw[hp,hp]
   simp only[Op.operands] at h
   have s:args.toList.map (σ.put (some db) d).ev=args.toList.map σ.ev:=List.map_congr_left λx e=>h x (by simp[Call.operands]; exact .inr (by simpa using e))
   dsimp only at k ⊢
   unfold W7
   dsimp only
   rw[h f (by simp[Call.operands]),s]
   cases n:σ.ev f with
   | fn g=>
    rw[n] at e
    cases m:told.io with
    | none=>rw[m] at e; cases e
    | some io=>
     rw[m] at e
     dsimp only at e ⊢
     simp only[Bool.and_eq_true,List.isEmpty_iff,List.all_eq_true,Bool.not_eq_true'] at e
     obtain⟨⟨⟨u,y⟩,z⟩,A⟩:=e
     unfold Z2i
     rw[u,y,Ut]
     cases told.ans with
     | val r=>
      simp only[S.nilL,S.dropL]
      rw[Zl9]
      cases Uj io.kp σ io.names (Lw io.nils 0 (args.toList.map σ.ev)) with
      | none=>rfl
      | some q=>
       obtain⟨ds,l,p⟩:=q
       dsimp only
       rw[Z43,Zl2]
       cases L8 (σ.freezeL l) io.names (λ_ j=>Z20 io.bs j) 0 io.names with
       | none=>rfl
       | some bs=>
        dsimp only
        cases Xx σ _&&Je io.names&&Km io.bs io.bs' with
        | false=>rfl
        | true=>dsimp only; rw[Zo5,Zvc,Wj k]; rfl
     | _=>rfl
   | _=>rw[n] at e; cases e
  | _=>cases e
end
theorem Y3k (v:Value):Lb (Z15 v)=true:=by
 unfold Z15; split <;> rfl
theorem Y3l (v:Value):Vu (Z6p v)=true:=by
 unfold Z6p
 split
 ·split
  ·simp only[Vu,Jk,List.all_eq_true]
   intro x b
   obtain⟨u,-,rfl⟩:=List.mem_map.1 b
   exact Y3k u
  ·rfl
 ·rename_i v h
  unfold Z15; split <;> rfl
def Z6x (o:Oper):Bool:=
 match o.op with
 | .move _|.assign _|.pick .. |.binOp .. |.unOp .. |.field .. |.fieldAddr .. |.extract .. |.nilCheck _|.index .. |.alloc _|.box .. |.build .. =>true
 | _=>false
def isNew (o:Oper):Bool:=
 match o.op with
 | .alloc _|.box .. |.buildSlice .. |.makeSlice .. =>true
 | _=>false
theorem Y3z (b:Z6x o=true) (told:X8) (σ:S) (hp:Nat→Option Blk):Ug P { σ with heap:=hp } o told=Ug P σ o told:=by
 obtain⟨dst,op,ty,pos,after,guard⟩:=o
 obtain⟨n,tm,c⟩:=σ
 cases op <;> first|(cases b; done)|skip
 all_goals rfl
theorem Zsi (f : isNew o=false) {told:X8} {y:K6} {p:Prop} (h:Ug P σ o told=some (y,p)):∃ d,y=.val d:=by
 unfold Ug at h
 split at h
 ·cases h
 ·rename_i b
  split at h
  ·cases h; exact⟨_,rfl⟩
  ·rename_i e
   clear e b
   obtain⟨dst,op,ty,pos,after,guard⟩:=o
   cases op <;> first|(cases f; done)|skip
   case build t parts=>
    dsimp only at h
    split at h
    ·split at h
     ·cases h; exact⟨_,rfl⟩
     ·cases h
    ·cases h
   case convert src dst x=>
    dsimp only at h
    split at h
    ·cases h; exact⟨_,rfl⟩
    ·cases h
   case call c=>
    obtain⟨callee,args,ts⟩:=c
    cases callee <;> first
     | (cases h; done)
     | (dsimp only at h
        split at h
        ·split at h
         ·cases h; exact⟨_,rfl⟩
         ·cases h
        ·cases h)
   all_goals (cases h)
def Uz (P:Program) (ops:Array Oper) (told:List (Nat×X8)) (gs:List (Nat×Bool)) (i:Nat) (o:Oper) (σ:S):Option (K6×Prop):=
 match Uv ops σ o (gAt gs i) with
 | none=>none
 | some (true,g)=>
  match Ug P σ o (W5 told i) with
  | some (y,p)=>some (y,g∧p)
  | none=>none
 | some (false,g)=>match Xx σ o with
  | true=>some (.val (.tup []),g)
  | false=>none
def quiet (xs:List Nat):Nat→Bool:=λb=>Xq (b+10000) xs
def away (xs:List Nat):Nat→Bool:=λb=>!Xq (b+20000) xs
def mvOk (xs:List Nat) (o:Oper) (σ:S):Bool:=
 match o.op,o.guard with
 | .move (.tmp t),none=>Wk (away xs) (σ.tmps t)
 | _,_=>false
def Lj (xs:List Nat) (o:Oper) (σ:S):Bool:=
 match o.op,o.guard with
 | .call { callee:= .builtin .append,args:=⟨[s,_]⟩,argTypes:=⟨[_,_]⟩ },none=>(match σ.ev s with
  | .lsl b 0 _=>Xq (b+20000) xs
  | _=>false)
 | _,_=>false
def Z0j (ops:Array Oper) (xs:List Nat) (i:Nat) (o:Oper) (σ:S):Bool:=
 (!Xq (i+5000) xs||mvOk xs o σ)&&
 (!Xq (i+2000) xs||(o.looksAt ops).all (λt=>Vu (σ.tmps t)))&&
 (!Xq (i+3000) xs||(!isNew o&&(Z6x o||(o.looksAt ops).all (λt=>Wk (quiet xs) (σ.tmps t)))))
def V5 (P : Program) (ops:Array Oper) (told:List (Nat×X8)) (gs:List (Nat×Bool)) (xs:List Nat) (i:Nat) (σ:S):Option (S×Prop):=
 match Xq i xs with
 | true=>
  match Xq (i+4000) xs with
  | true=>
   match ops[i]? with
   | some o=>match Kj σ o (W5 told i) (quiet xs) with
    | true=>W3 P ops told gs i σ
    | false=>none
   | none=>none
  | false=>
   match Xq (i+6000) xs with
   | true=>
    match ops[i]? with
    | some o=>match Lj xs o σ with
     | true=>W3 P ops told gs i σ
     | false=>none
    | none=>none
   | false=>W3 P ops told gs i σ
 | false =>
  match ops[i]? with
  | none=>none
  | some o=>
   match Uz P ops told gs i o σ,Z0j ops xs i o σ with
   | some (y,p),true=>
    match Xq (i+1000) xs with
    | false=>
     match Qq σ o.dst y with
     | some σ'=>some (σ',p)
     | none=>none
    | true=>
     match y with
     | .val d=>match Vu d&&(o.looksAt ops).all (λt=>Vu (σ.tmps t)) with
      | true=>some (σ.put o.dst d,p)
      | false=>none
     | .blk _ _=>none
   | _,_=>none
variable {ops:Array Oper} {told:List (Nat×X8)} {gs:List (Nat×Bool)} {xs:List Nat}
theorem Z3e {i:Nat} {p:Prop} (j:Xq i xs=false) (h:V5 P ops told gs xs i σ=some (σ',p)):
  ∃ o y,ops[i]?=some o∧Uz P ops told gs i o σ=some (y,p)∧Qq σ o.dst y=some σ'∧
   (Xq (i+1000) xs=true→∃ d,y=.val d∧Vu d=true∧∀ t∈o.looksAt ops,Vu (σ.tmps t)=true)∧Z0j ops xs i o σ=true:=by
 unfold V5 at h
 rw[j] at h
 dsimp only at h
 split at h
 ·cases h
 ·rename_i o f
  split at h
  ·rename_i y q g b
   split at h
   ·rename_i e
    split at h
    ·rename_i σ1 k
     cases h
     exact⟨o,y,f,g,k,(λh=>by rw[e] at h; cases h),b⟩
    ·cases h
   ·rename_i e
    split at h
    ·rename_i d
     split at h
     ·rename_i c
      cases h
      rw[Bool.and_eq_true,List.all_eq_true] at c
      exact⟨o,_,f,g,rfl,λ_=>⟨d,rfl,c.1,c.2⟩,b⟩
     ·cases h
    ·cases h
  ·cases h
theorem Z5m {i:Nat} {p:Prop} {o:Oper} {y:K6} (l:Xq i xs=false) (j:ops[i]?=some o) (k:Uz P ops told gs i o σ=some (y,p)) (e:Qq σ o.dst y=some σ')
  (h:Xq (i+1000) xs=true→∃ d,y=.val d∧Vu d=true∧∀ t∈o.looksAt ops,Vu (σ.tmps t)=true) (b:Z0j ops xs i o σ=true):V5 P ops told gs xs i σ=some (σ',p):=by
 unfold V5
 rw[l,j]
 dsimp only
 rw[k,b]
 dsimp only
 cases c:Xq (i+1000) xs with
 | false=>dsimp only; rw[e]
 | true=>
  obtain⟨d,rfl,f,g⟩:=h c
  dsimp only
  rw[show (Vu d&&(o.looksAt ops).all λt=>Vu (σ.tmps t))=true by rw[Bool.and_eq_true,List.all_eq_true]; exact⟨f,g⟩]
  simpa only[Qq,Option.some.injEq,Prod.mk.injEq,and_true] using e
theorem Ztm {o:Oper} {t:Nat} (h:o.op=.move (.tmp t)):t∈o.looksAt ops:=by
 unfold Oper.looksAt
 rw[h]
 simp[Op.operands]
theorem Z4o {i:Nat} {o:Oper} {τ:S} (h:∀ t∈o.looksAt ops,τ.tmps t=σ.tmps t):Z0j ops xs i o τ=Z0j ops xs i o σ:=by
 have e:((o.looksAt ops).all λt=>Vu (τ.tmps t))=(o.looksAt ops).all λt=>Vu (σ.tmps t):=by
  rw[Bool.eq_iff_iff,List.all_eq_true,List.all_eq_true]
  exact forall_congr' λt=>forall_congr' λc=>by rw[h t c]
 have f:((o.looksAt ops).all λt=>Wk (quiet xs) (τ.tmps t))=(o.looksAt ops).all λt=>Wk (quiet xs) (σ.tmps t):=by
  rw[Bool.eq_iff_iff,List.all_eq_true,List.all_eq_true]
  exact forall_congr' λt=>forall_congr' λc=>by rw[h t c]
 have g:mvOk xs o τ=mvOk xs o σ:=by
  unfold mvOk
  split
  ·rename_i t b j
   rw[h t (Ztm b)]
  ·rfl
 unfold Z0j
 rw[e,f,g]
theorem Zo4 {i:Nat} {p:Prop} (h:V5 P ops told gs xs i σ=some (σ',p)):W3 P ops told gs i σ=some (σ',p):=by
 cases f:Xq i xs with
 | true=>
  unfold V5 at h
  rw[f] at h
  dsimp only at h
  split at h
  ·split at h
   ·split at h
    ·exact h
    ·cases h
   ·cases h
  ·split at h
   ·split at h
    ·split at h
     ·exact h
     ·cases h
    ·cases h
   ·exact h
 | false=>
  obtain⟨o,y,k,b,e,-⟩:=Z3e f h
  unfold Uz at b
  unfold W3
  rw[k]
  dsimp only
  split at b
  ·cases b
  ·rename_i g c
   rw[c]
   dsimp only
   split at b
   ·rename_i m l he
    cases b
    rw[Y40 he e]
   ·cases b
  ·rename_i g c
   rw[c]
   dsimp only
   split at b
   ·rename_i j
    cases b
    simp only[Qq,Option.some.injEq] at e
    subst e
    rw[j]
   ·cases b
structure J9 (ops:Array Oper) (o:Oper) (σ τ:S):Prop where
 n:τ.n=σ.n
 tmps:∀ t,t∈o.looksAt ops→τ.tmps t=σ.tmps t
theorem J9.ev (h:J9 ops o σ τ):∀ x∈o.op.operands,τ.ev x=σ.ev x:=λx b=>by
 cases x with
 | tmp t=>exact h.tmps t (List.mem_append_left _ (List.mem_filterMap.2 ⟨.tmp t,by simpa using b,rfl⟩))
 | _=>rfl
theorem J9.guard (h:J9 ops o σ τ) (g:Option Bool):Uv ops τ o g=Uv ops σ o g:=by
 unfold Uv
 cases b:o.guard with
 | none=>rfl
 | some jw=>
  obtain⟨j,want⟩:=jw
  dsimp only
  have:((ops[j]?).bind (·.dst)).map τ.tmps=((ops[j]?).bind (·.dst)).map σ.tmps:=by
   cases c:(ops[j]?).bind (·.dst) with
   | none=>rfl
   | some t=>simp only[Option.map_some]; rw[h.tmps t (List.mem_append_right _ (by simp[b,c]))]
  rw[this]
theorem Z3d {i:Nat} (hs:J9 ops o σ τ) (e:(∀ b k,σ.heap b=some k→τ.heap b=some k)∨Z6x o=true) {r:K6×Prop} (h:Uz P ops told gs i o σ=some r):Uz P ops told gs i o τ=some r:=by
 have he:∀ x,Ug P σ o (W5 told i)=some x→Ug P τ o (W5 told i)=some x:=λx c=>by
  rcases e with e|l
  ·exact Zkc ⟨hs.n,hs.ev,e⟩ c
  ·rw[← Y3z l _ σ (λ_=>none)] at c
   exact Zkc (σ:={ σ with heap:=λ_=>none }) ⟨hs.n,λx c=>(hs.ev x c).trans (by cases x <;> rfl),λb k f=>by cases f⟩ c
 have j:Xx τ o=Xx σ o:=by unfold Xx; rw[hs.n]
 unfold Uz at*
 rw[hs.guard]
 split at h
 ·cases h
 ·rename_i g m
  split at h
  ·rename_i y p q; rw[he _ q]; exact h
  ·cases h
 ·rename_i g m
  rw[j]; exact h
theorem Zrl {dst:Option Nat} {y:K6} (h:Qq σ dst y=some σ'):σ'.n=σ.n∧(∀ t,dst≠some t→σ'.tmps t=σ.tmps t)∧(∀ b k,σ.heap b=some k→σ'.heap b=some k):=by
 cases y with
 | val d=>
  simp only[Qq,Option.some.injEq] at h; subst h
  cases dst with
  | none=>exact⟨rfl,λ_ _=>rfl,λ_ _ h=>h⟩
  | some t=>exact⟨rfl,λu f=>by simp only[S.put]; rw[if_neg (λe=>f (by rw[e]))],λ_ _ h=>h⟩
 | blk k v=>
  simp only[Qq] at h
  split at h
  ·rename_i t
   split at h
   ·rename_i g
    cases h
    refine⟨rfl,λu f=>by simp only[S.put,S.setB]; rw[if_neg (λe=>f (by rw[e]))],λb i c=>?_⟩
    show (if b=t then some k else σ.heap b)=some i
    rw[if_neg (λe=>by rw[e,g] at c; cases c)]; exact c
   ·cases h
  ·cases h
theorem Y2z {dst:Option Nat} {d:D} (h:Qq σ dst (.val d)=some σ'):σ'.heap=σ.heap:=by
 simp only[Qq,Option.some.injEq] at h; subst h; cases dst <;> rfl
theorem Zrk {da db:Option Nat} {ya yb:K6} {σ1 σ2:S} (g:∀ t,da=some t→db≠some t) (h:Qq σ da ya=some σ1) (b:Qq σ1 db yb=some σ2):
  ∃ σ1',Qq σ db yb=some σ1'∧Qq σ1' da ya=some σ2:=by
 have c:∀ (x y:Option Nat) (u v:D) (τ:S),(∀ t,x=some t→y≠some t)→(τ.put x u).put y v=(τ.put y v).put x u:=λx y u v τ r=>by
  cases x with
  | none=>rfl
  | some s=>
   cases y with
   | none=>rfl
   | some t=>
    have hst:s≠t:=λe=>r s rfl (by rw[e])
    simp only[S.put,S.mk.injEq,true_and,and_true]
    funext z
    by_cases i:z=t
    ·subst i; rw[if_pos rfl,if_neg (Ne.symm hst),if_pos rfl]
    ·rw[if_neg i]
     by_cases j:z=s
     ·subst j; rw[if_pos rfl,if_pos rfl]
     ·rw[if_neg j,if_neg j,if_neg i]
 have f:∀ (x:Option Nat) (u:D) (t:Nat) (k:Option Blk) (τ:S),(τ.put x u).setB t k=(τ.setB t k).put x u:=λx u t k τ=>by cases x <;> rfl
 have p:∀ (s t:Nat) (k l:Option Blk) (τ:S),s≠t→(τ.setB s k).setB t l=(τ.setB t l).setB s k:=λs t k l τ hst=>by
  simp only[S.setB,S.mk.injEq,true_and]
  funext u
  by_cases i:u=t
  ·subst i; rw[if_pos rfl,if_neg (Ne.symm hst),if_pos rfl]
  ·rw[if_neg i]
   by_cases j:u=s
   ·subst j; rw[if_pos rfl,if_pos rfl]
   ·rw[if_neg j,if_neg j,if_neg i]
 cases ya with
 | val d =>
  simp only[Qq,Option.some.injEq] at h; subst h
  cases yb with
  | val e=>
   simp only[Qq,Option.some.injEq] at b; subst b
   exact⟨_,rfl,by simp only[Qq]; rw[c _ _ _ _ _ g]⟩
  | blk k v=>
   simp only[Qq] at b
   split at b
   ·rename_i t
    split at b
    ·rename_i q
     cases b
     have m:σ.heap t=none:=by cases da <;> exact q
     refine⟨(σ.setB t (some k)).put (some t) (v t),by simp only[Qq,m],?_⟩
     simp only[Qq]
     rw[f,c _ _ _ _ _ g]
    ·cases b
   ·cases b
 | blk k v =>
  simp only[Qq] at h
  split at h
  ·rename_i s
   split at h
   ·rename_i hs
    cases h
    cases yb with
    | val e=>
     simp only[Qq,Option.some.injEq] at b; subst b
     refine⟨_,rfl,?_⟩
     have n:(σ.put db e).heap s=none:=by cases db <;> exact hs
     simp only[Qq,n]
     rw[f,c _ _ _ _ _ g]
    | blk l u=>
     simp only[Qq] at b
     split at b
     ·rename_i t
      have hst:s≠t:=λe=>g s rfl (by rw[e])
      split at b
      ·rename_i q
       cases b
       have m:σ.heap t=none:=by
        have:(if t=s then some k else σ.heap t)=none:=q
        rw[if_neg (Ne.symm hst)] at this; exact this
       have n:((σ.setB t (some l)).put (some t) (u t)).heap s=none:=by
        show (if s=t then some l else σ.heap s)=none
        rw[if_neg hst]; exact hs
       refine⟨(σ.setB t (some l)).put (some t) (u t),by simp only[Qq,m],?_⟩
       simp only[Qq,n]
       rw[f,f,c (some s) (some t) _ _ _ g,p s t _ _ _ hst]
      ·cases b
     ·cases b
   ·cases h
  ·cases h
def Zao (ops:Array Oper) (xs:List Nat) (i j:Nat):Bool:=
 match ops[i]?,ops[j]? with
 | some a,some b=>!Xq i xs&&a.apart ops b&&
  ((!Xq j xs&&(!isNew a||Z6x b||Xq (j+2000) xs))||Xq (i+1000) xs||(Xq (i+3000) xs&&Xq j xs&&Xq (j+4000) xs)||(Xq (i+5000) xs&&Xq j xs&& !Xq (j+4000) xs&&Xq (j+6000) xs))
 | _,_=>false
theorem Zny {R:Nat→Bool} {d:D} (h:Vu d=true):Wk R d=true:=by
 have g:∀ d,Lb d=true→Z5q R d=true:=λd h=>by cases d <;> first|rfl|cases h
 have e:∀ d,Jk d=true→Z3i R d=true:=λd h=>by
  cases d with
  | agg cs=>
   simp only[Jk,Z3i,List.all_eq_true] at h ⊢
   exact λx c=>g x (h x c)
  | lptr b i o=>cases h
  | lsl b lo n=>cases h
  | clo f bs=>cases h
  | lsk f b lo n=>cases h
  | tup vs=>cases h
  | _=>rfl
 cases d with
 | tup vs=>
  simp only[Vu,Wk,List.all_eq_true] at h ⊢
  exact λx c=>e x (h x c)
 | agg cs=>exact e (.agg cs) h
 | lptr b i o=>cases h
 | lsl b lo n=>cases h
 | clo f bs=>cases h
 | lsk f b lo n=>cases h
 | _=>rfl
theorem Zo3 {R:Nat→Bool} {i:Nat} {o:Oper} {τ:S} (j:∀ t∈o.looksAt ops,Wk R (σ.tmps t)=true) (hs:J9 ops o σ τ) (l:∀ b,R b=true→τ.heap b=σ.heap b) {r:K6×Prop} (h:Uz P ops told gs i o σ=some r):Uz P ops told gs i o τ=some r:=by
 have c:∀ x∈o.op.operands,Wk R (σ.ev x)=true:=λx m=>by
  cases x with
  | tmp t=>exact j t (List.mem_append_left _ (List.mem_filterMap.2 ⟨.tmp t,by simpa using m,rfl⟩))
  | const v=>exact Zny (Y3l v)
  | func f=>rfl
  | global g=>simp only[S.ev]; split <;> rfl
 have e:Xx τ o=Xx σ o:=by unfold Xx; rw[hs.n]
 unfold Uz at h ⊢
 rw[hs.guard,e]
 split at h
 ·cases h
 ·rename_i g k
  split at h
  ·rename_i y p q
   rw[Y3y c hs.n hs.ev l _ q]; exact h
  ·cases h
 ·rename_i g k
  exact h
theorem Y5l {i:Nat} {o:Oper} {db:Nat} {d:D} (c:db ∉ o.looksAt ops) (τ:S):∀ r,Uz P ops told gs i o (τ.put (some db) d)=some r↔Uz P ops told gs i o τ=some r:=λr=>by
 have hs:J9 ops o τ (τ.put (some db) d):=⟨rfl,λt b=>by simp only[S.put]; rw[if_neg (λe:t=db=>c (e ▸ b))]⟩
 exact⟨λh=>Z3d (σ:=τ.put (some db) d) (τ:=τ) ⟨rfl,λt b=>(hs.tmps t b).symm⟩ (.inl λ_ _ h=>h) h,λh=>Z3d hs (.inl λ_ _ h=>h) h⟩
theorem Zo1 {j:Nat} {o:Oper} {db:Nat} {d:D} (n:ops[j]?=some o) (m:Vu d=true) (l:db ∉ o.looksAt ops) (f:o.dst≠some db) {σ2:S} {p:Prop} (h:W3 P ops told gs j (σ.put (some db) d)=some (σ2,p)):
  ∃ σ1,W3 P ops told gs j σ=some (σ1,p)∧σ2=σ1.put (some db) d:=by
 have hs:J9 ops o σ (σ.put (some db) d):=⟨rfl,λt q=>by simp only[S.put]; rw[if_neg (λe:t=db=>l (e ▸ q))]⟩
 unfold W3 at h ⊢
 rw[n] at h ⊢
 dsimp only at h ⊢
 rw[hs.guard] at h
 cases k:Uv ops σ o (gAt gs j) with
 | none=>rw[k] at h; cases h
 | some bg=>
  obtain⟨b,g⟩:=bg
  rw[k] at h
  cases b with
  | true=>
   dsimp only at h ⊢
   rw[Y6s m f hs.ev] at h
   cases c:V1 P σ o (W5 told j) with
   | none=>rw[c] at h; cases h
   | some r=>
    rw[c] at h
    cases h
    exact⟨r.1,rfl,rfl⟩
  | false=>
   dsimp only at h ⊢
   rw[Ut] at h
   cases i:Xx σ o with
   | false=>rw[i] at h; cases h
   | true=>
    rw[i] at h
    cases h
    exact⟨_,rfl,Wj f σ _⟩
theorem oneD_fr {j:Nat} {o:Oper} (b:ops[j]?=some o) {p:Prop} (h:W3 P ops told gs j σ=some (σ',p)):Fr o.dst σ σ':=by
 unfold W3 at h
 rw[b] at h
 dsimp only at h
 split at h
 ·cases h
 ·split at h
  ·rename_i hs; cases h; exact Y6r hs
  ·cases h
 ·split at h
  ·cases h; exact(Fr.refl _ _).put _
  ·cases h
theorem Zrj {o:Oper} {db:Nat} {d:D} (b:∀ x∈o.op.operands,(σ.put (some db) d).ev x=σ.ev x):Lj xs o (σ.put (some db) d)=Lj xs o σ:=by
 unfold Lj
 split
 ·rename_i s x t f c e
  rw[c] at b
  rw[b s (by simp[Op.operands,Call.operands])]
 ·rfl
theorem Z0i {d:D} {b:Nat} (h:Z5q (away xs) d=true) (k:Xq (b+20000) xs=true):d.killA b=d:=by
 have g:∀ c,away xs c=true→c≠b:=λc h e=>by subst e; unfold away at h; rw[k] at h; cases h
 cases d with
 | lptr c i o=>exact if_neg (g c h)
 | lsl c lo n=>exact if_neg (g c h)
 | lsk f c lo n=>exact if_neg (g c h)
 | clo f bs=>
  have j:(bs.any λx=>Nat.beq x b)=false:=List.any_eq_false.2 λx l e=>g x (List.all_eq_true.1 h x l) (Nat.eq_of_beq_eq_true e)
  simp only[D.killA,j]
 | agg cs=>cases h
 | tup vs=>cases h
 | _=>rfl
theorem Ztd {d:D} {b:Nat} (h:Z3i (away xs) d=true) (e:Xq (b+20000) xs=true):d.killB b=d:=by
 cases d with
 | agg cs=>
  simp only[Z3i,List.all_eq_true] at h
  simp only[D.killB,D.agg.injEq]
  exact(List.map_congr_left λx g=>Z0i (h x g) e).trans (List.map_id _)
 | tup vs=>cases h
 | lptr c i o=>exact Z0i (d:= .lptr c i o) h e
 | lsl c lo n=>exact Z0i (d:= .lsl c lo n) h e
 | clo f bs=>exact Z0i (d:= .clo f bs) h e
 | lsk f c lo n=>exact Z0i (d:= .lsk f c lo n) h e
 | _=>rfl
theorem Ztf {d:D} {b:Nat} (h:Wk (away xs) d=true) (c:Xq (b+20000) xs=true):d.kill b=d:=by
 cases d with
 | tup vs=>
  simp only[Wk,List.all_eq_true] at h
  simp only[D.kill,D.tup.injEq]
  exact(List.map_congr_left λx g=>Ztd (h x g) c).trans (List.map_id _)
 | agg cs=>exact Ztd (d:= .agg cs) h c
 | lptr e i o=>exact Z0i (d:= .lptr e i o) h c
 | lsl e lo n=>exact Z0i (d:= .lsl e lo n) h c
 | clo f bs=>exact Z0i (d:= .clo f bs) h c
 | lsk f e lo n=>exact Z0i (d:= .lsk f e lo n) h c
 | _=>rfl
theorem Y2w {o:Oper} {db:Nat} {d:D} (c:Lj xs o σ=true) (k:Wk (away xs) d=true) (g:o.dst≠some db) (f:∀ x∈o.op.operands,(σ.put (some db) d).ev x=σ.ev x) (told:X8):
  V1 P (σ.put (some db) d) o told=(V1 P σ o told).map λr=>(r.1.put (some db) d,r.2):=by
 obtain⟨dst,op,ty,pos,after,guard⟩:=o
 unfold Lj at c
 dsimp only at c g f
 split at c
 ·rename_i s x t j
  split at c
  ·rename_i b n hs
   have hp:∀ τ:S,Q1 P τ ⟨dst,.call { callee:= .builtin .append,args:=⟨[s,x]⟩,argTypes:=⟨[t,j]⟩ },ty,pos,after,none⟩ told.ans=none:=λ_=>rfl
   unfold V1
   rw[hp,hp]
   dsimp only
   unfold W7
   dsimp only
   rw[f s (by simp[Op.operands,Call.operands]),f x (by simp[Op.operands,Call.operands]),hs]
   unfold Z2g
   rw[Zu4]
   have i:(σ.put (some db) d).drop b=(σ.drop b).put (some db) d:=by
    simp only[S.put,S.drop,S.mk.injEq,true_and,and_true]
    funext v
    split
    ·exact Ztf k c
    ·rfl
   cases Ln P t with
   | none=>rfl
   | some e=>
    dsimp only
    cases P.info? e with
    | none=>rfl
    | some ie =>
     cases Z1y P σ t j (σ.ev x) with
     | none=>rfl
     | some nq =>
      obtain⟨news,q⟩:=nq
      dsimp only
      cases ie.zero with
      | none=>rfl
      | some z=>
       dsimp only
       cases z.cells.size==ie.size&&Nat.blt 0 ie.size with
       | false=>rfl
       | true=>
        dsimp only
        split
        ·rename_i l m h
         cases h
         rw[show (σ.put (some db) d).heap b=σ.heap b from rfl,Ut]
         cases σ.heap b with
         | none=>rfl
         | some blk=>
          dsimp only
          cases blk.pure&&blk.sz==ie.size&&Xx σ _ with
          | false=>rfl
          | true=>dsimp only; rw[i,Mu,Wj g]; rfl
        ·rename_i heq; cases heq
        ·rename_i heq; cases heq
        ·rename_i heq; cases heq
        ·rfl
  ·cases c
 ·cases c
theorem Y2y {o:Oper} {told:X8} (c:Lj xs o σ=true) {p:Prop} (h:V1 P σ o told=some (σ',p)):σ'.n=σ.n∧∀ t,o.dst≠some t→∃ b,Xq (b+20000) xs=true∧σ'.tmps t=(σ.tmps t).kill b:=by
 obtain⟨dst,op,ty,pos,after,guard⟩:=o
 unfold Lj at c
 dsimp only at c
 split at c
 ·rename_i s x t i
  split at c
  ·rename_i b n hs
   have hp:Q1 P σ ⟨dst,.call { callee:= .builtin .append,args:=⟨[s,x]⟩,argTypes:=⟨[t,i]⟩ },ty,pos,after,none⟩ told.ans=none:=rfl
   unfold V1 at h
   rw[hp] at h
   dsimp only at h
   unfold W7 at h
   dsimp only at h
   rw[hs] at h
   unfold Z2g at h
   have fin:∀ (k:Blk) (v:D),((σ.drop b).setB b (some k)).put dst v=σ'→σ'.n=σ.n∧∀ t,dst≠some t→∃ b,Xq (b+20000) xs=true∧σ'.tmps t=(σ.tmps t).kill b:=λk v e=>by
    subst e
    refine⟨by cases dst <;> rfl,λt g=>⟨b,c,?_⟩⟩
    cases dst with
    | none=>rfl
    | some u=>simp only[S.put]; rw[if_neg (λe=>g (by rw[e]))]; rfl
   split at h
   ·cases h
   ·split at h
    ·split at h
     ·cases h
     ·split at h
      ·cases h
      ·split at h
       ·rename_i j l f
        cases f
        split at h
        ·split at h
         ·cases h; exact fin _ _ rfl
         ·cases h
        ·cases h
       ·rename_i heq; cases heq
       ·rename_i heq; cases heq
       ·rename_i heq; cases heq
       ·cases h
    ·cases h
  ·cases c
 ·cases c
theorem swapM {i j:Nat} {oa ob:Oper} (T:Xq i xs=false) (hm:Xq (i+5000) xs=true) (hj:Xq j xs=true) (J:Xq (j+4000) xs=false) (K:Xq (j+6000) xs=true) (B:ops[i]?=some oa) (C:ops[j]?=some ob) (I:oa.apart ops ob=true) {σ1 σ2:S} {pa pb:Prop}
  (ha:V5 P ops told gs xs i σ=some (σ1,pa)) (l:V5 P ops told gs xs j σ1=some (σ2,pb)):
  ∃ σ1',V5 P ops told gs xs j σ=some (σ1',pb)∧V5 P ops told gs xs i σ1'=some (σ2,pa):=by
 obtain⟨X,Y,Z⟩:=Oper.apart_spec I
 obtain⟨o,y,Q,f,E,hc,A⟩:=Z3e T ha
 rw[B] at Q; cases Q
 have g:=A
 unfold Z0j at g
 rw[hm] at g
 simp only[Bool.not_true,Bool.false_or,Bool.and_eq_true] at g
 have m:=g.1.1
 unfold mvOk at m
 split at m
 rotate_left
 ·cases m
 rename_i t s F
 have N:Q1 P σ oa (W5 told i).ans=some (σ.tmps t,True):=by unfold Q1; rw[s]; rfl
 obtain ⟨hy,-⟩:y=.val (σ.tmps t)∧True:=by
  unfold Uz Uv at f
  rw[F] at f
  dsimp only at f
  split at f
  ·rename_i y' p' he
   cases f
   unfold Ug at he
   split at he
   ·cases he
   ·rw[N] at he; cases he; exact⟨rfl,trivial⟩
  ·cases f
 subst hy
 simp only[Qq,Option.some.injEq] at E
 subst E
 generalize z:σ.tmps t=d at*
 have k:∀ τ:S,V5 P ops told gs xs j τ=match Lj xs ob τ with
   | true=>W3 P ops told gs j τ
   | false=>none:=λτ=>by unfold V5; rw[hj]; dsimp only; rw[J]; dsimp only; rw[K,C]
 have v:Lj xs ob σ=true→ob.guard=none:=λh=>by
  unfold Lj at h
  split at h
  ·assumption
  ·cases h
 have x:∀ τ:S,ob.guard=none→W3 P ops told gs j τ=(V1 P τ ob (W5 told j)).map λr=>(r.1,True∧r.2):=λτ F=>by
  unfold W3
  rw[C]
  dsimp only
  unfold Uv
  rw[F]
  dsimp only
  cases V1 P τ ob (W5 told j) with
  | none=>rfl
  | some r=>rfl
 have key:∃ σ1',Lj xs ob σ=true∧V5 P ops told gs xs j σ=some (σ1',pb)∧σ2=σ1'.put oa.dst d:=by
  cases q:oa.dst with
  | none=>
   rw[q] at l
   have p:V5 P ops told gs xs j σ=some (σ2,pb):=l
   refine⟨σ2,?_,p,rfl⟩
   rw[k] at p
   split at p
   ·assumption
   ·cases p
  | some db=>
   rw[q] at l
   have hl:db ∉ ob.looksAt ops:=X db q
   have M:ob.dst≠some db:=Y db q
   have hs:J9 ops ob σ (σ.put (some db) d):=⟨rfl,λt H=>by simp only[S.put]; rw[if_neg (λe:t=db=>hl (e ▸ H))]⟩
   rw[k,Zrj hs.ev] at l
   split at l
   ·rename_i c
    rw[x _ (v c),Y2w c m M hs.ev] at l
    cases hst:V1 P σ ob (W5 told j) with
    | none=>rw[hst] at l; cases l
    | some r=>
     rw[hst] at l
     cases l
     refine⟨r.1,c,?_,rfl⟩
     rw[k,c]
     dsimp only
     rw[x _ (v c),hst]; rfl
   ·cases l
 obtain⟨σ1',c,k1,rfl⟩:=key
 refine⟨σ1',k1,?_⟩
 have hst:σ1'.n=σ.n∧σ1'.tmps t=d:=by
  rw[k,c] at k1
  dsimp only at k1
  rw[x _ (v c)] at k1
  cases hst:V1 P σ ob (W5 told j) with
  | none=>rw[hst] at k1; cases k1
  | some r=>
   rw[hst] at k1
   cases k1
   obtain⟨q1,q2⟩:=Y2y c hst
   obtain⟨b,q3,q4⟩:=q2 t (λe=>Z t e (Ztm s))
   exact⟨q1,by rw[q4,z]; exact Ztf m q3⟩
 have hs:J9 ops oa σ σ1':=⟨hst.1,λu O=>by
  have:u=t:=by
   unfold Oper.looksAt at O
   rw[s,F] at O
   simpa [Op.operands] using O
  rw[this,hst.2,z]⟩
 refine Z5m (y:= .val d) T B (Z3d hs (.inr (by unfold Z6x; rw[s])) f) rfl (λL=>?_) (by rw[Z4o hs.tmps]; exact A)
 obtain⟨d',U,V,W⟩:=hc L
 exact⟨d',U,V,λt H=>by rw[hs.tmps t H]; exact W t H⟩
theorem swapN {i j:Nat} {oa ob:Oper} (O:Xq i xs=false) (hm:Xq (i+1000) xs=true) (x:ops[i]?=some oa) (f:ops[j]?=some ob) (B:oa.apart ops ob=true) {σ1 σ2:S} {pa pb:Prop}
  (Y:V5 P ops told gs xs i σ=some (σ1,pa)) (c:V5 P ops told gs xs j σ1=some (σ2,pb)):
  ∃ σ1',V5 P ops told gs xs j σ=some (σ1',pb)∧V5 P ops told gs xs i σ1'=some (σ2,pa):=by
 obtain⟨V,W,X⟩:=Oper.apart_spec B
 obtain⟨o,y,r,I,A,Z,F⟩:=Z3e O Y
 rw[x] at r; cases r
 obtain⟨d,rfl,hnd,q⟩:=Z hm
 simp only[Qq,Option.some.injEq] at A
 subst A
 -- the second one first
 have key:∃ σ1',V5 P ops told gs xs j σ=some (σ1',pb)∧σ2=σ1'.put oa.dst d:=by
  cases l:oa.dst with
  | none=>exact⟨σ2,by rw[l] at c; exact c,rfl⟩
  | some db=>
   rw[l] at c
   have u:db ∉ ob.looksAt ops:=V db l
   have m:ob.dst≠some db:=W db l
   have h:∀ t∈ob.looksAt ops,σ.tmps t=(σ.put (some db) d).tmps t:=λt g=>by simp only[S.put]; rw[if_neg (λe:t=db=>u (e ▸ g))]
   have p:J9 ops ob σ (σ.put (some db) d):=⟨rfl,λt g=>(h t g).symm⟩
   cases E:Xq j xs with
   | true=>
    unfold V5 at c ⊢
    rw[E] at c ⊢
    dsimp only at c ⊢
    cases M:Xq (j+4000) xs with
    | false=>
     rw[M] at c
     dsimp only at c ⊢
     cases N:Xq (j+6000) xs with
     | false=>
      rw[N] at c
      exact Zo1 f hnd u m c
     | true=>
      rw[N,f] at c
      rw[f]
      dsimp only at c ⊢
      rw[Zrj p.ev] at c
      cases k:Lj xs ob σ with
      | false=>rw[k] at c; cases c
      | true=>rw[k] at c; exact Zo1 f hnd u m c
    | true=>
     rw[M,f] at c
     rw[f]
     dsimp only at c ⊢
     rw[Zul p.ev] at c
     cases k:Kj σ ob (W5 told j) (quiet xs) with
     | false=>rw[k] at c; cases c
     | true=>rw[k] at c; exact Zo1 f hnd u m c
   | false=>
    obtain⟨o,y,r,J,K,C,v⟩:=Z3e E c
    rw[f] at r; cases r
    have z:=(Y5l u σ _).1 J
    obtain⟨σ1',c1,L⟩:=Zrk (da:=some db) (db:=ob.dst) (ya:= .val d) (λt g=>by cases g; exact m) rfl K
    simp only[Qq,Option.some.injEq] at L
    refine⟨σ1',Z5m E f z c1 (λH=>?_) (by rw[Z4o h]; exact v),L.symm⟩
    obtain⟨d',Q,T,U⟩:=C H
    exact⟨d',Q,T,λt g=>by rw[h t g]; exact U t g⟩
 obtain⟨σ1',k1,rfl⟩:=key
 refine⟨σ1',k1,?_⟩
 have s:=oneD_fr f (Zo4 k1)
 have hs:J9 ops oa σ σ1':=⟨s.n,λt g=>s.tmps t (λe=>X t e g) (q t g)⟩
 exact Z5m (y:= .val d) O x (Zo3 (R:=λ_=>false) (λt g=>Zny (q t g)) hs (λb c=>by cases c) I) rfl (λ_=>⟨d,rfl,hnd,λt g=>by rw[hs.tmps t g]; exact q t g⟩) (by rw[Z4o hs.tmps]; exact F)
theorem swapC {i j:Nat} {oa ob:Oper} (N:Xq i xs=false) (hm:Xq (i+3000) xs=true) (hj:Xq j xs=true) (J:Xq (j+4000) xs=true) (E:ops[i]?=some oa) (z:ops[j]?=some ob) (I:oa.apart ops ob=true) {σ1 σ2:S} {pa pb:Prop}
  (Y:V5 P ops told gs xs i σ=some (σ1,pa)) (c:V5 P ops told gs xs j σ1=some (σ2,pb)):
  ∃ σ1',V5 P ops told gs xs j σ=some (σ1',pb)∧V5 P ops told gs xs i σ1'=some (σ2,pa):=by
 obtain⟨V,W,X⟩:=Oper.apart_spec I
 obtain⟨o,y,L,f,F,Z,A⟩:=Z3e N Y
 rw[E] at L; cases L
 have l:=A
 unfold Z0j at l
 rw[hm] at l
 simp only[Bool.not_true,Bool.false_or,Bool.and_eq_true,Bool.or_eq_true,Bool.not_eq_true',List.all_eq_true] at l
 obtain⟨-,C,x⟩:=l
 obtain ⟨d,rfl⟩:∃ d,y=.val d:=by
  unfold Uz at f
  split at f
  ·cases f
  ·split at f
   ·rename_i y p he; cases f; exact Zsi C he
   ·cases f
  ·split at f
   ·cases f; exact⟨_,rfl⟩
   ·cases f
 simp only[Qq,Option.some.injEq] at F
 subst F
 have key:∃ σ1',V5 P ops told gs xs j σ=some (σ1',pb)∧σ2=σ1'.put oa.dst d∧σ1'.n=σ.n∧(∀ t,ob.dst≠some t→σ1'.tmps t=σ.tmps t)∧(∀ b,quiet xs b=true→σ1'.heap b=σ.heap b):=by
  -- what the plain one does on a state
  have m:∀ {τ τ':S} {p:Prop},Kj τ ob (W5 told j) (quiet xs)=true→W3 P ops told gs j τ=some (τ',p)→τ'.n=τ.n∧(∀ t,ob.dst≠some t→τ'.tmps t=τ.tmps t)∧(∀ b,quiet xs b=true→τ'.heap b=τ.heap b):=λ{τ τ' p} hx h=>by
   unfold W3 at h
   rw[z] at h
   dsimp only at h
   split at h
   ·cases h
   ·split at h
    ·rename_i hs; cases h; exact Y5u hx hs
    ·cases h
   ·split at h
    ·cases h
     refine⟨by cases ob.dst <;> rfl,λt v=>?_,λb _=>by cases ob.dst <;> rfl⟩
     cases H:ob.dst with
     | none=>rfl
     | some u=>simp only[S.put]; rw[if_neg (λe=>v (by rw[H,e]))]
    ·cases h
  unfold V5 at c ⊢
  rw[hj] at c ⊢
  dsimp only at c ⊢
  rw[J,z] at c ⊢
  dsimp only at c ⊢
  cases s:oa.dst with
  | none=>
   rw[s] at c
   cases k:Kj σ ob (W5 told j) (quiet xs) with
   | false=>rw[show σ.put none d=σ from rfl,k] at c; cases c
   | true=>
    rw[show σ.put none d=σ from rfl,k] at c
    exact⟨σ2,c,rfl,m k c⟩
  | some db =>
   rw[s] at c
   have hl:db ∉ ob.looksAt ops:=V db s
   have B:ob.dst≠some db:=W db s
   have hs:J9 ops ob σ (σ.put (some db) d):=⟨rfl,λt v=>by simp only[S.put]; rw[if_neg (λe:t=db=>hl (e ▸ v))]⟩
   rw[Zul hs.ev] at c
   cases k:Kj σ ob (W5 told j) (quiet xs) with
   | false=>rw[k] at c; cases c
   | true=>
    rw[k] at c
    dsimp only at c ⊢
    have:∃ σ1',W3 P ops told gs j σ=some (σ1',pb)∧σ2=σ1'.put (some db) d:=by
     unfold W3 at c ⊢
     rw[z] at c ⊢
     dsimp only at c ⊢
     rw[hs.guard] at c
     cases M:Uv ops σ ob (gAt gs j) with
     | none=>rw[M] at c; cases c
     | some bg=>
      obtain⟨b,g⟩:=bg
      rw[M] at c
      cases b with
      | true=>
       dsimp only at c ⊢
       rw[Y5t k B hs.ev] at c
       cases q:V1 P σ ob (W5 told j) with
       | none=>rw[q] at c; cases c
       | some r=>rw[q] at c; cases c; exact⟨r.1,rfl,rfl⟩
      | false=>
       dsimp only at c ⊢
       rw[Ut] at c
       cases H:Xx σ ob with
       | false=>rw[H] at c; cases c
       | true=>rw[H] at c; cases c; exact⟨_,rfl,Wj B σ _⟩
    obtain⟨σ1',O,q2⟩:=this
    exact⟨σ1',O,q2,m k O⟩
 obtain⟨σ1',k1,rfl,k2,k3,k4⟩:=key
 refine⟨σ1',k1,?_⟩
 have hs:J9 ops oa σ σ1':=⟨k2,λt v=>k3 t λe=>X t e v⟩
 refine Z5m (y:= .val d) N E ?_ rfl (λK=>?_) (by rw[Z4o hs.tmps]; exact A)
 ·rcases x with hf|hr
  ·exact Z3d hs (.inr hf) f
  ·exact Zo3 hr hs k4 f
 ·obtain⟨d',Q,T,U⟩:=Z K
  exact⟨d',Q,T,λt v=>by rw[hs.tmps t v]; exact U t v⟩
theorem swapX {i j:Nat} (n:Zao ops xs i j=true) {σ1 σ2:S} {pa pb:Prop} (K:V5 P ops told gs xs i σ=some (σ1,pa)) (B:V5 P ops told gs xs j σ1=some (σ2,pb)):
  ∃ σ1',V5 P ops told gs xs j σ=some (σ1',pb)∧V5 P ops told gs xs i σ1'=some (σ2,pa):=by
 unfold Zao at n
 split at n
 rotate_left
 ·cases n
 rename_i oa' ob' g h
 simp only[Bool.and_eq_true,Bool.or_eq_true,Bool.not_eq_true'] at n
 obtain⟨⟨E,r⟩,((⟨C,c⟩|s)|⟨⟨s,C⟩,v⟩)|⟨⟨⟨s,C⟩,v⟩,V⟩⟩:=n
 rotate_left 3
 ·exact swapM E s C v V g h r K B
 rotate_left
 ·exact swapN E s g h r K B
 ·exact swapC E s C v g h r K B
 obtain⟨oa,ya,H,f,A,T,F⟩:=Z3e E K
 obtain⟨ob,yb,I,z,W,U,u⟩:=Z3e C B
 obtain rfl:oa=oa':=by rw[H] at g; exact Option.some.inj g
 obtain rfl:ob=ob':=by rw[I] at h; exact Option.some.inj h
 obtain⟨Z,h2,h3⟩:=Oper.apart_spec r
 obtain⟨σ1',c1,Y⟩:=Zrk (λt m=>h2 t m) A W
 obtain⟨n1,t1,k1⟩:=Zrl A
 obtain⟨n2,t2,k2⟩:=Zrl c1
 have q:J9 ops ob σ1 σ:=⟨n1.symm,λt m=>(t1 t λe=>Z t e m).symm⟩
 have Q:Uz P ops told gs j ob σ=some (yb,pb):=by
  rcases c with (c|c)|c
  ·refine Z3d q (.inl ?_) z
   -- a value:the heap is the same
   have J:∃ d,ya=.val d:=by
    unfold Uz at f
    split at f
    ·cases f
    ·split at f
     ·rename_i y p he; cases f; exact Zsi c he
     ·cases f
    ·split at f
     ·cases f; exact⟨_,rfl⟩
     ·cases f
   obtain⟨d,rfl⟩:=J
   intro b k X
   rw[Y2z A] at X; exact X
  ·exact Z3d q (.inr c) z
  ·have l:=u
   unfold Z0j at l
   rw[c] at l
   simp only[Bool.not_true,Bool.false_or,Bool.and_eq_true,List.all_eq_true] at l
   exact Zo3 (R:=λ_=>false) (λt m=>Zny (l.1.2 t m)) q (λb B=>by cases B) z
 have x:J9 ops oa σ σ1':=⟨n2,λt m=>t2 t λe=>h3 t e m⟩
 have O:Uz P ops told gs i oa σ1'=some (ya,pa):=Z3d x (.inl k2) f
 refine⟨σ1',Z5m C I Q c1 (λs=>?_) (by rw[Z4o q.tmps]; exact u),Z5m E H O Y (λs=>?_) (by rw[Z4o x.tmps]; exact F)⟩
 ·obtain⟨d,L,M,N⟩:=U s
  exact⟨d,L,M,λt m=>by rw[q.tmps t m]; exact N t m⟩
 ·obtain⟨d,L,M,N⟩:=T s
  exact⟨d,L,M,λt m=>by rw[x.tmps t m]; exact N t m⟩
def Ms (P:Program) (ops:Array Oper) (told:List (Nat×X8)) (gs:List (Nat×Bool)) (xs:List Nat):List Nat→S→Option (S×Prop)
 | [],σ=>some (σ,True)
 | i :: r,σ=>
  match V5 P ops told gs xs i σ with
  | some (σ',p)=>
   match Ms P ops told gs xs r σ' with
   | some (σ'',q)=>some (σ'',p∧q)
   | none=>none
  | none=>none
theorem Zrq {i:Nat} {j:List Nat}:∀ (b:List Nat) {σ σ':S} {p:Prop},(∀ x∈b,Zao ops xs x i=true)→Ms P ops told gs xs (b++i::j) σ=some (σ',p)→p→
  ∃ σi pi c,V5 P ops told gs xs i σ=some (σi,pi)∧pi∧Ms P ops told gs xs (b++j) σi=some (σ',c)∧c
 | [], σ,σ',p,_,h,hp=>by
  simp only[List.nil_append] at h ⊢
  unfold Ms at h
  split at h
  ·rename_i σ1 q e
   split at h
   ·rename_i σ2 k f
    cases h
    exact⟨σ1,q,k,e,hp.1,f,hp.2⟩
   ·cases h
  ·cases h
 | x :: b,σ,σ',p,g,h,hp=>by
  simp only[List.cons_append] at h ⊢
  unfold Ms at h
  split at h
  ·rename_i σ1 q e
   split at h
   ·rename_i σ2 k f
    cases h
    obtain⟨σi,pi,c,k1,k2,k3,k4⟩:=Zrq b (λy l=>g y (by simp[l])) f hp.2
    obtain⟨σ1',m,n⟩:=swapX (g x (by simp)) e k1
    refine⟨σ1',pi,q∧c,m,k2,?_,hp.1,k4⟩
    unfold Ms
    rw[n]; dsimp only; rw[k3]
   ·cases h
  ·cases h
def K8 (ops:Array Oper) (i:Nat):List Nat:=
 match ops[i]? with
 | some o=>(o.after.toList.filter (Region.binds .any)).map (·.on)
 | none=>[]
def wOf:List (Nat×List Nat)→Nat→List Nat
 | [],_=>[]
 | (k,l)::r,i=>match i==k with|true=>l|false=>wOf r i
def Zj5 (ops:Array Oper) (W:List (Nat×List Nat)):List Nat→Bool
 | [] =>true
 | b::r=>(wOf W b).all (λx=>Xq x (K8 ops b)||(K8 ops b).any λc=>Xq x (wOf W c))&&Zj5 ops W r
def Z3g (ops:Array Oper) (xs:List Nat) (W:List (Nat×List Nat)):List Nat→Bool
 | [] =>true
 | x::r=>r.all (λb=>Xq x (wOf W b)||Zao ops xs x b)&&Z3g ops xs W r
def Z2a (ops:Array Oper):List Nat→Bool
 | [] =>true
 | b::r=>(K8 ops b).all (λc=>Nat.blt c ops.size&& !Xq c (b::r))&&Z2a ops r
def Z2m:List Nat→Bool
 | [] =>true
 | b::r=>!Xq b r&&Z2m r
def ordOk (ops:Array Oper) (xs:List Nat) (W:List (Nat×List Nat)) (ord:List Nat):Bool:=
 ord.length==ops.size&&Z2m ord&&ord.all (λi=>Nat.blt i ops.size)&&(List.range ops.size).all (λi=>Xq i ord)&&Zj5 ops W ord&&Z3g ops xs W ord&&Z2a ops ord
theorem Z17 {n:Nat}:∀ {l:List Nat},Xq n l=true↔n∈l
 | [] =>by simp[Xq]
 | x :: r=>by
  unfold Xq
  cases h:n==x with
  | true=>simp only[true_iff]; have:=eq_of_beq h; subst this; simp
  | false=>
   have b:n≠x:=by simpa using h
   show Xq n r=true↔n∈x::r
   rw[Z17,List.mem_cons]
   exact⟨.inr,λc=>c.resolve_left b⟩
theorem Zug {W:List (Nat×List Nat)} {i:Nat} {g:List Nat}:∀ {e:List Nat},Z3g ops xs W (e++i::g)=true→(∀ x∈e,x∈wOf W i∨Zao ops xs x i=true)∧Z3g ops xs W (e++g)=true
 | [],h=>by
  simp only[List.nil_append,Z3g,Bool.and_eq_true] at h ⊢
  exact⟨by simp,h.2⟩
 | x :: e,h=>by
  simp only[List.cons_append,Z3g,Bool.and_eq_true,List.all_eq_true,Bool.or_eq_true,Z17] at h ⊢
  obtain⟨j,k⟩:=Zug h.2
  refine⟨λy f=>?_,λb c=>h.1 b ?_,k⟩
  ·rcases List.mem_cons.1 f with rfl|f
   ·exact h.1 i (by simp)
   ·exact j y f
  ·rcases List.mem_append.1 c with c|c
   ·simp[c]
   ·simp[c]
theorem Zzb {i:Nat} {g:List Nat}:∀ {e:List Nat},Z2a ops (e++i::g)=true→Z2a ops (e++g)=true
 | [],h=>by simp only[List.nil_append,Z2a,Bool.and_eq_true] at h ⊢; exact h.2
 | x :: e,h=>by
  simp only[List.cons_append,Z2a,Bool.and_eq_true,List.all_eq_true,Bool.not_eq_true'] at h ⊢
  refine⟨λc f=>⟨(h.1 c f).1,?_⟩,Zzb h.2⟩
  have:=(h.1 c f).2
  rw[← Bool.not_eq_true,Z17] at this ⊢
  intro b; apply this
  rcases List.mem_cons.1 b with rfl|b
  ·simp
  ·rcases List.mem_append.1 b with b|b
   ·simp[b]
   ·simp[b]
theorem Zse {i:Nat} {e:List Nat}:∀ {c:List Nat},Z2m (c++i::e)=true→Z2m (c++e)=true∧i ∉ c++e
 | [],h=>by
  simp only[List.nil_append,Z2m,Bool.and_eq_true,Bool.not_eq_true'] at h ⊢
  exact⟨h.2,by rw[← Bool.not_eq_true,Z17] at h; exact h.1⟩
 | x :: c,h=>by
  simp only[List.cons_append,Z2m,Bool.and_eq_true,Bool.not_eq_true',← Bool.not_eq_true,Z17] at h ⊢
  obtain⟨f,g⟩:=Zse h.2
  refine⟨⟨λb=>h.1 ?_,f⟩,λb=>?_⟩
  ·rcases List.mem_append.1 b with b|b
   ·simp[b]
   ·simp[b]
  ·rcases List.mem_cons.1 b with rfl|b
   ·exact h.1 (by simp)
   ·exact g b
theorem Ztu {b c:Nat}:c∈K8 ops b↔∃ o,ops[b]?=some o∧∃ e∈o.after,Region.binds .any e=true∧e.on=c:=by
 unfold K8
 cases h:ops[b]? with
 | none=>simp
 | some o=>simp[and_assoc]
structure Left (ops:Array Oper) (W:List (Nat×List Nat)) (listed:Array Bool) (V0:List Nat):Prop where
 size:listed.size=ops.size
 mem:∀ j,j<ops.size→(listed.getD j true=false↔j∈V0)
 lt:∀ j∈V0,j<ops.size
 closed:∀ c,c<ops.size→c ∉ V0→(∀ x∈wOf W c,x ∉ V0)
theorem anyX {W:List (Nat×List Nat)} {Q:Exit→Act→World→Prop} (s:∀ b,b<ops.size→∀ x∈wOf W b,x∈K8 ops b∨∃ c∈K8 ops b,x∈wOf W c):
  ∀ (n:Nat) (V0:List Nat) (listed:Array Bool) {σ σ':S} {a:Act} {w:World} {G β} {p:Prop},V0.length=n→Left ops W listed V0→Z3g ops xs W V0=true→Z2a ops V0=true→Z2m V0=true→
   Zk Γ σ a w G β→Ms P ops told gs xs V0 σ=some (σ',p)→p→(∀ Z w' G' β',Zk Γ σ' Z w' G' β'→Q .normal Z w')→wpAny P .any ops Q n listed a w
 | 0,V0,listed,σ,σ',a,w,G,β,p,X,g,_,_,_,hC,h,hp,hQ=>by
  obtain rfl:=List.eq_nil_of_length_eq_zero X
  cases h
  refine⟨?_,hQ _ _ _ _ hC⟩
  apply List.eq_nil_iff_forall_not_mem.2
  intro j t
  obtain⟨A,o,Y,-⟩:=mem_ready.1 t
  have:=(g.mem j (Array.getElem?_eq_some_iff.1 Y).1).1 A
  cases this
 | n + 1,V0,listed,σ,σ',a,w,G,β,p,X,g,z,l,H,hC,h,hp,hQ=>by
  have q:∀ c,c<ops.size→c ∉ V0→listed.getD c false=true:=λc m hn=>by
   have A:listed.getD c true=true:=by
    cases E:listed.getD c true with
    | true=>rfl
    | false=>exact absurd ((g.mem c m).1 E) hn
   have v:c<listed.size:=by rw[g.size]; exact m
   simp only[Array.getD_eq_getD_getElem?,Array.getElem?_eq_getElem v,Option.getD_some] at A ⊢
   exact A
  refine⟨λhr=>?_,λi hi=>?_⟩
  ·match V0,X with
   | b :: r,_=>
    exfalso
    have E:=g.lt b (by simp)
    have:b∈Region.ready .any ops listed:=mem_ready.2 ⟨(g.mem b E).2 (by simp),ops[b],Array.getElem?_eq_getElem E,λe he F=>by
     have M:e.on∈K8 ops b:=Ztu.2 ⟨_,Array.getElem?_eq_getElem E,e,he,F,rfl⟩
     simp only[Z2a,Bool.and_eq_true,List.all_eq_true,Bool.not_eq_true'] at l
     obtain⟨A,V⟩:=l.1 _ M
     rw[← Bool.not_eq_true,Z17] at V
     exact q _ (by simpa using A) V⟩
    rw[hr] at this; cases this
  ·obtain⟨A,o,Y,V⟩:=mem_ready.1 hi
   have v:=(Array.getElem?_eq_some_iff.1 Y).1
   have O:=(g.mem i v).1 A
   obtain⟨K,U,rfl⟩:=List.append_of_mem O
   obtain⟨hd1,hd2⟩:=Zse H
   -- what it waits for is listed
   have u:∀ c,listed.getD c false=true→c<ops.size∧c ∉ K++i::U:=λc m=>by
    have B:c<listed.size:=by
     rcases Nat.lt_or_ge c listed.size with f|f
     ·exact f
     ·simp[Array.getD_eq_getD_getElem?,Array.getElem?_eq_none f] at m
    have C:c<ops.size:=by rw[← g.size]; exact B
    refine⟨C,λy=>?_⟩
    have:=(g.mem c C).2 y
    simp only[Array.getD_eq_getD_getElem?,Array.getElem?_eq_getElem B,Option.getD_some] at this m
    rw[m] at this; cases this
   have k:∀ c∈K8 ops i,c<ops.size∧c ∉ K++i::U:=λc m=>by
    obtain⟨o',T,e,he,E,rfl⟩:=Ztu.1 m
    rw[Y] at T; cases T
    exact u _ (V e he E)
   have hW:∀ x∈wOf W i,x ∉ K++i::U:=λx J=>by
    rcases s i v x J with f|⟨c,m,f⟩
    ·exact(k x f).2
    ·exact g.closed c (k c m).1 (k c m).2 x f
   obtain⟨hp1,hp2⟩:=Zug z
   obtain⟨σi,pi,p',k1,k2,k3,k4⟩:=Zrq K (λx J=>(hp1 x J).resolve_left λhw=>hW x hw (by simp[J])) h hp
   refine Zo2 hC (Zo4 k1) k2 λZ w' G' β' hC'=>?_
   refine anyX s n (K++U) _ (by simp at X ⊢; omega) ?_ hp2 (Zzb l) hd1 hC' k3 k4 hQ
   refine⟨by simp[g.size],λj t=>?_,λj t=>g.lt j ?_,λc m hn x J y=>?_⟩
   ·by_cases I:j=i
    ·subst I
     refine⟨λhg=>?_,λy=>absurd y hd2⟩
     rw[Array.getD_eq_getD_getElem?,Array.getElem?_setIfInBounds_self_of_lt (by rw[g.size]; exact t)] at hg
     cases hg
    ·rw[getD_set_ne _ (Ne.symm I),g.mem j t]
     simp[I]
   ·rcases List.mem_append.1 t with t|t
    ·simp[t]
    ·simp[t]
   ·have N:x∈K++i::U:=by
     rcases List.mem_append.1 y with y|y
     ·simp[y]
     ·simp[y]
    by_cases L:c=i
    ·subst L; exact hW x J N
    ·refine g.closed c m (λhcm=>hn ?_) x J N
     rcases List.mem_append.1 hcm with f|f
     ·simp[f]
     ·rcases List.mem_cons.1 f with f|f
      ·exact absurd f L
      ·simp[f]
theorem DWP.draw {id:Nat} {W:List (Nat×List Nat)} {ord:List Nat} {p:Prop} {Q:Exit→S→Prop} (f:P.follows .mixedOrders=true) (e:ordOk ops xs W ord=true)
  (h:Ms P ops told gs xs ord σ=some (σ',p)) (hp:p) (A:Q .normal σ'):DWP P Γ (.region id ops true) Q σ:=λa w G β z=>by
 unfold ordOk at e
 simp only[Bool.and_eq_true,beq_iff_eq,List.all_eq_true,List.mem_range,Z17] at e
 obtain⟨⟨⟨⟨⟨⟨n,q⟩,s⟩,i⟩,t⟩,u⟩,v⟩:=e
 refine wp_region_any f (anyX (W:=W) (xs:=xs) (told:=told) (gs:=gs) ?_ ops.size ord _ n ?_ u v q (z.quiet (Z6i w)) h hp λF w' G' β' k=>⟨σ',G',β',k,A⟩)
 ·intro b m x E
  have key:∀ l:List Nat,Zj5 ops W l=true→b∈l→x∈K8 ops b∨∃ c∈K8 ops b,x∈wOf W c:=λl=>by
   induction l with
   | nil=>intro _ m; cases m
   | cons y r ih=>
    intro hw f
    simp only[Zj5,Bool.and_eq_true,List.all_eq_true,Bool.or_eq_true,List.any_eq_true,Z17] at hw
    rcases List.mem_cons.1 f with rfl|f
    ·exact hw.1 x E
    ·exact ih hw.2 f
  exact key ord t (i b m)
 ·refine⟨by simp,λj g=>?_,λj g=>by simpa using s j g,λc B C=>absurd (i c B) C⟩
  simp only[Array.getD_eq_getD_getElem?,Array.getElem?_replicate,g,if_true,Option.getD_some,true_iff]
  exact i j g
end Go.Den
