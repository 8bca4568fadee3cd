/-
  Regions that draw their order: an operation reads its operands, its guard and the heap, and yields a value or a new block; what is not bound to an order may change places.
-/
import Derived.Test.YtiiilinleagffaaGreatDoorDenGc
import Derived.Orders
set_option linter.unusedVariables false
set_option linter.unusedSimpArgs false
namespace Go.Den
open Go.RowKit
def X8 (n:Nat):List Nat→Bool
 | [] =>false
 | x::r=>match n==x with
  | true=>true
  | false=>X8 n r
inductive Ld where
 | val (d:D)
 | blk (k:Blk) (v:Nat→D)
def Q4 (σ:S) (dst:Option Nat):Ld→Option S
 | .val d=>some (σ.put dst d)
 | .blk k v=>match dst with
  | some t=>match σ.heap t with
   | none=>some ((σ.setB t (some k)).put (some t) (v t))
   | some _=>none
  | none=>none
def M7 (P:Program) (σ:S) (f:FuncId) (args:List D) (told:Yt):Option (D×Prop):=
 match told.ans,told.io with
 | .val r,none=>
  match Vi σ args with
  | some (ds,l,p)=>
   match r.scalar||l.isEmpty with
   | true=>some (r,p∧ds=(Lt told ds)∧Z2t P f (Lt told ds) r)
   | false=>none
  | none=>none
 | _,_=>none
def Z48 (P:Program) (σ:S) (src dst:TypeId) (x:D) (told:Yt):Option (D×Prop):=
 match P.underlying dst,Ju P src with
 | some .string,some e=>
  match P.underlying e,Wr P e with
  | some (.int .u8),some 1=>
   match L1 σ x,told.ans with
   | some (rows,q),.val (.str s)=>some (.str s,q∧Kl rows=some s)
   | _,_=>none
  | _,_=>none
 | _,_=>none
def Wy (P : Program) (σ:S) (o:Oper) (told:Yt):Option (Ld×Prop):=
 match Xe σ o with
 | false=>none
 | true=>
  match Xi P σ o told.ans with
  | some (d,p)=>some (.val d,p)
  | none=>
   match o.op with
   | .alloc e=>
    match Lh P e with
    | some cs=>some (.blk { sz:=cs.length,rows:=[cs],frz:=0,pure:=false,ty:=tyR told.ro e } (λt=> .lptr t 0 0),True)
    | none=>none
   | .box _ x=>
    match cellsOf (σ.ev x) with
    | some cs=>match told.ro with
     | true=>(match cs.all D.dat with
      | true=>some (.val (.ptr cs),True)
      | false=>none)
     | false=>some (.blk { sz:=cs.length,rows:=[cs],frz:=0,pure:=false } (λt=> .lptr t 0 0),True)
    | none=>none
   | .build t parts=>
    match Lh P t,Z94 P t with
    | some z,some pl=>
     match Mk pl z (parts.toList.map λx=>(x.1,σ.ev x.2)) with
     | some cs=>some (.val (.agg cs),True)
     | none=>none
    | _,_=>none
   | .buildSlice t len parts=>
    match Ju P t with
    | some e=>
     match P.info? e with
     | some ie =>
      match Vi σ (parts.toList.map λx=>σ.ev x.2) with
      | some (ds,[],p)=>
       match Mk (λi=>some (i*ie.size,ie.size)) (List.replicate (len*ie.size) .undef) ((parts.toList.map (·.1)).zip ds) with
       | some cs=>match cs.all D.dat&&Nat.ble (len*ie.size) 16777216&&(Lh P e).isSome with
        | true=>match told.ro with
         | true=>(match told.rows with
          | none=>some (.val (.sl true (Jg ie.size len cs)),p)
          | some _=>none)
         | false=>some (.blk { sz:=ie.size,rows:=Jg ie.size len cs,frz:=0,pure:=true,ty:=tyR told.mt e } (λt=> .lsl t 0 len),p)
        | false=>none
       | none=>none
      | _=>none
     | none=>none
    | none=>none
   | .makeSlice t l c=>
    match Ju P t,σ.ev l,σ.ev c with
    | some e,.int _ l,.int _ c=>
     match P.info? e,Z6f P e with
     | some ie,some z=>match z.length==ie.size&&z.all D.dat with
      | true=>
       let rows:=told.rows.getD (List.replicate l.toNat z)
       some (.blk { sz:=ie.size,rows,frz:=0,pure:=true } (λt=> .lsl t 0 rows.length),0≤l∧l≤c∧(ie.bytes:Int)*c≤281474976710656∧c≤9223372036854775807∧List.replicate l.toNat z=rows)
      | false=>none
     | _,_=>none
    | _,_,_=>none
   | .convert src dst x=>
    match Z48 P σ src dst (σ.ev x) told with
    | some (d,p)=>some (.val d,p)
    | none=>none
   | .call { callee:= .value f,args,.. }=>
    match σ.ev f with
    | .fn f=>match M7 P σ f (args.toList.map σ.ev) told with
     | some (d,p)=>some (.val d,p)
     | none=>none
    | _=>none
   | _=>none
variable {P:Program} {Γ:Ctx} {σ τ σ':S} {a:Act} {w w':World} {G G':Nat→Nat} {β β':Nat→Option (Nat×Nat)}
theorem Zvx (σ:S):σ.freezeL []=σ:=rfl
theorem Zci {o:Oper} {blk:Blk} {v:Nat→D} {p:Prop} (hd:Xe σ o=true) (h:Q4 σ o.dst (.blk blk v)=some σ'):Ux σ o blk v p=some (σ',p):=by
 simp only[Q4] at h
 unfold Ux
 split at h
 ·rename_i t ht
  rw[ht]
  split at h
  ·rename_i hn
   cases h
   have:Nat.blt t σ.n=true:=by simpa [Xe,ht] using hd
   simp only[hn,this]
  ·cases h
 ·cases h
theorem Zyg {o:Oper} {told:Yt} {y:Ld} {p:Prop} (h:Wy P σ o told=some (y,p)) (hy:Q4 σ o.dst y=some σ'):Qe P σ o told=some (σ',p):=by
 unfold Wy at h
 split at h
 ·cases h
 ·rename_i hd
  unfold Qe
  split at h
  ·rename_i d q hq
   cases h; simp only[Q4,Option.some.injEq] at hy; subst hy
   rw[hq]; dsimp only; rw[hd]
  ·rename_i hn
   rw[hn]
   dsimp only
   unfold Vt
   split at h
   ·rename_i e heq
    simp only[heq]
    split at h
    ·rename_i cs hz; cases h; simp only[hz]; exact Zci hd hy
    ·cases h
   ·rename_i e x heq
    simp only[heq]
    split at h
    ·rename_i cs hz
     simp only[hz]
     split at h
     ·rename_i hro
      split at h
      ·rename_i hall
       cases h; simp only[Q4,Option.some.injEq] at hy; subst hy; simp only[hro,hall,hd]
      ·cases h
     ·rename_i hro; cases h; simp only[hro]; exact Zci hd hy
    ·cases h
   ·rename_i t parts heq
    simp only[heq]
    split at h
    ·rename_i z pl h1 h2
     split at h
     ·rename_i cs h3; cases h; simp only[Q4,Option.some.injEq] at hy; subst hy; simp only[h1,h2,h3,hd]
     ·cases h
    ·cases h
   ·rename_i t len parts heq
    simp only[heq]
    split at h
    ·rename_i e h1
     split at h
     ·rename_i ie h2
      split at h
      ·rename_i ds q h3
       split at h
       ·rename_i cs h4
        split at h
        ·rename_i h5
         split at h
         ·rename_i hro
          split at h
          ·rename_i hrw
           cases h; simp only[Q4,Option.some.injEq] at hy; subst hy; simp only[h1,h2,h3,h4,h5,hro,hd,Zvx,hrw]
          ·cases h
         ·rename_i hro
          cases h; simp only[h1,h2,h3,h4,h5,hro,Zvx]; exact Zci hd hy
        ·cases h
       ·cases h
      ·cases h
     ·cases h
    ·cases h
   ·rename_i t l c heq
    simp only[heq]
    split at h
    ·rename_i e k l' k' c' h1 h2 h3
     split at h
     ·rename_i ie z h4 h5
      split at h
      ·rename_i h6; cases h; simp only[h1,h2,h3,h4,h5,h6]; exact Zci hd hy
      ·cases h
     ·cases h
    ·cases h
   ·rename_i src dst x heq
    simp only[heq]
    split at h
    ·rename_i d q hb
     cases h; simp only[Q4,Option.some.injEq] at hy; subst hy
     unfold Z48 at hb
     unfold Z26
     split at hb
     ·rename_i e h1 h2
      split at hb
      ·rename_i h3 h4
       split at hb
       ·rename_i rows q' s h5 h6
        cases hb
        split
        ·rename_i b hxe; rw[hxe] at h5; cases h5
        ·have hsb:Z28 P σ src dst (σ.ev x)=false:=by
          unfold Z28
          split
          ·split
           ·rename_i h9; rw[h1] at h9; cases h9
           ·rfl
          ·rfl
         simp only[hsb,Bool.false_and,h1,h2,h3,h4,h5,h6,hd]
       ·cases hb
      ·cases hb
     ·cases hb
    ·cases h
   ·rename_i f args ts heq
    simp only[heq]
    split at h
    ·rename_i g hg
     split at h
     ·rename_i d q hc
      cases h; simp only[Q4,Option.some.injEq] at hy; subst hy
      unfold M7 at hc
      unfold Z35
      split at hc
      ·rename_i r hr hio
       split at hc
       ·rename_i ds l q' h1
        split at hc
        ·rename_i h2
         cases hc
         simp only[hg,hio,hr,h1,hd]
         cases hs:d.scalar with
         | true=>rfl
         | false=>
          simp only[hs,Bool.false_or,List.isEmpty_iff] at h2
          subst h2; rfl
        ·cases hc
       ·cases hc
      ·cases hc
     ·cases h
    ·cases h
   ·cases h
structure More (o:Oper) (σ τ:S):Prop where
 n:τ.n=σ.n
 ev:∀ x∈o.op.operands,τ.ev x=σ.ev x
 heap:∀ b k,σ.heap b=some k→τ.heap b=some k
variable {o:Oper}
theorem Zz6 (hh:∀ b k,σ.heap b=some k→τ.heap b=some k) {x:D} {ans:Ans} {r:List D×Prop} (h:Kb σ x ans=some r):Kb τ x ans=some r:=by
 unfold Kb at*
 split at h
 ·exact h
 ·split at h
  ·rename_i blk hb; rw[hh _ _ hb]; exact h
  ·cases h
 ·cases h
theorem Zy4 (hh:∀ b k,σ.heap b=some k→τ.heap b=some k) {t:TypeId} {x:D} {ans:Ans} {r:D×Prop} (h:Js P σ t x ans=some r):Js P τ t x ans=some r:=by
 unfold Js at*
 split at h
 ·rename_i cs p hd; rw[Zz6 hh hd]; exact h
 ·cases h
theorem Y1l (hh:∀ b k,σ.heap b=some k→τ.heap b=some k) {t:TypeId} {x i:D} {ans:Ans} {r:D×Prop} (h:M1 P σ t x i ans=some r):M1 P τ t x i ans=some r:=by
 unfold M1 at*
 split at h
 ·split at h
  ·split at h
   ·split at h
    ·exact h
    ·split at h
     ·rename_i blk hb; simp only[hh _ _ hb]; exact h
     ·cases h
    ·cases h
   ·cases h
  ·exact h
  ·cases h
 ·cases h
theorem Y0u (hh:∀ b k,σ.heap b=some k→τ.heap b=some k) {t:TypeId} {x:D} {lo hi mx:Option D} {ans:Ans} {r:D×Prop} (h:M9 P σ t x lo hi mx ans=some r):M9 P τ t x lo hi mx ans=some r:=by
 unfold M9 at*
 split at h
 ·exact h
 ·exact h
 ·split at h
  ·rename_i blk sz hb hs; simp only[hh _ _ hb,hs]; exact h
  ·cases h
 ·cases h
theorem Zni (hh:∀ b k,σ.heap b=some k→τ.heap b=some k) {d:D} {r:D×List Nat×Prop} (h:Wx σ d=some r):Wx τ d=some r:=by
 unfold Wx at*
 split at h
 ·split at h
  ·rename_i blk hb; simp only[hh _ _ hb]; exact h
  ·cases h
 ·split at h
  ·rename_i blk hb; simp only[hh _ _ hb]; exact h
  ·cases h
 ·exact h
 ·exact h
theorem Zus (hh:∀ b k,σ.heap b=some k→τ.heap b=some k):∀ {ds:List D} {r:List D×List Nat×Prop},Jr σ ds=some r→Jr τ ds=some r
 | [],r,h=>h
 | d :: l,r,h=>by
  unfold Jr at*
  split at h
  ·rename_i d' l1 p1 r' l2 p2 e1 e2
   rw[Zni hh e1,Zus hh e2]; exact h
  ·cases h
theorem Y10 (hh:∀ b k,σ.heap b=some k→τ.heap b=some k) {d:D} {r:D×List Nat×Prop} (h:Jw σ d=some r):Jw τ d=some r:=by
 unfold Jw at*
 split at h
 ·split at h
  ·rename_i cs' l p e; rw[Zus hh e]; exact h
  ·cases h
 ·exact Zni hh h
theorem Zg6 (hh:∀ b k,σ.heap b=some k→τ.heap b=some k):∀ {ds:List D} {r:List D×List Nat×Prop},Vi σ ds=some r→Vi τ ds=some r
 | [],r,h=>h
 | d :: l,r,h=>by
  unfold Vi at*
  split at h
  ·rename_i d' l1 p1 r' l2 p2 e1 e2
   rw[Y10 hh e1,Zg6 hh e2]; exact h
  ·cases h
theorem Zx3 (hh:∀ b k,σ.heap b=some k→τ.heap b=some k) {d:D} {r:List (List D)×Prop} (h:L1 σ d=some r):L1 τ d=some r:=by
 unfold L1 at*
 split at h
 ·exact h
 ·split at h
  ·rename_i blk hb; simp only[hh _ _ hb]; exact h
  ·cases h
 ·cases h
theorem Y1k (hh:∀ b k,σ.heap b=some k→τ.heap b=some k) {src dst:TypeId} {x:D} {told:Yt} {r:D×Prop} (h:Z48 P σ src dst x told=some r):Z48 P τ src dst x told=some r:=by
 unfold Z48 at*
 split at h
 ·split at h
  ·split at h
   ·rename_i rows q s h5 h6; rw[Zx3 hh h5]; simp only[h6]; exact h
   ·cases h
  ·cases h
 ·cases h
theorem Zyt (hh:∀ b k,σ.heap b=some k→τ.heap b=some k) {f:FuncId} {args:List D} {told:Yt} {r:D×Prop} (h:M7 P σ f args told=some r):M7 P τ f args told=some r:=by
 unfold M7 at*
 split at h
 ·split at h
  ·rename_i ds l p e; rw[Zg6 hh e]; exact h
  ·cases h
 ·cases h
theorem Zkj {ans:Ans} (hm:More o σ τ) {r:D×Prop} (h:Xi P σ o ans=some r):Xi P τ o ans=some r:=by
 obtain⟨dst,op,ty,pos,after,guard⟩:=o
 have hev:=hm.ev
 have hh:=hm.heap
 cases op <;> simp only[Op.operands] at hev <;> simp only[Xi] at h ⊢
 case move x=>rw[hev x (by simp)]; exact h
 case assign x=>rw[hev x (by simp)]; exact h
 case pick c x y=>rw[hev c (by simp),hev x (by simp),hev y (by simp)]; exact h
 case binOp b xt x y yt=>rw[hev x (by simp),hev y (by simp)]; exact h
 case unOp u t x=>rw[hev x (by simp)]; exact h
 case convert s t x=>rw[hev x (by simp)]; exact h
 case load t x=>rw[hev x (by simp)]; exact Zy4 hh h
 case fieldAddr s x f=>rw[hev x (by simp)]; exact h
 case field s x f=>rw[hev x (by simp)]; exact h
 case indexAddr t x i=>rw[hev x (by simp),hev i (by simp)]; exact Y1l hh h
 case index t x i=>rw[hev x (by simp),hev i (by simp)]; exact h
 case slice t x lo hi mx=>
  have e1:lo.map τ.ev=lo.map σ.ev:=by cases lo with|none=>rfl|some l=>simp[hev l (by simp)]
  have e2:hi.map τ.ev=hi.map σ.ev:=by cases hi with|none=>rfl|some l=>simp[hev l (by simp)]
  have e3:mx.map τ.ev=mx.map σ.ev:=by cases mx with|none=>rfl|some l=>simp[hev l (by simp)]
  rw[hev x (by simp),e1,e2,e3]; exact Y0u hh h
 case extract x i=>rw[hev x (by simp)]; exact h
 case nilCheck x=>rw[hev x (by simp)]; exact h
 case call c=>
  obtain⟨callee,args,ts⟩:=c
  cases callee with
  | builtin b=>
   cases b with
   | len=>
    dsimp only at h ⊢
    split at h
    ·rename_i x t h1 h2
     have hx:x∈args:=Array.mem_of_getElem? h1
     rw[hev x (by simpa [Call.operands] using hx)]; exact h
    ·cases h
   | unsafeSliceData=>
    match args,h,hev with
    | ⟨[x]⟩,h,hev=>
     dsimp only at h ⊢
     rw[hev x (by simp[Call.operands])]; exact h
    | ⟨[]⟩,h,_=>cases h
    | ⟨_::_::_⟩,h,_=>cases h
   | max=>
    match args,h,hev with
    | ⟨[x,y]⟩,h,hev=>
     dsimp only at h ⊢
     rw[hev x (by simp[Call.operands]),hev y (by simp[Call.operands])]; exact h
    | ⟨[]⟩,h,_=>cases h
    | ⟨[_]⟩,h,_=>cases h
    | ⟨_::_::_::_⟩,h,_=>cases h
   | min=>
    match args,h,hev with
    | ⟨[x,y]⟩,h,hev=>
     dsimp only at h ⊢
     rw[hev x (by simp[Call.operands]),hev y (by simp[Call.operands])]; exact h
    | ⟨[]⟩,h,_=>cases h
    | ⟨[_]⟩,h,_=>cases h
    | ⟨_::_::_::_⟩,h,_=>cases h
   | _=>cases h
  | value f=>cases h
  | invoke r m=>cases h
 case makeFunc f first captured=>
  rw[List.map_congr_left (g:=σ.ev) λx hx=>hev x (by simp[Op.operands]; exact .inr (by simpa using hx))]; exact h
 all_goals cases h
theorem Zjn {told:Yt} (hm:More o σ τ) {r:Ld×Prop} (h:Wy P σ o told=some r):Wy P τ o told=some r:=by
 unfold Wy at*
 have hd:Xe τ o=Xe σ o:=by unfold Xe; rw[hm.n]
 rw[hd]
 split at h
 ·cases h
 ·rename_i hdk
  split at h
  ·rename_i d p hp
   rw[Zkj hm hp]; exact h
  ·rename_i hn
   obtain⟨dst,op,ty,pos,after,guard⟩:=o
   have hev:=hm.ev
   have hh:=hm.heap
   cases op <;> simp only[Op.operands] at hev
   case alloc e=>exact h
   case box e x=>simp only[Xi] at h ⊢; rw[hev x (by simp)]; exact h
   case build t parts=>
    have e1:(parts.toList.map λx=>(x.1,τ.ev x.2))=(parts.toList.map λx=>(x.1,σ.ev x.2)):=List.map_congr_left λx hx=>by
     rw[hev x.2 (by simp; exact⟨x.1,by simpa using hx⟩)]
    simp only[Xi,e1] at h ⊢; exact h
   case buildSlice t len parts=>
    have e1:(parts.toList.map λx=>τ.ev x.2)=(parts.toList.map λx=>σ.ev x.2):=List.map_congr_left λx hx=>by
     rw[hev x.2 (by simp; exact⟨x.1,by simpa using hx⟩)]
    simp only[Xi] at h ⊢
    rw[e1]
    split at h
    ·rename_i e h1
     split at h
     ·rename_i ie h2
      split at h
      ·rename_i ds q h3; simp only[h2,Zg6 hh h3]; exact h
      ·cases h
     ·cases h
    ·cases h
   case makeSlice t l c=>simp only[Xi] at h ⊢; rw[hev l (by simp),hev c (by simp)]; exact h
   case convert src dst x=>
    have e1:=hev x (by simp)
    simp only[Xi] at h hn ⊢
    rw[e1,hn]
    simp only[hn] at h ⊢
    split at h
    ·rename_i d q hb; rw[Y1k hh hb]; exact h
    ·cases h
   case call c=>
    obtain⟨callee,args,ts⟩:=c
    cases callee with
    | value f=>
     simp only[Xi] at h ⊢
     have e1:args.toList.map τ.ev=args.toList.map σ.ev:=List.map_congr_left λx hx=>hev x (by simp[Call.operands]; exact .inr (by simpa using hx))
     rw[hev f (by simp[Call.operands]),e1]
     split at h
     ·rename_i g hg
      split at h
      ·rename_i d q hc; rw[Zyt hh hc]; exact h
      ·cases h
     ·cases h
    | builtin b=>cases h
    | invoke r m=>cases h
   all_goals cases h
def J7:D→Bool
 | .lptr .. |.lsl .. |.agg _|.tup _|.clo .. |.lsk .. =>false
 | _=>true
def Uj:D→Bool
 | .agg cs=>cs.all J7
 | d=>J7 d
def V4:D→Bool
 | .tup vs=>vs.all Uj
 | d=>Uj d
theorem Zyr {d:D} (h:J7 d=true) (b:Nat):d.killA b=d:=by cases d <;> first|rfl|cases h
theorem Zs3 {d:D} (h:Uj d=true) (b:Nat):d.killB b=d:=by
 cases d with
 | agg cs=>
  simp only[Uj,List.all_eq_true] at h
  simp only[D.killB,D.agg.injEq]
  exact(List.map_congr_left λx hx=>Zyr (h x hx) b).trans (List.map_id _)
 | tup vs=>simp[Uj,J7] at h
 | lptr b' i o=>simp[Uj,J7] at h
 | lsl b' lo n=>simp[Uj,J7] at h
 | clo f bs=>simp[Uj,J7] at h
 | lsk f b' lo n=>simp[Uj,J7] at h
 | _=>rfl
theorem Zo3 {d:D} (h:V4 d=true) (b:Nat):d.kill b=d:=by
 cases d with
 | tup vs=>
  simp only[V4,List.all_eq_true] at h
  simp only[D.kill,D.tup.injEq]
  exact(List.map_congr_left λx hx=>Zs3 (h x hx) b).trans (List.map_id _)
 | agg cs=>exact Zs3 (d:= .agg cs) h b
 | lptr b' i o=>simp[V4,Uj,J7] at h
 | lsl b' lo n=>simp[V4,Uj,J7] at h
 | clo f bs=>simp[V4,Uj,J7] at h
 | lsk f b' lo n=>simp[V4,Uj,J7] at h
 | _=>rfl
structure Fr (dst:Option Nat) (σ σ':S):Prop where
 n:σ'.n=σ.n
 tmps:∀ t,dst≠some t→V4 (σ.tmps t)=true→σ'.tmps t=σ.tmps t
theorem Fr.refl (dst:Option Nat) (σ:S):Fr dst σ σ:=⟨rfl,λ_ _ _=>rfl⟩
theorem Fr.trans {dst:Option Nat} {a b c:S} (h:Fr dst a b) (k:Fr dst b c):Fr dst a c:=
 ⟨k.n.trans h.n,λt ht hn=>by rw[k.tmps t ht (by rw[h.tmps t ht hn]; exact hn),h.tmps t ht hn]⟩
theorem Fr.put {dst:Option Nat} {a b:S} (h:Fr dst a b) (d:D):Fr dst a (b.put dst d):=h.trans ⟨by cases dst <;> rfl,λt ht hn=>by
 cases dst with
 | none=>rfl
 | some u=>simp only[S.put]; rw[if_neg (λe=>ht (by rw[e]))]⟩
theorem Fr.setB {dst:Option Nat} {a b:S} (h:Fr dst a b) (k:Nat) (x:Option Blk):Fr dst a (b.setB k x):=⟨h.n,h.tmps⟩
theorem Fr.drop {dst:Option Nat} {a b:S} (h:Fr dst a b) (k:Nat):Fr dst a (b.drop k):=h.trans ⟨rfl,λt _ hn=>Zo3 hn k⟩
theorem Fr.freezeL {dst:Option Nat} {a b:S} (h:Fr dst a b) (l:List Nat):Fr dst a (b.freezeL l):=h.trans ⟨(Z3l l b).2,λt _ _=>by rw[(Z3l l b).1]⟩
theorem Fr.dropL {dst:Option Nat} {a:S}:∀ (l:List Nat) {b:S},Fr dst a b→Fr dst a (b.dropL l)
 | [],_,h=>h
 | x::l,_,h=>Fr.dropL l (h.drop x)
theorem Fr.setL {dst:Option Nat} {a b:S} (h:Fr dst a b) (ρ:List Nat) (bs:List Blk):Fr dst a (b.setL ρ bs):=⟨h.n,h.tmps⟩
theorem Zi7:∀ (l:List (Nat×Nat)) {σ σ':S},σ.nilL l=some σ'→σ'.tmps=σ.tmps∧σ'.n=σ.n
 | [],σ,σ',hs=>by cases hs; exact⟨rfl,rfl⟩
 | (b,sz)::l,σ,σ',hs=>by
  unfold S.nilL at hs
  split at hs
  ·obtain⟨h2,h3⟩:=Zi7 l hs
   exact⟨h2,h3⟩
  ·cases hs
theorem Z6t {o:Oper} {blk:Blk} {v:Nat→D} {p q:Prop} (h:Ux τ o blk v p=some (σ',q)) (hf:Fr o.dst σ τ):Fr o.dst σ σ':=by
 obtain⟨t,ht,hb,hlt,rfl,-⟩:=Z05 h
 rw[ht] at hf ⊢
 exact(hf.setB t _).put _
theorem Zwi {o:Oper} {told:Yt} {p:Prop} (h:Qe P σ o told=some (σ',p)):Fr o.dst σ σ':=by
 have h0:=Fr.refl o.dst σ
 unfold Qe at h
 split at h
 ·split at h
  ·cases h; exact h0.put _
  ·cases h
 ·unfold Vt at h
  split at h
  ·split at h
   ·exact Z6t h h0
   ·cases h
  ·split at h
   ·split at h
    ·split at h
     ·cases h; exact h0.put _
     ·cases h
    ·exact Z6t h h0
   ·cases h
  ·split at h
   ·split at h
    ·split at h
     ·cases h; exact h0.put _
     ·cases h
    ·cases h
   ·cases h
  ·split at h
   ·split at h
    ·split at h
     ·split at h
      ·split at h
       ·split at h
        ·split at h
         ·split at h
          ·cases h; exact(h0.freezeL _).put _
          ·cases h; exact(h0.freezeL _).put _
         ·cases h
        ·exact Z6t h (h0.freezeL _)
       ·cases h
      ·cases h
     ·cases h
    ·cases h
   ·cases h
  ·split at h
   ·split at h
    ·split at h
     ·exact Z6t h h0
     ·cases h
    ·cases h
   ·cases h
  ·unfold Z26 at h
   repeat' split at h
   all_goals first|(cases h; done)|(cases h; exact h0.put _)
  ·unfold Z0d at h
   repeat' split at h
   all_goals first|(cases h; done)|(cases h; exact(h0.setB _ _).put _)
  ·split at h
   ·split at h
    ·unfold Z35 at h
     repeat' split at h
     all_goals first|(cases h; done)|(cases h; exact h0.put _)|(cases h; exact(h0.freezeL _).put _)
    ·unfold Z1g at h
     split at h
     ·split at h
      ·rename_i σ0 hs0
       have h1:Fr o.dst σ σ0:=⟨(Zi7 _ hs0).2,λt _ _=>by rw[(Zi7 _ hs0).1]⟩
       split at h
       ·split at h
        ·split at h
         ·cases h
          exact((Fr.dropL _ (h1.freezeL _)).setL _ _).put _
         ·cases h
        ·cases h
       ·cases h
      ·cases h
     ·cases h
   ·cases h
  ·split at h
   ·unfold Z1i at h
    repeat' split at h
    all_goals first
     | (cases h; done)
     | (cases h; exact((h0.drop _).setB _ _).put _)
     | exact Z6t h h0
   ·cases h
  ·split at h
   ·unfold unsD at h
    repeat' split at h
    all_goals first|(cases h; done)|(cases h; exact((h0.drop _).setB _ _).put _)
   ·cases h
  ·cases h
section
variable {db:Nat} {d:D}
theorem Vy {x:Option Nat} (hne:x≠some db) (σ:S) (u:D):(σ.put (some db) d).put x u=(σ.put x u).put (some db) d:=by
 cases x with
 | none=>rfl
 | some t=>
  simp only[S.put,S.mk.injEq,true_and,and_true]
  funext v
  by_cases h1:v=t <;> by_cases h2:v=db
  ·subst h1 h2; exact absurd rfl hne
  ·simp[h1,h2]; intro h; subst h1; exact absurd h h2
  ·simp[h1,h2]; intro h; subst h2; exact absurd h h1
  ·simp[h1,h2]
theorem Kd (σ:S) (b:Nat) (k:Option Blk):(σ.put (some db) d).setB b k=(σ.setB b k).put (some db) d:=rfl
theorem Z83 (hn:V4 d=true) (σ:S) (b:Nat):(σ.put (some db) d).drop b=(σ.drop b).put (some db) d:=by
 simp only[S.put,S.drop,S.mk.injEq,true_and,and_true]
 funext v
 split
 ·exact Zo3 hn b
 ·rfl
theorem Z3n:∀ (l:List Nat) (σ:S),(σ.put (some db) d).freezeL l=(σ.freezeL l).put (some db) d
 | [],_=>rfl
 | b::l,σ=>Z3n l (σ.freeze b)
theorem Zor (hn:V4 d=true):∀ (l:List Nat) (σ:S),(σ.put (some db) d).dropL l=(σ.dropL l).put (some db) d
 | [],_=>rfl
 | b::l,σ=>by
  show ((σ.put (some db) d).drop b).dropL l=_
  rw[Z83 hn,Zor hn l]; rfl
theorem Zv5 (σ:S) (ρ:List Nat) (bs:List Blk):(σ.put (some db) d).setL ρ bs=(σ.setL ρ bs).put (some db) d:=rfl
theorem Zn6:∀ (l:List (Nat×Nat)) (σ:S),(σ.put (some db) d).nilL l=(σ.nilL l).map (·.put (some db) d)
 | [],_=>rfl
 | (b,sz)::l,σ=>by
  show (match σ.heap b with
   | none=>((σ.put (some db) d).setB b (some { sz,rows:=[],frz:=0,pure:=true })).nilL l
   | some _=>none)=Option.map _ (match σ.heap b with
   | none=>(σ.setB b (some { sz,rows:=[],frz:=0,pure:=true })).nilL l
   | some _=>none)
  cases σ.heap b with
  | none=>exact Zn6 l (σ.setB b (some { sz,rows:=[],frz:=0,pure:=true }))
  | some _=>rfl
theorem Zvy (σ:S) (x:D):L1 (σ.put (some db) d) x=L1 σ x:=by cases x <;> rfl
theorem Zs0 (σ:S) (t t':TypeId) (x:D):Z0g P (σ.put (some db) d) t t' x=Z0g P σ t t' x:=by
 unfold Z0g
 split
 ·rfl
 ·rw[Zvy]
theorem Zud (σ:S) (ds:List D):Vi (σ.put (some db) d) ds=Vi σ ds:=Zih (σ:=σ) (σ':=σ.put (some db) d) (λ_=>rfl) ds
theorem Zhd (kp:Bool) (σ:S) (ρ:List Nat) (ds:List D):U0 kp (σ.put (some db) d) ρ ds=U0 kp σ ρ ds:=Zls (σ:=σ) (σ':=σ.put (some db) d) (λ_=>rfl) ds
theorem Zle {ρ:List Nat} {mark:Option Nat→Nat→Option Nat} (σ:S):∀ (l:List Nat) (j:Nat),Jk (σ.put (some db) d) ρ mark j l=Jk σ ρ mark j l
 | [],_=>rfl
 | b::r,j=>by
  unfold Jk
  rw[Zle σ r (j+1)]
  rfl
theorem Zis {ρ:List Nat} (σ:S):∀ (l:List Nat) (bs:List Blk) (j:Nat),Ui (σ.put (some db) d) ρ j l bs=Ui σ ρ j l bs
 | [],_,_=>rfl
 | _::_,[],_=>rfl
 | b::r,k::l,j=>by
  unfold Ui
  rw[Zis σ r l (j+1)]
  rfl
theorem Z6w {o:Oper} (hne:o.dst≠some db) (σ:S) (blk:Blk) (v:Nat→D) (p:Prop):Ux (σ.put (some db) d) o blk v p=(Ux σ o blk v p).map λr=>(r.1.put (some db) d,r.2):=by
 unfold Ux
 cases hd:o.dst with
 | none=>rfl
 | some t=>
  rw[hd] at hne
  show (match σ.heap t with
   | some _=>none
   | none=>match Nat.blt t σ.n with
    | true=>some ((((σ.put (some db) d).setB t (some blk)).put (some t) (v t),p):S×Prop)
    | false=>none)=Option.map _ (match σ.heap t with
   | some _=>none
   | none=>match Nat.blt t σ.n with
    | true=>some (((σ.setB t (some blk)).put (some t) (v t),p):S×Prop)
    | false=>none)
  cases σ.heap t with
  | some _=>rfl
  | none=>
   cases Nat.blt t σ.n with
   | false=>rfl
   | true=>
    show some ((((σ.put (some db) d).setB t (some blk)).put (some t) (v t),p):S×Prop)=some _
    rw[Kd,Vy hne]
theorem Ua (o:Oper) (σ:S):Xe (σ.put (some db) d) o=Xe σ o:=by unfold Xe; rfl
theorem Y1m {o : Oper} (hn:V4 d=true) (hne:o.dst≠some db) {σ:S} (hev:∀ x∈o.op.operands,(σ.put (some db) d).ev x=σ.ev x) (told:Yt):
  Qe P (σ.put (some db) d) o told=(Qe P σ o told).map λr=>(r.1.put (some db) d,r.2):=by
 have hp:Xi P (σ.put (some db) d) o told.ans=Xi P σ o told.ans:=by
  cases h1:Xi P σ o told.ans with
  | some r=>exact Zkj (o:=o) (σ:=σ) (τ:=σ.put (some db) d) ⟨rfl,hev,λ_ _ h=>h⟩ h1
  | none=>
   cases h2:Xi P (σ.put (some db) d) o told.ans with
   | none=>rfl
   | some r=>
    have:=Zkj (o:=o) (σ:=σ.put (some db) d) (τ:=σ) ⟨rfl,λx hx=>(hev x hx).symm,λ_ _ h=>h⟩ h2
    rw[h1] at this; cases this
 unfold Qe
 rw[hp,Ua]
 cases hpo:Xi P σ o told.ans with
 | some r=>
  dsimp only
  cases Xe σ o with
  | true=>simp only[Option.map_some,Vy hne]
  | false=>rfl
 | none=>
  dsimp only
  clear hp hpo
  obtain⟨dst,op,ty,pos,after,guard⟩:=o
  unfold Vt
  cases op <;> simp only[Op.operands] at hev <;> dsimp only at hne ⊢
  case alloc e=>
   cases Lh P e with
   | none=>rfl
   | some cs=>exact Z6w hne σ _ _ _
  case box e x=>
   rw[hev x (by simp)]
   cases cellsOf (σ.ev x) with
   | none=>rfl
   | some cs=>
    dsimp only
    cases told.ro with
    | true=>
     dsimp only
     rw[Ua]
     cases cs.all D.dat <;> cases Xe σ _ <;> first|rfl|simp only[Option.map_some,Vy hne]
    | false=>exact Z6w hne σ _ _ _
  case build t parts=>
   have e1:(parts.toList.map λx=>(x.1,(σ.put (some db) d).ev x.2))=(parts.toList.map λx=>(x.1,σ.ev x.2)):=List.map_congr_left λx hx=>by
    rw[hev x.2 (by simp; exact⟨x.1,by simpa using hx⟩)]
   rw[e1,Ua]
   repeat' split
   all_goals first|rfl|simp only[Option.map_some,Vy hne]|(exfalso; simp_all; done)|simp_all
  case buildSlice t len parts=>
   have e1:(parts.toList.map λx=>(σ.put (some db) d).ev x.2)=(parts.toList.map λx=>σ.ev x.2):=List.map_congr_left λx hx=>by
    rw[hev x.2 (by simp; exact⟨x.1,by simpa using hx⟩)]
   rw[e1,Zud]
   cases Ju P t with
   | none=>rfl
   | some e=>
    dsimp only
    cases P.info? e with
    | none=>rfl
    | some ie =>
     dsimp only
     cases Vi σ (parts.toList.map λx=>σ.ev x.2) with
     | none=>rfl
     | some r=>
      obtain⟨ds,l,q⟩:=r
      dsimp only
      cases Mk (λi=>some (i*ie.size,ie.size)) (List.replicate (len*ie.size) .undef) ((parts.toList.map (·.1)).zip ds) with
      | none=>rfl
      | some cs=>
       dsimp only
       cases cs.all D.dat&&Nat.ble (len*ie.size) 16777216&&(Lh P e).isSome with
       | false=>rfl
       | true=>
        dsimp only
        cases told.ro with
        | true=>
         dsimp only
         rw[Ua,Z3n]
         cases Xe σ _ <;> cases told.rows <;> first|rfl|simp only[Option.map_some,Vy hne]
        | false=>dsimp only; rw[Z3n]; exact Z6w hne _ _ _ _
  case makeSlice t l c=>
   rw[hev l (by simp),hev c (by simp)]
   generalize Ju P t=X
   generalize σ.ev l=L
   generalize σ.ev c=C
   cases X <;> cases L <;> cases C <;> try rfl
   rename_i e _ l _ c
   dsimp only
   cases P.info? e with
   | none=>rfl
   | some ie=>
    cases Z6f P e with
    | none=>rfl
    | some z=>
     dsimp only
     cases z.length==ie.size&&z.all D.dat with
     | false=>rfl
     | true=>exact Z6w hne σ _ _ _
  case convert src dst' x=>
   rw[hev x (by simp)]
   unfold Z26
   have hcp:∀ b,Z8z P (σ.put (some db) d) src dst' b=Z8z P σ src dst' b:=λ_=>rfl
   have hsb:∀ x,Z28 P (σ.put (some db) d) src dst' x=Z28 P σ src dst' x:=λ_=>rfl
   simp only[Zvy,Ua,hcp,hsb]
   repeat' split
   all_goals first|rfl|simp only[Option.map_some,Vy hne]|(exfalso; simp_all; done)|simp_all
  case store t x v=>
   rw[hev x (by simp),hev v (by simp)]
   unfold Z0d
   cases σ.ev x with
   | lptr b i off=>
    dsimp only
    rw[show (σ.put (some db) d).heap b=σ.heap b from rfl,Ua]
    cases σ.heap b with
    | none=>rfl
    | some blk=>
     cases cellsOf (σ.ev v) with
     | none=>rfl
     | some cs=>
      cases Wr P t with
      | none=>rfl
      | some sz=>
       dsimp only
       cases cs.length==sz&&(!blk.pure||cs.all D.dat)&&Xe σ _ with
       | false=>rfl
       | true=>
        dsimp only
        cases told.row with
        | some r=>dsimp only; rw[Kd,Vy hne]; rfl
        | none=>
         dsimp only
         cases blk.rows[i]? with
         | none=>rfl
         | some r=>dsimp only; rw[Kd,Vy hne]; rfl
   | _=>rfl
  case call c =>
   obtain⟨callee,args,ts⟩:=c
   cases callee with
   | value f =>
    have e1:args.toList.map (σ.put (some db) d).ev=args.toList.map σ.ev:=List.map_congr_left λx hx=>hev x (by simp[Call.operands]; exact .inr (by simpa using hx))
    dsimp only
    rw[hev f (by simp[Call.operands]),e1]
    cases σ.ev f with
    | fn g=>
     dsimp only
     cases told.io with
     | none=>
      dsimp only
      unfold Z35
      rw[Zud,Ua]
      cases told.ans with
      | val r=>
       dsimp only
       cases Vi σ (args.toList.map σ.ev) with
       | none=>rfl
       | some q=>
        obtain⟨ds,l,p⟩:=q
        dsimp only
        cases Xe σ _ with
        | false=>rfl
        | true=>
         dsimp only
         cases r.scalar with
         | true=>dsimp only; rw[Vy hne]; rfl
         | false=>dsimp only; rw[Z3n,Vy hne]; rfl
      | go=>
       dsimp only
       generalize args.toList.map σ.ev=A
       split
       ·simp only[Option.map_some,Vy hne]
       ·rfl
      | _=>rfl
     | some io =>
      dsimp only
      unfold Z1g
      rw[Zn6,Ua]
      cases told.ans with
      | val r =>
       dsimp only
       cases hnil:σ.nilL io.fresh with
       | none=>rfl
       | some σ0=>
        simp only[Option.map_some]
        rw[Zhd]
        cases U0 io.kp σ0 io.names (Jt io.nils 0 (args.toList.map σ.ev)) with
        | none=>rfl
        | some q=>
         obtain⟨ds,l,p⟩:=q
         dsimp only
         rw[Z3n,Zle]
         cases Jk (σ0.freezeL l) io.names (λ_ j=>Z0r io.bs j) 0 io.names with
         | none=>rfl
         | some bs=>
          dsimp only
          cases Xe σ _&&Ut io.names&&Ls io.bs io.bs' with
          | false=>rfl
          | true=>dsimp only; rw[Zis,Zor hn,Zv5,Vy hne]; rfl
      | _=>rfl
    | _=>rfl
   | builtin b =>
    cases b with
    | append=>
     obtain⟨args⟩:=args
     obtain⟨ts⟩:=ts
     match args,ts,hev with
     | [s, x], [t, t'],hev=>
      dsimp only
      rw[hev s (by simp[Call.operands]),hev x (by simp[Call.operands])]
      unfold Z1i
      rw[Zs0]
      cases Ju P t with
      | none=>rfl
      | some e=>
       dsimp only
       cases P.info? e with
       | none=>rfl
       | some ie =>
        cases Z0g P σ t t' (σ.ev x) with
        | none=>rfl
        | some nq =>
         obtain⟨news,q⟩:=nq
         dsimp only
         cases ie.zero with
         | none=>rfl
         | some z=>
          dsimp only
          cases z.cells.size==ie.size&&Nat.blt 0 ie.size with
          | false=>rfl
          | true=>
           dsimp only
           split
           ·rename_i b n hs
            rw[show (σ.put (some db) d).heap b=σ.heap b from rfl,Ua]
            cases σ.heap b with
            | none=>rfl
            | some blk=>
             dsimp only
             cases blk.pure&&blk.sz==ie.size&&Xe σ _ with
             | false=>rfl
             | true=>dsimp only; rw[Z83 hn,Kd,Vy hne]; rfl
           ·rename_i b lo n hs
            rw[show (σ.put (some db) d).heap b=σ.heap b from rfl,Ua]
            cases σ.heap b with
            | none=>rfl
            | some blk=>
             dsimp only
             cases blk.pure&&blk.sz==ie.size&&Xe σ _&&news.length==1 with
             | false=>rfl
             | true=>dsimp only; rw[Z83 hn,Kd,Vy hne]; rfl
           ·rename_i b lo n hs
            rw[show (σ.put (some db) d).heap b=σ.heap b from rfl,Ua]
            cases σ.heap b with
            | none=>rfl
            | some blk=>
             dsimp only
             cases blk.pure&&blk.sz==ie.size&&Xe σ _&&news.length==1 with
             | false=>rfl
             | true=>dsimp only; rw[Z83 hn,Kd,Vy hne]; rfl
           ·exact Z6w hne σ _ _ _
           ·rfl
     | [],_,_=>rfl
     | [_],_,_=>rfl
     | _::_::_::_,_,_=>rfl
     | [_,_],[],_=>rfl
     | [_,_],[_],_=>rfl
     | [_,_],_::_::_::_,_=>rfl
    | unsafeString=>
     obtain⟨args⟩:=args
     obtain⟨ts⟩:=ts
     match args,ts,hev with
     | [x, n],[pt,it],hev=>
      dsimp only
      rw[hev x (by simp[Call.operands]),hev n (by simp[Call.operands])]
      unfold unsD
      simp only[Ua]
      split
      ·rename_i b m hx hm
       rw[show (σ.put (some db) d).heap b=σ.heap b from rfl]
       split
       ·split
        ·rw[Z83 hn,Kd,Vy hne]; rfl
        ·rfl
       ·rfl
      ·rfl
     | [],_,_=>rfl
     | [_],_,_=>rfl
     | _::_::_::_,_,_=>rfl
     | [_,_],[],_=>rfl
     | [_,_],[_],_=>rfl
     | [_,_],_::_::_::_,_=>rfl
    | _=>rfl
   | invoke r m=>rfl
  all_goals rfl
end
section
variable {R:Nat→Bool}
def Z4b (R:Nat→Bool):D→Bool
 | .lptr b _ _|.lsl b _ _|.lsk _ b _ _=>R b
 | .clo _ bs=>bs.all R
 | .agg _|.tup _=>false
 | _=>true
def Z1j (R:Nat→Bool):D→Bool
 | .agg cs=>cs.all (Z4b R)
 | d=>Z4b R d
def W4 (R:Nat→Bool):D→Bool
 | .tup vs=>vs.all (Z1j R)
 | d=>Z1j R d
def S.only (R:Nat→Bool) (σ:S):S:={ σ with heap:=λb=>match R b with
 | true=>σ.heap b
 | false=>none }
theorem Z3x {b:Nat} (h:R b=true):(σ.only R).heap b=σ.heap b:=by simp only[S.only,h]
theorem Zzo {x:D} (hx:W4 R x=true) (ans:Ans):Kb σ x ans=Kb (σ.only R) x ans:=by
 cases x with
 | lptr b i o=>simp only[Kb,Z3x (σ:=σ) (show R b=true from hx)]
 | _=>rfl
theorem load_on {t:TypeId} {x:D} (hx:W4 R x=true) (ans:Ans):Js P σ t x ans=Js P (σ.only R) t x ans:=by
 unfold Js; rw[Zzo hx]
theorem Zyy {t:TypeId} {x i:D} (hx:W4 R x=true) (ans:Ans):M1 P σ t x i ans=M1 P (σ.only R) t x i ans:=by
 unfold M1
 split
 ·split
  ·split
   ·split
    ·rfl
    ·rename_i b lo n; rw[Z3x (σ:=σ) (show R b=true from hx)]
    ·rfl
   ·rfl
  ·rfl
  ·rfl
 ·rfl
theorem Y0k {t:TypeId} {x:D} {lo hi mx:Option D} (hx:W4 R x=true) (ans:Ans):M9 P σ t x lo hi mx ans=M9 P (σ.only R) t x lo hi mx ans:=by
 unfold M9
 split
 ·rfl
 ·rfl
 ·rename_i e b l0 n _; rw[Z3x (σ:=σ) (show R b=true from hx)]
 ·rfl
theorem Zho {d:D} (hd:Z4b R d=true):Wx σ d=Wx (σ.only R) d:=by
 cases d with
 | lptr b i o=>simp only[Wx,Z3x (σ:=σ) (show R b=true from hd)]
 | lsl b lo n=>simp only[Wx,Z3x (σ:=σ) (show R b=true from hd)]
 | _=>rfl
theorem Zpw:∀ {ds:List D},ds.all (Z4b R)=true→Jr σ ds=Jr (σ.only R) ds
 | [],_=>rfl
 | d::r,h=>by
  simp only[List.all_cons,Bool.and_eq_true] at h
  unfold Jr
  rw[Zho h.1,Zpw h.2]
theorem Y1f {d:D} (hd:W4 R d=true):Jw σ d=Jw (σ.only R) d:=by
 cases d with
 | agg cs=>
  unfold Jw
  dsimp only
  rw[Zpw (by simpa [W4,Z1j] using hd)]
 | lptr b i o=>exact Zho (d:= .lptr b i o) hd
 | lsl b lo n=>exact Zho (d:= .lsl b lo n) hd
 | _=>rfl
theorem Zka:∀ {ds:List D},(∀ d∈ds,W4 R d=true)→Vi σ ds=Vi (σ.only R) ds
 | [],_=>rfl
 | d::r,h=>by
  unfold Vi
  rw[Y1f (h d (by simp)),Zka λx hx=>h x (by simp[hx])]
theorem rows_on {x:D} (hx:W4 R x=true):L1 σ x=L1 (σ.only R) x:=by
 cases x with
 | lsl b lo n=>simp only[L1,Z3x (σ:=σ) (show R b=true from hx)]
 | _=>rfl
theorem Zdd (R:Nat→Bool) (σ:S):(σ.only R).ev=σ.ev:=funext λx=>by cases x <;> rfl
theorem pure_on (hn:∀ x∈o.op.operands,W4 R (σ.ev x)=true) (ans:Ans):Xi P σ o ans=Xi P (σ.only R) o ans:=by
 obtain⟨dst,op,ty,pos,after,guard⟩:=o
 unfold Xi
 rw[Zdd]
 cases op <;> simp only[Op.operands] at hn <;> dsimp only
 case load t x=>rw[load_on (hn x (by simp))]
 case indexAddr t x i=>rw[Zyy (hn x (by simp))]
 case slice t x lo hi mx=>rw[Y0k (hn x (by simp))]
 case call c=>
  obtain⟨callee,args,ts⟩:=c
  cases callee with
  | builtin b=>cases b <;> first|rfl|(obtain⟨l⟩:=args; rcases l with _|⟨x,_|⟨y,_|⟨z,l⟩⟩⟩ <;> rfl)
  | value f=>rfl
  | invoke r m=>rfl
theorem Zpg (hn:∀ x∈o.op.operands,W4 R (σ.ev x)=true) (told:Yt):Wy P σ o told=Wy P (σ.only R) o told:=by
 unfold Wy
 rw[← pure_on hn told.ans,show Xe (σ.only R) o=Xe σ o from rfl,Zdd]
 cases Xe σ o with
 | false=>rfl
 | true=>
  dsimp only
  cases Xi P σ o told.ans with
  | some r=>rfl
  | none=>
   dsimp only
   obtain⟨dst,op,ty,pos,after,guard⟩:=o
   cases op <;> simp only[Op.operands] at hn <;> dsimp only
   case buildSlice t len parts=>
    rw [← Zka (σ:=σ) (ds:=parts.toList.map λx=>σ.ev x.2) λd hd=>by
     obtain⟨x,hx,rfl⟩:=List.mem_map.1 hd
     exact hn x.2 (by simp; exact⟨x.1,by simpa using hx⟩)]
   case convert src dst' x=>
    unfold Z48
    rw[← rows_on (hn x (by simp))]
   case call c=>
    obtain⟨callee,args,ts⟩:=c
    cases callee with
    | value f=>
     dsimp only
     unfold M7
     rw [← Zka (σ:=σ) (ds:=args.toList.map σ.ev) λd hd=>by
      obtain⟨x,hx,rfl⟩:=List.mem_map.1 hd
      exact hn x (by simp[Call.operands]; exact .inr (by simpa using hx))]
    | _=>rfl
theorem Zwb (hn:∀ x∈o.op.operands,W4 R (σ.ev x)=true) {τ:S} (h1:τ.n=σ.n) (h2:∀ x∈o.op.operands,τ.ev x=σ.ev x) (h3:∀ b,R b=true→τ.heap b=σ.heap b) (told:Yt) {r:Ld×Prop} (h:Wy P σ o told=some r):Wy P τ o told=some r:=by
 rw[Zpg hn] at h
 rw[Zpg λx hx=>by rw[h2 x hx]; exact hn x hx]
 refine Zjn (σ:=σ.only R) (τ:=τ.only R) ⟨h1,λx hx=>by rw[Zdd,Zdd]; exact h2 x hx,λb k hb=>?_⟩ h
 simp only[S.only] at hb ⊢
 split at hb
 ·rename_i hR; rw[h3 b hR]; exact hb
 ·cases hb
def L9 (σ:S) (o:Oper) (told:Yt) (R:Nat→Bool):Bool:=
 match o.op with
 | .store _ x _=>match σ.ev x with
  | .lptr b _ _=>!R b
  | _=>false
 | .call { callee:= .value f,args,.. }=>
  match σ.ev f,told.io with
  | .fn _,some io=>io.fresh.isEmpty&&(Kn 0 io.names io.bs').isEmpty&&io.names.all (λb=>!R b)&&
   (match U0 io.kp σ io.names (Jt io.nils 0 (args.toList.map σ.ev)) with
   | some (_,[],_)=>true
   | _=>false)
  | _,_=>false
 | _=>false
theorem Zu8 {db:Nat} {d:D} {told:Yt} (hev:∀ x∈o.op.operands,(σ.put (some db) d).ev x=σ.ev x):L9 (σ.put (some db) d) o told R=L9 σ o told R:=by
 obtain⟨dst,op,ty,pos,after,guard⟩:=o
 unfold L9
 cases op <;> simp only[Op.operands] at hev <;> dsimp only
 case store t x v=>rw[hev x (by simp)]
 case call c=>
  obtain⟨callee,args,ts⟩:=c
  cases callee with
  | value f=>
   have e1:args.toList.map (σ.put (some db) d).ev=args.toList.map σ.ev:=List.map_congr_left λx hx=>hev x (by simp[Call.operands]; exact .inr (by simpa using hx))
   dsimp only
   rw[hev f (by simp[Call.operands]),e1]
   cases σ.ev f <;> try rfl
   cases told.io with
   | none=>rfl
   | some io=>dsimp only; rw[Zhd]
  | _=>rfl
theorem Y16 {told : Yt} (hx:L9 σ o told R=true) {p:Prop} (h:Qe P σ o told=some (σ',p)):
  σ'.n=σ.n∧(∀ t,o.dst≠some t→σ'.tmps t=σ.tmps t)∧(∀ b,R b=true→σ'.heap b=σ.heap b):=by
 have hput:∀ (τ:S) (u:D),(τ.put o.dst u).n=τ.n∧(∀ t,o.dst≠some t→(τ.put o.dst u).tmps t=τ.tmps t)∧(τ.put o.dst u).heap=τ.heap:=λτ u=>by
  cases hd:o.dst with
  | none=>exact⟨rfl,λ_ _=>rfl,rfl⟩
  | some v=>exact⟨rfl,λt ht=>by simp only[S.put]; rw[if_neg (λe=>ht (by rw[e]))],rfl⟩
 obtain⟨dst,op,ty,pos,after,guard⟩:=o
 unfold L9 at hx
 unfold Qe at h
 cases op <;> dsimp only at hx <;> first|(cases hx; done)|skip
 case store t x v=>
  have hp:Xi P σ ⟨dst,.store t x v,ty,pos,after,guard⟩ told.ans=none:=rfl
  rw[hp] at h
  dsimp only at h
  unfold Vt at h
  dsimp only at h
  unfold Z0d at h
  cases hxe:σ.ev x with
  | lptr b i off=>
   rw[hxe] at h hx
   dsimp only at h hx
   have hR:R b=false:=by simpa using hx
   have fin:∀ (blk:Blk),(({ σ with heap:=(σ.setB b (some blk)).heap }:S).put dst .undef)=σ'→σ'.n=σ.n∧(∀ t,dst≠some t→σ'.tmps t=σ.tmps t)∧(∀ b,R b=true→σ'.heap b=σ.heap b):=λblk e=>by
    subst e
    obtain⟨k1,k2,k3⟩:=hput { σ with heap:=(σ.setB b (some blk)).heap } .undef
    refine⟨k1,λt ht=>k2 t ht,λc hc=>?_⟩
    rw[k3]
    simp only[S.setB]
    rw[if_neg (λe=>by rw[e,hR] at hc; cases hc)]
   repeat' split at h
   all_goals first|(cases h; done)|(cases h; exact fin _ rfl)
  | _=>rw[hxe] at hx; cases hx
 case call c =>
  obtain⟨callee,args,ts⟩:=c
  cases callee with
  | value f =>
   dsimp only at hx
   have hp:Xi P σ ⟨dst,.call ⟨.value f,args,ts⟩,ty,pos,after,guard⟩ told.ans=none:=rfl
   rw[hp] at h
   dsimp only at h
   unfold Vt at h
   dsimp only at h
   cases hf:σ.ev f with
   | fn g=>
    rw[hf] at h hx
    cases hio:told.io with
    | none=>rw[hio] at hx; cases hx
    | some io =>
     rw[hio] at h hx
     dsimp only at h hx
     simp only[Bool.and_eq_true,List.isEmpty_iff,List.all_eq_true,Bool.not_eq_true'] at hx
     obtain⟨⟨⟨h1,h2⟩,h3⟩,h4⟩:=hx
     unfold Z1g at h
     split at h
     ·rw[h1] at h
      simp only[S.nilL] at h
      split at h
      ·rename_i ds l q hd
       rw[hd] at h4
       cases l with
       | cons _ _=>cases h4
       | nil =>
        split at h
        ·split at h
         ·cases h
          rw[h2]
          obtain⟨k1,k2,k3⟩:=hput (((σ.freezeL []).dropL []).setL io.names (Ui (σ.freezeL []) io.names 0 io.names io.bs')) (outD io.names _)
          refine⟨k1,λt ht=>k2 t ht,λc hc=>?_⟩
          rw[k3]
          simp only[S.setL]
          have:V9 c io.names=none:=by
           cases hi:V9 c io.names with
           | none=>rfl
           | some k=>
            have:=h3 c (List.mem_of_getElem? (Z29 hi))
            rw[this] at hc; cases hc
          rw[this]; rfl
         ·cases h
        ·cases h
      ·cases h
     ·cases h
   | _=>rw[hf] at hx; cases hx
  | _=>cases hx
theorem Zyk {db : Nat} {d:D} {told:Yt} (hx:L9 σ o told R=true) (hne:o.dst≠some db) (hev:∀ x∈o.op.operands,(σ.put (some db) d).ev x=σ.ev x):
  Qe P (σ.put (some db) d) o told=(Qe P σ o told).map λr=>(r.1.put (some db) d,r.2):=by
 obtain⟨dst,op,ty,pos,after,guard⟩:=o
 unfold L9 at hx
 unfold Qe
 cases op <;> dsimp only at hx <;> first|(cases hx; done)|skip
 case store t x v=>
  have hp:∀ τ:S,Xi P τ ⟨dst,.store t x v,ty,pos,after,guard⟩ told.ans=none:=λ_=>rfl
  rw[hp,hp]
  simp only[Op.operands] at hev
  dsimp only at hne ⊢
  unfold Vt
  dsimp only
  rw[hev x (by simp),hev v (by simp)]
  unfold Z0d
  cases σ.ev x with
  | lptr b i off=>
   dsimp only
   rw[show (σ.put (some db) d).heap b=σ.heap b from rfl,Ua]
   cases σ.heap b with
   | none=>rfl
   | some blk=>
    cases cellsOf (σ.ev v) with
    | none=>rfl
    | some cs=>
     cases Wr P t with
     | none=>rfl
     | some sz=>
      dsimp only
      cases cs.length==sz&&(!blk.pure||cs.all D.dat)&&Xe σ _ with
      | false=>rfl
      | true=>
       dsimp only
       cases told.row with
       | some r=>dsimp only; rw[Kd,Vy hne]; rfl
       | none=>
        dsimp only
        cases blk.rows[i]? with
        | none=>rfl
        | some r=>dsimp only; rw[Kd,Vy hne]; rfl
  | _=>rfl
 case call c =>
  obtain⟨callee,args,ts⟩:=c
  cases callee with
  | value f =>
   dsimp only at hx
   have hp:∀ τ:S,Xi P τ ⟨dst,.call ⟨.value f,args,ts⟩,ty,pos,after,guard⟩ told.ans=none:=λ_=>rfl
   rw[hp,hp]
   simp only[Op.operands] at hev
   have e1:args.toList.map (σ.put (some db) d).ev=args.toList.map σ.ev:=List.map_congr_left λx hx=>hev x (by simp[Call.operands]; exact .inr (by simpa using hx))
   dsimp only at hne ⊢
   unfold Vt
   dsimp only
   rw[hev f (by simp[Call.operands]),e1]
   cases hf:σ.ev f with
   | fn g=>
    rw[hf] at hx
    cases hio:told.io with
    | none=>rw[hio] at hx; cases hx
    | some io=>
     rw[hio] at hx
     dsimp only at hx ⊢
     simp only[Bool.and_eq_true,List.isEmpty_iff,List.all_eq_true,Bool.not_eq_true'] at hx
     obtain⟨⟨⟨h1,h2⟩,h3⟩,h4⟩:=hx
     unfold Z1g
     rw[h1,h2,Ua]
     cases told.ans with
     | val r=>
      simp only[S.nilL,S.dropL]
      rw[Zhd]
      cases U0 io.kp σ io.names (Jt io.nils 0 (args.toList.map σ.ev)) with
      | none=>rfl
      | some q=>
       obtain⟨ds,l,p⟩:=q
       dsimp only
       rw[Z3n,Zle]
       cases Jk (σ.freezeL l) io.names (λ_ j=>Z0r io.bs j) 0 io.names with
       | none=>rfl
       | some bs=>
        dsimp only
        cases Xe σ _&&Ut io.names&&Ls io.bs io.bs' with
        | false=>rfl
        | true=>dsimp only; rw[Zis,Zv5,Vy hne]; rfl
     | _=>rfl
   | _=>rw[hf] at hx; cases hx
  | _=>cases hx
end
theorem Zwq (v:Value):J7 (Z0u v)=true:=by
 unfold Z0u; split <;> rfl
theorem Y1n (v:Value):V4 (Z60 v)=true:=by
 unfold Z60
 split
 ·split
  ·simp only[V4,Uj,List.all_eq_true]
   intro x hx
   obtain⟨u,-,rfl⟩:=List.mem_map.1 hx
   exact Zwq u
  ·rfl
 ·rename_i v h
  unfold Z0u; split <;> rfl
def Z81 (o:Oper):Bool:=
 match o.op with
 | .move _|.assign _|.pick .. |.binOp .. |.unOp .. |.field .. |.fieldAddr .. |.extract .. |.nilCheck _|.index .. |.alloc _|.box .. |.build .. =>true
 | _=>false
def isNew (o:Oper):Bool:=
 match o.op with
 | .alloc _|.box .. |.buildSlice .. |.makeSlice .. =>true
 | _=>false
theorem Zy7 (hf:Z81 o=true) (told:Yt) (σ:S) (hp:Nat→Option Blk):Wy P { σ with heap:=hp } o told=Wy P σ o told:=by
 obtain⟨dst,op,ty,pos,after,guard⟩:=o
 obtain⟨n,tm,h0⟩:=σ
 cases op <;> first|(cases hf; done)|skip
 all_goals rfl
theorem Zss (hn:isNew o=false) {told:Yt} {y:Ld} {p:Prop} (h:Wy P σ o told=some (y,p)):∃ d,y=.val d:=by
 unfold Wy at h
 split at h
 ·cases h
 ·rename_i hdk
  split at h
  ·cases h; exact⟨_,rfl⟩
  ·rename_i hpn
   clear hpn hdk
   obtain⟨dst,op,ty,pos,after,guard⟩:=o
   cases op <;> first|(cases hn; done)|skip
   case build t parts=>
    dsimp only at h
    split at h
    ·split at h
     ·cases h; exact⟨_,rfl⟩
     ·cases h
    ·cases h
   case convert src dst x=>
    dsimp only at h
    split at h
    ·cases h; exact⟨_,rfl⟩
    ·cases h
   case call c=>
    obtain⟨callee,args,ts⟩:=c
    cases callee <;> first
     | (cases h; done)
     | (dsimp only at h
        split at h
        ·split at h
         ·cases h; exact⟨_,rfl⟩
         ·cases h
        ·cases h)
   all_goals (cases h)
def U6 (P:Program) (ops:Array Oper) (told:List (Nat×Yt)) (gs:List (Nat×Bool)) (i:Nat) (o:Oper) (σ:S):Option (Ld×Prop):=
 match Ur ops σ o (gAt gs i) with
 | none=>none
 | some (true,g)=>
  match Wy P σ o (Vj told i) with
  | some (y,p)=>some (y,g∧p)
  | none=>none
 | some (false,g)=>match Xe σ o with
  | true=>some (.val (.tup []),g)
  | false=>none
def quiet (xs:List Nat):Nat→Bool:=λb=>X8 (b+10000) xs
def away (xs:List Nat):Nat→Bool:=λb=>!X8 (b+20000) xs
def mvOk (xs:List Nat) (o:Oper) (σ:S):Bool:=
 match o.op,o.guard with
 | .move (.tmp t),none=>W4 (away xs) (σ.tmps t)
 | _,_=>false
def L7 (xs:List Nat) (o:Oper) (σ:S):Bool:=
 match o.op,o.guard with
 | .call { callee:= .builtin .append,args:=⟨[s,_]⟩,argTypes:=⟨[_,_]⟩ },none=>(match σ.ev s with
  | .lsl b 0 _=>X8 (b+20000) xs
  | _=>false)
 | _,_=>false
def Md (ops:Array Oper) (xs:List Nat) (i:Nat) (o:Oper) (σ:S):Bool:=
 (!X8 (i+5000) xs||mvOk xs o σ)&&
 (!X8 (i+2000) xs||(o.looksAt ops).all (λt=>V4 (σ.tmps t)))&&
 (!X8 (i+3000) xs||(!isNew o&&(Z81 o||(o.looksAt ops).all (λt=>W4 (quiet xs) (σ.tmps t)))))
def Qp (P : Program) (ops:Array Oper) (told:List (Nat×Yt)) (gs:List (Nat×Bool)) (xs:List Nat) (i:Nat) (σ:S):Option (S×Prop):=
 match X8 i xs with
 | true=>
  match X8 (i+4000) xs with
  | true=>
   match ops[i]? with
   | some o=>match L9 σ o (Vj told i) (quiet xs) with
    | true=>Vl P ops told gs i σ
    | false=>none
   | none=>none
  | false=>
   match X8 (i+6000) xs with
   | true=>
    match ops[i]? with
    | some o=>match L7 xs o σ with
     | true=>Vl P ops told gs i σ
     | false=>none
    | none=>none
   | false=>Vl P ops told gs i σ
 | false =>
  match ops[i]? with
  | none=>none
  | some o=>
   match U6 P ops told gs i o σ,Md ops xs i o σ with
   | some (y,p),true=>
    match X8 (i+1000) xs with
    | false=>
     match Q4 σ o.dst y with
     | some σ'=>some (σ',p)
     | none=>none
    | true=>
     match y with
     | .val d=>match V4 d&&(o.looksAt ops).all (λt=>V4 (σ.tmps t)) with
      | true=>some (σ.put o.dst d,p)
      | false=>none
     | .blk _ _=>none
   | _,_=>none
variable {ops:Array Oper} {told:List (Nat×Yt)} {gs:List (Nat×Bool)} {xs:List Nat}
theorem Z1q {i:Nat} {p:Prop} (hx:X8 i xs=false) (h:Qp P ops told gs xs i σ=some (σ',p)):
  ∃ o y,ops[i]?=some o∧U6 P ops told gs i o σ=some (y,p)∧Q4 σ o.dst y=some σ'∧
   (X8 (i+1000) xs=true→∃ d,y=.val d∧V4 d=true∧∀ t∈o.looksAt ops,V4 (σ.tmps t)=true)∧Md ops xs i o σ=true:=by
 unfold Qp at h
 rw[hx] at h
 dsimp only at h
 split at h
 ·cases h
 ·rename_i o ho
  split at h
  ·rename_i y q hv hlo
   split at h
   ·rename_i hm
    split at h
    ·rename_i σ1 hy
     cases h
     exact⟨o,y,ho,hv,hy,(λh=>by rw[hm] at h; cases h),hlo⟩
    ·cases h
   ·rename_i hm
    split at h
    ·rename_i d
     split at h
     ·rename_i hc
      cases h
      rw[Bool.and_eq_true,List.all_eq_true] at hc
      exact⟨o,_,ho,hv,rfl,λ_=>⟨d,rfl,hc.1,hc.2⟩,hlo⟩
     ·cases h
    ·cases h
  ·cases h
theorem Z4k {i:Nat} {p:Prop} {o:Oper} {y:Ld} (hx:X8 i xs=false) (ho:ops[i]?=some o) (hv:U6 P ops told gs i o σ=some (y,p)) (hy:Q4 σ o.dst y=some σ')
  (hm:X8 (i+1000) xs=true→∃ d,y=.val d∧V4 d=true∧∀ t∈o.looksAt ops,V4 (σ.tmps t)=true) (hlo:Md ops xs i o σ=true):Qp P ops told gs xs i σ=some (σ',p):=by
 unfold Qp
 rw[hx,ho]
 dsimp only
 rw[hv,hlo]
 dsimp only
 cases hm':X8 (i+1000) xs with
 | false=>dsimp only; rw[hy]
 | true=>
  obtain⟨d,rfl,h1,h2⟩:=hm hm'
  dsimp only
  rw[show (V4 d&&(o.looksAt ops).all λt=>V4 (σ.tmps t))=true by rw[Bool.and_eq_true,List.all_eq_true]; exact⟨h1,h2⟩]
  simpa only[Q4,Option.some.injEq,Prod.mk.injEq,and_true] using hy
theorem Zuf {o:Oper} {t:Nat} (h:o.op=.move (.tmp t)):t∈o.looksAt ops:=by
 unfold Oper.looksAt
 rw[h]
 simp[Op.operands]
theorem Z3y {i:Nat} {o:Oper} {τ:S} (h:∀ t∈o.looksAt ops,τ.tmps t=σ.tmps t):Md ops xs i o τ=Md ops xs i o σ:=by
 have h1:((o.looksAt ops).all λt=>V4 (τ.tmps t))=(o.looksAt ops).all λt=>V4 (σ.tmps t):=by
  rw[Bool.eq_iff_iff,List.all_eq_true,List.all_eq_true]
  exact forall_congr' λt=>forall_congr' λht=>by rw[h t ht]
 have h2:((o.looksAt ops).all λt=>W4 (quiet xs) (τ.tmps t))=(o.looksAt ops).all λt=>W4 (quiet xs) (σ.tmps t):=by
  rw[Bool.eq_iff_iff,List.all_eq_true,List.all_eq_true]
  exact forall_congr' λt=>forall_congr' λht=>by rw[h t ht]
 have h3:mvOk xs o τ=mvOk xs o σ:=by
  unfold mvOk
  split
  ·rename_i t hop hg
   rw[h t (Zuf hop)]
  ·rfl
 unfold Md
 rw[h1,h2,h3]
theorem Zhy {i:Nat} {p:Prop} (h:Qp P ops told gs xs i σ=some (σ',p)):Vl P ops told gs i σ=some (σ',p):=by
 cases hx:X8 i xs with
 | true=>
  unfold Qp at h
  rw[hx] at h
  dsimp only at h
  split at h
  ·split at h
   ·split at h
    ·exact h
    ·cases h
   ·cases h
  ·split at h
   ·split at h
    ·split at h
     ·exact h
     ·cases h
    ·cases h
   ·exact h
 | false=>
  obtain⟨o,y,ho,hv,hy,-⟩:=Z1q hx h
  unfold U6 at hv
  unfold Vl
  rw[ho]
  dsimp only
  split at hv
  ·cases hv
  ·rename_i g hg
   rw[hg]
   dsimp only
   split at hv
   ·rename_i y' p' he
    cases hv
    rw[Zyg he hy]
   ·cases hv
  ·rename_i g hg
   rw[hg]
   dsimp only
   split at hv
   ·rename_i hd
    cases hv
    simp only[Q4,Option.some.injEq] at hy
    subst hy
    rw[hd]
   ·cases hv
structure Ue (ops:Array Oper) (o:Oper) (σ τ:S):Prop where
 n:τ.n=σ.n
 tmps:∀ t,t∈o.looksAt ops→τ.tmps t=σ.tmps t
theorem Ue.ev (h:Ue ops o σ τ):∀ x∈o.op.operands,τ.ev x=σ.ev x:=λx hx=>by
 cases x with
 | tmp t=>exact h.tmps t (List.mem_append_left _ (List.mem_filterMap.2 ⟨.tmp t,by simpa using hx,rfl⟩))
 | _=>rfl
theorem Ue.guard (h:Ue ops o σ τ) (g:Option Bool):Ur ops τ o g=Ur ops σ o g:=by
 unfold Ur
 cases hg:o.guard with
 | none=>rfl
 | some jw=>
  obtain⟨j,want⟩:=jw
  dsimp only
  have:((ops[j]?).bind (·.dst)).map τ.tmps=((ops[j]?).bind (·.dst)).map σ.tmps:=by
   cases ht:(ops[j]?).bind (·.dst) with
   | none=>rfl
   | some t=>simp only[Option.map_some]; rw[h.tmps t (List.mem_append_right _ (by simp[hg,ht]))]
  rw[this]
theorem Z1h {i:Nat} (hs:Ue ops o σ τ) (hh:(∀ b k,σ.heap b=some k→τ.heap b=some k)∨Z81 o=true) {r:Ld×Prop} (h:U6 P ops told gs i o σ=some r):U6 P ops told gs i o τ=some r:=by
 have he:∀ x,Wy P σ o (Vj told i)=some x→Wy P τ o (Vj told i)=some x:=λx hx=>by
  rcases hh with hh|hf
  ·exact Zjn ⟨hs.n,hs.ev,hh⟩ hx
  ·rw[← Zy7 hf _ σ (λ_=>none)] at hx
   exact Zjn (σ:={ σ with heap:=λ_=>none }) ⟨hs.n,λx hx=>(hs.ev x hx).trans (by cases x <;> rfl),λb k hb=>by cases hb⟩ hx
 have hd:Xe τ o=Xe σ o:=by unfold Xe; rw[hs.n]
 unfold U6 at*
 rw[hs.guard]
 split at h
 ·cases h
 ·rename_i g hg
  split at h
  ·rename_i y p hy; rw[he _ hy]; exact h
  ·cases h
 ·rename_i g hg
  rw[hd]; exact h
theorem Zun {dst:Option Nat} {y:Ld} (h:Q4 σ dst y=some σ'):σ'.n=σ.n∧(∀ t,dst≠some t→σ'.tmps t=σ.tmps t)∧(∀ b k,σ.heap b=some k→σ'.heap b=some k):=by
 cases y with
 | val d=>
  simp only[Q4,Option.some.injEq] at h; subst h
  cases dst with
  | none=>exact⟨rfl,λ_ _=>rfl,λ_ _ h=>h⟩
  | some t=>exact⟨rfl,λu hu=>by simp only[S.put]; rw[if_neg (λe=>hu (by rw[e]))],λ_ _ h=>h⟩
 | blk k v=>
  simp only[Q4] at h
  split at h
  ·rename_i t
   split at h
   ·rename_i hn
    cases h
    refine⟨rfl,λu hu=>by simp only[S.put,S.setB]; rw[if_neg (λe=>hu (by rw[e]))],λb k' hb=>?_⟩
    show (if b=t then some k else σ.heap b)=some k'
    rw[if_neg (λe=>by rw[e,hn] at hb; cases hb)]; exact hb
   ·cases h
  ·cases h
theorem Zwg {dst:Option Nat} {d:D} (h:Q4 σ dst (.val d)=some σ'):σ'.heap=σ.heap:=by
 simp only[Q4,Option.some.injEq] at h; subst h; cases dst <;> rfl
theorem Zot {da db:Option Nat} {ya yb:Ld} {σ1 σ2:S} (hne:∀ t,da=some t→db≠some t) (ha:Q4 σ da ya=some σ1) (hb:Q4 σ1 db yb=some σ2):
  ∃ σ1',Q4 σ db yb=some σ1'∧Q4 σ1' da ya=some σ2:=by
 have hput:∀ (x y:Option Nat) (u v:D) (τ:S),(∀ t,x=some t→y≠some t)→(τ.put x u).put y v=(τ.put y v).put x u:=λx y u v τ hxy=>by
  cases x with
  | none=>rfl
  | some s=>
   cases y with
   | none=>rfl
   | some t=>
    have hst:s≠t:=λe=>hxy s rfl (by rw[e])
    simp only[S.put,S.mk.injEq,true_and,and_true]
    funext u'
    by_cases e1:u'=t
    ·subst e1; rw[if_pos rfl,if_neg (Ne.symm hst),if_pos rfl]
    ·rw[if_neg e1]
     by_cases e2:u'=s
     ·subst e2; rw[if_pos rfl,if_pos rfl]
     ·rw[if_neg e2,if_neg e2,if_neg e1]
 have hset:∀ (x:Option Nat) (u:D) (t:Nat) (k:Option Blk) (τ:S),(τ.put x u).setB t k=(τ.setB t k).put x u:=λx u t k τ=>by cases x <;> rfl
 have hsets:∀ (s t:Nat) (k l:Option Blk) (τ:S),s≠t→(τ.setB s k).setB t l=(τ.setB t l).setB s k:=λs t k l τ hst=>by
  simp only[S.setB,S.mk.injEq,true_and]
  funext u
  by_cases e1:u=t
  ·subst e1; rw[if_pos rfl,if_neg (Ne.symm hst),if_pos rfl]
  ·rw[if_neg e1]
   by_cases e2:u=s
   ·subst e2; rw[if_pos rfl,if_pos rfl]
   ·rw[if_neg e2,if_neg e2,if_neg e1]
 cases ya with
 | val d =>
  simp only[Q4,Option.some.injEq] at ha; subst ha
  cases yb with
  | val e=>
   simp only[Q4,Option.some.injEq] at hb; subst hb
   exact⟨_,rfl,by simp only[Q4]; rw[hput _ _ _ _ _ hne]⟩
  | blk k v=>
   simp only[Q4] at hb
   split at hb
   ·rename_i t
    split at hb
    ·rename_i hn
     cases hb
     have hn':σ.heap t=none:=by cases da <;> exact hn
     refine⟨(σ.setB t (some k)).put (some t) (v t),by simp only[Q4,hn'],?_⟩
     simp only[Q4]
     rw[hset,hput _ _ _ _ _ hne]
    ·cases hb
   ·cases hb
 | blk k v =>
  simp only[Q4] at ha
  split at ha
  ·rename_i s
   split at ha
   ·rename_i hs
    cases ha
    cases yb with
    | val e=>
     simp only[Q4,Option.some.injEq] at hb; subst hb
     refine⟨_,rfl,?_⟩
     have hs':(σ.put db e).heap s=none:=by cases db <;> exact hs
     simp only[Q4,hs']
     rw[hset,hput _ _ _ _ _ hne]
    | blk l u=>
     simp only[Q4] at hb
     split at hb
     ·rename_i t
      have hst:s≠t:=λe=>hne s rfl (by rw[e])
      split at hb
      ·rename_i hn
       cases hb
       have hn':σ.heap t=none:=by
        have:(if t=s then some k else σ.heap t)=none:=hn
        rw[if_neg (Ne.symm hst)] at this; exact this
       have hs':((σ.setB t (some l)).put (some t) (u t)).heap s=none:=by
        show (if s=t then some l else σ.heap s)=none
        rw[if_neg hst]; exact hs
       refine⟨(σ.setB t (some l)).put (some t) (u t),by simp only[Q4,hn'],?_⟩
       simp only[Q4,hs']
       rw[hset,hset,hput (some s) (some t) _ _ _ hne,hsets s t _ _ _ hst]
      ·cases hb
     ·cases hb
   ·cases ha
  ·cases ha
def Z87 (ops:Array Oper) (xs:List Nat) (i j:Nat):Bool:=
 match ops[i]?,ops[j]? with
 | some a,some b=>!X8 i xs&&a.apart ops b&&
  ((!X8 j xs&&(!isNew a||Z81 b||X8 (j+2000) xs))||X8 (i+1000) xs||(X8 (i+3000) xs&&X8 j xs&&X8 (j+4000) xs)||(X8 (i+5000) xs&&X8 j xs&& !X8 (j+4000) xs&&X8 (j+6000) xs))
 | _,_=>false
theorem Zik {R:Nat→Bool} {d:D} (h:V4 d=true):W4 R d=true:=by
 have hA:∀ d,J7 d=true→Z4b R d=true:=λd h=>by cases d <;> first|rfl|cases h
 have hE:∀ d,Uj d=true→Z1j R d=true:=λd h=>by
  cases d with
  | agg cs=>
   simp only[Uj,Z1j,List.all_eq_true] at h ⊢
   exact λx hx=>hA x (h x hx)
  | lptr b i o=>cases h
  | lsl b lo n=>cases h
  | clo f bs=>cases h
  | lsk f b lo n=>cases h
  | tup vs=>cases h
  | _=>rfl
 cases d with
 | tup vs=>
  simp only[V4,W4,List.all_eq_true] at h ⊢
  exact λx hx=>hE x (h x hx)
 | agg cs=>exact hE (.agg cs) h
 | lptr b i o=>cases h
 | lsl b lo n=>cases h
 | clo f bs=>cases h
 | lsk f b lo n=>cases h
 | _=>rfl
theorem Zlj {R:Nat→Bool} {i:Nat} {o:Oper} {τ:S} (hlk:∀ t∈o.looksAt ops,W4 R (σ.tmps t)=true) (hs:Ue ops o σ τ) (hh:∀ b,R b=true→τ.heap b=σ.heap b) {r:Ld×Prop} (h:U6 P ops told gs i o σ=some r):U6 P ops told gs i o τ=some r:=by
 have hops:∀ x∈o.op.operands,W4 R (σ.ev x)=true:=λx hx=>by
  cases x with
  | tmp t=>exact hlk t (List.mem_append_left _ (List.mem_filterMap.2 ⟨.tmp t,by simpa using hx,rfl⟩))
  | const v=>exact Zik (Y1n v)
  | func f=>rfl
  | global g=>simp only[S.ev]; split <;> rfl
 have hdk:Xe τ o=Xe σ o:=by unfold Xe; rw[hs.n]
 unfold U6 at h ⊢
 rw[hs.guard,hdk]
 split at h
 ·cases h
 ·rename_i g hg
  split at h
  ·rename_i y p hy
   rw[Zwb hops hs.n hs.ev hh _ hy]; exact h
  ·cases h
 ·rename_i g hg
  exact h
theorem Zyp {i:Nat} {o:Oper} {db:Nat} {d:D} (hl:db ∉ o.looksAt ops) (τ:S):∀ r,U6 P ops told gs i o (τ.put (some db) d)=some r↔U6 P ops told gs i o τ=some r:=λr=>by
 have hs:Ue ops o τ (τ.put (some db) d):=⟨rfl,λt ht=>by simp only[S.put]; rw[if_neg (λe:t=db=>hl (e ▸ ht))]⟩
 exact⟨λh=>Z1h (σ:=τ.put (some db) d) (τ:=τ) ⟨rfl,λt ht=>(hs.tmps t ht).symm⟩ (.inl λ_ _ h=>h) h,λh=>Z1h hs (.inl λ_ _ h=>h) h⟩
theorem Zgh {j:Nat} {o:Oper} {db:Nat} {d:D} (ho:ops[j]?=some o) (hn:V4 d=true) (hl:db ∉ o.looksAt ops) (hne:o.dst≠some db) {σ2:S} {p:Prop} (h:Vl P ops told gs j (σ.put (some db) d)=some (σ2,p)):
  ∃ σ1,Vl P ops told gs j σ=some (σ1,p)∧σ2=σ1.put (some db) d:=by
 have hs:Ue ops o σ (σ.put (some db) d):=⟨rfl,λt ht=>by simp only[S.put]; rw[if_neg (λe:t=db=>hl (e ▸ ht))]⟩
 unfold Vl at h ⊢
 rw[ho] at h ⊢
 dsimp only at h ⊢
 rw[hs.guard] at h
 cases hg:Ur ops σ o (gAt gs j) with
 | none=>rw[hg] at h; cases h
 | some bg=>
  obtain⟨b,g⟩:=bg
  rw[hg] at h
  cases b with
  | true=>
   dsimp only at h ⊢
   rw[Y1m hn hne hs.ev] at h
   cases hstep:Qe P σ o (Vj told j) with
   | none=>rw[hstep] at h; cases h
   | some r=>
    rw[hstep] at h
    cases h
    exact⟨r.1,rfl,rfl⟩
  | false=>
   dsimp only at h ⊢
   rw[Ua] at h
   cases hd:Xe σ o with
   | false=>rw[hd] at h; cases h
   | true=>
    rw[hd] at h
    cases h
    exact⟨_,rfl,Vy hne σ _⟩
theorem oneD_fr {j:Nat} {o:Oper} (ho:ops[j]?=some o) {p:Prop} (h:Vl P ops told gs j σ=some (σ',p)):Fr o.dst σ σ':=by
 unfold Vl at h
 rw[ho] at h
 dsimp only at h
 split at h
 ·cases h
 ·split at h
  ·rename_i hs; cases h; exact Zwi hs
  ·cases h
 ·split at h
  ·cases h; exact(Fr.refl _ _).put _
  ·cases h
theorem Zqi {o:Oper} {db:Nat} {d:D} (hev:∀ x∈o.op.operands,(σ.put (some db) d).ev x=σ.ev x):L7 xs o (σ.put (some db) d)=L7 xs o σ:=by
 unfold L7
 split
 ·rename_i s x t t' hop hg
  rw[hop] at hev
  rw[hev s (by simp[Op.operands,Call.operands])]
 ·rfl
theorem M8 {d:D} {b:Nat} (h:Z4b (away xs) d=true) (hb:X8 (b+20000) xs=true):d.killA b=d:=by
 have hne:∀ b',away xs b'=true→b'≠b:=λb' h e=>by subst e; unfold away at h; rw[hb] at h; cases h
 cases d with
 | lptr b' i o=>exact if_neg (hne b' h)
 | lsl b' lo n=>exact if_neg (hne b' h)
 | lsk f b' lo n=>exact if_neg (hne b' h)
 | clo f bs=>
  have hb':(bs.any λx=>Nat.beq x b)=false:=List.any_eq_false.2 λx hx e=>hne x (List.all_eq_true.1 h x hx) (Nat.eq_of_beq_eq_true e)
  simp only[D.killA,hb']
 | agg cs=>cases h
 | tup vs=>cases h
 | _=>rfl
theorem Zo8 {d:D} {b:Nat} (h:Z1j (away xs) d=true) (hb:X8 (b+20000) xs=true):d.killB b=d:=by
 cases d with
 | agg cs=>
  simp only[Z1j,List.all_eq_true] at h
  simp only[D.killB,D.agg.injEq]
  exact(List.map_congr_left λx hx=>M8 (h x hx) hb).trans (List.map_id _)
 | tup vs=>cases h
 | lptr b' i o=>exact M8 (d:= .lptr b' i o) h hb
 | lsl b' lo n=>exact M8 (d:= .lsl b' lo n) h hb
 | clo f bs=>exact M8 (d:= .clo f bs) h hb
 | lsk f b' lo n=>exact M8 (d:= .lsk f b' lo n) h hb
 | _=>rfl
theorem Zsj {d:D} {b:Nat} (h:W4 (away xs) d=true) (hb:X8 (b+20000) xs=true):d.kill b=d:=by
 cases d with
 | tup vs=>
  simp only[W4,List.all_eq_true] at h
  simp only[D.kill,D.tup.injEq]
  exact(List.map_congr_left λx hx=>Zo8 (h x hx) hb).trans (List.map_id _)
 | agg cs=>exact Zo8 (d:= .agg cs) h hb
 | lptr b' i o=>exact M8 (d:= .lptr b' i o) h hb
 | lsl b' lo n=>exact M8 (d:= .lsl b' lo n) h hb
 | clo f bs=>exact M8 (d:= .clo f bs) h hb
 | lsk f b' lo n=>exact M8 (d:= .lsk f b' lo n) h hb
 | _=>rfl
theorem Y1t {o:Oper} {db:Nat} {d:D} (ha:L7 xs o σ=true) (hd:W4 (away xs) d=true) (hne:o.dst≠some db) (hev:∀ x∈o.op.operands,(σ.put (some db) d).ev x=σ.ev x) (told:Yt):
  Qe P (σ.put (some db) d) o told=(Qe P σ o told).map λr=>(r.1.put (some db) d,r.2):=by
 obtain⟨dst,op,ty,pos,after,guard⟩:=o
 unfold L7 at ha
 dsimp only at ha hne hev
 split at ha
 ·rename_i s x t t'
  split at ha
  ·rename_i b n hs
   have hp:∀ τ:S,Xi P τ ⟨dst,.call { callee:= .builtin .append,args:=⟨[s,x]⟩,argTypes:=⟨[t,t']⟩ },ty,pos,after,none⟩ told.ans=none:=λ_=>rfl
   unfold Qe
   rw[hp,hp]
   dsimp only
   unfold Vt
   dsimp only
   rw[hev s (by simp[Op.operands,Call.operands]),hev x (by simp[Op.operands,Call.operands]),hs]
   unfold Z1i
   rw[Zs0]
   have hdp:(σ.put (some db) d).drop b=(σ.drop b).put (some db) d:=by
    simp only[S.put,S.drop,S.mk.injEq,true_and,and_true]
    funext v
    split
    ·exact Zsj hd ha
    ·rfl
   cases Ju P t with
   | none=>rfl
   | some e=>
    dsimp only
    cases P.info? e with
    | none=>rfl
    | some ie =>
     cases Z0g P σ t t' (σ.ev x) with
     | none=>rfl
     | some nq =>
      obtain⟨news,q⟩:=nq
      dsimp only
      cases ie.zero with
      | none=>rfl
      | some z=>
       dsimp only
       cases z.cells.size==ie.size&&Nat.blt 0 ie.size with
       | false=>rfl
       | true=>
        dsimp only
        split
        ·rename_i b' n' hb'
         cases hb'
         rw[show (σ.put (some db) d).heap b=σ.heap b from rfl,Ua]
         cases σ.heap b with
         | none=>rfl
         | some blk=>
          dsimp only
          cases blk.pure&&blk.sz==ie.size&&Xe σ _ with
          | false=>rfl
          | true=>dsimp only; rw[hdp,Kd,Vy hne]; rfl
        ·rename_i heq; cases heq
        ·rename_i heq; cases heq
        ·rename_i heq; cases heq
        ·rfl
  ·cases ha
 ·cases ha
theorem Y0s {o:Oper} {told:Yt} (ha:L7 xs o σ=true) {p:Prop} (h:Qe P σ o told=some (σ',p)):σ'.n=σ.n∧∀ t,o.dst≠some t→∃ b,X8 (b+20000) xs=true∧σ'.tmps t=(σ.tmps t).kill b:=by
 obtain⟨dst,op,ty,pos,after,guard⟩:=o
 unfold L7 at ha
 dsimp only at ha
 split at ha
 ·rename_i s x t t'
  split at ha
  ·rename_i b n hs
   have hp:Xi P σ ⟨dst,.call { callee:= .builtin .append,args:=⟨[s,x]⟩,argTypes:=⟨[t,t']⟩ },ty,pos,after,none⟩ told.ans=none:=rfl
   unfold Qe at h
   rw[hp] at h
   dsimp only at h
   unfold Vt at h
   dsimp only at h
   rw[hs] at h
   unfold Z1i at h
   have fin:∀ (k:Blk) (v:D),((σ.drop b).setB b (some k)).put dst v=σ'→σ'.n=σ.n∧∀ t,dst≠some t→∃ b,X8 (b+20000) xs=true∧σ'.tmps t=(σ.tmps t).kill b:=λk v e=>by
    subst e
    refine⟨by cases dst <;> rfl,λt ht=>⟨b,ha,?_⟩⟩
    cases dst with
    | none=>rfl
    | some u=>simp only[S.put]; rw[if_neg (λe=>ht (by rw[e]))]; rfl
   split at h
   ·cases h
   ·split at h
    ·split at h
     ·cases h
     ·split at h
      ·cases h
      ·split at h
       ·rename_i b' n' hb'
        cases hb'
        split at h
        ·split at h
         ·cases h; exact fin _ _ rfl
         ·cases h
        ·cases h
       ·rename_i heq; cases heq
       ·rename_i heq; cases heq
       ·rename_i heq; cases heq
       ·cases h
    ·cases h
  ·cases ha
 ·cases ha
theorem swapM {i j:Nat} {oa ob:Oper} (hi:X8 i xs=false) (hm:X8 (i+5000) xs=true) (hj:X8 j xs=true) (hj4:X8 (j+4000) xs=false) (hj6:X8 (j+6000) xs=true) (hoa:ops[i]?=some oa) (hob:ops[j]?=some ob) (hap:oa.apart ops ob=true) {σ1 σ2:S} {pa pb:Prop}
  (ha:Qp P ops told gs xs i σ=some (σ1,pa)) (hb:Qp P ops told gs xs j σ1=some (σ2,pb)):
  ∃ σ1',Qp P ops told gs xs j σ=some (σ1',pb)∧Qp P ops told gs xs i σ1'=some (σ2,pa):=by
 obtain⟨h1,h2,h3⟩:=Oper.apart_spec hap
 obtain⟨o,y,e1,hva,hya,hc,hlo⟩:=Z1q hi ha
 rw[hoa] at e1; cases e1
 have hlo':=hlo
 unfold Md at hlo'
 rw[hm] at hlo'
 simp only[Bool.not_true,Bool.false_or,Bool.and_eq_true] at hlo'
 have hmv:=hlo'.1.1
 unfold mvOk at hmv
 split at hmv
 rotate_left
 ·cases hmv
 rename_i t hop hg
 have hpd:Xi P σ oa (Vj told i).ans=some (σ.tmps t,True):=by unfold Xi; rw[hop]; rfl
 obtain ⟨hy,-⟩:y=.val (σ.tmps t)∧True:=by
  unfold U6 Ur at hva
  rw[hg] at hva
  dsimp only at hva
  split at hva
  ·rename_i y' p' he
   cases hva
   unfold Wy at he
   split at he
   ·cases he
   ·rw[hpd] at he; cases he; exact⟨rfl,trivial⟩
  ·cases hva
 subst hy
 simp only[Q4,Option.some.injEq] at hya
 subst hya
 generalize hdd:σ.tmps t=d at*
 have hone:∀ τ:S,Qp P ops told gs xs j τ=match L7 xs ob τ with
   | true=>Vl P ops told gs j τ
   | false=>none:=λτ=>by unfold Qp; rw[hj]; dsimp only; rw[hj4]; dsimp only; rw[hj6,hob]
 have hgd:L7 xs ob σ=true→ob.guard=none:=λh=>by
  unfold L7 at h
  split at h
  ·assumption
  ·cases h
 have hoD:∀ τ:S,ob.guard=none→Vl P ops told gs j τ=(Qe P τ ob (Vj told j)).map λr=>(r.1,True∧r.2):=λτ hg=>by
  unfold Vl
  rw[hob]
  dsimp only
  unfold Ur
  rw[hg]
  dsimp only
  cases Qe P τ ob (Vj told j) with
  | none=>rfl
  | some r=>rfl
 have key:∃ σ1',L7 xs ob σ=true∧Qp P ops told gs xs j σ=some (σ1',pb)∧σ2=σ1'.put oa.dst d:=by
  cases hda:oa.dst with
  | none=>
   rw[hda] at hb
   have hb':Qp P ops told gs xs j σ=some (σ2,pb):=hb
   refine⟨σ2,?_,hb',rfl⟩
   rw[hone] at hb'
   split at hb'
   ·assumption
   ·cases hb'
  | some db=>
   rw[hda] at hb
   have hl:db ∉ ob.looksAt ops:=h1 db hda
   have hne:ob.dst≠some db:=h2 db hda
   have hs:Ue ops ob σ (σ.put (some db) d):=⟨rfl,λt ht=>by simp only[S.put]; rw[if_neg (λe:t=db=>hl (e ▸ ht))]⟩
   rw[hone,Zqi hs.ev] at hb
   split at hb
   ·rename_i hax
    rw[hoD _ (hgd hax),Y1t hax hmv hne hs.ev] at hb
    cases hst:Qe P σ ob (Vj told j) with
    | none=>rw[hst] at hb; cases hb
    | some r=>
     rw[hst] at hb
     cases hb
     refine⟨r.1,hax,?_,rfl⟩
     rw[hone,hax]
     dsimp only
     rw[hoD _ (hgd hax),hst]; rfl
   ·cases hb
 obtain⟨σ1',hax,k1,rfl⟩:=key
 refine⟨σ1',k1,?_⟩
 have hst:σ1'.n=σ.n∧σ1'.tmps t=d:=by
  rw[hone,hax] at k1
  dsimp only at k1
  rw[hoD _ (hgd hax)] at k1
  cases hst:Qe P σ ob (Vj told j) with
  | none=>rw[hst] at k1; cases k1
  | some r=>
   rw[hst] at k1
   cases k1
   obtain⟨q1,q2⟩:=Y0s hax hst
   obtain⟨b,q3,q4⟩:=q2 t (λe=>h3 t e (Zuf hop))
   exact⟨q1,by rw[q4,hdd]; exact Zsj hmv q3⟩
 have hs:Ue ops oa σ σ1':=⟨hst.1,λu hu=>by
  have:u=t:=by
   unfold Oper.looksAt at hu
   rw[hop,hg] at hu
   simpa [Op.operands] using hu
  rw[this,hst.2,hdd]⟩
 refine Z4k (y:= .val d) hi hoa (Z1h hs (.inr (by unfold Z81; rw[hop])) hva) rfl (λhm'=>?_) (by rw[Z3y hs.tmps]; exact hlo)
 obtain⟨d',f1,f2,f3⟩:=hc hm'
 exact⟨d',f1,f2,λt ht=>by rw[hs.tmps t ht]; exact f3 t ht⟩
theorem swapN {i j:Nat} {oa ob:Oper} (hi:X8 i xs=false) (hm:X8 (i+1000) xs=true) (hoa:ops[i]?=some oa) (hob:ops[j]?=some ob) (hap:oa.apart ops ob=true) {σ1 σ2:S} {pa pb:Prop}
  (ha:Qp P ops told gs xs i σ=some (σ1,pa)) (hb:Qp P ops told gs xs j σ1=some (σ2,pb)):
  ∃ σ1',Qp P ops told gs xs j σ=some (σ1',pb)∧Qp P ops told gs xs i σ1'=some (σ2,pa):=by
 obtain⟨h1,h2,h3⟩:=Oper.apart_spec hap
 obtain⟨o,y,e1,hva,hya,hc,hlo⟩:=Z1q hi ha
 rw[hoa] at e1; cases e1
 obtain⟨d,rfl,hnd,hlk⟩:=hc hm
 simp only[Q4,Option.some.injEq] at hya
 subst hya
 -- the second one first
 have key:∃ σ1',Qp P ops told gs xs j σ=some (σ1',pb)∧σ2=σ1'.put oa.dst d:=by
  cases hda:oa.dst with
  | none=>exact⟨σ2,by rw[hda] at hb; exact hb,rfl⟩
  | some db=>
   rw[hda] at hb
   have hl:db ∉ ob.looksAt ops:=h1 db hda
   have hne:ob.dst≠some db:=h2 db hda
   have hsame:∀ t∈ob.looksAt ops,σ.tmps t=(σ.put (some db) d).tmps t:=λt ht=>by simp only[S.put]; rw[if_neg (λe:t=db=>hl (e ▸ ht))]
   have hsev:Ue ops ob σ (σ.put (some db) d):=⟨rfl,λt ht=>(hsame t ht).symm⟩
   cases hj:X8 j xs with
   | true=>
    unfold Qp at hb ⊢
    rw[hj] at hb ⊢
    dsimp only at hb ⊢
    cases h4:X8 (j+4000) xs with
    | false=>
     rw[h4] at hb
     dsimp only at hb ⊢
     cases h6:X8 (j+6000) xs with
     | false=>
      rw[h6] at hb
      exact Zgh hob hnd hl hne hb
     | true=>
      rw[h6,hob] at hb
      rw[hob]
      dsimp only at hb ⊢
      rw[Zqi hsev.ev] at hb
      cases hpx:L7 xs ob σ with
      | false=>rw[hpx] at hb; cases hb
      | true=>rw[hpx] at hb; exact Zgh hob hnd hl hne hb
    | true=>
     rw[h4,hob] at hb
     rw[hob]
     dsimp only at hb ⊢
     rw[Zu8 hsev.ev] at hb
     cases hpx:L9 σ ob (Vj told j) (quiet xs) with
     | false=>rw[hpx] at hb; cases hb
     | true=>rw[hpx] at hb; exact Zgh hob hnd hl hne hb
   | false=>
    obtain⟨o,y,e1,hvb,hyb,hcb,hlob⟩:=Z1q hj hb
    rw[hob] at e1; cases e1
    have hvb':=(Zyp hl σ _).1 hvb
    obtain⟨σ1',c1,c2⟩:=Zot (da:=some db) (db:=ob.dst) (ya:= .val d) (λt ht=>by cases ht; exact hne) rfl hyb
    simp only[Q4,Option.some.injEq] at c2
    refine⟨σ1',Z4k hj hob hvb' c1 (λhm'=>?_) (by rw[Z3y hsame]; exact hlob),c2.symm⟩
    obtain⟨d',f1,f2,f3⟩:=hcb hm'
    exact⟨d',f1,f2,λt ht=>by rw[hsame t ht]; exact f3 t ht⟩
 obtain⟨σ1',k1,rfl⟩:=key
 refine⟨σ1',k1,?_⟩
 have hfr:=oneD_fr hob (Zhy k1)
 have hs:Ue ops oa σ σ1':=⟨hfr.n,λt ht=>hfr.tmps t (λe=>h3 t e ht) (hlk t ht)⟩
 exact Z4k (y:= .val d) hi hoa (Zlj (R:=λ_=>false) (λt ht=>Zik (hlk t ht)) hs (λb hb=>by cases hb) hva) rfl (λ_=>⟨d,rfl,hnd,λt ht=>by rw[hs.tmps t ht]; exact hlk t ht⟩) (by rw[Z3y hs.tmps]; exact hlo)
theorem swapC {i j:Nat} {oa ob:Oper} (hi:X8 i xs=false) (hm:X8 (i+3000) xs=true) (hj:X8 j xs=true) (hj4:X8 (j+4000) xs=true) (hoa:ops[i]?=some oa) (hob:ops[j]?=some ob) (hap:oa.apart ops ob=true) {σ1 σ2:S} {pa pb:Prop}
  (ha:Qp P ops told gs xs i σ=some (σ1,pa)) (hb:Qp P ops told gs xs j σ1=some (σ2,pb)):
  ∃ σ1',Qp P ops told gs xs j σ=some (σ1',pb)∧Qp P ops told gs xs i σ1'=some (σ2,pa):=by
 obtain⟨h1,h2,h3⟩:=Oper.apart_spec hap
 obtain⟨o,y,e1,hva,hya,hc,hlo⟩:=Z1q hi ha
 rw[hoa] at e1; cases e1
 have hlo':=hlo
 unfold Md at hlo'
 rw[hm] at hlo'
 simp only[Bool.not_true,Bool.false_or,Bool.and_eq_true,Bool.or_eq_true,Bool.not_eq_true',List.all_eq_true] at hlo'
 obtain⟨-,hnew,hfree⟩:=hlo'
 obtain ⟨d,rfl⟩:∃ d,y=.val d:=by
  unfold U6 at hva
  split at hva
  ·cases hva
  ·split at hva
   ·rename_i y p he; cases hva; exact Zss hnew he
   ·cases hva
  ·split at hva
   ·cases hva; exact⟨_,rfl⟩
   ·cases hva
 simp only[Q4,Option.some.injEq] at hya
 subst hya
 have key:∃ σ1',Qp P ops told gs xs j σ=some (σ1',pb)∧σ2=σ1'.put oa.dst d∧σ1'.n=σ.n∧(∀ t,ob.dst≠some t→σ1'.tmps t=σ.tmps t)∧(∀ b,quiet xs b=true→σ1'.heap b=σ.heap b):=by
  -- what the plain one does on a state
  have hplain:∀ {τ τ':S} {p:Prop},L9 τ ob (Vj told j) (quiet xs)=true→Vl P ops told gs j τ=some (τ',p)→τ'.n=τ.n∧(∀ t,ob.dst≠some t→τ'.tmps t=τ.tmps t)∧(∀ b,quiet xs b=true→τ'.heap b=τ.heap b):=λ{τ τ' p} hx h=>by
   unfold Vl at h
   rw[hob] at h
   dsimp only at h
   split at h
   ·cases h
   ·split at h
    ·rename_i hs; cases h; exact Y16 hx hs
    ·cases h
   ·split at h
    ·cases h
     refine⟨by cases ob.dst <;> rfl,λt ht=>?_,λb _=>by cases ob.dst <;> rfl⟩
     cases hd:ob.dst with
     | none=>rfl
     | some u=>simp only[S.put]; rw[if_neg (λe=>ht (by rw[hd,e]))]
    ·cases h
  unfold Qp at hb ⊢
  rw[hj] at hb ⊢
  dsimp only at hb ⊢
  rw[hj4,hob] at hb ⊢
  dsimp only at hb ⊢
  cases hda:oa.dst with
  | none=>
   rw[hda] at hb
   cases hpx:L9 σ ob (Vj told j) (quiet xs) with
   | false=>rw[show σ.put none d=σ from rfl,hpx] at hb; cases hb
   | true=>
    rw[show σ.put none d=σ from rfl,hpx] at hb
    exact⟨σ2,hb,rfl,hplain hpx hb⟩
  | some db =>
   rw[hda] at hb
   have hl:db ∉ ob.looksAt ops:=h1 db hda
   have hne:ob.dst≠some db:=h2 db hda
   have hs:Ue ops ob σ (σ.put (some db) d):=⟨rfl,λt ht=>by simp only[S.put]; rw[if_neg (λe:t=db=>hl (e ▸ ht))]⟩
   rw[Zu8 hs.ev] at hb
   cases hpx:L9 σ ob (Vj told j) (quiet xs) with
   | false=>rw[hpx] at hb; cases hb
   | true=>
    rw[hpx] at hb
    dsimp only at hb ⊢
    have:∃ σ1',Vl P ops told gs j σ=some (σ1',pb)∧σ2=σ1'.put (some db) d:=by
     unfold Vl at hb ⊢
     rw[hob] at hb ⊢
     dsimp only at hb ⊢
     rw[hs.guard] at hb
     cases hg:Ur ops σ ob (gAt gs j) with
     | none=>rw[hg] at hb; cases hb
     | some bg=>
      obtain⟨b,g⟩:=bg
      rw[hg] at hb
      cases b with
      | true=>
       dsimp only at hb ⊢
       rw[Zyk hpx hne hs.ev] at hb
       cases hstep:Qe P σ ob (Vj told j) with
       | none=>rw[hstep] at hb; cases hb
       | some r=>rw[hstep] at hb; cases hb; exact⟨r.1,rfl,rfl⟩
      | false=>
       dsimp only at hb ⊢
       rw[Ua] at hb
       cases hd:Xe σ ob with
       | false=>rw[hd] at hb; cases hb
       | true=>rw[hd] at hb; cases hb; exact⟨_,rfl,Vy hne σ _⟩
    obtain⟨σ1',q1,q2⟩:=this
    exact⟨σ1',q1,q2,hplain hpx q1⟩
 obtain⟨σ1',k1,rfl,k2,k3,k4⟩:=key
 refine⟨σ1',k1,?_⟩
 have hs:Ue ops oa σ σ1':=⟨k2,λt ht=>k3 t λe=>h3 t e ht⟩
 refine Z4k (y:= .val d) hi hoa ?_ rfl (λhm'=>?_) (by rw[Z3y hs.tmps]; exact hlo)
 ·rcases hfree with hf|hr
  ·exact Z1h hs (.inr hf) hva
  ·exact Zlj hr hs k4 hva
 ·obtain⟨d',f1,f2,f3⟩:=hc hm'
  exact⟨d',f1,f2,λt ht=>by rw[hs.tmps t ht]; exact f3 t ht⟩
theorem swapX {i j:Nat} (hok:Z87 ops xs i j=true) {σ1 σ2:S} {pa pb:Prop} (ha:Qp P ops told gs xs i σ=some (σ1,pa)) (hb:Qp P ops told gs xs j σ1=some (σ2,pb)):
  ∃ σ1',Qp P ops told gs xs j σ=some (σ1',pb)∧Qp P ops told gs xs i σ1'=some (σ2,pa):=by
 unfold Z87 at hok
 split at hok
 rotate_left
 ·cases hok
 rename_i oa' ob' hoa' hob'
 simp only[Bool.and_eq_true,Bool.or_eq_true,Bool.not_eq_true'] at hok
 obtain⟨⟨hi,hap⟩,((⟨hj,hnew⟩|hm)|⟨⟨hm,hj⟩,hj4⟩)|⟨⟨⟨hm,hj⟩,hj4⟩,hj6⟩⟩:=hok
 rotate_left 3
 ·exact swapM hi hm hj hj4 hj6 hoa' hob' hap ha hb
 rotate_left
 ·exact swapN hi hm hoa' hob' hap ha hb
 ·exact swapC hi hm hj hj4 hoa' hob' hap ha hb
 obtain⟨oa,ya,hoa,hva,hya,hca,hloa⟩:=Z1q hi ha
 obtain⟨ob,yb,hob,hvb,hyb,hcb,hlob⟩:=Z1q hj hb
 obtain rfl:oa=oa':=by rw[hoa] at hoa'; exact Option.some.inj hoa'
 obtain rfl:ob=ob':=by rw[hob] at hob'; exact Option.some.inj hob'
 obtain⟨h1,h2,h3⟩:=Oper.apart_spec hap
 obtain⟨σ1',c1,c2⟩:=Zot (λt ht=>h2 t ht) hya hyb
 obtain⟨n1,t1,k1⟩:=Zun hya
 obtain⟨n2,t2,k2⟩:=Zun c1
 have hsb:Ue ops ob σ1 σ:=⟨n1.symm,λt ht=>(t1 t λe=>h1 t e ht).symm⟩
 have hb':U6 P ops told gs j ob σ=some (yb,pb):=by
  rcases hnew with (hnew|hnew)|hnew
  ·refine Z1h hsb (.inl ?_) hvb
   -- a value:the heap is the same
   have hval:∃ d,ya=.val d:=by
    unfold U6 at hva
    split at hva
    ·cases hva
    ·split at hva
     ·rename_i y p he; cases hva; exact Zss hnew he
     ·cases hva
    ·split at hva
     ·cases hva; exact⟨_,rfl⟩
     ·cases hva
   obtain⟨d,rfl⟩:=hval
   intro b k hk
   rw[Zwg hya] at hk; exact hk
  ·exact Z1h hsb (.inr hnew) hvb
  ·have hlo':=hlob
   unfold Md at hlo'
   rw[hnew] at hlo'
   simp only[Bool.not_true,Bool.false_or,Bool.and_eq_true,List.all_eq_true] at hlo'
   exact Zlj (R:=λ_=>false) (λt ht=>Zik (hlo'.1.2 t ht)) hsb (λb hb=>by cases hb) hvb
 have hsa:Ue ops oa σ σ1':=⟨n2,λt ht=>t2 t λe=>h3 t e ht⟩
 have ha':U6 P ops told gs i oa σ1'=some (ya,pa):=Z1h hsa (.inl k2) hva
 refine⟨σ1',Z4k hj hob hb' c1 (λhm=>?_) (by rw[Z3y hsb.tmps]; exact hlob),Z4k hi hoa ha' c2 (λhm=>?_) (by rw[Z3y hsa.tmps]; exact hloa)⟩
 ·obtain⟨d,f1,f2,f3⟩:=hcb hm
  exact⟨d,f1,f2,λt ht=>by rw[hsb.tmps t ht]; exact f3 t ht⟩
 ·obtain⟨d,f1,f2,f3⟩:=hca hm
  exact⟨d,f1,f2,λt ht=>by rw[hsa.tmps t ht]; exact f3 t ht⟩
def Ku (P:Program) (ops:Array Oper) (told:List (Nat×Yt)) (gs:List (Nat×Bool)) (xs:List Nat):List Nat→S→Option (S×Prop)
 | [],σ=>some (σ,True)
 | i :: r,σ=>
  match Qp P ops told gs xs i σ with
  | some (σ',p)=>
   match Ku P ops told gs xs r σ' with
   | some (σ'',q)=>some (σ'',p∧q)
   | none=>none
  | none=>none
theorem Zut {i:Nat} {l2:List Nat}:∀ (l1:List Nat) {σ σ':S} {p:Prop},(∀ x∈l1,Z87 ops xs x i=true)→Ku P ops told gs xs (l1++i::l2) σ=some (σ',p)→p→
  ∃ σi pi p',Qp P ops told gs xs i σ=some (σi,pi)∧pi∧Ku P ops told gs xs (l1++l2) σi=some (σ',p')∧p'
 | [], σ,σ',p,_,h,hp=>by
  simp only[List.nil_append] at h ⊢
  unfold Ku at h
  split at h
  ·rename_i σ1 q h1
   split at h
   ·rename_i σ2 q' h2
    cases h
    exact⟨σ1,q,q',h1,hp.1,h2,hp.2⟩
   ·cases h
  ·cases h
 | x :: l1,σ,σ',p,hx,h,hp=>by
  simp only[List.cons_append] at h ⊢
  unfold Ku at h
  split at h
  ·rename_i σ1 q h1
   split at h
   ·rename_i σ2 q' h2
    cases h
    obtain⟨σi,pi,p',k1,k2,k3,k4⟩:=Zut l1 (λy hy=>hx y (by simp[hy])) h2 hp.2
    obtain⟨σ1',m1,m2⟩:=swapX (hx x (by simp)) h1 k1
    refine⟨σ1',pi,q∧p',m1,k2,?_,hp.1,k4⟩
    unfold Ku
    rw[m2]; dsimp only; rw[k3]
   ·cases h
  ·cases h
def Lq (ops:Array Oper) (i:Nat):List Nat:=
 match ops[i]? with
 | some o=>(o.after.toList.filter (Region.binds .any)).map (·.on)
 | none=>[]
def wOf:List (Nat×List Nat)→Nat→List Nat
 | [],_=>[]
 | (k,l)::r,i=>match i==k with|true=>l|false=>wOf r i
def Zas (ops:Array Oper) (W:List (Nat×List Nat)):List Nat→Bool
 | [] =>true
 | b::r=>(wOf W b).all (λx=>X8 x (Lq ops b)||(Lq ops b).any λc=>X8 x (wOf W c))&&Zas ops W r
def Z1a (ops:Array Oper) (xs:List Nat) (W:List (Nat×List Nat)):List Nat→Bool
 | [] =>true
 | x::r=>r.all (λb=>X8 x (wOf W b)||Z87 ops xs x b)&&Z1a ops xs W r
def Z0p (ops:Array Oper):List Nat→Bool
 | [] =>true
 | b::r=>(Lq ops b).all (λc=>Nat.blt c ops.size&& !X8 c (b::r))&&Z0p ops r
def Z1p:List Nat→Bool
 | [] =>true
 | b::r=>!X8 b r&&Z1p r
def ordOk (ops:Array Oper) (xs:List Nat) (W:List (Nat×List Nat)) (ord:List Nat):Bool:=
 ord.length==ops.size&&Z1p ord&&ord.all (λi=>Nat.blt i ops.size)&&(List.range ops.size).all (λi=>X8 i ord)&&Zas ops W ord&&Z1a ops xs W ord&&Z0p ops ord
theorem Z11 {n:Nat}:∀ {l:List Nat},X8 n l=true↔n∈l
 | [] =>by simp[X8]
 | x :: r=>by
  unfold X8
  cases h:n==x with
  | true=>simp only[true_iff]; have:=eq_of_beq h; subst this; simp
  | false=>
   have hne:n≠x:=by simpa using h
   show X8 n r=true↔n∈x::r
   rw[Z11,List.mem_cons]
   exact⟨.inr,λh'=>h'.resolve_left hne⟩
theorem Ztc {W:List (Nat×List Nat)} {i:Nat} {l2:List Nat}:∀ {l1:List Nat},Z1a ops xs W (l1++i::l2)=true→(∀ x∈l1,x∈wOf W i∨Z87 ops xs x i=true)∧Z1a ops xs W (l1++l2)=true
 | [],h=>by
  simp only[List.nil_append,Z1a,Bool.and_eq_true] at h ⊢
  exact⟨by simp,h.2⟩
 | x :: l1,h=>by
  simp only[List.cons_append,Z1a,Bool.and_eq_true,List.all_eq_true,Bool.or_eq_true,Z11] at h ⊢
  obtain⟨h1,h2⟩:=Ztc h.2
  refine⟨λy hy=>?_,λb hb=>h.1 b ?_,h2⟩
  ·rcases List.mem_cons.1 hy with rfl|hy
   ·exact h.1 i (by simp)
   ·exact h1 y hy
  ·rcases List.mem_append.1 hb with hb|hb
   ·simp[hb]
   ·simp[hb]
theorem Znr {i:Nat} {l2:List Nat}:∀ {l1:List Nat},Z0p ops (l1++i::l2)=true→Z0p ops (l1++l2)=true
 | [],h=>by simp only[List.nil_append,Z0p,Bool.and_eq_true] at h ⊢; exact h.2
 | x :: l1,h=>by
  simp only[List.cons_append,Z0p,Bool.and_eq_true,List.all_eq_true,Bool.not_eq_true'] at h ⊢
  refine⟨λc hc=>⟨(h.1 c hc).1,?_⟩,Znr h.2⟩
  have:=(h.1 c hc).2
  rw[← Bool.not_eq_true,Z11] at this ⊢
  intro hm; apply this
  rcases List.mem_cons.1 hm with rfl|hm
  ·simp
  ·rcases List.mem_append.1 hm with hm|hm
   ·simp[hm]
   ·simp[hm]
theorem Zqq {i:Nat} {l2:List Nat}:∀ {l1:List Nat},Z1p (l1++i::l2)=true→Z1p (l1++l2)=true∧i ∉ l1++l2
 | [],h=>by
  simp only[List.nil_append,Z1p,Bool.and_eq_true,Bool.not_eq_true'] at h ⊢
  exact⟨h.2,by rw[← Bool.not_eq_true,Z11] at h; exact h.1⟩
 | x :: l1,h=>by
  simp only[List.cons_append,Z1p,Bool.and_eq_true,Bool.not_eq_true',← Bool.not_eq_true,Z11] at h ⊢
  obtain⟨h1,h2⟩:=Zqq h.2
  refine⟨⟨λhm=>h.1 ?_,h1⟩,λhm=>?_⟩
  ·rcases List.mem_append.1 hm with hm|hm
   ·simp[hm]
   ·simp[hm]
  ·rcases List.mem_cons.1 hm with rfl|hm
   ·exact h.1 (by simp)
   ·exact h2 hm
theorem Ztd {b c:Nat}:c∈Lq ops b↔∃ o,ops[b]?=some o∧∃ e∈o.after,Region.binds .any e=true∧e.on=c:=by
 unfold Lq
 cases h:ops[b]? with
 | none=>simp
 | some o=>simp[and_assoc]
structure Left (ops:Array Oper) (W:List (Nat×List Nat)) (listed:Array Bool) (Qf:List Nat):Prop where
 size:listed.size=ops.size
 mem:∀ j,j<ops.size→(listed.getD j true=false↔j∈Qf)
 lt:∀ j∈Qf,j<ops.size
 closed:∀ c,c<ops.size→c ∉ Qf→(∀ x∈wOf W c,x ∉ Qf)
theorem anyX {W:List (Nat×List Nat)} {Q:Exit→Act→World→Prop} (hwait:∀ b,b<ops.size→∀ x∈wOf W b,x∈Lq ops b∨∃ c∈Lq ops b,x∈wOf W c):
  ∀ (n:Nat) (Qf:List Nat) (listed:Array Bool) {σ σ':S} {a:Act} {w:World} {G β} {p:Prop},Qf.length=n→Left ops W listed Qf→Z1a ops xs W Qf=true→Z0p ops Qf=true→Z1p Qf=true→
   Za Γ σ a w G β→Ku P ops told gs xs Qf σ=some (σ',p)→p→(∀ a' w' G' β',Za Γ σ' a' w' G' β'→Q .normal a' w')→wpAny P .any ops Q n listed a w
 | 0,Qf,listed,σ,σ',a,w,G,β,p,hl,hL,_,_,_,hC,h,hp,hQ=>by
  obtain rfl:=List.eq_nil_of_length_eq_zero hl
  cases h
  refine⟨?_,hQ _ _ _ _ hC⟩
  apply List.eq_nil_iff_forall_not_mem.2
  intro j hj
  obtain⟨h1,o,ho,-⟩:=mem_ready.1 hj
  have:=(hL.mem j (Array.getElem?_eq_some_iff.1 ho).1).1 h1
  cases this
 | n + 1,Qf,listed,σ,σ',a,w,G,β,p,hl,hL,hpairs,htopo,hdist,hC,h,hp,hQ=>by
  have hlisted:∀ c,c<ops.size→c ∉ Qf→listed.getD c false=true:=λc hc hn=>by
   have h1:listed.getD c true=true:=by
    cases hb:listed.getD c true with
    | true=>rfl
    | false=>exact absurd ((hL.mem c hc).1 hb) hn
   have hlt:c<listed.size:=by rw[hL.size]; exact hc
   simp only[Array.getD_eq_getD_getElem?,Array.getElem?_eq_getElem hlt,Option.getD_some] at h1 ⊢
   exact h1
  refine⟨λhr=>?_,λi hi=>?_⟩
  ·match Qf,hl with
   | b :: r,_=>
    exfalso
    have hb:=hL.lt b (by simp)
    have:b∈Region.ready .any ops listed:=mem_ready.2 ⟨(hL.mem b hb).2 (by simp),ops[b],Array.getElem?_eq_getElem hb,λe he hbind=>by
     have hdep:e.on∈Lq ops b:=Ztd.2 ⟨_,Array.getElem?_eq_getElem hb,e,he,hbind,rfl⟩
     simp only[Z0p,Bool.and_eq_true,List.all_eq_true,Bool.not_eq_true'] at htopo
     obtain⟨h1,h2⟩:=htopo.1 _ hdep
     rw[← Bool.not_eq_true,Z11] at h2
     exact hlisted _ (by simpa using h1) h2⟩
    rw[hr] at this; cases this
  ·obtain⟨h1,o,ho,h2⟩:=mem_ready.1 hi
   have hlt:=(Array.getElem?_eq_some_iff.1 ho).1
   have hmem:=(hL.mem i hlt).1 h1
   obtain⟨l1,l2,rfl⟩:=List.append_of_mem hmem
   obtain⟨hd1,hd2⟩:=Zqq hdist
   -- what it waits for is listed
   have hlist2:∀ c,listed.getD c false=true→c<ops.size∧c ∉ l1++i::l2:=λc hc=>by
    have hlt':c<listed.size:=by
     rcases Nat.lt_or_ge c listed.size with h'|h'
     ·exact h'
     ·simp[Array.getD_eq_getD_getElem?,Array.getElem?_eq_none h'] at hc
    have hlt2:c<ops.size:=by rw[← hL.size]; exact hlt'
    refine⟨hlt2,λhm=>?_⟩
    have:=(hL.mem c hlt2).2 hm
    simp only[Array.getD_eq_getD_getElem?,Array.getElem?_eq_getElem hlt',Option.getD_some] at this hc
    rw[hc] at this; cases this
   have hdeps:∀ c∈Lq ops i,c<ops.size∧c ∉ l1++i::l2:=λc hc=>by
    obtain⟨o',ho',e,he,hb,rfl⟩:=Ztd.1 hc
    rw[ho] at ho'; cases ho'
    exact hlist2 _ (h2 e he hb)
   have hW:∀ x∈wOf W i,x ∉ l1++i::l2:=λx hx=>by
    rcases hwait i hlt x hx with h'|⟨c,hc,h'⟩
    ·exact(hdeps x h').2
    ·exact hL.closed c (hdeps c hc).1 (hdeps c hc).2 x h'
   obtain⟨hp1,hp2⟩:=Ztc hpairs
   obtain⟨σi,pi,p',k1,k2,k3,k4⟩:=Zut l1 (λx hx=>(hp1 x hx).resolve_left λhw=>hW x hw (by simp[hx])) h hp
   refine Ziq hC (Zhy k1) k2 λa' w' G' β' hC'=>?_
   refine anyX hwait n (l1++l2) _ (by simp at hl ⊢; omega) ?_ hp2 (Znr htopo) hd1 hC' k3 k4 hQ
   refine⟨by simp[hL.size],λj hj=>?_,λj hj=>hL.lt j ?_,λc hc hn x hx hm=>?_⟩
   ·by_cases hji:j=i
    ·subst hji
     refine⟨λhg=>?_,λhm=>absurd hm hd2⟩
     rw[Array.getD_eq_getD_getElem?,Array.getElem?_setIfInBounds_self_of_lt (by rw[hL.size]; exact hj)] at hg
     cases hg
    ·rw[getD_set_ne _ (Ne.symm hji),hL.mem j hj]
     simp[hji]
   ·rcases List.mem_append.1 hj with hj|hj
    ·simp[hj]
    ·simp[hj]
   ·have hm':x∈l1++i::l2:=by
     rcases List.mem_append.1 hm with hm|hm
     ·simp[hm]
     ·simp[hm]
    by_cases hci:c=i
    ·subst hci; exact hW x hx hm'
    ·refine hL.closed c hc (λhcm=>hn ?_) x hx hm'
     rcases List.mem_append.1 hcm with h'|h'
     ·simp[h']
     ·rcases List.mem_cons.1 h' with h'|h'
      ·exact absurd h' hci
      ·simp[h']
theorem DWP.draw {id:Nat} {W:List (Nat×List Nat)} {ord:List Nat} {p:Prop} {Q:Exit→S→Prop} (hm:P.follows .mixedOrders=true) (hok:ordOk ops xs W ord=true)
  (h:Ku P ops told gs xs ord σ=some (σ',p)) (hp:p) (hQ:Q .normal σ'):DWP P Γ (.region id ops true) Q σ:=λa w G β hC=>by
 unfold ordOk at hok
 simp only[Bool.and_eq_true,beq_iff_eq,List.all_eq_true,List.mem_range,Z11] at hok
 obtain⟨⟨⟨⟨⟨⟨h1,h2⟩,h3⟩,h4⟩,h5⟩,h6⟩,h7⟩:=hok
 refine wp_region_any hm (anyX (W:=W) (xs:=xs) (told:=told) (gs:=gs) ?_ ops.size ord _ h1 ?_ h6 h7 h2 (hC.quiet (Z72 w)) h hp λa' w' G' β' hC'=>⟨σ',G',β',hC',hQ⟩)
 ·intro b hb x hx
  have key:∀ l:List Nat,Zas ops W l=true→b∈l→x∈Lq ops b∨∃ c∈Lq ops b,x∈wOf W c:=λl=>by
   induction l with
   | nil=>intro _ hb; cases hb
   | cons y r ih=>
    intro hw hm
    simp only[Zas,Bool.and_eq_true,List.all_eq_true,Bool.or_eq_true,List.any_eq_true,Z11] at hw
    rcases List.mem_cons.1 hm with rfl|hm
    ·exact hw.1 x hx
    ·exact ih hw.2 hm
  exact key ord h5 (h4 b hb)
 ·refine⟨by simp,λj hj=>?_,λj hj=>by simpa using h3 j hj,λc hc hn=>absurd (h4 c hc) hn⟩
  simp only[Array.getD_eq_getD_getElem?,Array.getElem?_replicate,hj,if_true,Option.getD_some,true_iff]
  exact h4 j hj
end Go.Den
