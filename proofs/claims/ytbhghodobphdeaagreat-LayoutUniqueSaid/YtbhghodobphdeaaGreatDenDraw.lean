/-
  Regions that draw their order: an operation reads its operands, its guard and the heap, and yields a value or a new block; what is not bound to an order may change places.
-/
import Derived.Test.YtbhghodobphdeaaGreatDenGc
import Derived.Orders
namespace Go.Den
open Go.RowKit
def Z1j (n:Nat):List Nat→Bool
 | [] =>false
 | x::r=>match n==x with
  | true=>true
  | false=>Z1j n r
inductive Z5t where
 | val (d:D)
 | blk (k:Blk) (v:Nat→D)
def Z23 (σ:S) (dst:Option Nat):Z5t→Option S
 | .val d=>some (σ.put dst d)
 | .blk k v=>match dst with
  | some t=>match σ.heap t with
   | none=>some ((σ.setB t (some k)).put (some t) (v t))
   | some _=>none
  | none=>none
def Zb8 (P:Program) (σ:S) (f:FuncId) (args:List D) (told:Z18):Option (D×Prop):=
 match told.ans,told.io with
 | .val r,none=>
  match Z2z σ args with
  | some (ds,l,p)=>
   match r.scalar||l.isEmpty with
   | true=>some (r,p∧ds=(Z6c told ds)∧Zbd P f (Z6c told ds) r)
   | false=>none
  | none=>none
 | _,_=>none
def Zao (P:Program) (σ:S) (src dst:TypeId) (x:D) (told:Z18):Option (D×Prop):=
 match P.underlying dst,Z5i P src with
 | some .string,some e=>
  match P.underlying e,Z4c P e with
  | some (.int .u8),some 1=>
   match Z5j σ x,told.ans with
   | some (rows,q),.val (.str s)=>some (.str s,q∧Z6q rows=some s)
   | _,_=>none
  | _,_=>none
 | _,_=>none
def Z49 (P:Program) (σ:S) (o:Oper) (told:Z18):Option (Z5t×Prop):=
 match Z1x σ o with
 | false=>none
 | true=>
  match Z1t P σ o told.ans with
  | some (d,p)=>some (.val d,p)
  | none=>
   match o.op with
   | .alloc e=>
    match Z5x P e with
    | some cs=>some (.blk { sz:=cs.length,rows:=[cs],frz:=0,pure:=false,ty:=tyR told.ro e } (fun t=> .lptr t 0 0),True)
    | none=>none
   | .box _ x=>
    match cellsOf (σ.ev x) with
    | some cs=>match told.ro with
     | true=>(match cs.all D.dat with
      | true=>some (.val (.ptr cs),True)
      | false=>none)
     | false=>some (.blk { sz:=cs.length,rows:=[cs],frz:=0,pure:=false } (fun t=> .lptr t 0 0),True)
    | none=>none
   | .build t parts=>
    match Z5x P t,Zg7 P t with
    | some z,some pl=>
     match Z7w pl z (parts.toList.map fun x=>(x.1,σ.ev x.2)) with
     | some cs=>some (.val (.agg cs),True)
     | none=>none
    | _,_=>none
   | .buildSlice t len parts=>
    match Z5i P t with
    | some e=>
     match P.info? e with
     | some ie =>
      match Z2z σ (parts.toList.map fun x=>σ.ev x.2) with
      | some (ds,[],p)=>
       match Z7w (fun i=>some (i*ie.size,ie.size)) (List.replicate (len*ie.size) .undef) ((parts.toList.map (·.1)).zip ds) with
       | some cs=>match cs.all D.dat&&Nat.ble (len*ie.size) 16777216&&(Z5x P e).isSome with
        | true=>match told.ro with
         | true=>(match told.rows with
          | none=>some (.val (.sl true (Z56 ie.size len cs)),p)
          | some _=>none)
         | false=>some (.blk { sz:=ie.size,rows:=Z56 ie.size len cs,frz:=0,pure:=true,ty:=tyR told.mt e } (fun t=> .lsl t 0 len),p)
        | false=>none
       | none=>none
      | _=>none
     | none=>none
    | none=>none
   | .makeSlice t l c=>
    match Z5i P t,σ.ev l,σ.ev c with
    | some e,.int _ l,.int _ c=>
     match P.info? e,Zd5 P e with
     | some ie,some z=>match z.length==ie.size&&z.all D.dat with
      | true=>
       let rows:=told.rows.getD (List.replicate l.toNat z)
       some (.blk { sz:=ie.size,rows,frz:=0,pure:=true } (fun t=> .lsl t 0 rows.length),0≤l∧l≤c∧(ie.bytes:Int)*c≤281474976710656∧c≤9223372036854775807∧List.replicate l.toNat z=rows)
      | false=>none
     | _,_=>none
    | _,_,_=>none
   | .convert src dst x=>
    match Zao P σ src dst (σ.ev x) told with
    | some (d,p)=>some (.val d,p)
    | none=>none
   | .call { callee:= .value f,args,.. }=>
    match σ.ev f with
    | .fn f=>match Zb8 P σ f (args.toList.map σ.ev) told with
     | some (d,p)=>some (.val d,p)
     | none=>none
    | _=>none
   | _=>none
variable {P:Program} {Γ:Ctx} {σ τ σ':S} {a:Act} {w w':World} {G G':Nat→Nat} {β β':Nat→Option (Nat×Nat)}
theorem Zyf (σ:S):σ.freezeL []=σ:=rfl
theorem Zhk {o:Oper} {blk:Blk} {v:Nat→D} {p:Prop} (hd:Z1x σ o=true) (h:Z23 σ o.dst (.blk blk v)=some σ'):Z4y σ o blk v p=some (σ',p):=by
 simp only [Z23] at h
 unfold Z4y
 split at h
 ·rename_i t ht
  rw [ht]
  split at h
  ·rename_i hn
   cases h
   have:Nat.blt t σ.n=true:=by simpa [Z1x,ht] using hd
   simp only [hn,this]
  ·cases h
 ·cases h
theorem Y00 {o:Oper} {told:Z18} {y:Z5t} {p:Prop} (h:Z49 P σ o told=some (y,p)) (hy:Z23 σ o.dst y=some σ'):Z2e P σ o told=some (σ',p):=by
 unfold Z49 at h
 split at h
 ·cases h
 ·rename_i hd
  unfold Z2e
  split at h
  ·rename_i d q hq
   cases h; simp only [Z23,Option.some.injEq] at hy; subst hy
   rw [hq]; dsimp only; rw [hd]
  ·rename_i hn
   rw [hn]
   dsimp only
   unfold Z35
   split at h
   ·rename_i e heq
    simp only [heq]
    split at h
    ·rename_i cs hz; cases h; simp only [hz]; exact Zhk hd hy
    ·cases h
   ·rename_i e x heq
    simp only [heq]
    split at h
    ·rename_i cs hz
     simp only [hz]
     split at h
     ·rename_i hro
      split at h
      ·rename_i hall
       cases h; simp only [Z23,Option.some.injEq] at hy; subst hy; simp only [hro,hall,hd]
      ·cases h
     ·rename_i hro; cases h; simp only [hro]; exact Zhk hd hy
    ·cases h
   ·rename_i t parts heq
    simp only [heq]
    split at h
    ·rename_i z pl h1 h2
     split at h
     ·rename_i cs h3; cases h; simp only [Z23,Option.some.injEq] at hy; subst hy; simp only [h1,h2,h3,hd]
     ·cases h
    ·cases h
   ·rename_i t len parts heq
    simp only [heq]
    split at h
    ·rename_i e h1
     split at h
     ·rename_i ie h2
      split at h
      ·rename_i ds q h3
       split at h
       ·rename_i cs h4
        split at h
        ·rename_i h5
         split at h
         ·rename_i hro
          split at h
          ·rename_i hrw
           cases h; simp only [Z23,Option.some.injEq] at hy; subst hy; simp only [h1,h2,h3,h4,h5,hro,hd,Zyf,hrw]
          ·cases h
         ·rename_i hro
          cases h; simp only [h1,h2,h3,h4,h5,hro,Zyf]; exact Zhk hd hy
        ·cases h
       ·cases h
      ·cases h
     ·cases h
    ·cases h
   ·rename_i t l c heq
    simp only [heq]
    split at h
    ·rename_i e k l' k' c' h1 h2 h3
     split at h
     ·rename_i ie z h4 h5
      split at h
      ·rename_i h6; cases h; simp only [h1,h2,h3,h4,h5,h6]; exact Zhk hd hy
      ·cases h
     ·cases h
    ·cases h
   ·rename_i src dst x heq
    simp only [heq]
    split at h
    ·rename_i d q hb
     cases h; simp only [Z23,Option.some.injEq] at hy; subst hy
     unfold Zao at hb
     unfold Z9z
     split at hb
     ·rename_i e h1 h2
      split at hb
      ·rename_i h3 h4
       split at hb
       ·rename_i rows q' s h5 h6
        cases hb
        split
        ·rename_i b hxe; rw [hxe] at h5; cases h5
        ·have hsb:Za1 P σ src dst (σ.ev x)=false:=by
          unfold Za1
          split
          ·split
           ·rename_i h9; rw [h1] at h9; cases h9
           ·rfl
          ·rfl
         simp only [hsb,Bool.false_and,h1,h2,h3,h4,h5,h6,hd]
       ·cases hb
      ·cases hb
     ·cases hb
    ·cases h
   ·rename_i f args ts heq
    simp only [heq]
    split at h
    ·rename_i g hg
     split at h
     ·rename_i d q hc
      cases h; simp only [Z23,Option.some.injEq] at hy; subst hy
      unfold Zb8 at hc
      unfold Zce
      split at hc
      ·rename_i r hr hio
       split at hc
       ·rename_i ds l q' h1
        split at hc
        ·rename_i h2
         cases hc
         simp only [hg,hio,hr,h1,hd]
         cases hs:d.scalar with
         | true=>rfl
         | false=>
          simp only [hs,Bool.false_or,List.isEmpty_iff] at h2
          subst h2; rfl
        ·cases hc
       ·cases hc
      ·cases hc
     ·cases h
    ·cases h
   ·cases h
structure More (o:Oper) (σ τ:S):Prop where
 n:τ.n=σ.n
 ev:∀ x∈o.op.operands,τ.ev x=σ.ev x
 heap:∀ b k,σ.heap b=some k→τ.heap b=some k
variable {o:Oper}
theorem Y1m (hh:∀ b k,σ.heap b=some k→τ.heap b=some k) {x:D} {ans:Ans} {r:List D×Prop} (h:Z7a σ x ans=some r):Z7a τ x ans=some r:=by
 unfold Z7a at*
 split at h
 ·exact h
 ·split at h
  ·rename_i blk hb; rw [hh _ _ hb]; exact h
  ·cases h
 ·cases h
theorem Zzw (hh:∀ b k,σ.heap b=some k→τ.heap b=some k) {t:TypeId} {x:D} {ans:Ans} {r:D×Prop} (h:Z5o P σ t x ans=some r):Z5o P τ t x ans=some r:=by
 unfold Z5o at*
 split at h
 ·rename_i cs p hd; rw [Y1m hh hd]; exact h
 ·cases h
theorem Y0w (hh:∀ b k,σ.heap b=some k→τ.heap b=some k) {t:TypeId} {x i:D} {ans:Ans} {r:D×Prop} (h:Z80 P σ t x i ans=some r):Z80 P τ t x i ans=some r:=by
 unfold Z80 at*
 split at h
 ·split at h
  ·split at h
   ·split at h
    ·exact h
    ·split at h
     ·rename_i blk hb; simp only [hh _ _ hb]; exact h
     ·cases h
    ·cases h
   ·cases h
  ·exact h
  ·cases h
 ·cases h
theorem Y3k (hh:∀ b k,σ.heap b=some k→τ.heap b=some k) {t:TypeId} {x:D} {lo hi mx:Option D} {ans:Ans} {r:D×Prop} (h:Z84 P σ t x lo hi mx ans=some r):Z84 P τ t x lo hi mx ans=some r:=by
 unfold Z84 at*
 split at h
 ·exact h
 ·exact h
 ·split at h
  ·rename_i blk sz hb hs; simp only [hh _ _ hb,hs]; exact h
  ·cases h
 ·cases h
theorem Ztq (hh:∀ b k,σ.heap b=some k→τ.heap b=some k) {d:D} {r:D×List Nat×Prop} (h:Z48 σ d=some r):Z48 τ d=some r:=by
 unfold Z48 at*
 split at h
 ·split at h
  ·rename_i blk hb; simp only [hh _ _ hb]; exact h
  ·cases h
 ·split at h
  ·rename_i blk hb; simp only [hh _ _ hb]; exact h
  ·cases h
 ·exact h
 ·exact h
theorem Ztc (hh:∀ b k,σ.heap b=some k→τ.heap b=some k):∀ {ds:List D} {r:List D×List Nat×Prop},Z5h σ ds=some r→Z5h τ ds=some r
 | [],r,h=>h
 | d :: l,r,h=>by
  unfold Z5h at*
  split at h
  ·rename_i d' l1 p1 r' l2 p2 e1 e2
   rw [Ztq hh e1,Ztc hh e2]; exact h
  ·cases h
theorem Y36 (hh:∀ b k,σ.heap b=some k→τ.heap b=some k) {d:D} {r:D×List Nat×Prop} (h:Z5k σ d=some r):Z5k τ d=some r:=by
 unfold Z5k at*
 split at h
 ·split at h
  ·rename_i cs' l p e; rw [Ztc hh e]; exact h
  ·cases h
 ·exact Ztq hh h
theorem Zkx (hh:∀ b k,σ.heap b=some k→τ.heap b=some k):∀ {ds:List D} {r:List D×List Nat×Prop},Z2z σ ds=some r→Z2z τ ds=some r
 | [],r,h=>h
 | d :: l,r,h=>by
  unfold Z2z at*
  split at h
  ·rename_i d' l1 p1 r' l2 p2 e1 e2
   rw [Y36 hh e1,Zkx hh e2]; exact h
  ·cases h
theorem Y2j (hh:∀ b k,σ.heap b=some k→τ.heap b=some k) {d:D} {r:List (List D)×Prop} (h:Z5j σ d=some r):Z5j τ d=some r:=by
 unfold Z5j at*
 split at h
 ·exact h
 ·split at h
  ·rename_i blk hb; simp only [hh _ _ hb]; exact h
  ·cases h
 ·cases h
theorem Zzb (hh:∀ b k,σ.heap b=some k→τ.heap b=some k) {src dst:TypeId} {x:D} {told:Z18} {r:D×Prop} (h:Zao P σ src dst x told=some r):Zao P τ src dst x told=some r:=by
 unfold Zao at*
 split at h
 ·split at h
  ·split at h
   ·rename_i rows q s h5 h6; rw [Y2j hh h5]; simp only [h6]; exact h
   ·cases h
  ·cases h
 ·cases h
theorem Y3i (hh:∀ b k,σ.heap b=some k→τ.heap b=some k) {f:FuncId} {args:List D} {told:Z18} {r:D×Prop} (h:Zb8 P σ f args told=some r):Zb8 P τ f args told=some r:=by
 unfold Zb8 at*
 split at h
 ·split at h
  ·rename_i ds l p e; rw [Zkx hh e]; exact h
  ·cases h
 ·cases h
theorem Zmo {ans:Ans} (hm:More o σ τ) {r:D×Prop} (h:Z1t P σ o ans=some r):Z1t P τ o ans=some r:=by
 obtain ⟨dst,op,ty,pos,after,guard⟩:=o
 have hev:=hm.ev
 have hh:=hm.heap
 cases op <;> simp only [Op.operands] at hev <;> simp only [Z1t] at h ⊢
 case move x=>rw [hev x (by simp)]; exact h
 case assign x=>rw [hev x (by simp)]; exact h
 case pick c x y=>rw [hev c (by simp),hev x (by simp),hev y (by simp)]; exact h
 case binOp b xt x y yt=>rw [hev x (by simp),hev y (by simp)]; exact h
 case unOp u t x=>rw [hev x (by simp)]; exact h
 case convert s t x=>rw [hev x (by simp)]; exact h
 case load t x=>rw [hev x (by simp)]; exact Zzw hh h
 case fieldAddr s x f=>rw [hev x (by simp)]; exact h
 case field s x f=>rw [hev x (by simp)]; exact h
 case indexAddr t x i=>rw [hev x (by simp),hev i (by simp)]; exact Y0w hh h
 case index t x i=>rw [hev x (by simp),hev i (by simp)]; exact h
 case slice t x lo hi mx=>
  have e1:lo.map τ.ev=lo.map σ.ev:=by cases lo with|none=>rfl|some l=>simp [hev l (by simp)]
  have e2:hi.map τ.ev=hi.map σ.ev:=by cases hi with|none=>rfl|some l=>simp [hev l (by simp)]
  have e3:mx.map τ.ev=mx.map σ.ev:=by cases mx with|none=>rfl|some l=>simp [hev l (by simp)]
  rw [hev x (by simp),e1,e2,e3]; exact Y3k hh h
 case extract x i=>rw [hev x (by simp)]; exact h
 case nilCheck x=>rw [hev x (by simp)]; exact h
 case call c=>
  obtain ⟨callee,args,ts⟩:=c
  cases callee with
  | builtin b=>
   cases b with
   | len=>
    dsimp only at h ⊢
    split at h
    ·rename_i x t h1 h2
     have hx:x∈args:=Array.mem_of_getElem? h1
     rw [hev x (by simpa [Call.operands] using hx)]; exact h
    ·cases h
   | unsafeSliceData=>
    match args,h,hev with
    | ⟨[x]⟩,h,hev=>
     dsimp only at h ⊢
     rw [hev x (by simp [Call.operands])]; exact h
    | ⟨[]⟩,h,_=>cases h
    | ⟨_::_::_⟩,h,_=>cases h
   | max=>
    match args,h,hev with
    | ⟨[x,y]⟩,h,hev=>
     dsimp only at h ⊢
     rw [hev x (by simp [Call.operands]),hev y (by simp [Call.operands])]; exact h
    | ⟨[]⟩,h,_=>cases h
    | ⟨[_]⟩,h,_=>cases h
    | ⟨_::_::_::_⟩,h,_=>cases h
   | _=>cases h
  | value f=>cases h
  | invoke r m=>cases h
 all_goals cases h
theorem Zlh {told:Z18} (hm:More o σ τ) {r:Z5t×Prop} (h:Z49 P σ o told=some r):Z49 P τ o told=some r:=by
 unfold Z49 at*
 have hd:Z1x τ o=Z1x σ o:=by unfold Z1x; rw [hm.n]
 rw [hd]
 split at h
 ·cases h
 ·rename_i hdk
  split at h
  ·rename_i d p hp
   rw [Zmo hm hp]; exact h
  ·rename_i hn
   obtain ⟨dst,op,ty,pos,after,guard⟩:=o
   have hev:=hm.ev
   have hh:=hm.heap
   cases op <;> simp only [Op.operands] at hev
   case alloc e=>exact h
   case box e x=>simp only [Z1t] at h ⊢; rw [hev x (by simp)]; exact h
   case build t parts=>
    have e1:(parts.toList.map fun x=>(x.1,τ.ev x.2))=(parts.toList.map fun x=>(x.1,σ.ev x.2)):=List.map_congr_left fun x hx=>by
     rw [hev x.2 (by simp; exact ⟨x.1,by simpa using hx⟩)]
    simp only [Z1t,e1] at h ⊢; exact h
   case buildSlice t len parts=>
    have e1:(parts.toList.map fun x=>τ.ev x.2)=(parts.toList.map fun x=>σ.ev x.2):=List.map_congr_left fun x hx=>by
     rw [hev x.2 (by simp; exact ⟨x.1,by simpa using hx⟩)]
    simp only [Z1t] at h ⊢
    rw [e1]
    split at h
    ·rename_i e h1
     split at h
     ·rename_i ie h2
      split at h
      ·rename_i ds q h3; simp only [h2,Zkx hh h3]; exact h
      ·cases h
     ·cases h
    ·cases h
   case makeSlice t l c=>simp only [Z1t] at h ⊢; rw [hev l (by simp),hev c (by simp)]; exact h
   case convert src dst x=>
    have e1:=hev x (by simp)
    simp only [Z1t] at h hn ⊢
    rw [e1,hn]
    simp only [hn] at h ⊢
    split at h
    ·rename_i d q hb; rw [Zzb hh hb]; exact h
    ·cases h
   case call c=>
    obtain ⟨callee,args,ts⟩:=c
    cases callee with
    | value f=>
     simp only [Z1t] at h ⊢
     have e1:args.toList.map τ.ev=args.toList.map σ.ev:=List.map_congr_left fun x hx=>hev x (by simp [Call.operands]; exact .inr (by simpa using hx))
     rw [hev f (by simp [Call.operands]),e1]
     split at h
     ·rename_i g hg
      split at h
      ·rename_i d q hc; rw [Y3i hh hc]; exact h
      ·cases h
     ·cases h
    | builtin b=>cases h
    | invoke r m=>cases h
   all_goals cases h
def Z77:D→Bool
 | .lptr .. |.lsl .. |.agg _|.tup _=>false
 | _=>true
def Z67:D→Bool
 | .agg cs=>cs.all Z77
 | d=>Z77 d
def Z2y:D→Bool
 | .tup vs=>vs.all Z67
 | d=>Z67 d
theorem Y08 {d:D} (h:Z77 d=true) (b:Nat):d.killA b=d:=by cases d <;> first|rfl|cases h
theorem Zuz {d:D} (h:Z67 d=true) (b:Nat):d.killB b=d:=by
 cases d with
 | agg cs=>
  simp only [Z67,List.all_eq_true] at h
  simp only [D.killB,D.agg.injEq]
  exact (List.map_congr_left fun x hx=>Y08 (h x hx) b).trans (List.map_id _)
 | tup vs=>simp [Z67,Z77] at h
 | lptr b' i o=>simp [Z67,Z77] at h
 | lsl b' lo n=>simp [Z67,Z77] at h
 | _=>rfl
theorem Zt9 {d:D} (h:Z2y d=true) (b:Nat):d.kill b=d:=by
 cases d with
 | tup vs=>
  simp only [Z2y,List.all_eq_true] at h
  simp only [D.kill,D.tup.injEq]
  exact (List.map_congr_left fun x hx=>Zuz (h x hx) b).trans (List.map_id _)
 | agg cs=>exact Zuz (d:= .agg cs) h b
 | lptr b' i o=>simp [Z2y,Z67,Z77] at h
 | lsl b' lo n=>simp [Z2y,Z67,Z77] at h
 | _=>rfl
structure Fr (dst:Option Nat) (σ σ':S):Prop where
 n:σ'.n=σ.n
 tmps:∀ t,dst≠some t→Z2y (σ.tmps t)=true→σ'.tmps t=σ.tmps t
theorem Fr.refl (dst:Option Nat) (σ:S):Fr dst σ σ:=⟨rfl,fun _ _ _=>rfl⟩
theorem Fr.trans {dst:Option Nat} {a b c:S} (h:Fr dst a b) (k:Fr dst b c):Fr dst a c:=
 ⟨k.n.trans h.n,fun t ht hn=>by rw [k.tmps t ht (by rw [h.tmps t ht hn]; exact hn),h.tmps t ht hn]⟩
theorem Fr.put {dst:Option Nat} {a b:S} (h:Fr dst a b) (d:D):Fr dst a (b.put dst d):=h.trans ⟨by cases dst <;> rfl,fun t ht hn=>by
 cases dst with
 | none=>rfl
 | some u=>simp only [S.put]; rw [if_neg (fun e=>ht (by rw [e]))]⟩
theorem Fr.setB {dst:Option Nat} {a b:S} (h:Fr dst a b) (k:Nat) (x:Option Blk):Fr dst a (b.setB k x):=⟨h.n,h.tmps⟩
theorem Fr.drop {dst:Option Nat} {a b:S} (h:Fr dst a b) (k:Nat):Fr dst a (b.drop k):=h.trans ⟨rfl,fun t _ hn=>Zt9 hn k⟩
theorem Fr.freezeL {dst:Option Nat} {a b:S} (h:Fr dst a b) (l:List Nat):Fr dst a (b.freezeL l):=h.trans ⟨(Zc7 l b).2,fun t _ _=>by rw [(Zc7 l b).1]⟩
theorem Fr.dropL {dst:Option Nat} {a:S}:∀ (l:List Nat) {b:S},Fr dst a b→Fr dst a (b.dropL l)
 | [],_,h=>h
 | x::l,_,h=>Fr.dropL l (h.drop x)
theorem Fr.setL {dst:Option Nat} {a b:S} (h:Fr dst a b) (ρ:List Nat) (bs:List Blk):Fr dst a (b.setL ρ bs):=⟨h.n,h.tmps⟩
theorem Zm2:∀ (l:List (Nat×Nat)) {σ σ':S},σ.nilL l=some σ'→σ'.tmps=σ.tmps∧σ'.n=σ.n
 | [],σ,σ',hs=>by cases hs; exact ⟨rfl,rfl⟩
 | (b,sz)::l,σ,σ',hs=>by
  unfold S.nilL at hs
  split at hs
  ·obtain ⟨h2,h3⟩:=Zm2 l hs
   exact ⟨h2,h3⟩
  ·cases hs
theorem Zfs {o:Oper} {blk:Blk} {v:Nat→D} {p q:Prop} (h:Z4y τ o blk v p=some (σ',q)) (hf:Fr o.dst σ τ):Fr o.dst σ σ':=by
 obtain ⟨t,ht,hb,hlt,rfl,-⟩:=Z91 h
 rw [ht] at hf ⊢
 exact (hf.setB t _).put _
theorem Y1n {o:Oper} {told:Z18} {p:Prop} (h:Z2e P σ o told=some (σ',p)):Fr o.dst σ σ':=by
 have h0:=Fr.refl o.dst σ
 unfold Z2e at h
 split at h
 ·split at h
  ·cases h; exact h0.put _
  ·cases h
 ·unfold Z35 at h
  split at h
  ·split at h
   ·exact Zfs h h0
   ·cases h
  ·split at h
   ·split at h
    ·split at h
     ·cases h; exact h0.put _
     ·cases h
    ·exact Zfs h h0
   ·cases h
  ·split at h
   ·split at h
    ·split at h
     ·cases h; exact h0.put _
     ·cases h
    ·cases h
   ·cases h
  ·split at h
   ·split at h
    ·split at h
     ·split at h
      ·split at h
       ·split at h
        ·split at h
         ·split at h
          ·cases h; exact (h0.freezeL _).put _
          ·cases h; exact (h0.freezeL _).put _
         ·cases h
        ·exact Zfs h (h0.freezeL _)
       ·cases h
      ·cases h
     ·cases h
    ·cases h
   ·cases h
  ·split at h
   ·split at h
    ·split at h
     ·exact Zfs h h0
     ·cases h
    ·cases h
   ·cases h
  ·unfold Z9z at h
   repeat' split at h
   all_goals first|(cases h; done)|(cases h; exact h0.put _)
  ·unfold Z8z at h
   repeat' split at h
   all_goals first|(cases h; done)|(cases h; exact (h0.setB _ _).put _)
  ·split at h
   ·split at h
    ·unfold Zce at h
     repeat' split at h
     all_goals first|(cases h; done)|(cases h; exact h0.put _)|(cases h; exact (h0.freezeL _).put _)
    ·unfold Z9c at h
     split at h
     ·split at h
      ·rename_i σ0 hs0
       have h1:Fr o.dst σ σ0:=⟨(Zm2 _ hs0).2,fun t _ _=>by rw [(Zm2 _ hs0).1]⟩
       split at h
       ·split at h
        ·split at h
         ·cases h
          exact ((Fr.dropL _ (h1.freezeL _)).setL _ _).put _
         ·cases h
        ·cases h
       ·cases h
      ·cases h
     ·cases h
   ·cases h
  ·split at h
   ·unfold Z9q at h
    repeat' split at h
    all_goals first
     | (cases h; done)
     | (cases h; exact ((h0.drop _).setB _ _).put _)
     | exact Zfs h h0
   ·cases h
  ·split at h
   ·unfold unsD at h
    repeat' split at h
    all_goals first|(cases h; done)|(cases h; exact ((h0.drop _).setB _ _).put _)
   ·cases h
  ·cases h
section
variable {db:Nat} {d:D}
theorem Z3q {x:Option Nat} (hne:x≠some db) (σ:S) (u:D):(σ.put (some db) d).put x u=(σ.put x u).put (some db) d:=by
 cases x with
 | none=>rfl
 | some t=>
  simp only [S.put,S.mk.injEq,true_and,and_true]
  funext v
  by_cases h1:v=t <;> by_cases h2:v=db
  ·subst h1 h2; exact absurd rfl hne
  ·simp [h1,h2]; intro h; subst h1; exact absurd h h2
  ·simp [h1,h2]; intro h; subst h2; exact absurd h h1
  ·simp [h1,h2]
theorem Z89 (σ:S) (b:Nat) (k:Option Blk):(σ.put (some db) d).setB b k=(σ.setB b k).put (some db) d:=rfl
theorem Zoz (hn:Z2y d=true) (σ:S) (b:Nat):(σ.put (some db) d).drop b=(σ.drop b).put (some db) d:=by
 simp only [S.put,S.drop,S.mk.injEq,true_and,and_true]
 funext v
 split
 ·exact Zt9 hn b
 ·rfl
theorem Zap:∀ (l:List Nat) (σ:S),(σ.put (some db) d).freezeL l=(σ.freezeL l).put (some db) d
 | [],_=>rfl
 | b::l,σ=>Zap l (σ.freeze b)
theorem Zrq (hn:Z2y d=true):∀ (l:List Nat) (σ:S),(σ.put (some db) d).dropL l=(σ.dropL l).put (some db) d
 | [],_=>rfl
 | b::l,σ=>by
  show ((σ.put (some db) d).drop b).dropL l=_
  rw [Zoz hn,Zrq hn l]; rfl
theorem Zvo (σ:S) (ρ:List Nat) (bs:List Blk):(σ.put (some db) d).setL ρ bs=(σ.setL ρ bs).put (some db) d:=rfl
theorem Zw6:∀ (l:List (Nat×Nat)) (σ:S),(σ.put (some db) d).nilL l=(σ.nilL l).map (·.put (some db) d)
 | [],_=>rfl
 | (b,sz)::l,σ=>by
  show (match σ.heap b with
   | none=>((σ.put (some db) d).setB b (some { sz,rows:=[],frz:=0,pure:=true })).nilL l
   | some _=>none)=Option.map _ (match σ.heap b with
   | none=>(σ.setB b (some { sz,rows:=[],frz:=0,pure:=true })).nilL l
   | some _=>none)
  cases σ.heap b with
  | none=>exact Zw6 l (σ.setB b (some { sz,rows:=[],frz:=0,pure:=true }))
  | some _=>rfl
theorem Zxp (σ:S) (x:D):Z5j (σ.put (some db) d) x=Z5j σ x:=by cases x <;> rfl
theorem Zy8 (σ:S) (t t':TypeId) (x:D):Z8l P (σ.put (some db) d) t t' x=Z8l P σ t t' x:=by
 unfold Z8l
 split
 ·rfl
 ·rw [Zxp]
theorem Zx9 (σ:S) (ds:List D):Z2z (σ.put (some db) d) ds=Z2z σ ds:=Zpn (σ:=σ) (σ':=σ.put (some db) d) (fun _=>rfl) ds
theorem Zmz (kp:Bool) (σ:S) (ρ:List Nat) (ds:List D):Z4u kp (σ.put (some db) d) ρ ds=Z4u kp σ ρ ds:=Zli (σ:=σ) (σ':=σ.put (some db) d) (fun _=>rfl) ds
theorem Zm7 {ρ:List Nat} {mark:Option Nat→Nat→Option Nat} (σ:S):∀ (l:List Nat) (j:Nat),Z6n (σ.put (some db) d) ρ mark j l=Z6n σ ρ mark j l
 | [],_=>rfl
 | b::r,j=>by
  unfold Z6n
  rw [Zm7 σ r (j+1)]
  rfl
theorem Zlb {ρ:List Nat} (σ:S):∀ (l:List Nat) (bs:List Blk) (j:Nat),Z5a (σ.put (some db) d) ρ j l bs=Z5a σ ρ j l bs
 | [],_,_=>rfl
 | _::_,[],_=>rfl
 | b::r,k::l,j=>by
  unfold Z5a
  rw [Zlb σ r l (j+1)]
  rfl
theorem Zcv {o:Oper} (hne:o.dst≠some db) (σ:S) (blk:Blk) (v:Nat→D) (p:Prop):Z4y (σ.put (some db) d) o blk v p=(Z4y σ o blk v p).map fun r=>(r.1.put (some db) d,r.2):=by
 unfold Z4y
 cases hd:o.dst with
 | none=>rfl
 | some t=>
  rw [hd] at hne
  show (match σ.heap t with
   | some _=>none
   | none=>match Nat.blt t σ.n with
    | true=>some ((((σ.put (some db) d).setB t (some blk)).put (some t) (v t),p):S×Prop)
    | false=>none)=Option.map _ (match σ.heap t with
   | some _=>none
   | none=>match Nat.blt t σ.n with
    | true=>some (((σ.setB t (some blk)).put (some t) (v t),p):S×Prop)
    | false=>none)
  cases σ.heap t with
  | some _=>rfl
  | none=>
   cases Nat.blt t σ.n with
   | false=>rfl
   | true=>
    show some ((((σ.put (some db) d).setB t (some blk)).put (some t) (v t),p):S×Prop)=some _
    rw [Z89,Z3q hne]
theorem Z52 (o:Oper) (σ:S):Z1x (σ.put (some db) d) o=Z1x σ o:=by unfold Z1x; rfl
theorem Y4f {o : Oper} (hn:Z2y d=true) (hne:o.dst≠some db) {σ:S} (hev:∀ x∈o.op.operands,(σ.put (some db) d).ev x=σ.ev x) (told:Z18):
  Z2e P (σ.put (some db) d) o told=(Z2e P σ o told).map fun r=>(r.1.put (some db) d,r.2):=by
 have hp:Z1t P (σ.put (some db) d) o told.ans=Z1t P σ o told.ans:=by
  cases h1:Z1t P σ o told.ans with
  | some r=>exact Zmo (o:=o) (σ:=σ) (τ:=σ.put (some db) d) ⟨rfl,hev,fun _ _ h=>h⟩ h1
  | none=>
   cases h2:Z1t P (σ.put (some db) d) o told.ans with
   | none=>rfl
   | some r=>
    have:=Zmo (o:=o) (σ:=σ.put (some db) d) (τ:=σ) ⟨rfl,fun x hx=>(hev x hx).symm,fun _ _ h=>h⟩ h2
    rw [h1] at this; cases this
 unfold Z2e
 rw [hp,Z52]
 cases hpo:Z1t P σ o told.ans with
 | some r=>
  dsimp only
  cases Z1x σ o with
  | true=>simp only [Option.map_some,Z3q hne]
  | false=>rfl
 | none=>
  dsimp only
  clear hp hpo
  obtain ⟨dst,op,ty,pos,after,guard⟩:=o
  unfold Z35
  cases op <;> simp only [Op.operands] at hev <;> dsimp only at hne ⊢
  case alloc e=>
   cases Z5x P e with
   | none=>rfl
   | some cs=>exact Zcv hne σ _ _ _
  case box e x=>
   rw [hev x (by simp)]
   cases cellsOf (σ.ev x) with
   | none=>rfl
   | some cs=>
    dsimp only
    cases told.ro with
    | true=>
     dsimp only
     rw [Z52]
     cases cs.all D.dat <;> cases Z1x σ _ <;> first|rfl|simp only [Option.map_some,Z3q hne]
    | false=>exact Zcv hne σ _ _ _
  case build t parts=>
   have e1:(parts.toList.map fun x=>(x.1,(σ.put (some db) d).ev x.2))=(parts.toList.map fun x=>(x.1,σ.ev x.2)):=List.map_congr_left fun x hx=>by
    rw [hev x.2 (by simp; exact ⟨x.1,by simpa using hx⟩)]
   rw [e1,Z52]
   repeat' split
   all_goals first|rfl|simp only [Option.map_some,Z3q hne]|(exfalso; simp_all; done)|simp_all
  case buildSlice t len parts=>
   have e1:(parts.toList.map fun x=>(σ.put (some db) d).ev x.2)=(parts.toList.map fun x=>σ.ev x.2):=List.map_congr_left fun x hx=>by
    rw [hev x.2 (by simp; exact ⟨x.1,by simpa using hx⟩)]
   rw [e1,Zx9]
   cases Z5i P t with
   | none=>rfl
   | some e=>
    dsimp only
    cases P.info? e with
    | none=>rfl
    | some ie =>
     dsimp only
     cases Z2z σ (parts.toList.map fun x=>σ.ev x.2) with
     | none=>rfl
     | some r=>
      obtain ⟨ds,l,q⟩:=r
      dsimp only
      cases Z7w (fun i=>some (i*ie.size,ie.size)) (List.replicate (len*ie.size) .undef) ((parts.toList.map (·.1)).zip ds) with
      | none=>rfl
      | some cs=>
       dsimp only
       cases cs.all D.dat&&Nat.ble (len*ie.size) 16777216&&(Z5x P e).isSome with
       | false=>rfl
       | true=>
        dsimp only
        cases told.ro with
        | true=>
         dsimp only
         rw [Z52,Zap]
         cases Z1x σ _ <;> cases told.rows <;> first|rfl|simp only [Option.map_some,Z3q hne]
        | false=>dsimp only; rw [Zap]; exact Zcv hne _ _ _ _
  case makeSlice t l c=>
   rw [hev l (by simp),hev c (by simp)]
   generalize Z5i P t=X
   generalize σ.ev l=L
   generalize σ.ev c=C
   cases X <;> cases L <;> cases C <;> try rfl
   rename_i e _ l _ c
   dsimp only
   cases P.info? e with
   | none=>rfl
   | some ie=>
    cases Zd5 P e with
    | none=>rfl
    | some z=>
     dsimp only
     cases z.length==ie.size&&z.all D.dat with
     | false=>rfl
     | true=>exact Zcv hne σ _ _ _
  case convert src dst' x=>
   rw [hev x (by simp)]
   unfold Z9z
   have hcp:∀ b,Zf4 P (σ.put (some db) d) src dst' b=Zf4 P σ src dst' b:=fun _=>rfl
   have hsb:∀ x,Za1 P (σ.put (some db) d) src dst' x=Za1 P σ src dst' x:=fun _=>rfl
   simp only [Zxp,Z52,hcp,hsb]
   repeat' split
   all_goals first|rfl|simp only [Option.map_some,Z3q hne]|(exfalso; simp_all; done)|simp_all
  case store t x v=>
   rw [hev x (by simp),hev v (by simp)]
   unfold Z8z
   cases σ.ev x with
   | lptr b i off=>
    dsimp only
    rw [show (σ.put (some db) d).heap b=σ.heap b from rfl,Z52]
    cases σ.heap b with
    | none=>rfl
    | some blk=>
     cases cellsOf (σ.ev v) with
     | none=>rfl
     | some cs=>
      cases Z4c P t with
      | none=>rfl
      | some sz=>
       dsimp only
       cases cs.length==sz&&(!blk.pure||cs.all D.dat)&&Z1x σ _ with
       | false=>rfl
       | true=>
        dsimp only
        cases told.row with
        | some r=>dsimp only; rw [Z89,Z3q hne]; rfl
        | none=>
         dsimp only
         cases blk.rows[i]? with
         | none=>rfl
         | some r=>dsimp only; rw [Z89,Z3q hne]; rfl
   | _=>rfl
  case call c =>
   obtain ⟨callee,args,ts⟩:=c
   cases callee with
   | value f =>
    have e1:args.toList.map (σ.put (some db) d).ev=args.toList.map σ.ev:=List.map_congr_left fun x hx=>hev x (by simp [Call.operands]; exact .inr (by simpa using hx))
    dsimp only
    rw [hev f (by simp [Call.operands]),e1]
    cases σ.ev f with
    | fn g=>
     dsimp only
     cases told.io with
     | none=>
      dsimp only
      unfold Zce
      rw [Zx9,Z52]
      cases told.ans with
      | val r=>
       dsimp only
       cases Z2z σ (args.toList.map σ.ev) with
       | none=>rfl
       | some q=>
        obtain ⟨ds,l,p⟩:=q
        dsimp only
        cases Z1x σ _ with
        | false=>rfl
        | true=>
         dsimp only
         cases r.scalar with
         | true=>dsimp only; rw [Z3q hne]; rfl
         | false=>dsimp only; rw [Zap,Z3q hne]; rfl
      | go=>
       dsimp only
       generalize args.toList.map σ.ev=A
       split
       ·simp only [Option.map_some,Z3q hne]
       ·rfl
      | _=>rfl
     | some io =>
      dsimp only
      unfold Z9c
      rw [Zw6,Z52]
      cases told.ans with
      | val r =>
       dsimp only
       cases hnil:σ.nilL io.fresh with
       | none=>rfl
       | some σ0=>
        simp only [Option.map_some]
        rw [Zmz]
        cases Z4u io.kp σ0 io.names (Z87 io.nils 0 (args.toList.map σ.ev)) with
        | none=>rfl
        | some q=>
         obtain ⟨ds,l,p⟩:=q
         dsimp only
         rw [Zap,Zm7]
         cases Z6n (σ0.freezeL l) io.names (fun _ j=>Zd4 io.bs j) 0 io.names with
         | none=>rfl
         | some bs=>
          dsimp only
          cases Z1x σ _&&Z6m io.names&&Z8s io.bs io.bs' with
          | false=>rfl
          | true=>dsimp only; rw [Zlb,Zrq hn,Zvo,Z3q hne]; rfl
      | _=>rfl
    | _=>rfl
   | builtin b =>
    cases b with
    | append=>
     obtain ⟨args⟩:=args
     obtain ⟨ts⟩:=ts
     match args,ts,hev with
     | [s, x], [t, t'],hev=>
      dsimp only
      rw [hev s (by simp [Call.operands]),hev x (by simp [Call.operands])]
      unfold Z9q
      rw [Zy8]
      cases Z5i P t with
      | none=>rfl
      | some e=>
       dsimp only
       cases P.info? e with
       | none=>rfl
       | some ie =>
        cases Z8l P σ t t' (σ.ev x) with
        | none=>rfl
        | some nq =>
         obtain ⟨news,q⟩:=nq
         dsimp only
         cases ie.zero with
         | none=>rfl
         | some z=>
          dsimp only
          cases z.cells.size==ie.size&&Nat.blt 0 ie.size with
          | false=>rfl
          | true=>
           dsimp only
           split
           ·rename_i b n hs
            rw [show (σ.put (some db) d).heap b=σ.heap b from rfl,Z52]
            cases σ.heap b with
            | none=>rfl
            | some blk=>
             dsimp only
             cases blk.pure&&blk.sz==ie.size&&Z1x σ _ with
             | false=>rfl
             | true=>dsimp only; rw [Zoz hn,Z89,Z3q hne]; rfl
           ·exact Zcv hne σ _ _ _
           ·rfl
     | [],_,_=>rfl
     | [_],_,_=>rfl
     | _::_::_::_,_,_=>rfl
     | [_,_],[],_=>rfl
     | [_,_],[_],_=>rfl
     | [_,_],_::_::_::_,_=>rfl
    | unsafeString=>
     obtain ⟨args⟩:=args
     obtain ⟨ts⟩:=ts
     match args,ts,hev with
     | [x, n],[pt,it],hev=>
      dsimp only
      rw [hev x (by simp [Call.operands]),hev n (by simp [Call.operands])]
      unfold unsD
      simp only [Z52]
      split
      ·rename_i b m hx hm
       rw [show (σ.put (some db) d).heap b=σ.heap b from rfl]
       split
       ·split
        ·rw [Zoz hn,Z89,Z3q hne]; rfl
        ·rfl
       ·rfl
      ·rfl
     | [],_,_=>rfl
     | [_],_,_=>rfl
     | _::_::_::_,_,_=>rfl
     | [_,_],[],_=>rfl
     | [_,_],[_],_=>rfl
     | [_,_],_::_::_::_,_=>rfl
    | _=>rfl
   | invoke r m=>rfl
  all_goals rfl
end
section
variable {R:Nat→Bool}
def Zc9 (R:Nat→Bool):D→Bool
 | .lptr b _ _|.lsl b _ _=>R b
 | .agg _|.tup _=>false
 | _=>true
def Zae (R:Nat→Bool):D→Bool
 | .agg cs=>cs.all (Zc9 R)
 | d=>Zc9 R d
def Z3d (R:Nat→Bool):D→Bool
 | .tup vs=>vs.all (Zae R)
 | d=>Zae R d
def S.only (R:Nat→Bool) (σ:S):S:={ σ with heap:=fun b=>match R b with
 | true=>σ.heap b
 | false=>none }
theorem Zbs {b:Nat} (h:R b=true):(σ.only R).heap b=σ.heap b:=by simp only [S.only,h]
theorem Y3d {x:D} (hx:Z3d R x=true) (ans:Ans):Z7a σ x ans=Z7a (σ.only R) x ans:=by
 cases x with
 | lptr b i o=>simp only [Z7a,Zbs (σ:=σ) (show R b=true from hx)]
 | _=>rfl
theorem load_on {t:TypeId} {x:D} (hx:Z3d R x=true) (ans:Ans):Z5o P σ t x ans=Z5o P (σ.only R) t x ans:=by
 unfold Z5o; rw [Y3d hx]
theorem Zz7 {t:TypeId} {x i:D} (hx:Z3d R x=true) (ans:Ans):Z80 P σ t x i ans=Z80 P (σ.only R) t x i ans:=by
 unfold Z80
 split
 ·split
  ·split
   ·split
    ·rfl
    ·rename_i b lo n; rw [Zbs (σ:=σ) (show R b=true from hx)]
    ·rfl
   ·rfl
  ·rfl
  ·rfl
 ·rfl
theorem Y3x {t:TypeId} {x:D} {lo hi mx:Option D} (hx:Z3d R x=true) (ans:Ans):Z84 P σ t x lo hi mx ans=Z84 P (σ.only R) t x lo hi mx ans:=by
 unfold Z84
 split
 ·rfl
 ·rfl
 ·rename_i e b l0 n _; rw [Zbs (σ:=σ) (show R b=true from hx)]
 ·rfl
theorem Zp8 {d:D} (hd:Zc9 R d=true):Z48 σ d=Z48 (σ.only R) d:=by
 cases d with
 | lptr b i o=>simp only [Z48,Zbs (σ:=σ) (show R b=true from hd)]
 | lsl b lo n=>simp only [Z48,Zbs (σ:=σ) (show R b=true from hd)]
 | _=>rfl
theorem Zq2:∀ {ds:List D},ds.all (Zc9 R)=true→Z5h σ ds=Z5h (σ.only R) ds
 | [],_=>rfl
 | d::r,h=>by
  simp only [List.all_cons,Bool.and_eq_true] at h
  unfold Z5h
  rw [Zp8 h.1,Zq2 h.2]
theorem Y2g {d:D} (hd:Z3d R d=true):Z5k σ d=Z5k (σ.only R) d:=by
 cases d with
 | agg cs=>
  unfold Z5k
  dsimp only
  rw [Zq2 (by simpa [Z3d,Zae] using hd)]
 | lptr b i o=>exact Zp8 (d:= .lptr b i o) hd
 | lsl b lo n=>exact Zp8 (d:= .lsl b lo n) hd
 | _=>rfl
theorem Zlp:∀ {ds:List D},(∀ d∈ds,Z3d R d=true)→Z2z σ ds=Z2z (σ.only R) ds
 | [],_=>rfl
 | d::r,h=>by
  unfold Z2z
  rw [Y2g (h d (by simp)),Zlp fun x hx=>h x (by simp [hx])]
theorem rows_on {x:D} (hx:Z3d R x=true):Z5j σ x=Z5j (σ.only R) x:=by
 cases x with
 | lsl b lo n=>simp only [Z5j,Zbs (σ:=σ) (show R b=true from hx)]
 | _=>rfl
theorem Zgs (R:Nat→Bool) (σ:S):(σ.only R).ev=σ.ev:=funext fun x=>by cases x <;> rfl
theorem pure_on (hn:∀ x∈o.op.operands,Z3d R (σ.ev x)=true) (ans:Ans):Z1t P σ o ans=Z1t P (σ.only R) o ans:=by
 obtain ⟨dst,op,ty,pos,after,guard⟩:=o
 unfold Z1t
 rw [Zgs]
 cases op <;> simp only [Op.operands] at hn <;> dsimp only
 case load t x=>rw [load_on (hn x (by simp))]
 case indexAddr t x i=>rw [Zz7 (hn x (by simp))]
 case slice t x lo hi mx=>rw [Y3x (hn x (by simp))]
 case call c=>
  obtain ⟨callee,args,ts⟩:=c
  cases callee with
  | builtin b=>cases b <;> first|rfl|(obtain ⟨l⟩:=args; rcases l with _|⟨x,_|⟨y,_|⟨z,l⟩⟩⟩ <;> rfl)
  | value f=>rfl
  | invoke r m=>rfl
theorem Zwc (hn:∀ x∈o.op.operands,Z3d R (σ.ev x)=true) (told:Z18):Z49 P σ o told=Z49 P (σ.only R) o told:=by
 unfold Z49
 rw [← pure_on hn told.ans,show Z1x (σ.only R) o=Z1x σ o from rfl,Zgs]
 cases Z1x σ o with
 | false=>rfl
 | true=>
  dsimp only
  cases Z1t P σ o told.ans with
  | some r=>rfl
  | none=>
   dsimp only
   obtain ⟨dst,op,ty,pos,after,guard⟩:=o
   cases op <;> simp only [Op.operands] at hn <;> dsimp only
   case buildSlice t len parts=>
    rw [← Zlp (σ:=σ) (ds:=parts.toList.map fun x=>σ.ev x.2) fun d hd=>by
     obtain ⟨x,hx,rfl⟩:=List.mem_map.1 hd
     exact hn x.2 (by simp; exact ⟨x.1,by simpa using hx⟩)]
   case convert src dst' x=>
    unfold Zao
    rw [← rows_on (hn x (by simp))]
   case call c=>
    obtain ⟨callee,args,ts⟩:=c
    cases callee with
    | value f=>
     dsimp only
     unfold Zb8
     rw [← Zlp (σ:=σ) (ds:=args.toList.map σ.ev) fun d hd=>by
      obtain ⟨x,hx,rfl⟩:=List.mem_map.1 hd
      exact hn x (by simp [Call.operands]; exact .inr (by simpa using hx))]
    | _=>rfl
theorem Y2l (hn:∀ x∈o.op.operands,Z3d R (σ.ev x)=true) {τ:S} (h1:τ.n=σ.n) (h2:∀ x∈o.op.operands,τ.ev x=σ.ev x) (h3:∀ b,R b=true→τ.heap b=σ.heap b) (told:Z18) {r:Z5t×Prop} (h:Z49 P σ o told=some r):Z49 P τ o told=some r:=by
 rw [Zwc hn] at h
 rw [Zwc fun x hx=>by rw [h2 x hx]; exact hn x hx]
 refine Zlh (σ:=σ.only R) (τ:=τ.only R) ⟨h1,fun x hx=>by rw [Zgs,Zgs]; exact h2 x hx,fun b k hb=>?_⟩ h
 simp only [S.only] at hb ⊢
 split at hb
 ·rename_i hR; rw [h3 b hR]; exact hb
 ·cases hb
def Z65 (σ:S) (o:Oper) (told:Z18) (R:Nat→Bool):Bool:=
 match o.op with
 | .store _ x _=>match σ.ev x with
  | .lptr b _ _=>!R b
  | _=>false
 | .call { callee:= .value f,args,.. }=>
  match σ.ev f,told.io with
  | .fn _,some io=>io.fresh.isEmpty&&(Z8n 0 io.names io.bs').isEmpty&&io.names.all (fun b=>!R b)&&
   (match Z4u io.kp σ io.names (Z87 io.nils 0 (args.toList.map σ.ev)) with
   | some (_,[],_)=>true
   | _=>false)
  | _,_=>false
 | _=>false
theorem Zra {db:Nat} {d:D} {told:Z18} (hev:∀ x∈o.op.operands,(σ.put (some db) d).ev x=σ.ev x):Z65 (σ.put (some db) d) o told R=Z65 σ o told R:=by
 obtain ⟨dst,op,ty,pos,after,guard⟩:=o
 unfold Z65
 cases op <;> simp only [Op.operands] at hev <;> dsimp only
 case store t x v=>rw [hev x (by simp)]
 case call c=>
  obtain ⟨callee,args,ts⟩:=c
  cases callee with
  | value f=>
   have e1:args.toList.map (σ.put (some db) d).ev=args.toList.map σ.ev:=List.map_congr_left fun x hx=>hev x (by simp [Call.operands]; exact .inr (by simpa using hx))
   dsimp only
   rw [hev f (by simp [Call.operands]),e1]
   cases σ.ev f <;> try rfl
   cases told.io with
   | none=>rfl
   | some io=>dsimp only; rw [Zmz]
  | _=>rfl
theorem Y0m {told : Z18} (hx:Z65 σ o told R=true) {p:Prop} (h:Z2e P σ o told=some (σ',p)):
  σ'.n=σ.n∧(∀ t,o.dst≠some t→σ'.tmps t=σ.tmps t)∧(∀ b,R b=true→σ'.heap b=σ.heap b):=by
 have hput:∀ (τ:S) (u:D),(τ.put o.dst u).n=τ.n∧(∀ t,o.dst≠some t→(τ.put o.dst u).tmps t=τ.tmps t)∧(τ.put o.dst u).heap=τ.heap:=fun τ u=>by
  cases hd:o.dst with
  | none=>exact ⟨rfl,fun _ _=>rfl,rfl⟩
  | some v=>exact ⟨rfl,fun t ht=>by simp only [S.put]; rw [if_neg (fun e=>ht (by rw [e]))],rfl⟩
 obtain ⟨dst,op,ty,pos,after,guard⟩:=o
 unfold Z65 at hx
 unfold Z2e at h
 cases op <;> dsimp only at hx <;> first|(cases hx; done)|skip
 case store t x v=>
  have hp:Z1t P σ ⟨dst,.store t x v,ty,pos,after,guard⟩ told.ans=none:=rfl
  rw [hp] at h
  dsimp only at h
  unfold Z35 at h
  dsimp only at h
  unfold Z8z at h
  cases hxe:σ.ev x with
  | lptr b i off=>
   rw [hxe] at h hx
   dsimp only at h hx
   have hR:R b=false:=by simpa using hx
   have fin:∀ (blk:Blk),(({ σ with heap:=(σ.setB b (some blk)).heap }:S).put dst .undef)=σ'→σ'.n=σ.n∧(∀ t,dst≠some t→σ'.tmps t=σ.tmps t)∧(∀ b,R b=true→σ'.heap b=σ.heap b):=fun blk e=>by
    subst e
    obtain ⟨k1,k2,k3⟩:=hput { σ with heap:=(σ.setB b (some blk)).heap } .undef
    refine ⟨k1,fun t ht=>k2 t ht,fun c hc=>?_⟩
    rw [k3]
    simp only [S.setB]
    rw [if_neg (fun e=>by rw [e,hR] at hc; cases hc)]
   repeat' split at h
   all_goals first|(cases h; done)|(cases h; exact fin _ rfl)
  | _=>rw [hxe] at hx; cases hx
 case call c =>
  obtain ⟨callee,args,ts⟩:=c
  cases callee with
  | value f =>
   dsimp only at hx
   have hp:Z1t P σ ⟨dst,.call ⟨.value f,args,ts⟩,ty,pos,after,guard⟩ told.ans=none:=rfl
   rw [hp] at h
   dsimp only at h
   unfold Z35 at h
   dsimp only at h
   cases hf:σ.ev f with
   | fn g=>
    rw [hf] at h hx
    cases hio:told.io with
    | none=>rw [hio] at hx; cases hx
    | some io =>
     rw [hio] at h hx
     dsimp only at h hx
     simp only [Bool.and_eq_true,List.isEmpty_iff,List.all_eq_true,Bool.not_eq_true'] at hx
     obtain ⟨⟨⟨h1,h2⟩,h3⟩,h4⟩:=hx
     unfold Z9c at h
     split at h
     ·rw [h1] at h
      simp only [S.nilL] at h
      split at h
      ·rename_i ds l q hd
       rw [hd] at h4
       cases l with
       | cons _ _=>cases h4
       | nil =>
        split at h
        ·split at h
         ·cases h
          rw [h2]
          obtain ⟨k1,k2,k3⟩:=hput (((σ.freezeL []).dropL []).setL io.names (Z5a (σ.freezeL []) io.names 0 io.names io.bs')) (outD io.names _)
          refine ⟨k1,fun t ht=>k2 t ht,fun c hc=>?_⟩
          rw [k3]
          simp only [S.setL]
          have:Z2v c io.names=none:=by
           cases hi:Z2v c io.names with
           | none=>rfl
           | some k=>
            have:=h3 c (List.mem_of_getElem? (Z9e hi))
            rw [this] at hc; cases hc
          rw [this]; rfl
         ·cases h
        ·cases h
      ·cases h
     ·cases h
   | _=>rw [hf] at hx; cases hx
  | _=>cases hx
theorem Zzd {db : Nat} {d:D} {told:Z18} (hx:Z65 σ o told R=true) (hne:o.dst≠some db) (hev:∀ x∈o.op.operands,(σ.put (some db) d).ev x=σ.ev x):
  Z2e P (σ.put (some db) d) o told=(Z2e P σ o told).map fun r=>(r.1.put (some db) d,r.2):=by
 obtain ⟨dst,op,ty,pos,after,guard⟩:=o
 unfold Z65 at hx
 unfold Z2e
 cases op <;> dsimp only at hx <;> first|(cases hx; done)|skip
 case store t x v=>
  have hp:∀ τ:S,Z1t P τ ⟨dst,.store t x v,ty,pos,after,guard⟩ told.ans=none:=fun _=>rfl
  rw [hp,hp]
  simp only [Op.operands] at hev
  dsimp only at hne ⊢
  unfold Z35
  dsimp only
  rw [hev x (by simp),hev v (by simp)]
  unfold Z8z
  cases σ.ev x with
  | lptr b i off=>
   dsimp only
   rw [show (σ.put (some db) d).heap b=σ.heap b from rfl,Z52]
   cases σ.heap b with
   | none=>rfl
   | some blk=>
    cases cellsOf (σ.ev v) with
    | none=>rfl
    | some cs=>
     cases Z4c P t with
     | none=>rfl
     | some sz=>
      dsimp only
      cases cs.length==sz&&(!blk.pure||cs.all D.dat)&&Z1x σ _ with
      | false=>rfl
      | true=>
       dsimp only
       cases told.row with
       | some r=>dsimp only; rw [Z89,Z3q hne]; rfl
       | none=>
        dsimp only
        cases blk.rows[i]? with
        | none=>rfl
        | some r=>dsimp only; rw [Z89,Z3q hne]; rfl
  | _=>rfl
 case call c =>
  obtain ⟨callee,args,ts⟩:=c
  cases callee with
  | value f =>
   dsimp only at hx
   have hp:∀ τ:S,Z1t P τ ⟨dst,.call ⟨.value f,args,ts⟩,ty,pos,after,guard⟩ told.ans=none:=fun _=>rfl
   rw [hp,hp]
   simp only [Op.operands] at hev
   have e1:args.toList.map (σ.put (some db) d).ev=args.toList.map σ.ev:=List.map_congr_left fun x hx=>hev x (by simp [Call.operands]; exact .inr (by simpa using hx))
   dsimp only at hne ⊢
   unfold Z35
   dsimp only
   rw [hev f (by simp [Call.operands]),e1]
   cases hf:σ.ev f with
   | fn g=>
    rw [hf] at hx
    cases hio:told.io with
    | none=>rw [hio] at hx; cases hx
    | some io=>
     rw [hio] at hx
     dsimp only at hx ⊢
     simp only [Bool.and_eq_true,List.isEmpty_iff,List.all_eq_true,Bool.not_eq_true'] at hx
     obtain ⟨⟨⟨h1,h2⟩,h3⟩,h4⟩:=hx
     unfold Z9c
     rw [h1,h2,Z52]
     cases told.ans with
     | val r=>
      simp only [S.nilL,S.dropL]
      rw [Zmz]
      cases Z4u io.kp σ io.names (Z87 io.nils 0 (args.toList.map σ.ev)) with
      | none=>rfl
      | some q=>
       obtain ⟨ds,l,p⟩:=q
       dsimp only
       rw [Zap,Zm7]
       cases Z6n (σ.freezeL l) io.names (fun _ j=>Zd4 io.bs j) 0 io.names with
       | none=>rfl
       | some bs=>
        dsimp only
        cases Z1x σ _&&Z6m io.names&&Z8s io.bs io.bs' with
        | false=>rfl
        | true=>dsimp only; rw [Zlb,Zvo,Z3q hne]; rfl
     | _=>rfl
   | _=>rw [hf] at hx; cases hx
  | _=>cases hx
end
theorem Y3j (v:Value):Z77 (Z94 v)=true:=by
 unfold Z94; split <;> rfl
theorem Zz4 (v:Value):Z2y (Zd7 v)=true:=by
 unfold Zd7
 split
 ·split
  ·simp only [Z2y,Z67,List.all_eq_true]
   intro x hx
   obtain ⟨u,-,rfl⟩:=List.mem_map.1 hx
   exact Y3j u
  ·rfl
 ·rename_i v h
  unfold Z94; split <;> rfl
def Zcr (o:Oper):Bool:=
 match o.op with
 | .move _|.assign _|.pick .. |.binOp .. |.unOp .. |.field .. |.fieldAddr .. |.extract .. |.nilCheck _|.index .. |.alloc _|.box .. |.build .. =>true
 | _=>false
def isNew (o:Oper):Bool:=
 match o.op with
 | .alloc _|.box .. |.buildSlice .. |.makeSlice .. =>true
 | _=>false
theorem Y2k (hf:Zcr o=true) (told:Z18) (σ:S) (hp:Nat→Option Blk):Z49 P { σ with heap:=hp } o told=Z49 P σ o told:=by
 obtain ⟨dst,op,ty,pos,after,guard⟩:=o
 obtain ⟨n,tm,h0⟩:=σ
 cases op <;> first|(cases hf; done)|skip
 all_goals rfl
theorem Zyi (hn:isNew o=false) {told:Z18} {y:Z5t} {p:Prop} (h:Z49 P σ o told=some (y,p)):∃ d,y=.val d:=by
 unfold Z49 at h
 split at h
 ·cases h
 ·rename_i hdk
  split at h
  ·cases h; exact ⟨_,rfl⟩
  ·rename_i hpn
   clear hpn hdk
   obtain ⟨dst,op,ty,pos,after,guard⟩:=o
   cases op <;> first|(cases hn; done)|skip
   case build t parts=>
    dsimp only at h
    split at h
    ·split at h
     ·cases h; exact ⟨_,rfl⟩
     ·cases h
    ·cases h
   case convert src dst x=>
    dsimp only at h
    split at h
    ·cases h; exact ⟨_,rfl⟩
    ·cases h
   case call c=>
    obtain ⟨callee,args,ts⟩:=c
    cases callee <;> first
     | (cases h; done)
     | (dsimp only at h
        split at h
        ·split at h
         ·cases h; exact ⟨_,rfl⟩
         ·cases h
        ·cases h)
   all_goals (cases h)
def Z4i (P:Program) (ops:Array Oper) (told:List (Nat×Z18)) (gs:List (Nat×Bool)) (i:Nat) (o:Oper) (σ:S):Option (Z5t×Prop):=
 match Z4r ops σ o (gAt gs i) with
 | none=>none
 | some (true,g)=>
  match Z49 P σ o (Z31 told i) with
  | some (y,p)=>some (y,g∧p)
  | none=>none
 | some (false,g)=>match Z1x σ o with
  | true=>some (.val (.tup []),g)
  | false=>none
def quiet (xs:List Nat):Nat→Bool:=fun b=>Z1j (b+10000) xs
def away (xs:List Nat):Nat→Bool:=fun b=>!Z1j (b+20000) xs
def mvOk (xs:List Nat) (o:Oper) (σ:S):Bool:=
 match o.op,o.guard with
 | .move (.tmp t),none=>Z3d (away xs) (σ.tmps t)
 | _,_=>false
def Z5g (xs:List Nat) (o:Oper) (σ:S):Bool:=
 match o.op,o.guard with
 | .call { callee:= .builtin .append,args:=⟨[s,_]⟩,argTypes:=⟨[_,_]⟩ },none=>(match σ.ev s with
  | .lsl b 0 _=>Z1j (b+20000) xs
  | _=>false)
 | _,_=>false
def Z81 (ops:Array Oper) (xs:List Nat) (i:Nat) (o:Oper) (σ:S):Bool:=
 (!Z1j (i+5000) xs||mvOk xs o σ)&&
 (!Z1j (i+2000) xs||(o.looksAt ops).all (fun t=>Z2y (σ.tmps t)))&&
 (!Z1j (i+3000) xs||(!isNew o&&(Zcr o||(o.looksAt ops).all (fun t=>Z3d (quiet xs) (σ.tmps t)))))
def Z2j (P:Program) (ops:Array Oper) (told:List (Nat×Z18)) (gs:List (Nat×Bool)) (xs:List Nat) (i:Nat) (σ:S):Option (S×Prop):=
 match Z1j i xs with
 | true=>
  match Z1j (i+4000) xs with
  | true=>
   match ops[i]? with
   | some o=>match Z65 σ o (Z31 told i) (quiet xs) with
    | true=>Z30 P ops told gs i σ
    | false=>none
   | none=>none
  | false=>
   match Z1j (i+6000) xs with
   | true=>
    match ops[i]? with
    | some o=>match Z5g xs o σ with
     | true=>Z30 P ops told gs i σ
     | false=>none
    | none=>none
   | false=>Z30 P ops told gs i σ
 | false =>
  match ops[i]? with
  | none=>none
  | some o=>
   match Z4i P ops told gs i o σ,Z81 ops xs i o σ with
   | some (y,p),true=>
    match Z1j (i+1000) xs with
    | false=>
     match Z23 σ o.dst y with
     | some σ'=>some (σ',p)
     | none=>none
    | true=>
     match y with
     | .val d=>match Z2y d&&(o.looksAt ops).all (fun t=>Z2y (σ.tmps t)) with
      | true=>some (σ.put o.dst d,p)
      | false=>none
     | .blk _ _=>none
   | _,_=>none
variable {ops:Array Oper} {told:List (Nat×Z18)} {gs:List (Nat×Bool)} {xs:List Nat}
theorem Za2 {i:Nat} {p:Prop} (hx:Z1j i xs=false) (h:Z2j P ops told gs xs i σ=some (σ',p)):
  ∃ o y,ops[i]?=some o∧Z4i P ops told gs i o σ=some (y,p)∧Z23 σ o.dst y=some σ'∧
   (Z1j (i+1000) xs=true→∃ d,y=.val d∧Z2y d=true∧∀ t∈o.looksAt ops,Z2y (σ.tmps t)=true)∧Z81 ops xs i o σ=true:=by
 unfold Z2j at h
 rw [hx] at h
 dsimp only at h
 split at h
 ·cases h
 ·rename_i o ho
  split at h
  ·rename_i y q hv hlo
   split at h
   ·rename_i hm
    split at h
    ·rename_i σ1 hy
     cases h
     exact ⟨o,y,ho,hv,hy,(fun h=>by rw [hm] at h; cases h),hlo⟩
    ·cases h
   ·rename_i hm
    split at h
    ·rename_i d
     split at h
     ·rename_i hc
      cases h
      rw [Bool.and_eq_true,List.all_eq_true] at hc
      exact ⟨o,_,ho,hv,rfl,fun _=>⟨d,rfl,hc.1,hc.2⟩,hlo⟩
     ·cases h
    ·cases h
  ·cases h
theorem Zbl {i:Nat} {p:Prop} {o:Oper} {y:Z5t} (hx:Z1j i xs=false) (ho:ops[i]?=some o) (hv:Z4i P ops told gs i o σ=some (y,p)) (hy:Z23 σ o.dst y=some σ')
  (hm:Z1j (i+1000) xs=true→∃ d,y=.val d∧Z2y d=true∧∀ t∈o.looksAt ops,Z2y (σ.tmps t)=true) (hlo:Z81 ops xs i o σ=true):Z2j P ops told gs xs i σ=some (σ',p):=by
 unfold Z2j
 rw [hx,ho]
 dsimp only
 rw [hv,hlo]
 dsimp only
 cases hm':Z1j (i+1000) xs with
 | false=>dsimp only; rw [hy]
 | true=>
  obtain ⟨d,rfl,h1,h2⟩:=hm hm'
  dsimp only
  rw [show (Z2y d&&(o.looksAt ops).all fun t=>Z2y (σ.tmps t))=true by rw [Bool.and_eq_true,List.all_eq_true]; exact ⟨h1,h2⟩]
  simpa only [Z23,Option.some.injEq,Prod.mk.injEq,and_true] using hy
theorem Zwh {o:Oper} {t:Nat} (h:o.op=.move (.tmp t)):t∈o.looksAt ops:=by
 unfold Oper.looksAt
 rw [h]
 simp [Op.operands]
theorem Zaz {i:Nat} {o:Oper} {τ:S} (h:∀ t∈o.looksAt ops,τ.tmps t=σ.tmps t):Z81 ops xs i o τ=Z81 ops xs i o σ:=by
 have h1:((o.looksAt ops).all fun t=>Z2y (τ.tmps t))=(o.looksAt ops).all fun t=>Z2y (σ.tmps t):=by
  rw [Bool.eq_iff_iff,List.all_eq_true,List.all_eq_true]
  exact forall_congr' fun t=>forall_congr' fun ht=>by rw [h t ht]
 have h2:((o.looksAt ops).all fun t=>Z3d (quiet xs) (τ.tmps t))=(o.looksAt ops).all fun t=>Z3d (quiet xs) (σ.tmps t):=by
  rw [Bool.eq_iff_iff,List.all_eq_true,List.all_eq_true]
  exact forall_congr' fun t=>forall_congr' fun ht=>by rw [h t ht]
 have h3:mvOk xs o τ=mvOk xs o σ:=by
  unfold mvOk
  split
  ·rename_i t hop hg
   rw [h t (Zwh hop)]
  ·rfl
 unfold Z81
 rw [h1,h2,h3]
theorem Zlq {i:Nat} {p:Prop} (h:Z2j P ops told gs xs i σ=some (σ',p)):Z30 P ops told gs i σ=some (σ',p):=by
 cases hx:Z1j i xs with
 | true=>
  unfold Z2j at h
  rw [hx] at h
  dsimp only at h
  split at h
  ·split at h
   ·split at h
    ·exact h
    ·cases h
   ·cases h
  ·split at h
   ·split at h
    ·split at h
     ·exact h
     ·cases h
    ·cases h
   ·exact h
 | false=>
  obtain ⟨o,y,ho,hv,hy,-⟩:=Za2 hx h
  unfold Z4i at hv
  unfold Z30
  rw [ho]
  dsimp only
  split at hv
  ·cases hv
  ·rename_i g hg
   rw [hg]
   dsimp only
   split at hv
   ·rename_i y' p' he
    cases hv
    rw [Y00 he hy]
   ·cases hv
  ·rename_i g hg
   rw [hg]
   dsimp only
   split at hv
   ·rename_i hd
    cases hv
    simp only [Z23,Option.some.injEq] at hy
    subst hy
    rw [hd]
   ·cases hv
structure Z4n (ops:Array Oper) (o:Oper) (σ τ:S):Prop where
 n:τ.n=σ.n
 tmps:∀ t,t∈o.looksAt ops→τ.tmps t=σ.tmps t
theorem Z4n.ev (h:Z4n ops o σ τ):∀ x∈o.op.operands,τ.ev x=σ.ev x:=fun x hx=>by
 cases x with
 | tmp t=>exact h.tmps t (List.mem_append_left _ (List.mem_filterMap.2 ⟨.tmp t,by simpa using hx,rfl⟩))
 | _=>rfl
theorem Z4n.guard (h:Z4n ops o σ τ) (g:Option Bool):Z4r ops τ o g=Z4r ops σ o g:=by
 unfold Z4r
 cases hg:o.guard with
 | none=>rfl
 | some jw=>
  obtain ⟨j,want⟩:=jw
  dsimp only
  have:((ops[j]?).bind (·.dst)).map τ.tmps=((ops[j]?).bind (·.dst)).map σ.tmps:=by
   cases ht:(ops[j]?).bind (·.dst) with
   | none=>rfl
   | some t=>simp only [Option.map_some]; rw [h.tmps t (List.mem_append_right _ (by simp [hg,ht]))]
  rw [this]
theorem Zab {i:Nat} (hs:Z4n ops o σ τ) (hh:(∀ b k,σ.heap b=some k→τ.heap b=some k)∨Zcr o=true) {r:Z5t×Prop} (h:Z4i P ops told gs i o σ=some r):Z4i P ops told gs i o τ=some r:=by
 have he:∀ x,Z49 P σ o (Z31 told i)=some x→Z49 P τ o (Z31 told i)=some x:=fun x hx=>by
  rcases hh with hh|hf
  ·exact Zlh ⟨hs.n,hs.ev,hh⟩ hx
  ·rw [← Y2k hf _ σ (fun _=>none)] at hx
   exact Zlh (σ:={ σ with heap:=fun _=>none }) ⟨hs.n,fun x hx=>(hs.ev x hx).trans (by cases x <;> rfl),fun b k hb=>by cases hb⟩ hx
 have hd:Z1x τ o=Z1x σ o:=by unfold Z1x; rw [hs.n]
 unfold Z4i at*
 rw [hs.guard]
 split at h
 ·cases h
 ·rename_i g hg
  split at h
  ·rename_i y p hy; rw [he _ hy]; exact h
  ·cases h
 ·rename_i g hg
  rw [hd]; exact h
theorem Zv2 {dst:Option Nat} {y:Z5t} (h:Z23 σ dst y=some σ'):σ'.n=σ.n∧(∀ t,dst≠some t→σ'.tmps t=σ.tmps t)∧(∀ b k,σ.heap b=some k→σ'.heap b=some k):=by
 cases y with
 | val d=>
  simp only [Z23,Option.some.injEq] at h; subst h
  cases dst with
  | none=>exact ⟨rfl,fun _ _=>rfl,fun _ _ h=>h⟩
  | some t=>exact ⟨rfl,fun u hu=>by simp only [S.put]; rw [if_neg (fun e=>hu (by rw [e]))],fun _ _ h=>h⟩
 | blk k v=>
  simp only [Z23] at h
  split at h
  ·rename_i t
   split at h
   ·rename_i hn
    cases h
    refine ⟨rfl,fun u hu=>by simp only [S.put,S.setB]; rw [if_neg (fun e=>hu (by rw [e]))],fun b k' hb=>?_⟩
    show (if b=t then some k else σ.heap b)=some k'
    rw [if_neg (fun e=>by rw [e,hn] at hb; cases hb)]; exact hb
   ·cases h
  ·cases h
theorem Y4b {dst:Option Nat} {d:D} (h:Z23 σ dst (.val d)=some σ'):σ'.heap=σ.heap:=by
 simp only [Z23,Option.some.injEq] at h; subst h; cases dst <;> rfl
theorem Zxd {da db:Option Nat} {ya yb:Z5t} {σ1 σ2:S} (hne:∀ t,da=some t→db≠some t) (ha:Z23 σ da ya=some σ1) (hb:Z23 σ1 db yb=some σ2):
  ∃ σ1',Z23 σ db yb=some σ1'∧Z23 σ1' da ya=some σ2:=by
 have hput:∀ (x y:Option Nat) (u v:D) (τ:S),(∀ t,x=some t→y≠some t)→(τ.put x u).put y v=(τ.put y v).put x u:=fun x y u v τ hxy=>by
  cases x with
  | none=>rfl
  | some s=>
   cases y with
   | none=>rfl
   | some t=>
    have hst:s≠t:=fun e=>hxy s rfl (by rw [e])
    simp only [S.put,S.mk.injEq,true_and,and_true]
    funext u'
    by_cases e1:u'=t
    ·subst e1; rw [if_pos rfl,if_neg (Ne.symm hst),if_pos rfl]
    ·rw [if_neg e1]
     by_cases e2:u'=s
     ·subst e2; rw [if_pos rfl,if_pos rfl]
     ·rw [if_neg e2,if_neg e2,if_neg e1]
 have hset:∀ (x:Option Nat) (u:D) (t:Nat) (k:Option Blk) (τ:S),(τ.put x u).setB t k=(τ.setB t k).put x u:=fun x u t k τ=>by cases x <;> rfl
 have hsets:∀ (s t:Nat) (k l:Option Blk) (τ:S),s≠t→(τ.setB s k).setB t l=(τ.setB t l).setB s k:=fun s t k l τ hst=>by
  simp only [S.setB,S.mk.injEq,true_and]
  funext u
  by_cases e1:u=t
  ·subst e1; rw [if_pos rfl,if_neg (Ne.symm hst),if_pos rfl]
  ·rw [if_neg e1]
   by_cases e2:u=s
   ·subst e2; rw [if_pos rfl,if_pos rfl]
   ·rw [if_neg e2,if_neg e2,if_neg e1]
 cases ya with
 | val d =>
  simp only [Z23,Option.some.injEq] at ha; subst ha
  cases yb with
  | val e=>
   simp only [Z23,Option.some.injEq] at hb; subst hb
   exact ⟨_,rfl,by simp only [Z23]; rw [hput _ _ _ _ _ hne]⟩
  | blk k v=>
   simp only [Z23] at hb
   split at hb
   ·rename_i t
    split at hb
    ·rename_i hn
     cases hb
     have hn':σ.heap t=none:=by cases da <;> exact hn
     refine ⟨(σ.setB t (some k)).put (some t) (v t),by simp only [Z23,hn'],?_⟩
     simp only [Z23]
     rw [hset,hput _ _ _ _ _ hne]
    ·cases hb
   ·cases hb
 | blk k v =>
  simp only [Z23] at ha
  split at ha
  ·rename_i s
   split at ha
   ·rename_i hs
    cases ha
    cases yb with
    | val e=>
     simp only [Z23,Option.some.injEq] at hb; subst hb
     refine ⟨_,rfl,?_⟩
     have hs':(σ.put db e).heap s=none:=by cases db <;> exact hs
     simp only [Z23,hs']
     rw [hset,hput _ _ _ _ _ hne]
    | blk l u=>
     simp only [Z23] at hb
     split at hb
     ·rename_i t
      have hst:s≠t:=fun e=>hne s rfl (by rw [e])
      split at hb
      ·rename_i hn
       cases hb
       have hn':σ.heap t=none:=by
        have:(if t=s then some k else σ.heap t)=none:=hn
        rw [if_neg (Ne.symm hst)] at this; exact this
       have hs':((σ.setB t (some l)).put (some t) (u t)).heap s=none:=by
        show (if s=t then some l else σ.heap s)=none
        rw [if_neg hst]; exact hs
       refine ⟨(σ.setB t (some l)).put (some t) (u t),by simp only [Z23,hn'],?_⟩
       simp only [Z23,hs']
       rw [hset,hset,hput (some s) (some t) _ _ _ hne,hsets s t _ _ _ hst]
      ·cases hb
     ·cases hb
   ·cases ha
  ·cases ha
def Zd2 (ops:Array Oper) (xs:List Nat) (i j:Nat):Bool:=
 match ops[i]?,ops[j]? with
 | some a,some b=>!Z1j i xs&&a.apart ops b&&
  ((!Z1j j xs&&(!isNew a||Zcr b||Z1j (j+2000) xs))||Z1j (i+1000) xs||(Z1j (i+3000) xs&&Z1j j xs&&Z1j (j+4000) xs)||(Z1j (i+5000) xs&&Z1j j xs&& !Z1j (j+4000) xs&&Z1j (j+6000) xs))
 | _,_=>false
theorem Zm1 {R:Nat→Bool} {d:D} (h:Z2y d=true):Z3d R d=true:=by
 have hA:∀ d,Z77 d=true→Zc9 R d=true:=fun d h=>by cases d <;> first|rfl|cases h
 have hE:∀ d,Z67 d=true→Zae R d=true:=fun d h=>by
  cases d with
  | agg cs=>
   simp only [Z67,Zae,List.all_eq_true] at h ⊢
   exact fun x hx=>hA x (h x hx)
  | lptr b i o=>cases h
  | lsl b lo n=>cases h
  | tup vs=>cases h
  | _=>rfl
 cases d with
 | tup vs=>
  simp only [Z2y,Z3d,List.all_eq_true] at h ⊢
  exact fun x hx=>hE x (h x hx)
 | agg cs=>exact hE (.agg cs) h
 | lptr b i o=>cases h
 | lsl b lo n=>cases h
 | _=>rfl
theorem Zpr {R:Nat→Bool} {i:Nat} {o:Oper} {τ:S} (hlk:∀ t∈o.looksAt ops,Z3d R (σ.tmps t)=true) (hs:Z4n ops o σ τ) (hh:∀ b,R b=true→τ.heap b=σ.heap b) {r:Z5t×Prop} (h:Z4i P ops told gs i o σ=some r):Z4i P ops told gs i o τ=some r:=by
 have hops:∀ x∈o.op.operands,Z3d R (σ.ev x)=true:=fun x hx=>by
  cases x with
  | tmp t=>exact hlk t (List.mem_append_left _ (List.mem_filterMap.2 ⟨.tmp t,by simpa using hx,rfl⟩))
  | const v=>exact Zm1 (Zz4 v)
  | func f=>rfl
  | global g=>rfl
 have hdk:Z1x τ o=Z1x σ o:=by unfold Z1x; rw [hs.n]
 unfold Z4i at h ⊢
 rw [hs.guard,hdk]
 split at h
 ·cases h
 ·rename_i g hg
  split at h
  ·rename_i y p hy
   rw [Y2l hops hs.n hs.ev hh _ hy]; exact h
  ·cases h
 ·rename_i g hg
  exact h
theorem Zzz {i:Nat} {o:Oper} {db:Nat} {d:D} (hl:db ∉ o.looksAt ops) (τ:S):∀ r,Z4i P ops told gs i o (τ.put (some db) d)=some r↔Z4i P ops told gs i o τ=some r:=fun r=>by
 have hs:Z4n ops o τ (τ.put (some db) d):=⟨rfl,fun t ht=>by simp only [S.put]; rw [if_neg (fun e:t=db=>hl (e ▸ ht))]⟩
 exact ⟨fun h=>Zab (σ:=τ.put (some db) d) (τ:=τ) ⟨rfl,fun t ht=>(hs.tmps t ht).symm⟩ (.inl fun _ _ h=>h) h,fun h=>Zab hs (.inl fun _ _ h=>h) h⟩
theorem Zn3 {j:Nat} {o:Oper} {db:Nat} {d:D} (ho:ops[j]?=some o) (hn:Z2y d=true) (hl:db ∉ o.looksAt ops) (hne:o.dst≠some db) {σ2:S} {p:Prop} (h:Z30 P ops told gs j (σ.put (some db) d)=some (σ2,p)):
  ∃ σ1,Z30 P ops told gs j σ=some (σ1,p)∧σ2=σ1.put (some db) d:=by
 have hs:Z4n ops o σ (σ.put (some db) d):=⟨rfl,fun t ht=>by simp only [S.put]; rw [if_neg (fun e:t=db=>hl (e ▸ ht))]⟩
 unfold Z30 at h ⊢
 rw [ho] at h ⊢
 dsimp only at h ⊢
 rw [hs.guard] at h
 cases hg:Z4r ops σ o (gAt gs j) with
 | none=>rw [hg] at h; cases h
 | some bg=>
  obtain ⟨b,g⟩:=bg
  rw [hg] at h
  cases b with
  | true=>
   dsimp only at h ⊢
   rw [Y4f hn hne hs.ev] at h
   cases hstep:Z2e P σ o (Z31 told j) with
   | none=>rw [hstep] at h; cases h
   | some r=>
    rw [hstep] at h
    cases h
    exact ⟨r.1,rfl,rfl⟩
  | false=>
   dsimp only at h ⊢
   rw [Z52] at h
   cases hd:Z1x σ o with
   | false=>rw [hd] at h; cases h
   | true=>
    rw [hd] at h
    cases h
    exact ⟨_,rfl,Z3q hne σ _⟩
theorem oneD_fr {j:Nat} {o:Oper} (ho:ops[j]?=some o) {p:Prop} (h:Z30 P ops told gs j σ=some (σ',p)):Fr o.dst σ σ':=by
 unfold Z30 at h
 rw [ho] at h
 dsimp only at h
 split at h
 ·cases h
 ·split at h
  ·rename_i hs; cases h; exact Y1n hs
  ·cases h
 ·split at h
  ·cases h; exact (Fr.refl _ _).put _
  ·cases h
theorem Zrs {o:Oper} {db:Nat} {d:D} (hev:∀ x∈o.op.operands,(σ.put (some db) d).ev x=σ.ev x):Z5g xs o (σ.put (some db) d)=Z5g xs o σ:=by
 unfold Z5g
 split
 ·rename_i s x t t' hop hg
  rw [hop] at hev
  rw [hev s (by simp [Op.operands,Call.operands])]
 ·rfl
theorem Zfd {d:D} {b:Nat} (h:Zc9 (away xs) d=true) (hb:Z1j (b+20000) xs=true):d.killA b=d:=by
 have hne:∀ b',away xs b'=true→b'≠b:=fun b' h e=>by subst e; unfold away at h; rw [hb] at h; cases h
 cases d with
 | lptr b' i o=>exact if_neg (hne b' h)
 | lsl b' lo n=>exact if_neg (hne b' h)
 | agg cs=>cases h
 | tup vs=>cases h
 | _=>rfl
theorem Zr1 {d:D} {b:Nat} (h:Zae (away xs) d=true) (hb:Z1j (b+20000) xs=true):d.killB b=d:=by
 cases d with
 | agg cs=>
  simp only [Zae,List.all_eq_true] at h
  simp only [D.killB,D.agg.injEq]
  exact (List.map_congr_left fun x hx=>Zfd (h x hx) hb).trans (List.map_id _)
 | tup vs=>cases h
 | lptr b' i o=>exact Zfd (d:= .lptr b' i o) h hb
 | lsl b' lo n=>exact Zfd (d:= .lsl b' lo n) h hb
 | _=>rfl
theorem Zuq {d:D} {b:Nat} (h:Z3d (away xs) d=true) (hb:Z1j (b+20000) xs=true):d.kill b=d:=by
 cases d with
 | tup vs=>
  simp only [Z3d,List.all_eq_true] at h
  simp only [D.kill,D.tup.injEq]
  exact (List.map_congr_left fun x hx=>Zr1 (h x hx) hb).trans (List.map_id _)
 | agg cs=>exact Zr1 (d:= .agg cs) h hb
 | lptr b' i o=>exact Zfd (d:= .lptr b' i o) h hb
 | lsl b' lo n=>exact Zfd (d:= .lsl b' lo n) h hb
 | _=>rfl
theorem Y1b {o:Oper} {db:Nat} {d:D} (ha:Z5g xs o σ=true) (hd:Z3d (away xs) d=true) (hne:o.dst≠some db) (hev:∀ x∈o.op.operands,(σ.put (some db) d).ev x=σ.ev x) (told:Z18):
  Z2e P (σ.put (some db) d) o told=(Z2e P σ o told).map fun r=>(r.1.put (some db) d,r.2):=by
 obtain ⟨dst,op,ty,pos,after,guard⟩:=o
 unfold Z5g at ha
 dsimp only at ha hne hev
 split at ha
 ·rename_i s x t t'
  split at ha
  ·rename_i b n hs
   have hp:∀ τ:S,Z1t P τ ⟨dst,.call { callee:= .builtin .append,args:=⟨[s,x]⟩,argTypes:=⟨[t,t']⟩ },ty,pos,after,none⟩ told.ans=none:=fun _=>rfl
   unfold Z2e
   rw [hp,hp]
   dsimp only
   unfold Z35
   dsimp only
   rw [hev s (by simp [Op.operands,Call.operands]),hev x (by simp [Op.operands,Call.operands]),hs]
   unfold Z9q
   rw [Zy8]
   have hdp:(σ.put (some db) d).drop b=(σ.drop b).put (some db) d:=by
    simp only [S.put,S.drop,S.mk.injEq,true_and,and_true]
    funext v
    split
    ·exact Zuq hd ha
    ·rfl
   cases Z5i P t with
   | none=>rfl
   | some e=>
    dsimp only
    cases P.info? e with
    | none=>rfl
    | some ie =>
     cases Z8l P σ t t' (σ.ev x) with
     | none=>rfl
     | some nq =>
      obtain ⟨news,q⟩:=nq
      dsimp only
      cases ie.zero with
      | none=>rfl
      | some z=>
       dsimp only
       cases z.cells.size==ie.size&&Nat.blt 0 ie.size with
       | false=>rfl
       | true=>
        dsimp only
        split
        ·rename_i b' n' hb'
         cases hb'
         rw [show (σ.put (some db) d).heap b=σ.heap b from rfl,Z52]
         cases σ.heap b with
         | none=>rfl
         | some blk=>
          dsimp only
          cases blk.pure&&blk.sz==ie.size&&Z1x σ _ with
          | false=>rfl
          | true=>dsimp only; rw [hdp,Z89,Z3q hne]; rfl
        ·rename_i heq; cases heq
        ·rfl
  ·cases ha
 ·cases ha
theorem Y1h {o:Oper} {told:Z18} (ha:Z5g xs o σ=true) {p:Prop} (h:Z2e P σ o told=some (σ',p)):σ'.n=σ.n∧∀ t,o.dst≠some t→∃ b,Z1j (b+20000) xs=true∧σ'.tmps t=(σ.tmps t).kill b:=by
 obtain ⟨dst,op,ty,pos,after,guard⟩:=o
 unfold Z5g at ha
 dsimp only at ha
 split at ha
 ·rename_i s x t t'
  split at ha
  ·rename_i b n hs
   have hp:Z1t P σ ⟨dst,.call { callee:= .builtin .append,args:=⟨[s,x]⟩,argTypes:=⟨[t,t']⟩ },ty,pos,after,none⟩ told.ans=none:=rfl
   unfold Z2e at h
   rw [hp] at h
   dsimp only at h
   unfold Z35 at h
   dsimp only at h
   rw [hs] at h
   unfold Z9q at h
   have fin:∀ (k:Blk) (v:D),((σ.drop b).setB b (some k)).put dst v=σ'→σ'.n=σ.n∧∀ t,dst≠some t→∃ b,Z1j (b+20000) xs=true∧σ'.tmps t=(σ.tmps t).kill b:=fun k v e=>by
    subst e
    refine ⟨by cases dst <;> rfl,fun t ht=>⟨b,ha,?_⟩⟩
    cases dst with
    | none=>rfl
    | some u=>simp only [S.put]; rw [if_neg (fun e=>ht (by rw [e]))]; rfl
   split at h
   ·cases h
   ·split at h
    ·split at h
     ·cases h
     ·split at h
      ·cases h
      ·split at h
       ·rename_i b' n' hb'
        cases hb'
        split at h
        ·split at h
         ·cases h; exact fin _ _ rfl
         ·cases h
        ·cases h
       ·rename_i heq; cases heq
       ·cases h
    ·cases h
  ·cases ha
 ·cases ha
theorem swapM {i j:Nat} {oa ob:Oper} (hi:Z1j i xs=false) (hm:Z1j (i+5000) xs=true) (hj:Z1j j xs=true) (hj4:Z1j (j+4000) xs=false) (hj6:Z1j (j+6000) xs=true) (hoa:ops[i]?=some oa) (hob:ops[j]?=some ob) (hap:oa.apart ops ob=true) {σ1 σ2:S} {pa pb:Prop}
  (ha:Z2j P ops told gs xs i σ=some (σ1,pa)) (hb:Z2j P ops told gs xs j σ1=some (σ2,pb)):
  ∃ σ1',Z2j P ops told gs xs j σ=some (σ1',pb)∧Z2j P ops told gs xs i σ1'=some (σ2,pa):=by
 obtain ⟨h1,h2,h3⟩:=Oper.apart_spec hap
 obtain ⟨o,y,e1,hva,hya,hc,hlo⟩:=Za2 hi ha
 rw [hoa] at e1; cases e1
 have hlo':=hlo
 unfold Z81 at hlo'
 rw [hm] at hlo'
 simp only [Bool.not_true,Bool.false_or,Bool.and_eq_true] at hlo'
 have hmv:=hlo'.1.1
 unfold mvOk at hmv
 split at hmv
 rotate_left
 ·cases hmv
 rename_i t hop hg
 have hpd:Z1t P σ oa (Z31 told i).ans=some (σ.tmps t,True):=by unfold Z1t; rw [hop]; rfl
 obtain ⟨hy,-⟩:y=.val (σ.tmps t)∧True:=by
  unfold Z4i Z4r at hva
  rw [hg] at hva
  dsimp only at hva
  split at hva
  ·rename_i y' p' he
   cases hva
   unfold Z49 at he
   split at he
   ·cases he
   ·rw [hpd] at he; cases he; exact ⟨rfl,trivial⟩
  ·cases hva
 subst hy
 simp only [Z23,Option.some.injEq] at hya
 subst hya
 generalize hdd:σ.tmps t=d at*
 have hone:∀ τ:S,Z2j P ops told gs xs j τ=match Z5g xs ob τ with
   | true=>Z30 P ops told gs j τ
   | false=>none:=fun τ=>by unfold Z2j; rw [hj]; dsimp only; rw [hj4]; dsimp only; rw [hj6,hob]
 have hgd:Z5g xs ob σ=true→ob.guard=none:=fun h=>by
  unfold Z5g at h
  split at h
  ·assumption
  ·cases h
 have hoD:∀ τ:S,ob.guard=none→Z30 P ops told gs j τ=(Z2e P τ ob (Z31 told j)).map fun r=>(r.1,True∧r.2):=fun τ hg=>by
  unfold Z30
  rw [hob]
  dsimp only
  unfold Z4r
  rw [hg]
  dsimp only
  cases Z2e P τ ob (Z31 told j) with
  | none=>rfl
  | some r=>rfl
 have key:∃ σ1',Z5g xs ob σ=true∧Z2j P ops told gs xs j σ=some (σ1',pb)∧σ2=σ1'.put oa.dst d:=by
  cases hda:oa.dst with
  | none=>
   rw [hda] at hb
   have hb':Z2j P ops told gs xs j σ=some (σ2,pb):=hb
   refine ⟨σ2,?_,hb',rfl⟩
   rw [hone] at hb'
   split at hb'
   ·assumption
   ·cases hb'
  | some db=>
   rw [hda] at hb
   have hl:db ∉ ob.looksAt ops:=h1 db hda
   have hne:ob.dst≠some db:=h2 db hda
   have hs:Z4n ops ob σ (σ.put (some db) d):=⟨rfl,fun t ht=>by simp only [S.put]; rw [if_neg (fun e:t=db=>hl (e ▸ ht))]⟩
   rw [hone,Zrs hs.ev] at hb
   split at hb
   ·rename_i hax
    rw [hoD _ (hgd hax),Y1b hax hmv hne hs.ev] at hb
    cases hst:Z2e P σ ob (Z31 told j) with
    | none=>rw [hst] at hb; cases hb
    | some r=>
     rw [hst] at hb
     cases hb
     refine ⟨r.1,hax,?_,rfl⟩
     rw [hone,hax]
     dsimp only
     rw [hoD _ (hgd hax),hst]; rfl
   ·cases hb
 obtain ⟨σ1',hax,k1,rfl⟩:=key
 refine ⟨σ1',k1,?_⟩
 have hst:σ1'.n=σ.n∧σ1'.tmps t=d:=by
  rw [hone,hax] at k1
  dsimp only at k1
  rw [hoD _ (hgd hax)] at k1
  cases hst:Z2e P σ ob (Z31 told j) with
  | none=>rw [hst] at k1; cases k1
  | some r=>
   rw [hst] at k1
   cases k1
   obtain ⟨q1,q2⟩:=Y1h hax hst
   obtain ⟨b,q3,q4⟩:=q2 t (fun e=>h3 t e (Zwh hop))
   exact ⟨q1,by rw [q4,hdd]; exact Zuq hmv q3⟩
 have hs:Z4n ops oa σ σ1':=⟨hst.1,fun u hu=>by
  have:u=t:=by
   unfold Oper.looksAt at hu
   rw [hop,hg] at hu
   simpa [Op.operands] using hu
  rw [this,hst.2,hdd]⟩
 refine Zbl (y:= .val d) hi hoa (Zab hs (.inr (by unfold Zcr; rw [hop])) hva) rfl (fun hm'=>?_) (by rw [Zaz hs.tmps]; exact hlo)
 obtain ⟨d',f1,f2,f3⟩:=hc hm'
 exact ⟨d',f1,f2,fun t ht=>by rw [hs.tmps t ht]; exact f3 t ht⟩
theorem swapN {i j:Nat} {oa ob:Oper} (hi:Z1j i xs=false) (hm:Z1j (i+1000) xs=true) (hoa:ops[i]?=some oa) (hob:ops[j]?=some ob) (hap:oa.apart ops ob=true) {σ1 σ2:S} {pa pb:Prop}
  (ha:Z2j P ops told gs xs i σ=some (σ1,pa)) (hb:Z2j P ops told gs xs j σ1=some (σ2,pb)):
  ∃ σ1',Z2j P ops told gs xs j σ=some (σ1',pb)∧Z2j P ops told gs xs i σ1'=some (σ2,pa):=by
 obtain ⟨h1,h2,h3⟩:=Oper.apart_spec hap
 obtain ⟨o,y,e1,hva,hya,hc,hlo⟩:=Za2 hi ha
 rw [hoa] at e1; cases e1
 obtain ⟨d,rfl,hnd,hlk⟩:=hc hm
 simp only [Z23,Option.some.injEq] at hya
 subst hya
 -- the second one first
 have key:∃ σ1',Z2j P ops told gs xs j σ=some (σ1',pb)∧σ2=σ1'.put oa.dst d:=by
  cases hda:oa.dst with
  | none=>exact ⟨σ2,by rw [hda] at hb; exact hb,rfl⟩
  | some db=>
   rw [hda] at hb
   have hl:db ∉ ob.looksAt ops:=h1 db hda
   have hne:ob.dst≠some db:=h2 db hda
   have hsame:∀ t∈ob.looksAt ops,σ.tmps t=(σ.put (some db) d).tmps t:=fun t ht=>by simp only [S.put]; rw [if_neg (fun e:t=db=>hl (e ▸ ht))]
   have hsev:Z4n ops ob σ (σ.put (some db) d):=⟨rfl,fun t ht=>(hsame t ht).symm⟩
   cases hj:Z1j j xs with
   | true=>
    unfold Z2j at hb ⊢
    rw [hj] at hb ⊢
    dsimp only at hb ⊢
    cases h4:Z1j (j+4000) xs with
    | false=>
     rw [h4] at hb
     dsimp only at hb ⊢
     cases h6:Z1j (j+6000) xs with
     | false=>
      rw [h6] at hb
      exact Zn3 hob hnd hl hne hb
     | true=>
      rw [h6,hob] at hb
      rw [hob]
      dsimp only at hb ⊢
      rw [Zrs hsev.ev] at hb
      cases hpx:Z5g xs ob σ with
      | false=>rw [hpx] at hb; cases hb
      | true=>rw [hpx] at hb; exact Zn3 hob hnd hl hne hb
    | true=>
     rw [h4,hob] at hb
     rw [hob]
     dsimp only at hb ⊢
     rw [Zra hsev.ev] at hb
     cases hpx:Z65 σ ob (Z31 told j) (quiet xs) with
     | false=>rw [hpx] at hb; cases hb
     | true=>rw [hpx] at hb; exact Zn3 hob hnd hl hne hb
   | false=>
    obtain ⟨o,y,e1,hvb,hyb,hcb,hlob⟩:=Za2 hj hb
    rw [hob] at e1; cases e1
    have hvb':=(Zzz hl σ _).1 hvb
    obtain ⟨σ1',c1,c2⟩:=Zxd (da:=some db) (db:=ob.dst) (ya:= .val d) (fun t ht=>by cases ht; exact hne) rfl hyb
    simp only [Z23,Option.some.injEq] at c2
    refine ⟨σ1',Zbl hj hob hvb' c1 (fun hm'=>?_) (by rw [Zaz hsame]; exact hlob),c2.symm⟩
    obtain ⟨d',f1,f2,f3⟩:=hcb hm'
    exact ⟨d',f1,f2,fun t ht=>by rw [hsame t ht]; exact f3 t ht⟩
 obtain ⟨σ1',k1,rfl⟩:=key
 refine ⟨σ1',k1,?_⟩
 have hfr:=oneD_fr hob (Zlq k1)
 have hs:Z4n ops oa σ σ1':=⟨hfr.n,fun t ht=>hfr.tmps t (fun e=>h3 t e ht) (hlk t ht)⟩
 exact Zbl (y:= .val d) hi hoa (Zpr (R:=fun _=>false) (fun t ht=>Zm1 (hlk t ht)) hs (fun b hb=>by cases hb) hva) rfl (fun _=>⟨d,rfl,hnd,fun t ht=>by rw [hs.tmps t ht]; exact hlk t ht⟩) (by rw [Zaz hs.tmps]; exact hlo)
theorem swapC {i j:Nat} {oa ob:Oper} (hi:Z1j i xs=false) (hm:Z1j (i+3000) xs=true) (hj:Z1j j xs=true) (hj4:Z1j (j+4000) xs=true) (hoa:ops[i]?=some oa) (hob:ops[j]?=some ob) (hap:oa.apart ops ob=true) {σ1 σ2:S} {pa pb:Prop}
  (ha:Z2j P ops told gs xs i σ=some (σ1,pa)) (hb:Z2j P ops told gs xs j σ1=some (σ2,pb)):
  ∃ σ1',Z2j P ops told gs xs j σ=some (σ1',pb)∧Z2j P ops told gs xs i σ1'=some (σ2,pa):=by
 obtain ⟨h1,h2,h3⟩:=Oper.apart_spec hap
 obtain ⟨o,y,e1,hva,hya,hc,hlo⟩:=Za2 hi ha
 rw [hoa] at e1; cases e1
 have hlo':=hlo
 unfold Z81 at hlo'
 rw [hm] at hlo'
 simp only [Bool.not_true,Bool.false_or,Bool.and_eq_true,Bool.or_eq_true,Bool.not_eq_true',List.all_eq_true] at hlo'
 obtain ⟨-,hnew,hfree⟩:=hlo'
 obtain ⟨d,rfl⟩:∃ d,y=.val d:=by
  unfold Z4i at hva
  split at hva
  ·cases hva
  ·split at hva
   ·rename_i y p he; cases hva; exact Zyi hnew he
   ·cases hva
  ·split at hva
   ·cases hva; exact ⟨_,rfl⟩
   ·cases hva
 simp only [Z23,Option.some.injEq] at hya
 subst hya
 have key:∃ σ1',Z2j P ops told gs xs j σ=some (σ1',pb)∧σ2=σ1'.put oa.dst d∧σ1'.n=σ.n∧(∀ t,ob.dst≠some t→σ1'.tmps t=σ.tmps t)∧(∀ b,quiet xs b=true→σ1'.heap b=σ.heap b):=by
  -- what the plain one does on a state
  have hplain:∀ {τ τ':S} {p:Prop},Z65 τ ob (Z31 told j) (quiet xs)=true→Z30 P ops told gs j τ=some (τ',p)→τ'.n=τ.n∧(∀ t,ob.dst≠some t→τ'.tmps t=τ.tmps t)∧(∀ b,quiet xs b=true→τ'.heap b=τ.heap b):=fun {τ τ' p} hx h=>by
   unfold Z30 at h
   rw [hob] at h
   dsimp only at h
   split at h
   ·cases h
   ·split at h
    ·rename_i hs; cases h; exact Y0m hx hs
    ·cases h
   ·split at h
    ·cases h
     refine ⟨by cases ob.dst <;> rfl,fun t ht=>?_,fun b _=>by cases ob.dst <;> rfl⟩
     cases hd:ob.dst with
     | none=>rfl
     | some u=>simp only [S.put]; rw [if_neg (fun e=>ht (by rw [hd,e]))]
    ·cases h
  unfold Z2j at hb ⊢
  rw [hj] at hb ⊢
  dsimp only at hb ⊢
  rw [hj4,hob] at hb ⊢
  dsimp only at hb ⊢
  cases hda:oa.dst with
  | none=>
   rw [hda] at hb
   cases hpx:Z65 σ ob (Z31 told j) (quiet xs) with
   | false=>rw [show σ.put none d=σ from rfl,hpx] at hb; cases hb
   | true=>
    rw [show σ.put none d=σ from rfl,hpx] at hb
    exact ⟨σ2,hb,rfl,hplain hpx hb⟩
  | some db =>
   rw [hda] at hb
   have hl:db ∉ ob.looksAt ops:=h1 db hda
   have hne:ob.dst≠some db:=h2 db hda
   have hs:Z4n ops ob σ (σ.put (some db) d):=⟨rfl,fun t ht=>by simp only [S.put]; rw [if_neg (fun e:t=db=>hl (e ▸ ht))]⟩
   rw [Zra hs.ev] at hb
   cases hpx:Z65 σ ob (Z31 told j) (quiet xs) with
   | false=>rw [hpx] at hb; cases hb
   | true=>
    rw [hpx] at hb
    dsimp only at hb ⊢
    have:∃ σ1',Z30 P ops told gs j σ=some (σ1',pb)∧σ2=σ1'.put (some db) d:=by
     unfold Z30 at hb ⊢
     rw [hob] at hb ⊢
     dsimp only at hb ⊢
     rw [hs.guard] at hb
     cases hg:Z4r ops σ ob (gAt gs j) with
     | none=>rw [hg] at hb; cases hb
     | some bg=>
      obtain ⟨b,g⟩:=bg
      rw [hg] at hb
      cases b with
      | true=>
       dsimp only at hb ⊢
       rw [Zzd hpx hne hs.ev] at hb
       cases hstep:Z2e P σ ob (Z31 told j) with
       | none=>rw [hstep] at hb; cases hb
       | some r=>rw [hstep] at hb; cases hb; exact ⟨r.1,rfl,rfl⟩
      | false=>
       dsimp only at hb ⊢
       rw [Z52] at hb
       cases hd:Z1x σ ob with
       | false=>rw [hd] at hb; cases hb
       | true=>rw [hd] at hb; cases hb; exact ⟨_,rfl,Z3q hne σ _⟩
    obtain ⟨σ1',q1,q2⟩:=this
    exact ⟨σ1',q1,q2,hplain hpx q1⟩
 obtain ⟨σ1',k1,rfl,k2,k3,k4⟩:=key
 refine ⟨σ1',k1,?_⟩
 have hs:Z4n ops oa σ σ1':=⟨k2,fun t ht=>k3 t fun e=>h3 t e ht⟩
 refine Zbl (y:= .val d) hi hoa ?_ rfl (fun hm'=>?_) (by rw [Zaz hs.tmps]; exact hlo)
 ·rcases hfree with hf|hr
  ·exact Zab hs (.inr hf) hva
  ·exact Zpr hr hs k4 hva
 ·obtain ⟨d',f1,f2,f3⟩:=hc hm'
  exact ⟨d',f1,f2,fun t ht=>by rw [hs.tmps t ht]; exact f3 t ht⟩
theorem swapX {i j:Nat} (hok:Zd2 ops xs i j=true) {σ1 σ2:S} {pa pb:Prop} (ha:Z2j P ops told gs xs i σ=some (σ1,pa)) (hb:Z2j P ops told gs xs j σ1=some (σ2,pb)):
  ∃ σ1',Z2j P ops told gs xs j σ=some (σ1',pb)∧Z2j P ops told gs xs i σ1'=some (σ2,pa):=by
 unfold Zd2 at hok
 split at hok
 rotate_left
 ·cases hok
 rename_i oa' ob' hoa' hob'
 simp only [Bool.and_eq_true,Bool.or_eq_true,Bool.not_eq_true'] at hok
 obtain ⟨⟨hi,hap⟩,((⟨hj,hnew⟩|hm)|⟨⟨hm,hj⟩,hj4⟩)|⟨⟨⟨hm,hj⟩,hj4⟩,hj6⟩⟩:=hok
 rotate_left 3
 ·exact swapM hi hm hj hj4 hj6 hoa' hob' hap ha hb
 rotate_left
 ·exact swapN hi hm hoa' hob' hap ha hb
 ·exact swapC hi hm hj hj4 hoa' hob' hap ha hb
 obtain ⟨oa,ya,hoa,hva,hya,hca,hloa⟩:=Za2 hi ha
 obtain ⟨ob,yb,hob,hvb,hyb,hcb,hlob⟩:=Za2 hj hb
 obtain rfl:oa=oa':=by rw [hoa] at hoa'; exact Option.some.inj hoa'
 obtain rfl:ob=ob':=by rw [hob] at hob'; exact Option.some.inj hob'
 obtain ⟨h1,h2,h3⟩:=Oper.apart_spec hap
 obtain ⟨σ1',c1,c2⟩:=Zxd (fun t ht=>h2 t ht) hya hyb
 obtain ⟨n1,t1,k1⟩:=Zv2 hya
 obtain ⟨n2,t2,k2⟩:=Zv2 c1
 have hsb:Z4n ops ob σ1 σ:=⟨n1.symm,fun t ht=>(t1 t fun e=>h1 t e ht).symm⟩
 have hb':Z4i P ops told gs j ob σ=some (yb,pb):=by
  rcases hnew with (hnew|hnew)|hnew
  ·refine Zab hsb (.inl ?_) hvb
   -- a value:the heap is the same
   have hval:∃ d,ya=.val d:=by
    unfold Z4i at hva
    split at hva
    ·cases hva
    ·split at hva
     ·rename_i y p he; cases hva; exact Zyi hnew he
     ·cases hva
    ·split at hva
     ·cases hva; exact ⟨_,rfl⟩
     ·cases hva
   obtain ⟨d,rfl⟩:=hval
   intro b k hk
   rw [Y4b hya] at hk; exact hk
  ·exact Zab hsb (.inr hnew) hvb
  ·have hlo':=hlob
   unfold Z81 at hlo'
   rw [hnew] at hlo'
   simp only [Bool.not_true,Bool.false_or,Bool.and_eq_true,List.all_eq_true] at hlo'
   exact Zpr (R:=fun _=>false) (fun t ht=>Zm1 (hlo'.1.2 t ht)) hsb (fun b hb=>by cases hb) hvb
 have hsa:Z4n ops oa σ σ1':=⟨n2,fun t ht=>t2 t fun e=>h3 t e ht⟩
 have ha':Z4i P ops told gs i oa σ1'=some (ya,pa):=Zab hsa (.inl k2) hva
 refine ⟨σ1',Zbl hj hob hb' c1 (fun hm=>?_) (by rw [Zaz hsb.tmps]; exact hlob),Zbl hi hoa ha' c2 (fun hm=>?_) (by rw [Zaz hsa.tmps]; exact hloa)⟩
 ·obtain ⟨d,f1,f2,f3⟩:=hcb hm
  exact ⟨d,f1,f2,fun t ht=>by rw [hsb.tmps t ht]; exact f3 t ht⟩
 ·obtain ⟨d,f1,f2,f3⟩:=hca hm
  exact ⟨d,f1,f2,fun t ht=>by rw [hsa.tmps t ht]; exact f3 t ht⟩
def Z79 (P:Program) (ops:Array Oper) (told:List (Nat×Z18)) (gs:List (Nat×Bool)) (xs:List Nat):List Nat→S→Option (S×Prop)
 | [],σ=>some (σ,True)
 | i :: r,σ=>
  match Z2j P ops told gs xs i σ with
  | some (σ',p)=>
   match Z79 P ops told gs xs r σ' with
   | some (σ'',q)=>some (σ'',p∧q)
   | none=>none
  | none=>none
theorem Zsy {i:Nat} {l2:List Nat}:∀ (l1:List Nat) {σ σ':S} {p:Prop},(∀ x∈l1,Zd2 ops xs x i=true)→Z79 P ops told gs xs (l1++i::l2) σ=some (σ',p)→p→
  ∃ σi pi p',Z2j P ops told gs xs i σ=some (σi,pi)∧pi∧Z79 P ops told gs xs (l1++l2) σi=some (σ',p')∧p'
 | [], σ,σ',p,_,h,hp=>by
  simp only [List.nil_append] at h ⊢
  unfold Z79 at h
  split at h
  ·rename_i σ1 q h1
   split at h
   ·rename_i σ2 q' h2
    cases h
    exact ⟨σ1,q,q',h1,hp.1,h2,hp.2⟩
   ·cases h
  ·cases h
 | x :: l1,σ,σ',p,hx,h,hp=>by
  simp only [List.cons_append] at h ⊢
  unfold Z79 at h
  split at h
  ·rename_i σ1 q h1
   split at h
   ·rename_i σ2 q' h2
    cases h
    obtain ⟨σi,pi,p',k1,k2,k3,k4⟩:=Zsy l1 (fun y hy=>hx y (by simp [hy])) h2 hp.2
    obtain ⟨σ1',m1,m2⟩:=swapX (hx x (by simp)) h1 k1
    refine ⟨σ1',pi,q∧p',m1,k2,?_,hp.1,k4⟩
    unfold Z79
    rw [m2]; dsimp only; rw [k3]
   ·cases h
  ·cases h
def Z62 (ops:Array Oper) (i:Nat):List Nat:=
 match ops[i]? with
 | some o=>(o.after.toList.filter (Region.binds .any)).map (·.on)
 | none=>[]
def wOf:List (Nat×List Nat)→Nat→List Nat
 | [],_=>[]
 | (k,l)::r,i=>match i==k with|true=>l|false=>wOf r i
def Zjs (ops:Array Oper) (W:List (Nat×List Nat)):List Nat→Bool
 | [] =>true
 | b::r=>(wOf W b).all (fun x=>Z1j x (Z62 ops b)||(Z62 ops b).any fun c=>Z1j x (wOf W c))&&Zjs ops W r
def Z9n (ops:Array Oper) (xs:List Nat) (W:List (Nat×List Nat)):List Nat→Bool
 | [] =>true
 | x::r=>r.all (fun b=>Z1j x (wOf W b)||Zd2 ops xs x b)&&Z9n ops xs W r
def Z8h (ops:Array Oper):List Nat→Bool
 | [] =>true
 | b::r=>(Z62 ops b).all (fun c=>Nat.blt c ops.size&& !Z1j c (b::r))&&Z8h ops r
def Z9f:List Nat→Bool
 | [] =>true
 | b::r=>!Z1j b r&&Z9f r
def ordOk (ops:Array Oper) (xs:List Nat) (W:List (Nat×List Nat)) (ord:List Nat):Bool:=
 ord.length==ops.size&&Z9f ord&&ord.all (fun i=>Nat.blt i ops.size)&&(List.range ops.size).all (fun i=>Z1j i ord)&&Zjs ops W ord&&Z9n ops xs W ord&&Z8h ops ord
theorem Z8m {n:Nat}:∀ {l:List Nat},Z1j n l=true↔n∈l
 | [] =>by simp [Z1j]
 | x :: r=>by
  unfold Z1j
  cases h:n==x with
  | true=>simp only [true_iff]; have:=eq_of_beq h; subst this; simp
  | false=>
   have hne:n≠x:=by simpa using h
   show Z1j n r=true↔n∈x::r
   rw [Z8m,List.mem_cons]
   exact ⟨.inr,fun h'=>h'.resolve_left hne⟩
theorem Zxl {W:List (Nat×List Nat)} {i:Nat} {l2:List Nat}:∀ {l1:List Nat},Z9n ops xs W (l1++i::l2)=true→(∀ x∈l1,x∈wOf W i∨Zd2 ops xs x i=true)∧Z9n ops xs W (l1++l2)=true
 | [],h=>by
  simp only [List.nil_append,Z9n,Bool.and_eq_true] at h ⊢
  exact ⟨by simp,h.2⟩
 | x :: l1,h=>by
  simp only [List.cons_append,Z9n,Bool.and_eq_true,List.all_eq_true,Bool.or_eq_true,Z8m] at h ⊢
  obtain ⟨h1,h2⟩:=Zxl h.2
  refine ⟨fun y hy=>?_,fun b hb=>h.1 b ?_,h2⟩
  ·rcases List.mem_cons.1 hy with rfl|hy
   ·exact h.1 i (by simp)
   ·exact h1 y hy
  ·rcases List.mem_append.1 hb with hb|hb
   ·simp [hb]
   ·simp [hb]
theorem Zt8 {i:Nat} {l2:List Nat}:∀ {l1:List Nat},Z8h ops (l1++i::l2)=true→Z8h ops (l1++l2)=true
 | [],h=>by simp only [List.nil_append,Z8h,Bool.and_eq_true] at h ⊢; exact h.2
 | x :: l1,h=>by
  simp only [List.cons_append,Z8h,Bool.and_eq_true,List.all_eq_true,Bool.not_eq_true'] at h ⊢
  refine ⟨fun c hc=>⟨(h.1 c hc).1,?_⟩,Zt8 h.2⟩
  have:=(h.1 c hc).2
  rw [← Bool.not_eq_true,Z8m] at this ⊢
  intro hm; apply this
  rcases List.mem_cons.1 hm with rfl|hm
  ·simp
  ·rcases List.mem_append.1 hm with hm|hm
   ·simp [hm]
   ·simp [hm]
theorem Zua {i:Nat} {l2:List Nat}:∀ {l1:List Nat},Z9f (l1++i::l2)=true→Z9f (l1++l2)=true∧i ∉ l1++l2
 | [],h=>by
  simp only [List.nil_append,Z9f,Bool.and_eq_true,Bool.not_eq_true'] at h ⊢
  exact ⟨h.2,by rw [← Bool.not_eq_true,Z8m] at h; exact h.1⟩
 | x :: l1,h=>by
  simp only [List.cons_append,Z9f,Bool.and_eq_true,Bool.not_eq_true',← Bool.not_eq_true,Z8m] at h ⊢
  obtain ⟨h1,h2⟩:=Zua h.2
  refine ⟨⟨fun hm=>h.1 ?_,h1⟩,fun hm=>?_⟩
  ·rcases List.mem_append.1 hm with hm|hm
   ·simp [hm]
   ·simp [hm]
  ·rcases List.mem_cons.1 hm with rfl|hm
   ·exact h.1 (by simp)
   ·exact h2 hm
theorem Zqb {b c:Nat}:c∈Z62 ops b↔∃ o,ops[b]?=some o∧∃ e∈o.after,Region.binds .any e=true∧e.on=c:=by
 unfold Z62
 cases h:ops[b]? with
 | none=>simp
 | some o=>simp [and_assoc]
structure Left (ops:Array Oper) (W:List (Nat×List Nat)) (listed:Array Bool) (rest:List Nat):Prop where
 size:listed.size=ops.size
 mem:∀ j,j<ops.size→(listed.getD j true=false↔j∈rest)
 lt:∀ j∈rest,j<ops.size
 closed:∀ c,c<ops.size→c ∉ rest→(∀ x∈wOf W c,x ∉ rest)
theorem anyX {W:List (Nat×List Nat)} {Q:Exit→Act→World→Prop} (hwait:∀ b,b<ops.size→∀ x∈wOf W b,x∈Z62 ops b∨∃ c∈Z62 ops b,x∈wOf W c):
  ∀ (n:Nat) (rest:List Nat) (listed:Array Bool) {σ σ':S} {a:Act} {w:World} {G β} {p:Prop},rest.length=n→Left ops W listed rest→Z9n ops xs W rest=true→Z8h ops rest=true→Z9f rest=true→
   Z04 Γ σ a w G β→Z79 P ops told gs xs rest σ=some (σ',p)→p→(∀ a' w' G' β',Z04 Γ σ' a' w' G' β'→Q .normal a' w')→wpAny P .any ops Q n listed a w
 | 0,rest,listed,σ,σ',a,w,G,β,p,hl,hL,_,_,_,hC,h,hp,hQ=>by
  obtain rfl:=List.eq_nil_of_length_eq_zero hl
  cases h
  refine ⟨?_,hQ _ _ _ _ hC⟩
  apply List.eq_nil_iff_forall_not_mem.2
  intro j hj
  obtain ⟨h1,o,ho,-⟩:=mem_ready.1 hj
  have:=(hL.mem j (Array.getElem?_eq_some_iff.1 ho).1).1 h1
  cases this
 | n + 1,rest,listed,σ,σ',a,w,G,β,p,hl,hL,hpairs,htopo,hdist,hC,h,hp,hQ=>by
  have hlisted:∀ c,c<ops.size→c ∉ rest→listed.getD c false=true:=fun c hc hn=>by
   have h1:listed.getD c true=true:=by
    cases hb:listed.getD c true with
    | true=>rfl
    | false=>exact absurd ((hL.mem c hc).1 hb) hn
   have hlt:c<listed.size:=by rw [hL.size]; exact hc
   simp only [Array.getD_eq_getD_getElem?,Array.getElem?_eq_getElem hlt,Option.getD_some] at h1 ⊢
   exact h1
  refine ⟨fun hr=>?_,fun i hi=>?_⟩
  ·match rest,hl with
   | b :: r,_=>
    exfalso
    have hb:=hL.lt b (by simp)
    have:b∈Region.ready .any ops listed:=mem_ready.2 ⟨(hL.mem b hb).2 (by simp),ops[b],Array.getElem?_eq_getElem hb,fun e he hbind=>by
     have hdep:e.on∈Z62 ops b:=Zqb.2 ⟨_,Array.getElem?_eq_getElem hb,e,he,hbind,rfl⟩
     simp only [Z8h,Bool.and_eq_true,List.all_eq_true,Bool.not_eq_true'] at htopo
     obtain ⟨h1,h2⟩:=htopo.1 _ hdep
     rw [← Bool.not_eq_true,Z8m] at h2
     exact hlisted _ (by simpa using h1) h2⟩
    rw [hr] at this; cases this
  ·obtain ⟨h1,o,ho,h2⟩:=mem_ready.1 hi
   have hlt:=(Array.getElem?_eq_some_iff.1 ho).1
   have hmem:=(hL.mem i hlt).1 h1
   obtain ⟨l1,l2,rfl⟩:=List.append_of_mem hmem
   obtain ⟨hd1,hd2⟩:=Zua hdist
   -- what it waits for is listed
   have hlist2:∀ c,listed.getD c false=true→c<ops.size∧c ∉ l1++i::l2:=fun c hc=>by
    have hlt':c<listed.size:=by
     rcases Nat.lt_or_ge c listed.size with h'|h'
     ·exact h'
     ·simp [Array.getD_eq_getD_getElem?,Array.getElem?_eq_none h'] at hc
    have hlt2:c<ops.size:=by rw [← hL.size]; exact hlt'
    refine ⟨hlt2,fun hm=>?_⟩
    have:=(hL.mem c hlt2).2 hm
    simp only [Array.getD_eq_getD_getElem?,Array.getElem?_eq_getElem hlt',Option.getD_some] at this hc
    rw [hc] at this; cases this
   have hdeps:∀ c∈Z62 ops i,c<ops.size∧c ∉ l1++i::l2:=fun c hc=>by
    obtain ⟨o',ho',e,he,hb,rfl⟩:=Zqb.1 hc
    rw [ho] at ho'; cases ho'
    exact hlist2 _ (h2 e he hb)
   have hW:∀ x∈wOf W i,x ∉ l1++i::l2:=fun x hx=>by
    rcases hwait i hlt x hx with h'|⟨c,hc,h'⟩
    ·exact (hdeps x h').2
    ·exact hL.closed c (hdeps c hc).1 (hdeps c hc).2 x h'
   obtain ⟨hp1,hp2⟩:=Zxl hpairs
   obtain ⟨σi,pi,p',k1,k2,k3,k4⟩:=Zsy l1 (fun x hx=>(hp1 x hx).resolve_left fun hw=>hW x hw (by simp [hx])) h hp
   refine Zpb hC (Zlq k1) k2 fun a' w' G' β' hC'=>?_
   refine anyX hwait n (l1++l2) _ (by simp at hl ⊢; omega) ?_ hp2 (Zt8 htopo) hd1 hC' k3 k4 hQ
   refine ⟨by simp [hL.size],fun j hj=>?_,fun j hj=>hL.lt j ?_,fun c hc hn x hx hm=>?_⟩
   ·by_cases hji:j=i
    ·subst hji
     refine ⟨fun hg=>?_,fun hm=>absurd hm hd2⟩
     rw [Array.getD_eq_getD_getElem?,Array.getElem?_setIfInBounds_self_of_lt (by rw [hL.size]; exact hj)] at hg
     cases hg
    ·rw [getD_set_ne _ (Ne.symm hji),hL.mem j hj]
     simp [hji]
   ·rcases List.mem_append.1 hj with hj|hj
    ·simp [hj]
    ·simp [hj]
   ·have hm':x∈l1++i::l2:=by
     rcases List.mem_append.1 hm with hm|hm
     ·simp [hm]
     ·simp [hm]
    by_cases hci:c=i
    ·subst hci; exact hW x hx hm'
    ·refine hL.closed c hc (fun hcm=>hn ?_) x hx hm'
     rcases List.mem_append.1 hcm with h'|h'
     ·simp [h']
     ·rcases List.mem_cons.1 h' with h'|h'
      ·exact absurd h' hci
      ·simp [h']
theorem DWP.draw {id:Nat} {W:List (Nat×List Nat)} {ord:List Nat} {p:Prop} {Q:Exit→S→Prop} (hm:P.follows .mixedOrders=true) (hok:ordOk ops xs W ord=true)
  (h:Z79 P ops told gs xs ord σ=some (σ',p)) (hp:p) (hQ:Q .normal σ'):DWP P Γ (.region id ops true) Q σ:=fun a w G β hC=>by
 unfold ordOk at hok
 simp only [Bool.and_eq_true,beq_iff_eq,List.all_eq_true,List.mem_range,Z8m] at hok
 obtain ⟨⟨⟨⟨⟨⟨h1,h2⟩,h3⟩,h4⟩,h5⟩,h6⟩,h7⟩:=hok
 refine wp_region_any hm (anyX (W:=W) (xs:=xs) (told:=told) (gs:=gs) ?_ ops.size ord _ h1 ?_ h6 h7 h2 (hC.quiet (Z8v w)) h hp fun a' w' G' β' hC'=>⟨σ',G',β',hC',hQ⟩)
 ·intro b hb x hx
  have key:∀ l:List Nat,Zjs ops W l=true→b∈l→x∈Z62 ops b∨∃ c∈Z62 ops b,x∈wOf W c:=fun l=>by
   induction l with
   | nil=>intro _ hb; cases hb
   | cons y r ih=>
    intro hw hm
    simp only [Zjs,Bool.and_eq_true,List.all_eq_true,Bool.or_eq_true,List.any_eq_true,Z8m] at hw
    rcases List.mem_cons.1 hm with rfl|hm
    ·exact hw.1 x hx
    ·exact ih hw.2 hm
  exact key ord h5 (h4 b hb)
 ·refine ⟨by simp,fun j hj=>?_,fun j hj=>by simpa using h3 j hj,fun c hc hn=>absurd (h4 c hc) hn⟩
  simp only [Array.getD_eq_getD_getElem?,Array.getElem?_replicate,hj,if_true,Option.getD_some,true_iff]
  exact h4 j hj
end Go.Den
