/-
  Many steps at once: code with what follows it, run as far as the next branch that is not decided, the next loop, the end.
-/
import Derived.Test.YtbhghodobphdeaaGreatDenDraw
import Derived.Lib.Bytealg
namespace Go.Den
open Go.RowKit
def holds:List Prop→Prop
 | [] =>True
 | p::r=>p∧holds r
theorem Zmu:∀ {a b:List Prop},holds (a++b)→holds a∧holds b
 | [],_,h=>⟨trivial,h⟩
 | _::_,_,h=>⟨⟨h.1,(Zmu h.2).1⟩,(Zmu h.2).2⟩
def isCmp:BinOp→Bool
 | .eql|.neq|.lss|.leq|.gtr|.geq=>true
 | _=>false
def Z53 (o:Oper) (t:Z18):Bool:=
 match o.op,t.ans with
 | .move _,_|.assign _,_|.fieldAddr ..,_|.field ..,_|.extract ..,_|.nilCheck _,_|.alloc _,_|.box ..,_|.build ..,_=>true
 | .load ..,.go=>true
 | .unOp ..,.go=>true
 | .convert ..,.go=>true
 | .binOp op ..,.go=>isCmp op
 | .call { callee:= .builtin .len,.. },.go=>true
 | .pick ..,.go=>true
 | _,_=>false
variable {P:Program} {Γ:Ctx} {σ σ':S} {a:Act} {w w':World} {G G':Nat→Nat} {β β':Nat→Option (Nat×Nat)}
theorem Z9p {k:IntKind} {n:Int} {d:D} {p:Prop} (h:Z3z k n .go=some (d,p)):p:=by cases h; trivial
theorem strD_go {s:List UInt8} {d:D} {p:Prop} (h:strD s .go=some (d,p)):p:=by cases h; trivial
theorem Zep {b:Bool} {d:D} {p:Prop} (h:Z5s b .go=some (d,p)):p:=by cases h; trivial
theorem Zb6 {op:BinOp} {xt:TypeId} {same:Bool} {d:D} {p:Prop} (h:ptrD P op xt same=some (d,p)):p:=by
 unfold ptrD at h
 repeat' split at h
 all_goals first|(cases h; done)|(cases h; trivial)
theorem Y1x {o:Oper} {t:Z18} (ht:Z53 o t=true) {d:D} {p:Prop} (h:Z1t P σ o t.ans=some (d,p)):p:=by
 obtain ⟨dst,op,ty,pos,after,guard⟩:=o
 obtain ⟨ans,args,rows,row⟩:=t
 cases op with
 | move x=>cases h; trivial
 | assign x=>cases h; trivial
 | fieldAddr s x f=>simp only [Z1t] at h; split at h <;> cases h; trivial
 | field s x f=>
  simp only [Z1t] at h
  split at h
  ·split at h <;> cases h; trivial
  ·cases h
 | extract x i=>
  simp only [Z1t] at h
  split at h
  ·split at h <;> cases h; trivial
  ·cases h
 | nilCheck x=>simp only [Z1t] at h; split at h <;> cases h <;> trivial
 | load t x=>
  cases ans <;> simp only [Z53] at ht <;> try cases ht
  simp only [Z1t,Z5o] at h
  split at h
  ·rename_i cs q hq
   split at h
   ·cases h
    unfold Z7a at hq
    split at hq
    ·cases hq; trivial
    ·split at hq
     ·split at hq
      ·rename_i heq; cases heq
      ·split at hq <;> cases hq; trivial
     ·cases hq
    ·cases hq
   ·cases h
  ·cases h
 | unOp op t x=>
  cases ans <;> simp only [Z53] at ht <;> try cases ht
  simp only [Z1t,unD] at h
  split at h
  ·exact Z9p h
  ·exact Zep h
  ·cases h
 | convert s t x=>
  cases ans <;> simp only [Z53] at ht <;> try cases ht
  simp only [Z1t,Zj9] at h
  split at h
  ·exact Z9p h
  ·cases h; trivial
  ·exact strD_go h
  ·cases h
 | binOp op xt x y yt=>
  cases ans <;> simp only [Z53] at ht <;> try cases ht
  simp only [Z1t,binD] at h
  split at h
  ·split at h
   ·cases ht
   ·cases ht
   ·split at h
    ·cases op <;> first|exact Zep h|cases ht
    ·cases h
  ·cases op <;> first|exact Zep h|cases ht
  ·split at h
   ·split at h
    ·exact Zep h
    ·exact Zep h
    ·cases h
   ·cases h
  ·split at h
   ·rename_i he; cases he
   ·cases h
  ·exact Zb6 h
  ·exact Zb6 h
  ·split at h
   ·exact Zb6 h
   ·cases h
  ·cases h
 | call c=>
  obtain ⟨callee,args,ts⟩:=c
  cases callee with
  | builtin b=>
   cases b with
   | len=>
    cases ans <;> simp only [Z53] at ht <;> try cases ht
    simp only [Z1t] at h
    split at h
    ·unfold lenD at h
     split at h
     ·exact Z9p h
     ·exact Z9p h
     ·exact Z9p h
     ·exact Z9p h
     ·cases h
    ·cases h
   | max=>cases ans <;> cases ht
   | unsafeSliceData=>cases ans <;> cases ht
   | _=>cases h
  | _=>cases h
 | pick c x y=>
  cases ans <;> simp only [Z53] at ht <;> try cases ht
  simp only [Z1t,Zhd] at h
  split at h
  ·split at h <;> cases h <;> trivial
  ·cases h
 | alloc _=>cases h
 | box _ _=>cases h
 | build _ _=>cases h
 | _=>cases ans <;> simp [Z53] at ht
theorem Y2m {o:Oper} {t:Z18} (ht:Z53 o t=true) {p:Prop} (h:Z2e P σ o t=some (σ',p)):p:=by
 unfold Z2e at h
 split at h
 ·rename_i d q hq
  split at h
  ·cases h; exact Y1x ht hq
  ·cases h
 ·rename_i hn
  obtain ⟨dst,op,ty,pos,after,guard⟩:=o
  cases op with
  | alloc e=>
   simp only [Z35] at h
   split at h
   ·obtain ⟨_,_,_,_,_,rfl⟩:=Z91 h; trivial
   ·cases h
  | box e x=>
   simp only [Z35] at h
   split at h
   ·split at h
    ·split at h <;> cases h; trivial
    ·obtain ⟨_,_,_,_,_,rfl⟩:=Z91 h; trivial
   ·cases h
  | build t parts=>
   simp only [Z35] at h
   split at h
   ·split at h
    ·split at h <;> cases h; trivial
    ·cases h
   ·cases h
  | call c=>
   obtain ⟨callee,args,ts⟩:=c
   cases callee with
   | builtin b=>
    obtain ⟨ans,args',rows,row⟩:=t
    cases b <;> first
     | (cases h; done)
     | (cases ans <;> simp [Z53] at ht)
   | value f=>obtain ⟨ans,args',rows,row⟩:=t; cases ans <;> simp [Z53] at ht
   | invoke r m=>cases h
  | convert s d x=>
   obtain ⟨ans,args',rows,row⟩:=t
   cases ans <;> simp [Z53] at ht
   simp only [Z35,Z9z] at h
   repeat' split at h
   all_goals first
    | (cases h; done)
    | (cases h; trivial)
    | (rename_i heq _; cases heq; done)
    | (rename_i heq; cases heq; done)
    | simp at*
  | _=>first
   | cases h
   | (obtain ⟨ans,args',rows,row⟩:=t; cases ans <;> simp [Z53] at ht)
def trivAt (ops:Array Oper) (told:List (Nat×Z18)) (i:Nat):Bool:=
 match ops[i]? with
 | none=>true
 | some o=>match o.guard with
  | none=>Z53 o (Z31 told i)
  | some _=>false
def runL (P:Program) (ops:Array Oper) (told:List (Nat×Z18)) (gs:List (Nat×Bool)):List Nat→S→Option (S×List Prop)
 | [],σ=>some (σ,[])
 | i :: r,σ=>
  match Z30 P ops told gs i σ with
  | some (σ',p)=>
   match runL P ops told gs r σ' with
   | some (σ'',q)=>match trivAt ops told i with
    | true=>some (σ'',q)
    | false=>some (σ'',p::q)
   | none=>none
  | none=>none
inductive Z26 where
 | seq (z:Code)
 | blk (id:Nat)
def Z3k (P:Program) (Γ:Ctx):List Z26→(Exit→S→Prop)→Exit→S→Prop
 | [],Q=>Q
 | .seq z::K,Q=>fun e σ=>match e with
  | .normal=>DWP P Γ z (Z3k P Γ K Q) σ
  | e=>Z3k P Γ K Q e σ
 | .blk id::K,Q=>fun e σ=>match e with
  | .exit id'=>if id'=id then Z3k P Γ K Q .normal σ else Z3k P Γ K Q (.exit id') σ
  | e=>Z3k P Γ K Q e σ
def At (P:Program) (Γ:Ctx) (c:Code) (K:List Z26) (Q:Exit→S→Prop) (σ:S):Prop:=DWP P Γ c (Z3k P Γ K Q) σ
inductive Ev where
 | cond (b:Bool) (x y:Code) (K:List Z26)
 | loop (c:Code) (K:List Z26)
 | ret
 | exit (id:Nat)
 | normal
 | stop (c:Code) (K:List Z26)
def popN:List Z26→Option (Code×List Z26)
 | [] =>none
 | .seq z::K=>some (z,K)
 | .blk _::K=>popN K
def Z66 (id:Nat):List Z26→Option (List Z26)
 | [] =>none
 | .seq _::K=>Z66 id K
 | .blk id'::K=>match id==id' with
  | true=>some K
  | false=>Z66 id K
def EvOk (P:Program) (Γ:Ctx) (Q:Exit→S→Prop) (σ:S):Ev→Prop
 | .cond b x y K=>(b=true→At P Γ x K Q σ)∧(b=false→At P Γ y K Q σ)
 | .loop c K=>At P Γ (.loop c) K Q σ
 | .ret=>Q .ret σ
 | .exit id=>Q (.exit id) σ
 | .normal=>Q .normal σ
 | .stop c K=>At P Γ c K Q σ
theorem Zk1 {Q:Exit→S→Prop}:∀ (K:List Z26),Q .ret σ→Z3k P Γ K Q .ret σ
 | [],h=>h
 | .seq _::K,h=>Zk1 K h
 | .blk _::K,h=>Zk1 K h
theorem Znm {Q:Exit→S→Prop}:∀ {K:List Z26},(∀ z K',popN K=some (z,K')→At P Γ z K' Q σ)→(popN K=none→Q .normal σ)→Z3k P Γ K Q .normal σ
 | [],_,h2=>h2 rfl
 | .seq z::K,h1,_=>h1 z K rfl
 | .blk _::K,h1,h2=>Znm (K:=K) (fun z K' h=>h1 z K' h) (fun h=>h2 h)
theorem Ze4 {Q:Exit→S→Prop} {id:Nat}:∀ {K:List Z26},(∀ K',Z66 id K=some K'→Z3k P Γ K' Q .normal σ)→(Z66 id K=none→Q (.exit id) σ)→Z3k P Γ K Q (.exit id) σ
 | [],_,h2=>h2 rfl
 | .seq z::K,h1,h2=>Ze4 (K:=K) (fun K' h=>h1 K' h) (fun h=>h2 h)
 | .blk id'::K,h1,h2=>by
  show (if id=id' then Z3k P Γ K Q .normal σ else Z3k P Γ K Q (.exit id) σ)
  split
  ·rename_i e; subst e; exact h1 K (by simp [Z66])
  ·rename_i e
   have e':(id==id')=false:=by simpa using e
   exact Ze4 (K:=K) (fun K' h=>h1 K' (by unfold Z66; rw [e']; exact h)) (fun h=>h2 (by unfold Z66; rw [e']; exact h))
def AtO (P:Program) (Γ:Ctx) (c:Option Code) (K:List Z26) (Q:Exit→S→Prop) (σ:S):Prop:=
 match c with
 | some c=>At P Γ c K Q σ
 | none=>Z3k P Γ K Q .normal σ
theorem At.exitK {K K':List Z26} {Q:Exit→S→Prop} {id:Nat} (h:Z66 id K=some K') (hr:Z3k P Γ K' Q .normal σ):Z3k P Γ K Q (.exit id) σ:=
 Ze4 (fun K'' h'=>by rw [h] at h'; cases h'; exact hr) (fun h'=>by rw [h] at h'; cases h')
theorem At.retK {K:List Z26} {Q:Exit→S→Prop} (hr:Q .ret σ):Z3k P Γ K Q .ret σ:=Zk1 K hr
theorem Z08.at {f:FuncId} {fn:Func} (c:Code) {ds:List D} {r:D} (hf:P.funcs[f]?=some fn) (hb:fn.body=some c) (hent:Z6h P f=true) (hn:ds.length≤fn.ntmps)
  (h:∀ Γ:Ctx,At P Γ c [] (Ends P fn r) (mkS fn.ntmps (Z3v 0 ds) [])):Z08 P f ds r:=Z08.mk hf hb hent hn h
theorem bindE {α β:Type} {o:Option α} {f:α→Option β} {r:β} (h:o.bind f=some r):∃ x,o=some x∧f x=some r:=by
 cases o with
 | none=>cases h
 | some x=>exact ⟨x,rfl,h⟩
theorem iteT {α:Type} {b:Bool} {x y r:α} (hb:b=true) (h:(if b=true then x else y)=r):x=r:=by rwa [if_pos hb] at h
theorem iteF {α:Type} {b:Bool} {x y r:α} (hb:b=false) (h:(if b=true then x else y)=r):y=r:=by rwa [if_neg (by simp [hb])] at h
theorem someE {α:Type} {x y:α} (h:some x=some y):x=y:=Option.some.inj h
theorem Y2y {α β:Type} (f:α→β) {l:List α} {i:Int} {x:α} (h:Z05 l i=some x):Z05 (l.map f) i=some (f x):=by
 unfold Z05 at*
 split at h
 ·rename_i h0
  rw [if_pos h0,List.getElem?_map,h]; rfl
 ·cases h
end Go.Den
namespace Go.Den
open Go.RowKit
def Z4j:Code→Code|.seq a _=>a|.cond _ a _=>a|.block _ a=>a|.loop a=>a|c=>c
def Z2h:Code→Code|.seq _ b=>b|.cond _ _ b=>b|c=>c
def Z02 (n:Int):List D:=[.int .i64 n]
def rU8 (n:Int):List D:=[.int .u8 n]
def Z39 (b:Bool):List D:=[.bool b]
def Z43 (s:List UInt8):List D:=[.str s]
def rSl {α:Type} (f:α→List D) (l:List α):List D:=[.sl false (l.map f)]
def Z2b (k:IntKind) (x y:Int):Int:=k.wrap (BitVec.ofInt k.bits x &&& BitVec.ofInt k.bits y).toNat
def divK (k:IntKind) (a b:Int):Option Int:=if b≠0 then some (k.wrap (a.tdiv b)) else none
theorem Zzl {k:IntKind} {a b m:Int} (h:divK k a b=some m):b≠0∧k.wrap (a.tdiv b)=m:=by
 unfold divK at h; split at h
 ·exact ⟨by assumption,Option.some.inj h⟩
 ·cases h
def modK (a b:Int):Option Int:=if b≠0 then some (a.tmod b) else none
theorem Y49 {a b m:Int} (h:modK a b=some m):b≠0∧a.tmod b=m:=by
 unfold modK at h; split at h
 ·exact ⟨by assumption,Option.some.inj h⟩
 ·cases h
def Z6k (k:IntKind) (a y:Int):Option Int:=if 0≤y then some (k.wrap (a*2 ^ (min y.toNat k.bits))) else none
theorem Y35 {k:IntKind} {a y m:Int} (h:Z6k k a y=some m):0≤y∧k.wrap (a*2 ^ (min y.toNat k.bits))=m:=by
 unfold Z6k at h; split at h
 ·exact ⟨by assumption,Option.some.inj h⟩
 ·cases h
def shrK (k:IntKind) (a y:Int):Option Int:=if 0≤y then some (a.fdiv (2 ^ (min y.toNat k.bits))) else none
theorem Y3z {k:IntKind} {a y m:Int} (h:shrK k a y=some m):0≤y∧a.fdiv (2 ^ (min y.toNat k.bits))=m:=by
 unfold shrK at h; split at h
 ·exact ⟨by assumption,Option.some.inj h⟩
 ·cases h
def Z1u (a b:List UInt8):Option (List UInt8):=if a.length+b.length≤9223372036854775807 then some (a++b) else none
theorem Y2e {a b m:List UInt8} (h:Z1u a b=some m):a.length+b.length≤9223372036854775807∧a++b=m:=by
 unfold Z1u at h; split at h
 ·exact ⟨by assumption,Option.some.inj h⟩
 ·cases h
def Z3j (i:Int) (n:Nat):Option Nat:=if 0≤i∧i<n then some i.toNat else none
theorem Zrh {i:Int} {n n' j:Nat} (h:Z3j i n=some j) (hn:n'=n):0≤i∧i<n'∧((0:Nat):Int)+i=j:=by
 subst hn
 unfold Z3j at h; split at h
 ·cases h; omega
 ·cases h
def Z96 (bytes:Nat) (l c:Int):Option Unit:=if 0≤l∧l≤c∧(bytes:Int)*c≤281474976710656∧c≤9223372036854775807 then some () else none
theorem Zki {bytes:Nat} {l c:Int} {u:Unit} (h:Z96 bytes l c=some u):0≤l∧l≤c∧(bytes:Int)*c≤281474976710656∧c≤9223372036854775807:=by
 unfold Z96 at h; split at h
 ·assumption
 ·cases h
def Z1l (bytes:Nat) (n:Nat):Option Unit:=if n≤9223372036854775807∧n*bytes≤140737488355328 then some () else none
theorem Zse {bytes n n':Nat} {u:Unit} (h:Z1l bytes n=some u) (hn:n'=n):n'≤9223372036854775807∧n'*bytes≤140737488355328:=by
 subst hn
 unfold Z1l at h; split at h
 ·assumption
 ·cases h
def Zjg {α β:Type} (olds:List α) (news:List β):Option Unit:=if olds=[]∨news≠[] then some () else none
def dI (n:Int):D:= .int .i64 n
def d8 (n:Int):D:= .int .u8 n
def tN:Nat→Prop
 | 0=>True
 | n+1=>True∧tN n
theorem tNi:∀ n,tN n
 | 0=>trivial
 | n+1=>⟨trivial,tNi n⟩
def cq (P:Program) (p:Prop) (f:FuncId) (A:List D) (r:D):Prop:=p∧A=A∧Zbd P f A r
theorem cqi {P:Program} {p:Prop} {f:FuncId} {A:List D} {r:D} (hp:p) (h:Z08 P f A r):cq P p f A r:=⟨hp,rfl,.inl h⟩
theorem cqx {P:Program} {p:Prop} {f:FuncId} {A:List D} {r:D} (hp:p) (h:Zfm P f A r):cq P p f A r:=⟨hp,rfl,.inr h⟩
def cqo (P:Program) (p:Prop) (f:FuncId) (A:List D) (B:List Blk) (r:D) (B':List Blk):Prop:=p∧A=A∧B=B∧Z4e P f A B r B'
theorem cqoi {P:Program} {p:Prop} {f:FuncId} {A:List D} {B:List Blk} {r:D} {B':List Blk} (hp:p) (h:Z4e P f A B r B'):cqo P p f A B r B':=⟨hp,rfl,rfl,h⟩
theorem freshM {α β:Type} {f:α→List D} (g:β→List D) {olds:List α} {news:List β} {u:Unit} (h:Zjg olds news=some u):(olds.map f=[]∨news.map g≠[]):=by
 unfold Zjg at h
 split at h
 ·rename_i hc
  rcases hc with hc|hc
  ·exact .inl (by rw [hc]; rfl)
  ·exact .inr (by simpa using hc)
 ·cases h
theorem Y3t (l:List Int):Z6q (l.map rU8)=some (l.map fun n=>UInt8.ofNat n.toNat):=by
 induction l with
 | nil=>rfl
 | cons a r ih=>simp only [List.map_cons]; unfold rU8 Z6q; rw [show (List.map (fun n=>[D.int IntKind.u8 n]) r)=r.map rU8 from rfl,ih]
def bytesOf (l:List Int):List UInt8:=l.map fun n=>UInt8.ofNat n.toNat
theorem Zz8 (l:List Int):Z6q (l.map rU8)=some (bytesOf l):=Y3t l
def Znn (n:Int):List UInt8:=(Utf8.encode n).data.toList
theorem lenM {α:Type} (f:α→List D) (l:List α):((l.map f).length:Int)=(l.length:Int):=by simp
theorem lenMN {α:Type} (f:α→List D) (l:List α):(l.map f).length=l.length:=by simp
theorem getM {α:Type} (f:α→List D) {l:List α} {j:Nat} {x:α} (h:l[j]?=some x):(l.map f)[j]?=some (f x):=by simp [h]
theorem setM {α:Type} (f:α→List D) (l:List α) (j:Nat) (y:α):(l.map f).set j (f y)=(l.set j y).map f:=List.map_set.symm
theorem appM {α:Type} (f:α→List D) (l r:List α):l.map f++r.map f=(l++r).map f:=List.map_append.symm
theorem repM {α:Type} (f:α→List D) (n:Nat) (z:α):List.replicate n (f z)=(List.replicate n z).map f:=by simp
theorem subM {α:Type} (f:α→List D) {l r:List α} {lo hi:Int} (h:sub l lo hi=some r):sub (l.map f) lo hi=some (r.map f):=by
 unfold sub at*
 split at h
 ·rename_i hc
  cases h
  rw [if_pos (by simpa using hc)]
  simp [List.map_take,List.map_drop]
 ·cases h
theorem szM {α:Type} {f:α→List D} {n:Nat} (hf:∀ y,(f y).length=n) (l:List α):∀ x∈l.map f,x.length=n:=by
 intro x hx
 obtain ⟨y,_,rfl⟩:=List.mem_map.1 hx
 exact hf y
theorem Zyb {α:Type} (l:List α):(l.drop 0).take l.length=l:=by simp
theorem Zu3 {α:Type} (l:List α):0+l.length≤l.length:=by omega
variable {P:Program} {Γ:Ctx} {σ σ':S}
def Z7o:Code→Array Oper|.region _ ops _=>ops|_=>#[]
def Zn2:Code→Bool|.region _ _ false=>true|_=>false
def Zfu (P:Program) (Γ:Ctx) (ops:Array Oper) (l:List Nat) (K:List Z26) (Q:Exit→S→Prop) (σ:S):Prop:=
 ∀ a w G β,Z04 Γ σ a w G β→wpOps P ops (fun e a' w'=>∃ σ' G' β',Z04 Γ σ' a' w' G' β'∧Z3k P Γ K Q e σ') l a w
theorem At.ops {c:Code} {K:List Z26} {Q:Exit→S→Prop} {l:List Nat} (hc:Zn2 c=true) (hl:List.range (Z7o c).size=l) (h:Zfu P Γ (Z7o c) l K Q σ):At P Γ c K Q σ:=by
 subst hl
 unfold Zn2 at hc
 split at hc
 ·exact fun a w G β hC=>wp_region (h a w G β hC)
 ·cases hc
theorem Zop {ops:Array Oper} {told:List (Nat×Z18)} {gs:List (Nat×Bool)} {Q:Exit→Act→World→Prop} {l2:List Nat}:∀ (l:List Nat) {σ:S} {a:Act} {w:World} {G β} {p:Prop},Z04 Γ σ a w G β→
  Z7l P ops told gs l σ=some (σ',p)→p→(∀ a' w' G' β',Z04 Γ σ' a' w' G' β'→wpOps P ops Q l2 a' w')→wpOps P ops Q (l++l2) a w
 | [],σ,a,w,G,β,p,hC,h,hp,hQ=>by cases h; exact hQ _ _ _ _ hC
 | i :: r,σ,a,w,G,β,p,hC,h,hp,hQ=>by
  unfold Z7l at h
  split at h
  ·rename_i σ1 p1 h1
   split at h
   ·rename_i σ2 p2 h2
    cases h
    rw [List.cons_append,wpOps_cons]
    exact Zpb hC h1 hp.1 (fun a' w' G' β' hC'=>Zop r hC' h2 hp.2 hQ)
   ·cases h
  ·cases h
theorem Zfu.done {ops:Array Oper} {K:List Z26} {Q:Exit→S→Prop} (h:Z3k P Γ K Q .normal σ):Zfu P Γ ops [] K Q σ:=fun _ _ G β hC=>⟨σ,G,β,hC,h⟩
theorem EvOk.normal {Q:Exit→S→Prop} (h:Q .normal σ):EvOk P Γ Q σ .normal:=h
theorem neRet:Exit.ret≠ .normal:=fun h=>by cases h
def Z09:Nat:=18446744073709551616
theorem Zyc {T R:Type} {f:T→Option (Ctl T R)} (I:T→Prop) (μ:T→Nat) (Post:R→Prop)
  (step:∀ t,I t→∃ x,f t=some x∧match x with
   | .next t'=>I t'∧μ t'<μ t
   | .done r=>Post r):∀ (n:Nat) (t:T),I t→μ t<n→∃ r,Z07 f n t=some r∧Post r
 | 0,t,_,h=>absurd h (Nat.not_lt_zero _)
 | n + 1,t,hI,h=>by
  obtain ⟨x,hx,hp⟩:=step t hI
  cases x with
  | next t'=>
   obtain ⟨r,hr,hP⟩:=Zyc I μ Post step n t' hp.1 (by have:=hp.2; omega)
   exact ⟨r,by rw [Z07,hx]; exact hr,hP⟩
  | done r=>exact ⟨r,by rw [Z07,hx],hp⟩
theorem Y0b {f : FuncId} {fn : Func} (hf : P.funcs[f]? = some fn) (hname : (fn.name == "runtime.NumGoroutine") = false) (hb : fn.body.isNone = true) (hn : Extern.findNext fn = none) (he : Extern.find fn = some Extern.BytealgIndexByte.indexByte)
  (s:List UInt8) (c:Int):Zfm P f [.str s,.int .u8 c] (.int .i64 (Lib.indexByte s c.toNat.toUInt8)):=by
 intro w G vs h
 obtain ⟨v0,v1,rfl,h0,h1⟩:∃ v0 v1,vs= #[v0,v1]∧Z03 w G (fun _=>none) v0 (.str s)∧Z03 w G (fun _=>none) v1 (.int .u8 c):=by
  have hs:=h.size
  match vs,hs,h.rep with
  | ⟨[v0,v1]⟩,_,hr=>exact ⟨v0,v1,rfl,hr 0 v0 _ rfl rfl,hr 1 v1 _ rfl rfl⟩
 cases h0 with
 | str s'=>
  cases h1
  refine ⟨.int .i64 (Lib.indexByte s'.data.toList c.toNat.toUInt8),?_,.int .i64 _⟩
  rw [run_callFunc_extern hf hname hb hn he,Lib.run_indexByteString]
  rfl
end Go.Den
