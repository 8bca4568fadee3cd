/-
  Many steps at once: code with what follows it, run as far as the next branch that is not decided, the next loop, the end.
-/
import Derived.Test.YtiiilinleagffaaGreatDoorDenDraw
import Derived.Lib.Bytealg
import Derived.Test.YtiiilinleagffaaGreatDoorDenWrite
set_option linter.unusedVariables false
set_option linter.unusedSimpArgs false
namespace Go.Den
open Go.RowKit
def holds:List Prop→Prop
 | [] =>True
 | p::r=>p∧holds r
theorem Zjh:∀ {a b:List Prop},holds (a++b)→holds a∧holds b
 | [],_,h=>⟨trivial,h⟩
 | _::_,_,h=>⟨⟨h.1,(Zjh h.2).1⟩,(Zjh h.2).2⟩
def isCmp:BinOp→Bool
 | .eql|.neq|.lss|.leq|.gtr|.geq=>true
 | _=>false
def J0 (o:Oper) (t:Yt):Bool:=
 match o.op,t.ans with
 | .move _,_|.assign _,_|.fieldAddr ..,_|.field ..,_|.extract ..,_|.nilCheck _,_|.alloc _,_|.box ..,_|.build ..,_=>true
 | .load ..,.go=>true
 | .unOp ..,.go=>true
 | .convert ..,.go=>true
 | .binOp op ..,.go=>isCmp op
 | .call { callee:= .builtin .len,.. },.go=>true
 | .pick ..,.go=>true
 | _,_=>false
variable {P:Program} {Γ:Ctx} {σ σ':S} {a:Act} {w w':World} {G G':Nat→Nat} {β β':Nat→Option (Nat×Nat)}
theorem Z24 {k:IntKind} {n:Int} {d:D} {p:Prop} (h:W8 k n .go=some (d,p)):p:=by cases h; trivial
theorem strD_go {s:List UInt8} {d:D} {p:Prop} (h:strD s .go=some (d,p)):p:=by cases h; trivial
theorem Z6h {b:Bool} {d:D} {p:Prop} (h:L4 b .go=some (d,p)):p:=by cases h; trivial
theorem Z3d {op:BinOp} {xt:TypeId} {same:Bool} {d:D} {p:Prop} (h:ptrD P op xt same=some (d,p)):p:=by
 unfold ptrD at h
 repeat' split at h
 all_goals first|(cases h; done)|(cases h; trivial)
theorem Y22 {o:Oper} {t:Yt} (ht:J0 o t=true) {d:D} {p:Prop} (h:Xi P σ o t.ans=some (d,p)):p:=by
 obtain⟨dst,op,ty,pos,after,guard⟩:=o
 obtain⟨ans,args,rows,row⟩:=t
 cases op with
 | move x=>cases h; trivial
 | assign x=>cases h; trivial
 | fieldAddr s x f=>simp only[Xi] at h; split at h <;> cases h; trivial
 | field s x f=>
  simp only[Xi] at h
  split at h
  ·split at h <;> cases h; trivial
  ·cases h
 | extract x i=>
  simp only[Xi] at h
  split at h
  ·split at h <;> cases h; trivial
  ·cases h
 | nilCheck x=>simp only[Xi] at h; split at h <;> cases h <;> trivial
 | load t x=>
  cases ans <;> simp only[J0] at ht <;> try cases ht
  simp only[Xi,Js] at h
  split at h
  ·rename_i cs q hq
   split at h
   ·cases h
    unfold Kb at hq
    split at hq
    ·cases hq; trivial
    ·split at hq
     ·split at hq
      ·rename_i heq; cases heq
      ·split at hq <;> cases hq; trivial
     ·cases hq
    ·cases hq
   ·cases h
  ·cases h
 | unOp op t x=>
  cases ans <;> simp only[J0] at ht <;> try cases ht
  simp only[Xi,unD] at h
  split at h
  ·exact Z24 h
  ·exact Z6h h
  ·cases h
 | convert s t x=>
  cases ans <;> simp only[J0] at ht <;> try cases ht
  simp only[Xi,Z9i] at h
  split at h
  ·exact Z24 h
  ·cases h; trivial
  ·exact strD_go h
  ·cases h
 | binOp op xt x y yt=>
  cases ans <;> simp only[J0] at ht <;> try cases ht
  simp only[Xi,binD] at h
  split at h
  ·split at h
   ·cases ht
   ·cases ht
   ·split at h
    ·cases op <;> first|exact Z6h h|cases ht
    ·cases h
  ·cases op <;> first|exact Z6h h|cases ht
  ·split at h
   ·split at h
    ·exact Z6h h
    ·exact Z6h h
    ·cases h
   ·cases h
  ·split at h
   ·rename_i he; cases he
   ·cases h
  ·exact Z3d h
  ·exact Z3d h
  ·split at h
   ·exact Z3d h
   ·cases h
  ·cases h
 | call c=>
  obtain⟨callee,args,ts⟩:=c
  cases callee with
  | builtin b=>
   cases b with
   | len=>
    cases ans <;> simp only[J0] at ht <;> try cases ht
    simp only[Xi] at h
    split at h
    ·unfold lenD at h
     split at h
     ·exact Z24 h
     ·exact Z24 h
     ·exact Z24 h
     ·exact Z24 h
     ·cases h
    ·cases h
   | max=>cases ans <;> cases ht
   | min=>cases ans <;> cases ht
   | unsafeSliceData=>cases ans <;> cases ht
   | _=>cases h
  | _=>cases h
 | pick c x y=>
  cases ans <;> simp only[J0] at ht <;> try cases ht
  simp only[Xi,Zcg] at h
  split at h
  ·split at h <;> cases h <;> trivial
  ·cases h
 | alloc _=>cases h
 | box _ _=>cases h
 | build _ _=>cases h
 | _=>cases ans <;> simp[J0] at ht
theorem Zx4 {o:Oper} {t:Yt} (ht:J0 o t=true) {p:Prop} (h:Qe P σ o t=some (σ',p)):p:=by
 unfold Qe at h
 split at h
 ·rename_i d q hq
  split at h
  ·cases h; exact Y22 ht hq
  ·cases h
 ·rename_i hn
  obtain⟨dst,op,ty,pos,after,guard⟩:=o
  cases op with
  | alloc e=>
   simp only[Vt] at h
   split at h
   ·obtain⟨_,_,_,_,_,rfl⟩:=Z05 h; trivial
   ·cases h
  | box e x=>
   simp only[Vt] at h
   split at h
   ·split at h
    ·split at h <;> cases h; trivial
    ·obtain⟨_,_,_,_,_,rfl⟩:=Z05 h; trivial
   ·cases h
  | build t parts=>
   simp only[Vt] at h
   split at h
   ·split at h
    ·split at h <;> cases h; trivial
    ·cases h
   ·cases h
  | call c=>
   obtain⟨callee,args,ts⟩:=c
   cases callee with
   | builtin b=>
    obtain⟨ans,args',rows,row⟩:=t
    cases b <;> first
     | (cases h; done)
     | (cases ans <;> simp[J0] at ht)
   | value f=>obtain⟨ans,args',rows,row⟩:=t; cases ans <;> simp[J0] at ht
   | invoke r m=>cases h
  | convert s d x=>
   obtain⟨ans,args',rows,row⟩:=t
   cases ans <;> simp[J0] at ht
   simp only[Vt,Z26] at h
   repeat' split at h
   all_goals first
    | (cases h; done)
    | (cases h; trivial)
    | (rename_i heq _; cases heq; done)
    | (rename_i heq; cases heq; done)
    | simp at*
  | _=>first
   | cases h
   | (obtain⟨ans,args',rows,row⟩:=t; cases ans <;> simp[J0] at ht)
def trivAt (ops:Array Oper) (told:List (Nat×Yt)) (i:Nat):Bool:=
 match ops[i]? with
 | none=>true
 | some o=>match o.guard with
  | none=>J0 o (Vj told i)
  | some _=>false
def runL (P:Program) (ops:Array Oper) (told:List (Nat×Yt)) (gs:List (Nat×Bool)):List Nat→S→Option (S×List Prop)
 | [],σ=>some (σ,[])
 | i :: r,σ=>
  match Vl P ops told gs i σ with
  | some (σ',p)=>
   match runL P ops told gs r σ' with
   | some (σ'',q)=>match trivAt ops told i with
    | true=>some (σ'',q)
    | false=>some (σ'',p::q)
   | none=>none
  | none=>none
inductive Q0 where
 | seq (z:Code)
 | blk (id:Nat)
def Vx (P:Program) (Γ:Ctx):List Q0→(Exit→S→Prop)→Exit→S→Prop
 | [],Q=>Q
 | .seq z::K,Q=>λe σ=>match e with
  | .normal=>DWP P Γ z (Vx P Γ K Q) σ
  | e=>Vx P Γ K Q e σ
 | .blk id::K,Q=>λe σ=>match e with
  | .exit id'=>if id'=id then Vx P Γ K Q .normal σ else Vx P Γ K Q (.exit id') σ
  | e=>Vx P Γ K Q e σ
def At (P:Program) (Γ:Ctx) (c:Code) (K:List Q0) (Q:Exit→S→Prop) (σ:S):Prop:=DWP P Γ c (Vx P Γ K Q) σ
inductive Ev where
 | cond (b:Bool) (x y:Code) (K:List Q0)
 | loop (c:Code) (K:List Q0)
 | ret
 | exit (id:Nat)
 | normal
 | stop (c:Code) (K:List Q0)
def popN:List Q0→Option (Code×List Q0)
 | [] =>none
 | .seq z::K=>some (z,K)
 | .blk _::K=>popN K
def J5 (id:Nat):List Q0→Option (List Q0)
 | [] =>none
 | .seq _::K=>J5 id K
 | .blk id'::K=>match id==id' with
  | true=>some K
  | false=>J5 id K
def EvOk (P:Program) (Γ:Ctx) (Q:Exit→S→Prop) (σ:S):Ev→Prop
 | .cond b x y K=>(b=true→At P Γ x K Q σ)∧(b=false→At P Γ y K Q σ)
 | .loop c K=>At P Γ (.loop c) K Q σ
 | .ret=>Q .ret σ
 | .exit id=>Q (.exit id) σ
 | .normal=>Q .normal σ
 | .stop c K=>At P Γ c K Q σ
theorem Za3 {Q:Exit→S→Prop}:∀ (K:List Q0),Q .ret σ→Vx P Γ K Q .ret σ
 | [],h=>h
 | .seq _::K,h=>Za3 K h
 | .blk _::K,h=>Za3 K h
theorem Zbt {Q:Exit→S→Prop}:∀ {K:List Q0},(∀ z K',popN K=some (z,K')→At P Γ z K' Q σ)→(popN K=none→Q .normal σ)→Vx P Γ K Q .normal σ
 | [],_,h2=>h2 rfl
 | .seq z::K,h1,_=>h1 z K rfl
 | .blk _::K,h1,h2=>Zbt (K:=K) (λz K' h=>h1 z K' h) (λh=>h2 h)
theorem Z8b {Q:Exit→S→Prop} {id:Nat}:∀ {K:List Q0},(∀ K',J5 id K=some K'→Vx P Γ K' Q .normal σ)→(J5 id K=none→Q (.exit id) σ)→Vx P Γ K Q (.exit id) σ
 | [],_,h2=>h2 rfl
 | .seq z::K,h1,h2=>Z8b (K:=K) (λK' h=>h1 K' h) (λh=>h2 h)
 | .blk id'::K,h1,h2=>by
  show (if id=id' then Vx P Γ K Q .normal σ else Vx P Γ K Q (.exit id) σ)
  split
  ·rename_i e; subst e; exact h1 K (by simp[J5])
  ·rename_i e
   have e':(id==id')=false:=by simpa using e
   exact Z8b (K:=K) (λK' h=>h1 K' (by unfold J5; rw[e']; exact h)) (λh=>h2 (by unfold J5; rw[e']; exact h))
def AtO (P:Program) (Γ:Ctx) (c:Option Code) (K:List Q0) (Q:Exit→S→Prop) (σ:S):Prop:=
 match c with
 | some c=>At P Γ c K Q σ
 | none=>Vx P Γ K Q .normal σ
theorem At.exitK {K K':List Q0} {Q:Exit→S→Prop} {id:Nat} (h:J5 id K=some K') (hr:Vx P Γ K' Q .normal σ):Vx P Γ K Q (.exit id) σ:=
 Z8b (λK'' h'=>by rw[h] at h'; cases h'; exact hr) (λh'=>by rw[h] at h'; cases h')
theorem At.retK {K:List Q0} {Q:Exit→S→Prop} (hr:Q .ret σ):Vx P Γ K Q .ret σ:=Za3 K hr
theorem Zb.at {f:FuncId} {fn:Func} (c:Code) {ds:List D} {r:D} (hf:P.funcs[f]?=some fn) (hb:fn.body=some c) (hent:Ji P f=true) (hn:ds.length≤fn.ntmps)
  (h:∀ Γ:Ctx,At P Γ c [] (Ends P fn r) (mkS fn.ntmps (Ve 0 ds) [])):Zb P f ds r:=Zb.mk hf hb hent hn h
theorem bindE {α β:Type} {o:Option α} {f:α→Option β} {r:β} (h:o.bind f=some r):∃ x,o=some x∧f x=some r:=by
 cases o with
 | none=>cases h
 | some x=>exact⟨x,rfl,h⟩
theorem iteT {α:Type} {b:Bool} {x y r:α} (hb:b=true) (h:(if b=true then x else y)=r):x=r:=by rwa [if_pos hb] at h
theorem iteF {α:Type} {b:Bool} {x y r:α} (hb:b=false) (h:(if b=true then x else y)=r):y=r:=by rwa [if_neg (by simp[hb])] at h
theorem someE {α:Type} {x y:α} (h:some x=some y):x=y:=Option.some.inj h
theorem Zwh {α β:Type} (f:α→β) {l:List α} {i:Int} {x:α} (h:Z5 l i=some x):Z5 (l.map f) i=some (f x):=by
 unfold Z5 at*
 split at h
 ·rename_i h0
  rw[if_pos h0,List.getElem?_map,h]; rfl
 ·cases h
end Go.Den
namespace Go.Den
open Go.RowKit
def U9:Code→Code|.seq a _=>a|.cond _ a _=>a|.block _ a=>a|.loop a=>a|c=>c
def Qr:Code→Code|.seq _ b=>b|.cond _ _ b=>b|c=>c
def Z1 (n:Int):List D:=[.int .i64 n]
def rU8 (n:Int):List D:=[.int .u8 n]
def Zk (b:Bool):List D:=[.bool b]
def Q2 (s:List UInt8):List D:=[.str s]
def rSl {α:Type} (f:α→List D) (l:List α):List D:=[.sl false (l.map f)]
def V1 (k:IntKind) (x y:Int):Int:=k.wrap (BitVec.ofInt k.bits x &&& BitVec.ofInt k.bits y).toNat
def divK (k:IntKind) (a b:Int):Option Int:=if b≠0 then some (k.wrap (a.tdiv b)) else none
theorem Zxj {k:IntKind} {a b m:Int} (h:divK k a b=some m):b≠0∧k.wrap (a.tdiv b)=m:=by
 unfold divK at h; split at h
 ·exact⟨by assumption,Option.some.inj h⟩
 ·cases h
def modK (a b:Int):Option Int:=if b≠0 then some (a.tmod b) else none
theorem Zyc {a b m:Int} (h:modK a b=some m):b≠0∧a.tmod b=m:=by
 unfold modK at h; split at h
 ·exact⟨by assumption,Option.some.inj h⟩
 ·cases h
def K1 (k:IntKind) (a y:Int):Option Int:=if 0≤y then some (k.wrap (a*2 ^ (min y.toNat k.bits))) else none
theorem Zyd {k:IntKind} {a y m:Int} (h:K1 k a y=some m):0≤y∧k.wrap (a*2 ^ (min y.toNat k.bits))=m:=by
 unfold K1 at h; split at h
 ·exact⟨by assumption,Option.some.inj h⟩
 ·cases h
def shrK (k:IntKind) (a y:Int):Option Int:=if 0≤y then some (a.fdiv (2 ^ (min y.toNat k.bits))) else none
theorem Y1p {k:IntKind} {a y m:Int} (h:shrK k a y=some m):0≤y∧a.fdiv (2 ^ (min y.toNat k.bits))=m:=by
 unfold shrK at h; split at h
 ·exact⟨by assumption,Option.some.inj h⟩
 ·cases h
def Xr (a b:List UInt8):Option (List UInt8):=if a.length+b.length≤9223372036854775807 then some (a++b) else none
theorem Y02 {a b m:List UInt8} (h:Xr a b=some m):a.length+b.length≤9223372036854775807∧a++b=m:=by
 unfold Xr at h; split at h
 ·exact⟨by assumption,Option.some.inj h⟩
 ·cases h
def Xq (i:Int) (n:Nat):Option Nat:=if 0≤i∧i<n then some i.toNat else none
theorem Lb {i:Int} {n n' j:Nat} (h:Xq i n=some j) (hn:n'=n):0≤i∧i<n'∧((0:Nat):Int)+i=j:=by
 subst hn
 unfold Xq at h; split at h
 ·cases h; omega
 ·cases h
def W1 (bytes:Nat) (l c:Int):Option Unit:=if 0≤l∧l≤c∧(bytes:Int)*c≤281474976710656∧c≤9223372036854775807 then some () else none
theorem Zcu {bytes:Nat} {l c:Int} {u:Unit} (h:W1 bytes l c=some u):0≤l∧l≤c∧(bytes:Int)*c≤281474976710656∧c≤9223372036854775807:=by
 unfold W1 at h; split at h
 ·assumption
 ·cases h
def Ye (bytes:Nat) (n:Nat):Option Unit:=if n≤9223372036854775807∧n*bytes≤140737488355328 then some () else none
theorem Zeb {bytes n n':Nat} {u:Unit} (h:Ye bytes n=some u) (hn:n'=n):n'≤9223372036854775807∧n'*bytes≤140737488355328:=by
 subst hn
 unfold Ye at h; split at h
 ·assumption
 ·cases h
def Zb7 {α β:Type} (olds:List α) (news:List β):Option Unit:=if olds=[]∨news≠[] then some () else none
def dI (n:Int):D:= .int .i64 n
def d8 (n:Int):D:= .int .u8 n
def tN:Nat→Prop
 | 0=>True
 | n+1=>True∧tN n
theorem tNi:∀ n,tN n
 | 0=>trivial
 | n+1=>⟨trivial,tNi n⟩
def cq (P:Program) (p:Prop) (f:FuncId) (A:List D) (r:D):Prop:=p∧A=A∧Z2t P f A r
theorem cqi {P:Program} {p:Prop} {f:FuncId} {A:List D} {r:D} (hp:p) (h:Zb P f A r):cq P p f A r:=⟨hp,rfl,.inl h⟩
def cqo (P:Program) (p:Prop) (f:FuncId) (A:List D) (B:List Blk) (r:D) (B':List Blk):Prop:=p∧A=A∧B=B∧Vk P f A B r B'
theorem cqoi {P:Program} {p:Prop} {f:FuncId} {A:List D} {B:List Blk} {r:D} {B':List Blk} (hp:p) (h:Vk P f A B r B'):cqo P p f A B r B':=⟨hp,rfl,rfl,h⟩
theorem freshM {α β:Type} {f:α→List D} (g:β→List D) {olds:List α} {news:List β} {u:Unit} (h:Zb7 olds news=some u):(olds.map f=[]∨news.map g≠[]):=by
 unfold Zb7 at h
 split at h
 ·rename_i hc
  rcases hc with hc|hc
  ·exact .inl (by rw[hc]; rfl)
  ·exact .inr (by simpa using hc)
 ·cases h
theorem Zzf (l:List Int):Kl (l.map rU8)=some (l.map λn=>UInt8.ofNat n.toNat):=by
 induction l with
 | nil=>rfl
 | cons a r ih=>simp only[List.map_cons]; unfold rU8 Kl; rw[show (List.map (λn=>[D.int IntKind.u8 n]) r)=r.map rU8 from rfl,ih]
def bytesOf (l:List Int):List UInt8:=l.map λn=>UInt8.ofNat n.toNat
theorem Zy1 (l:List Int):Kl (l.map rU8)=some (bytesOf l):=Zzf l
def Zks (n:Int):List UInt8:=(Utf8.encode n).data.toList
theorem lenM {α:Type} (f:α→List D) (l:List α):((l.map f).length:Int)=(l.length:Int):=by simp
theorem lenMN {α:Type} (f:α→List D) (l:List α):(l.map f).length=l.length:=by simp
theorem getM {α:Type} (f:α→List D) {l:List α} {j:Nat} {x:α} (h:l[j]?=some x):(l.map f)[j]?=some (f x):=by simp[h]
theorem setM {α:Type} (f:α→List D) (l:List α) (j:Nat) (y:α):(l.map f).set j (f y)=(l.set j y).map f:=List.map_set.symm
theorem appM {α:Type} (f:α→List D) (l r:List α):l.map f++r.map f=(l++r).map f:=List.map_append.symm
theorem repM {α:Type} (f:α→List D) (n:Nat) (z:α):List.replicate n (f z)=(List.replicate n z).map f:=by simp
theorem subM {α:Type} (f:α→List D) {l r:List α} {lo hi:Int} (h:sub l lo hi=some r):sub (l.map f) lo hi=some (r.map f):=by
 unfold sub at*
 split at h
 ·rename_i hc
  cases h
  rw[if_pos (by simpa using hc)]
  simp[List.map_take,List.map_drop]
 ·cases h
theorem szM {α:Type} {f:α→List D} {n:Nat} (hf:∀ y,(f y).length=n) (l:List α):∀ x∈l.map f,x.length=n:=by
 intro x hx
 obtain⟨y,_,rfl⟩:=List.mem_map.1 hx
 exact hf y
theorem Zv4 {α:Type} (l:List α):(l.drop 0).take l.length=l:=by simp
theorem Ztu {α:Type} (l:List α):0+l.length≤l.length:=by omega
theorem noneE {α:Type} {x:α} {p:Prop} (h:(none:Option α)=some x):p:=by cases h
variable {P:Program} {Γ:Ctx} {σ σ':S}
def Z00:Code→Array Oper|.region _ ops _=>ops|_=>#[]
def Zl4:Code→Bool|.region _ _ false=>true|_=>false
def Z73 (P:Program) (Γ:Ctx) (ops:Array Oper) (l:List Nat) (K:List Q0) (Q:Exit→S→Prop) (σ:S):Prop:=
 ∀ a w G β,Za Γ σ a w G β→wpOps P ops (λe a' w'=>∃ σ' G' β',Za Γ σ' a' w' G' β'∧Vx P Γ K Q e σ') l a w
theorem At.ops {c:Code} {K:List Q0} {Q:Exit→S→Prop} {l:List Nat} (hc:Zl4 c=true) (hl:List.range (Z00 c).size=l) (h:Z73 P Γ (Z00 c) l K Q σ):At P Γ c K Q σ:=by
 subst hl
 unfold Zl4 at hc
 split at hc
 ·exact λa w G β hC=>wp_region (h a w G β hC)
 ·cases hc
theorem Zlt {ops:Array Oper} {told:List (Nat×Yt)} {gs:List (Nat×Bool)} {Q:Exit→Act→World→Prop} {l2:List Nat}:∀ (l:List Nat) {σ:S} {a:Act} {w:World} {G β} {p:Prop},Za Γ σ a w G β→
  M4 P ops told gs l σ=some (σ',p)→p→(∀ a' w' G' β',Za Γ σ' a' w' G' β'→wpOps P ops Q l2 a' w')→wpOps P ops Q (l++l2) a w
 | [],σ,a,w,G,β,p,hC,h,hp,hQ=>by cases h; exact hQ _ _ _ _ hC
 | i :: r,σ,a,w,G,β,p,hC,h,hp,hQ=>by
  unfold M4 at h
  split at h
  ·rename_i σ1 p1 h1
   split at h
   ·rename_i σ2 p2 h2
    cases h
    rw[List.cons_append,wpOps_cons]
    exact Ziq hC h1 hp.1 (λa' w' G' β' hC'=>Zlt r hC' h2 hp.2 hQ)
   ·cases h
  ·cases h
theorem Z73.done {ops:Array Oper} {K:List Q0} {Q:Exit→S→Prop} (h:Vx P Γ K Q .normal σ):Z73 P Γ ops [] K Q σ:=λ_ _ G β hC=>⟨σ,G,β,hC,h⟩
theorem EvOk.normal {Q:Exit→S→Prop} (h:Q .normal σ):EvOk P Γ Q σ .normal:=h
theorem neRet:Exit.ret≠ .normal:=λh=>by cases h
def Z8:Nat:=18446744073709551616
theorem Zk3 {T R:Type} {f:T→Option (Ctl T R)} (I:T→Prop) (μ:T→Nat) (Post:R→Prop)
  (step:∀ t,I t→∃ x,f t=some x∧match x with
   | .next t'=>I t'∧μ t'<μ t
   | .done r=>Post r):∀ (n:Nat) (t:T),I t→μ t<n→∃ r,Z7 f n t=some r∧Post r
 | 0,t,_,h=>absurd h (Nat.not_lt_zero _)
 | n + 1,t,hI,h=>by
  obtain⟨x,hx,hp⟩:=step t hI
  cases x with
  | next t'=>
   obtain⟨r,hr,hP⟩:=Zk3 I μ Post step n t' hp.1 (by have:=hp.2; omega)
   exact⟨r,by rw[Z7,hx]; exact hr,hP⟩
  | done r=>exact⟨r,by rw[Z7,hx],hp⟩
end Go.Den
namespace Go.Tot
open Go.Den Go.RowKit
def Ok {α:Type} (o:Option α) (P:α→Prop):Prop:=∃ r,o=some r∧P r
section
variable {α β:Type} {P P':α→Prop} {Q:β→Prop}
theorem ok {x:α} (h:P x):Ok (some x) P:=⟨x,rfl,h⟩
theorem Ok.mono {o:Option α} (h:Ok o P) (k:∀ x,P x→P' x):Ok o P':=by
 obtain⟨r,e,p⟩:=h
 exact⟨r,e,k r p⟩
theorem bd {o:Option α} {f:α→Option β} (h:Ok o P) (k:∀ x,P x→Ok (f x) Q):Ok (o.bind f) Q:=by
 obtain⟨r,e,p⟩:=h
 obtain⟨r',e',p'⟩:=k r p
 exact⟨r',by rw[e]; exact e',p'⟩
theorem bs {x:α} {f:α→Option β} (k:Ok (f x) Q):Ok ((some x).bind f) Q:=k
theorem bdE {o:Option α} {f:α→Option β} (h:Ok o P) (k:∀ x,o=some x→P x→Ok (f x) Q):Ok (o.bind f) Q:=by
 obtain⟨r,e,p⟩:=h
 obtain⟨r',e',p'⟩:=k r e p
 exact⟨r',by rw[e]; exact e',p'⟩
theorem br {b:Bool} {x y:Option α} (T:b=true→Ok x P) (F:b=false→Ok y P):Ok (if b=true then x else y) P:=by
 cases b with
 | true=>exact T rfl
 | false=>exact F rfl
theorem brD {p:Prop} [Decidable p] {x y:Option α} (T:p→Ok x P) (F: ¬p→Ok y P):Ok (if decide p=true then x else y) P:=by
 by_cases h:p
 ·rw[if_pos (decide_eq_true h)]; exact T h
 ·rw[if_neg (by simpa using h)]; exact F h
theorem brE {n m:Int} {x y:Option α} (T:n=m→Ok x P) (F:n≠m→Ok y P):Ok (if (n==m)=true then x else y) P:=by
 by_cases h:n=m
 ·rw[if_pos (by simpa using h)]; exact T h
 ·rw[if_neg (by simpa using h)]; exact F h
theorem brN {n m:Int} {x y:Option α} (T:n≠m→Ok x P) (F:n=m→Ok y P):Ok (if (n !=m)=true then x else y) P:=by
 by_cases h:n=m
 ·rw[if_neg (by simp[h])]; exact F h
 ·rw[if_pos (by simpa using h)]; exact T h
theorem br! {b:Bool} {x y:Option α} (T:b=false→Ok x P) (F:b=true→Ok y P):Ok (if (!b)=true then x else y) P:=by
 cases b with
 | true=>exact F rfl
 | false=>exact T rfl
end
section
variable {T R:Type} {f:T→Option (Ctl T R)} {Q:R→Prop}
def St (I:T→Prop) (ix:T→Int) (n:Int) (Q:R→Prop) (t:T):Ctl T R→Prop
 | .next t'=>I t'∧ix t<ix t'∧ix t'≤n
 | .done r=>Q r
variable {I:T→Prop} {ix:T→Int} {n:Int} {t:T}
theorem nx {t':T} (h:I t') (h1:ix t<ix t':=by first|omega|(dsimp only; omega)) (h2:ix t'≤n:=by first|omega|(dsimp only; omega)):Ok (some (Ctl.next t':Ctl T R)) (St I ix n Q t):=⟨_,rfl,h,h1,h2⟩
theorem dn {r:R} (h:Q r):Ok (some (Ctl.done r:Ctl T R)) (St I ix n Q t):=⟨_,rfl,h⟩
theorem lp (ix:T→Int) (n:Int) (I:T→Prop) (h:∀ t,I t→0≤ix t→ix t≤n→Ok (f t) (St I ix n Q t)) {t0:T} (hn:n≤9223372036854775807) (h0:I t0) (h1:0≤ix t0:=by first|omega|(dsimp only; omega)) (h2:ix t0≤n:=by first|omega|(dsimp only; omega)):Ok (Z7 f Z8 t0) Q:=by
 refine Zk3 (λt=>I t∧0≤ix t∧ix t≤n) (λt=>(n - ix t).toNat) Q (λt ht=>?_) Z8 t0 ⟨h0,h1,h2⟩ (by unfold Z8; omega)
 obtain⟨x,e,p⟩:=h t ht.1 ht.2.1 ht.2.2
 refine⟨x,e,?_⟩
 cases x with
 | next t'=>exact⟨⟨p.1,by have:=p.2.1; omega,p.2.2⟩,by have:=p.2.1; have:=p.2.2; omega⟩
 | done r=>exact p
end
section
variable {R:Type} {f:Int→Option (Ctl Int R)} {Q:R→Prop}
def Si (n:Int) (Q:R→Prop) (t:Int):Ctl Int R→Prop
 | .next t'=>t<t'∧t'≤n
 | .done r=>Q r
variable {n t:Int}
theorem ni {t':Int} (h1:t<t':=by omega) (h2:t'≤n:=by omega):Ok (some (Ctl.next t':Ctl Int R)) (Si n Q t):=⟨_,rfl,h1,h2⟩
theorem di {r:R} (h:Q r):Ok (some (Ctl.done r:Ctl Int R)) (Si n Q t):=⟨_,rfl,h⟩
theorem li (n:Int) (h:∀ t,0≤t→t≤n→Ok (f t) (Si n Q t)) {t0:Int} (hn:n≤9223372036854775807:=by omega) (h1:0≤t0:=by omega) (h2:t0≤n:=by omega):Ok (Z7 f Z8 t0) Q:=
 lp (λt=>t) n (λ_=>True) (λt _ a b=>(h t a b).mono λx hx=>by
  cases x with
  | next t'=>exact⟨trivial,hx.1,hx.2⟩
  | done r=>exact hx) hn trivial h1 h2
end
section
variable {α:Type}
theorem Ub {n:Int} (h0: -9223372036854775808≤n) (h1:n≤9223372036854775807):IntKind.wrap .i64 n=n:=by
 have h:∀ m:Int,IntKind.wrap .i64 m=(m+9223372036854775808) % 18446744073709551616 - 9223372036854775808:=λm=>by
  unfold IntKind.wrap
  simp[IntKind.bits,IntKind.signed,Int.bmod]
  omega
 rw[h]; omega
theorem wr {n:Int} (h0: -9223372036854775808≤n:=by omega) (h1:n≤9223372036854775807:=by omega):Ok (some (IntKind.wrap .i64 n)) λv=>v=n:=ok (Ub h0 h1)
theorem sm {x:α}:Ok (some x) λ_=>True:=ok trivial
theorem gr {l:List α} {i:Int} (h0:0≤i:=by omega) (h1:i<l.length:=by omega):Ok (Z5 l i) λx=>x∈l:=by
 have hlt:i.toNat<l.length:=by omega
 refine⟨l[i.toNat],?_,List.getElem_mem hlt⟩
 unfold Z5
 rw[if_pos h0,List.getElem?_eq_getElem hlt]
theorem gri {l:List α} {i:Int} (h0:0≤i:=by omega) (h1:i<l.length:=by omega):Ok (Z5 l i) λx=>x∈l∧l[i.toNat]?=some x:=by
 have hlt:i.toNat<l.length:=by omega
 refine⟨l[i.toNat],?_,List.getElem_mem hlt,List.getElem?_eq_getElem hlt⟩
 unfold Z5
 rw[if_pos h0,List.getElem?_eq_getElem hlt]
theorem gs {s:List UInt8} {i:Int} (h0:0≤i:=by omega) (h1:i<s.length:=by omega):Ok (Vh s i) λx=>0≤x∧x<256:=by
 have hlt:i.toNat<s.length:=by omega
 refine⟨(s[i.toNat].toNat:Int),?_,by omega,by have:=s[i.toNat].toNat_lt; omega⟩
 unfold Vh
 rw[if_pos h0,List.getElem?_eq_getElem hlt]
 rfl
theorem ik {i:Int} {n:Nat} (h0:0≤i:=by omega) (h1:i<n:=by omega):Ok (Xq i n) λj=>j=i.toNat∧j<n:=⟨i.toNat,by unfold Xq; rw[if_pos ⟨h0,h1⟩],rfl,by omega⟩
theorem la {l:List α} {j:Nat} (h:j<l.length):Ok (l[j]?) λx=>l[j]?=some x∧x∈l:=⟨l[j],List.getElem?_eq_getElem h,List.getElem?_eq_getElem h,List.getElem_mem h⟩
theorem gk {b n:Nat} (h:n*b≤140737488355328:=by first|omega|(simp only[List.length_append,List.length_cons,List.length_nil]; omega)) (hn:n≤9223372036854775807:=by first|omega|(simp only[List.length_append,List.length_cons,List.length_nil]; omega)):Ok (Ye b n) λ_=>True:=⟨(),by unfold Ye; rw[if_pos ⟨hn,h⟩],trivial⟩
theorem mk {b:Nat} {l c:Int} (h0:0≤l) (h1:l≤c) (h2:(b:Int)*c≤281474976710656) (h3:c≤9223372036854775807):Ok (W1 b l c) λ_=>True:=⟨(),by unfold W1; rw[if_pos ⟨h0,h1,h2,h3⟩],trivial⟩
theorem ct {a b:List UInt8} (h:a.length+b.length≤9223372036854775807):Ok (Xr a b) λm=>m=a++b∧m.length=a.length+b.length:=⟨a++b,by unfold Xr; rw[if_pos h],rfl,List.length_append⟩
theorem sb {l:List α} {lo hi:Int} (h0:0≤lo) (h1:lo≤hi) (h2:hi≤l.length):Ok (sub l lo hi) λr=>(r.length:Int)=hi - lo∧∀ x∈r,x∈l:=by
 unfold sub
 rw[if_pos (by omega)]
 refine ok ⟨by simp; omega,λx hx=>List.mem_of_mem_drop (List.mem_of_mem_take hx)⟩
end
end Go.Tot
namespace Go.Tot
open Go.Den Go.RowKit
variable {R:Type}
theorem allL {f:Int→Option (Ctl Int R)} {n:Int} {p:Int→Prop} {y z:R} (hn:0≤n) (hm:n≤9223372036854775807)
  (h:∀ t,0≤t→t<n→(∀ k,0≤k→k<t→p k)→Ok (f t) λx=>(x=.next (t+1)∧p t)∨(x=.done y∧ ¬p t)) (he:Ok (f n) λx=>x=.done z):
  Ok (Z7 f Z8 0) λq=>(q=z∧∀ t,0≤t→t<n→p t)∨(q=y∧∃ t,0≤t∧t<n∧ ¬p t):=by
 refine lp (λt=>t) n (λt=>∀ k,0≤k→k<t→p k) (λt hI h0 h1=>?_) hm (λk a b=>by omega) (by omega) (by omega)
 rcases Int.lt_or_le t n with hlt|hge
 ·refine(h t h0 hlt hI).mono λx hx=>?_
  rcases hx with ⟨e,g⟩|⟨e,g⟩
  ·subst e
   exact ⟨λk a b=>by
    rcases Int.lt_or_le k t with h'|h'
    ·exact hI k a h'
    ·rw[show k=t by omega]; exact g,by dsimp only; omega,by dsimp only; omega⟩
  ·subst e
   exact .inr ⟨rfl,t,h0,hlt,g⟩
 ·have:t=n:=by omega
  subst this
  refine he.mono λx hx=>?_
  subst hx
  exact .inl ⟨rfl,hI⟩
theorem allP {α:Type} {l:List α} {f:Int→Option (Ctl Int R)} {p:α→Prop} {y z:R} (hm:l.length≤9223372036854775807)
  (h:∀ (t:Int) v,0≤t→t<l.length→l[t.toNat]?=some v→v∈l→Z5 l t=some v→Ok (f t) λx=>(x=.next (t+1)∧p v)∨(x=.done y∧ ¬p v)) (he:Ok (f l.length) λx=>x=.done z):
  Ok (Z7 f Z8 0) λq=>(q=z∧∀ v∈l,p v)∨(q=y∧∃ v∈l,¬p v):=by
 refine(allL (n:=l.length) (p:=λt=>∀ v,l[t.toNat]?=some v→p v) (y:=y) (z:=z) (by omega) (by omega) (λt h0 h1 _=>?_) he).mono λq hq=>?_
 ·obtain⟨v,e,hm',hi⟩:=gri (l:=l) h0 h1
  refine(h t v h0 h1 hi hm' e).mono λx hx=>?_
  rcases hx with ⟨e,g⟩|⟨e,g⟩
  ·exact .inl ⟨e,λu hu=>by rw[hi] at hu; cases hu; exact g⟩
  ·exact .inr ⟨e,λg'=>g (g' v hi)⟩
 ·rcases hq with ⟨e,g⟩|⟨e,t,h0,h1,g⟩
  ·refine .inl ⟨e,λv hv=>?_⟩
   obtain⟨j,hj⟩:=List.mem_iff_getElem?.1 hv
   have hlt:=(List.getElem?_eq_some_iff.1 hj).1
   exact g j (by omega) (by omega) v (by rwa [show ((j:Nat):Int).toNat=j by omega])
  ·refine .inr ⟨e,?_⟩
   obtain⟨v,_,hm',hi⟩:=gri (l:=l) h0 h1
   refine⟨v,hm',λg'=>g λu hu=>?_⟩
   rw[hi] at hu; cases hu; exact g'
def Sm {T R:Type} (I:T→Prop) (μ:T→Nat) (Q:R→Prop) (t:T):Ctl T R→Prop
 | .next t'=>I t'∧μ t'<μ t
 | .done r=>Q r
theorem lm {T R:Type} {f:T→Option (Ctl T R)} {Q:R→Prop} (I:T→Prop) (μ:T→Nat) (h:∀ t,I t→Ok (f t) (Sm I μ Q t)) {t0:T} (h0:I t0) (hm:μ t0<Z8):Ok (Z7 f Z8 t0) Q:=
 Zk3 I μ Q (λt ht=>by
  obtain⟨x,e,p⟩:=h t ht
  refine⟨x,e,?_⟩
  cases x with
  | next t'=>exact p
  | done r=>exact p) Z8 t0 h0 hm
def Bit (l:List Bool) (j:Int):Prop:=0≤j∧l[j.toNat]?=some true
theorem Bit.set {l:List Bool} {v:Nat} {j:Int} (hv:v<l.length):Bit (l.set v true) j↔j=v∨Bit l j:=by
 unfold Bit
 rw[List.getElem?_set]
 by_cases h:v=j.toNat
 ·rw[if_pos h,if_pos hv]
  constructor
  ·intro g; left; omega
  ·rintro(g|g)
   ·exact⟨by omega,rfl⟩
   ·exact⟨g.1,rfl⟩
 ·rw[if_neg h]
  constructor
  ·intro g; exact .inr g
  ·rintro(g|g)
   ·omega
   ·exact g
theorem Bit.rep {n:Nat} {j:Int}: ¬Bit (List.replicate n false) j:=by
 rintro⟨h,g⟩
 rw[List.getElem?_replicate] at g
 split at g <;> simp at g
end Go.Tot
namespace Go.Proofs
open Go.Den Go.Tot Go.RowKit
structure LS where
 lev:List Int
 q:Int→List Int
def V2 (f:Int→List Int) (k:Int) (v:List Int):Int→List Int:=λj=>if j=k then v else f j
theorem Z4d {f:Int→List Int} {k:Int} {v:List Int}:V2 f k v k=v:=if_pos rfl
theorem Z25 {f:Int→List Int} {k j:Int} {v:List Int} (h:j≠k):V2 f k v j=f j:=if_neg h
def J3 (n k:Int) (s:LS):Option LS:=
 if decide (0<n)=true then
  (some (IntKind.wrap .i64 (n - 1))).bind λi=>(Xq i s.lev.length).bind λj=>(s.lev[j]?).bind λx=>
  if decide (x<k)=true then
   if 1≤k∧k≤4 then (Ye 8 ((s.q k).length+1)).bind λ_=>some ⟨s.lev.set j k,V2 s.q k (s.q k++[n])⟩ else none
  else some s
 else some s
def stR (l:List Int) (k:Int) (t:Int×LS):Option (Ctl (Int×LS) LS):=
 if decide (t.1<(l.length:Int))=true then (Z5 l t.1).bind λn=>(J3 n k t.2).bind λs=>(some (IntKind.wrap .i64 (t.1+1))).bind λi=>some (.next (i,s)) else some (.done t.2)
def Kk (nd:Int→Option (List Int×Int×Int)) (L:Int) (s:LS):Option (Ctl LS LS):=
 if decide (0<((s.q L).length:Int))=true then ((s.q L)[0]?).bind λn=>
  (some (IntKind.wrap .i64 (n - 1))).bind λi=>(Xq i s.lev.length).bind λj=>(s.lev[j]?).bind λx=>
  if (x !=L)=true then some (.next ⟨s.lev,V2 s.q L ((s.q L).drop 1)⟩)
  else (nd n).bind λy=>(Z7 (stR y.1 L) Z8 (0,⟨s.lev,V2 s.q L ((s.q L).drop 1)⟩)).bind λs2=>(some (if y.2.2<L then y.2.2 else L)).bind λmn=>(J3 y.2.1 mn s2).bind λs3=>some (.next s3)
 else some (.done s)
def levF (nd:Int→Option (List Int×Int×Int)) (t:Int×LS):Option (Ctl (Int×LS) (List Int)):=
 if decide (0<t.1)=true then (Z7 (Kk nd t.1) Z8 t.2).bind λs=>(some (IntKind.wrap .i64 (t.1 - 1))).bind λi=>some (.next (i,s)) else some (.done t.2.lev)
def Zgs (N:Nat) (roots:List Int) (nd:Int→Option (List Int×Int×Int)):Option (List Int):=
 (Z7 (stR roots 4) Z8 (0,⟨List.replicate N 0,λ_=>[]⟩)).bind λs=>Z7 (levF nd) Z8 (4,s)
def LS.at (s:LS) (n:Int):Int:=s.lev.getD (n - 1).toNat 0
def LS.Dn (g:Gr) (s:LS) (n:Int):Prop:=(∀ m∈g.refs n,s.at n≤s.at m)∧(g.to n≠0→min (s.at n) (g.str n)≤s.at (g.to n))
def gap (l:List Int):Nat:=(l.map λx=>(4 - x).toNat).sum
def LS.mu (s:LS):Nat:=2*gap s.lev+((s.q 1).length+(s.q 2).length+(s.q 3).length+(s.q 4).length)
theorem Zty:∀ (l:List Int) (j:Nat) (x k:Int),l[j]?=some x→gap (l.set j k)+(4 - x).toNat=gap l+(4 - k).toNat
 | [],j,x,k,h=>by simp at h
 | y::l,0,x,k,h=>by simp at h; subst h; simp[gap]; omega
 | y::l,j+1,x,k,h=>by
  have:=Zty l j x k (by simpa using h)
  simp only[gap,List.set_cons_succ,List.map_cons,List.sum_cons] at this ⊢
  omega
theorem at_set {s:LS} {n m k:Int} {q:Int→List Int} (hn:1≤n) (hl:n≤s.lev.length) (hm:1≤m):(LS.mk (s.lev.set (n - 1).toNat k) q).at m=if m=n then k else s.at m:=by
 unfold LS.at
 simp only[List.getD_eq_getElem?_getD,List.getElem?_set]
 by_cases h:m=n
 ·subst h
  rw[if_pos rfl,if_pos rfl,if_pos (by omega)]; rfl
 ·rw[if_neg (by omega),if_neg h]
theorem Zpj {s:LS} {n x:Int} (h:s.lev[(n - 1).toNat]?=some x):s.at n=x:=by
 unfold LS.at; rw[List.getD_eq_getElem?_getD,h]; rfl
theorem Zmn (s:LS) (l:List Int) (k:Int) (v:List Int) (hk:1≤k∧k≤4):(LS.mk l (V2 s.q k v)).mu+(s.q k).length+2*gap s.lev=s.mu+v.length+2*gap l:=by
 have:k=1∨k=2∨k=3∨k=4:=by omega
 rcases this with rfl|rfl|rfl|rfl <;> simp[LS.mu,V2] <;> omega
theorem q_le_mu (s:LS) (k:Int) (hk:1≤k∧k≤4):(s.q k).length≤s.mu:=by
 have:k=1∨k=2∨k=3∨k=4:=by omega
 rcases this with rfl|rfl|rfl|rfl <;> simp[LS.mu] <;> omega
structure Z13 (g:Gr) (L:Int) (ex:Int→Prop) (s:LS):Prop where
 len:s.lev.length=g.N
 rng:∀ n:Int,1≤n→n≤g.N→0≤s.at n∧s.at n≤4
 snd:∀ n:Int,1≤n→n≤g.N→1≤s.at n→g.Re (s.at n) n
 mem:∀ k,∀ n∈s.q k,1≤n∧n≤g.N
 emp:∀ k,L<k→s.q k=[]
 dn:∀ n:Int,1≤n→n≤g.N→1≤s.at n→n∈s.q (s.at n)∨ex n∨s.Dn g n
structure Up (g:Gr) (k:Int) (s s':LS):Prop where
 mu:s'.mu≤s.mu
 le:∀ m:Int,1≤m→m≤g.N→s.at m≤s'.at m
 eq:∀ m:Int,1≤m→m≤g.N→k≤s.at m→s'.at m=s.at m
theorem Up.refl {g:Gr} {k:Int} {s:LS}:Up g k s s:=⟨Nat.le_refl _,λ_ _ _=>Int.le_refl _,λ_ _ _ _=>rfl⟩
theorem Up.trans {g:Gr} {k:Int} {s s' s2:LS} (h:Up g k s s') (h':Up g k s' s2):Up g k s s2:=
 ⟨Nat.le_trans h'.mu h.mu,λm a b=>Int.le_trans (h.le m a b) (h'.le m a b),λm a b c=>by rw[h'.eq m a b (by rw[h.eq m a b c]; exact c),h.eq m a b c]⟩
theorem Up.weaken {g:Gr} {k k':Int} {s s':LS} (h:Up g k s s') (hk:k≤k'):Up g k' s s':=⟨h.mu,h.le,λm a b c=>h.eq m a b (Int.le_trans hk c)⟩
section
variable {g:Gr} {L:Int} {ex:Int→Prop}
theorem Zug {s:LS} (hg:g.Ok) (hI:Z13 g L ex s) {n k:Int} (hn:n=0∨(1≤n∧n≤g.N)) (hk:0≤k∧k≤L∧L≤4) (hR:1≤n→1≤k→g.Re k n) (hm:s.mu≤1099511627776) (hN:g.N≤1099511627776):
  Ok (J3 n k s) λs'=>Z13 g L ex s'∧Up g k s s'∧(1≤n→k≤s'.at n):=by
 have hl:=hI.len
 refine brD (λh0=>?_) λh0=>ok ⟨hI,.refl,λh=>by omega⟩
 have hn':1≤n∧n≤g.N:=by omega
 refine bd wr λi hi=>?_
 subst hi
 refine bd ik λj ⟨hj,hjl⟩=>?_
 subst hj
 refine bd (la hjl) λx ⟨hx,_⟩=>?_
 have hat:=Zpj hx
 refine brD (λhlt=>?_) λhge=>ok ⟨hI,.refl,λ_=>by omega⟩
 have r0:=(hI.rng n hn'.1 hn'.2).1
 have hk':1≤k∧k≤4:=by omega
 rw[if_pos hk']
 have hq:=q_le_mu s k hk'
 refine bd (gk (by omega) (by omega)) λ_ _=>ok ?_
 have hA:∀ m:Int,1≤m→(LS.mk (s.lev.set (n - 1).toNat k) (V2 s.q k (s.q k++[n]))).at m=if m=n then k else s.at m:=λm hm=>at_set hn'.1 (by omega) hm
 have hle:∀ m:Int,1≤m→m≤g.N→s.at m≤(LS.mk (s.lev.set (n - 1).toNat k) (V2 s.q k (s.q k++[n]))).at m:=λm a b=>by
  rw[hA m a]
  by_cases h:m=n
  ·rw[if_pos h,h,hat]; omega
  ·rw[if_neg h]; omega
 refine⟨⟨by simpa using hl,λm a b=>?_,λm a b c=>?_,λj m hm'=>?_,λj hj=>?_,λm a b c=>?_⟩,⟨?_,hle,λm a b c=>?_⟩,λ_=>?_⟩
 ·rw[hA m a]
  by_cases h:m=n
  ·rw[if_pos h]; omega
  ·rw[if_neg h]; exact hI.rng m a b
 ·rw[hA m a] at c ⊢
  by_cases h:m=n
  ·rw[if_pos h,h]; exact hR hn'.1 hk'.1
  ·rw[if_neg h] at c ⊢; exact hI.snd m a b c
 ·dsimp only at hm'
  by_cases h:j=k
  ·subst h
   rw[Z4d] at hm'
   rcases List.mem_append.1 hm' with h|h
   ·exact hI.mem _ m h
   ·rw[List.mem_singleton.1 h]; exact hn'
  ·rw[Z25 h] at hm'; exact hI.mem _ m hm'
 ·dsimp only
  rw[Z25 (by omega)]; exact hI.emp j hj
 ·rw[hA m a] at c ⊢
  by_cases h:m=n
  ·rw[if_pos h]
   refine .inl ?_
   dsimp only
   rw[Z4d,h]
   exact List.mem_append_right _ (List.mem_singleton.2 rfl)
  ·rw[if_neg h] at c ⊢
   rcases hI.dn m a b c with d|d|d
   ·refine .inl ?_
    dsimp only
    by_cases hjk:s.at m=k
    ·rw[hjk,Z4d]; rw[hjk] at d; exact List.mem_append_left _ d
    ·rw[Z25 hjk]; exact d
   ·exact .inr (.inl d)
   ·refine .inr (.inr ⟨λy hy=>?_,λhz=>?_⟩)
    ·rw[hA m a,if_neg h]
     have hy':=hg.refs m a b y hy
     exact Int.le_trans (d.1 y hy) (hle y hy'.1 hy'.2)
    ·rw[hA m a,if_neg h]
     have hy':=(hg.to m a b).resolve_left hz
     exact Int.le_trans (d.2 hz) (hle _ hy'.1 hy'.2)
 ·have h1:=Zmn s (s.lev.set (n - 1).toNat k) k (s.q k++[n]) hk'
  have h2:=Zty s.lev (n - 1).toNat x k hx
  simp only[List.length_append,List.length_cons,List.length_nil] at h1
  omega
 ·rw[hA m a]
  by_cases h:m=n
  ·subst h; omega
  ·rw[if_neg h]
 ·rw[hA n hn'.1,if_pos rfl]; omega
theorem Zs6 {s:LS} (hg:g.Ok) (hI:Z13 g L ex s) {l:List Int} {k:Int} (hl:∀ n∈l,1≤n∧n≤g.N) (hk:0≤k∧k≤L∧L≤4) (hR:∀ n∈l,1≤k→g.Re k n) (hm:s.mu≤1099511627776) (hN:g.N≤1099511627776) (hll:l.length≤1099511627776):
  Ok (Z7 (stR l k) Z8 (0,s)) λs'=>Z13 g L ex s'∧Up g k s s'∧∀ n∈l,k≤s'.at n:=by
 refine lp (λt=>t.1) l.length (λt=>Z13 g L ex t.2∧Up g k s t.2∧∀ (j:Nat) n,(j:Int)<t.1→l[j]?=some n→k≤t.2.at n) (λt ⟨h1,h2,h3⟩ t0 t1=>?_) (by omega) ⟨hI,.refl,λj n hj _=>by dsimp only at hj; omega⟩
 refine brD (λhlt=>?_) λhge=>dn ⟨h1,h2,λn hn=>?_⟩
 ·refine bd (gri t0 hlt) λn ⟨hn,hi⟩=>?_
  have hn':=hl n hn
  refine bd (Zug hg h1 (.inr hn') hk (λ_ a=>hR n hn a) (Nat.le_trans h2.mu hm) hN) λs' ⟨g1,g2,g3⟩=>?_
  refine bd wr λi hi'=>?_
  subst hi'
  refine nx ⟨g1,h2.trans g2,λj m hj hm'=>?_⟩
  dsimp only at hj
  have hmr:=hl m (List.mem_of_getElem? hm')
  by_cases h:(j:Int)<t.1
  ·exact Int.le_trans (h3 j m h hm') (g2.le m hmr.1 hmr.2)
  ·have:j=t.1.toNat:=by omega
   subst this
   rw[hi] at hm'; cases hm'
   exact g3 hn'.1
 ·obtain⟨j,hj⟩:=List.mem_iff_getElem?.1 hn
  have hlt:=(List.getElem?_eq_some_iff.1 hj).1
  exact h3 j n (by omega) hj
end
structure MJ (g:Gr) (L:Int) (s:LS):Prop where
 inv:Z13 g L (λ_=>False) s
 mu:s.mu≤1099511627776
 rt:∀ n∈g.roots,s.at n=4
theorem qpop_ok {g:Gr} (hg:g.Ok) (hN:g.N≤1099511627776) (hrl:∀ n,(g.refs n).length≤1099511627776) {nd:Int→Option (List Int×Int×Int)} (hnd:∀ n:Int,1≤n→n≤g.N→nd n=some (g.refs n,g.to n,g.str n)) {L:Int} (hL:1≤L∧L≤4) {s:LS} (hJ:MJ g L s):
  Ok (Z7 (Kk nd L) Z8 s) λs'=>MJ g (L - 1) s':=by
 refine lm (MJ g L) LS.mu (λs ⟨hI,hm,hrt⟩=>?_) hJ (by have:=hJ.mu; unfold Z8; omega)
 refine brD (λh0=>?_) λh0=>ok ?_
 ·obtain ⟨n,Qf,hq⟩:∃ n Qf,s.q L=n::Qf:=by
   cases hq:s.q L with
   | nil=>rw[hq] at h0; simp at h0
   | cons n r=>exact⟨n,r,rfl⟩
  have hn:=hI.mem L n (by rw[hq]; exact List.mem_cons_self)
  have hl:=hI.len
  refine bd (o:=(s.q L)[0]?) (P:=λx=>x=n) ⟨n,by rw[hq]; rfl,rfl⟩ λn' hn'=>?_
  subst hn'
  refine bd wr λi hi=>?_
  subst hi
  refine bd ik λj ⟨hj,hjl⟩=>?_
  subst hj
  refine bd (la hjl) λx ⟨hx,_⟩=>?_
  have hat:=Zpj hx
  have hmu:(LS.mk s.lev (V2 s.q L ((s.q L).drop 1))).mu+1=s.mu:=by
   have:=Zmn s s.lev L ((s.q L).drop 1) hL
   rw[hq] at this ⊢
   simp at this ⊢
   omega
  have hmem:∀ k,∀ m∈V2 s.q L ((s.q L).drop 1) k,m∈s.q k:=λk m hm'=>by
   by_cases h:k=L
   ·subst h; rw[Z4d] at hm'; exact List.mem_of_mem_drop hm'
   ·rwa [Z25 h] at hm'
  have hI1:Z13 g L (λm=>m=n'∧s.at n'=L) ⟨s.lev,V2 s.q L ((s.q L).drop 1)⟩:=by
   refine⟨hI.len,hI.rng,hI.snd,λk m hm'=>hI.mem k m (hmem k m hm'),λk hk=>?_,λm a b c=>?_⟩
   ·dsimp only
    rw[Z25 (by omega)]; exact hI.emp k hk
   ·rcases hI.dn m a b c with d|d|d
    ·by_cases hmL:s.at m=L
     ·by_cases hmn:m=n'
      ·exact .inr (.inl ⟨hmn,by rw[← hmn]; exact hmL⟩)
      ·refine .inl ?_
       show m∈V2 s.q L ((s.q L).drop 1) (s.at m)
       rw[hmL,Z4d,hq]
       rw[hmL,hq] at d
       rcases List.mem_cons.1 d with e|e
       ·exact absurd e hmn
       ·exact e
     ·refine .inl ?_
      show m∈V2 s.q L ((s.q L).drop 1) (s.at m)
      rw[Z25 hmL]; exact d
    ·exact d.elim
    ·exact .inr (.inr d)
  refine brN (λhne=>?_) λheq=>?_
  ·refine ok ⟨⟨⟨hI1.len,hI1.rng,hI1.snd,hI1.mem,hI1.emp,λm a b c=>?_⟩,by omega,hrt⟩,by omega⟩
   rcases hI1.dn m a b c with d|d|d
   ·exact .inl d
   ·exact absurd d.2 (by rw[hat]; exact hne)
   ·exact .inr (.inr d)
  ·have hnL:s.at n'=L:=by rw[hat]; exact heq
   refine bd (o:=nd n') (P:=λy=>y=(g.refs n',g.to n',g.str n')) ⟨_,hnd n' hn.1 hn.2,rfl⟩ λy hy=>?_
   subst hy
   dsimp only
   have hRn:g.Re L n':=by have:=hI.snd n' hn.1 hn.2 (by omega); rwa [hnL] at this
   refine bd (Zs6 hg hI1 (hg.refs n' hn.1 hn.2) ⟨by omega,by omega,by omega⟩ (λm hm' _=> .ref hRn hm') (by omega) hN (hrl n')) λs2 ⟨i2,u2,r2⟩=>?_
   have hs:=hg.str n'
   refine bd (o:=some (if g.str n'<L then g.str n' else L)) (P:=λv=>v=min L (g.str n')) (ok (by split <;> omega)) λmn hmn=>?_
   subst hmn
   refine bd (Zug hg i2 (n:=g.to n') (k:=min L (g.str n')) (hg.to n' hn.1 hn.2) ⟨by omega,by omega,by omega⟩ (λh1 h2=> .to (hRn.mono (by omega)) (by omega) (by omega)) (by have:=u2.mu; omega) hN) λs3 ⟨i3,u3,r3⟩=>?_
   have u3':Up g L s2 s3:=u3.weaken (by omega)
   have u:=u2.trans u3'
   have hn3:s3.at n'=L:=by
    have:=u.eq n' hn.1 hn.2 (by show L≤s.at n'; omega)
    rw[this]; exact hnL
   refine ok ⟨⟨⟨i3.len,i3.rng,i3.snd,i3.mem,i3.emp,λm a b c=>?_⟩,by have:=u.mu; omega,λm hm'=>?_⟩,by have:=u.mu; omega⟩
   ·rcases i3.dn m a b c with d|d|d
    ·exact .inl d
    ·refine .inr (.inr ?_)
     rw[d.1]
     refine⟨λy hy=>?_,λhz=>?_⟩
     ·rw[hn3]
      have hy':=hg.refs n' hn.1 hn.2 y hy
      exact Int.le_trans (r2 y hy) (u3'.le y hy'.1 hy'.2)
     ·rw[hn3]
      have hy':=(hg.to n' hn.1 hn.2).resolve_left hz
      exact r3 hy'.1
    ·exact .inr (.inr d)
   ·have hmr:=hg.roots m hm'
    have h4:=hrt m hm'
    rw[u.eq m hmr.1 hmr.2 (by show L≤s.at m; omega)]; exact h4
 ·have hq:s.q L=[] :=by
   cases hq:s.q L with
   | nil=>rfl
   | cons n r=>rw[hq] at h0; simp at h0
  exact ⟨⟨hI.len,hI.rng,hI.snd,hI.mem,λk hk=>by
   by_cases h:k=L
   ·rw[h]; exact hq
   ·exact hI.emp k (by omega),hI.dn⟩,hm,hrt⟩
theorem Y1y {g:Gr} (hg:g.Ok) (hN:g.N≤1073741824) (hrl:∀ n,(g.refs n).length≤1099511627776) (hro:g.roots.length≤1099511627776) {nd:Int→Option (List Int×Int×Int)} (hnd:∀ n:Int,1≤n→n≤g.N→nd n=some (g.refs n,g.to n,g.str n)):
  Ok (Zgs g.N g.roots nd) λl=>l.length=g.N∧L5 g λn=>l.getD (n - 1).toNat 0:=by
 have hz:∀ (N:Nat) (n:Int),(LS.mk (List.replicate N 0) λ_=>[]).at n=0:=λN n=>by
  unfold LS.at
  rw[List.getD_eq_getElem?_getD,List.getElem?_replicate]
  split <;> rfl
 have hgap:∀ N:Nat,gap (List.replicate N 0)=4*N:=λN=>by
  induction N with
  | zero=>rfl
  | succ N ih=>rw[List.replicate_succ]; simp only[gap,List.map_cons,List.sum_cons] at ih ⊢; omega
 have hm0:(LS.mk (List.replicate g.N 0) λ_=>[]).mu≤1099511627776:=by
  unfold LS.mu
  dsimp only
  rw[hgap]; simp; omega
 have hI0:Z13 g 4 (λ_=>False) ⟨List.replicate g.N 0,λ_=>[]⟩:=
  ⟨by simp,λn _ _=>by rw[hz]; omega,λn _ _ h=>by rw[hz] at h; omega,λk n hn=>(List.not_mem_nil hn).elim,λ_ _=>rfl,λn _ _ h=>by rw[hz] at h; omega⟩
 refine bd (Zs6 hg hI0 hg.roots ⟨by omega,by omega,by omega⟩ (λn hn _=> .root hn) hm0 (by omega) hro) λs ⟨h1,h2,h3⟩=>?_
 have hJ:MJ g 4 s:=⟨h1,Nat.le_trans h2.mu hm0,λn hn=>by
  have hr:=hg.roots n hn
  have:=h3 n hn
  have:=(h1.rng n hr.1 hr.2).2
  omega⟩
 refine lm (λt=>0≤t.1∧t.1≤4∧MJ g t.1 t.2) (λt=>t.1.toNat) (λt ⟨t0,t4,hJ⟩=>?_) ⟨by dsimp only; omega,by dsimp only; omega,hJ⟩ (by unfold Z8; dsimp only; omega)
 refine brD (λhlt=>?_) λhge=>ok ?_
 ·refine bd (qpop_ok hg (by omega) hrl hnd ⟨by omega,t4⟩ hJ) λs' hs'=>?_
  refine bd wr λi hi=>?_
  subst hi
  exact ok ⟨⟨by dsimp only; omega,by dsimp only; omega,hs'⟩,by dsimp only; omega⟩
 ·have h0:t.1=0:=by omega
  rw[h0] at hJ
  have hI:=hJ.inv
  refine⟨hI.len,L5.closed hg hJ.rt hI.rng hI.snd (λn a b c=>?_) λn a b c=>?_⟩
  ·rcases hI.dn n a b c with d|d|d
   ·rw[hI.emp _ (show (0:Int)<t.2.at n from Int.lt_of_lt_of_le (by decide) c)] at d; exact(List.not_mem_nil d).elim
   ·exact d.elim
   ·exact d.1
  ·rcases hI.dn n a b c with d|d|d
   ·rw[hI.emp _ (show (0:Int)<t.2.at n from Int.lt_of_lt_of_le (by decide) c)] at d; exact(List.not_mem_nil d).elim
   ·exact d.elim
   ·exact d.2
end Go.Proofs
namespace Go.Proofs
open Go.Den Go.Tot Go.RowKit
def rchF (nd:Int→Option (List Int×Int×Int)) (k:Int) (t:Int×List Bool×List Int):Option (Ctl (Int×List Bool×List Int) (List Bool)):=
 if decide (t.1<(t.2.2.length:Int))=true then (Xq t.1 t.2.2.length).bind λjq=>(t.2.2[jq]?).bind λn=>
  (some (IntKind.wrap .i64 (n - 1))).bind λi=>(Xq i t.2.1.length).bind λj=>(t.2.1[j]?).bind λb=>
  if b=true then (some (IntKind.wrap .i64 (t.1+1))).bind λi'=>some (.next (i',t.2.1,t.2.2))
  else (nd n).bind λy=>(Ye 8 (t.2.2++y.1).length).bind λ_=>
   if decide (y.2.2≥k)=true then
    if (y.2.1 !=0)=true then (Ye 8 ((t.2.2++y.1)++[y.2.1]).length).bind λ_=>(some (IntKind.wrap .i64 (t.1+1))).bind λi'=>some (.next (i',t.2.1.set j true,(t.2.2++y.1)++[y.2.1]))
    else (some (IntKind.wrap .i64 (t.1+1))).bind λi'=>some (.next (i',t.2.1.set j true,t.2.2++y.1))
   else (some (IntKind.wrap .i64 (t.1+1))).bind λi'=>some (.next (i',t.2.1.set j true,t.2.2++y.1))
 else some (.done t.2.1)
def Qf (w:Nat→Nat):List Bool→Nat→Nat
 | [],_=>0
 | b::l,j=>(if b then 0 else w j)+Qf w l (j+1)
theorem Zuj (w:Nat→Nat):∀ (l:List Bool) (a j:Nat),l[j]?=some false→Qf w (l.set j true) a+w (a+j)=Qf w l a
 | [],a,j,h=>by simp at h
 | b::l,a,0,h=>by simp at h; subst h; simp[Qf]; omega
 | b::l,a,j+1,h=>by
  have:=Zuj w l (a+1) j (by simpa using h)
  simp only[Qf,List.set_cons_succ]
  rw[show a+(j+1)=a+1+j by omega]
  omega
theorem Znh (w:Nat→Nat) (c:Nat) (hw:∀ j,w j≤c):∀ (l:List Bool) (a:Nat),Qf w l a≤l.length*c
 | [],a=>by simp[Qf]
 | b::l,a=>by
  have:=Znh w c hw l (a+1)
  have:=hw a
  simp only[Qf,List.length_cons,Nat.add_mul,Nat.one_mul]
  split <;> omega
structure RInv (g:Gr) (k:Int) (C:Nat) (t:Int×List Bool×List Int):Prop where
 len:t.2.1.length=g.N
 i0:0≤t.1
 i1:t.1≤t.2.2.length
 qu:∀ x∈t.2.2,(1≤x∧x≤g.N)∧g.Re k x
 rt:∀ x∈g.roots,x∈t.2.2
 bf:∀ (j:Nat) x,(j:Int)<t.1→t.2.2[j]?=some x→Bit t.2.1 (x - 1)
 bit:∀ x:Int,1≤x→x≤g.N→Bit t.2.1 (x - 1)→g.Re k x∧(∀ m∈g.refs x,m∈t.2.2)∧(k≤g.str x→g.to x≠0→g.to x∈t.2.2)
 c:t.2.2.length+Qf (λj=>(g.refs (j+1)).length+1) t.2.1 0≤C
theorem Y1w {g:Gr} (hg:g.Ok) {k:Int} {nd:Int→Option (List Int×Int×Int)} (hnd:∀ n:Int,1≤n→n≤g.N→nd n=some (g.refs n,g.to n,g.str n)) (hN:g.N≤1048576) (hrl:∀ n,(g.refs n).length≤1048575) (hro:g.roots.length≤1048576):
  Ok (Z7 (rchF nd k) Z8 (0,List.replicate g.N false,g.roots)) λout=>out.length=g.N∧∀ n:Int,1≤n→n≤g.N→(Bit out (n - 1)↔g.Re k n):=by
 have hC:g.roots.length+Qf (λj=>(g.refs (j+1)).length+1) (List.replicate g.N false) 0≤2199023255552:=by
  have h1:=Znh (λj=>(g.refs (j+1)).length+1) 1048576 (λj=>by have:=hrl (j+1); omega) (List.replicate g.N false) 0
  rw[List.length_replicate] at h1
  omega
 refine lm (RInv g k 2199023255552) (λt=>(2199023255553 - t.1).toNat) (λt hI=>?_) ⟨by simp,by simp,by simp,λx hx=>⟨hg.roots x hx,.root hx⟩,λx hx=>hx,λj x hj=>by dsimp only at hj; omega,λx _ _ h=>(Bit.rep h).elim,hC⟩ (by unfold Z8; dsimp only; omega)
 have h0:=hI.i0
 have h1:=hI.i1
 have hl:=hI.len
 have hc:=hI.c
 refine brD (λhlt=>?_) λhge=>ok ⟨hl,λn a b=>⟨λh=>(hI.bit n a b h).1,λh=>?_⟩⟩
 ·refine bd (ik h0 hlt) λjq ⟨hjq,hjql⟩=>?_
  subst hjq
  refine bd (la hjql) λn ⟨hi,hn⟩=>?_
  obtain⟨hr,hRe⟩:=hI.qu n hn
  refine bd wr λi hi'=>?_
  subst hi'
  refine bd ik λj ⟨hj,hjl⟩=>?_
  subst hj
  refine bd (la hjl) λb ⟨hb,_⟩=>?_
  have hbef:∀ (o:List Bool) (q:List Int),(∀ y,Bit t.2.1 y→Bit o y)→Bit o (n - 1)→(∀ (j:Nat),(j:Int)≤t.1→q[j]?=t.2.2[j]?)→∀ (j:Nat) x,(j:Int)<t.1+1→q[j]?=some x→Bit o (x - 1):=λo q hm hb' hq j x hj hx=>by
   rw[hq j (by omega)] at hx
   by_cases h:(j:Int)<t.1
   ·exact hm _ (hI.bf j x h hx)
   ·have:j=t.1.toNat:=by omega
    subst this
    rw[hi] at hx; cases hx; exact hb'
  refine br (λhbt=>?_) λhbf=>?_
  ·subst hbt
   refine bd wr λi' hi'=>?_
   subst hi'
   exact ok ⟨⟨hl,by dsimp only; omega,by dsimp only; omega,hI.qu,hI.rt,hbef _ _ (λ_ h=>h) ⟨by omega,hb⟩ (λ_ _=>rfl),hI.bit,hc⟩,by dsimp only; omega⟩
  ·subst hbf
   refine bd (o:=nd n) (P:=λy=>y=(g.refs n,g.to n,g.str n)) ⟨_,hnd n hr.1 hr.2,rfl⟩ λy hy=>?_
   subst hy
   dsimp only
   have hrs:=Zuj (λj=>(g.refs (j+1)).length+1) t.2.1 0 (n - 1).toNat hb
   rw[show ((0+(n - 1).toNat:Nat):Int)+1=n by omega] at hrs
   refine bd (gk (by simp only[List.length_append]; omega) (by simp only[List.length_append]; omega)) λ_ _=>?_
   have hset:∀ x:Int,Bit (t.2.1.set (n - 1).toNat true) x↔x=((n - 1).toNat:Int)∨Bit t.2.1 x:=λx=>Bit.set hjl
   have key:∀ ext:List Int,((k≤g.str n∧g.to n≠0)→ext=[g.to n])→(¬(k≤g.str n∧g.to n≠0)→ext=[])→ext.length≤1→Ok ((some (IntKind.wrap .i64 (t.1+1))).bind λi'=>some (Ctl.next (R:=List Bool) (i',t.2.1.set (n - 1).toNat true,t.2.2++g.refs n++ext))) (Sm (RInv g k 2199023255552) (λt=>(2199023255553 - t.1).toNat) (λout=>out.length=g.N∧∀ n:Int,1≤n→n≤g.N→(Bit out (n - 1)↔g.Re k n)) t):=λext e1 e2 e3=>by
    refine bd wr λi' hi'=>?_
    subst hi'
    have hsub:∀ x∈t.2.2,x∈t.2.2++g.refs n++ext:=λx hx=>by simp[hx]
    refine ok ⟨⟨by simpa using hl,by dsimp only; omega,by simp; omega,λx hx=>?_,λx hx=>hsub x (hI.rt x hx),hbef _ _ (λy hy=>(hset y).2 (.inr hy)) ((hset _).2 (.inl (by omega))) (λj hj=>?_),λx a b h=>?_,?_⟩,by dsimp only; omega⟩
    ·dsimp only at hx
     rcases List.mem_append.1 hx with hx|hx
     ·rcases List.mem_append.1 hx with hx|hx
      ·exact hI.qu x hx
      ·exact⟨hg.refs n hr.1 hr.2 x hx,.ref hRe hx⟩
     ·by_cases hq:k≤g.str n∧g.to n≠0
      ·rw[e1 hq] at hx
       rw[List.mem_singleton.1 hx]
       exact⟨(hg.to n hr.1 hr.2).resolve_left hq.2,.to hRe hq.1 hq.2⟩
      ·rw[e2 hq] at hx; exact(List.not_mem_nil hx).elim
    ·dsimp only
     rw[List.append_assoc,List.getElem?_append_left (by omega)]
    ·dsimp only at h ⊢
     rcases (hset _).1 h with h|h
     ·have:x=n:=by omega
      subst this
      refine⟨hRe,λm hm=>by simp[hm],λp q=>by rw[e1 ⟨p,q⟩]; simp⟩
     ·obtain⟨u1,u2,u3⟩:=hI.bit x a b h
      exact⟨u1,λm hm=>hsub m (u2 m hm),λp q=>hsub _ (u3 p q)⟩
    ·simp only[List.length_append]
     omega
   refine brD (λhk=>brN (λhz=>?_) λhz=>?_) λhk=>?_
   ·refine bd gk λ_ _=>?_
    exact key [g.to n] (λ_=>rfl) (λh=>absurd ⟨hk,hz⟩ h) (by simp)
   ·have:=key [] (λh=>absurd hz h.2) (λ_=>rfl) (by simp)
    rwa [List.append_nil] at this
   ·have:=key [] (λh=>absurd h.1 hk) (λ_=>rfl) (by simp)
    rwa [List.append_nil] at this
 ·have hall:∀ x∈t.2.2,Bit t.2.1 (x - 1):=λx hx=>by
   obtain⟨j,hj⟩:=List.mem_iff_getElem?.1 hx
   have hlt:=(List.getElem?_eq_some_iff.1 hj).1
   exact hI.bf j x (by omega) hj
  exact (Gr.Re.least (S:=λx=>(1≤x∧x≤g.N)∧Bit t.2.1 (x - 1)) (λx hx=>⟨hg.roots x hx,hall x (hI.rt x hx)⟩)
   (λx hx m hm=>⟨hg.refs x hx.1.1 hx.1.2 m hm,hall m ((hI.bit x hx.1.1 hx.1.2 hx.2).2.1 m hm)⟩)
   (λx hx p q=>⟨(hg.to x hx.1.1 hx.1.2).resolve_left q,hall _ ((hI.bit x hx.1.1 hx.1.2 hx.2).2.2 p q)⟩) h).2
end Go.Proofs
namespace Go.Tot
open Go.Den Go.RowKit
theorem Zrc {α S T R:Type} {l:List α} {f:T→Option (Ctl T R)} (mk:Int→S→T) (g:S→α→S) (fin:S→R) (I:S→Prop) (hI:∀ s x,I s→x∈l→I (g s x))
  (h:∀ (t:Int) s x,0≤t→t<l.length→I s→x∈l→Z5 l t=some x→f (mk t s)=some (.next (mk (t+1) (g s x)))) (he:∀ s,I s→f (mk l.length s)=some (.done (fin s))):
  ∀ (r:List α) (p:List α) (s:S) (n:Nat),l=p++r→I s→r.length<n→Z7 f n (mk p.length s)=some (fin (r.foldl g s)):=by
 intro r
 induction r with
 | nil=>
  intro p s n e hs hn
  cases n with
  | zero=>omega
  | succ n=>
   have:l.length=p.length:=by rw[e]; simp
   unfold Z7
   rw[← this,he s hs]; rfl
 | cons x r ih=>
  intro p s n e hs hn
  cases n with
  | zero=>omega
  | succ n=>
   have hx:x∈l:=by rw[e]; simp
   have hlt:(p.length:Int)<l.length:=by rw[e]; simp; omega
   unfold Z7
   rw [h p.length s x (by omega) hlt hs hx (by
    unfold Z5
    rw[if_pos (by omega),e]
    simp)]
   have:=ih (p++[x]) (g s x) n (by rw[e]; simp) (hI s x hs hx) (by simp at hn; omega)
   rw[List.length_append] at this
   simpa using this
theorem Lr {α S T R:Type} {l:List α} {f:T→Option (Ctl T R)} (mk:Int→S→T) (g:S→α→S) (fin:S→R) (I:S→Prop) (hI:∀ s x,I s→x∈l→I (g s x))
  (h:∀ (t:Int) s x,0≤t→t<l.length→I s→x∈l→Z5 l t=some x→f (mk t s)=some (.next (mk (t+1) (g s x)))) (he:∀ s,I s→f (mk l.length s)=some (.done (fin s)))
  {s0:S} (h0:I s0) (hl:l.length≤1152921504606846976):Z7 f Z8 (mk 0 s0)=some (fin (l.foldl g s0)):=by
 have:=Zrc mk g fin I hI h he l [] s0 Z8 rfl h0 (by unfold Z8; omega)
 simpa using this
theorem Z7b:∀ (N:Nat) (l:List Int),l.Nodup→(∀ x∈l,1≤x∧x≤N)→l.length≤N
 | 0,l,_,h=>by
  cases l with
  | nil=>simp
  | cons x r=>have:=h x (by simp); omega
 | N + 1,l,hd,h=>by
  by_cases hm:((N:Int)+1)∈l
  ·have h1:=Z7b N (l.erase ((N:Int)+1)) (hd.erase _) λx hx=>by
    have h2:=(hd.mem_erase_iff).1 hx
    have:=h x h2.2
    have:=h2.1
    omega
   rw[List.length_erase_of_mem hm] at h1
   omega
  ·have:=Z7b N l hd λx hx=>by
    have:=h x hx
    have:x≠(N:Int)+1:=λe=>hm (e ▸ hx)
    omega
   omega
end Go.Tot
