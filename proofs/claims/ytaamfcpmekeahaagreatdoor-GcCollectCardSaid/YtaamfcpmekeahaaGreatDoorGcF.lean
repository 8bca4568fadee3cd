/-
  Many steps at once: code with what follows it, run as far as the next branch that is not decided, the next loop, the end.
-/
import Derived.Test.YtaamfcpmekeahaaGreatDoorDenDraw
import Derived.Lib.Bytealg
import Derived.Test.YtaamfcpmekeahaaGreatDoorDenWrite
set_option linter.unusedVariables false
set_option linter.unusedSimpArgs false
namespace Go.Den
open Go.RowKit
def holds:List Prop→Prop
 | [] =>True
 | p::r=>p∧holds r
theorem Zkz:∀ {a b:List Prop},holds (a++b)→holds a∧holds b
 | [],_,h=>⟨trivial,h⟩
 | _::_,_,h=>⟨⟨h.1,(Zkz h.2).1⟩,(Zkz h.2).2⟩
def isCmp:BinOp→Bool
 | .eql|.neq|.lss|.leq|.gtr|.geq=>true
 | _=>false
def Jx (o:Oper) (t:X8):Bool:=
 match o.op,t.ans with
 | .move _,_|.assign _,_|.fieldAddr ..,_|.field ..,_|.extract ..,_|.nilCheck _,_|.alloc _,_|.box ..,_|.build ..,_=>true
 | .load ..,.go=>true
 | .unOp ..,.go=>true
 | .convert ..,.go=>true
 | .binOp op ..,.go=>isCmp op
 | .call { callee:= .builtin .len,.. },.go=>true
 | .pick ..,.go=>true
 | _,_=>false
variable {P:Program} {Γ:Ctx} {σ σ':S} {a:Act} {w w':World} {G G':Nat→Nat} {β β':Nat→Option (Nat×Nat)}
theorem Z3c {k:IntKind} {n:Int} {d:D} {p:Prop} (h:U2 k n .go=some (d,p)):p:=by cases h; trivial
theorem strD_go {s:List UInt8} {d:D} {p:Prop} (h:strD s .go=some (d,p)):p:=by cases h; trivial
theorem Z6j {b:Bool} {d:D} {p:Prop} (h:Lk b .go=some (d,p)):p:=by cases h; trivial
theorem Z5o {op:BinOp} {xt:TypeId} {same:Bool} {d:D} {p:Prop} (h:ptrD P op xt same=some (d,p)):p:=by
 unfold ptrD at h
 repeat' split at h
 all_goals first|(cases h; done)|(cases h; trivial)
theorem Y73 {o:Oper} {t:X8} (e:Jx o t=true) {d:D} {p:Prop} (h:Q1 P σ o t.ans=some (d,p)):p:=by
 obtain⟨dst,op,ty,pos,after,guard⟩:=o
 obtain⟨ans,args,rows,row⟩:=t
 cases op with
 | move x=>cases h; trivial
 | assign x=>cases h; trivial
 | fieldAddr s x f=>simp only[Q1] at h; split at h <;> cases h; trivial
 | field s x f=>
  simp only[Q1] at h
  split at h
  ·split at h <;> cases h; trivial
  ·cases h
 | extract x i=>
  simp only[Q1] at h
  split at h
  ·split at h <;> cases h; trivial
  ·cases h
 | nilCheck x=>simp only[Q1] at h; split at h <;> cases h <;> trivial
 | load t x=>
  cases ans <;> simp only[Jx] at e <;> try cases e
  simp only[Q1,Ls] at h
  split at h
  ·rename_i cs q hq
   split at h
   ·cases h
    unfold Mb at hq
    split at hq
    ·cases hq; trivial
    ·split at hq
     ·split at hq
      ·rename_i heq; cases heq
      ·split at hq <;> cases hq; trivial
     ·cases hq
    ·cases hq
   ·cases h
  ·cases h
 | unOp op t x=>
  cases ans <;> simp only[Jx] at e <;> try cases e
  simp only[Q1,unD] at h
  split at h
  ·exact Z3c h
  ·exact Z6j h
  ·cases h
 | convert s t x=>
  cases ans <;> simp only[Jx] at e <;> try cases e
  simp only[Q1,Zbj] at h
  split at h
  ·exact Z3c h
  ·cases h; trivial
  ·exact strD_go h
  ·cases h
 | binOp op xt x y yt=>
  cases ans <;> simp only[Jx] at e <;> try cases e
  simp only[Q1,binD] at h
  split at h
  ·split at h
   ·cases e
   ·cases e
   ·split at h
    ·cases op <;> first|exact Z6j h|cases e
    ·cases h
  ·cases op <;> first|exact Z6j h|cases e
  ·split at h
   ·split at h
    ·exact Z6j h
    ·exact Z6j h
    ·cases h
   ·cases h
  ·split at h
   ·rename_i he; cases he
   ·cases h
  ·exact Z5o h
  ·exact Z5o h
  ·split at h
   ·exact Z5o h
   ·cases h
  ·cases h
 | call c=>
  obtain⟨callee,args,ts⟩:=c
  cases callee with
  | builtin b=>
   cases b with
   | len=>
    cases ans <;> simp only[Jx] at e <;> try cases e
    simp only[Q1] at h
    split at h
    ·unfold lenD at h
     split at h
     ·exact Z3c h
     ·exact Z3c h
     ·exact Z3c h
     ·exact Z3c h
     ·cases h
    ·cases h
   | max=>cases ans <;> cases e
   | min=>cases ans <;> cases e
   | unsafeSliceData=>cases ans <;> cases e
   | _=>cases h
  | _=>cases h
 | pick c x y=>
  cases ans <;> simp only[Jx] at e <;> try cases e
  simp only[Q1,Zib] at h
  split at h
  ·split at h <;> cases h <;> trivial
  ·cases h
 | alloc _=>cases h
 | box _ _=>cases h
 | build _ _=>cases h
 | _=>cases ans <;> simp[Jx] at e
theorem Y74 {o:Oper} {t:X8} (g:Jx o t=true) {p:Prop} (h:V1 P σ o t=some (σ',p)):p:=by
 unfold V1 at h
 split at h
 ·rename_i d q hq
  split at h
  ·cases h; exact Y73 g hq
  ·cases h
 ·rename_i i
  obtain⟨dst,op,ty,pos,after,guard⟩:=o
  cases op with
  | alloc e=>
   simp only[W7] at h
   split at h
   ·obtain⟨_,_,_,_,_,rfl⟩:=Z1x h; trivial
   ·cases h
  | box e x=>
   simp only[W7] at h
   split at h
   ·split at h
    ·split at h <;> cases h; trivial
    ·obtain⟨_,_,_,_,_,rfl⟩:=Z1x h; trivial
   ·cases h
  | build t parts=>
   simp only[W7] at h
   split at h
   ·split at h
    ·split at h <;> cases h; trivial
    ·cases h
   ·cases h
  | call c=>
   obtain⟨callee,args,ts⟩:=c
   cases callee with
   | builtin b=>
    obtain⟨ans,args',rows,row⟩:=t
    cases b <;> first
     | (cases h; done)
     | (cases ans <;> simp[Jx] at g)
   | value f=>obtain⟨ans,args',rows,row⟩:=t; cases ans <;> simp[Jx] at g
   | invoke r m=>cases h
  | convert s d x=>
   obtain⟨ans,args',rows,row⟩:=t
   cases ans <;> simp[Jx] at g
   simp only[W7,Z2h] at h
   repeat' split at h
   all_goals first
    | (cases h; done)
    | (cases h; trivial)
    | (rename_i heq _; cases heq; done)
    | (rename_i heq; cases heq; done)
    | simp at*
  | _=>first
   | cases h
   | (obtain⟨ans,args',rows,row⟩:=t; cases ans <;> simp[Jx] at g)
def trivAt (ops:Array Oper) (told:List (Nat×X8)) (i:Nat):Bool:=
 match ops[i]? with
 | none=>true
 | some o=>match o.guard with
  | none=>Jx o (W5 told i)
  | some _=>false
def runL (P:Program) (ops:Array Oper) (told:List (Nat×X8)) (gs:List (Nat×Bool)):List Nat→S→Option (S×List Prop)
 | [],σ=>some (σ,[])
 | i :: r,σ=>
  match W3 P ops told gs i σ with
  | some (σ',p)=>
   match runL P ops told gs r σ' with
   | some (σ'',q)=>match trivAt ops told i with
    | true=>some (σ'',q)
    | false=>some (σ'',p::q)
   | none=>none
  | none=>none
inductive Xz where
 | seq (z:Code)
 | blk (id:Nat)
def Wn (P:Program) (Γ:Ctx):List Xz→(Exit→S→Prop)→Exit→S→Prop
 | [],Q=>Q
 | .seq z::K,Q=>λe σ=>match e with
  | .normal=>DWP P Γ z (Wn P Γ K Q) σ
  | e=>Wn P Γ K Q e σ
 | .blk id::K,Q=>λe σ=>match e with
  | .exit id'=>if id'=id then Wn P Γ K Q .normal σ else Wn P Γ K Q (.exit id') σ
  | e=>Wn P Γ K Q e σ
def At (P:Program) (Γ:Ctx) (c:Code) (K:List Xz) (Q:Exit→S→Prop) (σ:S):Prop:=DWP P Γ c (Wn P Γ K Q) σ
inductive Ev where
 | cond (b:Bool) (x y:Code) (K:List Xz)
 | loop (c:Code) (K:List Xz)
 | ret
 | exit (id:Nat)
 | normal
 | stop (c:Code) (K:List Xz)
def popN:List Xz→Option (Code×List Xz)
 | [] =>none
 | .seq z::K=>some (z,K)
 | .blk _::K=>popN K
def Jv (id:Nat):List Xz→Option (List Xz)
 | [] =>none
 | .seq _::K=>Jv id K
 | .blk id'::K=>match id==id' with
  | true=>some K
  | false=>Jv id K
def EvOk (P:Program) (Γ:Ctx) (Q:Exit→S→Prop) (σ:S):Ev→Prop
 | .cond b x y K=>(b=true→At P Γ x K Q σ)∧(b=false→At P Γ y K Q σ)
 | .loop c K=>At P Γ (.loop c) K Q σ
 | .ret=>Q .ret σ
 | .exit id=>Q (.exit id) σ
 | .normal=>Q .normal σ
 | .stop c K=>At P Γ c K Q σ
theorem Zin {Q:Exit→S→Prop}:∀ (K:List Xz),Q .ret σ→Wn P Γ K Q .ret σ
 | [],h=>h
 | .seq _::K,h=>Zin K h
 | .blk _::K,h=>Zin K h
theorem Zim {Q:Exit→S→Prop}:∀ {K:List Xz},(∀ z K',popN K=some (z,K')→At P Γ z K' Q σ)→(popN K=none→Q .normal σ)→Wn P Γ K Q .normal σ
 | [],_,c=>c rfl
 | .seq z::K,b,_=>b z K rfl
 | .blk _::K,b,c=>Zim (K:=K) (λz K' h=>b z K' h) (λh=>c h)
theorem Zat {Q:Exit→S→Prop} {id:Nat}:∀ {K:List Xz},(∀ K',Jv id K=some K'→Wn P Γ K' Q .normal σ)→(Jv id K=none→Q (.exit id) σ)→Wn P Γ K Q (.exit id) σ
 | [],_,b=>b rfl
 | .seq z::K,c,b=>Zat (K:=K) (λK' h=>c K' h) (λh=>b h)
 | .blk id'::K,c,b=>by
  show (if id=id' then Wn P Γ K Q .normal σ else Wn P Γ K Q (.exit id) σ)
  split
  ·rename_i e; subst e; exact c K (by simp[Jv])
  ·rename_i e
   have d:(id==id')=false:=by simpa using e
   exact Zat (K:=K) (λK' h=>c K' (by unfold Jv; rw[d]; exact h)) (λh=>b (by unfold Jv; rw[d]; exact h))
def AtO (P:Program) (Γ:Ctx) (c:Option Code) (K:List Xz) (Q:Exit→S→Prop) (σ:S):Prop:=
 match c with
 | some c=>At P Γ c K Q σ
 | none=>Wn P Γ K Q .normal σ
theorem At.exitK {K K':List Xz} {Q:Exit→S→Prop} {id:Nat} (h:Jv id K=some K') (c:Wn P Γ K' Q .normal σ):Wn P Γ K Q (.exit id) σ:=
 Zat (λK'' b=>by rw[h] at b; cases b; exact c) (λb=>by rw[h] at b; cases b)
theorem At.retK {K:List Xz} {Q:Exit→S→Prop} (b:Q .ret σ):Wn P Γ K Q .ret σ:=Zin K b
theorem Zi.at {f:FuncId} {fn:Func} (c:Code) {ds:List D} {r:D} (e:P.funcs[f]?=some fn) (d:fn.body=some c) (b:L5 P f=true) (g:ds.length≤fn.ntmps)
  (h:∀ Γ:Ctx,At P Γ c [] (Ends P fn r) (mkS fn.ntmps (Vv 0 ds) [])):Zi P f ds r:=Zi.mk e d b g h
theorem bindE {α β:Type} {o:Option α} {f:α→Option β} {r:β} (h:o.bind f=some r):∃ x,o=some x∧f x=some r:=by
 cases o with
 | none=>cases h
 | some x=>exact⟨x,rfl,h⟩
theorem iteT {α:Type} {b:Bool} {x y r:α} (c:b=true) (h:(if b=true then x else y)=r):x=r:=by rwa [if_pos c] at h
theorem iteF {α:Type} {b:Bool} {x y r:α} (c:b=false) (h:(if b=true then x else y)=r):y=r:=by rwa [if_neg (by simp[c])] at h
theorem someE {α:Type} {x y:α} (h:some x=some y):x=y:=Option.some.inj h
theorem Y4e {α β:Type} (f:α→β) {l:List α} {i:Int} {x:α} (h:Z4 l i=some x):Z4 (l.map f) i=some (f x):=by
 unfold Z4 at*
 split at h
 ·rename_i b
  rw[if_pos b,List.getElem?_map,h]; rfl
 ·cases h
end Go.Den
namespace Go.Den
open Go.RowKit
def J4:Code→Code|.seq a _=>a|.cond _ a _=>a|.block _ a=>a|.loop a=>a|c=>c
def V6:Code→Code|.seq _ b=>b|.cond _ _ b=>b|c=>c
def Z5 (n:Int):List D:=[.int .i64 n]
def rU8 (n:Int):List D:=[.int .u8 n]
def Zu (b:Bool):List D:=[.bool b]
def Xy (s:List UInt8):List D:=[.str s]
def rSl {α:Type} (f:α→List D) (l:List α):List D:=[.sl false (l.map f)]
def Vm (k:IntKind) (x y:Int):Int:=k.wrap (BitVec.ofInt k.bits x &&& BitVec.ofInt k.bits y).toNat
def divK (k:IntKind) (a b:Int):Option Int:=if b≠0 then some (k.wrap (a.tdiv b)) else none
theorem Y3w {k:IntKind} {a b m:Int} (h:divK k a b=some m):b≠0∧k.wrap (a.tdiv b)=m:=by
 unfold divK at h; split at h
 ·exact⟨by assumption,Option.some.inj h⟩
 ·cases h
def modK (a b:Int):Option Int:=if b≠0 then some (a.tmod b) else none
theorem Y5e {a b m:Int} (h:modK a b=some m):b≠0∧a.tmod b=m:=by
 unfold modK at h; split at h
 ·exact⟨by assumption,Option.some.inj h⟩
 ·cases h
def M5 (k:IntKind) (a y:Int):Option Int:=if 0≤y then some (k.wrap (a*2 ^ (min y.toNat k.bits))) else none
theorem Y6h {k:IntKind} {a y m:Int} (h:M5 k a y=some m):0≤y∧k.wrap (a*2 ^ (min y.toNat k.bits))=m:=by
 unfold M5 at h; split at h
 ·exact⟨by assumption,Option.some.inj h⟩
 ·cases h
def shrK (k:IntKind) (a y:Int):Option Int:=if 0≤y then some (a.fdiv (2 ^ (min y.toNat k.bits))) else none
theorem Y6i {k:IntKind} {a y m:Int} (h:shrK k a y=some m):0≤y∧a.fdiv (2 ^ (min y.toNat k.bits))=m:=by
 unfold shrK at h; split at h
 ·exact⟨by assumption,Option.some.inj h⟩
 ·cases h
def Q7 (a b:List UInt8):Option (List UInt8):=if a.length+b.length≤9223372036854775807 then some (a++b) else none
theorem Y3c {a b m:List UInt8} (h:Q7 a b=some m):a.length+b.length≤9223372036854775807∧a++b=m:=by
 unfold Q7 at h; split at h
 ·exact⟨by assumption,Option.some.inj h⟩
 ·cases h
def X7 (i:Int) (n:Nat):Option Nat:=if 0≤i∧i<n then some i.toNat else none
theorem Ka {i:Int} {n a j:Nat} (h:X7 i n=some j) (b:a=n):0≤i∧i<a∧((0:Nat):Int)+i=j:=by
 subst b
 unfold X7 at h; split at h
 ·cases h; omega
 ·cases h
def W2 (bytes:Nat) (l c:Int):Option Unit:=if 0≤l∧l≤c∧(bytes:Int)*c≤281474976710656∧c≤9223372036854775807 then some () else none
theorem Zi0 {bytes:Nat} {l c:Int} {u:Unit} (h:W2 bytes l c=some u):0≤l∧l≤c∧(bytes:Int)*c≤281474976710656∧c≤9223372036854775807:=by
 unfold W2 at h; split at h
 ·assumption
 ·cases h
def Yp (bytes:Nat) (n:Nat):Option Unit:=if n≤9223372036854775807∧n*bytes≤140737488355328 then some () else none
theorem Zbv {bytes n a:Nat} {u:Unit} (h:Yp bytes n=some u) (b:a=n):a≤9223372036854775807∧a*bytes≤140737488355328:=by
 subst b
 unfold Yp at h; split at h
 ·assumption
 ·cases h
def Zbq {α β:Type} (olds:List α) (news:List β):Option Unit:=if olds=[]∨news≠[] then some () else none
def dI (n:Int):D:= .int .i64 n
def d8 (n:Int):D:= .int .u8 n
def tN:Nat→Prop
 | 0=>True
 | n+1=>True∧tN n
theorem tNi:∀ n,tN n
 | 0=>trivial
 | n+1=>⟨trivial,tNi n⟩
def cq (P:Program) (p:Prop) (f:FuncId) (A:List D) (r:D):Prop:=p∧A=A∧Z3q P f A r
theorem cqi {P:Program} {p:Prop} {f:FuncId} {A:List D} {r:D} (hp:p) (h:Zi P f A r):cq P p f A r:=⟨hp,rfl,.inl h⟩
def cqo (P:Program) (p:Prop) (f:FuncId) (A:List D) (B:List Blk) (r:D) (B':List Blk):Prop:=p∧A=A∧B=B∧Vs P f A B r B'
theorem cqoi {P:Program} {p:Prop} {f:FuncId} {A:List D} {B:List Blk} {r:D} {B':List Blk} (hp:p) (h:Vs P f A B r B'):cqo P p f A B r B':=⟨hp,rfl,rfl,h⟩
theorem freshM {α β:Type} {f:α→List D} (g:β→List D) {olds:List α} {news:List β} {u:Unit} (h:Zbq olds news=some u):(olds.map f=[]∨news.map g≠[]):=by
 unfold Zbq at h
 split at h
 ·rename_i a
  rcases a with a|a
  ·exact .inl (by rw[a]; rfl)
  ·exact .inr (by simpa using a)
 ·cases h
theorem Y62 (l:List Int):Mp (l.map rU8)=some (l.map λn=>UInt8.ofNat n.toNat):=by
 induction l with
 | nil=>rfl
 | cons a r ih=>simp only[List.map_cons]; unfold rU8 Mp; rw[show (List.map (λn=>[D.int IntKind.u8 n]) r)=r.map rU8 from rfl,ih]
def bytesOf (l:List Int):List UInt8:=l.map λn=>UInt8.ofNat n.toNat
theorem Y63 (l:List Int):Mp (l.map rU8)=some (bytesOf l):=Y62 l
def Zoi (n:Int):List UInt8:=(Utf8.encode n).data.toList
theorem lenM {α:Type} (f:α→List D) (l:List α):((l.map f).length:Int)=(l.length:Int):=by simp
theorem lenMN {α:Type} (f:α→List D) (l:List α):(l.map f).length=l.length:=by simp
theorem Mc {α:Type} (f:α→List D) {l:List α} {j:Nat} {x:α} (h:l[j]?=some x):(l.map f)[j]?=some (f x):=by simp[h]
theorem setM {α:Type} (f:α→List D) (l:List α) (j:Nat) (y:α):(l.map f).set j (f y)=(l.set j y).map f:=List.map_set.symm
theorem appM {α:Type} (f:α→List D) (l r:List α):l.map f++r.map f=(l++r).map f:=List.map_append.symm
theorem repM {α:Type} (f:α→List D) (n:Nat) (z:α):List.replicate n (f z)=(List.replicate n z).map f:=by simp
theorem subM {α:Type} (f:α→List D) {l r:List α} {lo a:Int} (h:sub l lo a=some r):sub (l.map f) lo a=some (r.map f):=by
 unfold sub at*
 split at h
 ·rename_i b
  cases h
  rw[if_pos (by simpa using b)]
  simp[List.map_take,List.map_drop]
 ·cases h
theorem szM {α:Type} {f:α→List D} {n:Nat} (a:∀ y,(f y).length=n) (l:List α):∀ x∈l.map f,x.length=n:=by
 intro x b
 obtain⟨y,_,rfl⟩:=List.mem_map.1 b
 exact a y
theorem Zz9 {α:Type} (l:List α):(l.drop 0).take l.length=l:=by simp
theorem Zut {α:Type} (l:List α):0+l.length≤l.length:=by omega
theorem noneE {α:Type} {x:α} {p:Prop} (h:(none:Option α)=some x):p:=by cases h
variable {P:Program} {Γ:Ctx} {σ σ':S}
def Z0u:Code→Array Oper|.region _ ops _=>ops|_=>#[]
def Zl5:Code→Bool|.region _ _ false=>true|_=>false
def Z62 (P:Program) (Γ:Ctx) (ops:Array Oper) (l:List Nat) (K:List Xz) (Q:Exit→S→Prop) (σ:S):Prop:=
 ∀ a w G β,Zk Γ σ a w G β→wpOps P ops (λe b w'=>∃ σ' G' β',Zk Γ σ' b w' G' β'∧Wn P Γ K Q e σ') l a w
theorem At.ops {c:Code} {K:List Xz} {Q:Exit→S→Prop} {l:List Nat} (b:Zl5 c=true) (e:List.range (Z0u c).size=l) (h:Z62 P Γ (Z0u c) l K Q σ):At P Γ c K Q σ:=by
 subst e
 unfold Zl5 at b
 split at b
 ·exact λa w G β d=>wp_region (h a w G β d)
 ·cases b
theorem Zod {ops:Array Oper} {told:List (Nat×X8)} {gs:List (Nat×Bool)} {Q:Exit→Act→World→Prop} {f:List Nat}:∀ (l:List Nat) {σ:S} {a:Act} {w:World} {G β} {p:Prop},Zk Γ σ a w G β→
  Z0z P ops told gs l σ=some (σ',p)→p→(∀ b w' G' β',Zk Γ σ' b w' G' β'→wpOps P ops Q f b w')→wpOps P ops Q (l++f) a w
 | [],σ,a,w,G,β,p,c,h,hp,e=>by cases h; exact e _ _ _ _ c
 | i :: r,σ,a,w,G,β,p,c,h,hp,e=>by
  unfold Z0z at h
  split at h
  ·rename_i σ1 k g
   split at h
   ·rename_i σ2 m j
    cases h
    rw[List.cons_append,wpOps_cons]
    exact Zo2 c g hp.1 (λb w' G' β' d=>Zod r d j hp.2 e)
   ·cases h
  ·cases h
theorem Z62.done {ops:Array Oper} {K:List Xz} {Q:Exit→S→Prop} (h:Wn P Γ K Q .normal σ):Z62 P Γ ops [] K Q σ:=λ_ _ G β a=>⟨σ,G,β,a,h⟩
theorem EvOk.normal {Q:Exit→S→Prop} (h:Q .normal σ):EvOk P Γ Q σ .normal:=h
theorem neRet:Exit.ret≠ .normal:=λh=>by cases h
def Zb:Nat:=18446744073709551616
theorem Znl {T R:Type} {f:T→Option (Ctl T R)} (I:T→Prop) (μ:T→Nat) (Post:R→Prop)
  (step:∀ t,I t→∃ x,f t=some x∧match x with
   | .next a=>I a∧μ a<μ t
   | .done r=>Post r):∀ (n:Nat) (t:T),I t→μ t<n→∃ r,Z8 f n t=some r∧Post r
 | 0,t,_,h=>absurd h (Nat.not_lt_zero _)
 | n + 1,t,c,h=>by
  obtain⟨x,b,hp⟩:=step t c
  cases x with
  | next a=>
   obtain⟨r,e,d⟩:=Znl I μ Post step n a hp.1 (by have:=hp.2; omega)
   exact⟨r,by rw[Z8,b]; exact e,d⟩
  | done r=>exact⟨r,by rw[Z8,b],hp⟩
end Go.Den
namespace Go.Tot
open Go.Den Go.RowKit
def Ok {α:Type} (o:Option α) (P:α→Prop):Prop:=∃ r,o=some r∧P r
section
variable {α β:Type} {P P':α→Prop} {Q:β→Prop}
theorem ok {x:α} (h:P x):Ok (some x) P:=⟨x,rfl,h⟩
theorem Ok.mono {o:Option α} (h:Ok o P) (k:∀ x,P x→P' x):Ok o P':=by
 obtain⟨r,e,p⟩:=h
 exact⟨r,e,k r p⟩
theorem bd {o:Option α} {f:α→Option β} (h:Ok o P) (k:∀ x,P x→Ok (f x) Q):Ok (o.bind f) Q:=by
 obtain⟨r,e,p⟩:=h
 obtain⟨c,a,b⟩:=k r p
 exact⟨c,by rw[e]; exact a,b⟩
theorem bs {x:α} {f:α→Option β} (k:Ok (f x) Q):Ok ((some x).bind f) Q:=k
theorem bdE {o:Option α} {f:α→Option β} (h:Ok o P) (k:∀ x,o=some x→P x→Ok (f x) Q):Ok (o.bind f) Q:=by
 obtain⟨r,e,p⟩:=h
 obtain⟨c,a,b⟩:=k r e p
 exact⟨c,by rw[e]; exact a,b⟩
theorem br {b:Bool} {x y:Option α} (T:b=true→Ok x P) (F:b=false→Ok y P):Ok (if b=true then x else y) P:=by
 cases b with
 | true=>exact T rfl
 | false=>exact F rfl
theorem brD {p:Prop} [Decidable p] {x y:Option α} (T:p→Ok x P) (F: ¬p→Ok y P):Ok (if decide p=true then x else y) P:=by
 by_cases h:p
 ·rw[if_pos (decide_eq_true h)]; exact T h
 ·rw[if_neg (by simpa using h)]; exact F h
theorem brE {n m:Int} {x y:Option α} (T:n=m→Ok x P) (F:n≠m→Ok y P):Ok (if (n==m)=true then x else y) P:=by
 by_cases h:n=m
 ·rw[if_pos (by simpa using h)]; exact T h
 ·rw[if_neg (by simpa using h)]; exact F h
theorem brN {n m:Int} {x y:Option α} (T:n≠m→Ok x P) (F:n=m→Ok y P):Ok (if (n !=m)=true then x else y) P:=by
 by_cases h:n=m
 ·rw[if_neg (by simp[h])]; exact F h
 ·rw[if_pos (by simpa using h)]; exact T h
theorem br! {b:Bool} {x y:Option α} (T:b=false→Ok x P) (F:b=true→Ok y P):Ok (if (!b)=true then x else y) P:=by
 cases b with
 | true=>exact F rfl
 | false=>exact T rfl
end
section
variable {T R:Type} {f:T→Option (Ctl T R)} {Q:R→Prop}
def St (I:T→Prop) (ix:T→Int) (n:Int) (Q:R→Prop) (t:T):Ctl T R→Prop
 | .next a=>I a∧ix t<ix a∧ix a≤n
 | .done r=>Q r
variable {I:T→Prop} {ix:T→Int} {n:Int} {t:T}
theorem nx {a:T} (h:I a) (b:ix t<ix a:=by first|omega|(dsimp only; omega)) (c:ix a≤n:=by first|omega|(dsimp only; omega)):Ok (some (Ctl.next a:Ctl T R)) (St I ix n Q t):=⟨_,rfl,h,b,c⟩
theorem dn {r:R} (h:Q r):Ok (some (Ctl.done r:Ctl T R)) (St I ix n Q t):=⟨_,rfl,h⟩
theorem lp (ix:T→Int) (n:Int) (I:T→Prop) (h:∀ t,I t→0≤ix t→ix t≤n→Ok (f t) (St I ix n Q t)) {t0:T} (g:n≤9223372036854775807) (b:I t0) (c:0≤ix t0:=by first|omega|(dsimp only; omega)) (d:ix t0≤n:=by first|omega|(dsimp only; omega)):Ok (Z8 f Zb t0) Q:=by
 refine Znl (λt=>I t∧0≤ix t∧ix t≤n) (λt=>(n - ix t).toNat) Q (λt a=>?_) Zb t0 ⟨b,c,d⟩ (by unfold Zb; omega)
 obtain⟨x,e,p⟩:=h t a.1 a.2.1 a.2.2
 refine⟨x,e,?_⟩
 cases x with
 | next i=>exact⟨⟨p.1,by have:=p.2.1; omega,p.2.2⟩,by have:=p.2.1; have:=p.2.2; omega⟩
 | done r=>exact p
end
section
variable {R:Type} {f:Int→Option (Ctl Int R)} {Q:R→Prop}
def Si (n:Int) (Q:R→Prop) (t:Int):Ctl Int R→Prop
 | .next a=>t<a∧a≤n
 | .done r=>Q r
variable {n t:Int}
theorem ni {a:Int} (b:t<a:=by omega) (c:a≤n:=by omega):Ok (some (Ctl.next a:Ctl Int R)) (Si n Q t):=⟨_,rfl,b,c⟩
theorem di {r:R} (h:Q r):Ok (some (Ctl.done r:Ctl Int R)) (Si n Q t):=⟨_,rfl,h⟩
theorem li (n:Int) (h:∀ t,0≤t→t≤n→Ok (f t) (Si n Q t)) {t0:Int} (g:n≤9223372036854775807:=by omega) (d:0≤t0:=by omega) (e:t0≤n:=by omega):Ok (Z8 f Zb t0) Q:=
 lp (λt=>t) n (λ_=>True) (λt _ a b=>(h t a b).mono λx c=>by
  cases x with
  | next i=>exact⟨trivial,c.1,c.2⟩
  | done r=>exact c) g trivial d e
end
section
variable {α:Type}
theorem J5 {n:Int} (a: -9223372036854775808≤n) (b:n≤9223372036854775807):IntKind.wrap .i64 n=n:=by
 have h:∀ m:Int,IntKind.wrap .i64 m=(m+9223372036854775808) % 18446744073709551616 - 9223372036854775808:=λm=>by
  unfold IntKind.wrap
  simp[IntKind.bits,IntKind.signed,Int.bmod]
  omega
 rw[h]; omega
theorem wr {n:Int} (a: -9223372036854775808≤n:=by omega) (b:n≤9223372036854775807:=by omega):Ok (some (IntKind.wrap .i64 n)) λv=>v=n:=ok (J5 a b)
theorem sm {x:α}:Ok (some x) λ_=>True:=ok trivial
theorem gr {l:List α} {i:Int} (b:0≤i:=by omega) (c:i<l.length:=by omega):Ok (Z4 l i) λx=>x∈l:=by
 have a:i.toNat<l.length:=by omega
 refine⟨l[i.toNat],?_,List.getElem_mem a⟩
 unfold Z4
 rw[if_pos b,List.getElem?_eq_getElem a]
theorem gri {l:List α} {i:Int} (b:0≤i:=by omega) (c:i<l.length:=by omega):Ok (Z4 l i) λx=>x∈l∧l[i.toNat]?=some x:=by
 have a:i.toNat<l.length:=by omega
 refine⟨l[i.toNat],?_,List.getElem_mem a,List.getElem?_eq_getElem a⟩
 unfold Z4
 rw[if_pos b,List.getElem?_eq_getElem a]
theorem gs {s:List UInt8} {i:Int} (b:0≤i:=by omega) (c:i<s.length:=by omega):Ok (Vw s i) λx=>0≤x∧x<256:=by
 have a:i.toNat<s.length:=by omega
 refine⟨(s[i.toNat].toNat:Int),?_,by omega,by have:=s[i.toNat].toNat_lt; omega⟩
 unfold Vw
 rw[if_pos b,List.getElem?_eq_getElem a]
 rfl
theorem ik {i:Int} {n:Nat} (a:0≤i:=by omega) (b:i<n:=by omega):Ok (X7 i n) λj=>j=i.toNat∧j<n:=⟨i.toNat,by unfold X7; rw[if_pos ⟨a,b⟩],rfl,by omega⟩
theorem la {l:List α} {j:Nat} (h:j<l.length):Ok (l[j]?) λx=>l[j]?=some x∧x∈l:=⟨l[j],List.getElem?_eq_getElem h,List.getElem?_eq_getElem h,List.getElem_mem h⟩
theorem gk {b n:Nat} (h:n*b≤140737488355328:=by first|omega|(simp only[List.length_append,List.length_cons,List.length_nil]; omega)) (a:n≤9223372036854775807:=by first|omega|(simp only[List.length_append,List.length_cons,List.length_nil]; omega)):Ok (Yp b n) λ_=>True:=⟨(),by unfold Yp; rw[if_pos ⟨a,h⟩],trivial⟩
theorem mk {b:Nat} {l c:Int} (a:0≤l:=by omega) (d:l≤c:=by omega) (e:(b:Int)*c≤281474976710656:=by omega) (g:c≤9223372036854775807:=by omega):Ok (W2 b l c) λ_=>True:=⟨(),by unfold W2; rw[if_pos ⟨a,d,e,g⟩],trivial⟩
theorem ct {a b:List UInt8} (h:a.length+b.length≤9223372036854775807:=by omega):Ok (Q7 a b) λm=>m=a++b∧m.length=a.length+b.length:=⟨a++b,by unfold Q7; rw[if_pos h],rfl,List.length_append⟩
theorem sb {l:List α} {lo a:Int} (c:0≤lo:=by omega) (d:lo≤a:=by omega) (e:a≤l.length:=by omega):Ok (sub l lo a) λr=>(r.length:Int)=a - lo∧∀ x∈r,x∈l:=by
 unfold sub
 rw[if_pos (by omega)]
 refine ok ⟨by simp; omega,λx b=>List.mem_of_mem_drop (List.mem_of_mem_take b)⟩
end
end Go.Tot
namespace Go.Tot
open Go.Den Go.RowKit
variable {R:Type}
theorem allL {f:Int→Option (Ctl Int R)} {n:Int} {p:Int→Prop} {y z:R} (s:0≤n) (o:n≤9223372036854775807)
  (h:∀ t,0≤t→t<n→(∀ k,0≤k→k<t→p k)→Ok (f t) λx=>(x=.next (t+1)∧p t)∨(x=.done y∧ ¬p t)) (he:Ok (f n) λx=>x=.done z):
  Ok (Z8 f Zb 0) λq=>(q=z∧∀ t,0≤t→t<n→p t)∨(q=y∧∃ t,0≤t∧t<n∧ ¬p t):=by
 refine lp (λt=>t) n (λt=>∀ k,0≤k→k<t→p k) (λt d l r=>?_) o (λk a b=>by omega) (by omega) (by omega)
 rcases Int.lt_or_le t n with c|m
 ·refine(h t l c d).mono λx i=>?_
  rcases i with ⟨e,g⟩|⟨e,g⟩
  ·subst e
   exact ⟨λk a b=>by
    rcases Int.lt_or_le k t with j|j
    ·exact d k a j
    ·rw[show k=t by omega]; exact g,by dsimp only; omega,by dsimp only; omega⟩
  ·subst e
   exact .inr ⟨rfl,t,l,c,g⟩
 ·have:t=n:=by omega
  subst this
  refine he.mono λx i=>?_
  subst i
  exact .inl ⟨rfl,d⟩
theorem allP {α:Type} {l:List α} {f:Int→Option (Ctl Int R)} {p:α→Prop} {y z:R} (w:l.length≤9223372036854775807)
  (h:∀ (t:Int) v,0≤t→t<l.length→l[t.toNat]?=some v→v∈l→Z4 l t=some v→Ok (f t) λx=>(x=.next (t+1)∧p v)∨(x=.done y∧ ¬p v)) (he:Ok (f l.length) λx=>x=.done z):
  Ok (Z8 f Zb 0) λq=>(q=z∧∀ v∈l,p v)∨(q=y∧∃ v∈l,¬p v):=by
 refine(allL (n:=l.length) (p:=λt=>∀ v,l[t.toNat]?=some v→p v) (y:=y) (z:=z) (by omega) (by omega) (λt d i _=>?_) he).mono λq hq=>?_
 ·obtain⟨v,e,a,b⟩:=gri (l:=l) d i
  refine(h t v d i b a e).mono λx s=>?_
  rcases s with ⟨e,g⟩|⟨e,g⟩
  ·exact .inl ⟨e,λu c=>by rw[b] at c; cases c; exact g⟩
  ·exact .inr ⟨e,λk=>g (k v b)⟩
 ·rcases hq with ⟨e,g⟩|⟨e,t,d,i,g⟩
  ·refine .inl ⟨e,λv r=>?_⟩
   obtain⟨j,m⟩:=List.mem_iff_getElem?.1 r
   have o:=(List.getElem?_eq_some_iff.1 m).1
   exact g j (by omega) (by omega) v (by rwa [show ((j:Nat):Int).toNat=j by omega])
  ·refine .inr ⟨e,?_⟩
   obtain⟨v,_,a,b⟩:=gri (l:=l) d i
   refine⟨v,a,λk=>g λu c=>?_⟩
   rw[b] at c; cases c; exact k
def Sm {T R:Type} (I:T→Prop) (μ:T→Nat) (Q:R→Prop) (t:T):Ctl T R→Prop
 | .next a=>I a∧μ a<μ t
 | .done r=>Q r
theorem lm {T R:Type} {f:T→Option (Ctl T R)} {Q:R→Prop} (I:T→Prop) (μ:T→Nat) (h:∀ t,I t→Ok (f t) (Sm I μ Q t)) {t0:T} (a:I t0) (b:μ t0<Zb):Ok (Z8 f Zb t0) Q:=
 Znl I μ Q (λt c=>by
  obtain⟨x,e,p⟩:=h t c
  refine⟨x,e,?_⟩
  cases x with
  | next d=>exact p
  | done r=>exact p) Zb t0 a b
def Bit (l:List Bool) (j:Int):Prop:=0≤j∧l[j.toNat]?=some true
theorem Bit.set {l:List Bool} {v:Nat} {j:Int} (a:v<l.length):Bit (l.set v true) j↔j=v∨Bit l j:=by
 unfold Bit
 rw[List.getElem?_set]
 by_cases h:v=j.toNat
 ·rw[if_pos h,if_pos a]
  constructor
  ·intro g; left; omega
  ·rintro(g|g)
   ·exact⟨by omega,rfl⟩
   ·exact⟨g.1,rfl⟩
 ·rw[if_neg h]
  constructor
  ·intro g; exact .inr g
  ·rintro(g|g)
   ·omega
   ·exact g
theorem Bit.rep {n:Nat} {j:Int}: ¬Bit (List.replicate n false) j:=by
 rintro⟨h,g⟩
 rw[List.getElem?_replicate] at g
 split at g <;> simp at g
end Go.Tot
namespace Go.Proofs
open Go.Den Go.Tot Go.RowKit
structure LS where
 lev:List Int
 q:Int→List Int
def Vp (f:Int→List Int) (k:Int) (v:List Int):Int→List Int:=λj=>if j=k then v else f j
theorem Z5v {f:Int→List Int} {k:Int} {v:List Int}:Vp f k v k=v:=if_pos rfl
theorem Z3o {f:Int→List Int} {k j:Int} {v:List Int} (h:j≠k):Vp f k v j=f j:=if_neg h
def Jw (n k:Int) (s:LS):Option LS:=
 if decide (0<n)=true then
  (some (IntKind.wrap .i64 (n - 1))).bind λi=>(X7 i s.lev.length).bind λj=>(s.lev[j]?).bind λx=>
  if decide (x<k)=true then
   if 1≤k∧k≤4 then (Yp 8 ((s.q k).length+1)).bind λ_=>some ⟨s.lev.set j k,Vp s.q k (s.q k++[n])⟩ else none
  else some s
 else some s
def stR (l:List Int) (k:Int) (t:Int×LS):Option (Ctl (Int×LS) LS):=
 if decide (t.1<(l.length:Int))=true then (Z4 l t.1).bind λn=>(Jw n k t.2).bind λs=>(some (IntKind.wrap .i64 (t.1+1))).bind λi=>some (.next (i,s)) else some (.done t.2)
def Ml (nd:Int→Option (List Int×Int×Int)) (L:Int) (s:LS):Option (Ctl LS LS):=
 if decide (0<((s.q L).length:Int))=true then ((s.q L)[0]?).bind λn=>
  (some (IntKind.wrap .i64 (n - 1))).bind λi=>(X7 i s.lev.length).bind λj=>(s.lev[j]?).bind λx=>
  if (x !=L)=true then some (.next ⟨s.lev,Vp s.q L ((s.q L).drop 1)⟩)
  else (nd n).bind λy=>(Z8 (stR y.1 L) Zb (0,⟨s.lev,Vp s.q L ((s.q L).drop 1)⟩)).bind λa=>(some (if y.2.2<L then y.2.2 else L)).bind λmn=>(Jw y.2.1 mn a).bind λs3=>some (.next s3)
 else some (.done s)
def levF (nd:Int→Option (List Int×Int×Int)) (t:Int×LS):Option (Ctl (Int×LS) (List Int)):=
 if decide (0<t.1)=true then (Z8 (Ml nd t.1) Zb t.2).bind λs=>(some (IntKind.wrap .i64 (t.1 - 1))).bind λi=>some (.next (i,s)) else some (.done t.2.lev)
def Znk (N:Nat) (roots:List Int) (nd:Int→Option (List Int×Int×Int)):Option (List Int):=
 (Z8 (stR roots 4) Zb (0,⟨List.replicate N 0,λ_=>[]⟩)).bind λs=>Z8 (levF nd) Zb (4,s)
def LS.at (s:LS) (n:Int):Int:=s.lev.getD (n - 1).toNat 0
def LS.Dn (g:Gr) (s:LS) (n:Int):Prop:=(∀ m∈g.refs n,s.at n≤s.at m)∧(g.to n≠0→min (s.at n) (g.str n)≤s.at (g.to n))
def gap (l:List Int):Nat:=(l.map λx=>(4 - x).toNat).sum
def LS.mu (s:LS):Nat:=2*gap s.lev+((s.q 1).length+(s.q 2).length+(s.q 3).length+(s.q 4).length)
theorem Zt4:∀ (l:List Int) (j:Nat) (x k:Int),l[j]?=some x→gap (l.set j k)+(4 - x).toNat=gap l+(4 - k).toNat
 | [],j,x,k,h=>by simp at h
 | y::l,0,x,k,h=>by simp at h; subst h; simp[gap]; omega
 | y::l,j+1,x,k,h=>by
  have:=Zt4 l j x k (by simpa using h)
  simp only[gap,List.set_cons_succ,List.map_cons,List.sum_cons] at this ⊢
  omega
theorem at_set {s:LS} {n m k:Int} {q:Int→List Int} (c:1≤n) (a:n≤s.lev.length) (b:1≤m):(LS.mk (s.lev.set (n - 1).toNat k) q).at m=if m=n then k else s.at m:=by
 unfold LS.at
 simp only[List.getD_eq_getElem?_getD,List.getElem?_set]
 by_cases h:m=n
 ·subst h
  rw[if_pos rfl,if_pos rfl,if_pos (by omega)]; rfl
 ·rw[if_neg (by omega),if_neg h]
theorem Zrm {s:LS} {n x:Int} (h:s.lev[(n - 1).toNat]?=some x):s.at n=x:=by
 unfold LS.at; rw[List.getD_eq_getElem?_getD,h]; rfl
theorem Ztz (s:LS) (l:List Int) (k:Int) (v:List Int) (a:1≤k∧k≤4):(LS.mk l (Vp s.q k v)).mu+(s.q k).length+2*gap s.lev=s.mu+v.length+2*gap l:=by
 have:k=1∨k=2∨k=3∨k=4:=by omega
 rcases this with rfl|rfl|rfl|rfl <;> simp[LS.mu,Vp] <;> omega
theorem q_le_mu (s:LS) (k:Int) (a:1≤k∧k≤4):(s.q k).length≤s.mu:=by
 have:k=1∨k=2∨k=3∨k=4:=by omega
 rcases this with rfl|rfl|rfl|rfl <;> simp[LS.mu] <;> omega
structure Z13 (g:Gr) (L:Int) (ex:Int→Prop) (s:LS):Prop where
 len:s.lev.length=g.N
 rng:∀ n:Int,1≤n→n≤g.N→0≤s.at n∧s.at n≤4
 snd:∀ n:Int,1≤n→n≤g.N→1≤s.at n→g.Re (s.at n) n
 mem:∀ k,∀ n∈s.q k,1≤n∧n≤g.N
 emp:∀ k,L<k→s.q k=[]
 dn:∀ n:Int,1≤n→n≤g.N→1≤s.at n→n∈s.q (s.at n)∨ex n∨s.Dn g n
structure Up (g:Gr) (k:Int) (s s':LS):Prop where
 mu:s'.mu≤s.mu
 le:∀ m:Int,1≤m→m≤g.N→s.at m≤s'.at m
 eq:∀ m:Int,1≤m→m≤g.N→k≤s.at m→s'.at m=s.at m
theorem Up.refl {g:Gr} {k:Int} {s:LS}:Up g k s s:=⟨Nat.le_refl _,λ_ _ _=>Int.le_refl _,λ_ _ _ _=>rfl⟩
theorem Up.trans {g:Gr} {k:Int} {s e f:LS} (h:Up g k s e) (d:Up g k e f):Up g k s f:=
 ⟨Nat.le_trans d.mu h.mu,λm a b=>Int.le_trans (h.le m a b) (d.le m a b),λm a b c=>by rw[d.eq m a b (by rw[h.eq m a b c]; exact c),h.eq m a b c]⟩
theorem Up.weaken {g:Gr} {k d:Int} {s e:LS} (h:Up g k s e) (f:k≤d):Up g d s e:=⟨h.mu,h.le,λm a b c=>h.eq m a b (Int.le_trans f c)⟩
section
variable {g:Gr} {L:Int} {ex:Int→Prop}
theorem Zun {s:LS} (B:g.Ok) (o:Z13 g L ex s) {n k:Int} (R:n=0∨(1≤n∧n≤g.N)) (Q:0≤k∧k≤L∧L≤4) (I:1≤n→1≤k→g.Re k n) (C:s.mu≤1099511627776) (hN:g.N≤1099511627776):
  Ok (Jw n k s) λA=>Z13 g L ex A∧Up g k s A∧(1≤n→k≤A.at n):=by
 have M:=o.len
 refine brD (λG=>?_) λG=>ok ⟨o,.refl,λh=>by omega⟩
 have e:1≤n∧n≤g.N:=by omega
 refine bd wr λi K=>?_
 subst K
 refine bd ik λj ⟨w,z⟩=>?_
 subst w
 refine bd (la z) λx ⟨D,_⟩=>?_
 have v:=Zrm D
 refine brD (λO=>?_) λJ=>ok ⟨o,.refl,λ_=>by omega⟩
 have S:=(o.rng n e.1 e.2).1
 have p:1≤k∧k≤4:=by omega
 rw[if_pos p]
 have hq:=q_le_mu s k p
 refine bd (gk (by omega) (by omega)) λ_ _=>ok ?_
 have r:∀ m:Int,1≤m→(LS.mk (s.lev.set (n - 1).toNat k) (Vp s.q k (s.q k++[n]))).at m=if m=n then k else s.at m:=λm C=>at_set e.1 (by omega) C
 have u:∀ m:Int,1≤m→m≤g.N→s.at m≤(LS.mk (s.lev.set (n - 1).toNat k) (Vp s.q k (s.q k++[n]))).at m:=λm a b=>by
  rw[r m a]
  by_cases h:m=n
  ·rw[if_pos h,h,v]; omega
  ·rw[if_neg h]; omega
 refine⟨⟨by simpa using M,λm a b=>?_,λm a b c=>?_,λj m f=>?_,λj w=>?_,λm a b c=>?_⟩,⟨?_,u,λm a b c=>?_⟩,λ_=>?_⟩
 ·rw[r m a]
  by_cases h:m=n
  ·rw[if_pos h]; omega
  ·rw[if_neg h]; exact o.rng m a b
 ·rw[r m a] at c ⊢
  by_cases h:m=n
  ·rw[if_pos h,h]; exact I e.1 p.1
  ·rw[if_neg h] at c ⊢; exact o.snd m a b c
 ·dsimp only at f
  by_cases h:j=k
  ·subst h
   rw[Z5v] at f
   rcases List.mem_append.1 f with h|h
   ·exact o.mem _ m h
   ·rw[List.mem_singleton.1 h]; exact e
  ·rw[Z3o h] at f; exact o.mem _ m f
 ·dsimp only
  rw[Z3o (by omega)]; exact o.emp j w
 ·rw[r m a] at c ⊢
  by_cases h:m=n
  ·rw[if_pos h]
   refine .inl ?_
   dsimp only
   rw[Z5v,h]
   exact List.mem_append_right _ (List.mem_singleton.2 rfl)
  ·rw[if_neg h] at c ⊢
   rcases o.dn m a b c with d|d|d
   ·refine .inl ?_
    dsimp only
    by_cases t:s.at m=k
    ·rw[t,Z5v]; rw[t] at d; exact List.mem_append_left _ d
    ·rw[Z3o t]; exact d
   ·exact .inr (.inl d)
   ·refine .inr (.inr ⟨λy E=>?_,λF=>?_⟩)
    ·rw[r m a,if_neg h]
     have l:=B.refs m a b y E
     exact Int.le_trans (d.1 y E) (u y l.1 l.2)
    ·rw[r m a,if_neg h]
     have l:=(B.to m a b).resolve_left F
     exact Int.le_trans (d.2 F) (u _ l.1 l.2)
 ·have H:=Ztz s (s.lev.set (n - 1).toNat k) k (s.q k++[n]) p
  have P:=Zt4 s.lev (n - 1).toNat x k D
  simp only[List.length_append,List.length_cons,List.length_nil] at H
  omega
 ·rw[r m a]
  by_cases h:m=n
  ·subst h; omega
  ·rw[if_neg h]
 ·rw[r n e.1,if_pos rfl]; omega
theorem Zum {s:LS} (C:g.Ok) (A:Z13 g L ex s) {l:List Int} {k:Int} (x:∀ n∈l,1≤n∧n≤g.N) (F:0≤k∧k≤L∧L≤4) (B:∀ n∈l,1≤k→g.Re k n) (H:s.mu≤1099511627776) (hN:g.N≤1099511627776) (G:l.length≤1099511627776):
  Ok (Z8 (stR l k) Zb (0,s)) λp=>Z13 g L ex p∧Up g k s p∧∀ n∈l,k≤p.at n:=by
 refine lp (λt=>t.1) l.length (λt=>Z13 g L ex t.2∧Up g k s t.2∧∀ (j:Nat) n,(j:Int)<t.1→l[j]?=some n→k≤t.2.at n) (λt ⟨v,q,w⟩ t0 t1=>?_) (by omega) ⟨A,.refl,λj n c _=>by dsimp only at c; omega⟩
 refine brD (λd=>?_) λD=>dn ⟨v,q,λn o=>?_⟩
 ·refine bd (gri t0 d) λn ⟨o,E⟩=>?_
  have f:=x n o
  refine bd (Zun C v (.inr f) F (λ_ a=>B n o a) (Nat.le_trans q.mu H) hN) λp ⟨y,u,z⟩=>?_
  refine bd wr λi r=>?_
  subst r
  refine nx ⟨y,q.trans u,λj m c b=>?_⟩
  dsimp only at c
  have e:=x m (List.mem_of_getElem? b)
  by_cases h:(j:Int)<t.1
  ·exact Int.le_trans (w j m h b) (u.le m e.1 e.2)
  ·have:j=t.1.toNat:=by omega
   subst this
   rw[E] at b; cases b
   exact z f.1
 ·obtain⟨j,c⟩:=List.mem_iff_getElem?.1 o
  have d:=(List.getElem?_eq_some_iff.1 c).1
  exact w j n (by omega) c
end
structure MJ (g:Gr) (L:Int) (s:LS):Prop where
 inv:Z13 g L (λ_=>False) s
 mu:s.mu≤1099511627776
 rt:∀ n∈g.roots,s.at n=4
theorem qpop_ok {g:Gr} (C:g.Ok) (hN:g.N≤1099511627776) (U:∀ n,(g.refs n).length≤1099511627776) {nd:Int→Option (List Int×Int×Int)} (hnd:∀ n:Int,1≤n→n≤g.N→nd n=some (g.refs n,g.to n,g.str n)) {L:Int} (Z:1≤L∧L≤4) {s:LS} (V:MJ g L s):
  Ok (Z8 (Ml nd L) Zb s) λs'=>MJ g (L - 1) s':=by
 refine lm (MJ g L) LS.mu (λs ⟨p,hm,D⟩=>?_) V (by have:=V.mu; unfold Zb; omega)
 refine brD (λF=>?_) λF=>ok ?_
 ·obtain ⟨n,V0,hq⟩:∃ n V0,s.q L=n::V0:=by
   cases hq:s.q L with
   | nil=>rw[hq] at F; simp at F
   | cons n r=>exact⟨n,r,rfl⟩
  have w:=p.mem L n (by rw[hq]; exact List.mem_cons_self)
  have hl:=p.len
  refine bd (o:=(s.q L)[0]?) (P:=λx=>x=n) ⟨n,by rw[hq]; rfl,rfl⟩ λf S=>?_
  subst S
  refine bd wr λi hi=>?_
  subst hi
  refine bd ik λj ⟨hj,R⟩=>?_
  subst hj
  refine bd (la R) λx ⟨hx,_⟩=>?_
  have H:=Zrm hx
  have hmu:(LS.mk s.lev (Vp s.q L ((s.q L).drop 1))).mu+1=s.mu:=by
   have:=Ztz s s.lev L ((s.q L).drop 1) Z
   rw[hq] at this ⊢
   simp at this ⊢
   omega
  have I:∀ k,∀ m∈Vp s.q L ((s.q L).drop 1) k,m∈s.q k:=λk m l=>by
   by_cases h:k=L
   ·subst h; rw[Z5v] at l; exact List.mem_of_mem_drop l
   ·rwa [Z3o h] at l
  have t:Z13 g L (λm=>m=f∧s.at f=L) ⟨s.lev,Vp s.q L ((s.q L).drop 1)⟩:=by
   refine⟨p.len,p.rng,p.snd,λk m l=>p.mem k m (I k m l),λk W=>?_,λm a b c=>?_⟩
   ·dsimp only
    rw[Z3o (by omega)]; exact p.emp k W
   ·rcases p.dn m a b c with d|d|d
    ·by_cases A:s.at m=L
     ·by_cases z:m=f
      ·exact .inr (.inl ⟨z,by rw[← z]; exact A⟩)
      ·refine .inl ?_
       show m∈Vp s.q L ((s.q L).drop 1) (s.at m)
       rw[A,Z5v,hq]
       rw[A,hq] at d
       rcases List.mem_cons.1 d with e|e
       ·exact absurd e z
       ·exact e
     ·refine .inl ?_
      show m∈Vp s.q L ((s.q L).drop 1) (s.at m)
      rw[Z3o A]; exact d
    ·exact d.elim
    ·exact .inr (.inr d)
  refine brN (λT=>?_) λheq=>?_
  ·refine ok ⟨⟨⟨t.len,t.rng,t.snd,t.mem,t.emp,λm a b c=>?_⟩,by omega,D⟩,by omega⟩
   rcases t.dn m a b c with d|d|d
   ·exact .inl d
   ·exact absurd d.2 (by rw[H]; exact T)
   ·exact .inr (.inr d)
  ·have M:s.at f=L:=by rw[H]; exact heq
   refine bd (o:=nd f) (P:=λy=>y=(g.refs f,g.to f,g.str f)) ⟨_,hnd f w.1 w.2,rfl⟩ λy Q=>?_
   subst Q
   dsimp only
   have G:g.Re L f:=by have:=p.snd f w.1 w.2 (by omega); rwa [M] at this
   refine bd (Zum C t (C.refs f w.1 w.2) ⟨by omega,by omega,by omega⟩ (λm l _=> .ref G l) (by omega) hN (U f)) λs2 ⟨i2,X,r2⟩=>?_
   have hs:=C.str f
   refine bd (o:=some (if g.str f<L then g.str f else L)) (P:=λv=>v=min L (g.str f)) (ok (by split <;> omega)) λmn z=>?_
   subst z
   refine bd (Zun C i2 (n:=g.to f) (k:=min L (g.str f)) (C.to f w.1 w.2) ⟨by omega,by omega,by omega⟩ (λh1 h2=> .to (G.mono (by omega)) (by omega) (by omega)) (by have:=X.mu; omega) hN) λs3 ⟨E,u3,r3⟩=>?_
   have O:Up g L s2 s3:=u3.weaken (by omega)
   have u:=X.trans O
   have K:s3.at f=L:=by
    have:=u.eq f w.1 w.2 (by show L≤s.at f; omega)
    rw[this]; exact M
   refine ok ⟨⟨⟨E.len,E.rng,E.snd,E.mem,E.emp,λm a b c=>?_⟩,by have:=u.mu; omega,λm l=>?_⟩,by have:=u.mu; omega⟩
   ·rcases E.dn m a b c with d|d|d
    ·exact .inl d
    ·refine .inr (.inr ?_)
     rw[d.1]
     refine⟨λy Q=>?_,λhz=>?_⟩
     ·rw[K]
      have B:=C.refs f w.1 w.2 y Q
      exact Int.le_trans (r2 y Q) (O.le y B.1 B.2)
     ·rw[K]
      have B:=(C.to f w.1 w.2).resolve_left hz
      exact r3 B.1
    ·exact .inr (.inr d)
   ·have J:=C.roots m l
    have Y:=D m l
    rw[u.eq m J.1 J.2 (by show L≤s.at m; omega)]; exact Y
 ·have hq:s.q L=[] :=by
   cases hq:s.q L with
   | nil=>rfl
   | cons n r=>rw[hq] at F; simp at F
  exact ⟨⟨p.len,p.rng,p.snd,p.mem,λk W=>by
   by_cases h:k=L
   ·rw[h]; exact hq
   ·exact p.emp k (by omega),p.dn⟩,hm,D⟩
theorem Y53 {g:Gr} (m:g.Ok) (hN:g.N≤1073741824) (r:∀ n,(g.refs n).length≤1099511627776) (u:g.roots.length≤1099511627776) {nd:Int→Option (List Int×Int×Int)} (hnd:∀ n:Int,1≤n→n≤g.N→nd n=some (g.refs n,g.to n,g.str n)):
  Ok (Znk g.N g.roots nd) λl=>l.length=g.N∧Lf g λn=>l.getD (n - 1).toNat 0:=by
 have w:∀ (N:Nat) (n:Int),(LS.mk (List.replicate N 0) λ_=>[]).at n=0:=λN n=>by
  unfold LS.at
  rw[List.getD_eq_getElem?_getD,List.getElem?_replicate]
  split <;> rfl
 have o:∀ N:Nat,gap (List.replicate N 0)=4*N:=λN=>by
  induction N with
  | zero=>rfl
  | succ N ih=>rw[List.replicate_succ]; simp only[gap,List.map_cons,List.sum_cons] at ih ⊢; omega
 have p:(LS.mk (List.replicate g.N 0) λ_=>[]).mu≤1099511627776:=by
  unfold LS.mu
  dsimp only
  rw[o]; simp; omega
 have q:Z13 g 4 (λ_=>False) ⟨List.replicate g.N 0,λ_=>[]⟩:=
  ⟨by simp,λn _ _=>by rw[w]; omega,λn _ _ h=>by rw[w] at h; omega,λk n j=>(List.not_mem_nil j).elim,λ_ _=>rfl,λn _ _ h=>by rw[w] at h; omega⟩
 refine bd (Zum m q m.roots ⟨by omega,by omega,by omega⟩ (λn j _=> .root j) p (by omega) u) λs ⟨x,A,B⟩=>?_
 have f:MJ g 4 s:=⟨x,Nat.le_trans A.mu p,λn j=>by
  have y:=m.roots n j
  have:=B n j
  have:=(x.rng n y.1 y.2).2
  omega⟩
 refine lm (λt=>0≤t.1∧t.1≤4∧MJ g t.1 t.2) (λt=>t.1.toNat) (λt ⟨t0,t4,f⟩=>?_) ⟨by dsimp only; omega,by dsimp only; omega,f⟩ (by unfold Zb; dsimp only; omega)
 refine brD (λE=>?_) λC=>ok ?_
 ·refine bd (qpop_ok m (by omega) r hnd ⟨by omega,t4⟩ f) λF v=>?_
  refine bd wr λi D=>?_
  subst D
  exact ok ⟨⟨by dsimp only; omega,by dsimp only; omega,v⟩,by dsimp only; omega⟩
 ·have z:t.1=0:=by omega
  rw[z] at f
  have e:=f.inv
  refine⟨e.len,Lf.closed m f.rt e.rng e.snd (λn a b c=>?_) λn a b c=>?_⟩
  ·rcases e.dn n a b c with d|d|d
   ·rw[e.emp _ (show (0:Int)<t.2.at n from Int.lt_of_lt_of_le (by decide) c)] at d; exact(List.not_mem_nil d).elim
   ·exact d.elim
   ·exact d.1
  ·rcases e.dn n a b c with d|d|d
   ·rw[e.emp _ (show (0:Int)<t.2.at n from Int.lt_of_lt_of_le (by decide) c)] at d; exact(List.not_mem_nil d).elim
   ·exact d.elim
   ·exact d.2
end Go.Proofs
namespace Go.Proofs
open IntKind (wrap)
open Go.Den Go.Tot Go.RowKit
def rchF (nd:Int→Option (List Int×Int×Int)) (k:Int) (t:Int×List Bool×List Int):Option (Ctl (Int×List Bool×List Int) (List Bool)):=
 if decide (t.1<(t.2.2.length:Int))=true then (X7 t.1 t.2.2.length).bind λjq=>(t.2.2[jq]?).bind λn=>
  (some (wrap .i64 (n - 1))).bind λi=>(X7 i t.2.1.length).bind λj=>(t.2.1[j]?).bind λb=>
  if b=true then (some (wrap .i64 (t.1+1))).bind λa=>some (.next (a,t.2.1,t.2.2))
  else (nd n).bind λy=>(Yp 8 (t.2.2++y.1).length).bind λ_=>
   if decide (y.2.2≥k)=true then
    if (y.2.1 !=0)=true then (Yp 8 ((t.2.2++y.1)++[y.2.1]).length).bind λ_=>(some (wrap .i64 (t.1+1))).bind λa=>some (.next (a,t.2.1.set j true,(t.2.2++y.1)++[y.2.1]))
    else (some (wrap .i64 (t.1+1))).bind λa=>some (.next (a,t.2.1.set j true,t.2.2++y.1))
   else (some (wrap .i64 (t.1+1))).bind λa=>some (.next (a,t.2.1.set j true,t.2.2++y.1))
 else some (.done t.2.1)
def V0 (w:Nat→Nat):List Bool→Nat→Nat
 | [],_=>0
 | b::l,j=>(if b then 0 else w j)+V0 w l (j+1)
theorem Zur (w:Nat→Nat):∀ (l:List Bool) (a j:Nat),l[j]?=some false→V0 w (l.set j true) a+w (a+j)=V0 w l a
 | [],a,j,h=>by simp at h
 | b::l,a,0,h=>by simp at h; subst h; simp[V0]; omega
 | b::l,a,j+1,h=>by
  have:=Zur w l (a+1) j (by simpa using h)
  simp only[V0,List.set_cons_succ]
  rw[show a+(j+1)=a+1+j by omega]
  omega
theorem Zuq (w:Nat→Nat) (c:Nat) (hw:∀ j,w j≤c):∀ (l:List Bool) (a:Nat),V0 w l a≤l.length*c
 | [],a=>by simp[V0]
 | b::l,a=>by
  have:=Zuq w c hw l (a+1)
  have:=hw a
  simp only[V0,List.length_cons,Nat.add_mul,Nat.one_mul]
  split <;> omega
structure RInv (g:Gr) (k:Int) (C:Nat) (t:Int×List Bool×List Int):Prop where
 len:t.2.1.length=g.N
 i0:0≤t.1
 i1:t.1≤t.2.2.length
 qu:∀ x∈t.2.2,(1≤x∧x≤g.N)∧g.Re k x
 rt:∀ x∈g.roots,x∈t.2.2
 bf:∀ (j:Nat) x,(j:Int)<t.1→t.2.2[j]?=some x→Bit t.2.1 (x - 1)
 bit:∀ x:Int,1≤x→x≤g.N→Bit t.2.1 (x - 1)→g.Re k x∧(∀ m∈g.refs x,m∈t.2.2)∧(k≤g.str x→g.to x≠0→g.to x∈t.2.2)
 c:t.2.2.length+V0 (λj=>(g.refs (j+1)).length+1) t.2.1 0≤C
theorem Y5w {g:Gr} (A:g.Ok) {k:Int} {nd:Int→Option (List Int×Int×Int)} (hnd:∀ n:Int,1≤n→n≤g.N→nd n=some (g.refs n,g.to n,g.str n)) (hN:g.N≤1048576) (L:∀ n,(g.refs n).length≤1048575) (hro:g.roots.length≤1048576):
  Ok (Z8 (rchF nd k) Zb (0,List.replicate g.N false,g.roots)) λout=>out.length=g.N∧∀ n:Int,1≤n→n≤g.N→(Bit out (n - 1)↔g.Re k n):=by
 have Z:g.roots.length+V0 (λj=>(g.refs (j+1)).length+1) (List.replicate g.N false) 0≤2199023255552:=by
  have V:=Zuq (λj=>(g.refs (j+1)).length+1) 1048576 (λj=>by have:=L (j+1); omega) (List.replicate g.N false) 0
  rw[List.length_replicate] at V
  omega
 refine lm (RInv g k 2199023255552) (λt=>(2199023255553 - t.1).toNat) (λt e=>?_) ⟨by simp,by simp,by simp,λx d=>⟨A.roots x d,.root d⟩,λx d=>d,λj x v=>by dsimp only at v; omega,λx _ _ h=>(Bit.rep h).elim,Z⟩ (by unfold Zb; dsimp only; omega)
 have Y:=e.i0
 have V:=e.i1
 have K:=e.len
 have hc:=e.c
 refine brD (λE=>?_) λhge=>ok ⟨K,λn a b=>⟨λh=>(e.bit n a b h).1,λh=>?_⟩⟩
 ·refine bd (ik Y E) λjq ⟨I,D⟩=>?_
  subst I
  refine bd (la D) λn ⟨hi,hn⟩=>?_
  obtain⟨B,z⟩:=e.qu n hn
  refine bd wr λi l=>?_
  subst l
  refine bd ik λj ⟨v,C⟩=>?_
  subst v
  refine bd (la C) λb ⟨W,_⟩=>?_
  have u:∀ (o:List Bool) (q:List Int),(∀ y,Bit t.2.1 y→Bit o y)→Bit o (n - 1)→(∀ (j:Nat),(j:Int)≤t.1→q[j]?=t.2.2[j]?)→∀ (j:Nat) x,(j:Int)<t.1+1→q[j]?=some x→Bit o (x - 1):=λo q w F hq j x v d=>by
   rw[hq j (by omega)] at d
   by_cases h:(j:Int)<t.1
   ·exact w _ (e.bf j x h d)
   ·have:j=t.1.toNat:=by omega
    subst this
    rw[hi] at d; cases d; exact F
  refine br (λH=>?_) λG=>?_
  ·subst H
   refine bd wr λT l=>?_
   subst l
   exact ok ⟨⟨K,by dsimp only; omega,by dsimp only; omega,e.qu,e.rt,u _ _ (λ_ h=>h) ⟨by omega,W⟩ (λ_ _=>rfl),e.bit,hc⟩,by dsimp only; omega⟩
  ·subst G
   refine bd (o:=nd n) (P:=λy=>y=(g.refs n,g.to n,g.str n)) ⟨_,hnd n B.1 B.2,rfl⟩ λy O=>?_
   subst O
   dsimp only
   have M:=Zur (λj=>(g.refs (j+1)).length+1) t.2.1 0 (n - 1).toNat W
   rw[show ((0+(n - 1).toNat:Nat):Int)+1=n by omega] at M
   refine bd (gk (by simp only[List.length_append]; omega) (by simp only[List.length_append]; omega)) λ_ _=>?_
   have r:∀ x:Int,Bit (t.2.1.set (n - 1).toNat true) x↔x=((n - 1).toNat:Int)∨Bit t.2.1 x:=λx=>Bit.set C
   have key:∀ ext:List Int,((k≤g.str n∧g.to n≠0)→ext=[g.to n])→(¬(k≤g.str n∧g.to n≠0)→ext=[])→ext.length≤1→Ok ((some (wrap .i64 (t.1+1))).bind λT=>some (Ctl.next (R:=List Bool) (T,t.2.1.set (n - 1).toNat true,t.2.2++g.refs n++ext))) (Sm (RInv g k 2199023255552) (λt=>(2199023255553 - t.1).toNat) (λout=>out.length=g.N∧∀ n:Int,1≤n→n≤g.N→(Bit out (n - 1)↔g.Re k n)) t):=λext U X e3=>by
    refine bd wr λT l=>?_
    subst l
    have s:∀ x∈t.2.2,x∈t.2.2++g.refs n++ext:=λx d=>by simp[d]
    refine ok ⟨⟨by simpa using K,by dsimp only; omega,by simp; omega,λx d=>?_,λx d=>s x (e.rt x d),u _ _ (λy O=>(r y).2 (.inr O)) ((r _).2 (.inl (by omega))) (λj v=>?_),λx a b h=>?_,?_⟩,by dsimp only; omega⟩
    ·dsimp only at d
     rcases List.mem_append.1 d with d|d
     ·rcases List.mem_append.1 d with d|d
      ·exact e.qu x d
      ·exact⟨A.refs n B.1 B.2 x d,.ref z d⟩
     ·by_cases hq:k≤g.str n∧g.to n≠0
      ·rw[U hq] at d
       rw[List.mem_singleton.1 d]
       exact⟨(A.to n B.1 B.2).resolve_left hq.2,.to z hq.1 hq.2⟩
      ·rw[X hq] at d; exact(List.not_mem_nil d).elim
    ·dsimp only
     rw[List.append_assoc,List.getElem?_append_left (by omega)]
    ·dsimp only at h ⊢
     rcases (r _).1 h with h|h
     ·have:x=n:=by omega
      subst this
      refine⟨z,λm w=>by simp[w],λp q=>by rw[U ⟨p,q⟩]; simp⟩
     ·obtain⟨u1,u2,u3⟩:=e.bit x a b h
      exact⟨u1,λm w=>s m (u2 m w),λp q=>s _ (u3 p q)⟩
    ·simp only[List.length_append]
     omega
   refine brD (λJ=>brN (λQ=>?_) λQ=>?_) λJ=>?_
   ·refine bd gk λ_ _=>?_
    exact key [g.to n] (λ_=>rfl) (λh=>absurd ⟨J,Q⟩ h) (by simp)
   ·have:=key [] (λh=>absurd Q h.2) (λ_=>rfl) (by simp)
    rwa [List.append_nil] at this
   ·have:=key [] (λh=>absurd h.1 J) (λ_=>rfl) (by simp)
    rwa [List.append_nil] at this
 ·have f:∀ x∈t.2.2,Bit t.2.1 (x - 1):=λx d=>by
   obtain⟨j,v⟩:=List.mem_iff_getElem?.1 d
   have E:=(List.getElem?_eq_some_iff.1 v).1
   exact e.bf j x (by omega) v
  exact (Gr.Re.least (S:=λx=>(1≤x∧x≤g.N)∧Bit t.2.1 (x - 1)) (λx d=>⟨A.roots x d,f x (e.rt x d)⟩)
   (λx d m w=>⟨A.refs x d.1.1 d.1.2 m w,f m ((e.bit x d.1.1 d.1.2 d.2).2.1 m w)⟩)
   (λx d p q=>⟨(A.to x d.1.1 d.1.2).resolve_left q,f _ ((e.bit x d.1.1 d.1.2 d.2).2.2 p q)⟩) h).2
end Go.Proofs
namespace Go.Tot
open Go.Den Go.RowKit
theorem Zsx {α S T R:Type} {l:List α} {f:T→Option (Ctl T R)} (mk:Int→S→T) (g:S→α→S) (fin:S→R) (I:S→Prop) (d:∀ s x,I s→x∈l→I (g s x))
  (h:∀ (t:Int) s x,0≤t→t<l.length→I s→x∈l→Z4 l t=some x→f (mk t s)=some (.next (mk (t+1) (g s x)))) (he:∀ s,I s→f (mk l.length s)=some (.done (fin s))):
  ∀ (r:List α) (p:List α) (s:S) (n:Nat),l=p++r→I s→r.length<n→Z8 f n (mk p.length s)=some (fin (r.foldl g s)):=by
 intro r
 induction r with
 | nil=>
  intro p s n e hs b
  cases n with
  | zero=>omega
  | succ n=>
   have:l.length=p.length:=by rw[e]; simp
   unfold Z8
   rw[← this,he s hs]; rfl
 | cons x r ih=>
  intro p s n e hs b
  cases n with
  | zero=>omega
  | succ n=>
   have c:x∈l:=by rw[e]; simp
   have a:(p.length:Int)<l.length:=by rw[e]; simp; omega
   unfold Z8
   rw [h p.length s x (by omega) a hs c (by
    unfold Z4
    rw[if_pos (by omega),e]
    simp)]
   have:=ih (p++[x]) (g s x) n (by rw[e]; simp) (d s x hs c) (by simp at b; omega)
   rw[List.length_append] at this
   simpa using this
theorem K9 {α S T R:Type} {l:List α} {f:T→Option (Ctl T R)} (mk:Int→S→T) (g:S→α→S) (fin:S→R) (I:S→Prop) (b:∀ s x,I s→x∈l→I (g s x))
  (h:∀ (t:Int) s x,0≤t→t<l.length→I s→x∈l→Z4 l t=some x→f (mk t s)=some (.next (mk (t+1) (g s x)))) (he:∀ s,I s→f (mk l.length s)=some (.done (fin s)))
  {s0:S} (a:I s0) (c:l.length≤1152921504606846976):Z8 f Zb (mk 0 s0)=some (fin (l.foldl g s0)):=by
 have:=Zsx mk g fin I b h he l [] s0 Zb rfl a (by unfold Zb; omega)
 simpa using this
theorem Zam:∀ (N:Nat) (l:List Int),l.Nodup→(∀ x∈l,1≤x∧x≤N)→l.length≤N
 | 0,l,_,h=>by
  cases l with
  | nil=>simp
  | cons x r=>have:=h x (by simp); omega
 | N + 1,l,b,h=>by
  by_cases d:((N:Int)+1)∈l
  ·have f:=Zam N (l.erase ((N:Int)+1)) (b.erase _) λx a=>by
    have c:=(b.mem_erase_iff).1 a
    have:=h x c.2
    have:=c.1
    omega
   rw[List.length_erase_of_mem d] at f
   omega
  ·have:=Zam N l b λx a=>by
    have:=h x a
    have:x≠(N:Int)+1:=λe=>d (e ▸ a)
    omega
   omega
end Go.Tot
