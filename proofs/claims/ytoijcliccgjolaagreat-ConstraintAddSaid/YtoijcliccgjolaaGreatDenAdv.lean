/-
  Many steps at once: code with what follows it, run as far as the next branch that is not decided, the next loop, the end.
-/
import Derived.Test.YtoijcliccgjolaaGreatDenDraw
namespace Go.Den
open Go.RowKit
def holds : List Prop → Prop
 | [] =>True
 | p :: r=>p ∧ holds r
theorem Zon : ∀ {a b : List Prop},holds (a ++ b) → holds a ∧ holds b
 | [],_,h=>⟨trivial,h⟩
 | _ :: _,_,h=>⟨⟨h.1,(Zon h.2).1⟩,(Zon h.2).2⟩
def isCmp : BinOp → Bool
 | .eql | .neq | .lss | .leq | .gtr | .geq=>true
 | _=>false
def Z51 (o : Oper) (t : Z1j) : Bool:=
 match o.op,t.ans with
 | .move _,_ | .assign _,_ | .fieldAddr ..,_ | .field ..,_ | .extract ..,_ | .nilCheck _,_ | .alloc _,_ | .box ..,_ | .build ..,_=>true
 | .load ..,.go=>true
 | .unOp ..,.go=>true
 | .convert ..,.go=>true
 | .binOp op ..,.go=>isCmp op
 | .call { callee:= .builtin .len,.. },.go=>true
 | .pick ..,.go=>true
 | _,_=>false
variable {P : Program} {Γ : Ctx} {σ σ' : S} {a : Act} {w w' : World} {G G' : Nat → Nat} {β β' : Nat → Option (Nat × Nat)}
theorem Z9v {k : IntKind} {n : Int} {d : D} {p : Prop} (h : Z42 k n .go = some (d,p)) : p:=by cases h; trivial
theorem strD_go {s : List UInt8} {d : D} {p : Prop} (h : strD s .go = some (d,p)) : p:=by cases h; trivial
theorem Zef {b : Bool} {d : D} {p : Prop} (h : Z5i b .go = some (d,p)) : p:=by cases h; trivial
theorem Zap {op : BinOp} {xt : TypeId} {same : Bool} {d : D} {p : Prop} (h : ptrD P op xt same = some (d,p)) : p:=by
 unfold ptrD at h
 repeat' split at h
 all_goals first | (cases h; done) | (cases h; trivial)
theorem Y2g {o : Oper} {t : Z1j} (ht : Z51 o t = true) {d : D} {p : Prop} (h : Z1y P σ o t.ans = some (d,p)) : p:=by
 obtain ⟨dst,op,ty,pos,after,guard⟩:=o
 obtain ⟨ans,args,rows,row⟩:=t
 cases op with
 | move x=>cases h; trivial
 | assign x=>cases h; trivial
 | fieldAddr s x f=>simp only [Z1y] at h; split at h <;> cases h; trivial
 | field s x f=>
  simp only [Z1y] at h
  split at h
  ·split at h <;> cases h; trivial
  ·cases h
 | extract x i=>
  simp only [Z1y] at h
  split at h
  ·split at h <;> cases h; trivial
  ·cases h
 | nilCheck x=>simp only [Z1y] at h; split at h <;> cases h <;> trivial
 | load t x=>
  cases ans <;> simp only [Z51] at ht <;> try cases ht
  simp only [Z1y,Z5o] at h
  split at h
  ·rename_i cs q hq
   split at h
   ·cases h
    unfold Z70 at hq
    split at hq
    ·cases hq; trivial
    ·split at hq
     ·split at hq
      ·rename_i heq; cases heq
      ·split at hq <;> cases hq; trivial
     ·cases hq
    ·cases hq
   ·cases h
  ·cases h
 | unOp op t x=>
  cases ans <;> simp only [Z51] at ht <;> try cases ht
  simp only [Z1y,unD] at h
  split at h
  ·exact Z9v h
  ·exact Zef h
  ·cases h
 | convert s t x=>
  cases ans <;> simp only [Z51] at ht <;> try cases ht
  simp only [Z1y,Zid] at h
  split at h
  ·exact Z9v h
  ·cases h; trivial
  ·exact strD_go h
  ·cases h
 | binOp op xt x y yt=>
  cases ans <;> simp only [Z51] at ht <;> try cases ht
  simp only [Z1y,binD] at h
  split at h
  ·split at h
   ·cases ht
   ·cases ht
   ·split at h
    ·cases op <;> first | exact Zef h | cases ht
    ·cases h
  ·cases op <;> first | exact Zef h | cases ht
  ·split at h
   ·split at h
    ·exact Zef h
    ·exact Zef h
    ·cases h
   ·cases h
  ·split at h
   ·rename_i he; cases he
   ·cases h
  ·exact Zap h
  ·exact Zap h
  ·split at h
   ·exact Zap h
   ·cases h
  ·cases h
 | call c=>
  obtain ⟨callee,args,ts⟩:=c
  cases callee with
  | builtin b=>
   cases b with
   | len=>
    cases ans <;> simp only [Z51] at ht <;> try cases ht
    simp only [Z1y] at h
    split at h
    ·unfold lenD at h
     split at h
     ·exact Z9v h
     ·exact Z9v h
     ·exact Z9v h
     ·exact Z9v h
     ·cases h
    ·cases h
   | max=>cases ans <;> cases ht
   | unsafeSliceData=>cases ans <;> cases ht
   | _=>cases h
  | _=>cases h
 | pick c x y=>
  cases ans <;> simp only [Z51] at ht <;> try cases ht
  simp only [Z1y,Zjv] at h
  split at h
  ·split at h <;> cases h <;> trivial
  ·cases h
 | alloc _=>cases h
 | box _ _=>cases h
 | build _ _=>cases h
 | _=>cases ans <;> simp [Z51] at ht
theorem Y18 {o : Oper} {t : Z1j} (ht : Z51 o t = true) {p : Prop} (h : Z2k P σ o t = some (σ',p)) : p:=by
 unfold Z2k at h
 split at h
 ·rename_i d q hq
  split at h
  ·cases h; exact Y2g ht hq
  ·cases h
 ·rename_i hn
  obtain ⟨dst,op,ty,pos,after,guard⟩:=o
  cases op with
  | alloc e=>
   simp only [Z3g] at h
   split at h
   ·obtain ⟨_,_,_,_,_,rfl⟩:=Z93 h; trivial
   ·cases h
  | box e x=>
   simp only [Z3g] at h
   split at h
   ·split at h
    ·split at h <;> cases h; trivial
    ·obtain ⟨_,_,_,_,_,rfl⟩:=Z93 h; trivial
   ·cases h
  | build t parts=>
   simp only [Z3g] at h
   split at h
   ·split at h
    ·split at h <;> cases h; trivial
    ·cases h
   ·cases h
  | call c=>
   obtain ⟨callee,args,ts⟩:=c
   cases callee with
   | builtin b=>
    obtain ⟨ans,args',rows,row⟩:=t
    cases b <;> first
     | (cases h; done)
     | (cases ans <;> simp [Z51] at ht)
   | value f=>obtain ⟨ans,args',rows,row⟩:=t; cases ans <;> simp [Z51] at ht
   | invoke r m=>cases h
  | convert s d x=>
   obtain ⟨ans,args',rows,row⟩:=t
   cases ans <;> simp [Z51] at ht
   simp only [Z3g,Z9g] at h
   repeat' split at h
   all_goals first
    | (cases h; done)
    | (cases h; trivial)
    | (rename_i heq _; cases heq; done)
    | (rename_i heq; cases heq; done)
    | simp at *
  | _=>first
   | cases h
   | (obtain ⟨ans,args',rows,row⟩:=t; cases ans <;> simp [Z51] at ht)
def trivAt (ops : Array Oper) (told : List (Nat × Z1j)) (i : Nat) : Bool:=
 match ops[i]? with
 | none=>true
 | some o=>match o.guard with
  | none=>Z51 o (Z3a told i)
  | some _=>false
def runL (P : Program) (ops : Array Oper) (told : List (Nat × Z1j)) (gs : List (Nat × Bool)) : List Nat → S → Option (S × List Prop)
 | [],σ=>some (σ,[])
 | i :: r,σ=>
  match Z3c P ops told gs i σ with
  | some (σ',p)=>
   match runL P ops told gs r σ' with
   | some (σ'',q)=>match trivAt ops told i with
    | true=>some (σ'',q)
    | false=>some (σ'',p :: q)
   | none=>none
  | none=>none
inductive Z2a where
 | seq (z : Code)
 | blk (id : Nat)
def Z3l (P : Program) (Γ : Ctx) : List Z2a → (Exit → S → Prop) → Exit → S → Prop
 | [],Q=>Q
 | .seq z :: K,Q=>fun e σ=>match e with
  | .normal=>DWP P Γ z (Z3l P Γ K Q) σ
  | e=>Z3l P Γ K Q e σ
 | .blk id :: K,Q=>fun e σ=>match e with
  | .exit id'=>if id' = id then Z3l P Γ K Q .normal σ else Z3l P Γ K Q (.exit id') σ
  | e=>Z3l P Γ K Q e σ
def At (P : Program) (Γ : Ctx) (c : Code) (K : List Z2a) (Q : Exit → S → Prop) (σ : S) : Prop:=DWP P Γ c (Z3l P Γ K Q) σ
inductive Ev where
 | cond (b : Bool) (x y : Code) (K : List Z2a)
 | loop (c : Code) (K : List Z2a)
 | ret
 | exit (id : Nat)
 | normal
 | stop (c : Code) (K : List Z2a)
def popN : List Z2a → Option (Code × List Z2a)
 | [] =>none
 | .seq z :: K=>some (z,K)
 | .blk _ :: K=>popN K
def Z5z (id : Nat) : List Z2a → Option (List Z2a)
 | [] =>none
 | .seq _ :: K=>Z5z id K
 | .blk id' :: K=>match id == id' with
  | true=>some K
  | false=>Z5z id K
def EvOk (P : Program) (Γ : Ctx) (Q : Exit → S → Prop) (σ : S) : Ev → Prop
 | .cond b x y K=>(b = true → At P Γ x K Q σ) ∧ (b = false → At P Γ y K Q σ)
 | .loop c K=>At P Γ (.loop c) K Q σ
 | .ret=>Q .ret σ
 | .exit id=>Q (.exit id) σ
 | .normal=>Q .normal σ
 | .stop c K=>At P Γ c K Q σ
theorem Zg3 {Q : Exit → S → Prop} : ∀ (K : List Z2a),Q .ret σ → Z3l P Γ K Q .ret σ
 | [],h=>h
 | .seq _ :: K,h=>Zg3 K h
 | .blk _ :: K,h=>Zg3 K h
theorem Zip {Q : Exit → S → Prop} : ∀ {K : List Z2a},(∀ z K',popN K = some (z,K') → At P Γ z K' Q σ) → (popN K = none → Q .normal σ) → Z3l P Γ K Q .normal σ
 | [],_,h2=>h2 rfl
 | .seq z :: K,h1,_=>h1 z K rfl
 | .blk _ :: K,h1,h2=>Zip (K:=K) (fun z K' h=>h1 z K' h) (fun h=>h2 h)
theorem Zdq {Q : Exit → S → Prop} {id : Nat} : ∀ {K : List Z2a},(∀ K',Z5z id K = some K' → Z3l P Γ K' Q .normal σ) → (Z5z id K = none → Q (.exit id) σ) → Z3l P Γ K Q (.exit id) σ
 | [],_,h2=>h2 rfl
 | .seq z :: K,h1,h2=>Zdq (K:=K) (fun K' h=>h1 K' h) (fun h=>h2 h)
 | .blk id' :: K,h1,h2=>by
  show (if id = id' then Z3l P Γ K Q .normal σ else Z3l P Γ K Q (.exit id) σ)
  split
  ·rename_i e; subst e; exact h1 K (by simp [Z5z])
  ·rename_i e
   have e' : (id == id') = false:=by simpa using e
   exact Zdq (K:=K) (fun K' h=>h1 K' (by unfold Z5z; rw [e']; exact h)) (fun h=>h2 (by unfold Z5z; rw [e']; exact h))
def AtO (P : Program) (Γ : Ctx) (c : Option Code) (K : List Z2a) (Q : Exit → S → Prop) (σ : S) : Prop:=
 match c with
 | some c=>At P Γ c K Q σ
 | none=>Z3l P Γ K Q .normal σ
theorem At.exitK {K K' : List Z2a} {Q : Exit → S → Prop} {id : Nat} (h : Z5z id K = some K') (hr : Z3l P Γ K' Q .normal σ) : Z3l P Γ K Q (.exit id) σ:=
 Zdq (fun K'' h'=>by rw [h] at h'; cases h'; exact hr) (fun h'=>by rw [h] at h'; cases h')
theorem At.retK {K : List Z2a} {Q : Exit → S → Prop} (hr : Q .ret σ) : Z3l P Γ K Q .ret σ:=Zg3 K hr
theorem Z0c.at {f : FuncId} {fn : Func} (c : Code) {ds : List D} {r : D} (hf : P.funcs[f]? = some fn) (hb : fn.body = some c) (hent : Z6c P f = true) (hn : ds.length ≤ fn.ntmps)
  (h : ∀ Γ : Ctx,At P Γ c [] (Ends P fn r) (mkS fn.ntmps (Z3s 0 ds) [])) : Z0c P f ds r:=Z0c.mk hf hb hent hn h
theorem bindE {α β : Type} {o : Option α} {f : α → Option β} {r : β} (h : o.bind f = some r) : ∃ x,o = some x ∧ f x = some r:=by
 cases o with
 | none=>cases h
 | some x=>exact ⟨x,rfl,h⟩
theorem iteT {α : Type} {b : Bool} {x y r : α} (hb : b = true) (h : (if b = true then x else y) = r) : x = r:=by rwa [if_pos hb] at h
theorem iteF {α : Type} {b : Bool} {x y r : α} (hb : b = false) (h : (if b = true then x else y) = r) : y = r:=by rwa [if_neg (by simp [hb])] at h
theorem someE {α : Type} {x y : α} (h : some x = some y) : x = y:=Option.some.inj h
theorem Y3j {α β : Type} (f : α → β) {l : List α} {i : Int} {x : α} (h : Z08 l i = some x) : Z08 (l.map f) i = some (f x):=by
 unfold Z08 at *
 split at h
 ·rename_i h0
  rw [if_pos h0,List.getElem?_map,h]; rfl
 ·cases h
end Go.Den
