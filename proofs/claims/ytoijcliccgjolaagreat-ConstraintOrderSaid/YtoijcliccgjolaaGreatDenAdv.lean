/-
  Many steps at once: code with what follows it, run as far as the next branch that is not decided, the next loop, the end.
-/
import Derived.Test.YtoijcliccgjolaaGreatDenDraw
namespace Go.Den
open Go.RowKit
def holds : List Prop → Prop
 | [] =>True
 | p :: r=>p ∧ holds r
theorem Zkn : ∀ {a b : List Prop},holds (a ++ b) → holds a ∧ holds b
 | [],_,h=>⟨trivial,h⟩
 | _ :: _,_,h=>⟨⟨h.1,(Zkn h.2).1⟩,(Zkn h.2).2⟩
def isCmp : BinOp → Bool
 | .eql | .neq | .lss | .leq | .gtr | .geq=>true
 | _=>false
def Z4q (o : Oper) (t : Z1e) : Bool:=
 match o.op,t.ans with
 | .move _,_ | .assign _,_ | .fieldAddr ..,_ | .field ..,_ | .extract ..,_ | .nilCheck _,_ | .alloc _,_ | .box ..,_ | .build ..,_=>true
 | .load ..,.go=>true
 | .unOp ..,.go=>true
 | .convert ..,.go=>true
 | .binOp op ..,.go=>isCmp op
 | .call { callee:= .builtin .len,.. },.go=>true
 | .pick ..,.go=>true
 | _,_=>false
variable {P : Program} {Γ : Ctx} {σ σ' : S} {a : Act} {w w' : World} {G G' : Nat → Nat} {β β' : Nat → Option (Nat × Nat)}
theorem Z9n {k : IntKind} {n : Int} {d : D} {p : Prop} (h : Z3t k n .go = some (d,p)) : p:=by cases h; trivial
theorem strD_go {s : List UInt8} {d : D} {p : Prop} (h : strD s .go = some (d,p)) : p:=by cases h; trivial
theorem Zdz {b : Bool} {d : D} {p : Prop} (h : Z5k b .go = some (d,p)) : p:=by cases h; trivial
theorem Zbj {op : BinOp} {xt : TypeId} {same : Bool} {d : D} {p : Prop} (h : ptrD P op xt same = some (d,p)) : p:=by
 unfold ptrD at h
 repeat' split at h
 all_goals first | (cases h; done) | (cases h; trivial)
theorem Zyy {o : Oper} {t : Z1e} (ht : Z4q o t = true) {d : D} {p : Prop} (h : Z1v P σ o t.ans = some (d,p)) : p:=by
 obtain ⟨dst,op,ty,pos,after,guard⟩:=o
 obtain ⟨ans,args,rows,row⟩:=t
 cases op with
 | move x=>cases h; trivial
 | assign x=>cases h; trivial
 | fieldAddr s x f=>simp only [Z1v] at h; split at h <;> cases h; trivial
 | field s x f=>
  simp only [Z1v] at h
  split at h
  ·split at h <;> cases h; trivial
  ·cases h
 | extract x i=>
  simp only [Z1v] at h
  split at h
  ·split at h <;> cases h; trivial
  ·cases h
 | nilCheck x=>simp only [Z1v] at h; split at h <;> cases h <;> trivial
 | load t x=>
  cases ans <;> simp only [Z4q] at ht <;> try cases ht
  simp only [Z1v,Z5n] at h
  split at h
  ·rename_i cs q hq
   split at h
   ·cases h
    unfold Z6x at hq
    split at hq
    ·cases hq; trivial
    ·split at hq
     ·split at hq
      ·rename_i heq; cases heq
      ·split at hq <;> cases hq; trivial
     ·cases hq
    ·cases hq
   ·cases h
  ·cases h
 | unOp op t x=>
  cases ans <;> simp only [Z4q] at ht <;> try cases ht
  simp only [Z1v,unD] at h
  split at h
  ·exact Z9n h
  ·exact Zdz h
  ·cases h
 | convert s t x=>
  cases ans <;> simp only [Z4q] at ht <;> try cases ht
  simp only [Z1v,Zje] at h
  split at h
  ·exact Z9n h
  ·cases h; trivial
  ·exact strD_go h
  ·cases h
 | binOp op xt x y yt=>
  cases ans <;> simp only [Z4q] at ht <;> try cases ht
  simp only [Z1v,binD] at h
  split at h
  ·split at h
   ·cases ht
   ·cases ht
   ·split at h
    ·cases op <;> first | exact Zdz h | cases ht
    ·cases h
  ·cases op <;> first | exact Zdz h | cases ht
  ·split at h
   ·split at h
    ·exact Zdz h
    ·exact Zdz h
    ·cases h
   ·cases h
  ·split at h
   ·rename_i he; cases he
   ·cases h
  ·exact Zbj h
  ·exact Zbj h
  ·split at h
   ·exact Zbj h
   ·cases h
  ·cases h
 | call c=>
  obtain ⟨callee,args,ts⟩:=c
  cases callee with
  | builtin b=>
   cases b with
   | len=>
    cases ans <;> simp only [Z4q] at ht <;> try cases ht
    simp only [Z1v] at h
    split at h
    ·unfold lenD at h
     split at h
     ·exact Z9n h
     ·exact Z9n h
     ·exact Z9n h
     ·exact Z9n h
     ·cases h
    ·cases h
   | max=>cases ans <;> cases ht
   | unsafeSliceData=>cases ans <;> cases ht
   | _=>cases h
  | _=>cases h
 | pick c x y=>
  cases ans <;> simp only [Z4q] at ht <;> try cases ht
  simp only [Z1v,Zht] at h
  split at h
  ·split at h <;> cases h <;> trivial
  ·cases h
 | alloc _=>cases h
 | box _ _=>cases h
 | build _ _=>cases h
 | _=>cases ans <;> simp [Z4q] at ht
theorem Y0c {o : Oper} {t : Z1e} (ht : Z4q o t = true) {p : Prop} (h : Z2h P σ o t = some (σ',p)) : p:=by
 unfold Z2h at h
 split at h
 ·rename_i d q hq
  split at h
  ·cases h; exact Zyy ht hq
  ·cases h
 ·rename_i hn
  obtain ⟨dst,op,ty,pos,after,guard⟩:=o
  cases op with
  | alloc e=>
   simp only [Z3c] at h
   split at h
   ·obtain ⟨_,_,_,_,_,rfl⟩:=Z8x h; trivial
   ·cases h
  | box e x=>
   simp only [Z3c] at h
   split at h
   ·split at h
    ·split at h <;> cases h; trivial
    ·obtain ⟨_,_,_,_,_,rfl⟩:=Z8x h; trivial
   ·cases h
  | build t parts=>
   simp only [Z3c] at h
   split at h
   ·split at h
    ·split at h <;> cases h; trivial
    ·cases h
   ·cases h
  | call c=>
   obtain ⟨callee,args,ts⟩:=c
   cases callee with
   | builtin b=>
    obtain ⟨ans,args',rows,row⟩:=t
    cases b <;> first
     | (cases h; done)
     | (cases ans <;> simp [Z4q] at ht)
   | value f=>obtain ⟨ans,args',rows,row⟩:=t; cases ans <;> simp [Z4q] at ht
   | invoke r m=>cases h
  | convert s d x=>
   obtain ⟨ans,args',rows,row⟩:=t
   cases ans <;> simp [Z4q] at ht
   simp only [Z3c,Z9o] at h
   repeat' split at h
   all_goals first
    | (cases h; done)
    | (cases h; trivial)
    | (rename_i heq _; cases heq; done)
    | (rename_i heq; cases heq; done)
    | simp at *
  | _=>first
   | cases h
   | (obtain ⟨ans,args',rows,row⟩:=t; cases ans <;> simp [Z4q] at ht)
def trivAt (ops : Array Oper) (told : List (Nat × Z1e)) (i : Nat) : Bool:=
 match ops[i]? with
 | none=>true
 | some o=>match o.guard with
  | none=>Z4q o (Z34 told i)
  | some _=>false
def runL (P : Program) (ops : Array Oper) (told : List (Nat × Z1e)) (gs : List (Nat × Bool)) : List Nat → S → Option (S × List Prop)
 | [],σ=>some (σ,[])
 | i :: r,σ=>
  match Z35 P ops told gs i σ with
  | some (σ',p)=>
   match runL P ops told gs r σ' with
   | some (σ'',q)=>match trivAt ops told i with
    | true=>some (σ'',q)
    | false=>some (σ'',p :: q)
   | none=>none
  | none=>none
inductive Z26 where
 | seq (z : Code)
 | blk (id : Nat)
def Z3j (P : Program) (Γ : Ctx) : List Z26 → (Exit → S → Prop) → Exit → S → Prop
 | [],Q=>Q
 | .seq z :: K,Q=>fun e σ=>match e with
  | .normal=>DWP P Γ z (Z3j P Γ K Q) σ
  | e=>Z3j P Γ K Q e σ
 | .blk id :: K,Q=>fun e σ=>match e with
  | .exit id'=>if id' = id then Z3j P Γ K Q .normal σ else Z3j P Γ K Q (.exit id') σ
  | e=>Z3j P Γ K Q e σ
def At (P : Program) (Γ : Ctx) (c : Code) (K : List Z26) (Q : Exit → S → Prop) (σ : S) : Prop:=DWP P Γ c (Z3j P Γ K Q) σ
inductive Ev where
 | cond (b : Bool) (x y : Code) (K : List Z26)
 | loop (c : Code) (K : List Z26)
 | ret
 | exit (id : Nat)
 | normal
 | stop (c : Code) (K : List Z26)
def popN : List Z26 → Option (Code × List Z26)
 | [] =>none
 | .seq z :: K=>some (z,K)
 | .blk _ :: K=>popN K
def Z5x (id : Nat) : List Z26 → Option (List Z26)
 | [] =>none
 | .seq _ :: K=>Z5x id K
 | .blk id' :: K=>match id == id' with
  | true=>some K
  | false=>Z5x id K
def EvOk (P : Program) (Γ : Ctx) (Q : Exit → S → Prop) (σ : S) : Ev → Prop
 | .cond b x y K=>(b = true → At P Γ x K Q σ) ∧ (b = false → At P Γ y K Q σ)
 | .loop c K=>At P Γ (.loop c) K Q σ
 | .ret=>Q .ret σ
 | .exit id=>Q (.exit id) σ
 | .normal=>Q .normal σ
 | .stop c K=>At P Γ c K Q σ
theorem Zhf {Q : Exit → S → Prop} : ∀ (K : List Z26),Q .ret σ → Z3j P Γ K Q .ret σ
 | [],h=>h
 | .seq _ :: K,h=>Zhf K h
 | .blk _ :: K,h=>Zhf K h
theorem Zfy {Q : Exit → S → Prop} : ∀ {K : List Z26},(∀ z K',popN K = some (z,K') → At P Γ z K' Q σ) → (popN K = none → Q .normal σ) → Z3j P Γ K Q .normal σ
 | [],_,h2=>h2 rfl
 | .seq z :: K,h1,_=>h1 z K rfl
 | .blk _ :: K,h1,h2=>Zfy (K:=K) (fun z K' h=>h1 z K' h) (fun h=>h2 h)
theorem Zch {Q : Exit → S → Prop} {id : Nat} : ∀ {K : List Z26},(∀ K',Z5x id K = some K' → Z3j P Γ K' Q .normal σ) → (Z5x id K = none → Q (.exit id) σ) → Z3j P Γ K Q (.exit id) σ
 | [],_,h2=>h2 rfl
 | .seq z :: K,h1,h2=>Zch (K:=K) (fun K' h=>h1 K' h) (fun h=>h2 h)
 | .blk id' :: K,h1,h2=>by
  show (if id = id' then Z3j P Γ K Q .normal σ else Z3j P Γ K Q (.exit id) σ)
  split
  ·rename_i e; subst e; exact h1 K (by simp [Z5x])
  ·rename_i e
   have e' : (id == id') = false:=by simpa using e
   exact Zch (K:=K) (fun K' h=>h1 K' (by unfold Z5x; rw [e']; exact h)) (fun h=>h2 (by unfold Z5x; rw [e']; exact h))
def AtO (P : Program) (Γ : Ctx) (c : Option Code) (K : List Z26) (Q : Exit → S → Prop) (σ : S) : Prop:=
 match c with
 | some c=>At P Γ c K Q σ
 | none=>Z3j P Γ K Q .normal σ
theorem At.exitK {K K' : List Z26} {Q : Exit → S → Prop} {id : Nat} (h : Z5x id K = some K') (hr : Z3j P Γ K' Q .normal σ) : Z3j P Γ K Q (.exit id) σ:=
 Zch (fun K'' h'=>by rw [h] at h'; cases h'; exact hr) (fun h'=>by rw [h] at h'; cases h')
theorem At.retK {K : List Z26} {Q : Exit → S → Prop} (hr : Q .ret σ) : Z3j P Γ K Q .ret σ:=Zhf K hr
theorem Z0e.at {f : FuncId} {fn : Func} (c : Code) {ds : List D} {r : D} (hf : P.funcs[f]? = some fn) (hb : fn.body = some c) (hent : Z6o P f = true) (hn : ds.length ≤ fn.ntmps)
  (h : ∀ Γ : Ctx,At P Γ c [] (Ends P fn r) (mkS fn.ntmps (Z3q 0 ds) [])) : Z0e P f ds r:=Z0e.mk hf hb hent hn h
theorem bindE {α β : Type} {o : Option α} {f : α → Option β} {r : β} (h : o.bind f = some r) : ∃ x,o = some x ∧ f x = some r:=by
 cases o with
 | none=>cases h
 | some x=>exact ⟨x,rfl,h⟩
theorem iteT {α : Type} {b : Bool} {x y r : α} (hb : b = true) (h : (if b = true then x else y) = r) : x = r:=by rwa [if_pos hb] at h
theorem iteF {α : Type} {b : Bool} {x y r : α} (hb : b = false) (h : (if b = true then x else y) = r) : y = r:=by rwa [if_neg (by simp [hb])] at h
theorem someE {α : Type} {x y : α} (h : some x = some y) : x = y:=Option.some.inj h
theorem Y1t {α β : Type} (f : α → β) {l : List α} {i : Int} {x : α} (h : Z0f l i = some x) : Z0f (l.map f) i = some (f x):=by
 unfold Z0f at *
 split at h
 ·rename_i h0
  rw [if_pos h0,List.getElem?_map,h]; rfl
 ·cases h
end Go.Den
