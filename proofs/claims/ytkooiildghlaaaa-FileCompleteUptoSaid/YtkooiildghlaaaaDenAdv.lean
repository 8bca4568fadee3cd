/-
  Many steps at once: code with what follows it, run as far as the next branch that is not decided, the next loop, the end.
-/
import Derived.Test.YtkooiildghlaaaaDenDraw
namespace Go.Den
open Go.RowKit

def holds : List Prop → Prop
  | [] => True
  | p :: r => p ∧ holds r

theorem holds_append : ∀ {a b : List Prop}, holds (a ++ b) → holds a ∧ holds b
  | [], _, h => ⟨trivial, h⟩
  | _ :: _, _, h => ⟨⟨h.1, (holds_append h.2).1⟩, (holds_append h.2).2⟩

def isCmp : BinOp → Bool
  | .eql | .neq | .lss | .leq | .gtr | .geq => true
  | _ => false

/-- Operations that owe nothing. -/
def trivOp (o : Oper) (t : Told) : Bool :=
  match o.op, t.ans with
  | .move _, _ | .assign _, _ | .fieldAddr .., _ | .field .., _ | .extract .., _ | .nilCheck _, _ | .alloc _, _ | .box .., _ | .build .., _ => true
  | .load .., .go => true
  | .unOp .., .go => true
  | .convert .., .go => true
  | .binOp op .., .go => isCmp op
  | .call { callee := .builtin .len, .. }, .go => true
  | .pick .., .go => true
  | _, _ => false

variable {P : Program} {Γ : Ctx} {σ σ' : S} {a : Act} {w w' : World} {G G' : Nat → Nat} {β β' : Nat → Option (Nat × Nat)}

theorem numD_go {k : IntKind} {n : Int} {d : D} {p : Prop} (h : numD k n .go = some (d, p)) : p := by cases h; trivial
theorem strD_go {s : List UInt8} {d : D} {p : Prop} (h : strD s .go = some (d, p)) : p := by cases h; trivial
theorem boolD_go {b : Bool} {d : D} {p : Prop} (h : boolD b .go = some (d, p)) : p := by cases h; trivial

theorem ptrD_triv {op : BinOp} {xt : TypeId} {same : Bool} {d : D} {p : Prop} (h : ptrD P op xt same = some (d, p)) : p := by
  unfold ptrD at h
  repeat' split at h
  all_goals first | (cases h; done) | (cases h; trivial)

theorem triv_pure {o : Oper} {t : Told} (ht : trivOp o t = true) {d : D} {p : Prop} (h : pureD P σ o t.ans = some (d, p)) : p := by
  obtain ⟨dst, op, ty, pos, after, guard⟩ := o
  obtain ⟨ans, args, rows, row⟩ := t
  cases op with
  | move x => cases h; trivial
  | assign x => cases h; trivial
  | fieldAddr s x f => simp only [pureD] at h; split at h <;> cases h; trivial
  | field s x f =>
    simp only [pureD] at h
    split at h
    · split at h <;> cases h; trivial
    · cases h
  | extract x i =>
    simp only [pureD] at h
    split at h
    · split at h <;> cases h; trivial
    · cases h
  | nilCheck x => simp only [pureD] at h; split at h <;> cases h <;> trivial
  | load t x =>
    cases ans <;> simp only [trivOp] at ht <;> try cases ht
    simp only [pureD, loadD] at h
    split at h
    · rename_i cs q hq
      split at h
      · cases h
        unfold derefD at hq
        split at hq
        · cases hq; trivial
        · split at hq
          · split at hq
            · rename_i heq; cases heq
            · split at hq <;> cases hq; trivial
          · cases hq
        · cases hq
      · cases h
    · cases h
  | unOp op t x =>
    cases ans <;> simp only [trivOp] at ht <;> try cases ht
    simp only [pureD, unD] at h
    split at h
    · exact numD_go h
    · exact boolD_go h
    · cases h
  | convert s t x =>
    cases ans <;> simp only [trivOp] at ht <;> try cases ht
    simp only [pureD, convD] at h
    split at h
    · exact numD_go h
    · cases h; trivial
    · exact strD_go h
    · cases h
  | binOp op xt x y yt =>
    cases ans <;> simp only [trivOp] at ht <;> try cases ht
    simp only [pureD, binD] at h
    split at h
    · split at h
      · cases ht
      · cases ht
      · split at h
        · cases op <;> first | exact boolD_go h | cases ht
        · cases h
    · cases op <;> first | exact boolD_go h | cases ht
    · split at h
      · split at h
        · exact boolD_go h
        · exact boolD_go h
        · cases h
      · cases h
    · split at h
      · rename_i he; cases he
      · cases h
    · exact ptrD_triv h
    · exact ptrD_triv h
    · split at h
      · exact ptrD_triv h
      · cases h
    · cases h
  | call c =>
    obtain ⟨callee, args, ts⟩ := c
    cases callee with
    | builtin b =>
      cases b with
      | len =>
        cases ans <;> simp only [trivOp] at ht <;> try cases ht
        simp only [pureD] at h
        split at h
        · unfold lenD at h
          split at h
          · exact numD_go h
          · exact numD_go h
          · exact numD_go h
          · exact numD_go h
          · cases h
        · cases h
      | max => cases ans <;> cases ht
      | unsafeSliceData => cases ans <;> cases ht
      | _ => cases h
    | _ => cases h
  | pick c x y =>
    cases ans <;> simp only [trivOp] at ht <;> try cases ht
    simp only [pureD, pickD] at h
    split at h
    · split at h <;> cases h <;> trivial
    · cases h
  | alloc _ => cases h
  | box _ _ => cases h
  | build _ _ => cases h
  | _ => cases ans <;> simp [trivOp] at ht

theorem triv_step {o : Oper} {t : Told} (ht : trivOp o t = true) {p : Prop} (h : stepD P σ o t = some (σ', p)) : p := by
  unfold stepD at h
  split at h
  · rename_i d q hq
    split at h
    · cases h; exact triv_pure ht hq
    · cases h
  · rename_i hn
    obtain ⟨dst, op, ty, pos, after, guard⟩ := o
    cases op with
    | alloc e =>
      simp only [effD] at h
      split at h
      · obtain ⟨_, _, _, _, _, rfl⟩ := newD_spec h; trivial
      · cases h
    | box e x =>
      simp only [effD] at h
      split at h
      · split at h
        · split at h <;> cases h; trivial
        · obtain ⟨_, _, _, _, _, rfl⟩ := newD_spec h; trivial
      · cases h
    | build t parts =>
      simp only [effD] at h
      split at h
      · split at h
        · split at h <;> cases h; trivial
        · cases h
      · cases h
    | call c =>
      obtain ⟨callee, args, ts⟩ := c
      cases callee with
      | builtin b =>
        obtain ⟨ans, args', rows, row⟩ := t
        cases b <;> first
          | (cases h; done)
          | (cases ans <;> simp [trivOp] at ht)
      | value f => obtain ⟨ans, args', rows, row⟩ := t; cases ans <;> simp [trivOp] at ht
      | invoke r m => cases h
    | convert s d x =>
      obtain ⟨ans, args', rows, row⟩ := t
      cases ans <;> simp [trivOp] at ht
      simp only [effD, bytesD] at h
      repeat' split at h
      all_goals first
        | (cases h; done)
        | (cases h; trivial)
        | (rename_i heq _; cases heq; done)
        | (rename_i heq; cases heq; done)
        | simp at *
    | _ => first
      | cases h
      | (obtain ⟨ans, args', rows, row⟩ := t; cases ans <;> simp [trivOp] at ht)

/-- Does operation number i of a region owe anything? -/
def trivAt (ops : Array Oper) (told : List (Nat × Told)) (i : Nat) : Bool :=
  match ops[i]? with
  | none => true
  | some o => match o.guard with
    | none => trivOp o (toldAt told i)
    | some _ => false

theorem trivAt_spec {ops : Array Oper} {told : List (Nat × Told)} {gs : List (Nat × Bool)} {i : Nat} (ht : trivAt ops told i = true) {p : Prop} (h : oneD P ops told gs i σ = some (σ', p)) : p := by
  unfold trivAt at ht
  unfold oneD at h
  cases ho : ops[i]? with
  | none => rw [ho] at h; cases h; trivial
  | some o =>
    rw [ho] at h ht
    dsimp only at h ht
    cases hg : o.guard with
    | some x => rw [hg] at ht; cases ht
    | none =>
      rw [hg] at ht
      have e : guardD ops σ o (gAt gs i) = some (true, True) := by unfold guardD; rw [hg]
      rw [e] at h
      dsimp only at h ht
      split at h
      · rename_i σ1 q hq
        cases h
        exact ⟨trivial, triv_step ht hq⟩
      · cases h

/-- A region, what it owes as a list. -/
def runL (P : Program) (ops : Array Oper) (told : List (Nat × Told)) (gs : List (Nat × Bool)) : List Nat → S → Option (S × List Prop)
  | [], σ => some (σ, [])
  | i :: r, σ =>
    match oneD P ops told gs i σ with
    | some (σ', p) =>
      match runL P ops told gs r σ' with
      | some (σ'', q) => match trivAt ops told i with
        | true => some (σ'', q)
        | false => some (σ'', p :: q)
      | none => none
    | none => none

theorem runL_spec {ops : Array Oper} {told : List (Nat × Told)} {gs : List (Nat × Bool)} : ∀ (l : List Nat) {σ : S} {q : List Prop}, runL P ops told gs l σ = some (σ', q) → holds q → ∃ p, runD P ops told gs l σ = some (σ', p) ∧ p
  | [], σ, q, h, hq => by cases h; exact ⟨True, rfl, trivial⟩
  | i :: r, σ, q, h, hq => by
    unfold runL at h
    unfold runD
    split at h
    · rename_i σ1 p1 h1
      split at h
      · rename_i σ2 q2 h2
        split at h
        · rename_i ht
          cases h
          obtain ⟨p, e, hp⟩ := runL_spec r h2 hq
          exact ⟨p1 ∧ p, by rw [h1]; dsimp only; rw [e], trivAt_spec ht h1, hp⟩
        · cases h
          obtain ⟨p, e, hp⟩ := runL_spec r h2 hq.2
          exact ⟨p1 ∧ p, by rw [h1]; dsimp only; rw [e], hq.1, hp⟩
      · cases h
    · cases h

/-! ### Code with what follows it -/

inductive Kont where
  | seq (z : Code)
  | blk (id : Nat)

/-- What a piece of code owes to what follows it. -/
def runK (P : Program) (Γ : Ctx) : List Kont → (Exit → S → Prop) → Exit → S → Prop
  | [], Q => Q
  | .seq z :: K, Q => fun e σ => match e with
    | .normal => DWP P Γ z (runK P Γ K Q) σ
    | e => runK P Γ K Q e σ
  | .blk id :: K, Q => fun e σ => match e with
    | .exit id' => if id' = id then runK P Γ K Q .normal σ else runK P Γ K Q (.exit id') σ
    | e => runK P Γ K Q e σ

/-- Code, what follows it, and the end. -/
def At (P : Program) (Γ : Ctx) (c : Code) (K : List Kont) (Q : Exit → S → Prop) (σ : S) : Prop := DWP P Γ c (runK P Γ K Q) σ

/-- Where a run has come to. -/
inductive Ev where
  | cond (b : Bool) (x y : Code) (K : List Kont)
  | loop (c : Code) (K : List Kont)
  | ret
  | exit (id : Nat)
  | normal
  | stop (c : Code) (K : List Kont)

/-- What is told of a region. -/
structure RTold where
  told : List (Nat × Told) := []
  gs : List (Nat × Bool) := []
  keep : Option (List Nat × List (Nat × Nat)) := none
  /-- a region that draws its order: an order, operations that are not moved, what each operation waits for -/
  ord : Option (List Nat × List Nat × List (Nat × List Nat)) := none

/-- As 'runXs', what it owes as a list. -/
def runXL (P : Program) (ops : Array Oper) (told : List (Nat × Told)) (gs : List (Nat × Bool)) (xs : List Nat) : List Nat → S → Option (S × List Prop)
  | [], σ => some (σ, [])
  | i :: r, σ =>
    match oneX P ops told gs xs i σ with
    | some (σ', p) =>
      match runXL P ops told gs xs r σ' with
      | some (σ'', q) => match trivAt ops told i with
        | true => some (σ'', q)
        | false => some (σ'', p :: q)
      | none => none
    | none => none

theorem runXL_spec {ops : Array Oper} {told : List (Nat × Told)} {gs : List (Nat × Bool)} {xs : List Nat} : ∀ (l : List Nat) {σ : S} {q : List Prop}, runXL P ops told gs xs l σ = some (σ', q) → holds q → ∃ p, runXs P ops told gs xs l σ = some (σ', p) ∧ p
  | [], σ, q, h, hq => by cases h; exact ⟨True, rfl, trivial⟩
  | i :: r, σ, q, h, hq => by
    unfold runXL at h
    unfold runXs
    split at h
    · rename_i σ1 p1 h1
      split at h
      · rename_i σ2 q2 h2
        split at h
        · rename_i ht
          cases h
          obtain ⟨p, e, hp⟩ := runXL_spec r h2 hq
          exact ⟨p1 ∧ p, by rw [h1]; dsimp only; rw [e], trivAt_spec ht (oneX_D h1), hp⟩
        · cases h
          obtain ⟨p, e, hp⟩ := runXL_spec r h2 hq.2
          exact ⟨p1 ∧ p, by rw [h1]; dsimp only; rw [e], hq.1, hp⟩
      · cases h
    · cases h

/-- A region, of either kind. -/
def runR (P : Program) (t : RTold) (ops : Array Oper) (draw : Bool) (σ : S) : Option (S × List Prop) :=
  match draw with
  | false => runL P ops t.told t.gs (List.range ops.size) σ
  | true =>
    match t.ord with
    | none => none
    | some (ord, xs, W) =>
      match P.follows .mixedOrders && ordOk ops xs W ord with
      | true => runXL P ops t.told t.gs xs ord σ
      | false => none

theorem runR_sound {t : RTold} {ops : Array Oper} {draw : Bool} {id : Nat} {q : List Prop} {Q : Exit → S → Prop} (h : runR P t ops draw σ = some (σ', q)) (hq : holds q) (hQ : Q .normal σ') : DWP P Γ (.region id ops draw) Q σ := by
  unfold runR at h
  split at h
  · obtain ⟨p, e, hp⟩ := runL_spec _ h hq
    exact DWP.region e hp hQ
  · split at h
    · cases h
    · split at h
      · rename_i hok
        simp only [Bool.and_eq_true] at hok
        obtain ⟨p, e, hp⟩ := runXL_spec _ h hq
        exact DWP.draw hok.1 hok.2 e hp hQ
      · cases h

def rAt : List (Nat × RTold) → Nat → RTold
  | [], _ => {}
  | (k, t) :: r, i => if i = k then t else rAt r i

/-- A normal end, with what follows. -/
def popN : List Kont → Option (Code × List Kont)
  | [] => none
  | .seq z :: K => some (z, K)
  | .blk _ :: K => popN K
/-- An exit, with what follows. -/
def popE (id : Nat) : List Kont → Option (List Kont)
  | [] => none
  | .seq _ :: K => popE id K
  | .blk id' :: K => match id == id' with
    | true => some K
    | false => popE id K


/-- The run ('none': a normal end is at hand). 'stops': regions ahead of which it stops. -/
def adv (P : Program) (stops : List Nat) (rs : List (Nat × RTold)) : Nat → Option Code → List Kont → S → Option (Ev × S × List Prop)
  | 0, _, _, _ => none
  | n + 1, none, K, σ =>
    match popN K with
    | some (z, K') => adv P stops rs n (some z) K' σ
    | none => some (.normal, σ, [])
  | n + 1, some c, K, σ =>
    match c with
    | .skip => adv P stops rs n none K σ
    | .seq x y => adv P stops rs n (some x) (.seq y :: K) σ
    | .block id x => adv P stops rs n (some x) (.blk id :: K) σ
    | .exit id =>
      match popE id K with
      | some K' => adv P stops rs n none K' σ
      | none => some (.exit id, σ, [])
    | .ret => some (.ret, σ, [])
    | .loop x => some (.loop x K, σ, [])
    | .cond o x y =>
      match σ.ev o with
      | .bool b => some (.cond b x y K, σ, [])
      | _ => none
    | .region id ops draw =>
      match elemB id stops with
      | true => some (.stop c K, σ, [])
      | false =>
        match runR P (rAt rs id) ops draw σ with
        | some (σ', q) =>
          match (rAt rs id).keep with
          | none =>
            match adv P stops rs n none K σ' with
            | some (ev, σ'', q') => some (ev, σ'', q ++ q')
            | none => none
          | some (keep, ps) =>
            match gcL keep ps σ' with
            | some (l, bl) =>
              match adv P stops rs n none K (mkS σ'.n l bl) with
              | some (ev, σ'', q') => some (ev, σ'', q ++ q')
              | none => none
            | none => none
        | none => none
    | _ => none

/-- What is owed where the run has come to. -/
def EvOk (P : Program) (Γ : Ctx) (Q : Exit → S → Prop) (σ : S) : Ev → Prop
  | .cond b x y K => (b = true → At P Γ x K Q σ) ∧ (b = false → At P Γ y K Q σ)
  | .loop c K => At P Γ (.loop c) K Q σ
  | .ret => Q .ret σ
  | .exit id => Q (.exit id) σ
  | .normal => Q .normal σ
  | .stop c K => At P Γ c K Q σ

theorem runK_ret {Q : Exit → S → Prop} : ∀ (K : List Kont), Q .ret σ → runK P Γ K Q .ret σ
  | [], h => h
  | .seq _ :: K, h => runK_ret K h
  | .blk _ :: K, h => runK_ret K h
theorem runK_normal {Q : Exit → S → Prop} : ∀ {K : List Kont}, (∀ z K', popN K = some (z, K') → At P Γ z K' Q σ) → (popN K = none → Q .normal σ) → runK P Γ K Q .normal σ
  | [], _, h2 => h2 rfl
  | .seq z :: K, h1, _ => h1 z K rfl
  | .blk _ :: K, h1, h2 => runK_normal (K := K) (fun z K' h => h1 z K' h) (fun h => h2 h)
theorem runK_exit {Q : Exit → S → Prop} {id : Nat} : ∀ {K : List Kont}, (∀ K', popE id K = some K' → runK P Γ K' Q .normal σ) → (popE id K = none → Q (.exit id) σ) → runK P Γ K Q (.exit id) σ
  | [], _, h2 => h2 rfl
  | .seq z :: K, h1, h2 => runK_exit (K := K) (fun K' h => h1 K' h) (fun h => h2 h)
  | .blk id' :: K, h1, h2 => by
    show (if id = id' then runK P Γ K Q .normal σ else runK P Γ K Q (.exit id) σ)
    split
    · rename_i e; subst e; exact h1 K (by simp [popE])
    · rename_i e
      have e' : (id == id') = false := by simpa using e
      exact runK_exit (K := K) (fun K' h => h1 K' (by unfold popE; rw [e']; exact h)) (fun h => h2 (by unfold popE; rw [e']; exact h))

def AtO (P : Program) (Γ : Ctx) (c : Option Code) (K : List Kont) (Q : Exit → S → Prop) (σ : S) : Prop :=
  match c with
  | some c => At P Γ c K Q σ
  | none => runK P Γ K Q .normal σ

theorem adv_sound {stops : List Nat} {rs : List (Nat × RTold)} {Q : Exit → S → Prop} : ∀ (n : Nat) {c : Option Code} {K : List Kont} {σ : S} {ev : Ev} {σ' : S} {q : List Prop},
    adv P stops rs n c K σ = some (ev, σ', q) → holds q → EvOk P Γ Q σ' ev → AtO P Γ c K Q σ
  | 0, _, _, _, _, _, _, h, _, _ => by cases h
  | n + 1, none, K, σ, ev, σ', q, h, hq, hev => by
    unfold adv at h
    split at h
    · rename_i z K' hp
      refine runK_normal (fun z' K'' h' => ?_) (fun h' => by rw [hp] at h'; cases h')
      rw [hp] at h'; cases h'
      exact adv_sound n h hq hev
    · rename_i hp
      cases h
      exact runK_normal (fun z' K'' h' => by rw [hp] at h'; cases h') (fun _ => hev)
  | n + 1, some c, K, σ, ev, σ', q, h, hq, hev => by
    unfold adv at h
    show DWP P Γ c (runK P Γ K Q) σ
    split at h
    · exact DWP.skip (adv_sound n h hq hev)
    · have := adv_sound n h hq hev
      exact DWP.seq (DWP.mono this fun e σ1 h1 => by cases e <;> exact h1)
    · have := adv_sound n h hq hev
      exact DWP.block (DWP.mono this fun e σ1 h1 => by cases e <;> exact h1)
    · split at h
      · rename_i K' hp
        refine DWP.exit (runK_exit (fun K'' h' => ?_) (fun h' => by rw [hp] at h'; cases h'))
        rw [hp] at h'; cases h'
        exact adv_sound n h hq hev
      · rename_i hp
        cases h
        exact DWP.exit (runK_exit (fun K'' h' => by rw [hp] at h'; cases h') (fun _ => hev))
    · cases h; exact DWP.ret (runK_ret K hev)
    · cases h; exact hev
    · split at h
      · rename_i b hb
        cases h
        exact DWP.cond hb hev.1 hev.2
      · cases h
    · rename_i id ops draw
      split at h
      · cases h; exact hev
      · split at h
        · rename_i σ1 q1 hr
          split at h
          · split at h
            · rename_i ev2 σ2 q2 ha
              cases h
              obtain ⟨hq1, hq2⟩ := holds_append hq
              exact runR_sound hr hq1 (adv_sound n ha hq2 hev)
            · cases h
          · split at h
            · rename_i l bl hg
              split at h
              · rename_i ev2 σ2 q2 ha
                cases h
                obtain ⟨hq1, hq2⟩ := holds_append hq
                exact DWP.post_gc (runR_sound hr hq1 ⟨rfl, rfl⟩) hg (adv_sound n ha hq2 hev)
              · cases h
            · cases h
        · cases h
    · cases h

/-- As it is used. -/
theorem At.adv {c : Code} {K : List Kont} {Q : Exit → S → Prop} (stops : List Nat) (rs : List (Nat × RTold)) (n : Nat) {ev : Ev} {σ' : S} {q : List Prop}
    (h : Den.adv P stops rs n (some c) K σ = some (ev, σ', q)) (hq : holds q) (hev : EvOk P Γ Q σ' ev) : At P Γ c K Q σ := adv_sound n h hq hev
theorem At.advN {K : List Kont} {Q : Exit → S → Prop} (stops : List Nat) (rs : List (Nat × RTold)) (n : Nat) {ev : Ev} {σ' : S} {q : List Prop}
    (h : Den.adv P stops rs n none K σ = some (ev, σ', q)) (hq : holds q) (hev : EvOk P Γ Q σ' ev) : runK P Γ K Q .normal σ := adv_sound n h hq hev
theorem At.exitK {K K' : List Kont} {Q : Exit → S → Prop} {id : Nat} (h : popE id K = some K') (hr : runK P Γ K' Q .normal σ) : runK P Γ K Q (.exit id) σ :=
  runK_exit (fun K'' h' => by rw [h] at h'; cases h'; exact hr) (fun h' => by rw [h] at h'; cases h')
theorem At.exitQ {K : List Kont} {Q : Exit → S → Prop} {id : Nat} (h : popE id K = none) (hr : Q (.exit id) σ) : runK P Γ K Q (.exit id) σ :=
  runK_exit (fun K'' h' => by rw [h] at h'; cases h') (fun _ => hr)
theorem At.retK {K : List Kont} {Q : Exit → S → Prop} (hr : Q .ret σ) : runK P Γ K Q .ret σ := runK_ret K hr

/-- A function's body. -/
theorem CallSpec.at {f : FuncId} {fn : Func} (c : Code) {ds : List D} {r : D} (hf : P.funcs[f]? = some fn) (hb : fn.body = some c) (hent : enters P f = true) (hn : ds.length ≤ fn.ntmps)
    (h : ∀ Γ : Ctx, At P Γ c [] (Ends P fn r) (mkS fn.ntmps (argsL 0 ds) [])) : CallSpec P f ds r := CallSpec.mk hf hb hent hn h

/-- The end of a round: another round, or the end, in such a state. -/
def Round {T R : Type} (st : T → S) (K : R → Exit → S → Prop) (x : Ctl T R) : Exit → S → Prop := fun e σ =>
  match x with
  | .next t => e = .normal ∧ σ = st t
  | .done r => e ≠ .normal ∧ K r e σ

theorem At.loop {T R : Type} {c : Code} {K : List Kont} {Q : Exit → S → Prop} (f : T → Option (Ctl T R)) (st : T → S) (J : R → Exit → S → Prop) {n : Nat} (t : T) {r : R} (h : loopM f n t = some r) (h0 : σ = st t)
    (round : ∀ t x, f t = some x → At P Γ c [] (Round st J x) (st t))
    (hQ : ∀ e σ', J r e σ' → runK P Γ K Q e σ') : At P Γ (.loop c) K Q σ := by
  subst h0
  exact DWP.loop (fun t x hx => round t x hx) h hQ

/-! ### Reading a model -/

theorem bindE {α β : Type} {o : Option α} {f : α → Option β} {r : β} (h : o.bind f = some r) : ∃ x, o = some x ∧ f x = some r := by
  cases o with
  | none => cases h
  | some x => exact ⟨x, rfl, h⟩
theorem iteT {α : Type} {b : Bool} {x y r : α} (hb : b = true) (h : (if b = true then x else y) = r) : x = r := by rwa [if_pos hb] at h
theorem iteF {α : Type} {b : Bool} {x y r : α} (hb : b = false) (h : (if b = true then x else y) = r) : y = r := by rwa [if_neg (by simp [hb])] at h
theorem someE {α : Type} {x y : α} (h : some x = some y) : x = y := Option.some.inj h

/-- A number that its kind holds. -/
def fitK (k : IntKind) (n : Int) : Option Int := if k.wrap n = n then some n else none
theorem fitK_spec {k : IntKind} {n m : Int} (h : fitK k n = some m) : k.wrap n = m ∧ n = m := by
  unfold fitK at h
  split at h
  · rename_i hw; cases h; exact ⟨hw, rfl⟩
  · cases h

/-- Division, where it is one. -/
def quoK (k : IntKind) (a b : Int) : Option Int := if b ≠ 0 ∧ k.wrap (a.tdiv b) = a.tdiv b then some (a.tdiv b) else none
def remK (a b : Int) : Option Int := if b ≠ 0 then some (a.tmod b) else none

theorem getR_map {α β : Type} (f : α → β) {l : List α} {i : Int} {x : α} (h : getR l i = some x) : getR (l.map f) i = some (f x) := by
  unfold getR at *
  split at h
  · rename_i h0
    rw [if_pos h0, List.getElem?_map, h]; rfl
  · cases h

end Go.Den
