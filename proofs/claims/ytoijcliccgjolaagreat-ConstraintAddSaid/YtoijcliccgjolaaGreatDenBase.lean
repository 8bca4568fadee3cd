/-
  The abstract machine's values (addresses struck out), how they stand for values in a world, and the abstract state of a frame.
-/
import Derived.WalkKit
namespace Go.Den
open Go.RowKit
inductive D : Type where
 | undef
 | bool (b : Bool)
 | int (k : IntKind) (n : Int)
 | str (s : List UInt8)
 /-- a slice of memory that nobody writes any more; `c`: its capacity is its length -/
 | sl (c : Bool) (rows : List (List D))
 | agg (cs : List D)
 /-- a pointer into memory that nobody writes any more: the cells from there on -/
 | ptr (cs : List D)
 | nilptr
 /-- a pointer to a block of the call's own: its name,the row,the cell in the row -/
 | lptr (b i o : Nat)
 /-- a slice over a block of the call's own: its name,the first row,the number of rows -/
 | lsl (b lo n : Nat)
 | tup (vs : List D)
 | fn (f : FuncId)
 /-- this very value -/
 | raw (v : Value)
 deriving Inhabited
def one : Value → Bool
 | .agg _ | .tuple _=>false
 | _=>true
def D.dat : D → Bool
 | .bool _ | .int _ _ | .str _ | .sl _ _ | .ptr _ | .nilptr | .fn _ | .raw _=>true
 | _=>false
inductive Z06 (w : World) (G : Nat → Nat) (β : Nat → Option (Nat × Nat)) : Value → D → Prop where
 | undef (v : Value) : Z06 w G β v .undef
 | bool (b : Bool) : Z06 w G β (.bool b) (.bool b)
 | int (k : IntKind) (n : Int) : Z06 w G β (.int k n) (.int k n)
 | str (s : ByteArray) : Z06 w G β (.string s) (.str s.data.toList)
 | slnil (c : Bool) (x : Option Addr) : Z06 w G β (.slice x 0 0) (.sl c [])
 | sl (c : Bool) (b off n cap sz : Nat) (rows : List (List D)) (val : Nat → Nat → Value)
   (hn : rows.length = n) (hc : c = true → cap = n) (hcap : n ≤ cap)
   (hsz : ∀ (i : Nat) (r : List D),rows[i]? = some r → r.length = sz)
   (himm : ∀ i j,i < n → j < sz → off + i * sz + j < G b)
   (hcell : ∀ i j,i < n → j < sz → w.cell? ⟨b,off + i * sz + j,none⟩ = some (val i j))
   (hone : ∀ i j,i < n → j < sz → one (val i j) = true)
   (hdat : ∀ (i j : Nat) (r : List D) (d : D),rows[i]? = some r → r[j]? = some d → d.dat = true)
   (hrep : ∀ (i j : Nat) (r : List D) (d : D),rows[i]? = some r → r[j]? = some d → Z06 w G β (val i j) d) :
   Z06 w G β (.slice (some ⟨b,off,none⟩) n cap) (.sl c rows)
 | agg (vs : Array Value) (cs : List D) (hn : cs.length = vs.size)
   (hone : ∀ (j : Nat) v,vs[j]? = some v → one v = true)
   (hrep : ∀ (j : Nat) v d,vs[j]? = some v → cs[j]? = some d → Z06 w G β v d) :
   Z06 w G β (.agg vs) (.agg cs)
 | ptr (b off : Nat) (cs : List D) (val : Nat → Value)
   (himm : ∀ j,j < cs.length → off + j < G b)
   (hcell : ∀ j,j < cs.length → w.cell? ⟨b,off + j,none⟩ = some (val j))
   (hone : ∀ j,j < cs.length → one (val j) = true)
   (hdat : ∀ (j : Nat) d,cs[j]? = some d → d.dat = true)
   (hrep : ∀ (j : Nat) d,cs[j]? = some d → Z06 w G β (val j) d) :
   Z06 w G β (.pointer (some ⟨b,off,none⟩)) (.ptr cs)
 | nilptr : Z06 w G β (.pointer none) .nilptr
 | lptr (b i o c sz : Nat) (h : β b = some (c,sz)) : Z06 w G β (.pointer (some ⟨c,i * sz + o,none⟩)) (.lptr b i o)
 | lslnil (b : Nat) (x : Option Addr) : Z06 w G β (.slice x 0 0) (.lsl b 0 0)
 | lsl (b lo n cap c sz off : Nat) (h : β b = some (c,sz)) (hcap : n ≤ cap) (hoff : cap = 0 ∨ off = lo * sz)
   (hroom : ∃ vs e fr,w.heap[c]? = some (.cells vs e fr) ∧ (cap = 0 ∨ (lo + cap) * sz ≤ vs.size)) :
   Z06 w G β (.slice (some ⟨c,off,none⟩) n cap) (.lsl b lo n)
 | tup (vs : Array Value) (ds : List D) (hn : ds.length = vs.size)
   (hrep : ∀ (j : Nat) v d,vs[j]? = some v → ds[j]? = some d → Z06 w G β v d) :
   Z06 w G β (.tuple vs) (.tup ds)
 | fn (f : FuncId) : Z06 w G β (.func (.func f) #[] #[]) (.fn f)
 | raw (v : Value) (h : one v = true) : Z06 w G β v (.raw v)
def Z56 (w w' : World) : Prop:=∀ (c : Nat) vs e fr,w.heap[c]? = some (.cells vs e fr) → ∃ vs' fr',w'.heap[c]? = some (.cells vs' e fr') ∧ vs'.size = vs.size
theorem Z56.refl (w : World) : Z56 w w:=fun _ vs _ fr h=>⟨vs,fr,h,rfl⟩
theorem Z56.trans {a b c : World} (h : Z56 a b) (k : Z56 b c) : Z56 a c:=fun i vs e fr hi=>by
 obtain ⟨vs',fr',h1,h2⟩:=h i vs e fr hi
 obtain ⟨vs'',fr'',h3,h4⟩:=k i vs' e fr' h1
 exact ⟨vs'',fr'',h3,h4.trans h2⟩
theorem Z06.mono {w w' : World} {G G' : Nat → Nat} {β β' : Nat → Option (Nat × Nat)} {v : Value} {d : D} (h : Z06 w G β v d)
  (hc : ∀ b o,o < G b → w'.cell? ⟨b,o,none⟩ = w.cell? ⟨b,o,none⟩) (hG : ∀ b,G b ≤ G' b)
  (hβ : ∀ b x,β b = some x → β' b = some x) (hs : Z56 w w') : Z06 w' G' β' v d:=by
 induction h with
 | undef v=>exact .undef v
 | bool b=>exact .bool b
 | int k n=>exact .int k n
 | str s=>exact .str s
 | slnil c x=>exact .slnil c x
 | sl c b off n cap sz rows val hn hcc hcap hsz himm hcell hone hdat hrep ih=>
  refine .sl c b off n cap sz rows val hn hcc hcap hsz (fun i j hi hj=>Nat.lt_of_lt_of_le (himm i j hi hj) (hG b)) (fun i j hi hj=>?_) hone hdat (fun i j r d hr hd=>ih i j r d hr hd)
  rw [hc _ _ (himm i j hi hj)]; exact hcell i j hi hj
 | agg vs cs hn hone hrep ih=>exact .agg vs cs hn hone (fun j v d hv hd=>ih j v d hv hd)
 | ptr b off cs val himm hcell hone hdat hrep ih=>
  refine .ptr b off cs val (fun j hj=>Nat.lt_of_lt_of_le (himm j hj) (hG b)) (fun j hj=>?_) hone hdat (fun j d hd=>ih j d hd)
  rw [hc _ _ (himm j hj)]; exact hcell j hj
 | nilptr=>exact .nilptr
 | lptr b i o c sz h=>exact .lptr b i o c sz (hβ _ _ h)
 | lslnil b x=>exact .lslnil b x
 | lsl b lo n cap c sz off h hcap hoff hroom=>
  obtain ⟨vs,e,fr,h1,h2⟩:=hroom
  obtain ⟨vs',fr',h3,h4⟩:=hs c vs e fr h1
  exact .lsl b lo n cap c sz off (hβ _ _ h) hcap hoff ⟨vs',e,fr',h3,by omega⟩
 | tup vs ds hn hrep ih=>exact .tup vs ds hn (fun j v d hv hd=>ih j v d hv hd)
 | fn f=>exact .fn f
 | raw v h=>exact .raw v h
theorem Z06.of_dat {w w' : World} {G G' : Nat → Nat} {β β' : Nat → Option (Nat × Nat)} {v : Value} {d : D} (h : Z06 w G β v d)
  (hc : ∀ b o,o < G b → w'.cell? ⟨b,o,none⟩ = w.cell? ⟨b,o,none⟩) (hG : ∀ b,G b ≤ G' b) (hd : d.dat = true) : Z06 w' G' β' v d:=by
 induction h with
 | bool b=>exact .bool b
 | int k n=>exact .int k n
 | str s=>exact .str s
 | slnil c x=>exact .slnil c x
 | sl c b off n cap sz rows val hn hcc hcap hsz himm hcell hone hdat hrep ih=>
  refine .sl c b off n cap sz rows val hn hcc hcap hsz (fun i j hi hj=>Nat.lt_of_lt_of_le (himm i j hi hj) (hG b)) (fun i j hi hj=>?_) hone hdat (fun i j r d hr hd=>ih i j r d hr hd (hdat i j r d hr hd))
  rw [hc _ _ (himm i j hi hj)]; exact hcell i j hi hj
 | ptr b off cs val himm hcell hone hdat hrep ih=>
  refine .ptr b off cs val (fun j hj=>Nat.lt_of_lt_of_le (himm j hj) (hG b)) (fun j hj=>?_) hone hdat (fun j d hd=>ih j d hd (hdat j d hd))
  rw [hc _ _ (himm j hj)]; exact hcell j hj
 | nilptr=>exact .nilptr
 | fn f=>exact .fn f
 | raw v h=>exact .raw v h
 | _=>simp [D.dat] at hd
theorem Zx7 {w : World} {G : Nat → Nat} {β : Nat → Option (Nat × Nat)} {v : Value} {d : D} (h : Z06 w G β v d)
  (h1 : d ≠ .undef) (h2 : ∀ cs,d ≠ .agg cs) (h3 : ∀ cs,d ≠ .tup cs) : one v = true:=by
 cases h <;> first | rfl | assumption | exact absurd rfl h1 | exact absurd rfl (h2 _) | exact absurd rfl (h3 _)
def Zda : List D → Bool
 | [] =>true
 | .bool _ :: r | .int _ _ :: r | .str _ :: r=>Zda r
 | _=>false
def D.scalar : D → Bool
 | .bool _ | .int _ _ | .str _=>true
 | .tup vs=>Zda vs
 | _=>false
theorem Zxg : ∀ {l : List D},Zda l = true → ∀ {j : Nat} {d : D},l[j]? = some d → (∃ b,d = .bool b) ∨ (∃ k n,d = .int k n) ∨ (∃ s,d = .str s)
 | [],_,_,_,h=>by simp at h
 | x :: r,hs,j,d,h=>by
  cases j with
  | zero=>
   simp at h; subst h
   cases x <;> simp [Zda] at hs ⊢
  | succ j=>
   simp at h
   cases x <;> simp [Zda] at hs <;> exact Zxg hs h
theorem Z06.of_scalar {w w' : World} {G G' : Nat → Nat} {β β' : Nat → Option (Nat × Nat)} {v : Value} {d : D} (h : Z06 w G β v d) (hs : d.scalar = true) : Z06 w' G' β' v d:=by
 cases h with
 | bool b=>exact .bool b
 | int k n=>exact .int k n
 | str s=>exact .str s
 | tup vs ds hn hrep=>
  refine .tup vs ds hn fun j v d hv hd=>?_
  have h1:=hrep j v d hv hd
  rcases Zxg (by simpa [D.scalar] using hs) hd with ⟨b,rfl⟩ | ⟨k,n,rfl⟩ | ⟨s,rfl⟩
  ·cases h1; exact .bool b
  ·cases h1; exact .int k n
  ·cases h1; exact .str _
 | _=>simp [D.scalar] at hs
structure Blk where
 sz : Nat
 rows : List (List D)
 /-- so many rows are never written again -/
 frz : Nat
 /-- it holds values without blocks of the call's own -/
 pure : Bool
 /-- handed in by the caller,where it stands still -/
 pin : Option Nat:=none
 /-- the type of its cells,where it is known -/
 ty : Option TypeId:=none
 deriving Inhabited
structure S where
 n : Nat
 tmps : Nat → D
 heap : Nat → Option Blk
def ofL : List (Nat × D) → Nat → D
 | [],_=> .undef
 | (k,d) :: r,t=>if t = k then d else ofL r t
def ofB : List (Nat × Blk) → Nat → Option Blk
 | [],_=>none
 | (k,d) :: r,t=>if t = k then some d else ofB r t
def mkS (n : Nat) (l : List (Nat × D)) (h : List (Nat × Blk)) : S:={ n,tmps:=ofL l,heap:=ofB h }
def S.put (σ : S) (dst : Option Nat) (d : D) : S:=
 match dst with
 | some t=>{ σ with tmps:=fun u=>if u = t then d else σ.tmps u }
 | none=>σ
def S.setB (σ : S) (b : Nat) (x : Option Blk) : S:={ σ with heap:=fun u=>if u = b then x else σ.heap u }
structure Ctx where
 B : Nat
 X : Nat → Prop
 w0 : World
 G0 : Nat → Nat
 hB : B ≤ w0.heap.size
 /-- where the blocks stand that were handed in -/
 pin : Nat → Nat
structure Z5a (B : Nat) (X : Nat → Prop) (w w' : World) : Prop where
 os : w'.os = w.os
 tape : w'.tape = w.tape
 output : w'.output = w.output
 size : w.heap.size ≤ w'.heap.size
 block : ∀ k,k < B → ¬ X k → w'.heap[k]? = w.heap[k]?
 same : Z56 w w'
theorem Z5a.refl (B : Nat) (X : Nat → Prop) (w : World) : Z5a B X w w:=⟨rfl,rfl,rfl,Nat.le_refl _,fun _ _ _=>rfl,.refl w⟩
theorem Z5a.trans {B : Nat} {X : Nat → Prop} {a b c : World} (h : Z5a B X a b) (k : Z5a B X b c) : Z5a B X a c:=
 ⟨k.os.trans h.os,k.tape.trans h.tape,k.output.trans h.output,Nat.le_trans h.size k.size,fun i hi hx=>(k.block i hi hx).trans (h.block i hi hx),h.same.trans k.same⟩
structure Z37 (w : World) (G : Nat → Nat) (β : Nat → Option (Nat × Nat)) (Γ : Ctx) (c : Nat) (blk : Blk) : Prop where
 own : Γ.B ≤ c ∨ Γ.X c
 pin : ∀ k,blk.pin = some k → Γ.pin k = c
 ty : ∀ t,blk.ty = some t → ∃ vs fr,w.heap[c]? = some (.cells vs t fr) ∧ fr.1 ≤ fr.2
 frz : ∀ o,o < G c → o < blk.frz * blk.sz
 top : blk.frz ≤ blk.rows.length
 dat : blk.pure = true → ∀ (i j : Nat) (r : List D) (d : D),blk.rows[i]? = some r → r[j]? = some d → d.dat = true
 hsz : ∀ (i : Nat) (r : List D),blk.rows[i]? = some r → r.length = blk.sz
 cells : ∃ vs e fr,w.heap[c]? = some (.cells vs e fr) ∧ (∀ o,o < vs.size → ¬ (fr.1 ≤ o ∧ o < fr.2)) ∧ blk.rows.length * blk.sz ≤ vs.size ∧
  ∀ (i j : Nat) (r : List D) (d : D),blk.rows[i]? = some r → r[j]? = some d → ∃ v,vs[i * blk.sz + j]? = some v ∧ one v = true ∧ Z06 w G β v d
structure Z05 (Γ : Ctx) (σ : S) (a : Act) (w : World) (G : Nat → Nat) (β : Nat → Option (Nat × Nat)) : Prop where
 defers : a.defers = []
 size : a.tmps.size = σ.n
 tmps : ∀ t,Z06 w G β (a.tmps.getD t Go.undef) (σ.tmps t)
 heap : ∀ b blk,σ.heap b = some blk → (β b = none ∧ blk.rows = [] ∧ blk.frz = 0) ∨ ∃ c,β b = some (c,blk.sz) ∧ Z37 w G β Γ c blk
 dom : ∀ b x,β b = some x → ∃ blk,σ.heap b = some blk
 inj : ∀ b b' c s s',β b = some (c,s) → β b' = some (c,s') → b = b'
 kept : Z5a Γ.B Γ.X Γ.w0 w
 marks : ∀ c,c < Γ.B → ¬ Γ.X c → G c = Γ.G0 c
 fresh : ∀ c,w.heap.size ≤ c → G c = 0
 big : Γ.B ≤ w.heap.size
theorem Y2a {l : Array Value} {t : Nat} {v : Value} (u : Nat) (ht : t < l.size) : (l.setIfInBounds t v).getD u Go.undef = if u = t then v else l.getD u Go.undef:=by
 simp only [Array.getD_eq_getD_getElem?,Array.getElem?_setIfInBounds]
 by_cases h : u = t
 ·subst h; simp [ht]
 ·simp [h,Ne.symm h]
theorem Z05.put {Γ : Ctx} {σ : S} {a : Act} {w : World} {G : Nat → Nat} {β : Nat → Option (Nat × Nat)} (h : Z05 Γ σ a w G β) {dst : Option Nat} (ht : ∀ t,dst = some t → t < σ.n) {v : Value} {d : D}
  (hv : Z06 w G β v d) : Z05 Γ (σ.put dst d) (a.put dst v) w G β:=by
 cases dst with
 | none=>exact h
 | some t=>
  have ht' : t < a.tmps.size:=by rw [h.size]; exact ht t rfl
  refine { h with size:=by simp [Act.put,S.put,h.size],tmps:=fun u=>?_ }
  simp only [Act.put,S.put]
  rw [Y2a u ht']
  split
  ·exact hv
  ·exact h.tmps u
end Go.Den
