/-
  How the abstract state follows the world: a world that only grows; a new block; a block let go; a block written; a block frozen.
-/
import Derived.Test.YtoijcliccgjolaaGreatDenPure
namespace Go.Den
open Go.RowKit
variable {P : Program} {Γ : Ctx} {σ : S} {a : Act} {w w' : World} {G G' : Nat → Nat} {β β' : Nat → Option (Nat × Nat)}
theorem Z4p (w : World) (b o : Nat) : w.cell? ⟨b,o,none⟩ = match w.heap[b]? with | some (.cells c _ _)=>c[o]? | _=>none:=by
 unfold World.cell?; split <;> simp_all
theorem Z79 {b : Nat} (h : w'.heap[b]? = w.heap[b]?) (o : Nat) : w'.cell? ⟨b,o,none⟩ = w.cell? ⟨b,o,none⟩:=by rw [Z4p,Z4p,h]
theorem Zjw {b : Nat} {x : Obj} (h : w.heap[b]? = some x) : b < w.heap.size:=by
 rcases Nat.lt_or_ge b w.heap.size with h' | h'
 ·exact h'
 ·simp [Array.getElem?_eq_none h'] at h
theorem Zi1 (h : Below w.heap.size w w') : Z56 w w':=fun c vs e fr hc=>⟨vs,fr,by rw [h.block c (Zjw hc)]; exact hc,rfl⟩
theorem Y3r (h : Below w.heap.size w w') (B : Nat) (X : Nat → Prop) (hB : B ≤ w.heap.size) : Z5a B X w w':=
 ⟨h.os,h.tape,h.output,h.size,fun k hk _=>h.block k (by omega),Zi1 h⟩
theorem Z37.mono {c : Nat} {blk : Blk} (h : Z37 w G β Γ c blk) (hc : ∀ b o,o < G b → w'.cell? ⟨b,o,none⟩ = w.cell? ⟨b,o,none⟩) (hG : ∀ b,G b ≤ G' b) (hGc : G' c = G c)
  (hβ : ∀ b x,β b = some x → β' b = some x) (hs : Z56 w w') (hb : w'.heap[c]? = w.heap[c]?) : Z37 w' G' β' Γ c blk:=by
 obtain ⟨own,pin,ty,frz,top,dat,hsz,vs,e,fr,h1,h2,h3,h4⟩:=h
 exact ⟨own,pin,fun t ht=>by rw [hb]; exact ty t ht,fun o ho=>frz o (by omega),top,dat,hsz,vs,e,fr,hb.trans h1,h2,h3,fun i j r d hr hd=>by
  obtain ⟨v,a1,a2,a3⟩:=h4 i j r d hr hd
  exact ⟨v,a1,a2,a3.mono hc hG hβ hs⟩⟩
theorem Z37.lt {c : Nat} {blk : Blk} (h : Z37 w G β Γ c blk) : c < w.heap.size:=by
 obtain ⟨vs,e,fr,h1,-⟩:=h.cells
 exact Zjw h1
theorem Z05.marksLt (h : Z05 Γ σ a w G β) {b o : Nat} (ho : o < G b) : b < w.heap.size:=by
 rcases Nat.lt_or_ge b w.heap.size with h' | h'
 ·exact h'
 ·have:=h.fresh b h'; omega
theorem Z05.quiet (h : Z05 Γ σ a w G β) (hb : Below w.heap.size w w') : Z05 Γ σ a w' G β:=by
 have hc : ∀ b o,o < G b → w'.cell? ⟨b,o,none⟩ = w.cell? ⟨b,o,none⟩:=fun b o ho=>Z79 (hb.block b (h.marksLt ho)) o
 refine ⟨h.defers,h.size,fun t=>(h.tmps t).mono hc (fun _=>Nat.le_refl _) (fun _ _ h=>h) (Zi1 hb),fun b blk hblk=>?_,h.dom,h.inj,h.kept.trans (Y3r hb _ _ h.big),h.marks,fun c hc=>h.fresh c (Nat.le_trans hb.size hc),Nat.le_trans h.big hb.size⟩
 rcases h.heap b blk hblk with h0 | ⟨c,h0,hB⟩
 ·exact .inl h0
 ·exact .inr ⟨c,h0,hB.mono hc (fun _=>Nat.le_refl _) rfl (fun _ _ h=>h) (Zi1 hb) (hb.block c hB.lt)⟩
def upd (β : Nat → Option (Nat × Nat)) (b : Nat) (x : Option (Nat × Nat)) : Nat → Option (Nat × Nat):=fun u=>if u = b then x else β u
theorem Z05.name (h : Z05 Γ σ a w G β) {b c : Nat} {blk : Blk} (hb : σ.heap b = none) (hc : ∀ b' s,β b' ≠ some (c,s)) (hB : Z37 w G β Γ c blk) : Z05 Γ (σ.setB b (some blk)) a w G (upd β b (some (c,blk.sz))):=by
 have hβb : β b = none:=by
  cases hx : β b with
  | none=>rfl
  | some x=>obtain ⟨k,hk⟩:=h.dom b x hx; rw [hb] at hk; cases hk
 have hβ : ∀ u x,β u = some x → upd β b (some (c,blk.sz)) u = some x:=fun u x hu=>by
  unfold upd
  split
  ·subst_vars; rw [hβb] at hu; cases hu
  ·exact hu
 refine ⟨h.defers,h.size,fun t=>(h.tmps t).mono (fun _ _ _=>rfl) (fun _=>Nat.le_refl _) hβ (.refl w),fun u k hu=>?_,fun u x hu=>?_,fun u u' c' s s' hu hu'=>?_,h.kept,h.marks,h.fresh,h.big⟩
 ·simp only [S.setB] at hu
  split at hu
  ·cases hu; rename_i hub; subst hub
   exact .inr ⟨c,by simp [upd],hB.mono (fun _ _ _=>rfl) (fun _=>Nat.le_refl _) rfl hβ (.refl w) rfl⟩
  ·rename_i hub
   rcases h.heap u k hu with ⟨h0,h1⟩ | ⟨c',h0,hB'⟩
   ·exact .inl ⟨by simp [upd,hub,h0],h1⟩
   ·exact .inr ⟨c',hβ _ _ h0,hB'.mono (fun _ _ _=>rfl) (fun _=>Nat.le_refl _) rfl hβ (.refl w) rfl⟩
 ·simp only [S.setB]
  unfold upd at hu
  split at hu
  ·rename_i hub; simp [hub]
  ·rename_i hub; simp [hub]; exact h.dom u x hu
 ·unfold upd at hu hu'
  split at hu <;> split at hu'
  ·subst_vars; rfl
  ·cases hu; exact absurd hu' (hc _ _)
  ·cases hu'; exact absurd hu (hc _ _)
  ·exact h.inj u u' c' s s' hu hu'
theorem Z05.nameNil (h : Z05 Γ σ a w G β) {b : Nat} {blk : Blk} (hb : σ.heap b = none) (hr : blk.rows = [] ∧ blk.frz = 0) : Z05 Γ (σ.setB b (some blk)) a w G β:=by
 have hβb : β b = none:=by
  cases hx : β b with
  | none=>rfl
  | some x=>obtain ⟨k,hk⟩:=h.dom b x hx; rw [hb] at hk; cases hk
 refine ⟨h.defers,h.size,h.tmps,fun u k hu=>?_,fun u x hu=>?_,h.inj,h.kept,h.marks,h.fresh,h.big⟩
 ·simp only [S.setB] at hu
  split at hu
  ·cases hu; rename_i hub; subst hub; exact .inl ⟨hβb,hr⟩
  ·exact h.heap u k hu
 ·simp only [S.setB]
  split
  ·exact ⟨_,rfl⟩
  ·exact h.dom u x hu
def D.killA (b : Nat) : D → D
 | .lptr b' i o=>if b' = b then .undef else .lptr b' i o
 | .lsl b' lo n=>if b' = b then .undef else .lsl b' lo n
 | d=>d
def D.killB (b : Nat) : D → D
 | .agg cs=> .agg (cs.map (D.killA b))
 | .tup _=> .undef
 | d=>d.killA b
def D.kill (b : Nat) : D → D
 | .tup vs=> .tup (vs.map (D.killB b))
 | d=>d.killB b
def Blk.kill (b : Nat) (k : Blk) : Blk:=if k.pure then k else { k with rows:=k.rows.map (·.map (D.killA b)) }
def S.drop (σ : S) (b : Nat) : S:={ σ with tmps:=fun t=>(σ.tmps t).kill b,heap:=fun u=>if u = b then none else (σ.heap u).map (Blk.kill b) }
theorem Z06.killA {v : Value} {d : D} (h : Z06 w G β v d) (b : Nat) (hne : ∀ cs,d ≠ .agg cs) (hnt : ∀ cs,d ≠ .tup cs) : Z06 w G (upd β b none) v (d.killA b):=by
 cases h with
 | undef v=>exact .undef v
 | lptr b' i o c sz hβ=>
  simp only [D.killA]
  split
  ·exact .undef _
  ·rename_i hb; exact .lptr b' i o c sz (by simp [upd,hb,hβ])
 | lslnil b' x=>
  simp only [D.killA]
  split
  ·exact .undef _
  ·exact .lslnil b' x
 | lsl b' lo n cap c sz off hβ hcap hoff hroom=>
  simp only [D.killA]
  split
  ·exact .undef _
  ·rename_i hb; exact .lsl b' lo n cap c sz off (by simp [upd,hb,hβ]) hcap hoff hroom
 | agg vs cs=>exact absurd rfl (hne cs)
 | tup vs ds=>exact absurd rfl (hnt ds)
 | bool x=>exact .bool x
 | int k n=>exact .int k n
 | str s=>exact .str s
 | slnil c x=>exact .slnil c x
 | sl c b' off n cap sz rows val hn hcc hcap hsz himm hcell hone hdat hrep=>exact (Z06.sl c b' off n cap sz rows val hn hcc hcap hsz himm hcell hone hdat hrep).of_dat (fun _ _ _=>rfl) (fun _=>Nat.le_refl _) rfl
 | ptr b' off cs val himm hcell hone hdat hrep=>exact (Z06.ptr b' off cs val himm hcell hone hdat hrep).of_dat (fun _ _ _=>rfl) (fun _=>Nat.le_refl _) rfl
 | nilptr=>exact .nilptr
 | fn f=>exact .fn f
 | raw v h=>exact .raw v h
theorem Z06.killE {v : Value} {d : D} (h : Z06 w G β v d) (h1 : one v = true) (b : Nat) : Z06 w G (upd β b none) v (d.killA b):=by
 by_cases hu : d = .undef
 ·subst hu; exact .undef v
 ·refine h.killA b (fun cs e=>?_) (fun cs e=>?_)
  ·subst e; cases h; simp [one] at h1
  ·subst e; cases h; simp [one] at h1
theorem Z06.killB {v : Value} {d : D} (h : Z06 w G β v d) (b : Nat) : Z06 w G (upd β b none) v (d.killB b):=by
 by_cases ha : ∃ cs,d = .agg cs
 ·obtain ⟨cs,rfl⟩:=ha
  obtain ⟨vs,rfl,hn,hone,hrep⟩:=Z58 h
  refine .agg vs _ (by simpa using hn) hone (fun j v d hv hd=>?_)
  rw [List.getElem?_map] at hd
  obtain ⟨d',hd',rfl⟩:=Z26 hd
  exact (hrep j v d' hv hd').killE (hone j v hv) b
 ·by_cases ht : ∃ cs,d = .tup cs
  ·obtain ⟨cs,rfl⟩:=ht
   exact .undef v
  ·have:=h.killA b (fun cs e=>ha ⟨cs,e⟩) (fun cs e=>ht ⟨cs,e⟩)
   cases d <;> first | exact this | exact absurd ⟨_,rfl⟩ ha | exact absurd ⟨_,rfl⟩ ht
theorem Z06.kill {v : Value} {d : D} (h : Z06 w G β v d) (b : Nat) : Z06 w G (upd β b none) v (d.kill b):=by
 cases d with
 | tup ds=>
  cases h with
  | tup vs _ hn hrep=>
   refine .tup vs _ (by simpa using hn) (fun j v d hv hd=>?_)
   rw [List.getElem?_map] at hd
   obtain ⟨d',hd',rfl⟩:=Z26 hd
   exact (hrep j v d' hv hd').killB b
 | _=>exact h.killB b
theorem Z05.drop (h : Z05 Γ σ a w G β) (b : Nat) : Z05 Γ (σ.drop b) a w G (upd β b none):=by
 refine ⟨h.defers,h.size,fun t=>(h.tmps t).kill b,fun u k hu=>?_,fun u x hu=>?_,fun u u' c s s' hu hu'=>?_,h.kept,h.marks,h.fresh,h.big⟩
 ·simp only [S.drop] at hu
  split at hu
  ·cases hu
  ·rename_i hub
   obtain ⟨k',hk',rfl⟩:=Z26 hu
   have hsz : (Blk.kill b k').sz = k'.sz:=by unfold Blk.kill; split <;> rfl
   rcases h.heap u k' hk' with ⟨h0,h1⟩ | ⟨c,h0,hB⟩
   ·refine .inl ⟨by simp [upd,hub,h0],?_⟩
    unfold Blk.kill; split
    ·exact h1
    ·simp [h1.1,h1.2]
   ·refine .inr ⟨c,by simp [upd,hub,h0,hsz],?_⟩
    obtain ⟨own,pin,ty,frz,top,dat,hsz',vs,e,fr,h1,h2,h3,h4⟩:=hB
    unfold Blk.kill
    split
    ·rename_i hp
     exact ⟨own,pin,ty,frz,top,dat,hsz',vs,e,fr,h1,h2,h3,fun i j r d hr hd=>by
      obtain ⟨v,a1,a2,a3⟩:=h4 i j r d hr hd
      exact ⟨v,a1,a2,a3.of_dat (fun _ _ _=>rfl) (fun _=>Nat.le_refl _) (dat hp i j r d hr hd)⟩⟩
    ·rename_i hp
     refine ⟨own,pin,ty,frz,by simpa using top,fun hp'=>absurd hp' hp,fun i r hr=>?_,vs,e,fr,h1,h2,by simpa using h3,fun i j r d hr hd=>?_⟩
     ·simp only [List.getElem?_map] at hr
      obtain ⟨r',hr',rfl⟩:=Z26 hr
      simpa using hsz' i r' hr'
     ·simp only [List.getElem?_map] at hr
      obtain ⟨r',hr',rfl⟩:=Z26 hr
      rw [List.getElem?_map] at hd
      obtain ⟨d',hd',rfl⟩:=Z26 hd
      obtain ⟨v,a1,a2,a3⟩:=h4 i j r' d' hr' hd'
      exact ⟨v,a1,a2,a3.killE a2 b⟩
 ·simp only [S.drop]
  unfold upd at hu
  split at hu
  ·cases hu
  ·rename_i hub
   obtain ⟨k,hk⟩:=h.dom u x hu
   exact ⟨_,by rw [if_neg hub,hk]; rfl⟩
 ·unfold upd at hu hu'
  split at hu
  ·cases hu
  ·split at hu'
   ·cases hu'
   ·exact h.inj u u' c s s' hu hu'
structure Z6i (Γ : Ctx) (G : Nat → Nat) (c : Nat) (w w' : World) : Prop where
 os : w'.os = w.os
 tape : w'.tape = w.tape
 output : w'.output = w.output
 size : w'.heap.size = w.heap.size
 other : ∀ k,k ≠ c → w'.heap[k]? = w.heap[k]?
 own : Γ.B ≤ c ∨ Γ.X c
 at_ : ∃ vs e fr vs',w.heap[c]? = some (.cells vs e fr) ∧ w'.heap[c]? = some (.cells vs' e fr) ∧ vs'.size = vs.size ∧ ∀ o,o < G c → vs'[o]? = vs[o]?
theorem Z6i.cells {c : Nat} (h : Z6i Γ G c w w') : ∀ b o,o < G b → w'.cell? ⟨b,o,none⟩ = w.cell? ⟨b,o,none⟩:=fun b o ho=>by
 by_cases hb : b = c
 ·subst hb
  obtain ⟨vs,e,fr,vs',h1,h2,h3,h4⟩:=h.at_
  rw [Z4p,Z4p,h1,h2]
  exact h4 o ho
 ·exact Z79 (h.other b hb) o
theorem Z6i.same {c : Nat} (h : Z6i Γ G c w w') : Z56 w w':=fun k vs e fr hk=>by
 by_cases hb : k = c
 ·subst hb
  obtain ⟨vs1,e1,fr1,vs',h1,h2,h3,h4⟩:=h.at_
  rw [h1] at hk; cases hk
  exact ⟨vs',_,h2,h3⟩
 ·exact ⟨vs,fr,by rw [h.other k hb]; exact hk,rfl⟩
theorem Z6i.kept {c : Nat} (h : Z6i Γ G c w w') : Z5a Γ.B Γ.X w w':=⟨h.os,h.tape,h.output,by rw [h.size]; exact Nat.le_refl _,fun k hk hx=>h.other k (fun e=>by subst e; exact h.own.elim (fun h1=>by omega) hx),h.same⟩
theorem Z05.scratch (h : Z05 Γ σ a w G β) {c : Nat} (hc : ∀ b' s,β b' ≠ some (c,s)) (hw : Z6i Γ G c w w') : Z05 Γ σ a w' G β:=by
 refine ⟨h.defers,h.size,fun t=>(h.tmps t).mono hw.cells (fun _=>Nat.le_refl _) (fun _ _ h=>h) hw.same,fun b blk hblk=>?_,h.dom,h.inj,h.kept.trans hw.kept,h.marks,fun k hk=>h.fresh k (by rw [← hw.size]; exact hk),by rw [hw.size]; exact h.big⟩
 rcases h.heap b blk hblk with h0 | ⟨k,h0,hB⟩
 ·exact .inl h0
 ·exact .inr ⟨k,h0,hB.mono hw.cells (fun _=>Nat.le_refl _) rfl (fun _ _ h=>h) hw.same (hw.other k (fun e=>hc b blk.sz (e ▸ h0)))⟩
theorem Z05.write (h : Z05 Γ σ a w G β) {b c : Nat} {blk blk' : Blk} (hb : σ.heap b = some blk) (hβ : β b = some (c,blk.sz)) (hw : Z6i Γ G c w w') (hsz : blk'.sz = blk.sz) (hB' : Z37 w' G β Γ c blk') :
  Z05 Γ (σ.setB b (some blk')) a w' G β:=by
 refine ⟨h.defers,h.size,fun t=>(h.tmps t).mono hw.cells (fun _=>Nat.le_refl _) (fun _ _ h=>h) hw.same,fun u k hu=>?_,fun u x hu=>?_,h.inj,h.kept.trans hw.kept,h.marks,fun k hk=>h.fresh k (by rw [← hw.size]; exact hk),by rw [hw.size]; exact h.big⟩
 ·simp only [S.setB] at hu
  split at hu
  ·cases hu; rename_i hub; subst hub
   exact .inr ⟨c,by rw [hsz]; exact hβ,hB'⟩
  ·rename_i hub
   rcases h.heap u k hu with h0 | ⟨k',h0,hB⟩
   ·exact .inl h0
   ·exact .inr ⟨k',h0,hB.mono hw.cells (fun _=>Nat.le_refl _) rfl (fun _ _ h=>h) hw.same (hw.other k' (fun e=>hub (h.inj u b c k.sz blk.sz (e ▸ h0) hβ)))⟩
 ·simp only [S.setB]
  split
  ·exact ⟨_,rfl⟩
  ·exact h.dom u x hu
def Blk.freeze (k : Blk) : Blk:={ k with frz:=k.rows.length }
def S.freeze (σ : S) (b : Nat) : S:={ σ with heap:=fun u=>if u = b then (σ.heap u).map Blk.freeze else σ.heap u }
theorem Z05.freeze (h : Z05 Γ σ a w G β) (b : Nat) : ∃ G',Z05 Γ (σ.freeze b) a w G' β ∧ (∀ k,G k ≤ G' k) ∧
  ∀ blk c,σ.heap b = some blk → β b = some (c,blk.sz) → blk.rows.length * blk.sz ≤ G' c:=by
 cases hb : σ.heap b with
 | none=>
  refine ⟨G,⟨h.defers,h.size,h.tmps,fun u k hu=>?_,fun u x hu=>?_,h.inj,h.kept,h.marks,h.fresh,h.big⟩,fun _=>Nat.le_refl _,fun blk c hblk=>by cases hblk⟩
  ·simp only [S.freeze] at hu
   split at hu
   ·subst_vars; rw [hb] at hu; cases hu
   ·exact h.heap u k hu
  ·obtain ⟨k,hk⟩:=h.dom u x hu
   simp only [S.freeze]
   split
   ·subst_vars; rw [hb] at hk; cases hk
   ·exact ⟨k,hk⟩
 | some blk=>
  rcases h.heap b blk hb with ⟨h0,h1⟩ | ⟨c,h0,hB⟩
  ·refine ⟨G,⟨h.defers,h.size,h.tmps,fun u k hu=>?_,fun u x hu=>?_,h.inj,h.kept,h.marks,h.fresh,h.big⟩,fun _=>Nat.le_refl _,fun blk' c hblk hc=>by rw [h0] at hc; cases hc⟩
   ·simp only [S.freeze] at hu
    split at hu
    ·rename_i hub; subst hub; rw [hb] at hu; cases hu; exact .inl ⟨h0,h1.1,by simp [Blk.freeze,h1.1]⟩
    ·exact h.heap u k hu
   ·obtain ⟨k,hk⟩:=h.dom u x hu
    simp only [S.freeze]
    split
    ·exact ⟨_,by rw [hk]; rfl⟩
    ·exact ⟨k,hk⟩
  ·have hGG : ∀ k,G k ≤ (if k = c then max (G c) (blk.rows.length * blk.sz) else G k):=fun k=>by
    split
    ·subst_vars; exact Nat.le_max_left _ _
    ·exact Nat.le_refl _
   refine ⟨fun k=>if k = c then max (G c) (blk.rows.length * blk.sz) else G k,⟨h.defers,h.size,fun t=>(h.tmps t).mono (fun _ _ _=>rfl) hGG (fun _ _ h=>h) (.refl w),fun u k hu=>?_,fun u x hu=>?_,h.inj,h.kept,fun k hk hx=>?_,fun k hk=>?_,h.big⟩,hGG,fun blk' c' hblk hc=>?_⟩
   ·simp only [S.freeze] at hu
    split at hu
    ·rename_i hub; subst hub; rw [hb] at hu; cases hu
     refine .inr ⟨c,h0,?_⟩
     obtain ⟨own,pin,ty,frz,top,dat,hsz',vs,e,fr,h1,h2,h3,h4⟩:=hB
     refine ⟨own,pin,ty,fun o ho=>?_,Nat.le_refl _,dat,hsz',vs,e,fr,h1,h2,h3,fun i j r d hr hd=>?_⟩
     ·simp only [if_true] at ho
      show o < blk.rows.length * blk.sz
      rcases Nat.lt_or_ge o (blk.rows.length * blk.sz) with h' | h'
      ·exact h'
      ·have:=frz o (by omega)
       have:=Nat.mul_le_mul_right blk.sz top
       omega
     ·obtain ⟨v,a1,a2,a3⟩:=h4 i j r d hr hd
      exact ⟨v,a1,a2,a3.mono (fun _ _ _=>rfl) hGG (fun _ _ h=>h) (.refl w)⟩
    ·rename_i hub
     rcases h.heap u k hu with h0' | ⟨k',h0',hB'⟩
     ·exact .inl h0'
     ·refine .inr ⟨k',h0',hB'.mono (fun _ _ _=>rfl) hGG ?_ (fun _ _ h=>h) (.refl w) rfl⟩
      have : k' ≠ c:=fun e=>hub (h.inj u b c k.sz blk.sz (e ▸ h0') h0)
      simp [this]
   ·obtain ⟨k,hk⟩:=h.dom u x hu
    simp only [S.freeze]
    split
    ·exact ⟨_,by rw [hk]; rfl⟩
    ·exact ⟨k,hk⟩
   ·have : k ≠ c:=fun e=>by subst e; exact hB.own.elim (fun h1=>by omega) hx
    simp [this,h.marks k hk hx]
   ·have : k ≠ c:=fun e=>by subst e; have:=hB.lt; omega
    simp [this,h.fresh k hk]
   ·cases hblk; rw [h0] at hc; cases hc
    simp; omega
end Go.Den
