/-
  What 'stepD' says of an operation is what the operation does.
-/
import Derived.Test.YtoijcliccgjolaaGreatDenStep
namespace Go.Den
open Go.RowKit
variable {P : Program} {Γ : Ctx} {σ : S} {a : Act} {w w' : World} {G G' : Nat → Nat} {β β' : Nat → Option (Nat × Nat)}
def Reach (P : Program) (Γ : Ctx) (o : Oper) (a : Act) (w : World) (σ' : S) : Prop:=
 ∀ (next : Act → World → Prop) (Q : Exit → Act → World → Prop),(∀ a' w' G' β',Z05 Γ σ' a' w' G' β' → next a' w') → o.wp P a w next Q
theorem Reach.of_value {o : Oper} {σ' : S} {v : Value} (h : (execOp a.eval o).run P w = .ok (.value v) w') (hC : Z05 Γ σ' (a.put o.dst v) w' G' β') : Reach P Γ o a w σ':=fun next Q hn=>by
 unfold Oper.wp
 rw [h,Oper.upon_value]
 exact hn _ _ _ _ hC
theorem Reach.of_skip {o : Oper} {σ' : S} (h : (execOp a.eval o).run P w = .ok .skip w') (hC : Z05 Γ σ' (a.put o.dst Go.undef) w' G' β') : Reach P Γ o a w σ':=fun next Q hn=>by
 unfold Oper.wp
 rw [h,Oper.upon_skip]
 exact hn _ _ _ _ hC
theorem Z59 {o : Oper} (h : Z23 σ o = true) : ∀ t,o.dst = some t → t < σ.n:=fun t ht=>by
 unfold Z23 at h; rw [ht] at h; exact Nat.le_of_ble_eq_true h
theorem Za2 {s : Sem Value} {v : Value} (h : s.run P w = .ok v w') : (do pure (Next.value (← s)) : Sem Next).run P w = .ok (.value v) w':=by simp [h]
theorem Z6r (w : World) (x : Obj) : Below w.heap.size w (w.alloc x):=(Below.refl _ w).alloc (Nat.le_refl _) x
theorem Zk4 (w : World) : Below w.heap.size w w.drew:=(Below.refl _ w).drew
theorem Z5r (w : World) (x : Obj) : (w.alloc x).heap[w.heap.size]? = some x:=by
 show (w.heap.push x)[w.heap.size]? = _
 simp
theorem Z05.blk' (h : Z05 Γ σ a w G β) {b c : Nat} {blk : Blk} (hb : σ.heap b = some blk) {sz : Nat} (hβ : β b = some (c,sz)) : Z37 w G β Γ c blk:=by
 rcases h.heap b blk hb with ⟨h0,-⟩ | ⟨c',h0,hB⟩
 ·rw [h0] at hβ; cases hβ
 ·rw [h0] at hβ; cases hβ; exact hB
theorem Z05.new (h : Z05 Γ σ a w G β) {t : Nat} {blk : Blk} (hb : σ.heap t = none) {vs : Array Value} {e : TypeId} {fr : Nat × Nat} (hfr : ∀ o,o < vs.size → ¬ (fr.1 ≤ o ∧ o < fr.2))
  (hz : blk.frz = 0 ∧ blk.pin = none ∧ ∀ t,blk.ty = some t → e = t ∧ fr.1 ≤ fr.2) (hsz : ∀ (i : Nat) (r : List D),blk.rows[i]? = some r → r.length = blk.sz)
  (hd : blk.pure = true → ∀ (i j : Nat) (r : List D) (d : D),blk.rows[i]? = some r → r[j]? = some d → d.dat = true)
  (hl : blk.rows.length * blk.sz ≤ vs.size)
  (hr : ∀ (i j : Nat) (r : List D) (d : D),blk.rows[i]? = some r → r[j]? = some d → ∃ v,vs[i * blk.sz + j]? = some v ∧ one v = true ∧ Z06 w G β v d) :
  Z05 Γ (σ.setB t (some blk)) a (w.alloc (.cells vs e fr)) G (upd β t (some (w.heap.size,blk.sz))):=by
 have hC:=h.quiet (Z6r w (.cells vs e fr))
 refine hC.name hb (fun b' s hs=>?_) ?_
 ·obtain ⟨k,hk⟩:=h.dom b' _ hs
  rcases h.heap b' k hk with ⟨h0,-⟩ | ⟨c,h0,hB⟩
  ·rw [h0] at hs; cases hs
  ·rw [h0] at hs; cases hs; have:=hB.lt; omega
 ·have hG0 : G w.heap.size = 0:=h.fresh _ (Nat.le_refl _)
  refine ⟨.inl h.big,(fun k hk=>by rw [hz.2.1] at hk; cases hk),(fun k hk=>by obtain ⟨rfl,hfr'⟩:=hz.2.2 k hk; exact ⟨_,_,Z5r w _,hfr'⟩),(fun o ho=>by rw [hG0] at ho; omega),by omega,hd,hsz,vs,e,fr,Z5r w _,hfr,hl,fun i j r d h1 h2=>?_⟩
  obtain ⟨v,a1,a2,a3⟩:=hr i j r d h1 h2
  exact ⟨v,a1,a2,a3.mono (fun b o ho=>Z79 ((Z6r w _).block b (h.marksLt ho)) o) (fun _=>Nat.le_refl _) (fun _ _ h=>h) (Zi1 (Z6r w _))⟩
theorem Z93 {o : Oper} {blk : Blk} {v : Nat → D} {p q : Prop} {σ' : S} (h : Z4y σ o blk v p = some (σ',q)) : ∃ t,o.dst = some t ∧ σ.heap t = none ∧ t < σ.n ∧ σ' = (σ.setB t (some blk)).put (some t) (v t) ∧ q = p:=by
 unfold Z4y at h
 split at h
 ·rename_i t ht
  split at h
  ·cases h
  ·split at h
   ·cases h
    rename_i hlt
    exact ⟨t,ht,by assumption,Nat.le_of_ble_eq_true hlt,rfl,rfl⟩
   ·cases h
 ·cases h
theorem Reach.new (h : Z05 Γ σ a w G β) {o : Oper} {blk : Blk} {dv : Nat → D} {p q : Prop} {σ' : S} (hn : Z4y σ o blk dv p = some (σ',q)) {vs : Array Value} {e : TypeId} {fr : Nat × Nat} {v : Value}
  (hrun : (execOp a.eval o).run P w = .ok (.value v) (w.alloc (.cells vs e fr)))
  (hv : ∀ t,σ.heap t = none → Z06 (w.alloc (.cells vs e fr)) G (upd β t (some (w.heap.size,blk.sz))) v (dv t))
  (hfr : ∀ o,o < vs.size → ¬ (fr.1 ≤ o ∧ o < fr.2))
  (hz : blk.frz = 0 ∧ blk.pin = none ∧ ∀ t,blk.ty = some t → e = t ∧ fr.1 ≤ fr.2) (hsz : ∀ (i : Nat) (r : List D),blk.rows[i]? = some r → r.length = blk.sz)
  (hd : blk.pure = true → ∀ (i j : Nat) (r : List D) (d : D),blk.rows[i]? = some r → r[j]? = some d → d.dat = true)
  (hl : blk.rows.length * blk.sz ≤ vs.size)
  (hr : ∀ (i j : Nat) (r : List D) (d : D),blk.rows[i]? = some r → r[j]? = some d → ∃ v,vs[i * blk.sz + j]? = some v ∧ one v = true ∧ Z06 w G β v d) : Reach P Γ o a w σ':=by
 obtain ⟨t,ht,hb,hlt,rfl,-⟩:=Z93 hn
 have hC:=h.new (e:=e) hb hfr hz hsz hd hl hr
 refine Reach.of_value hrun (G':=G) (β':=upd β t (some (w.heap.size,blk.sz))) ?_
 have:=hC.put (dst:=some t) (fun u hu=>by cases hu; exact hlt) (hv t hb)
 rw [ht]
 exact this
theorem Zph {v : Value} {d : D} (h : Z06 w G β v d) {cs : List D} (hc : cellsOf d = some cs) : cs.length = v.cells.size ∧ (∀ (j : Nat) u,v.cells[j]? = some u → one u = true) ∧
  ∀ (j : Nat) u d,v.cells[j]? = some u → cs[j]? = some d → Z06 w G β u d:=by
 by_cases ha : ∃ cs,d = .agg cs
 ·obtain ⟨cs',rfl⟩:=ha
  cases hc
  obtain ⟨vs,rfl,hn,hone,hrep⟩:=Z58 h
  exact ⟨hn,hone,hrep⟩
 ·have hd : cs = [d] ∧ d ≠ .undef ∧ (∀ cs,d ≠ .tup cs):=by
   cases d <;> first
    | exact absurd ⟨_,rfl⟩ ha
    | (cases hc; exact ⟨rfl,by simp,by simp⟩)
    | cases hc
  obtain ⟨rfl,h1,h2⟩:=hd
  have h3:=Zx7 h h1 (fun cs e=>ha ⟨cs,e⟩) h2
  have hv : v.cells = #[v] :=by cases v <;> first | rfl | simp [one] at h3
  rw [hv]
  refine ⟨rfl,fun j u hu=>?_,fun j u d' hu hd=>?_⟩
  ·cases j with
   | zero=>simp at hu; subst hu; exact h3
   | succ j=>simp at hu
  ·cases j with
   | zero=>simp at hu hd; subst hu hd; exact h
   | succ j=>simp at hu
theorem Zfp {t : TypeId} {cs : List D} (h : Z60 P t = some cs) : ∃ i v,P.info? t = some i ∧ i.zero = some v ∧ cs.length = v.cells.size ∧ (∀ (j : Nat) u,v.cells[j]? = some u → one u = true) ∧
  ∀ (w : World) (G : Nat → Nat) (β : Nat → Option (Nat × Nat)) (j : Nat) u d,v.cells[j]? = some u → cs[j]? = some d → Z06 w G β u d:=by
 unfold Z60 at h
 split at h
 ·rename_i i hi
  split at h
  ·rename_i v hv
   split at h
   ·rename_i hall
    cases h
    refine ⟨i,v,hi,hv,by simp,fun j u hu=>List.all_eq_true.1 hall u (List.mem_of_getElem? (i:=j) (by simpa using hu)),fun w G β j u d hu hd=>?_⟩
    simp only [List.getElem?_map,Array.getElem?_toList,hu,Option.map_some,Option.some.injEq] at hd
    subst hd
    exact Zpk u
   ·cases h
  ·cases h
 ·cases h
theorem Z05.mark (h : Z05 Γ σ a w G β) {c0 : Nat} (hnb : ∀ b s,β b ≠ some (c0,s)) (hge : Γ.B ≤ c0) (hlt : c0 < w.heap.size) {k : Nat} (hk : G c0 ≤ k) : Z05 Γ σ a w (fun c=>if c = c0 then k else G c) β:=by
 have hG : ∀ c,G c ≤ (if c = c0 then k else G c):=fun c=>by
  split
  ·rename_i h; subst h; exact hk
  ·exact Nat.le_refl _
 refine ⟨h.defers,h.size,fun t=>(h.tmps t).mono (fun _ _ _=>rfl) hG (fun _ _ h=>h) (.refl w),fun b blk hb=>?_,h.dom,h.inj,h.kept,fun c hc hx=>?_,fun c hc=>?_,h.big⟩
 ·rcases h.heap b blk hb with h0 | ⟨c,h0,hB⟩
  ·exact .inl h0
  ·exact .inr ⟨c,h0,hB.mono (fun _ _ _=>rfl) hG (if_neg fun e=>hnb b _ (e ▸ h0)) (fun _ _ h=>h) (.refl w) rfl⟩
 ·rw [if_neg (by omega)]; exact h.marks c hc hx
 ·rw [if_neg (by omega)]; exact h.fresh c hc
theorem Reach.boxRo (h : Z05 Γ σ a w G β) {o : Oper} {cs : List D} (hdst : ∀ t,o.dst = some t → t < σ.n) (hall : cs.all D.dat = true)
  {vs : Array Value} {e : TypeId} (hrun : (execOp a.eval o).run P w = .ok (.value (.pointer (some ⟨w.heap.size,0,none⟩))) (w.alloc (.cells vs e)))
  (h1 : cs.length = vs.size) (h2 : ∀ (j : Nat) u,vs[j]? = some u → one u = true) (h3 : ∀ (j : Nat) u d,vs[j]? = some u → cs[j]? = some d → Z06 w G β u d) : Reach P Γ o a w (σ.put o.dst (.ptr cs)):=by
 have hq:=h.quiet (Z6r w (.cells vs e))
 have hlt : w.heap.size < (w.alloc (.cells vs e)).heap.size:=Zjw (Z5r w _)
 have hnb : ∀ b s,β b ≠ some (w.heap.size,s):=fun b s hb=>by
  obtain ⟨k,hk⟩:=h.dom b _ hb
  have:=(h.blk' hk hb).lt
  omega
 have hG0 : G w.heap.size = 0:=h.fresh _ (Nat.le_refl _)
 have hm:=hq.mark hnb h.big hlt (k:=vs.size) (by omega)
 refine Reach.of_value hrun (hm.put hdst ?_)
 refine .ptr w.heap.size 0 cs (fun j=>vs.getD j Go.undef) (fun j hj=>?_) (fun j hj=>?_) (fun j hj=>?_) (fun j d hd=>List.all_eq_true.1 hall d (List.mem_of_getElem? hd)) (fun j d hd=>?_)
 ·simp only [if_true]; omega
 ·rw [Z4p,Z5r]
  have hj' : j < vs.size:=by omega
  simp [Array.getD_eq_getD_getElem?,hj']
 ·have hj' : j < vs.size:=by omega
  have:=h2 j vs[j] (Array.getElem?_eq_getElem hj')
  simpa [Array.getD_eq_getD_getElem?,hj'] using this
 ·have hj' : j < vs.size:=by
   rcases Nat.lt_or_ge j cs.length with h' | h'
   ·omega
   ·rw [List.getElem?_eq_none h'] at hd; cases hd
  have:=h3 j vs[j] d (Array.getElem?_eq_getElem hj') hd
  have e1 : vs.getD j Go.undef = vs[j] :=by simp [Array.getD_eq_getD_getElem?,hj']
  rw [e1]
  exact this.of_dat (fun b o ho=>Z79 ((Z6r w _).block b (h.marksLt ho)) o) (fun c=>by
   show G c ≤ (if c = w.heap.size then vs.size else G c)
   split
   ·rename_i hc; rw [hc,hG0]; exact Nat.zero_le _
   ·exact Nat.le_refl _) (List.all_eq_true.1 hall d (List.mem_of_getElem? hd))
theorem Reach.box (h : Z05 Γ σ a w G β) {o : Oper} {cs : List D} {σ' : S} {q : Prop} {ty : Option TypeId} (hn : Z4y σ o { sz:=cs.length,rows:=[cs],frz:=0,pure:=false,ty } (fun t=> .lptr t 0 0) True = some (σ',q))
  {vs : Array Value} {e : TypeId} (hrun : (execOp a.eval o).run P w = .ok (.value (.pointer (some ⟨w.heap.size,0,none⟩))) (w.alloc (.cells vs e))) (hty : ∀ t,ty = some t → e = t)
  (h1 : cs.length = vs.size) (h2 : ∀ (j : Nat) u,vs[j]? = some u → one u = true) (h3 : ∀ (j : Nat) u d,vs[j]? = some u → cs[j]? = some d → Z06 w G β u d) : Reach P Γ o a w σ':=by
 refine Reach.new h hn hrun (fun t ht=>?_) (fun o ho=>by simp) ⟨rfl,rfl,fun t ht=>⟨hty t ht,Nat.le_refl _⟩⟩ (fun i r hr=>?_) (fun hp=>by cases hp) (by simp [h1]) (fun i j r d hr hd=>?_)
 ·have:=Z06.lptr (w:=w.alloc (.cells vs e)) (G:=G) (β:=upd β t (some (w.heap.size,cs.length))) t 0 0 w.heap.size cs.length (by simp [upd])
  simpa using this
 ·cases i with
  | zero=>simp at hr; subst hr; rfl
  | succ i=>simp at hr
 ·cases i with
  | zero=>
   simp at hr; subst hr
   have hj : j < vs.size:=by
    rcases Nat.lt_or_ge j cs.length with h' | h'
    ·omega
    ·rw [List.getElem?_eq_none h'] at hd; cases hd
   exact ⟨vs[j],by simp [Array.getElem?_eq_getElem hj],h2 j _ (Array.getElem?_eq_getElem hj),h3 j _ d (Array.getElem?_eq_getElem hj) hd⟩
  | succ i=>simp at hr
theorem Znj (off : Nat) : ∀ (l : List Value) (i : Nat) (cs : Array Value),((l.zipIdx i).foldl (fun cs (c,j)=>cs.setIfInBounds (off + j) c) cs).size = cs.size ∧
  ∀ k,off + i + l.length ≤ cs.size → ((l.zipIdx i).foldl (fun cs (c,j)=>cs.setIfInBounds (off + j) c) cs)[k]? = if off + i ≤ k ∧ k < off + i + l.length then l[k - (off + i)]? else cs[k]?
 | [],i,cs=>⟨rfl,fun k _=>by simp; omega⟩
 | c :: l,i,cs=>by
  have ih:=Znj off l (i + 1) (cs.setIfInBounds (off + i) c)
  have hsz : (cs.setIfInBounds (off + i) c).size = cs.size:=by simp
  simp only [List.zipIdx_cons,List.foldl_cons]
  refine ⟨by rw [ih.1]; simp,fun k hk=>?_⟩
  simp only [List.length_cons] at hk ⊢
  rw [ih.2 k (by omega)]
  by_cases h1 : off + i = k
  ·subst h1
   rw [if_neg (by omega),if_pos (by omega)]
   simp [show off + i < cs.size by omega]
  ·by_cases h2 : off + i ≤ k ∧ k < off + i + (l.length + 1)
   ·rw [if_pos (by omega),if_pos h2]
    rw [show k - (off + i) = (k - (off + (i + 1))) + 1 by omega,List.getElem?_cons_succ]
   ·rw [if_neg (by omega),if_neg h2]
    simp [h1]
theorem Zo0 (cs dc : List D) (off k : Nat) (h : off + dc.length ≤ cs.length) : (Z4r cs off dc)[k]? = if off ≤ k ∧ k < off + dc.length then dc[k - off]? else cs[k]? :=by
 unfold Z4r
 rw [List.append_assoc,List.getElem?_append,List.length_take,List.getElem?_append,List.getElem?_drop,List.getElem?_take]
 rw [show min off cs.length = off by omega]
 by_cases h1 : k < off
 ·rw [if_pos h1,if_pos h1,if_neg (by omega)]
 ·rw [if_neg h1]
  by_cases h2 : k - off < dc.length
  ·rw [if_pos h2,if_pos (by omega)]
  ·rw [if_neg h2,if_neg (by omega)]
   congr 1; omega
theorem Zui (cs dc : List D) (off : Nat) (h : off + dc.length ≤ cs.length) : (Z4r cs off dc).length = cs.length:=by
 unfold Z4r; simp; omega
def Zd3 (w : World) (G : Nat → Nat) (β : Nat → Option (Nat × Nat)) (vs : Array Value) (cs : List D) : Prop:=
 cs.length = vs.size ∧ (∀ (j : Nat) u,vs[j]? = some u → one u = true) ∧ ∀ (j : Nat) u d,vs[j]? = some u → cs[j]? = some d → Z06 w G β u d
theorem Zo9 {place : Nat → Option (Nat × Nat)} : ∀ (ps : List (Nat × D)) (vps : List (Nat × Value)) (cs : List D) (vs : Array Value) (cs' : List D),Zd3 w G β vs cs →
  ps.map (·.1) = vps.map (·.1) → (∀ (j : Nat) p u,ps[j]? = some p → vps[j]? = some u → Z06 w G β u.2 p.2) → Z82 place cs ps = some cs' → ∃ vs',Instr.fill place vs vps = some vs' ∧ Zd3 w G β vs' cs'
 | [],vps,cs,vs,cs',hC,hl,hr,h=>by
  cases h
  cases vps with
  | nil=>exact ⟨vs,rfl,hC⟩
  | cons _ _=>simp at hl
 | (i, d) :: ps,vps,cs,vs,cs',hC,hl,hr,h=>by
  cases vps with
  | nil=>simp at hl
  | cons x vps=>
   obtain ⟨i',v⟩:=x
   simp only [List.map_cons,List.cons.injEq] at hl
   obtain ⟨rfl,hl⟩:=hl
   unfold Z82 at h
   split at h
   ·rename_i off size dc hp hdc
    split at h
    ·rename_i hb
     simp only [Bool.and_eq_true,beq_iff_eq,Nat.ble_eq] at hb
     obtain ⟨hb1,hb2⟩:=hb
     have hv : Z06 w G β v d:=hr 0 (i,d) (i,v) rfl rfl
     obtain ⟨c1,c2,c3⟩:=Zph hv hdc
     have hz:=Znj off v.cells.toList 0 vs
     simp only [Nat.add_zero,Array.length_toList] at hz
     have hC' : Zd3 w G β ((v.cells.toList.zipIdx 0).foldl (fun cs (c,j)=>cs.setIfInBounds (off + j) c) vs) (Z4r cs off dc):=by
      have hle : off + v.cells.size ≤ vs.size:=by rw [← c1,← hC.1]; exact hb2
      refine ⟨by rw [Zui _ _ _ hb2,hz.1,hC.1],fun j u hu=>?_,fun j u d hu hd=>?_⟩
      ·rw [hz.2 j hle] at hu
       split at hu
       ·exact c2 _ u (by simpa using hu)
       ·exact hC.2.1 j u hu
      ·rw [hz.2 j hle] at hu
       rw [Zo0 _ _ _ _ hb2] at hd
       split at hu
       ·rename_i hk
        rw [if_pos (by omega)] at hd
        exact c3 _ u d (by simpa using hu) hd
       ·rename_i hk
        rw [if_neg (by omega)] at hd
        exact hC.2.2 j u d hu hd
     obtain ⟨vs',e1,e2⟩:=Zo9 ps vps _ _ cs' hC' hl (fun j p u hp hu=>hr (j + 1) p u (by simpa using hp) (by simpa using hu)) h
     refine ⟨vs',?_,e2⟩
     unfold Instr.fill
     have hlen : v.cells.size = size:=by omega
     have hle : ¬ (off + v.cells.size > vs.size):=by rw [← c1,← hC.1]; omega
     simp only [hp,hlen,ne_eq,not_true_eq_false,decide_false,Bool.false_or,decide_eq_true_eq]
     rw [if_neg (by omega)]
     rw [← Array.foldl_toList,Array.toList_zipIdx]
     exact e1
    ·cases h
   ·cases h
theorem Y2v (a : Act) (parts : Array (Nat × Operand)) : (parts.map fun (i,x)=>(i,a.eval x)).toList = parts.toList.map fun x=>(x.1,a.eval x.2):=by
 simp
theorem Y3g (hC : Z05 Γ σ a w G β) {t : TypeId} {parts : Array (Nat × Operand)} {z : List D} {pl : Nat → Option (Nat × Nat)} {cs : List D} (hz : Z60 P t = some z) (hp : Zfv P t = some pl)
  (hf : Z82 pl z (parts.toList.map fun x=>(x.1,σ.ev x.2)) = some cs) : ∃ vs,(Instr.build t (parts.map fun (i,x)=>(i,a.eval x))).run P w = .ok (.agg vs) w ∧ Zd3 w G β vs cs:=by
 obtain ⟨i,v,hi,hv,e1,e2,e3⟩:=Zfp hz
 obtain ⟨vs',f1,f2⟩:=Zo9 (w:=w) (G:=G) (β:=β) (place:=pl) _ (parts.toList.map fun x=>(x.1,a.eval x.2)) z v.cells cs ⟨e1,e2,fun j u d=>e3 w G β j u d⟩ (by simp) (fun j p u hp hu=>by
  simp only [List.getElem?_map] at hp hu
  obtain ⟨x,hx,rfl⟩:=Z26 hp
  rw [hx] at hu; cases hu
  exact Z3d hC x.2) hf
 refine ⟨vs',run_build w t _ vs' ?_,f2⟩
 unfold Program.built
 rw [Y2v]
 unfold Zfv at hp
 split at hp
 ·rename_i fs hu
  split at hp
  ·rename_i places hpl
   cases hp
   simp only [hi,hu,hv,hpl]
   simpa using f1
  ·cases hp
 ·rename_i n e hu
  split at hp
  ·rename_i ie hie
   cases hp
   simp only [hi,hu,hv,hie]
   exact f1
  ·cases hp
 ·cases hp
end Go.Den
