/-
  Stores, makes, appends.
-/
import Derived.Test.YtoijcliccgjolaaGreatDenData
namespace Go.Den
open Go.RowKit
variable {P : Program} {Γ : Ctx} {σ : S} {a : Act} {w w' : World} {G G' : Nat → Nat} {β β' : Nat → Option (Nat × Nat)}
theorem Zzg {v : Value} (h : one v = true) : v.oneCell' = true:=by cases v <;> first | rfl | cases h
theorem Zou (g off : Nat) (e : TypeId) (fr : Nat × Nat) : ∀ (vs : List Value) (i : Nat) (cur : Array Value) (w : World),w.heap[g]? = some (.cells cur e fr) →
  (∀ o,o < cur.size → ¬ (fr.1 ≤ o ∧ o < fr.2)) → off + i + vs.length ≤ cur.size → (∀ v ∈ vs,one v = true) →
  ∃ cur',(storeCells ⟨g,off,none⟩ vs i).run P w = .ok () (w.setRow g cur') ∧ cur'.size = cur.size ∧ ∀ k,cur'[k]? = if off + i ≤ k ∧ k < off + i + vs.length then vs[k - (off + i)]? else cur[k]?
 | [], i,cur,w,hg,_,_,_=>by
  refine ⟨cur,?_,rfl,fun k=>by simp; omega⟩
  have hlt : g < w.heap.size:=(Array.getElem?_eq_some_iff.1 hg).1
  have hv : w.heap[g] = .cells cur e fr:=(Array.getElem?_eq_some_iff.1 hg).2
  show Result.ok () w = _
  congr 1
  unfold World.setRow
  cases w with
  | mk heap tape drawn os output=>
   congr 1
   apply Array.ext
   ·simp
   ·intro k h1 h2
    simp only [Array.getElem_modify]
    split
    ·rename_i hk; subst hk; simp at hv; simp [hv]
    ·rfl
 | v :: rest,i,cur,w,hg,hfr,hl,h1=>by
  simp only [List.length_cons] at hl
  have hi : off + i < cur.size:=by omega
  have hcell : w.cell? ⟨g,off + i,none⟩ = some cur[off + i] :=by simp [World.cell?,hg,hi]
  have hfro : w.frozen? ⟨g,off + i,none⟩ = false:=by
   simp only [World.frozen?,hg]
   have:=hfr (off + i) hi
   simp only [Bool.and_eq_false_iff,decide_eq_false_iff_not]
   by_cases h : fr.1 ≤ off + i
   ·exact .inr (by omega)
   ·exact .inl h
  have hst : (store ((⟨g,off,none⟩ : Addr).add i) v).run P w = .ok () (w.setRow g (cur.setIfInBounds (off + i) v)):=by
   rw [Addr.add_none,run_store P w _ v _ (Zzg (h1 v (by simp))),hcell]
   simp [hfro,setCell_eq_setRow w g (off + i) cur e fr v hg]
  obtain ⟨cur',e1,e2,e3⟩:=Zou g off e fr rest (i + 1) (cur.setIfInBounds (off + i) v) (w.setRow g (cur.setIfInBounds (off + i) v)) (setRow_heap w g cur _ e _ hg)
   (fun o ho=>hfr o (by simpa using ho)) (by simp; omega) (fun x hx=>h1 x (by simp [hx]))
  refine ⟨cur',?_,by simpa using e2,fun k=>?_⟩
  ·simp only [storeCells,Sem.run_bind,hst,Result.andThen_ok,e1,setRow_setRow]
  ·rw [e3 k]
   simp only [List.length_cons]
   by_cases h1 : off + i = k
   ·subst h1
    rw [if_neg (by omega),if_pos (by omega)]
    simp [hi]
   ·by_cases h2 : off + i ≤ k ∧ k < off + i + (rest.length + 1)
    ·rw [if_pos (by omega),if_pos h2,show k - (off + i) = (k - (off + (i + 1))) + 1 by omega,List.getElem?_cons_succ]
    ·rw [if_neg (by omega),if_neg h2]
     simp [h1]
theorem Zwa {c : Nat} {cur cur' : Array Value} {e : TypeId} {fr : Nat × Nat} (h : w.heap[c]? = some (.cells cur e fr)) (hs : cur'.size = cur.size) (own : Γ.B ≤ c ∨ Γ.X c) (hG : ∀ o,o < G c → cur'[o]? = cur[o]?) :
  Z6i Γ G c w (w.setRow c cur'):=
 ⟨rfl,rfl,rfl,by simp,fun k hk=>setRow_other w c k cur' hk,own,cur,e,fr,cur',h,setRow_heap w c cur cur' e fr h,hs,hG⟩
theorem Y1s (hC : Z05 Γ σ a w G β) {o : Oper} {t : TypeId} {x y : Operand} (ho : o.op = .store t x y) {told : Z1j} {σ' : S} {q : Prop} (h : Z8c P σ o t (σ.ev x) (σ.ev y) told = some (σ',q)) (hq : q) : Reach P Γ o a w σ':=by
 unfold Z8c at h
 have hx:=Z3d hC x
 have hy:=Z3d hC y
 split at h
 ·rename_i b i off hxe
  rw [hxe] at hx
  split at h
  ·rename_i blk cs sz hb hcs hsz
   split at h
   ·rename_i hcond
    simp only [Bool.and_eq_true,beq_iff_eq] at hcond
    obtain ⟨⟨hlen,hpure⟩,hdst⟩:=hcond
    obtain ⟨c1,c2,c3⟩:=Zph hy hcs
    have main : ∀ r,blk.rows[i]? = some r → blk.frz ≤ i → off + cs.length ≤ r.length → Reach P Γ o a w ((σ.setB b (some { blk with rows:=blk.rows.set i (Z4r r off cs) })).put o.dst .undef):=fun r hr hfz hle=>by
     generalize hu : a.eval x = u at hx
     cases hx with
     | lptr _ _ _ c sz' hβ=>
      obtain ⟨rfl,hB⟩:=hC.blk hb hβ
      obtain ⟨vs,e,fr,h1,h2,h3,h4⟩:=hB.cells
      have hrl:=hB.hsz i r hr
      have hi : i < blk.rows.length:=by
       rcases Nat.lt_or_ge i blk.rows.length with h' | h'
       ·exact h'
       ·rw [List.getElem?_eq_none h'] at hr; cases hr
      have hmul : (i + 1) * blk.sz ≤ blk.rows.length * blk.sz:=Nat.mul_le_mul_right _ (by omega)
      rw [Nat.add_mul] at hmul
      have hv:=(a.eval y).cells.toList
      obtain ⟨cur',e1,e2,e3⟩:=Zou (P:=P) c (i * blk.sz + off) e fr (a.eval y).cells.toList 0 vs w h1 h2 (by simp; omega) (fun v hv=>by
       obtain ⟨j,hj⟩:=List.getElem?_of_mem hv
       exact c2 j v (by simpa using hj))
      simp only [Nat.add_zero,Array.length_toList] at e3
      have hrun : (execOp a.eval o).run P w = .ok .skip (w.setRow c cur'):=by
       simp [execOp,ho,Instr.storeAt,hu,Instr.sureAddr,storeVar,Z5u hsz,show (a.eval y).cells.size = sz by omega,e1]
      have hW : Z6i Γ G c w (w.setRow c cur'):=Zwa h1 e2 hB.own fun k hk=>by
       rw [e3 k,if_neg]
       intro hcon
       have h5:=hB.frz k hk
       have : blk.frz * blk.sz ≤ i * blk.sz:=Nat.mul_le_mul_right _ hfz
       omega
      refine Reach.of_skip hrun (G':=G) (β':=β) (Z05.put (σ:=σ.setB b (some { blk with rows:=blk.rows.set i (Z4r r off cs) })) ?_ (fun t ht=>Z59 hdst t ht) (.undef _))
      refine hC.write (c:=c) hb hβ hW rfl ?_
      have hrow' : ∀ (i' : Nat) r',(blk.rows.set i (Z4r r off cs))[i']? = some r' → (i' = i ∧ r' = Z4r r off cs) ∨ (i' ≠ i ∧ blk.rows[i']? = some r'):=fun i' r' h'=>by
       rw [List.getElem?_set] at h'
       by_cases hh : i = i'
       ·subst hh
        simp [hi] at h'
        exact .inl ⟨rfl,h'.symm⟩
       ·rw [if_neg hh] at h'
        exact .inr ⟨by omega,h'⟩
      refine ⟨hB.own,hB.pin,(fun t ht=>by obtain ⟨vs2,fr2,g,gle⟩:=hB.ty t ht; rw [h1] at g; cases g; exact ⟨_,_,setRow_heap w c vs cur' _ _ h1,gle⟩),hB.frz,by simpa using hB.top,fun hp i' j r' d hr' hd=>?_,fun i' r' hr'=>?_,cur',e,fr,setRow_heap w c vs cur' e fr h1,fun o ho=>h2 o (by omega),by simpa [e2] using h3,fun i' j r' d hr' hd=>?_⟩
      ·rcases hrow' i' r' hr' with ⟨rfl,rfl⟩ | ⟨_,h'⟩
       ·rw [Zo0 _ _ _ _ hle] at hd
        split at hd
        ·have : cs.all D.dat = true:=by simpa [show blk.pure = true from hp] using hpure
         exact List.all_eq_true.1 this d (List.mem_of_getElem? hd)
        ·exact hB.dat hp _ j r d hr hd
       ·exact hB.dat hp i' j r' d h' hd
      ·rcases hrow' i' r' hr' with ⟨rfl,rfl⟩ | ⟨_,h'⟩
       ·rw [Zui _ _ _ hle]; exact hrl
       ·exact hB.hsz i' r' h'
      ·have hlift : ∀ v d,Z06 w G β v d → Z06 (w.setRow c cur') G β v d:=fun v d hv=>hv.mono hW.cells (fun _=>Nat.le_refl _) (fun _ _ h=>h) hW.same
       rcases hrow' i' r' hr' with ⟨rfl,rfl⟩ | ⟨hne,h'⟩
       ·rw [Zo0 _ _ _ _ hle] at hd
        split at hd
        ·rename_i hj
         have hj2 : j - off < (a.eval y).cells.size:=by omega
         refine ⟨(a.eval y).cells[j - off],?_,c2 (j - off) _ (Array.getElem?_eq_getElem hj2),hlift _ _ (c3 (j - off) _ d (Array.getElem?_eq_getElem hj2) hd)⟩
         show cur'[i' * blk.sz + j]? = _
         rw [e3,if_pos (by omega),show i' * blk.sz + j - (i' * blk.sz + off) = j - off by omega]
         simp
        ·rename_i hj
         obtain ⟨v,a1,a2,a3⟩:=h4 i' j r d hr hd
         have hjl : j < r.length:=by
          rcases Nat.lt_or_ge j r.length with h' | h'
          ·exact h'
          ·rw [List.getElem?_eq_none h'] at hd; cases hd
         refine ⟨v,?_,a2,hlift _ _ a3⟩
         show cur'[i' * blk.sz + j]? = _
         rw [e3,if_neg (by omega)]; exact a1
       ·obtain ⟨v,a1,a2,a3⟩:=h4 i' j r' d h' hd
        have hjl : j < blk.sz:=by
         rw [← hB.hsz i' r' h']
         rcases Nat.lt_or_ge j r'.length with h' | h'
         ·exact h'
         ·rw [List.getElem?_eq_none h'] at hd; cases hd
        refine ⟨v,?_,a2,hlift _ _ a3⟩
        show cur'[i' * blk.sz + j]? = _
        rw [e3,if_neg ?_]
        ·exact a1
        ·rcases Nat.lt_or_gt_of_ne hne with h6 | h6
         ·have : (i' + 1) * blk.sz ≤ i * blk.sz:=Nat.mul_le_mul_right _ (by omega)
          rw [Nat.add_mul] at this; omega
         ·have : (i + 1) * blk.sz ≤ i' * blk.sz:=Nat.mul_le_mul_right _ (by omega)
          rw [Nat.add_mul] at this; omega
    split at h
    ·cases h
     obtain ⟨q1,q2,q3,q4⟩:=hq
     rw [← q4]
     exact main _ q2 q1 q3
    ·split at h
     ·cases h
      obtain ⟨q1,q3,q4⟩:=hq
      rw [← q4]
      exact main _ (by assumption) q1 q3
     ·cases h
   ·cases h
  ·cases h
 ·cases h
theorem Zyg {α : Type} (sz : Nat) : ∀ (n : Nat) (cs : List D) (i : Nat),i < n → (Z55 sz n cs)[i]? = some ((cs.drop (i * sz)).take sz)
 | 0,_,i,h=>by omega
 | n + 1,cs,0,_=>by simp [Z55]
 | n + 1,cs,i + 1,h=>by
  simp only [Z55,List.getElem?_cons_succ]
  rw [Zyg (α:=α) sz n (cs.drop sz) i (by omega),List.drop_drop,Nat.add_mul,Nat.one_mul,Nat.add_comm sz]
theorem Zl3 (sz : Nat) : ∀ (n : Nat) (cs : List D),(Z55 sz n cs).length = n
 | 0,_=>rfl
 | n + 1,cs=>by simp [Z55,Zl3 sz n]
theorem Zd8 {t e : TypeId} (h : Z5n P t = some e) : P.underlying t = some (.slice e):=by
 unfold Z5n at h
 split at h
 ·cases h; assumption
 ·cases h
theorem Zsd {place : Nat → Option (Nat × Nat)} : ∀ {ps : List (Nat × Value)} {vs vs' : Array Value},Instr.fill place vs ps = some vs' → vs'.size = vs.size
 | [],vs,vs',h=>by simp [Instr.fill] at h; rw [h]
 | (i, v) :: ps,vs,vs',h=>by
  unfold Instr.fill at h
  split at h
  ·cases h
  ·split at h
   ·cases h
   ·rename_i off size _ _
    have:=Zsd h
    rw [this,← Array.foldl_toList,Array.toList_zipIdx]
    exact (Znj off v.cells.toList 0 vs).1
theorem Y42 (hC : Z05 Γ σ a w G β) {o : Oper} {t : TypeId} {len : Nat} {parts : Array (Nat × Operand)} (ho : o.op = .buildSlice t len parts) {told : Z1j} {σ' : S} {q : Prop}
  (h : Z3g P σ o told = some (σ',q)) (hq : q) : Reach P Γ o a w σ':=by
 unfold Z3g at h
 rw [ho] at h
 dsimp only at h
 split at h
 ·rename_i e he
  split at h
  ·rename_i ie hie
   split at h
   ·rename_i ds l p hd
    split at h
    ·rename_i cs hf
     split at h
     ·rename_i hcond
      simp only [Bool.and_eq_true,Nat.ble_eq] at hcond
      obtain ⟨⟨hdat,hlim⟩,hzs⟩:=hcond
      obtain ⟨z,hz⟩:=Option.isSome_iff_exists.1 hzs
      obtain ⟨i0,zv,hi0,hzv,z1,z2,z3⟩:=Zfp hz
      rw [hie] at hi0; cases hi0
      have hp : p:=by
       split at h
       ·split at h
        ·split at h
         ·cases h; exact hq
         ·cases h; exact hq.1
        ·cases h
       ·obtain ⟨-,-,-,-,-,hqp⟩:=Z93 h
        rw [← hqp]; exact hq
      obtain ⟨G',h1,h2,h3,h4⟩:=Ze1 hC hd hp
      have hsz : Z43 P e = some ie.size:=by simp [Z43,hie]
      -- the cells
      have hinit : Zd3 w G' (fun _=>none) ((Array.range (len * ie.size)).map (zv.cells[· % zv.cells.size]!)) (List.replicate (len * ie.size) .undef):=by
       refine ⟨by simp,fun j u hu=>?_,fun j u d hu hd=>?_⟩
       ·simp only [Array.getElem?_map] at hu
        obtain ⟨k,hk,rfl⟩:=Z26 hu
        rcases Nat.lt_or_ge (k % zv.cells.size) zv.cells.size with h' | h'
        ·exact z2 _ _ (by rw [getElem!_pos zv.cells _ h']; exact Array.getElem?_eq_getElem h')
        ·rw [getElem!_neg zv.cells _ (by omega)]; rfl
       ·have : d = .undef:=by
         rw [List.getElem?_replicate] at hd
         split at hd <;> cases hd; rfl
        subst this; exact .undef _
      obtain ⟨vs',f1,f2⟩:=Zo9 (w:=w) (G:=G') (β:=fun _=>none) _ (parts.toList.map fun x=>(x.1,a.eval x.2)) _ _ cs hinit (by
       rw [List.map_fst_zip]
       ·simp
       ·rw [h3]; simp) (fun j p u hp hu=>by
       simp only [List.getElem?_map] at hu
       obtain ⟨x,hx,rfl⟩:=Z26 hu
       obtain ⟨hp1,hp2⟩:=List.getElem?_zip_eq_some.1 hp
       exact h4 j _ (σ.ev x.2) p.2 (Z3d hC x.2) (by simp [hx]) hp2) hf
      have hrun : (execOp a.eval o).run P w = .ok (.value (.slice (some ⟨w.heap.size,0,none⟩) len len)) (w.alloc (.cells vs' e)):=by
       have hlim' : ¬ (16777216 < len * ie.size):=by omega
       simp only [execOp,ho]
       refine Za2 ?_
       unfold Instr.buildSlice
       simp only [Sem.run_bind,run_underlying (Zd8 he),Result.andThen_ok,Z5u hsz]
       rw [if_neg hlim']
       simp [newRow]
       by_cases h0 : len * ie.size = 0
       ·have f1' : Instr.fill (fun i=>some (i * ie.size,ie.size)) (Array.map (fun _=>default) (Array.range (len * ie.size))) (parts.toList.map fun x=>(x.1,a.eval x.2)) = some vs':=by
         rw [← f1]; congr 1; rw [h0]; simp [Array.range_zero']
        rw [if_pos h0,f1']
        simp
       ·rw [if_neg h0]
        simp [zeroValue,typeInfo,hie,hzv,f1]
      have hcs : cs.length = len * ie.size:=by rw [f2.1,Zsd f1]; simp
      have hrow : ∀ (i : Nat) r,(Z55 ie.size len cs)[i]? = some r → i < len ∧ r = (cs.drop (i * ie.size)).take ie.size:=fun i r hr=>by
       have hi : i < len:=by
        rcases Nat.lt_or_ge i len with h' | h'
        ·exact h'
        ·rw [List.getElem?_eq_none (by rw [Zl3]; exact h')] at hr; cases hr
       rw [Zyg (α:=Nat) ie.size len cs i hi] at hr
       cases hr
       exact ⟨hi,rfl⟩
      have hmul : ∀ i,i < len → i * ie.size + ie.size ≤ len * ie.size:=fun i hi=>by
       have : (i + 1) * ie.size ≤ len * ie.size:=Nat.mul_le_mul_right _ (by omega)
       rw [Nat.add_mul] at this; omega
      have hcell : ∀ (i j : Nat) r d,(Z55 ie.size len cs)[i]? = some r → r[j]? = some d → cs[i * ie.size + j]? = some d ∧ j < ie.size:=fun i j r d hr hd=>by
       obtain ⟨hi,rfl⟩:=hrow i r hr
       rw [List.getElem?_take] at hd
       split at hd
       ·rw [List.getElem?_drop] at hd; exact ⟨hd,by assumption⟩
       ·cases hd
      split at h
      ·-- never written
       split at h
       ·rename_i hdst
        have hR : σ' = (σ.freezeL l).put o.dst (.sl true (Z55 ie.size len cs)):=by
         split at h
         ·cases h; rfl
         ·cases h; rw [hq.2]
        subst hR
        have hq:=h1.quiet (Z6r w (.cells vs' e))
        have hlt : w.heap.size < (w.alloc (.cells vs' e)).heap.size:=Zjw (Z5r w _)
        have hnb : ∀ b s,β b ≠ some (w.heap.size,s):=fun b s hb=>by
         obtain ⟨k,hk⟩:=h1.dom b _ hb
         have:=(h1.blk' hk hb).lt
         omega
        have hG0 : G' w.heap.size = 0:=h1.fresh _ (Nat.le_refl _)
        have hm:=hq.mark hnb h1.big hlt (k:=vs'.size) (by omega)
        have hvs : vs'.size = len * ie.size:=by rw [← f2.1,hcs]
        refine Reach.of_value hrun (hm.put (fun t ht=>by rw [(Zb5 l σ).2]; exact Z59 hdst t ht) ?_)
        refine .sl true w.heap.size 0 len len ie.size _ (fun i j=>vs'.getD (i * ie.size + j) Go.undef) (by rw [Zl3]) (fun _=>rfl) (Nat.le_refl _) (fun i r hr=>?_) (fun i j hi hj=>?_) (fun i j hi hj=>?_) (fun i j hi hj=>?_) (fun i j r d hr hd=>?_) (fun i j r d hr hd=>?_)
        ·obtain ⟨hi,rfl⟩:=hrow i r hr
         have:=hmul i hi
         simp; omega
        ·have:=hmul i hi
         simp only [if_true]; omega
        ·have:=hmul i hi
         have hlt' : i * ie.size + j < vs'.size:=by omega
         rw [Z4p,Z5r]
         simp [Array.getD_eq_getD_getElem?,hlt']
        ·have:=hmul i hi
         have hlt' : i * ie.size + j < vs'.size:=by omega
         have:=f2.2.1 (i * ie.size + j) vs'[i * ie.size + j] (Array.getElem?_eq_getElem hlt')
         simpa [Array.getD_eq_getD_getElem?,hlt'] using this
        ·obtain ⟨hd',-⟩:=hcell i j r d hr hd
         exact List.all_eq_true.1 hdat d (List.mem_of_getElem? hd')
        ·obtain ⟨hd',hj⟩:=hcell i j r d hr hd
         have hlt' : i * ie.size + j < vs'.size:=by
          rw [← f2.1]
          rcases Nat.lt_or_ge (i * ie.size + j) cs.length with h' | h'
          ·exact h'
          ·rw [List.getElem?_eq_none h'] at hd'; cases hd'
         have h5:=f2.2.2 (i * ie.size + j) vs'[i * ie.size + j] d (Array.getElem?_eq_getElem hlt') hd'
         have e1 : vs'.getD (i * ie.size + j) Go.undef = vs'[i * ie.size + j] :=by simp [Array.getD_eq_getD_getElem?,hlt']
         rw [e1]
         exact h5.of_dat (fun b o ho=>Z79 ((Z6r w _).block b (h1.marksLt ho)) o) (fun c=>by
          show G' c ≤ (if c = w.heap.size then vs'.size else G' c)
          split
          ·rename_i hc; rw [hc,hG0]; exact Nat.zero_le _
          ·exact Nat.le_refl _) (List.all_eq_true.1 hdat d (List.mem_of_getElem? hd'))
       ·cases h
      refine Reach.new h1 h hrun (fun t' ht'=>?_) (fun o ho=>by simp) ⟨rfl,rfl,fun t ht=>by unfold tyR at ht; split at ht <;> cases ht; exact ⟨rfl,Nat.le_refl _⟩⟩ (fun i r hr=>?_) (fun _ i j r d hr hd=>?_) (by rw [Zl3,f2.1.symm.trans hcs]; exact Nat.le_refl _) (fun i j r d hr hd=>?_)
      ·have:=Z06.lsl (w:=w.alloc (.cells vs' e)) (G:=G') (β:=upd β t' (some (w.heap.size,ie.size))) t' 0 len len w.heap.size ie.size 0 (by simp [upd]) (Nat.le_refl _) (.inr (by simp)) ⟨vs',e,(0,0),Z5r w _,.inr (by rw [← f2.1,hcs]; simp)⟩
       exact this
      ·obtain ⟨hi,rfl⟩:=hrow i r hr
       have:=hmul i hi
       show _ = ie.size
       simp; omega
      ·obtain ⟨hd',-⟩:=hcell i j r d hr hd
       exact List.all_eq_true.1 hdat d (List.mem_of_getElem? hd')
      ·obtain ⟨hd',hj⟩:=hcell i j r d hr hd
       have hlt' : i * ie.size + j < vs'.size:=by
        rw [← f2.1]
        rcases Nat.lt_or_ge (i * ie.size + j) cs.length with h' | h'
        ·exact h'
        ·rw [List.getElem?_eq_none h'] at hd'; cases hd'
       refine ⟨vs'[i * ie.size + j],Array.getElem?_eq_getElem hlt',f2.2.1 _ _ (Array.getElem?_eq_getElem hlt'),?_⟩
       exact (f2.2.2 _ _ d (Array.getElem?_eq_getElem hlt') hd').of_dat (fun _ _ _=>rfl) (fun _=>Nat.le_refl _) (List.all_eq_true.1 hdat d (List.mem_of_getElem? hd'))
     ·cases h
    ·cases h
   ·cases h
  ·cases h
 ·cases h
theorem Y1o {v : Value} {d : D} (h : Z06 w G β v d) : Z06 w G β v (Zqh d):=by
 unfold Zqh
 split
 ·cases h with
  | slnil _ x=>exact .slnil false x
  | sl c b off n cap sz rows val hn hcc hcap hsz himm hcell hone hdat hrep=>exact .sl false b off n cap sz _ val hn (fun h=>by cases h) hcap hsz himm hcell hone hdat hrep
 ·exact h
theorem Y2e {t : TypeId} {cs : List D} (h : Zf7 P t = some cs) : ∃ i v,P.info? t = some i ∧ i.zero = some v ∧ cs.length = v.cells.size ∧ (∀ (j : Nat) u,v.cells[j]? = some u → one u = true) ∧
  ∀ (w : World) (G : Nat → Nat) (β : Nat → Option (Nat × Nat)) (j : Nat) u d,v.cells[j]? = some u → cs[j]? = some d → Z06 w G β u d:=by
 unfold Zf7 at h
 split at h
 ·rename_i z hz
  cases h
  obtain ⟨i,v,h1,h2,h3,h4,h5⟩:=Zfp hz
  refine ⟨i,v,h1,h2,by simpa using h3,h4,fun w G β j u d hu hd=>?_⟩
  rw [List.getElem?_map] at hd
  obtain ⟨d0,hd0,rfl⟩:=Z26 hd
  exact Y1o (h5 w G β j u d0 hu hd0)
 ·cases h
theorem Y2c (hC : Z05 Γ σ a w G β) {o : Oper} {t : TypeId} {l c : Operand} (ho : o.op = .makeSlice t l c) {told : Z1j} {σ' : S} {q : Prop}
  (h : Z3g P σ o told = some (σ',q)) (hq : q) : Reach P Γ o a w σ':=by
 unfold Z3g at h
 rw [ho] at h
 dsimp only at h
 have hl:=Z3d hC l
 have hc:=Z3d hC c
 split at h
 ·rename_i e kl l' kc c' he hle hce
  rw [hle] at hl
  rw [hce] at hc
  have hl':=Z46 hl
  have hc':=Z46 hc
  split at h
  ·rename_i ie z hie hz
   split at h
   ·rename_i hcond
    simp only [Bool.and_eq_true,beq_iff_eq] at hcond
    obtain ⟨hzl,hzd⟩:=hcond
    obtain ⟨i0,zv,hi0,hzv,z1,z2,z3⟩:=Y2e hz
    rw [hie] at hi0; cases hi0
    obtain ⟨tt,ht,hb,hlt,rfl,hqp⟩:=Z93 h
    obtain ⟨q1,q2,q3,q4,q5⟩ : 0 ≤ l' ∧ l' ≤ c' ∧ (ie.bytes : Int) * c' ≤ 281474976710656 ∧ c' ≤ 9223372036854775807 ∧ List.replicate l'.toNat z = told.rows.getD (List.replicate l'.toNat z):=by rw [← hqp]; exact hq
    have hrun : (execOp a.eval o).run P w = .ok (.value (.slice (some ⟨w.heap.size,0,none⟩) l'.toNat c'.toNat)) (w.alloc (.cells (madeCells zv.cells (c'.toNat * ie.size)) e)):=by
     simp only [execOp,ho,hl',hc']
     exact Za2 (run_make w t e ie zv (Zd8 he) hie hzv kl kc l' c' q1 q2 q3 q4)
    have hrow : ∀ (i : Nat) r,(told.rows.getD (List.replicate l'.toNat z))[i]? = some r → i < l'.toNat ∧ r = z:=fun i r hr=>by
     rw [← q5,List.getElem?_replicate] at hr
     split at hr
     ·cases hr; exact ⟨by assumption,rfl⟩
     ·cases hr
    have hlen : (told.rows.getD (List.replicate l'.toNat z)).length = l'.toNat:=by rw [← q5]; simp
    have hmm : l'.toNat * ie.size ≤ c'.toNat * ie.size:=Nat.mul_le_mul_right _ (by omega)
    refine Reach.new hC h hrun (fun t' ht'=>?_) (fun o ho=>by simp) ⟨rfl,rfl,fun _ h=>by cases h⟩ (fun i r hr=>?_) (fun _ i j r d hr hd=>?_) (by rw [hlen,size_madeCells]; exact hmm) (fun i j r d hr hd=>?_)
    ·have:=Z06.lsl (w:=w.alloc (.cells (madeCells zv.cells (c'.toNat * ie.size)) e)) (G:=G) (β:=upd β t' (some (w.heap.size,ie.size))) t' 0 l'.toNat c'.toNat w.heap.size ie.size 0 (by simp [upd]) (by omega) (.inr (by simp))
      ⟨_,e,(0,0),Z5r w _,.inr (by rw [size_madeCells]; simp)⟩
     show Z06 _ _ _ _ (.lsl t' 0 (told.rows.getD _).length)
     rw [hlen]
     exact this
    ·obtain ⟨hi,rfl⟩:=hrow i r hr
     exact hzl
    ·obtain ⟨hi,rfl⟩:=hrow i r hr
     exact List.all_eq_true.1 hzd d (List.mem_of_getElem? hd)
    ·obtain ⟨hi,rfl⟩:=hrow i r hr
     have hj : j < ie.size:=by
      rw [← hzl]
      rcases Nat.lt_or_ge j r.length with h' | h'
      ·exact h'
      ·rw [List.getElem?_eq_none h'] at hd; cases hd
     have hzs : zv.cells.size = ie.size:=by rw [← z1]; exact hzl
     have hidx : i * ie.size + j < c'.toNat * ie.size:=by
      have : (i + 1) * ie.size ≤ c'.toNat * ie.size:=Nat.mul_le_mul_right _ (by omega)
      rw [Nat.add_mul] at this; omega
     have hmod : (i * ie.size + j) % zv.cells.size = j:=by
      rw [hzs,Nat.mul_comm,Nat.mul_add_mod,Nat.mod_eq_of_lt hj]
     refine ⟨zv.cells[j]'(by omega),?_,z2 j _ (Array.getElem?_eq_getElem (by omega)),z3 w G β j _ d (Array.getElem?_eq_getElem (by omega)) hd⟩
     show (madeCells zv.cells (c'.toNat * ie.size))[i * ie.size + j]? = _
     unfold madeCells
     rw [Array.getElem?_map,Array.getElem?_range,if_pos hidx]
     simp only [Option.map_some,hmod]
     rw [getElem!_pos zv.cells j (by omega)]
   ·cases h
  ·cases h
 ·cases h
end Go.Den
