/-
  A call that keeps blocks without names: a context within a context; blocks of numbers that are named for a while.
-/
import Derived.Test.YtoijcliccgjolaaGreatDenGo
namespace Go.Den
open Go.RowKit
variable {P : Program} {Γ : Ctx} {σ σ' : S} {a a' : Act} {w w' : World} {G G' : Nat → Nat} {β β' : Nat → Option (Nat × Nat)}
def Ctx.sub (Γ : Ctx) (w : World) (G : Nat → Nat) (β : Nat → Option (Nat × Nat)) : Ctx:=
 { B:=w.heap.size,X:=fun c=>∃ b s,β b = some (c,s),w0:=w,G0:=G,hB:=Nat.le_refl _,pin:=Γ.pin }
theorem Z37.ctx {Γ' : Ctx} {c : Nat} {blk : Blk} (h : Z37 w G β Γ c blk) (ho : Γ'.B ≤ c ∨ Γ'.X c) (hp : Γ'.pin = Γ.pin) : Z37 w G β Γ' c blk:=by
 obtain ⟨own,pin,ty,frz,top,dat,hsz,cells⟩:=h
 exact ⟨ho,fun k hk=>by rw [hp]; exact pin k hk,ty,frz,top,dat,hsz,cells⟩
theorem Z05.sub (h : Z05 Γ σ a w G β) : Z05 (Γ.sub w G β) σ a w G β:=by
 refine ⟨h.defers,h.size,h.tmps,fun b blk hb=>?_,h.dom,h.inj,.refl _ _ _,fun _ _ _=>rfl,h.fresh,Nat.le_refl _⟩
 rcases h.heap b blk hb with h0 | ⟨c,h0,hB⟩
 ·exact .inl h0
 ·exact .inr ⟨c,h0,hB.ctx (.inr ⟨b,_,h0⟩) rfl⟩
theorem Z05.owned (h : Z05 Γ σ a w G β) {b c s : Nat} (hb : β b = some (c,s)) : (Γ.B ≤ c ∨ Γ.X c) ∧ c < w.heap.size:=by
 obtain ⟨blk,hk⟩:=h.dom b _ hb
 rcases h.heap b blk hk with ⟨h0,-⟩ | ⟨c',h0,hB⟩
 ·rw [hb] at h0; cases h0
 ·rw [hb] at h0; cases h0; exact ⟨hB.own,hB.lt⟩
theorem Z05.lift (h0 : Z05 Γ σ a w G β) (h : Z05 (Γ.sub w G β) σ' a' w' G' β') : Z05 Γ σ' a' w' G' β':=by
 have hx : ∀ k,k < Γ.B → ¬ Γ.X k → ¬ (Γ.sub w G β).X k:=fun k hk hn ⟨b,s,hb⟩=>(h0.owned hb).1.elim (fun h1=>by omega) hn
 have hk : Z5a Γ.B Γ.X w w':=⟨h.kept.os,h.kept.tape,h.kept.output,h.kept.size,fun k hk hn=>h.kept.block k (Nat.lt_of_lt_of_le hk h0.big) (hx k hk hn),h.kept.same⟩
 refine ⟨h.defers,h.size,h.tmps,fun b blk hb=>?_,h.dom,h.inj,h0.kept.trans hk,fun c hc hn=>?_,h.fresh,Nat.le_trans h0.big h.kept.size⟩
 ·rcases h.heap b blk hb with h1 | ⟨c,h1,hB⟩
  ·exact .inl h1
  ·refine .inr ⟨c,h1,hB.ctx ?_ rfl⟩
   rcases hB.own with h2 | ⟨b',s,h2⟩
   ·exact .inl (Nat.le_trans h0.big h2)
   ·exact (h0.owned h2).1
 ·rw [h.marks c (Nat.lt_of_lt_of_le hc h0.big) (hx c hc hn)]
  exact h0.marks c hc hn
theorem Z05.frame (h : Z05 (Γ.sub w G β) σ' a' w' G' β') {c : Nat} (hc : c < w.heap.size) (hn : ∀ b s,β b ≠ some (c,s)) : w'.heap[c]? = w.heap[c]? ∧ G' c = G c ∧ ∀ b s,β' b ≠ some (c,s):=by
 have hx : ¬ (Γ.sub w G β).X c:=fun ⟨b,s,hb⟩=>hn b s hb
 refine ⟨h.kept.block c hc hx,h.marks c hc hx,fun b s hb=>?_⟩
 rcases (h.owned hb).1 with h1 | h1
 ·exact absurd h1 (by show ¬ (w.heap.size ≤ c); omega)
 ·exact hx h1
def Z4o (w : World) (c : Nat) (l : List Int) (cap : Nat) : Prop:=∃ vs e fr,w.heap[c]? = some (.cells vs e fr) ∧ (∀ o,o < vs.size → ¬ (fr.1 ≤ o ∧ o < fr.2)) ∧ l.length ≤ vs.size ∧ cap ≤ vs.size ∧
 ∀ (i : Nat) x,l[i]? = some x → vs[i]? = some (.int .i64 x)
theorem Z4o.same {c : Nat} {l : List Int} {cap : Nat} (h : Z4o w c l cap) (hb : w'.heap[c]? = w.heap[c]?) : Z4o w' c l cap:=by
 obtain ⟨vs,e,fr,h1,h2⟩:=h
 exact ⟨vs,e,fr,hb.trans h1,h2⟩
def Z4q (l : List Int) (pin : Option Nat) : Blk:={ sz:=1,rows:=l.map Z03,frz:=0,pure:=true,pin }
theorem Zig {l : List Int} {i j : Nat} {r : List D} {d : D} (hr : (l.map Z03)[i]? = some r) (hd : r[j]? = some d) : j = 0 ∧ ∃ x,l[i]? = some x ∧ d = .int .i64 x:=by
 rw [List.getElem?_map] at hr
 cases hx : l[i]? with
 | none=>rw [hx] at hr; cases hr
 | some x=>
  rw [hx] at hr; cases hr
  cases j with
  | zero=>cases hd; exact ⟨rfl,x,rfl,rfl⟩
  | succ j=>simp [Z03] at hd
theorem Z4o.rep {c : Nat} {l : List Int} {cap : Nat} (h : Z4o w c l cap) (hG : G c = 0) (ho : Γ.B ≤ c ∨ Γ.X c) {pin : Option Nat} (hp : ∀ k,pin = some k → Γ.pin k = c) : Z37 w G β Γ c (Z4q l pin):=by
 obtain ⟨vs,e,fr,h1,h2,h3,h4,h5⟩:=h
 refine ⟨ho,hp,fun t ht=>(by cases ht),fun o ho=>(by omega),Nat.zero_le _,fun _ i j r d hr hd=>?_,fun i r hr=>?_,vs,e,fr,h1,h2,by simpa [Z4q] using h3,fun i j r d hr hd=>?_⟩
 ·obtain ⟨-,x,-,rfl⟩:=Zig hr hd; rfl
 ·simp only [Z4q,List.getElem?_map] at hr
  obtain ⟨x,-,rfl⟩:=Z26 hr
  rfl
 ·obtain ⟨rfl,x,hx,rfl⟩:=Zig hr hd
  exact ⟨_,by simpa [Z4q] using h5 i x hx,rfl,.int _ _⟩
theorem Z4o.of {c : Nat} {l : List Int} {pin : Option Nat} (h : Z37 w G β Γ c (Z4q l pin)) {cap : Nat} (hcap : ∀ vs e fr,w.heap[c]? = some (.cells vs e fr) → cap ≤ vs.size) : Z4o w c l cap:=by
 obtain ⟨vs,e,fr,h1,h2,h3,h4⟩:=h.cells
 refine ⟨vs,e,fr,h1,h2,by simpa [Z4q] using h3,hcap vs e fr h1,fun i x hx=>?_⟩
 obtain ⟨v,e1,-,e3⟩:=h4 i 0 [.int .i64 x] (.int .i64 x) (by simp [Z4q,hx,Z03]) rfl
 cases e3
 simpa [Z4q] using e1
theorem Z05.refine (h : Z05 Γ σ a w G β) {b : Nat} {blk : Blk} (hb : σ.heap b = some blk) (rows : List (List D)) (hl : rows.length = blk.rows.length)
  (hr : ∀ c vs e fr,β b = some (c,blk.sz) → w.heap[c]? = some (.cells vs e fr) → ∀ (i : Nat) (r' : List D),rows[i]? = some r' → r'.length = blk.sz ∧ ∀ (j : Nat) d',r'[j]? = some d' → ∀ r d v,blk.rows[i]? = some r → r[j]? = some d → vs[i * blk.sz + j]? = some v → one v = true → Z06 w G β v d → Z06 w G β v d') (p : Bool)
  (hp : p = true → ∀ (i j : Nat) (r : List D) (d : D),rows[i]? = some r → r[j]? = some d → d.dat = true) :
  Z05 Γ (σ.setB b (some { blk with rows:=rows,pure:=p })) a w G β:=by
 refine ⟨h.defers,h.size,h.tmps,fun u k hu=>?_,fun u x hu=>?_,h.inj,h.kept,h.marks,h.fresh,h.big⟩
 ·simp only [S.setB] at hu
  split at hu
  ·cases hu; rename_i hub; subst hub
   rcases h.heap _ blk hb with ⟨h0,h1,h2⟩ | ⟨c,h0,hB⟩
   ·refine .inl ⟨h0,?_,h2⟩
    rw [h1] at hl
    exact List.eq_nil_of_length_eq_zero hl
   ·refine .inr ⟨c,h0,?_⟩
    obtain ⟨own,pin,ty,frz,top,dat,hsz,vs,e,fr,h1,h2,h3,h4⟩:=hB
    refine ⟨own,pin,ty,frz,by rw [hl]; exact top,hp,fun i r' hr'=>(hr c vs e fr h0 h1 i r' hr').1,vs,e,fr,h1,h2,by rw [hl]; exact h3,fun i j r' d' hr' hd'=>?_⟩
    have hi : i < blk.rows.length:=by
     rw [← hl]
     rcases Nat.lt_or_ge i rows.length with h' | h'
     ·exact h'
     ·rw [List.getElem?_eq_none h'] at hr'; cases hr'
    obtain ⟨r,hri⟩ : ∃ r,blk.rows[i]? = some r:=⟨_,List.getElem?_eq_getElem hi⟩
    have hj : j < r.length:=by
     rw [hsz i r hri,← (hr c vs e fr h0 h1 i r' hr').1]
     rcases Nat.lt_or_ge j r'.length with h' | h'
     ·exact h'
     ·rw [List.getElem?_eq_none h'] at hd'; cases hd'
    obtain ⟨v,a1,a2,a3⟩:=h4 i j r r[j] hri (List.getElem?_eq_getElem hj)
    exact ⟨v,a1,a2,(hr c vs e fr h0 h1 i r' hr').2 j d' hd' r _ v hri (List.getElem?_eq_getElem hj) a1 a2 a3⟩
  ·exact h.heap u k hu
 ·simp only [S.setB]
  split
  ·exact ⟨_,rfl⟩
  ·exact h.dom u x hu
theorem Z05.cellOf (h : Z05 Γ σ a w G β) {b : Nat} {blk : Blk} (hb : σ.heap b = some blk) {i j : Nat} {r : List D} {d : D} (hr : blk.rows[i]? = some r) (hd : r[j]? = some d) :
  ∃ c vs e fr v,β b = some (c,blk.sz) ∧ w.heap[c]? = some (.cells vs e fr) ∧ vs[i * blk.sz + j]? = some v ∧ one v = true ∧ Z06 w G β v d:=by
 rcases h.heap b blk hb with ⟨-,h1,-⟩ | ⟨c,h0,hB⟩
 ·rw [h1] at hr; simp at hr
 ·obtain ⟨vs,e,fr,h1,h2,h3,h4⟩:=hB.cells
  obtain ⟨v,a1,a2,a3⟩:=h4 i j r d hr hd
  exact ⟨c,vs,e,fr,v,h0,h1,a1,a2,a3⟩
theorem Z05.unname (h : Z05 Γ σ a w G β) (b : Nat) (ht : ∀ t,(σ.tmps t).kill b = σ.tmps t) (hh : ∀ u k,u ≠ b → σ.heap u = some k → Blk.kill b k = k) :
  Z05 Γ { σ with heap:=fun u=>if u = b then none else σ.heap u } a w G (upd β b none):=by
 have h1:=h.drop b
 have e : σ.drop b = { σ with heap:=fun u=>if u = b then none else σ.heap u }:=by
  unfold S.drop
  congr 1
  ·funext t; exact ht t
  ·funext u
   by_cases hu : u = b
   ·rw [if_pos hu,if_pos hu]
   ·rw [if_neg hu,if_neg hu]
    cases hk : σ.heap u with
    | none=>rfl
    | some k=>exact congrArg some (hh u k hu hk)
 rw [e] at h1
 exact h1
inductive Z80 (w : World) (G : Nat → Nat) (B : Nat) : Value → List Int → Prop
 | nil (x : Option Addr) : Z80 w G B (.slice x 0 0) []
 | blk (c cap : Nat) (l : List Int) (hcap : l.length ≤ cap) (hi : Z4o w c l cap) (hG : G c = 0) (hB : B ≤ c) : Z80 w G B (.slice (some ⟨c,0,none⟩) l.length cap) l
def TakeS (P : Program) (f : FuncId) (ds pre post : List D) (tos : List Int) : Prop:=
 Z6c P f = true ∧ ∀ (w : World) (G : Nat → Nat) (vs : Array Value),(∀ c,w.heap.size ≤ c → G c = 0) → Z6j w G vs ds →
  Calls P f vs w fun e w'=>∃ v G' u,e = .returned v ∧ Below w.heap.size w w' ∧ (∀ c,c < w.heap.size → G' c = G c) ∧ (∀ c,w'.heap.size ≤ c → G' c = 0) ∧
   Z06 w' G' (fun _=>none) v (.agg (pre ++ .raw u :: post)) ∧ Z80 w' G' w.heap.size u tos
def EndsT (P : Program) (fn : Func) (Q : List D → S → Prop) : Exit → S → Prop:=fun e σ=>(e = .ret ∨ e = .normal) ∧ ∃ cs p,Z8h P σ fn.results.toList = some ([.agg cs],p) ∧ p ∧ Q cs σ
def OwnD (σ : S) (d : D) (l : List Int) : Prop:=(d = .sl true [] ∧ l = []) ∨ ∃ b,d = .lsl b 0 (l.map Z03).length ∧ σ.heap b = some (Z4q l none)
def Ztu (pre post : List D) (tos : List Int) (cs : List D) (σ : S) : Prop:=∃ cpre d cpost l p,cs = cpre ++ d :: cpost ∧ cpre.length = pre.length ∧ Z39 σ (cpre ++ cpost) = some (pre ++ post,l,p) ∧ p ∧ OwnD σ d tos ∧ ∀ b n,d = .lsl b 0 n → b ∉ l
theorem Zwl : ∀ (l : List Nat) (σ : S) {b : Nat},b ∉ l → (σ.freezeL l).heap b = σ.heap b
 | [],_,_,_=>rfl
 | x :: l,σ,b,h=>by
  have h1 : b ≠ x:=fun e=>h (by simp [e])
  have h2 : b ∉ l:=fun e=>h (by simp [e])
  show ((σ.freeze x).freezeL l).heap b = _
  rw [Zwl l (σ.freeze x) h2]
  simp [S.freeze,h1]
theorem Z06.fresh (h : Z05 Γ σ a w G β) {v : Value} {d : D} {l : List Int} (hv : Z06 w G β v d) (ho : OwnD σ d l) : Z80 w G Γ.B v l ∨ ∃ b c s,d = .lsl b 0 (l.map Z03).length ∧ β b = some (c,s) ∧ Γ.X c:=by
 rcases ho with ⟨rfl,rfl⟩ | ⟨b,rfl,hb⟩
 ·cases hv with
  | slnil c x=>exact .inl (.nil x)
  | sl c b off n cap sz rows val hn hc hcap=>
   have h0 : n = 0:=by simpa using hn.symm
   subst h0
   obtain rfl : cap = 0:=hc rfl
   exact .inl (.nil _)
 ·generalize hn : (l.map Z03).length = n at hv
  rw [List.length_map] at hn
  cases hv with
  | lslnil b x=>
   obtain rfl:=List.eq_nil_of_length_eq_zero hn
   exact .inl (.nil x)
  | lsl b lo n cap c sz off hβ hcap hoff hroom=>
   subst hn
   by_cases hz : cap = 0
   ·subst hz
    obtain rfl : l = [] :=List.eq_nil_of_length_eq_zero (by omega)
    exact .inl (.nil _)
   ·have h0 : off = 0:=by
     rcases hoff with h1 | h1
     ·exact absurd h1 hz
     ·simpa using h1
    subst h0
    rcases h.heap b _ hb with ⟨h0,-⟩ | ⟨c',h0,hB⟩
    ·rw [hβ] at h0; cases h0
    ·rw [hβ] at h0
     simp only [Z4q,Option.some.injEq,Prod.mk.injEq] at h0
     obtain ⟨rfl,rfl⟩:=h0
     rcases hB.own with ho | ho
     ·refine .inl (.blk c cap l hcap (Z4o.of hB fun vs e fr hh=>?_) ?_ ho)
      ·obtain ⟨vs',e',fr',k1,k2⟩:=hroom
       rw [hh] at k1; cases k1
       rcases k2 with k2 | k2
       ·omega
       ·omega
      ·rcases Nat.eq_zero_or_pos (G c) with hg | hg
       ·exact hg
       ·have:=hB.frz 0 hg
        simp [Z4q] at this
     ·exact .inr ⟨b,c,_,rfl,hβ,ho⟩
theorem Y0b {f : FuncId} {fn : Func} {c : Code} {ds pre post : List D} {tos : List Int} (hf : P.funcs[f]? = some fn) (hb : fn.body = some c) (hent : Z6c P f = true) (hn : ds.length ≤ fn.ntmps)
  (h : ∀ Γ : Ctx,DWP P Γ c (EndsT P fn (Ztu pre post tos)) (mkS fn.ntmps (Z3s 0 ds) [])) : TakeS P f ds pre post tos:=by
 refine ⟨hent,fun w G vs hG hargs=>?_⟩
 let Γ : Ctx:={ B:=w.heap.size,X:=fun _=>False,w0:=w,G0:=G,hB:=Nat.le_refl _,pin:=fun _=>0 }
 have hC : Z05 Γ (mkS fn.ntmps (Z3s 0 ds) []) { tmps:=vs ++ Array.replicate (fn.ntmps - vs.size) Go.undef,defers:=[] } w G (fun _=>none):=by
  refine ⟨rfl,?_,fun t=>?_,fun b blk hb=>?_,fun b x hx=>?_,fun b b' c s s' hb=>?_,.refl _ _ _,fun _ _ _=>rfl,hG,Nat.le_refl _⟩
  ·simp only [Array.size_append,Array.size_replicate,mkS]; have:=hargs.size; omega
  ·show Z06 w G _ _ (ofL (Z3s 0 ds) t)
   rw [Zcr,if_pos (Nat.zero_le _),Nat.sub_zero]
   rcases Nat.lt_or_ge t ds.length with ht | ht
   ·have ht' : t < vs.size:=by rw [← hargs.size]; exact ht
    have e1 : ds.getD t .undef = ds[t] :=by simp [List.getD,List.getElem?_eq_getElem ht]
    have e2 : (vs ++ Array.replicate (fn.ntmps - vs.size) Go.undef).getD t Go.undef = vs[t] :=by
     rw [Array.getD_eq_getD_getElem?,Array.getElem?_append_left ht',Array.getElem?_eq_getElem ht']; rfl
    rw [e1,e2]
    exact hargs.rep t _ _ (Array.getElem?_eq_getElem ht') (List.getElem?_eq_getElem ht)
   ·have e1 : ds.getD t .undef = .undef:=by simp [List.getD,List.getElem?_eq_none ht]
    rw [e1]; exact .undef _
  ·cases hb
  ·cases hx
  ·cases hb
 refine calls_of_wp hf hb (wp_mono (h Γ _ w G _ hC) fun e a' w' ⟨σ',G',β',hC',he,cs,p,hr,hp,cpre,d,cpost,l,q,hcs,hlen,hd,hq,ho,hnl⟩=>?_)
 subst hcs
 obtain ⟨vs,e1,e2,e3⟩:=Zks (P:=P) hC' _ hr hp
 obtain ⟨v,rfl⟩ : ∃ v,vs = [v] :=by
  match vs,e2 with
  | [v],_=>exact ⟨v,rfl⟩
 have hv:=e3 0 v _ rfl rfl
 obtain ⟨us,rfl,k1,k2,k3⟩:=Z58 hv
 obtain ⟨G2,f1,f2,f3,f4⟩:=Ze1 hC' hd hq
 have hi : cpre.length < us.size:=by rw [← k1]; simp
 obtain ⟨u,hu⟩ : ∃ u,us[cpre.length]? = some u:=⟨_,Array.getElem?_eq_getElem hi⟩
 have hud:=k3 cpre.length _ d hu (by simp)
 -- the block stands as it stood
 have ho2 : OwnD (σ'.freezeL l) d tos:=by
  rcases ho with ho | ⟨b,h1,h2⟩
  ·exact .inl ho
  ·exact .inr ⟨b,h1,by rw [Zwl l σ' (hnl b _ h1)]; exact h2⟩
 have hfr : Z80 w' G2 w.heap.size u tos:=by
  rcases Z06.fresh f1 (hud.mono (fun _ _ _=>rfl) f2 (fun _ _ h=>h) (.refl w')) ho2 with h1 | ⟨b,c,s,-,-,h1⟩
  ·exact h1
  ·exact absurd h1 (fun h=>h)
 have hagg : Z06 w' G2 (fun _=>none) (.agg us) (.agg (pre ++ .raw u :: post)):=by
  have hl2 : (pre ++ post).length = (cpre ++ cpost).length:=f3
  refine .agg us _ ?_ k2 fun j v d' hv hd'=>?_
  ·rw [← k1]; simp only [List.length_append,List.length_cons] at hl2 ⊢; omega
  ·rcases Nat.lt_trichotomy j cpre.length with hj | hj | hj
   ·rw [List.getElem?_append_left (by omega)] at hd'
    have hx : (cpre ++ d :: cpost)[j]? = (cpre ++ cpost)[j]? :=by rw [List.getElem?_append_left hj,List.getElem?_append_left hj]
    have hex : ∃ d0,(cpre ++ cpost)[j]? = some d0:=⟨_,List.getElem?_eq_getElem (by simp; omega)⟩
    obtain ⟨d0,hd0⟩:=hex
    exact f4 j v d0 d' (k3 j v d0 hv (hx.trans hd0)) hd0 (by rw [List.getElem?_append_left (by omega)]; exact hd')
   ·subst hj
    rw [List.getElem?_append_right (by omega),hlen,Nat.sub_self] at hd'
    cases hd'
    rw [hu] at hv; cases hv
    exact .raw _ (k2 _ _ hu)
   ·rw [List.getElem?_append_right (by omega),show j - pre.length = (j - 1 - pre.length) + 1 by omega,List.getElem?_cons_succ] at hd'
    have hx : (cpre ++ d :: cpost)[j]? = (cpre ++ cpost)[j - 1]? :=by
     rw [List.getElem?_append_right (by omega),show j - cpre.length = (j - 1 - cpre.length) + 1 by omega,List.getElem?_cons_succ,List.getElem?_append_right (by omega)]
    have hlt : j - 1 < (cpre ++ cpost).length:=by
     rcases Nat.lt_or_ge (j - 1 - pre.length) post.length with h' | h'
     ·rw [← hl2,List.length_append]; omega
     ·rw [List.getElem?_eq_none h'] at hd'; cases hd'
    obtain ⟨d0,hd0⟩ : ∃ d0,(cpre ++ cpost)[j - 1]? = some d0:=⟨_,List.getElem?_eq_getElem hlt⟩
    exact f4 (j - 1) v d0 d' (k3 j v d0 hv (hx.trans hd0)) hd0 (by rw [List.getElem?_append_right (by omega)]; exact hd')
 have hrun : (results fn a'.tmps).run P w' = .ok (.agg us) w':=by
  rw [Zp9,Array.mapM_eq_mapM_toList]
  simp only [Sem.run_bind,Sem.run_map,e1,Result.andThen_ok,Sem.run_pure]
  rfl
 have hR : ∃ v' G' u,Ending.returned (.agg us) = .returned v' ∧ Below w.heap.size w w' ∧ (∀ c,c < w.heap.size → G' c = G c) ∧ (∀ c,w'.heap.size ≤ c → G' c = 0) ∧ Z06 w' G' (fun _=>none) v' (.agg (pre ++ .raw u :: post)) ∧ Z80 w' G' w.heap.size u tos:=
  ⟨_,G2,_,rfl,⟨f1.kept.os,f1.kept.tape,f1.kept.output,f1.kept.size,fun k hk=>f1.kept.block k hk (fun h=>h)⟩,fun c hc=>f1.marks c hc (fun h=>h),f1.fresh,hagg,hfr⟩
 rcases he with rfl | rfl
 ·exact ⟨hC'.defers,_,hrun,hR⟩
 ·exact ⟨hC'.defers,_,hrun,hR⟩
theorem Y2s (hC : Z05 Γ σ a w G β) {ops : Array Oper} {i : Nat} {o : Oper} (hi : ops[i]? = some o) (hg : o.guard = none) {fo : Operand} {args : Array Operand} {ts : Array TypeId} (ho : o.op = .call { callee:= .value fo,args,argTypes:=ts }) {f : FuncId} (hfo : σ.ev fo = .fn f)
  {ds pre post : List D} {tos : List Int} {p : Prop} (hd : Z39 σ (args.toList.map σ.ev) = some (ds,[],p)) (hp : p) {t : Nat} (hdst : o.dst = some t) (ht : t < σ.n) (hT : TakeS P f ds pre post tos)
  {K : Act → World → Prop} {Q : Exit → Act → World → Prop} (hK : ∀ v w' G' u,Z05 Γ (σ.put (some t) (.agg (pre ++ .raw u :: post))) (a.put (some t) v) w' G' β → Z80 w' G' w.heap.size u tos → K (a.put (some t) v) w') : wpOp P ops Q i K a w:=by
 have hval : a.eval fo = .func (.func f) #[] #[] :=by
  have:=Z3d hC fo
  rw [hfo] at this
  generalize a.eval fo = u at this
  cases this; rfl
 obtain ⟨G',h1,h2,h3,h4⟩:=Ze1 hC hd hp
 change Z05 Γ σ a w G' β at h1
 have hargs : Z6j w G' (args.map a.eval) ds:=by
  refine ⟨by rw [h3]; simp,fun j v d hv hd=>?_⟩
  simp only [Array.getElem?_map] at hv
  obtain ⟨x,hx,rfl⟩:=Z26 hv
  exact h4 j _ (σ.ev x) d (Z3d hC x) (by simp [hx]) hd
 have hrun0 : (execOp a.eval o).run P w = (callFunc f (args.map a.eval)).run P w:=by
  simp [execOp,ho,resolve,hval,Deferred.ofValue,invoke]
 unfold wpOp
 rw [hi]
 have hw : Region.wanted o (yielded ops a.tmps) = true:=by unfold Region.wanted; rw [hg]
 dsimp only
 rw [hw]
 refine .inl ?_
 unfold Oper.wp
 rw [hrun0,Zlo hT.1,Oper.upon_enter]
 refine (hT.2 w G' _ h1.fresh hargs).mono fun e w' he=>?_
 obtain ⟨v,G2,u,rfl,b1,b2,b3,b4,b5⟩:=he
 have hq':=h1.quiet b1
 have hG : ∀ k,G' k ≤ G2 k:=fun k=>by
  rcases Nat.lt_or_ge k w.heap.size with hk | hk
  ·rw [b2 k hk]; exact Nat.le_refl _
  ·rw [h1.fresh k hk]; exact Nat.zero_le _
 have hcell : ∀ b o,o < G' b → w'.cell? ⟨b,o,none⟩ = w'.cell? ⟨b,o,none⟩:=fun _ _ _=>rfl
 have hC2 : Z05 Γ σ a w' G2 β:=by
  refine ⟨hq'.defers,hq'.size,fun t=>(hq'.tmps t).mono hcell hG (fun _ _ h=>h) (.refl w'),fun b blk hb=>?_,hq'.dom,hq'.inj,hq'.kept,fun c hc hx=>?_,b3,hq'.big⟩
  ·rcases hq'.heap b blk hb with h0 | ⟨c,h0,hB⟩
   ·exact .inl h0
   ·rcases h1.heap b blk hb with ⟨h0',-⟩ | ⟨c',h0',hB'⟩
    ·rw [h0'] at h0; cases h0
    ·have hlt:=hB'.lt
     rw [h0'] at h0; cases h0
     exact .inr ⟨_,h0',hB.mono hcell hG (b2 _ hlt) (fun _ _ h=>h) (.refl w') rfl⟩
  ·rw [b2 c (Nat.lt_of_lt_of_le hc h1.big)]; exact h1.marks c hc hx
 have:=hC2.put (dst:=some t) (fun t' h'=>by cases h'; exact ht) (b4.mono (fun _ _ _=>rfl) (fun _=>Nat.le_refl _) (fun b x hx=>by cases hx) (.refl w'))
 rw [hdst]
 exact hK v w' G2 u this b5
theorem Zp8 {x : Code} {Q : Exit → S → Prop} (hx : DWP P (Γ.sub w G β) x Q σ) (hC : Z05 Γ σ a w G β) {post : Exit → Act → World → Prop}
  (h : ∀ e σ' a' w' G' β',Q e σ' → Z05 Γ σ' a' w' G' β' → Z05 (Γ.sub w G β) σ' a' w' G' β' → post e a' w') : x.wp P post a w:=
 wp_mono (hx a w G β hC.sub) fun e a' w' ⟨σ',G',β',k1,k2⟩=>h e σ' a' w' G' β' k2 (hC.lift k1) k1
theorem seqS {x y : Code} {Q : Exit → S → Prop} (hx : DWP P (Γ.sub w G β) x Q σ) (hC : Z05 Γ σ a w G β) {post : Exit → Act → World → Prop}
  (hn : ∀ σ' a' w' G' β',Q .normal σ' → Z05 Γ σ' a' w' G' β' → Z05 (Γ.sub w G β) σ' a' w' G' β' → y.wp P post a' w')
  (he : ∀ e σ' a' w' G' β',e ≠ .normal → Q e σ' → Z05 Γ σ' a' w' G' β' → Z05 (Γ.sub w G β) σ' a' w' G' β' → post e a' w') : (Code.seq x y).wp P post a w:=by
 refine wp_seq (Zp8 hx hC fun e σ' a' w' G' β' h1 h2 h3=>?_)
 cases e with
 | normal=>exact hn σ' a' w' G' β' h1 h2 h3
 | _=>exact he _ σ' a' w' G' β' (by simp) h1 h2 h3
theorem DWP.noX {c : Code} {Q : Exit → S → Prop} (hσ : ∀ b,σ.heap b = none) (h : ∀ Γ : Ctx,(∀ c,¬ Γ.X c) → DWP P Γ c Q σ) : DWP P Γ c Q σ:=fun a w G β hC=>
 wp_mono (h (Γ.sub w G β) (fun c ⟨b,s,hb⟩=>by obtain ⟨k,hk⟩:=hC.dom b _ hb; rw [hσ] at hk; cases hk) a w G β hC.sub) fun _ _ _ ⟨σ',G',β',k1,k2⟩=>⟨σ',G',β',hC.lift k1,k2⟩
def RdW {T R : Type} (I : T → Act → World → Prop) (J : R → Exit → Act → World → Prop) : Ctl T R → Exit → Act → World → Prop
 | .next t',e,a,w=>e = .normal ∧ I t' a w
 | .done r,e,a,w=>e ≠ .normal ∧ J r e a w
theorem loopS {T R : Type} {c : Code} {f : T → Option (Ctl T R)} {I : T → Act → World → Prop} {J : R → Exit → Act → World → Prop} {post : Exit → Act → World → Prop}
  (round : ∀ t x,f t = some x → ∀ a w,I t a w → c.wp P (RdW I J x) a w)
  {n : Nat} {t : T} {r : R} (h : Z09 f n t = some r) (hJ : ∀ e a w,J r e a w → post e a w) {a : Act} {w : World} (hI : I t a w) : (Code.loop c).wp P post a w:=by
 refine Zt7 (fun n a w=>∃ t,Z09 f n t = some r ∧ I t a w) ?_ n a w ⟨t,h,hI⟩
 rintro n a w ⟨t,h,hC⟩
 cases n with
 | zero=>cases h
 | succ m=>
  refine ⟨m,rfl,?_⟩
  unfold Z09 at h
  cases hf : f t with
  | none=>rw [hf] at h; cases h
  | some x=>
   rw [hf] at h
   refine wp_mono (round t x hf a w hC) fun e a' w' h1=>?_
   cases x with
   | next t'=>
    obtain ⟨rfl,h2⟩:=h1
    exact ⟨t',h,h2⟩
   | done r'=>
    cases h
    obtain ⟨hne,hk⟩:=h1
    cases e with
    | normal=>exact absurd rfl hne
    | _=>exact hJ _ _ _ hk
theorem prS0 {ops : Array Oper} {told : List (Nat × Z1j)} {gs : List (Nat × Bool)} {l1 l2 : List Nat} {p : Prop} (hC : Z05 Γ σ a w G β) (h : Z7r P ops told gs l1 σ = some (σ',p)) (hp : p) {Q : Exit → Act → World → Prop}
  (hQ : ∀ a' w' G' β',Z05 Γ σ' a' w' G' β' → Z05 (Γ.sub w G β) σ' a' w' G' β' → wpOps P ops Q l2 a' w') : wpOps P ops Q (l1 ++ l2) a w:=
 Zqb l1 hC.sub h hp fun a' w' G' β' h1=>hQ a' w' G' β' (hC.lift h1) h1
namespace W
def iaN (b m : Nat) {i : Int} {j : Nat} (h : Z3m i m = some j) : GT:=
 GT.of { ans:= .val (.lptr b j 0) } (p:=0 ≤ i ∧ i < ((m : Nat) : Int) ∧ ((0 : Nat) : Int) + i = j) (Zwv h rfl)
def lnN (m : Nat) : GT:=GT.of { ans:= .val (.int .i64 m) } (p:=(m : Int) = (m : Int)) rfl
def PQ (e0 : Exit) (x : SL) : Exit → S → Prop:=fun e σ=>e = e0 ∧ Sub σ x.s
theorem pg {e0 : Exit} {ev : Ev} {x : SL} (cv : List Z4l:=[]) (ps : List (Nat × Nat):=x.ps) (hk : (Z4u cv x.ts ps σ,σ.n,et ev) = (some (x.l,x.bl),x.n,some e0):=by kernel_rfl) : E P Γ (PQ e0 x) σ ev:=by
 have h1:=congrArg Prod.fst hk
 have h2:=congrArg (fun x=>x.2.1) hk
 have h3:=congrArg (fun x=>x.2.2) hk
 dsimp only at h1 h2 h3
 have hs : Sub σ x.s:=Z76 (cv:=cv) (ps:=ps) (by rw [h1,h2])
 cases ev <;> cases h3 <;> exact ⟨⟨rfl,hs⟩⟩
theorem Z5j {x y : Code} {z : SL} (hx : ∀ {Γ : Ctx},A P Γ x [] (PQ .normal z) σ) (hC : Z05 Γ σ a w G β) {post : Exit → Act → World → Prop}
  (h : ∀ a' w' G' β',Z05 Γ z.s a' w' G' β' → Z05 (Γ.sub w G β) z.s a' w' G' β' → y.wp P post a' w') : (Code.seq x y).wp P post a w:=
 seqS (Q:=PQ .normal z) hx.h hC (fun σ' a' w' G' β' h1 _ h3=>by
  obtain ⟨G2,β2,h4⟩:=h1.2 _ _ _ _ _ h3
  exact h a' w' G2 β2 (hC.lift h4) h4) fun e σ' a' w' G' β' hne h1 _ _=>absurd h1.1 hne
theorem seqE {x y : Code} {z : SL} {e0 : Exit} (hne : e0 ≠ .normal) (hx : ∀ {Γ : Ctx},A P Γ x [] (PQ e0 z) σ) (hC : Z05 Γ σ a w G β) {post : Exit → Act → World → Prop}
  (h : ∀ a' w' G' β',Z05 Γ z.s a' w' G' β' → Z05 (Γ.sub w G β) z.s a' w' G' β' → post e0 a' w') : (Code.seq x y).wp P post a w:=
 seqS (Q:=PQ e0 z) hx.h hC (fun σ' a' w' G' β' h1 _ h3=>absurd h1.1.symm hne) fun e σ' a' w' G' β' _ h1 _ h3=>by
  obtain ⟨rfl,h1⟩:=h1
  obtain ⟨G2,β2,h4⟩:=h1 _ _ _ _ _ h3
  exact h a' w' G2 β2 (hC.lift h4) h4
theorem pieceC {x : Code} {z : SL} {e0 : Exit} (hx : ∀ {Γ : Ctx},A P Γ x [] (PQ e0 z) σ) (hC : Z05 Γ σ a w G β) {post : Exit → Act → World → Prop}
  (h : ∀ a' w' G' β',Z05 Γ z.s a' w' G' β' → Z05 (Γ.sub w G β) z.s a' w' G' β' → post e0 a' w') : x.wp P post a w:=
 Zp8 (Q:=PQ e0 z) hx.h hC fun e σ' a' w' G' β' h1 _ h3=>by
  obtain ⟨rfl,h1⟩:=h1
  obtain ⟨G2,β2,h4⟩:=h1 _ _ _ _ _ h3
  exact h a' w' G2 β2 (hC.lift h4) h4
theorem prS {ops : Array Oper} {l : List Nat} (hC : Z05 Γ σ a w G β) (m : Nat) (rs : List (Nat × GT)) {z : SL} (cv : List Z4l:=[]) (ps : List (Nat × Nat):=z.ps) {Q : Exit → Act → World → Prop}
  (h : ∀ a' w' G' β',Z05 Γ z.s a' w' G' β' → Z05 (Γ.sub w G β) z.s a' w' G' β' → wpOps P ops Q (l.drop m) a' w')
  (hk : ((Z99 P ops rs (l.take m) σ).q,Z4u cv z.ts ps (Z99 P ops rs (l.take m) σ).s,(Z99 P ops rs (l.take m) σ).s.n) = (some (Z98 rs []),some (z.l,z.bl),z.n):=by kernel_rfl) : wpOps P ops Q l a w:=by
 have k1:=congrArg Prod.fst hk
 have k2:=congrArg (fun x=>x.2.1) hk
 have k3:=congrArg (fun x=>x.2.2) hk
 dsimp only at k1 k2 k3
 unfold Z99 at k1 k2 k3
 split at k1
 ·rename_i σ1 q hr
  rw [hr] at k2 k3
  obtain ⟨p,e,hp⟩:=Zek _ hr (by cases k1; exact Zev rs trivial)
  have hs : Sub σ1 z.s:=Z76 (cv:=cv) (ps:=ps) (by rw [show Z4u cv z.ts ps σ1 = _ from k2,show σ1.n = _ from k3])
  rw [← List.take_append_drop m l]
  exact prS0 hC e hp fun a' w' G' β' _ h1=>by
   obtain ⟨G2,β2,h4⟩:=hs _ _ _ _ _ h1
   exact h a' w' G2 β2 (hC.lift h4) h4
 ·cases k1
theorem rtT {fn : Func} {ev : Ev} {cs : List D} {Q : List D → S → Prop} (hQ : Q cs σ) (hk : (fin ev,Z8h P σ fn.results.toList) = (true,some ([.agg cs],tN fn.results.size)):=by kernel_rfl) : E P Γ (EndsT P fn Q) σ ev:=by
 have h1:=congrArg Prod.fst hk
 have h2:=congrArg Prod.snd hk
 dsimp only at h1 h2
 cases ev <;> first | cases h1 | skip
 ·exact ⟨⟨.inl rfl,_,_,h2,tNi _,hQ⟩⟩
 ·exact ⟨⟨.inr rfl,_,_,h2,tNi _,hQ⟩⟩
end W
end Go.Den
