/-
  armatureref08.Decode, its first loop: the instructions stand in a block, the targets of Z67 in a block without a name. By hand. No condition.
-/
import Derived.Test.YtoijcliccgjolaaGreatConB
set_option linter.unusedVariables false
namespace Go.Proofs
open Go.Den Go.Den.W
def Z7p (y0 : (List Z01) × Int) : D:= .tup [.sl false (y0.1.map Z0i),.int .i64 y0.2]
def Zej (x0 : List UInt8) (t0 : Int × (List Z01) × (List Int)) : Option (Ctl (Int × (List Z01) × (List Int)) (((List Z01) × (List Int)) ⊕ ((List Z01) × Int))):=
 if (decide (t0.1 < (x0.length : Int))) = true then
  ((Z2x x0 t0.1).bind fun v14=>
  (some (IntKind.wrap .i64 v14)).bind fun v15=>
  if (decide (v15 ≥ 81)) = true then
   (some (.done (.inr (([] : List Z01),15)))) else
  ((Ze3 x0 t0.1 v15).bind fun v16=>
   if (decide (v16 < 0)) = true then
    (some (.done (.inr (([] : List Z01),3)))) else
   ((Zi2 x0 t0.1 v15).bind fun v17=>
    (Z20 144 (t0.2.1 ++ [v17]).length).bind fun v18=>
    (Z20 8 (t0.2.2 ++ [t0.1]).length).bind fun v19=>
    (some (IntKind.wrap .i64 (t0.1 + v16))).bind fun v20=>
    some (.next (v20,(t0.2.1 ++ [v17]),(t0.2.2 ++ [t0.1])))))) else
 (some (.done (.inl ((t0.2.1,t0.2.2)))))
abbrev YI:=Z01 × D
def Z2w (y : YI) : List D:=Z8p y.1 ++ y.2 :: Z8g y.1
instance rowYI : Row YI:=⟨Z2w,10,fun _=>rfl⟩
def Mem (Γ : Ctx) (w : World) (G : Nat → Nat) (β : Nat → Option (Nat × Nat)) (y : YI) : Option Nat → Prop
 | none=>∃ x,y.2 = .raw (.slice x 0 0) ∧ y.1.Z0d = []
 | some c=>∃ cap,y.2 = .raw (.slice (some ⟨c,0,none⟩) y.1.Z0d.length cap) ∧ y.1.Z0d.length ≤ cap ∧ Z4o w c y.1.Z0d cap ∧ G c = 0 ∧ Γ.B ≤ c ∧ ∀ b s,β b ≠ some (c,s)
structure Fam (Γ : Ctx) (w : World) (G : Nat → Nat) (β : Nat → Option (Nat × Nat)) (ys : List YI) (loc : Nat → Option Nat) : Prop where
 mem : ∀ (k : Nat) y,ys[k]? = some y → Mem Γ w G β y (loc k)
 inj : ∀ j k c,loc j = some c → loc k = some c → j < ys.length → k < ys.length → j = k
variable {Γ : Ctx} {σ σ' : S} {a a' : Act} {w w' : World} {G G' : Nat → Nat} {β β' : Nat → Option (Nat × Nat)}
theorem Z4o.lt {c : Nat} {l : List Int} {cap : Nat} (h : Z4o w c l cap) : c < w.heap.size:=by
 obtain ⟨vs,e,fr,h1,-⟩:=h
 exact (Array.getElem?_eq_some_iff.1 h1).1
theorem Mem.frame {y : YI} {o : Option Nat} (h : Mem Γ w G β y o) (hC : Z05 (Γ.sub w G β) σ' a' w' G' β') : Mem Γ w' G' β' y o:=by
 cases o with
 | none=>exact h
 | some c=>
  obtain ⟨cap,h1,h2,h3,h4,h5,h6⟩:=h
  obtain ⟨k1,k2,k3⟩:=hC.frame (Z4o.lt h3) h6
  exact ⟨cap,h1,h2,h3.same k1,k2.trans h4,h5,k3⟩
theorem Fam.frame {ys : List YI} {loc : Nat → Option Nat} (h : Fam Γ w G β ys loc) (hC : Z05 (Γ.sub w G β) σ' a' w' G' β') : Fam Γ w' G' β' ys loc:=
 ⟨fun k y hk=>(h.mem k y hk).frame hC,h.inj⟩
theorem Fam.none : Fam Γ w G β [] (fun _=>none):=⟨fun k y h=>(by simp at h),fun j k c h=>(by cases h)⟩
theorem Fam.snoc1 {ys : List YI} {loc : Nat → Option Nat} (h : Fam Γ w G β ys loc) {y : YI} {o : Option Nat} (hm : Mem Γ w G β y o) (hn : ∀ k c,o = some c → k < ys.length → loc k ≠ some c) :
  Fam Γ w G β (ys ++ [y]) (fun k=>if k = ys.length then o else loc k):=by
 refine ⟨fun k z hk=>?_,fun j k c hj hk h1 h2=>?_⟩
 ·rcases Nat.lt_trichotomy k ys.length with h1 | h1 | h1
  ·rw [List.getElem?_append_left h1] at hk
   rw [if_neg (by omega)]
   exact h.mem k z hk
  ·subst h1
   rw [List.getElem?_append_right (Nat.le_refl _),Nat.sub_self] at hk
   cases hk
   rw [if_pos rfl]
   exact hm
  ·rw [List.getElem?_eq_none (by simp; omega)] at hk
   cases hk
 ·simp only [List.length_append,List.length_cons,List.length_nil] at h1 h2
  split at hj
  ·split at hk
   ·omega
   ·exact absurd hk (hn k c hj (by omega))
  ·split at hk
   ·exact absurd hj (hn j c hk (by omega))
   ·exact h.inj j k c hj hk (by omega) (by omega)
theorem Fam.snoc {ys : List YI} {loc : Nat → Option Nat} (h : Fam Γ w G β ys loc) (h0 : Z05 Γ σ a w G β) (hC : Z05 (Γ.sub w G β) σ' a' w' G' β) {x : Z01} {u : Value} (hu : Z80 w' G' w.heap.size u x.Z0d) :
  ∃ loc',Fam Γ w' G' β (ys ++ [(x,.raw u)]) loc':=by
 have h1:=h.frame hC
 generalize ht : x.Z0d = l at hu
 cases hu with
 | nil z=>exact ⟨_,h1.snoc1 (o:=Option.none) ⟨z,rfl,ht⟩ (fun k c hc=>by cases hc)⟩
 | blk c cap _ hcap hi hG hB=>
  refine ⟨_,h1.snoc1 (o:=some c) ⟨cap,?_,?_,?_,hG,Nat.le_trans h0.big hB,fun b s hb=>?_⟩ fun k c' hc hk hl=>?_⟩
  ·show D.raw _ = _
   rw [← ht]
  ·show x.Z0d.length ≤ cap
   rw [ht]; exact hcap
  ·show Z4o w' c x.Z0d cap
   rw [ht]; exact hi
  ·have:=(h0.owned hb).2
   omega
  ·cases hc
   obtain ⟨y,hy⟩ : ∃ y,ys[k]? = some y:=⟨_,List.getElem?_eq_getElem hk⟩
   have hm:=h.mem k y hy
   rw [hl] at hm
   obtain ⟨cap',-,-,h3,-⟩:=hm
   have:=Z4o.lt h3
   omega
theorem rE {P : Program} {fn : Func} {R : Type} {res : R → D} {y : R} {ev : Ev} (hk : (et ev,Z9o P fn σ) = (some .ret,some (res y,tN fn.results.size ∧ pR (res y))):=by kernel_rfl) : E P Γ (fun e σ=>e = .ret ∧ Go.Den.Ends P fn (res y) .ret σ) σ ev:=by
 have h1:=congrArg Prod.fst hk
 have h2:=congrArg Prod.snd hk
 dsimp only at h1 h2
 cases ev <;> cases h1
 exact ⟨⟨rfl,.inl rfl,_,h2,tNi _,pRi _⟩⟩
def bI (ys : List YI) : Nat × Blk:=(4,{ sz:=10,rows:=ys.map Z2w,frz:=0,pure:=true })
def bP (ps : List Int) : Nat × Blk:=(5,{ sz:=1,rows:=ps.map Z03,frz:=0,pure:=true })
def tI (ys : List YI) : Nat × D:=(4,.lsl 4 0 (ys.map Z2w).length)
def tP (ps : List Int) : Nat × D:=(5,.lsl 5 0 (ps.map Z03).length)
def sY1 (x0 : List UInt8) (at_ : Int) (ys : List YI) (ps : List Int) : SL:=⟨130,[(0,.str x0),tI ys,tP ps,(6,dI at_)],[bI ys,bP ps]⟩
def sY1b (x0 : List UInt8) (at_ v15 : Int) (ys : List YI) (ps : List Int) : SL:=⟨130,[(0,.str x0),tI ys,tP ps,(6,dI at_),(7,dI v15)],[bI ys,bP ps]⟩
def sY1d (x0 : List UInt8) (at_ v15 v16 : Int) (ys : List YI) (ps : List Int) : SL:=⟨130,[(0,.str x0),tI ys,tP ps,(6,dI at_),(7,dI v15),(8,dI v16)],[bI ys,bP ps]⟩
def sY1e (x0 : List UInt8) (at_ v15 v16 : Int) (ys : List YI) (ps : List Int) : SL:=⟨130,[(0,.str x0),tI ys,tP ps,(6,dI at_),(7,dI v15),(8,dI v16),(32,.lsl 4 0 (ys.map Z2w).length),(33,.str x0),(34,dI at_),(35,dI v15)],[bI ys,bP ps]⟩
def sJ1 (ys : List YI) (ps : List Int) : SL:=⟨130,[tI ys,tP ps],[bI ys,bP ps]⟩
def c1A (f : Func) : Code:=Z4a (lpC f 175)
def c1 (f : Func) : Code:=Z4a (Z2q (lpC f 175))
def c1B (f : Func) : Code:=Z4a (c1 f)
def c1C (f : Func) : Code:=Z4a (Z2q (c1 f))
def c1D (f : Func) : Code:=Z4a (Z2q (Z2q (c1 f)))
def c1E (f : Func) : Code:=Z4a (Z2q (Z2q (Z2q (c1 f))))
def c1F (f : Func) : Code:=Z4a (Z2q (Z2q (Z2q (Z2q (c1 f)))))
def c1G (f : Func) : Code:=Z2q (Z2q (Z2q (Z2q (Z2q (c1 f)))))
theorem b1_eq : lpC Tryz.f165 175 = .seq (c1A Tryz.f165) (.block 1 (.seq (c1B Tryz.f165) (.seq (c1C Tryz.f165) (.seq (c1D Tryz.f165) (.seq (c1E Tryz.f165) (.seq (c1F Tryz.f165) (c1G Tryz.f165))))))):=by kernel_rfl
theorem c1F_eq : (c1F Tryz.f165) = .region 13 (Z7q (c1F Tryz.f165)) false:=by kernel_rfl
def Ret (y : (List Z01) × Int) : Exit → S → Prop:=fun e σ=>e = .ret ∧ Go.Den.Ends Tryz.prog Tryz.f165 (Z7p y) .ret σ
section
variable {x0 : List UInt8} {at_ v14 v15 v16 v20 : Int} {ys : List YI} {ps : List Int}
theorem p1A1 (h : decide (at_ < (x0.length : Int)) = true) : A Tryz.prog Γ (c1A Tryz.f165) [] (PQ .normal (sY1 x0 at_ ys ps)) (sY1 x0 at_ ys ps).s:=go [] [] <| bT h <| go [] [] <| pg
theorem p1A0 (h : decide (at_ < (x0.length : Int)) = false) : A Tryz.prog Γ (c1A Tryz.f165) [] (PQ (.exit 0) (sJ1 ys ps)) (sY1 x0 at_ ys ps).s:=go [] [] <| bF h <| go [] [] <| pg
theorem p1B (h : Z2x x0 at_ = some v14) (h2 : some (IntKind.wrap .i64 v14) = some v15) : A Tryz.prog Γ (c1B Tryz.f165) [] (PQ .normal (sY1b x0 at_ v15 ys ps)) (sY1 x0 at_ ys ps).s:=go [] [rg 7 [(2,ib h),(3,n h2)]] <| pg
theorem p1C1 (h : decide (v15 ≥ 81) = true) : A Tryz.prog Γ (c1C Tryz.f165) [] (Ret ([],15)) (sY1b x0 at_ v15 ys ps).s:=go [] [] <| bT h <| go [] [] <| rE
theorem p1C0 (h : decide (v15 ≥ 81) = false) : A Tryz.prog Γ (c1C Tryz.f165) [] (PQ .normal (sY1b x0 at_ v15 ys ps)) (sY1b x0 at_ v15 ys ps).s:=go [] [] <| bF h <| go [] [] <| pg
theorem p1D (h : Ze3 x0 at_ v15 = some v16) : A Tryz.prog Γ (c1D Tryz.f165) [] (PQ .normal (sY1d x0 at_ v15 v16 ys ps)) (sY1b x0 at_ v15 ys ps).s:=go [] [rg 10 [(3,k (w175 h))]] <| pg
theorem p1E1 (h : decide (v16 < 0) = true) : A Tryz.prog Γ (c1E Tryz.f165) [] (Ret ([],3)) (sY1d x0 at_ v15 v16 ys ps).s:=go [] [] <| bT h <| go [] [] <| rE
theorem p1E0 (h : decide (v16 < 0) = false) : A Tryz.prog Γ (c1E Tryz.f165) [] (PQ .normal (sY1d x0 at_ v15 v16 ys ps)) (sY1d x0 at_ v15 v16 ys ps).s:=go [] [] <| bF h <| go [] [] <| pg
theorem p1G {u : Unit} (h : Z20 8 (ps ++ [at_]).length = some u) (h2 : some (IntKind.wrap .i64 (at_ + v16)) = some v20) : A Tryz.prog Γ (c1G Tryz.f165) [] (PQ .normal (sY1 x0 v20 ys (ps ++ [at_]))) (sY1d x0 at_ v15 v16 ys ps).s:=
 go [] [rg 14 [(2,br0 1 0),(3,ap h)],rg 15 [(2,n h2)]] <| pg
end
def o13 (f : Func) : Option Oper:=(Z7q (c1F f))[4]?
theorem Zsm : (o13 Tryz.f165).isSome = true:=by kernel_rfl
def o13g (f : Func) (h : (o13 f).isSome = true) : Oper:=(o13 f).get h
theorem o13_eq : (Z7q (c1F Tryz.f165))[4]? = some (o13g Tryz.f165 Zsm):=(Option.some_get Zsm).symm
def I1 (Γ : Ctx) (x0 : List UInt8) (t : Int × (List Z01) × (List Int)) (a : Act) (w : World) : Prop:=
 ∃ ys G β loc,ys.map Prod.fst = t.2.1 ∧ Z05 Γ (sY1 x0 t.1 ys t.2.2).s a w G β ∧ Fam Γ w G β ys loc
def J1 (Γ : Ctx) (r : ((List Z01) × (List Int)) ⊕ ((List Z01) × Int)) (e : Exit) (a : Act) (w : World) : Prop:=match r with
 | .inl q=>e = .exit 0 ∧ ∃ ys G β loc,ys.map Prod.fst = q.1 ∧ Z05 Γ (sJ1 ys q.2).s a w G β ∧ Fam Γ w G β ys loc
 | .inr y=>∃ σ G β,Z05 Γ σ a w G β ∧ Ret y e σ
theorem Zkc {x y : Code} {z : (List Z01) × Int} (hx : ∀ {Γ : Ctx},A Tryz.prog Γ x [] (Ret z) σ) (hC : Z05 Γ σ a w G β) {post : Exit → Act → World → Prop}
  (h : ∀ a' w',J1 Γ (.inr z) .ret a' w' → post .ret a' w') : (Code.seq x y).wp Tryz.prog post a w:=
 seqS (Q:=Ret z) hx.h hC (fun σ' a' w' G' β' h1 _ _=>absurd h1.1 (by simp)) fun e σ' a' w' G' β' _ h1 h2 _=>by
  obtain ⟨rfl,h1⟩:=h1
  exact h a' w' ⟨σ',G',β',h2,rfl,h1⟩
theorem round1 {x0 : List UInt8} (t : Int × (List Z01) × (List Int)) (x) (h : Zej x0 t = some x) (a : Act) (w : World) (hI : I1 Γ x0 t a w) :
  (lpC Tryz.f165 175).wp Tryz.prog (RdW (I1 Γ x0) (J1 Γ) x) a w:=by
 obtain ⟨ys,G,β,loc,hys,hC,hF⟩:=hI
 obtain ⟨at_,l,ps⟩:=t
 dsimp only at hys hC
 subst hys
 rw [b1_eq]
 unfold Zej at h
 dsimp only at h
 refine sp h (fun h1 h=>?_) fun h1 h=>?_
 rotate_left
 ·cases h
  exact seqE (by simp) (p1A0 h1) hC fun a1 w1 G1 β1 hC1 hS1=>⟨by simp,rfl,ys,G1,β1,loc,rfl,hC1,hF.frame hS1⟩
 refine bd h fun v14 e14 h=>bd h fun v15 e15 h=>?_
 refine Z5j (p1A1 h1) hC fun a1 w1 G1 β1 hC1 hS1=>wp_block ?_
 have hF1:=hF.frame hS1
 refine Z5j (p1B e14 e15) hC1 fun a2 w2 G2 β2 hC2 hS2=>?_
 have hF2:=hF1.frame hS2
 refine sp h (fun h2 h=>?_) fun h2 h=>?_
 ·cases h
  exact Zkc (p1C1 h2) hC2 fun a' w' hJ=>⟨by simp,hJ⟩
 refine bd h fun v16 e16 h=>?_
 refine Z5j (p1C0 h2) hC2 fun a3 w3 G3 β3 hC3 hS3=>?_
 have hF3:=hF2.frame hS3
 refine Z5j (p1D e16) hC3 fun a4 w4 G4 β4 hC4 hS4=>?_
 have hF4:=hF3.frame hS4
 refine sp h (fun h3 h=>?_) fun h3 h=>?_
 ·cases h
  exact Zkc (p1E1 h3) hC4 fun a' w' hJ=>⟨by simp,hJ⟩
 refine bd h fun v17 e17 h=>bd h fun v18 e18 h=>bd h fun v19 e19 h=>bd h fun v20 e20 h=>?_
 refine Z5j (p1E0 h3) hC4 fun a5 w5 G5 β5 hC5 hS5=>?_
 have hF5:=hF4.frame hS5
 cases h
 rw [c1F_eq]
 refine wp_seq (wp_region ?_)
 refine prS (l:=List.range (Z7q (c1F Tryz.f165)).size) hC5 4 [] (z:=sY1e x0 at_ v15 v16 ys ps) (h:=fun a6 w6 G6 β6 hC6 hS6=>?_)
 have hF6:=hF5.frame hS6
 rw [show (List.range (Z7q (c1F Tryz.f165)).size).drop 4 = [4,5,6,7] by kernel_rfl,wpOps_cons]
 refine Y2s (hC6.sub) o13_eq (by kernel_rfl) (fo:= .func 176) (args:=#[.tmp 33,.tmp 34,.tmp 35]) (ts:=#[9,3,3]) (by kernel_rfl) (f:=176) (by kernel_rfl) (ds:=[.str x0,dI at_,dI v15]) (p:=True ∧ (True ∧ (True ∧ True))) (by kernel_rfl) ⟨trivial,trivial,trivial,trivial⟩
  (t:=36) (by kernel_rfl) (Nat.le_of_ble_eq_true (by kernel_rfl)) (t164 e17) fun v w7 G7 u hS7 hfr=>?_
 obtain ⟨loc7,hF7⟩:=hF6.snoc hC6 hS7 hfr
 have hC7:=hC6.lift hS7
 have hg : Z20 144 (ys ++ [((v17,.raw u) : YI)]).length = some v18:=by rw [← e18]; congr 1; simp
 refine prS hC7 3 [(5,br0 1 10),(6,ap hg)] (z:=sY1d x0 at_ v15 v16 (ys ++ [(v17,.raw u)]) ps) (h:=fun a8 w8 G8 β8 hC8 hS8=>?_)
 have hF8:=hF7.frame hS8
 show Exit.then _ _ .normal _ _
 refine pieceC (p1G e19 e20) hC8 fun a9 w9 G9 β9 hC9 hS9=>⟨rfl,_,G9,β9,loc7,?_,hC9,hF8.frame hS9⟩
 simp
end Go.Proofs
