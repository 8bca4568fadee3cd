/-
  armatureref08.Decode: the whole function. No condition.
-/
import Derived.Test.YtoijcliccgjolaaGreatConF
set_option linter.unusedVariables false
namespace Go.Proofs
open Go.Den Go.Den.W
variable {Γ : Ctx} {σ σ' : S} {a a' : Act} {w w' : World} {G G' : Nat → Nat} {β β' : Nat → Option (Nat × Nat)}
def Zch (ps : List Int) (t1 : Int × (List Z01)) : Option (Ctl (Int × (List Z01)) (((List Z01)) ⊕ ((List Z01) × Int))):=
 if (decide (t1.1 < (t1.2.length : Int))) = true then
  ((Z3m t1.1 t1.2.length).bind fun v40=>
  (t1.2[v40]?).bind fun v41=>
  (Zbk v41.f_Op).bind fun v42=>
  if (!v42) = true then
   ((some (IntKind.wrap .i64 (t1.1 + (1 : Int)))).bind fun v43=>
   some (.next (v43,t1.2))) else
  ((Zbp ps v41.f_To).bind fun v46=>
   if (decide (v46 < 0)) = true then
    (some (.done (.inr (([] : List Z01),16)))) else
   ((Z09 (Z8y ps v41.Z0d.length) Z0a (0,v41.Z0d)).bind fun q5=>
    match q5 with
    | .inl q4=>((some (IntKind.wrap .i64 (t1.1 + (1 : Int)))).bind fun v60=>
     some (.next (v60,(t1.2.set v40 ({ f_Op:=v41.f_Op,f_A:=v41.f_A,f_B:=v41.f_B,f_To:=v46,Z0r:=v41.Z0r,Z0d:=q4,Z15:=v41.Z15,f_S:=v41.f_S } : Z01)))))
    | .inr y1=>(some (.done (.inr y1)))))) else
 (some (.done (.inl (t1.2))))
def Zir (q6 : (List Z01)) (t4 : Int) : Option (Ctl (Int) (Unit ⊕ ((List Z01) × Int))):=
 if (decide (t4 < (q6.length : Int))) = true then
  ((Z3m t4 q6.length).bind fun v64=>
  (q6[v64]?).bind fun v65=>
  (Z4v v65).bind fun v66=>
  if (v66 != 0) = true then
   (some (.done (.inr (([] : List Z01),v66)))) else
  ((some (IntKind.wrap .i64 (t4 + (1 : Int)))).bind fun v67=>
   some (.next v67))) else
 (some (.done (.inl (()))))
def Zbr (x0 : List UInt8) : Option ((List Z01) × Int):=
 if (decide ((x0.length : Int) > 20000)) = true then
  (some (([] : List Z01),8)) else
 ((Z09 (Zej x0) Z0a (0,([] : List Z01),([] : List Int))).bind fun q1=>
  match q1 with
  | .inl q0=>(if (decide ((q0.1.length : Int) > 1000)) = true then
    (some (([] : List Z01),5)) else
   ((Z09 (Zch q0.2) Z0a (0,q0.1)).bind fun q7=>
    match q7 with
    | .inl q6=>((Z09 (Zir q6) Z0a 0).bind fun q9=>
     match q9 with
     | .inl q8=>(some (q6,0))
     | .inr y2=>(some y2))
    | .inr y3=>(some y3)))
  | .inr y4=>(some y4))
theorem Zuq {ps : List Int} {n : Nat} {t : Int × List Int} {r : List Int ⊕ ((List Z01) × Int)} : ∀ (m : Nat) (t : Int × List Int),Z09 (Z8y ps n) m t = some r → ∀ q,r = .inl q → q.length = t.2.length
 | 0,t,h,_,_=>by cases h
 | m + 1,t,h,q,hq=>by
  unfold Z09 at h
  cases hf : Z8y ps n t with
  | none=>rw [hf] at h; cases h
  | some x=>
   rw [hf] at h
   unfold Z8y at hf
   refine sp hf (fun _ hf=>bd hf fun v57 _ hf=>bd hf fun v58 _ hf=>bd hf fun v59 _ hf=>bd hf fun v60 _ hf=>sp hf (fun _ hf=>?_) (fun _ hf=>bd hf fun v61 _ hf=>?_)) fun _ hf=>?_
   ·cases hf; cases h; cases hq
   ·cases hf
    have:=Zuq (t:=t) m _ h q hq
    rw [this]; simp
   ·cases hf; cases h; cases hq; rfl
def I2 (Γ : Ctx) (ps : List Int) (t : Int × (List Z01)) (a : Act) (w : World) : Prop:=
 ∃ ys G β loc,ys.map Prod.fst = t.2 ∧ Z05 Γ (sY2 ys.length ps t.1 ys).s a w G β ∧ Fam Γ w G β ys loc
def J2 (Γ : Ctx) (r : (List Z01) ⊕ ((List Z01) × Int)) (e : Exit) (a : Act) (w : World) : Prop:=match r with
 | .inl l=>e = .exit 2 ∧ ∃ ys G β loc,ys.map Prod.fst = l ∧ Z05 Γ (sJ2 ys.length ys).s a w G β ∧ Fam Γ w G β ys loc
 | .inr y=>∃ σ G β,Z05 Γ σ a w G β ∧ Ret y e σ
section
variable {m : Nat} {ps : List Int} {k : Int} {ys : List YI}
theorem p2A1 (h : decide (k < (m : Int)) = true) : A Tryz.prog Γ (c2A Tryz.f165) [] (PQ .normal (sY2 m ps k ys)) (sY2 m ps k ys).s:=go [] [rg 19 [(2,lnN m)]] <| bT h <| go [] [] <| pg
theorem p2A0 (h : decide (k < (m : Int)) = false) : A Tryz.prog Γ (c2A Tryz.f165) [] (PQ (.exit 2) (sJ2 m ys)) (sY2 m ps k ys).s:=go [] [rg 19 [(2,lnN m)]] <| bF h <| go [] [] <| pg
end
theorem Ok3_of {ys : List YI} (h : ∀ y ∈ ys,rawY y) : Ok3 ys:=fun y hy=>by
 obtain ⟨u,hu⟩:=h y hy
 rw [hu]; rfl
theorem Zl6 {ps : List Int} {k : Int} {kk n m : Nat} {ys : List YI} {x : Z01} {tos : List Int} (hk : Z3m k m = some kk) (hy : ys[kk]? = some (x,.lsl 777 0 n)) (h3 : Ok3 ys)
  (hC : Z05 Γ (stA m ps (k,ys,tos)).s a w G β) {r : Ctl (Int × List YI × List Int) ((List Z01) × Int)} (hm : m2R ps k kk ys x n tos = some r) {post : Exit → Act → World → Prop}
  (hn : ∀ t,r = .next t → ∀ a' w' G' β',Z05 Γ (stA m ps t).s a' w' G' β' → Z05 (Γ.sub w G β) (stA m ps t).s a' w' G' β' → post .normal a' w')
  (hr : ∀ y,r = .done y → ∀ e a' w',e ≠ .normal → (∃ σ G β,Z05 Γ σ a' w' G β ∧ Ret y e σ) → post e a' w') : (c2R Tryz.f165).wp Tryz.prog post a w:=by
 refine Zp8 (Q:=Rd (stA m ps) (jr Tryz.prog Tryz.f165 Z7p) r) (p2R hk hy h3 hm).h hC fun e σ' a' w' G' β' h1 h2 h4=>?_
 cases r with
 | next t=>
  obtain ⟨rfl,hsub⟩:=h1
  obtain ⟨G2,β2,h5⟩:=hsub _ _ _ _ _ h4
  exact hn t rfl a' w' G2 β2 (hC.lift h5) h5
 | done y=>
  obtain ⟨hne,hj⟩:=h1
  exact hr y rfl e a' w' hne ⟨σ',G',β',h2,hj⟩
theorem round2 {ps : List Int} (hX : ∀ c,¬ Γ.X c) (t : Int × (List Z01)) (x) (h : Zch ps t = some x) (a : Act) (w : World) (hI : I2 Γ ps t a w) :
  (lpC Tryz.f165 703).wp Tryz.prog (RdW (I2 Γ ps) (J2 Γ) x) a w:=by
 obtain ⟨ys,G,β,loc,hys,hC,hF⟩:=hI
 obtain ⟨k,l⟩:=t
 dsimp only at hys hC
 subst hys
 rw [c2_eq]
 unfold Zch at h
 dsimp only at h
 rw [List.length_map] at h
 refine sp h (fun h1 h=>?_) fun h1 h=>?_
 rotate_left
 ·cases h
  exact seqE (by simp) (p2A0 h1) hC fun a1 w1 G1 β1 hC1 hS1=>⟨by simp,rfl,ys,G1,β1,loc,rfl,hC1,hF.frame hS1⟩
 refine bd h fun kk e40 h=>bd h fun v e41 h=>?_
 rw [List.getElem?_map] at e41
 obtain ⟨y,hy,rfl⟩:=Z26 e41
 obtain ⟨v,d⟩:=y
 dsimp only at h
 refine Z5j (p2A1 h1) hC fun a1 w1 G1 β1 hC1 hS1=>?_
 have hF1:=hF.frame hS1
 have hkl : kk < ys.length:=(List.getElem?_eq_some_iff.1 hy).1
 obtain ⟨β2,hC2,hF2⟩:=nameY hC1 hF1 hy
 have hraw : ∀ y ∈ ys,rawY y:=fun y hy=>by
  obtain ⟨j,hj⟩:=List.mem_iff_getElem?.1 hy
  exact (hF1.mem j y hj).raw
 have hy1 : (ys.set kk (v,.lsl 777 0 v.Z0d.length))[kk]? = some (v,.lsl 777 0 v.Z0d.length):=by simp [hkl]
 have h3 : Ok3 (ys.set kk (v,.lsl 777 0 v.Z0d.length)):=(Ok3_of hraw).set _ _ _
 -- what the round leaves,taken back
 have back : ∀ (k' : Int) (x2 : Z01) (tos2 : List Int) a' w' G' β',tos2.length = v.Z0d.length → Z05 Γ (stA ys.length ps (k',ys.set kk (x2,.lsl 777 0 v.Z0d.length),tos2)).s a' w' G' β' →
   Z05 (Γ.sub w1 G1 β2) (stA ys.length ps (k',ys.set kk (x2,.lsl 777 0 v.Z0d.length),tos2)).s a' w' G' β' →
   I2 Γ ps (k',(ys.map Prod.fst).set kk { f_Op:=x2.f_Op,f_A:=x2.f_A,f_B:=x2.f_B,f_To:=x2.f_To,Z0r:=x2.Z0r,Z0d:=tos2,Z15:=x2.Z15,f_S:=x2.f_S }) a' w':=fun k' x2 tos2 a' w' G' β' hl k1 k2=>by
  obtain ⟨u,β3,loc3,q1,q2⟩:=backY (kk:=kk) (x:=x2) (loc:=loc) hX k1 (by simp [hkl]) hl (fun j y hj hyj=>by
   rw [List.getElem?_set_ne (Ne.symm hj)] at hyj
   exact (hF2 j y hj hyj).frame k2) (fun i j c hi hj hil hjl=>hF1.inj i j c hi hj (by simpa using hil) (by simpa using hjl))
  refine ⟨_,G',β3,loc3,?_,?_,q2⟩
  ·rw [List.set_set,List.map_set]
  ·rw [List.set_set] at q1 ⊢
   rw [List.length_set]
   exact q1
 refine bd h fun v42 e42 h=>?_
 refine sp h (fun h2 h=>bd h fun v43 e43 h=>?_) fun h2 h=>bd h fun v46 e46 h=>sp h (fun h4 h=>?_) fun h4 h=>bd h fun q5 e5 h=>?_
 ·-- no branch
  cases h
  have hm : m2R ps k kk (ys.set kk (v,.lsl 777 0 v.Z0d.length)) v v.Z0d.length v.Z0d = some (.next (v43,ys.set kk (v,.lsl 777 0 v.Z0d.length),v.Z0d)):=by
   unfold m2R
   rw [e42,Option.bind_some,if_pos h2,e43,Option.bind_some]
  refine Zl6 e40 hy1 h3 hC2 hm (fun t ht a' w' G' β' k1 k2=>?_) (fun y hd=>by cases hd)
  cases ht
  refine ⟨rfl,?_⟩
  have:=back v43 v v.Z0d a' w' G' β' rfl k1 k2
  have e : (ys.map Prod.fst).set kk v = ys.map Prod.fst:=by
   apply List.ext_getElem?
   intro i
   rcases Nat.decEq i kk with hne | rfl
   ·rw [List.getElem?_set_ne (Ne.symm hne)]
   ·rw [List.getElem?_set_self (by simpa using hkl),List.getElem?_map,hy]; rfl
  have e2 : ({ f_Op:=v.f_Op,f_A:=v.f_A,f_B:=v.f_B,f_To:=v.f_To,Z0r:=v.Z0r,Z0d:=v.Z0d,Z15:=v.Z15,f_S:=v.f_S } : Z01) = v:=rfl
  rw [e2,e] at this
  exact this
 ·-- no such place
  cases h
  have hm : m2R ps k kk (ys.set kk (v,.lsl 777 0 v.Z0d.length)) v v.Z0d.length v.Z0d = some (.done (([] : List Z01),16)):=by
   unfold m2R
   rw [e42,Option.bind_some,if_neg (by simpa using h2),e46,Option.bind_some,if_pos h4]
  refine Zl6 e40 hy1 h3 hC2 hm (fun t ht=>by cases ht) (fun y hd e a' w' hne hj=>?_)
  cases hd
  exact ⟨hne,hj⟩
 ·cases q5 with
  | inl q4=>
   dsimp only at h
   refine bd h fun v60 e60 h=>?_
   cases h
   have hm : m2R ps k kk (ys.set kk (v,.lsl 777 0 v.Z0d.length)) v v.Z0d.length v.Z0d = some (.next (v60,(ys.set kk (v,.lsl 777 0 v.Z0d.length)).set kk ({ f_Op:=v.f_Op,f_A:=v.f_A,f_B:=v.f_B,f_To:=v46,Z0r:=v.Z0r,Z0d:=v.Z0d,Z15:=v.Z15,f_S:=v.f_S },.lsl 777 0 v.Z0d.length),q4)):=by
    unfold m2R
    rw [e42,Option.bind_some,if_neg (by simpa using h2),e46,Option.bind_some,if_neg (by simpa using h4),e5,Option.bind_some]
    dsimp only
    rw [e60,Option.bind_some]
   refine Zl6 e40 hy1 h3 hC2 hm (fun t ht a' w' G' β' k1 k2=>?_) (fun y hd=>by cases hd)
   cases ht
   rw [List.set_set] at k1 k2
   exact ⟨rfl,back v60 _ q4 a' w' G' β' (Zuq (t:=(0,v.Z0d)) _ _ e5 q4 rfl) k1 k2⟩
  | inr y1=>
   cases h
   have hm : m2R ps k kk (ys.set kk (v,.lsl 777 0 v.Z0d.length)) v v.Z0d.length v.Z0d = some (.done y1):=by
    unfold m2R
    rw [e42,Option.bind_some,if_neg (by simpa using h2),e46,Option.bind_some,if_neg (by simpa using h4),e5,Option.bind_some]
   refine Zl6 e40 hy1 h3 hC2 hm (fun t ht=>by cases ht) (fun y hd e a' w' hne hj=>?_)
   cases hd
   exact ⟨hne,hj⟩
def Zz9 (q6 : (List Z01)) : Int → SL:=
 fun t4=>⟨130,[(4,.lsl 4 0 ((q6.map Z0i).length)),(11,dI t4)],[(4,{ sz:=10,rows:=(q6.map Z0i),frz:=0,pure:=true })]⟩
def J165x4 (q6 : (List Z01)) : JT (Unit ⊕ ((List Z01) × Int)):=
 ju (je 6 fun q8 : Unit=>⟨130,[(4,.lsl 4 0 ((q6.map Z0i).length))],[(4,{ sz:=10,rows:=(q6.map Z0i),frz:=0,pure:=true })]⟩) (jr Tryz.prog Tryz.f165 Z7p)
theorem wl165x4 {q6 : (List Z01)} {t4 : Int} {r : Ctl (Int) (Unit ⊕ ((List Z01) × Int))} {Γ : Ctx} (h : (Zir q6) t4 = some r) : A Tryz.prog Γ (lpC Tryz.f165 1407) [] (Rd (Zz9 q6) (J165x4 q6) r) ((Zz9 q6) t4).s:=
 go [] [rg 32 [(2,ln q6)]] <| br h (fun h21 h=>bd h fun v64 e68 h=>bd h fun v65 e69 h=>bd h fun v66 e70 h=>go [] [rg 34 [(2,ia 4 e68),(3,lb e69),(4,W.k (w94 e70))]] <| br h (fun h22 h=>go [] [] <| dn h (i2 iR)) fun h22 h=>
  bd h fun v67 e71 h=>go [] [rg 33 [(1,W.n e71)]] <| nx h) fun h21 h=>
 go [] [] <| dn h (i1 iE)
def d0 (f : Func) : Code:=Z4a (Z4z f)
def d1 (f : Func) : Code:=Z4a (Z2q (Z4z f))
def d3 (f : Func) : Code:=Z4a (Z2q (Z2q (Z4z f)))
def d4 (f : Func) : Code:=Z4a (Z2q (Z2q (Z2q (Z4z f))))
def dT (f : Func) : Code:=Z2q (Z2q (Z2q (Z2q (Z4z f))))
def d5 (f : Func) : Code:=Z4a (Z4a (dT f))
def d16 (f : Func) : Code:=Z4a (Z2q (dT f))
def d18 (f : Func) : Code:=Z4a (Z4a (Z2q (Z2q (dT f))))
def dZ (f : Func) : Code:=Z2q (Z2q (Z2q (dT f)))
theorem d_eq : Z4z Tryz.f165 = .seq (d0 Tryz.f165) (.seq (d1 Tryz.f165) (.seq (d3 Tryz.f165) (.seq (d4 Tryz.f165) (.seq (.seq (d5 Tryz.f165) (.block 0 (.loop (lpC Tryz.f165 175)))) (.seq (d16 Tryz.f165) (.seq (.seq (d18 Tryz.f165) (.block 2 (.loop (lpC Tryz.f165 703)))) (dZ Tryz.f165))))))):=by kernel_rfl
def s0 (x0 : List UInt8) : SL:=⟨130,[(0,.str x0)],[]⟩
def s3 (x0 : List UInt8) : SL:=⟨130,[(0,.str x0),(4,.sl true [])],[]⟩
def s4 (x0 : List UInt8) : SL:=⟨130,[(0,.str x0),(4,.sl true []),(5,.sl true [])],[]⟩
section
variable {x0 : List UInt8} {ys : List YI} {ps : List Int}
theorem q0 : A Tryz.prog Γ (d0 Tryz.f165) [] (PQ .normal (s0 x0)) (s0 x0).s:=go [] [] <| pg
theorem q1T (h : decide ((x0.length : Int) > 20000) = true) : A Tryz.prog Γ (d1 Tryz.f165) [] (Ret ([],8)) (s0 x0).s:=go [] [] <| bT h <| go [] [] <| rE
theorem q1F (h : decide ((x0.length : Int) > 20000) = false) : A Tryz.prog Γ (d1 Tryz.f165) [] (PQ .normal (s0 x0)) (s0 x0).s:=go [] [] <| bF h <| go [] [] <| pg
theorem q3 : A Tryz.prog Γ (d3 Tryz.f165) [] (PQ .normal (s3 x0)) (s0 x0).s:=go [] [] <| pg
theorem q4 : A Tryz.prog Γ (d4 Tryz.f165) [] (PQ .normal (s4 x0)) (s3 x0).s:=go [] [] <| pg
theorem q5 : A Tryz.prog Γ (d5 Tryz.f165) [] (PQ .normal (sY1 x0 0 [] [])) (s4 x0).s:=go [] [] <| pg [.tmp 4 4 10,.tmp 5 5 1]
theorem q16T (h : decide ((ys.length : Int) > 1000) = true) : A Tryz.prog Γ (d16 Tryz.f165) [] (Ret ([],5)) (sJ1 ys ps).s:=go [] [rg 16 [(1,ln ys)]] <| bT h <| go [] [] <| rE
theorem q16F (h : decide ((ys.length : Int) > 1000) = false) : A Tryz.prog Γ (d16 Tryz.f165) [] (PQ .normal (sJ1 ys ps)) (sJ1 ys ps).s:=go [] [rg 16 [(1,ln ys)]] <| bF h <| go [] [] <| pg
theorem q18 : A Tryz.prog Γ (d18 Tryz.f165) [] (PQ .normal (sY2 (ys.map Z2w).length ps 0 ys)) (sJ1 ys ps).s:=go [] [] <| pg
end
theorem qZ {l : List Z01} {r : (List Z01) × Int} (h : ((Z09 (Zir l) Z0a 0).bind fun q9=>
     match q9 with
     | .inl q8=>(some (l,0))
     | .inr y2=>(some y2)) = some r) : A Tryz.prog Γ (dZ Tryz.f165) [] (Go.Den.Ends Tryz.prog Tryz.f165 (Z7p r)) (sJ3 (l.map Z0i).length l).s:=
 go [] [] <| bd h fun q9 e72 h=>lp e72 wl165x4 <| match q9,h with
  | .inl q8,h=>j1 <| (qe <| goN [] [] <| rtB h (.tup [rw_ l,dI 0]) (a2 (rpI l) (a2 trivial trivial)) (by simp only [rwE] <;> kernel_rfl))
  | .inr y2,h=>j2 <| (qr h)
theorem inB {id : Nat} {Q : Exit → Act → World → Prop} (h : Q .normal a w) : Exit.inBlock id Q (.exit id) a w:=by
 show (if id = id then Q .normal a w else Q (.exit id) a w)
 rw [if_pos rfl]
 exact h
theorem Zkd {y r : (List Z01) × Int} (he : some y = some r) {e : Exit} (h : Ret y e σ) : e = .ret ∧ Go.Den.Ends Tryz.prog Tryz.f165 (Z7p r) .ret σ:=by
 cases he; exact h
theorem body153 {x0 : List UInt8} {r : (List Z01) × Int} (h : Zbr x0 = some r) (hX : ∀ c,¬ Γ.X c) : DWP Tryz.prog Γ (Z4z Tryz.f165) (Go.Den.Ends Tryz.prog Tryz.f165 (Z7p r)) (s0 x0).s:=fun a w G β hC=>by
 rw [d_eq]
 unfold Zbr at h
 refine Z5j q0 hC fun a1 w1 G1 β1 hC1 _=>?_
 refine sp h (fun h1 h=>?_) fun h1 h=>?_
 ·refine Zkc (q1T h1) hC1 fun a' w' ⟨σ',G',β',k1,k2⟩=>?_
  obtain ⟨-,k3⟩:=Zkd h k2
  exact ⟨σ',G',β',k1,k3⟩
 refine bd h fun t1 e1 h=>?_
 refine Z5j (q1F h1) hC1 fun a2 w2 G2 β2 hC2 _=>?_
 refine Z5j q3 hC2 fun a3 w3 G3 β3 hC3 _=>?_
 refine Z5j q4 hC3 fun a4 w4 G4 β4 hC4 _=>?_
 refine wp_seq (Z5j q5 hC4 fun a5 w5 G5 β5 hC5 _=>wp_block ?_)
 refine loopS (I:=I1 Γ x0) (J:=J1 Γ) round1 e1 (fun e a6 w6 hJ=>?_) ⟨[],G5,β5,_,rfl,hC5,Fam.none⟩
 cases t1 with
 | inr y=>
  obtain ⟨σ',G',β',k1,k2⟩:=hJ
  obtain ⟨rfl,k3⟩:=Zkd h k2
  exact ⟨σ',G',β',k1,k3⟩
 | inl q0=>
  obtain ⟨rfl,ys,G6,β6,loc,hys,hC6,hF6⟩:=hJ
  obtain ⟨l,ps⟩:=q0
  dsimp only at hys hC6 h
  subst hys
  refine inB ?_
  show Code.wp _ _ _ _ _
  rw [List.length_map] at h
  refine sp h (fun h2 h=>?_) fun h2 h=>?_
  ·refine Zkc (q16T h2) hC6 fun a' w' ⟨σ',G',β',k1,k2⟩=>?_
   obtain ⟨-,k3⟩:=Zkd h k2
   exact ⟨σ',G',β',k1,k3⟩
  refine bd h fun t2 e2 h=>?_
  refine Z5j (q16F h2) hC6 fun a7 w7 G7 β7 hC7 hS7=>?_
  have hF7:=hF6.frame hS7
  refine wp_seq (Z5j q18 hC7 fun a8 w8 G8 β8 hC8 hS8=>wp_block ?_)
  have hF8:=hF7.frame hS8
  rw [List.length_map] at hC8
  refine loopS (I:=I2 Γ ps) (J:=J2 Γ) (round2 hX) e2 (fun e a9 w9 hJ=>?_) ⟨ys,G8,β8,loc,rfl,hC8,hF8⟩
  cases t2 with
  | inr y=>
   obtain ⟨σ',G',β',k1,k2⟩:=hJ
   obtain ⟨rfl,k3⟩:=Zkd h k2
   exact ⟨σ',G',β',k1,k3⟩
  | inl l=>
   obtain ⟨rfl,ys2,G9,β9,loc9,hys,hC9,hF9⟩:=hJ
   subst hys
   refine inB ?_
   show Code.wp _ _ _ _ _
   obtain ⟨G10,hC10⟩:=finY hC9 hF9
   rw [show ys2.length = ((ys2.map Prod.fst).map Z0i).length by simp] at hC10
   exact (qZ h).h a9 w9 G10 β9 hC10
theorem w165 {x0 : List UInt8} {r : (List Z01) × Int} (h : Zbr x0 = some r) : Z0c Tryz.prog 165 [.str x0] (Z7p r):=
 Z0c.mk (fn:=Tryz.f165) (c:=Z4z Tryz.f165) (by kernel_rfl) (by kernel_rfl) (by kernel_rfl) (Nat.le_of_ble_eq_true (by kernel_rfl)) fun Γ=>DWP.noX (fun b=>rfl) fun Γ hX=>body153 h hX
end Go.Proofs
