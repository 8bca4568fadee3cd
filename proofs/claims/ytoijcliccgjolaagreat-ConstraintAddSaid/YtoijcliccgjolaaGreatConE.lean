/-
  armatureref08.Decode, a round of its second loop, the targets of its instruction named. No condition.
-/
import Derived.Test.YtoijcliccgjolaaGreatConC
set_option linter.unusedVariables false
namespace Go.Proofs
open Go.Den Go.Den.W
variable {Γ : Ctx} {σ σ' : S} {a a' : Act} {w w' : World} {G G' : Nat → Nat} {β β' : Nat → Option (Nat × Nat)}
def Z8y (ps : List Int) (n : Nat) (t : Int × List Int) : Option (Ctl (Int × List Int) (List Int ⊕ ((List Z01) × Int))):=
 if (decide (t.1 < (n : Int))) = true then
  ((Z3m t.1 n).bind fun v57=>
  (t.2[v57]?).bind fun v58=>
  (Zbp ps v58).bind fun v59=>
  ((t.2.set v57 v59)[v57]?).bind fun v60=>
  if (decide (v60 < 0)) = true then
   (some (.done (.inr (([] : List Z01),16)))) else
  ((some (IntKind.wrap .i64 (t.1 + (1 : Int)))).bind fun v61=>
   some (.next (v61,t.2.set v57 v59)))) else
 (some (.done (.inl t.2)))
def m2R (ps : List Int) (k : Int) (kk : Nat) (ys : List YI) (x : Z01) (n : Nat) (tos : List Int) : Option (Ctl (Int × List YI × List Int) ((List Z01) × Int)):=
 (Zbk x.f_Op).bind fun v42=>
 if (!v42) = true then
  ((some (IntKind.wrap .i64 (k + (1 : Int)))).bind fun v43=>
  some (.next (v43,ys,tos))) else
 ((Zbp ps x.f_To).bind fun v46=>
  if (decide (v46 < 0)) = true then
   (some (.done (([] : List Z01),16))) else
  ((Z09 (Z8y ps n) Z0a (0,tos)).bind fun q5=>
   match q5 with
   | .inl q4=>((some (IntKind.wrap .i64 (k + (1 : Int)))).bind fun v60=>
    some (.next (v60,ys.set kk ({ f_Op:=x.f_Op,f_A:=x.f_A,f_B:=x.f_B,f_To:=v46,Z0r:=x.Z0r,Z0d:=x.Z0d,Z15:=x.Z15,f_S:=x.f_S },.lsl 777 0 n),q4)))
   | .inr y1=>(some (.done y1))))
def qs3 : List (Nat × Nat):=[(4,4),(5,5),(777,777)]
def Ok3 (ys : List YI) : Prop:=∀ y ∈ ys,y.2.renA qs3 = y.2
theorem ren3 {ys : List YI} (h : Ok3 ys) : (ys.map Z2w).map (·.map (D.renA qs3)) = ys.map Z2w:=by
 rw [List.map_map]
 refine List.map_congr_left fun y hy=>?_
 have:=h y hy
 show [_,_,_,_,_,y.2.renA qs3,_,_,_,_] = _
 rw [this]
 rfl
theorem Ok3.set {ys : List YI} (h : Ok3 ys) (k : Nat) (x : Z01) (n : Nat) : Ok3 (ys.set k (x,.lsl 777 0 n)):=fun y hy=>by
 rcases List.mem_or_eq_of_mem_set hy with h1 | rfl
 ·exact h y h1
 ·rfl
def bY (rows : List (List D)) : Nat × Blk:=(4,{ sz:=10,rows,frz:=0,pure:=false })
def bTo (tos : List Int) : Nat × Blk:=(777,Z4q tos none)
def ren (rows : List (List D)) : List (List D):=rows.map (·.map (D.renA qs3))
def sA (m : Nat) (ps : List Int) (k : Int) (rows : List (List D)) (tos : List Int) : SL:=⟨130,[(4,.lsl 4 0 m),tP ps,(9,dI k)],[bY rows,bP ps,bTo tos]⟩
def sB (m : Nat) (ps : List Int) (k j : Int) (rows : List (List D)) (tos : List Int) : SL:=⟨130,[(4,.lsl 4 0 m),tP ps,(9,dI k),(10,dI j)],[bY rows,bP ps,bTo tos]⟩
def stA (m : Nat) (ps : List Int) : Int × List YI × List Int → SL:=fun t=>sA m ps t.1 (t.2.1.map Z2w) t.2.2
def stB (m : Nat) (ps : List Int) (k : Int) (ys : List YI) : Int × List Int → SL:=fun t=>sB m ps k t.1 (ys.map Z2w) t.2
def JB (m : Nat) (ps : List Int) (k : Int) (ys : List YI) : JT (List Int ⊕ ((List Z01) × Int)):=
 ju (je 4 fun tos : List Int=>sA m ps k (ys.map Z2w) tos) (jr Tryz.prog Tryz.f165 Z7p)
theorem wl165x3 {m n kk : Nat} {ps : List Int} {k : Int} {ys : List YI} {x : Z01} (hk : Z3m k m = some kk) (hy : ys[kk]? = some (x,.lsl 777 0 n)) (h3 : Ok3 ys) {t : Int × List Int} {r : Ctl (Int × List Int) (List Int ⊕ ((List Z01) × Int))} {Γ : Ctx} (h : Z8y ps n t = some r) :
  A Tryz.prog Γ (lpC Tryz.f165 386239) [] (Rd (stB m ps k ys) (JB m ps k ys) r) (stB m ps k ys t).s:=
 go [] [rg 26 [(3,iaN 4 m hk),(5,lb hy),(6,lnN n)]] <| br h (fun h1 h=>bd h fun v57 e57 h=>bd h fun v58 e58 h=>bd h fun v59 e59 h=>bd h fun v60 e60 h=>
  go [] [rgo 28 [(2,iaN 4 m hk),(4,lb hy),(9,iaN 4 m hk),(11,lb hy),(13,iaN 777 n e57),(14,lb e58),(15,kB (a2 (rpI ps) (a2 trivial trivial)) [rw_ ps,dI v58] (by simp only [rwE] <;> kernel_rfl) (w177 e59)),(16,iaN 777 n e57),(17,st e58 0 [dI v59] v59)]
   [0,1,2,3,4,5,6,7,8,9,10,11,12,13,14,15,16,17] [17] [(2,[0,1]),(3,[0,1,2]),(4,[0,1,2,3]),(9,[7,8]),(10,[7,8,9]),(11,[7,8,9,10]),(13,[7,8,9,10,11,12]),(14,[7,8,9,10,11,12,13]),(15,[6,7,8,9,10,11,12,13,14]),(16,[0,1,2,3,4,5,6,7,8,9,10,11,12,13,14,15]),(17,[0,1,2,3,4,5,6,7,8,9,10,11,12,13,14,15,16])],
   rg 29 [(2,iaN 4 m hk),(4,lb hy),(6,iaN 777 n e57),(7,lb e60)]] <| br h (fun h2 h=>go [] [] <| dn h (i2 iR)) fun h2 h=>
   bd h fun v61 e61 h=>go [] [rg 27 [(1,W.n e61)]] <| nxE (y:=sB m ps k v61 (ren (ys.map Z2w)) (t.2.set v57 v59)) h (congrArg (fun r=>sB m ps k v61 r (t.2.set v57 v59)) (ren3 h3))) fun h1 h=>
 go [] [] <| dn h (i1 (iEE (y:=sA m ps k (ren (ys.map Z2w)) t.2) (congrArg (fun r=>sA m ps k r t.2) (ren3 h3))))
def c2A (f : Func) : Code:=Z4a (lpC f 703)
def c2R (f : Func) : Code:=Z2q (lpC f 703)
theorem c2_eq : lpC Tryz.f165 703 = .seq (c2A Tryz.f165) (c2R Tryz.f165):=by kernel_rfl
theorem lpE {P : Program} {T R : Type} {Q : Exit → S → Prop} {ev : Ev} {c : Code} {f : T → Option (Ctl T R)} {st : T → SL} {J : JT R} {n : Nat} {t : T} {r : R} {y : SL} (hm : Z09 f n t = some r)
  (hw : ∀ {t x} {Γ : Ctx},f t = some x → A P Γ c [] (Rd st J x) (st t).s) (hQ : JQ P Γ (ek ev) Q J r) (he : y = st t)
  (hk : (Z4u [] y.ts y.ps σ,σ.n,ev) = (some (y.l,y.bl),y.n,.loop c (ek ev)):=by kernel_rfl) : E P Γ Q σ ev:=by
 subst he
 exact lp hm hw hQ [] _ hk
theorem p2R {m n kk : Nat} {ps tos : List Int} {k : Int} {ys : List YI} {x : Z01} (hk : Z3m k m = some kk) (hy : ys[kk]? = some (x,.lsl 777 0 n)) (h3 : Ok3 ys) {r : Ctl (Int × List YI × List Int) ((List Z01) × Int)} {Γ : Ctx} (h : m2R ps k kk ys x n tos = some r) :
  A Tryz.prog Γ (c2R Tryz.f165) [] (Rd (stA m ps) (jr Tryz.prog Tryz.f165 Z7p) r) (stA m ps (k,ys,tos)).s:=
 bd h fun v42 e42 h=>go [] [rg 21 [(2,iaN 4 m hk),(4,lb hy),(5,W.k (w129 e42))]] <| br h (fun h16 h=>bd h fun v43 e43 h=>go [] [rg 20 [(1,W.n e43)]] <| nxE (y:=sA m ps v43 (ren (ys.map Z2w)) tos) h (congrArg (fun r=>sA m ps v43 r tos) (ren3 h3))) fun h16 h=>
  bd h fun v46 e46 h=>have hkl : kk < ys.length:=(List.getElem?_eq_some_iff.1 hy).1
  have hy1 : (ys.set kk ({ f_Op:=x.f_Op,f_A:=x.f_A,f_B:=x.f_B,f_To:=v46,Z0r:=x.Z0r,Z0d:=x.Z0d,Z15:=x.Z15,f_S:=x.f_S },.lsl 777 0 n))[kk]? = some (({ f_Op:=x.f_Op,f_A:=x.f_A,f_B:=x.f_B,f_To:=v46,Z0r:=x.Z0r,Z0d:=x.Z0d,Z15:=x.Z15,f_S:=x.f_S } : Z01),.lsl 777 0 n):=by simp [hkl]
  have h4 : Ok3 (ys.set kk ({ f_Op:=x.f_Op,f_A:=x.f_A,f_B:=x.f_B,f_To:=v46,Z0r:=x.Z0r,Z0d:=x.Z0d,Z15:=x.Z15,f_S:=x.f_S },.lsl 777 0 n)):=h3.set _ _ _
  go [] [rg 22 [(5,iaN 4 m hk),(7,lb hy),(8,kB (a2 (rpI ps) (a2 trivial trivial)) [rw_ ps,dI x.f_To] (by simp only [rwE] <;> kernel_rfl) (w177 e46)),(9,iaN 4 m hk),(11,st hy 3 [dI v46] ({ f_Op:=x.f_Op,f_A:=x.f_A,f_B:=x.f_B,f_To:=v46,Z0r:=x.Z0r,Z0d:=x.Z0d,Z15:=x.Z15,f_S:=x.f_S },.lsl 777 0 n))],rg 23 [(2,iaN 4 m hk),(4,lb hy1)]] <| br h (fun h17 h=>go [] [] <| dn h iR) fun h17 h=>
   go [] [] <| bd h fun q5 e62 h=>lpE (st:=stB m ps k _) (y:=sB m ps k 0 (ren ((ys.set kk ({ f_Op:=x.f_Op,f_A:=x.f_A,f_B:=x.f_B,f_To:=v46,Z0r:=x.Z0r,Z0d:=x.Z0d,Z15:=x.Z15,f_S:=x.f_S },.lsl 777 0 n)).map Z2w)) tos) e62 (wl165x3 hk hy1 h4) (he:=congrArg (fun r=>sB m ps k 0 r tos) (ren3 h4)) <| match q5,h with
    | .inl q4,h=>j1 <| (qe <| bd h fun v60 e63 h=>goN [] [rg 20 [(1,W.n e63)]] <| nxE (y:=sA m ps v60 (ren ((ys.set kk ({ f_Op:=x.f_Op,f_A:=x.f_A,f_B:=x.f_B,f_To:=v46,Z0r:=x.Z0r,Z0d:=x.Z0d,Z15:=x.Z15,f_S:=x.f_S },.lsl 777 0 n)).map Z2w)) q4) h (congrArg (fun r=>sA m ps v60 r q4) (ren3 h4)))
    | .inr y1,h=>j2 <| (ql h fun _ _ p=>iS p)
end Go.Proofs
