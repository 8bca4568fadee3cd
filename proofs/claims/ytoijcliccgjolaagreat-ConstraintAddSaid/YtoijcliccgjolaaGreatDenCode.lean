/-
  Regions in the order of the text; code on abstract states.
-/
import Derived.Test.YtoijcliccgjolaaGreatDenAppend
namespace Go.Den
open Go.RowKit
def Z3a : List (Nat × Z1j) → Nat → Z1j
 | [],_=>{}
 | (k,t) :: r,i=>if i = k then t else Z3a r i
def Z4g (ops : Array Oper) (σ : S) (o : Oper) (g : Option Bool) : Option (Bool × Prop):=
 match o.guard with
 | none=>some (true,True)
 | some (j,want)=>
  match ((ops[j]?).bind (·.dst)).map σ.tmps with
  | some (.bool b)=>
   match g with
   | some x=>some (x,(b == want) = x)
   | none=>match b == want with
    | true=>some (true,True)
    | false=>some (false,True)
  | some (.tup [])=>some (false,True)
  | _=>none
def gAt : List (Nat × Bool) → Nat → Option Bool
 | [],_=>none
 | (k,b) :: r,i=>if i = k then some b else gAt r i
def Z3c (P : Program) (ops : Array Oper) (told : List (Nat × Z1j)) (gs : List (Nat × Bool)) (i : Nat) (σ : S) : Option (S × Prop):=
 match ops[i]? with
 | none=>some (σ,True)
 | some o=>
  match Z4g ops σ o (gAt gs i) with
  | none=>none
  | some (true,g)=>
   match Z2k P σ o (Z3a told i) with
   | some (σ',p)=>some (σ',g ∧ p)
   | none=>none
  | some (false,g)=>match Z23 σ o with
   | true=>some (σ.put o.dst (.tup []),g)
   | false=>none
def Z7r (P : Program) (ops : Array Oper) (told : List (Nat × Z1j)) (gs : List (Nat × Bool)) : List Nat → S → Option (S × Prop)
 | [],σ=>some (σ,True)
 | i :: r,σ=>
  match Z3c P ops told gs i σ with
  | some (σ',p)=>
   match Z7r P ops told gs r σ' with
   | some (σ'',q)=>some (σ'',p ∧ q)
   | none=>none
  | none=>none
variable {P : Program} {Γ : Ctx} {σ σ' : S} {a : Act} {w w' : World} {G G' : Nat → Nat} {β β' : Nat → Option (Nat × Nat)}
theorem Zqd (hC : Z05 Γ σ a w G β) {ops : Array Oper} {o : Oper} {g : Option Bool} {b : Bool} {p : Prop} (h : Z4g ops σ o g = some (b,p)) (hp : p) : Region.wanted o (yielded ops a.tmps) = b:=by
 unfold Z4g at h
 unfold Region.wanted
 split at h
 ·rename_i hg; cases h; rw [hg]
 ·rename_i j want hg
  rw [hg]
  dsimp only
  have key : ∀ d,((ops[j]?).bind (·.dst)).map σ.tmps = some d → ∃ t,(ops[j]?).bind (·.dst) = some t ∧ σ.tmps t = d:=fun d hd=>Z26 hd
  split at h
  ·rename_i c hc
   obtain ⟨t,ht,hd⟩:=key _ hc
   have hv:=hC.tmps t
   rw [hd] at hv
   have hv':=Z7e hv
   have hy : yielded ops a.tmps j = some c:=by
    unfold yielded
    rw [ht]
    simp only [Option.bind_some]
    have hlt : t < a.tmps.size:=by
     rcases Nat.lt_or_ge t a.tmps.size with h' | h'
     ·exact h'
     ·simp [Array.getD_eq_getD_getElem?,Array.getElem?_eq_none h',Go.undef] at hv'
    simp only [Array.getD_eq_getD_getElem?,Array.getElem?_eq_getElem hlt,Option.getD_some] at hv'
    rw [Array.getElem?_eq_getElem hlt,hv']
   rw [hy]
   have e : (some c == some want) = (c == want):=rfl
   rw [e]
   split at h
   ·cases h; exact hp
   ·split at h
    ·cases h; assumption
    ·cases h; assumption
  ·rename_i hc
   obtain ⟨t,ht,hd⟩:=key _ hc
   have hv:=hC.tmps t
   rw [hd] at hv
   cases h
   have hy : yielded ops a.tmps j = none:=by
    unfold yielded
    rw [ht]
    simp only [Option.bind_some]
    rcases Nat.lt_or_ge t a.tmps.size with h' | h'
    ·rw [Array.getElem?_eq_getElem h']
     simp only [Array.getD_eq_getD_getElem?,Array.getElem?_eq_getElem h',Option.getD_some] at hv
     generalize a.tmps[t] = u at hv
     cases hv; rfl
    ·rw [Array.getElem?_eq_none h']
   rw [hy]; rfl
  ·cases h
theorem Zqk (hC : Z05 Γ σ a w G β) {ops : Array Oper} {told : List (Nat × Z1j)} {gs : List (Nat × Bool)} {i : Nat} {p : Prop} (h : Z3c P ops told gs i σ = some (σ',p)) (hp : p)
  {K : Act → World → Prop} {Q : Exit → Act → World → Prop} (hK : ∀ a' w' G' β',Z05 Γ σ' a' w' G' β' → K a' w') : wpOp P ops Q i K a w:=by
 unfold Z3c at h
 unfold wpOp
 split at h
 ·rename_i ho; cases h; rw [ho]; exact hK _ _ _ _ hC
 ·rename_i o ho
  rw [ho]
  dsimp only
  split at h
  ·cases h
  ·rename_i g hg
   split at h
   ·rename_i σ1 q hs
    cases h
    rw [Zqd hC hg hp.1]
    exact .inl (Zzt hC hs hp.2 K Q hK)
   ·cases h
  ·rename_i g hg
   split at h
   ·rename_i hd
    cases h
    rw [Zqd hC hg hp]
    refine hK _ _ G β (hC.put (Z59 hd) ?_)
    exact .tup #[] [] rfl (fun j v d h=>by simp at h)
   ·cases h
theorem Zx6 {ops : Array Oper} {told : List (Nat × Z1j)} {gs : List (Nat × Bool)} {Q : Exit → Act → World → Prop} : ∀ (l : List Nat) {σ : S} {a : Act} {w : World} {G β} {p : Prop},Z05 Γ σ a w G β →
  Z7r P ops told gs l σ = some (σ',p) → p → (∀ a' w' G' β',Z05 Γ σ' a' w' G' β' → Q .normal a' w') → wpOps P ops Q l a w
 | [],σ,a,w,G,β,p,hC,h,hp,hQ=>by cases h; exact hQ _ _ _ _ hC
 | i :: r,σ,a,w,G,β,p,hC,h,hp,hQ=>by
  unfold Z7r at h
  split at h
  ·rename_i σ1 p1 h1
   split at h
   ·rename_i σ2 p2 h2
    cases h
    rw [wpOps_cons]
    exact Zqk hC h1 hp.1 (fun a' w' G' β' hC'=>Zx6 r hC' h2 hp.2 hQ)
   ·cases h
  ·cases h
def DWP (P : Program) (Γ : Ctx) (c : Code) (Q : Exit → S → Prop) (σ : S) : Prop:=
 ∀ a w G β,Z05 Γ σ a w G β → c.wp P (fun e a' w'=>∃ σ' G' β',Z05 Γ σ' a' w' G' β' ∧ Q e σ') a w
theorem DWP.mono {c : Code} {Q Q' : Exit → S → Prop} (h : DWP P Γ c Q σ) (hq : ∀ e σ',Q e σ' → Q' e σ') : DWP P Γ c Q' σ:=
 fun a w G β hC=>wp_mono (h a w G β hC) fun _ _ _ ⟨σ',G',β',h1,h2⟩=>⟨σ',G',β',h1,hq _ _ h2⟩
theorem DWP.skip {Q : Exit → S → Prop} (h : Q .normal σ) : DWP P Γ .skip Q σ:=fun _ _ G β hC=>wp_skip ⟨σ,G,β,hC,h⟩
theorem DWP.ret {Q : Exit → S → Prop} (h : Q .ret σ) : DWP P Γ .ret Q σ:=fun _ _ G β hC=>wp_ret ⟨σ,G,β,hC,h⟩
theorem DWP.exit {id : Nat} {Q : Exit → S → Prop} (h : Q (.exit id) σ) : DWP P Γ (.exit id) Q σ:=fun _ _ G β hC=>wp_exit ⟨σ,G,β,hC,h⟩
def thenD (P : Program) (Γ : Ctx) (y : Code) (Q : Exit → S → Prop) : Exit → S → Prop
 | .normal,σ=>DWP P Γ y Q σ
 | e,σ=>Q e σ
theorem DWP.seq {x y : Code} {Q : Exit → S → Prop} (h : DWP P Γ x (thenD P Γ y Q) σ) : DWP P Γ (.seq x y) Q σ:=fun a w G β hC=>by
 refine wp_seq (wp_mono (h a w G β hC) fun e a' w' ⟨σ',G',β',h1,h2⟩=>?_)
 cases e with
 | normal=>exact h2 a' w' G' β' h1
 | _=>exact ⟨σ',G',β',h1,h2⟩
theorem DWP.cond {c : Operand} {x y : Code} {b : Bool} {Q : Exit → S → Prop} (hc : σ.ev c = .bool b) (ht : b = true → DWP P Γ x Q σ) (hf : b = false → DWP P Γ y Q σ) : DWP P Γ (.cond c x y) Q σ:=fun a w G β hC=>by
 have:=Z3d hC c
 rw [hc] at this
 exact wp_cond_split (Z7e this) (fun hb=>ht hb a w G β hC) (fun hb=>hf hb a w G β hC)
def Zwj (id : Nat) (Q : Exit → S → Prop) : Exit → S → Prop
 | .exit id',σ=>if id' = id then Q .normal σ else Q (.exit id') σ
 | e,σ=>Q e σ
theorem DWP.block {id : Nat} {c : Code} {Q : Exit → S → Prop} (h : DWP P Γ c (Zwj id Q) σ) : DWP P Γ (.block id c) Q σ:=fun a w G β hC=>by
 refine wp_block (wp_mono (h a w G β hC) fun e a' w' ⟨σ',G',β',h1,h2⟩=>?_)
 cases e with
 | exit id'=>
  simp only [Exit.inBlock,Zwj] at h2 ⊢
  split
  ·rename_i he; rw [if_pos he] at h2; exact ⟨σ',G',β',h1,h2⟩
  ·rename_i he; rw [if_neg he] at h2; exact ⟨σ',G',β',h1,h2⟩
 | _=>exact ⟨σ',G',β',h1,h2⟩
theorem DWP.region {id : Nat} {ops : Array Oper} {told : List (Nat × Z1j)} {gs : List (Nat × Bool)} {p : Prop} {Q : Exit → S → Prop} (h : Z7r P ops told gs (List.range ops.size) σ = some (σ',p)) (hp : p) (hQ : Q .normal σ') :
  DWP P Γ (.region id ops false) Q σ:=fun _ _ _ _ hC=>
 wp_region (Zx6 _ hC h hp fun _ _ G' β' hC'=>⟨σ',G',β',hC',hQ⟩)
theorem Zt7 {c : Code} {Q : Exit → Act → World → Prop} (I : Nat → Act → World → Prop)
  (round : ∀ n a w,I n a w → ∃ m,n = m + 1 ∧ c.wp P (Exit.then (fun a' w'=>I m a' w') Q) a w) (n : Nat) (a : Act) (w : World) (h : I n a w) : (Code.loop c).wp P Q a w:=by
 intro b k cs
 have key : ∀ n a w,I n a w → ∃ e a' w',Q e a' w' ∧ Arrives P (lone (b.at a (.code c :: .inLoop c :: k)) cs w) b k cs e a' w':=by
  intro n
  induction n with
  | zero=>
   intro a w hI
   obtain ⟨m,hm,-⟩:=round 0 a w hI
   omega
  | succ n ih=>
   intro a w hI
   obtain ⟨m,hm,hr⟩:=round _ a w hI
   obtain rfl : n = m:=by omega
   obtain ⟨e,a₁,w₁,hq,harr⟩:=hr b (.inLoop c :: k) cs
   cases e with
   | normal=>
    obtain ⟨e₂,a₂,w₂,hq₂,harr₂⟩:=ih a₁ w₁ hq
    exact ⟨e₂,a₂,w₂,hq₂,.of_steps (Steps.trans harr (.one step_inLoop)) harr₂⟩
   | exit id=>exact ⟨_,a₁,w₁,hq,.pass (x:= .inLoop c) rfl (fun _ _=> .inl (by simp)) harr⟩
   | goto l=>exact ⟨_,a₁,w₁,hq,.pass (x:= .inLoop c) rfl (fun _ _=> .inl (by simp)) harr⟩
   | ret=>exact ⟨_,a₁,w₁,hq,.pass (x:= .inLoop c) rfl (fun _ _=> .inl (by simp)) harr⟩
   | panic ch=>exact ⟨_,a₁,w₁,hq,.pass (x:= .inLoop c) rfl (fun _ _=> .inl (by simp)) harr⟩
   | outgrown=>exact ⟨_,a₁,w₁,hq,.pass (x:= .inLoop c) rfl (fun _ _=> .inl (by simp)) harr⟩
 obtain ⟨e,a',w',hq,harr⟩:=key n a w h
 exact ⟨e,a',w',hq,.of_steps (.one step_loop) harr⟩
inductive Ctl (S R : Type) where
 | next (s : S)
 | done (r : R)
def Z09 {S R : Type} (f : S → Option (Ctl S R)) : Nat → S → Option R
 | 0,_=>none
 | n + 1,s=>
  match f s with
  | some (.next s')=>Z09 f n s'
  | some (.done r)=>some r
  | none=>none
theorem DWP.loop {T R : Type} {c : Code} {f : T → Option (Ctl T R)} {st : T → S} {Q : Exit → S → Prop} {K : R → Exit → S → Prop}
  (round : ∀ t x,f t = some x → DWP P Γ c (fun e σ'=>match x with
   | .next t'=>e = .normal ∧ σ' = st t'
   | .done r=>e ≠ .normal ∧ K r e σ') (st t))
  {n : Nat} {t : T} {r : R} (h : Z09 f n t = some r) (hQ : ∀ e σ',K r e σ' → Q e σ') : DWP P Γ (.loop c) Q (st t):=fun a w G β hC=>by
 refine Zt7 (fun n a w=>∃ t G β,Z09 f n t = some r ∧ Z05 Γ (st t) a w G β) ?_ n a w ⟨t,G,β,h,hC⟩
 rintro n a w ⟨t,G,β,h,hC⟩
 cases n with
 | zero=>cases h
 | succ m=>
  refine ⟨m,rfl,?_⟩
  unfold Z09 at h
  cases hf : f t with
  | none=>rw [hf] at h; cases h
  | some x=>
   rw [hf] at h
   refine wp_mono (round t x hf a w G β hC) fun e a' w' ⟨σ',G',β',h1,h2⟩=>?_
   cases x with
   | next t'=>
    obtain ⟨rfl,rfl⟩:=h2
    exact ⟨t',G',β',h,h1⟩
   | done r'=>
    cases h
    obtain ⟨hne,hk⟩:=h2
    cases e with
    | normal=>exact absurd rfl hne
    | _=>exact ⟨σ',G',β',h1,hQ _ _ hk⟩
def resOne (P : Program) (σ : S) : ResultVar → Option (D × Prop)
 | .tmp t=>some (σ.tmps t,True)
 | .cell t ty=>Z5o P σ ty (σ.tmps t) .go
def Z8h (P : Program) (σ : S) : List ResultVar → Option (List D × Prop)
 | [] =>some ([],True)
 | x :: r=>
  match resOne P σ x,Z8h P σ r with
  | some (d,p),some (ds,q)=>some (d :: ds,p ∧ q)
  | _,_=>none
def tupD : List D → D
 | [d] =>d
 | ds=> .tup ds
def Z9o (P : Program) (fn : Func) (σ : S) : Option (D × Prop):=
 match Z8h P σ fn.results.toList with
 | some (ds,p)=>
  match Z39 σ ds with
  | some (ds',_,q)=>some (tupD ds',p ∧ q)
  | none=>none
 | none=>none
def Zju (a : Act) : ResultVar → Sem Value
 | .tmp t=>pure (a.tmps.getD t Go.undef)
 | .cell b t=>do loadVar t (← asAddr (a.tmps.getD b Go.undef))
theorem Zp9 (fn : Func) (a : Act) : results fn a.tmps = (do
   let vs ← fn.results.mapM (Zju a)
   pure (if h : vs.size = 1 then vs[0] else .tuple vs) : Sem Value):=by
 unfold results
 congr 1
theorem Zks (hC : Z05 Γ σ a w G β) : ∀ (l : List ResultVar) {ds : List D} {p : Prop},Z8h P σ l = some (ds,p) → p →
  ∃ vs : List Value,(l.mapM (Zju a)).run P w = .ok vs w ∧ vs.length = ds.length ∧
   ∀ (j : Nat) v d,vs[j]? = some v → ds[j]? = some d → Z06 w G β v d
 | [],ds,p,h,hp=>by cases h; exact ⟨[],by simp,rfl,fun j v d h=>by simp at h⟩
 | x :: r, ds, p,h,hp=>by
  unfold Z8h at h
  split at h
  ·rename_i d p1 ds2 p2 h1 h2
   cases h
   obtain ⟨vs,e1,e2,e3⟩:=Zks hC r h2 hp.2
   have key : ∃ v,(Zju a x).run P w = .ok v w ∧ Z06 w G β v d:=by
    cases x with
    | tmp t=>cases h1; exact ⟨_,rfl,hC.tmps t⟩
    | cell t ty=>
     have h1' : Z5o P σ ty (σ.tmps t) .go = some (d,p1):=h1
     have hv:=hC.tmps t
     obtain ⟨v,r1,r2⟩:=Zrv hC hv h1' hp.1
     refine ⟨v,?_,r2⟩
     have hptr : ∃ ad,a.tmps.getD t Go.undef = .pointer (some ad):=by
      unfold Z5o at h1'
      split at h1'
      ·rename_i cs q hq
       split at h1'
       ·cases h1'
        obtain ⟨b,off,hu,-⟩:=Zqy hC hv hq hp.1
        exact ⟨_,hu⟩
       ·cases h1'
      ·cases h1'
     obtain ⟨ad,had⟩:=hptr
     rw [had] at r1
     simp only [Zju,had]
     simpa [Instr.loadAt,Instr.sureAddr,asAddr] using r1
   obtain ⟨v,k1,k2⟩:=key
   refine ⟨v :: vs,by simp only [List.mapM_cons,Sem.run_bind,k1,Result.andThen_ok,e1,Sem.run_pure],by simp [e2],fun j u d' hu hd=>?_⟩
   cases j with
   | zero=>simp at hu hd; subst hu hd; exact k2
   | succ j=>simp at hu hd; exact e3 j u d' hu hd
  ·cases h
theorem Y29 (hC : Z05 Γ σ a w G β) {fn : Func} {d : D} {p : Prop} (h : Z9o P fn σ = some (d,p)) (hp : p) :
  ∃ v G' σ',(results fn a.tmps).run P w = .ok v w ∧ Z05 Γ σ' a w G' β ∧ Z06 w G' (fun _=>none) v d:=by
 unfold Z9o at h
 split at h
 ·rename_i ds p1 h1
  split at h
  ·rename_i ds' l p2 h2
   cases h
   obtain ⟨vs,e1,e2,e3⟩:=Zks (P:=P) hC _ h1 hp.1
   obtain ⟨G',k1,k2,k3,k4⟩:=Ze1 hC h2 hp.2
   have hrep : ∀ (j : Nat) v d,vs[j]? = some v → ds'[j]? = some d → Z06 w G' (fun _=>none) v d:=fun j v d hv hd=>by
    have hj : j < ds.length:=by
     rcases Nat.lt_or_ge j ds'.length with h' | h'
     ·omega
     ·rw [List.getElem?_eq_none h'] at hd; cases hd
    exact k4 j v _ d (e3 j v _ hv (List.getElem?_eq_getElem hj)) (List.getElem?_eq_getElem hj) hd
   have hrun : (results fn a.tmps).run P w = .ok (if h : vs.toArray.size = 1 then vs.toArray[0] else .tuple vs.toArray) w:=by
    rw [Zp9,Array.mapM_eq_mapM_toList]
    simp only [Sem.run_bind,Sem.run_map,e1,Result.andThen_ok,Sem.run_pure]
   refine ⟨_,G',_,hrun,k1,?_⟩
   have hl : vs.length = ds'.length:=by omega
   match ds',hl,hrep with
   | [d],hl,hrep=>
    match vs,hl,hrep with
    | [v],_,hrep=>exact hrep 0 v d rfl rfl
   | [],hl,hrep=>
    match vs,hl with
    | [],_=>exact .tup #[] [] rfl (fun j v d h=>by simp at h)
   | d1 :: d2 :: dr,hl,hrep=>
    rw [dif_neg (by simp; simp at hl; omega)]
    exact .tup vs.toArray _ (by simpa using hl.symm) (fun j v d hv hd=>hrep j v d (by simpa using hv) hd)
  ·cases h
 ·cases h
def Ends (P : Program) (fn : Func) (r : D) : Exit → S → Prop:=fun e σ=>(e = .ret ∨ e = .normal) ∧ ∃ p,Z9o P fn σ = some (r,p) ∧ p
theorem Z0c.mk {f : FuncId} {fn : Func} {c : Code} {ds : List D} {r : D} (hf : P.funcs[f]? = some fn) (hb : fn.body = some c) (hent : Z6c P f = true) (hn : ds.length ≤ fn.ntmps)
  (h : ∀ Γ : Ctx,DWP P Γ c (Ends P fn r) (mkS fn.ntmps (Z3s 0 ds) [])) : Z0c P f ds r:=by
 refine ⟨hent,fun w G vs hG hargs=>?_⟩
 let Γ : Ctx:={ B:=w.heap.size,X:=fun _=>False,w0:=w,G0:=G,hB:=Nat.le_refl _,pin:=fun _=>0 }
 have hC : Z05 Γ (mkS fn.ntmps (Z3s 0 ds) []) { tmps:=vs ++ Array.replicate (fn.ntmps - vs.size) Go.undef,defers:=[] } w G (fun _=>none):=by
  refine ⟨rfl,?_,fun t=>?_,fun b blk hb=>?_,fun b x hx=>?_,fun b b' c s s' hb=>?_,.refl _ _ _,fun _ _ _=>rfl,hG,Nat.le_refl _⟩
  ·simp only [Array.size_append,Array.size_replicate,mkS]; have:=hargs.size; omega
  ·show Z06 w G _ _ (ofL (Z3s 0 ds) t)
   rw [Zcr,if_pos (Nat.zero_le _),Nat.sub_zero]
   rcases Nat.lt_or_ge t ds.length with ht | ht
   ·have ht' : t < vs.size:=by rw [← hargs.size]; exact ht
    have e1 : ds.getD t .undef = ds[t] :=by simp [List.getD,List.getElem?_eq_getElem ht]
    have e2 : (vs ++ Array.replicate (fn.ntmps - vs.size) Go.undef).getD t Go.undef = vs[t] :=by
     rw [Array.getD_eq_getD_getElem?,Array.getElem?_append_left ht',Array.getElem?_eq_getElem ht']; rfl
    rw [e1,e2]
    exact hargs.rep t _ _ (Array.getElem?_eq_getElem ht') (List.getElem?_eq_getElem ht)
   ·have e1 : ds.getD t .undef = .undef:=by simp [List.getD,List.getElem?_eq_none ht]
    rw [e1]; exact .undef _
  ·cases hb
  ·cases hx
  ·cases hb
 refine calls_of_wp hf hb (wp_mono (h Γ _ w G _ hC) fun e a' w' ⟨σ',G',β',hC',he,p,hr,hp⟩=>?_)
 obtain ⟨v,G2,σ2,e1,e2,e3⟩:=Y29 hC' hr hp
 have hR : ∃ v' G',Ending.returned v = .returned v' ∧ Below w.heap.size w w' ∧ (∀ c,c < w.heap.size → G' c = G c) ∧ (∀ c,w'.heap.size ≤ c → G' c = 0) ∧ Z06 w' G' (fun _=>none) v' r:=
  ⟨v,G2,rfl,⟨e2.kept.os,e2.kept.tape,e2.kept.output,e2.kept.size,fun k hk=>e2.kept.block k hk (fun h=>h)⟩,fun c hc=>e2.marks c hc (fun h=>h),e2.fresh,e3⟩
 rcases he with rfl | rfl
 ·exact ⟨hC'.defers,v,e1,hR⟩
 ·exact ⟨hC'.defers,v,e1,hR⟩
def Zg6 (P : Program) (fn : Func) (m : Nat) (keep : List Bool) (σ : S) : Option (D × List Blk × Prop):=
 match Z8h P σ fn.results.toList with
 | some (ds,p)=>
  match Z4x false σ (List.range m) ds with
  | some (ds',l,q)=>
   match Z6e (σ.freezeL l) (List.range m) (fun pin j=>match keep[j]? with
    | some true=>pin
    | _=>none) 0 (List.range m) with
   | some bs=>some (tupD ds',bs,p ∧ q)
   | none=>none
  | none=>none
 | none=>none
def Zbt (P : Program) (fn : Func) (m : Nat) (keep : List Bool) (r : D) (bs : List Blk) : Exit → S → Prop:=fun e σ=>(e = .ret ∨ e = .normal) ∧ Z6f (List.range m) = true ∧ ∃ bs1 p,Zg6 P fn m keep σ = some (r,bs1,p) ∧ p ∧ bs1 = bs
theorem Y46 (hC : Z05 Γ σ a w G β) {fn : Func} {m : Nat} {keep : List Bool} {d : D} {bs : List Blk} {p : Prop} (hm : Z6f (List.range m) = true) (h : Zg6 P fn m keep σ = some (d,bs,p)) (hp : p) :
  ∃ v G' β',(results fn a.tmps).run P w = .ok v w ∧ Z05 Γ (mkS 1 [(0,d)] (Z4e 0 bs)) { tmps:=#[v],defers:=[] } w G' β':=by
 unfold Zg6 at h
 split at h
 ·rename_i ds p1 h1
  split at h
  ·rename_i ds' l p2 h2
   split at h
   ·rename_i bs1 hbs
    cases h
    obtain ⟨vs,e1,e2,e3⟩:=Zks (P:=P) hC _ h1 hp.1
    obtain ⟨G',k1,k2,k3,k4⟩:=Zul hC h2 hp.2
    have hrep : ∀ (j : Nat) v d,vs[j]? = some v → ds'[j]? = some d → Z06 w G' (Z47 (List.range m) β) v d:=fun j v d hv hd=>by
     have hj : j < ds.length:=by
      rcases Nat.lt_or_ge j ds'.length with h' | h'
      ·omega
      ·rw [List.getElem?_eq_none h'] at hd; cases hd
     exact k4 j v _ d (e3 j v _ hv (List.getElem?_eq_getElem hj)) (List.getElem?_eq_getElem hj) hd
    have hrun : (results fn a.tmps).run P w = .ok (if h : vs.toArray.size = 1 then vs.toArray[0] else .tuple vs.toArray) w:=by
     rw [Zp9,Array.mapM_eq_mapM_toList]
     simp only [Sem.run_bind,Sem.run_map,e1,Result.andThen_ok,Sem.run_pure]
    refine ⟨_,G',Z47 (List.range m) β,hrun,?_⟩
    have hl : vs.length = ds'.length:=by omega
    have main : Z06 w G' (Z47 (List.range m) β) (if h : vs.toArray.size = 1 then vs.toArray[0] else .tuple vs.toArray) (tupD ds'):=by
     match ds',hl,hrep with
     | [d],hl,hrep=>
      match vs,hl,hrep with
      | [v],_,hrep=>exact hrep 0 v d rfl rfl
     | [],hl,hrep=>
      match vs,hl with
      | [],_=>exact .tup #[] [] rfl (fun j v d h=>by simp at h)
     | d1 :: d2 :: dr,hl,hrep=>
      rw [dif_neg (by simp; simp at hl; omega)]
      exact .tup vs.toArray _ (by simpa using hl.symm) (fun j v d hv hd=>hrep j v d (by simpa using hv) hd)
    refine k1.enter (Γ':=Γ) (ds:=[tupD ds']) (vs:=#[if h : vs.toArray.size = 1 then vs.toArray[0] else .tuple vs.toArray]) hm hbs k1.big (fun k c s hk=>?_) (fun k b blk c s i hb hbk hk hi=>?_) k1.kept k1.marks rfl (fun j v d hv hd=>?_)
    ·obtain ⟨b,f1,f2⟩:=Zdn hk
     obtain ⟨blk,f3⟩:=k1.dom b _ f2
     obtain ⟨-,hB⟩:=k1.blk f3 f2
     exact hB.own
    ·have hk':=(Zfe hb).symm.trans hk
     obtain ⟨-,hB⟩:=k1.blk hbk hk'
     have : blk.pin = some i:=by
      split at hi
      ·exact hi
      ·cases hi
     exact hB.pin i this
    ·cases j with
     | zero=>simp at hv hd; subst hv hd; exact main
     | succ j=>simp at hv
   ·cases h
  ·cases h
 ·cases h
theorem Z3y.mk {f : FuncId} {fn : Func} {c : Code} {ds : List D} {bs : List Blk} {r : D} {bs' : List Blk} (m : Nat) (keep : List Bool) (hf : P.funcs[f]? = some fn) (hb : fn.body = some c) (hent : Z6c P f = true) (hn : ds.length ≤ fn.ntmps)
  (h : ∀ Γ : Ctx,DWP P Γ c (Zbt P fn m keep r bs') (mkS fn.ntmps (Z3s 0 ds) (Z4e 0 bs))) : Z3y P f ds bs r bs':=by
 refine ⟨hent,fun Γ vs w G β hC0=>?_⟩
 have hsz : vs.size = ds.length:=hC0.size
 have hC : Z05 Γ (mkS fn.ntmps (Z3s 0 ds) (Z4e 0 bs)) { tmps:=vs ++ Array.replicate (fn.ntmps - vs.size) Go.undef,defers:=[] } w G β:=by
  refine { hC0 with size:=?_,tmps:=fun t=>?_,defers:=rfl }
  ·simp only [Array.size_append,Array.size_replicate,mkS]; omega
  ·show Z06 w G _ _ (ofL (Z3s 0 ds) t)
   rcases Nat.lt_or_ge t vs.size with ht' | ht
   ·have:=hC0.tmps t
    have e2 : (vs ++ Array.replicate (fn.ntmps - vs.size) Go.undef).getD t Go.undef = vs.getD t Go.undef:=by
     rw [Array.getD_eq_getD_getElem?,Array.getElem?_append_left ht',Array.getD_eq_getD_getElem?]
    rw [e2]; exact this
   ·rw [Zcr,if_pos (Nat.zero_le _),Nat.sub_zero]
    have e1 : ds.getD t .undef = .undef:=by simp [List.getD,List.getElem?_eq_none (show ds.length ≤ t by omega)]
    rw [e1]; exact .undef _
 refine calls_of_wp hf hb (wp_mono (h Γ _ w G _ hC) fun e a' w' ⟨σ',G',β',hC',he,hm,bs1,p,hr,hp,hbe⟩=>?_)
 subst hbe
 obtain ⟨v,G2,β2,e1,e2⟩:=Y46 hC' hm hr hp
 have hR : ∃ v' G' β',Ending.returned v = .returned v' ∧ Z05 Γ (mkS 1 [(0,r)] (Z4e 0 bs1)) { tmps:=#[v'],defers:=[] } w' G' β':=⟨v,G2,β2,rfl,e2⟩
 rcases he with rfl | rfl
 ·exact ⟨hC'.defers,v,e1,hR⟩
 ·exact ⟨hC'.defers,v,e1,hR⟩
end Go.Den
