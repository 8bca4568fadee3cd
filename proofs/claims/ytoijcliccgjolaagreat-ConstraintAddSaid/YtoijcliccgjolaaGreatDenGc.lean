/-
  A state is made smaller: slots and blocks that nobody needs are let go, blocks get other names; an empty slice becomes a block; a block becomes data.
-/
import Derived.Test.YtoijcliccgjolaaGreatDenCode
namespace Go.Den
open Go.RowKit
def Z97 : List (Nat × Nat) → Nat → Option Nat
 | [],_=>none
 | (o,n) :: r,b=>if b = o then some n else Z97 r b
def Z6l : List (Nat × Nat) → Nat → Option Nat
 | [],_=>none
 | (o,n) :: r,b=>if b = n then some o else Z6l r b
def D.renA (ps : List (Nat × Nat)) : D → D
 | .lptr b i o=>match Z97 ps b with | some b'=> .lptr b' i o | none=> .undef
 | .lsl b lo n=>match Z97 ps b with | some b'=> .lsl b' lo n | none=> .undef
 | d=>d
def D.renB (ps : List (Nat × Nat)) : D → D
 | .agg cs=> .agg (cs.map (D.renA ps))
 | .tup _=> .undef
 | d=>d.renA ps
def D.ren (ps : List (Nat × Nat)) : D → D
 | .tup vs=> .tup (vs.map (D.renB ps))
 | d=>d.renB ps
def Blk.ren (ps : List (Nat × Nat)) (k : Blk) : Blk:=match k.pure with | true=>k | false=>{ k with rows:=k.rows.map (·.map (D.renA ps)) }
def gcT (ps : List (Nat × Nat)) (σ : S) : List Nat → List (Nat × D)
 | [] =>[]
 | t :: r=>(t,(σ.tmps t).ren ps) :: gcT ps σ r
def gcB (ps : List (Nat × Nat)) (σ : S) : List (Nat × Nat) → Option (List (Nat × Blk))
 | [] =>some []
 | (o,n) :: r=>
  match σ.heap o,gcB ps σ r with
  | some k,some l=>some ((n,k.ren ps) :: l)
  | _,_=>none
def Z8r : List (Nat × Nat) → Bool
 | [] =>true
 | (o,n) :: r=>(Z97 r o).isNone && (Z6l r n).isNone && Z8r r
def gcL (keep : List Nat) (ps : List (Nat × Nat)) (σ : S) : Option (List (Nat × D) × List (Nat × Blk)):=
 match Z8r ps with
 | true=>
  match gcB ps σ ps with
  | some bl=>some (gcT ps σ keep,bl)
  | none=>none
 | false=>none
variable {P : Program} {Γ : Ctx} {σ σ' : S} {a : Act} {w w' : World} {G G' : Nat → Nat} {β β' : Nat → Option (Nat × Nat)}
theorem Zk9 : ∀ {ps : List (Nat × Nat)},Z8r ps = true → ∀ o n,Z97 ps o = some n ↔ Z6l ps n = some o
 | [],_,o,n=>by simp [Z97,Z6l]
 | (o',n') :: r,h,o,n=>by
  simp only [Z8r,Bool.and_eq_true,Option.isNone_iff_eq_none] at h
  obtain ⟨⟨h1,h2⟩,h3⟩:=h
  have ih:=Zk9 h3
  unfold Z97 Z6l
  by_cases e1 : o = o' <;> by_cases e2 : n = n'
  ·subst e1 e2; simp
  ·subst e1
   rw [if_pos rfl,if_neg e2]
   constructor
   ·intro h; cases h; exact absurd rfl e2
   ·intro h; rw [← ih] at h; rw [h1] at h; cases h
  ·subst e2
   rw [if_neg e1,if_pos rfl]
   constructor
   ·intro h; rw [ih] at h; rw [h2] at h; cases h
   ·intro h; cases h; exact absurd rfl e1
  ·rw [if_neg e1,if_neg e2]; exact ih o n
def Z6v (ps : List (Nat × Nat)) (β : Nat → Option (Nat × Nat)) : Nat → Option (Nat × Nat):=fun u=>(Z6l ps u).bind β
theorem Zv6 {ps : List (Nat × Nat)} (h : Z8r ps = true) {o n : Nat} (hn : Z97 ps o = some n) : Z6v ps β n = β o:=by
 unfold Z6v; rw [(Zk9 h o n).1 hn]; rfl
theorem Z06.renE {ps : List (Nat × Nat)} (hp : Z8r ps = true) {v : Value} {d : D} (h : Z06 w G β v d) (h1 : one v = true) : Z06 w G (Z6v ps β) v (d.renA ps):=by
 cases h with
 | undef v=>exact .undef v
 | lptr b i o c sz hβ=>
  simp only [D.renA]
  split
  ·rename_i b' hb; exact .lptr b' i o c sz (by rw [Zv6 hp hb]; exact hβ)
  ·exact .undef _
 | lslnil b x=>
  simp only [D.renA]
  split
  ·exact .lslnil _ x
  ·exact .undef _
 | lsl b lo n cap c sz off hβ hcap hoff hroom=>
  simp only [D.renA]
  split
  ·rename_i b' hb; exact .lsl b' lo n cap c sz off (by rw [Zv6 hp hb]; exact hβ) hcap hoff hroom
  ·exact .undef _
 | agg vs cs=>simp [one] at h1
 | tup vs ds=>simp [one] at h1
 | bool x=>exact .bool x
 | int k n=>exact .int k n
 | str s=>exact .str s
 | slnil c x=>exact .slnil c x
 | sl c b' off n cap sz rows val hn hcc hcap hsz himm hcell hone hdat hrep=>exact (Z06.sl c b' off n cap sz rows val hn hcc hcap hsz himm hcell hone hdat hrep).of_dat (fun _ _ _=>rfl) (fun _=>Nat.le_refl _) rfl
 | ptr b' off cs val himm hcell hone hdat hrep=>exact (Z06.ptr b' off cs val himm hcell hone hdat hrep).of_dat (fun _ _ _=>rfl) (fun _=>Nat.le_refl _) rfl
 | nilptr=>exact .nilptr
 | fn f=>exact .fn f
 | raw v h=>exact .raw v h
theorem Z06.renB {ps : List (Nat × Nat)} (hp : Z8r ps = true) {v : Value} {d : D} (h : Z06 w G β v d) : Z06 w G (Z6v ps β) v (d.renB ps):=by
 by_cases ha : ∃ cs,d = .agg cs
 ·obtain ⟨cs,rfl⟩:=ha
  obtain ⟨vs,rfl,hn,hone,hrep⟩:=Z58 h
  refine .agg vs _ (by simpa using hn) hone (fun j v d hv hd=>?_)
  rw [List.getElem?_map] at hd
  obtain ⟨d',hd',rfl⟩:=Z26 hd
  exact (hrep j v d' hv hd').renE hp (hone j v hv)
 ·by_cases ht : ∃ cs,d = .tup cs
  ·obtain ⟨cs,rfl⟩:=ht
   exact .undef v
  ·by_cases hu : d = .undef
   ·subst hu; exact .undef v
   ·have:=h.renE hp (Zx7 h hu (fun cs e=>ha ⟨cs,e⟩) (fun cs e=>ht ⟨cs,e⟩))
    cases d <;> first | exact this | exact absurd ⟨_,rfl⟩ ha | exact absurd ⟨_,rfl⟩ ht
theorem Z06.ren {ps : List (Nat × Nat)} (hp : Z8r ps = true) {v : Value} {d : D} (h : Z06 w G β v d) : Z06 w G (Z6v ps β) v (d.ren ps):=by
 cases d with
 | tup ds=>
  cases h with
  | tup vs _ hn hrep=>
   refine .tup vs _ (by simpa using hn) (fun j v d hv hd=>?_)
   rw [List.getElem?_map] at hd
   obtain ⟨d',hd',rfl⟩:=Z26 hd
   exact (hrep j v d' hv hd').renB hp
 | _=>exact h.renB hp
theorem Zu1 (ps : List (Nat × Nat)) (σ : S) : ∀ (l : List Nat) (t : Nat),ofL (gcT ps σ l) t = (σ.tmps t).ren ps ∨ ofL (gcT ps σ l) t = .undef
 | [],t=> .inr rfl
 | u :: r,t=>by
  unfold gcT ofL
  by_cases h : t = u
  ·subst h; simp
  ·rw [if_neg h]; exact Zu1 ps σ r t
theorem Zll (qs : List (Nat × Nat)) (σ : S) : ∀ (ps : List (Nat × Nat)) {bl : List (Nat × Blk)},gcB qs σ ps = some bl → ∀ u k,ofB bl u = some k ↔ ∃ o k',Z6l ps u = some o ∧ σ.heap o = some k' ∧ k = k'.ren qs
 | [],bl,h,u,k=>by cases h; simp [ofB,Z6l]
 | (o, n) :: r,bl,h,u,k=>by
  unfold gcB at h
  split at h
  ·rename_i k0 l h1 h2
   cases h
   unfold ofB Z6l
   by_cases e : u = n
   ·rw [if_pos e,if_pos e]
    constructor
    ·intro h; cases h; exact ⟨o,k0,rfl,h1,rfl⟩
    ·rintro ⟨o',k',h3,h4,rfl⟩; cases h3; rw [h1] at h4; cases h4; rfl
   ·rw [if_neg e,if_neg e]; exact Zll qs σ r h2 u k
  ·cases h
theorem Z05.gc (h : Z05 Γ σ a w G β) {keep : List Nat} {ps : List (Nat × Nat)} {l : List (Nat × D)} {bl : List (Nat × Blk)} (hg : gcL keep ps σ = some (l,bl)) : Z05 Γ (mkS σ.n l bl) a w G (Z6v ps β):=by
 unfold gcL at hg
 split at hg
 ·rename_i hp
  split at hg
  ·rename_i bl' hb
   cases hg
   have hβ : ∀ u x,Z6v ps β u = some x → ∃ o,Z6l ps u = some o ∧ β o = some x:=fun u x hu=>by
    unfold Z6v at hu
    cases ho : Z6l ps u with
    | none=>rw [ho] at hu; cases hu
    | some o=>rw [ho] at hu; exact ⟨o,rfl,hu⟩
   refine ⟨h.defers,h.size,fun t=>?_,fun u k hu=>?_,fun u x hu=>?_,fun u u' c s s' hu hu'=>?_,h.kept,h.marks,h.fresh,h.big⟩
   ·show Z06 w G _ _ (ofL (gcT ps σ keep) t)
    rcases Zu1 ps σ keep t with e | e
    ·rw [e]; exact (h.tmps t).ren hp
    ·rw [e]; exact .undef _
   ·obtain ⟨o,k',h1,h2,rfl⟩:=(Zll ps σ ps hb u k).1 hu
    have hsz : (Blk.ren ps k').sz = k'.sz:=by unfold Blk.ren; split <;> rfl
    rcases h.heap o k' h2 with ⟨h3,h4,h5⟩ | ⟨c,h3,hB⟩
    ·refine .inl ⟨by unfold Z6v; rw [h1]; exact h3,?_,?_⟩
     ·unfold Blk.ren; split
      ·exact h4
      ·simp [h4]
     ·unfold Blk.ren; split <;> exact h5
    ·refine .inr ⟨c,by unfold Z6v; rw [h1,hsz]; exact h3,?_⟩
     obtain ⟨own,pin,ty,frz,top,dat,hsz',vs,e,fr,e1,e2,e3,e4⟩:=hB
     unfold Blk.ren
     split
     ·rename_i hpu
      refine ⟨own,pin,ty,frz,top,dat,hsz',vs,e,fr,e1,e2,e3,fun i j r d hr hd=>?_⟩
      obtain ⟨v,a1,a2,a3⟩:=e4 i j r d hr hd
      exact ⟨v,a1,a2,a3.of_dat (fun _ _ _=>rfl) (fun _=>Nat.le_refl _) (dat hpu i j r d hr hd)⟩
     ·rename_i hpu
      refine ⟨own,pin,ty,frz,by simpa using top,(fun hp'=>by rw [hpu] at hp'; cases hp'),fun i r hr=>?_,vs,e,fr,e1,e2,by simpa using e3,fun i j r d hr hd=>?_⟩
      ·simp only [List.getElem?_map] at hr
       obtain ⟨r',hr',rfl⟩:=Z26 hr
       simpa using hsz' i r' hr'
      ·simp only [List.getElem?_map] at hr
       obtain ⟨r',hr',rfl⟩:=Z26 hr
       rw [List.getElem?_map] at hd
       obtain ⟨d',hd',rfl⟩:=Z26 hd
       obtain ⟨v,a1,a2,a3⟩:=e4 i j r' d' hr' hd'
       exact ⟨v,a1,a2,a3.renE hp a2⟩
   ·obtain ⟨o,h1,h2⟩:=hβ u x hu
    obtain ⟨k,hk⟩:=h.dom o x h2
    exact ⟨_,(Zll ps σ ps hb u _).2 ⟨o,k,h1,hk,rfl⟩⟩
   ·obtain ⟨o,h1,h2⟩:=hβ u _ hu
    obtain ⟨o',h1',h2'⟩:=hβ u' _ hu'
    have:=h.inj o o' c s s' h2 h2'
    subst this
    have e1:=(Zk9 hp o u).2 h1
    have e2:=(Zk9 hp o u').2 h1'
    rw [e1] at e2; cases e2; rfl
  ·cases hg
 ·cases hg
inductive Z4l where
 | tmp (t b sz : Nat)
 | cell (t i b sz : Nat)
 | blk (b0 o b sz : Nat) (ty : Option TypeId:=none)
 /-- of a slice in a cell of a block: that it has no room is forgotten -/
 | loose (b0 o : Nat)
def Zc0 : D → Bool
 | .sl true [] =>true
 | _=>false
def Zao (sz : Nat) (ty : Option TypeId:=none) : Blk:={ sz,rows:=[],frz:=0,pure:=true,ty }
def S.conv1 (σ : S) : Z4l → Option S
 | .tmp t b sz=>
  match σ.heap b with
  | none=>match Zc0 (σ.tmps t) with
   | true=>some { σ with tmps:=fun u=>if u = t then .lsl b 0 0 else σ.tmps u,heap:=fun u=>if u = b then some (Zao sz) else σ.heap u }
   | false=>none
  | some _=>none
 | .cell t i b sz=>
  match σ.heap b,σ.tmps t with
  | none,.agg cs=>
   match cs[i]? with
   | some d=>match Zc0 d with
    | true=>some { σ with tmps:=fun u=>if u = t then .agg (cs.set i (.lsl b 0 0)) else σ.tmps u,heap:=fun u=>if u = b then some (Zao sz) else σ.heap u }
    | false=>none
   | none=>none
  | _,_=>none
 | .blk b0 o b sz ty=>
  match σ.heap b,σ.heap b0 with
  | none,some k=>
   match k.pure,k.rows with
   | false,[r] =>
    match r[o]? with
    | some d=>match Zc0 d with
     | true=>some { σ with heap:=fun u=>if u = b then some (Zao sz ty) else if u = b0 then some { k with rows:=[r.set o (.lsl b 0 0)] } else σ.heap u }
     | false=>none
    | none=>none
   | _,_=>none
  | _,_=>none
 | .loose b0 o=>
  match σ.heap b0 with
  | some k=>
   match k.rows with
   | [r] =>
    match r[o]? with
    | some (.sl _ rows)=>some { σ with heap:=fun u=>if u = b0 then some { k with rows:=[r.set o (.sl false rows)] } else σ.heap u }
    | _=>none
   | _=>none
  | none=>none
def S.conv (σ : S) : List Z4l → Option S
 | [] =>some σ
 | x :: l=>match σ.conv1 x with
  | some σ'=>σ'.conv l
  | none=>none
theorem Zmm {v : Value} {d : D} (h : Z06 w G β v d) (hn : Zc0 d = true) (b : Nat) : Z06 w G β v (.lsl b 0 0):=by
 unfold Zc0 at hn
 split at hn
 ·cases h with
  | slnil _ y=>exact .lslnil _ y
  | sl c b off n cap sz _ val hn hcc=>simp at hn; subst hn; rw [hcc rfl]; exact .lslnil _ _
 ·cases hn
theorem Z05.conv1 (h : Z05 Γ σ a w G β) {x : Z4l} (hx : σ.conv1 x = some σ') : Z05 Γ σ' a w G β:=by
 have none_of : ∀ b,σ.heap b = none → β b = none:=fun b hb=>by
  cases hβ : β b with
  | none=>rfl
  | some x=>obtain ⟨k,hk⟩:=h.dom b x hβ; rw [hb] at hk; cases hk
 cases x with
 | tmp t b sz=>
  simp only [S.conv1] at hx
  split at hx
  ·rename_i hb
   split at hx
   ·rename_i hn
    cases hx
    have h1:=h.nameNil (blk:=Zao sz) hb ⟨rfl,rfl⟩
    refine { h1 with tmps:=fun u=>?_ }
    dsimp only
    split
    ·rename_i hu; subst hu; exact Zmm (h.tmps u) hn b
    ·exact h.tmps u
   ·cases hx
  ·cases hx
 | cell t i b sz=>
  simp only [S.conv1] at hx
  split at hx
  ·rename_i cs hb ht
   split at hx
   ·rename_i d hd
    split at hx
    ·rename_i hn
     cases hx
     have h1:=h.nameNil (blk:=Zao sz) hb ⟨rfl,rfl⟩
     refine { h1 with tmps:=fun u=>?_ }
     dsimp only
     split
     ·rename_i hu; subst hu
      have h0:=h.tmps u
      rw [ht] at h0
      obtain ⟨vs,hv,hl,hone,hrep⟩:=Z58 h0
      rw [hv]
      refine .agg vs _ (by simpa using hl) hone (fun j v d' hj hd'=>?_)
      rw [List.getElem?_set] at hd'
      split at hd'
      ·rename_i hij; subst hij
       split at hd'
       ·cases hd'; exact Zmm (hrep i v d hj hd) hn b
       ·cases hd'
      ·exact hrep j v d' hj hd'
     ·exact h.tmps u
    ·cases hx
   ·cases hx
  ·cases hx
 | blk b0 o b sz ty=>
  simp only [S.conv1] at hx
  split at hx
  ·rename_i k hb hk
   split at hx
   ·rename_i r hp hr
    split at hx
    ·rename_i d hd
     split at hx
     ·rename_i hn
      cases hx
      have h1:=h.nameNil (blk:=Zao sz ty) hb ⟨rfl,rfl⟩
      have hbb : b0 ≠ b:=by rintro rfl; rw [hb] at hk; cases hk
      refine { h1 with heap:=fun u blk hu=>?_,dom:=fun u x hu=>?_ }
      ·dsimp only at hu
       split at hu
       ·cases hu; rename_i hub; subst hub; exact .inl ⟨none_of u hb,rfl,rfl⟩
       ·split at hu
        ·rename_i hub; subst hub
         cases hu
         rcases h.heap u k hk with ⟨g0,g1,g2⟩ | ⟨c,g0,hB⟩
         ·rw [hr] at g1; cases g1
         ·refine .inr ⟨c,g0,?_⟩
          obtain ⟨own,pin,ty',frz,top,dat,hsz',vs,e,fr,e1,e2,e3,e4⟩:=hB
          rw [hr] at e3 hsz' e4 top
          refine ⟨own,pin,ty',frz,by simpa using top,(fun hp'=>by rw [hp] at hp'; cases hp'),(fun i r' hr'=>?_),vs,e,fr,e1,e2,by simpa using e3,(fun i j r' d' hr' hd'=>?_)⟩
          ·cases i with
           | zero=>simp at hr'; subst hr'; simpa using hsz' 0 r rfl
           | succ i=>simp at hr'
          ·cases i with
           | zero=>
            simp at hr'; subst hr'
            rw [List.getElem?_set] at hd'
            split at hd'
            ·rename_i hij; subst hij
             split at hd'
             ·cases hd'
              obtain ⟨v,a1,a2,a3⟩:=e4 0 o r d rfl hd
              exact ⟨v,a1,a2,Zmm a3 hn b⟩
             ·cases hd'
            ·exact e4 0 j r d' rfl hd'
           | succ i=>simp at hr'
        ·exact h.heap u blk hu
      ·dsimp only
       split
       ·exact ⟨_,rfl⟩
       ·split
        ·exact ⟨_,rfl⟩
        ·exact h.dom u x hu
     ·cases hx
    ·cases hx
   ·cases hx
  ·cases hx
 | loose b0 o=>
  simp only [S.conv1] at hx
  split at hx
  ·rename_i k hk
   split at hx
   ·rename_i r hr
    split at hx
    ·rename_i c0 rows hd
     cases hx
     refine { h with heap:=fun u blk hu=>?_,dom:=fun u x hu=>?_ }
     ·dsimp only at hu
      split at hu
      ·rename_i hub; subst hub
       cases hu
       rcases h.heap u k hk with ⟨g0,g1,g2⟩ | ⟨c,g0,hB⟩
       ·rw [hr] at g1; cases g1
       ·refine .inr ⟨c,g0,?_⟩
        obtain ⟨own,pin,ty',frz,top,dat,hsz',vs,e,fr,e1,e2,e3,e4⟩:=hB
        rw [hr] at e3 hsz' e4 top dat
        refine ⟨own,pin,ty',frz,by simpa using top,(fun hp' i j r' d' hr' hd'=>?_),(fun i r' hr'=>?_),vs,e,fr,e1,e2,by simpa using e3,(fun i j r' d' hr' hd'=>?_)⟩
        ·cases i with
         | zero=>
          simp at hr'; subst hr'
          rw [List.getElem?_set] at hd'
          split at hd'
          ·split at hd'
           ·cases hd'; rfl
           ·cases hd'
          ·exact dat hp' 0 j r d' rfl hd'
         | succ i=>simp at hr'
        ·cases i with
         | zero=>simp at hr'; subst hr'; simpa using hsz' 0 r rfl
         | succ i=>simp at hr'
        ·cases i with
         | zero=>
          simp at hr'; subst hr'
          rw [List.getElem?_set] at hd'
          split at hd'
          ·rename_i hij; subst hij
           split at hd'
           ·cases hd'
            obtain ⟨v,a1,a2,a3⟩:=e4 0 o r _ rfl hd
            refine ⟨v,a1,a2,?_⟩
            cases a3 with
            | slnil _ x=>exact .slnil false x
            | sl c b off n cap sz rows val hn hcc hcap hsz himm hcell hone hdat hrep=>exact .sl false b off n cap sz _ val hn (fun h=>by cases h) hcap hsz himm hcell hone hdat hrep
           ·cases hd'
          ·exact e4 0 j r d' rfl hd'
         | succ i=>simp at hr'
      ·exact h.heap u blk hu
     ·dsimp only
      split
      ·exact ⟨_,rfl⟩
      ·exact h.dom u x hu
    ·cases hx
   ·cases hx
  ·cases hx
theorem Z05.conv : ∀ (l : List Z4l) {σ σ' : S},Z05 Γ σ a w G β → σ.conv l = some σ' → Z05 Γ σ' a w G β
 | [],σ,σ',h,hx=>by cases hx; exact h
 | x :: l,σ,σ',h,hx=>by
  unfold S.conv at hx
  split at hx
  ·rename_i σ1 h1; exact Z05.conv l (h.conv1 h1) hx
  ·cases hx
def Z4u (cv : List Z4l) (keep : List Nat) (ps : List (Nat × Nat)) (σ : S) : Option (List (Nat × D) × List (Nat × Blk)):=
 match σ.conv cv with
 | some σ'=>gcL keep ps σ'
 | none=>none
end Go.Den
