/-
  Values handed on as data; the operations that freeze by that.
-/
import Derived.Test.YtoijcliccgjolaaGreatDenSound
namespace Go.Den
open Go.RowKit
variable {P : Program} {Γ : Ctx} {σ : S} {a : Act} {w w' : World} {G G' : Nat → Nat} {β β' : Nat → Option (Nat × Nat)}
def Z57 (σ σ' : S) : Prop:=∀ b,(σ'.heap b).map (fun k=>(k.pure,k.rows)) = (σ.heap b).map (fun k=>(k.pure,k.rows))
theorem Y2y (σ : S) (b : Nat) : Z57 σ (σ.freeze b):=fun u=>by
 simp only [S.freeze]
 split
 ·cases σ.heap u <;> rfl
 ·rfl
theorem Z57.trans {a b c : S} (h : Z57 a b) (k : Z57 b c) : Z57 a c:=fun u=>(k u).trans (h u)
theorem Zmn : ∀ (l : List Nat) (σ : S),Z57 σ (σ.freezeL l)
 | [],_=>fun _=>rfl
 | b :: l,σ=>(Y2y σ b).trans (Zmn l (σ.freeze b))
theorem Zb5 : ∀ (l : List Nat) (σ : S),(σ.freezeL l).tmps = σ.tmps ∧ (σ.freezeL l).n = σ.n
 | [],_=>⟨rfl,rfl⟩
 | b :: l,σ=>Zb5 l (σ.freeze b)
theorem Zsj : ∀ (l : List Nat) (σ : S) (t : Nat),(σ.freezeL l).heap t = none ↔ σ.heap t = none
 | [],_,_=>Iff.rfl
 | b :: l,σ,t=>(Zsj l (σ.freeze b) t).trans (by simp only [S.freeze]; split <;> simp)
def Z65 (σ : S) (G : Nat → Nat) (β : Nat → Option (Nat × Nat)) (b : Nat) : Prop:=∀ blk c,σ.heap b = some blk → β b = some (c,blk.sz) → blk.rows.length * blk.sz ≤ G c
theorem Zxz (σ : S) (b u : Nat) {blk : Blk} (h : σ.heap u = some blk) : ∃ f,(σ.freeze b).heap u = some { blk with frz:=f }:=by
 simp only [S.freeze]
 split
 ·exact ⟨blk.rows.length,by rw [h]; rfl⟩
 ·exact ⟨blk.frz,by rw [h]⟩
theorem Zy0 : ∀ (l : List Nat) (σ : S) (u : Nat) {blk : Blk},σ.heap u = some blk → ∃ f,(σ.freezeL l).heap u = some { blk with frz:=f }
 | [],σ,u,blk,h=>⟨blk.frz,h⟩
 | b :: l,σ,u,blk,h=>by
  obtain ⟨f,hf⟩:=Zxz σ b u h
  obtain ⟨f',hf'⟩:=Zy0 l (σ.freeze b) u hf
  exact ⟨f',hf'⟩
theorem Z05.freezeL : ∀ (l : List Nat) {σ : S} {G : Nat → Nat},Z05 Γ σ a w G β → ∃ G',Z05 Γ (σ.freezeL l) a w G' β ∧ (∀ k,G k ≤ G' k) ∧ ∀ b ∈ l,Z65 σ G' β b
 | [],σ,G,h=>⟨G,h,fun _=>Nat.le_refl _,fun b hb=>by cases hb⟩
 | b :: l,σ,G,h=>by
  obtain ⟨G1,h1,h2,h3⟩:=h.freeze b
  obtain ⟨G2,k1,k2,k3⟩:=Z05.freezeL l h1
  refine ⟨G2,k1,fun k=>Nat.le_trans (h2 k) (k2 k),fun u hu=>?_⟩
  rcases List.mem_cons.1 hu with rfl | hu
  ·exact fun blk c hb hβ=>Nat.le_trans (h3 blk c hb hβ) (k2 c)
  ·exact fun blk c hb hβ=>by
    obtain ⟨f,hf⟩:=Zxz σ b u hb
    exact k3 u hu { blk with frz:=f } c hf hβ
theorem Z05.blk (h : Z05 Γ σ a w G β) {b c : Nat} {blk : Blk} (hb : σ.heap b = some blk) {sz : Nat} (hβ : β b = some (c,sz)) : sz = blk.sz ∧ Z37 w G β Γ c blk:=by
 rcases h.heap b blk hb with ⟨h0,-⟩ | ⟨c',h0,hB⟩
 ·rw [h0] at hβ; cases hβ
 ·rw [h0] at hβ; cases hβ; exact ⟨rfl,hB⟩
theorem Y0m (h : Z05 Γ σ a w G β) {v : Value} {b lo n : Nat} {blk : Blk} (hv : Z06 w G β v (.lsl b lo n)) (hb : σ.heap b = some blk) (hp : blk.pure = true) (hle : lo + n ≤ blk.rows.length) (hf : Z65 σ G β b) :
  Z06 w G β v (.sl false ((blk.rows.drop lo).take n)):=by
 cases hv with
 | lslnil _ x=>simp; exact .slnil false x
 | lsl _ _ _ cap c sz off hβ hcap hoff hroom=>
  obtain ⟨rfl,hB⟩:=h.blk hb hβ
  obtain ⟨vs,e,fr,h1,h2,h3,h4⟩:=hB.cells
  have hfz:=hf blk c hb hβ
  have hidx : ∀ i j,i < n → j < blk.sz → (lo + i) * blk.sz + j < blk.rows.length * blk.sz:=fun i j hi hj=>by
   have : (lo + i + 1) * blk.sz ≤ blk.rows.length * blk.sz:=Nat.mul_le_mul_right _ (by omega)
   rw [Nat.add_mul] at this; omega
  have hadd : ∀ i j,lo * blk.sz + i * blk.sz + j = (lo + i) * blk.sz + j:=fun i j=>by rw [Nat.add_mul]
  have hoff' : ∀ i,i < n → off = lo * blk.sz:=fun i hi=>hoff.resolve_left (by omega)
  have hrow : ∀ i,i < n → ∃ r,blk.rows[lo + i]? = some r ∧ ((blk.rows.drop lo).take n)[i]? = some r ∧ r.length = blk.sz:=fun i hi=>by
   have hlt : lo + i < blk.rows.length:=by omega
   refine ⟨blk.rows[lo + i],List.getElem?_eq_getElem hlt,?_,hB.hsz (lo + i) _ (List.getElem?_eq_getElem hlt)⟩
   rw [List.getElem?_take_of_lt hi,List.getElem?_drop]
   exact List.getElem?_eq_getElem hlt
  have hex : ∀ i j,i < n → j < blk.sz → ∃ u,vs[(lo + i) * blk.sz + j]? = some u ∧ one u = true:=fun i j hi hj=>by
   obtain ⟨r,hr,-,hl⟩:=hrow i hi
   obtain ⟨u,a1,a2,-⟩:=h4 (lo + i) j r r[j] hr (List.getElem?_eq_getElem (by omega))
   exact ⟨u,a1,a2⟩
  have hback : ∀ (i : Nat) r,((blk.rows.drop lo).take n)[i]? = some r → blk.rows[lo + i]? = some r ∧ i < n:=fun i r hr=>by
   rw [List.getElem?_take] at hr
   split at hr
   ·rw [List.getElem?_drop] at hr; exact ⟨hr,by assumption⟩
   ·cases hr
  refine .sl false c off n cap blk.sz _ (fun i j=>vs.getD ((lo + i) * blk.sz + j) Go.undef) (by simp; omega) (fun hh=>by cases hh) hcap (fun i r hr=>hB.hsz _ r (hback i r hr).1) (fun i j hi hj=>?_) (fun i j hi hj=>?_) (fun i j hi hj=>?_)
   (fun i j r d hr hd=>hB.dat hp _ j r d (hback i r hr).1 hd) (fun i j r d hr hd=>?_)
  ·rw [hoff' i hi,hadd]; have:=hidx i j hi hj; omega
  ·obtain ⟨u,hu,-⟩:=hex i j hi hj
   rw [hoff' i hi,hadd,Z4p,h1]
   simp [hu,Array.getD_eq_getD_getElem?]
  ·obtain ⟨u,hu,h1⟩:=hex i j hi hj
   simp [Array.getD_eq_getD_getElem?,hu,h1]
  ·obtain ⟨hr',hi⟩:=hback i r hr
   obtain ⟨u,a1,a2,a3⟩:=h4 _ j r d hr' hd
   simp only [Array.getD_eq_getD_getElem?,a1,Option.getD_some]
   exact a3
theorem Y2n {d d' : D} {l : List Nat} {p : Prop} (hd : Z45 σ d = some (d',l,p)) : d'.dat = true:=by
 unfold Z45 at hd
 repeat' split at hd
 all_goals first
  | (cases hd; first | rfl | assumption)
  | (cases hd; done)
theorem Zmo (h : Z05 Γ σ a w G β) {v : Value} {d d' : D} {l : List Nat} {p : Prop} (hv : Z06 w G β v d) (hd : Z45 σ d = some (d',l,p)) (hp : p) (hf : ∀ b ∈ l,Z65 σ G β b) :
  Z06 w G β v d' ∧ d'.dat = true:=by
 unfold Z45 at hd
 split at hd
 ·rename_i b lo n
  split at hd
  ·rename_i blk hb
   split at hd
   ·rename_i hpure
    cases hd
    exact ⟨Y0m h hv hb hpure hp (hf b (by simp)),rfl⟩
   ·cases hd
  ·cases hd
 ·rename_i b i o
  split at hd
  ·rename_i blk hb
   split at hd
   ·rename_i r hr
    split at hd
    ·rename_i hall
     cases hd
     refine ⟨?_,rfl⟩
     cases hv with
     | lptr _ _ _ c sz hβ=>
      obtain ⟨rfl,hB⟩:=h.blk hb hβ
      obtain ⟨vs,e,fr,h1,h2,h3,h4⟩:=hB.cells
      have hfz:=hf b (by simp) blk c hb hβ
      have hl:=hB.hsz i r hr
      have hi : i < blk.rows.length:=by
       rcases Nat.lt_or_ge i blk.rows.length with h' | h'
       ·exact h'
       ·rw [List.getElem?_eq_none h'] at hr; cases hr
      have hidx : ∀ j,j < (r.drop o).length → i * blk.sz + o + j < blk.rows.length * blk.sz:=fun j hj=>by
       have : (i + 1) * blk.sz ≤ blk.rows.length * blk.sz:=Nat.mul_le_mul_right _ (by omega)
       rw [Nat.add_mul] at this
       simp at hj; omega
      have hex : ∀ j d,(r.drop o)[j]? = some d → ∃ u,vs[i * blk.sz + o + j]? = some u ∧ one u = true ∧ Z06 w G β u d:=fun j d hd=>by
       rw [List.getElem?_drop] at hd
       obtain ⟨u,a1,a2,a3⟩:=h4 i (o + j) r d hr hd
       exact ⟨u,by rw [← a1]; congr 1; omega,a2,a3⟩
      refine .ptr c _ _ (fun j=>vs.getD (i * blk.sz + o + j) Go.undef) (fun j hj=>by have:=hidx j hj; omega) (fun j hj=>?_) (fun j hj=>?_) (fun j d hd=>?_) (fun j d hd=>?_)
      ·obtain ⟨u,a1,-⟩:=hex j _ (List.getElem?_eq_getElem hj)
       rw [Z4p,h1]; simp [a1,Array.getD_eq_getD_getElem?]
      ·obtain ⟨u,a1,a2,-⟩:=hex j _ (List.getElem?_eq_getElem hj)
       simp [a1,a2,Array.getD_eq_getD_getElem?]
      ·rw [List.getElem?_drop] at hd
       exact List.all_eq_true.1 hall d (List.mem_of_getElem? hd)
      ·obtain ⟨u,a1,a2,a3⟩:=hex j d hd
       simp only [Array.getD_eq_getD_getElem?,a1,Option.getD_some]
       exact a3
    ·cases hd
   ·cases hd
  ·cases hd
 ·cases hd
  refine ⟨?_,rfl⟩
  cases hv with
  | slnil _ x=>exact .slnil false x
  | sl c b off n cap sz rows val hn hcc hcap hsz himm hcell hone hdat hrep=>exact .sl false b off n cap sz _ val hn (fun h=>by cases h) hcap hsz himm hcell hone hdat hrep
 ·split at hd
  ·cases hd; exact ⟨hv,by assumption⟩
  ·cases hd
theorem Zqs (h : Z05 Γ σ a w G β) : ∀ {ds ds' : List D} {l : List Nat} {p : Prop},Z5q σ ds = some (ds',l,p) → p → (∀ b ∈ l,Z65 σ G β b) → ds'.length = ds.length ∧ (∀ d ∈ ds',d.dat = true) ∧
  ∀ (j : Nat) v d d',Z06 w G β v d → ds[j]? = some d → ds'[j]? = some d' → Z06 w G β v d'
 | [],ds',l,p,hd,hp,hf=>by cases hd; exact ⟨rfl,by simp,fun j v d d' _ h=>by simp at h⟩
 | x :: r,ds',l,p,hd,hp,hf=>by
  unfold Z5q at hd
  split at hd
  ·rename_i d1 l1 p1 r1 l2 p2 e1 e2
   cases hd
   obtain ⟨k1,k2,k3⟩:=Zqs h e2 hp.2 (fun b hb=>hf b (by simp [hb]))
   have key : ∀ v,Z06 w G β v x → Z06 w G β v d1 ∧ d1.dat = true:=fun v hv=>Zmo h hv e1 hp.1 (fun b hb=>hf b (by simp [hb]))
   refine ⟨by simp [k1],fun d hd=>?_,fun j v d d' hv hd hd'=>?_⟩
   ·rcases List.mem_cons.1 hd with rfl | hd
    ·exact Y2n e1
    ·exact k2 d hd
   ·cases j with
    | zero=>simp at hd hd'; subst hd hd'; exact (key v hv).1
    | succ j=>simp at hd hd'; exact k3 j v d d' hv hd hd'
  ·cases hd
theorem Z9d {v : Value} {d : D} (h : Z06 w G β v d) (hd : d.dat = true) : Z06 w G (fun _=>none) v d:=h.of_dat (fun _ _ _=>rfl) (fun _=>Nat.le_refl _) hd
theorem Zri (h : Z05 Γ σ a w G β) {v : Value} {d d' : D} {l : List Nat} {p : Prop} (hv : Z06 w G β v d) (hd : Z5h σ d = some (d',l,p)) (hp : p) (hf : ∀ b ∈ l,Z65 σ G β b) :
  Z06 w G (fun _=>none) v d':=by
 unfold Z5h at hd
 split at hd
 ·rename_i cs
  split at hd
  ·rename_i cs' l' p' e
   cases hd
   obtain ⟨vs,rfl,hn,hone,hrep⟩:=Z58 hv
   obtain ⟨k1,k2,k3⟩:=Zqs h e hp hf
   refine .agg vs cs' (by rw [k1]; exact hn) hone (fun j u d hu hd=>?_)
   have hj : j < cs.length:=by
    rcases Nat.lt_or_ge j cs'.length with h' | h'
    ·omega
    ·rw [List.getElem?_eq_none h'] at hd; cases hd
   have h0:=hrep j u _ hu (List.getElem?_eq_getElem hj)
   exact Z9d (k3 j u _ d h0 (List.getElem?_eq_getElem hj) hd) (k2 d (List.mem_of_getElem? hd))
  ·cases hd
 ·obtain ⟨h1,h2⟩:=Zmo h hv hd hp hf
  exact Z9d h1 h2
theorem Zyc (h : Z05 Γ σ a w G β) {v : Value} {d d' : D} {l : List Nat} {p : Prop} (hv : Z06 w G β v d) (hd : Za5 σ d = some (d',l,p)) (hp : p) (hf : ∀ b ∈ l,Z65 σ G β b) : Z06 w G β v d' ∧ d'.dat = true:=by
 unfold Za5 at hd
 split at hd
 ·cases hd; exact ⟨hv,rfl⟩
 ·exact Zmo h hv hd hp hf
theorem Zxs (h : Z05 Γ σ a w G β) : ∀ {ds ds' : List D} {l : List Nat} {p : Prop},Z9b σ ds = some (ds',l,p) → p → (∀ b ∈ l,Z65 σ G β b) → ds'.length = ds.length ∧
  ∀ (j : Nat) v d d',Z06 w G β v d → ds[j]? = some d → ds'[j]? = some d' → Z06 w G β v d' ∧ d'.dat = true
 | [],ds',l,p,hd,hp,hf=>by cases hd; exact ⟨rfl,fun j v d d' _ h=>by simp at h⟩
 | x :: r,ds',l,p,hd,hp,hf=>by
  unfold Z9b at hd
  split at hd
  ·rename_i d1 l1 p1 r1 l2 p2 e1 e2
   cases hd
   obtain ⟨k1,k3⟩:=Zxs h e2 hp.2 (fun b hb=>hf b (by simp [hb]))
   refine ⟨by simp [k1],fun j v d d' hv hd hd'=>?_⟩
   cases j with
   | zero=>simp at hd hd'; subst hd hd'; exact Zyc h hv e1 hp.1 (fun b hb=>hf b (by simp [hb]))
   | succ j=>simp at hd hd'; exact k3 j v d d' hv hd hd'
  ·cases hd
theorem Y1d (h : Z05 Γ σ a w G β) {kp : Bool} {v : Value} {d d' : D} {l : List Nat} {p : Prop} (hv : Z06 w G β v d) (hd : Zac kp σ d = some (d',l,p)) (hp : p) (hf : ∀ b ∈ l,Z65 σ G β b) :
  Z06 w G (fun _=>none) v d':=by
 unfold Zac at hd
 split at hd
 ·exact Zri h hv hd hp hf
 ·split at hd
  ·rename_i cs
   split at hd
   ·rename_i cs' l' p' e
    cases hd
    obtain ⟨vs,rfl,hn,hone,hrep⟩:=Z58 hv
    obtain ⟨k1,k3⟩:=Zxs h e hp hf
    refine .agg vs cs' (by rw [k1]; exact hn) hone (fun j u d hu hd=>?_)
    have hj : j < cs.length:=by
     rcases Nat.lt_or_ge j cs'.length with h' | h'
     ·omega
     ·rw [List.getElem?_eq_none h'] at hd; cases hd
    have h0:=hrep j u _ hu (List.getElem?_eq_getElem hj)
    obtain ⟨q1,q2⟩:=k3 j u _ d h0 (List.getElem?_eq_getElem hj) hd
    exact Z9d q1 q2
   ·cases hd
  ·obtain ⟨h1,h2⟩:=Zyc h hv hd hp hf
   exact Z9d h1 h2
theorem Zx2 (h : Z05 Γ σ a w G β) : ∀ {ds ds' : List D} {l : List Nat} {p : Prop},Z39 σ ds = some (ds',l,p) → p → (∀ b ∈ l,Z65 σ G β b) → ds'.length = ds.length ∧
  ∀ (j : Nat) v d d',Z06 w G β v d → ds[j]? = some d → ds'[j]? = some d' → Z06 w G (fun _=>none) v d'
 | [],ds',l,p,hd,hp,hf=>by cases hd; exact ⟨rfl,fun j v d d' _ h=>by simp at h⟩
 | x :: r,ds',l,p,hd,hp,hf=>by
  unfold Z39 at hd
  split at hd
  ·rename_i d1 l1 p1 r1 l2 p2 e1 e2
   cases hd
   obtain ⟨k1,k3⟩:=Zx2 h e2 hp.2 (fun b hb=>hf b (by simp [hb]))
   refine ⟨by simp [k1],fun j v d d' hv hd hd'=>?_⟩
   cases j with
   | zero=>simp at hd hd'; subst hd hd'; exact Zri h hv e1 hp.1 (fun b hb=>hf b (by simp [hb]))
   | succ j=>simp at hd hd'; exact k3 j v d d' hv hd hd'
  ·cases hd
theorem Znp {σ σ' : S} (h : Z57 σ σ') (d : D) : Z45 σ' d = Z45 σ d:=by
 have key : ∀ b,(∃ k k',σ.heap b = some k ∧ σ'.heap b = some k' ∧ k'.pure = k.pure ∧ k'.rows = k.rows) ∨ (σ.heap b = none ∧ σ'.heap b = none):=fun b=>by
  have:=h b
  cases h1 : σ.heap b <;> cases h2 : σ'.heap b <;> simp [h1,h2] at this
  ·exact .inr ⟨rfl,rfl⟩
  ·exact .inl ⟨_,_,rfl,rfl,this.1,this.2⟩
 cases d <;> try rfl
 case lptr b i o=>rcases key b with ⟨k,k',e1,e2,e3,e4⟩ | ⟨e1,e2⟩ <;> simp only [Z45,e1,e2] <;> rw [e4]
 case lsl b lo n=>rcases key b with ⟨k,k',e1,e2,e3,e4⟩ | ⟨e1,e2⟩ <;> simp only [Z45,e1,e2] <;> rw [e3,e4]
theorem Zxe {σ σ' : S} (h : Z57 σ σ') : ∀ ds,Z5q σ' ds = Z5q σ ds
 | [] =>rfl
 | d :: r=>by unfold Z5q; rw [Znp h,Zxe h r]
theorem Zrd {σ σ' : S} (h : Z57 σ σ') (d : D) : Z5h σ' d = Z5h σ d:=by
 unfold Z5h; split
 ·rw [Zxe h]
 ·exact Znp h _
theorem Zvc {σ σ' : S} (h : Z57 σ σ') (d : D) : Za5 σ' d = Za5 σ d:=by
 unfold Za5; split
 ·rfl
 ·exact Znp h _
theorem Zyx {σ σ' : S} (h : Z57 σ σ') : ∀ ds,Z9b σ' ds = Z9b σ ds
 | [] =>rfl
 | d :: r=>by unfold Z9b; rw [Zvc h,Zyx h r]
theorem Y0h {kp : Bool} {σ σ' : S} (h : Z57 σ σ') (d : D) : Zac kp σ' d = Zac kp σ d:=by
 unfold Zac; split
 ·exact Zrd h _
 ·split
  ·rw [Zyx h]
  ·exact Zvc h _
theorem Zoc {σ σ' : S} (h : Z57 σ σ') : ∀ ds,Z39 σ' ds = Z39 σ ds
 | [] =>rfl
 | d :: r=>by unfold Z39; rw [Zrd h,Zoc h r]
theorem Zu4 (l : List Nat) {b : Nat} (h : Z65 σ G β b) : Z65 (σ.freezeL l) G β b:=by
 intro blk c hb hβ
 cases hs : σ.heap b with
 | none=>rw [(Zsj l σ b).2 hs] at hb; cases hb
 | some k=>
  obtain ⟨f,hf⟩:=Zy0 l σ b hs
  rw [hf] at hb; cases hb
  exact h k c hs hβ
theorem Ze1 (h : Z05 Γ σ a w G β) {ds ds' : List D} {l : List Nat} {p : Prop} (hd : Z39 σ ds = some (ds',l,p)) (hp : p) :
  ∃ G',Z05 Γ (σ.freezeL l) a w G' β ∧ (∀ k,G k ≤ G' k) ∧ ds'.length = ds.length ∧ ∀ (j : Nat) v d d',Z06 w G β v d → ds[j]? = some d → ds'[j]? = some d' → Z06 w G' (fun _=>none) v d':=by
 obtain ⟨G',h1,h2,h3⟩:=Z05.freezeL l h
 rw [← Zoc (Zmn l σ)] at hd
 obtain ⟨k1,k2⟩:=Zx2 h1 hd hp (fun b hb=>Zu4 l (h3 b hb))
 exact ⟨G',h1,h2,k1,fun j v d d' hv=>k2 j v d d' (hv.mono (fun _ _ _=>rfl) h2 (fun _ _ h=>h) (.refl w))⟩
theorem Zlo {f : FuncId} (h : Z6c P f = true) (args : Array Value) (w : World) : (callFunc f args).run P w = .ok (.enter f args) w:=by
 unfold Z6c at h
 split at h
 ·rename_i fn hf
  simp only [Bool.and_eq_true,Bool.not_eq_true'] at h
  have hb : ¬ fn.body = none:=by intro hb; simp [hb] at h
  have hn : ¬ fn.name = "runtime.NumGoroutine" := by simpa using h.1
  simp [callFunc,hf,hn,hb]
 ·cases h
theorem Y2x (hC : Z05 Γ σ a w G β) {o : Oper} {fo : Operand} {args : Array Operand} {ts : Array TypeId} (ho : o.op = .call { callee:= .value fo,args,argTypes:=ts }) {f : FuncId} (hfo : σ.ev fo = .fn f)
  {told : Z1j} {σ' : S} {q : Prop} (h : Zba P σ o f (args.toList.map σ.ev) told = some (σ',q)) (hq : q) : Reach P Γ o a w σ':=by
 unfold Zba at h
 split at h
 ·rename_i r hr
  split at h
  ·rename_i ds l p hd
   split at h
   ·rename_i hdst
    have hdst':=Z59 hdst
    have hval : a.eval fo = .func (.func f) #[] #[] :=by
     have:=Z3d hC fo
     rw [hfo] at this
     generalize a.eval fo = u at this
     cases this; rfl
    have main : p → ds = (Z6g told ds) → Zal P f (Z6g told ds) r → ∀ (R : Act → World → Prop) (Q : Exit → Act → World → Prop),
      (∀ G' v w' G2,Z05 Γ (σ.freezeL l) a w G' β → (∀ k,G k ≤ G' k) → Below w.heap.size w w' → (∀ c,c < w.heap.size → G2 c = G' c) → (∀ c,w'.heap.size ≤ c → G2 c = 0) → Z06 w' G2 (fun _=>none) v r → R (a.put o.dst v) w') → o.wp P a w R Q:=fun hp hds hspec R Q hR=>by
     obtain ⟨G',h1,h2,h3,h4⟩:=Ze1 hC hd hp
     have hargs : Z6j w G' (args.map a.eval) (Z6g told ds):=by
      rw [← hds]
      refine ⟨by rw [h3]; simp,fun j v d hv hd=>?_⟩
      simp only [Array.getElem?_map] at hv
      obtain ⟨x,hx,rfl⟩:=Z26 hv
      exact h4 j _ (σ.ev x) d (Z3d hC x) (by simp [hx]) hd
     have hrun0 : (execOp a.eval o).run P w = (callFunc f (args.map a.eval)).run P w:=by
      simp [execOp,ho,resolve,hval,Deferred.ofValue,invoke]
     unfold Oper.wp
     rw [hrun0]
     rcases hspec with ⟨hent,hcall⟩ | hspec
     ·rw [Zlo hent,Oper.upon_enter]
      refine (hcall w G' _ h1.fresh hargs).mono fun e w' he=>?_
      obtain ⟨v,G2,rfl,b1,b2,b3,b4⟩:=he
      exact hR G' v w' G2 h1 h2 b1 b2 b3 b4
     ·obtain ⟨v,e1,e2⟩:=hspec w G' _ hargs
      rw [e1]
      exact hR G' v w G' h1 h2 (.refl _ w) (fun _ _=>rfl) h1.fresh e2
    split at h
    ·rename_i hsc
     cases h
     obtain ⟨hp,hds,hspec⟩:=hq
     refine fun next Q hn=>main hp hds hspec next Q fun G' v w' G2 h1 h2 b1 b2 b3 b4=>?_
     exact hn _ _ _ _ ((hC.quiet b1).put hdst' (b4.of_scalar hsc))
    ·cases h
     obtain ⟨hp,hds,hspec⟩:=hq
     refine fun next Q hn=>main hp hds hspec next Q fun G' v w' G2 h1 h2 b1 b2 b3 b4=>?_
     -- the marks behind the call
     have hq':=h1.quiet b1
     have hG : ∀ k,G' k ≤ G2 k:=fun k=>by
      rcases Nat.lt_or_ge k w.heap.size with hk | hk
      ·rw [b2 k hk]; exact Nat.le_refl _
      ·rw [h1.fresh k hk]; exact Nat.zero_le _
     have hcell : ∀ b o,o < G' b → w'.cell? ⟨b,o,none⟩ = w'.cell? ⟨b,o,none⟩:=fun _ _ _=>rfl
     have hC2 : Z05 Γ (σ.freezeL l) a w' G2 β:=by
      refine ⟨hq'.defers,hq'.size,fun t=>(hq'.tmps t).mono hcell hG (fun _ _ h=>h) (.refl w'),fun b blk hb=>?_,hq'.dom,hq'.inj,hq'.kept,fun c hc hx=>?_,b3,hq'.big⟩
      ·rcases hq'.heap b blk hb with h0 | ⟨c,h0,hB⟩
       ·exact .inl h0
       ·rcases h1.heap b blk hb with ⟨h0',-⟩ | ⟨c',h0',hB'⟩
        ·rw [h0'] at h0; cases h0
        ·have hlt:=hB'.lt
         rw [h0'] at h0; cases h0
         exact .inr ⟨_,h0',hB.mono hcell hG (b2 _ hlt) (fun _ _ h=>h) (.refl w') rfl⟩
      ·rw [b2 c (Nat.lt_of_lt_of_le hc h1.big)]; exact h1.marks c hc hx
     refine hn _ _ _ _ (hC2.put ?_ (b4.mono (fun _ _ _=>rfl) (fun _=>Nat.le_refl _) (fun b x hx=>by cases hx) (.refl w')))
     intro t ht
     rw [(Zb5 l σ).2]
     exact hdst' t ht
   ·cases h
  ·cases h
 ·-- a pointer that comes back as it is
  split at h
  ·rename_i b i off hargs hdst
   cases h
   obtain ⟨fn,h1,h2,h3,h4,h5⟩:=hq
   have hval : a.eval fo = .func (.func f) #[] #[] :=by
    have:=Z3d hC fo
    rw [hfo] at this
    generalize a.eval fo = u at this
    cases this; rfl
   obtain ⟨x,hx,hxe⟩ : ∃ x,args = #[x] ∧ σ.ev x = .lptr b i off:=by
    obtain ⟨l⟩:=args
    match l,hargs with
    | [x],hargs=>exact ⟨x,rfl,by simpa using hargs⟩
    | [],hargs=>simp at hargs
    | _ :: _ :: _,hargs=>simp at hargs
   have hrep:=Z3d hC x
   rw [hxe] at hrep
   refine Reach.of_value (v:=a.eval x) ?_ (hC.put (Z59 hdst) hrep)
   subst hx
   simp [execOp,ho,resolve,hval,Deferred.ofValue,invoke,run_callFunc_extern h1 h2 h3 h4 h5,Lib.run_noEscape]
  ·cases h
 ·cases h
end Go.Den
