/-
  What 'pureD' says of an operation is what the operation does.
-/
import Derived.Test.YtoijcliccgjolaaGreatDenEff
import Derived.Lib.Strings
import Derived.Lib.UnsafeStr
import Derived.Lib.Builder
namespace Go.Den
open Go.RowKit
variable {P : Program} {Γ : Ctx} {σ : S} {a : Act} {w : World} {G : Nat → Nat} {β : Nat → Option (Nat × Nat)}
theorem Zd5 (s : ByteArray) (l : List UInt8) (h : s.data.toList = l) : Z06 w G β (.string s) (.str l):=h ▸ .str s
theorem Zpk (v : Value) : Z06 w G β v (Z8l v):=by
 unfold Z8l
 split
 ·exact .bool _
 ·exact .int _ _
 ·exact .str _
 ·exact .slnil _ _
 ·exact .nilptr
 ·exact .fn _
 ·exact .undef _
theorem Y2i (v : Value) : Z06 w G β v (Zcg v):=by
 unfold Zcg
 split
 ·split
  ·rename_i vs hv
   refine .agg vs _ (by simp) (fun j v hj=>?_) (fun j v d hj hd=>?_)
   ·exact List.all_eq_true.1 hv v (List.mem_of_getElem? (i:=j) (by simpa using hj))
   ·simp only [List.getElem?_map,Array.getElem?_toList,hj,Option.map_some,Option.some.injEq] at hd
    subst hd
    exact Zpk v
  ·exact .undef _
 ·exact Zpk _
theorem Z3d (h : Z05 Γ σ a w G β) (x : Operand) : Z06 w G β (a.eval x) (σ.ev x):=by
 cases x with
 | tmp t=>exact h.tmps t
 | const v=>exact Y2i v
 | global g=>exact .undef _
 | func f=>exact .fn f
theorem Z46 {v : Value} {k : IntKind} {n : Int} (h : Z06 w G β v (.int k n)) : v = .int k n:=by cases h; rfl
theorem Z7e {v : Value} {b : Bool} (h : Z06 w G β v (.bool b)) : v = .bool b:=by cases h; rfl
theorem Z78 {v : Value} {s : List UInt8} (h : Z06 w G β v (.str s)) : ∃ b : ByteArray,v = .string b ∧ b.data.toList = s:=by cases h; exact ⟨_,rfl,rfl⟩
theorem Z58 {v : Value} {cs : List D} (h : Z06 w G β v (.agg cs)) : ∃ vs,v = .agg vs ∧ cs.length = vs.size ∧ (∀ (j : Nat) v,vs[j]? = some v → one v = true) ∧
  (∀ (j : Nat) v d,vs[j]? = some v → cs[j]? = some d → Z06 w G β v d):=by cases h; exact ⟨_,rfl,‹_›,‹_›,‹_›⟩
theorem Z44 {k : IntKind} {n : Int} {ans : Ans} {d : D} {p : Prop} (h : Z42 k n ans = some (d,p)) (hp : p) : Z06 w G β (.int k n) d:=by
 unfold Z42 at h
 split at h
 ·cases h; exact .int _ _
 ·split at h
  ·cases h; rw [show n = _ from hp]; rename_i hk; subst hk; exact .int _ _
  ·cases h
 ·cases h
theorem Z6w {b : Bool} {ans : Ans} {d : D} {p : Prop} (h : Z5i b ans = some (d,p)) (hp : p) : Z06 w G β (.bool b) d:=by
 unfold Z5i at h
 split at h
 ·cases h; exact .bool _
 ·cases h; rw [show b = _ from hp]; exact .bool _
 ·cases h
theorem Zwr {s : ByteArray} {l : List UInt8} (hs : s.data.toList = l) {ans : Ans} {d : D} {p : Prop} (h : strD l ans = some (d,p)) (hp : p) : Z06 w G β (.string s) d:=by
 unfold strD at h
 split at h
 ·cases h; exact Zd5 _ _ hs
 ·cases h; exact Zd5 _ _ (hs.trans hp)
 ·cases h
def Z3h (P : Program) (w : World) (G : Nat → Nat) (β : Nat → Option (Nat × Nat)) (s : Sem Value) (d : D) : Prop:=∃ v,s.run P w = .ok v w ∧ Z06 w G β v d
theorem Z26 {α β : Type} {o : Option α} {f : α → β} {b : β} (h : o.map f = some b) : ∃ x,o = some x ∧ f x = b:=by
 cases o with
 | none=>cases h
 | some x=>exact ⟨x,rfl,by injection h⟩
theorem Y47 {op : BinOp} (h1 : op ≠ .shl) (h2 : op ≠ .shr) {k : IntKind} {x y : Int} {ans : Ans} {d : D} {p : Prop} (h : Zp5 op k x y ans = some (d,p)) (hp : p) (t : TypeId) :
  Z3h P w G β (Go.binOp op t (.int k x) (.int k y)) d:=by
 cases op with
 | shl=>exact absurd rfl h1
 | shr=>exact absurd rfl h2
 | add=>exact ⟨_,by simp [binOp,Op.intArith],Z44 h hp⟩
 | sub=>exact ⟨_,by simp [binOp,Op.intArith],Z44 h hp⟩
 | mul=>exact ⟨_,by simp [binOp,Op.intArith],Z44 h hp⟩
 | quo=>
  obtain ⟨z,hz,hd⟩:=Z26 h
  cases hd
  obtain ⟨hb,hp⟩:=hp
  exact ⟨_,by simp [binOp,Op.intDiv,hb],Z44 hz hp⟩
 | rem=>
  obtain ⟨z,hz,hd⟩:=Z26 h
  cases hd
  obtain ⟨hb,hp⟩:=hp
  exact ⟨_,by simp [binOp,Op.intDiv,hb],Z44 hz hp⟩
 | and=>exact ⟨_,by simp [binOp,Op.intBits],Z44 h hp⟩
 | or=>exact ⟨_,by simp [binOp,Op.intBits],Z44 h hp⟩
 | xor=>exact ⟨_,by simp [binOp,Op.intBits],Z44 h hp⟩
 | andNot=>exact ⟨_,by simp [binOp,Op.intBits],Z44 h hp⟩
 | eql=>exact ⟨_,by simp [binOp,Op.intCmp],Z6w h hp⟩
 | neq=>exact ⟨_,by simp [binOp,Op.intCmp],Z6w h hp⟩
 | lss=>exact ⟨_,by simp [binOp,Op.intCmp],Z6w h hp⟩
 | leq=>exact ⟨_,by simp [binOp,Op.intCmp],Z6w h hp⟩
 | gtr=>exact ⟨_,by simp [binOp,Op.intCmp],Z6w h hp⟩
 | geq=>exact ⟨_,by simp [binOp,Op.intCmp],Z6w h hp⟩
theorem Zvg {op : BinOp} {k k' : IntKind} {x y : Int} {ans : Ans} {d : D} {p : Prop} (h : Znd op k x y ans = some (d,p)) (hp : p) (t : TypeId) :
  Z3h P w G β (Go.binOp op t (.int k x) (.int k' y)) d:=by
 unfold Znd at h
 split at h
 ·obtain ⟨z,hz,hd⟩:=Z26 h
  cases hd
  obtain ⟨hb,hp⟩:=hp
  exact ⟨_,by simp [binOp,Op.shift,Int.not_lt.2 hb],Z44 hz hp⟩
 ·obtain ⟨z,hz,hd⟩:=Z26 h
  cases hd
  obtain ⟨hb,hp⟩:=hp
  exact ⟨_,by simp [binOp,Op.shift,Int.not_lt.2 hb],Z44 hz hp⟩
 ·cases h
theorem Y0c {op : BinOp} {x y : ByteArray} {ans : Ans} {d : D} {p : Prop} (h : Zfo op x.data.toList y.data.toList ans = some (d,p)) (hp : p) (t : TypeId) :
  Z3h P w G β (Go.binOp op t (.string x) (.string y)) d:=by
 unfold Zfo at h
 split at h
 ·obtain ⟨z,hz,hd⟩:=Z26 h
  cases hd
  obtain ⟨hb,hp⟩:=hp
  refine ⟨.string (x ++ y),?_,Zwr (by simp) hz hp⟩
  have hb' : ¬ (((x.size + y.size : Nat) : Int) > IntKind.i64.max):=by
   have h0 : IntKind.i64.max = 9223372036854775807:=rfl
   rw [h0]
   have e1 : x.data.toList.length = x.size:=rfl
   have e2 : y.data.toList.length = y.size:=rfl
   omega
  simp only [binOp,Op.stringOp,if_neg hb']
  simp
 all_goals first
  | exact ⟨_,by simp [binOp,Op.stringOp,ByteArray.toList_eq],Z6w h hp⟩
  | cases h
theorem Za1 {op : BinOp} {t : TypeId} {x y : Operand} {u v : Value} (h1 : ∀ cs,u ≠ .agg cs) (h2 : u ≠ .nilIface) : (eqGuard op t x y u v).run P w = .ok () w:=by
 cases op <;> first | rfl | (cases u <;> first | rfl | exact absurd rfl (h1 _) | exact absurd rfl h2)
theorem Zzl {op : UnOp} {u : Value} {dx : D} (hx : Z06 w G β u dx) {ans : Ans} {d : D} {p : Prop} (h : unD op dx ans = some (d,p)) (hp : p) : Z3h P w G β (Op.unary op u) d:=by
 unfold unD at h
 split at h
 ·rw [Z46 hx]; exact ⟨_,by simp [Op.unary,Op.intArith],Z44 h hp⟩
 ·rw [Z7e hx]; exact ⟨_,by simp [Op.unary],Z6w h hp⟩
 ·cases h
theorem Zzj {src dst : TypeId} {u : Value} {dx : D} (hx : Z06 w G β u dx) {ans : Ans} {d : D} {p : Prop} (h : Zid P src dst dx ans = some (d,p)) (hp : p) : Z3h P w G β (convert src dst u) d:=by
 unfold Zid at h
 split at h
 ·rename_i h1 h2
  rw [Z46 hx]; exact ⟨_,by simp [convert,run_underlying h1,run_underlying h2,Conv.intToInt],Z44 h hp⟩
 ·rename_i h1 h2
  obtain ⟨s,rfl,rfl⟩:=Z78 hx
  cases h
  exact ⟨_,by simp [convert,run_underlying h1,run_underlying h2],.str _⟩
 ·rename_i h1 h2
  rw [Z46 hx]; exact ⟨_,by simp [convert,run_underlying h1,run_underlying h2,Conv.intToString],Zwr rfl h hp⟩
 ·cases h
theorem Y2t {u v x : Value} {dc da db : D} (hc : Z06 w G β u dc) (ha : Z06 w G β v da) (hb : Z06 w G β x db) {ans : Ans} {d : D} {p : Prop} (h : Zjv dc da db ans = some (d,p)) (hp : p) :
  Z3h P w G β (do pure (if ← asBool u then v else x)) d:=by
 unfold Zjv at h
 split at h
 ·rw [Z7e hc]
  split at h
  ·cases h; exact ⟨v,by simp [asBool,show _ = true from hp],ha⟩
  ·cases h; exact ⟨x,by simp [asBool,show _ = false from hp],hb⟩
  ·split at h
   ·cases h; exact ⟨v,by simp [asBool],ha⟩
   ·cases h; exact ⟨x,by simp [asBool],hb⟩
 ·cases h
theorem Z5u {t : TypeId} {n : Nat} (h : Z43 P t = some n) (w : World) : (sizeOf t).run P w = .ok n w:=by
 unfold Z43 at h
 obtain ⟨i,hi,rfl⟩:=Z26 h
 simp [sizeOf,typeInfo,hi]
theorem Zi4 {t : TypeId} {b : Bool} (h : aggT P t = some b) (w : World) : (isAgg t).run P w = .ok b w:=by
 unfold aggT at h
 split at h
 ·cases h; rename_i hu; simp [isAgg,run_underlying hu]
 ·cases h; rename_i hu; simp [isAgg,run_underlying hu]
 ·cases h; rename_i d h1 h2 hu
  simp only [isAgg,Sem.run_bind,run_underlying hu,Result.andThen_ok]
  rfl
 ·cases h
def CRep (w : World) (G : Nat → Nat) (β : Nat → Option (Nat × Nat)) (b off : Nat) (cs : List D) : Prop:=
 ∀ (j : Nat) d,cs[j]? = some d → ∃ v,w.cell? ⟨b,off + j,none⟩ = some v ∧ one v = true ∧ Z06 w G β v d
theorem Addr.add_none (b o n : Nat) : (⟨b,o,none⟩ : Addr).add n = ⟨b,o + n,none⟩:=by
 unfold Addr.add
 split
 ·subst_vars; rfl
 ·rfl
theorem Y2o {t : TypeId} {b off : Nat} {cs : List D} (h : CRep w G β b off cs) {d : D} (hd : Z7u P t cs 0 = some d) : Z3h P w G β (loadVar t ⟨b,off,none⟩) d:=by
 unfold Z7u at hd
 split at hd
 ·rename_i s h1 h2
  split at hd
  ·rename_i hl
   cases hd
   simp only [List.drop_zero] at hl ⊢
   have hs : s ≤ cs.length:=by simp at hl; omega
   have hex : ∀ j,j < s → ∃ v,w.cell? ⟨b,off + j,none⟩ = some v ∧ one v = true ∧ ∀ d,cs[j]? = some d → Z06 w G β v d:=fun j hj=>by
    obtain ⟨v,a1,a2,a3⟩:=h j cs[j] (List.getElem?_eq_getElem (by omega))
    exact ⟨v,a1,a2,fun d hd=>by rw [List.getElem?_eq_getElem (by omega)] at hd; cases hd; exact a3⟩
   let f : Nat → Value:=fun j=>if hj : j < s then Classical.choose (hex j hj) else Go.undef
   have hf : ∀ j,(hj : j < s) → w.cell? ⟨b,off + j,none⟩ = some (f j) ∧ one (f j) = true ∧ ∀ d,cs[j]? = some d → Z06 w G β (f j) d:=fun j hj=>by
    have:=Classical.choose_spec (hex j hj)
    simpa [f,hj] using this
   refine ⟨.agg ((List.range s).map f).toArray,?_,?_⟩
   ·simp only [loadVar,Sem.run_bind,Zi4 h1,Result.andThen_ok,if_true,Z5u h2]
    have:=run_loadCells (P:=P) w ⟨b,off,none⟩ s f (fun j hj=>by rw [Addr.add_none]; exact (hf j hj).1)
    simp [this]
   ·refine .agg _ _ (by simp [hs]) (fun j v hj=>?_) (fun j v d hj hd=>?_)
    ·by_cases hjs : j < s
     ·simp [hjs] at hj; subst hj; exact (hf j hjs).2.1
     ·simp [hjs] at hj
    ·by_cases hjs : j < s
     ·simp [hjs] at hj; subst hj
      rw [List.getElem?_take_of_lt hjs] at hd
      exact (hf j hjs).2.2 d hd
     ·simp [hjs] at hj
  ·cases hd
 ·rename_i h1 h2
  obtain ⟨v,a1,a2,a3⟩:=h 0 d hd
  refine ⟨v,?_,a3⟩
  simp only [loadVar,Sem.run_bind,Zi4 h1,Result.andThen_ok]
  simp [show w.cell? ⟨b,off,none⟩ = some v from a1]
 ·cases hd
theorem Zqy (hC : Z05 Γ σ a w G β) {u : Value} {x : D} (hx : Z06 w G β u x) {ans : Ans} {cs : List D} {p : Prop} (h : Z70 σ x ans = some (cs,p)) (hp : p) :
  ∃ b off,u = .pointer (some ⟨b,off,none⟩) ∧ CRep w G β b off cs:=by
 unfold Z70 at h
 split at h
 ·cases h
  cases hx with
  | ptr b off cs val himm hcell hone hdat hrep=>
   refine ⟨b,off,rfl,fun j d hd=>?_⟩
   have hj : j < cs.length:=by
    rcases Nat.lt_or_ge j cs.length with h | h
    ·exact h
    ·rw [List.getElem?_eq_none h] at hd; cases hd
   exact ⟨_,hcell j hj,hone j hj,hrep j d hd⟩
 ·rename_i b i o
  cases hx with
  | lptr _ _ _ c sz hβ=>
   split at h
   ·rename_i blk hblk
    rcases hC.heap b blk hblk with ⟨h0,-⟩ | ⟨c',h0,hB⟩
    ·rw [h0] at hβ; cases hβ
    ·rw [h0] at hβ; cases hβ
     obtain ⟨vs,e,fr,hh,-,-,hcells⟩:=hB.cells
     have key : ∀ r,blk.rows[i]? = some r → CRep w G β c (i * blk.sz + o) (r.drop o):=fun r hr j d hd=>by
      rw [List.getElem?_drop] at hd
      obtain ⟨v,h1,h2,h3⟩:=hcells i (o + j) r d hr hd
      refine ⟨v,?_,h2,h3⟩
      simp only [World.cell?,hh]
      simpa [Nat.add_assoc] using h1
     refine ⟨c,i * blk.sz + o,rfl,?_⟩
     split at h
     ·cases h; exact key _ hp
     ·split at h
      ·cases h; exact key _ (by assumption)
      ·cases h
   ·cases h
 ·cases h
theorem Zrv (hC : Z05 Γ σ a w G β) {u : Value} {x : D} (hx : Z06 w G β u x) {t : TypeId} {ans : Ans} {d : D} {p : Prop} (h : Z5o P σ t x ans = some (d,p)) (hp : p) :
  Z3h P w G β (Instr.loadAt t u) d:=by
 unfold Z5o at h
 split at h
 ·rename_i cs q hq
  split at h
  ·rename_i d' hd
   cases h
   obtain ⟨b,off,rfl,hc⟩:=Zqy hC hx hq hp
   obtain ⟨v,h1,h2⟩:=Y2o hc hd
   exact ⟨v,by simpa [Instr.loadAt,Instr.sureAddr] using h1,h2⟩
  ·cases h
 ·cases h
theorem Z06.ptr_drop {b off : Nat} {cs : List D} {val : Nat → Value} (himm : ∀ j,j < cs.length → off + j < G b)
  (hcell : ∀ j,j < cs.length → w.cell? ⟨b,off + j,none⟩ = some (val j)) (hone : ∀ j,j < cs.length → one (val j) = true) (hdat : ∀ (j : Nat) d,cs[j]? = some d → d.dat = true)
  (hrep : ∀ (j : Nat) d,cs[j]? = some d → Z06 w G β (val j) d) (n : Nat) : Z06 w G β (.pointer (some ⟨b,off + n,none⟩)) (.ptr (cs.drop n)):=by
 refine .ptr b (off + n) _ (fun j=>val (n + j)) (fun j hj=>?_) (fun j hj=>?_) (fun j hj=>?_) (fun j d hd=>by rw [List.getElem?_drop] at hd; exact hdat _ d hd) (fun j d hd=>?_)
 ·simp at hj; have:=himm (n + j) (by omega); omega
 ·simp at hj; have:=hcell (n + j) (by omega); rwa [Nat.add_assoc]
 ·simp at hj; exact hone _ (by omega)
 ·rw [List.getElem?_drop] at hd; exact hrep _ d hd
theorem Y1a {u : Value} {x : D} (hx : Z06 w G β u x) {s : TypeId} {f : Nat} {d : D} (h : Zq4 P s x f = some d) : Z3h P w G β (Instr.fieldAt s u f) d:=by
 unfold Zq4 Ziy at h
 split at h
 ·rename_i off t hf
  split at hf
  ·rename_i fs hu
   split at hf
   ·rename_i y hy
    cases hf
    split at h
    ·rename_i n hsz
     have run : ∀ ad : Addr,ad.spot = none → (Instr.fieldAt s (.pointer (some ad)) f).run P w = .ok (.pointer (some ⟨ad.block,ad.off + y.offset,none⟩)) w:=fun ad had=>by
      obtain ⟨bb,oo,ss⟩:=ad
      cases had
      simp [Instr.fieldAt,run_underlying hu,hy,Instr.sureAddr,fieldPlace,Z5u hsz,Addr.add_none]
     split at h
     ·cases h
      cases hx with
      | ptr b off cs val himm hcell hone hdat hrep=>
       exact ⟨_,run _ rfl,Z06.ptr_drop himm hcell hone hdat hrep _⟩
     ·cases h
      cases hx with
      | lptr _ _ _ c sz hβ=>exact ⟨_,run _ rfl,by simp only [Nat.add_assoc]; exact .lptr _ _ _ c sz hβ⟩
     ·cases h
    ·cases h
   ·cases hf
  ·cases hf
 ·cases h
theorem Y3b {α : Type} {l : List α} {i : Int} {x : α} (h : Z08 l i = some x) : ∃ n : Nat,i = n ∧ l[n]? = some x ∧ n < l.length:=by
 unfold Z08 at h
 split at h
 ·rename_i h0
  refine ⟨i.toNat,by omega,h,?_⟩
  rcases Nat.lt_or_ge i.toNat l.length with h1 | h1
  ·exact h1
  ·rw [List.getElem?_eq_none h1] at h; cases h
 ·cases h
theorem Zyq {t e : TypeId} {sz : Nat} (hu : P.underlying t = some (.slice e)) (hs : Z43 P e = some sz) (b o len cap : Nat) (k : IntKind) (i : Int) (h0 : 0 ≤ i) (h1 : i < len) :
  (Instr.indexAt t (.slice (some ⟨b,o,none⟩) len cap) (.int k i)).run P w = .ok (.pointer (some ⟨b,o + i.toNat * sz,none⟩)) w:=by
 simp [Instr.indexAt,asIntOf,run_underlying hu,h0,h1,Z5u hs,Addr.add_none]
theorem Zrs {t e : TypeId} {n sz : Nat} (hu : P.underlying t = some (.array n e)) (hs : Z43 P e = some sz) (b o : Nat) (k : IntKind) (i : Int) (h0 : 0 ≤ i) (h1 : i < n) :
  (Instr.indexAt t (.pointer (some ⟨b,o,none⟩)) (.int k i)).run P w = .ok (.pointer (some ⟨b,o + i.toNat * sz,none⟩)) w:=by
 simp [Instr.indexAt,asIntOf,run_underlying hu,h0,h1,Z5u hs,Addr.add_none,Instr.sureAddr]
theorem Y3d (hC : Z05 Γ σ a w G β) {u v : Value} {x i : D} (hx : Z06 w G β u x) (hi : Z06 w G β v i) {t : TypeId} {ans : Ans} {d : D} {p : Prop}
  (h : Z7h P σ t x i ans = some (d,p)) (hp : p) : Z3h P w G β (Instr.indexAt t u v) d:=by
 unfold Z7h at h
 split at h
 ·rename_i k i
  rw [Z46 hi]
  split at h
  ·rename_i e hu
   split at h
   ·rename_i sz hsz
    split at h
    ·rename_i c rows
     have key : ∀ r,Z08 rows i = some r → r.length = sz → Z3h P w G β (Instr.indexAt t u (.int k i)) (.ptr r):=fun r hr hl=>by
      obtain ⟨n,rfl,hn,hlt⟩:=Y3b hr
      cases hx with
      | slnil=>simp at hlt
      | sl _ b off m cap sz' _ val hm hc hcap hsz' himm hcell hone hdat hrep=>
       have : sz' = sz:=by rw [← hsz' n r hn]; exact hl
       subst this
       refine ⟨_,Zyq hu hsz b off m cap k n (by omega) (by omega),?_⟩
       simp only [Int.toNat_natCast]
       refine .ptr b _ r (val n) (fun j hj=>?_) (fun j hj=>?_) (fun j hj=>?_) (fun j d hd=>hdat n j r d hn hd) (fun j d hd=>hrep n j r d hn hd)
       ·exact himm n j (by omega) (by omega)
       ·exact hcell n j (by omega) (by omega)
       ·exact hone n j (by omega) (by omega)
     split at h
     ·split at h
      ·cases h; exact key _ hp (by assumption)
      ·cases h
     ·split at h
      ·split at h
       ·cases h; exact key _ (by assumption) (by assumption)
       ·cases h
      ·cases h
    ·rename_i b lo n
     split at h
     ·rename_i blk hblk
      split at h
      ·rename_i hbs
       have key : 0 ≤ i → i < n → ∀ j : Nat,(lo : Int) + i = j → Z3h P w G β (Instr.indexAt t u (.int k i)) (.lptr b j 0):=fun h0 h1 j hj=>by
        cases hx with
        | lslnil=>simp at h1; omega
        | lsl _ _ _ cap c sz' off hβ hcap hoff hroom=>
         have hsz'' : sz' = sz:=by
          rcases hC.heap b blk hblk with ⟨h0,-⟩ | ⟨c',h0,hB⟩
          ·rw [h0] at hβ; cases hβ
          ·rw [h0] at hβ; cases hβ; exact hbs
         subst hsz''
         obtain rfl : off = lo * sz':=hoff.resolve_left (by omega)
         refine ⟨_,Zyq hu hsz c _ n cap k i h0 h1,?_⟩
         have : lo * sz' + i.toNat * sz' = j * sz' + 0:=by
          rw [← Nat.add_mul]; congr 1; omega
         rw [this]
         exact .lptr b j 0 c sz' hβ
       split at h
       ·split at h
        ·cases h; rename_i hb; subst hb; exact key hp.1 hp.2.1 _ hp.2.2
        ·cases h
       ·cases h; exact key hp.1 hp.2 _ (by omega)
      ·cases h
     ·cases h
    ·cases h
   ·cases h
  ·rename_i len e hu
   split at h
   ·rename_i sz hsz
    split at h
    ·cases h
     cases hx with
     | lptr _ _ _ c sz' hβ=>exact ⟨_,Zrs hu hsz _ _ k i hp.1 hp.2,by simp only [Nat.add_assoc]; exact .lptr _ _ _ c sz' hβ⟩
    ·cases h
     cases hx with
     | ptr b off cs val himm hcell hone hdat hrep=>exact ⟨_,Zrs hu hsz _ _ k i hp.1 hp.2,Z06.ptr_drop himm hcell hone hdat hrep _⟩
    ·cases h
   ·cases h
  ·cases h
 ·cases h
theorem Zk8 {t : TypeId} {vs : Array Value} {cs : List D} {off : Nat} (hn : cs.length = vs.size) (hone : ∀ (j : Nat) v,vs[j]? = some v → one v = true)
  (hrep : ∀ (j : Nat) v d,vs[j]? = some v → cs[j]? = some d → Z06 w G β v d) {d : D} (h : Z7u P t cs off = some d) : Z3h P w G β (part t vs off) d:=by
 unfold Z7u at h
 split at h
 ·rename_i s h1 h2
  split at h
  ·rename_i hl
   cases h
   have hs : off + s ≤ vs.size ∨ s = 0:=by simp at hl; omega
   refine ⟨.agg (vs.extract off (off + s)),by simp [part,Zi4 h1,Z5u h2],?_⟩
   refine .agg _ _ (by rw [hl]; simp; omega) (fun j v hj=>?_) (fun j v d hj hd=>?_)
   ·rw [Array.getElem?_extract] at hj
    split at hj
    ·exact hone _ v hj
    ·cases hj
   ·rw [Array.getElem?_extract] at hj
    split at hj
    ·rename_i hjs
     have hjs' : j < s:=by omega
     rw [List.getElem?_take_of_lt hjs',List.getElem?_drop] at hd
     exact hrep _ v d hj hd
    ·cases hj
  ·cases h
 ·rename_i s h1 h2
  have hlt : off < vs.size:=by
   rcases Nat.lt_or_ge off cs.length with h' | h'
   ·omega
   ·rw [List.getElem?_eq_none h'] at h; cases h
  refine ⟨vs[off],?_,hrep off _ d (Array.getElem?_eq_getElem hlt) h⟩
  simp [part,Zi4 h1,Array.getElem?_eq_getElem hlt]
 ·cases h
theorem Zyp {f : TypeId → D → D → Option (Bool × Prop)} {n : Nat} (hf : ∀ t x y u v r p,f t x y = some (r,p) → p → Z06 w G β u x → Z06 w G β v y → (Op.equalIn n t u v).run P w = .ok r w)
  {us vs : Array Value} {xs ys : List D} (hn : xs.length = us.size) (hone : ∀ (j : Nat) v,us[j]? = some v → one v = true) (hrep : ∀ (j : Nat) v d,us[j]? = some v → xs[j]? = some d → Z06 w G β v d)
  (hn' : ys.length = vs.size) (hone' : ∀ (j : Nat) v,vs[j]? = some v → one v = true) (hrep' : ∀ (j : Nat) v d,vs[j]? = some v → ys[j]? = some d → Z06 w G β v d) :
  ∀ (fs : List Field) {r : Bool} {p : Prop},Zkr P f xs ys fs = some (r,p) → p → (Op.eqFields n us vs fs).run P w = .ok r w
 | [],r,p,h,_=>by cases h; simp [Op.eqFields]
 | x :: fs,r,p,h,hp=>by
  unfold Zkr at h
  split at h
  ·rename_i a b ha hb
   split at h
   ·rename_i r1 p1 r2 p2 h1 h2
    cases h
    obtain ⟨u,e1,g1⟩:=Zk8 (P:=P) hn hone hrep ha
    obtain ⟨v,e2,g2⟩:=Zk8 (P:=P) hn' hone' hrep' hb
    have e3:=hf _ _ _ _ _ _ _ h1 hp.2.1 g1 g2
    have e4:=Zyp hf hn hone hrep hn' hone' hrep' fs h2 hp.2.2
    simp only [Op.eqFields,if_pos hp.1,Sem.run_bind,e1,e2,e3,Result.andThen_ok]
    cases r1
    ·simp
    ·simpa using e4
   ·cases h
  ·cases h
theorem Znt (d : Nat) : ∀ (m : Nat) {t : TypeId} {x y : D} {u v : Value} {r : Bool} {p : Prop},Zj4 P m t x y = some (r,p) → p → Z06 w G β u x → Z06 w G β v y → (Op.equalIn (d + m) t u v).run P w = .ok r w
 | 0,_,_,_,_,_,_,_,h,_,_,_=>by cases h
 | m + 1,t,x,y,u,v,r,p,h,hp,hu,hv=>by
  unfold Zj4 at h
  rw [show d + (m + 1) = (d + m) + 1 from rfl]
  split at h
  ·rename_i ht; cases h; rw [Z7e hu,Z7e hv]; exact run_equalIn_bool' w _ _ _ _ ht
  ·rename_i ht
   split at h
   ·rename_i hk
    cases h; subst hk; rw [Z46 hu,Z46 hv]; exact run_equalIn_int w _ _ _ _ _ _ ht
   ·cases h
  ·rename_i ht
   cases h
   obtain ⟨s,rfl,rfl⟩:=Z78 hu
   obtain ⟨s',rfl,rfl⟩:=Z78 hv
   rw [run_equalIn_string w _ _ _ _ ht,ByteArray.toList_eq,ByteArray.toList_eq]
  ·rename_i fs _ _ ht
   split at h
   ·rename_i r1 p1 h1
    cases h
    obtain ⟨us,rfl,hn,hone,hrep⟩:=Z58 hu
    obtain ⟨vs,rfl,hn',hone',hrep'⟩:=Z58 hv
    have hfs : P.fieldsOf t = fs:=by simp [Program.fieldsOf,ht]
    rw [run_equalIn_agg w _ _ _ _ (by rw [hfs]; exact ht) hp.1,hfs]
    exact Zyp (n:=d + m) (fun t x y u v r p h hp hu hv=>Znt d m h hp hu hv) hn hone hrep hn' hone' hrep' _ h1 hp.2
   ·cases h
  ·cases h
theorem Zq6 {v : Value} (h : Z06 w G β v .nilptr) : v = .pointer none:=by cases h; rfl
theorem Zmx {op : BinOp} {xt : TypeId} {x y : Operand} {u v : Option Addr} {same : Bool} {d : D} {p : Prop} (h : ptrD P op xt same = some (d,p))
  (hr : ∀ te j,P.underlying xt = some (.pointer te) → P.info? te = some j → (∀ d : Nat,(Op.equalIn (d + 1) xt (.pointer u) (.pointer v)).run P w = .ok same w) ∧ (∀ d : Nat,(Op.equalIn (d + 1) xt (.pointer u) (.pointer v)).run P w = .ok same w)) :
  Z3h P w G β (do eqGuard op xt x y (.pointer u) (.pointer v); Go.binOp op xt (.pointer u) (.pointer v)) d:=by
 unfold ptrD at h
 split at h
 ·rename_i te hu
  split at h
  ·rename_i j hj
   have key:=(hr te j hu hj).1 9999
   split at h
   ·cases h
    exact ⟨.bool same,by rw [Sem.run_bind,Za1 (by intro cs h; cases h) (by intro h; cases h)]; simp only [binOp]; simp [Op.equal,Op.maxDepth,key],.bool _⟩
   ·cases h
    exact ⟨.bool (!same),by rw [Sem.run_bind,Za1 (by intro cs h; cases h) (by intro h; cases h)]; simp only [binOp]; simp [Op.equal,Op.maxDepth,key],.bool _⟩
   ·cases h
  ·cases h
 ·cases h
theorem Y37 {op : BinOp} {xt : TypeId} {x y : Operand} {u v : Value} {dx dy : D} (hx : Z06 w G β u dx) (hy : Z06 w G β v dy) {ans : Ans} {d : D} {p : Prop}
  (h : binD P op xt dx dy ans = some (d,p)) (hp : p) : Z3h P w G β (do eqGuard op xt x y u v; Go.binOp op xt u v) d:=by
 unfold binD at h
 split at h
 ·rw [Z46 hx,Z46 hy]
  have key : ∀ k n,(eqGuard op xt x y (.int k n) v).run P w = .ok () w:=fun k n=>Za1 (by intro cs h; cases h) (by intro h; cases h)
  rw [Z46 hy] at key
  split at h
  ·obtain ⟨r,hr,hd⟩:=Zvg h hp xt (P:=P) (w:=w) (G:=G) (β:=β)
   exact ⟨r,by rw [Sem.run_bind,key]; exact hr,hd⟩
  ·obtain ⟨r,hr,hd⟩:=Zvg h hp xt (P:=P) (w:=w) (G:=G) (β:=β)
   exact ⟨r,by rw [Sem.run_bind,key]; exact hr,hd⟩
  ·split at h
   ·rename_i hk
    subst hk
    obtain ⟨r,hr,hd⟩:=Y47 (by assumption) (by assumption) h hp xt (P:=P) (w:=w) (G:=G) (β:=β)
    exact ⟨r,by rw [Sem.run_bind,key]; exact hr,hd⟩
   ·cases h
 ·obtain ⟨s,rfl,rfl⟩:=Z78 hx
  obtain ⟨s',rfl,rfl⟩:=Z78 hy
  obtain ⟨r,hr,hd⟩:=Y0c h hp xt (P:=P) (w:=w) (G:=G) (β:=β)
  exact ⟨r,by rw [Sem.run_bind,Za1 (by intro cs h; cases h) (by intro h; cases h)]; exact hr,hd⟩
 ·rw [Z7e hx,Z7e hy]
  split at h
  ·rename_i hb
   split at h
   ·exact ⟨_,by rw [Sem.run_bind,Za1 (by intro cs h; cases h) (by intro h; cases h)]; simp [run_eql_bool _ _ _ _ hb],Z6w h hp⟩
   ·exact ⟨_,by rw [Sem.run_bind,Za1 (by intro cs h; cases h) (by intro h; cases h)]; simp [run_neq_bool _ _ _ _ hb],Z6w h hp⟩
   ·cases h
  ·cases h
 ·obtain ⟨us,rfl,hn,hone,hrep⟩:=Z58 hx
  obtain ⟨vs,rfl,hn',hone',hrep'⟩:=Z58 hy
  split at h
  ·rename_i r q c hr
   split at h
   ·cases h
    have e:=Znt 9994 6 hr hp.2.1 (.agg us _ hn hone hrep) (.agg vs _ hn' hone' hrep')
    exact ⟨.bool r,by rw [Sem.run_bind,run_eqGuard_agg w _ _ _ _ _ _ hp.1,Result.andThen_ok,run_eql_struct,e]; rfl,by rw [hp.2.2]; exact .bool _⟩
   ·cases h
    have e:=Znt 9994 6 hr hp.2.1 (.agg us _ hn hone hrep) (.agg vs _ hn' hone' hrep')
    exact ⟨.bool (!r),by rw [Sem.run_bind,run_eqGuard_agg w _ _ _ _ _ _ hp.1,Result.andThen_ok,run_neq_struct,e]; rfl,by rw [hp.2.2]; exact .bool _⟩
   ·cases h
  ·cases h
 ·obtain rfl:=Zq6 hx
  obtain rfl:=Zq6 hy
  exact Zmx h (fun te j h1 h2=>⟨fun d=>by simp [Op.equalIn,run_underlying h1],fun d=>by simp [Op.equalIn,run_underlying h1]⟩)
 ·obtain rfl:=Zq6 hy
  cases hx with
  | lptr b i o c sz hβ=>
   exact Zmx h (fun te j h1 h2=>⟨fun d=>by simp [Op.equalIn,run_underlying h1],fun d=>by simp [Op.equalIn,run_underlying h1]⟩)
 ·rename_i b i o b' i' o'
  split at h
  ·rename_i hb
   simp only [Bool.and_eq_true] at hb
   obtain rfl:=Nat.eq_of_beq_eq_true hb.1.1
   obtain rfl:=Nat.eq_of_beq_eq_true hb.1.2
   obtain rfl:=Nat.eq_of_beq_eq_true hb.2
   cases hx with
   | lptr _ _ _ c sz hβ=>
    cases hy with
    | lptr _ _ _ c' sz' hβ'=>
     rw [hβ] at hβ'; cases hβ'
     have key : ∀ te j,P.underlying xt = some (.pointer te) → P.info? te = some j → ∀ d : Nat,(Op.equalIn (d + 1) xt (.pointer (some ⟨c,i * sz + o,none⟩)) (.pointer (some ⟨c,i * sz + o,none⟩))).run P w = .ok true w:=fun te j h1 h2 d=>by
      simp [Op.equalIn,run_underlying h1,sizeOf,typeInfo,h2,run_sameAddr_same]
     exact Zmx h (fun te j h1 h2=>⟨key te j h1 h2,key te j h1 h2⟩)
  ·cases h
 ·cases h
theorem Y48 {u v : Value} {x i : D} (hx : Z06 w G β u x) (hi : Z06 w G β v i) {t : TypeId} {ans : Ans} {d : D} {p : Prop}
  (h : Zop P t x i ans = some (d,p)) (hp : p) : Z3h P w G β (Instr.index t u v) d:=by
 unfold Zop at h
 split at h
 ·rename_i k i
  rw [Z46 hi]
  split at h
  ·rename_i s hu
   obtain ⟨b,rfl,rfl⟩:=Z78 hx
   have key : ∀ c,Z2x b.data.toList i = some c → Z3h P w G β (Instr.index t (.string b) (.int k i)) (.int .u8 c):=fun c hc=>by
    unfold Z2x at hc
    split at hc
    ·rename_i h0
     obtain ⟨y,hy,rfl⟩:=Z26 hc
     refine ⟨.int .u8 y.toNat,?_,.int _ _⟩
     have hlt : i.toNat < b.size:=by
      rcases Nat.lt_or_ge i.toNat b.data.toList.length with h' | h'
      ·exact h'
      ·rw [List.getElem?_eq_none h'] at hy; cases hy
     have e : b[i.toNat]? = some y:=by
      have : b[i.toNat]? = b.data[i.toNat]? :=by
       rw [getElem?_pos b i.toNat hlt,getElem?_pos b.data i.toNat hlt]; rfl
      rw [this]; simpa using hy
     simp [Instr.index,asIntOf,run_underlying hu,h0,e]
    ·cases hc
   split at h
   ·cases h; exact key _ hp
   ·split at h
    ·cases h; exact key _ (by assumption)
    ·cases h
  ·rename_i len e cs hu
   obtain ⟨vs,rfl,hn,hone,hrep⟩:=Z58 hx
   split at h
   ·rename_i sz hsz
    split at h
    ·rename_i d' hd
     cases h
     obtain ⟨r,h1,h2⟩:=Zk8 hn hone hrep hd
     exact ⟨r,by simp [Instr.index,asIntOf,run_underlying hu,hp.1,hp.2,Z5u hsz,h1],h2⟩
    ·cases h
   ·cases h
  ·cases h
 ·cases h
theorem Zmg {α : Type} {l r : List α} {lo hi : Int} (h : sub l lo hi = some r) : ∃ a b : Nat,lo = a ∧ hi = b ∧ a ≤ b ∧ b ≤ l.length ∧ r = (l.drop a).take (b - a):=by
 unfold sub at h
 split at h
 ·rename_i hc
  cases h
  exact ⟨lo.toNat,hi.toNat,by omega,by omega,by omega,by omega,rfl⟩
 ·cases h
def BRel (x : Option Value) (n : Int) (dflt : Int) : Prop:=(x = none ∧ n = dflt) ∨ ∃ k,x = some (.int k n)
theorem Z68 {x : Option Operand} (hC : Z05 Γ σ a w G β) {dflt n : Int} (h : Z7v (x.map σ.ev) dflt = some n) : BRel (x.map a.eval) n dflt:=by
 cases x with
 | none=>cases h; exact .inl ⟨rfl,rfl⟩
 | some y=>
  simp only [Option.map_some,Z7v] at h
  split at h
  ·rename_i h'; cases h'
  ·rename_i k i h'
   cases h
   have h':=Option.some.inj h'
   have:=Z3d hC y
   rw [h'] at this
   exact .inr ⟨k,by simp [Z46 this]⟩
  ·cases h
theorem Z6t (x : Value) {k : IntKind} {n : Int} (hx : x = .int k n) (y : Nat) (code : BoundsCode) (h0 : 0 ≤ n) (h1 : n ≤ y) : (Instr.sliceBound x y code).run P w = .ok n.toNat w:=by
 subst hx; simp [Instr.sliceBound,asIntOf,h0,h1]
theorem Zi7 {isS : Bool} {len cap : Nat} {lo hi : Option Value} {l h : Int} (hl : BRel lo l 0) (hh : BRel hi h len) (h0 : 0 ≤ l) (h1 : l ≤ h) (h2 : h ≤ cap) :
  (Instr.sliceBounds isS len cap lo hi none).run P w = .ok (l.toNat,h.toNat,cap) w:=by
 have e1 : ∀ y : Nat,h ≤ y → ∀ code,(∃ k,hi = some (.int k h)) → (hi = none → False) → ∀ v,hi = some v → (Instr.sliceBound v y code).run P w = .ok h.toNat w:=fun y hy code hk _ v hv=>by
  obtain ⟨k,hk⟩:=hk
  rw [hk] at hv; cases hv
  exact Z6t _ rfl _ _ (by omega) hy
 rcases hl with ⟨rfl,rfl⟩ | ⟨kl,rfl⟩ <;> rcases hh with ⟨rfl,rfl⟩ | ⟨kh,rfl⟩
 ·simp [Instr.sliceBounds]
 ·simp [Instr.sliceBounds,Z6t (P:=P) (w:=w) _ rfl cap _ (by omega : (0:Int) ≤ h) h2]
 ·simp [Instr.sliceBounds,Z6t (P:=P) (w:=w) _ rfl len _ h0 h1]
 ·have e : ((h.toNat : Nat) : Int) = h:=by omega
  simp [Instr.sliceBounds,Z6t (P:=P) (w:=w) _ rfl cap _ (by omega : (0:Int) ≤ h) h2,Z6t (P:=P) (w:=w) _ rfl h.toNat _ h0 (by omega : l ≤ (h.toNat : Nat))]
theorem Y1p {len cap : Nat} {lo hi : Option Value} {l h m : Int} {mx : Value} {km : IntKind} (hm : mx = .int km m) (hl : BRel lo l 0) {kh : IntKind} (hh : hi = some (.int kh h)) (h0 : 0 ≤ l) (h1 : l ≤ h) (h2 : h ≤ m) (h3 : m ≤ cap) :
  (Instr.sliceBounds true len cap lo hi (some mx)).run P w = .ok (l.toNat,h.toNat,m.toNat) w:=by
 subst hm hh
 rcases hl with ⟨rfl,rfl⟩ | ⟨kl,rfl⟩
 ·simp [Instr.sliceBounds,Z6t (P:=P) (w:=w) _ rfl cap _ (by omega : (0:Int) ≤ m) h3,Z6t (P:=P) (w:=w) _ rfl m.toNat _ (by omega : (0:Int) ≤ h) (by omega : h ≤ (m.toNat : Nat))]
 ·simp [Instr.sliceBounds,Z6t (P:=P) (w:=w) _ rfl cap _ (by omega : (0:Int) ≤ m) h3,Z6t (P:=P) (w:=w) _ rfl m.toNat _ (by omega : (0:Int) ≤ h) (by omega : h ≤ (m.toNat : Nat)),
   Z6t (P:=P) (w:=w) _ rfl h.toNat _ h0 (by omega : l ≤ (h.toNat : Nat))]
theorem Zse {c c' : Bool} {v0 : Value} {rows : List (List D)} (h : Z06 w G β v0 (.sl c rows)) {a0 : Option Addr} {n cap : Nat} (hv : v0 = .slice a0 n cap) (l h' m : Nat) (h1 : l ≤ h') (h2 : h' ≤ n) (h3 : h' ≤ m) (h4 : m ≤ cap)
  (hc : c' = true → m = h') (size : Nat) (hsize : ∀ r ∈ rows,r.length = size) :
  Z06 w G β (.slice (if m = l then a0 else a0.map (·.add (l * size))) (h' - l) (m - l)) (.sl c' ((rows.drop l).take (h' - l))):=by
 cases h with
 | slnil=>
  cases hv
  rw [if_pos (show m = l by omega),show h' - l = 0 by omega,show m - l = 0 by omega]
  simp
  exact .slnil c' _
 | sl _ b off n' cap' sz _ val hn hcc hcap hsz himm hcell hone hdat hrep=>
  cases hv
  have hrow : ∀ i,i < n → sz = size:=fun i hi=>by
   have hi' : i < rows.length:=by omega
   rw [← hsz i rows[i] (List.getElem?_eq_getElem hi')]
   exact hsize _ (List.getElem_mem hi')
  have key : ∀ ad : Nat,(h' - l = 0 ∨ ad = off + l * sz) → Z06 w G β (.slice (some ⟨b,ad,none⟩) (h' - l) (m - l)) (.sl c' ((rows.drop l).take (h' - l))):=fun ad had=>by
   refine .sl c' b ad (h' - l) (m - l) sz _ (fun i j=>val (l + i) j) (by simp; omega) (fun hcc'=>by have:=hc hcc'; omega) (by omega) (fun i r hr=>?_) (fun i j hi hj=>?_) (fun i j hi hj=>?_) (fun i j hi hj=>?_) (fun i j r d hr hd=>?_) (fun i j r d hr hd=>?_)
   ·rw [List.getElem?_take] at hr
    split at hr
    ·rw [List.getElem?_drop] at hr; exact hsz _ r hr
    ·cases hr
   ·rw [had.resolve_left (by omega)]
    have:=himm (l + i) j (by omega) hj
    rw [Nat.add_mul] at this; omega
   ·rw [had.resolve_left (by omega)]
    have:=hcell (l + i) j (by omega) hj
    rw [← this,Nat.add_mul]; congr 2; omega
   ·exact hone _ j (by omega) hj
   ·rw [List.getElem?_take] at hr
    split at hr
    ·rw [List.getElem?_drop] at hr; exact hdat _ j r d hr hd
    ·cases hr
   ·rw [List.getElem?_take] at hr
    split at hr
    ·rw [List.getElem?_drop] at hr; exact hrep _ j r d hr hd
    ·cases hr
  by_cases hml : m = l
  ·rw [if_pos hml]
   exact key off (.inl (by omega))
  ·rw [if_neg hml]
   simp only [Option.map_some,Addr.add_none]
   refine key _ ?_
   by_cases hl : l < n
   ·rw [hrow l hl]; exact .inr rfl
   ·exact .inl (by omega)
theorem Zpl {c : Bool} {v0 : Value} {rows : List (List D)} (h : Z06 w G β v0 (.sl c rows)) : ∃ a0 cap,v0 = .slice a0 rows.length cap ∧ rows.length ≤ cap ∧ (c = true → cap = rows.length):=by
 cases h with
 | slnil _ x=>exact ⟨x,0,rfl,Nat.le_refl _,fun _=>rfl⟩
 | sl _ b off n cap sz _ val hn hcc hcap=>subst hn; exact ⟨_,cap,rfl,hcap,hcc⟩
theorem Y3f (hC : Z05 Γ σ a w G β) {u : Value} {x : D} (hx : Z06 w G β u x) {t : TypeId} {lo hi mx : Option Operand} {ans : Ans} {d : D} {p : Prop}
  (h : Z7y P σ t x (lo.map σ.ev) (hi.map σ.ev) (mx.map σ.ev) ans = some (d,p)) (hp : p) : Z3h P w G β (Instr.sliceAt t u (lo.map a.eval) (hi.map a.eval) (mx.map a.eval)) d:=by
 unfold Z7y at h
 split at h
 ·rename_i s hu
  obtain ⟨b,rfl,rfl⟩:=Z78 hx
  split at h
  ·rename_i l hh hmx hl hhi
   have hmx' : mx = none:=by cases mx <;> simp at hmx ⊢
   subst hmx'
   have key : ∀ r,sub b.data.toList l hh = some r → Z3h P w G β (Instr.sliceAt t (.string b) (lo.map a.eval) (hi.map a.eval) ((none : Option Operand).map a.eval)) (.str r):=fun r hr=>by
    obtain ⟨l',h',rfl,rfl,h1,h2,rfl⟩:=Zmg hr
    have e2 : b.data.toList.length = b.size:=rfl
    have:=Zi7 (P:=P) (w:=w) (isS:=false) (len:=b.size) (cap:=b.size) (Z68 hC hl) (Z68 hC hhi) (by omega) (by omega) (by omega)
    exact ⟨.string (b.extract l' h'),by simp [Instr.sliceAt,Instr.slice,run_underlying hu,this],Zd5 _ _ (Lib.extract_data b l' h')⟩
   split at h
   ·cases h; exact key _ hp
   ·split at h
    ·cases h; exact key _ (by assumption)
    ·cases h
  ·cases h
 ·rename_i e c rows hu
  split at h
  ·rename_i sz hsz
   obtain ⟨a0,cap,rfl,hcap,hcc⟩:=Zpl hx
   split at h
   ·rename_i l hh hmx hl hhi
    have hmx' : mx = none:=by cases mx <;> simp at hmx ⊢
    subst hmx'
    have key : ∀ r,(∀ x ∈ rows,x.length = sz) → sub rows l hh = some r → Z3h P w G β (Instr.sliceAt t (.slice a0 rows.length cap) (lo.map a.eval) (hi.map a.eval) ((none : Option Operand).map a.eval)) (.sl false r):=fun r hall hr=>by
     obtain ⟨l',h',rfl,rfl,h1,h2,rfl⟩:=Zmg hr
     have:=Zi7 (P:=P) (w:=w) (isS:=true) (len:=rows.length) (cap:=cap) (Z68 hC hl) (Z68 hC hhi) (by omega) (by omega) (by omega)
     refine ⟨_,by simp [Instr.sliceAt,Instr.slice,run_underlying hu,this,Z5u hsz]; rfl,?_⟩
     have:=Zse hx rfl l' h' cap h1 h2 (by omega) (by omega) (c':=false) (by intro h; cases h) sz hall
     simpa using this
    split at h
    ·cases h; exact key _ hp.1 hp.2
    ·split at h
     ·cases h; exact key _ hp (by assumption)
     ·cases h
   ·rename_i m' l hh hmx hl hhi
    split at h
    ·rename_i ho hov m hho hm
     cases mx with
     | none=>cases hmx
     | some mo=>
      simp only [Option.map_some,Option.some.injEq] at hmx
      subst hmx
      obtain ⟨km,hkm⟩ : ∃ km,a.eval mo = .int km m:=by
       have:=Z68 (x:=some mo) hC (dflt:=0) (by simpa using hm)
       rcases this with ⟨h0,-⟩ | ⟨k,h0⟩
       ·cases h0
       ·exact ⟨k,by simpa using h0⟩
      have key : ∀ r,(∀ x ∈ rows,x.length = sz) → m = hh → sub rows l hh = some r → Z3h P w G β (Instr.sliceAt t (.slice a0 rows.length cap) (lo.map a.eval) (hi.map a.eval) ((some mo : Option Operand).map a.eval)) (.sl true r):=fun r hall hmh hr=>by
       subst hmh
       obtain ⟨l',h',rfl,rfl,h1,h2,rfl⟩:=Zmg hr
       rcases Z68 hC hhi with ⟨h0,-⟩ | ⟨kh,h0⟩
       ·cases hi with
        | none=>cases hho
        | some _=>cases h0
       ·have:=Y1p (P:=P) (w:=w) (len:=rows.length) (cap:=cap) hkm (Z68 hC hl) h0 (by omega) (by omega) (by omega) (by omega)
        refine ⟨_,by simp [Instr.sliceAt,Instr.slice,run_underlying hu,this,Z5u hsz]; rfl,?_⟩
        have:=Zse hx rfl l' h' h' h1 h2 (by omega) (by omega) (c':=true) (by intro h; rfl) sz hall
        simpa using this
      split at h
      ·cases h; exact key _ hp.1 hp.2.1 hp.2.2
      ·split at h
       ·cases h; exact key _ hp.1 hp.2 (by assumption)
       ·cases h
    ·cases h
   ·cases h
  ·cases h
 ·rename_i e b l0 n hu
  split at h
  ·rename_i blk sz hblk hsz
   split at h
   ·rename_i hbs
    split at h
    ·rename_i l hh hmx hl hhi
     have hmx' : mx = none:=by cases mx <;> simp at hmx ⊢
     subst hmx'
     cases h
     obtain ⟨h0,h1,h2⟩:=hp
     cases hx with
     | lslnil _ ax=>
      have:=Zi7 (P:=P) (w:=w) (isS:=true) (len:=0) (cap:=0) (Z68 hC hl) (Z68 hC hhi) (by omega) (by omega) (by omega)
      have e1 : l = 0:=by omega
      have e2 : hh = 0:=by omega
      subst e1 e2
      exact ⟨.slice ax 0 0,by simp [Instr.sliceAt,Instr.slice,run_underlying hu,this,Z5u hsz],.lslnil _ _⟩
     | lsl _ _ _ cap c sz' off hβ hcap hoff hroom=>
      have hsz'' : sz' = sz:=by
       rcases hC.heap b blk hblk with ⟨h0,-⟩ | ⟨c',h0,hB⟩
       ·rw [h0] at hβ; cases hβ
       ·rw [h0] at hβ; cases hβ; exact hbs
      subst hsz''
      have:=Zi7 (P:=P) (w:=w) (isS:=true) (len:=n) (cap:=cap) (Z68 hC hl) (Z68 hC hhi) (by omega) (by omega) (by omega)
      refine ⟨_,by simp [Instr.sliceAt,Instr.slice,run_underlying hu,this,Z5u hsz]; rfl,?_⟩
      by_cases hcl : cap = l.toNat
      ·rw [if_pos hcl]
       exact .lsl b _ _ _ c sz' off hβ (by omega) (.inl (by omega)) (by obtain ⟨vs,e,fr,a1,-⟩:=hroom; exact ⟨vs,e,fr,a1,.inl (by omega)⟩)
      ·rw [if_neg hcl,Addr.add_none]
       refine .lsl b _ _ _ c sz' _ hβ (by omega) (.inr ?_) ?_
       ·rw [hoff.resolve_left (by omega),Nat.add_mul]
       ·obtain ⟨vs,e,fr,a1,a2⟩:=hroom
        refine ⟨vs,e,fr,a1,.inr ?_⟩
        rw [show l0 + l.toNat + (cap - l.toNat) = l0 + cap by omega]
        exact a2.resolve_left (by omega)
    ·cases h
   ·cases h
  ·cases h
 ·cases h
theorem Y1n {u : Value} {x : D} (hx : Z06 w G β u x) {t ty : TypeId} {args : Array Value} {ts : Array TypeId} (h0 : args[0]? = some u) (h1 : ts[0]? = some t) {ans : Ans} {d : D} {p : Prop}
  (h : lenD P t x ans = some (d,p)) (hp : p) : Z3h P w G β (Builtin.len_ ts ty args) d:=by
 unfold lenD at h
 split at h
 ·rename_i hu
  obtain ⟨b,rfl,rfl⟩:=Z78 hx
  exact ⟨_,by simp [Builtin.len_,h0,h1,run_underlying hu,goInt],Z44 h hp⟩
 ·rename_i e c rows hu
  obtain ⟨a0,cap,rfl,hcap,hcc⟩:=Zpl hx
  exact ⟨_,by simp [Builtin.len_,h0,h1,run_underlying hu,goInt],Z44 h hp⟩
 ·rename_i e b l n hu
  have : ∃ a0 cap,u = .slice a0 n cap:=by cases hx <;> exact ⟨_,_,rfl⟩
  obtain ⟨a0,cap,rfl⟩:=this
  exact ⟨_,by simp [Builtin.len_,h0,h1,run_underlying hu,goInt],Z44 h hp⟩
 ·rename_i n e hu
  exact ⟨_,by simp [Builtin.len_,h0,h1,run_underlying hu,goInt],Z44 h hp⟩
 ·cases h
theorem Zzy {s : Sem Value} {v : Value} (h : s.run P w = .ok v w) : (do pure (Next.value (← s)) : Sem Next).run P w = .ok (.value v) w:=by simp [h]
theorem Y23 (hC : Z05 Γ σ a w G β) {o : Oper} {ans : Ans} {d : D} {p : Prop} (h : Z1y P σ o ans = some (d,p)) (hp : p) :
  ∃ v,(execOp a.eval o).run P w = .ok (.value v) w ∧ Z06 w G β v d:=by
 obtain ⟨dst,op,ty,pos,after,guard⟩:=o
 have ev:=Z3d hC
 have fin : ∀ {s : Sem Value} {d},Z3h P w G β s d → ∃ v,(do pure (Next.value (← s)) : Sem Next).run P w = .ok (.value v) w ∧ Z06 w G β v d:=fun ⟨v,h1,h2⟩=>⟨v,Zzy h1,h2⟩
 cases op with
 | move x=>cases h; exact ⟨_,rfl,ev x⟩
 | assign x=>cases h; exact ⟨_,rfl,ev x⟩
 | pick c x y=>
  obtain ⟨v,h1,h2⟩:=Y2t (P:=P) (ev c) (ev x) (ev y) h hp
  refine ⟨v,?_,h2⟩
  simp only [execOp]
  simp only [Sem.run_bind,Sem.run_pure] at h1 ⊢
  revert h1
  generalize (asBool (a.eval c)).run P w = r
  cases r with
  | ok q w'=>intro h1; simp only [Result.andThen_ok,Result.ok.injEq] at h1 ⊢; exact ⟨by rw [h1.1],h1.2⟩
  | halt e w'=>intro h1; cases h1
 | binOp op xt x y yt=>exact fin (Y37 (ev x) (ev y) h hp)
 | unOp op t x=>exact fin (Zzl (ev x) h hp)
 | convert s t x=>exact fin (Zzj (ev x) h hp)
 | load t x=>exact fin (Zrv hC (ev x) h hp)
 | fieldAddr s x f=>
  simp only [Z1y] at h
  split at h
  ·cases h; exact fin (Y1a (ev x) (by assumption))
  ·cases h
 | field s x f=>
  simp only [Z1y] at h
  split at h
  ·rename_i cs off t hx hf
   split at h
   ·rename_i d' hd
    cases h
    have hx':=ev x
    rw [hx] at hx'
    obtain ⟨vs,hv,hn,hone,hrep⟩:=Z58 hx'
    obtain ⟨v,h1,h2⟩:=Zk8 hn hone hrep hd
    refine fin ⟨v,?_,h2⟩
    unfold Ziy at hf
    split at hf
    ·rename_i fs hu
     split at hf
     ·rename_i y hy
      cases hf
      simp [Instr.field,run_underlying hu,hy,hv,asAgg,h1]
     ·cases hf
    ·cases hf
   ·cases h
  ·cases h
 | indexAddr t x i=>exact fin (Y3d hC (ev x) (ev i) h hp)
 | index t x i=>exact fin (Y48 (ev x) (ev i) h hp)
 | slice t x lo hi mx=>exact fin (Y3f hC (ev x) h hp)
 | extract x i=>
  simp only [Z1y] at h
  split at h
  ·rename_i vs hx
   split at h
   ·rename_i d' hd
    cases h
    have hx':=ev x
    rw [hx] at hx'
    generalize he : a.eval x = u at hx'
    cases hx' with
    | tup us ds hn hrep=>
     have hlt : i < us.size:=by
      rcases Nat.lt_or_ge i vs.length with h' | h'
      ·omega
      ·rw [List.getElem?_eq_none h'] at hd; cases hd
     refine fin ⟨us[i],?_,hrep i _ _ (Array.getElem?_eq_getElem hlt) hd⟩
     simp [Instr.extract,he,Array.getElem?_eq_getElem hlt]
   ·cases h
  ·cases h
 | nilCheck x=>
  simp only [Z1y] at h
  split at h
  ·rename_i cs hx
   cases h
   have hx':=ev x
   rw [hx] at hx'
   refine ⟨a.eval x,?_,hx'⟩
   generalize he : a.eval x = u at hx'
   cases hx' with
   | ptr b off cs val=>simp [execOp,he]
  ·rename_i b i j hx
   cases h
   have hx':=ev x
   rw [hx] at hx'
   refine ⟨a.eval x,?_,hx'⟩
   generalize he : a.eval x = u at hx'
   cases hx' with
   | lptr=>simp [execOp,he]
  ·cases h
 | call c=>
  obtain ⟨callee,args,ts⟩:=c
  cases callee with
  | builtin b=>
   cases b with
   | len=>
    simp only [Z1y] at h
    split at h
    ·rename_i x t hx ht
     have:=Y1n (P:=P) (ty:=ty) (args:=args.map a.eval) (ev x) (by simp [hx]) ht h hp
     obtain ⟨v,h1,h2⟩:=this
     exact ⟨v,by simp [execOp,resolve,invoke,builtin,h1],h2⟩
    ·cases h
   | unsafeSliceData=>
    match args,h with
    | ⟨[x]⟩,h=>
     simp only [Z1y] at h
     have hx:=ev x
     split at h
     ·rename_i b n hb
      cases h
      rw [hb] at hx
      generalize he : a.eval x = u at hx
      cases hx with
      | lslnil=>exact absurd hp (Nat.lt_irrefl 0)
      | lsl _ _ _ cap c sz off hβ hcap hoff hroom=>
       have hc0 : cap ≠ 0:=by have : 0 < n:=hp; omega
       have ho : off = 0 * sz + 0:=by rcases hoff with h | h; exact absurd h hc0; omega
       refine ⟨.pointer (some ⟨c,off,none⟩),?_,ho ▸ .lptr b 0 0 c sz hβ⟩
       simp [execOp,resolve,invoke,builtin,he,Lib.run_unsafeSliceData_row w _ _ _ _ _ hc0]
     ·cases h
    | ⟨[]⟩,h=>cases h
    | ⟨_ :: _ :: _⟩,h=>cases h
   | max =>
    match args,h with
    | ⟨[x,y]⟩,h=>
     simp only [Z1y] at h
     have hx:=ev x
     have hy:=ev y
     unfold maxD at h
     split at h
     ·rename_i k m k' n e1 e2
      rw [e1] at hx
      rw [e2] at hy
      have ex:=Z46 hx
      have ey:=Z46 hy
      obtain ⟨r,hr⟩ : ∃ r,r = (if n > m then n else m):=⟨_,rfl⟩
      rw [← hr] at h
      refine ⟨.int k r,?_,?_⟩
      ·simp [execOp,resolve,invoke,builtin,Builtin.max_,ex,ey,Builtin.max2,hr]
      ·exact (Z44 h hp)
     ·cases h
    | ⟨[]⟩,h=>cases h
    | ⟨[_]⟩,h=>cases h
    | ⟨_ :: _ :: _ :: _⟩,h=>cases h
   | _=>cases h
  | _=>cases h
 | _=>cases h
end Go.Den
