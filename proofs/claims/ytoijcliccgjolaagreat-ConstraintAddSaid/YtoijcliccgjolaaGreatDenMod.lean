/-
  What the printed models and their proofs lean on.
-/
import Derived.Test.YtoijcliccgjolaaGreatDenAdv
import Derived.Lib.Bytealg
namespace Go.Den
open Go.RowKit
def Z4a : Code → Code | .seq a _=>a | .cond _ a _=>a | .block _ a=>a | .loop a=>a | c=>c
def Z2q : Code → Code | .seq _ b=>b | .cond _ _ b=>b | c=>c
def Z03 (n : Int) : List D:=[.int .i64 n]
def rU8 (n : Int) : List D:=[.int .u8 n]
def Z3b (b : Bool) : List D:=[.bool b]
def Z2s (s : List UInt8) : List D:=[.str s]
def rSl {α : Type} (f : α → List D) (l : List α) : List D:=[.sl false (l.map f)]
def Z34 (k : IntKind) (x y : Int) : Int:=k.wrap (BitVec.ofInt k.bits x &&& BitVec.ofInt k.bits y).toNat
def divK (k : IntKind) (a b : Int) : Option Int:=if b ≠ 0 then some (k.wrap (a.tdiv b)) else none
theorem Y0x {k : IntKind} {a b m : Int} (h : divK k a b = some m) : b ≠ 0 ∧ k.wrap (a.tdiv b) = m:=by
 unfold divK at h; split at h
 ·exact ⟨by assumption,Option.some.inj h⟩
 ·cases h
def modK (a b : Int) : Option Int:=if b ≠ 0 then some (a.tmod b) else none
theorem Y3a {a b m : Int} (h : modK a b = some m) : b ≠ 0 ∧ a.tmod b = m:=by
 unfold modK at h; split at h
 ·exact ⟨by assumption,Option.some.inj h⟩
 ·cases h
def Z6d (k : IntKind) (a y : Int) : Option Int:=if 0 ≤ y then some (k.wrap (a * 2 ^ (min y.toNat k.bits))) else none
theorem Zze {k : IntKind} {a y m : Int} (h : Z6d k a y = some m) : 0 ≤ y ∧ k.wrap (a * 2 ^ (min y.toNat k.bits)) = m:=by
 unfold Z6d at h; split at h
 ·exact ⟨by assumption,Option.some.inj h⟩
 ·cases h
def shrK (k : IntKind) (a y : Int) : Option Int:=if 0 ≤ y then some (a.fdiv (2 ^ (min y.toNat k.bits))) else none
theorem Y3p {k : IntKind} {a y m : Int} (h : shrK k a y = some m) : 0 ≤ y ∧ a.fdiv (2 ^ (min y.toNat k.bits)) = m:=by
 unfold shrK at h; split at h
 ·exact ⟨by assumption,Option.some.inj h⟩
 ·cases h
def Z21 (a b : List UInt8) : Option (List UInt8):=if a.length + b.length ≤ 9223372036854775807 then some (a ++ b) else none
theorem Y43 {a b m : List UInt8} (h : Z21 a b = some m) : a.length + b.length ≤ 9223372036854775807 ∧ a ++ b = m:=by
 unfold Z21 at h; split at h
 ·exact ⟨by assumption,Option.some.inj h⟩
 ·cases h
def Z3m (i : Int) (n : Nat) : Option Nat:=if 0 ≤ i ∧ i < n then some i.toNat else none
theorem Zwv {i : Int} {n n' j : Nat} (h : Z3m i n = some j) (hn : n' = n) : 0 ≤ i ∧ i < n' ∧ ((0 : Nat) : Int) + i = j:=by
 subst hn
 unfold Z3m at h; split at h
 ·cases h; omega
 ·cases h
def Z8w (bytes : Nat) (l c : Int) : Option Unit:=if 0 ≤ l ∧ l ≤ c ∧ (bytes : Int) * c ≤ 281474976710656 ∧ c ≤ 9223372036854775807 then some () else none
theorem Zgf {bytes : Nat} {l c : Int} {u : Unit} (h : Z8w bytes l c = some u) : 0 ≤ l ∧ l ≤ c ∧ (bytes : Int) * c ≤ 281474976710656 ∧ c ≤ 9223372036854775807:=by
 unfold Z8w at h; split at h
 ·assumption
 ·cases h
def Z20 (bytes : Nat) (n : Nat) : Option Unit:=if n ≤ 9223372036854775807 ∧ n * bytes ≤ 140737488355328 then some () else none
theorem Zub {bytes n n' : Nat} {u : Unit} (h : Z20 bytes n = some u) (hn : n' = n) : n' ≤ 9223372036854775807 ∧ n' * bytes ≤ 140737488355328:=by
 subst hn
 unfold Z20 at h; split at h
 ·assumption
 ·cases h
def Zio {α β : Type} (olds : List α) (news : List β) : Option Unit:=if olds = [] ∨ news ≠ [] then some () else none
def dI (n : Int) : D:= .int .i64 n
def d8 (n : Int) : D:= .int .u8 n
def tN : Nat → Prop
 | 0=>True
 | n + 1=>True ∧ tN n
theorem tNi : ∀ n,tN n
 | 0=>trivial
 | n + 1=>⟨trivial,tNi n⟩
def cq (P : Program) (p : Prop) (f : FuncId) (A : List D) (r : D) : Prop:=p ∧ A = A ∧ Zal P f A r
theorem cqi {P : Program} {p : Prop} {f : FuncId} {A : List D} {r : D} (hp : p) (h : Z0c P f A r) : cq P p f A r:=⟨hp,rfl,.inl h⟩
def cqo (P : Program) (p : Prop) (f : FuncId) (A : List D) (B : List Blk) (r : D) (B' : List Blk) : Prop:=p ∧ A = A ∧ B = B ∧ Z3y P f A B r B'
theorem cqoi {P : Program} {p : Prop} {f : FuncId} {A : List D} {B : List Blk} {r : D} {B' : List Blk} (hp : p) (h : Z3y P f A B r B') : cqo P p f A B r B':=⟨hp,rfl,rfl,h⟩
theorem freshM {α β : Type} {f : α → List D} (g : β → List D) {olds : List α} {news : List β} {u : Unit} (h : Zio olds news = some u) : (olds.map f = [] ∨ news.map g ≠ []):=by
 unfold Zio at h
 split at h
 ·rename_i hc
  rcases hc with hc | hc
  ·exact .inl (by rw [hc]; rfl)
  ·exact .inr (by simpa using hc)
 ·cases h
theorem Y3v (l : List Int) : Z6y (l.map rU8) = some (l.map fun n=>UInt8.ofNat n.toNat):=by
 induction l with
 | nil=>rfl
 | cons a r ih=>simp only [List.map_cons]; unfold rU8 Z6y; rw [show (List.map (fun n=>[D.int IntKind.u8 n]) r) = r.map rU8 from rfl,ih]
def bytesOf (l : List Int) : List UInt8:=l.map fun n=>UInt8.ofNat n.toNat
theorem Y1v (l : List Int) : Z6y (l.map rU8) = some (bytesOf l):=Y3v l
def Zol (n : Int) : List UInt8:=(Utf8.encode n).data.toList
theorem lenM {α : Type} (f : α → List D) (l : List α) : ((l.map f).length : Int) = (l.length : Int):=by simp
theorem lenMN {α : Type} (f : α → List D) (l : List α) : (l.map f).length = l.length:=by simp
theorem getM {α : Type} (f : α → List D) {l : List α} {j : Nat} {x : α} (h : l[j]? = some x) : (l.map f)[j]? = some (f x):=by simp [h]
theorem setM {α : Type} (f : α → List D) (l : List α) (j : Nat) (y : α) : (l.map f).set j (f y) = (l.set j y).map f:=List.map_set.symm
theorem appM {α : Type} (f : α → List D) (l r : List α) : l.map f ++ r.map f = (l ++ r).map f:=List.map_append.symm
theorem repM {α : Type} (f : α → List D) (n : Nat) (z : α) : List.replicate n (f z) = (List.replicate n z).map f:=by simp
theorem subM {α : Type} (f : α → List D) {l r : List α} {lo hi : Int} (h : sub l lo hi = some r) : sub (l.map f) lo hi = some (r.map f):=by
 unfold sub at *
 split at h
 ·rename_i hc
  cases h
  rw [if_pos (by simpa using hc)]
  simp [List.map_take,List.map_drop]
 ·cases h
theorem szM {α : Type} {f : α → List D} {n : Nat} (hf : ∀ y,(f y).length = n) (l : List α) : ∀ x ∈ l.map f,x.length = n:=by
 intro x hx
 obtain ⟨y,_,rfl⟩:=List.mem_map.1 hx
 exact hf y
theorem Zs6 {α : Type} (l : List α) : (l.drop 0).take l.length = l:=by simp
theorem Zuy {α : Type} (l : List α) : 0 + l.length ≤ l.length:=by omega
variable {P : Program} {Γ : Ctx} {σ σ' : S}
def Z7q : Code → Array Oper | .region _ ops _=>ops | _=>#[]
def Zn4 : Code → Bool | .region _ _ false=>true | _=>false
def Zdd (P : Program) (Γ : Ctx) (ops : Array Oper) (l : List Nat) (K : List Z2a) (Q : Exit → S → Prop) (σ : S) : Prop:=
 ∀ a w G β,Z05 Γ σ a w G β → wpOps P ops (fun e a' w'=>∃ σ' G' β',Z05 Γ σ' a' w' G' β' ∧ Z3l P Γ K Q e σ') l a w
theorem At.ops {c : Code} {K : List Z2a} {Q : Exit → S → Prop} {l : List Nat} (hc : Zn4 c = true) (hl : List.range (Z7q c).size = l) (h : Zdd P Γ (Z7q c) l K Q σ) : At P Γ c K Q σ:=by
 subst hl
 unfold Zn4 at hc
 split at hc
 ·exact fun a w G β hC=>wp_region (h a w G β hC)
 ·cases hc
theorem Zqb {ops : Array Oper} {told : List (Nat × Z1j)} {gs : List (Nat × Bool)} {Q : Exit → Act → World → Prop} {l2 : List Nat} : ∀ (l : List Nat) {σ : S} {a : Act} {w : World} {G β} {p : Prop},Z05 Γ σ a w G β →
  Z7r P ops told gs l σ = some (σ',p) → p → (∀ a' w' G' β',Z05 Γ σ' a' w' G' β' → wpOps P ops Q l2 a' w') → wpOps P ops Q (l ++ l2) a w
 | [],σ,a,w,G,β,p,hC,h,hp,hQ=>by cases h; exact hQ _ _ _ _ hC
 | i :: r,σ,a,w,G,β,p,hC,h,hp,hQ=>by
  unfold Z7r at h
  split at h
  ·rename_i σ1 p1 h1
   split at h
   ·rename_i σ2 p2 h2
    cases h
    rw [List.cons_append,wpOps_cons]
    exact Zqk hC h1 hp.1 (fun a' w' G' β' hC'=>Zqb r hC' h2 hp.2 hQ)
   ·cases h
  ·cases h
theorem Zdd.done {ops : Array Oper} {K : List Z2a} {Q : Exit → S → Prop} (h : Z3l P Γ K Q .normal σ) : Zdd P Γ ops [] K Q σ:=fun _ _ G β hC=>⟨σ,G,β,hC,h⟩
theorem EvOk.normal {Q : Exit → S → Prop} (h : Q .normal σ) : EvOk P Γ Q σ .normal:=h
theorem neRet : Exit.ret ≠ .normal:=fun h=>by cases h
def Z0a : Nat:=18446744073709551616
theorem Zbo {T R : Type} {f : T → Option (Ctl T R)} (I : T → Prop) (μ : T → Nat) (Post : R → Prop)
  (step : ∀ t,I t → ∃ x,f t = some x ∧ match x with
   | .next t'=>I t' ∧ μ t' < μ t
   | .done r=>Post r) : ∀ (n : Nat) (t : T),I t → μ t < n → ∃ r,Z09 f n t = some r ∧ Post r
 | 0,t,_,h=>absurd h (Nat.not_lt_zero _)
 | n + 1,t,hI,h=>by
  obtain ⟨x,hx,hp⟩:=step t hI
  cases x with
  | next t'=>
   obtain ⟨r,hr,hP⟩:=Zbo I μ Post step n t' hp.1 (by have:=hp.2; omega)
   exact ⟨r,by rw [Z09,hx]; exact hr,hP⟩
  | done r=>exact ⟨r,by rw [Z09,hx],hp⟩
end Go.Den
