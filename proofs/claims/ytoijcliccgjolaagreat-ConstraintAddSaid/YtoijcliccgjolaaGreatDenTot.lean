/-
  That a model comes to an answer: steps in Option that do not fail.
-/
import Derived.Test.YtoijcliccgjolaaGreatDenMod
namespace Go.Tot
open Go.Den Go.RowKit
def Ok {α : Type} (o : Option α) (P : α → Prop) : Prop:=∃ r,o = some r ∧ P r
section
variable {α β : Type} {P P' : α → Prop} {Q : β → Prop}
theorem ok {x : α} (h : P x) : Ok (some x) P:=⟨x,rfl,h⟩
theorem ok' {o : Option α} {x : α} (e : o = some x) (h : P x) : Ok o P:=⟨x,e,h⟩
theorem Ok.mono {o : Option α} (h : Ok o P) (k : ∀ x,P x → P' x) : Ok o P':=by
 obtain ⟨r,e,p⟩:=h
 exact ⟨r,e,k r p⟩
theorem bd {o : Option α} {f : α → Option β} (h : Ok o P) (k : ∀ x,P x → Ok (f x) Q) : Ok (o.bind f) Q:=by
 obtain ⟨r,e,p⟩:=h
 obtain ⟨r',e',p'⟩:=k r p
 exact ⟨r',by rw [e]; exact e',p'⟩
theorem bs {x : α} {f : α → Option β} (k : Ok (f x) Q) : Ok ((some x).bind f) Q:=k
theorem bdE {o : Option α} {f : α → Option β} (h : Ok o P) (k : ∀ x,o = some x → P x → Ok (f x) Q) : Ok (o.bind f) Q:=by
 obtain ⟨r,e,p⟩:=h
 obtain ⟨r',e',p'⟩:=k r e p
 exact ⟨r',by rw [e]; exact e',p'⟩
theorem br {b : Bool} {x y : Option α} (T : b = true → Ok x P) (F : b = false → Ok y P) : Ok (if b = true then x else y) P:=by
 cases b with
 | true=>exact T rfl
 | false=>exact F rfl
theorem brD {p : Prop} [Decidable p] {x y : Option α} (T : p → Ok x P) (F : ¬p → Ok y P) : Ok (if decide p = true then x else y) P:=by
 by_cases h : p
 ·rw [if_pos (decide_eq_true h)]; exact T h
 ·rw [if_neg (by simpa using h)]; exact F h
theorem brE {n m : Int} {x y : Option α} (T : n = m → Ok x P) (F : n ≠ m → Ok y P) : Ok (if (n == m) = true then x else y) P:=by
 by_cases h : n = m
 ·rw [if_pos (by simpa using h)]; exact T h
 ·rw [if_neg (by simpa using h)]; exact F h
theorem brN {n m : Int} {x y : Option α} (T : n ≠ m → Ok x P) (F : n = m → Ok y P) : Ok (if (n != m) = true then x else y) P:=by
 by_cases h : n = m
 ·rw [if_neg (by simp [h])]; exact F h
 ·rw [if_pos (by simpa using h)]; exact T h
theorem br! {b : Bool} {x y : Option α} (T : b = false → Ok x P) (F : b = true → Ok y P) : Ok (if (!b) = true then x else y) P:=by
 cases b with
 | true=>exact F rfl
 | false=>exact T rfl
end
section
variable {T R : Type} {f : T → Option (Ctl T R)} {Q : R → Prop}
def St (I : T → Prop) (ix : T → Int) (n : Int) (Q : R → Prop) (t : T) : Ctl T R → Prop
 | .next t'=>I t' ∧ ix t < ix t' ∧ ix t' ≤ n
 | .done r=>Q r
variable {I : T → Prop} {ix : T → Int} {n : Int} {t : T}
theorem nx {t' : T} (h : I t') (h1 : ix t < ix t') (h2 : ix t' ≤ n) : Ok (some (Ctl.next t' : Ctl T R)) (St I ix n Q t):=⟨_,rfl,h,h1,h2⟩
theorem dn {r : R} (h : Q r) : Ok (some (Ctl.done r : Ctl T R)) (St I ix n Q t):=⟨_,rfl,h⟩
theorem lp (ix : T → Int) (n : Int) (I : T → Prop) (h : ∀ t,I t → 0 ≤ ix t → ix t ≤ n → Ok (f t) (St I ix n Q t)) {t0 : T} (hn : n ≤ 9223372036854775807) (h0 : I t0) (h1 : 0 ≤ ix t0) (h2 : ix t0 ≤ n) : Ok (Z09 f Z0a t0) Q:=by
 refine Zbo (fun t=>I t ∧ 0 ≤ ix t ∧ ix t ≤ n) (fun t=>(n - ix t).toNat) Q (fun t ht=>?_) Z0a t0 ⟨h0,h1,h2⟩ (by unfold Z0a; omega)
 obtain ⟨x,e,p⟩:=h t ht.1 ht.2.1 ht.2.2
 refine ⟨x,e,?_⟩
 cases x with
 | next t'=>exact ⟨⟨p.1,by have:=p.2.1; omega,p.2.2⟩,by have:=p.2.1; have:=p.2.2; omega⟩
 | done r=>exact p
end
section
variable {R : Type} {f : Int → Option (Ctl Int R)} {Q : R → Prop}
def Si (n : Int) (Q : R → Prop) (t : Int) : Ctl Int R → Prop
 | .next t'=>t < t' ∧ t' ≤ n
 | .done r=>Q r
variable {n t : Int}
theorem ni {t' : Int} (h1 : t < t') (h2 : t' ≤ n) : Ok (some (Ctl.next t' : Ctl Int R)) (Si n Q t):=⟨_,rfl,h1,h2⟩
theorem di {r : R} (h : Q r) : Ok (some (Ctl.done r : Ctl Int R)) (Si n Q t):=⟨_,rfl,h⟩
theorem li (n : Int) (h : ∀ t,0 ≤ t → t ≤ n → Ok (f t) (Si n Q t)) {t0 : Int} (hn : n ≤ 9223372036854775807) (h1 : 0 ≤ t0) (h2 : t0 ≤ n) : Ok (Z09 f Z0a t0) Q:=
 lp (fun t=>t) n (fun _=>True) (fun t _ a b=>(h t a b).mono fun x hx=>by
  cases x with
  | next t'=>exact ⟨trivial,hx.1,hx.2⟩
  | done r=>exact hx) hn trivial h1 h2
end
section
variable {α : Type}
theorem Zjf {n : Int} (h0 : -9223372036854775808 ≤ n) (h1 : n ≤ 9223372036854775807) : IntKind.wrap .i64 n = n:=by
 have h : ∀ m : Int,IntKind.wrap .i64 m = (m + 9223372036854775808) % 18446744073709551616 - 9223372036854775808:=fun m=>by
  unfold IntKind.wrap
  simp [IntKind.bits,IntKind.signed,Int.bmod]
  omega
 rw [h]; omega
theorem wr {n : Int} (h0 : -9223372036854775808 ≤ n) (h1 : n ≤ 9223372036854775807) : Ok (some (IntKind.wrap .i64 n)) fun v=>v = n:=ok (Zjf h0 h1)
theorem gr {l : List α} {i : Int} (h0 : 0 ≤ i) (h1 : i < l.length) : Ok (Z08 l i) fun x=>x ∈ l:=by
 have hlt : i.toNat < l.length:=by omega
 refine ⟨l[i.toNat],?_,List.getElem_mem hlt⟩
 unfold Z08
 rw [if_pos h0,List.getElem?_eq_getElem hlt]
theorem gri {l : List α} {i : Int} (h0 : 0 ≤ i) (h1 : i < l.length) : Ok (Z08 l i) fun x=>x ∈ l ∧ l[i.toNat]? = some x:=by
 have hlt : i.toNat < l.length:=by omega
 refine ⟨l[i.toNat],?_,List.getElem_mem hlt,List.getElem?_eq_getElem hlt⟩
 unfold Z08
 rw [if_pos h0,List.getElem?_eq_getElem hlt]
theorem gs {s : List UInt8} {i : Int} (h0 : 0 ≤ i) (h1 : i < s.length) : Ok (Z2x s i) fun x=>0 ≤ x ∧ x < 256:=by
 have hlt : i.toNat < s.length:=by omega
 refine ⟨(s[i.toNat].toNat : Int),?_,by omega,by have:=s[i.toNat].toNat_lt; omega⟩
 unfold Z2x
 rw [if_pos h0,List.getElem?_eq_getElem hlt]
 rfl
theorem ik {i : Int} {n : Nat} (h0 : 0 ≤ i) (h1 : i < n) : Ok (Z3m i n) fun j=>j = i.toNat ∧ j < n:=⟨i.toNat,by unfold Z3m; rw [if_pos ⟨h0,h1⟩],rfl,by omega⟩
theorem la {l : List α} {j : Nat} (h : j < l.length) : Ok (l[j]?) fun x=>l[j]? = some x ∧ x ∈ l:=⟨l[j],List.getElem?_eq_getElem h,List.getElem?_eq_getElem h,List.getElem_mem h⟩
theorem gk {b n : Nat} (h : n * b ≤ 140737488355328) (hn : n ≤ 9223372036854775807) : Ok (Z20 b n) fun _=>True:=⟨(),by unfold Z20; rw [if_pos ⟨hn,h⟩],trivial⟩
theorem mk {b : Nat} {l c : Int} (h0 : 0 ≤ l) (h1 : l ≤ c) (h2 : (b : Int) * c ≤ 281474976710656) (h3 : c ≤ 9223372036854775807) : Ok (Z8w b l c) fun _=>True:=⟨(),by unfold Z8w; rw [if_pos ⟨h0,h1,h2,h3⟩],trivial⟩
theorem ct {a b : List UInt8} (h : a.length + b.length ≤ 9223372036854775807) : Ok (Z21 a b) fun m=>m = a ++ b ∧ m.length = a.length + b.length:=⟨a ++ b,by unfold Z21; rw [if_pos h],rfl,List.length_append⟩
theorem sb {l : List α} {lo hi : Int} (h0 : 0 ≤ lo) (h1 : lo ≤ hi) (h2 : hi ≤ l.length) : Ok (sub l lo hi) fun r=>(r.length : Int) = hi - lo ∧ ∀ x ∈ r,x ∈ l:=by
 unfold sub
 rw [if_pos (by omega)]
 refine ok ⟨by simp; omega,fun x hx=>List.mem_of_mem_drop (List.mem_of_mem_take hx)⟩
end
end Go.Tot
