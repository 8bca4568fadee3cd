/-
  Laws about class names, for this chapter's numbers. No condition.
-/
import Derived.Test.YtoijcliccgjolaaGreatConT10
namespace Go.Proofs
open Go.Den
theorem Zm7 (n : Int) : IntKind.wrap .i64 n = (n + 9223372036854775808) % 18446744073709551616 - 9223372036854775808:=by
 show (if (true && decide (n % 18446744073709551616 ≥ 9223372036854775808)) = true then n % 18446744073709551616 - 18446744073709551616 else n % 18446744073709551616) = _
 rw [Bool.true_and]
 by_cases h : n % 18446744073709551616 ≥ 9223372036854775808
 ·rw [if_pos (decide_eq_true h)]; omega
 ·rw [if_neg (by simpa using h)]; omega
theorem Zps {s : List UInt8} {i : Int} (h0 : 0 ≤ i) (h1 : i < s.length) : ∃ c : UInt8,s[i.toNat]? = some c ∧ Z2x s i = some (c.toNat : Int):=by
 have hlt : i.toNat < s.length:=by omega
 refine ⟨s[i.toNat],List.getElem?_eq_getElem hlt,?_⟩
 unfold Z2x; rw [if_pos h0,List.getElem?_eq_getElem hlt]; rfl
def Zlu (n : Nat) : Bool:=(decide (97 ≤ n) && decide (n ≤ 122)) || (decide (65 ≤ n) && decide (n ≤ 90)) || n == 95 || n == 36
def Zit (n : Nat) : Bool:=decide (48 ≤ n) && decide (n ≤ 57)
def Z8v (c : UInt8) : Bool:=Zlu c.toNat
def Z7m (c : UInt8) : Bool:=Zit c.toNat
theorem Zvn : ∀ n : Fin 256,Ze9 ((n.val : Nat) : Int) = some (if Zlu n.val then 1 else if Zit n.val then 2 else 0):=by decide +kernel
theorem Y13 : ∀ n : Fin 256,Zaj ((n.val : Nat) : Int) = some (Zlu n.val):=by decide +kernel
theorem Zg1 (c : UInt8) : Ze9 (c.toNat : Int) = some (if Z8v c then 1 else if Z7m c then 2 else 0):=Zvn ⟨c.toNat,c.toNat_lt⟩
theorem Zds (c : UInt8) : Zaj (c.toNat : Int) = some (Z8v c):=Y13 ⟨c.toNat,c.toNat_lt⟩
theorem Zv5 : Ze9 47 = some 0:=Zvn 47
def okP : Bool → List UInt8 → Bool
 | b,[] =>!b
 | b,c :: l=>if Z8v c then okP false l else if Z7m c then !b && okP false l else false
def okC : Bool → List UInt8 → Bool
 | b,[] =>!b
 | b,c :: l=>if c = 47 then !b && okC true l else if Z8v c then okC false l else if Z7m c then !b && okC false l else false
theorem Zyd : ∀ (p r : List UInt8) (b : Bool),(47 : UInt8) ∉ p → okC b (p ++ 47 :: r) = (okP b p && okC true r)
 | [],r,b,_=>by simp [okC,okP]
 | c :: p,r,b,h=>by
  have hc : c ≠ 47:=fun e=>h (by simp [e])
  have hp : (47 : UInt8) ∉ p:=fun e=>h (by simp [e])
  simp only [List.cons_append,okC,okP,if_neg hc,Zyd p r _ hp]
  by_cases h1 : Z8v c = true
  ·simp [h1]
  ·by_cases h2 : Z7m c = true <;> simp [h1,h2,Bool.and_assoc]
theorem Ztv : ∀ (p : List UInt8) (b : Bool),(47 : UInt8) ∉ p → okC b p = okP b p
 | [],b,_=>rfl
 | c :: p,b,h=>by
  have hc : c ≠ 47:=fun e=>h (by simp [e])
  have hp : (47 : UInt8) ∉ p:=fun e=>h (by simp [e])
  simp only [okC,okP,if_neg hc,Ztv p _ hp]
theorem Zm6 {α : Type} {s : List α} {i : Nat} {c : α} (h : s[i]? = some c) : s.drop i = c :: s.drop (i + 1):=by
 have hlt:=(List.getElem?_eq_some_iff.1 h).1
 rw [List.drop_eq_getElem_cons hlt]
 congr 1
 exact (List.getElem?_eq_some_iff.1 h).2
theorem Zlr (s : List UInt8) (hl : (s.length : Int) ≤ 140737488355328) : Z8b s = some (okP true s):=by
 obtain ⟨q,hq,hp⟩:=Zbo (f:=Zbq s) (fun t : Int=>0 ≤ t ∧ t ≤ s.length ∧ okP true s = okP (t == 0) (s.drop t.toNat)) (fun t=>((s.length : Int) - t).toNat)
  (fun q=>match q with
   | .inl _=>okP true s = decide (s.length > 0)
   | .inr r=>okP true s = r)
  (fun t ht =>by
   obtain ⟨h0,h1,h2⟩:=ht
   unfold Zbq
   by_cases h : t < s.length
   ·obtain ⟨c,hc,hg⟩:=Zps h0 h
    have e1 : IntKind.wrap .i64 (t + 1) = t + 1:=by rw [Zm7]; omega
    have hd : s.drop t.toNat = c :: s.drop (t + 1).toNat:=by rw [Zm6 hc]; congr 2; omega
    rw [hd] at h2
    have hz : (t + 1 == 0) = false:=by simp; omega
    by_cases hL : Z8v c = true
    ·refine ⟨.next (t + 1),by simp [h,hg,Zds,hL,e1],⟨by omega,by omega,?_⟩,by omega⟩
     rw [h2,hz]; simp [okP,hL]
    ·by_cases ht0 : t = 0
     ·subst ht0
      refine ⟨.done (.inr false),by simp only [h,hg,Zds,hL,decide_true,if_true,Option.bind_some,Bool.not_false,beq_self_eq_true,Bool.false_eq_true,if_false],?_⟩
      show okP true s = false
      rw [h2]; simp [okP,hL]
     ·by_cases hD : Z7m c = true
      ·have hD' : 48 ≤ c.toNat ∧ c.toNat ≤ 57:=by simpa [Z7m,Zit] using hD
       have a1 : ¬ ((c.toNat : Int) < 48):=by omega
       have a2 : ¬ ((c.toNat : Int) > 57):=by omega
       refine ⟨.next (t + 1),?_,⟨by omega,by omega,?_⟩,by omega⟩
       ·simp only [h,hg,Zds,hL,e1,ht0,a1,a2,decide_true,decide_false,if_true,Option.bind_some,Bool.not_false,beq_iff_eq,Bool.false_eq_true,if_false]
       ·rw [h2,hz]; simp [okP,hL,hD,ht0]
      ·refine ⟨.done (.inr false),?_,?_⟩
       ·have hD' : ¬ (48 ≤ c.toNat ∧ c.toNat ≤ 57):=by simpa [Z7m,Zit] using hD
        by_cases a1 : (c.toNat : Int) < 48
        ·simp only [h,hg,Zds,hL,ht0,a1,decide_true,if_true,Option.bind_some,Bool.not_false,beq_iff_eq,Bool.false_eq_true,if_false]
        ·have a2 : (c.toNat : Int) > 57:=by omega
         simp only [h,hg,Zds,hL,ht0,a1,a2,decide_true,decide_false,if_true,Option.bind_some,Bool.not_false,beq_iff_eq,Bool.false_eq_true,if_false]
       ·show okP true s = false
        rw [h2]; simp [okP,hL,hD]
   ·refine ⟨.done (.inl ()),by simp [h],?_⟩
    show okP true s = decide (s.length > 0)
    rw [h2,List.drop_eq_nil_of_le (by omega)]
    by_cases hs : s.length > 0
    ·simp [okP,hs,show ¬ t = 0 by omega]
    ·have : t = 0:=by omega
     simp [okP,hs,this])
  Z0a 0 ⟨by omega,by omega,by simp⟩ (by unfold Z0a; omega)
 unfold Z8b
 cases q with
 | inl u=>simp only [hq,Option.bind_some,hp]; congr 1; simp
 | inr r=>simp only [hq,Option.bind_some,hp]
theorem Y2j (s : List UInt8) (hl : (s.length : Int) ≤ 140737488355328) : Zjq s = some (okC true s):=by
 obtain ⟨q,hq,hp⟩:=Zbo (f:=Zg5 s) (fun t : Bool × Int=>0 ≤ t.2 ∧ t.2 ≤ s.length ∧ okC true s = okC t.1 (s.drop t.2.toNat)) (fun t=>((s.length : Int) - t.2).toNat)
  (fun q=>match q with
   | .inl b=>okC true s = !b
   | .inr r=>okC true s = r)
  (fun t ht =>by
   obtain ⟨b,t⟩:=t
   obtain ⟨h0,h1,h2⟩:=ht
   dsimp only at h0 h1 h2
   unfold Zg5
   by_cases h : t < s.length
   ·obtain ⟨c,hc,hg⟩:=Zps h0 h
    have e1 : IntKind.wrap .i64 (t + 1) = t + 1:=by rw [Zm7]; omega
    have hd : s.drop t.toNat = c :: s.drop (t + 1).toNat:=by rw [Zm6 hc]; congr 2; omega
    rw [hd] at h2
    have h47 : ((c.toNat : Int) = 47) ↔ c = 47:=⟨fun e=>UInt8.toNat_inj.1 (by show c.toNat = 47; omega),fun e=>by subst e; rfl⟩
    by_cases hs : c = 47
    ·subst hs
     have hcl : Z8v 47 = false ∧ Z7m 47 = false:=by decide
     cases b with
     | false=>
      refine ⟨.next (true,t + 1),by simp [h,hg,Zv5,j35x5,e1],⟨by dsimp only; omega,by dsimp only; omega,?_⟩,by dsimp only; omega⟩
      rw [h2]; simp [okC]
     | true=>
      refine ⟨.done (.inr false),by simp [h,hg,Zv5,Z8z],?_⟩
      show okC true s = false
      rw [h2]; simp [okC]
    ·have hn : ¬ ((c.toNat : Int) = 47):=fun e=>hs (h47.1 e)
     by_cases hL : Z8v c = true
     ·refine ⟨.next (false,t + 1),by simp [h,hg,Zg1,hn,Z8z,Zdy,hL,e1],⟨by dsimp only; omega,by dsimp only; omega,?_⟩,by dsimp only; omega⟩
      rw [h2]; simp [okC,hs,hL]
     ·by_cases hD : Z7m c = true
      ·cases b with
       | false=>
        refine ⟨.next (false,t + 1),by simp [h,hg,Zg1,hn,Z8z,Zjn,Zdy,hL,hD,e1],⟨by dsimp only; omega,by dsimp only; omega,?_⟩,by dsimp only; omega⟩
        rw [h2]; simp [okC,hs,hL,hD]
       | true=>
        refine ⟨.done (.inr false),by simp [h,hg,Zg1,hn,Z8z,Zjn,hL,hD],?_⟩
        show okC true s = false
        rw [h2]; simp [okC,hs,hL,hD]
      ·refine ⟨.done (.inr false),by simp [h,hg,Zg1,hn,Z8z,hL,hD],?_⟩
       show okC true s = false
       rw [h2]; simp [okC,hs,hL,hD]
   ·refine ⟨.done (.inl b),by simp [h],?_⟩
    show okC true s = !b
    rw [h2,List.drop_eq_nil_of_le (by omega)]; rfl)
  Z0a (true,0) ⟨by dsimp only; omega,by dsimp only; omega,by simp⟩ (by unfold Z0a; dsimp only; omega)
 unfold Zjq
 cases q with
 | inl u=>simp only [hq,Option.bind_some]; exact congrArg some hp.symm
 | inr r=>simp only [hq,Option.bind_some]; exact congrArg some hp.symm
theorem isClass (s : List UInt8) (hl : (s.length : Int) ≤ 140737488355328) : Z9n s = some (decide (s.length ≤ 64) && okC true s):=by
 unfold Z9n
 by_cases h : s = []
 ·subst h; rfl
 ·rw [if_neg (by simpa using h)]
  by_cases h64 : (s.length : Int) > 64
  ·rw [if_pos (decide_eq_true h64)]
   have : decide (s.length ≤ 64) = false:=decide_eq_false (by omega)
   rw [this]; rfl
  ·rw [if_neg (by simpa using h64),Y2j s hl]
   have : decide (s.length ≤ 64) = true:=decide_eq_true (by omega)
   rw [this]; rfl
theorem Zzs (s : List UInt8) (hl : (s.length : Int) ≤ 140737488355328) : Z4f s = some (decide (s.length ≤ 64) && okC true s):=by
 unfold Z4f
 by_cases h64 : (s.length : Int) > 64
 ·rw [if_pos (decide_eq_true h64)]
  have : decide (s.length ≤ 64) = false:=decide_eq_false (by omega)
  rw [this]; rfl
 rw [if_neg (by simpa using h64)]
 have h64' : decide (s.length ≤ 64) = true:=decide_eq_true (by omega)
 rw [h64',Bool.true_and]
 obtain ⟨q,hq,hp⟩:=Zbo (f:=Zam s) (fun t : Int × Int=>0 ≤ t.1 ∧ t.1 ≤ t.2 ∧ t.2 ≤ s.length ∧ (∀ j : Nat,t.1 ≤ j → (j : Int) < t.2 → s[j]? ≠ some 47) ∧ okC true s = okC true (s.drop t.1.toNat)) (fun t=>((s.length : Int) - t.2).toNat)
  (fun q=>match q with
   | .inl a=>0 ≤ a ∧ a ≤ (s.length : Int) ∧ (∀ j : Nat,a ≤ j → s[j]? ≠ some 47) ∧ okC true s = okC true (s.drop a.toNat)
   | .inr r=>okC true s = r)
  (fun t ht =>by
   obtain ⟨a,i⟩:=t
   obtain ⟨h0,h1,h2,h3,h4⟩:=ht
   dsimp only at h0 h1 h2 h3 h4
   unfold Zam
   by_cases h : i < s.length
   ·obtain ⟨c,hc,hg⟩:=Zps (by omega) h
    have e1 : IntKind.wrap .i64 (i + 1) = i + 1:=by rw [Zm7]; omega
    by_cases hs : c = 47
    ·subst hs
     have hsub : sub s a i = some ((s.drop a.toNat).take (i.toNat - a.toNat)):=by
      unfold sub; rw [if_pos (by omega)]
     obtain ⟨p,hpd⟩ : ∃ p,p = (s.drop a.toNat).take (i.toNat - a.toNat):=⟨_,rfl⟩
     have hpl : (p.length : Int) ≤ 140737488355328:=by rw [hpd]; simp; omega
     have hsplit : s.drop a.toNat = p ++ 47 :: s.drop (i + 1).toNat:=by
      have e2 : (s.drop a.toNat).drop (i.toNat - a.toNat) = 47 :: s.drop (i + 1).toNat:=by
       rw [List.drop_drop,show a.toNat + (i.toNat - a.toNat) = i.toNat by omega,Zm6 hc]
       congr 2; omega
      rw [← e2,hpd,List.take_append_drop]
     have hno : (47 : UInt8) ∉ p:=fun hm=>by
      obtain ⟨k,hk⟩:=List.getElem?_of_mem hm
      rw [hpd,List.getElem?_take] at hk
      split at hk
      ·rw [List.getElem?_drop] at hk
       exact h3 (a.toNat + k) (by omega) (by omega) hk
      ·cases hk
     have hpart:=Zyd p (s.drop (i + 1).toNat) true hno
     rw [hsplit,hpart] at h4
     cases hok : okP true p with
     | false=>
      refine ⟨.done (.inr false),?_,?_⟩
      ·simp [h,hg,hsub,← hpd,Zlr p hpl,hok]
      ·show okC true s = false
       rw [h4,hok]; rfl
     | true=>
      refine ⟨.next (i + 1,i + 1),?_,⟨by dsimp only; omega,by dsimp only; omega,by dsimp only; omega,fun j hj hj2=>?_,?_⟩,by dsimp only; omega⟩
      ·simp [h,hg,hsub,← hpd,Zlr p hpl,hok,e1]
      ·dsimp only at hj hj2; omega
      ·dsimp only; rw [h4,hok,Bool.true_and]
    ·have hn : ¬ ((c.toNat : Int) = 47):=fun e=>hs (UInt8.toNat_inj.1 (by show c.toNat = 47; omega))
     refine ⟨.next (a,i + 1),by simp [h,hg,hn,e1],⟨by dsimp only; omega,by dsimp only; omega,by dsimp only; omega,fun j hj hj2=>?_,h4⟩,by dsimp only; omega⟩
     dsimp only at hj hj2
     by_cases hji : (j : Int) = i
     ·rw [show j = i.toNat by omega,hc]; simpa using hs
     ·exact h3 j hj (by omega)
   ·refine ⟨.done (.inl a),by simp [h],h0,by omega,fun j hj=>?_,h4⟩
    by_cases hji : (j : Int) < i
    ·exact h3 j hj hji
    ·rw [List.getElem?_eq_none (by omega)]; simp)
  Z0a (0,0) ⟨by dsimp only; omega,by dsimp only; omega,by dsimp only; omega,fun j hj hj2=>by dsimp only at hj hj2; omega,by simp⟩ (by unfold Z0a; dsimp only; omega)
 cases q with
 | inl a=>
  obtain ⟨k0,k1,k2,k3⟩:=hp
  have hsub : sub s a (s.length : Int) = some (s.drop a.toNat):=by
   unfold sub; rw [if_pos (by omega)]
   congr 1
   rw [List.take_of_length_le (by simp)]
  have hno : (47 : UInt8) ∉ s.drop a.toNat:=fun hm=>by
   obtain ⟨k,hk⟩:=List.getElem?_of_mem hm
   rw [List.getElem?_drop] at hk
   exact k2 (a.toNat + k) (by omega) hk
  have hpl : ((s.drop a.toNat).length : Int) ≤ 140737488355328:=by simp; omega
  simp only [hq,Option.bind_some,hsub,Zlr _ hpl]
  rw [k3,Ztv _ true hno]
 | inr r=>simp only [hq,Option.bind_some]; exact congrArg some hp.symm
end Go.Proofs
