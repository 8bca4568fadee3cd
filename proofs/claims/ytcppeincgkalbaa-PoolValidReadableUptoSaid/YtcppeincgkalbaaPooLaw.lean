/-
  What the models of pool's reading functions come to. No condition.
-/
import Derived.Test.YtcppeincgkalbaaPoo4
namespace Go.Proofs
open Go.Den

def Z0 : T_api_Const := { f_Tag := 0, f_S := [], f_N := 0, f_A := 0, f_B := 0 }
def atF (p : List T_api_Const) (i : Int) : T_api_Const × Int := if i < 1 then (Z0, 2) else match p[(i - 1).toNat]? with
  | some c => (c, 0)
  | none => (Z0, 2)
def getF (p : List T_api_Const) (i tag : Int) : T_api_Const × Int := if (atF p i).2 = 0 then (if (atF p i).1.f_Tag = tag then atF p i else (Z0, 11)) else (Z0, 2)
def utfF (p : List T_api_Const) (i : Int) : List UInt8 × Int := ((getF p i 1).1.f_S, (getF p i 1).2)
def thrF (p : List T_api_Const) (i tag : Int) : List UInt8 × Int := if (getF p i tag).2 = 0 then utfF p (getF p i tag).1.f_A else ([], (getF p i tag).2)
def natF (p : List T_api_Const) (i : Int) : List UInt8 × List UInt8 × Int :=
  if (getF p i 12).2 = 0 then
    (if (utfF p (getF p i 12).1.f_A).2 = 0 then
      (if (utfF p (getF p i 12).1.f_B).2 = 0 then ((utfF p (getF p i 12).1.f_A).1, (utfF p (getF p i 12).1.f_B).1, 0) else ([], [], (utfF p (getF p i 12).1.f_B).2))
    else ([], [], (utfF p (getF p i 12).1.f_A).2))
  else ([], [], (getF p i 12).2)

theorem wrapP {n : Int} (h0 : -9223372036854775808 ≤ n) (h1 : n < 9223372036854775808) : IntKind.wrap .i64 n = n := by
  have h : ∀ m : Int, IntKind.wrap .i64 m = (m + 9223372036854775808) % 18446744073709551616 - 9223372036854775808 := fun m => by
    unfold IntKind.wrap
    simp [IntKind.bits, IntKind.signed, Int.bmod]
    omega
  rw [h]; omega

theorem atF_err (p : List T_api_Const) (i : Int) : (atF p i).2 = 0 ∨ atF p i = (Z0, 2) := by
  unfold atF
  split
  · exact .inr rfl
  · split
    · exact .inl rfl
    · exact .inr rfl
theorem getF_err (p : List T_api_Const) (i tag : Int) : ((getF p i tag).2 = 0 ∧ getF p i tag = atF p i ∧ (atF p i).1.f_Tag = tag) ∨ getF p i tag = (Z0, 2) ∨ getF p i tag = (Z0, 11) := by
  unfold getF
  split
  · rename_i h
    split
    · rename_i h2; exact .inl ⟨h, rfl, h2⟩
    · exact .inr (.inr rfl)
  · exact .inr (.inl rfl)

theorem at_pool (p : List T_api_Const) (i : Int) (hl : p.length ≤ 1000000) : m_pool_At p i = some (atF p i) := by
  unfold m_pool_At atF
  by_cases h1 : i < 1
  · rw [if_pos (decide_eq_true h1), if_pos h1]; rfl
  · rw [if_neg (by simpa using h1), if_neg h1]
    by_cases h2 : i > (p.length : Int)
    · rw [if_pos (decide_eq_true h2), List.getElem?_eq_none (by omega)]; rfl
    · rw [if_neg (by simpa using h2), wrapP (by omega) (by omega)]
      have hlt : (i - 1).toNat < p.length := by omega
      simp only [Option.bind_some]
      unfold getR
      rw [if_pos (by omega), List.getElem?_eq_getElem hlt]; rfl
theorem at_ref (p : List T_api_Const) (i : Int) (hl : p.length ≤ 1000000) : m_armatureref05_At p i = some (atF p i) := at_pool p i hl

theorem tag_pool (p : List T_api_Const) (i tag : Int) (hl : p.length ≤ 1000000) : m_pool_tagged p i tag = some (getF p i tag) := by
  unfold m_pool_tagged getF
  rw [at_pool p i hl]
  simp only [Option.bind_some]
  rcases atF_err p i with h | h
  · rw [if_pos (by simpa using h), if_pos h]
    by_cases ht : (atF p i).1.f_Tag = tag
    · rw [if_neg (by simpa using ht), if_pos ht]
    · rw [if_pos (by simpa using ht), if_neg ht]; rfl
  · rw [h]; rfl
theorem get_ref (p : List T_api_Const) (i tag : Int) (hl : p.length ≤ 1000000) : m_armatureref05_get p i tag = some (getF p i tag) := by
  unfold m_armatureref05_get getF
  rw [at_ref p i hl]
  simp only [Option.bind_some]
  rcases atF_err p i with h | h
  · rw [if_neg (by simpa using h), if_pos h]
    by_cases ht : (atF p i).1.f_Tag = tag
    · rw [if_neg (by simpa using ht), if_pos ht]
      rw [← h]
    · rw [if_pos (by simpa using ht), if_neg ht]; rfl
  · rw [h]; rfl

theorem utf_pool (p : List T_api_Const) (i : Int) (hl : p.length ≤ 1000000) : m_pool_UTF8 p i = some (utfF p i) := by
  unfold m_pool_UTF8 utfF
  rw [tag_pool p i 1 hl]
  simp only [Option.bind_some]
  rcases getF_err p i 1 with ⟨h, -⟩ | h | h
  · rw [if_neg (by simpa using h), h]
  · rw [h]; rfl
  · rw [h]; rfl
theorem utf_ref (p : List T_api_Const) (i : Int) (hl : p.length ≤ 1000000) : m_armatureref05_UTF8 p i = some (utfF p i) := by
  unfold m_armatureref05_UTF8 utfF
  rw [get_ref p i 1 hl]; rfl

theorem thr_pool (p : List T_api_Const) (i tag : Int) (hl : p.length ≤ 1000000) : m_pool_through p i tag = some (thrF p i tag) := by
  unfold m_pool_through thrF
  rw [tag_pool p i tag hl]
  simp only [Option.bind_some]
  by_cases h : (getF p i tag).2 = 0
  · rw [if_neg (by simpa using h), if_pos h, utf_pool p _ hl]; rfl
  · rw [if_pos (by simpa using h), if_neg h]
theorem cls_pool (p : List T_api_Const) (i : Int) (hl : p.length ≤ 1000000) : m_pool_ClassName p i = some (thrF p i 7) := by
  unfold m_pool_ClassName; rw [thr_pool p i 7 hl]; rfl
theorem str_pool (p : List T_api_Const) (i : Int) (hl : p.length ≤ 1000000) : m_pool_StringValue p i = some (thrF p i 8) := by
  unfold m_pool_StringValue; rw [thr_pool p i 8 hl]; rfl
theorem cls_ref (p : List T_api_Const) (i : Int) (hl : p.length ≤ 1000000) : m_armatureref05_ClassName p i = some (thrF p i 7) := by
  unfold m_armatureref05_ClassName thrF
  rw [get_ref p i 7 hl]
  simp only [Option.bind_some]
  by_cases h : (getF p i 7).2 = 0
  · rw [if_neg (by simpa using h), if_pos h, utf_ref p _ hl]; rfl
  · rw [if_pos (by simpa using h), if_neg h]
theorem str_ref (p : List T_api_Const) (i : Int) (hl : p.length ≤ 1000000) : m_armatureref05_StringValue p i = some (thrF p i 8) := by
  unfold m_armatureref05_StringValue thrF
  rw [get_ref p i 8 hl]
  simp only [Option.bind_some]
  by_cases h : (getF p i 8).2 = 0
  · rw [if_neg (by simpa using h), if_pos h, utf_ref p _ hl]; rfl
  · rw [if_pos (by simpa using h), if_neg h]

theorem nat_pool (p : List T_api_Const) (i : Int) (hl : p.length ≤ 1000000) : m_pool_NameAndType p i = some (natF p i) := by
  unfold m_pool_NameAndType natF
  rw [tag_pool p i 12 hl]
  simp only [Option.bind_some]
  by_cases h : (getF p i 12).2 = 0
  · rw [if_neg (by simpa using h), if_pos h, utf_pool p _ hl]
    simp only [Option.bind_some]
    by_cases h2 : (utfF p (getF p i 12).1.f_A).2 = 0
    · rw [if_neg (by simpa using h2), if_pos h2, utf_pool p _ hl]
      simp only [Option.bind_some]
      by_cases h3 : (utfF p (getF p i 12).1.f_B).2 = 0
      · rw [if_neg (by simpa using h3), if_pos h3]
      · rw [if_pos (by simpa using h3), if_neg h3]
    · rw [if_pos (by simpa using h2), if_neg h2]
  · rw [if_pos (by simpa using h), if_neg h]
theorem nat_ref (p : List T_api_Const) (i : Int) (hl : p.length ≤ 1000000) : m_armatureref05_NameAndType p i = some (natF p i) := by
  unfold m_armatureref05_NameAndType natF
  rw [get_ref p i 12 hl]
  simp only [Option.bind_some]
  by_cases h : (getF p i 12).2 = 0
  · rw [if_neg (by simpa using h), if_pos h, utf_ref p _ hl]
    simp only [Option.bind_some]
    by_cases h2 : (utfF p (getF p i 12).1.f_A).2 = 0
    · rw [if_neg (by simpa using h2), if_pos h2, utf_ref p _ hl]
      simp only [Option.bind_some]
      by_cases h3 : (utfF p (getF p i 12).1.f_B).2 = 0
      · rw [if_neg (by simpa using h3), if_pos h3]
      · rw [if_pos (by simpa using h3), if_neg h3]
    · rw [if_pos (by simpa using h2), if_neg h2]
  · rw [if_pos (by simpa using h), if_neg h]

def memB (tag : Int) : Bool := tag == 9 || tag == 10 || tag == 11
theorem mem_pool (tag : Int) : m_pool_isMember tag = some (memB tag) := by
  unfold m_pool_isMember memB
  cases h1 : tag == 9 <;> cases h2 : tag == 10 <;> simp
theorem mem_ref (tag : Int) : m_armatureref05_member tag = some (memB tag) := mem_pool tag

def ZR : T_api_Ref := { f_Class := [], f_Name := [], f_Desc := [] }
def refF (p : List T_api_Const) (i tag : Int) : T_api_Ref × Int :=
  if (atF p i).2 = 0 then
    (if memB tag = true ∧ (atF p i).1.f_Tag = tag then
      (if (thrF p (atF p i).1.f_A 7).2 = 0 then
        (if (natF p (atF p i).1.f_B).2.2 = 0 then ({ f_Class := (thrF p (atF p i).1.f_A 7).1, f_Name := (natF p (atF p i).1.f_B).1, f_Desc := (natF p (atF p i).1.f_B).2.1 }, 0) else (ZR, (natF p (atF p i).1.f_B).2.2))
      else (ZR, (thrF p (atF p i).1.f_A 7).2))
    else (ZR, 11))
  else (ZR, (atF p i).2)

theorem ref_tail (v : T_api_Const × Int) (p : List T_api_Const) (hl : p.length ≤ 1000000) : j23x1 v p = some (if (thrF p v.1.f_A 7).2 = 0 then
        (if (natF p v.1.f_B).2.2 = 0 then ({ f_Class := (thrF p v.1.f_A 7).1, f_Name := (natF p v.1.f_B).1, f_Desc := (natF p v.1.f_B).2.1 }, 0) else (ZR, (natF p v.1.f_B).2.2))
      else (ZR, (thrF p v.1.f_A 7).2)) := by
  unfold j23x1
  rw [cls_ref p _ hl]
  simp only [Option.bind_some]
  by_cases h2 : (thrF p v.1.f_A 7).2 = 0
  · rw [if_neg (by simpa using h2), if_pos h2, nat_ref p _ hl]
    simp only [Option.bind_some]
    by_cases h3 : (natF p v.1.f_B).2.2 = 0
    · rw [if_neg (by simpa using h3), if_pos h3]
    · rw [if_pos (by simpa using h3), if_neg h3]; rfl
  · rw [if_pos (by simpa using h2), if_neg h2]; rfl
theorem ref_ref (p : List T_api_Const) (i tag : Int) (hl : p.length ≤ 1000000) : m_armatureref05_MemberRef p i tag = some (refF p i tag) := by
  unfold m_armatureref05_MemberRef refF
  rw [at_ref p i hl, mem_ref]
  simp only [Option.bind_some]
  by_cases h : (atF p i).2 = 0
  · rw [if_neg (by simpa using h), if_pos h]
    cases hm : memB tag with
    | false => simp only [Bool.not_false, if_true, Bool.false_eq_true, false_and, if_false]; rfl
    | true =>
      simp only [Bool.not_true, Bool.false_eq_true, if_false, true_and]
      by_cases ht : (atF p i).1.f_Tag = tag
      · rw [if_neg (by simpa using ht), if_pos ht, ref_tail _ p hl]
      · rw [if_pos (by simpa using ht), if_neg ht]; rfl
  · rw [if_pos (by simpa using h), if_neg h]; rfl
theorem ref_tail2 (v : T_api_Const × Int) (p : List T_api_Const) (e : Int) (hl : p.length ≤ 1000000) : j22x2 v p e = if e = 0 then j23x1 v p else some (ZR, e) := by
  unfold j22x2
  by_cases he : e = 0
  · rw [if_neg (by simpa using he), if_pos he]
    unfold j23x1
    rw [cls_pool p _ hl, cls_ref p _ hl]
    simp only [Option.bind_some]
    rw [nat_pool p _ hl, nat_ref p _ hl]
  · rw [if_pos (by simpa using he), if_neg he]; rfl
theorem ref_pool (p : List T_api_Const) (i tag : Int) (hl : p.length ≤ 1000000) : m_pool_MemberRef p i tag = some (refF p i tag) := by
  unfold m_pool_MemberRef refF j22x1
  rw [at_pool p i hl, mem_pool]
  simp only [Option.bind_some, ref_tail2 _ p _ hl]
  by_cases h : (atF p i).2 = 0
  · rw [if_pos (by simpa using h), if_pos h]
    cases hm : memB tag with
    | false => simp only [Bool.not_false, if_true, Bool.false_eq_true, false_and, if_false]; rw [if_neg (by decide)]; simp only [h, if_true]
    | true =>
      simp only [Bool.not_true, Bool.false_eq_true, if_false, true_and]
      by_cases ht : (atF p i).1.f_Tag = tag
      · rw [if_neg (by simpa using ht), if_pos ht, if_pos h, ref_tail _ p hl]
      · rw [if_pos (by simpa using ht), if_neg ht, if_neg (by decide)]; simp only [h, if_true]
  · rw [if_neg (by simpa using h), if_neg h, if_neg h]

theorem awake5 : m_armaturelaw05_awake = some true := by decide +kernel
theorem eqC_refl (c : T_api_Const) : eqb_T_api_Const c c = true := by simp [eqb_T_api_Const]
theorem eqR_refl (c : T_api_Ref) : eqb_T_api_Ref c c = true := by simp [eqb_T_api_Ref]
theorem few5 (p : List T_api_Const) : m_armaturelaw05_few p = some (decide ((p.length : Int) ≤ 1100)) := rfl

end Go.Proofs
