/-
  Whether class spaces are consistent, and a constraint that is added: the program and the reference answer alike. No condition.
-/
import Derived.Test.YtoijcliccgjolaaGreatConR
set_option linter.unusedVariables false
namespace Go.Proofs
open Go.Den Go.Tot
theorem Val.agr {w : Z07} (hw : Z39 w) (V : Val w) : Z43 w.Z0u w.Z0j:=fun u hu v hv hn hc=>V.agree hw hu hv hn hc
def Z8g (w : Z07) (s : List UInt8) (a b : Int) : Z07:={ w with Z0j:=w.Z0j ++ [⟨s,a,b⟩] }
def Nm (s : List UInt8) : Prop:=Z4u s = some true
def Z90 (w : Z07) (s : List UInt8) (a b : Int) (r : Z07 × Int) : Prop:=
 (¬Nm s ∧ r = (w,12)) ∨ (Nm s ∧ ¬(InL w a ∧ InL w b) ∧ r = (w,2)) ∨ (Nm s ∧ InL w a ∧ InL w b ∧ Z17 w.Z0j s a b ∧ r = (w,0)) ∨
 (Nm s ∧ InL w a ∧ InL w b ∧ ¬Z17 w.Z0j s a b ∧ ¬Z43 w.Z0u (w.Z0j ++ [⟨s,a,b⟩]) ∧ r = (w,40)) ∨
 (Nm s ∧ InL w a ∧ InL w b ∧ ¬Z17 w.Z0j s a b ∧ Z43 w.Z0u (w.Z0j ++ [⟨s,a,b⟩]) ∧ r = (Z8g w s a b,0))
structure Sp (w : Z07) : Prop where
 sw : Z39 w
 sv : Val w
 sc : w.Z0j.length ≤ 990
theorem Zsd (s : List UInt8) : Z95 s = some (decide (s.length ≤ 64) && okC true s) ∧ Z4u s = some (decide (s.length ≤ 64) && okC true s):=by
 by_cases h : s.length ≤ 64
 ·exact ⟨isClass s (by omega),Y06 s (by omega)⟩
 ·have h' : decide ((s.length : Int) > 64) = true:=decide_eq_true (by omega)
  have h0 : (s == []) = false:=by cases s <;> simp at h ⊢
  unfold Z95 Z4u
  rw [h',h0,decide_eq_false h]
  exact ⟨rfl,rfl⟩
theorem nm_ok (s : List UInt8) : Ok (Z95 s) (fun r=>r = true ↔ Nm s):=ok' (Zsd s).1 (by unfold Nm; rw [(Zsd s).2]; simp)
theorem Zpi (w : Z07) (s : List UInt8) (a : Int) (l : List Int) (hl : l.length ≤ 1001 ∧ ∀ j,j ∈ l ↔ Z17 w.Z0j s a j) (hi : w.Z0u.length ≤ 140737488355328) :
  Ok (Zd0 w s l) (fun r=>(r.2 = true ∧ Cls w.Z0u w.Z0j s a r.1) ∨ (r.2 = false ∧ ∀ n,¬Cls w.Z0u w.Z0j s a n)):=by
 unfold Zd0
 refine bd (P:=fun q : Unit ⊕ (Int × Bool)=>match q with | .inl _=>∀ u ∈ w.Z0u,¬(u.Z03 = s ∧ Z17 w.Z0j s a u.Z1m) | .inr r=>r.2 = true ∧ Cls w.Z0u w.Z0j s a r.1) (lp (fun t=>t) w.Z0u.length (fun t=>∀ u ∈ w.Z0u.take t.toNat,¬(u.Z03 = s ∧ Z17 w.Z0j s a u.Z1m)) (fun t hI g0 g1=>?_) (by omega) (by simp) (by omega) (by omega)) fun q hq=>?_
 ·unfold l36x1
  have skip : ∀ k : Int,k = t + 1 → ∀ v,w.Z0u[t.toNat]? = some v → ¬(v.Z03 = s ∧ Z17 w.Z0j s a v.Z1m) → ∀ u ∈ w.Z0u.take k.toNat,¬(u.Z03 = s ∧ Z17 w.Z0j s a u.Z1m):=fun k hk v hv hn u hu=>by
   rw [hk,show (t + 1).toNat = t.toNat + 1 by omega,List.take_add_one,hv] at hu
   simp only [Option.toList,List.mem_append,List.mem_singleton] at hu
   rcases hu with hu | rfl
   ·exact hI u hu
   ·exact hn
  refine brD (fun hlt=>bd (gri g0 hlt) fun v hv=>br (fun hn=>bd (Ztz _ _ (by omega)) fun b hb=>br (fun h=>dn ⟨rfl,v,hv.1,by simpa using hn,(hl.2 _).1 (hb.1 h),rfl⟩) fun h=>bd (wr (by omega) (by omega)) fun k hk=>nx (skip k hk v hv.2 fun g=>(by rw [hb.2 ((hl.2 _).2 g.2)] at h; cases h)) (by omega) (by omega)) fun hn=>bd (wr (by omega) (by omega)) fun k hk=>nx (skip k hk v hv.2 fun g=>by simp [g.1] at hn) (by omega) (by omega)) fun hge=>dn ?_
  have:=hI; rwa [List.take_of_length_le (by omega)] at this
 ·cases q with
  | inl _=>exact ok (.inr ⟨rfl,fun n ⟨u,hu,h1,h2,_⟩=>hq u hu ⟨h1,h2⟩⟩)
  | inr y=>exact ok (.inl hq)
theorem Zfb (w : Z07) (S : Sp w) (s : List UInt8) (hs : Str s) (a b : Int) : Ok (Z6m w s a b) (Z90 w s a b):=by
 have hc:=S.sc; have hi:=S.sw.iniL; have hcl:=S.sc
 unfold Z6m
 rw [Zg0,Zg0]
 refine bd (nm_ok s) fun v0 h0=>br! (fun e=>ok (.inl ⟨fun g=>(by rw [h0.2 g] at e; cases e),rfl⟩)) fun e=>?_
 have hn:=h0.1 e
 refine bs (br! (fun h=>ok (.inr (.inl ⟨hn,fun g=>absurd g.1 (by simpa using h),rfl⟩))) fun ha=>bs (br! (fun h=>ok (.inr (.inl ⟨hn,fun g=>absurd g.2 (by simpa using h),rfl⟩))) fun hb=>?_))
 have ha' : InL w a:=by simpa using ha
 have hb' : InL w b:=by simpa using hb
 have hadd : ¬Z17 w.Z0j s a b → Z43 w.Z0u (w.Z0j ++ [⟨s,a,b⟩]) → Ok (Zae w s a b) (Z90 w s a b):=fun hnc hag=>by
  unfold Zae Zlb
  exact bd (bd (gk (by simp; omega) (by simp; omega)) fun _ _=>ok (P:=fun x=>x = w.Z0j) rfl) fun x hx=>bd (gk (by simp [hx]; omega) (by simp [hx]; omega)) fun _ _=>ok (.inr (.inr (.inr (.inr ⟨hn,ha',hb',hnc,hag,by rw [hx]; rfl⟩))))
 unfold j17x1
 refine bd (Zn4 w s a (by omega)) fun l hl=>bd (Ztz _ _ (by omega)) fun v hv=>br (fun h=>ok (.inr (.inr (.inl ⟨hn,ha',hb',(hl.2 _).1 (hv.1 h),rfl⟩)))) fun h=>?_
 have hnc : ¬Z17 w.Z0j s a b:=fun g=>(by rw [hv.2 ((hl.2 _).2 g)] at h; cases h)
 refine bd (Zpi w s a l hl (by omega)) fun x hx=>bd (Zn4 w s b (by omega)) fun l' hl'=>bd (Zpi w s b l' hl' (by omega)) fun y hy=>?_
 have A:=S.sv.agr S.sw
 rcases hx with ⟨e1,cx⟩ | ⟨e1,cx⟩
 ·rw [e1,if_pos rfl]
  rcases hy with ⟨e2,cy⟩ | ⟨e2,cy⟩
  ·rw [e2,if_pos rfl]
   refine brN (fun hne=>ok (.inr (.inr (.inr (.inl ⟨hn,ha',hb',hnc,fun g=>hne ((Zf9 A).1 g _ _ cx cy),rfl⟩))))) fun heq=>hadd hnc ((Zf9 A).2 fun n m hn hm=>?_)
   rw [← Cls.one A cx hn,← Cls.one A cy hm,heq]
  ·rw [e2,if_neg (by simp)]
   exact hadd hnc ((Zf9 A).2 fun n m hn hm=>absurd hm (cy m))
 ·rw [e1,if_neg (by simp)]
  exact hadd hnc ((Zf9 A).2 fun n m hn hm=>absurd hn (cx n))
theorem Zxe {w : Z07} (hw : Z39 w) {s : List UInt8} (hs : Str s) (a b : Int) (hc : w.Z0j.length ≤ 1000) : Z39 (Z8g w s a b):=
 ⟨hw.lod,hw.lodL,hw.cls,hw.clsL,hw.ini,hw.iniL,fun c hcm=>by
  rcases List.mem_append.1 hcm with h | h
  ·exact hw.con c h
  ·rw [List.mem_singleton.1 h]; exact hs,by unfold Z8g; simp; omega⟩
theorem addC_v {w : Z07} (hw : Z39 w) (V : Val w) {s : List UInt8} (hs : Str s) {a b : Int} (hc : w.Z0j.length ≤ 1000) (hn : Nm s) (ha : InL w a) (hb : InL w b) (g : Z43 w.Z0u (w.Z0j ++ [⟨s,a,b⟩])) : Val (Z8g w s a b):=by
 have hw':=Zxe hw hs a b hc
 have hcon : ∀ c ∈ (Z8g w s a b).Z0j,Z5a (Z8g w s a b) c ∧ Z4u c.Z03 = some true:=fun c hcm=>by
  rcases List.mem_append.1 hcm with h | h
  ·exact V.con c h
  ·rw [List.mem_singleton.1 h]; exact ⟨⟨ha.1,ha.2,hb.1,hb.2⟩,hn⟩
 refine ⟨V.chk,V.few,V.inL,hcon,fun t g0 g1=>⟨(V.ini t g0 g1).1,?_⟩,V.cls⟩
 obtain ⟨r,e,h⟩:=Zv7 (Z8g w s a b) hw' (V.lod hw : w.Z0z.length ≤ 8) (fun c hc=>(hcon c hc).1) (V.seen hw : ∀ v ∈ w.Z0u,Z62 w v) t g0 g1
 rw [e]
 refine congrArg some (h.2 fun u v hu k hk hv hn hcn=>?_)
 exact (g u (List.mem_iff_getElem?.2 ⟨_,hu⟩) v (List.mem_iff_getElem?.2 ⟨_,hv⟩) hn.symm hcn).symm
theorem Z90.sp {w : Z07} (S : Sp w) {s : List UInt8} (hs : Str s) {a b : Int} {r : Z07 × Int} (h : Z90 w s a b r) : Z39 r.1 ∧ Val r.1 ∧ r.1.Z0j.length ≤ w.Z0j.length + 1 ∧ r.1.Z0z = w.Z0z ∧ r.1.Z0u = w.Z0u ∧ r.1.Z2f = w.Z2f:=by
 have hc:=S.sc
 rcases h with ⟨n,rfl⟩ | ⟨n,i,rfl⟩ | ⟨n,i1,i2,c,rfl⟩ | ⟨n,i1,i2,c,g,rfl⟩ | ⟨n,i1,i2,c,g,rfl⟩
 rotate_right
 ·exact ⟨Zxe S.sw hs _ _ (by omega),addC_v S.sw S.sv hs (by omega) n i1 i2 g,by simp [Z8g],rfl,rfl,rfl⟩
 all_goals exact ⟨S.sw,S.sv,by dsimp only; omega,rfl,rfl,rfl⟩
theorem Z90.same {w : Z07} {s : List UInt8} {a b : Int} {r : Z07 × Int} (h : Z90 w s a b r) (h0 : r.2 = 0) : Z2g r.1.Z0j (w.Z0j ++ [⟨s,a,b⟩]) ∧ InL w a ∧ InL w b ∧ Nm s:=by
 rcases h with ⟨n,rfl⟩ | ⟨n,i,rfl⟩ | ⟨n,i1,i2,c,rfl⟩ | ⟨n,i1,i2,c,g,rfl⟩ | ⟨n,i1,i2,c,g,rfl⟩
 ·cases h0
 ·cases h0
 ·exact ⟨(Zw5 c).symm,i1,i2,n⟩
 ·cases h0
 ·exact ⟨Z2g.rfl,i1,i2,n⟩
theorem Z90.iff {w : Z07} (S : Sp w) {s : List UInt8} {a b : Int} {r : Z07 × Int} (h : Z90 w s a b r) (n : Nm s) (i1 : InL w a) (i2 : InL w b) : r.2 = 0 ↔ Z43 w.Z0u (w.Z0j ++ [⟨s,a,b⟩]):=by
 rcases h with ⟨n',rfl⟩ | ⟨n',i,rfl⟩ | ⟨n',_,_,c,rfl⟩ | ⟨n',_,_,c,g,rfl⟩ | ⟨n',_,_,c,g,rfl⟩
 ·exact absurd n n'
 ·exact absurd ⟨i1,i2⟩ i
 ·exact ⟨fun _=>(Z43.same (Zw5 c)).2 (S.sv.agr S.sw),fun _=>rfl⟩
 ·exact ⟨fun e=>(by cases e),fun e=>absurd e g⟩
 ·exact ⟨fun _=>g,fun _=>rfl⟩
end Go.Proofs
