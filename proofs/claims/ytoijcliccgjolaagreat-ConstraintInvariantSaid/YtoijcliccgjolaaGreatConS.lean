/-
  Whether class spaces are consistent, and a constraint that is added: the program and the reference answer alike. No condition.
-/
import Derived.Test.YtoijcliccgjolaaGreatConR
set_option linter.unusedVariables false
namespace Go.Proofs
open Go.Den Go.Tot
def ConsP (w : Z07) : Prop:=∀ t : Int,0 ≤ t → t < w.Z0p.length → OneI w t
theorem cons_ok (w : Z07) (hc : w.Z0g.length ≤ 1000) (hi : w.Z0p.length ≤ 140737488355328) : Ok (Zcb w) (fun r=>r = true ↔ ConsP w):=by
 unfold Zcb
 refine bd (allL (n:=w.Z0p.length) (p:=OneI w) (y:= .inr false) (z:= .inl ()) (by omega) (by omega) (fun t g0 g1 _=>?_) ?_) fun q hq=>?_
 ·unfold Zgk
  refine brD (fun _=>bd (gri g0 g1) fun u hu=>bd (Zgn w u.Z02 u.Z1k hc) fun l hl=>?_) fun h=>absurd g1 h
  have hsub : sub w.Z0p 0 t = some (w.Z0p.take t.toNat):=by unfold sub; rw [if_pos (by omega)]; simp
  rw [hsub]
  have hlen : (w.Z0p.take t.toNat).length = t.toNat:=by rw [List.length_take]; omega
  refine bs (bd (allP (l:=w.Z0p.take t.toNat) (p:=fun v=>v.Z02 = u.Z02 → Z11 w.Z0g u.Z02 u.Z1k v.Z1k → v.Z0q = u.Z0q) (y:= .inr false) (z:= .inl ()) (by omega) (fun k v k0 k1 hv hvm hvg=>?_) ?_) fun q hq=>?_)
  ·unfold Zfm
   rw [hvg]
   refine brD (fun _=>bs (br (fun hn=>brN (fun hne=>bd (Zox _ _ (by omega)) fun b hb=>br (fun h=>ok (.inr ⟨rfl,fun g=>hne (g (by simpa using hn) ((hl.2 _).1 (hb.1 h)))⟩)) fun h=>bd (wr (by omega) (by omega)) fun k hk=>ok (.inl ⟨by rw [hk],fun _ g=>(by rw [hb.2 ((hl.2 _).2 g)] at h; cases h)⟩)) fun he=>bd (wr (by omega) (by omega)) fun k hk=>ok (.inl ⟨by rw [hk],fun _ _=>he⟩)) fun hn=>bd (wr (by omega) (by omega)) fun k hk=>ok (.inl ⟨by rw [hk],fun e=>by simp [e] at hn⟩))) fun h=>absurd k1 h
  ·unfold Zfm
   exact brD (fun h=>absurd h (by omega)) fun _=>ok rfl
  ·rcases hq with ⟨rfl,h⟩ | ⟨rfl,v,hv,hn⟩
   ·refine bd (wr (by omega) (by omega)) fun k hk=>ok (.inl ⟨by rw [hk],fun u' v hu' j hj hv=>?_⟩)
    rw [hu.2] at hu'; cases hu'
    exact h v (List.mem_iff_getElem?.2 ⟨j,by rw [List.getElem?_take,if_pos (by omega)]; exact hv⟩)
   ·refine ok (.inr ⟨rfl,fun g=>hn ?_⟩)
    obtain ⟨j,hj⟩:=List.mem_iff_getElem?.1 hv
    have hjl:=(List.getElem?_eq_some_iff.1 hj).1
    rw [List.getElem?_take,if_pos (by omega)] at hj
    exact g u v hu.2 j (by omega) hj
 ·unfold Zgk
  exact brD (fun h=>absurd h (by omega)) fun _=>ok rfl
 ·rcases hq with ⟨rfl,h⟩ | ⟨rfl,t,g0,g1,hn⟩
  ·exact ok ⟨fun _=>h,fun _=>rfl⟩
  ·exact ok ⟨by simp,fun g=>absurd (g t g0 g1) hn⟩
theorem Val.cons {w : Z07} (hw : Z31 w) (V : Val w) : ConsP w:=fun t g0 g1=>by
 obtain ⟨b,e,h⟩:=Zp0 w hw (V.lod hw) V.con' (V.seen hw) t g0 g1
 rw [(V.ini t g0 g1).2] at e; cases e
 exact h.1 rfl
theorem Val.agr {w : Z07} (hw : Z31 w) (V : Val w) : Z8x w.Z0p w.Z0g:=fun u hu v hv hn hc=>V.agree hw hu hv hn hc
def Z95 (w : Z07) (s : List UInt8) (a b : Int) : Z07:={ w with Z0g:=w.Z0g ++ [⟨s,a,b⟩] }
def Nm (s : List UInt8) : Prop:=Z52 s = some true
def Z8a (w : Z07) (s : List UInt8) (a b : Int) (r : Z07 × Int) : Prop:=
 (¬Nm s ∧ r = (w,12)) ∨ (Nm s ∧ ¬(InL w a ∧ InL w b) ∧ r = (w,2)) ∨ (Nm s ∧ InL w a ∧ InL w b ∧ Z11 w.Z0g s a b ∧ r = (w,0)) ∨
 (Nm s ∧ InL w a ∧ InL w b ∧ ¬Z11 w.Z0g s a b ∧ ¬Z8x w.Z0p (w.Z0g ++ [⟨s,a,b⟩]) ∧ r = (w,40)) ∨
 (Nm s ∧ InL w a ∧ InL w b ∧ ¬Z11 w.Z0g s a b ∧ Z8x w.Z0p (w.Z0g ++ [⟨s,a,b⟩]) ∧ r = (Z95 w s a b,0))
structure Sp (w : Z07) : Prop where
 sw : Z31 w
 sv : Val w
 sc : w.Z0g.length ≤ 990
theorem Zrd (s : List UInt8) : Za2 s = some (decide (s.length ≤ 64) && okC true s) ∧ Z52 s = some (decide (s.length ≤ 64) && okC true s):=by
 by_cases h : s.length ≤ 64
 ·exact ⟨isClass s (by omega),Y2z s (by omega)⟩
 ·have h' : decide ((s.length : Int) > 64) = true:=decide_eq_true (by omega)
  have h0 : (s == []) = false:=by cases s <;> simp at h ⊢
  unfold Za2 Z52
  rw [h',h0,decide_eq_false h]
  exact ⟨rfl,rfl⟩
theorem nm_ok (s : List UInt8) : Ok (Za2 s) (fun r=>r = true ↔ Nm s):=ok' (Zrd s).1 (by unfold Nm; rw [(Zrd s).2]; simp)
theorem Zx2 (w : Z07) (s : List UInt8) (a : Int) (l : List Int) (hl : l.length ≤ 1001 ∧ ∀ j,j ∈ l ↔ Z11 w.Z0g s a j) (hi : w.Z0p.length ≤ 140737488355328) :
  Ok (Zff w s l) (fun r=>(r.2 = true ∧ Cls w.Z0p w.Z0g s a r.1) ∨ (r.2 = false ∧ ∀ n,¬Cls w.Z0p w.Z0g s a n)):=by
 unfold Zff
 refine bd (P:=fun q : Unit ⊕ (Int × Bool)=>match q with | .inl _=>∀ u ∈ w.Z0p,¬(u.Z02 = s ∧ Z11 w.Z0g s a u.Z1k) | .inr r=>r.2 = true ∧ Cls w.Z0p w.Z0g s a r.1) (lp (fun t=>t) w.Z0p.length (fun t=>∀ u ∈ w.Z0p.take t.toNat,¬(u.Z02 = s ∧ Z11 w.Z0g s a u.Z1k)) (fun t hI g0 g1=>?_) (by omega) (by simp) (by omega) (by omega)) fun q hq=>?_
 ·unfold l36x1
  have skip : ∀ k : Int,k = t + 1 → ∀ v,w.Z0p[t.toNat]? = some v → ¬(v.Z02 = s ∧ Z11 w.Z0g s a v.Z1k) → ∀ u ∈ w.Z0p.take k.toNat,¬(u.Z02 = s ∧ Z11 w.Z0g s a u.Z1k):=fun k hk v hv hn u hu=>by
   rw [hk,show (t + 1).toNat = t.toNat + 1 by omega,List.take_add_one,hv] at hu
   simp only [Option.toList,List.mem_append,List.mem_singleton] at hu
   rcases hu with hu | rfl
   ·exact hI u hu
   ·exact hn
  refine brD (fun hlt=>bd (gri g0 hlt) fun v hv=>br (fun hn=>bd (Zox _ _ (by omega)) fun b hb=>br (fun h=>dn ⟨rfl,v,hv.1,by simpa using hn,(hl.2 _).1 (hb.1 h),rfl⟩) fun h=>bd (wr (by omega) (by omega)) fun k hk=>nx (skip k hk v hv.2 fun g=>(by rw [hb.2 ((hl.2 _).2 g.2)] at h; cases h)) (by omega) (by omega)) fun hn=>bd (wr (by omega) (by omega)) fun k hk=>nx (skip k hk v hv.2 fun g=>by simp [g.1] at hn) (by omega) (by omega)) fun hge=>dn ?_
  have:=hI; rwa [List.take_of_length_le (by omega)] at this
 ·cases q with
  | inl _=>exact ok (.inr ⟨rfl,fun n ⟨u,hu,h1,h2,_⟩=>hq u hu ⟨h1,h2⟩⟩)
  | inr y=>exact ok (.inl hq)
theorem add_ok (w : Z07) (S : Sp w) (s : List UInt8) (hs : Str s) (a b : Int) : Ok (Z8p w s a b) (Z8a w s a b):=by
 have hc:=S.sc; have hi:=S.sw.iniL; have hcl:=S.sc
 unfold Z8p
 rw [Zk4,Zk4]
 refine bd (nm_ok s) fun v0 h0=>br! (fun e=>ok (.inl ⟨fun g=>(by rw [h0.2 g] at e; cases e),rfl⟩)) fun e=>?_
 have hn:=h0.1 e
 refine bs (br! (fun h=>ok (.inr (.inl ⟨hn,fun g=>absurd g.1 (by simpa using h),rfl⟩))) fun ha=>bs (br! (fun h=>ok (.inr (.inl ⟨hn,fun g=>absurd g.2 (by simpa using h),rfl⟩))) fun hb=>?_))
 have ha' : InL w a:=by simpa using ha
 have hb' : InL w b:=by simpa using hb
 have hadd : ¬Z11 w.Z0g s a b → Z8x w.Z0p (w.Z0g ++ [⟨s,a,b⟩]) → Ok (Zbi w s a b) (Z8a w s a b):=fun hnc hag=>by
  unfold Zbi Zn8
  exact bd (bd (gk (by simp; omega) (by simp; omega)) fun _ _=>ok (P:=fun x=>x = w.Z0g) rfl) fun x hx=>bd (gk (by simp [hx]; omega) (by simp [hx]; omega)) fun _ _=>ok (.inr (.inr (.inr (.inr ⟨hn,ha',hb',hnc,hag,by rw [hx]; rfl⟩))))
 unfold j17x1
 refine bd (Zgn w s a (by omega)) fun l hl=>bd (Zox _ _ (by omega)) fun v hv=>br (fun h=>ok (.inr (.inr (.inl ⟨hn,ha',hb',(hl.2 _).1 (hv.1 h),rfl⟩)))) fun h=>?_
 have hnc : ¬Z11 w.Z0g s a b:=fun g=>(by rw [hv.2 ((hl.2 _).2 g)] at h; cases h)
 refine bd (Zx2 w s a l hl (by omega)) fun x hx=>bd (Zgn w s b (by omega)) fun l' hl'=>bd (Zx2 w s b l' hl' (by omega)) fun y hy=>?_
 have A:=S.sv.agr S.sw
 rcases hx with ⟨e1,cx⟩ | ⟨e1,cx⟩
 ·rw [e1,if_pos rfl]
  rcases hy with ⟨e2,cy⟩ | ⟨e2,cy⟩
  ·rw [e2,if_pos rfl]
   refine brN (fun hne=>ok (.inr (.inr (.inr (.inl ⟨hn,ha',hb',hnc,fun g=>hne ((Zjy A).1 g _ _ cx cy),rfl⟩))))) fun heq=>hadd hnc ((Zjy A).2 fun n m hn hm=>?_)
   rw [← Cls.one A cx hn,← Cls.one A cy hm,heq]
  ·rw [e2,if_neg (by simp)]
   exact hadd hnc ((Zjy A).2 fun n m hn hm=>absurd hm (cy m))
 ·rw [e1,if_neg (by simp)]
  exact hadd hnc ((Zjy A).2 fun n m hn hm=>absurd hn (cx n))
theorem Zy8 {w : Z07} (hw : Z31 w) {s : List UInt8} (hs : Str s) (a b : Int) (hc : w.Z0g.length ≤ 1000) : Z31 (Z95 w s a b):=
 ⟨hw.lod,hw.lodL,hw.cls,hw.clsL,hw.ini,hw.iniL,fun c hcm=>by
  rcases List.mem_append.1 hcm with h | h
  ·exact hw.con c h
  ·rw [List.mem_singleton.1 h]; exact hs,by unfold Z95; simp; omega⟩
theorem addC_v {w : Z07} (hw : Z31 w) (V : Val w) {s : List UInt8} (hs : Str s) {a b : Int} (hc : w.Z0g.length ≤ 1000) (hn : Nm s) (ha : InL w a) (hb : InL w b) (g : Z8x w.Z0p (w.Z0g ++ [⟨s,a,b⟩])) : Val (Z95 w s a b):=by
 have hw':=Zy8 hw hs a b hc
 have hcon : ∀ c ∈ (Z95 w s a b).Z0g,Z5d (Z95 w s a b) c ∧ Z52 c.Z02 = some true:=fun c hcm=>by
  rcases List.mem_append.1 hcm with h | h
  ·exact V.con c h
  ·rw [List.mem_singleton.1 h]; exact ⟨⟨ha.1,ha.2,hb.1,hb.2⟩,hn⟩
 refine ⟨V.chk,V.few,V.inL,hcon,fun t g0 g1=>⟨(V.ini t g0 g1).1,?_⟩,V.cls⟩
 obtain ⟨r,e,h⟩:=Zp0 (Z95 w s a b) hw' (V.lod hw : w.Z12.length ≤ 8) (fun c hc=>(hcon c hc).1) (V.seen hw : ∀ v ∈ w.Z0p,Z60 w v) t g0 g1
 rw [e]
 refine congrArg some (h.2 fun u v hu k hk hv hn hcn=>?_)
 exact (g u (List.mem_iff_getElem?.2 ⟨_,hu⟩) v (List.mem_iff_getElem?.2 ⟨_,hv⟩) hn.symm hcn).symm
theorem Z8a.sp {w : Z07} (S : Sp w) {s : List UInt8} (hs : Str s) {a b : Int} {r : Z07 × Int} (h : Z8a w s a b r) : Z31 r.1 ∧ Val r.1 ∧ r.1.Z0g.length ≤ w.Z0g.length + 1 ∧ r.1.Z12 = w.Z12 ∧ r.1.Z0p = w.Z0p ∧ r.1.Z2c = w.Z2c:=by
 have hc:=S.sc
 rcases h with ⟨n,rfl⟩ | ⟨n,i,rfl⟩ | ⟨n,i1,i2,c,rfl⟩ | ⟨n,i1,i2,c,g,rfl⟩ | ⟨n,i1,i2,c,g,rfl⟩
 rotate_right
 ·exact ⟨Zy8 S.sw hs _ _ (by omega),addC_v S.sw S.sv hs (by omega) n i1 i2 g,by simp [Z95],rfl,rfl,rfl⟩
 all_goals exact ⟨S.sw,S.sv,by dsimp only; omega,rfl,rfl,rfl⟩
theorem Z8a.same {w : Z07} {s : List UInt8} {a b : Int} {r : Z07 × Int} (h : Z8a w s a b r) (h0 : r.2 = 0) : Z35 r.1.Z0g (w.Z0g ++ [⟨s,a,b⟩]) ∧ InL w a ∧ InL w b ∧ Nm s:=by
 rcases h with ⟨n,rfl⟩ | ⟨n,i,rfl⟩ | ⟨n,i1,i2,c,rfl⟩ | ⟨n,i1,i2,c,g,rfl⟩ | ⟨n,i1,i2,c,g,rfl⟩
 ·cases h0
 ·cases h0
 ·exact ⟨(same_in c).symm,i1,i2,n⟩
 ·cases h0
 ·exact ⟨Z35.rfl,i1,i2,n⟩
theorem Z8a.err {w : Z07} {s : List UInt8} {a b : Int} {r : Z07 × Int} (h : Z8a w s a b r) (h0 : r.2 ≠ 0) : r.1 = w:=by
 rcases h with ⟨n,rfl⟩ | ⟨n,i,rfl⟩ | ⟨n,i1,i2,c,rfl⟩ | ⟨n,i1,i2,c,g,rfl⟩ | ⟨n,i1,i2,c,g,rfl⟩ <;> first | rfl | exact absurd rfl h0
end Go.Proofs
