/-
  Whether class spaces are consistent, and a constraint that is added: the program and the reference answer alike. No condition.
-/
import Derived.Test.YtoijcliccgjolaaGreatConR
set_option linter.unusedVariables false
namespace Go.Proofs
open Go.Den Go.Tot
theorem Val.agr {w : Z04} (hw : Z30 w) (V : Val w) : Z81 w.Z0l w.Z0g:=fun u hu v hv hn hc=>V.agree hw hu hv hn hc
def Z83 (w : Z04) (s : List UInt8) (a b : Int) : Z04:={ w with Z0g:=w.Z0g ++ [⟨s,a,b⟩] }
def Nm (s : List UInt8) : Prop:=Z4f s = some true
def Z7f (w : Z04) (s : List UInt8) (a b : Int) (r : Z04 × Int) : Prop:=
 (¬Nm s ∧ r = (w,12)) ∨ (Nm s ∧ ¬(InL w a ∧ InL w b) ∧ r = (w,2)) ∨ (Nm s ∧ InL w a ∧ InL w b ∧ Z1e w.Z0g s a b ∧ r = (w,0)) ∨
 (Nm s ∧ InL w a ∧ InL w b ∧ ¬Z1e w.Z0g s a b ∧ ¬Z81 w.Z0l (w.Z0g ++ [⟨s,a,b⟩]) ∧ r = (w,40)) ∨
 (Nm s ∧ InL w a ∧ InL w b ∧ ¬Z1e w.Z0g s a b ∧ Z81 w.Z0l (w.Z0g ++ [⟨s,a,b⟩]) ∧ r = (Z83 w s a b,0))
theorem Z7f.eq {w : Z04} {s : List UInt8} {a b : Int} {r r' : Z04 × Int} (h : Z7f w s a b r) (h' : Z7f w s a b r') : r = r':=by
 rcases h with ⟨n,e⟩ | ⟨n,i,e⟩ | ⟨n,i1,i2,c,e⟩ | ⟨n,i1,i2,c,g,e⟩ | ⟨n,i1,i2,c,g,e⟩ <;>
 rcases h' with ⟨n',e'⟩ | ⟨n',i',e'⟩ | ⟨n',i1',i2',c',e'⟩ | ⟨n',i1',i2',c',g',e'⟩ | ⟨n',i1',i2',c',g',e'⟩ <;>
 first | (exact e.trans e'.symm) | (exact absurd n' n) | (exact absurd n n') | (exact absurd ⟨i1',i2'⟩ i) | (exact absurd ⟨i1,i2⟩ i') | (exact absurd c' c) | (exact absurd c c') | (exact absurd g' g) | (exact absurd g g')
structure Sp (w : Z04) : Prop where
 sw : Z30 w
 sv : Val w
 sc : w.Z0g.length ≤ 990
theorem Zj1 (s : List UInt8) : Z9n s = some (decide (s.length ≤ 64) && okC true s) ∧ Z4f s = some (decide (s.length ≤ 64) && okC true s):=by
 by_cases h : s.length ≤ 64
 ·exact ⟨isClass s (by omega),Zzs s (by omega)⟩
 ·have h' : decide ((s.length : Int) > 64) = true:=decide_eq_true (by omega)
  have h0 : (s == []) = false:=by cases s <;> simp at h ⊢
  unfold Z9n Z4f
  rw [h',h0,decide_eq_false h]
  exact ⟨rfl,rfl⟩
theorem nm_ok (s : List UInt8) : Ok (Z9n s) (fun r=>r = true ↔ Nm s):=ok' (Zj1 s).1 (by unfold Nm; rw [(Zj1 s).2]; simp)
theorem nm_ref (s : List UInt8) : Ok (Z4f s) (fun r=>r = true ↔ Nm s):=ok' (Zj1 s).2 (by unfold Nm; rw [(Zj1 s).2]; simp)
theorem Zuv (w : Z04) (s : List UInt8) (a : Int) (l : List Int) (hl : l.length ≤ 1001 ∧ ∀ j,j ∈ l ↔ Z1e w.Z0g s a j) (hi : w.Z0l.length ≤ 140737488355328) :
  Ok (Zew w s l) (fun r=>(r.2 = true ∧ Cls w.Z0l w.Z0g s a r.1) ∨ (r.2 = false ∧ ∀ n,¬Cls w.Z0l w.Z0g s a n)):=by
 unfold Zew
 refine bd (P:=fun q : Unit ⊕ (Int × Bool)=>match q with | .inl _=>∀ u ∈ w.Z0l,¬(u.Z02 = s ∧ Z1e w.Z0g s a u.Z1f) | .inr r=>r.2 = true ∧ Cls w.Z0l w.Z0g s a r.1) (lp (fun t=>t) w.Z0l.length (fun t=>∀ u ∈ w.Z0l.take t.toNat,¬(u.Z02 = s ∧ Z1e w.Z0g s a u.Z1f)) (fun t hI g0 g1=>?_) (by omega) (by simp) (by omega) (by omega)) fun q hq=>?_
 ·unfold l36x1
  have skip : ∀ k : Int,k = t + 1 → ∀ v,w.Z0l[t.toNat]? = some v → ¬(v.Z02 = s ∧ Z1e w.Z0g s a v.Z1f) → ∀ u ∈ w.Z0l.take k.toNat,¬(u.Z02 = s ∧ Z1e w.Z0g s a u.Z1f):=fun k hk v hv hn u hu=>by
   rw [hk,show (t + 1).toNat = t.toNat + 1 by omega,List.take_add_one,hv] at hu
   simp only [Option.toList,List.mem_append,List.mem_singleton] at hu
   rcases hu with hu | rfl
   ·exact hI u hu
   ·exact hn
  refine brD (fun hlt=>bd (gri g0 hlt) fun v hv=>br (fun hn=>bd (Zyu _ _ (by omega)) fun b hb=>br (fun h=>dn ⟨rfl,v,hv.1,by simpa using hn,(hl.2 _).1 (hb.1 h),rfl⟩) fun h=>bd (wr (by omega) (by omega)) fun k hk=>nx (skip k hk v hv.2 fun g=>(by rw [hb.2 ((hl.2 _).2 g.2)] at h; cases h)) (by omega) (by omega)) fun hn=>bd (wr (by omega) (by omega)) fun k hk=>nx (skip k hk v hv.2 fun g=>by simp [g.1] at hn) (by omega) (by omega)) fun hge=>dn ?_
  have:=hI; rwa [List.take_of_length_le (by omega)] at this
 ·cases q with
  | inl _=>exact ok (.inr ⟨rfl,fun n ⟨u,hu,h1,h2,_⟩=>hq u hu ⟨h1,h2⟩⟩)
  | inr y=>exact ok (.inl hq)
theorem add_ok (w : Z04) (S : Sp w) (s : List UInt8) (hs : Str s) (a b : Int) : Ok (Z6a w s a b) (Z7f w s a b):=by
 have hc:=S.sc; have hi:=S.sw.iniL; have hcl:=S.sc
 unfold Z6a
 rw [Zoe,Zoe]
 refine bd (nm_ok s) fun v0 h0=>br! (fun e=>ok (.inl ⟨fun g=>(by rw [h0.2 g] at e; cases e),rfl⟩)) fun e=>?_
 have hn:=h0.1 e
 refine bs (br! (fun h=>ok (.inr (.inl ⟨hn,fun g=>absurd g.1 (by simpa using h),rfl⟩))) fun ha=>bs (br! (fun h=>ok (.inr (.inl ⟨hn,fun g=>absurd g.2 (by simpa using h),rfl⟩))) fun hb=>?_))
 have ha' : InL w a:=by simpa using ha
 have hb' : InL w b:=by simpa using hb
 have hadd : ¬Z1e w.Z0g s a b → Z81 w.Z0l (w.Z0g ++ [⟨s,a,b⟩]) → Ok (Zau w s a b) (Z7f w s a b):=fun hnc hag=>by
  unfold Zau Znl
  exact bd (bd (gk (by simp; omega) (by simp; omega)) fun _ _=>ok (P:=fun x=>x = w.Z0g) rfl) fun x hx=>bd (gk (by simp [hx]; omega) (by simp [hx]; omega)) fun _ _=>ok (.inr (.inr (.inr (.inr ⟨hn,ha',hb',hnc,hag,by rw [hx]; rfl⟩))))
 unfold j17x1
 refine bd (Ztw w s a (by omega)) fun l hl=>bd (Zyu _ _ (by omega)) fun v hv=>br (fun h=>ok (.inr (.inr (.inl ⟨hn,ha',hb',(hl.2 _).1 (hv.1 h),rfl⟩)))) fun h=>?_
 have hnc : ¬Z1e w.Z0g s a b:=fun g=>(by rw [hv.2 ((hl.2 _).2 g)] at h; cases h)
 refine bd (Zuv w s a l hl (by omega)) fun x hx=>bd (Ztw w s b (by omega)) fun l' hl'=>bd (Zuv w s b l' hl' (by omega)) fun y hy=>?_
 have A:=S.sv.agr S.sw
 rcases hx with ⟨e1,cx⟩ | ⟨e1,cx⟩
 ·rw [e1,if_pos rfl]
  rcases hy with ⟨e2,cy⟩ | ⟨e2,cy⟩
  ·rw [e2,if_pos rfl]
   refine brN (fun hne=>ok (.inr (.inr (.inr (.inl ⟨hn,ha',hb',hnc,fun g=>hne ((Zf2 A).1 g _ _ cx cy),rfl⟩))))) fun heq=>hadd hnc ((Zf2 A).2 fun n m hn hm=>?_)
   rw [← Cls.one A cx hn,← Cls.one A cy hm,heq]
  ·rw [e2,if_neg (by simp)]
   exact hadd hnc ((Zf2 A).2 fun n m hn hm=>absurd hm (cy m))
 ·rw [e1,if_neg (by simp)]
  exact hadd hnc ((Zf2 A).2 fun n m hn hm=>absurd hn (cx n))
theorem Y36 (w : Z04) (S : Sp w) (s : List UInt8) (a b : Int) (ha : InL w a) (hb : InL w b) : Ok (Zhp w s a b) (fun r=>r = false ↔ Z81 w.Z0l (w.Z0g ++ [⟨s,a,b⟩])):=by
 have hc:=S.sc; have hi:=S.sw.iniL
 unfold Zhp
 refine bd (Zie w s a (by omega) (S.sv.lod S.sw) S.sv.con' ha.1 ha.2) fun l hg=>?_
 refine bd (allP (l:=w.Z0l) (p:=fun u=>u.Z02 = s → Z1e w.Z0g s a u.Z1f → PermP w b s u.Z0o) (y:= .inr true) (z:= .inl ()) (by omega) (fun t v g0 g1 hv hvm hvg=>?_) ?_) fun q hq=>?_
 ·have hsv:=S.sv.seen S.sw v hvm
  unfold Zjj
  rw [hvg]
  refine brD (fun _=>bs (br (fun hn=>bd (gri hsv.1 (by rw [hg.1]; exact hsv.2.1)) fun x hx=>?_) fun hn=>bd (wr (by omega) (by omega)) fun k hk=>ok (.inl ⟨by rw [hk],fun e=>by simp [e] at hn⟩))) fun h=>absurd g1 h
  have hbit : x = true ↔ Z1e w.Z0g s a v.Z1f:=by
   rw [← hg.2]; exact (Bit.of hx.2 (by have:=hsv.1; omega)).symm
  exact br (fun h=>bd (Y0e w b s v.Z0o (by omega) (by omega) (S.sv.lod S.sw) S.sv.con' (S.sv.seen S.sw)) fun p hp=>br! (fun e=>ok (.inr ⟨rfl,fun g=>(by rw [hp.2 (g (by simpa using hn) (hbit.1 h))] at e; cases e)⟩)) fun e=>bd (wr (by omega) (by omega)) fun k hk=>ok (.inl ⟨by rw [hk],fun _ _=>hp.1 e⟩)) fun h=>bd (wr (by omega) (by omega)) fun k hk=>ok (.inl ⟨by rw [hk],fun _ g=>(by rw [hbit.2 g] at h; cases h)⟩)
 ·unfold Zjj
  exact brD (fun h=>absurd h (by omega)) fun _=>ok rfl
 ·have A:=S.sv.agr S.sw
  rw [Zf2 A]
  rcases hq with ⟨rfl,h⟩ | ⟨rfl,v,hv,hn⟩
  ·exact ok ⟨fun _ n m ⟨u,hu,e1,c1,e2⟩ ⟨u',hu',e1',c1',e2'⟩=>by rw [← e2,← e2']; exact ((h u hu e1 c1).2 u' hu' e1' c1').symm,fun _=>rfl⟩
  ·exact ok ⟨by simp,fun g=>absurd (fun e1 c1=>⟨hb,fun u' hu' e1' c1'=>(g _ _ ⟨v,hv,e1,c1,rfl⟩ ⟨u',hu',e1',c1',rfl⟩).symm⟩) hn⟩
theorem add_ref (w : Z04) (S : Sp w) (s : List UInt8) (hs : Str s) (a b : Int) : Ok (Z9x w s a b) (Z7f w s a b):=by
 have hc:=S.sc; have hi:=S.sw.iniL
 unfold Z9x
 rw [Zfg,Zfg]
 refine bd (nm_ref s) fun v0 h0=>br! (fun e=>ok (.inl ⟨fun g=>(by rw [h0.2 g] at e; cases e),rfl⟩)) fun e=>?_
 have hn:=h0.1 e
 refine bs (br! (fun h=>ok (.inr (.inl ⟨hn,fun g=>absurd g.1 (by simpa using h),rfl⟩))) fun ha=>bs (br! (fun h=>ok (.inr (.inl ⟨hn,fun g=>absurd g.2 (by simpa using h),rfl⟩))) fun hb=>?_))
 have ha' : InL w a:=by simpa using ha
 have hb' : InL w b:=by simpa using hb
 unfold j21x1
 refine bd (Y1m w s a b (by omega) (S.sv.lod S.sw) S.sv.con') fun v hv=>br (fun h=>ok (.inr (.inr (.inl ⟨hn,ha',hb',(hv.1 h).2.2,rfl⟩)))) fun h=>?_
 have hnc : ¬Z1e w.Z0g s a b:=fun g=>(by rw [hv.2 ⟨ha',hb',g⟩] at h; cases h)
 refine bd (Y36 w S s a b ha' hb') fun x hx=>br (fun e=>ok (.inr (.inr (.inr (.inl ⟨hn,ha',hb',hnc,fun g=>(by rw [hx.2 g] at e; cases e),rfl⟩))))) fun e=>bd (gk (by simp; omega) (by simp; omega)) fun _ _=>bd (gk (by simp; omega) (by simp; omega)) fun _ _=>ok (.inr (.inr (.inr (.inr ⟨hn,ha',hb',hnc,hx.1 e,rfl⟩))))
theorem Zr5 {w : Z04} (hw : Z30 w) {s : List UInt8} (hs : Str s) (a b : Int) (hc : w.Z0g.length ≤ 1000) : Z30 (Z83 w s a b):=
 ⟨hw.lod,hw.lodL,hw.cls,hw.clsL,hw.ini,hw.iniL,fun c hcm=>by
  rcases List.mem_append.1 hcm with h | h
  ·exact hw.con c h
  ·rw [List.mem_singleton.1 h]; exact hs,by unfold Z83; simp; omega⟩
theorem addC_v {w : Z04} (hw : Z30 w) (V : Val w) {s : List UInt8} (hs : Str s) {a b : Int} (hc : w.Z0g.length ≤ 1000) (hn : Nm s) (ha : InL w a) (hb : InL w b) (g : Z81 w.Z0l (w.Z0g ++ [⟨s,a,b⟩])) : Val (Z83 w s a b):=by
 have hw':=Zr5 hw hs a b hc
 have hcon : ∀ c ∈ (Z83 w s a b).Z0g,Z4i (Z83 w s a b) c ∧ Z4f c.Z02 = some true:=fun c hcm=>by
  rcases List.mem_append.1 hcm with h | h
  ·exact V.con c h
  ·rw [List.mem_singleton.1 h]; exact ⟨⟨ha.1,ha.2,hb.1,hb.2⟩,hn⟩
 refine ⟨V.chk,V.few,V.inL,hcon,fun t g0 g1=>⟨(V.ini t g0 g1).1,?_⟩,V.cls⟩
 obtain ⟨r,e,h⟩:=Zxi (Z83 w s a b) hw' (V.lod hw : w.Z0w.length ≤ 8) (fun c hc=>(hcon c hc).1) (V.seen hw : ∀ v ∈ w.Z0l,Z5f w v) t g0 g1
 rw [e]
 refine congrArg some (h.2 fun u v hu k hk hv hn hcn=>?_)
 exact (g u (List.mem_iff_getElem?.2 ⟨_,hu⟩) v (List.mem_iff_getElem?.2 ⟨_,hv⟩) hn.symm hcn).symm
theorem Z7f.sp {w : Z04} (S : Sp w) {s : List UInt8} (hs : Str s) {a b : Int} {r : Z04 × Int} (h : Z7f w s a b r) : Z30 r.1 ∧ Val r.1 ∧ r.1.Z0g.length ≤ w.Z0g.length + 1 ∧ r.1.Z0w = w.Z0w ∧ r.1.Z0l = w.Z0l ∧ r.1.Z1x = w.Z1x:=by
 have hc:=S.sc
 rcases h with ⟨n,rfl⟩ | ⟨n,i,rfl⟩ | ⟨n,i1,i2,c,rfl⟩ | ⟨n,i1,i2,c,g,rfl⟩ | ⟨n,i1,i2,c,g,rfl⟩
 rotate_right
 ·exact ⟨Zr5 S.sw hs _ _ (by omega),addC_v S.sw S.sv hs (by omega) n i1 i2 g,by simp [Z83],rfl,rfl,rfl⟩
 all_goals exact ⟨S.sw,S.sv,by dsimp only; omega,rfl,rfl,rfl⟩
end Go.Proofs
