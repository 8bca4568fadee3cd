/-
  That the models come to an answer, part one: names and loaders. No condition.
-/
import Derived.Test.YtiiilinleagffaaGreatDoorRch8
import Derived.Test.YtiiilinleagffaaGreatDoorGcF
set_option linter.unusedVariables false
set_option linter.unusedSimpArgs false
namespace Go.Proofs
open Go.Den Go.Tot
abbrev Str (s:List UInt8):Prop:=s.length≤4503599627370496
structure WRef (r:Xp):Prop where
 c:Str r.Zq
 n:Str r.Ze
 d:Str r.Xb
structure Qk (i:Z6):Prop where
 keys:i.Y9.length*8≤140737488355328
 tos:i.Zh.length*8≤140737488355328
 ref:WRef i.Yr
 s:Str i.f_S
structure Kj (f:V5):Prop where
 loc:∀ v∈f.Zs,Str v.Zv.Ze
 locL:f.Zs.length*56≤140737488355328
 stk:∀ v∈f.Zw,Str v.Zv.Ze
 stkL:f.Zw.length*56≤140737488355328
structure Wz (c:Zi):Prop where
 ins:∀ i∈c.Y3,Qk i
 insL:c.Y3.length*144≤140737488355328
 hnd:∀ h∈c.Xo,Str h.Zv
 hndL:c.Xo.length*48≤140737488355328
 map:∀ m∈c.Yz,Kj m.Yy
 mapL:c.Yz.length*64≤140737488355328
 linL:c.X9.length*16≤140737488355328
structure K8 (m:Xy):Prop where
 n:Str m.Ze
 d:Str m.Xb
 code:Wz m.Xz
 exc:∀ s∈m.U8,Str s
 excL:m.U8.length*16≤140737488355328
structure Z2o (f:X6):Prop where
 n:Str f.Ze
 d:Str f.Xb
 s:Str f.f_S
structure U4 (u:Zu):Prop where
 n:Str u.Ze
 sup:Str u.Yn
 ifs:∀ s∈u.Ya,Str s
 ifsL:u.Ya.length*16≤140737488355328
 fld:∀ f∈u.Yl,Z2o f
 fldL:u.Yl.length*72≤140737488355328
 met:∀ m∈u.Yo,K8 m
 metL:u.Yo.length*184≤140737488355328
 src:Str u.Jc
structure Jv (l:Yi):Prop where
 del:∀ d∈l.Wl,Str d.K9
 delL:l.Wl.length≤140737488355328
 sto:∀ c∈l.Vc,Str c.Ze
 stoL:l.Vc.length≤140737488355328
structure Wn (w:Zj):Prop where
 lod:∀ l∈w.X3,Jv l
 lodL:w.X3.length≤140737488355328
 cls:∀ c∈w.Zy,U4 c.Xg∧c.Ya.length≤140737488355328
 clsL:w.Zy.length≤140737488355328
 ini:∀ x∈w.X1,Str x.Ze
 iniL:w.X1.length≤140737488355328
 con:∀ x∈w.Qq,Str x.Ze
 conL:w.Qq.length≤140737488355328
theorem Y1x (x:Int):Ok (Zap x) (λ_=>True):=by
 unfold Zap
 repeat' with_reducible first
  | refine brD (λ_=>?_) λ_=>?_
  | refine brE (λ_=>?_) λ_=>?_
  | refine ok ?_
  | exact True.intro
theorem L34x1 (x:List UInt8) (h:Str x):Ok (Z7 (Zem x) Z8 0) (λq=>match q with|.inl _=>True|.inr y=>y=false):=by
 refine li (x.length) (λt _ _=>?_) (by omega) (by omega) (by omega)
 unfold Zem
 repeat' first
  | with_reducible refine ni ?_ ?_
  | with_reducible refine di ?_
  | with_reducible refine brD (λ_=>?_) λ_=>?_
  | with_reducible refine br! (λ_=>?_) λ_=>?_
  | with_reducible refine brE (λ_=>?_) λ_=>?_
  | with_reducible refine bd gs λ_ _=>?_
  | with_reducible refine bd wr λ_ _=>?_
  | with_reducible refine bd (Y1x _) λ_ _=>?_
  | (rfl)
  | exact True.intro
  | omega
theorem Zie (x:List UInt8) (h:Str x):Ok (Z41 x) (λb=>b=true→x≠[]):=by
 unfold Z41
 repeat' first
  | with_reducible refine bd (L34x1 _ (by first|assumption|omega|exact And.left (by assumption)|(dsimp only; omega))) λ_ _=>?_
  | with_reducible refine ok ?_
  | split
  | (first|(intro h; rintro rfl; simp at h; done)|(simp_all; done))
theorem L20x1 (x:List UInt8) (h:Str x):Ok (Z7 (Zdf x) Z8 (0,0)) (λq=>match q with|.inl y=>0≤y∧y≤x.length|.inr y=>True):=by
 refine lp (λt=>t.2) (x.length) (λt=>0≤t.1∧t.1≤t.2) (λt hI _ _=>?_) (by omega) (by omega) (by omega) (by omega)
 try dsimp only at*
 unfold Zdf
 repeat' first
  | with_reducible refine nx ?_ ?_ ?_
  | with_reducible refine dn ?_
  | with_reducible refine brD (λ_=>?_) λ_=>?_
  | with_reducible refine br! (λ_=>?_) λ_=>?_
  | with_reducible refine brE (λ_=>?_) λ_=>?_
  | with_reducible refine bd gs λ_ _=>?_
  | with_reducible refine bd wr λ_ _=>?_
  | with_reducible refine bd (sb (by omega) (by omega) (by omega)) λ_ _=>?_
  | with_reducible refine bd (Zie _ (by unfold Str; omega)) λ_ _=>?_
  | exact True.intro
  | omega
theorem Zeq (x:List UInt8) (h:Str x):Ok (Z1d x) (λb=>b=true→x.length≤64):=by
 unfold Z1d
 repeat' first
  | with_reducible refine bdE (L20x1 _ (by assumption)) λq _ hq=>?_
  | with_reducible refine brD (λ_=>?_) λ_=>?_
  | with_reducible refine bd (sb (by omega) (by omega) (by omega)) λ_ _=>?_
  | with_reducible refine bd (Zie _ (by unfold Str; omega)) λ_ _=>?_
  | with_reducible refine ok ?_
  | split
  | ((intro hb; first|(cases hb; done)|omega))
theorem Zmd (x y:List UInt8):Ok (Z15 x y) (λ_=>True):=by
 unfold Z15
 repeat' with_reducible first
  | refine brD (λ_=>?_) λ_=>?_
  | refine bd (sb (by omega) (by omega) (by omega)) λ_ _=>?_
  | refine ok ?_
  | exact True.intro
theorem L32x1 (x:Yi) (i:Int) (h:Jv x):Ok (Z7 (Zb8 x i) Z8 0) (λ_=>True):=by
 have:=h.stoL
 refine li (x.Vc.length) (λt _ _=>?_) (by omega) (by omega) (by omega)
 unfold Zb8
 repeat' first
  | with_reducible refine ni ?_ ?_
  | with_reducible refine di ?_
  | with_reducible refine brD (λ_=>?_) λ_=>?_
  | with_reducible refine br (λ_=>?_) λ_=>?_
  | with_reducible refine bd gr λ_ _=>?_
  | with_reducible refine bd wr λ_ _=>?_
  | with_reducible refine bd (Zeq _ (by exact h.sto _ (by assumption))) λ_ _=>?_
  | with_reducible refine bd (Zmd _ _) λ_ _=>?_
  | exact True.intro
  | omega
theorem Zzx (x:Yi) (i:Int) (h:Jv x):Ok (Zco x i) (λ_=>True):=by
 unfold Zco
 repeat' first
  | with_reducible refine bd (L32x1 _ _ (by first|assumption|omega|exact And.left (by assumption)|(dsimp only; omega))) λ_ _=>?_
  | with_reducible refine ok ?_
  | split
  | assumption
theorem L33x2 (k:Int) (x:Yi) (hl:x.Vc.length≤140737488355328) (h0:0≤k) (h1:k<x.Vc.length):Ok (Z7 (Zch k x) Z8 0) (λ_=>True):=by
 refine li (k) (λt _ _=>?_) (by omega) (by omega) (by omega)
 unfold Zch
 repeat' first
  | with_reducible refine ni ?_ ?_
  | with_reducible refine di ?_
  | with_reducible refine brD (λ_=>?_) λ_=>?_
  | with_reducible refine br (λ_=>?_) λ_=>?_
  | with_reducible refine bd gr λ_ _=>?_
  | with_reducible refine bd wr λ_ _=>?_
  | exact True.intro
  | omega
theorem L33x1 (x:Yi) (hl:x.Vc.length≤140737488355328):Ok (Z7 (Zat x) Z8 0) (λ_=>True):=by
 refine li (x.Vc.length) (λt _ _=>?_) (by omega) (by omega) (by omega)
 unfold Zat
 repeat' first
  | with_reducible refine ni ?_ ?_
  | with_reducible refine di ?_
  | with_reducible refine brD (λ_=>?_) λ_=>?_
  | with_reducible refine bd wr λ_ _=>?_
  | with_reducible refine bd (L33x2 _ _ (by first|assumption|omega|exact And.left (by assumption)|(dsimp only; omega)) (by first|assumption|omega|exact And.left (by assumption)|(dsimp only; omega)) (by first|assumption|omega|exact And.left (by assumption)|(dsimp only; omega))) λ_ _=>?_
  | split
  | exact True.intro
  | omega
theorem Zzn (x:Yi) (hl:x.Vc.length≤140737488355328):Ok (Zfr x) (λ_=>True):=by
 unfold Zfr
 repeat' first
  | with_reducible refine bd (L33x1 _ (by first|assumption|omega|exact And.left (by assumption)|(dsimp only; omega))) λ_ _=>?_
  | with_reducible refine ok ?_
  | split
  | assumption
theorem L19x1 (x:List Yi) (h:∀ l∈x,Jv l) (hl:x.length≤140737488355328):Ok (Z7 (Zf0 x) Z8 0) (λ_=>True):=by
 refine li (x.length) (λt _ _=>?_) (by omega) (by omega) (by omega)
 unfold Zf0
 repeat' first
  | with_reducible refine ni ?_ ?_
  | with_reducible refine di ?_
  | with_reducible refine brD (λ_=>?_) λ_=>?_
  | with_reducible refine bd gr λ_ _=>?_
  | with_reducible refine bd wr λ_ _=>?_
  | exact True.intro
  | omega
theorem L19x3 (k:Int) (x:List Yi) (h:∀ l∈x,Jv l) (hl:x.length≤140737488355328) (h0:0≤k) (h1:k<x.length):Ok (Z7 (Za0 k x) Z8 0) (λ_=>True):=by
 obtain⟨y,hy,hm⟩:=gr h0 h1
 have:=(h y hm).delL
 refine li (y.Wl.length) (λt _ _=>?_) (by omega) (by omega) (by omega)
 unfold Za0
 simp only[hy]
 repeat' first
  | with_reducible refine ni ?_ ?_
  | with_reducible refine di ?_
  | with_reducible refine brD (λ_=>?_) λ_=>?_
  | with_reducible refine bd gr λ_ _=>?_
  | with_reducible refine bd wr λ_ _=>?_
  | with_reducible refine bs ?_
  | exact True.intro
  | omega
theorem L19x2 (x:List Yi) (h:∀ l∈x,Jv l) (hl:x.length≤140737488355328):Ok (Z7 (Za7 x) Z8 0) (λ_=>True):=by
 refine li (x.length) (λt _ _=>?_) (by omega) (by omega) (by omega)
 unfold Za7
 repeat' first
  | with_reducible refine ni ?_ ?_
  | with_reducible refine di ?_
  | with_reducible refine brD (λ_=>?_) λ_=>?_
  | with_reducible refine bd wr λ_ _=>?_
  | with_reducible refine bd (L19x3 _ _ (by first|assumption|omega|exact And.left (by assumption)|(dsimp only; omega)) (by first|assumption|omega|exact And.left (by assumption)|(dsimp only; omega)) (by first|assumption|omega|exact And.left (by assumption)|(dsimp only; omega)) (by first|assumption|omega|exact And.left (by assumption)|(dsimp only; omega))) λ_ _=>?_
  | split
  | exact True.intro
  | omega
theorem L19x4 (x:List Yi) (h:∀ l∈x,Jv l) (hl:x.length≤140737488355328):Ok (Z7 (Zcz x) Z8 0) (λ_=>True):=by
 refine li (x.length) (λt _ _=>?_) (by omega) (by omega) (by omega)
 unfold Zcz
 repeat' first
  | with_reducible refine ni ?_ ?_
  | with_reducible refine di ?_
  | with_reducible refine brD (λ_=>?_) λ_=>?_
  | with_reducible refine brN (λ_=>?_) λ_=>?_
  | with_reducible refine bd gr λ_ _=>?_
  | with_reducible refine bd wr λ_ _=>?_
  | with_reducible refine bd (Zzx _ _ (by exact h _ (by assumption))) λ_ _=>?_
  | exact True.intro
  | omega
theorem L19x5 (x:List Yi) (h:∀ l∈x,Jv l) (hl:x.length≤140737488355328):Ok (Z7 (Zdg x) Z8 0) (λ_=>True):=by
 refine li (x.length) (λt _ _=>?_) (by omega) (by omega) (by omega)
 unfold Zdg
 repeat' first
  | with_reducible refine ni ?_ ?_
  | with_reducible refine di ?_
  | with_reducible refine brD (λ_=>?_) λ_=>?_
  | with_reducible refine br (λ_=>?_) λ_=>?_
  | with_reducible refine bd gr λ_ _=>?_
  | with_reducible refine bd wr λ_ _=>?_
  | with_reducible refine bd (Zzn _ (by exact(h _ (by assumption)).stoL)) λ_ _=>?_
  | exact True.intro
  | omega
theorem Zy0 (x:List Yi) (h:∀ l∈x,Jv l) (hl:x.length≤140737488355328):Ok (Zee x) (λe=>e=0→x.length≤8):=by
 unfold Zee
 repeat' first
  | unfold j52x1
  | with_reducible refine brD (λ_=>?_) λ_=>?_
  | with_reducible refine bd (L19x1 _ (by first|assumption|omega|exact And.left (by assumption)|(dsimp only; omega)) (by first|assumption|omega|exact And.left (by assumption)|(dsimp only; omega))) λ_ _=>?_
  | with_reducible refine bd (L19x2 _ (by first|assumption|omega|exact And.left (by assumption)|(dsimp only; omega)) (by first|assumption|omega|exact And.left (by assumption)|(dsimp only; omega))) λ_ _=>?_
  | with_reducible refine bd (L19x4 _ (by first|assumption|omega|exact And.left (by assumption)|(dsimp only; omega)) (by first|assumption|omega|exact And.left (by assumption)|(dsimp only; omega))) λ_ _=>?_
  | with_reducible refine bd (L19x5 _ (by first|assumption|omega|exact And.left (by assumption)|(dsimp only; omega)) (by first|assumption|omega|exact And.left (by assumption)|(dsimp only; omega))) λ_ _=>?_
  | with_reducible refine ok ?_
  | split
  | omega
theorem L21x1 (v:Xn) (w:Zj) (i:Int) (h:Wn w) (h0:0≤i) (h1:i<w.X1.length):Ok (Z7 (Zg3 v w i) Z8 0) (λ_=>True):=by
 have:=h.iniL
 refine li (i) (λt _ _=>?_) (by omega) (by omega) (by omega)
 unfold Zg3
 repeat' first
  | with_reducible refine ni ?_ ?_
  | with_reducible refine di ?_
  | with_reducible refine brD (λ_=>?_) λ_=>?_
  | with_reducible refine br (λ_=>?_) λ_=>?_
  | with_reducible refine bd gr λ_ _=>?_
  | with_reducible refine bd wr λ_ _=>?_
  | exact True.intro
  | omega
def Mg (w:Zj) (v:Xn):Prop:=0≤v.Xj∧v.Xj<w.X3.length∧0≤v.Zq∧v.Zq<w.Zy.length
def M2 (w:Zj) (b:Qj):Prop:=0≤b.f_A∧b.f_A<w.X3.length∧0≤b.f_B∧b.f_B<w.X3.length
theorem Zz9 (w:Zj) (i:Int) (h:Wn w) (h0:0≤i) (h1:i<w.X1.length):Ok (Za4 w i) (λb=>b=true→∀ v,w.X1[i.toNat]?=some v→Mg w v):=by
 have:=h.iniL
 unfold Za4
 repeat' first
  | with_reducible refine bd gri λ_ _=>?_
  | unfold j54x1
  | with_reducible refine brD (λ_=>?_) λ_=>?_
  | with_reducible refine bd (L21x1 _ _ _ (by first|assumption|omega|exact And.left (by assumption)|(dsimp only; omega)) (by first|assumption|omega|exact And.left (by assumption)|(dsimp only; omega)) (by first|assumption|omega|exact And.left (by assumption)|(dsimp only; omega))) λ_ _=>?_
  | with_reducible refine ok ?_
  | split
  | ((intro hb v hv; first|(cases hb; done)|(have e:∀ a,w.X1[i.toNat]?=some a→a=v:=λa ha=>by { rw[hv] at ha; cases ha; rfl }; have:=e _ (And.right (by assumption)); subst this; exact⟨by omega,by omega,by omega,by omega⟩)))
theorem L35x2 (w:Zj) (s:List UInt8) (l0:List Bool) (h:Wn w) (hl:w.X3.length≤8) (hc:∀ b∈w.Qq,M2 w b) (h0:l0.length=w.X3.length):Ok (Z7 (Zd1 w s) Z8 (0,l0)) (λr=>r.length=w.X3.length):=by
 have:=h.conL
 refine lp (λt=>t.1) (w.Qq.length) (λt=>t.2.length=w.X3.length) (λt hI _ _=>?_) (by omega) (by exact h0) (by omega) (by omega)
 try dsimp only at*
 unfold Zd1
 repeat' first
  | with_reducible refine bd (ik (by have:=hc _ (by assumption); unfold M2 at this; omega) (by have:=hc _ (by assumption); unfold M2 at this; first|omega|(simp only[List.length_set]; omega))) λ_ _=>?_
  | with_reducible refine nx ?_ ?_ ?_
  | with_reducible refine dn ?_
  | unfold Z9j
  | with_reducible refine brD (λ_=>?_) λ_=>?_
  | with_reducible refine br (λ_=>?_) λ_=>?_
  | with_reducible refine bd gr λ_ _=>?_
  | with_reducible refine bd (la (by first|omega|(simp only[List.length_set,List.length_append,List.length_cons,List.length_nil,List.length_replicate]; omega))) λ_ _=>?_
  | with_reducible refine bd wr λ_ _=>?_
  | assumption
  | (simp only[List.length_set,List.length_append,List.length_cons,List.length_nil,List.length_replicate]; omega)
theorem L35x1 (w:Zj) (s:List UInt8) (l0:List Bool) (h:Wn w) (hl:w.X3.length≤8) (hc:∀ b∈w.Qq,M2 w b) (h0:l0.length=w.X3.length):Ok (Z7 (Zf3 w s) Z8 (0,l0)) (λr=>r.length=w.X3.length):=by
 refine lp (λt=>t.1) (w.X3.length) (λt=>t.2.length=w.X3.length) (λt hI _ _=>?_) (by omega) (by exact h0) (by omega) (by omega)
 try dsimp only at*
 unfold Zf3
 repeat' first
  | with_reducible refine nx ?_ ?_ ?_
  | with_reducible refine dn ?_
  | with_reducible refine brD (λ_=>?_) λ_=>?_
  | with_reducible refine bd wr λ_ _=>?_
  | with_reducible refine bd (L35x2 _ _ _ (by first|assumption|omega|exact And.left (by assumption)|(dsimp only; omega)) (by first|assumption|omega|exact And.left (by assumption)|(dsimp only; omega)) (by first|assumption|omega|exact And.left (by assumption)|(dsimp only; omega)) (by first|assumption|omega|exact And.left (by assumption)|(dsimp only; omega))) λ_ _=>?_
  | omega
theorem Zxk (w:Zj) (s:List UInt8) (k:Int) (h:Wn w) (hl:w.X3.length≤8) (hc:∀ b∈w.Qq,M2 w b) (h0:0≤k) (h1:k<w.X3.length):Ok (Zak w s k) (λr=>r.length=w.X3.length):=by
 unfold Zak
 repeat' first
  | with_reducible refine bd (ik (by omega) (by first|omega|(simp only[List.length_set,List.length_append,List.length_cons,List.length_nil,List.length_replicate]; omega))) λ_ _=>?_
  | with_reducible refine bd (la (by first|omega|(simp only[List.length_set,List.length_append,List.length_cons,List.length_nil,List.length_replicate]; omega))) λ_ _=>?_
  | with_reducible refine bd (mk (by omega) (by omega) (by omega) (by omega)) λ_ _=>?_
  | with_reducible refine bd (L35x1 _ _ _ (by first|assumption|(simp only[List.length_set,List.length_replicate]; omega)) (by first|assumption|(simp only[List.length_set,List.length_replicate]; omega)) (by first|assumption|(simp only[List.length_set,List.length_replicate]; omega)) (by first|assumption|(simp only[List.length_set,List.length_replicate]; omega))) λ_ _=>?_
  | with_reducible refine ok ?_
  | assumption
theorem L22x1 (v:Xn) (g:List Bool) (w:Zj) (i:Int) (h:Wn w) (h0:0≤i) (h1:i<w.X1.length) (hg:g.length=w.X3.length) (hs:∀ (j:Nat) v,j<i→w.X1[j]?=some v→Mg w v):Ok (Z7 (Zdt v g w i) Z8 0) (λ_=>True):=by
 have:=h.iniL
 refine li (i) (λt _ _=>?_) (by omega) (by omega) (by omega)
 unfold Zdt
 repeat' first
  | with_reducible refine bd gri λ_ _=>?_
  | with_reducible refine bd (gr (by have:=hs t.toNat _ (by omega) (And.right (by assumption)); unfold Mg at this; omega) (by have:=hs t.toNat _ (by omega) (And.right (by assumption)); unfold Mg at this; omega)) λ_ _=>?_
  | with_reducible refine ni ?_ ?_
  | with_reducible refine di ?_
  | with_reducible refine brD (λ_=>?_) λ_=>?_
  | with_reducible refine br (λ_=>?_) λ_=>?_
  | with_reducible refine bd wr λ_ _=>?_
  | exact True.intro
  | omega
theorem Y0r (w:Zj) (i:Int) (h:Wn w) (hl:w.X3.length≤8) (hc:∀ b∈w.Qq,M2 w b) (h0:0≤i) (h1:i<w.X1.length) (hs:∀ (j:Nat) v,j≤i→w.X1[j]?=some v→Mg w v):Ok (Zg0 w i) (λ_=>True):=by
 have:=h.iniL
 unfold Zg0
 repeat' first
  | with_reducible refine bd gri λ_ _=>?_
  | with_reducible refine bd (Zxk _ _ _ h hl hc (by have:=hs i.toNat _ (by omega) (And.right (by assumption)); unfold Mg at this; omega) (by have:=hs i.toNat _ (by omega) (And.right (by assumption)); unfold Mg at this; omega)) λ_ _=>?_
  | with_reducible refine bd (L22x1 _ _ _ _ h h0 h1 (by assumption) (λj v hj hv=>hs j v (by omega) hv)) λ_ _=>?_
  | with_reducible refine ok ?_
  | split
  | assumption
theorem L53x1 (x:List Zp) (hl:x.length≤140737488355328):Ok (Z7 (Zbx x) Z8 0) (λ_=>True):=by
 refine li (x.length) (λt _ _=>?_) (by omega) (by omega) (by omega)
 unfold Zbx
 repeat' first
  | with_reducible refine ni ?_ ?_
  | with_reducible refine di ?_
  | with_reducible refine brD (λ_=>?_) λ_=>?_
  | with_reducible refine brN (λ_=>?_) λ_=>?_
  | with_reducible refine bd gr λ_ _=>?_
  | with_reducible refine bd wr λ_ _=>?_
  | exact True.intro
  | omega
theorem Zrv (x:List Zp) (hl:x.length≤140737488355328):Ok (Z8c x) (λ_=>True):=by
 unfold Z8c
 repeat' first
  | with_reducible refine bd (L53x1 _ (by first|assumption|omega|exact And.left (by assumption)|(dsimp only; omega))) λ_ _=>?_
  | with_reducible refine ok ?_
  | split
  | assumption
theorem L47x1 (u:Zu) (h:U4 u):Ok (Z7 (Zez u) Z8 0) (λ_=>True):=by
 have:=h.fldL
 refine li (u.Yl.length) (λt _ _=>?_) (by omega) (by omega) (by omega)
 unfold Zez
 repeat' first
  | with_reducible refine ni ?_ ?_
  | with_reducible refine di ?_
  | unfold Zcd
  | with_reducible refine brD (λ_=>?_) λ_=>?_
  | with_reducible refine br! (λ_=>?_) λ_=>?_
  | with_reducible refine brE (λ_=>?_) λ_=>?_
  | with_reducible refine brN (λ_=>?_) λ_=>?_
  | with_reducible refine bd gr λ_ _=>?_
  | with_reducible refine bd wr λ_ _=>?_
  | exact True.intro
  | omega
theorem L47x3 (m:Xy) (h:K8 m):Ok (Z7 (Zd5 m) Z8 0) (λ_=>True):=by
 have:=h.code.hndL
 refine li (m.Xz.Xo.length) (λt _ _=>?_) (by omega) (by omega) (by omega)
 unfold Zd5
 repeat' first
  | with_reducible refine ni ?_ ?_
  | with_reducible refine di ?_
  | with_reducible refine brD (λ_=>?_) λ_=>?_
  | with_reducible refine brN (λ_=>?_) λ_=>?_
  | with_reducible refine bd gr λ_ _=>?_
  | with_reducible refine bd wr λ_ _=>?_
  | exact True.intro
  | omega
theorem L47x4 (m:Xy) (h:K8 m):Ok (Z7 (Zc9 m) Z8 0) (λ_=>True):=by
 have:=h.code.mapL
 refine li (m.Xz.Yz.length) (λt _ _=>?_) (by omega) (by omega) (by omega)
 unfold Zc9
 repeat' first
  | with_reducible refine bd (Zrv _ (by have:=(h.code.map _ (by assumption)).locL; omega)) λ_ _=>?_
  | with_reducible refine bd (Zrv _ (by have:=(h.code.map _ (by assumption)).stkL; omega)) λ_ _=>?_
  | with_reducible refine ni ?_ ?_
  | with_reducible refine di ?_
  | with_reducible refine brD (λ_=>?_) λ_=>?_
  | with_reducible refine br! (λ_=>?_) λ_=>?_
  | with_reducible refine bd gr λ_ _=>?_
  | with_reducible refine bd wr λ_ _=>?_
  | exact True.intro
  | omega
theorem L47x2 (u:Zu) (h:U4 u):Ok (Z7 (Zev u) Z8 0) (λ_=>True):=by
 have:=h.metL
 refine li (u.Yo.length) (λt _ _=>?_) (by omega) (by omega) (by omega)
 unfold Zev
 repeat' first
  | with_reducible refine ni ?_ ?_
  | with_reducible refine di ?_
  | unfold Zah
  | with_reducible refine brD (λ_=>?_) λ_=>?_
  | with_reducible refine bd gr λ_ _=>?_
  | with_reducible refine bd wr λ_ _=>?_
  | with_reducible refine bd (L47x3 _ (by exact h.met _ (by assumption))) λ_ _=>?_
  | with_reducible refine bd (L47x4 _ (by exact h.met _ (by assumption))) λ_ _=>?_
  | with_reducible refine bs ?_
  | split
  | exact True.intro
  | omega
theorem Y0n (u:Zu) (h:U4 u):Ok (Zdx u) (λ_=>True):=by
 unfold Zdx
 repeat' first
  | with_reducible refine bd (L47x1 _ (by first|assumption|omega|exact And.left (by assumption)|(dsimp only; omega))) λ_ _=>?_
  | with_reducible refine bd (L47x2 _ (by first|assumption|omega|exact And.left (by assumption)|(dsimp only; omega))) λ_ _=>?_
  | with_reducible refine ok ?_
  | split
  | assumption
end Go.Proofs
namespace Go.Proofs
open Go.Den Go.Tot
structure Ym (p:List Z3):Prop where
 len:p.length≤1000
 ord:∀ (k:Nat) c,p[k]?=some c→c.f_A≤k∧c.f_B≤k
 str:∀ c∈p,Str c.f_S
theorem Ym.app {p:List Z3} {c:Z3} (h:Ym p) (hl:p.length<1000) (ha:c.f_A≤p.length) (hb:c.f_B≤p.length) (hs:Str c.f_S):Ym (([]++p)++[c]):=by
 refine⟨by simp; omega,λk d hd=>?_,λd hd=>?_⟩
 ·rw[List.nil_append] at hd
  rcases Nat.lt_trichotomy k p.length with h1|h1|h1
  ·rw[List.getElem?_append_left h1] at hd; exact h.ord k d hd
  ·subst h1
   rw[List.getElem?_append_right (Nat.le_refl _),Nat.sub_self] at hd
   cases hd; exact⟨ha,hb⟩
  ·rw[List.getElem?_eq_none (by simp; omega)] at hd; cases hd
 ·rw[List.nil_append] at hd
  rcases List.mem_append.1 hd with hd|hd
  ·exact h.str d hd
  ·rw[List.mem_singleton.1 hd]; exact hs
theorem Ym.nil:Ym [] :=⟨by simp,λk c h=>by simp at h,λc h=>by simp at h⟩
abbrev PR (p:List Z3) (r:List Z3×Int×Int):Prop:=Ym r.1∧p.length≤r.1.length∧0≤r.2.1∧r.2.1≤r.1.length∧r.1.length≤1000
theorem Lm {α:Type} {P:α→Prop} {l:List α} {x:α} (h:∀ v∈l,P v) (hx:P x):∀ v∈l++[x],P v:=λv hv=>by
 rcases List.mem_append.1 hv with hv|hv
 ·exact h v hv
 ·rw[List.mem_singleton.1 hv]; exact hx
theorem Wm {α:Type} {P:α→Prop}:∀ v∈([]:List α),P v:=λv hv=>by simp at hv
theorem W0 {op a:Int}:Qk { f_Op:=op,f_A:=a,f_B:=0,f_To:=0,Y9:=[],Zh:=[],Yr:={ Zq:=[],Ze:=[],Xb:=[] },f_S:=[] }:=⟨by simp,by simp,⟨by simp,by simp,by simp⟩,by simp⟩
theorem L77x1 (p:List Z3) (c:Z3) (hp:Ym p):Ok (Z7 (Zdi p c) Z8 0) (λq=>match q with|.inl _=>True|.inr y=>PR p y):=by
 have:=hp.len
 refine li (p.length) (λt _ _=>?_) (by omega) (by omega) (by omega)
 unfold Zdi
 repeat' first
  | with_reducible refine ni ?_ ?_
  | with_reducible refine di ?_
  | with_reducible refine brD (λ_=>?_) λ_=>?_
  | with_reducible refine br (λ_=>?_) λ_=>?_
  | with_reducible refine bd gr λ_ _=>?_
  | with_reducible refine bd wr λ_ _=>?_
  | with_reducible refine And.intro ?_ ?_
  | exact True.intro
  | omega
  | (dsimp only; omega)
theorem Z54 (p:List Z3) (c:Z3) (hp:Ym p) (ha:c.f_A≤p.length) (hb:c.f_B≤p.length) (hs:Str c.f_S):Ok (M6 p c) (PR p):=by
 have:=hp.len
 unfold M6
 repeat' first
  | with_reducible refine brD (λ_=>?_) λ_=>?_
  | with_reducible refine bd wr λ_ _=>?_
  | with_reducible refine bd gk λ_ _=>?_
  | with_reducible refine bd (L77x1 _ _ (by first|assumption|omega|exact And.left (by assumption)|(dsimp only; omega))) λ_ _=>?_
  | with_reducible refine ok ?_
  | split
  | (first|exact⟨hp.app (by omega) ha hb hs,by simp,by dsimp only; omega,by simp; omega,by simp; omega⟩|exact⟨hp,by dsimp only; omega,by dsimp only; omega,by dsimp only; omega,by dsimp only; omega⟩|(dsimp only at *; assumption))
theorem Z8p (p:List Z3) (s:List UInt8) (hp:Ym p) (hs:Str s):Ok (Z0b p s) (PR p):=by
 have:=hp.len
 unfold Z0b
 repeat' first
  | with_reducible refine bd (Z54 _ _ (by first|assumption|omega|(dsimp only; omega)|exact And.left (by assumption)|(simp; done)) (by first|assumption|omega|(dsimp only; omega)|exact And.left (by assumption)|(simp; done)) (by first|assumption|omega|(dsimp only; omega)|exact And.left (by assumption)|(simp; done)) (by first|assumption|omega|(dsimp only; omega)|exact And.left (by assumption)|(simp; done))) λ_ _=>?_
  | with_reducible refine ok ?_
  | (first|exact⟨by first|exact hp|exact And.left (by assumption),by dsimp only; omega,by dsimp only; omega,by dsimp only; omega,by dsimp only; omega⟩|exact⟨hp,by dsimp only; omega,by dsimp only; omega,by dsimp only; omega,by dsimp only; omega⟩)
theorem Zv0 (p:List Z3) (tag:Int) (s:List UInt8) (hp:Ym p) (hs:Str s):Ok (Z78 p tag s) (PR p):=by
 have:=hp.len
 unfold Z78
 repeat' first
  | with_reducible refine brN (λ_=>?_) λ_=>?_
  | with_reducible refine bd (Z8p _ _ (by first|assumption|omega|exact And.left (by assumption)|(dsimp only; omega)) (by first|assumption|omega|exact And.left (by assumption)|(dsimp only; omega))) λ_ _=>?_
  | with_reducible refine bd (Z54 _ _ (by first|assumption|omega|(dsimp only; omega)|exact And.left (by assumption)|(simp; done)) (by first|assumption|omega|(dsimp only; omega)|exact And.left (by assumption)|(simp; done)) (by first|assumption|omega|(dsimp only; omega)|exact And.left (by assumption)|(simp; done)) (by first|assumption|omega|(dsimp only; omega)|exact And.left (by assumption)|(simp; done))) λ_ _=>?_
  | with_reducible refine ok ?_
  | (first|exact⟨by first|exact hp|exact And.left (by assumption),by dsimp only; omega,by dsimp only; omega,by dsimp only; omega,by dsimp only; omega⟩|exact⟨hp,by dsimp only; omega,by dsimp only; omega,by dsimp only; omega,by dsimp only; omega⟩)
theorem Zhw (p:List Z3) (s:List UInt8) (hp:Ym p) (hs:Str s):Ok (Z2y p s) (PR p):=by
 have:=hp.len
 unfold Z2y
 repeat' first
  | with_reducible refine bd (Zv0 _ _ _ (by first|assumption|omega|exact And.left (by assumption)|(dsimp only; omega)) (by first|assumption|omega|exact And.left (by assumption)|(dsimp only; omega))) λ_ _=>?_
  | with_reducible refine ok ?_
  | (first|exact⟨by first|exact hp|exact And.left (by assumption),by dsimp only; omega,by dsimp only; omega,by dsimp only; omega,by dsimp only; omega⟩|exact⟨hp,by dsimp only; omega,by dsimp only; omega,by dsimp only; omega,by dsimp only; omega⟩)
theorem Zv2 (p:List Z3) (s:List UInt8) (hp:Ym p) (hs:Str s):Ok (Z5d p s) (PR p):=by
 have:=hp.len
 unfold Z5d
 repeat' first
  | with_reducible refine bd (Zv0 _ _ _ (by first|assumption|omega|exact And.left (by assumption)|(dsimp only; omega)) (by first|assumption|omega|exact And.left (by assumption)|(dsimp only; omega))) λ_ _=>?_
  | with_reducible refine ok ?_
  | (first|exact⟨by first|exact hp|exact And.left (by assumption),by dsimp only; omega,by dsimp only; omega,by dsimp only; omega,by dsimp only; omega⟩|exact⟨hp,by dsimp only; omega,by dsimp only; omega,by dsimp only; omega,by dsimp only; omega⟩)
theorem Z7c (x:Y5) (s:List UInt8) (hp:Ym x.f_P) (hs:Str s):Ok (Z0k x s) (λr=>Ym r.1.f_P):=by
 unfold Z0k
 repeat' first
  | with_reducible refine brN (λ_=>?_) λ_=>?_
  | with_reducible refine bd (Zhw _ _ (by first|assumption|omega|exact And.left (by assumption)|(dsimp only; omega)) (by first|assumption|omega|exact And.left (by assumption)|(dsimp only; omega))) λ_ _=>?_
  | with_reducible refine ok ?_
  | (exact And.left (by assumption))
  | assumption
theorem Kg (x:Y5) (s:List UInt8) (hp:Ym x.f_P) (hs:Str s):Ok (L8 x s) (λr=>Ym r.1.f_P):=by
 unfold L8
 repeat' first
  | with_reducible refine brN (λ_=>?_) λ_=>?_
  | with_reducible refine bd (Z8p _ _ (by first|assumption|omega|exact And.left (by assumption)|(dsimp only; omega)) (by first|assumption|omega|exact And.left (by assumption)|(dsimp only; omega))) λ_ _=>?_
  | with_reducible refine ok ?_
  | (exact And.left (by assumption))
  | assumption
theorem Zys (x:Y5) (f:X6) (hp:Ym x.f_P) (hf:Z2o f):Ok (Zf5 x f) (λr=>Ym r.1.f_P):=by
 unfold Zf5
 repeat' first
  | unfold Z9z
  | with_reducible refine brE (λ_=>?_) λ_=>?_
  | with_reducible refine brN (λ_=>?_) λ_=>?_
  | with_reducible refine bd (Zv2 _ _ (by first|exact hf.s|assumption) (by first|exact hf.s|assumption)) λ_ _=>?_
  | with_reducible refine bd (Z54 _ _ (by first|assumption|omega|(dsimp only; omega)|exact And.left (by assumption)|(simp; done)) (by first|assumption|omega|(dsimp only; omega)|exact And.left (by assumption)|(simp; done)) (by first|assumption|omega|(dsimp only; omega)|exact And.left (by assumption)|(simp; done)) (by first|assumption|omega|(dsimp only; omega)|exact And.left (by assumption)|(simp; done))) λ_ _=>?_
  | with_reducible refine ok ?_
  | (exact And.left (by assumption))
  | assumption
theorem Y1i (p:List Z3) (tag:Int) (r:Xp) (hp:Ym p) (hr:WRef r):Ok (Z32 p tag r) (PR p):=by
 have:=hp.len
 unfold Z32
 repeat' first
  | with_reducible refine bd (Z8p _ _ (And.left (by assumption)) hr.n) λ_ _=>?_
  | with_reducible refine bd (Z8p _ _ (And.left (by assumption)) hr.d) λ_ _=>?_
  | with_reducible refine brN (λ_=>?_) λ_=>?_
  | with_reducible refine bd (Zhw _ _ (by first|exact hr.c|assumption) (by first|exact hr.c|assumption)) λ_ _=>?_
  | with_reducible refine bd (Z54 _ _ (by first|assumption|omega|(dsimp only; omega)|exact And.left (by assumption)|(simp; done)) (by first|assumption|omega|(dsimp only; omega)|exact And.left (by assumption)|(simp; done)) (by first|assumption|omega|(dsimp only; omega)|exact And.left (by assumption)|(simp; done)) (by first|assumption|omega|(dsimp only; omega)|exact And.left (by assumption)|(simp; done))) λ_ _=>?_
  | with_reducible refine ok ?_
  | (first|exact⟨by first|exact hp|exact And.left (by assumption),by dsimp only; omega,by dsimp only; omega,by dsimp only; omega,by dsimp only; omega⟩|exact⟨hp,by dsimp only; omega,by dsimp only; omega,by dsimp only; omega,by dsimp only; omega⟩)
theorem Zsa (x:Int):Ok (Z1o x) (λ_=>True):=by
 unfold Z1o
 repeat' with_reducible first
  | refine brD (λ_=>?_) λ_=>?_
  | refine ok ?_
  | exact True.intro
theorem Zw8 (x a b:Int):Ok (Lx x a b) (λ_=>True):=by
 unfold Lx
 repeat' with_reducible first
  | refine brD (λ_=>?_) λ_=>?_
  | refine ok ?_
  | exact True.intro
theorem Zsd (x:Int):Ok (Z8j x) (λ_=>True):=by
 unfold Z8j
 repeat' with_reducible first
  | refine brD (λ_=>?_) λ_=>?_
  | refine ok ?_
  | exact True.intro
theorem Zxm (x:Int):Ok (Zbo x) (λ_=>True):=by
 unfold Zbo
 repeat' with_reducible first
  | refine brD (λ_=>?_) λ_=>?_
  | refine ok ?_
  | exact True.intro
theorem Zrn (x:Int):Ok (Z7t x) (λ_=>True):=by
 unfold Z7t
 repeat' with_reducible first
  | refine brE (λ_=>?_) λ_=>?_
  | refine ok ?_
  | exact True.intro
theorem Zhj (x:Int):Ok (Z61 x) (λ_=>True):=by
 unfold Z61
 repeat' with_reducible first
  | refine brD (λ_=>?_) λ_=>?_
  | refine ok ?_
  | exact True.intro
theorem Zqf (x:Int):Ok (K5 x) (λ_=>True):=by
 unfold K5
 repeat' first
  | unfold Zck
  | unfold Zca
  | with_reducible refine br (λ_=>?_) λ_=>?_
  | with_reducible refine bd (Zsa _) λ_ _=>?_
  | with_reducible refine bd (Zw8 _ _ _) λ_ _=>?_
  | with_reducible refine ok ?_
  | assumption
theorem Y0m (x:Z6) (k:Int):Ok (Z37 x k) (λ_=>True):=by
 unfold Z37
 repeat' with_reducible first
  | unfold Zfm
  | unfold Z5a
  | unfold Z79
  | refine br! (λ_=>?_) λ_=>?_
  | refine brE (λ_=>?_) λ_=>?_
  | refine brN (λ_=>?_) λ_=>?_
  | refine ok ?_
  | exact True.intro
theorem L114x1 (x:Z6) (hx:Qk x):Ok (Z7 (Z3g x) Z8 0) (λ_=>True):=by
 have:=hx.tos
 refine li (x.Zh.length) (λt _ _=>?_) (by omega) (by omega) (by omega)
 unfold Z3g
 repeat' first
  | with_reducible refine ni ?_ ?_
  | with_reducible refine di ?_
  | with_reducible refine brD (λ_=>?_) λ_=>?_
  | with_reducible refine bd gr λ_ _=>?_
  | with_reducible refine bd wr λ_ _=>?_
  | exact True.intro
  | omega
theorem Y1z (x:Z6) (hx:Qk x):Ok (M0 x) (λ_=>True):=by
 unfold M0
 repeat' with_reducible first
  | unfold Zfo
  | refine bd (L114x1 _ (by first|assumption|omega|exact And.left (by assumption)|(dsimp only; omega))) λ_ _=>?_
  | refine ok ?_
  | split
  | exact True.intro
theorem Zqn (x:Z6) (hx:Qk x):Ok (Z7 (Zfe x) Z8 0) (λ_=>True):=by
 have:=hx.keys
 refine li (x.Y9.length) (λt _ _=>?_) (by omega) (by omega) (by omega)
 unfold Zfe
 repeat' first
  | with_reducible refine ni ?_ ?_
  | with_reducible refine di ?_
  | with_reducible refine brD (λ_=>?_) λ_=>?_
  | with_reducible refine br! (λ_=>?_) λ_=>?_
  | with_reducible refine bd gr λ_ _=>?_
  | with_reducible refine bd wr λ_ _=>?_
  | with_reducible refine bd (Zhj _) λ_ _=>?_
  | exact True.intro
  | omega
theorem Zvz (x:Z6) (hx:Qk x):Ok (Z7 (Zea x) Z8 1) (λ_=>True):=by
 have:=hx.keys
 refine lp (λt=>t) (max 1 x.Y9.length) (λt=>1≤t) (λt hI _ _=>?_) (by omega) (by omega) (by omega) (by omega)
 unfold Zea
 repeat' first
  | with_reducible refine nx ?_ ?_ ?_
  | with_reducible refine dn ?_
  | with_reducible refine brD (λ_=>?_) λ_=>?_
  | with_reducible refine bd gr λ_ _=>?_
  | with_reducible refine bd wr λ_ _=>?_
  | exact True.intro
  | omega
theorem Y0j (x:Z6) (hx:Qk x):Ok (Z3q x) (λ_=>True):=by
 unfold Z3q
 repeat' with_reducible first
  | unfold Ze4
  | unfold Zen
  | refine brD (λ_=>?_) λ_=>?_
  | refine bd wr λ_ _=>?_
  | refine bd (Zhj _) λ_ _=>?_
  | refine bd (Zqn _ (by first|assumption|omega|exact And.left (by assumption)|(dsimp only; omega))) λ_ _=>?_
  | refine bd (Zvz _ (by assumption)) λ_ _=>?_
  | refine ok ?_
  | split
  | exact True.intro
theorem Zwu (x:Z6) (hx:Qk x):Ok (Uw x) (λ_=>True):=by
 unfold Uw
 repeat' first
  | unfold Z09
  | unfold Z23
  | unfold Z3j
  | unfold Z0l
  | unfold Z3s
  | with_reducible refine brD (λ_=>?_) λ_=>?_
  | with_reducible refine br! (λ_=>?_) λ_=>?_
  | with_reducible refine brE (λ_=>?_) λ_=>?_
  | with_reducible refine bd (Zqf _) λ_ _=>?_
  | with_reducible refine bd (Y0m _ _) λ_ _=>?_
  | with_reducible refine bd (Y1z _ (by first|assumption|omega|exact And.left (by assumption)|(dsimp only; omega))) λ_ _=>?_
  | with_reducible refine bd (Y0j _ (by first|assumption|omega|exact And.left (by assumption)|(dsimp only; omega))) λ_ _=>?_
  | with_reducible refine ok ?_
  | assumption
theorem Zyo (x:Z6) (hx:Qk x):Ok (Zaj x) (λ_=>True):=by
 unfold Zaj
 repeat' with_reducible first
  | unfold Zkf
  | unfold Zcn
  | unfold Z5o
  | refine br (λ_=>?_) λ_=>?_
  | refine bd (Zsd _) λ_ _=>?_
  | refine bd (Zxm _) λ_ _=>?_
  | refine bd (Zrn _) λ_ _=>?_
  | refine bs ?_
  | refine ok ?_
  | exact True.intro
theorem Zqj (x:Int):Ok (Z5t x) (λl=>l.length≤3):=by
 unfold Z5t
 repeat' first
  | unfold Zgb
  | unfold Zln
  | unfold Zgj
  | unfold Zm0
  | with_reducible refine br (λ_=>?_) λ_=>?_
  | with_reducible refine bd (Zw8 _ _ _) λ_ _=>?_
  | with_reducible refine ok ?_
  | (first|(simp; done)|decide)
theorem L158x1 (l:List Int) (x:Int) (hl:l.length≤140737488355328):Ok (Z7 (Zec l x) Z8 0) (λ_=>True):=by
 refine li (l.length) (λt _ _=>?_) (by omega) (by omega) (by omega)
 unfold Zec
 repeat' first
  | with_reducible refine ni ?_ ?_
  | with_reducible refine di ?_
  | with_reducible refine brD (λ_=>?_) λ_=>?_
  | with_reducible refine brE (λ_=>?_) λ_=>?_
  | with_reducible refine bd gr λ_ _=>?_
  | with_reducible refine bd wr λ_ _=>?_
  | exact True.intro
  | omega
theorem Y18 (l:List Int) (x:Int) (hl:l.length≤140737488355328):Ok (Ze0 l x) (λ_=>True):=by
 unfold Ze0
 repeat' first
  | with_reducible refine bd (L158x1 _ _ (by first|assumption|omega|exact And.left (by assumption)|(dsimp only; omega))) λ_ _=>?_
  | with_reducible refine ok ?_
  | split
  | assumption
theorem Y0z (p:List Z3) (x:Z6) (hp:Ym p) (hx:Qk x):Ok (Zae p x) (PR p):=by
 have:=hp.len
 unfold Zae
 repeat' first
  | unfold Zhu
  | unfold Zfs
  | unfold Z9x
  | unfold Zgo
  | with_reducible refine br (λ_=>?_) λ_=>?_
  | with_reducible refine bd (Zv2 _ _ (by first|exact hx.s|assumption) (by first|exact hx.s|assumption)) λ_ _=>?_
  | with_reducible refine bd (Z54 _ _ (by first|assumption|omega|(dsimp only; omega)|exact And.left (by assumption)|(simp; done)) (by first|assumption|omega|(dsimp only; omega)|exact And.left (by assumption)|(simp; done)) (by first|assumption|omega|(dsimp only; omega)|exact And.left (by assumption)|(simp; done)) (by first|assumption|omega|(dsimp only; omega)|exact And.left (by assumption)|(simp; done))) λ_ _=>?_
  | with_reducible refine bd (Zrn _) λ_ _=>?_
  | with_reducible refine bd (Zhw _ _ (by first|exact hx.ref.c|assumption) (by first|exact hx.ref.c|assumption)) λ_ _=>?_
  | with_reducible refine bd (Z8p _ _ (by first|exact hx.s|assumption) (by first|exact hx.s|assumption)) λ_ _=>?_
  | with_reducible refine bd (Zsd _) λ_ _=>?_
  | with_reducible refine bd (Y1i _ _ _ (by first|exact hx.ref|assumption) (by first|exact hx.ref|assumption)) λ_ _=>?_
  | with_reducible refine ok ?_
  | (first|exact⟨by first|exact hp|exact And.left (by assumption),by dsimp only; omega,by dsimp only; omega,by dsimp only; omega,by dsimp only; omega⟩|exact⟨hp,by dsimp only; omega,by dsimp only; omega,by dsimp only; omega,by dsimp only; omega⟩)
theorem Zyu (p:List Z3) (x:Z6) (hp:Ym p) (hx:Qk x):Ok (Ze6 p x) (λr=>Ym r.1∧Qk r.2.1):=by
 unfold Ze6
 repeat' first
  | unfold Zc8
  | unfold Z7o
  | with_reducible refine br! (λ_=>?_) λ_=>?_
  | with_reducible refine brE (λ_=>?_) λ_=>?_
  | with_reducible refine brN (λ_=>?_) λ_=>?_
  | with_reducible refine bd (Zsa _) λ_ _=>?_
  | with_reducible refine bd (Zqf _) λ_ _=>?_
  | with_reducible refine bd (Zwu _ (by first|assumption|omega|exact And.left (by assumption)|(dsimp only; omega))) λ_ _=>?_
  | with_reducible refine bd (Zyo _ (by first|assumption|omega|exact And.left (by assumption)|(dsimp only; omega))) λ_ _=>?_
  | with_reducible refine bd (Zqj _) λ_ _=>?_
  | with_reducible refine bd (Y18 _ _ (by first|assumption|omega|exact And.left (by assumption)|(dsimp only; omega))) λ_ _=>?_
  | with_reducible refine bd (Y0z _ _ (by first|assumption|omega|exact And.left (by assumption)|(dsimp only; omega)) (by first|assumption|omega|exact And.left (by assumption)|(dsimp only; omega))) λ_ _=>?_
  | with_reducible refine ok ?_
  | (first|exact⟨hp,W0⟩|exact⟨hp,hx⟩|exact⟨And.left (by assumption),W0⟩)
theorem Zzk (x:Y5) (i:Z6) (hp:Ym x.f_P) (hx:Qk i):Ok (Zd7 x i) (λr=>Ym r.1.f_P∧Qk r.2):=by
 unfold Zd7
 repeat' first
  | with_reducible refine brN (λ_=>?_) λ_=>?_
  | with_reducible refine bd (Zyu _ _ (by first|assumption|omega|exact And.left (by assumption)|(dsimp only; omega)) (by first|assumption|omega|exact And.left (by assumption)|(dsimp only; omega))) λ_ _=>?_
  | with_reducible refine ok ?_
  | (first|exact⟨hp,W0⟩|(dsimp only; assumption))
end Go.Proofs
namespace Go.Proofs
open Go.Den Go.Tot
theorem Y0v (l:List Int):(bytesOf l).length=l.length:=by simp[bytesOf]
theorem Znn {n:Int} (hn:n=1∨n=2∨n=4):Zdl n=some true:=by
 rcases hn with rfl|rfl|rfl <;> rfl
theorem L62x1 (x n k:Int) (l:List Int) (hk:k=n - 1) (h0:0≤n) (hl:(l.length:Int)=n) (hn:n≤8):Ok (Z7 Zew Z8 (x,k,l)) (λr=>(r.length:Int)=n):=by
 refine lp (λt=>n - 1 - t.2.1) n (λt=>(t.2.2.length:Int)=n) (λt hI h0 h1=>?_) (by omega) hl
 unfold Zew
 refine brD (λhlt=>?_) λhge=>dn hI
 refine bs (bs (bd ik λj hj=>bd (la (by omega)) λ_ _=>?_))
 refine bd (P:=λ_=>True) ⟨_,by unfold shrK; rw[if_pos (by decide)],trivial⟩ λ_ _=>bd wr λv hv=>nx ?_
 dsimp only
 rw[List.length_set]; exact hI
theorem Z6r (x n:Int) (hn:n=1∨n=2∨n=4):Ok (Z0t x n) (λr=>(r.1.length:Int)≤n):=by
 have hj:Ok (Z50 x n) (λr=>(r.1.length:Int)≤n):=by
  unfold Z50
  refine bd (mk (by omega) (by omega) (by omega) (by omega)) λ_ _=>bd wr λk hk=>?_
  exact bd (L62x1 x n k _ hk (by omega) (by simp; omega) (by omega)) λq hq=>ok (by dsimp only; rw[Y0v]; omega)
 unfold Z0t
 rw[Znn hn]
 refine bs (br! (λh=>by cases h) λ_=>brD (λ_=>?_) λ_=>hj)
 have hs:∀ y:Int,0≤y→Ok (K1 .i64 1 y) (λ_=>True):=λy hy=>⟨_,by unfold K1; rw[if_pos hy],trivial⟩
 refine bd wr λ_ _=>bd wr λ_ _=>bd (hs _ (by omega)) λ_ _=>bs (brD (λ_=>ok (by dsimp only; simp; omega)) λ_=>?_)
 exact bd wr λ_ _=>bd (hs _ (by omega)) λ_ _=>bs (brD (λ_=>ok (by dsimp only; simp; omega)) λ_=>hj)
theorem Zqe (x:Int):Ok (Zd4 x) (λr=>r.length≤2):=bd (Z6r x 2 (.inr (.inl rfl))) λv h=>ok (by omega)
theorem Ul (x:Int):Ok (Wu x) (λr=>r.length≤2):=bd (Z6r x 2 (.inr (.inl rfl))) λv h=>ok (by omega)
theorem Zi6 (x:Int):Ok (Z6o x) (λr=>r.length≤1):=bd (Z6r x 1 (.inl rfl)) λv h=>ok (by omega)
theorem Y0p (x n:Int) (hn:n=1∨n=2∨n=4):Ok (U5 x n) (λr=>r.length≤4):=bd (Z6r x n hn) λv h=>ok (by omega)
theorem Zzw (s:List UInt8) (a n:Int) (hn:n=1∨n=2∨n=4) (hl:Str s):Ok (Zcl s a n) (λe=>e=0→0≤a∧a+n≤s.length):=by
 unfold Zcl
 rw[Znn hn]
 refine bs (br! (λh=>by cases h) λ_=>brD (λ_=>ok (by omega)) λ_=>brD (λ_=>ok (by omega)) λ_=>?_)
 unfold Zlb
 exact bd wr λv hv=>brD (λ_=>ok (by omega)) λ_=>ok (by omega)
def Sg (n v:Int):Prop:=(n=1∧ -128≤v∧v<128)∨(n=2∧ -32768≤v∧v<32768)∨(n=3∧ -8388608≤v∧v<8388608)∨(n=4∧ -2147483648≤v∧v<2147483648)
theorem L134x1 (s : List UInt8) (a n p : Int) (hn:1≤n∧n≤4) (hl:Str s) (h0:0≤a) (h1:a+n≤s.length) (hp: -128≤p∧p<128):Ok (Z7 (Z9k s a n) Z8 (p,1)) (Sg n):=by
 refine lp (λt=>t.2) n (λt=>Sg t.2 t.1) (λt hI g0 g1=>?_) (by omega) (.inl ⟨rfl,hp⟩)
 unfold Z9k
 unfold Sg at hI
 refine brD (fun hlt => ?_) fun hge => dn (by have:t.2=n:=by omega
                                              rw[← this]; exact hI)
 refine bd wr λv9 e9=>bd wr λv10 e10=>bd gs λv11 e11=>bd wr λv12 e12=>bd wr λv13 e13=>bd wr λv14 e14=>?_
 exact nx (by dsimp only; unfold Sg; omega)
theorem Zru (s:List UInt8) (a n:Int) (hn:n=1∨n=2∨n=4) (hl:Str s):Ok (Z8h s a n) (λr=>(r.2=0→0≤a∧a+n≤s.length∧Sg n r.1)∧(r.2≠0→r.1=0)):=by
 unfold Z8h
 refine bd (Zzw s a n hn hl) λv0 h0=>brN (λh=>ok ⟨λh'=>absurd h' h,λ_=>rfl⟩) λh=>?_
 obtain⟨k0,k1⟩:=h0 h
 refine bd gs λv1 h1=>bd wr λv2 h2=>?_
 have key:∀ p:Int,-128≤p→p<128→Ok (Z8n s a n p) (λr=>(r.2=0→0≤a∧a+n≤s.length∧Sg n r.1)∧(r.2≠0→r.1=0)):=λp h h'=>by
  unfold Z8n
  exact bd (L134x1 s a n p (by omega) hl k0 k1 ⟨h,h'⟩) λq hq=>ok ⟨λ_=>⟨k0,k1,hq⟩,λh=>absurd rfl h⟩
 exact brD (λ_=>bd wr λv3 h3=>key v3 (by omega) (by omega)) λ_=>key v2 (by omega) (by omega)
def Us (n v:Int):Prop:=0≤v∧(n=1→v<256)∧(n=2→v<65536)∧(n=4→v<4294967296)
theorem Z89 (s:List UInt8) (a n:Int) (hn:n=1∨n=2∨n=4) (hl:Str s):Ok (Z10 s a n) (λr=>(r.2=0→0≤a∧a+n≤s.length)∧Us n r.1):=by
 unfold Z10
 refine bd (Zru s a n hn hl) λv h=>?_
 have h2:=h.2
 refine brE (λhe=>?_) λhe=>ok ⟨λh'=>absurd h' he,by dsimp only; unfold Us; rw[h2 he]; omega⟩
 obtain⟨h0,h1,hs⟩:=h.1 he
 unfold Sg at hs
 refine brD (λ_=>brD (λhneg=>?_) λhnn=>ok ⟨λ_=>⟨h0,h1⟩,by dsimp only; unfold Us; omega⟩) λhlt=>absurd hlt (by omega)
 unfold Zli
 rcases hn with rfl|rfl|rfl
 ·refine bd wr λv1 e1=>?_
  subst e1
  rw[show K1 .i64 1 (8*1)=some 256 by decide]
  exact bs (bd wr λv3 e3=>ok ⟨λ_=>⟨h0,h1⟩,by dsimp only; unfold Us; omega⟩)
 ·refine bd wr λv1 e1=>?_
  subst e1
  rw[show K1 .i64 1 (8*2)=some 65536 by decide]
  exact bs (bd wr λv3 e3=>ok ⟨λ_=>⟨h0,h1⟩,by dsimp only; unfold Us; omega⟩)
 ·refine bd wr λv1 e1=>?_
  subst e1
  rw[show K1 .i64 1 (8*4)=some 4294967296 by decide]
  exact bs (bd wr λv3 e3=>ok ⟨λ_=>⟨h0,h1⟩,by dsimp only; unfold Us; omega⟩)
def Um (s:List UInt8) (r:Yp):Prop:=r.f_S=s∧0≤r.f_At∧r.f_At≤s.length
theorem We (s:List UInt8) (r:Yp) (n:Int) (hn:n=1∨n=2∨n=4) (hl:Str s) (hr:Um s r):Ok (Vs r n) (λx=>Us n x.1∧Um s x.2):=by
 obtain⟨h1,h2,h3⟩:=hr
 unfold Vs
 rw[h1]
 refine bd (Z89 s r.f_At n hn hl) λv hv=>br (λ_=>ok ⟨by dsimp only; unfold Us; omega,rfl,h2,h3⟩) λ_=>brN (λ_=>ok ⟨by dsimp only; unfold Us; omega,rfl,h2,h3⟩) λhe=>?_
 obtain⟨k0,k1⟩:=hv.1 he
 exact bd wr λv1 e1=>ok ⟨hv.2,rfl,by dsimp only; omega,by dsimp only; omega⟩
abbrev SL_:=Int×(List UInt8)×Int×Bool×(List Zp)
def IL (s:List UInt8) (t:SL_):Prop:=Um s ⟨t.2.1,t.2.2.1,t.2.2.2.1⟩∧(t.2.2.2.2.length:Int)=t.1∧∀ v∈t.2.2.2.2,v.Zv.Ze=[]
def QL (s:List UInt8) (q:(List UInt8)×Int×Bool×(List Zp)):Prop:=Um s ⟨q.1,q.2.1,q.2.2.1⟩∧q.2.2.2.length≤256∧∀ v∈q.2.2.2,v.Zv.Ze=[]
theorem Mr {α:Type} {P:α→Prop} {l:List α} {x:α} (h:∀ v∈l,P v) (hx:P x):∀ v∈l++[x],P v:=λv hv=>by
 rcases List.mem_append.1 hv with hv|hv
 ·exact h v hv
 ·rw[List.mem_singleton.1 hv]; exact hx
theorem Zj4 {s:List UInt8} {n p11 p13 p15:Int} {t0:SL_} {v5:Int×Yp} {p12:List UInt8} {p14:Bool} (hI:IL s t0) (hr:Um s ⟨p12,p13,p14⟩) (h0:0≤t0.1) (h1:t0.1<n) (hn:n≤256):Ok (Z38 p11 t0 v5 p12 p13 p14 p15) (St (IL s) (λt=>t.1) n (QL s) t0):=by
 unfold Z38
 have:=hI.2.1
 refine bd gk λ_ _=>bd wr λ_ hv=>?_
 exact nx ⟨hr,by simp only[List.length_append,List.length_cons,List.length_nil]; omega,Mr hI.2.2 rfl⟩
theorem Zns {s:List UInt8} (hs:Str s) {n p9 p11:Int} {t0:SL_} {v5:Int×Yp} {p8:List UInt8} {p10:Bool} (hI:IL s t0) (hr:Um s ⟨p8,p9,p10⟩) (h0:0≤t0.1) (h1:t0.1<n) (hn:n≤256):Ok (Z5w t0 v5 p8 p9 p10 p11) (St (IL s) (λt=>t.1) n (QL s) t0):=by
 unfold Z5w
 refine brD (λ_=>brD (λ_=>?_) λ_=>Zj4 hI hr h0 h1 hn) λ_=>Zj4 hI hr h0 h1 hn
 unfold Zl5
 exact bd (We s _ 2 (by omega) hs hr) λv hv=>Zj4 hI hv.2 h0 h1 hn
theorem Zt7 (s:List UInt8) (r:Yp) (hs:Str s) (hr:Um s r):Ok (Z57 r) (λx=>(x.1.length≤256∧∀ v∈x.1,v.Zv.Ze=[])∧Um s x.2):=by
 unfold Z57
 refine bd (We s r 1 (by omega) hs hr) λv0 h0=>bd (P:=QL s) ?_ λq hq=>ok ⟨hq.2,hq.1⟩
 have hu:0≤v0.1∧v0.1<256:=⟨h0.1.1,h0.1.2.1 rfl⟩
 refine lp (λt=>t.1) v0.1 (IL s) (λt hI g0 g1=>?_) (by omega) ⟨h0.2,rfl,λv hv=>by simp at hv⟩
 have hl:=hI.2.1
 have hd:QL s (t.2.1,t.2.2.1,t.2.2.2.1,t.2.2.2.2):=⟨hI.1,by dsimp only at *; omega,hI.2.2⟩
 unfold Zhn
 refine brD (λhlt=>br! (λ_=>?_) λ_=>dn hd) λ_=>dn hd
 unfold Zj7
 exact bd (We s _ 1 (by omega) hs hI.1) λv5 h5=>brE (λ_=>bd (We s _ 2 (by omega) hs h5.2) λv6 h6=>Zns hs hI h6.2 g0 hlt (by omega)) λ_=>Zns hs hI h5.2 g0 hlt (by omega)
def RdT {α:Type} (s:List UInt8) (B:Nat) (P:α→Prop) (q:(List UInt8)×Int×Bool×(List α)):Prop:=Um s ⟨q.1,q.2.1,q.2.2.1⟩∧q.2.2.2.length≤B∧∀ v∈q.2.2.2,P v
def RdI {α:Type} (s:List UInt8) (P:α→Prop) (t:Int×(List UInt8)×Int×Bool×(List α)):Prop:=Um s ⟨t.2.1,t.2.2.1,t.2.2.2.1⟩∧(t.2.2.2.2.length:Int)=t.1∧∀ v∈t.2.2.2.2,P v
theorem rdL {α:Type} {s:List UInt8} {P:α→Prop} {n p2:Int} {p1:List UInt8} {p3:Bool} (hn:0≤n∧n<65536) (hr:Um s ⟨p1,p2,p3⟩) {f:Int×(List UInt8)×Int×Bool×(List α)→Option (Ctl (Int×(List UInt8)×Int×Bool×(List α)) ((List UInt8)×Int×Bool×(List α)))}
  (h:∀ t,RdI s P t→0≤t.1→t.1≤n→RdT s 65536 P (t.2.1,t.2.2.1,t.2.2.2.1,t.2.2.2.2)→Ok (f t) (St (RdI s P) (λt=>t.1) n (RdT s 65536 P) t)):Ok (Z7 f Z8 (0,p1,p2,p3,[])) (RdT s 65536 P):=
 lp (λt=>t.1) n (RdI s P) (λt hI g0 g1=>h t hI g0 g1 ⟨hI.1,by have:=hI.2.1; dsimp only at *; omega,hI.2.2⟩) (by omega) ⟨hr,rfl,λv hv=>by simp at hv⟩ (by dsimp only; omega) hn.1
theorem L152x1 {s:List UInt8} (hs:Str s) {v7:Int×Yp} (h7:Us 2 v7.1∧Um s v7.2):Ok (Z7 (Zfa v7) Z8 (0,v7.2.f_S,v7.2.f_At,v7.2.W9,[])) (RdT s 65536 λv=>v.Zv=[]):=by
 refine rdL (n:=v7.1) ⟨h7.1.1,h7.1.2.2.1 rfl⟩ h7.2 λt hI g0 g1 hd=>?_
 have hl:=hI.2.1
 have:=h7.1.2.2.1 rfl
 unfold Zfa
 refine brD (λhlt=>br! (λ_=>?_) λ_=>dn hd) λ_=>dn hd
 unfold Zj3
 refine bd (We s _ 2 (by omega) hs hI.1) λv1 h1=>bd (We s _ 2 (by omega) hs h1.2) λv2 h2=>bd (We s _ 2 (by omega) hs h2.2) λv3 h3=>bd (We s _ 2 (by omega) hs h3.2) λv4 h4=>?_
 refine bd gk λ_ _=>bd wr λ_ hv=>?_
 exact nx ⟨h4.2,by simp only[List.length_append,List.length_cons,List.length_nil]; omega,Mr hI.2.2 rfl⟩
theorem L152x3 {s:List UInt8} (hs:Str s) {v7:Int×Yp} (h7:Us 2 v7.1∧Um s v7.2):Ok (Z7 (Z9e v7) Z8 (0,v7.2.f_S,v7.2.f_At,v7.2.W9,[])) (RdT s 65536 λ_=>True):=by
 refine rdL (n:=v7.1) ⟨h7.1.1,h7.1.2.2.1 rfl⟩ h7.2 λt hI g0 g1 hd=>?_
 have hl:=hI.2.1
 have:=h7.1.2.2.1 rfl
 unfold Z9e
 refine brD (λhlt=>br! (λ_=>?_) λ_=>dn hd) λ_=>dn hd
 unfold Zjp
 refine bd (We s _ 2 (by omega) hs hI.1) λv1 h1=>bd (We s _ 2 (by omega) hs h1.2) λv2 h2=>?_
 refine bd gk λ_ _=>bd wr λ_ hv=>?_
 exact nx ⟨h2.2,by simp only[List.length_append,List.length_cons,List.length_nil]; omega,Mr hI.2.2 trivial⟩
def RFr (m:Zx):Prop:=(m.Yy.Zs.length≤256∧∀ v∈m.Yy.Zs,v.Zv.Ze=[])∧m.Yy.Zw.length≤256∧∀ v∈m.Yy.Zw,v.Zv.Ze=[]
def QM (s:List UInt8) (q:(List UInt8)×Int×Bool×(List Zx)×(List Int)):Prop:=Um s ⟨q.1,q.2.1,q.2.2.1⟩∧q.2.2.2.1.length≤65536∧q.2.2.2.2.length=q.2.2.2.1.length∧∀ v∈q.2.2.2.1,RFr v
def IM (s:List UInt8) (t:Int×(List UInt8)×Int×Bool×(List Zx)×(List Int)):Prop:=Um s ⟨t.2.1,t.2.2.1,t.2.2.2.1⟩∧(t.2.2.2.2.1.length:Int)=t.1∧t.2.2.2.2.2.length=t.2.2.2.2.1.length∧∀ v∈t.2.2.2.2.1,RFr v
theorem L152x2 {s:List UInt8} (hs:Str s) {v7:Int×Yp} (h7:Us 2 v7.1∧Um s v7.2):Ok (Z7 (Zbh v7) Z8 (0,v7.2.f_S,v7.2.f_At,v7.2.W9,[],[])) (QM s):=by
 have:=h7.1.2.2.1 rfl
 have:=h7.1.1
 refine lp (λt=>t.1) v7.1 (IM s) (λt hI g0 g1=>?_) (by omega) ⟨h7.2,rfl,rfl,λv hv=>by simp at hv⟩
 have hl:=hI.2.1
 have hl2:=hI.2.2.1
 have hd:QM s (t.2.1,t.2.2.1,t.2.2.2.1,t.2.2.2.2.1,t.2.2.2.2.2):=⟨hI.1,by dsimp only at *; omega,hI.2.2⟩
 unfold Zbh
 refine brD (λhlt=>br! (λ_=>?_) λ_=>dn hd) λ_=>dn hd
 unfold Zhp
 refine bd (We s _ 2 (by omega) hs hI.1) λv1 h1=>bd (We s _ 1 (by omega) hs h1.2) λv2 h2=>bd (Zt7 s _ hs h2.2) λv3 h3=>bd (Zt7 s _ hs h3.2) λv4 h4=>?_
 refine bd gk λ_ _=>?_
 refine bd gk λ_ _=>bd wr λ_ hv=>?_
 exact nx ⟨h4.2,by simp only[List.length_append,List.length_cons,List.length_nil]; omega,by simp only[List.length_append,List.length_cons,List.length_nil]; omega,Mr hI.2.2.2 ⟨h3.1,h4.1⟩⟩
structure TkOk (s:List UInt8) (t:W3):Prop where
 ins:t.f_C.Y3=[]
 hnd:∀ h∈t.f_C.Xo,h.Zv=[]
 hndL:t.f_C.Xo.length≤65536
 map:∀ m∈t.f_C.Yz,RFr m
 mapL:t.f_C.Yz.length≤65536
 raw:t.Zjt.length=t.f_C.Yz.length
 lin:t.f_C.X9.length≤65536
 byt:t.Q8.length≤s.length
theorem Zz4 (s:List UInt8) (hs:Str s):Ok (Z9v s) (λr=>TkOk s r.1):=by
 unfold Z9v
 refine bd (We s _ 2 (by omega) hs ⟨rfl,by dsimp only; omega,by dsimp only; omega⟩) λv0 h0=>bd (We s _ 2 (by omega) hs h0.2) λv1 h1=>bd (We s _ 4 (by omega) hs h1.2) λv2 h2=>?_
 have h5:Ok (Z85 v0 v1 v2) (λr=>TkOk s r.1):=by
  unfold Z85
  exact ok ⟨rfl,λh hh=>by simp at hh,by simp,λh hh=>by simp at hh,by simp,rfl,by simp,by simp⟩
 obtain⟨k1,k2,k3⟩:=h2.2
 have k4:=h2.1.1
 have k5:=h2.1.2.2.2 rfl
 refine br (λ_=>h5) λ_=>bd wr λv3 h3=>brD (λ_=>h5) λhle=>?_
 unfold Zl0
 refine bd wr λv4 h4=>bd (sb (by omega) (by omega) (by omega)) λv5 h5=>bd wr λv6 h6=>?_
 refine bd (We s _ 2 (by omega) hs ⟨k1,by dsimp only; omega,by dsimp only; omega⟩) λv7 h7=>bd (L152x1 hs h7) λq0 hq0=>bd (We s _ 2 (by omega) hs hq0.1) λv24 h24=>bd (L152x2 hs h24) λq2 hq2=>bd (We s _ 2 (by omega) hs hq2.1) λv44 h44=>bd (L152x3 hs h44) λq4 hq4=>?_
 exact ok ⟨rfl,hq0.2.2,hq0.2.1,hq2.2.2.2,hq2.2.1,hq2.2.2.1,hq4.2.1,by have:=h5.1; dsimp only; omega⟩
end Go.Proofs
namespace Go.Proofs
open Go.Den Go.Tot
theorem is_eq (x:Int):Z1o x=some (decide (0≤x∧x<81)):=by
 unfold Z1o
 by_cases h:x≥0
 ·rw[if_pos (by simpa using h)]; congr 1; simp[h]
 ·rw[if_neg (by simpa using h)]; congr 1; simp; omega
theorem Zhl (x a b:Int):Lx x a b=some (decide (a≤x∧x≤b)):=by
 unfold Lx
 by_cases h:x≥a
 ·rw[if_pos (by simpa using h)]; congr 1; simp[h]
 ·rw[if_neg (by simpa using h)]; congr 1; simp; omega
def KindP (x k:Int):Prop:=(k=3↔36≤x∧x≤52)∧(k=6↔x=53)∧(k=7↔x=54)∧(k= -1↔ ¬(0≤x∧x<81))∧ -1≤k∧k≤7
theorem Z8y (x:Int):Ok (K5 x) (KindP x):=by
 unfold K5 Zck Zca
 simp only[is_eq,Zhl]
 unfold KindP
 repeat' first
  | with_reducible refine br! (λ_=>?_) λ_=>?_
  | with_reducible refine brD (λ_=>?_) λ_=>?_
  | with_reducible refine brE (λ_=>?_) λ_=>?_
  | with_reducible refine bs ?_
  | with_reducible refine ok ?_
  | (have h0:=of_decide_eq_true (by assumption:decide (0≤x∧x<81)=true); refine⟨?_,?_,?_,?_,?_,?_⟩ <;> omega)
  | (have h0:=of_decide_eq_false (by assumption:decide (0≤x∧x<81)=false); refine⟨?_,?_,?_,?_,?_,?_⟩ <;> omega)
theorem Zp6 (x:Int):Z2s x=some (decide (36≤x∧x≤54)):=by
 unfold Z2s; rw[Zhl]; rfl
theorem Zyx (x:Z6) (hx:Qk x):Ok (Z7 (Z3g x) Z8 0) (λq=>match q with|.inl _=>∀ v∈x.Zh,0≤v∧v<1000|.inr b=>b=false):=by
 have:=hx.tos
 refine lp (λt=>t) x.Zh.length (λt=>∀ (j:Nat) v,(j:Int)<t→x.Zh[j]?=some v→0≤v∧v<1000) (λt hI h0 h1=>?_) (by omega) (λj v h=>by omega) (by omega) (by omega)
 unfold Z3g
 refine brD (λhlt=>?_) λhge=>dn λv hv=>?_
 ·obtain⟨y,hy,hm,hi⟩:=gri (l:=x.Zh) (i:=t) (by omega) hlt
  rw[hy]
  refine bs (brD (λ_=>dn rfl) λ_=>bs (brD (λ_=>dn rfl) λ_=>bd wr λv2 h2=>nx (λj v hj hv=>?_) (by omega) (by omega)))
  rcases Int.lt_or_le (j:Int) t with hlt|hge
  ·exact hI j v hlt hv
  ·have:j=t.toNat:=by omega
   subst this
   rw[hi] at hv; cases hv
   omega
 ·obtain⟨j,hj⟩:=List.mem_iff_getElem?.1 hv
  exact hI j v (by have:=(List.getElem?_eq_some_iff.1 hj).1; omega) hj
theorem aims_ok (x:Z6) (hx:Qk x):Ok (M0 x) (λb=>b=true→0≤x.f_To∧x.f_To<1000∧∀ v∈x.Zh,0≤v∧v<1000):=by
 unfold M0
 refine brD (λ_=>ok λh=>by cases h) λ_=>brD (λ_=>ok λh=>by cases h) λ_=>?_
 unfold Zfo
 refine bd (Zyx x hx) λq hq=>?_
 cases q with
 | inl _=>exact ok λ_=>⟨by omega,by omega,hq⟩
 | inr b=>exact ok λh=>by cases hq.symm.trans h
theorem keys_ok (x:Z6) (hx:Qk x):Ok (Z3q x) (λe=>e=0→(x.f_Op=53→1≤x.Zh.length∧x.Zh.length≤64)∧(x.f_Op≠53→x.Y9.length≤64∧x.Zh.length=x.Y9.length)):=by
 have:=hx.tos
 have:=hx.keys
 unfold Z3q Ze4 Zen
 refine brE (λ_=>brE (λ_=>ok (by omega)) λ_=>brD (λ_=>ok (by omega)) λ_=>bd (Zhj _) λv h=>br! (λ_=>ok (by omega)) λ_=>bd wr λ_ _=>bd wr λ_ _=>brD (λ_=>ok (by omega)) λ_=>ok (by omega)) λ_=>?_
 refine brD (λ_=>ok (by omega)) λ_=>brN (λ_=>ok (by omega)) λ_=>bd (Zqn x hx) λq _=>?_
 have h:∀ e:Int,Ok (some e) (λe=>e=0→(x.f_Op=53→1≤x.Zh.length∧x.Zh.length≤64)∧(x.f_Op≠53→x.Y9.length≤64∧x.Zh.length=x.Y9.length)):=λe=>ok λ_=>⟨by omega,by omega⟩
 cases q with
 | inl _ => refine bd (Zvz x hx) λq _=>?_
            cases q <;> exact h _
 | inr _=>exact h _
structure Wo (x:Z6):Prop where
 op:0≤x.f_Op∧x.f_Op<81
 tab:x.f_Op=53→1≤x.Zh.length∧x.Zh.length≤64
 look:x.f_Op=54→x.Y9.length≤64∧x.Zh.length=x.Y9.length
 aim:36≤x.f_Op→x.f_Op≤54→0≤x.f_To∧∀ v∈x.Zh,0≤v
 few:x.f_Op≠53→x.f_Op≠54→x.Zh=[]
theorem used_ok (x:Z6) (k:Int):Ok (Z37 x k) (λb=>b=true→k≠6→k≠7→x.Zh.length=0):=by
 unfold Z37 Zfm Z5a Z79
 repeat' first
  | with_reducible refine br! (λ_=>?_) λ_=>?_
  | with_reducible refine brE (λ_=>?_) λ_=>?_
  | with_reducible refine brN (λ_=>?_) λ_=>?_
  | with_reducible refine ok ?_
  | (intro hb h6 h7; first|(cases hb; done)|(simp only[beq_iff_eq] at *; omega))
theorem Z7s (x:Z6) (hx:Qk x):Ok (Uw x) (λe=>e=0→Wo x):=by
 unfold Uw
 refine bd (Z8y x.f_Op) λk hk=>brD (λ_=>ok (by omega)) λhk0=>bd (used_ok x k) λb hb=>br! (λ_=>ok (by omega)) λhu=>?_
 obtain⟨k3,k6,k7,km,k0,k1⟩:=hk
 have hfew:=hb hu
 have h5:(k=6∨k=7)→(0≤x.f_To∧∀ v∈x.Zh,0≤v)→Ok (Z3s x) (λe=>e=0→Wo x):=λh ha=>by
  unfold Z3s
  exact bd (keys_ok x hx) λv hv=>ok λhe=>⟨by omega,λh=>(hv he).1 h,λh=>(hv he).2 (by omega),λ_ _=>ha,λ_ _=>by omega⟩
 have h4:(k=3∨k=6∨k=7→0≤x.f_To∧∀ v∈x.Zh,0≤v)→Ok (Z0l k x) (λe=>e=0→Wo x):=λha=>by
  unfold Z0l
  exact brE (λh=>h5 (.inl h) (ha (.inr (.inl h)))) λh6=>brE (λh=>h5 (.inr h) (ha (.inr (.inr h)))) λh7=>ok λ_=>⟨by omega,by omega,by omega,λh h'=>ha (by omega),λ_ _=>List.eq_nil_of_length_eq_zero (hfew h6 h7)⟩
 have ha:Ok (M0 x) (λb=>b=true→0≤x.f_To∧∀ v∈x.Zh,0≤v):=(aims_ok x hx).mono λb h hb=>⟨(h hb).1,λv hv=>((h hb).2.2 v hv).1⟩
 have h3:Ok (Z3j k x) (λe=>e=0→Wo x):=by
  unfold Z3j
  refine brE (λ_=>bd ha λb hb=>br! (λ_=>ok (by omega)) λh=>h4 λ_=>hb h) λh3=>brE (λ_=>bd ha λb hb=>br! (λ_=>ok (by omega)) λh=>h4 λ_=>hb h) λh6=>brE (λ_=>bd ha λb hb=>br! (λ_=>ok (by omega)) λh=>h4 λ_=>hb h) λh7=>h4 λh=>by omega
 have h2:Ok (Z23 k x) (λe=>e=0→Wo x):=by
  unfold Z23
  exact brE (λ_=>brD (λ_=>ok (by omega)) λ_=>brD (λ_=>ok (by omega)) λ_=>h3) λ_=>h3
 have h1:Ok (Z09 k x) (λe=>e=0→Wo x):=by
  unfold Z09
  exact brE (λ_=>brD (λ_=>ok (by omega)) λ_=>brD (λ_=>ok (by omega)) λ_=>h2) λ_=>brE (λ_=>brD (λ_=>ok (by omega)) λ_=>brD (λ_=>ok (by omega)) λ_=>h2) λ_=>h2
 repeat' first
  | exact h1
  | with_reducible refine brE (λ_=>?_) λ_=>?_
  | with_reducible refine brD (λ_=>?_) λ_=>?_
  | exact ok (by omega)
theorem Zp3 (x:Int):Ok (Z6v x) (λn=>0≤n∧n≤3∧(0≤x→x<81→x≠53→x≠54→1≤n)):=by
 unfold Z6v Zlw Zig Zlk
 refine bd (Z8y x) λk hk=>?_
 obtain⟨k3,k6,k7,km,k0,k1⟩:=hk
 repeat' first
  | with_reducible refine brE (λ_=>?_) λ_=>?_
  | with_reducible refine ok ?_
  | exact⟨by omega,by omega,by omega⟩
theorem Znx (x:Z6) (hx:Qk x) (hc:Wo x):Ok (Zfw x) (λn=>0≤n∧n≤400):=by
 have:=hx.tos
 have:=hx.keys
 have:=hc.tab
 have:=hc.look
 unfold Zfw
 exact brE (λ_=>bd wr λ_ _=>bd wr λ_ _=>ok (by omega)) λ_=>brE (λ_=>bd wr λ_ _=>bd wr λ_ _=>ok (by omega)) λ_=>bd (Zp3 _) λn hn=>ok (by omega)
theorem L60x1 (l:List Z6) (hl:∀ i∈l,Qk i) (hn:l.length≤140737488355328):Ok (Z7 (Z3a l) Z8 0) (λq=>match q with|.inl _=>∀ i∈l,Wo i|.inr y=>y.2≠0∧y.1=[]):=by
 refine lp (λt=>t) l.length (λt=>∀ (j:Nat) v,(j:Int)<t→l[j]?=some v→Wo v) (λt hI h0 h1=>?_) (by omega) (λj v h=>by omega) (by omega) (by omega)
 unfold Z3a
 refine brD (λhlt=>?_) λhge=>dn λv hv=>?_
 ·refine bd gri λi hi=>bd (Z7s i (hl i hi.1)) λe he=>brN (λh=>dn ⟨h,rfl⟩) λh=>bd wr λv2 h2=>nx (λj v hj hv=>?_) (by omega) (by omega)
  rcases Int.lt_or_le (j:Int) t with hlt|hge
  ·exact hI j v hlt hv
  ·have:j=t.toNat:=by omega
   subst this
   rw[hi.2] at hv; cases hv
   exact he h
 ·obtain⟨j,hj⟩:=List.mem_iff_getElem?.1 hv
  exact hI j v (by have:=(List.getElem?_eq_some_iff.1 hj).1; omega) hj
theorem Zlu (l:List Z6) (hl:∀ i∈l,Qk i) (hn:l.length≤140737488355328):Ok (Lc l) (λr=>(r.2=0→r.1.length=l.length+1∧l.length≤1000∧∀ i∈l,Wo i)∧r.1.length≤1001):=by
 unfold Lc
 refine bd (L60x1 l hl hn) λq hq=>?_
 cases q with
 | inr y=>exact ok ⟨λh=>absurd h hq.1,by rw[hq.2]; simp⟩
 | inl _=>
  refine brD (λ_=>ok ⟨by omega,by simp⟩) λhs=>?_
  refine bd (P:=λr=>r.length=l.length+1) ?_ λq2 hq2=>bd ik λj hj=>bd (la (by omega)) λ_ _=>brD (λ_=>ok ⟨by omega,by simp⟩) λ_=>ok ⟨λ_=>⟨hq2,by omega,hq⟩,by dsimp only; omega⟩
  refine lp (λt=>t.1) l.length (λt=>(t.2.length:Int)=t.1+1∧∀ v∈t.2,0≤v∧v≤400*t.1) (λt hI h0 h1=>?_) (by omega) ⟨rfl,by simp⟩
  obtain⟨hI1,hI2⟩:=hI
  unfold Zd2
  refine brD (λhlt=>?_) λhge=>dn (by omega)
  refine bd ik λj hj=>bd (la (by omega)) λv hv=>bd gr λi hi=>bd (Znx i (hl i hi) (hq i hi)) λn hn=>?_
  have hv2:=hI2 v hv.2
  refine bd wr λw hw=>bd gk λ_ _=>bd wr λk hk=>?_
  refine nx ⟨by simp only[List.length_append,List.length_cons,List.length_nil]; omega,Mr (λv hv=>?_) ?_⟩
  ·have:=hI2 v hv; dsimp only; omega
  ·dsimp only; omega
theorem Kt (s:List UInt8) (a n:Int) (hn:n=1∨n=2∨n=4) (hs:Str s):Ok (Li s a n) (Us n):=bd (Z89 s a n hn hs) λv h=>ok h.2
theorem Z9o (s:List UInt8) (a n:Int) (hn:n=1∨n=2∨n=4) (hs:Str s):Ok (Z4e s a n) (λ_=>True):=bd (Zru s a n hn hs) λv h=>ok trivial
theorem need_ok (s:List UInt8) (a op:Int) (hs:Str s) (h0:0≤a) (h1:a≤s.length) (ho:0≤op) (h81:op<81):Ok (Z90 s a op) (λn=>n<0∨(1≤n∧a+n≤s.length)):=by
 have h4:∀ p:Int,1≤p→p≤1000000→Ok (Z6z s a p) (λn=>n<0∨(1≤n∧a+n≤s.length)):=λp hp hp'=>by
  unfold Z6z
  exact bd wr λv hv=>brD (λ_=>ok (by omega)) λ_=>ok (by omega)
 have h2:∀ p q:Int,5≤p→p≤9→0≤q→q≤6→Ok (Z88 s a p q) (λn=>n<0∨(1≤n∧a+n≤s.length)):=λp q hp hp' hq hq'=>by
  unfold Z88 Zh1
  refine bd wr λv1 e1=>bd wr λv2 e2=>bd (Z89 s v2 2 (by omega) hs) λv3 e3=>bd wr λv4 e4=>brD (λ_=>ok (by omega)) λ_=>brN (λ_=>ok (by omega)) λ_=>?_
  have hu:=e3.2.2.2.1 rfl
  have hu0:=e3.2.1
  have hm:0≤q*v3.1∧q*v3.1≤6*65536:=⟨Int.mul_nonneg hq hu0,Int.le_trans (Int.mul_le_mul_of_nonneg_right hq' hu0) (by omega)⟩
  exact bd wr λv5 e5=>bd wr λv6 e6=>h4 v6 (by omega) (by omega)
 unfold Z90 Zbn
 exact bd (Zp3 op) λn hn=>brE (λ_=>brE (λ_=>h2 5 6 (by omega) (by omega) (by omega) (by omega)) λ_=>h2 9 2 (by omega) (by omega) (by omega) (by omega)) λ_=>brE (λ_=>brE (λ_=>h2 5 6 (by omega) (by omega) (by omega) (by omega)) λ_=>h2 9 2 (by omega) (by omega) (by omega) (by omega)) λ_=>h4 n (by omega) (by omega)
theorem L164x1 (n:Int) (s:List UInt8) (a:Int) (hs:Str s) (h0:0≤a) (h1:a≤s.length) (hn:0≤n) (hn':n<65536):Ok (Z7 (Za2 n s a) Z8 (0,([]:List Int))) (λr=>r.length≤65536):=by
 refine lp (λt=>t.1) n (λt=>(t.2.length:Int)=t.1) (λt hI g0 g1=>?_) (by omega) rfl
 unfold Za2
 refine brD (λhlt=>bd wr λv1 e1=>bd wr λv2 e2=>bd wr λv3 e3=>bd (Kt s v3 2 (by omega) hs) λv4 e4=>?_) λ_=>dn (by omega)
 exact bd gk λ_ _=>bd wr λk hk=>nx (by simp only[List.length_append,List.length_cons,List.length_nil]; omega)
theorem L164x2 (n:Int) (s:List UInt8) (a:Int) (hs:Str s) (h0:0≤a) (h1:a≤s.length) (hn:0≤n) (hn':n<65536):Ok (Z7 (Zed n s a) Z8 (0,([]:List Int),([]:List Int))) (λr=>r.1.length≤65536∧r.2.length≤65536):=by
 refine lp (λt=>t.1) n (λt=>(t.2.1.length:Int)=t.1∧(t.2.2.length:Int)=t.1) (λt hI g0 g1=>?_) (by omega) ⟨rfl,rfl⟩
 unfold Zed
 refine brD (λhlt=>bd wr λv1 e1=>bd wr λv2 e2=>bd wr λv3 e3=>bd (Z9o s v3 4 (by omega) hs) λv4 e4=>?_) λ_=>dn (by dsimp only at *; omega)
 refine bd gk λ_ _=>bd wr λ_ _=>bd wr λ_ _=>bd wr λv5 _=>bd (Kt s v5 2 (by omega) hs) λ_ _=>?_
 exact bd gk λ_ _=>bd wr λk hk=>nx (by simp only[List.length_append,List.length_cons,List.length_nil]; omega)
def TkI (i:Z6):Prop:=i.Y9.length≤65536∧i.Zh.length≤65536∧i.Yr={ Zq:=[],Ze:=[],Xb:=[] }∧i.f_S=[]
theorem TkI.w {i:Z6} (h:TkI i):Qk i:=⟨by have:=h.1; omega,by have:=h.2.1; omega,by rw[h.2.2.1]; exact⟨by simp,by simp,by simp⟩,by rw[h.2.2.2]; simp⟩
theorem take_ok (s:List UInt8) (a op:Int) (hs:Str s) (h0:0≤a) (h1:a≤s.length):Ok (Zd0 s a op) TkI:=by
 unfold Zd0
 have z:∀ x y w v,TkI { f_Op:=x,f_A:=y,f_B:=w,f_To:=v,Y9:=[],Zh:=[],Yr:={ Zq:=[],Ze:=[],Xb:=[] },f_S:=[] }:=λ_ _ _ _=>⟨by simp,by simp,rfl,rfl⟩
 refine bd (Z8y op) λk _=>brE (λ_=>?_) λ_=>brE (λ_=>?_) λ_=>brE (λ_=>?_) λ_=>brE (λ_=>?_) λ_=>brE (λ_=>?_) λ_=>brE (λ_=>?_) λ_=>brE (λ_=>?_) λ_=>ok (z _ _ _ _)
 ·exact bd wr λ_ _=>bd (Z9o s _ 1 (by omega) hs) λ_ _=>ok (z _ _ _ _)
 ·exact bd wr λ_ _=>bd (Kt s _ 2 (by omega) hs) λ_ _=>ok (z _ _ _ _)
 ·exact bd wr λ_ _=>bd (Kt s _ 2 (by omega) hs) λ_ _=>ok (z _ _ _ _)
 ·exact bd wr λ_ _=>bd (Kt s _ 1 (by omega) hs) λ_ _=>ok (z _ _ _ _)
 ·exact bd wr λ_ _=>bd (Kt s _ 1 (by omega) hs) λ_ _=>bd wr λ_ _=>bd (Z9o s _ 1 (by omega) hs) λ_ _=>ok (z _ _ _ _)
 ·refine bd wr λ_ _=>bd (Kt s _ 2 (by omega) hs) λ_ _=>bd wr λ_ _=>bd (Z9o s _ 4 (by omega) hs) λ_ _=>bd wr λ_ _=>bd (Kt s _ 2 (by omega) hs) λn hn=>?_
  exact bd (L164x1 n s a hs h0 h1 hn.1 (hn.2.2.1 rfl)) λq hq=>ok ⟨by simp,hq,rfl,rfl⟩
 ·refine bd wr λ_ _=>bd (Kt s _ 2 (by omega) hs) λ_ _=>bd wr λ_ _=>bd (Kt s _ 2 (by omega) hs) λn hn=>?_
  exact bd (L164x2 n s a hs h0 h1 hn.1 (hn.2.2.1 rfl)) λq hq=>ok ⟨hq.1,hq.2,rfl,rfl⟩
theorem Zpq (l:List Int) (x:Int) (hl:l.length≤140737488355328):Ok (Z2z l x) (λk=>k<l.length):=by
 unfold Z2z
 refine bd (P:=λq:Unit⊕Int=>match q with|.inl _=>True|.inr y=>y<l.length) (li l.length (λt h0 h1=>?_) (by omega) (by omega) (by omega)) λq hq=>?_
 ·unfold Zgm
  exact brD (λ_=>bd gr λv _=>br (λ_=>di (by assumption)) λ_=>bd wr λ_ _=>ni (by omega) (by omega)) λ_=>di trivial
 ·cases q with
  | inl _=>exact ok (by omega)
  | inr y=>exact ok hq
theorem L153x1 (s:List UInt8) (hs:s.length≤20000):Ok (Z7 (Z6s s) Z8 (0,([]:List Z6),([]:List Int))) (λq=>match q with|.inl q=>(∀ i∈q.1,TkI i)∧q.1.length≤20000∧q.2.length≤20000|.inr y=>y.2≠0):=by
 refine lp (λt=>t.1) s.length (λt=>(∀ i∈t.2.1,TkI i)∧(t.2.1.length:Int)≤t.1∧(t.2.2.length:Int)≤t.1) (λt hI h0 h1=>?_) (by omega) ⟨Wm,by simp,by simp⟩
 obtain⟨hI1,hI2,hI3⟩:=hI
 unfold Z6s
 refine brD (λhlt=>?_) λ_=>dn ⟨hI1,by dsimp only at *; omega,by dsimp only at *; omega⟩
 refine bd gs λv hv=>bd wr λop hop=>brD (λ_=>dn (by simp)) λ_=>bd (need_ok s t.1 op (by unfold Str; omega) h0 (by omega) (by omega) (by omega)) λn hn=>brD (λ_=>dn (by simp)) λ_=>?_
 refine bd (take_ok s t.1 op (by unfold Str; omega) h0 (by omega)) λi hi=>?_
 refine bd gk λ_ _=>?_
 refine bd gk λ_ _=>bd wr λk hk=>?_
 exact nx ⟨Mr hI1 hi,by simp only[List.length_append,List.length_cons,List.length_nil]; omega,by simp only[List.length_append,List.length_cons,List.length_nil]; omega⟩
theorem L153x3 (ps:List Int) (l:List Int) (hp:ps.length≤20000) (hl:l.length≤65536):Ok (Z7 (Z07 ps l.length) Z8 (0,l)) (λq=>match q with|.inl r=>r.length=l.length|.inr y=>y.2≠0):=by
 refine lp (λt=>t.1) l.length (λt=>t.2.length=l.length) (λt hI h0 h1=>?_) (by omega) rfl
 unfold Z07
 refine brD (λhlt=>?_) λ_=>dn hI
 refine bd ik λj hj=>bd (la (by omega)) λv hv=>bd (Zpq ps v (by omega)) λy hy=>bd (la (by rw[List.length_set]; omega)) λz hz=>brD (λ_=>dn (by simp)) λ_=>bd wr λk hk=>?_
 exact nx (by dsimp only; rw[List.length_set]; exact hI)
theorem L153x2 (ps:List Int) (l:List Z6) (hp:ps.length≤20000) (hl:∀ i∈l,TkI i) (hn:l.length≤20000):Ok (Z7 (Z6p ps) Z8 (0,l)) (λq=>match q with|.inl r=>(∀ i∈r,TkI i)∧r.length=l.length|.inr y=>y.2≠0):=by
 refine lp (λt=>t.1) l.length (λt=>(∀ i∈t.2,TkI i)∧t.2.length=l.length) (λt hI h0 h1=>?_) (by omega) ⟨hl,rfl⟩
 obtain⟨hI1,hI2⟩:=hI
 unfold Z6p
 refine brD (λhlt=>?_) λ_=>dn ⟨hI1,hI2⟩
 refine bd ik λj hj=>bd (la (by omega)) λv hv=>?_
 rw[Zp6]
 refine bs (br! (λ_=>bd wr λk hk=>nx ⟨hI1,hI2⟩) λ_=>?_)
 have hi:=hI1 v hv.2
 refine bd (Zpq ps _ (by omega)) λy hy=>brD (λ_=>dn (by simp)) λ_=>bd (L153x3 ps v.Zh hp hi.2.1) λq hq=>?_
 cases q with
 | inr y=>exact dn hq
 | inl r=>
  refine bd wr λk hk=>nx ⟨λi hi'=>?_,by dsimp only; rw[List.length_set]; exact hI2⟩
  rcases List.mem_or_eq_of_mem_set hi' with h|rfl
  ·exact hI1 i h
  ·exact⟨hi.1,by have:=hi.2.1; dsimp only at *; omega,hi.2.2.1,hi.2.2.2⟩
theorem dec_ok (s:List UInt8):Ok (Z3b s) (λr=>r.2=0→(∀ i∈r.1,TkI i)∧r.1.length≤20000):=by
 unfold Z3b
 refine brD (λ_=>ok (by simp)) λhs=>bd (L153x1 s (by omega)) λq hq=>?_
 cases q with
 | inr y=>exact ok λh=>absurd h hq
 | inl q=>
  obtain⟨h1,h2,h3⟩:=hq
  refine brD (λ_=>ok (by simp)) λ_=>bd (L153x2 q.2 q.1 h3 h1 h2) λq7 hq7=>?_
  cases q7 with
  | inr y=>exact ok λh=>absurd h hq7
  | inl l=>
   obtain⟨k1,k2⟩:=hq7
   refine bd (P:=λq:Unit⊕(List Z6×Int)=>match q with|.inl _=>True|.inr y=>y.2≠0) (li l.length (λt h0 h1=>?_) (by omega) (by omega) (by omega)) λq9 hq9=>?_
   ·unfold Zac
    exact brD (λ_=>bd ik λj hj=>bd (la (by omega)) λv hv=>bd (Z7s v (k1 v hv.2).w) λe _=>brN (λh=>di h) λ_=>bd wr λ_ _=>ni (by omega) (by omega)) λ_=>di trivial
   ·cases q9 with
    | inl _=>exact ok λ_=>⟨k1,by dsimp only; omega⟩
    | inr y=>exact ok λh=>absurd h hq9
end Go.Proofs
namespace Go.Proofs
open Go.Den Go.Tot
theorem runeLen (n:Int):(Zks n).length≤4:=by
 unfold Zks Utf8.encode
 dsimp only
 repeat' split
 all_goals simp[ByteArray.push]
theorem Zau (y:Y8) (ht:Str y.Ze):Ok (Z4l y) (λb=>b=true→0≤y.Xh∧y.Xh≤8∧y.Ze.length≤64):=by
 unfold Z4l
 repeat' first
  | unfold Zk4
  | unfold Zj8
  | unfold Zj0
  | with_reducible refine brD (λ_=>?_) λ_=>?_
  | with_reducible refine br (λ_=>?_) λ_=>?_
  | with_reducible refine bd (Zeq _ (by first|assumption|omega|exact And.left (by assumption)|(dsimp only; omega))) λ_ _=>?_
  | with_reducible refine ok ?_
  | ((intro hb; first|(cases hb; done)|exact⟨by omega,by omega,by simp_all⟩))
theorem L136x1 (y:Y8) (h0:0≤y.Xh) (h8:y.Xh≤8):Ok (Z7 (Zbs y) Z8 ([],0)) (λr=>r.length≤8):=by
 refine lp (λs=>s.2) (y.Xh) (λs=>(s.1.length:Int)=s.2) (λt hI _ _=>?_) (by omega) (by simp) (by omega) (by omega)
 try dsimp only at*
 unfold Zbs
 repeat' first
  | with_reducible refine nx ?_ ?_ ?_
  | with_reducible refine dn ?_
  | with_reducible refine brD (λ_=>?_) λ_=>?_
  | with_reducible refine bd wr λ_ _=>?_
  | with_reducible refine bd (ct (by first|omega|(simp only[List.length_cons,List.length_nil]; omega))) λ_ _=>?_
  | ((simp only[*,List.length_append,List.length_cons,List.length_nil]; omega))
  | omega
theorem Zx5 (y:Y8) (ht:Str y.Ze):Ok (Z93 y) (λr=>r.1.length≤100):=by
 have:=runeLen (IntKind.wrap .i32 y.X0)
 unfold Z93
 repeat' first
  | with_reducible refine bd (Zau _ ht) λ_ hv=>?_
  | with_reducible refine br! (λ_=>?_) λhb=>?_
  | with_reducible refine bd (L136x1 _ (hv hb).1 (hv hb).2.1) λ_ _=>?_
  | with_reducible refine brE (λ_=>?_) λ_=>?_
  | with_reducible refine bd (ct (by have:=(hv hb).2.2; first|omega|(simp only[List.length_cons,List.length_nil]; omega))) λ_ _=>?_
  | with_reducible refine bs ?_
  | with_reducible refine ok ?_
  | (first|(simp; done)|(dsimp only; have:=(hv hb).2.2; simp only[List.length_cons,List.length_nil] at *; omega))
  | (dsimp only; omega)
theorem L106x1 (p:List Z3) (e:Int) (l:List Zp) (hp:Ym p) (hl:∀ v∈l,Str v.Zv.Ze) (hn:l.length*56≤140737488355328):Ok (Z7 (Z9a l) Z8 (0,p,e,([]:List Zp))) (λq=>Ym q.1∧(∀ v∈q.2.2,Str v.Zv.Ze)∧q.2.2.length=l.length):=by
 refine lp (λt=>t.1) (l.length) (λt=>Ym t.2.1∧(∀ v∈t.2.2.2,Str v.Zv.Ze)∧(t.2.2.2.length:Int)=t.1) (λt hI _ _=>?_) (by omega) (by exact⟨hp,Wm,rfl⟩) (by omega) (by omega)
 try dsimp only at*
 unfold Z9a
 obtain⟨hI1,hI2,hI3⟩:=hI
 repeat' first
  | with_reducible refine nx ?_ ?_ ?_
  | with_reducible refine dn ?_
  | unfold Z6k
  | unfold Z1b
  | with_reducible refine brD (λ_=>?_) λ_=>?_
  | with_reducible refine brE (λ_=>?_) λ_=>?_
  | with_reducible refine bd gr λ_ _=>?_
  | with_reducible refine bd wr λ_ _=>?_
  | with_reducible refine bd gk λ_ _=>?_
  | with_reducible refine bd (Zx5 _ (by exact hl _ (by assumption))) λ_ _=>?_
  | with_reducible refine bd (Kg _ _ (by first|assumption|omega) (by first|assumption|omega)) λ_ _=>?_
  | (first|exact Lm hI2 (by first|exact hl _ (by assumption)|exact Nat.zero_le _))
  | with_reducible refine And.intro ?_ ?_
  | (simp only[List.length_set,List.length_append,List.length_cons,List.length_nil,List.length_replicate]; omega)
theorem Ztb (x:Y5) (l:List Zp) (hp:Ym x.f_P) (hl:∀ v∈l,Str v.Zv.Ze) (hn:l.length*56≤140737488355328):Ok (Z5h x l) (λr=>Ym r.1.f_P∧(∀ v∈r.2,Str v.Zv.Ze)∧r.2.length=l.length):=by
 unfold Z5h
 repeat' first
  | with_reducible refine bd (L106x1 _ _ _ (by first|assumption|omega|exact And.left (by assumption)|(dsimp only; omega)) (by first|assumption|omega|exact And.left (by assumption)|(dsimp only; omega)) (by first|assumption|omega|exact And.left (by assumption)|(dsimp only; omega))) λ_ _=>?_
  | with_reducible refine ok ?_
  | assumption
  | (obtain⟨_,_⟩:=‹_∧_›)
theorem L78x1 (p:List Z3) (e:Int) (c:Zi) (hp:Ym p) (hc:Wz c):Ok (Z7 (Zc4 c) Z8 (0,p,e,([]:List Z6))) (λq=>Ym q.1∧(∀ v∈q.2.2,Qk v)∧q.2.2.length=c.Y3.length):=by
 have:=hc.insL
 refine lp (λt=>t.1) (c.Y3.length) (λt=>Ym t.2.1∧(∀ v∈t.2.2.2,Qk v)∧(t.2.2.2.length:Int)=t.1) (λt hI _ _=>?_) (by omega) (by exact⟨hp,Wm,rfl⟩) (by omega) (by omega)
 try dsimp only at*
 unfold Zc4
 obtain⟨hI1,hI2,hI3⟩:=hI
 repeat' first
  | with_reducible refine nx ?_ ?_ ?_
  | with_reducible refine dn ?_
  | with_reducible refine brD (λ_=>?_) λ_=>?_
  | with_reducible refine bd gr λ_ _=>?_
  | with_reducible refine bd wr λ_ _=>?_
  | with_reducible refine bd gk λ_ _=>?_
  | with_reducible refine bd (Zzk _ _ (by first|assumption|exact hc.ins _ (by assumption)) (by first|assumption|exact hc.ins _ (by assumption))) λ_ _=>?_
  | (exact Lm hI2 (And.right (by assumption)))
  | with_reducible refine And.intro ?_ ?_
  | (simp only[List.length_set,List.length_append,List.length_cons,List.length_nil,List.length_replicate]; omega)
  | (obtain⟨_,_⟩:=‹_∧_›)
theorem L78x2 (p:List Z3) (e:Int) (c:Zi) (hp:Ym p) (hc:Wz c):Ok (Z7 (Ze7 c) Z8 (0,p,e,([]:List Zt))) (λq=>Ym q.1∧(∀ v∈q.2.2,v.Zv=[])∧q.2.2.length=c.Xo.length):=by
 have:=hc.hndL
 refine lp (λt=>t.1) (c.Xo.length) (λt=>Ym t.2.1∧(∀ v∈t.2.2.2,v.Zv=[])∧(t.2.2.2.length:Int)=t.1) (λt hI _ _=>?_) (by omega) (by exact⟨hp,Wm,rfl⟩) (by omega) (by omega)
 try dsimp only at*
 unfold Ze7
 obtain⟨hI1,hI2,hI3⟩:=hI
 repeat' first
  | with_reducible refine nx ?_ ?_ ?_
  | with_reducible refine dn ?_
  | unfold Zde
  | with_reducible refine brD (λ_=>?_) λ_=>?_
  | with_reducible refine br! (λ_=>?_) λ_=>?_
  | with_reducible refine bd gr λ_ _=>?_
  | with_reducible refine bd wr λ_ _=>?_
  | with_reducible refine bd gk λ_ _=>?_
  | with_reducible refine bd (Z7c _ _ (by first|assumption|exact hc.hnd _ (by assumption)) (by first|assumption|exact hc.hnd _ (by assumption))) λ_ _=>?_
  | (exact Lm hI2 rfl)
  | with_reducible refine And.intro ?_ ?_
  | (simp only[List.length_set,List.length_append,List.length_cons,List.length_nil,List.length_replicate]; omega)
theorem Kj.of {m:Zx} (h:Kj m.Yy) {l k:List Zp} {b:Bool} (h1:∀ v∈l,Str v.Zv.Ze) (h2:l.length=m.Yy.Zs.length) (h3:∀ v∈k,Str v.Zv.Ze) (h4:k.length=m.Yy.Zw.length):
  Kj { Zs:=l,Zw:=k,Uc:=b }:=⟨h1,by have:=h.locL; dsimp only; omega,h3,by have:=h.stkL; dsimp only; omega⟩
theorem L78x3 (p:List Z3) (e:Int) (c:Zi) (hp:Ym p) (hc:Wz c):Ok (Z7 (Zff c) Z8 (0,p,e,([]:List Zx))) (λq=>Ym q.1∧(∀ v∈q.2.2,Kj v.Yy)∧q.2.2.length=c.Yz.length):=by
 have:=hc.mapL
 refine lp (λt=>t.1) (c.Yz.length) (λt=>Ym t.2.1∧(∀ v∈t.2.2.2,Kj v.Yy)∧(t.2.2.2.length:Int)=t.1) (λt hI _ _=>?_) (by omega) ⟨hp,Wm,rfl⟩ (by omega) (by omega)
 obtain⟨hI1,hI2,hI3⟩:=hI
 unfold Zff
 refine brD (λhlt=>?_) λ_=>dn ⟨hI1,hI2,by dsimp only; omega⟩
 obtain⟨y,hy,hm⟩:=gr (l:=c.Yz) (i:=t.1) (by omega) hlt
 simp only[hy]
 refine bs (bs (bd (Ztb _ _ hI1 (hc.map _ hm).loc (hc.map _ hm).locL) λv1 h1=>bd (Ztb _ _ h1.1 (hc.map _ hm).stk (hc.map _ hm).stkL) λv2 h2=>?_))
 refine bd gk λ_ _=>bd wr λ_ _=>?_
 exact nx ⟨h2.1,Lm hI2 ((hc.map _ hm).of h1.2.1 h1.2.2 h2.2.1 h2.2.2),by simp only[List.length_append,List.length_cons,List.length_nil]; omega⟩
theorem Y06 (x:Y5) (c:Zi) (hp:Ym x.f_P) (hc:Wz c):Ok (Zby x c) (λr=>Ym r.1.f_P∧Wz r.2):=by
 unfold Zby
 refine bd (L78x1 _ _ _ hp hc) λq0 h0=>bd (L78x2 _ _ _ h0.1 hc) λq2 h2=>bd (L78x3 _ _ _ h2.1 hc) λq4 h4=>ok ⟨h4.1,h0.2.1,?_,λv hv=>?_,?_,h4.2.1,?_,hc.linL⟩
 ·have:=hc.insL; have:=h0.2.2; dsimp only; omega
 ·rw[h2.2.1 v hv]; simp
 ·have:=hc.hndL; have:=h2.2.2; dsimp only; omega
 ·have:=hc.mapL; have:=h4.2.2; dsimp only; omega
theorem L58x2 (p:List Z3) (e:Int) (m:Xy) (hp:Ym p) (hm:K8 m):Ok (Z7 (Zb0 m) Z8 (0,p,e,([]:List Int))) (λq=>Ym q.1∧q.2.2.length≤140737488355328):=by
 have:=hm.excL
 refine lp (λt=>t.1) (m.U8.length) (λt=>Ym t.2.1∧(t.2.2.2.length:Int)=t.1) (λt hI _ _=>?_) (by omega) (by exact⟨hp,rfl⟩) (by omega) (by omega)
 try dsimp only at*
 unfold Zb0
 obtain⟨hI1,hI3⟩:=hI
 repeat' first
  | with_reducible refine nx ?_ ?_ ?_
  | with_reducible refine dn ?_
  | with_reducible refine brD (λ_=>?_) λ_=>?_
  | with_reducible refine bd gr λ_ _=>?_
  | with_reducible refine bd wr λ_ _=>?_
  | with_reducible refine bd gk λ_ _=>?_
  | with_reducible refine bd (Z7c _ _ (by first|assumption|exact hm.exc _ (by assumption)) (by first|assumption|exact hm.exc _ (by assumption))) λ_ _=>?_
  | with_reducible refine And.intro ?_ ?_
  | (simp only[List.length_set,List.length_append,List.length_cons,List.length_nil,List.length_replicate]; omega)
structure Z4j (n:Int) (ms:List Zr) (cs:List Zi) (ts:List (List Int)) (ns:List Xs):Prop where
 m:(ms.length:Int)=n
 c:(cs.length:Int)=n
 t:(ts.length:Int)=n
 s:(ns.length:Int)=n
 code:∀ v∈cs,Wz v
 att:∀ m∈ms,m.Xd=[]
 thr:∀ l∈ts,l.length≤140737488355328
theorem Z4j.snoc {n k:Int} {ms:List Zr} {cs:List Zi} {ts:List (List Int)} {ns:List Xs} (h:Z4j n ms cs ts ns) {m:Zr} {c:Zi} {l:List Int} {s:Xs} (ha:m.Xd=[]) (hc:Wz c) (hl:l.length≤140737488355328) (hk:k=n+1):
  Z4j k (ms++[m]) (cs++[c]) (ts++[l]) (ns++[s]):=by
 obtain⟨h1,h2,h3,h4,h5,h6,h7⟩:=h
 refine⟨?_,?_,?_,?_,Lm h5 hc,Lm h6 ha,Lm h7 hl⟩ <;> simp only[List.length_append,List.length_cons,List.length_nil] <;> omega
theorem WCode0:Wz { Zw:=0,Zs:=0,Y3:=[],Xo:=[],Yz:=[],X9:=[] }:=⟨Wm,by simp,Wm,by simp,Wm,by simp,by simp⟩
abbrev S58:=Int×(List Z3)×Int×(List Zr)×(List Zi)×(List (List Int))×(List Xs)
def I58 (t:S58):Prop:=Ym t.2.1∧Z4j t.1 t.2.2.2.1 t.2.2.2.2.1 t.2.2.2.2.2.1 t.2.2.2.2.2.2
def Q58 (n:Int) (q:(List Z3)×Int×(List Zr)×(List Zi)×(List (List Int))×(List Xs)):Prop:=Ym q.1∧Z4j n q.2.2.1 q.2.2.2.1 q.2.2.2.2.1 q.2.2.2.2.2
theorem K58x2 {n:Int} {p26 p27 p28:Int} {p29:List Z6} {p30:List Zt} {p31:List Zx} {p32:List Yd} {t0:S58} {v34:Xy} {v35 v36:Y5×Int} {p33:List Z3} {p34 p35:Int}
  (hI:I58 t0) (hp:Ym p33) (hm:K8 v34) (hc:Wz { Zw:=p27,Zs:=p28,Y3:=p29,Xo:=p30,Yz:=p31,X9:=p32 }) (h0:0≤t0.1) (h1:t0.1<n) (hn:n*184≤140737488355328):
  Ok (Z8l p26 p27 p28 p29 p30 p31 p32 t0 v34 v35 v36 p33 p34 p35) (St I58 (λt=>t.1) n (Q58 n) t0):=by
 unfold Z8l
 have:=hI.2.m; have:=hI.2.c; have:=hI.2.t; have:=hI.2.s
 refine bd (L58x2 _ _ _ hp hm) λq4 h4=>?_
 refine bd gk λ_ _=>?_
 refine bd gk λ_ _=>?_
 refine bd gk λ_ _=>?_
 refine bd gk λ_ _=>?_
 refine bd wr λ_ hv=>?_
 exact nx ⟨h4.1,hI.2.snoc rfl hc h4.2 hv⟩
theorem K58x1 {n:Int} {t0:S58} {v34:Xy} {v35 v36:Y5×Int} {p24:List Z3} {p25 p26 p27 p28:Int} {p29:List Z6} {p30:List Zt} {p31:List Zx} {p32:List Yd}
  (hI:I58 t0) (hp:Ym p24) (hm:K8 v34) (hc:Wz { Zw:=p27,Zs:=p28,Y3:=p29,Xo:=p30,Yz:=p31,X9:=p32 }) (h0:0≤t0.1) (h1:t0.1<n) (hn:n*184≤140737488355328):
  Ok (Z6i t0 v34 v35 v36 p24 p25 p26 p27 p28 p29 p30 p31 p32) (St I58 (λt=>t.1) n (Q58 n) t0):=by
 unfold Z6i
 exact brD (λ_=>bd (Kg _ _ hp (by simp)) λv hv=>K58x2 hI hv hm hc h0 h1 hn) λ_=>K58x2 hI hp hm hc h0 h1 hn
theorem L58x1 (p : List Z3) (e : Int) (u : Zu) (hp : Ym p) (hu:U4 u):Ok (Z7 (Zbk u) Z8 (0,p,e,[],[],[],[])) (Q58 u.Yo.length):=by
 have:=hu.metL
 refine lp (λt=>t.1) (u.Yo.length) I58 (λt hI h0 h1=>?_) (by omega) ⟨hp,rfl,rfl,rfl,rfl,Wm,Wm,Wm⟩ (by omega) (by omega)
 unfold Zbk
 refine brD (fun hlt => ?_) fun hge => dn ⟨hI.1, by have:t.1=u.Yo.length:=by omega
                                                    rw[← this]; exact hI.2⟩
 refine bd gr λm hm=>bd (Kg _ _ hI.1 (hu.met _ hm).n) λv1 h1=>bd (Kg _ _ h1 (hu.met _ hm).d) λv2 h2=>br (λ_=>?_) λ_=>?_
 ·exact bd (Kg _ _ h2 (by simp)) λv3 h3=>bd (Y06 _ _ h3 (hu.met _ hm).code) λv4 h4=>K58x1 hI h4.1 (hu.met _ hm) h4.2 h0 hlt (by omega)
 ·exact K58x1 hI h2 (hu.met _ hm) WCode0 h0 hlt (by omega)
structure Z4o (u:Zu) (h:Qd):Prop where
 pool:Ym h.f_F.Q3
 fam:Z4j u.Yo.length h.f_F.Yo h.Z3i h.Z2q h.Z0a
 ifsL:h.f_F.Ya.length=u.Ya.length
 fldL:h.f_F.Yl.length=u.Yl.length
 fld:∀ m∈h.f_F.Yl,m.Xd.length≤1∧∀ a∈m.Xd,Str a.Q8
 attL:h.f_F.Xd.length≤1
 att:∀ a∈h.f_F.Xd,Str a.Q8
theorem L48x1 (p:List Z3) (e:Int) (u:Zu) (hp:Ym p) (hu:U4 u):Ok (Z7 (Zdy u) Z8 (0,p,e,([]:List Int))) (λq=>Ym q.1∧q.2.2.length=u.Ya.length):=by
 have:=hu.ifsL
 refine lp (λt=>t.1) (u.Ya.length) (λt=>Ym t.2.1∧(t.2.2.2.length:Int)=t.1) (λt hI h0 h1=>?_) (by omega) ⟨hp,rfl⟩ (by omega) (by omega)
 obtain⟨hI1,hI3⟩:=hI
 unfold Zdy
 refine brD (λhlt=>?_) λhge=>dn ⟨hI1,by dsimp only; omega⟩
 refine bd gr λs hs=>bd (Z7c _ _ hI1 (hu.ifs _ hs)) λv1 h1=>?_
 refine bd gk λ_ _=>bd wr λ_ hv=>?_
 exact nx ⟨h1,by simp only[List.length_append,List.length_cons,List.length_nil]; omega⟩
def MAt (m:Zr):Prop:=m.Xd.length≤1∧∀ a∈m.Xd,Str a.Q8
abbrev S48:=Int×(List Z3)×Int×(List Zr)
def I48 (t:S48):Prop:=Ym t.2.1∧(t.2.2.2.length:Int)=t.1∧∀ m∈t.2.2.2,MAt m
theorem K48x2 {u:Zu} (hu:U4 u) {t1:S48} {v26:X6} {v27 v28:Y5×Int} {p9:List Z3} {p10:Int} {p11:List Yv} (hI:I48 t1) (hp:Ym p9) (ha:p11.length≤1∧∀ a∈p11,Str a.Q8) (h0:0≤t1.1) (h1:t1.1<u.Yl.length):
  Ok (Z8t t1 v26 v27 v28 p9 p10 p11) (St I48 (λt=>t.1) u.Yl.length (λq=>Ym q.1∧q.2.2.length=u.Yl.length∧∀ m∈q.2.2,MAt m) t1):=by
 have:=hu.fldL
 obtain⟨hI1,hI2,hI3⟩:=hI
 unfold Z8t
 refine bd gk λ_ _=>bd wr λ_ hv=>?_
 exact nx ⟨hp,by simp only[List.length_append,List.length_cons,List.length_nil]; omega,Lm hI3 ha⟩
theorem L48x2 (p:List Z3) (e:Int) (u:Zu) (hp:Ym p) (hu:U4 u):Ok (Z7 (Zcy u) Z8 (0,p,e,([]:List Zr))) (λq=>Ym q.1∧q.2.2.length=u.Yl.length∧∀ m∈q.2.2,MAt m):=by
 have:=hu.fldL
 refine lp (λt=>t.1) (u.Yl.length) I48 (λt hI h0 h1=>?_) (by omega) ⟨hp,rfl,Wm⟩ (by omega) (by omega)
 unfold Zcy
 refine brD (λhlt=>?_) λhge=>dn ⟨hI.1,by have:=hI.2.1; dsimp only; omega,hI.2.2⟩
 refine bd gr λf hf=>bd (Kg _ _ hI.1 (hu.fld _ hf).n) λv1 h1=>bd (Kg _ _ h1 (hu.fld _ hf).d) λv2 h2=>brN (λ_=>?_) λ_=>?_
 ·exact bd (Kg _ _ h2 (by simp)) λv3 h3=>bd (Zys _ _ h3 (hu.fld _ hf)) λv4 h4=>bd (Zqe _) λv5 h5=>K48x2 hu hI h4 ⟨by simp,λa ha=>by rw[List.mem_singleton.1 ha]; show v5.length≤_; omega⟩ h0 hlt
 ·exact K48x2 hu hI h2 ⟨by simp,Wm⟩ h0 hlt
theorem Zz5 (x:Y5) (u:Zu) (h:Qd) (hp:Ym x.f_P) (hu:U4 u) (hi:h.f_F.Ya.length=u.Ya.length) (hf:h.f_F.Yl.length=u.Yl.length) (hm:∀ m∈h.f_F.Yl,MAt m):
  Ok (Zay x u h) (λr=>Ym r.1.f_P∧Z4o u r.2):=by
 unfold Zay
 exact bd (L58x1 _ _ _ hp hu) λq hq=>ok ⟨hq.1,Ym.nil,hq.2,hi,hf,hm,by simp,Wm⟩
theorem K48x3 {u:Zu} {v34:Y5×Qd} (hw:Z4o u v34.2) {p12:List Z3} {p13:Int} {p14:List Yv} (hp:Ym p12) (ha:p14.length≤1∧∀ a∈p14,Str a.Q8):Ok (Z7x v34 p12 p13 p14) (λr=>Ym r.1.f_P∧Z4o u r.2):=by
 unfold Z7x
 exact ok ⟨hp,hp,hw.fam,hw.ifsL,hw.fldL,hw.fld,ha.1,ha.2⟩
theorem K48x1 {u:Zu} (hu:U4 u) {v0:Y5×Int} {p0:List Z3} {p1 p2:Int} (hp:Ym p0):Ok (Z6g v0 u p0 p1 p2) (λr=>Ym r.1.f_P∧Z4o u r.2):=by
 unfold Z6g
 refine bd (L48x1 _ _ _ hp hu) λq0 h0=>bd (L48x2 _ _ _ h0.1 hu) λq2 h2=>bd (Zz5 _ _ _ h2.1 hu ?_ ?_ h2.2.2) λv34 hv=>br (λ_=>?_) λ_=>K48x3 hv.2 hv.1 ⟨hv.2.attL,hv.2.att⟩
 ·exact h0.2
 ·exact h2.2.1
 ·exact bd (Kg _ _ hv.1 (by simp)) λv1 h1=>bd (Kg _ _ h1 hu.src) λv2 h2=>bd (Zqe _) λv5 h5=>K48x3 hv.2 h2 ⟨by simp,λa ha=>by rw[List.mem_singleton.1 ha]; show v5.length≤_; omega⟩
theorem Zx6 (x:Y5) (u:Zu) (hp:Ym x.f_P) (hu:U4 u):Ok (Za6 x u) (λr=>Z4o u r.2):=by
 unfold Za6
 refine(bd (Z7c _ _ hp hu.n) λv0 h0=>br (λ_=>bd (Z7c _ _ h0 hu.sup) λv1 h1=>K48x1 hu h1) λ_=>K48x1 hu h0:Ok _ (λr:Y5×Qd=>Ym r.1.f_P∧Z4o u r.2)).mono λr hr=>hr.2
end Go.Proofs
namespace Go.Proofs
open Go.Den Go.Tot
theorem Zjv (s:List UInt8) (a:Int) (hs:Str s) (h0:0≤a) (h1:a≤s.length):Ok (Z0x s a) (λr=>r.2= -1∨(a<r.2∧r.2≤s.length)):=by
 unfold Z0x
 refine bd (P:=λq:Int×Int=>a≤q.2∧q.2≤(s.length:Int)∧0≤q.1∧q.1≤4503599627370496) (lp (λt=>t.1) s.length (λt=>0≤t.2∧t.2≤t.1∧a≤t.1) (λt hI g0 g1=>?_) (by omega) ⟨by omega,h0,by omega⟩ h0 h1) λq hq=>?_
 ·unfold Zc2 Zb1
  refine brD (λhlt=>bd gs λ_ _=>brE (λ_=>bd wr λ_ _=>bd wr λ_ _=>nx ?_ ?_ ?_) λ_=>dn ?_) λ_=>dn ?_ <;> dsimp only <;> omega
 ·obtain⟨q1,q2⟩:=q
  dsimp only at hq ⊢
  have j2:∀ (v:Int) (p0:List UInt8) (p1:Int),Str p0→a<p1→p1≤s.length→Ok (Z1s (q1,q2) v p0 p1) (λr=>r.2= -1∨(a<r.2∧r.2≤s.length)):=λv p0 p1 g1 g2 g3=>by
   unfold Z1s
   exact bd (Zau _ g1) λb _=>br! (λ_=>ok (.inl rfl)) λ_=>ok (.inr ⟨g2,g3⟩)
  refine brD (λ_=>ok (.inl rfl)) λ_=>bd gs λv5 _=>bd wr λv6 h6=>brE (λ_=>?_) λ_=>j2 _ _ _ (by simp) (by omega) (by omega)
  refine bd (P:=λq:Int=>v6≤q∧q≤(s.length:Int)) (lp (λt=>t) s.length (λt=>v6≤t) (λt hI g0 g1=>?_) (by omega) (by omega) (by omega) (by omega)) λq hq2=>?_
  ·unfold Zc0
   exact brD (λhlt=>bd gs λ_ _=>brN (λ_=>bd wr λ_ _=>nx (by omega) (by omega) (by omega)) λ_=>dn ⟨by omega,by omega⟩) λ_=>dn ⟨by omega,by omega⟩
  ·exact brD (λ_=>ok (.inl rfl)) λ_=>bd (sb (by omega) (by omega) (by omega)) λv11 h11=>bd wr λv12 h12=>j2 _ _ _ (by have:=h11.1; unfold Str at *; omega) (by omega) (by omega)
theorem Z7j (s:List UInt8) (hs:Str s):Ok (K4 s) (λ_=>True):=by
 unfold K4
 exact bd (Zjv s 0 hs (by omega) (by omega)) λv _=>brN (λ_=>ok trivial) λ_=>ok trivial
theorem Zum {s:List UInt8} (h:(s==([]:List UInt8))=false):0<s.length:=by
 cases s with
 | nil=>simp at h
 | cons a r=>simp
theorem Zz3 (s:List UInt8) (hs:Str s):Ok (Zcs s) (λ_=>True):=by
 unfold Zcs Zj5
 exact bd (Zeq s hs) λb _=>br (λ_=>ok trivial) λ_=>br (λ_=>ok trivial) λh=>by
  have:=Zum h
  exact bd gs λv _=>brN (λ_=>ok trivial) λ_=>bd (Z7j s hs) λv _=>ok trivial
theorem Zi1 (s:List UInt8) (hs:Str s):Ok (Z4f s) (λb=>b=true→0<s.length):=by
 unfold Z4f
 refine br (λh=>ok λ_=>?_) λ_=>br (λh=>ok λ_=>?_) λ_=>brD (λ_=>bd (Zie s hs) λb hb=>ok λh=>?_) λ_=>ok λh=>by cases h
 ·rw[eq_of_beq h]; simp
 ·rw[eq_of_beq h]; simp
 ·exact List.length_pos_iff.2 (hb h)
theorem Zgt (s:List UInt8) (hs:s.length≤1048576):Ok (Z2u s) (λr=>r.1.Mu.length≤1048576):=by
 unfold Z2u
 refine br (λ_=>ok (by simp)) λh=>?_
 have hpos:=Zum h
 refine bd gs λv _=>brN (λ_=>ok (by simp)) λ_=>?_
 unfold Ziz
 refine bd (P:=λq:(List Y8×Int)⊕(Qt×Int)=>match q with|.inl q=>q.1.length≤1048576∧0≤q.2∧q.2≤(s.length:Int)|.inr y=>y.1.Mu=[]) (lp (λt=>t.1) s.length (λt=>(t.2.length:Int)≤t.1) (λt hI g0 g1=>?_) (by omega) (by simp)) λq hq=>?_
 ·unfold Zhr Zkv Zgz
  have hd:t.2.length≤1048576∧0≤t.1∧t.1≤s.length:=⟨by omega,g0,g1⟩
  refine brD (λhlt=>bd gs λ_ _=>brN (λ_=>?_) λ_=>dn hd) λ_=>dn hd
  refine bd (Zjv s t.1 (by unfold Str; omega) g0 g1) λr hr=>brD (λ_=>dn rfl) λhnn=>brE (λ_=>dn rfl) λ_=>?_
  have hlt2:t.1<r.2∧r.2≤s.length:=by omega
  exact bd gk λ_ _=>nx (by simp only[List.length_append,List.length_cons,List.length_nil]; omega) hlt2.1 hlt2.2
 ·cases q with
  | inr y=>exact ok (by rw[hq]; simp)
  | inl q=>
   obtain⟨h1,h2,h3⟩:=hq
   refine brD (λ_=>ok (by simp)) λ_=>bd wr λv hv=>bd (Zjv s v (by unfold Str; omega) (by omega) (by omega)) λr _=>brN (λ_=>ok (by simp)) λ_=>brD (λ_=>ok (by simp)) λ_=>ok (by dsimp only; exact h1)
theorem Y08 (s:List UInt8) (hs:s.length≤1048576):Ok (Z9s s) (λ_=>True):=by
 unfold Z9s
 exact bd (Z7j s (by unfold Str; omega)) λv _=>brE (λ_=>ok trivial) λ_=>bd (Zgt s hs) λ_ _=>ok trivial
def Ent (p:List Z3) (i:Int) (c:Z3):Prop:=∃ k:Nat,i=(k:Int)+1∧p[k]?=some c
theorem Ent.mem {p:List Z3} {i:Int} {c:Z3} (h:Ent p i c):c∈p:=by
 obtain⟨k,-,h⟩:=h
 exact List.mem_of_getElem? h
theorem Z7g (p:List Z3) (i:Int) (hp:p.length≤140737488355328):Ok (Z0o p i) (λr=>(r.2=0→Ent p i r.1)∧(r.2≠0→r.1.f_S=[])):=by
 unfold Z0o
 refine brD (λ_=>ok ⟨by simp,by simp⟩) λ_=>brD (λ_=>ok ⟨by simp,by simp⟩) λ_=>bd wr λv hv=>bd gri λc hc=>ok ⟨λ_=>⟨v.toNat,by omega,hc.2⟩,by simp⟩
theorem Zeh (p:List Z3) (i t:Int) (hp:p.length≤140737488355328):Ok (Z2d p i t) (λr=>(r.2=0→Ent p i r.1∧r.1.Xu=t)∧(r.2≠0→r.1.f_S=[])):=by
 unfold Z2d
 exact bd (Z7g p i hp) λv hv=>brN (λh=>ok ⟨λh'=>absurd h' h,λ_=>rfl⟩) λh=>brN (λ_=>ok ⟨by simp,by simp⟩) λht=>ok ⟨λ_=>⟨hv.1 h,ht⟩,by simp⟩
theorem U1 (p:List Z3) (i:Int) (hp:p.length≤140737488355328):Ok (Wf p i) (λr=>r.1=[]∨∃ c,Ent p i c∧r.1=c.f_S):=by
 unfold Wf
 refine bd (Zeh p i 1 hp) λv hv=>ok ?_
 by_cases h:v.2=0
 ·exact .inr ⟨_,(hv.1 h).1,rfl⟩
 ·exact .inl (hv.2 h)
abbrev PS (p:List Z3) (B:Nat):Prop:=∀ c∈p,c.f_S.length≤B
theorem Z34 {p:List Z3} {i:Int} {B:Nat} (h:PS p B) {s:List UInt8} (hs:s=[]∨∃ c,Ent p i c∧s=c.f_S):s.length≤B:=by
 rcases hs with rfl|⟨c,hc,rfl⟩
 ·simp
 ·exact h c hc.mem
theorem Zl6 (p:List Z3) (i:Int) {B:Nat} (hp:p.length≤140737488355328) (h:PS p B):Ok (Z3p p i) (λr=>r.1.length≤B):=by
 unfold Z3p
 exact bd (Zeh p i 7 hp) λv hv=>brN (λ_=>ok (by simp)) λ_=>bd (U1 p _ hp) λr hr=>ok (Z34 h hr)
theorem Z6q (t:Int):Ok (Z19 t) (λ_=>True):=by
 unfold Z19
 exact br (λ_=>ok trivial) λ_=>br (λ_=>ok trivial) λ_=>ok trivial
theorem Zvh (p:List Z3) (i:Int) (hp:p.length≤140737488355328):Ok (Z8d p i) (λr=>(r.1=[]∨∃ c,c∈p∧r.1=c.f_S)∧(r.2.1=[]∨∃ c d,Ent p i c∧Ent p c.f_B d∧r.2.1=d.f_S)):=by
 unfold Z8d
 refine bd (Zeh p i 12 hp) λv hv=>brN (λ_=>ok ⟨.inl rfl,.inl rfl⟩) λh=>bd (U1 p _ hp) λa ha=>brN (λ_=>ok ⟨.inl rfl,.inl rfl⟩) λ_=>bd (U1 p _ hp) λb hb=>brN (λ_=>ok ⟨.inl rfl,.inl rfl⟩) λ_=>ok ⟨?_,?_⟩
 ·rcases ha with h1|⟨c,hc,h1⟩
  ·exact .inl h1
  ·exact .inr ⟨c,hc.mem,h1⟩
 ·rcases hb with h1|⟨c,hc,h1⟩
  ·exact .inl h1
  ·exact .inr ⟨_,c,(hv.1 h).1,hc,h1⟩
theorem Zxz (p:List Z3) (i t:Int) {B:Nat} (hp:p.length≤140737488355328) (h:PS p B):Ok (Zdc p i t) (λ_=>True):=by
 unfold Zdc Zjj
 exact bd (Z7g p i hp) λv hv=>brN (λ_=>ok trivial) λ_=>bd (Z6q t) λb _=>br! (λ_=>ok trivial) λ_=>brN (λ_=>ok trivial) λ_=>bd (Zl6 p _ hp h) λr _=>brN (λ_=>ok trivial) λ_=>bd (Zvh p _ hp) λr _=>brN (λ_=>ok trivial) λ_=>ok trivial
theorem Zze (t:Int):Ok (Ze9 t) (λ_=>True):=by
 unfold Ze9
 repeat' first
  | exact ok trivial
  | with_reducible refine br (λ_=>?_) λ_=>?_
  | exact bd (Z6q t) λ_ _=>ok trivial
theorem Y0e (c:Z3):Ok (Zam c) (λb=>b=true→c.Xu≠1→c.f_S=[]):=by
 have h2:(c.Xu≠1→c.f_S=[])→∀ p,Ok (Z86 c p) (λb=>b=true→c.Xu≠1→c.f_S=[]):=λh p=>by
  unfold Z86
  repeat' first
   | exact ok λ_=>h
   | with_reducible refine br (λ_=>?_) λ_=>?_
 have h1:(c.Xu≠1→c.f_S=[])→Ok (Mp c) (λb=>b=true→c.Xu≠1→c.f_S=[]):=λh=>by
  unfold Mp
  exact br (λ_=>h2 h _) λ_=>bd (Z6q _) λ_ _=>h2 h _
 unfold Zam
 refine brN (λ_=>br! (λ_=>ok λh=>by cases h) λhe=>?_) λh1'=>?_
 ·have hS:c.f_S=[] :=by simpa using he
  repeat' first
   | exact h1 λ_=>hS
   | exact ok λh=>by cases h
   | with_reducible refine brN (λ_=>?_) λ_=>?_
 ·repeat' first
   | exact h1 λh=>absurd h1' h
   | exact ok λh=>by cases h
   | with_reducible refine brN (λ_=>?_) λ_=>?_
theorem Zz0 (p:List Z3) (c:Z3) (hp:p.length≤140737488355328):Ok (Za9 p c) (λ_=>True):=by
 have hr:∀ i t,Ok (Z98 p i t) (λ_=>True):=λi t=>bd (Zeh p i t hp) λ_ _=>ok trivial
 have h1:∀ a b,Ok (Z5z p c a b) (λ_=>True):=λa b=>by
  unfold Z5z Zjm
  exact bd (hr _ _) λv _=>brN (λ_=>ok trivial) λ_=>br (λ_=>ok trivial) λ_=>br (λ_=>ok trivial) λ_=>bd (hr _ _) λ_ _=>ok trivial
 unfold Za9
 exact bd (Z6q _) λb _=>br (λ_=>h1 _ _) λ_=>h1 _ _
theorem Y03 (t:Int) (a b:List UInt8) (hb:b.length≤1048576):Ok (Zf1 t a b) (λ_=>True):=by
 unfold Zf1
 refine bd (Zgt b hb) λv _=>?_
 repeat' first
  | exact ok trivial
  | with_reducible refine brD (λ_=>?_) λ_=>?_
  | with_reducible refine br (λ_=>?_) λ_=>?_
  | with_reducible refine bd gs λ_ _=>?_
theorem Zyq (p:List Z3) (hp:Ym p) (k:Nat) (c:Z3) (hc:p[k]?=some c) (hG:∀ (j:Nat) d,j<k→p[j]?=some d→d.f_S.length≤1024):Ok (Zcx p c) (λe=>e=0→c.f_S.length≤1024):=by
 have hl:p.length≤140737488355328:=by have:=hp.len; omega
 have ho:=hp.ord k c hc
 have hu:∀ i:Int,i≤k→∀ s:List UInt8,(s=[]∨∃ d,Ent p i d∧s=d.f_S)→s.length≤1024:=λi hi s hs=>by
  rcases hs with rfl|⟨d,⟨j,h1,h2⟩,rfl⟩
  ·simp
  ·exact hG j d (by omega) h2
 have h2:Ok (Z6a p c) (λ_=>True):=by
  unfold Z6a
  refine bd (Z6q _) λb _=>br (λ_=>bd (Zvh p _ hl) λr hr=>brE (λ_=>bd (Y03 _ _ _ ?_) λ_ _=>ok trivial) λ_=>ok trivial) λ_=>ok trivial
  rcases hr.2 with h|⟨d,e,h1,h2,h3⟩
  ·rw[h]; simp
  ·obtain⟨j,e1,e2⟩:=h1
   have:=hp.ord j d e2
   exact Nat.le_trans (hu d.f_B (by omega) _ (.inr ⟨e,h2,h3⟩)) (by omega)
 have h1:Ok (Z5x p c) (λ_=>True):=by
  unfold Z5x
  refine brE (λ_=>bd (U1 p _ hl) λa ha=>bd (U1 p _ hl) λb hb=>bd (Zi1 _ (by have:=hu _ ho.1 _ ha; unfold Str; omega)) λ_ _=>br! (λ_=>ok trivial) λ_=>bd (Y08 _ (by have:=hu _ ho.2 _ hb; omega)) λ_ _=>br! (λ_=>ok trivial) λ_=>h2) λ_=>h2
 have hcont:Ok (Zfv p c) (λ_=>True):=by
  unfold Zfv
  exact brE (λ_=>bd (U1 p _ hl) λa ha=>bd (Zz3 _ (by have:=hu _ ho.1 _ ha; unfold Str; omega)) λ_ _=>brN (λ_=>ok trivial) λ_=>h1) λ_=>h1
 have hj:c.f_S.length≤1024→Ok (Z21 p c) (λe=>e=0→c.f_S.length≤1024):=λhs=>by
  unfold Z21 Zlp
  refine br (λ_=>ok λ_=>hs) λ_=>br (λ_=>ok λ_=>hs) λ_=>br (λ_=>ok λ_=>hs) λ_=>bd (Zz0 p c hl) λ_ _=>brN (λ_=>ok λ_=>hs) λ_=>bd hcont λ_ _=>ok λ_=>hs
 unfold Zcx
 refine bd (Zze _) λ_ _=>br! (λ_=>ok (by simp)) λ_=>bd (Y0e c) λb hb=>br! (λ_=>ok (by simp)) λhf=>brE (λht=>brD (λ_=>ok (by simp)) λhs=>?_) λht=>?_
 ·repeat' first
   | exact hj (by omega)
   | exact ok (by simp)
   | with_reducible refine brD (λ_=>?_) λ_=>?_
   | with_reducible refine brE (λ_=>?_) λ_=>?_
 ·have hS:=hb hf ht
  repeat' first
   | exact hj (by rw[hS]; simp)
   | exact ok (by simp)
   | with_reducible refine brD (λ_=>?_) λ_=>?_
   | with_reducible refine brE (λ_=>?_) λ_=>?_
theorem Zn3 (p:List Z3) (hp:Ym p):Ok (Z6d p) (λr=>r.2=0→PS p 1024):=by
 have:=hp.len
 unfold Z6d
 refine brD (λ_=>ok (by simp)) λ_=>bd (P:=λq:Unit⊕(Int×Int)=>match q with|.inl _=>PS p 1024|.inr y=>y.2≠0) (lp (λt=>t) p.length (λt=>∀ (j:Nat) d,(j:Int)<t→p[j]?=some d→d.f_S.length≤1024) (λt hI h0 h1=>?_) (by omega) (λj v h=>by omega) (by omega) (by omega)) λq hq=>?_
 ·unfold Zh7
  refine brD (λhlt=>?_) λhge=>dn λv hv=>?_
  ·refine bd gri λc hc=>bd (Zyq p hp t.toNat c hc.2 λj d hj hd=>hI j d (by omega) hd) λe he=>brN (λh=>bd wr λ_ _=>dn h) λh=>bd wr λv2 h2=>nx (λj v hj hv=>?_) (by omega) (by omega)
   rcases Int.lt_or_le (j:Int) t with hlt|hge
   ·exact hI j v hlt hv
   ·have:j=t.toNat:=by omega
    subst this
    rw[hc.2] at hv; cases hv
    exact he h
  ·obtain⟨j,hj⟩:=List.mem_iff_getElem?.1 hv
   exact hI j v (by have:=(List.getElem?_eq_some_iff.1 hj).1; omega) hj
 ·cases q with
  | inl _=>exact ok λ_=>hq
  | inr y=>exact ok λh=>absurd h hq
end Go.Proofs
namespace Go.Proofs
open Go.Den Go.Tot
theorem Un {α R:Type} {l:List α} {P:α→Prop} {f:Int→Option (Ctl Int R)} {Q:R→Prop} (hn:l.length≤140737488355328) (h:∀ t:Int,0≤t→t<l.length→∀ v,l[t.toNat]?=some v→v∈l→Z5 l t=some v→Ok (f t) (λx=>match x with|.next t'=>t'=t+1∧P v|.done r=>Q r))
  (he:∀ t:Int,0≤t→t=(l.length:Int)→(∀ v∈l,P v)→Ok (f t) (λx=>match x with|.next _=>False|.done r=>Q r)):Ok (Z7 f Z8 0) Q:=by
 refine lp (λt=>t) l.length (λt=>∀ (j:Nat) v,(j:Int)<t→l[j]?=some v→P v) (λt hI h0 h1=>?_) (by omega) (λj v h=>by omega) (by omega) (by omega)
 rcases Int.lt_or_le t (l.length:Int) with hlt|hge
 ·obtain⟨v,hg,hm,hi⟩:=gri (l:=l) h0 hlt
  refine(h t h0 hlt v hi hm hg).mono λx hx=>?_
  cases x with
  | done r=>exact hx
  | next t'=>
   obtain⟨rfl,hP⟩:=hx
   refine⟨λj w hj hw=>?_,by dsimp only; omega,by dsimp only; omega⟩
   rcases Int.lt_or_le (j:Int) t with h'|h'
   ·exact hI j w h' hw
   ·have:j=t.toNat:=by omega
    subst this
    rw[hi] at hw; cases hw; exact hP
 ·refine(he t h0 (by omega) λv hv=>?_).mono λx hx=>?_
  ·obtain⟨j,hj⟩:=List.mem_iff_getElem?.1 hv
   exact hI j v (by have:=(List.getElem?_eq_some_iff.1 hj).1; omega) hj
  ·cases x with
   | done r=>exact hx
   | next t'=>exact absurd hx id
def tgt (x:Z6):List Int:=if 36≤x.f_Op∧x.f_Op≤54 then [x.f_To]++x.Zh else []
theorem Wo.tosL {x:Z6} (h:Wo x):x.Zh.length≤64:=by
 by_cases h1:x.f_Op=53
 ·exact(h.tab h1).2
 ·by_cases h2:x.f_Op=54
  ·have:=h.look h2; omega
  ·rw[h.few h1 h2]; simp
theorem Zu2 (x:Z6) (h:Wo x):Z5l x=some (tgt x):=by
 unfold Z5l tgt
 rw[Zp6]
 have:=h.tosL
 by_cases hb:36≤x.f_Op∧x.f_Op≤54
 ·rw[if_pos hb]
  simp only[Option.bind_some,hb]
  obtain⟨u,hu,-⟩:=gk (b:=8) (n:=([x.f_To]++x.Zh).length) (by simp only[List.length_append,List.length_cons,List.length_nil]; omega) (by simp only[List.length_append,List.length_cons,List.length_nil]; omega)
  simp only[List.length_append,List.length_cons,List.length_nil,Nat.zero_add,Nat.add_comm] at hu
  simp[hu]
 ·rw[if_neg hb]
  simp[hb]
theorem put_ok (x:Z6) (at_:List Int) (hx:Qk x) (hc:Wo x) (ht:∀ t∈tgt x,t<at_.length):Ok (Zao x at_) (λr=>r.length≤1000):=by
 have htl:=hc.tosL
 have hbr:36≤x.f_Op→x.f_Op≤54→0≤x.f_To∧x.f_To<at_.length∧∀ v∈x.Zh,0≤v∧v<at_.length:=λh h'=>by
  have e:tgt x=[x.f_To]++x.Zh:=if_pos ⟨h,h'⟩
  rw[e] at ht
  exact⟨(hc.aim h h').1,ht _ (by simp),λv hv=>⟨(hc.aim h h').2 v hv,ht v (by simp[hv])⟩⟩
 have num:=λy n hn=>Y0p y n hn
 unfold Zao
 refine bd (num _ 1 (by omega)) λv0 h0=>bd (Z8y x.f_Op) λk hk=>?_
 obtain⟨k3,k6,k7,km,k0,k1⟩:=hk
 refine brE (λ_=>?_) λ_=>brE (λ_=>?_) λ_=>brE (λh3=>?_) λ_=>brE (λ_=>?_) λ_=>brE (λ_=>?_) λ_=>brE (λh6=>?_) λ_=>brE (λh7=>?_) λ_=>ok (by omega)
 ·exact bd (num _ 1 (by omega)) λv1 h1=>bd (ct (by omega)) λv2 h2=>ok (by omega)
 ·exact bd (num _ 2 (by omega)) λv1 h1=>bd (ct (by omega)) λv2 h2=>ok (by omega)
 ·have hb:=hbr (by omega) (by omega)
  exact bd (gr hb.1 hb.2.1) λv _=>bd (num _ 2 (by omega)) λv1 h1=>bd (ct (by omega)) λv2 h2=>ok (by omega)
 ·exact bd (num _ 1 (by omega)) λv1 h1=>bd (ct (by omega)) λv2 h2=>ok (by omega)
 ·exact bd (num _ 1 (by omega)) λv1 h1=>bd (ct (by omega)) λv2 h2=>bd (num _ 1 (by omega)) λv3 h3=>bd (ct (by omega)) λv4 h4=>ok (by omega)
 ·have hb:=hbr (by omega) (by omega)
  refine bd (gr hb.1 hb.2.1) λv _=>bd (num _ 2 (by omega)) λv1 h1=>bd (ct (by omega)) λv2 h2=>bd (num _ 4 (by omega)) λv3 h3=>bd (ct (by omega)) λv4 h4=>bd (num _ 2 (by omega)) λv5 h5=>bd (ct (by omega)) λv6 h6=>bd (P:=λr=>r.length≤1000) ?_ λq hq=>ok hq
  refine lp (λt=>t.2) x.Zh.length (λt=>(t.1.length:Int)≤100+8*t.2) (λt hI g0 g1=>?_) (by omega) (by dsimp only; omega)
  unfold Zg8
  refine brD (λhlt=>bd gr λw hw=>bd (gr (hb.2.2 w hw).1 (hb.2.2 w hw).2) λz _=>bd (num _ 2 (by omega)) λy1 e1=>bd (ct (by omega)) λy2 e2=>bd wr λk hk=>nx (by dsimp only; omega)) λ_=>dn (by omega)
 ·have hb:=hbr (by omega) (by omega)
  have hlk:=hc.look (by omega)
  refine bd (gr hb.1 hb.2.1) λv _=>bd (num _ 2 (by omega)) λv1 h1=>bd (ct (by omega)) λv2 h2=>bd (num _ 2 (by omega)) λv3 h3=>bd (ct (by omega)) λv4 h4=>bd (P:=λr=>r.length≤1000) ?_ λq hq=>ok hq
  refine lp (λt=>t.2) x.Y9.length (λt=>(t.1.length:Int)≤100+8*t.2) (λt hI g0 g1=>?_) (by omega) (by dsimp only; omega)
  unfold Zhe
  refine brD (λhlt=>bd gr λw0 hw0=>bd (num _ 4 (by omega)) λz1 e1=>bd (ct (by omega)) λz2 e2=>bd gr λw hw=>bd (gr (hb.2.2 w hw).1 (hb.2.2 w hw).2) λz _=>bd (num _ 2 (by omega)) λy1 e1=>bd (ct (by omega)) λy2 e2=>bd wr λk hk=>nx (by dsimp only; omega)) λ_=>dn (by omega)
theorem enc_ok (l:List Z6) (hl:∀ i∈l,Qk i) (hn:l.length≤140737488355328):Ok (Zbd l) (λr=>r.1.length≤1000000):=by
 unfold Zbd
 refine bd (Zlu l hl hn) λv0 h0=>brN (λ_=>ok (by simp)) λh=>?_
 obtain⟨g1,g2,g3⟩:=h0.1 h
 refine bd (P:=λq:Unit⊕(List UInt8×Int)=>match q with|.inl _=>∀ i∈l,∀ t∈tgt i,t<l.length|.inr y=>y.1=[]) (Un (P:=λi=>∀ t∈tgt i,t<l.length) hn (λt h0 h1 i hi hm hg=>?_) λt h0 h1 ha=>?_) λq hq=>?_
 ·unfold Zft
  rw[hg]
  have hf:(tgt i).length≤65:=by
   have:=(g3 i hm).tosL
   unfold tgt; split <;> simp; omega
  refine brD (λ_=>bs ?_) λh=>absurd h1 h
  rw[Zu2 i (g3 i hm)]
  refine bs (bd (P:=λq:Unit⊕(List UInt8×Int)=>match q with|.inl _=>∀ t∈tgt i,t<l.length|.inr y=>y.1=[]) (Un (l:=tgt i) (P:=λt=>t<(l.length:Int)) (by omega) (λk k0 k1 v hv hvm hvg=>?_) λk k0 k1 ha=>?_) λq hq=>?_)
  ·unfold Zcm
   rw[hvg]
   exact brD (λ_=>bs (brD (λ_=>ok rfl) λ_=>bd wr λw hw=>ok ⟨hw,by omega⟩)) λh=>absurd k1 h
  ·unfold Zcm
   exact brD (λh=>absurd h (by omega)) λ_=>ok ha
  ·cases q with
   | inl _=>exact bd wr λw hw=>ok ⟨hw,hq⟩
   | inr y=>exact ok hq
 ·unfold Zft
  exact brD (λh=>absurd h (by omega)) λ_=>ok ha
 ·cases q with
  | inr y=>exact ok (by rw[hq]; simp)
  | inl _=>
   refine bd (P:=λr=>r.length≤1000000) (lp (λt=>t.2) l.length (λt=>(t.1.length:Int)≤1000*t.2) (λt hI k0 k1=>?_) (by omega) (by simp)) λq6 h6=>ok h6
   unfold Zkn
   refine brD (λhlt=>bd gr λi hi=>bd (put_ok i v0.1 (hl i hi) (g3 i hi) λt ht=>by have:=hq i hi t ht; omega) λy hy=>bd (ct (by omega)) λz hz=>bd wr λw hw=>nx (by dsimp only; omega)) λ_=>dn (by omega)
theorem Ztf (l:List Zp) (at_:List Int) (hn:l.length≤140737488355328) (h5:∀ v∈l,v.Zn=5→0≤v.V0∧v.V0<at_.length):Ok (Z6y l at_) (λr=>r.length≤1+5*l.length):=by
 unfold Z6y
 refine bd (Zi6 _) λv0 h0=>bd (P:=λr=>r.length≤1+5*l.length) (lp (λt=>t.2) l.length (λt=>(t.1.length:Int)≤1+5*t.2) (λt hI k0 k1=>?_) (by omega) (by dsimp only; omega)) λq hq=>ok hq
 unfold Zkp
 refine brD (λhlt=>?_) λ_=>dn (by omega)
 obtain⟨v,hg,hm⟩:=gr (l:=l) (i:=t.2) (by omega) hlt
 simp only[hg]
 have hj:∀ p:List UInt8,(p.length:Int)≤1+5*t.2+3→Ok (Z8s t l p) (St (λt=>(t.1.length:Int)≤1+5*t.2) (λt=>t.2) l.length (λr=>r.length≤1+5*l.length) t):=λp hp=>by
  unfold Z8s
  simp only[hg]
  exact bs (brD (λ_=>bs (bd (Ul _) λz hz=>bd (ct (by omega)) λy hy=>bd wr λw hw=>nx (by dsimp only; omega))) λ_=>bd wr λw hw=>nx (by dsimp only; omega))
 refine bs (bd (Zi6 _) λa ha=>bd (ct (by omega)) λb hb=>bs (brE (λh=>bs (bd (gr (h5 v hm h).1 (h5 v hm h).2) λy _=>bd (Ul _) λz hz=>bd (ct (by omega)) λw hw=>hj w (by omega))) λ_=>hj b (by omega)))
theorem Zro (l:List Int):Ok (Z6l l) (λr=>Str r.1):=by
 unfold Z6l
 refine brD (λ_=>ok (by simp)) λ_=>bd (Ul _) λv0 h0=>bd (P:=λq:List UInt8⊕(List UInt8×Int)=>match q with|.inl q=>q.length≤1000|.inr y=>y.1=[]) (lp (λt=>t.2) l.length (λt=>(t.1.length:Int)≤2+2*t.2) (λt hI k0 k1=>?_) (by omega) (by dsimp only; omega)) λq hq=>?_
 ·unfold Zk6 Zl7
  refine brD (λhlt=>bd gr λ_ _=>brD (λ_=>dn rfl) λ_=>bd gr λ_ _=>brD (λ_=>dn rfl) λ_=>bd gr λ_ _=>bd (Ul _) λy hy=>bd (ct (by omega)) λz hz=>bd wr λw hw=>nx (by dsimp only; omega)) λ_=>dn (by dsimp only; omega)
 ·cases q with
  | inl q => exact ok (by have h:q.length≤1000:=hq
                          show q.length≤_; omega)
  | inr y=>exact ok (by rw[hq]; simp)
structure CPre (c:Zi):Prop where
 ins:∀ i∈c.Y3,Qk i
 insL:c.Y3.length≤140737488355328
 hndL:c.Xo.length≤140737488355328
 mapL:c.Yz.length≤140737488355328
 linL:c.X9.length≤140737488355328
 frm:∀ m∈c.Yz,m.Yy.Zs.length≤140737488355328∧m.Yy.Zw.length≤140737488355328
theorem Wz.pre {c:Zi} (h:Wz c):CPre c:=⟨h.ins,by have:=h.insL; omega,by have:=h.hndL; omega,by have:=h.mapL; omega,by have:=h.linL; omega,λm hm=>⟨by have:=(h.map m hm).locL; omega,by have:=(h.map m hm).stkL; omega⟩⟩
def Chk0 (l:List Z6):Prop:=∀ i∈l,Uw i=some 0
theorem all_ok (l:List Z6) (hl:∀ i∈l,Qk i) (hn:l.length≤140737488355328):Ok (Zg1 l) (λb=>Chk0 l→b=true):=by
 unfold Zg1
 refine bd (P:=λq:Unit⊕Bool=>match q with|.inl _=>True|.inr b=>¬ Chk0 l) (li l.length (λt h0 h1=>?_) (by omega) (by omega) (by omega)) λq hq=>?_
 ·unfold Zi3
  refine brD (λ_=>bd gr λi hi=>bdE (Z7s i (hl i hi)) λe he _=>brN (λh=>di λhc=>h ?_) λ_=>bd wr λ_ _=>ni (by omega) (by omega)) λ_=>di trivial
  rw[hc i hi] at he; cases he; rfl
 ·cases q with
  | inl _=>exact ok λ_=>rfl
  | inr b=>exact ok λh=>absurd h hq
theorem Y0b (l:List Z6) (hl:∀ i∈l,Qk i) (hn:l.length≤1000):Ok (Lc l) (λr=>Chk0 l→r.2=0∨r.2=8):=by
 unfold Lc
 refine bd (P:=λq:Unit⊕(List Int×Int)=>match q with|.inl _=>∀ i∈l,Wo i|.inr y=>¬ Chk0 l) (Un (l:=l) (P:=Wo) (by omega) (λt h0 h1 i hi hm hg=>?_) λt h0 h1 ha=>?_) λq hq=>?_
 ·unfold Z3a
  rw[hg]
  refine brD (λ_=>bs (bdE (Z7s i (hl i hm)) λe he hc=>brN (λh=>ok λhc=>h ?_) λh=>bd wr λw hw=>ok ⟨hw,hc h⟩)) λh=>absurd h1 h
  rw[hc i hm] at he; cases he; rfl
 ·unfold Z3a
  exact brD (λh=>absurd h (by omega)) λ_=>ok ha
 ·cases q with
  | inr y=>exact ok λh=>absurd h hq
  | inl _=>
   have hch:∀ i∈l,Wo i:=hq
   refine brD (λh=>absurd h (by omega)) λ_=>bd (P:=λr=>r.length=l.length+1) ?_ λq2 hq2=>bd ik λj hj=>bd (la (by omega)) λ_ _=>brD (λ_=>ok λ_=> .inr rfl) λ_=>ok λ_=> .inl rfl
   refine lp (λt=>t.1) l.length (λt=>(t.2.length:Int)=t.1+1∧∀ v∈t.2,0≤v∧v≤400*t.1) (λt hI h0 h1=>?_) (by omega) ⟨rfl,by simp⟩
   obtain⟨hI1,hI2⟩:=hI
   unfold Zd2
   refine brD (λhlt=>?_) λhge=>dn (by omega)
   refine bd ik λj hj=>bd (la (by omega)) λv hv=>bd gr λi hi=>bd (Znx i (hl i hi) (hch i hi)) λn hn=>?_
   have hv2:=hI2 v hv.2
   refine bd wr λw hw=>bd gk λ_ _=>bd wr λk hk=>?_
   refine nx ⟨by simp only[List.length_append,List.length_cons,List.length_nil]; omega,Mr (λv hv=>?_) ?_⟩
   ·have:=hI2 v hv; dsimp only; omega
   ·dsimp only; omega
theorem head_ok (p:List Z3) (c:Zi) (hp:Ym p) (hc:CPre c):Ok (Zfb p c) (λe=>e=0→PS p 1024∧(c.Zs≤32∧c.Zw≤32)∧1≤c.Y3.length∧c.Y3.length≤1000∧(Chk0 c.Y3→∃ v,Lc c.Y3=some v∧v.2=0)):=by
 unfold Zfb
 refine bd (Zn3 p hp) λv0 h0=>brN (λh=>ok λh'=>absurd h' h) λh=>?_
 have hps:=h0 h
 have hj:c.Zs≤32∧c.Zw≤32→Ok (Zab c) (λe=>e=0→PS p 1024∧(c.Zs≤32∧c.Zw≤32)∧1≤c.Y3.length∧c.Y3.length≤1000∧(Chk0 c.Y3→∃ v,Lc c.Y3=some v∧v.2=0)):=λhLT=>by
  unfold Zab Zgd
  refine brE (λ_=>ok (by simp)) λh1=>brD (λ_=>ok (by simp)) λh2=>bd (all_ok _ hc.ins hc.insL) λb hb=>br (λ_=>bdE (Y0b _ hc.ins (by omega)) λv hv hv2=>brE (λhe=>ok λh=>?_) λhe=>ok λ_=>⟨hps,hLT,by omega,by omega,λhk=>⟨v,hv,(hv2 hk).resolve_right he⟩⟩) λhf=>ok λ_=>⟨hps,hLT,by omega,by omega,λhk=>?_⟩
  ·omega
  ·rw[hb hk] at hf; cases hf
 exact brD (λ_=>ok (by simp)) λ_=>brD (λ_=>ok (by simp)) λ_=>brD (λ_=>ok (by simp)) λ_=>brD (λ_=>ok (by simp)) λ_=>hj ⟨by omega,by omega⟩
theorem has_ok (l:List Int) (x:Int) (hl:l.length≤140737488355328):Ok (Zb2 l x) (λ_=>True):=by
 unfold Zb2
 refine bd (li l.length (Q:=λ_=>True) (λt h0 h1=>?_) (by omega) (by omega) (by omega)) λq _=>by cases q <;> exact ok trivial
 unfold Zk8
 exact brD (λ_=>bd gr λ_ _=>br (λ_=>di trivial) λ_=>bd wr λ_ _=>ni (by omega) (by omega)) λ_=>di trivial
section
variable {p:List Z3} (hp:p.length≤1000) (hS:PS p 1024)
include hp hS
theorem Zlv (i:Int):Ok (Z0e p i) (λ_=>True):=by
 unfold Z0e
 exact bd (Zl6 p i (by omega) hS) λv hv=>brE (λ_=>brD (λ_=>bd gs λ_ _=>ok trivial) λ_=>ok trivial) λ_=>ok trivial
theorem Zz2 (i:Int):Ok (Z2b p i) (λ_=>True):=by
 unfold Z2b
 exact bd (Z7g p i (by omega)) λv _=>bd (Zxz p i _ (by omega) hS) λ_ _=>brE (λ_=>ok trivial) λ_=>ok trivial
theorem Zz8 (x:Z6):Ok (Z9g p x) (λ_=>True):=by
 have h2:Ok (Z58 p x) (λ_=>True):=by
  unfold Z58
  have hn:Ok ((Z2b p x.f_A).bind λv=>if v=true then some 12 else some 0) (λ_:Int=>True):=bd (Zz2 hp hS _) λ_ _=>br (λ_=>ok trivial) λ_=>ok trivial
  exact brE (λ_=>hn) λ_=>brE (λ_=>hn) λ_=>brE (λ_=>hn) λ_=>ok trivial
 unfold Z9g
 refine bd (Z7g p x.f_A (by omega)) λv0 h0=>brN (λ_=>ok trivial) λhe=>?_
 have h1:Ok (Lp v0 p x) (λ_=>True):=by
  unfold Lp
  exact brE (λ_=>bd (Z7j _ (by have:=hS _ (h0.1 he).mem; unfold Str; omega)) λ_ _=>brN (λ_=>ok trivial) λ_=>brE (λ_=>ok trivial) λ_=>h2) λ_=>h2
 have h3:Ok (if decide (x.f_Op≥59)=true then (if decide (x.f_Op≤66)=true then ((Z0e p v0.1.f_A).bind λv4=>if (!v4)=true then some 13 else Lp v0 p x) else Lp v0 p x) else Lp v0 p x) (λ_=>True):=
  brD (λ_=>brD (λ_=>bd (Zlv hp hS _) λ_ _=>br! (λ_=>ok trivial) λ_=>h1) λ_=>h1) λ_=>h1
 exact bd (Zqj _) λv1 g1=>bd (has_ok _ _ (by omega)) λ_ _=>br! (λ_=>ok trivial) λ_=>brE (λ_=>bd (Zlv hp hS _) λ_ _=>br! (λ_=>ok trivial) λ_=>h3) λ_=>h3
theorem Zzc (c:Zi) (x:Z6) (hx:Qk x):Ok (Zbg p c x) (λe=>e=0→Uw x=some 0∧Wo x):=by
 unfold Zbg
 refine bdE (Z7s x hx) λv0 e0 h0=>brN (λh=>ok λh'=>absurd h' h) λh=>?_
 have hc:=h0 h
 rw[h] at e0
 rw[Zu2 x hc]
 have hj:∀ v7,Ok (Z3u v7 p x) (λe=>e=0→Uw x=some 0∧Wo x):=λv7=>by
  unfold Z3u
  exact brE (λ_=>bd (Zz8 hp hS x) λ_ _=>ok λ_=>⟨e0,hc⟩) λ_=>ok λ_=>⟨e0,hc⟩
 have hf:(tgt x).length≤65:=by
  have:=hc.tosL
  unfold tgt; split <;> simp; omega
 refine bs (bd (P:=λq:Unit⊕Int=>match q with|.inl _=>True|.inr e=>e≠0) (li (tgt x).length (λt h0 h1=>?_) (by omega) (by omega) (by omega)) λq hq=>?_)
 ·unfold Zjw
  exact brD (λ_=>bd gr λ_ _=>brD (λ_=>di (by simp)) λ_=>bd gr λ_ _=>brD (λ_=>di (by simp)) λ_=>bd wr λ_ _=>ni (by omega) (by omega)) λ_=>di trivial
 ·cases q with
  | inr e=>exact ok λh=>absurd h hq
  | inl _=>exact bd (Z8y _) λv7 _=>brE (λ_=>brD (λ_=>ok (by simp)) λ_=>hj _) λ_=>brE (λ_=>brD (λ_=>ok (by simp)) λ_=>hj _) λ_=>hj _
def Z7f (n:Int) (h:Zt):Prop:=0≤h.Wp∧h.Wp<h.f_To∧h.f_To≤n∧0≤h.Wq∧h.Wq<n
theorem row9_ok (n:Int) (h:Zt):Ok (Zcb p n h) (λb=>b=true→Z7f n h):=by
 unfold Zcb
 have z:Ok (some false) (λb=>b=true→Z7f n h):=ok λh=>by cases h
 exact brD (λh1=>brD (λh2=>brD (λh3=>brD (λh4=>brD (λh5=>br (λ_=>brE (λ_=>ok λ_=>⟨by omega,h2,h3,by omega,h5⟩) λ_=>bd (Zlv hp hS _) λ_ _=>ok λ_=>⟨by omega,h2,h3,by omega,h5⟩) λ_=>z) λ_=>z) λ_=>z) λ_=>z) λ_=>z) λ_=>z
theorem Zia (i:Int) (b:Bool):Ok (Z4q p i b) (λ_=>True):=by
 unfold Z4q
 exact bd (U1 p i (by omega)) λv hv=>brN (λ_=>ok trivial) λ_=>bd (Z7j _ (by have:=Z34 hS hv; unfold Str; omega)) λ_ _=>brN (λ_=>ok trivial) λ_=>brD (λ_=>ok trivial) λ_=>ok trivial
def VOk (n:Int) (v:Zp):Prop:=v.Zn=5→0≤v.V0∧v.V0<n
theorem Y0q (c:Zi) (v:Zp):Ok (Zet p c v) (λb=>b=true→VOk c.Y3.length v):=by
 unfold Zet Zgf Zh5
 have z:Ok (some false) (λb=>b=true→VOk c.Y3.length v):=ok λh=>by cases h
 have y:∀ b,v.Zn≠5→Ok (some b) (λb=>b=true→VOk c.Y3.length v):=λb h=>ok λ_ h'=>absurd h' h
 refine br! (λ_=>z) λ_=>brE (λh=>brE (λ_=>y _ (by omega)) λ_=>z) λ_=>brE (λh=>brE (λ_=>y _ (by omega)) λ_=>z) λ_=>brE (λh=>brE (λ_=>y _ (by omega)) λ_=>z) λ_=>brE (λh=>brE (λ_=>y _ (by omega)) λ_=>z) λ_=>?_
 refine brE (λh=>brE (λ_=>bd (Zia hp hS _ _) λ_ _=>y _ (by omega)) λ_=>z) λ_=>brE (λh=>brE (λ_=>bd (Zia hp hS _ _) λ_ _=>y _ (by omega)) λ_=>z) λ_=>brE (λh=>brD (λh1=>brD (λh2=>bd gr λ_ _=>brE (λ_=>bd (Zia hp hS _ _) λ_ _=>ok λ_ _=>⟨by omega,h2⟩) λ_=>z) λ_=>z) λ_=>z) λ_=>z
theorem Zrj (c:Zi) (l:List Zp) (hl:l.length≤140737488355328):Ok (Z7h p c l) (λb=>b=true→∀ v∈l,VOk c.Y3.length v):=by
 unfold Z7h
 refine bd (P:=λq:Unit⊕Bool=>match q with|.inl _=>∀ v∈l,VOk c.Y3.length v|.inr b=>b=false) (Un (P:=VOk c.Y3.length) hl (λt h0 h1 v hv hm hg=>?_) λt h0 h1 ha=>?_) λq hq=>?_
 ·unfold Z95
  rw[hg]
  exact brD (λ_=>bs (bd (Y0q hp hS c v) λb hb=>br! (λ_=>ok rfl) λh=>bd wr λw hw=>ok ⟨hw,hb h⟩)) λh=>absurd h1 h
 ·unfold Z95
  exact brD (λh=>absurd h (by omega)) λ_=>ok ha
 ·cases q with
  | inl _=>exact ok λ_=>hq
  | inr b=>exact ok λh=>by cases hq.symm.trans h
def Z1r (n:Int) (m:Zx):Prop:=0≤m.Xw∧m.Xw<n∧(∀ v∈m.Yy.Zs,VOk n v)∧(∀ v∈m.Yy.Zw,VOk n v)∧m.Yy.Zs.length≤32∧m.Yy.Zw.length≤32
theorem Zxl (c:Zi) (hc:CPre c) (hL:c.Zs≤32) (hT:c.Zw≤32) (i:Int) (h0:0≤i) (h1:i<c.Yz.length) (m:Zx) (hg:Z5 c.Yz i=some m) (hm:m∈c.Yz):Ok (Zek p c i) (λb=>b=true→Z1r c.Y3.length m):=by
 have:=hc.mapL
 have z:Ok (some false) (λb=>b=true→Z1r c.Y3.length m):=ok λh=>by cases h
 unfold Zek
 rw[hg]
 refine bs (brD (λ_=>z) λg0=>brD (λ_=>z) λg1=>?_)
 have hj:(m.Yy.Zs.length:Int)≤c.Zs→(m.Yy.Zw.length:Int)≤c.Zw→Ok (Z44 m p c) (λb=>b=true→Z1r c.Y3.length m):=λq1 q2=>by
  unfold Z44
  exact bd (Zrj hp hS c _ (hc.frm m hm).1) λb hb=>br (λh=>bd (Zrj hp hS c _ (hc.frm m hm).2) λb' hb'=>ok λh'=>⟨by omega,by omega,hb h,hb' h',by omega,by omega⟩) λ_=>z
 have hk:Ok (if decide ((m.Yy.Zs.length:Int)>c.Zs)=true then some false else if decide ((m.Yy.Zw.length:Int)>c.Zw)=true then some false else Z44 m p c) (λb=>b=true→Z1r c.Y3.length m):=brD (λ_=>z) λq1=>brD (λ_=>z) λq2=>hj (by omega) (by omega)
 exact brD (λ_=>bd wr λv1 e1=>bd gr λv2 _=>brD (λ_=>z) λ_=>hk) λ_=>hk
def LinOk (n:Int) (x:Yd):Prop:=0≤x.Xw∧x.Xw<n
structure Zvj (c:Zi):Prop where
 hnd:∀ h∈c.Xo,Z7f c.Y3.length h
 map:∀ m∈c.Yz,Z1r c.Y3.length m
 lin:∀ x∈c.X9,LinOk c.Y3.length x
theorem Zyv (c:Zi) (hc:CPre c) (hL:c.Zs≤32) (hT:c.Zw≤32):Ok (Zd6 p c) (λr=>r.2=0→Zvj c):=by
 have g1:=hc.hndL; have g2:=hc.mapL; have g3:=hc.linL
 unfold Zd6
 refine brD (λ_=>ok (by simp)) λ_=>bd (P:=λq:Unit⊕(Int×Int)=>match q with|.inl _=>∀ h∈c.Xo,Z7f c.Y3.length h|.inr y=>y.2≠0) (Un (P:=Z7f c.Y3.length) g1 (λt h0 h1 v hv hm hg=>?_) λt h0 h1 ha=>?_) λq1 hq1=>?_
 ·unfold Za1
  rw[hg]
  exact brD (λ_=>bs (bd (row9_ok hp hS _ v) λb hb=>br! (λ_=>ok (by simp)) λh=>bd wr λw hw=>ok ⟨hw,hb h⟩)) λh=>absurd h1 h
 ·unfold Za1
  exact brD (λh=>absurd h (by omega)) λ_=>ok ha
 cases q1 with
 | inr y=>exact ok λh=>absurd h hq1
 | inl _=>
 refine bd (P:=λq:Unit⊕(Int×Int)=>match q with|.inl _=>∀ m∈c.Yz,Z1r c.Y3.length m|.inr y=>y.2≠0) (Un (P:=Z1r c.Y3.length) g2 (λt h0 h1 v hv hm hg=>?_) λt h0 h1 ha=>?_) λq2 hq2=>?_
 ·unfold Zfh
  exact brD (λ_=>bd (Zxl hp hS c hc hL hT t h0 h1 v hg hm) λb hb=>br! (λ_=>ok (by simp)) λh=>bd wr λw hw=>ok ⟨hw,hb h⟩) λh=>absurd h1 h
 ·unfold Zfh
  exact brD (λh=>absurd h (by omega)) λ_=>ok ha
 cases q2 with
 | inr y=>exact ok λh=>absurd h hq2
 | inl _=>
 refine bd (P:=λq:Unit⊕(Int×Int)=>match q with|.inl _=>∀ x∈c.X9,LinOk c.Y3.length x|.inr y=>y.2≠0) (Un (P:=LinOk c.Y3.length) g3 (λt h0 h1 v hv hm hg=>?_) λt h0 h1 ha=>?_) λq3 hq3=>?_
 ·unfold Zbc
  rw[hg]
  exact brD (λ_=>bs (brD (λ_=>ok (by simp)) λk0=>brD (λ_=>ok (by simp)) λk1=>brD (λ_=>bd wr λw hw=>bd gr λ_ _=>brD (λ_=>ok (by simp)) λ_=>brD (λ_=>ok (by simp)) λ_=>brD (λ_=>ok (by simp)) λ_=>bd wr λw hw=>ok ⟨hw,by omega,by omega⟩) λ_=>brD (λ_=>ok (by simp)) λ_=>brD (λ_=>ok (by simp)) λ_=>bd wr λw hw=>ok ⟨hw,by omega,by omega⟩)) λh=>absurd h1 h
 ·unfold Zbc
  exact brD (λh=>absurd h (by omega)) λ_=>ok ha
 cases q3 with
 | inr y=>exact ok λh=>absurd h hq3
 | inl _=>exact ok λ_=>⟨hq1,hq2,hq3⟩
end
theorem Zrh (p:List Z3) (c:Zi) (hp:Ym p) (hc:CPre c):Ok (Z8u p c) (λr=>r.2=0→Zvj c∧∃ v,Lc c.Y3=some v∧v.2=0):=by
 unfold Z8u
 refine bd (head_ok p c hp hc) λv0 h0=>brN (λh=>ok λh'=>absurd h' h) λh=>?_
 obtain⟨hS,⟨hL,hT⟩,hn1,hn2,hoff⟩:=h0 h
 have hl:=hp.len
 refine bd (P:=λq:Unit⊕(Int×Int)=>match q with|.inl _=>∀ i∈c.Y3,Uw i=some 0|.inr y=>y.2≠0) (Un (l:=c.Y3) (P:=λi=>Uw i=some 0) (by omega) (λt h0 h1 v hv hm hg=>?_) λt h0 h1 ha=>?_) λq hq=>?_
 ·unfold Zcq
  rw[hg]
  exact brD (λ_=>bs (bd (Zzc hl hS c v (hc.ins v hm)) λe he=>brN (λh=>ok h) λh=>bd wr λw hw=>ok ⟨hw,(he h).1⟩)) λh=>absurd h1 h
 ·unfold Zcq
  exact brD (λh=>absurd h (by omega)) λ_=>ok ha
 ·cases q with
  | inr y=>exact ok λh=>absurd h hq
  | inl _=>
   refine bd wr λv6 e6=>bd gr λv7 _=>bd (P:=λ_=>True) ?_ λv8 _=>br! (λ_=>bd wr λ_ _=>ok (by simp)) λ_=>bd (Zyv hl hS c hc hL hT) λr hr=>ok λh=>⟨hr h,hoff hq⟩
   unfold Zjr
   rw[Zhl]
   exact bs (br (λ_=>ok trivial) λ_=>ok trivial)
end Go.Proofs
namespace Go.Proofs
open Go.Den Go.Tot
theorem Zy5 (p:List Z3) (c:Zi) (hp:Ym p) (hc:Wz c):Ok (Zex p c) (λr=>Str r.1):=by
 have gI:=hc.insL; have gH:=hc.hndL; have gM:=hc.mapL; have gL:=hc.linL
 unfold Zex
 refine bd (Zrh p c hp hc.pre) λv0 h0=>brN (λ_=>ok (by simp)) λh=>?_
 obtain⟨hk,v,hv,hv2⟩:=h0 h
 rw[hv]
 obtain⟨r,hr,hr2⟩:=Zlu c.Y3 hc.ins (by omega)
 rw[hv] at hr; cases hr
 obtain⟨hlen,hn,-⟩:=hr2.1 hv2
 refine bs (bd (enc_ok _ hc.ins (by omega)) λv2 h2=>bd (Z6r _ 4 (by omega)) λv3 h3=>bd (Ul _) λv4 h4=>bd (Ul _) λv5 h5=>bd (ct (by omega)) λv6 h6=>bd (ct (by omega)) λv7 h7=>bd (ct (by omega)) λv8 h8=>bd (Ul _) λv9 h9=>bd (ct (by omega)) λv10 h10=>?_)
 -- the lists are short by what they hold; here their lengths in memory do
 refine bd (P:=λr=>(r.length:Int)≤2000000+8*c.Xo.length) (lp (λt=>t.2) c.Xo.length (λt=>(t.1.length:Int)≤2000000+8*t.2) (λt hI g0 g1=>?_) (by omega) (by dsimp only; omega)) λq0 hq0=>?_
 ·unfold Zj2
  refine brD (λhlt=>bd gr λx hx=>?_) λ_=>dn (by omega)
  obtain⟨k1,k2,k3,k4,k5⟩:=hk.hnd x hx
  exact bd gr λ_ _=>bd (Ul _) λa ha=>bd (ct (by omega)) λb hb=>bd gr λ_ _=>bd (Ul _) λa2 ha2=>bd (ct (by omega)) λb2 hb2=>bd gr λ_ _=>bd (Ul _) λa3 ha3=>bd (ct (by omega)) λb3 hb3=>bd (Ul _) λa4 ha4=>bd (ct (by omega)) λb4 hb4=>bd wr λw hw=>nx (by dsimp only; omega)
 refine bd (Ul _) λv36 h36=>bd (ct (by omega)) λv37 h37=>?_
 refine bd (P:=λr=>(r.length:Int)≤30000000000000+400*c.Yz.length) (lp (λt=>t.2) c.Yz.length (λt=>(t.1.length:Int)≤30000000000000+400*t.2) (λt hI g0 g1=>?_) (by omega) (by dsimp only; omega)) λq2 hq2=>?_
 ·unfold Zh0
  refine brD (λhlt=>bd gr λm hm=>?_) λ_=>dn (by omega)
  obtain⟨k1,k2,k3,k4,k5,k6⟩:=hk.map m hm
  have hj:∀ x,Ok (Z8w t v m x) (St (λt=>(t.1.length:Int)≤30000000000000+400*t.2) (λt=>t.2) c.Yz.length (λr=>(r.length:Int)≤30000000000000+400*c.Yz.length) t):=λx=>by
   unfold Z8w
   refine bd gr λ_ _=>bd (Ul _) λa ha=>bd (ct (by omega)) λb hb=>bd (Zi6 _) λa2 ha2=>bd (ct (by omega)) λb2 hb2=>bd (Ztf _ v.1 (by omega) λy hy h5=>?_) λa3 ha3=>bd (ct (by omega)) λb3 hb3=>bd (Ztf _ v.1 (by omega) λy hy h5=>?_) λa4 ha4=>bd (ct (by omega)) λb4 hb4=>bd wr λw hw=>nx (by dsimp only; omega)
   ·have:=k3 y hy h5; omega
   ·have:=k4 y hy h5; omega
  exact br (λ_=>hj _) λ_=>hj _
 refine bd (Ul _) λv59 h59=>bd (ct (by omega)) λv60 h60=>bd (P:=λr=>(r.length:Int)≤2000000000000000+4*c.X9.length) (lp (λt=>t.2) c.X9.length (λt=>(t.1.length:Int)≤2000000000000000+4*t.2) (λt hI g0 g1=>?_) (by omega) (by dsimp only; omega)) λq4 hq4=>ok (by dsimp only; omega)
 unfold Zgg
 refine brD (λhlt=>?_) λ_=>dn (by omega)
 obtain⟨x,hg,hm⟩:=gr (l:=c.X9) (i:=t.2) (by omega) hlt
 obtain⟨k1,k2⟩:=hk.lin x hm
 simp only[hg]
 exact bs (bd gr λ_ _=>bd (Ul _) λa ha=>bd (ct (by omega)) λb hb=>bs (bd (Ul _) λa2 ha2=>bd (ct (by omega)) λb2 hb2=>bd wr λw hw=>nx (by dsimp only; omega)))
theorem Z4h (l:List Int) (x:Int) (hl:l.length≤140737488355328):Ok (Kc l x) (λ_=>True):=by
 unfold Kc
 refine bd (P:=λ_=>True) (li (max 0 (l.length:Int)) (λt h0 h1=>?_) (by omega) (by omega) (by omega)) λq _=>by cases q <;> exact ok trivial
 unfold Zg9
 exact bd wr λv hv=>brD (λ_=>bd gr λ_ _=>br (λ_=>di trivial) λ_=>bd wr λ_ _=>ni (by omega) (by omega)) λ_=>di trivial
theorem edge_ok (l:List Int) (x:Int) (hl:l.length≤140737488355328):Ok (Zbz l x) (λ_=>True):=by
 unfold Zbz Zbb
 have hj:Ok ((Kc l x).bind λv3=>some v3) (λ_=>True):=bd (Z4h l x hl) λ_ _=>ok trivial
 exact brD (λ_=>bd wr λv hv=>bd gr λ_ _=>br (λ_=>bd wr λ_ _=>ok trivial) λ_=>hj) λ_=>hj
theorem Znd (l:List Zp) (at_:List Int) (hl:l.length≤256) (ha:at_.length≤140737488355328):Ok (Z7p l at_) (λr=>r.1.length≤256):=by
 unfold Z7p
 refine bd (P:=λq:List Zp⊕(List Zp×Bool)=>match q with|.inl q=>q.length≤256|.inr y=>y.1=[]) (lp (λt=>t.1) l.length (λt=>(t.2.length:Int)=t.1) (λt hI g0 g1=>?_) (by omega) rfl) λq hq=>?_
 ·unfold Zgi
  have hd:t.2.length≤256:=by omega
  have hj:∀ (v:Zp) (p:Int),t.1<l.length→Ok (Z8f t v p) (St (λt=>(t.2.length:Int)=t.1) (λt=>t.1) l.length (λq:List Zp⊕(List Zp×Bool)=>match q with|.inl q=>q.length≤256|.inr y=>y.1=[]) t):=λv p hlt=>by
   unfold Z8f
   exact bd gk λ_ _=>bd wr λw hw=>nx (by simp only[List.length_append,List.length_cons,List.length_nil]; omega)
  exact brD (λhlt=>bd gr λv _=>brE (λ_=>bd (Z4h at_ _ ha) λw _=>brD (λ_=>dn rfl) λ_=>hj _ _ hlt) λ_=>hj _ _ hlt) λ_=>dn hd
 ·cases q with
  | inl q=>exact ok hq
  | inr y=>exact ok (by rw[hq]; simp)
theorem Y0d (s:List UInt8) (k:W3) (at_:List Int) (hk:TkOk s k) (ha:at_.length≤140737488355328):Ok (Zda k at_) (λr=>r.2=0→r.1.Xo.length≤65536∧r.1.Yz.length≤65536∧r.1.X9.length≤65536∧∀ m∈r.1.Yz,m.Yy.Zs.length≤256∧m.Yy.Zw.length≤256):=by
 have g1:=hk.hndL; have g2:=hk.mapL; have g3:=hk.lin; have g4:=hk.raw
 unfold Zda
 refine bd (P:=λq:List Zt⊕(Zi×Int)=>match q with|.inl q=>q.length≤65536|.inr y=>y.2≠0) (lp (λt=>t.1) k.f_C.Xo.length (λt=>(t.2.length:Int)=t.1) (λt hI h0 h1=>?_) (by omega) rfl) λq1 hq1=>?_
 ·unfold Zll Zkk
  have hd:t.2.length≤65536:=by omega
  exact brD (λhlt=>bd gr λv _=>bd (Z4h at_ _ ha) λ_ _=>bd (edge_ok at_ _ ha) λ_ _=>bd (Z4h at_ _ ha) λ_ _=>brD (λ_=>dn (by simp)) λ_=>brD (λ_=>dn (by simp)) λ_=>brD (λ_=>dn (by simp)) λ_=>bd gk λ_ _=>bd wr λw hw=>nx (by simp only[List.length_append,List.length_cons,List.length_nil]; omega)) λ_=>dn hd
 cases q1 with
 | inr y=>exact ok λh=>absurd h hq1
 | inl q1=>
 have hq1':q1.length≤65536:=hq1
 refine bd (P:=λq:List Zx⊕(Zi×Int)=>match q with|.inl q=>q.length≤65536∧∀ m∈q,m.Yy.Zs.length≤256∧m.Yy.Zw.length≤256|.inr y=>y.2≠0) (lp (λt=>t.1) k.f_C.Yz.length (λt=>(t.2.length:Int)=t.1∧∀ m∈t.2,m.Yy.Zs.length≤256∧m.Yy.Zw.length≤256) (λt hI h0 h1=>?_) (by omega) ⟨rfl,Wm⟩) λq2 hq2=>?_
 ·obtain⟨hI1,hI2⟩:=hI
  unfold Zi0 Zhc
  refine brD (λhlt=>bd gr λv hv=>?_) λ_=>dn ⟨by omega,hI2⟩
  obtain⟨f1,f2⟩:=hk.map v hv
  refine bd (Z4h at_ _ ha) λ_ _=>bd (Znd _ at_ f1.1 ha) λa ha'=>bd (Znd _ at_ f2.1 ha) λb hb'=>brD (λ_=>dn (by simp)) λ_=>br! (λ_=>dn (by simp)) λ_=>br! (λ_=>dn (by simp)) λ_=>bd gr λ_ _=>brD (λ_=>dn (by simp)) λ_=>bd gk λ_ _=>bd wr λw hw=>nx ⟨by simp only[List.length_append,List.length_cons,List.length_nil]; omega,Mr hI2 ⟨ha',hb'⟩⟩
 cases q2 with
 | inr y=>exact ok λh=>absurd h hq2
 | inl q2=>
 obtain⟨e1,e2⟩:=hq2
 refine bd (P:=λq:List Yd⊕(Zi×Int)=>match q with|.inl q=>q.length≤65536|.inr y=>y.2≠0) (lp (λt=>t.1) k.f_C.X9.length (λt=>(t.2.length:Int)=t.1) (λt hI h0 h1=>?_) (by omega) rfl) λq3 hq3=>?_
 ·unfold Zi8
  have hd:t.2.length≤65536:=by omega
  exact brD (λhlt=>bd gr λv _=>bd (Z4h at_ _ ha) λ_ _=>brD (λ_=>dn (by simp)) λ_=>bd gk λ_ _=>bd wr λw hw=>nx (by simp only[List.length_append,List.length_cons,List.length_nil]; omega)) λ_=>dn hd
 cases q3 with
 | inr y=>exact ok λh=>absurd h hq3
 | inl q3=>exact ok λ_=>⟨hq1',e1,hq3,e2⟩
theorem Zoe (p:List Z3) (s:List UInt8) (hp:Ym p) (hs:Str s):Ok (Zfk p s) (λ_=>True):=by
 unfold Zfk
 refine bd (Zz4 s hs) λv0 h0=>br (λ_=>ok trivial) λ_=>bd (dec_ok _) λv1 h1=>brN (λ_=>ok trivial) λh=>?_
 obtain⟨k1,k2⟩:=h1 h
 refine bd (Zlu v1.1 (λi hi=>(k1 i hi).w) (by omega)) λv2 h2=>brN (λ_=>ok trivial) λ_=>bd (Y0d s v0.1 v2.1 h0 (by have:=h2.2; omega)) λv3 h3=>brN (λ_=>ok trivial) λh=>?_
 obtain⟨e1,e2,e3,e4⟩:=h3 h
 exact brN (λ_=>ok trivial) λ_=>bd (Zrh p _ hp ⟨λi hi=>(k1 i hi).w,by dsimp only; omega,by dsimp only; omega,by dsimp only; omega,by dsimp only; omega,λm hm=>by have:=e4 m hm; dsimp only at *; omega⟩) λv4 _=>brN (λ_=>ok trivial) λ_=>ok trivial
theorem Zww (s:List UInt8) (hs:Str s):Ok (Zc5 s) (λr=>r.1.length≤65536):=by
 unfold Zc5
 refine bd (We s _ 2 (by omega) hs ⟨rfl,by dsimp only; omega,by dsimp only; omega⟩) λv0 h0=>bd (P:=RdT s 65536 λ_=>True) (rdL (n:=v0.1) ⟨h0.1.1,h0.1.2.2.1 rfl⟩ h0.2 λt hI g0 g1 hd=>?_) λq hq=>br (λ_=>ok (by simp)) λ_=>brN (λ_=>ok (by simp)) λ_=>bd (Zro _) λ_ _=>brN (λ_=>ok (by simp)) λ_=>ok hq.2.1
 have hl:=hI.2.1
 have:=h0.1.2.2.1 rfl
 unfold Zlr
 refine brD (λhlt=>br! (λ_=>?_) λ_=>dn hd) λ_=>dn hd
 unfold Zio
 exact bd (We s _ 2 (by omega) hs hI.1) λv1 h1=>bd gk λ_ _=>bd wr λ_ hv=>nx ⟨h1.2,by simp only[List.length_append,List.length_cons,List.length_nil]; omega,Mr hI.2.2 trivial⟩
end Go.Proofs
namespace Go.Proofs
open Go.Den Go.Tot
section
variable {p:List Z3} (hp:p.length≤1000)
include hp
theorem Zhs (a:Yv) (s:List UInt8):Ok (Z2l p a s) (λ_=>True):=by
 unfold Z2l
 exact bd (U1 p _ (by omega)) λ_ _=>brE (λ_=>ok trivial) λ_=>ok trivial
theorem Zmv (l:List Zr) (i:Int) (hl:l.length≤140737488355328) (h0:0≤i) (h1:i<l.length):Ok (Z7v p l i) (λ_=>True):=by
 unfold Z7v
 refine bd (gr h0 h1) λ_ _=>bd (U1 p _ (by omega)) λv1 _=>bd (gr h0 h1) λ_ _=>bd (U1 p _ (by omega)) λv3 _=>bd (P:=λ_=>True) (li i (λt g0 g1=>?_) (by omega) (by omega) (by omega)) λq _=>by cases q <;> exact ok trivial
 unfold Zki
 exact brD (λ_=>bd gr λ_ _=>bd (U1 p _ (by omega)) λ_ _=>bd gr λ_ _=>bd (U1 p _ (by omega)) λ_ _=>br (λ_=>br (λ_=>di trivial) λ_=>bd wr λ_ _=>ni (by omega) (by omega)) λ_=>bd wr λ_ _=>ni (by omega) (by omega)) λ_=>di trivial
theorem Zxn (i:Int) (d:List UInt8):Ok (Z99 p i d) (λ_=>True):=by
 unfold Z99
 refine bd (Z7g p i (by omega)) λv _=>brN (λ_=>ok trivial) λ_=>?_
 repeat' first
  | exact ok trivial
  | with_reducible refine br (λ_=>?_) λ_=>?_
theorem Zzq (m:Zr) (d:List UInt8) (hm:∀ a∈m.Xd,Str a.Q8):Ok (Zei p m d) (λ_=>True):=by
 unfold Zei Zke
 refine brE (λ_=>ok trivial) λ_=>bd gr λa ha=>brD (λ_=>ok trivial) λ_=>bs (br (λ_=>ok trivial) λ_=>bd (Zhs hp _ _) λ_ _=>br! (λ_=>ok trivial) λ_=>brN (λ_=>ok trivial) λ_=>bd (Z89 _ 0 2 (by omega) (hm a ha)) λ_ _=>bd (Zxn hp _ _) λ_ _=>ok trivial)
theorem Zmi (l:List Yv) (s:List UInt8) (hl:l.length≤140737488355328) (ha:∀ a∈l,Str a.Q8):Ok (Z4t p l s) (λr=>Str r.1∧0≤r.2∧r.2≤l.length):=by
 unfold Z4t
 refine bd (P:=λq:List UInt8×Int=>Str q.1∧0≤q.2∧q.2≤(l.length:Int)) (lp (λt=>t.2.2) l.length (λt=>Str t.1∧0≤t.2.1∧t.2.1≤t.2.2) (λt hI h0 h1=>?_) (by omega) ⟨by simp,by dsimp only; omega,by dsimp only; omega⟩) λq hq=>ok hq
 obtain⟨hI1,hI2,hI3⟩:=hI
 unfold Zj1
 exact brD (λhlt=>bd gr λa _=>bd (Zhs hp _ _) λ_ _=>br (λ_=>bd gr λb hb=>bd wr λ_ _=>bd wr λ_ _=>nx ⟨ha b hb,by dsimp only; omega,by dsimp only; omega⟩) λ_=>bd wr λ_ _=>nx ⟨hI1,by dsimp only; omega,by dsimp only; omega⟩) λ_=>dn ⟨hI1,by dsimp only; omega,by dsimp only; omega⟩
variable (hS:PS p 1024)
include hS
theorem Z74 (i:Int):Ok (Z02 p i) (λ_=>True):=by
 unfold Z02 Zg7
 exact brD (λ_=>ok trivial) λ_=>brD (λ_=>ok trivial) λ_=>bd (Zl6 p i (by omega) hS) λv hv=>brN (λ_=>ok trivial) λ_=>brE (λ_=>ok trivial) λ_=>bd gs λ_ _=>brE (λ_=>ok trivial) λ_=>ok trivial
theorem Zq7 (l:List Int) (s:List UInt8) (hl:l.length≤140737488355328):Ok (Z6n p l s) (λ_=>True):=by
 unfold Z6n
 refine bd (P:=λ_=>True) (li l.length (λt h0 h1=>?_) (by omega) (by omega) (by omega)) λq _=>by cases q <;> exact ok trivial
 unfold Zip
 exact brD (λ_=>bd gr λ_ _=>bd (Z74 hp hS _) λ_ _=>brE (λ_=>br (λ_=>di trivial) λ_=>bd wr λ_ _=>ni (by omega) (by omega)) λ_=>bd wr λ_ _=>ni (by omega) (by omega)) λ_=>di trivial
end
theorem Y1v (x y:Int):Ok (Z0i x y) (λ_=>True):=bs (ok trivial)
theorem Zmr (x y:Int):Ok (Z1n x y) (λ_=>True):=by
 unfold Z1n
 exact brD (λ_=>bs (ok trivial)) λ_=>ok trivial
theorem Zzs (x:Int):Ok (Z7k x) (λ_=>True):=by
 unfold Z7k Zf8 Zbm
 have h:∀ n:Int,Ok ((some (V1 .i64 x (4:Int))).bind λv3=>if (v3 !=0)=true then ((some (IntKind.wrap .i64 (n+(1:Int)))).bind λv4=>some (decide (v4≤1))) else (some (decide (n≤1)))) (λ_=>True):=λn=>bs (br (λ_=>bs (ok trivial)) λ_=>ok trivial)
 have h1:∀ n:Int,Ok ((some (V1 .i64 x (2:Int))).bind λv1=>if (v1 !=0)=true then ((some (IntKind.wrap .i64 (n+(1:Int)))).bind λv2=>(some (V1 .i64 x (4:Int))).bind λv3=>if (v3 !=0)=true then ((some (IntKind.wrap .i64 (v2+(1:Int)))).bind λv4=>some (decide (v4≤1))) else (some (decide (v2≤1)))) else ((some (V1 .i64 x (4:Int))).bind λv3=>if (v3 !=0)=true then ((some (IntKind.wrap .i64 (n+(1:Int)))).bind λv4=>some (decide (v4≤1))) else (some (decide (n≤1))))) (λ_=>True):=λn=>bs (br (λ_=>bs (h _)) λ_=>h _)
 exact bs (br (λ_=>h1 1) λ_=>h1 0)
theorem Zit (s:List UInt8) (x:Int):Ok (Z1l s x) (λ_=>True):=by
 unfold Z1l Z3e Z2j
 repeat' first
  | exact ok trivial
  | with_reducible refine br (λ_=>?_) λ_=>?_
  | with_reducible refine bd (Y1v _ _) λ_ _=>?_
  | with_reducible refine bd (Zmr _ _) λ_ _=>?_
  | with_reducible refine bd (Zzs _) λ_ _=>?_
  | with_reducible refine bs ?_
structure Mv (f:Yq):Prop where
 pool:Ym f.Q3
 ifsL:f.Ya.length≤140737488355328
 fldL:f.Yl.length≤140737488355328
 metL:f.Yo.length≤140737488355328
 attL:f.Xd.length≤140737488355328
 att:∀ a∈f.Xd,Str a.Q8
 mem:∀ m,m∈f.Yl∨m∈f.Yo→m.Xd.length≤140737488355328∧∀ a∈m.Xd,Str a.Q8
def FewF (f:Yq):Prop:=f.Ya.length≤8∧f.Yl.length≤64∧f.Yo.length≤64
theorem Y0o (f:Yq) (hf:Mv f):Ok (Zfu f) (λb=>b=false→FewF f):=by
 have g1:=hf.fldL; have g2:=hf.metL
 unfold Zfu Zm9
 refine brD (λ_=>ok (by simp)) λ_=>brD (λ_=>ok (by simp)) λ_=>brD (λ_=>ok (by simp)) λ_=>brD (λ_=>ok (by simp)) λ_=>?_
 have hd:FewF f:=⟨by omega,by omega,by omega⟩
 refine bd (P:=λ_=>True) (li f.Yl.length (λt h0 h1=>?_) (by omega) (by omega) (by omega)) λq _=>?_
 ·unfold Zha
  exact brD (λ_=>bd gr λ_ _=>brD (λ_=>di trivial) λ_=>bd wr λ_ _=>ni (by omega) (by omega)) λ_=>di trivial
 cases q with
 | inr _=>exact ok λ_=>hd
 | inl _=>
  refine bd (P:=λ_=>True) (li f.Yo.length (λt h0 h1=>?_) (by omega) (by omega) (by omega)) λq _=>by cases q <;> exact ok λ_=>hd
  unfold Zh4
  exact brD (λ_=>bd gr λ_ _=>brD (λ_=>di trivial) λ_=>bd wr λ_ _=>ni (by omega) (by omega)) λ_=>di trivial
theorem Zwp (f:Yq) (hf:Mv f) (hS:PS f.Q3 1024):Ok (Zbf f) (λe=>e=0→FewF f):=by
 have hp:=hf.pool.len
 have hi:=hf.ifsL
 have h3:∀ a (v:List UInt8×Int),Ok (Z8v a v f) (λe=>e=0→FewF f):=λa v=>by
  unfold Z8v
  exact bd (Y0o f hf) λb hb=>br (λ_=>ok (by simp)) λh=>br (λ_=>ok (by simp)) λ_=>bd (Zq7 hp hS _ _ hi) λ_ _=>br (λ_=>ok (by simp)) λ_=>ok λ_=>hb h
 have h2:∀ (v:List UInt8×Int) a,Ok (Z77 v f a) (λe=>e=0→FewF f):=λv a=>by
  unfold Z77
  exact bd (Zit _ _) λ_ _=>br! (λ_=>ok (by simp)) λ_=>br (λ_=>ok (by simp)) λ_=>bs (br (λ_=>br (λ_=>ok (by simp)) λ_=>h3 _ _) λ_=>h3 _ _)
 have h1:Ok (Z66 f) (λe=>e=0→FewF f):=by
  unfold Z66
  exact bd (Z74 hp hS _) λv _=>brN (λh=>ok λh'=>absurd h' h) λ_=>brN (λ_=>bd (Z74 hp hS _) λw _=>brN (λh=>ok λh'=>absurd h' h) λ_=>h2 _ _) λ_=>h2 _ _
 have hpl:∀ i,Ok (Z59 f.Q3 i) (λ_=>True):=λi=>by
  unfold Z59
  exact brD (λ_=>ok trivial) λ_=>ok trivial
 unfold Zbf
 exact bd (hpl _) λ_ _=>br! (λ_=>ok (by simp)) λ_=>brN (λ_=>bd (hpl _) λ_ _=>br! (λ_=>ok (by simp)) λ_=>h1) λ_=>h1
theorem Zyl (f:Yq) (hf:Mv f) (hS:PS f.Q3 1024) (i:Int) (h0:0≤i) (h1:i<f.Ya.length):Ok (Zd3 f i) (λ_=>True):=by
 have:=hf.ifsL
 unfold Zd3
 exact bd (gr h0 h1) λ_ _=>bd (Z74 hf.pool.len hS _) λ_ _=>brN (λ_=>ok trivial) λ_=>bd (sb (by omega) (by omega) (by omega)) λr hr=>bd (Zq7 hf.pool.len hS r _ (by have:=hr.1; omega)) λ_ _=>br (λ_=>ok trivial) λ_=>ok trivial
theorem Zya (f:Yq) (hf:Mv f) (hS:PS f.Q3 1024) (i:Int) (h0:0≤i) (h1:i<f.Yl.length):Ok (Zbv f i) (λ_=>True):=by
 have hp:=hf.pool.len
 have hl:f.Q3.length≤140737488355328:=by omega
 unfold Zbv
 refine bd (gr h0 h1) λm hm=>bd (U1 _ _ hl) λv1 e1=>brN (λ_=>ok trivial) λ_=>bd (Zi1 _ (by have:=Z34 hS e1; unfold Str; omega)) λb hb=>br! (λ_=>ok trivial) λh=>?_
 have hpos:=hb h
 refine bd gs λ_ _=>br (λ_=>ok trivial) λ_=>?_
 have h3:∀ v4 w,Ok (Z70 m v4 f i w) (λ_=>True):=λv4 w=>by
  unfold Z70
  exact bd (Zit _ _) λ_ _=>br! (λ_=>ok trivial) λ_=>bd (Zmv hp _ i hf.fldL h0 h1) λ_ _=>br (λ_=>ok trivial) λ_=>bd (Zzq hp m _ (hf.mem m (.inl hm)).2) λ_ _=>br! (λ_=>ok trivial) λ_=>ok trivial
 unfold Zgc Zgn
 exact bd (U1 _ _ hl) λv4 e4=>brN (λ_=>ok trivial) λ_=>bd (Z7j _ (by have:=Z34 hS e4; unfold Str; omega)) λ_ _=>brN (λ_=>ok trivial) λ_=>br (λ_=>ok trivial) λ_=>bs (br (λ_=>h3 _ _) λ_=>h3 _ _)
theorem Y0a (f:Yq) (hf:Mv f) (hS:PS f.Q3 1024) (m:Zr):Ok (Zba f m) (λr=>r.2.1.Mu.length≤1048576):=by
 have hl:f.Q3.length≤140737488355328:=by have:=hf.pool.len; omega
 have h1:∀ v0,Ok (Z64 v0 f m) (λr=>r.2.1.Mu.length≤1048576):=λv0=>by
  unfold Z64
  refine bd (U1 _ _ hl) λv3 e3=>brN (λ_=>ok (by simp)) λ_=>bd (Zgt _ (by have:=Z34 hS e3; omega)) λv4 e4=>brN (λ_=>ok (by simp)) λ_=>?_
  repeat' first
   | exact ok e4
   | exact ok (by simp)
   | with_reducible refine br (λ_=>?_) λ_=>?_
 unfold Zba
 exact bd (U1 _ _ hl) λv0 e0=>brN (λ_=>ok (by simp)) λ_=>bd (Zi1 _ (by have:=Z34 hS e0; unfold Str; omega)) λ_ _=>br! (λ_=>ok (by simp)) λ_=>br (λ_=>bs (br (λ_=>ok (by simp)) λ_=>h1 _)) λ_=>h1 _
theorem Y0i (f:Yq) (m:Zr) (s:List UInt8):Ok (Zbj f m s) (λ_=>True):=by
 unfold Zbj Zct
 repeat' first
  | exact ok trivial
  | with_reducible refine br (λ_=>?_) λ_=>?_
  | with_reducible refine bd (Zit _ _) λ_ _=>?_
  | with_reducible refine bd (Zmr _ _) λ_ _=>?_
  | with_reducible refine bs ?_
theorem Zxi (f:Yq) (hf:Mv f) (hS:PS f.Q3 1024) (m:Zr) (hm:m.Xd.length≤140737488355328∧∀ a∈m.Xd,Str a.Q8) (g:Qt) (hg:g.Mu.length≤1048576):Ok (Zar f.Q3 m g) (λ_=>True):=by
 have hp:=hf.pool.len
 unfold Zar
 refine bd (Zmi hp _ _ hm.1 hm.2) λv0 e0=>bd (Zmi hp _ _ hm.1 hm.2) λv1 e1=>bs (brD (λ_=>ok trivial) λ_=>brD (λ_=>ok trivial) λ_=>bd wr λ_ _=>brN (λ_=>ok trivial) λ_=>br (λ_=>ok trivial) λ_=>?_)
 have h4:∀ a b,Ok (Z6x a b) (λ_=>True):=λa b=>by
  unfold Z6x
  exact brD (λ_=>ok trivial) λ_=>ok trivial
 have h3:∀ a b,Ok (Z6m a v1 f.Q3 b) (λ_=>True):=λa b=>by
  unfold Z6m
  refine brD (λ_=>bd (Zww _ e1.1) λv7 e7=>brN (λ_=>ok trivial) λ_=>bd (P:=λ_=>True) (li v7.1.length (λt h0 h1=>?_) (by omega) (by omega) (by omega)) λq _=>?_) λ_=>h4 _ _
  ·unfold Zga
   exact brD (λ_=>bd gr λ_ _=>bd (Z74 hp hS _) λ_ _=>brN (λ_=>di trivial) λ_=>bd wr λ_ _=>ni (by omega) (by omega)) λ_=>di trivial
  ·cases q with
   | inl _=>exact h4 _ _
   | inr _=>exact ok trivial
 unfold Zkh Zey
 exact bs (br (λ_=>bd wr λ_ _=>br (λ_=>bd (Zoe _ _ hf.pool e0.1) λ_ _=>brN (λ_=>ok trivial) λ_=>h3 _ _) λ_=>h3 _ _) λ_=>br (λ_=>bd (Zoe _ _ hf.pool e0.1) λ_ _=>brN (λ_=>ok trivial) λ_=>h3 _ _) λ_=>h3 _ _)
theorem Zxy (f:Yq) (hf:Mv f) (hS:PS f.Q3 1024) (i:Int) (h0:0≤i) (h1:i<f.Yo.length):Ok (Zbq f i) (λ_=>True):=by
 unfold Zbq
 exact bd (gr h0 h1) λm hm=>bd (Y0a f hf hS m) λv1 e1=>brN (λ_=>ok trivial) λ_=>bd (Y0i _ _ _) λ_ _=>br! (λ_=>ok trivial) λ_=>bd (Zmv hf.pool.len _ i hf.metL h0 h1) λ_ _=>br (λ_=>ok trivial) λ_=>bd (Zxi f hf hS m (hf.mem m (.inr hm)) _ e1) λ_ _=>ok trivial
theorem Zy9 (f:Yq) (hf:Mv f) (hS:PS f.Q3 1024):Ok (Zb5 f) (λ_=>True):=by
 unfold Zb5 Zii
 exact brE (λ_=>ok trivial) λ_=>bd gr λa ha=>brD (λ_=>ok trivial) λ_=>bd (Zhs hf.pool.len _ _) λ_ _=>br! (λ_=>ok trivial) λ_=>brN (λ_=>ok trivial) λ_=>bd (Z89 _ 0 2 (by omega) (hf.att a ha)) λ_ _=>bd (U1 _ _ (by have:=hf.pool.len; omega)) λ_ _=>ok trivial
theorem Zje (s:List UInt8) (n:Int) (hs:s.length≤1000) (h0:0≤n) (h1:n<100):Ok (Z3f s n) (λ_=>True):=by
 unfold Z3f
 have h10:∀ a:Int,0≤a→a<10→Ok (sub ([48,49,50,51,52,53,54,55,56,57]:List UInt8) a (a+1)) (λr=>r.length≤1):=λa ha hb=>(sb ha (by omega) (by simp; omega)).mono λr hr=>by have:=hr.1; omega
 refine brD (λ_=>bd (ct (by simp; omega)) λv0 e0=>bd wr λv1 e1=>?_) λ_=>bd (ct (by simp; omega)) λv4 e4=>?_
 ·rw[e1]
  exact bd (h10 n h0 (by omega)) λv2 e2=>bd (ct (by have:=e0.2; simp at this; omega)) λ_ _=>ok trivial
 ·have hd:divK .i64 n 10=some (n / 10):=by
   unfold divK
   rw[if_pos (by decide)]
   congr 1
   rw[Int.tdiv_eq_ediv_of_nonneg h0]
   exact Ub (by omega) (by omega)
  have hm:modK n 10=some (n % 10):=by
   unfold modK
   rw[if_pos (by decide)]
   congr 1
   exact Int.tmod_eq_emod_of_nonneg h0
  rw[hd,hm]
  refine bs (bs (bd wr λv7 e7=>?_))
  rw[e7]
  refine bd (h10 _ (by omega) (by omega)) λv8 e8=>bd (ct (by have:=e4.2; simp at this; omega)) λv9 e9=>bs (bs (bd wr λv12 e12=>?_))
  rw[e12]
  exact bd (h10 _ (by omega) (by omega)) λv13 e13=>bd (ct (by have:=e4.2; have:=e9.2; simp at *; omega)) λ_ _=>ok trivial
theorem Zzh (f:Yq) (hf:Mv f):Ok (Z9m f) (λr=>r.2=0→FewF f):=by
 unfold Z9m
 refine bd (Zn3 _ hf.pool) λv0 h0=>brN (λh=>ok λh'=>absurd h' h) λh=>?_
 have hS:=h0 h
 refine bd (Zwp f hf hS) λv1 h1=>brN (λh=>ok λh'=>absurd h' h) λh=>?_
 have hF:=h1 h
 have k1:=hF.1; have k2:=hF.2.1; have k3:=hF.2.2
 refine bd (P:=λ_=>True) (li f.Ya.length (λt h0 h1=>?_) (by omega) (by omega) (by omega)) λq _=>?_
 ·unfold Zkq
  exact brD (λhlt=>bd (Zyl f hf hS t h0 hlt) λ_ _=>brN (λ_=>bd (Zje _ t (by simp) h0 (by omega)) λ_ _=>di trivial) λ_=>bd wr λ_ _=>ni (by omega) (by omega)) λ_=>di trivial
 cases q with
 | inr _=>exact ok λ_=>hF
 | inl _=>
 refine bd (P:=λ_=>True) (li f.Yl.length (λt h0 h1=>?_) (by omega) (by omega) (by omega)) λq _=>?_
 ·unfold Zkz
  exact brD (λhlt=>bd (Zya f hf hS t h0 hlt) λ_ _=>brN (λ_=>bd (Zje _ t (by simp) h0 (by omega)) λ_ _=>di trivial) λ_=>bd wr λ_ _=>ni (by omega) (by omega)) λ_=>di trivial
 cases q with
 | inr _=>exact ok λ_=>hF
 | inl _=>
 refine bd (P:=λ_=>True) (li f.Yo.length (λt h0 h1=>?_) (by omega) (by omega) (by omega)) λq _=>?_
 ·unfold Zlf
  exact brD (λhlt=>bd (Zxy f hf hS t h0 hlt) λ_ _=>brN (λ_=>bd (Zje _ t (by simp) h0 (by omega)) λ_ _=>di trivial) λ_=>bd wr λ_ _=>ni (by omega) (by omega)) λ_=>di trivial
 cases q with
 | inr _=>exact ok λ_=>hF
 | inl _=>exact bd (Zy9 f hf hS) λ_ _=>br! (λ_=>ok λ_=>hF) λ_=>ok λ_=>hF
end Go.Proofs
namespace Go.Proofs
open Go.Den Go.Tot
def FewM (u:Zu):Prop:=u.Ya.length≤8∧u.Yl.length≤64∧u.Yo.length≤64
theorem Y1j (u:Zu) (hu:U4 u):Ok (Zg4 u) (λr=>r.2=0→FewM u):=by
 have gm:=hu.metL
 unfold Zg4
 refine bd (Y0n u hu) λ_ _=>br! (λ_=>ok (by simp)) λ_=>bd (Zx6 _ u Ym.nil hu) λv1 h1=>brN (λh=>ok λh'=>absurd h' h) λ_=>?_
 have hm:=h1.fam.m; have hc:=h1.fam.c; have ht:=h1.fam.t; have hs:=h1.fam.s
 refine bd (P:=λq:List (List UInt8)⊕(Yq×Int)=>match q with|.inl q=>(q.length:Int)=u.Yo.length∧∀ s∈q,Str s|.inr y=>y.2≠0) (lp (λt=>t.1) u.Yo.length (λt=>(t.2.length:Int)=t.1∧∀ s∈t.2,Str s) (λt hI h0 h1'=>?_) (by omega) ⟨rfl,Wm⟩) λq1 hq1=>?_
 ·obtain⟨hI1,hI2⟩:=hI
  unfold l93x1
  have hj:t.1<u.Yo.length→∀ s e,Str s→Ok (Z5m t s e) (St (λt=>(t.2.length:Int)=t.1∧∀ s∈t.2,Str s) (λt=>t.1) u.Yo.length (λq:List (List UInt8)⊕(Yq×Int)=>match q with|.inl q=>(q.length:Int)=u.Yo.length∧∀ s∈q,Str s|.inr y=>y.2≠0) t):=λhlt s e hs'=>by
   unfold Z5m
   exact brN (λh=>dn h) λ_=>bd gk λ_ _=>bd wr λ_ hv=>nx ⟨by simp only[List.length_append,List.length_cons,List.length_nil]; omega,Lm hI2 hs'⟩
  exact brD (λhlt=>bd gr λ_ _=>br (λ_=>bd gr λc hcm=>bd (Zy5 _ c h1.pool (h1.fam.code c hcm)) λv8 h8=>hj (by omega) _ _ h8) λ_=>hj (by omega) _ _ (by simp)) λhge=>dn ⟨by omega,hI2⟩
 cases q1 with
 | inr y=>exact ok λh=>absurd h hq1
 | inl q0=>
 obtain⟨k1,k2⟩:=hq1
 refine bd (P:=λq:List Zr⊕(Yq×Int)=>match q with|.inl q=>(q.length:Int)=u.Yo.length∧∀ m∈q,m.Xd.length≤2∧∀ a∈m.Xd,Str a.Q8|.inr y=>y.2≠0) (lp (λt=>t.1) u.Yo.length (λt=>(t.2.length:Int)=t.1∧∀ m∈t.2,m.Xd.length≤2∧∀ a∈m.Xd,Str a.Q8) (λt hI h0 h1'=>?_) (by omega) ⟨rfl,Wm⟩) λq3 hq3=>?_
 ·obtain⟨hI1,hI2⟩:=hI
  have h3:t.1<u.Yo.length→∀ p:List Yv,(p.length≤2∧∀ a∈p,Str a.Q8)→Ok (Z68 t v1 p) (St (λt=>(t.2.length:Int)=t.1∧∀ m∈t.2,m.Xd.length≤2∧∀ a∈m.Xd,Str a.Q8) (λt=>t.1) u.Yo.length (λq:List Zr⊕(Yq×Int)=>match q with|.inl q=>(q.length:Int)=u.Yo.length∧∀ m∈q,m.Xd.length≤2∧∀ a∈m.Xd,Str a.Q8|.inr y=>y.2≠0) t):=λhlt p hp=>by
   unfold Z68
   exact bd gr λ_ _=>bd gk λ_ _=>bd wr λ_ hv=>nx ⟨by simp only[List.length_append,List.length_cons,List.length_nil]; omega,Lm hI2 hp⟩
  have h2:t.1<u.Yo.length→∀ p:List Yv,(p.length≤1∧∀ a∈p,Str a.Q8)→Ok (Z5q t v1 p) (St (λt=>(t.2.length:Int)=t.1∧∀ m∈t.2,m.Xd.length≤2∧∀ a∈m.Xd,Str a.Q8) (λt=>t.1) u.Yo.length (λq:List Zr⊕(Yq×Int)=>match q with|.inl q=>(q.length:Int)=u.Yo.length∧∀ m∈q,m.Xd.length≤2∧∀ a∈m.Xd,Str a.Q8|.inr y=>y.2≠0) t):=λhlt p hp=>by
   unfold Z5q
   exact bd gr λ_ _=>brN (λ_=>bd gr λ_ _=>bd (Zro _) λv30 h30=>brN (λh=>dn h) λ_=>bd gr λ_ _=>bd gk λ_ _=>h3 hlt _ ⟨by simp only[List.length_append,List.length_cons,List.length_nil]; omega,Lm hp.2 h30⟩) λ_=>h3 hlt p ⟨by omega,hp.2⟩
  unfold l93x2
  exact brD (λhlt=>bd gr λ_ _=>br (λ_=>bd gr λ_ _=>bd ik λj hj=>bd (la (by omega)) λb hb=>bd (gk (by simp) (by simp)) λ_ _=>h2 (by omega) _ ⟨by simp,Lm Wm (k2 b hb.2)⟩) λ_=>h2 (by omega) _ ⟨by simp,Wm⟩) λhge=>dn ⟨by omega,hI2⟩
 cases q3 with
 | inr y=>exact ok λh=>absurd h hq3
 | inl q2=>
 obtain⟨e1,e2⟩:=hq3
 refine bd (Zzh _ ⟨h1.pool,by have:=h1.ifsL; have:=hu.ifsL; dsimp only; omega,by have:=h1.fldL; have:=hu.fldL; dsimp only; omega,by dsimp only; omega,by have:=h1.attL; dsimp only; omega,h1.att,λm hm=>?_⟩) λw hw=>brN (λh=>ok λh'=>absurd h' h) λh=>ok λ_=>?_
 rotate_left
 ·have hF:v1.2.f_F.Ya.length≤8∧v1.2.f_F.Yl.length≤64∧q2.length≤64:=hw h
  have:=h1.ifsL; have:=h1.fldL; exact⟨by omega,by omega,by omega⟩
 rcases hm with hm|hm
 ·have:=h1.fld m hm; exact⟨by omega,this.2⟩
 ·have:=e2 m hm; exact⟨by omega,this.2⟩
theorem Zwz (u:Zu) (hu:U4 u):Ok (Zil u) (λe=>e=0→FewM u):=bd (Y1j u hu) λ_ h=>ok h
theorem Zkr (w:Zj) (n i:Int) (s:List UInt8) (b:Bool) (hi:i≤w.Zy.length):Ok (Z3h w n i s b) (λr=>r=true→0≤n∧n<i):=by
 unfold Z3h
 exact brD (λ_=>brD (λ_=>bd gr λ_ _=>br (λ_=>bd gr λ_ _=>bs (ok λ_=>⟨by omega,by omega⟩)) λ_=>ok (by simp)) λ_=>ok (by simp)) λ_=>ok (by simp)
theorem Zqw (w:Zj) (l:Int) (s:List UInt8) (hw:Wn w):Ok (Z1x w l s) (λ_=>True):=by
 have:=hw.iniL
 unfold Z1x
 refine bd (P:=λ_=>True) (li w.X1.length (λt h0 h1=>?_) (by omega) (by omega) (by omega)) λq _=>by cases q <;> exact ok trivial
 unfold Z92
 exact brD (λ_=>bd gr λ_ _=>br (λ_=>bd gr λ_ _=>br (λ_=>bd gr λ_ _=>di trivial) λ_=>bd wr λ_ _=>ni (by omega) (by omega)) λ_=>bd wr λ_ _=>ni (by omega) (by omega)) λ_=>di trivial
structure Z1y (w:Zj) (i:Int) (c:Y7):Prop where
 sup:c.Yn= -1∨(0≤c.Yn∧c.Yn<i)
 ifs:∀ n∈c.Ya,0≤n∧n<i
 ifsL:c.Ya.length≤8
 few:FewM c.Xg
 lod:0≤c.Xj∧c.Xj<w.X3.length
 lang:c.Xj≠0→Z15 c.Xg.Ze [108,97,110,103,47]=some false
theorem Zzr (w:Zj) (hw:Wn w) (i:Int) (h0:0≤i) (h1:i<w.Zy.length) (c:Y7) (hg:Z5 w.Zy i=some c) (hm:c∈w.Zy):Ok (Zes w i) (λb=>b=true→Z1y w i c):=by
 have hcl:=hw.clsL
 obtain⟨hmod,hifs⟩:=hw.cls c hm
 have hmi:=hmod.ifsL
 have z:Ok (some false) (λb=>b=true→Z1y w i c):=ok (by simp)
 unfold Zes
 rw[hg]
 refine bs (brD (λ_=>z) λk0=>brD (λ_=>z) λk1=>bd (Zwz _ hmod) λ_ hck=>brN (λ_=>z) λhck0=>brN (λ_=>z) λhlen=>?_)
 have h2:(c.Yn= -1∨(0≤c.Yn∧c.Yn<i))→(c.Xj≠0→Z15 c.Xg.Ze [108,97,110,103,47]=some false)→Ok (Z4p c w i) (λb=>b=true→Z1y w i c):=λhs hl=>by
  unfold Z4p
  refine bd (P:=λq:Unit⊕Bool=>match q with|.inl _=>∀ n∈c.Ya,0≤n∧n<i|.inr b=>b=false) (Un (P:=λn=>0≤n∧n<i) hifs (λt g0 g1 v hv hvm hvg=>?_) λt g0 g1 ha=>?_) λq hq=>?_
  ·unfold Zdw
   rw[hvg]
   exact brD (λ_=>bs (bd gr λ_ _=>bd (Zkr w v i _ _ (by omega)) λb hb=>br! (λ_=>ok rfl) λh=>bd wr λ_ hw'=>ok ⟨hw',hb h⟩)) λh=>absurd g1 h
  ·unfold Zdw
   exact brD (λh=>absurd h (by omega)) λ_=>ok ha
  cases q with
  | inr b=>exact ok λh=>by cases hq.symm.trans h
  | inl _=>
   have hd:Z1y w i c:=⟨hs,hq,by have:=(hck hck0).1; omega,hck hck0,⟨by omega,by omega⟩,hl⟩
   refine bd (P:=λ_=>True) (li i (λt g0 g1=>?_) (by omega) (by omega) (by omega)) λq _=>?_
   ·unfold l56x2
    exact brD (λ_=>bd gr λ_ _=>br (λ_=>bd gr λ_ _=>br (λ_=>di trivial) λ_=>bd wr λ_ _=>ni (by omega) (by omega)) λ_=>bd wr λ_ _=>ni (by omega) (by omega)) λ_=>di trivial
   cases q with
   | inr _=>exact ok λ_=>hd
   | inl _=>exact bd (Zqw w _ _ hw) λ_ _=>br (λ_=>br (λ_=>brD (λ_=>brD (λ_=>ok λ_=>hd) λ_=>ok λ_=>hd) λ_=>ok λ_=>hd) λ_=>ok λ_=>hd) λ_=>ok λ_=>hd
 have h3:(c.Xj≠0→Z15 c.Xg.Ze [108,97,110,103,47]=some false)→Ok (Z8i c w i) (λb=>b=true→Z1y w i c):=λhl=>by
  unfold Z8i
  exact brE (λhe=>br! (λ_=>bd (Zkr w _ i _ _ (by omega)) λb hb=>br! (λ_=>z) λh=>h2 (.inr (hb h)) hl) λ_=>h2 (.inl he) hl) λ_=>br! (λ_=>bd (Zkr w _ i _ _ (by omega)) λb hb=>br! (λ_=>z) λh=>h2 (.inr (hb h)) hl) λ_=>z
 exact brN (λ_=>bdE (Zmd _ _) λb hb _=>br (λ_=>z) λh=>h3 λ_=>by rw[hb,h]) λh=>h3 λh'=>absurd h h'
structure Vn (w:Zj):Prop where
 cls:∀ (i:Nat) c,w.Zy[i]?=some c→Z1y w i c
 few:w.Zy.length≤200
theorem Zxr (w:Zj) (hw:Wn w):Ok (Z5k w) (λb=>b=true→Vn w):=by
 have hcl:=hw.clsL; have hil:=hw.iniL; have hcon:=hw.conL
 unfold Z5k
 refine bd (Zy0 _ hw.lod hw.lodL) λv0 h0=>brN (λ_=>ok (by simp)) λh=>brD (λ_=>ok (by simp)) λhc2=>brD (λ_=>ok (by simp)) λ_=>?_
 have hl8:=h0 h
 unfold j26x1
 refine bd (P:=λq:Unit⊕Bool=>match q with|.inl _=>∀ b∈w.Qq,M2 w b|.inr b=>b=false) (Un (P:=M2 w) hcon (λt g0 g1 v hv hvm hvg=>?_) λt g0 g1 ha=>?_) λq hq=>?_
 ·unfold Zb6
  rw[hvg]
  exact brD (λ_=>bs (brD (λ_=>ok rfl) λ_=>brD (λ_=>ok rfl) λ_=>brD (λ_=>ok rfl) λ_=>brD (λ_=>ok rfl) λ_=>bd (Zeq _ (hw.con v hvm)) λ_ _=>br! (λ_=>ok rfl) λ_=>bd wr λ_ hw'=>ok ⟨hw',by omega,by omega,by omega,by omega⟩)) λh=>absurd g1 h
 ·unfold Zb6
  exact brD (λh=>absurd h (by omega)) λ_=>ok ha
 cases q with
 | inr b=>exact ok λh=>by cases hq.symm.trans h
 | inl _=>
 have hcons:∀ b∈w.Qq,M2 w b:=hq
 refine bd (P:=λq:Unit⊕Bool=>match q with|.inl _=>True|.inr b=>b=false) (lp (λt=>t) w.X1.length (λt=>∀ (j:Nat) v,(j:Int)<t→w.X1[j]?=some v→Mg w v) (λt hI g0 g1=>?_) (by omega) (λj v h=>by omega) (by omega) (by omega)) λq hq=>?_
 ·unfold l26x2
  refine brD (λhlt=>bd (Zz9 w t hw g0 hlt) λb hb=>br! (λ_=>dn rfl) λh=>?_) λ_=>dn trivial
  have hall:∀ (j:Nat) v,(j:Int)≤t→w.X1[j]?=some v→Mg w v:=λj v hj hv=>by
   rcases Int.lt_or_le (j:Int) t with h'|h'
   ·exact hI j v h' hv
   ·have:j=t.toNat:=by omega
    subst this
    exact hb h v hv
  exact bd (Y0r w t hw hl8 hcons g0 hlt hall) λ_ _=>br! (λ_=>dn rfl) λ_=>bd wr λk hk=>nx (λj v hj hv=>hall j v (by omega) hv) (by omega) (by omega)
 cases q with
 | inr b=>exact ok λh=>by cases hq.symm.trans h
 | inl _=>
 refine bd (P:=λq:Unit⊕Bool=>match q with|.inl _=>Vn w|.inr b=>b=false) (lp (λt=>t) w.Zy.length (λt=>∀ (j:Nat) c,(j:Int)<t→w.Zy[j]?=some c→Z1y w j c) (λt hI g0 g1=>?_) (by omega) (λj v h=>by omega) (by omega) (by omega)) λq hq=>?_
 ·unfold l26x3
  refine brD (λhlt=>?_) λhge=>dn ⟨λj c hc=>hI j c (by have:=(List.getElem?_eq_some_iff.1 hc).1; omega) hc,by omega⟩
  obtain⟨c,hg,hm,hi⟩:=gri (l:=w.Zy) g0 hlt
  refine bd (Zzr w hw t g0 hlt c hg hm) λb hb=>br! (λ_=>dn rfl) λh=>bd wr λk hk=>nx (λj d hj hd=>?_) (by omega) (by omega)
  rcases Int.lt_or_le (j:Int) t with h'|h'
  ·exact hI j d h' hd
  ·have:j=t.toNat:=by omega
   subst this
   rw[hi] at hd; cases hd
   have:=hb h
   rwa [show ((t.toNat:Nat):Int)=t by omega]
 cases q with
 | inr b=>exact ok λh=>by cases hq.symm.trans h
 | inl _=>exact ok λ_=>hq
end Go.Proofs
