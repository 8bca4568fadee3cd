/-
  That the models come to an answer, part one: names and loaders. No condition.
-/
import Derived.Test.YtaamfcpmekeahaaGreatDoorGbg8
import Derived.Test.YtaamfcpmekeahaaGreatDoorGcF
import Derived.Test.YtaamfcpmekeahaaGreatDoorGbgD
set_option linter.unusedVariables false
set_option linter.unusedSimpArgs false
namespace Go.Proofs
open Go.Den Go.Tot
abbrev Str (s:List UInt8):Prop:=s.length≤4503599627370496
structure WRef (r:Xw):Prop where
 c:Str r.Zy
 n:Str r.Zn
 d:Str r.Xh
structure Qy (i:Zg):Prop where
 keys:i.Yg.length*8≤140737488355328
 tos:i.Zs.length*8≤140737488355328
 ref:WRef i.Yv
 s:Str i.f_S
structure Lh (f:V8):Prop where
 loc:∀ v∈f.Y1,Str v.Zt.Zn
 locL:f.Y1.length*56≤140737488355328
 stk:∀ v∈f.Y5,Str v.Zt.Zn
 stkL:f.Y5.length*56≤140737488355328
structure Wu (c:Zx):Prop where
 ins:∀ i∈c.Y7,Qy i
 insL:c.Y7.length*144≤140737488355328
 hnd:∀ h∈c.Xm,Str h.Zt
 hndL:c.Xm.length*48≤140737488355328
 map:∀ m∈c.Xe,Lh m.Xa
 mapL:c.Xe.length*64≤140737488355328
 linL:c.Xf.length*16≤140737488355328
structure Ks (m:Q6):Prop where
 n:Str m.Zn
 d:Str m.Xh
 code:Wu m.Qc
 exc:∀ s∈m.Wg,Str s
 excL:m.Wg.length*16≤140737488355328
structure Z2f (f:Ql):Prop where
 n:Str f.Zn
 d:Str f.Xh
 s:Str f.f_S
structure Wv (u:Yj):Prop where
 n:Str u.Zn
 sup:Str u.Ys
 ifs:∀ s∈u.Yc,Str s
 ifsL:u.Yc.length*16≤140737488355328
 fld:∀ f∈u.Ym,Z2f f
 fldL:u.Ym.length*72≤140737488355328
 met:∀ m∈u.Yo,Ks m
 metL:u.Yo.length*184≤140737488355328
 src:Str u.Ui
structure Jq (l:Yk):Prop where
 del:∀ d∈l.Va,Str d.L7
 delL:l.Va.length≤140737488355328
 sto:∀ c∈l.Qv,Str c.Zn
 stoL:l.Qv.length≤140737488355328
structure Wo (w:Zq):Prop where
 lod:∀ l∈w.X3,Jq l
 lodL:w.X3.length≤140737488355328
 cls:∀ c∈w.Y6,Wv c.Xp∧c.Yc.length≤140737488355328
 clsL:w.Y6.length≤140737488355328
 ini:∀ x∈w.Yr,Str x.Zn
 iniL:w.Yr.length≤140737488355328
 con:∀ x∈w.Q3,Str x.Zn
 conL:w.Q3.length≤140737488355328
theorem Y1e (x:Int):Ok (Zfi x) (λ_=>True):=by
 unfold Zfi
 repeat' with_reducible first
  | refine brD (λ_=>?_) λ_=>?_
  | refine brE (λ_=>?_) λ_=>?_
  | refine ok ?_
  | exact True.intro
theorem L34x1 (x:List UInt8) (h:Str x):Ok (Z8 (Zf5 x) Zb 0) (λq=>match q with|.inl _=>True|.inr y=>y=false):=by
 refine li (x.length) (λt _ _=>?_) (by omega) (by omega) (by omega)
 unfold Zf5
 repeat' first
  | (with_reducible first|refine ni ?_ ?_|refine di ?_|refine brD (λ_=>?_) λ_=>?_|refine br! (λ_=>?_) λ_=>?_|refine brE (λ_=>?_) λ_=>?_|refine bd gs λ_ _=>?_|refine bd wr λ_ _=>?_|refine bd (Y1e _) λ_ _=>?_)
  | (rfl)
  | exact True.intro
  | omega
theorem Zjn (x:List UInt8) (h:Str x):Ok (Z4r x) (λb=>b=true→x≠[]):=by
 unfold Z4r
 repeat' first
  | (with_reducible first|refine bd (L34x1 _ ?_) λ_ _=>?_|refine ok ?_)
  | split
  | (first|(intro h; rintro rfl; simp at h; done)|(simp_all; done))
  | assumption
  | omega
  | exact And.left (by assumption)
  | (dsimp only; omega)
theorem L20x1 (x:List UInt8) (h:Str x):Ok (Z8 (Zes x) Zb (0,0)) (λq=>match q with|.inl y=>0≤y∧y≤x.length|.inr y=>True):=by
 refine lp (λt=>t.2) (x.length) (λt=>0≤t.1∧t.1≤t.2) (λt a _ _=>?_) (by omega) (by omega) (by omega) (by omega)
 try dsimp only at*
 unfold Zes
 repeat' first
  | (with_reducible first|refine nx ?_ ?_ ?_|refine dn ?_|refine brD (λ_=>?_) λ_=>?_|refine br! (λ_=>?_) λ_=>?_|refine brE (λ_=>?_) λ_=>?_|refine bd gs λ_ _=>?_|refine bd wr λ_ _=>?_|refine bd sb λ_ _=>?_|refine bd (Zjn _ (by unfold Str; omega)) λ_ _=>?_)
  | exact True.intro
  | omega
theorem Zb9 (x:List UInt8) (h:Str x):Ok (Z2y x) (λb=>b=true→x.length≤64):=by
 unfold Z2y
 repeat' first
  | (with_reducible first|refine bdE (L20x1 _ (by assumption)) λq _ hq=>?_|refine brD (λ_=>?_) λ_=>?_|refine bd sb λ_ _=>?_|refine bd (Zjn _ (by unfold Str; omega)) λ_ _=>?_|refine ok ?_)
  | split
  | ((intro a; first|(cases a; done)|omega))
theorem Zqx (x y:List UInt8):Ok (Z1k x y) (λ_=>True):=by
 unfold Z1k
 repeat' with_reducible first
  | refine brD (λ_=>?_) λ_=>?_
  | refine bd sb λ_ _=>?_
  | refine ok ?_
  | exact True.intro
theorem L32x1 (x:Yk) (i:Int) (h:Jq x):Ok (Z8 (Zf2 x i) Zb 0) (λ_=>True):=by
 have:=h.stoL
 refine li (x.Qv.length) (λt _ _=>?_) (by omega) (by omega) (by omega)
 unfold Zf2
 repeat' first
  | (with_reducible first|refine ni ?_ ?_|refine di ?_|refine brD (λ_=>?_) λ_=>?_|refine br (λ_=>?_) λ_=>?_|refine bd gr λ_ _=>?_|refine bd wr λ_ _=>?_|refine bd (Zb9 _ (by exact h.sto _ (by assumption))) λ_ _=>?_|refine bd (Zqx _ _) λ_ _=>?_)
  | exact True.intro
  | omega
theorem Y27 (x:Yk) (i:Int) (h:Jq x):Ok (Zhb x i) (λ_=>True):=by
 unfold Zhb
 repeat' first
  | (with_reducible first|refine bd (L32x1 _ _ ?_) λ_ _=>?_|refine ok ?_)
  | split
  | assumption
  | omega
  | exact And.left (by assumption)
  | (dsimp only; omega)
theorem L33x2 (k:Int) (x:Yk) (c:x.Qv.length≤140737488355328) (a:0≤k) (b:k<x.Qv.length):Ok (Z8 (Zf4 k x) Zb 0) (λ_=>True):=by
 refine li (k) (λt _ _=>?_) (by omega) (by omega) (by omega)
 unfold Zf4
 repeat' first
  | (with_reducible first|refine ni ?_ ?_|refine di ?_|refine brD (λ_=>?_) λ_=>?_|refine br (λ_=>?_) λ_=>?_|refine bd gr λ_ _=>?_|refine bd wr λ_ _=>?_)
  | exact True.intro
  | omega
theorem L33x1 (x:Yk) (a:x.Qv.length≤140737488355328):Ok (Z8 (Zf3 x) Zb 0) (λ_=>True):=by
 refine li (x.Qv.length) (λt _ _=>?_) (by omega) (by omega) (by omega)
 unfold Zf3
 repeat' first
  | (with_reducible first|refine ni ?_ ?_|refine di ?_|refine brD (λ_=>?_) λ_=>?_|refine bd wr λ_ _=>?_|refine bd (L33x2 _ _ ?_ ?_ ?_) λ_ _=>?_)
  | split
  | exact True.intro
  | omega
  | assumption
  | exact And.left (by assumption)
  | (dsimp only; omega)
theorem Y28 (x:Yk) (a:x.Qv.length≤140737488355328):Ok (Zhc x) (λ_=>True):=by
 unfold Zhc
 repeat' first
  | (with_reducible first|refine bd (L33x1 _ ?_) λ_ _=>?_|refine ok ?_)
  | split
  | assumption
  | omega
  | exact And.left (by assumption)
  | (dsimp only; omega)
theorem L19x1 (x:List Yk) (h:∀ l∈x,Jq l) (a:x.length≤140737488355328):Ok (Z8 (Zen x) Zb 0) (λ_=>True):=by
 refine li (x.length) (λt _ _=>?_) (by omega) (by omega) (by omega)
 unfold Zen
 repeat' first
  | (with_reducible first|refine ni ?_ ?_|refine di ?_|refine brD (λ_=>?_) λ_=>?_|refine bd gr λ_ _=>?_|refine bd wr λ_ _=>?_)
  | exact True.intro
  | omega
theorem L19x3 (k:Int) (x:List Yk) (h:∀ l∈x,Jq l) (e:x.length≤140737488355328) (a:0≤k) (b:k<x.length):Ok (Z8 (Zep k x) Zb 0) (λ_=>True):=by
 obtain⟨y,d,c⟩:=gr a b
 have:=(h y c).delL
 refine li (y.Va.length) (λt _ _=>?_) (by omega) (by omega) (by omega)
 unfold Zep
 simp only[d]
 repeat' first
  | (with_reducible first|refine ni ?_ ?_|refine di ?_|refine brD (λ_=>?_) λ_=>?_|refine bd gr λ_ _=>?_|refine bd wr λ_ _=>?_|refine bs ?_)
  | exact True.intro
  | omega
theorem L19x2 (x:List Yk) (h:∀ l∈x,Jq l) (a:x.length≤140737488355328):Ok (Z8 (Zeo x) Zb 0) (λ_=>True):=by
 refine li (x.length) (λt _ _=>?_) (by omega) (by omega) (by omega)
 unfold Zeo
 repeat' first
  | (with_reducible first|refine ni ?_ ?_|refine di ?_|refine brD (λ_=>?_) λ_=>?_|refine bd wr λ_ _=>?_|refine bd (L19x3 _ _ ?_ ?_ ?_ ?_) λ_ _=>?_)
  | split
  | exact True.intro
  | omega
  | assumption
  | exact And.left (by assumption)
  | (dsimp only; omega)
theorem L19x4 (x:List Yk) (h:∀ l∈x,Jq l) (a:x.length≤140737488355328):Ok (Z8 (Zeq x) Zb 0) (λ_=>True):=by
 refine li (x.length) (λt _ _=>?_) (by omega) (by omega) (by omega)
 unfold Zeq
 repeat' first
  | (with_reducible first|refine ni ?_ ?_|refine di ?_|refine brD (λ_=>?_) λ_=>?_|refine brN (λ_=>?_) λ_=>?_|refine bd gr λ_ _=>?_|refine bd wr λ_ _=>?_|refine bd (Y27 _ _ (by exact h _ (by assumption))) λ_ _=>?_)
  | exact True.intro
  | omega
theorem L19x5 (x:List Yk) (h:∀ l∈x,Jq l) (a:x.length≤140737488355328):Ok (Z8 (Zer x) Zb 0) (λ_=>True):=by
 refine li (x.length) (λt _ _=>?_) (by omega) (by omega) (by omega)
 unfold Zer
 repeat' first
  | (with_reducible first|refine ni ?_ ?_|refine di ?_|refine brD (λ_=>?_) λ_=>?_|refine br (λ_=>?_) λ_=>?_|refine bd gr λ_ _=>?_|refine bd wr λ_ _=>?_|refine bd (Y28 _ (by exact(h _ (by assumption)).stoL)) λ_ _=>?_)
  | exact True.intro
  | omega
theorem Y24 (x:List Yk) (h:∀ l∈x,Jq l) (a:x.length≤140737488355328):Ok (Zh5 x) (λe=>e=0→x.length≤8):=by
 unfold Zh5
 repeat' first
  | unfold j65x1
  | (with_reducible first|refine brD (λ_=>?_) λ_=>?_|refine bd (L19x1 _ ?_ ?_) λ_ _=>?_|refine bd (L19x2 _ ?_ ?_) λ_ _=>?_|refine bd (L19x4 _ ?_ ?_) λ_ _=>?_|refine bd (L19x5 _ ?_ ?_) λ_ _=>?_|refine ok ?_)
  | split
  | omega
  | assumption
  | exact And.left (by assumption)
  | (dsimp only; omega)
theorem L21x1 (v:Q2) (w:Zq) (i:Int) (h:Wo w) (a:0≤i) (b:i<w.Yr.length):Ok (Z8 (Zet v w i) Zb 0) (λ_=>True):=by
 have:=h.iniL
 refine li (i) (λt _ _=>?_) (by omega) (by omega) (by omega)
 unfold Zet
 repeat' first
  | (with_reducible first|refine ni ?_ ?_|refine di ?_|refine brD (λ_=>?_) λ_=>?_|refine br (λ_=>?_) λ_=>?_|refine bd gr λ_ _=>?_|refine bd wr λ_ _=>?_)
  | exact True.intro
  | omega
def Z03 (w:Zq) (v:Q2):Prop:=0≤v.Xn∧v.Xn<w.X3.length∧0≤v.Zy∧v.Zy<w.Y6.length
def My (w:Zq) (b:V7):Prop:=0≤b.f_A∧b.f_A<w.X3.length∧0≤b.f_B∧b.f_B<w.X3.length
theorem Y26 (w:Zq) (i:Int) (h:Wo w) (g:0≤i) (j:i<w.Yr.length):Ok (Zha w i) (λb=>b=true→∀ v,w.Yr[i.toNat]?=some v→Z03 w v):=by
 have:=h.iniL
 unfold Zha
 repeat' first
  | with_reducible refine bd gri λ_ _=>?_
  | unfold j67x1
  | (with_reducible first|refine brD (λ_=>?_) λ_=>?_|refine bd (L21x1 _ _ _ ?_ ?_ ?_) λ_ _=>?_|refine ok ?_)
  | split
  | ((intro d v f; first|(cases d; done)|(have e:∀ a,w.Yr[i.toNat]?=some a→a=v:=λa c=>by { rw[f] at c; cases c; rfl }; have:=e _ (And.right (by assumption)); subst this; exact⟨by omega,by omega,by omega,by omega⟩)))
  | assumption
  | omega
  | exact And.left (by assumption)
  | (dsimp only; omega)
theorem L35x2 (w:Zq) (s:List UInt8) (l0:List Bool) (h:Wo w) (e:w.X3.length≤8) (a:∀ b∈w.Q3,My w b) (c:l0.length=w.X3.length):Ok (Z8 (Zf7 w s) Zb (0,l0)) (λr=>r.length=w.X3.length):=by
 have:=h.conL
 refine lp (λt=>t.1) (w.Q3.length) (λt=>t.2.length=w.X3.length) (λt d _ _=>?_) (by omega) (by exact c) (by omega) (by omega)
 try dsimp only at*
 unfold Zf7
 repeat' first
  | (with_reducible first|refine bd (ik (by have:=a _ (by assumption); unfold My at this; omega) (by have:=a _ (by assumption); unfold My at this; first|omega|(simp only[List.length_set]; omega))) λ_ _=>?_|refine nx ?_ ?_ ?_|refine dn ?_)
  | unfold Zcs
  | (with_reducible first|refine brD (λ_=>?_) λ_=>?_|refine br (λ_=>?_) λ_=>?_|refine bd gr λ_ _=>?_|refine bd (la (by first|omega|(simp only[List.length_set,List.length_append,List.length_cons,List.length_nil,List.length_replicate]; omega))) λ_ _=>?_|refine bd wr λ_ _=>?_)
  | assumption
  | (simp only[List.length_set,List.length_append,List.length_cons,List.length_nil,List.length_replicate]; omega)
theorem L35x1 (w:Zq) (s:List UInt8) (l0:List Bool) (h:Wo w) (e:w.X3.length≤8) (d:∀ b∈w.Q3,My w b) (a:l0.length=w.X3.length):Ok (Z8 (Zf6 w s) Zb (0,l0)) (λr=>r.length=w.X3.length):=by
 refine lp (λt=>t.1) (w.X3.length) (λt=>t.2.length=w.X3.length) (λt c _ _=>?_) (by omega) (by exact a) (by omega) (by omega)
 try dsimp only at*
 unfold Zf6
 repeat' first
  | (with_reducible first|refine nx ?_ ?_ ?_|refine dn ?_|refine brD (λ_=>?_) λ_=>?_|refine bd wr λ_ _=>?_|refine bd (L35x2 _ _ _ ?_ ?_ ?_ ?_) λ_ _=>?_)
  | omega
  | assumption
  | exact And.left (by assumption)
  | (dsimp only; omega)
theorem Y23 (w:Zq) (s:List UInt8) (k:Int) (h:Wo w) (e:w.X3.length≤8) (d:∀ b∈w.Q3,My w b) (a:0≤k) (c:k<w.X3.length):Ok (Zh4 w s k) (λr=>r.length=w.X3.length):=by
 unfold Zh4
 repeat' first
  | (with_reducible first|refine bd (ik (by omega) (by first|omega|(simp only[List.length_set,List.length_append,List.length_cons,List.length_nil,List.length_replicate]; omega))) λ_ _=>?_|refine bd (la (by first|omega|(simp only[List.length_set,List.length_append,List.length_cons,List.length_nil,List.length_replicate]; omega))) λ_ _=>?_|refine bd mk λ_ _=>?_|refine bd (L35x1 _ _ _ (by first|assumption|(simp only[List.length_set,List.length_replicate]; omega)) (by first|assumption|(simp only[List.length_set,List.length_replicate]; omega)) (by first|assumption|(simp only[List.length_set,List.length_replicate]; omega)) (by first|assumption|(simp only[List.length_set,List.length_replicate]; omega))) λ_ _=>?_|refine ok ?_)
  | assumption
theorem L22x1 (v:Q2) (g:List Bool) (w:Zq) (i:Int) (h:Wo w) (a:0≤i) (b:i<w.Yr.length) (c:g.length=w.X3.length) (hs:∀ (j:Nat) v,j<i→w.Yr[j]?=some v→Z03 w v):Ok (Z8 (Zeu v g w i) Zb 0) (λ_=>True):=by
 have:=h.iniL
 refine li (i) (λt _ _=>?_) (by omega) (by omega) (by omega)
 unfold Zeu
 repeat' first
  | (with_reducible first|refine bd gri λ_ _=>?_|refine bd (gr (by have:=hs t.toNat _ (by omega) (And.right (by assumption)); unfold Z03 at this; omega) (by have:=hs t.toNat _ (by omega) (And.right (by assumption)); unfold Z03 at this; omega)) λ_ _=>?_|refine ni ?_ ?_|refine di ?_|refine brD (λ_=>?_) λ_=>?_|refine br (λ_=>?_) λ_=>?_|refine bd wr λ_ _=>?_)
  | exact True.intro
  | omega
theorem Y25 (w:Zq) (i:Int) (h:Wo w) (e:w.X3.length≤8) (d:∀ b∈w.Q3,My w b) (a:0≤i) (c:i<w.Yr.length) (hs:∀ (j:Nat) v,j≤i→w.Yr[j]?=some v→Z03 w v):Ok (Zh9 w i) (λ_=>True):=by
 have:=h.iniL
 unfold Zh9
 repeat' first
  | (with_reducible first|refine bd gri λ_ _=>?_|refine bd (Y23 _ _ _ h e d (by have:=hs i.toNat _ (by omega) (And.right (by assumption)); unfold Z03 at this; omega) (by have:=hs i.toNat _ (by omega) (And.right (by assumption)); unfold Z03 at this; omega)) λ_ _=>?_|refine bd (L22x1 _ _ _ _ h a c (by assumption) (λj v g f=>hs j v (by omega) f)) λ_ _=>?_|refine ok ?_)
  | split
  | assumption
theorem L53x1 (x:List Zz) (a:x.length≤140737488355328):Ok (Z8 (Zdc x) Zb 0) (λ_=>True):=by
 refine li (x.length) (λt _ _=>?_) (by omega) (by omega) (by omega)
 unfold Zdc
 repeat' first
  | (with_reducible first|refine ni ?_ ?_|refine di ?_|refine brD (λ_=>?_) λ_=>?_|refine brN (λ_=>?_) λ_=>?_|refine bd gr λ_ _=>?_|refine bd wr λ_ _=>?_)
  | exact True.intro
  | omega
theorem Zra (x:List Zz) (a:x.length≤140737488355328):Ok (Za4 x) (λ_=>True):=by
 unfold Za4
 repeat' first
  | (with_reducible first|refine bd (L53x1 _ ?_) λ_ _=>?_|refine ok ?_)
  | split
  | assumption
  | omega
  | exact And.left (by assumption)
  | (dsimp only; omega)
theorem L47x1 (u:Yj) (h:Wv u):Ok (Z8 (Zd2 u) Zb 0) (λ_=>True):=by
 have:=h.fldL
 refine li (u.Ym.length) (λt _ _=>?_) (by omega) (by omega) (by omega)
 unfold Zd2
 repeat' first
  | (with_reducible first|refine ni ?_ ?_|refine di ?_)
  | unfold Zbz
  | (with_reducible first|refine brD (λ_=>?_) λ_=>?_|refine br! (λ_=>?_) λ_=>?_|refine brE (λ_=>?_) λ_=>?_|refine brN (λ_=>?_) λ_=>?_|refine bd gr λ_ _=>?_|refine bd wr λ_ _=>?_)
  | exact True.intro
  | omega
theorem L47x3 (m:Q6) (h:Ks m):Ok (Z8 (Zd4 m) Zb 0) (λ_=>True):=by
 have:=h.code.hndL
 refine li (m.Qc.Xm.length) (λt _ _=>?_) (by omega) (by omega) (by omega)
 unfold Zd4
 repeat' first
  | (with_reducible first|refine ni ?_ ?_|refine di ?_|refine brD (λ_=>?_) λ_=>?_|refine brN (λ_=>?_) λ_=>?_|refine bd gr λ_ _=>?_|refine bd wr λ_ _=>?_)
  | exact True.intro
  | omega
theorem L47x4 (m:Q6) (h:Ks m):Ok (Z8 (Zd5 m) Zb 0) (λ_=>True):=by
 have:=h.code.mapL
 refine li (m.Qc.Xe.length) (λt _ _=>?_) (by omega) (by omega) (by omega)
 unfold Zd5
 repeat' first
  | (with_reducible first|refine bd (Zra _ (by have:=(h.code.map _ (by assumption)).locL; omega)) λ_ _=>?_|refine bd (Zra _ (by have:=(h.code.map _ (by assumption)).stkL; omega)) λ_ _=>?_|refine ni ?_ ?_|refine di ?_|refine brD (λ_=>?_) λ_=>?_|refine br! (λ_=>?_) λ_=>?_|refine bd gr λ_ _=>?_|refine bd wr λ_ _=>?_)
  | exact True.intro
  | omega
theorem L47x2 (u:Yj) (h:Wv u):Ok (Z8 (Zd3 u) Zb 0) (λ_=>True):=by
 have:=h.metL
 refine li (u.Yo.length) (λt _ _=>?_) (by omega) (by omega) (by omega)
 unfold Zd3
 repeat' first
  | (with_reducible first|refine ni ?_ ?_|refine di ?_)
  | unfold Zc0
  | (with_reducible first|refine brD (λ_=>?_) λ_=>?_|refine bd gr λ_ _=>?_|refine bd wr λ_ _=>?_|refine bd (L47x3 _ (by exact h.met _ (by assumption))) λ_ _=>?_|refine bd (L47x4 _ (by exact h.met _ (by assumption))) λ_ _=>?_|refine bs ?_)
  | split
  | exact True.intro
  | omega
theorem Y21 (u:Yj) (h:Wv u):Ok (Zh1 u) (λ_=>True):=by
 unfold Zh1
 repeat' first
  | (with_reducible first|refine bd (L47x1 _ ?_) λ_ _=>?_|refine bd (L47x2 _ ?_) λ_ _=>?_|refine ok ?_)
  | split
  | assumption
  | omega
  | exact And.left (by assumption)
  | (dsimp only; omega)
end Go.Proofs
namespace Go.Proofs
open Go.Den Go.Tot
structure X0 (p:List Za):Prop where
 len:p.length≤1000
 ord:∀ (k:Nat) c,p[k]?=some c→c.f_A≤k∧c.f_B≤k
 str:∀ c∈p,Str c.f_S
theorem X0.app {p:List Za} {c:Za} (h:X0 p) (g:p.length<1000) (e:c.f_A≤p.length) (f:c.f_B≤p.length) (hs:Str c.f_S):X0 (([]++p)++[c]):=by
 refine⟨by simp; omega,λk d a=>?_,λd a=>?_⟩
 ·rw[List.nil_append] at a
  rcases Nat.lt_trichotomy k p.length with b|b|b
  ·rw[List.getElem?_append_left b] at a; exact h.ord k d a
  ·subst b
   rw[List.getElem?_append_right (Nat.le_refl _),Nat.sub_self] at a
   cases a; exact⟨e,f⟩
  ·rw[List.getElem?_eq_none (by simp; omega)] at a; cases a
 ·rw[List.nil_append] at a
  rcases List.mem_append.1 a with a|a
  ·exact h.str d a
  ·rw[List.mem_singleton.1 a]; exact hs
theorem X0.nil:X0 [] :=⟨by simp,λk c h=>by simp at h,λc h=>by simp at h⟩
abbrev PR (p:List Za) (r:List Za×Int×Int):Prop:=X0 r.1∧p.length≤r.1.length∧0≤r.2.1∧r.2.1≤r.1.length∧r.1.length≤1000
theorem K7 {α:Type} {P:α→Prop} {l:List α} {x:α} (h:∀ v∈l,P v) (b:P x):∀ v∈l++[x],P v:=λv a=>by
 rcases List.mem_append.1 a with a|a
 ·exact h v a
 ·rw[List.mem_singleton.1 a]; exact b
theorem U8 {α:Type} {P:α→Prop}:∀ v∈([]:List α),P v:=λv a=>by simp at a
theorem W0 {op a:Int}:Qy { f_Op:=op,f_A:=a,f_B:=0,f_To:=0,Yg:=[],Zs:=[],Yv:={ Zy:=[],Zn:=[],Xh:=[] },f_S:=[] }:=⟨by simp,by simp,⟨by simp,by simp,by simp⟩,by simp⟩
theorem L77x1 (p:List Za) (c:Za) (hp:X0 p):Ok (Z8 (Zdl p c) Zb 0) (λq=>match q with|.inl _=>True|.inr y=>PR p y):=by
 have:=hp.len
 refine li (p.length) (λt _ _=>?_) (by omega) (by omega) (by omega)
 unfold Zdl
 repeat' first
  | (with_reducible first|refine ni ?_ ?_|refine di ?_|refine brD (λ_=>?_) λ_=>?_|refine br (λ_=>?_) λ_=>?_|refine bd gr λ_ _=>?_|refine bd wr λ_ _=>?_|refine And.intro ?_ ?_)
  | exact True.intro
  | omega
  | (dsimp only; omega)
theorem Z69 (p:List Za) (c:Za) (hp:X0 p) (a:c.f_A≤p.length) (b:c.f_B≤p.length) (hs:Str c.f_S):Ok (Z0m p c) (PR p):=by
 have:=hp.len
 unfold Z0m
 repeat' first
  | (with_reducible first|refine brD (λ_=>?_) λ_=>?_|refine bd wr λ_ _=>?_|refine bd gk λ_ _=>?_|refine bd (L77x1 _ _ ?_) λ_ _=>?_|refine ok ?_)
  | split
  | (first|exact⟨hp.app (by omega) a b hs,by simp,by dsimp only; omega,by simp; omega,by simp; omega⟩|exact⟨hp,by dsimp only; omega,by dsimp only; omega,by dsimp only; omega,by dsimp only; omega⟩|(dsimp only at *; assumption))
  | assumption
  | omega
  | exact And.left (by assumption)
  | (dsimp only; omega)
theorem Z6a (p:List Za) (s:List UInt8) (hp:X0 p) (hs:Str s):Ok (Z1m p s) (PR p):=by
 have:=hp.len
 unfold Z1m
 repeat' first
  | (with_reducible first|refine bd (Z69 _ _ (by first|assumption|omega|(dsimp only; omega)|exact And.left (by assumption)|(simp; done)) (by first|assumption|omega|(dsimp only; omega)|exact And.left (by assumption)|(simp; done)) (by first|assumption|omega|(dsimp only; omega)|exact And.left (by assumption)|(simp; done)) (by first|assumption|omega|(dsimp only; omega)|exact And.left (by assumption)|(simp; done))) λ_ _=>?_|refine ok ?_)
  | (first|exact⟨by first|exact hp|exact And.left (by assumption),by dsimp only; omega,by dsimp only; omega,by dsimp only; omega,by dsimp only; omega⟩|exact⟨hp,by dsimp only; omega,by dsimp only; omega,by dsimp only; omega,by dsimp only; omega⟩)
theorem Zr1 (p:List Za) (tag:Int) (s:List UInt8) (hp:X0 p) (hs:Str s):Ok (Z9h p tag s) (PR p):=by
 have:=hp.len
 unfold Z9h
 repeat' first
  | (with_reducible first|refine brN (λ_=>?_) λ_=>?_|refine bd (Z6a _ _ ?_ ?_) λ_ _=>?_|refine bd (Z69 _ _ (by first|assumption|omega|(dsimp only; omega)|exact And.left (by assumption)|(simp; done)) (by first|assumption|omega|(dsimp only; omega)|exact And.left (by assumption)|(simp; done)) (by first|assumption|omega|(dsimp only; omega)|exact And.left (by assumption)|(simp; done)) (by first|assumption|omega|(dsimp only; omega)|exact And.left (by assumption)|(simp; done))) λ_ _=>?_|refine ok ?_)
  | (first|exact⟨by first|exact hp|exact And.left (by assumption),by dsimp only; omega,by dsimp only; omega,by dsimp only; omega,by dsimp only; omega⟩|exact⟨hp,by dsimp only; omega,by dsimp only; omega,by dsimp only; omega,by dsimp only; omega⟩)
  | assumption
  | omega
  | exact And.left (by assumption)
  | (dsimp only; omega)
theorem Zjp (p:List Za) (s:List UInt8) (hp:X0 p) (hs:Str s):Ok (Z4u p s) (PR p):=by
 have:=hp.len
 unfold Z4u
 repeat' first
  | (with_reducible first|refine bd (Zr1 _ _ _ ?_ ?_) λ_ _=>?_|refine ok ?_)
  | (first|exact⟨by first|exact hp|exact And.left (by assumption),by dsimp only; omega,by dsimp only; omega,by dsimp only; omega,by dsimp only; omega⟩|exact⟨hp,by dsimp only; omega,by dsimp only; omega,by dsimp only; omega,by dsimp only; omega⟩)
  | assumption
  | omega
  | exact And.left (by assumption)
  | (dsimp only; omega)
theorem Zqy (p:List Za) (s:List UInt8) (hp:X0 p) (hs:Str s):Ok (Z9e p s) (PR p):=by
 have:=hp.len
 unfold Z9e
 repeat' first
  | (with_reducible first|refine bd (Zr1 _ _ _ ?_ ?_) λ_ _=>?_|refine ok ?_)
  | (first|exact⟨by first|exact hp|exact And.left (by assumption),by dsimp only; omega,by dsimp only; omega,by dsimp only; omega,by dsimp only; omega⟩|exact⟨hp,by dsimp only; omega,by dsimp only; omega,by dsimp only; omega,by dsimp only; omega⟩)
  | assumption
  | omega
  | exact And.left (by assumption)
  | (dsimp only; omega)
theorem Z6d (x:Yh) (s:List UInt8) (hp:X0 x.f_P) (hs:Str s):Ok (Z1h x s) (λr=>X0 r.1.f_P):=by
 unfold Z1h
 repeat' first
  | (with_reducible first|refine brN (λ_=>?_) λ_=>?_|refine bd (Zjp _ _ ?_ ?_) λ_ _=>?_|refine ok ?_)
  | (exact And.left (by assumption))
  | assumption
  | omega
  | exact And.left (by assumption)
  | (dsimp only; omega)
theorem M8 (x:Yh) (s:List UInt8) (hp:X0 x.f_P) (hs:Str s):Ok (Lt x s) (λr=>X0 r.1.f_P):=by
 unfold Lt
 repeat' first
  | (with_reducible first|refine brN (λ_=>?_) λ_=>?_|refine bd (Z6a _ _ ?_ ?_) λ_ _=>?_|refine ok ?_)
  | (exact And.left (by assumption))
  | assumption
  | omega
  | exact And.left (by assumption)
  | (dsimp only; omega)
theorem Y2s (x:Yh) (f:Ql) (hp:X0 x.f_P) (a:Z2f f):Ok (Zff x f) (λr=>X0 r.1.f_P):=by
 unfold Zff
 repeat' first
  | unfold Zc2
  | (with_reducible first|refine brE (λ_=>?_) λ_=>?_|refine brN (λ_=>?_) λ_=>?_|refine bd (Zqy _ _ (by first|exact a.s|assumption) (by first|exact a.s|assumption)) λ_ _=>?_|refine bd (Z69 _ _ (by first|assumption|omega|(dsimp only; omega)|exact And.left (by assumption)|(simp; done)) (by first|assumption|omega|(dsimp only; omega)|exact And.left (by assumption)|(simp; done)) (by first|assumption|omega|(dsimp only; omega)|exact And.left (by assumption)|(simp; done)) (by first|assumption|omega|(dsimp only; omega)|exact And.left (by assumption)|(simp; done))) λ_ _=>?_|refine ok ?_)
  | (exact And.left (by assumption))
  | assumption
theorem Y1i (p:List Za) (tag:Int) (r:Xw) (hp:X0 p) (a:WRef r):Ok (Z4v p tag r) (PR p):=by
 have:=hp.len
 unfold Z4v
 repeat' first
  | (with_reducible first|refine bd (Z6a _ _ (And.left (by assumption)) a.n) λ_ _=>?_|refine bd (Z6a _ _ (And.left (by assumption)) a.d) λ_ _=>?_|refine brN (λ_=>?_) λ_=>?_|refine bd (Zjp _ _ (by first|exact a.c|assumption) (by first|exact a.c|assumption)) λ_ _=>?_|refine bd (Z69 _ _ (by first|assumption|omega|(dsimp only; omega)|exact And.left (by assumption)|(simp; done)) (by first|assumption|omega|(dsimp only; omega)|exact And.left (by assumption)|(simp; done)) (by first|assumption|omega|(dsimp only; omega)|exact And.left (by assumption)|(simp; done)) (by first|assumption|omega|(dsimp only; omega)|exact And.left (by assumption)|(simp; done))) λ_ _=>?_|refine ok ?_)
  | (first|exact⟨by first|exact hp|exact And.left (by assumption),by dsimp only; omega,by dsimp only; omega,by dsimp only; omega,by dsimp only; omega⟩|exact⟨hp,by dsimp only; omega,by dsimp only; omega,by dsimp only; omega,by dsimp only; omega⟩)
theorem Zr3 (x:Int):Ok (Z30 x) (λ_=>True):=by
 unfold Z30
 repeat' with_reducible first
  | refine brD (λ_=>?_) λ_=>?_
  | refine ok ?_
  | exact True.intro
theorem Zr5 (x a b:Int):Ok (M1 x a b) (λ_=>True):=by
 unfold M1
 repeat' with_reducible first
  | refine brD (λ_=>?_) λ_=>?_
  | refine ok ?_
  | exact True.intro
theorem Zr8 (x:Int):Ok (Za2 x) (λ_=>True):=by
 unfold Za2
 repeat' with_reducible first
  | refine brD (λ_=>?_) λ_=>?_
  | refine ok ?_
  | exact True.intro
theorem Y1z (x:Int):Ok (Zgz x) (λ_=>True):=by
 unfold Zgz
 repeat' with_reducible first
  | refine brD (λ_=>?_) λ_=>?_
  | refine ok ?_
  | exact True.intro
theorem Zr7 (x:Int):Ok (Za1 x) (λ_=>True):=by
 unfold Za1
 repeat' with_reducible first
  | refine brE (λ_=>?_) λ_=>?_
  | refine ok ?_
  | exact True.intro
theorem Zjr (x:Int):Ok (Z9n x) (λ_=>True):=by
 unfold Z9n
 repeat' with_reducible first
  | refine brD (λ_=>?_) λ_=>?_
  | refine ok ?_
  | exact True.intro
theorem Zr4 (x:Int):Ok (M0 x) (λ_=>True):=by
 unfold M0
 repeat' first
  | unfold Zc7
  | unfold Zc8
  | (with_reducible first|refine br (λ_=>?_) λ_=>?_|refine bd (Zr3 _) λ_ _=>?_|refine bd (Zr5 _ _ _) λ_ _=>?_|refine ok ?_)
  | assumption
theorem Y1u (x:Zg) (k:Int):Ok (Z51 x k) (λ_=>True):=by
 unfold Z51
 repeat' with_reducible first
  | unfold Zc9
  | unfold Z7o
  | unfold Z7p
  | refine br! (λ_=>?_) λ_=>?_
  | refine brE (λ_=>?_) λ_=>?_
  | refine brN (λ_=>?_) λ_=>?_
  | refine ok ?_
  | exact True.intro
theorem L114x1 (x:Zg) (a:Qy x):Ok (Z8 (Z4f x) Zb 0) (λ_=>True):=by
 have:=a.tos
 refine li (x.Zs.length) (λt _ _=>?_) (by omega) (by omega) (by omega)
 unfold Z4f
 repeat' first
  | (with_reducible first|refine ni ?_ ?_|refine di ?_|refine brD (λ_=>?_) λ_=>?_|refine bd gr λ_ _=>?_|refine bd wr λ_ _=>?_)
  | exact True.intro
  | omega
theorem Y1r (x:Zg) (a:Qy x):Ok (Z0n x) (λ_=>True):=by
 unfold Z0n
 repeat' first
  | unfold Zca
  | (with_reducible first|refine bd (L114x1 _ ?_) λ_ _=>?_|refine ok ?_)
  | split
  | exact True.intro
  | assumption
  | omega
  | exact And.left (by assumption)
  | (dsimp only; omega)
theorem Zqs (x:Zg) (a:Qy x):Ok (Z8 (Zdt x) Zb 0) (λ_=>True):=by
 have:=a.keys
 refine li (x.Yg.length) (λt _ _=>?_) (by omega) (by omega) (by omega)
 unfold Zdt
 repeat' first
  | (with_reducible first|refine ni ?_ ?_|refine di ?_|refine brD (λ_=>?_) λ_=>?_|refine br! (λ_=>?_) λ_=>?_|refine bd gr λ_ _=>?_|refine bd wr λ_ _=>?_|refine bd (Zjr _) λ_ _=>?_)
  | exact True.intro
  | omega
theorem Zqt (x:Zg) (a:Qy x):Ok (Z8 (Zdu x) Zb 1) (λ_=>True):=by
 have:=a.keys
 refine lp (λt=>t) (max 1 x.Yg.length) (λt=>1≤t) (λt b _ _=>?_) (by omega) (by omega) (by omega) (by omega)
 unfold Zdu
 repeat' first
  | (with_reducible first|refine nx ?_ ?_ ?_|refine dn ?_|refine brD (λ_=>?_) λ_=>?_|refine bd gr λ_ _=>?_|refine bd wr λ_ _=>?_)
  | exact True.intro
  | omega
theorem Y1s (x:Zg) (a:Qy x):Ok (Z4z x) (λ_=>True):=by
 unfold Z4z
 repeat' first
  | unfold Zcc
  | unfold Zcb
  | (with_reducible first|refine brD (λ_=>?_) λ_=>?_|refine bd wr λ_ _=>?_|refine bd (Zjr _) λ_ _=>?_|refine bd (Zqs _ ?_) λ_ _=>?_|refine bd (Zqt _ (by assumption)) λ_ _=>?_|refine ok ?_)
  | split
  | exact True.intro
  | assumption
  | omega
  | exact And.left (by assumption)
  | (dsimp only; omega)
theorem Y1q (x:Zg) (a:Qy x):Ok (Js x) (λ_=>True):=by
 unfold Js
 repeat' first
  | unfold Z19
  | unfold Z2t
  | unfold Z46
  | unfold Z1a
  | unfold Z47
  | (with_reducible first|refine brD (λ_=>?_) λ_=>?_|refine br! (λ_=>?_) λ_=>?_|refine brE (λ_=>?_) λ_=>?_|refine bd (Zr4 _) λ_ _=>?_|refine bd (Y1u _ _) λ_ _=>?_|refine bd (Y1r _ ?_) λ_ _=>?_|refine bd (Y1s _ ?_) λ_ _=>?_|refine ok ?_)
  | assumption
  | omega
  | exact And.left (by assumption)
  | (dsimp only; omega)
theorem Y1y (x:Zg) (a:Qy x):Ok (Zgy x) (λ_=>True):=by
 unfold Zgy
 repeat' with_reducible first
  | unfold Zmd
  | unfold Zch
  | unfold Z7y
  | refine br (λ_=>?_) λ_=>?_
  | refine bd (Zr8 _) λ_ _=>?_
  | refine bd (Y1z _) λ_ _=>?_
  | refine bd (Zr7 _) λ_ _=>?_
  | refine bs ?_
  | refine ok ?_
  | exact True.intro
theorem Zr2 (x:Int):Ok (Z9i x) (λl=>l.length≤3):=by
 unfold Z9i
 repeat' first
  | unfold Zm1
  | unfold Zm2
  | unfold Zm3
  | unfold Zm4
  | (with_reducible first|refine br (λ_=>?_) λ_=>?_|refine bd (Zr5 _ _ _) λ_ _=>?_|refine ok ?_)
  | (first|(simp; done)|decide)
theorem L158x1 (l:List Int) (x:Int) (a:l.length≤140737488355328):Ok (Z8 (Ze5 l x) Zb 0) (λ_=>True):=by
 refine li (l.length) (λt _ _=>?_) (by omega) (by omega) (by omega)
 unfold Ze5
 repeat' first
  | (with_reducible first|refine ni ?_ ?_|refine di ?_|refine brD (λ_=>?_) λ_=>?_|refine brE (λ_=>?_) λ_=>?_|refine bd gr λ_ _=>?_|refine bd wr λ_ _=>?_)
  | exact True.intro
  | omega
theorem Y1w (l:List Int) (x:Int) (a:l.length≤140737488355328):Ok (Zgr l x) (λ_=>True):=by
 unfold Zgr
 repeat' first
  | (with_reducible first|refine bd (L158x1 _ _ ?_) λ_ _=>?_|refine ok ?_)
  | split
  | assumption
  | omega
  | exact And.left (by assumption)
  | (dsimp only; omega)
theorem Y20 (p:List Za) (x:Zg) (hp:X0 p) (a:Qy x):Ok (Zh0 p x) (PR p):=by
 have:=hp.len
 unfold Zh0
 repeat' first
  | unfold Zmf
  | unfold Zci
  | unfold Zcj
  | unfold Zme
  | (with_reducible first|refine br (λ_=>?_) λ_=>?_|refine bd (Zqy _ _ (by first|exact a.s|assumption) (by first|exact a.s|assumption)) λ_ _=>?_|refine bd (Z69 _ _ (by first|assumption|omega|(dsimp only; omega)|exact And.left (by assumption)|(simp; done)) (by first|assumption|omega|(dsimp only; omega)|exact And.left (by assumption)|(simp; done)) (by first|assumption|omega|(dsimp only; omega)|exact And.left (by assumption)|(simp; done)) (by first|assumption|omega|(dsimp only; omega)|exact And.left (by assumption)|(simp; done))) λ_ _=>?_|refine bd (Zr7 _) λ_ _=>?_|refine bd (Zjp _ _ (by first|exact a.ref.c|assumption) (by first|exact a.ref.c|assumption)) λ_ _=>?_|refine bd (Z6a _ _ (by first|exact a.s|assumption) (by first|exact a.s|assumption)) λ_ _=>?_|refine bd (Zr8 _) λ_ _=>?_|refine bd (Y1i _ _ _ (by first|exact a.ref|assumption) (by first|exact a.ref|assumption)) λ_ _=>?_|refine ok ?_)
  | (first|exact⟨by first|exact hp|exact And.left (by assumption),by dsimp only; omega,by dsimp only; omega,by dsimp only; omega,by dsimp only; omega⟩|exact⟨hp,by dsimp only; omega,by dsimp only; omega,by dsimp only; omega,by dsimp only; omega⟩)
theorem Y1x (p:List Za) (x:Zg) (hp:X0 p) (a:Qy x):Ok (Zgx p x) (λr=>X0 r.1∧Qy r.2.1):=by
 unfold Zgx
 repeat' first
  | unfold Zcg
  | unfold Z7v
  | (with_reducible first|refine br! (λ_=>?_) λ_=>?_|refine brE (λ_=>?_) λ_=>?_|refine brN (λ_=>?_) λ_=>?_|refine bd (Zr3 _) λ_ _=>?_|refine bd (Zr4 _) λ_ _=>?_|refine bd (Y1q _ ?_) λ_ _=>?_|refine bd (Y1y _ ?_) λ_ _=>?_|refine bd (Zr2 _) λ_ _=>?_|refine bd (Y1w _ _ ?_) λ_ _=>?_|refine bd (Y20 _ _ ?_ ?_) λ_ _=>?_|refine ok ?_)
  | (first|exact⟨hp,W0⟩|exact⟨hp,a⟩|exact⟨And.left (by assumption),W0⟩)
  | assumption
  | omega
  | exact And.left (by assumption)
  | (dsimp only; omega)
theorem Y2q (x:Yh) (i:Zg) (hp:X0 x.f_P) (a:Qy i):Ok (Zfd x i) (λr=>X0 r.1.f_P∧Qy r.2):=by
 unfold Zfd
 repeat' first
  | (with_reducible first|refine brN (λ_=>?_) λ_=>?_|refine bd (Y1x _ _ ?_ ?_) λ_ _=>?_|refine ok ?_)
  | (first|exact⟨hp,W0⟩|(dsimp only; assumption))
  | assumption
  | omega
  | exact And.left (by assumption)
  | (dsimp only; omega)
end Go.Proofs
namespace Go.Proofs
open Go.Den Go.Tot
theorem Y36 (l:List Int):(bytesOf l).length=l.length:=by simp[bytesOf]
theorem Zqw {n:Int} (a:n=1∨n=2∨n=4):Zfg n=some true:=by
 rcases a with rfl|rfl|rfl <;> rfl
theorem L62x1 (x n k:Int) (l:List Int) (h:k=n - 1) (b:0≤n) (d:(l.length:Int)=n) (i:n≤8):Ok (Z8 Zdj Zb (x,k,l)) (λr=>(r.length:Int)=n):=by
 refine lp (λt=>n - 1 - t.2.1) n (λt=>(t.2.2.length:Int)=n) (λt a b f=>?_) (by omega) d
 unfold Zdj
 refine brD (λe=>?_) λc=>dn a
 refine bs (bs (bd ik λj g=>bd (la (by omega)) λ_ _=>?_))
 refine bd (P:=λ_=>True) ⟨_,by unfold shrK; rw[if_pos (by decide)],trivial⟩ λ_ _=>bd wr λv m=>nx ?_
 dsimp only
 rw[List.length_set]; exact a
theorem Z66 (x n:Int) (c:n=1∨n=2∨n=4):Ok (Z1i x n) (λr=>(r.1.length:Int)≤n):=by
 have a:Ok (Z7c x n) (λr=>(r.1.length:Int)≤n):=by
  unfold Z7c
  refine bd mk λ_ _=>bd wr λk b=>?_
  exact bd (L62x1 x n k _ b (by omega) (by simp; omega) (by omega)) λq hq=>ok (by dsimp only; rw[Y36]; omega)
 unfold Z1i
 rw[Zqw c]
 refine bs (br! (λh=>by cases h) λ_=>brD (λ_=>?_) λ_=>a)
 have hs:∀ y:Int,0≤y→Ok (M5 .i64 1 y) (λ_=>True):=λy d=>⟨_,by unfold M5; rw[if_pos d],trivial⟩
 refine bd wr λ_ _=>bd wr λ_ _=>bd (hs _ (by omega)) λ_ _=>bs (brD (λ_=>ok (by dsimp only; simp; omega)) λ_=>?_)
 exact bd wr λ_ _=>bd (hs _ (by omega)) λ_ _=>bs (brD (λ_=>ok (by dsimp only; simp; omega)) λ_=>a)
theorem Zr9 (x:Int):Ok (Zh2 x) (λr=>r.length≤2):=bd (Z66 x 2 (.inr (.inl rfl))) λv h=>ok (by omega)
theorem Ja (x:Int):Ok (Uk x) (λr=>r.length≤2):=bd (Z66 x 2 (.inr (.inl rfl))) λv h=>ok (by omega)
theorem Zjs (x:Int):Ok (Z9t x) (λr=>r.length≤1):=bd (Z66 x 1 (.inl rfl)) λv h=>ok (by omega)
theorem Y1t (x n:Int) (a:n=1∨n=2∨n=4):Ok (Ux x n) (λr=>r.length≤4):=bd (Z66 x n a) λv h=>ok (by omega)
theorem Y1d (s:List UInt8) (a n:Int) (b:n=1∨n=2∨n=4) (c:Str s):Ok (Zfh s a n) (λe=>e=0→0≤a∧a+n≤s.length):=by
 unfold Zfh
 rw[Zqw b]
 refine bs (br! (λh=>by cases h) λ_=>brD (λ_=>ok (by omega)) λ_=>brD (λ_=>ok (by omega)) λ_=>?_)
 unfold Zmc
 exact bd wr λv d=>brD (λ_=>ok (by omega)) λ_=>ok (by omega)
def Sg (n v:Int):Prop:=(n=1∧ -128≤v∧v<128)∨(n=2∧ -32768≤v∧v<32768)∨(n=3∧ -8388608≤v∧v<8388608)∨(n=4∧ -2147483648≤v∧v<2147483648)
theorem L134x1 (s:List UInt8) (a n p:Int) (x:1≤n∧n≤4) (w:Str s) (u:0≤a) (v:a+n≤s.length) (hp: -128≤p∧p<128):Ok (Z8 (Zdy s a n) Zb (p,1)) (Sg n):=by
 refine lp (λt=>t.2) n (λt=>Sg t.2 t.1) (λt b g0 r=>?_) (by omega) (.inl ⟨rfl,hp⟩)
 unfold Zdy
 unfold Sg at b
 refine brD (fun i => ?_) fun h => dn (by have:t.2=n:=by omega
                                          rw[← this]; exact b)
 refine bd wr λy q=>bd wr λj c=>bd gs λk d=>bd wr λl e=>bd wr λm f=>bd wr λo g=>?_
 exact nx (by dsimp only; unfold Sg; omega)
theorem Zqv (s:List UInt8) (a n:Int) (e:n=1∨n=2∨n=4) (c:Str s):Ok (Z9d s a n) (λr=>(r.2=0→0≤a∧a+n≤s.length∧Sg n r.1)∧(r.2≠0→r.1=0)):=by
 unfold Z9d
 refine bd (Y1d s a n e c) λl d=>brN (λh=>ok ⟨λb=>absurd b h,λ_=>rfl⟩) λh=>?_
 obtain⟨k0,k1⟩:=d h
 refine bd gs λm i=>bd wr λf j=>?_
 have key:∀ p:Int,-128≤p→p<128→Ok (Z7u s a n p) (λr=>(r.2=0→0≤a∧a+n≤s.length∧Sg n r.1)∧(r.2≠0→r.1=0)):=λp h b=>by
  unfold Z7u
  exact bd (L134x1 s a n p (by omega) c k0 k1 ⟨h,b⟩) λq hq=>ok ⟨λ_=>⟨k0,k1,hq⟩,λh=>absurd rfl h⟩
 exact brD (λ_=>bd wr λg k=>key g (by omega) (by omega)) λ_=>key f (by omega) (by omega)
def Us (n v:Int):Prop:=0≤v∧(n=1→v<256)∧(n=2→v<65536)∧(n=4→v<4294967296)
theorem Z67 (s:List UInt8) (a n:Int) (g:n=1∨n=2∨n=4) (o:Str s):Ok (Z1j s a n) (λr=>(r.2=0→0≤a∧a+n≤s.length)∧Us n r.1):=by
 unfold Z1j
 refine bd (Zqv s a n g o) λv h=>?_
 have m:=h.2
 refine brE (λhe=>?_) λhe=>ok ⟨λl=>absurd l he,by dsimp only; unfold Us; rw[m he]; omega⟩
 obtain⟨c,d,hs⟩:=h.1 he
 unfold Sg at hs
 refine brD (λ_=>brD (λi=>?_) λp=>ok ⟨λ_=>⟨c,d⟩,by dsimp only; unfold Us; omega⟩) λe=>absurd e (by omega)
 unfold Zls
 rcases g with rfl|rfl|rfl
 ·refine bd wr λj b=>?_
  subst b
  rw[show M5 .i64 1 (8*1)=some 256 by decide]
  exact bs (bd wr λk f=>ok ⟨λ_=>⟨c,d⟩,by dsimp only; unfold Us; omega⟩)
 ·refine bd wr λj b=>?_
  subst b
  rw[show M5 .i64 1 (8*2)=some 65536 by decide]
  exact bs (bd wr λk f=>ok ⟨λ_=>⟨c,d⟩,by dsimp only; unfold Us; omega⟩)
 ·refine bd wr λj b=>?_
  subst b
  rw[show M5 .i64 1 (8*4)=some 4294967296 by decide]
  exact bs (bd wr λk f=>ok ⟨λ_=>⟨c,d⟩,by dsimp only; unfold Us; omega⟩)
def J8 (s:List UInt8) (r:X6):Prop:=r.f_S=s∧0≤r.f_At∧r.f_At≤s.length
theorem Wt (s:List UInt8) (r:X6) (n:Int) (f:n=1∨n=2∨n=4) (e:Str s) (g:J8 s r):Ok (W9 r n) (λx=>Us n x.1∧J8 s x.2):=by
 obtain⟨d,a,b⟩:=g
 unfold W9
 rw[d]
 refine bd (Z67 s r.f_At n f e) λv c=>br (λ_=>ok ⟨by dsimp only; unfold Us; omega,rfl,a,b⟩) λ_=>brN (λ_=>ok ⟨by dsimp only; unfold Us; omega,rfl,a,b⟩) λhe=>?_
 obtain⟨k0,k1⟩:=c.1 he
 exact bd wr λi h=>ok ⟨c.2,rfl,by dsimp only; omega,by dsimp only; omega⟩
abbrev SL_:=Int×(List UInt8)×Int×Bool×(List Zz)
def IL (s:List UInt8) (t:SL_):Prop:=J8 s ⟨t.2.1,t.2.2.1,t.2.2.2.1⟩∧(t.2.2.2.2.length:Int)=t.1∧∀ v∈t.2.2.2.2,v.Zt.Zn=[]
def QL (s:List UInt8) (q:(List UInt8)×Int×Bool×(List Zz)):Prop:=J8 s ⟨q.1,q.2.1,q.2.2.1⟩∧q.2.2.2.length≤256∧∀ v∈q.2.2.2,v.Zt.Zn=[]
theorem Z06 {α:Type} {P:α→Prop} {l:List α} {x:α} (h:∀ v∈l,P v) (b:P x):∀ v∈l++[x],P v:=λv a=>by
 rcases List.mem_append.1 a with a|a
 ·exact h v a
 ·rw[List.mem_singleton.1 a]; exact b
theorem Zjl {s:List UInt8} {n d b e:Int} {t0:SL_} {h:Int×X6} {a:List UInt8} {c:Bool} (f:IL s t0) (g:J8 s ⟨a,b,c⟩) (i:0≤t0.1) (j:t0.1<n) (k:n≤256):Ok (Z4b d t0 h a b c e) (St (IL s) (λt=>t.1) n (QL s) t0):=by
 unfold Z4b
 have:=f.2.1
 refine bd gk λ_ _=>bd wr λ_ l=>?_
 exact nx ⟨g,by simp only[List.length_append,List.length_cons,List.length_nil]; omega,Z06 f.2.2 rfl⟩
theorem Zqr {s:List UInt8} (hs:Str s) {n i g:Int} {t0:SL_} {k:Int×X6} {h:List UInt8} {a:Bool} (d:IL s t0) (f:J8 s ⟨h,i,a⟩) (b:0≤t0.1) (c:t0.1<n) (e:n≤256):Ok (Z7z t0 k h i a g) (St (IL s) (λt=>t.1) n (QL s) t0):=by
 unfold Z7z
 refine brD (λ_=>brD (λ_=>?_) λ_=>Zjl d f b c e) λ_=>Zjl d f b c e
 unfold Zmk
 exact bd (Wt s _ 2 (by omega) hs f) λv j=>Zjl d j.2 b c e
theorem Zr6 (s:List UInt8) (r:X6) (hs:Str s) (h:J8 s r):Ok (Z9r r) (λx=>(x.1.length≤256∧∀ v∈x.1,v.Zt.Zn=[])∧J8 s x.2):=by
 unfold Z9r
 refine bd (Wt s r 1 (by omega) hs h) λd c=>bd (P:=QL s) ?_ λq hq=>ok ⟨hq.2,hq.1⟩
 have l:0≤d.1∧d.1<256:=⟨c.1.1,c.1.2.1 rfl⟩
 refine lp (λt=>t.1) d.1 (IL s) (λt a g0 j=>?_) (by omega) ⟨c.2,rfl,λv i=>by simp at i⟩
 have k:=a.2.1
 have f:QL s (t.2.1,t.2.2.1,t.2.2.2.1,t.2.2.2.2):=⟨a.1,by dsimp only at *; omega,a.2.2⟩
 unfold Zng
 refine brD (λb=>br! (λ_=>?_) λ_=>dn f) λ_=>dn f
 unfold Zmj
 exact bd (Wt s _ 1 (by omega) hs a.1) λm e=>brE (λ_=>bd (Wt s _ 2 (by omega) hs e.2) λn g=>Zqr hs a g.2 g0 b (by omega)) λ_=>Zqr hs a e.2 g0 b (by omega)
def RdT {α:Type} (s:List UInt8) (B:Nat) (P:α→Prop) (q:(List UInt8)×Int×Bool×(List α)):Prop:=J8 s ⟨q.1,q.2.1,q.2.2.1⟩∧q.2.2.2.length≤B∧∀ v∈q.2.2.2,P v
def RdI {α:Type} (s:List UInt8) (P:α→Prop) (t:Int×(List UInt8)×Int×Bool×(List α)):Prop:=J8 s ⟨t.2.1,t.2.2.1,t.2.2.2.1⟩∧(t.2.2.2.2.length:Int)=t.1∧∀ v∈t.2.2.2.2,P v
theorem rdL {α:Type} {s:List UInt8} {P:α→Prop} {n c:Int} {b:List UInt8} {d:Bool} (g:0≤n∧n<65536) (i:J8 s ⟨b,c,d⟩) {f:Int×(List UInt8)×Int×Bool×(List α)→Option (Ctl (Int×(List UInt8)×Int×Bool×(List α)) ((List UInt8)×Int×Bool×(List α)))}
  (h:∀ t,RdI s P t→0≤t.1→t.1≤n→RdT s 65536 P (t.2.1,t.2.2.1,t.2.2.2.1,t.2.2.2.2)→Ok (f t) (St (RdI s P) (λt=>t.1) n (RdT s 65536 P) t)):Ok (Z8 f Zb (0,b,c,d,[])) (RdT s 65536 P):=
 lp (λt=>t.1) n (RdI s P) (λt a g0 e=>h t a g0 e ⟨a.1,by have:=a.2.1; dsimp only at *; omega,a.2.2⟩) (by omega) ⟨i,rfl,λv j=>by simp at j⟩ (by dsimp only; omega) g.1
theorem L152x1 {s:List UInt8} (hs:Str s) {a:Int×X6} (b:Us 2 a.1∧J8 s a.2):Ok (Z8 (Ze1 a) Zb (0,a.2.f_S,a.2.f_At,a.2.Wx,[])) (RdT s 65536 λv=>v.Zt=[]):=by
 refine rdL (n:=a.1) ⟨b.1.1,b.1.2.2.1 rfl⟩ b.2 λt c g0 j d=>?_
 have k:=c.2.1
 have:=b.1.2.2.1 rfl
 unfold Ze1
 refine brD (λi=>br! (λ_=>?_) λ_=>dn d) λ_=>dn d
 unfold Zm7
 refine bd (Wt s _ 2 (by omega) hs c.1) λm e=>bd (Wt s _ 2 (by omega) hs e.2) λo f=>bd (Wt s _ 2 (by omega) hs f.2) λp g=>bd (Wt s _ 2 (by omega) hs g.2) λq h=>?_
 refine bd gk λ_ _=>bd wr λ_ l=>?_
 exact nx ⟨h.2,by simp only[List.length_append,List.length_cons,List.length_nil]; omega,Z06 c.2.2 rfl⟩
theorem L152x3 {s:List UInt8} (hs:Str s) {a:Int×X6} (b:Us 2 a.1∧J8 s a.2):Ok (Z8 (Ze3 a) Zb (0,a.2.f_S,a.2.f_At,a.2.Wx,[])) (RdT s 65536 λ_=>True):=by
 refine rdL (n:=a.1) ⟨b.1.1,b.1.2.2.1 rfl⟩ b.2 λt c g0 h d=>?_
 have i:=c.2.1
 have:=b.1.2.2.1 rfl
 unfold Ze3
 refine brD (λg=>br! (λ_=>?_) λ_=>dn d) λ_=>dn d
 unfold Zm9
 refine bd (Wt s _ 2 (by omega) hs c.1) λk e=>bd (Wt s _ 2 (by omega) hs e.2) λl f=>?_
 refine bd gk λ_ _=>bd wr λ_ j=>?_
 exact nx ⟨f.2,by simp only[List.length_append,List.length_cons,List.length_nil]; omega,Z06 c.2.2 trivial⟩
def RFr (m:Yi):Prop:=(m.Xa.Y1.length≤256∧∀ v∈m.Xa.Y1,v.Zt.Zn=[])∧m.Xa.Y5.length≤256∧∀ v∈m.Xa.Y5,v.Zt.Zn=[]
def QM (s:List UInt8) (q:(List UInt8)×Int×Bool×(List Yi)×(List Int)):Prop:=J8 s ⟨q.1,q.2.1,q.2.2.1⟩∧q.2.2.2.1.length≤65536∧q.2.2.2.2.length=q.2.2.2.1.length∧∀ v∈q.2.2.2.1,RFr v
def IM (s:List UInt8) (t:Int×(List UInt8)×Int×Bool×(List Yi)×(List Int)):Prop:=J8 s ⟨t.2.1,t.2.2.1,t.2.2.2.1⟩∧(t.2.2.2.2.1.length:Int)=t.1∧t.2.2.2.2.2.length=t.2.2.2.2.1.length∧∀ v∈t.2.2.2.2.1,RFr v
theorem L152x2 {s:List UInt8} (hs:Str s) {a:Int×X6} (c:Us 2 a.1∧J8 s a.2):Ok (Z8 (Ze2 a) Zb (0,a.2.f_S,a.2.f_At,a.2.Wx,[],[])) (QM s):=by
 have:=c.1.2.2.1 rfl
 have:=c.1.1
 refine lp (λt=>t.1) a.1 (IM s) (λt b g0 l=>?_) (by omega) ⟨c.2,rfl,rfl,λv g=>by simp at g⟩
 have m:=b.2.1
 have j:=b.2.2.1
 have f:QM s (t.2.1,t.2.2.1,t.2.2.2.1,t.2.2.2.2.1,t.2.2.2.2.2):=⟨b.1,by dsimp only at *; omega,b.2.2⟩
 unfold Ze2
 refine brD (λk=>br! (λ_=>?_) λ_=>dn f) λ_=>dn f
 unfold Zm8
 refine bd (Wt s _ 2 (by omega) hs b.1) λn h=>bd (Wt s _ 1 (by omega) hs h.2) λo i=>bd (Zr6 s _ hs i.2) λp d=>bd (Zr6 s _ hs d.2) λq e=>?_
 refine bd gk λ_ _=>?_
 refine bd gk λ_ _=>bd wr λ_ g=>?_
 exact nx ⟨e.2,by simp only[List.length_append,List.length_cons,List.length_nil]; omega,by simp only[List.length_append,List.length_cons,List.length_nil]; omega,Z06 b.2.2.2 ⟨d.1,e.1⟩⟩
structure TkOk (s:List UInt8) (t:Wd):Prop where
 ins:t.f_C.Y7=[]
 hnd:∀ h∈t.f_C.Xm,h.Zt=[]
 hndL:t.f_C.Xm.length≤65536
 map:∀ m∈t.f_C.Xe,RFr m
 mapL:t.f_C.Xe.length≤65536
 raw:t.Zks.length=t.f_C.Xe.length
 lin:t.f_C.Xf.length≤65536
 byt:t.Qm.length≤s.length
theorem Y1v (s:List UInt8) (hs:Str s):Ok (Zgc s) (λr=>TkOk s r.1):=by
 unfold Zgc
 refine bd (Wt s _ 2 (by omega) hs ⟨rfl,by dsimp only; omega,by dsimp only; omega⟩) λn j=>bd (Wt s _ 2 (by omega) hs j.2) λo k=>bd (Wt s _ 4 (by omega) hs k.2) λp d=>?_
 have c:Ok (Z7x n o p) (λr=>TkOk s r.1):=by
  unfold Z7x
  exact ok ⟨rfl,λh g=>by simp at g,by simp,λh g=>by simp at g,by simp,rfl,by simp,by simp⟩
 obtain⟨k1,k2,k3⟩:=d.2
 have k4:=d.1.1
 have k5:=d.1.2.2.2 rfl
 refine br (λ_=>c) λ_=>bd wr λy u=>brD (λ_=>c) λm=>?_
 unfold Zm6
 refine bd wr λz v=>bd sb λA c=>bd wr λB w=>?_
 refine bd (Wt s _ 2 (by omega) hs ⟨k1,by dsimp only; omega,by dsimp only; omega⟩) λC l=>bd (L152x1 hs l) λq0 b=>bd (Wt s _ 2 (by omega) hs b.1) λq e=>bd (L152x2 hs e) λx a=>bd (Wt s _ 2 (by omega) hs a.1) λt f=>bd (L152x3 hs f) λq4 i=>?_
 exact ok ⟨rfl,b.2.2,b.2.1,a.2.2.2,a.2.1,a.2.2.1,i.2.1,by have:=c.1; dsimp only; omega⟩
end Go.Proofs
namespace Go.Proofs
open Go.Den Go.Tot
theorem is_eq (x:Int):Z30 x=some (decide (0≤x∧x<81)):=by
 unfold Z30
 by_cases h:x≥0
 ·rw[if_pos (by simpa using h)]; congr 1; simp[h]
 ·rw[if_neg (by simpa using h)]; congr 1; simp; omega
theorem Zjy (x a b:Int):M1 x a b=some (decide (a≤x∧x≤b)):=by
 unfold M1
 by_cases h:x≥a
 ·rw[if_pos (by simpa using h)]; congr 1; simp[h]
 ·rw[if_neg (by simpa using h)]; congr 1; simp; omega
def KindP (x k:Int):Prop:=(k=3↔36≤x∧x≤52)∧(k=6↔x=53)∧(k=7↔x=54)∧(k= -1↔ ¬(0≤x∧x<81))∧ -1≤k∧k≤7
theorem Z8e (x:Int):Ok (M0 x) (KindP x):=by
 unfold M0 Zc7 Zc8
 simp only[is_eq,Zjy]
 unfold KindP
 repeat' first
  | (with_reducible first|refine br! (λ_=>?_) λ_=>?_|refine brD (λ_=>?_) λ_=>?_|refine brE (λ_=>?_) λ_=>?_|refine bs ?_|refine ok ?_)
  | (have a:=of_decide_eq_true (by assumption:decide (0≤x∧x<81)=true); refine⟨?_,?_,?_,?_,?_,?_⟩ <;> omega)
  | (have a:=of_decide_eq_false (by assumption:decide (0≤x∧x<81)=false); refine⟨?_,?_,?_,?_,?_,?_⟩ <;> omega)
theorem Zrp (x:Int):Z4x x=some (decide (36≤x∧x≤54)):=by
 unfold Z4x; rw[Zjy]; rfl
theorem Y1c (x:Zg) (k:Qy x):Ok (Z8 (Z4f x) Zb 0) (λq=>match q with|.inl _=>∀ v∈x.Zs,0≤v∧v<1000|.inr b=>b=false):=by
 have:=k.tos
 refine lp (λt=>t) x.Zs.length (λt=>∀ (j:Nat) v,(j:Int)<t→x.Zs[j]?=some v→0≤v∧v<1000) (λt f n o=>?_) (by omega) (λj v h=>by omega) (by omega) (by omega)
 unfold Z4f
 refine brD (λa=>?_) λd=>dn λv c=>?_
 ·obtain⟨y,m,r,g⟩:=gri (l:=x.Zs) (i:=t) (by omega) a
  rw[m]
  refine bs (brD (λ_=>dn rfl) λ_=>bs (brD (λ_=>dn rfl) λ_=>bd wr λs p=>nx (λj v e c=>?_) (by omega) (by omega)))
  rcases Int.lt_or_le (j:Int) t with a|d
  ·exact f j v a c
  ·have:j=t.toNat:=by omega
   subst this
   rw[g] at c; cases c
   omega
 ·obtain⟨j,e⟩:=List.mem_iff_getElem?.1 c
  exact f j v (by have:=(List.getElem?_eq_some_iff.1 e).1; omega) e
theorem aims_ok (x:Zg) (a:Qy x):Ok (Z0n x) (λb=>b=true→0≤x.f_To∧x.f_To<1000∧∀ v∈x.Zs,0≤v∧v<1000):=by
 unfold Z0n
 refine brD (λ_=>ok λh=>by cases h) λ_=>brD (λ_=>ok λh=>by cases h) λ_=>?_
 unfold Zca
 refine bd (Y1c x a) λq hq=>?_
 cases q with
 | inl _=>exact ok λ_=>⟨by omega,by omega,hq⟩
 | inr b=>exact ok λh=>by cases hq.symm.trans h
theorem keys_ok (x:Zg) (a:Qy x):Ok (Z4z x) (λe=>e=0→(x.f_Op=53→1≤x.Zs.length∧x.Zs.length≤64)∧(x.f_Op≠53→x.Yg.length≤64∧x.Zs.length=x.Yg.length)):=by
 have:=a.tos
 have:=a.keys
 unfold Z4z Zcc Zcb
 refine brE (λ_=>brE (λ_=>ok (by omega)) λ_=>brD (λ_=>ok (by omega)) λ_=>bd (Zjr _) λv h=>br! (λ_=>ok (by omega)) λ_=>bd wr λ_ _=>bd wr λ_ _=>brD (λ_=>ok (by omega)) λ_=>ok (by omega)) λ_=>?_
 refine brD (λ_=>ok (by omega)) λ_=>brN (λ_=>ok (by omega)) λ_=>bd (Zqs x a) λq _=>?_
 have h:∀ e:Int,Ok (some e) (λe=>e=0→(x.f_Op=53→1≤x.Zs.length∧x.Zs.length≤64)∧(x.f_Op≠53→x.Yg.length≤64∧x.Zs.length=x.Yg.length)):=λe=>ok λ_=>⟨by omega,by omega⟩
 cases q with
 | inl _ => refine bd (Zqt x a) λq _=>?_
            cases q <;> exact h _
 | inr _=>exact h _
structure U5 (x:Zg):Prop where
 op:0≤x.f_Op∧x.f_Op<81
 tab:x.f_Op=53→1≤x.Zs.length∧x.Zs.length≤64
 look:x.f_Op=54→x.Yg.length≤64∧x.Zs.length=x.Yg.length
 aim:36≤x.f_Op→x.f_Op≤54→0≤x.f_To∧∀ v∈x.Zs,0≤v
 few:x.f_Op≠53→x.f_Op≠54→x.Zs=[]
theorem used_ok (x:Zg) (k:Int):Ok (Z51 x k) (λb=>b=true→k≠6→k≠7→x.Zs.length=0):=by
 unfold Z51 Zc9 Z7o Z7p
 repeat' first
  | (with_reducible first|refine br! (λ_=>?_) λ_=>?_|refine brE (λ_=>?_) λ_=>?_|refine brN (λ_=>?_) λ_=>?_|refine ok ?_)
  | (intro a c d; first|(cases a; done)|(simp only[beq_iff_eq] at *; omega))
theorem Z6k (x:Zg) (o:Qy x):Ok (Js x) (λe=>e=0→U5 x):=by
 unfold Js
 refine bd (Z8e x.f_Op) λk q=>brD (λ_=>ok (by omega)) λr=>bd (used_ok x k) λb a=>br! (λ_=>ok (by omega)) λs=>?_
 obtain⟨k3,k6,k7,km,k0,k1⟩:=q
 have d:=a s
 have l:(k=6∨k=7)→(0≤x.f_To∧∀ v∈x.Zs,0≤v)→Ok (Z47 x) (λe=>e=0→U5 x):=λh c=>by
  unfold Z47
  exact bd (keys_ok x o) λv g=>ok λhe=>⟨by omega,λh=>(g he).1 h,λh=>(g he).2 (by omega),λ_ _=>c,λ_ _=>by omega⟩
 have f:(k=3∨k=6∨k=7→0≤x.f_To∧∀ v∈x.Zs,0≤v)→Ok (Z1a k x) (λe=>e=0→U5 x):=λc=>by
  unfold Z1a
  exact brE (λh=>l (.inl h) (c (.inr (.inl h)))) λm=>brE (λh=>l (.inr h) (c (.inr (.inr h)))) λn=>ok λ_=>⟨by omega,by omega,by omega,λh t=>c (by omega),λ_ _=>List.eq_nil_of_length_eq_zero (d m n)⟩
 have c:Ok (Z0n x) (λb=>b=true→0≤x.f_To∧∀ v∈x.Zs,0≤v):=(aims_ok x o).mono λb h a=>⟨(h a).1,λv g=>((h a).2.2 v g).1⟩
 have j:Ok (Z46 k x) (λe=>e=0→U5 x):=by
  unfold Z46
  refine brE (λ_=>bd c λb a=>br! (λ_=>ok (by omega)) λh=>f λ_=>a h) λj=>brE (λ_=>bd c λb a=>br! (λ_=>ok (by omega)) λh=>f λ_=>a h) λm=>brE (λ_=>bd c λb a=>br! (λ_=>ok (by omega)) λh=>f λ_=>a h) λn=>f λh=>by omega
 have i:Ok (Z2t k x) (λe=>e=0→U5 x):=by
  unfold Z2t
  exact brE (λ_=>brD (λ_=>ok (by omega)) λ_=>brD (λ_=>ok (by omega)) λ_=>j) λ_=>j
 have p:Ok (Z19 k x) (λe=>e=0→U5 x):=by
  unfold Z19
  exact brE (λ_=>brD (λ_=>ok (by omega)) λ_=>brD (λ_=>ok (by omega)) λ_=>i) λ_=>brE (λ_=>brD (λ_=>ok (by omega)) λ_=>brD (λ_=>ok (by omega)) λ_=>i) λ_=>i
 repeat' first
  | exact p
  | (with_reducible first|refine brE (λ_=>?_) λ_=>?_|refine brD (λ_=>?_) λ_=>?_)
  | exact ok (by omega)
theorem Zve (x:Int):Ok (Z9k x) (λn=>0≤n∧n≤3∧(0≤x→x<81→x≠53→x≠54→1≤n)):=by
 unfold Z9k Zlt Zlu Zlv
 refine bd (Z8e x) λk a=>?_
 obtain⟨k3,k6,k7,km,k0,k1⟩:=a
 repeat' first
  | (with_reducible first|refine brE (λ_=>?_) λ_=>?_|refine ok ?_)
  | exact⟨by omega,by omega,by omega⟩
theorem Zvf (x:Zg) (b:Qy x) (a:U5 x):Ok (Zfx x) (λn=>0≤n∧n≤400):=by
 have:=b.tos
 have:=b.keys
 have:=a.tab
 have:=a.look
 unfold Zfx
 exact brE (λ_=>bd wr λ_ _=>bd wr λ_ _=>ok (by omega)) λ_=>brE (λ_=>bd wr λ_ _=>bd wr λ_ _=>ok (by omega)) λ_=>bd (Zve _) λn c=>ok (by omega)
theorem L60x1 (l:List Zg) (k:∀ i∈l,Qy i) (p:l.length≤140737488355328):Ok (Z8 (Z4e l) Zb 0) (λq=>match q with|.inl _=>∀ i∈l,U5 i|.inr y=>y.2≠0∧y.1=[]):=by
 refine lp (λt=>t) l.length (λt=>∀ (j:Nat) v,(j:Int)<t→l[j]?=some v→U5 v) (λt f m n=>?_) (by omega) (λj v h=>by omega) (by omega) (by omega)
 unfold Z4e
 refine brD (λa=>?_) λc=>dn λv b=>?_
 ·refine bd gri λi g=>bd (Z6k i (k i g.1)) λe he=>brN (λh=>dn ⟨h,rfl⟩) λh=>bd wr λr o=>nx (λj v d b=>?_) (by omega) (by omega)
  rcases Int.lt_or_le (j:Int) t with a|c
  ·exact f j v a b
  ·have:j=t.toNat:=by omega
   subst this
   rw[g.2] at b; cases b
   exact he h
 ·obtain⟨j,d⟩:=List.mem_iff_getElem?.1 b
  exact f j v (by have:=(List.getElem?_eq_some_iff.1 d).1; omega) d
theorem Zo0 (l:List Zg) (e:∀ i∈l,Qy i) (f:l.length≤140737488355328):Ok (Kd l) (λr=>(r.2=0→r.1.length=l.length+1∧l.length≤1000∧∀ i∈l,U5 i)∧r.1.length≤1001):=by
 unfold Kd
 refine bd (L60x1 l e f) λq hq=>?_
 cases q with
 | inr y=>exact ok ⟨λh=>absurd h hq.1,by rw[hq.2]; simp⟩
 | inl _=>
  refine brD (λ_=>ok ⟨by omega,by simp⟩) λhs=>?_
  refine bd (P:=λr=>r.length=l.length+1) ?_ λB b=>bd ik λj p=>bd (la (by omega)) λ_ _=>brD (λ_=>ok ⟨by omega,by simp⟩) λ_=>ok ⟨λ_=>⟨b,by omega,hq⟩,by dsimp only; omega⟩
  refine lp (λt=>t.1) l.length (λt=>(t.2.length:Int)=t.1+1∧∀ v∈t.2,0≤v∧v≤400*t.1) (λt g x z=>?_) (by omega) ⟨rfl,by simp⟩
  obtain⟨m,a⟩:=g
  unfold Zdg
  refine brD (λs=>?_) λo=>dn (by omega)
  refine bd ik λj p=>bd (la (by omega)) λv c=>bd gr λi d=>bd (Zvf i (e i d) (hq i d)) λn f=>?_
  have u:=a v c.2
  refine bd wr λw hw=>bd gk λ_ _=>bd wr λk A=>?_
  refine nx ⟨by simp only[List.length_append,List.length_cons,List.length_nil]; omega,Z06 (λv c=>?_) ?_⟩
  ·have:=a v c; dsimp only; omega
  ·dsimp only; omega
theorem Md (s:List UInt8) (a n:Int) (b:n=1∨n=2∨n=4) (hs:Str s):Ok (Ke s a n) (Us n):=bd (Z67 s a n b hs) λv h=>ok h.2
theorem Zit (s:List UInt8) (a n:Int) (b:n=1∨n=2∨n=4) (hs:Str s):Ok (Z50 s a n) (λ_=>True):=bd (Zqv s a n b hs) λv h=>ok trivial
theorem need_ok (s:List UInt8) (a op:Int) (hs:Str s) (u:0≤a) (w:a≤s.length) (z:0≤op) (i:op<81):Ok (Z9m s a op) (λn=>n<0∨(1≤n∧a+n≤s.length)):=by
 have g:∀ p:Int,1≤p→p≤1000000→Ok (Z81 s a p) (λn=>n<0∨(1≤n∧a+n≤s.length)):=λp hp d=>by
  unfold Z81
  exact bd wr λv B=>brD (λ_=>ok (by omega)) λ_=>ok (by omega)
 have c:∀ p q:Int,5≤p→p≤9→0≤q→q≤6→Ok (Z80 s a p q) (λn=>n<0∨(1≤n∧a+n≤s.length)):=λp q hp d hq e=>by
  unfold Z80 Zml
  refine bd wr λC l=>bd wr λj m=>bd (Z67 s j 2 (by omega) hs) λh f=>bd wr λD o=>brD (λ_=>ok (by omega)) λ_=>brN (λ_=>ok (by omega)) λ_=>?_
  have A:=f.2.2.2.1 rfl
  have b:=f.2.1
  have x:0≤q*h.1∧q*h.1≤6*65536:=⟨Int.mul_nonneg hq b,Int.le_trans (Int.mul_le_mul_of_nonneg_right e b) (by omega)⟩
  exact bd wr λE r=>bd wr λk t=>g k (by omega) (by omega)
 unfold Z9m Zck
 exact bd (Zve op) λn y=>brE (λ_=>brE (λ_=>c 5 6 (by omega) (by omega) (by omega) (by omega)) λ_=>c 9 2 (by omega) (by omega) (by omega) (by omega)) λ_=>brE (λ_=>brE (λ_=>c 5 6 (by omega) (by omega) (by omega) (by omega)) λ_=>c 9 2 (by omega) (by omega) (by omega) (by omega)) λ_=>g n (by omega) (by omega)
theorem L164x1 (n:Int) (s:List UInt8) (a:Int) (hs:Str s) (j:0≤a) (l:a≤s.length) (p:0≤n) (c:n<65536):Ok (Z8 (Ze6 n s a) Zb (0,([]:List Int))) (λr=>r.length≤65536):=by
 refine lp (λt=>t.1) n (λt=>(t.2.length:Int)=t.1) (λt m g0 i=>?_) (by omega) rfl
 unfold Ze6
 refine brD (λb=>bd wr λq e=>bd wr λu f=>bd wr λd g=>bd (Md s d 2 (by omega) hs) λv h=>?_) λ_=>dn (by omega)
 exact bd gk λ_ _=>bd wr λk o=>nx (by simp only[List.length_append,List.length_cons,List.length_nil]; omega)
theorem L164x2 (n:Int) (s:List UInt8) (a:Int) (hs:Str s) (l:0≤a) (m:a≤s.length) (q:0≤n) (c:n<65536):Ok (Z8 (Ze7 n s a) Zb (0,([]:List Int),([]:List Int))) (λr=>r.1.length≤65536∧r.2.length≤65536):=by
 refine lp (λt=>t.1) n (λt=>(t.2.1.length:Int)=t.1∧(t.2.2.length:Int)=t.1) (λt o g0 j=>?_) (by omega) ⟨rfl,rfl⟩
 unfold Ze7
 refine brD (λb=>bd wr λu f=>bd wr λv g=>bd wr λd h=>bd (Zit s d 4 (by omega) hs) λw i=>?_) λ_=>dn (by dsimp only at *; omega)
 refine bd gk λ_ _=>bd wr λ_ _=>bd wr λ_ _=>bd wr λe _=>bd (Md s e 2 (by omega) hs) λ_ _=>?_
 exact bd gk λ_ _=>bd wr λk p=>nx (by simp only[List.length_append,List.length_cons,List.length_nil]; omega)
def TkI (i:Zg):Prop:=i.Yg.length≤65536∧i.Zs.length≤65536∧i.Yv={ Zy:=[],Zn:=[],Xh:=[] }∧i.f_S=[]
theorem TkI.w {i:Zg} (h:TkI i):Qy i:=⟨by have:=h.1; omega,by have:=h.2.1; omega,by rw[h.2.2.1]; exact⟨by simp,by simp,by simp⟩,by rw[h.2.2.2]; simp⟩
theorem take_ok (s:List UInt8) (a op:Int) (hs:Str s) (c:0≤a) (d:a≤s.length):Ok (Zfy s a op) TkI:=by
 unfold Zfy
 have z:∀ x y w v,TkI { f_Op:=x,f_A:=y,f_B:=w,f_To:=v,Yg:=[],Zs:=[],Yv:={ Zy:=[],Zn:=[],Xh:=[] },f_S:=[] }:=λ_ _ _ _=>⟨by simp,by simp,rfl,rfl⟩
 refine bd (Z8e op) λk _=>brE (λ_=>?_) λ_=>brE (λ_=>?_) λ_=>brE (λ_=>?_) λ_=>brE (λ_=>?_) λ_=>brE (λ_=>?_) λ_=>brE (λ_=>?_) λ_=>brE (λ_=>?_) λ_=>ok (z _ _ _ _)
 ·exact bd wr λ_ _=>bd (Zit s _ 1 (by omega) hs) λ_ _=>ok (z _ _ _ _)
 ·exact bd wr λ_ _=>bd (Md s _ 2 (by omega) hs) λ_ _=>ok (z _ _ _ _)
 ·exact bd wr λ_ _=>bd (Md s _ 2 (by omega) hs) λ_ _=>ok (z _ _ _ _)
 ·exact bd wr λ_ _=>bd (Md s _ 1 (by omega) hs) λ_ _=>ok (z _ _ _ _)
 ·exact bd wr λ_ _=>bd (Md s _ 1 (by omega) hs) λ_ _=>bd wr λ_ _=>bd (Zit s _ 1 (by omega) hs) λ_ _=>ok (z _ _ _ _)
 ·refine bd wr λ_ _=>bd (Md s _ 2 (by omega) hs) λ_ _=>bd wr λ_ _=>bd (Zit s _ 4 (by omega) hs) λ_ _=>bd wr λ_ _=>bd (Md s _ 2 (by omega) hs) λn b=>?_
  exact bd (L164x1 n s a hs c d b.1 (b.2.2.1 rfl)) λq hq=>ok ⟨by simp,hq,rfl,rfl⟩
 ·refine bd wr λ_ _=>bd (Md s _ 2 (by omega) hs) λ_ _=>bd wr λ_ _=>bd (Md s _ 2 (by omega) hs) λn b=>?_
  exact bd (L164x2 n s a hs c d b.1 (b.2.2.1 rfl)) λq hq=>ok ⟨hq.1,hq.2,rfl,rfl⟩
theorem Zzk (l:List Int) (x:Int) (c:l.length≤140737488355328):Ok (Z52 l x) (λk=>k<l.length):=by
 unfold Z52
 refine bd (P:=λq:Unit⊕Int=>match q with|.inl _=>True|.inr y=>y<l.length) (li l.length (λt a b=>?_) (by omega) (by omega) (by omega)) λq hq=>?_
 ·unfold Znh
  exact brD (λ_=>bd gr λv _=>br (λ_=>di (by assumption)) λ_=>bd wr λ_ _=>ni (by omega) (by omega)) λ_=>di trivial
 ·cases q with
  | inl _=>exact ok (by omega)
  | inr y=>exact ok hq
theorem L153x1 (s:List UInt8) (hs:s.length≤20000):Ok (Z8 (Z8q s) Zb (0,([]:List Zg),([]:List Int))) (λq=>match q with|.inl q=>(∀ i∈q.1,TkI i)∧q.1.length≤20000∧q.2.length≤20000|.inr y=>y.2≠0):=by
 refine lp (λt=>t.1) s.length (λt=>(∀ i∈t.2.1,TkI i)∧(t.2.1.length:Int)≤t.1∧(t.2.2.length:Int)≤t.1) (λt c b j=>?_) (by omega) ⟨U8,by simp,by simp⟩
 obtain⟨a,d,e⟩:=c
 unfold Z8q
 refine brD (λg=>?_) λ_=>dn ⟨a,by dsimp only at *; omega,by dsimp only at *; omega⟩
 refine bd gs λv o=>bd wr λop h=>brD (λ_=>dn (by simp)) λ_=>bd (need_ok s t.1 op (by unfold Str; omega) b (by omega) (by omega) (by omega)) λn m=>brD (λ_=>dn (by simp)) λ_=>?_
 refine bd (take_ok s t.1 op (by unfold Str; omega) b (by omega)) λi f=>?_
 refine bd gk λ_ _=>?_
 refine bd gk λ_ _=>bd wr λk l=>?_
 exact nx ⟨Z06 a f,by simp only[List.length_append,List.length_cons,List.length_nil]; omega,by simp only[List.length_append,List.length_cons,List.length_nil]; omega⟩
theorem L153x3 (ps:List Int) (l:List Int) (hp:ps.length≤20000) (g:l.length≤65536):Ok (Z8 (Z1d ps l.length) Zb (0,l)) (λq=>match q with|.inl r=>r.length=l.length|.inr y=>y.2≠0):=by
 refine lp (λt=>t.1) l.length (λt=>t.2.length=l.length) (λt a c d=>?_) (by omega) rfl
 unfold Z1d
 refine brD (λb=>?_) λ_=>dn a
 refine bd ik λj e=>bd (la (by omega)) λv h=>bd (Zzk ps v (by omega)) λy i=>bd (la (by rw[List.length_set]; omega)) λz m=>brD (λ_=>dn (by simp)) λ_=>bd wr λk f=>?_
 exact nx (by dsimp only; rw[List.length_set]; exact a)
theorem L153x2 (ps:List Int) (l:List Zg) (hp:ps.length≤20000) (g:∀ i∈l,TkI i) (u:l.length≤20000):Ok (Z8 (Z8r ps) Zb (0,l)) (λq=>match q with|.inl r=>(∀ i∈r,TkI i)∧r.length=l.length|.inr y=>y.2≠0):=by
 refine lp (λt=>t.1) l.length (λt=>(∀ i∈t.2,TkI i)∧t.2.length=l.length) (λt e o p=>?_) (by omega) ⟨g,rfl⟩
 obtain⟨a,b⟩:=e
 unfold Z8r
 refine brD (λm=>?_) λ_=>dn ⟨a,b⟩
 refine bd ik λj s=>bd (la (by omega)) λv n=>?_
 rw[Zrp]
 refine bs (br! (λ_=>bd wr λk f=>nx ⟨a,b⟩) λ_=>?_)
 have c:=a v n.2
 refine bd (Zzk ps _ (by omega)) λy w=>brD (λ_=>dn (by simp)) λ_=>bd (L153x3 ps v.Zs hp c.2.1) λq hq=>?_
 cases q with
 | inr y=>exact dn hq
 | inl r=>
  refine bd wr λk f=>nx ⟨λi d=>?_,by dsimp only; rw[List.length_set]; exact b⟩
  rcases List.mem_or_eq_of_mem_set d with h|rfl
  ·exact a i h
  ·exact⟨c.1,by have:=c.2.1; dsimp only at *; omega,c.2.2.1,c.2.2.2⟩
theorem dec_ok (s:List UInt8):Ok (Z4y s) (λr=>r.2=0→(∀ i∈r.1,TkI i)∧r.1.length≤20000):=by
 unfold Z4y
 refine brD (λ_=>ok (by simp)) λhs=>bd (L153x1 s (by omega)) λq hq=>?_
 cases q with
 | inr y=>exact ok λh=>absurd h hq
 | inl q=>
  obtain⟨c,d,f⟩:=hq
  refine brD (λ_=>ok (by simp)) λ_=>bd (L153x2 q.2 q.1 f c d) λk a=>?_
  cases k with
  | inr y=>exact ok λh=>absurd h a
  | inl l=>
   obtain⟨k1,k2⟩:=a
   refine bd (P:=λq:Unit⊕(List Zg×Int)=>match q with|.inl _=>True|.inr y=>y.2≠0) (li l.length (λt n c=>?_) (by omega) (by omega) (by omega)) λm b=>?_
   ·unfold Ze4
    exact brD (λ_=>bd ik λj o=>bd (la (by omega)) λv g=>bd (Z6k v (k1 v g.2).w) λe _=>brN (λh=>di h) λ_=>bd wr λ_ _=>ni (by omega) (by omega)) λ_=>di trivial
   ·cases m with
    | inl _=>exact ok λ_=>⟨k1,by dsimp only; omega⟩
    | inr y=>exact ok λh=>absurd h b
end Go.Proofs
namespace Go.Proofs
open Go.Den Go.Tot
theorem runeLen (n:Int):(Zoi n).length≤4:=by
 unfold Zoi Utf8.encode
 dsimp only
 repeat' split
 all_goals simp[ByteArray.push]
theorem Zba (y:Yl) (c:Str y.Zn):Ok (Z4t y) (λb=>b=true→0≤y.Xl∧y.Xl≤8∧y.Zn.length≤64):=by
 unfold Z4t
 repeat' first
  | unfold Zlg
  | unfold Zlh
  | unfold Zli
  | (with_reducible first|refine brD (λ_=>?_) λ_=>?_|refine br (λ_=>?_) λ_=>?_|refine bd (Zb9 _ ?_) λ_ _=>?_|refine ok ?_)
  | ((intro a; first|(cases a; done)|exact⟨by omega,by omega,by simp_all⟩))
  | assumption
  | omega
  | exact And.left (by assumption)
  | (dsimp only; omega)
theorem L136x1 (y:Yl) (a:0≤y.Xl) (b:y.Xl≤8):Ok (Z8 (Zdz y) Zb ([],0)) (λr=>r.length≤8):=by
 refine lp (λs=>s.2) (y.Xl) (λs=>(s.1.length:Int)=s.2) (λt c _ _=>?_) (by omega) (by simp) (by omega) (by omega)
 try dsimp only at*
 unfold Zdz
 repeat' first
  | (with_reducible first|refine nx ?_ ?_ ?_|refine dn ?_|refine brD (λ_=>?_) λ_=>?_|refine bd wr λ_ _=>?_|refine bd (ct (by first|omega|(simp only[List.length_cons,List.length_nil]; omega))) λ_ _=>?_)
  | ((simp only[*,List.length_append,List.length_cons,List.length_nil]; omega))
  | omega
theorem Y1f (y:Yl) (c:Str y.Zn):Ok (Zfj y) (λr=>r.1.length≤100):=by
 have:=runeLen (IntKind.wrap .i32 y.Yw)
 unfold Zfj
 repeat' first
  | (with_reducible first|refine bd (Zba _ c) λ_ b=>?_|refine br! (λ_=>?_) λa=>?_|refine bd (L136x1 _ (b a).1 (b a).2.1) λ_ _=>?_|refine brE (λ_=>?_) λ_=>?_|refine bd (ct (by have:=(b a).2.2; first|omega|(simp only[List.length_cons,List.length_nil]; omega))) λ_ _=>?_|refine bs ?_|refine ok ?_)
  | (first|(simp; done)|(dsimp only; have:=(b a).2.2; simp only[List.length_cons,List.length_nil] at *; omega))
  | (dsimp only; omega)
theorem L106x1 (p:List Za) (e:Int) (l:List Zz) (hp:X0 p) (b:∀ v∈l,Str v.Zt.Zn) (g:l.length*56≤140737488355328):Ok (Z8 (Zds l) Zb (0,p,e,([]:List Zz))) (λq=>X0 q.1∧(∀ v∈q.2.2,Str v.Zt.Zn)∧q.2.2.length=l.length):=by
 refine lp (λt=>t.1) (l.length) (λt=>X0 t.2.1∧(∀ v∈t.2.2.2,Str v.Zt.Zn)∧(t.2.2.2.length:Int)=t.1) (λt c _ _=>?_) (by omega) (by exact⟨hp,U8,rfl⟩) (by omega) (by omega)
 try dsimp only at*
 unfold Zds
 obtain⟨d,a,f⟩:=c
 repeat' first
  | (with_reducible first|refine nx ?_ ?_ ?_|refine dn ?_)
  | unfold Z7l
  | unfold Z2v
  | (with_reducible first|refine brD (λ_=>?_) λ_=>?_|refine brE (λ_=>?_) λ_=>?_|refine bd gr λ_ _=>?_|refine bd wr λ_ _=>?_|refine bd gk λ_ _=>?_|refine bd (Y1f _ (by exact b _ (by assumption))) λ_ _=>?_|refine bd (M8 _ _ (by first|assumption|omega) (by first|assumption|omega)) λ_ _=>?_)
  | (first|exact K7 a (by first|exact b _ (by assumption)|exact Nat.zero_le _))
  | with_reducible refine And.intro ?_ ?_
  | (simp only[List.length_set,List.length_append,List.length_cons,List.length_nil,List.length_replicate]; omega)
theorem Zre (x:Yh) (l:List Zz) (hp:X0 x.f_P) (a:∀ v∈l,Str v.Zt.Zn) (b:l.length*56≤140737488355328):Ok (Z9c x l) (λr=>X0 r.1.f_P∧(∀ v∈r.2,Str v.Zt.Zn)∧r.2.length=l.length):=by
 unfold Z9c
 repeat' first
  | (with_reducible first|refine bd (L106x1 _ _ _ ?_ ?_ ?_) λ_ _=>?_|refine ok ?_)
  | assumption
  | (obtain⟨_,_⟩:=‹_∧_›)
  | omega
  | exact And.left (by assumption)
  | (dsimp only; omega)
theorem L78x1 (p:List Za) (e:Int) (c:Zx) (hp:X0 p) (b:Wu c):Ok (Z8 (Zdm c) Zb (0,p,e,([]:List Zg))) (λq=>X0 q.1∧(∀ v∈q.2.2,Qy v)∧q.2.2.length=c.Y7.length):=by
 have:=b.insL
 refine lp (λt=>t.1) (c.Y7.length) (λt=>X0 t.2.1∧(∀ v∈t.2.2.2,Qy v)∧(t.2.2.2.length:Int)=t.1) (λt d _ _=>?_) (by omega) (by exact⟨hp,U8,rfl⟩) (by omega) (by omega)
 try dsimp only at*
 unfold Zdm
 obtain⟨f,a,g⟩:=d
 repeat' first
  | (with_reducible first|refine nx ?_ ?_ ?_|refine dn ?_|refine brD (λ_=>?_) λ_=>?_|refine bd gr λ_ _=>?_|refine bd wr λ_ _=>?_|refine bd gk λ_ _=>?_|refine bd (Y2q _ _ (by first|assumption|exact b.ins _ (by assumption)) (by first|assumption|exact b.ins _ (by assumption))) λ_ _=>?_)
  | (exact K7 a (And.right (by assumption)))
  | with_reducible refine And.intro ?_ ?_
  | (simp only[List.length_set,List.length_append,List.length_cons,List.length_nil,List.length_replicate]; omega)
  | (obtain⟨_,_⟩:=‹_∧_›)
theorem L78x2 (p:List Za) (e:Int) (c:Zx) (hp:X0 p) (b:Wu c):Ok (Z8 (Zdn c) Zb (0,p,e,([]:List Yf))) (λq=>X0 q.1∧(∀ v∈q.2.2,v.Zt=[])∧q.2.2.length=c.Xm.length):=by
 have:=b.hndL
 refine lp (λt=>t.1) (c.Xm.length) (λt=>X0 t.2.1∧(∀ v∈t.2.2.2,v.Zt=[])∧(t.2.2.2.length:Int)=t.1) (λt d _ _=>?_) (by omega) (by exact⟨hp,U8,rfl⟩) (by omega) (by omega)
 try dsimp only at*
 unfold Zdn
 obtain⟨f,a,g⟩:=d
 repeat' first
  | (with_reducible first|refine nx ?_ ?_ ?_|refine dn ?_)
  | unfold Zc3
  | (with_reducible first|refine brD (λ_=>?_) λ_=>?_|refine br! (λ_=>?_) λ_=>?_|refine bd gr λ_ _=>?_|refine bd wr λ_ _=>?_|refine bd gk λ_ _=>?_|refine bd (Z6d _ _ (by first|assumption|exact b.hnd _ (by assumption)) (by first|assumption|exact b.hnd _ (by assumption))) λ_ _=>?_)
  | (exact K7 a rfl)
  | with_reducible refine And.intro ?_ ?_
  | (simp only[List.length_set,List.length_append,List.length_cons,List.length_nil,List.length_replicate]; omega)
theorem Lh.of {m:Yi} (h:Lh m.Xa) {l k:List Zz} {b:Bool} (a:∀ v∈l,Str v.Zt.Zn) (d:l.length=m.Xa.Y1.length) (c:∀ v∈k,Str v.Zt.Zn) (e:k.length=m.Xa.Y5.length):
  Lh { Y1:=l,Y5:=k,Wp:=b }:=⟨a,by have:=h.locL; dsimp only; omega,c,by have:=h.stkL; dsimp only; omega⟩
theorem L78x3 (p:List Za) (e:Int) (c:Zx) (hp:X0 p) (a:Wu c):Ok (Z8 (Zdo c) Zb (0,p,e,([]:List Yi))) (λq=>X0 q.1∧(∀ v∈q.2.2,Lh v.Xa)∧q.2.2.length=c.Xe.length):=by
 have:=a.mapL
 refine lp (λt=>t.1) (c.Xe.length) (λt=>X0 t.2.1∧(∀ v∈t.2.2.2,Lh v.Xa)∧(t.2.2.2.length:Int)=t.1) (λt k _ _=>?_) (by omega) ⟨hp,U8,rfl⟩ (by omega) (by omega)
 obtain⟨b,d,m⟩:=k
 unfold Zdo
 refine brD (λj=>?_) λ_=>dn ⟨b,d,by dsimp only; omega⟩
 obtain⟨y,n,f⟩:=gr (l:=c.Xe) (i:=t.1) (by omega) j
 simp only[n]
 refine bs (bs (bd (Zre _ _ b (a.map _ f).loc (a.map _ f).locL) λo g=>bd (Zre _ _ g.1 (a.map _ f).stk (a.map _ f).stkL) λr h=>?_))
 refine bd gk λ_ _=>bd wr λ_ _=>?_
 exact nx ⟨h.1,K7 d ((a.map _ f).of g.2.1 g.2.2 h.2.1 h.2.2),by simp only[List.length_append,List.length_cons,List.length_nil]; omega⟩
theorem Y2o (x:Yh) (c:Zx) (hp:X0 x.f_P) (a:Wu c):Ok (Zfb x c) (λr=>X0 r.1.f_P∧Wu r.2):=by
 unfold Zfb
 refine bd (L78x1 _ _ _ hp a) λq0 b=>bd (L78x2 _ _ _ b.1 a) λg d=>bd (L78x3 _ _ _ d.1 a) λq4 e=>ok ⟨e.1,b.2.1,?_,λv f=>?_,?_,e.2.1,?_,a.linL⟩
 ·have:=a.insL; have:=b.2.2; dsimp only; omega
 ·rw[d.2.1 v f]; simp
 ·have:=a.hndL; have:=d.2.2; dsimp only; omega
 ·have:=a.mapL; have:=e.2.2; dsimp only; omega
theorem L58x2 (p:List Za) (e:Int) (m:Q6) (hp:X0 p) (a:Ks m):Ok (Z8 (Zde m) Zb (0,p,e,([]:List Int))) (λq=>X0 q.1∧q.2.2.length≤140737488355328):=by
 have:=a.excL
 refine lp (λt=>t.1) (m.Wg.length) (λt=>X0 t.2.1∧(t.2.2.2.length:Int)=t.1) (λt b _ _=>?_) (by omega) (by exact⟨hp,rfl⟩) (by omega) (by omega)
 try dsimp only at*
 unfold Zde
 obtain⟨c,d⟩:=b
 repeat' first
  | (with_reducible first|refine nx ?_ ?_ ?_|refine dn ?_|refine brD (λ_=>?_) λ_=>?_|refine bd gr λ_ _=>?_|refine bd wr λ_ _=>?_|refine bd gk λ_ _=>?_|refine bd (Z6d _ _ (by first|assumption|exact a.exc _ (by assumption)) (by first|assumption|exact a.exc _ (by assumption))) λ_ _=>?_|refine And.intro ?_ ?_)
  | (simp only[List.length_set,List.length_append,List.length_cons,List.length_nil,List.length_replicate]; omega)
structure Z3r (n:Int) (ms:List Yt) (cs:List Zx) (ts:List (List Int)) (ns:List Vq):Prop where
 m:(ms.length:Int)=n
 c:(cs.length:Int)=n
 t:(ts.length:Int)=n
 s:(ns.length:Int)=n
 code:∀ v∈cs,Wu v
 att:∀ m∈ms,m.Xv=[]
 thr:∀ l∈ts,l.length≤140737488355328
theorem Z3r.snoc {n k:Int} {ms:List Yt} {cs:List Zx} {ts:List (List Int)} {ns:List Vq} (h:Z3r n ms cs ts ns) {m:Yt} {c:Zx} {l:List Int} {s:Vq} (e:m.Xv=[]) (f:Wu c) (g:l.length≤140737488355328) (q:k=n+1):
  Z3r k (ms++[m]) (cs++[c]) (ts++[l]) (ns++[s]):=by
 obtain⟨i,j,o,p,a,b,d⟩:=h
 refine⟨?_,?_,?_,?_,K7 a f,K7 b e,K7 d g⟩ <;> simp only[List.length_append,List.length_cons,List.length_nil] <;> omega
theorem WCode0:Wu { Y5:=0,Y1:=0,Y7:=[],Xm:=[],Xe:=[],Xf:=[] }:=⟨U8,by simp,U8,by simp,U8,by simp,by simp⟩
abbrev S58:=Int×(List Za)×Int×(List Yt)×(List Zx)×(List (List Int))×(List Vq)
def I58 (t:S58):Prop:=X0 t.2.1∧Z3r t.1 t.2.2.2.1 t.2.2.2.2.1 t.2.2.2.2.2.1 t.2.2.2.2.2.2
def Q58 (n:Int) (q:(List Za)×Int×(List Yt)×(List Zx)×(List (List Int))×(List Vq)):Prop:=X0 q.1∧Z3r n q.2.2.1 q.2.2.2.1 q.2.2.2.2.1 q.2.2.2.2.2
theorem K58x2 {n:Int} {k b d:Int} {e:List Zg} {f:List Yf} {g:List Yi} {h:List Xo} {t0:S58} {j:Q6} {p q:Yh×Int} {i:List Za} {l o:Int}
  (a:I58 t0) (hp:X0 i) (v:Ks j) (u:Wu { Y5:=b,Y1:=d,Y7:=e,Xm:=f,Xe:=g,Xf:=h }) (x:0≤t0.1) (y:t0.1<n) (z:n*184≤140737488355328):
  Ok (Z7b k b d e f g h t0 j p q i l o) (St I58 (λt=>t.1) n (Q58 n) t0):=by
 unfold Z7b
 have:=a.2.m; have:=a.2.c; have:=a.2.t; have:=a.2.s
 refine bd (L58x2 _ _ _ hp v) λq4 r=>?_
 refine bd gk λ_ _=>?_
 refine bd gk λ_ _=>?_
 refine bd gk λ_ _=>?_
 refine bd gk λ_ _=>?_
 refine bd wr λ_ w=>?_
 exact nx ⟨r.1,a.2.snoc rfl u r.2 w⟩
theorem K58x1 {n:Int} {t0:S58} {h:Q6} {k l:Yh×Int} {a:List Za} {i j b c:Int} {d:List Zg} {e:List Yf} {f:List Yi} {g:List Xo}
  (p:I58 t0) (hp:X0 a) (r:Ks h) (q:Wu { Y5:=b,Y1:=c,Y7:=d,Xm:=e,Xe:=f,Xf:=g }) (m:0≤t0.1) (o:t0.1<n) (s:n*184≤140737488355328):
  Ok (Z7a t0 h k l a i j b c d e f g) (St I58 (λt=>t.1) n (Q58 n) t0):=by
 unfold Z7a
 exact brD (λ_=>bd (M8 _ _ hp (by simp)) λv u=>K58x2 p u r q m o s) λ_=>K58x2 p hp r q m o s
theorem L58x1 (p : List Za) (e : Int) (u : Yj) (hp:X0 p) (a:Wv u):Ok (Z8 (Zdd u) Zb (0,p,e,[],[],[],[])) (Q58 u.Yo.length):=by
 have:=a.metL
 refine lp (λt=>t.1) (u.Yo.length) I58 (λt b g h=>?_) (by omega) ⟨hp,rfl,rfl,rfl,rfl,U8,U8,U8⟩ (by omega) (by omega)
 unfold Zdd
 refine brD (fun c => ?_) fun l => dn ⟨b.1, by have:t.1=u.Yo.length:=by omega
                                               rw[← this]; exact b.2⟩
 refine bd gr λm f=>bd (M8 _ _ b.1 (a.met _ f).n) λo h=>bd (M8 _ _ h (a.met _ f).d) λq i=>br (λ_=>?_) λ_=>?_
 ·exact bd (M8 _ _ i (by simp)) λr k=>bd (Y2o _ _ k (a.met _ f).code) λs j=>K58x1 b j.1 (a.met _ f) j.2 g c (by omega)
 ·exact K58x1 b i (a.met _ f) WCode0 g c (by omega)
structure Z3t (u:Yj) (h:Qx):Prop where
 pool:X0 h.f_F.Qp
 fam:Z3r u.Yo.length h.f_F.Yo h.Z41 h.Z42 h.Z18
 ifsL:h.f_F.Yc.length=u.Yc.length
 fldL:h.f_F.Ym.length=u.Ym.length
 fld:∀ m∈h.f_F.Ym,m.Xv.length≤1∧∀ a∈m.Xv,Str a.Qm
 attL:h.f_F.Xv.length≤1
 att:∀ a∈h.f_F.Xv,Str a.Qm
theorem L48x1 (p:List Za) (e:Int) (u:Yj) (hp:X0 p) (c:Wv u):Ok (Z8 (Zd6 u) Zb (0,p,e,([]:List Int))) (λq=>X0 q.1∧q.2.2.length=u.Yc.length):=by
 have:=c.ifsL
 refine lp (λt=>t.1) (u.Yc.length) (λt=>X0 t.2.1∧(t.2.2.2.length:Int)=t.1) (λt d i b=>?_) (by omega) ⟨hp,rfl⟩ (by omega) (by omega)
 obtain⟨a,f⟩:=d
 unfold Zd6
 refine brD (λh=>?_) λg=>dn ⟨a,by dsimp only; omega⟩
 refine bd gr λs hs=>bd (Z6d _ _ a (c.ifs _ hs)) λk b=>?_
 refine bd gk λ_ _=>bd wr λ_ j=>?_
 exact nx ⟨b,by simp only[List.length_append,List.length_cons,List.length_nil]; omega⟩
def MAt (m:Yt):Prop:=m.Xv.length≤1∧∀ a∈m.Xv,Str a.Qm
abbrev S48:=Int×(List Za)×Int×(List Yt)
def I48 (t:S48):Prop:=X0 t.2.1∧(t.2.2.2.length:Int)=t.1∧∀ m∈t.2.2.2,MAt m
theorem K48x2 {u:Yj} (n:Wv u) {t1:S48} {e:Ql} {f g:Yh×Int} {h:List Za} {d:Int} {b:List Vc} (i:I48 t1) (hp:X0 h) (l:b.length≤1∧∀ a∈b,Str a.Qm) (o:0≤t1.1) (p:t1.1<u.Ym.length):
  Ok (Z77 t1 e f g h d b) (St I48 (λt=>t.1) u.Ym.length (λq=>X0 q.1∧q.2.2.length=u.Ym.length∧∀ m∈q.2.2,MAt m) t1):=by
 have:=n.fldL
 obtain⟨j,k,c⟩:=i
 unfold Z77
 refine bd gk λ_ _=>bd wr λ_ r=>?_
 exact nx ⟨hp,by simp only[List.length_append,List.length_cons,List.length_nil]; omega,K7 c l⟩
theorem L48x2 (p:List Za) (e:Int) (u:Yj) (hp:X0 p) (c:Wv u):Ok (Z8 (Zd7 u) Zb (0,p,e,([]:List Yt))) (λq=>X0 q.1∧q.2.2.length=u.Ym.length∧∀ m∈q.2.2,MAt m):=by
 have:=c.fldL
 refine lp (λt=>t.1) (u.Ym.length) I48 (λt b i j=>?_) (by omega) ⟨hp,rfl,U8⟩ (by omega) (by omega)
 unfold Zd7
 refine brD (λg=>?_) λs=>dn ⟨b.1,by have:=b.2.1; dsimp only; omega,b.2.2⟩
 refine bd gr λf h=>bd (M8 _ _ b.1 (c.fld _ h).n) λx j=>bd (M8 _ _ j (c.fld _ h).d) λy k=>brN (λ_=>?_) λ_=>?_
 ·exact bd (M8 _ _ k (by simp)) λz l=>bd (Y2s _ _ l (c.fld _ h)) λA o=>bd (Zr9 _) λv w=>K48x2 c b o ⟨by simp,λa r=>by rw[List.mem_singleton.1 r]; show v.length≤_; omega⟩ i g
 ·exact K48x2 c b k ⟨by simp,U8⟩ i g
theorem Y2r (x:Yh) (u:Yj) (h:Qx) (hp:X0 x.f_P) (d:Wv u) (b:h.f_F.Yc.length=u.Yc.length) (a:h.f_F.Ym.length=u.Ym.length) (c:∀ m∈h.f_F.Ym,MAt m):
  Ok (Zfe x u h) (λr=>X0 r.1.f_P∧Z3t u r.2):=by
 unfold Zfe
 exact bd (L58x1 _ _ _ hp d) λq hq=>ok ⟨hq.1,X0.nil,hq.2,b,a,c,by simp,U8⟩
theorem K48x3 {u:Yj} {d:Yh×Qx} (hw:Z3t u d.2) {c:List Za} {e:Int} {b:List Vc} (hp:X0 c) (f:b.length≤1∧∀ a∈b,Str a.Qm):Ok (Z78 d c e b) (λr=>X0 r.1.f_P∧Z3t u r.2):=by
 unfold Z78
 exact ok ⟨hp,hp,hw.fam,hw.ifsL,hw.fldL,hw.fld,f.1,f.2⟩
theorem K48x1 {u:Yj} (d:Wv u) {j:Yh×Int} {p0:List Za} {h i:Int} (hp:X0 p0):Ok (Z76 j u p0 h i) (λr=>X0 r.1.f_P∧Z3t u r.2):=by
 unfold Z76
 refine bd (L48x1 _ _ _ hp d) λq0 e=>bd (L48x2 _ _ _ e.1 d) λn c=>bd (Y2r _ _ _ c.1 d ?_ ?_ c.2.2) λk b=>br (λ_=>?_) λ_=>K48x3 b.2 b.1 ⟨b.2.attL,b.2.att⟩
 ·exact e.2
 ·exact c.2.1
 ·exact bd (M8 _ _ b.1 (by simp)) λo f=>bd (M8 _ _ f d.src) λp c=>bd (Zr9 _) λl m=>K48x3 b.2 c ⟨by simp,λa g=>by rw[List.mem_singleton.1 g]; show l.length≤_; omega⟩
theorem Y2p (x:Yh) (u:Yj) (hp:X0 x.f_P) (a:Wv u):Ok (Zfc x u) (λr=>Z3t u r.2):=by
 unfold Zfc
 refine(bd (Z6d _ _ hp a.n) λe b=>br (λ_=>bd (Z6d _ _ b a.sup) λf c=>K48x1 a c) λ_=>K48x1 a b:Ok _ (λr:Yh×Qx=>X0 r.1.f_P∧Z3t u r.2)).mono λr d=>d.2
end Go.Proofs
namespace Go.Proofs
open Go.Den Go.Tot
theorem Zpo (s:List UInt8) (a:Int) (hs:Str s) (g:0≤a) (k:a≤s.length):Ok (Z1l s a) (λr=>r.2= -1∨(a<r.2∧r.2≤s.length)):=by
 unfold Z1l
 refine bd (P:=λq:Int×Int=>a≤q.2∧q.2≤(s.length:Int)∧0≤q.1∧q.1≤4503599627370496) (lp (λt=>t.1) s.length (λt=>0≤t.2∧t.2≤t.1∧a≤t.1) (λt m g0 d=>?_) (by omega) ⟨by omega,g,by omega⟩ g k) λq hq=>?_
 ·unfold Zd8 Zc1
  refine brD (λf=>bd gs λ_ _=>brE (λ_=>bd wr λ_ _=>bd wr λ_ _=>nx ?_ ?_ ?_) λ_=>dn ?_) λ_=>dn ?_ <;> dsimp only <;> omega
 ·obtain⟨o,p⟩:=q
  dsimp only at hq ⊢
  have j2:∀ (v:Int) (p0:List UInt8) (c:Int),Str p0→a<c→c≤s.length→Ok (Z2s (o,p) v p0 c) (λr=>r.2= -1∨(a<r.2∧r.2≤s.length)):=λv p0 c d i j=>by
   unfold Z2s
   exact bd (Zba _ d) λb _=>br! (λ_=>ok (.inl rfl)) λ_=>ok (.inr ⟨i,j⟩)
  refine brD (λ_=>ok (.inl rfl)) λ_=>bd gs λy _=>bd wr λh x=>brE (λ_=>?_) λ_=>j2 _ _ _ (by simp) (by omega) (by omega)
  refine bd (P:=λq:Int=>h≤q∧q≤(s.length:Int)) (lp (λt=>t) s.length (λt=>h≤t) (λt m g0 d=>?_) (by omega) (by omega) (by omega) (by omega)) λq n=>?_
  ·unfold Zd9
   exact brD (λf=>bd gs λ_ _=>brN (λ_=>bd wr λ_ _=>nx (by omega) (by omega) (by omega)) λ_=>dn ⟨by omega,by omega⟩) λ_=>dn ⟨by omega,by omega⟩
  ·exact brD (λ_=>ok (.inl rfl)) λ_=>bd sb λu e=>bd wr λw l=>j2 _ _ _ (by have:=e.1; unfold Str at *; omega) (by omega) (by omega)
theorem Z68 (s:List UInt8) (hs:Str s):Ok (Kz s) (λ_=>True):=by
 unfold Kz
 exact bd (Zpo s 0 hs (by omega) (by omega)) λv _=>brN (λ_=>ok trivial) λ_=>ok trivial
theorem Zu2 {s:List UInt8} (h:(s==([]:List UInt8))=false):0<s.length:=by
 cases s with
 | nil=>simp at h
 | cons a r=>simp
theorem Y1h (s:List UInt8) (hs:Str s):Ok (Zfl s) (λ_=>True):=by
 unfold Zfl Zm5
 exact bd (Zb9 s hs) λb _=>br (λ_=>ok trivial) λ_=>br (λ_=>ok trivial) λh=>by
  have:=Zu2 h
  exact bd gs λv _=>brN (λ_=>ok trivial) λ_=>bd (Z68 s hs) λv _=>ok trivial
theorem Zjm (s:List UInt8) (hs:Str s):Ok (Z4q s) (λb=>b=true→0<s.length):=by
 unfold Z4q
 refine br (λh=>ok λ_=>?_) λ_=>br (λh=>ok λ_=>?_) λ_=>brD (λ_=>bd (Zjn s hs) λb a=>ok λh=>?_) λ_=>ok λh=>by cases h
 ·rw[eq_of_beq h]; simp
 ·rw[eq_of_beq h]; simp
 ·exact List.length_pos_iff.2 (a h)
theorem Zjo (s:List UInt8) (hs:s.length≤1048576):Ok (Z4s s) (λr=>r.1.Z0b.length≤1048576):=by
 unfold Z4s
 refine br (λ_=>ok (by simp)) λh=>?_
 have d:=Zu2 h
 refine bd gs λv _=>brN (λ_=>ok (by simp)) λ_=>?_
 unfold Zlx
 refine bd (P:=λq:(List Yl×Int)⊕(V9×Int)=>match q with|.inl q=>q.1.length≤1048576∧0≤q.2∧q.2≤(s.length:Int)|.inr y=>y.1.Z0b=[]) (lp (λt=>t.1) s.length (λt=>(t.2.length:Int)≤t.1) (λt k g0 b=>?_) (by omega) (by simp)) λq hq=>?_
 ·unfold Zn9 Zly Zlz
  have c:t.2.length≤1048576∧0≤t.1∧t.1≤s.length:=⟨by omega,g0,b⟩
  refine brD (λf=>bd gs λ_ _=>brN (λ_=>?_) λ_=>dn c) λ_=>dn c
  refine bd (Zpo s t.1 (by unfold Str; omega) g0 b) λr l=>brD (λ_=>dn rfl) λg=>brE (λ_=>dn rfl) λ_=>?_
  have a:t.1<r.2∧r.2≤s.length:=by omega
  exact bd gk λ_ _=>nx (by simp only[List.length_append,List.length_cons,List.length_nil]; omega) a.1 a.2
 ·cases q with
  | inr y=>exact ok (by rw[hq]; simp)
  | inl q=>
   obtain⟨e,i,j⟩:=hq
   refine brD (λ_=>ok (by simp)) λ_=>bd wr λv m=>bd (Zpo s v (by unfold Str; omega) (by omega) (by omega)) λr _=>brN (λ_=>ok (by simp)) λ_=>brD (λ_=>ok (by simp)) λ_=>ok (by dsimp only; exact e)
theorem Y1n (s:List UInt8) (hs:s.length≤1048576):Ok (Zfr s) (λ_=>True):=by
 unfold Zfr
 exact bd (Z68 s (by unfold Str; omega)) λv _=>brE (λ_=>ok trivial) λ_=>bd (Zjo s hs) λ_ _=>ok trivial
def Ent (p:List Za) (i:Int) (c:Za):Prop:=∃ k:Nat,i=(k:Int)+1∧p[k]?=some c
theorem Ent.mem {p:List Za} {i:Int} {c:Za} (h:Ent p i c):c∈p:=by
 obtain⟨k,-,h⟩:=h
 exact List.mem_of_getElem? h
theorem Z6b (p:List Za) (i:Int) (hp:p.length≤140737488355328):Ok (Z1n p i) (λr=>(r.2=0→Ent p i r.1)∧(r.2≠0→r.1.f_S=[])):=by
 unfold Z1n
 refine brD (λ_=>ok ⟨by simp,by simp⟩) λ_=>brD (λ_=>ok ⟨by simp,by simp⟩) λ_=>bd wr λv b=>bd gri λc a=>ok ⟨λ_=>⟨v.toNat,by omega,a.2⟩,by simp⟩
theorem Zbb (p:List Za) (i t:Int) (hp:p.length≤140737488355328):Ok (Z2z p i t) (λr=>(r.2=0→Ent p i r.1∧r.1.Qh=t)∧(r.2≠0→r.1.f_S=[])):=by
 unfold Z2z
 exact bd (Z6b p i hp) λv c=>brN (λh=>ok ⟨λa=>absurd a h,λ_=>rfl⟩) λh=>brN (λ_=>ok ⟨by simp,by simp⟩) λb=>ok ⟨λ_=>⟨c.1 h,b⟩,by simp⟩
theorem Uq (p:List Za) (i:Int) (hp:p.length≤140737488355328):Ok (U1 p i) (λr=>r.1=[]∨∃ c,Ent p i c∧r.1=c.f_S):=by
 unfold U1
 refine bd (Zbb p i 1 hp) λv a=>ok ?_
 by_cases h:v.2=0
 ·exact .inr ⟨_,(a.1 h).1,rfl⟩
 ·exact .inl (a.2 h)
abbrev PS (p:List Za) (B:Nat):Prop:=∀ c∈p,c.f_S.length≤B
theorem Z5w {p:List Za} {i:Int} {B:Nat} (h:PS p B) {s:List UInt8} (hs:s=[]∨∃ c,Ent p i c∧s=c.f_S):s.length≤B:=by
 rcases hs with rfl|⟨c,a,rfl⟩
 ·simp
 ·exact h c a.mem
theorem Zjq (p:List Za) (i:Int) {B:Nat} (hp:p.length≤140737488355328) (h:PS p B):Ok (Z4w p i) (λr=>r.1.length≤B):=by
 unfold Z4w
 exact bd (Zbb p i 7 hp) λv b=>brN (λ_=>ok (by simp)) λ_=>bd (Uq p _ hp) λr a=>ok (Z5w h a)
theorem Z6c (t:Int):Ok (Z1o t) (λ_=>True):=by
 unfold Z1o
 exact br (λ_=>ok trivial) λ_=>br (λ_=>ok trivial) λ_=>ok trivial
theorem Zr0 (p:List Za) (i:Int) (hp:p.length≤140737488355328):Ok (Z9g p i) (λr=>(r.1=[]∨∃ c,c∈p∧r.1=c.f_S)∧(r.2.1=[]∨∃ c d,Ent p i c∧Ent p c.f_B d∧r.2.1=d.f_S)):=by
 unfold Z9g
 refine bd (Zbb p i 12 hp) λv k=>brN (λ_=>ok ⟨.inl rfl,.inl rfl⟩) λh=>bd (Uq p _ hp) λa g=>brN (λ_=>ok ⟨.inl rfl,.inl rfl⟩) λ_=>bd (Uq p _ hp) λb j=>brN (λ_=>ok ⟨.inl rfl,.inl rfl⟩) λ_=>ok ⟨?_,?_⟩
 ·rcases g with e|⟨c,f,e⟩
  ·exact .inl e
  ·exact .inr ⟨c,f.mem,e⟩
 ·rcases j with e|⟨c,f,e⟩
  ·exact .inl e
  ·exact .inr ⟨_,c,(k.1 h).1,f,e⟩
theorem Y1k (p:List Za) (i t:Int) {B:Nat} (hp:p.length≤140737488355328) (h:PS p B):Ok (Zfn p i t) (λ_=>True):=by
 unfold Zfn Zmg
 exact bd (Z6b p i hp) λv a=>brN (λ_=>ok trivial) λ_=>bd (Z6c t) λb _=>br! (λ_=>ok trivial) λ_=>brN (λ_=>ok trivial) λ_=>bd (Zjq p _ hp h) λr _=>brN (λ_=>ok trivial) λ_=>bd (Zr0 p _ hp) λr _=>brN (λ_=>ok trivial) λ_=>ok trivial
theorem Y1j (t:Int):Ok (Zfm t) (λ_=>True):=by
 unfold Zfm
 repeat' first
  | exact ok trivial
  | with_reducible refine br (λ_=>?_) λ_=>?_
  | exact bd (Z6c t) λ_ _=>ok trivial
theorem Y1o (c:Za):Ok (Zfs c) (λb=>b=true→c.Qh≠1→c.f_S=[]):=by
 have e:(c.Qh≠1→c.f_S=[])→∀ p,Ok (Z7q c p) (λb=>b=true→c.Qh≠1→c.f_S=[]):=λh p=>by
  unfold Z7q
  repeat' first
   | exact ok λ_=>h
   | with_reducible refine br (λ_=>?_) λ_=>?_
 have d:(c.Qh≠1→c.f_S=[])→Ok (Z0g c) (λb=>b=true→c.Qh≠1→c.f_S=[]):=λh=>by
  unfold Z0g
  exact br (λ_=>e h _) λ_=>bd (Z6c _) λ_ _=>e h _
 unfold Zfs
 refine brN (λ_=>br! (λ_=>ok λh=>by cases h) λhe=>?_) λa=>?_
 ·have f:c.f_S=[] :=by simpa using he
  repeat' first
   | exact d λ_=>f
   | exact ok λh=>by cases h
   | with_reducible refine brN (λ_=>?_) λ_=>?_
 ·repeat' first
   | exact d λh=>absurd a h
   | exact ok λh=>by cases h
   | with_reducible refine brN (λ_=>?_) λ_=>?_
theorem Y1l (p:List Za) (c:Za) (hp:p.length≤140737488355328):Ok (Zfo p c) (λ_=>True):=by
 have e:∀ i t,Ok (Zfu p i t) (λ_=>True):=λi t=>bd (Zbb p i t hp) λ_ _=>ok trivial
 have d:∀ a b,Ok (Z7r p c a b) (λ_=>True):=λa b=>by
  unfold Z7r Zlw
  exact bd (e _ _) λv _=>brN (λ_=>ok trivial) λ_=>br (λ_=>ok trivial) λ_=>br (λ_=>ok trivial) λ_=>bd (e _ _) λ_ _=>ok trivial
 unfold Zfo
 exact bd (Z6c _) λb _=>br (λ_=>d _ _) λ_=>d _ _
theorem Y1p (t:Int) (a b:List UInt8) (c:b.length≤1048576):Ok (Zft t a b) (λ_=>True):=by
 unfold Zft
 refine bd (Zjo b c) λv _=>?_
 repeat' first
  | exact ok trivial
  | (with_reducible first|refine brD (λ_=>?_) λ_=>?_|refine br (λ_=>?_) λ_=>?_|refine bd gs λ_ _=>?_)
theorem Y1m (p:List Za) (hp:X0 p) (k:Nat) (c:Za) (A:p[k]?=some c) (y:∀ (j:Nat) d,j<k→p[j]?=some d→d.f_S.length≤1024):Ok (Zfp p c) (λe=>e=0→c.f_S.length≤1024):=by
 have m:p.length≤140737488355328:=by have:=hp.len; omega
 have t:=hp.ord k c A
 have n:∀ i:Int,i≤k→∀ s:List UInt8,(s=[]∨∃ d,Ent p i d∧s=d.f_S)→s.length≤1024:=λi E s hs=>by
  rcases hs with rfl|⟨d,⟨j,l,g⟩,rfl⟩
  ·simp
  ·exact y j d (by omega) g
 have g:Ok (Z7t p c) (λ_=>True):=by
  unfold Z7t
  refine bd (Z6c _) λb _=>br (λ_=>bd (Zr0 p _ m) λr C=>brE (λ_=>bd (Y1p _ _ _ ?_) λ_ _=>ok trivial) λ_=>ok trivial) λ_=>ok trivial
  rcases C.2 with h|⟨d,e,l,g,x⟩
  ·rw[h]; simp
  ·obtain⟨j,D,w⟩:=l
   have:=hp.ord j d w
   exact Nat.le_trans (n d.f_B (by omega) _ (.inr ⟨e,g,x⟩)) (by omega)
 have l:Ok (Z7s p c) (λ_=>True):=by
  unfold Z7s
  refine brE (λ_=>bd (Uq p _ m) λa o=>bd (Uq p _ m) λb q=>bd (Zjm _ (by have:=n _ t.1 _ o; unfold Str; omega)) λ_ _=>br! (λ_=>ok trivial) λ_=>bd (Y1n _ (by have:=n _ t.2 _ q; omega)) λ_ _=>br! (λ_=>ok trivial) λ_=>g) λ_=>g
 have f:Ok (Zfq p c) (λ_=>True):=by
  unfold Zfq
  exact brE (λ_=>bd (Uq p _ m) λa o=>bd (Y1h _ (by have:=n _ t.1 _ o; unfold Str; omega)) λ_ _=>brN (λ_=>ok trivial) λ_=>l) λ_=>l
 have u:c.f_S.length≤1024→Ok (Z2u p c) (λe=>e=0→c.f_S.length≤1024):=λhs=>by
  unfold Z2u Zln
  refine br (λ_=>ok λ_=>hs) λ_=>br (λ_=>ok λ_=>hs) λ_=>br (λ_=>ok λ_=>hs) λ_=>bd (Y1l p c m) λ_ _=>brN (λ_=>ok λ_=>hs) λ_=>bd f λ_ _=>ok λ_=>hs
 unfold Zfp
 refine bd (Y1j _) λ_ _=>br! (λ_=>ok (by simp)) λ_=>bd (Y1o c) λb q=>br! (λ_=>ok (by simp)) λB=>brE (λv=>brD (λ_=>ok (by simp)) λhs=>?_) λv=>?_
 ·repeat' first
   | exact u (by omega)
   | exact ok (by simp)
   | (with_reducible first|refine brD (λ_=>?_) λ_=>?_|refine brE (λ_=>?_) λ_=>?_)
 ·have z:=q B v
  repeat' first
   | exact u (by rw[z]; simp)
   | exact ok (by simp)
   | (with_reducible first|refine brD (λ_=>?_) λ_=>?_|refine brE (λ_=>?_) λ_=>?_)
theorem Zqz (p:List Za) (hp:X0 p):Ok (Z9f p) (λr=>r.2=0→PS p 1024):=by
 have:=hp.len
 unfold Z9f
 refine brD (λ_=>ok (by simp)) λ_=>bd (P:=λq:Unit⊕(Int×Int)=>match q with|.inl _=>PS p 1024|.inr y=>y.2≠0) (lp (λt=>t) p.length (λt=>∀ (j:Nat) d,(j:Int)<t→p[j]?=some d→d.f_S.length≤1024) (λt g m n=>?_) (by omega) (λj v h=>by omega) (by omega) (by omega)) λq hq=>?_
 ·unfold Zmz
  refine brD (λa=>?_) λi=>dn λv b=>?_
  ·refine bd gri λc k=>bd (Y1m p hp t.toNat c k.2 λj d f l=>g j d (by omega) l) λe he=>brN (λh=>bd wr λ_ _=>dn h) λh=>bd wr λs o=>nx (λj v f b=>?_) (by omega) (by omega)
   rcases Int.lt_or_le (j:Int) t with a|i
   ·exact g j v a b
   ·have:j=t.toNat:=by omega
    subst this
    rw[k.2] at b; cases b
    exact he h
  ·obtain⟨j,f⟩:=List.mem_iff_getElem?.1 b
   exact g j v (by have:=(List.getElem?_eq_some_iff.1 f).1; omega) f
 ·cases q with
  | inl _=>exact ok λ_=>hq
  | inr y=>exact ok λh=>absurd h hq
end Go.Proofs
namespace Go.Proofs
open Go.Den Go.Tot
theorem Uu {α R:Type} {l:List α} {P:α→Prop} {f:Int→Option (Ctl Int R)} {Q:R→Prop} (y:l.length≤140737488355328) (h:∀ t:Int,0≤t→t<l.length→∀ v,l[t.toNat]?=some v→v∈l→Z4 l t=some v→Ok (f t) (λx=>match x with|.next e=>e=t+1∧P v|.done r=>Q r))
  (he:∀ t:Int,0≤t→t=(l.length:Int)→(∀ v∈l,P v)→Ok (f t) (λx=>match x with|.next _=>False|.done r=>Q r)):Ok (Z8 f Zb 0) Q:=by
 refine lp (λt=>t) l.length (λt=>∀ (j:Nat) v,(j:Int)<t→l[j]?=some v→P v) (λt i c u=>?_) (by omega) (λj v h=>by omega) (by omega) (by omega)
 rcases Int.lt_or_le t (l.length:Int) with a|o
 ·obtain⟨v,n,q,k⟩:=gri (l:=l) c a
  refine(h t c a v k q n).mono λx b=>?_
  cases x with
  | done r=>exact b
  | next e=>
   obtain⟨rfl,m⟩:=b
   refine⟨λj w d hw=>?_,by dsimp only; omega,by dsimp only; omega⟩
   rcases Int.lt_or_le (j:Int) t with g|g
   ·exact i j w g hw
   ·have:j=t.toNat:=by omega
    subst this
    rw[k] at hw; cases hw; exact m
 ·refine(he t c (by omega) λv s=>?_).mono λx b=>?_
  ·obtain⟨j,d⟩:=List.mem_iff_getElem?.1 s
   exact i j v (by have:=(List.getElem?_eq_some_iff.1 d).1; omega) d
  ·cases x with
   | done r=>exact b
   | next e=>exact absurd b id
def tgt (x:Zg):List Int:=if 36≤x.f_Op∧x.f_Op≤54 then [x.f_To]++x.Zs else []
theorem U5.tosL {x:Zg} (h:U5 x):x.Zs.length≤64:=by
 by_cases a:x.f_Op=53
 ·exact(h.tab a).2
 ·by_cases b:x.f_Op=54
  ·have:=h.look b; omega
  ·rw[h.few a b]; simp
theorem Zza (x:Zg) (h:U5 x):Z9l x=some (tgt x):=by
 unfold Z9l tgt
 rw[Zrp]
 have:=h.tosL
 by_cases a:36≤x.f_Op∧x.f_Op≤54
 ·rw[if_pos a]
  simp only[Option.bind_some,a]
  obtain⟨u,c,-⟩:=gk (b:=8) (n:=([x.f_To]++x.Zs).length) (by simp only[List.length_append,List.length_cons,List.length_nil]; omega) (by simp only[List.length_append,List.length_cons,List.length_nil]; omega)
  simp only[List.length_append,List.length_cons,List.length_nil,Nat.zero_add,Nat.add_comm] at c
  simp[c]
 ·rw[if_neg a]
  simp[a]
theorem put_ok (x:Zg) (at_:List Int) (S:Qy x) (i:U5 x) (s:∀ t∈tgt x,t<at_.length):Ok (Zfw x at_) (λr=>r.length≤1000):=by
 have K:=i.tosL
 have b:36≤x.f_Op→x.f_Op≤54→0≤x.f_To∧x.f_To<at_.length∧∀ v∈x.Zs,0≤v∧v<at_.length:=λh j=>by
  have e:tgt x=[x.f_To]++x.Zs:=if_pos ⟨h,j⟩
  rw[e] at s
  exact⟨(i.aim h j).1,s _ (by simp),λv C=>⟨(i.aim h j).2 v C,s v (by simp[C])⟩⟩
 have num:=λy n J=>Y1t y n J
 unfold Zfw
 refine bd (num _ 1 (by omega)) λT O=>bd (Z8e x.f_Op) λk m=>?_
 obtain⟨k3,k6,k7,km,k0,k1⟩:=m
 refine brE (λ_=>?_) λ_=>brE (λ_=>?_) λ_=>brE (λl=>?_) λ_=>brE (λ_=>?_) λ_=>brE (λ_=>?_) λ_=>brE (λG=>?_) λ_=>brE (λR=>?_) λ_=>ok (by omega)
 ·exact bd (num _ 1 (by omega)) λf c=>bd ct λg d=>ok (by omega)
 ·exact bd (num _ 2 (by omega)) λf c=>bd ct λg d=>ok (by omega)
 ·have a:=b (by omega) (by omega)
  exact bd (gr a.1 a.2.1) λv _=>bd (num _ 2 (by omega)) λf c=>bd ct λg d=>ok (by omega)
 ·exact bd (num _ 1 (by omega)) λf c=>bd ct λg d=>ok (by omega)
 ·exact bd (num _ 1 (by omega)) λf c=>bd ct λg d=>bd (num _ 1 (by omega)) λD l=>bd ct λE B=>ok (by omega)
 ·have a:=b (by omega) (by omega)
  refine bd (gr a.1 a.2.1) λv _=>bd (num _ 2 (by omega)) λf c=>bd ct λg d=>bd (num _ 4 (by omega)) λD l=>bd ct λE B=>bd (num _ 2 (by omega)) λU Q=>bd ct λV G=>bd (P:=λr=>r.length≤1000) ?_ λq hq=>ok hq
  refine lp (λt=>t.2) x.Zs.length (λt=>(t.1.length:Int)≤100+8*t.2) (λt H g0 F=>?_) (by omega) (by dsimp only; omega)
  unfold Zn1
  refine brD (λo=>bd gr λw hw=>bd (gr (a.2.2 w hw).1 (a.2.2 w hw).2) λz _=>bd (num _ 2 (by omega)) λM u=>bd ct λN A=>bd wr λk m=>nx (by dsimp only; omega)) λ_=>dn (by omega)
 ·have a:=b (by omega) (by omega)
  have I:=i.look (by omega)
  refine bd (gr a.1 a.2.1) λv _=>bd (num _ 2 (by omega)) λf c=>bd ct λg d=>bd (num _ 2 (by omega)) λD l=>bd ct λE B=>bd (P:=λr=>r.length≤1000) ?_ λq hq=>ok hq
  refine lp (λt=>t.2) x.Yg.length (λt=>(t.1.length:Int)≤100+8*t.2) (λt H g0 F=>?_) (by omega) (by dsimp only; omega)
  unfold Zn2
  refine brD (λo=>bd gr λw0 L=>bd (num _ 4 (by omega)) λW u=>bd ct λX A=>bd gr λw hw=>bd (gr (a.2.2 w hw).1 (a.2.2 w hw).2) λz _=>bd (num _ 2 (by omega)) λM u=>bd ct λN A=>bd wr λk m=>nx (by dsimp only; omega)) λ_=>dn (by omega)
theorem enc_ok (l:List Zg) (g:∀ i∈l,Qy i) (m:l.length≤140737488355328):Ok (Zfv l) (λr=>r.1.length≤1000000):=by
 unfold Zfv
 refine bd (Zo0 l g m) λA c=>brN (λ_=>ok (by simp)) λh=>?_
 obtain⟨B,C,b⟩:=c.1 h
 refine bd (P:=λq:Unit⊕(List UInt8×Int)=>match q with|.inl _=>∀ i∈l,∀ t∈tgt i,t<l.length|.inr y=>y.1=[]) (Uu (P:=λi=>∀ t∈tgt i,t<l.length) m (λt c f i a j o=>?_) λt c f d=>?_) λq hq=>?_
 ·unfold Zdh
  rw[o]
  have E:(tgt i).length≤65:=by
   have:=(b i j).tosL
   unfold tgt; split <;> simp; omega
  refine brD (λ_=>bs ?_) λh=>absurd f h
  rw[Zza i (b i j)]
  refine bs (bd (P:=λq:Unit⊕(List UInt8×Int)=>match q with|.inl _=>∀ t∈tgt i,t<l.length|.inr y=>y.1=[]) (Uu (l:=tgt i) (P:=λt=>t<(l.length:Int)) (by omega) (λk k0 k1 v F x e=>?_) λk k0 k1 d=>?_) λq hq=>?_)
  ·unfold Zdi
   rw[e]
   exact brD (λ_=>bs (brD (λ_=>ok rfl) λ_=>bd wr λw hw=>ok ⟨hw,by omega⟩)) λh=>absurd k1 h
  ·unfold Zdi
   exact brD (λh=>absurd h (by omega)) λ_=>ok d
  ·cases q with
   | inl _=>exact bd wr λw hw=>ok ⟨hw,hq⟩
   | inr y=>exact ok hq
 ·unfold Zdh
  exact brD (λh=>absurd h (by omega)) λ_=>ok d
 ·cases q with
  | inr y=>exact ok (by rw[hq]; simp)
  | inl _=>
   refine bd (P:=λr=>r.length≤1000000) (lp (λt=>t.2) l.length (λt=>(t.1.length:Int)≤1000*t.2) (λt D k0 k1=>?_) (by omega) (by simp)) λI n=>ok n
   unfold Zmx
   refine brD (λs=>bd gr λi a=>bd (put_ok i A.1 (g i a) (b i a) λt u=>by have:=hq i a t u; omega) λy G=>bd ct λz H=>bd wr λw hw=>nx (by dsimp only; omega)) λ_=>dn (by omega)
theorem Zzi (l:List Zz) (at_:List Int) (s:l.length≤140737488355328) (d:∀ v∈l,v.Zj=5→0≤v.Vb∧v.Vb<at_.length):Ok (Z9u l at_) (λr=>r.length≤1+5*l.length):=by
 unfold Z9u
 refine bd (Zjs _) λx k=>bd (P:=λr=>r.length≤1+5*l.length) (lp (λt=>t.2) l.length (λt=>(t.1.length:Int)≤1+5*t.2) (λt m k0 k1=>?_) (by omega) (by dsimp only; omega)) λq hq=>ok hq
 unfold Zmy
 refine brD (λc=>?_) λ_=>dn (by omega)
 obtain⟨v,e,g⟩:=gr (l:=l) (i:=t.2) (by omega) c
 simp only[e]
 have f:∀ p:List UInt8,(p.length:Int)≤1+5*t.2+3→Ok (Z7d t l p) (St (λt=>(t.1.length:Int)≤1+5*t.2) (λt=>t.2) l.length (λr=>r.length≤1+5*l.length) t):=λp hp=>by
  unfold Z7d
  simp only[e]
  exact bs (brD (λ_=>bs (bd (Ja _) λz j=>bd ct λy u=>bd wr λw hw=>nx (by dsimp only; omega))) λ_=>bd wr λw hw=>nx (by dsimp only; omega))
 refine bs (bd (Zjs _) λa n=>bd ct λb o=>bs (brE (λh=>bs (bd (gr (d v g h).1 (d v g h).2) λy _=>bd (Ja _) λz j=>bd ct λw hw=>f w (by omega))) λ_=>f b (by omega)))
theorem Zsj (l:List Int):Ok (Z9q l) (λr=>Str r.1):=by
 unfold Z9q
 refine brD (λ_=>ok (by simp)) λ_=>bd (Ja _) λf b=>bd (P:=λq:List UInt8⊕(List UInt8×Int)=>match q with|.inl q=>q.length≤1000|.inr y=>y.1=[]) (lp (λt=>t.2) l.length (λt=>(t.1.length:Int)≤2+2*t.2) (λt c k0 k1=>?_) (by omega) (by dsimp only; omega)) λq hq=>?_
 ·unfold Zmt Zlf
  refine brD (λa=>bd gr λ_ _=>brD (λ_=>dn rfl) λ_=>bd gr λ_ _=>brD (λ_=>dn rfl) λ_=>bd gr λ_ _=>bd (Ja _) λy d=>bd ct λz e=>bd wr λw hw=>nx (by dsimp only; omega)) λ_=>dn (by dsimp only; omega)
 ·cases q with
  | inl q => exact ok (by have h:q.length≤1000:=hq
                          show q.length≤_; omega)
  | inr y=>exact ok (by rw[hq]; simp)
structure CPre (c:Zx):Prop where
 ins:∀ i∈c.Y7,Qy i
 insL:c.Y7.length≤140737488355328
 hndL:c.Xm.length≤140737488355328
 mapL:c.Xe.length≤140737488355328
 linL:c.Xf.length≤140737488355328
 frm:∀ m∈c.Xe,m.Xa.Y1.length≤140737488355328∧m.Xa.Y5.length≤140737488355328
theorem Wu.pre {c:Zx} (h:Wu c):CPre c:=⟨h.ins,by have:=h.insL; omega,by have:=h.hndL; omega,by have:=h.mapL; omega,by have:=h.linL; omega,λm a=>⟨by have:=(h.map m a).locL; omega,by have:=(h.map m a).stkL; omega⟩⟩
def Chk0 (l:List Zg):Prop:=∀ i∈l,Js i=some 0
theorem all_ok (l:List Zg) (d:∀ i∈l,Qy i) (j:l.length≤140737488355328):Ok (Zfz l) (λb=>Chk0 l→b=true):=by
 unfold Zfz
 refine bd (P:=λq:Unit⊕Bool=>match q with|.inl _=>True|.inr b=>¬ Chk0 l) (li l.length (λt f g=>?_) (by omega) (by omega) (by omega)) λq hq=>?_
 ·unfold Zn8
  refine brD (λ_=>bd gr λi a=>bdE (Z6k i (d i a)) λe he _=>brN (λh=>di λc=>h ?_) λ_=>bd wr λ_ _=>ni (by omega) (by omega)) λ_=>di trivial
  rw[c i a] at he; cases he; rfl
 ·cases q with
  | inl _=>exact ok λ_=>rfl
  | inr b=>exact ok λh=>absurd h hq
theorem Y5k (l:List Zg) (o:∀ i∈l,Qy i) (E:l.length≤1000):Ok (Kd l) (λr=>Chk0 l→r.2=0∨r.2=8):=by
 unfold Kd
 refine bd (P:=λq:Unit⊕(List Int×Int)=>match q with|.inl _=>∀ i∈l,U5 i|.inr y=>¬ Chk0 l) (Uu (l:=l) (P:=U5) (by omega) (λt m b i f s A=>?_) λt m b z=>?_) λq hq=>?_
 ·unfold Z4e
  rw[A]
  refine brD (λ_=>bs (bdE (Z6k i (o i s)) λe he c=>brN (λh=>ok λc=>h ?_) λh=>bd wr λw hw=>ok ⟨hw,c h⟩)) λh=>absurd b h
  rw[c i s] at he; cases he; rfl
 ·unfold Z4e
  exact brD (λh=>absurd h (by omega)) λ_=>ok z
 ·cases q with
  | inr y=>exact ok λh=>absurd h hq
  | inl _=>
   have d:∀ i∈l,U5 i:=hq
   refine brD (λh=>absurd h (by omega)) λ_=>bd (P:=λr=>r.length=l.length+1) ?_ λI F=>bd ik λj C=>bd (la (by omega)) λ_ _=>brD (λ_=>ok λ_=> .inr rfl) λ_=>ok λ_=> .inl rfl
   refine lp (λt=>t.1) l.length (λt=>(t.2.length:Int)=t.1+1∧∀ v∈t.2,0≤v∧v≤400*t.1) (λt u m b=>?_) (by omega) ⟨rfl,by simp⟩
   obtain⟨x,a⟩:=u
   unfold Zdg
   refine brD (λD=>?_) λB=>dn (by omega)
   refine bd ik λj C=>bd (la (by omega)) λv g=>bd gr λi f=>bd (Zvf i (o i f) (d i f)) λn E=>?_
   have G:=a v g.2
   refine bd wr λw hw=>bd gk λ_ _=>bd wr λk H=>?_
   refine nx ⟨by simp only[List.length_append,List.length_cons,List.length_nil]; omega,Z06 (λv g=>?_) ?_⟩
   ·have:=a v g; dsimp only; omega
   ·dsimp only; omega
theorem head_ok (p:List Za) (c:Zx) (hp:X0 p) (f:CPre c):Ok (Zg2 p c) (λe=>e=0→PS p 1024∧(c.Y1≤32∧c.Y5≤32)∧1≤c.Y7.length∧c.Y7.length≤1000∧(Chk0 c.Y7→∃ v,Kd c.Y7=some v∧v.2=0)):=by
 unfold Zg2
 refine bd (Zqz p hp) λs l=>brN (λh=>ok λk=>absurd k h) λh=>?_
 have d:=l h
 have n:c.Y1≤32∧c.Y5≤32→Ok (Zc4 c) (λe=>e=0→PS p 1024∧(c.Y1≤32∧c.Y5≤32)∧1≤c.Y7.length∧c.Y7.length≤1000∧(Chk0 c.Y7→∃ v,Kd c.Y7=some v∧v.2=0)):=λa=>by
  unfold Zc4 Zlm
  refine brE (λ_=>ok (by simp)) λq=>brD (λ_=>ok (by simp)) λr=>bd (all_ok _ f.ins f.insL) λb m=>br (λ_=>bdE (Y5k _ f.ins (by omega)) λv o i=>brE (λhe=>ok λh=>?_) λhe=>ok λ_=>⟨d,a,by omega,by omega,λg=>⟨v,o,(i g).resolve_right he⟩⟩) λj=>ok λ_=>⟨d,a,by omega,by omega,λg=>?_⟩
  ·omega
  ·rw[m g] at j; cases j
 exact brD (λ_=>ok (by simp)) λ_=>brD (λ_=>ok (by simp)) λ_=>brD (λ_=>ok (by simp)) λ_=>brD (λ_=>ok (by simp)) λ_=>n ⟨by omega,by omega⟩
theorem has_ok (l:List Int) (x:Int) (c:l.length≤140737488355328):Ok (Zg1 l x) (λ_=>True):=by
 unfold Zg1
 refine bd (li l.length (Q:=λ_=>True) (λt a b=>?_) (by omega) (by omega) (by omega)) λq _=>by cases q <;> exact ok trivial
 unfold Znc
 exact brD (λ_=>bd gr λ_ _=>br (λ_=>di trivial) λ_=>bd wr λ_ _=>ni (by omega) (by omega)) λ_=>di trivial
section
variable {p:List Za} (hp:p.length≤1000) (hS:PS p 1024)
include hp hS
theorem Zk4 (i:Int):Ok (Z1p p i) (λ_=>True):=by
 unfold Z1p
 exact bd (Zjq p i (by omega) hS) λv a=>brE (λ_=>brD (λ_=>bd gs λ_ _=>ok trivial) λ_=>ok trivial) λ_=>ok trivial
theorem Y5f (i:Int):Ok (Z31 p i) (λ_=>True):=by
 unfold Z31
 exact bd (Z6b p i (by omega)) λv _=>bd (Y1k p i _ (by omega) hS) λ_ _=>brE (λ_=>ok trivial) λ_=>ok trivial
theorem Y5s (x:Zg):Ok (Zg5 p x) (λ_=>True):=by
 have d:Ok (Z7m p x) (λ_=>True):=by
  unfold Z7m
  have c:Ok ((Z31 p x.f_A).bind λv=>if v=true then some 12 else some 0) (λ_:Int=>True):=bd (Y5f hp hS _) λ_ _=>br (λ_=>ok trivial) λ_=>ok trivial
  exact brE (λ_=>c) λ_=>brE (λ_=>c) λ_=>brE (λ_=>c) λ_=>ok trivial
 unfold Zg5
 refine bd (Z6b p x.f_A (by omega)) λa f=>brN (λ_=>ok trivial) λhe=>?_
 have b:Ok (Kb a p x) (λ_=>True):=by
  unfold Kb
  exact brE (λ_=>bd (Z68 _ (by have:=hS _ (f.1 he).mem; unfold Str; omega)) λ_ _=>brN (λ_=>ok trivial) λ_=>brE (λ_=>ok trivial) λ_=>d) λ_=>d
 have e:Ok (if decide (x.f_Op≥59)=true then (if decide (x.f_Op≤66)=true then ((Z1p p a.1.f_A).bind λg=>if (!g)=true then some 13 else Kb a p x) else Kb a p x) else Kb a p x) (λ_=>True):=
  brD (λ_=>brD (λ_=>bd (Zk4 hp hS _) λ_ _=>br! (λ_=>ok trivial) λ_=>b) λ_=>b) λ_=>b
 exact bd (Zr2 _) λi h=>bd (has_ok _ _ (by omega)) λ_ _=>br! (λ_=>ok trivial) λ_=>brE (λ_=>bd (Zk4 hp hS _) λ_ _=>br! (λ_=>ok trivial) λ_=>e) λ_=>e
theorem Y4p (c:Zx) (x:Zg) (j:Qy x):Ok (Zg0 p c x) (λe=>e=0→Js x=some 0∧U5 x):=by
 unfold Zg0
 refine bdE (Z6k x j) λm b g=>brN (λh=>ok λi=>absurd i h) λh=>?_
 have a:=g h
 rw[h] at b
 rw[Zza x a]
 have d:∀ f,Ok (Z45 f p x) (λe=>e=0→Js x=some 0∧U5 x):=λf=>by
  unfold Z45
  exact brE (λ_=>bd (Y5s hp hS x) λ_ _=>ok λ_=>⟨b,a⟩) λ_=>ok λ_=>⟨b,a⟩
 have l:(tgt x).length≤65:=by
  have:=a.tosL
  unfold tgt; split <;> simp; omega
 refine bs (bd (P:=λq:Unit⊕Int=>match q with|.inl _=>True|.inr e=>e≠0) (li (tgt x).length (λt g k=>?_) (by omega) (by omega) (by omega)) λq hq=>?_)
 ·unfold Zn0
  exact brD (λ_=>bd gr λ_ _=>brD (λ_=>di (by simp)) λ_=>bd gr λ_ _=>brD (λ_=>di (by simp)) λ_=>bd wr λ_ _=>ni (by omega) (by omega)) λ_=>di trivial
 ·cases q with
  | inr e=>exact ok λh=>absurd h hq
  | inl _=>exact bd (Z8e _) λf _=>brE (λ_=>brD (λ_=>ok (by simp)) λ_=>d _) λ_=>brE (λ_=>brD (λ_=>ok (by simp)) λ_=>d _) λ_=>d _
def Z65 (n:Int) (h:Yf):Prop:=0≤h.Wh∧h.Wh<h.f_To∧h.f_To≤n∧0≤h.Wi∧h.Wi<n
theorem row9_ok (n:Int) (h:Yf):Ok (Zg7 p n h) (λb=>b=true→Z65 n h):=by
 unfold Zg7
 have z:Ok (some false) (λb=>b=true→Z65 n h):=ok λh=>by cases h
 exact brD (λe=>brD (λa=>brD (λc=>brD (λf=>brD (λd=>br (λ_=>brE (λ_=>ok λ_=>⟨by omega,a,c,by omega,d⟩) λ_=>bd (Zk4 hp hS _) λ_ _=>ok λ_=>⟨by omega,a,c,by omega,d⟩) λ_=>z) λ_=>z) λ_=>z) λ_=>z) λ_=>z) λ_=>z
theorem Zpq (i:Int) (b:Bool):Ok (Z53 p i b) (λ_=>True):=by
 unfold Z53
 exact bd (Uq p i (by omega)) λv a=>brN (λ_=>ok trivial) λ_=>bd (Z68 _ (by have:=Z5w hS a; unfold Str; omega)) λ_ _=>brN (λ_=>ok trivial) λ_=>brD (λ_=>ok trivial) λ_=>ok trivial
def VOk (n:Int) (v:Zz):Prop:=v.Zj=5→0≤v.Vb∧v.Vb<n
theorem Y4v (c:Zx) (v:Zz):Ok (Zg3 p c v) (λb=>b=true→VOk c.Y7.length v):=by
 unfold Zg3 Zmh Zmi
 have z:Ok (some false) (λb=>b=true→VOk c.Y7.length v):=ok λh=>by cases h
 have y:∀ b,v.Zj≠5→Ok (some b) (λb=>b=true→VOk c.Y7.length v):=λb h=>ok λ_ a=>absurd a h
 refine br! (λ_=>z) λ_=>brE (λh=>brE (λ_=>y _ (by omega)) λ_=>z) λ_=>brE (λh=>brE (λ_=>y _ (by omega)) λ_=>z) λ_=>brE (λh=>brE (λ_=>y _ (by omega)) λ_=>z) λ_=>brE (λh=>brE (λ_=>y _ (by omega)) λ_=>z) λ_=>?_
 refine brE (λh=>brE (λ_=>bd (Zpq hp hS _ _) λ_ _=>y _ (by omega)) λ_=>z) λ_=>brE (λh=>brE (λ_=>bd (Zpq hp hS _ _) λ_ _=>y _ (by omega)) λ_=>z) λ_=>brE (λh=>brD (λe=>brD (λd=>bd gr λ_ _=>brE (λ_=>bd (Zpq hp hS _ _) λ_ _=>ok λ_ _=>⟨by omega,d⟩) λ_=>z) λ_=>z) λ_=>z) λ_=>z
theorem Zuk (c:Zx) (l:List Zz) (i:l.length≤140737488355328):Ok (Z9p p c l) (λb=>b=true→∀ v∈l,VOk c.Y7.length v):=by
 unfold Z9p
 refine bd (P:=λq:Unit⊕Bool=>match q with|.inl _=>∀ v∈l,VOk c.Y7.length v|.inr b=>b=false) (Uu (P:=VOk c.Y7.length) i (λt d a v k j g=>?_) λt d a e=>?_) λq hq=>?_
 ·unfold Ze0
  rw[g]
  exact brD (λ_=>bs (bd (Y4v hp hS c v) λb f=>br! (λ_=>ok rfl) λh=>bd wr λw hw=>ok ⟨hw,f h⟩)) λh=>absurd a h
 ·unfold Ze0
  exact brD (λh=>absurd h (by omega)) λ_=>ok e
 ·cases q with
  | inl _=>exact ok λ_=>hq
  | inr b=>exact ok λh=>by cases hq.symm.trans h
def Z2d (n:Int) (m:Yi):Prop:=0≤m.Q4∧m.Q4<n∧(∀ v∈m.Xa.Y1,VOk n v)∧(∀ v∈m.Xa.Y5,VOk n v)∧m.Xa.Y1.length≤32∧m.Xa.Y5.length≤32
theorem Y5c (c:Zx) (d:CPre c) (v:c.Y1≤32) (w:c.Y5≤32) (i:Int) (t:0≤i) (u:i<c.Xe.length) (m:Yi) (k:Z4 c.Xe i=some m) (f:m∈c.Xe):Ok (Zg4 p c i) (λb=>b=true→Z2d c.Y7.length m):=by
 have:=d.mapL
 have z:Ok (some false) (λb=>b=true→Z2d c.Y7.length m):=ok λh=>by cases h
 unfold Zg4
 rw[k]
 refine bs (brD (λ_=>z) λg0=>brD (λ_=>z) λs=>?_)
 have l:(m.Xa.Y1.length:Int)≤c.Y1→(m.Xa.Y5.length:Int)≤c.Y5→Ok (Z4a m p c) (λb=>b=true→Z2d c.Y7.length m):=λn o=>by
  unfold Z4a
  exact bd (Zuk hp hS c _ (d.frm m f).1) λb j=>br (λh=>bd (Zuk hp hS c _ (d.frm m f).2) λq a=>ok λg=>⟨by omega,by omega,j h,a g,by omega,by omega⟩) λ_=>z
 have e:Ok (if decide ((m.Xa.Y1.length:Int)>c.Y1)=true then some false else if decide ((m.Xa.Y5.length:Int)>c.Y5)=true then some false else Z4a m p c) (λb=>b=true→Z2d c.Y7.length m):=brD (λ_=>z) λn=>brD (λ_=>z) λo=>l (by omega) (by omega)
 exact brD (λ_=>bd wr λx r=>bd gr λy _=>brD (λ_=>z) λ_=>e) λ_=>e
def LinOk (n:Int) (x:Xo):Prop:=0≤x.Q4∧x.Q4<n
structure Zq8 (c:Zx):Prop where
 hnd:∀ h∈c.Xm,Z65 c.Y7.length h
 map:∀ m∈c.Xe,Z2d c.Y7.length m
 lin:∀ x∈c.Xf,LinOk c.Y7.length x
theorem Y5y (c:Zx) (k:CPre c) (A:c.Y1≤32) (B:c.Y5≤32):Ok (Zg6 p c) (λr=>r.2=0→Zq8 c):=by
 have s:=k.hndL; have u:=k.mapL; have z:=k.linL
 unfold Zg6
 refine brD (λ_=>ok (by simp)) λ_=>bd (P:=λq:Unit⊕(Int×Int)=>match q with|.inl _=>∀ h∈c.Xm,Z65 c.Y7.length h|.inr y=>y.2≠0) (Uu (P:=Z65 c.Y7.length) s (λt d a v o n f=>?_) λt d a e=>?_) λC g=>?_
 ·unfold Zdp
  rw[f]
  exact brD (λ_=>bs (bd (row9_ok hp hS _ v) λb l=>br! (λ_=>ok (by simp)) λh=>bd wr λw hw=>ok ⟨hw,l h⟩)) λh=>absurd a h
 ·unfold Zdp
  exact brD (λh=>absurd h (by omega)) λ_=>ok e
 cases C with
 | inr y=>exact ok λh=>absurd h g
 | inl _=>
 refine bd (P:=λq:Unit⊕(Int×Int)=>match q with|.inl _=>∀ m∈c.Xe,Z2d c.Y7.length m|.inr y=>y.2≠0) (Uu (P:=Z2d c.Y7.length) u (λt d a v o n f=>?_) λt d a e=>?_) λD i=>?_
 ·unfold Zdq
  exact brD (λ_=>bd (Y5c hp hS c k A B t d a v f n) λb l=>br! (λ_=>ok (by simp)) λh=>bd wr λw hw=>ok ⟨hw,l h⟩) λh=>absurd a h
 ·unfold Zdq
  exact brD (λh=>absurd h (by omega)) λ_=>ok e
 cases D with
 | inr y=>exact ok λh=>absurd h i
 | inl _=>
 refine bd (P:=λq:Unit⊕(Int×Int)=>match q with|.inl _=>∀ x∈c.Xf,LinOk c.Y7.length x|.inr y=>y.2≠0) (Uu (P:=LinOk c.Y7.length) z (λt d a v o n f=>?_) λt d a e=>?_) λq3 j=>?_
 ·unfold Zdr
  rw[f]
  exact brD (λ_=>bs (brD (λ_=>ok (by simp)) λk0=>brD (λ_=>ok (by simp)) λk1=>brD (λ_=>bd wr λw hw=>bd gr λ_ _=>brD (λ_=>ok (by simp)) λ_=>brD (λ_=>ok (by simp)) λ_=>brD (λ_=>ok (by simp)) λ_=>bd wr λw hw=>ok ⟨hw,by omega,by omega⟩) λ_=>brD (λ_=>ok (by simp)) λ_=>brD (λ_=>ok (by simp)) λ_=>bd wr λw hw=>ok ⟨hw,by omega,by omega⟩)) λh=>absurd a h
 ·unfold Zdr
  exact brD (λh=>absurd h (by omega)) λ_=>ok e
 cases q3 with
 | inr y=>exact ok λh=>absurd h j
 | inl _=>exact ok λ_=>⟨g,i,j⟩
end
theorem Zrs (p:List Za) (c:Zx) (hp:X0 p) (d:CPre c):Ok (Z9o p c) (λr=>r.2=0→Zq8 c∧∃ v,Kd c.Y7=some v∧v.2=0):=by
 unfold Z9o
 refine bd (head_ok p c hp d) λC b=>brN (λh=>ok λj=>absurd j h) λh=>?_
 obtain⟨hS,⟨k,m⟩,u,x,a⟩:=b h
 have g:=hp.len
 refine bd (P:=λq:Unit⊕(Int×Int)=>match q with|.inl _=>∀ i∈c.Y7,Js i=some 0|.inr y=>y.2≠0) (Uu (l:=c.Y7) (P:=λi=>Js i=some 0) (by omega) (λt b f v B s o=>?_) λt b f n=>?_) λq hq=>?_
 ·unfold Zdf
  rw[o]
  exact brD (λ_=>bs (bd (Y4p g hS c v (d.ins v s)) λe he=>brN (λh=>ok h) λh=>bd wr λw hw=>ok ⟨hw,(he h).1⟩)) λh=>absurd f h
 ·unfold Zdf
  exact brD (λh=>absurd h (by omega)) λ_=>ok n
 ·cases q with
  | inr y=>exact ok λh=>absurd h hq
  | inl _=>
   refine bd wr λD A=>bd gr λE _=>bd (P:=λ_=>True) ?_ λF _=>br! (λ_=>bd wr λ_ _=>ok (by simp)) λ_=>bd (Y5y g hS c d k m) λr z=>ok λh=>⟨z h,a hq⟩
   unfold Znn
   rw[Zjy]
   exact bs (br (λ_=>ok trivial) λ_=>ok trivial)
end Go.Proofs
namespace Go.Proofs
open Go.Den Go.Tot
theorem Y41 (p:List Za) (c:Zx) (hp:X0 p) (d:Wu c):Ok (Zga p c) (λr=>Str r.1):=by
 have gI:=d.insL; have gH:=d.hndL; have gM:=d.mapL; have gL:=d.linL
 unfold Zga
 refine bd (Zrs p c hp d.pre) λv0 R=>brN (λ_=>ok (by simp)) λh=>?_
 obtain⟨s,v,L,A⟩:=R h
 rw[L]
 obtain⟨r,K,z⟩:=Zo0 c.Y7 d.ins (by omega)
 rw[L] at K; cases K
 obtain⟨I,hn,-⟩:=z.1 A
 refine bs (bd (enc_ok _ d.ins (by omega)) λv2 h2=>bd (Z66 _ 4 (by omega)) λv3 h3=>bd (Ja _) λv4 h4=>bd (Ja _) λv5 j=>bd ct λv6 h6=>bd ct λv7 h7=>bd ct λv8 h8=>bd (Ja _) λv9 h9=>bd ct λv10 S=>?_)
 -- the lists are short by what they J; here their lengths in memory do
 refine bd (P:=λr=>(r.length:Int)≤2000000+8*c.Xm.length) (lp (λt=>t.2) c.Xm.length (λt=>(t.1.length:Int)≤2000000+8*t.2) (λt E g0 D=>?_) (by omega) (by dsimp only; omega)) λq0 Y=>?_
 ·unfold Zmq
  refine brD (λe=>bd gr λx hx=>?_) λ_=>dn (by omega)
  obtain⟨k1,k2,k3,k4,k5⟩:=s.hnd x hx
  exact bd gr λ_ _=>bd (Ja _) λa F=>bd ct λb G=>bd gr λ_ _=>bd (Ja _) λa2 f=>bd ct λC g=>bd gr λ_ _=>bd (Ja _) λM k=>bd ct λO o=>bd (Ja _) λN n=>bd ct λQ q=>bd wr λw hw=>nx (by dsimp only; omega)
 refine bd (Ja _) λv36 T=>bd ct λv37 U=>?_
 refine bd (P:=λr=>(r.length:Int)≤30000000000000+400*c.Xe.length) (lp (λt=>t.2) c.Xe.length (λt=>(t.1.length:Int)≤30000000000000+400*t.2) (λt E g0 D=>?_) (by omega) (by dsimp only; omega)) λq2 Z=>?_
 ·unfold Zmr
  refine brD (λe=>bd gr λm u=>?_) λ_=>dn (by omega)
  obtain⟨k1,k2,k3,k4,k5,k6⟩:=s.map m u
  have H:∀ x,Ok (Z79 t v m x) (St (λt=>(t.1.length:Int)≤30000000000000+400*t.2) (λt=>t.2) c.Xe.length (λr=>(r.length:Int)≤30000000000000+400*c.Xe.length) t):=λx=>by
   unfold Z79
   refine bd gr λ_ _=>bd (Ja _) λa F=>bd ct λb G=>bd (Zjs _) λa2 f=>bd ct λC g=>bd (Zzi _ v.1 (by omega) λy B j=>?_) λM k=>bd ct λO o=>bd (Zzi _ v.1 (by omega) λy B j=>?_) λN n=>bd ct λQ q=>bd wr λw hw=>nx (by dsimp only; omega)
   ·have:=k3 y B j; omega
   ·have:=k4 y B j; omega
  exact br (λ_=>H _) λ_=>H _
 refine bd (Ja _) λv59 V=>bd ct λv60 W=>bd (P:=λr=>(r.length:Int)≤2000000000000000+4*c.Xf.length) (lp (λt=>t.2) c.Xf.length (λt=>(t.1.length:Int)≤2000000000000000+4*t.2) (λt E g0 D=>?_) (by omega) (by dsimp only; omega)) λq4 hq4=>ok (by dsimp only; omega)
 unfold Zms
 refine brD (λe=>?_) λ_=>dn (by omega)
 obtain⟨x,X,u⟩:=gr (l:=c.Xf) (i:=t.2) (by omega) e
 obtain⟨k1,k2⟩:=s.lin x u
 simp only[X]
 exact bs (bd gr λ_ _=>bd (Ja _) λa F=>bd ct λb G=>bs (bd (Ja _) λa2 f=>bd ct λC g=>bd wr λw hw=>nx (by dsimp only; omega)))
theorem Z5k (l:List Int) (x:Int) (c:l.length≤140737488355328):Ok (Mf l x) (λ_=>True):=by
 unfold Mf
 refine bd (P:=λ_=>True) (li (max 0 (l.length:Int)) (λt a b=>?_) (by omega) (by omega) (by omega)) λq _=>by cases q <;> exact ok trivial
 unfold Zni
 exact bd wr λv d=>brD (λ_=>bd gr λ_ _=>br (λ_=>di trivial) λ_=>bd wr λ_ _=>ni (by omega) (by omega)) λ_=>di trivial
theorem edge_ok (l:List Int) (x:Int) (b:l.length≤140737488355328):Ok (Zgb l x) (λ_=>True):=by
 unfold Zgb Zcl
 have a:Ok ((Mf l x).bind λc=>some c) (λ_=>True):=bd (Z5k l x b) λ_ _=>ok trivial
 exact brD (λ_=>bd wr λv d=>bd gr λ_ _=>br (λ_=>bd wr λ_ _=>ok trivial) λ_=>a) λ_=>a
theorem Zu3 (l:List Zz) (at_:List Int) (g:l.length≤256) (c:at_.length≤140737488355328):Ok (Z9s l at_) (λr=>r.1.length≤256):=by
 unfold Z9s
 refine bd (P:=λq:List Zz⊕(List Zz×Bool)=>match q with|.inl q=>q.length≤256|.inr y=>y.1=[]) (lp (λt=>t.1) l.length (λt=>(t.2.length:Int)=t.1) (λt f g0 e=>?_) (by omega) rfl) λq hq=>?_
 ·unfold Znj
  have d:t.2.length≤256:=by omega
  have b:∀ (v:Zz) (p:Int),t.1<l.length→Ok (Z82 t v p) (St (λt=>(t.2.length:Int)=t.1) (λt=>t.1) l.length (λq:List Zz⊕(List Zz×Bool)=>match q with|.inl q=>q.length≤256|.inr y=>y.1=[]) t):=λv p a=>by
   unfold Z82
   exact bd gk λ_ _=>bd wr λw hw=>nx (by simp only[List.length_append,List.length_cons,List.length_nil]; omega)
  exact brD (λa=>bd gr λv _=>brE (λ_=>bd (Z5k at_ _ c) λw _=>brD (λ_=>dn rfl) λ_=>b _ _ a) λ_=>b _ _ a) λ_=>dn d
 ·cases q with
  | inl q=>exact ok hq
  | inr y=>exact ok (by rw[hq]; simp)
theorem Y75 (s:List UInt8) (k:Wd) (at_:List Int) (e:TkOk s k) (c:at_.length≤140737488355328):Ok (Zgd k at_) (λr=>r.2=0→r.1.Xm.length≤65536∧r.1.Xe.length≤65536∧r.1.Xf.length≤65536∧∀ m∈r.1.Xe,m.Xa.Y1.length≤256∧m.Xa.Y5.length≤256):=by
 have I:=e.hndL; have J:=e.mapL; have K:=e.lin; have L:=e.raw
 unfold Zgd
 refine bd (P:=λq:List Yf⊕(Zx×Int)=>match q with|.inl q=>q.length≤65536|.inr y=>y.2≠0) (lp (λt=>t.1) k.f_C.Xm.length (λt=>(t.2.length:Int)=t.1) (λt n z A=>?_) (by omega) rfl) λx g=>?_
 ·unfold Znd Zma
  have u:t.2.length≤65536:=by omega
  exact brD (λf=>bd gr λv _=>bd (Z5k at_ _ c) λ_ _=>bd (edge_ok at_ _ c) λ_ _=>bd (Z5k at_ _ c) λ_ _=>brD (λ_=>dn (by simp)) λ_=>brD (λ_=>dn (by simp)) λ_=>brD (λ_=>dn (by simp)) λ_=>bd gk λ_ _=>bd wr λw hw=>nx (by simp only[List.length_append,List.length_cons,List.length_nil]; omega)) λ_=>dn u
 cases x with
 | inr y=>exact ok λh=>absurd h g
 | inl x=>
 have i:x.length≤65536:=g
 refine bd (P:=λq:List Yi⊕(Zx×Int)=>match q with|.inl q=>q.length≤65536∧∀ m∈q,m.Xa.Y1.length≤256∧m.Xa.Y5.length≤256|.inr y=>y.2≠0) (lp (λt=>t.1) k.f_C.Xe.length (λt=>(t.2.length:Int)=t.1∧∀ m∈t.2,m.Xa.Y1.length≤256∧m.Xa.Y5.length≤256) (λt n z A=>?_) (by omega) ⟨rfl,U8⟩) λB j=>?_
 ·obtain⟨G,d⟩:=n
  unfold Zne Zmb
  refine brD (λf=>bd gr λv H=>?_) λ_=>dn ⟨by omega,d⟩
  obtain⟨E,F⟩:=e.map v H
  refine bd (Z5k at_ _ c) λ_ _=>bd (Zu3 _ at_ E.1 c) λa o=>bd (Zu3 _ at_ F.1 c) λb p=>brD (λ_=>dn (by simp)) λ_=>br! (λ_=>dn (by simp)) λ_=>br! (λ_=>dn (by simp)) λ_=>bd gr λ_ _=>brD (λ_=>dn (by simp)) λ_=>bd gk λ_ _=>bd wr λw hw=>nx ⟨by simp only[List.length_append,List.length_cons,List.length_nil]; omega,Z06 d ⟨o,p⟩⟩
 cases B with
 | inr y=>exact ok λh=>absurd h j
 | inl B=>
 obtain⟨C,D⟩:=j
 refine bd (P:=λq:List Xo⊕(Zx×Int)=>match q with|.inl q=>q.length≤65536|.inr y=>y.2≠0) (lp (λt=>t.1) k.f_C.Xf.length (λt=>(t.2.length:Int)=t.1) (λt n z A=>?_) (by omega) rfl) λq3 l=>?_
 ·unfold Znf
  have u:t.2.length≤65536:=by omega
  exact brD (λf=>bd gr λv _=>bd (Z5k at_ _ c) λ_ _=>brD (λ_=>dn (by simp)) λ_=>bd gk λ_ _=>bd wr λw hw=>nx (by simp only[List.length_append,List.length_cons,List.length_nil]; omega)) λ_=>dn u
 cases q3 with
 | inr y=>exact ok λh=>absurd h l
 | inl q3=>exact ok λ_=>⟨i,C,l,D⟩
theorem Zsc (p:List Za) (s:List UInt8) (hp:X0 p) (hs:Str s):Ok (Zg8 p s) (λ_=>True):=by
 unfold Zg8
 refine bd (Y1v s hs) λj c=>br (λ_=>ok trivial) λ_=>bd (dec_ok _) λk d=>brN (λ_=>ok trivial) λh=>?_
 obtain⟨k1,k2⟩:=d h
 refine bd (Zo0 k.1 (λi a=>(k1 i a).w) (by omega)) λl e=>brN (λ_=>ok trivial) λ_=>bd (Y75 s j.1 l.1 c (by have:=e.2; omega)) λr f=>brN (λ_=>ok trivial) λh=>?_
 obtain⟨n,o,q,b⟩:=f h
 exact brN (λ_=>ok trivial) λ_=>bd (Zrs p _ hp ⟨λi a=>(k1 i a).w,by dsimp only; omega,by dsimp only; omega,by dsimp only; omega,by dsimp only; omega,λm g=>by have:=b m g; dsimp only at *; omega⟩) λt _=>brN (λ_=>ok trivial) λ_=>ok trivial
theorem Y3t (s:List UInt8) (hs:Str s):Ok (Zg9 s) (λr=>r.1.length≤65536):=by
 unfold Zg9
 refine bd (Wt s _ 2 (by omega) hs ⟨rfl,by dsimp only; omega,by dsimp only; omega⟩) λf a=>bd (P:=RdT s 65536 λ_=>True) (rdL (n:=f.1) ⟨a.1.1,a.1.2.2.1 rfl⟩ a.2 λt b g0 g c=>?_) λq hq=>br (λ_=>ok (by simp)) λ_=>brN (λ_=>ok (by simp)) λ_=>bd (Zsj _) λ_ _=>brN (λ_=>ok (by simp)) λ_=>ok hq.2.1
 have h:=b.2.1
 have:=a.1.2.2.1 rfl
 unfold Znb
 refine brD (λe=>br! (λ_=>?_) λ_=>dn c) λ_=>dn c
 unfold Zm0
 exact bd (Wt s _ 2 (by omega) hs b.1) λj d=>bd gk λ_ _=>bd wr λ_ i=>nx ⟨d.2,by simp only[List.length_append,List.length_cons,List.length_nil]; omega,Z06 b.2.2 trivial⟩
end Go.Proofs
namespace Go.Proofs
open Go.Den Go.Tot
section
variable {p:List Za} (hp:p.length≤1000)
include hp
theorem Zlb (a:Vc) (s:List UInt8):Ok (Z54 p a s) (λ_=>True):=by
 unfold Z54
 exact bd (Uq p _ (by omega)) λ_ _=>brE (λ_=>ok trivial) λ_=>ok trivial
theorem Zzf (l:List Yt) (i:Int) (d:l.length≤140737488355328) (a:0≤i) (b:i<l.length):Ok (Z9z p l i) (λ_=>True):=by
 unfold Z9z
 refine bd (gr a b) λ_ _=>bd (Uq p _ (by omega)) λe _=>bd (gr a b) λ_ _=>bd (Uq p _ (by omega)) λf _=>bd (P:=λ_=>True) (li i (λt g0 c=>?_) (by omega) (by omega) (by omega)) λq _=>by cases q <;> exact ok trivial
 unfold Zn6
 exact brD (λ_=>bd gr λ_ _=>bd (Uq p _ (by omega)) λ_ _=>bd gr λ_ _=>bd (Uq p _ (by omega)) λ_ _=>br (λ_=>br (λ_=>di trivial) λ_=>bd wr λ_ _=>ni (by omega) (by omega)) λ_=>bd wr λ_ _=>ni (by omega) (by omega)) λ_=>di trivial
theorem Y6y (i:Int) (d:List UInt8):Ok (Zgo p i d) (λ_=>True):=by
 unfold Zgo
 refine bd (Z6b p i (by omega)) λv _=>brN (λ_=>ok trivial) λ_=>?_
 repeat' first
  | exact ok trivial
  | with_reducible refine br (λ_=>?_) λ_=>?_
theorem Y3j (m:Yt) (d:List UInt8) (c:∀ a∈m.Xv,Str a.Qm):Ok (Zgg p m d) (λ_=>True):=by
 unfold Zgg Zlq
 refine brE (λ_=>ok trivial) λ_=>bd gr λa b=>brD (λ_=>ok trivial) λ_=>bs (br (λ_=>ok trivial) λ_=>bd (Zlb hp _ _) λ_ _=>br! (λ_=>ok trivial) λ_=>brN (λ_=>ok trivial) λ_=>bd (Z67 _ 0 2 (by omega) (c a b)) λ_ _=>bd (Y6y hp _ _) λ_ _=>ok trivial)
theorem Zuh (l:List Vc) (s:List UInt8) (m:l.length≤140737488355328) (g:∀ a∈l,Str a.Qm):Ok (Z9x p l s) (λr=>Str r.1∧0≤r.2∧r.2≤l.length):=by
 unfold Z9x
 refine bd (P:=λq:List UInt8×Int=>Str q.1∧0≤q.2∧q.2≤(l.length:Int)) (lp (λt=>t.2.2) l.length (λt=>Str t.1∧0≤t.2.1∧t.2.1≤t.2.2) (λt d j k=>?_) (by omega) ⟨by simp,by dsimp only; omega,by dsimp only; omega⟩) λq hq=>ok hq
 obtain⟨c,e,f⟩:=d
 unfold Zna
 exact brD (λi=>bd gr λa _=>bd (Zlb hp _ _) λ_ _=>br (λ_=>bd gr λb h=>bd wr λ_ _=>bd wr λ_ _=>nx ⟨g b h,by dsimp only; omega,by dsimp only; omega⟩) λ_=>bd wr λ_ _=>nx ⟨c,by dsimp only; omega,by dsimp only; omega⟩) λ_=>dn ⟨c,by dsimp only; omega,by dsimp only; omega⟩
variable (hS:PS p 1024)
include hS
theorem Z6m (i:Int):Ok (Z1q p i) (λ_=>True):=by
 unfold Z1q Zlo
 exact brD (λ_=>ok trivial) λ_=>brD (λ_=>ok trivial) λ_=>bd (Zjq p i (by omega) hS) λv a=>brN (λ_=>ok trivial) λ_=>brE (λ_=>ok trivial) λ_=>bd gs λ_ _=>brE (λ_=>ok trivial) λ_=>ok trivial
theorem Zu1 (l:List Int) (s:List UInt8) (c:l.length≤140737488355328):Ok (Z9w p l s) (λ_=>True):=by
 unfold Z9w
 refine bd (P:=λ_=>True) (li l.length (λt a b=>?_) (by omega) (by omega) (by omega)) λq _=>by cases q <;> exact ok trivial
 unfold Zn5
 exact brD (λ_=>bd gr λ_ _=>bd (Z6m hp hS _) λ_ _=>brE (λ_=>br (λ_=>di trivial) λ_=>bd wr λ_ _=>ni (by omega) (by omega)) λ_=>bd wr λ_ _=>ni (by omega) (by omega)) λ_=>di trivial
end
theorem Y5i (x y:Int):Ok (Z1r x y) (λ_=>True):=bs (ok trivial)
theorem Zz8 (x y:Int):Ok (Z33 x y) (λ_=>True):=by
 unfold Z33
 exact brD (λ_=>bs (ok trivial)) λ_=>ok trivial
theorem Y2t (x:Int):Ok (Z9v x) (λ_=>True):=by
 unfold Z9v Zcd Zce
 have h:∀ n:Int,Ok ((some (Vm .i64 x (4:Int))).bind λa=>if (a !=0)=true then ((some (IntKind.wrap .i64 (n+(1:Int)))).bind λb=>some (decide (b≤1))) else (some (decide (n≤1)))) (λ_=>True):=λn=>bs (br (λ_=>bs (ok trivial)) λ_=>ok trivial)
 have c:∀ n:Int,Ok ((some (Vm .i64 x (2:Int))).bind λe=>if (e !=0)=true then ((some (IntKind.wrap .i64 (n+(1:Int)))).bind λd=>(some (Vm .i64 x (4:Int))).bind λa=>if (a !=0)=true then ((some (IntKind.wrap .i64 (d+(1:Int)))).bind λb=>some (decide (b≤1))) else (some (decide (d≤1)))) else ((some (Vm .i64 x (4:Int))).bind λa=>if (a !=0)=true then ((some (IntKind.wrap .i64 (n+(1:Int)))).bind λb=>some (decide (b≤1))) else (some (decide (n≤1))))) (λ_=>True):=λn=>bs (br (λ_=>bs (h _)) λ_=>h _)
 exact bs (br (λ_=>c 1) λ_=>c 0)
theorem Zkv (s:List UInt8) (x:Int):Ok (Z32 s x) (λ_=>True):=by
 unfold Z32 Z48 Z49
 repeat' first
  | exact ok trivial
  | (with_reducible first|refine br (λ_=>?_) λ_=>?_|refine bd (Y5i _ _) λ_ _=>?_|refine bd (Zz8 _ _) λ_ _=>?_|refine bd (Y2t _) λ_ _=>?_|refine bs ?_)
structure Z04 (f:X5):Prop where
 pool:X0 f.Qp
 ifsL:f.Yc.length≤140737488355328
 fldL:f.Ym.length≤140737488355328
 metL:f.Yo.length≤140737488355328
 attL:f.Xv.length≤140737488355328
 att:∀ a∈f.Xv,Str a.Qm
 mem:∀ m,m∈f.Ym∨m∈f.Yo→m.Xv.length≤140737488355328∧∀ a∈m.Xv,Str a.Qm
def FewF (f:X5):Prop:=f.Yc.length≤8∧f.Ym.length≤64∧f.Yo.length≤64
theorem Y5b (f:X5) (c:Z04 f):Ok (Zgk f) (λb=>b=false→FewF f):=by
 have g:=c.fldL; have h:=c.metL
 unfold Zgk Zlp
 refine brD (λ_=>ok (by simp)) λ_=>brD (λ_=>ok (by simp)) λ_=>brD (λ_=>ok (by simp)) λ_=>brD (λ_=>ok (by simp)) λ_=>?_
 have a:FewF f:=⟨by omega,by omega,by omega⟩
 refine bd (P:=λ_=>True) (li f.Ym.length (λt d e=>?_) (by omega) (by omega) (by omega)) λq _=>?_
 ·unfold Zn3
  exact brD (λ_=>bd gr λ_ _=>brD (λ_=>di trivial) λ_=>bd wr λ_ _=>ni (by omega) (by omega)) λ_=>di trivial
 cases q with
 | inr _=>exact ok λ_=>a
 | inl _=>
  refine bd (P:=λ_=>True) (li f.Yo.length (λt d e=>?_) (by omega) (by omega) (by omega)) λq _=>by cases q <;> exact ok λ_=>a
  unfold Zn4
  exact brD (λ_=>bd gr λ_ _=>brD (λ_=>di trivial) λ_=>bd wr λ_ _=>ni (by omega) (by omega)) λ_=>di trivial
theorem Y7c (f:X5) (g:Z04 f) (hS:PS f.Qp 1024):Ok (Zgp f) (λe=>e=0→FewF f):=by
 have hp:=g.pool.len
 have n:=g.ifsL
 have l:∀ a (v:List UInt8×Int),Ok (Z7g a v f) (λe=>e=0→FewF f):=λa v=>by
  unfold Z7g
  exact bd (Y5b f g) λb m=>br (λ_=>ok (by simp)) λh=>br (λ_=>ok (by simp)) λ_=>bd (Zu1 hp hS _ _ n) λ_ _=>br (λ_=>ok (by simp)) λ_=>ok λ_=>m h
 have k:∀ (v:List UInt8×Int) a,Ok (Z7f v f a) (λe=>e=0→FewF f):=λv a=>by
  unfold Z7f
  exact bd (Zkv _ _) λ_ _=>br! (λ_=>ok (by simp)) λ_=>br (λ_=>ok (by simp)) λ_=>bs (br (λ_=>br (λ_=>ok (by simp)) λ_=>l _ _) λ_=>l _ _)
 have j:Ok (Z7e f) (λe=>e=0→FewF f):=by
  unfold Z7e
  exact bd (Z6m hp hS _) λv _=>brN (λh=>ok λd=>absurd d h) λ_=>brN (λ_=>bd (Z6m hp hS _) λw _=>brN (λh=>ok λd=>absurd d h) λ_=>k _ _) λ_=>k _ _
 have c:∀ i,Ok (Z9y f.Qp i) (λ_=>True):=λi=>by
  unfold Z9y
  exact brD (λ_=>ok trivial) λ_=>ok trivial
 unfold Zgp
 exact bd (c _) λ_ _=>br! (λ_=>ok (by simp)) λ_=>brN (λ_=>bd (c _) λ_ _=>br! (λ_=>ok (by simp)) λ_=>j) λ_=>j
theorem Y4k (f:X5) (a:Z04 f) (hS:PS f.Qp 1024) (i:Int) (b:0≤i) (c:i<f.Yc.length):Ok (Zgj f i) (λ_=>True):=by
 have:=a.ifsL
 unfold Zgj
 exact bd (gr b c) λ_ _=>bd (Z6m a.pool.len hS _) λ_ _=>brN (λ_=>ok trivial) λ_=>bd sb λr d=>bd (Zu1 a.pool.len hS r _ (by have:=d.1; omega)) λ_ _=>br (λ_=>ok trivial) λ_=>ok trivial
theorem Y4a (f:X5) (a:Z04 f) (hS:PS f.Qp 1024) (i:Int) (d:0≤i) (e:i<f.Ym.length):Ok (Zgh f i) (λ_=>True):=by
 have hp:=a.pool.len
 have j:f.Qp.length≤140737488355328:=by omega
 unfold Zgh
 refine bd (gr d e) λm q=>bd (Uq _ _ j) λr l=>brN (λ_=>ok trivial) λ_=>bd (Zjm _ (by have:=Z5w hS l; unfold Str; omega)) λb o=>br! (λ_=>ok trivial) λh=>?_
 have k:=o h
 refine bd gs λ_ _=>br (λ_=>ok trivial) λ_=>?_
 have g:∀ c w,Ok (Z7h m c f i w) (λ_=>True):=λc w=>by
  unfold Z7h
  exact bd (Zkv _ _) λ_ _=>br! (λ_=>ok trivial) λ_=>bd (Zzf hp _ i a.fldL d e) λ_ _=>br (λ_=>ok trivial) λ_=>bd (Y3j hp m _ (a.mem m (.inl q)).2) λ_ _=>br! (λ_=>ok trivial) λ_=>ok trivial
 unfold Zlj Zlk
 exact bd (Uq _ _ j) λc n=>brN (λ_=>ok trivial) λ_=>bd (Z68 _ (by have:=Z5w hS n; unfold Str; omega)) λ_ _=>brN (λ_=>ok trivial) λ_=>br (λ_=>ok trivial) λ_=>bs (br (λ_=>g _ _) λ_=>g _ _)
theorem Y6j (f:X5) (h:Z04 f) (hS:PS f.Qp 1024) (m:Yt):Ok (Zgm f m) (λr=>r.2.1.Z0b.length≤1048576):=by
 have c:f.Qp.length≤140737488355328:=by have:=h.pool.len; omega
 have b:∀ a,Ok (Z7i a f m) (λr=>r.2.1.Z0b.length≤1048576):=λa=>by
  unfold Z7i
  refine bd (Uq _ _ c) λi e=>brN (λ_=>ok (by simp)) λ_=>bd (Zjo _ (by have:=Z5w hS e; omega)) λj g=>brN (λ_=>ok (by simp)) λ_=>?_
  repeat' first
   | exact ok g
   | exact ok (by simp)
   | with_reducible refine br (λ_=>?_) λ_=>?_
 unfold Zgm
 exact bd (Uq _ _ c) λa d=>brN (λ_=>ok (by simp)) λ_=>bd (Zjm _ (by have:=Z5w hS d; unfold Str; omega)) λ_ _=>br! (λ_=>ok (by simp)) λ_=>br (λ_=>bs (br (λ_=>ok (by simp)) λ_=>b _)) λ_=>b _
theorem Y4c (f:X5) (m:Yt) (s:List UInt8):Ok (Zgi f m s) (λ_=>True):=by
 unfold Zgi Zc5
 repeat' first
  | exact ok trivial
  | (with_reducible first|refine br (λ_=>?_) λ_=>?_|refine bd (Zkv _ _) λ_ _=>?_|refine bd (Zz8 _ _) λ_ _=>?_|refine bs ?_)
theorem Y32 (f:X5) (e:Z04 f) (hS:PS f.Qp 1024) (m:Yt) (d:m.Xv.length≤140737488355328∧∀ a∈m.Xv,Str a.Qm) (g:V9) (s:g.Z0b.length≤1048576):Ok (Zgf f.Qp m g) (λ_=>True):=by
 have hp:=e.pool.len
 unfold Zgf
 refine bd (Zuh hp _ _ d.1 d.2) λu h=>bd (Zuh hp _ _ d.1 d.2) λk j=>bs (brD (λ_=>ok trivial) λ_=>brD (λ_=>ok trivial) λ_=>bd wr λ_ _=>brN (λ_=>ok trivial) λ_=>br (λ_=>ok trivial) λ_=>?_)
 have i:∀ a b,Ok (Z7k a b) (λ_=>True):=λa b=>by
  unfold Z7k
  exact brD (λ_=>ok trivial) λ_=>ok trivial
 have c:∀ a b,Ok (Z7j a k f.Qp b) (λ_=>True):=λa b=>by
  unfold Z7j
  refine brD (λ_=>bd (Y3t _ j.1) λl n=>brN (λ_=>ok trivial) λ_=>bd (P:=λ_=>True) (li l.1.length (λt o r=>?_) (by omega) (by omega) (by omega)) λq _=>?_) λ_=>i _ _
  ·unfold Zn7
   exact brD (λ_=>bd gr λ_ _=>bd (Z6m hp hS _) λ_ _=>brN (λ_=>di trivial) λ_=>bd wr λ_ _=>ni (by omega) (by omega)) λ_=>di trivial
  ·cases q with
   | inl _=>exact i _ _
   | inr _=>exact ok trivial
 unfold Zlr Zc6
 exact bs (br (λ_=>bd wr λ_ _=>br (λ_=>bd (Zsc _ _ e.pool h.1) λ_ _=>brN (λ_=>ok trivial) λ_=>c _ _) λ_=>c _ _) λ_=>br (λ_=>bd (Zsc _ _ e.pool h.1) λ_ _=>brN (λ_=>ok trivial) λ_=>c _ _) λ_=>c _ _)
theorem Y5d (f:X5) (a:Z04 f) (hS:PS f.Qp 1024) (i:Int) (b:0≤i) (c:i<f.Yo.length):Ok (Zgl f i) (λ_=>True):=by
 unfold Zgl
 exact bd (gr b c) λm e=>bd (Y6j f a hS m) λg d=>brN (λ_=>ok trivial) λ_=>bd (Y4c _ _ _) λ_ _=>br! (λ_=>ok trivial) λ_=>bd (Zzf a.pool.len _ i a.metL b c) λ_ _=>br (λ_=>ok trivial) λ_=>bd (Y32 f a hS m (a.mem m (.inr e)) _ d) λ_ _=>ok trivial
theorem Y6o (f:X5) (b:Z04 f) (hS:PS f.Qp 1024):Ok (Zgn f) (λ_=>True):=by
 unfold Zgn Zll
 exact brE (λ_=>ok trivial) λ_=>bd gr λa c=>brD (λ_=>ok trivial) λ_=>bd (Zlb b.pool.len _ _) λ_ _=>br! (λ_=>ok trivial) λ_=>brN (λ_=>ok trivial) λ_=>bd (Z67 _ 0 2 (by omega) (b.att a c)) λ_ _=>bd (Uq _ _ (by have:=b.pool.len; omega)) λ_ _=>ok trivial
theorem Zq4 (s:List UInt8) (n:Int) (hs:s.length≤1000) (d:0≤n) (w:n<100):Ok (Z55 s n) (λ_=>True):=by
 unfold Z55
 have b:∀ a:Int,0≤a→a<10→Ok (sub ([48,49,50,51,52,53,54,55,56,57]:List UInt8) a (a+1)) (λr=>r.length≤1):=λa k x=>(sb k (by omega) (by simp; omega)).mono λr o=>by have:=o.1; omega
 refine brD (λ_=>bd (ct (by simp; omega)) λy f=>bd wr λz g=>?_) λ_=>bd (ct (by simp; omega)) λB e=>?_
 ·rw[g]
  exact bd (b n d (by omega)) λA u=>bd (ct (by have:=f.2; simp at this; omega)) λ_ _=>ok trivial
 ·have l:divK .i64 n 10=some (n / 10):=by
   unfold divK
   rw[if_pos (by decide)]
   congr 1
   rw[Int.tdiv_eq_ediv_of_nonneg d]
   exact J5 (by omega) (by omega)
  have m:modK n 10=some (n % 10):=by
   unfold modK
   rw[if_pos (by decide)]
   congr 1
   exact Int.tmod_eq_emod_of_nonneg d
  rw[l,m]
  refine bs (bs (bd wr λC i=>?_))
  rw[i]
  refine bd (b _ (by omega) (by omega)) λD v=>bd (ct (by have:=e.2; simp at this; omega)) λE j=>bs (bs (bd wr λq c=>?_))
  rw[c]
  exact bd (b _ (by omega) (by omega)) λt h=>bd (ct (by have:=e.2; have:=j.2; simp at *; omega)) λ_ _=>ok trivial
theorem Y3d (f:X5) (d:Z04 f):Ok (Zge f) (λr=>r.2=0→FewF f):=by
 unfold Zge
 refine bd (Zqz _ d.pool) λi b=>brN (λh=>ok λg=>absurd g h) λh=>?_
 have hS:=b h
 refine bd (Y7c f d hS) λj e=>brN (λh=>ok λg=>absurd g h) λh=>?_
 have c:=e h
 have k1:=c.1; have k2:=c.2.1; have k3:=c.2.2
 refine bd (P:=λ_=>True) (li f.Yc.length (λt b e=>?_) (by omega) (by omega) (by omega)) λq _=>?_
 ·unfold Zmu
  exact brD (λa=>bd (Y4k f d hS t b a) λ_ _=>brN (λ_=>bd (Zq4 _ t (by simp) b (by omega)) λ_ _=>di trivial) λ_=>bd wr λ_ _=>ni (by omega) (by omega)) λ_=>di trivial
 cases q with
 | inr _=>exact ok λ_=>c
 | inl _=>
 refine bd (P:=λ_=>True) (li f.Ym.length (λt b e=>?_) (by omega) (by omega) (by omega)) λq _=>?_
 ·unfold Zmv
  exact brD (λa=>bd (Y4a f d hS t b a) λ_ _=>brN (λ_=>bd (Zq4 _ t (by simp) b (by omega)) λ_ _=>di trivial) λ_=>bd wr λ_ _=>ni (by omega) (by omega)) λ_=>di trivial
 cases q with
 | inr _=>exact ok λ_=>c
 | inl _=>
 refine bd (P:=λ_=>True) (li f.Yo.length (λt b e=>?_) (by omega) (by omega) (by omega)) λq _=>?_
 ·unfold Zmw
  exact brD (λa=>bd (Y5d f d hS t b a) λ_ _=>brN (λ_=>bd (Zq4 _ t (by simp) b (by omega)) λ_ _=>di trivial) λ_=>bd wr λ_ _=>ni (by omega) (by omega)) λ_=>di trivial
 cases q with
 | inr _=>exact ok λ_=>c
 | inl _=>exact bd (Y6o f d hS) λ_ _=>br! (λ_=>ok λ_=>c) λ_=>ok λ_=>c
end Go.Proofs
namespace Go.Proofs
open Go.Den Go.Tot
def FewM (u:Yj):Prop:=u.Yc.length≤8∧u.Ym.length≤64∧u.Yo.length≤64
theorem Y71 (u:Yj) (n:Wv u):Ok (Zgw u) (λr=>r.2=0→FewM u):=by
 have gm:=n.metL
 unfold Zgw
 refine bd (Y21 u n) λ_ _=>br! (λ_=>ok (by simp)) λ_=>bd (Y2p _ u X0.nil n) λo d=>brN (λh=>ok λv=>absurd v h) λ_=>?_
 have i:=d.fam.m; have T:=d.fam.c; have U:=d.fam.t; have hs:=d.fam.s
 refine bd (P:=λq:List (List UInt8)⊕(X5×Int)=>match q with|.inl q=>(q.length:Int)=u.Yo.length∧∀ s∈q,Str s|.inr y=>y.2≠0) (lp (λt=>t.1) u.Yo.length (λt=>(t.2.length:Int)=t.1∧∀ s∈t.2,Str s) (λt A J x=>?_) (by omega) ⟨rfl,U8⟩) λN k=>?_
 ·obtain⟨B,g⟩:=A
  unfold Zmn
  have E:t.1<u.Yo.length→∀ s e,Str s→Ok (Z71 t s e) (St (λt=>(t.2.length:Int)=t.1∧∀ s∈t.2,Str s) (λt=>t.1) u.Yo.length (λq:List (List UInt8)⊕(X5×Int)=>match q with|.inl q=>(q.length:Int)=u.Yo.length∧∀ s∈q,Str s|.inr y=>y.2≠0) t):=λf s e F=>by
   unfold Z71
   exact brN (λh=>dn h) λ_=>bd gk λ_ _=>bd wr λ_ M=>nx ⟨by simp only[List.length_append,List.length_cons,List.length_nil]; omega,K7 g F⟩
  exact brD (λf=>bd gr λ_ _=>br (λ_=>bd gr λc C=>bd (Y41 _ c d.pool (d.fam.code c C)) λV K=>E (by omega) _ _ K) λ_=>E (by omega) _ _ (by simp)) λD=>dn ⟨by omega,g⟩
 cases N with
 | inr y=>exact ok λh=>absurd h k
 | inl q0=>
 obtain⟨k1,k2⟩:=k
 refine bd (P:=λq:List Yt⊕(X5×Int)=>match q with|.inl q=>(q.length:Int)=u.Yo.length∧∀ m∈q,m.Xv.length≤2∧∀ a∈m.Xv,Str a.Qm|.inr y=>y.2≠0) (lp (λt=>t.1) u.Yo.length (λt=>(t.2.length:Int)=t.1∧∀ m∈t.2,m.Xv.length≤2∧∀ a∈m.Xv,Str a.Qm) (λt A J x=>?_) (by omega) ⟨rfl,U8⟩) λq3 l=>?_
 ·obtain⟨B,g⟩:=A
  have H:t.1<u.Yo.length→∀ p:List Vc,(p.length≤2∧∀ a∈p,Str a.Qm)→Ok (Z73 t o p) (St (λt=>(t.2.length:Int)=t.1∧∀ m∈t.2,m.Xv.length≤2∧∀ a∈m.Xv,Str a.Qm) (λt=>t.1) u.Yo.length (λq:List Yt⊕(X5×Int)=>match q with|.inl q=>(q.length:Int)=u.Yo.length∧∀ m∈q,m.Xv.length≤2∧∀ a∈m.Xv,Str a.Qm|.inr y=>y.2≠0) t):=λf p hp=>by
   unfold Z73
   exact bd gr λ_ _=>bd gk λ_ _=>bd wr λ_ M=>nx ⟨by simp only[List.length_append,List.length_cons,List.length_nil]; omega,K7 g hp⟩
  have G:t.1<u.Yo.length→∀ p:List Vc,(p.length≤1∧∀ a∈p,Str a.Qm)→Ok (Z72 t o p) (St (λt=>(t.2.length:Int)=t.1∧∀ m∈t.2,m.Xv.length≤2∧∀ a∈m.Xv,Str a.Qm) (λt=>t.1) u.Yo.length (λq:List Yt⊕(X5×Int)=>match q with|.inl q=>(q.length:Int)=u.Yo.length∧∀ m∈q,m.Xv.length≤2∧∀ a∈m.Xv,Str a.Qm|.inr y=>y.2≠0) t):=λf p hp=>by
   unfold Z72
   exact bd gr λ_ _=>brN (λ_=>bd gr λ_ _=>bd (Zsj _) λQ z=>brN (λh=>dn h) λ_=>bd gr λ_ _=>bd gk λ_ _=>H f _ ⟨by simp only[List.length_append,List.length_cons,List.length_nil]; omega,K7 hp.2 z⟩) λ_=>H f p ⟨by omega,hp.2⟩
  unfold Zmo
  exact brD (λf=>bd gr λ_ _=>br (λ_=>bd gr λ_ _=>bd ik λj E=>bd (la (by omega)) λb L=>bd (gk (by simp) (by simp)) λ_ _=>G (by omega) _ ⟨by simp,K7 U8 (k2 b L.2)⟩) λ_=>G (by omega) _ ⟨by simp,U8⟩) λD=>dn ⟨by omega,g⟩
 cases q3 with
 | inr y=>exact ok λh=>absurd h l
 | inl O=>
 obtain⟨R,I⟩:=l
 refine bd (Y3d _ ⟨d.pool,by have:=d.ifsL; have:=n.ifsL; dsimp only; omega,by have:=d.fldL; have:=n.fldL; dsimp only; omega,by dsimp only; omega,by have:=d.attL; dsimp only; omega,d.att,λm i=>?_⟩) λw hw=>brN (λh=>ok λv=>absurd v h) λh=>ok λ_=>?_
 rotate_left
 ·have S:o.2.f_F.Yc.length≤8∧o.2.f_F.Ym.length≤64∧O.length≤64:=hw h
  have:=d.ifsL; have:=d.fldL; exact⟨by omega,by omega,by omega⟩
 rcases i with i|i
 ·have:=d.fld m i; exact⟨by omega,this.2⟩
 ·have:=I m i; exact⟨by omega,this.2⟩
theorem Y3e (u:Yj) (a:Wv u):Ok (Zno u) (λe=>e=0→FewM u):=bd (Y71 u a) λ_ h=>ok h
theorem Zjv (w:Zq) (n i:Int) (s:List UInt8) (b:Bool) (a:i≤w.Y6.length):Ok (Z57 w n i s b) (λr=>r=true→0≤n∧n<i):=by
 unfold Z57
 exact brD (λ_=>brD (λ_=>bd gr λ_ _=>br (λ_=>bd gr λ_ _=>bs (ok λ_=>⟨by omega,by omega⟩)) λ_=>ok (by simp)) λ_=>ok (by simp)) λ_=>ok (by simp)
theorem Zsw (w:Zq) (l:Int) (s:List UInt8) (hw:Wo w):Ok (Z35 w l s) (λ_=>True):=by
 have:=hw.iniL
 unfold Z35
 refine bd (P:=λ_=>True) (li w.Yr.length (λt a b=>?_) (by omega) (by omega) (by omega)) λq _=>by cases q <;> exact ok trivial
 unfold Z98
 exact brD (λ_=>bd gr λ_ _=>br (λ_=>bd gr λ_ _=>br (λ_=>bd gr λ_ _=>di trivial) λ_=>bd wr λ_ _=>ni (by omega) (by omega)) λ_=>bd wr λ_ _=>ni (by omega) (by omega)) λ_=>di trivial
structure Z2c (w:Zq) (i:Int) (c:Xi):Prop where
 sup:c.Ys= -1∨(0≤c.Ys∧c.Ys<i)
 ifs:∀ n∈c.Yc,0≤n∧n<i
 ifsL:c.Yc.length≤8
 few:FewM c.Xp
 lod:0≤c.Xn∧c.Xn<w.X3.length
 lang:c.Xn≠0→Z1k c.Xp.Zn [108,97,110,103,47]=some false
theorem Y3f (w:Zq) (hw:Wo w) (i:Int) (E:0≤i) (F:i<w.Y6.length) (c:Xi) (A:Z4 w.Y6 i=some c) (B:c∈w.Y6):Ok (Zh6 w i) (λb=>b=true→Z2c w i c):=by
 have y:=hw.clsL
 obtain⟨d,j⟩:=hw.cls c B
 have C:=d.ifsL
 have z:Ok (some false) (λb=>b=true→Z2c w i c):=ok (by simp)
 unfold Zh6
 rw[A]
 refine bs (brD (λ_=>z) λk0=>brD (λ_=>z) λk1=>bd (Y3e _ d) λ_ g=>brN (λ_=>z) λa=>brN (λ_=>z) λs=>?_)
 have m:(c.Ys= -1∨(0≤c.Ys∧c.Ys<i))→(c.Xn≠0→Z1k c.Xp.Zn [108,97,110,103,47]=some false)→Ok (Z4c c w i) (λb=>b=true→Z2c w i c):=λhs k=>by
  unfold Z4c
  refine bd (P:=λq:Unit⊕Bool=>match q with|.inl _=>∀ n∈c.Yc,0≤n∧n<i|.inr b=>b=false) (Uu (P:=λn=>0≤n∧n<i) j (λt g0 l v G D o=>?_) λt g0 l x=>?_) λq hq=>?_
  ·unfold Zev
   rw[o]
   exact brD (λ_=>bs (bd gr λ_ _=>bd (Zjv w v i _ _ (by omega)) λb e=>br! (λ_=>ok rfl) λh=>bd wr λ_ p=>ok ⟨p,e h⟩)) λh=>absurd l h
  ·unfold Zev
   exact brD (λh=>absurd h (by omega)) λ_=>ok x
  cases q with
  | inr b=>exact ok λh=>by cases hq.symm.trans h
  | inl _=>
   have f:Z2c w i c:=⟨hs,hq,by have:=(g a).1; omega,g a,⟨by omega,by omega⟩,k⟩
   refine bd (P:=λ_=>True) (li i (λt g0 l=>?_) (by omega) (by omega) (by omega)) λq _=>?_
   ·unfold l69x2
    exact brD (λ_=>bd gr λ_ _=>br (λ_=>bd gr λ_ _=>br (λ_=>di trivial) λ_=>bd wr λ_ _=>ni (by omega) (by omega)) λ_=>bd wr λ_ _=>ni (by omega) (by omega)) λ_=>di trivial
   cases q with
   | inr _=>exact ok λ_=>f
   | inl _=>exact bd (Zsw w _ _ hw) λ_ _=>br (λ_=>br (λ_=>brD (λ_=>brD (λ_=>ok λ_=>f) λ_=>ok λ_=>f) λ_=>ok λ_=>f) λ_=>ok λ_=>f) λ_=>ok λ_=>f
 have r:(c.Xn≠0→Z1k c.Xp.Zn [108,97,110,103,47]=some false)→Ok (Z85 c w i) (λb=>b=true→Z2c w i c):=λk=>by
  unfold Z85
  exact brE (λhe=>br! (λ_=>bd (Zjv w _ i _ _ (by omega)) λb e=>br! (λ_=>z) λh=>m (.inr (e h)) k) λ_=>m (.inl he) k) λ_=>br! (λ_=>bd (Zjv w _ i _ _ (by omega)) λb e=>br! (λ_=>z) λh=>m (.inr (e h)) k) λ_=>z
 exact brN (λ_=>bdE (Zqx _ _) λb e _=>br (λ_=>z) λh=>r λ_=>by rw[e,h]) λh=>r λu=>absurd h u
structure Vy (w:Zq):Prop where
 cls:∀ (i:Nat) c,w.Y6[i]?=some c→Z2c w i c
 few:w.Y6.length≤200
theorem Y79 (w:Zq) (hw:Wo w):Ok (Za5 w) (λb=>b=true→Vy w):=by
 have D:=hw.clsL; have H:=hw.iniL; have g:=hw.conL
 unfold Za5
 refine bd (Y24 _ hw.lod hw.lodL) λK A=>brN (λ_=>ok (by simp)) λh=>brD (λ_=>ok (by simp)) λC=>brD (λ_=>ok (by simp)) λ_=>?_
 have r:=A h
 unfold j37x1
 refine bd (P:=λq:Unit⊕Bool=>match q with|.inl _=>∀ b∈w.Q3,My w b|.inr b=>b=false) (Uu (P:=My w) g (λt g0 m v i u s=>?_) λt g0 m B=>?_) λq hq=>?_
 ·unfold Zef
  rw[s]
  exact brD (λ_=>bs (brD (λ_=>ok rfl) λ_=>brD (λ_=>ok rfl) λ_=>brD (λ_=>ok rfl) λ_=>brD (λ_=>ok rfl) λ_=>bd (Zb9 _ (hw.con v u)) λ_ _=>br! (λ_=>ok rfl) λ_=>bd wr λ_ x=>ok ⟨x,by omega,by omega,by omega,by omega⟩)) λh=>absurd m h
 ·unfold Zef
  exact brD (λh=>absurd h (by omega)) λ_=>ok B
 cases q with
 | inr b=>exact ok λh=>by cases hq.symm.trans h
 | inl _=>
 have hcons:∀ b∈w.Q3,My w b:=hq
 refine bd (P:=λq:Unit⊕Bool=>match q with|.inl _=>True|.inr b=>b=false) (lp (λt=>t) w.Yr.length (λt=>∀ (j:Nat) v,(j:Int)<t→w.Yr[j]?=some v→Z03 w v) (λt n g0 m=>?_) (by omega) (λj v h=>by omega) (by omega) (by omega)) λq hq=>?_
 ·unfold l37x2
  refine brD (λa=>bd (Y26 w t hw g0 a) λb o=>br! (λ_=>dn rfl) λh=>?_) λ_=>dn trivial
  have e:∀ (j:Nat) v,(j:Int)≤t→w.Yr[j]?=some v→Z03 w v:=λj v z i=>by
   rcases Int.lt_or_le (j:Int) t with f|f
   ·exact n j v f i
   ·have:j=t.toNat:=by omega
    subst this
    exact o h v i
  exact bd (Y25 w t hw r hcons g0 a e) λ_ _=>br! (λ_=>dn rfl) λ_=>bd wr λk I=>nx (λj v z i=>e j v (by omega) i) (by omega) (by omega)
 cases q with
 | inr b=>exact ok λh=>by cases hq.symm.trans h
 | inl _=>
 refine bd (P:=λq:Unit⊕Bool=>match q with|.inl _=>Vy w|.inr b=>b=false) (lp (λt=>t) w.Y6.length (λt=>∀ (j:Nat) c,(j:Int)<t→w.Y6[j]?=some c→Z2c w j c) (λt n g0 m=>?_) (by omega) (λj v h=>by omega) (by omega) (by omega)) λq hq=>?_
 ·unfold l37x3
  refine brD (λa=>?_) λF=>dn ⟨λj c y=>n j c (by have:=(List.getElem?_eq_some_iff.1 y).1; omega) y,by omega⟩
  obtain⟨c,E,J,G⟩:=gri (l:=w.Y6) g0 a
  refine bd (Y3f w hw t g0 a c E J) λb o=>br! (λ_=>dn rfl) λh=>bd wr λk I=>nx (λj d z p=>?_) (by omega) (by omega)
  rcases Int.lt_or_le (j:Int) t with f|f
  ·exact n j d f p
  ·have:j=t.toNat:=by omega
   subst this
   rw[G] at p; cases p
   have:=o h
   rwa [show ((t.toNat:Nat):Int)=t by omega]
 cases q with
 | inr b=>exact ok λh=>by cases hq.symm.trans h
 | inl _=>exact ok λ_=>hq
end Go.Proofs
namespace Go.Proofs
open Go.Den Go.Tot
structure Li (o:Zm):Prop where
 val16:o.Zw.length*16≤140737488355328
 str:Str o.Yx
 ws:o.Xk.length≤140737488355328
structure M9 (a:Qb):Prop where
 loc:a.Y1.length≤140737488355328
 stk:a.Y5.length≤140737488355328
theorem Li.val {o:Zm} (h:Li o):o.Zw.length≤140737488355328:=by have:=h.val16; omega
structure V4 (m:Z6):Prop where
 sp:Wo m.Y0
 heap:∀ o∈m.Z7,Li o
 heapL:m.Z7.length≤140737488355328
 ini:∀ b∈m.Xb,b.Qt.length≤140737488355328
 iniL:m.Xb.length≤140737488355328
 int:∀ x∈m.X1,Str x.Yx
 intL:m.X1.length≤140737488355328
 thr:∀ t∈m.Y9,(∀ a∈t.Yu,M9 a)∧t.Yu.length≤140737488355328
 thrL:m.Y9.length≤140737488355328
 outL:m.Qo.length≤140737488355328
theorem nT {α:Type} {o:Option Bool} {R:Prop} {P:α→Prop} {x y:Option α} (h:Ok o λb=>b=true→R) (F:Ok x P) (T:R→Ok y P):Ok (o.bind λv=>if (!v)=true then x else y) P:=
 bd h λ_ a=>br! (λ_=>F) λe=>T (a e)
theorem nF {α:Type} {o:Option Bool} {R:Prop} {P:α→Prop} {x y:Option α} (h:Ok o λb=>b=true→R) (F:Ok x P) (T:R→Ok y P):Ok (o.bind λv=>if v=true then y else x) P:=
 bd h λ_ a=>br (λe=>T (a e)) λ_=>F
theorem take4n (s:List UInt8) (hs:Str s):Ok (Z1l s 0) (λr=>Str r.1.Zn):=by
 unfold Z1l
 refine bd (P:=λq:Int×Int=>0≤q.2∧q.2≤(s.length:Int)∧0≤q.1∧q.1≤4503599627370496) (lp (λt=>t.1) s.length (λt=>0≤t.2∧t.2≤t.1) (λt h g0 a=>?_) (by omega) ⟨by omega,by omega⟩ (by omega) (by omega)) λq hq=>?_
 ·unfold Zd8 Zc1
  refine brD (λd=>bd gs λ_ _=>brE (λ_=>bd wr λ_ _=>bd wr λ_ _=>nx ?_ ?_ ?_) λ_=>dn ?_) λ_=>dn ?_ <;> dsimp only <;> omega
 ·obtain⟨j,k⟩:=q
  dsimp only at hq ⊢
  have j2:∀ (v:Int) (p0:List UInt8) (e:Int),Str p0→Ok (Z2s (j,k) v p0 e) (λr=>Str r.1.Zn):=λv p0 e a=>by
   unfold Z2s
   exact bd (Zba _ a) λb _=>br! (λ_=>ok (by simp)) λ_=>ok a
  refine brD (λ_=>ok (by simp)) λ_=>bd gs λo _=>bd wr λf n=>brE (λ_=>?_) λ_=>j2 _ _ _ (by simp)
  refine bd (P:=λq:Int=>f≤q∧q≤(s.length:Int)) (lp (λt=>t) s.length (λt=>f≤t) (λt h g0 a=>?_) (by omega) (by omega) (by omega) (by omega)) λq i=>?_
  ·unfold Zd9
   exact brD (λd=>bd gs λ_ _=>brN (λ_=>bd wr λ_ _=>nx (by omega) (by omega) (by omega)) λ_=>dn ⟨by omega,by omega⟩) λ_=>dn ⟨by omega,by omega⟩
  ·exact brD (λ_=>ok (by simp)) λ_=>bd sb λl c=>bd wr λm g=>j2 _ _ _ (by have:=c.1; unfold Str at *; omega)
theorem parse4n (s:List UInt8) (hs:Str s):Ok (Kz s) (λr=>Str r.1.Zn):=by
 unfold Kz
 exact bd (take4n s hs) λv a=>brN (λ_=>ok (by simp)) λ_=>ok a
theorem Y1g (y:Yl) (a:Str y.Zn):Ok (Zfk y) (λ_=>True):=by
 unfold Zfk
 repeat' first
  | unfold Zld
  | unfold Zle
  | (with_reducible first|refine brD (λ_=>?_) λ_=>?_|refine br! (λ_=>?_) λ_=>?_|refine brE (λ_=>?_) λ_=>?_|refine bd (Zba _ ?_) λ_ _=>?_|refine ok ?_)
  | exact True.intro
  | assumption
  | omega
  | exact And.left (by assumption)
  | (dsimp only; omega)
theorem Zrb (s:List UInt8) (hs:Str s):Ok (Za7 s) (λ_=>True):=by
 unfold Za7
 repeat' first
  | (with_reducible first|refine brN (λ_=>?_) λ_=>?_|refine bd (parse4n _ ?_) λ_ _=>?_|refine bd (Y1g _ ?_) λ_ _=>?_|refine ok ?_)
  | exact True.intro
  | assumption
  | omega
  | exact And.left (by assumption)
  | (dsimp only; omega)
theorem Zrc (w:Zq) (c:Int):Ok (Za9 w c) (λb=>b=true→0≤c∧c<w.Y6.length):=by
 unfold Za9
 repeat' first
  | (with_reducible first|refine brD (λ_=>?_) λ_=>?_|refine ok ?_)
  | (first|(intro h; cases h; done)|(intro h; have:=of_decide_eq_true h; omega))
def Z3s (w:Zq) (x:V3):Prop:=0≤x.Zy∧x.Zy<w.Y6.length∧0≤x.Q4∧∀ v,Z4 w.Y6 x.Zy=some v→x.Q4<v.Xp.Ym.length
theorem Zuf (w:Zq) (m:Vy w) (c:Int) (s:Bool) (f:0≤c) (g:c<w.Y6.length):Ok (Za8 w c s) (λr=>r.length≤64∧∀ x∈r,Z3s w x∧x.Zy=c):=by
 unfold Za8
 refine bdE (gri f g) λv e j=>?_
 have o:=(m.cls _ v j.2).few.2.1
 refine bd (P:=λq:List V3=>q.length≤64∧∀ x∈q,Z3s w x∧x.Zy=c) (lp (λt=>t.1) v.Xp.Ym.length (λt=>(t.2.length:Int)≤t.1∧∀ x∈t.2,Z3s w x∧x.Zy=c) (λt i g0 n=>?_) (by omega) ⟨by simp,λx b=>by cases b⟩ (by omega) (by dsimp only; omega)) λq hq=>ok hq
 obtain⟨i1,i2⟩:=i
 unfold Zmp
 refine brD (λa=>bd (gr (by omega) a) λ_ _=>bd sm λ_ _=>br (λ_=>bd gk λ_ _=>bd wr λk l=>nx ⟨by simp only[List.length_append,List.length_cons,List.length_nil]; omega,λx b=>?_⟩) λ_=>bd wr λk l=>nx ⟨by dsimp only; omega,i2⟩) λ_=>dn ⟨by omega,i2⟩
 rcases List.mem_append.1 b with h|h
 ·exact i2 x h
 ·rcases List.mem_singleton.1 h with rfl
  exact⟨⟨f,g,g0,λp d=>by rw[e] at d; cases d; exact a⟩,rfl⟩
theorem Ztb (w:Zq) (a:Vy w):∀ (nn:Nat) (c:Int),c+2≤nn→1≤nn→c≤1000000→Ok (Za6 nn w c) (λr=>(c<0→r=[])∧(0≤c→(r.length:Int)≤64*(c+1))∧∀ x∈r,Z3s w x)
 | nn+1,c,h,_,i=>by
  have j:=a.few
  unfold Za6
  refine bd (Zrc w c) λb i=>br! (λ_=>ok ⟨λ_=>rfl,λh=>by simp; omega,λx d=>by cases d⟩) λq=>?_
  obtain⟨f,g⟩:=i q
  refine bdE (gri f g) λv e m=>?_
  have hs:=(a.cls _ v m.2).sup
  refine bd (Ztb w a nn v.Ys (by omega) (by omega) (by omega)) λl n=>?_
  obtain⟨s,t,u⟩:=n
  have k:(l.length:Int)≤64*c:=by
   rcases hs with h|h
   ·rw[s (by omega)]; simp; omega
   ·have:=t h.1; omega
  refine bd (gk (by simp only[List.nil_append]; omega) (by simp only[List.nil_append]; omega)) λ_ _=>bd (Zuf w a c false f g) λo p=>bd (gk (by simp only[List.nil_append,List.length_append]; omega) (by simp only[List.nil_append,List.length_append]; omega)) λ_ _=>ok ⟨λh=>by omega,λ_=>by simp only[List.nil_append,List.length_append]; omega,λx d=>?_⟩
  simp only[List.nil_append] at d
  rcases List.mem_append.1 d with h|h
  ·exact u x h
  ·exact(p.2 x h).1
theorem Zvh {α:Type} {P:α→Prop} {w:Zq} (hw:Wo w) {x:V3} (a:Z3s w x) {f:Xi→Option α} (h:∀ v,v∈w.Y6→x.Q4<v.Xp.Ym.length→Ok (f v) P):Ok ((Z4 w.Y6 x.Zy).bind f) P:=
 bdE (gr a.1 a.2.1) λv e b=>h v b (a.2.2.2 v e)
theorem Y4q (w:Zq) (c:Int) (hw:Wo w) (p:Vy w) (i:c≤1000000):Ok (Zhe w c) (λ_=>True):=by
 unfold Zhe
 have A:(Zb:Int)=18446744073709551616:=rfl
 refine bd (Ztb w p Zb c (by omega) (by unfold Zb; omega) i) λl n=>?_
 obtain⟨r,u,g⟩:=n
 have b:(l.length:Int)≤64000064:=by
  rcases Int.lt_or_le c 0 with h|h
  ·rw[r h]; simp
  ·have:=u h; omega
 refine bd (P:=λ_=>True) (lp (λt=>t.1) l.length (λt=>(t.2.length:Int)≤t.1) (λt y g0 x=>?_) (by omega) (by simp) (by omega) (by dsimp only; omega)) λq _=>ok trivial
 unfold l97x1
 refine brD (λa=>bdE (gr (by omega) a) λs e hs=>Zvh hw (g s hs) λv o m=>?_) λ_=>dn trivial
 rw[e]
 refine bs (bd (gr (g s hs).2.2.1 m) λf j=>bd (Zrb _ ((hw.cls v o).1.fld f j).d) λ_ _=>bd gk λ_ _=>bd wr λk z=>nx (by simp only[List.length_append,List.length_cons,List.length_nil]; omega))
theorem Y6q (w:Zq) (c:Int) (hw:Wo w) (z:Vy w):Ok (Zhf w c) (λ_=>True):=by
 unfold Zhf Znq
 refine bd (P:=λl:List V3=>l.length≤64∧∀ x∈l,Z3s w x∧x.Zy=c) ?_ λl i=>?_
 ·refine bd (Zrc w c) λb h=>br! (λ_=>ok ⟨by simp,λx A=>by cases A⟩) λj=>?_
  exact bd (Zuf w z c true (h j).1 (h j).2) λr u=>ok u
 ·refine bd (P:=λ_=>True) (lp (λt=>t.1) l.length (λt=>(t.2.length:Int)≤t.1) (λt C g0 B=>?_) (by omega) (by simp) (by omega) (by dsimp only; omega)) λq _=>ok trivial
  have o:=i.1
  unfold l76x1
  refine brD (λa=>?_) λ_=>dn trivial
  obtain⟨s,hs,e⟩:=gr (l:=l) g0 a
  obtain⟨k1,k2⟩:=i.2 s e
  subst k2
  refine Zvh hw k1 λv p n=>?_
  rw[hs]
  refine bs (bd (gr k1.2.2.1 n) λf m=>?_)
  have nxt:∀ y:Zf,Ok ((Yp 16 (t.2++[y]).length).bind λ_=>(some (IntKind.wrap .i64 (t.1+1))).bind λg=>some (Ctl.next (g,t.2++[y]))) (St (λt:Int×List Zf=>(t.2.length:Int)≤t.1) (λt=>t.1) l.length (λ_:List Zf=>True) t):=λy=>
   bd gk λ_ _=>bd wr λk D=>nx (by simp only[List.length_append,List.length_cons,List.length_nil]; omega)
  exact br (λ_=>nxt _) λ_=>br (λ_=>nxt _) λ_=>bd (Zrb _ ((hw.cls v p).1.fld f m).d) λy _=>nxt y
theorem Zjt (m:Z6) (n:Int) (hH:m.Z7.length≤140737488355328):Ok (Ul m n) (λb=>b=true→1≤n∧n≤m.Z7.length):=by
 unfold Ul
 repeat' first
  | (with_reducible first|refine brD (λ_=>?_) λ_=>?_|refine bd gr λ_ _=>?_|refine bd wr λ_ _=>?_|refine ok ?_)
  | (first|(intro h; cases h; done)|(intro h; have:=of_decide_eq_true h; omega)|(intro _; omega))
theorem Zbd (m:Z6) (n:Int) (hH:m.Z7.length≤140737488355328):Ok (Kg m n) (λ_=>True):=by
 unfold Kg
 repeat' first
  | (with_reducible first|refine brE (λ_=>?_) λ_=>?_|refine bd (Zjt _ _ ?_) λ_ _=>?_|refine ok ?_)
  | exact True.intro
  | assumption
  | omega
  | exact And.left (by assumption)
  | (dsimp only; omega)
theorem Zbc (m:Z6) (v:Zf) (hH:m.Z7.length≤140737488355328):Ok (Jt m v) (λ_=>True):=by
 unfold Jt
 repeat' first
  | (with_reducible first|refine brD (λ_=>?_) λ_=>?_|refine brE (λ_=>?_) λ_=>?_|refine bd (Zbd _ _ ?_) λ_ _=>?_|refine ok ?_)
  | exact True.intro
  | assumption
  | omega
  | exact And.left (by assumption)
  | (dsimp only; omega)
theorem Zju (m:Z6) (n:Int):Ok (Z59 m n) (λb=>b=true→0≤n∧n<m.Y9.length):=by
 unfold Z59
 repeat' first
  | (with_reducible first|refine brD (λ_=>?_) λ_=>?_|refine ok ?_)
  | (first|(intro h; cases h; done)|(intro h; have:=of_decide_eq_true h; omega)|(intro _; omega))
theorem L30x1 (m:Z6) (hH:m.Z7.length≤140737488355328) (a:m.X1.length≤140737488355328):Ok (Z8 (Z4i m) Zb 0) (λ_=>True):=by
 refine li (m.X1.length) (λt _ _=>?_) (by omega) (by omega) (by omega)
 unfold Z4i
 repeat' first
  | (with_reducible first|refine nT (Zjt _ _ (by assumption)) ?_ λ_=>?_|refine ni ?_ ?_|refine di ?_|refine brD (λ_=>?_) λ_=>?_|refine br (λ_=>?_) λ_=>?_|refine bd gr λ_ _=>?_|refine bd wr λ_ _=>?_)
  | exact True.intro
  | omega
theorem Y2l (m:Z6) (hH:m.Z7.length≤140737488355328) (a:m.X1.length≤140737488355328):Ok (Mg m) (λ_=>True):=by
 unfold Mg
 repeat' first
  | (with_reducible first|refine bd (L30x1 _ ?_ ?_) λ_ _=>?_|refine ok ?_)
  | split
  | assumption
  | omega
  | exact And.left (by assumption)
  | (dsimp only; omega)
theorem L67x1 (m:Z6) (x y:List Zf) (hH:m.Z7.length≤140737488355328) (a:x.length≤140737488355328) (e:(x.length:Int)=y.length):Ok (Z8 (Z4n m x y) Zb 0) (λ_=>True):=by
 refine li (x.length) (λt _ _=>?_) (by omega) (by omega) (by omega)
 unfold Z4n
 repeat' first
  | (with_reducible first|refine ni ?_ ?_|refine di ?_|refine brD (λ_=>?_) λ_=>?_|refine br! (λ_=>?_) λ_=>?_|refine brN (λ_=>?_) λ_=>?_|refine bd gr λ_ _=>?_|refine bd wr λ_ _=>?_|refine bd (Zbc _ _ ?_) λ_ _=>?_)
  | exact True.intro
  | omega
  | assumption
  | exact And.left (by assumption)
  | (dsimp only; omega)
theorem Zrd (m:Z6) (x y:List Zf) (hH:m.Z7.length≤140737488355328) (a:x.length≤140737488355328):Ok (Jj m x y) (λ_=>True):=by
 unfold Jj
 repeat' first
  | (with_reducible first|refine brN (λ_=>?_) λ_=>?_|refine bd (L67x1 _ _ _ ?_ ?_ ?_) λ_ _=>?_|refine ok ?_)
  | split
  | exact True.intro
  | assumption
  | omega
  | exact And.left (by assumption)
  | (dsimp only; omega)
theorem L63x2 (k:Int) (o:Zm) (a:Int) (b:0≤k) (c:k<o.Xk.length) (d:o.Xk.length≤140737488355328):Ok (Z8 (Zex k o a) Zb 0) (λ_=>True):=by
 refine li (k) (λt _ _=>?_) (by omega) (by omega) (by omega)
 unfold Zex
 repeat' first
  | (with_reducible first|refine ni ?_ ?_|refine di ?_|refine brD (λ_=>?_) λ_=>?_|refine brE (λ_=>?_) λ_=>?_|refine bd gr λ_ _=>?_|refine bd wr λ_ _=>?_)
  | exact True.intro
  | omega
theorem L63x1 (o:Zm) (m:Z6) (n:Int) (d:o.Xk.length≤140737488355328):Ok (Z8 (Zew o m n) Zb 0) (λ_=>True):=by
 refine li (o.Xk.length) (λt c e=>?_) (by omega) (by omega) (by omega)
 unfold Zew j71x2
 exact brD (λb=>bd (gr c b) λk f=>nT (Zju _ _) (di trivial) λa=>bd (gr a.1 a.2) λ_ _=>brN (λ_=>di trivial) λ_=>bd (gr a.1 a.2) λ_ _=>bd sm λ_ _=>brN (λ_=>di trivial) λ_=>bd (L63x2 t o k c (by omega) d) λq _=>match q with
  | .inl _=>bd wr λ_ _=>ni (by omega) (by omega)
  | .inr _=>di trivial) λ_=>di trivial
theorem Y2f (m:Z6) (n:Int) (h:V4 m) (c:0≤n) (d:n<m.Z7.length):Ok (Z0p m n) (λ_=>True):=by
 have b:∀ o∈m.Z7,Ok (Z0h o m n) (λ_=>True):=λo a=>by
  unfold Z0h
  exact bd (L63x1 o m n (h.heap o a).ws) λq _=>match q with
   | .inl _=>ok trivial
   | .inr _=>ok trivial
 unfold Z0p
 refine bd (gr c d) λo a=>?_
 have k2:Ok (if (o.Xr==0)=true then (if (o.Xd !=0)=true then some false else Z0h o m n) else Z0h o m n) (λ_=>True):=brE (λ_=>brN (λ_=>ok trivial) λ_=>b o a) λ_=>b o a
 exact brN (λ_=>bd sm λ_ _=>bd (Zju _ _) λ_ _=>br! (λ_=>ok trivial) λ_=>brD (λ_=>ok trivial) λ_=>k2) λ_=>k2
theorem Y2h (m:Z6) (o:Zm) (h:V4 m) (b:Vy m.Y0) (a:Li o):Ok (Z0q m o) (λ_=>True):=by
 have hH:=h.heapL; have hw:=h.sp; have:=b.few; have:=a.val
 unfold Z0q
 repeat' first
  | (with_reducible first|refine brD (λ_=>?_) λ_=>?_|refine br (λ_=>?_) λ_=>?_|refine bd gr λ_ _=>?_|refine bd (Y4q _ _ ?_ ?_ ?_) λ_ _=>?_|refine bd (Zrd _ _ _ ?_ ?_) λ_ _=>?_|refine bs ?_|refine ok ?_)
  | exact True.intro
  | assumption
  | omega
  | exact And.left (by assumption)
  | (dsimp only; omega)
theorem Y29 (t:Q5):Ok (Zhg t) (λ_=>True):=by
 unfold Zhg
 repeat' with_reducible first
  | refine bd sm λ_ _=>?_
  | refine brD (λ_=>?_) λ_=>?_
  | refine ok ?_
  | exact True.intro
theorem Y2b (w:Zq) (t:Q5):Ok (Zhi w t) (λ_=>True):=by
 unfold Zhi
 repeat' with_reducible first
  | unfold j99x1
  | refine brD (λ_=>?_) λ_=>?_
  | refine brE (λ_=>?_) λ_=>?_
  | refine ok ?_
  | exact True.intro
theorem Y2a (t:Q5):Ok (Zhh t) (λ_=>True):=by
 unfold Zhh
 repeat' with_reducible first
  | unfold Zby
  | refine brE (λ_=>?_) λ_=>?_
  | refine ok ?_
  | exact True.intro
theorem L64x1 (e:Q5×Bool) (m:Z6) (o:Zm) (hH:m.Z7.length≤140737488355328) (a:o.Zw.length≤140737488355328):Ok (Z8 (Z4m e m o) Zb 0) (λ_=>True):=by
 refine li (o.Zw.length) (λt _ _=>?_) (by omega) (by omega) (by omega)
 unfold Z4m
 repeat' first
  | (with_reducible first|refine ni ?_ ?_|refine di ?_|refine brD (λ_=>?_) λ_=>?_|refine br! (λ_=>?_) λ_=>?_|refine brN (λ_=>?_) λ_=>?_|refine bd gr λ_ _=>?_|refine bd wr λ_ _=>?_|refine bd (Y2a _) λ_ _=>?_|refine bd (Zbc _ _ ?_) λ_ _=>?_)
  | exact True.intro
  | omega
  | assumption
  | exact And.left (by assumption)
  | (dsimp only; omega)
theorem Y2d (m:Z6) (o:Zm) (h:V4 m) (a:Li o):Ok (Z0o m o) (λ_=>True):=by
 have hH:=h.heapL; have:=a.val
 unfold Z0o
 repeat' first
  | unfold Z86
  | (with_reducible first|refine bd (Y29 _) λ_ _=>?_|refine bd (Y2b _ _) λ_ _=>?_|refine bd (L64x1 _ _ _ ?_ ?_) λ_ _=>?_|refine ok ?_)
  | split
  | assumption
  | omega
  | exact And.left (by assumption)
  | (dsimp only; omega)
theorem Y22 (w:Zq) (l:Int) (s:List UInt8) (hw:Wo w):Ok (Z34 w l s) (λ_=>True):=by
 unfold Z34
 repeat' first
  | (with_reducible first|refine bd (Zsw _ _ _ ?_) λ_ _=>?_|refine ok ?_)
  | assumption
  | omega
  | exact And.left (by assumption)
  | (dsimp only; omega)
theorem Y2k (m:Z6) (o:Zm) (h:V4 m):Ok (Z58 m o) (λ_=>True):=by
 have hw:=h.sp
 unfold Z58
 repeat' first
  | (with_reducible first|refine br (λ_=>?_) λ_=>?_|refine bd (Y22 _ _ _ ?_) λ_ _=>?_|refine ok ?_)
  | assumption
  | omega
  | exact And.left (by assumption)
  | (dsimp only; omega)
theorem Y2g (m:Z6) (n:Int) (h:V4 m) (a:Vy m.Y0) (b:0≤n) (c:n<m.Z7.length):Ok (Uy m n) (λ_=>True):=by
 unfold Uy
 repeat' first
  | (with_reducible first|refine bd (Y2h _ _ h a (h.heap _ (by assumption))) λ_ _=>?_|refine bd (Y2d _ _ h (h.heap _ (by assumption))) λ_ _=>?_|refine br (λ_=>?_) λ_=>?_|refine bd gr λ_ _=>?_|refine bd (Y2f _ _ ?_ ?_ ?_) λ_ _=>?_|refine bd (Y2k _ _ ?_) λ_ _=>?_|refine ok ?_)
  | exact True.intro
  | assumption
  | omega
  | exact And.left (by assumption)
  | (dsimp only; omega)
theorem Y2e (m:Z6) (n:Int) (h:V4 m) (c:Vy m.Y0) (a:0≤n) (b:n<m.Xb.length):Ok (Kf m n) (λ_=>True):=by
 have hH:=h.heapL; have hw:=h.sp
 unfold Kf
 repeat' first
  | unfold Kx
  | (with_reducible first|refine brD (λ_=>?_) λ_=>?_|refine br! (λ_=>?_) λ_=>?_|refine brE (λ_=>?_) λ_=>?_|refine brN (λ_=>?_) λ_=>?_|refine bd gr λ_ _=>?_|refine bd (Zju _ _) λ_ _=>?_|refine bd (Y6q _ _ ?_ ?_) λ_ _=>?_|refine bd (Zrd _ _ _ (by first|assumption|exact h.ini _ (by assumption)) (by first|assumption|exact h.ini _ (by assumption))) λ_ _=>?_|refine ok ?_)
  | exact True.intro
  | assumption
  | omega
  | exact And.left (by assumption)
  | (dsimp only; omega)
theorem L100x1 (l:List Int) (n:Int) (a:l.length≤140737488355328):Ok (Z8 (Zcu l n) Zb 0) (λ_=>True):=by
 refine li (l.length) (λt _ _=>?_) (by omega) (by omega) (by omega)
 unfold Zcu
 repeat' first
  | (with_reducible first|refine ni ?_ ?_|refine di ?_|refine brD (λ_=>?_) λ_=>?_|refine brE (λ_=>?_) λ_=>?_|refine bd gr λ_ _=>?_|refine bd wr λ_ _=>?_)
  | exact True.intro
  | omega
theorem Y2n (l:List Int) (n:Int) (a:l.length≤140737488355328):Ok (Zho l n) (λ_=>True):=by
 unfold Zho
 repeat' first
  | (with_reducible first|refine bd (L100x1 _ _ ?_) λ_ _=>?_|refine ok ?_)
  | split
  | assumption
  | omega
  | exact And.left (by assumption)
  | (dsimp only; omega)
theorem Y2j (m:Z6) (n:Int) (h:V4 m) (a:0≤n) (b:n<m.Y9.length):Ok (Z0r m n) (λ_=>True):=by
 have hH:=h.heapL
 unfold Z0r
 repeat' with_reducible first
  | refine nF (Zjt _ _ (by assumption)) ?_ λ_=>?_
  | unfold Z87
  | unfold Z88
  | refine brD (λ_=>?_) λ_=>?_
  | refine brE (λ_=>?_) λ_=>?_
  | refine bd gr λ_ _=>?_
  | refine bd wr λ_ _=>?_
  | refine bd (Y2n _ _ (by exact(h.heap _ (by assumption)).ws)) λ_ _=>?_
  | refine ok ?_
  | exact True.intro
theorem L83x1 (m:Z6) (x:List Zf) (b:Bool) (hH:m.Z7.length≤140737488355328) (a:x.length≤140737488355328):Ok (Z8 (Z4d m x b) Zb 0) (λ_=>True):=by
 refine li (x.length) (λt _ _=>?_) (by omega) (by omega) (by omega)
 unfold Z4d
 repeat' first
  | (with_reducible first|refine ni ?_ ?_|refine di ?_|refine brD (λ_=>?_) λ_=>?_|refine br! (λ_=>?_) λ_=>?_|refine brE (λ_=>?_) λ_=>?_|refine bd gr λ_ _=>?_|refine bd wr λ_ _=>?_|refine bd (Zbc _ _ ?_) λ_ _=>?_)
  | exact True.intro
  | omega
  | assumption
  | exact And.left (by assumption)
  | (dsimp only; omega)
theorem Y2m (m:Z6) (x:List Zf) (b:Bool) (hH:m.Z7.length≤140737488355328) (a:x.length≤140737488355328):Ok (Mh m x b) (λ_=>True):=by
 unfold Mh
 repeat' first
  | (with_reducible first|refine bd (L83x1 _ _ _ ?_ ?_) λ_ _=>?_|refine ok ?_)
  | split
  | assumption
  | omega
  | exact And.left (by assumption)
  | (dsimp only; omega)
theorem Y2c (m:Z6) (a:Qb) (hH:m.Z7.length≤140737488355328) (b:M9 a):Ok (La m a) (λ_=>True):=by
 have:=b.loc; have:=b.stk
 unfold La
 repeat' first
  | unfold Z89
  | unfold Z8a
  | unfold Z8b
  | (with_reducible first|refine brD (λ_=>?_) λ_=>?_|refine br (λ_=>?_) λ_=>?_|refine bd gr λ_ _=>?_|refine bd (Zbd _ _ ?_) λ_ _=>?_|refine bd (Y2m _ _ _ ?_ ?_) λ_ _=>?_|refine ok ?_)
  | exact True.intro
  | assumption
  | omega
  | exact And.left (by assumption)
  | (dsimp only; omega)
theorem allL {n:Nat} (w:n≤140737488355328) (g:Int→Option Bool) {f:Int→Option (Ctl Int (Unit⊕Bool))} (m:∀ t:Int,0≤t→t<n→Ok (g t) λ_=>True)
  (l:∀ t,f t=if decide (t<(n:Int))=true then ((g t).bind λv=>if (!v)=true then some (.done (.inr false)) else ((some (IntKind.wrap .i64 (t+1))).bind λk=>some (.next k))) else some (.done (.inl ()))):
  Ok (Z8 f Zb 0) (λq=>(q=.inl ()∧∀ t:Int,0≤t→t<n→g t=some true)∨(q=.inr false∧∃ t:Int,0≤t∧t<n∧g t=some false)):=by
 refine lp (λt=>t) n (λt=>∀ j:Int,0≤j→j<t→g j=some true) (λt e d s=>?_) (by omega) (λj h i=>by omega) (by omega) (by omega)
 rw[l]
 refine brD (λa=>?_) λo=>dn (.inl ⟨rfl,λj h i=>e j h (by omega)⟩)
 obtain⟨b,c,_⟩:=m t d a
 rw[c]
 cases b with
 | false=>exact⟨_,rfl,.inr ⟨rfl,t,d,a,c⟩⟩
 | true=>
  refine bs (br! (λh=>by cases h) λ_=>bd wr λk u=>nx (λj p r=>?_) (by omega) (by omega))
  rcases Int.lt_or_le j t with h|h
  ·exact e j p h
  ·rw[show j=t by omega]; exact c
theorem acts_ok (m:Z6) (t:Xu) (hH:m.Z7.length≤140737488355328) (k:∀ a∈t.Yu,M9 a) (n:t.Yu.length≤140737488355328):
  Ok (Lr t m) (λb=>b=true→∀ a∈t.Yu,La m a=some true):=by
 unfold Lr
 refine bd (allL n (λi=>(Z4 t.Yu i).bind (La m)) (λi g j=>bd (gr g j) λa c=>Y2c m a hH (k a c)) λi=>?_) λq hq=>?_
 ·unfold Z4j
  split
  ·rw[Option.bind_assoc]
  ·rfl
 ·rcases hq with ⟨rfl,h⟩|⟨rfl,_⟩
  ·refine ok λ_ a c=>?_
   obtain⟨i,f⟩:=List.getElem?_of_mem c
   have o:i<t.Yu.length:=(List.getElem?_eq_some_iff.1 f).1
   have:=h i (by omega) (by omega)
   obtain⟨p,e,_,d⟩:=gri (l:=t.Yu) (i:=(i:Int)) (by omega) (by omega)
   rw[e] at this
   simp only[Int.toNat_natCast] at d
   rw[f] at d
   cases d
   exact this
  ·exact ok λh=>by cases h
theorem Y2i (m:Z6) (n:Int) (h:V4 m) (j:0≤n) (k:n<m.Y9.length):Ok (Kh m n) (λb=>b=true→∀ t,Z4 m.Y9 n=some t→t.Yu.length≤64∧∀ a∈t.Yu,La m a=some true):=by
 have hH:=h.heapL
 unfold Kh
 refine bdE (gr j k) λt e l=>bd (Y2j m n h j k) λ_ _=>br! (λ_=>ok λh=>by cases h) λ_=>bd (Zbd _ _ hH) λ_ _=>br! (λ_=>ok λh=>by cases h) λ_=>bd (Zbd _ _ hH) λ_ _=>br! (λ_=>ok λh=>by cases h) λ_=>bd (Zbc _ _ hH) λ_ _=>br! (λ_=>ok λh=>by cases h) λ_=>brD (λ_=>ok λh=>by cases h) λp=>?_
 have g:Ok (Lr t m) (λb=>b=true→∀ c,Z4 m.Y9 n=some c→c.Yu.length≤64∧∀ a∈c.Yu,La m a=some true):=
  (acts_ok m t hH (h.thr t l).1 (h.thr t l).2).mono λb o i c f=>by
   rw[e] at f; cases f
   exact⟨by omega,o i⟩
 have d:Ok (some false) (λb=>b=true→∀ c,Z4 m.Y9 n=some c→c.Yu.length≤64∧∀ a∈c.Yu,La m a=some true):=ok λh=>by cases h
 unfold Z83
 exact brE (λ_=>brD (λ_=>d) λ_=>brN (λ_=>brN (λ_=>d) λ_=>br! (λ_=>d) λ_=>g) λ_=>g) λ_=>brN (λ_=>brN (λ_=>d) λ_=>br! (λ_=>d) λ_=>g) λ_=>g
structure Uo (m:Z6):Prop where
 sp:Za5 m.Y0=some true
 vok:Vy m.Y0
 max0:0≤m.Qz
 max1:m.Qz≤5000
 heap:m.Z7.length≤5000
 init:m.Xb.length≤m.Y0.Y6.length
 thr:m.Y9.length≤8
 txt:Mg m=some true
 obj:∀ t,0≤t→t<(m.Z7.length:Int)→Uy m t=some true
 beg:∀ t,0≤t→t<(m.Xb.length:Int)→Kf m t=some true
 run:∀ t,0≤t→t<(m.Y9.length:Int)→Kh m t=some true
theorem valid36 (m:Z6) (h:V4 m):Ok (Z37 m) (λb=>b=true→Uo m):=by
 have c:Ok (some false) (λb=>b=true→Uo m):=ok λh=>by cases h
 unfold Z37
 refine bdE (Y79 m.Y0 h.sp) λb e l=>?_
 cases b with
 | false=>exact c
 | true=>
 have i:=l rfl
 refine br! (λ_=>c) λ_=>brD (λ_=>c) λk1=>brD (λ_=>c) λk2=>brD (λ_=>c) λk3=>brD (λ_=>c) λk4=>brD (λ_=>c) λk5=>bdE (Y2l m h.heapL h.intL) λj k _=>?_
 cases j with
 | false=>exact c
 | true=>
 refine br! (λ_=>c) λ_=>?_
 unfold Zcf
 refine bd (allL h.heapL (Uy m) (λt a b=>(Y2g m t h i a b).mono λ_ _=>trivial) λt=>by unfold Zdv; rfl) λq d=>?_
 rcases d with ⟨rfl,n⟩|⟨rfl,_⟩
 rotate_left
 ·exact c
 refine bd (allL h.iniL (Kf m) (λt a b=>(Y2e m t h i a b).mono λ_ _=>trivial) λt=>by unfold Zdw; rfl) λr f=>?_
 rcases f with ⟨rfl,o⟩|⟨rfl,_⟩
 rotate_left
 ·exact c
 refine bd (allL h.thrL (Kh m) (λt a b=>(Y2i m t h a b).mono λ_ _=>trivial) λt=>by unfold Zdx; rfl) λq3 g=>?_
 rcases g with ⟨rfl,p⟩|⟨rfl,_⟩
 rotate_left
 ·exact c
 exact ok λ_=>⟨e,i,by omega,by omega,by omega,by omega,by omega,k,n,o,p⟩
end Go.Proofs
namespace Go.Den
open Go.RowKit
variable {P:Program} {Γ:Ctx} {σ σ':S} {a:Act} {w:World} {G:Nat→Nat} {β:Nat→Option (Nat×Nat)}
def Zct (σ:S) (c o:Nat) (full:Bool):S:=
 match σ.heap c with
 | some k=>match k.rows with
  | [r] =>match r[o]? with
   | some (.lsl b lo n)=>{ σ with heap:=λu=>if u=c then some { k with rows:=[r.set o (.lsk full b lo n)] } else σ.heap u }
   | _=>σ
  | _=>σ
 | none=>σ
theorem Zh.know {v:Value} {b lo n:Nat} (h:Zh w G β v (.lsl b lo n)):∃ full,Zh w G β v (.lsk full b lo n):=by
 cases h with
 | lslnil _ x=>exact⟨true,.lskn b x⟩
 | lsl _ _ _ cap c sz off g e f d=>
  by_cases i:cap=n
  ·exact⟨true,.lsk true b lo n cap c sz off g e (λ_=>i) (λh=>by cases h) f d⟩
  ·exact⟨false,.lsk false b lo n cap c sz off g e (λh=>by cases h) (λ_=>by omega) f d⟩
theorem Zk.know (h:Zk Γ σ a w G β) {p o:Nat} (hp:∀ k,σ.heap p=some k→k.pure=false):∃ full,Zk Γ (Zct σ p o full) a w G β:=by
 unfold Zct
 cases A:σ.heap p with
 | none=>exact⟨true,h⟩
 | some k=>
  dsimp only
  match B:k.rows with
  | [] =>exact⟨true,h⟩
  | _::_::_=>exact⟨true,h⟩
  | [r] =>
   dsimp only
   match H:r[o]? with
   | some (.lsl b lo n)=>
    dsimp only
    rcases h.heap p k A with ⟨g0,z,J⟩|⟨c,g0,hB⟩
    ·rw[B] at z; cases z
    ·obtain⟨own,pin,ty',frz,top,dat,g,vs,e,fr,E,F,y,q⟩:=hB
     rw[B] at y g q top dat
     obtain⟨v,a1,a2,C⟩:=q 0 o r _ rfl H
     obtain⟨full,D⟩:=C.know
     refine⟨full,{ h with heap:=λu blk l=>?_,dom:=λu x l=>?_ }⟩
     ·dsimp only at l
      split at l
      ·rename_i t; subst t
       cases l
       refine .inr ⟨c,g0,own,pin,ty',frz,by simpa using top,(λm=>?_),(λi I d=>?_),vs,e,fr,E,F,by simpa using y,(λi j I d' d f=>?_)⟩
       ·have:=hp k A
        rw[this] at m; cases m
       ·cases i with
        | zero=>simp at d; subst d; simpa using g 0 r rfl
        | succ i=>simp at d
       ·cases i with
        | zero=>
         simp at d; subst d
         rw[List.getElem?_set] at f
         split at f
         ·rename_i s; subst s
          split at f
          ·cases f
           exact⟨v,a1,a2,D⟩
          ·cases f
         ·exact q 0 j r d' rfl f
        | succ i=>simp at d
      ·exact h.heap u blk l
     ·dsimp only
      split
      ·exact⟨_,rfl⟩
      ·exact h.dom u x l
   | none=>exact⟨true,h⟩
   | some .undef=>exact⟨true,h⟩
   | some (.bool _)=>exact⟨true,h⟩
   | some (.int _ _)=>exact⟨true,h⟩
   | some (.str _)=>exact⟨true,h⟩
   | some (.sl _ _)=>exact⟨true,h⟩
   | some (.agg _)=>exact⟨true,h⟩
   | some (.ptr _)=>exact⟨true,h⟩
   | some .nilptr=>exact⟨true,h⟩
   | some (.lptr _ _ _)=>exact⟨true,h⟩
   | some (.tup _)=>exact⟨true,h⟩
   | some (.fn _)=>exact⟨true,h⟩
   | some (.clo _ _)=>exact⟨true,h⟩
   | some (.lsk _ _ _ _)=>exact⟨true,h⟩
   | some (.raw _)=>exact⟨true,h⟩
def Zb6 (P:Program) (fn:Func) (m:Nat) (keep:List Bool) (R:D→List Blk→Prop):Exit→S→Prop:=λe σ=>∃ r bs',R r bs'∧Z12 P fn m keep r bs' e σ
theorem K3.mk {f:FuncId} {fn:Func} {c:Code} {ds:List D} {bs:List Blk} {R:D→List Blk→Prop} (m:Nat) (keep:List Bool) (s:P.funcs[f]?=some fn) (q:fn.body=some c) (g:L5 P f=true) (z:ds.length≤fn.ntmps)
  (h:∀ Γ:Ctx,DWP P Γ c (Zb6 P fn m keep R) (mkS fn.ntmps (Vv 0 ds) (We 0 bs))):K3 P f ds bs R:=by
 refine⟨g,λΓ vs w G β d=>?_⟩
 have hsz:vs.size=ds.length:=d.size
 have o:Zk Γ (mkS fn.ntmps (Vv 0 ds) (We 0 bs)) { tmps:=vs++Array.replicate (fn.ntmps - vs.size) Go.undef,defers:=[] } w G β:=by
  refine { d with size:=?_,tmps:=λt=>?_,defers:=rfl }
  ·simp only[Array.size_append,Array.size_replicate,mkS]; omega
  ·show Zh w G _ _ (ofL (Vv 0 ds) t)
   rcases Nat.lt_or_ge t vs.size with l|A
   ·have:=d.tmps t
    have j:(vs++Array.replicate (fn.ntmps - vs.size) Go.undef).getD t Go.undef=vs.getD t Go.undef:=by
     rw[Array.getD_eq_getD_getElem?,Array.getElem?_append_left l,Array.getD_eq_getD_getElem?]
    rw[j]; exact this
   ·rw[Z5l,if_pos (Nat.zero_le _),Nat.sub_zero]
    have i:ds.getD t .undef=.undef:=by simp[List.getD,List.getElem?_eq_none (show ds.length≤t by omega)]
    rw[i]; exact .undef _
 refine calls_of_wp s q (wp_mono (h Γ _ w G _ o) λe y w' ⟨σ',G',β',b,r,bs',n,he,u,bs1,p,x,hp,k⟩=>?_)
 subst k
 obtain⟨v,G2,β2,i,j⟩:=Zus b u x hp
 rcases he with rfl|rfl
 ·exact⟨b.defers,v,i,v,G2,β2,r,bs1,n,rfl,j⟩
 ·exact⟨b.defers,v,i,v,G2,β2,r,bs1,n,rfl,j⟩
theorem Y5h (ds:List D):Lw [] 0 ds=ds:=by
 have:∀ (l:List D) (j:Nat),Lw [] j l=l:=λl=>by
  induction l with
  | nil=>intro j; rfl
  | cons d r ih=>intro j; unfold Lw; rw[ih]; rfl
 exact this ds 0
namespace W
theorem kn {Q:Exit→S→Prop} {ev:Ev} (d o:Nat) (h:∀ full,E P Γ Q (Zct σ d o full) ev) (f:((σ.heap d).map Blk.pure,isJ ev)=(some false,true):=by kernel_rfl):E P Γ Q σ ev:=by
 have g:=congrArg Prod.fst f
 have j:=congrArg Prod.snd f
 dsimp only at g j
 have hp:∀ k,σ.heap d=some k→k.pure=false:=λk f=>by rw[f] at g; simpa using g
 have key:∀ {c:Code} {K:List Xz},(∀ full,At P Γ c K Q (Zct σ d o full))→At P Γ c K Q σ:=λl a w G β m=>by
  obtain⟨full,i⟩:=m.know (o:=o) hp
  exact l full a w G β i
 cases ev with
 | cond b x y K=>exact⟨⟨λe=>key λfull=>(h full).h.1 e,λe=>key λfull=>(h full).h.2 e⟩⟩
 | loop c K=>exact⟨key (c:= .loop c) λfull=>(h full).h⟩
 | stop c K=>exact⟨key λfull=>(h full).h⟩
 | _=>cases j
theorem csR {f:FuncId} (fn:Func) {m:Nat} {keep:List Bool} {ds:List D} {bs:List Blk} {R:D→List Blk→Prop} (h:∀ {Γ:Ctx},A P Γ (Ur fn) [] (Zb6 P fn m keep R) (mkS fn.ntmps (Vv 0 ds) (We 0 bs)))
  (b:(P.funcs[f]?,fn.body,L5 P f,Nat.ble ds.length fn.ntmps)=(some fn,some (Ur fn),true,true):=by kernel_rfl):K3 P f ds bs R:=by
 have c:=congrArg Prod.fst b
 have d:=congrArg (λx=>x.2.1) b
 have e:=congrArg (λx=>x.2.2.1) b
 have g:=congrArg (λx=>x.2.2.2) b
 exact K3.mk m keep c d e (Nat.le_of_ble_eq_true g) λ_=>h.h
theorem rtR {fn:Func} {m:Nat} {keep:List Bool} {ev:Ev} {R:D→List Blk→Prop} (d:D) (bs bs':List Blk) {p:Prop} (hp:p) (h:R d bs)
  (b:(fin ev,Je (List.range m),Z5r P fn m keep σ,bs')=(true,true,some (d,bs',tN fn.results.size∧p),bs):=by kernel_rfl):E P Γ (Zb6 P fn m keep R) σ ev:=by
 have f:=congrArg Prod.fst b
 have c:=congrArg (λx=>x.2.1) b
 have e:=congrArg (λx=>x.2.2.1) b
 have g:=congrArg (λx=>x.2.2.2) b
 dsimp only at f c e g
 subst g
 cases ev <;> first|cases f|skip
 ·exact⟨⟨d,_,h,.inl rfl,c,_,_,e,⟨tNi _,hp⟩,rfl⟩⟩
 ·exact⟨⟨d,_,h,.inr rfl,c,_,_,e,⟨tNi _,hp⟩,rfl⟩⟩
def Zjz (ops:Array Oper) (i:Nat):Option (Operand×Array Operand):=
 match ops[i]? with
 | some o=>match o.guard,o.op with
  | none,.call { callee:= .value fo,args,.. }=>some (fo,args)
  | _,_=>none
 | none=>none
def Zbk (ops:Array Oper) (i:Nat):Option Nat:=(ops[i]?).bind (·.dst)
def clS (σ:S) (names:List Nat) (l0:List Nat) (dst:Option Nat) (bs':List Blk) (r:D):S:=
 (((σ.freezeL l0).dropL (Me 0 names bs')).setL names (Jm (σ.freezeL l0) names 0 names bs')).put dst (outD names r)
theorem pcR {ops:Array Oper} {i:Nat} {l:List Nat} {K:List Xz} {Q:Exit→S→Prop} {fo:Operand} {args:Array Operand} {f:FuncId} {es ds:List D} {bs:List Blk} {R:D→List Blk→Prop} {p:Prop} {l0:List Nat} (names:List Nat)
  (H:K3 P f ds bs R) (hp:p) (hsz:∀ r bs',R r bs'→Km bs bs'=true) (L:∀ r bs',R r bs'→AO P Γ ops l K Q (clS σ names l0 (Zbk ops i) bs' r))
  (d:(Zjz ops i,funA (σ.ev fo),Uj false σ names (args.toList.map σ.ev++es),L8 (σ.freezeL l0) names (λ_ j=>Z20 bs j) 0 names,(ops[i]?).map (Xx σ),Je names,bs.all λb=>Nat.beq b.frz 0)=
   (some (fo,args),some (f,es),some (ds,l0,p),some bs,some true,true,true):=by kernel_rfl):AO P Γ ops (i::l) K Q σ:=by
 have c:=congrArg Prod.fst d
 have y:=congrArg (λx=>x.2.1) d
 have z:=congrArg (λx=>x.2.2.1) d
 have A:=congrArg (λx=>x.2.2.2.1) d
 have n:=congrArg (λx=>x.2.2.2.2.1) d
 have B:=congrArg (λx=>x.2.2.2.2.2.1) d
 have C:=congrArg (λx=>x.2.2.2.2.2.2) d
 dsimp only at c y z A n B C
 refine⟨λa w G β E=>?_⟩
 unfold Zjz at c
 split at c
 ·rename_i o t
  split at c
  ·rename_i fo' args' ts J v
   cases c
   rw[t] at n
   have g:Xx σ o=true:=by simpa using n
   have s:Zbk ops i=o.dst:=by unfold Zbk; rw[t]; rfl
   obtain⟨vs,e,u,m⟩:=Zt3 (P:=P) E v y
   rw[wpOps_cons]
   unfold wpOp
   rw[t]
   have hw:Region.wanted o (yielded ops a.tmps)=true:=by unfold Region.wanted; rw[J]
   dsimp only
   rw[hw]
   refine .inl (Zrr (fresh:=[]) (nils:=[]) E e u m rfl (by rw[Y5h]; exact z) hp A g B hsz (λk b I=>?_) H _ _ λr bs' F w' G' β' M q=>?_)
   ·exact Nat.eq_of_beq_eq_true (List.all_eq_true.1 C b (List.mem_of_getElem? I))
   ·exact(L r bs' M).h F w' G' β' (by rw[s]; exact q)
  ·cases c
 ·cases c
end W
end Go.Den
