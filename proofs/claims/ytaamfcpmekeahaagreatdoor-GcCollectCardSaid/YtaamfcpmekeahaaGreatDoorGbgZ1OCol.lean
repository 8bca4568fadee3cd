/-
  A row of a block that holds a block of the call's own for a while. No condition.
-/
import Derived.Test.YtaamfcpmekeahaaGreatDoorGbgG
import Derived.Test.YtaamfcpmekeahaaGreatDoorDenOwn
import Derived.Test.YtaamfcpmekeahaaGreatDoorGbgD
import Derived.Test.YtaamfcpmekeahaaGreatDoorGbg11
import Derived.Test.YtaamfcpmekeahaaGreatDoorGbgX
import Derived.Test.YtaamfcpmekeahaaGreatDoorGbg12
import Derived.Test.YtaamfcpmekeahaaGreatDoorGbgK
set_option linter.unusedVariables false
set_option linter.unusedSimpArgs false
namespace Go.Den
namespace W
open Go.RowKit
variable {P:Program} {Γ:Ctx} {σ:S}
theorem un {c:Code} {K:List Xz} {Q:Exit→S→Prop} (b:Nat) (h:A P Γ c K Q (unS σ b)):A P Γ c K Q σ:=by
 unfold unS at h
 split at h
 ·rename_i blk l
  refine⟨λa w G β k=>h.h a w G β (k.refine l blk.rows rfl (λc vs e fr s hw i q f=>⟨?_,λj d' g r d v n m _ _ p=>?_⟩) false (λh=>by cases h))⟩
  ·rcases k.heap b blk l with ⟨_,o,_⟩|⟨c',_,hB⟩
   ·rw[o] at f; simp at f
   ·exact hB.hsz i q f
  ·rw[f] at n; cases n
   rw[g] at m; cases m
   exact p
 ·exact h
theorem frw {α:Type} [R:Row α] {l:List α} {k:Nat} {x:α} (y:α) (J:l[k]?=some x) (b j:Nat) (ls:List Nat) {d0 d' d'':D} (F:List D) {p:Prop} (hp:p) (he:d'=d'') {c:Code} {K:List Xz} {Q:Exit→S→Prop}
  (h:A P Γ c K Q (frS σ b ((l.set k y).map R.row) ls)) (M:F[j]?=some d0:=by kernel_rfl) (N:F.set j d''=R.row y:=by kernel_rfl) (u:∀ x,(R.row x).all D.dat=true:=by intro x; kernel_rfl)
  (V:((σ.freezeL ls).heap b).map (·.rows)=some ((l.map R.row).set k (F)):=by kernel_rfl) (L:Ww σ d0=some (d',ls,p):=by kernel_rfl):A P Γ c K Q σ:=by
 subst he
 unfold frS at h
 obtain⟨blk,s,H⟩:=Option.map_eq_some_iff.1 V
 rw[s] at h
 dsimp only at h
 refine⟨λa w G β T=>?_⟩
 obtain⟨G',I,W,O⟩:=Zk.freezeL ls T
 rw[← Z6e (Z6f ls σ)] at L
 have conv:∀ v,Zh w G' β v d0→Zh w G' β v d'∧d'.dat=true:=λv E=>Z6r I E L hp (λb s=>Zbr ls (O b s))
 refine h.h a w G' β (I.refine s ((l.set k y).map R.row) (by rw[H]; simp) (λc vs e fr X hw i Y f=>⟨?_,λt d1 g r d v n m _ _ E=>?_⟩) true (λ_ i t r d f g=>?_))
 ·rw[List.getElem?_map] at f
  obtain⟨z,_,rfl⟩:=Option.map_eq_some_iff.1 f
  rcases I.heap b blk s with ⟨_,q,_⟩|⟨c',_,hB⟩
  ·rw[H] at q
   have:=congrArg List.length q
   simp at this
   subst this
   cases J
  ·have q:=hB.hsz k (F) (by rw[H,List.getElem?_set_self (by rw[List.length_map]; exact(List.getElem?_eq_some_iff.1 J).1)])
   have C:F.length=(R.row y).length:=by rw[← N,List.length_set]
   rw[C,R.hs] at q
   rw[R.hs]; exact q
 ·rw[H,List.getElem?_set] at n
  rw[List.getElem?_map,List.getElem?_set] at f
  split at n
  ·rename_i o
   subst o
   have B:k<l.length:=(List.getElem?_eq_some_iff.1 J).1
   rw[if_pos (by rw[List.length_map]; exact B)] at n
   rw[if_pos rfl,if_pos B] at f
   cases n
   simp only[Option.map_some] at f
   cases f
   rw[← N] at g
   rw[List.getElem?_set] at g
   have U:=(List.getElem?_eq_some_iff.1 M).1
   split at g
   ·rename_i e
    subst e
    rw[M] at m
    cases g; cases m
    exact(conv v E).1
   ·rw[g] at m
    cases m
    exact E
  ·rename_i o
   rw[if_neg (λe=>o e)] at f
   rw[List.getElem?_map] at n
   rw[n] at f
   cases f
   rw[g] at m
   cases m
   exact E
 ·rw[List.getElem?_map] at f
  obtain⟨z,_,rfl⟩:=Option.map_eq_some_iff.1 f
  exact List.all_eq_true.1 (u z) d (List.mem_of_getElem? g)
end W
end Go.Den
namespace Go.Proofs
open IntKind (wrap)
open Tryz
open Go.Den Go.Den.W
def R18 (a:Z6×(List Int)×Int):D:= .tup [.agg (Zr a.1),slF Z5 a.2.1,.int .i64 a.2.2]
def Z7n (t0:Int×(List Zm)) (g:(List Int)) (a:Zm) (f:List Zf):Option (Ctl (Int×(List Zm)) (List Zm)):= (Z4 g t0.1).bind λc=> (some (wrap .i64 (c - 1))).bind λd=> (X7 d t0.2.length).bind λb=> (t0.2[b]?).bind λh=> (some (wrap .i64 (t0.1+1))).bind λe=> some (.next (e,(t0.2.set b (Zm.mk a.Zj a.Zt f a.Yx a.Xr a.Xd a.Xk))))
def j18x1 (t0:Int×(List Zm)) (e:(List Int)) (a:Zm) (b:Nat):Option (Ctl (Int×(List Zm)) (List Zm)):= (X7 1 ((([]:List Zf)++a.Zw).set b (Zf.mk 3 0)).length).bind λc=> (((([]:List Zf)++a.Zw).set b (Zf.mk 3 0))[c]?).bind λd=> (Z7n t0 e a) (((([]:List Zf)++a.Zw).set b (Zf.mk 3 0)).set c (Zf.mk d.Zj 1))
def Z8m (c:(List Int)) (t0:Int×(List Zm)):Option (Ctl (Int×(List Zm)) (List Zm)):= if decide (t0.1<(c.length:Int)) then (Z4 c t0.1).bind λd=> (some (wrap .i64 (d - 1))).bind λe=> (X7 e t0.2.length).bind λf=> (t0.2[f]?).bind λa=> (Yp 16 (([]:List Zf)++a.Zw).length).bind λi=> (X7 0 (([]:List Zf)++a.Zw).length).bind λb=> ((([]:List Zf)++a.Zw)[b]?).bind λj=> if decide ((((([]:List Zf)++a.Zw).set b (Zf.mk 3 0)).length:Int)>1) then (X7 1 ((([]:List Zf)++a.Zw).set b (Zf.mk 3 0)).length).bind λg=> (((([]:List Zf)++a.Zw).set b (Zf.mk 3 0))[g]?).bind λh=> if h.Zj==1 then (j18x1 t0 c a b) else (Z7n t0 c a) ((([]:List Zf)++a.Zw).set b (Zf.mk 3 0)) else (Z7n t0 c a) ((([]:List Zf)++a.Zw).set b (Zf.mk 3 0)) else some (.done (t0.2))
def Z8n (e:(List Int)) (t1:Int×(List Zm)):Option (Ctl (Int×(List Zm)) (List Zm)):= if decide (t1.1<(e.length:Int)) then (Z4 e t1.1).bind λb=> (some (wrap .i64 (b - 1))).bind λc=> (X7 c t1.2.length).bind λa=> (t1.2[a]?).bind λf=> (some (wrap .i64 (t1.1+1))).bind λd=> some (.next (d,(t1.2.set a (Zm.mk 0 (Q5.mk 0 0 0) [] [] 0 0 [])))) else some (.done (t1.2))
def Zht (a:Z6) (c:Bool):Option (Z6×(List Int)×Int):= (Zae a c).bind λb=> (Zad a c).bind λe=> (Yp 112 (([]:List Zm)++a.Z7).length).bind λf=> (Z8 (Z8m e) Zb (0,(([]:List Zm)++a.Z7))).bind λq0=> (Z8 (Z8n b) Zb (0,q0)).bind λd=> some ((Z6.mk a.Y0 a.Qz d a.Xb a.X1 a.Y9 a.Qo),b,0)
def Ziy (b c:(List Int)) (a:Z6):(Int×(List Zm))→SL:= λt0=>⟨91,[(4,.lptr 4 0 0),(7,slF Z5 b),(8,slF Z5 c),(9,.lptr 9 0 0),(10,dI t0.1)],[(4,Zc 10 [M7]),(9,Zc 10 [[slF Yy a.Y0.X3,slF Xg a.Y0.Y6,slF Qa a.Y0.Yr,slF Qi a.Y0.Q3,dI a.Qz,.lsl 20 0 ((t0.2.map Ya).length),slF Q0 a.Xb,slF Qk a.X1,slF X9 a.Y9,slF Xy a.Qo]]),(20,Zd 9 (t0.2.map Ya))]⟩
def J18x1 (b:(List Int)) (a:Z6):JT (List Zm):= je 0 λq0:(List Zm)=>⟨91,[(4,.lptr 4 0 0),(7,slF Z5 b),(9,.lptr 9 0 0)],[(4,Zc 10 [M7]),(9,Zc 10 [[slF Yy a.Y0.X3,slF Xg a.Y0.Y6,slF Qa a.Y0.Yr,slF Qi a.Y0.Q3,dI a.Qz,.lsl 20 0 ((q0.map Ya).length),slF Q0 a.Xb,slF Qk a.X1,slF X9 a.Y9,slF Xy a.Qo]]),(20,Zd 9 (q0.map Ya))]⟩
theorem Zpw (l:(List Int)) (e:Z6) {t0 m c d r Γ} (h:(Z7n t0 m c) d=some r):Jn prog f18 Γ (Rd (Ziy l m e) (J18x1 l e) r) 127583 ⟨91,[(4,.lptr 4 0 0),(7,slF Z5 l),(8,slF Z5 m),(9,.lptr 9 0 0),(10,dI t0.1),(11,.lptr 11 0 0)],[(4,Zc 10 [M7]),(9,Zc 10 [[slF Yy e.Y0.X3,slF Xg e.Y0.Y6,slF Qa e.Y0.Yr,slF Qi e.Y0.Q3,dI e.Qz,.lsl 20 0 ((t0.2.map Ya).length),slF Q0 e.Xb,slF Qk e.X1,slF X9 e.Y9,slF Xy e.Qo]]),(11,Zc 9 [[dI c.Zj,dI c.Zt.Xl,d8 c.Zt.Yw,dI c.Zt.Zy,.lsl 40 0 ((d.map Y8).length),.str c.Yx,dI c.Xr,dI c.Xd,slF Z5 c.Xk]]),(20,Zd 9 (t0.2.map Ya)),(40,Zd 2 (d.map Y8))]⟩:= so<|un 20<|bd h λq g h=>bd h λs i h=>bd h λo j h=>bd h λp f h=>go [7] [rgx 13 [(4,ix g),(6,n i),(8,ia 20 j),(9,Zj1 f 0 [dI c.Zj,dI c.Zt.Xl,d8 c.Zt.Yw,dI c.Zt.Zy,.lsl 40 0 ((d.map Y8).length),.str c.Yx,dI c.Xr,dI c.Xd,slF Z5 c.Xk])] [9]]<|so<|frw (Zm.mk c.Zj c.Zt d c.Yx c.Xr c.Xd c.Xk) f 20 4 [40] (d0:= .lsl 40 0 ((d.map Y8).length)) (Qu (Ya p) 0 [dI c.Zj,dI c.Zt.Xl,d8 c.Zt.Yw,dI c.Zt.Zy,.lsl 40 0 ((d.map Y8).length),.str c.Yx,dI c.Xr,dI c.Xd,slF Z5 c.Xk]) (lenV (a:=d.map Y8) (b:=d.map Y8) rfl) (takV (a:=d.map Y8) (b:=d.map Y8) rfl)<|ceq 9 5 (congrArg (D.lsl 20 0) (by simp only[List.length_map,List.length_set]:(t0.2.map Ya).length=((t0.2.set o (Zm.mk c.Zj c.Zt d c.Yx c.Xr c.Xd c.Xk)).map Ya).length))<|bd h λt k h=>Z0 7 [(1,n k)]<|nx h
theorem wj18x1 (e:(List Int)) (b:Z6) {t0 g a c r Γ} (h:(j18x1 t0 g a c)=some r):Jn prog f18 Γ (Rd (Ziy e g b) (J18x1 e b) r) 356959 ⟨91,[(4,.lptr 4 0 0),(7,slF Z5 e),(8,slF Z5 g),(9,.lptr 9 0 0),(10,dI t0.1),(11,.lptr 11 0 0)],[(4,Zc 10 [M7]),(9,Zc 10 [[slF Yy b.Y0.X3,slF Xg b.Y0.Y6,slF Qa b.Y0.Yr,slF Qi b.Y0.Q3,dI b.Qz,.lsl 20 0 ((t0.2.map Ya).length),slF Q0 b.Xb,slF Qk b.X1,slF X9 b.Y9,slF Xy b.Qo]]),(11,Zc 9 [[dI a.Zj,dI a.Zt.Xl,d8 a.Zt.Yw,dI a.Zt.Zy,.lsl 40 0 ((((([]:List Zf)++a.Zw).set c (Zf.mk 3 0)).map Y8).length),.str a.Yx,dI a.Xr,dI a.Xd,slF Z5 a.Xk]]),(20,Zd 9 (t0.2.map Ya)),(40,Zd 2 (((([]:List Zf)++a.Zw).set c (Zf.mk 3 0)).map Y8))]⟩:= so<|bd h λf i h=>bd h λd j h=>go [13] [rg 12 [(2,ia 40 i),(4,st j 1 [dI 1] (Zf.mk d.Zj 1))]]<|nm (congrArg (λnn:Nat=>(⟨91,[(4,.lptr 4 0 0),(7,slF Z5 e),(8,slF Z5 g),(9,.lptr 9 0 0),(10,dI t0.1),(11,.lptr 11 0 0)],[(4,Zc 10 [M7]),(9,Zc 10 [[slF Yy b.Y0.X3,slF Xg b.Y0.Y6,slF Qa b.Y0.Yr,slF Qi b.Y0.Q3,dI b.Qz,.lsl 20 0 ((t0.2.map Ya).length),slF Q0 b.Xb,slF Qk b.X1,slF X9 b.Y9,slF Xy b.Qo]]),(11,Zc 9 [[dI a.Zj,dI a.Zt.Xl,d8 a.Zt.Yw,dI a.Zt.Zy,.lsl 40 0 nn,.str a.Yx,dI a.Xr,dI a.Xd,slF Z5 a.Xk]]),(20,Zd 9 (t0.2.map Ya)),(40,Zd 2 ((((([]:List Zf)++a.Zw).set c (Zf.mk 3 0)).set f (Zf.mk d.Zj 1)).map Y8))]⟩:SL)) (by simp only[List.length_map,List.length_set]:(((([]:List Zf)++a.Zw).set c (Zf.mk 3 0)).map Y8).length=((((([]:List Zf)++a.Zw).set c (Zf.mk 3 0)).set f (Zf.mk d.Zj 1)).map Y8).length))<|jn ((Zpw e b) h)
theorem wl18x1 (d:(List Int)) (b:Z6) {e t0 r Γ} (h:(Z8m e) t0=some r):A prog Γ (lpC f18 351) [] (Rd (Ziy d e b) (J18x1 d b) r) ((Ziy d e b) t0).s:= Z0 6 [(2,ln e)]<|br h (λt h=>bd h λv f h=>bd h λw g h=>bd h λx i h=>bd h λa j h=>bd h λy k h=>bd h λc l h=>bd h λz m h=>go [11] [rgx 8 [(4,ix f),(6,n g),(7,ia 20 i),(8,lb j)] [10],rg 9 [(0,bl 0 2),(3,ap k)],rg 10 [(3,ia 40 l),(4,st m 0 [dI 3,dI 0] (Zf.mk 3 0))]]<|nm (congrArg (λnn:Nat=>(⟨91,[(4,.lptr 4 0 0),(7,slF Z5 d),(8,slF Z5 e),(9,.lptr 9 0 0),(10,dI t0.1),(11,.lptr 11 0 0)],[(4,Zc 10 [M7]),(9,Zc 10 [[slF Yy b.Y0.X3,slF Xg b.Y0.Y6,slF Qa b.Y0.Yr,slF Qi b.Y0.Q3,dI b.Qz,.lsl 20 0 ((t0.2.map Ya).length),slF Q0 b.Xb,slF Qk b.X1,slF X9 b.Y9,slF Xy b.Qo]]),(11,Zc 9 [[dI a.Zj,dI a.Zt.Xl,d8 a.Zt.Yw,dI a.Zt.Zy,.lsl 40 0 nn,.str a.Yx,dI a.Xr,dI a.Xd,slF Z5 a.Xk]]),(20,Zd 9 (t0.2.map Ya)),(40,Zd 2 (((([]:List Zf)++a.Zw).set c (Zf.mk 3 0)).map Y8))]⟩:SL)) (by simp only[List.length_map,List.length_set]:((([]:List Zf)++a.Zw).map Y8).length=(((([]:List Zf)++a.Zw).set c (Zf.mk 3 0)).map Y8).length))<|so<|sp h (λq h=>bd h λB o h=>bd h λC p h=>Z0 11 [(2,ln ((([]:List Zf)++a.Zw).set c (Zf.mk 3 0))),(3,kb q),(7,ia 40 o),(9,lb p)]<|br h (λu h=>go [12] []<|jn ((wj18x1 d b) h)) λu h=> go [13] []<|jn ((Zpw d b) h)) λq h=> Z0 11 [(2,ln ((([]:List Zf)++a.Zw).set c (Zf.mk 3 0))),(3,kb q)]<|bF rfl<|go [13] []<|jn ((Zpw d b) h)) λt h=> Z2<|dn h (iE)
def Zww (b:(List Int)) (a:Z6):(Int×(List Zm))→SL:= λt1=>⟨91,[(4,.lptr 4 0 0),(7,slF Z5 b),(9,.lptr 9 0 0),(12,dI t1.1)],[(4,Zc 10 [M7]),(9,Zc 10 [[slF Yy a.Y0.X3,slF Xg a.Y0.Y6,slF Qa a.Y0.Yr,slF Qi a.Y0.Q3,dI a.Qz,.lsl 20 0 ((t1.2.map Ya).length),slF Q0 a.Xb,slF Qk a.X1,slF X9 a.Y9,slF Xy a.Qo]]),(20,Zd 9 (t1.2.map Ya))]⟩
def J18x2 (c:(List Int)) (a:Z6):JT (List Zm):= je 2 λb:(List Zm)=>⟨91,[(4,.lptr 4 0 0),(7,slF Z5 c),(9,.lptr 9 0 0)],[(4,Zc 10 [M7]),(9,Zc 10 [[slF Yy a.Y0.X3,slF Xg a.Y0.Y6,slF Qa a.Y0.Yr,slF Qi a.Y0.Q3,dI a.Qz,.lsl 20 0 ((b.map Ya).length),slF Q0 a.Xb,slF Qk a.X1,slF X9 a.Y9,slF Xy a.Qo]]),(20,Zd 9 (b.map Ya))]⟩
abbrev Zq7:List D:=[dI 0,dI 0,d8 0,dI 0,Zp Y8,.str [],dI 0,dI 0,Zp Z5]
theorem wl18x2 (a:Z6) {b t1 r Γ} (h:(Z8n b) t1=some r):A prog Γ (lpC f18 703) [] (Rd (Zww b a) (J18x2 b a) r) ((Zww b a) t1).s:= Z0 15 [(2,ln b)]<|br h (λk h=>bd h λl e h=>bd h λm f h=>bd h λd g h=>bd h λj c h=>go [16] [rgx 17 [(4,ix e),(6,n f),(8,ia 20 g),(9,Zj1 c 0 Zq7)] [9]]<|nm (congrArg (λnn:Nat=>(⟨91,[(4,.lptr 4 0 0),(7,slF Z5 b),(9,.lptr 9 0 0),(12,dI t1.1)],[(4,Zc 10 [M7]),(9,Zc 10 [[slF Yy a.Y0.X3,slF Xg a.Y0.Y6,slF Qa a.Y0.Yr,slF Qi a.Y0.Q3,dI a.Qz,.lsl 20 0 nn,slF Q0 a.Xb,slF Qk a.X1,slF X9 a.Y9,slF Xy a.Qo]]),(20,Zd 9 ((t1.2.map Ya).set d (Qu (Ya j) 0 Zq7)))]⟩:SL)) (by simp only[List.length_map,List.length_set]:(t1.2.map Ya).length=((t1.2.set d (Zm.mk 0 (Q5.mk 0 0 0) [] [] 0 0 [])).map Ya).length))<|so<|loo (Zm.mk 0 (Q5.mk 0 0 0) [] [] 0 0 []) c 20 (cs:=Zq7)<|bd h λo i h=>Z0 16 [(1,n i)]<|nx h) λk h=> Z2<|dn h (iE)
theorem w18 {a f r} (h:Zht a f=some r):Zi prog 18 [.agg (Zr a),.bool f] (R18 r):= cs f18<|bd h λe g h=>bd h λl i h=>bd h λm j h=>go [] [rg 0 [(0,bo)],rg 1 [(2,k (w16 g))],rg 2 [(2,k (w14 i))],rg 4 [(0,bl 0 9),(3,ap j)]]<|bd h λq0 b h=>lp b (wl18x1 e a)<|qe<|goN [] []<|bd h λd c h=>lp c (wl18x2 a)<|qe<|goN [] []<|rtB h (.tup [.agg [slF Yy a.Y0.X3,slF Xg a.Y0.Y6,slF Qa a.Y0.Yr,slF Qi a.Y0.Q3,dI a.Qz,rw_ d,slF Q0 a.Xb,slF Qk a.X1,slF X9 a.Y9,slF Xy a.Qo],slF Z5 e,dI 0]) (a2 (a2 trivial (a2 trivial (a2 trivial (a2 trivial (a2 trivial (a2 (rpI d) (a2 trivial (a2 trivial (a2 trivial (a2 trivial trivial)))))))))) (a2 trivial (a2 trivial trivial))) (by simp only[rwE] <;> kernel_rfl)
end Go.Proofs
namespace Go.Proofs
open Tryz
open Go.Den Go.Den.W
def R4 (a:Bool):D:= .bool a
def Ztn (c:Z6) (d:Bool):Option (Bool):= (Z0l c).bind λe=> if !e then (Lu).bind λf=> some f else (Mj c d).bind λa=> (Zht c d).bind λb=> (Zaa a.1 b.1).bind λg=> if g then (Z0s a.2.1 b.2.1).bind λh=> if h then if a.2.2==b.2.2 then (Lu).bind λi=> some i else some false else some false else some false
theorem w4 {d e r} (h:Ztn d e=some r):Zi prog 4 [.agg (Zr d),.bool e] (R4 r):= cs f4<|bd h λp f h=>go [] [rg 0 [(0,bo)],rg 1 [(1,k (w8 f))]]<|br h (λo h=>bd h λq g h=>Z0 2 [(0,k (w9 g))]<|rt h) λo h=> bd h λs i h=>bd h λt j h=>go [5] [rg 3 [(2,k (w17 i))],rg 4 [(2,k (w18 j))]]<|po<|bd h λu l h=>pr 4 [(2,k (w19 l))]<|sp h (λa h=>bd h λv m h=>pr 5 (gC a 4 2 [(6,gw a (k (w12 m))),(7,py a)])<|sp h (λb h=>pr 5 (gC b 9 3 [(12,py b)])<|sp h (λc h=>bd h λw n h=>pr 3 [(14,gw c (k (w9 n))),(15,py c)]<|Zo h) λc h=> pr 3 [(14,gs1 c),(15,pn c)]<|Zo h) λb h=> pr 8 (gB b 9 3 [(12,pn b)])<|Zo h) λa h=> pr 13 (gB a 4 3 [(7,pn a)])<|Zo h
end Go.Proofs
namespace Go.Proofs
open Go.Den Go.Tot
section
variable {m:Z6} {l:List Int} (h:Lv m l) (s:Bool)
include h
end
theorem stepR {ns:List Int} {t:Int×List Zm} {n:Int} {o:Zm} (q:ns.length≤5001) (hH:t.2.length≤5001) (c:0≤t.1) (d:t.1<ns.length) (en:Z4 ns t.1=some n) (i:1≤n) (j:n≤t.2.length) (f:t.2[(n - 1).toNat]?=some o) (hq:ClQ o):
  Z8m ns t=some (.next (t.1+1,t.2.set (n - 1).toNat (Ue o))):=by
 obtain⟨k,p⟩:=hq
 unfold Z8m j18x1 Z7n
 rw[if_pos (by simpa using d),en]
 simp only[Option.bind_some]
 rw[J5 (n:=n - 1) (by omega) (by omega),Vd i j,wrS c (by omega)]
 simp only[Option.bind_some]
 have e:Yp 16 o.Zw.length=some ():=Zrx p
 rw[f]
 simp only[Option.bind_some,List.nil_append,e]
 unfold Ue
 cases g:o.Zw with
 | nil=>exact absurd g k
 | cons v r=>
  cases r with
  | nil=>rfl
  | cons w r=>
   have b:decide (((((v::w::r).set 0 ({ Zj:=3,f_N:=0 }:Zf)).length:Nat):Int)>1)=true:=by simp; omega
   rw[show X7 0 (v::w::r).length=some 0 by unfold X7; rw[if_pos (by simp; omega)]; rfl]
   simp only[Option.bind_some,List.getElem?_cons_zero]
   rw[if_pos b,show X7 1 ((v::w::r).set 0 ({ Zj:=3,f_N:=0 }:Zf)).length=some 1 by unfold X7; rw[if_pos (by simp; omega)]; rfl]
   simp only[List.set_cons_zero,List.getElem?_cons_succ,List.getElem?_cons_zero,Option.bind_some,List.set_cons_succ]
   rw[show Jd (v::w::r)=Z1z::Z0a w::r from rfl]
   unfold Z0a
   by_cases a:w.Zj=1
   ·rw[if_pos (by simpa using a),if_pos a]; rfl
   ·rw[if_neg (by simpa using a),if_neg a]; rfl
theorem stepR2 {ns:List Int} {t:Int×List Zm} {n:Int} {o:Zm} (f:ns.length≤5001) (hH:t.2.length≤5001) (a:0≤t.1) (b:t.1<ns.length) (en:Z4 ns t.1=some n) (d:1≤n) (e:n≤t.2.length) (c:t.2[(n - 1).toNat]?=some o):
  Z8n ns t=some (.next (t.1+1,t.2.set (n - 1).toNat Ko)):=by
 unfold Z8n
 rw[if_pos (by simpa using b),en,Option.bind_some,J5 (n:=n - 1) (by omega) (by omega),Option.bind_some,Vd d e,Option.bind_some,c,Option.bind_some,wrS a (by omega)]; rfl
section
variable {m:Z6} {l:List Int} (h:Lv m l) (hw:V4 m) (s:Bool)
include h hw
theorem Lv.colR (e:M2 m=some l):Zht m s=some (Qe m l s,Wb m l s,0):=by
 have a:=h.mg.len
 have lu:(Wb m l s).length≤m.Z7.length:=Mk _ _
 have lc:(Ud m l s).length≤m.Z7.length:=Mk _ _
 unfold Zht
 rw [h.unrR s e,Option.bind_some,h.clrR s e,Option.bind_some,Zrw a,Option.bind_some,List.nil_append,
  Zis (g:=Ue) (Q:=ClQ) (by omega) (λn b=>Zk3 b) (λn b=>Zru hw s b) (λo hq=>hq.clr) (λt n o d f en i j k c hq=>stepR (by omega) (by omega) d f en i j c hq) (λt p=>by unfold Z8m; rw[if_neg (by simp; omega)]),Option.bind_some,
  Zis (g:=λ_=>Ko) (Q:=λ_=>True) (by omega) (λn b=>by rw[Z5s]; exact Zps b) (λn b o c=>trivial) (λo hq=>trivial) (λt n o d f en i j k c hq=>stepR2 (by omega) (by rw[k,Z5s]; exact a) d f en i j c) (λt p=>by unfold Z8n; rw[if_neg (by simp; omega)]),Option.bind_some,Zk5]
 rfl
end
end Go.Proofs
namespace Go.Proofs
open Go.Den Go.Tot
theorem Y4x (m:Z6) (h:V4 m) (s:Bool):Ztn m s=some true:=by
 refine Z99 h λf=>?_
 have a:=Uo.mg h f
 obtain⟨l,e,d,b⟩:=a.lv
 have c:=a.len
 have g:(Wb m l s).length≤m.Z7.length:=Mk _ _
 rw[b.colP h s e,b.colR h s d,Z5z]
 simp only[Option.bind_some]
 rw[Zsm _ (Zk6 l s h),Zkr _ (by omega)]; rfl
end Go.Proofs
