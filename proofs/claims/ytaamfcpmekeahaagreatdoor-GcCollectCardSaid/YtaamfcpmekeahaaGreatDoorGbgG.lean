/-
  A row of a block that holds a block of the call's own for a while. No condition.
-/
import Derived.Test.YtaamfcpmekeahaaGreatDoorDenOwn
import Derived.Test.YtaamfcpmekeahaaGreatDoorGbgD
import Derived.Test.YtaamfcpmekeahaaGreatDoorGbg9
set_option linter.unusedVariables false
set_option linter.unusedSimpArgs false
namespace Go.Den
namespace W
open Go.RowKit
variable {P:Program} {Γ:Ctx} {σ:S}
def unS (σ:S) (b:Nat):S:=match σ.heap b with
 | some blk=>σ.setB b (some { blk with rows:=blk.rows,pure:=false })
 | none=>σ
theorem unO {ops:Array Oper} {l:List Nat} {K:List Xz} {Q:Exit→S→Prop} (b:Nat) (h:AO P Γ ops l K Q (unS σ b)):AO P Γ ops l K Q σ:=by
 unfold unS at h
 split at h
 ·rename_i blk m
  refine⟨λa w G β k=>h.h a w G β (k.refine m blk.rows rfl (λc vs e fr t hw i s f=>⟨?_,λj d' g r d v o n _ _ q=>?_⟩) false (λh=>by cases h))⟩
  ·rcases k.heap b blk m with ⟨_,p,_⟩|⟨c',_,hB⟩
   ·rw[p] at f; simp at f
   ·exact hB.hsz i s f
  ·rw[f] at o; cases o
   rw[g] at n; cases n
   exact q
 ·exact h
def Zj1 {α:Type} [R:Row α] {l:List α} {j:Nat} {x:α} (h:l[j]?=some x) (off:Nat) (cs:List D) (a:Nat.ble (off+cs.length) (R.row x).length=true:=by kernel_rfl):GT:=
 GT.of { row:=some (R.row x),rows:=some ((l.map R.row).set j (Qu (R.row x) off cs)) }
  (p:=0≤j∧(l.map R.row)[j]?=some (R.row x)∧off+cs.length≤(R.row x).length∧(l.map R.row).set j (Qu (R.row x) off cs)=(l.map R.row).set j (Qu (R.row x) off cs))
  ⟨Nat.zero_le _,Mc _ h,Nat.le_of_ble_eq_true a,rfl⟩
def Z9b {rows:List (List D)} {j:Nat} {x r:List D} (h:rows[j]?=some x):GT:=GT.of { ans:= .row r } (p:=(rows.set j r)[j]?=some r) (by
 rw[List.getElem?_set_self (List.getElem?_eq_some_iff.1 h).1])
def frS (σ:S) (b:Nat) (rows:List (List D)) (ls:List Nat):S:=match (σ.freezeL ls).heap b with
 | some blk=>(σ.freezeL ls).setB b (some { blk with rows:=rows,pure:=true })
 | none=>σ
theorem frz {α:Type} [R:Row α] {l:List α} {k:Nat} {x:α} (y:α) (L:l[k]?=some x) (b j:Nat) (ls:List Nat) {d0 d' d'':D} {p:Prop} (hp:p) (he:d'=d'') {c:Code} {K:List Xz} {Q:Exit→S→Prop}
  (h:A P Γ c K Q (frS σ b ((l.set k y).map R.row) ls)) (U:Nat.ble (j+1) (R.row x).length=true:=by kernel_rfl) (W:Qu (R.row x) j [d'']=R.row y:=by kernel_rfl) (B:∀ x,(R.row x).all D.dat=true:=by intro x; kernel_rfl)
  (T:((σ.freezeL ls).heap b).map (·.rows)=some ((l.map R.row).set k (Qu (R.row x) j [d0])):=by kernel_rfl) (M:Ww σ d0=some (d',ls,p):=by kernel_rfl):A P Γ c K Q σ:=by
 subst he
 unfold frS at h
 obtain⟨blk,u,H⟩:=Option.map_eq_some_iff.1 T
 rw[u] at h
 dsimp only at h
 have V:=Nat.le_of_ble_eq_true U
 refine⟨λa w G β O=>?_⟩
 obtain⟨G',I,X,N⟩:=Zk.freezeL ls O
 rw[← Z6e (Z6f ls σ)] at M
 have conv:∀ v,Zh w G' β v d0→Zh w G' β v d'∧d'.dat=true:=λv F=>Z6r I F M hp (λb u=>Zbr ls (N b u))
 refine h.h a w G' β (I.refine u ((l.set k y).map R.row) (by rw[H]; simp) (λc vs e fr Y hw i Z f=>⟨?_,λt d1 g r d v n m _ _ F=>?_⟩) true (λ_ i t r d f g=>?_))
 ·rw[List.getElem?_map] at f
  obtain⟨z,_,rfl⟩:=Option.map_eq_some_iff.1 f
  rcases I.heap b blk u with ⟨_,s,_⟩|⟨c',_,hB⟩
  ·rw[H] at s
   have:=congrArg List.length s
   simp at this
   subst this
   cases L
  ·have s:=hB.hsz k (Qu (R.row x) j [d0]) (by rw[H,List.getElem?_set_self (by rw[List.length_map]; exact(List.getElem?_eq_some_iff.1 L).1)])
   have E:(Qu (R.row x) j [d0]).length=(R.row x).length:=by unfold Qu; simp; omega
   rw[E,R.hs] at s
   rw[R.hs]; exact s
 ·rw[H,List.getElem?_set] at n
  rw[List.getElem?_map,List.getElem?_set] at f
  split at n
  ·rename_i q
   subst q
   have C:k<l.length:=(List.getElem?_eq_some_iff.1 L).1
   rw[if_pos (by rw[List.length_map]; exact C)] at n
   rw[if_pos rfl,if_pos C] at f
   cases n
   simp only[Option.map_some] at f
   cases f
   rw[← W] at g
   have J:∀ (e:D) (i:Nat),(Qu (R.row x) j [e])[i]?=if i=j then some e else (R.row x)[i]? :=λe i=>by
    unfold Qu
    rw[List.append_assoc,List.getElem?_append]
    simp only[List.length_take,Nat.min_eq_left (show j≤(R.row x).length by omega)]
    by_cases o:i<j
    ·rw[if_pos o,if_neg (by omega),List.getElem?_take_of_lt o]
    ·rw[if_neg o]
     by_cases he:i=j
     ·subst he; rw[if_pos rfl]; simp
     ·rw[if_neg he]
      rw[show i - j=(i - j - 1)+1 by omega]
      simp only[List.cons_append,List.nil_append,List.getElem?_cons_succ,List.length_cons,List.length_nil]
      rw[List.getElem?_drop]
      congr 1; omega
   rw[J] at g m
   split at g
   ·rename_i e
    rw[if_pos e] at m
    cases g; cases m
    exact(conv v F).1
   ·rename_i e
    rw[if_neg e] at m
    rw[g] at m
    cases m
    exact F
  ·rename_i q
   rw[if_neg (λe=>q e)] at f
   rw[List.getElem?_map] at n
   rw[n] at f
   cases f
   rw[g] at m
   cases m
   exact F
 ·rw[List.getElem?_map] at f
  obtain⟨z,_,rfl⟩:=Option.map_eq_some_iff.1 f
  exact List.all_eq_true.1 (B z) d (List.mem_of_getElem? g)
def lo:D→D
 | .sl _ r=> .sl false r
 | d=>d
theorem Zh.lo {w:World} {G:Nat→Nat} {β:Nat→Option (Nat×Nat)} {v:Value} {d:D} (h:Zh w G β v d):Zh w G β v (W.lo d):=by
 cases h with
 | slnil c x=>exact .slnil false x
 | sl c b off n cap sz rows val m o a f g i j k l=>exact .sl false b off n cap sz rows val m (λe=>by cases e) a f g i j k l
 | _=>first|exact h|(constructor <;> assumption)
def loS (σ:S) (b:Nat) (rows:List (List D)):S:=match σ.heap b with
 | some blk=>σ.setB b (some { blk with rows:=rows,pure:=true })
 | none=>σ
theorem loo {α:Type} [R:Row α] {l:List α} {k:Nat} {x:α} (y:α) (F:l[k]?=some x) (b:Nat) {cs:List D} {c:Code} {K:List Xz} {Q:Exit→S→Prop}
  (h:A P Γ c K Q (loS σ b ((l.set k y).map R.row))) (H:(Qu (R.row x) 0 cs).map lo=R.row y:=by kernel_rfl) (q:∀ x,(R.row x).all D.dat=true:=by intro x; kernel_rfl)
  (I:(σ.heap b).map (·.rows)=some ((l.map R.row).set k (Qu (R.row x) 0 cs)):=by kernel_rfl):A P Γ c K Q σ:=by
 unfold loS at h
 obtain⟨blk,B,u⟩:=Option.map_eq_some_iff.1 I
 rw[B] at h
 dsimp only at h
 have p:k<l.length:=(List.getElem?_eq_some_iff.1 F).1
 refine⟨λa w G β C=>?_⟩
 refine h.h a w G β (C.refine B ((l.set k y).map R.row) (by rw[u]; simp) (λc vs e fr J hw i L f=>⟨?_,λt d1 j r d v g n _ _ E=>?_⟩) true (λ_ i t r d f j=>?_))
 ·rw[List.getElem?_map] at f
  obtain⟨z,_,rfl⟩:=Option.map_eq_some_iff.1 f
  rcases C.heap b blk B with ⟨_,s,_⟩|⟨c',_,hB⟩
  ·rw[u] at s
   have:=congrArg List.length s
   simp at this
   subst this
   cases F
  ·have s:=hB.hsz k (Qu (R.row x) 0 cs) (by rw[u,List.getElem?_set_self (by rw[List.length_map]; exact p)])
   have m:=congrArg List.length H
   rw[List.length_map,R.hs] at m
   rw[R.hs,← m]; exact s
 ·rw[u,List.getElem?_set] at g
  rw[List.getElem?_map,List.getElem?_set] at f
  split at g
  ·rename_i o
   subst o
   rw[if_pos (by rw[List.length_map]; exact p)] at g
   rw[if_pos rfl,if_pos p] at f
   cases g
   simp only[Option.map_some] at f
   cases f
   rw[← H,List.getElem?_map,n] at j
   cases j
   exact Zh.lo E
  ·rename_i o
   rw[if_neg (λe=>o e)] at f
   rw[List.getElem?_map] at g
   rw[g] at f
   cases f
   rw[j] at n
   cases n
   exact E
 ·rw[List.getElem?_map] at f
  obtain⟨z,_,rfl⟩:=Option.map_eq_some_iff.1 f
  exact List.all_eq_true.1 (q z) d (List.mem_of_getElem? j)
def ceS (σ:S) (b j:Nat) (d:D):S:=match σ.heap b with
 | some blk=>match blk.rows with
  | [cs] =>σ.setB b (some { blk with rows:=[cs.set j d],pure:=false })
  | _=>σ
 | none=>σ
def ceD (σ:S) (b j:Nat):Option D:=match σ.heap b with
 | some blk=>match blk.rows with
  | [cs] =>cs[j]?
  | _=>none
 | none=>none
theorem ceq {c:Code} {K:List Xz} {Q:Exit→S→Prop} (b j:Nat) {d d':D} (he:d=d') (h:A P Γ c K Q (ceS σ b j d')) (g:ceD σ b j=some d:=by kernel_rfl):A P Γ c K Q σ:=by
 subst he
 unfold ceD at g
 unfold ceS at h
 split at g
 rotate_left
 ·cases g
 rename_i blk m
 split at g
 rotate_left
 ·cases g
 rename_i cs q
 rw[m] at h
 dsimp only at h
 rw[q] at h
 dsimp only at h
 have l:cs.set j d=cs:=by
  apply List.ext_getElem?
  intro i
  rw[List.getElem?_set]
  split
  ·rename_i e
   subst e
   rw[if_pos (List.getElem?_eq_some_iff.1 g).1,g]
  ·rfl
 rw[l] at h
 refine⟨λa w G β o=>?_⟩
 rw[← q] at h
 refine h.h a w G β (o.refine m blk.rows rfl (λc vs e fr x hw i u f=>⟨?_,λj d' n r d v k p _ _ t=>?_⟩) false (λh=>by cases h))
 ·rcases o.heap b blk m with ⟨_,s,_⟩|⟨c',_,hB⟩
  ·rw[s] at f; simp at f
  ·exact hB.hsz i u f
 ·rw[f] at k; cases k
  rw[n] at p; cases p
  exact t
end W
end Go.Den
namespace Go.Proofs
open IntKind (wrap)
open Tryz
open Go.Den Go.Den.W
theorem lenV {a b:List (List D)} (h:a.length=b.length):0+a.length≤b.length:=by omega
theorem takV {a b:List (List D)} (h:a.length=b.length):D.sl false ((b.drop 0).take a.length)=.sl false b:=by rw[List.drop_zero,h,List.take_length]
def R17 (a:Z6×(List Int)×Int):D:= .tup [.agg (Zr a.1),slF Z5 a.2.1,.int .i64 a.2.2]
def Z8k (h:(List Int)) (t0:Int×(List Zm)):Option (Ctl (Int×(List Zm)) (((List Zm)))):=
 if (decide (t0.1<(h.length:Int)))=true then
  ((Z4 h t0.1).bind λi=>
  (some (wrap .i64 (i - (1:Int)))).bind λj=>
  (X7 j t0.2.length).bind λg=>
  (t0.2[g]?).bind λa=>
  (Znt a.Zw).bind λc=>
  (X7 0 c.length).bind λf=>
  (c[f]?).bind λk=>
  if (decide ((c.length:Int)>1))=true then ((X7 1 c.length).bind λd=>
   ((c.set f ({ Zj:=3,f_N:=0 }:Zf))[d]?).bind λe=>
   if (e.Zj==1)=true then ((some (wrap .i64 (t0.1+(1:Int)))).bind λb=>
   some (.next (b,(t0.2.set g ({ Zj:=a.Zj,Zt:=a.Zt,Zw:=((c.set f ({ Zj:=3,f_N:=0 }:Zf)).set d ({ Zj:=e.Zj,f_N:=1 }:Zf)),Yx:=a.Yx,Xr:=a.Xr,Xd:=a.Xd,Xk:=a.Xk }:Zm))))) else
   ((some (wrap .i64 (t0.1+(1:Int)))).bind λb=>
   some (.next (b,(t0.2.set g ({ Zj:=a.Zj,Zt:=a.Zt,Zw:=(c.set f ({ Zj:=3,f_N:=0 }:Zf)),Yx:=a.Yx,Xr:=a.Xr,Xd:=a.Xd,Xk:=a.Xk }:Zm)))))) else
  ((some (wrap .i64 (t0.1+(1:Int)))).bind λb=>
   some (.next (b,(t0.2.set g ({ Zj:=a.Zj,Zt:=a.Zt,Zw:=(c.set f ({ Zj:=3,f_N:=0 }:Zf)),Yx:=a.Yx,Xr:=a.Xr,Xd:=a.Xd,Xk:=a.Xk }:Zm)))))) else
 (some (.done (t0.2)))
def Z8l (e:(List Int)) (t1:Int×(List Zm)):Option (Ctl (Int×(List Zm)) (((List Zm)))):=
 if (decide (t1.1<(e.length:Int)))=true then
  ((Z4 e t1.1).bind λb=>
  (some (wrap .i64 (b - (1:Int)))).bind λc=>
  (X7 c t1.2.length).bind λa=>
  (t1.2[a]?).bind λf=>
  (some (wrap .i64 (t1.1+(1:Int)))).bind λd=>
  some (.next (d,(t1.2.set a ({ Zj:=0,Zt:=({ Xl:=0,Yw:=0,Zy:=0 }:Q5),Zw:=([]:List Zf),Yx:=[],Xr:=0,Xd:=0,Xk:=([]:List Int) }:Zm))))) else
 (some (.done (t1.2)))
def Mj (a:Z6) (c:Bool):Option (Z6×(List Int)×Int):=
 (Z3a a c).bind λb=>
 (Zns a.Z7).bind λe=>
 (Z39 a c).bind λf=>
 (Z8 (Z8k f) Zb (0,e)).bind λq0=>
 (Z8 (Z8l b) Zb (0,q0)).bind λd=>
 some (({ Y0:=a.Y0,Qz:=a.Qz,Z7:=d,Xb:=a.Xb,X1:=a.X1,Y9:=a.Y9,Qo:=a.Qo }:Z6),b,0)
def Zwt (c:(List Int)) (b:(List Int)) (a:Z6):(Int×(List Zm))→SL:=
 λt0=>⟨87,[(4,.lptr 4 0 0),(7,slF Z5 c),(8,.lptr 8 0 0),(24,slF Z5 b),(25,dI (b.length:Int)),(26,dI t0.1)],[(4,Zc 10 [[Zp Yy,Zp Xg,Zp Qa,Zp Qi,dI 0,Zp Ya,Zp Q0,Zp Qk,Zp X9,Zp Xy]]),(8,Zc 10 [[slF Yy a.Y0.X3,slF Xg a.Y0.Y6,slF Qa a.Y0.Yr,slF Qi a.Y0.Q3,dI a.Qz,.lsl 20 0 ((t0.2.map Ya).length),slF Q0 a.Xb,slF Qk a.X1,slF X9 a.Y9,slF Xy a.Qo]]),(20,Zd 9 (t0.2.map Ya))]⟩
def J17x1 (b:(List Int)) (a:Z6):JT (((List Zm))):=
 je 0 λq0:(List Zm)=>⟨87,[(4,.lptr 4 0 0),(7,slF Z5 b),(8,.lptr 8 0 0)],[(4,Zc 10 [[Zp Yy,Zp Xg,Zp Qa,Zp Qi,dI 0,Zp Ya,Zp Q0,Zp Qk,Zp X9,Zp Xy]]),(8,Zc 10 [[slF Yy a.Y0.X3,slF Xg a.Y0.Y6,slF Qa a.Y0.Yr,slF Qi a.Y0.Q3,dI a.Qz,.lsl 20 0 ((q0.map Ya).length),slF Q0 a.Xb,slF Qk a.X1,slF X9 a.Y9,slF Xy a.Qo]]),(20,Zd 9 (q0.map Ya))]⟩
def Zwu (b:(List Int)) (a:Z6):(Int×(List Zm))→SL:=
 λt1=>⟨87,[(4,.lptr 4 0 0),(7,slF Z5 b),(8,.lptr 8 0 0),(72,slF Z5 b),(73,dI (b.length:Int)),(74,dI t1.1)],[(4,Zc 10 [[Zp Yy,Zp Xg,Zp Qa,Zp Qi,dI 0,Zp Ya,Zp Q0,Zp Qk,Zp X9,Zp Xy]]),(8,Zc 10 [[slF Yy a.Y0.X3,slF Xg a.Y0.Y6,slF Qa a.Y0.Yr,slF Qi a.Y0.Q3,dI a.Qz,.lsl 20 0 ((t1.2.map Ya).length),slF Q0 a.Xb,slF Qk a.X1,slF X9 a.Y9,slF Xy a.Qo]]),(20,Zd 9 (t1.2.map Ya))]⟩
def J17x2 (c:(List Int)) (a:Z6):JT (((List Zm))):=
 je 2 λb:(List Zm)=>⟨87,[(4,.lptr 4 0 0),(7,slF Z5 c),(8,.lptr 8 0 0)],[(4,Zc 10 [[Zp Yy,Zp Xg,Zp Qa,Zp Qi,dI 0,Zp Ya,Zp Q0,Zp Qk,Zp X9,Zp Xy]]),(8,Zc 10 [[slF Yy a.Y0.X3,slF Xg a.Y0.Y6,slF Qa a.Y0.Yr,slF Qi a.Y0.Q3,dI a.Qz,.lsl 20 0 ((b.map Ya).length),slF Q0 a.Xb,slF Qk a.X1,slF X9 a.Y9,slF Xy a.Qo]]),(20,Zd 9 (b.map Ya))]⟩
theorem wl17x1 (p:(List Int)) (u:Z6) {q t0 r Γ} (h:(Z8k q) t0=some r):A prog Γ (lpC f17 175) [] (Rd (Zwt p q u) (J17x1 p u) r) ((Zwt p q u) t0).s:=
 Z2<|br h (λC h=>bd h λF v h=>bd h λG w h=>bd h λt x h=>bd h λc i h=>bd h λd y h=>bd h λe z h=>bd h λH B h=>go [8] [rg 6 [(0,ix v)],rg 7 [(3,n w),(4,ia 20 x)]]<|po<|pr 6 [(4,lb i),(5,ko [40] (w34 y) (fresh:=[(40,2)]))]<|unO 20<|pr 3 [(8,Zj1 i 4 [.lsl 40 0 ((d.map Y8).length)])]<|pe<|goN [10] [rg 9 [(3,Z9b (r:=(Qu (Ya c) 4 [.lsl 40 0 ((d.map Y8).length)])) (Mc Ya i)),(5,ia 40 z),(6,st B 0 [dI 3,dI 0] ({ Zj:=3,f_N:=0 }:Zf))]]<|so<|sp h (λo h=>bd h λj k h=>bd h λg l h=>Z0 10 [(3,Z9b (r:=(Qu (Ya c) 4 [.lsl 40 0 ((d.map Y8).length)])) (Mc Ya i)),(4,ln d),(5,kb o),(10,Z9b (r:=(Qu (Ya c) 4 [.lsl 40 0 ((d.map Y8).length)])) (Mc Ya i)),(11,ia 40 k),(13,lb l)]<|br h (λE h=>go [12] [rg 11 [(3,Z9b (r:=(Qu (Ya c) 4 [.lsl 40 0 ((d.map Y8).length)])) (Mc Ya i)),(4,ia 40 k),(6,st l 1 [dI 1] ({ Zj:=g.Zj,f_N:=1 }:Zf))]]<|so<|frz ({ Zj:=c.Zj,Zt:=c.Zt,Zw:=((d.set e ({ Zj:=3,f_N:=0 }:Zf)).set j ({ Zj:=g.Zj,f_N:=1 }:Zf)),Yx:=c.Yx,Xr:=c.Xr,Xd:=c.Xd,Xk:=c.Xk }:Zm) i 20 4 [40] (d0:= .lsl 40 0 ((d.map Y8).length)) (lenV (a:=d.map Y8) (b:=((d.set e ({ Zj:=3,f_N:=0 }:Zf)).set j ({ Zj:=g.Zj,f_N:=1 }:Zf)).map Y8) (by simp only[List.length_map,List.length_set])) (takV (a:=d.map Y8) (b:=((d.set e ({ Zj:=3,f_N:=0 }:Zf)).set j ({ Zj:=g.Zj,f_N:=1 }:Zf)).map Y8) (by simp only[List.length_map,List.length_set]))<|ceq 8 5 (congrArg (D.lsl 20 0) (by simp only[List.length_map,List.length_set]:(t0.2.map Ya).length=((t0.2.set t ({ Zj:=c.Zj,Zt:=c.Zt,Zw:=((d.set e ({ Zj:=3,f_N:=0 }:Zf)).set j ({ Zj:=g.Zj,f_N:=1 }:Zf)),Yx:=c.Yx,Xr:=c.Xr,Xd:=c.Xd,Xk:=c.Xk }:Zm)).map Ya).length))<|bd h λm f h=>Z0 12 [(0,n f)]<|nx h) λE h=>
  go [12] []<|so<|frz ({ Zj:=c.Zj,Zt:=c.Zt,Zw:=(d.set e ({ Zj:=3,f_N:=0 }:Zf)),Yx:=c.Yx,Xr:=c.Xr,Xd:=c.Xd,Xk:=c.Xk }:Zm) i 20 4 [40] (d0:= .lsl 40 0 ((d.map Y8).length)) (lenV (a:=d.map Y8) (b:=(d.set e ({ Zj:=3,f_N:=0 }:Zf)).map Y8) (by simp only[List.length_map,List.length_set])) (takV (a:=d.map Y8) (b:=(d.set e ({ Zj:=3,f_N:=0 }:Zf)).map Y8) (by simp only[List.length_map,List.length_set]))<|ceq 8 5 (congrArg (D.lsl 20 0) (by simp only[List.length_map,List.length_set]:(t0.2.map Ya).length=((t0.2.set t ({ Zj:=c.Zj,Zt:=c.Zt,Zw:=(d.set e ({ Zj:=3,f_N:=0 }:Zf)),Yx:=c.Yx,Xr:=c.Xr,Xd:=c.Xd,Xk:=c.Xk }:Zm)).map Ya).length))<|bd h λm f h=>Z0 12 [(0,n f)]<|nx h) λo h=>
  Z0 10 [(3,Z9b (r:=(Qu (Ya c) 4 [.lsl 40 0 ((d.map Y8).length)])) (Mc Ya i)),(4,ln d),(5,kb o)]<|bF rfl<|go [12] []<|so<|frz ({ Zj:=c.Zj,Zt:=c.Zt,Zw:=(d.set e ({ Zj:=3,f_N:=0 }:Zf)),Yx:=c.Yx,Xr:=c.Xr,Xd:=c.Xd,Xk:=c.Xk }:Zm) i 20 4 [40] (d0:= .lsl 40 0 ((d.map Y8).length)) (lenV (a:=d.map Y8) (b:=(d.set e ({ Zj:=3,f_N:=0 }:Zf)).map Y8) (by simp only[List.length_map,List.length_set])) (takV (a:=d.map Y8) (b:=(d.set e ({ Zj:=3,f_N:=0 }:Zf)).map Y8) (by simp only[List.length_map,List.length_set]))<|ceq 8 5 (congrArg (D.lsl 20 0) (by simp only[List.length_map,List.length_set]:(t0.2.map Ya).length=((t0.2.set t ({ Zj:=c.Zj,Zt:=c.Zt,Zw:=(d.set e ({ Zj:=3,f_N:=0 }:Zf)),Yx:=c.Yx,Xr:=c.Xr,Xd:=c.Xd,Xk:=c.Xk }:Zm)).map Ya).length))<|bd h λm f h=>Z0 12 [(0,n f)]<|nx h) λC h=>
 Z2<|dn h (iE)
theorem wl17x2 (a:Z6) {b t1 r Γ} (h:(Z8l b) t1=some r):A prog Γ (lpC f17 351) [] (Rd (Zwu b a) (J17x2 b a) r) ((Zwu b a) t1).s:=
 Z2<|br h (λk h=>bd h λl e h=>bd h λm f h=>bd h λd g h=>bd h λj c h=>go [17] [rg 15 [(0,ix e)],rg 16 [(3,n f),(5,ia 20 g),(6,Zj1 c 0 [dI 0,dI 0,d8 0,dI 0,Zp Y8,.str [],dI 0,dI 0,Zp Z5])]]<|nm (congrArg (λnn:Nat=>(⟨87,[(4,.lptr 4 0 0),(7,slF Z5 b),(8,.lptr 8 0 0),(72,slF Z5 b),(73,dI (b.length:Int)),(74,dI t1.1)],[(4,Zc 10 [[Zp Yy,Zp Xg,Zp Qa,Zp Qi,dI 0,Zp Ya,Zp Q0,Zp Qk,Zp X9,Zp Xy]]),(8,Zc 10 [[slF Yy a.Y0.X3,slF Xg a.Y0.Y6,slF Qa a.Y0.Yr,slF Qi a.Y0.Q3,dI a.Qz,.lsl 20 0 nn,slF Q0 a.Xb,slF Qk a.X1,slF X9 a.Y9,slF Xy a.Qo]]),(20,Zd 9 ((t1.2.map Ya).set d (Qu (Ya j) 0 [dI 0,dI 0,d8 0,dI 0,Zp Y8,.str [],dI 0,dI 0,Zp Z5])))]⟩:SL)) (by simp only[List.length_map,List.length_set]:(t1.2.map Ya).length=((t1.2.set d ({ Zj:=0,Zt:=({ Xl:=0,Yw:=0,Zy:=0 }:Q5),Zw:=([]:List Zf),Yx:=[],Xr:=0,Xd:=0,Xk:=([]:List Int) }:Zm)).map Ya).length))<|so<|loo ({ Zj:=0,Zt:=({ Xl:=0,Yw:=0,Zy:=0 }:Q5),Zw:=([]:List Zf),Yx:=[],Xr:=0,Xd:=0,Xk:=([]:List Int) }:Zm) c 20 (cs:=[dI 0,dI 0,d8 0,dI 0,Zp Y8,.str [],dI 0,dI 0,Zp Z5])<|bd h λo i h=>Z0 17 [(0,n i)]<|nx h) λk h=>
 Z2<|dn h (iE)
theorem w17 {a f r} (h:Mj a f=some r):Zi prog 17 [.agg (Zr a),.bool f] (R17 r):=
 cs f17<|bd h λd g h=>bd h λm i h=>bd h λl j h=>go [] [rg 0 [(0,bo)],rg 1 [(2,k (w15 g))],rg 3 [(2,ko [20] (w33 i) (fresh:=[(20,9)]))],rg 4 [(2,k (w13 j)),(3,ln l)]]<|bd h λq0 b h=>lp b (wl17x1 d a)<|qe<|goN [] [rg 13 [(1,ln d)]]<|bd h λe c h=>lp c (wl17x2 a)<|qe<|goN [] []<|rtB h (.tup [.agg [slF Yy a.Y0.X3,slF Xg a.Y0.Y6,slF Qa a.Y0.Yr,slF Qi a.Y0.Q3,dI a.Qz,rw_ e,slF Q0 a.Xb,slF Qk a.X1,slF X9 a.Y9,slF Xy a.Qo],slF Z5 d,dI 0]) (a2 (a2 trivial (a2 trivial (a2 trivial (a2 trivial (a2 trivial (a2 (rpI e) (a2 trivial (a2 trivial (a2 trivial (a2 trivial trivial)))))))))) (a2 trivial (a2 trivial trivial))) (by simp only[rwE] <;> kernel_rfl)
end Go.Proofs
