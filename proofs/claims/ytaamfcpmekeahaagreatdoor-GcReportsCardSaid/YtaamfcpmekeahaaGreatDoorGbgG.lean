/-
  A row of a block that holds a block of the call's own for a while. No condition.
-/
import Derived.Test.YtaamfcpmekeahaaGreatDoorDenOwn
import Derived.Test.YtaamfcpmekeahaaGreatDoorGbgD
import Derived.Test.YtaamfcpmekeahaaGreatDoorGbg9
set_option linter.unusedVariables false
set_option linter.unusedSimpArgs false
namespace Go.Den
namespace W
open Go.RowKit
variable {P:Program} {Γ:Ctx} {σ:S}
def unS (σ:S) (b:Nat):S:=match σ.heap b with
 | some blk=>σ.setB b (some { blk with rows:=blk.rows,pure:=false })
 | none=>σ
theorem unO {ops:Array Oper} {l:List Nat} {K:List Q0} {Q:Exit→S→Prop} (b:Nat) (h:AO P Γ ops l K Q (unS σ b)):AO P Γ ops l K Q σ:=by
 unfold unS at h
 split at h
 ·rename_i blk k
  refine⟨λa w G β m=>h.h a w G β (m.refine k blk.rows rfl (λc vs e fr t hw i p f=>⟨?_,λj d' g r d v n o _ _ q=>?_⟩) false (λh=>by cases h))⟩
  ·rcases m.heap b blk k with ⟨_,s,_⟩|⟨c',_,hB⟩
   ·rw[s] at f; simp at f
   ·exact hB.hsz i p f
  ·rw[f] at n; cases n
   rw[g] at o; cases o
   exact q
 ·exact h
def Zjg {α:Type} [R:Row α] {l:List α} {j:Nat} {x:α} (h:l[j]?=some x) (off:Nat) (cs:List D) (a:Nat.ble (off+cs.length) (R.row x).length=true:=by kernel_rfl):GT:=
 GT.of { row:=some (R.row x),rows:=some ((l.map R.row).set j (Qu (R.row x) off cs)) }
  (p:=0≤j∧(l.map R.row)[j]?=some (R.row x)∧off+cs.length≤(R.row x).length∧(l.map R.row).set j (Qu (R.row x) off cs)=(l.map R.row).set j (Qu (R.row x) off cs))
  ⟨Nat.zero_le _,Md _ h,Nat.le_of_ble_eq_true a,rfl⟩
def Za3 {rows:List (List D)} {j:Nat} {x r:List D} (h:rows[j]?=some x):GT:=GT.of { ans:= .row r } (p:=(rows.set j r)[j]?=some r) (by
 rw[List.getElem?_set_self (List.getElem?_eq_some_iff.1 h).1])
def frS (σ:S) (b:Nat) (rows:List (List D)) (ls:List Nat):S:=match (σ.freezeL ls).heap b with
 | some blk=>(σ.freezeL ls).setB b (some { blk with rows:=rows,pure:=true })
 | none=>σ
theorem frz {α:Type} [R:Row α] {l:List α} {k:Nat} {x:α} (y:α) (I:l[k]?=some x) (b j:Nat) (ls:List Nat) {d0 d' d'':D} {p:Prop} (hp:p) (he:d'=d'') {c:Code} {K:List Q0} {Q:Exit→S→Prop}
  (h:A P Γ c K Q (frS σ b ((l.set k y).map R.row) ls)) (N:Nat.ble (j+1) (R.row x).length=true:=by kernel_rfl) (O:Qu (R.row x) j [d'']=R.row y:=by kernel_rfl) (s:∀ x,(R.row x).all D.dat=true:=by intro x; kernel_rfl)
  (T:((σ.freezeL ls).heap b).map (·.rows)=some ((l.map R.row).set k (Qu (R.row x) j [d0])):=by kernel_rfl) (M:Wy σ d0=some (d',ls,p):=by kernel_rfl):A P Γ c K Q σ:=by
 subst he
 unfold frS at h
 obtain⟨blk,u,H⟩:=Option.map_eq_some_iff.1 T
 rw[u] at h
 dsimp only at h
 have U:=Nat.le_of_ble_eq_true N
 refine⟨λa w G β V=>?_⟩
 obtain⟨G',J,X,W⟩:=Zk.freezeL ls V
 rw[← Z7x (Z6l ls σ)] at M
 have conv:∀ v,Zh w G' β v d0→Zh w G' β v d'∧d'.dat=true:=λv B=>Z68 J B M hp (λb u=>Zfx ls (W b u))
 refine h.h a w G' β (J.refine u ((l.set k y).map R.row) (by rw[H]; simp) (λc vs e fr Y hw i Z f=>⟨?_,λt d1 g r d v n m _ _ B=>?_⟩) true (λ_ i t r d f g=>?_))
 ·rw[List.getElem?_map] at f
  obtain⟨z,_,rfl⟩:=Option.map_eq_some_iff.1 f
  rcases J.heap b blk u with ⟨_,C,_⟩|⟨c',_,hB⟩
  ·rw[H] at C
   have:=congrArg List.length C
   simp at this
   subst this
   cases I
  ·have C:=hB.hsz k (Qu (R.row x) j [d0]) (by rw[H,List.getElem?_set_self (by rw[List.length_map]; exact(List.getElem?_eq_some_iff.1 I).1)])
   have E:(Qu (R.row x) j [d0]).length=(R.row x).length:=by unfold Qu; simp; omega
   rw[E,R.hs] at C
   rw[R.hs]; exact C
 ·rw[H,List.getElem?_set] at n
  rw[List.getElem?_map,List.getElem?_set] at f
  split at n
  ·rename_i o
   subst o
   have F:k<l.length:=(List.getElem?_eq_some_iff.1 I).1
   rw[if_pos (by rw[List.length_map]; exact F)] at n
   rw[if_pos rfl,if_pos F] at f
   cases n
   simp only[Option.map_some] at f
   cases f
   rw[← O] at g
   have L:∀ (e:D) (i:Nat),(Qu (R.row x) j [e])[i]?=if i=j then some e else (R.row x)[i]? :=λe i=>by
    unfold Qu
    rw[List.append_assoc,List.getElem?_append]
    simp only[List.length_take,Nat.min_eq_left (show j≤(R.row x).length by omega)]
    by_cases q:i<j
    ·rw[if_pos q,if_neg (by omega),List.getElem?_take_of_lt q]
    ·rw[if_neg q]
     by_cases he:i=j
     ·subst he; rw[if_pos rfl]; simp
     ·rw[if_neg he]
      rw[show i - j=(i - j - 1)+1 by omega]
      simp only[List.cons_append,List.nil_append,List.getElem?_cons_succ,List.length_cons,List.length_nil]
      rw[List.getElem?_drop]
      congr 1; omega
   rw[L] at g m
   split at g
   ·rename_i e
    rw[if_pos e] at m
    cases g; cases m
    exact(conv v B).1
   ·rename_i e
    rw[if_neg e] at m
    rw[g] at m
    cases m
    exact B
  ·rename_i o
   rw[if_neg (λe=>o e)] at f
   rw[List.getElem?_map] at n
   rw[n] at f
   cases f
   rw[g] at m
   cases m
   exact B
 ·rw[List.getElem?_map] at f
  obtain⟨z,_,rfl⟩:=Option.map_eq_some_iff.1 f
  exact List.all_eq_true.1 (s z) d (List.mem_of_getElem? g)
def lo:D→D
 | .sl _ r=> .sl false r
 | d=>d
theorem Zh.lo {w:World} {G:Nat→Nat} {β:Nat→Option (Nat×Nat)} {v:Value} {d:D} (h:Zh w G β v d):Zh w G β v (W.lo d):=by
 cases h with
 | slnil c x=>exact .slnil false x
 | sl c b off n cap sz rows val f o a g i j k l m=>exact .sl false b off n cap sz rows val f (λe=>by cases e) a g i j k l m
 | _=>first|exact h|(constructor <;> assumption)
def loS (σ:S) (b:Nat) (rows:List (List D)):S:=match σ.heap b with
 | some blk=>σ.setB b (some { blk with rows:=rows,pure:=true })
 | none=>σ
theorem loo {α:Type} [R:Row α] {l:List α} {k:Nat} {x:α} (y:α) (C:l[k]?=some x) (b:Nat) {cs:List D} {c:Code} {K:List Q0} {Q:Exit→S→Prop}
  (h:A P Γ c K Q (loS σ b ((l.set k y).map R.row))) (E:(Qu (R.row x) 0 cs).map lo=R.row y:=by kernel_rfl) (q:∀ x,(R.row x).all D.dat=true:=by intro x; kernel_rfl)
  (I:(σ.heap b).map (·.rows)=some ((l.map R.row).set k (Qu (R.row x) 0 cs)):=by kernel_rfl):A P Γ c K Q σ:=by
 unfold loS at h
 obtain⟨blk,B,s⟩:=Option.map_eq_some_iff.1 I
 rw[B] at h
 dsimp only at h
 have n:k<l.length:=(List.getElem?_eq_some_iff.1 C).1
 refine⟨λa w G β F=>?_⟩
 refine h.h a w G β (F.refine B ((l.set k y).map R.row) (by rw[s]; simp) (λc vs e fr J hw i L f=>⟨?_,λt d1 j r d v g o _ _ H=>?_⟩) true (λ_ i t r d f j=>?_))
 ·rw[List.getElem?_map] at f
  obtain⟨z,_,rfl⟩:=Option.map_eq_some_iff.1 f
  rcases F.heap b blk B with ⟨_,u,_⟩|⟨c',_,hB⟩
  ·rw[s] at u
   have:=congrArg List.length u
   simp at this
   subst this
   cases C
  ·have u:=hB.hsz k (Qu (R.row x) 0 cs) (by rw[s,List.getElem?_set_self (by rw[List.length_map]; exact n)])
   have m:=congrArg List.length E
   rw[List.length_map,R.hs] at m
   rw[R.hs,← m]; exact u
 ·rw[s,List.getElem?_set] at g
  rw[List.getElem?_map,List.getElem?_set] at f
  split at g
  ·rename_i p
   subst p
   rw[if_pos (by rw[List.length_map]; exact n)] at g
   rw[if_pos rfl,if_pos n] at f
   cases g
   simp only[Option.map_some] at f
   cases f
   rw[← E,List.getElem?_map,o] at j
   cases j
   exact Zh.lo H
  ·rename_i p
   rw[if_neg (λe=>p e)] at f
   rw[List.getElem?_map] at g
   rw[g] at f
   cases f
   rw[j] at o
   cases o
   exact H
 ·rw[List.getElem?_map] at f
  obtain⟨z,_,rfl⟩:=Option.map_eq_some_iff.1 f
  exact List.all_eq_true.1 (q z) d (List.mem_of_getElem? j)
def ceS (σ:S) (b j:Nat) (d:D):S:=match σ.heap b with
 | some blk=>match blk.rows with
  | [cs] =>σ.setB b (some { blk with rows:=[cs.set j d],pure:=false })
  | _=>σ
 | none=>σ
def ceD (σ:S) (b j:Nat):Option D:=match σ.heap b with
 | some blk=>match blk.rows with
  | [cs] =>cs[j]?
  | _=>none
 | none=>none
theorem ceq {c:Code} {K:List Q0} {Q:Exit→S→Prop} (b j:Nat) {d d':D} (he:d=d') (h:A P Γ c K Q (ceS σ b j d')) (g:ceD σ b j=some d:=by kernel_rfl):A P Γ c K Q σ:=by
 subst he
 unfold ceD at g
 unfold ceS at h
 split at g
 rotate_left
 ·cases g
 rename_i blk m
 split at g
 rotate_left
 ·cases g
 rename_i cs o
 rw[m] at h
 dsimp only at h
 rw[o] at h
 dsimp only at h
 have k:cs.set j d=cs:=by
  apply List.ext_getElem?
  intro i
  rw[List.getElem?_set]
  split
  ·rename_i e
   subst e
   rw[if_pos (List.getElem?_eq_some_iff.1 g).1,g]
  ·rfl
 rw[k] at h
 refine⟨λa w G β p=>?_⟩
 rw[← o] at h
 refine h.h a w G β (p.refine m blk.rows rfl (λc vs e fr x hw i s f=>⟨?_,λj d' n r d v l q _ _ t=>?_⟩) false (λh=>by cases h))
 ·rcases p.heap b blk m with ⟨_,u,_⟩|⟨c',_,hB⟩
  ·rw[u] at f; simp at f
  ·exact hB.hsz i s f
 ·rw[f] at l; cases l
  rw[n] at q; cases q
  exact t
end W
end Go.Den
namespace Go.Proofs
open IntKind (wrap)
open Tryz
open Go.Den Go.Den.W
theorem lenV {a b:List (List D)} (h:a.length=b.length):0+a.length≤b.length:=by omega
theorem takV {a b:List (List D)} (h:a.length=b.length):D.sl false ((b.drop 0).take a.length)=.sl false b:=by rw[List.drop_zero,h,List.take_length]
def R17 (a:Z6×(List Int)×Int):D:= .tup [.agg (Zr a.1),slF Z5 a.2.1,.int .i64 a.2.2]
def Z6h (h:(List Int)) (t0:Int×(List Zm)):Option (Ctl (Int×(List Zm)) (((List Zm)))):=
 if (decide (t0.1<(h.length:Int)))=true then
  ((Z4 h t0.1).bind λi=>
  (some (wrap .i64 (i - (1:Int)))).bind λj=>
  (X7 j t0.2.length).bind λg=>
  (t0.2[g]?).bind λa=>
  (Zom a.Zw).bind λc=>
  (X7 0 c.length).bind λd=>
  (c[d]?).bind λk=>
  if (decide ((c.length:Int)>1))=true then ((X7 1 c.length).bind λe=>
   ((c.set d ({ Zj:=3,f_N:=0 }:Zf))[e]?).bind λf=>
   if (f.Zj==1)=true then ((some (wrap .i64 (t0.1+(1:Int)))).bind λb=>
   some (.next (b,(t0.2.set g ({ Zj:=a.Zj,Zt:=a.Zt,Zw:=((c.set d ({ Zj:=3,f_N:=0 }:Zf)).set e ({ Zj:=f.Zj,f_N:=1 }:Zf)),Yy:=a.Yy,Xs:=a.Xs,Xe:=a.Xe,Xk:=a.Xk }:Zm))))) else
   ((some (wrap .i64 (t0.1+(1:Int)))).bind λb=>
   some (.next (b,(t0.2.set g ({ Zj:=a.Zj,Zt:=a.Zt,Zw:=(c.set d ({ Zj:=3,f_N:=0 }:Zf)),Yy:=a.Yy,Xs:=a.Xs,Xe:=a.Xe,Xk:=a.Xk }:Zm)))))) else
  ((some (wrap .i64 (t0.1+(1:Int)))).bind λb=>
   some (.next (b,(t0.2.set g ({ Zj:=a.Zj,Zt:=a.Zt,Zw:=(c.set d ({ Zj:=3,f_N:=0 }:Zf)),Yy:=a.Yy,Xs:=a.Xs,Xe:=a.Xe,Xk:=a.Xk }:Zm)))))) else
 (some (.done (t0.2)))
def Z82 (e:(List Int)) (t1:Int×(List Zm)):Option (Ctl (Int×(List Zm)) (((List Zm)))):=
 if (decide (t1.1<(e.length:Int)))=true then
  ((Z4 e t1.1).bind λb=>
  (some (wrap .i64 (b - (1:Int)))).bind λc=>
  (X7 c t1.2.length).bind λa=>
  (t1.2[a]?).bind λf=>
  (some (wrap .i64 (t1.1+(1:Int)))).bind λd=>
  some (.next (d,(t1.2.set a ({ Zj:=0,Zt:=({ Xl:=0,Yw:=0,Zy:=0 }:Q5),Zw:=([]:List Zf),Yy:=[],Xs:=0,Xe:=0,Xk:=([]:List Int) }:Zm))))) else
 (some (.done (t1.2)))
def Mm (a:Z6) (b:Bool):Option (Z6×(List Int)×Int):=
 (Z2i a b).bind λc=>
 (Zp3 a.Z7).bind λd=>
 (Z2r a b).bind λe=>
 (Z8 (Z6h e) Zb (0,d)).bind λq0=>
 (Z8 (Z82 c) Zb (0,q0)).bind λf=>
 some (({ Y0:=a.Y0,Qy:=a.Qy,Z7:=f,Xc:=a.Xc,X0:=a.X0,Y9:=a.Y9,Qp:=a.Qp }:Z6),c,0)
def Zzp (c:(List Int)) (b:(List Int)) (a:Z6):(Int×(List Zm))→SL:=
 λt0=>⟨87,[(4,.lptr 4 0 0),(7,slF Z5 c),(8,.lptr 8 0 0),(24,slF Z5 b),(25,dI (b.length:Int)),(26,dI t0.1)],[(4,Zc 10 [[Zp Yx,Zp Xf,Zp Q8,Zp Qh,dI 0,Zp Ya,Zp Xz,Zp Qj,Zp X9,Zp Xw]]),(8,Zc 10 [[slF Yx a.Y0.X4,slF Xf a.Y0.Y6,slF Q8 a.Y0.Yr,slF Qh a.Y0.Q3,dI a.Qy,.lsl 20 0 ((t0.2.map Ya).length),slF Xz a.Xc,slF Qj a.X0,slF X9 a.Y9,slF Xw a.Qp]]),(20,Zd 9 (t0.2.map Ya))]⟩
def J17x1 (b:(List Int)) (a:Z6):JT (((List Zm))):=
 je 0 λq0:(List Zm)=>⟨87,[(4,.lptr 4 0 0),(7,slF Z5 b),(8,.lptr 8 0 0)],[(4,Zc 10 [[Zp Yx,Zp Xf,Zp Q8,Zp Qh,dI 0,Zp Ya,Zp Xz,Zp Qj,Zp X9,Zp Xw]]),(8,Zc 10 [[slF Yx a.Y0.X4,slF Xf a.Y0.Y6,slF Q8 a.Y0.Yr,slF Qh a.Y0.Q3,dI a.Qy,.lsl 20 0 ((q0.map Ya).length),slF Xz a.Xc,slF Qj a.X0,slF X9 a.Y9,slF Xw a.Qp]]),(20,Zd 9 (q0.map Ya))]⟩
def Zvl (b:(List Int)) (a:Z6):(Int×(List Zm))→SL:=
 λt1=>⟨87,[(4,.lptr 4 0 0),(7,slF Z5 b),(8,.lptr 8 0 0),(72,slF Z5 b),(73,dI (b.length:Int)),(74,dI t1.1)],[(4,Zc 10 [[Zp Yx,Zp Xf,Zp Q8,Zp Qh,dI 0,Zp Ya,Zp Xz,Zp Qj,Zp X9,Zp Xw]]),(8,Zc 10 [[slF Yx a.Y0.X4,slF Xf a.Y0.Y6,slF Q8 a.Y0.Yr,slF Qh a.Y0.Q3,dI a.Qy,.lsl 20 0 ((t1.2.map Ya).length),slF Xz a.Xc,slF Qj a.X0,slF X9 a.Y9,slF Xw a.Qp]]),(20,Zd 9 (t1.2.map Ya))]⟩
def J17x2 (c:(List Int)) (a:Z6):JT (((List Zm))):=
 je 2 λb:(List Zm)=>⟨87,[(4,.lptr 4 0 0),(7,slF Z5 c),(8,.lptr 8 0 0)],[(4,Zc 10 [[Zp Yx,Zp Xf,Zp Q8,Zp Qh,dI 0,Zp Ya,Zp Xz,Zp Qj,Zp X9,Zp Xw]]),(8,Zc 10 [[slF Yx a.Y0.X4,slF Xf a.Y0.Y6,slF Q8 a.Y0.Yr,slF Qh a.Y0.Q3,dI a.Qy,.lsl 20 0 ((b.map Ya).length),slF Xz a.Xc,slF Qj a.X0,slF X9 a.Y9,slF Xw a.Qp]]),(20,Zd 9 (b.map Ya))]⟩
theorem wl17x1 (o:(List Int)) (p:Z6) {q t0 r Γ} (h:(Z6h q) t0=some r):A prog Γ (lpC f17 175) [] (Rd (Zzp o q p) (J17x1 o p) r) ((Zzp o q p) t0).s:=
 Z2<|br h (λv h=>bd h λF w h=>bd h λG x h=>bd h λt y h=>bd h λc i h=>bd h λd z h=>bd h λe B h=>bd h λH C h=>go [8] [rg 6 [(0,ix w)],rg 7 [(3,n x),(4,ia 20 y)]]<|po<|pr 6 [(4,lb i),(5,ko [40] (w34 z) (fresh:=[(40,2)]))]<|unO 20<|pr 3 [(8,Zjg i 4 [.lsl 40 0 ((d.map Y8).length)])]<|pe<|goN [10] [rg 9 [(3,Za3 (r:=(Qu (Ya c) 4 [.lsl 40 0 ((d.map Y8).length)])) (Md Ya i)),(5,ia 40 B),(6,st C 0 [dI 3,dI 0] ({ Zj:=3,f_N:=0 }:Zf))]]<|so<|sp h (λu h=>bd h λj k h=>bd h λf l h=>Z0 10 [(3,Za3 (r:=(Qu (Ya c) 4 [.lsl 40 0 ((d.map Y8).length)])) (Md Ya i)),(4,ln d),(5,kb u),(10,Za3 (r:=(Qu (Ya c) 4 [.lsl 40 0 ((d.map Y8).length)])) (Md Ya i)),(11,ia 40 k),(13,lb l)]<|br h (λE h=>go [12] [rg 11 [(3,Za3 (r:=(Qu (Ya c) 4 [.lsl 40 0 ((d.map Y8).length)])) (Md Ya i)),(4,ia 40 k),(6,st l 1 [dI 1] ({ Zj:=f.Zj,f_N:=1 }:Zf))]]<|so<|frz ({ Zj:=c.Zj,Zt:=c.Zt,Zw:=((d.set e ({ Zj:=3,f_N:=0 }:Zf)).set j ({ Zj:=f.Zj,f_N:=1 }:Zf)),Yy:=c.Yy,Xs:=c.Xs,Xe:=c.Xe,Xk:=c.Xk }:Zm) i 20 4 [40] (d0:= .lsl 40 0 ((d.map Y8).length)) (lenV (a:=d.map Y8) (b:=((d.set e ({ Zj:=3,f_N:=0 }:Zf)).set j ({ Zj:=f.Zj,f_N:=1 }:Zf)).map Y8) (by simp only[List.length_map,List.length_set])) (takV (a:=d.map Y8) (b:=((d.set e ({ Zj:=3,f_N:=0 }:Zf)).set j ({ Zj:=f.Zj,f_N:=1 }:Zf)).map Y8) (by simp only[List.length_map,List.length_set]))<|ceq 8 5 (congrArg (D.lsl 20 0) (by simp only[List.length_map,List.length_set]:(t0.2.map Ya).length=((t0.2.set t ({ Zj:=c.Zj,Zt:=c.Zt,Zw:=((d.set e ({ Zj:=3,f_N:=0 }:Zf)).set j ({ Zj:=f.Zj,f_N:=1 }:Zf)),Yy:=c.Yy,Xs:=c.Xs,Xe:=c.Xe,Xk:=c.Xk }:Zm)).map Ya).length))<|bd h λm g h=>Z0 12 [(0,n g)]<|nx h) λE h=>
  go [12] []<|so<|frz ({ Zj:=c.Zj,Zt:=c.Zt,Zw:=(d.set e ({ Zj:=3,f_N:=0 }:Zf)),Yy:=c.Yy,Xs:=c.Xs,Xe:=c.Xe,Xk:=c.Xk }:Zm) i 20 4 [40] (d0:= .lsl 40 0 ((d.map Y8).length)) (lenV (a:=d.map Y8) (b:=(d.set e ({ Zj:=3,f_N:=0 }:Zf)).map Y8) (by simp only[List.length_map,List.length_set])) (takV (a:=d.map Y8) (b:=(d.set e ({ Zj:=3,f_N:=0 }:Zf)).map Y8) (by simp only[List.length_map,List.length_set]))<|ceq 8 5 (congrArg (D.lsl 20 0) (by simp only[List.length_map,List.length_set]:(t0.2.map Ya).length=((t0.2.set t ({ Zj:=c.Zj,Zt:=c.Zt,Zw:=(d.set e ({ Zj:=3,f_N:=0 }:Zf)),Yy:=c.Yy,Xs:=c.Xs,Xe:=c.Xe,Xk:=c.Xk }:Zm)).map Ya).length))<|bd h λm g h=>Z0 12 [(0,n g)]<|nx h) λu h=>
  Z0 10 [(3,Za3 (r:=(Qu (Ya c) 4 [.lsl 40 0 ((d.map Y8).length)])) (Md Ya i)),(4,ln d),(5,kb u)]<|bF rfl<|go [12] []<|so<|frz ({ Zj:=c.Zj,Zt:=c.Zt,Zw:=(d.set e ({ Zj:=3,f_N:=0 }:Zf)),Yy:=c.Yy,Xs:=c.Xs,Xe:=c.Xe,Xk:=c.Xk }:Zm) i 20 4 [40] (d0:= .lsl 40 0 ((d.map Y8).length)) (lenV (a:=d.map Y8) (b:=(d.set e ({ Zj:=3,f_N:=0 }:Zf)).map Y8) (by simp only[List.length_map,List.length_set])) (takV (a:=d.map Y8) (b:=(d.set e ({ Zj:=3,f_N:=0 }:Zf)).map Y8) (by simp only[List.length_map,List.length_set]))<|ceq 8 5 (congrArg (D.lsl 20 0) (by simp only[List.length_map,List.length_set]:(t0.2.map Ya).length=((t0.2.set t ({ Zj:=c.Zj,Zt:=c.Zt,Zw:=(d.set e ({ Zj:=3,f_N:=0 }:Zf)),Yy:=c.Yy,Xs:=c.Xs,Xe:=c.Xe,Xk:=c.Xk }:Zm)).map Ya).length))<|bd h λm g h=>Z0 12 [(0,n g)]<|nx h) λv h=>
 Z2<|dn h (iE)
theorem wl17x2 (a:Z6) {b t1 r Γ} (h:(Z82 b) t1=some r):A prog Γ (lpC f17 351) [] (Rd (Zvl b a) (J17x2 b a) r) ((Zvl b a) t1).s:=
 Z2<|br h (λk h=>bd h λl e h=>bd h λm f h=>bd h λc g h=>bd h λi d h=>go [17] [rg 15 [(0,ix e)],rg 16 [(3,n f),(5,ia 20 g),(6,Zjg d 0 [dI 0,dI 0,d8 0,dI 0,Zp Y8,.str [],dI 0,dI 0,Zp Z5])]]<|nm (congrArg (λnn:Nat=>(⟨87,[(4,.lptr 4 0 0),(7,slF Z5 b),(8,.lptr 8 0 0),(72,slF Z5 b),(73,dI (b.length:Int)),(74,dI t1.1)],[(4,Zc 10 [[Zp Yx,Zp Xf,Zp Q8,Zp Qh,dI 0,Zp Ya,Zp Xz,Zp Qj,Zp X9,Zp Xw]]),(8,Zc 10 [[slF Yx a.Y0.X4,slF Xf a.Y0.Y6,slF Q8 a.Y0.Yr,slF Qh a.Y0.Q3,dI a.Qy,.lsl 20 0 nn,slF Xz a.Xc,slF Qj a.X0,slF X9 a.Y9,slF Xw a.Qp]]),(20,Zd 9 ((t1.2.map Ya).set c (Qu (Ya i) 0 [dI 0,dI 0,d8 0,dI 0,Zp Y8,.str [],dI 0,dI 0,Zp Z5])))]⟩:SL)) (by simp only[List.length_map,List.length_set]:(t1.2.map Ya).length=((t1.2.set c ({ Zj:=0,Zt:=({ Xl:=0,Yw:=0,Zy:=0 }:Q5),Zw:=([]:List Zf),Yy:=[],Xs:=0,Xe:=0,Xk:=([]:List Int) }:Zm)).map Ya).length))<|so<|loo ({ Zj:=0,Zt:=({ Xl:=0,Yw:=0,Zy:=0 }:Q5),Zw:=([]:List Zf),Yy:=[],Xs:=0,Xe:=0,Xk:=([]:List Int) }:Zm) d 20 (cs:=[dI 0,dI 0,d8 0,dI 0,Zp Y8,.str [],dI 0,dI 0,Zp Z5])<|bd h λo j h=>Z0 17 [(0,n j)]<|nx h) λk h=>
 Z2<|dn h (iE)
theorem w17 {a e r} (h:Mm a e=some r):Zi prog 17 [.agg (Zr a),.bool e] (R17 r):=
 cs f17<|bd h λb g h=>bd h λm i h=>bd h λj l h=>go [] [rg 0 [(0,bo)],rg 1 [(2,k (w15 g))],rg 3 [(2,ko [20] (w33 i) (fresh:=[(20,9)]))],rg 4 [(2,k (w13 l)),(3,ln j)]]<|bd h λq0 c h=>lp c (wl17x1 b a)<|qe<|goN [] [rg 13 [(1,ln b)]]<|bd h λf d h=>lp d (wl17x2 a)<|qe<|goN [] []<|rtB h (.tup [.agg [slF Yx a.Y0.X4,slF Xf a.Y0.Y6,slF Q8 a.Y0.Yr,slF Qh a.Y0.Q3,dI a.Qy,rw_ f,slF Xz a.Xc,slF Qj a.X0,slF X9 a.Y9,slF Xw a.Qp],slF Z5 b,dI 0]) (a2 (a2 trivial (a2 trivial (a2 trivial (a2 trivial (a2 trivial (a2 (rpI f) (a2 trivial (a2 trivial (a2 trivial (a2 trivial trivial)))))))))) (a2 trivial (a2 trivial trivial))) (by simp only[rwE] <;> kernel_rfl)
end Go.Proofs
