/-
  reachability.Levels: the queues in memory, and the function that reaches an object. By hand. No condition.
-/
import Derived.Test.YtaamfcpmekeahaaGreatDoorGbg8
import Derived.Test.YtaamfcpmekeahaaGreatDoorDenRel
import Derived.Test.YtaamfcpmekeahaaGreatDoorGcF
set_option linter.unusedVariables false
set_option linter.unusedSimpArgs false
namespace Go.Proofs
open Go.Den Go.Den.W Go.RowKit
abbrev QG:=Int→List Int×Nat×Nat
def VQ (s:LS) (u:QG):Prop:=∀ k,1≤k→k≤4→(u k).2.1+(u k).2.2=(u k).1.length∧(u k).1.drop (u k).2.1=s.q k
def Zbh (u:QG) (b:Nat) (k:Int):D:= .lsl b (u k).2.1 (u k).2.2
def rowQ (u:QG) (a b c d:Nat):List D:=[.sl true [],Zbh u a 1,Zbh u b 2,Zbh u c 3,Zbh u d 4]
def Kw (l:List Int):Blk:={ sz:=1,rows:=l.map Z5,frz:=0,pure:=true }
def bks (N:Nat) (s:LS) (u:QG):List Blk:=
 [{ sz:=1,rows:=[[.lsl 1 0 N]],frz:=0,pure:=false,pin:=some 0 },Kw s.lev,{ sz:=5,rows:=[rowQ u 3 4 5 6],frz:=0,pure:=false,pin:=some 2 },
  Kw (u 1).1,Kw (u 2).1,Kw (u 3).1,Kw (u 4).1]
def Jy (u:QG) (k:Int) (v:List Int×Nat×Nat):QG:=λj=>if j=k then v else u j
theorem VQ.n {s:LS} {u:QG} (h:VQ s u) {k:Int} (c:1≤k) (d:k≤4):(u k).2.2=(s.q k).length:=by
 obtain⟨a,b⟩:=h k c d
 rw[← b,List.length_drop]; omega
theorem VQ.upd {s:LS} {u:QG} (h:VQ s u) {k:Int} {l:List Int} {v:List Int×Nat×Nat} {q:List Int} (f:v.2.1+v.2.2=v.1.length) (hq:v.1.drop v.2.1=q):VQ ⟨l,Vp s.q k q⟩ (Jy u k v):=λj c d=>by
 by_cases e:j=k
 ·subst e
  simp only[Jy,if_pos]
  refine⟨f,?_⟩
  rw[hq]; exact Z5v.symm
 ·simp only[Jy,if_neg e]
  obtain⟨a,b⟩:=h j c d
  exact⟨a,b.trans (Z3o e).symm⟩
def iaL (b lo N:Nat) {i:Int} {j:Nat} (h:0≤i∧i<(N:Int)∧((lo:Nat):Int)+i=j):GT:=GT.of { ans:= .val (.lptr b j 0) } (p:=0≤i∧i<(N:Int)∧((lo:Nat):Int)+i=j) h
def apR {a:List Int} {lo n:Nat} (x:Int) (h:lo+n=a.length):GT:=
 GT.of { rows:=some ((a++[x]).map Z5) } (p:=True∧lo+n=(a.map Z5).length∧(∀ r∈[[D.int .i64 x]],r.length=1)∧a.map Z5++[[D.int .i64 x]]=(a++[x]).map Z5)
  ⟨trivial,by simpa using h,by simp,by simp[Z5]⟩
def apF {a:List Int} {lo n m:Nat} {u:Unit} (x:Int) (h:lo+n=a.length) (b:Yp 8 (m+1)=some u) (c:n=m):GT:=
 GT.of { rows:=some ((a.drop lo++[x]).map Z5) } (p:=True∧lo+n=(a.map Z5).length∧(∀ r∈[[D.int .i64 x]],r.length=1)∧(a.map Z5).drop lo++[[D.int .i64 x]]=(a.drop lo++[x]).map Z5∧n+1≤9223372036854775807∧(n+1)*8≤140737488355328)
  ⟨trivial,by simpa using h,by simp,by simp[Z5,List.map_drop],c ▸ (Zbv b rfl).1,c ▸ (Zbv b rfl).2⟩
end Go.Proofs
namespace Go.Proofs
open Tryz
open Go.Den Go.Den.W Go.RowKit
def Z8c:List Bool:=[true,false,true,false,false,false,false]
def R53 (N:Nat) (a:LS) (r:D) (bs':List Blk):Prop:=∃ b,VQ a b∧r=.tup []∧bs'=bks N a b
theorem rtS {P:Program} {Γ:Ctx} {σ:S} {fn:Func} {m:Nat} {keep:List Bool} {ev:Ev} {R:D→List Blk→Prop} (d:D) (bs:List Blk) {p:Prop} (hp:p) (f:R d bs)
  (a:(W.fin ev,Je (List.range m),Z5r P fn m keep σ)=(true,true,some (d,bs,tN fn.results.size∧p)):=by kernel_rfl):E P Γ (Zb6 P fn m keep R) σ ev:=
 rtR d bs bs hp f (by
  have b:=congrArg Prod.fst a
  have c:=congrArg (λx=>x.2.1) a
  have e:=congrArg (λx=>x.2.2) a
  dsimp only at b c e
  rw[b,c,e])
theorem w46_1 {n:Int} {N:Nat} {s e:LS} {u:QG} (h:Jw n 1 s=some e) (b:VQ s u) (hN:s.lev.length=N):K3 prog 53 [dI n,dI 1,.lptr 0 0 0,.lptr 2 0 0] (bks N s u) (R53 N e):=by
 unfold Jw at h
 refine csR f53 (m:=7) (keep:=Z8c) ?_
 refine sp h (λa h=>bd h λi ei h=>bd h λj ej h=>bd h λx ex h=>?_) λa h=>?_
 ·have c:0≤i∧i<(N:Int)∧((0:Nat):Int)+i=j:=hN ▸ Ka ej rfl
  refine go [] [rg 0 (gC a 3 2 [(5,gw a (W.n ei)),(6,gw a (iaL 1 0 N c)),(7,gw a (lb ex)),(8,gw a g0),(9,gw a g0),(10,py a)])] ?_
  refine br h (λf h=>?_) λf h=>?_
  ·rw[if_pos (by decide)] at h
   refine bd h λ_ eg h=>?_
   cases h
   refine go [2] [rg 1 [(2,W.n ei),(4,iaL 1 0 N c),(5,st ex 0 [dI 1] 1)]] ?_
   refine kn 2 1 λfull=>?_
   have d:=(b 1 (by decide) (by decide)).1
   have hq:=(b 1 (by decide) (by decide)).2
   cases full with
   | false=>
    refine so<|go [] [rg 2 [(2,ax 1 5),(5,br0 1 0),(6,apR n d),(7,ax 1 5)]] ?_
    exact rtS (.tup []) (bks N ⟨s.lev.set j 1,Vp s.q 1 (s.q 1++[n])⟩ (Jy u 1 ((u 1).1++[n],(u 1).2.1,(u 1).2.2+1))) trivial ⟨_,b.upd (by simp; omega) (by
     show List.drop (u 1).2.1 ((u 1).1++[n])=s.q 1++[n]
     rw[List.drop_append_of_le_length (by omega),hq]),rfl,rfl⟩
   | true=>
    refine so<|go [] [rg 2 [(2,ax 1 5),(5,br0 1 0),(6,apF n d eg (b.n (by decide) (by decide))),(7,ax 1 5)]] ?_
    exact rtS (.tup []) (bks N ⟨s.lev.set j 1,Vp s.q 1 (s.q 1++[n])⟩ (Jy u 1 ((u 1).1.drop (u 1).2.1++[n],0,(u 1).2.2+1))) trivial ⟨_,b.upd (by simp; omega) (by
     show List.drop 0 _=_
     rw[List.drop_zero,hq]),rfl,rfl⟩
  ·cases h
   exact go [] []<|rtS (.tup []) (bks N s u) trivial ⟨u,b,rfl,rfl⟩
 ·cases h
  exact go [] [rg 0 (gB a 3 7 [(10,pn a)])]<|bF rfl<|go [] []<|rtS (.tup []) (bks N s u) trivial ⟨u,b,rfl,rfl⟩
theorem w46_2 {n:Int} {N:Nat} {s e:LS} {u:QG} (h:Jw n 2 s=some e) (b:VQ s u) (hN:s.lev.length=N):K3 prog 53 [dI n,dI 2,.lptr 0 0 0,.lptr 2 0 0] (bks N s u) (R53 N e):=by
 unfold Jw at h
 refine csR f53 (m:=7) (keep:=Z8c) ?_
 refine sp h (λa h=>bd h λi ei h=>bd h λj ej h=>bd h λx ex h=>?_) λa h=>?_
 ·have c:0≤i∧i<(N:Int)∧((0:Nat):Int)+i=j:=hN ▸ Ka ej rfl
  refine go [] [rg 0 (gC a 3 2 [(5,gw a (W.n ei)),(6,gw a (iaL 1 0 N c)),(7,gw a (lb ex)),(8,gw a g0),(9,gw a g0),(10,py a)])] ?_
  refine br h (λf h=>?_) λf h=>?_
  ·rw[if_pos (by decide)] at h
   refine bd h λ_ eg h=>?_
   cases h
   refine go [2] [rg 1 [(2,W.n ei),(4,iaL 1 0 N c),(5,st ex 0 [dI 2] 2)]] ?_
   refine kn 2 2 λfull=>?_
   have d:=(b 2 (by decide) (by decide)).1
   have hq:=(b 2 (by decide) (by decide)).2
   cases full with
   | false=>
    refine so<|go [] [rg 2 [(2,ax 2 5),(5,br0 1 0),(6,apR n d),(7,ax 2 5)]] ?_
    exact rtS (.tup []) (bks N ⟨s.lev.set j 2,Vp s.q 2 (s.q 2++[n])⟩ (Jy u 2 ((u 2).1++[n],(u 2).2.1,(u 2).2.2+1))) trivial ⟨_,b.upd (by simp; omega) (by
     show List.drop (u 2).2.1 ((u 2).1++[n])=s.q 2++[n]
     rw[List.drop_append_of_le_length (by omega),hq]),rfl,rfl⟩
   | true=>
    refine so<|go [] [rg 2 [(2,ax 2 5),(5,br0 1 0),(6,apF n d eg (b.n (by decide) (by decide))),(7,ax 2 5)]] ?_
    exact rtS (.tup []) (bks N ⟨s.lev.set j 2,Vp s.q 2 (s.q 2++[n])⟩ (Jy u 2 ((u 2).1.drop (u 2).2.1++[n],0,(u 2).2.2+1))) trivial ⟨_,b.upd (by simp; omega) (by
     show List.drop 0 _=_
     rw[List.drop_zero,hq]),rfl,rfl⟩
  ·cases h
   exact go [] []<|rtS (.tup []) (bks N s u) trivial ⟨u,b,rfl,rfl⟩
 ·cases h
  exact go [] [rg 0 (gB a 3 7 [(10,pn a)])]<|bF rfl<|go [] []<|rtS (.tup []) (bks N s u) trivial ⟨u,b,rfl,rfl⟩
theorem w46_3 {n:Int} {N:Nat} {s e:LS} {u:QG} (h:Jw n 3 s=some e) (b:VQ s u) (hN:s.lev.length=N):K3 prog 53 [dI n,dI 3,.lptr 0 0 0,.lptr 2 0 0] (bks N s u) (R53 N e):=by
 unfold Jw at h
 refine csR f53 (m:=7) (keep:=Z8c) ?_
 refine sp h (λa h=>bd h λi ei h=>bd h λj ej h=>bd h λx ex h=>?_) λa h=>?_
 ·have c:0≤i∧i<(N:Int)∧((0:Nat):Int)+i=j:=hN ▸ Ka ej rfl
  refine go [] [rg 0 (gC a 3 2 [(5,gw a (W.n ei)),(6,gw a (iaL 1 0 N c)),(7,gw a (lb ex)),(8,gw a g0),(9,gw a g0),(10,py a)])] ?_
  refine br h (λf h=>?_) λf h=>?_
  ·rw[if_pos (by decide)] at h
   refine bd h λ_ eg h=>?_
   cases h
   refine go [2] [rg 1 [(2,W.n ei),(4,iaL 1 0 N c),(5,st ex 0 [dI 3] 3)]] ?_
   refine kn 2 3 λfull=>?_
   have d:=(b 3 (by decide) (by decide)).1
   have hq:=(b 3 (by decide) (by decide)).2
   cases full with
   | false=>
    refine so<|go [] [rg 2 [(2,ax 3 5),(5,br0 1 0),(6,apR n d),(7,ax 3 5)]] ?_
    exact rtS (.tup []) (bks N ⟨s.lev.set j 3,Vp s.q 3 (s.q 3++[n])⟩ (Jy u 3 ((u 3).1++[n],(u 3).2.1,(u 3).2.2+1))) trivial ⟨_,b.upd (by simp; omega) (by
     show List.drop (u 3).2.1 ((u 3).1++[n])=s.q 3++[n]
     rw[List.drop_append_of_le_length (by omega),hq]),rfl,rfl⟩
   | true=>
    refine so<|go [] [rg 2 [(2,ax 3 5),(5,br0 1 0),(6,apF n d eg (b.n (by decide) (by decide))),(7,ax 3 5)]] ?_
    exact rtS (.tup []) (bks N ⟨s.lev.set j 3,Vp s.q 3 (s.q 3++[n])⟩ (Jy u 3 ((u 3).1.drop (u 3).2.1++[n],0,(u 3).2.2+1))) trivial ⟨_,b.upd (by simp; omega) (by
     show List.drop 0 _=_
     rw[List.drop_zero,hq]),rfl,rfl⟩
  ·cases h
   exact go [] []<|rtS (.tup []) (bks N s u) trivial ⟨u,b,rfl,rfl⟩
 ·cases h
  exact go [] [rg 0 (gB a 3 7 [(10,pn a)])]<|bF rfl<|go [] []<|rtS (.tup []) (bks N s u) trivial ⟨u,b,rfl,rfl⟩
theorem w46_4 {n:Int} {N:Nat} {s e:LS} {u:QG} (h:Jw n 4 s=some e) (b:VQ s u) (hN:s.lev.length=N):K3 prog 53 [dI n,dI 4,.lptr 0 0 0,.lptr 2 0 0] (bks N s u) (R53 N e):=by
 unfold Jw at h
 refine csR f53 (m:=7) (keep:=Z8c) ?_
 refine sp h (λa h=>bd h λi ei h=>bd h λj ej h=>bd h λx ex h=>?_) λa h=>?_
 ·have c:0≤i∧i<(N:Int)∧((0:Nat):Int)+i=j:=hN ▸ Ka ej rfl
  refine go [] [rg 0 (gC a 3 2 [(5,gw a (W.n ei)),(6,gw a (iaL 1 0 N c)),(7,gw a (lb ex)),(8,gw a g0),(9,gw a g0),(10,py a)])] ?_
  refine br h (λf h=>?_) λf h=>?_
  ·rw[if_pos (by decide)] at h
   refine bd h λ_ eg h=>?_
   cases h
   refine go [2] [rg 1 [(2,W.n ei),(4,iaL 1 0 N c),(5,st ex 0 [dI 4] 4)]] ?_
   refine kn 2 4 λfull=>?_
   have d:=(b 4 (by decide) (by decide)).1
   have hq:=(b 4 (by decide) (by decide)).2
   cases full with
   | false=>
    refine so<|go [] [rg 2 [(2,ax 4 5),(5,br0 1 0),(6,apR n d),(7,ax 4 5)]] ?_
    exact rtS (.tup []) (bks N ⟨s.lev.set j 4,Vp s.q 4 (s.q 4++[n])⟩ (Jy u 4 ((u 4).1++[n],(u 4).2.1,(u 4).2.2+1))) trivial ⟨_,b.upd (by simp; omega) (by
     show List.drop (u 4).2.1 ((u 4).1++[n])=s.q 4++[n]
     rw[List.drop_append_of_le_length (by omega),hq]),rfl,rfl⟩
   | true=>
    refine so<|go [] [rg 2 [(2,ax 4 5),(5,br0 1 0),(6,apF n d eg (b.n (by decide) (by decide))),(7,ax 4 5)]] ?_
    exact rtS (.tup []) (bks N ⟨s.lev.set j 4,Vp s.q 4 (s.q 4++[n])⟩ (Jy u 4 ((u 4).1.drop (u 4).2.1++[n],0,(u 4).2.2+1))) trivial ⟨_,b.upd (by simp; omega) (by
     show List.drop 0 _=_
     rw[List.drop_zero,hq]),rfl,rfl⟩
  ·cases h
   exact go [] []<|rtS (.tup []) (bks N s u) trivial ⟨u,b,rfl,rfl⟩
 ·cases h
  exact go [] [rg 0 (gB a 3 7 [(10,pn a)])]<|bF rfl<|go [] []<|rtS (.tup []) (bks N s u) trivial ⟨u,b,rfl,rfl⟩
theorem w53 {n k:Int} {N:Nat} {s c:LS} {u:QG} (h:Jw n k s=some c) (b:VQ s u) (hN:s.lev.length=N):K3 prog 53 [dI n,dI k,.lptr 0 0 0,.lptr 2 0 0] (bks N s u) (R53 N c):=by
 by_cases g:1≤k∧k≤4
 ·have:k=1∨k=2∨k=3∨k=4:=by omega
  rcases this with e|e|e|e <;> subst e
  ·exact w46_1 h b hN
  ·exact w46_2 h b hN
  ·exact w46_3 h b hN
  ·exact w46_4 h b hN
 unfold Jw at h
 refine csR f53 (m:=7) (keep:=Z8c) ?_
 refine sp h (λa h=>bd h λi ei h=>bd h λj ej h=>bd h λx ex h=>?_) λa h=>?_
 ·have f:0≤i∧i<(N:Int)∧((0:Nat):Int)+i=j:=hN ▸ Ka ej rfl
  refine go [] [rg 0 (gC a 3 2 [(5,gw a (W.n ei)),(6,gw a (iaL 1 0 N f)),(7,gw a (lb ex)),(8,gw a g0),(9,gw a g0),(10,py a)])] ?_
  refine br h (λd h=>?_) λd h=>?_
  ·rw[if_neg g] at h; cases h
  ·cases h
   exact go [] []<|rtS (.tup []) (bks N s u) trivial ⟨u,b,rfl,rfl⟩
 ·cases h
  exact go [] [rg 0 (gB a 3 7 [(10,pn a)])]<|bF rfl<|go [] []<|rtS (.tup []) (bks N s u) trivial ⟨u,b,rfl,rfl⟩
end Go.Proofs
namespace Go.Proofs
open Tryz
open Go.Den Go.Den.W Go.RowKit
section
variable {P:Program} {Γ:Ctx} {σ σ':S} {a:Act} {w:World} {G:Nat→Nat} {β:Nat→Option (Nat×Nat)}
def RdX {T U R U':Type} (V:T→U→Prop) (st:T→U→SL) (id:Nat) (W:R→U'→Prop) (stJ:R→U'→SL) (x:Ctl T R):Exit→S→Prop:=λe σ=>
 match x with
 | .next t=>e=.normal∧∃ u,V t u∧Sub σ (st t u).s
 | .done r=>e=.exit id∧∃ u,W r u∧Sub σ (stJ r u).s
theorem lpX {T U R U':Type} {Q:Exit→S→Prop} {ev:Ev} {c:Code} {f:T→Option (Ctl T R)} {V:T→U→Prop} {st:T→U→SL} {id:Nat} {W:R→U'→Prop} {stJ:R→U'→SL} {n:Nat} {t:T} {u:U} {r:R} (F:Z8 f n t=some r) (i:V t u)
  (hw:∀ {t u x} {Γ:Ctx},f t=some x→V t u→A P Γ c [] (RdX V st id W stJ x) (st t u).s) (D:∀ u,W r u→RK P Γ ((Jv id (ek ev)).getD []) Q (stJ r u).s) (cv:List U6:=[]) (ps:List (Nat×Nat):=(st t u).ps)
  (j:(Uf cv (st t u).ts ps σ,σ.n,ev,(Jv id (ek ev)).isSome)=(some ((st t u).l,(st t u).bl),(st t u).n,.loop c (ek ev),true):=by kernel_rfl):E P Γ Q σ ev:=by
 have z:=congrArg Prod.fst j
 have B:=congrArg (λx=>x.2.1) j
 have C:=congrArg (λx=>x.2.2.1) j
 have o:=congrArg (λx=>x.2.2.2) j
 dsimp only at z B C o
 have hs:Sub σ (st t u).s:=K1 (cv:=cv) (ps:=ps) (by rw[z,B])
 have q:∀ u,W r u→Wn P Γ (ek ev) Q (.exit id) (stJ r u).s:=λu i=>by
  have hq:=(D u i).h
  cases hp:Jv id (ek ev) with
  | none=>rw[hp] at o; cases o
  | some K'=>rw[hp] at hq; exact At.exitK hp hq
 rw[C]
 refine⟨Sub.at (c:= .loop c) hs λa w G β p=>?_⟩
 refine Zq5 (λn a w=>∃ t u G β,V t u∧Z8 f n t=some r∧Zk Γ (st t u).s a w G β) ?_ n a w ⟨t,u,G,β,i,F,p⟩
 rintro n a w ⟨t,u,G,β,i,h,p⟩
 cases n with
 | zero=>cases h
 | succ m=>
  refine⟨m,rfl,?_⟩
  unfold Z8 at h
  cases v:f t with
  | none=>rw[v] at h; cases h
  | some x=>
   rw[v] at h
   refine wp_mono ((hw (Γ:=Γ) v i).h a w G β p) λe y w' ⟨σ',G',β',k1,k2⟩=>?_
   cases x with
   | next H=>
    obtain⟨rfl,k,g,b⟩:=k2
    obtain⟨G2,β2,d⟩:=b Γ y w' G' β' k1
    exact⟨H,k,G2,β2,g,h,d⟩
   | done I=>
    cases h
    obtain⟨rfl,k,g,b⟩:=k2
    obtain⟨G2,β2,d⟩:=b Γ y w' G' β' k1
    exact⟨(stJ r k).s,G2,β2,d,q k g⟩
theorem nxX {T U R U':Type} {ev:Ev} {V:T→U→Prop} {st:T→U→SL} {id:Nat} {W:R→U'→Prop} {stJ:R→U'→SL} {t:T} {x:Ctl T R} (h:some (Ctl.next t)=some x) (u:U) (f:V t u) (cv:List U6:=[]) (ps:List (Nat×Nat):=(st t u).ps)
  (b:(Uf cv (st t u).ts ps σ,σ.n,et ev)=(some ((st t u).l,(st t u).bl),(st t u).n,some .normal):=by kernel_rfl):E P Γ (RdX V st id W stJ x) σ ev:=by
 cases h
 have c:=congrArg Prod.fst b
 have d:=congrArg (λx=>x.2.1) b
 have e:=congrArg (λx=>x.2.2) b
 dsimp only at c d e
 cases ev <;> cases e
 exact⟨⟨rfl,u,f,K1 (cv:=cv) (ps:=ps) (by rw[c,d])⟩⟩
theorem dnX {T U R U':Type} {ev:Ev} {V:T→U→Prop} {st:T→U→SL} {id:Nat} {W:R→U'→Prop} {stJ:R→U'→SL} {r:R} {x:Ctl T R} (h:some (Ctl.done r)=some x) (u:U') (f:W r u) (cv:List U6:=[]) (ps:List (Nat×Nat):=(stJ r u).ps)
  (b:(Uf cv (stJ r u).ts ps σ,σ.n,et ev)=(some ((stJ r u).l,(stJ r u).bl),(stJ r u).n,some (.exit id)):=by kernel_rfl):E P Γ (RdX V st id W stJ x) σ ev:=by
 cases h
 have c:=congrArg Prod.fst b
 have d:=congrArg (λx=>x.2.1) b
 have e:=congrArg (λx=>x.2.2) b
 dsimp only at c d e
 cases ev <;> cases e
 exact⟨⟨rfl,u,f,K1 (cv:=cv) (ps:=ps) (by rw[c,d])⟩⟩
def Z08 (σ:S) (ops:Array Oper) (i:Nat) (names:List Nat):Option (FuncId×List D×List Nat×Prop):=
 match Zjz ops i with
 | some (fo,args)=>match funA (σ.ev fo) with
  | some (f,es)=>match Uj false σ names (args.toList.map σ.ev++es) with
   | some (ds,l0,p)=>some (f,ds,l0,p)
   | none=>none
  | none=>none
 | none=>none
theorem pcX {ops:Array Oper} {l:List Nat} {K:List Xz} {Q:Exit→S→Prop} {f:FuncId} {ds:List D} {bs:List Blk} {R:D→List Blk→Prop} {p:Prop} (names:List Nat)
  (o:K3 P f ds bs R) (hp:p) (hsz:∀ r bs',R r bs'→Km bs bs'=true) (n:∀ r bs',R r bs'→AO P Γ ops l.tail K Q (clS σ names [] (Zbk ops (l.headD 0)) bs' r))
  (d:(l.isEmpty,Z08 σ ops (l.headD 0) names,L8 (σ.freezeL []) names (λ_ j=>Z20 bs j) 0 names,(ops[l.headD 0]?).map (Xx σ),Je names,bs.all λb=>Nat.beq b.frz 0)=
   (false,some (f,ds,[],p),some bs,some true,true,true):=by kernel_rfl):AO P Γ ops l K Q σ:=by
 have g:=congrArg Prod.fst d
 have c:=congrArg (λx=>x.2.1) d
 have h:=congrArg (λx=>x.2.2.1) d
 have e:=congrArg (λx=>x.2.2.2.1) d
 have k:=congrArg (λx=>x.2.2.2.2.1) d
 have m:=congrArg (λx=>x.2.2.2.2.2) d
 dsimp only at g c h e k m
 cases l with
 | nil=>cases g
 | cons i l=>
  dsimp only[List.headD_cons,List.tail_cons] at c e n
  unfold Z08 at c
  split at c
  ·rename_i fo args q
   split at c
   ·rename_i v es s
    split at c
    ·rename_i ds' u y t
     cases c
     exact pcR (fo:=fo) (args:=args) (es:=es) (l0:=[]) names o hp hsz n (by rw[q,s,t,h,e,k,m])
    ·cases c
   ·cases c
  ·cases c
end
def lnU (n m:Nat) (h:n=m):GT:=GT.of { ans:= .val (.int .i64 m) } (p:=(n:Int)=(m:Int)) (by rw[h])
def sl1 (n:Nat) (h:0<n):GT:=GT.of {} (p:=0≤(1:Int)∧(1:Int)≤(n:Int)∧(n:Int)≤(n:Int)) ⟨by decide,by omega,Int.le_refl _⟩
def ndM (cl:List Int) (m:Z6) (n:Int):Option (List Int×Int×Int):=
 (some (IntKind.wrap .i64 (n - 1))).bind λi=>(Z4 m.Z7 i).bind λo=>(Zah cl o).bind λk=>(Zhx o k).bind λy=>(Zhy y.1).bind λl=>some (l,y.2,k)
def nmQ:List Nat:=[4,23,5,1001,1002,1003,1004]
def blkQ (N:Nat) (s:LS) (u:QG):List (Nat×Blk):=
 [(4,{ sz:=1,rows:=[[.lsl 23 0 N]],frz:=0,pure:=false }),(5,{ sz:=5,rows:=[rowQ u 1001 1002 1003 1004],frz:=0,pure:=false }),(23,Kw s.lev),
  (1001,Kw (u 1).1),(1002,Kw (u 2).1),(1003,Kw (u 3).1),(1004,Kw (u 4).1)]
def VN (N:Nat) (s:LS) (u:QG):Prop:=VQ s u∧s.lev.length=N
theorem Z5p {n k:Int} {s b:LS} (h:Jw n k s=some b):b.lev.length=s.lev.length:=by
 unfold Jw at h
 refine sp h (λ_ h=>W.bd h λ_ _ h=>W.bd h λ_ _ h=>W.bd h λ_ _ h=>sp h (λ_ h=>?_) λ_ h=>?_) λ_ h=>?_
 ·split at h
  ·refine W.bd h λ_ _ h=>?_
   cases h; exact List.length_set
  ·cases h
 ·cases h; rfl
 ·cases h; rfl
theorem sz46 {N:Nat} {s b:LS} {u:QG}:∀ r bs',R53 N b r bs'→Km (bks N s u) bs'=true:=by
 rintro _ _ ⟨c,_,rfl,rfl⟩; rfl
def tsQ (m:Z6) (cl:List Int):List (Nat×D):=[(1,.ptr (Zr m)),(3,.sl false (cl.map Z5)),(4,.lptr 4 0 0),(5,.lptr 5 0 0),(6,.clo 53 [4,5])]
def st20a (m:Z6) (cl rs:List Int) (N:Nat):Int×LS→QG→SL:=
 λt u=>⟨97,[(1,.ptr (Zr m)),(3,.sl false (cl.map Z5)),(4,.lptr 4 0 0),(5,.lptr 5 0 0),(6,.clo 53 [4,5]),(26,.sl false (rs.map Z5)),(27,dI (rs.length:Int)),(28,dI t.1)],blkQ N t.2 u⟩
def sj20a (m:Z6) (cl:List Int) (N:Nat):LS→QG→SL:=λs u=>⟨97,tsQ m cl,blkQ N s u⟩
theorem wl20a {m:Z6} {cl rs:List Int} {N:Nat} {t:Int×LS} {u:QG} {x} {Γ:Ctx} (h:stR rs 4 t=some x) (b:VN N t.2 u):
  A prog Γ (lpC f29 351) [] (RdX (λ(t:Int×LS) u=>VN N t.2 u) (st20a m cl rs N) 0 (VN N) (sj20a m cl N) x) (st20a m cl rs N t u).s:=by
 unfold stR at h
 refine go [] []<|br h (λg h=>bd h λl e h=>bd h λo d h=>bd h λi f h=>?_) λg h=>?_
 ·refine go [8] [rg 7 [(0,ix e)]]<|po<|pr 2 []<|pcX (p:=True∧True∧True) nmQ (w53 d b.1 b.2) ⟨trivial,trivial,trivial⟩ sz46 λr bs' j=>?_
  obtain⟨k,c,rfl,rfl⟩:=j
  exact pe<|goN [] [rg 9 [(0,W.n f)]]<|nxX h k ⟨c,(Z5p d).trans b.2⟩
 ·exact go [] []<|dnX h u b
end Go.Proofs
namespace Go.Proofs
open Tryz
open Go.Den Go.Den.W Go.RowKit
def Z5t (m:Z6) (cl:List Int) (N:Nat) (L kk rf:Int) (l:List Int):Int×LS→QG→SL:=
 λt u=>⟨97,[(1,.ptr (Zr m)),(3,.sl false (cl.map Z5)),(4,.lptr 4 0 0),(5,.lptr 5 0 0),(6,.clo 53 [4,5]),(9,dI L),(12,dI kk),(14,dI rf),(79,.sl false (l.map Z5)),(80,dI (l.length:Int)),(81,dI t.1)],blkQ N t.2 u⟩
def Zax (m:Z6) (cl:List Int) (N:Nat) (L kk rf:Int):LS→QG→SL:=
 λs u=>⟨97,[(1,.ptr (Zr m)),(3,.sl false (cl.map Z5)),(4,.lptr 4 0 0),(5,.lptr 5 0 0),(6,.clo 53 [4,5]),(9,dI L),(12,dI kk),(14,dI rf)],blkQ N s u⟩
theorem Zje {m:Z6} {cl:List Int} {N:Nat} {L kk rf:Int} {l:List Int} {t:Int×LS} {u:QG} {x} {Γ:Ctx} (h:stR l L t=some x) (a:VN N t.2 u):
  A prog Γ (lpC f29 92177599) [] (RdX (λ(t:Int×LS) u=>VN N t.2 u) (Z5t m cl N L kk rf l) 6 (VN N) (Zax m cl N L kk rf) x) (Z5t m cl N L kk rf l t u).s:=by
 unfold stR at h
 refine go [] []<|br h (λf h=>bd h λk d h=>bd h λo c h=>bd h λi e h=>?_) λf h=>?_
 ·refine go [23] [rg 22 [(0,ix d)]]<|po<|pr 3 []<|pcX (p:=True∧True∧True) nmQ (w53 c a.1 a.2) ⟨trivial,trivial,trivial⟩ sz46 λr bs' g=>?_
  obtain⟨j,b,rfl,rfl⟩:=g
  exact pe<|goN [] [rg 24 [(0,W.n e)]]<|nxX h j ⟨b,(Z5p c).trans a.2⟩
 ·exact go [] []<|dnX h u a
def Wq (m:Z6) (cl:List Int) (N:Nat) (L:Int):LS→QG→SL:=
 λs u=>⟨97,[(1,.ptr (Zr m)),(3,.sl false (cl.map Z5)),(4,.lptr 4 0 0),(5,.lptr 5 0 0),(6,.clo 53 [4,5]),(9,dI L)],blkQ N s u⟩
theorem wl20p_1 {m:Z6} {cl:List Int} {N:Nat} {s:LS} {u:QG} {x} {Γ:Ctx} (h:Ml (ndM cl m) 1 s=some x) (b:VN N s u):
  A prog Γ (lpC f29 17599) [] (RdX (VN N) (Wq m cl N 1) 4 (VN N) (Wq m cl N 1) x) (Wq m cl N 1 s u).s:=by
 unfold Ml at h
 have J:=b.1.n (k:=1) (by decide) (by decide)
 obtain⟨Q,hq⟩:=b.1 1 (by decide) (by decide)
 refine go [] [rg 13 [(1,ax 1 5),(3,lnU (u 1).2.2 (s.q 1).length J)]]<|br h (λg h=>?_) λg h=>go [] []<|dnX h u b
 have d:0<(u 1).2.2:=by have:=of_decide_eq_true g; omega
 refine bd h λO f h=>bd h λi v h=>bd h λj w h=>bd h λU z h=>?_
 have M:(u 1).1[(u 1).2.1]?=some O:=by rw[← hq,List.getElem?_drop] at f; exact f
 have I:0≤i∧i<(N:Int)∧((0:Nat):Int)+i=j:=b.2 ▸ Ka w rfl
 have c:VN N ⟨s.lev,Vp s.q 1 ((s.q 1).drop 1)⟩ (Jy u 1 ((u 1).1,(u 1).2.1+1,(u 1).2.2 - 1)):=⟨b.1.upd (by dsimp only; omega) (by
  show List.drop ((u 1).2.1+1) (u 1).1=_
  rw[← hq,List.drop_drop]),b.2⟩
 refine go [] [rg 14 [(1,ax 1 5),(3,iaL 1001 (u 1).2.1 (u 1).2.2 (i:=0) (j:=(u 1).2.1) ⟨by decide,by omega,by omega⟩),(4,lb M)],rg 15 [(2,ax 1 5),(4,sl1 (u 1).2.2 d),(5,ax 1 5)],rg 16 [(2,W.n v),(3,iaL 23 0 N I),(4,lb z)]]<|br h (λG h=>?_) λG h=>?_
 ·exact go [] []<|nxX h _ c
 ·refine bd h λy ey h=>?_
  unfold ndM at ey
  refine bd ey λR B ey=>bd ey λo C ey=>bd ey λkk D ey=>bd ey λyv E ey=>bd ey λl F ey=>?_
  obtain rfl:=Option.some.inj ey
  refine bd h λS es2 h=>bd h λmn emn h=>bd h λs3 es3 h=>?_
  refine go [] [rg 17 [(3,W.n B),(4,ix C)],rg 18 [(2,W.k (w55 D))],rg 19 [(2,W.k (w56 E))],rg 20 [(1,W.k (w57 F)),(2,ln l)]]<|lpX (V:=λ(t:Int×LS) u=>VN N t.2 u) (st:=Z5t m cl N 1 kk yv.2 l) (id:=6) (W:=VN N) (stJ:=Zax m cl N 1 kk yv.2) es2 c (λH L=>Zje H L) λT a=>?_
  refine goN [25] []<|po<|pr 5 [(4,W.n emn)]<|pcX (p:=True∧True∧True) nmQ (w53 es3 a.1 a.2) ⟨trivial,trivial,trivial⟩ sz46 λr bs' K=>?_
  obtain⟨P,e,rfl,rfl⟩:=K
  exact pe<|goN [] []<|nxX h P ⟨e,(Z5p es3).trans a.2⟩
theorem wl20p_2 {m:Z6} {cl:List Int} {N:Nat} {s:LS} {u:QG} {x} {Γ:Ctx} (h:Ml (ndM cl m) 2 s=some x) (b:VN N s u):
  A prog Γ (lpC f29 17599) [] (RdX (VN N) (Wq m cl N 2) 4 (VN N) (Wq m cl N 2) x) (Wq m cl N 2 s u).s:=by
 unfold Ml at h
 have J:=b.1.n (k:=2) (by decide) (by decide)
 obtain⟨Q,hq⟩:=b.1 2 (by decide) (by decide)
 refine go [] [rg 13 [(1,ax 2 5),(3,lnU (u 2).2.2 (s.q 2).length J)]]<|br h (λg h=>?_) λg h=>go [] []<|dnX h u b
 have d:0<(u 2).2.2:=by have:=of_decide_eq_true g; omega
 refine bd h λO f h=>bd h λi v h=>bd h λj w h=>bd h λU z h=>?_
 have M:(u 2).1[(u 2).2.1]?=some O:=by rw[← hq,List.getElem?_drop] at f; exact f
 have I:0≤i∧i<(N:Int)∧((0:Nat):Int)+i=j:=b.2 ▸ Ka w rfl
 have c:VN N ⟨s.lev,Vp s.q 2 ((s.q 2).drop 1)⟩ (Jy u 2 ((u 2).1,(u 2).2.1+1,(u 2).2.2 - 1)):=⟨b.1.upd (by dsimp only; omega) (by
  show List.drop ((u 2).2.1+1) (u 2).1=_
  rw[← hq,List.drop_drop]),b.2⟩
 refine go [] [rg 14 [(1,ax 2 5),(3,iaL 1002 (u 2).2.1 (u 2).2.2 (i:=0) (j:=(u 2).2.1) ⟨by decide,by omega,by omega⟩),(4,lb M)],rg 15 [(2,ax 2 5),(4,sl1 (u 2).2.2 d),(5,ax 2 5)],rg 16 [(2,W.n v),(3,iaL 23 0 N I),(4,lb z)]]<|br h (λG h=>?_) λG h=>?_
 ·exact go [] []<|nxX h _ c
 ·refine bd h λy ey h=>?_
  unfold ndM at ey
  refine bd ey λR B ey=>bd ey λo C ey=>bd ey λkk D ey=>bd ey λyv E ey=>bd ey λl F ey=>?_
  obtain rfl:=Option.some.inj ey
  refine bd h λS es2 h=>bd h λmn emn h=>bd h λs3 es3 h=>?_
  refine go [] [rg 17 [(3,W.n B),(4,ix C)],rg 18 [(2,W.k (w55 D))],rg 19 [(2,W.k (w56 E))],rg 20 [(1,W.k (w57 F)),(2,ln l)]]<|lpX (V:=λ(t:Int×LS) u=>VN N t.2 u) (st:=Z5t m cl N 2 kk yv.2 l) (id:=6) (W:=VN N) (stJ:=Zax m cl N 2 kk yv.2) es2 c (λH L=>Zje H L) λT a=>?_
  refine goN [25] []<|po<|pr 5 [(4,W.n emn)]<|pcX (p:=True∧True∧True) nmQ (w53 es3 a.1 a.2) ⟨trivial,trivial,trivial⟩ sz46 λr bs' K=>?_
  obtain⟨P,e,rfl,rfl⟩:=K
  exact pe<|goN [] []<|nxX h P ⟨e,(Z5p es3).trans a.2⟩
theorem wl20p_3 {m:Z6} {cl:List Int} {N:Nat} {s:LS} {u:QG} {x} {Γ:Ctx} (h:Ml (ndM cl m) 3 s=some x) (b:VN N s u):
  A prog Γ (lpC f29 17599) [] (RdX (VN N) (Wq m cl N 3) 4 (VN N) (Wq m cl N 3) x) (Wq m cl N 3 s u).s:=by
 unfold Ml at h
 have J:=b.1.n (k:=3) (by decide) (by decide)
 obtain⟨Q,hq⟩:=b.1 3 (by decide) (by decide)
 refine go [] [rg 13 [(1,ax 3 5),(3,lnU (u 3).2.2 (s.q 3).length J)]]<|br h (λg h=>?_) λg h=>go [] []<|dnX h u b
 have d:0<(u 3).2.2:=by have:=of_decide_eq_true g; omega
 refine bd h λO f h=>bd h λi v h=>bd h λj w h=>bd h λU z h=>?_
 have M:(u 3).1[(u 3).2.1]?=some O:=by rw[← hq,List.getElem?_drop] at f; exact f
 have I:0≤i∧i<(N:Int)∧((0:Nat):Int)+i=j:=b.2 ▸ Ka w rfl
 have c:VN N ⟨s.lev,Vp s.q 3 ((s.q 3).drop 1)⟩ (Jy u 3 ((u 3).1,(u 3).2.1+1,(u 3).2.2 - 1)):=⟨b.1.upd (by dsimp only; omega) (by
  show List.drop ((u 3).2.1+1) (u 3).1=_
  rw[← hq,List.drop_drop]),b.2⟩
 refine go [] [rg 14 [(1,ax 3 5),(3,iaL 1003 (u 3).2.1 (u 3).2.2 (i:=0) (j:=(u 3).2.1) ⟨by decide,by omega,by omega⟩),(4,lb M)],rg 15 [(2,ax 3 5),(4,sl1 (u 3).2.2 d),(5,ax 3 5)],rg 16 [(2,W.n v),(3,iaL 23 0 N I),(4,lb z)]]<|br h (λG h=>?_) λG h=>?_
 ·exact go [] []<|nxX h _ c
 ·refine bd h λy ey h=>?_
  unfold ndM at ey
  refine bd ey λR B ey=>bd ey λo C ey=>bd ey λkk D ey=>bd ey λyv E ey=>bd ey λl F ey=>?_
  obtain rfl:=Option.some.inj ey
  refine bd h λS es2 h=>bd h λmn emn h=>bd h λs3 es3 h=>?_
  refine go [] [rg 17 [(3,W.n B),(4,ix C)],rg 18 [(2,W.k (w55 D))],rg 19 [(2,W.k (w56 E))],rg 20 [(1,W.k (w57 F)),(2,ln l)]]<|lpX (V:=λ(t:Int×LS) u=>VN N t.2 u) (st:=Z5t m cl N 3 kk yv.2 l) (id:=6) (W:=VN N) (stJ:=Zax m cl N 3 kk yv.2) es2 c (λH L=>Zje H L) λT a=>?_
  refine goN [25] []<|po<|pr 5 [(4,W.n emn)]<|pcX (p:=True∧True∧True) nmQ (w53 es3 a.1 a.2) ⟨trivial,trivial,trivial⟩ sz46 λr bs' K=>?_
  obtain⟨P,e,rfl,rfl⟩:=K
  exact pe<|goN [] []<|nxX h P ⟨e,(Z5p es3).trans a.2⟩
theorem wl20p_4 {m:Z6} {cl:List Int} {N:Nat} {s:LS} {u:QG} {x} {Γ:Ctx} (h:Ml (ndM cl m) 4 s=some x) (b:VN N s u):
  A prog Γ (lpC f29 17599) [] (RdX (VN N) (Wq m cl N 4) 4 (VN N) (Wq m cl N 4) x) (Wq m cl N 4 s u).s:=by
 unfold Ml at h
 have J:=b.1.n (k:=4) (by decide) (by decide)
 obtain⟨Q,hq⟩:=b.1 4 (by decide) (by decide)
 refine go [] [rg 13 [(1,ax 4 5),(3,lnU (u 4).2.2 (s.q 4).length J)]]<|br h (λg h=>?_) λg h=>go [] []<|dnX h u b
 have d:0<(u 4).2.2:=by have:=of_decide_eq_true g; omega
 refine bd h λO f h=>bd h λi v h=>bd h λj w h=>bd h λU z h=>?_
 have M:(u 4).1[(u 4).2.1]?=some O:=by rw[← hq,List.getElem?_drop] at f; exact f
 have I:0≤i∧i<(N:Int)∧((0:Nat):Int)+i=j:=b.2 ▸ Ka w rfl
 have c:VN N ⟨s.lev,Vp s.q 4 ((s.q 4).drop 1)⟩ (Jy u 4 ((u 4).1,(u 4).2.1+1,(u 4).2.2 - 1)):=⟨b.1.upd (by dsimp only; omega) (by
  show List.drop ((u 4).2.1+1) (u 4).1=_
  rw[← hq,List.drop_drop]),b.2⟩
 refine go [] [rg 14 [(1,ax 4 5),(3,iaL 1004 (u 4).2.1 (u 4).2.2 (i:=0) (j:=(u 4).2.1) ⟨by decide,by omega,by omega⟩),(4,lb M)],rg 15 [(2,ax 4 5),(4,sl1 (u 4).2.2 d),(5,ax 4 5)],rg 16 [(2,W.n v),(3,iaL 23 0 N I),(4,lb z)]]<|br h (λG h=>?_) λG h=>?_
 ·exact go [] []<|nxX h _ c
 ·refine bd h λy ey h=>?_
  unfold ndM at ey
  refine bd ey λR B ey=>bd ey λo C ey=>bd ey λkk D ey=>bd ey λyv E ey=>bd ey λl F ey=>?_
  obtain rfl:=Option.some.inj ey
  refine bd h λS es2 h=>bd h λmn emn h=>bd h λs3 es3 h=>?_
  refine go [] [rg 17 [(3,W.n B),(4,ix C)],rg 18 [(2,W.k (w55 D))],rg 19 [(2,W.k (w56 E))],rg 20 [(1,W.k (w57 F)),(2,ln l)]]<|lpX (V:=λ(t:Int×LS) u=>VN N t.2 u) (st:=Z5t m cl N 4 kk yv.2 l) (id:=6) (W:=VN N) (stJ:=Zax m cl N 4 kk yv.2) es2 c (λH L=>Zje H L) λT a=>?_
  refine goN [25] []<|po<|pr 5 [(4,W.n emn)]<|pcX (p:=True∧True∧True) nmQ (w53 es3 a.1 a.2) ⟨trivial,trivial,trivial⟩ sz46 λr bs' K=>?_
  obtain⟨P,e,rfl,rfl⟩:=K
  exact pe<|goN [] []<|nxX h P ⟨e,(Z5p es3).trans a.2⟩
def st20l (m:Z6) (cl:List Int) (N:Nat):Int×LS→QG→SL:=λt u=>Wq m cl N t.1 t.2 u
def V20l (N:Nat) (t:Int×LS) (u:QG):Prop:=VN N t.2 u∧0≤t.1∧t.1≤4
def sj20l (N:Nat):List Int→Unit→SL:=λl _=>⟨97,[(4,.lptr 4 0 0)],[(4,{ sz:=1,rows:=[[.lsl 23 0 N]],frz:=0,pure:=false }),(23,Kw l)]⟩
theorem wl20l {m:Z6} {cl:List Int} {N:Nat} {t:Int×LS} {u:QG} {x} {Γ:Ctx} (h:levF (ndM cl m) t=some x) (b:V20l N t u):
  A prog Γ (lpC f29 703) [] (RdX (V20l N) (st20l m cl N) 2 (λl (_:Unit)=>l.length=N) (sj20l N) x) (st20l m cl N t u).s:=by
 obtain⟨L,s⟩:=t
 unfold levF at h
 obtain⟨b,o,p⟩:=b
 refine go [] []<|br h (λg h=>bd h λr es h=>bd h λi ei j=>?_) λg h=>go [] []<|dnX h () b.2
 dsimp only at g es ei b o p
 have k:0≤i∧i≤4:=by
  cases ei
  rw[Tot.J5 (by have:=of_decide_eq_true g; omega) (by omega)]
  have:=of_decide_eq_true g
  omega
 have q:L=1∨L=2∨L=3∨L=4:=by have:=of_decide_eq_true g; omega
 rcases q with e|e|e|e <;> subst e
 ·exact go [] []<|lpX (V:=VN N) (st:=Wq m cl N 1) (id:=4) (W:=VN N) (stJ:=Wq m cl N 1) es b (λc d=>wl20p_1 c d) λf a=>goN [] [rg 12 [(1,W.n ei)]]<|nxX j f ⟨a,k⟩
 ·exact go [] []<|lpX (V:=VN N) (st:=Wq m cl N 2) (id:=4) (W:=VN N) (stJ:=Wq m cl N 2) es b (λc d=>wl20p_2 c d) λf a=>goN [] [rg 12 [(1,W.n ei)]]<|nxX j f ⟨a,k⟩
 ·exact go [] []<|lpX (V:=VN N) (st:=Wq m cl N 3) (id:=4) (W:=VN N) (stJ:=Wq m cl N 3) es b (λc d=>wl20p_3 c d) λf a=>goN [] [rg 12 [(1,W.n ei)]]<|nxX j f ⟨a,k⟩
 ·exact go [] []<|lpX (V:=VN N) (st:=Wq m cl N 4) (id:=4) (W:=VN N) (stJ:=Wq m cl N 4) es b (λc d=>wl20p_4 c d) λf a=>goN [] [rg 12 [(1,W.n ei)]]<|nxX j f ⟨a,k⟩
end Go.Proofs
namespace Go.Proofs
open Tryz
open Go.Den Go.Den.W Go.RowKit
def Ki (m:Z6):Option (List Int):=
 (Zai m.Y0).bind λcl=>
 (W2 8 (m.Z7.length:Int) (m.Z7.length:Int)).bind λ_=>
 (Z5f m).bind λrs=>Znk (m.Z7.length:Int).toNat rs (ndM cl m)
def R29 (a:List Int):D:= .sl false (a.map Z5)
theorem w29 {a r} (h:Ki a=some r):Zi prog 29 [.agg (Zr a)] (R29 r):=by
 unfold Ki Znk at h
 refine cs f29<|bd h λcl f h=>bd h λ_ g h=>bd h λrs i h=>bd h λs es h=>?_
 have c:VN ((List.replicate (a.Z7.length:Int).toNat (0:Int)).map Z5).length ⟨List.replicate (a.Z7.length:Int).toNat 0,λ_=>[]⟩ (λ_=>([],0,0)):=⟨λk _ _=>⟨rfl,rfl⟩,by simp⟩
 refine go [] [rg 0 [(0,bo)],rg 1 [(2,W.k (w52 f))],rg 2 [(2,ln a.Z7),(3,mk (0:Int) g)],rg 4 [(0,g0)],rg 5 [(1,W.k (w54 i)),(2,ln rs)]]<|
  lpX (V:=λ(t:Int×LS) u=>VN ((List.replicate (a.Z7.length:Int).toNat (0:Int)).map Z5).length t.2 u) (st:=st20a a cl rs ((List.replicate (a.Z7.length:Int).toNat (0:Int)).map Z5).length) (id:=0) (W:=VN ((List.replicate (a.Z7.length:Int).toNat (0:Int)).map Z5).length) (stJ:=sj20a a cl ((List.replicate (a.Z7.length:Int).toNat (0:Int)).map Z5).length) es c (λb d=>wl20a b d) (λu j=>?_) (cv:=[.blk 5 1 1001 1,.blk 5 2 1002 1,.blk 5 3 1003 1,.blk 5 4 1004 1])
 refine goN [] []<|lpX (V:=V20l ((List.replicate (a.Z7.length:Int).toNat (0:Int)).map Z5).length) (st:=st20l a cl ((List.replicate (a.Z7.length:Int).toNat (0:Int)).map Z5).length) (id:=2) (W:=λl (_:Unit)=>l.length=((List.replicate (a.Z7.length:Int).toNat (0:Int)).map Z5).length) (stJ:=sj20l ((List.replicate (a.Z7.length:Int).toNat (0:Int)).map Z5).length) h ⟨j,show (0:Int)≤4 by decide,show (4:Int)≤4 by decide⟩ (λb d=>wl20l b d) λ_ e=>?_
 refine goN [] []<|rtB (R:=R29) (x:=r) rfl (.sl false (((r.map Z5).drop 0).take ((List.replicate (a.Z7.length:Int).toNat (0:Int)).map Z5).length)) (p:=(0+((List.replicate (a.Z7.length:Int).toNat (0:Int)).map Z5).length≤(r.map Z5).length)∧True) ⟨by rw[← e]; simp,trivial⟩ ?_
 show D.sl false _=D.sl false _
 rw[List.drop_zero,← e,List.take_of_length_le (by simp)]
end Go.Proofs
