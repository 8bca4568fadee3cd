/-
  append; and the soundness of 'stepD' as a whole.
-/
import Derived.Test.YtiiilinleagffaaGreatDoorDenIO
import Derived.Laws.BytesArg
set_option linter.unusedVariables false
set_option linter.unusedSimpArgs false
namespace Go.Den
open Go.RowKit
variable {P:Program} {Γ:Ctx} {σ:S} {a:Act} {w w':World} {G G':Nat→Nat} {β β':Nat→Option (Nat×Nat)}
structure Mb (P:Program) (w:World) (G:Nat→Nat) (v:Value) (rows:List (List D)) (size:Nat) (cells:List Value):Prop where
 shape:∃ a0 cap,v=.slice a0 rows.length cap∧rows.length≤cap
 len:cells.length=rows.length*size
 run:∀ w':World,(∀ ad,w'.cell? ad=w.cell? ad)→(Builtin.firstCells size rows.length v).run P w'=.ok cells.toArray w'
 one:∀ u∈cells,one u=true
 rep:∀ (i j:Nat) r d,rows[i]?=some r→r[j]?=some d→∃ u,cells[i*size+j]?=some u∧Z9 w G (λ_=>none) u d∧d.dat=true
structure Z2c (P:Program) (w:World) (G:Nat→Nat) (v:Value) (rows:List (List D)) (size:Nat) (cells:List Value):Prop where
 lenr:∀ w':World,(Builtin.lenOf v).run P w'=.ok rows.length w'
 len:cells.length=rows.length*size
 run:∀ w':World,(∀ ad,w'.cell? ad=w.cell? ad)→(Builtin.firstCells size rows.length v).run P w'=.ok cells.toArray w'
 one:∀ u∈cells,one u=true
 rep:∀ (i j:Nat) r d,rows[i]?=some r→r[j]?=some d→∃ u,cells[i*size+j]?=some u∧Z9 w G (λ_=>none) u d∧d.dat=true
theorem Mb.news {v:Value} {rows:List (List D)} {size:Nat} {cells:List Value} (h:Mb P w G v rows size cells):Z2c P w G v rows size cells:=by
 obtain⟨⟨ax,cx,hvx,-⟩,h2,h3,h4,h5⟩:=h
 exact⟨λw'=>by subst hvx; simp[Builtin.lenOf],h2,h3,h4,h5⟩
theorem Zx8 (s:ByteArray) {size:Nat} (hs:∀ r∈(s.data.toList.map λb=>[D.int .u8 b.toNat]),r.length=size):
  Z2c P w G (.string s) (s.data.toList.map λb=>[.int .u8 b.toNat]) size (s.data.toList.map λb=> .int .u8 b.toNat):=by
 have hsize:s.data.toList=[]∨size=1:=by
  cases hd:s.data.toList with
  | nil=>exact .inl rfl
  | cons b r=>have:=hs [D.int .u8 b.toNat] (by rw[hd]; simp); exact .inr this.symm
 refine⟨λw'=>?_,?_,λw' _=>?_,λu hu=>?_,λi j r d hr hd=>?_⟩
 ·simp[Builtin.lenOf]
 ·rcases hsize with h|h
  ·rw[h]; simp
  ·rw[h]; simp
 ·have e:(List.map (λb=>[D.int IntKind.u8 ↑b.toNat]) s.data.toList).length=s.size:=by simp
  rw[e]
  simp only[Builtin.firstCells,ByteArray.extract_zero_size,Sem.run_pure]
  congr 1
  apply Array.ext'
  simp
 ·simp at hu; obtain⟨b,-,rfl⟩:=hu; rfl
 ·rcases hsize with h|h
  ·rw[h] at hr; simp at hr
  ·subst h
   rw[List.getElem?_map] at hr
   obtain⟨b,hb,rfl⟩:=Xt hr
   cases j with
   | zero=>simp at hd; subst hd; exact⟨.int .u8 b.toNat,by rw[List.getElem?_map,Nat.mul_one,Nat.add_zero,hb]; rfl,.int _ _,rfl⟩
   | succ j=>simp at hd
theorem Zre (v:Value) (x:Option Addr) (cap:Nat) (hv:v=.slice x 0 cap) (size:Nat):Mb P w G v [] size [] :=
 ⟨⟨x,cap,hv,Nat.zero_le _⟩,by simp,λw' _=>by subst hv; cases x <;> simp[Builtin.firstCells,loadCells,loadCellsFrom],by simp,λi j r d h=>by simp at h⟩
theorem Zrk {v:Value} {b off n cap size:Nat} (hv:v=.slice (some ⟨b,off,none⟩) n cap) (hcap:n≤cap) {rows:List (List D)} (hn:rows.length=n) (hsz:∀ (i:Nat) r,rows[i]?=some r→r.length=size)
  (f:Nat→Value) (hcell:∀ i j,i<n→j<size→w.cell? ⟨b,off+(i*size+j),none⟩=some (f (i*size+j)))
  (hrep:∀ (i j:Nat) r d,rows[i]?=some r→r[j]?=some d→one (f (i*size+j))=true∧Z9 w G (λ_=>none) (f (i*size+j)) d∧d.dat=true):
  Mb P w G v rows size ((List.range (n*size)).map f):=by
 have hidx:∀ k,k<n*size→∃ i j,i<n∧j<size∧k=i*size+j:=λk hk=>by
  have hs:0<size:=by
   rcases Nat.eq_zero_or_pos size with h|h
   ·subst h; simp at hk
   ·exact h
  refine⟨k / size,k % size,Nat.div_lt_of_lt_mul (by rw[Nat.mul_comm]; exact hk),Nat.mod_lt _ hs,?_⟩
  rw[Nat.mul_comm]; exact(Nat.div_add_mod k size).symm
 refine⟨⟨_,cap,by rw[hn]; exact hv,by omega⟩,by simp[hn],λw' hw'=>?_,λu hu=>?_,λi j r d hr hd=>?_⟩
 ·subst hv
  simp only[Builtin.firstCells,hn]
  refine run_loadCells (P:=P) w' _ _ f (λk hk=>?_)
  obtain⟨i,j,hi,hj,rfl⟩:=hidx k hk
  rw[Addr.add_none,hw']
  exact hcell i j hi hj
 ·simp only[List.mem_map,List.mem_range] at hu
  obtain⟨k,hk,rfl⟩:=hu
  obtain⟨i,j,hi,hj,rfl⟩:=hidx k hk
  have hr:rows[i]?=some rows[i] :=List.getElem?_eq_getElem (by omega)
  have hl:=hsz i _ hr
  exact(hrep i j _ _ hr (List.getElem?_eq_getElem (by omega))).1
 ·obtain⟨h1,h2,h3⟩:=hrep i j r d hr hd
  have hi:i<n:=by
   rcases Nat.lt_or_ge i rows.length with h'|h'
   ·omega
   ·rw[List.getElem?_eq_none h'] at hr; cases hr
  have hj:j<size:=by
   rw[← hsz i r hr]
   rcases Nat.lt_or_ge j r.length with h'|h'
   ·exact h'
   ·rw[List.getElem?_eq_none h'] at hd; cases hd
  have hk:i*size+j<n*size:=by
   have:(i+1)*size≤n*size:=Nat.mul_le_mul_right _ (by omega)
   rw[Nat.add_mul] at this; omega
  exact⟨f (i*size+j),by simp[hk],h2,h3⟩
theorem Zvt {v:Value} {c:Bool} {rows:List (List D)} (h:Z9 w G β v (.sl c rows)) {size:Nat} (hsz:∀ r∈rows,r.length=size):∃ cells,Mb P w G v rows size cells:=by
 cases h with
 | slnil _ x=>exact⟨[],Zre _ x 0 rfl size⟩
 | sl _ b off n cap sz _ val hn hcc hcap hsz' himm hcell hone hdat hrep=>
  have hss:∀ i,i<n→sz=size:=λi hi=>by
   rw[← hsz' i rows[i] (List.getElem?_eq_getElem (by omega))]
   exact hsz _ (List.getElem_mem _)
  refine⟨_,Zrk rfl hcap hn (λi r hr=>hsz r (List.mem_of_getElem? hr)) (λk=>val (k / size) (k % size)) (λi j hi hj=>?_) (λi j r d hr hd=>?_)⟩
  ·have e:=hss i hi
   subst e
   have:=hcell i j hi hj
   rw[show (i*sz+j) / sz=i by rw[Nat.mul_comm,Nat.mul_add_div (by omega),Nat.div_eq_of_lt hj,Nat.add_zero],show (i*sz+j) % sz=j by rw[Nat.mul_comm,Nat.mul_add_mod,Nat.mod_eq_of_lt hj]]
   rw[← this]; congr 2; omega
  ·have hi:i<n:=by
    rcases Nat.lt_or_ge i rows.length with h'|h'
    ·omega
    ·rw[List.getElem?_eq_none h'] at hr; cases hr
   have e:=hss i hi
   subst e
   have hj:j<sz:=by
    rw[← hsz' i r hr]
    rcases Nat.lt_or_ge j r.length with h'|h'
    ·exact h'
    ·rw[List.getElem?_eq_none h'] at hd; cases hd
   rw[show (i*sz+j) / sz=i by rw[Nat.mul_comm,Nat.mul_add_div (by omega),Nat.div_eq_of_lt hj,Nat.add_zero],show (i*sz+j) % sz=j by rw[Nat.mul_comm,Nat.mul_add_mod,Nat.mod_eq_of_lt hj]]
   exact⟨hone i j hi hj,Z0z (hrep i j r d hr hd) (hdat i j r d hr hd),hdat i j r d hr hd⟩
theorem Zm3 {v:Value} {b lo n:Nat} {blk:Blk} (h:Za Γ σ a w G β) (hv:Z9 w G β v (.lsl b lo n)) (hb:σ.heap b=some blk) (hp:blk.pure=true) (hle:lo+n≤blk.rows.length) {size:Nat}
  (hsz:∀ r∈(blk.rows.drop lo).take n,r.length=size):∃ cells,Mb P w G v ((blk.rows.drop lo).take n) size cells:=by
 have hlen:((blk.rows.drop lo).take n).length=n:=by simp; omega
 cases hv with
 | lslnil _ x=>exact⟨[],by simpa using Zre _ x 0 rfl size⟩
 | lsl _ _ _ cap c sz off hβ hcap hoff hroom=>
  obtain⟨rfl,hB⟩:=h.blk hb hβ
  obtain⟨vs,e,fr,h1,h2,h3,h4⟩:=hB.cells
  have hback:∀ (i:Nat) r,((blk.rows.drop lo).take n)[i]?=some r→blk.rows[lo+i]?=some r∧i<n:=λi r hr=>by
   rw[List.getElem?_take] at hr
   split at hr
   ·rw[List.getElem?_drop] at hr; exact⟨hr,by assumption⟩
   ·cases hr
  have hrow:∀ i,i<n→∃ r,blk.rows[lo+i]?=some r∧((blk.rows.drop lo).take n)[i]?=some r∧r.length=blk.sz∧r.length=size:=λi hi=>by
   have hlt:lo+i<blk.rows.length:=by omega
   have hm:((blk.rows.drop lo).take n)[i]?=some blk.rows[lo+i] :=by
    rw[List.getElem?_take_of_lt hi,List.getElem?_drop]; exact List.getElem?_eq_getElem hlt
   exact⟨blk.rows[lo+i],List.getElem?_eq_getElem hlt,hm,hB.hsz (lo+i) _ (List.getElem?_eq_getElem hlt),hsz _ (List.mem_of_getElem? hm)⟩
  refine⟨_,Zrk (w:=w) (G:=G) (b:=c) (off:=off) rfl hcap hlen (λi r hr=>hsz r (List.mem_of_getElem? hr)) (λk=>vs.getD (lo*blk.sz+k) Go.undef) (λi j hi hj=>?_) (λi j r d hr hd=>?_)⟩
  ·obtain⟨r,hr,-,hl1,hl2⟩:=hrow i hi
   have hss:size=blk.sz:=by omega
   subst hss
   obtain⟨u,a1,a2,a3⟩:=h4 (lo+i) j r r[j] hr (List.getElem?_eq_getElem (by omega))
   rw[hoff.resolve_left (by omega),Uo,h1]
   have:lo*blk.sz+(i*blk.sz+j)=(lo+i)*blk.sz+j:=by rw[Nat.add_mul]; omega
   simp[this,a1,Array.getD_eq_getD_getElem?]
  ·obtain⟨hr',hi⟩:=hback i r hr
   obtain⟨r2,hr2,-,hl1,hl2⟩:=hrow i hi
   rw[hr'] at hr2; cases hr2
   have hss:size=blk.sz:=by omega
   subst hss
   obtain⟨u,a1,a2,a3⟩:=h4 (lo+i) j r d hr' hd
   have:lo*blk.sz+(i*blk.sz+j)=(lo+i)*blk.sz+j:=by rw[Nat.add_mul]; omega
   simp only[this,Array.getD_eq_getD_getElem?,a1,Option.getD_some]
   exact⟨a2,Z0z a3 (hB.dat hp _ j r d hr' hd),hB.dat hp _ j r d hr' hd⟩
theorem Zrp {v:Value} {x:D} (h:Za Γ σ a w G β) (hv:Z9 w G β v x) {rows:List (List D)} {q:Prop} (hr:L1 σ x=some (rows,q)) (hq:q) {size:Nat} (hsz:∀ r∈rows,r.length=size):
  ∃ cells,Mb P w G v rows size cells:=by
 unfold L1 at hr
 split at hr
 ·cases hr; exact Zvt hv hsz
 ·split at hr
  ·rename_i blk hb
   split at hr
   ·rename_i hp
    cases hr
    exact Zm3 h hv hb hp hq hsz
   ·cases hr
  ·cases hr
 ·cases hr
theorem Zdu {t t':TypeId} {e:TypeId} (ht:P.underlying t=some (.slice e)) {v:Value} {x:D} (h:Za Γ σ a w G β) (hv:Z9 w G β v x) {rows:List (List D)} {q:Prop} (hr:Z0g P σ t t' x=some (rows,q)) (hq:q) {size:Nat} (hsz:∀ r∈rows,r.length=size):
  (∃ cells,Z2c P w G v rows size cells)∧∃ td,P.underlying t'=some td∧(td=.slice e∨td=.string):=by
 unfold Z0g at hr
 split at hr
 ·split at hr
  ·rename_i hs
   cases hr
   obtain⟨s,rfl,rfl⟩:=Mi hv
   exact⟨⟨_,Zx8 s hsz⟩,_,hs,.inr rfl⟩
  ·cases hr
 ·split at hr
  ·rename_i htt
   obtain rfl:t=t':=by simpa using htt
   obtain⟨c,hc⟩:=Zrp (P:=P) h hv hr hq hsz
   exact⟨⟨c,hc.news⟩,_,ht,.inl rfl⟩
  ·cases hr
theorem Zlo {t t' ty e:TypeId} {td:TypeDesc} {i:TypeInfo} {z:Value} (ht:P.underlying t=some (.slice e)) (ht':P.underlying t'=some td) (htd:td=.slice e∨td=.string) (hi:P.info? e=some i) (hz:i.zero=some z) {vs vx:Value} {olds news:List (List D)} {co cn:List Value}
  (ho:Mb P w G vs olds i.size co) (hn:Z2c P w G vx news i.size cn) {ao:Option Addr} {cap:Nat} (hvs:vs=.slice ao olds.length cap) (hg:cap<olds.length+news.length)
  (h63:olds.length+news.length≤9223372036854775807) (hfit:(olds.length+news.length)*i.bytes≤140737488355328):
  (Builtin.append_ #[t,t'] ty #[vs,vx]).run P w=
   .ok (.slice (some ⟨w.heap.size,0,none⟩) (olds.length+news.length) (grownCap w (olds.length+news.length) cap e))
    (w.drew.alloc (.cells (co.toArray++cn.toArray++Builtin.zeroCells z.cells (grownCap w (olds.length+news.length) cap e - (olds.length+news.length))) e)):=by
 have h1:=ho.run w.drew (λ_=>rfl)
 have h2:=hn.run w.drew (λ_=>rfl)
 have h3:=hn.lenr w
 subst hvs
 have hn': ¬ (olds.length+news.length≤cap):=by omega
 have h63': ¬ (9223372036854775807<((olds.length:Int)+(news.length:Int))):=by omega
 have h48': ¬ (281474976710656<Builtin.nextslicecap (olds.length+news.length) cap*i.bytes):=by have:=growslice_fits hg hfit; omega
 rcases htd with rfl|rfl
 ·simp[Builtin.append_,run_underlying ht,run_underlying ht',sizeOf,typeInfo,zeroValue,hi,hz,h3,hn',h63',h48',Question.forced,h1,h2,newRow,grownCap]
  congr 2
  apply Array.ext'
  simp[List.append_assoc]
 ·simp[Builtin.append_,run_underlying ht,run_underlying ht',sizeOf,typeInfo,zeroValue,hi,hz,h3,hn',h63',h48',Question.forced,h1,h2,newRow,grownCap]
  congr 2
  apply Array.ext'
  simp[List.append_assoc]
theorem Y21 {t t' ty e:TypeId} {td:TypeDesc} {i:TypeInfo} (ht:P.underlying t=some (.slice e)) (ht':P.underlying t'=some td) (htd:td=.slice e∨td=.string) (hi:P.info? e=some i) {vx:Value} {n:Nat} {news:List (List D)} {cn:List Value}
  (hn:Z2c P w G vx news i.size cn) {c cap:Nat} (hroom:n+news.length≤cap) {cur:Array Value} {e':TypeId} {fr:Nat×Nat} (hh:w.heap[c]?=some (.cells cur e' fr))
  (hfr:∀ o,o<cur.size→ ¬ (fr.1≤o∧o<fr.2)) (hfit:(n+news.length)*i.size≤cur.size):
  ∃ cur',(Builtin.append_ #[t,t'] ty #[.slice (some ⟨c,0,none⟩) n cap,vx]).run P w=.ok (.slice (some ⟨c,0,none⟩) (n+news.length) cap) (w.setRow c cur')∧cur'.size=cur.size∧
   ∀ k,cur'[k]?=if n*i.size≤k∧k<n*i.size+cn.length then cn[k - n*i.size]? else cur[k]? :=by
 have h2:=hn.run w (λ_=>rfl)
 have h3:=hn.lenr w
 obtain⟨cur',e1,e2,e3⟩:=Zd9 (P:=P) c (n*i.size) e' fr cn 0 cur w hh hfr (by rw[hn.len,Nat.add_zero,← Nat.add_mul]; exact hfit) hn.one
 refine⟨cur',?_,e2,by simpa using e3⟩
 rcases htd with rfl|rfl
 ·simp[Builtin.append_,run_underlying ht,run_underlying ht',sizeOf,typeInfo,hi,h3,hroom,h2,Addr.add_none,e1]
 ·simp[Builtin.append_,run_underlying ht,run_underlying ht',sizeOf,typeInfo,hi,h3,hroom,h2,Addr.add_none,e1]
theorem Zyf {t t' ty e:TypeId} {td:TypeDesc} {i:TypeInfo} (ht:P.underlying t=some (.slice e)) (ht':P.underlying t'=some td) (htd:td=.slice e∨td=.string) (hi:P.info? e=some i) {vx:Value} {lo n:Nat} {news:List (List D)} {cn:List Value}
  (hn:Z2c P w G vx news i.size cn) {c cap:Nat} (hroom:n+news.length≤cap) {cur:Array Value} {e':TypeId} {fr:Nat×Nat} (hh:w.heap[c]?=some (.cells cur e' fr))
  (hfr:∀ o,o<cur.size→ ¬ (fr.1≤o∧o<fr.2)) (hfit:(lo+n+news.length)*i.size≤cur.size):
  ∃ cur',(Builtin.append_ #[t,t'] ty #[.slice (some ⟨c,lo*i.size,none⟩) n cap,vx]).run P w=.ok (.slice (some ⟨c,lo*i.size,none⟩) (n+news.length) cap) (w.setRow c cur')∧cur'.size=cur.size∧
   ∀ k,cur'[k]?=if (lo+n)*i.size≤k∧k<(lo+n)*i.size+cn.length then cn[k - (lo+n)*i.size]? else cur[k]? :=by
 have h2:=hn.run w (λ_=>rfl)
 have h3:=hn.lenr w
 obtain⟨cur',e1,e2,e3⟩:=Zd9 (P:=P) c (lo*i.size+n*i.size) e' fr cn 0 cur w hh hfr (by rw[hn.len,Nat.add_zero,← Nat.add_mul,← Nat.add_mul]; exact hfit) hn.one
 refine⟨cur',?_,e2,by rw[Nat.add_mul]; simpa using e3⟩
 rcases htd with rfl|rfl
 ·simp[Builtin.append_,run_underlying ht,run_underlying ht',sizeOf,typeInfo,hi,h3,hroom,h2,Addr.add_none,e1]
 ·simp[Builtin.append_,run_underlying ht,run_underlying ht',sizeOf,typeInfo,hi,h3,hroom,h2,Addr.add_none,e1]
theorem Ma {news olds:List (List D)} {i:Nat} {r:List D} (h:(olds++news)[i]?=some r):(i<olds.length∧olds[i]?=some r)∨(olds.length≤i∧news[i - olds.length]?=some r):=by
 rw[List.getElem?_append] at h
 split at h
 ·exact .inl ⟨by assumption,h⟩
 ·exact .inr ⟨by omega,h⟩
theorem Zi4 (h:Za Γ σ a w G β) {olds news:List (List D)} {co cn:List Value} {size:Nat} {vs vx:Value} (ho:Mb P w G vs olds size co) (hn:Z2c P w G vx news size cn)
  (hso:∀ r∈olds,r.length=size) (hsn:∀ r∈news,r.length=size) {zs:Array Value} {e:TypeId} {frz:Nat} {ty:Option TypeId} (hty:∀ t,ty=some t→e=t) (hf:frz≤olds.length+news.length) {β':Nat→Option (Nat×Nat)}:
  Va (w.drew.alloc (.cells (co.toArray++cn.toArray++zs) e)) G β' Γ w.heap.size { sz:=size,rows:=olds++news,frz,pure:=true,ty }:=by
 have hG0:G w.heap.size=0:=h.fresh _ (Nat.le_refl _)
 have hb:Below w.heap.size w (w.drew.alloc (.cells (co.toArray++cn.toArray++zs) e)):=(Z72 w).trans (Lu w.drew _)
 have hlift:∀ u d,Z9 w G (λ_=>none) u d→d.dat=true→Z9 (w.drew.alloc (.cells (co.toArray++cn.toArray++zs) e)) G β' u d:=λu d hu hd=>
  hu.of_dat (λb o ho=>Kx (hb.block b (h.marksLt ho)) o) (λ_=>Nat.le_refl _) hd
 refine⟨.inl h.big,(λk hk=>by cases hk),(λt ht=>by obtain rfl:=hty t ht; exact⟨_,_,L3 w.drew _,Nat.le_refl _⟩),(λo ho=>by rw[hG0] at ho; omega),by simpa using hf,λ_ i j r d hr hd=>?_,λi r hr=>?_,_,e,(0,0),L3 w.drew _,λo _=>by simp,?_,λi j r d hr hd=>?_⟩
 ·rcases Ma hr with ⟨_,hr'⟩|⟨_,hr'⟩
  ·obtain⟨u,-,-,h3⟩:=ho.rep _ j r d hr' hd; exact h3
  ·obtain⟨u,-,-,h3⟩:=hn.rep _ j r d hr' hd; exact h3
 ·rcases Ma hr with ⟨_,hr'⟩|⟨_,hr'⟩
  ·exact hso r (List.mem_of_getElem? hr')
  ·exact hsn r (List.mem_of_getElem? hr')
 ·show (olds++news).length*size≤_
  simp[ho.len,hn.len,Nat.add_mul]
 ·show ∃ v,(co.toArray++cn.toArray++zs)[i*size+j]?=some v∧_
  rcases Ma hr with ⟨hi,hr'⟩|⟨hi,hr'⟩
  ·obtain⟨u,h1,h2,h3⟩:=ho.rep i j r d hr' hd
   have hlt:i*size+j<co.length:=by
    rcases Nat.lt_or_ge (i*size+j) co.length with h'|h'
    ·exact h'
    ·rw[List.getElem?_eq_none h'] at h1; cases h1
   refine⟨u,?_,ho.one u (List.mem_of_getElem? h1),hlift u d h2 h3⟩
   rw[Array.append_assoc,Array.getElem?_append_left (by simpa using hlt)]
   simpa using h1
  ·obtain⟨u,h1,h2,h3⟩:=hn.rep _ j r d hr' hd
   have hlt:(i - olds.length)*size+j<cn.length:=by
    rcases Nat.lt_or_ge ((i - olds.length)*size+j) cn.length with h'|h'
    ·exact h'
    ·rw[List.getElem?_eq_none h'] at h1; cases h1
   refine⟨u,?_,hn.one u (List.mem_of_getElem? h1),hlift u d h2 h3⟩
   have hidx:i*size+j=co.length+((i - olds.length)*size+j):=by
    rw[ho.len,← Nat.add_assoc,← Nat.add_mul]; congr 2; omega
   rw[hidx,Array.append_assoc,Array.getElem?_append_right (by simp),Array.getElem?_append_left (by simp; omega)]
   simpa using h1
theorem Y23 (hC : Za Γ σ a w G β) {o:Oper} {args:Array Operand} {ts:Array TypeId} (ho:o.op=.call { callee:= .builtin .append,args,argTypes:=ts }) {so xo:Operand} {t:TypeId}
  {t':TypeId} (h0:args= #[so,xo]) (ht:ts= #[t,t']) {told:Yt} {σ':S} {q:Prop} (h:Z1i P σ o t t' (σ.ev so) (σ.ev xo) told=some (σ',q)) (hq:q):Reach P Γ o a w σ':=by
 subst h0 ht
 have hs:=Vo hC so
 have hx:=Vo hC xo
 have hrun:∀ {v:Value} {w':World},(Builtin.append_ #[t,t'] o.type #[a.eval so,a.eval xo]).run P w=.ok v w'→(execOp a.eval o).run P w=.ok (.value v) w':=λh=>by
  simp[execOp,ho,resolve,invoke,builtin,h]
 unfold Z1i at h
 split at h
 ·cases h
 ·rename_i e he
  have hu:=Z5r he
  split at h
  ·rename_i ie news qn hie hnews
   split at h
   ·cases h
   ·rename_i z hz
    split at h
    ·cases h
    ·rename_i hcond
     simp only[Bool.and_eq_true,beq_iff_eq] at hcond
     split at h
     ·-- a block of the call's own
      rename_i b n hse
      rw[hse] at hs
      split at h
      ·rename_i blk hb
       split at h
       ·rename_i hc2
        simp only[Bool.and_eq_true,beq_iff_eq] at hc2
        obtain⟨⟨hpure,hbsz⟩,hdst⟩:=hc2
        cases h
        obtain⟨q1,q2,q3,q4,q5,q6⟩:=hq
        rw[← q4] at q5 q6 ⊢
        rw[List.length_append]
        subst q2
        obtain⟨⟨cn,hn⟩,td,htd',htd⟩:=Zdu (P:=P) hu hC hx hnews q1 q3
        have hso:∀ r∈blk.rows,r.length=ie.size:=λr hr=>by
         obtain⟨i,hi⟩:=List.getElem?_of_mem hr
         rcases hC.heap b blk hb with ⟨_,h1,-⟩|⟨c,h1,hB⟩
         ·rw[h1] at hr; cases hr
         ·rw[hB.hsz i r hi,hbsz]
        obtain⟨co,hO⟩:=Zm3 (P:=P) hC hs hb hpure (by omega) (size:=ie.size) (λr hr=>hso r (List.mem_of_mem_drop (List.mem_of_mem_take hr)))
        rw[show (blk.rows.drop 0).take blk.rows.length=blk.rows by simp] at hO
        obtain⟨ao,cap,hva,hcap⟩:=hO.shape
        simp only[List.length_append] at q5 q6
        have hput:∀ {w2 G2 β2 v},Za Γ ((σ.drop b).setB b (some { blk with rows:=blk.rows++news,pin:=none,ty:=tyM told.mt blk.ty e })) a w2 G2 β2→Z9 w2 G2 β2 v (.lsl b 0 (blk.rows.length+news.length))→
          Za Γ (((σ.drop b).setB b (some { blk with rows:=blk.rows++news,pin:=none,ty:=tyM told.mt blk.ty e })).put o.dst (.lsl b 0 (blk.rows.length+news.length))) (a.put o.dst v) w2 G2 β2:=λh1 h2=>h1.put (λt ht=>Uv hdst t ht) h2
        have hnone:(σ.drop b).heap b=none:=by simp[S.drop]
        by_cases hroom:blk.rows.length+news.length≤cap
        ·-- there is room
         generalize hve:a.eval so=vs at hs hva
         obtain⟨n0,hn0⟩:∃ n0,n0=blk.rows.length:=⟨_,rfl⟩
         rw[← hn0] at hs
         cases hs with
         | lslnil _ x=>
          have hr0:blk.rows=[] :=List.eq_nil_of_length_eq_zero hn0.symm
          have hcap0:cap=0:=by injection hva with _ _ h; exact h.symm
          have hm:news=[] :=List.eq_nil_of_length_eq_zero (by omega)
          subst hm
          have hcn:cn=[] :=List.eq_nil_of_length_eq_zero (by simpa using hn.len)
          subst hcn
          have hfc:=hn.run w (λ_=>rfl)
          have hln:=hn.lenr w
          have hr:(Builtin.append_ #[t,t'] o.type #[a.eval so,a.eval xo]).run P w=.ok (.slice x 0 0) w:=by
           rw[hve]
           simp at hfc hln
           rcases htd with rfl|rfl <;> cases x <;> simp[Builtin.append_,run_underlying hu,run_underlying htd',sizeOf,typeInfo,hie,hln,hfc,storeCells]
          refine Reach.of_value (hrun hr) (hput ((hC.drop b).nameNil hnone ⟨by simp[hr0],?_⟩) (by rw[show blk.rows.length+([]:List (List D)).length=0 by simp[hr0]]; exact .lslnil b x))
          rcases hC.heap b blk hb with ⟨_,_,h2⟩|⟨c,h1,hB⟩
          ·exact h2
          ·have:=hB.top; rw[hr0] at this; simpa using this
         | lsl _ _ _ cap' c sz off hβ hcap' hoff hroom'=>
          obtain⟨rfl,rfl,rfl⟩:ao=some ⟨c,off,none⟩∧n0=blk.rows.length∧cap'=cap:=by injection hva with h1 h2 h3; exact⟨h1.symm,h2,h3⟩
          obtain⟨rfl,hB⟩:=hC.blk hb hβ
          obtain⟨cur,e',fr,k1,k2,k3,k4⟩:=hB.cells
          have hoff0:off=0∨cap'=0:=by rcases hoff with h|h; exact .inr h; exact .inl (by simpa using h)
          have hfit:(blk.rows.length+news.length)*ie.size≤cur.size:=by
           obtain⟨vs2,e2,fr2,l1,l2⟩:=hroom'
           rw[k1] at l1; cases l1
           rcases l2 with l2|l2
           ·have:blk.rows.length+news.length=0:=by omega
            rw[this]; simp
           ·rw[← hbsz]
            refine Nat.le_trans (Nat.mul_le_mul_right _ ?_) l2; omega
          by_cases hcap0:cap'=0
          ·have hr0:blk.rows=[] :=List.eq_nil_of_length_eq_zero (by omega)
           have hm:news=[] :=List.eq_nil_of_length_eq_zero (by omega)
           subst hm
           have hcn:cn=[] :=List.eq_nil_of_length_eq_zero (by simpa using hn.len)
           subst hcn
           have hfc:=hn.run w (λ_=>rfl)
           have hln:=hn.lenr w
           have hr:(Builtin.append_ #[t,t'] o.type #[a.eval so,a.eval xo]).run P w=.ok (.slice (some ⟨c,off,none⟩) 0 0) w:=by
            rw[hve,hr0,hcap0]
            simp at hfc hln
            rcases htd with rfl|rfl <;> simp[Builtin.append_,run_underlying hu,run_underlying htd',sizeOf,typeInfo,hie,hln,hfc,storeCells]
           refine Reach.of_value (hrun hr) (hput ((hC.drop b).nameNil hnone ⟨by simp[hr0],?_⟩) (by rw[show blk.rows.length+([]:List (List D)).length=0 by simp[hr0]]; exact .lslnil b _))
           have:=hB.top; rw[hr0] at this; simpa using this
          ·obtain rfl:off=0:=hoff0.resolve_right hcap0
           obtain⟨cur',r1,r2,r3⟩:=Y21 (ty:=o.type) hu htd' htd hie hn hroom k1 k2 hfit
           rw[hve] at hrun
           have hW:Lf Γ G c w (w.setRow c cur'):=Zjo k1 r2 hB.own λk hk=>by
            rw[r3 k,if_neg]
            intro hcon
            have h5:=hB.frz k hk
            have:blk.frz*blk.sz≤blk.rows.length*ie.size:=by rw[← hbsz]; exact Nat.mul_le_mul_right _ (by have:=hB.top; omega)
            omega
           have hfree:∀ b' s,upd β b none b'≠some (c,s):=λb' s hbs=>by
            unfold upd at hbs
            split at hbs
            ·cases hbs
            ·rename_i hne; exact hne (hC.inj b' b c s blk.sz hbs hβ)
           have hC1:=(hC.drop b).scratch hfree hW
           have hlift:∀ u d,Z9 w G (λ_=>none) u d→d.dat=true→Z9 (w.setRow c cur') G (upd β b none) u d:=λu d hu hd=>hu.of_dat hW.cells (λ_=>Nat.le_refl _) hd
           have hB':Va (w.setRow c cur') G (upd β b none) Γ c { blk with rows:=blk.rows++news,pin:=none,ty:=tyM told.mt blk.ty e }:=by
            refine⟨hB.own,(λk hk=>by cases hk),(λt ht=>by obtain⟨vs2,fr2,g,gle⟩:=hB.ty t (Zhg ht).1; rw[k1] at g; cases g; exact⟨_,_,setRow_heap w c cur cur' _ _ k1,gle⟩),hB.frz,by have:=hB.top; simp; omega,λ_ i j r d hr hd=>?_,λi r hr=>?_,cur',e',fr,setRow_heap w c cur cur' e' fr k1,λo ho=>k2 o (by omega),?_,λi j r d hr hd=>?_⟩
            ·rcases Ma hr with ⟨_,hr'⟩|⟨_,hr'⟩
             ·exact hB.dat hpure _ j r d hr' hd
             ·obtain⟨u,-,-,h3⟩:=hn.rep _ j r d hr' hd; exact h3
            ·rcases Ma hr with ⟨_,hr'⟩|⟨_,hr'⟩
             ·exact hB.hsz _ r hr'
             ·show _=blk.sz
              rw[hbsz]; exact q3 r (List.mem_of_getElem? hr')
            ·show (blk.rows++news).length*blk.sz≤_
             rw[List.length_append,hbsz,r2]; exact hfit
            ·show ∃ v,cur'[i*blk.sz+j]?=some v∧_
             rcases Ma hr with ⟨hi,hr'⟩|⟨hi,hr'⟩
             ·obtain⟨u,h1,h2,h3⟩:=k4 i j r d hr' hd
              have hj:j<blk.sz:=by
               rw[← hB.hsz i r hr']
               rcases Nat.lt_or_ge j r.length with h'|h'
               ·exact h'
               ·rw[List.getElem?_eq_none h'] at hd; cases hd
              have hlt:i*blk.sz+j<blk.rows.length*ie.size:=by
               rw[← hbsz]
               have:(i+1)*blk.sz≤blk.rows.length*blk.sz:=Nat.mul_le_mul_right _ (by omega)
               rw[Nat.add_mul] at this; omega
              exact⟨u,by rw[r3,if_neg (by omega)]; exact h1,h2,hlift u d (Z0z h3 (hB.dat hpure _ j r d hr' hd)) (hB.dat hpure _ j r d hr' hd)⟩
             ·obtain⟨u,h1,h2,h3⟩:=hn.rep _ j r d hr' hd
              have hlt:(i - blk.rows.length)*ie.size+j<cn.length:=by
               rcases Nat.lt_or_ge ((i - blk.rows.length)*ie.size+j) cn.length with h'|h'
               ·exact h'
               ·rw[List.getElem?_eq_none h'] at h1; cases h1
              have hidx:i*blk.sz+j=blk.rows.length*ie.size+((i - blk.rows.length)*ie.size+j):=by
               rw[hbsz,← Nat.add_assoc,← Nat.add_mul]; congr 2; omega
              exact⟨u,by rw[r3,hidx,if_pos (by omega),Nat.add_sub_cancel_left]; exact h1,hn.one u (List.mem_of_getElem? h1),hlift u d h2 h3⟩
           have hC2:=hC1.name (b:=b) (blk:={ blk with rows:=blk.rows++news,pin:=none,ty:=tyM told.mt blk.ty e }) hnone hfree hB'
           refine Reach.of_value (hrun r1) (hput hC2 ?_)
           refine .lsl b 0 _ cap' c blk.sz 0 (by simp[upd]) hroom (.inr (by simp)) ⟨cur',e',fr,setRow_heap w c cur cur' e' fr k1,?_⟩
           obtain⟨vs2,e2,fr2,l1,l2⟩:=hroom'
           rw[k1] at l1; cases l1
           rw[r2]; exact l2
        ·-- it grows
         have hrg:=Zlo hu htd' htd hie hz hO hn hva (by omega) q5 q6 (ty:=o.type)
         have hblk:=Zi4 hC hO hn hso q3 (zs:=Builtin.zeroCells z.cells (grownCap w (blk.rows.length+news.length) cap e - (blk.rows.length+news.length))) (e:=e) (frz:=blk.frz) (ty:=tyM told.mt blk.ty e) (λt ht=>(Zhg ht).2) (by
          rcases hC.heap b blk hb with ⟨_,_,h1⟩|⟨c,h1,hB⟩
          ·omega
          ·have:=hB.top; omega) (β':=upd β b none)
         have hbe:({ sz:=ie.size,rows:=blk.rows++news,frz:=blk.frz,pure:=true,ty:=tyM told.mt blk.ty e }:Blk)={ blk with rows:=blk.rows++news,pin:=none,ty:=tyM told.mt blk.ty e }:=by
          rw[← hbsz,← hpure]
         rw[hbe] at hblk
         have hbel:Below w.heap.size w (w.drew.alloc (.cells (co.toArray++cn.toArray++Builtin.zeroCells z.cells (grownCap w (blk.rows.length+news.length) cap e - (blk.rows.length+news.length))) e)):=(Z72 w).trans (Lu w.drew _)
         have hC1:=(hC.drop b).quiet hbel
         have hfree:∀ b' s,upd β b none b'≠some (w.heap.size,s):=λb' s hbs=>by
          unfold upd at hbs
          split at hbs
          ·cases hbs
          ·obtain⟨k,hk⟩:=hC.dom b' _ hbs
           rcases hC.heap b' k hk with ⟨h0,-⟩|⟨c,h0,hB⟩
           ·rw[h0] at hbs; cases hbs
           ·rw[h0] at hbs; cases hbs; have:=hB.lt; omega
         have hC2:=hC1.name (b:=b) hnone hfree hblk
         refine Reach.of_value (hrun hrg) (hput hC2 ?_)
         refine .lsl b 0 _ _ w.heap.size blk.sz 0 (by simp[upd]) (grownCap_ge w _ cap e) (.inr (by simp)) ⟨_,e,(0,0),L3 w.drew _,.inr ?_⟩
         have hzz:(Builtin.zeroCells z.cells (grownCap w (blk.rows.length+news.length) cap e - (blk.rows.length+news.length))).size=(grownCap w (blk.rows.length+news.length) cap e - (blk.rows.length+news.length))*ie.size:=by rw[size_zeroCells,hcond.1]
         simp only[Array.size_append,List.size_toArray,hO.len,hn.len,hzz,hbsz,Nat.zero_add,← Nat.add_mul]
         refine Nat.mul_le_mul_right _ ?_
         have:=grownCap_ge w (blk.rows.length+news.length) cap e
         omega
       ·cases h
      ·cases h
     ·-- .. where one more row fits in
      rename_i b lo n hse
      rw[hse] at hs
      split at h
      ·rename_i blk hb
       split at h
       ·rename_i hc2
        simp only[Bool.and_eq_true,beq_iff_eq] at hc2
        obtain⟨⟨⟨hpure,hbsz⟩,hdst⟩,hone1⟩:=hc2
        cases h
        obtain⟨q1,q2,q3,q4⟩:=hq
        rw[← q4]
        obtain⟨⟨cn,hn⟩,td,htd',htd⟩:=Zdu (P:=P) hu hC hx hnews q1 q3
        have hnone:(σ.drop b).heap b=none:=by simp[S.drop]
        generalize hve:a.eval so=vs at hs
        cases hs with
        | lsk _ _ _ _ cap c sz off hβ _ _ hfr hoff hroom=>
         have hcap:n<cap:=hfr rfl
         obtain⟨rfl,hB⟩:=hC.blk hb hβ
         obtain rfl:=hoff.resolve_left (by omega)
         obtain⟨cur,e',fr,k1,k2,k3,k4⟩:=hB.cells
         obtain⟨vs2,e2,fr2,l1,l2⟩:=hroom
         rw[k1] at l1; cases l1
         replace l2:=l2.resolve_left (by omega)
         have hfit:(lo+n+news.length)*ie.size≤cur.size:=by
          rw[← hbsz]; refine Nat.le_trans (Nat.mul_le_mul_right _ ?_) l2; omega
         obtain⟨cur',r1,r2,r3⟩:=Zyf (ty:=o.type) hu htd' htd hie hn (by omega:n+news.length≤cap) k1 k2 hfit
         rw[hbsz] at hve
         rw[hve] at hrun
         rw[q2] at r3 hfit
         have hW:Lf Γ G c w (w.setRow c cur'):=Zjo k1 r2 hB.own λk hk=>by
          rw[r3 k,if_neg]
          intro hcon
          have h5:=hB.frz k hk
          have:blk.frz*blk.sz≤blk.rows.length*ie.size:=by rw[← hbsz]; exact Nat.mul_le_mul_right _ (by have:=hB.top; omega)
          omega
         have hfree:∀ b' s,upd β b none b'≠some (c,s):=λb' s hbs=>by
          unfold upd at hbs
          split at hbs
          ·cases hbs
          ·rename_i hne; exact hne (hC.inj b' b c s blk.sz hbs hβ)
         have hC1:=(hC.drop b).scratch hfree hW
         have hlift:∀ u d,Z9 w G (λ_=>none) u d→d.dat=true→Z9 (w.setRow c cur') G (upd β b none) u d:=λu d hu hd=>hu.of_dat hW.cells (λ_=>Nat.le_refl _) hd
         have hB':Va (w.setRow c cur') G (upd β b none) Γ c { blk with rows:=blk.rows++news,pin:=none,ty:=tyM told.mt blk.ty e }:=by
          refine⟨hB.own,(λk hk=>by cases hk),(λt ht=>by obtain⟨vs2,fr2,g,gle⟩:=hB.ty t (Zhg ht).1; rw[k1] at g; cases g; exact⟨_,_,setRow_heap w c cur cur' _ _ k1,gle⟩),hB.frz,by have:=hB.top; simp; omega,λ_ i j r d hr hd=>?_,λi r hr=>?_,cur',e',fr,setRow_heap w c cur cur' e' fr k1,λo ho=>k2 o (by omega),?_,λi j r d hr hd=>?_⟩
          ·rcases Ma hr with ⟨_,hr'⟩|⟨_,hr'⟩
           ·exact hB.dat hpure _ j r d hr' hd
           ·obtain⟨u,-,-,h3⟩:=hn.rep _ j r d hr' hd; exact h3
          ·rcases Ma hr with ⟨_,hr'⟩|⟨_,hr'⟩
           ·exact hB.hsz _ r hr'
           ·show _=blk.sz
            rw[hbsz]; exact q3 r (List.mem_of_getElem? hr')
          ·show (blk.rows++news).length*blk.sz≤_
           rw[List.length_append,hbsz,r2]; exact hfit
          ·show ∃ v,cur'[i*blk.sz+j]?=some v∧_
           rcases Ma hr with ⟨hi,hr'⟩|⟨hi,hr'⟩
           ·obtain⟨u,h1,h2,h3⟩:=k4 i j r d hr' hd
            have hj:j<blk.sz:=by
             rw[← hB.hsz i r hr']
             rcases Nat.lt_or_ge j r.length with h'|h'
             ·exact h'
             ·rw[List.getElem?_eq_none h'] at hd; cases hd
            have hlt:i*blk.sz+j<blk.rows.length*ie.size:=by
             rw[← hbsz]
             have:(i+1)*blk.sz≤blk.rows.length*blk.sz:=Nat.mul_le_mul_right _ (by omega)
             rw[Nat.add_mul] at this; omega
            exact⟨u,by rw[r3,if_neg (by omega)]; exact h1,h2,hlift u d (Z0z h3 (hB.dat hpure _ j r d hr' hd)) (hB.dat hpure _ j r d hr' hd)⟩
           ·obtain⟨u,h1,h2,h3⟩:=hn.rep _ j r d hr' hd
            have hlt:(i - blk.rows.length)*ie.size+j<cn.length:=by
             rcases Nat.lt_or_ge ((i - blk.rows.length)*ie.size+j) cn.length with h'|h'
             ·exact h'
             ·rw[List.getElem?_eq_none h'] at h1; cases h1
            have hidx:i*blk.sz+j=blk.rows.length*ie.size+((i - blk.rows.length)*ie.size+j):=by
             rw[hbsz,← Nat.add_assoc,← Nat.add_mul]; congr 2; omega
            exact⟨u,by rw[r3,hidx,if_pos (by omega),Nat.add_sub_cancel_left]; exact h1,hn.one u (List.mem_of_getElem? h1),hlift u d h2 h3⟩
         have hC2:=hC1.name (b:=b) (blk:={ blk with rows:=blk.rows++news,pin:=none,ty:=tyM told.mt blk.ty e }) hnone hfree hB'
         rw[hone1] at r1
         refine Reach.of_value (hrun r1) (hC2.put (λt ht=>Uv hdst t ht) ?_)
         rw[← hbsz]
         exact .lsl b lo (n+1) cap c blk.sz (lo*blk.sz) (by simp[upd]) (by omega) (.inr rfl) ⟨cur',e',fr,setRow_heap w c cur cur' e' fr k1,.inr (by rw[r2]; exact l2)⟩
       ·cases h
      ·cases h
     ·-- .. where nothing fits in
      rename_i b lo n hse
      rw[hse] at hs
      split at h
      ·rename_i blk hb
       split at h
       ·rename_i hc2
        simp only[Bool.and_eq_true,beq_iff_eq] at hc2
        obtain⟨⟨⟨hpure,hbsz⟩,hdst⟩,hone1⟩:=hc2
        cases h
        obtain⟨q1,q2,q3,q4,q5,q6⟩:=hq
        rw[← q4]
        obtain⟨⟨cn,hn⟩,td,htd',htd⟩:=Zdu (P:=P) hu hC hx hnews q1 q3
        have hso:∀ r∈blk.rows,r.length=ie.size:=λr hr=>by
         obtain⟨i,hi⟩:=List.getElem?_of_mem hr
         rcases hC.heap b blk hb with ⟨_,h1,-⟩|⟨c,h1,hB⟩
         ·rw[h1] at hr; cases hr
         ·rw[hB.hsz i r hi,hbsz]
        have hdl:(blk.rows.drop lo).length=n:=by rw[List.length_drop]; omega
        obtain⟨co,hO⟩:=Zm3 (P:=P) hC hs.unk hb hpure (by omega) (size:=ie.size) (λr hr=>hso r (List.mem_of_mem_drop (List.mem_of_mem_take hr)))
        rw[List.take_of_length_le (by omega)] at hO
        obtain⟨ao,cap,hva,hcap⟩:=hO.shape
        have hcn:cap=n:=by
         rw[hva,hdl] at hs
         clear hse hrun hO hva hdl
         generalize hD:D.lsk true b lo n=d at hs
         cases hs with
         | lskn=>cases hD; rfl
         | lsk _ _ _ _ _ _ _ _ _ _ hf _ _ _=>cases hD; exact hf rfl
         | _=>cases hD
        have hnone:(σ.drop b).heap b=none:=by simp[S.drop]
        have hrg:=Zlo hu htd' htd hie hz hO hn hva (by omega) (by omega) (by rw[hdl,hone1]; exact q6) (ty:=o.type)
        have hblk:=Zi4 hC hO hn (λr hr=>hso r (List.mem_of_mem_drop hr)) q3 (zs:=Builtin.zeroCells z.cells (grownCap w ((blk.rows.drop lo).length+news.length) cap e - ((blk.rows.drop lo).length+news.length))) (e:=e) (frz:=0) (ty:=none) (λt ht=>by cases ht) (Nat.zero_le _) (β':=upd β b none)
        have hbel:Below w.heap.size w (w.drew.alloc (.cells (co.toArray++cn.toArray++Builtin.zeroCells z.cells (grownCap w ((blk.rows.drop lo).length+news.length) cap e - ((blk.rows.drop lo).length+news.length))) e)):=(Z72 w).trans (Lu w.drew _)
        have hC1:=(hC.drop b).quiet hbel
        have hfree:∀ b' s,upd β b none b'≠some (w.heap.size,s):=λb' s hbs=>by
         unfold upd at hbs
         split at hbs
         ·cases hbs
         ·obtain⟨k,hk⟩:=hC.dom b' _ hbs
          rcases hC.heap b' k hk with ⟨h0,-⟩|⟨c,h0,hB⟩
          ·rw[h0] at hbs; cases hbs
          ·rw[h0] at hbs; cases hbs; have:=hB.lt; omega
        have hC2:=hC1.name (b:=b) hnone hfree hblk
        refine Reach.of_value (hrun hrg) (hC2.put (λt ht=>Uv hdst t ht) ?_)
        rw[hdl,hone1]
        refine .lsl b 0 _ _ w.heap.size ie.size 0 (by simp[upd]) (grownCap_ge w _ cap e) (.inr (by simp)) ⟨_,e,(0,0),L3 w.drew _,.inr ?_⟩
        have hzz:(Builtin.zeroCells z.cells (grownCap w (n+1) cap e - (n+1))).size=(grownCap w (n+1) cap e - (n+1))*ie.size:=by rw[size_zeroCells,hcond.1]
        simp only[Array.size_append,List.size_toArray,hO.len,hn.len,hzz,hdl,hone1,Nat.zero_add,← Nat.add_mul]
        refine Nat.mul_le_mul_right _ ?_
        have:=grownCap_ge w (n+1) cap e
        omega
       ·cases h
      ·cases h
     ·-- nil,or a slice without room
      rename_i olds hse
      rw[hse] at hs
      obtain⟨tt,ht,hb,hlt,rfl,hqp⟩:=Z05 h
      rw[hqp] at hq
      obtain⟨q1,q0,q2,q3,q4,q5,q6⟩:=hq
      obtain⟨⟨cn,hn⟩,td,htd',htd⟩:=Zdu (P:=P) hu hC hx hnews q1 q3
      obtain⟨co,hO⟩:=Zvt (P:=P) hs q2
      obtain⟨ao,cap,hva,hcap,hcc⟩:=Zjk hs
      have hcap':=hcc rfl
      rw[← q4] at q5 q6 ⊢
      simp only[List.length_append] at q5 q6
      by_cases hm:news=[]
      ·have ho0:olds=[] :=q0.resolve_right (by simp[hm])
       subst hm ho0
       have hcn:cn=[] :=List.eq_nil_of_length_eq_zero (by simpa using hn.len)
       subst hcn
       have hfc:=hn.run w (λ_=>rfl)
       have hln:=hn.lenr w
       have hc0:cap=0:=by simpa using hcap'
       subst hc0
       have hr:(Builtin.append_ #[t,t'] o.type #[a.eval so,a.eval xo]).run P w=.ok (.slice ao 0 0) w:=by
        rw[hva]
        simp at hfc hln
        rcases htd with rfl|rfl <;> cases ao <;> simp[Builtin.append_,run_underlying hu,run_underlying htd',sizeOf,typeInfo,hie,hln,hfc,storeCells]
       refine Reach.of_value (hrun hr) (G':=G) (β':=β) ?_
       rw[ht]
       exact(hC.nameNil hb ⟨rfl,rfl⟩).put (λu hu=>by cases hu; exact hlt) (.lslnil tt ao)
      ·have hpos:0<news.length:=List.length_pos_iff.2 hm
       have hrg:=Zlo hu htd' htd hie hz hO hn hva (by omega) q5 q6 (ty:=o.type)
       have hblk:=Zi4 hC hO hn q2 q3 (zs:=Builtin.zeroCells z.cells (grownCap w (olds.length+news.length) cap e - (olds.length+news.length))) (e:=e) (frz:=0) (ty:=none) (λt ht=>by cases ht) (Nat.zero_le _) (β':=β)
       have hbel:Below w.heap.size w (w.drew.alloc (.cells (co.toArray++cn.toArray++Builtin.zeroCells z.cells (grownCap w (olds.length+news.length) cap e - (olds.length+news.length))) e)):=(Z72 w).trans (Lu w.drew _)
       have hC1:=hC.quiet hbel
       have hfree:∀ b' s,β b'≠some (w.heap.size,s):=λb' s hbs=>by
        obtain⟨k,hk⟩:=hC.dom b' _ hbs
        rcases hC.heap b' k hk with ⟨h0,-⟩|⟨c,h0,hB⟩
        ·rw[h0] at hbs; cases hbs
        ·rw[h0] at hbs; cases hbs; have:=hB.lt; omega
       have hC2:=hC1.name (b:=tt) hb hfree hblk
       refine Reach.of_value (hrun hrg) (G':=G) (β':=upd β tt (some (w.heap.size,ie.size))) ?_
       rw[ht]
       refine hC2.put (λu hu=>by cases hu; exact hlt) ?_
       rw[List.length_append]
       refine .lsl tt 0 _ _ w.heap.size ie.size 0 (by simp[upd]) (grownCap_ge w _ cap e) (.inr (by simp)) ⟨_,e,(0,0),L3 w.drew _,.inr ?_⟩
       have hzz:(Builtin.zeroCells z.cells (grownCap w (olds.length+news.length) cap e - (olds.length+news.length))).size=(grownCap w (olds.length+news.length) cap e - (olds.length+news.length))*ie.size:=by rw[size_zeroCells,hcond.1]
       simp only[Array.size_append,List.size_toArray,hO.len,hn.len,hzz,Nat.zero_add,← Nat.add_mul]
       refine Nat.mul_le_mul_right _ ?_
       have:=grownCap_ge w (olds.length+news.length) cap e
       omega
     ·cases h
  ·cases h
theorem Zk9:∀ {rows:List (List D)} {s:List UInt8},Kl rows=some s→∃ xs:List Int,rows=xs.map (λn=>[.int .u8 n])∧s=xs.map λn=>UInt8.ofNat n.toNat
 | [],s,h=>by cases h; exact⟨[],rfl,rfl⟩
 | r :: rows,s,h=>by
  unfold Kl at h
  split at h
  ·rename_i heq; cases heq
  ·rename_i n r' heq
   cases heq
   split at h
   ·rename_i s' hs
    cases h
    obtain⟨xs,rfl,rfl⟩:=Zk9 hs
    exact⟨n::xs,rfl,rfl⟩
   ·cases h
  ·cases h
theorem Zzt {fits:TypeId→Bool} {d:Nat} {e:TypeId} {n:Nat} {count count' off:Nat} (hle:count≤count') (h:rowAt P fits d e count off n=true):rowAt P fits d e count' off n=true:=by
 cases d with
 | zero=>exact h
 | succ d=>
  unfold rowAt at h ⊢
  dsimp only at h ⊢
  split
  ·rename_i h0; rw[if_pos h0] at h; exact h
  ·rename_i h0
   rw[if_neg h0] at h
   rw[Bool.or_eq_true] at h ⊢
   rcases h with h|h
   ·left
    simp only[Bool.and_eq_true,decide_eq_true_eq] at h ⊢
    exact⟨⟨h.1.1,by omega⟩,h.2⟩
   ·right
    rw[Bool.and_eq_true] at h ⊢
    exact⟨by have:=of_decide_eq_true h.1; exact decide_eq_true (by omega),h.2⟩
theorem Zvm:∀ {d:Nat} {e u:TypeId} {n:Nat} {count count' off:Nat},count≤count'→liesAt P d e count off u n=true→liesAt P d e count' off u n=true
 | 0,_,_,_,_,_,_,_,h=>h
 | d + 1,e,u,n,count,count',off,hle,h=>by
  unfold liesAt at h ⊢
  rw[Bool.or_eq_true] at h ⊢
  rcases h with h|h
  ·exact .inl (Zzt hle h)
  ·right
   split at h
   ·exact Zvm hle h
   ·cases h
theorem Zfj {w:World} {c:Nat} {vs:Array Value} {e:TypeId} {fr:Nat×Nat} (h:w.heap[c]?=some (.cells vs e fr)):w.shape? c=some (e,vs.size):=by simp[World.shape?,h]
theorem Y1u (hC:Za Γ σ a w G β) {src dst:TypeId} {b c sz:Nat} (h:Z8z P σ src dst b=true) (hβ:β b=some (c,sz)):
  (convert src dst (.pointer (some ⟨c,0,none⟩))).run P w=.ok (.pointer (some ⟨c,0,none⟩)) w:=by
 unfold Z8z at h
 split at h
 ·rename_i k hk
  obtain⟨rfl,hB⟩:=hC.blk hk hβ
  split at h
  ·rename_i e hty
   obtain⟨vs,fr,hh,-⟩:=hB.ty e hty
   have hroom:k.rows.length*k.sz≤vs.size:=by
    obtain⟨vs',e',fr',g1,-,g3,-⟩:=hB.cells
    rw[hh] at g1; cases g1; exact g3
   split at h
   ·rename_i t hs hd
    split at h
    ·rename_i j hj
     rw[Bool.and_eq_true] at h
     refine Lib.run_to_unsafe w ⟨c,0,none⟩ hs hd hj (λh0=>?_) (Zfj hh) ?_
     ·rw[h0] at h; exact absurd h.1 (by decide)
     ·have:=Nat.le_of_ble_eq_true h.2
      show 0<vs.size
      omega
    ·cases h
   ·rename_i u hs hd
    split at h
    ·rename_i j hj
     simp only[Bool.and_eq_true] at h
     have h1:=Nat.le_of_ble_eq_true h.1.1
     have h2:=Nat.le_of_ble_eq_true h.1.2
     exact Lib.run_from_unsafe w ⟨c,0,none⟩ hs hd hj (Zfj hh) (Zvm ((Nat.le_div_iff_mul_le (by omega)).2 (by omega)) h.2)
    ·cases h
   ·cases h
  ·cases h
 ·cases h
theorem Ztn (w:World):∀ (l:List Int) (a:Addr) (acc:ByteArray),(∀ j x,l[j]?=some x→w.cell? (a.add j)=some (.int .u8 x))→
  (loadBytes a acc l.length).run P w=.ok ⟨acc.data++(l.map λn=>UInt8.ofNat n.toNat).toArray⟩ w
 | [],a,acc,_=>by simp[loadBytes]
 | x :: l,a,acc,h=>by
  have h0:w.cell? a=some (.int .u8 x):=by
   have:=h 0 x rfl
   simpa [Addr.add] using this
  have ih:=Ztn w l (a.add 1) (acc.push (UInt8.ofNat x.toNat)) (λj y hy=>by
   have:=h (j+1) y (by simpa using hy)
   have e:(a.add 1).add j=a.add (j+1):=by
    unfold Addr.add
    by_cases hj:j=0
    ·subst hj; simp
    ·simp[hj]; omega
   rw[e]; exact this)
  simp only[List.length_cons,loadBytes,Sem.run_bind,run_load,h0,Result.andThen]
  rw[show x.toNat.toUInt8=UInt8.ofNat x.toNat from rfl,ih]
  congr 1
  apply ByteArray.ext
  simp[ByteArray.push]
theorem Za.frozen (h:Za Γ σ a w G β) {c n:Nat} (hc:∀ b s,β b≠some (c,s)) (hown:Γ.B≤c∨Γ.X c):Za Γ σ a (w.freeze ⟨c,0,none⟩ n) G β:=by
 unfold World.freeze
 split
 ·exact h
 ·generalize hw:({ w with heap:=w.heap.modify (⟨c,0,none⟩:Addr).block fun
   | .cells cs elem (lo,hi)=> .cells cs elem (if lo==hi then ((⟨c,0,none⟩:Addr).off,(⟨c,0,none⟩:Addr).off+n) else (min lo (⟨c,0,none⟩:Addr).off,max hi ((⟨c,0,none⟩:Addr).off+n)))
   | o=>o }:World)=w'
  have hother:∀ k,k≠c→w'.heap[k]?=w.heap[k]? :=λk hk=>by
   subst hw
   show (w.heap.modify c _)[k]?=_
   rw[Array.getElem?_modify,if_neg (λe=>hk e.symm)]
  have hsame:∀ vs e fr,w.heap[c]?=some (.cells vs e fr)→∃ fr',w'.heap[c]?=some (.cells vs e fr'):=λvs e fr hh=>by
   subst hw
   show ∃ fr',(w.heap.modify c _)[c]?=_
   rw[Array.getElem?_modify,if_pos rfl,hh]
   exact⟨_,rfl⟩
  have hcell:∀ b o,w'.cell? ⟨b,o,none⟩=w.cell? ⟨b,o,none⟩:=λb o=>by
   by_cases hb:b=c
   ·subst hb
    rw[Uo,Uo]
    cases hh:w.heap[b]? with
    | none=>
     have:w'.heap[b]?=none:=by
      subst hw
      show (w.heap.modify b _)[b]?=_
      rw[Array.getElem?_modify,if_pos rfl,hh]; rfl
     rw[this]
    | some x=>
     cases x with
     | cells vs e fr=>obtain⟨fr',h2⟩:=hsame vs e fr hh; rw[h2]
     | _ =>
      have:w'.heap[b]?=w.heap[b]? :=by
       subst hw
       show (w.heap.modify b _)[b]?=_
       rw[Array.getElem?_modify,if_pos rfl,hh]; rfl
      rw[this,hh]
   ·exact Kx (hother b hb) o
  have hs:J8 w w':=λk vs e fr hk=>by
   by_cases hb:k=c
   ·subst hb; obtain⟨fr',h2⟩:=hsame vs e fr hk; exact⟨vs,fr',h2,rfl⟩
   ·exact⟨vs,fr,by rw[hother k hb]; exact hk,rfl⟩
  have hsz:w'.heap.size=w.heap.size:=by subst hw; simp
  have hkept:Jf Γ.B Γ.X w w':=⟨by subst hw; rfl,by subst hw; rfl,by subst hw; rfl,by rw[hsz]; exact Nat.le_refl _,λk hk hx=>hother k (λe=>by subst e; exact hown.elim (λh1=>by omega) hx),hs⟩
  refine⟨h.defers,h.size,λt=>(h.tmps t).mono (λb o _=>hcell b o) (λ_=>Nat.le_refl _) (λ_ _ h=>h) hs,λb blk hblk=>?_,h.dom,h.inj,h.kept.trans hkept,h.marks,λk hk=>h.fresh k (by rw[← hsz]; exact hk),by rw[hsz]; exact h.big,h.glob.mono (λb o _=>hcell b o) (λ_=>Nat.le_refl _)⟩
  rcases h.heap b blk hblk with h0|⟨k,h0,hB⟩
  ·exact .inl h0
  ·exact .inr ⟨k,h0,hB.mono (λb o _=>hcell b o) (λ_=>Nat.le_refl _) rfl (λ_ _ h=>h) hs (hother k (λe=>hc b blk.sz (e ▸ h0)))⟩
theorem Za.marked (h:Za Γ σ a w G β) {b c:Nat} {blk:Blk} {sz:Nat} (hb:σ.heap b=some blk) (hβ:β b=some (c,sz)) {vs:Array Value} {e:TypeId} {fr:Nat×Nat} (hh:w.heap[c]?=some (.cells vs e fr)) (hle:fr.1≤fr.2):
  Za Γ σ a (w.freeze ⟨c,vs.size,none⟩ 1) G β:=by
 obtain⟨rfl,hB⟩:=h.blk hb hβ
 obtain⟨lo,hi⟩:=fr
 obtain ⟨fr',hfr',hh',hother,hos,htape,hout,hsz⟩:∃ fr':Nat×Nat,(fr'=if lo==hi then (vs.size,vs.size+1) else (min lo vs.size,max hi (vs.size+1)))∧(w.freeze ⟨c,vs.size,none⟩ 1).heap[c]?=some (.cells vs e fr')∧(∀ k,k≠c→(w.freeze ⟨c,vs.size,none⟩ 1).heap[k]?=w.heap[k]?)∧
   (w.freeze ⟨c,vs.size,none⟩ 1).os=w.os∧(w.freeze ⟨c,vs.size,none⟩ 1).tape=w.tape∧(w.freeze ⟨c,vs.size,none⟩ 1).output=w.output∧(w.freeze ⟨c,vs.size,none⟩ 1).heap.size=w.heap.size:=by
  unfold World.freeze
  rw[if_neg (show ¬ (1=0) by decide)]
  refine⟨_,rfl,?_,λk hk=>?_,rfl,rfl,rfl,by simp⟩
  ·show (w.heap.modify c _)[c]?=_
   rw[Array.getElem?_modify,if_pos rfl,hh]; rfl
  ·show (w.heap.modify c _)[k]?=_
   rw[Array.getElem?_modify,if_neg (λe=>hk e.symm)]
 generalize w.freeze ⟨c,vs.size,none⟩ 1=w' at*
 have hcell:∀ b o,w'.cell? ⟨b,o,none⟩=w.cell? ⟨b,o,none⟩:=λb o=>by
  by_cases hb:b=c
  ·subst hb; rw[Uo,Uo,hh,hh']
  ·exact Kx (hother b hb) o
 have hs:J8 w w':=λk vs2 e2 fr2 hk=>by
  by_cases hb:k=c
  ·subst hb; rw[hh] at hk; cases hk; exact⟨_,_,hh',rfl⟩
  ·exact⟨_,_,by rw[hother k hb]; exact hk,rfl⟩
 have hkept:Jf Γ.B Γ.X w w':=⟨hos,htape,hout,by rw[hsz]; exact Nat.le_refl _,λk hk hx=>hother k (λe=>by subst e; exact hB.own.elim (λh1=>by omega) hx),hs⟩
 refine⟨h.defers,h.size,λt=>(h.tmps t).mono (λb o _=>hcell b o) (λ_=>Nat.le_refl _) (λ_ _ h=>h) hs,λu k hu=>?_,h.dom,h.inj,h.kept.trans hkept,h.marks,λk hk=>h.fresh k (by rw[← hsz]; exact hk),by rw[hsz]; exact h.big,h.glob.mono (λb o _=>hcell b o) (λ_=>Nat.le_refl _)⟩
 rcases h.heap u k hu with h0|⟨c',h0,hB'⟩
 ·exact .inl h0
 ·by_cases hcc:c'=c
  ·subst hcc
   obtain⟨own,pin,ty,frz,top,dat,hsz',vs',e',fr2,h1,h2,h3,h4⟩:=hB'
   rw[hh] at h1; cases h1
   refine .inr ⟨_,h0,own,pin,λt ht=>?_,frz,top,dat,hsz',vs,e,fr',hh',λo ho hcon=>?_,h3,λi j r d hr hd=>?_⟩
   ·obtain⟨vs3,fr3,g1,g2⟩:=ty t ht
    rw[hh] at g1; cases g1
    refine⟨_,_,hh',?_⟩
    rw[hfr']; split <;> simp <;> omega
   ·rw[hfr'] at hcon
    have h5:=h2 o ho
    split at hcon
    ·simp at hcon; omega
    ·rename_i hne
     have hne':lo≠hi:=by simpa using hne
     by_cases hl:lo<vs.size
     ·have h6:=h2 lo hl
      simp at h6 hle
      omega
     ·simp at hcon; omega
   ·obtain⟨v,a1,a2,a3⟩:=h4 i j r d hr hd
    exact⟨v,a1,a2,a3.mono (λb o _=>hcell b o) (λ_=>Nat.le_refl _) (λ_ _ h=>h) hs⟩
  ·exact .inr ⟨c',h0,hB'.mono (λb o _=>hcell b o) (λ_=>Nat.le_refl _) rfl (λ_ _ h=>h) hs (hother c' hcc)⟩
theorem Zxd (hC : Za Γ σ a w G β) {src dst:TypeId} {v:Value} {x:D} (h:Z28 P σ src dst x=true) (hx:Z9 w G β v x):
  ∃ w2,(convert src dst v).run P w=.ok v w2∧Za Γ σ a w2 G β∧Z9 w2 G β v x:=by
 unfold Z28 at h
 split at h
 ·rename_i b lo n
  split at h
  ·rename_i k e hk hd
   split at h
   ·rename_i hu
    simp only[Bool.and_eq_true] at h
    obtain rfl:=Nat.eq_of_beq_eq_true h.1.1
    have hn:=Nat.le_of_ble_eq_true h.1.2
    cases hx with
    | lslnil=>exact absurd hn (by simp)
    | lsl _ _ _ cap c sz off hβ hcap hoff hroom=>
     obtain⟨rfl,hB⟩:=hC.blk hk hβ
     obtain⟨t,ht⟩:=Option.isSome_iff_exists.1 h.2
     obtain⟨vs,fr,hh,hle⟩:=hB.ty t ht
     refine⟨_,?_,hC.marked hk hβ hh hle,.lsl b lo n cap c k.sz off hβ hcap hoff ?_⟩
     ·simp[convert,run_underlying hd,run_underlying hu,markStringish,Zfj hh]
     ·obtain⟨vs',e',fr2,g1,g2⟩:=hroom
      rw[hh] at g1; cases g1
      unfold World.freeze
      rw[if_neg (show ¬ (1=0) by decide)]
      have:∃ fr',(w.heap.modify c fun
        | .cells cs elem (lo,hi)=> .cells cs elem (if lo==hi then (vs.size,vs.size+1) else (min lo vs.size,max hi (vs.size+1)))
        | o=>o)[c]?=some (.cells vs t fr'):=by
       rw[Array.getElem?_modify,if_pos rfl,hh]; exact⟨_,rfl⟩
      obtain⟨fr',h3⟩:=this
      exact⟨vs,t,fr',h3,g2⟩
   ·cases h
  ·cases h
 ·cases h
theorem Zwo (hC : Za Γ σ a w G β) {o:Oper} {x n:Operand} {pt it:TypeId} (ho:o.op=.call { callee:= .builtin .unsafeString,args:=#[x,n],argTypes:=#[pt,it] }) {told:Yt} {σ':S} {q:Prop}
  (h:unsD P σ o pt (σ.ev x) (σ.ev n) told=some (σ',q)) (hq:q):Reach P Γ o a w σ':=by
 have hx:=Vo hC x
 have hn:=Vo hC n
 unfold unsD at h
 split at h
 ·rename_i b m hxe hne
  rw[hxe] at hx
  rw[hne] at hn
  split at h
  ·rename_i k e s hk hpt hans
   split at h
   ·rename_i hc
    cases h
    obtain⟨q1,rfl,q3,q4⟩:=hq
    simp only[Bool.and_eq_true] at hc
    have hsz:=Nat.eq_of_beq_eq_true hc.1.1.1
    have hce:=Nat.eq_of_beq_eq_true hc.1.1.2
    have hty:k.ty=some e:=by
     have:=hc.1.2
     unfold tyIs at this
     split at this
     ·rename_i t ht; rw[ht,Nat.eq_of_beq_eq_true this]
     ·cases this
    obtain⟨xs,hrows,rfl⟩:=Zk9 q1
    obtain ⟨c,sz,hv,hβ⟩:∃ c sz,a.eval x=.pointer (some ⟨c,0,none⟩)∧β b=some (c,sz):=by
     generalize a.eval x=u at hx
     cases hx with
     | lptr _ _ _ c sz hβ=>exact⟨c,sz,by simp,hβ⟩
    obtain⟨rfl,hB⟩:=hC.blk hk hβ
    obtain⟨vs,fr,hh,-⟩:=hB.ty e hty
    obtain⟨vs',e',fr',g1,-,g3,g4⟩:=hB.cells
    rw[hh] at g1; cases g1
    have hlen:xs.length≤vs.size:=by rw[hrows,hsz] at g3; simpa using g3
    have hcell:∀ j y,xs[j]?=some y→w.cell? ((⟨c,0,none⟩:Addr).add j)=some (.int .u8 y):=λj y hy=>by
     obtain⟨v,a1,a2,a3⟩:=g4 j 0 [.int .u8 y] (.int .u8 y) (by rw[hrows]; simp[hy]) rfl
     rw[Wd a3] at a1
     rw[Addr.add_none,Nat.zero_add,Uo,hh]
     rw[hsz] at a1
     simpa using a1
    have hl0:xs.length≠0:=by intro h0; apply q3; rw[List.eq_nil_of_length_eq_zero h0]; rfl
    have hlb:=Ztn (P:=P) w xs ⟨c,0,none⟩ .empty hcell
    have hlies:=Lib.liesAt_bytes (P:=P) hce (vs.size / P.cellsOf e) xs.length (by rw[hce]; simpa using hlen)
    have hsh:=Zfj hh
    have h63:xs.length≤9223372036854775807:=by simpa using q4
    have hrun:(Builtin.unsafeString_ #[pt,it] o.type #[.pointer (some ⟨c,0,none⟩),.int .i64 (xs.length:Int)]).run P w=.ok (.string ⟨(xs.map λn=>UInt8.ofNat n.toNat).toArray⟩) (w.freeze ⟨c,0,none⟩ xs.length):=by
     have hdef:Builtin.unsafeString_ #[pt,it] o.type #[.pointer (some ⟨c,0,none⟩),.int .i64 (xs.length:Int)]=
      (do
       let n ← asInt (.int .i64 (xs.length:Int))
       if n < 0 then runtimePanic (.error "unsafe.String: len out of range")
       if n > IntKind.i64.max then unsupported (.unsafePointer "String: a length above the largest int")
       if n=0 then pure (.string .empty)
       else if ← variablesAt ⟨c,0,none⟩ (← elemOf pt) n.toNat then do
        let s ← loadBytes ⟨c,0,none⟩ .empty n.toNat
        freeze ⟨c,0,none⟩ n.toNat
        pure (.string s)
       else unsupported (.unsafePointer "String: not so many bytes at ptr")) := rfl
     rw[hdef]
     have hmax:IntKind.i64.max=9223372036854775807:=rfl
     have h63': ¬ (9223372036854775807:Int)<(xs.length:Int):=by omega
     have hneg: ¬ (xs.length:Int)<0:=by omega
     simp[asInt,asIntOf,hmax,h63',hneg,hl0,variablesAt,hsh,elemOf,run_underlying hpt,hlies,hlb]
    have hfree:∀ b' s,upd β b none b'≠some (c,s):=λb' s hbs=>by
     unfold upd at hbs
     split at hbs
     ·cases hbs
     ·rename_i hne; exact hne (hC.inj b' b c s k.sz hbs hβ)
    have hC1:=((hC.drop b).frozen (n:=xs.length) hfree hB.own).nameNil (b:=b) (blk:={ sz:=1,rows:=[],frz:=0,pure:=true }) (by simp[S.drop]) ⟨rfl,rfl⟩
    refine Reach.of_value (v:= .string ⟨(xs.map λn=>UInt8.ofNat n.toNat).toArray⟩) ?_ (hC1.put (Uv hc.2) (Z80 _ _ (by simp)))
    have hn':a.eval n=.int .i64 (xs.length:Int):=by rw[Wd hn]; simp
    simp[execOp,ho,resolve,invoke,builtin,hv,hn',hrun]
   ·cases h
  ·cases h
 ·cases h
theorem Zwe (hC:Za Γ σ a w G β) {o:Oper} {src dst:TypeId} {x:Operand} (ho:o.op=.convert src dst x) {told:Yt} {σ':S} {q:Prop} (h:Z26 P σ o src dst (σ.ev x) told=some (σ',q)) (hq:q):Reach P Γ o a w σ':=by
 have hx:=Vo hC x
 unfold Z26 at h
 split at h
 ·rename_i b hxe
  split at h
  ·rename_i hc
   cases h
   rw[Bool.and_eq_true] at hc
   rw[hxe] at hx
   obtain ⟨c,sz,hv,hβ⟩:∃ c sz,a.eval x=.pointer (some ⟨c,0,none⟩)∧β b=some (c,sz):=by
    generalize a.eval x=u at hx
    cases hx with
    | lptr _ _ _ c sz hβ=>exact⟨c,sz,by simp,hβ⟩
   have hrun:(convert src dst (.pointer (some ⟨c,0,none⟩))).run P w=.ok (.pointer (some ⟨c,0,none⟩)) w:=Y1u hC hc.1 hβ
   exact Reach.of_value (v:=a.eval x) (by simp only[execOp,ho]; rw[hv]; exact Z42 hrun) (hC.put (Uv hc.2) hx)
  ·cases h
 split at h
 ·rename_i hc
  cases h
  rw[Bool.and_eq_true] at hc
  obtain⟨w2,hrun,hC2,hv2⟩:=Zxd (P:=P) hC hc.1 hx
  exact Reach.of_value (v:=a.eval x) (by simp only[execOp,ho]; exact Z42 hrun) (hC2.put (Uv hc.2) hv2)
 split at h
 ·rename_i e hd he
  split at h
  ·rename_i hu hsz
   split at h
   ·rename_i rows q0 s hr ht hdst
    cases h
    obtain⟨q1,q2⟩:=hq
    obtain⟨xs,rfl,rfl⟩:=Zk9 q2
    obtain ⟨cells,hc⟩:=Zrp (P:=P) hC hx hr q1 (size:=1) (λr hr=>by
     obtain⟨n,_,rfl⟩:=List.mem_map.1 hr; rfl)
    obtain⟨a0,cap,hv,-⟩:=hc.shape
    have hcells:cells=xs.map (Value.int .u8):=by
     apply List.ext_getElem?
     intro j
     by_cases hj:j<xs.length
     ·obtain⟨u,h1,h2,-⟩:=hc.rep j 0 [.int .u8 xs[j]] (.int .u8 xs[j]) (by simp[hj]) rfl
      have:=Wd h2
      subst this
      simp only[Nat.mul_one,Nat.add_zero] at h1
      rw[h1]; simp[hj]
     ·rw[List.getElem?_eq_none (by rw[hc.len]; simp; omega),List.getElem?_eq_none (by simp; omega)]
    have hrun:=hc.run w (λ_=>rfl)
    rw[hcells] at hrun
    have hconv:(convert src dst (a.eval x)).run P w=.ok (.string (strOfNums xs)) w:=by
     rw[hv] at hrun ⊢
     cases a0 with
     | none=>
      rw[run_convert_bytes_nil w src e (Z5r he) hu _ _ dst hd]
      have hx0:xs=[] :=by
       simp[Builtin.firstCells] at hrun
       exact hrun
      subst hx0
      rfl
     | some ad=>
      simp only[Builtin.firstCells,Nat.mul_one,List.length_map] at hrun
      rw[run_convert_bytes_string w src dst e _ _ _ (Z5r he) hu hd,run_bytesToString w ad _ cap xs (by simpa using hrun),foldl_push_bytes]
      simp[strOfNums,ByteArray.empty,ByteArray.emptyWithCapacity]
      rfl
    exact Reach.of_value (by simp only[execOp,ho]; exact Z42 hconv) (hC.put (Uv hdst) (Z80 _ _ (strOfNums_data xs)))
   ·cases h
  ·cases h
 ·cases h
theorem Zzv (hC:Za Γ σ a w G β) {o:Oper} {told:Yt} {σ':S} {q:Prop} (h:Vt P σ o told=some (σ',q)) (hq:q):Reach P Γ o a w σ':=by
 have h0:=h
 unfold Vt at h
 split at h
 ·rename_i e ho
  split at h
  ·rename_i cs hz
   obtain⟨i,v,hi,hv,z1,z2,z3⟩:=Zaa hz
   have hrun:(execOp a.eval o).run P w=.ok (.value (.pointer (some ⟨w.heap.size,0,none⟩))) (w.alloc (.cells v.cells e)):=by
    simp[execOp,ho,Instr.alloc,zeroValue,typeInfo,hi,hv,newVar,newRow]
   obtain⟨-,-,-,-,-,hqp⟩:=Z05 h
   exact Reach.box hC (q:=q) (by rw[h]) hrun (λt ht=>by unfold tyR at ht; split at ht <;> cases ht; rfl) z1 z2 (z3 w G β)
  ·cases h
 ·rename_i e x ho
  split at h
  ·rename_i cs hcs
   obtain⟨c1,c2,c3⟩:=Zk0 (Vo hC x) hcs
   have hrun:(execOp a.eval o).run P w=.ok (.value (.pointer (some ⟨w.heap.size,0,none⟩))) (w.alloc (.cells (a.eval x).cells e)):=by
    simp[execOp,ho,Instr.box,newVar,newRow]
   split at h
   ·split at h
    ·rename_i hall hdst
     cases h
     exact Reach.boxRo hC (Uv hdst) hall hrun c1 c2 c3
    ·cases h
   ·exact Reach.box hC (q:=q) (by rw[h]) hrun (λt ht=>by cases ht) c1 c2 c3
  ·cases h
 ·rename_i t parts ho
  split at h
  ·rename_i z pl hz hp
   split at h
   ·rename_i cs hf
    split at h
    ·rename_i hdst
     cases h
     obtain⟨vs,h1,h2⟩:=Zwj (P:=P) hC hz hp hf
     exact Reach.of_value (v:= .agg vs) (by simp only[execOp,ho]; exact Z42 h1) (hC.put (Uv hdst) (.agg vs cs h2.1 h2.2.1 h2.2.2))
    ·cases h
   ·cases h
  ·cases h
 ·rename_i t len parts ho; exact Y00 hC ho h0 hq
 ·rename_i t l c ho; exact Zyz hC ho h0 hq
 ·rename_i src dst x ho; exact Zwe hC ho h hq
 ·rename_i t x v ho; exact Zxb hC ho h hq
 ·rename_i f args ts ho
  split at h
  ·rename_i f' hf
   split at h
   ·exact Zza hC ho hf h hq
   ·exact Y1q hC ho (es:=[]) (by rw[hf]; rfl) (by simpa using h) hq
  ·cases h
 ·rename_i args ts ho
  split at h
  ·rename_i s x t t'
   exact Y23 hC ho rfl rfl h hq
  ·cases h
 ·rename_i args ts ho
  split at h
  ·exact Zwo hC ho h hq
  ·cases h
 ·cases h
theorem Zwt (hC:Za Γ σ a w G β) {o:Oper} {told:Yt} {σ':S} {q:Prop} (h:Qe P σ o told=some (σ',q)) (hq:q):Reach P Γ o a w σ':=by
 unfold Qe at h
 split at h
 ·rename_i d p hp
  split at h
  ·rename_i hdst
   cases h
   obtain⟨v,h1,h2⟩:=Zwk hC hp hq
   exact Reach.of_value h1 (hC.put (Uv hdst) h2)
  ·cases h
 ·exact Zzv hC h hq
end Go.Den
namespace Go.Den
open Go.RowKit
def Vj:List (Nat×Yt)→Nat→Yt
 | [],_=>{}
 | (k,t)::r,i=>if i=k then t else Vj r i
def Ur (ops:Array Oper) (σ:S) (o:Oper) (g:Option Bool):Option (Bool×Prop):=
 match o.guard with
 | none=>some (true,True)
 | some (j,want)=>
  match ((ops[j]?).bind (·.dst)).map σ.tmps with
  | some (.bool b)=>
   match g with
   | some x=>some (x,(b==want)=x)
   | none=>match b==want with
    | true=>some (true,True)
    | false=>some (false,True)
  | some (.tup [])=>some (false,True)
  | _=>none
def gAt:List (Nat×Bool)→Nat→Option Bool
 | [],_=>none
 | (k,b)::r,i=>if i=k then some b else gAt r i
def Vl (P:Program) (ops:Array Oper) (told:List (Nat×Yt)) (gs:List (Nat×Bool)) (i:Nat) (σ:S):Option (S×Prop):=
 match ops[i]? with
 | none=>some (σ,True)
 | some o=>
  match Ur ops σ o (gAt gs i) with
  | none=>none
  | some (true,g)=>
   match Qe P σ o (Vj told i) with
   | some (σ',p)=>some (σ',g∧p)
   | none=>none
  | some (false,g)=>match Xe σ o with
   | true=>some (σ.put o.dst (.tup []),g)
   | false=>none
def M4 (P:Program) (ops:Array Oper) (told:List (Nat×Yt)) (gs:List (Nat×Bool)):List Nat→S→Option (S×Prop)
 | [],σ=>some (σ,True)
 | i :: r,σ=>
  match Vl P ops told gs i σ with
  | some (σ',p)=>
   match M4 P ops told gs r σ' with
   | some (σ'',q)=>some (σ'',p∧q)
   | none=>none
  | none=>none
variable {P:Program} {Γ:Ctx} {σ σ':S} {a:Act} {w w':World} {G G':Nat→Nat} {β β':Nat→Option (Nat×Nat)}
theorem Zrw (hC:Za Γ σ a w G β) {ops:Array Oper} {o:Oper} {g:Option Bool} {b:Bool} {p:Prop} (h:Ur ops σ o g=some (b,p)) (hp:p):Region.wanted o (yielded ops a.tmps)=b:=by
 unfold Ur at h
 unfold Region.wanted
 split at h
 ·rename_i hg; cases h; rw[hg]
 ·rename_i j want hg
  rw[hg]
  dsimp only
  have key:∀ d,((ops[j]?).bind (·.dst)).map σ.tmps=some d→∃ t,(ops[j]?).bind (·.dst)=some t∧σ.tmps t=d:=λd hd=>Xt hd
  split at h
  ·rename_i c hc
   obtain⟨t,ht,hd⟩:=key _ hc
   have hv:=hC.tmps t
   rw[hd] at hv
   have hv':=Ky hv
   have hy:yielded ops a.tmps j=some c:=by
    unfold yielded
    rw[ht]
    simp only[Option.bind_some]
    have hlt:t<a.tmps.size:=by
     rcases Nat.lt_or_ge t a.tmps.size with h'|h'
     ·exact h'
     ·simp[Array.getD_eq_getD_getElem?,Array.getElem?_eq_none h',Go.undef] at hv'
    simp only[Array.getD_eq_getD_getElem?,Array.getElem?_eq_getElem hlt,Option.getD_some] at hv'
    rw[Array.getElem?_eq_getElem hlt,hv']
   rw[hy]
   have e:(some c==some want)=(c==want):=rfl
   rw[e]
   split at h
   ·cases h; exact hp
   ·split at h
    ·cases h; assumption
    ·cases h; assumption
  ·rename_i hc
   obtain⟨t,ht,hd⟩:=key _ hc
   have hv:=hC.tmps t
   rw[hd] at hv
   cases h
   have hy:yielded ops a.tmps j=none:=by
    unfold yielded
    rw[ht]
    simp only[Option.bind_some]
    rcases Nat.lt_or_ge t a.tmps.size with h'|h'
    ·rw[Array.getElem?_eq_getElem h']
     simp only[Array.getD_eq_getD_getElem?,Array.getElem?_eq_getElem h',Option.getD_some] at hv
     generalize a.tmps[t]=u at hv
     cases hv; rfl
    ·rw[Array.getElem?_eq_none h']
   rw[hy]; rfl
  ·cases h
theorem Ziq (hC:Za Γ σ a w G β) {ops:Array Oper} {told:List (Nat×Yt)} {gs:List (Nat×Bool)} {i:Nat} {p:Prop} (h:Vl P ops told gs i σ=some (σ',p)) (hp:p)
  {K:Act→World→Prop} {Q:Exit→Act→World→Prop} (hK:∀ a' w' G' β',Za Γ σ' a' w' G' β'→K a' w'):wpOp P ops Q i K a w:=by
 unfold Vl at h
 unfold wpOp
 split at h
 ·rename_i ho; cases h; rw[ho]; exact hK _ _ _ _ hC
 ·rename_i o ho
  rw[ho]
  dsimp only
  split at h
  ·cases h
  ·rename_i g hg
   split at h
   ·rename_i σ1 q hs
    cases h
    rw[Zrw hC hg hp.1]
    exact .inl (Zwt hC hs hp.2 K Q hK)
   ·cases h
  ·rename_i g hg
   split at h
   ·rename_i hd
    cases h
    rw[Zrw hC hg hp]
    refine hK _ _ G β (hC.put (Uv hd) ?_)
    exact .tup #[] [] rfl (λj v d h=>by simp at h)
   ·cases h
theorem Zo1 {ops:Array Oper} {told:List (Nat×Yt)} {gs:List (Nat×Bool)} {Q:Exit→Act→World→Prop}:∀ (l:List Nat) {σ:S} {a:Act} {w:World} {G β} {p:Prop},Za Γ σ a w G β→
  M4 P ops told gs l σ=some (σ',p)→p→(∀ a' w' G' β',Za Γ σ' a' w' G' β'→Q .normal a' w')→wpOps P ops Q l a w
 | [],σ,a,w,G,β,p,hC,h,hp,hQ=>by cases h; exact hQ _ _ _ _ hC
 | i :: r,σ,a,w,G,β,p,hC,h,hp,hQ=>by
  unfold M4 at h
  split at h
  ·rename_i σ1 p1 h1
   split at h
   ·rename_i σ2 p2 h2
    cases h
    rw[wpOps_cons]
    exact Ziq hC h1 hp.1 (λa' w' G' β' hC'=>Zo1 r hC' h2 hp.2 hQ)
   ·cases h
  ·cases h
def DWP (P:Program) (Γ:Ctx) (c:Code) (Q:Exit→S→Prop) (σ:S):Prop:=
 ∀ a w G β,Za Γ σ a w G β→c.wp P (λe a' w'=>∃ σ' G' β',Za Γ σ' a' w' G' β'∧Q e σ') a w
theorem DWP.mono {c:Code} {Q Q':Exit→S→Prop} (h:DWP P Γ c Q σ) (hq:∀ e σ',Q e σ'→Q' e σ'):DWP P Γ c Q' σ:=
 λa w G β hC=>wp_mono (h a w G β hC) λ_ _ _ ⟨σ',G',β',h1,h2⟩=>⟨σ',G',β',h1,hq _ _ h2⟩
theorem DWP.skip {Q:Exit→S→Prop} (h:Q .normal σ):DWP P Γ .skip Q σ:=λ_ _ G β hC=>wp_skip ⟨σ,G,β,hC,h⟩
theorem DWP.ret {Q:Exit→S→Prop} (h:Q .ret σ):DWP P Γ .ret Q σ:=λ_ _ G β hC=>wp_ret ⟨σ,G,β,hC,h⟩
theorem DWP.exit {id:Nat} {Q:Exit→S→Prop} (h:Q (.exit id) σ):DWP P Γ (.exit id) Q σ:=λ_ _ G β hC=>wp_exit ⟨σ,G,β,hC,h⟩
def thenD (P:Program) (Γ:Ctx) (y:Code) (Q:Exit→S→Prop):Exit→S→Prop
 | .normal,σ=>DWP P Γ y Q σ
 | e,σ=>Q e σ
theorem DWP.seq {x y:Code} {Q:Exit→S→Prop} (h:DWP P Γ x (thenD P Γ y Q) σ):DWP P Γ (.seq x y) Q σ:=λa w G β hC=>by
 refine wp_seq (wp_mono (h a w G β hC) λe a' w' ⟨σ',G',β',h1,h2⟩=>?_)
 cases e with
 | normal=>exact h2 a' w' G' β' h1
 | _=>exact⟨σ',G',β',h1,h2⟩
theorem DWP.cond {c:Operand} {x y:Code} {b:Bool} {Q:Exit→S→Prop} (hc:σ.ev c=.bool b) (ht:b=true→DWP P Γ x Q σ) (hf:b=false→DWP P Γ y Q σ):DWP P Γ (.cond c x y) Q σ:=λa w G β hC=>by
 have:=Vo hC c
 rw[hc] at this
 exact wp_cond_split (Ky this) (λhb=>ht hb a w G β hC) (λhb=>hf hb a w G β hC)
def Zt8 (id:Nat) (Q:Exit→S→Prop):Exit→S→Prop
 | .exit id',σ=>if id'=id then Q .normal σ else Q (.exit id') σ
 | e,σ=>Q e σ
theorem DWP.block {id:Nat} {c:Code} {Q:Exit→S→Prop} (h:DWP P Γ c (Zt8 id Q) σ):DWP P Γ (.block id c) Q σ:=λa w G β hC=>by
 refine wp_block (wp_mono (h a w G β hC) λe a' w' ⟨σ',G',β',h1,h2⟩=>?_)
 cases e with
 | exit id'=>
  simp only[Exit.inBlock,Zt8] at h2 ⊢
  split
  ·rename_i he; rw[if_pos he] at h2; exact⟨σ',G',β',h1,h2⟩
  ·rename_i he; rw[if_neg he] at h2; exact⟨σ',G',β',h1,h2⟩
 | _=>exact⟨σ',G',β',h1,h2⟩
theorem DWP.region {id:Nat} {ops:Array Oper} {told:List (Nat×Yt)} {gs:List (Nat×Bool)} {p:Prop} {Q:Exit→S→Prop} (h:M4 P ops told gs (List.range ops.size) σ=some (σ',p)) (hp:p) (hQ:Q .normal σ'):
  DWP P Γ (.region id ops false) Q σ:=λ_ _ _ _ hC=>
 wp_region (Zo1 _ hC h hp λ_ _ G' β' hC'=>⟨σ',G',β',hC',hQ⟩)
theorem Zl1 {c:Code} {Q:Exit→Act→World→Prop} (I:Nat→Act→World→Prop)
  (round:∀ n a w,I n a w→∃ m,n=m+1∧c.wp P (Exit.then (λa' w'=>I m a' w') Q) a w) (n:Nat) (a:Act) (w:World) (h:I n a w):(Code.loop c).wp P Q a w:=by
 intro b k cs
 have key:∀ n a w,I n a w→∃ e a' w',Q e a' w'∧Arrives P (lone (b.at a (.code c:: .inLoop c::k)) cs w) b k cs e a' w':=by
  intro n
  induction n with
  | zero=>
   intro a w hI
   obtain⟨m,hm,-⟩:=round 0 a w hI
   omega
  | succ n ih=>
   intro a w hI
   obtain⟨m,hm,hr⟩:=round _ a w hI
   obtain rfl:n=m:=by omega
   obtain⟨e,a₁,w₁,hq,harr⟩:=hr b (.inLoop c::k) cs
   cases e with
   | normal=>
    obtain⟨e₂,a₂,w₂,hq₂,harr₂⟩:=ih a₁ w₁ hq
    exact⟨e₂,a₂,w₂,hq₂,.of_steps (Steps.trans harr (.one step_inLoop)) harr₂⟩
   | exit id=>exact⟨_,a₁,w₁,hq,.pass (x:= .inLoop c) rfl (λ_ _=> .inl (by simp)) harr⟩
   | goto l=>exact⟨_,a₁,w₁,hq,.pass (x:= .inLoop c) rfl (λ_ _=> .inl (by simp)) harr⟩
   | ret=>exact⟨_,a₁,w₁,hq,.pass (x:= .inLoop c) rfl (λ_ _=> .inl (by simp)) harr⟩
   | panic ch=>exact⟨_,a₁,w₁,hq,.pass (x:= .inLoop c) rfl (λ_ _=> .inl (by simp)) harr⟩
   | outgrown=>exact⟨_,a₁,w₁,hq,.pass (x:= .inLoop c) rfl (λ_ _=> .inl (by simp)) harr⟩
 obtain⟨e,a',w',hq,harr⟩:=key n a w h
 exact⟨e,a',w',hq,.of_steps (.one step_loop) harr⟩
theorem DWP.weaken {c:Code} {Q:Exit→S→Prop} {σ2:S} (h:DWP P Γ c Q σ2) (hw:∀ a w G β,Za Γ σ a w G β→∃ G' β',Za Γ σ2 a w G' β'):DWP P Γ c Q σ:=λa w G β hC=>by
 obtain⟨G',β',h'⟩:=hw a w G β hC
 exact h a w G' β' h'
inductive Ctl (S R:Type) where
 | next (s:S)
 | done (r:R)
def Z7 {S R:Type} (f:S→Option (Ctl S R)):Nat→S→Option R
 | 0,_=>none
 | n+1,s=>
  match f s with
  | some (.next s')=>Z7 f n s'
  | some (.done r)=>some r
  | none=>none
theorem DWP.loop {T R:Type} {c:Code} {f:T→Option (Ctl T R)} {st:T→S} {Q:Exit→S→Prop} {K:R→Exit→S→Prop}
  (round:∀ t x,f t=some x→DWP P Γ c (λe σ'=>match x with
   | .next t'=>e=.normal∧σ'=st t'
   | .done r=>e≠ .normal∧K r e σ') (st t))
  {n:Nat} {t:T} {r:R} (h:Z7 f n t=some r) (hQ:∀ e σ',K r e σ'→Q e σ'):DWP P Γ (.loop c) Q (st t):=λa w G β hC=>by
 refine Zl1 (λn a w=>∃ t G β,Z7 f n t=some r∧Za Γ (st t) a w G β) ?_ n a w ⟨t,G,β,h,hC⟩
 rintro n a w ⟨t,G,β,h,hC⟩
 cases n with
 | zero=>cases h
 | succ m=>
  refine⟨m,rfl,?_⟩
  unfold Z7 at h
  cases hf:f t with
  | none=>rw[hf] at h; cases h
  | some x=>
   rw[hf] at h
   refine wp_mono (round t x hf a w G β hC) λe a' w' ⟨σ',G',β',h1,h2⟩=>?_
   cases x with
   | next t'=>
    obtain⟨rfl,rfl⟩:=h2
    exact⟨t',G',β',h,h1⟩
   | done r'=>
    cases h
    obtain⟨hne,hk⟩:=h2
    cases e with
    | normal=>exact absurd rfl hne
    | _=>exact⟨σ',G',β',h1,hQ _ _ hk⟩
def resOne (P:Program) (σ:S):ResultVar→Option (D×Prop)
 | .tmp t=>some (σ.tmps t,True)
 | .cell t ty=>Js P σ ty (σ.tmps t) .go
def Z04 (P:Program) (σ:S):List ResultVar→Option (List D×Prop)
 | [] =>some ([],True)
 | x::r=>
  match resOne P σ x,Z04 P σ r with
  | some (d,p),some (ds,q)=>some (d::ds,p∧q)
  | _,_=>none
def tupD:List D→D
 | [d] =>d
 | ds=> .tup ds
def Z1c (P:Program) (fn:Func) (σ:S):Option (D×Prop):=
 match Z04 P σ fn.results.toList with
 | some (ds,p)=>
  match Vi σ ds with
  | some (ds',_,q)=>some (tupD ds',p∧q)
  | none=>none
 | none=>none
def Zeu (a:Act):ResultVar→Sem Value
 | .tmp t=>pure (a.tmps.getD t Go.undef)
 | .cell b t=>do loadVar t (← asAddr (a.tmps.getD b Go.undef))
theorem Ziu (fn:Func) (a:Act):results fn a.tmps=(do
   let vs ← fn.results.mapM (Zeu a)
   pure (if h:vs.size=1 then vs[0] else .tuple vs):Sem Value):=by
 unfold results
 congr 1
theorem Z97 (hC : Za Γ σ a w G β):∀ (l:List ResultVar) {ds:List D} {p:Prop},Z04 P σ l=some (ds,p)→p→
  ∃ vs:List Value,(l.mapM (Zeu a)).run P w=.ok vs w∧vs.length=ds.length∧
   ∀ (j:Nat) v d,vs[j]?=some v→ds[j]?=some d→Z9 w G β v d
 | [],ds,p,h,hp=>by cases h; exact⟨[],by simp,rfl,λj v d h=>by simp at h⟩
 | x :: r, ds, p,h,hp=>by
  unfold Z04 at h
  split at h
  ·rename_i d p1 ds2 p2 h1 h2
   cases h
   obtain⟨vs,e1,e2,e3⟩:=Z97 hC r h2 hp.2
   have key:∃ v,(Zeu a x).run P w=.ok v w∧Z9 w G β v d:=by
    cases x with
    | tmp t=>cases h1; exact⟨_,rfl,hC.tmps t⟩
    | cell t ty=>
     have h1':Js P σ ty (σ.tmps t) .go=some (d,p1):=h1
     have hv:=hC.tmps t
     obtain⟨v,r1,r2⟩:=Zpv hC hv h1' hp.1
     refine⟨v,?_,r2⟩
     have hptr:∃ ad,a.tmps.getD t Go.undef=.pointer (some ad):=by
      unfold Js at h1'
      split at h1'
      ·rename_i cs q hq
       split at h1'
       ·cases h1'
        obtain⟨b,off,hu,-⟩:=Zpa hC hv hq hp.1
        exact⟨_,hu⟩
       ·cases h1'
      ·cases h1'
     obtain⟨ad,had⟩:=hptr
     rw[had] at r1
     simp only[Zeu,had]
     simpa [Instr.loadAt,Instr.sureAddr,asAddr] using r1
   obtain⟨v,k1,k2⟩:=key
   refine⟨v::vs,by simp only[List.mapM_cons,Sem.run_bind,k1,Result.andThen_ok,e1,Sem.run_pure],by simp[e2],λj u d' hu hd=>?_⟩
   cases j with
   | zero=>simp at hu hd; subst hu hd; exact k2
   | succ j=>simp at hu hd; exact e3 j u d' hu hd
  ·cases h
theorem Zzd (hC:Za Γ σ a w G β) {fn:Func} {d:D} {p:Prop} (h:Z1c P fn σ=some (d,p)) (hp:p):
  ∃ v G' σ',(results fn a.tmps).run P w=.ok v w∧Za Γ σ' a w G' β∧Z9 w G' (λ_=>none) v d:=by
 unfold Z1c at h
 split at h
 ·rename_i ds p1 h1
  split at h
  ·rename_i ds' l p2 h2
   cases h
   obtain⟨vs,e1,e2,e3⟩:=Z97 (P:=P) hC _ h1 hp.1
   obtain⟨G',k1,k2,k3,k4⟩:=Z5b hC h2 hp.2
   have hrep:∀ (j:Nat) v d,vs[j]?=some v→ds'[j]?=some d→Z9 w G' (λ_=>none) v d:=λj v d hv hd=>by
    have hj:j<ds.length:=by
     rcases Nat.lt_or_ge j ds'.length with h'|h'
     ·omega
     ·rw[List.getElem?_eq_none h'] at hd; cases hd
    exact k4 j v _ d (e3 j v _ hv (List.getElem?_eq_getElem hj)) (List.getElem?_eq_getElem hj) hd
   have hrun:(results fn a.tmps).run P w=.ok (if h:vs.toArray.size=1 then vs.toArray[0] else .tuple vs.toArray) w:=by
    rw[Ziu,Array.mapM_eq_mapM_toList]
    simp only[Sem.run_bind,Sem.run_map,e1,Result.andThen_ok,Sem.run_pure]
   refine⟨_,G',_,hrun,k1,?_⟩
   have hl:vs.length=ds'.length:=by omega
   match ds',hl,hrep with
   | [d],hl,hrep=>
    match vs,hl,hrep with
    | [v],_,hrep=>exact hrep 0 v d rfl rfl
   | [],hl,hrep=>
    match vs,hl with
    | [],_=>exact .tup #[] [] rfl (λj v d h=>by simp at h)
   | d1::d2::dr,hl,hrep=>
    rw[dif_neg (by simp; simp at hl; omega)]
    exact .tup vs.toArray _ (by simpa using hl.symm) (λj v d hv hd=>hrep j v d (by simpa using hv) hd)
  ·cases h
 ·cases h
def Ends (P:Program) (fn:Func) (r:D):Exit→S→Prop:=λe σ=>(e=.ret∨e=.normal)∧∃ p,Z1c P fn σ=some (r,p)∧p
theorem Zb.mk {f:FuncId} {fn:Func} {c:Code} {ds:List D} {r:D} (hf:P.funcs[f]?=some fn) (hb:fn.body=some c) (hent:Ji P f=true) (hn:ds.length≤fn.ntmps)
  (h:∀ Γ:Ctx,DWP P Γ c (Ends P fn r) (mkS fn.ntmps (Ve 0 ds) [])):Zb P f ds r:=by
 refine⟨hent,λw G vs hG hgl hargs=>?_⟩
 let Γ:Ctx:={ B:=w.heap.size,X:=λ_=>False,w0:=w,G0:=G,hB:=Nat.le_refl _,pin:=λ_=>0 }
 have hC : Za Γ (mkS fn.ntmps (Ve 0 ds) []) { tmps:=vs++Array.replicate (fn.ntmps - vs.size) Go.undef,defers:=[] } w G (λ_=>none):=by
  refine⟨rfl,?_,λt=>?_,λb blk hb=>?_,λb x hx=>?_,λb b' c s s' hb=>?_,.refl _ _ _,λ_ _ _=>rfl,hG,Nat.le_refl _,hgl⟩
  ·simp only[Array.size_append,Array.size_replicate,mkS]; have:=hargs.size; omega
  ·show Z9 w G _ _ (ofL (Ve 0 ds) t)
   rw[Z3t,if_pos (Nat.zero_le _),Nat.sub_zero]
   rcases Nat.lt_or_ge t ds.length with ht|ht
   ·have ht':t<vs.size:=by rw[← hargs.size]; exact ht
    have e1:ds.getD t .undef=ds[t] :=by simp[List.getD,List.getElem?_eq_getElem ht]
    have e2:(vs++Array.replicate (fn.ntmps - vs.size) Go.undef).getD t Go.undef=vs[t] :=by
     rw[Array.getD_eq_getD_getElem?,Array.getElem?_append_left ht',Array.getElem?_eq_getElem ht']; rfl
    rw[e1,e2]
    exact hargs.rep t _ _ (Array.getElem?_eq_getElem ht') (List.getElem?_eq_getElem ht)
   ·have e1:ds.getD t .undef=.undef:=by simp[List.getD,List.getElem?_eq_none ht]
    rw[e1]; exact .undef _
  ·cases hb
  ·cases hx
  ·cases hb
 refine calls_of_wp hf hb (wp_mono (h Γ _ w G _ hC) λe a' w' ⟨σ',G',β',hC',he,p,hr,hp⟩=>?_)
 obtain⟨v,G2,σ2,e1,e2,e3⟩:=Zzd hC' hr hp
 have hR:∃ v' G',Ending.returned v=.returned v'∧Below w.heap.size w w'∧(∀ c,c<w.heap.size→G' c=G c)∧(∀ c,w'.heap.size≤c→G' c=0)∧Z9 w' G' (λ_=>none) v' r:=
  ⟨v,G2,rfl,⟨e2.kept.os,e2.kept.tape,e2.kept.output,e2.kept.size,λk hk=>e2.kept.block k hk (λh=>h)⟩,λc hc=>e2.marks c hc (λh=>h),e2.fresh,e3⟩
 rcases he with rfl|rfl
 ·exact⟨hC'.defers,v,e1,hR⟩
 ·exact⟨hC'.defers,v,e1,hR⟩
def Z4a (P:Program) (fn:Func) (m:Nat) (keep:List Bool) (σ:S):Option (D×List Blk×Prop):=
 match Z04 P σ fn.results.toList with
 | some (ds,p)=>
  match U0 false σ (List.range m) ds with
  | some (ds',l,q)=>
   match Jk (σ.freezeL l) (List.range m) (λpin j=>match keep[j]? with
    | some true=>pin
    | _=>none) 0 (List.range m) with
   | some bs=>some (tupD ds',bs,p∧q)
   | none=>none
  | none=>none
 | none=>none
def Z0w (P:Program) (fn:Func) (m:Nat) (keep:List Bool) (r:D) (bs:List Blk):Exit→S→Prop:=λe σ=>(e=.ret∨e=.normal)∧Ut (List.range m)=true∧∃ bs1 p,Z4a P fn m keep σ=some (r,bs1,p)∧p∧bs1=bs
theorem Zph (hC:Za Γ σ a w G β) {fn:Func} {m:Nat} {keep:List Bool} {d:D} {bs:List Blk} {p:Prop} (hm:Ut (List.range m)=true) (h:Z4a P fn m keep σ=some (d,bs,p)) (hp:p):
  ∃ v G' β',(results fn a.tmps).run P w=.ok v w∧Za Γ (mkS 1 [(0,d)] (W2 0 bs)) { tmps:=#[v],defers:=[] } w G' β':=by
 unfold Z4a at h
 split at h
 ·rename_i ds p1 h1
  split at h
  ·rename_i ds' l p2 h2
   split at h
   ·rename_i bs1 hbs
    cases h
    obtain⟨vs,e1,e2,e3⟩:=Z97 (P:=P) hC _ h1 hp.1
    obtain⟨G',k1,k2,k3,k4⟩:=Zuq hC h2 hp.2
    have hrep:∀ (j:Nat) v d,vs[j]?=some v→ds'[j]?=some d→Z9 w G' (Wv (List.range m) β) v d:=λj v d hv hd=>by
     have hj:j<ds.length:=by
      rcases Nat.lt_or_ge j ds'.length with h'|h'
      ·omega
      ·rw[List.getElem?_eq_none h'] at hd; cases hd
     exact k4 j v _ d (e3 j v _ hv (List.getElem?_eq_getElem hj)) (List.getElem?_eq_getElem hj) hd
    have hrun:(results fn a.tmps).run P w=.ok (if h:vs.toArray.size=1 then vs.toArray[0] else .tuple vs.toArray) w:=by
     rw[Ziu,Array.mapM_eq_mapM_toList]
     simp only[Sem.run_bind,Sem.run_map,e1,Result.andThen_ok,Sem.run_pure]
    refine⟨_,G',Wv (List.range m) β,hrun,?_⟩
    have hl:vs.length=ds'.length:=by omega
    have main:Z9 w G' (Wv (List.range m) β) (if h:vs.toArray.size=1 then vs.toArray[0] else .tuple vs.toArray) (tupD ds'):=by
     match ds',hl,hrep with
     | [d],hl,hrep=>
      match vs,hl,hrep with
      | [v],_,hrep=>exact hrep 0 v d rfl rfl
     | [],hl,hrep=>
      match vs,hl with
      | [],_=>exact .tup #[] [] rfl (λj v d h=>by simp at h)
     | d1::d2::dr,hl,hrep=>
      rw[dif_neg (by simp; simp at hl; omega)]
      exact .tup vs.toArray _ (by simpa using hl.symm) (λj v d hv hd=>hrep j v d (by simpa using hv) hd)
    refine k1.enter (Γ':=Γ) (ds:=[tupD ds']) (vs:=#[if h:vs.toArray.size=1 then vs.toArray[0] else .tuple vs.toArray]) hm hbs k1.big (λk c s hk=>?_) (λk b blk c s i hb hbk hk hi=>?_) k1.kept k1.marks rfl (λj v d hv hd=>?_)
    ·obtain⟨b,f1,f2⟩:=Z7z hk
     obtain⟨blk,f3⟩:=k1.dom b _ f2
     obtain⟨-,hB⟩:=k1.blk f3 f2
     exact hB.own
    ·have hk':=(Z8e hb).symm.trans hk
     obtain⟨-,hB⟩:=k1.blk hbk hk'
     have:blk.pin=some i:=by
      split at hi
      ·exact hi
      ·cases hi
     exact hB.pin i this
    ·cases j with
     | zero=>simp at hv hd; subst hv hd; exact main
     | succ j=>simp at hv
   ·cases h
  ·cases h
 ·cases h
theorem Vk.mk {f:FuncId} {fn:Func} {c:Code} {ds:List D} {bs:List Blk} {r:D} {bs':List Blk} (m:Nat) (keep:List Bool) (hf:P.funcs[f]?=some fn) (hb:fn.body=some c) (hent:Ji P f=true) (hn:ds.length≤fn.ntmps)
  (h:∀ Γ:Ctx,DWP P Γ c (Z0w P fn m keep r bs') (mkS fn.ntmps (Ve 0 ds) (W2 0 bs))):Vk P f ds bs r bs':=by
 refine⟨hent,λΓ vs w G β hC0=>?_⟩
 have hsz:vs.size=ds.length:=hC0.size
 have hC : Za Γ (mkS fn.ntmps (Ve 0 ds) (W2 0 bs)) { tmps:=vs++Array.replicate (fn.ntmps - vs.size) Go.undef,defers:=[] } w G β:=by
  refine { hC0 with size:=?_,tmps:=λt=>?_,defers:=rfl }
  ·simp only[Array.size_append,Array.size_replicate,mkS]; omega
  ·show Z9 w G _ _ (ofL (Ve 0 ds) t)
   rcases Nat.lt_or_ge t vs.size with ht'|ht
   ·have:=hC0.tmps t
    have e2:(vs++Array.replicate (fn.ntmps - vs.size) Go.undef).getD t Go.undef=vs.getD t Go.undef:=by
     rw[Array.getD_eq_getD_getElem?,Array.getElem?_append_left ht',Array.getD_eq_getD_getElem?]
    rw[e2]; exact this
   ·rw[Z3t,if_pos (Nat.zero_le _),Nat.sub_zero]
    have e1:ds.getD t .undef=.undef:=by simp[List.getD,List.getElem?_eq_none (show ds.length≤t by omega)]
    rw[e1]; exact .undef _
 refine calls_of_wp hf hb (wp_mono (h Γ _ w G _ hC) λe a' w' ⟨σ',G',β',hC',he,hm,bs1,p,hr,hp,hbe⟩=>?_)
 subst hbe
 obtain⟨v,G2,β2,e1,e2⟩:=Zph hC' hm hr hp
 have hR:∃ v' G' β',Ending.returned v=.returned v'∧Za Γ (mkS 1 [(0,r)] (W2 0 bs1)) { tmps:=#[v'],defers:=[] } w' G' β':=⟨v,G2,β2,rfl,e2⟩
 rcases he with rfl|rfl
 ·exact⟨hC'.defers,v,e1,hR⟩
 ·exact⟨hC'.defers,v,e1,hR⟩
end Go.Den
namespace Go.Den
open Go.RowKit
def K2:List (Nat×Nat)→Nat→Option Nat
 | [],_=>none
 | (o,n)::r,b=>if b=o then some n else K2 r b
def Lw:List (Nat×Nat)→Nat→Option Nat
 | [],_=>none
 | (o,n)::r,b=>if b=n then some o else Lw r b
def renL (ps:List (Nat×Nat)):List Nat→Option (List Nat)
 | [] =>some []
 | b::r=>match K2 ps b,renL ps r with
  | some b',some r'=>some (b'::r')
  | _,_=>none
def D.renA (ps:List (Nat×Nat)):D→D
 | .lptr b i o=>match K2 ps b with|some b'=> .lptr b' i o|none=> .undef
 | .lsl b lo n=>match K2 ps b with|some b'=> .lsl b' lo n|none=> .undef
 | .clo f bs=>match renL ps bs with|some bs'=> .clo f bs'|none=> .undef
 | .lsk f b lo n=>match K2 ps b with|some b'=> .lsk f b' lo n|none=> .undef
 | d=>d
def D.renB (ps:List (Nat×Nat)):D→D
 | .agg cs=> .agg (cs.map (D.renA ps))
 | .tup _=> .undef
 | d=>d.renA ps
def D.ren (ps:List (Nat×Nat)):D→D
 | .tup vs=> .tup (vs.map (D.renB ps))
 | d=>d.renB ps
def Blk.ren (ps:List (Nat×Nat)) (k:Blk):Blk:=match k.pure with|true=>k|false=>{ k with rows:=k.rows.map (·.map (D.renA ps)) }
def gcT (ps:List (Nat×Nat)) (σ:S):List Nat→List (Nat×D)
 | [] =>[]
 | t::r=>(t,(σ.tmps t).ren ps)::gcT ps σ r
def gcB (ps:List (Nat×Nat)) (σ:S):List (Nat×Nat)→Option (List (Nat×Blk))
 | [] =>some []
 | (o,n)::r=>
  match σ.heap o,gcB ps σ r with
  | some k,some l=>some ((n,k.ren ps)::l)
  | _,_=>none
def Z12:List (Nat×Nat)→Bool
 | [] =>true
 | (o,n)::r=>(K2 r o).isNone&&(Lw r n).isNone&&Z12 r
def gcL (keep:List Nat) (ps:List (Nat×Nat)) (σ:S):Option (List (Nat×D)×List (Nat×Blk)):=
 match Z12 ps with
 | true=>
  match gcB ps σ ps with
  | some bl=>some (gcT ps σ keep,bl)
  | none=>none
 | false=>none
variable {P:Program} {Γ:Ctx} {σ σ':S} {a:Act} {w w':World} {G G':Nat→Nat} {β β':Nat→Option (Nat×Nat)}
theorem Z9w:∀ {ps:List (Nat×Nat)},Z12 ps=true→∀ o n,K2 ps o=some n↔Lw ps n=some o
 | [],_,o,n=>by simp[K2,Lw]
 | (o',n')::r,h,o,n=>by
  simp only[Z12,Bool.and_eq_true,Option.isNone_iff_eq_none] at h
  obtain⟨⟨h1,h2⟩,h3⟩:=h
  have ih:=Z9w h3
  unfold K2 Lw
  by_cases e1:o=o' <;> by_cases e2:n=n'
  ·subst e1 e2; simp
  ·subst e1
   rw[if_pos rfl,if_neg e2]
   constructor
   ·intro h; cases h; exact absurd rfl e2
   ·intro h; rw[← ih] at h; rw[h1] at h; cases h
  ·subst e2
   rw[if_neg e1,if_pos rfl]
   constructor
   ·intro h; rw[ih] at h; rw[h2] at h; cases h
   ·intro h; cases h; exact absurd rfl e1
  ·rw[if_neg e1,if_neg e2]; exact ih o n
def Ko (ps:List (Nat×Nat)) (β:Nat→Option (Nat×Nat)):Nat→Option (Nat×Nat):=λu=>(Lw ps u).bind β
theorem Ze5 {ps:List (Nat×Nat)} (h:Z12 ps=true) {o n:Nat} (hn:K2 ps o=some n):Ko ps β n=β o:=by
 unfold Ko; rw[(Z9w h o n).1 hn]; rfl
theorem Zte {ps:List (Nat×Nat)}:∀ {bs bs':List Nat},renL ps bs=some bs'→bs'.length=bs.length∧∀ (j:Nat) b',bs'[j]?=some b'→∃ b,bs[j]?=some b∧K2 ps b=some b'
 | [],_,h=>by cases h; exact⟨rfl,λj b' hb=>by simp at hb⟩
 | b :: r,_,h=>by
  unfold renL at h
  split at h
  ·rename_i x y h1 h2
   cases h
   obtain⟨e1,e2⟩:=Zte h2
   refine⟨by simp[e1],λj b' hb=>?_⟩
   cases j with
   | zero=>simp at hb; subst hb; exact⟨b,rfl,h1⟩
   | succ j=>simp at hb; obtain⟨c,e3,e4⟩:=e2 j b' hb; exact⟨c,by simpa using e3,e4⟩
  ·cases h
theorem Z9.renE {ps:List (Nat×Nat)} (hp:Z12 ps=true) {v:Value} {d:D} (h:Z9 w G β v d) (h1:one v=true):Z9 w G (Ko ps β) v (d.renA ps):=by
 cases h with
 | undef v=>exact .undef v
 | lptr b i o c sz hβ=>
  simp only[D.renA]
  split
  ·rename_i b' hb; exact .lptr b' i o c sz (by rw[Ze5 hp hb]; exact hβ)
  ·exact .undef _
 | lslnil b x=>
  simp only[D.renA]
  split
  ·exact .lslnil _ x
  ·exact .undef _
 | lsl b lo n cap c sz off hβ hcap hoff hroom=>
  simp only[D.renA]
  split
  ·rename_i b' hb; exact .lsl b' lo n cap c sz off (by rw[Ze5 hp hb]; exact hβ) hcap hoff hroom
  ·exact .undef _
 | clo f vs bs hn hrep=>
  simp only[D.renA]
  split
  ·rename_i bs' hb
   obtain⟨e1,e2⟩:=Zte hb
   refine .clo f vs bs' (e1.trans hn) λj v b' hv hb'=>?_
   obtain⟨b,e3,e4⟩:=e2 j b' hb'
   obtain⟨c,sz,h1,h2⟩:=hrep j v b hv e3
   exact⟨c,sz,by rw[Ze5 hp e4]; exact h1,h2⟩
  ·exact .undef _
 | lskn b x=>
  simp only[D.renA]
  split
  ·exact .lskn _ x
  ·exact .undef _
 | lsk full b lo n cap c sz off hβ hcap hfull hfree hoff hroom=>
  simp only[D.renA]
  split
  ·rename_i b' hb; exact .lsk full b' lo n cap c sz off (by rw[Ze5 hp hb]; exact hβ) hcap hfull hfree hoff hroom
  ·exact .undef _
 | agg vs cs=>simp[one] at h1
 | tup vs ds=>simp[one] at h1
 | bool x=>exact .bool x
 | int k n=>exact .int k n
 | str s=>exact .str s
 | slnil c x=>exact .slnil c x
 | sl c b' off n cap sz rows val hn hcc hcap hsz himm hcell hone hdat hrep=>exact(Z9.sl c b' off n cap sz rows val hn hcc hcap hsz himm hcell hone hdat hrep).of_dat (λ_ _ _=>rfl) (λ_=>Nat.le_refl _) rfl
 | ptr b' off cs val himm hcell hone hdat hrep=>exact(Z9.ptr b' off cs val himm hcell hone hdat hrep).of_dat (λ_ _ _=>rfl) (λ_=>Nat.le_refl _) rfl
 | nilptr=>exact .nilptr
 | fn f=>exact .fn f
 | raw v h=>exact .raw v h
theorem Z9.renB {ps:List (Nat×Nat)} (hp:Z12 ps=true) {v:Value} {d:D} (h:Z9 w G β v d):Z9 w G (Ko ps β) v (d.renB ps):=by
 by_cases ha:∃ cs,d=.agg cs
 ·obtain⟨cs,rfl⟩:=ha
  obtain⟨vs,rfl,hn,hone,hrep⟩:=Jd h
  refine .agg vs _ (by simpa using hn) hone (λj v d hv hd=>?_)
  rw[List.getElem?_map] at hd
  obtain⟨d',hd',rfl⟩:=Xt hd
  exact(hrep j v d' hv hd').renE hp (hone j v hv)
 ·by_cases ht:∃ cs,d=.tup cs
  ·obtain⟨cs,rfl⟩:=ht
   exact .undef v
  ·by_cases hu:d=.undef
   ·subst hu; exact .undef v
   ·have:=h.renE hp (Zta h hu (λcs e=>ha ⟨cs,e⟩) (λcs e=>ht ⟨cs,e⟩))
    cases d <;> first|exact this|exact absurd ⟨_,rfl⟩ ha|exact absurd ⟨_,rfl⟩ ht
theorem Z9.ren {ps:List (Nat×Nat)} (hp:Z12 ps=true) {v:Value} {d:D} (h:Z9 w G β v d):Z9 w G (Ko ps β) v (d.ren ps):=by
 cases d with
 | tup ds=>
  cases h with
  | tup vs _ hn hrep=>
   refine .tup vs _ (by simpa using hn) (λj v d hv hd=>?_)
   rw[List.getElem?_map] at hd
   obtain⟨d',hd',rfl⟩:=Xt hd
   exact(hrep j v d' hv hd').renB hp
 | _=>exact h.renB hp
theorem Zpf (ps:List (Nat×Nat)) (σ:S):∀ (l:List Nat) (t:Nat),ofL (gcT ps σ l) t=(σ.tmps t).ren ps∨ofL (gcT ps σ l) t=.undef
 | [],t=> .inr rfl
 | u::r,t=>by
  unfold gcT ofL
  by_cases h:t=u
  ·subst h; simp
  ·rw[if_neg h]; exact Zpf ps σ r t
theorem Zhf (qs:List (Nat×Nat)) (σ:S):∀ (ps:List (Nat×Nat)) {bl:List (Nat×Blk)},gcB qs σ ps=some bl→∀ u k,ofB bl u=some k↔∃ o k',Lw ps u=some o∧σ.heap o=some k'∧k=k'.ren qs
 | [],bl,h,u,k=>by cases h; simp[ofB,Lw]
 | (o, n)::r,bl,h,u,k=>by
  unfold gcB at h
  split at h
  ·rename_i k0 l h1 h2
   cases h
   unfold ofB Lw
   by_cases e:u=n
   ·rw[if_pos e,if_pos e]
    constructor
    ·intro h; cases h; exact⟨o,k0,rfl,h1,rfl⟩
    ·rintro⟨o',k',h3,h4,rfl⟩; cases h3; rw[h1] at h4; cases h4; rfl
   ·rw[if_neg e,if_neg e]; exact Zhf qs σ r h2 u k
  ·cases h
theorem Za.gc (h:Za Γ σ a w G β) {keep:List Nat} {ps:List (Nat×Nat)} {l:List (Nat×D)} {bl:List (Nat×Blk)} (hg:gcL keep ps σ=some (l,bl)):Za Γ (mkS σ.n l bl) a w G (Ko ps β):=by
 unfold gcL at hg
 split at hg
 ·rename_i hp
  split at hg
  ·rename_i bl' hb
   cases hg
   have hβ:∀ u x,Ko ps β u=some x→∃ o,Lw ps u=some o∧β o=some x:=λu x hu=>by
    unfold Ko at hu
    cases ho:Lw ps u with
    | none=>rw[ho] at hu; cases hu
    | some o=>rw[ho] at hu; exact⟨o,rfl,hu⟩
   refine⟨h.defers,h.size,λt=>?_,λu k hu=>?_,λu x hu=>?_,λu u' c s s' hu hu'=>?_,h.kept,h.marks,h.fresh,h.big,h.glob⟩
   ·show Z9 w G _ _ (ofL (gcT ps σ keep) t)
    rcases Zpf ps σ keep t with e|e
    ·rw[e]; exact(h.tmps t).ren hp
    ·rw[e]; exact .undef _
   ·obtain⟨o,k',h1,h2,rfl⟩:=(Zhf ps σ ps hb u k).1 hu
    have hsz:(Blk.ren ps k').sz=k'.sz:=by unfold Blk.ren; split <;> rfl
    rcases h.heap o k' h2 with ⟨h3,h4,h5⟩|⟨c,h3,hB⟩
    ·refine .inl ⟨by unfold Ko; rw[h1]; exact h3,?_,?_⟩
     ·unfold Blk.ren; split
      ·exact h4
      ·simp[h4]
     ·unfold Blk.ren; split <;> exact h5
    ·refine .inr ⟨c,by unfold Ko; rw[h1,hsz]; exact h3,?_⟩
     obtain⟨own,pin,ty,frz,top,dat,hsz',vs,e,fr,e1,e2,e3,e4⟩:=hB
     unfold Blk.ren
     split
     ·rename_i hpu
      refine⟨own,pin,ty,frz,top,dat,hsz',vs,e,fr,e1,e2,e3,λi j r d hr hd=>?_⟩
      obtain⟨v,a1,a2,a3⟩:=e4 i j r d hr hd
      exact⟨v,a1,a2,a3.of_dat (λ_ _ _=>rfl) (λ_=>Nat.le_refl _) (dat hpu i j r d hr hd)⟩
     ·rename_i hpu
      refine⟨own,pin,ty,frz,by simpa using top,(λhp'=>by rw[hpu] at hp'; cases hp'),λi r hr=>?_,vs,e,fr,e1,e2,by simpa using e3,λi j r d hr hd=>?_⟩
      ·simp only[List.getElem?_map] at hr
       obtain⟨r',hr',rfl⟩:=Xt hr
       simpa using hsz' i r' hr'
      ·simp only[List.getElem?_map] at hr
       obtain⟨r',hr',rfl⟩:=Xt hr
       rw[List.getElem?_map] at hd
       obtain⟨d',hd',rfl⟩:=Xt hd
       obtain⟨v,a1,a2,a3⟩:=e4 i j r' d' hr' hd'
       exact⟨v,a1,a2,a3.renE hp a2⟩
   ·obtain⟨o,h1,h2⟩:=hβ u x hu
    obtain⟨k,hk⟩:=h.dom o x h2
    exact⟨_,(Zhf ps σ ps hb u _).2 ⟨o,k,h1,hk,rfl⟩⟩
   ·obtain⟨o,h1,h2⟩:=hβ u _ hu
    obtain⟨o',h1',h2'⟩:=hβ u' _ hu'
    have:=h.inj o o' c s s' h2 h2'
    subst this
    have e1:=(Z9w hp o u).2 h1
    have e2:=(Z9w hp o u').2 h1'
    rw[e1] at e2; cases e2; rfl
  ·cases hg
 ·cases hg
inductive Wa where
 | tmp (t b sz:Nat)
 | cell (t i b sz:Nat)
 | blk (b0 o b sz:Nat) (ty:Option TypeId:=none)
 /-- of a slice in a cell of a block:that it has no room is forgotten -/
 | loose (b0 o:Nat)
 /-- .. of a slice in a temporary -/
 | tl (t:Nat)
def Z6c:D→Bool
 | .sl true [] =>true
 | _=>false
def Z2r (sz:Nat) (ty:Option TypeId:=none):Blk:={ sz,rows:=[],frz:=0,pure:=true,ty }
def S.conv1 (σ:S):Wa→Option S
 | .tmp t b sz=>
  match σ.heap b with
  | none=>match Z6c (σ.tmps t) with
   | true=>some { σ with tmps:=λu=>if u=t then .lsl b 0 0 else σ.tmps u,heap:=λu=>if u=b then some (Z2r sz) else σ.heap u }
   | false=>none
  | some _=>none
 | .cell t i b sz=>
  match σ.heap b,σ.tmps t with
  | none,.agg cs=>
   match cs[i]? with
   | some d=>match Z6c d with
    | true=>some { σ with tmps:=λu=>if u=t then .agg (cs.set i (.lsl b 0 0)) else σ.tmps u,heap:=λu=>if u=b then some (Z2r sz) else σ.heap u }
    | false=>none
   | none=>none
  | _,_=>none
 | .blk b0 o b sz ty=>
  match σ.heap b,σ.heap b0 with
  | none,some k=>
   match k.pure,k.rows with
   | false,[r] =>
    match r[o]? with
    | some d=>match Z6c d with
     | true=>some { σ with heap:=λu=>if u=b then some (Z2r sz ty) else if u=b0 then some { k with rows:=[r.set o (.lsl b 0 0)] } else σ.heap u }
     | false=>none
    | none=>none
   | _,_=>none
  | _,_=>none
 | .loose b0 o=>
  match σ.heap b0 with
  | some k=>
   match k.rows with
   | [r] =>
    match r[o]? with
    | some (.sl _ rows)=>some { σ with heap:=λu=>if u=b0 then some { k with rows:=[r.set o (.sl false rows)] } else σ.heap u }
    | _=>none
   | _=>none
  | none=>none
 | .tl t=>
  match σ.tmps t with
  | .sl _ rows=>some { σ with tmps:=λu=>if u=t then .sl false rows else σ.tmps u }
  | _=>none
def S.conv (σ:S):List Wa→Option S
 | [] =>some σ
 | x::l=>match σ.conv1 x with
  | some σ'=>σ'.conv l
  | none=>none
theorem Zky {v:Value} {d:D} (h:Z9 w G β v d) (hn:Z6c d=true) (b:Nat):Z9 w G β v (.lsl b 0 0):=by
 unfold Z6c at hn
 split at hn
 ·cases h with
  | slnil _ y=>exact .lslnil _ y
  | sl c b off n cap sz _ val hn hcc=>simp at hn; subst hn; rw[hcc rfl]; exact .lslnil _ _
 ·cases hn
theorem Zxa {v:Value} {c:Bool} {rows:List (List D)} (h:Z9 w G β v (.sl c rows)):Z9 w G β v (.sl false rows):=by
 cases h with
 | slnil _ x=>exact .slnil false x
 | sl c b off n cap sz rows val hn hcc hcap hsz himm hcell hone hdat hrep=>exact .sl false b off n cap sz _ val hn (λh=>by cases h) hcap hsz himm hcell hone hdat hrep
theorem Za.conv1 (h : Za Γ σ a w G β) {x:Wa} (hx:σ.conv1 x=some σ'):Za Γ σ' a w G β:=by
 have none_of:∀ b,σ.heap b=none→β b=none:=λb hb=>by
  cases hβ:β b with
  | none=>rfl
  | some x=>obtain⟨k,hk⟩:=h.dom b x hβ; rw[hb] at hk; cases hk
 cases x with
 | tl t=>
  simp only[S.conv1] at hx
  split at hx
  ·rename_i c0 rows hd
   cases hx
   refine { h with tmps:=λu=>?_ }
   dsimp only
   split
   ·rename_i hu; subst hu
    exact Zxa (hd ▸ h.tmps u)
   ·exact h.tmps u
  ·cases hx
 | tmp t b sz=>
  simp only[S.conv1] at hx
  split at hx
  ·rename_i hb
   split at hx
   ·rename_i hn
    cases hx
    have h1:=h.nameNil (blk:=Z2r sz) hb ⟨rfl,rfl⟩
    refine { h1 with tmps:=λu=>?_ }
    dsimp only
    split
    ·rename_i hu; subst hu; exact Zky (h.tmps u) hn b
    ·exact h.tmps u
   ·cases hx
  ·cases hx
 | cell t i b sz=>
  simp only[S.conv1] at hx
  split at hx
  ·rename_i cs hb ht
   split at hx
   ·rename_i d hd
    split at hx
    ·rename_i hn
     cases hx
     have h1:=h.nameNil (blk:=Z2r sz) hb ⟨rfl,rfl⟩
     refine { h1 with tmps:=λu=>?_ }
     dsimp only
     split
     ·rename_i hu; subst hu
      have h0:=h.tmps u
      rw[ht] at h0
      obtain⟨vs,hv,hl,hone,hrep⟩:=Jd h0
      rw[hv]
      refine .agg vs _ (by simpa using hl) hone (λj v d' hj hd'=>?_)
      rw[List.getElem?_set] at hd'
      split at hd'
      ·rename_i hij; subst hij
       split at hd'
       ·cases hd'; exact Zky (hrep i v d hj hd) hn b
       ·cases hd'
      ·exact hrep j v d' hj hd'
     ·exact h.tmps u
    ·cases hx
   ·cases hx
  ·cases hx
 | blk b0 o b sz ty=>
  simp only[S.conv1] at hx
  split at hx
  ·rename_i k hb hk
   split at hx
   ·rename_i r hp hr
    split at hx
    ·rename_i d hd
     split at hx
     ·rename_i hn
      cases hx
      have h1:=h.nameNil (blk:=Z2r sz ty) hb ⟨rfl,rfl⟩
      have hbb:b0≠b:=by rintro rfl; rw[hb] at hk; cases hk
      refine { h1 with heap:=λu blk hu=>?_,dom:=λu x hu=>?_ }
      ·dsimp only at hu
       split at hu
       ·cases hu; rename_i hub; subst hub; exact .inl ⟨none_of u hb,rfl,rfl⟩
       ·split at hu
        ·rename_i hub; subst hub
         cases hu
         rcases h.heap u k hk with ⟨g0,g1,g2⟩|⟨c,g0,hB⟩
         ·rw[hr] at g1; cases g1
         ·refine .inr ⟨c,g0,?_⟩
          obtain⟨own,pin,ty',frz,top,dat,hsz',vs,e,fr,e1,e2,e3,e4⟩:=hB
          rw[hr] at e3 hsz' e4 top
          refine⟨own,pin,ty',frz,by simpa using top,(λhp'=>by rw[hp] at hp'; cases hp'),(λi r' hr'=>?_),vs,e,fr,e1,e2,by simpa using e3,(λi j r' d' hr' hd'=>?_)⟩
          ·cases i with
           | zero=>simp at hr'; subst hr'; simpa using hsz' 0 r rfl
           | succ i=>simp at hr'
          ·cases i with
           | zero=>
            simp at hr'; subst hr'
            rw[List.getElem?_set] at hd'
            split at hd'
            ·rename_i hij; subst hij
             split at hd'
             ·cases hd'
              obtain⟨v,a1,a2,a3⟩:=e4 0 o r d rfl hd
              exact⟨v,a1,a2,Zky a3 hn b⟩
             ·cases hd'
            ·exact e4 0 j r d' rfl hd'
           | succ i=>simp at hr'
        ·exact h.heap u blk hu
      ·dsimp only
       split
       ·exact⟨_,rfl⟩
       ·split
        ·exact⟨_,rfl⟩
        ·exact h.dom u x hu
     ·cases hx
    ·cases hx
   ·cases hx
  ·cases hx
 | loose b0 o=>
  simp only[S.conv1] at hx
  split at hx
  ·rename_i k hk
   split at hx
   ·rename_i r hr
    split at hx
    ·rename_i c0 rows hd
     cases hx
     refine { h with heap:=λu blk hu=>?_,dom:=λu x hu=>?_ }
     ·dsimp only at hu
      split at hu
      ·rename_i hub; subst hub
       cases hu
       rcases h.heap u k hk with ⟨g0,g1,g2⟩|⟨c,g0,hB⟩
       ·rw[hr] at g1; cases g1
       ·refine .inr ⟨c,g0,?_⟩
        obtain⟨own,pin,ty',frz,top,dat,hsz',vs,e,fr,e1,e2,e3,e4⟩:=hB
        rw[hr] at e3 hsz' e4 top dat
        refine⟨own,pin,ty',frz,by simpa using top,(λhp' i j r' d' hr' hd'=>?_),(λi r' hr'=>?_),vs,e,fr,e1,e2,by simpa using e3,(λi j r' d' hr' hd'=>?_)⟩
        ·cases i with
         | zero=>
          simp at hr'; subst hr'
          rw[List.getElem?_set] at hd'
          split at hd'
          ·split at hd'
           ·cases hd'; rfl
           ·cases hd'
          ·exact dat hp' 0 j r d' rfl hd'
         | succ i=>simp at hr'
        ·cases i with
         | zero=>simp at hr'; subst hr'; simpa using hsz' 0 r rfl
         | succ i=>simp at hr'
        ·cases i with
         | zero=>
          simp at hr'; subst hr'
          rw[List.getElem?_set] at hd'
          split at hd'
          ·rename_i hij; subst hij
           split at hd'
           ·cases hd'
            obtain⟨v,a1,a2,a3⟩:=e4 0 o r _ rfl hd
            refine⟨v,a1,a2,?_⟩
            cases a3 with
            | slnil _ x=>exact .slnil false x
            | sl c b off n cap sz rows val hn hcc hcap hsz himm hcell hone hdat hrep=>exact .sl false b off n cap sz _ val hn (λh=>by cases h) hcap hsz himm hcell hone hdat hrep
           ·cases hd'
          ·exact e4 0 j r d' rfl hd'
         | succ i=>simp at hr'
      ·exact h.heap u blk hu
     ·dsimp only
      split
      ·exact⟨_,rfl⟩
      ·exact h.dom u x hu
    ·cases hx
   ·cases hx
  ·cases hx
theorem Za.conv:∀ (l:List Wa) {σ σ':S},Za Γ σ a w G β→σ.conv l=some σ'→Za Γ σ' a w G β
 | [],σ,σ',h,hx=>by cases hx; exact h
 | x::l,σ,σ',h,hx=>by
  unfold S.conv at hx
  split at hx
  ·rename_i σ1 h1; exact Za.conv l (h.conv1 h1) hx
  ·cases hx
def Ws (cv:List Wa) (keep:List Nat) (ps:List (Nat×Nat)) (σ:S):Option (List (Nat×D)×List (Nat×Blk)):=
 match σ.conv cv with
 | some σ'=>gcL keep ps σ'
 | none=>none
end Go.Den
