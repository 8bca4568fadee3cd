/-
  append; and the soundness of 'stepD' as a whole.
-/
import Derived.Test.YtaamfcpmekeahaaGreatDoorDenIO
import Derived.Laws.BytesArg
set_option linter.unusedVariables false
set_option linter.unusedSimpArgs false
namespace Go.Den
open Go.RowKit
variable {P:Program} {Γ:Ctx} {σ:S} {a:Act} {w w':World} {G G':Nat→Nat} {β β':Nat→Option (Nat×Nat)}
structure Z02 (P:Program) (w:World) (G:Nat→Nat) (v:Value) (rows:List (List D)) (size:Nat) (cells:List Value):Prop where
 shape:∃ a0 cap,v=.slice a0 rows.length cap∧rows.length≤cap
 len:cells.length=rows.length*size
 run:∀ w':World,(∀ ad,w'.cell? ad=w.cell? ad)→(Builtin.firstCells size rows.length v).run P w'=.ok cells.toArray w'
 one:∀ u∈cells,one u=true
 rep:∀ (i j:Nat) r d,rows[i]?=some r→r[j]?=some d→∃ u,cells[i*size+j]?=some u∧Zh w G (λ_=>none) u d∧d.dat=true
structure Z2e (P:Program) (w:World) (G:Nat→Nat) (v:Value) (rows:List (List D)) (size:Nat) (cells:List Value):Prop where
 lenr:∀ w':World,(Builtin.lenOf v).run P w'=.ok rows.length w'
 len:cells.length=rows.length*size
 run:∀ w':World,(∀ ad,w'.cell? ad=w.cell? ad)→(Builtin.firstCells size rows.length v).run P w'=.ok cells.toArray w'
 one:∀ u∈cells,one u=true
 rep:∀ (i j:Nat) r d,rows[i]?=some r→r[j]?=some d→∃ u,cells[i*size+j]?=some u∧Zh w G (λ_=>none) u d∧d.dat=true
theorem Z02.news {v:Value} {rows:List (List D)} {size:Nat} {cells:List Value} (h:Z02 P w G v rows size cells):Z2e P w G v rows size cells:=by
 obtain⟨⟨ax,cx,b,-⟩,c,d,e,f⟩:=h
 exact⟨λw'=>by subst b; simp[Builtin.lenOf],c,d,e,f⟩
theorem Y5g (s:ByteArray) {size:Nat} (hs:∀ r∈(s.data.toList.map λb=>[D.int .u8 b.toNat]),r.length=size):
  Z2e P w G (.string s) (s.data.toList.map λb=>[.int .u8 b.toNat]) size (s.data.toList.map λb=> .int .u8 b.toNat):=by
 have c:s.data.toList=[]∨size=1:=by
  cases f:s.data.toList with
  | nil=>exact .inl rfl
  | cons b r=>have:=hs [D.int .u8 b.toNat] (by rw[f]; simp); exact .inr this.symm
 refine⟨λw'=>?_,?_,λw' _=>?_,λu k=>?_,λi j r d g f=>?_⟩
 ·simp[Builtin.lenOf]
 ·rcases c with h|h
  ·rw[h]; simp
  ·rw[h]; simp
 ·have e:(List.map (λb=>[D.int IntKind.u8 ↑b.toNat]) s.data.toList).length=s.size:=by simp
  rw[e]
  simp only[Builtin.firstCells,ByteArray.extract_zero_size,Sem.run_pure]
  congr 1
  apply Array.ext'
  simp
 ·simp at k; obtain⟨b,-,rfl⟩:=k; rfl
 ·rcases c with h|h
  ·rw[h] at g; simp at g
  ·subst h
   rw[List.getElem?_map] at g
   obtain⟨b,l,rfl⟩:=Qg g
   cases j with
   | zero=>simp at f; subst f; exact⟨.int .u8 b.toNat,by rw[List.getElem?_map,Nat.mul_one,Nat.add_zero,l]; rfl,.int _ _,rfl⟩
   | succ j=>simp at f
theorem Zuz (v:Value) (x:Option Addr) (cap:Nat) (b:v=.slice x 0 cap) (size:Nat):Z02 P w G v [] size [] :=
 ⟨⟨x,cap,b,Nat.zero_le _⟩,by simp,λw' _=>by subst b; cases x <;> simp[Builtin.firstCells,loadCells,loadCellsFrom],by simp,λi j r d h=>by simp at h⟩
theorem Zuy {v:Value} {b off n cap size:Nat} (A:v=.slice (some ⟨b,off,none⟩) n cap) (y:n≤cap) {rows:List (List D)} (t:rows.length=n) (hsz:∀ (i:Nat) r,rows[i]?=some r→r.length=size)
  (f:Nat→Value) (l:∀ i j,i<n→j<size→w.cell? ⟨b,off+(i*size+j),none⟩=some (f (i*size+j)))
  (g:∀ (i j:Nat) r d,rows[i]?=some r→r[j]?=some d→one (f (i*size+j))=true∧Zh w G (λ_=>none) (f (i*size+j)) d∧d.dat=true):
  Z02 P w G v rows size ((List.range (n*size)).map f):=by
 have c:∀ k,k<n*size→∃ i j,i<n∧j<size∧k=i*size+j:=λk e=>by
  have hs:0<size:=by
   rcases Nat.eq_zero_or_pos size with h|h
   ·subst h; simp at e
   ·exact h
  refine⟨k / size,k % size,Nat.div_lt_of_lt_mul (by rw[Nat.mul_comm]; exact e),Nat.mod_lt _ hs,?_⟩
  rw[Nat.mul_comm]; exact(Nat.div_add_mod k size).symm
 refine⟨⟨_,cap,by rw[t]; exact A,by omega⟩,by simp[t],λw' x=>?_,λu z=>?_,λi j r d m p=>?_⟩
 ·subst A
  simp only[Builtin.firstCells,t]
  refine run_loadCells (P:=P) w' _ _ f (λk e=>?_)
  obtain⟨i,j,q,s,rfl⟩:=c k e
  rw[Addr.add_none,x]
  exact l i j q s
 ·simp only[List.mem_map,List.mem_range] at z
  obtain⟨k,e,rfl⟩:=z
  obtain⟨i,j,q,s,rfl⟩:=c k e
  have m:rows[i]?=some rows[i] :=List.getElem?_eq_getElem (by omega)
  have F:=hsz i _ m
  exact(g i j _ _ m (List.getElem?_eq_getElem (by omega))).1
 ·obtain⟨E,B,C⟩:=g i j r d m p
  have q:i<n:=by
   rcases Nat.lt_or_ge i rows.length with o|o
   ·omega
   ·rw[List.getElem?_eq_none o] at m; cases m
  have s:j<size:=by
   rw[← hsz i r m]
   rcases Nat.lt_or_ge j r.length with o|o
   ·exact o
   ·rw[List.getElem?_eq_none o] at p; cases p
  have e:i*size+j<n*size:=by
   have:(i+1)*size≤n*size:=Nat.mul_le_mul_right _ (by omega)
   rw[Nat.add_mul] at this; omega
  exact⟨f (i*size+j),by simp[e],B,C⟩
theorem Zv0 {v:Value} {c:Bool} {rows:List (List D)} (h:Zh w G β v (.sl c rows)) {size:Nat} (hsz:∀ r∈rows,r.length=size):∃ cells,Z02 P w G v rows size cells:=by
 cases h with
 | slnil _ x=>exact⟨[],Zuz _ x 0 rfl size⟩
 | sl _ b off n cap sz _ val C B s l A m u f y=>
  have z:∀ i,i<n→sz=size:=λi q=>by
   rw[← l i rows[i] (List.getElem?_eq_getElem (by omega))]
   exact hsz _ (List.getElem_mem _)
  refine⟨_,Zuy rfl s C (λi r g=>hsz r (List.mem_of_getElem? g)) (λk=>val (k / size) (k % size)) (λi j q o=>?_) (λi j r d g t=>?_)⟩
  ·have e:=z i q
   subst e
   have:=m i j q o
   rw[show (i*sz+j) / sz=i by rw[Nat.mul_comm,Nat.mul_add_div (by omega),Nat.div_eq_of_lt o,Nat.add_zero],show (i*sz+j) % sz=j by rw[Nat.mul_comm,Nat.mul_add_mod,Nat.mod_eq_of_lt o]]
   rw[← this]; congr 2; omega
  ·have q:i<n:=by
    rcases Nat.lt_or_ge i rows.length with p|p
    ·omega
    ·rw[List.getElem?_eq_none p] at g; cases g
   have e:=z i q
   subst e
   have o:j<sz:=by
    rw[← l i r g]
    rcases Nat.lt_or_ge j r.length with p|p
    ·exact p
    ·rw[List.getElem?_eq_none p] at t; cases t
   rw[show (i*sz+j) / sz=i by rw[Nat.mul_comm,Nat.mul_add_div (by omega),Nat.div_eq_of_lt o,Nat.add_zero],show (i*sz+j) % sz=j by rw[Nat.mul_comm,Nat.mul_add_mod,Nat.mod_eq_of_lt o]]
   exact⟨u i j q o,Z16 (y i j r d g t) (f i j r d g t),f i j r d g t⟩
theorem Zoc {v:Value} {b lo n:Nat} {blk:Blk} (h:Zk Γ σ a w G β) (L:Zh w G β v (.lsl b lo n)) (J:σ.heap b=some blk) (hp:blk.pure=true) (K:lo+n≤blk.rows.length) {size:Nat}
  (hsz:∀ r∈(blk.rows.drop lo).take n,r.length=size):∃ cells,Z02 P w G v ((blk.rows.drop lo).take n) size cells:=by
 have t:((blk.rows.drop lo).take n).length=n:=by simp; omega
 cases L with
 | lslnil _ x=>exact⟨[],by simpa using Zuz _ x 0 rfl size⟩
 | lsl _ _ _ cap c sz off M q y D=>
  obtain⟨rfl,hB⟩:=h.blk J M
  obtain⟨vs,e,fr,I,N,O,F⟩:=hB.cells
  have m:∀ (i:Nat) r,((blk.rows.drop lo).take n)[i]?=some r→blk.rows[lo+i]?=some r∧i<n:=λi r f=>by
   rw[List.getElem?_take] at f
   split at f
   ·rw[List.getElem?_drop] at f; exact⟨f,by assumption⟩
   ·cases f
  have l:∀ i,i<n→∃ r,blk.rows[lo+i]?=some r∧((blk.rows.drop lo).take n)[i]?=some r∧r.length=blk.sz∧r.length=size:=λi s=>by
   have o:lo+i<blk.rows.length:=by omega
   have H:((blk.rows.drop lo).take n)[i]?=some blk.rows[lo+i] :=by
    rw[List.getElem?_take_of_lt s,List.getElem?_drop]; exact List.getElem?_eq_getElem o
   exact⟨blk.rows[lo+i],List.getElem?_eq_getElem o,H,hB.hsz (lo+i) _ (List.getElem?_eq_getElem o),hsz _ (List.mem_of_getElem? H)⟩
  refine⟨_,Zuy (w:=w) (G:=G) (b:=c) (off:=off) rfl q t (λi r f=>hsz r (List.mem_of_getElem? f)) (λk=>vs.getD (lo*blk.sz+k) Go.undef) (λi j s Q=>?_) (λi j r d f A=>?_)⟩
  ·obtain⟨r,f,-,B,C⟩:=l i s
   have p:size=blk.sz:=by omega
   subst p
   obtain⟨u,a1,a2,E⟩:=F (lo+i) j r r[j] f (List.getElem?_eq_getElem (by omega))
   rw[y.resolve_left (by omega),Jc,I]
   have:lo*blk.sz+(i*blk.sz+j)=(lo+i)*blk.sz+j:=by rw[Nat.add_mul]; omega
   simp[this,a1,Array.getD_eq_getD_getElem?]
  ·obtain⟨g,s⟩:=m i r f
   obtain⟨R,z,-,B,C⟩:=l i s
   rw[g] at z; cases z
   have p:size=blk.sz:=by omega
   subst p
   obtain⟨u,a1,a2,E⟩:=F (lo+i) j r d g A
   have:lo*blk.sz+(i*blk.sz+j)=(lo+i)*blk.sz+j:=by rw[Nat.add_mul]; omega
   simp only[this,Array.getD_eq_getD_getElem?,a1,Option.getD_some]
   exact⟨a2,Z16 E (hB.dat hp _ j r d g A),hB.dat hp _ j r d g A⟩
theorem Zux {v:Value} {x:D} (h:Zk Γ σ a w G β) (c:Zh w G β v x) {rows:List (List D)} {q:Prop} (b:Ly σ x=some (rows,q)) (hq:q) {size:Nat} (hsz:∀ r∈rows,r.length=size):
  ∃ cells,Z02 P w G v rows size cells:=by
 unfold Ly at b
 split at b
 ·cases b; exact Zv0 c hsz
 ·split at b
  ·rename_i blk d
   split at b
   ·rename_i hp
    cases b
    exact Zoc h c d hp hq hsz
   ·cases b
  ·cases b
 ·cases b
theorem Zi5 {t f:TypeId} {e:TypeId} (j:P.underlying t=some (.slice e)) {v:Value} {x:D} (h:Zk Γ σ a w G β) (g:Zh w G β v x) {rows:List (List D)} {q:Prop} (b:Z1y P σ t f x=some (rows,q)) (hq:q) {size:Nat} (hsz:∀ r∈rows,r.length=size):
  (∃ cells,Z2e P w G v rows size cells)∧∃ td,P.underlying f=some td∧(td=.slice e∨td=.string):=by
 unfold Z1y at b
 split at b
 ·split at b
  ·rename_i hs
   cases b
   obtain⟨s,rfl,rfl⟩:=Z0f g
   exact⟨⟨_,Y5g s hsz⟩,_,hs,.inr rfl⟩
  ·cases b
 ·split at b
  ·rename_i d
   obtain rfl:t=f:=by simpa using d
   obtain⟨c,i⟩:=Zux (P:=P) h g b hq hsz
   exact⟨⟨c,i.news⟩,_,j,.inl rfl⟩
  ·cases b
theorem Zof {t r ty e:TypeId} {td:TypeDesc} {i:TypeInfo} {z:Value} (p:P.underlying t=some (.slice e)) (g:P.underlying r=some td) (h:td=.slice e∨td=.string) (n:P.info? e=some i) (q:i.zero=some z) {vs vx:Value} {olds news:List (List D)} {co cn:List Value}
  (v:Z02 P w G vs olds i.size co) (o:Z2e P w G vx news i.size cn) {ao:Option Addr} {cap:Nat} (j:vs=.slice ao olds.length cap) (u:cap<olds.length+news.length)
  (s:olds.length+news.length≤9223372036854775807) (d:(olds.length+news.length)*i.bytes≤140737488355328):
  (Builtin.append_ #[t,r] ty #[vs,vx]).run P w=
   .ok (.slice (some ⟨w.heap.size,0,none⟩) (olds.length+news.length) (grownCap w (olds.length+news.length) cap e))
    (w.drew.alloc (.cells (co.toArray++cn.toArray++Builtin.zeroCells z.cells (grownCap w (olds.length+news.length) cap e - (olds.length+news.length))) e)):=by
 have k:=v.run w.drew (λ_=>rfl)
 have l:=o.run w.drew (λ_=>rfl)
 have m:=o.lenr w
 subst j
 have f: ¬ (olds.length+news.length≤cap):=by omega
 have c: ¬ (9223372036854775807<((olds.length:Int)+(news.length:Int))):=by omega
 have b: ¬ (281474976710656<Builtin.nextslicecap (olds.length+news.length) cap*i.bytes):=by have:=growslice_fits u d; omega
 rcases h with rfl|rfl
 ·simp[Builtin.append_,run_underlying p,run_underlying g,sizeOf,typeInfo,zeroValue,n,q,m,f,c,b,Question.forced,k,l,newRow,grownCap]
  congr 2
  apply Array.ext'
  simp[List.append_assoc]
 ·simp[Builtin.append_,run_underlying p,run_underlying g,sizeOf,typeInfo,zeroValue,n,q,m,f,c,b,Question.forced,k,l,newRow,grownCap]
  congr 2
  apply Array.ext'
  simp[List.append_assoc]
theorem Y6b {t u ty e:TypeId} {td:TypeDesc} {i:TypeInfo} (s:P.underlying t=some (.slice e)) (f:P.underlying u=some td) (j:td=.slice e∨td=.string) (r:P.info? e=some i) {vx:Value} {n:Nat} {news:List (List D)} {cn:List Value}
  (g:Z2e P w G vx news i.size cn) {c cap:Nat} (b:n+news.length≤cap) {cur:Array Value} {l:TypeId} {fr:Nat×Nat} (y:w.heap[c]?=some (.cells cur l fr))
  (h:∀ o,o<cur.size→ ¬ (fr.1≤o∧o<fr.2)) (d:(n+news.length)*i.size≤cur.size):
  ∃ cur',(Builtin.append_ #[t,u] ty #[.slice (some ⟨c,0,none⟩) n cap,vx]).run P w=.ok (.slice (some ⟨c,0,none⟩) (n+news.length) cap) (w.setRow c cur')∧cur'.size=cur.size∧
   ∀ k,cur'[k]?=if n*i.size≤k∧k<n*i.size+cn.length then cn[k - n*i.size]? else cur[k]? :=by
 have p:=g.run w (λ_=>rfl)
 have q:=g.lenr w
 obtain⟨cur',m,v,x⟩:=Ziq (P:=P) c (n*i.size) l fr cn 0 cur w y h (by rw[g.len,Nat.add_zero,← Nat.add_mul]; exact d) g.one
 refine⟨cur',?_,v,by simpa using x⟩
 rcases j with rfl|rfl
 ·simp[Builtin.append_,run_underlying s,run_underlying f,sizeOf,typeInfo,r,q,b,p,Addr.add_none,m]
 ·simp[Builtin.append_,run_underlying s,run_underlying f,sizeOf,typeInfo,r,q,b,p,Addr.add_none,m]
theorem Y6a {t u ty e:TypeId} {td:TypeDesc} {i:TypeInfo} (s:P.underlying t=some (.slice e)) (f:P.underlying u=some td) (j:td=.slice e∨td=.string) (r:P.info? e=some i) {vx:Value} {lo n:Nat} {news:List (List D)} {cn:List Value}
  (g:Z2e P w G vx news i.size cn) {c cap:Nat} (b:n+news.length≤cap) {cur:Array Value} {l:TypeId} {fr:Nat×Nat} (y:w.heap[c]?=some (.cells cur l fr))
  (h:∀ o,o<cur.size→ ¬ (fr.1≤o∧o<fr.2)) (d:(lo+n+news.length)*i.size≤cur.size):
  ∃ cur',(Builtin.append_ #[t,u] ty #[.slice (some ⟨c,lo*i.size,none⟩) n cap,vx]).run P w=.ok (.slice (some ⟨c,lo*i.size,none⟩) (n+news.length) cap) (w.setRow c cur')∧cur'.size=cur.size∧
   ∀ k,cur'[k]?=if (lo+n)*i.size≤k∧k<(lo+n)*i.size+cn.length then cn[k - (lo+n)*i.size]? else cur[k]? :=by
 have p:=g.run w (λ_=>rfl)
 have q:=g.lenr w
 obtain⟨cur',m,v,x⟩:=Ziq (P:=P) c (lo*i.size+n*i.size) l fr cn 0 cur w y h (by rw[g.len,Nat.add_zero,← Nat.add_mul,← Nat.add_mul]; exact d) g.one
 refine⟨cur',?_,v,by rw[Nat.add_mul]; simpa using x⟩
 rcases j with rfl|rfl
 ·simp[Builtin.append_,run_underlying s,run_underlying f,sizeOf,typeInfo,r,q,b,p,Addr.add_none,m]
 ·simp[Builtin.append_,run_underlying s,run_underlying f,sizeOf,typeInfo,r,q,b,p,Addr.add_none,m]
theorem Z0y {news olds:List (List D)} {i:Nat} {r:List D} (h:(olds++news)[i]?=some r):(i<olds.length∧olds[i]?=some r)∨(olds.length≤i∧news[i - olds.length]?=some r):=by
 rw[List.getElem?_append] at h
 split at h
 ·exact .inl ⟨by assumption,h⟩
 ·exact .inr ⟨by omega,h⟩
theorem Zkx (h:Zk Γ σ a w G β) {olds news:List (List D)} {co cn:List Value} {size:Nat} {vs vx:Value} (l:Z02 P w G vs olds size co) (y:Z2e P w G vx news size cn)
  (C:∀ r∈olds,r.length=size) (B:∀ r∈news,r.length=size) {zs:Array Value} {e:TypeId} {frz:Nat} {ty:Option TypeId} (E:∀ t,ty=some t→e=t) (H:frz≤olds.length+news.length) {β':Nat→Option (Nat×Nat)}:
  Vr (w.drew.alloc (.cells (co.toArray++cn.toArray++zs) e)) G β' Γ w.heap.size { sz:=size,rows:=olds++news,frz,pure:=true,ty }:=by
 have A:G w.heap.size=0:=h.fresh _ (Nat.le_refl _)
 have F:Below w.heap.size w (w.drew.alloc (.cells (co.toArray++cn.toArray++zs) e)):=(Z6i w).trans (Ku w.drew _)
 have f:∀ u d,Zh w G (λ_=>none) u d→d.dat=true→Zh (w.drew.alloc (.cells (co.toArray++cn.toArray++zs) e)) G β' u d:=λu d L p=>
  L.of_dat (λb o l=>Z09 (F.block b (h.marksLt l)) o) (λ_=>Nat.le_refl _) p
 refine⟨.inl h.big,(λk J=>by cases J),(λt K=>by obtain rfl:=E t K; exact⟨_,_,Lp w.drew _,Nat.le_refl _⟩),(λo l=>by rw[A] at l; omega),by simpa using H,λ_ i j r d x p=>?_,λi r x=>?_,_,e,(0,0),Lp w.drew _,λo _=>by simp,?_,λi j r d x p=>?_⟩
 ·rcases Z0y x with ⟨_,c⟩|⟨_,c⟩
  ·obtain⟨u,-,-,n⟩:=l.rep _ j r d c p; exact n
  ·obtain⟨u,-,-,n⟩:=y.rep _ j r d c p; exact n
 ·rcases Z0y x with ⟨_,c⟩|⟨_,c⟩
  ·exact C r (List.mem_of_getElem? c)
  ·exact B r (List.mem_of_getElem? c)
 ·show (olds++news).length*size≤_
  simp[l.len,y.len,Nat.add_mul]
 ·show ∃ v,(co.toArray++cn.toArray++zs)[i*size+j]?=some v∧_
  rcases Z0y x with ⟨I,c⟩|⟨I,c⟩
  ·obtain⟨u,g,z,n⟩:=l.rep i j r d c p
   have s:i*size+j<co.length:=by
    rcases Nat.lt_or_ge (i*size+j) co.length with m|m
    ·exact m
    ·rw[List.getElem?_eq_none m] at g; cases g
   refine⟨u,?_,l.one u (List.mem_of_getElem? g),f u d z n⟩
   rw[Array.append_assoc,Array.getElem?_append_left (by simpa using s)]
   simpa using g
  ·obtain⟨u,g,z,n⟩:=y.rep _ j r d c p
   have s:(i - olds.length)*size+j<cn.length:=by
    rcases Nat.lt_or_ge ((i - olds.length)*size+j) cn.length with m|m
    ·exact m
    ·rw[List.getElem?_eq_none m] at g; cases g
   refine⟨u,?_,y.one u (List.mem_of_getElem? g),f u d z n⟩
   have q:i*size+j=co.length+((i - olds.length)*size+j):=by
    rw[l.len,← Nat.add_assoc,← Nat.add_mul]; congr 2; omega
   rw[q,Array.append_assoc,Array.getElem?_append_right (by simp),Array.getElem?_append_left (by simp; omega)]
   simpa using g
theorem Y2x (E : Zk Γ σ a w G β) {o:Oper} {args:Array Operand} {ts:Array TypeId} (ho:o.op=.call { callee:= .builtin .append,args,argTypes:=ts }) {so xo:Operand} {t:TypeId}
  {t':TypeId} (h0:args= #[so,xo]) (T:ts= #[t,t']) {told:X8} {σ':S} {q:Prop} (h:Z2g P σ o t t' (σ.ev so) (σ.ev xo) told=some (σ',q)) (hq:q):Reach P Γ o a w σ':=by
 subst h0 T
 have hs:=W8 E so
 have hx:=W8 E xo
 have B:∀ {v:Value} {w':World},(Builtin.append_ #[t,t'] o.type #[a.eval so,a.eval xo]).run P w=.ok v w'→(execOp a.eval o).run P w=.ok (.value v) w':=λh=>by
  simp[execOp,ho,resolve,invoke,builtin,h]
 unfold Z2g at h
 split at h
 ·cases h
 ·rename_i e he
  have U:=Z6v he
  split at h
  ·rename_i ie news qn hie Y
   split at h
   ·cases h
   ·rename_i z hz
    split at h
    ·cases h
    ·rename_i X
     simp only[Bool.and_eq_true,beq_iff_eq] at X
     split at h
     ·-- a block of the call's own
      rename_i b n hse
      rw[hse] at hs
      split at h
      ·rename_i blk hb
       split at h
       ·rename_i hc2
        simp only[Bool.and_eq_true,beq_iff_eq] at hc2
        obtain⟨⟨y,l⟩,hdst⟩:=hc2
        cases h
        obtain⟨q1,q2,q3,q4,q5,q6⟩:=hq
        rw[← q4] at q5 q6 ⊢
        rw[List.length_append]
        subst q2
        obtain⟨⟨cn,H⟩,td,C,M⟩:=Zi5 (P:=P) U E hx Y q1 q3
        have hso:∀ r∈blk.rows,r.length=ie.size:=λr F=>by
         obtain⟨i,hi⟩:=List.getElem?_of_mem F
         rcases E.heap b blk hb with ⟨_,I,-⟩|⟨c,I,hB⟩
         ·rw[I] at F; cases F
         ·rw[hB.hsz i r hi,l]
        obtain⟨co,hO⟩:=Zoc (P:=P) E hs hb y (by omega) (size:=ie.size) (λr F=>hso r (List.mem_of_mem_drop (List.mem_of_mem_take F)))
        rw[show (blk.rows.drop 0).take blk.rows.length=blk.rows by simp] at hO
        obtain⟨ao,cap,N,hcap⟩:=hO.shape
        simp only[List.length_append] at q5 q6
        have hput:∀ {w2 G2 β2 v},Zk Γ ((σ.drop b).setB b (some { blk with rows:=blk.rows++news,pin:=none,ty:=tyM told.mt blk.ty e })) a w2 G2 β2→Zh w2 G2 β2 v (.lsl b 0 (blk.rows.length+news.length))→
          Zk Γ (((σ.drop b).setB b (some { blk with rows:=blk.rows++news,pin:=none,ty:=tyM told.mt blk.ty e })).put o.dst (.lsl b 0 (blk.rows.length+news.length))) (a.put o.dst v) w2 G2 β2:=λI h2=>I.put (λt T=>Jf hdst t T) h2
        have A:(σ.drop b).heap b=none:=by simp[S.drop]
        by_cases Z:blk.rows.length+news.length≤cap
        ·-- there is room
         generalize hve:a.eval so=vs at hs N
         obtain⟨n0,hn0⟩:∃ n0,n0=blk.rows.length:=⟨_,rfl⟩
         rw[← hn0] at hs
         cases hs with
         | lslnil _ x=>
          have hr0:blk.rows=[] :=List.eq_nil_of_length_eq_zero hn0.symm
          have hcap0:cap=0:=by injection N with _ _ h; exact h.symm
          have hm:news=[] :=List.eq_nil_of_length_eq_zero (by omega)
          subst hm
          have hcn:cn=[] :=List.eq_nil_of_length_eq_zero (by simpa using H.len)
          subst hcn
          have hfc:=H.run w (λ_=>rfl)
          have hln:=H.lenr w
          have F:(Builtin.append_ #[t,t'] o.type #[a.eval so,a.eval xo]).run P w=.ok (.slice x 0 0) w:=by
           rw[hve]
           simp at hfc hln
           rcases M with rfl|rfl <;> cases x <;> simp[Builtin.append_,run_underlying U,run_underlying C,sizeOf,typeInfo,hie,hln,hfc,storeCells]
          refine Reach.of_value (B F) (hput ((E.drop b).nameNil A ⟨by simp[hr0],?_⟩) (by rw[show blk.rows.length+([]:List (List D)).length=0 by simp[hr0]]; exact .lslnil b x))
          rcases E.heap b blk hb with ⟨_,_,h2⟩|⟨c,I,hB⟩
          ·exact h2
          ·have:=hB.top; rw[hr0] at this; simpa using this
         | lsl _ _ _ cap' c sz off hβ hcap' hoff hroom'=>
          obtain⟨rfl,rfl,rfl⟩:ao=some ⟨c,off,none⟩∧n0=blk.rows.length∧cap'=cap:=by injection N with I h2 h3; exact⟨I.symm,h2,h3⟩
          obtain⟨rfl,hB⟩:=E.blk hb hβ
          obtain⟨cur,e',fr,k1,k2,k3,k4⟩:=hB.cells
          have hoff0:off=0∨cap'=0:=by rcases hoff with h|h; exact .inr h; exact .inl (by simpa using h)
          have R:(blk.rows.length+news.length)*ie.size≤cur.size:=by
           obtain⟨vs2,e2,fr2,l1,l2⟩:=hroom'
           rw[k1] at l1; cases l1
           rcases l2 with l2|l2
           ·have:blk.rows.length+news.length=0:=by omega
            rw[this]; simp
           ·rw[← l]
            refine Nat.le_trans (Nat.mul_le_mul_right _ ?_) l2; omega
          by_cases hcap0:cap'=0
          ·have hr0:blk.rows=[] :=List.eq_nil_of_length_eq_zero (by omega)
           have hm:news=[] :=List.eq_nil_of_length_eq_zero (by omega)
           subst hm
           have hcn:cn=[] :=List.eq_nil_of_length_eq_zero (by simpa using H.len)
           subst hcn
           have hfc:=H.run w (λ_=>rfl)
           have hln:=H.lenr w
           have F:(Builtin.append_ #[t,t'] o.type #[a.eval so,a.eval xo]).run P w=.ok (.slice (some ⟨c,off,none⟩) 0 0) w:=by
            rw[hve,hr0,hcap0]
            simp at hfc hln
            rcases M with rfl|rfl <;> simp[Builtin.append_,run_underlying U,run_underlying C,sizeOf,typeInfo,hie,hln,hfc,storeCells]
           refine Reach.of_value (B F) (hput ((E.drop b).nameNil A ⟨by simp[hr0],?_⟩) (by rw[show blk.rows.length+([]:List (List D)).length=0 by simp[hr0]]; exact .lslnil b _))
           have:=hB.top; rw[hr0] at this; simpa using this
          ·obtain rfl:off=0:=hoff0.resolve_right hcap0
           obtain⟨cur',r1,r2,r3⟩:=Y6b (ty:=o.type) U C M hie H Z k1 k2 R
           rw[hve] at B
           have hW:K5 Γ G c w (w.setRow c cur'):=Zq6 k1 r2 hB.own λk hk=>by
            rw[r3 k,if_neg]
            intro hcon
            have h5:=hB.frz k hk
            have:blk.frz*blk.sz≤blk.rows.length*ie.size:=by rw[← l]; exact Nat.mul_le_mul_right _ (by have:=hB.top; omega)
            omega
           have p:∀ O s,upd β b none O≠some (c,s):=λO s f=>by
            unfold upd at f
            split at f
            ·cases f
            ·rename_i hne; exact hne (E.inj O b c s blk.sz f hβ)
           have V:=(E.drop b).scratch p hW
           have K:∀ u d,Zh w G (λ_=>none) u d→d.dat=true→Zh (w.setRow c cur') G (upd β b none) u d:=λu d U J=>U.of_dat hW.cells (λ_=>Nat.le_refl _) J
           have hB':Vr (w.setRow c cur') G (upd β b none) Γ c { blk with rows:=blk.rows++news,pin:=none,ty:=tyM told.mt blk.ty e }:=by
            refine⟨hB.own,(λk hk=>by cases hk),(λt T=>by obtain⟨vs2,fr2,g,gle⟩:=hB.ty t (Zpp T).1; rw[k1] at g; cases g; exact⟨_,_,setRow_heap w c cur cur' _ _ k1,gle⟩),hB.frz,by have:=hB.top; simp; omega,λ_ i j r d F J=>?_,λi r F=>?_,cur',e',fr,setRow_heap w c cur cur' e' fr k1,λo ho=>k2 o (by omega),?_,λi j r d F J=>?_⟩
            ·rcases Z0y F with ⟨_,m⟩|⟨_,m⟩
             ·exact hB.dat y _ j r d m J
             ·obtain⟨u,-,-,h3⟩:=H.rep _ j r d m J; exact h3
            ·rcases Z0y F with ⟨_,m⟩|⟨_,m⟩
             ·exact hB.hsz _ r m
             ·show _=blk.sz
              rw[l]; exact q3 r (List.mem_of_getElem? m)
            ·show (blk.rows++news).length*blk.sz≤_
             rw[List.length_append,l,r2]; exact R
            ·show ∃ v,cur'[i*blk.sz+j]?=some v∧_
             rcases Z0y F with ⟨hi,m⟩|⟨hi,m⟩
             ·obtain⟨u,I,h2,h3⟩:=k4 i j r d m J
              have hj:j<blk.sz:=by
               rw[← hB.hsz i r m]
               rcases Nat.lt_or_ge j r.length with h'|h'
               ·exact h'
               ·rw[List.getElem?_eq_none h'] at J; cases J
              have hlt:i*blk.sz+j<blk.rows.length*ie.size:=by
               rw[← l]
               have:(i+1)*blk.sz≤blk.rows.length*blk.sz:=Nat.mul_le_mul_right _ (by omega)
               rw[Nat.add_mul] at this; omega
              exact⟨u,by rw[r3,if_neg (by omega)]; exact I,h2,K u d (Z16 h3 (hB.dat y _ j r d m J)) (hB.dat y _ j r d m J)⟩
             ·obtain⟨u,I,h2,h3⟩:=H.rep _ j r d m J
              have hlt:(i - blk.rows.length)*ie.size+j<cn.length:=by
               rcases Nat.lt_or_ge ((i - blk.rows.length)*ie.size+j) cn.length with h'|h'
               ·exact h'
               ·rw[List.getElem?_eq_none h'] at I; cases I
              have hidx:i*blk.sz+j=blk.rows.length*ie.size+((i - blk.rows.length)*ie.size+j):=by
               rw[l,← Nat.add_assoc,← Nat.add_mul]; congr 2; omega
              exact⟨u,by rw[r3,hidx,if_pos (by omega),Nat.add_sub_cancel_left]; exact I,H.one u (List.mem_of_getElem? I),K u d h2 h3⟩
           have W:=V.name (b:=b) (blk:={ blk with rows:=blk.rows++news,pin:=none,ty:=tyM told.mt blk.ty e }) A p hB'
           refine Reach.of_value (B r1) (hput W ?_)
           refine .lsl b 0 _ cap' c blk.sz 0 (by simp[upd]) Z (.inr (by simp)) ⟨cur',e',fr,setRow_heap w c cur cur' e' fr k1,?_⟩
           obtain⟨vs2,e2,fr2,l1,l2⟩:=hroom'
           rw[k1] at l1; cases l1
           rw[r2]; exact l2
        ·-- it grows
         have hrg:=Zof U C M hie hz hO H N (by omega) q5 q6 (ty:=o.type)
         have Q:=Zkx E hO H hso q3 (zs:=Builtin.zeroCells z.cells (grownCap w (blk.rows.length+news.length) cap e - (blk.rows.length+news.length))) (e:=e) (frz:=blk.frz) (ty:=tyM told.mt blk.ty e) (λt T=>(Zpp T).2) (by
          rcases E.heap b blk hb with ⟨_,_,I⟩|⟨c,I,hB⟩
          ·omega
          ·have:=hB.top; omega) (β':=upd β b none)
         have hbe:({ sz:=ie.size,rows:=blk.rows++news,frz:=blk.frz,pure:=true,ty:=tyM told.mt blk.ty e }:Blk)={ blk with rows:=blk.rows++news,pin:=none,ty:=tyM told.mt blk.ty e }:=by
          rw[← l,← y]
         rw[hbe] at Q
         have hbel:Below w.heap.size w (w.drew.alloc (.cells (co.toArray++cn.toArray++Builtin.zeroCells z.cells (grownCap w (blk.rows.length+news.length) cap e - (blk.rows.length+news.length))) e)):=(Z6i w).trans (Ku w.drew _)
         have V:=(E.drop b).quiet hbel
         have p:∀ O s,upd β b none O≠some (w.heap.size,s):=λO s f=>by
          unfold upd at f
          split at f
          ·cases f
          ·obtain⟨k,hk⟩:=E.dom O _ f
           rcases E.heap O k hk with ⟨h0,-⟩|⟨c,h0,hB⟩
           ·rw[h0] at f; cases f
           ·rw[h0] at f; cases f; have:=hB.lt; omega
         have W:=V.name (b:=b) A p Q
         refine Reach.of_value (B hrg) (hput W ?_)
         refine .lsl b 0 _ _ w.heap.size blk.sz 0 (by simp[upd]) (grownCap_ge w _ cap e) (.inr (by simp)) ⟨_,e,(0,0),Lp w.drew _,.inr ?_⟩
         have hzz:(Builtin.zeroCells z.cells (grownCap w (blk.rows.length+news.length) cap e - (blk.rows.length+news.length))).size=(grownCap w (blk.rows.length+news.length) cap e - (blk.rows.length+news.length))*ie.size:=by rw[size_zeroCells,X.1]
         simp only[Array.size_append,List.size_toArray,hO.len,H.len,hzz,l,Nat.zero_add,← Nat.add_mul]
         refine Nat.mul_le_mul_right _ ?_
         have:=grownCap_ge w (blk.rows.length+news.length) cap e
         omega
       ·cases h
      ·cases h
     ·-- .. where one more row fits in
      rename_i b lo n hse
      rw[hse] at hs
      split at h
      ·rename_i blk hb
       split at h
       ·rename_i hc2
        simp only[Bool.and_eq_true,beq_iff_eq] at hc2
        obtain⟨⟨⟨y,l⟩,hdst⟩,L⟩:=hc2
        cases h
        obtain⟨q1,q2,q3,q4⟩:=hq
        rw[← q4]
        obtain⟨⟨cn,H⟩,td,C,M⟩:=Zi5 (P:=P) U E hx Y q1 q3
        have A:(σ.drop b).heap b=none:=by simp[S.drop]
        generalize hve:a.eval so=vs at hs
        cases hs with
        | lsk _ _ _ _ cap c sz off hβ _ _ hfr hoff Z=>
         have hcap:n<cap:=hfr rfl
         obtain⟨rfl,hB⟩:=E.blk hb hβ
         obtain rfl:=hoff.resolve_left (by omega)
         obtain⟨cur,e',fr,k1,k2,k3,k4⟩:=hB.cells
         obtain⟨vs2,e2,fr2,l1,l2⟩:=Z
         rw[k1] at l1; cases l1
         replace l2:=l2.resolve_left (by omega)
         have R:(lo+n+news.length)*ie.size≤cur.size:=by
          rw[← l]; refine Nat.le_trans (Nat.mul_le_mul_right _ ?_) l2; omega
         obtain⟨cur',r1,r2,r3⟩:=Y6a (ty:=o.type) U C M hie H (by omega:n+news.length≤cap) k1 k2 R
         rw[l] at hve
         rw[hve] at B
         rw[q2] at r3 R
         have hW:K5 Γ G c w (w.setRow c cur'):=Zq6 k1 r2 hB.own λk hk=>by
          rw[r3 k,if_neg]
          intro hcon
          have h5:=hB.frz k hk
          have:blk.frz*blk.sz≤blk.rows.length*ie.size:=by rw[← l]; exact Nat.mul_le_mul_right _ (by have:=hB.top; omega)
          omega
         have p:∀ O s,upd β b none O≠some (c,s):=λO s f=>by
          unfold upd at f
          split at f
          ·cases f
          ·rename_i hne; exact hne (E.inj O b c s blk.sz f hβ)
         have V:=(E.drop b).scratch p hW
         have K:∀ u d,Zh w G (λ_=>none) u d→d.dat=true→Zh (w.setRow c cur') G (upd β b none) u d:=λu d U J=>U.of_dat hW.cells (λ_=>Nat.le_refl _) J
         have hB':Vr (w.setRow c cur') G (upd β b none) Γ c { blk with rows:=blk.rows++news,pin:=none,ty:=tyM told.mt blk.ty e }:=by
          refine⟨hB.own,(λk hk=>by cases hk),(λt T=>by obtain⟨vs2,fr2,g,gle⟩:=hB.ty t (Zpp T).1; rw[k1] at g; cases g; exact⟨_,_,setRow_heap w c cur cur' _ _ k1,gle⟩),hB.frz,by have:=hB.top; simp; omega,λ_ i j r d F J=>?_,λi r F=>?_,cur',e',fr,setRow_heap w c cur cur' e' fr k1,λo ho=>k2 o (by omega),?_,λi j r d F J=>?_⟩
          ·rcases Z0y F with ⟨_,m⟩|⟨_,m⟩
           ·exact hB.dat y _ j r d m J
           ·obtain⟨u,-,-,h3⟩:=H.rep _ j r d m J; exact h3
          ·rcases Z0y F with ⟨_,m⟩|⟨_,m⟩
           ·exact hB.hsz _ r m
           ·show _=blk.sz
            rw[l]; exact q3 r (List.mem_of_getElem? m)
          ·show (blk.rows++news).length*blk.sz≤_
           rw[List.length_append,l,r2]; exact R
          ·show ∃ v,cur'[i*blk.sz+j]?=some v∧_
           rcases Z0y F with ⟨hi,m⟩|⟨hi,m⟩
           ·obtain⟨u,I,h2,h3⟩:=k4 i j r d m J
            have hj:j<blk.sz:=by
             rw[← hB.hsz i r m]
             rcases Nat.lt_or_ge j r.length with h'|h'
             ·exact h'
             ·rw[List.getElem?_eq_none h'] at J; cases J
            have hlt:i*blk.sz+j<blk.rows.length*ie.size:=by
             rw[← l]
             have:(i+1)*blk.sz≤blk.rows.length*blk.sz:=Nat.mul_le_mul_right _ (by omega)
             rw[Nat.add_mul] at this; omega
            exact⟨u,by rw[r3,if_neg (by omega)]; exact I,h2,K u d (Z16 h3 (hB.dat y _ j r d m J)) (hB.dat y _ j r d m J)⟩
           ·obtain⟨u,I,h2,h3⟩:=H.rep _ j r d m J
            have hlt:(i - blk.rows.length)*ie.size+j<cn.length:=by
             rcases Nat.lt_or_ge ((i - blk.rows.length)*ie.size+j) cn.length with h'|h'
             ·exact h'
             ·rw[List.getElem?_eq_none h'] at I; cases I
            have hidx:i*blk.sz+j=blk.rows.length*ie.size+((i - blk.rows.length)*ie.size+j):=by
             rw[l,← Nat.add_assoc,← Nat.add_mul]; congr 2; omega
            exact⟨u,by rw[r3,hidx,if_pos (by omega),Nat.add_sub_cancel_left]; exact I,H.one u (List.mem_of_getElem? I),K u d h2 h3⟩
         have W:=V.name (b:=b) (blk:={ blk with rows:=blk.rows++news,pin:=none,ty:=tyM told.mt blk.ty e }) A p hB'
         rw[L] at r1
         refine Reach.of_value (B r1) (W.put (λt T=>Jf hdst t T) ?_)
         rw[← l]
         exact .lsl b lo (n+1) cap c blk.sz (lo*blk.sz) (by simp[upd]) (by omega) (.inr rfl) ⟨cur',e',fr,setRow_heap w c cur cur' e' fr k1,.inr (by rw[r2]; exact l2)⟩
       ·cases h
      ·cases h
     ·-- .. where nothing fits in
      rename_i b lo n hse
      rw[hse] at hs
      split at h
      ·rename_i blk hb
       split at h
       ·rename_i hc2
        simp only[Bool.and_eq_true,beq_iff_eq] at hc2
        obtain⟨⟨⟨y,l⟩,hdst⟩,L⟩:=hc2
        cases h
        obtain⟨q1,q2,q3,q4,q5,q6⟩:=hq
        rw[← q4]
        obtain⟨⟨cn,H⟩,td,C,M⟩:=Zi5 (P:=P) U E hx Y q1 q3
        have hso:∀ r∈blk.rows,r.length=ie.size:=λr F=>by
         obtain⟨i,hi⟩:=List.getElem?_of_mem F
         rcases E.heap b blk hb with ⟨_,I,-⟩|⟨c,I,hB⟩
         ·rw[I] at F; cases F
         ·rw[hB.hsz i r hi,l]
        have hdl:(blk.rows.drop lo).length=n:=by rw[List.length_drop]; omega
        obtain⟨co,hO⟩:=Zoc (P:=P) E hs.unk hb y (by omega) (size:=ie.size) (λr F=>hso r (List.mem_of_mem_drop (List.mem_of_mem_take F)))
        rw[List.take_of_length_le (by omega)] at hO
        obtain⟨ao,cap,N,hcap⟩:=hO.shape
        have hcn:cap=n:=by
         rw[N,hdl] at hs
         clear hse B hO N hdl
         generalize hD:D.lsk true b lo n=d at hs
         cases hs with
         | lskn=>cases hD; rfl
         | lsk _ _ _ _ _ _ _ _ _ _ hf _ _ _=>cases hD; exact hf rfl
         | _=>cases hD
        have A:(σ.drop b).heap b=none:=by simp[S.drop]
        have hrg:=Zof U C M hie hz hO H N (by omega) (by omega) (by rw[hdl,L]; exact q6) (ty:=o.type)
        have Q:=Zkx E hO H (λr F=>hso r (List.mem_of_mem_drop F)) q3 (zs:=Builtin.zeroCells z.cells (grownCap w ((blk.rows.drop lo).length+news.length) cap e - ((blk.rows.drop lo).length+news.length))) (e:=e) (frz:=0) (ty:=none) (λt T=>by cases T) (Nat.zero_le _) (β':=upd β b none)
        have hbel:Below w.heap.size w (w.drew.alloc (.cells (co.toArray++cn.toArray++Builtin.zeroCells z.cells (grownCap w ((blk.rows.drop lo).length+news.length) cap e - ((blk.rows.drop lo).length+news.length))) e)):=(Z6i w).trans (Ku w.drew _)
        have V:=(E.drop b).quiet hbel
        have p:∀ O s,upd β b none O≠some (w.heap.size,s):=λO s f=>by
         unfold upd at f
         split at f
         ·cases f
         ·obtain⟨k,hk⟩:=E.dom O _ f
          rcases E.heap O k hk with ⟨h0,-⟩|⟨c,h0,hB⟩
          ·rw[h0] at f; cases f
          ·rw[h0] at f; cases f; have:=hB.lt; omega
        have W:=V.name (b:=b) A p Q
        refine Reach.of_value (B hrg) (W.put (λt T=>Jf hdst t T) ?_)
        rw[hdl,L]
        refine .lsl b 0 _ _ w.heap.size ie.size 0 (by simp[upd]) (grownCap_ge w _ cap e) (.inr (by simp)) ⟨_,e,(0,0),Lp w.drew _,.inr ?_⟩
        have hzz:(Builtin.zeroCells z.cells (grownCap w (n+1) cap e - (n+1))).size=(grownCap w (n+1) cap e - (n+1))*ie.size:=by rw[size_zeroCells,X.1]
        simp only[Array.size_append,List.size_toArray,hO.len,H.len,hzz,hdl,L,Nat.zero_add,← Nat.add_mul]
        refine Nat.mul_le_mul_right _ ?_
        have:=grownCap_ge w (n+1) cap e
        omega
       ·cases h
      ·cases h
     ·-- nil,or a slice without room
      rename_i olds hse
      rw[hse] at hs
      obtain⟨tt,T,hb,hlt,rfl,hqp⟩:=Z1x h
      rw[hqp] at hq
      obtain⟨q1,q0,q2,q3,q4,q5,q6⟩:=hq
      obtain⟨⟨cn,H⟩,td,C,M⟩:=Zi5 (P:=P) U E hx Y q1 q3
      obtain⟨co,hO⟩:=Zv0 (P:=P) hs q2
      obtain⟨ao,cap,N,hcap,hcc⟩:=Zom hs
      have hcap':=hcc rfl
      rw[← q4] at q5 q6 ⊢
      simp only[List.length_append] at q5 q6
      by_cases hm:news=[]
      ·have ho0:olds=[] :=q0.resolve_right (by simp[hm])
       subst hm ho0
       have hcn:cn=[] :=List.eq_nil_of_length_eq_zero (by simpa using H.len)
       subst hcn
       have hfc:=H.run w (λ_=>rfl)
       have hln:=H.lenr w
       have hc0:cap=0:=by simpa using hcap'
       subst hc0
       have F:(Builtin.append_ #[t,t'] o.type #[a.eval so,a.eval xo]).run P w=.ok (.slice ao 0 0) w:=by
        rw[N]
        simp at hfc hln
        rcases M with rfl|rfl <;> cases ao <;> simp[Builtin.append_,run_underlying U,run_underlying C,sizeOf,typeInfo,hie,hln,hfc,storeCells]
       refine Reach.of_value (B F) (G':=G) (β':=β) ?_
       rw[T]
       exact(E.nameNil hb ⟨rfl,rfl⟩).put (λu U=>by cases U; exact hlt) (.lslnil tt ao)
      ·have hpos:0<news.length:=List.length_pos_iff.2 hm
       have hrg:=Zof U C M hie hz hO H N (by omega) q5 q6 (ty:=o.type)
       have Q:=Zkx E hO H q2 q3 (zs:=Builtin.zeroCells z.cells (grownCap w (olds.length+news.length) cap e - (olds.length+news.length))) (e:=e) (frz:=0) (ty:=none) (λt T=>by cases T) (Nat.zero_le _) (β':=β)
       have hbel:Below w.heap.size w (w.drew.alloc (.cells (co.toArray++cn.toArray++Builtin.zeroCells z.cells (grownCap w (olds.length+news.length) cap e - (olds.length+news.length))) e)):=(Z6i w).trans (Ku w.drew _)
       have V:=E.quiet hbel
       have p:∀ O s,β O≠some (w.heap.size,s):=λO s f=>by
        obtain⟨k,hk⟩:=E.dom O _ f
        rcases E.heap O k hk with ⟨h0,-⟩|⟨c,h0,hB⟩
        ·rw[h0] at f; cases f
        ·rw[h0] at f; cases f; have:=hB.lt; omega
       have W:=V.name (b:=tt) hb p Q
       refine Reach.of_value (B hrg) (G':=G) (β':=upd β tt (some (w.heap.size,ie.size))) ?_
       rw[T]
       refine W.put (λu U=>by cases U; exact hlt) ?_
       rw[List.length_append]
       refine .lsl tt 0 _ _ w.heap.size ie.size 0 (by simp[upd]) (grownCap_ge w _ cap e) (.inr (by simp)) ⟨_,e,(0,0),Lp w.drew _,.inr ?_⟩
       have hzz:(Builtin.zeroCells z.cells (grownCap w (olds.length+news.length) cap e - (olds.length+news.length))).size=(grownCap w (olds.length+news.length) cap e - (olds.length+news.length))*ie.size:=by rw[size_zeroCells,X.1]
       simp only[Array.size_append,List.size_toArray,hO.len,H.len,hzz,Nat.zero_add,← Nat.add_mul]
       refine Nat.mul_le_mul_right _ ?_
       have:=grownCap_ge w (olds.length+news.length) cap e
       omega
     ·cases h
  ·cases h
theorem Zob:∀ {rows:List (List D)} {s:List UInt8},Mp rows=some s→∃ xs:List Int,rows=xs.map (λn=>[.int .u8 n])∧s=xs.map λn=>UInt8.ofNat n.toNat
 | [],s,h=>by cases h; exact⟨[],rfl,rfl⟩
 | r :: rows,s,h=>by
  unfold Mp at h
  split at h
  ·rename_i heq; cases heq
  ·rename_i n b heq
   cases heq
   split at h
   ·rename_i c hs
    cases h
    obtain⟨xs,rfl,rfl⟩:=Zob hs
    exact⟨n::xs,rfl,rfl⟩
   ·cases h
  ·cases h
theorem Y61 {fits:TypeId→Bool} {d:Nat} {e:TypeId} {n:Nat} {count count' off:Nat} (c:count≤count') (h:rowAt P fits d e count off n=true):rowAt P fits d e count' off n=true:=by
 cases d with
 | zero=>exact h
 | succ d=>
  unfold rowAt at h ⊢
  dsimp only at h ⊢
  split
  ·rename_i b; rw[if_pos b] at h; exact h
  ·rename_i b
   rw[if_neg b] at h
   rw[Bool.or_eq_true] at h ⊢
   rcases h with h|h
   ·left
    simp only[Bool.and_eq_true,decide_eq_true_eq] at h ⊢
    exact⟨⟨h.1.1,by omega⟩,h.2⟩
   ·right
    rw[Bool.and_eq_true] at h ⊢
    exact⟨by have:=of_decide_eq_true h.1; exact decide_eq_true (by omega),h.2⟩
theorem Ztj:∀ {d:Nat} {e u:TypeId} {n:Nat} {count count' off:Nat},count≤count'→liesAt P d e count off u n=true→liesAt P d e count' off u n=true
 | 0,_,_,_,_,_,_,_,h=>h
 | d + 1,e,u,n,count,count',off,b,h=>by
  unfold liesAt at h ⊢
  rw[Bool.or_eq_true] at h ⊢
  rcases h with h|h
  ·exact .inl (Y61 b h)
  ·right
   split at h
   ·exact Ztj b h
   ·cases h
theorem Ziu {w:World} {c:Nat} {vs:Array Value} {e:TypeId} {fr:Nat×Nat} (h:w.heap[c]?=some (.cells vs e fr)):w.shape? c=some (e,vs.size):=by simp[World.shape?,h]
theorem Y3o (p:Zk Γ σ a w G β) {src dst:TypeId} {b c sz:Nat} (h:Z6q P σ src dst b=true) (r:β b=some (c,sz)):
  (convert src dst (.pointer (some ⟨c,0,none⟩))).run P w=.ok (.pointer (some ⟨c,0,none⟩)) w:=by
 unfold Z6q at h
 split at h
 ·rename_i k q
  obtain⟨rfl,hB⟩:=p.blk q r
  split at h
  ·rename_i e l
   obtain⟨vs,fr,f,-⟩:=hB.ty e l
   have i:k.rows.length*k.sz≤vs.size:=by
    obtain⟨vs',s,fr',m,-,n,-⟩:=hB.cells
    rw[f] at m; cases m; exact n
   split at h
   ·rename_i t hs d
    split at h
    ·rename_i j g
     rw[Bool.and_eq_true] at h
     refine Lib.run_to_unsafe w ⟨c,0,none⟩ hs d g (λo=>?_) (Ziu f) ?_
     ·rw[o] at h; exact absurd h.1 (by decide)
     ·have:=Nat.le_of_ble_eq_true h.2
      show 0<vs.size
      omega
    ·cases h
   ·rename_i u hs d
    split at h
    ·rename_i j g
     simp only[Bool.and_eq_true] at h
     have v:=Nat.le_of_ble_eq_true h.1.1
     have x:=Nat.le_of_ble_eq_true h.1.2
     exact Lib.run_from_unsafe w ⟨c,0,none⟩ hs d g (Ziu f) (Ztj ((Nat.le_div_iff_mul_le (by omega)).2 (by omega)) h.2)
    ·cases h
   ·cases h
  ·cases h
 ·cases h
theorem Zv4 (w:World):∀ (l:List Int) (a:Addr) (acc:ByteArray),(∀ j x,l[j]?=some x→w.cell? (a.add j)=some (.int .u8 x))→
  (loadBytes a acc l.length).run P w=.ok ⟨acc.data++(l.map λn=>UInt8.ofNat n.toNat).toArray⟩ w
 | [],a,acc,_=>by simp[loadBytes]
 | x :: l,a,acc,h=>by
  have c:w.cell? a=some (.int .u8 x):=by
   have:=h 0 x rfl
   simpa [Addr.add] using this
  have ih:=Zv4 w l (a.add 1) (acc.push (UInt8.ofNat x.toNat)) (λj y d=>by
   have:=h (j+1) y (by simpa using d)
   have e:(a.add 1).add j=a.add (j+1):=by
    unfold Addr.add
    by_cases b:j=0
    ·subst b; simp
    ·simp[b]; omega
   rw[e]; exact this)
  simp only[List.length_cons,loadBytes,Sem.run_bind,run_load,c,Result.andThen]
  rw[show x.toNat.toUInt8=UInt8.ofNat x.toNat from rfl,ih]
  congr 1
  apply ByteArray.ext
  simp[ByteArray.push]
theorem Zk.frozen (h:Zk Γ σ a w G β) {c n:Nat} (y:∀ b s,β b≠some (c,s)) (q:Γ.B≤c∨Γ.X c):Zk Γ σ a (w.freeze ⟨c,0,none⟩ n) G β:=by
 unfold World.freeze
 split
 ·exact h
 ·generalize hw:({ w with heap:=w.heap.modify (⟨c,0,none⟩:Addr).block fun
   | .cells cs elem (lo,v)=> .cells cs elem (if lo==v then ((⟨c,0,none⟩:Addr).off,(⟨c,0,none⟩:Addr).off+n) else (min lo (⟨c,0,none⟩:Addr).off,max v ((⟨c,0,none⟩:Addr).off+n)))
   | o=>o }:World)=w'
  have d:∀ k,k≠c→w'.heap[k]?=w.heap[k]? :=λk i=>by
   subst hw
   show (w.heap.modify c _)[k]?=_
   rw[Array.getElem?_modify,if_neg (λe=>i e.symm)]
  have g:∀ vs e fr,w.heap[c]?=some (.cells vs e fr)→∃ fr',w'.heap[c]?=some (.cells vs e fr'):=λvs e fr l=>by
   subst hw
   show ∃ fr',(w.heap.modify c _)[c]?=_
   rw[Array.getElem?_modify,if_pos rfl,l]
   exact⟨_,rfl⟩
  have f:∀ b o,w'.cell? ⟨b,o,none⟩=w.cell? ⟨b,o,none⟩:=λb o=>by
   by_cases m:b=c
   ·subst m
    rw[Jc,Jc]
    cases l:w.heap[b]? with
    | none=>
     have:w'.heap[b]?=none:=by
      subst hw
      show (w.heap.modify b _)[b]?=_
      rw[Array.getElem?_modify,if_pos rfl,l]; rfl
     rw[this]
    | some x=>
     cases x with
     | cells vs e fr=>obtain⟨fr',u⟩:=g vs e fr l; rw[u]
     | _ =>
      have:w'.heap[b]?=w.heap[b]? :=by
       subst hw
       show (w.heap.modify b _)[b]?=_
       rw[Array.getElem?_modify,if_pos rfl,l]; rfl
      rw[this,l]
   ·exact Z09 (d b m) o
  have hs:L3 w w':=λk vs e fr i=>by
   by_cases m:k=c
   ·subst m; obtain⟨fr',u⟩:=g vs e fr i; exact⟨vs,fr',u,rfl⟩
   ·exact⟨vs,fr,by rw[d k m]; exact i,rfl⟩
  have hsz:w'.heap.size=w.heap.size:=by subst hw; simp
  have j:L2 Γ.B Γ.X w w':=⟨by subst hw; rfl,by subst hw; rfl,by subst hw; rfl,by rw[hsz]; exact Nat.le_refl _,λk i z=>d k (λe=>by subst e; exact q.elim (λA=>by omega) z),hs⟩
  refine⟨h.defers,h.size,λt=>(h.tmps t).mono (λb o _=>f b o) (λ_=>Nat.le_refl _) (λ_ _ h=>h) hs,λb blk p=>?_,h.dom,h.inj,h.kept.trans j,h.marks,λk i=>h.fresh k (by rw[← hsz]; exact i),by rw[hsz]; exact h.big,h.glob.mono (λb o _=>f b o) (λ_=>Nat.le_refl _)⟩
  rcases h.heap b blk p with r|⟨k,r,hB⟩
  ·exact .inl r
  ·exact .inr ⟨k,r,hB.mono (λb o _=>f b o) (λ_=>Nat.le_refl _) rfl (λ_ _ h=>h) hs (d k (λe=>y b blk.sz (e ▸ r)))⟩
theorem Zk.marked (h:Zk Γ σ a w G β) {b c:Nat} {blk:Blk} {sz:Nat} (q:σ.heap b=some blk) (hβ:β b=some (c,sz)) {vs:Array Value} {e:TypeId} {fr:Nat×Nat} (A:w.heap[c]?=some (.cells vs e fr)) (I:fr.1≤fr.2):
  Zk Γ σ a (w.freeze ⟨c,vs.size,none⟩ 1) G β:=by
 obtain⟨rfl,hB⟩:=h.blk q hβ
 obtain⟨lo,H⟩:=fr
 obtain ⟨fr',n,m,f,K,x,C,hsz⟩:∃ fr':Nat×Nat,(fr'=if lo==H then (vs.size,vs.size+1) else (min lo vs.size,max H (vs.size+1)))∧(w.freeze ⟨c,vs.size,none⟩ 1).heap[c]?=some (.cells vs e fr')∧(∀ k,k≠c→(w.freeze ⟨c,vs.size,none⟩ 1).heap[k]?=w.heap[k]?)∧
   (w.freeze ⟨c,vs.size,none⟩ 1).os=w.os∧(w.freeze ⟨c,vs.size,none⟩ 1).tape=w.tape∧(w.freeze ⟨c,vs.size,none⟩ 1).output=w.output∧(w.freeze ⟨c,vs.size,none⟩ 1).heap.size=w.heap.size:=by
  unfold World.freeze
  rw[if_neg (show ¬ (1=0) by decide)]
  refine⟨_,rfl,?_,λk p=>?_,rfl,rfl,rfl,by simp⟩
  ·show (w.heap.modify c _)[c]?=_
   rw[Array.getElem?_modify,if_pos rfl,A]; rfl
  ·show (w.heap.modify c _)[k]?=_
   rw[Array.getElem?_modify,if_neg (λe=>p e.symm)]
 generalize w.freeze ⟨c,vs.size,none⟩ 1=w' at*
 have g:∀ b o,w'.cell? ⟨b,o,none⟩=w.cell? ⟨b,o,none⟩:=λb o=>by
  by_cases q:b=c
  ·subst q; rw[Jc,Jc,A,m]
  ·exact Z09 (f b q) o
 have hs:L3 w w':=λk vs2 e2 fr2 p=>by
  by_cases q:k=c
  ·subst q; rw[A] at p; cases p; exact⟨_,_,m,rfl⟩
  ·exact⟨_,_,by rw[f k q]; exact p,rfl⟩
 have s:L2 Γ.B Γ.X w w':=⟨K,x,C,by rw[hsz]; exact Nat.le_refl _,λk p hx=>f k (λe=>by subst e; exact hB.own.elim (λF=>by omega) hx),hs⟩
 refine⟨h.defers,h.size,λt=>(h.tmps t).mono (λb o _=>g b o) (λ_=>Nat.le_refl _) (λ_ _ h=>h) hs,λu k hu=>?_,h.dom,h.inj,h.kept.trans s,h.marks,λk p=>h.fresh k (by rw[← hsz]; exact p),by rw[hsz]; exact h.big,h.glob.mono (λb o _=>g b o) (λ_=>Nat.le_refl _)⟩
 rcases h.heap u k hu with E|⟨c',E,y⟩
 ·exact .inl E
 ·by_cases z:c'=c
  ·subst z
   obtain⟨own,pin,ty,frz,top,dat,D,vs',e',fr2,F,M,Q,R⟩:=y
   rw[A] at F; cases F
   refine .inr ⟨_,E,own,pin,λt Z=>?_,frz,top,dat,D,vs,e,fr',m,λo W l=>?_,Q,λi j r d Y U=>?_⟩
   ·obtain⟨vs3,fr3,L,g2⟩:=ty t Z
    rw[A] at L; cases L
    refine⟨_,_,m,?_⟩
    rw[n]; split <;> simp <;> omega
   ·rw[n] at l
    have h5:=M o W
    split at l
    ·simp at l; omega
    ·rename_i J
     have N:lo≠H:=by simpa using J
     by_cases V:lo<vs.size
     ·have T:=M lo V
      simp at T I
      omega
     ·simp at l; omega
   ·obtain⟨v,a1,a2,O⟩:=R i j r d Y U
    exact⟨v,a1,a2,O.mono (λb o _=>g b o) (λ_=>Nat.le_refl _) (λ_ _ h=>h) hs⟩
  ·exact .inr ⟨c',E,y.mono (λb o _=>g b o) (λ_=>Nat.le_refl _) rfl (λ_ _ h=>h) hs (f c' z)⟩
theorem Y6f (q:Zk Γ σ a w G β) {src dst:TypeId} {v:Value} {x:D} (h:Z3l P σ src dst x=true) (E:Zh w G β v x):
  ∃ m,(convert src dst v).run P w=.ok v m∧Zk Γ σ a m G β∧Zh m G β v x:=by
 unfold Z3l at h
 split at h
 ·rename_i b lo n
  split at h
  ·rename_i k e s z
   split at h
   ·rename_i C
    simp only[Bool.and_eq_true] at h
    obtain rfl:=Nat.eq_of_beq_eq_true h.1.1
    have A:=Nat.le_of_ble_eq_true h.1.2
    cases E with
    | lslnil=>exact absurd A (by simp)
    | lsl _ _ _ cap c sz off l f g d=>
     obtain⟨rfl,hB⟩:=q.blk s l
     obtain⟨t,B⟩:=Option.isSome_iff_exists.1 h.2
     obtain⟨vs,fr,i,j⟩:=hB.ty t B
     refine⟨_,?_,q.marked s l i j,.lsl b lo n cap c k.sz off l f g ?_⟩
     ·simp[convert,run_underlying z,run_underlying C,markStringish,Ziu i]
     ·obtain⟨vs',F,fr2,p,u⟩:=d
      rw[i] at p; cases p
      unfold World.freeze
      rw[if_neg (show ¬ (1=0) by decide)]
      have:∃ fr',(w.heap.modify c fun
        | .cells cs elem (lo,r)=> .cells cs elem (if lo==r then (vs.size,vs.size+1) else (min lo vs.size,max r (vs.size+1)))
        | o=>o)[c]?=some (.cells vs t fr'):=by
       rw[Array.getElem?_modify,if_pos rfl,i]; exact⟨_,rfl⟩
      obtain⟨fr',y⟩:=this
      exact⟨vs,t,fr',y,u⟩
   ·cases h
  ·cases h
 ·cases h
theorem Y78 (z:Zk Γ σ a w G β) {o:Oper} {x n:Operand} {pt it:TypeId} (ho:o.op=.call { callee:= .builtin .unsafeString,args:=#[x,n],argTypes:=#[pt,it] }) {told:X8} {σ':S} {q:Prop}
  (h:unsD P σ o pt (σ.ev x) (σ.ev n) told=some (σ',q)) (hq:q):Reach P Γ o a w σ':=by
 have U:=W8 z x
 have Z:=W8 z n
 unfold unsD at h
 split at h
 ·rename_i b m V p
  rw[V] at U
  rw[p] at Z
  split at h
  ·rename_i k e s hk Q Y
   split at h
   ·rename_i A
    cases h
    obtain⟨q1,rfl,q3,q4⟩:=hq
    simp only[Bool.and_eq_true] at A
    have hsz:=Nat.eq_of_beq_eq_true A.1.1.1
    have B:=Nat.eq_of_beq_eq_true A.1.1.2
    have T:k.ty=some e:=by
     have:=A.1.2
     unfold tyIs at this
     split at this
     ·rename_i t ht; rw[ht,Nat.eq_of_beq_eq_true this]
     ·cases this
    obtain⟨xs,d,rfl⟩:=Zob q1
    obtain ⟨c,sz,hv,I⟩:∃ c sz,a.eval x=.pointer (some ⟨c,0,none⟩)∧β b=some (c,sz):=by
     generalize a.eval x=u at U
     cases U with
     | lptr _ _ _ c sz I=>exact⟨c,sz,by simp,I⟩
    obtain⟨rfl,hB⟩:=z.blk hk I
    obtain⟨vs,fr,L,-⟩:=hB.ty e T
    obtain⟨vs',e',fr',W,-,X,g4⟩:=hB.cells
    rw[L] at W; cases W
    have D:xs.length≤vs.size:=by rw[d,hsz] at X; simpa using X
    have g:∀ j y,xs[j]?=some y→w.cell? ((⟨c,0,none⟩:Addr).add j)=some (.int .u8 y):=λj y hy=>by
     obtain⟨v,a1,a2,a3⟩:=g4 j 0 [.int .u8 y] (.int .u8 y) (by rw[d]; simp[hy]) rfl
     rw[U0 a3] at a1
     rw[Addr.add_none,Nat.zero_add,Jc,L]
     rw[hsz] at a1
     simpa using a1
    have M:xs.length≠0:=by intro h0; apply q3; rw[List.eq_nil_of_length_eq_zero h0]; rfl
    have N:=Zv4 (P:=P) w xs ⟨c,0,none⟩ .empty g
    have l:=Lib.liesAt_bytes (P:=P) B (vs.size / P.cellsOf e) xs.length (by rw[B]; simpa using D)
    have R:=Ziu L
    have h63:xs.length≤9223372036854775807:=by simpa using q4
    have H:(Builtin.unsafeString_ #[pt,it] o.type #[.pointer (some ⟨c,0,none⟩),.int .i64 (xs.length:Int)]).run P w=.ok (.string ⟨(xs.map λn=>UInt8.ofNat n.toNat).toArray⟩) (w.freeze ⟨c,0,none⟩ xs.length):=by
     have C:Builtin.unsafeString_ #[pt,it] o.type #[.pointer (some ⟨c,0,none⟩),.int .i64 (xs.length:Int)]=
      (do
       let n ← asInt (.int .i64 (xs.length:Int))
       if n < 0 then runtimePanic (.error "unsafe.String: len out of range")
       if n > IntKind.i64.max then unsupported (.unsafePointer "String: a length above the largest int")
       if n=0 then pure (.string .empty)
       else if ← variablesAt ⟨c,0,none⟩ (← elemOf pt) n.toNat then do
        let s ← loadBytes ⟨c,0,none⟩ .empty n.toNat
        freeze ⟨c,0,none⟩ n.toNat
        pure (.string s)
       else unsupported (.unsafePointer "String: not so many bytes at ptr")) := rfl
     rw[C]
     have E:IntKind.i64.max=9223372036854775807:=rfl
     have r: ¬ (9223372036854775807:Int)<(xs.length:Int):=by omega
     have F: ¬ (xs.length:Int)<0:=by omega
     simp[asInt,asIntOf,E,r,F,M,variablesAt,R,elemOf,run_underlying Q,l,N]
    have i:∀ J s,upd β b none J≠some (c,s):=λJ s f=>by
     unfold upd at f
     split at f
     ·cases f
     ·rename_i p; exact p (z.inj J b c s k.sz f I)
    have K:=((z.drop b).frozen (n:=xs.length) i hB.own).nameNil (b:=b) (blk:={ sz:=1,rows:=[],frz:=0,pure:=true }) (by simp[S.drop]) ⟨rfl,rfl⟩
    refine Reach.of_value (v:= .string ⟨(xs.map λn=>UInt8.ofNat n.toNat).toArray⟩) ?_ (K.put (Jf A.2) (Zaz _ _ (by simp)))
    have O:a.eval n=.int .i64 (xs.length:Int):=by rw[U0 Z]; simp
    simp[execOp,ho,resolve,invoke,builtin,hv,O,H]
   ·cases h
  ·cases h
 ·cases h
theorem Y35 (k:Zk Γ σ a w G β) {o:Oper} {src dst:TypeId} {x:Operand} (t:o.op=.convert src dst x) {told:X8} {σ':S} {q:Prop} (h:Z2h P σ o src dst (σ.ev x) told=some (σ',q)) (hq:q):Reach P Γ o a w σ':=by
 have l:=W8 k x
 unfold Z2h at h
 split at h
 ·rename_i b C
  split at h
  ·rename_i f
   cases h
   rw[Bool.and_eq_true] at f
   rw[C] at l
   obtain ⟨c,sz,z,D⟩:∃ c sz,a.eval x=.pointer (some ⟨c,0,none⟩)∧β b=some (c,sz):=by
    generalize a.eval x=u at l
    cases l with
    | lptr _ _ _ c sz D=>exact⟨c,sz,by simp,D⟩
   have d:(convert src dst (.pointer (some ⟨c,0,none⟩))).run P w=.ok (.pointer (some ⟨c,0,none⟩)) w:=Y3o k f.1 D
   exact Reach.of_value (v:=a.eval x) (by simp only[execOp,t]; rw[z]; exact Z3k d) (k.put (Jf f.2) l)
  ·cases h
 split at h
 ·rename_i f
  cases h
  rw[Bool.and_eq_true] at f
  obtain⟨N,d,p,A⟩:=Y6f (P:=P) k f.1 l
  exact Reach.of_value (v:=a.eval x) (by simp only[execOp,t]; exact Z3k d) (p.put (Jf f.2) A)
 split at h
 ·rename_i e F he
  split at h
  ·rename_i I hsz
   split at h
   ·rename_i rows q0 s y M m
    cases h
    obtain⟨K,L⟩:=hq
    obtain⟨xs,rfl,rfl⟩:=Zob L
    obtain ⟨cells,f⟩:=Zux (P:=P) k l y K (size:=1) (λr y=>by
     obtain⟨n,_,rfl⟩:=List.mem_map.1 y; rfl)
    obtain⟨a0,cap,z,-⟩:=f.shape
    have g:cells=xs.map (Value.int .u8):=by
     apply List.ext_getElem?
     intro j
     by_cases H:j<xs.length
     ·obtain⟨u,E,J,-⟩:=f.rep j 0 [.int .u8 xs[j]] (.int .u8 xs[j]) (by simp[H]) rfl
      have:=U0 J
      subst this
      simp only[Nat.mul_one,Nat.add_zero] at E
      rw[E]; simp[H]
     ·rw[List.getElem?_eq_none (by rw[f.len]; simp; omega),List.getElem?_eq_none (by simp; omega)]
    have d:=f.run w (λ_=>rfl)
    rw[g] at d
    have i:(convert src dst (a.eval x)).run P w=.ok (.string (strOfNums xs)) w:=by
     rw[z] at d ⊢
     cases a0 with
     | none=>
      rw[run_convert_bytes_nil w src e (Z6v he) I _ _ dst F]
      have B:xs=[] :=by
       simp[Builtin.firstCells] at d
       exact d
      subst B
      rfl
     | some ad=>
      simp only[Builtin.firstCells,Nat.mul_one,List.length_map] at d
      rw[run_convert_bytes_string w src dst e _ _ _ (Z6v he) I F,run_bytesToString w ad _ cap xs (by simpa using d),foldl_push_bytes]
      simp[strOfNums,ByteArray.empty,ByteArray.emptyWithCapacity]
      rfl
    exact Reach.of_value (by simp only[execOp,t]; exact Z3k i) (k.put (Jf m) (Zaz _ _ (strOfNums_data xs)))
   ·cases h
  ·cases h
 ·cases h
theorem Y3x (d:Zk Γ σ a w G β) {o:Oper} {told:X8} {σ':S} {q:Prop} (h:W7 P σ o told=some (σ',q)) (hq:q):Reach P Γ o a w σ':=by
 have B:=h
 unfold W7 at h
 split at h
 ·rename_i e b
  split at h
  ·rename_i cs u
   obtain⟨i,v,D,F,H,I,J⟩:=Zjg u
   have g:(execOp a.eval o).run P w=.ok (.value (.pointer (some ⟨w.heap.size,0,none⟩))) (w.alloc (.cells v.cells e)):=by
    simp[execOp,b,Instr.alloc,zeroValue,typeInfo,D,F,newVar,newRow]
   obtain⟨-,-,-,-,-,E⟩:=Z1x h
   exact Reach.box d (q:=q) (by rw[h]) g (λt m=>by unfold tyR at m; split at m <;> cases m; rfl) H I (J w G β)
  ·cases h
 ·rename_i e x b
  split at h
  ·rename_i cs r
   obtain⟨c1,y,A⟩:=Zk0 (W8 d x) r
   have g:(execOp a.eval o).run P w=.ok (.value (.pointer (some ⟨w.heap.size,0,none⟩))) (w.alloc (.cells (a.eval x).cells e)):=by
    simp[execOp,b,Instr.box,newVar,newRow]
   split at h
   ·split at h
    ·rename_i k j
     cases h
     exact Reach.boxRo d (Jf j) k g c1 y A
    ·cases h
   ·exact Reach.box d (q:=q) (by rw[h]) g (λt m=>by cases m) c1 y A
  ·cases h
 ·rename_i t parts b
  split at h
  ·rename_i z pl u hp
   split at h
   ·rename_i cs n
    split at h
    ·rename_i j
     cases h
     obtain⟨vs,C,p⟩:=Y34 (P:=P) d u hp n
     exact Reach.of_value (v:= .agg vs) (by simp only[execOp,b]; exact Z3k C) (d.put (Jf j) (.agg vs cs p.1 p.2.1 p.2.2))
    ·cases h
   ·cases h
  ·cases h
 ·rename_i t len parts b; exact Y33 d b B hq
 ·rename_i t l c b; exact Y5a d b B hq
 ·rename_i src dst x b; exact Y35 d b h hq
 ·rename_i t x v b; exact Y6u d b h hq
 ·rename_i f args ts b
  split at h
  ·rename_i K n
   split at h
   ·exact Y38 d b n h hq
   ·exact Y39 d b (es:=[]) (by rw[n]; rfl) (by simpa using h) hq
  ·cases h
 ·rename_i args ts b
  split at h
  ·rename_i s x t L
   exact Y2x d b rfl rfl h hq
  ·cases h
 ·rename_i args ts b
  split at h
  ·exact Y78 d b h hq
  ·cases h
 ·cases h
theorem Y6t (c:Zk Γ σ a w G β) {o:Oper} {told:X8} {σ':S} {q:Prop} (h:V1 P σ o told=some (σ',q)) (hq:q):Reach P Γ o a w σ':=by
 unfold V1 at h
 split at h
 ·rename_i d p hp
  split at h
  ·rename_i b
   cases h
   obtain⟨v,e,f⟩:=Y5v c hp hq
   exact Reach.of_value e (c.put (Jf b) f)
  ·cases h
 ·exact Y3x c h hq
end Go.Den
namespace Go.Den
open Go.RowKit
def W5:List (Nat×X8)→Nat→X8
 | [],_=>{}
 | (k,t)::r,i=>if i=k then t else W5 r i
def Uv (ops:Array Oper) (σ:S) (o:Oper) (g:Option Bool):Option (Bool×Prop):=
 match o.guard with
 | none=>some (true,True)
 | some (j,want)=>
  match ((ops[j]?).bind (·.dst)).map σ.tmps with
  | some (.bool b)=>
   match g with
   | some x=>some (x,(b==want)=x)
   | none=>match b==want with
    | true=>some (true,True)
    | false=>some (false,True)
  | some (.tup [])=>some (false,True)
  | _=>none
def gAt:List (Nat×Bool)→Nat→Option Bool
 | [],_=>none
 | (k,b)::r,i=>if i=k then some b else gAt r i
def W3 (P:Program) (ops:Array Oper) (told:List (Nat×X8)) (gs:List (Nat×Bool)) (i:Nat) (σ:S):Option (S×Prop):=
 match ops[i]? with
 | none=>some (σ,True)
 | some o=>
  match Uv ops σ o (gAt gs i) with
  | none=>none
  | some (true,g)=>
   match V1 P σ o (W5 told i) with
   | some (σ',p)=>some (σ',g∧p)
   | none=>none
  | some (false,g)=>match Xx σ o with
   | true=>some (σ.put o.dst (.tup []),g)
   | false=>none
def Z0z (P:Program) (ops:Array Oper) (told:List (Nat×X8)) (gs:List (Nat×Bool)):List Nat→S→Option (S×Prop)
 | [],σ=>some (σ,True)
 | i :: r,σ=>
  match W3 P ops told gs i σ with
  | some (σ',p)=>
   match Z0z P ops told gs r σ' with
   | some (σ'',q)=>some (σ'',p∧q)
   | none=>none
  | none=>none
variable {P:Program} {Γ:Ctx} {σ σ':S} {a:Act} {w w':World} {G G':Nat→Nat} {β β':Nat→Option (Nat×Nat)}
theorem Zky (v:Zk Γ σ a w G β) {ops:Array Oper} {o:Oper} {g:Option Bool} {b:Bool} {p:Prop} (h:Uv ops σ o g=some (b,p)) (hp:p):Region.wanted o (yielded ops a.tmps)=b:=by
 unfold Uv at h
 unfold Region.wanted
 split at h
 ·rename_i q; cases h; rw[q]
 ·rename_i j want q
  rw[q]
  dsimp only
  have key:∀ d,((ops[j]?).bind (·.dst)).map σ.tmps=some d→∃ t,(ops[j]?).bind (·.dst)=some t∧σ.tmps t=d:=λd l=>Qg l
  split at h
  ·rename_i c n
   obtain⟨t,r,l⟩:=key _ n
   have i:=v.tmps t
   rw[l] at i
   have k:=Z0e i
   have s:yielded ops a.tmps j=some c:=by
    unfold yielded
    rw[r]
    simp only[Option.bind_some]
    have m:t<a.tmps.size:=by
     rcases Nat.lt_or_ge t a.tmps.size with f|f
     ·exact f
     ·simp[Array.getD_eq_getD_getElem?,Array.getElem?_eq_none f,Go.undef] at k
    simp only[Array.getD_eq_getD_getElem?,Array.getElem?_eq_getElem m,Option.getD_some] at k
    rw[Array.getElem?_eq_getElem m,k]
   rw[s]
   have e:(some c==some want)=(c==want):=rfl
   rw[e]
   split at h
   ·cases h; exact hp
   ·split at h
    ·cases h; assumption
    ·cases h; assumption
  ·rename_i n
   obtain⟨t,r,l⟩:=key _ n
   have i:=v.tmps t
   rw[l] at i
   cases h
   have s:yielded ops a.tmps j=none:=by
    unfold yielded
    rw[r]
    simp only[Option.bind_some]
    rcases Nat.lt_or_ge t a.tmps.size with f|f
    ·rw[Array.getElem?_eq_getElem f]
     simp only[Array.getD_eq_getD_getElem?,Array.getElem?_eq_getElem f,Option.getD_some] at i
     generalize a.tmps[t]=u at i
     cases i; rfl
    ·rw[Array.getElem?_eq_none f]
   rw[s]; rfl
  ·cases h
theorem Zo2 (b:Zk Γ σ a w G β) {ops:Array Oper} {told:List (Nat×X8)} {gs:List (Nat×Bool)} {i:Nat} {p:Prop} (h:W3 P ops told gs i σ=some (σ',p)) (hp:p)
  {K:Act→World→Prop} {Q:Exit→Act→World→Prop} (c:∀ k w' G' β',Zk Γ σ' k w' G' β'→K k w'):wpOp P ops Q i K a w:=by
 unfold W3 at h
 unfold wpOp
 split at h
 ·rename_i f; cases h; rw[f]; exact c _ _ _ _ b
 ·rename_i o f
  rw[f]
  dsimp only
  split at h
  ·cases h
  ·rename_i g e
   split at h
   ·rename_i σ1 q hs
    cases h
    rw[Zky b e hp.1]
    exact .inl (Y6t b hs hp.2 K Q c)
   ·cases h
  ·rename_i g e
   split at h
   ·rename_i l
    cases h
    rw[Zky b e hp]
    refine c _ _ G β (b.put (Jf l) ?_)
    exact .tup #[] [] rfl (λj v d h=>by simp at h)
   ·cases h
theorem Zv2 {ops:Array Oper} {told:List (Nat×X8)} {gs:List (Nat×Bool)} {Q:Exit→Act→World→Prop}:∀ (l:List Nat) {σ:S} {a:Act} {w:World} {G β} {p:Prop},Zk Γ σ a w G β→
  Z0z P ops told gs l σ=some (σ',p)→p→(∀ b w' G' β',Zk Γ σ' b w' G' β'→Q .normal b w')→wpOps P ops Q l a w
 | [],σ,a,w,G,β,p,c,h,hp,e=>by cases h; exact e _ _ _ _ c
 | i :: r,σ,a,w,G,β,p,c,h,hp,e=>by
  unfold Z0z at h
  split at h
  ·rename_i σ1 j f
   split at h
   ·rename_i σ2 k g
    cases h
    rw[wpOps_cons]
    exact Zo2 c f hp.1 (λb w' G' β' d=>Zv2 r d g hp.2 e)
   ·cases h
  ·cases h
def DWP (P:Program) (Γ:Ctx) (c:Code) (Q:Exit→S→Prop) (σ:S):Prop:=
 ∀ a w G β,Zk Γ σ a w G β→c.wp P (λe b w'=>∃ σ' G' β',Zk Γ σ' b w' G' β'∧Q e σ') a w
theorem DWP.mono {c:Code} {Q Q':Exit→S→Prop} (h:DWP P Γ c Q σ) (hq:∀ e σ',Q e σ'→Q' e σ'):DWP P Γ c Q' σ:=
 λa w G β f=>wp_mono (h a w G β f) λ_ _ _ ⟨σ',G',β',b,d⟩=>⟨σ',G',β',b,hq _ _ d⟩
theorem DWP.skip {Q:Exit→S→Prop} (h:Q .normal σ):DWP P Γ .skip Q σ:=λ_ _ G β b=>wp_skip ⟨σ,G,β,b,h⟩
theorem DWP.ret {Q:Exit→S→Prop} (h:Q .ret σ):DWP P Γ .ret Q σ:=λ_ _ G β b=>wp_ret ⟨σ,G,β,b,h⟩
theorem DWP.exit {id:Nat} {Q:Exit→S→Prop} (h:Q (.exit id) σ):DWP P Γ (.exit id) Q σ:=λ_ _ G β b=>wp_exit ⟨σ,G,β,b,h⟩
def thenD (P:Program) (Γ:Ctx) (y:Code) (Q:Exit→S→Prop):Exit→S→Prop
 | .normal,σ=>DWP P Γ y Q σ
 | e,σ=>Q e σ
theorem DWP.seq {x y:Code} {Q:Exit→S→Prop} (h:DWP P Γ x (thenD P Γ y Q) σ):DWP P Γ (.seq x y) Q σ:=λa w G β f=>by
 refine wp_seq (wp_mono (h a w G β f) λe d w' ⟨σ',G',β',b,c⟩=>?_)
 cases e with
 | normal=>exact c d w' G' β' b
 | _=>exact⟨σ',G',β',b,c⟩
theorem DWP.cond {c:Operand} {x y:Code} {b:Bool} {Q:Exit→S→Prop} (f:σ.ev c=.bool b) (h:b=true→DWP P Γ x Q σ) (g:b=false→DWP P Γ y Q σ):DWP P Γ (.cond c x y) Q σ:=λa w G β d=>by
 have:=W8 d c
 rw[f] at this
 exact wp_cond_split (Z0e this) (λe=>h e a w G β d) (λe=>g e a w G β d)
def Zro (id:Nat) (Q:Exit→S→Prop):Exit→S→Prop
 | .exit id',σ=>if id'=id then Q .normal σ else Q (.exit id') σ
 | e,σ=>Q e σ
theorem DWP.block {id:Nat} {c:Code} {Q:Exit→S→Prop} (h:DWP P Γ c (Zro id Q) σ):DWP P Γ (.block id c) Q σ:=λa w G β f=>by
 refine wp_block (wp_mono (h a w G β f) λe g w' ⟨σ',G',β',d,b⟩=>?_)
 cases e with
 | exit id'=>
  simp only[Exit.inBlock,Zro] at b ⊢
  split
  ·rename_i he; rw[if_pos he] at b; exact⟨σ',G',β',d,b⟩
  ·rename_i he; rw[if_neg he] at b; exact⟨σ',G',β',d,b⟩
 | _=>exact⟨σ',G',β',d,b⟩
theorem DWP.region {id:Nat} {ops:Array Oper} {told:List (Nat×X8)} {gs:List (Nat×Bool)} {p:Prop} {Q:Exit→S→Prop} (h:Z0z P ops told gs (List.range ops.size) σ=some (σ',p)) (hp:p) (d:Q .normal σ'):
  DWP P Γ (.region id ops false) Q σ:=λ_ _ _ _ c=>
 wp_region (Zv2 _ c h hp λ_ _ G' β' b=>⟨σ',G',β',b,d⟩)
theorem Zq5 {c:Code} {Q:Exit→Act→World→Prop} (I:Nat→Act→World→Prop)
  (round:∀ n a w,I n a w→∃ m,n=m+1∧c.wp P (Exit.then (λg w'=>I m g w') Q) a w) (n:Nat) (a:Act) (w:World) (h:I n a w):(Code.loop c).wp P Q a w:=by
 intro b k cs
 have key:∀ n a w,I n a w→∃ e g w',Q e g w'∧Arrives P (lone (b.at a (.code c:: .inLoop c::k)) cs w) b k cs e g w':=by
  intro n
  induction n with
  | zero=>
   intro a w i
   obtain⟨m,o,-⟩:=round 0 a w i
   omega
  | succ n ih=>
   intro a w i
   obtain⟨m,o,p⟩:=round _ a w i
   obtain rfl:n=m:=by omega
   obtain⟨e,a₁,w₁,hq,d⟩:=p b (.inLoop c::k) cs
   cases e with
   | normal=>
    obtain⟨e₂,a₂,w₂,j,f⟩:=ih a₁ w₁ hq
    exact⟨e₂,a₂,w₂,j,.of_steps (Steps.trans d (.one step_inLoop)) f⟩
   | exit id=>exact⟨_,a₁,w₁,hq,.pass (x:= .inLoop c) rfl (λ_ _=> .inl (by simp)) d⟩
   | goto l=>exact⟨_,a₁,w₁,hq,.pass (x:= .inLoop c) rfl (λ_ _=> .inl (by simp)) d⟩
   | ret=>exact⟨_,a₁,w₁,hq,.pass (x:= .inLoop c) rfl (λ_ _=> .inl (by simp)) d⟩
   | panic ch=>exact⟨_,a₁,w₁,hq,.pass (x:= .inLoop c) rfl (λ_ _=> .inl (by simp)) d⟩
   | outgrown=>exact⟨_,a₁,w₁,hq,.pass (x:= .inLoop c) rfl (λ_ _=> .inl (by simp)) d⟩
 obtain⟨e,g,w',hq,d⟩:=key n a w h
 exact⟨e,g,w',hq,.of_steps (.one step_loop) d⟩
theorem DWP.weaken {c:Code} {Q:Exit→S→Prop} {σ2:S} (h:DWP P Γ c Q σ2) (hw:∀ a w G β,Zk Γ σ a w G β→∃ G' β',Zk Γ σ2 a w G' β'):DWP P Γ c Q σ:=λa w G β d=>by
 obtain⟨G',β',b⟩:=hw a w G β d
 exact h a w G' β' b
inductive Ctl (S R:Type) where
 | next (s:S)
 | done (r:R)
def Z8 {S R:Type} (f:S→Option (Ctl S R)):Nat→S→Option R
 | 0,_=>none
 | n+1,s=>
  match f s with
  | some (.next b)=>Z8 f n b
  | some (.done r)=>some r
  | none=>none
theorem DWP.loop {T R:Type} {c:Code} {f:T→Option (Ctl T R)} {st:T→S} {Q:Exit→S→Prop} {K:R→Exit→S→Prop}
  (round:∀ t x,f t=some x→DWP P Γ c (λe σ'=>match x with
   | .next i=>e=.normal∧σ'=st i
   | .done r=>e≠ .normal∧K r e σ') (st t))
  {n:Nat} {t:T} {r:R} (h:Z8 f n t=some r) (l:∀ e σ',K r e σ'→Q e σ'):DWP P Γ (.loop c) Q (st t):=λa w G β b=>by
 refine Zq5 (λn a w=>∃ t G β,Z8 f n t=some r∧Zk Γ (st t) a w G β) ?_ n a w ⟨t,G,β,h,b⟩
 rintro n a w ⟨t,G,β,h,b⟩
 cases n with
 | zero=>cases h
 | succ m=>
  refine⟨m,rfl,?_⟩
  unfold Z8 at h
  cases d:f t with
  | none=>rw[d] at h; cases h
  | some x=>
   rw[d] at h
   refine wp_mono (round t x d a w G β b) λe p w' ⟨σ',G',β',j,k⟩=>?_
   cases x with
   | next i=>
    obtain⟨rfl,rfl⟩:=k
    exact⟨i,G',β',h,j⟩
   | done q=>
    cases h
    obtain⟨g,o⟩:=k
    cases e with
    | normal=>exact absurd rfl g
    | _=>exact⟨σ',G',β',j,l _ _ o⟩
def resOne (P:Program) (σ:S):ResultVar→Option (D×Prop)
 | .tmp t=>some (σ.tmps t,True)
 | .cell t ty=>Ls P σ ty (σ.tmps t) .go
def Z24 (P:Program) (σ:S):List ResultVar→Option (List D×Prop)
 | [] =>some ([],True)
 | x::r=>
  match resOne P σ x,Z24 P σ r with
  | some (d,p),some (ds,q)=>some (d::ds,p∧q)
  | _,_=>none
def tupD:List D→D
 | [d] =>d
 | ds=> .tup ds
def Mo (P:Program) (fn:Func) (σ:S):Option (D×Prop):=
 match Z24 P σ fn.results.toList with
 | some (ds,p)=>
  match Vz σ ds with
  | some (ds',_,q)=>some (tupD ds',p∧q)
  | none=>none
 | none=>none
def Zih (a:Act):ResultVar→Sem Value
 | .tmp t=>pure (a.tmps.getD t Go.undef)
 | .cell b t=>do loadVar t (← asAddr (a.tmps.getD b Go.undef))
theorem Zo9 (fn:Func) (a:Act):results fn a.tmps=(do
   let vs ← fn.results.mapM (Zih a)
   pure (if h:vs.size=1 then vs[0] else .tuple vs):Sem Value):=by
 unfold results
 congr 1
theorem Zig (f:Zk Γ σ a w G β):∀ (l:List ResultVar) {ds:List D} {p:Prop},Z24 P σ l=some (ds,p)→p→
  ∃ vs:List Value,(l.mapM (Zih a)).run P w=.ok vs w∧vs.length=ds.length∧
   ∀ (j:Nat) v d,vs[j]?=some v→ds[j]?=some d→Zh w G β v d
 | [],ds,p,h,hp=>by cases h; exact⟨[],by simp,rfl,λj v d h=>by simp at h⟩
 | x :: r, ds, p,h,hp=>by
  unfold Z24 at h
  split at h
  ·rename_i d B ds2 E m A
   cases h
   obtain⟨vs,s,y,z⟩:=Zig f r A hp.2
   have key:∃ v,(Zih a x).run P w=.ok v w∧Zh w G β v d:=by
    cases x with
    | tmp t=>cases m; exact⟨_,rfl,f.tmps t⟩
    | cell t ty=>
     have c:Ls P σ ty (σ.tmps t) .go=some (d,B):=m
     have n:=f.tmps t
     obtain⟨v,o,C⟩:=Ztl f n c hp.1
     refine⟨v,?_,C⟩
     have i:∃ ad,a.tmps.getD t Go.undef=.pointer (some ad):=by
      unfold Ls at c
      split at c
      ·rename_i cs q hq
       split at c
       ·cases c
        obtain⟨b,off,e,-⟩:=Zsd f n hq hp.1
        exact⟨_,e⟩
       ·cases c
      ·cases c
     obtain⟨ad,g⟩:=i
     rw[g] at o
     simp only[Zih,g]
     simpa [Instr.loadAt,Instr.sureAddr,asAddr] using o
   obtain⟨v,k1,k2⟩:=key
   refine⟨v::vs,by simp only[List.mapM_cons,Sem.run_bind,k1,Result.andThen_ok,s,Sem.run_pure],by simp[y],λj u d' e k=>?_⟩
   cases j with
   | zero=>simp at e k; subst e k; exact k2
   | succ j=>simp at e k; exact z j u d' e k
  ·cases h
theorem Y5z (k:Zk Γ σ a w G β) {fn:Func} {d:D} {p:Prop} (h:Mo P fn σ=some (d,p)) (hp:p):
  ∃ v G' σ',(results fn a.tmps).run P w=.ok v w∧Zk Γ σ' a w G' β∧Zh w G' (λ_=>none) v d:=by
 unfold Mo at h
 split at h
 ·rename_i ds u q
  split at h
  ·rename_i ds' l x r
   cases h
   obtain⟨vs,n,t,o⟩:=Zig (P:=P) k _ q hp.1
   obtain⟨G',k1,k2,k3,k4⟩:=Z6s k r hp.2
   have b:∀ (j:Nat) v d,vs[j]?=some v→ds'[j]?=some d→Zh w G' (λ_=>none) v d:=λj v d g e=>by
    have m:j<ds.length:=by
     rcases Nat.lt_or_ge j ds'.length with i|i
     ·omega
     ·rw[List.getElem?_eq_none i] at e; cases e
    exact k4 j v _ d (o j v _ g (List.getElem?_eq_getElem m)) (List.getElem?_eq_getElem m) e
   have f:(results fn a.tmps).run P w=.ok (if h:vs.toArray.size=1 then vs.toArray[0] else .tuple vs.toArray) w:=by
    rw[Zo9,Array.mapM_eq_mapM_toList]
    simp only[Sem.run_bind,Sem.run_map,n,Result.andThen_ok,Sem.run_pure]
   refine⟨_,G',_,f,k1,?_⟩
   have c:vs.length=ds'.length:=by omega
   match ds',c,b with
   | [d],c,b=>
    match vs,c,b with
    | [v],_,b=>exact b 0 v d rfl rfl
   | [],c,b=>
    match vs,c with
    | [],_=>exact .tup #[] [] rfl (λj v d h=>by simp at h)
   | d1::s::dr,c,b=>
    rw[dif_neg (by simp; simp at c; omega)]
    exact .tup vs.toArray _ (by simpa using c.symm) (λj v d g e=>b j v d (by simpa using g) e)
  ·cases h
 ·cases h
def Ends (P:Program) (fn:Func) (r:D):Exit→S→Prop:=λe σ=>(e=.ret∨e=.normal)∧∃ p,Mo P fn σ=some (r,p)∧p
theorem Zi.mk {f:FuncId} {fn:Func} {c:Code} {ds:List D} {r:D} (F:P.funcs[f]?=some fn) (m:fn.body=some c) (n:L5 P f=true) (M:ds.length≤fn.ntmps)
  (h:∀ Γ:Ctx,DWP P Γ c (Ends P fn r) (mkS fn.ntmps (Vv 0 ds) [])):Zi P f ds r:=by
 refine⟨n,λw G vs C q d=>?_⟩
 let Γ:Ctx:={ B:=w.heap.size,X:=λ_=>False,w0:=w,G0:=G,hB:=Nat.le_refl _,pin:=λ_=>0 }
 have A:Zk Γ (mkS fn.ntmps (Vv 0 ds) []) { tmps:=vs++Array.replicate (fn.ntmps - vs.size) Go.undef,defers:=[] } w G (λ_=>none):=by
  refine⟨rfl,?_,λt=>?_,λb blk m=>?_,λb x J=>?_,λb L c s N m=>?_,.refl _ _ _,λ_ _ _=>rfl,C,Nat.le_refl _,q⟩
  ·simp only[Array.size_append,Array.size_replicate,mkS]; have:=d.size; omega
  ·show Zh w G _ _ (ofL (Vv 0 ds) t)
   rw[Z5l,if_pos (Nat.zero_le _),Nat.sub_zero]
   rcases Nat.lt_or_ge t ds.length with o|o
   ·have j:t<vs.size:=by rw[← d.size]; exact o
    have l:ds.getD t .undef=ds[t] :=by simp[List.getD,List.getElem?_eq_getElem o]
    have g:(vs++Array.replicate (fn.ntmps - vs.size) Go.undef).getD t Go.undef=vs[t] :=by
     rw[Array.getD_eq_getD_getElem?,Array.getElem?_append_left j,Array.getElem?_eq_getElem j]; rfl
    rw[l,g]
    exact d.rep t _ _ (Array.getElem?_eq_getElem j) (List.getElem?_eq_getElem o)
   ·have l:ds.getD t .undef=.undef:=by simp[List.getD,List.getElem?_eq_none o]
    rw[l]; exact .undef _
  ·cases m
  ·cases J
  ·cases m
 refine calls_of_wp F m (wp_mono (h Γ _ w G _ A) λe K w' ⟨σ',G',β',i,he,p,I,hp⟩=>?_)
 obtain⟨v,G2,σ2,l,g,z⟩:=Y5z i I hp
 have u:∃ y G',Ending.returned v=.returned y∧Below w.heap.size w w'∧(∀ c,c<w.heap.size→G' c=G c)∧(∀ c,w'.heap.size≤c→G' c=0)∧Zh w' G' (λ_=>none) y r:=
  ⟨v,G2,rfl,⟨g.kept.os,g.kept.tape,g.kept.output,g.kept.size,λk H=>g.kept.block k H (λh=>h)⟩,λc E=>g.marks c E (λh=>h),g.fresh,z⟩
 rcases he with rfl|rfl
 ·exact⟨i.defers,v,l,u⟩
 ·exact⟨i.defers,v,l,u⟩
def Z5r (P:Program) (fn:Func) (m:Nat) (keep:List Bool) (σ:S):Option (D×List Blk×Prop):=
 match Z24 P σ fn.results.toList with
 | some (ds,p)=>
  match Uj false σ (List.range m) ds with
  | some (ds',l,q)=>
   match L8 (σ.freezeL l) (List.range m) (λpin j=>match keep[j]? with
    | some true=>pin
    | _=>none) 0 (List.range m) with
   | some bs=>some (tupD ds',bs,p∧q)
   | none=>none
  | none=>none
 | none=>none
def Z12 (P:Program) (fn:Func) (m:Nat) (keep:List Bool) (r:D) (bs:List Blk):Exit→S→Prop:=λe σ=>(e=.ret∨e=.normal)∧Je (List.range m)=true∧∃ bs1 p,Z5r P fn m keep σ=some (r,bs1,p)∧p∧bs1=bs
theorem Zus (A:Zk Γ σ a w G β) {fn:Func} {m:Nat} {keep:List Bool} {d:D} {bs:List Blk} {p:Prop} (K:Je (List.range m)=true) (h:Z5r P fn m keep σ=some (d,bs,p)) (hp:p):
  ∃ v G' β',(results fn a.tmps).run P w=.ok v w∧Zk Γ (mkS 1 [(0,d)] (We 0 bs)) { tmps:=#[v],defers:=[] } w G' β':=by
 unfold Z5r at h
 split at h
 ·rename_i ds O H
  split at h
  ·rename_i ds' l Q I
   split at h
   ·rename_i bs1 r
    cases h
    obtain⟨vs,C,M,E⟩:=Zig (P:=P) A _ H hp.1
    obtain⟨G',k1,k2,k3,k4⟩:=Ztc A I hp.2
    have e:∀ (j:Nat) v d,vs[j]?=some v→ds'[j]?=some d→Zh w G' (Um (List.range m) β) v d:=λj v d n f=>by
     have B:j<ds.length:=by
      rcases Nat.lt_or_ge j ds'.length with z|z
      ·omega
      ·rw[List.getElem?_eq_none z] at f; cases f
     exact k4 j v _ d (E j v _ n (List.getElem?_eq_getElem B)) (List.getElem?_eq_getElem B) f
    have o:(results fn a.tmps).run P w=.ok (if h:vs.toArray.size=1 then vs.toArray[0] else .tuple vs.toArray) w:=by
     rw[Zo9,Array.mapM_eq_mapM_toList]
     simp only[Sem.run_bind,Sem.run_map,C,Result.andThen_ok,Sem.run_pure]
    refine⟨_,G',Um (List.range m) β,o,?_⟩
    have g:vs.length=ds'.length:=by omega
    have main:Zh w G' (Um (List.range m) β) (if h:vs.toArray.size=1 then vs.toArray[0] else .tuple vs.toArray) (tupD ds'):=by
     match ds',g,e with
     | [d],g,e=>
      match vs,g,e with
      | [v],_,e=>exact e 0 v d rfl rfl
     | [],g,e=>
      match vs,g with
      | [],_=>exact .tup #[] [] rfl (λj v d h=>by simp at h)
     | d1::L::dr,g,e=>
      rw[dif_neg (by simp; simp at g; omega)]
      exact .tup vs.toArray _ (by simpa using g.symm) (λj v d n f=>e j v d (by simpa using n) f)
    refine k1.enter (Γ':=Γ) (ds:=[tupD ds']) (vs:=#[if h:vs.toArray.size=1 then vs.toArray[0] else .tuple vs.toArray]) K r k1.big (λk c s u=>?_) (λk b blk c s i J q u t=>?_) k1.kept k1.marks rfl (λj v d n f=>?_)
    ·obtain⟨b,N,y⟩:=Zaq u
     obtain⟨blk,F⟩:=k1.dom b _ y
     obtain⟨-,hB⟩:=k1.blk F y
     exact hB.own
    ·have x:=(Zap J).symm.trans u
     obtain⟨-,hB⟩:=k1.blk q x
     have:blk.pin=some i:=by
      split at t
      ·exact t
      ·cases t
     exact hB.pin i this
    ·cases j with
     | zero=>simp at n f; subst n f; exact main
     | succ j=>simp at n
   ·cases h
  ·cases h
 ·cases h
theorem Vs.mk {f:FuncId} {fn:Func} {c:Code} {ds:List D} {bs:List Blk} {r:D} {bs':List Blk} (m:Nat) (keep:List Bool) (u:P.funcs[f]?=some fn) (s:fn.body=some c) (g:L5 P f=true) (A:ds.length≤fn.ntmps)
  (h:∀ Γ:Ctx,DWP P Γ c (Z12 P fn m keep r bs') (mkS fn.ntmps (Vv 0 ds) (We 0 bs))):Vs P f ds bs r bs':=by
 refine⟨g,λΓ vs w G β d=>?_⟩
 have hsz:vs.size=ds.length:=d.size
 have q:Zk Γ (mkS fn.ntmps (Vv 0 ds) (We 0 bs)) { tmps:=vs++Array.replicate (fn.ntmps - vs.size) Go.undef,defers:=[] } w G β:=by
  refine { d with size:=?_,tmps:=λt=>?_,defers:=rfl }
  ·simp only[Array.size_append,Array.size_replicate,mkS]; omega
  ·show Zh w G _ _ (ofL (Vv 0 ds) t)
   rcases Nat.lt_or_ge t vs.size with l|B
   ·have:=d.tmps t
    have j:(vs++Array.replicate (fn.ntmps - vs.size) Go.undef).getD t Go.undef=vs.getD t Go.undef:=by
     rw[Array.getD_eq_getD_getElem?,Array.getElem?_append_left l,Array.getD_eq_getD_getElem?]
    rw[j]; exact this
   ·rw[Z5l,if_pos (Nat.zero_le _),Nat.sub_zero]
    have i:ds.getD t .undef=.undef:=by simp[List.getD,List.getElem?_eq_none (show ds.length≤t by omega)]
    rw[i]; exact .undef _
 refine calls_of_wp u s (wp_mono (h Γ _ w G _ q) λe z w' ⟨σ',G',β',b,he,x,bs1,p,y,hp,k⟩=>?_)
 subst k
 obtain⟨v,G2,β2,i,j⟩:=Zus b x y hp
 have n:∃ o G' β',Ending.returned v=.returned o∧Zk Γ (mkS 1 [(0,r)] (We 0 bs1)) { tmps:=#[o],defers:=[] } w' G' β':=⟨v,G2,β2,rfl,j⟩
 rcases he with rfl|rfl
 ·exact⟨b.defers,v,i,n⟩
 ·exact⟨b.defers,v,i,n⟩
end Go.Den
namespace Go.Den
open Go.RowKit
def M3:List (Nat×Nat)→Nat→Option Nat
 | [],_=>none
 | (o,n)::r,b=>if b=o then some n else M3 r b
def M4:List (Nat×Nat)→Nat→Option Nat
 | [],_=>none
 | (o,n)::r,b=>if b=n then some o else M4 r b
def renL (ps:List (Nat×Nat)):List Nat→Option (List Nat)
 | [] =>some []
 | b::r=>match M3 ps b,renL ps r with
  | some c,some d=>some (c::d)
  | _,_=>none
def D.renA (ps:List (Nat×Nat)):D→D
 | .lptr b i o=>match M3 ps b with|some c=> .lptr c i o|none=> .undef
 | .lsl b lo n=>match M3 ps b with|some c=> .lsl c lo n|none=> .undef
 | .clo f bs=>match renL ps bs with|some bs'=> .clo f bs'|none=> .undef
 | .lsk f b lo n=>match M3 ps b with|some c=> .lsk f c lo n|none=> .undef
 | d=>d
def D.renB (ps:List (Nat×Nat)):D→D
 | .agg cs=> .agg (cs.map (D.renA ps))
 | .tup _=> .undef
 | d=>d.renA ps
def D.ren (ps:List (Nat×Nat)):D→D
 | .tup vs=> .tup (vs.map (D.renB ps))
 | d=>d.renB ps
def Blk.ren (ps:List (Nat×Nat)) (k:Blk):Blk:=match k.pure with|true=>k|false=>{ k with rows:=k.rows.map (·.map (D.renA ps)) }
def gcT (ps:List (Nat×Nat)) (σ:S):List Nat→List (Nat×D)
 | [] =>[]
 | t::r=>(t,(σ.tmps t).ren ps)::gcT ps σ r
def gcB (ps:List (Nat×Nat)) (σ:S):List (Nat×Nat)→Option (List (Nat×Blk))
 | [] =>some []
 | (o,n)::r=>
  match σ.heap o,gcB ps σ r with
  | some k,some l=>some ((n,k.ren ps)::l)
  | _,_=>none
def Z1w:List (Nat×Nat)→Bool
 | [] =>true
 | (o,n)::r=>(M3 r o).isNone&&(M4 r n).isNone&&Z1w r
def gcL (keep:List Nat) (ps:List (Nat×Nat)) (σ:S):Option (List (Nat×D)×List (Nat×Blk)):=
 match Z1w ps with
 | true=>
  match gcB ps σ ps with
  | some bl=>some (gcT ps σ keep,bl)
  | none=>none
 | false=>none
variable {P:Program} {Γ:Ctx} {σ σ':S} {a:Act} {w w':World} {G G':Nat→Nat} {β β':Nat→Option (Nat×Nat)}
theorem Zi8:∀ {ps:List (Nat×Nat)},Z1w ps=true→∀ o n,M3 ps o=some n↔M4 ps n=some o
 | [],_,o,n=>by simp[M3,M4]
 | (i,g)::r,h,o,n=>by
  simp only[Z1w,Bool.and_eq_true,Option.isNone_iff_eq_none] at h
  obtain⟨⟨d,e⟩,f⟩:=h
  have ih:=Zi8 f
  unfold M3 M4
  by_cases b:o=i <;> by_cases c:n=g
  ·subst b c; simp
  ·subst b
   rw[if_pos rfl,if_neg c]
   constructor
   ·intro h; cases h; exact absurd rfl c
   ·intro h; rw[← ih] at h; rw[d] at h; cases h
  ·subst c
   rw[if_neg b,if_pos rfl]
   constructor
   ·intro h; rw[ih] at h; rw[e] at h; cases h
   ·intro h; cases h; exact absurd rfl b
  ·rw[if_neg b,if_neg c]; exact ih o n
def Mn (ps:List (Nat×Nat)) (β:Nat→Option (Nat×Nat)):Nat→Option (Nat×Nat):=λu=>(M4 ps u).bind β
theorem Zif {ps:List (Nat×Nat)} (h:Z1w ps=true) {o n:Nat} (b:M3 ps o=some n):Mn ps β n=β o:=by
 unfold Mn; rw[(Zi8 h o n).1 b]; rfl
theorem Zup {ps:List (Nat×Nat)}:∀ {bs bs':List Nat},renL ps bs=some bs'→bs'.length=bs.length∧∀ (j:Nat) e,bs'[j]?=some e→∃ b,bs[j]?=some b∧M3 ps b=some e
 | [],_,h=>by cases h; exact⟨rfl,λj e d=>by simp at d⟩
 | b :: r,_,h=>by
  unfold renL at h
  split at h
  ·rename_i x y l m
   cases h
   obtain⟨f,g⟩:=Zup m
   refine⟨by simp[f],λj e d=>?_⟩
   cases j with
   | zero=>simp at d; subst d; exact⟨b,rfl,l⟩
   | succ j=>simp at d; obtain⟨c,i,k⟩:=g j e d; exact⟨c,by simpa using i,k⟩
  ·cases h
theorem Zh.renE {ps:List (Nat×Nat)} (hp:Z1w ps=true) {v:Value} {d:D} (h:Zh w G β v d) (C:one v=true):Zh w G (Mn ps β) v (d.renA ps):=by
 cases h with
 | undef v=>exact .undef v
 | lptr b i o c sz B=>
  simp only[D.renA]
  split
  ·rename_i p y; exact .lptr p i o c sz (by rw[Zif hp y]; exact B)
  ·exact .undef _
 | lslnil b x=>
  simp only[D.renA]
  split
  ·exact .lslnil _ x
  ·exact .undef _
 | lsl b lo n cap c sz off B e t m=>
  simp only[D.renA]
  split
  ·rename_i p y; exact .lsl p lo n cap c sz off (by rw[Zif hp y]; exact B) e t m
  ·exact .undef _
 | clo f vs bs H g=>
  simp only[D.renA]
  split
  ·rename_i bs' y
   obtain⟨I,J⟩:=Zup y
   refine .clo f vs bs' (I.trans H) λj v p N E=>?_
   obtain⟨b,K,L⟩:=J j p E
   obtain⟨c,sz,C,M⟩:=g j v b N K
   exact⟨c,sz,by rw[Zif hp L]; exact C,M⟩
  ·exact .undef _
 | lskn b x=>
  simp only[D.renA]
  split
  ·exact .lskn _ x
  ·exact .undef _
 | lsk full b lo n cap c sz off B e A z t m=>
  simp only[D.renA]
  split
  ·rename_i p y; exact .lsk full p lo n cap c sz off (by rw[Zif hp y]; exact B) e A z t m
  ·exact .undef _
 | agg vs cs=>simp[one] at C
 | tup vs ds=>simp[one] at C
 | bool x=>exact .bool x
 | int k n=>exact .int k n
 | str s=>exact .str s
 | slnil c x=>exact .slnil c x
 | sl c p off n cap sz rows val H F e hsz r l u q g=>exact(Zh.sl c p off n cap sz rows val H F e hsz r l u q g).of_dat (λ_ _ _=>rfl) (λ_=>Nat.le_refl _) rfl
 | ptr p off cs val r l u q g=>exact(Zh.ptr p off cs val r l u q g).of_dat (λ_ _ _=>rfl) (λ_=>Nat.le_refl _) rfl
 | nilptr=>exact .nilptr
 | fn f=>exact .fn f
 | raw v h=>exact .raw v h
theorem Zh.renB {ps:List (Nat×Nat)} (hp:Z1w ps=true) {v:Value} {d:D} (h:Zh w G β v d):Zh w G (Mn ps β) v (d.renB ps):=by
 by_cases f:∃ cs,d=.agg cs
 ·obtain⟨cs,rfl⟩:=f
  obtain⟨vs,rfl,n,b,c⟩:=L9 h
  refine .agg vs _ (by simpa using n) b (λj v d m k=>?_)
  rw[List.getElem?_map] at k
  obtain⟨d',g,rfl⟩:=Qg k
  exact(c j v d' m g).renE hp (b j v m)
 ·by_cases i:∃ cs,d=.tup cs
  ·obtain⟨cs,rfl⟩:=i
   exact .undef v
  ·by_cases l:d=.undef
   ·subst l; exact .undef v
   ·have:=h.renE hp (Zub h l (λcs e=>f ⟨cs,e⟩) (λcs e=>i ⟨cs,e⟩))
    cases d <;> first|exact this|exact absurd ⟨_,rfl⟩ f|exact absurd ⟨_,rfl⟩ i
theorem Zh.ren {ps:List (Nat×Nat)} (hp:Z1w ps=true) {v:Value} {d:D} (h:Zh w G β v d):Zh w G (Mn ps β) v (d.ren ps):=by
 cases d with
 | tup ds=>
  cases h with
  | tup vs _ f b=>
   refine .tup vs _ (by simpa using f) (λj v d g e=>?_)
   rw[List.getElem?_map] at e
   obtain⟨d',c,rfl⟩:=Qg e
   exact(b j v d' g c).renB hp
 | _=>exact h.renB hp
theorem Zua (ps:List (Nat×Nat)) (σ:S):∀ (l:List Nat) (t:Nat),ofL (gcT ps σ l) t=(σ.tmps t).ren ps∨ofL (gcT ps σ l) t=.undef
 | [],t=> .inr rfl
 | u::r,t=>by
  unfold gcT ofL
  by_cases h:t=u
  ·subst h; simp
  ·rw[if_neg h]; exact Zua ps σ r t
theorem Znz (qs:List (Nat×Nat)) (σ:S):∀ (ps:List (Nat×Nat)) {bl:List (Nat×Blk)},gcB qs σ ps=some bl→∀ u k,ofB bl u=some k↔∃ o b,M4 ps u=some o∧σ.heap o=some b∧k=b.ren qs
 | [],bl,h,u,k=>by cases h; simp[ofB,M4]
 | (o, n)::r,bl,h,u,k=>by
  unfold gcB at h
  split at h
  ·rename_i k0 l c f
   cases h
   unfold ofB M4
   by_cases e:u=n
   ·rw[if_pos e,if_pos e]
    constructor
    ·intro h; cases h; exact⟨o,k0,rfl,c,rfl⟩
    ·rintro⟨i,b,g,d,rfl⟩; cases g; rw[c] at d; cases d; rfl
   ·rw[if_neg e,if_neg e]; exact Znz qs σ r f u k
  ·cases h
theorem Zk.gc (h:Zk Γ σ a w G β) {keep:List Nat} {ps:List (Nat×Nat)} {l:List (Nat×D)} {bl:List (Nat×Blk)} (y:gcL keep ps σ=some (l,bl)):Zk Γ (mkS σ.n l bl) a w G (Mn ps β):=by
 unfold gcL at y
 split at y
 ·rename_i hp
  split at y
  ·rename_i bl' U
   cases y
   have M:∀ u x,Mn ps β u=some x→∃ o,M4 ps u=some o∧β o=some x:=λu x b=>by
    unfold Mn at b
    cases V:M4 ps u with
    | none=>rw[V] at b; cases b
    | some o=>rw[V] at b; exact⟨o,rfl,b⟩
   refine⟨h.defers,h.size,λt=>?_,λu k b=>?_,λu x b=>?_,λu W c s s' b L=>?_,h.kept,h.marks,h.fresh,h.big,h.glob⟩
   ·show Zh w G _ _ (ofL (gcT ps σ keep) t)
    rcases Zua ps σ keep t with e|e
    ·rw[e]; exact(h.tmps t).ren hp
    ·rw[e]; exact .undef _
   ·obtain⟨o,N,q,A,rfl⟩:=(Znz ps σ ps U u k).1 b
    have hsz:(Blk.ren ps N).sz=N.sz:=by unfold Blk.ren; split <;> rfl
    rcases h.heap o N A with ⟨J,T,X⟩|⟨c,J,hB⟩
    ·refine .inl ⟨by unfold Mn; rw[q]; exact J,?_,?_⟩
     ·unfold Blk.ren; split
      ·exact T
      ·simp[T]
     ·unfold Blk.ren; split <;> exact X
    ·refine .inr ⟨c,by unfold Mn; rw[q,hsz]; exact J,?_⟩
     obtain⟨own,pin,ty,frz,top,dat,g,vs,e,fr,E,z,Q,R⟩:=hB
     unfold Blk.ren
     split
     ·rename_i m
      refine⟨own,pin,ty,frz,top,dat,g,vs,e,fr,E,z,Q,λi j r d f B=>?_⟩
      obtain⟨v,a1,a2,F⟩:=R i j r d f B
      exact⟨v,a1,a2,F.of_dat (λ_ _ _=>rfl) (λ_=>Nat.le_refl _) (dat m i j r d f B)⟩
     ·rename_i m
      refine⟨own,pin,ty,frz,by simpa using top,(λC=>by rw[m] at C; cases C),λi r f=>?_,vs,e,fr,E,z,by simpa using Q,λi j r d f B=>?_⟩
      ·simp only[List.getElem?_map] at f
       obtain⟨O,p,rfl⟩:=Qg f
       simpa using g i O p
      ·simp only[List.getElem?_map] at f
       obtain⟨O,p,rfl⟩:=Qg f
       rw[List.getElem?_map] at B
       obtain⟨d',K,rfl⟩:=Qg B
       obtain⟨v,a1,a2,F⟩:=R i j O d' p K
       exact⟨v,a1,a2,F.renE hp a2⟩
   ·obtain⟨o,q,A⟩:=M u x b
    obtain⟨k,Y⟩:=h.dom o x A
    exact⟨_,(Znz ps σ ps U u _).2 ⟨o,k,q,Y,rfl⟩⟩
   ·obtain⟨o,q,A⟩:=M u _ b
    obtain⟨Z,H,I⟩:=M W _ L
    have:=h.inj o Z c s s' A I
    subst this
    have E:=(Zi8 hp o u).2 q
    have z:=(Zi8 hp o W).2 H
    rw[E] at z; cases z; rfl
  ·cases y
 ·cases y
inductive U6 where
 | tmp (t b sz:Nat)
 | cell (t i b sz:Nat)
 | blk (b0 o b sz:Nat) (ty:Option TypeId:=none)
 /-- of a slice in a cell of a block:that it has no room is forgotten -/
 | loose (b0 o:Nat)
 /-- .. of a slice in a temporary -/
 | tl (t:Nat)
def Z70:D→Bool
 | .sl true [] =>true
 | _=>false
def Z5i (sz:Nat) (ty:Option TypeId:=none):Blk:={ sz,rows:=[],frz:=0,pure:=true,ty }
def S.conv1 (σ:S):U6→Option S
 | .tmp t b sz=>
  match σ.heap b with
  | none=>match Z70 (σ.tmps t) with
   | true=>some { σ with tmps:=λu=>if u=t then .lsl b 0 0 else σ.tmps u,heap:=λu=>if u=b then some (Z5i sz) else σ.heap u }
   | false=>none
  | some _=>none
 | .cell t i b sz=>
  match σ.heap b,σ.tmps t with
  | none,.agg cs=>
   match cs[i]? with
   | some d=>match Z70 d with
    | true=>some { σ with tmps:=λu=>if u=t then .agg (cs.set i (.lsl b 0 0)) else σ.tmps u,heap:=λu=>if u=b then some (Z5i sz) else σ.heap u }
    | false=>none
   | none=>none
  | _,_=>none
 | .blk c o b sz ty=>
  match σ.heap b,σ.heap c with
  | none,some k=>
   match k.pure,k.rows with
   | false,[r] =>
    match r[o]? with
    | some d=>match Z70 d with
     | true=>some { σ with heap:=λu=>if u=b then some (Z5i sz ty) else if u=c then some { k with rows:=[r.set o (.lsl b 0 0)] } else σ.heap u }
     | false=>none
    | none=>none
   | _,_=>none
  | _,_=>none
 | .loose c o=>
  match σ.heap c with
  | some k=>
   match k.rows with
   | [r] =>
    match r[o]? with
    | some (.sl _ rows)=>some { σ with heap:=λu=>if u=c then some { k with rows:=[r.set o (.sl false rows)] } else σ.heap u }
    | _=>none
   | _=>none
  | none=>none
 | .tl t=>
  match σ.tmps t with
  | .sl _ rows=>some { σ with tmps:=λu=>if u=t then .sl false rows else σ.tmps u }
  | _=>none
def S.conv (σ:S):List U6→Option S
 | [] =>some σ
 | x::l=>match σ.conv1 x with
  | some σ'=>σ'.conv l
  | none=>none
theorem Znw {v:Value} {d:D} (h:Zh w G β v d) (e:Z70 d=true) (b:Nat):Zh w G β v (.lsl b 0 0):=by
 unfold Z70 at e
 split at e
 ·cases h with
  | slnil _ y=>exact .lslnil _ y
  | sl c b off n cap sz _ val e f=>simp at e; subst e; rw[f rfl]; exact .lslnil _ _
 ·cases e
theorem Y57 {v:Value} {c:Bool} {rows:List (List D)} (h:Zh w G β v (.sl c rows)):Zh w G β v (.sl false rows):=by
 cases h with
 | slnil _ x=>exact .slnil false x
 | sl c b off n cap sz rows val l k e hsz g d i f j=>exact .sl false b off n cap sz _ val l (λh=>by cases h) e hsz g d i f j
theorem Zk.conv1 (h : Zk Γ σ a w G β) {x:U6} (l:σ.conv1 x=some σ'):Zk Γ σ' a w G β:=by
 have none_of:∀ b,σ.heap b=none→β b=none:=λb A=>by
  cases hβ:β b with
  | none=>rfl
  | some x=>obtain⟨k,C⟩:=h.dom b x hβ; rw[A] at C; cases C
 cases x with
 | tl t=>
  simp only[S.conv1] at l
  split at l
  ·rename_i c0 rows F
   cases l
   refine { h with tmps:=λu=>?_ }
   dsimp only
   split
   ·rename_i m; subst m
    exact Y57 (F ▸ h.tmps u)
   ·exact h.tmps u
  ·cases l
 | tmp t b sz=>
  simp only[S.conv1] at l
  split at l
  ·rename_i A
   split at l
   ·rename_i H
    cases l
    have K:=h.nameNil (blk:=Z5i sz) A ⟨rfl,rfl⟩
    refine { K with tmps:=λu=>?_ }
    dsimp only
    split
    ·rename_i m; subst m; exact Znw (h.tmps u) H b
    ·exact h.tmps u
   ·cases l
  ·cases l
 | cell t i b sz=>
  simp only[S.conv1] at l
  split at l
  ·rename_i cs A ht
   split at l
   ·rename_i d F
    split at l
    ·rename_i H
     cases l
     have K:=h.nameNil (blk:=Z5i sz) A ⟨rfl,rfl⟩
     refine { K with tmps:=λu=>?_ }
     dsimp only
     split
     ·rename_i m; subst m
      have W:=h.tmps u
      rw[ht] at W
      obtain⟨vs,hv,hl,y,q⟩:=L9 W
      rw[hv]
      refine .agg vs _ (by simpa using hl) y (λj v d' X f=>?_)
      rw[List.getElem?_set] at f
      split at f
      ·rename_i s; subst s
       split at f
       ·cases f; exact Znw (q i v d X F) H b
       ·cases f
      ·exact q j v d' X f
     ·exact h.tmps u
    ·cases l
   ·cases l
  ·cases l
 | blk V o b sz ty =>
  simp only[S.conv1] at l
  split at l
  ·rename_i k A C
   split at l
   ·rename_i r hp O
    split at l
    ·rename_i d F
     split at l
     ·rename_i H
      cases l
      have K:=h.nameNil (blk:=Z5i sz ty) A ⟨rfl,rfl⟩
      have Z:V≠b:=by rintro rfl; rw[A] at C; cases C
      refine { K with heap:=λu blk m=>?_,dom:=λu x m=>?_ }
      ·dsimp only at m
       split at m
       ·cases m; rename_i z; subst z; exact .inl ⟨none_of u A,rfl,rfl⟩
       ·split at m
        ·rename_i z; subst z
         cases m
         rcases h.heap u k C with ⟨g0,J,Y⟩|⟨c,g0,hB⟩
         ·rw[O] at J; cases J
         ·refine .inr ⟨c,g0,?_⟩
          obtain⟨own,pin,ty',frz,top,dat,p,vs,e,fr,T,U,I,D⟩:=hB
          rw[O] at I p D top
          refine⟨own,pin,ty',frz,by simpa using top,(λB=>by rw[hp] at B; cases B),(λi Q g=>?_),vs,e,fr,T,U,by simpa using I,(λi j Q d' g f=>?_)⟩
          ·cases i with
           | zero=>simp at g; subst g; simpa using p 0 r rfl
           | succ i=>simp at g
          ·cases i with
           | zero=>
            simp at g; subst g
            rw[List.getElem?_set] at f
            split at f
            ·rename_i s; subst s
             split at f
             ·cases f
              obtain⟨v,a1,a2,R⟩:=D 0 o r d rfl F
              exact⟨v,a1,a2,Znw R H b⟩
             ·cases f
            ·exact D 0 j r d' rfl f
           | succ i=>simp at g
        ·exact h.heap u blk m
      ·dsimp only
       split
       ·exact⟨_,rfl⟩
       ·split
        ·exact⟨_,rfl⟩
        ·exact h.dom u x m
     ·cases l
    ·cases l
   ·cases l
  ·cases l
 | loose V o =>
  simp only[S.conv1] at l
  split at l
  ·rename_i k C
   split at l
   ·rename_i r O
    split at l
    ·rename_i c0 rows F
     cases l
     refine { h with heap:=λu blk m=>?_,dom:=λu x m=>?_ }
     ·dsimp only at m
      split at m
      ·rename_i z; subst z
       cases m
       rcases h.heap u k C with ⟨g0,J,Y⟩|⟨c,g0,hB⟩
       ·rw[O] at J; cases J
       ·refine .inr ⟨c,g0,?_⟩
        obtain⟨own,pin,ty',frz,top,dat,p,vs,e,fr,T,U,I,D⟩:=hB
        rw[O] at I p D top dat
        refine⟨own,pin,ty',frz,by simpa using top,(λB i j Q d' g f=>?_),(λi Q g=>?_),vs,e,fr,T,U,by simpa using I,(λi j Q d' g f=>?_)⟩
        ·cases i with
         | zero=>
          simp at g; subst g
          rw[List.getElem?_set] at f
          split at f
          ·split at f
           ·cases f; rfl
           ·cases f
          ·exact dat B 0 j r d' rfl f
         | succ i=>simp at g
        ·cases i with
         | zero=>simp at g; subst g; simpa using p 0 r rfl
         | succ i=>simp at g
        ·cases i with
         | zero=>
          simp at g; subst g
          rw[List.getElem?_set] at f
          split at f
          ·rename_i s; subst s
           split at f
           ·cases f
            obtain⟨v,a1,a2,R⟩:=D 0 o r _ rfl F
            refine⟨v,a1,a2,?_⟩
            cases R with
            | slnil _ x=>exact .slnil false x
            | sl c b off n cap sz rows val H hcc L hsz N E y M q=>exact .sl false b off n cap sz _ val H (λh=>by cases h) L hsz N E y M q
           ·cases f
          ·exact D 0 j r d' rfl f
         | succ i=>simp at g
      ·exact h.heap u blk m
     ·dsimp only
      split
      ·exact⟨_,rfl⟩
      ·exact h.dom u x m
    ·cases l
   ·cases l
  ·cases l
theorem Zk.conv:∀ (l:List U6) {σ σ':S},Zk Γ σ a w G β→σ.conv l=some σ'→Zk Γ σ' a w G β
 | [],σ,σ',h,b=>by cases b; exact h
 | x::l,σ,σ',h,b=>by
  unfold S.conv at b
  split at b
  ·rename_i σ1 c; exact Zk.conv l (h.conv1 c) b
  ·cases b
def Uf (cv:List U6) (keep:List Nat) (ps:List (Nat×Nat)) (σ:S):Option (List (Nat×D)×List (Nat×Blk)):=
 match σ.conv cv with
 | some σ'=>gcL keep ps σ'
 | none=>none
end Go.Den
