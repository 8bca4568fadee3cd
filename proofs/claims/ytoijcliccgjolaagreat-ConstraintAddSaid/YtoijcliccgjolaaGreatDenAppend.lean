/-
  append; and the soundness of 'stepD' as a whole.
-/
import Derived.Test.YtoijcliccgjolaaGreatDenIO
import Derived.Laws.BytesArg
namespace Go.Den
open Go.RowKit
variable {P : Program} {Γ : Ctx} {σ : S} {a : Act} {w w' : World} {G G' : Nat → Nat} {β β' : Nat → Option (Nat × Nat)}
structure Z7l (P : Program) (w : World) (G : Nat → Nat) (v : Value) (rows : List (List D)) (size : Nat) (cells : List Value) : Prop where
 shape : ∃ a0 cap,v = .slice a0 rows.length cap ∧ rows.length ≤ cap
 len : cells.length = rows.length * size
 run : ∀ w' : World,(∀ ad,w'.cell? ad = w.cell? ad) → (Builtin.firstCells size rows.length v).run P w' = .ok cells.toArray w'
 one : ∀ u ∈ cells,one u = true
 rep : ∀ (i j : Nat) r d,rows[i]? = some r → r[j]? = some d → ∃ u,cells[i * size + j]? = some u ∧ Z06 w G (fun _=>none) u d ∧ d.dat = true
structure Za8 (P : Program) (w : World) (G : Nat → Nat) (v : Value) (rows : List (List D)) (size : Nat) (cells : List Value) : Prop where
 lenr : ∀ w' : World,(Builtin.lenOf v).run P w' = .ok rows.length w'
 len : cells.length = rows.length * size
 run : ∀ w' : World,(∀ ad,w'.cell? ad = w.cell? ad) → (Builtin.firstCells size rows.length v).run P w' = .ok cells.toArray w'
 one : ∀ u ∈ cells,one u = true
 rep : ∀ (i j : Nat) r d,rows[i]? = some r → r[j]? = some d → ∃ u,cells[i * size + j]? = some u ∧ Z06 w G (fun _=>none) u d ∧ d.dat = true
theorem Z7l.news {v : Value} {rows : List (List D)} {size : Nat} {cells : List Value} (h : Z7l P w G v rows size cells) : Za8 P w G v rows size cells:=by
 obtain ⟨⟨ax,cx,hvx,-⟩,h2,h3,h4,h5⟩:=h
 exact ⟨fun w'=>by subst hvx; simp [Builtin.lenOf],h2,h3,h4,h5⟩
theorem Y49 (s : ByteArray) {size : Nat} (hs : ∀ r ∈ (s.data.toList.map fun b=>[D.int .u8 b.toNat]),r.length = size) :
  Za8 P w G (.string s) (s.data.toList.map fun b=>[.int .u8 b.toNat]) size (s.data.toList.map fun b=> .int .u8 b.toNat):=by
 have hsize : s.data.toList = [] ∨ size = 1:=by
  cases hd : s.data.toList with
  | nil=>exact .inl rfl
  | cons b r=>have:=hs [D.int .u8 b.toNat] (by rw [hd]; simp); exact .inr this.symm
 refine ⟨fun w'=>?_,?_,fun w' _=>?_,fun u hu=>?_,fun i j r d hr hd=>?_⟩
 ·simp [Builtin.lenOf]
 ·rcases hsize with h | h
  ·rw [h]; simp
  ·rw [h]; simp
 ·have e : (List.map (fun b=>[D.int IntKind.u8 ↑b.toNat]) s.data.toList).length = s.size:=by simp
  rw [e]
  simp only [Builtin.firstCells,ByteArray.extract_zero_size,Sem.run_pure]
  congr 1
  apply Array.ext'
  simp
 ·simp at hu; obtain ⟨b,-,rfl⟩:=hu; rfl
 ·rcases hsize with h | h
  ·rw [h] at hr; simp at hr
  ·subst h
   rw [List.getElem?_map] at hr
   obtain ⟨b,hb,rfl⟩:=Z26 hr
   cases j with
   | zero=>simp at hd; subst hd; exact ⟨.int .u8 b.toNat,by rw [List.getElem?_map,Nat.mul_one,Nat.add_zero,hb]; rfl,.int _ _,rfl⟩
   | succ j=>simp at hd
theorem Zy3 (v : Value) (x : Option Addr) (cap : Nat) (hv : v = .slice x 0 cap) (size : Nat) : Z7l P w G v [] size [] :=
 ⟨⟨x,cap,hv,Nat.zero_le _⟩,by simp,fun w' _=>by subst hv; cases x <;> simp [Builtin.firstCells,loadCells,loadCellsFrom],by simp,fun i j r d h=>by simp at h⟩
theorem Ztf {v : Value} {b off n cap size : Nat} (hv : v = .slice (some ⟨b,off,none⟩) n cap) (hcap : n ≤ cap) {rows : List (List D)} (hn : rows.length = n) (hsz : ∀ (i : Nat) r,rows[i]? = some r → r.length = size)
  (f : Nat → Value) (hcell : ∀ i j,i < n → j < size → w.cell? ⟨b,off + (i * size + j),none⟩ = some (f (i * size + j)))
  (hrep : ∀ (i j : Nat) r d,rows[i]? = some r → r[j]? = some d → one (f (i * size + j)) = true ∧ Z06 w G (fun _=>none) (f (i * size + j)) d ∧ d.dat = true) :
  Z7l P w G v rows size ((List.range (n * size)).map f):=by
 have hidx : ∀ k,k < n * size → ∃ i j,i < n ∧ j < size ∧ k = i * size + j:=fun k hk=>by
  have hs : 0 < size:=by
   rcases Nat.eq_zero_or_pos size with h | h
   ·subst h; simp at hk
   ·exact h
  refine ⟨k / size,k % size,Nat.div_lt_of_lt_mul (by rw [Nat.mul_comm]; exact hk),Nat.mod_lt _ hs,?_⟩
  rw [Nat.mul_comm]; exact (Nat.div_add_mod k size).symm
 refine ⟨⟨_,cap,by rw [hn]; exact hv,by omega⟩,by simp [hn],fun w' hw'=>?_,fun u hu=>?_,fun i j r d hr hd=>?_⟩
 ·subst hv
  simp only [Builtin.firstCells,hn]
  refine run_loadCells (P:=P) w' _ _ f (fun k hk=>?_)
  obtain ⟨i,j,hi,hj,rfl⟩:=hidx k hk
  rw [Addr.add_none,hw']
  exact hcell i j hi hj
 ·simp only [List.mem_map,List.mem_range] at hu
  obtain ⟨k,hk,rfl⟩:=hu
  obtain ⟨i,j,hi,hj,rfl⟩:=hidx k hk
  have hr : rows[i]? = some rows[i] :=List.getElem?_eq_getElem (by omega)
  have hl:=hsz i _ hr
  exact (hrep i j _ _ hr (List.getElem?_eq_getElem (by omega))).1
 ·obtain ⟨h1,h2,h3⟩:=hrep i j r d hr hd
  have hi : i < n:=by
   rcases Nat.lt_or_ge i rows.length with h' | h'
   ·omega
   ·rw [List.getElem?_eq_none h'] at hr; cases hr
  have hj : j < size:=by
   rw [← hsz i r hr]
   rcases Nat.lt_or_ge j r.length with h' | h'
   ·exact h'
   ·rw [List.getElem?_eq_none h'] at hd; cases hd
  have hk : i * size + j < n * size:=by
   have : (i + 1) * size ≤ n * size:=Nat.mul_le_mul_right _ (by omega)
   rw [Nat.add_mul] at this; omega
  exact ⟨f (i * size + j),by simp [hk],h2,h3⟩
theorem Zxj {v : Value} {c : Bool} {rows : List (List D)} (h : Z06 w G β v (.sl c rows)) {size : Nat} (hsz : ∀ r ∈ rows,r.length = size) : ∃ cells,Z7l P w G v rows size cells:=by
 cases h with
 | slnil _ x=>exact ⟨[],Zy3 _ x 0 rfl size⟩
 | sl _ b off n cap sz _ val hn hcc hcap hsz' himm hcell hone hdat hrep=>
  have hss : ∀ i,i < n → sz = size:=fun i hi=>by
   rw [← hsz' i rows[i] (List.getElem?_eq_getElem (by omega))]
   exact hsz _ (List.getElem_mem _)
  refine ⟨_,Ztf rfl hcap hn (fun i r hr=>hsz r (List.mem_of_getElem? hr)) (fun k=>val (k / size) (k % size)) (fun i j hi hj=>?_) (fun i j r d hr hd=>?_)⟩
  ·have e:=hss i hi
   subst e
   have:=hcell i j hi hj
   rw [show (i * sz + j) / sz = i by rw [Nat.mul_comm,Nat.mul_add_div (by omega),Nat.div_eq_of_lt hj,Nat.add_zero],show (i * sz + j) % sz = j by rw [Nat.mul_comm,Nat.mul_add_mod,Nat.mod_eq_of_lt hj]]
   rw [← this]; congr 2; omega
  ·have hi : i < n:=by
    rcases Nat.lt_or_ge i rows.length with h' | h'
    ·omega
    ·rw [List.getElem?_eq_none h'] at hr; cases hr
   have e:=hss i hi
   subst e
   have hj : j < sz:=by
    rw [← hsz' i r hr]
    rcases Nat.lt_or_ge j r.length with h' | h'
    ·exact h'
    ·rw [List.getElem?_eq_none h'] at hd; cases hd
   rw [show (i * sz + j) / sz = i by rw [Nat.mul_comm,Nat.mul_add_div (by omega),Nat.div_eq_of_lt hj,Nat.add_zero],show (i * sz + j) % sz = j by rw [Nat.mul_comm,Nat.mul_add_mod,Nat.mod_eq_of_lt hj]]
   exact ⟨hone i j hi hj,Z9d (hrep i j r d hr hd) (hdat i j r d hr hd),hdat i j r d hr hd⟩
theorem Zxy {v : Value} {b lo n : Nat} {blk : Blk} (h : Z05 Γ σ a w G β) (hv : Z06 w G β v (.lsl b lo n)) (hb : σ.heap b = some blk) (hp : blk.pure = true) (hle : lo + n ≤ blk.rows.length) {size : Nat}
  (hsz : ∀ r ∈ (blk.rows.drop lo).take n,r.length = size) : ∃ cells,Z7l P w G v ((blk.rows.drop lo).take n) size cells:=by
 have hlen : ((blk.rows.drop lo).take n).length = n:=by simp; omega
 cases hv with
 | lslnil _ x=>exact ⟨[],by simpa using Zy3 _ x 0 rfl size⟩
 | lsl _ _ _ cap c sz off hβ hcap hoff hroom=>
  obtain ⟨rfl,hB⟩:=h.blk hb hβ
  obtain ⟨vs,e,fr,h1,h2,h3,h4⟩:=hB.cells
  have hback : ∀ (i : Nat) r,((blk.rows.drop lo).take n)[i]? = some r → blk.rows[lo + i]? = some r ∧ i < n:=fun i r hr=>by
   rw [List.getElem?_take] at hr
   split at hr
   ·rw [List.getElem?_drop] at hr; exact ⟨hr,by assumption⟩
   ·cases hr
  have hrow : ∀ i,i < n → ∃ r,blk.rows[lo + i]? = some r ∧ ((blk.rows.drop lo).take n)[i]? = some r ∧ r.length = blk.sz ∧ r.length = size:=fun i hi=>by
   have hlt : lo + i < blk.rows.length:=by omega
   have hm : ((blk.rows.drop lo).take n)[i]? = some blk.rows[lo + i] :=by
    rw [List.getElem?_take_of_lt hi,List.getElem?_drop]; exact List.getElem?_eq_getElem hlt
   exact ⟨blk.rows[lo + i],List.getElem?_eq_getElem hlt,hm,hB.hsz (lo + i) _ (List.getElem?_eq_getElem hlt),hsz _ (List.mem_of_getElem? hm)⟩
  refine ⟨_,Ztf (w:=w) (G:=G) (b:=c) (off:=off) rfl hcap hlen (fun i r hr=>hsz r (List.mem_of_getElem? hr)) (fun k=>vs.getD (lo * blk.sz + k) Go.undef) (fun i j hi hj=>?_) (fun i j r d hr hd=>?_)⟩
  ·obtain ⟨r,hr,-,hl1,hl2⟩:=hrow i hi
   have hss : size = blk.sz:=by omega
   subst hss
   obtain ⟨u,a1,a2,a3⟩:=h4 (lo + i) j r r[j] hr (List.getElem?_eq_getElem (by omega))
   rw [hoff.resolve_left (by omega),Z4p,h1]
   have : lo * blk.sz + (i * blk.sz + j) = (lo + i) * blk.sz + j:=by rw [Nat.add_mul]; omega
   simp [this,a1,Array.getD_eq_getD_getElem?]
  ·obtain ⟨hr',hi⟩:=hback i r hr
   obtain ⟨r2,hr2,-,hl1,hl2⟩:=hrow i hi
   rw [hr'] at hr2; cases hr2
   have hss : size = blk.sz:=by omega
   subst hss
   obtain ⟨u,a1,a2,a3⟩:=h4 (lo + i) j r d hr' hd
   have : lo * blk.sz + (i * blk.sz + j) = (lo + i) * blk.sz + j:=by rw [Nat.add_mul]; omega
   simp only [this,Array.getD_eq_getD_getElem?,a1,Option.getD_some]
   exact ⟨a2,Z9d a3 (hB.dat hp _ j r d hr' hd),hB.dat hp _ j r d hr' hd⟩
theorem Zzb {v : Value} {x : D} (h : Z05 Γ σ a w G β) (hv : Z06 w G β v x) {rows : List (List D)} {q : Prop} (hr : Z5k σ x = some (rows,q)) (hq : q) {size : Nat} (hsz : ∀ r ∈ rows,r.length = size) :
  ∃ cells,Z7l P w G v rows size cells:=by
 unfold Z5k at hr
 split at hr
 ·cases hr; exact Zxj hv hsz
 ·split at hr
  ·rename_i blk hb
   split at hr
   ·rename_i hp
    cases hr
    exact Zxy h hv hb hp hq hsz
   ·cases hr
  ·cases hr
 ·cases hr
theorem Zsx {t t' : TypeId} {e : TypeId} (ht : P.underlying t = some (.slice e)) {v : Value} {x : D} (h : Z05 Γ σ a w G β) (hv : Z06 w G β v x) {rows : List (List D)} {q : Prop} (hr : Z8f P σ t t' x = some (rows,q)) (hq : q) {size : Nat} (hsz : ∀ r ∈ rows,r.length = size) :
  (∃ cells,Za8 P w G v rows size cells) ∧ ∃ td,P.underlying t' = some td ∧ (td = .slice e ∨ td = .string):=by
 unfold Z8f at hr
 split at hr
 ·split at hr
  ·rename_i hs
   cases hr
   obtain ⟨s,rfl,rfl⟩:=Z78 hv
   exact ⟨⟨_,Y49 s hsz⟩,_,hs,.inr rfl⟩
  ·cases hr
 ·split at hr
  ·rename_i htt
   obtain rfl : t = t':=by simpa using htt
   obtain ⟨c,hc⟩:=Zzb (P:=P) h hv hr hq hsz
   exact ⟨⟨c,hc.news⟩,_,ht,.inl rfl⟩
  ·cases hr
theorem Zys {t t' ty e : TypeId} {td : TypeDesc} {i : TypeInfo} {z : Value} (ht : P.underlying t = some (.slice e)) (ht' : P.underlying t' = some td) (htd : td = .slice e ∨ td = .string) (hi : P.info? e = some i) (hz : i.zero = some z) {vs vx : Value} {olds news : List (List D)} {co cn : List Value}
  (ho : Z7l P w G vs olds i.size co) (hn : Za8 P w G vx news i.size cn) {ao : Option Addr} {cap : Nat} (hvs : vs = .slice ao olds.length cap) (hg : cap < olds.length + news.length)
  (h63 : olds.length + news.length ≤ 9223372036854775807) (hfit : (olds.length + news.length) * i.bytes ≤ 140737488355328) :
  (Builtin.append_ #[t,t'] ty #[vs,vx]).run P w =
   .ok (.slice (some ⟨w.heap.size,0,none⟩) (olds.length + news.length) (grownCap w (olds.length + news.length) cap e))
    (w.drew.alloc (.cells (co.toArray ++ cn.toArray ++ Builtin.zeroCells z.cells (grownCap w (olds.length + news.length) cap e - (olds.length + news.length))) e)):=by
 have h1:=ho.run w.drew (fun _=>rfl)
 have h2:=hn.run w.drew (fun _=>rfl)
 have h3:=hn.lenr w
 subst hvs
 have hn' : ¬ (olds.length + news.length ≤ cap):=by omega
 have h63' : ¬ (9223372036854775807 < ((olds.length : Int) + (news.length : Int))):=by omega
 have h48' : ¬ (281474976710656 < Builtin.nextslicecap (olds.length + news.length) cap * i.bytes):=by have:=growslice_fits hg hfit; omega
 rcases htd with rfl | rfl
 ·simp [Builtin.append_,run_underlying ht,run_underlying ht',sizeOf,typeInfo,zeroValue,hi,hz,h3,hn',h63',h48',Question.forced,h1,h2,newRow,grownCap]
  congr 2
  apply Array.ext'
  simp [List.append_assoc]
 ·simp [Builtin.append_,run_underlying ht,run_underlying ht',sizeOf,typeInfo,zeroValue,hi,hz,h3,hn',h63',h48',Question.forced,h1,h2,newRow,grownCap]
  congr 2
  apply Array.ext'
  simp [List.append_assoc]
theorem Y2d {t t' ty e : TypeId} {td : TypeDesc} {i : TypeInfo} (ht : P.underlying t = some (.slice e)) (ht' : P.underlying t' = some td) (htd : td = .slice e ∨ td = .string) (hi : P.info? e = some i) {vx : Value} {n : Nat} {news : List (List D)} {cn : List Value}
  (hn : Za8 P w G vx news i.size cn) {c cap : Nat} (hroom : n + news.length ≤ cap) {cur : Array Value} {e' : TypeId} {fr : Nat × Nat} (hh : w.heap[c]? = some (.cells cur e' fr))
  (hfr : ∀ o,o < cur.size → ¬ (fr.1 ≤ o ∧ o < fr.2)) (hfit : (n + news.length) * i.size ≤ cur.size) :
  ∃ cur',(Builtin.append_ #[t,t'] ty #[.slice (some ⟨c,0,none⟩) n cap,vx]).run P w = .ok (.slice (some ⟨c,0,none⟩) (n + news.length) cap) (w.setRow c cur') ∧ cur'.size = cur.size ∧
   ∀ k,cur'[k]? = if n * i.size ≤ k ∧ k < n * i.size + cn.length then cn[k - n * i.size]? else cur[k]? :=by
 have h2:=hn.run w (fun _=>rfl)
 have h3:=hn.lenr w
 obtain ⟨cur',e1,e2,e3⟩:=Zou (P:=P) c (n * i.size) e' fr cn 0 cur w hh hfr (by rw [hn.len,Nat.add_zero,← Nat.add_mul]; exact hfit) hn.one
 refine ⟨cur',?_,e2,by simpa using e3⟩
 rcases htd with rfl | rfl
 ·simp [Builtin.append_,run_underlying ht,run_underlying ht',sizeOf,typeInfo,hi,h3,hroom,h2,Addr.add_none,e1]
 ·simp [Builtin.append_,run_underlying ht,run_underlying ht',sizeOf,typeInfo,hi,h3,hroom,h2,Addr.add_none,e1]
theorem Zbu {news olds : List (List D)} {i : Nat} {r : List D} (h : (olds ++ news)[i]? = some r) : (i < olds.length ∧ olds[i]? = some r) ∨ (olds.length ≤ i ∧ news[i - olds.length]? = some r):=by
 rw [List.getElem?_append] at h
 split at h
 ·exact .inl ⟨by assumption,h⟩
 ·exact .inr ⟨by omega,h⟩
theorem Zvo (h : Z05 Γ σ a w G β) {olds news : List (List D)} {co cn : List Value} {size : Nat} {vs vx : Value} (ho : Z7l P w G vs olds size co) (hn : Za8 P w G vx news size cn)
  (hso : ∀ r ∈ olds,r.length = size) (hsn : ∀ r ∈ news,r.length = size) {zs : Array Value} {e : TypeId} {frz : Nat} {ty : Option TypeId} (hty : ∀ t,ty = some t → e = t) (hf : frz ≤ olds.length + news.length) {β' : Nat → Option (Nat × Nat)} :
  Z37 (w.drew.alloc (.cells (co.toArray ++ cn.toArray ++ zs) e)) G β' Γ w.heap.size { sz:=size,rows:=olds ++ news,frz,pure:=true,ty }:=by
 have hG0 : G w.heap.size = 0:=h.fresh _ (Nat.le_refl _)
 have hb : Below w.heap.size w (w.drew.alloc (.cells (co.toArray ++ cn.toArray ++ zs) e)):=(Zk4 w).trans (Z6r w.drew _)
 have hlift : ∀ u d,Z06 w G (fun _=>none) u d → d.dat = true → Z06 (w.drew.alloc (.cells (co.toArray ++ cn.toArray ++ zs) e)) G β' u d:=fun u d hu hd=>
  hu.of_dat (fun b o ho=>Z79 (hb.block b (h.marksLt ho)) o) (fun _=>Nat.le_refl _) hd
 refine ⟨.inl h.big,(fun k hk=>by cases hk),(fun t ht=>by obtain rfl:=hty t ht; exact ⟨_,_,Z5r w.drew _,Nat.le_refl _⟩),(fun o ho=>by rw [hG0] at ho; omega),by simpa using hf,fun _ i j r d hr hd=>?_,fun i r hr=>?_,_,e,(0,0),Z5r w.drew _,fun o _=>by simp,?_,fun i j r d hr hd=>?_⟩
 ·rcases Zbu hr with ⟨_,hr'⟩ | ⟨_,hr'⟩
  ·obtain ⟨u,-,-,h3⟩:=ho.rep _ j r d hr' hd; exact h3
  ·obtain ⟨u,-,-,h3⟩:=hn.rep _ j r d hr' hd; exact h3
 ·rcases Zbu hr with ⟨_,hr'⟩ | ⟨_,hr'⟩
  ·exact hso r (List.mem_of_getElem? hr')
  ·exact hsn r (List.mem_of_getElem? hr')
 ·show (olds ++ news).length * size ≤ _
  simp [ho.len,hn.len,Nat.add_mul]
 ·show ∃ v,(co.toArray ++ cn.toArray ++ zs)[i * size + j]? = some v ∧ _
  rcases Zbu hr with ⟨hi,hr'⟩ | ⟨hi,hr'⟩
  ·obtain ⟨u,h1,h2,h3⟩:=ho.rep i j r d hr' hd
   have hlt : i * size + j < co.length:=by
    rcases Nat.lt_or_ge (i * size + j) co.length with h' | h'
    ·exact h'
    ·rw [List.getElem?_eq_none h'] at h1; cases h1
   refine ⟨u,?_,ho.one u (List.mem_of_getElem? h1),hlift u d h2 h3⟩
   rw [Array.append_assoc,Array.getElem?_append_left (by simpa using hlt)]
   simpa using h1
  ·obtain ⟨u,h1,h2,h3⟩:=hn.rep _ j r d hr' hd
   have hlt : (i - olds.length) * size + j < cn.length:=by
    rcases Nat.lt_or_ge ((i - olds.length) * size + j) cn.length with h' | h'
    ·exact h'
    ·rw [List.getElem?_eq_none h'] at h1; cases h1
   refine ⟨u,?_,hn.one u (List.mem_of_getElem? h1),hlift u d h2 h3⟩
   have hidx : i * size + j = co.length + ((i - olds.length) * size + j):=by
    rw [ho.len,← Nat.add_assoc,← Nat.add_mul]; congr 2; omega
   rw [hidx,Array.append_assoc,Array.getElem?_append_right (by simp),Array.getElem?_append_left (by simp; omega)]
   simpa using h1
theorem Y3t (hC : Z05 Γ σ a w G β) {o : Oper} {args : Array Operand} {ts : Array TypeId} (ho : o.op = .call { callee:= .builtin .append,args,argTypes:=ts }) {so xo : Operand} {t : TypeId}
  {t' : TypeId} (h0 : args = #[so,xo]) (ht : ts = #[t,t']) {told : Z1j} {σ' : S} {q : Prop} (h : Z9a P σ o t t' (σ.ev so) (σ.ev xo) told = some (σ',q)) (hq : q) : Reach P Γ o a w σ':=by
 subst h0 ht
 have hs:=Z3d hC so
 have hx:=Z3d hC xo
 have hrun : ∀ {v : Value} {w' : World},(Builtin.append_ #[t,t'] o.type #[a.eval so,a.eval xo]).run P w = .ok v w' → (execOp a.eval o).run P w = .ok (.value v) w':=fun h=>by
  simp [execOp,ho,resolve,invoke,builtin,h]
 unfold Z9a at h
 split at h
 ·cases h
 ·rename_i e he
  have hu:=Zd8 he
  split at h
  ·rename_i ie news qn hie hnews
   split at h
   ·cases h
   ·rename_i z hz
    split at h
    ·cases h
    ·rename_i hcond
     simp only [Bool.and_eq_true,beq_iff_eq] at hcond
     split at h
     ·-- a block of the call's own
      rename_i b n hse
      rw [hse] at hs
      split at h
      ·rename_i blk hb
       split at h
       ·rename_i hc2
        simp only [Bool.and_eq_true,beq_iff_eq] at hc2
        obtain ⟨⟨hpure,hbsz⟩,hdst⟩:=hc2
        cases h
        obtain ⟨q1,q2,q3,q4,q5,q6⟩:=hq
        rw [← q4] at q5 q6 ⊢
        rw [List.length_append]
        subst q2
        obtain ⟨⟨cn,hn⟩,td,htd',htd⟩:=Zsx (P:=P) hu hC hx hnews q1 q3
        have hso : ∀ r ∈ blk.rows,r.length = ie.size:=fun r hr=>by
         obtain ⟨i,hi⟩:=List.getElem?_of_mem hr
         rcases hC.heap b blk hb with ⟨_,h1,-⟩ | ⟨c,h1,hB⟩
         ·rw [h1] at hr; cases hr
         ·rw [hB.hsz i r hi,hbsz]
        obtain ⟨co,hO⟩:=Zxy (P:=P) hC hs hb hpure (by omega) (size:=ie.size) (fun r hr=>hso r (List.mem_of_mem_drop (List.mem_of_mem_take hr)))
        rw [show (blk.rows.drop 0).take blk.rows.length = blk.rows by simp] at hO
        obtain ⟨ao,cap,hva,hcap⟩:=hO.shape
        simp only [List.length_append] at q5 q6
        have hput : ∀ {w2 G2 β2 v},Z05 Γ ((σ.drop b).setB b (some { blk with rows:=blk.rows ++ news,pin:=none,ty:=tyM told.mt blk.ty e })) a w2 G2 β2 → Z06 w2 G2 β2 v (.lsl b 0 (blk.rows.length + news.length)) →
          Z05 Γ (((σ.drop b).setB b (some { blk with rows:=blk.rows ++ news,pin:=none,ty:=tyM told.mt blk.ty e })).put o.dst (.lsl b 0 (blk.rows.length + news.length))) (a.put o.dst v) w2 G2 β2:=fun h1 h2=>h1.put (fun t ht=>Z59 hdst t ht) h2
        have hnone : (σ.drop b).heap b = none:=by simp [S.drop]
        by_cases hroom : blk.rows.length + news.length ≤ cap
        ·-- there is room
         generalize hve : a.eval so = vs at hs hva
         obtain ⟨n0,hn0⟩ : ∃ n0,n0 = blk.rows.length:=⟨_,rfl⟩
         rw [← hn0] at hs
         cases hs with
         | lslnil _ x=>
          have hr0 : blk.rows = [] :=List.eq_nil_of_length_eq_zero hn0.symm
          have hcap0 : cap = 0:=by injection hva with _ _ h; exact h.symm
          have hm : news = [] :=List.eq_nil_of_length_eq_zero (by omega)
          subst hm
          have hcn : cn = [] :=List.eq_nil_of_length_eq_zero (by simpa using hn.len)
          subst hcn
          have hfc:=hn.run w (fun _=>rfl)
          have hln:=hn.lenr w
          have hr : (Builtin.append_ #[t,t'] o.type #[a.eval so,a.eval xo]).run P w = .ok (.slice x 0 0) w:=by
           rw [hve]
           simp at hfc hln
           rcases htd with rfl | rfl <;> cases x <;> simp [Builtin.append_,run_underlying hu,run_underlying htd',sizeOf,typeInfo,hie,hln,hfc,storeCells]
          refine Reach.of_value (hrun hr) (hput ((hC.drop b).nameNil hnone ⟨by simp [hr0],?_⟩) (by rw [show blk.rows.length + ([] : List (List D)).length = 0 by simp [hr0]]; exact .lslnil b x))
          rcases hC.heap b blk hb with ⟨_,_,h2⟩ | ⟨c,h1,hB⟩
          ·exact h2
          ·have:=hB.top; rw [hr0] at this; simpa using this
         | lsl _ _ _ cap' c sz off hβ hcap' hoff hroom'=>
          obtain ⟨rfl,rfl,rfl⟩ : ao = some ⟨c,off,none⟩ ∧ n0 = blk.rows.length ∧ cap' = cap:=by injection hva with h1 h2 h3; exact ⟨h1.symm,h2,h3⟩
          obtain ⟨rfl,hB⟩:=hC.blk hb hβ
          obtain ⟨cur,e',fr,k1,k2,k3,k4⟩:=hB.cells
          have hoff0 : off = 0 ∨ cap' = 0:=by rcases hoff with h | h; exact .inr h; exact .inl (by simpa using h)
          have hfit : (blk.rows.length + news.length) * ie.size ≤ cur.size:=by
           obtain ⟨vs2,e2,fr2,l1,l2⟩:=hroom'
           rw [k1] at l1; cases l1
           rcases l2 with l2 | l2
           ·have : blk.rows.length + news.length = 0:=by omega
            rw [this]; simp
           ·rw [← hbsz]
            refine Nat.le_trans (Nat.mul_le_mul_right _ ?_) l2; omega
          by_cases hcap0 : cap' = 0
          ·have hr0 : blk.rows = [] :=List.eq_nil_of_length_eq_zero (by omega)
           have hm : news = [] :=List.eq_nil_of_length_eq_zero (by omega)
           subst hm
           have hcn : cn = [] :=List.eq_nil_of_length_eq_zero (by simpa using hn.len)
           subst hcn
           have hfc:=hn.run w (fun _=>rfl)
           have hln:=hn.lenr w
           have hr : (Builtin.append_ #[t,t'] o.type #[a.eval so,a.eval xo]).run P w = .ok (.slice (some ⟨c,off,none⟩) 0 0) w:=by
            rw [hve,hr0,hcap0]
            simp at hfc hln
            rcases htd with rfl | rfl <;> simp [Builtin.append_,run_underlying hu,run_underlying htd',sizeOf,typeInfo,hie,hln,hfc,storeCells]
           refine Reach.of_value (hrun hr) (hput ((hC.drop b).nameNil hnone ⟨by simp [hr0],?_⟩) (by rw [show blk.rows.length + ([] : List (List D)).length = 0 by simp [hr0]]; exact .lslnil b _))
           have:=hB.top; rw [hr0] at this; simpa using this
          ·obtain rfl : off = 0:=hoff0.resolve_right hcap0
           obtain ⟨cur',r1,r2,r3⟩:=Y2d (ty:=o.type) hu htd' htd hie hn hroom k1 k2 hfit
           rw [hve] at hrun
           have hW : Z6i Γ G c w (w.setRow c cur'):=Zwa k1 r2 hB.own fun k hk=>by
            rw [r3 k,if_neg]
            intro hcon
            have h5:=hB.frz k hk
            have : blk.frz * blk.sz ≤ blk.rows.length * ie.size:=by rw [← hbsz]; exact Nat.mul_le_mul_right _ (by have:=hB.top; omega)
            omega
           have hfree : ∀ b' s,upd β b none b' ≠ some (c,s):=fun b' s hbs=>by
            unfold upd at hbs
            split at hbs
            ·cases hbs
            ·rename_i hne; exact hne (hC.inj b' b c s blk.sz hbs hβ)
           have hC1:=(hC.drop b).scratch hfree hW
           have hlift : ∀ u d,Z06 w G (fun _=>none) u d → d.dat = true → Z06 (w.setRow c cur') G (upd β b none) u d:=fun u d hu hd=>hu.of_dat hW.cells (fun _=>Nat.le_refl _) hd
           have hB' : Z37 (w.setRow c cur') G (upd β b none) Γ c { blk with rows:=blk.rows ++ news,pin:=none,ty:=tyM told.mt blk.ty e }:=by
            refine ⟨hB.own,(fun k hk=>by cases hk),(fun t ht=>by obtain ⟨vs2,fr2,g,gle⟩:=hB.ty t (Zws ht).1; rw [k1] at g; cases g; exact ⟨_,_,setRow_heap w c cur cur' _ _ k1,gle⟩),hB.frz,by have:=hB.top; simp; omega,fun _ i j r d hr hd=>?_,fun i r hr=>?_,cur',e',fr,setRow_heap w c cur cur' e' fr k1,fun o ho=>k2 o (by omega),?_,fun i j r d hr hd=>?_⟩
            ·rcases Zbu hr with ⟨_,hr'⟩ | ⟨_,hr'⟩
             ·exact hB.dat hpure _ j r d hr' hd
             ·obtain ⟨u,-,-,h3⟩:=hn.rep _ j r d hr' hd; exact h3
            ·rcases Zbu hr with ⟨_,hr'⟩ | ⟨_,hr'⟩
             ·exact hB.hsz _ r hr'
             ·show _ = blk.sz
              rw [hbsz]; exact q3 r (List.mem_of_getElem? hr')
            ·show (blk.rows ++ news).length * blk.sz ≤ _
             rw [List.length_append,hbsz,r2]; exact hfit
            ·show ∃ v,cur'[i * blk.sz + j]? = some v ∧ _
             rcases Zbu hr with ⟨hi,hr'⟩ | ⟨hi,hr'⟩
             ·obtain ⟨u,h1,h2,h3⟩:=k4 i j r d hr' hd
              have hj : j < blk.sz:=by
               rw [← hB.hsz i r hr']
               rcases Nat.lt_or_ge j r.length with h' | h'
               ·exact h'
               ·rw [List.getElem?_eq_none h'] at hd; cases hd
              have hlt : i * blk.sz + j < blk.rows.length * ie.size:=by
               rw [← hbsz]
               have : (i + 1) * blk.sz ≤ blk.rows.length * blk.sz:=Nat.mul_le_mul_right _ (by omega)
               rw [Nat.add_mul] at this; omega
              exact ⟨u,by rw [r3,if_neg (by omega)]; exact h1,h2,hlift u d (Z9d h3 (hB.dat hpure _ j r d hr' hd)) (hB.dat hpure _ j r d hr' hd)⟩
             ·obtain ⟨u,h1,h2,h3⟩:=hn.rep _ j r d hr' hd
              have hlt : (i - blk.rows.length) * ie.size + j < cn.length:=by
               rcases Nat.lt_or_ge ((i - blk.rows.length) * ie.size + j) cn.length with h' | h'
               ·exact h'
               ·rw [List.getElem?_eq_none h'] at h1; cases h1
              have hidx : i * blk.sz + j = blk.rows.length * ie.size + ((i - blk.rows.length) * ie.size + j):=by
               rw [hbsz,← Nat.add_assoc,← Nat.add_mul]; congr 2; omega
              exact ⟨u,by rw [r3,hidx,if_pos (by omega),Nat.add_sub_cancel_left]; exact h1,hn.one u (List.mem_of_getElem? h1),hlift u d h2 h3⟩
           have hC2:=hC1.name (b:=b) (blk:={ blk with rows:=blk.rows ++ news,pin:=none,ty:=tyM told.mt blk.ty e }) hnone hfree hB'
           refine Reach.of_value (hrun r1) (hput hC2 ?_)
           refine .lsl b 0 _ cap' c blk.sz 0 (by simp [upd]) hroom (.inr (by simp)) ⟨cur',e',fr,setRow_heap w c cur cur' e' fr k1,?_⟩
           obtain ⟨vs2,e2,fr2,l1,l2⟩:=hroom'
           rw [k1] at l1; cases l1
           rw [r2]; exact l2
        ·-- it grows
         have hrg:=Zys hu htd' htd hie hz hO hn hva (by omega) q5 q6 (ty:=o.type)
         have hblk:=Zvo hC hO hn hso q3 (zs:=Builtin.zeroCells z.cells (grownCap w (blk.rows.length + news.length) cap e - (blk.rows.length + news.length))) (e:=e) (frz:=blk.frz) (ty:=tyM told.mt blk.ty e) (fun t ht=>(Zws ht).2) (by
          rcases hC.heap b blk hb with ⟨_,_,h1⟩ | ⟨c,h1,hB⟩
          ·omega
          ·have:=hB.top; omega) (β':=upd β b none)
         have hbe : ({ sz:=ie.size,rows:=blk.rows ++ news,frz:=blk.frz,pure:=true,ty:=tyM told.mt blk.ty e } : Blk) = { blk with rows:=blk.rows ++ news,pin:=none,ty:=tyM told.mt blk.ty e }:=by
          rw [← hbsz,← hpure]
         rw [hbe] at hblk
         have hbel : Below w.heap.size w (w.drew.alloc (.cells (co.toArray ++ cn.toArray ++ Builtin.zeroCells z.cells (grownCap w (blk.rows.length + news.length) cap e - (blk.rows.length + news.length))) e)):=(Zk4 w).trans (Z6r w.drew _)
         have hC1:=(hC.drop b).quiet hbel
         have hfree : ∀ b' s,upd β b none b' ≠ some (w.heap.size,s):=fun b' s hbs=>by
          unfold upd at hbs
          split at hbs
          ·cases hbs
          ·obtain ⟨k,hk⟩:=hC.dom b' _ hbs
           rcases hC.heap b' k hk with ⟨h0,-⟩ | ⟨c,h0,hB⟩
           ·rw [h0] at hbs; cases hbs
           ·rw [h0] at hbs; cases hbs; have:=hB.lt; omega
         have hC2:=hC1.name (b:=b) hnone hfree hblk
         refine Reach.of_value (hrun hrg) (hput hC2 ?_)
         refine .lsl b 0 _ _ w.heap.size blk.sz 0 (by simp [upd]) (grownCap_ge w _ cap e) (.inr (by simp)) ⟨_,e,(0,0),Z5r w.drew _,.inr ?_⟩
         have hzz : (Builtin.zeroCells z.cells (grownCap w (blk.rows.length + news.length) cap e - (blk.rows.length + news.length))).size = (grownCap w (blk.rows.length + news.length) cap e - (blk.rows.length + news.length)) * ie.size:=by rw [size_zeroCells,hcond.1]
         simp only [Array.size_append,List.size_toArray,hO.len,hn.len,hzz,hbsz,Nat.zero_add,← Nat.add_mul]
         refine Nat.mul_le_mul_right _ ?_
         have:=grownCap_ge w (blk.rows.length + news.length) cap e
         omega
       ·cases h
      ·cases h
     ·-- nil,or a slice without room
      rename_i olds hse
      rw [hse] at hs
      obtain ⟨tt,ht,hb,hlt,rfl,hqp⟩:=Z93 h
      rw [hqp] at hq
      obtain ⟨q1,q0,q2,q3,q4,q5,q6⟩:=hq
      obtain ⟨⟨cn,hn⟩,td,htd',htd⟩:=Zsx (P:=P) hu hC hx hnews q1 q3
      obtain ⟨co,hO⟩:=Zxj (P:=P) hs q2
      obtain ⟨ao,cap,hva,hcap,hcc⟩:=Zpl hs
      have hcap':=hcc rfl
      rw [← q4] at q5 q6 ⊢
      simp only [List.length_append] at q5 q6
      by_cases hm : news = []
      ·have ho0 : olds = [] :=q0.resolve_right (by simp [hm])
       subst hm ho0
       have hcn : cn = [] :=List.eq_nil_of_length_eq_zero (by simpa using hn.len)
       subst hcn
       have hfc:=hn.run w (fun _=>rfl)
       have hln:=hn.lenr w
       have hc0 : cap = 0:=by simpa using hcap'
       subst hc0
       have hr : (Builtin.append_ #[t,t'] o.type #[a.eval so,a.eval xo]).run P w = .ok (.slice ao 0 0) w:=by
        rw [hva]
        simp at hfc hln
        rcases htd with rfl | rfl <;> cases ao <;> simp [Builtin.append_,run_underlying hu,run_underlying htd',sizeOf,typeInfo,hie,hln,hfc,storeCells]
       refine Reach.of_value (hrun hr) (G':=G) (β':=β) ?_
       rw [ht]
       exact (hC.nameNil hb ⟨rfl,rfl⟩).put (fun u hu=>by cases hu; exact hlt) (.lslnil tt ao)
      ·have hpos : 0 < news.length:=List.length_pos_iff.2 hm
       have hrg:=Zys hu htd' htd hie hz hO hn hva (by omega) q5 q6 (ty:=o.type)
       have hblk:=Zvo hC hO hn q2 q3 (zs:=Builtin.zeroCells z.cells (grownCap w (olds.length + news.length) cap e - (olds.length + news.length))) (e:=e) (frz:=0) (ty:=none) (fun t ht=>by cases ht) (Nat.zero_le _) (β':=β)
       have hbel : Below w.heap.size w (w.drew.alloc (.cells (co.toArray ++ cn.toArray ++ Builtin.zeroCells z.cells (grownCap w (olds.length + news.length) cap e - (olds.length + news.length))) e)):=(Zk4 w).trans (Z6r w.drew _)
       have hC1:=hC.quiet hbel
       have hfree : ∀ b' s,β b' ≠ some (w.heap.size,s):=fun b' s hbs=>by
        obtain ⟨k,hk⟩:=hC.dom b' _ hbs
        rcases hC.heap b' k hk with ⟨h0,-⟩ | ⟨c,h0,hB⟩
        ·rw [h0] at hbs; cases hbs
        ·rw [h0] at hbs; cases hbs; have:=hB.lt; omega
       have hC2:=hC1.name (b:=tt) hb hfree hblk
       refine Reach.of_value (hrun hrg) (G':=G) (β':=upd β tt (some (w.heap.size,ie.size))) ?_
       rw [ht]
       refine hC2.put (fun u hu=>by cases hu; exact hlt) ?_
       rw [List.length_append]
       refine .lsl tt 0 _ _ w.heap.size ie.size 0 (by simp [upd]) (grownCap_ge w _ cap e) (.inr (by simp)) ⟨_,e,(0,0),Z5r w.drew _,.inr ?_⟩
       have hzz : (Builtin.zeroCells z.cells (grownCap w (olds.length + news.length) cap e - (olds.length + news.length))).size = (grownCap w (olds.length + news.length) cap e - (olds.length + news.length)) * ie.size:=by rw [size_zeroCells,hcond.1]
       simp only [Array.size_append,List.size_toArray,hO.len,hn.len,hzz,Nat.zero_add,← Nat.add_mul]
       refine Nat.mul_le_mul_right _ ?_
       have:=grownCap_ge w (olds.length + news.length) cap e
       omega
     ·cases h
  ·cases h
theorem Zm3 : ∀ {rows : List (List D)} {s : List UInt8},Z6y rows = some s → ∃ xs : List Int,rows = xs.map (fun n=>[.int .u8 n]) ∧ s = xs.map fun n=>UInt8.ofNat n.toNat
 | [],s,h=>by cases h; exact ⟨[],rfl,rfl⟩
 | r :: rows,s,h=>by
  unfold Z6y at h
  split at h
  ·rename_i heq; cases heq
  ·rename_i n r' heq
   cases heq
   split at h
   ·rename_i s' hs
    cases h
    obtain ⟨xs,rfl,rfl⟩:=Zm3 hs
    exact ⟨n :: xs,rfl,rfl⟩
   ·cases h
  ·cases h
theorem Y22 {fits : TypeId → Bool} {d : Nat} {e : TypeId} {n : Nat} {count count' off : Nat} (hle : count ≤ count') (h : rowAt P fits d e count off n = true) : rowAt P fits d e count' off n = true:=by
 cases d with
 | zero=>exact h
 | succ d=>
  unfold rowAt at h ⊢
  dsimp only at h ⊢
  split
  ·rename_i h0; rw [if_pos h0] at h; exact h
  ·rename_i h0
   rw [if_neg h0] at h
   rw [Bool.or_eq_true] at h ⊢
   rcases h with h | h
   ·left
    simp only [Bool.and_eq_true,decide_eq_true_eq] at h ⊢
    exact ⟨⟨h.1.1,by omega⟩,h.2⟩
   ·right
    rw [Bool.and_eq_true] at h ⊢
    exact ⟨by have:=of_decide_eq_true h.1; exact decide_eq_true (by omega),h.2⟩
theorem Zyn : ∀ {d : Nat} {e u : TypeId} {n : Nat} {count count' off : Nat},count ≤ count' → liesAt P d e count off u n = true → liesAt P d e count' off u n = true
 | 0,_,_,_,_,_,_,_,h=>h
 | d + 1,e,u,n,count,count',off,hle,h=>by
  unfold liesAt at h ⊢
  rw [Bool.or_eq_true] at h ⊢
  rcases h with h | h
  ·exact .inl (Y22 hle h)
  ·right
   split at h
   ·exact Zyn hle h
   ·cases h
theorem Zkw {w : World} {c : Nat} {vs : Array Value} {e : TypeId} {fr : Nat × Nat} (h : w.heap[c]? = some (.cells vs e fr)) : w.shape? c = some (e,vs.size):=by simp [World.shape?,h]
theorem Y21 (hC : Z05 Γ σ a w G β) {src dst : TypeId} {b c sz : Nat} (h : Zd9 P σ src dst b = true) (hβ : β b = some (c,sz)) :
  (convert src dst (.pointer (some ⟨c,0,none⟩))).run P w = .ok (.pointer (some ⟨c,0,none⟩)) w:=by
 unfold Zd9 at h
 split at h
 ·rename_i k hk
  obtain ⟨rfl,hB⟩:=hC.blk hk hβ
  split at h
  ·rename_i e hty
   obtain ⟨vs,fr,hh,-⟩:=hB.ty e hty
   have hroom : k.rows.length * k.sz ≤ vs.size:=by
    obtain ⟨vs',e',fr',g1,-,g3,-⟩:=hB.cells
    rw [hh] at g1; cases g1; exact g3
   split at h
   ·rename_i t hs hd
    split at h
    ·rename_i j hj
     rw [Bool.and_eq_true] at h
     refine Lib.run_to_unsafe w ⟨c,0,none⟩ hs hd hj (fun h0=>?_) (Zkw hh) ?_
     ·rw [h0] at h; exact absurd h.1 (by decide)
     ·have:=Nat.le_of_ble_eq_true h.2
      show 0 < vs.size
      omega
    ·cases h
   ·rename_i u hs hd
    split at h
    ·rename_i j hj
     simp only [Bool.and_eq_true] at h
     have h1:=Nat.le_of_ble_eq_true h.1.1
     have h2:=Nat.le_of_ble_eq_true h.1.2
     exact Lib.run_from_unsafe w ⟨c,0,none⟩ hs hd hj (Zkw hh) (Zyn ((Nat.le_div_iff_mul_le (by omega)).2 (by omega)) h.2)
    ·cases h
   ·cases h
  ·cases h
 ·cases h
theorem Zs2 (w : World) : ∀ (l : List Int) (a : Addr) (acc : ByteArray),(∀ j x,l[j]? = some x → w.cell? (a.add j) = some (.int .u8 x)) →
  (loadBytes a acc l.length).run P w = .ok ⟨acc.data ++ (l.map fun n=>UInt8.ofNat n.toNat).toArray⟩ w
 | [],a,acc,_=>by simp [loadBytes]
 | x :: l,a,acc,h=>by
  have h0 : w.cell? a = some (.int .u8 x):=by
   have:=h 0 x rfl
   simpa [Addr.add] using this
  have ih:=Zs2 w l (a.add 1) (acc.push (UInt8.ofNat x.toNat)) (fun j y hy=>by
   have:=h (j + 1) y (by simpa using hy)
   have e : (a.add 1).add j = a.add (j + 1):=by
    unfold Addr.add
    by_cases hj : j = 0
    ·subst hj; simp
    ·simp [hj]; omega
   rw [e]; exact this)
  simp only [List.length_cons,loadBytes,Sem.run_bind,run_load,h0,Result.andThen]
  rw [show x.toNat.toUInt8 = UInt8.ofNat x.toNat from rfl,ih]
  congr 1
  apply ByteArray.ext
  simp [ByteArray.push]
theorem Z05.frozen (h : Z05 Γ σ a w G β) {c n : Nat} (hc : ∀ b s,β b ≠ some (c,s)) (hown : Γ.B ≤ c ∨ Γ.X c) : Z05 Γ σ a (w.freeze ⟨c,0,none⟩ n) G β:=by
 unfold World.freeze
 split
 ·exact h
 ·generalize hw : ({ w with heap:=w.heap.modify (⟨c,0,none⟩ : Addr).block fun
   | .cells cs elem (lo,hi)=> .cells cs elem (if lo == hi then ((⟨c,0,none⟩ : Addr).off,(⟨c,0,none⟩ : Addr).off + n) else (min lo (⟨c,0,none⟩ : Addr).off,max hi ((⟨c,0,none⟩ : Addr).off + n)))
   | o=>o } : World) = w'
  have hother : ∀ k,k ≠ c → w'.heap[k]? = w.heap[k]? :=fun k hk=>by
   subst hw
   show (w.heap.modify c _)[k]? = _
   rw [Array.getElem?_modify,if_neg (fun e=>hk e.symm)]
  have hsame : ∀ vs e fr,w.heap[c]? = some (.cells vs e fr) → ∃ fr',w'.heap[c]? = some (.cells vs e fr'):=fun vs e fr hh=>by
   subst hw
   show ∃ fr',(w.heap.modify c _)[c]? = _
   rw [Array.getElem?_modify,if_pos rfl,hh]
   exact ⟨_,rfl⟩
  have hcell : ∀ b o,w'.cell? ⟨b,o,none⟩ = w.cell? ⟨b,o,none⟩:=fun b o=>by
   by_cases hb : b = c
   ·subst hb
    rw [Z4p,Z4p]
    cases hh : w.heap[b]? with
    | none=>
     have : w'.heap[b]? = none:=by
      subst hw
      show (w.heap.modify b _)[b]? = _
      rw [Array.getElem?_modify,if_pos rfl,hh]; rfl
     rw [this]
    | some x=>
     cases x with
     | cells vs e fr=>obtain ⟨fr',h2⟩:=hsame vs e fr hh; rw [h2]
     | _ =>
      have : w'.heap[b]? = w.heap[b]? :=by
       subst hw
       show (w.heap.modify b _)[b]? = _
       rw [Array.getElem?_modify,if_pos rfl,hh]; rfl
      rw [this,hh]
   ·exact Z79 (hother b hb) o
  have hs : Z56 w w':=fun k vs e fr hk=>by
   by_cases hb : k = c
   ·subst hb; obtain ⟨fr',h2⟩:=hsame vs e fr hk; exact ⟨vs,fr',h2,rfl⟩
   ·exact ⟨vs,fr,by rw [hother k hb]; exact hk,rfl⟩
  have hsz : w'.heap.size = w.heap.size:=by subst hw; simp
  have hkept : Z5a Γ.B Γ.X w w':=⟨by subst hw; rfl,by subst hw; rfl,by subst hw; rfl,by rw [hsz]; exact Nat.le_refl _,fun k hk hx=>hother k (fun e=>by subst e; exact hown.elim (fun h1=>by omega) hx),hs⟩
  refine ⟨h.defers,h.size,fun t=>(h.tmps t).mono (fun b o _=>hcell b o) (fun _=>Nat.le_refl _) (fun _ _ h=>h) hs,fun b blk hblk=>?_,h.dom,h.inj,h.kept.trans hkept,h.marks,fun k hk=>h.fresh k (by rw [← hsz]; exact hk),by rw [hsz]; exact h.big⟩
  rcases h.heap b blk hblk with h0 | ⟨k,h0,hB⟩
  ·exact .inl h0
  ·exact .inr ⟨k,h0,hB.mono (fun b o _=>hcell b o) (fun _=>Nat.le_refl _) rfl (fun _ _ h=>h) hs (hother k (fun e=>hc b blk.sz (e ▸ h0)))⟩
theorem Z05.marked (h : Z05 Γ σ a w G β) {b c : Nat} {blk : Blk} {sz : Nat} (hb : σ.heap b = some blk) (hβ : β b = some (c,sz)) {vs : Array Value} {e : TypeId} {fr : Nat × Nat} (hh : w.heap[c]? = some (.cells vs e fr)) (hle : fr.1 ≤ fr.2) :
  Z05 Γ σ a (w.freeze ⟨c,vs.size,none⟩ 1) G β:=by
 obtain ⟨rfl,hB⟩:=h.blk hb hβ
 obtain ⟨lo,hi⟩:=fr
 obtain ⟨fr',hfr',hh',hother,hos,htape,hout,hsz⟩ : ∃ fr' : Nat × Nat,(fr' = if lo == hi then (vs.size,vs.size + 1) else (min lo vs.size,max hi (vs.size + 1))) ∧ (w.freeze ⟨c,vs.size,none⟩ 1).heap[c]? = some (.cells vs e fr') ∧ (∀ k,k ≠ c → (w.freeze ⟨c,vs.size,none⟩ 1).heap[k]? = w.heap[k]?) ∧
   (w.freeze ⟨c,vs.size,none⟩ 1).os = w.os ∧ (w.freeze ⟨c,vs.size,none⟩ 1).tape = w.tape ∧ (w.freeze ⟨c,vs.size,none⟩ 1).output = w.output ∧ (w.freeze ⟨c,vs.size,none⟩ 1).heap.size = w.heap.size:=by
  unfold World.freeze
  rw [if_neg (show ¬ (1 = 0) by decide)]
  refine ⟨_,rfl,?_,fun k hk=>?_,rfl,rfl,rfl,by simp⟩
  ·show (w.heap.modify c _)[c]? = _
   rw [Array.getElem?_modify,if_pos rfl,hh]; rfl
  ·show (w.heap.modify c _)[k]? = _
   rw [Array.getElem?_modify,if_neg (fun e=>hk e.symm)]
 generalize w.freeze ⟨c,vs.size,none⟩ 1 = w' at *
 have hcell : ∀ b o,w'.cell? ⟨b,o,none⟩ = w.cell? ⟨b,o,none⟩:=fun b o=>by
  by_cases hb : b = c
  ·subst hb; rw [Z4p,Z4p,hh,hh']
  ·exact Z79 (hother b hb) o
 have hs : Z56 w w':=fun k vs2 e2 fr2 hk=>by
  by_cases hb : k = c
  ·subst hb; rw [hh] at hk; cases hk; exact ⟨_,_,hh',rfl⟩
  ·exact ⟨_,_,by rw [hother k hb]; exact hk,rfl⟩
 have hkept : Z5a Γ.B Γ.X w w':=⟨hos,htape,hout,by rw [hsz]; exact Nat.le_refl _,fun k hk hx=>hother k (fun e=>by subst e; exact hB.own.elim (fun h1=>by omega) hx),hs⟩
 refine ⟨h.defers,h.size,fun t=>(h.tmps t).mono (fun b o _=>hcell b o) (fun _=>Nat.le_refl _) (fun _ _ h=>h) hs,fun u k hu=>?_,h.dom,h.inj,h.kept.trans hkept,h.marks,fun k hk=>h.fresh k (by rw [← hsz]; exact hk),by rw [hsz]; exact h.big⟩
 rcases h.heap u k hu with h0 | ⟨c',h0,hB'⟩
 ·exact .inl h0
 ·by_cases hcc : c' = c
  ·subst hcc
   obtain ⟨own,pin,ty,frz,top,dat,hsz',vs',e',fr2,h1,h2,h3,h4⟩:=hB'
   rw [hh] at h1; cases h1
   refine .inr ⟨_,h0,own,pin,fun t ht=>?_,frz,top,dat,hsz',vs,e,fr',hh',fun o ho hcon=>?_,h3,fun i j r d hr hd=>?_⟩
   ·obtain ⟨vs3,fr3,g1,g2⟩:=ty t ht
    rw [hh] at g1; cases g1
    refine ⟨_,_,hh',?_⟩
    rw [hfr']; split <;> simp <;> omega
   ·rw [hfr'] at hcon
    have h5:=h2 o ho
    split at hcon
    ·simp at hcon; omega
    ·rename_i hne
     have hne' : lo ≠ hi:=by simpa using hne
     by_cases hl : lo < vs.size
     ·have h6:=h2 lo hl
      simp at h6 hle
      omega
     ·simp at hcon; omega
   ·obtain ⟨v,a1,a2,a3⟩:=h4 i j r d hr hd
    exact ⟨v,a1,a2,a3.mono (fun b o _=>hcell b o) (fun _=>Nat.le_refl _) (fun _ _ h=>h) hs⟩
  ·exact .inr ⟨c',h0,hB'.mono (fun b o _=>hcell b o) (fun _=>Nat.le_refl _) rfl (fun _ _ h=>h) hs (hother c' hcc)⟩
theorem Zzq (hC : Z05 Γ σ a w G β) {src dst : TypeId} {v : Value} {x : D} (h : Z9e P σ src dst x = true) (hx : Z06 w G β v x) :
  ∃ w2,(convert src dst v).run P w = .ok v w2 ∧ Z05 Γ σ a w2 G β ∧ Z06 w2 G β v x:=by
 unfold Z9e at h
 split at h
 ·rename_i b lo n
  split at h
  ·rename_i k e hk hd
   split at h
   ·rename_i hu
    simp only [Bool.and_eq_true] at h
    obtain rfl:=Nat.eq_of_beq_eq_true h.1.1
    have hn:=Nat.le_of_ble_eq_true h.1.2
    cases hx with
    | lslnil=>exact absurd hn (by simp)
    | lsl _ _ _ cap c sz off hβ hcap hoff hroom=>
     obtain ⟨rfl,hB⟩:=hC.blk hk hβ
     obtain ⟨t,ht⟩:=Option.isSome_iff_exists.1 h.2
     obtain ⟨vs,fr,hh,hle⟩:=hB.ty t ht
     refine ⟨_,?_,hC.marked hk hβ hh hle,.lsl b lo n cap c k.sz off hβ hcap hoff ?_⟩
     ·simp [convert,run_underlying hd,run_underlying hu,markStringish,Zkw hh]
     ·obtain ⟨vs',e',fr2,g1,g2⟩:=hroom
      rw [hh] at g1; cases g1
      unfold World.freeze
      rw [if_neg (show ¬ (1 = 0) by decide)]
      have : ∃ fr',(w.heap.modify c fun
        | .cells cs elem (lo,hi)=> .cells cs elem (if lo == hi then (vs.size,vs.size + 1) else (min lo vs.size,max hi (vs.size + 1)))
        | o=>o)[c]? = some (.cells vs t fr'):=by
       rw [Array.getElem?_modify,if_pos rfl,hh]; exact ⟨_,rfl⟩
      obtain ⟨fr',h3⟩:=this
      exact ⟨vs,t,fr',h3,g2⟩
   ·cases h
  ·cases h
 ·cases h
theorem Y4a (hC : Z05 Γ σ a w G β) {o : Oper} {x n : Operand} {pt it : TypeId} (ho : o.op = .call { callee:= .builtin .unsafeString,args:=#[x,n],argTypes:=#[pt,it] }) {told : Z1j} {σ' : S} {q : Prop}
  (h : unsD P σ o pt (σ.ev x) (σ.ev n) told = some (σ',q)) (hq : q) : Reach P Γ o a w σ':=by
 have hx:=Z3d hC x
 have hn:=Z3d hC n
 unfold unsD at h
 split at h
 ·rename_i b m hxe hne
  rw [hxe] at hx
  rw [hne] at hn
  split at h
  ·rename_i k e s hk hpt hans
   split at h
   ·rename_i hc
    cases h
    obtain ⟨q1,rfl,q3,q4⟩:=hq
    simp only [Bool.and_eq_true] at hc
    have hsz:=Nat.eq_of_beq_eq_true hc.1.1.1
    have hce:=Nat.eq_of_beq_eq_true hc.1.1.2
    have hty : k.ty = some e:=by
     have:=hc.1.2
     unfold tyIs at this
     split at this
     ·rename_i t ht; rw [ht,Nat.eq_of_beq_eq_true this]
     ·cases this
    obtain ⟨xs,hrows,rfl⟩:=Zm3 q1
    obtain ⟨c,sz,hv,hβ⟩ : ∃ c sz,a.eval x = .pointer (some ⟨c,0,none⟩) ∧ β b = some (c,sz):=by
     generalize a.eval x = u at hx
     cases hx with
     | lptr _ _ _ c sz hβ=>exact ⟨c,sz,by simp,hβ⟩
    obtain ⟨rfl,hB⟩:=hC.blk hk hβ
    obtain ⟨vs,fr,hh,-⟩:=hB.ty e hty
    obtain ⟨vs',e',fr',g1,-,g3,g4⟩:=hB.cells
    rw [hh] at g1; cases g1
    have hlen : xs.length ≤ vs.size:=by rw [hrows,hsz] at g3; simpa using g3
    have hcell : ∀ j y,xs[j]? = some y → w.cell? ((⟨c,0,none⟩ : Addr).add j) = some (.int .u8 y):=fun j y hy=>by
     obtain ⟨v,a1,a2,a3⟩:=g4 j 0 [.int .u8 y] (.int .u8 y) (by rw [hrows]; simp [hy]) rfl
     rw [Z46 a3] at a1
     rw [Addr.add_none,Nat.zero_add,Z4p,hh]
     rw [hsz] at a1
     simpa using a1
    have hl0 : xs.length ≠ 0:=by intro h0; apply q3; rw [List.eq_nil_of_length_eq_zero h0]; rfl
    have hlb:=Zs2 (P:=P) w xs ⟨c,0,none⟩ .empty hcell
    have hlies:=Lib.liesAt_bytes (P:=P) hce (vs.size / P.cellsOf e) xs.length (by rw [hce]; simpa using hlen)
    have hsh:=Zkw hh
    have h63 : xs.length ≤ 9223372036854775807:=by simpa using q4
    have hrun : (Builtin.unsafeString_ #[pt,it] o.type #[.pointer (some ⟨c,0,none⟩),.int .i64 (xs.length : Int)]).run P w = .ok (.string ⟨(xs.map fun n=>UInt8.ofNat n.toNat).toArray⟩) (w.freeze ⟨c,0,none⟩ xs.length):=by
     have hdef : Builtin.unsafeString_ #[pt,it] o.type #[.pointer (some ⟨c,0,none⟩),.int .i64 (xs.length : Int)] =
      (do
       let n ← asInt (.int .i64 (xs.length : Int))
       if n < 0 then runtimePanic (.error "unsafe.String: len out of range")
       if n > IntKind.i64.max then unsupported (.unsafePointer "String: a length above the largest int")
       if n = 0 then pure (.string .empty)
       else if ← variablesAt ⟨c,0,none⟩ (← elemOf pt) n.toNat then do
        let s ← loadBytes ⟨c,0,none⟩ .empty n.toNat
        freeze ⟨c,0,none⟩ n.toNat
        pure (.string s)
       else unsupported (.unsafePointer "String: not so many bytes at ptr")) := rfl
     rw [hdef]
     have hmax : IntKind.i64.max = 9223372036854775807:=rfl
     have h63' : ¬ (9223372036854775807 : Int) < (xs.length : Int):=by omega
     have hneg : ¬ (xs.length : Int) < 0:=by omega
     simp [asInt,asIntOf,hmax,h63',hneg,hl0,variablesAt,hsh,elemOf,run_underlying hpt,hlies,hlb]
    have hfree : ∀ b' s,upd β b none b' ≠ some (c,s):=fun b' s hbs=>by
     unfold upd at hbs
     split at hbs
     ·cases hbs
     ·rename_i hne; exact hne (hC.inj b' b c s k.sz hbs hβ)
    have hC1:=((hC.drop b).frozen (n:=xs.length) hfree hB.own).nameNil (b:=b) (blk:={ sz:=1,rows:=[],frz:=0,pure:=true }) (by simp [S.drop]) ⟨rfl,rfl⟩
    refine Reach.of_value (v:= .string ⟨(xs.map fun n=>UInt8.ofNat n.toNat).toArray⟩) ?_ (hC1.put (Z59 hc.2) (Zd5 _ _ (by simp)))
    have hn' : a.eval n = .int .i64 (xs.length : Int):=by rw [Z46 hn]; simp
    simp [execOp,ho,resolve,invoke,builtin,hv,hn',hrun]
   ·cases h
  ·cases h
 ·cases h
theorem Y1b (hC : Z05 Γ σ a w G β) {o : Oper} {src dst : TypeId} {x : Operand} (ho : o.op = .convert src dst x) {told : Z1j} {σ' : S} {q : Prop} (h : Z9g P σ o src dst (σ.ev x) told = some (σ',q)) (hq : q) : Reach P Γ o a w σ':=by
 have hx:=Z3d hC x
 unfold Z9g at h
 split at h
 ·rename_i b hxe
  split at h
  ·rename_i hc
   cases h
   rw [Bool.and_eq_true] at hc
   rw [hxe] at hx
   obtain ⟨c,sz,hv,hβ⟩ : ∃ c sz,a.eval x = .pointer (some ⟨c,0,none⟩) ∧ β b = some (c,sz):=by
    generalize a.eval x = u at hx
    cases hx with
    | lptr _ _ _ c sz hβ=>exact ⟨c,sz,by simp,hβ⟩
   have hrun : (convert src dst (.pointer (some ⟨c,0,none⟩))).run P w = .ok (.pointer (some ⟨c,0,none⟩)) w:=Y21 hC hc.1 hβ
   exact Reach.of_value (v:=a.eval x) (by simp only [execOp,ho]; rw [hv]; exact Za2 hrun) (hC.put (Z59 hc.2) hx)
  ·cases h
 split at h
 ·rename_i hc
  cases h
  rw [Bool.and_eq_true] at hc
  obtain ⟨w2,hrun,hC2,hv2⟩:=Zzq (P:=P) hC hc.1 hx
  exact Reach.of_value (v:=a.eval x) (by simp only [execOp,ho]; exact Za2 hrun) (hC2.put (Z59 hc.2) hv2)
 split at h
 ·rename_i e hd he
  split at h
  ·rename_i hu hsz
   split at h
   ·rename_i rows q0 s hr ht hdst
    cases h
    obtain ⟨q1,q2⟩:=hq
    obtain ⟨xs,rfl,rfl⟩:=Zm3 q2
    obtain ⟨cells,hc⟩:=Zzb (P:=P) hC hx hr q1 (size:=1) (fun r hr=>by
     obtain ⟨n,_,rfl⟩:=List.mem_map.1 hr; rfl)
    obtain ⟨a0,cap,hv,-⟩:=hc.shape
    have hcells : cells = xs.map (Value.int .u8):=by
     apply List.ext_getElem?
     intro j
     by_cases hj : j < xs.length
     ·obtain ⟨u,h1,h2,-⟩:=hc.rep j 0 [.int .u8 xs[j]] (.int .u8 xs[j]) (by simp [hj]) rfl
      have:=Z46 h2
      subst this
      simp only [Nat.mul_one,Nat.add_zero] at h1
      rw [h1]; simp [hj]
     ·rw [List.getElem?_eq_none (by rw [hc.len]; simp; omega),List.getElem?_eq_none (by simp; omega)]
    have hrun:=hc.run w (fun _=>rfl)
    rw [hcells] at hrun
    have hconv : (convert src dst (a.eval x)).run P w = .ok (.string (strOfNums xs)) w:=by
     rw [hv] at hrun ⊢
     cases a0 with
     | none=>
      rw [run_convert_bytes_nil w src e (Zd8 he) hu _ _ dst hd]
      have hx0 : xs = [] :=by
       simp [Builtin.firstCells] at hrun
       exact hrun
      subst hx0
      rfl
     | some ad=>
      simp only [Builtin.firstCells,Nat.mul_one,List.length_map] at hrun
      rw [run_convert_bytes_string w src dst e _ _ _ (Zd8 he) hu hd,run_bytesToString w ad _ cap xs (by simpa using hrun),foldl_push_bytes]
      simp [strOfNums,ByteArray.empty,ByteArray.emptyWithCapacity]
      rfl
    exact Reach.of_value (by simp only [execOp,ho]; exact Za2 hconv) (hC.put (Z59 hdst) (Zd5 _ _ (strOfNums_data xs)))
   ·cases h
  ·cases h
 ·cases h
theorem Y3u (hC : Z05 Γ σ a w G β) {o : Oper} {told : Z1j} {σ' : S} {q : Prop} (h : Z3g P σ o told = some (σ',q)) (hq : q) : Reach P Γ o a w σ':=by
 have h0:=h
 unfold Z3g at h
 split at h
 ·rename_i e ho
  split at h
  ·rename_i cs hz
   obtain ⟨i,v,hi,hv,z1,z2,z3⟩:=Zfp hz
   have hrun : (execOp a.eval o).run P w = .ok (.value (.pointer (some ⟨w.heap.size,0,none⟩))) (w.alloc (.cells v.cells e)):=by
    simp [execOp,ho,Instr.alloc,zeroValue,typeInfo,hi,hv,newVar,newRow]
   obtain ⟨-,-,-,-,-,hqp⟩:=Z93 h
   exact Reach.box hC (q:=q) (by rw [h]) hrun (fun t ht=>by unfold tyR at ht; split at ht <;> cases ht; rfl) z1 z2 (z3 w G β)
  ·cases h
 ·rename_i e x ho
  split at h
  ·rename_i cs hcs
   obtain ⟨c1,c2,c3⟩:=Zph (Z3d hC x) hcs
   have hrun : (execOp a.eval o).run P w = .ok (.value (.pointer (some ⟨w.heap.size,0,none⟩))) (w.alloc (.cells (a.eval x).cells e)):=by
    simp [execOp,ho,Instr.box,newVar,newRow]
   split at h
   ·split at h
    ·rename_i hall hdst
     cases h
     exact Reach.boxRo hC (Z59 hdst) hall hrun c1 c2 c3
    ·cases h
   ·exact Reach.box hC (q:=q) (by rw [h]) hrun (fun t ht=>by cases ht) c1 c2 c3
  ·cases h
 ·rename_i t parts ho
  split at h
  ·rename_i z pl hz hp
   split at h
   ·rename_i cs hf
    split at h
    ·rename_i hdst
     cases h
     obtain ⟨vs,h1,h2⟩:=Y3g (P:=P) hC hz hp hf
     exact Reach.of_value (v:= .agg vs) (by simp only [execOp,ho]; exact Za2 h1) (hC.put (Z59 hdst) (.agg vs cs h2.1 h2.2.1 h2.2.2))
    ·cases h
   ·cases h
  ·cases h
 ·rename_i t len parts ho; exact Y42 hC ho h0 hq
 ·rename_i t l c ho; exact Y2c hC ho h0 hq
 ·rename_i src dst x ho; exact Y1b hC ho h hq
 ·rename_i t x v ho; exact Y1s hC ho h hq
 ·rename_i f args ts ho
  split at h
  ·rename_i f' hf
   split at h
   ·exact Y2x hC ho hf h hq
   ·exact Zzz hC ho hf h hq
  ·cases h
 ·rename_i args ts ho
  split at h
  ·rename_i s x t t'
   exact Y3t hC ho rfl rfl h hq
  ·cases h
 ·rename_i args ts ho
  split at h
  ·exact Y4a hC ho h hq
  ·cases h
 ·cases h
theorem Zzt (hC : Z05 Γ σ a w G β) {o : Oper} {told : Z1j} {σ' : S} {q : Prop} (h : Z2k P σ o told = some (σ',q)) (hq : q) : Reach P Γ o a w σ':=by
 unfold Z2k at h
 split at h
 ·rename_i d p hp
  split at h
  ·rename_i hdst
   cases h
   obtain ⟨v,h1,h2⟩:=Y23 hC hp hq
   exact Reach.of_value h1 (hC.put (Z59 hdst) h2)
  ·cases h
 ·exact Y3u hC h hq
end Go.Den
