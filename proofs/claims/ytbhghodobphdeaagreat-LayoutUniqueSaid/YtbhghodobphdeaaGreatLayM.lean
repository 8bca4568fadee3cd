/-
  layout.InstanceSlots, walked by hand. No condition.
-/
import Derived.RegionIn
import Derived.Shelf.RegionOpen
import Derived.Test.YtbhghodobphdeaaGreatDenClaim
import Derived.Test.YtbhghodobphdeaaGreatLay5
set_option linter.unusedVariables false
namespace Go.Proofs
open Tryz
open Go.RowKit Go.Shelf Go.Den
attribute [local go_sem] Oper.semAt_some
theorem Zsc {w w':World} {G:Nat→Nat} (hG:∀ c,w.heap.size≤c→G c=0) (hb:Below w.heap.size w w') {v:Value} {d:D} (h:Z03 w G (fun _=>none) v d):Z03 w' G (fun _=>none) v d:=by
 have hlt:∀ b o,o<G b→b<w.heap.size:=fun b o ho=>by
  rcases Nat.lt_or_ge b w.heap.size with h'|h'
  ·exact h'
  ·rw [hG b h'] at ho; omega
 exact h.mono (fun b o ho=>Z5v (hb.block b (hlt b o ho)) o) (fun _=>Nat.le_refl _) (fun _ _ h=>h) (Zdm hb)
theorem ints_at {w:World} {G:Nat→Nat} (hG:∀ c,w.heap.size≤c→G c=0) {v:Value} {zs:List Int} (h:Z03 w G (fun _=>none) v (.sl false (zs.map fun n=>[D.int .i64 n]))):(∃ a len cap,v=.slice a len cap)∧Zqk (fun b=>b<w.heap.size∧0<G b) w v zs:=by
 generalize hd:D.sl false (zs.map fun n=>[D.int .i64 n])=d at h
 cases h with
 | slnil c x=>
  injection hd with _ h2
  have:zs=[] :=by simpa using h2
  exact ⟨⟨_,_,_,rfl⟩,.inl ⟨x,_,rfl,this⟩⟩
 | sl c b off n cap sz rows val hn hcc hcap hsz himm hcell hone hdat hrep=>
  injection hd with _ h2
  subst h2
  rw [List.length_map] at hn
  subst hn
  refine ⟨⟨_,_,_,rfl⟩,?_⟩
  rcases Nat.eq_zero_or_pos zs.length with h0|hpos
  ·have:zs=[] :=List.eq_nil_of_length_eq_zero h0
   subst this
   exact .inl ⟨_,_,rfl,rfl⟩
  ·have hs1:sz=1:=by
    have:=hsz 0 [D.int .i64 zs[0]] (by rw [List.getElem?_map,List.getElem?_eq_getElem hpos]; rfl)
    simpa using this.symm
   subst hs1
   have hgb:0<G b:=by have:=himm 0 0 hpos (by decide); omega
   have hb:b<w.heap.size:=by
    rcases Nat.lt_or_ge b w.heap.size with h'|h'
    ·exact h'
    ·rw [hG b h'] at hgb; omega
   refine .inr ⟨b,off,cap,rfl,⟨hb,hgb⟩,fun j hj=>?_⟩
   have h1:=hcell j 0 hj (by decide)
   have h2:=Z3b (hrep j 0 [D.int .i64 zs[j]] (.int .i64 zs[j]) (by rw [List.getElem?_map,List.getElem?_eq_getElem hj]; rfl) rfl)
   rw [h2] at h1
   rw [Nat.mul_one,Nat.add_zero] at h1
   rw [h1,List.getElem?_eq_getElem hj]
   rfl
 | _=>cases hd
theorem info54:(prog.info? 54).map (fun i=>(i.zero,i.size,i.bytes))=some (some (.agg #[.int .i64 0,.int .i64 0]),2,16):=by kernel_rfl
def ov (x0:Z0c) (c:Int):Option (List Z19):=(Zf9 x0 c false).bind fun r=>if r.length≤1000 then some r else none
def ovs (x0:Z0c):List Int→Option (List Z19)
 | [] =>some []
 | c::l=>(ov x0 c).bind fun a=>(ovs x0 l).bind fun b=>some (a++b)
def Z9u (x0:Z0c) (x1:Int):Option (List Z19):=
 (Zgj x0 x1).bind fun ch=>if ch.length≤1000 then ovs x0 ch.reverse else none
def R12 (y0:List Z19):D:= .sl false (y0.map Z2f)
abbrev CO (x0:Z0c):={ x:Int×List Z19 // ov x0 x.1=some x.2 }
theorem Zt6 (x0:Z0c):∀ (l:List Int) (r:List Z19),ovs x0 l=some r→∃ its:List (CO x0),its.map (·.1.1)=l∧(its.map (·.1.2)).flatten=r
 | [],r,h=>by cases h; exact ⟨[],rfl,rfl⟩
 | c::l,r,h=>by
  unfold ovs at h
  obtain ⟨a,ha,h⟩:=Option.bind_eq_some_iff.1 h
  obtain ⟨b,hb,h⟩:=Option.bind_eq_some_iff.1 h
  cases h
  obtain ⟨its,h1,h2⟩:=Zt6 x0 l b hb
  exact ⟨⟨(c,a),ha⟩::its,by simp [h1],by simp [h2]⟩
def Z3f (l:List Z19):List Value:=l.flatMap fun x=>[.int .i64 x.Z0k,.int .i64 x.Z0x]
theorem Zo1 (a b:List Z19):Z3f (a++b)=Z3f a++Z3f b:=by simp [Z3f]
theorem Zyu (l:List Z19):(Z3f l).length=l.length*2:=by
 induction l with
 | nil=>rfl
 | cons x l ih=>rw [show x::l=[x]++l from rfl,Zo1,List.length_append,ih]; simp [Z3f]; omega
def Z3i {x0:Z0c} (l:List (Int×CO x0)):List Z19:=(l.map fun x=>x.2.1.2).flatten
theorem slot_sz (l:List Z19) (i:Nat) (r:List D) (h:(l.map Z2f)[i]?=some r):r.length=2:=by
 rw [List.getElem?_map] at h
 obtain ⟨x,_,rfl⟩:=Option.map_eq_some_iff.1 h
 rfl
theorem Zoa:∀ (l:List Z19) (i:Nat) (x:Z19),l[i]?=some x→(Z3f l)[i*2]?=some (.int .i64 x.Z0k)∧(Z3f l)[i*2+1]?=some (.int .i64 x.Z0x)
 | [],i,x,h=>by simp at h
 | y::l,0,x,h=>by simp at h; subst h; exact ⟨rfl,rfl⟩
 | y::l,i+1,x,h=>by
  have:=Zoa l i x (by simpa using h)
  rw [show y::l=[y]++l from rfl,Zo1]
  rw [List.getElem?_append_right (by simp [Z3f]; omega),List.getElem?_append_right (by simp [Z3f]; omega)]
  rw [show (i+1)*2 - (Z3f [y]).length=i*2 by simp [Z3f]; omega,show (i+1)*2+1 - (Z3f [y]).length=i*2+1 by simp [Z3f]; omega]
  exact this
theorem Y4j (l:List Z19) (i j:Nat) (r:List D) (d:D) (h:(l.map Z2f)[i]?=some r) (hd:r[j]?=some d):∃ u,(Z3f l)[i*2+j]?=some u∧one u=true∧d.dat=true∧∀ w G,Z03 w G (fun _=>none) u d:=by
 rw [List.getElem?_map] at h
 obtain ⟨x,hx,rfl⟩:=Option.map_eq_some_iff.1 h
 obtain ⟨h1,h2⟩:=Zoa l i x hx
 match j,hd with
 | 0,hd=>cases hd; exact ⟨_,h1,rfl,rfl,fun _ _=> .int _ _⟩
 | 1,hd=>cases hd; exact ⟨_,h2,rfl,rfl,fun _ _=> .int _ _⟩
 | j+2,hd=>cases hd
theorem Zhf {w:World} {G:Nat→Nat} {v:Value} {l:List Z19} (h:Z03 w G (fun _=>none) v (.sl false (l.map Z2f))):Zyv w 2 v l.length (Z3f l):=by
 generalize hd:D.sl false (l.map Z2f)=d at h
 cases h with
 | slnil c x=>
  injection hd with _ h2
  have:l=[] :=by simpa using h2
  subst this
  exact .inl ⟨x,rfl,rfl,rfl⟩
 | sl c b off n cap sz rows val hn hcc hcap hsz himm hcell hone hdat hrep=>
  injection hd with _ h2
  subst h2
  rw [List.length_map] at hn
  subst hn
  refine .inr ⟨⟨b,off,none⟩,cap,rfl,Zyu l,fun j u hj=>?_,fun u hu=>?_⟩
  ·have hlt:j<l.length*2:=by rw [← Zyu]; exact (List.getElem?_eq_some_iff.1 hj).1
   have hi:j / 2<l.length:=by omega
   have hr:(l.map Z2f)[j / 2]?=some (Z2f l[j / 2]):=by rw [List.getElem?_map,List.getElem?_eq_getElem hi]; rfl
   have hs2:sz=2:=(hsz _ _ hr).symm
   subst hs2
   obtain ⟨g1,g2⟩:=Zoa l (j / 2) l[j / 2] (List.getElem?_eq_getElem hi)
   have hc:=hcell (j / 2) (j % 2) hi (by omega)
   rw [Addr.add_none]
   rw [show off+j / 2*2+j % 2=off+j by omega] at hc
   rw [hc]
   rcases Nat.mod_two_eq_zero_or_one j with h0|h0
   ·have:=Z3b (hrep (j / 2) 0 _ (.int .i64 l[j / 2].Z0k) hr rfl)
    rw [h0,this]
    rw [show j / 2*2=j by omega,hj] at g1
    exact g1.symm
   ·have:=Z3b (hrep (j / 2) 1 _ (.int .i64 l[j / 2].Z0x) hr rfl)
    rw [h0,this]
    rw [show j / 2*2+1=j by omega,hj] at g2
    exact g2.symm
  ·obtain ⟨y,_,hy⟩:=List.mem_flatMap.1 hu
   simp at hy
   rcases hy with rfl|rfl <;> rfl
 | _=>cases hd
theorem Zxk {x0:Z0c} (y:CO x0):y.1.2.length≤1000:=by
 have h:=y.2
 unfold ov at h
 obtain ⟨r,_,h⟩:=Option.bind_eq_some_iff.1 h
 split at h
 ·cases h; assumption
 ·cases h
theorem Zzk {x0:Z0c} (l:List (Int×CO x0)) (x:Int×CO x0):Z3i (l++[x])=Z3i l++x.2.1.2:=by simp [Z3i]
theorem Y1j {x0:Z0c} (l:List (Int×CO x0)):(Z3i l).length≤1000*l.length:=by
 induction l with
 | nil=>simp [Z3i]
 | cons x l ih=>
  have:=Zxk x.2
  have h:Z3i (x::l)=x.2.1.2++Z3i l:=by simp [Z3i]
  rw [h,List.length_append,List.length_cons]
  omega
theorem Y1i {x0:Z0c} {w W1 W w3 w4:World} {cs:Array Value} {qa ra:Option Addr} {ql qc rl rc:Nat} {pre:List (Int×CO x0)} {x:Int×CO x0} (hL:w.heap.size+1<W1.heap.size) (hw4:W.heap[w.heap.size]?=some (.cells cs 27 (0,0))) (hB:Below w.heap.size w W) (hN:W1.heap.size≤W.heap.size) (hbw3:Below W.heap.size W w3)
  (hrow3:w3.ownsRow W1.heap.size 54 2 (.slice qa ql qc) (Z3i pre).length (Z3f (Z3i pre))) (hv4:Boxed w4 (w.heap.size+1) 31 (.slice qa ql qc)) (hown':w4.ownsRow W1.heap.size 54 2 (.slice ra rl rc) ((Z3i pre).length+x.2.1.2.length) (Z3f (Z3i pre)++Z3f x.2.1.2)) (hgrow:w3.grownBy w4 (Value.slice qa ql qc).ownBlock):
  KeepsFrom W1.heap.size W (w4.setCell ⟨w.heap.size+1,0,none⟩ (.slice ra rl rc))∧KpX W1.heap.size (w.heap.size+1) W (w4.setCell ⟨w.heap.size+1,0,none⟩ (.slice ra rl rc))∧
   (∃ v,Boxed (w4.setCell ⟨w.heap.size+1,0,none⟩ (.slice ra rl rc)) (w.heap.size+1) 31 v∧(w4.setCell ⟨w.heap.size+1,0,none⟩ (.slice ra rl rc)).ownsRow W1.heap.size 54 2 v (Z3i (pre++[x])).length (Z3f (Z3i (pre++[x])))∧True)∧
   ((w4.setCell ⟨w.heap.size+1,0,none⟩ (.slice ra rl rc)).heap[w.heap.size]?=some (.cells cs 27 (0,0))∧Below w.heap.size w (w4.setCell ⟨w.heap.size+1,0,none⟩ (.slice ra rl rc)))∧W1.heap.size≤(w4.setCell ⟨w.heap.size+1,0,none⟩ (.slice ra rl rc)).heap.size:=by
 have blk:∀ k,k<W.heap.size→k≠w.heap.size+1→(∀ r,(Value.slice qa ql qc).ownBlock=some r→k≠r)→(w4.setCell ⟨w.heap.size+1,0,none⟩ (.slice ra rl rc)).heap[k]?=W.heap[k]? :=fun k hk hkL hr=>
  (Below.heap_setCell _ _ _ k hkL).trans ((hgrow.block k (Nat.lt_of_lt_of_le hk hbw3.size) (fun e=>hr k e.symm rfl)).trans (hbw3.block k hk))
 have hkp:KpX W1.heap.size (w.heap.size+1) W (w4.setCell ⟨w.heap.size+1,0,none⟩ (.slice ra rl rc)):=fun k hk hkL=>
  blk k (Nat.lt_of_lt_of_le hk hN) hkL fun r hr=>by have:=(Zjp hrow3 hr).1; omega
 have hsz:w4.heap.size≤(w4.setCell ⟨w.heap.size+1,0,none⟩ (.slice ra rl rc)).heap.size:=(grownBy_setCell' w4 (w.heap.size+1) _).size
 have hs4:W.heap.size≤w4.heap.size:=Nat.le_trans hbw3.size hgrow.size
 refine ⟨⟨Nat.le_trans hs4 hsz,fun k o hk h0 ho=>?_⟩,hkp,⟨_,hv4.set _,?_,trivial⟩,⟨(hkp _ (by omega) (by omega)).trans hw4,?_⟩,Nat.le_trans (Nat.le_trans hN hs4) hsz⟩
 ·have hlt:=(Array.getElem?_eq_some_iff.1 h0).1
  refine (blk k hlt (by omega) fun r hr e=>?_).trans h0
  subst e
  obtain ⟨_,cur,h1⟩:=Zjp hrow3 hr
  rw [hbw3.block _ hlt,h0] at h1
  cases h1
  cases ho
 ·rw [Zzk,Zo1,List.length_append]
  refine hown'.kept (grownBy_setCell' w4 (w.heap.size+1) _) ?_
  cases e:(Value.slice ra rl rc).ownBlock with
  | none=>exact .inl rfl
  | some r=>
   refine .inr fun e'=>?_
   have:=(Zjp hown' e).1
   cases e'
   omega
 ·exact ((hB.trans (hbw3.mono hB.size)).grown hgrow (Nat.le_trans hB.size hbw3.size) (fun k e=>by have:=(Zjp hrow3 e).1; omega)).setCell (p:=⟨w.heap.size+1,0,none⟩) (by dsimp only; omega) _
set_option maxHeartbeats 2000000 in
theorem Y27 {x0:Z0c} (x1:Int) {ch:List Int} {r34:D} (hr34:r34=.sl false (ch.map fun n=>[D.int .i64 n])) (hS:Z08 prog 34 [.agg (Z1d x0),.int .i64 x1] r34)
  (hO:∀ y:CO x0,Z08 prog 36 [.agg (Z1d x0),.int .i64 y.1.1,.bool false] (.sl false (y.1.2.map Z2f)))
  (hch:ch.length≤1000) (its:List (CO x0)) (hits:its.map (·.1.1)=ch.reverse) {rs:List Z19} (hrs:(its.map (·.1.2)).flatten=rs) (w:World) (G:Nat→Nat) (hG:∀ c,w.heap.size≤c→G c=0) (a b c d:Value) (hv:Z03 w G (fun _=>none) (.agg #[a,b,c,d]) (.agg (Z1d x0)))
  (R:Ending→World→Prop) (hR:∀ v w' G',Below w.heap.size w w'→(∀ c,c<w.heap.size→G' c=G c)→(∀ c,w'.heap.size≤c→G' c=0)→Z03 w' G' (fun _=>none) v (.sl false (rs.map Z2f))→R (.returned v) w'):
  Calls prog 12 #[.agg #[a,b,c,d],.int .i64 x1] w R:=by
 refine (callsIn_wide (n:=12)).1 ?_
 refine callsIn_of_wp_marks func12 rfl trivial ?_ rfl
 simp only [Tryz.ntmps12,List.size_toArray,List.length_cons,List.length_nil,Nat.reduceAdd,Nat.reduceSub,Array.replicate_succ,Array.replicate_zero,List.push_toArray,List.append_toArray,List.nil_append,List.cons_append]
 have hB0:Below w.heap.size w ((w.alloc (.cells #[a,b,c,d] 27)).alloc (.cells #[.slice none 0 0] 31)):=((Below.refl _ w).alloc (Nat.le_refl _) _).alloc (by simp) _
 have hG0:∀ c',((w.alloc (.cells #[a,b,c,d] 27)).alloc (.cells #[.slice none 0 0] 31)).heap.size≤c'→G c'=0:=fun c' hc'=>hG c' (by simp at hc'; omega)
 have hA0:Z5n ((w.alloc (.cells #[a,b,c,d] 27)).alloc (.cells #[.slice none 0 0] 31)) G #[.agg #[a,b,c,d],.int .i64 x1] [.agg (Z1d x0),.int .i64 x1] :=
  .cons (Zsc hG hB0 hv) (.cons (.int _ _) .nil)
 gi_wp2_with (refine ⟨trivial,?_⟩; gi_at_call 34; refine (callsIn_wide.2 (hS.2 _ G _ hG0 hA0)).mono ?_; rintro e w1 ⟨v1,G1,rfl,hb1,hg1,hz1,hr1⟩)
 subst hr34
 obtain ⟨⟨pa,pl,pc,rfl⟩,hI⟩:=ints_at hz1 hr1
 refine ⟨trivial,?_⟩
 refine (back_in Fence.wide 11 trivial rfl _ _ _ w1).mono ?_
 rintro e w2 ⟨rfl,rfl⟩
 gi_wp2
 have hs0:((w.alloc (.cells #[a,b,c,d] 27)).alloc (.cells #[.slice none 0 0] 31)).heap.size=w.heap.size+2:=by simp
 have hs1:w.heap.size+2≤w1.heap.size:=by have:=hb1.size; rw [hs0] at this; exact this
 obtain ⟨W1,hW1⟩:∃ W1,w1.alloc (.cells #[.slice pa pl pc] 50)=W1:=⟨_,rfl⟩
 rw [hW1]
 have hsz:W1.heap.size=w1.heap.size+1:=by rw [← hW1]; simp
 have bl:Boxed W1 (w.heap.size+1) 31 (.slice none 0 0):=by
  have h1:=Boxed.new (w.alloc (.cells #[a,b,c,d] 27)) 31 (.slice none 0 0)
  rw [World.size_alloc] at h1
  rw [← hW1]
  exact (Below.heap_alloc _ _ _ (by omega)).trans ((hb1.block _ (by rw [hs0]; omega)).trans h1)
 have bw:W1.heap[w.heap.size]?=some (.cells #[a,b,c,d] 27 (0,0)):=by
  rw [← hW1]
  exact (Below.heap_alloc _ _ _ (by omega)).trans ((hb1.block _ (by rw [hs0]; omega)).trans ((Below.heap_alloc _ _ _ (by simp)).trans (World.alloc_heap_new w _)))
 have hBW:Below w.heap.size w W1:=by
  rw [← hW1]
  exact (hB0.trans (hb1.mono (by rw [hs0]; omega))).alloc (by omega) _
 have hits':its.length=ch.length:=by have:=congrArg List.length hits; simpa using this
 obtain ⟨jts,hjts⟩:∃ jts:List (Int×CO x0),jts=its.zipIdx.map fun (y,k)=>(((ch.length - 1 - k:Nat):Int),y):=⟨_,rfl⟩
 have hl:jts.length=ch.length:=by rw [hjts]; simp [hits']
 have hz:∀ k (x:Int×CO x0),k<ch.length→jts[k]?=some x→(fun x:Int×CO x0=>#[Value.int .i64 x.1,Value.int .i64 x.2.1.1]) x= #[.int .i64 ((ch.length - 1 - k:Nat):Int),.int .i64 (ch[ch.length - 1 - k]?.getD 0)] :=by
  intro k x hk hx
  obtain ⟨y,hy⟩:∃ y,its[k]?=some y:=⟨_,List.getElem?_eq_getElem (by omega)⟩
  rw [hjts,List.getElem?_map,List.getElem?_zipIdx,hy] at hx
  simp only [Option.map_some,Option.some.injEq,Nat.zero_add] at hx
  subst hx
  have h1:ch.reverse[k]?=some y.1.1:=by rw [← hits,List.getElem?_map,hy]; rfl
  rw [List.getElem?_reverse hk] at h1
  rw [h1]
  rfl
 have hjacc:Z3i jts=rs:=by
  rw [← hrs,hjts]
  unfold Z3i
  rw [List.map_map]
  congr 1
  apply List.ext_getElem?
  intro i
  rw [List.getElem?_map,List.getElem?_map,List.getElem?_zipIdx]
  cases its[i]? <;> rfl
 refine wpIn_rangeFunc_ownG rfl (by decide) (gf:=57) (lb:=#[.pointer (some ⟨w1.heap.size,0,none⟩)]) rfl trivial (enters_of func57 (by kernel_rfl) rfl)
  (Y33 (fun x:Int×CO x0=>#[Value.int .i64 x.1,Value.int .i64 x.2.1.1]) Fence.wide 11 trivial rfl (by decide) W1.heap.size (w.heap.size+1) w1.heap.size (.slice pa pl pc) ch jts hl hz (by omega) W1 (by omega) (by omega) (by omega) ?hcell ?hints)
  (fun h k i h1 h2=>(k i h1 h2).trans (h i h1 h2)) ?hKb (Below.refl _ _) (fun _=>rfl)
  (fun pre W=>(∃ v,Boxed W (w.heap.size+1) 31 v∧W.ownsRow W1.heap.size 54 2 v (Z3i pre).length (Z3f (Z3i pre))∧True)∧(W.heap[w.heap.size]?=some (.cells #[a,b,c,d] 27 (0,0))∧Below w.heap.size w W)∧W1.heap.size≤W.heap.size)
  (fun _ _ _=>False) ?hI (fun _ _ _ _ _ hs _ _=>hs) ?h0
  (fun x=>{ tmps:=#[.agg #[a,b,c,d],.int .i64 x1,.pointer (some ⟨w.heap.size,0,none⟩),undef,.slice none 0 0,.pointer (some ⟨w.heap.size+1,0,none⟩),.slice pa pl pc,undef,.int .i64 x.2.1.1,.agg #[a,b,c,d],.int .i64 x1,.slice pa pl pc,.slice pa pl pc,.func (.func 57) #[] #[.pointer (some ⟨w1.heap.size,0,none⟩)],.int .i64 x.1,.int .i64 x.2.1.1,undef,undef,undef,undef,undef,undef],defers:=[] }) ?assign ?body ?done ?stop
 case hcell=>rw [← hW1]; exact (Boxed.new w1 50 _).cell
 case hints=>
  rcases hI with ⟨x,cap,h1,h2⟩|⟨b',off,cap,h1,⟨hb',hgb⟩,hcs⟩
  ·exact .inl ⟨x,cap,h1,h2⟩
  ·refine .inr ⟨b',off,cap,h1,⟨by omega,fun e=>?_,by omega⟩,fun j hj=>?_⟩
   ·subst e
    rw [hg1 _ (by rw [hs0]; omega),hG _ (by omega)] at hgb
    omega
   ·rw [← hW1]
    exact (Z5v (Below.heap_alloc _ _ _ hb') _).trans (hcs j hj)
 case hKb=>
  intro W l o o' hl' ho _ _ k hk hkL
  exact World.putObj_heap_other (by omega)
 case hI=>
  refine OwnFrom.and (Own.from (holdsRow_own W1.heap.size (w.heap.size+1) 31 54 2 (fun pre=>(Z3i pre).length) (fun pre=>Z3f (Z3i pre)) (fun _ _=>True)) _) (OwnFrom.and (OwnFrom.and (fun s X Y row hs hg hr=>?_) (ownFrom_below (by omega) (by omega))) (fun s X Y row hs hg hr=>Nat.le_trans hs hg.size))
  exact (hg.block _ (Array.getElem?_eq_some_iff.1 hs).1 (fun e=>by have:=(hr _ e.symm).1; omega)).trans hs
 case h0=>exact ⟨⟨_,bl,World.ownsRow_nil _ _ _ _,trivial⟩,⟨bw,hBW⟩,Nat.le_refl _⟩
 case assign=>
  intro l x W K hK
  gi_wp2
  exact hK
 case body=>
  rintro l pre x W ⟨⟨v,hvb,hrow,_⟩,⟨hw4,hB⟩,hN⟩ hlt
  obtain ⟨qa,ql,qc,rfl⟩:=Zma hrow
  have hpl:=Y1j pre
  have hol:=Zxk x.2
  have hml:2000000≤maxLen:=by decide
  obtain ⟨i0,hi,hz0,hz1',hz2⟩:=info_parts info54
  have hc:=hvb.cell
  have hf:=hvb.frozen
  have c0:W.cell? ⟨w.heap.size,0,none⟩=some a:=by rw [Z3l,hw4]; rfl
  have c1:W.cell? ⟨w.heap.size,1,none⟩=some b:=by rw [Z3l,hw4]; rfl
  have c2:W.cell? ⟨w.heap.size,2,none⟩=some c:=by rw [Z3l,hw4]; rfl
  have c3:W.cell? ⟨w.heap.size,3,none⟩=some d:=by rw [Z3l,hw4]; rfl
  have hd:1≤12 - 1 - 1:=by omega
  have hmx:prog.follows .mixedOrders=true:=by kernel_rfl
  have hAr:∀ W',Below w.heap.size w W'→Z5n W' G #[.agg #[a,b,c,d],.int .i64 x.2.1.1,.bool false] [.agg (Z1d x0),.int .i64 x.2.1.1,.bool false] :=fun W' h=> .cons (Zsc hG h hv) (.cons (.int _ _) (.cons (.bool _) .nil))
  have hGz:∀ W',Below w.heap.size w W'→∀ c,W'.heap.size≤c→G c=0:=fun W' h c hc'=>hG c (Nat.le_trans h.size hc')
  gi_wp2
  refine wpIn_region_any (by assumption) ?_
  change wpAnyIn _ _ _ _ _ _ _ _ _ (World.drew _)
  all_goals (first|refine wpAnyIn_ready (rs:=[0,1,2]) (by decide+kernel) (by simp) ?_)
  all_goals (repeat' first|exact AllReadyIn.nil|refine AllReadyIn.cons rfl (fun K hK=>?_) ?_)
  all_goals (go_simp; first|(gi_wp2_with (refine ⟨trivial,?_⟩; gi_at_call 36; refine (CallsIn.inRound l (callsIn_wide.2 ((hO x.2).2 _ G _ (hGz _ hB.drew) (hAr _ hB.drew)))).mono ?_; rintro e w3 ⟨v3,G3,rfl,hb3,hg3,hz3,hr3⟩; have hbw3:Below W.heap.size W w3:=(Z8v W).trans hb3; have hrow3:=Zg0 hrow hbw3; have hv3:Boxed w3 (w.heap.size+1) 31 (.slice qa ql qc):=(hbw3.block _ hvb.lt).trans hvb; have hc3:=hv3.cell; have hf3:=hv3.frozen; have hn3:=Zhf hr3); try (refine hK _ _ ?_; clear hK K))|(refine hK _ _ ?_; clear hK K))
  all_goals (first|refine wpAnyIn_ready (rs:=[1,2]) (by decide+kernel) (by simp) ?_|refine wpAnyIn_ready (rs:=[0,2]) (by decide+kernel) (by simp) ?_|refine wpAnyIn_ready (rs:=[0,1]) (by decide+kernel) (by simp) ?_)
  all_goals (repeat' first|exact AllReadyIn.nil|refine AllReadyIn.cons rfl (fun K hK=>?_) ?_)
  all_goals (go_simp; first|(gi_wp2_with (refine ⟨trivial,?_⟩; gi_at_call 36; refine (CallsIn.inRound l (callsIn_wide.2 ((hO x.2).2 _ G _ (hGz _ hB.drew) (hAr _ hB.drew)))).mono ?_; rintro e w3 ⟨v3,G3,rfl,hb3,hg3,hz3,hr3⟩; have hbw3:Below W.heap.size W w3:=(Z8v W).trans hb3; have hrow3:=Zg0 hrow hbw3; have hv3:Boxed w3 (w.heap.size+1) 31 (.slice qa ql qc):=(hbw3.block _ hvb.lt).trans hvb; have hc3:=hv3.cell; have hf3:=hv3.frozen; have hn3:=Zhf hr3); try (refine hK _ _ ?_; clear hK K))|(refine hK _ _ ?_; clear hK K))
  all_goals (first|refine wpAnyIn_ready (rs:=[2]) (by decide+kernel) (by simp) ?_|refine wpAnyIn_ready (rs:=[1]) (by decide+kernel) (by simp) ?_|refine wpAnyIn_ready (rs:=[0,3]) (by decide+kernel) (by simp) ?_)
  all_goals (repeat' first|exact AllReadyIn.nil|refine AllReadyIn.cons rfl (fun K hK=>?_) ?_)
  all_goals (go_simp; first|(gi_wp2_with (refine ⟨trivial,?_⟩; gi_at_call 36; refine (CallsIn.inRound l (callsIn_wide.2 ((hO x.2).2 _ G _ (hGz _ hB.drew) (hAr _ hB.drew)))).mono ?_; rintro e w3 ⟨v3,G3,rfl,hb3,hg3,hz3,hr3⟩; have hbw3:Below W.heap.size W w3:=(Z8v W).trans hb3; have hrow3:=Zg0 hrow hbw3; have hv3:Boxed w3 (w.heap.size+1) 31 (.slice qa ql qc):=(hbw3.block _ hvb.lt).trans hvb; have hc3:=hv3.cell; have hf3:=hv3.frozen; have hn3:=Zhf hr3); try (refine hK _ _ ?_; clear hK K))|(refine hK _ _ ?_; clear hK K))
  all_goals (first|refine wpAnyIn_ready (rs:=[3]) (by decide+kernel) (by simp) ?_|refine wpAnyIn_ready (rs:=[0]) (by decide+kernel) (by simp) ?_)
  all_goals (repeat' first|exact AllReadyIn.nil|refine AllReadyIn.cons rfl (fun K hK=>?_) ?_)
  all_goals (go_simp; first|(gi_wp2_with (refine ⟨trivial,?_⟩; gi_at_call 36; refine (CallsIn.inRound l (callsIn_wide.2 ((hO x.2).2 _ G _ (hGz _ hB.drew) (hAr _ hB.drew)))).mono ?_; rintro e w3 ⟨v3,G3,rfl,hb3,hg3,hz3,hr3⟩; have hbw3:Below W.heap.size W w3:=(Z8v W).trans hb3; have hrow3:=Zg0 hrow hbw3; have hv3:Boxed w3 (w.heap.size+1) 31 (.slice qa ql qc):=(hbw3.block _ hvb.lt).trans hvb; have hc3:=hv3.cell; have hf3:=hv3.frozen; have hn3:=Zhf hr3); try (refine hK _ _ ?_; clear hK K))|(refine hK _ _ ?_; clear hK K))
  all_goals refine wpAnyIn_ready (rs:=[4]) (by decide+kernel) (by simp) ?_
  all_goals refine AllReadyIn.cons rfl (fun K hK=>?_) AllReadyIn.nil
  all_goals rw [if_pos (by rfl)]
  all_goals refine Zzs _ _ _ 31 rfl W1.heap.size 54 i0 (.agg #[.int .i64 0,.int .i64 0]) 2 16 underlying31 hi hz0 hz1' hz2 rfl (by decide) _ _ _ rfl hrow3 _ _ rfl hn3 (by omega) (by omega) (Nat.le_trans hN hbw3.size) ?_
  all_goals (intro v' w4 hown' hgrow; obtain ⟨ra,rl,rc,rfl⟩:=Zma hown'; have hv4:Boxed w4 (w.heap.size+1) 31 (.slice qa ql qc):=hv3.kept hgrow (hv3.not_row (by decide) hrow3); have hc4:=hv4.cell; have hf4:=hv4.frozen; refine hK _ _ ?_; clear hK K)
  all_goals refine wpAnyIn_ready (rs:=[5]) (by decide+kernel) (by simp) ?_
  all_goals refine AllReadyIn.cons rfl (fun K hK=>?_) AllReadyIn.nil
  all_goals (go_simp; refine hK _ _ ?_; clear hK K)
  all_goals refine wpAnyIn_done (by decide+kernel) ?_ _
  all_goals exact Y1i (by omega) hw4 hB hN hbw3 hrow3 hv4 hown' hgrow
 case done=>
  rintro D ys W hD rfl ⟨⟨v,hvb,hrow,_⟩,⟨hw4,hB⟩,hN⟩ hK
  obtain ⟨qa,ql,qc,rfl⟩:=Zma hrow
  have hc:=hvb.cell
  gi_wp2
  refine ⟨by simp,.inl ⟨_,_,rfl,run_takeDeferred hK,?_⟩⟩
  have hown:=ownsRow_putObj hrow (.deferred none) hK rfl
  obtain ⟨G2,g1,g2,g3⟩:=Y07 (G:=G) hown (fun c hc'=>hG c (by rw [World.putObj_size] at hc'; exact Nat.le_trans hB.size hc')) (rows:=(Z3i ys).map Z2f) (by simp) (slot_sz _) (Y4j _)
  rw [hjacc] at g3
  refine ⟨_,results_tmp rfl _ _ _,?_⟩
  exact hR _ _ G2 (hB.trans (belowK_b (w:=w) (Nat.le_refl _) W D _ _ (by omega) hK rfl rfl)) (fun c hc'=>g1 c (by omega)) g2 g3
 case stop=>
  rintro D c pre W _ _ h _
  exact h.elim
theorem w12 {x0:Z0c} {x1:Int} {r:List Z19} (h:Z9u x0 x1=some r):Z08 prog 12 [.agg (Z1d x0),.int .i64 x1] (R12 r):=by
 obtain ⟨ch,h1,h2⟩:=Option.bind_eq_some_iff.1 h
 split at h2
 ·rename_i hlen
  obtain ⟨its,hits,hrs⟩:=Zt6 x0 ch.reverse r h2
  refine ⟨by kernel_rfl,fun w G vs hG hrep=>?_⟩
  have hS:=w34 h1
  have hO:∀ y:CO x0,Z08 prog 36 [.agg (Z1d x0),.int .i64 y.1.1,.bool false] (.sl false (y.1.2.map Z2f)):=fun y=>by
   have hy:=y.2
   unfold ov at hy
   obtain ⟨a,ha,hy⟩:=Option.bind_eq_some_iff.1 hy
   split at hy
   ·cases hy
    exact w36 ha
   ·cases hy
  have hsz:=hrep.size
  obtain ⟨vl⟩:=vs
  match vl,hsz with
  | [v0,v1],_=>
   have e0:=hrep.rep 0 v0 _ rfl rfl
   have e1:=hrep.rep 1 v1 _ rfl rfl
   obtain rfl:=Z3b e1
   obtain ⟨us,rfl,hn,_,_⟩:=Z4t e0
   obtain ⟨ul⟩:=us
   match ul,hn with
   | [a,b,c,d],_=>
    exact Y27 x1 (r34:=_) rfl hS hO hlen its hits hrs w G hG a b c d e0 _ fun v w' G' p1 p2 p3 p4=>⟨v,G',rfl,p1,p2,p3,p4⟩
 ·cases h2
end Go.Proofs
