/-
  From a function's contract on data to a law's row.
-/
import Derived.Test.YtoijcliccgjolaaGreatDenGc
import Derived.ProofKit
import Derived.OpenShut
import Derived.SizedLaws
namespace Go.Den
open Go.RowKit Go.ChangeShapes Go.WideShapes Go.ChangeAt
variable {P : Program}
def Z5w (w : World) : Nat → Nat:=fun b=>match w.heap[b]? with | some (.cells c _ _)=>c.size | _=>0
theorem Y2u (w : World) : ∀ c,w.heap.size ≤ c → Z5w w c = 0:=fun c hc=>by
 unfold Z5w; rw [Array.getElem?_eq_none hc]
theorem gold_lt {w : World} {b o : Nat} {v : Value} (h : w.cell? ⟨b,o,none⟩ = some v) : o < Z5w w b:=by
 rw [Z4p] at h
 unfold Z5w
 split at h
 ·rename_i c e fr hb
  rw [hb]
  rcases Nat.lt_or_ge o c.size with h' | h'
  ·exact h'
  ·rw [Array.getElem?_eq_none h'] at h; cases h
 ·cases h
structure Z7j (w : World) (vs : List Value) (ds : List D) : Prop where
 len : ds.length = vs.length
 rep : ∀ (j : Nat) v d,vs[j]? = some v → ds[j]? = some d → one v = true ∧ d.dat = true ∧ Z06 w (Z5w w) (fun _=>none) v d
theorem Z7j.append {w : World} {vs us : List Value} {ds es : List D} (h : Z7j w vs ds) (k : Z7j w us es) : Z7j w (vs ++ us) (ds ++ es):=by
 refine ⟨by simp [h.len,k.len],fun j v d hv hd=>?_⟩
 rw [List.getElem?_append] at hv hd
 rw [h.len] at hd
 split at hv
 ·rename_i hj; rw [if_pos hj] at hd; exact h.rep j v d hv hd
 ·rename_i hj; rw [if_neg hj] at hd; exact k.rep _ v d hv hd
structure Z61 (P : Program) where
 q : {H : Type} → TypeId → DataW H → Prop
 qe : {H : Type} → List TypeId → List (DataW H) → Prop
 str : Nat
 hstr : ∀ {H : Type} {t : TypeId} {s : List UInt8},P.underlying t = some .string → q t (DataW.lit (H:=H) (.string s)) → s.length ≤ str
 hsl : ∀ {H : Type} {t e : TypeId} {el sp : List (DataW H)},P.underlying t = some (.slice e) → q t (.slice el sp) → (∀ d ∈ el,q e d) ∧ el.length * P.bytesOf e ≤ reachBytes
 hst : ∀ {H : Type} {t : TypeId} {fs : Array Field} {ds : List (DataW H)},P.underlying t = some (.struct fs) → q t (.agg ds) → qe (fs.toList.map (·.type)) ds
 hcons : ∀ {H : Type} {t : TypeId} {ts : List TypeId} {d : DataW H} {ds : List (DataW H)},qe (t :: ts) (d :: ds) → q t d ∧ qe ts ds
theorem Zxb {H : Type} {e : TypeId} : ∀ {l : List (DataW H)} {d : DataW H},d ∈ l → ∀ k ∈ DataW.weights P e d,k ∈ DataW.weightsAll P e l
 | x :: r,d,h,k,hk=>by
  simp only [DataW.weightsAll,List.mem_append]
  rcases List.mem_cons.1 h with rfl | h
  ·exact .inl hk
  ·exact .inr (Zxb h k hk)
 | [],d,h,_,_=>by cases h
def Z61.reach (P : Program) : Z61 P where
 q t d:=(DataW.weights P t d).all (· ≤ reachBytes) = true
 qe ts ds:=(DataW.weightsEach P ts ds).all (· ≤ reachBytes) = true
 str:=reachBytes
 hstr:=fun _ hz=>by simpa [DataW.weights] using hz
 hsl:=fun {H} {t} {e} {el} {sp} hu hz=>by
  simp only [DataW.weights,hu,List.all_cons,Bool.and_eq_true,decide_eq_true_eq,List.all_eq_true] at hz
  obtain ⟨hz1,hz2⟩:=hz
  refine ⟨fun d hd=>?_,Nat.le_trans (Nat.mul_le_mul_right _ (by omega)) hz1⟩
  simp only [List.all_eq_true,decide_eq_true_eq]
  exact fun k hk=>hz2 k (List.mem_append.2 (.inl (Zxb hd k hk)))
 hst:=fun hu hz=>by
  simp only [DataW.weights,hu] at hz
  exact hz
 hcons:=fun hz=>by
  simp only [DataW.weightsEach,List.all_append,Bool.and_eq_true] at hz
  exact hz
def Z54 {T : Type} {P : Program} (M : Z61 P) (t : TypeId) (row : T → List D) (wf : T → Prop) : Prop:=
 ∀ (H : Type) (enc : TypeId × Value → H) (w : World) (n : Nat) (cs : List Value) (x : DataW H × List MemPlace),DataW.trod enc P w 0 (fun _=>true) true n t cs = some x →
  M.q t x.1 → ∃ y,Z7j w cs (row y) ∧ wf y
abbrev Z2i {T : Type} (P : Program) (t : TypeId) (row : T → List D) (wf : T → Prop) : Prop:=Z54 (Z61.reach P) t row wf
variable {M : Z61 P}
theorem Zaa {w : World} {v : Value} {d : D} (h1 : one v = true) (h2 : d.dat = true) (h : Z06 w (Z5w w) (fun _=>none) v d) : Z7j w [v] [d] :=
 ⟨rfl,fun j u e hu he=>by
  cases j with
  | zero=>simp at hu he; subst hu he; exact ⟨h1,h2,h⟩
  | succ j=>simp at hu⟩
theorem Z2l {t : TypeId} {k : IntKind} (hu : P.underlying t = some (.int k)) : Z54 M t (fun n : Int=>[.int k n]) (fun n=>k.min ≤ n ∧ n ≤ k.max):=by
 intro H enc w n cs x h _
 obtain ⟨m,rfl,rfl,hw⟩:=DataW.trod_int hu h
 refine ⟨m,Zaa rfl rfl (.int k m),?_⟩
 simpa [Lit.wf] using hw
theorem Zu2 {t : TypeId} (hu : P.underlying t = some .bool) : Z54 M t (fun b : Bool=>[.bool b]) (fun _=>True):=by
 intro H enc w n cs x h _
 obtain ⟨b,rfl,rfl⟩:=DataW.trod_bool hu h
 exact ⟨b,Zaa rfl rfl (.bool b),trivial⟩
theorem Z3o {t : TypeId} (hu : P.underlying t = some .string) : Z54 M t (fun s : List UInt8=>[.str s]) (fun s=>s.length ≤ M.str):=by
 intro H enc w n cs x h hz
 obtain ⟨s,rfl,rfl,hs⟩:=DataW.trod_string hu h
 exact ⟨s.data.toList,Zaa rfl rfl (.str s),M.hstr hu hz⟩
theorem Zvz {T : Type} : ∀ (n : Nat) (Q : Nat → T → Prop),(∀ i,i < n → ∃ y,Q i y) → ∃ ys : List T,ys.length = n ∧ ∀ i y,ys[i]? = some y → Q i y
 | 0,_,_=>⟨[],rfl,fun i y h=>by simp at h⟩
 | n + 1,Q,h=>by
  obtain ⟨ys,h1,h2⟩:=Zvz n Q (fun i hi=>h i (by omega))
  obtain ⟨y,hy⟩:=h n (by omega)
  refine ⟨ys ++ [y],by simp [h1],fun i z hz=>?_⟩
  rw [List.getElem?_append] at hz
  split at hz
  ·exact h2 i z hz
  ·rename_i hi
   have : i = n:=by
    rcases Nat.lt_or_ge (i - ys.length) 1 with h' | h'
    ·omega
    ·rw [List.getElem?_eq_none (by simpa using h')] at hz; cases hz
   subst this
   rw [h1,Nat.sub_self] at hz
   simp at hz; subst hz; exact hy
theorem Z4w {T : Type} {t e : TypeId} {row : T → List D} {wf : T → Prop} (hu : P.underlying t = some (.slice e)) (he : Z54 M e row wf) (hpos : 0 < P.cellsOf e) :
  Z54 M t (fun ys : List T=>[.sl false (ys.map row)]) (fun ys=>(∀ y ∈ ys,wf y) ∧ ys.length * P.bytesOf e ≤ reachBytes):=by
 intro H enc w n cs x h hz
 rcases DataW.trod_slice hu h with ⟨rfl,rfl⟩ | ⟨a,len,cap,elems,rest,m,rfl,rfl,rfl,hb,hlc,hcm,hel,hcells,hspare,-⟩
 ·exact ⟨[],Zaa rfl rfl (.slnil false none),by simp,by simp⟩
 ·obtain ⟨hz2,hz1⟩:=M.hsl hu hz
  have hone : ∀ i,i < len → ∃ cs',w.cells? 0 (a.add (i * P.cellsOf e)) (P.cellsOf e) = some cs' ∧ ∃ y,Z7j w cs' (row y) ∧ wf y:=fun i hi=>by
   have h1:=hcells i hi
   rw [List.getElem?_eq_getElem (by omega)] at h1
   obtain ⟨cs',h2,h3⟩:=Option.bind_eq_some_iff.1 h1
   obtain ⟨y,h4,h5⟩:=he H enc w m cs' _ h3 (hz2 _ (List.mem_map.2 ⟨elems[i],List.getElem_mem _,rfl⟩))
   exact ⟨cs',h2,y,h4,h5⟩
  by_cases hcap : cap = 0
  ·subst hcap
   obtain rfl : len = 0:=by omega
   exact ⟨[],Zaa rfl rfl (.slnil false (some a)),by simp,by simp⟩
  ·have hspot : a.spot = none:=by
    have key : ∀ cs',w.cells? 0 (a.add 0) (P.cellsOf e) = some cs' → a.spot = none:=fun cs' h=>by
     obtain ⟨_,h1,h2⟩:=World.cells?_some h
     have h3:=h2 0 hpos
     simp only [Addr.add,if_true] at h3
     rw [List.getElem?_eq_getElem (by omega)] at h3
     exact World.cell?_spot h3
    by_cases hl : len = 0
    ·subst hl
     obtain ⟨hr1,hr2⟩:=hspare rfl
     have h1:=hr2 0 (by omega)
     rw [List.getElem?_eq_getElem (by omega)] at h1
     obtain ⟨cs',h2,-⟩:=Option.bind_eq_some_iff.1 h1
     simp only [Nat.zero_add,Nat.zero_mul] at h2
     exact key cs' h2
    ·obtain ⟨cs',h2,-⟩:=hone 0 (by omega)
     simp only [Nat.zero_mul] at h2
     exact key cs' h2
   obtain ⟨b,off,spot⟩:=a
   cases hspot
   obtain ⟨ys,hyl,hys⟩:=Zvz len (fun i (y : T)=>∃ cs',w.cells? 0 ((⟨b,off,none⟩ : Addr).add (i * P.cellsOf e)) (P.cellsOf e) = some cs' ∧ Z7j w cs' (row y) ∧ wf y)
    (fun i hi=>by obtain ⟨cs',h1,y,h2,h3⟩:=hone i hi; exact ⟨y,cs',h1,h2,h3⟩)
   have hcell : ∀ i y,ys[i]? = some y → (row y).length = P.cellsOf e ∧ ∀ j,j < P.cellsOf e → ∃ v d,w.cell? ⟨b,off + i * P.cellsOf e + j,none⟩ = some v ∧ (row y)[j]? = some d ∧ one v = true ∧ d.dat = true ∧ Z06 w (Z5w w) (fun _=>none) v d:=fun i y hy=>by
    obtain ⟨cs',h1,h2,-⟩:=hys i y hy
    obtain ⟨_,h4,h5⟩:=World.cells?_some h1
    refine ⟨h2.len.trans h4,fun j hj=>?_⟩
    have h6:=h5 j hj
    simp only [Addr.add_none] at h6
    have e1 : cs'[j]? = some cs'[j] :=List.getElem?_eq_getElem (by omega)
    have e2 : (row y)[j]? = some ((row y)[j]'(by rw [h2.len]; omega)):=List.getElem?_eq_getElem (by rw [h2.len]; omega)
    obtain ⟨k1,k2,k3⟩:=h2.rep j _ _ e1 e2
    exact ⟨_,_,h6.trans e1,e2,k1,k2,k3⟩
   have hget : ∀ i,i < len → ∃ y,ys[i]? = some y:=fun i hi=>⟨ys[i],List.getElem?_eq_getElem (by omega)⟩
   refine ⟨ys,Zaa rfl rfl ?_,⟨fun y hy=>?_,?_⟩⟩
   ·refine .sl false b off len cap (P.cellsOf e) _ (fun i j=>(w.cell? ⟨b,off + i * P.cellsOf e + j,none⟩).getD Go.undef) (by simp [hyl]) (fun h=>by cases h) hlc (fun i r hr=>?_) (fun i j hi hj=>?_) (fun i j hi hj=>?_) (fun i j hi hj=>?_) (fun i j r d hr hd=>?_) (fun i j r d hr hd=>?_)
    ·rw [List.getElem?_map] at hr
     obtain ⟨y,hy,rfl⟩:=Z26 hr
     exact (hcell i y hy).1
    ·obtain ⟨y,hy⟩:=hget i hi
     obtain ⟨v,d,h1,-⟩:=(hcell i y hy).2 j hj
     exact gold_lt h1
    ·obtain ⟨y,hy⟩:=hget i hi
     obtain ⟨v,d,h1,-⟩:=(hcell i y hy).2 j hj
     rw [h1]; rfl
    ·obtain ⟨y,hy⟩:=hget i hi
     obtain ⟨v,d,h1,_,h3,-⟩:=(hcell i y hy).2 j hj
     rw [h1]; exact h3
    ·rw [List.getElem?_map] at hr
     obtain ⟨y,hy,rfl⟩:=Z26 hr
     have hj : j < P.cellsOf e:=by
      rw [← (hcell i y hy).1]
      rcases Nat.lt_or_ge j (row y).length with h' | h'
      ·exact h'
      ·rw [List.getElem?_eq_none h'] at hd; cases hd
     obtain ⟨v,d',h1,h2,h3,h4,h5⟩:=(hcell i y hy).2 j hj
     rw [h2] at hd; cases hd; exact h4
    ·rw [List.getElem?_map] at hr
     obtain ⟨y,hy,rfl⟩:=Z26 hr
     have hj : j < P.cellsOf e:=by
      rw [← (hcell i y hy).1]
      rcases Nat.lt_or_ge j (row y).length with h' | h'
      ·exact h'
      ·rw [List.getElem?_eq_none h'] at hd; cases hd
     obtain ⟨v,d',h1,h2,h3,h4,h5⟩:=(hcell i y hy).2 j hj
     rw [h2] at hd; cases hd
     rw [h1]; exact h5
   ·obtain ⟨i,hi⟩:=List.getElem?_of_mem hy
    obtain ⟨_,_,_,h3⟩:=hys i y hi
    exact h3
   ·refine Nat.le_trans (Nat.mul_le_mul_right _ ?_) hz1
    simp; omega
theorem Z54.map {A B : Type} {t : TypeId} {row : A → List D} {wf : A → Prop} (h : Z54 M t row wf) (f : A → B) {row' : B → List D} {wf' : B → Prop} (hr : ∀ a,row' (f a) = row a) (hw : ∀ a,wf a → wf' (f a)) : Z54 M t row' wf':=
 fun H enc w n cs x h1 h2=>by
  obtain ⟨y,k1,k2⟩:=h H enc w n cs x h1 h2
  exact ⟨f y,by rw [hr]; exact k1,hw y k2⟩
def Zfd {T : Type} {P : Program} (M : Z61 P) (tot off : Nat) (fs : List Field) (row : T → List D) (wf : T → Prop) : Prop:=
 ∀ (H : Type) (enc : TypeId × Value → H) (w : World) (m : Nat) (cs : List Value) (xs : List (DataW H × List MemPlace)),cs.length = tot → xs.length = fs.length →
  (∀ (i : Nat) (f : Field),fs[i]? = some f → DataW.trod enc P w 0 (fun _=>true) true m f.type ((cs.drop f.offset).take (P.cellsOf f.type)) = xs[i]?) →
  M.qe (fs.map (·.type)) (xs.map (·.1)) → ∃ y,Z7j w (cs.drop off) (row y) ∧ wf y
theorem Z3w {tot : Nat} : Zfd M tot tot [] (fun _ : Unit=>[]) (fun _=>True):=by
 intro H enc w m cs xs hc _ _ _
 refine ⟨(),?_,trivial⟩
 rw [List.drop_eq_nil_of_le (by omega)]
 exact ⟨rfl,fun j v d h=>by simp at h⟩
theorem Z1c {A B : Type} {tot off n : Nat} {f : Field} {fs : List Field} {rowA : A → List D} {wfA : A → Prop} {rowB : B → List D} {wfB : B → Prop} (hA : Z54 M f.type rowA wfA) (hn : P.cellsOf f.type = n) (hB : Zfd M tot (off + n) fs rowB wfB)
  (hoff : f.offset = off) : Zfd M tot off (f :: fs) (fun p : A × B=>rowA p.1 ++ rowB p.2) (fun p=>wfA p.1 ∧ wfB p.2):=by
 intro H enc w m cs xs hc hl hx hz
 cases xs with
 | nil=>simp at hl
 | cons x xs=>
  replace hz:=M.hcons hz
  have h0:=hx 0 f rfl
  simp only [List.getElem?_cons_zero] at h0
  obtain ⟨a,a1,a2⟩:=hA H enc w m _ x h0 hz.1
  obtain ⟨b,b1,b2⟩:=hB H enc w m cs xs hc (by simpa using hl) (fun i g hg=>by have:=hx (i + 1) g (by simpa using hg); simpa using this) hz.2
  refine ⟨(a,b),?_,a2,b2⟩
  rw [hoff,hn] at a1
  have e : cs.drop off = (cs.drop off).take n ++ cs.drop (off + n):=by rw [← List.drop_drop,List.take_append_drop]
  rw [e]
  exact a1.append b1
theorem Z40 {T : Type} {t : TypeId} {tot : Nat} {fs : Array Field} {row : T → List D} {wf : T → Prop} (hu : P.underlying t = some (.struct fs)) (ht : P.cellsOf t = tot) (hF : Zfd M tot 0 fs.toList row wf) : Z54 M t row wf:=by
 subst ht
 intro H enc w n cs x h hz
 obtain ⟨xs,m,rfl,rfl,hc,hl,hx⟩:=DataW.trod_struct hu h
 exact hF H enc w m cs xs hc (by simpa using hl) (fun i f hf=>hx i f (by simpa using hf)) (M.hst hu hz)
theorem arg_agg {T : Type} {t : TypeId} {fs : Array Field} {row : T → List D} {wf : T → Prop} (hu : P.underlying t = some (.struct fs)) (hR : Z54 M t row wf) {H : Type} {enc : TypeId × Value → H} {W : World} {r : _root_.Go.Reach} {base : Nat} {v : Value} {d : DataW H} {p : List MemPlace}
  (hval : Value.okWide P W r base t v) (hd : DataW.Trod enc P W 0 (fun _=>true) true t v d p) (hz : M.q t d) : ∃ y,Z06 W (Z5w W) (fun _=>none) v (.agg (row y)) ∧ wf y:=by
 unfold Value.okWide at hval
 rw [hu] at hval
 obtain ⟨cs,rfl,-,-⟩:=hval
 obtain ⟨fuel,hf⟩:=hd
 obtain ⟨y,h1,h2⟩:=hR H enc W fuel _ _ hf hz
 have hcs : (Value.agg cs).cells.toList = cs.toList:=rfl
 rw [hcs] at h1
 refine ⟨y,.agg cs (row y) (by have:=h1.len; simpa using this) (fun j u hu=>?_) (fun j u e hu he=>(h1.rep j u e (by simpa using hu) he).2.2),h2⟩
 have hj : j < (row y).length:=by
  have:=h1.len
  rcases Nat.lt_or_ge j cs.size with h' | h'
  ·simp at this; omega
  ·rw [Array.getElem?_eq_none h'] at hu; cases hu
 exact (h1.rep j u _ (by simpa using hu) (List.getElem?_eq_getElem hj)).1
theorem arg_one {T : Type} {t : TypeId} {f : T → D} {wf : T → Prop} (hR : Z54 M t (fun y=>[f y]) wf) {H : Type} {enc : TypeId × Value → H} {W : World} {v : Value} {d : DataW H} {p : List MemPlace}
  (hc : v.cells.toList = [v]) (hd : DataW.Trod enc P W 0 (fun _=>true) true t v d p) (hz : M.q t d) : ∃ y,Z06 W (Z5w W) (fun _=>none) v (f y) ∧ wf y:=by
 obtain ⟨fuel,hf⟩:=hd
 rw [hc] at hf
 obtain ⟨y,h1,h2⟩:=hR H enc W fuel _ _ hf hz
 exact ⟨y,(h1.rep 0 v _ rfl rfl).2.2,h2⟩
theorem Zwh {H : Type} {enc : TypeId × Value → H} (hl : laidOutB P = true) {W W' : World} (hb : Below W.heap.size W W') : ∀ {ts : List TypeId} {vs : List Value} {ds : List (DataW H)} {ps : List MemPlace},
  ts.all (fun t=>P.readableRec t && decide (t < P.types.size)) = true → DataW.TrodAll enc P W 0 (fun _=>true) true ts vs ds ps → (∀ x ∈ ps,x.block < W.heap.size) →
  DataW.TrodAll enc P W' 0 (fun b=>decide (b < W.heap.size)) true ts vs ds ps
 | [],[],[],ps,_,h,_=>h
 | t :: ts,v :: vs,d :: ds,ps,ht,h,hlt=>by
  simp only [List.all_cons,Bool.and_eq_true,decide_eq_true_eq] at ht
  obtain ⟨p,q,h1,h2,rfl⟩:=h
  exact ⟨p,q,Below.trod hl ht.1.1 ht.1.2 h1 hb (fun x hx=>hlt x (by simp [hx])),Zwh hl hb (by simpa using ht.2) h2 (fun x hx=>hlt x (by simp [hx])),rfl⟩
 | [],[],_ :: _,_,_,h,_=>h.elim
 | [],_ :: _,_,_,_,h,_=>h.elim
 | _ :: _,[],_,_,_,h,_=>h.elim
 | _ :: _,_ :: _,[],_,_,h,_=>h.elim
theorem Y25 {f : FuncId} {fn : Func} {s : ChangeSpec} {H : Type} {enc : TypeId × Value → H} {W : World} {args : Array Value} {ds : List (DataW H)} {before : List MemPlace} {tb : TypeId} (hvars : s.vars = [])
  (hres : fn.resultTypes = #[tb]) (htb : P.underlying tb = some .bool) (hl : laidOutB P = true) (hts : fn.params.toList.all (fun t=>P.readableRec t && decide (t < P.types.size)) = true)
  (hW : DataW.Whole enc P fn.params.toList s.vars false W args.toList ds [] before) (hfn : s.fn H (ds ++ []) = { results:=[.lit (.bool true)],args:=ds })
  {das : List D} (hrep : Z6j W (Z5w W) args das) (hspec : Z0c P f das (.bool true)) :
  Calls P f args W fun e W'=>∃ v,e = .returned v ∧ s.post enc P fn false true false false W args v W':=by
 refine (hspec.2 W (Z5w W) args (Y2u W) hrep).mono fun e W' he=>?_
 obtain ⟨v,G',rfl,hb,-,-,hv⟩:=he
 obtain rfl:=Z7e hv
 have hW':=hW
 obtain ⟨p,q,hA,hV,rfl,hfz,hnd⟩:=hW
 have hq : q = [] :=by
  rw [hvars] at hV; exact hV
 subst hq
 refine ⟨_,rfl,ds,[],p ++ [],[],p,[],hW',?_,?_,?_,hb.frame _,fun h=>by cases h⟩
 ·rw [hfn,hres]
  exact trodAll_cons_mk (shut_bool htb true) trodAll_mk0
 ·rw [hfn]
  exact Zwh hl hb hts hA (fun x hx=>by simpa using hW'.lt x (by simp [hx]))
 ·rw [hvars,hfn]; rfl
end Go.Den
namespace Go.Den
open Go.RowKit
theorem Z6j.nil {w : World} {G : Nat → Nat} : Z6j w G #[] [] :=⟨rfl,fun j v d h=>by simp at h⟩
theorem Z6j.cons {w : World} {G : Nat → Nat} {v : Value} {d : D} {l : List Value} {ds : List D} (h : Z06 w G (fun _=>none) v d) (t : Z6j w G l.toArray ds) : Z6j w G (v :: l).toArray (d :: ds):=by
 refine ⟨by have:=t.size; simpa using this,fun j u e hu he=>?_⟩
 cases j with
 | zero=>simp at hu he; subst hu he; exact h
 | succ j=>exact t.rep j u e (by simpa using hu) (by simpa using he)
theorem Zry {n : Nat} (h : n ≤ reachBytes) : (n : Int) ≤ 140737488355328:=by
 have h' : n ≤ 140737488351232:=h
 omega
end Go.Den
