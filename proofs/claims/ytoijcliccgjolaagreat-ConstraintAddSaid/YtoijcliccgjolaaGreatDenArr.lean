/-
  Arrays as arguments of a law. No condition.
-/
import Derived.Test.YtoijcliccgjolaaGreatDenClaim
namespace Go.Den
open Go.RowKit Go.ChangeShapes Go.WideShapes Go.ChangeAt
variable {P : Program}
theorem Zvk {H : Type} {e : TypeId} : ∀ (ts : List TypeId) (ds : List (DataW H)),(∀ t ∈ ts,t = e) → (DataW.weightsAll P e ds).all (· ≤ reachBytes) = true → (DataW.weightsEach P ts ds).all (· ≤ reachBytes) = true
 | [],_,_,_=>by simp [DataW.weightsEach]
 | _ :: _,[],_,_=>by simp [DataW.weightsEach]
 | t :: ts,d :: ds,ht,h=>by
  have:=ht t (.head _)
  subst this
  simp only [DataW.weightsAll,DataW.weightsEach,List.all_append,Bool.and_eq_true] at h ⊢
  exact ⟨h.1,Zvk ts ds (fun u hu=>ht u (.tail _ hu)) h.2⟩
def arF (e : TypeId) (o : Nat) : Field := ⟨"", e, o, false, "", "", 0⟩
theorem Y2r {T : Type} {t e : TypeId} {n tot : Nat} {row : T → List D} {wf : T → Prop} (fs : List Field) (hu : P.underlying t = some (.array n e)) (ht : P.cellsOf t = tot)
  (hfs : fs.map (fun f=>(f.type,f.offset)) = (List.range n).map fun i=>(e,i * P.cellsOf e)) (hF : Zfd (Z61.reach P) tot 0 fs row wf) : Z54 (Z61.reach P) t row wf:=by
 subst ht
 intro H enc w k cs x h hz
 obtain ⟨xs,m,rfl,rfl,hc,hl,hx⟩:=DataW.trod_array hu h
 have hn : fs.length = n:=by have:=congrArg List.length hfs; simpa using this
 have hty : ∀ (i : Nat) f,fs[i]? = some f → f.type = e ∧ f.offset = i * P.cellsOf e ∧ i < n:=fun i f hf=>by
  have hi:=(List.getElem?_eq_some_iff.1 hf).1
  have:=congrArg (fun l=>l[i]?) hfs
  simp only [List.getElem?_map,hf,List.getElem?_range (by omega : i < n),Option.map_some,Option.some.injEq,Prod.mk.injEq] at this
  exact ⟨this.1,this.2,by omega⟩
 refine hF H enc w m cs xs hc (by omega) (fun i f hf=>?_) ?_
 ·obtain ⟨h1,h2,h3⟩:=hty i f hf
  rw [h1,h2]; exact hx i h3
 ·refine Zvk (e:=e) _ _ (fun u hu'=>?_) ?_
  ·obtain ⟨f,hf,rfl⟩:=List.mem_map.1 hu'
   obtain ⟨i,hi⟩:=List.mem_iff_getElem?.1 hf
   exact (hty i f hi).1
  ·have hz' : (DataW.weights P t (.agg (xs.map (·.1)))).all (· ≤ reachBytes) = true:=hz
   simp only [DataW.weights,hu] at hz'
   exact hz'
theorem arg_arr {T : Type} {M : Z61 P} {t e : TypeId} {n : Nat} {row : T → List D} {wf : T → Prop} (hu : P.underlying t = some (.array n e)) (hR : Z54 M t row wf) {H : Type} {enc : TypeId × Value → H} {W : World} {r : _root_.Go.Reach} {base : Nat} {v : Value} {d : DataW H} {p : List MemPlace}
  (hval : Value.okWide P W r base t v) (hd : DataW.Trod enc P W 0 (fun _=>true) true t v d p) (hz : M.q t d) : ∃ y,Z06 W (Z5w W) (fun _=>none) v (.agg (row y)) ∧ wf y:=by
 unfold Value.okWide at hval
 rw [hu] at hval
 obtain ⟨cs,rfl,-,-⟩:=hval
 obtain ⟨fuel,hf⟩:=hd
 obtain ⟨y,h1,h2⟩:=hR H enc W fuel _ _ hf hz
 have hcs : (Value.agg cs).cells.toList = cs.toList:=rfl
 rw [hcs] at h1
 refine ⟨y,.agg cs (row y) (by have:=h1.len; simpa using this) (fun j u hu=>?_) (fun j u e hu he=>(h1.rep j u e (by simpa using hu) he).2.2),h2⟩
 have hj : j < (row y).length:=by
  have:=h1.len
  rcases Nat.lt_or_ge j cs.size with h' | h'
  ·simp at this; omega
  ·rw [Array.getElem?_eq_none h'] at hu; cases hu
 exact (h1.rep j u _ (by simpa using hu) (List.getElem?_eq_getElem hj)).1
end Go.Den
