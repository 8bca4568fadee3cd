/-
  Models of functions of the program, and that the functions compute them. Printed by den3.py. No condition.
-/
import Derived.Test.YtldpbffppaednaaGreatAccD
set_option linter.unusedVariables false
namespace Go.Proofs
open Go.Den Go.Den.W
def R166 (y0 : Int) : D:= .int .i64 y0
def Znp (x0 : List Int) (x1 t0 : Int) : Option (Ctl (Int) (Unit ⊕ Int)):=
  (some (IntKind.wrap .i64 (t0 + (1 : Int)))).bind fun v1=>
  if (decide (v1 < (x0.length : Int))) = true then
    ((Z0g x0 t0).bind fun v2=>
    if (v2 == x1) = true then
      (some (.done (.inr t0))) else
    ((some (IntKind.wrap .i64 (t0 + (1 : Int)))).bind fun v3=>
      some (.next v3))) else
  (some (.done (.inl (()))))
def Z6o (x0 : List Int) (x1 : Int) : Option (Int):=
  (Z0d (Znp x0 x1) Z0i 0).bind fun q1=>
  match q1 with
  | .inl q0=>(some (-1))
  | .inr y0=>(some y0)
def Zsb (x0 : List Int) (x1 : Int) : Int → SL:=
  fun t0=>⟨20,[(0,.sl false (x0.map Z03)),(1,dI x1),(5,dI t0)],[]⟩
def J166x1 : JT (Unit ⊕ Int):=
  ju (je 0 fun q0 : Unit=>⟨20,[],[]⟩) (jr Tryz.prog Tryz.f166 R166)
theorem wl166x1 {x0 : List Int} {x1 t0 : Int} {r : Ctl (Int) (Unit ⊕ Int)} {Γ : Ctx} (h : (Znp x0 x1) t0 = some r) : A Tryz.prog Γ (lpC Tryz.f166 21) [] (Rd (Zsb x0 x1) J166x1 r) ((Zsb x0 x1) t0).s:=
  bd h fun v1 e1 h=>go [] [rg 2 [(1,n e1),(3,ln x0)]] <| br h (fun h2 h=>bd h fun v2 e2 h=>go [] [rg 4 [(2,ix e2)]] <| br h (fun h3 h=>go [] [] <| dn h (i2 iR)) fun h3 h=>
    bd h fun v3 e3 h=>go [] [rg 3 [(1,n e3)]] <| nx h) fun h2 h=>
  go [] [] <| dn h (i1 iE)
theorem w166 {x0 : List Int} {x1 : Int} {r : Int} (h : Z6o x0 x1 = some r) : Z0e Tryz.prog 166 [.sl false (x0.map Z03),dI x1] (R166 r):=
  cs Tryz.f166 <| go [] [] <| bd h fun q1 e4 h=>lp e4 wl166x1 <| match q1,h with
  | .inl q0,h=>j1 <| (qe <| goN [] [] <| rt h)
  | .inr y0,h=>j2 <| (qr h)
def R167 (y0 : Int) : D:= .int .i64 y0
def Zh0 (x0 : List Int) (x1 : Int) : Option (Int):=
  (Z6o x0 x1).bind fun v3=>
  some v3
def Zgo (x0 : List Int) (x1 : Int) : Option (Int):=
  if (decide ((x0.length : Int) > 0)) = true then ((some (IntKind.wrap .i64 ((x0.length : Int) - (1 : Int)))).bind fun v0=>
  (Z0g x0 v0).bind fun v1=>
  if (x1 == v1) = true then
    ((some (IntKind.wrap .i64 ((x0.length : Int) - (1 : Int)))).bind fun v2=>
    some v2) else
  ((Zh0 x0 x1))) else
  ((Zh0 x0 x1))
theorem Zqw {x0 : List Int} {x1 : Int} {r : Int} {Γ : Ctx} (h : (Zh0 x0 x1) = some r) : Jn Tryz.prog Tryz.f167 Γ (Den.Ends Tryz.prog Tryz.f167 (R167 r)) 11 ⟨24,[(0,.sl false (x0.map Z03)),(1,dI x1)],[]⟩:=
  so <| bd h fun v3 e3 h=>go [] [rg 3 [(2,k (w166 e3))]] <| rt h
theorem w167 {x0 : List Int} {x1 : Int} {r : Int} (h : Zgo x0 x1 = some r) : Z0e Tryz.prog 167 [.sl false (x0.map Z03),dI x1] (R167 r):=
  cs Tryz.f167 <| sp h (fun h0 h=>bd h fun v0 e0 h=>bd h fun v1 e1 h=>go [] [rg 1 [(1,ln x0),(2,kb h0),(7,ln x0),(8,n e0),(9,ix e1)]] <| br h (fun h1 h=>bd h fun v2 e2 h=>go [] [rg 2 [(1,ln x0),(2,n e2)]] <| rt h) fun h1 h=>
  go [3] [] <| jn (Zqw h)) fun h0 h=>
  go [] [rg 1 [(1,ln x0),(2,kb h0)]] <| bF rfl <| go [3] [] <| jn (Zqw h)
def R168 (y0 : (List Z0f) × Bool) : D:= .tup [.sl false (y0.1.map Z1s),.bool y0.2]
def Zeg (t0 : Int × (List Z0f)) (v3 : Z0f) (p1 : Int) : Option (Ctl (Int × (List Z0f)) (((List Z0f)) ⊕ ((List Z0f) × Bool))):=
  (Z24 56 (t0.2 ++ [({ Z2g:=v3.Z2g,Z2x:=p1,Z1o:=v3.Z1o,Z34:=v3.Z34 } : Z0f)]).length).bind fun v5=>
  (some (IntKind.wrap .i64 (t0.1 + (1 : Int)))).bind fun v6=>
  some (.next (v6,(t0.2 ++ [({ Z2g:=v3.Z2g,Z2x:=p1,Z1o:=v3.Z1o,Z34:=v3.Z34 } : Z0f)])))
def Znf (x0 : List Z0f) (x1 : List Int) (t0 : Int × (List Z0f)) : Option (Ctl (Int × (List Z0f)) (((List Z0f)) ⊕ ((List Z0f) × Bool))):=
  if (decide (t0.1 < (x0.length : Int))) = true then
    ((Z0g x0 t0.1).bind fun v3=>
    if (v3.Z2g == 5) = true then
      ((Z6o x1 v3.Z2x).bind fun v4=>
      if (decide (v4 < 0)) = true then
        (some (.done (.inr (([] : List Z0f),false)))) else
      ((Zeg t0 v3) v4)) else
    ((Zeg t0 v3) v3.Z2x)) else
  (some (.done (.inl (t0.2))))
def Zdd (x0 : List Z0f) (x1 : List Int) : Option ((List Z0f) × Bool):=
  (Z0d (Znf x0 x1) Z0i (0,([] : List Z0f))).bind fun q1=>
  match q1 with
  | .inl q0=>(some (q0,true))
  | .inr y0=>(some y0)
def Zle (x0 : List Z0f) (x1 : List Int) : (Int × (List Z0f)) → SL:=
  fun t0=>⟨36,[(0,.sl false (x0.map Z1s)),(1,.sl false (x1.map Z03)),(6,.lsl 6 0 ((t0.2.map Z1s).length)),(7,dI t0.1)],[(6,{ sz:=6,rows:=(t0.2.map Z1s),frz:=0,pure:=true })]⟩
def Zq9 : JT (((List Z0f)) ⊕ ((List Z0f) × Bool)):=
  ju (je 0 fun q0 : (List Z0f)=>⟨36,[(6,.lsl 6 0 ((q0.map Z1s).length))],[(6,{ sz:=6,rows:=(q0.map Z1s),frz:=0,pure:=true })]⟩) (jr Tryz.prog Tryz.f168 R168)
theorem Zre (x0 : List Z0f) (x1 : List Int) {t0 : Int × (List Z0f)} {v3 : Z0f} {p1 : Int} {r : Ctl (Int × (List Z0f)) (((List Z0f)) ⊕ ((List Z0f) × Bool))} {Γ : Ctx} (h : (Zeg t0 v3) p1 = some r) : Jn Tryz.prog Tryz.f168 Γ (Rd (Zle x0 x1) Zq9 r) 3659 ⟨36,[(0,.sl false (x0.map Z1s)),(1,.sl false (x1.map Z03)),(6,.lsl 6 0 ((t0.2.map Z1s).length)),(7,dI t0.1),(8,.lptr 8 0 0)],[(6,{ sz:=6,rows:=(t0.2.map Z1s),frz:=0,pure:=true }),(8,{ sz:=6,rows:=[[dI v3.Z2g,dI p1,dI v3.Z1o.Z1y,d8 v3.Z1o.Z1q,.str v3.Z1o.Z02,dI v3.Z34]],frz:=0,pure:=false })]⟩:=
  so <| bd h fun v5 e5 h=>bd h fun v6 e6 h=>go [] [rg 10 [(2,br0 1 6),(3,ap e5)],rg 4 [(1,n e6)]] <| nx h
theorem wl168x1 {x0 : List Z0f} {x1 : List Int} {t0 : Int × (List Z0f)} {r : Ctl (Int × (List Z0f)) (((List Z0f)) ⊕ ((List Z0f) × Bool))} {Γ : Ctx} (h : (Znf x0 x1) t0 = some r) : A Tryz.prog Γ (lpC Tryz.f168 43) [] (Rd (Zle x0 x1) Zq9 r) ((Zle x0 x1) t0).s:=
  go [] [rg 3 [(2,ln x0)]] <| br h (fun h3 h=>bd h fun v3 e3 h=>go [] [rg 5 [(2,ix e3)]] <| br h (fun h4 h=>bd h fun v4 e4 h=>go [] [rg 7 [(3,k (w166 e4))]] <| br h (fun h5 h=>go [] [] <| dn h (i2 iR)) fun h5 h=>
      go [10] [] <| jn ((Zre x0 x1) h)) fun h4 h=>
    go [10] [] <| jn ((Zre x0 x1) h)) fun h3 h=>
  go [] [] <| dn h (i1 iE)
theorem w168 {x0 : List Z0f} {x1 : List Int} {r : (List Z0f) × Bool} (h : Zdd x0 x1 = some r) : Z0e Tryz.prog 168 [.sl false (x0.map Z1s),.sl false (x1.map Z03)] (R168 r):=
  cs Tryz.f168 <| go [] [rg 1 [(0,bl 0 6)]] <| bd h fun q1 e7 h=>lp (ps:=[(9,6)]) e7 wl168x1 <| match q1,h with
  | .inl q0,h=>j1 <| (qe <| goN [] [] <| rtB h (.tup [rw_ q0,.bool true]) (a2 (rpI q0) (a2 trivial trivial)) (by simp only [rwE] <;> kernel_rfl))
  | .inr y0,h=>j2 <| (qr h)
def R154 (y0 : Z08 × Int) : D:= .tup [.agg (Z17 y0.1),.int .i64 y0.2]
def Zmp (t0 : Int × (List Z0k)) (v10 : Z0k) (v11 v12 v13 : Int) : Option (Ctl (Int × (List Z0k)) (((List Z0k)) ⊕ (Z08 × Int))):=
  (Z24 48 (t0.2 ++ [({ Z3x:=v11,f_To:=v12,Z43:=v13,Z1f:=v10.Z1f,Z1o:=v10.Z1o } : Z0k)]).length).bind fun v14=>
  (some (IntKind.wrap .i64 (t0.1 + (1 : Int)))).bind fun v15=>
  some (.next (v15,(t0.2 ++ [({ Z3x:=v11,f_To:=v12,Z43:=v13,Z1f:=v10.Z1f,Z1o:=v10.Z1o } : Z0k)])))
def Znx (x0 : Z2v) (x1 : List Int) (t0 : Int × (List Z0k)) : Option (Ctl (Int × (List Z0k)) (((List Z0k)) ⊕ (Z08 × Int))):=
  if (decide (t0.1 < (x0.f_C.Z1n.length : Int))) = true then
    ((Z0g x0.f_C.Z1n t0.1).bind fun v10=>
    (Z6o x1 v10.Z3x).bind fun v11=>
    (Zgo x1 v10.f_To).bind fun v12=>
    (Z6o x1 v10.Z43).bind fun v13=>
    if (decide (v11 < 0)) = true then (some (.done (.inr (({ Z10:=0,Z0v:=0,Z0q:=([] : List Z01),Z1n:=([] : List Z0k),Z18:=([] : List Z0o),Z1h:=([] : List Z11) } : Z08),17)))) else
    (if (decide (v12 < 0)) = true then (some (.done (.inr (({ Z10:=0,Z0v:=0,Z0q:=([] : List Z01),Z1n:=([] : List Z0k),Z18:=([] : List Z0o),Z1h:=([] : List Z11) } : Z08),17)))) else
      (if (decide (v13 < 0)) = true then
          (some (.done (.inr (({ Z10:=0,Z0v:=0,Z0q:=([] : List Z01),Z1n:=([] : List Z0k),Z18:=([] : List Z0o),Z1h:=([] : List Z11) } : Z08),17)))) else
        ((Zmp t0 v10 v11 v12 v13))))) else
  (some (.done (.inl (t0.2))))
def Zlz (t1 : Int × (List Z0o)) (v28 : Z0o) (v29 : Int) (v30 v31 : (List Z0f) × Bool) : Option (Ctl (Int × (List Z0o)) (((List Z0o)) ⊕ (Z08 × Int))):=
  (Z24 64 (t1.2 ++ [({ Z2i:=v29,Z1p:=({ Z0v:=v30.1,Z10:=v31.1,Z48:=v28.Z1p.Z48 } : Z54) } : Z0o)]).length).bind fun v33=>
  (some (IntKind.wrap .i64 (t1.1 + (1 : Int)))).bind fun v34=>
  some (.next (v34,(t1.2 ++ [({ Z2i:=v29,Z1p:=({ Z0v:=v30.1,Z10:=v31.1,Z48:=v28.Z1p.Z48 } : Z54) } : Z0o)])))
def Znb (x0 : Z2v) (x1 : List Int) (t1 : Int × (List Z0o)) : Option (Ctl (Int × (List Z0o)) (((List Z0o)) ⊕ (Z08 × Int))):=
  if (decide (t1.1 < (x0.f_C.Z18.length : Int))) = true then
    ((Z0g x0.f_C.Z18 t1.1).bind fun v28=>
    (Z6o x1 v28.Z2i).bind fun v29=>
    (Zdd v28.Z1p.Z0v x1).bind fun v30=>
    (Zdd v28.Z1p.Z10 x1).bind fun v31=>
    if (decide (v29 < 0)) = true then (some (.done (.inr (({ Z10:=0,Z0v:=0,Z0q:=([] : List Z01),Z1n:=([] : List Z0k),Z18:=([] : List Z0o),Z1h:=([] : List Z11) } : Z08),25)))) else
    (if (!v30.2) = true then (some (.done (.inr (({ Z10:=0,Z0v:=0,Z0q:=([] : List Z01),Z1n:=([] : List Z0k),Z18:=([] : List Z0o),Z1h:=([] : List Z11) } : Z08),25)))) else
      (if (!v31.2) = true then (some (.done (.inr (({ Z10:=0,Z0v:=0,Z0q:=([] : List Z01),Z1n:=([] : List Z0k),Z18:=([] : List Z0o),Z1h:=([] : List Z11) } : Z08),25)))) else
        ((Z0g x0.Zea t1.1).bind fun v32=>
          if (decide (v32 > 1)) = true then
            (some (.done (.inr (({ Z10:=0,Z0v:=0,Z0q:=([] : List Z01),Z1n:=([] : List Z0k),Z18:=([] : List Z0o),Z1h:=([] : List Z11) } : Z08),25)))) else
          ((Zlz t1 v28 v29 v30 v31)))))) else
  (some (.done (.inl (t1.2))))
def Zng (x0 : Z2v) (x1 : List Int) (t2 : Int × (List Z11)) : Option (Ctl (Int × (List Z11)) (((List Z11)) ⊕ (Z08 × Int))):=
  if (decide (t2.1 < (x0.f_C.Z1h.length : Int))) = true then
    ((Z0g x0.f_C.Z1h t2.1).bind fun v41=>
    (Z6o x1 v41.Z2i).bind fun v42=>
    if (decide (v42 < 0)) = true then
      (some (.done (.inr (({ Z10:=0,Z0v:=0,Z0q:=([] : List Z01),Z1n:=([] : List Z0k),Z18:=([] : List Z0o),Z1h:=([] : List Z11) } : Z08),1)))) else
    ((Z24 16 (t2.2 ++ [({ Z2i:=v42,Z50:=v41.Z50 } : Z11)]).length).bind fun v43=>
      (some (IntKind.wrap .i64 (t2.1 + (1 : Int)))).bind fun v44=>
      some (.next (v44,(t2.2 ++ [({ Z2i:=v42,Z50:=v41.Z50 } : Z11)]))))) else
  (some (.done (.inl (t2.2))))
def Zid (x0 : Z2v) (x1 : List Int) : Option (Z08 × Int):=
  (Z0d (Znx x0 x1) Z0i (0,([] : List Z0k))).bind fun q1=>
  match q1 with
  | .inl q0=>((Z0d (Znb x0 x1) Z0i (0,([] : List Z0o))).bind fun q3=>
    match q3 with
    | .inl q2=>((Z0d (Zng x0 x1) Z0i (0,([] : List Z11))).bind fun q5=>
      match q5 with
      | .inl q4=>(some (({ Z10:=x0.f_C.Z10,Z0v:=x0.f_C.Z0v,Z0q:=x0.f_C.Z0q,Z1n:=q0,Z18:=q2,Z1h:=q4 } : Z08),0))
      | .inr y0=>(some y0))
    | .inr y1=>(some y1))
  | .inr y2=>(some y2)
def Zn1 (x0 : Z2v) (x1 : List Int) : (Int × (List Z0k)) → SL:=
  fun t0=>⟨168,[(1,.sl false (x1.map Z03)),(2,.ptr (Z6g x0)),(4,.lptr 4 0 0),(6,.lptr 6 0 0),(7,dI t0.1)],[(4,{ sz:=6,rows:=[[dI 0,dI 0,.sl true (([] : List Z01).map Z0l),.sl true (([] : List Z0k).map Z15),.sl true (([] : List Z0o).map Z1a),.sl true (([] : List Z11).map Z1k)]],frz:=0,pure:=false }),(6,{ sz:=6,rows:=[[dI x0.f_C.Z10,dI x0.f_C.Z0v,.sl false (x0.f_C.Z0q.map Z0l),.lsl 1006 0 ((t0.2.map Z15).length),.sl false (x0.f_C.Z18.map Z1a),.sl false (x0.f_C.Z1h.map Z1k)]],frz:=0,pure:=false }),(1006,{ sz:=5,rows:=(t0.2.map Z15),frz:=0,pure:=true })]⟩
def Zv1 (x0 : Z2v) (x1 : List Int) : JT (((List Z0k)) ⊕ (Z08 × Int)):=
  ju (je 0 fun q0 : (List Z0k)=>⟨168,[(1,.sl false (x1.map Z03)),(2,.ptr (Z6g x0)),(4,.lptr 4 0 0),(6,.lptr 6 0 0)],[(4,{ sz:=6,rows:=[[dI 0,dI 0,.sl true (([] : List Z01).map Z0l),.sl true (([] : List Z0k).map Z15),.sl true (([] : List Z0o).map Z1a),.sl true (([] : List Z11).map Z1k)]],frz:=0,pure:=false }),(6,{ sz:=6,rows:=[[dI x0.f_C.Z10,dI x0.f_C.Z0v,.sl false (x0.f_C.Z0q.map Z0l),.lsl 1006 0 ((q0.map Z15).length),.sl false (x0.f_C.Z18.map Z1a),.sl false (x0.f_C.Z1h.map Z1k)]],frz:=0,pure:=false }),(1006,{ sz:=5,rows:=(q0.map Z15),frz:=0,pure:=true })]⟩) (jr Tryz.prog Tryz.f154 R154)
theorem wj154x1 (x0 : Z2v) (x1 : List Int) {t0 : Int × (List Z0k)} {v10 : Z0k} {v11 v12 v13 : Int} {r : Ctl (Int × (List Z0k)) (((List Z0k)) ⊕ (Z08 × Int))} {Γ : Ctx} (h : (Zmp t0 v10 v11 v12 v13) = some r) : Jn Tryz.prog Tryz.f154 Γ (Rd (Zn1 x0 x1) (Zv1 x0 x1) r) 15511 ⟨168,[(1,.sl false (x1.map Z03)),(2,.ptr (Z6g x0)),(4,.lptr 4 0 0),(6,.lptr 6 0 0),(7,dI t0.1),(8,.lptr 8 0 0)],[(4,{ sz:=6,rows:=[[dI 0,dI 0,.sl true (([] : List Z01).map Z0l),.sl true (([] : List Z0k).map Z15),.sl true (([] : List Z0o).map Z1a),.sl true (([] : List Z11).map Z1k)]],frz:=0,pure:=false }),(6,{ sz:=6,rows:=[[dI x0.f_C.Z10,dI x0.f_C.Z0v,.sl false (x0.f_C.Z0q.map Z0l),.lsl 1006 0 ((t0.2.map Z15).length),.sl false (x0.f_C.Z18.map Z1a),.sl false (x0.f_C.Z1h.map Z1k)]],frz:=0,pure:=false }),(8,{ sz:=5,rows:=[[dI v11,dI v12,dI v13,dI v10.Z1f,.str v10.Z1o]],frz:=0,pure:=false }),(1006,{ sz:=5,rows:=(t0.2.map Z15),frz:=0,pure:=true })]⟩:=
  so <| bd h fun v14 e14 h=>bd h fun v15 e15 h=>go [] [rg 10 [(3,br0 1 5),(4,ap e14)],rg 5 [(1,n e15)]] <| nx h
theorem wl154x1 {x0 : Z2v} {x1 : List Int} {t0 : Int × (List Z0k)} {r : Ctl (Int × (List Z0k)) (((List Z0k)) ⊕ (Z08 × Int))} {Γ : Ctx} (h : (Znx x0 x1) t0 = some r) : A Tryz.prog Γ (lpC Tryz.f154 87) [] (Rd (Zn1 x0 x1) (Zv1 x0 x1) r) ((Zn1 x0 x1) t0).s:=
  go [] [rg 4 [(4,ln x0.f_C.Z1n)]] <| br h (fun h8 h=>bd h fun v10 e10 h=>bd h fun v11 e11 h=>bd h fun v12 e12 h=>bd h fun v13 e13 h=>go [8] [rg 6 [(4,ix e10)],rgo 7 [(3,k (w166 e11)),(7,k (w167 e12)),(11,k (w166 e13))] [0,1,2,3,4,5,6,7,8,9,10,11,12,13,14,15,16,17] [13,15,17] [(2,[1]),(3,[0,1,2]),(6,[5]),(7,[0,1,2,3,4,5,6]),(10,[9]),(11,[0,1,2,3,4,5,6,7,8,9,10]),(12,[0,1,2,3,5,6,9,10]),(13,[0,1,2,3,4,5,6,7,8,9,10,11,12]),(14,[0,1,2,3,4,5,6,7,8,9,10,11,12,13]),(15,[0,1,2,3,4,5,6,7,8,9,10,11,12,13,14]),(16,[0,1,2,3,4,5,6,7,8,9,10,11,12,13,14,15]),(17,[0,1,2,3,4,5,6,7,8,9,10,11,12,13,14,15,16])]] <| po <| pr 4 [] <| sp h (fun h9 h=>pr 9 [(4,gs0 h9),(5,gs0 h9),(6,gs0 h9),(7,py h9)] <| pe <| goN [] [] <| bT rfl <| go [] [] <| dn h (i2 iR)) fun h9 h=>
    pr 5 [(4,gw h9 g0),(5,gw h9 g0),(6,gw h9 g0),(7,pn h9)] <| sp h (fun h10 h=>pr 4 [(9,gs0 h10),(10,gs0 h10),(11,gs0 h10),(12,py h10)] <| pe <| goN [] [] <| bT rfl <| go [] [] <| dn h (i2 iR)) fun h10 h=>
      pr 4 [(9,gw h10 g0),(10,gw h10 g0),(11,gw h10 g0),(12,pn h10)] <| pe <| goN [] [] <| br h (fun h11 h=>go [] [] <| dn h (i2 iR)) fun h11 h=>
        go [10] [] <| jn ((wj154x1 x0 x1) h)) fun h8 h=>
  go [] [] <| dn h (i1 iE)
def Znv (q0 : (List Z0k)) (x0 : Z2v) (x1 : List Int) : (Int × (List Z0o)) → SL:=
  fun t1=>⟨168,[(1,.sl false (x1.map Z03)),(2,.ptr (Z6g x0)),(4,.lptr 4 0 0),(6,.lptr 6 0 0),(9,dI t1.1)],[(4,{ sz:=6,rows:=[[dI 0,dI 0,.sl true (([] : List Z01).map Z0l),.sl true (([] : List Z0k).map Z15),.sl true (([] : List Z0o).map Z1a),.sl true (([] : List Z11).map Z1k)]],frz:=0,pure:=false }),(6,{ sz:=6,rows:=[[dI x0.f_C.Z10,dI x0.f_C.Z0v,.sl false (x0.f_C.Z0q.map Z0l),.lsl 1006 0 ((q0.map Z15).length),.lsl 2006 0 ((t1.2.map Z1a).length),.sl false (x0.f_C.Z1h.map Z1k)]],frz:=0,pure:=false }),(1006,{ sz:=5,rows:=(q0.map Z15),frz:=0,pure:=true }),(2006,{ sz:=4,rows:=(t1.2.map Z1a),frz:=0,pure:=true })]⟩
def Zvb (q0 : (List Z0k)) (x0 : Z2v) (x1 : List Int) : JT (((List Z0o)) ⊕ (Z08 × Int)):=
  ju (je 2 fun q2 : (List Z0o)=>⟨168,[(1,.sl false (x1.map Z03)),(2,.ptr (Z6g x0)),(4,.lptr 4 0 0),(6,.lptr 6 0 0)],[(4,{ sz:=6,rows:=[[dI 0,dI 0,.sl true (([] : List Z01).map Z0l),.sl true (([] : List Z0k).map Z15),.sl true (([] : List Z0o).map Z1a),.sl true (([] : List Z11).map Z1k)]],frz:=0,pure:=false }),(6,{ sz:=6,rows:=[[dI x0.f_C.Z10,dI x0.f_C.Z0v,.sl false (x0.f_C.Z0q.map Z0l),.lsl 1006 0 ((q0.map Z15).length),.lsl 2006 0 ((q2.map Z1a).length),.sl false (x0.f_C.Z1h.map Z1k)]],frz:=0,pure:=false }),(1006,{ sz:=5,rows:=(q0.map Z15),frz:=0,pure:=true }),(2006,{ sz:=4,rows:=(q2.map Z1a),frz:=0,pure:=true })]⟩) (jr Tryz.prog Tryz.f154 R154)
theorem wj154x2 (q0 : (List Z0k)) (x0 : Z2v) (x1 : List Int) {t1 : Int × (List Z0o)} {v28 : Z0o} {v29 : Int} {v30 v31 : (List Z0f) × Bool} {r : Ctl (Int × (List Z0o)) (((List Z0o)) ⊕ (Z08 × Int))} {Γ : Ctx} (h : (Zlz t1 v28 v29 v30 v31) = some r) : Jn Tryz.prog Tryz.f154 Γ (Rd (Znv q0 x0 x1) (Zvb q0 x0 x1) r) 389727 ⟨168,[(1,.sl false (x1.map Z03)),(2,.ptr (Z6g x0)),(4,.lptr 4 0 0),(6,.lptr 6 0 0),(9,dI t1.1),(10,.lptr 10 0 0),(11,.sl false (v30.1.map Z1s)),(13,.sl false (v31.1.map Z1s))],[(4,{ sz:=6,rows:=[[dI 0,dI 0,.sl true (([] : List Z01).map Z0l),.sl true (([] : List Z0k).map Z15),.sl true (([] : List Z0o).map Z1a),.sl true (([] : List Z11).map Z1k)]],frz:=0,pure:=false }),(6,{ sz:=6,rows:=[[dI x0.f_C.Z10,dI x0.f_C.Z0v,.sl false (x0.f_C.Z0q.map Z0l),.lsl 1006 0 ((q0.map Z15).length),.lsl 2006 0 ((t1.2.map Z1a).length),.sl false (x0.f_C.Z1h.map Z1k)]],frz:=0,pure:=false }),(10,{ sz:=4,rows:=[[dI v29,.sl false (v28.Z1p.Z0v.map Z1s),.sl false (v28.Z1p.Z10.map Z1s),.bool v28.Z1p.Z48]],frz:=0,pure:=false }),(1006,{ sz:=5,rows:=(q0.map Z15),frz:=0,pure:=true }),(2006,{ sz:=4,rows:=(t1.2.map Z1a),frz:=0,pure:=true })]⟩:=
  so <| bd h fun v33 e34 h=>bd h fun v34 e35 h=>go [] [rg 22 [(3,br0 1 4),(4,ap e34)],rg 14 [(1,n e35)]] <| nx h
theorem wl154x2 (q0 : (List Z0k)) {x0 : Z2v} {x1 : List Int} {t1 : Int × (List Z0o)} {r : Ctl (Int × (List Z0o)) (((List Z0o)) ⊕ (Z08 × Int))} {Γ : Ctx} (h : (Znb x0 x1) t1 = some r) : A Tryz.prog Γ (lpC Tryz.f154 351) [] (Rd (Znv q0 x0 x1) (Zvb q0 x0 x1) r) ((Znv q0 x0 x1) t1).s:=
  go [] [rg 13 [(4,ln x0.f_C.Z18)]] <| br h (fun h22 h=>bd h fun v28 e29 h=>bd h fun v29 e30 h=>bd h fun v30 e31 h=>bd h fun v31 e32 h=>go [19] [rg 15 [(4,ix e29)],rg 16 [(3,k (w166 e30))],rg 17 [(4,k (w168 e31))],rg 18 [(4,k (w168 e32))]] <| po <| pr 4 [] <| sp h (fun h23 h=>pr 15 [(4,gs0 h23),(5,gs0 h23),(6,py h23)] <| pe <| goN [] [] <| bT rfl <| go [] [] <| dn h (i2 iR)) fun h23 h=>
    pr 4 [(4,gw h23 g0),(5,gw h23 g0),(6,pn h23)] <| sp h (fun h24 h=>pr 11 [(8,gs0 h24),(9,gs0 h24),(10,py h24)] <| pe <| goN [] [] <| bT rfl <| go [] [] <| dn h (i2 iR)) fun h24 h=>
      pr 4 [(8,gw h24 g0),(9,gw h24 g0),(10,pn h24)] <| sp h (fun h25 h=>pr 7 [(12,gs0 h25),(13,gs0 h25),(14,gs0 h25),(15,gs0 h25),(16,gs0 h25),(17,gs0 h25),(18,py h25)] <| pe <| goN [] [] <| bT rfl <| go [] [] <| dn h (i2 iR)) fun h25 h=>
        bd h fun v32 e33 h=>pr 7 [(12,gw h25 g0),(13,gw h25 g0),(14,gw h25 g0),(15,gw h25 (ix e33)),(16,gw h25 g0),(17,gw h25 g0),(18,pn h25)] <| pe <| goN [] [] <| br h (fun h26 h=>go [] [] <| dn h (i2 iR)) fun h26 h=>
          go [21] [] <| jn ((wj154x2 q0 x0 x1) h)) fun h22 h=>
  go [] [] <| dn h (i1 iE)
def Zpz (q0 : (List Z0k)) (q2 : (List Z0o)) (x0 : Z2v) (x1 : List Int) : (Int × (List Z11)) → SL:=
  fun t2=>⟨168,[(1,.sl false (x1.map Z03)),(2,.ptr (Z6g x0)),(4,.lptr 4 0 0),(6,.lptr 6 0 0),(15,dI t2.1)],[(4,{ sz:=6,rows:=[[dI 0,dI 0,.sl true (([] : List Z01).map Z0l),.sl true (([] : List Z0k).map Z15),.sl true (([] : List Z0o).map Z1a),.sl true (([] : List Z11).map Z1k)]],frz:=0,pure:=false }),(6,{ sz:=6,rows:=[[dI x0.f_C.Z10,dI x0.f_C.Z0v,.sl false (x0.f_C.Z0q.map Z0l),.lsl 1006 0 ((q0.map Z15).length),.lsl 2006 0 ((q2.map Z1a).length),.lsl 3006 0 ((t2.2.map Z1k).length)]],frz:=0,pure:=false }),(1006,{ sz:=5,rows:=(q0.map Z15),frz:=0,pure:=true }),(2006,{ sz:=4,rows:=(q2.map Z1a),frz:=0,pure:=true }),(3006,{ sz:=2,rows:=(t2.2.map Z1k),frz:=0,pure:=true })]⟩
def J154x3 (q0 : (List Z0k)) (q2 : (List Z0o)) (x0 : Z2v) : JT (((List Z11)) ⊕ (Z08 × Int)):=
  ju (je 4 fun q4 : (List Z11)=>⟨168,[(4,.lptr 4 0 0),(6,.lptr 6 0 0)],[(4,{ sz:=6,rows:=[[dI 0,dI 0,.sl true (([] : List Z01).map Z0l),.sl true (([] : List Z0k).map Z15),.sl true (([] : List Z0o).map Z1a),.sl true (([] : List Z11).map Z1k)]],frz:=0,pure:=false }),(6,{ sz:=6,rows:=[[dI x0.f_C.Z10,dI x0.f_C.Z0v,.sl false (x0.f_C.Z0q.map Z0l),.lsl 1006 0 ((q0.map Z15).length),.lsl 2006 0 ((q2.map Z1a).length),.lsl 3006 0 ((q4.map Z1k).length)]],frz:=0,pure:=false }),(1006,{ sz:=5,rows:=(q0.map Z15),frz:=0,pure:=true }),(2006,{ sz:=4,rows:=(q2.map Z1a),frz:=0,pure:=true }),(3006,{ sz:=2,rows:=(q4.map Z1k),frz:=0,pure:=true })]⟩) (jr Tryz.prog Tryz.f154 R154)
theorem wl154x3 (q0 : (List Z0k)) (q2 : (List Z0o)) {x0 : Z2v} {x1 : List Int} {t2 : Int × (List Z11)} {r : Ctl (Int × (List Z11)) (((List Z11)) ⊕ (Z08 × Int))} {Γ : Ctx} (h : (Zng x0 x1) t2 = some r) : A Tryz.prog Γ (lpC Tryz.f154 1407) [] (Rd (Zpz q0 q2 x0 x1) (J154x3 q0 q2 x0) r) ((Zpz q0 q2 x0 x1) t2).s:=
  go [] [rg 25 [(4,ln x0.f_C.Z1h)]] <| br h (fun h31 h=>bd h fun v41 e43 h=>bd h fun v42 e44 h=>go [] [rg 27 [(4,ix e43)],rg 28 [(3,k (w166 e44))]] <| br h (fun h32 h=>go [] [] <| dn h (i2 iR)) fun h32 h=>
    bd h fun v43 e45 h=>bd h fun v44 e46 h=>go [] [rg 31 [(3,br0 1 2),(4,ap e45)],rg 26 [(1,n e46)]] <| nx h) fun h31 h=>
  go [] [] <| dn h (i1 iE)
theorem w154 {x0 : Z2v} {x1 : List Int} {r : Z08 × Int} (h : Zid x0 x1 = some r) : Z0e Tryz.prog 154 [.agg (Z6g x0),.sl false (x1.map Z03)] (R154 r):=
  cs Tryz.f154 <| go [] [rg 0 [(0,bo)]] <| bd h fun q1 e16 h=>lp (cv:=[.blk 6 3 1006 5]) e16 wl154x1 <| match q1,h with
  | .inl q0,h=>j1 <| (qe <| goN [] [] <| bd h fun q3 e36 h=>lp (cv:=[.blk 6 4 2006 4]) e36 (wl154x2 q0) <| match q3,h with
    | .inl q2,h=>j1 <| (qe <| goN [] [] <| bd h fun q5 e47 h=>lp (cv:=[.blk 6 5 3006 2]) e47 (wl154x3 q0 q2) <| match q5,h with
      | .inl q4,h=>j1 <| (qe <| goN [] [] <| rtB h (.tup [.agg [dI x0.f_C.Z10,dI x0.f_C.Z0v,.sl false (x0.f_C.Z0q.map Z0l),rw_ q0,rw_ q2,rw_ q4],dI 0]) (a2 (a2 trivial (a2 trivial (a2 trivial (a2 (rpI q0) (a2 (rpI q2) (a2 (rpI q4) trivial)))))) (a2 trivial trivial)) (by simp only [rwE] <;> kernel_rfl))
      | .inr y0,h=>j2 <| (qr h))
    | .inr y1,h=>j2 <| (qr h))
  | .inr y2,h=>j2 <| (qr h)
def R132 (y0 : Z08 × Int) : D:= .tup [.agg (Z17 y0.1),.int .i64 y0.2]
def Zim (x0 : List Z00) (x1 : List UInt8) : Option (Z08 × Int):=
  (Zjw x1).bind fun v0=>
  if v0.2.Z2e = true then
    (some (({ Z10:=0,Z0v:=0,Z0q:=([] : List Z01),Z1n:=([] : List Z0k),Z18:=([] : List Z0o),Z1h:=([] : List Z11) } : Z08),3)) else
  ((Zar v0.1.Z29).bind fun v1=>
    if (v1.2 != 0) = true then
      (some (({ Z10:=0,Z0v:=0,Z0q:=([] : List Z01),Z1n:=([] : List Z0k),Z18:=([] : List Z0o),Z1h:=([] : List Z11) } : Z08),v1.2)) else
    ((Z5x v1.1).bind fun v2=>
      if (v2.2 != 0) = true then
        (some (({ Z10:=0,Z0v:=0,Z0q:=([] : List Z01),Z1n:=([] : List Z0k),Z18:=([] : List Z0o),Z1h:=([] : List Z11) } : Z08),v2.2)) else
      ((Zid v0.1 v2.1).bind fun v3=>
        if (v3.2 != 0) = true then
          (some (({ Z10:=0,Z0v:=0,Z0q:=([] : List Z01),Z1n:=([] : List Z0k),Z18:=([] : List Z0o),Z1h:=([] : List Z11) } : Z08),v3.2)) else
        (if (v0.2.f_At != (x1.length : Int)) = true then
            (some (({ Z10:=0,Z0v:=0,Z0q:=([] : List Z01),Z1n:=([] : List Z0k),Z18:=([] : List Z0o),Z1h:=([] : List Z11) } : Z08),10)) else
          ((Zcm x0 ({ Z10:=v3.1.Z10,Z0v:=v3.1.Z0v,Z0q:=v1.1,Z1n:=v3.1.Z1n,Z18:=v3.1.Z18,Z1h:=v3.1.Z1h } : Z08)).bind fun v4=>
            if (v4.2 != 0) = true then
              (some (({ Z10:=0,Z0v:=0,Z0q:=([] : List Z01),Z1n:=([] : List Z0k),Z18:=([] : List Z0o),Z1h:=([] : List Z11) } : Z08),v4.2)) else
            (some (({ Z10:=v3.1.Z10,Z0v:=v3.1.Z0v,Z0q:=v1.1,Z1n:=v3.1.Z1n,Z18:=v3.1.Z18,Z1h:=v3.1.Z1h } : Z08),0)))))))
theorem w132 {x0 : List Z00} {x1 : List UInt8} {r : Z08 × Int} (h : Zim x0 x1 = some r) : Z0e Tryz.prog 132 [.sl false (x0.map Z09),.str x1] (R132 r):=
  cs Tryz.f132 <| bd h fun v0 e0 h=>go [] [rg 1 [(1,k (w152 e0))]] <| br h (fun h0 h=>go [] [] <| rt h) fun h0 h=>
  bd h fun v1 e1 h=>go [] [rg 4 [(2,k (w153 e1))]] <| br h (fun h1 h=>go [] [] <| rt h) fun h1 h=>
    bd h fun v2 e2 h=>go [] [rg 7 [(1,k (w60 e2))]] <| br h (fun h2 h=>go [] [] <| rt h) fun h2 h=>
      bd h fun v3 e3 h=>go [] [rg 10 [(2,k (w154 e3))]] <| br h (fun h3 h=>go [] [] <| rt h) fun h3 h=>
        go [] [] <| br h (fun h4 h=>go [] [] <| rt h) fun h4 h=>
          bd h fun v4 e4 h=>go [] [rg 16 [(2,k (w59 e4))]] <| br h (fun h5 h=>go [] [] <| rt h) fun h5 h=>
            go [] [] <| rt h
def R133 (y0 : (List Int) × Int) : D:= .tup [.sl false (y0.1.map Z03),.int .i64 y0.2]
def Zmh (t0 : Int × (List UInt8) × Int × Bool × (List Int)) : Option (Ctl (Int × (List UInt8) × Int × Bool × (List Int)) (((List UInt8) × Int × Bool × (List Int)))):=
  (Z3d ({ f_S:=t0.2.1,f_At:=t0.2.2.1,Z2e:=t0.2.2.2.1 } : Z12) 2).bind fun v3=>
  (Z24 8 (t0.2.2.2.2 ++ [v3.1]).length).bind fun v4=>
  (some (IntKind.wrap .i64 (t0.1 + (1 : Int)))).bind fun v5=>
  some (.next (v5,v3.2.f_S,v3.2.f_At,v3.2.Z2e,(t0.2.2.2.2 ++ [v3.1])))
def Zm2 (v0 : Int × Z12) (t0 : Int × (List UInt8) × Int × Bool × (List Int)) : Option (Ctl (Int × (List UInt8) × Int × Bool × (List Int)) (((List UInt8) × Int × Bool × (List Int)))):=
  if (decide (t0.1 < v0.1)) = true then (if (!t0.2.2.2.1) = true then
    ((Zmh t0)) else
  (some (.done ((t0.2.1,t0.2.2.1,t0.2.2.2.1,t0.2.2.2.2))))) else
  (some (.done ((t0.2.1,t0.2.2.1,t0.2.2.2.1,t0.2.2.2.2))))
def Zjg (x0 : List UInt8) : Option ((List Int) × Int):=
  (Z3d ({ f_S:=x0,f_At:=0,Z2e:=false } : Z12) 2).bind fun v0=>
  (Z0d (Zm2 v0) Z0i (0,v0.2.f_S,v0.2.f_At,v0.2.Z2e,([] : List Int))).bind fun q0=>
  if q0.2.2.1 = true then
    (some (([] : List Int),3)) else
  (if (q0.2.1 != (x0.length : Int)) = true then
      (some (([] : List Int),10)) else
    ((Zed q0.2.2.2).bind fun v6=>
      if (v6.2 != 0) = true then
        (some (([] : List Int),v6.2)) else
      (some (q0.2.2.2,0))))
def Zkj (v0 : Int × Z12) (x0 : List UInt8) : (Int × (List UInt8) × Int × Bool × (List Int)) → SL:=
  fun t0=>⟨53,[(0,.str x0),(4,dI v0.1),(5,.lptr 5 0 0),(6,.lsl 6 0 ((t0.2.2.2.2.map Z03).length)),(7,dI t0.1)],[(5,{ sz:=3,rows:=[[.str t0.2.1,dI t0.2.2.1,.bool t0.2.2.2.1]],frz:=0,pure:=false }),(6,{ sz:=1,rows:=(t0.2.2.2.2.map Z03),frz:=0,pure:=true })]⟩
def Zsu (x0 : List UInt8) : JT (((List UInt8) × Int × Bool × (List Int))):=
  je 0 fun q0 : (List UInt8) × Int × Bool × (List Int)=>⟨53,[(0,.str x0),(5,.lptr 5 0 0),(6,.lsl 6 0 ((q0.2.2.2.map Z03).length))],[(5,{ sz:=3,rows:=[[.str q0.1,dI q0.2.1,.bool q0.2.2.1]],frz:=0,pure:=false }),(6,{ sz:=1,rows:=(q0.2.2.2.map Z03),frz:=0,pure:=true })]⟩
theorem wj133x1 (v0 : Int × Z12) (x0 : List UInt8) {t0 : Int × (List UInt8) × Int × Bool × (List Int)} {r : Ctl (Int × (List UInt8) × Int × Bool × (List Int)) (((List UInt8) × Int × Bool × (List Int)))} {Γ : Ctx} (h : (Zmh t0) = some r) : Jn Tryz.prog Tryz.f133 Γ (Rd (Zkj v0 x0) (Zsu x0) r) 2199 ⟨53,[(0,.str x0),(4,dI v0.1),(5,.lptr 5 0 0),(6,.lsl 6 0 ((t0.2.2.2.2.map Z03).length)),(7,dI t0.1)],[(5,{ sz:=3,rows:=[[.str t0.2.1,dI t0.2.2.1,.bool t0.2.2.2.1]],frz:=0,pure:=false }),(6,{ sz:=1,rows:=(t0.2.2.2.2.map Z03),frz:=0,pure:=true })]⟩:=
  so <| bd h fun v3 e3 h=>bd h fun v4 e4 h=>bd h fun v5 e5 h=>go [] [rg 7 [(1,k (Z3a e3))],rg 8 [(2,br0 1 0),(3,ap e4)],rg 5 [(1,n e5)]] <| nx h
theorem wl133x1 (x0 : List UInt8) {v0 : Int × Z12} {t0 : Int × (List UInt8) × Int × Bool × (List Int)} {r : Ctl (Int × (List UInt8) × Int × Bool × (List Int)) (((List UInt8) × Int × Bool × (List Int)))} {Γ : Ctx} (h : (Zm2 v0) t0 = some r) : A Tryz.prog Γ (lpC Tryz.f133 87) [] (Rd (Zkj v0 x0) (Zsu x0) r) ((Zkj v0 x0) t0).s:=
  sp h (fun h2 h=>go [] [rg 4 [(2,kb h2)]] <| br h (fun h3 h=>go [6] [] <| jn ((wj133x1 v0 x0) h)) fun h3 h=>
  go [] [] <| dn h (iE)) fun h2 h=>
  go [] [rg 4 [(2,kb h2)]] <| bF rfl <| go [] [] <| dn h (iE)
theorem w133 {x0 : List UInt8} {r : (List Int) × Int} (h : Zjg x0 = some r) : Z0e Tryz.prog 133 [.str x0] (R133 r):=
  cs Tryz.f133 <| bd h fun v0 e0 h=>go [] [rg 1 [(2,k (Z3a e0))],rg 2 [(0,bl 0 0)]] <| bd h fun q0 e6 h=>lp (ps:=[(5,5),(17,6)]) e6 (wl133x1 x0) <| qe <| goN [] [] <| br h (fun h4 h=>go [] [] <| rt h) fun h4 h=>
  go [] [] <| br h (fun h5 h=>go [] [] <| rt h) fun h5 h=>
    bd h fun v6 e7 h=>go [] [rg 13 [(1,kB (a2 (rpI q0.2.2.2) trivial) [rw_ q0.2.2.2] (by simp only [rwE] <;> kernel_rfl) (w50 e7))]] <| br h (fun h6 h=>go [] [] <| rt h) fun h6 h=>
      go [] [] <| rtB h (.tup [rw_ q0.2.2.2,dI 0]) (a2 (rpI q0.2.2.2) (a2 trivial trivial)) (by simp only [rwE] <;> kernel_rfl)
def R101 (y0 : Int) : D:= .int .i64 y0
def Zmr (v7 : (List Int) × Int) (x0 : List Z00) (t0 : Int) : Option (Ctl (Int) (Unit ⊕ Int)):=
  if (decide (t0 < (v7.1.length : Int))) = true then
    ((Z0g v7.1 t0).bind fun v10=>
    (Z83 x0 v10).bind fun v11=>
    if (v11.2 != 0) = true then
      (some (.done (.inr 11))) else
    ((some (IntKind.wrap .i64 (t0 + (1 : Int)))).bind fun v12=>
      some (.next v12))) else
  (some (.done (.inl (()))))
def Zcv (p0 p1 : Int) : Option (Int):=
  if (decide (p1 < p0)) = true then
    (some 21) else
  (some 0)
def Zby (p0 : Int) (v1 : (List UInt8) × Int) (x0 : List Z00) (p1 : Int) : Option (Int):=
  if (decide (v1.2 > 0)) = true then
    ((Zjg v1.1).bind fun v7=>
    if (v7.2 != 0) = true then
      (some v7.2) else
    ((Z0d (Zmr v7 x0) Z0i 0).bind fun q1=>
      match q1 with
      | .inl q0=>((Zcv p0 p1))
      | .inr y0=>(some y0))) else
  ((Zcv p0 p1))
def Ziz (v0 v1 : (List UInt8) × Int) (v2 : Int) (x0 : List Z00) (p0 : Int) : Option (Int):=
  if (v2 == 0) = true then
    ((Zim x0 v0.1).bind fun v6=>
    if (v6.2 != 0) = true then
      (some v6.2) else
    ((Zby p0 v1 x0) v6.1.Z0v)) else
  ((Zby p0 v1 x0) p0)
def Zkl (v0 v1 : (List UInt8) × Int) (v2 : Int) (x0 : List Z00) (x1 : Z0b) (x2 : Z28) : Option (Int):=
  (some (Z1r .i64 x1.Z0h (8 : Int))).bind fun v4=>
  if (v4 == 0) = true then
    ((some (IntKind.wrap .i64 ((x2.Z32.length : Int) + (1 : Int)))).bind fun v5=>
    (Ziz v0 v1 v2 x0) v5) else
  ((Ziz v0 v1 v2 x0) (x2.Z32.length : Int))
def Zhl (x0 : List Z00) (x1 : Z0b) (x2 : Z28) : Option (Int):=
  (Zdx x0 x1.Z1g [67,111,100,101]).bind fun v0=>
  (Zdx x0 x1.Z1g [84,104,114,111,119,110]).bind fun v1=>
  (some (Z1r .i64 x1.Z0h (1280 : Int))).bind fun v2=>
  if (decide (v0.2 > 1)) = true then (some 4) else
  (if (decide (v1.2 > 1)) = true then (some 4) else
    ((some (IntKind.wrap .i64 (v0.2 + v1.2))).bind fun v3=>
      if (v3 != (x1.Z1g.length : Int)) = true then (some 4) else
      (if (!((v2 == 0) == (v0.2 == 1))) = true then
          (some 4) else
        ((Zkl v0 v1 v2 x0 x1 x2)))))
def Zpy (p0 p1 : Int) (v7 : (List Int) × Int) (x0 : List Z00) : Int → SL:=
  fun t0=>⟨112,[(0,.sl false (x0.map Z09)),(12,dI p0),(13,dI p1),(16,.sl false (v7.1.map Z03)),(18,dI t0)],[]⟩
def J101x1 (p0 p1 : Int) : JT (Unit ⊕ Int):=
  ju (je 0 fun q0 : Unit=>⟨112,[(12,dI p0),(13,dI p1)],[]⟩) (jr Tryz.prog Tryz.f101 R101)
theorem wl101x1 (p0 p1 : Int) {v7 : (List Int) × Int} {x0 : List Z00} {t0 : Int} {r : Ctl (Int) (Unit ⊕ Int)} {Γ : Ctx} (h : (Zmr v7 x0) t0 = some r) : A Tryz.prog Γ (lpC Tryz.f101 95743) [] (Rd (Zpy p0 p1 v7 x0) (J101x1 p0 p1) r) ((Zpy p0 p1 v7 x0) t0).s:=
  go [] [rg 20 [(2,ln v7.1)]] <| br h (fun h11 h=>bd h fun v10 e10 h=>bd h fun v11 e11 h=>go [] [rg 22 [(3,ix e10),(5,k (w90 e11))]] <| br h (fun h12 h=>go [] [] <| dn h (i2 iR)) fun h12 h=>
    bd h fun v12 e12 h=>go [] [rg 21 [(1,n e12)]] <| nx h) fun h11 h=>
  go [] [] <| dn h (i1 iE)
theorem Zol {p0 p1 : Int} {r : Int} {Γ : Ctx} (h : (Zcv p0 p1) = some r) : Jn Tryz.prog Tryz.f101 Γ (Den.Ends Tryz.prog Tryz.f101 (R101 r)) 5119 ⟨112,[(12,dI p0),(13,dI p1)],[]⟩:=
  so <| go [] [] <| br h (fun h13 h=>go [] [] <| rt h) fun h13 h=>
  go [] [] <| rt h
theorem Zpl {p0 : Int} {v1 : (List UInt8) × Int} {x0 : List Z00} {p1 : Int} {r : Int} {Γ : Ctx} (h : (Zby p0 v1 x0) p1 = some r) : Jn Tryz.prog Tryz.f101 Γ (Den.Ends Tryz.prog Tryz.f101 (R101 r)) 2559 ⟨112,[(0,.sl false (x0.map Z09)),(9,.str v1.1),(10,dI v1.2),(12,dI p0),(13,dI p1)],[]⟩:=
  so <| go [] [] <| br h (fun h7 h=>bd h fun v7 e7 h=>go [] [rg 16 [(1,k (w133 e7))]] <| br h (fun h8 h=>go [] [] <| rt h) fun h8 h=>
    go [] [] <| bd h fun q1 e13 h=>lp e13 (wl101x1 p0 p1) <| match q1,h with
      | .inl q0,h=>j1 <| (qe <| goN [25] [] <| jn (Zol h))
      | .inr y0,h=>j2 <| (qr h)) fun h7 h=>
  go [25] [] <| jn (Zol h)
theorem Zva {v0 v1 : (List UInt8) × Int} {v2 : Int} {x0 : List Z00} {p0 : Int} {r : Int} {Γ : Ctx} (h : (Ziz v0 v1 v2 x0) p0 = some r) : Jn Tryz.prog Tryz.f101 Γ (Den.Ends Tryz.prog Tryz.f101 (R101 r)) 383 ⟨112,[(0,.sl false (x0.map Z09)),(7,.str v0.1),(9,.str v1.1),(10,dI v1.2),(11,.bool (v2 == 0)),(12,dI p0)],[]⟩:=
  so <| go [] [] <| br h (fun h5 h=>bd h fun v6 e6 h=>go [] [rg 11 [(2,k (w132 e6))]] <| br h (fun h6 h=>go [] [] <| rt h) fun h6 h=>
    go [15] [] <| jn (Zpl h)) fun h5 h=>
  go [15] [] <| jn (Zpl h)
theorem wj101x1 {v0 v1 : (List UInt8) × Int} {v2 : Int} {x0 : List Z00} {x1 : Z0b} {x2 : Z28} {r : Int} {Γ : Ctx} (h : (Zkl v0 v1 v2 x0 x1 x2) = some r) : Jn Tryz.prog Tryz.f101 Γ (Den.Ends Tryz.prog Tryz.f101 (R101 r)) 95 ⟨112,[(0,.sl false (x0.map Z09)),(4,.ptr (Z0t x1)),(5,.ptr (Zbq x2)),(7,.str v0.1),(9,.str v1.1),(10,dI v1.2),(11,.bool (v2 == 0))],[]⟩:=
  so <| bd h fun v4 e4 h=>go [] [rg 6 [(2,ln x2.Z32)],rg 7 [(2,n e4)]] <| br h (fun h4 h=>bd h fun v5 e5 h=>go [9] [rg 8 [(1,n e5)]] <| jn (Zva h)) fun h4 h=>
  go [9] [] <| jn (Zva h)
theorem w101 {x0 : List Z00} {x1 : Z0b} {x2 : Z28} {r : Int} (h : Zhl x0 x1 x2 = some r) : Z0e Tryz.prog 101 [.sl false (x0.map Z09),.agg (Z0t x1),.agg (Zbq x2)] (R101 r):=
  cs Tryz.f101 <| bd h fun v0 e0 h=>bd h fun v1 e1 h=>bd h fun v2 e2 h=>go [4] [rg 0 [(0,bo),(1,bo)],rg 1 [(3,k (w131 e0))],rg 2 [(3,k (w131 e1))],rg 3 [(2,n e2)]] <| po <| pr 3 [] <| sp h (fun h0 h=>pr 18 [(3,gs0 h0),(4,gs0 h0),(5,py h0)] <| pe <| goN [] [] <| bT rfl <| go [] [] <| rt h) fun h0 h=>
  pr 4 [(3,gw h0 g0),(4,gw h0 g0),(5,pn h0)] <| sp h (fun h1 h=>pr 14 [(7,gs0 h1),(8,gs0 h1),(9,gs0 h1),(10,gs0 h1),(11,gs0 h1),(12,gs0 h1),(13,gs0 h1),(14,py h1)] <| pe <| goN [] [] <| bT rfl <| go [] [] <| rt h) fun h1 h=>
    bd h fun v3 e3 h=>pr 9 [(7,gw h1 g0),(8,gw h1 g0),(9,gw h1 (n e3)),(10,gw h1 g0),(11,gw h1 g0),(12,gw h1 (ln x1.Z1g)),(13,gw h1 g0),(14,pn h1)] <| sp h (fun h2 h=>pr 5 [(16,gs0 h2),(17,gs0 h2),(18,gs0 h2),(19,gs0 h2),(20,py h2)] <| pe <| goN [] [] <| bT rfl <| go [] [] <| rt h) fun h2 h=>
      pr 5 [(16,gw h2 g0),(17,gw h2 g0),(18,gw h2 g0),(19,gw h2 g0),(20,pn h2)] <| pe <| goN [] [] <| br h (fun h3 h=>go [] [] <| rt h) fun h3 h=>
        go [6] [] <| jn (wj101x1 h)
def R71 (y0 : Int) : D:= .int .i64 y0
def Zfa (x0 : Z0w) (x1 : Int) : Option (Int):=
  (Z0g x0.Z0m x1).bind fun v0=>
  (Zi7 x0 v0).bind fun v1=>
  if (v1.2.2 != 0) = true then
    (some v1.2.2) else
  ((Zhr x0 v0 v1.1).bind fun v2=>
    if (!v2) = true then
      (some 14) else
    ((Zdp x0.Z20 x0.Z0m x1).bind fun v3=>
      if v3 = true then
        (some 6) else
      ((Zhl x0.Z20 v0 v1.2.1).bind fun v4=>
        some v4)))
theorem w71 {x0 : Z0w} {x1 : Int} {r : Int} (h : Zfa x0 x1 = some r) : Z0e Tryz.prog 71 [.agg (Z2b x0),dI x1] (R71 r):=
  cs Tryz.f71 <| bd h fun v0 e0 h=>bd h fun v1 e1 h=>go [] [rg 0 [(0,bo)],rg 1 [(3,ix e0)],rg 2 [(2,k (w99 e1))]] <| br h (fun h0 h=>go [] [] <| rt h) fun h0 h=>
  bd h fun v2 e2 h=>go [] [rg 5 [(3,k (w100 e2))]] <| br h (fun h1 h=>go [] [] <| rt h) fun h1 h=>
    bd h fun v3 e3 h=>go [] [rg 7 [(5,k (w97 e3))]] <| br h (fun h2 h=>go [] [] <| rt h) fun h2 h=>
      bd h fun v4 e4 h=>go [] [rg 9 [(4,k (w101 e4))]] <| rt h
def R72 (y0 : Bool) : D:= .bool y0
def j72x1 (v0 : Z14) (x0 : Z0w) : Option (Bool):=
  (Z88 v0.Z29 0 2).bind fun v2=>
  (Z3l x0.Z20 v2.1).bind fun v3=>
  some (v3.2 == 0)
def Zjj (x0 : Z0w) : Option (Bool):=
  if ((x0.Z1g.length : Int) == 0) = true then
    (some true) else
  ((Z0g x0.Z1g 0).bind fun v0=>
    if (decide ((x0.Z1g.length : Int) > 1)) = true then (some false) else
    ((Zak x0.Z20 v0 [83,111,117,114,99,101]).bind fun v1=>
      if (!v1) = true then (some false) else
      (if ((v0.Z29.length : Int) != 2) = true then
          (some false) else
        ((j72x1 v0 x0)))))
theorem wj72x1 {v0 : Z14} {x0 : Z0w} {r : Bool} {Γ : Ctx} (h : (j72x1 v0 x0) = some r) : Jn Tryz.prog Tryz.f72 Γ (Den.Ends Tryz.prog Tryz.f72 (R72 r)) 47 ⟨48,[(1,.ptr (Z2b x0)),(3,.lptr 3 0 0)],[(3,{ sz:=2,rows:=[Z1u v0],frz:=0,pure:=false })]⟩:=
  so <| bd h fun v2 e2 h=>bd h fun v3 e3 h=>go [] [rg 6 [(2,k (w103 e2))],rg 7 [(3,k (w94 e3))]] <| rt h
theorem w72 {x0 : Z0w} {r : Bool} (h : Zjj x0 = some r) : Z0e Tryz.prog 72 [.agg (Z2b x0)] (R72 r):=
  cs Tryz.f72 <| go [] [rg 0 [(0,bo)],rg 1 [(2,ln x0.Z1g)]] <| br h (fun h0 h=>go [] [] <| rt h) fun h0 h=>
  bd h fun v0 e0 h=>go [4] [rg 3 [(2,ix e0)]] <| po <| pr 5 [(2,ln x0.Z1g)] <| sp h (fun h1 h=>pr 12 [(5,gs0 h1),(6,gs0 h1),(7,gs0 h1),(8,gs0 h1),(9,gs0 h1),(10,py h1)] <| pe <| goN [] [] <| bT rfl <| go [] [] <| rt h) fun h1 h=>
    bd h fun v1 e1 h=>pr 7 [(5,gw h1 g0),(6,gw h1 g0),(7,gw h1 g0),(8,gw h1 (k (w102 e1))),(9,gw h1 g0),(10,pn h1)] <| sp h (fun h2 h=>pr 5 [(12,gs0 h2),(13,gs0 h2),(14,gs0 h2),(15,gs0 h2),(16,py h2)] <| pe <| goN [] [] <| bT rfl <| go [] [] <| rt h) fun h2 h=>
      pr 5 [(12,gw h2 g0),(13,gw h2 g0),(14,gw h2 g0),(15,gw h2 g0),(16,pn h2)] <| pe <| goN [] [] <| br h (fun h3 h=>go [] [] <| rt h) fun h3 h=>
        go [6] [] <| jn (wj72x1 h)
def R51 (y0 : (List UInt8) × Int) : D:= .tup [.str y0.1,.int .i64 y0.2]
def l51x1 (x0 : Z0w) (t0 : Int) : Option (Ctl (Int) (Unit ⊕ ((List UInt8) × Int))):=
  if (decide (t0 < (x0.Z06.length : Int))) = true then
    ((Zgy x0 t0).bind fun v4=>
    if (v4 != 0) = true then
      ((Zam [105,102,97,99,101] t0).bind fun v5=>
      some (.done (.inr (v5,v4)))) else
    ((some (IntKind.wrap .i64 (t0 + (1 : Int)))).bind fun v6=>
      some (.next v6))) else
  (some (.done (.inl (()))))
def l51x2 (x0 : Z0w) (t1 : Int) : Option (Ctl (Int) (Unit ⊕ ((List UInt8) × Int))):=
  if (decide (t1 < (x0.Z0n.length : Int))) = true then
    ((Zfd x0 t1).bind fun v9=>
    if (v9 != 0) = true then
      ((Zam [102,105,101,108,100] t1).bind fun v10=>
      some (.done (.inr (v10,v9)))) else
    ((some (IntKind.wrap .i64 (t1 + (1 : Int)))).bind fun v11=>
      some (.next v11))) else
  (some (.done (.inl (()))))
def l51x3 (x0 : Z0w) (t2 : Int) : Option (Ctl (Int) (Unit ⊕ ((List UInt8) × Int))):=
  if (decide (t2 < (x0.Z0m.length : Int))) = true then
    ((Zfa x0 t2).bind fun v14=>
    if (v14 != 0) = true then
      ((Zam [109,101,116,104,111,100] t2).bind fun v15=>
      some (.done (.inr (v15,v14)))) else
    ((some (IntKind.wrap .i64 (t2 + (1 : Int)))).bind fun v16=>
      some (.next v16))) else
  (some (.done (.inl (()))))
def Zha (x0 : Z0w) : Option ((List UInt8) × Int):=
  (Zdq x0.Z20).bind fun v0=>
  if (v0.2 != 0) = true then
    (some ([112,111,111,108],v0.2)) else
  ((Zep x0).bind fun v1=>
    if (v1 != 0) = true then
      (some ([99,108,97,115,115],v1)) else
    ((Z0d (l51x1 x0) Z0i 0).bind fun q1=>
      match q1 with
      | .inl q0=>((Z0d (l51x2 x0) Z0i 0).bind fun q3=>
        match q3 with
        | .inl q2=>((Z0d (l51x3 x0) Z0i 0).bind fun q5=>
          match q5 with
          | .inl q4=>((Zjj x0).bind fun v17=>
            if (!v17) = true then
              (some ([115,111,117,114,99,101],4)) else
            (some ([],0)))
          | .inr y0=>(some y0))
        | .inr y1=>(some y1))
      | .inr y2=>(some y2)))
def Zs0 (x0 : Z0w) : Int → SL:=
  fun t0=>⟨75,[(1,.ptr (Z2b x0)),(7,dI t0)],[]⟩
def J51x1 (x0 : Z0w) : JT (Unit ⊕ ((List UInt8) × Int)):=
  ju (je 0 fun q0 : Unit=>⟨75,[(1,.ptr (Z2b x0))],[]⟩) (jr Tryz.prog Tryz.f51 R51)
theorem wl51x1 {x0 : Z0w} {t0 : Int} {r : Ctl (Int) (Unit ⊕ ((List UInt8) × Int))} {Γ : Ctx} (h : (l51x1 x0) t0 = some r) : A Tryz.prog Γ (lpC Tryz.f51 87) [] (Rd (Zs0 x0) (J51x1 x0) r) ((Zs0 x0) t0).s:=
  go [] [rg 8 [(3,ln x0.Z06)]] <| br h (fun h4 h=>bd h fun v4 e4 h=>go [] [rg 10 [(2,k (w68 e4))]] <| br h (fun h5 h=>bd h fun v5 e5 h=>go [] [rg 12 [(1,k (w69 e5))]] <| dn h (i2 iR)) fun h5 h=>
    bd h fun v6 e6 h=>go [] [rg 9 [(1,n e6)]] <| nx h) fun h4 h=>
  go [] [] <| dn h (i1 iE)
def Zt9 (x0 : Z0w) : Int → SL:=
  fun t1=>⟨75,[(1,.ptr (Z2b x0)),(9,dI t1)],[]⟩
def J51x2 (x0 : Z0w) : JT (Unit ⊕ ((List UInt8) × Int)):=
  ju (je 2 fun q2 : Unit=>⟨75,[(1,.ptr (Z2b x0))],[]⟩) (jr Tryz.prog Tryz.f51 R51)
theorem wl51x2 {x0 : Z0w} {t1 : Int} {r : Ctl (Int) (Unit ⊕ ((List UInt8) × Int))} {Γ : Ctx} (h : (l51x2 x0) t1 = some r) : A Tryz.prog Γ (lpC Tryz.f51 175) [] (Rd (Zt9 x0) (J51x2 x0) r) ((Zt9 x0) t1).s:=
  go [] [rg 14 [(3,ln x0.Z0n)]] <| br h (fun h8 h=>bd h fun v9 e10 h=>go [] [rg 16 [(2,k (w70 e10))]] <| br h (fun h9 h=>bd h fun v10 e11 h=>go [] [rg 18 [(1,k (w69 e11))]] <| dn h (i2 iR)) fun h9 h=>
    bd h fun v11 e12 h=>go [] [rg 15 [(1,n e12)]] <| nx h) fun h8 h=>
  go [] [] <| dn h (i1 iE)
def Zq5 (x0 : Z0w) : Int → SL:=
  fun t2=>⟨75,[(1,.ptr (Z2b x0)),(11,dI t2)],[]⟩
def J51x3 (x0 : Z0w) : JT (Unit ⊕ ((List UInt8) × Int)):=
  ju (je 4 fun q4 : Unit=>⟨75,[(1,.ptr (Z2b x0))],[]⟩) (jr Tryz.prog Tryz.f51 R51)
theorem wl51x3 {x0 : Z0w} {t2 : Int} {r : Ctl (Int) (Unit ⊕ ((List UInt8) × Int))} {Γ : Ctx} (h : (l51x3 x0) t2 = some r) : A Tryz.prog Γ (lpC Tryz.f51 351) [] (Rd (Zq5 x0) (J51x3 x0) r) ((Zq5 x0) t2).s:=
  go [] [rg 20 [(3,ln x0.Z0m)]] <| br h (fun h12 h=>bd h fun v14 e16 h=>go [] [rg 22 [(2,k (w71 e16))]] <| br h (fun h13 h=>bd h fun v15 e17 h=>go [] [rg 24 [(1,k (w69 e17))]] <| dn h (i2 iR)) fun h13 h=>
    bd h fun v16 e18 h=>go [] [rg 21 [(1,n e18)]] <| nx h) fun h12 h=>
  go [] [] <| dn h (i1 iE)
theorem w51 {x0 : Z0w} {r : (List UInt8) × Int} (h : Zha x0 = some r) : Z0e Tryz.prog 51 [.agg (Z2b x0)] (R51 r):=
  cs Tryz.f51 <| bd h fun v0 e0 h=>go [] [rg 0 [(0,bo)],rg 1 [(2,k (w66 e0))]] <| br h (fun h0 h=>go [] [] <| rt h) fun h0 h=>
  bd h fun v1 e1 h=>go [] [rg 4 [(1,k (w67 e1))]] <| br h (fun h1 h=>go [] [] <| rt h) fun h1 h=>
    go [] [] <| bd h fun q1 e7 h=>lp e7 wl51x1 <| match q1,h with
      | .inl q0,h=>j1 <| (qe <| goN [] [] <| bd h fun q3 e13 h=>lp e13 wl51x2 <| match q3,h with
        | .inl q2,h=>j1 <| (qe <| goN [] [] <| bd h fun q5 e19 h=>lp e19 wl51x3 <| match q5,h with
          | .inl q4,h=>j1 <| (qe <| bd h fun v17 e20 h=>goN [] [rg 25 [(1,k (w72 e20))]] <| br h (fun h14 h=>go [] [] <| rt h) fun h14 h=>
            go [] [] <| rt h)
          | .inr y0,h=>j2 <| (qr h))
        | .inr y1,h=>j2 <| (qr h))
      | .inr y2,h=>j2 <| (qr h)
def R44 (y0 : Z0w × Int) : D:= .tup [.agg (Z2b y0.1),.int .i64 y0.2]
def Zbi (t0 : Int × (List (List UInt8))) (p2 : List UInt8) (p3 : Int) : Option (Ctl (Int × (List (List UInt8))) (((List (List UInt8))) ⊕ (Z0w × Int))):=
  if (p3 != 0) = true then
    (some (.done (.inr (({ Z20:=([] : List Z00),Z0h:=0,Z2s:=0,Z07:=0,Z06:=([] : List Int),Z0n:=([] : List Z0b),Z0m:=([] : List Z0b),Z1g:=([] : List Z14) } : Z0w),p3)))) else
  ((Z24 16 (t0.2 ++ [p2]).length).bind fun v9=>
    (some (IntKind.wrap .i64 (t0.1 + (1 : Int)))).bind fun v10=>
    some (.next (v10,(t0.2 ++ [p2]))))
def l44x1 (v1 : Z0p × Z25) (x0 : Z0j) (t0 : Int × (List (List UInt8))) : Option (Ctl (Int × (List (List UInt8))) (((List (List UInt8))) ⊕ (Z0w × Int))):=
  if (decide (t0.1 < (v1.2.f_F.Z0m.length : Int))) = true then
    ((Z0g x0.Z0m t0.1).bind fun v6=>
    if v6.Z9e = true then
      ((Z0g v1.2.Z6z t0.1).bind fun v7=>
      (Zj1 v1.2.f_F.Z20 v7).bind fun v8=>
      (Zbi t0) v8.1 v8.2) else
    ((Zbi t0) [] 0)) else
  (some (.done (.inl (t0.2))))
def Zc7 (t1 : Int × (List Z0b)) (v1 : Z0p × Z25) (p7 : List Z14) : Option (Ctl (Int × (List Z0b)) (((List Z0b)) ⊕ (Z0w × Int))):=
  (Z0g v1.2.f_F.Z0m t1.1).bind fun v33=>
  (Z24 48 (t1.2 ++ [({ Z0h:=v33.Z0h,Z02:=v33.Z02,Z1l:=v33.Z1l,Z1g:=p7 } : Z0b)]).length).bind fun v34=>
  (some (IntKind.wrap .i64 (t1.1 + (1 : Int)))).bind fun v35=>
  some (.next (v35,(t1.2 ++ [({ Z0h:=v33.Z0h,Z02:=v33.Z02,Z1l:=v33.Z1l,Z1g:=p7 } : Z0b)])))
def Zcl (t1 : Int × (List Z0b)) (v1 : Z0p × Z25) (p6 : List Z14) : Option (Ctl (Int × (List Z0b)) (((List Z0b)) ⊕ (Z0w × Int))):=
  (Z0g v1.2.Z60 t1.1).bind fun v28=>
  if (v28.a1 != 0) = true then
    ((Z0g v1.2.Z7r t1.1).bind fun v29=>
    (Zed v29).bind fun v30=>
    if (v30.2 != 0) = true then
      (some (.done (.inr (({ Z20:=([] : List Z00),Z0h:=0,Z2s:=0,Z07:=0,Z06:=([] : List Int),Z0n:=([] : List Z0b),Z0m:=([] : List Z0b),Z1g:=([] : List Z14) } : Z0w),v30.2)))) else
    ((Z0g v1.2.Z60 t1.1).bind fun v31=>
      (Z24 24 (p6 ++ [({ Z8q:=v31.a1,Z29:=v30.1 } : Z14)]).length).bind fun v32=>
      (Zc7 t1 v1) (p6 ++ [({ Z8q:=v31.a1,Z29:=v30.1 } : Z14)]))) else
  ((Zc7 t1 v1) p6)
def l44x2 (q0 : (List (List UInt8))) (v1 : Z0p × Z25) (x0 : Z0j) (t1 : Int × (List Z0b)) : Option (Ctl (Int × (List Z0b)) (((List Z0b)) ⊕ (Z0w × Int))):=
  if (decide (t1.1 < (v1.2.f_F.Z0m.length : Int))) = true then
    ((Z0g x0.Z0m t1.1).bind fun v23=>
    if v23.Z9e = true then
      ((Z0g v1.2.Z60 t1.1).bind fun v24=>
      (Z2r t1.1 q0.length).bind fun v25=>
      (q0[v25]?).bind fun v26=>
      (Z24 24 (([] : List Z14) ++ [({ Z8q:=v24.a0,Z29:=v26 } : Z14)]).length).bind fun v27=>
      (Zcl t1 v1) (([] : List Z14) ++ [({ Z8q:=v24.a0,Z29:=v26 } : Z14)])) else
    ((Zcl t1 v1) ([] : List Z14))) else
  (some (.done (.inl (t1.2))))
def Zg2 (x0 : Z0j) : Option (Z0w × Int):=
  (Zhb x0).bind fun v0=>
  if (!v0) = true then
    (some (({ Z20:=([] : List Z00),Z0h:=0,Z2s:=0,Z07:=0,Z06:=([] : List Int),Z0n:=([] : List Z0b),Z0m:=([] : List Z0b),Z1g:=([] : List Z14) } : Z0w),4)) else
  ((Zi9 ({ f_P:=([] : List Z00),f_E:=0 } : Z0p) x0).bind fun v1=>
    if (v1.1.f_E != 0) = true then
      (some (({ Z20:=([] : List Z00),Z0h:=0,Z2s:=0,Z07:=0,Z06:=([] : List Int),Z0n:=([] : List Z0b),Z0m:=([] : List Z0b),Z1g:=([] : List Z14) } : Z0w),v1.1.f_E)) else
    ((Z0d (l44x1 v1 x0) Z0i (0,([] : List (List UInt8)))).bind fun q1=>
      match q1 with
      | .inl q0=>((Z0d (l44x2 q0 v1 x0) Z0i (0,([] : List Z0b))).bind fun q3=>
        match q3 with
        | .inl q2=>((Zha ({ Z20:=v1.2.f_F.Z20,Z0h:=v1.2.f_F.Z0h,Z2s:=v1.2.f_F.Z2s,Z07:=v1.2.f_F.Z07,Z06:=v1.2.f_F.Z06,Z0n:=v1.2.f_F.Z0n,Z0m:=q2,Z1g:=v1.2.f_F.Z1g } : Z0w)).bind fun v36=>
          if (v36.2 != 0) = true then
            (some (({ Z20:=([] : List Z00),Z0h:=0,Z2s:=0,Z07:=0,Z06:=([] : List Int),Z0n:=([] : List Z0b),Z0m:=([] : List Z0b),Z1g:=([] : List Z14) } : Z0w),v36.2)) else
          (some (({ Z20:=v1.2.f_F.Z20,Z0h:=v1.2.f_F.Z0h,Z2s:=v1.2.f_F.Z2s,Z07:=v1.2.f_F.Z07,Z06:=v1.2.f_F.Z06,Z0n:=v1.2.f_F.Z0n,Z0m:=q2,Z1g:=v1.2.f_F.Z1g } : Z0w),0)))
        | .inr y0=>(some y0))
      | .inr y1=>(some y1)))
def Zk6 (v1 : Z0p × Z25) (x0 : Z0j) : (Int × (List (List UInt8))) → SL:=
  fun t0=>⟨161,[(1,.ptr (Z2n x0)),(2,.lptr 2 0 0),(5,.lptr 5 0 0),(6,.lptr 6 0 0),(7,.lsl 7 0 ((t0.2.map Z3o).length)),(8,dI t0.1)],[(2,{ sz:=8,rows:=[[.sl true (([] : List Z00).map Z09),dI 0,dI 0,dI 0,.sl true (([] : List Int).map Z03),.sl true (([] : List Z0b).map Z0t),.sl true (([] : List Z0b).map Z0t),.sl true (([] : List Z14).map Z1u)]],frz:=0,pure:=false }),(5,{ sz:=11,rows:=[Z72 v1.2],frz:=0,pure:=false }),(6,{ sz:=8,rows:=[Z2b v1.2.f_F],frz:=0,pure:=false }),(7,{ sz:=1,rows:=(t0.2.map Z3o),frz:=0,pure:=true })]⟩
def J44x1 (v1 : Z0p × Z25) (x0 : Z0j) : JT (((List (List UInt8))) ⊕ (Z0w × Int)):=
  ju (je 0 fun q0 : (List (List UInt8))=>⟨161,[(1,.ptr (Z2n x0)),(2,.lptr 2 0 0),(5,.lptr 5 0 0),(6,.lptr 6 0 0),(7,.lsl 7 0 ((q0.map Z3o).length))],[(2,{ sz:=8,rows:=[[.sl true (([] : List Z00).map Z09),dI 0,dI 0,dI 0,.sl true (([] : List Int).map Z03),.sl true (([] : List Z0b).map Z0t),.sl true (([] : List Z0b).map Z0t),.sl true (([] : List Z14).map Z1u)]],frz:=0,pure:=false }),(5,{ sz:=11,rows:=[Z72 v1.2],frz:=0,pure:=false }),(6,{ sz:=8,rows:=[Z2b v1.2.f_F],frz:=0,pure:=false }),(7,{ sz:=1,rows:=(q0.map Z3o),frz:=0,pure:=true })]⟩) (jr Tryz.prog Tryz.f44 R44)
theorem Zt7 (v1 : Z0p × Z25) (x0 : Z0j) {t0 : Int × (List (List UInt8))} {p2 : List UInt8} {p3 : Int} {r : Ctl (Int × (List (List UInt8))) (((List (List UInt8))) ⊕ (Z0w × Int))} {Γ : Ctx} (h : (Zbi t0) p2 p3 = some r) : Jn Tryz.prog Tryz.f44 Γ (Rd (Zk6 v1 x0) (J44x1 v1 x0) r) 313727 ⟨161,[(1,.ptr (Z2n x0)),(2,.lptr 2 0 0),(5,.lptr 5 0 0),(6,.lptr 6 0 0),(7,.lsl 7 0 ((t0.2.map Z3o).length)),(8,dI t0.1),(9,.str p2),(10,dI p3)],[(2,{ sz:=8,rows:=[[.sl true (([] : List Z00).map Z09),dI 0,dI 0,dI 0,.sl true (([] : List Int).map Z03),.sl true (([] : List Z0b).map Z0t),.sl true (([] : List Z0b).map Z0t),.sl true (([] : List Z14).map Z1u)]],frz:=0,pure:=false }),(5,{ sz:=11,rows:=[Z72 v1.2],frz:=0,pure:=false }),(6,{ sz:=8,rows:=[Z2b v1.2.f_F],frz:=0,pure:=false }),(7,{ sz:=1,rows:=(t0.2.map Z3o),frz:=0,pure:=true })]⟩:=
  so <| go [] [] <| br h (fun h7 h=>go [] [] <| dn h (i2 iR)) fun h7 h=>
  bd h fun v9 e9 h=>bd h fun v10 e10 h=>go [] [rg 17 [(2,br0 1 0),(3,ap e9)],rg 11 [(1,n e10)]] <| nx h
theorem wl44x1 {v1 : Z0p × Z25} {x0 : Z0j} {t0 : Int × (List (List UInt8))} {r : Ctl (Int × (List (List UInt8))) (((List (List UInt8))) ⊕ (Z0w × Int))} {Γ : Ctx} (h : (l44x1 v1 x0) t0 = some r) : A Tryz.prog Γ (lpC Tryz.f44 1407) [] (Rd (Zk6 v1 x0) (J44x1 v1 x0) r) ((Zk6 v1 x0) t0).s:=
  go [] [rg 10 [(3,ln v1.2.f_F.Z0m)]] <| br h (fun h5 h=>bd h fun v6 e6 h=>go [] [rg 13 [(3,ix e6)]] <| br h (fun h6 h=>bd h fun v7 e7 h=>bd h fun v8 e8 h=>go [15] [rgo 14 [(5,ix e7),(7,k (w49 e8))] [0,1,2,3,4,5,6,7,8,9,10,11,12] [] [(1,[0]),(3,[2]),(5,[2,3,4]),(6,[2,3,4,5]),(7,[0,1,2,3,4,5,6]),(8,[0,1,2,3,4,5,6,7]),(9,[0,1,2,3,4,5,6,7,8]),(10,[0,1,2,3,4,5,6,7,8]),(11,[0,1,2,3,4,5,6,7,8,9]),(12,[0,1,2,3,4,5,6,7,8,9,10,11])]] <| jn ((Zt7 v1 x0) h)) fun h6 h=>
    go [15] [] <| jn ((Zt7 v1 x0) h)) fun h5 h=>
  go [] [] <| dn h (i1 iE)
def Zez (q0 : (List (List UInt8))) (v1 : Z0p × Z25) (x0 : Z0j) : (Int × (List Z0b)) → SL:=
  fun t1=>⟨161,[(1,.ptr (Z2n x0)),(2,.lptr 2 0 0),(5,.lptr 5 0 0),(6,.lptr 6 0 0),(7,.lsl 7 0 ((q0.map Z3o).length)),(11,.lsl 11 0 ((t1.2.map Z0t).length)),(12,dI t1.1)],[(2,{ sz:=8,rows:=[[.sl true (([] : List Z00).map Z09),dI 0,dI 0,dI 0,.sl true (([] : List Int).map Z03),.sl true (([] : List Z0b).map Z0t),.sl true (([] : List Z0b).map Z0t),.sl true (([] : List Z14).map Z1u)]],frz:=0,pure:=false }),(5,{ sz:=11,rows:=[Z72 v1.2],frz:=0,pure:=false }),(6,{ sz:=8,rows:=[Z2b v1.2.f_F],frz:=0,pure:=false }),(7,{ sz:=1,rows:=(q0.map Z3o),frz:=0,pure:=true }),(11,{ sz:=4,rows:=(t1.2.map Z0t),frz:=0,pure:=true })]⟩
def J44x2 (v1 : Z0p × Z25) : JT (((List Z0b)) ⊕ (Z0w × Int)):=
  ju (je 2 fun q2 : (List Z0b)=>⟨161,[(2,.lptr 2 0 0),(6,.lptr 6 0 0),(11,.lsl 11 0 ((q2.map Z0t).length))],[(2,{ sz:=8,rows:=[[.sl true (([] : List Z00).map Z09),dI 0,dI 0,dI 0,.sl true (([] : List Int).map Z03),.sl true (([] : List Z0b).map Z0t),.sl true (([] : List Z0b).map Z0t),.sl true (([] : List Z14).map Z1u)]],frz:=0,pure:=false }),(6,{ sz:=8,rows:=[Z2b v1.2.f_F],frz:=0,pure:=false }),(11,{ sz:=4,rows:=(q2.map Z0t),frz:=0,pure:=true })]⟩) (jr Tryz.prog Tryz.f44 R44)
theorem Zu1 (q0 : (List (List UInt8))) (x0 : Z0j) {t1 : Int × (List Z0b)} {v1 : Z0p × Z25} {p7 : List Z14} {r : Ctl (Int × (List Z0b)) (((List Z0b)) ⊕ (Z0w × Int))} {Γ : Ctx} (h : (Zc7 t1 v1) p7 = some r) : Jn Tryz.prog Tryz.f44 Γ (Rd (Zez q0 v1 x0) (J44x2 v1) r) 1517055 ⟨161,[(1,.ptr (Z2n x0)),(2,.lptr 2 0 0),(5,.lptr 5 0 0),(6,.lptr 6 0 0),(7,.lsl 7 0 ((q0.map Z3o).length)),(11,.lsl 11 0 ((t1.2.map Z0t).length)),(12,dI t1.1),(13,.lsl 13 0 ((p7.map Z1u).length))],[(2,{ sz:=8,rows:=[[.sl true (([] : List Z00).map Z09),dI 0,dI 0,dI 0,.sl true (([] : List Int).map Z03),.sl true (([] : List Z0b).map Z0t),.sl true (([] : List Z0b).map Z0t),.sl true (([] : List Z14).map Z1u)]],frz:=0,pure:=false }),(5,{ sz:=11,rows:=[Z72 v1.2],frz:=0,pure:=false }),(6,{ sz:=8,rows:=[Z2b v1.2.f_F],frz:=0,pure:=false }),(7,{ sz:=1,rows:=(q0.map Z3o),frz:=0,pure:=true }),(11,{ sz:=4,rows:=(t1.2.map Z0t),frz:=0,pure:=true }),(13,{ sz:=2,rows:=(p7.map Z1u),frz:=0,pure:=true })]⟩:=
  so <| bd h fun v33 e34 h=>bd h fun v34 e35 h=>bd h fun v35 e36 h=>go [] [rg 30 [(3,ix e34)],rg 31 [(9,br2 (A:=([({ Z0h:=v33.Z0h,Z02:=v33.Z02,Z1l:=v33.Z1l,Z1g:=p7 } : Z0b)] : List Z0b).map Z0t) (a2 trivial (a2 trivial (a2 trivial (a2 (rpI p7) trivial)))) [[dI v33.Z0h,dI v33.Z02,dI v33.Z1l,rw_ p7]] (by simp only [rwE] <;> kernel_rfl)),(10,ap e35)],rg 21 [(1,n e36)]] <| nx h
theorem Zqy (q0 : (List (List UInt8))) (x0 : Z0j) {t1 : Int × (List Z0b)} {v1 : Z0p × Z25} {p6 : List Z14} {r : Ctl (Int × (List Z0b)) (((List Z0b)) ⊕ (Z0w × Int))} {Γ : Ctx} (h : (Zcl t1 v1) p6 = some r) : Jn Tryz.prog Tryz.f44 Γ (Rd (Zez q0 v1 x0) (J44x2 v1) r) 1254911 ⟨161,[(1,.ptr (Z2n x0)),(2,.lptr 2 0 0),(5,.lptr 5 0 0),(6,.lptr 6 0 0),(7,.lsl 7 0 ((q0.map Z3o).length)),(11,.lsl 11 0 ((t1.2.map Z0t).length)),(12,dI t1.1),(13,.lsl 13 0 ((p6.map Z1u).length))],[(2,{ sz:=8,rows:=[[.sl true (([] : List Z00).map Z09),dI 0,dI 0,dI 0,.sl true (([] : List Int).map Z03),.sl true (([] : List Z0b).map Z0t),.sl true (([] : List Z0b).map Z0t),.sl true (([] : List Z14).map Z1u)]],frz:=0,pure:=false }),(5,{ sz:=11,rows:=[Z72 v1.2],frz:=0,pure:=false }),(6,{ sz:=8,rows:=[Z2b v1.2.f_F],frz:=0,pure:=false }),(7,{ sz:=1,rows:=(q0.map Z3o),frz:=0,pure:=true }),(11,{ sz:=4,rows:=(t1.2.map Z0t),frz:=0,pure:=true }),(13,{ sz:=2,rows:=(p6.map Z1u),frz:=0,pure:=true })]⟩:=
  so <| bd h fun v28 e29 h=>go [] [rg 25 [(3,ix e29),(4,ax 1 2)]] <| br h (fun h14 h=>bd h fun v29 e30 h=>bd h fun v30 e31 h=>go [] [rg 26 [(3,ix e30),(5,k (w50 e31))]] <| br h (fun h15 h=>go [] [] <| dn h (i2 iR)) fun h15 h=>
    bd h fun v31 e32 h=>bd h fun v32 e33 h=>go [30] [rg 29 [(4,ix e32),(5,ax 1 2),(9,br0 1 2),(10,ap e33)]] <| jn ((Zu1 q0 x0) h)) fun h14 h=>
  go [30] [] <| jn ((Zu1 q0 x0) h)
theorem wl44x2 {q0 : (List (List UInt8))} {v1 : Z0p × Z25} {x0 : Z0j} {t1 : Int × (List Z0b)} {r : Ctl (Int × (List Z0b)) (((List Z0b)) ⊕ (Z0w × Int))} {Γ : Ctx} (h : (l44x2 q0 v1 x0) t1 = some r) : A Tryz.prog Γ (lpC Tryz.f44 5631) [] (Rd (Zez q0 v1 x0) (J44x2 v1) r) ((Zez q0 v1 x0) t1).s:=
  go [] [rg 20 [(3,ln v1.2.f_F.Z0m)]] <| br h (fun h12 h=>bd h fun v23 e24 h=>go [] [rg 22 [(0,bl 0 2)],rg 23 [(3,ix e24)]] <| br h (fun h13 h=>bd h fun v24 e25 h=>bd h fun v25 e26 h=>bd h fun v26 e27 h=>bd h fun v27 e28 h=>go [25] [rgo 24 [(4,ix e25),(5,ax 0 2),(9,ia 7 e26),(10,lb e27),(12,br0 1 2),(13,ap e28)] [0,1,2,3,4,5,6,7,8,9,10,11,12,13,14] [13] [(2,[1]),(4,[1,2,3]),(5,[1,2,3,4]),(6,[1,2,3,4,5]),(9,[7,8]),(10,[7,8,9]),(11,[1,2,3,4,5,6,7,8,9,10]),(12,[1,2,3,4,5,6,7,8,9,10,11]),(13,[0,1,2,3,4,5,6,7,8,9,10,11,12]),(14,[0,1,2,3,4,5,6,7,8,9,10,11,12,13])]] <| jn (ps:=[(2,2),(5,5),(6,6),(7,7),(11,11),(81,13)]) ((Zqy q0 x0) h)) fun h13 h=>
    go [25] [] <| jn (ps:=[(2,2),(5,5),(6,6),(7,7),(11,11),(81,13)]) ((Zqy q0 x0) h)) fun h12 h=>
  go [] [] <| dn h (i1 iE)
theorem w44 {x0 : Z0j} {r : Z0w × Int} (h : Zg2 x0 = some r) : Z0e Tryz.prog 44 [.agg (Z2n x0)] (R44 r):=
  cs Tryz.f44 <| bd h fun v0 e0 h=>go [] [rg 0 [(0,bo)],rg 1 [(1,k (w47 e0))]] <| br h (fun h0 h=>go [] [] <| rt h) fun h0 h=>
  go [4] [] <| cvE [.loose 24 0] <| so <| bd h fun v1 e1 h=>go [] [rg 4 [(2,ko [24] (w48 e1))]] <| br h (fun h1 h=>go [] [rgo 6 [] [0,1,2,3,4,5,6] [5,3001,4005,3002,3003,3004,10024] [(2,[1]),(3,[1,2]),(4,[1,2,3]),(5,[0]),(6,[0,1,2,3,4,5])]] <| rt h) fun h1 h=>
    go [] [rg 8 [(0,bl 0 0)]] <| bd h fun q1 e11 h=>lp (ps:=[(2,2),(5,5),(6,6),(40,7)]) e11 wl44x1 <| match q1,h with
      | .inl q0,h=>j1 <| (qe <| goN [] [rg 18 [(0,bl 0 4)]] <| bd h fun q3 e37 h=>lp (ps:=[(2,2),(5,5),(6,6),(7,7),(73,11)]) e37 wl44x2 <| match q3,h with
        | .inl q2,h=>j1 <| (qe <| bd h fun v36 e38 h=>goN [] [rg 33 [(1,kB (a2 (a2 trivial (a2 trivial (a2 trivial (a2 trivial (a2 trivial (a2 trivial (a2 (rpI q2) (a2 trivial trivial)))))))) trivial) [.agg [.sl false (v1.2.f_F.Z20.map Z09),dI v1.2.f_F.Z0h,dI v1.2.f_F.Z2s,dI v1.2.f_F.Z07,.sl false (v1.2.f_F.Z06.map Z03),.sl false (v1.2.f_F.Z0n.map Z0t),rw_ q2,.sl false (v1.2.f_F.Z1g.map Z1u)]] (by simp only [rwE] <;> kernel_rfl) (w51 e38))]] <| br h (fun h16 h=>go [] [] <| rt h) fun h16 h=>
          go [] [] <| rtB h (.tup [.agg [.sl false (v1.2.f_F.Z20.map Z09),dI v1.2.f_F.Z0h,dI v1.2.f_F.Z2s,dI v1.2.f_F.Z07,.sl false (v1.2.f_F.Z06.map Z03),.sl false (v1.2.f_F.Z0n.map Z0t),rw_ q2,.sl false (v1.2.f_F.Z1g.map Z1u)],dI 0]) (a2 (a2 trivial (a2 trivial (a2 trivial (a2 trivial (a2 trivial (a2 trivial (a2 (rpI q2) (a2 trivial trivial)))))))) (a2 trivial trivial)) (by simp only [rwE] <;> kernel_rfl))
        | .inr y0,h=>j2 <| (qr h))
      | .inr y1,h=>j2 <| (qr h)
def R36 (y0 : Int) : D:= .int .i64 y0
def Zln (x0 : Z0j) : Option (Int):=
  (Zg2 x0).bind fun v0=>
  some v0.2
theorem w36 {x0 : Z0j} {r : Int} (h : Zln x0 = some r) : Z0e Tryz.prog 36 [.agg (Z2n x0)] (R36 r):=
  cs Tryz.f36 <| bd h fun v0 e0 h=>go [] [rg 0 [(0,bo)],rg 1 [(1,k (w44 e0))]] <| rt h
def R38 (y0 : Bool) : D:= .bool y0
def Zab (x0 : Z0c) (x1 x2 : Int) (x3 : List UInt8) (x4 : Bool) : Option (Bool):=
  if (decide (x1 ≥ 0)) = true then (if (decide (x1 < x2)) = true then ((Z0g x0.Z1i x1).bind fun v0=>
      if (v0.Z0s.Z02 == x3) = true then ((Z0g x0.Z1i x1).bind fun v1=>
        (some (Z1r .i64 v1.Z0s.Z0h (512 : Int))).bind fun v2=>
        some ((v2 != 0) == x4)) else
      (some false)) else
    (some false)) else
  (some false)
theorem w38 {x0 : Z0c} {x1 x2 : Int} {x3 : List UInt8} {x4 : Bool} {r : Bool} (h : Zab x0 x1 x2 x3 x4 = some r) : Z0e Tryz.prog 38 [.agg (Z1x x0),dI x1,dI x2,.str x3,.bool x4] (R38 r):=
  cs Tryz.f38 <| go [1] [rg 0 [(0,bo)]] <| po <| pr 3 [] <| sp h (fun h0 h=>pr 5 [(3,gw h0 g0),(4,gw h0 g0),(5,gw h0 g0),(6,py h0)] <| sp h (fun h1 h=>bd h fun v0 e0 h=>pr 11 [(8,gw h1 g0),(9,gw h1 g0),(10,gw h1 g0),(11,gw h1 (ix e0)),(12,gw h1 g0),(13,gw h1 g0),(14,gw h1 g0),(15,gw h1 g0),(16,gw h1 g0),(17,py h1)] <| sp h (fun h2 h=>bd h fun v1 e1 h=>bd h fun v2 e2 h=>pr 13 [(19,gw h2 g0),(20,gw h2 g0),(21,gw h2 g0),(22,gw h2 (ix e1)),(23,gw h2 g0),(24,gw h2 g0),(25,gw h2 g0),(26,gw h2 (n e2)),(27,gw h2 g0),(28,gw h2 g0),(29,gw h2 g0),(30,py h2)] <| pe <| goN [] [] <| rt h) fun h2 h=>
      pr 13 [(19,gs1 h2),(20,gs1 h2),(21,gs1 h2),(22,gs1 h2),(23,gs1 h2),(24,gs1 h2),(25,gs1 h2),(26,gs1 h2),(27,gs1 h2),(28,gs1 h2),(29,gs1 h2),(30,pn h2)] <| pe <| goN [] [] <| rt h) fun h1 h=>
    pr 24 [(8,gs1 h1),(9,gs1 h1),(10,gs1 h1),(11,gs1 h1),(12,gs1 h1),(13,gs1 h1),(14,gs1 h1),(15,gs1 h1),(16,gs1 h1),(17,pn h1)] <| pe <| goN [] [] <| rt h) fun h0 h=>
  pr 29 [(3,gs1 h0),(4,gs1 h0),(5,gs1 h0),(6,pn h0)] <| pe <| goN [] [] <| rt h
def R39 (y0 : Int × Bool) : D:= .tup [.int .i64 y0.1,.bool y0.2]
def l39x1 (x0 : Z0c) (x1 : Int) (x2 : List UInt8) (t0 : Int) : Option (Ctl (Int) (Unit ⊕ (Int × Bool))):=
  if (decide (t0 < (x0.Z2p.length : Int))) = true then
    ((Z0g x0.Z2p t0).bind fun v3=>
    if (v3.Z0u == x1) = true then ((Z0g x0.Z2p t0).bind fun v4=>
    if (v4.Z02 == x2) = true then
      ((Z0g x0.Z2p t0).bind fun v5=>
      some (.done (.inr (v5.Z1f,true)))) else
    ((some (IntKind.wrap .i64 (t0 + (1 : Int)))).bind fun v6=>
      some (.next v6))) else
    ((some (IntKind.wrap .i64 (t0 + (1 : Int)))).bind fun v7=>
    some (.next v7))) else
  (some (.done (.inl (()))))
def Zgs (x0 : Z0c) (x1 : Int) (x2 : List UInt8) : Option (Int × Bool):=
  (Z0d (l39x1 x0 x1 x2) Z0i 0).bind fun q1=>
  match q1 with
  | .inl q0=>(some (0,false))
  | .inr y0=>(some y0)
def Zoc (x0 : Z0c) (x1 : Int) (x2 : List UInt8) : Int → SL:=
  fun t0=>⟨40,[(1,dI x1),(2,.str x2),(3,.ptr (Z1x x0)),(8,dI t0)],[]⟩
def J39x1 : JT (Unit ⊕ (Int × Bool)):=
  ju (je 0 fun q0 : Unit=>⟨40,[],[]⟩) (jr Tryz.prog Tryz.f39 R39)
theorem wl39x1 {x0 : Z0c} {x1 : Int} {x2 : List UInt8} {t0 : Int} {r : Ctl (Int) (Unit ⊕ (Int × Bool))} {Γ : Ctx} (h : (l39x1 x0 x1 x2) t0 = some r) : A Tryz.prog Γ (lpC Tryz.f39 21) [] (Rd (Zoc x0 x1 x2) J39x1 r) ((Zoc x0 x1 x2) t0).s:=
  go [] [rg 2 [(3,ln x0.Z2p)]] <| br h (fun h3 h=>bd h fun v3 e3 h=>sp h (fun h4 h=>bd h fun v4 e4 h=>go [] [rg 4 [(3,ix e3),(7,kb h4),(12,ix e4)]] <| br h (fun h5 h=>bd h fun v5 e5 h=>go [] [rg 5 [(3,ix e5)]] <| dn h (i2 iR)) fun h5 h=>
    bd h fun v6 e6 h=>go [] [rg 3 [(1,n e6)]] <| nx h) fun h4 h=>
    go [] [rg 4 [(3,ix e3),(7,kb h4)]] <| bF rfl <| bd h fun v7 e7 h=>go [] [rg 3 [(1,n e7)]] <| nx h) fun h3 h=>
  go [] [] <| dn h (i1 iE)
theorem w39 {x0 : Z0c} {x1 : Int} {x2 : List UInt8} {r : Int × Bool} (h : Zgs x0 x1 x2 = some r) : Z0e Tryz.prog 39 [.agg (Z1x x0),dI x1,.str x2] (R39 r):=
  cs Tryz.f39 <| go [] [rg 0 [(0,bo)]] <| bd h fun q1 e8 h=>lp e8 wl39x1 <| match q1,h with
  | .inl q0,h=>j1 <| (qe <| goN [] [] <| rt h)
  | .inr y0,h=>j2 <| (qr h)
def R23 (y0 : Bool) : D:= .bool y0
def Zj5 (v0 : Z0z) (x0 : Z0c) (x1 t0 : Int) : Option (Ctl (Int) (Unit ⊕ Bool)):=
  if (decide (t0 < (v0.Z06.length : Int))) = true then
    ((Z0g v0.Z06 t0).bind fun v8=>
    (Z0g v0.Z0s.Z06 t0).bind fun v9=>
    (Zab x0 v8 x1 v9 true).bind fun v10=>
    if (!v10) = true then
      (some (.done (.inr false))) else
    ((some (IntKind.wrap .i64 (t0 + (1 : Int)))).bind fun v11=>
      some (.next v11))) else
  (some (.done (.inl (()))))
def l23x2 (v0 : Z0z) (x0 : Z0c) (x1 t1 : Int) : Option (Ctl (Int) (Unit ⊕ Bool)):=
  if (decide (t1 < x1)) = true then
    ((Z0g x0.Z1i t1).bind fun v14=>
    if (v14.Z0u == v0.Z0u) = true then ((Z0g x0.Z1i t1).bind fun v15=>
    if (v15.Z0s.Z02 == v0.Z0s.Z02) = true then
      (some (.done (.inr false))) else
    ((some (IntKind.wrap .i64 (t1 + (1 : Int)))).bind fun v16=>
      some (.next v16))) else
    ((some (IntKind.wrap .i64 (t1 + (1 : Int)))).bind fun v17=>
    some (.next v17))) else
  (some (.done (.inl (()))))
def Zal (v0 : Z0z) (x0 : Z0c) (x1 : Int) : Option (Bool):=
  (Z0d (Zj5 v0 x0 x1) Z0i 0).bind fun q1=>
  match q1 with
  | .inl q0 =>((Z0d (l23x2 v0 x0 x1) Z0i 0).bind fun q3=>
    match q3 with
    | .inl q2=>((Zgs x0 v0.Z0u v0.Z0s.Z02).bind fun v18=>
      if v18.2 = true then (if (v18.1 == x1) = true then (if (decide (v0.Z1c ≥ 0)) = true then (if (decide (v0.Z1c ≤ 2)) = true then (some ((v0.Z1d != 0) == (v0.Z1c == 2))) else
            (some false)) else
          (some false)) else
        (some false)) else
      (some false))
    | .inr y0=>(some y0))
  | .inr y1=>(some y1)
def Zcs (v0 : Z0z) (x0 : Z0c) (x1 : Int) : Option (Bool):=
  if (v0.Z07 == (-1)) = true then (if (!(v0.Z0s.Z07 == ([] : List UInt8))) = true then ((Zab x0 v0.Z07 x1 v0.Z0s.Z07 false).bind fun v3=>
      if (!v3) = true then
        (some false) else
      ((Zal v0 x0 x1))) else
    ((Zal v0 x0 x1))) else
  (if (!(v0.Z0s.Z07 == ([] : List UInt8))) = true then ((Zab x0 v0.Z07 x1 v0.Z0s.Z07 false).bind fun v4=>
      if (!v4) = true then
        (some false) else
      ((Zal v0 x0 x1))) else
    (some false))
def Zgx (x0 : Z0c) (x1 : Int) : Option (Bool):=
  (Z0g x0.Z1i x1).bind fun v0=>
  if (decide (v0.Z0u < 0)) = true then (some false) else
  (if (decide (v0.Z0u ≥ (x0.Z23.length : Int))) = true then (some false) else
    ((Zln v0.Z0s).bind fun v1=>
      if (v1 != 0) = true then (some false) else
      (if ((v0.Z06.length : Int) != (v0.Z0s.Z06.length : Int)) = true then (some false) else
        (if (v0.Z0u != 0) = true then ((Z87 v0.Z0s.Z02 [108,97,110,103,47]).bind fun v2=>
            if v2 = true then
              (some false) else
            ((Zcs v0 x0 x1))) else
          ((Zcs v0 x0 x1))))))
def Zu5 (v0 : Z0z) (x0 : Z0c) (x1 : Int) : Int → SL:=
  fun t0=>⟨164,[(1,dI x1),(2,.ptr (Z1x x0)),(5,.lptr 5 0 0),(6,dI t0)],[(5,{ sz:=12,rows:=[Z44 v0],frz:=0,pure:=false })]⟩
def J23x1 (v0 : Z0z) (x0 : Z0c) (x1 : Int) : JT (Unit ⊕ Bool):=
  ju (je 0 fun q0 : Unit=>⟨164,[(1,dI x1),(2,.ptr (Z1x x0)),(5,.lptr 5 0 0)],[(5,{ sz:=12,rows:=[Z44 v0],frz:=0,pure:=false })]⟩) (jr Tryz.prog Tryz.f23 R23)
theorem wl23x1 {v0 : Z0z} {x0 : Z0c} {x1 t0 : Int} {r : Ctl (Int) (Unit ⊕ Bool)} {Γ : Ctx} (h : (Zj5 v0 x0 x1) t0 = some r) : A Tryz.prog Γ (lpC Tryz.f23 175) [] (Rd (Zu5 v0 x0 x1) (J23x1 v0 x0 x1) r) ((Zu5 v0 x0 x1) t0).s:=
  go [] [rg 7 [(3,ln v0.Z06)]] <| br h (fun h13 h=>bd h fun v8 e8 h=>bd h fun v9 e9 h=>bd h fun v10 e10 h=>go [] [rgo 9 [(4,ix e8),(11,ix e9),(13,k (w38 e10))] [0,1,2,3,4,5,6,7,8,9,10,11,12,13,14] [] [(2,[1]),(4,[1,2,3]),(5,[1,2,3,4]),(8,[7]),(9,[7,8]),(11,[7,8,9,10]),(12,[7,8,9,10,11]),(13,[0,1,2,3,4,5,6,7,8,9,10,11,12]),(14,[0,1,2,3,4,5,6,7,8,9,10,11,12,13])]] <| br h (fun h14 h=>go [] [] <| dn h (i2 iR)) fun h14 h=>
    bd h fun v11 e11 h=>go [] [rg 8 [(1,n e11)]] <| nx h) fun h13 h=>
  go [] [] <| dn h (i1 iE)
def Zrm (v0 : Z0z) (x0 : Z0c) (x1 : Int) : Int → SL:=
  fun t1=>⟨164,[(1,dI x1),(2,.ptr (Z1x x0)),(5,.lptr 5 0 0),(7,dI t1)],[(5,{ sz:=12,rows:=[Z44 v0],frz:=0,pure:=false })]⟩
def J23x2 (v0 : Z0z) (x0 : Z0c) (x1 : Int) : JT (Unit ⊕ Bool):=
  ju (je 2 fun q2 : Unit=>⟨164,[(1,dI x1),(2,.ptr (Z1x x0)),(5,.lptr 5 0 0)],[(5,{ sz:=12,rows:=[Z44 v0],frz:=0,pure:=false })]⟩) (jr Tryz.prog Tryz.f23 R23)
theorem wl23x2 {v0 : Z0z} {x0 : Z0c} {x1 t1 : Int} {r : Ctl (Int) (Unit ⊕ Bool)} {Γ : Ctx} (h : (l23x2 v0 x0 x1) t1 = some r) : A Tryz.prog Γ (lpC Tryz.f23 351) [] (Rd (Zrm v0 x0 x1) (J23x2 v0 x0 x1) r) ((Zrm v0 x0 x1) t1).s:=
  go [] [] <| br h (fun h18 h=>bd h fun v14 e15 h=>sp h (fun h19 h=>bd h fun v15 e16 h=>go [] [rgo 14 [(3,ix e15),(8,kb h19),(13,ix e16)] [0,1,2,3,4,5,6,7,8,9,10,11,12,13,14,15,16,17,18,19,20,21] [] [(1,[0]),(3,[0,1,2]),(4,[0,1,2,3]),(5,[0,1,2,3,4]),(7,[6]),(8,[0,1,2,3,4,5,6,7]),(9,[0,1,2,3,4,5,6,7,8]),(10,[0,1,2,3,4,5,6,7,8,9]),(11,[0,1,2,3,4,5,6,7,8,9,10]),(12,[0,1,2,3,4,5,6,7,8,9]),(13,[0,1,2,3,4,5,6,7,8,9,10,11,12]),(14,[0,1,2,3,4,5,6,7,8,9,10,11,12,13]),(15,[0,1,2,3,4,5,6,7,8,9,10,11,12,13,14]),(16,[0,1,2,3,4,5,6,7,8,9,10,11,12,13,14,15]),(17,[0,1,2,3,4,5,6,7,8,9]),(18,[0,1,2,3,4,5,6,7,8,9,17]),(19,[0,1,2,3,4,5,6,7,8,9,17,18]),(20,[0,1,2,3,4,5,6,7,8,9,10,11,12,13,14,15,16,17,18,19]),(21,[0,1,2,3,4,5,6,7,8,9,10,11,12,13,14,15,16,17,18,19,20])]] <| br h (fun h20 h=>go [] [] <| dn h (i2 iR)) fun h20 h=>
    bd h fun v16 e17 h=>go [] [rg 13 [(1,n e17)]] <| nx h) fun h19 h=>
    go [] [rgo 14 [(3,ix e15),(8,kb h19)] [0,1,2,3,4,5,6,7,8,9,10,11,12,13,14,15,16,17,18,19,20,21] [] [(1,[0]),(3,[0,1,2]),(4,[0,1,2,3]),(5,[0,1,2,3,4]),(7,[6]),(8,[0,1,2,3,4,5,6,7]),(9,[0,1,2,3,4,5,6,7,8]),(10,[0,1,2,3,4,5,6,7,8,9]),(11,[0,1,2,3,4,5,6,7,8,9,10]),(12,[0,1,2,3,4,5,6,7,8,9]),(13,[0,1,2,3,4,5,6,7,8,9,10,11,12]),(14,[0,1,2,3,4,5,6,7,8,9,10,11,12,13]),(15,[0,1,2,3,4,5,6,7,8,9,10,11,12,13,14]),(16,[0,1,2,3,4,5,6,7,8,9,10,11,12,13,14,15]),(17,[0,1,2,3,4,5,6,7,8,9]),(18,[0,1,2,3,4,5,6,7,8,9,17]),(19,[0,1,2,3,4,5,6,7,8,9,17,18]),(20,[0,1,2,3,4,5,6,7,8,9,10,11,12,13,14,15,16,17,18,19]),(21,[0,1,2,3,4,5,6,7,8,9,10,11,12,13,14,15,16,17,18,19,20])]] <| bF rfl <| bd h fun v17 e18 h=>go [] [rg 13 [(1,n e18)]] <| nx h) fun h18 h=>
  go [] [] <| dn h (i1 iE)
theorem Zk2 {v0 : Z0z} {x0 : Z0c} {x1 : Int} {r : Bool} {Γ : Ctx} (h : (Zal v0 x0 x1) = some r) : Jn Tryz.prog Tryz.f23 Γ (Den.Ends Tryz.prog Tryz.f23 (R23 r)) 79 ⟨164,[(1,dI x1),(2,.ptr (Z1x x0)),(5,.lptr 5 0 0)],[(5,{ sz:=12,rows:=[Z44 v0],frz:=0,pure:=false })]⟩:=
  so <| go [] [] <| bd h fun q1 e12 h=>lp e12 wl23x1 <| match q1,h with
  | .inl q0,h=>j1 <| (qe <| goN [] [] <| bd h fun q3 e19 h=>lp e19 wl23x2 <| match q3,h with
    | .inl q2,h=>j1 <| (qe <| bd h fun v18 e20 h=>goN [17] [rg 16 [(6,k (w39 e20))]] <| po <| pr 2 [] <| sp h (fun h21 h=>pr 5 [(2,gw h21 g0),(3,gw h21 g0),(4,gw h21 g0),(5,py h21)] <| sp h (fun h22 h=>pr 5 [(7,gw h22 g0),(8,gw h22 g0),(9,gw h22 g0),(10,py h22)] <| sp h (fun h23 h=>pr 5 [(12,gw h23 g0),(13,gw h23 g0),(14,gw h23 g0),(15,py h23)] <| sp h (fun h24 h=>pr 9 [(17,gw h24 g0),(18,gw h24 g0),(19,gw h24 g0),(20,gw h24 g0),(21,gw h24 g0),(22,gw h24 g0),(23,gw h24 g0),(24,py h24)] <| pe <| goN [] [] <| rt h) fun h24 h=>
            pr 9 [(17,gs1 h24),(18,gs1 h24),(19,gs1 h24),(20,gs1 h24),(21,gs1 h24),(22,gs1 h24),(23,gs1 h24),(24,pn h24)] <| pe <| goN [] [] <| rt h) fun h23 h=>
          pr 14 [(12,gs1 h23),(13,gs1 h23),(14,gs1 h23),(15,pn h23)] <| pe <| goN [] [] <| rt h) fun h22 h=>
        pr 19 [(7,gs1 h22),(8,gs1 h22),(9,gs1 h22),(10,pn h22)] <| pe <| goN [] [] <| rt h) fun h21 h=>
      pr 24 [(2,gs1 h21),(3,gs1 h21),(4,gs1 h21),(5,pn h21)] <| pe <| goN [] [] <| rt h)
    | .inr y0,h=>j2 <| (qr h))
  | .inr y1,h=>j2 <| (qr h)
theorem Zqc {v0 : Z0z} {x0 : Z0c} {x1 : Int} {r : Bool} {Γ : Ctx} (h : (Zcs v0 x0 x1) = some r) : Jn Tryz.prog Tryz.f23 Γ (Den.Ends Tryz.prog Tryz.f23 (R23 r)) 39 ⟨164,[(1,dI x1),(2,.ptr (Z1x x0)),(5,.lptr 5 0 0)],[(5,{ sz:=12,rows:=[Z44 v0],frz:=0,pure:=false })]⟩:=
  po <| pr 4 [] <| sp h (fun h6 h=>pr 7 [(4,gw h6 g0),(5,gw h6 g0),(6,gw h6 g0),(7,gw h6 g0),(8,py h6)] <| sp h (fun h7 h=>bd h fun v3 e3 h=>pr 16 [(11,gw h7 g0),(12,gw h7 g0),(13,gw h7 g0),(14,gw h7 (kb h7)),(15,gw h7 g0),(23,k (w38 e3)),(24,gw h7 g0),(25,gw h7 g0),(26,py h7)] <| pe <| goN [] [] <| br h (fun h8 h=>go [] [] <| rt h) fun h8 h=>
      go [6] [] <| jn (Zk2 h)) fun h7 h=>
    pr 16 [(11,gs1 h7),(12,gs1 h7),(13,gs1 h7),(14,gs1 h7),(15,gs1 h7),(24,gs1 h7),(25,gs1 h7),(26,pn h7)] <| pe <| goN [] [] <| bF rfl <| go [6] [] <| jn (Zk2 h)) fun h6 h=>
  pr 12 [(4,gs1 h6),(5,gs1 h6),(6,gs1 h6),(7,gs1 h6),(8,pn h6)] <| sp h (fun h9 h=>bd h fun v4 e4 h=>pr 11 [(16,gw h9 g0),(17,gw h9 g0),(18,gw h9 g0),(19,gw h9 g0),(20,gw h9 g0),(21,gw h9 g0),(22,gw h9 g0),(23,gw h9 (k (w38 e4))),(24,py h9)] <| pe <| goN [] [] <| br h (fun h10 h=>go [] [] <| rt h) fun h10 h=>
      go [6] [] <| jn (Zk2 h)) fun h9 h=>
    pr 11 [(16,gs1 h9),(17,gs1 h9),(18,gs1 h9),(19,gs1 h9),(20,gs1 h9),(21,gs1 h9),(22,gs1 h9),(23,gs1 h9),(24,pn h9)] <| pe <| goN [] [] <| bT rfl <| go [] [] <| rt h
theorem w23 {x0 : Z0c} {x1 : Int} {r : Bool} (h : Zgx x0 x1 = some r) : Z0e Tryz.prog 23 [.agg (Z1x x0),dI x1] (R23 r):=
  cs Tryz.f23 <| bd h fun v0 e0 h=>go [2] [rg 0 [(0,bo)],rg 1 [(3,ix e0)]] <| po <| pr 4 [] <| sp h (fun h0 h=>pr 34 [(4,gs0 h0),(5,gs0 h0),(6,gs0 h0),(7,gs0 h0),(8,gs0 h0),(9,gs0 h0),(10,py h0)] <| pe <| goN [] [] <| bT rfl <| go [] [] <| rt h) fun h0 h=>
  pr 8 [(4, gw h0 g0),(5,gw h0 g0),(6,gw h0 g0),(7,gw h0 g0),(8,gw h0 (ln x0.Z23)),(9,gw h0 g0),(10,pn h0)] <| sp h (fun h1 h=>pr 26 [(12,gs0 h1),(13,gs0 h1),(14,gs0 h1),(15,gs0 h1),(16,py h1)] <| pe <| goN [] [] <| bT rfl <| go [] [] <| rt h) fun h1 h=>
    bd h fun v1 e1 h=>pr 6 [(12,gw h1 g0),(13,gw h1 g0),(14,gw h1 (k (w36 e1))),(15,gw h1 g0),(16,pn h1)] <| sp h (fun h2 h=>pr 20 [(18,gs0 h2),(19,gs0 h2),(20,gs0 h2),(21,gs0 h2),(22,gs0 h2),(23,gs0 h2),(24,gs0 h2),(25,gs0 h2),(26,py h2)] <| pe <| goN [] [] <| bT rfl <| go [] [] <| rt h) fun h2 h=>
      pr 10 [(18,gw h2 g0),(19,gw h2 g0),(20,gw h2 (ln v0.Z06)),(21,gw h2 g0),(22,gw h2 g0),(23,gw h2 g0),(24,gw h2 (ln v0.Z0s.Z06)),(25,gw h2 g0),(26,pn h2)] <| sp h (fun h3 h=>pr 10 [(28,gs0 h3),(29,gs0 h3),(30,gs0 h3),(31,gs0 h3),(36,gs0 h3),(37,py h3)] <| pe <| goN [] [] <| bT rfl <| go [] [] <| rt h) fun h3 h=>
        pr 4 [(28,gw h3 g0),(29,gw h3 g0),(30,gw h3 g0),(31,gw h3 g0)] <| sp h (fun h4 h=>bd h fun v2 e2 h=>pr 6 [(32,gw h4 g0),(33,gw h4 g0),(34,gw h4 g0),(35,gw h4 (k (w37 e2))),(36,gw h3 (py h4)),(37,pn h3)] <| pe <| goN [] [] <| br h (fun h5 h=>go [] [] <| rt h) fun h5 h=>
            go [4] [] <| jn (Zqc h)) fun h4 h=>
          pr 6 [(32,gs1 h4),(33,gs1 h4),(34,gs1 h4),(35,gs1 h4),(36,gw h3 (pn h4)),(37,pn h3)] <| pe <| goN [] [] <| bF rfl <| go [4] [] <| jn (Zqc h)
def R9 (y0 : Bool) : D:= .bool y0
def l9x1 (x0 : Z0c) (t0 : Int) : Option (Ctl (Int) (Unit ⊕ Bool)):=
  if (decide (t0 < (x0.Z3p.length : Int))) = true then
    ((Z0g x0.Z3p t0).bind fun v3=>
    if (decide (v3.f_A < 0)) = true then (some (.done (.inr false))) else
    (if (decide (v3.f_A ≥ (x0.Z23.length : Int))) = true then (some (.done (.inr false))) else
      (if (decide (v3.f_B < 0)) = true then (some (.done (.inr false))) else
        (if (decide (v3.f_B ≥ (x0.Z23.length : Int))) = true then (some (.done (.inr false))) else
          ((Z9c v3.Z02).bind fun v4=>
            if (!v4) = true then
              (some (.done (.inr false))) else
            ((some (IntKind.wrap .i64 (t0 + (1 : Int)))).bind fun v5=>
              some (.next v5))))))) else
  (some (.done (.inl (()))))
def l9x2 (x0 : Z0c) (t1 : Int) : Option (Ctl (Int) (Unit ⊕ Bool)):=
  if (decide (t1 < (x0.Z2p.length : Int))) = true then
    ((Zh5 x0 t1).bind fun v8=>
    if (!v8) = true then (some (.done (.inr false))) else
    ((Zf3 x0 t1).bind fun v9=>
    if (!v9) = true then
      (some (.done (.inr false))) else
    ((some (IntKind.wrap .i64 (t1 + (1 : Int)))).bind fun v10=>
      some (.next v10)))) else
  (some (.done (.inl (()))))
def l9x3 (x0 : Z0c) (t2 : Int) : Option (Ctl (Int) (Unit ⊕ Bool)):=
  if (decide (t2 < (x0.Z1i.length : Int))) = true then
    ((Zgx x0 t2).bind fun v12=>
    if (!v12) = true then
      (some (.done (.inr false))) else
    ((some (IntKind.wrap .i64 (t2 + (1 : Int)))).bind fun v13=>
      some (.next v13))) else
  (some (.done (.inl (()))))
def j9x1 (x0 : Z0c) : Option (Bool):=
  (Z0d (l9x1 x0) Z0i 0).bind fun q1=>
  match q1 with
  | .inl q0=>((Z0d (l9x2 x0) Z0i 0).bind fun q3=>
    match q3 with
    | .inl q2=>((Z0d (l9x3 x0) Z0i 0).bind fun q5=>
      match q5 with
      | .inl q4=>(some true)
      | .inr y0=>(some y0))
    | .inr y1=>(some y1))
  | .inr y2=>(some y2)
def Zcz (x0 : Z0c) : Option (Bool):=
  (Zg1 x0.Z23).bind fun v0=>
  if (v0 != 0) = true then (some false) else
  (if (decide ((x0.Z1i.length : Int) > 200)) = true then (some false) else
    (if (decide ((x0.Z2p.length : Int) > 1600)) = true then
        (some false) else
      ((j9x1 x0))))
def st9x1 (x0 : Z0c) : Int → SL:=
  fun t0=>⟨93,[(1,.ptr (Z1x x0)),(3,dI t0)],[]⟩
def J9x1 (x0 : Z0c) : JT (Unit ⊕ Bool):=
  ju (je 0 fun q0 : Unit=>⟨93,[(1,.ptr (Z1x x0))],[]⟩) (jr Tryz.prog Tryz.f9 R9)
theorem wl9x1 {x0 : Z0c} {t0 : Int} {r : Ctl (Int) (Unit ⊕ Bool)} {Γ : Ctx} (h : (l9x1 x0) t0 = some r) : A Tryz.prog Γ (lpC Tryz.f9 43) [] (Rd (st9x1 x0) (J9x1 x0) r) ((st9x1 x0) t0).s:=
  go [] [rg 4 [(3,ln x0.Z3p)]] <| br h (fun h9 h=>bd h fun v3 e3 h=>go [7] [rg 6 [(3,ix e3)]] <| po <| pr 4 [] <| sp h (fun h10 h=>pr 26 [(4,gs0 h10),(5,gs0 h10),(6,gs0 h10),(7,gs0 h10),(8,gs0 h10),(9,gs0 h10),(10,py h10)] <| pe <| goN [] [] <| bT rfl <| go [] [] <| dn h (i2 iR)) fun h10 h=>
    pr 8 [(4,gw h10 g0),(5,gw h10 g0),(6,gw h10 g0),(7,gw h10 g0),(8,gw h10 (ln x0.Z23)),(9,gw h10 g0),(10,pn h10)] <| sp h (fun h11 h=>pr 18 [(12,gs0 h11),(13,gs0 h11),(14,gs0 h11),(15,py h11)] <| pe <| goN [] [] <| bT rfl <| go [] [] <| dn h (i2 iR)) fun h11 h=>
      pr 5 [(12,gw h11 g0),(13,gw h11 g0),(14,gw h11 g0),(15,pn h11)] <| sp h (fun h12 h=>pr 13 [(17,gs0 h12),(18,gs0 h12),(19,gs0 h12),(20,gs0 h12),(21,gs0 h12),(22,gs0 h12),(23,py h12)] <| pe <| goN [] [] <| bT rfl <| go [] [] <| dn h (i2 iR)) fun h12 h=>
        pr 8 [(17,gw h12 g0),(18,gw h12 g0),(19,gw h12 g0),(20,gw h12 g0),(21,gw h12 (ln x0.Z23)),(22,gw h12 g0),(23,pn h12)] <| sp h (fun h13 h=>pr 5 [(25,gs0 h13),(26,gs0 h13),(27,gs0 h13),(28,gs0 h13),(29,py h13)] <| pe <| goN [] [] <| bT rfl <| go [] [] <| dn h (i2 iR)) fun h13 h=>
          bd h fun v4 e4 h=>pr 5 [(25,gw h13 g0),(26,gw h13 g0),(27,gw h13 (k (w20 e4))),(28,gw h13 g0),(29,pn h13)] <| pe <| goN [] [] <| br h (fun h14 h=>go [] [] <| dn h (i2 iR)) fun h14 h=>
            bd h fun v5 e5 h=>go [] [rg 5 [(1,n e5)]] <| nx h) fun h9 h=>
  go [] [] <| dn h (i1 iE)
def st9x2 (x0 : Z0c) : Int → SL:=
  fun t1=>⟨93,[(1,.ptr (Z1x x0)),(5,dI t1)],[]⟩
def J9x2 (x0 : Z0c) : JT (Unit ⊕ Bool):=
  ju (je 2 fun q2 : Unit=>⟨93,[(1,.ptr (Z1x x0))],[]⟩) (jr Tryz.prog Tryz.f9 R9)
theorem wl9x2 {x0 : Z0c} {t1 : Int} {r : Ctl (Int) (Unit ⊕ Bool)} {Γ : Ctx} (h : (l9x2 x0) t1 = some r) : A Tryz.prog Γ (lpC Tryz.f9 87) [] (Rd (st9x2 x0) (J9x2 x0) r) ((st9x2 x0) t1).s:=
  go [] [rg 10 [(3,ln x0.Z2p)]] <| br h (fun h18 h=>bd h fun v8 e9 h=>sp h (fun h19 h=>go [] [rg 12 [(2,k (w21 e9)),(5,gs0 h19),(6,gs0 h19),(7,gs0 h19),(8,gs0 h19),(9,py h19)]] <| bT rfl <| go [] [] <| dn h (i2 iR)) fun h19 h=>
    bd h fun v9 e10 h=>go [] [rg 12 [(2,k (w21 e9)),(5,gw h19 g0),(6,gw h19 g0),(7,gw h19 (k (w22 e10))),(8,gw h19 g0),(9,pn h19)]] <| br h (fun h20 h=>go [] [] <| dn h (i2 iR)) fun h20 h=>
    bd h fun v10 e11 h=>go [] [rg 11 [(1,n e11)]] <| nx h) fun h18 h=>
  go [] [] <| dn h (i1 iE)
def st9x3 (x0 : Z0c) : Int → SL:=
  fun t2=>⟨93,[(1,.ptr (Z1x x0)),(6,dI t2)],[]⟩
def J9x3 : JT (Unit ⊕ Bool):=
  ju (je 4 fun q4 : Unit=>⟨93,[],[]⟩) (jr Tryz.prog Tryz.f9 R9)
theorem wl9x3 {x0 : Z0c} {t2 : Int} {r : Ctl (Int) (Unit ⊕ Bool)} {Γ : Ctx} (h : (l9x3 x0) t2 = some r) : A Tryz.prog Γ (lpC Tryz.f9 175) [] (Rd (st9x3 x0) J9x3 r) ((st9x3 x0) t2).s:=
  go [] [rg 15 [(3,ln x0.Z1i)]] <| br h (fun h23 h=>bd h fun v12 e14 h=>go [] [rg 17 [(2,k (w23 e14))]] <| br h (fun h24 h=>go [] [] <| dn h (i2 iR)) fun h24 h=>
    bd h fun v13 e15 h=>go [] [rg 16 [(1,n e15)]] <| nx h) fun h23 h=>
  go [] [] <| dn h (i1 iE)
theorem wj9x1 {x0 : Z0c} {r : Bool} {Γ : Ctx} (h : (j9x1 x0) = some r) : Jn Tryz.prog Tryz.f9 Γ (Den.Ends Tryz.prog Tryz.f9 (R9 r)) 19 ⟨93,[(1,.ptr (Z1x x0))],[]⟩:=
  so <| go [] [] <| bd h fun q1 e6 h=>lp e6 wl9x1 <| match q1,h with
  | .inl q0,h=>j1 <| (qe <| goN [] [] <| bd h fun q3 e12 h=>lp e12 wl9x2 <| match q3,h with
    | .inl q2,h=>j1 <| (qe <| goN [] [] <| bd h fun q5 e16 h=>lp e16 wl9x3 <| match q5,h with
      | .inl q4,h=>j1 <| (qe <| goN [] [] <| rt h)
      | .inr y0,h=>j2 <| (qr h))
    | .inr y1,h=>j2 <| (qr h))
  | .inr y2,h=>j2 <| (qr h)
theorem w9 {x0 : Z0c} {r : Bool} (h : Zcz x0 = some r) : Z0e Tryz.prog 9 [.agg (Z1x x0)] (R9 r):=
  cs Tryz.f9 <| go [1] [rg 0 [(0,bo)]] <| po <| bd h fun v0 e0 h=>pr 5 [(2,k (w19 e0))] <| sp h (fun h0 h=>pr 11 [(5,gs0 h0),(6,gs0 h0),(7,gs0 h0),(8,gs0 h0),(9,py h0)] <| pe <| goN [] [] <| bT rfl <| go [] [] <| rt h) fun h0 h=>
  pr 6 [(5,gw h0 g0),(6,gw h0 g0),(7,gw h0 (ln x0.Z1i)),(8,gw h0 g0),(9,pn h0)] <| sp h (fun h1 h=>pr 5 [(11,gs0 h1),(12,gs0 h1),(13,gs0 h1),(14,gs0 h1),(15,py h1)] <| pe <| goN [] [] <| bT rfl <| go [] [] <| rt h) fun h1 h=>
    pr 5 [(11,gw h1 g0),(12,gw h1 g0),(13,gw h1 (ln x0.Z2p)),(14,gw h1 g0),(15,pn h1)] <| pe <| goN [] [] <| br h (fun h2 h=>go [] [] <| rt h) fun h2 h=>
      go [3] [] <| jn (wj9x1 h)
end Go.Proofs
