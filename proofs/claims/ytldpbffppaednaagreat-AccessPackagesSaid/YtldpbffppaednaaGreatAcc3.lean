/-
  Models of functions of the program, and that the functions compute them. Printed by den3.py. No condition.
-/
import Derived.Test.YtldpbffppaednaaGreatAcc2
set_option linter.unusedVariables false
namespace Go.Proofs
open Go.Den Go.Den.W
def B48 (y0 : Z0p × Z25) : List Blk:=[{ sz:=2,rows:=[Z3f y0.1],frz:=0,pure:=false,pin:=some 0 }]
def R48 (y0 : Z0p × Z25) : D:= .agg (Z72 y0.2)
def Zf1 (x1 : Z0j) (t0 : Int × (List Z00) × Int × (List Int)) : Option (Ctl (Int × (List Z00) × Int × (List Int)) (((List Z00) × Int × (List Int)))):=
  if (decide (t0.1 < (x1.Z06.length : Int))) = true then
    ((Z0g x1.Z06 t0.1).bind fun v8=>
    (Z85 ({ f_P:=t0.2.1,f_E:=t0.2.2.1 } : Z0p) v8).bind fun v9=>
    (Z24 8 (t0.2.2.2 ++ [v9.2]).length).bind fun v10=>
    (some (IntKind.wrap .i64 (t0.1 + (1 : Int)))).bind fun v11=>
    some (.next (v11,v9.1.f_P,v9.1.f_E,(t0.2.2.2 ++ [v9.2])))) else
  (some (.done ((t0.2.1,t0.2.2.1,t0.2.2.2))))
def Zbk (t1 : Int × (List Z00) × Int × (List Z0b)) (v26 : Z13) (v27 v28 : Z0p × Int) (p9 : List Z00) (p10 : Int) (p11 : List Z14) : Option (Ctl (Int × (List Z00) × Int × (List Z0b)) (((List Z00) × Int × (List Z0b)))):=
  (Z24 48 (t1.2.2.2 ++ [({ Z0h:=v26.Z0h,Z02:=v27.2,Z1l:=v28.2,Z1g:=p11 } : Z0b)]).length).bind fun v32=>
  (some (IntKind.wrap .i64 (t1.1 + (1 : Int)))).bind fun v33=>
  some (.next (v33,p9,p10,(t1.2.2.2 ++ [({ Z0h:=v26.Z0h,Z02:=v27.2,Z1l:=v28.2,Z1g:=p11 } : Z0b)])))
def Zjh (x1 : Z0j) (t1 : Int × (List Z00) × Int × (List Z0b)) : Option (Ctl (Int × (List Z00) × Int × (List Z0b)) (((List Z00) × Int × (List Z0b)))):=
  if (decide (t1.1 < (x1.Z0n.length : Int))) = true then
    ((Z0g x1.Z0n t1.1).bind fun v26=>
    (Z5i ({ f_P:=t1.2.1,f_E:=t1.2.2.1 } : Z0p) v26.Z02).bind fun v27=>
    (Z5i v27.1 v26.Z1l).bind fun v28=>
    if (v26.Z5v != 0) = true then
      ((Z5i v28.1 [67,111,110,115,116]).bind fun v29=>
      (Zeq v29.1 v26).bind fun v30=>
      (Zj2 v30.2).bind fun v31=>
      (Zbk t1 v26 v27 v28) v30.1.f_P v30.1.f_E [({ Z8q:=v29.2,Z29:=v31 } : Z14)]) else
    ((Zbk t1 v26 v27 v28) v28.1.f_P v28.1.f_E ([] : List Z14))) else
  (some (.done ((t1.2.1,t1.2.2.1,t1.2.2.2))))
def Zdw (v34 : Z0p × Z25) (p12 : List Z00) (p13 : Int) (p14 : List Z14) : Option (Z0p × Z25):=
  some (({ f_P:=p12,f_E:=p13 } : Z0p),({ f_F:=({ Z20:=p12,Z0h:=v34.2.f_F.Z0h,Z2s:=v34.2.f_F.Z2s,Z07:=v34.2.f_F.Z07,Z06:=v34.2.f_F.Z06,Z0n:=v34.2.f_F.Z0n,Z0m:=v34.2.f_F.Z0m,Z1g:=p14 } : Z0w),Z6z:=v34.2.Z6z,Z7r:=v34.2.Z7r,Z60:=v34.2.Z60 } : Z25))
def Zd7 (v0 : Z0p × Int) (x1 : Z0j) (p0 : List Z00) (p1 p2 : Int) : Option (Z0p × Z25):=
  (Z0d (Zf1 x1) Z0i (0,p0,p1,([] : List Int))).bind fun q0=>
  (Z0d (Zjh x1) Z0i (0,q0.1,q0.2.1,([] : List Z0b))).bind fun q2=>
  (Zf7 ({ f_P:=q2.1,f_E:=q2.2.1 } : Z0p) x1 ({ f_F:=({ Z20:=([] : List Z00),Z0h:=x1.Z0h,Z2s:=v0.2,Z07:=p2,Z06:=q0.2.2,Z0n:=q2.2.2,Z0m:=([] : List Z0b),Z1g:=([] : List Z14) } : Z0w),Z6z:=([] : List Z08),Z7r:=([] : List (List Int)),Z60:=([] : List Z1v) } : Z25)).bind fun v34=>
  if (!(x1.Z19 == ([] : List UInt8))) = true then
    ((Z5i v34.1 [83,111,117,114,99,101]).bind fun v35=>
    (Z5i v35.1 x1.Z19).bind fun v36=>
    (Zj2 v36.2).bind fun v37=>
    (Zdw v34) v36.1.f_P v36.1.f_E [({ Z8q:=v35.2,Z29:=v37 } : Z14)]) else
  ((Zdw v34) v34.1.f_P v34.1.f_E v34.2.f_F.Z1g)
def Zi9 (x0 : Z0p) (x1 : Z0j) : Option (Z0p × Z25):=
  (Z85 x0 x1.Z02).bind fun v0=>
  if (!(x1.Z07 == ([] : List UInt8))) = true then
    ((Z85 v0.1 x1.Z07).bind fun v1=>
    (Zd7 v0 x1) v1.1.f_P v1.1.f_E v1.2) else
  ((Zd7 v0 x1) v0.1.f_P v0.1.f_E 0)
def Zog (p2 : Int) (v0 : Z0p × Int) (x1 : Z0j) : (Int × (List Z00) × Int × (List Int)) → SL:=
  fun t0=>⟨125,[(0,.lptr 0 0 0),(3,.ptr (Z2n x1)),(4,.lptr 4 0 0),(5,.lptr 5 0 0),(6,dI t0.1)],[(0,{ sz:=2,rows:=[[.sl false (t0.2.1.map Z09),dI t0.2.2.1]],frz:=0,pure:=false,pin:=some 0 }),(4,{ sz:=11,rows:=[[.sl true (([] : List Z00).map Z09),dI 0,dI 0,dI 0,.sl true (([] : List Int).map Z03),.sl true (([] : List Z0b).map Z0t),.sl true (([] : List Z0b).map Z0t),.sl true (([] : List Z14).map Z1u),.sl true (([] : List Z08).map Z17),.sl true (([] : List (List Int)).map (rSl Z03)),.sl true (([] : List Z1v).map Z2d)]],frz:=0,pure:=false }),(5,{ sz:=11,rows:=[[.sl true (([] : List Z00).map Z09),dI x1.Z0h,dI v0.2,dI p2,.lsl 1005 0 ((t0.2.2.2.map Z03).length),.sl true (([] : List Z0b).map Z0t),.sl true (([] : List Z0b).map Z0t),.sl true (([] : List Z14).map Z1u),.sl true (([] : List Z08).map Z17),.sl true (([] : List (List Int)).map (rSl Z03)),.sl true (([] : List Z1v).map Z2d)]],frz:=0,pure:=false }),(1005,{ sz:=1,rows:=(t0.2.2.2.map Z03),frz:=0,pure:=true })]⟩
def J48x1 (p2 : Int) (v0 : Z0p × Int) (x1 : Z0j) : JT (((List Z00) × Int × (List Int))):=
  je 0 fun q0 : (List Z00) × Int × (List Int)=>⟨125,[(0,.lptr 0 0 0),(3,.ptr (Z2n x1)),(4,.lptr 4 0 0),(5,.lptr 5 0 0)],[(0,{ sz:=2,rows:=[[.sl false (q0.1.map Z09),dI q0.2.1]],frz:=0,pure:=false,pin:=some 0 }),(4,{ sz:=11,rows:=[[.sl true (([] : List Z00).map Z09),dI 0,dI 0,dI 0,.sl true (([] : List Int).map Z03),.sl true (([] : List Z0b).map Z0t),.sl true (([] : List Z0b).map Z0t),.sl true (([] : List Z14).map Z1u),.sl true (([] : List Z08).map Z17),.sl true (([] : List (List Int)).map (rSl Z03)),.sl true (([] : List Z1v).map Z2d)]],frz:=0,pure:=false }),(5,{ sz:=11,rows:=[[.sl true (([] : List Z00).map Z09),dI x1.Z0h,dI v0.2,dI p2,.lsl 1005 0 ((q0.2.2.map Z03).length),.sl true (([] : List Z0b).map Z0t),.sl true (([] : List Z0b).map Z0t),.sl true (([] : List Z14).map Z1u),.sl true (([] : List Z08).map Z17),.sl true (([] : List (List Int)).map (rSl Z03)),.sl true (([] : List Z1v).map Z2d)]],frz:=0,pure:=false }),(1005,{ sz:=1,rows:=(q0.2.2.map Z03),frz:=0,pure:=true })]⟩
theorem wl48x1 (p2 : Int) (v0 : Z0p × Int) {x1 : Z0j} {t0 : Int × (List Z00) × Int × (List Int)} {r : Ctl (Int × (List Z00) × Int × (List Int)) (((List Z00) × Int × (List Int)))} {Γ : Ctx} (h : (Zf1 x1) t0 = some r) : A Tryz.prog Γ (lpC Tryz.f48 351) [] (Rd (Zog p2 v0 x1) (J48x1 p2 v0 x1) r) ((Zog p2 v0 x1) t0).s:=
  go [] [rg 7 [(3,ln x1.Z06)]] <| br h (fun h3 h=>bd h fun v8 e8 h=>bd h fun v9 e9 h=>bd h fun v10 e10 h=>bd h fun v11 e11 h=>go [] [rgo 9 [(7,ix e8),(9,ko [0] (w54 e9)),(10,br0 1 0),(11,ap e10)] [0,1,2,3,4,5,6,7,8,9,10,11,12,13,14] [9,11,14,3000,4009,3001,3002,10005] [(1,[0]),(2,[0,1]),(5,[4]),(7,[4,5,6]),(8,[4,5,6,7]),(9,[3,4,5,6,7,8]),(10,[3,4,5,6,7,8,9]),(11,[0,1,2,3,4,5,6,7,8,9,10]),(12,[0,1,2,3,4,5,6,7,8,9,10,11]),(13,[0,1,2,3,4,5,6,7,8,9,10,11,12]),(14,[0,1,2,3,4,5,6,7,8,9,10,11,12,13])],rg 8 [(1,n e11)]] <| nx h) fun h3 h=>
  go [] [] <| dn h (iE)
def Zmf (p2 : Int) (q0 : ((List Z00) × Int × (List Int))) (v0 : Z0p × Int) (x1 : Z0j) : (Int × (List Z00) × Int × (List Z0b)) → SL:=
  fun t1=>⟨125,[(0,.lptr 0 0 0),(3,.ptr (Z2n x1)),(4,.lptr 4 0 0),(5,.lptr 5 0 0),(7,dI t1.1)],[(0,{ sz:=2,rows:=[[.sl false (t1.2.1.map Z09),dI t1.2.2.1]],frz:=0,pure:=false,pin:=some 0 }),(4,{ sz:=11,rows:=[[.sl true (([] : List Z00).map Z09),dI 0,dI 0,dI 0,.sl true (([] : List Int).map Z03),.sl true (([] : List Z0b).map Z0t),.sl true (([] : List Z0b).map Z0t),.sl true (([] : List Z14).map Z1u),.sl true (([] : List Z08).map Z17),.sl true (([] : List (List Int)).map (rSl Z03)),.sl true (([] : List Z1v).map Z2d)]],frz:=0,pure:=false }),(5,{ sz:=11,rows:=[[.sl true (([] : List Z00).map Z09),dI x1.Z0h,dI v0.2,dI p2,.lsl 1005 0 ((q0.2.2.map Z03).length),.lsl 2005 0 ((t1.2.2.2.map Z0t).length),.sl true (([] : List Z0b).map Z0t),.sl true (([] : List Z14).map Z1u),.sl true (([] : List Z08).map Z17),.sl true (([] : List (List Int)).map (rSl Z03)),.sl true (([] : List Z1v).map Z2d)]],frz:=0,pure:=false }),(1005,{ sz:=1,rows:=(q0.2.2.map Z03),frz:=0,pure:=true }),(2005,{ sz:=4,rows:=(t1.2.2.2.map Z0t),frz:=0,pure:=true })]⟩
def J48x2 (p2 : Int) (q0 : ((List Z00) × Int × (List Int))) (v0 : Z0p × Int) (x1 : Z0j) : JT (((List Z00) × Int × (List Z0b))):=
  je 2 fun q2 : (List Z00) × Int × (List Z0b)=>⟨125,[(0,.lptr 0 0 0),(3,.ptr (Z2n x1)),(4,.lptr 4 0 0),(5,.lptr 5 0 0)],[(0,{ sz:=2,rows:=[[.sl false (q2.1.map Z09),dI q2.2.1]],frz:=0,pure:=false,pin:=some 0 }),(4,{ sz:=11,rows:=[[.sl true (([] : List Z00).map Z09),dI 0,dI 0,dI 0,.sl true (([] : List Int).map Z03),.sl true (([] : List Z0b).map Z0t),.sl true (([] : List Z0b).map Z0t),.sl true (([] : List Z14).map Z1u),.sl true (([] : List Z08).map Z17),.sl true (([] : List (List Int)).map (rSl Z03)),.sl true (([] : List Z1v).map Z2d)]],frz:=0,pure:=false }),(5,{ sz:=11,rows:=[[.sl true (([] : List Z00).map Z09),dI x1.Z0h,dI v0.2,dI p2,.lsl 1005 0 ((q0.2.2.map Z03).length),.lsl 2005 0 ((q2.2.2.map Z0t).length),.sl true (([] : List Z0b).map Z0t),.sl true (([] : List Z14).map Z1u),.sl true (([] : List Z08).map Z17),.sl true (([] : List (List Int)).map (rSl Z03)),.sl true (([] : List Z1v).map Z2d)]],frz:=0,pure:=false }),(1005,{ sz:=1,rows:=(q0.2.2.map Z03),frz:=0,pure:=true }),(2005,{ sz:=4,rows:=(q2.2.2.map Z0t),frz:=0,pure:=true })]⟩
theorem Zrp (p2 : Int) (q0 : ((List Z00) × Int × (List Int))) (v0 : Z0p × Int) (x1 : Z0j) {t1 : Int × (List Z00) × Int × (List Z0b)} {v26 : Z13} {v27 v28 : Z0p × Int} {p9 : List Z00} {p10 : Int} {p11 : List Z14} {r : Ctl (Int × (List Z00) × Int × (List Z0b)) (((List Z00) × Int × (List Z0b)))} {Γ : Ctx} (h : (Zbk t1 v26 v27 v28) p9 p10 p11 = some r) : Jn Tryz.prog Tryz.f48 Γ (Rd (Zmf p2 q0 v0 x1) (J48x2 p2 q0 v0 x1) r) 517311 ⟨125,[(0,.lptr 0 0 0),(3,.ptr (Z2n x1)),(4,.lptr 4 0 0),(5,.lptr 5 0 0),(7,dI t1.1),(9,.lptr 9 0 0)],[(0,{ sz:=2,rows:=[[.sl false (p9.map Z09),dI p10]],frz:=0,pure:=false,pin:=some 0 }),(4,{ sz:=11,rows:=[[.sl true (([] : List Z00).map Z09),dI 0,dI 0,dI 0,.sl true (([] : List Int).map Z03),.sl true (([] : List Z0b).map Z0t),.sl true (([] : List Z0b).map Z0t),.sl true (([] : List Z14).map Z1u),.sl true (([] : List Z08).map Z17),.sl true (([] : List (List Int)).map (rSl Z03)),.sl true (([] : List Z1v).map Z2d)]],frz:=0,pure:=false }),(5,{ sz:=11,rows:=[[.sl true (([] : List Z00).map Z09),dI x1.Z0h,dI v0.2,dI p2,.lsl 1005 0 ((q0.2.2.map Z03).length),.lsl 2005 0 ((t1.2.2.2.map Z0t).length),.sl true (([] : List Z0b).map Z0t),.sl true (([] : List Z14).map Z1u),.sl true (([] : List Z08).map Z17),.sl true (([] : List (List Int)).map (rSl Z03)),.sl true (([] : List Z1v).map Z2d)]],frz:=0,pure:=false }),(9,{ sz:=4,rows:=[[dI v26.Z0h,dI v27.2,dI v28.2,.sl true (p11.map Z1u)]],frz:=0,pure:=false }),(1005,{ sz:=1,rows:=(q0.2.2.map Z03),frz:=0,pure:=true }),(2005,{ sz:=4,rows:=(t1.2.2.2.map Z0t),frz:=0,pure:=true })]⟩:=
  so <| bd h fun v32 e33 h=>bd h fun v33 e34 h=>go [] [rg 20 [(4,br0 1 4),(5,ap e33)],rg 12 [(1,n e34)]] <| nx h
theorem wl48x2 (p2 : Int) (q0 : ((List Z00) × Int × (List Int))) (v0 : Z0p × Int) {x1 : Z0j} {t1 : Int × (List Z00) × Int × (List Z0b)} {r : Ctl (Int × (List Z00) × Int × (List Z0b)) (((List Z00) × Int × (List Z0b)))} {Γ : Ctx} (h : (Zjh x1) t1 = some r) : A Tryz.prog Γ (lpC Tryz.f48 703) [] (Rd (Zmf p2 q0 v0 x1) (J48x2 p2 q0 v0 x1) r) ((Zmf p2 q0 v0 x1) t1).s:=
  go [] [rg 11 [(3,ln x1.Z0n)]] <| br h (fun h8 h=>bd h fun v26 e27 h=>bd h fun v27 e28 h=>bd h fun v28 e29 h=>go [] [rg 13 [(3,ix e27)],rg 15 [(3,ko [0] (w55 e28))],rg 16 [(3,ko [0] (w55 e29))]] <| br h (fun h9 h=>bd h fun v29 e30 h=>bd h fun v30 e31 h=>bd h fun v31 e32 h=>go [20] [rg 18 [(1,ko [0] (w55 e30))],rg 19 [(3,ko [0] (w57 e31)),(4,k (w56 e32)),(6,br0 1 2)]] <| jn ((Zrp p2 q0 v0 x1) h)) fun h9 h=>
    go [20] [] <| jn ((Zrp p2 q0 v0 x1) h)) fun h8 h=>
  go [] [] <| dn h (iE)
theorem Zqt {v34 : Z0p × Z25} {p12 : List Z00} {p13 : Int} {p14 : List Z14} {r : Z0p × Z25} {Γ : Ctx} (h : (Zdw v34) p12 p13 p14 = some r) : Jn Tryz.prog Tryz.f48 Γ (Zb7 Tryz.prog Tryz.f48 1 [true] (R48 r) (B48 r)) 1535 ⟨125,[(0,.lptr 0 0 0),(4,.lptr 4 0 0),(5,.lptr 5 0 0)],[(0,{ sz:=2,rows:=[[.sl false (p12.map Z09),dI p13]],frz:=0,pure:=false,pin:=some 0 }),(4,{ sz:=11,rows:=[[.sl true (([] : List Z00).map Z09),dI 0,dI 0,dI 0,.sl true (([] : List Int).map Z03),.sl true (([] : List Z0b).map Z0t),.sl true (([] : List Z0b).map Z0t),.sl true (([] : List Z14).map Z1u),.sl true (([] : List Z08).map Z17),.sl true (([] : List (List Int)).map (rSl Z03)),.sl true (([] : List Z1v).map Z2d)]],frz:=0,pure:=false }),(5,{ sz:=11,rows:=[[.sl false (v34.2.f_F.Z20.map Z09),dI v34.2.f_F.Z0h,dI v34.2.f_F.Z2s,dI v34.2.f_F.Z07,.sl false (v34.2.f_F.Z06.map Z03),.sl false (v34.2.f_F.Z0n.map Z0t),.sl false (v34.2.f_F.Z0m.map Z0t),.sl false (p14.map Z1u),.sl false (v34.2.Z6z.map Z17),.sl false (v34.2.Z7r.map (rSl Z03)),.sl false (v34.2.Z60.map Z2d)]],frz:=0,pure:=false })]⟩:=
  so <| go [] [] <| rtO h (.agg [.sl false (p12.map Z09),dI v34.2.f_F.Z0h,dI v34.2.f_F.Z2s,dI v34.2.f_F.Z07,.sl false (v34.2.f_F.Z06.map Z03),.sl false (v34.2.f_F.Z0n.map Z0t),.sl false (v34.2.f_F.Z0m.map Z0t),.sl false (p14.map Z1u),.sl false (v34.2.Z6z.map Z17),.sl false (v34.2.Z7r.map (rSl Z03)),.sl false (v34.2.Z60.map Z2d)]) [{ sz:=2,rows:=[[.sl false (p12.map Z09),dI p13]],frz:=0,pure:=false,pin:=some 0 }] (a2 (tNi 11) trivial) rfl
theorem Zrc {v0 : Z0p × Int} {x1 : Z0j} {p0 : List Z00} {p1 p2 : Int} {r : Z0p × Z25} {Γ : Ctx} (h : (Zd7 v0 x1) p0 p1 p2 = some r) : Jn Tryz.prog Tryz.f48 Γ (Zb7 Tryz.prog Tryz.f48 1 [true] (R48 r) (B48 r)) 159 ⟨125,[(0,.lptr 0 0 0),(3,.ptr (Z2n x1)),(4,.lptr 4 0 0),(5,.lptr 5 0 0)],[(0,{ sz:=2,rows:=[[.sl false (p0.map Z09),dI p1]],frz:=0,pure:=false,pin:=some 0 }),(4,{ sz:=11,rows:=[[.sl true (([] : List Z00).map Z09),dI 0,dI 0,dI 0,.sl true (([] : List Int).map Z03),.sl true (([] : List Z0b).map Z0t),.sl true (([] : List Z0b).map Z0t),.sl true (([] : List Z14).map Z1u),.sl true (([] : List Z08).map Z17),.sl true (([] : List (List Int)).map (rSl Z03)),.sl true (([] : List Z1v).map Z2d)]],frz:=0,pure:=false }),(5,{ sz:=11,rows:=[[.sl true (([] : List Z00).map Z09),dI x1.Z0h,dI v0.2,dI p2,.sl true (([] : List Int).map Z03),.sl true (([] : List Z0b).map Z0t),.sl true (([] : List Z0b).map Z0t),.sl true (([] : List Z14).map Z1u),.sl true (([] : List Z08).map Z17),.sl true (([] : List (List Int)).map (rSl Z03)),.sl true (([] : List Z1v).map Z2d)]],frz:=0,pure:=false })]⟩:=
  so <| go [] [] <| bd h fun q0 e12 h=>lp (cv:=[.blk 5 4 1005 1]) e12 (wl48x1 p2 v0) <| qe <| goN [] [] <| bd h fun q2 e35 h=>lp (cv:=[.blk 5 5 2005 4]) e35 (wl48x2 p2 q0 v0) <| qe <| bd h fun v34 e36 h=>goN [] [rg 21 [(3,koB [0] (a2 (tNi 7) (a2 (a2 trivial (a2 trivial (a2 trivial (a2 trivial (a2 (rpI q0.2.2) (a2 (rpI q2.2.2) (a2 trivial (a2 trivial (a2 trivial (a2 trivial (a2 trivial trivial))))))))))) trivial)) [.lptr 0 0 0,.agg [dI x1.Z0h,.str x1.Z02,.str x1.Z07,.sl false (x1.Z06.map Z3o),.sl false (x1.Z0n.map Z7n),.sl false (x1.Z0m.map Z6h),.str x1.Z19],.agg [.sl true (([] : List Z00).map Z09),dI x1.Z0h,dI v0.2,dI p2,rw_ q0.2.2,rw_ q2.2.2,.sl true (([] : List Z0b).map Z0t),.sl true (([] : List Z14).map Z1u),.sl true (([] : List Z08).map Z17),.sl true (([] : List (List Int)).map (rSl Z03)),.sl true (([] : List Z1v).map Z2d)]] (by simp only [rwE] <;> kernel_rfl) (w58 e36) (kp:=true))]] <| br h (fun h10 h=>bd h fun v35 e37 h=>bd h fun v36 e38 h=>bd h fun v37 e39 h=>go [25] [rg 23 [(1,ko [0] (w55 e37))],rg 24 [(4,ko [0] (w55 e38)),(5,k (w56 e39)),(7,br0 1 2)]] <| jn (cv:=[.loose 5 7]) (Zqt h)) fun h10 h=>
  go [25] [] <| jn (Zqt h)
theorem w48 {x0 : Z0p} {x1 : Z0j} {r : Z0p × Z25} (h : Zi9 x0 x1 = some r) : Z41 Tryz.prog 48 [.lptr 0 0 0,.agg (Z2n x1)] [{ sz:=2,rows:=[Z3f x0],frz:=0,pure:=false,pin:=some 0 }] (R48 r) (B48 r):=
  csO Tryz.f48 (m:=1) (keep:=[true]) <| bd h fun v0 e0 h=>go [] [rg 0 [(0,bo)],rg 3 [(3,ko [0] (w54 e0))]] <| br h (fun h0 h=>bd h fun v1 e1 h=>go [6] [rg 5 [(3,ko [0] (w54 e1))]] <| jn (Zrc h)) fun h0 h=>
  go [6] [] <| jn (Zrc h)
def R145 (y0 : Bool) : D:= .bool y0
def Z7y (x0 : Int) : Option (Bool):=
  if (x0 == 9) = true then (some true) else
  (if (x0 == 10) = true then (some true) else
    (some (x0 == 11)))
theorem w145 {x0 : Int} {r : Bool} (h : Z7y x0 = some r) : Z0e Tryz.prog 145 [dI x0] (R145 r):=
  cs Tryz.f145 <| go [1] [] <| po <| pr 3 [] <| sp h (fun h0 h=>pr 8 [(3,gs0 h0),(4,gs0 h0),(5,py h0)] <| pe <| goN [] [] <| rt h) fun h0 h=>
  pr 4 [(3,gw h0 g0),(4,gw h0 g0),(5,pn h0)] <| sp h (fun h1 h=>pr 4 [(7,gs0 h1),(8,gs0 h1),(9,py h1)] <| pe <| goN [] [] <| rt h) fun h1 h=>
    pr 4 [(7,gw h1 g0),(8,gw h1 g0),(9,pn h1)] <| pe <| goN [] [] <| rt h
def R119 (y0 : Bool) : D:= .bool y0
def Zie (x0 : Int) : Option (Bool):=
  if (x0 == 1) = true then (some true) else
  (if (x0 == 3) = true then (some true) else
    (if (x0 == 5) = true then (some true) else
      (if (x0 == 7) = true then (some true) else
        (if (x0 == 8) = true then (some true) else
          (if (x0 == 12) = true then (some true) else
            ((Z7y x0).bind fun v0=>
              some v0))))))
theorem w119 {x0 : Int} {r : Bool} (h : Zie x0 = some r) : Z0e Tryz.prog 119 [dI x0] (R119 r):=
  cs Tryz.f119 <| go [1] [] <| po <| pr 3 [] <| sp h (fun h0 h=>pr 24 [(3,gs0 h0),(4,gs0 h0),(5,py h0)] <| pe <| goN [] [] <| rt h) fun h0 h=>
  pr 4 [(3, gw h0 g0),(4,gw h0 g0),(5,pn h0)] <| sp h (fun h1 h=>pr 20 [(7,gs0 h1),(8,gs0 h1),(9,py h1)] <| pe <| goN [] [] <| rt h) fun h1 h=>
    pr 4 [(7,gw h1 g0),(8,gw h1 g0),(9,pn h1)] <| sp h (fun h2 h=>pr 16 [(11,gs0 h2),(12,gs0 h2),(13,py h2)] <| pe <| goN [] [] <| rt h) fun h2 h=>
      pr 4 [(11,gw h2 g0),(12,gw h2 g0),(13,pn h2)] <| sp h (fun h3 h=>pr 12 [(15,gs0 h3),(16,gs0 h3),(17,py h3)] <| pe <| goN [] [] <| rt h) fun h3 h=>
        pr 4 [(15,gw h3 g0),(16,gw h3 g0),(17,pn h3)] <| sp h (fun h4 h=>pr 8 [(19,gs0 h4),(20,gs0 h4),(21,py h4)] <| pe <| goN [] [] <| rt h) fun h4 h=>
          pr 4 [(19,gw h4 g0),(20,gw h4 g0),(21,pn h4)] <| sp h (fun h5 h=>pr 4 [(23,gs0 h5),(24,gs0 h5),(25,py h5)] <| pe <| goN [] [] <| rt h) fun h5 h=>
            bd h fun v0 e0 h=>pr 4 [(23,gw h5 g0),(24,gw h5 (k (w145 e0))),(25,pn h5)] <| pe <| goN [] [] <| rt h
def R120 (y0 : Bool) : D:= .bool y0
def Zcn (x0 : Z00) (p0 : Bool) : Option (Bool):=
  if p0 = true then (some true) else
  (if (x0.Z1w == 7) = true then (some (x0.f_B == 0)) else
    (if (x0.Z1w == 8) = true then (some (x0.f_B == 0)) else
      (if (x0.f_A == 0) = true then (some (x0.f_B == 0)) else
        (some false))))
def Z7j (x0 : Z00) : Option (Bool):=
  if (x0.Z1w == 12) = true then ((Zcn x0) true) else
  ((Z7y x0.Z1w).bind fun v0=>
  (Zcn x0) v0)
def Zje (x0 : Z00) : Option (Bool):=
  if (x0.Z1w != 1) = true then (if (!(x0.f_S == ([] : List UInt8))) = true then (some false) else
    (if (x0.Z1w != 3) = true then (if (x0.Z1w != 5) = true then (if (x0.f_N != 0) = true then
            (some false) else
          ((Z7j x0))) else
        ((Z7j x0))) else
      ((Z7j x0)))) else
  (if (x0.Z1w != 3) = true then (if (x0.Z1w != 5) = true then (if (x0.f_N != 0) = true then
          (some false) else
        ((Z7j x0))) else
      ((Z7j x0))) else
    ((Z7j x0)))
theorem Zq8 {x0 : Z00} {p0 : Bool} {r : Bool} {Γ : Ctx} (h : (Zcn x0) p0 = some r) : Jn Tryz.prog Tryz.f120 Γ (Den.Ends Tryz.prog Tryz.f120 (R120 r)) 47 ⟨57,[(1,.ptr (Z09 x0)),(3,dI x0.Z1w),(4,.bool p0)],[]⟩:=
  po <| pr 2 [] <| sp h (fun h9 h=>pr 8 [(2,gs0 h9),(3,gs0 h9),(4,py h9)] <| pe <| goN [6] [] <| po <| pr 15 [(9,gs0 h9),(10,gs0 h9),(11,gs0 h9),(12,py h9)] <| pe <| goN [] [] <| rt h) fun h9 h=>
  pr 4 [(2,gw h9 g0),(3,gw h9 g0),(4,pn h9)] <| sp h (fun h10 h=>pr 4 [(6,gs0 h10),(7,gs0 h10),(8,py h10)] <| pe <| goN [6] [] <| po <| pr 15 [(9,gw h9 g0),(10,gw h9 g0),(11,gw h9 g0),(12,pn h9)] <| pe <| goN [] [] <| rt h) fun h10 h=>
    pr 4 [(6,gw h10 g0),(7,gw h10 g0),(8,pn h10)] <| pe <| goN [6] [] <| po <| pr 2 [] <| sp h (fun h11 h=>pr 13 [(2,gs0 h11),(3,gs0 h11),(4,gs0 h11),(5,py h11),(9,gw h9 g0),(10,gw h9 g0),(11,gw h9 g0),(12,pn h9)] <| pe <| goN [] [] <| rt h) fun h11 h=>
      pr 5 [(2,gw h11 g0),(3,gw h11 g0),(4,gw h11 g0),(5,pn h11)] <| sp h (fun h12 h=>pr 8 [(7,gw h12 g0),(8,gw h12 g0),(9,gw h9 g0),(10,gw h9 g0),(11,gw h9 g0),(12,gw h12 (pn h9)),(13,py h12)] <| pe <| goN [] [] <| rt h) fun h12 h=>
        pr 8 [(7,gs1 h12),(8,gs1 h12),(12,gs1 h12),(13,pn h12)] <| pe <| goN [] [] <| rt h
theorem Zb2 {x0 : Z00} {r : Bool} {Γ : Ctx} (h : (Z7j x0) = some r) : Jn Tryz.prog Tryz.f120 Γ (Den.Ends Tryz.prog Tryz.f120 (R120 r)) 23 ⟨57,[(1,.ptr (Z09 x0)),(3,dI x0.Z1w)],[]⟩:=
  so <| sp h (fun h8 h=>go [5] [rg 4 [(1,kb h8)]] <| jn (Zq8 h)) fun h8 h=>
  bd h fun v0 e0 h=>go [5] [rg 4 [(1,kb h8),(4,k (w145 e0))]] <| jn (Zq8 h)
theorem w120 {x0 : Z00} {r : Bool} (h : Zje x0 = some r) : Z0e Tryz.prog 120 [.agg (Z09 x0)] (R120 r):=
  cs Tryz.f120 <| go [2] [rg 0 [(0,bo)]] <| po <| pr 3 [] <| sp h (fun h0 h=>pr 5 [(3,gw h0 g0),(4,gw h0 g0),(5,gw h0 g0),(6,py h0)] <| sp h (fun h1 h=>pr 12 [(8,gs0 h1),(9,gs0 h1),(10,gs0 h1),(13,gs0 h1),(14,gs0 h1),(18,gs0 h1),(19,py h1)] <| pe <| goN [] [] <| bT rfl <| go [] [] <| rt h) fun h1 h=>
    pr 3 [(8,gw h1 g0),(9,gw h1 g0),(10,gw h1 g0)] <| sp h (fun h2 h=>pr 4 [(11,gw h2 g0),(12,gw h2 g0),(13,gw h1 (py h2)),(14,gw h1 g0)] <| sp h (fun h3 h=>pr 5 [(15,gw h3 g0),(16,gw h3 g0),(17,gw h3 g0),(18,gw h1 (py h3)),(19,pn h1)] <| pe <| goN [] [] <| br h (fun h4 h=>go [] [] <| rt h) fun h4 h=>
          go [4] [] <| jn (Zb2 h)) fun h3 h=>
        pr 5 [(15,gs1 h3),(16,gs1 h3),(17,gs1 h3),(18,gw h1 (pn h3)),(19,pn h1)] <| pe <| goN [] [] <| bF rfl <| go [4] [] <| jn (Zb2 h)) fun h2 h=>
      pr 9 [(11,gs1 h2),(12,gs1 h2),(13,gw h1 (pn h2)),(14,gw h1 g0),(18,gw h1 g0),(19,pn h1)] <| pe <| goN [] [] <| bF rfl <| go [4] [] <| jn (Zb2 h)) fun h0 h=>
  pr 8 [(3,gs1 h0),(4,gs1 h0),(5,gs1 h0),(6,pn h0)] <| sp h (fun h5 h=>pr 4 [(11,gw h5 g0),(12,gw h5 g0),(13,py h5)] <| sp h (fun h6 h=>pr 5 [(15,gw h6 g0),(16,gw h6 g0),(17,gw h6 g0),(18,py h6)] <| pe <| goN [] [] <| br h (fun h7 h=>go [] [] <| rt h) fun h7 h=>
        go [4] [] <| jn (Zb2 h)) fun h6 h=>
      pr 5 [(15,gs1 h6),(16,gs1 h6),(17,gs1 h6),(18,pn h6)] <| pe <| goN [] [] <| bF rfl <| go [4] [] <| jn (Zb2 h)) fun h5 h=>
    pr 9 [(11,gs1 h5),(12,gs1 h5),(13,pn h5)] <| pe <| goN [] [] <| bF rfl <| go [4] [] <| jn (Zb2 h)
def R138 (y0 : Z00 × Int) : D:= .tup [.agg (Z09 y0.1),.int .i64 y0.2]
def Z8a (x0 : List Z00) (x1 : Int) : Option (Z00 × Int):=
  if (decide (x1 < 1)) = true then (some (({ Z1w:=0,f_S:=[],f_N:=0,f_A:=0,f_B:=0 } : Z00),2)) else
  (if (decide (x1 > (x0.length : Int))) = true then
    (some (({ Z1w:=0,f_S:=[],f_N:=0,f_A:=0,f_B:=0 } : Z00),2)) else
  ((some (IntKind.wrap .i64 (x1 - (1 : Int)))).bind fun v0=>
    (Z0g x0 v0).bind fun v1=>
    some (v1,0)))
theorem w138 {x0 : List Z00} {x1 : Int} {r : Z00 × Int} (h : Z8a x0 x1 = some r) : Z0e Tryz.prog 138 [.sl false (x0.map Z09),dI x1] (R138 r):=
  cs Tryz.f138 <| sp h (fun h0 h=>go [] [rg 1 [(1,kb h0)]] <| bT rfl <| go [] [] <| rt h) fun h0 h=>
  go [] [rg 1 [(1,kb h0),(5,ln x0)]] <| br h (fun h1 h=>go [] [] <| rt h) fun h1 h=>
  bd h fun v0 e0 h=>bd h fun v1 e1 h=>go [] [rg 3 [(2,n e0),(3,ix e1)]] <| rt h
def R127 (y0 : Z00 × Int) : D:= .tup [.agg (Z09 y0.1),.int .i64 y0.2]
def Z8v (x0 : List Z00) (x1 x2 : Int) : Option (Z00 × Int):=
  (Z8a x0 x1).bind fun v0=>
  if (v0.2 != 0) = true then
    (some (({ Z1w:=0,f_S:=[],f_N:=0,f_A:=0,f_B:=0 } : Z00),v0.2)) else
  (if (v0.1.Z1w != x2) = true then
      (some (({ Z1w:=0,f_S:=[],f_N:=0,f_A:=0,f_B:=0 } : Z00),11)) else
    (some (v0.1,0)))
theorem w127 {x0 : List Z00} {x1 x2 : Int} {r : Z00 × Int} (h : Z8v x0 x1 x2 = some r) : Z0e Tryz.prog 127 [.sl false (x0.map Z09),dI x1,dI x2] (R127 r):=
  cs Tryz.f127 <| bd h fun v0 e0 h=>go [] [rg 1 [(2,k (w138 e0))]] <| br h (fun h0 h=>go [] [] <| rt h) fun h0 h=>
  go [] [] <| br h (fun h1 h=>go [] [] <| rt h) fun h1 h=>
    go [] [] <| rt h
def R146 (y0 : Int) : D:= .int .i64 y0
def Zf8 (x0 : List Z00) (x1 x2 : Int) : Option (Int):=
  (Z8v x0 x1 x2).bind fun v0=>
  some v0.2
theorem w146 {x0 : List Z00} {x1 x2 : Int} {r : Int} (h : Zf8 x0 x1 x2 = some r) : Z0e Tryz.prog 146 [.sl false (x0.map Z09),dI x1,dI x2] (R146 r):=
  cs Tryz.f146 <| bd h fun v0 e0 h=>go [] [rg 1 [(3,k (w127 e0))]] <| rt h
def R121 (y0 : Int) : D:= .int .i64 y0
def Zlv (p1 : Int) (x0 : List Z00) (x1 : Z00) : Option (Int):=
  (Zf8 x0 x1.f_B p1).bind fun v2=>
  some v2
def Zcj (x0 : List Z00) (x1 : Z00) (p0 p1 : Int) : Option (Int):=
  (Zf8 x0 x1.f_A p0).bind fun v1=>
  if (v1 != 0) = true then
    (some v1) else
  (if (x1.Z1w == 7) = true then (some 0) else
    (if (x1.Z1w == 8) = true then
      (some 0) else
    ((Zlv p1 x0 x1))))
def Zjk (x0 : List Z00) (x1 : Z00) : Option (Int):=
  (Z7y x1.Z1w).bind fun v0=>
  if v0 = true then
    ((Zcj x0 x1) 7 12) else
  ((Zcj x0 x1) 1 1)
theorem wj121x2 {p1 : Int} {x0 : List Z00} {x1 : Z00} {r : Int} {Γ : Ctx} (h : (Zlv p1 x0 x1) = some r) : Jn Tryz.prog Tryz.f121 Γ (Den.Ends Tryz.prog Tryz.f121 (R121 r)) 95 ⟨32,[(0,.sl false (x0.map Z09)),(3,.ptr (Z09 x1)),(6,dI p1)],[]⟩:=
  so <| bd h fun v2 e2 h=>go [] [rg 9 [(4,k (w146 e2))]] <| rt h
theorem Zp9 {x0 : List Z00} {x1 : Z00} {p0 p1 : Int} {r : Int} {Γ : Ctx} (h : (Zcj x0 x1) p0 p1 = some r) : Jn Tryz.prog Tryz.f121 Γ (Den.Ends Tryz.prog Tryz.f121 (R121 r)) 39 ⟨32,[(0,.sl false (x0.map Z09)),(3,.ptr (Z09 x1)),(5,dI p0),(6,dI p1)],[]⟩:=
  so <| bd h fun v1 e1 h=>go [] [rg 4 [(4,k (w146 e1))]] <| br h (fun h1 h=>go [] [] <| rt h) fun h1 h=>
  sp h (fun h2 h=>go [] [rg 7 [(2,kb h2)]] <| bT rfl <| go [] [] <| rt h) fun h2 h=>
    go [] [rg 7 [(2,kb h2)]] <| br h (fun h3 h=>go [] [] <| rt h) fun h3 h=>
    go [9] [] <| jn (wj121x2 h)
theorem w121 {x0 : List Z00} {x1 : Z00} {r : Int} (h : Zjk x0 x1 = some r) : Z0e Tryz.prog 121 [.sl false (x0.map Z09),.agg (Z09 x1)] (R121 r):=
  cs Tryz.f121 <| bd h fun v0 e0 h=>go [] [rg 0 [(0,bo)],rg 2 [(2,k (w145 e0))]] <| br h (fun h0 h=>go [4] [] <| jn (Zp9 h)) fun h0 h=>
  go [4] [] <| jn (Zp9 h)
def R94 (y0 : (List UInt8) × Int) : D:= .tup [.str y0.1,.int .i64 y0.2]
def Z3l (x0 : List Z00) (x1 : Int) : Option ((List UInt8) × Int):=
  (Z8v x0 x1 1).bind fun v0=>
  some (v0.1.f_S,v0.2)
theorem w94 {x0 : List Z00} {x1 : Int} {r : (List UInt8) × Int} (h : Z3l x0 x1 = some r) : Z0e Tryz.prog 94 [.sl false (x0.map Z09),dI x1] (R94 r):=
  cs Tryz.f94 <| bd h fun v0 e0 h=>go [] [rg 1 [(2,k (w127 e0))]] <| rt h
def R128 (y0 : Z0r × Int) : D:= .tup [.agg (Z2y y0.1),.int .i64 y0.2]
def Zl2 (t0 : Int × Int) : Option (Ctl (Int × Int) ((Int × Int))):=
  (some (IntKind.wrap .i64 (t0.2 + (1 : Int)))).bind fun v3=>
  (some (IntKind.wrap .i64 (t0.1 + (1 : Int)))).bind fun v4=>
  some (.next (v4,v3))
def Zll (x0 : List UInt8) (t0 : Int × Int) : Option (Ctl (Int × Int) ((Int × Int))):=
  if (decide (t0.1 < (x0.length : Int))) = true then ((Z30 x0 t0.1).bind fun v2=>
  if (v2 == 91) = true then
    ((Zl2 t0)) else
  (some (.done ((t0.2,t0.1))))) else
  (some (.done ((t0.2,t0.1))))
def Zn6 (x0 : List UInt8) (t1 : Int) : Option (Ctl (Int) (Int)):=
  if (decide (t1 < (x0.length : Int))) = true then ((Z30 x0 t1).bind fun v9=>
  if (v9 != 59) = true then
    ((some (IntKind.wrap .i64 (t1 + (1 : Int)))).bind fun v10=>
    some (.next v10)) else
  (some (.done (t1)))) else
  (some (.done (t1)))
def Ze4 (q0 : (Int × Int)) (v5 : Int) (p0 : List UInt8) (p1 : Int) : Option (Z0r × Int):=
  (Zbs ({ Z1y:=q0.1,Z1q:=v5,Z02:=p0 } : Z0r)).bind fun v13=>
  if (!v13) = true then
    (some (({ Z1y:=0,Z1q:=0,Z02:=[] } : Z0r),(-1))) else
  (some (({ Z1y:=q0.1,Z1q:=v5,Z02:=p0 } : Z0r),p1))
def Zat (x0 : List UInt8) (x1 : Int) : Option (Z0r × Int):=
  (Z0d (Zll x0) Z0i (x1,0)).bind fun q0=>
  if (decide (q0.2 ≥ (x0.length : Int))) = true then
    (some (({ Z1y:=0,Z1q:=0,Z02:=[] } : Z0r),(-1))) else
  ((Z30 x0 q0.2).bind fun v5=>
    (some (IntKind.wrap .i64 (q0.2 + (1 : Int)))).bind fun v6=>
    if (v5 == 76) = true then
      ((Z0d (Zn6 x0) Z0i v6).bind fun q2=>
      if (decide (q2 ≥ (x0.length : Int))) = true then
        (some (({ Z1y:=0,Z1q:=0,Z02:=[] } : Z0r),(-1))) else
      ((sub x0 v6 q2).bind fun v11=>
        (some (IntKind.wrap .i64 (q2 + (1 : Int)))).bind fun v12=>
        (Ze4 q0 v5) v11 v12)) else
    ((Ze4 q0 v5) [] v6))
def Zmi (x0 : List UInt8) : (Int × Int) → SL:=
  fun t0=>⟨70,[(0,.str x0),(1,dI t0.1),(4,.lptr 4 0 0),(6,.lptr 6 0 0)],[(4,{ sz:=3,rows:=[[dI 0,d8 0,.str []]],frz:=0,pure:=false }),(6,{ sz:=3,rows:=[[dI t0.2,d8 0,.str []]],frz:=0,pure:=false })]⟩
def Zox (x0 : List UInt8) : JT ((Int × Int)):=
  je 0 fun q0 : Int × Int=>⟨70,[(0,.str x0),(1,dI q0.2),(4,.lptr 4 0 0),(6,.lptr 6 0 0)],[(4,{ sz:=3,rows:=[[dI 0,d8 0,.str []]],frz:=0,pure:=false }),(6,{ sz:=3,rows:=[[dI q0.1,d8 0,.str []]],frz:=0,pure:=false })]⟩
theorem wj128x1 (x0 : List UInt8) {t0 : Int × Int} {r : Ctl (Int × Int) ((Int × Int))} {Γ : Ctx} (h : (Zl2 t0) = some r) : Jn Tryz.prog Tryz.f128 Γ (Rd (Zmi x0) (Zox x0) r) 291 ⟨70,[(0,.str x0),(1,dI t0.1),(4,.lptr 4 0 0),(6,.lptr 6 0 0)],[(4,{ sz:=3,rows:=[[dI 0,d8 0,.str []]],frz:=0,pure:=false }),(6,{ sz:=3,rows:=[[dI t0.2,d8 0,.str []]],frz:=0,pure:=false })]⟩:=
  so <| bd h fun v3 e3 h=>bd h fun v4 e4 h=>go [] [rg 3 [(2,n e3)],rg 4 [(1,n e4)]] <| nx h
theorem wl128x1 {x0 : List UInt8} {t0 : Int × Int} {r : Ctl (Int × Int) ((Int × Int))} {Γ : Ctx} (h : (Zll x0) t0 = some r) : A Tryz.prog Γ (lpC Tryz.f128 19) [] (Rd (Zmi x0) (Zox x0) r) ((Zmi x0) t0).s:=
  sp h (fun h2 h=>bd h fun v2 e2 h=>go [] [rg 2 [(3,kb h2),(7,ib e2)]] <| br h (fun h3 h=>go [3] [] <| jn ((wj128x1 x0) h)) fun h3 h=>
  go [] [] <| dn h (iE)) fun h2 h=>
  go [] [rg 2 [(3,kb h2)]] <| bF rfl <| go [] [] <| dn h (iE)
def Zso (q0 : (Int × Int)) (v5 v6 : Int) (x0 : List UInt8) : Int → SL:=
  fun t1=>⟨70,[(0,.str x0),(1,dI t1),(4,.lptr 4 0 0),(6,.lptr 6 0 0),(7,dI v6)],[(4,{ sz:=3,rows:=[[dI 0,d8 0,.str []]],frz:=0,pure:=false }),(6,{ sz:=3,rows:=[[dI q0.1,d8 v5,.str []]],frz:=0,pure:=false })]⟩
def J128x2 (q0 : (Int × Int)) (v5 v6 : Int) (x0 : List UInt8) : JT Int:=
  je 2 fun q2 : Int=>⟨70,[(0,.str x0),(1,dI q2),(4,.lptr 4 0 0),(6,.lptr 6 0 0),(7,dI v6)],[(4,{ sz:=3,rows:=[[dI 0,d8 0,.str []]],frz:=0,pure:=false }),(6,{ sz:=3,rows:=[[dI q0.1,d8 v5,.str []]],frz:=0,pure:=false })]⟩
theorem wl128x2 (q0 : (Int × Int)) (v5 v6 : Int) {x0 : List UInt8} {t1 : Int} {r : Ctl (Int) (Int)} {Γ : Ctx} (h : (Zn6 x0) t1 = some r) : A Tryz.prog Γ (lpC Tryz.f128 4799) [] (Rd (Zso q0 v5 v6 x0) (J128x2 q0 v5 v6 x0) r) ((Zso q0 v5 v6 x0) t1).s:=
  sp h (fun h8 h=>bd h fun v9 e10 h=>go [] [rg 11 [(3,kb h8),(7,ib e10)]] <| br h (fun h9 h=>bd h fun v10 e11 h=>go [] [rg 12 [(1,n e11)]] <| nx h) fun h9 h=>
  go [] [] <| dn h (iE)) fun h8 h=>
  go [] [rg 11 [(3,kb h8)]] <| bF rfl <| go [] [] <| dn h (iE)
theorem Zut {q0 : (Int × Int)} {v5 : Int} {p0 : List UInt8} {p1 : Int} {r : Z0r × Int} {Γ : Ctx} (h : (Ze4 q0 v5) p0 p1 = some r) : Jn Tryz.prog Tryz.f128 Γ (Den.Ends Tryz.prog Tryz.f128 (R128 r)) 639 ⟨70,[(1,dI p1),(4,.lptr 4 0 0),(6,.lptr 6 0 0)],[(4,{ sz:=3,rows:=[[dI 0,d8 0,.str []]],frz:=0,pure:=false }),(6,{ sz:=3,rows:=[[dI q0.1,d8 v5,.str p0]],frz:=0,pure:=false })]⟩:=
  so <| bd h fun v13 e15 h=>go [] [rg 17 [(1,k (w151 e15))]] <| br h (fun h11 h=>go [] [] <| rt h) fun h11 h=>
  go [] [] <| rt h
theorem w128 {x0 : List UInt8} {x1 : Int} {r : Z0r × Int} (h : Zat x0 x1 = some r) : Z0e Tryz.prog 128 [.str x0,dI x1] (R128 r):=
  cs Tryz.f128 <| go [] [] <| bd h fun q0 e5 h=>lp e5 wl128x1 <| qe <| goN [] [] <| br h (fun h4 h=>go [] [] <| rt h) fun h4 h=>
  bd h fun v5 e6 h=>bd h fun v6 e7 h=>go [] [rg 7 [(2,ib e6)],rg 8 [(1,n e7)]] <| br h (fun h5 h=>go [] [] <| bd h fun q2 e12 h=>lp e12 (wl128x2 q0 v5 v6) <| qe <| goN [] [] <| br h (fun h10 h=>go [] [] <| rt h) fun h10 h=>
      bd h fun v11 e13 h=>bd h fun v12 e14 h=>go [17] [rg 15 [(3,ss e13)],rg 16 [(1,n e14)]] <| jn (Zut h)) fun h5 h=>
    go [17] [] <| jn (Zut h)
def R96 (y0 : Z0r × Int) : D:= .tup [.agg (Z2y y0.1),.int .i64 y0.2]
def Z84 (x0 : List UInt8) : Option (Z0r × Int):=
  (Zat x0 0).bind fun v0=>
  if (v0.2 != (x0.length : Int)) = true then
    (some (({ Z1y:=0,Z1q:=0,Z02:=[] } : Z0r),13)) else
  (some (v0.1,0))
theorem w96 {x0 : List UInt8} {r : Z0r × Int} (h : Z84 x0 = some r) : Z0e Tryz.prog 96 [.str x0] (R96 r):=
  cs Tryz.f96 <| bd h fun v0 e0 h=>go [] [rg 1 [(1,k (w128 e0))]] <| br h (fun h0 h=>go [] [] <| rt h) fun h0 h=>
  go [] [] <| rt h
def R147 (y0 : Z0r × Int) : D:= .tup [.agg (Z2y y0.1),.int .i64 y0.2]
def Zm5 (x0 : List UInt8) : Option (Z0r × Int):=
  (Z84 x0).bind fun v2=>
  some (v2.1,v2.2)
def Zjf (x0 : List UInt8) : Option (Z0r × Int):=
  (Z9c x0).bind fun v0=>
  if v0 = true then
    (some (({ Z1y:=0,Z1q:=76,Z02:=x0 } : Z0r),0)) else
  (if (x0 == ([] : List UInt8)) = true then (some (({ Z1y:=0,Z1q:=0,Z02:=[] } : Z0r),13)) else
    ((Z30 x0 0).bind fun v1=>
    if (v1 != 91) = true then
      (some (({ Z1y:=0,Z1q:=0,Z02:=[] } : Z0r),13)) else
    ((Zm5 x0))))
theorem wj147x1 {x0 : List UInt8} {r : Z0r × Int} {Γ : Ctx} (h : (Zm5 x0) = some r) : Jn Tryz.prog Tryz.f147 Γ (Den.Ends Tryz.prog Tryz.f147 (R147 r)) 23 ⟨20,[(0,.str x0),(2,.lptr 2 0 0)],[(2,{ sz:=3,rows:=[[dI 0,d8 0,.str []]],frz:=0,pure:=false })]⟩:=
  so <| bd h fun v2 e2 h=>go [] [rg 5 [(1,k (w96 e2))]] <| rt h
theorem w147 {x0 : List UInt8} {r : Z0r × Int} (h : Zjf x0 = some r) : Z0e Tryz.prog 147 [.str x0] (R147 r):=
  cs Tryz.f147 <| bd h fun v0 e0 h=>go [] [rg 1 [(1,k (w20 e0))]] <| br h (fun h0 h=>go [] [] <| rt h) fun h0 h=>
  sp h (fun h1 h=>go [] [rg 3 [(1,kb h1)]] <| bT rfl <| go [] [] <| rt h) fun h1 h=>
    bd h fun v1 e1 h=>go [] [rg 3 [(1,kb h1),(4,ib e1)]] <| br h (fun h2 h=>go [] [] <| rt h) fun h2 h=>
    go [5] [] <| jn (wj147x1 h)
def R95 (y0 : Bool) : D:= .bool y0
def Z9x (x0 : List UInt8) : Option (Bool):=
  if (x0 == ([60,105,110,105,116,62] : List UInt8)) = true then (some true) else
  (if (x0 == ([60,99,108,105,110,105,116,62] : List UInt8)) = true then (some true) else
    (if (decide ((x0.length : Int) ≤ 64)) = true then ((Z9z x0).bind fun v0=>
        some v0) else
      (some false)))
theorem w95 {x0 : List UInt8} {r : Bool} (h : Z9x x0 = some r) : Z0e Tryz.prog 95 [.str x0] (R95 r):=
  cs Tryz.f95 <| go [1] [] <| po <| pr 3 [] <| sp h (fun h0 h=>pr 13 [(3,gs0 h0),(4,gs0 h0),(5,py h0)] <| pe <| goN [] [] <| rt h) fun h0 h=>
  pr 4 [(3,gw h0 g0),(4,gw h0 g0),(5,pn h0)] <| sp h (fun h1 h=>pr 9 [(7,gs0 h1),(8,gs0 h1),(9,gs0 h1),(10,gs0 h1),(13,gs0 h1),(14,py h1)] <| pe <| goN [] [] <| rt h) fun h1 h=>
    pr 4 [(7,gw h1 g0),(8,gw h1 g0),(9,gw h1 g0),(10,gw h1 g0)] <| sp h (fun h2 h=>bd h fun v0 e0 h=>pr 5 [(11,gw h2 g0),(12,gw h2 (k (w34 e0))),(13,gw h1 (py h2)),(14,pn h1)] <| pe <| goN [] [] <| rt h) fun h2 h=>
      pr 5 [(11,gs1 h2),(12,gs1 h2),(13,gw h1 (pn h2)),(14,pn h1)] <| pe <| goN [] [] <| rt h
def R130 (y0 : Z28 × Int) : D:= .tup [.agg (Zbq y0.1),.int .i64 y0.2]
def Zm0 (t0 : Int × (List Z0r)) (v8 : Z0r × Int) : Option (Ctl (Int × (List Z0r)) (((List Z0r) × Int) ⊕ (Z28 × Int))):=
  (Z24 32 (t0.2 ++ [v8.1]).length).bind fun v9=>
  some (.next (v8.2,(t0.2 ++ [v8.1])))
def Zlj (t0 : Int × (List Z0r)) (x0 : List UInt8) : Option (Ctl (Int × (List Z0r)) (((List Z0r) × Int) ⊕ (Z28 × Int))):=
  (Zat x0 t0.1).bind fun v8=>
  if (decide (v8.2 < 0)) = true then (some (.done (.inr (({ Z32:=([] : List Z0r),Z3g:=({ Z1y:=0,Z1q:=0,Z02:=[] } : Z0r) } : Z28),13)))) else
  (if (v8.1.Z1q == 86) = true then
    (some (.done (.inr (({ Z32:=([] : List Z0r),Z3g:=({ Z1y:=0,Z1q:=0,Z02:=[] } : Z0r) } : Z28),13)))) else
  ((Zm0 t0 v8)))
def Zm9 (x0 : List UInt8) (t0 : Int × (List Z0r)) : Option (Ctl (Int × (List Z0r)) (((List Z0r) × Int) ⊕ (Z28 × Int))):=
  if (decide (t0.1 < (x0.length : Int))) = true then ((Z30 x0 t0.1).bind fun v7=>
  if (v7 != 41) = true then
    ((Zlj t0 x0)) else
  (some (.done (.inl ((t0.2,t0.1)))))) else
  (some (.done (.inl ((t0.2,t0.1)))))
def Znd (x0 : List UInt8) : Option (Z28 × Int):=
  (Z0d (Zm9 x0) Z0i (1,([] : List Z0r))).bind fun q1=>
  match q1 with
  | .inl q0=>(if (decide (q0.2 ≥ (x0.length : Int))) = true then
      (some (({ Z32:=([] : List Z0r),Z3g:=({ Z1y:=0,Z1q:=0,Z02:=[] } : Z0r) } : Z28),13)) else
    ((some (IntKind.wrap .i64 (q0.2 + (1 : Int)))).bind fun v10=>
      (Zat x0 v10).bind fun v11=>
      if (v11.2 != (x0.length : Int)) = true then
        (some (({ Z32:=([] : List Z0r),Z3g:=({ Z1y:=0,Z1q:=0,Z02:=[] } : Z0r) } : Z28),13)) else
      (if (decide ((q0.1.length : Int) > 16)) = true then
          (some (({ Z32:=([] : List Z0r),Z3g:=({ Z1y:=0,Z1q:=0,Z02:=[] } : Z0r) } : Z28),5)) else
        (some (({ Z32:=q0.1,Z3g:=v11.1 } : Z28),0)))))
  | .inr y0=>(some y0)
def Zaz (x0 : List UInt8) : Option (Z28 × Int):=
  if (x0 == ([] : List UInt8)) = true then (some (({ Z32:=([] : List Z0r),Z3g:=({ Z1y:=0,Z1q:=0,Z02:=[] } : Z0r) } : Z28),13)) else
  ((Z30 x0 0).bind fun v0=>
  if (v0 != 40) = true then
    (some (({ Z32:=([] : List Z0r),Z3g:=({ Z1y:=0,Z1q:=0,Z02:=[] } : Z0r) } : Z28),13)) else
  ((Znd x0)))
def Zfo (x0 : List UInt8) : (Int × (List Z0r)) → SL:=
  fun t0=>⟨75,[(0,.str x0),(2,.lptr 2 0 0),(4,.lptr 4 0 0),(5,dI t0.1)],[(2,{ sz:=4,rows:=[[.sl true (([] : List Z0r).map Z2y),dI 0,d8 0,.str []]],frz:=0,pure:=false }),(4,{ sz:=4,rows:=[[.lsl 1004 0 ((t0.2.map Z2y).length),dI 0,d8 0,.str []]],frz:=0,pure:=false }),(1004,{ sz:=3,rows:=(t0.2.map Z2y),frz:=0,pure:=true })]⟩
def Zku (x0 : List UInt8) : JT (((List Z0r) × Int) ⊕ (Z28 × Int)):=
  ju (je 0 fun q0 : (List Z0r) × Int=>⟨75,[(0,.str x0),(2,.lptr 2 0 0),(4,.lptr 4 0 0),(5,dI q0.2)],[(2,{ sz:=4,rows:=[[.sl true (([] : List Z0r).map Z2y),dI 0,d8 0,.str []]],frz:=0,pure:=false }),(4,{ sz:=4,rows:=[[.lsl 1004 0 ((q0.1.map Z2y).length),dI 0,d8 0,.str []]],frz:=0,pure:=false }),(1004,{ sz:=3,rows:=(q0.1.map Z2y),frz:=0,pure:=true })]⟩) (jr Tryz.prog Tryz.f130 R130)
theorem wj130x3 (x0 : List UInt8) {t0 : Int × (List Z0r)} {v8 : Z0r × Int} {r : Ctl (Int × (List Z0r)) (((List Z0r) × Int) ⊕ (Z28 × Int))} {Γ : Ctx} (h : (Zm0 t0 v8) = some r) : Jn Tryz.prog Tryz.f130 Γ (Rd (Zfo x0) (Zku x0) r) 5775 ⟨75,[(0,.str x0),(2,.lptr 2 0 0),(4,.lptr 4 0 0),(6,.lptr 6 0 0),(7,dI v8.2)],[(2,{ sz:=4,rows:=[[.sl true (([] : List Z0r).map Z2y),dI 0,d8 0,.str []]],frz:=0,pure:=false }),(4,{ sz:=4,rows:=[[.lsl 1004 0 ((t0.2.map Z2y).length),dI 0,d8 0,.str []]],frz:=0,pure:=false }),(6,{ sz:=3,rows:=[Z2y v8.1],frz:=0,pure:=false }),(1004,{ sz:=3,rows:=(t0.2.map Z2y),frz:=0,pure:=true })]⟩:=
  so <| bd h fun v9 e9 h=>go [] [rg 9 [(3,br0 1 3),(4,ap e9)]] <| nx h
theorem wj130x2 {t0 : Int × (List Z0r)} {x0 : List UInt8} {r : Ctl (Int × (List Z0r)) (((List Z0r) × Int) ⊕ (Z28 × Int))} {Γ : Ctx} (h : (Zlj t0 x0) = some r) : Jn Tryz.prog Tryz.f130 Γ (Rd (Zfo x0) (Zku x0) r) 1167 ⟨75,[(0,.str x0),(2,.lptr 2 0 0),(4,.lptr 4 0 0),(5,dI t0.1)],[(2,{ sz:=4,rows:=[[.sl true (([] : List Z0r).map Z2y),dI 0,d8 0,.str []]],frz:=0,pure:=false }),(4,{ sz:=4,rows:=[[.lsl 1004 0 ((t0.2.map Z2y).length),dI 0,d8 0,.str []]],frz:=0,pure:=false }),(1004,{ sz:=3,rows:=(t0.2.map Z2y),frz:=0,pure:=true })]⟩:=
  so <| bd h fun v8 e8 h=>sp h (fun h12 h=>go [] [rg 6 [(2,k (w128 e8))],rg 7 [(1,kb h12)]] <| bT rfl <| go [] [] <| dn h (i2 iR)) fun h12 h=>
  go [] [rg 6 [(2,k (w128 e8))],rg 7 [(1,kb h12)]] <| br h (fun h13 h=>go [] [] <| dn h (i2 iR)) fun h13 h=>
  go [9] [] <| jn ((wj130x3 x0) h)
theorem wl130x1 {x0 : List UInt8} {t0 : Int × (List Z0r)} {r : Ctl (Int × (List Z0r)) (((List Z0r) × Int) ⊕ (Z28 × Int))} {Γ : Ctx} (h : (Zm9 x0) t0 = some r) : A Tryz.prog Γ (lpC Tryz.f130 79) [] (Rd (Zfo x0) (Zku x0) r) ((Zfo x0) t0).s:=
  sp h (fun h10 h=>bd h fun v7 e7 h=>go [] [rg 5 [(3,kb h10),(7,ib e7)]] <| br h (fun h11 h=>go [6] [] <| jn (wj130x2 h)) fun h11 h=>
  go [] [] <| dn h (i1 iE)) fun h10 h=>
  go [] [rg 5 [(3,kb h10)]] <| bF rfl <| go [] [] <| dn h (i1 iE)
theorem wj130x1 {x0 : List UInt8} {r : Z28 × Int} {Γ : Ctx} (h : (Znd x0) = some r) : Jn Tryz.prog Tryz.f130 Γ (Den.Ends Tryz.prog Tryz.f130 (R130 r)) 11 ⟨75,[(0,.str x0),(2,.lptr 2 0 0)],[(2,{ sz:=4,rows:=[[.sl true (([] : List Z0r).map Z2y),dI 0,d8 0,.str []]],frz:=0,pure:=false })]⟩:=
  so <| go [] [] <| bd h fun q1 e10 h=>lp (cv:=[.blk 4 0 1004 3]) e10 wl130x1 <| match q1,h with
  | .inl q0,h=>j1 <| (qe <| goN [] [] <| br h (fun h14 h=>go [] [] <| rt h) fun h14 h=>
    bd h fun v10 e11 h=>bd h fun v11 e12 h=>go [] [rg 13 [(2,n e11),(3,k (w128 e12))]] <| br h (fun h15 h=>go [] [] <| rt h) fun h15 h=>
      go [] [rg 16 [(2,ln q0.1)]] <| br h (fun h16 h=>go [] [] <| rt h) fun h16 h=>
        go [] [] <| rtB h (.tup [.agg [rw_ q0.1,dI v11.1.Z1y,d8 v11.1.Z1q,.str v11.1.Z02],dI 0]) (a2 (a2 (rpI q0.1) (a2 trivial (a2 trivial (a2 trivial trivial)))) (a2 trivial trivial)) (by simp only [rwE] <;> kernel_rfl))
  | .inr y0,h=>j2 <| (qr h)
theorem w130 {x0 : List UInt8} {r : Z28 × Int} (h : Zaz x0 = some r) : Z0e Tryz.prog 130 [.str x0] (R130 r):=
  cs Tryz.f130 <| sp h (fun h0 h=>go [] [rg 1 [(1,kb h0)]] <| bT rfl <| go [] [] <| rt h) fun h0 h=>
  bd h fun v0 e0 h=>go [] [rg 1 [(1,kb h0),(4,ib e0)]] <| br h (fun h1 h=>go [] [] <| rt h) fun h1 h=>
  go [3] [] <| jn (wj130x1 h)
def R148 (y0 : Bool) : D:= .bool y0
def Zem (x0 : List UInt8) : Option (Bool):=
  (Z84 x0).bind fun v0=>
  if (v0.2 == 0) = true then
    (some (v0.1.Z1q != 86)) else
  ((Zaz x0).bind fun v1=>
    some (v1.2 == 0))
theorem w148 {x0 : List UInt8} {r : Bool} (h : Zem x0 = some r) : Z0e Tryz.prog 148 [.str x0] (R148 r):=
  cs Tryz.f148 <| bd h fun v0 e0 h=>go [] [rg 1 [(1,k (w96 e0))]] <| br h (fun h0 h=>go [] [] <| rt h) fun h0 h=>
  bd h fun v1 e1 h=>go [] [rg 4 [(1,k (w130 e1))]] <| rt h
def R149 (y0 : (List UInt8) × (List UInt8) × Int) : D:= .tup [.str y0.1,.str y0.2.1,.int .i64 y0.2.2]
def Zeh (x0 : List Z00) (x1 : Int) : Option ((List UInt8) × (List UInt8) × Int):=
  (Z8v x0 x1 12).bind fun v0=>
  if (v0.2 != 0) = true then
    (some ([],[],v0.2)) else
  ((Z3l x0 v0.1.f_A).bind fun v1=>
    if (v1.2 != 0) = true then
      (some ([],[],v1.2)) else
    ((Z3l x0 v0.1.f_B).bind fun v2=>
      if (v2.2 != 0) = true then
        (some ([],[],v2.2)) else
      (some (v1.1,v2.1,0))))
theorem w149 {x0 : List Z00} {x1 : Int} {r : (List UInt8) × (List UInt8) × Int} (h : Zeh x0 x1 = some r) : Z0e Tryz.prog 149 [.sl false (x0.map Z09),dI x1] (R149 r):=
  cs Tryz.f149 <| bd h fun v0 e0 h=>go [] [rg 1 [(2,k (w127 e0))]] <| br h (fun h0 h=>go [] [] <| rt h) fun h0 h=>
  bd h fun v1 e1 h=>go [] [rg 4 [(3,k (w94 e1))]] <| br h (fun h1 h=>go [] [] <| rt h) fun h1 h=>
    bd h fun v2 e2 h=>go [] [rg 7 [(3,k (w94 e2))]] <| br h (fun h2 h=>go [] [] <| rt h) fun h2 h=>
      go [] [] <| rt h
def R150 (y0 : Int) : D:= .int .i64 y0
def Zet (x0 : Int) (x1 x2 : List UInt8) : Option (Int):=
  (Zaz x2).bind fun v0=>
  if ((v0.2 == 0) == (x0 == 9)) = true then
    (some 13) else
  (if (x0 == 9) = true then
      (if (decide ((x1.length : Int) > 0)) = true then ((Z30 x1 0).bind fun v1=>
      if (v1 == 60) = true then
        (some 12) else
      (some 0)) else
      (some 0)) else
    (if (x1 == ([60,99,108,105,110,105,116,62] : List UInt8)) = true then (some 12) else
      (if (x1 == ([60,105,110,105,116,62] : List UInt8)) = true then (if (x0 == 11) = true then (some 12) else
          (if (v0.1.Z3g.Z1q != 86) = true then
              (some 12) else
            (some 0))) else
        (some 0))))
theorem w150 {x0 : Int} {x1 x2 : List UInt8} {r : Int} (h : Zet x0 x1 x2 = some r) : Z0e Tryz.prog 150 [dI x0,.str x1,.str x2] (R150 r):=
  cs Tryz.f150 <| bd h fun v0 e0 h=>go [] [rg 1 [(1,k (w130 e0))]] <| br h (fun h0 h=>go [] [] <| rt h) fun h0 h=>
  go [] [] <| br h (fun h1 h=>sp h (fun h2 h=>bd h fun v1 e1 h=>go [] [rg 5 [(2,kb h2),(5,ib e1)]] <| br h (fun h3 h=>go [] [] <| rt h) fun h3 h=>
      go [] [] <| rt h) fun h2 h=>
      go [] [rg 5 [(2,kb h2)]] <| bF rfl <| go [] [] <| rt h) fun h1 h=>
    go [8] [] <| po <| pr 3 [] <| sp h (fun h4 h=>pr 13 [(3,gs0 h4),(4,gs0 h4),(5,gs0 h4),(14,gs0 h4),(15,py h4)] <| pe <| goN [] [] <| bT rfl <| go [] [] <| rt h) fun h4 h=>
      pr 3 [(3,gw h4 g0),(4,gw h4 g0),(5,gw h4 g0)] <| sp h (fun h5 h=>pr 3 [(6,gw h5 g0),(7,gw h5 g0),(8,gw h5 g0)] <| sp h (fun h6 h=>pr 7 [(9,gs0 h6),(10,gs0 h6),(11,gs0 h6),(12,gs0 h6),(13,gw h5 (py h6)),(14,gw h4 (py h5)),(15,pn h4)] <| pe <| goN [] [] <| bT rfl <| go [] [] <| rt h) fun h6 h=>
          pr 7 [(9,gw h6 g0),(10,gw h6 g0),(11,gw h6 g0),(12,gw h6 g0),(13,gw h5 (pn h6)),(14,gw h4 (py h5)),(15,pn h4)] <| pe <| goN [] [] <| br h (fun h7 h=>go [] [] <| rt h) fun h7 h=>
            go [] [] <| rt h) fun h5 h=>
        pr 10 [(6,gs1 h5),(7,gs1 h5),(8,gs1 h5),(13,gs1 h5),(14,gw h4 (pn h5)),(15,pn h4)] <| pe <| goN [] [] <| bF rfl <| go [] [] <| rt h
def R122 (y0 : Int) : D:= .int .i64 y0
def Zdl (x0 : List Z00) (x1 : Z00) : Option (Int):=
  (Z7y x1.Z1w).bind fun v6=>
  if v6 = true then
    ((Zeh x0 x1.f_B).bind fun v7=>
    if (v7.2.2 == 0) = true then
      ((Zet x1.Z1w v7.1 v7.2.1).bind fun v8=>
      some v8) else
    (some 0)) else
  (some 0)
def Zee (x0 : List Z00) (x1 : Z00) : Option (Int):=
  if (x1.Z1w == 12) = true then
    ((Z3l x0 x1.f_A).bind fun v2=>
    (Z3l x0 x1.f_B).bind fun v3=>
    (Z9x v2.1).bind fun v4=>
    if (!v4) = true then
      (some 12) else
    ((Zem v3.1).bind fun v5=>
      if (!v5) = true then
        (some 13) else
      ((Zdl x0 x1)))) else
  ((Zdl x0 x1))
def Zhy (x0 : List Z00) (x1 : Z00) : Option (Int):=
  if (x1.Z1w == 7) = true then
    ((Z3l x0 x1.f_A).bind fun v0=>
    (Zjf v0.1).bind fun v1=>
    if (v1.2 != 0) = true then
      (some 13) else
    ((Zee x0 x1))) else
  ((Zee x0 x1))
theorem Zug {x0 : List Z00} {x1 : Z00} {r : Int} {Γ : Ctx} (h : (Zdl x0 x1) = some r) : Jn Tryz.prog Tryz.f122 Γ (Den.Ends Tryz.prog Tryz.f122 (R122 r)) 39 ⟨74,[(0,.sl false (x0.map Z09)),(3,.ptr (Z09 x1))],[]⟩:=
  so <| bd h fun v6 e6 h=>go [] [rg 13 [(2,k (w145 e6))]] <| br h (fun h5 h=>bd h fun v7 e7 h=>go [] [rg 14 [(3,k (w149 e7))]] <| br h (fun h6 h=>bd h fun v8 e8 h=>go [] [rg 16 [(4,k (w150 e8))]] <| rt h) fun h6 h=>
    go [] [] <| rt h) fun h5 h=>
  go [] [] <| rt h
theorem Zr2 {x0 : List Z00} {x1 : Z00} {r : Int} {Γ : Ctx} (h : (Zee x0 x1) = some r) : Jn Tryz.prog Tryz.f122 Γ (Den.Ends Tryz.prog Tryz.f122 (R122 r)) 19 ⟨74,[(0,.sl false (x0.map Z09)),(3,.ptr (Z09 x1))],[]⟩:=
  so <| go [] [] <| br h (fun h2 h=>bd h fun v2 e2 h=>bd h fun v3 e3 h=>bd h fun v4 e4 h=>go [] [rg 7 [(3,k (w94 e2))],rg 8 [(3,k (w94 e3))],rg 9 [(1,k (w95 e4))]] <| br h (fun h3 h=>go [] [] <| rt h) fun h3 h=>
    bd h fun v5 e5 h=>go [] [rg 11 [(1,k (w148 e5))]] <| br h (fun h4 h=>go [] [] <| rt h) fun h4 h=>
      go [13] [] <| jn (Zug h)) fun h2 h=>
  go [13] [] <| jn (Zug h)
theorem w122 {x0 : List Z00} {x1 : Z00} {r : Int} (h : Zhy x0 x1 = some r) : Z0e Tryz.prog 122 [.sl false (x0.map Z09),.agg (Z09 x1)] (R122 r):=
  cs Tryz.f122 <| go [] [rg 0 [(0,bo)]] <| br h (fun h0 h=>bd h fun v0 e0 h=>bd h fun v1 e1 h=>go [] [rg 2 [(3,k (w94 e0))],rg 3 [(1,k (w147 e1))]] <| br h (fun h1 h=>go [] [] <| rt h) fun h1 h=>
    go [6] [] <| jn (Zr2 h)) fun h0 h=>
  go [6] [] <| jn (Zr2 h)
def R88 (y0 : Int) : D:= .int .i64 y0
def j88x2 (x0 : List Z00) (x1 : Z00) : Option (Int):=
  (Zjk x0 x1).bind fun v2=>
  if (v2 != 0) = true then
    (some v2) else
  ((Zhy x0 x1).bind fun v3=>
    some v3)
def Z8u (x0 : List Z00) (x1 : Z00) : Option (Int):=
  if (x1.Z1w == 1) = true then (some 0) else
  (if (x1.Z1w == 3) = true then (some 0) else
    (if (x1.Z1w == 5) = true then
        (some 0) else
      ((j88x2 x0 x1))))
def Zev (x0 : List Z00) (x1 : Z00) : Option (Int):=
  (Zie x1.Z1w).bind fun v0=>
  if (!v0) = true then
    (some 11) else
  ((Zje x1).bind fun v1=>
    if (!v1) = true then
      (some 4) else
    (if (x1.Z1w == 1) = true then (if (decide ((x1.f_S.length : Int) > 1024)) = true then (some 8) else
        (if (x1.Z1w == 3) = true then (if (decide (x1.f_N < (-2147483648))) = true then (some 8) else
            (if (decide (x1.f_N > 2147483647)) = true then
                (some 8) else
              ((Z8u x0 x1)))) else
          ((Z8u x0 x1)))) else
      (if (x1.Z1w == 3) = true then (if (decide (x1.f_N < (-2147483648))) = true then (some 8) else
          (if (decide (x1.f_N > 2147483647)) = true then
              (some 8) else
            ((Z8u x0 x1)))) else
        ((Z8u x0 x1)))))
theorem wj88x2 {x0 : List Z00} {x1 : Z00} {r : Int} {Γ : Ctx} (h : (j88x2 x0 x1) = some r) : Jn Tryz.prog Tryz.f88 Γ (Den.Ends Tryz.prog Tryz.f88 (R88 r)) 159 ⟨59,[(0,.sl false (x0.map Z09)),(3,.ptr (Z09 x1))],[]⟩:=
  so <| bd h fun v2 e2 h=>go [] [rg 9 [(2,k (w121 e2))]] <| br h (fun h13 h=>go [] [] <| rt h) fun h13 h=>
  bd h fun v3 e3 h=>go [] [rg 12 [(2,k (w122 e3))]] <| rt h
theorem Zhm {x0 : List Z00} {x1 : Z00} {r : Int} {Γ : Ctx} (h : (Z8u x0 x1) = some r) : Jn Tryz.prog Tryz.f88 Γ (Den.Ends Tryz.prog Tryz.f88 (R88 r)) 79 ⟨59,[(0,.sl false (x0.map Z09)),(3,.ptr (Z09 x1))],[]⟩:=
  po <| pr 4 [] <| sp h (fun h10 h=>pr 9 [(4,gs0 h10),(5,gs0 h10),(6,gs0 h10),(7,py h10)] <| pe <| goN [] [] <| bT rfl <| go [] [] <| rt h) fun h10 h=>
  pr 5 [(4,gw h10 g0),(5,gw h10 g0),(6,gw h10 g0),(7,pn h10)] <| sp h (fun h11 h=>pr 4 [(9,gs0 h11),(10,gs0 h11),(11,gs0 h11),(12,py h11)] <| pe <| goN [] [] <| bT rfl <| go [] [] <| rt h) fun h11 h=>
    pr 4 [(9,gw h11 g0),(10,gw h11 g0),(11,gw h11 g0),(12,pn h11)] <| pe <| goN [] [] <| br h (fun h12 h=>go [] [] <| rt h) fun h12 h=>
      go [9] [] <| jn (wj88x2 h)
theorem w88 {x0 : List Z00} {x1 : Z00} {r : Int} (h : Zev x0 x1 = some r) : Z0e Tryz.prog 88 [.sl false (x0.map Z09),.agg (Z09 x1)] (R88 r):=
  cs Tryz.f88 <| bd h fun v0 e0 h=>go [] [rg 0 [(0,bo)],rg 1 [(2,k (w119 e0))]] <| br h (fun h0 h=>go [] [] <| rt h) fun h0 h=>
  bd h fun v1 e1 h=>go [] [rg 3 [(1,k (w120 e1))]] <| br h (fun h1 h=>go [] [] <| rt h) fun h1 h=>
    go [5] [] <| po <| pr 4 [] <| sp h (fun h2 h=>pr 6 [(4,gw h2 g0),(5,gw h2 g0),(6,gw h2 g0),(7,gw h2 g0),(8,py h2)] <| sp h (fun h3 h=>pr 14 [(10,gs0 h3),(11,gs0 h3),(12,gs0 h3),(13,gs0 h3),(22,gs0 h3),(23,py h3)] <| pe <| goN [] [] <| bT rfl <| go [] [] <| rt h) fun h3 h=>
        pr 4 [(10,gw h3 g0),(11,gw h3 g0),(12,gw h3 g0),(13,gw h3 g0)] <| sp h (fun h4 h=>pr 4 [(14,gw h4 g0),(15,gw h4 g0),(16,gw h4 g0),(17,gw h4 g0)] <| sp h (fun h5 h=>pr 6 [(18,gs0 h5),(19,gs0 h5),(20,gs0 h5),(21,gw h4 (py h5)),(22,gw h3 (py h4)),(23,pn h3)] <| pe <| goN [] [] <| bT rfl <| go [] [] <| rt h) fun h5 h=>
            pr 6 [(18,gw h5 g0),(19,gw h5 g0),(20,gw h5 g0),(21,gw h4 (pn h5)),(22,gw h3 (py h4)),(23,pn h3)] <| pe <| goN [] [] <| br h (fun h6 h=>go [] [] <| rt h) fun h6 h=>
              go [7] [] <| jn (Zhm h)) fun h4 h=>
          pr 10 [(14,gs1 h4),(15,gs1 h4),(16,gs1 h4),(17,gs1 h4),(21,gs1 h4),(22,gw h3 (pn h4)),(23,pn h3)] <| pe <| goN [] [] <| bF rfl <| go [7] [] <| jn (Zhm h)) fun h2 h=>
      pr 10 [(4,gs1 h2),(5,gs1 h2),(6,gs1 h2),(7,gs1 h2),(8,pn h2)] <| sp h (fun h7 h=>pr 4 [(14,gw h7 g0),(15,gw h7 g0),(16,gw h7 g0),(17,gw h7 g0)] <| sp h (fun h8 h=>pr 6 [(18,gs0 h8),(19,gs0 h8),(20,gs0 h8),(21,gw h7 (py h8)),(22,py h7)] <| pe <| goN [] [] <| bT rfl <| go [] [] <| rt h) fun h8 h=>
          pr 6 [(18,gw h8 g0),(19,gw h8 g0),(20,gw h8 g0),(21,gw h7 (pn h8)),(22,py h7)] <| pe <| goN [] [] <| br h (fun h9 h=>go [] [] <| rt h) fun h9 h=>
            go [7] [] <| jn (Zhm h)) fun h7 h=>
        pr 10 [(14,gs1 h7),(15,gs1 h7),(16,gs1 h7),(17,gs1 h7),(21,gs1 h7),(22,pn h7)] <| pe <| goN [] [] <| bF rfl <| go [7] [] <| jn (Zhm h)
def R66 (y0 : Int × Int) : D:= .tup [.int .i64 y0.1,.int .i64 y0.2]
def l66x1 (x0 : List Z00) (t0 : Int) : Option (Ctl (Int) (Unit ⊕ (Int × Int))):=
  if (decide (t0 < (x0.length : Int))) = true then
    ((Z0g x0 t0).bind fun v2=>
    (Zev x0 v2).bind fun v3=>
    if (v3 != 0) = true then
      ((some (IntKind.wrap .i64 (t0 + (1 : Int)))).bind fun v4=>
      some (.done (.inr (v4,v3)))) else
    ((some (IntKind.wrap .i64 (t0 + (1 : Int)))).bind fun v5=>
      some (.next v5))) else
  (some (.done (.inl (()))))
def Zdq (x0 : List Z00) : Option (Int × Int):=
  if (decide ((x0.length : Int) > 1000)) = true then
    (some (0,5)) else
  ((Z0d (l66x1 x0) Z0i 0).bind fun q1=>
    match q1 with
    | .inl q0=>(some (0,0))
    | .inr y0=>(some y0))
def Zrd (x0 : List Z00) : Int → SL:=
  fun t0=>⟨26,[(0,.sl false (x0.map Z09)),(4,dI t0)],[]⟩
def J66x1 : JT (Unit ⊕ (Int × Int)):=
  ju (je 0 fun q0 : Unit=>⟨26,[],[]⟩) (jr Tryz.prog Tryz.f66 R66)
theorem wl66x1 {x0 : List Z00} {t0 : Int} {r : Ctl (Int) (Unit ⊕ (Int × Int))} {Γ : Ctx} (h : (l66x1 x0) t0 = some r) : A Tryz.prog Γ (lpC Tryz.f66 43) [] (Rd (Zrd x0) J66x1 r) ((Zrd x0) t0).s:=
  go [] [rg 4 [(2,ln x0)]] <| br h (fun h3 h=>bd h fun v2 e2 h=>bd h fun v3 e3 h=>go [] [rg 6 [(3,ix e2),(5,k (w88 e3))]] <| br h (fun h4 h=>bd h fun v4 e4 h=>go [] [rg 8 [(1,n e4)]] <| dn h (i2 iR)) fun h4 h=>
    bd h fun v5 e5 h=>go [] [rg 5 [(1,n e5)]] <| nx h) fun h3 h=>
  go [] [] <| dn h (i1 iE)
theorem w66 {x0 : List Z00} {r : Int × Int} (h : Zdq x0 = some r) : Z0e Tryz.prog 66 [.sl false (x0.map Z09)] (R66 r):=
  cs Tryz.f66 <| go [] [rg 1 [(1,ln x0)]] <| br h (fun h0 h=>go [] [] <| rt h) fun h0 h=>
  go [] [] <| bd h fun q1 e6 h=>lp e6 wl66x1 <| match q1,h with
    | .inl q0,h=>j1 <| (qe <| goN [] [] <| rt h)
    | .inr y0,h=>j2 <| (qr h)
def R107 (y0 : Bool) : D:= .bool y0
def Zl8 (x0 : List Z01) (t0 : Int) : Option (Ctl (Int) (Unit ⊕ Bool)):=
  if (decide (t0 < (x0.length : Int))) = true then
    ((Z0g x0 t0).bind fun v2=>
    (Z4s v2).bind fun v3=>
    if (v3 != 0) = true then
      (some (.done (.inr false))) else
    ((some (IntKind.wrap .i64 (t0 + (1 : Int)))).bind fun v4=>
      some (.next v4))) else
  (some (.done (.inl (()))))
def Zh4 (x0 : List Z01) : Option (Bool):=
  (Z0d (Zl8 x0) Z0i 0).bind fun q1=>
  match q1 with
  | .inl q0=>(some true)
  | .inr y0=>(some y0)
def Zr3 (x0 : List Z01) : Int → SL:=
  fun t0=>⟨16,[(0,.sl false (x0.map Z0l)),(3,dI t0)],[]⟩
def J107x1 : JT (Unit ⊕ Bool):=
  ju (je 0 fun q0 : Unit=>⟨16,[],[]⟩) (jr Tryz.prog Tryz.f107 R107)
theorem wl107x1 {x0 : List Z01} {t0 : Int} {r : Ctl (Int) (Unit ⊕ Bool)} {Γ : Ctx} (h : (Zl8 x0) t0 = some r) : A Tryz.prog Γ (lpC Tryz.f107 21) [] (Rd (Zr3 x0) J107x1 r) ((Zr3 x0) t0).s:=
  go [] [rg 2 [(2,ln x0)]] <| br h (fun h2 h=>bd h fun v2 e2 h=>bd h fun v3 e3 h=>go [] [rg 4 [(2,ix e2),(4,k (w83 e3))]] <| br h (fun h3 h=>go [] [] <| dn h (i2 iR)) fun h3 h=>
    bd h fun v4 e4 h=>go [] [rg 3 [(1,n e4)]] <| nx h) fun h2 h=>
  go [] [] <| dn h (i1 iE)
theorem w107 {x0 : List Z01} {r : Bool} (h : Zh4 x0 = some r) : Z0e Tryz.prog 107 [.sl false (x0.map Z0l)] (R107 r):=
  cs Tryz.f107 <| go [] [] <| bd h fun q1 e5 h=>lp e5 wl107x1 <| match q1,h with
  | .inl q0,h=>j1 <| (qe <| goN [] [] <| rt h)
  | .inr y0,h=>j2 <| (qr h)
def R116 (y0 : Int) : D:= .int .i64 y0
def Zna (v0 : Int) : Option (Int):=
  if (v0 == 5) = true then
    (some 3) else
  (some 0)
def Zk5 (v0 : Int) : Option (Int):=
  if (v0 == 2) = true then
    (some 3) else
  (if (v0 == 3) = true then
      (some 3) else
    ((Zna v0)))
def Znz (v0 : Int) : Option (Int):=
  if (v0 == 4) = true then
    (some 2) else
  ((Zk5 v0))
def Zbl (x0 : Int) : Option (Int):=
  (Z67 x0).bind fun v0=>
  if (v0 == 0) = true then
    (some 1) else
  (if (v0 == 1) = true then
      (some 2) else
    ((Znz v0)))
theorem wj116x3 {v0 : Int} {r : Int} {Γ : Ctx} (h : (Zna v0) = some r) : Jn Tryz.prog Tryz.f116 Γ (Den.Ends Tryz.prog Tryz.f116 (R116 r)) 1013 ⟨14,[(10,.bool (v0 == 5))],[]⟩ (v0 == 5):=
  br h (fun h5 h=>go [] [] <| rt h) fun h5 h=>
  go [] [] <| rt h
theorem wj116x2 {v0 : Int} {r : Int} {Γ : Ctx} (h : (Zk5 v0) = some r) : Jn Tryz.prog Tryz.f116 Γ (Den.Ends Tryz.prog Tryz.f116 (R116 r)) 1269 ⟨14,[(4,dI v0)],[]⟩:=
  so <| go [] [] <| br h (fun h3 h=>go [] [] <| bT h3 <| go [] [] <| rt h) fun h3 h=>
  go [] [] <| br h (fun h4 h=>go [] [] <| bT h4 <| go [] [] <| rt h) fun h4 h=>
    go [] [] <| jn (wj116x3 h)
theorem wj116x1 {v0 : Int} {r : Int} {Γ : Ctx} (h : (Znz v0) = some r) : Jn Tryz.prog Tryz.f116 Γ (Den.Ends Tryz.prog Tryz.f116 (R116 r)) 245 ⟨14,[(4,dI v0),(7,.bool (v0 == 4))],[]⟩ (v0 == 4):=
  br h (fun h2 h=>go [] [] <| rt h) fun h2 h=>
  go [7] [] <| jn (wj116x2 h)
theorem w116 {x0 : Int} {r : Int} (h : Zbl x0 = some r) : Z0e Tryz.prog 116 [dI x0] (R116 r):=
  cs Tryz.f116 <| bd h fun v0 e0 h=>go [] [rg 1 [(1,k (w108 e0))]] <| br h (fun h0 h=>go [] [] <| rt h) fun h0 h=>
  go [] [] <| br h (fun h1 h=>go [] [] <| bT h1 <| go [] [] <| rt h) fun h1 h=>
    go [] [] <| jn (wj116x1 h)
def R84 (y0 : Int) : D:= .int .i64 y0
def Zja (x0 : Z01) : Option (Int):=
  if (x0.f_Op == 53) = true then
    ((some (IntKind.wrap .i64 ((2 : Int) * (x0.Z0a.length : Int)))).bind fun v0=>
    (some (IntKind.wrap .i64 ((9 : Int) + v0))).bind fun v1=>
    some v1) else
  (if (x0.f_Op == 54) = true then
      ((some (IntKind.wrap .i64 ((6 : Int) * (x0.Z0y.length : Int)))).bind fun v2=>
      (some (IntKind.wrap .i64 ((5 : Int) + v2))).bind fun v3=>
      some v3) else
    ((Zbl x0.f_Op).bind fun v4=>
      some v4))
theorem w84 {x0 : Z01} {r : Int} (h : Zja x0 = some r) : Z0e Tryz.prog 84 [.agg (Z0l x0)] (R84 r):=
  cs Tryz.f84 <| go [] [rg 0 [(0,bo)]] <| br h (fun h0 h=>bd h fun v0 e0 h=>bd h fun v1 e1 h=>go [] [rg 3 [(2,ln x0.Z0a),(3,n e0),(4,n e1)]] <| rt h) fun h0 h=>
  go [] [] <| br h (fun h1 h=>bd h fun v2 e2 h=>bd h fun v3 e3 h=>go [] [rg 5 [(2,ln x0.Z0y),(3,n e2),(4,n e3)]] <| rt h) fun h1 h=>
    bd h fun v4 e4 h=>go [] [rg 6 [(2,k (w116 e4))]] <| rt h
def R60 (y0 : (List Int) × Int) : D:= .tup [.sl false (y0.1.map Z03),.int .i64 y0.2]
def Zas (x0 : List Z01) (t0 : Int) : Option (Ctl (Int) (Unit ⊕ ((List Int) × Int))):=
  if (decide (t0 < (x0.length : Int))) = true then
    ((Z0g x0 t0).bind fun v2=>
    (Z4s v2).bind fun v3=>
    if (v3 != 0) = true then
      (some (.done (.inr (([] : List Int),v3)))) else
    ((some (IntKind.wrap .i64 (t0 + (1 : Int)))).bind fun v4=>
      some (.next v4))) else
  (some (.done (.inl (()))))
def Zgt (x0 : List Z01) (t1 : Int × (List Int)) : Option (Ctl (Int × (List Int)) (((List Int)))):=
  if (decide (t1.1 < (x0.length : Int))) = true then
    ((Z2r t1.1 t1.2.length).bind fun v11=>
    (t1.2[v11]?).bind fun v12=>
    (Z0g x0 t1.1).bind fun v13=>
    (Zja v13).bind fun v14=>
    (some (IntKind.wrap .i64 (v12 + v14))).bind fun v15=>
    (Z24 8 (t1.2 ++ [v15]).length).bind fun v16=>
    (some (IntKind.wrap .i64 (t1.1 + (1 : Int)))).bind fun v17=>
    some (.next (v17,(t1.2 ++ [v15])))) else
  (some (.done (t1.2)))
def Z5x (x0 : List Z01) : Option ((List Int) × Int):=
  (Z0d (Zas x0) Z0i 0).bind fun q1=>
  match q1 with
  | .inl q0=>(if (decide ((x0.length : Int) > 1000)) = true then
      (some (([] : List Int),5)) else
    ((Z0d (Zgt x0) Z0i (0,[0])).bind fun q2=>
      (Z2r (x0.length : Int) q2.length).bind fun v18=>
      (q2[v18]?).bind fun v19=>
      if (decide (v19 > 20000)) = true then
        (some (([] : List Int),8)) else
      (some (q2,0))))
  | .inr y0=>(some y0)
def Zrx (x0 : List Z01) : Int → SL:=
  fun t0=>⟨52,[(0,.sl false (x0.map Z0l)),(4,dI t0)],[]⟩
def J60x1 (x0 : List Z01) : JT (Unit ⊕ ((List Int) × Int)):=
  ju (je 0 fun q0 : Unit=>⟨52,[(0,.sl false (x0.map Z0l))],[]⟩) (jr Tryz.prog Tryz.f60 R60)
theorem wl60x1 {x0 : List Z01} {t0 : Int} {r : Ctl (Int) (Unit ⊕ ((List Int) × Int))} {Γ : Ctx} (h : (Zas x0) t0 = some r) : A Tryz.prog Γ (lpC Tryz.f60 21) [] (Rd (Zrx x0) (J60x1 x0) r) ((Zrx x0) t0).s:=
  go [] [rg 2 [(2,ln x0)]] <| br h (fun h2 h=>bd h fun v2 e2 h=>bd h fun v3 e3 h=>go [] [rg 4 [(2,ix e2),(4,k (w83 e3))]] <| br h (fun h3 h=>go [] [] <| dn h (i2 iR)) fun h3 h=>
    bd h fun v4 e4 h=>go [] [rg 3 [(1,n e4)]] <| nx h) fun h2 h=>
  go [] [] <| dn h (i1 iE)
def Zte (x0 : List Z01) : (Int × (List Int)) → SL:=
  fun t1=>⟨52,[(0,.sl false (x0.map Z0l)),(6,.lsl 6 0 ((t1.2.map Z03).length)),(7,dI t1.1)],[(6,{ sz:=1,rows:=(t1.2.map Z03),frz:=0,pure:=true })]⟩
def J60x2 (x0 : List Z01) : JT (((List Int))):=
  je 2 fun q2 : (List Int)=>⟨52,[(0,.sl false (x0.map Z0l)),(6,.lsl 6 0 ((q2.map Z03).length))],[(6,{ sz:=1,rows:=(q2.map Z03),frz:=0,pure:=true })]⟩
theorem wl60x2 {x0 : List Z01} {t1 : Int × (List Int)} {r : Ctl (Int × (List Int)) (((List Int)))} {Γ : Ctx} (h : (Zgt x0) t1 = some r) : A Tryz.prog Γ (lpC Tryz.f60 175) [] (Rd (Zte x0) (J60x2 x0) r) ((Zte x0) t1).s:=
  go [] [rg 11 [(2,ln x0)]] <| br h (fun h6 h=>bd h fun v11 e12 h=>bd h fun v12 e13 h=>bd h fun v13 e14 h=>bd h fun v14 e15 h=>bd h fun v15 e16 h=>bd h fun v16 e17 h=>bd h fun v17 e18 h=>go [] [rgo 13 [(3,ia 6 e12),(4,lb e13),(7,ix e14),(9,k (w84 e15)),(10,n e16),(11,br0 1 0),(12,ap e17)] [0,1,2,3,4,5,6,7,8,9,10,11,12,13] [12] [(3,[1,2]),(4,[1,2,3]),(7,[5,6]),(8,[5,6,7]),(9,[5,6,7,8]),(10,[1,2,3,4,5,6,7,8,9]),(11,[1,2,3,4,5,6,7,8,9,10]),(12,[0,1,2,3,4,5,6,7,8,9,10,11]),(13,[0,1,2,3,4,5,6,7,8,9,10,11,12])],rg 12 [(1,n e18)]] <| nx h) fun h6 h=>
  go [] [] <| dn h (iE)
theorem w60 {x0 : List Z01} {r : (List Int) × Int} (h : Z5x x0 = some r) : Z0e Tryz.prog 60 [.sl false (x0.map Z0l)] (R60 r):=
  cs Tryz.f60 <| go [] [] <| bd h fun q1 e5 h=>lp e5 wl60x1 <| match q1,h with
  | .inl q0,h=>j1 <| (qe <| goN [] [rg 7 [(1,ln x0)]] <| br h (fun h4 h=>go [] [] <| rt h) fun h4 h=>
    go [] [rg 9 [(0,bl 1 0)]] <| bd h fun q2 e19 h=>lp (ps:=[(25,6)]) e19 wl60x2 <| qe <| bd h fun v18 e20 h=>bd h fun v19 e21 h=>goN [] [rg 14 [(2,ln x0),(3,ia 6 e20),(4,lb e21)]] <| br h (fun h7 h=>go [] [] <| rt h) fun h7 h=>
      go [] [] <| rtB h (.tup [rw_ q2,dI 0]) (a2 (rpI q2) (a2 trivial trivial)) (by simp only [rwE] <;> kernel_rfl))
  | .inr y0,h=>j2 <| (qr h)
def R79 (y0 : Int) : D:= .int .i64 y0
def j79x2 (x1 : Z08) : Option (Int):=
  (Zh4 x1.Z0q).bind fun v1=>
  if v1 = true then
    ((Z5x x1.Z0q).bind fun v2=>
    if (v2.2 == 8) = true then
      (some v2.2) else
    (some 0)) else
  (some 0)
def Zi2 (x1 : Z08) : Option (Int):=
  if ((x1.Z0q.length : Int) == 0) = true then (some 5) else
  (if (decide ((x1.Z0q.length : Int) > 1000)) = true then
    (some 5) else
  ((j79x2 x1)))
def Zhc (x0 : List Z00) (x1 : Z08) : Option (Int):=
  (Zdq x0).bind fun v0=>
  if (v0.2 != 0) = true then
    (some v0.2) else
  (if (decide (x1.Z10 < 0)) = true then (some 1) else
    (if (decide (x1.Z10 > 32)) = true then (some 1) else
      (if (decide (x1.Z0v < 0)) = true then (some 1) else
        (if (decide (x1.Z0v > 32)) = true then
            (some 1) else
          ((Zi2 x1))))))
theorem wj79x2 {x1 : Z08} {r : Int} {Γ : Ctx} (h : (j79x2 x1) = some r) : Jn Tryz.prog Tryz.f79 Γ (Den.Ends Tryz.prog Tryz.f79 (R79 r)) 79 ⟨57,[(3,.ptr (Z17 x1))],[]⟩:=
  so <| bd h fun v1 e1 h=>go [] [rg 8 [(2,k (w107 e1))]] <| br h (fun h7 h=>bd h fun v2 e2 h=>go [] [rg 9 [(2,k (w60 e2))]] <| br h (fun h8 h=>go [] [] <| rt h) fun h8 h=>
    go [] [] <| rt h) fun h7 h=>
  go [] [] <| rt h
theorem wj79x1 {x1 : Z08} {r : Int} {Γ : Ctx} (h : (Zi2 x1) = some r) : Jn Tryz.prog Tryz.f79 Γ (Den.Ends Tryz.prog Tryz.f79 (R79 r)) 39 ⟨57,[(3,.ptr (Z17 x1))],[]⟩:=
  so <| sp h (fun h5 h=>go [] [rg 6 [(2,ln x1.Z0q),(3,kb h5)]] <| bT rfl <| go [] [] <| rt h) fun h5 h=>
  go [] [rg 6 [(2,ln x1.Z0q),(3,kb h5),(7,ln x1.Z0q)]] <| br h (fun h6 h=>go [] [] <| rt h) fun h6 h=>
  go [8] [] <| jn (wj79x2 h)
theorem w79 {x0 : List Z00} {x1 : Z08} {r : Int} (h : Zhc x0 x1 = some r) : Z0e Tryz.prog 79 [.sl false (x0.map Z09),.agg (Z17 x1)] (R79 r):=
  cs Tryz.f79 <| bd h fun v0 e0 h=>go [] [rg 0 [(0,bo)],rg 1 [(1,k (w66 e0))]] <| br h (fun h0 h=>go [] [] <| rt h) fun h0 h=>
  go [4] [] <| po <| pr 4 [] <| sp h (fun h1 h=>pr 14 [(4,gs0 h1),(5,gs0 h1),(6,gs0 h1),(7,py h1)] <| pe <| goN [] [] <| bT rfl <| go [] [] <| rt h) fun h1 h=>
    pr 5 [(4,gw h1 g0),(5,gw h1 g0),(6,gw h1 g0),(7,pn h1)] <| sp h (fun h2 h=>pr 9 [(9,gs0 h2),(10,gs0 h2),(11,gs0 h2),(12,py h2)] <| pe <| goN [] [] <| bT rfl <| go [] [] <| rt h) fun h2 h=>
      pr 5 [(9,gw h2 g0),(10,gw h2 g0),(11,gw h2 g0),(12,pn h2)] <| sp h (fun h3 h=>pr 4 [(14,gs0 h3),(15,gs0 h3),(16,gs0 h3),(17,py h3)] <| pe <| goN [] [] <| bT rfl <| go [] [] <| rt h) fun h3 h=>
        pr 4 [(14,gw h3 g0),(15,gw h3 g0),(16,gw h3 g0),(17,pn h3)] <| pe <| goN [] [] <| br h (fun h4 h=>go [] [] <| rt h) fun h4 h=>
          go [6] [] <| jn (wj79x1 h)
def R117 (y0 : Bool) : D:= .bool y0
def Zb0 (x0 : Int) : Option (Bool):=
  (Z63 x0 36 54).bind fun v0=>
  some v0
theorem w117 {x0 : Int} {r : Bool} (h : Zb0 x0 = some r) : Z0e Tryz.prog 117 [dI x0] (R117 r):=
  cs Tryz.f117 <| bd h fun v0 e0 h=>go [] [rg 1 [(1,k (w110 e0))]] <| rt h
def R85 (y0 : (List Int)) : D:= .sl false (y0.map Z03)
def Zbj (x0 : Z01) : Option ((List Int)):=
  (Zb0 x0.f_Op).bind fun v0=>
  if (!v0) = true then
    (some ([] : List Int)) else
  ((Z24 8 ([x0.f_To] ++ x0.Z0a).length).bind fun v1=>
    some ([x0.f_To] ++ x0.Z0a))
theorem w85 {x0 : Z01} {r : (List Int)} (h : Zbj x0 = some r) : Z0e Tryz.prog 85 [.agg (Z0l x0)] (R85 r):=
  cs Tryz.f85 <| bd h fun v0 e0 h=>go [] [rg 0 [(0,bo)],rg 1 [(2,k (w117 e0))]] <| br h (fun h0 h=>go [] [] <| rt h) fun h0 h=>
  bd h fun v1 e1 h=>go [] [rg 3 [(2,bl 1 0)],rg 4 [(3,ap e1)]] <| rtB h (rw_ ([x0.f_To] ++ x0.Z0a)) (a2 (rpI ([x0.f_To] ++ x0.Z0a)) trivial) (by simp only [rwE] <;> kernel_rfl)
def R139 (y0 : Bool) : D:= .bool y0
def Zk8 (x0 : List Int) (x1 t0 : Int) : Option (Ctl (Int) (Unit ⊕ Bool)):=
  if (decide (t0 < (x0.length : Int))) = true then
    ((Z0g x0 t0).bind fun v1=>
    if (v1 == x1) = true then
      (some (.done (.inr true))) else
    ((some (IntKind.wrap .i64 (t0 + (1 : Int)))).bind fun v2=>
      some (.next v2))) else
  (some (.done (.inl (()))))
def Zj8 (x0 : List Int) (x1 : Int) : Option (Bool):=
  (Z0d (Zk8 x0 x1) Z0i 0).bind fun q1=>
  match q1 with
  | .inl q0=>(some false)
  | .inr y0=>(some y0)
def Zv0 (x0 : List Int) (x1 : Int) : Int → SL:=
  fun t0=>⟨18,[(0,.sl false (x0.map Z03)),(1,dI x1),(5,dI t0)],[]⟩
def J139x1 : JT (Unit ⊕ Bool):=
  ju (je 0 fun q0 : Unit=>⟨18,[],[]⟩) (jr Tryz.prog Tryz.f139 R139)
theorem wl139x1 {x0 : List Int} {x1 t0 : Int} {r : Ctl (Int) (Unit ⊕ Bool)} {Γ : Ctx} (h : (Zk8 x0 x1) t0 = some r) : A Tryz.prog Γ (lpC Tryz.f139 21) [] (Rd (Zv0 x0 x1) J139x1 r) ((Zv0 x0 x1) t0).s:=
  go [] [rg 2 [(2,ln x0)]] <| br h (fun h2 h=>bd h fun v1 e1 h=>go [] [rg 4 [(2,ix e1)]] <| br h (fun h3 h=>go [] [] <| dn h (i2 iR)) fun h3 h=>
    bd h fun v2 e2 h=>go [] [rg 3 [(1,n e2)]] <| nx h) fun h2 h=>
  go [] [] <| dn h (i1 iE)
theorem w139 {x0 : List Int} {x1 : Int} {r : Bool} (h : Zj8 x0 x1 = some r) : Z0e Tryz.prog 139 [.sl false (x0.map Z03),dI x1] (R139 r):=
  cs Tryz.f139 <| go [] [] <| bd h fun q1 e3 h=>lp e3 wl139x1 <| match q1,h with
  | .inl q0,h=>j1 <| (qe <| goN [] [] <| rt h)
  | .inr y0,h=>j2 <| (qr h)
def R123 (y0 : (List UInt8) × Int) : D:= .tup [.str y0.1,.int .i64 y0.2]
def Zad (x0 : List Z00) (x1 : Int) : Option ((List UInt8) × Int):=
  (Z8v x0 x1 7).bind fun v0=>
  if (v0.2 != 0) = true then
    (some ([],v0.2)) else
  ((Z3l x0 v0.1.f_A).bind fun v1=>
    some (v1.1,v1.2))
theorem w123 {x0 : List Z00} {x1 : Int} {r : (List UInt8) × Int} (h : Zad x0 x1 = some r) : Z0e Tryz.prog 123 [.sl false (x0.map Z09),dI x1] (R123 r):=
  cs Tryz.f123 <| bd h fun v0 e0 h=>go [] [rg 1 [(2,k (w127 e0))]] <| br h (fun h0 h=>go [] [] <| rt h) fun h0 h=>
  bd h fun v1 e1 h=>go [] [rg 4 [(3,k (w94 e1))]] <| rt h
def R141 (y0 : Bool) : D:= .bool y0
def Z8p (x0 : List Z00) (x1 : Int) : Option (Bool):=
  (Zad x0 x1).bind fun v0=>
  if (v0.2 == 0) = true then (if (decide ((v0.1.length : Int) > 0)) = true then ((Z30 v0.1 0).bind fun v1=>
      some (v1 != 91)) else
    (some false)) else
  (some false)
theorem w141 {x0 : List Z00} {x1 : Int} {r : Bool} (h : Z8p x0 x1 = some r) : Z0e Tryz.prog 141 [.sl false (x0.map Z09),dI x1] (R141 r):=
  cs Tryz.f141 <| bd h fun v0 e0 h=>go [2] [rg 1 [(2,k (w123 e0))]] <| po <| pr 3 [] <| sp h (fun h0 h=>pr 5 [(3,gw h0 g0),(4,gw h0 g0),(5,gw h0 g0),(6,py h0)] <| sp h (fun h1 h=>bd h fun v1 e1 h=>pr 5 [(8,gw h1 g0),(9,gw h1 (ib e1)),(10,gw h1 g0),(11,py h1)] <| pe <| goN [] [] <| rt h) fun h1 h=>
    pr 5 [(8,gs1 h1),(9,gs1 h1),(10,gs1 h1),(11,pn h1)] <| pe <| goN [] [] <| rt h) fun h0 h=>
  pr 10 [(3,gs1 h0),(4,gs1 h0),(5,gs1 h0),(6,pn h0)] <| pe <| goN [] [] <| rt h
def R160 (y0 : Z27 × Int) : D:= .tup [.agg (Zfn y0.1),.int .i64 y0.2]
def Znu (v0 : Z00 × Int) (x0 : List Z00) : Option (Z27 × Int):=
  (Zad x0 v0.1.f_A).bind fun v2=>
  if (v2.2 != 0) = true then
    (some (({ Z1f:=[],Z02:=[],Z1l:=[] } : Z27),v2.2)) else
  ((Zeh x0 v0.1.f_B).bind fun v3=>
    if (v3.2.2 != 0) = true then
      (some (({ Z1f:=[],Z02:=[],Z1l:=[] } : Z27),v3.2.2)) else
    (some (({ Z1f:=v2.1,Z02:=v3.1,Z1l:=v3.2.1 } : Z27),0)))
def Zju (x0 : List Z00) (x1 x2 : Int) : Option (Z27 × Int):=
  (Z8a x0 x1).bind fun v0=>
  if (v0.2 != 0) = true then
    (some (({ Z1f:=[],Z02:=[],Z1l:=[] } : Z27),v0.2)) else
  ((Z7y x2).bind fun v1=>
    if (!v1) = true then (some (({ Z1f:=[],Z02:=[],Z1l:=[] } : Z27),11)) else
    (if (v0.1.Z1w != x2) = true then
      (some (({ Z1f:=[],Z02:=[],Z1l:=[] } : Z27),11)) else
    ((Znu v0 x0))))
theorem wj160x1 {v0 : Z00 × Int} {x0 : List Z00} {r : Z27 × Int} {Γ : Ctx} (h : (Znu v0 x0) = some r) : Jn Tryz.prog Tryz.f160 Γ (Den.Ends Tryz.prog Tryz.f160 (R160 r)) 47 ⟨60,[(0,.sl false (x0.map Z09)),(6,.lptr 6 0 0),(8,.lptr 8 0 0)],[(6,{ sz:=3,rows:=[[.str [],.str [],.str []]],frz:=0,pure:=false }),(8,{ sz:=5,rows:=[Z09 v0.1],frz:=0,pure:=false })]⟩:=
  so <| bd h fun v2 e2 h=>go [] [rg 6 [(3,k (w123 e2))]] <| br h (fun h3 h=>go [] [] <| rt h) fun h3 h=>
  bd h fun v3 e3 h=>go [] [rg 9 [(3,k (w149 e3))]] <| br h (fun h4 h=>go [] [] <| rt h) fun h4 h=>
    go [] [] <| rt h
theorem w160 {x0 : List Z00} {x1 x2 : Int} {r : Z27 × Int} (h : Zju x0 x1 x2 = some r) : Z0e Tryz.prog 160 [.sl false (x0.map Z09),dI x1,dI x2] (R160 r):=
  cs Tryz.f160 <| bd h fun v0 e0 h=>go [] [rg 1 [(2,k (w138 e0))]] <| br h (fun h0 h=>go [] [] <| rt h) fun h0 h=>
  bd h fun v1 e1 h=>sp h (fun h1 h=>go [] [rg 4 [(1,k (w145 e1)),(4,gs0 h1),(5,gs0 h1),(6,gs0 h1),(7,gs0 h1),(8,py h1)]] <| bT rfl <| go [] [] <| rt h) fun h1 h=>
    go [] [rg 4 [(1,k (w145 e1)),(4,gw h1 g0),(5,gw h1 g0),(6,gw h1 g0),(7,gw h1 g0),(8,pn h1)]] <| br h (fun h2 h=>go [] [] <| rt h) fun h2 h=>
    go [6] [] <| jn (wj160x1 h)
def R142 (y0 : Bool) : D:= .bool y0
def Z8s (x0 : List Z00) (x1 : Int) : Option (Bool):=
  (Z8a x0 x1).bind fun v0=>
  (Zju x0 x1 v0.1.Z1w).bind fun v1=>
  if (v1.2 == 0) = true then (some (v1.1.Z02 == ([60,105,110,105,116,62] : List UInt8))) else
  (some false)
theorem w142 {x0 : List Z00} {x1 : Int} {r : Bool} (h : Z8s x0 x1 = some r) : Z0e Tryz.prog 142 [.sl false (x0.map Z09),dI x1] (R142 r):=
  cs Tryz.f142 <| bd h fun v0 e0 h=>bd h fun v1 e1 h=>sp h (fun h0 h=>go [] [rg 1 [(2,k (w138 e0))],rg 2 [(4,k (w160 e1))],rg 3 [(1,kb h0)]] <| rt h) fun h0 h=>
  go [] [rg 1 [(2,k (w138 e0))],rg 2 [(4,k (w160 e1))],rg 3 [(1,kb h0)]] <| rt h
def R109 (y0 : Int) : D:= .int .i64 y0
def Zd9 (x0 : List Z00) (x1 : Z01) : Option (Int):=
  if (x1.f_Op == 63) = true then ((Z8s x0 x1.f_A).bind fun v7=>
    if v7 = true then
      (some 12) else
    (some 0)) else
  (if (x1.f_Op == 65) = true then ((Z8s x0 x1.f_A).bind fun v8=>
      if v8 = true then
        (some 12) else
      (some 0)) else
    (if (x1.f_Op == 66) = true then ((Z8s x0 x1.f_A).bind fun v9=>
        if v9 = true then
          (some 12) else
        (some 0)) else
      (some 0)))
def Z5w (v0 : Z00 × Int) (x0 : List Z00) (x1 : Z01) : Option (Int):=
  if (x1.f_Op == 68) = true then
    ((Z84 v0.1.f_S).bind fun v6=>
    if (v6.2 != 0) = true then (some 13) else
    (if (v6.1.Z1q == 86) = true then
      (some 13) else
    ((Zd9 x0 x1)))) else
  ((Zd9 x0 x1))
def Zj4 (x0 : List Z00) (x1 : Z01) : Option (Int):=
  (Z8a x0 x1.f_A).bind fun v0=>
  if (v0.2 != 0) = true then
    (some 2) else
  ((Zbb x1.f_Op).bind fun v1=>
    (Zj8 v1 v0.1.Z1w).bind fun v2=>
    if (!v2) = true then
      (some 11) else
    (if (x1.f_Op == 67) = true then ((Z8p x0 x1.f_A).bind fun v3=>
        if (!v3) = true then (some 13) else
        (if (decide (x1.f_Op ≥ 59)) = true then (if (decide (x1.f_Op ≤ 66)) = true then ((Z8p x0 v0.1.f_A).bind fun v4=>
              if (!v4) = true then
                (some 13) else
              ((Z5w v0 x0 x1))) else
            ((Z5w v0 x0 x1))) else
          ((Z5w v0 x0 x1)))) else
      (if (decide (x1.f_Op ≥ 59)) = true then (if (decide (x1.f_Op ≤ 66)) = true then ((Z8p x0 v0.1.f_A).bind fun v5=>
            if (!v5) = true then
              (some 13) else
            ((Z5w v0 x0 x1))) else
          ((Z5w v0 x0 x1))) else
        ((Z5w v0 x0 x1)))))
theorem Zs7 {x0 : List Z00} {x1 : Z01} {r : Int} {Γ : Ctx} (h : (Zd9 x0 x1) = some r) : Jn Tryz.prog Tryz.f109 Γ (Den.Ends Tryz.prog Tryz.f109 (R109 r)) 319 ⟨87,[(0,.sl false (x0.map Z09)),(3,.ptr (Z0l x1))],[]⟩:=
  po <| pr 4 [] <| sp h (fun h13 h=>bd h fun v7 e7 h=>pr 15 [(4,gs0 h13),(5,gs0 h13),(6,gs0 h13),(7,py h13),(17,k (w142 e7))] <| pe <| goN [] [] <| br h (fun h14 h=>go [] [] <| rt h) fun h14 h=>
    go [] [] <| rt h) fun h13 h=>
  pr 5 [(4,gw h13 g0),(5,gw h13 g0),(6,gw h13 g0),(7,pn h13)] <| sp h (fun h15 h=>bd h fun v8 e8 h=>pr 10 [(9,gs0 h15),(10,gs0 h15),(11,gs0 h15),(12,py h15),(17,k (w142 e8))] <| pe <| goN [] [] <| br h (fun h16 h=>go [] [] <| rt h) fun h16 h=>
      go [] [] <| rt h) fun h15 h=>
    pr 5 [(9,gw h15 g0),(10,gw h15 g0),(11,gw h15 g0),(12,pn h15)] <| sp h (fun h17 h=>bd h fun v9 e9 h=>pr 5 [(14,gw h17 g0),(15,gw h17 g0),(16,gw h17 g0),(17,gw h17 (k (w142 e9))),(18,py h17)] <| pe <| goN [] [] <| br h (fun h18 h=>go [] [] <| rt h) fun h18 h=>
        go [] [] <| rt h) fun h17 h=>
      pr 5 [(14,gs1 h17),(15,gs1 h17),(16,gs1 h17),(17,gs1 h17),(18,pn h17)] <| pe <| goN [] [] <| bF rfl <| go [] [] <| rt h
theorem Za8 {v0 : Z00 × Int} {x0 : List Z00} {x1 : Z01} {r : Int} {Γ : Ctx} (h : (Z5w v0 x0 x1) = some r) : Jn Tryz.prog Tryz.f109 Γ (Den.Ends Tryz.prog Tryz.f109 (R109 r)) 159 ⟨87,[(0,.sl false (x0.map Z09)),(3,.ptr (Z0l x1)),(5,.lptr 5 0 0)],[(5,{ sz:=5,rows:=[Z09 v0.1],frz:=0,pure:=false })]⟩:=
  so <| go [] [] <| br h (fun h10 h=>bd h fun v6 e6 h=>sp h (fun h11 h=>go [] [rg 9 [(2,k (w96 e6))],rg 10 [(1,kb h11)]] <| bT rfl <| go [] [] <| rt h) fun h11 h=>
    go [] [rg 9 [(2,k (w96 e6))],rg 10 [(1,kb h11)]] <| br h (fun h12 h=>go [] [] <| rt h) fun h12 h=>
    go [12] [] <| jn (Zs7 h)) fun h10 h=>
  go [12] [] <| jn (Zs7 h)
theorem w109 {x0 : List Z00} {x1 : Z01} {r : Int} (h : Zj4 x0 x1 = some r) : Z0e Tryz.prog 109 [.sl false (x0.map Z09),.agg (Z0l x1)] (R109 r):=
  cs Tryz.f109 <| bd h fun v0 e0 h=>go [] [rg 0 [(0,bo)],rg 1 [(3,k (w138 e0))]] <| br h (fun h0 h=>go [] [] <| rt h) fun h0 h=>
  bd h fun v1 e1 h=>bd h fun v2 e2 h=>go [] [rgo 4 [(2,k (w140 e1)),(5,k (w139 e2))] [0,1,2,3,4,5,6] [] [(1,[0]),(2,[0,1]),(4,[3]),(5,[0,1,2,3,4]),(6,[0,1,2,3,4,5])]] <| br h (fun h1 h=>go [] [] <| rt h) fun h1 h=>
    go [6] [] <| po <| pr 4 [] <| sp h (fun h2 h=>bd h fun v3 e3 h=>pr 7 [(4,gw h2 g0),(5,gw h2 g0),(6,gw h2 g0),(7,gw h2 (k (w141 e3))),(8,gw h2 g0),(9,py h2)] <| sp h (fun h3 h=>pr 16 [(11,gs0 h3),(12,gs0 h3),(13,gs0 h3),(14,gs0 h3),(18,gs0 h3),(19,gs0 h3),(25,gs0 h3),(26,py h3)] <| pe <| goN [] [] <| bT rfl <| go [] [] <| rt h) fun h3 h=>
        pr 4 [(11,gw h3 g0),(12,gw h3 g0),(13,gw h3 g0),(14,gw h3 g0)] <| sp h (fun h4 h=>pr 5 [(15,gw h4 g0),(16,gw h4 g0),(17,gw h4 g0),(18,gw h3 (py h4)),(19,gw h3 g0)] <| sp h (fun h5 h=>bd h fun v4 e4 h=>pr 7 [(20,gw h5 g0),(21,gw h5 g0),(22,gw h5 g0),(23,gw h5 (k (w141 e4))),(24,gw h5 g0),(25,gw h3 (py h5)),(26,pn h3)] <| pe <| goN [] [] <| br h (fun h6 h=>go [] [] <| rt h) fun h6 h=>
              go [8] [] <| jn (Za8 h)) fun h5 h=>
            pr 7 [(20,gs1 h5),(21,gs1 h5),(22,gs1 h5),(23,gs1 h5),(24,gs1 h5),(25,gw h3 (pn h5)),(26,pn h3)] <| pe <| goN [] [] <| bF rfl <| go [8] [] <| jn (Za8 h)) fun h4 h=>
          pr 12 [(15,gs1 h4),(16,gs1 h4),(17,gs1 h4),(18,gw h3 (pn h4)),(19,gw h3 g0),(25,gw h3 g0),(26,pn h3)] <| pe <| goN [] [] <| bF rfl <| go [8] [] <| jn (Za8 h)) fun h2 h=>
      pr 11 [(4,gs1 h2),(5,gs1 h2),(6,gs1 h2),(7,gs1 h2),(8,gs1 h2),(9,pn h2)] <| sp h (fun h7 h=>pr 5 [(15,gw h7 g0),(16,gw h7 g0),(17,gw h7 g0),(18,py h7)] <| sp h (fun h8 h=>bd h fun v5 e5 h=>pr 7 [(20,gw h8 g0),(21,gw h8 g0),(22,gw h8 g0),(23,gw h8 (k (w141 e5))),(24,gw h8 g0),(25,py h8)] <| pe <| goN [] [] <| br h (fun h9 h=>go [] [] <| rt h) fun h9 h=>
            go [8] [] <| jn (Za8 h)) fun h8 h=>
          pr 7 [(20,gs1 h8),(21,gs1 h8),(22,gs1 h8),(23,gs1 h8),(24,gs1 h8),(25,pn h8)] <| pe <| goN [] [] <| bF rfl <| go [8] [] <| jn (Za8 h)) fun h7 h=>
        pr 12 [(15,gs1 h7),(16,gs1 h7),(17,gs1 h7),(18,pn h7)] <| pe <| goN [] [] <| bF rfl <| go [8] [] <| jn (Za8 h)
def R80 (y0 : Int) : D:= .int .i64 y0
def l80x1 (v1 : (List Int)) (x1 : Z08) (t0 : Int) : Option (Ctl (Int) (Unit ⊕ Int)):=
  if (decide (t0 < (v1.length : Int))) = true then
    ((Z0g v1 t0).bind fun v4=>
    if (decide (v4 < 0)) = true then (some (.done (.inr 16))) else
    ((Z0g v1 t0).bind fun v5=>
    if (decide (v5 ≥ (x1.Z0q.length : Int))) = true then
      (some (.done (.inr 16))) else
    ((some (IntKind.wrap .i64 (t0 + (1 : Int)))).bind fun v6=>
      some (.next v6)))) else
  (some (.done (.inl (()))))
def Zae (v7 : Int) (x0 : List Z00) (x2 : Z01) : Option (Int):=
  if (v7 == 2) = true then
    ((Zj4 x0 x2).bind fun v8=>
    some v8) else
  (some 0)
def Zhf (x0 : List Z00) (x1 : Z08) (x2 : Z01) : Option (Int):=
  (Z4s x2).bind fun v0=>
  if (v0 != 0) = true then
    (some v0) else
  ((Zbj x2).bind fun v1=>
    (Z0d (l80x1 v1 x1) Z0i 0).bind fun q1=>
    match q1 with
    | .inl q0=>((Z67 x2.f_Op).bind fun v7=>
      if (v7 == 4) = true then (if (decide (x2.f_A ≥ x1.Z0v)) = true then
          (some 21) else
        ((Zae v7 x0 x2))) else
      (if (v7 == 5) = true then (if (decide (x2.f_A ≥ x1.Z0v)) = true then
            (some 21) else
          ((Zae v7 x0 x2))) else
        ((Zae v7 x0 x2))))
    | .inr y0=>(some y0))
def Zq6 (v1 : (List Int)) (x0 : List Z00) (x1 : Z08) (x2 : Z01) : Int → SL:=
  fun t0=>⟨60,[(0,.sl false (x0.map Z09)),(4,.ptr (Z17 x1)),(5,.ptr (Z0l x2)),(8,.sl false (v1.map Z03)),(9,dI t0)],[]⟩
def J80x1 (x0 : List Z00) (x1 : Z08) (x2 : Z01) : JT (Unit ⊕ Int):=
  ju (je 0 fun q0 : Unit=>⟨60,[(0,.sl false (x0.map Z09)),(4,.ptr (Z17 x1)),(5,.ptr (Z0l x2))],[]⟩) (jr Tryz.prog Tryz.f80 R80)
theorem wl80x1 (x0 : List Z00) (x2 : Z01) {v1 : (List Int)} {x1 : Z08} {t0 : Int} {r : Ctl (Int) (Unit ⊕ Int)} {Γ : Ctx} (h : (l80x1 v1 x1) t0 = some r) : A Tryz.prog Γ (lpC Tryz.f80 87) [] (Rd (Zq6 v1 x0 x1 x2) (J80x1 x0 x1 x2) r) ((Zq6 v1 x0 x1 x2) t0).s:=
  go [] [rg 6 [(2,ln v1)]] <| br h (fun h4 h=>bd h fun v4 e4 h=>sp h (fun h5 h=>go [] [rgo 8 [(2,ix e4),(4,kb h5)] [0,1,2,3,4,5,6,7,8,9,10,11,12,13,14] [] [(2,[0,1]),(3,[0,1,2]),(4,[0,1,2,3]),(5,[0,1,2,3,4]),(6,[0,1,2,3,4,5]),(7,[0,1,2,3,4,5]),(8,[0,1,2,3,4,5,6,7]),(9,[0,1,2,3,4,5,6,7,8]),(10,[0,1,2,3,4,5]),(11,[0,1,2,3,4,5,10]),(12,[0,1,2,3,4,5,10,11]),(13,[0,1,2,3,4,5,6,7,8,9,10,11,12]),(14,[0,1,2,3,4,5,6,7,8,9,10,11,12,13])]] <| bT rfl <| go [] [] <| dn h (i2 iR)) fun h5 h=>
    bd h fun v5 e5 h=>go [] [rgo 8 [(2,ix e4),(4,kb h5),(8,ix e5),(12,ln x1.Z0q)] [0,1,2,3,4,5,6,7,8,9,10,11,12,13,14] [] [(2,[0,1]),(3,[0,1,2]),(4,[0,1,2,3]),(5,[0,1,2,3,4]),(6,[0,1,2,3,4,5]),(7,[0,1,2,3,4,5]),(8,[0,1,2,3,4,5,6,7]),(9,[0,1,2,3,4,5,6,7,8]),(10,[0,1,2,3,4,5]),(11,[0,1,2,3,4,5,10]),(12,[0,1,2,3,4,5,10,11]),(13,[0,1,2,3,4,5,6,7,8,9,10,11,12]),(14,[0,1,2,3,4,5,6,7,8,9,10,11,12,13])]] <| br h (fun h6 h=>go [] [] <| dn h (i2 iR)) fun h6 h=>
    bd h fun v6 e6 h=>go [] [rg 7 [(1,n e6)]] <| nx h) fun h4 h=>
  go [] [] <| dn h (i1 iE)
theorem Zlt {v7 : Int} {x0 : List Z00} {x2 : Z01} {r : Int} {Γ : Ctx} (h : (Zae v7 x0 x2) = some r) : Jn Tryz.prog Tryz.f80 Γ (Den.Ends Tryz.prog Tryz.f80 (R80 r)) 319 ⟨60,[(0,.sl false (x0.map Z09)),(5,.ptr (Z0l x2)),(10,dI v7)],[]⟩:=
  so <| go [] [] <| br h (fun h11 h=>bd h fun v8 e9 h=>go [] [rg 14 [(2,k (w109 e9))]] <| rt h) fun h11 h=>
  go [] [] <| rt h
theorem w80 {x0 : List Z00} {x1 : Z08} {x2 : Z01} {r : Int} (h : Zhf x0 x1 x2 = some r) : Z0e Tryz.prog 80 [.sl false (x0.map Z09),.agg (Z17 x1),.agg (Z0l x2)] (R80 r):=
  cs Tryz.f80 <| bd h fun v0 e0 h=>go [] [rg 0 [(0,bo),(1,bo)],rg 1 [(1,k (w83 e0))]] <| br h (fun h0 h=>go [] [] <| rt h) fun h0 h=>
  bd h fun v1 e1 h=>go [] [rg 4 [(1,k (w85 e1))]] <| bd h fun q1 e7 h=>lp e7 (wl80x1 x0 x2) <| match q1,h with
    | .inl q0,h=>j1 <| (qe <| bd h fun v7 e8 h=>goN [11] [rg 10 [(2,k (w108 e8))]] <| po <| pr 3 [] <| sp h (fun h7 h=>pr 10 [(3,gs0 h7),(4,gs0 h7),(5,py h7)] <| pe <| goN [] [] <| br h (fun h8 h=>go [] [] <| rt h) fun h8 h=>
        go [13] [] <| jn (Zlt h)) fun h7 h=>
      pr 4 [(3,gw h7 g0),(4,gw h7 g0),(5,pn h7)] <| sp h (fun h9 h=>pr 6 [(7,gw h9 g0),(8,gw h9 g0),(9,gw h9 g0),(10,gw h9 g0),(11,gw h9 g0),(12,py h9)] <| pe <| goN [] [] <| br h (fun h10 h=>go [] [] <| rt h) fun h10 h=>
          go [13] [] <| jn (Zlt h)) fun h9 h=>
        pr 6 [(7,gs1 h9),(8,gs1 h9),(9,gs1 h9),(10,gs1 h9),(11,gs1 h9),(12,pn h9)] <| pe <| goN [] [] <| bF rfl <| go [13] [] <| jn (Zlt h))
    | .inr y0,h=>j2 <| (qr h)
def R81 (y0 : Bool) : D:= .bool y0
def Zkg (x0 : Int) : Option (Bool):=
  (Z63 x0 52 58).bind fun v0=>
  if v0 = true then (some true) else
  (some (x0 == 78))
theorem w81 {x0 : Int} {r : Bool} (h : Zkg x0 = some r) : Z0e Tryz.prog 81 [dI x0] (R81 r):=
  cs Tryz.f81 <| bd h fun v0 e0 h=>sp h (fun h0 h=>go [] [rg 1 [(1,k (w110 e0)),(3,gs0 h0),(4,gs0 h0),(5,py h0)]] <| rt h) fun h0 h=>
  go [] [rg 1 [(1,k (w110 e0)),(3,gw h0 g0),(4,gw h0 g0),(5,pn h0)]] <| rt h
def R111 (y0 : Bool) : D:= .bool y0
def Zg9 (x0 : List Z00) (x1 : Int) (x2 : Z0k) : Option (Bool):=
  if (decide (x2.Z3x ≥ 0)) = true then (if (decide (x2.Z3x < x2.f_To)) = true then (if (decide (x2.f_To ≤ x1)) = true then (if (decide (x2.Z43 ≥ 0)) = true then (if (decide (x2.Z43 < x1)) = true then (if (x2.Z1o == ([] : List UInt8)) = true then (if (x2.Z1f == 0) = true then (some true) else
              ((Z8p x0 x2.Z1f).bind fun v0=>
                some v0)) else
            (some false)) else
          (some false)) else
        (some false)) else
      (some false)) else
    (some false)) else
  (some false)
theorem w111 {x0 : List Z00} {x1 : Int} {x2 : Z0k} {r : Bool} (h : Zg9 x0 x1 x2 = some r) : Z0e Tryz.prog 111 [.sl false (x0.map Z09),dI x1,.agg (Z15 x2)] (R111 r):=
  cs Tryz.f111 <| go [1] [rg 0 [(0,bo)]] <| po <| pr 4 [] <| sp h (fun h0 h=>pr 7 [(4,gw h0 g0),(5,gw h0 g0),(6,gw h0 g0),(7,gw h0 g0),(8,gw h0 g0),(9,py h0)] <| sp h (fun h1 h=>pr 6 [(11,gw h1 g0),(12,gw h1 g0),(13,gw h1 g0),(14,gw h1 g0),(15,py h1)] <| sp h (fun h2 h=>pr 5 [(17,gw h2 g0),(18,gw h2 g0),(19,gw h2 g0),(20,py h2)] <| sp h (fun h3 h=>pr 6 [(22,gw h3 g0),(23,gw h3 g0),(24,gw h3 g0),(25,gw h3 g0),(26,py h3)] <| sp h (fun h4 h=>pr 5 [(28,gw h4 g0),(29,gw h4 g0),(30,gw h4 g0),(31,py h4)] <| sp h (fun h5 h=>pr 4 [(33,gw h5 g0),(34,gw h5 g0),(35,gw h5 g0),(36,gw h5 g0)] <| sp h (fun h6 h=>pr 7 [(37,gs0 h6),(38,gs0 h6),(39,gs0 h6),(40,gs0 h6),(41,gw h5 (py h6)),(42,py h5)] <| pe <| goN [] [] <| rt h) fun h6 h=>
              bd h fun v0 e0 h=>pr 7 [(37,gw h6 g0),(38,gw h6 g0),(39,gw h6 g0),(40,gw h6 (k (w141 e0))),(41,gw h5 (pn h6)),(42,py h5)] <| pe <| goN [] [] <| rt h) fun h5 h=>
            pr 11 [(33,gs1 h5),(34,gs1 h5),(35,gs1 h5),(36,gs1 h5),(41,gs1 h5),(42,pn h5)] <| pe <| goN [] [] <| rt h) fun h4 h=>
          pr 16 [(28,gs1 h4),(29,gs1 h4),(30,gs1 h4),(31,pn h4)] <| pe <| goN [] [] <| rt h) fun h3 h=>
        pr 22 [(22,gs1 h3),(23,gs1 h3),(24,gs1 h3),(25,gs1 h3),(26,pn h3)] <| pe <| goN [] [] <| rt h) fun h2 h=>
      pr 27 [(17,gs1 h2),(18,gs1 h2),(19,gs1 h2),(20,pn h2)] <| pe <| goN [] [] <| rt h) fun h1 h=>
    pr 33 [(11,gs1 h1),(12,gs1 h1),(13,gs1 h1),(14,gs1 h1),(15,pn h1)] <| pe <| goN [] [] <| rt h) fun h0 h=>
  pr 40 [(4,gs1 h0),(5,gs1 h0),(6,gs1 h0),(7,gs1 h0),(8,gs1 h0),(9,pn h0)] <| pe <| goN [] [] <| rt h
def R173 (y0 : Bool) : D:= .bool y0
def Zax (x0 : List Z00) (x1 : Int) (x2 : Bool) : Option (Bool):=
  (Z3l x0 x1).bind fun v0=>
  if (v0.2 != 0) = true then
    (some false) else
  ((Z84 v0.1).bind fun v1=>
    if (v1.2 != 0) = true then
      (some false) else
    (if (decide (v1.1.Z1y > 0)) = true then
        (some (!x2)) else
      (some (v1.1.Z1q == 76))))
theorem w173 {x0 : List Z00} {x1 : Int} {x2 : Bool} {r : Bool} (h : Zax x0 x1 x2 = some r) : Z0e Tryz.prog 173 [.sl false (x0.map Z09),dI x1,.bool x2] (R173 r):=
  cs Tryz.f173 <| bd h fun v0 e0 h=>go [] [rg 1 [(2,k (w94 e0))]] <| br h (fun h0 h=>go [] [] <| rt h) fun h0 h=>
  bd h fun v1 e1 h=>go [] [rg 4 [(1,k (w96 e1))]] <| br h (fun h1 h=>go [] [] <| rt h) fun h1 h=>
    go [] [] <| br h (fun h2 h=>go [] [] <| rt h) fun h2 h=>
      go [] [] <| rt h
def R161 (y0 : Bool) : D:= .bool y0
def Zko (x0 : List Z00) (x1 : Z08) (x2 : Z0f) : Option (Bool):=
  if (x2.Z2g == 4) = true then
    (if (x2.Z2x == 0) = true then ((Zax x0 x2.Z34 false).bind fun v0=>
    some v0) else
    (some false)) else
  (if (x2.Z2g == 6) = true then
      (if (x2.Z2x == 0) = true then ((Zax x0 x2.Z34 true).bind fun v1=>
      some v1) else
      (some false)) else
    (if (x2.Z2g == 5) = true then
        (if (decide (x2.Z2x ≥ 0)) = true then (if (decide (x2.Z2x < (x1.Z0q.length : Int))) = true then ((Z0g x1.Z0q x2.Z2x).bind fun v2=>
            if (v2.f_Op == 67) = true then ((Zax x0 x2.Z34 true).bind fun v3=>
              some v3) else
            (some false)) else
          (some false)) else
        (some false)) else
      (some false)))
def Zki (x0 : List Z00) (x1 : Z08) (x2 : Z0f) : Option (Bool):=
  if (x2.Z2g == 3) = true then
    (if (x2.Z2x == 0) = true then (some (x2.Z34 == 0)) else
    (some false)) else
  ((Zko x0 x1 x2))
def Zgn (x0 : List Z00) (x1 : Z08) (x2 : Z0f) : Option (Bool):=
  if (!(Zub x2.Z1o ({ Z1y:=0,Z1q:=0,Z02:=[] } : Z0r))) = true then
    (some false) else
  (if (x2.Z2g == 0) = true then
      (if (x2.Z2x == 0) = true then (some (x2.Z34 == 0)) else
      (some false)) else
    (if (x2.Z2g == 1) = true then
        (if (x2.Z2x == 0) = true then (some (x2.Z34 == 0)) else
        (some false)) else
      (if (x2.Z2g == 2) = true then
          (if (x2.Z2x == 0) = true then (some (x2.Z34 == 0)) else
          (some false)) else
        ((Zki x0 x1 x2)))))
theorem wj161x2 {x0 : List Z00} {x1 : Z08} {x2 : Z0f} {r : Bool} {Γ : Ctx} (h : (Zko x0 x1 x2) = some r) : Jn Tryz.prog Tryz.f161 Γ (Den.Ends Tryz.prog Tryz.f161 (R161 r)) 363 ⟨77,[(0,.sl false (x0.map Z09)),(4,.ptr (Z17 x1)),(5,.ptr (Z1s x2)),(12,dI x2.Z2g)],[]⟩:=
  so <| go [] [] <| br h (fun h9 h=>sp h (fun h10 h=>bd h fun v0 e0 h=>go [] [rg 10 [(2,kb h10),(7,k (w173 e0))]] <| rt h) fun h10 h=>
    go [] [rg 10 [(2,kb h10)]] <| rt h) fun h9 h=>
  go [] [] <| br h (fun h11 h=>sp h (fun h12 h=>bd h fun v1 e1 h=>go [] [rg 12 [(2,kb h12),(7,k (w173 e1))]] <| rt h) fun h12 h=>
      go [] [rg 12 [(2,kb h12)]] <| rt h) fun h11 h=>
    go [] [] <| br h (fun h13 h=>go [14] [] <| po <| pr 4 [] <| sp h (fun h14 h=>pr 8 [(4,gw h14 g0),(5,gw h14 g0),(6,gw h14 g0),(7,gw h14 g0),(8,gw h14 (ln x1.Z0q)),(9,gw h14 g0),(10,py h14)] <| sp h (fun h15 h=>bd h fun v2 e2 h=>pr 10 [(12,gw h15 g0),(13,gw h15 g0),(14,gw h15 g0),(15,gw h15 g0),(16,gw h15 (ix e2)),(17,gw h15 g0),(18,gw h15 g0),(19,gw h15 g0),(20,py h15)] <| sp h (fun h16 h=>bd h fun v3 e3 h=>pr 6 [(22,gw h16 g0),(23,gw h16 g0),(24,gw h16 g0),(25,gw h16 (k (w173 e3))),(26,py h16)] <| pe <| goN [] [] <| rt h) fun h16 h=>
            pr 6 [(22,gs1 h16),(23,gs1 h16),(24,gs1 h16),(25,gs1 h16),(26,pn h16)] <| pe <| goN [] [] <| rt h) fun h15 h=>
          pr 16 [(12,gs1 h15),(13,gs1 h15),(14,gs1 h15),(15,gs1 h15),(16,gs1 h15),(17,gs1 h15),(18,gs1 h15),(19,gs1 h15),(20,pn h15)] <| pe <| goN [] [] <| rt h) fun h14 h=>
        pr 24 [(4,gs1 h14),(5,gs1 h14),(6,gs1 h14),(7,gs1 h14),(8,gs1 h14),(9,gs1 h14),(10,pn h14)] <| pe <| goN [] [] <| rt h) fun h13 h=>
      go [] [] <| rt h
theorem wj161x1 {x0 : List Z00} {x1 : Z08} {x2 : Z0f} {r : Bool} {Γ : Ctx} (h : (Zki x0 x1 x2) = some r) : Jn Tryz.prog Tryz.f161 Γ (Den.Ends Tryz.prog Tryz.f161 (R161 r)) 107 ⟨77,[(0,.sl false (x0.map Z09)),(4,.ptr (Z17 x1)),(5,.ptr (Z1s x2)),(12,dI x2.Z2g),(13,.bool (x2.Z2g == 3))],[]⟩ (x2.Z2g == 3):=
  br h (fun h7 h=>sp h (fun h8 h=>go [] [rg 8 [(2,kb h8)]] <| rt h) fun h8 h=>
    go [] [rg 8 [(2,kb h8)]] <| rt h) fun h7 h=>
  go [9] [] <| jn (wj161x2 h)
theorem w161 {x0 : List Z00} {x1 : Z08} {x2 : Z0f} {r : Bool} (h : Zgn x0 x1 x2 = some r) : Z0e Tryz.prog 161 [.sl false (x0.map Z09),.agg (Z17 x1),.agg (Z1s x2)] (R161 r):=
  cs Tryz.f161 <| go [] [rg 0 [(0,bo),(1,bo)],rg 1 [(3,qs eqg_132 eqp_132 (!(Zub x2.Z1o ({ Z1y:=0,Z1q:=0,Z02:=[] } : Z0r))))]] <| br h (fun h0 h=>go [] [] <| rt h) fun h0 h=>
  go [] [] <| br h (fun h1 h=>go [] [] <| bT h1 <| sp h (fun h2 h=>go [] [rg 8 [(2,kb h2)]] <| rt h) fun h2 h=>
      go [] [rg 8 [(2,kb h2)]] <| rt h) fun h1 h=>
    go [] [] <| br h (fun h3 h=>go [] [] <| bT h3 <| sp h (fun h4 h=>go [] [rg 8 [(2,kb h4)]] <| rt h) fun h4 h=>
        go [] [rg 8 [(2,kb h4)]] <| rt h) fun h3 h=>
      go [] [] <| br h (fun h5 h=>go [] [] <| bT h5 <| sp h (fun h6 h=>go [] [rg 8 [(2,kb h6)]] <| rt h) fun h6 h=>
          go [] [rg 8 [(2,kb h6)]] <| rt h) fun h5 h=>
        go [] [] <| jn (wj161x1 h)
def R143 (y0 : Bool) : D:= .bool y0
def Zg7 (x0 : List Z00) (x1 : Z08) (x2 : List Z0f) (t0 : Int) : Option (Ctl (Int) (Unit ⊕ Bool)):=
  if (decide (t0 < (x2.length : Int))) = true then
    ((Z0g x2 t0).bind fun v2=>
    (Zgn x0 x1 v2).bind fun v3=>
    if (!v3) = true then
      (some (.done (.inr false))) else
    ((some (IntKind.wrap .i64 (t0 + (1 : Int)))).bind fun v4=>
      some (.next v4))) else
  (some (.done (.inl (()))))
def Zdm (x0 : List Z00) (x1 : Z08) (x2 : List Z0f) : Option (Bool):=
  (Z0d (Zg7 x0 x1 x2) Z0i 0).bind fun q1=>
  match q1 with
  | .inl q0=>(some true)
  | .inr y0=>(some y0)
def Zvo (x0 : List Z00) (x1 : Z08) (x2 : List Z0f) : Int → SL:=
  fun t0=>⟨22,[(0,.sl false (x0.map Z09)),(2,.sl false (x2.map Z1s)),(4,.ptr (Z17 x1)),(7,dI t0)],[]⟩
def J143x1 : JT (Unit ⊕ Bool):=
  ju (je 0 fun q0 : Unit=>⟨22,[],[]⟩) (jr Tryz.prog Tryz.f143 R143)
theorem wl143x1 {x0 : List Z00} {x1 : Z08} {x2 : List Z0f} {t0 : Int} {r : Ctl (Int) (Unit ⊕ Bool)} {Γ : Ctx} (h : (Zg7 x0 x1 x2) t0 = some r) : A Tryz.prog Γ (lpC Tryz.f143 21) [] (Rd (Zvo x0 x1 x2) J143x1 r) ((Zvo x0 x1 x2) t0).s:=
  go [] [rg 2 [(2,ln x2)]] <| br h (fun h2 h=>bd h fun v2 e2 h=>bd h fun v3 e3 h=>go [] [rgo 4 [(4,ix e2),(6,k (w161 e3))] [0,1,2,3,4,5,6,7] [] [(4,[2,3]),(5,[2,3,4]),(6,[0,1,2,3,4,5]),(7,[0,1,2,3,4,5,6])]] <| br h (fun h3 h=>go [] [] <| dn h (i2 iR)) fun h3 h=>
    bd h fun v4 e4 h=>go [] [rg 3 [(1,n e4)]] <| nx h) fun h2 h=>
  go [] [] <| dn h (i1 iE)
theorem w143 {x0 : List Z00} {x1 : Z08} {x2 : List Z0f} {r : Bool} (h : Zdm x0 x1 x2 = some r) : Z0e Tryz.prog 143 [.sl false (x0.map Z09),.agg (Z17 x1),.sl false (x2.map Z1s)] (R143 r):=
  cs Tryz.f143 <| go [] [rg 0 [(0,bo)]] <| bd h fun q1 e5 h=>lp e5 wl143x1 <| match q1,h with
  | .inl q0,h=>j1 <| (qe <| goN [] [] <| rt h)
  | .inr y0,h=>j2 <| (qr h)
end Go.Proofs
