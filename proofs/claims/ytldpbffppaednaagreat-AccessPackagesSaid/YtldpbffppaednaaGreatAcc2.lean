/-
  Models of functions of the program, and that the functions compute them. Printed by den3.py. No condition.
-/
import Derived.Test.YtldpbffppaednaaGreatAcc1
set_option linter.unusedVariables false
namespace Go.Proofs
open Go.Den Go.Den.W
def R115 (y0 : Int) : D:= .int .i64 y0
def Zi5 (x0 : Z01) : Option (Int):=
  (Zcr x0.f_A).bind fun v11=>
  if (!v11) = true then (some 8) else
  ((some (IntKind.wrap .i64 ((x0.Z0a.length : Int) - (1 : Int)))).bind fun v12=>
  (some (IntKind.wrap .i64 ((2147483647 : Int) - v12))).bind fun v13=>
  if (decide (x0.f_A > v13)) = true then
    (some 8) else
  (some 0))
def Zga (x0 : Z01) (t0 : Int) : Option (Ctl (Int) (Unit ⊕ Int)):=
  if (decide (t0 < (x0.Z0y.length : Int))) = true then
    ((Z0g x0.Z0y t0).bind fun v2=>
    (Zcr v2).bind fun v3=>
    if (!v3) = true then
      (some (.done (.inr 8))) else
    ((some (IntKind.wrap .i64 (t0 + (1 : Int)))).bind fun v4=>
      some (.next v4))) else
  (some (.done (.inl (()))))
def Zis (x0 : Z01) (t1 : Int) : Option (Ctl (Int) (Unit ⊕ Int)):=
  if (decide (t1 < (x0.Z0y.length : Int))) = true then
    ((Z0g x0.Z0y t1).bind fun v7=>
    (some (IntKind.wrap .i64 (t1 - (1 : Int)))).bind fun v8=>
    (Z0g x0.Z0y v8).bind fun v9=>
    if (decide (v7 ≤ v9)) = true then
      (some (.done (.inr 4))) else
    ((some (IntKind.wrap .i64 (t1 + (1 : Int)))).bind fun v10=>
      some (.next v10))) else
  (some (.done (.inl (()))))
def Zjn (x0 : Z01) : Option (Int):=
  (Z0d (Zga x0) Z0i 0).bind fun q1=>
  match q1 with
  | .inl q0=>((Z0d (Zis x0) Z0i 1).bind fun q3=>
    match q3 with
    | .inl q2=>(some 0)
    | .inr y0=>(some y0))
  | .inr y1=>(some y1)
def Za0 (x0 : Z01) : Option (Int):=
  if (x0.f_Op == 53) = true then
    (if ((x0.Z0a.length : Int) == 0) = true then (some 5) else
    (if (decide ((x0.Z0a.length : Int) > 64)) = true then
      (some 5) else
    ((Zi5 x0)))) else
  (if (decide ((x0.Z0y.length : Int) > 64)) = true then (some 5) else
    (if ((x0.Z0a.length : Int) != (x0.Z0y.length : Int)) = true then
      (some 5) else
    ((Zjn x0))))
theorem wj115x2 {x0 : Z01} {r : Int} {Γ : Ctx} (h : (Zi5 x0) = some r) : Jn Tryz.prog Tryz.f115 Γ (Den.Ends Tryz.prog Tryz.f115 (R115 r)) 149 ⟨78,[(1,.ptr (Z0l x0))],[]⟩:=
  so <| bd h fun v11 e13 h=>sp h (fun h13 h=>go [] [rg 4 [(2,k (w144 e13)),(5,gs0 h13),(6,gs0 h13),(7,gs0 h13),(8,gs0 h13),(9,gs0 h13),(10,gs0 h13),(11,gs0 h13),(12,gs0 h13),(13,py h13)]] <| bT rfl <| go [] [] <| rt h) fun h13 h=>
  bd h fun v12 e14 h=>bd h fun v13 e15 h=>go [] [rg 4 [(2,k (w144 e13)),(5,gw h13 g0),(6,gw h13 g0),(7,gw h13 g0),(8,gw h13 g0),(9,gw h13 (ln x0.Z0a)),(10,gw h13 (n e14)),(11,gw h13 (n e15)),(12,gw h13 g0),(13,pn h13)]] <| br h (fun h14 h=>go [] [] <| rt h) fun h14 h=>
  go [] [] <| rt h
def Zrz (x0 : Z01) : Int → SL:=
  fun t0=>⟨78,[(1,.ptr (Z0l x0)),(3,dI t0)],[]⟩
def J115x1 (x0 : Z01) : JT (Unit ⊕ Int):=
  ju (je 0 fun q0 : Unit=>⟨78,[(1,.ptr (Z0l x0))],[]⟩) (jr Tryz.prog Tryz.f115 R115)
theorem wl115x1 {x0 : Z01} {t0 : Int} {r : Ctl (Int) (Unit ⊕ Int)} {Γ : Ctx} (h : (Zga x0) t0 = some r) : A Tryz.prog Γ (lpC Tryz.f115 87) [] (Rd (Zrz x0) (J115x1 x0) r) ((Zrz x0) t0).s:=
  go [] [rg 10 [(3,ln x0.Z0y)]] <| br h (fun h7 h=>bd h fun v2 e2 h=>bd h fun v3 e3 h=>go [] [rg 12 [(3,ix e2),(5,k (w144 e3))]] <| br h (fun h8 h=>go [] [] <| dn h (i2 iR)) fun h8 h=>
    bd h fun v4 e4 h=>go [] [rg 11 [(1,n e4)]] <| nx h) fun h7 h=>
  go [] [] <| dn h (i1 iE)
def Zth (x0 : Z01) : Int → SL:=
  fun t1=>⟨78,[(1,.ptr (Z0l x0)),(4,dI t1)],[]⟩
def J115x2 : JT (Unit ⊕ Int):=
  ju (je 2 fun q2 : Unit=>⟨78,[],[]⟩) (jr Tryz.prog Tryz.f115 R115)
theorem wl115x2 {x0 : Z01} {t1 : Int} {r : Ctl (Int) (Unit ⊕ Int)} {Γ : Ctx} (h : (Zis x0) t1 = some r) : A Tryz.prog Γ (lpC Tryz.f115 175) [] (Rd (Zth x0) J115x2 r) ((Zth x0) t1).s:=
  go [] [rg 15 [(3,ln x0.Z0y)]] <| br h (fun h11 h=>bd h fun v7 e8 h=>bd h fun v8 e9 h=>bd h fun v9 e10 h=>go [] [rgo 17 [(3,ix e8),(8,n e9),(9,ix e10)] [0,1,2,3,4,5,6,7,8,9,10,11] [] [(1,[0]),(3,[0,1,2]),(4,[0,1,2,3]),(6,[5]),(8,[7]),(9,[5,6,7,8]),(10,[5,6,7,8,9]),(11,[0,1,2,3,4,5,6,7,8,9,10])]] <| br h (fun h12 h=>go [] [] <| dn h (i2 iR)) fun h12 h=>
    bd h fun v10 e11 h=>go [] [rg 16 [(1,n e11)]] <| nx h) fun h11 h=>
  go [] [] <| dn h (i1 iE)
theorem wj115x1 {x0 : Z01} {r : Int} {Γ : Ctx} (h : (Zjn x0) = some r) : Jn Tryz.prog Tryz.f115 Γ (Den.Ends Tryz.prog Tryz.f115 (R115 r)) 39 ⟨78,[(1,.ptr (Z0l x0))],[]⟩:=
  so <| go [] [] <| bd h fun q1 e5 h=>lp e5 wl115x1 <| match q1,h with
  | .inl q0,h=>j1 <| (qe <| goN [] [] <| bd h fun q3 e12 h=>lp e12 wl115x2 <| match q3,h with
    | .inl q2,h=>j1 <| (qe <| goN [] [] <| rt h)
    | .inr y0,h=>j2 <| (qr h))
  | .inr y1,h=>j2 <| (qr h)
theorem w115 {x0 : Z01} {r : Int} (h : Za0 x0 = some r) : Z0e Tryz.prog 115 [.agg (Z0l x0)] (R115 r):=
  cs Tryz.f115 <| go [] [rg 0 [(0,bo)]] <| br h (fun h0 h=>sp h (fun h1 h=>go [] [rg 2 [(2,ln x0.Z0a),(3,kb h1)]] <| bT rfl <| go [] [] <| rt h) fun h1 h=>
    go [] [rg 2 [(2,ln x0.Z0a),(3,kb h1),(7,ln x0.Z0a)]] <| br h (fun h2 h=>go [] [] <| rt h) fun h2 h=>
    go [4] [] <| jn (wj115x2 h)) fun h0 h=>
  sp h (fun h3 h=>go [] [rg 7 [(2,ln x0.Z0y),(3,kb h3)]] <| bT rfl <| go [] [] <| rt h) fun h3 h=>
    go [] [rg 7 [(2,ln x0.Z0y),(3,kb h3),(7,ln x0.Z0a),(10,ln x0.Z0y)]] <| br h (fun h4 h=>go [] [] <| rt h) fun h4 h=>
    go [9] [] <| jn (wj115x1 h)
def R83 (y0 : Int) : D:= .int .i64 y0
def Za9 (x0 : Z01) : Option (Int):=
  (Za0 x0).bind fun v5=>
  some v5
def Z7w (v0 : Int) (x0 : Z01) : Option (Int):=
  if (v0 == 6) = true then ((Za9 x0)) else
  (if (v0 == 7) = true then
    ((Za9 x0)) else
  (some 0))
def Za6 (v0 : Int) (x0 : Z01) : Option (Int):=
  if (v0 == 3) = true then ((Z76 x0).bind fun v2=>
    if (!v2) = true then
      (some 16) else
    ((Z7w v0 x0))) else
  (if (v0 == 6) = true then ((Z76 x0).bind fun v3=>
      if (!v3) = true then
        (some 16) else
      ((Z7w v0 x0))) else
    (if (v0 == 7) = true then ((Z76 x0).bind fun v4=>
        if (!v4) = true then
          (some 16) else
        ((Z7w v0 x0))) else
      ((Z7w v0 x0))))
def Z9q (v0 : Int) (x0 : Z01) : Option (Int):=
  if (v0 == 2) = true then (if (decide (x0.f_A < 1)) = true then (some 2) else
    (if (decide (x0.f_A > 1000)) = true then
        (some 2) else
      ((Za6 v0 x0)))) else
  ((Za6 v0 x0))
def Z81 (v0 : Int) (x0 : Z01) : Option (Int):=
  if (v0 == 4) = true then (if (decide (x0.f_A < 0)) = true then (some 21) else
    (if (decide (x0.f_A ≥ 32)) = true then
        (some 21) else
      ((Z9q v0 x0)))) else
  (if (v0 == 5) = true then (if (decide (x0.f_A < 0)) = true then (some 21) else
      (if (decide (x0.f_A ≥ 32)) = true then
          (some 21) else
        ((Z9q v0 x0)))) else
    ((Z9q v0 x0)))
def Z4s (x0 : Z01) : Option (Int):=
  (Z67 x0.f_Op).bind fun v0=>
  if (decide (v0 < 0)) = true then
    (some 15) else
  ((Zaq x0 v0).bind fun v1=>
    if (!v1) = true then
      (some 4) else
    (if (v0 == 1) = true then (if (decide (x0.f_A < (-128))) = true then (some 8) else
        (if (decide (x0.f_A > 127)) = true then (some 8) else
          (if (v0 == 5) = true then (if (decide (x0.f_B < (-128))) = true then (some 8) else
              (if (decide (x0.f_B > 127)) = true then
                  (some 8) else
                ((Z81 v0 x0)))) else
            ((Z81 v0 x0))))) else
      (if (v0 == 5) = true then (if (decide (x0.f_B < (-128))) = true then (some 8) else
          (if (decide (x0.f_B > 127)) = true then
              (some 8) else
            ((Z81 v0 x0)))) else
        ((Z81 v0 x0)))))
theorem Zoq {x0 : Z01} {r : Int} {Γ : Ctx} (h : (Za9 x0) = some r) : Jn Tryz.prog Tryz.f83 Γ (Den.Ends Tryz.prog Tryz.f83 (R83 r)) 4863 ⟨90,[(1,.ptr (Z0l x0))],[]⟩:=
  so <| bd h fun v5 e5 h=>go [] [rg 15 [(1,k (w115 e5))]] <| rt h
theorem Zix {v0 : Int} {x0 : Z01} {r : Int} {Γ : Ctx} (h : (Z7w v0 x0) = some r) : Jn Tryz.prog Tryz.f83 Γ (Den.Ends Tryz.prog Tryz.f83 (R83 r)) 1279 ⟨90,[(1,.ptr (Z0l x0)),(3,dI v0)],[]⟩:=
  so <| sp h (fun h26 h=>go [] [rg 14 [(1,kb h26)]] <| bT rfl <| go [15] [] <| jn (Zoq h)) fun h26 h=>
  go [] [rg 14 [(1,kb h26)]] <| br h (fun h27 h=>go [15] [] <| jn (Zoq h)) fun h27 h=>
  go [] [] <| rt h
theorem Zuu {v0 : Int} {x0 : Z01} {r : Int} {Γ : Ctx} (h : (Za6 v0 x0) = some r) : Jn Tryz.prog Tryz.f83 Γ (Den.Ends Tryz.prog Tryz.f83 (R83 r)) 639 ⟨90,[(1,.ptr (Z0l x0)),(3,dI v0)],[]⟩:=
  po <| pr 3 [] <| sp h (fun h20 h=>bd h fun v2 e2 h=>pr 12 [(3,gs0 h20),(4,gs0 h20),(5,py h20),(12,k (w114 e2))] <| pe <| goN [] [] <| br h (fun h21 h=>go [] [] <| rt h) fun h21 h=>
    go [14] [] <| jn (Zix h)) fun h20 h=>
  pr 4 [(3,gw h20 g0),(4,gw h20 g0),(5,pn h20)] <| sp h (fun h22 h=>bd h fun v3 e3 h=>pr 8 [(7,gs0 h22),(8,gs0 h22),(9,py h22),(12,k (w114 e3))] <| pe <| goN [] [] <| br h (fun h23 h=>go [] [] <| rt h) fun h23 h=>
      go [14] [] <| jn (Zix h)) fun h22 h=>
    pr 4 [(7,gw h22 g0),(8,gw h22 g0),(9,pn h22)] <| sp h (fun h24 h=>bd h fun v4 e4 h=>pr 4 [(11,gw h24 g0),(12,gw h24 (k (w114 e4))),(13,gw h24 g0),(14,py h24)] <| pe <| goN [] [] <| br h (fun h25 h=>go [] [] <| rt h) fun h25 h=>
        go [14] [] <| jn (Zix h)) fun h24 h=>
      pr 4 [(11,gs1 h24),(12,gs1 h24),(13,gs1 h24),(14,pn h24)] <| pe <| goN [] [] <| bF rfl <| go [14] [] <| jn (Zix h)
theorem Zkc {v0 : Int} {x0 : Z01} {r : Int} {Γ : Ctx} (h : (Z9q v0 x0) = some r) : Jn Tryz.prog Tryz.f83 Γ (Den.Ends Tryz.prog Tryz.f83 (R83 r)) 319 ⟨90,[(1,.ptr (Z0l x0)),(3,dI v0)],[]⟩:=
  po <| pr 3 [] <| sp h (fun h17 h=>pr 4 [(3,gw h17 g0),(4,gw h17 g0),(5,gw h17 g0),(6,gw h17 g0)] <| sp h (fun h18 h=>pr 5 [(7,gs0 h18),(8,gs0 h18),(9,gs0 h18),(10,gw h17 (py h18)),(11,py h17)] <| pe <| goN [] [] <| bT rfl <| go [] [] <| rt h) fun h18 h=>
    pr 5 [(7,gw h18 g0),(8,gw h18 g0),(9,gw h18 g0),(10,gw h17 (pn h18)),(11,py h17)] <| pe <| goN [] [] <| br h (fun h19 h=>go [] [] <| rt h) fun h19 h=>
      go [12] [] <| jn (Zuu h)) fun h17 h=>
  pr 9 [(3,gs1 h17),(4,gs1 h17),(5,gs1 h17),(6,gs1 h17),(10,gs1 h17),(11,pn h17)] <| pe <| goN [] [] <| bF rfl <| go [12] [] <| jn (Zuu h)
theorem Zit {v0 : Int} {x0 : Z01} {r : Int} {Γ : Ctx} (h : (Z81 v0 x0) = some r) : Jn Tryz.prog Tryz.f83 Γ (Den.Ends Tryz.prog Tryz.f83 (R83 r)) 159 ⟨90,[(1,.ptr (Z0l x0)),(3,dI v0)],[]⟩:=
  po <| pr 3 [] <| sp h (fun h11 h=>pr 8 [(3,gs0 h11),(4,gs0 h11),(5,py h11)] <| sp h (fun h12 h=>pr 5 [(11,gs0 h12),(12,gs0 h12),(13,gs0 h12),(14,py h12)] <| pe <| goN [] [] <| bT rfl <| go [] [] <| rt h) fun h12 h=>
    pr 5 [(11,gw h12 g0),(12,gw h12 g0),(13,gw h12 g0),(14,pn h12)] <| pe <| goN [] [] <| br h (fun h13 h=>go [] [] <| rt h) fun h13 h=>
      go [10] [] <| jn (Zkc h)) fun h11 h=>
  pr 4 [(3,gw h11 g0),(4,gw h11 g0),(5,pn h11)] <| sp h (fun h14 h=>pr 4 [(7,gw h14 g0),(8,gw h14 g0),(9,gw h14 g0),(10,gw h14 g0)] <| sp h (fun h15 h=>pr 5 [(11,gs0 h15),(12,gs0 h15),(13,gs0 h15),(14,gw h14 (py h15)),(15,py h14)] <| pe <| goN [] [] <| bT rfl <| go [] [] <| rt h) fun h15 h=>
      pr 5 [(11,gw h15 g0),(12,gw h15 g0),(13,gw h15 g0),(14,gw h14 (pn h15)),(15,py h14)] <| pe <| goN [] [] <| br h (fun h16 h=>go [] [] <| rt h) fun h16 h=>
        go [10] [] <| jn (Zkc h)) fun h14 h=>
    pr 9 [(7,gs1 h14),(8,gs1 h14),(9,gs1 h14),(10,gs1 h14),(14,gs1 h14),(15,pn h14)] <| pe <| goN [] [] <| bF rfl <| go [10] [] <| jn (Zkc h)
theorem w83 {x0 : Z01} {r : Int} (h : Z4s x0 = some r) : Z0e Tryz.prog 83 [.agg (Z0l x0)] (R83 r):=
  cs Tryz.f83 <| bd h fun v0 e0 h=>go [] [rg 0 [(0,bo)],rg 1 [(2,k (w108 e0))]] <| br h (fun h0 h=>go [] [] <| rt h) fun h0 h=>
  bd h fun v1 e1 h=>go [] [rg 4 [(2,k (w113 e1))]] <| br h (fun h1 h=>go [] [] <| rt h) fun h1 h=>
    go [6] [] <| po <| pr 3 [] <| sp h (fun h2 h=>pr 4 [(3,gw h2 g0),(4,gw h2 g0),(5,gw h2 g0),(6,gw h2 g0)] <| sp h (fun h3 h=>pr 19 [(7,gs0 h3),(8,gs0 h3),(9,gs0 h3),(10,gw h2 (py h3)),(11,py h2)] <| pe <| goN [] [] <| bT rfl <| go [] [] <| rt h) fun h3 h=>
        pr 6 [(7,gw h3 g0),(8,gw h3 g0),(9,gw h3 g0),(10,gw h2 (pn h3)),(11,py h2)] <| sp h (fun h4 h=>pr 13 [(13,gs0 h4),(14,gs0 h4),(15,gs0 h4),(24,gs0 h4),(25,py h4)] <| pe <| goN [] [] <| bT rfl <| go [] [] <| rt h) fun h4 h=>
          pr 3 [(13,gw h4 g0),(14,gw h4 g0),(15,gw h4 g0)] <| sp h (fun h5 h=>pr 4 [(16,gw h5 g0),(17,gw h5 g0),(18,gw h5 g0),(19,gw h5 g0)] <| sp h (fun h6 h=>pr 6 [(20,gs0 h6),(21,gs0 h6),(22,gs0 h6),(23,gw h5 (py h6)),(24,gw h4 (py h5)),(25,pn h4)] <| pe <| goN [] [] <| bT rfl <| go [] [] <| rt h) fun h6 h=>
              pr 6 [(20,gw h6 g0),(21,gw h6 g0),(22,gw h6 g0),(23,gw h5 (pn h6)),(24,gw h4 (py h5)),(25,pn h4)] <| pe <| goN [] [] <| br h (fun h7 h=>go [] [] <| rt h) fun h7 h=>
                go [8] [] <| jn (Zit h)) fun h5 h=>
            pr 10 [(16,gs1 h5),(17,gs1 h5),(18,gs1 h5),(19,gs1 h5),(23,gs1 h5),(24,gw h4 (pn h5)),(25,pn h4)] <| pe <| goN [] [] <| bF rfl <| go [8] [] <| jn (Zit h)) fun h2 h=>
      pr 13 [(3,gs1 h2),(4,gs1 h2),(5,gs1 h2),(6,gs1 h2),(10,gs1 h2),(11,pn h2)] <| sp h (fun h8 h=>pr 4 [(16,gw h8 g0),(17,gw h8 g0),(18,gw h8 g0),(19,gw h8 g0)] <| sp h (fun h9 h=>pr 6 [(20,gs0 h9),(21,gs0 h9),(22,gs0 h9),(23,gw h8 (py h9)),(24,py h8)] <| pe <| goN [] [] <| bT rfl <| go [] [] <| rt h) fun h9 h=>
          pr 6 [(20,gw h9 g0),(21,gw h9 g0),(22,gw h9 g0),(23,gw h8 (pn h9)),(24,py h8)] <| pe <| goN [] [] <| br h (fun h10 h=>go [] [] <| rt h) fun h10 h=>
            go [8] [] <| jn (Zit h)) fun h8 h=>
        pr 10 [(16,gs1 h8),(17,gs1 h8),(18,gs1 h8),(19,gs1 h8),(23,gs1 h8),(24,pn h8)] <| pe <| goN [] [] <| bF rfl <| go [8] [] <| jn (Zit h)
def R169 (y0 : Bool) : D:= .bool y0
def Ze2 (x0 : Int) : Option (Bool):=
  if (decide (x0 ≥ 59)) = true then (some (decide (x0 ≤ 62))) else
  (some false)
theorem w169 {x0 : Int} {r : Bool} (h : Ze2 x0 = some r) : Z0e Tryz.prog 169 [dI x0] (R169 r):=
  cs Tryz.f169 <| sp h (fun h0 h=>go [] [rg 1 [(1,kb h0)]] <| rt h) fun h0 h=>
  go [] [rg 1 [(1,kb h0)]] <| rt h
def R170 (y0 : Bool) : D:= .bool y0
def Zhq (x0 : Int) : Option (Bool):=
  if (decide (x0 ≥ 63)) = true then (some (decide (x0 ≤ 66))) else
  (some false)
theorem w170 {x0 : Int} {r : Bool} (h : Zhq x0 = some r) : Z0e Tryz.prog 170 [dI x0] (R170 r):=
  cs Tryz.f170 <| sp h (fun h0 h=>go [] [rg 1 [(1,kb h0)]] <| rt h) fun h0 h=>
  go [] [rg 1 [(1,kb h0)]] <| rt h
def R171 (y0 : Bool) : D:= .bool y0
def Zcd (x0 : Int) : Option (Bool):=
  if (x0 == 67) = true then (some true) else
  (if (x0 == 76) = true then (some true) else
    (some (x0 == 77)))
theorem w171 {x0 : Int} {r : Bool} (h : Zcd x0 = some r) : Z0e Tryz.prog 171 [dI x0] (R171 r):=
  cs Tryz.f171 <| go [1] [] <| po <| pr 3 [] <| sp h (fun h0 h=>pr 8 [(3,gs0 h0),(4,gs0 h0),(5,py h0)] <| pe <| goN [] [] <| rt h) fun h0 h=>
  pr 4 [(3,gw h0 g0),(4,gw h0 g0),(5,pn h0)] <| sp h (fun h1 h=>pr 4 [(7,gs0 h1),(8,gs0 h1),(9,py h1)] <| pe <| goN [] [] <| rt h) fun h1 h=>
    pr 4 [(7,gw h1 g0),(8,gw h1 g0),(9,pn h1)] <| pe <| goN [] [] <| rt h
def R157 (y0 : Bool) : D:= .bool y0
def Zd8 (x0 : Z01) : Option (Bool):=
  if (x0.f_Op == 3) = true then
    (if (x0.f_S == ([] : List UInt8)) = true then (if (x0.f_A == 0) = true then (some true) else
      (some (x0.f_B != 8))) else
    (if (x0.f_B == 8) = true then (if (x0.f_A == 0) = true then (some true) else
        (some (x0.f_B != 8))) else
      (some false))) else
  (if (x0.f_Op == 64) = true then (if (x0.f_A == 0) = true then (if (x0.f_B == 0) = true then (if (x0.f_S == ([] : List UInt8)) = true then (some true) else
        (some (x0.f_Op == 68))) else
      (if (x0.f_S == ([] : List UInt8)) = true then (some true) else
        (some (x0.f_Op == 68)))) else
    (some false)) else
    (if (x0.f_A == 0) = true then (if (x0.f_B == 0) = true then (if (x0.f_S == ([] : List UInt8)) = true then (some true) else
        (some (x0.f_Op == 68))) else
      (if (x0.f_Op == 65) = true then (if (x0.f_S == ([] : List UInt8)) = true then (some true) else
          (some (x0.f_Op == 68))) else
        (some false))) else
    (some false)))
def Zeu (x0 : Z01) (p0 : Bool) : Option (Bool):=
  if (!p0) = true then (if (!(x0.Z16.Z02 == ([] : List UInt8))) = true then (some false) else
    (if (!(x0.Z16.Z1l == ([] : List UInt8))) = true then (some false) else
      (if (!(x0.Z16.Z1f == ([] : List UInt8))) = true then ((Zcd x0.f_Op).bind fun v3=>
          if (!v3) = true then
            (some false) else
          ((Zd8 x0))) else
        ((Zd8 x0))))) else
  ((Zd8 x0))
def Zns (x0 : Z01) : Option (Bool):=
  (Ze2 x0.f_Op).bind fun v1=>
  if v1 = true then ((Zeu x0) true) else
  ((Zhq x0.f_Op).bind fun v2=>
  (Zeu x0) v2)
def Zf5 (x0 : Z01) : Option (Bool):=
  if (x0.f_To != 0) = true then (some false) else
  ((some (IntKind.wrap .i64 ((x0.Z0y.length : Int) + (x0.Z0a.length : Int)))).bind fun v0=>
  if (decide (v0 > 0)) = true then
    (some false) else
  ((Zns x0)))
theorem Zmk {x0 : Z01} {r : Bool} {Γ : Ctx} (h : (Zd8 x0) = some r) : Jn Tryz.prog Tryz.f157 Γ (Den.Ends Tryz.prog Tryz.f157 (R157 r)) 79 ⟨102,[(1,.ptr (Z0l x0))],[]⟩:=
  so <| go [] [] <| br h (fun h8 h=>go [7] [] <| po <| pr 4 [] <| sp h (fun h9 h=>pr 9 [(4,gs0 h9),(5,gs0 h9),(6,gs0 h9),(7,py h9)] <| sp h (fun h10 h=>pr 6 [(13,gs0 h10),(14,gs0 h10),(15,gs0 h10),(16,py h10)] <| pe <| goN [] [] <| rt h) fun h10 h=>
      pr 6 [(13,gw h10 g0),(14,gw h10 g0),(15,gw h10 g0),(16,pn h10)] <| pe <| goN [] [] <| rt h) fun h9 h=>
    pr 5 [(4,gw h9 g0),(5,gw h9 g0),(6,gw h9 g0),(7,pn h9)] <| sp h (fun h11 h=>pr 4 [(9,gw h11 g0),(10,gw h11 g0),(11,gw h11 g0),(12,gw h11 g0)] <| sp h (fun h12 h=>pr 6 [(13,gs0 h12),(14,gs0 h12),(15,gs0 h12),(16,gw h11 (py h12)),(17,py h11)] <| pe <| goN [] [] <| rt h) fun h12 h=>
        pr 6 [(13,gw h12 g0),(14,gw h12 g0),(15,gw h12 g0),(16,gw h11 (pn h12)),(17,py h11)] <| pe <| goN [] [] <| rt h) fun h11 h=>
      pr 10 [(9,gs1 h11),(10,gs1 h11),(11,gs1 h11),(12,gs1 h11),(16,gs1 h11),(17,pn h11)] <| pe <| goN [] [] <| rt h) fun h8 h=>
  sp h (fun h13 h=>go [9] [rg 8 [(2,kb h13)]] <| po <| pr 4 [] <| sp h (fun h14 h=>pr 4 [(4,gw h14 g0),(5,gw h14 g0),(6,gw h14 g0),(7,gw h14 g0)] <| sp h (fun h15 h=>pr 8 [(8,gs0 h15),(9,gw h14 (py h15)),(10,py h14)] <| sp h (fun h16 h=>pr 6 [(16,gs0 h16),(17,gs0 h16),(18,gs0 h16),(19,py h16)] <| pe <| goN [] [] <| rt h) fun h16 h=>
        pr 6 [(16,gw h16 g0),(17,gw h16 g0),(18,gw h16 g0),(19,pn h16)] <| pe <| goN [] [] <| rt h) fun h15 h=>
      pr 8 [(8,gw h15 g0),(9,gw h14 (pn h15)),(10,py h14)] <| sp h (fun h17 h=>pr 6 [(16,gs0 h17),(17,gs0 h17),(18,gs0 h17),(19,py h17)] <| pe <| goN [] [] <| rt h) fun h17 h=>
        pr 6 [(16,gw h17 g0),(17,gw h17 g0),(18,gw h17 g0),(19,pn h17)] <| pe <| goN [] [] <| rt h) fun h14 h=>
    pr 18 [(4,gs1 h14),(5,gs1 h14),(6,gs1 h14),(7,gs1 h14),(9,gs1 h14),(10,pn h14)] <| pe <| goN [] [] <| rt h) fun h13 h=>
    go [9] [rg 8 [(2,kb h13)]] <| po <| pr 4 [] <| sp h (fun h18 h=>pr 4 [(4,gw h18 g0),(5,gw h18 g0),(6,gw h18 g0),(7,gw h18 g0)] <| sp h (fun h19 h=>pr 8 [(8,gs0 h19),(9,gw h18 (py h19)),(10,py h18)] <| sp h (fun h20 h=>pr 6 [(16,gs0 h20),(17,gs0 h20),(18,gs0 h20),(19,py h20)] <| pe <| goN [] [] <| rt h) fun h20 h=>
        pr 6 [(16,gw h20 g0),(17,gw h20 g0),(18,gw h20 g0),(19,pn h20)] <| pe <| goN [] [] <| rt h) fun h19 h=>
      pr 4 [(8,gw h19 g0),(9,gw h18 (pn h19)),(10,py h18)] <| sp h (fun h21 h=>pr 4 [(12,gw h21 g0),(13,gw h21 g0),(14,gw h21 g0),(15,gw h21 g0)] <| sp h (fun h22 h=>pr 6 [(16,gs0 h22),(17,gs0 h22),(18,gs0 h22),(19,gw h21 (py h22)),(20,py h21)] <| pe <| goN [] [] <| rt h) fun h22 h=>
          pr 6 [(16,gw h22 g0),(17,gw h22 g0),(18,gw h22 g0),(19,gw h21 (pn h22)),(20,py h21)] <| pe <| goN [] [] <| rt h) fun h21 h=>
        pr 10 [(12,gs1 h21),(13,gs1 h21),(14,gs1 h21),(15,gs1 h21),(19,gs1 h21),(20,pn h21)] <| pe <| goN [] [] <| rt h) fun h18 h=>
    pr 18 [(4,gs1 h18),(5,gs1 h18),(6,gs1 h18),(7,gs1 h18),(9,gs1 h18),(10,pn h18)] <| pe <| goN [] [] <| rt h
theorem Zr1 {x0 : Z01} {p0 : Bool} {r : Bool} {Γ : Ctx} (h : (Zeu x0) p0 = some r) : Jn Tryz.prog Tryz.f157 Γ (Den.Ends Tryz.prog Tryz.f157 (R157 r)) 39 ⟨102,[(1,.ptr (Z0l x0)),(3,.bool p0)],[]⟩:=
  po <| pr 3 [] <| sp h (fun h3 h=>pr 5 [(3,gw h3 g0),(4,gw h3 g0),(5,gw h3 g0),(6,gw h3 g0),(7,gw h3 g0)] <| sp h (fun h4 h=>pr 18 [(8,gs0 h4),(9,gs0 h4),(10,gs0 h4),(11,gs0 h4),(12,gw h3 (py h4)),(13,gw h3 g0),(24,gw h3 g0),(25,py h3)] <| pe <| goN [] [] <| bT rfl <| go [] [] <| rt h) fun h4 h=>
    pr 6 [(8,gw h4 g0),(9,gw h4 g0),(10,gw h4 g0),(11,gw h4 g0),(12,gw h3 (pn h4)),(13,gw h3 g0)] <| sp h (fun h5 h=>pr 12 [(14,gs0 h5),(15,gs0 h5),(16,gs0 h5),(17,gs0 h5),(18,gs0 h5),(23,gs0 h5),(24,gw h3 (py h5)),(25,py h3)] <| pe <| goN [] [] <| bT rfl <| go [] [] <| rt h) fun h5 h=>
      pr 5 [(14,gw h5 g0),(15,gw h5 g0),(16,gw h5 g0),(17,gw h5 g0),(18,gw h5 g0)] <| sp h (fun h6 h=>bd h fun v3 e3 h=>pr 7 [(19,gw h6 g0),(20,gw h6 g0),(21,gw h6 (k (w171 e3))),(22,gw h6 g0),(23,gw h5 (py h6)),(24,gw h3 (pn h5)),(25,py h3)] <| pe <| goN [] [] <| br h (fun h7 h=>go [] [] <| rt h) fun h7 h=>
          go [6] [] <| jn (Zmk h)) fun h6 h=>
        pr 7 [(19,gs1 h6),(20,gs1 h6),(21,gs1 h6),(22,gs1 h6),(23,gw h5 (pn h6)),(24,gw h3 (pn h5)),(25,py h3)] <| pe <| goN [] [] <| bF rfl <| go [6] [] <| jn (Zmk h)) fun h3 h=>
  pr 23 [(3,gs1 h3),(4,gs1 h3),(5,gs1 h3),(6,gs1 h3),(7,gs1 h3),(12,gs1 h3),(13,gs1 h3),(24,gs1 h3),(25,pn h3)] <| pe <| goN [] [] <| bF rfl <| go [6] [] <| jn (Zmk h)
theorem wj157x1 {x0 : Z01} {r : Bool} {Γ : Ctx} (h : (Zns x0) = some r) : Jn Tryz.prog Tryz.f157 Γ (Den.Ends Tryz.prog Tryz.f157 (R157 r)) 11 ⟨102,[(1,.ptr (Z0l x0))],[]⟩:=
  so <| bd h fun v1 e1 h=>sp h (fun h2 h=>go [4] [rg 3 [(2,k (w169 e1)),(4,gs0 h2),(5,gs0 h2),(6,gs0 h2),(7,py h2)]] <| jn (Zr1 h)) fun h2 h=>
  bd h fun v2 e2 h=>go [4] [rg 3 [(2,k (w169 e1)),(4,gw h2 g0),(5,gw h2 g0),(6,gw h2 (k (w170 e2))),(7,pn h2)]] <| jn (Zr1 h)
theorem w157 {x0 : Z01} {r : Bool} (h : Zf5 x0 = some r) : Z0e Tryz.prog 157 [.agg (Z0l x0)] (R157 r):=
  cs Tryz.f157 <| sp h (fun h0 h=>go [] [rg 0 [(0,bo)],rg 1 [(2,kb h0)]] <| bT rfl <| go [] [] <| rt h) fun h0 h=>
  bd h fun v0 e0 h=>go [] [rg 0 [(0,bo)],rg 1 [(2,kb h0),(6,ln x0.Z0y),(9,ln x0.Z0a),(10,n e0)]] <| br h (fun h1 h=>go [] [] <| rt h) fun h1 h=>
  go [3] [] <| jn (wj157x1 h)
def R140 (y0 : (List Int)) : D:= .sl false (y0.map Z03)
def Zo9 (x0 : Int) : Option ((List Int)):=
  if (x0 == 68) = true then
    (some [1]) else
  (some ([] : List Int))
def Zlb (x0 : Int) : Option ((List Int)):=
  if (x0 == 77) = true then
    (some [7]) else
  ((Zo9 x0))
def Zmq (x0 : Int) : Option ((List Int)):=
  if (x0 == 66) = true then
    (some [11]) else
  (if (x0 == 67) = true then
      (some [7]) else
    (if (x0 == 76) = true then
        (some [7]) else
      ((Zlb x0))))
def Znm (x0 : Int) : Option ((List Int)):=
  if (x0 == 65) = true then
    (some [10,11]) else
  ((Zmq x0))
def Zbb (x0 : Int) : Option ((List Int)):=
  if (x0 == 3) = true then
    (some [3,5,8]) else
  ((Z63 x0 59 62).bind fun v0=>
    if v0 = true then
      (some [9]) else
    (if (x0 == 63) = true then
        (some [10]) else
      (if (x0 == 64) = true then
          (some [10,11]) else
        ((Znm x0)))))
theorem wj140x4 {x0 : Int} {r : (List Int)} {Γ : Ctx} (h : (Zo9 x0) = some r) : Jn Tryz.prog Tryz.f140 Γ (Den.Ends Tryz.prog Tryz.f140 (R140 r)) 98297 ⟨37,[(0,dI x0)],[]⟩:=
  so <| go [] [] <| br h (fun h9 h=>go [] [rg 17 [(0,bl 1 0)]] <| rtB h (rw_ ([1] : List Int)) (a2 (rpI ([1] : List Int)) trivial) (by simp only [rwE] <;> kernel_rfl)) fun h9 h=>
  go [] [] <| rt h
theorem wj140x3 {x0 : Int} {r : (List Int)} {Γ : Ctx} (h : (Zlb x0) = some r) : Jn Tryz.prog Tryz.f140 Γ (Den.Ends Tryz.prog Tryz.f140 (R140 r)) 32761 ⟨37,[(0,dI x0),(25,.bool (x0 == 77))],[]⟩ (x0 == 77):=
  br h (fun h8 h=>go [] [rg 15 [(0,bl 1 0)]] <| rtB h (rw_ ([7] : List Int)) (a2 (rpI ([7] : List Int)) trivial) (by simp only [rwE] <;> kernel_rfl)) fun h8 h=>
  go [16] [] <| jn (wj140x4 h)
theorem wj140x2 {x0 : Int} {r : (List Int)} {Γ : Ctx} (h : (Zmq x0) = some r) : Jn Tryz.prog Tryz.f140 Γ (Den.Ends Tryz.prog Tryz.f140 (R140 r)) 6137 ⟨37,[(0,dI x0)],[]⟩:=
  so <| go [] [] <| br h (fun h5 h=>go [] [rg 11 [(0,bl 1 0)]] <| rtB h (rw_ ([11] : List Int)) (a2 (rpI ([11] : List Int)) trivial) (by simp only [rwE] <;> kernel_rfl)) fun h5 h=>
  go [] [] <| br h (fun h6 h=>go [] [] <| bT h6 <| go [] [rg 15 [(0,bl 1 0)]] <| rtB h (rw_ ([7] : List Int)) (a2 (rpI ([7] : List Int)) trivial) (by simp only [rwE] <;> kernel_rfl)) fun h6 h=>
    go [] [] <| br h (fun h7 h=>go [] [] <| bT h7 <| go [] [rg 15 [(0,bl 1 0)]] <| rtB h (rw_ ([7] : List Int)) (a2 (rpI ([7] : List Int)) trivial) (by simp only [rwE] <;> kernel_rfl)) fun h7 h=>
      go [] [] <| jn (wj140x3 h)
theorem wj140x1 {x0 : Int} {r : (List Int)} {Γ : Ctx} (h : (Znm x0) = some r) : Jn Tryz.prog Tryz.f140 Γ (Den.Ends Tryz.prog Tryz.f140 (R140 r)) 2041 ⟨37,[(0,dI x0),(15,.bool (x0 == 65))],[]⟩ (x0 == 65):=
  br h (fun h4 h=>go [] [rg 9 [(0,bl 2 0)]] <| rtB h (rw_ ([10,11] : List Int)) (a2 (rpI ([10,11] : List Int)) trivial) (by simp only [rwE] <;> kernel_rfl)) fun h4 h=>
  go [10] [] <| jn (wj140x2 h)
theorem w140 {x0 : Int} {r : (List Int)} (h : Zbb x0 = some r) : Z0e Tryz.prog 140 [dI x0] (R140 r):=
  cs Tryz.f140 <| go [] [] <| br h (fun h0 h=>go [] [rg 2 [(0,bl 3 0)]] <| rtB h (rw_ ([3,5,8] : List Int)) (a2 (rpI ([3,5,8] : List Int)) trivial) (by simp only [rwE] <;> kernel_rfl)) fun h0 h=>
  bd h fun v0 e0 h=>go [] [rg 3 [(1,k (w110 e0))]] <| br h (fun h1 h=>go [] [rg 4 [(0,bl 1 0)]] <| rtB h (rw_ ([9] : List Int)) (a2 (rpI ([9] : List Int)) trivial) (by simp only [rwE] <;> kernel_rfl)) fun h1 h=>
    go [] [] <| br h (fun h2 h=>go [] [rg 6 [(0,bl 1 0)]] <| rtB h (rw_ ([10] : List Int)) (a2 (rpI ([10] : List Int)) trivial) (by simp only [rwE] <;> kernel_rfl)) fun h2 h=>
      go [] [] <| br h (fun h3 h=>go [] [] <| bT h3 <| go [] [rg 9 [(0,bl 2 0)]] <| rtB h (rw_ ([10,11] : List Int)) (a2 (rpI ([10,11] : List Int)) trivial) (by simp only [rwE] <;> kernel_rfl)) fun h3 h=>
        go [] [] <| jn (wj140x1 h)
def R158 (y0 : Bool) : D:= .bool y0
def Zi1 (x0 : List Int) (x1 t0 : Int) : Option (Ctl (Int) (Unit ⊕ Bool)):=
  if (decide (t0 < (x0.length : Int))) = true then
    ((Z0g x0 t0).bind fun v1=>
    if (v1 == x1) = true then
      (some (.done (.inr true))) else
    ((some (IntKind.wrap .i64 (t0 + (1 : Int)))).bind fun v2=>
      some (.next v2))) else
  (some (.done (.inl (()))))
def Zg0 (x0 : List Int) (x1 : Int) : Option (Bool):=
  (Z0d (Zi1 x0 x1) Z0i 0).bind fun q1=>
  match q1 with
  | .inl q0=>(some false)
  | .inr y0=>(some y0)
def Zra (x0 : List Int) (x1 : Int) : Int → SL:=
  fun t0=>⟨18,[(0,.sl false (x0.map Z03)),(1,dI x1),(5,dI t0)],[]⟩
def J158x1 : JT (Unit ⊕ Bool):=
  ju (je 0 fun q0 : Unit=>⟨18,[],[]⟩) (jr Tryz.prog Tryz.f158 R158)
theorem wl158x1 {x0 : List Int} {x1 t0 : Int} {r : Ctl (Int) (Unit ⊕ Bool)} {Γ : Ctx} (h : (Zi1 x0 x1) t0 = some r) : A Tryz.prog Γ (lpC Tryz.f158 21) [] (Rd (Zra x0 x1) J158x1 r) ((Zra x0 x1) t0).s:=
  go [] [rg 2 [(2,ln x0)]] <| br h (fun h2 h=>bd h fun v1 e1 h=>go [] [rg 4 [(2,ix e1)]] <| br h (fun h3 h=>go [] [] <| dn h (i2 iR)) fun h3 h=>
    bd h fun v2 e2 h=>go [] [rg 3 [(1,n e2)]] <| nx h) fun h2 h=>
  go [] [] <| dn h (i1 iE)
theorem w158 {x0 : List Int} {x1 : Int} {r : Bool} (h : Zg0 x0 x1 = some r) : Z0e Tryz.prog 158 [.sl false (x0.map Z03),dI x1] (R158 r):=
  cs Tryz.f158 <| go [] [] <| bd h fun q1 e3 h=>lp e3 wl158x1 <| match q1,h with
  | .inl q0,h=>j1 <| (qe <| goN [] [] <| rt h)
  | .inr y0,h=>j2 <| (qr h)
def R172 (y0 : (List Z00) × Int × Int) : D:= .tup [.sl false (y0.1.map Z09),.int .i64 y0.2.1,.int .i64 y0.2.2]
def Zb1 (x0 : List Z00) (x1 : Int) (x2 : Z27) : Option ((List Z00) × Int × Int):=
  (Zb5 x0 x2.Z1f).bind fun v0=>
  if (v0.2.2 != 0) = true then
    (some (x0,0,v0.2.2)) else
  ((Z82 v0.1 x2.Z02).bind fun v1=>
    if (v1.2.2 != 0) = true then
      (some (x0,0,v1.2.2)) else
    ((Z82 v1.1 x2.Z1l).bind fun v2=>
      if (v2.2.2 != 0) = true then
        (some (x0,0,v2.2.2)) else
      ((Z6y v2.1 ({ Z1w:=12,f_S:=[],f_N:=0,f_A:=v1.2.1,f_B:=v2.2.1 } : Z00)).bind fun v3=>
        if (v3.2.2 != 0) = true then
          (some (x0,0,v3.2.2)) else
        ((Z6y v3.1 ({ Z1w:=x1,f_S:=[],f_N:=0,f_A:=v0.2.1,f_B:=v3.2.1 } : Z00)).bind fun v4=>
          if (v4.2.2 != 0) = true then
            (some (x0,0,v4.2.2)) else
          (some (v4.1,v4.2.1,0))))))
theorem w172 {x0 : List Z00} {x1 : Int} {x2 : Z27} {r : (List Z00) × Int × Int} (h : Zb1 x0 x1 x2 = some r) : Z0e Tryz.prog 172 [.sl false (x0.map Z09),dI x1,.agg (Zfn x2)] (R172 r):=
  cs Tryz.f172 <| bd h fun v0 e0 h=>go [] [rg 0 [(0,bo)],rg 1 [(3,k (w74 e0))]] <| br h (fun h0 h=>go [] [] <| rt h) fun h0 h=>
  bd h fun v1 e1 h=>go [] [rg 4 [(3,k (w75 e1))]] <| br h (fun h1 h=>go [] [] <| rt h) fun h1 h=>
    bd h fun v2 e2 h=>go [] [rg 7 [(3,k (w75 e2))]] <| br h (fun h2 h=>go [] [] <| rt h) fun h2 h=>
      bd h fun v3 e3 h=>go [] [rg 10 [(4,k (w77 e3))]] <| br h (fun h3 h=>go [] [] <| rt h) fun h3 h=>
        bd h fun v4 e4 h=>go [] [rg 13 [(5,k (w77 e4))]] <| br h (fun h4 h=>go [] [] <| rt h) fun h4 h=>
          go [] [] <| rt h
def R159 (y0 : (List Z00) × Int × Int) : D:= .tup [.sl false (y0.1.map Z09),.int .i64 y0.2.1,.int .i64 y0.2.2]
def Zkr (x0 : List Z00) (x1 : Z01) : Option ((List Z00) × Int × Int):=
  (Zd6 x0 x1.f_S).bind fun v8=>
  some (v8.1,v8.2.1,v8.2.2)
def Zho (x0 : List Z00) (x1 : Z01) : Option ((List Z00) × Int × Int):=
  (Zb1 x0 11 x1.Z16).bind fun v7=>
  some (v7.1,v7.2.1,v7.2.2)
def Zo5 (x0 : List Z00) (x1 : Z01) : Option ((List Z00) × Int × Int):=
  (Zb1 x0 10 x1.Z16).bind fun v6=>
  some (v6.1,v6.2.1,v6.2.2)
def Zgg (x0 : List Z00) (x1 : Z01) : Option ((List Z00) × Int × Int):=
  if (x1.f_Op == 3) = true then
    ((Z6y x0 ({ Z1w:=x1.f_B,f_S:=[],f_N:=x1.f_A,f_A:=0,f_B:=0 } : Z00)).bind fun v0=>
    some (v0.1,v0.2.1,v0.2.2)) else
  ((Zcd x1.f_Op).bind fun v1=>
    if v1 = true then
      ((Zb5 x0 x1.Z16.Z1f).bind fun v2=>
      some (v2.1,v2.2.1,v2.2.2)) else
    (if (x1.f_Op == 68) = true then
        ((Z82 x0 x1.f_S).bind fun v3=>
        some (v3.1,v3.2.1,v3.2.2)) else
      ((Ze2 x1.f_Op).bind fun v4=>
        if v4 = true then
          ((Zb1 x0 9 x1.Z16).bind fun v5=>
          some (v5.1,v5.2.1,v5.2.2)) else
        (if (x1.f_Op == 66) = true then ((Zho x0 x1)) else
          (if (x1.f_B == 1) = true then
            ((Zho x0 x1)) else
          ((Zo5 x0 x1)))))))
def Zfb (x0 : List Z00) (x1 : Z01) : Option ((List Z00) × Int × Int):=
  if (x1.f_Op == 3) = true then (if (x1.f_B == 8) = true then
    ((Zkr x0 x1)) else
  ((Zgg x0 x1))) else
  ((Zgg x0 x1))
theorem wj159x4 {x0 : List Z00} {x1 : Z01} {r : (List Z00) × Int × Int} {Γ : Ctx} (h : (Zkr x0 x1) = some r) : Jn Tryz.prog Tryz.f159 Γ (Den.Ends Tryz.prog Tryz.f159 (R159 r)) 73 ⟨94,[(0,.sl false (x0.map Z09)),(3,.ptr (Z0l x1))],[]⟩:=
  so <| bd h fun v8 e8 h=>go [] [rg 2 [(3,k (w76 e8))]] <| rt h
theorem Ztb {x0 : List Z00} {x1 : Z01} {r : (List Z00) × Int × Int} {Γ : Ctx} (h : (Zho x0 x1) = some r) : Jn Tryz.prog Tryz.f159 Γ (Den.Ends Tryz.prog Tryz.f159 (R159 r)) 81913 ⟨94,[(0,.sl false (x0.map Z09)),(3,.ptr (Z0l x1))],[]⟩:=
  so <| bd h fun v7 e7 h=>go [] [rg 12 [(3,k (w172 e7))]] <| rt h
theorem wj159x2 {x0 : List Z00} {x1 : Z01} {r : (List Z00) × Int × Int} {Γ : Ctx} (h : (Zo5 x0 x1) = some r) : Jn Tryz.prog Tryz.f159 Γ (Den.Ends Tryz.prog Tryz.f159 (R159 r)) 11 ⟨94,[(0,.sl false (x0.map Z09)),(3,.ptr (Z0l x1))],[]⟩:=
  so <| bd h fun v6 e6 h=>go [] [rg 13 [(3,k (w172 e6))]] <| rt h
theorem Zvg {x0 : List Z00} {x1 : Z01} {r : (List Z00) × Int × Int} {Γ : Ctx} (h : (Zgg x0 x1) = some r) : Jn Tryz.prog Tryz.f159 Γ (Den.Ends Tryz.prog Tryz.f159 (R159 r)) 89 ⟨94,[(0,.sl false (x0.map Z09)),(3,.ptr (Z0l x1))],[]⟩:=
  so <| go [] [] <| br h (fun h2 h=>bd h fun v0 e0 h=>go [] [rg 4 [(6,k (w77 e0))]] <| rt h) fun h2 h=>
  bd h fun v1 e1 h=>go [] [rg 5 [(2,k (w171 e1))]] <| br h (fun h3 h=>bd h fun v2 e2 h=>go [] [rg 6 [(4,k (w74 e2))]] <| rt h) fun h3 h=>
    go [] [] <| br h (fun h4 h=>bd h fun v3 e3 h=>go [] [rg 8 [(3,k (w75 e3))]] <| rt h) fun h4 h=>
      bd h fun v4 e4 h=>go [] [rg 9 [(2,k (w169 e4))]] <| br h (fun h5 h=>bd h fun v5 e5 h=>go [] [rg 10 [(3,k (w172 e5))]] <| rt h) fun h5 h=>
        sp h (fun h6 h=>go [] [rg 11 [(2,kb h6)]] <| bT rfl <| go [12] [] <| jn (Ztb h)) fun h6 h=>
          go [] [rg 11 [(2,kb h6)]] <| br h (fun h7 h=>go [12] [] <| jn (Ztb h)) fun h7 h=>
          go [13] [] <| jn (wj159x2 h)
theorem w159 {x0 : List Z00} {x1 : Z01} {r : (List Z00) × Int × Int} (h : Zfb x0 x1 = some r) : Z0e Tryz.prog 159 [.sl false (x0.map Z09),.agg (Z0l x1)] (R159 r):=
  cs Tryz.f159 <| sp h (fun h0 h=>go [] [rg 0 [(0,bo)],rg 1 [(2,kb h0)]] <| br h (fun h1 h=>go [2] [] <| jn (wj159x4 h)) fun h1 h=>
  go [3] [] <| jn (Zvg h)) fun h0 h=>
  go [] [rg 0 [(0,bo)],rg 1 [(2,kb h0)]] <| bF rfl <| go [3] [] <| jn (Zvg h)
def R135 (y0 : (List Z00) × Z01 × Int) : D:= .tup [.sl false (y0.1.map Z09),.agg (Z0l y0.2.1),.int .i64 y0.2.2]
def Zef (x0 : List Z00) (x1 : Z01) : Option ((List Z00) × Z01 × Int):=
  (Zfb x0 x1).bind fun v6=>
  if (v6.2.2 != 0) = true then
    (some (x0,({ f_Op:=0,f_A:=0,f_B:=0,f_To:=0,Z0y:=([] : List Int),Z0a:=([] : List Int),Z16:=({ Z1f:=[],Z02:=[],Z1l:=[] } : Z27),f_S:=[] } : Z01),v6.2.2)) else
  (some (v6.1,({ f_Op:=x1.f_Op,f_A:=v6.2.1,f_B:=0,f_To:=0,Z0y:=([] : List Int),Z0a:=([] : List Int),Z16:=({ Z1f:=[],Z02:=[],Z1l:=[] } : Z27),f_S:=[] } : Z01),0))
def Zf2 (x0 : List Z00) (x1 : Z01) : Option ((List Z00) × Z01 × Int):=
  if (x1.f_Op != 3) = true then (if (x1.f_B != 0) = true then (if (x1.f_B != 1) = true then
        (some (x0,({ f_Op:=0,f_A:=0,f_B:=0,f_To:=0,Z0y:=([] : List Int),Z0a:=([] : List Int),Z16:=({ Z1f:=[],Z02:=[],Z1l:=[] } : Z27),f_S:=[] } : Z01),4)) else
      ((Zef x0 x1))) else
    ((Zef x0 x1))) else
  ((Zef x0 x1))
def Zig (x0 : List Z00) (x1 : Z01) : Option ((List Z00) × Z01 × Int):=
  (Z8y x1.f_Op).bind fun v0=>
  if (!v0) = true then
    (some (x0,({ f_Op:=0,f_A:=0,f_B:=0,f_To:=0,Z0y:=([] : List Int),Z0a:=([] : List Int),Z16:=({ Z1f:=[],Z02:=[],Z1l:=[] } : Z27),f_S:=[] } : Z01),15)) else
  ((Z67 x1.f_Op).bind fun v1=>
    if (v1 != 2) = true then
      ((Z4s x1).bind fun v2=>
      if (v2 != 0) = true then
        (some (x0,({ f_Op:=0,f_A:=0,f_B:=0,f_To:=0,Z0y:=([] : List Int),Z0a:=([] : List Int),Z16:=({ Z1f:=[],Z02:=[],Z1l:=[] } : Z27),f_S:=[] } : Z01),v2)) else
      (some (x0,x1,0))) else
    ((Zf5 x1).bind fun v3=>
      if (!v3) = true then
        (some (x0,({ f_Op:=0,f_A:=0,f_B:=0,f_To:=0,Z0y:=([] : List Int),Z0a:=([] : List Int),Z16:=({ Z1f:=[],Z02:=[],Z1l:=[] } : Z27),f_S:=[] } : Z01),4)) else
      (if (x1.f_Op == 3) = true then ((Zbb 3).bind fun v4=>
        (Zg0 v4 x1.f_B).bind fun v5=>
        if (!v5) = true then
          (some (x0,({ f_Op:=0,f_A:=0,f_B:=0,f_To:=0,Z0y:=([] : List Int),Z0a:=([] : List Int),Z16:=({ Z1f:=[],Z02:=[],Z1l:=[] } : Z27),f_S:=[] } : Z01),11)) else
        ((Zf2 x0 x1))) else
        ((Zf2 x0 x1)))))
theorem Zmx {x0 : List Z00} {x1 : Z01} {r : (List Z00) × Z01 × Int} {Γ : Ctx} (h : (Zef x0 x1) = some r) : Jn Tryz.prog Tryz.f135 Γ (Den.Ends Tryz.prog Tryz.f135 (R135 r)) 191 ⟨79,[(0,.sl false (x0.map Z09)),(3,.ptr (Z0l x1)),(5,.lptr 5 0 0)],[(5,{ sz:=10,rows:=[[dI 0,dI 0,dI 0,dI 0,.sl true (([] : List Int).map Z03),.sl true (([] : List Int).map Z03),.str [],.str [],.str [],.str []]],frz:=0,pure:=false })]⟩:=
  so <| bd h fun v6 e6 h=>go [] [rg 14 [(2,k (w159 e6))]] <| br h (fun h9 h=>go [] [] <| rt h) fun h9 h=>
  go [] [rgo 17 [] [0,1,2,3,4,5,6,7] [6] [(2,[1]),(4,[1,2,3]),(5,[0]),(6,[0,1,2,3,4,5]),(7,[0,1,2,3,4,5,6])]] <| rt h
theorem Zvv {x0 : List Z00} {x1 : Z01} {r : (List Z00) × Z01 × Int} {Γ : Ctx} (h : (Zf2 x0 x1) = some r) : Jn Tryz.prog Tryz.f135 Γ (Den.Ends Tryz.prog Tryz.f135 (R135 r)) 159 ⟨79,[(0,.sl false (x0.map Z09)),(3,.ptr (Z0l x1)),(5,.lptr 5 0 0)],[(5,{ sz:=10,rows:=[[dI 0,dI 0,dI 0,dI 0,.sl true (([] : List Int).map Z03),.sl true (([] : List Int).map Z03),.str [],.str [],.str [],.str []]],frz:=0,pure:=false })]⟩:=
  po <| pr 4 [] <| sp h (fun h6 h=>pr 5 [(4,gw h6 g0),(5,gw h6 g0),(6,gw h6 g0),(7,py h6)] <| sp h (fun h7 h=>pr 4 [(9,gw h7 g0),(10,gw h7 g0),(11,gw h7 g0),(12,py h7)] <| pe <| goN [] [] <| br h (fun h8 h=>go [] [] <| rt h) fun h8 h=>
      go [14] [] <| jn (Zmx h)) fun h7 h=>
    pr 4 [(9,gs1 h7),(10,gs1 h7),(11,gs1 h7),(12,pn h7)] <| pe <| goN [] [] <| bF rfl <| go [14] [] <| jn (Zmx h)) fun h6 h=>
  pr 9 [(4,gs1 h6),(5,gs1 h6),(6,gs1 h6),(7,pn h6)] <| pe <| goN [] [] <| bF rfl <| go [14] [] <| jn (Zmx h)
theorem w135 {x0 : List Z00} {x1 : Z01} {r : (List Z00) × Z01 × Int} (h : Zig x0 x1 = some r) : Z0e Tryz.prog 135 [.sl false (x0.map Z09),.agg (Z0l x1)] (R135 r):=
  cs Tryz.f135 <| bd h fun v0 e0 h=>go [] [rg 0 [(0,bo)],rg 1 [(2,k (w137 e0))]] <| br h (fun h0 h=>go [] [] <| rt h) fun h0 h=>
  bd h fun v1 e1 h=>go [] [rg 3 [(2,k (w108 e1))]] <| br h (fun h1 h=>bd h fun v2 e2 h=>go [] [rg 4 [(1,k (w83 e2))]] <| br h (fun h2 h=>go [] [] <| rt h) fun h2 h=>
      go [] [rgo 7 [] [0,1,2,3,4] [3] [(2,[0]),(3,[0,1,2]),(4,[0,1,2,3])]] <| rt h) fun h1 h=>
    bd h fun v3 e3 h=>go [] [rg 8 [(1,k (w157 e3))]] <| br h (fun h3 h=>go [] [] <| rt h) fun h3 h=>
      sp h (fun h4 h=>bd h fun v4 e4 h=>bd h fun v5 e5 h=>go [] [rgo 10 [(2,kb h4),(4,k (w140 e4)),(7,k (w158 e5))] [0,1,2,3,4,5,6,7,8,9] [] [(1,[0]),(2,[0,1]),(3,[0,1,2]),(4,[0,1,2,3]),(5,[0,1,2,3]),(6,[0,1,2,3,5]),(7,[0,1,2,3,4,5,6]),(8,[0,1,2,3,4,5,6,7]),(9,[0,1,2,3,4,5,6,7,8])]] <| br h (fun h5 h=>go [] [] <| rt h) fun h5 h=>
        go [12] [] <| jn (Zvv h)) fun h4 h=>
        go [] [rgo 10 [(2,kb h4)] [0,1,2,3,4,5,6,7,8,9] [] [(1,[0]),(2,[0,1]),(3,[0,1,2]),(4,[0,1,2,3]),(5,[0,1,2,3]),(6,[0,1,2,3,5]),(7,[0,1,2,3,4,5,6]),(8,[0,1,2,3,4,5,6,7]),(9,[0,1,2,3,4,5,6,7,8])]] <| bF rfl <| go [12] [] <| jn (Zvv h)
def B105 (y0 : Z0p × Z01) : List Blk:=[{ sz:=2,rows:=[Z3f y0.1],frz:=0,pure:=false,pin:=some 0 }]
def R105 (y0 : Z0p × Z01) : D:= .agg (Z0l y0.2)
def Zjd (x0 : Z0p) (x1 : Z01) : Option (Z0p × Z01):=
  if (x0.f_E != 0) = true then
    (some (x0,({ f_Op:=0,f_A:=0,f_B:=0,f_To:=0,Z0y:=([] : List Int),Z0a:=([] : List Int),Z16:=({ Z1f:=[],Z02:=[],Z1l:=[] } : Z27),f_S:=[] } : Z01))) else
  ((Zig x0.f_P x1).bind fun v0=>
    some (({ f_P:=v0.1,f_E:=v0.2.2 } : Z0p),v0.2.1))
theorem w105 {x0 : Z0p} {x1 : Z01} {r : Z0p × Z01} (h : Zjd x0 x1 = some r) : Z41 Tryz.prog 105 [.lptr 0 0 0,.agg (Z0l x1)] [{ sz:=2,rows:=[Z3f x0],frz:=0,pure:=false,pin:=some 0 }] (R105 r) (B105 r):=
  csO Tryz.f105 (m:=1) (keep:=[true]) <| go [] [rg 0 [(0,bo)]] <| br h (fun h0 h=>go [] [] <| rtO h (.agg [dI 0,dI 0,dI 0,dI 0,.sl false (([] : List Int).map Z03),.sl false (([] : List Int).map Z03),.str [],.str [],.str [],.str []]) [{ sz:=2,rows:=[Z3f x0],frz:=0,pure:=false,pin:=some 0 }] (a2 (tNi 10) trivial) rfl) fun h0 h=>
  bd h fun v0 e0 h=>go [] [rgo 3 [(5,k (w135 e0))] [0,1,2,3,4,5,6,7,8,9,10,11,12,13] [12,1009] [(1,[0]),(2,[0,1]),(3,[0,1,2]),(5,[0,1,2,3,4]),(6,[0,1,2,3,4,5]),(7,[0,1,2,3,4,5,6]),(8,[0,1,2,3,4,5,6]),(9,[0,1,2,3,4,5,6]),(11,[0,1,2,3,4,5,6,7,10]),(12,[0,1,2,3,4,5,6,7,8,10,11]),(13,[0,1,2,3,4,5,6,7,8,9,10,11,12])]] <| rtO h (.agg [dI v0.2.1.f_Op,dI v0.2.1.f_A,dI v0.2.1.f_B,dI v0.2.1.f_To,.sl false (v0.2.1.Z0y.map Z03),.sl false (v0.2.1.Z0a.map Z03),.str v0.2.1.Z16.Z1f,.str v0.2.1.Z16.Z02,.str v0.2.1.Z16.Z1l,.str v0.2.1.f_S]) [{ sz:=2,rows:=[[.sl false (v0.1.map Z09),dI v0.2.2]],frz:=0,pure:=false,pin:=some 0 }] (a2 (tNi 10) trivial) rfl
def R151 (y0 : Bool) : D:= .bool y0
def Zn7 (x0 : Z0r) : Option (Bool):=
  if (x0.Z1q == 86) = true then
    (if (x0.Z02 == ([] : List UInt8)) = true then (some (x0.Z1y == 0)) else
    (some false)) else
  (if (x0.Z1q == 76) = true then
      ((Z9c x0.Z02).bind fun v0=>
      some v0) else
    (some false))
def Zmz (x0 : Z0r) : Option (Bool):=
  if (x0.Z1q == 74) = true then
    (some (x0.Z02 == ([] : List UInt8))) else
  ((Zn7 x0))
def Zlg (x0 : Z0r) : Option (Bool):=
  if (x0.Z1q == 73) = true then
    (some (x0.Z02 == ([] : List UInt8))) else
  ((Zmz x0))
def Zbs (x0 : Z0r) : Option (Bool):=
  if (decide (x0.Z1y < 0)) = true then (some false) else
  (if (decide (x0.Z1y > 8)) = true then
    (some false) else
  ((Zlg x0)))
theorem wj151x3 {x0 : Z0r} {r : Bool} {Γ : Ctx} (h : (Zn7 x0) = some r) : Jn Tryz.prog Tryz.f151 Γ (Den.Ends Tryz.prog Tryz.f151 (R151 r)) 363 ⟨34,[(1,.ptr (Z2y x0)),(12,d8 x0.Z1q)],[]⟩:=
  so <| go [] [] <| br h (fun h4 h=>sp h (fun h5 h=>go [] [rg 8 [(2,kb h5)]] <| rt h) fun h5 h=>
    go [] [rg 8 [(2,kb h5)]] <| rt h) fun h4 h=>
  go [] [] <| br h (fun h6 h=>bd h fun v0 e0 h=>go [] [rg 10 [(2,k (w20 e0))]] <| rt h) fun h6 h=>
    go [] [] <| rt h
theorem wj151x2 {x0 : Z0r} {r : Bool} {Γ : Ctx} (h : (Zmz x0) = some r) : Jn Tryz.prog Tryz.f151 Γ (Den.Ends Tryz.prog Tryz.f151 (R151 r)) 107 ⟨34,[(1,.ptr (Z2y x0)),(12,d8 x0.Z1q),(13,.bool (x0.Z1q == 74))],[]⟩ (x0.Z1q == 74):=
  br h (fun h3 h=>go [] [] <| rt h) fun h3 h=>
  go [7] [] <| jn (wj151x3 h)
theorem wj151x1 {x0 : Z0r} {r : Bool} {Γ : Ctx} (h : (Zlg x0) = some r) : Jn Tryz.prog Tryz.f151 Γ (Den.Ends Tryz.prog Tryz.f151 (R151 r)) 19 ⟨34,[(1,.ptr (Z2y x0))],[]⟩:=
  so <| go [] [] <| br h (fun h2 h=>go [] [] <| bT h2 <| go [] [] <| rt h) fun h2 h=>
  go [] [] <| jn (wj151x2 h)
theorem w151 {x0 : Z0r} {r : Bool} (h : Zbs x0 = some r) : Z0e Tryz.prog 151 [.agg (Z2y x0)] (R151 r):=
  cs Tryz.f151 <| sp h (fun h0 h=>go [] [rg 0 [(0,bo)],rg 1 [(2,kb h0)]] <| bT rfl <| go [] [] <| rt h) fun h0 h=>
  go [] [rg 0 [(0,bo)],rg 1 [(2,kb h0)]] <| br h (fun h1 h=>go [] [] <| rt h) fun h1 h=>
  go [3] [] <| jn (wj151x1 h)
def R136 (y0 : (List UInt8) × Int) : D:= .tup [.str y0.1,.int .i64 y0.2]
def Zjt (x0 : Z0r) (t0 : (List UInt8) × Int) : Option (Ctl ((List UInt8) × Int) (((List UInt8)))):=
  if (decide (t0.2 < x0.Z1y)) = true then
    ((Z21 t0.1 ([91] : List UInt8)).bind fun v2=>
    (some (IntKind.wrap .i64 (t0.2 + (1 : Int)))).bind fun v3=>
    some (.next (v2,v3))) else
  (some (.done (t0.1)))
def Zjc (x0 : Z0r) : Option ((List UInt8) × Int):=
  (Zbs x0).bind fun v0=>
  if (!v0) = true then
    (some ([],13)) else
  ((Z0d (Zjt x0) Z0i ([],0)).bind fun q0=>
    (some (IntKind.wrap .i32 x0.Z1q)).bind fun v4=>
    (Z21 q0 (Zky v4)).bind fun v5=>
    if (x0.Z1q == 76) = true then
      ((Z21 v5 x0.Z02).bind fun v6=>
      (Z21 v6 ([59] : List UInt8)).bind fun v7=>
      some (v7,0)) else
    (some (v5,0)))
def Zrq (x0 : Z0r) : ((List UInt8) × Int) → SL:=
  fun t0=>⟨32,[(1,.ptr (Z2y x0)),(4,.str t0.1),(5,dI t0.2)],[]⟩
def J136x1 (x0 : Z0r) : JT (((List UInt8))):=
  je 0 fun q0 : (List UInt8)=>⟨32,[(1,.ptr (Z2y x0)),(4,.str q0)],[]⟩
theorem wl136x1 {x0 : Z0r} {t0 : (List UInt8) × Int} {r : Ctl ((List UInt8) × Int) (((List UInt8)))} {Γ : Ctx} (h : (Zjt x0) t0 = some r) : A Tryz.prog Γ (lpC Tryz.f136 87) [] (Rd (Zrq x0) (J136x1 x0) r) ((Zrq x0) t0).s:=
  go [] [] <| br h (fun h2 h=>bd h fun v2 e2 h=>bd h fun v3 e3 h=>go [] [rg 7 [(1,ct e2)],rg 6 [(1,n e3)]] <| nx h) fun h2 h=>
  go [] [] <| dn h (iE)
theorem w136 {x0 : Z0r} {r : (List UInt8) × Int} (h : Zjc x0 = some r) : Z0e Tryz.prog 136 [.agg (Z2y x0)] (R136 r):=
  cs Tryz.f136 <| bd h fun v0 e0 h=>go [] [rg 0 [(0,bo)],rg 1 [(1,k (w151 e0))]] <| br h (fun h0 h=>go [] [] <| rt h) fun h0 h=>
  go [] [] <| bd h fun q0 e4 h=>lp e4 wl136x1 <| qe <| bd h fun v4 e5 h=>bd h fun v5 e6 h=>goN [] [rg 8 [(3,n e5 .i32),(5,ct e6)]] <| br h (fun h3 h=>bd h fun v6 e7 h=>bd h fun v7 e8 h=>go [] [rg 10 [(3,ct e7),(4,ct e8)]] <| rt h) fun h3 h=>
    go [] [] <| rt h
def B106 (y0 : Z0p × (List Z0f)) : List Blk:=[{ sz:=2,rows:=[Z3f y0.1],frz:=0,pure:=false,pin:=some 0 }]
def R106 (y0 : Z0p × (List Z0f)) : D:= .sl false (y0.2.map Z1s)
def Z9b (t0 : Int × (List Z00) × Int × (List Z0f)) (v4 : Z0f) (p6 : List Z00) (p7 p8 p9 : Int) (p10 : List UInt8) (p11 : Int) : Option (Ctl (Int × (List Z00) × Int × (List Z0f)) (((List Z00) × Int × (List Z0f)))):=
  (Z24 56 (t0.2.2.2 ++ [({ Z2g:=v4.Z2g,Z2x:=v4.Z2x,Z1o:=({ Z1y:=p8,Z1q:=p9,Z02:=p10 } : Z0r),Z34:=p11 } : Z0f)]).length).bind fun v7=>
  (some (IntKind.wrap .i64 (t0.1 + (1 : Int)))).bind fun v8=>
  some (.next (v8,p6,p7,(t0.2.2.2 ++ [({ Z2g:=v4.Z2g,Z2x:=v4.Z2x,Z1o:=({ Z1y:=p8,Z1q:=p9,Z02:=p10 } : Z0r),Z34:=p11 } : Z0f)])))
def Ze8 (t0 : Int × (List Z00) × Int × (List Z0f)) (v4 : Z0f) : Option (Ctl (Int × (List Z00) × Int × (List Z0f)) (((List Z00) × Int × (List Z0f)))):=
  (Zjc v4.Z1o).bind fun v5=>
  (Z5i ({ f_P:=t0.2.1,f_E:=v5.2 } : Z0p) v5.1).bind fun v6=>
  (Z9b t0 v4) v6.1.f_P v6.1.f_E 0 0 [] v6.2
def Zfw (x1 : List Z0f) (t0 : Int × (List Z00) × Int × (List Z0f)) : Option (Ctl (Int × (List Z00) × Int × (List Z0f)) (((List Z00) × Int × (List Z0f)))):=
  if (decide (t0.1 < (x1.length : Int))) = true then
    ((Z0g x1 t0.1).bind fun v4=>
    if (v4.Z2g == 4) = true then (if (t0.2.2.1 == 0) = true then
        ((Ze8 t0 v4)) else
      ((Z9b t0 v4) t0.2.1 t0.2.2.1 v4.Z1o.Z1y v4.Z1o.Z1q v4.Z1o.Z02 v4.Z34)) else
    (if (v4.Z2g == 5) = true then (if (t0.2.2.1 == 0) = true then
          ((Ze8 t0 v4)) else
        ((Z9b t0 v4) t0.2.1 t0.2.2.1 v4.Z1o.Z1y v4.Z1o.Z1q v4.Z1o.Z02 v4.Z34)) else
      (if (v4.Z2g == 6) = true then (if (t0.2.2.1 == 0) = true then
            ((Ze8 t0 v4)) else
          ((Z9b t0 v4) t0.2.1 t0.2.2.1 v4.Z1o.Z1y v4.Z1o.Z1q v4.Z1o.Z02 v4.Z34)) else
        ((Z9b t0 v4) t0.2.1 t0.2.2.1 v4.Z1o.Z1y v4.Z1o.Z1q v4.Z1o.Z02 v4.Z34)))) else
  (some (.done ((t0.2.1,t0.2.2.1,t0.2.2.2))))
def Zd1 (x0 : Z0p) (x1 : List Z0f) : Option (Z0p × (List Z0f)):=
  (Z0d (Zfw x1) Z0i (0,x0.f_P,x0.f_E,([] : List Z0f))).bind fun q0=>
  some (({ f_P:=q0.1,f_E:=q0.2.1 } : Z0p),q0.2.2)
def Zge (x1 : List Z0f) : (Int × (List Z00) × Int × (List Z0f)) → SL:=
  fun t0=>⟨62,[(0,.lptr 0 0 0),(1,.sl false (x1.map Z1s)),(5,.lsl 5 0 ((t0.2.2.2.map Z1s).length)),(6,dI t0.1)],[(0,{ sz:=2,rows:=[[.sl false (t0.2.1.map Z09),dI t0.2.2.1]],frz:=0,pure:=false,pin:=some 0 }),(5,{ sz:=6,rows:=(t0.2.2.2.map Z1s),frz:=0,pure:=true })]⟩
def Zke : JT (((List Z00) × Int × (List Z0f))):=
  je 0 fun q0 : (List Z00) × Int × (List Z0f)=>⟨62,[(5,.lsl 5 0 ((q0.2.2.map Z1s).length))],[(0,{ sz:=2,rows:=[[.sl false (q0.1.map Z09),dI q0.2.1]],frz:=0,pure:=false,pin:=some 0 }),(5,{ sz:=6,rows:=(q0.2.2.map Z1s),frz:=0,pure:=true })]⟩
theorem Zc8 (x1 : List Z0f) {t0 : Int × (List Z00) × Int × (List Z0f)} {v4 : Z0f} {p6 : List Z00} {p7 p8 p9 : Int} {p10 : List UInt8} {p11 : Int} {r : Ctl (Int × (List Z00) × Int × (List Z0f)) (((List Z00) × Int × (List Z0f)))} {Γ : Ctx} (h : (Z9b t0 v4) p6 p7 p8 p9 p10 p11 = some r) : Jn Tryz.prog Tryz.f106 Γ (Rd (Zge x1) Zke r) 3659 ⟨62,[(0,.lptr 0 0 0),(1,.sl false (x1.map Z1s)),(5,.lsl 5 0 ((t0.2.2.2.map Z1s).length)),(6,dI t0.1),(7,.lptr 7 0 0)],[(0,{ sz:=2,rows:=[[.sl false (p6.map Z09),dI p7]],frz:=0,pure:=false,pin:=some 0 }),(5,{ sz:=6,rows:=(t0.2.2.2.map Z1s),frz:=0,pure:=true }),(7,{ sz:=6,rows:=[[dI v4.Z2g,dI v4.Z2x,dI p8,d8 p9,.str p10,dI p11]],frz:=0,pure:=false })]⟩:=
  so <| bd h fun v7 e7 h=>bd h fun v8 e8 h=>go [] [rg 11 [(2,br0 1 6),(3,ap e7)],rg 4 [(1,n e8)]] <| nx h
theorem Zk1 (x1 : List Z0f) {t0 : Int × (List Z00) × Int × (List Z0f)} {v4 : Z0f} {r : Ctl (Int × (List Z00) × Int × (List Z0f)) (((List Z00) × Int × (List Z0f)))} {Γ : Ctx} (h : (Ze8 t0 v4) = some r) : Jn Tryz.prog Tryz.f106 Γ (Rd (Zge x1) Zke r) 19019 ⟨62,[(0,.lptr 0 0 0),(1,.sl false (x1.map Z1s)),(5,.lsl 5 0 ((t0.2.2.2.map Z1s).length)),(6,dI t0.1),(7,.lptr 7 0 0)],[(0,{ sz:=2,rows:=[[.sl false (t0.2.1.map Z09),dI t0.2.2.1]],frz:=0,pure:=false,pin:=some 0 }),(5,{ sz:=6,rows:=(t0.2.2.2.map Z1s),frz:=0,pure:=true }),(7,{ sz:=6,rows:=[Z1s v4],frz:=0,pure:=false })]⟩:=
  so <| bd h fun v5 e5 h=>bd h fun v6 e6 h=>go [11] [rg 7 [(2,k (w136 e5))],rg 9 [(2,ko [0] (w55 e6))]] <| jn ((Zc8 x1) h)
theorem wl106x1 {x1 : List Z0f} {t0 : Int × (List Z00) × Int × (List Z0f)} {r : Ctl (Int × (List Z00) × Int × (List Z0f)) (((List Z00) × Int × (List Z0f)))} {Γ : Ctx} (h : (Zfw x1) t0 = some r) : A Tryz.prog Γ (lpC Tryz.f106 43) [] (Rd (Zge x1) Zke r) ((Zge x1) t0).s:=
  go [] [rg 3 [(2,ln x1)]] <| br h (fun h7 h=>bd h fun v4 e4 h=>go [6] [rg 5 [(2,ix e4)]] <| po <| pr 4 [] <| sp h (fun h8 h=>pr 16 [(4,gs0 h8),(5,gs0 h8),(6,gs0 h8),(7,py h8)] <| pe <| goN [] [] <| br h (fun h9 h=>go [7] [] <| jn ((Zk1 x1) h)) fun h9 h=>
      go [11] [] <| jn ((Zc8 x1) h)) fun h8 h=>
    pr 5 [(4,gw h8 g0),(5,gw h8 g0),(6,gw h8 g0),(7,pn h8)] <| sp h (fun h10 h=>pr 11 [(9,gs0 h10),(10,gs0 h10),(11,gs0 h10),(12,py h10)] <| pe <| goN [] [] <| br h (fun h11 h=>go [7] [] <| jn ((Zk1 x1) h)) fun h11 h=>
        go [11] [] <| jn ((Zc8 x1) h)) fun h10 h=>
      pr 5 [(9,gw h10 g0),(10,gw h10 g0),(11,gw h10 g0),(12,pn h10)] <| sp h (fun h12 h=>pr 6 [(14,gw h12 g0),(15,gw h12 g0),(16,gw h12 g0),(17,gw h12 g0),(18,gw h12 g0),(19,py h12)] <| pe <| goN [] [] <| br h (fun h13 h=>go [7] [] <| jn ((Zk1 x1) h)) fun h13 h=>
          go [11] [] <| jn ((Zc8 x1) h)) fun h12 h=>
        pr 6 [(14,gs1 h12),(15,gs1 h12),(16,gs1 h12),(17,gs1 h12),(18,gs1 h12),(19,pn h12)] <| pe <| goN [] [] <| bF rfl <| go [11] [] <| jn ((Zc8 x1) h)) fun h7 h=>
  go [] [] <| dn h (iE)
theorem w106 {x0 : Z0p} {x1 : List Z0f} {r : Z0p × (List Z0f)} (h : Zd1 x0 x1 = some r) : Z41 Tryz.prog 106 [.lptr 0 0 0,.sl false (x1.map Z1s)] [{ sz:=2,rows:=[Z3f x0],frz:=0,pure:=false,pin:=some 0 }] (R106 r) (B106 r):=
  csO Tryz.f106 (m:=1) (keep:=[true]) <| go [] [rg 1 [(0,bl 0 6)]] <| bd h fun q0 e9 h=>lp (ps:=[(0,0),(10,5)]) e9 wl106x1 <| qe <| goN [] [] <| rtO h (rw_ q0.2.2) [{ sz:=2,rows:=[[.sl false (q0.1.map Z09),dI q0.2.1]],frz:=0,pure:=false,pin:=some 0 }] (a2 (rpI q0.2.2) trivial) (by simp only [rwE] <;> kernel_rfl)
def B78 (y0 : Z0p × Z08) : List Blk:=[{ sz:=2,rows:=[Z3f y0.1],frz:=0,pure:=false,pin:=some 0 }]
def R78 (y0 : Z0p × Z08) : D:= .agg (Z17 y0.2)
def Zff (x1 : Z08) (t0 : Int × (List Z00) × Int × (List Z01)) : Option (Ctl (Int × (List Z00) × Int × (List Z01)) (((List Z00) × Int × (List Z01)))):=
  if (decide (t0.1 < (x1.Z0q.length : Int))) = true then
    ((Z0g x1.Z0q t0.1).bind fun v6=>
    (Zjd ({ f_P:=t0.2.1,f_E:=t0.2.2.1 } : Z0p) v6).bind fun v7=>
    (Z24 144 (t0.2.2.2 ++ [v7.2]).length).bind fun v8=>
    (some (IntKind.wrap .i64 (t0.1 + (1 : Int)))).bind fun v9=>
    some (.next (v9,v7.1.f_P,v7.1.f_E,(t0.2.2.2 ++ [v7.2])))) else
  (some (.done ((t0.2.1,t0.2.2.1,t0.2.2.2))))
def Zi6 (t1 : Int × (List Z00) × Int × (List Z0k)) (v16 : Z0k) (p6 : List Z00) (p7 p8 : Int) : Option (Ctl (Int × (List Z00) × Int × (List Z0k)) (((List Z00) × Int × (List Z0k)))):=
  (Z24 48 (t1.2.2.2 ++ [({ Z3x:=v16.Z3x,f_To:=v16.f_To,Z43:=v16.Z43,Z1f:=p8,Z1o:=[] } : Z0k)]).length).bind fun v18=>
  (some (IntKind.wrap .i64 (t1.1 + (1 : Int)))).bind fun v19=>
  some (.next (v19,p6,p7,(t1.2.2.2 ++ [({ Z3x:=v16.Z3x,f_To:=v16.f_To,Z43:=v16.Z43,Z1f:=p8,Z1o:=[] } : Z0k)])))
def Zh2 (x1 : Z08) (t1 : Int × (List Z00) × Int × (List Z0k)) : Option (Ctl (Int × (List Z00) × Int × (List Z0k)) (((List Z00) × Int × (List Z0k)))):=
  if (decide (t1.1 < (x1.Z1n.length : Int))) = true then
    ((Z0g x1.Z1n t1.1).bind fun v16=>
    if (!(v16.Z1o == ([] : List UInt8))) = true then
      ((Z85 ({ f_P:=t1.2.1,f_E:=t1.2.2.1 } : Z0p) v16.Z1o).bind fun v17=>
      (Zi6 t1 v16) v17.1.f_P v17.1.f_E v17.2) else
    ((Zi6 t1 v16) t1.2.1 t1.2.2.1 v16.Z1f)) else
  (some (.done ((t1.2.1,t1.2.2.1,t1.2.2.2))))
def Zhp (x1 : Z08) (t2 : Int × (List Z00) × Int × (List Z0o)) : Option (Ctl (Int × (List Z00) × Int × (List Z0o)) (((List Z00) × Int × (List Z0o)))):=
  if (decide (t2.1 < (x1.Z18.length : Int))) = true then
    ((Z0g x1.Z18 t2.1).bind fun v30=>
    (Z0g x1.Z18 t2.1).bind fun v31=>
    (Zd1 ({ f_P:=t2.2.1,f_E:=t2.2.2.1 } : Z0p) v30.Z1p.Z0v).bind fun v32=>
    (Zd1 v32.1 v30.Z1p.Z10).bind fun v33=>
    (Z24 64 (t2.2.2.2 ++ [({ Z2i:=v31.Z2i,Z1p:=({ Z0v:=v32.2,Z10:=v33.2,Z48:=v30.Z1p.Z48 } : Z54) } : Z0o)]).length).bind fun v34=>
    (some (IntKind.wrap .i64 (t2.1 + (1 : Int)))).bind fun v35=>
    some (.next (v35,v33.1.f_P,v33.1.f_E,(t2.2.2.2 ++ [({ Z2i:=v31.Z2i,Z1p:=({ Z0v:=v32.2,Z10:=v33.2,Z48:=v30.Z1p.Z48 } : Z54) } : Z0o)])))) else
  (some (.done ((t2.2.1,t2.2.2.1,t2.2.2.2))))
def Zgl (x0 : Z0p) (x1 : Z08) : Option (Z0p × Z08):=
  (Z0d (Zff x1) Z0i (0,x0.f_P,x0.f_E,([] : List Z01))).bind fun q0=>
  (Z0d (Zh2 x1) Z0i (0,q0.1,q0.2.1,([] : List Z0k))).bind fun q2=>
  (Z0d (Zhp x1) Z0i (0,q2.1,q2.2.1,([] : List Z0o))).bind fun q4=>
  some (({ f_P:=q4.1,f_E:=q4.2.1 } : Z0p),({ Z10:=x1.Z10,Z0v:=x1.Z0v,Z0q:=q0.2.2,Z1n:=q2.2.2,Z18:=q4.2.2,Z1h:=x1.Z1h } : Z08))
def Ztg (x1 : Z08) : (Int × (List Z00) × Int × (List Z01)) → SL:=
  fun t0=>⟨101,[(0,.lptr 0 0 0),(3,.ptr (Z17 x1)),(4,.lptr 4 0 0),(5,.lptr 5 0 0),(6,dI t0.1)],[(0,{ sz:=2,rows:=[[.sl false (t0.2.1.map Z09),dI t0.2.2.1]],frz:=0,pure:=false,pin:=some 0 }),(4,{ sz:=6,rows:=[[dI 0,dI 0,.sl true (([] : List Z01).map Z0l),.sl true (([] : List Z0k).map Z15),.sl true (([] : List Z0o).map Z1a),.sl true (([] : List Z11).map Z1k)]],frz:=0,pure:=false }),(5,{ sz:=6,rows:=[[dI x1.Z10,dI x1.Z0v,.lsl 1005 0 ((t0.2.2.2.map Z0l).length),.sl true (([] : List Z0k).map Z15),.sl true (([] : List Z0o).map Z1a),.sl false (x1.Z1h.map Z1k)]],frz:=0,pure:=false }),(1005,{ sz:=10,rows:=(t0.2.2.2.map Z0l),frz:=0,pure:=true })]⟩
def J78x1 (x1 : Z08) : JT (((List Z00) × Int × (List Z01))):=
  je 0 fun q0 : (List Z00) × Int × (List Z01)=>⟨101,[(0,.lptr 0 0 0),(3,.ptr (Z17 x1)),(4,.lptr 4 0 0),(5,.lptr 5 0 0)],[(0,{ sz:=2,rows:=[[.sl false (q0.1.map Z09),dI q0.2.1]],frz:=0,pure:=false,pin:=some 0 }),(4,{ sz:=6,rows:=[[dI 0,dI 0,.sl true (([] : List Z01).map Z0l),.sl true (([] : List Z0k).map Z15),.sl true (([] : List Z0o).map Z1a),.sl true (([] : List Z11).map Z1k)]],frz:=0,pure:=false }),(5,{ sz:=6,rows:=[[dI x1.Z10,dI x1.Z0v,.lsl 1005 0 ((q0.2.2.map Z0l).length),.sl true (([] : List Z0k).map Z15),.sl true (([] : List Z0o).map Z1a),.sl false (x1.Z1h.map Z1k)]],frz:=0,pure:=false }),(1005,{ sz:=10,rows:=(q0.2.2.map Z0l),frz:=0,pure:=true })]⟩
theorem wl78x1 {x1 : Z08} {t0 : Int × (List Z00) × Int × (List Z01)} {r : Ctl (Int × (List Z00) × Int × (List Z01)) (((List Z00) × Int × (List Z01)))} {Γ : Ctx} (h : (Zff x1) t0 = some r) : A Tryz.prog Γ (lpC Tryz.f78 43) [] (Rd (Ztg x1) (J78x1 x1) r) ((Ztg x1) t0).s:=
  go [] [rg 3 [(3,ln x1.Z0q)]] <| br h (fun h2 h=>bd h fun v6 e6 h=>bd h fun v7 e7 h=>bd h fun v8 e8 h=>bd h fun v9 e9 h=>go [] [rgo 5 [(6,ix e6),(8,ko [0] (w105 e7)),(9,br0 1 10),(10,ap e8)] [0,1,2,3,4,5,6,7,8,9,10,11,12] [8,10,12,3000,4008,3001,10005] [(1,[0]),(4,[3]),(6,[3,4,5]),(7,[3,4,5,6]),(8,[2,3,4,5,6,7]),(9,[2,3,4,5,6,7,8]),(10,[0,1,2,3,4,5,6,7,8,9]),(11,[0,1,2,3,4,5,6,7,8,9,10]),(12,[0,1,2,3,4,5,6,7,8,9,10,11])],rg 4 [(1,n e9)]] <| nx h) fun h2 h=>
  go [] [] <| dn h (iE)
def Zmw (q0 : ((List Z00) × Int × (List Z01))) (x1 : Z08) : (Int × (List Z00) × Int × (List Z0k)) → SL:=
  fun t1=>⟨101,[(0,.lptr 0 0 0),(3,.ptr (Z17 x1)),(4,.lptr 4 0 0),(5,.lptr 5 0 0),(7,dI t1.1)],[(0,{ sz:=2,rows:=[[.sl false (t1.2.1.map Z09),dI t1.2.2.1]],frz:=0,pure:=false,pin:=some 0 }),(4,{ sz:=6,rows:=[[dI 0,dI 0,.sl true (([] : List Z01).map Z0l),.sl true (([] : List Z0k).map Z15),.sl true (([] : List Z0o).map Z1a),.sl true (([] : List Z11).map Z1k)]],frz:=0,pure:=false }),(5,{ sz:=6,rows:=[[dI x1.Z10,dI x1.Z0v,.lsl 1005 0 ((q0.2.2.map Z0l).length),.lsl 2005 0 ((t1.2.2.2.map Z15).length),.sl true (([] : List Z0o).map Z1a),.sl false (x1.Z1h.map Z1k)]],frz:=0,pure:=false }),(1005,{ sz:=10,rows:=(q0.2.2.map Z0l),frz:=0,pure:=true }),(2005,{ sz:=5,rows:=(t1.2.2.2.map Z15),frz:=0,pure:=true })]⟩
def J78x2 (q0 : ((List Z00) × Int × (List Z01))) (x1 : Z08) : JT (((List Z00) × Int × (List Z0k))):=
  je 2 fun q2 : (List Z00) × Int × (List Z0k)=>⟨101,[(0,.lptr 0 0 0),(3,.ptr (Z17 x1)),(4,.lptr 4 0 0),(5,.lptr 5 0 0)],[(0,{ sz:=2,rows:=[[.sl false (q2.1.map Z09),dI q2.2.1]],frz:=0,pure:=false,pin:=some 0 }),(4,{ sz:=6,rows:=[[dI 0,dI 0,.sl true (([] : List Z01).map Z0l),.sl true (([] : List Z0k).map Z15),.sl true (([] : List Z0o).map Z1a),.sl true (([] : List Z11).map Z1k)]],frz:=0,pure:=false }),(5,{ sz:=6,rows:=[[dI x1.Z10,dI x1.Z0v,.lsl 1005 0 ((q0.2.2.map Z0l).length),.lsl 2005 0 ((q2.2.2.map Z15).length),.sl true (([] : List Z0o).map Z1a),.sl false (x1.Z1h.map Z1k)]],frz:=0,pure:=false }),(1005,{ sz:=10,rows:=(q0.2.2.map Z0l),frz:=0,pure:=true }),(2005,{ sz:=5,rows:=(q2.2.2.map Z15),frz:=0,pure:=true })]⟩
theorem Zpc (q0 : ((List Z00) × Int × (List Z01))) (x1 : Z08) {t1 : Int × (List Z00) × Int × (List Z0k)} {v16 : Z0k} {p6 : List Z00} {p7 p8 : Int} {r : Ctl (Int × (List Z00) × Int × (List Z0k)) (((List Z00) × Int × (List Z0k)))} {Γ : Ctx} (h : (Zi6 t1 v16) p6 p7 p8 = some r) : Jn Tryz.prog Tryz.f78 Γ (Rd (Zmw q0 x1) (J78x2 q0 x1) r) 11415 ⟨101,[(0,.lptr 0 0 0),(3,.ptr (Z17 x1)),(4,.lptr 4 0 0),(5,.lptr 5 0 0),(7,dI t1.1),(8,.lptr 8 0 0)],[(0,{ sz:=2,rows:=[[.sl false (p6.map Z09),dI p7]],frz:=0,pure:=false,pin:=some 0 }),(4,{ sz:=6,rows:=[[dI 0,dI 0,.sl true (([] : List Z01).map Z0l),.sl true (([] : List Z0k).map Z15),.sl true (([] : List Z0o).map Z1a),.sl true (([] : List Z11).map Z1k)]],frz:=0,pure:=false }),(5,{ sz:=6,rows:=[[dI x1.Z10,dI x1.Z0v,.lsl 1005 0 ((q0.2.2.map Z0l).length),.lsl 2005 0 ((t1.2.2.2.map Z15).length),.sl true (([] : List Z0o).map Z1a),.sl false (x1.Z1h.map Z1k)]],frz:=0,pure:=false }),(8,{ sz:=5,rows:=[[dI v16.Z3x,dI v16.f_To,dI v16.Z43,dI p8,.str v16.Z1o]],frz:=0,pure:=false }),(1005,{ sz:=10,rows:=(q0.2.2.map Z0l),frz:=0,pure:=true }),(2005,{ sz:=5,rows:=(t1.2.2.2.map Z15),frz:=0,pure:=true })]⟩:=
  so <| bd h fun v18 e19 h=>bd h fun v19 e20 h=>go [] [rg 13 [(3,br0 1 5),(4,ap e19)],rg 8 [(1,n e20)]] <| nx h
theorem wl78x2 (q0 : ((List Z00) × Int × (List Z01))) {x1 : Z08} {t1 : Int × (List Z00) × Int × (List Z0k)} {r : Ctl (Int × (List Z00) × Int × (List Z0k)) (((List Z00) × Int × (List Z0k)))} {Γ : Ctx} (h : (Zh2 x1) t1 = some r) : A Tryz.prog Γ (lpC Tryz.f78 87) [] (Rd (Zmw q0 x1) (J78x2 q0 x1) r) ((Zmw q0 x1) t1).s:=
  go [] [rg 7 [(3,ln x1.Z1n)]] <| br h (fun h7 h=>bd h fun v16 e17 h=>go [] [rg 9 [(3,ix e17)]] <| br h (fun h8 h=>bd h fun v17 e18 h=>go [12] [rg 11 [(3,ko [0] (w54 e18))]] <| jn ((Zpc q0 x1) h)) fun h8 h=>
    go [12] [] <| jn ((Zpc q0 x1) h)) fun h7 h=>
  go [] [] <| dn h (iE)
def Zuc (q0 : ((List Z00) × Int × (List Z01))) (q2 : ((List Z00) × Int × (List Z0k))) (x1 : Z08) : (Int × (List Z00) × Int × (List Z0o)) → SL:=
  fun t2=>⟨101,[(0,.lptr 0 0 0),(3,.ptr (Z17 x1)),(4,.lptr 4 0 0),(5,.lptr 5 0 0),(9,dI t2.1)],[(0,{ sz:=2,rows:=[[.sl false (t2.2.1.map Z09),dI t2.2.2.1]],frz:=0,pure:=false,pin:=some 0 }),(4,{ sz:=6,rows:=[[dI 0,dI 0,.sl true (([] : List Z01).map Z0l),.sl true (([] : List Z0k).map Z15),.sl true (([] : List Z0o).map Z1a),.sl true (([] : List Z11).map Z1k)]],frz:=0,pure:=false }),(5,{ sz:=6,rows:=[[dI x1.Z10,dI x1.Z0v,.lsl 1005 0 ((q0.2.2.map Z0l).length),.lsl 2005 0 ((q2.2.2.map Z15).length),.lsl 3005 0 ((t2.2.2.2.map Z1a).length),.sl false (x1.Z1h.map Z1k)]],frz:=0,pure:=false }),(1005,{ sz:=10,rows:=(q0.2.2.map Z0l),frz:=0,pure:=true }),(2005,{ sz:=5,rows:=(q2.2.2.map Z15),frz:=0,pure:=true }),(3005,{ sz:=4,rows:=(t2.2.2.2.map Z1a),frz:=0,pure:=true })]⟩
def J78x3 (q0 : ((List Z00) × Int × (List Z01))) (q2 : ((List Z00) × Int × (List Z0k))) (x1 : Z08) : JT (((List Z00) × Int × (List Z0o))):=
  je 4 fun q4 : (List Z00) × Int × (List Z0o)=>⟨101,[(4,.lptr 4 0 0),(5,.lptr 5 0 0)],[(0,{ sz:=2,rows:=[[.sl false (q4.1.map Z09),dI q4.2.1]],frz:=0,pure:=false,pin:=some 0 }),(4,{ sz:=6,rows:=[[dI 0,dI 0,.sl true (([] : List Z01).map Z0l),.sl true (([] : List Z0k).map Z15),.sl true (([] : List Z0o).map Z1a),.sl true (([] : List Z11).map Z1k)]],frz:=0,pure:=false }),(5,{ sz:=6,rows:=[[dI x1.Z10,dI x1.Z0v,.lsl 1005 0 ((q0.2.2.map Z0l).length),.lsl 2005 0 ((q2.2.2.map Z15).length),.lsl 3005 0 ((q4.2.2.map Z1a).length),.sl false (x1.Z1h.map Z1k)]],frz:=0,pure:=false }),(1005,{ sz:=10,rows:=(q0.2.2.map Z0l),frz:=0,pure:=true }),(2005,{ sz:=5,rows:=(q2.2.2.map Z15),frz:=0,pure:=true }),(3005,{ sz:=4,rows:=(q4.2.2.map Z1a),frz:=0,pure:=true })]⟩
theorem wl78x3 (q0 : ((List Z00) × Int × (List Z01))) (q2 : ((List Z00) × Int × (List Z0k))) {x1 : Z08} {t2 : Int × (List Z00) × Int × (List Z0o)} {r : Ctl (Int × (List Z00) × Int × (List Z0o)) (((List Z00) × Int × (List Z0o)))} {Γ : Ctx} (h : (Zhp x1) t2 = some r) : A Tryz.prog Γ (lpC Tryz.f78 175) [] (Rd (Zuc q0 q2 x1) (J78x3 q0 q2 x1) r) ((Zuc q0 q2 x1) t2).s:=
  go [] [rg 15 [(3,ln x1.Z18)]] <| br h (fun h11 h=>bd h fun v30 e32 h=>bd h fun v31 e33 h=>bd h fun v32 e34 h=>bd h fun v33 e35 h=>bd h fun v34 e36 h=>bd h fun v35 e37 h=>go [] [rg 17 [(3,ix e32)],rgo 18 [(5,ix e33),(11,ko [0] (w106 e34)),(15,ko [0] (w106 e35)),(20,br0 1 4),(21,ap e36)] [0,1,2,3,4,5,6,7,8,9,10,12,13,14,16,17,11,15,18,19,20,21,22,23] [11,15,21,23,3000,4011,4015,3001,1002,1003,1004,1005,1006,1007,3012,3013,3014,3016,3017,10005,10010] [(1,[0]),(3,[2]),(5,[2,3,4]),(6,[2,3,4,5]),(7,[2,3,4,5,6]),(10,[9]),(11,[8,9,10]),(14,[13]),(15,[8,9,10,11,12,13,14]),(17,[16]),(18,[8,9,10,11,12,13,14,15,16,17]),(19,[2,3,4,5,6,7,8,9,10,11,12,13,14,15,16,17,18]),(20,[2,3,4,5,6,7,8,9,10,11,12,13,14,15,16,17,18,19]),(21,[0,1,2,3,4,5,6,7,8,9,10,11,12,13,14,15,16,17,18,19,20]),(22,[0,1,2,3,4,5,6,7,8,9,10,11,12,13,14,15,16,17,18,19,20,21]),(23,[0,1,2,3,4,5,6,7,8,9,10,11,12,13,14,15,16,17,18,19,20,21,22])],rg 16 [(1,n e37)]] <| nx h) fun h11 h=>
  go [] [] <| dn h (iE)
theorem w78 {x0 : Z0p} {x1 : Z08} {r : Z0p × Z08} (h : Zgl x0 x1 = some r) : Z41 Tryz.prog 78 [.lptr 0 0 0,.agg (Z17 x1)] [{ sz:=2,rows:=[Z3f x0],frz:=0,pure:=false,pin:=some 0 }] (R78 r) (B78 r):=
  csO Tryz.f78 (m:=1) (keep:=[true]) <| go [] [rg 0 [(0,bo)]] <| bd h fun q0 e10 h=>lp (cv:=[.blk 5 2 1005 10]) e10 wl78x1 <| qe <| goN [] [] <| bd h fun q2 e21 h=>lp (cv:=[.blk 5 3 2005 5]) e21 (wl78x2 q0) <| qe <| goN [] [] <| bd h fun q4 e38 h=>lp (cv:=[.blk 5 4 3005 4]) e38 (wl78x3 q0 q2) <| qe <| goN [] [] <| rtO h (.agg [dI x1.Z10,dI x1.Z0v,rw_ q0.2.2,rw_ q2.2.2,rw_ q4.2.2,.sl false (x1.Z1h.map Z1k)]) [{ sz:=2,rows:=[[.sl false (q4.1.map Z09),dI q4.2.1]],frz:=0,pure:=false,pin:=some 0 }] (a2 (a2 trivial (a2 trivial (a2 (rpI q0.2.2) (a2 (rpI q2.2.2) (a2 (rpI q4.2.2) (a2 trivial trivial)))))) trivial) (by simp only [rwE] <;> kernel_rfl)
def B58 (y0 : Z0p × Z25) : List Blk:=[{ sz:=2,rows:=[Z3f y0.1],frz:=0,pure:=false,pin:=some 0 }]
def R58 (y0 : Z0p × Z25) : D:= .agg (Z72 y0.2)
def Zh9 (v34 : Z0x) (t3 : Int × (List Z00) × Int × (List Int)) : Option (Ctl (Int × (List Z00) × Int × (List Int)) (((List Z00) × Int × (List Int)))):=
  if (decide (t3.1 < (v34.Z6b.length : Int))) = true then
    ((Z0g v34.Z6b t3.1).bind fun v43=>
    (Z85 ({ f_P:=t3.2.1,f_E:=t3.2.2.1 } : Z0p) v43).bind fun v44=>
    (Z24 8 (t3.2.2.2 ++ [v44.2]).length).bind fun v45=>
    (some (IntKind.wrap .i64 (t3.1 + (1 : Int)))).bind fun v46=>
    some (.next (v46,v44.1.f_P,v44.1.f_E,(t3.2.2.2 ++ [v44.2])))) else
  (some (.done ((t3.2.1,t3.2.2.1,t3.2.2.2))))
def Zc2 (p26 p27 p28 : Int) (p29 : List Z01) (p30 : List Z0k) (p31 : List Z0o) (p32 : List Z11) (t0 : Int × (List Z00) × Int × (List Z0b) × (List Z08) × (List (List Int)) × (List Z1v)) (v34 : Z0x) (v35 v36 : Z0p × Int) (p33 : List Z00) (p34 p35 : Int) : Option (Ctl (Int × (List Z00) × Int × (List Z0b) × (List Z08) × (List (List Int)) × (List Z1v)) (((List Z00) × Int × (List Z0b) × (List Z08) × (List (List Int)) × (List Z1v)))):=
  (Z0d (Zh9 v34) Z0i (0,p33,p34,([] : List Int))).bind fun q4=>
  (Z24 48 (t0.2.2.2.1 ++ [({ Z0h:=v34.Z0h,Z02:=v35.2,Z1l:=v36.2,Z1g:=([] : List Z14) } : Z0b)]).length).bind fun v47=>
  (Z24 112 (t0.2.2.2.2.1 ++ [({ Z10:=p27,Z0v:=p28,Z0q:=p29,Z1n:=p30,Z18:=p31,Z1h:=p32 } : Z08)]).length).bind fun v48=>
  (Z24 24 (t0.2.2.2.2.2.1 ++ [q4.2.2]).length).bind fun v49=>
  (Z24 16 (t0.2.2.2.2.2.2 ++ [({ a0:=p26,a1:=p35 } : Z1v)]).length).bind fun v50=>
  (some (IntKind.wrap .i64 (t0.1 + (1 : Int)))).bind fun v51=>
  some (.next (v51,q4.1,q4.2.1,(t0.2.2.2.1 ++ [({ Z0h:=v34.Z0h,Z02:=v35.2,Z1l:=v36.2,Z1g:=([] : List Z14) } : Z0b)]),(t0.2.2.2.2.1 ++ [({ Z10:=p27,Z0v:=p28,Z0q:=p29,Z1n:=p30,Z18:=p31,Z1h:=p32 } : Z08)]),(t0.2.2.2.2.2.1 ++ [q4.2.2]),(t0.2.2.2.2.2.2 ++ [({ a0:=p26,a1:=p35 } : Z1v)])))
def Zbn (t0 : Int × (List Z00) × Int × (List Z0b) × (List Z08) × (List (List Int)) × (List Z1v)) (v34 : Z0x) (v35 v36 : Z0p × Int) (p24 : List Z00) (p25 p26 p27 p28 : Int) (p29 : List Z01) (p30 : List Z0k) (p31 : List Z0o) (p32 : List Z11) : Option (Ctl (Int × (List Z00) × Int × (List Z0b) × (List Z08) × (List (List Int)) × (List Z1v)) (((List Z00) × Int × (List Z0b) × (List Z08) × (List (List Int)) × (List Z1v)))):=
  if (decide ((v34.Z6b.length : Int) > 0)) = true then
    ((Z5i ({ f_P:=p24,f_E:=p25 } : Z0p) [84,104,114,111,119,110]).bind fun v39=>
    (Zc2 p26 p27 p28 p29 p30 p31 p32 t0 v34 v35 v36) v39.1.f_P v39.1.f_E v39.2) else
  ((Zc2 p26 p27 p28 p29 p30 p31 p32 t0 v34 v35 v36) p24 p25 0)
def Zfy (x1 : Z0j) (t0 : Int × (List Z00) × Int × (List Z0b) × (List Z08) × (List (List Int)) × (List Z1v)) : Option (Ctl (Int × (List Z00) × Int × (List Z0b) × (List Z08) × (List (List Int)) × (List Z1v)) (((List Z00) × Int × (List Z0b) × (List Z08) × (List (List Int)) × (List Z1v)))):=
  if (decide (t0.1 < (x1.Z0m.length : Int))) = true then
    ((Z0g x1.Z0m t0.1).bind fun v34=>
    (Z5i ({ f_P:=t0.2.1,f_E:=t0.2.2.1 } : Z0p) v34.Z02).bind fun v35=>
    (Z5i v35.1 v34.Z1l).bind fun v36=>
    if v34.Z9e = true then
      ((Z5i v36.1 [67,111,100,101]).bind fun v37=>
      (Zgl v37.1 v34.Z2m).bind fun v38=>
      (Zbn t0 v34 v35 v36) v38.1.f_P v38.1.f_E v37.2 v38.2.Z10 v38.2.Z0v v38.2.Z0q v38.2.Z1n v38.2.Z18 v38.2.Z1h) else
    ((Zbn t0 v34 v35 v36) v36.1.f_P v36.1.f_E 0 0 0 ([] : List Z01) ([] : List Z0k) ([] : List Z0o) ([] : List Z11))) else
  (some (.done ((t0.2.1,t0.2.2.1,t0.2.2.2.1,t0.2.2.2.2.1,t0.2.2.2.2.2.1,t0.2.2.2.2.2.2))))
def Zf7 (x0 : Z0p) (x1 : Z0j) (x2 : Z25) : Option (Z0p × Z25):=
  (Z0d (Zfy x1) Z0i (0,x0.f_P,x0.f_E,([] : List Z0b),([] : List Z08),([] : List (List Int)),([] : List Z1v))).bind fun q6=>
  some (({ f_P:=q6.1,f_E:=q6.2.1 } : Z0p),({ f_F:=({ Z20:=([] : List Z00),Z0h:=x2.f_F.Z0h,Z2s:=x2.f_F.Z2s,Z07:=x2.f_F.Z07,Z06:=x2.f_F.Z06,Z0n:=x2.f_F.Z0n,Z0m:=q6.2.2.1,Z1g:=([] : List Z14) } : Z0w),Z6z:=q6.2.2.2.1,Z7r:=q6.2.2.2.2.1,Z60:=q6.2.2.2.2.2 } : Z25))
def Zp5 (p26 p27 p28 : Int) (p29 : List Z01) (p30 : List Z0k) (p31 : List Z0o) (p32 : List Z11) (p35 : Int) (t0 : Int × (List Z00) × Int × (List Z0b) × (List Z08) × (List (List Int)) × (List Z1v)) (v34 : Z0x) (v35 v36 : Z0p × Int) (x1 : Z0j) (x2 : Z25) : (Int × (List Z00) × Int × (List Int)) → SL:=
  fun t3=>⟨102,[(0,.lptr 0 0 0),(4,.ptr (Z2n x1)),(5,.lptr 5 0 0),(6,.lptr 6 0 0),(7,dI t0.1),(8,.lptr 8 0 0),(9,.lptr 9 0 0),(10,.lptr 10 0 0),(11,.lptr 11 0 0),(12,.lsl 12 0 ((t3.2.2.2.map Z03).length)),(13,dI t3.1)],[(0,{ sz:=2,rows:=[[.sl false (t3.2.1.map Z09),dI t3.2.2.1]],frz:=0,pure:=false,pin:=some 0 }),(5,{ sz:=11,rows:=[[.sl true (([] : List Z00).map Z09),dI x2.f_F.Z0h,dI x2.f_F.Z2s,dI x2.f_F.Z07,.sl false (x2.f_F.Z06.map Z03),.sl false (x2.f_F.Z0n.map Z0t),.lsl 1005 0 ((t0.2.2.2.1.map Z0t).length),.sl true (([] : List Z14).map Z1u),.lsl 2005 0 ((t0.2.2.2.2.1.map Z17).length),.lsl 3005 0 ((t0.2.2.2.2.2.1.map (rSl Z03)).length),.lsl 4005 0 ((t0.2.2.2.2.2.2.map Z2d).length)]],frz:=0,pure:=false }),(6,{ sz:=11,rows:=[[.sl true (([] : List Z00).map Z09),dI 0,dI 0,dI 0,.sl true (([] : List Int).map Z03),.sl true (([] : List Z0b).map Z0t),.sl true (([] : List Z0b).map Z0t),.sl true (([] : List Z14).map Z1u),.sl true (([] : List Z08).map Z17),.sl true (([] : List (List Int)).map (rSl Z03)),.sl true (([] : List Z1v).map Z2d)]],frz:=0,pure:=false }),(8,{ sz:=11,rows:=[Z6h v34],frz:=0,pure:=false }),(9,{ sz:=4,rows:=[[dI v34.Z0h,dI v35.2,dI v36.2,.sl true (([] : List Z14).map Z1u)]],frz:=0,pure:=false }),(10,{ sz:=2,rows:=[[dI p26,dI p35]],frz:=0,pure:=false }),(11,{ sz:=6,rows:=[[dI p27,dI p28,.sl false (p29.map Z0l),.sl false (p30.map Z15),.sl false (p31.map Z1a),.sl false (p32.map Z1k)]],frz:=0,pure:=false }),(12,{ sz:=1,rows:=(t3.2.2.2.map Z03),frz:=0,pure:=true }),(1005,{ sz:=4,rows:=(t0.2.2.2.1.map Z0t),frz:=0,pure:=true }),(2005,{ sz:=6,rows:=(t0.2.2.2.2.1.map Z17),frz:=0,pure:=true }),(3005,{ sz:=1,rows:=(t0.2.2.2.2.2.1.map (rSl Z03)),frz:=0,pure:=true }),(4005,{ sz:=2,rows:=(t0.2.2.2.2.2.2.map Z2d),frz:=0,pure:=true })]⟩
def J58x2 (p26 p27 p28 : Int) (p29 : List Z01) (p30 : List Z0k) (p31 : List Z0o) (p32 : List Z11) (p35 : Int) (t0 : Int × (List Z00) × Int × (List Z0b) × (List Z08) × (List (List Int)) × (List Z1v)) (v34 : Z0x) (v35 v36 : Z0p × Int) (x1 : Z0j) (x2 : Z25) : JT (((List Z00) × Int × (List Int))):=
  je 2 fun q4 : (List Z00) × Int × (List Int)=>⟨102,[(0,.lptr 0 0 0),(4,.ptr (Z2n x1)),(5,.lptr 5 0 0),(6,.lptr 6 0 0),(7,dI t0.1),(9,.lptr 9 0 0),(10,.lptr 10 0 0),(11,.lptr 11 0 0),(12,.lsl 12 0 ((q4.2.2.map Z03).length))],[(0,{ sz:=2,rows:=[[.sl false (q4.1.map Z09),dI q4.2.1]],frz:=0,pure:=false,pin:=some 0 }),(5,{ sz:=11,rows:=[[.sl true (([] : List Z00).map Z09),dI x2.f_F.Z0h,dI x2.f_F.Z2s,dI x2.f_F.Z07,.sl false (x2.f_F.Z06.map Z03),.sl false (x2.f_F.Z0n.map Z0t),.lsl 1005 0 ((t0.2.2.2.1.map Z0t).length),.sl true (([] : List Z14).map Z1u),.lsl 2005 0 ((t0.2.2.2.2.1.map Z17).length),.lsl 3005 0 ((t0.2.2.2.2.2.1.map (rSl Z03)).length),.lsl 4005 0 ((t0.2.2.2.2.2.2.map Z2d).length)]],frz:=0,pure:=false }),(6,{ sz:=11,rows:=[[.sl true (([] : List Z00).map Z09),dI 0,dI 0,dI 0,.sl true (([] : List Int).map Z03),.sl true (([] : List Z0b).map Z0t),.sl true (([] : List Z0b).map Z0t),.sl true (([] : List Z14).map Z1u),.sl true (([] : List Z08).map Z17),.sl true (([] : List (List Int)).map (rSl Z03)),.sl true (([] : List Z1v).map Z2d)]],frz:=0,pure:=false }),(9,{ sz:=4,rows:=[[dI v34.Z0h,dI v35.2,dI v36.2,.sl true (([] : List Z14).map Z1u)]],frz:=0,pure:=false }),(10,{ sz:=2,rows:=[[dI p26,dI p35]],frz:=0,pure:=false }),(11,{ sz:=6,rows:=[[dI p27,dI p28,.sl false (p29.map Z0l),.sl false (p30.map Z15),.sl false (p31.map Z1a),.sl false (p32.map Z1k)]],frz:=0,pure:=false }),(12,{ sz:=1,rows:=(q4.2.2.map Z03),frz:=0,pure:=true }),(1005,{ sz:=4,rows:=(t0.2.2.2.1.map Z0t),frz:=0,pure:=true }),(2005,{ sz:=6,rows:=(t0.2.2.2.2.1.map Z17),frz:=0,pure:=true }),(3005,{ sz:=1,rows:=(t0.2.2.2.2.2.1.map (rSl Z03)),frz:=0,pure:=true }),(4005,{ sz:=2,rows:=(t0.2.2.2.2.2.2.map Z2d),frz:=0,pure:=true })]⟩
theorem wl58x2 (p26 p27 p28 : Int) (p29 : List Z01) (p30 : List Z0k) (p31 : List Z0o) (p32 : List Z11) (p35 : Int) (t0 : Int × (List Z00) × Int × (List Z0b) × (List Z08) × (List (List Int)) × (List Z1v)) (v35 v36 : Z0p × Int) (x1 : Z0j) (x2 : Z25) {v34 : Z0x} {t3 : Int × (List Z00) × Int × (List Int)} {r : Ctl (Int × (List Z00) × Int × (List Int)) (((List Z00) × Int × (List Int)))} {Γ : Ctx} (h : (Zh9 v34) t3 = some r) : A Tryz.prog Γ (lpC Tryz.f58 1441573) [] (Rd (Zp5 p26 p27 p28 p29 p30 p31 p32 p35 t0 v34 v35 v36 x1 x2) (J58x2 p26 p27 p28 p29 p30 p31 p32 p35 t0 v34 v35 v36 x1 x2) r) ((Zp5 p26 p27 p28 p29 p30 p31 p32 p35 t0 v34 v35 v36 x1 x2) t3).s:=
  go [] [rg 17 [(3,ln v34.Z6b)]] <| br h (fun h14 h=>bd h fun v43 e45 h=>bd h fun v44 e46 h=>bd h fun v45 e47 h=>bd h fun v46 e48 h=>go [] [rg 19 [(5,ix e45),(7,ko [0] (w54 e46)),(8,br0 1 0),(9,ap e47)],rg 18 [(1,n e48)]] <| nx h) fun h14 h=>
  go [] [] <| dn h (iE)
def Zfg (x1 : Z0j) (x2 : Z25) : (Int × (List Z00) × Int × (List Z0b) × (List Z08) × (List (List Int)) × (List Z1v)) → SL:=
  fun t0=>⟨102,[(0,.lptr 0 0 0),(4,.ptr (Z2n x1)),(5,.lptr 5 0 0),(6,.lptr 6 0 0),(7,dI t0.1)],[(0,{ sz:=2,rows:=[[.sl false (t0.2.1.map Z09),dI t0.2.2.1]],frz:=0,pure:=false,pin:=some 0 }),(5,{ sz:=11,rows:=[[.sl true (([] : List Z00).map Z09),dI x2.f_F.Z0h,dI x2.f_F.Z2s,dI x2.f_F.Z07,.sl false (x2.f_F.Z06.map Z03),.sl false (x2.f_F.Z0n.map Z0t),.lsl 1005 0 ((t0.2.2.2.1.map Z0t).length),.sl true (([] : List Z14).map Z1u),.lsl 2005 0 ((t0.2.2.2.2.1.map Z17).length),.lsl 3005 0 ((t0.2.2.2.2.2.1.map (rSl Z03)).length),.lsl 4005 0 ((t0.2.2.2.2.2.2.map Z2d).length)]],frz:=0,pure:=false }),(6,{ sz:=11,rows:=[[.sl true (([] : List Z00).map Z09),dI 0,dI 0,dI 0,.sl true (([] : List Int).map Z03),.sl true (([] : List Z0b).map Z0t),.sl true (([] : List Z0b).map Z0t),.sl true (([] : List Z14).map Z1u),.sl true (([] : List Z08).map Z17),.sl true (([] : List (List Int)).map (rSl Z03)),.sl true (([] : List Z1v).map Z2d)]],frz:=0,pure:=false }),(1005,{ sz:=4,rows:=(t0.2.2.2.1.map Z0t),frz:=0,pure:=true }),(2005,{ sz:=6,rows:=(t0.2.2.2.2.1.map Z17),frz:=0,pure:=true }),(3005,{ sz:=1,rows:=(t0.2.2.2.2.2.1.map (rSl Z03)),frz:=0,pure:=true }),(4005,{ sz:=2,rows:=(t0.2.2.2.2.2.2.map Z2d),frz:=0,pure:=true })]⟩
def J58x1 (x2 : Z25) : JT (((List Z00) × Int × (List Z0b) × (List Z08) × (List (List Int)) × (List Z1v))):=
  je 0 fun q6 : (List Z00) × Int × (List Z0b) × (List Z08) × (List (List Int)) × (List Z1v)=>⟨102,[(5,.lptr 5 0 0),(6,.lptr 6 0 0)],[(0,{ sz:=2,rows:=[[.sl false (q6.1.map Z09),dI q6.2.1]],frz:=0,pure:=false,pin:=some 0 }),(5,{ sz:=11,rows:=[[.sl true (([] : List Z00).map Z09),dI x2.f_F.Z0h,dI x2.f_F.Z2s,dI x2.f_F.Z07,.sl false (x2.f_F.Z06.map Z03),.sl false (x2.f_F.Z0n.map Z0t),.lsl 1005 0 ((q6.2.2.1.map Z0t).length),.sl true (([] : List Z14).map Z1u),.lsl 2005 0 ((q6.2.2.2.1.map Z17).length),.lsl 3005 0 ((q6.2.2.2.2.1.map (rSl Z03)).length),.lsl 4005 0 ((q6.2.2.2.2.2.map Z2d).length)]],frz:=0,pure:=false }),(6,{ sz:=11,rows:=[[.sl true (([] : List Z00).map Z09),dI 0,dI 0,dI 0,.sl true (([] : List Int).map Z03),.sl true (([] : List Z0b).map Z0t),.sl true (([] : List Z0b).map Z0t),.sl true (([] : List Z14).map Z1u),.sl true (([] : List Z08).map Z17),.sl true (([] : List (List Int)).map (rSl Z03)),.sl true (([] : List Z1v).map Z2d)]],frz:=0,pure:=false }),(1005,{ sz:=4,rows:=(q6.2.2.1.map Z0t),frz:=0,pure:=true }),(2005,{ sz:=6,rows:=(q6.2.2.2.1.map Z17),frz:=0,pure:=true }),(3005,{ sz:=1,rows:=(q6.2.2.2.2.1.map (rSl Z03)),frz:=0,pure:=true }),(4005,{ sz:=2,rows:=(q6.2.2.2.2.2.map Z2d),frz:=0,pure:=true })]⟩
theorem Zot (x1 : Z0j) (x2 : Z25) {p26 p27 p28 : Int} {p29 : List Z01} {p30 : List Z0k} {p31 : List Z0o} {p32 : List Z11} {t0 : Int × (List Z00) × Int × (List Z0b) × (List Z08) × (List (List Int)) × (List Z1v)} {v34 : Z0x} {v35 v36 : Z0p × Int} {p33 : List Z00} {p34 p35 : Int} {r : Ctl (Int × (List Z00) × Int × (List Z0b) × (List Z08) × (List (List Int)) × (List Z1v)) (((List Z00) × Int × (List Z0b) × (List Z08) × (List (List Int)) × (List Z1v)))} {Γ : Ctx} (h : (Zc2 p26 p27 p28 p29 p30 p31 p32 t0 v34 v35 v36) p33 p34 p35 = some r) : Jn Tryz.prog Tryz.f58 Γ (Rd (Zfg x1 x2) (J58x1 x2) r) 655141 ⟨102,[(0,.lptr 0 0 0),(4,.ptr (Z2n x1)),(5,.lptr 5 0 0),(6,.lptr 6 0 0),(7,dI t0.1),(8,.lptr 8 0 0),(9,.lptr 9 0 0),(10,.lptr 10 0 0),(11,.lptr 11 0 0),(12,.lsl 12 0 ((([] : List Int).map Z03).length))],[(0,{ sz:=2,rows:=[[.sl false (p33.map Z09),dI p34]],frz:=0,pure:=false,pin:=some 0 }),(5,{ sz:=11,rows:=[[.sl true (([] : List Z00).map Z09),dI x2.f_F.Z0h,dI x2.f_F.Z2s,dI x2.f_F.Z07,.sl false (x2.f_F.Z06.map Z03),.sl false (x2.f_F.Z0n.map Z0t),.lsl 1005 0 ((t0.2.2.2.1.map Z0t).length),.sl true (([] : List Z14).map Z1u),.lsl 2005 0 ((t0.2.2.2.2.1.map Z17).length),.lsl 3005 0 ((t0.2.2.2.2.2.1.map (rSl Z03)).length),.lsl 4005 0 ((t0.2.2.2.2.2.2.map Z2d).length)]],frz:=0,pure:=false }),(6,{ sz:=11,rows:=[[.sl true (([] : List Z00).map Z09),dI 0,dI 0,dI 0,.sl true (([] : List Int).map Z03),.sl true (([] : List Z0b).map Z0t),.sl true (([] : List Z0b).map Z0t),.sl true (([] : List Z14).map Z1u),.sl true (([] : List Z08).map Z17),.sl true (([] : List (List Int)).map (rSl Z03)),.sl true (([] : List Z1v).map Z2d)]],frz:=0,pure:=false }),(8,{ sz:=11,rows:=[Z6h v34],frz:=0,pure:=false }),(9,{ sz:=4,rows:=[[dI v34.Z0h,dI v35.2,dI v36.2,.sl true (([] : List Z14).map Z1u)]],frz:=0,pure:=false }),(10,{ sz:=2,rows:=[[dI p26,dI p35]],frz:=0,pure:=false }),(11,{ sz:=6,rows:=[[dI p27,dI p28,.sl false (p29.map Z0l),.sl false (p30.map Z15),.sl false (p31.map Z1a),.sl false (p32.map Z1k)]],frz:=0,pure:=false }),(12,{ sz:=1,rows:=(([] : List Int).map Z03),frz:=0,pure:=true }),(1005,{ sz:=4,rows:=(t0.2.2.2.1.map Z0t),frz:=0,pure:=true }),(2005,{ sz:=6,rows:=(t0.2.2.2.2.1.map Z17),frz:=0,pure:=true }),(3005,{ sz:=1,rows:=(t0.2.2.2.2.2.1.map (rSl Z03)),frz:=0,pure:=true }),(4005,{ sz:=2,rows:=(t0.2.2.2.2.2.2.map Z2d),frz:=0,pure:=true })]⟩:=
  so <| go [] [] <| bd h fun q4 e49 h=>lp e49 (wl58x2 p26 p27 p28 p29 p30 p31 p32 p35 t0 v35 v36 x1 x2) <| qe <| bd h fun v47 e50 h=>bd h fun v48 e51 h=>bd h fun v49 e52 h=>bd h fun v50 e53 h=>bd h fun v51 e54 h=>goN [] [rg 20 [(4,br0 1 4),(5,ap e50)],rg 21 [(3,br0 1 6),(4,ap e51)],rg 22 [(3,br2 (A:=([q4.2.2] : List (List Int)).map (rSl Z03)) (rpI q4.2.2) [[rw_ q4.2.2]] (by simp only [rwE] <;> kernel_rfl)),(4,ap e52)],rg 23 [(3,br0 1 2),(4,ap e53)],rg 3 [(1,n e54)]] <| nx h
theorem Ztt (x1 : Z0j) (x2 : Z25) {t0 : Int × (List Z00) × Int × (List Z0b) × (List Z08) × (List (List Int)) × (List Z1v)} {v34 : Z0x} {v35 v36 : Z0p × Int} {p24 : List Z00} {p25 p26 p27 p28 : Int} {p29 : List Z01} {p30 : List Z0k} {p31 : List Z0o} {p32 : List Z11} {r : Ctl (Int × (List Z00) × Int × (List Z0b) × (List Z08) × (List (List Int)) × (List Z1v)) (((List Z00) × Int × (List Z0b) × (List Z08) × (List (List Int)) × (List Z1v)))} {Γ : Ctx} (h : (Zbn t0 v34 v35 v36) p24 p25 p26 p27 p28 p29 p30 p31 p32 = some r) : Jn Tryz.prog Tryz.f58 Γ (Rd (Zfg x1 x2) (J58x1 x2) r) 98085 ⟨102,[(0,.lptr 0 0 0),(4,.ptr (Z2n x1)),(5,.lptr 5 0 0),(6,.lptr 6 0 0),(7,dI t0.1),(8,.lptr 8 0 0),(9,.lptr 9 0 0),(10,.lptr 10 0 0),(11,.lptr 11 0 0)],[(0,{ sz:=2,rows:=[[.sl false (p24.map Z09),dI p25]],frz:=0,pure:=false,pin:=some 0 }),(5,{ sz:=11,rows:=[[.sl true (([] : List Z00).map Z09),dI x2.f_F.Z0h,dI x2.f_F.Z2s,dI x2.f_F.Z07,.sl false (x2.f_F.Z06.map Z03),.sl false (x2.f_F.Z0n.map Z0t),.lsl 1005 0 ((t0.2.2.2.1.map Z0t).length),.sl true (([] : List Z14).map Z1u),.lsl 2005 0 ((t0.2.2.2.2.1.map Z17).length),.lsl 3005 0 ((t0.2.2.2.2.2.1.map (rSl Z03)).length),.lsl 4005 0 ((t0.2.2.2.2.2.2.map Z2d).length)]],frz:=0,pure:=false }),(6,{ sz:=11,rows:=[[.sl true (([] : List Z00).map Z09),dI 0,dI 0,dI 0,.sl true (([] : List Int).map Z03),.sl true (([] : List Z0b).map Z0t),.sl true (([] : List Z0b).map Z0t),.sl true (([] : List Z14).map Z1u),.sl true (([] : List Z08).map Z17),.sl true (([] : List (List Int)).map (rSl Z03)),.sl true (([] : List Z1v).map Z2d)]],frz:=0,pure:=false }),(8,{ sz:=11,rows:=[Z6h v34],frz:=0,pure:=false }),(9,{ sz:=4,rows:=[[dI v34.Z0h,dI v35.2,dI v36.2,.sl true (([] : List Z14).map Z1u)]],frz:=0,pure:=false }),(10,{ sz:=2,rows:=[[dI p26,dI 0]],frz:=0,pure:=false }),(11,{ sz:=6,rows:=[[dI p27,dI p28,.sl false (p29.map Z0l),.sl false (p30.map Z15),.sl false (p31.map Z1a),.sl false (p32.map Z1k)]],frz:=0,pure:=false }),(1005,{ sz:=4,rows:=(t0.2.2.2.1.map Z0t),frz:=0,pure:=true }),(2005,{ sz:=6,rows:=(t0.2.2.2.2.1.map Z17),frz:=0,pure:=true }),(3005,{ sz:=1,rows:=(t0.2.2.2.2.2.1.map (rSl Z03)),frz:=0,pure:=true }),(4005,{ sz:=2,rows:=(t0.2.2.2.2.2.2.map Z2d),frz:=0,pure:=true })]⟩:=
  so <| go [] [rg 13 [(0,bl 0 0)],rg 14 [(2,ln v34.Z6b)]] <| br h (fun h12 h=>bd h fun v39 e41 h=>go [16] [rg 15 [(1,ko [0] (w55 e41)),(2,ax 1 2)]] <| jn (ps:=[(0,0),(5,5),(6,6),(8,8),(9,9),(10,10),(11,11),(50,12),(1005,1005),(2005,2005),(3005,3005),(4005,4005)]) ((Zot x1 x2) h)) fun h12 h=>
  go [16] [] <| jn (ps:=[(0,0),(5,5),(6,6),(8,8),(9,9),(10,10),(11,11),(50,12),(1005,1005),(2005,2005),(3005,3005),(4005,4005)]) ((Zot x1 x2) h)
theorem wl58x1 (x2 : Z25) {x1 : Z0j} {t0 : Int × (List Z00) × Int × (List Z0b) × (List Z08) × (List (List Int)) × (List Z1v)} {r : Ctl (Int × (List Z00) × Int × (List Z0b) × (List Z08) × (List (List Int)) × (List Z1v)) (((List Z00) × Int × (List Z0b) × (List Z08) × (List (List Int)) × (List Z1v)))} {Γ : Ctx} (h : (Zfy x1) t0 = some r) : A Tryz.prog Γ (lpC Tryz.f58 21) [] (Rd (Zfg x1 x2) (J58x1 x2) r) ((Zfg x1 x2) t0).s:=
  go [] [rg 2 [(3,ln x1.Z0m)]] <| br h (fun h10 h=>bd h fun v34 e36 h=>bd h fun v35 e37 h=>bd h fun v36 e38 h=>go [] [rg 4 [(3,ix e36)],rg 6 [(3,ko [0] (w55 e37))],rg 7 [(3,ko [0] (w55 e38))]] <| br h (fun h11 h=>bd h fun v37 e39 h=>bd h fun v38 e40 h=>go [13] [rg 11 [(1,ko [0] (w55 e39)),(2,ax 0 2)],rg 12 [(3,ko [0] (w78 e40))]] <| jn ((Ztt x1 x2) h)) fun h11 h=>
    go [13] [] <| jn (cv:=[.loose 11 2,.loose 11 3,.loose 11 4,.loose 11 5]) ((Ztt x1 x2) h)) fun h10 h=>
  go [] [] <| dn h (iE)
theorem w58 {x0 : Z0p} {x1 : Z0j} {x2 : Z25} {r : Z0p × Z25} (h : Zf7 x0 x1 x2 = some r) : Z41 Tryz.prog 58 [.lptr 0 0 0,.agg (Z2n x1),.agg [.sl true (([] : List Z00).map Z09),dI x2.f_F.Z0h,dI x2.f_F.Z2s,dI x2.f_F.Z07,.sl false (x2.f_F.Z06.map Z03),.sl false (x2.f_F.Z0n.map Z0t),.sl true (([] : List Z0b).map Z0t),.sl true (([] : List Z14).map Z1u),.sl true (([] : List Z08).map Z17),.sl true (([] : List (List Int)).map (rSl Z03)),.sl true (([] : List Z1v).map Z2d)]] [{ sz:=2,rows:=[Z3f x0],frz:=0,pure:=false,pin:=some 0 }] (R58 r) (B58 r):=
  csO Tryz.f58 (m:=1) (keep:=[true]) <| go [] [rg 0 [(0,bo)]] <| bd h fun q6 e55 h=>lp (cv:=[.blk 5 6 1005 4,.blk 5 8 2005 6,.blk 5 9 3005 1,.blk 5 10 4005 2]) e55 (wl58x1 x2) <| qe <| goN [] [] <| rtO h (.agg [.sl false (([] : List Z00).map Z09),dI x2.f_F.Z0h,dI x2.f_F.Z2s,dI x2.f_F.Z07,.sl false (x2.f_F.Z06.map Z03),.sl false (x2.f_F.Z0n.map Z0t),rw_ q6.2.2.1,.sl false (([] : List Z14).map Z1u),rw_ q6.2.2.2.1,rw_ q6.2.2.2.2.1,rw_ q6.2.2.2.2.2]) [{ sz:=2,rows:=[[.sl false (q6.1.map Z09),dI q6.2.1]],frz:=0,pure:=false,pin:=some 0 }] (a2 (a2 trivial (a2 trivial (a2 trivial (a2 trivial (a2 trivial (a2 trivial (a2 (rpI q6.2.2.1) (a2 trivial (a2 (rpI q6.2.2.2.1) (a2 (rpI q6.2.2.2.2.1) (a2 (rpI q6.2.2.2.2.2) trivial))))))))))) trivial) (by simp only [rwE] <;> kernel_rfl)
end Go.Proofs
