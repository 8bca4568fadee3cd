/-
  Models of functions of the program, and that the functions compute them. Printed by den3.py. No condition.
-/
import Derived.Test.YtaamfcpmekeahaaGreatDoorRows
import Derived.Test.YtaamfcpmekeahaaGreatDoorDenClaim
set_option linter.unusedVariables false
set_option linter.unusedSimpArgs false
namespace Go.Proofs
open IntKind (wrap)
open Tryz
open Go.Den Go.Den.W
structure Vr where
 a0:Int
 a1:Int
def Vv (x:Vr):List D:=[.int .i64 x.a0,.int .i64 x.a1]
instance:Row Vr:=⟨Vv,2,λ_=>rfl⟩
structure Zf where
 Zj:Int
 f_N:Int
def Y8 (x:Zf):List D:=[.int .i64 x.Zj,.int .i64 x.f_N]
instance:Row Zf:=⟨Y8,2,λ_=>rfl⟩
structure Qd where
 Zy:Int
 Uc:Int
 f_PC:Int
 Y1:List Zf
 Y5:List Zf
 Vo:Int
 Jw:Bool
 Lu:Bool
def Vg (x:Qd):List D:=[.int .i64 x.Zy,.int .i64 x.Uc,.int .i64 x.f_PC,slF Y8 x.Y1,slF Y8 x.Y5,.int .i64 x.Vo,.bool x.Jw,.bool x.Lu]
instance:Row Qd:=⟨Vg,8,λ_=>rfl⟩
structure Vd where
 Zy6:Int
 Ql:List UInt8
def Qq (x:Vd):List D:=[.int .i64 x.Zy6,.str x.Ql]
instance:Row Vd:=⟨Qq,2,λ_=>rfl⟩
structure Qm where
 Ye:Int
 Zo:List UInt8
 Xh:List UInt8
 Vy:Int
 f_N:Int
 f_S:List UInt8
def Wk (x:Qm):List D:=[.int .i64 x.Ye,.str x.Zo,.str x.Xh,.int .i64 x.Vy,.int .i64 x.f_N,.str x.f_S]
instance:Row Qm:=⟨Wk,6,λ_=>rfl⟩
structure Xy where
 Zy:List UInt8
 Zo:List UInt8
 Xh:List UInt8
def Z1q (x:Xy):List D:=[.str x.Zy,.str x.Zo,.str x.Xh]
instance:Row Xy:=⟨Z1q,3,λ_=>rfl⟩
structure Zg where
 f_Op:Int
 f_A:Int
 f_B:Int
 f_To:Int
 Yg:List Int
 Zs:List Int
 Yv:Xy
 f_S:List UInt8
def Y4 (x:Zg):List D:=[.int .i64 x.f_Op,.int .i64 x.f_A,.int .i64 x.f_B,.int .i64 x.f_To,slF Z5 x.Yg,slF Z5 x.Zs,.str x.Yv.Zy,.str x.Yv.Zo,.str x.Yv.Xh,.str x.f_S]
instance:Row Zg:=⟨Y4,10,λ_=>rfl⟩
structure Yf where
 Wm:Int
 f_To:Int
 Wf:Int
 Zy:Int
 Zt:List UInt8
def X2 (x:Yf):List D:=[.int .i64 x.Wm,.int .i64 x.f_To,.int .i64 x.Wf,.int .i64 x.Zy,.str x.Zt]
instance:Row Yf:=⟨X2,5,λ_=>rfl⟩
structure Yl where
 Xl:Int
 Yw:Int
 Zo:List UInt8
def Ve (x:Yl):List D:=[.int .i64 x.Xl,.int .u8 x.Yw,.str x.Zo]
instance:Row Yl:=⟨Ve,3,λ_=>rfl⟩
structure Zz where
 Zj:Int
 V9:Int
 Zt:Yl
 Vj:Int
def Yz (x:Zz):List D:=[.int .i64 x.Zj,.int .i64 x.V9,.int .i64 x.Zt.Xl,.int .u8 x.Zt.Yw,.str x.Zt.Zo,.int .i64 x.Vj]
instance:Row Zz:=⟨Yz,6,λ_=>rfl⟩
structure V7 where
 Y1:List Zz
 Y5:List Zz
 Ws:Bool
def Z1b (x:V7):List D:=[slF Yz x.Y1,slF Yz x.Y5,.bool x.Ws]
instance:Row V7:=⟨Z1b,3,λ_=>rfl⟩
structure Yi where
 Q4:Int
 Xa:V7
def Xb (x:Yi):List D:=[.int .i64 x.Q4,slF Yz x.Xa.Y1,slF Yz x.Xa.Y5,.bool x.Xa.Ws]
instance:Row Yi:=⟨Xb,4,λ_=>rfl⟩
structure Xp where
 Q4:Int
 U0:Int
def Xt (x:Xp):List D:=[.int .i64 x.Q4,.int .i64 x.U0]
instance:Row Xp:=⟨Xt,2,λ_=>rfl⟩
structure Zx where
 Y5:Int
 Y1:Int
 Y7:List Zg
 Xm:List Yf
 Xd:List Yi
 Xg:List Xp
def Ym (x:Zx):List D:=[.int .i64 x.Y5,.int .i64 x.Y1,slF Y4 x.Y7,slF X2 x.Xm,slF Xb x.Xd,slF Xt x.Xg]
instance:Row Zx:=⟨Ym,6,λ_=>rfl⟩
structure Q6 where
 Ye:Int
 Zo:List UInt8
 Xh:List UInt8
 Ud:Bool
 Qc:Zx
 Wi:List (List UInt8)
def Wb (x:Q6):List D:=[.int .i64 x.Ye,.str x.Zo,.str x.Xh,.bool x.Ud,.int .i64 x.Qc.Y5,.int .i64 x.Qc.Y1,slF Y4 x.Qc.Y7,slF X2 x.Qc.Xm,slF Xb x.Qc.Xd,slF Xt x.Qc.Xg,slF Xw x.Wi]
instance:Row Q6:=⟨Wb,11,λ_=>rfl⟩
structure Yj where
 Ye:Int
 Zo:List UInt8
 Ys:List UInt8
 Yc:List (List UInt8)
 Yn:List Qm
 Yo:List Q6
 Ul:List UInt8
def Qb (x:Yj):List D:=[.int .i64 x.Ye,.str x.Zo,.str x.Ys,slF Xw x.Yc,slF Wk x.Yn,slF Wb x.Yo,.str x.Ul]
instance:Row Yj:=⟨Qb,7,λ_=>rfl⟩
structure Xj where
 Xn:Int
 Xo:Yj
 Ys:Int
 Yc:List Int
 Jg:Int
 L9:Int
def Xf (x:Xj):List D:=[.int .i64 x.Xn,.int .i64 x.Xo.Ye,.str x.Xo.Zo,.str x.Xo.Ys,slF Xw x.Xo.Yc,slF Wk x.Xo.Yn,slF Wb x.Xo.Yo,.str x.Xo.Ul,.int .i64 x.Ys,slF Z5 x.Yc,.int .i64 x.Jg,.int .i64 x.L9]
instance:Row Xj:=⟨Xf,12,λ_=>rfl⟩
structure Vk where
 L8:List UInt8
 f_To:Int
def Uq (x:Vk):List D:=[.str x.L8,.int .i64 x.f_To]
instance:Row Vk:=⟨Uq,2,λ_=>rfl⟩
structure Vl where
 Zo:List UInt8
 Ql:List UInt8
def Uu (x:Vl):List D:=[.str x.Zo,.str x.Ql]
instance:Row Vl:=⟨Uu,2,λ_=>rfl⟩
structure Yk where
 V8:List Vk
 Qw:List Vl
def Yx (x:Yk):List D:=[slF Uq x.V8,slF Uu x.Qw]
instance:Row Yk:=⟨Yx,2,λ_=>rfl⟩
structure Q2 where
 Xn:Int
 Zo:List UInt8
 Zy:Int
def Q8 (x:Q2):List D:=[.int .i64 x.Xn,.str x.Zo,.int .i64 x.Zy]
instance:Row Q2:=⟨Q8,3,λ_=>rfl⟩
structure Vb where
 Zo:List UInt8
 f_A:Int
 f_B:Int
def Qh (x:Vb):List D:=[.str x.Zo,.int .i64 x.f_A,.int .i64 x.f_B]
instance:Row Vb:=⟨Qh,3,λ_=>rfl⟩
structure Zq where
 X4:List Yk
 Y6:List Xj
 Yr:List Q2
 Q3:List Vb
def Yq (x:Zq):List D:=[slF Yx x.X4,slF Xf x.Y6,slF Q8 x.Yr,slF Qh x.Q3]
instance:Row Zq:=⟨Yq,4,λ_=>rfl⟩
structure Za where
 Qi:Int
 f_S:List UInt8
 f_N:Int
 f_A:Int
 f_B:Int
def Zv (x:Za):List D:=[.int .i64 x.Qi,.str x.f_S,.int .i64 x.f_N,.int .i64 x.f_A,.int .i64 x.f_B]
instance:Row Za:=⟨Zv,5,λ_=>rfl⟩
structure V3 where
 Zy:Int
 Q4:Int
def Ml (x:V3):List D:=[.int .i64 x.Zy,.int .i64 x.Q4]
instance:Row V3:=⟨Ml,2,λ_=>rfl⟩
structure Yt where
 Ye:Int
 Zo:Int
 Xh:Int
 Xv:List Vd
def X3 (x:Yt):List D:=[.int .i64 x.Ye,.int .i64 x.Zo,.int .i64 x.Xh,slF Qq x.Xv]
instance:Row Yt:=⟨X3,4,λ_=>rfl⟩
structure X6 where
 Qo:List Za
 Ye:Int
 U2:Int
 Ys:Int
 Yc:List Int
 Yn:List Yt
 Yo:List Yt
 Xv:List Vd
def Qv (x:X6):List D:=[slF Zv x.Qo,.int .i64 x.Ye,.int .i64 x.U2,.int .i64 x.Ys,slF Z5 x.Yc,slF X3 x.Yn,slF X3 x.Yo,slF Qq x.Xv]
instance:Row X6:=⟨Qv,8,λ_=>rfl⟩
structure Qn where
 Qg:Int
 Jc:Int
 Qt:List Zf
def Xz (x:Qn):List D:=[.int .i64 x.Qg,.int .i64 x.Jc,slF Y8 x.Qt]
instance:Row Qn:=⟨Xz,3,λ_=>rfl⟩
structure Vf where
 Yy:List UInt8
 Xi:Int
def Qj (x:Vf):List D:=[.str x.Yy,.int .i64 x.Xi]
instance:Row Vf:=⟨Qj,2,λ_=>rfl⟩
structure Q5 where
 Xl:Int
 Yw:Int
 Zy:Int
def L1 (x:Q5):List D:=[.int .i64 x.Xl,.int .u8 x.Yw,.int .i64 x.Zy]
instance:Row Q5:=⟨L1,3,λ_=>rfl⟩
structure Zm where
 Zj:Int
 Zt:Q5
 Zw:List Zf
 Yy:List UInt8
 Xs:Int
 Xe:Int
 Xk:List Int
def Ya (x:Zm):List D:=[.int .i64 x.Zj,.int .i64 x.Zt.Xl,.int .u8 x.Zt.Yw,.int .i64 x.Zt.Zy,slF Y8 x.Zw,.str x.Yy,.int .i64 x.Xs,.int .i64 x.Xe,slF Z5 x.Xk]
instance:Row Zm:=⟨Ya,9,λ_=>rfl⟩
structure Xu where
 Qg:Int
 V2:Int
 Xe:Int
 Yu:List Qd
 Xi:Int
 Vn:Int
 Qr:Zf
def X9 (x:Xu):List D:=[.int .i64 x.Qg,.int .i64 x.V2,.int .i64 x.Xe,slF Vg x.Yu,.int .i64 x.Xi,.int .i64 x.Vn,.int .i64 x.Qr.Zj,.int .i64 x.Qr.f_N]
instance:Row Xu:=⟨X9,8,λ_=>rfl⟩
structure Z6 where
 Y0:Zq
 Qy:Int
 Z7:List Zm
 Xc:List Qn
 X0:List Vf
 Y9:List Xu
 Qp:List (List UInt8)
def Zr (x:Z6):List D:=[slF Yx x.Y0.X4,slF Xf x.Y0.Y6,slF Q8 x.Y0.Yr,slF Qh x.Y0.Q3,.int .i64 x.Qy,slF Ya x.Z7,slF Xz x.Xc,slF Qj x.X0,slF X9 x.Y9,slF Xw x.Qp]
instance:Row Z6:=⟨Zr,10,λ_=>rfl⟩
structure Va where
 Z03:List Yl
 Qr:Yl
def Zak (x:Va):List D:=[slF Ve x.Z03,.int .i64 x.Qr.Xl,.int .u8 x.Qr.Yw,.str x.Qr.Zo]
instance:Row Va:=⟨Zak,4,λ_=>rfl⟩
structure X5 where
 f_S:List UInt8
 f_At:Int
 Wt:Bool
def Z21 (x:X5):List D:=[.str x.f_S,.int .i64 x.f_At,.bool x.Wt]
instance:Row X5:=⟨Z21,3,λ_=>rfl⟩
structure Wn where
 f_C:Zx
 Ql:List UInt8
 Zp0:List Int
def Mf (x:Wn):List D:=[.int .i64 x.f_C.Y5,.int .i64 x.f_C.Y1,slF Y4 x.f_C.Y7,slF X2 x.f_C.Xm,slF Xb x.f_C.Xd,slF Xt x.f_C.Xg,.str x.Ql,slF Z5 x.Zp0]
instance:Row Wn:=⟨Mf,8,λ_=>rfl⟩
structure Qx where
 f_F:X6
 Z51:List Zx
 Z5b:List (List Int)
 Z2b:List Vr
def Mz (x:Qx):List D:=[slF Zv x.f_F.Qo,.int .i64 x.f_F.Ye,.int .i64 x.f_F.U2,.int .i64 x.f_F.Ys,slF Z5 x.f_F.Yc,slF X3 x.f_F.Yn,slF X3 x.f_F.Yo,slF Qq x.f_F.Xv,slF Ym x.Z51,.sl false (x.Z5b.map (rSl Z5)),slF Vv x.Z2b]
instance:Row Qx:=⟨Mz,11,λ_=>rfl⟩
structure Yh where
 f_P:List Za
 f_E:Int
def Wd (x:Yh):List D:=[slF Zv x.f_P,.int .i64 x.f_E]
instance:Row Yh:=⟨Wd,2,λ_=>rfl⟩
def Z36 (x y:Q5):Bool:=((x.Xl==y.Xl)&&((x.Yw==y.Yw)&&((x.Zy==y.Zy)&&true)))
def eqq_50 : Prop := prog.stoodInHeld 50 = false ∧ ("Dim" ≠ "_" ∧ True ∧ ("Base" ≠ "_" ∧ True ∧ ("Class" ≠ "_" ∧ True ∧ True)))
theorem Zop:eqq_50:=⟨by kernel_rfl,⟨by decide,trivial,⟨by decide,trivial,⟨by decide,trivial,trivial⟩⟩⟩⟩
theorem Zor:prog.eqGuardType prog.depth 50=false:=by kernel_rfl
def Jh (x y:Zf):Bool:=((x.Zj==y.Zj)&&((x.f_N==y.f_N)&&true))
def eqq_58 : Prop := prog.stoodInHeld 58 = false ∧ ("Kind" ≠ "_" ∧ True ∧ ("N" ≠ "_" ∧ True ∧ True))
theorem Z30:eqq_58:=⟨by kernel_rfl,⟨by decide,trivial,⟨by decide,trivial,trivial⟩⟩⟩
theorem Z37:prog.eqGuardType prog.depth 58=false:=by kernel_rfl
def Znr (x y:Vf):Bool:=((x.Yy==y.Yy)&&((x.Xi==y.Xi)&&true))
def eqq_81 : Prop := prog.stoodInHeld 81 = false ∧ ("String" ≠ "_" ∧ True ∧ ("Object" ≠ "_" ∧ True ∧ True))
theorem eqp_81:eqq_81:=⟨by kernel_rfl,⟨by decide,trivial,⟨by decide,trivial,trivial⟩⟩⟩
theorem eqg_81:prog.eqGuardType prog.depth 81=false:=by kernel_rfl
def Zk0 (x y:Q2):Bool:=((x.Xn==y.Xn)&&((x.Zo==y.Zo)&&((x.Zy==y.Zy)&&true)))
def eqq_93 : Prop := prog.stoodInHeld 93 = false ∧ ("Loader" ≠ "_" ∧ True ∧ ("Name" ≠ "_" ∧ True ∧ ("Class" ≠ "_" ∧ True ∧ True)))
theorem eqp_93:eqq_93:=⟨by kernel_rfl,⟨by decide,trivial,⟨by decide,trivial,⟨by decide,trivial,trivial⟩⟩⟩⟩
theorem eqg_93:prog.eqGuardType prog.depth 93=false:=by kernel_rfl
def Zp1 (x y:Vb):Bool:=((x.Zo==y.Zo)&&((x.f_A==y.f_A)&&((x.f_B==y.f_B)&&true)))
def eqq_106 : Prop := prog.stoodInHeld 106 = false ∧ ("Name" ≠ "_" ∧ True ∧ ("A" ≠ "_" ∧ True ∧ ("B" ≠ "_" ∧ True ∧ True)))
theorem eqp_106:eqq_106:=⟨by kernel_rfl,⟨by decide,trivial,⟨by decide,trivial,⟨by decide,trivial,trivial⟩⟩⟩⟩
theorem eqg_106:prog.eqGuardType prog.depth 106=false:=by kernel_rfl
def Zly (x y:Qm):Bool:=((x.Ye==y.Ye)&&((x.Zo==y.Zo)&&((x.Xh==y.Xh)&&((x.Vy==y.Vy)&&((x.f_N==y.f_N)&&((x.f_S==y.f_S)&&true))))))
def eqq_119 : Prop := prog.stoodInHeld 119 = false ∧ ("Flags" ≠ "_" ∧ True ∧ ("Name" ≠ "_" ∧ True ∧ ("Desc" ≠ "_" ∧ True ∧ ("Const" ≠ "_" ∧ True ∧ ("N" ≠ "_" ∧ True ∧ ("S" ≠ "_" ∧ True ∧ True))))))
theorem eqp_119:eqq_119:=⟨by kernel_rfl,⟨by decide,trivial,⟨by decide,trivial,⟨by decide,trivial,⟨by decide,trivial,⟨by decide,trivial,⟨by decide,trivial,trivial⟩⟩⟩⟩⟩⟩⟩
theorem eqg_119:prog.eqGuardType prog.depth 119=false:=by kernel_rfl
def Zm6 (x y:Vk):Bool:=((x.L8==y.L8)&&((x.f_To==y.f_To)&&true))
def eqq_133 : Prop := prog.stoodInHeld 133 = false ∧ ("Prefix" ≠ "_" ∧ True ∧ ("To" ≠ "_" ∧ True ∧ True))
theorem eqp_133:eqq_133:=⟨by kernel_rfl,⟨by decide,trivial,⟨by decide,trivial,trivial⟩⟩⟩
theorem eqg_133:prog.eqGuardType prog.depth 133=false:=by kernel_rfl
def Zm9 (x y:Vl):Bool:=((x.Zo==y.Zo)&&((x.Ql==y.Ql)&&true))
def eqq_135 : Prop := prog.stoodInHeld 135 = false ∧ ("Name" ≠ "_" ∧ True ∧ ("Bytes" ≠ "_" ∧ True ∧ True))
theorem eqp_135:eqq_135:=⟨by kernel_rfl,⟨by decide,trivial,⟨by decide,trivial,trivial⟩⟩⟩
theorem eqg_135:prog.eqGuardType prog.depth 135=false:=by kernel_rfl
def Zhb (x y:Yl):Bool:=((x.Xl==y.Xl)&&((x.Yw==y.Yw)&&((x.Zo==y.Zo)&&true)))
def Zqf : Prop := prog.stoodInHeld 173 = false ∧ ("Dim" ≠ "_" ∧ True ∧ ("Base" ≠ "_" ∧ True ∧ ("Name" ≠ "_" ∧ True ∧ True)))
theorem Zwj:Zqf:=⟨by kernel_rfl,⟨by decide,trivial,⟨by decide,trivial,⟨by decide,trivial,trivial⟩⟩⟩⟩
theorem eqg_173:prog.eqGuardType prog.depth 173=false:=by kernel_rfl
def Z3q (x y:Xy):Bool:=((x.Zy==y.Zy)&&((x.Zo==y.Zo)&&((x.Xh==y.Xh)&&true)))
def eqq_180 : Prop := prog.stoodInHeld 180 = false ∧ ("Class" ≠ "_" ∧ True ∧ ("Name" ≠ "_" ∧ True ∧ ("Desc" ≠ "_" ∧ True ∧ True)))
theorem Zp5:eqq_180:=⟨by kernel_rfl,⟨by decide,trivial,⟨by decide,trivial,⟨by decide,trivial,trivial⟩⟩⟩⟩
theorem Zmu:prog.eqGuardType prog.depth 180=false:=by kernel_rfl
def Zkh (x y:Yf):Bool:=((x.Wm==y.Wm)&&((x.f_To==y.f_To)&&((x.Wf==y.Wf)&&((x.Zy==y.Zy)&&((x.Zt==y.Zt)&&true)))))
def eqq_184 : Prop := prog.stoodInHeld 184 = false ∧ ("From" ≠ "_" ∧ True ∧ ("To" ≠ "_" ∧ True ∧ ("Target" ≠ "_" ∧ True ∧ ("Class" ≠ "_" ∧ True ∧ ("Type" ≠ "_" ∧ True ∧ True)))))
theorem eqp_184:eqq_184:=⟨by kernel_rfl,⟨by decide,trivial,⟨by decide,trivial,⟨by decide,trivial,⟨by decide,trivial,⟨by decide,trivial,trivial⟩⟩⟩⟩⟩⟩
theorem eqg_184:prog.eqGuardType prog.depth 184=false:=by kernel_rfl
def Zot (x y:Xp):Bool:=((x.Q4==y.Q4)&&((x.U0==y.U0)&&true))
def eqq_186 : Prop := prog.stoodInHeld 186 = false ∧ ("Index" ≠ "_" ∧ True ∧ ("Line" ≠ "_" ∧ True ∧ True))
theorem eqp_186:eqq_186:=⟨by kernel_rfl,⟨by decide,trivial,⟨by decide,trivial,trivial⟩⟩⟩
theorem eqg_186:prog.eqGuardType prog.depth 186=false:=by kernel_rfl
def Zl8 (x y:Zz):Bool:=((x.Zj==y.Zj)&&((x.V9==y.V9)&&((Zhb x.Zt y.Zt)&&((x.Vj==y.Vj)&&true))))
def eqq_234 : Prop := prog.stoodInHeld 234 = false ∧ ("Kind" ≠ "_" ∧ True ∧ ("NewIndex" ≠ "_" ∧ True ∧ ("Type" ≠ "_" ∧ Zqf ∧ ("PoolIndex" ≠ "_" ∧ True ∧ True))))
theorem eqp_234:eqq_234:=⟨by kernel_rfl,⟨by decide,trivial,⟨by decide,trivial,⟨by decide,Zwj,⟨by decide,trivial,trivial⟩⟩⟩⟩⟩
theorem eqg_234:prog.eqGuardType prog.depth 234=false:=by kernel_rfl
def Zrs (x y:Za):Bool:=((x.Qi==y.Qi)&&((x.f_S==y.f_S)&&((x.f_N==y.f_N)&&((x.f_A==y.f_A)&&((x.f_B==y.f_B)&&true)))))
def eqq_239 : Prop := prog.stoodInHeld 239 = false ∧ ("Tag" ≠ "_" ∧ True ∧ ("S" ≠ "_" ∧ True ∧ ("N" ≠ "_" ∧ True ∧ ("A" ≠ "_" ∧ True ∧ ("B" ≠ "_" ∧ True ∧ True)))))
theorem eqp_239:eqq_239:=⟨by kernel_rfl,⟨by decide,trivial,⟨by decide,trivial,⟨by decide,trivial,⟨by decide,trivial,⟨by decide,trivial,trivial⟩⟩⟩⟩⟩⟩
theorem eqg_239:prog.eqGuardType prog.depth 239=false:=by kernel_rfl
def R111 (a:Bool):D:= .bool a
def Zfh (a:Int):Option (Bool):= if decide (a≥97) then if decide (a≤122) then some true else if decide (a≥65) then if decide (a≤90) then some true else if a==95 then some true else some (a==36) else if a==95 then some true else some (a==36) else if decide (a≥65) then if decide (a≤90) then some true else if a==95 then some true else some (a==36) else if a==95 then some true else some (a==36)
theorem w111 {l r} (h:Zfh l=some r):Zi prog 111 [d8 l] (R111 r):= cs f111<|go [1] []<|po<|pr 3 []<|sp h (λb h=>pr 4 (gC b 3 2 [(5,py b)])<|sp h (λa h=>pr 16 (gA a 7 3 [(12,gs0 a),(13,py a)])<|Zn h) λa h=> pr 3 (gC a 7 3 [])<|sp h (λc h=>pr 5 (gC c 10 2 [(12,gw a (py c)),(13,pn a)])<|sp h (λd h=>pr 8 (gA d 15 2 [(17,py d)])<|Zn h) λd h=> pr 4 (gC d 15 2 [(17,pn d)])<|sp h (λe h=>pr 4 (gA e 19 2 [(21,py e)])<|Zn h) λe h=> pr 4 (gC e 19 2 [(21,pn e)])<|Zn h) λc h=> pr 9 (gB c 10 2 [(12,gw a (pn c)),(13,pn a)])<|sp h (λf h=>pr 4 (gA f 19 2 [(21,py f)])<|Zn h) λf h=> pr 4 (gC f 19 2 [(21,pn f)])<|Zn h) λb h=> pr 7 (gB b 3 2 [(5,pn b)])<|sp h (λg h=>pr 5 (gC g 10 2 [(12,py g)])<|sp h (λi h=>pr 8 (gA i 15 2 [(17,py i)])<|Zn h) λi h=> pr 4 (gC i 15 2 [(17,pn i)])<|sp h (λj h=>pr 4 (gA j 19 2 [(21,py j)])<|Zn h) λj h=> pr 4 (gC j 19 2 [(21,pn j)])<|Zn h) λg h=> pr 9 (gB g 10 2 [(12,pn g)])<|sp h (λk h=>pr 4 (gA k 19 2 [(21,py k)])<|Zn h) λk h=> pr 4 (gC k 19 2 [(21,pn k)])<|Zn h
def R91 (a:Bool):D:= .bool a
def Zgr (a:List UInt8) (t0:Int):Option (Ctl (Int) (Unit⊕Bool)):= if decide (t0<(a.length:Int)) then (Vx a t0).bind λb=> (Zfh b).bind λc=> if !c then if t0==0 then some (.done (.inr false)) else (Vx a t0).bind λd=> if decide (d<48) then some (.done (.inr false)) else (Vx a t0).bind λe=> if decide (e>57) then some (.done (.inr false)) else (some (wrap .i64 (t0+1))).bind λf=> some (.next f) else (some (wrap .i64 (t0+1))).bind λg=> some (.next g) else some (.done (.inl (())))
def Z4j (a:List UInt8):Option (Bool):= (Z8 (Zgr a) Zb 0).bind λb=> match b with | .inl q0=>(some (decide ((a.length:Int)>0))) | .inr c=>(some c)
def Y18 (a:List UInt8):Int→SL:= λt0=>⟨34,[(0,.str a),(3,dI t0)],[]⟩
def J91x1 (a:List UInt8):JT (Unit⊕Bool):= ju (je 0 λq0:Unit=>⟨34,[(0,.str a)],[]⟩) (jr prog f91 R91)
theorem wl91x1 {d t0 r Γ} (h:(Zgr d) t0=some r):A prog Γ (lpC f91 21) [] (Rd (Y18 d) (J91x1 d) r) ((Y18 d) t0).s:= Z2 <| br h (λe h=>go [4] []<|po<|bd h λp f h=>bd h λq g h=>pr 6 [(2,ib f),(3,k (w111 g))]<|sp h (λa h=>pr 3 (gC a 6 3 [])<|sp h (λb h=>pr 12 (gA b 9 4 [(13,gw a (py b)),(14,gw a g0),(19,gw a g0),(20,py a)])<|Z9<|bT rfl<|Z2<|dn h (i2 iR)) λb h=> bd h λt i h=>pr 6 (gC b 9 2 [(11,gw b (ib i)),(12,gw b g0),(13,gw a (pn b)),(14,gw a g0)])<|sp h (λc h=>pr 6 (gA c 15 4 [(19,gw a (py c)),(20,py a)])<|Z9<|bT rfl<|Z2<|dn h (i2 iR)) λc h=> bd h λu j h=>pr 6 (gC c 15 2 [(17,gw c (ib j)),(18,gw c g0),(19,gw a (pn c)),(20,py a)])<|Z9<|br h (λl h=>Z2<|dn h (i2 iR)) λl h=> bd h λv m h=>Z0 3 [(1,n m)]<|nx h) λa h=> pr 15 (gB a 6 3 (gB a 13 2 [(19,gs1 a),(20,pn a)]))<|Z9<|bF rfl<|bd h λw o h=>Z0 3 [(1,n o)]<|nx h) λe h=> Z2<|dn h (i1 iE)
theorem w91 {a r} (h:Z4j a=some r):Zi prog 91 [.str a] (R91 r):= cs f91<|Z2<|bd h λb c h=>lp c wl91x1<|match b,h with | .inl q0,h=>j1<|(qe<|Xq h) | .inr d,h=>j2<|(qr h)
def R66 (a:Bool):D:= .bool a
def Zic (a:List UInt8) (t0:Int×Int):Option (Ctl (Int×Int) (Int⊕Bool)):= if decide (t0.2<(a.length:Int)) then (Vx a t0.2).bind λb=> if b==47 then (sub a t0.1 t0.2).bind λc=> (Z4j c).bind λd=> if !d then some (.done (.inr false)) else (some (wrap .i64 (t0.2+1))).bind λe=> (some (wrap .i64 (t0.2+1))).bind λf=> some (.next (e,f)) else (some (wrap .i64 (t0.2+1))).bind λg=> some (.next (t0.1,g)) else some (.done (.inl (t0.1)))
def Z2w (a:List UInt8):Option (Bool):= if decide ((a.length:Int)>64) then some false else (Z8 (Zic a) Zb (0,0)).bind λc=> match c with | .inl q0=>((sub a q0 (a.length:Int)).bind λd=> (Z4j d).bind λb=> some b) | .inr e=>(some e)
def Zve (a:List UInt8):(Int×Int)→SL:= λt0=>⟨30,[(0,.str a),(3,dI t0.1),(4,dI t0.2)],[]⟩
def J66x1 (a:List UInt8):JT (Int⊕Bool):= ju (je 0 λq0:Int=>⟨30,[(0,.str a),(3,dI q0)],[]⟩) (jr prog f66 R66)
theorem wl66x1 {a t0 r Γ} (h:(Zic a) t0=some r):A prog Γ (lpC f66 87) [] (Rd (Zve a) (J66x1 a) r) ((Zve a) t0).s:= Z2<|br h (λb h=>bd h λm c h=>Z0 7 [(2,ib c)]<|br h (λd h=>bd h λo e h=>bd h λp f h=>Z0 8 [(3,ss e),(4,k (w91 f))]<|br h (λg h=>Z2<|dn h (i2 iR)) λg h=> bd h λq i h=>bd h λt j h=>go [] [rg 10 [(1,n i)],rg 6 [(1,n j)]]<|nx h) λd h=> bd h λu l h=>Z0 6 [(1,n l)]<|nx h) λb h=> Z2<|dn h (i1 iE)
theorem w66 {c r} (h:Z2w c=some r):Zi prog 66 [.str c] (R66 r):= cs f66<|Z2<|br h (λd h=>Z3 h) λd h=> Z2<|bd h λe f h=>lp f wl66x1<|match e,h with | .inl q0,h=>j1<|(qe<|bd h λi a h=>bd h λg b h=>goN [] [rg 11 [(2,ss a),(3,k (w91 b))]]<|rt h) | .inr j,h=>j2<|(qr h)
def R94 (a:Bool):D:= .bool a
def Z1v (b a:List UInt8):Option (Bool):= if decide ((a.length:Int)≤(b.length:Int)) then (sub b 0 (a.length:Int)).bind λc=> some (c==a) else some false
theorem w94 {b c r} (h:Z1v b c=some r):Zi prog 94 [.str b,.str c] (R94 r):= cs f94<|sp h (λa h=>bd h λe d h=>Z0 1 [(4,kb a),(9,ss d)]<|rt h) λa h=> Z0 1 [(4,kb a)]<|rt h
def R89 (a:Int):D:= .int .i64 a
def Zg1 (a:Yk) (c t0:Int):Option (Ctl (Int) (Unit⊕Int)):= if decide (t0<(a.Qw.length:Int)) then (Z4 a.Qw t0).bind λb=> (Z2w b.Zo).bind λd=> if !d then some (.done (.inr 12)) else if decide (c>0) then (Z1v b.Zo [108,97,110,103,47]).bind λe=> if e then some (.done (.inr 12)) else (some (wrap .i64 (t0+1))).bind λf=> some (.next f) else (some (wrap .i64 (t0+1))).bind λg=> some (.next g) else some (.done (.inl (())))
def Zex (a:Yk) (b:Int):Option (Int):= (Z8 (Zg1 a b) Zb 0).bind λc=> match c with | .inl q0=>(some 0) | .inr d=>(some d)
def Zu3 (a:Yk) (b:Int):Int→SL:= λt0=>⟨31,[(1,dI b),(2,.ptr (Yx a)),(5,dI t0)],[]⟩
def J89x1:JT (Unit⊕Int):= ju (je 0 λq0:Unit=>⟨31,[],[]⟩) (jr prog f89 R89)
theorem wl89x1 {c d t0 r Γ} (h:(Zg1 c d) t0=some r):A prog Γ (lpC f89 21) [] (Rd (Zu3 c d) J89x1 r) ((Zu3 c d) t0).s:= Z0 2 [(3,ln c.Qw)]<|br h (λe h=>bd h λo f h=>go [5] [rg 4 [(3,ix f)]]<|po<|bd h λp g h=>pr 4 [(1,k (w66 g))]<|sp h (λa h=>pr 7 (gA a 4 3 [(9,gs0 a),(10,py a)])<|Z9<|bT rfl<|Z2<|dn h (i2 iR)) λa h=> pr 3 (gC a 4 3 [])<|sp h (λb h=>bd h λq i h=>pr 4 [(7,gw b g0),(8,gw b (k (w94 i))),(9,gw a (py b)),(10,pn a)]<|Z9<|br h (λj h=>Z2<|dn h (i2 iR)) λj h=> bd h λt l h=>Z0 3 [(1,n l)]<|nx h) λb h=> pr 4 (gB b 7 2 [(9,gw a (pn b)),(10,pn a)])<|Z9<|bF rfl<|bd h λu m h=>Z0 3 [(1,n m)]<|nx h) λe h=> Z2<|dn h (i1 iE)
theorem w89 {a b r} (h:Zex a b=some r):Zi prog 89 [.agg (Yx a),dI b] (R89 r):= cs f89<|Z0 0 [(0,bo)]<|bd h λc d h=>lp d wl89x1<|match c,h with | .inl q0,h=>j1<|(qe<|Xq h) | .inr e,h=>j2<|(qr h)
def R90 (a:Bool):D:= .bool a
def Zee (t0:Int) (a:Yk) (t2:Int):Option (Ctl (Int) (Unit⊕Bool)):= if decide (t2<t0) then (Z4 a.Qw t0).bind λb=> (Z4 a.Qw t2).bind λc=> if b.Zo==c.Zo then some (.done (.inr true)) else (some (wrap .i64 (t2+1))).bind λd=> some (.next d) else some (.done (.inl (())))
def Zi0 (a:Yk) (t0:Int):Option (Ctl (Int) (Unit⊕Bool)):= if decide (t0<(a.Qw.length:Int)) then (Z8 (Zee t0 a) Zb 0).bind λq3=> match q3 with | .inl d=>((some (wrap .i64 (t0+1))).bind λb=> some (.next b)) | .inr c=>(some (.done (.inr c))) else some (.done (.inl (())))
def Zcg (a:Yk):Option (Bool):= (Z8 (Zi0 a) Zb 0).bind λq5=> match q5 with | .inl q4=>(some false) | .inr b=>(some b)
def Zqa (t0:Int) (a:Yk):Int→SL:= λt2=>⟨30,[(1,.ptr (Yx a)),(3,dI t0),(4,dI t2)],[]⟩
def J90x2 (t0:Int) (a:Yk):JT (Unit⊕Bool):= ju (je 2 λb:Unit=>⟨30,[(1,.ptr (Yx a)),(3,dI t0)],[]⟩) (jr prog f90 R90)
theorem wl90x2 {t0 a t2 r Γ} (h:(Zee t0 a) t2=some r):A prog Γ (lpC f90 1317) [] (Rd (Zqa t0 a) (J90x2 t0 a) r) ((Zqa t0 a) t2).s:= Z2<|br h (λb h=>bd h λg c h=>bd h λi d h=>Z0 7 [(3,ix c),(9,ix d)]<|br h (λe h=>Z2<|dn h (i2 iR)) λe h=> bd h λj f h=>Z0 6 [(1,n f)]<|nx h) λb h=> Z2<|dn h (i1 iE)
def Zta (a:Yk):Int→SL:= λt0=>⟨30,[(1,.ptr (Yx a)),(3,dI t0)],[]⟩
def J90x1:JT (Unit⊕Bool):= ju (je 0 λq4:Unit=>⟨30,[],[]⟩) (jr prog f90 R90)
theorem wl90x1 {a t0 r Γ} (h:(Zi0 a) t0=some r):A prog Γ (lpC f90 21) [] (Rd (Zta a) J90x1 r) ((Zta a) t0).s:= Z0 2 [(3,ln a.Qw)]<|br h (λb h=>Z2<|bd h λq3 c h=>lp c wl90x2<|match q3,h with | .inl e,h=>j1<|(qe<|bd h λf d h=>goN [] [rg 3 [(1,n d)]]<|nx h) | .inr g,h=>j2<|(ql h λ_ _ p=>⟨(iS p).1,i2 ((iS p).2)⟩)) λb h=> Z2<|dn h (i1 iE)
theorem w90 {a r} (h:Zcg a=some r):Zi prog 90 [.agg (Yx a)] (R90 r):= cs f90<|Z0 0 [(0,bo)]<|bd h λq5 b h=>lp b wl90x1<|match q5,h with | .inl q4,h=>j1<|(qe<|Xq h) | .inr c,h=>j2<|(qr h)
def R65 (a:Int):D:= .int .i64 a
def Zhq (a:List Yk) (t0:Int):Option (Ctl (Int) (Unit⊕Int)):= if decide (t0<(a.length:Int)) then (Z4 a t0).bind λb=> if decide ((b.V8.length:Int)>8) then some (.done (.inr 5)) else (Z4 a t0).bind λc=> if decide ((c.Qw.length:Int)>64) then some (.done (.inr 5)) else (some (wrap .i64 (t0+1))).bind λd=> some (.next d) else some (.done (.inl (())))
def Zgw (t1:Int) (a:List Yk) (t3:Int):Option (Ctl (Int) (Unit⊕Int)):= (Z4 a t1).bind λb=> if decide (t3<(b.V8.length:Int)) then (Z4 a t1).bind λc=> (Z4 c.V8 t3).bind λd=> if decide (d.f_To<0) then some (.done (.inr 2)) else (Z4 a t1).bind λe=> (Z4 e.V8 t3).bind λf=> if decide (f.f_To≥t1) then some (.done (.inr 2)) else (some (wrap .i64 (t3+1))).bind λg=> some (.next g) else some (.done (.inl (())))
def Zhs (b:List Yk) (t1:Int):Option (Ctl (Int) (Unit⊕Int)):= if decide (t1<(b.length:Int)) then (Z8 (Zgw t1 b) Zb 0).bind λq5=> match q5 with | .inl q4=>((some (wrap .i64 (t1+1))).bind λa=> some (.next a)) | .inr c=>(some (.done (.inr c))) else some (.done (.inl (())))
def Zfv (d:List Yk) (t4:Int):Option (Ctl (Int) (Unit⊕Int)):= if decide (t4<(d.length:Int)) then (Z4 d t4).bind λb=> (Zex b t4).bind λa=> if a !=0 then some (.done (.inr a)) else (some (wrap .i64 (t4+1))).bind λc=> some (.next c) else some (.done (.inl (())))
def Ze4 (e:List Yk) (a:Int):Option (Ctl (Int) (Unit⊕Int)):= if decide (a<(e.length:Int)) then (Z4 e a).bind λb=> (Zcg b).bind λc=> if c then some (.done (.inr 6)) else (some (wrap .i64 (a+1))).bind λd=> some (.next d) else some (.done (.inl (())))
def j65x1 (a:List Yk):Option (Int):= (Z8 (Zhq a) Zb 0).bind λc=> match c with | .inl q0=>((Z8 (Zhs a) Zb 0).bind λd=> match d with | .inl k=>((Z8 (Zfv a) Zb 0).bind λe=> match e with | .inl l=>((Z8 (Ze4 a) Zb 0).bind λb=> match b with | .inl f=>(some 0) | .inr g=>(some g)) | .inr h=>(some h)) | .inr i=>(some i)) | .inr j=>(some j)
def Zfs (a:List Yk):Option (Int):= if (a.length:Int)==0 then some 5 else if decide ((a.length:Int)>8) then some 5 else (j65x1 a)
def Ztk (a:List Yk):Int→SL:= λt0=>⟨104,[(0,slF Yx a),(3,dI t0)],[]⟩
def J65x1 (a:List Yk):JT (Unit⊕Int):= ju (je 0 λq0:Unit=>⟨104,[(0,slF Yx a)],[]⟩) (jr prog f65 R65)
theorem wl65x1 {a t0 r Γ} (h:(Zhq a) t0=some r):A prog Γ (lpC f65 43) [] (Rd (Ztk a) (J65x1 a) r) ((Ztk a) t0).s:= Z0 4 [(2,ln a)]<|br h (λe h=>bd h λc d h=>sp h (λb h=>Z0 6 [(2,ix d),(5,ln c.V8),(6,kb b)]<|bT rfl<|Z2<|dn h (i2 iR)) λb h=> bd h λf g h=>Z0 6 [(2,ix d),(5,ln c.V8),(6,kb b),(10,ix g),(13,ln f.Qw)]<|br h (λi h=>Z2<|dn h (i2 iR)) λi h=> bd h λk j h=>Z0 5 [(1,n j)]<|nx h) λe h=> Z2<|dn h (i1 iE)
def Zyi (t1:Int) (a:List Yk):Int→SL:= λt3=>⟨104,[(0,slF Yx a),(4,dI t1),(5,dI t3)],[]⟩
def J65x3 (t1:Int) (a:List Yk):JT (Unit⊕Int):= ju (je 4 λq4:Unit=>⟨104,[(0,slF Yx a),(4,dI t1)],[]⟩) (jr prog f65 R65)
theorem wl65x3 {t1 d t3 r Γ} (h:(Zgw t1 d) t3=some r):A prog Γ (lpC f65 5271) [] (Rd (Zyi t1 d) (J65x3 t1 d) r) ((Zyi t1 d) t3).s:= bd h λe f h=>Z0 12 [(3,ix f),(6,ln e.V8)]<|br h (λg h=>bd h λm b h=>bd h λo c h=>sp h (λa h=>Z0 14 [(2,ix b),(6,ix c),(9,kb a)]<|bT rfl<|Z2<|dn h (i2 iR)) λa h=> bd h λp i h=>bd h λq j h=>Z0 14 [(2,ix b),(6,ix c),(9,kb a),(13,ix i),(17,ix j)]<|br h (λk h=>Z2<|dn h (i2 iR)) λk h=> bd h λt l h=>Z0 13 [(1,n l)]<|nx h) λg h=> Z2<|dn h (i1 iE)
def Zws (a:List Yk):Int→SL:= λt1=>⟨104,[(0,slF Yx a),(4,dI t1)],[]⟩
def J65x2 (a:List Yk):JT (Unit⊕Int):= ju (je 2 λb:Unit=>⟨104,[(0,slF Yx a)],[]⟩) (jr prog f65 R65)
theorem wl65x2 {a t1 r Γ} (h:(Zhs a) t1=some r):A prog Γ (lpC f65 87) [] (Rd (Zws a) (J65x2 a) r) ((Zws a) t1).s:= Z0 9 [(2,ln a)]<|br h (λb h=>Z2<|bd h λq5 c h=>lp c wl65x3<|match q5,h with | .inl q4,h=>j1<|(qe<|bd h λe d h=>goN [] [rg 10 [(1,n d)]]<|nx h) | .inr f,h=>j2<|(ql h λ_ _ p=>⟨(iS p).1,i2 ((iS p).2)⟩)) λb h=> Z2<|dn h (i1 iE)
def Zr3 (a:List Yk):Int→SL:= λt4=>⟨104,[(0,slF Yx a),(6,dI t4)],[]⟩
def J65x4 (a:List Yk):JT (Unit⊕Int):= ju (je 6 λb:Unit=>⟨104,[(0,slF Yx a)],[]⟩) (jr prog f65 R65)
theorem wl65x4 {a t4 r Γ} (h:(Zfv a) t4=some r):A prog Γ (lpC f65 175) [] (Rd (Zr3 a) (J65x4 a) r) ((Zr3 a) t4).s:= Z0 17 [(2,ln a)]<|br h (λb h=>bd h λg c h=>bd h λi d h=>Z0 19 [(2,ix c),(5,k (w89 d))]<|br h (λe h=>Z2<|dn h (i2 iR)) λe h=> bd h λj f h=>Z0 18 [(1,n f)]<|nx h) λb h=> Z2<|dn h (i1 iE)
def Zzf (a:List Yk):Int→SL:= λb=>⟨104,[(0,slF Yx a),(8,dI b)],[]⟩
def J65x5:JT (Unit⊕Int):= ju (je 8 λa:Unit=>⟨104,[],[]⟩) (jr prog f65 R65)
theorem wl65x5 {a g r Γ} (h:(Ze4 a) g=some r):A prog Γ (lpC f65 351) [] (Rd (Zzf a) J65x5 r) ((Zzf a) g).s:= Z0 23 [(2,ln a)]<|br h (λb h=>bd h λi c h=>bd h λj d h=>Z0 25 [(2,ix c),(4,k (w90 d))]<|br h (λe h=>Z2<|dn h (i2 iR)) λe h=> bd h λl f h=>Z0 24 [(1,n f)]<|nx h) λb h=> Z2<|dn h (i1 iE)
theorem wj65x1 {e r Γ} (h:(j65x1 e)=some r):JnE prog f65 Γ (R65 r) 19 ⟨104,[(0,slF Yx e)],[]⟩:= so<|Z2<|bd h λf g h=>lp g wl65x1<|match f,h with | .inl q0,h=>j1<|(qe<|goN [] []<|bd h λi a h=>lp a wl65x2<|match i,h with | .inl l,h=>j1<|(qe<|goN [] []<|bd h λj b h=>lp b wl65x4<|match j,h with | .inl m,h=>j1<|(qe<|goN [] []<|bd h λc d h=>lp d wl65x5<|match c,h with | .inl k,h=>j1<|(qe<|Xq h) | .inr n,h=>j2<|(qr h)) | .inr o,h=>j2<|(qr h)) | .inr p,h=>j2<|(qr h)) | .inr q,h=>j2<|(qr h)
theorem w65 {a r} (h:Zfs a=some r):Zi prog 65 [slF Yx a] (R65 r):= cs f65<|sp h (λb h=>Z0 1 [(1,ln a),(2,kb b)]<|bT rfl<|Z3 h) λb h=> Z0 1 [(1,ln a),(2,kb b),(5,ln a)]<|br h (λc h=>Z3 h) λc h=> go [3] []<|jn (wj65x1 h)
def R67 (a:Bool):D:= .bool a
def Zek (a:Q2) (b:Zq) (c t0:Int):Option (Ctl (Int) (Unit⊕Bool)):= if decide (t0<c) then (Z4 b.Yr t0).bind λd=> if d.Xn==a.Xn then (Z4 b.Yr t0).bind λe=> if e.Zo==a.Zo then some (.done (.inr false)) else (some (wrap .i64 (t0+1))).bind λf=> some (.next f) else (some (wrap .i64 (t0+1))).bind λg=> some (.next g) else some (.done (.inl (())))
def j67x1 (a:Q2) (b:Zq) (c:Int):Option (Bool):= (Z8 (Zek a b c) Zb 0).bind λd=> match d with | .inl q0=>(some true) | .inr e=>(some e)
def Zhk (b:Zq) (c:Int):Option (Bool):= (Z4 b.Yr c).bind λa=> if decide (a.Xn<0) then some false else if decide (a.Xn≥(b.X4.length:Int)) then some false else if decide (a.Zy<0) then some false else if decide (a.Zy≥(b.Y6.length:Int)) then some false else (Z4 b.Y6 a.Zy).bind λd=> if !(d.Xo.Zo==a.Zo) then some false else (j67x1 a b c)
def Zx4 (a:Q2) (b:Zq) (c:Int):Int→SL:= λt0=>⟨74,[(1,dI c),(2,.ptr (Yq b)),(5,.lptr 5 0 0),(6,dI t0)],[(5,Zc 3 [Q8 a])]⟩
def J67x1:JT (Unit⊕Bool):= ju (je 0 λq0:Unit=>⟨74,[],[]⟩) (jr prog f67 R67)
theorem wl67x1 {a b c t0 r Γ} (h:(Zek a b c) t0=some r):A prog Γ (lpC f67 87) [] (Rd (Zx4 a b c) J67x1 r) ((Zx4 a b c) t0).s:= Z2<|br h (λg h=>bd h λl f h=>sp h (λd h=>bd h λm i h=>Z0 7 [(3,ix f),(8,kb d),(13,ix i)]<|br h (λe h=>Z2<|dn h (i2 iR)) λe h=> bd h λo j h=>Z0 6 [(1,n j)]<|nx h) λd h=> Z0 7 [(3,ix f),(8,kb d)]<|bF rfl<|bd h λp k h=>Z0 6 [(1,n k)]<|nx h) λg h=> Z2<|dn h (i1 iE)
theorem wj67x1 {a b c r Γ} (h:(j67x1 a b c)=some r):JnE prog f67 Γ (R67 r) 39 ⟨74,[(1,dI c),(2,.ptr (Yq b)),(5,.lptr 5 0 0)],[(5,Zc 3 [Q8 a])]⟩:= so<|Z2<|bd h λd e h=>lp e wl67x1<|match d,h with | .inl q0,h=>j1<|(qe<|Xq h) | .inr f,h=>j2<|(qr h)
theorem w67 {a g r} (h:Zhk a g=some r):Zi prog 67 [.agg (Yq a),dI g] (R67 r):= cs f67<|bd h λk c h=>sp h (λb h=>go [] [rg 0 [(0,bo)],rg 1 [(3,ix c)],rg 2 [(2,kb b)]]<|bT rfl<|Z3 h) λb h=> sp h (λd h=>go [] [rg 0 [(0,bo)],rg 1 [(3,ix c)],rg 2 [(2,kb b),(8,ln a.X4),(9,kb d)]]<|bT rfl<|Z3 h) λd h=> sp h (λe h=>go [] [rg 0 [(0,bo)],rg 1 [(3,ix c)],rg 2 [(2,kb b),(8,ln a.X4),(9,kb d),(14,kb e)]]<|bT rfl<|Z3 h) λe h=> sp h (λf h=>go [] [rg 0 [(0,bo)],rg 1 [(3,ix c)],rg 2 [(2,kb b),(8,ln a.X4),(9,kb d),(14,kb e),(21,ln a.Y6),(22,kb f)]]<|bT rfl<|Z3 h) λf h=> bd h λl i h=>go [] [rg 0 [(0,bo)],rg 1 [(3,ix c)],rg 2 [(2,kb b),(8,ln a.X4),(9,kb d),(14,kb e),(21,ln a.Y6),(22,kb f),(29,ix i)]]<|br h (λj h=>Z3 h) λj h=> go [4] []<|jn (wj67x1 h)
def R92 (a:(List Bool)):D:=(slF Zu a)
def Zim (t2:Int×(List Bool)) (b:Vb):Option (Ctl (Int×(List Bool)) (List Bool)):= (X7 b.f_A t2.2.length).bind λa=> (t2.2[a]?).bind λe=> (X7 b.f_B (t2.2.set a true).length).bind λc=> ((t2.2.set a true)[c]?).bind λf=> (some (wrap .i64 (t2.1+1))).bind λd=> some (.next (d,((t2.2.set a true).set c true)))
def Zfr (h:Zq) (i:List UInt8) (t2:Int×(List Bool)):Option (Ctl (Int×(List Bool)) (List Bool)):= if decide (t2.1<(h.Q3.length:Int)) then (Z4 h.Q3 t2.1).bind λa=> if a.Zo==i then (X7 a.f_A t2.2.length).bind λb=> (t2.2[b]?).bind λc=> if c then (Zim t2 a) else (X7 a.f_B t2.2.length).bind λd=> (t2.2[d]?).bind λe=> if e then (Zim t2 a) else (some (wrap .i64 (t2.1+1))).bind λf=> some (.next (f,t2.2)) else (some (wrap .i64 (t2.1+1))).bind λg=> some (.next (g,t2.2)) else some (.done (t2.2))
def Zbf (b:Zq) (c:List UInt8) (t0:Int×(List Bool)):Option (Ctl (Int×(List Bool)) (List Bool)):= if decide (t0.1<(b.X4.length:Int)) then (Z8 (Zfr b c) Zb (0,t0.2)).bind λd=> (some (wrap .i64 (t0.1+1))).bind λa=> some (.next (a,d)) else some (.done (t0.2))
def Ze3 (a:Zq) (c:List UInt8) (d:Int):Option (List Bool):= (W5 1 (a.X4.length:Int) (a.X4.length:Int)).bind λe=> (X7 d (List.replicate (a.X4.length:Int).toNat false).length).bind λb=> ((List.replicate (a.X4.length:Int).toNat false)[b]?).bind λf=> (Z8 (Zbf a c) Zb (0,((List.replicate (a.X4.length:Int).toNat false).set b true))).bind λq4=> some q4
def Zm2 (t0:Int×(List Bool)) (a:Zq) (b:List UInt8):(Int×(List Bool))→SL:= λt2=>⟨64,[(1,.str b),(3,.ptr (Yq a)),(7,.lsl 7 0 ((t2.2.map Zu).length)),(8,dI t0.1),(9,dI t2.1)],[(7,Zd 1 (t2.2.map Zu))]⟩
def J92x2 (t0:Int×(List Bool)) (b:Zq) (c:List UInt8):JT (List Bool):= je 2 λa:(List Bool)=>⟨64,[(1,.str c),(3,.ptr (Yq b)),(7,.lsl 7 0 ((a.map Zu).length)),(8,dI t0.1)],[(7,Zd 1 (a.map Zu))]⟩
theorem Zvn (t0:Int×(List Bool)) (c:Zq) (d:List UInt8) {t2 b r Γ} (h:(Zim t2 b)=some r):Jn prog f92 Γ (Rd (Zm2 t0 c d) (J92x2 t0 c d) r) 1254551 ⟨64,[(1,.str d),(3,.ptr (Yq c)),(7,.lsl 7 0 ((t2.2.map Zu).length)),(8,dI t0.1),(9,dI t2.1),(10,.lptr 10 0 0)],[(7,Zd 1 (t2.2.map Zu)),(10,Zc 3 [Qh b])]⟩:= so<|bd h λa f h=>bd h λl g h=>go [12] [rg 11 [(3,ia 7 f),(4,st g 0 [.bool true] true)]]<|nm (congrArg (λnn:Nat=>(⟨64,[(1,.str d),(3,.ptr (Yq c)),(7,.lsl 7 0 nn),(8,dI t0.1),(9,dI t2.1),(10,.lptr 10 0 0)],[(7,Zd 1 ((t2.2.set a true).map Zu)),(10,Zc 3 [Qh b])]⟩:SL)) (by simp only[List.length_map,List.length_set]:(t2.2.map Zu).length=((t2.2.set a true).map Zu).length))<|so<|bd h λe i h=>bd h λm j h=>go [8] [rg 12 [(3,ia 7 i),(4,st j 0 [.bool true] true)]]<|nm (congrArg (λnn:Nat=>(⟨64,[(1,.str d),(3,.ptr (Yq c)),(7,.lsl 7 0 nn),(8,dI t0.1),(9,dI t2.1)],[(7,Zd 1 (((t2.2.set a true).set e true).map Zu))]⟩:SL)) (by simp only[List.length_map,List.length_set]:((t2.2.set a true).map Zu).length=(((t2.2.set a true).set e true).map Zu).length))<|so<|bd h λo k h=>Z0 8 [(1,n k)]<|nx h
theorem wl92x2 (t0:Int×(List Bool)) {c d t2 r Γ} (h:(Zfr c d) t2=some r):A prog Γ (lpC f92 5271) [] (Rd (Zm2 t0 c d) (J92x2 t0 c d) r) ((Zm2 t0 c d) t2).s:= Z0 7 [(3,ln c.Q3)]<|br h (λe h=>bd h λp f h=>go [10] [rg 9 [(3,ix f)]]<|po<|pr 5 []<|sp h (λa h=>bd h λq g h=>bd h λt i h=>pr 6 (gC a 5 3 [(8,gw a (ia 7 g)),(9,gw a (lb i)),(10,gw a g0)])<|sp h (λb h=>pr 7 (gA b 11 5 [(16,gw a (py b)),(17,py a)])<|Z9<|bT rfl<|go [11] []<|jn ((Zvn t0 c d) h)) λb h=> bd h λu j h=>bd h λv k h=>pr 7 (gC b 11 3 [(14,gw b (ia 7 j)),(15,gw b (lb k)),(16,gw a (pn b)),(17,py a)])<|Z9<|br h (λl h=>go [11] []<|jn ((Zvn t0 c d) h)) λl h=> bd h λw m h=>Z0 8 [(1,n m)]<|nx h) λa h=> pr 13 (gB a 5 6 [(16,gs1 a),(17,pn a)])<|Z9<|bF rfl<|bd h λx o h=>Z0 8 [(1,n o)]<|nx h) λe h=> Z2<|dn h (iE)
def Zvw (a:Zq) (b:List UInt8):(Int×(List Bool))→SL:= λt0=>⟨64,[(1,.str b),(3,.ptr (Yq a)),(7,.lsl 7 0 ((t0.2.map Zu).length)),(8,dI t0.1)],[(7,Zd 1 (t0.2.map Zu))]⟩
def J92x1:JT (List Bool):= je 0 λq4:(List Bool)=>⟨64,[(7,.lsl 7 0 ((q4.map Zu).length))],[(7,Zd 1 (q4.map Zu))]⟩
theorem wl92x1 {a b t0 r Γ} (h:(Zbf a b) t0=some r):A prog Γ (lpC f92 87) [] (Rd (Zvw a b) J92x1 r) ((Zvw a b) t0).s:= Z0 4 [(3,ln a.X4)]<|br h (λe h=>Z2<|bd h λg c h=>lp c (wl92x2 t0)<|qe<|bd h λf d h=>goN [] [rg 5 [(1,n d)]]<|nx h) λe h=> Z2<|dn h (iE)
theorem w92 {a b d r} (h:Ze3 a b d=some r):Zi prog 92 [.agg (Yq a),.str b,dI d] (R92 r):= cs f92<|bd h λj f h=>bd h λe g h=>bd h λk i h=>go [3] [rg 0 [(0,bo)],rg 1 [(2,ln a.X4),(3,mk false f)],rg 2 [(2,ia 14 g),(3,st i 0 [.bool true] true)]]<|nm (congrArg (λnn:Nat=>(⟨64,[(1,.str b),(3,.ptr (Yq a)),(7,.lsl 14 0 nn)],[(14,Zd 1 (((List.replicate (a.X4.length:Int).toNat false).set e true).map Zu))]⟩:SL)) (by simp only[List.length_map,List.length_set]:((List.replicate (a.X4.length:Int).toNat false).map Zu).length=(((List.replicate (a.X4.length:Int).toNat false).set e true).map Zu).length))<|so<|Z2<|bd h λq4 c h=>lp (ps:=[(14,7)]) c wl92x1<|qe<|goN [] []<|rtB h (rw_ q4) (a2 (rpI q4) trivial) (by simp only[rwE] <;> kernel_rfl)
def R68 (a:Bool):D:= .bool a
def Zgn (b:Q2) (c:(List Bool)) (d:Zq) (e t0:Int):Option (Ctl (Int) (Unit⊕Bool)):= if decide (t0<e) then (Z4 d.Yr t0).bind λa=> if a.Zo==b.Zo then (Z4 c a.Xn).bind λf=> if f then if a.Zy !=b.Zy then some (.done (.inr false)) else (some (wrap .i64 (t0+1))).bind λg=> some (.next g) else (some (wrap .i64 (t0+1))).bind λh=> some (.next h) else (some (wrap .i64 (t0+1))).bind λi=> some (.next i) else some (.done (.inl (())))
def Zia (a:Zq) (c:Int):Option (Bool):= (Z4 a.Yr c).bind λb=> (Ze3 a b.Zo b.Xn).bind λd=> (Z8 (Zgn b d a c) Zb 0).bind λe=> match e with | .inl q0=>(some true) | .inr f=>(some f)
def Zqk (a:Q2) (b:(List Bool)) (c:Zq) (d:Int):Int→SL:= λt0=>⟨49,[(1,dI d),(2,.ptr (Yq c)),(5,.lptr 5 0 0),(6,slF Zu b),(7,dI t0)],[(5,Zc 3 [Q8 a])]⟩
def J68x1:JT (Unit⊕Bool):= ju (je 0 λq0:Unit=>⟨49,[],[]⟩) (jr prog f68 R68)
theorem wl68x1 {c d e f t0 r Γ} (h:(Zgn c d e f) t0=some r):A prog Γ (lpC f68 87) [] (Rd (Zqk c d e f) J68x1 r) ((Zqk c d e f) t0).s:= Z2 <| br h (λg h=>bd h λp i h=>go [7] [rg 6 [(3,ix i)]]<|po<|pr 6 []<|sp h (λa h=>bd h λq j h=>pr 7 (gC a 6 3 [(9,gw a (ix j)),(10,gw a g0),(11,py a)])<|sp h (λb h=>pr 6 (gC b 13 5 [(18,py b)])<|Z9<|br h (λk h=>Z2<|dn h (i2 iR)) λk h=> bd h λt l h=>Z0 5 [(1,n l)]<|nx h) λb h=> pr 6 (gB b 13 5 [(18,pn b)])<|Z9<|bF rfl<|bd h λu m h=>Z0 5 [(1,n m)]<|nx h) λa h=> pr 13 (gB a 6 5 [(11,pn a)])<|Z9<|bF rfl<|bd h λv o h=>Z0 5 [(1,n o)]<|nx h) λg h=> Z2<|dn h (i1 iE)
theorem w68 {a b r} (h:Zia a b=some r):Zi prog 68 [.agg (Yq a),dI b] (R68 r):= cs f68<|bd h λg c h=>bd h λi d h=>go [] [rg 0 [(0,bo)],rg 1 [(3,ix c)],rg 2 [(5,k (w92 d))]]<|bd h λe f h=>lp f wl68x1<|match e,h with | .inl q0,h=>j1<|(qe<|Xq h) | .inr j,h=>j2<|(qr h)
def R131 (a:Bool):D:= .bool a
def Ze6 (a:List Zz) (t0:Int):Option (Ctl (Int) (Unit⊕Bool)):= if decide (t0<(a.length:Int)) then (Z4 a t0).bind λb=> if b.Vj !=0 then some (.done (.inr false)) else (some (wrap .i64 (t0+1))).bind λc=> some (.next c) else some (.done (.inl (())))
def Zan (a:List Zz):Option (Bool):= (Z8 (Ze6 a) Zb 0).bind λb=> match b with | .inl q0=>(some true) | .inr c=>(some c)
def Ztx (a:List Zz):Int→SL:= λt0=>⟨16,[(0,slF Yz a),(3,dI t0)],[]⟩
def J131x1:JT (Unit⊕Bool):= ju (je 0 λq0:Unit=>⟨16,[],[]⟩) (jr prog f131 R131)
theorem wl131x1 {a t0 r Γ} (h:(Ze6 a) t0=some r):A prog Γ (lpC f131 21) [] (Rd (Ztx a) J131x1 r) ((Ztx a) t0).s:= Z0 2 [(2,ln a)]<|br h (λb h=>bd h λf c h=>Z0 4 [(2,ix c)]<|br h (λd h=>Z2<|dn h (i2 iR)) λd h=> bd h λg e h=>Z0 3 [(1,n e)]<|nx h) λb h=> Z2<|dn h (i1 iE)
theorem w131 {a r} (h:Zan a=some r):Zi prog 131 [slF Yz a] (R131 r):= cs f131<|Z2<|bd h λb c h=>lp c wl131x1<|match b,h with | .inl q0,h=>j1<|(qe<|Xq h) | .inr d,h=>j2<|(qr h)
def R122 (a:Bool):D:= .bool a
def Zgv (t0 : Int) (a:Qm) (b:Bool):Option (Ctl (Int) (Unit⊕Bool)):= if !b then if a.Vy !=8 then if a.Vy !=0 then some (.done (.inr false)) else if a.f_N !=0 then some (.done (.inr false)) else if !(a.f_S==([]:List UInt8)) then some (.done (.inr false)) else (some (wrap .i64 (t0+1))).bind λc=> some (.next c) else if a.f_N !=0 then some (.done (.inr false)) else if !(a.f_S==([]:List UInt8)) then (some (wrap .i64 (t0+1))).bind λd=> some (.next d) else (some (wrap .i64 (t0+1))).bind λe=> some (.next e) else if a.f_N !=0 then if !(a.f_S==([]:List UInt8)) then if a.Vy !=8 then some (.done (.inr false)) else (some (wrap .i64 (t0+1))).bind λf=> some (.next f) else (some (wrap .i64 (t0+1))).bind λg=> some (.next g) else if !(a.f_S==([]:List UInt8)) then if a.Vy !=8 then some (.done (.inr false)) else (some (wrap .i64 (t0+1))).bind λh=> some (.next h) else (some (wrap .i64 (t0+1))).bind λi=> some (.next i)
def Zbh (b:Yj) (t0:Int):Option (Ctl (Int) (Unit⊕Bool)):= if decide (t0<(b.Yn.length:Int)) then (Z4 b.Yn t0).bind λa=> if a.Vy==3 then (Zgv t0 a) true else (Zgv t0 a) (a.Vy==5) else some (.done (.inl (())))
def Zi7 (a:Q6) (t4:Int):Option (Ctl (Int) (Unit⊕Bool)):= if decide (t4<(a.Qc.Xm.length:Int)) then (Z4 a.Qc.Xm t4).bind λb=> if b.Zy !=0 then some (.done (.inr false)) else (some (wrap .i64 (t4+1))).bind λc=> some (.next c) else some (.done (.inl (())))
def Ziz (a:Q6) (b:Int):Option (Ctl (Int) (Unit⊕Bool)):= if decide (b<(a.Qc.Xd.length:Int)) then (Z4 a.Qc.Xd b).bind λc=> (Zan c.Xa.Y1).bind λd=> if !d then some (.done (.inr false)) else (Z4 a.Qc.Xd b).bind λe=> (Zan e.Xa.Y5).bind λf=> if !f then some (.done (.inr false)) else (some (wrap .i64 (b+1))).bind λg=> some (.next g) else some (.done (.inl (())))
def Zda (t1:Int) (a:Q6):Option (Ctl (Int) (Unit⊕Bool)):= (Z8 (Zi7 a) Zb 0).bind λc=> match c with | .inl g=>((Z8 (Ziz a) Zb 0).bind λd=> match d with | .inl h=>((some (wrap .i64 (t1+1))).bind λb=> some (.next b)) | .inr e=>(some (.done (.inr e)))) | .inr f=>(some (.done (.inr f)))
def Zfp (b:Yj) (t1:Int):Option (Ctl (Int) (Unit⊕Bool)):= if decide (t1<(b.Yo.length:Int)) then (Z4 b.Yo t1).bind λa=> (Z4 b.Yo t1).bind λc=> if !c.Ud then if a.Qc.Y5 !=0 then some (.done (.inr false)) else if a.Qc.Y1 !=0 then some (.done (.inr false)) else (some (wrap .i64 ((a.Qc.Y7.length:Int)+(a.Qc.Xm.length:Int)))).bind λd=> (some (wrap .i64 (d+(a.Qc.Xd.length:Int)))).bind λe=> (some (wrap .i64 (e+(a.Qc.Xg.length:Int)))).bind λf=> if decide (f>0) then some (.done (.inr false)) else (Zda t1 a) else (Zda t1 a) else some (.done (.inl (())))
def Zbv (b:Yj):Option (Bool):= (Z8 (Zbh b) Zb 0).bind λc=> match c with | .inl q0=>((Z8 (Zfp b) Zb 0).bind λa=> match a with | .inl d=>(some true) | .inr e=>(some e)) | .inr f=>(some f)
def Zod (a:Yj):Int→SL:= λt0=>⟨150,[(1,.ptr (Qb a)),(3,dI t0)],[]⟩
def Zzh (a:Yj):JT (Unit⊕Bool):= ju (je 0 λq0:Unit=>⟨150,[(1,.ptr (Qb a))],[]⟩) (jr prog f122 R122)
theorem Zx5 (l:Yj) {t0 p q r Γ} (h:(Zgv t0 p) q=some r):Jn prog f122 Γ (Rd (Zod l) (Zzh l) r) 2853 ⟨150,[(1,.ptr (Qb l)),(3,dI t0),(4,.lptr 4 0 0),(5,.bool q)],[(4,Zc 6 [Wk p])]⟩:= po <| pr 3 []<|sp h (λa h=>pr 5 (gC a 3 3 [(6,py a)])<|sp h (λc h=>pr 5 (gC c 8 3 [(11,py c)])<|sp h (λb h=>pr 18 (gA b 13 4 [(19,gs0 b),(20,py b)])<|Z9<|bT rfl<|Z2<|dn h (i2 iR)) λb h=> pr 4 (gC b 13 4 [])<|sp h (λf h=>pr 14 (gC f 17 2 ((19,gw b (py f))::(20,pn b)::gA a 22 4 [(29,gs0 a),(30,py a)]))<|Z9<|bT rfl<|Z2<|dn h (i2 iR)) λf h=> pr 9 (gB f 17 2 [(19,gw b (pn f)),(20,pn b)])<|sp h (λd h=>pr 5 (gC d 26 2 [(28,gw d (kb c)),(29,py d)])<|Z9<|bT rfl<|Z2<|dn h (i2 iR)) λd h=> pr 5 (gB d 26 3 [(29,pn d)])<|Z9<|bF rfl<|bd h λz s h=>Z0 3 [(1,n s)]<|nx h) λc h=> pr 9 (gB c 8 3 [(11,pn c)])<|sp h (λg h=>pr 14 (gC g 17 2 ((19,py g)::gA a 22 4 [(29,gs0 a),(30,py a)]))<|Z9<|bT rfl<|Z2<|dn h (i2 iR)) λg h=> pr 9 (gB g 17 2 [(19,pn g)])<|sp h (λe h=>pr 5 (gC e 26 2 [(28,gw e (kb c)),(29,py e)])<|Z9<|bF rfl<|bd h λA t h=>Z0 3 [(1,n t)]<|nx h) λe h=> pr 5 (gB e 26 3 [(29,pn e)])<|Z9<|bF rfl<|bd h λB u h=>Z0 3 [(1,n u)]<|nx h) λa h=> pr 14 (gB a 3 3 [(6,pn a)])<|sp h (λi h=>pr 9 (gC i 17 2 ((19,py i)::gC a 22 4 []))<|sp h (λj h=>pr 5 (gC j 26 3 [(29,gw a (py j)),(30,pn a)])<|Z9<|br h (λm h=>Z2<|dn h (i2 iR)) λm h=> bd h λC v h=>Z0 3 [(1,n v)]<|nx h) λj h=> pr 5 (gB j 26 3 [(29,gw a (pn j)),(30,pn a)])<|Z9<|bF rfl<|bd h λD w h=>Z0 3 [(1,n w)]<|nx h) λi h=> pr 9 (gB i 17 2 [(19,pn i)])<|sp h (λk h=>pr 5 (gC k 26 3 [(29,py k)])<|Z9<|br h (λo h=>Z2<|dn h (i2 iR)) λo h=> bd h λE x h=>Z0 3 [(1,n x)]<|nx h) λk h=> pr 5 (gB k 26 3 [(29,pn k)])<|Z9<|bF rfl<|bd h λF y h=>Z0 3 [(1,n y)]<|nx h
theorem wl122x1 {a t0 r Γ} (h:(Zbh a) t0=some r):A prog Γ (lpC f122 21) [] (Rd (Zod a) (Zzh a) r) ((Zod a) t0).s:= Z0 2 [(3,ln a.Yn)]<|br h (λc h=>bd h λe d h=>sp h (λb h=>go [6] [rg 4 [(3,ix d)],rg 5 [(2,kb b)]]<|jn ((Zx5 a) h)) λb h=> go [6] [rg 4 [(3,ix d)],rg 5 [(2,kb b)]]<|jn ((Zx5 a) h)) λc h=> Z2<|dn h (i1 iE)
def Zx2 (t1:Int) (a:Q6) (b:Yj):Int→SL:= λt4=>⟨150,[(1,.ptr (Qb b)),(6,dI t1),(7,.lptr 7 0 0),(8,dI t4)],[(7,Zc 6 [Ym a.Qc])]⟩
def J122x3 (t1:Int) (a:Q6) (b:Yj):JT (Unit⊕Bool):= ju (je 4 λc:Unit=>⟨150,[(1,.ptr (Qb b)),(6,dI t1),(7,.lptr 7 0 0)],[(7,Zc 6 [Ym a.Qc])]⟩) (jr prog f122 R122)
theorem wl122x3 (t1:Int) (b:Yj) {a t4 r Γ} (h:(Zi7 a) t4=some r):A prog Γ (lpC f122 22091) [] (Rd (Zx2 t1 a b) (J122x3 t1 a b) r) ((Zx2 t1 a b) t4).s:= Z0 15 [(3,ln a.Qc.Xm)]<|br h (λc h=>bd h λg d h=>Z0 17 [(3,ix d)]<|br h (λe h=>Z2<|dn h (i2 iR)) λe h=> bd h λi f h=>Z0 16 [(1,n f)]<|nx h) λc h=> Z2<|dn h (i1 iE)
def Zzv (t1:Int) (a:Q6) (b:Yj):Int→SL:= λc=>⟨150,[(1,.ptr (Qb b)),(6,dI t1),(7,.lptr 7 0 0),(9,dI c)],[(7,Zc 6 [Ym a.Qc])]⟩
def J122x4 (t1:Int) (a:Yj):JT (Unit⊕Bool):= ju (je 6 λb:Unit=>⟨150,[(1,.ptr (Qb a)),(6,dI t1)],[]⟩) (jr prog f122 R122)
theorem wl122x4 (t1:Int) (e:Yj) {b m r Γ} (h:(Ziz b) m=some r):A prog Γ (lpC f122 24139) [] (Rd (Zzv t1 b e) (J122x4 t1 e) r) ((Zzv t1 b e) m).s:= Z0 20 [(3,ln b.Qc.Xd)]<|br h (λf h=>bd h λo c h=>bd h λp d h=>sp h (λa h=>go [] [rg 22 ((3,ix c)::(7,k (w131 d))::gA a 10 9 [(19,py a)])]<|bT rfl<|Z2<|dn h (i2 iR)) λa h=> bd h λq g h=>bd h λt i h=>go [] [rg 22 ((3,ix c)::(7,k (w131 d))::gC a 10 3 ((13,gw a (ix g))::gC a 14 3 [(17,gw a (k (w131 i))),(18,gw a g0),(19,pn a)]))]<|br h (λj h=>Z2<|dn h (i2 iR)) λj h=> bd h λu l h=>Z0 21 [(1,n l)]<|nx h) λf h=> Z2<|dn h (i1 iE)
def Zla (a:Yj):Int→SL:= λt1=>⟨150,[(1,.ptr (Qb a)),(6,dI t1)],[]⟩
def Zwu:JT (Unit⊕Bool):= ju (je 2 λa:Unit=>⟨150,[],[]⟩) (jr prog f122 R122)
theorem Zrz (b:Yj) {t1 a r Γ} (h:(Zda t1 a)=some r):Jn prog f122 Γ (Rd (Zla b) Zwu r) 9803 ⟨150,[(1,.ptr (Qb b)),(6,dI t1),(7,.lptr 7 0 0)],[(7,Zc 6 [Ym a.Qc])]⟩:= so<|Z2<|bd h λf c h=>lp c (wl122x3 t1 b)<|match f,h with | .inl j,h=>j1<|(qe<|goN [] []<|bd h λg d h=>lp d (wl122x4 t1 b)<|match g,h with | .inl k,h=>j1<|(qe<|bd h λi e h=>goN [] [rg 10 [(1,n e)]]<|nx h) | .inr l,h=>j2<|(ql h λ_ _ p=>⟨(iS p).1,i2 ((iS p).2)⟩)) | .inr m,h=>j2<|(ql h λ_ _ p=>⟨(iS p).1,i2 ((iS p).2)⟩)
theorem wl122x2 {e t1 r Γ} (h:(Zfp e) t1=some r):A prog Γ (lpC f122 43) [] (Rd (Zla e) Zwu r) ((Zla e) t1).s:= Z0 9 [(3,ln e.Yo)]<|br h (λf h=>bd h λd g h=>go [12] [rg 11 [(3,ix g)]]<|po<|bd h λo i h=>pr 8 [(3,ix i)]<|sp h (λa h=>pr 4 (gC a 8 4 [])<|sp h (λc h=>pr 23 (gA c 12 3 [(15,gw a (py c)),(16,gw a g0),(33,gw a g0),(34,py a)])<|Z9<|bT rfl<|Z2<|dn h (i2 iR)) λc h=> pr 5 (gC c 12 3 [(15,gw a (pn c)),(16,gw a g0)])<|sp h (λb h=>pr 18 (gA b 17 16 [(33,gw a (py b)),(34,py a)])<|Z9<|bT rfl<|Z2<|dn h (i2 iR)) λb h=> bd h λp j h=>bd h λq k h=>bd h λt l h=>pr 18 (gC b 17 2 ((19,gw b (ln d.Qc.Y7))::gC b 20 2 ((22,gw b (ln d.Qc.Xm))::(23,gw b (n j))::gC b 24 2 ((26,gw b (ln d.Qc.Xd))::(27,gw b (n k))::gC b 28 2 [(30,gw b (ln d.Qc.Xg)),(31,gw b (n l)),(32,gw b g0),(33,gw a (pn b)),(34,py a)]))))<|Z9<|br h (λm h=>Z2<|dn h (i2 iR)) λm h=> go [14] []<|jn ((Zrz e) h)) λa h=> pr 27 (gB a 8 4 (gB a 15 2 [(33,gs1 a),(34,pn a)]))<|Z9<|bF rfl<|go [14] []<|jn ((Zrz e) h)) λf h=> Z2<|dn h (i1 iE)
theorem w122 {c r} (h:Zbv c=some r):Zi prog 122 [.agg (Qb c)] (R122 r):= cs f122<|Z0 0 [(0,bo)]<|bd h λd e h=>lp e wl122x1<|match d,h with | .inl q0,h=>j1<|(qe<|goN [] []<|bd h λa b h=>lp b wl122x2<|match a,h with | .inl f,h=>j1<|(qe<|Xq h) | .inr g,h=>j2<|(qr h)) | .inr i,h=>j2<|(qr h)
def R155 (a:(List Za)×Int×Int):D:= .tup [slF Zv a.1,.int .i64 a.2.1,.int .i64 a.2.2]
def Zgo (a:List Za) (b:Za) (t0:Int):Option (Ctl (Int) (Unit⊕((List Za)×Int×Int))):= if decide (t0<(a.length:Int)) then (Z4 a t0).bind λc=> if Zrs c b then (some (wrap .i64 (t0+1))).bind λd=> some (.done (.inr (a,d,0))) else (some (wrap .i64 (t0+1))).bind λe=> some (.next e) else some (.done (.inl (())))
def Mx (a:List Za) (b:Za):Option ((List Za)×Int×Int):= (Z8 (Zgo a b) Zb 0).bind λc=> match c with | .inl q0=>(if decide ((a.length:Int)≥1000) then some (a,0,5) else (some (wrap .i64 ((a.length:Int)+1))).bind λd=> (Yp 48 (([]:List Za)++a).length).bind λf=> (Yp 48 ((([]:List Za)++a)++[b]).length).bind λg=> some (((([]:List Za)++a)++[b]),d,0)) | .inr e=>(some e)
def Zqw (a:List Za) (b:Za):Int→SL:= λt0=>⟨36,[(0,slF Zv a),(3,.ptr (Zv b)),(7,dI t0)],[]⟩
def J155x1 (a:List Za) (b:Za):JT (Unit⊕((List Za)×Int×Int)):= ju (je 0 λq0:Unit=>⟨36,[(0,slF Zv a),(3,.ptr (Zv b))],[]⟩) (jr prog f155 R155)
theorem wl155x1 {a b t0 r Γ} (h:(Zgo a b) t0=some r):A prog Γ (lpC f155 21) [] (Rd (Zqw a b) (J155x1 a b) r) ((Zqw a b) t0).s:= Z0 2 [(2,ln a)]<|br h (λc h=>bd h λd e h=>Z0 4 [(2,ix e),(5,qs eqg_239 eqp_239 (Zrs d b))]<|br h (λf h=>bd h λj g h=>Z0 5 [(2,n g)]<|dn h (i2 iR)) λf h=> bd h λk i h=>Z0 3 [(1,n i)]<|nx h) λc h=> Z2<|dn h (i1 iE)
theorem w155 {a b r} (h:Mx a b=some r):Zi prog 155 [slF Zv a,.agg (Zv b)] (R155 r):= cs f155<|Z0 0 [(0,bo)]<|bd h λc d h=>lp d wl155x1<|match c,h with | .inl q0,h=>j1<|(qe<|goN [] [rg 6 [(1,ln a)]]<|br h (λe h=>Z3 h) λe h=> bd h λf g h=>bd h λk i h=>bd h λl j h=>go [] [rgq 8 [(7,ln a),(8,n g),(0,br0 0 5),(4,br0 1 5),(2,an fr0 i),(5,ap j)] [1,3,6,7,8,0,4,2,5,9,10,11] [2,5,1003,1006,1007,1008,2004,1004]]<|rtB h (.tup [rw_ ((([]:List Za)++a)++[b]),dI f,dI 0]) (a2 (rpI ((([]:List Za)++a)++[b])) (a2 trivial (a2 trivial trivial))) (by simp only[rwE] <;> kernel_rfl)) | .inr m,h=>j2<|(qr h)
def R153 (a:(List Za)×Int×Int):D:= .tup [slF Zv a.1,.int .i64 a.2.1,.int .i64 a.2.2]
def Z1t (b:List Za) (c:List UInt8):Option ((List Za)×Int×Int):= (Mx b (Za.mk 1 c 0 0 0)).bind λa=> some (a.1,a.2.1,a.2.2)
theorem w153 {a b r} (h:Z1t a b=some r):Zi prog 153 [slF Zv a,.str b] (R153 r):= cs f153<|bd h λd c h=>Z0 1 [(3,k (w155 c))]<|rt h
def R181 (a:(List Za)×Int×Int):D:= .tup [slF Zv a.1,.int .i64 a.2.1,.int .i64 a.2.2]
def Z90 (c:List Za) (d:Int) (e:List UInt8):Option ((List Za)×Int×Int):= (Z1t c e).bind λa=> if a.2.2 !=0 then some (c,0,a.2.2) else (Mx a.1 (Za.mk d [] 0 a.2.1 0)).bind λb=> if b.2.2 !=0 then some (c,0,b.2.2) else some (b.1,b.2.1,0)
theorem w181 {a b c r} (h:Z90 a b c=some r):Zi prog 181 [slF Zv a,dI b,.str c] (R181 r):= cs f181<|bd h λi d h=>Z0 1 [(2,k (w153 d))]<|br h (λe h=>Z3 h) λe h=> bd h λj f h=>Z0 4 [(4,k (w155 f))]<|br h (λg h=>Z3 h) λg h=> Z3 h
def R152 (a:(List Za)×Int×Int):D:= .tup [slF Zv a.1,.int .i64 a.2.1,.int .i64 a.2.2]
def Z48 (b:List Za) (c:List UInt8):Option ((List Za)×Int×Int):= (Z90 b 7 c).bind λa=> some (a.1,a.2.1,a.2.2)
theorem w152 {a b r} (h:Z48 a b=some r):Zi prog 152 [slF Zv a,.str b] (R152 r):= cs f152<|bd h λd c h=>Z0 1 [(2,k (w181 c))]<|rt h
def B132 (a:Yh×Int):List Blk:=[{ sz:=2,rows:=[Wd a.1],frz:=0,pure:=false,pin:=some 0 }]
def R132 (a:Yh×Int):D:= .int .i64 a.2
def Z27 (a:Yh) (c:List UInt8):Option (Yh×Int):= if a.f_E !=0 then some (a,0) else (Z48 a.f_P c).bind λb=> some ((Yh.mk b.1 b.2.2),b.2.1)
theorem w132 {a c r} (h:Z27 a c=some r):Vu prog 132 [.lptr 0 0 0,.str c] [{ sz:=2,rows:=[Wd a],frz:=0,pure:=false,pin:=some 0 }] (R132 r) (B132 r):= csO f132 (m:=1) (keep:=[true])<|Z2<|br h (λd h=>Z2<|rtO h (dI 0) [{ sz:=2,rows:=[Wd a],frz:=0,pure:=false,pin:=some 0 }] (a2 trivial trivial) rfl) λd h=> bd h λb e h=>Z0 3 [(5,k (w152 e))]<|rtO h (dI b.2.1) [{ sz:=2,rows:=[[slF Zv b.1,dI b.2.2]],frz:=0,pure:=false,pin:=some 0 }] (a2 trivial trivial) rfl
def B133 (a:Yh×Int):List Blk:=[{ sz:=2,rows:=[Wd a.1],frz:=0,pure:=false,pin:=some 0 }]
def R133 (a:Yh×Int):D:= .int .i64 a.2
def Lt (a:Yh) (c:List UInt8):Option (Yh×Int):= if a.f_E !=0 then some (a,0) else (Z1t a.f_P c).bind λb=> some ((Yh.mk b.1 b.2.2),b.2.1)
theorem Mg {a c r} (h:Lt a c=some r):Vu prog 133 [.lptr 0 0 0,.str c] [{ sz:=2,rows:=[Wd a],frz:=0,pure:=false,pin:=some 0 }] (R133 r) (B133 r):= csO f133 (m:=1) (keep:=[true])<|Z2<|br h (λd h=>Z2<|rtO h (dI 0) [{ sz:=2,rows:=[Wd a],frz:=0,pure:=false,pin:=some 0 }] (a2 trivial trivial) rfl) λd h=> bd h λb e h=>Z0 3 [(5,k (w153 e))]<|rtO h (dI b.2.1) [{ sz:=2,rows:=[[slF Zv b.1,dI b.2.2]],frz:=0,pure:=false,pin:=some 0 }] (a2 trivial trivial) rfl
def R154 (a:(List Za)×Int×Int):D:= .tup [slF Zv a.1,.int .i64 a.2.1,.int .i64 a.2.2]
def Z8v (b:List Za) (c:List UInt8):Option ((List Za)×Int×Int):= (Z90 b 8 c).bind λa=> some (a.1,a.2.1,a.2.2)
theorem w154 {a b r} (h:Z8v a b=some r):Zi prog 154 [slF Zv a,.str b] (R154 r):= cs f154<|bd h λd c h=>Z0 1 [(2,k (w181 c))]<|rt h
def B135 (a:Yh×Int):List Blk:=[{ sz:=2,rows:=[Wd a.1],frz:=0,pure:=false,pin:=some 0 }]
def R135 (a:Yh×Int):D:= .int .i64 a.2
def Zhd (p0:List Za) (a b:Int):Option (Yh×Int):= some ((Yh.mk p0 b),a)
def Zg6 (a:Yh) (b:Qm):Option (Yh×Int):= if a.f_E !=0 then some (a,0) else if b.Vy==8 then (Z8v a.f_P b.f_S).bind λc=> Zhd c.1 c.2.1 c.2.2 else (Mx a.f_P (Za.mk b.Vy [] b.f_N 0 0)).bind λd=> Zhd d.1 d.2.1 d.2.2
theorem Zz1 (c:Yh) {p0 a b r Γ} (h:Zhd p0 a b=some r):Jn prog f135 Γ (Z20 prog f135 1 [true] (R135 r) (B135 r)) 47 ⟨54,[(0,.lptr 0 0 0),(5,slF Zv p0),(6,dI a),(7,dI b)],[(0,{ sz:=2,rows:=[Wd c],frz:=0,pure:=false,pin:=some 0 })]⟩:= so<|Z2<|rtO h (dI a) [{ sz:=2,rows:=[[slF Zv p0,dI b]],frz:=0,pure:=false,pin:=some 0 }] (a2 trivial trivial) rfl
theorem w135 {a b r} (h:Zg6 a b=some r):Vu prog 135 [.lptr 0 0 0,.agg (Wk b)] [{ sz:=2,rows:=[Wd a],frz:=0,pure:=false,pin:=some 0 }] (R135 r) (B135 r):= csO f135 (m:=1) (keep:=[true])<|Z0 0 [(0,bo)]<|br h (λc h=>Z2<|rtO h (dI 0) [{ sz:=2,rows:=[Wd a],frz:=0,pure:=false,pin:=some 0 }] (a2 trivial trivial) rfl) λc h=> Z2<|br h (λd h=>bd h λg e h=>go [7] [rg 5 [(6,k (w154 e))]]<|jn ((Zz1 a) h)) λd h=> bd h λi f h=>go [7] [rg 6 [(9,k (w155 f))]]<|jn ((Zz1 a) h)
def R165 (a:Bool):D:= .bool a
def Zjf (a:Int):Option (Bool):= if a==1 then some true else if a==2 then some true else if a==4 then some true else some (a==8)
theorem w165 {d r} (h:Zjf d=some r):Zi prog 165 [dI d] (R165 r):= cs f165<|go [1] []<|po<|pr 3 []<|sp h (λa h=>pr 12 (gA a 3 2 [(5,py a)])<|Zn h) λa h=> pr 4 (gC a 3 2 [(5,pn a)])<|sp h (λb h=>pr 8 (gA b 7 2 [(9,py b)])<|Zn h) λb h=> pr 4 (gC b 7 2 [(9,pn b)])<|sp h (λc h=>pr 4 (gA c 11 2 [(13,py c)])<|Zn h) λc h=> pr 4 (gC c 11 2 [(13,pn c)])<|Zn h
def R140 (a:(List UInt8)×Int):D:= .tup [.str a.1,.int .i64 a.2]
def Zbk (t0:Int×Int×(List Int)):Option (Ctl (Int×Int×(List Int)) (List Int)):= if decide (t0.2.1≥0) then (some (Vm .i64 t0.1 255)).bind λb=> (some (wrap .u8 b)).bind λc=> (X7 t0.2.1 t0.2.2.length).bind λa=> (t0.2.2[a]?).bind λf=> (shrK .i64 t0.1 8).bind λd=> (some (wrap .i64 (t0.2.1 - 1))).bind λe=> some (.next (d,e,(t0.2.2.set a c))) else some (.done (t0.2.2))
def Zag (b a:Int):Option ((List UInt8)×Int):= (W5 1 a a).bind λd=> (some (wrap .i64 (a - 1))).bind λc=> (Z8 Zbk Zb (b,c,(List.replicate a.toNat 0))).bind λq0=> some ((bytesOf q0),0)
def Z16 (b a:Int):Option ((List UInt8)×Int):= (Zjf a).bind λc=> if !c then some ([],1) else if decide (a<8) then (some (wrap .i64 (8*a))).bind λd=> (some (wrap .i64 (d - 1))).bind λe=> (Kw .i64 1 e).bind λf=> (some (wrap .i64 (0 - f))).bind λg=> if decide (b<g) then some ([],8) else (some (wrap .i64 (8*a))).bind λh=> (Kw .i64 1 h).bind λi=> (some (wrap .i64 (i - 1))).bind λj=> if decide (b>j) then some ([],8) else (Zag b a) else (Zag b a)
def Y02:(Int×Int×(List Int))→SL:= λt0=>⟨50,[(6,.lsl 6 0 ((t0.2.2.map rU8).length)),(7,dI t0.1),(8,dI t0.2.1)],[(6,Zd 1 (t0.2.2.map rU8))]⟩
def J140x1:JT (List Int):= je 0 λq0:(List Int)=>⟨50,[(6,.lsl 6 0 ((q0.map rU8).length))],[(6,Zd 1 (q0.map rU8))]⟩
theorem wl140x1 {t0 r Γ} (h:Zbk t0=some r):A prog Γ (lpC f140 351) [] (Rd Y02 J140x1 r) (Y02 t0).s:= Z2<|br h (λj h=>bd h λk c h=>bd h λa d h=>bd h λb e h=>bd h λl f h=>go [11] [rg 10 [(3,n c),(4,n8 d),(5,ia (R:=RU8) 6 e),(6,st (R:=RU8) f 0 [d8 a] a)]]<|nm (congrArg (λnn:Nat=>(⟨50,[(6,.lsl 6 0 nn),(7,dI t0.1),(8,dI t0.2.1)],[(6,Zd 1 ((t0.2.2.set b a).map rU8))]⟩:SL)) (by simp only[List.length_map,List.length_set]:(t0.2.2.map rU8).length=((t0.2.2.set b a).map rU8).length))<|so<|bd h λm g h=>bd h λo i h=>go [] [rg 11 [(1,sr g)],rg 9 [(1,n i)]]<|nx h) λj h=> Z2<|dn h (iE)
theorem Zu2 {b c r Γ} (h:(Zag b c)=some r):JnE prog f140 Γ (R140 r) 23 ⟨50,[(0,dI b),(1,dI c)],[]⟩:= so<|bd h λf d h=>bd h λg e h=>go [] [rg 5 [(1,mk (R:=RU8) 0 d)],rg 7 [(1,n e)]]<|bd h λq0 a h=>lp (ps:=[(32,6)]) a wl140x1<|qe<|goN [] [rg 12 [(1,bsB q0)]]<|rt h
theorem w140 {c d r} (h:Z16 c d=some r):Zi prog 140 [dI c,dI d] (R140 r):= cs f140<|bd h λs e h=>Z0 1 [(1,k (w165 e))]<|br h (λf h=>Z3 h) λf h=> go [3] []<|po<|pr 3 []<|sp h (λa h=>bd h λt g h=>bd h λu i h=>bd h λv j h=>bd h λw l h=>pr 8 (gC a 3 2 ((5,gw a (n g))::(6,gw a (n i))::(7,gw a (sl j))::(8,gw a (n l))::gC a 9 2 []))<|sp h (λb h=>pr 8 (gA b 11 6 [(17,gw a (py b)),(18,py a)])<|Z9<|bT rfl<|Z3 h) λb h=> bd h λx m h=>bd h λy o h=>bd h λz p h=>pr 8 (gC b 11 2 [(13,gw b (n m)),(14,gw b (sl o)),(15,gw b (n p)),(16,gw b g0),(17,gw a (pn b)),(18,py a)])<|Z9<|br h (λq h=>Z3 h) λq h=> go [5] []<|jn (Zu2 h)) λa h=> pr 16 (gB a 3 8 [(17,gs1 a),(18,pn a)])<|Z9<|bF rfl<|go [5] []<|jn (Zu2 h)
def R134 (a:(List UInt8)):D:= .str a
def Zc0 (a:Int):Option (List UInt8):= (Z16 a 2).bind λb=> some b.1
theorem w134 {a r} (h:Zc0 a=some r):Zi prog 134 [dI a] (R134 r):= cs f134<|bd h λc b h=>Z0 1 [(1,k (w140 b))]<|rt h
def R213 (a:Bool):D:= .bool a
def Z2j (a:Int):Option (Bool):= if decide (a≥0) then some (decide (a<81)) else some false
theorem w213 {b r} (h:Z2j b=some r):Zi prog 213 [dI b] (R213 r):= cs f213<|sp h (λa h=>Z0 1 [(1,kb a)]<|rt h) λa h=> Z0 1 [(1,kb a)]<|rt h
def R187 (a:Bool):D:= .bool a
def Kx (a b c:Int):Option (Bool):= if decide (a≥b) then some (decide (a≤c)) else some false
theorem w187 {b c d r} (h:Kx b c d=some r):Zi prog 187 [dI b,dI c,dI d] (R187 r):= cs f187<|sp h (λa h=>Z0 1 [(2,kb a)]<|rt h) λa h=> Z0 1 [(2,kb a)]<|rt h
def R185 (a:Int):D:= .int .i64 a
def Zea (a:Int):Option (Int):= (Kx a 36 52).bind λb=> if b then some 3 else (Kx a 4 9).bind λc=> if c then some 4 else if a == 10 then some 5 else if a==53 then some 6 else if a==54 then some 7 else some 0
def Zdv (a:Int):Option (Int):= if a==77 then some 2 else (Zea a)
def M0 (a : Int):Option (Int):= (Z2j a).bind λb=> if !b then some (-1) else if a == 2 then some 1 else if a == 3 then some 2 else (Kx a 59 68).bind λc=> if c then some 2 else if a==76 then some 2 else (Zdv a)
theorem wj185x2 {b r Γ} (h:(Zea b)=some r):JnE prog f185 Γ (R185 r) 1529 ⟨34,[(0,dI b)],[]⟩:= so<|bd h λj c h=>Z0 10 [(1,k (w187 c))]<|br h (λd h=>Z3 h) λd h=> bd h λl e h=>Z0 12 [(1,k (w187 e))]<|br h (λf h=>Z3 h) λf h=> Z2 <| br h (λg h=>Z3 h) λg h=> Z2<|br h (λi h=>Z3 h) λi h=> Z2<|br h (λa h=>Z3 h) λa h=> Z3 h
theorem wj185x1 {a r Γ} (h:(Zdv a)=some r):JnE prog f185 Γ (R185 r) 505 ⟨34,[(0,dI a),(10,.bool (a==77))],[]⟩ (a==77):= br h (λb h=>Z3 h) λb h=> go [10] []<|jn (wj185x2 h)
theorem w185 {a r} (h:M0 a=some r):Zi prog 185 [dI a] (R185 r):= cs f185<|bd h λj e h=>Z0 1 [(1,k (w213 e))]<|br h (λf h=>Z3 h) λf h=> Z2 <| br h (λg h=>Z3 h) λg h=> Z2 <| br h (λb h=>Z2<|bT b<|Z3 h) λb h=> bd h λl i h=>Z0 6 [(1,k (w187 i))]<|br h (λc h=>Z2<|bT c<|Z3 h) λc h=> Z2<|br h (λd h=>Z2<|bT d<|Z3 h) λd h=> Z2<|jn (wj185x1 h)
def R190 (a:Bool):D:= .bool a
def Z7p (b:Zg) (a:Int):Option (Bool):= if b.f_To != 0 then if a !=3 then if a !=6 then if a !=7 then some false else if (b.Yg.length:Int)==0 then if (b.Zs.length:Int)==0 then some true else if a==6 then some true else some (a==7) else if a==7 then if (b.Zs.length:Int)==0 then some true else if a==6 then some true else some true else some false else if (b.Yg.length:Int)==0 then if (b.Zs.length:Int)==0 then some true else if a==6 then some true else some (a==7) else if a==7 then if (b.Zs.length:Int)==0 then some true else if a==6 then some true else some true else some false else if (b.Yg.length:Int)==0 then if (b.Zs.length:Int)==0 then some true else if a==6 then some true else some (a==7) else if a==7 then if (b.Zs.length:Int)==0 then some true else if a==6 then some true else some true else some false else if (b.Yg.length:Int)==0 then if (b.Zs.length:Int)==0 then some true else if a==6 then some true else some (a==7) else if a==7 then if (b.Zs.length:Int)==0 then some true else if a==6 then some true else some true else some false
def Z88 (a:Zg) (b:Int):Option (Bool):= if a.f_B !=0 then if b !=5 then some false else (Z7p a b) else (Z7p a b)
def Zg8 (b:Zg) (a:Int):Option (Bool):= if b.f_A !=0 then if a==0 then some false else if a==3 then some false else if a==7 then some false else (Z88 b a) else (Z88 b a)
def Z5r (a:Zg) (b:Int):Option (Bool):= if !(Z3q a.Yv (Xy.mk [] [] [])) then some false else if !(a.f_S==([]:List UInt8)) then some false else (Zg8 a b)
theorem Y09 {e F r Γ} (h:(Z7p e F)=some r):JnE prog f190 Γ (R190 r) 79 ⟨73,[(1,dI F),(2,.ptr (Y4 e))],[]⟩:= po <| pr 4 [] <| sp h (λC h=>pr 4 (gC C 4 2 [(6,py C)])<|sp h (λD h=>pr 4 (gC D 8 2 [(10,py D)])<|sp h (λk h=>pr 3 (gC k 12 2 [(14,py k)])<|Z9<|br h (λE h=>Z3 h) λE h=> go [9] []<|po<|pr 5 [(2,ln e.Yg)]<|sp h (λl h=>pr 9 (gA l 5 2 [(7,py l),(11,ln e.Zs)])<|sp h (λm h=>pr 9 (gA m 14 2 [(16,py m)])<|Zn h) λm h=> pr 4 (gC m 14 2 [(16,pn m)])<|sp h (λn h=>pr 5 (gA n 18 2 [(20,py n)])<|Zn h) λn h=> pr 5 (gC n 18 2 [(20,pn n)])<|Zn h) λl h=> pr 4 (gC l 5 2 [(7,pn l)])<|sp h (λa h=>pr 5 (gC a 9 2 ((11,gw a (ln e.Zs))::gC a 12 2 []))<|sp h (λo h=>pr 9 (gA o 14 2 [(16,gw a (py o)),(17,gw a g0),(20,gw a g0),(21,py a)])<|Zn h) λo h=> pr 4 (gC o 14 2 [(16,gw a (pn o)),(17,gw a g0)])<|sp h (λf h=>pr 5 (gA f 18 2 [(20,gw a (py f)),(21,py a)])<|Zn h) λf h=> pr 5 [(18,gw f g0),(19,gw f (kb a)),(20,gw a (pn f)),(21,py a)]<|Zn h) λa h=> pr 14 (gB a 9 5 (gB a 16 2 [(20,gs1 a),(21,pn a)]))<|Zn h) λk h=> pr 3 (gB k 12 2 [(14,pn k)])<|Z9<|bF rfl<|go [9] []<|po<|pr 5 [(2,ln e.Yg)]<|sp h (λp h=>pr 9 (gA p 5 2 [(7,py p),(11,ln e.Zs)])<|sp h (λq h=>pr 9 (gA q 14 2 [(16,py q)])<|Zn h) λq h=> pr 4 (gC q 14 2 [(16,pn q)])<|sp h (λs h=>pr 5 (gA s 18 2 [(20,py s)])<|Zn h) λs h=> pr 5 (gC s 18 2 [(20,pn s)])<|Zn h) λp h=> pr 4 (gC p 5 2 [(7,pn p)])<|sp h (λb h=>pr 5 (gC b 9 2 ((11,gw b (ln e.Zs))::gC b 12 2 []))<|sp h (λt h=>pr 9 (gA t 14 2 [(16,gw b (py t)),(17,gw b g0),(20,gw b g0),(21,py b)])<|Zn h) λt h=> pr 4 (gC t 14 2 [(16,gw b (pn t)),(17,gw b g0)])<|sp h (λg h=>pr 5 (gA g 18 2 [(20,gw b (py g)),(21,py b)])<|Zn h) λg h=> pr 5 [(18,gw g g0),(19,gw g (kb b)),(20,gw b (pn g)),(21,py b)]<|Zn h) λb h=> pr 14 (gB b 9 5 (gB b 16 2 [(20,gs1 b),(21,pn b)]))<|Zn h) λD h=> pr 7 (gB D 8 2 [(10,pn D)])<|Z9<|bF rfl<|go [9] []<|po<|pr 5 [(2,ln e.Yg)]<|sp h (λu h=>pr 9 (gA u 5 2 [(7,py u),(11,ln e.Zs)])<|sp h (λv h=>pr 9 (gA v 14 2 [(16,py v)])<|Zn h) λv h=> pr 4 (gC v 14 2 [(16,pn v)])<|sp h (λw h=>pr 5 (gA w 18 2 [(20,py w)])<|Zn h) λw h=> pr 5 (gC w 18 2 [(20,pn w)])<|Zn h) λu h=> pr 4 (gC u 5 2 [(7,pn u)])<|sp h (λc h=>pr 5 (gC c 9 2 ((11,gw c (ln e.Zs))::gC c 12 2 []))<|sp h (λx h=>pr 9 (gA x 14 2 [(16,gw c (py x)),(17,gw c g0),(20,gw c g0),(21,py c)])<|Zn h) λx h=> pr 4 (gC x 14 2 [(16,gw c (pn x)),(17,gw c g0)])<|sp h (λi h=>pr 5 (gA i 18 2 [(20,gw c (py i)),(21,py c)])<|Zn h) λi h=> pr 5 [(18,gw i g0),(19,gw i (kb c)),(20,gw c (pn i)),(21,py c)]<|Zn h) λc h=> pr 14 (gB c 9 5 (gB c 16 2 [(20,gs1 c),(21,pn c)]))<|Zn h) λC h=> pr 11 (gB C 4 2 [(6,pn C)])<|Z9<|bF rfl<|go [9] []<|po<|pr 5 [(2,ln e.Yg)]<|sp h (λy h=>pr 9 (gA y 5 2 [(7,py y),(11,ln e.Zs)])<|sp h (λz h=>pr 9 (gA z 14 2 [(16,py z)])<|Zn h) λz h=> pr 4 (gC z 14 2 [(16,pn z)])<|sp h (λA h=>pr 5 (gA A 18 2 [(20,py A)])<|Zn h) λA h=> pr 5 (gC A 18 2 [(20,pn A)])<|Zn h) λy h=> pr 4 (gC y 5 2 [(7,pn y)])<|sp h (λd h=>pr 5 (gC d 9 2 ((11,gw d (ln e.Zs))::gC d 12 2 []))<|sp h (λB h=>pr 9 (gA B 14 2 [(16,gw d (py B)),(17,gw d g0),(20,gw d g0),(21,py d)])<|Zn h) λB h=> pr 4 (gC B 14 2 [(16,gw d (pn B)),(17,gw d g0)])<|sp h (λj h=>pr 5 (gA j 18 2 [(20,gw d (py j)),(21,py d)])<|Zn h) λj h=> pr 5 [(18,gw j g0),(19,gw j (kb d)),(20,gw d (pn j)),(21,py d)]<|Zn h) λd h=> pr 14 (gB d 9 5 (gB d 16 2 [(20,gs1 d),(21,pn d)]))<|Zn h
theorem Y08 {b c r Γ} (h:(Z88 b c)=some r):JnE prog f190 Γ (R190 r) 39 ⟨73,[(1,dI c),(2,.ptr (Y4 b))],[]⟩:= so<|sp h (λa h=>Z0 5 [(2,kb a)]<|br h (λd h=>Z3 h) λd h=> go [7] []<|jn (Y09 h)) λa h=> Z0 5 [(2,kb a)]<|bF rfl<|go [7] []<|jn (Y09 h)
theorem wj190x1 {d e r Γ} (h:(Zg8 d e)=some r):JnE prog f190 Γ (R190 r) 19 ⟨73,[(1,dI e),(2,.ptr (Y4 d))],[]⟩:= po <| pr 4 []<|sp h (λa h=>pr 3 (gC a 4 3 [])<|sp h (λb h=>pr 8 (gA b 7 2 [(9,gw a (py b)),(10,gw a g0),(13,gw a g0),(14,py a)])<|Z9<|bT rfl<|Z3 h) λb h=> pr 4 (gC b 7 2 [(9,gw a (pn b)),(10,gw a g0)])<|sp h (λc h=>pr 4 (gA c 11 2 [(13,gw a (py c)),(14,py a)])<|Z9<|bT rfl<|Z3 h) λc h=> pr 4 (gC c 11 2 [(13,gw a (pn c)),(14,py a)])<|Z9<|br h (λf h=>Z3 h) λf h=> go [5] []<|jn (Y08 h)) λa h=> pr 11 (gB a 4 3 (gB a 9 2 [(13,gs1 a),(14,pn a)]))<|Z9<|bF rfl<|go [5] []<|jn (Y08 h)
theorem w190 {b c r} (h:Z5r b c=some r):Zi prog 190 [.agg (Y4 b),dI c] (R190 r):= cs f190<|sp h (λa h=>go [] [rg 0 [(0,bo)],rg 1 ((3,qs Zmu Zp5 (!(Z3q b.Yv (Xy.mk [] [] []))))::gA a 5 3 [(8,py a)])]<|bT rfl<|Z3 h) λa h=> go [] [rg 0 [(0,bo)],rg 1 ((3,qs Zmu Zp5 (!(Z3q b.Yv (Xy.mk [] [] []))))::gC a 5 3 [(8,pn a)])]<|br h (λd h=>Z3 h) λd h=> go [3] []<|jn (wj190x1 h)
def R191 (a:Bool):D:= .bool a
def Z5e (a:Zg) (t0:Int):Option (Ctl (Int) (Unit⊕Bool)):= if decide (t0<(a.Zs.length:Int)) then (Z4 a.Zs t0).bind λb=> if decide (b<0) then some (.done (.inr false)) else (Z4 a.Zs t0).bind λc=> if decide (c≥1000) then some (.done (.inr false)) else (some (wrap .i64 (t0+1))).bind λd=> some (.next d) else some (.done (.inl (())))
def Zh4 (a:Zg):Option (Bool):= (Z8 (Z5e a) Zb 0).bind λb=> match b with | .inl q0=>(some true) | .inr c=>(some c)
def Z08 (a:Zg):Option (Bool):= if decide (a.f_To<0) then some false else if decide (a.f_To≥1000) then some false else (Zh4 a)
def Zum (a:Zg):Int→SL:= λt0=>⟨33,[(1,.ptr (Y4 a)),(3,dI t0)],[]⟩
def J191x1:JT (Unit⊕Bool):= ju (je 0 λq0:Unit=>⟨33,[],[]⟩) (jr prog f191 R191)
theorem wl191x1 {a t0 r Γ} (h:(Z5e a) t0=some r):A prog Γ (lpC f191 43) [] (Rd (Zum a) J191x1 r) ((Zum a) t0).s:= Z0 4 [(3,ln a.Zs)]<|br h (λd h=>bd h λi c h=>sp h (λb h=>Z0 6 [(3,ix c),(5,kb b)]<|bT rfl<|Z2<|dn h (i2 iR)) λb h=> bd h λj e h=>Z0 6 [(3,ix c),(5,kb b),(10,ix e)]<|br h (λf h=>Z2<|dn h (i2 iR)) λf h=> bd h λk g h=>Z0 5 [(1,n g)]<|nx h) λd h=> Z2<|dn h (i1 iE)
theorem wj191x1 {a r Γ} (h:(Zh4 a)=some r):JnE prog f191 Γ (R191 r) 19 ⟨33,[(1,.ptr (Y4 a))],[]⟩:= so<|Z2<|bd h λb c h=>lp c wl191x1<|match b,h with | .inl q0,h=>j1<|(qe<|Xq h) | .inr d,h=>j2<|(qr h)
theorem w191 {b r} (h:Z08 b=some r):Zi prog 191 [.agg (Y4 b)] (R191 r):= cs f191<|sp h (λa h=>go [] [rg 0 [(0,bo)],rg 1 [(2,kb a)]]<|bT rfl<|Z3 h) λa h=> go [] [rg 0 [(0,bo)],rg 1 [(2,kb a)]]<|br h (λc h=>Z3 h) λc h=> go [3] []<|jn (wj191x1 h)
def R220 (a:Bool):D:= .bool a
def Z9w (a:Int):Option (Bool):= if decide (a≥(-2147483648)) then some (decide (a≤2147483647)) else some false
theorem w220 {b r} (h:Z9w b=some r):Zi prog 220 [dI b] (R220 r):= cs f220<|sp h (λa h=>Z0 1 [(1,kb a)]<|rt h) λa h=> Z0 1 [(1,kb a)]<|rt h
def R192 (a:Int):D:= .int .i64 a
def Zfe (a:Zg):Option (Int):= (Z9w a.f_A).bind λb=> if !b then some 8 else (some (wrap .i64 ((a.Zs.length:Int) - 1))).bind λc=> (some (wrap .i64 (2147483647 - c))).bind λd=> if decide (a.f_A>d) then some 8 else some 0
def Zd8 (a:Zg) (t0:Int):Option (Ctl (Int) (Unit⊕Int)):= if decide (t0<(a.Yg.length:Int)) then (Z4 a.Yg t0).bind λb=> (Z9w b).bind λc=> if !c then some (.done (.inr 8)) else (some (wrap .i64 (t0+1))).bind λd=> some (.next d) else some (.done (.inl (())))
def Zcl (a:Zg) (t1:Int):Option (Ctl (Int) (Unit⊕Int)):= if decide (t1<(a.Yg.length:Int)) then (Z4 a.Yg t1).bind λc=> (some (wrap .i64 (t1 - 1))).bind λd=> (Z4 a.Yg d).bind λe=> if decide (c≤e) then some (.done (.inr 4)) else (some (wrap .i64 (t1+1))).bind λb=> some (.next b) else some (.done (.inl (())))
def Zd4 (a:Zg):Option (Int):= (Z8 (Zd8 a) Zb 0).bind λb=> match b with | .inl q0=>((Z8 (Zcl a) Zb 1).bind λq3=> match q3 with | .inl e=>(some 0) | .inr c=>(some c)) | .inr d=>(some d)
def Z4v (a:Zg):Option (Int):= if a.f_Op==53 then if (a.Zs.length:Int)==0 then some 5 else if decide ((a.Zs.length:Int)>64) then some 5 else (Zfe a) else if decide ((a.Yg.length:Int)>64) then some 5 else if (a.Zs.length:Int)!=(a.Yg.length:Int) then some 5 else (Zd4 a)
theorem wj192x2 {c r Γ} (h:(Zfe c)=some r):JnE prog f192 Γ (R192 r) 149 ⟨78,[(1,.ptr (Y4 c))],[]⟩:= so<|bd h λg b h=>sp h (λa h=>go [] [rg 4 ((2,k (w220 b))::gA a 5 8 [(13,py a)])]<|bT rfl<|Z3 h) λa h=> bd h λi d h=>bd h λj e h=>go [] [rg 4 ((2,k (w220 b))::gC a 5 4 [(9,gw a (ln c.Zs)),(10,gw a (n d)),(11,gw a (n e)),(12,gw a g0),(13,pn a)])]<|br h (λf h=>Z3 h) λf h=> Z3 h
def Y0b (a:Zg):Int→SL:= λt0=>⟨78,[(1,.ptr (Y4 a)),(3,dI t0)],[]⟩
def J192x1 (a:Zg):JT (Unit⊕Int):= ju (je 0 λq0:Unit=>⟨78,[(1,.ptr (Y4 a))],[]⟩) (jr prog f192 R192)
theorem wl192x1 {a t0 r Γ} (h:(Zd8 a) t0=some r):A prog Γ (lpC f192 87) [] (Rd (Y0b a) (J192x1 a) r) ((Y0b a) t0).s:= Z0 10 [(3,ln a.Yg)]<|br h (λb h=>bd h λg c h=>bd h λi d h=>Z0 12 [(3,ix c),(5,k (w220 d))]<|br h (λe h=>Z2<|dn h (i2 iR)) λe h=> bd h λj f h=>Z0 11 [(1,n f)]<|nx h) λb h=> Z2<|dn h (i1 iE)
def Zr1 (a:Zg):Int→SL:= λt1=>⟨78,[(1,.ptr (Y4 a)),(4,dI t1)],[]⟩
def J192x2:JT (Unit⊕Int):= ju (je 2 λa:Unit=>⟨78,[],[]⟩) (jr prog f192 R192)
theorem wl192x2 {a t1 r Γ} (h:(Zcl a) t1=some r):A prog Γ (lpC f192 175) [] (Rd (Zr1 a) J192x2 r) ((Zr1 a) t1).s:= Z0 15 [(3,ln a.Yg)]<|br h (λb h=>bd h λj f h=>bd h λk g h=>bd h λl c h=>Z0 17 [(3,ix f),(8,n g),(9,ix c)]<|br h (λd h=>Z2<|dn h (i2 iR)) λd h=> bd h λi e h=>Z0 16 [(1,n e)]<|nx h) λb h=> Z2<|dn h (i1 iE)
theorem wj192x1 {b r Γ} (h:(Zd4 b)=some r):JnE prog f192 Γ (R192 r) 39 ⟨78,[(1,.ptr (Y4 b))],[]⟩:= so<|Z2<|bd h λc d h=>lp d wl192x1<|match c,h with | .inl q0,h=>j1<|(qe<|goN [] []<|bd h λq3 a h=>lp a wl192x2<|match q3,h with | .inl e,h=>j1<|(qe<|Xq h) | .inr f,h=>j2<|(qr h)) | .inr g,h=>j2<|(qr h)
theorem w192 {a r} (h:Z4v a=some r):Zi prog 192 [.agg (Y4 a)] (R192 r):= cs f192<|Z0 0 [(0,bo)]<|br h (λd h=>sp h (λb h=>Z0 2 [(2,ln a.Zs),(3,kb b)]<|bT rfl<|Z3 h) λb h=> Z0 2 [(2,ln a.Zs),(3,kb b),(7,ln a.Zs)]<|br h (λe h=>Z3 h) λe h=> go [4] []<|jn (wj192x2 h)) λd h=> sp h (λc h=>Z0 7 [(2,ln a.Yg),(3,kb c)]<|bT rfl<|Z3 h) λc h=> Z0 7 [(2,ln a.Yg),(3,kb c),(7,ln a.Zs),(10,ln a.Yg)]<|br h (λf h=>Z3 h) λf h=> go [9] []<|jn (wj192x1 h)
end Go.Proofs
