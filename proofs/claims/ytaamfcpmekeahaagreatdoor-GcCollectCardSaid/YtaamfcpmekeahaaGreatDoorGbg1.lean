/-
  Models of functions of the program, and that the functions compute them. Printed by den3.py. No condition.
-/
import Derived.Test.YtaamfcpmekeahaaGreatDoorRows
import Derived.Test.YtaamfcpmekeahaaGreatDoorDenClaim
set_option linter.unusedVariables false
set_option linter.unusedSimpArgs false
namespace Go.Proofs
open IntKind (wrap)
open Tryz
open Go.Den Go.Den.W
structure Vq where
 a0:Int
 a1:Int
def Vx (x:Vq):List D:=[.int .i64 x.a0,.int .i64 x.a1]
instance:Row Vq:=⟨Vx,2,λ_=>rfl⟩
structure Zf where
 Zj:Int
 f_N:Int
def Y8 (x:Zf):List D:=[.int .i64 x.Zj,.int .i64 x.f_N]
instance:Row Zf:=⟨Y8,2,λ_=>rfl⟩
structure Qb where
 Zy:Int
 U9:Int
 f_PC:Int
 Y1:List Zf
 Y5:List Zf
 Vo:Int
 Jr:Bool
 Lo:Bool
def Vg (x:Qb):List D:=[.int .i64 x.Zy,.int .i64 x.U9,.int .i64 x.f_PC,slF Y8 x.Y1,slF Y8 x.Y5,.int .i64 x.Vo,.bool x.Jr,.bool x.Lo]
instance:Row Qb:=⟨Vg,8,λ_=>rfl⟩
structure Vc where
 Zst:Int
 Qm:List UInt8
def Qs (x:Vc):List D:=[.int .i64 x.Zst,.str x.Qm]
instance:Row Vc:=⟨Qs,2,λ_=>rfl⟩
structure Ql where
 Ye:Int
 Zn:List UInt8
 Xh:List UInt8
 W1:Int
 f_N:Int
 f_S:List UInt8
def Wl (x:Ql):List D:=[.int .i64 x.Ye,.str x.Zn,.str x.Xh,.int .i64 x.W1,.int .i64 x.f_N,.str x.f_S]
instance:Row Ql:=⟨Wl,6,λ_=>rfl⟩
structure Xw where
 Zy:List UInt8
 Zn:List UInt8
 Xh:List UInt8
def Z26 (x:Xw):List D:=[.str x.Zy,.str x.Zn,.str x.Xh]
instance:Row Xw:=⟨Z26,3,λ_=>rfl⟩
structure Zg where
 f_Op:Int
 f_A:Int
 f_B:Int
 f_To:Int
 Yg:List Int
 Zs:List Int
 Yv:Xw
 f_S:List UInt8
def Y4 (x:Zg):List D:=[.int .i64 x.f_Op,.int .i64 x.f_A,.int .i64 x.f_B,.int .i64 x.f_To,slF Z5 x.Yg,slF Z5 x.Zs,.str x.Yv.Zy,.str x.Yv.Zn,.str x.Yv.Xh,.str x.f_S]
instance:Row Zg:=⟨Y4,10,λ_=>rfl⟩
structure Yf where
 Wh:Int
 f_To:Int
 Wi:Int
 Zy:Int
 Zt:List UInt8
def X2 (x:Yf):List D:=[.int .i64 x.Wh,.int .i64 x.f_To,.int .i64 x.Wi,.int .i64 x.Zy,.str x.Zt]
instance:Row Yf:=⟨X2,5,λ_=>rfl⟩
structure Yl where
 Xl:Int
 Yw:Int
 Zn:List UInt8
def Vh (x:Yl):List D:=[.int .i64 x.Xl,.int .u8 x.Yw,.str x.Zn]
instance:Row Yl:=⟨Vh,3,λ_=>rfl⟩
structure Zz where
 Zj:Int
 Vb:Int
 Zt:Yl
 Vk:Int
def Yz (x:Zz):List D:=[.int .i64 x.Zj,.int .i64 x.Vb,.int .i64 x.Zt.Xl,.int .u8 x.Zt.Yw,.str x.Zt.Zn,.int .i64 x.Vk]
instance:Row Zz:=⟨Yz,6,λ_=>rfl⟩
structure V8 where
 Y1:List Zz
 Y5:List Zz
 Wp:Bool
def Z25 (x:V8):List D:=[slF Yz x.Y1,slF Yz x.Y5,.bool x.Wp]
instance:Row V8:=⟨Z25,3,λ_=>rfl⟩
structure Yi where
 Q4:Int
 Xa:V8
def Xc (x:Yi):List D:=[.int .i64 x.Q4,slF Yz x.Xa.Y1,slF Yz x.Xa.Y5,.bool x.Xa.Wp]
instance:Row Yi:=⟨Xc,4,λ_=>rfl⟩
structure Xo where
 Q4:Int
 Wy:Int
def Xt (x:Xo):List D:=[.int .i64 x.Q4,.int .i64 x.Wy]
instance:Row Xo:=⟨Xt,2,λ_=>rfl⟩
structure Zx where
 Y5:Int
 Y1:Int
 Y7:List Zg
 Xm:List Yf
 Xe:List Yi
 Xf:List Xo
def Yn (x:Zx):List D:=[.int .i64 x.Y5,.int .i64 x.Y1,slF Y4 x.Y7,slF X2 x.Xm,slF Xc x.Xe,slF Xt x.Xf]
instance:Row Zx:=⟨Yn,6,λ_=>rfl⟩
structure Q6 where
 Ye:Int
 Zn:List UInt8
 Xh:List UInt8
 Uh:Bool
 Qc:Zx
 Wg:List (List UInt8)
def Wa (x:Q6):List D:=[.int .i64 x.Ye,.str x.Zn,.str x.Xh,.bool x.Uh,.int .i64 x.Qc.Y5,.int .i64 x.Qc.Y1,slF Y4 x.Qc.Y7,slF X2 x.Qc.Xm,slF Xc x.Qc.Xe,slF Xt x.Qc.Xf,slF Xy x.Wg]
instance:Row Q6:=⟨Wa,11,λ_=>rfl⟩
structure Yj where
 Ye:Int
 Zn:List UInt8
 Ys:List UInt8
 Yc:List (List UInt8)
 Ym:List Ql
 Yo:List Q6
 Ui:List UInt8
def Qd (x:Yj):List D:=[.int .i64 x.Ye,.str x.Zn,.str x.Ys,slF Xy x.Yc,slF Wl x.Ym,slF Wa x.Yo,.str x.Ui]
instance:Row Yj:=⟨Qd,7,λ_=>rfl⟩
structure Xi where
 Xn:Int
 Xp:Yj
 Ys:Int
 Yc:List Int
 Jh:Int
 L6:Int
def Xg (x:Xi):List D:=[.int .i64 x.Xn,.int .i64 x.Xp.Ye,.str x.Xp.Zn,.str x.Xp.Ys,slF Xy x.Xp.Yc,slF Wl x.Xp.Ym,slF Wa x.Xp.Yo,.str x.Xp.Ui,.int .i64 x.Ys,slF Z5 x.Yc,.int .i64 x.Jh,.int .i64 x.L6]
instance:Row Xi:=⟨Xg,12,λ_=>rfl⟩
structure Vi where
 L7:List UInt8
 f_To:Int
def J0 (x:Vi):List D:=[.str x.L7,.int .i64 x.f_To]
instance:Row Vi:=⟨J0,2,λ_=>rfl⟩
structure Vj where
 Zn:List UInt8
 Qm:List UInt8
def J3 (x:Vj):List D:=[.str x.Zn,.str x.Qm]
instance:Row Vj:=⟨J3,2,λ_=>rfl⟩
structure Yk where
 Va:List Vi
 Qv:List Vj
def Yy (x:Yk):List D:=[slF J0 x.Va,slF J3 x.Qv]
instance:Row Yk:=⟨Yy,2,λ_=>rfl⟩
structure Q2 where
 Xn:Int
 Zn:List UInt8
 Zy:Int
def Qa (x:Q2):List D:=[.int .i64 x.Xn,.str x.Zn,.int .i64 x.Zy]
instance:Row Q2:=⟨Qa,3,λ_=>rfl⟩
structure V7 where
 Zn:List UInt8
 f_A:Int
 f_B:Int
def Qi (x:V7):List D:=[.str x.Zn,.int .i64 x.f_A,.int .i64 x.f_B]
instance:Row V7:=⟨Qi,3,λ_=>rfl⟩
structure Zq where
 X3:List Yk
 Y6:List Xi
 Yr:List Q2
 Q3:List V7
def Yq (x:Zq):List D:=[slF Yy x.X3,slF Xg x.Y6,slF Qa x.Yr,slF Qi x.Q3]
instance:Row Zq:=⟨Yq,4,λ_=>rfl⟩
structure Za where
 Qh:Int
 f_S:List UInt8
 f_N:Int
 f_A:Int
 f_B:Int
def Zv (x:Za):List D:=[.int .i64 x.Qh,.str x.f_S,.int .i64 x.f_N,.int .i64 x.f_A,.int .i64 x.f_B]
instance:Row Za:=⟨Zv,5,λ_=>rfl⟩
structure V3 where
 Zy:Int
 Q4:Int
def Mq (x:V3):List D:=[.int .i64 x.Zy,.int .i64 x.Q4]
instance:Row V3:=⟨Mq,2,λ_=>rfl⟩
structure Yt where
 Ye:Int
 Zn:Int
 Xh:Int
 Xv:List Vc
def X4 (x:Yt):List D:=[.int .i64 x.Ye,.int .i64 x.Zn,.int .i64 x.Xh,slF Qs x.Xv]
instance:Row Yt:=⟨X4,4,λ_=>rfl⟩
structure X5 where
 Qp:List Za
 Ye:Int
 Wz:Int
 Ys:Int
 Yc:List Int
 Ym:List Yt
 Yo:List Yt
 Xv:List Vc
def Qw (x:X5):List D:=[slF Zv x.Qp,.int .i64 x.Ye,.int .i64 x.Wz,.int .i64 x.Ys,slF Z5 x.Yc,slF X4 x.Ym,slF X4 x.Yo,slF Qs x.Xv]
instance:Row X5:=⟨Qw,8,λ_=>rfl⟩
structure Qn where
 Qf:Int
 Ji:Int
 Qt:List Zf
def Q0 (x:Qn):List D:=[.int .i64 x.Qf,.int .i64 x.Ji,slF Y8 x.Qt]
instance:Row Qn:=⟨Q0,3,λ_=>rfl⟩
structure Ve where
 Yx:List UInt8
 Xj:Int
def Qk (x:Ve):List D:=[.str x.Yx,.int .i64 x.Xj]
instance:Row Ve:=⟨Qk,2,λ_=>rfl⟩
structure Q5 where
 Xl:Int
 Yw:Int
 Zy:Int
def Lc (x:Q5):List D:=[.int .i64 x.Xl,.int .u8 x.Yw,.int .i64 x.Zy]
instance:Row Q5:=⟨Lc,3,λ_=>rfl⟩
structure Zm where
 Zj:Int
 Zt:Q5
 Zw:List Zf
 Yx:List UInt8
 Xr:Int
 Xd:Int
 Xk:List Int
def Ya (x:Zm):List D:=[.int .i64 x.Zj,.int .i64 x.Zt.Xl,.int .u8 x.Zt.Yw,.int .i64 x.Zt.Zy,slF Y8 x.Zw,.str x.Yx,.int .i64 x.Xr,.int .i64 x.Xd,slF Z5 x.Xk]
instance:Row Zm:=⟨Ya,9,λ_=>rfl⟩
structure Xu where
 Qf:Int
 V2:Int
 Xd:Int
 Yu:List Qb
 Xj:Int
 Vn:Int
 Qr:Zf
def X9 (x:Xu):List D:=[.int .i64 x.Qf,.int .i64 x.V2,.int .i64 x.Xd,slF Vg x.Yu,.int .i64 x.Xj,.int .i64 x.Vn,.int .i64 x.Qr.Zj,.int .i64 x.Qr.f_N]
instance:Row Xu:=⟨X9,8,λ_=>rfl⟩
structure Z6 where
 Y0:Zq
 Qz:Int
 Z7:List Zm
 Xb:List Qn
 X1:List Ve
 Y9:List Xu
 Qo:List (List UInt8)
def Zr (x:Z6):List D:=[slF Yy x.Y0.X3,slF Xg x.Y0.Y6,slF Qa x.Y0.Yr,slF Qi x.Y0.Q3,.int .i64 x.Qz,slF Ya x.Z7,slF Q0 x.Xb,slF Qk x.X1,slF X9 x.Y9,slF Xy x.Qo]
instance:Row Z6:=⟨Zr,10,λ_=>rfl⟩
structure V9 where
 Z0b:List Yl
 Qr:Yl
def Zas (x:V9):List D:=[slF Vh x.Z0b,.int .i64 x.Qr.Xl,.int .u8 x.Qr.Yw,.str x.Qr.Zn]
instance:Row V9:=⟨Zas,4,λ_=>rfl⟩
structure X6 where
 f_S:List UInt8
 f_At:Int
 Wx:Bool
def Z27 (x:X6):List D:=[.str x.f_S,.int .i64 x.f_At,.bool x.Wx]
instance:Row X6:=⟨Z27,3,λ_=>rfl⟩
structure Wd where
 f_C:Zx
 Qm:List UInt8
 Zks:List Int
def Mr (x:Wd):List D:=[.int .i64 x.f_C.Y5,.int .i64 x.f_C.Y1,slF Y4 x.f_C.Y7,slF X2 x.f_C.Xm,slF Xc x.f_C.Xe,slF Xt x.f_C.Xf,.str x.Qm,slF Z5 x.Zks]
instance:Row Wd:=⟨Mr,8,λ_=>rfl⟩
structure Qx where
 f_F:X5
 Z41:List Zx
 Z42:List (List Int)
 Z18:List Vq
def Z0x (x:Qx):List D:=[slF Zv x.f_F.Qp,.int .i64 x.f_F.Ye,.int .i64 x.f_F.Wz,.int .i64 x.f_F.Ys,slF Z5 x.f_F.Yc,slF X4 x.f_F.Ym,slF X4 x.f_F.Yo,slF Qs x.f_F.Xv,slF Yn x.Z41,.sl false (x.Z42.map (rSl Z5)),slF Vx x.Z18]
instance:Row Qx:=⟨Z0x,11,λ_=>rfl⟩
structure Yh where
 f_P:List Za
 f_E:Int
def Wm (x:Yh):List D:=[slF Zv x.f_P,.int .i64 x.f_E]
instance:Row Yh:=⟨Wm,2,λ_=>rfl⟩
def Z2o (x y:Q5):Bool:=((x.Xl==y.Xl)&&((x.Yw==y.Yw)&&((x.Zy==y.Zy)&&true)))
def eqq_50 : Prop := prog.stoodInHeld 50 = false ∧ ("Dim" ≠ "_" ∧ True ∧ ("Base" ≠ "_" ∧ True ∧ ("Class" ≠ "_" ∧ True ∧ True)))
theorem Zkq:eqq_50:=⟨by kernel_rfl,⟨by decide,trivial,⟨by decide,trivial,⟨by decide,trivial,trivial⟩⟩⟩⟩
theorem Zko:prog.eqGuardType prog.depth 50=false:=by kernel_rfl
def Jg (x y:Zf):Bool:=((x.Zj==y.Zj)&&((x.f_N==y.f_N)&&true))
def eqq_58 : Prop := prog.stoodInHeld 58 = false ∧ ("Kind" ≠ "_" ∧ True ∧ ("N" ≠ "_" ∧ True ∧ True))
theorem Z2q:eqq_58:=⟨by kernel_rfl,⟨by decide,trivial,⟨by decide,trivial,trivial⟩⟩⟩
theorem Z2p:prog.eqGuardType prog.depth 58=false:=by kernel_rfl
def Zkj (x y:Ve):Bool:=((x.Yx==y.Yx)&&((x.Xj==y.Xj)&&true))
def eqq_81 : Prop := prog.stoodInHeld 81 = false ∧ ("String" ≠ "_" ∧ True ∧ ("Object" ≠ "_" ∧ True ∧ True))
theorem eqp_81:eqq_81:=⟨by kernel_rfl,⟨by decide,trivial,⟨by decide,trivial,trivial⟩⟩⟩
theorem eqg_81:prog.eqGuardType prog.depth 81=false:=by kernel_rfl
def Zki (x y:Q2):Bool:=((x.Xn==y.Xn)&&((x.Zn==y.Zn)&&((x.Zy==y.Zy)&&true)))
def eqq_93 : Prop := prog.stoodInHeld 93 = false ∧ ("Loader" ≠ "_" ∧ True ∧ ("Name" ≠ "_" ∧ True ∧ ("Class" ≠ "_" ∧ True ∧ True)))
theorem eqp_93:eqq_93:=⟨by kernel_rfl,⟨by decide,trivial,⟨by decide,trivial,⟨by decide,trivial,trivial⟩⟩⟩⟩
theorem eqg_93:prog.eqGuardType prog.depth 93=false:=by kernel_rfl
def Zke (x y:V7):Bool:=((x.Zn==y.Zn)&&((x.f_A==y.f_A)&&((x.f_B==y.f_B)&&true)))
def eqq_106 : Prop := prog.stoodInHeld 106 = false ∧ ("Name" ≠ "_" ∧ True ∧ ("A" ≠ "_" ∧ True ∧ ("B" ≠ "_" ∧ True ∧ True)))
theorem eqp_106:eqq_106:=⟨by kernel_rfl,⟨by decide,trivial,⟨by decide,trivial,⟨by decide,trivial,trivial⟩⟩⟩⟩
theorem eqg_106:prog.eqGuardType prog.depth 106=false:=by kernel_rfl
def Zkg (x y:Ql):Bool:=((x.Ye==y.Ye)&&((x.Zn==y.Zn)&&((x.Xh==y.Xh)&&((x.W1==y.W1)&&((x.f_N==y.f_N)&&((x.f_S==y.f_S)&&true))))))
def eqq_119 : Prop := prog.stoodInHeld 119 = false ∧ ("Flags" ≠ "_" ∧ True ∧ ("Name" ≠ "_" ∧ True ∧ ("Desc" ≠ "_" ∧ True ∧ ("Const" ≠ "_" ∧ True ∧ ("N" ≠ "_" ∧ True ∧ ("S" ≠ "_" ∧ True ∧ True))))))
theorem eqp_119:eqq_119:=⟨by kernel_rfl,⟨by decide,trivial,⟨by decide,trivial,⟨by decide,trivial,⟨by decide,trivial,⟨by decide,trivial,⟨by decide,trivial,trivial⟩⟩⟩⟩⟩⟩⟩
theorem eqg_119:prog.eqGuardType prog.depth 119=false:=by kernel_rfl
def Zkf (x y:Vi):Bool:=((x.L7==y.L7)&&((x.f_To==y.f_To)&&true))
def eqq_133 : Prop := prog.stoodInHeld 133 = false ∧ ("Prefix" ≠ "_" ∧ True ∧ ("To" ≠ "_" ∧ True ∧ True))
theorem eqp_133:eqq_133:=⟨by kernel_rfl,⟨by decide,trivial,⟨by decide,trivial,trivial⟩⟩⟩
theorem eqg_133:prog.eqGuardType prog.depth 133=false:=by kernel_rfl
def Zkl (x y:Vj):Bool:=((x.Zn==y.Zn)&&((x.Qm==y.Qm)&&true))
def eqq_135 : Prop := prog.stoodInHeld 135 = false ∧ ("Name" ≠ "_" ∧ True ∧ ("Bytes" ≠ "_" ∧ True ∧ True))
theorem eqp_135:eqq_135:=⟨by kernel_rfl,⟨by decide,trivial,⟨by decide,trivial,trivial⟩⟩⟩
theorem eqg_135:prog.eqGuardType prog.depth 135=false:=by kernel_rfl
def Zbo (x y:Yl):Bool:=((x.Xl==y.Xl)&&((x.Yw==y.Yw)&&((x.Zn==y.Zn)&&true)))
def Zss : Prop := prog.stoodInHeld 173 = false ∧ ("Dim" ≠ "_" ∧ True ∧ ("Base" ≠ "_" ∧ True ∧ ("Name" ≠ "_" ∧ True ∧ True)))
theorem Zsr:Zss:=⟨by kernel_rfl,⟨by decide,trivial,⟨by decide,trivial,⟨by decide,trivial,trivial⟩⟩⟩⟩
theorem eqg_173:prog.eqGuardType prog.depth 173=false:=by kernel_rfl
def Z40 (x y:Xw):Bool:=((x.Zy==y.Zy)&&((x.Zn==y.Zn)&&((x.Xh==y.Xh)&&true)))
def eqq_180 : Prop := prog.stoodInHeld 180 = false ∧ ("Class" ≠ "_" ∧ True ∧ ("Name" ≠ "_" ∧ True ∧ ("Desc" ≠ "_" ∧ True ∧ True)))
theorem Zkp:eqq_180:=⟨by kernel_rfl,⟨by decide,trivial,⟨by decide,trivial,⟨by decide,trivial,trivial⟩⟩⟩⟩
theorem Zkn:prog.eqGuardType prog.depth 180=false:=by kernel_rfl
def Zkh (x y:Yf):Bool:=((x.Wh==y.Wh)&&((x.f_To==y.f_To)&&((x.Wi==y.Wi)&&((x.Zy==y.Zy)&&((x.Zt==y.Zt)&&true)))))
def eqq_184 : Prop := prog.stoodInHeld 184 = false ∧ ("From" ≠ "_" ∧ True ∧ ("To" ≠ "_" ∧ True ∧ ("Target" ≠ "_" ∧ True ∧ ("Class" ≠ "_" ∧ True ∧ ("Type" ≠ "_" ∧ True ∧ True)))))
theorem eqp_184:eqq_184:=⟨by kernel_rfl,⟨by decide,trivial,⟨by decide,trivial,⟨by decide,trivial,⟨by decide,trivial,⟨by decide,trivial,trivial⟩⟩⟩⟩⟩⟩
theorem eqg_184:prog.eqGuardType prog.depth 184=false:=by kernel_rfl
def Zkk (x y:Xo):Bool:=((x.Q4==y.Q4)&&((x.Wy==y.Wy)&&true))
def eqq_186 : Prop := prog.stoodInHeld 186 = false ∧ ("Index" ≠ "_" ∧ True ∧ ("Line" ≠ "_" ∧ True ∧ True))
theorem eqp_186:eqq_186:=⟨by kernel_rfl,⟨by decide,trivial,⟨by decide,trivial,trivial⟩⟩⟩
theorem eqg_186:prog.eqGuardType prog.depth 186=false:=by kernel_rfl
def Zkm (x y:Zz):Bool:=((x.Zj==y.Zj)&&((x.Vb==y.Vb)&&((Zbo x.Zt y.Zt)&&((x.Vk==y.Vk)&&true))))
def eqq_234 : Prop := prog.stoodInHeld 234 = false ∧ ("Kind" ≠ "_" ∧ True ∧ ("NewIndex" ≠ "_" ∧ True ∧ ("Type" ≠ "_" ∧ Zss ∧ ("PoolIndex" ≠ "_" ∧ True ∧ True))))
theorem eqp_234:eqq_234:=⟨by kernel_rfl,⟨by decide,trivial,⟨by decide,trivial,⟨by decide,Zsr,⟨by decide,trivial,trivial⟩⟩⟩⟩⟩
theorem eqg_234:prog.eqGuardType prog.depth 234=false:=by kernel_rfl
def Zsq (x y:Za):Bool:=((x.Qh==y.Qh)&&((x.f_S==y.f_S)&&((x.f_N==y.f_N)&&((x.f_A==y.f_A)&&((x.f_B==y.f_B)&&true)))))
def eqq_239 : Prop := prog.stoodInHeld 239 = false ∧ ("Tag" ≠ "_" ∧ True ∧ ("S" ≠ "_" ∧ True ∧ ("N" ≠ "_" ∧ True ∧ ("A" ≠ "_" ∧ True ∧ ("B" ≠ "_" ∧ True ∧ True)))))
theorem eqp_239:eqq_239:=⟨by kernel_rfl,⟨by decide,trivial,⟨by decide,trivial,⟨by decide,trivial,⟨by decide,trivial,⟨by decide,trivial,trivial⟩⟩⟩⟩⟩⟩
theorem eqg_239:prog.eqGuardType prog.depth 239=false:=by kernel_rfl
def R111 (a:Bool):D:= .bool a
def Zfi (a:Int):Option (Bool):= if decide (a≥97) then if decide (a≤122) then some true else if decide (a≥65) then if decide (a≤90) then some true else if a==95 then some true else some (a==36) else if a==95 then some true else some (a==36) else if decide (a≥65) then if decide (a≤90) then some true else if a==95 then some true else some (a==36) else if a==95 then some true else some (a==36)
theorem w111 {l r} (h:Zfi l=some r):Zi prog 111 [d8 l] (R111 r):= cs f111<|go [1] []<|po<|pr 3 []<|sp h (λb h=>pr 4 (gC b 3 2 [(5,py b)])<|sp h (λa h=>pr 16 (gA a 7 3 [(12,gs0 a),(13,py a)])<|Zo h) λa h=> pr 3 (gC a 7 3 [])<|sp h (λc h=>pr 5 (gC c 10 2 [(12,gw a (py c)),(13,pn a)])<|sp h (λd h=>pr 8 (gA d 15 2 [(17,py d)])<|Zo h) λd h=> pr 4 (gC d 15 2 [(17,pn d)])<|sp h (λe h=>pr 4 (gA e 19 2 [(21,py e)])<|Zo h) λe h=> pr 4 (gC e 19 2 [(21,pn e)])<|Zo h) λc h=> pr 9 (gB c 10 2 [(12,gw a (pn c)),(13,pn a)])<|sp h (λf h=>pr 4 (gA f 19 2 [(21,py f)])<|Zo h) λf h=> pr 4 (gC f 19 2 [(21,pn f)])<|Zo h) λb h=> pr 7 (gB b 3 2 [(5,pn b)])<|sp h (λg h=>pr 5 (gC g 10 2 [(12,py g)])<|sp h (λi h=>pr 8 (gA i 15 2 [(17,py i)])<|Zo h) λi h=> pr 4 (gC i 15 2 [(17,pn i)])<|sp h (λj h=>pr 4 (gA j 19 2 [(21,py j)])<|Zo h) λj h=> pr 4 (gC j 19 2 [(21,pn j)])<|Zo h) λg h=> pr 9 (gB g 10 2 [(12,pn g)])<|sp h (λk h=>pr 4 (gA k 19 2 [(21,py k)])<|Zo h) λk h=> pr 4 (gC k 19 2 [(21,pn k)])<|Zo h
def R91 (a:Bool):D:= .bool a
def Zf5 (a:List UInt8) (t0:Int):Option (Ctl (Int) (Unit⊕Bool)):= if decide (t0<(a.length:Int)) then (Vw a t0).bind λb=> (Zfi b).bind λc=> if !c then if t0==0 then some (.done (.inr false)) else (Vw a t0).bind λd=> if decide (d<48) then some (.done (.inr false)) else (Vw a t0).bind λe=> if decide (e>57) then some (.done (.inr false)) else (some (wrap .i64 (t0+1))).bind λf=> some (.next f) else (some (wrap .i64 (t0+1))).bind λg=> some (.next g) else some (.done (.inl (())))
def Z4r (a:List UInt8):Option (Bool):= (Z8 (Zf5 a) Zb 0).bind λb=> match b with | .inl q0=>(some (decide ((a.length:Int)>0))) | .inr c=>(some c)
def Zz1 (a:List UInt8):Int→SL:= λt0=>⟨34,[(0,.str a),(3,dI t0)],[]⟩
def J91x1 (a:List UInt8):JT (Unit⊕Bool):= ju (je 0 λq0:Unit=>⟨34,[(0,.str a)],[]⟩) (jr prog f91 R91)
theorem wl91x1 {d t0 r Γ} (h:(Zf5 d) t0=some r):A prog Γ (lpC f91 21) [] (Rd (Zz1 d) (J91x1 d) r) ((Zz1 d) t0).s:= Z2 <| br h (λm h=>go [4] []<|po<|bd h λp e h=>bd h λq f h=>pr 6 [(2,ib e),(3,k (w111 f))]<|sp h (λa h=>pr 3 (gC a 6 3 [])<|sp h (λb h=>pr 12 (gA b 9 4 [(13,gw a (py b)),(14,gw a g0),(19,gw a g0),(20,py a)])<|Z9<|bT rfl<|Z2<|dn h (i2 iR)) λb h=> bd h λt g h=>pr 6 (gC b 9 2 [(11,gw b (ib g)),(12,gw b g0),(13,gw a (pn b)),(14,gw a g0)])<|sp h (λc h=>pr 6 (gA c 15 4 [(19,gw a (py c)),(20,py a)])<|Z9<|bT rfl<|Z2<|dn h (i2 iR)) λc h=> bd h λu i h=>pr 6 (gC c 15 2 [(17,gw c (ib i)),(18,gw c g0),(19,gw a (pn c)),(20,py a)])<|Z9<|br h (λo h=>Z2<|dn h (i2 iR)) λo h=> bd h λv j h=>Z0 3 [(1,n j)]<|nx h) λa h=> pr 15 (gB a 6 3 (gB a 13 2 [(19,gs1 a),(20,pn a)]))<|Z9<|bF rfl<|bd h λw l h=>Z0 3 [(1,n l)]<|nx h) λm h=> Z2<|dn h (i1 iE)
theorem w91 {a r} (h:Z4r a=some r):Zi prog 91 [.str a] (R91 r):= cs f91<|Z2<|bd h λc b h=>lp b wl91x1<|match c,h with | .inl q0,h=>j1<|(qe<|Xs h) | .inr d,h=>j2<|(qr h)
def R66 (a:Bool):D:= .bool a
def Zes (a:List UInt8) (t0:Int×Int):Option (Ctl (Int×Int) (Int⊕Bool)):= if decide (t0.2<(a.length:Int)) then (Vw a t0.2).bind λb=> if b==47 then (sub a t0.1 t0.2).bind λc=> (Z4r c).bind λd=> if !d then some (.done (.inr false)) else (some (wrap .i64 (t0.2+1))).bind λe=> (some (wrap .i64 (t0.2+1))).bind λf=> some (.next (e,f)) else (some (wrap .i64 (t0.2+1))).bind λg=> some (.next (t0.1,g)) else some (.done (.inl (t0.1)))
def Z2y (a:List UInt8):Option (Bool):= if decide ((a.length:Int)>64) then some false else (Z8 (Zes a) Zb (0,0)).bind λc=> match c with | .inl q0=>((sub a q0 (a.length:Int)).bind λd=> (Z4r d).bind λb=> some b) | .inr e=>(some e)
def Zyk (a:List UInt8):(Int×Int)→SL:= λt0=>⟨30,[(0,.str a),(3,dI t0.1),(4,dI t0.2)],[]⟩
def J66x1 (a:List UInt8):JT (Int⊕Bool):= ju (je 0 λq0:Int=>⟨30,[(0,.str a),(3,dI q0)],[]⟩) (jr prog f66 R66)
theorem wl66x1 {a t0 r Γ} (h:(Zes a) t0=some r):A prog Γ (lpC f66 87) [] (Rd (Zyk a) (J66x1 a) r) ((Zyk a) t0).s:= Z2<|br h (λi h=>bd h λm b h=>Z0 7 [(2,ib b)]<|br h (λj h=>bd h λo c h=>bd h λp d h=>Z0 8 [(3,ss c),(4,k (w91 d))]<|br h (λl h=>Z2<|dn h (i2 iR)) λl h=> bd h λq e h=>bd h λt f h=>go [] [rg 10 [(1,n e)],rg 6 [(1,n f)]]<|nx h) λj h=> bd h λu g h=>Z0 6 [(1,n g)]<|nx h) λi h=> Z2<|dn h (i1 iE)
theorem w66 {c r} (h:Z2y c=some r):Zi prog 66 [.str c] (R66 r):= cs f66<|Z2<|br h (λe h=>Z3 h) λe h=> Z2<|bd h λf d h=>lp d wl66x1<|match f,h with | .inl q0,h=>j1<|(qe<|bd h λi a h=>bd h λg b h=>goN [] [rg 11 [(2,ss a),(3,k (w91 b))]]<|rt h) | .inr j,h=>j2<|(qr h)
def R94 (a:Bool):D:= .bool a
def Z1k (b a:List UInt8):Option (Bool):= if decide ((a.length:Int)≤(b.length:Int)) then (sub b 0 (a.length:Int)).bind λc=> some (c==a) else some false
theorem w94 {b c r} (h:Z1k b c=some r):Zi prog 94 [.str b,.str c] (R94 r):= cs f94<|sp h (λa h=>bd h λe d h=>Z0 1 [(4,kb a),(9,ss d)]<|rt h) λa h=> Z0 1 [(4,kb a)]<|rt h
def R89 (a:Int):D:= .int .i64 a
def Zf2 (b:Yk) (g t0:Int):Option (Ctl (Int) (Unit⊕Int)):= if decide (t0<(b.Qv.length:Int)) then (Z4 b.Qv t0).bind λa=> (Z2y a.Zn).bind λc=> if !c then some (.done (.inr 12)) else if decide (g>0) then (Z1k a.Zn [108,97,110,103,47]).bind λd=> if d then some (.done (.inr 12)) else (some (wrap .i64 (t0+1))).bind λe=> some (.next e) else (some (wrap .i64 (t0+1))).bind λf=> some (.next f) else some (.done (.inl (())))
def Zhb (b:Yk) (c:Int):Option (Int):= (Z8 (Zf2 b c) Zb 0).bind λa=> match a with | .inl q0=>(some 0) | .inr d=>(some d)
def Zyy (a:Yk) (b:Int):Int→SL:= λt0=>⟨31,[(1,dI b),(2,.ptr (Yy a)),(5,dI t0)],[]⟩
def J89x1:JT (Unit⊕Int):= ju (je 0 λq0:Unit=>⟨31,[],[]⟩) (jr prog f89 R89)
theorem wl89x1 {c d t0 r Γ} (h:(Zf2 c d) t0=some r):A prog Γ (lpC f89 21) [] (Rd (Zyy c d) J89x1 r) ((Zyy c d) t0).s:= Z0 2 [(3,ln c.Qv)]<|br h (λl h=>bd h λo e h=>go [5] [rg 4 [(3,ix e)]]<|po<|bd h λp f h=>pr 4 [(1,k (w66 f))]<|sp h (λa h=>pr 7 (gA a 4 3 [(9,gs0 a),(10,py a)])<|Z9<|bT rfl<|Z2<|dn h (i2 iR)) λa h=> pr 3 (gC a 4 3 [])<|sp h (λb h=>bd h λq g h=>pr 4 [(7,gw b g0),(8,gw b (k (w94 g))),(9,gw a (py b)),(10,pn a)]<|Z9<|br h (λm h=>Z2<|dn h (i2 iR)) λm h=> bd h λt i h=>Z0 3 [(1,n i)]<|nx h) λb h=> pr 4 (gB b 7 2 [(9,gw a (pn b)),(10,pn a)])<|Z9<|bF rfl<|bd h λu j h=>Z0 3 [(1,n j)]<|nx h) λl h=> Z2<|dn h (i1 iE)
theorem w89 {a b r} (h:Zhb a b=some r):Zi prog 89 [.agg (Yy a),dI b] (R89 r):= cs f89<|Z0 0 [(0,bo)]<|bd h λd c h=>lp c wl89x1<|match d,h with | .inl q0,h=>j1<|(qe<|Xs h) | .inr e,h=>j2<|(qr h)
def R90 (a:Bool):D:= .bool a
def Zf4 (t0:Int) (a:Yk) (t2:Int):Option (Ctl (Int) (Unit⊕Bool)):= if decide (t2<t0) then (Z4 a.Qv t0).bind λb=> (Z4 a.Qv t2).bind λc=> if b.Zn==c.Zn then some (.done (.inr true)) else (some (wrap .i64 (t2+1))).bind λd=> some (.next d) else some (.done (.inl (())))
def Zf3 (a:Yk) (t0:Int):Option (Ctl (Int) (Unit⊕Bool)):= if decide (t0<(a.Qv.length:Int)) then (Z8 (Zf4 t0 a) Zb 0).bind λq3=> match q3 with | .inl d=>((some (wrap .i64 (t0+1))).bind λb=> some (.next b)) | .inr c=>(some (.done (.inr c))) else some (.done (.inl (())))
def Zhc (a:Yk):Option (Bool):= (Z8 (Zf3 a) Zb 0).bind λq5=> match q5 with | .inl q4=>(some false) | .inr b=>(some b)
def Zz0 (t0:Int) (a:Yk):Int→SL:= λt2=>⟨30,[(1,.ptr (Yy a)),(3,dI t0),(4,dI t2)],[]⟩
def J90x2 (t0:Int) (a:Yk):JT (Unit⊕Bool):= ju (je 2 λb:Unit=>⟨30,[(1,.ptr (Yy a)),(3,dI t0)],[]⟩) (jr prog f90 R90)
theorem wl90x2 {t0 a t2 r Γ} (h:(Zf4 t0 a) t2=some r):A prog Γ (lpC f90 1317) [] (Rd (Zz0 t0 a) (J90x2 t0 a) r) ((Zz0 t0 a) t2).s:= Z2<|br h (λe h=>bd h λg b h=>bd h λi c h=>Z0 7 [(3,ix b),(9,ix c)]<|br h (λf h=>Z2<|dn h (i2 iR)) λf h=> bd h λj d h=>Z0 6 [(1,n d)]<|nx h) λe h=> Z2<|dn h (i1 iE)
def Zyz (a:Yk):Int→SL:= λt0=>⟨30,[(1,.ptr (Yy a)),(3,dI t0)],[]⟩
def J90x1:JT (Unit⊕Bool):= ju (je 0 λq4:Unit=>⟨30,[],[]⟩) (jr prog f90 R90)
theorem wl90x1 {a t0 r Γ} (h:(Zf3 a) t0=some r):A prog Γ (lpC f90 21) [] (Rd (Zyz a) J90x1 r) ((Zyz a) t0).s:= Z0 2 [(3,ln a.Qv)]<|br h (λd h=>Z2<|bd h λq3 b h=>lp b wl90x2<|match q3,h with | .inl e,h=>j1<|(qe<|bd h λf c h=>goN [] [rg 3 [(1,n c)]]<|nx h) | .inr g,h=>j2<|(ql h λ_ _ p=>⟨(iS p).1,i2 ((iS p).2)⟩)) λd h=> Z2<|dn h (i1 iE)
theorem w90 {a r} (h:Zhc a=some r):Zi prog 90 [.agg (Yy a)] (R90 r):= cs f90<|Z0 0 [(0,bo)]<|bd h λq5 b h=>lp b wl90x1<|match q5,h with | .inl q4,h=>j1<|(qe<|Xs h) | .inr c,h=>j2<|(qr h)
def R65 (a:Int):D:= .int .i64 a
def Zen (a:List Yk) (t0:Int):Option (Ctl (Int) (Unit⊕Int)):= if decide (t0<(a.length:Int)) then (Z4 a t0).bind λb=> if decide ((b.Va.length:Int)>8) then some (.done (.inr 5)) else (Z4 a t0).bind λc=> if decide ((c.Qv.length:Int)>64) then some (.done (.inr 5)) else (some (wrap .i64 (t0+1))).bind λd=> some (.next d) else some (.done (.inl (())))
def Zep (t1:Int) (g:List Yk) (t3:Int):Option (Ctl (Int) (Unit⊕Int)):= (Z4 g t1).bind λa=> if decide (t3<(a.Va.length:Int)) then (Z4 g t1).bind λb=> (Z4 b.Va t3).bind λc=> if decide (c.f_To<0) then some (.done (.inr 2)) else (Z4 g t1).bind λd=> (Z4 d.Va t3).bind λe=> if decide (e.f_To≥t1) then some (.done (.inr 2)) else (some (wrap .i64 (t3+1))).bind λf=> some (.next f) else some (.done (.inl (())))
def Zeo (b:List Yk) (t1:Int):Option (Ctl (Int) (Unit⊕Int)):= if decide (t1<(b.length:Int)) then (Z8 (Zep t1 b) Zb 0).bind λq5=> match q5 with | .inl q4=>((some (wrap .i64 (t1+1))).bind λa=> some (.next a)) | .inr c=>(some (.done (.inr c))) else some (.done (.inl (())))
def Zeq (d:List Yk) (t4:Int):Option (Ctl (Int) (Unit⊕Int)):= if decide (t4<(d.length:Int)) then (Z4 d t4).bind λb=> (Zhb b t4).bind λa=> if a !=0 then some (.done (.inr a)) else (some (wrap .i64 (t4+1))).bind λc=> some (.next c) else some (.done (.inl (())))
def Zer (e:List Yk) (a:Int):Option (Ctl (Int) (Unit⊕Int)):= if decide (a<(e.length:Int)) then (Z4 e a).bind λb=> (Zhc b).bind λc=> if c then some (.done (.inr 6)) else (some (wrap .i64 (a+1))).bind λd=> some (.next d) else some (.done (.inl (())))
def j65x1 (a:List Yk):Option (Int):= (Z8 (Zen a) Zb 0).bind λc=> match c with | .inl q0=>((Z8 (Zeo a) Zb 0).bind λe=> match e with | .inl k=>((Z8 (Zeq a) Zb 0).bind λf=> match f with | .inl l=>((Z8 (Zer a) Zb 0).bind λb=> match b with | .inl d=>(some 0) | .inr g=>(some g)) | .inr h=>(some h)) | .inr i=>(some i)) | .inr j=>(some j)
def Zh5 (a:List Yk):Option (Int):= if (a.length:Int)==0 then some 5 else if decide ((a.length:Int)>8) then some 5 else (j65x1 a)
def Zyf (a:List Yk):Int→SL:= λt0=>⟨104,[(0,slF Yy a),(3,dI t0)],[]⟩
def J65x1 (a:List Yk):JT (Unit⊕Int):= ju (je 0 λq0:Unit=>⟨104,[(0,slF Yy a)],[]⟩) (jr prog f65 R65)
theorem wl65x1 {a t0 r Γ} (h:(Zen a) t0=some r):A prog Γ (lpC f65 43) [] (Rd (Zyf a) (J65x1 a) r) ((Zyf a) t0).s:= Z0 4 [(2,ln a)]<|br h (λg h=>bd h λd c h=>sp h (λb h=>Z0 6 [(2,ix c),(5,ln d.Va),(6,kb b)]<|bT rfl<|Z2<|dn h (i2 iR)) λb h=> bd h λj e h=>Z0 6 [(2,ix c),(5,ln d.Va),(6,kb b),(10,ix e),(13,ln j.Qv)]<|br h (λi h=>Z2<|dn h (i2 iR)) λi h=> bd h λk f h=>Z0 5 [(1,n f)]<|nx h) λg h=> Z2<|dn h (i1 iE)
def Zyh (t1:Int) (a:List Yk):Int→SL:= λt3=>⟨104,[(0,slF Yy a),(4,dI t1),(5,dI t3)],[]⟩
def J65x3 (t1:Int) (a:List Yk):JT (Unit⊕Int):= ju (je 4 λq4:Unit=>⟨104,[(0,slF Yy a),(4,dI t1)],[]⟩) (jr prog f65 R65)
theorem wl65x3 {t1 d t3 r Γ} (h:(Zep t1 d) t3=some r):A prog Γ (lpC f65 5271) [] (Rd (Zyh t1 d) (J65x3 t1 d) r) ((Zyh t1 d) t3).s:= bd h λl e h=>Z0 12 [(3,ix e),(6,ln l.Va)]<|br h (λj h=>bd h λm b h=>bd h λo c h=>sp h (λa h=>Z0 14 [(2,ix b),(6,ix c),(9,kb a)]<|bT rfl<|Z2<|dn h (i2 iR)) λa h=> bd h λp f h=>bd h λq g h=>Z0 14 [(2,ix b),(6,ix c),(9,kb a),(13,ix f),(17,ix g)]<|br h (λk h=>Z2<|dn h (i2 iR)) λk h=> bd h λt i h=>Z0 13 [(1,n i)]<|nx h) λj h=> Z2<|dn h (i1 iE)
def Zyg (a:List Yk):Int→SL:= λt1=>⟨104,[(0,slF Yy a),(4,dI t1)],[]⟩
def J65x2 (a:List Yk):JT (Unit⊕Int):= ju (je 2 λb:Unit=>⟨104,[(0,slF Yy a)],[]⟩) (jr prog f65 R65)
theorem wl65x2 {a t1 r Γ} (h:(Zeo a) t1=some r):A prog Γ (lpC f65 87) [] (Rd (Zyg a) (J65x2 a) r) ((Zyg a) t1).s:= Z0 9 [(2,ln a)]<|br h (λd h=>Z2<|bd h λq5 b h=>lp b wl65x3<|match q5,h with | .inl q4,h=>j1<|(qe<|bd h λe c h=>goN [] [rg 10 [(1,n c)]]<|nx h) | .inr f,h=>j2<|(ql h λ_ _ p=>⟨(iS p).1,i2 ((iS p).2)⟩)) λd h=> Z2<|dn h (i1 iE)
def Zyi (a:List Yk):Int→SL:= λt4=>⟨104,[(0,slF Yy a),(6,dI t4)],[]⟩
def J65x4 (a:List Yk):JT (Unit⊕Int):= ju (je 6 λb:Unit=>⟨104,[(0,slF Yy a)],[]⟩) (jr prog f65 R65)
theorem wl65x4 {a t4 r Γ} (h:(Zeq a) t4=some r):A prog Γ (lpC f65 175) [] (Rd (Zyi a) (J65x4 a) r) ((Zyi a) t4).s:= Z0 17 [(2,ln a)]<|br h (λe h=>bd h λg b h=>bd h λi c h=>Z0 19 [(2,ix b),(5,k (w89 c))]<|br h (λf h=>Z2<|dn h (i2 iR)) λf h=> bd h λj d h=>Z0 18 [(1,n d)]<|nx h) λe h=> Z2<|dn h (i1 iE)
def Zyj (b:List Yk):Int→SL:= λa=>⟨104,[(0,slF Yy b),(8,dI a)],[]⟩
def J65x5:JT (Unit⊕Int):= ju (je 8 λa:Unit=>⟨104,[],[]⟩) (jr prog f65 R65)
theorem wl65x5 {a g r Γ} (h:(Zer a) g=some r):A prog Γ (lpC f65 351) [] (Rd (Zyj a) J65x5 r) ((Zyj a) g).s:= Z0 23 [(2,ln a)]<|br h (λe h=>bd h λi b h=>bd h λj c h=>Z0 25 [(2,ix b),(4,k (w90 c))]<|br h (λf h=>Z2<|dn h (i2 iR)) λf h=> bd h λl d h=>Z0 24 [(1,n d)]<|nx h) λe h=> Z2<|dn h (i1 iE)
theorem wj65x1 {e r Γ} (h:(j65x1 e)=some r):JnE prog f65 Γ (R65 r) 19 ⟨104,[(0,slF Yy e)],[]⟩:= so<|Z2<|bd h λg f h=>lp f wl65x1<|match g,h with | .inl q0,h=>j1<|(qe<|goN [] []<|bd h λj a h=>lp a wl65x2<|match j,h with | .inl l,h=>j1<|(qe<|goN [] []<|bd h λk b h=>lp b wl65x4<|match k,h with | .inl m,h=>j1<|(qe<|goN [] []<|bd h λd c h=>lp c wl65x5<|match d,h with | .inl i,h=>j1<|(qe<|Xs h) | .inr n,h=>j2<|(qr h)) | .inr o,h=>j2<|(qr h)) | .inr p,h=>j2<|(qr h)) | .inr q,h=>j2<|(qr h)
theorem w65 {a r} (h:Zh5 a=some r):Zi prog 65 [slF Yy a] (R65 r):= cs f65<|sp h (λb h=>Z0 1 [(1,ln a),(2,kb b)]<|bT rfl<|Z3 h) λb h=> Z0 1 [(1,ln a),(2,kb b),(5,ln a)]<|br h (λc h=>Z3 h) λc h=> go [3] []<|jn (wj65x1 h)
def R67 (a:Bool):D:= .bool a
def Zet (a:Q2) (b:Zq) (g t0:Int):Option (Ctl (Int) (Unit⊕Bool)):= if decide (t0<g) then (Z4 b.Yr t0).bind λc=> if c.Xn==a.Xn then (Z4 b.Yr t0).bind λd=> if d.Zn==a.Zn then some (.done (.inr false)) else (some (wrap .i64 (t0+1))).bind λe=> some (.next e) else (some (wrap .i64 (t0+1))).bind λf=> some (.next f) else some (.done (.inl (())))
def j67x1 (b:Q2) (c:Zq) (d:Int):Option (Bool):= (Z8 (Zet b c d) Zb 0).bind λa=> match a with | .inl q0=>(some true) | .inr e=>(some e)
def Zha (b:Zq) (c:Int):Option (Bool):= (Z4 b.Yr c).bind λa=> if decide (a.Xn<0) then some false else if decide (a.Xn≥(b.X3.length:Int)) then some false else if decide (a.Zy<0) then some false else if decide (a.Zy≥(b.Y6.length:Int)) then some false else (Z4 b.Y6 a.Zy).bind λd=> if !(d.Xp.Zn==a.Zn) then some false else (j67x1 a b c)
def Zyl (a:Q2) (b:Zq) (c:Int):Int→SL:= λt0=>⟨74,[(1,dI c),(2,.ptr (Yq b)),(5,.lptr 5 0 0),(6,dI t0)],[(5,Zc 3 [Qa a])]⟩
def J67x1:JT (Unit⊕Bool):= ju (je 0 λq0:Unit=>⟨74,[],[]⟩) (jr prog f67 R67)
theorem wl67x1 {c d e t0 r Γ} (h:(Zet c d e) t0=some r):A prog Γ (lpC f67 87) [] (Rd (Zyl c d e) J67x1 r) ((Zyl c d e) t0).s:= Z2<|br h (λk h=>bd h λl f h=>sp h (λb h=>bd h λm g h=>Z0 7 [(3,ix f),(8,kb b),(13,ix g)]<|br h (λa h=>Z2<|dn h (i2 iR)) λa h=> bd h λo i h=>Z0 6 [(1,n i)]<|nx h) λb h=> Z0 7 [(3,ix f),(8,kb b)]<|bF rfl<|bd h λp j h=>Z0 6 [(1,n j)]<|nx h) λk h=> Z2<|dn h (i1 iE)
theorem wj67x1 {a b c r Γ} (h:(j67x1 a b c)=some r):JnE prog f67 Γ (R67 r) 39 ⟨74,[(1,dI c),(2,.ptr (Yq b)),(5,.lptr 5 0 0)],[(5,Zc 3 [Qa a])]⟩:= so<|Z2<|bd h λe d h=>lp d wl67x1<|match e,h with | .inl q0,h=>j1<|(qe<|Xs h) | .inr f,h=>j2<|(qr h)
theorem w67 {a g r} (h:Zha a g=some r):Zi prog 67 [.agg (Yq a),dI g] (R67 r):= cs f67<|bd h λk c h=>sp h (λb h=>go [] [rg 0 [(0,bo)],rg 1 [(3,ix c)],rg 2 [(2,kb b)]]<|bT rfl<|Z3 h) λb h=> sp h (λd h=>go [] [rg 0 [(0,bo)],rg 1 [(3,ix c)],rg 2 [(2,kb b),(8,ln a.X3),(9,kb d)]]<|bT rfl<|Z3 h) λd h=> sp h (λe h=>go [] [rg 0 [(0,bo)],rg 1 [(3,ix c)],rg 2 [(2,kb b),(8,ln a.X3),(9,kb d),(14,kb e)]]<|bT rfl<|Z3 h) λe h=> sp h (λf h=>go [] [rg 0 [(0,bo)],rg 1 [(3,ix c)],rg 2 [(2,kb b),(8,ln a.X3),(9,kb d),(14,kb e),(21,ln a.Y6),(22,kb f)]]<|bT rfl<|Z3 h) λf h=> bd h λl i h=>go [] [rg 0 [(0,bo)],rg 1 [(3,ix c)],rg 2 [(2,kb b),(8,ln a.X3),(9,kb d),(14,kb e),(21,ln a.Y6),(22,kb f),(29,ix i)]]<|br h (λj h=>Z3 h) λj h=> go [4] []<|jn (wj67x1 h)
def R92 (a:(List Bool)):D:=(slF Zu a)
def Zcs (t2:Int×(List Bool)) (b:V7):Option (Ctl (Int×(List Bool)) (List Bool)):= (X7 b.f_A t2.2.length).bind λa=> (t2.2[a]?).bind λe=> (X7 b.f_B (t2.2.set a true).length).bind λc=> ((t2.2.set a true)[c]?).bind λf=> (some (wrap .i64 (t2.1+1))).bind λd=> some (.next (d,((t2.2.set a true).set c true)))
def Zf7 (h:Zq) (i:List UInt8) (t2:Int×(List Bool)):Option (Ctl (Int×(List Bool)) (List Bool)):= if decide (t2.1<(h.Q3.length:Int)) then (Z4 h.Q3 t2.1).bind λa=> if a.Zn==i then (X7 a.f_A t2.2.length).bind λb=> (t2.2[b]?).bind λc=> if c then (Zcs t2 a) else (X7 a.f_B t2.2.length).bind λd=> (t2.2[d]?).bind λe=> if e then (Zcs t2 a) else (some (wrap .i64 (t2.1+1))).bind λf=> some (.next (f,t2.2)) else (some (wrap .i64 (t2.1+1))).bind λg=> some (.next (g,t2.2)) else some (.done (t2.2))
def Zf6 (b:Zq) (d:List UInt8) (t0:Int×(List Bool)):Option (Ctl (Int×(List Bool)) (List Bool)):= if decide (t0.1<(b.X3.length:Int)) then (Z8 (Zf7 b d) Zb (0,t0.2)).bind λc=> (some (wrap .i64 (t0.1+1))).bind λa=> some (.next (a,c)) else some (.done (t0.2))
def Zh4 (a:Zq) (c:List UInt8) (d:Int):Option (List Bool):= (W2 1 (a.X3.length:Int) (a.X3.length:Int)).bind λe=> (X7 d (List.replicate (a.X3.length:Int).toNat false).length).bind λb=> ((List.replicate (a.X3.length:Int).toNat false)[b]?).bind λf=> (Z8 (Zf6 a c) Zb (0,((List.replicate (a.X3.length:Int).toNat false).set b true))).bind λq4=> some q4
def Zpk (t0:Int×(List Bool)) (a:Zq) (b:List UInt8):(Int×(List Bool))→SL:= λt2=>⟨64,[(1,.str b),(3,.ptr (Yq a)),(7,.lsl 7 0 ((t2.2.map Zu).length)),(8,dI t0.1),(9,dI t2.1)],[(7,Zd 1 (t2.2.map Zu))]⟩
def J92x2 (t0:Int×(List Bool)) (b:Zq) (c:List UInt8):JT (List Bool):= je 2 λa:(List Bool)=>⟨64,[(1,.str c),(3,.ptr (Yq b)),(7,.lsl 7 0 ((a.map Zu).length)),(8,dI t0.1)],[(7,Zd 1 (a.map Zu))]⟩
theorem Y16 (t0:Int×(List Bool)) (d:Zq) (e:List UInt8) {t2 b r Γ} (h:(Zcs t2 b)=some r):Jn prog f92 Γ (Rd (Zpk t0 d e) (J92x2 t0 d e) r) 1254551 ⟨64,[(1,.str e),(3,.ptr (Yq d)),(7,.lsl 7 0 ((t2.2.map Zu).length)),(8,dI t0.1),(9,dI t2.1),(10,.lptr 10 0 0)],[(7,Zd 1 (t2.2.map Zu)),(10,Zc 3 [Qi b])]⟩:= so<|bd h λa f h=>bd h λl g h=>go [12] [rg 11 [(3,ia 7 f),(4,st g 0 [.bool true] true)]]<|nm (congrArg (λnn:Nat=>(⟨64,[(1,.str e),(3,.ptr (Yq d)),(7,.lsl 7 0 nn),(8,dI t0.1),(9,dI t2.1),(10,.lptr 10 0 0)],[(7,Zd 1 ((t2.2.set a true).map Zu)),(10,Zc 3 [Qi b])]⟩:SL)) (by simp only[List.length_map,List.length_set]:(t2.2.map Zu).length=((t2.2.set a true).map Zu).length))<|so<|bd h λc i h=>bd h λm j h=>go [8] [rg 12 [(3,ia 7 i),(4,st j 0 [.bool true] true)]]<|nm (congrArg (λnn:Nat=>(⟨64,[(1,.str e),(3,.ptr (Yq d)),(7,.lsl 7 0 nn),(8,dI t0.1),(9,dI t2.1)],[(7,Zd 1 (((t2.2.set a true).set c true).map Zu))]⟩:SL)) (by simp only[List.length_map,List.length_set]:((t2.2.set a true).map Zu).length=(((t2.2.set a true).set c true).map Zu).length))<|so<|bd h λo k h=>Z0 8 [(1,n k)]<|nx h
theorem wl92x2 (t0:Int×(List Bool)) {c d t2 r Γ} (h:(Zf7 c d) t2=some r):A prog Γ (lpC f92 5271) [] (Rd (Zpk t0 c d) (J92x2 t0 c d) r) ((Zpk t0 c d) t2).s:= Z0 7 [(3,ln c.Q3)]<|br h (λm h=>bd h λp e h=>go [10] [rg 9 [(3,ix e)]]<|po<|pr 5 []<|sp h (λa h=>bd h λq f h=>bd h λt g h=>pr 6 (gC a 5 3 [(8,gw a (ia 7 f)),(9,gw a (lb g)),(10,gw a g0)])<|sp h (λb h=>pr 7 (gA b 11 5 [(16,gw a (py b)),(17,py a)])<|Z9<|bT rfl<|go [11] []<|jn ((Y16 t0 c d) h)) λb h=> bd h λu i h=>bd h λv j h=>pr 7 (gC b 11 3 [(14,gw b (ia 7 i)),(15,gw b (lb j)),(16,gw a (pn b)),(17,py a)])<|Z9<|br h (λo h=>go [11] []<|jn ((Y16 t0 c d) h)) λo h=> bd h λw k h=>Z0 8 [(1,n k)]<|nx h) λa h=> pr 13 (gB a 5 6 [(16,gs1 a),(17,pn a)])<|Z9<|bF rfl<|bd h λx l h=>Z0 8 [(1,n l)]<|nx h) λm h=> Z2<|dn h (iE)
def Zz2 (a:Zq) (b:List UInt8):(Int×(List Bool))→SL:= λt0=>⟨64,[(1,.str b),(3,.ptr (Yq a)),(7,.lsl 7 0 ((t0.2.map Zu).length)),(8,dI t0.1)],[(7,Zd 1 (t0.2.map Zu))]⟩
def J92x1:JT (List Bool):= je 0 λq4:(List Bool)=>⟨64,[(7,.lsl 7 0 ((q4.map Zu).length))],[(7,Zd 1 (q4.map Zu))]⟩
theorem wl92x1 {a d t0 r Γ} (h:(Zf6 a d) t0=some r):A prog Γ (lpC f92 87) [] (Rd (Zz2 a d) J92x1 r) ((Zz2 a d) t0).s:= Z0 4 [(3,ln a.X3)]<|br h (λe h=>Z2<|bd h λg b h=>lp b (wl92x2 t0)<|qe<|bd h λf c h=>goN [] [rg 5 [(1,n c)]]<|nx h) λe h=> Z2<|dn h (iE)
theorem w92 {a c e r} (h:Zh4 a c e=some r):Zi prog 92 [.agg (Yq a),.str c,dI e] (R92 r):= cs f92<|bd h λj f h=>bd h λd g h=>bd h λk i h=>go [3] [rg 0 [(0,bo)],rg 1 [(2,ln a.X3),(3,mk false f)],rg 2 [(2,ia 14 g),(3,st i 0 [.bool true] true)]]<|nm (congrArg (λnn:Nat=>(⟨64,[(1,.str c),(3,.ptr (Yq a)),(7,.lsl 14 0 nn)],[(14,Zd 1 (((List.replicate (a.X3.length:Int).toNat false).set d true).map Zu))]⟩:SL)) (by simp only[List.length_map,List.length_set]:((List.replicate (a.X3.length:Int).toNat false).map Zu).length=(((List.replicate (a.X3.length:Int).toNat false).set d true).map Zu).length))<|so<|Z2<|bd h λq4 b h=>lp (ps:=[(14,7)]) b wl92x1<|qe<|goN [] []<|rtB h (rw_ q4) (a2 (rpI q4) trivial) (by simp only[rwE] <;> kernel_rfl)
def R68 (a:Bool):D:= .bool a
def Zeu (b:Q2) (c:(List Bool)) (h:Zq) (i t0:Int):Option (Ctl (Int) (Unit⊕Bool)):= if decide (t0<i) then (Z4 h.Yr t0).bind λa=> if a.Zn==b.Zn then (Z4 c a.Xn).bind λd=> if d then if a.Zy !=b.Zy then some (.done (.inr false)) else (some (wrap .i64 (t0+1))).bind λe=> some (.next e) else (some (wrap .i64 (t0+1))).bind λf=> some (.next f) else (some (wrap .i64 (t0+1))).bind λg=> some (.next g) else some (.done (.inl (())))
def Zh9 (b:Zq) (c:Int):Option (Bool):= (Z4 b.Yr c).bind λa=> (Zh4 b a.Zn a.Xn).bind λe=> (Z8 (Zeu a e b c) Zb 0).bind λd=> match d with | .inl q0=>(some true) | .inr f=>(some f)
def Zym (a:Q2) (b:(List Bool)) (c:Zq) (d:Int):Int→SL:= λt0=>⟨49,[(1,dI d),(2,.ptr (Yq c)),(5,.lptr 5 0 0),(6,slF Zu b),(7,dI t0)],[(5,Zc 3 [Qa a])]⟩
def J68x1:JT (Unit⊕Bool):= ju (je 0 λq0:Unit=>⟨49,[],[]⟩) (jr prog f68 R68)
theorem wl68x1 {c d e f t0 r Γ} (h:(Zeu c d e f) t0=some r):A prog Γ (lpC f68 87) [] (Rd (Zym c d e f) J68x1 r) ((Zym c d e f) t0).s:= Z2 <| br h (λm h=>bd h λp g h=>go [7] [rg 6 [(3,ix g)]]<|po<|pr 6 []<|sp h (λa h=>bd h λq i h=>pr 7 (gC a 6 3 [(9,gw a (ix i)),(10,gw a g0),(11,py a)])<|sp h (λb h=>pr 6 (gC b 13 5 [(18,py b)])<|Z9<|br h (λo h=>Z2<|dn h (i2 iR)) λo h=> bd h λt j h=>Z0 5 [(1,n j)]<|nx h) λb h=> pr 6 (gB b 13 5 [(18,pn b)])<|Z9<|bF rfl<|bd h λu k h=>Z0 5 [(1,n k)]<|nx h) λa h=> pr 13 (gB a 6 5 [(11,pn a)])<|Z9<|bF rfl<|bd h λv l h=>Z0 5 [(1,n l)]<|nx h) λm h=> Z2<|dn h (i1 iE)
theorem w68 {a b r} (h:Zh9 a b=some r):Zi prog 68 [.agg (Yq a),dI b] (R68 r):= cs f68<|bd h λg c h=>bd h λi d h=>go [] [rg 0 [(0,bo)],rg 1 [(3,ix c)],rg 2 [(5,k (w92 d))]]<|bd h λf e h=>lp e wl68x1<|match f,h with | .inl q0,h=>j1<|(qe<|Xs h) | .inr j,h=>j2<|(qr h)
def R131 (a:Bool):D:= .bool a
def Zdc (a:List Zz) (t0:Int):Option (Ctl (Int) (Unit⊕Bool)):= if decide (t0<(a.length:Int)) then (Z4 a t0).bind λb=> if b.Vk !=0 then some (.done (.inr false)) else (some (wrap .i64 (t0+1))).bind λc=> some (.next c) else some (.done (.inl (())))
def Za4 (b:List Zz):Option (Bool):= (Z8 (Zdc b) Zb 0).bind λa=> match a with | .inl q0=>(some true) | .inr c=>(some c)
def Zw4 (a:List Zz):Int→SL:= λt0=>⟨16,[(0,slF Yz a),(3,dI t0)],[]⟩
def J131x1:JT (Unit⊕Bool):= ju (je 0 λq0:Unit=>⟨16,[],[]⟩) (jr prog f131 R131)
theorem wl131x1 {a t0 r Γ} (h:(Zdc a) t0=some r):A prog Γ (lpC f131 21) [] (Rd (Zw4 a) J131x1 r) ((Zw4 a) t0).s:= Z0 2 [(2,ln a)]<|br h (λd h=>bd h λf b h=>Z0 4 [(2,ix b)]<|br h (λe h=>Z2<|dn h (i2 iR)) λe h=> bd h λg c h=>Z0 3 [(1,n c)]<|nx h) λd h=> Z2<|dn h (i1 iE)
theorem w131 {a r} (h:Za4 a=some r):Zi prog 131 [slF Yz a] (R131 r):= cs f131<|Z2<|bd h λc b h=>lp b wl131x1<|match c,h with | .inl q0,h=>j1<|(qe<|Xs h) | .inr d,h=>j2<|(qr h)
def R122 (a:Bool):D:= .bool a
def Zbz (t0 : Int) (a:Ql) (b:Bool):Option (Ctl (Int) (Unit⊕Bool)):= if !b then if a.W1 !=8 then if a.W1 !=0 then some (.done (.inr false)) else if a.f_N !=0 then some (.done (.inr false)) else if !(a.f_S==([]:List UInt8)) then some (.done (.inr false)) else (some (wrap .i64 (t0+1))).bind λc=> some (.next c) else if a.f_N !=0 then some (.done (.inr false)) else if !(a.f_S==([]:List UInt8)) then (some (wrap .i64 (t0+1))).bind λd=> some (.next d) else (some (wrap .i64 (t0+1))).bind λe=> some (.next e) else if a.f_N !=0 then if !(a.f_S==([]:List UInt8)) then if a.W1 !=8 then some (.done (.inr false)) else (some (wrap .i64 (t0+1))).bind λf=> some (.next f) else (some (wrap .i64 (t0+1))).bind λg=> some (.next g) else if !(a.f_S==([]:List UInt8)) then if a.W1 !=8 then some (.done (.inr false)) else (some (wrap .i64 (t0+1))).bind λh=> some (.next h) else (some (wrap .i64 (t0+1))).bind λi=> some (.next i)
def Zd2 (b:Yj) (t0:Int):Option (Ctl (Int) (Unit⊕Bool)):= if decide (t0<(b.Ym.length:Int)) then (Z4 b.Ym t0).bind λa=> if a.W1==3 then (Zbz t0 a) true else (Zbz t0 a) (a.W1==5) else some (.done (.inl (())))
def Zd4 (a:Q6) (t4:Int):Option (Ctl (Int) (Unit⊕Bool)):= if decide (t4<(a.Qc.Xm.length:Int)) then (Z4 a.Qc.Xm t4).bind λb=> if b.Zy !=0 then some (.done (.inr false)) else (some (wrap .i64 (t4+1))).bind λc=> some (.next c) else some (.done (.inl (())))
def Zd5 (a:Q6) (b:Int):Option (Ctl (Int) (Unit⊕Bool)):= if decide (b<(a.Qc.Xe.length:Int)) then (Z4 a.Qc.Xe b).bind λc=> (Za4 c.Xa.Y1).bind λd=> if !d then some (.done (.inr false)) else (Z4 a.Qc.Xe b).bind λe=> (Za4 e.Xa.Y5).bind λf=> if !f then some (.done (.inr false)) else (some (wrap .i64 (b+1))).bind λg=> some (.next g) else some (.done (.inl (())))
def Zc0 (t1:Int) (a:Q6):Option (Ctl (Int) (Unit⊕Bool)):= (Z8 (Zd4 a) Zb 0).bind λc=> match c with | .inl g=>((Z8 (Zd5 a) Zb 0).bind λd=> match d with | .inl h=>((some (wrap .i64 (t1+1))).bind λb=> some (.next b)) | .inr e=>(some (.done (.inr e)))) | .inr f=>(some (.done (.inr f)))
def Zd3 (f:Yj) (t1:Int):Option (Ctl (Int) (Unit⊕Bool)):= if decide (t1<(f.Yo.length:Int)) then (Z4 f.Yo t1).bind λa=> (Z4 f.Yo t1).bind λb=> if !b.Uh then if a.Qc.Y5 !=0 then some (.done (.inr false)) else if a.Qc.Y1 !=0 then some (.done (.inr false)) else (some (wrap .i64 ((a.Qc.Y7.length:Int)+(a.Qc.Xm.length:Int)))).bind λc=> (some (wrap .i64 (c+(a.Qc.Xe.length:Int)))).bind λd=> (some (wrap .i64 (d+(a.Qc.Xf.length:Int)))).bind λe=> if decide (e>0) then some (.done (.inr false)) else (Zc0 t1 a) else (Zc0 t1 a) else some (.done (.inl (())))
def Zh1 (b:Yj):Option (Bool):= (Z8 (Zd2 b) Zb 0).bind λc=> match c with | .inl q0=>((Z8 (Zd3 b) Zb 0).bind λa=> match a with | .inl d=>(some true) | .inr e=>(some e)) | .inr f=>(some f)
def Zoq (a:Yj):Int→SL:= λt0=>⟨150,[(1,.ptr (Qd a)),(3,dI t0)],[]⟩
def Zqb (a:Yj):JT (Unit⊕Bool):= ju (je 0 λq0:Unit=>⟨150,[(1,.ptr (Qd a))],[]⟩) (jr prog f122 R122)
theorem Zzr (o:Yj) {t0 q p r Γ} (h:(Zbz t0 q) p=some r):Jn prog f122 Γ (Rd (Zoq o) (Zqb o) r) 2853 ⟨150,[(1,.ptr (Qd o)),(3,dI t0),(4,.lptr 4 0 0),(5,.bool p)],[(4,Zc 6 [Wl q])]⟩:= po <| pr 3 []<|sp h (λa h=>pr 5 (gC a 3 3 [(6,py a)])<|sp h (λc h=>pr 5 (gC c 8 3 [(11,py c)])<|sp h (λb h=>pr 18 (gA b 13 4 [(19,gs0 b),(20,py b)])<|Z9<|bT rfl<|Z2<|dn h (i2 iR)) λb h=> pr 4 (gC b 13 4 [])<|sp h (λf h=>pr 14 (gC f 17 2 ((19,gw b (py f))::(20,pn b)::gA a 22 4 [(29,gs0 a),(30,py a)]))<|Z9<|bT rfl<|Z2<|dn h (i2 iR)) λf h=> pr 9 (gB f 17 2 [(19,gw b (pn f)),(20,pn b)])<|sp h (λd h=>pr 5 (gC d 26 2 [(28,gw d (kb c)),(29,py d)])<|Z9<|bT rfl<|Z2<|dn h (i2 iR)) λd h=> pr 5 (gB d 26 3 [(29,pn d)])<|Z9<|bF rfl<|bd h λz s h=>Z0 3 [(1,n s)]<|nx h) λc h=> pr 9 (gB c 8 3 [(11,pn c)])<|sp h (λg h=>pr 14 (gC g 17 2 ((19,py g)::gA a 22 4 [(29,gs0 a),(30,py a)]))<|Z9<|bT rfl<|Z2<|dn h (i2 iR)) λg h=> pr 9 (gB g 17 2 [(19,pn g)])<|sp h (λe h=>pr 5 (gC e 26 2 [(28,gw e (kb c)),(29,py e)])<|Z9<|bF rfl<|bd h λA t h=>Z0 3 [(1,n t)]<|nx h) λe h=> pr 5 (gB e 26 3 [(29,pn e)])<|Z9<|bF rfl<|bd h λB u h=>Z0 3 [(1,n u)]<|nx h) λa h=> pr 14 (gB a 3 3 [(6,pn a)])<|sp h (λi h=>pr 9 (gC i 17 2 ((19,py i)::gC a 22 4 []))<|sp h (λj h=>pr 5 (gC j 26 3 [(29,gw a (py j)),(30,pn a)])<|Z9<|br h (λl h=>Z2<|dn h (i2 iR)) λl h=> bd h λC v h=>Z0 3 [(1,n v)]<|nx h) λj h=> pr 5 (gB j 26 3 [(29,gw a (pn j)),(30,pn a)])<|Z9<|bF rfl<|bd h λD w h=>Z0 3 [(1,n w)]<|nx h) λi h=> pr 9 (gB i 17 2 [(19,pn i)])<|sp h (λk h=>pr 5 (gC k 26 3 [(29,py k)])<|Z9<|br h (λm h=>Z2<|dn h (i2 iR)) λm h=> bd h λE x h=>Z0 3 [(1,n x)]<|nx h) λk h=> pr 5 (gB k 26 3 [(29,pn k)])<|Z9<|bF rfl<|bd h λF y h=>Z0 3 [(1,n y)]<|nx h
theorem wl122x1 {b t0 r Γ} (h:(Zd2 b) t0=some r):A prog Γ (lpC f122 21) [] (Rd (Zoq b) (Zqb b) r) ((Zoq b) t0).s:= Z0 2 [(3,ln b.Ym)]<|br h (λc h=>bd h λe d h=>sp h (λa h=>go [6] [rg 4 [(3,ix d)],rg 5 [(2,kb a)]]<|jn ((Zzr b) h)) λa h=> go [6] [rg 4 [(3,ix d)],rg 5 [(2,kb a)]]<|jn ((Zzr b) h)) λc h=> Z2<|dn h (i1 iE)
def Zvt (t1:Int) (a:Q6) (b:Yj):Int→SL:= λt4=>⟨150,[(1,.ptr (Qd b)),(6,dI t1),(7,.lptr 7 0 0),(8,dI t4)],[(7,Zc 6 [Yn a.Qc])]⟩
def J122x3 (t1:Int) (a:Q6) (b:Yj):JT (Unit⊕Bool):= ju (je 4 λc:Unit=>⟨150,[(1,.ptr (Qd b)),(6,dI t1),(7,.lptr 7 0 0)],[(7,Zc 6 [Yn a.Qc])]⟩) (jr prog f122 R122)
theorem wl122x3 (t1:Int) (f:Yj) {a t4 r Γ} (h:(Zd4 a) t4=some r):A prog Γ (lpC f122 22091) [] (Rd (Zvt t1 a f) (J122x3 t1 a f) r) ((Zvt t1 a f) t4).s:= Z0 15 [(3,ln a.Qc.Xm)]<|br h (λd h=>bd h λg b h=>Z0 17 [(3,ix b)]<|br h (λe h=>Z2<|dn h (i2 iR)) λe h=> bd h λi c h=>Z0 16 [(1,n c)]<|nx h) λd h=> Z2<|dn h (i1 iE)
def Zvu (t1:Int) (a:Q6) (c:Yj):Int→SL:= λb=>⟨150,[(1,.ptr (Qd c)),(6,dI t1),(7,.lptr 7 0 0),(9,dI b)],[(7,Zc 6 [Yn a.Qc])]⟩
def J122x4 (t1:Int) (a:Yj):JT (Unit⊕Bool):= ju (je 6 λb:Unit=>⟨150,[(1,.ptr (Qd a)),(6,dI t1)],[]⟩) (jr prog f122 R122)
theorem wl122x4 (t1:Int) (l:Yj) {b m r Γ} (h:(Zd5 b) m=some r):A prog Γ (lpC f122 24139) [] (Rd (Zvu t1 b l) (J122x4 t1 l) r) ((Zvu t1 b l) m).s:= Z0 20 [(3,ln b.Qc.Xe)]<|br h (λi h=>bd h λo c h=>bd h λp d h=>sp h (λa h=>go [] [rg 22 ((3,ix c)::(7,k (w131 d))::gA a 10 9 [(19,py a)])]<|bT rfl<|Z2<|dn h (i2 iR)) λa h=> bd h λq e h=>bd h λt f h=>go [] [rg 22 ((3,ix c)::(7,k (w131 d))::gC a 10 3 ((13,gw a (ix e))::gC a 14 3 [(17,gw a (k (w131 f))),(18,gw a g0),(19,pn a)]))]<|br h (λj h=>Z2<|dn h (i2 iR)) λj h=> bd h λu g h=>Z0 21 [(1,n g)]<|nx h) λi h=> Z2<|dn h (i1 iE)
def Zor (a:Yj):Int→SL:= λt1=>⟨150,[(1,.ptr (Qd a)),(6,dI t1)],[]⟩
def Zqc:JT (Unit⊕Bool):= ju (je 2 λa:Unit=>⟨150,[],[]⟩) (jr prog f122 R122)
theorem Zzs (b:Yj) {t1 a r Γ} (h:(Zc0 t1 a)=some r):Jn prog f122 Γ (Rd (Zor b) Zqc r) 9803 ⟨150,[(1,.ptr (Qd b)),(6,dI t1),(7,.lptr 7 0 0)],[(7,Zc 6 [Yn a.Qc])]⟩:= so<|Z2<|bd h λf c h=>lp c (wl122x3 t1 b)<|match f,h with | .inl j,h=>j1<|(qe<|goN [] []<|bd h λg d h=>lp d (wl122x4 t1 b)<|match g,h with | .inl k,h=>j1<|(qe<|bd h λi e h=>goN [] [rg 10 [(1,n e)]]<|nx h) | .inr l,h=>j2<|(ql h λ_ _ p=>⟨(iS p).1,i2 ((iS p).2)⟩)) | .inr m,h=>j2<|(ql h λ_ _ p=>⟨(iS p).1,i2 ((iS p).2)⟩)
theorem wl122x2 {e t1 r Γ} (h:(Zd3 e) t1=some r):A prog Γ (lpC f122 43) [] (Rd (Zor e) Zqc r) ((Zor e) t1).s:= Z0 9 [(3,ln e.Yo)]<|br h (λl h=>bd h λd f h=>go [12] [rg 11 [(3,ix f)]]<|po<|bd h λo g h=>pr 8 [(3,ix g)]<|sp h (λa h=>pr 4 (gC a 8 4 [])<|sp h (λc h=>pr 23 (gA c 12 3 [(15,gw a (py c)),(16,gw a g0),(33,gw a g0),(34,py a)])<|Z9<|bT rfl<|Z2<|dn h (i2 iR)) λc h=> pr 5 (gC c 12 3 [(15,gw a (pn c)),(16,gw a g0)])<|sp h (λb h=>pr 18 (gA b 17 16 [(33,gw a (py b)),(34,py a)])<|Z9<|bT rfl<|Z2<|dn h (i2 iR)) λb h=> bd h λp i h=>bd h λq j h=>bd h λt k h=>pr 18 (gC b 17 2 ((19,gw b (ln d.Qc.Y7))::gC b 20 2 ((22,gw b (ln d.Qc.Xm))::(23,gw b (n i))::gC b 24 2 ((26,gw b (ln d.Qc.Xe))::(27,gw b (n j))::gC b 28 2 [(30,gw b (ln d.Qc.Xf)),(31,gw b (n k)),(32,gw b g0),(33,gw a (pn b)),(34,py a)]))))<|Z9<|br h (λm h=>Z2<|dn h (i2 iR)) λm h=> go [14] []<|jn ((Zzs e) h)) λa h=> pr 27 (gB a 8 4 (gB a 15 2 [(33,gs1 a),(34,pn a)]))<|Z9<|bF rfl<|go [14] []<|jn ((Zzs e) h)) λl h=> Z2<|dn h (i1 iE)
theorem w122 {c r} (h:Zh1 c=some r):Zi prog 122 [.agg (Qd c)] (R122 r):= cs f122<|Z0 0 [(0,bo)]<|bd h λe d h=>lp d wl122x1<|match e,h with | .inl q0,h=>j1<|(qe<|goN [] []<|bd h λb a h=>lp a wl122x2<|match b,h with | .inl f,h=>j1<|(qe<|Xs h) | .inr g,h=>j2<|(qr h)) | .inr i,h=>j2<|(qr h)
def R155 (a:(List Za)×Int×Int):D:= .tup [slF Zv a.1,.int .i64 a.2.1,.int .i64 a.2.2]
def Zdl (a:List Za) (e:Za) (t0:Int):Option (Ctl (Int) (Unit⊕((List Za)×Int×Int))):= if decide (t0<(a.length:Int)) then (Z4 a t0).bind λb=> if Zsq b e then (some (wrap .i64 (t0+1))).bind λc=> some (.done (.inr (a,c,0))) else (some (wrap .i64 (t0+1))).bind λd=> some (.next d) else some (.done (.inl (())))
def Z0m (a:List Za) (b:Za):Option ((List Za)×Int×Int):= (Z8 (Zdl a b) Zb 0).bind λc=> match c with | .inl q0=>(if decide ((a.length:Int)≥1000) then some (a,0,5) else (some (wrap .i64 ((a.length:Int)+1))).bind λd=> (Yp 48 (([]:List Za)++a).length).bind λf=> (Yp 48 ((([]:List Za)++a)++[b]).length).bind λg=> some (((([]:List Za)++a)++[b]),d,0)) | .inr e=>(some e)
def Zwf (a:List Za) (b:Za):Int→SL:= λt0=>⟨36,[(0,slF Zv a),(3,.ptr (Zv b)),(7,dI t0)],[]⟩
def J155x1 (a:List Za) (b:Za):JT (Unit⊕((List Za)×Int×Int)):= ju (je 0 λq0:Unit=>⟨36,[(0,slF Zv a),(3,.ptr (Zv b))],[]⟩) (jr prog f155 R155)
theorem wl155x1 {a b t0 r Γ} (h:(Zdl a b) t0=some r):A prog Γ (lpC f155 21) [] (Rd (Zwf a b) (J155x1 a b) r) ((Zwf a b) t0).s:= Z0 2 [(2,ln a)]<|br h (λf h=>bd h λi c h=>Z0 4 [(2,ix c),(5,qs eqg_239 eqp_239 (Zsq i b))]<|br h (λg h=>bd h λj d h=>Z0 5 [(2,n d)]<|dn h (i2 iR)) λg h=> bd h λk e h=>Z0 3 [(1,n e)]<|nx h) λf h=> Z2<|dn h (i1 iE)
theorem w155 {a b r} (h:Z0m a b=some r):Zi prog 155 [slF Zv a,.agg (Zv b)] (R155 r):= cs f155<|Z0 0 [(0,bo)]<|bd h λi c h=>lp c wl155x1<|match i,h with | .inl q0,h=>j1<|(qe<|goN [] [rg 6 [(1,ln a)]]<|br h (λg h=>Z3 h) λg h=> bd h λj d h=>bd h λk e h=>bd h λl f h=>go [] [rgq 8 [(7,ln a),(8,n d),(0,br0 0 5),(4,br0 1 5),(2,an fr0 e),(5,ap f)] [1,3,6,7,8,0,4,2,5,9,10,11] [2,5,1003,1006,1007,1008,2004,1004]]<|rtB h (.tup [rw_ ((([]:List Za)++a)++[b]),dI j,dI 0]) (a2 (rpI ((([]:List Za)++a)++[b])) (a2 trivial (a2 trivial trivial))) (by simp only[rwE] <;> kernel_rfl)) | .inr m,h=>j2<|(qr h)
def R153 (a:(List Za)×Int×Int):D:= .tup [slF Zv a.1,.int .i64 a.2.1,.int .i64 a.2.2]
def Z1m (b:List Za) (c:List UInt8):Option ((List Za)×Int×Int):= (Z0m b (Za.mk 1 c 0 0 0)).bind λa=> some (a.1,a.2.1,a.2.2)
theorem w153 {a b r} (h:Z1m a b=some r):Zi prog 153 [slF Zv a,.str b] (R153 r):= cs f153<|bd h λd c h=>Z0 1 [(3,k (w155 c))]<|rt h
def R181 (a:(List Za)×Int×Int):D:= .tup [slF Zv a.1,.int .i64 a.2.1,.int .i64 a.2.2]
def Z9h (c:List Za) (d:Int) (e:List UInt8):Option ((List Za)×Int×Int):= (Z1m c e).bind λa=> if a.2.2 !=0 then some (c,0,a.2.2) else (Z0m a.1 (Za.mk d [] 0 a.2.1 0)).bind λb=> if b.2.2 !=0 then some (c,0,b.2.2) else some (b.1,b.2.1,0)
theorem w181 {a b c r} (h:Z9h a b c=some r):Zi prog 181 [slF Zv a,dI b,.str c] (R181 r):= cs f181<|bd h λi d h=>Z0 1 [(2,k (w153 d))]<|br h (λf h=>Z3 h) λf h=> bd h λj e h=>Z0 4 [(4,k (w155 e))]<|br h (λg h=>Z3 h) λg h=> Z3 h
def R152 (a:(List Za)×Int×Int):D:= .tup [slF Zv a.1,.int .i64 a.2.1,.int .i64 a.2.2]
def Z4u (b:List Za) (c:List UInt8):Option ((List Za)×Int×Int):= (Z9h b 7 c).bind λa=> some (a.1,a.2.1,a.2.2)
theorem w152 {a b r} (h:Z4u a b=some r):Zi prog 152 [slF Zv a,.str b] (R152 r):= cs f152<|bd h λd c h=>Z0 1 [(2,k (w181 c))]<|rt h
def B132 (a:Yh×Int):List Blk:=[{ sz:=2,rows:=[Wm a.1],frz:=0,pure:=false,pin:=some 0 }]
def R132 (a:Yh×Int):D:= .int .i64 a.2
def Z1h (b:Yh) (c:List UInt8):Option (Yh×Int):= if b.f_E !=0 then some (b,0) else (Z4u b.f_P c).bind λa=> some ((Yh.mk a.1 a.2.2),a.2.1)
theorem w132 {b c r} (h:Z1h b c=some r):Vs prog 132 [.lptr 0 0 0,.str c] [{ sz:=2,rows:=[Wm b],frz:=0,pure:=false,pin:=some 0 }] (R132 r) (B132 r):= csO f132 (m:=1) (keep:=[true])<|Z2<|br h (λe h=>Z2<|rtO h (dI 0) [{ sz:=2,rows:=[Wm b],frz:=0,pure:=false,pin:=some 0 }] (a2 trivial trivial) rfl) λe h=> bd h λa d h=>Z0 3 [(5,k (w152 d))]<|rtO h (dI a.2.1) [{ sz:=2,rows:=[[slF Zv a.1,dI a.2.2]],frz:=0,pure:=false,pin:=some 0 }] (a2 trivial trivial) rfl
def B133 (a:Yh×Int):List Blk:=[{ sz:=2,rows:=[Wm a.1],frz:=0,pure:=false,pin:=some 0 }]
def R133 (a:Yh×Int):D:= .int .i64 a.2
def Lt (b:Yh) (c:List UInt8):Option (Yh×Int):= if b.f_E !=0 then some (b,0) else (Z1m b.f_P c).bind λa=> some ((Yh.mk a.1 a.2.2),a.2.1)
theorem Mv {b c r} (h:Lt b c=some r):Vs prog 133 [.lptr 0 0 0,.str c] [{ sz:=2,rows:=[Wm b],frz:=0,pure:=false,pin:=some 0 }] (R133 r) (B133 r):= csO f133 (m:=1) (keep:=[true])<|Z2<|br h (λe h=>Z2<|rtO h (dI 0) [{ sz:=2,rows:=[Wm b],frz:=0,pure:=false,pin:=some 0 }] (a2 trivial trivial) rfl) λe h=> bd h λa d h=>Z0 3 [(5,k (w153 d))]<|rtO h (dI a.2.1) [{ sz:=2,rows:=[[slF Zv a.1,dI a.2.2]],frz:=0,pure:=false,pin:=some 0 }] (a2 trivial trivial) rfl
def R154 (a:(List Za)×Int×Int):D:= .tup [slF Zv a.1,.int .i64 a.2.1,.int .i64 a.2.2]
def Z9e (b:List Za) (c:List UInt8):Option ((List Za)×Int×Int):= (Z9h b 8 c).bind λa=> some (a.1,a.2.1,a.2.2)
theorem w154 {a b r} (h:Z9e a b=some r):Zi prog 154 [slF Zv a,.str b] (R154 r):= cs f154<|bd h λd c h=>Z0 1 [(2,k (w181 c))]<|rt h
def B135 (a:Yh×Int):List Blk:=[{ sz:=2,rows:=[Wm a.1],frz:=0,pure:=false,pin:=some 0 }]
def R135 (a:Yh×Int):D:= .int .i64 a.2
def Zc2 (p0:List Za) (a b:Int):Option (Yh×Int):= some ((Yh.mk p0 b),a)
def Zff (a:Yh) (b:Ql):Option (Yh×Int):= if a.f_E !=0 then some (a,0) else if b.W1==8 then (Z9e a.f_P b.f_S).bind λc=> Zc2 c.1 c.2.1 c.2.2 else (Z0m a.f_P (Za.mk b.W1 [] b.f_N 0 0)).bind λd=> Zc2 d.1 d.2.1 d.2.2
theorem Zzy (c:Yh) {p0 a b r Γ} (h:Zc2 p0 a b=some r):Jn prog f135 Γ (Z12 prog f135 1 [true] (R135 r) (B135 r)) 47 ⟨54,[(0,.lptr 0 0 0),(5,slF Zv p0),(6,dI a),(7,dI b)],[(0,{ sz:=2,rows:=[Wm c],frz:=0,pure:=false,pin:=some 0 })]⟩:= so<|Z2<|rtO h (dI a) [{ sz:=2,rows:=[[slF Zv p0,dI b]],frz:=0,pure:=false,pin:=some 0 }] (a2 trivial trivial) rfl
theorem w135 {a b r} (h:Zff a b=some r):Vs prog 135 [.lptr 0 0 0,.agg (Wl b)] [{ sz:=2,rows:=[Wm a],frz:=0,pure:=false,pin:=some 0 }] (R135 r) (B135 r):= csO f135 (m:=1) (keep:=[true])<|Z0 0 [(0,bo)]<|br h (λe h=>Z2<|rtO h (dI 0) [{ sz:=2,rows:=[Wm a],frz:=0,pure:=false,pin:=some 0 }] (a2 trivial trivial) rfl) λe h=> Z2<|br h (λf h=>bd h λg c h=>go [7] [rg 5 [(6,k (w154 c))]]<|jn ((Zzy a) h)) λf h=> bd h λi d h=>go [7] [rg 6 [(9,k (w155 d))]]<|jn ((Zzy a) h)
def R165 (a:Bool):D:= .bool a
def Zfg (a:Int):Option (Bool):= if a==1 then some true else if a==2 then some true else if a==4 then some true else some (a==8)
theorem w165 {d r} (h:Zfg d=some r):Zi prog 165 [dI d] (R165 r):= cs f165<|go [1] []<|po<|pr 3 []<|sp h (λa h=>pr 12 (gA a 3 2 [(5,py a)])<|Zo h) λa h=> pr 4 (gC a 3 2 [(5,pn a)])<|sp h (λb h=>pr 8 (gA b 7 2 [(9,py b)])<|Zo h) λb h=> pr 4 (gC b 7 2 [(9,pn b)])<|sp h (λc h=>pr 4 (gA c 11 2 [(13,py c)])<|Zo h) λc h=> pr 4 (gC c 11 2 [(13,pn c)])<|Zo h
def R140 (a:(List UInt8)×Int):D:= .tup [.str a.1,.int .i64 a.2]
def Zdj (t0:Int×Int×(List Int)):Option (Ctl (Int×Int×(List Int)) (List Int)):= if decide (t0.2.1≥0) then (some (Vm .i64 t0.1 255)).bind λb=> (some (wrap .u8 b)).bind λc=> (X7 t0.2.1 t0.2.2.length).bind λa=> (t0.2.2[a]?).bind λf=> (shrK .i64 t0.1 8).bind λd=> (some (wrap .i64 (t0.2.1 - 1))).bind λe=> some (.next (d,e,(t0.2.2.set a c))) else some (.done (t0.2.2))
def Z7c (c a:Int):Option ((List UInt8)×Int):= (W2 1 a a).bind λd=> (some (wrap .i64 (a - 1))).bind λb=> (Z8 Zdj Zb (c,b,(List.replicate a.toNat 0))).bind λq0=> some ((bytesOf q0),0)
def Z1i (b a:Int):Option ((List UInt8)×Int):= (Zfg a).bind λc=> if !c then some ([],1) else if decide (a<8) then (some (wrap .i64 (8*a))).bind λd=> (some (wrap .i64 (d - 1))).bind λe=> (M5 .i64 1 e).bind λf=> (some (wrap .i64 (0 - f))).bind λg=> if decide (b<g) then some ([],8) else (some (wrap .i64 (8*a))).bind λh=> (M5 .i64 1 h).bind λi=> (some (wrap .i64 (i - 1))).bind λj=> if decide (b>j) then some ([],8) else (Z7c b a) else (Z7c b a)
def Zwc:(Int×Int×(List Int))→SL:= λt0=>⟨50,[(6,.lsl 6 0 ((t0.2.2.map rU8).length)),(7,dI t0.1),(8,dI t0.2.1)],[(6,Zd 1 (t0.2.2.map rU8))]⟩
def J140x1:JT (List Int):= je 0 λq0:(List Int)=>⟨50,[(6,.lsl 6 0 ((q0.map rU8).length))],[(6,Zd 1 (q0.map rU8))]⟩
theorem wl140x1 {t0 r Γ} (h:Zdj t0=some r):A prog Γ (lpC f140 351) [] (Rd Zwc J140x1 r) (Zwc t0).s:= Z2<|br h (λj h=>bd h λk c h=>bd h λa d h=>bd h λb e h=>bd h λl f h=>go [11] [rg 10 [(3,n c),(4,n8 d),(5,ia (R:=RU8) 6 e),(6,st (R:=RU8) f 0 [d8 a] a)]]<|nm (congrArg (λnn:Nat=>(⟨50,[(6,.lsl 6 0 nn),(7,dI t0.1),(8,dI t0.2.1)],[(6,Zd 1 ((t0.2.2.set b a).map rU8))]⟩:SL)) (by simp only[List.length_map,List.length_set]:(t0.2.2.map rU8).length=((t0.2.2.set b a).map rU8).length))<|so<|bd h λm g h=>bd h λo i h=>go [] [rg 11 [(1,sr g)],rg 9 [(1,n i)]]<|nx h) λj h=> Z2<|dn h (iE)
theorem Y01 {b c r Γ} (h:(Z7c b c)=some r):JnE prog f140 Γ (R140 r) 23 ⟨50,[(0,dI b),(1,dI c)],[]⟩:= so<|bd h λf d h=>bd h λg e h=>go [] [rg 5 [(1,mk (R:=RU8) 0 d)],rg 7 [(1,n e)]]<|bd h λq0 a h=>lp (ps:=[(32,6)]) a wl140x1<|qe<|goN [] [rg 12 [(1,bsB q0)]]<|rt h
theorem w140 {c d r} (h:Z1i c d=some r):Zi prog 140 [dI c,dI d] (R140 r):= cs f140<|bd h λs e h=>Z0 1 [(1,k (w165 e))]<|br h (λp h=>Z3 h) λp h=> go [3] []<|po<|pr 3 []<|sp h (λa h=>bd h λt f h=>bd h λu g h=>bd h λv i h=>bd h λw j h=>pr 8 (gC a 3 2 ((5,gw a (n f))::(6,gw a (n g))::(7,gw a (sl i))::(8,gw a (n j))::gC a 9 2 []))<|sp h (λb h=>pr 8 (gA b 11 6 [(17,gw a (py b)),(18,py a)])<|Z9<|bT rfl<|Z3 h) λb h=> bd h λx l h=>bd h λy m h=>bd h λz o h=>pr 8 (gC b 11 2 [(13,gw b (n l)),(14,gw b (sl m)),(15,gw b (n o)),(16,gw b g0),(17,gw a (pn b)),(18,py a)])<|Z9<|br h (λq h=>Z3 h) λq h=> go [5] []<|jn (Y01 h)) λa h=> pr 16 (gB a 3 8 [(17,gs1 a),(18,pn a)])<|Z9<|bF rfl<|go [5] []<|jn (Y01 h)
def R134 (a:(List UInt8)):D:= .str a
def Zh2 (b:Int):Option (List UInt8):= (Z1i b 2).bind λa=> some a.1
theorem w134 {a r} (h:Zh2 a=some r):Zi prog 134 [dI a] (R134 r):= cs f134<|bd h λc b h=>Z0 1 [(1,k (w140 b))]<|rt h
def R213 (a:Bool):D:= .bool a
def Z30 (a:Int):Option (Bool):= if decide (a≥0) then some (decide (a<81)) else some false
theorem w213 {b r} (h:Z30 b=some r):Zi prog 213 [dI b] (R213 r):= cs f213<|sp h (λa h=>Z0 1 [(1,kb a)]<|rt h) λa h=> Z0 1 [(1,kb a)]<|rt h
def R187 (a:Bool):D:= .bool a
def M1 (a b c:Int):Option (Bool):= if decide (a≥b) then some (decide (a≤c)) else some false
theorem w187 {b c d r} (h:M1 b c d=some r):Zi prog 187 [dI b,dI c,dI d] (R187 r):= cs f187<|sp h (λa h=>Z0 1 [(2,kb a)]<|rt h) λa h=> Z0 1 [(2,kb a)]<|rt h
def R185 (a:Int):D:= .int .i64 a
def Zc8 (a:Int):Option (Int):= (M1 a 36 52).bind λb=> if b then some 3 else (M1 a 4 9).bind λc=> if c then some 4 else if a == 10 then some 5 else if a==53 then some 6 else if a==54 then some 7 else some 0
def Zc7 (a:Int):Option (Int):= if a==77 then some 2 else (Zc8 a)
def M0 (a : Int):Option (Int):= (Z30 a).bind λb=> if !b then some (-1) else if a == 2 then some 1 else if a == 3 then some 2 else (M1 a 59 68).bind λc=> if c then some 2 else if a==76 then some 2 else (Zc7 a)
theorem wj185x2 {b r Γ} (h:(Zc8 b)=some r):JnE prog f185 Γ (R185 r) 1529 ⟨34,[(0,dI b)],[]⟩:= so<|bd h λj c h=>Z0 10 [(1,k (w187 c))]<|br h (λe h=>Z3 h) λe h=> bd h λl d h=>Z0 12 [(1,k (w187 d))]<|br h (λf h=>Z3 h) λf h=> Z2 <| br h (λg h=>Z3 h) λg h=> Z2<|br h (λi h=>Z3 h) λi h=> Z2<|br h (λa h=>Z3 h) λa h=> Z3 h
theorem wj185x1 {a r Γ} (h:(Zc7 a)=some r):JnE prog f185 Γ (R185 r) 505 ⟨34,[(0,dI a),(10,.bool (a==77))],[]⟩ (a==77):= br h (λb h=>Z3 h) λb h=> go [10] []<|jn (wj185x2 h)
theorem w185 {d r} (h:M0 d=some r):Zi prog 185 [dI d] (R185 r):= cs f185<|bd h λj e h=>Z0 1 [(1,k (w213 e))]<|br h (λg h=>Z3 h) λg h=> Z2 <| br h (λi h=>Z3 h) λi h=> Z2 <| br h (λa h=>Z2<|bT a<|Z3 h) λa h=> bd h λl f h=>Z0 6 [(1,k (w187 f))]<|br h (λb h=>Z2<|bT b<|Z3 h) λb h=> Z2<|br h (λc h=>Z2<|bT c<|Z3 h) λc h=> Z2<|jn (wj185x1 h)
def R190 (a:Bool):D:= .bool a
def Z7p (b:Zg) (a:Int):Option (Bool):= if b.f_To != 0 then if a !=3 then if a !=6 then if a !=7 then some false else if (b.Yg.length:Int)==0 then if (b.Zs.length:Int)==0 then some true else if a==6 then some true else some (a==7) else if a==7 then if (b.Zs.length:Int)==0 then some true else if a==6 then some true else some true else some false else if (b.Yg.length:Int)==0 then if (b.Zs.length:Int)==0 then some true else if a==6 then some true else some (a==7) else if a==7 then if (b.Zs.length:Int)==0 then some true else if a==6 then some true else some true else some false else if (b.Yg.length:Int)==0 then if (b.Zs.length:Int)==0 then some true else if a==6 then some true else some (a==7) else if a==7 then if (b.Zs.length:Int)==0 then some true else if a==6 then some true else some true else some false else if (b.Yg.length:Int)==0 then if (b.Zs.length:Int)==0 then some true else if a==6 then some true else some (a==7) else if a==7 then if (b.Zs.length:Int)==0 then some true else if a==6 then some true else some true else some false
def Z7o (a:Zg) (b:Int):Option (Bool):= if a.f_B !=0 then if b !=5 then some false else (Z7p a b) else (Z7p a b)
def Zc9 (b:Zg) (a:Int):Option (Bool):= if b.f_A !=0 then if a==0 then some false else if a==3 then some false else if a==7 then some false else (Z7o b a) else (Z7o b a)
def Z51 (a:Zg) (b:Int):Option (Bool):= if !(Z40 a.Yv (Xw.mk [] [] [])) then some false else if !(a.f_S==([]:List UInt8)) then some false else (Zc9 a b)
theorem Y0i {e F r Γ} (h:(Z7p e F)=some r):JnE prog f190 Γ (R190 r) 79 ⟨73,[(1,dI F),(2,.ptr (Y4 e))],[]⟩:= po <| pr 4 [] <| sp h (λC h=>pr 4 (gC C 4 2 [(6,py C)])<|sp h (λD h=>pr 4 (gC D 8 2 [(10,py D)])<|sp h (λk h=>pr 3 (gC k 12 2 [(14,py k)])<|Z9<|br h (λE h=>Z3 h) λE h=> go [9] []<|po<|pr 5 [(2,ln e.Yg)]<|sp h (λl h=>pr 9 (gA l 5 2 [(7,py l),(11,ln e.Zs)])<|sp h (λm h=>pr 9 (gA m 14 2 [(16,py m)])<|Zo h) λm h=> pr 4 (gC m 14 2 [(16,pn m)])<|sp h (λn h=>pr 5 (gA n 18 2 [(20,py n)])<|Zo h) λn h=> pr 5 (gC n 18 2 [(20,pn n)])<|Zo h) λl h=> pr 4 (gC l 5 2 [(7,pn l)])<|sp h (λa h=>pr 5 (gC a 9 2 ((11,gw a (ln e.Zs))::gC a 12 2 []))<|sp h (λo h=>pr 9 (gA o 14 2 [(16,gw a (py o)),(17,gw a g0),(20,gw a g0),(21,py a)])<|Zo h) λo h=> pr 4 (gC o 14 2 [(16,gw a (pn o)),(17,gw a g0)])<|sp h (λf h=>pr 5 (gA f 18 2 [(20,gw a (py f)),(21,py a)])<|Zo h) λf h=> pr 5 [(18,gw f g0),(19,gw f (kb a)),(20,gw a (pn f)),(21,py a)]<|Zo h) λa h=> pr 14 (gB a 9 5 (gB a 16 2 [(20,gs1 a),(21,pn a)]))<|Zo h) λk h=> pr 3 (gB k 12 2 [(14,pn k)])<|Z9<|bF rfl<|go [9] []<|po<|pr 5 [(2,ln e.Yg)]<|sp h (λp h=>pr 9 (gA p 5 2 [(7,py p),(11,ln e.Zs)])<|sp h (λq h=>pr 9 (gA q 14 2 [(16,py q)])<|Zo h) λq h=> pr 4 (gC q 14 2 [(16,pn q)])<|sp h (λs h=>pr 5 (gA s 18 2 [(20,py s)])<|Zo h) λs h=> pr 5 (gC s 18 2 [(20,pn s)])<|Zo h) λp h=> pr 4 (gC p 5 2 [(7,pn p)])<|sp h (λb h=>pr 5 (gC b 9 2 ((11,gw b (ln e.Zs))::gC b 12 2 []))<|sp h (λt h=>pr 9 (gA t 14 2 [(16,gw b (py t)),(17,gw b g0),(20,gw b g0),(21,py b)])<|Zo h) λt h=> pr 4 (gC t 14 2 [(16,gw b (pn t)),(17,gw b g0)])<|sp h (λg h=>pr 5 (gA g 18 2 [(20,gw b (py g)),(21,py b)])<|Zo h) λg h=> pr 5 [(18,gw g g0),(19,gw g (kb b)),(20,gw b (pn g)),(21,py b)]<|Zo h) λb h=> pr 14 (gB b 9 5 (gB b 16 2 [(20,gs1 b),(21,pn b)]))<|Zo h) λD h=> pr 7 (gB D 8 2 [(10,pn D)])<|Z9<|bF rfl<|go [9] []<|po<|pr 5 [(2,ln e.Yg)]<|sp h (λu h=>pr 9 (gA u 5 2 [(7,py u),(11,ln e.Zs)])<|sp h (λv h=>pr 9 (gA v 14 2 [(16,py v)])<|Zo h) λv h=> pr 4 (gC v 14 2 [(16,pn v)])<|sp h (λw h=>pr 5 (gA w 18 2 [(20,py w)])<|Zo h) λw h=> pr 5 (gC w 18 2 [(20,pn w)])<|Zo h) λu h=> pr 4 (gC u 5 2 [(7,pn u)])<|sp h (λc h=>pr 5 (gC c 9 2 ((11,gw c (ln e.Zs))::gC c 12 2 []))<|sp h (λx h=>pr 9 (gA x 14 2 [(16,gw c (py x)),(17,gw c g0),(20,gw c g0),(21,py c)])<|Zo h) λx h=> pr 4 (gC x 14 2 [(16,gw c (pn x)),(17,gw c g0)])<|sp h (λi h=>pr 5 (gA i 18 2 [(20,gw c (py i)),(21,py c)])<|Zo h) λi h=> pr 5 [(18,gw i g0),(19,gw i (kb c)),(20,gw c (pn i)),(21,py c)]<|Zo h) λc h=> pr 14 (gB c 9 5 (gB c 16 2 [(20,gs1 c),(21,pn c)]))<|Zo h) λC h=> pr 11 (gB C 4 2 [(6,pn C)])<|Z9<|bF rfl<|go [9] []<|po<|pr 5 [(2,ln e.Yg)]<|sp h (λy h=>pr 9 (gA y 5 2 [(7,py y),(11,ln e.Zs)])<|sp h (λz h=>pr 9 (gA z 14 2 [(16,py z)])<|Zo h) λz h=> pr 4 (gC z 14 2 [(16,pn z)])<|sp h (λA h=>pr 5 (gA A 18 2 [(20,py A)])<|Zo h) λA h=> pr 5 (gC A 18 2 [(20,pn A)])<|Zo h) λy h=> pr 4 (gC y 5 2 [(7,pn y)])<|sp h (λd h=>pr 5 (gC d 9 2 ((11,gw d (ln e.Zs))::gC d 12 2 []))<|sp h (λB h=>pr 9 (gA B 14 2 [(16,gw d (py B)),(17,gw d g0),(20,gw d g0),(21,py d)])<|Zo h) λB h=> pr 4 (gC B 14 2 [(16,gw d (pn B)),(17,gw d g0)])<|sp h (λj h=>pr 5 (gA j 18 2 [(20,gw d (py j)),(21,py d)])<|Zo h) λj h=> pr 5 [(18,gw j g0),(19,gw j (kb d)),(20,gw d (pn j)),(21,py d)]<|Zo h) λd h=> pr 14 (gB d 9 5 (gB d 16 2 [(20,gs1 d),(21,pn d)]))<|Zo h
theorem Y0h {b c r Γ} (h:(Z7o b c)=some r):JnE prog f190 Γ (R190 r) 39 ⟨73,[(1,dI c),(2,.ptr (Y4 b))],[]⟩:= so<|sp h (λa h=>Z0 5 [(2,kb a)]<|br h (λd h=>Z3 h) λd h=> go [7] []<|jn (Y0i h)) λa h=> Z0 5 [(2,kb a)]<|bF rfl<|go [7] []<|jn (Y0i h)
theorem wj190x1 {d e r Γ} (h:(Zc9 d e)=some r):JnE prog f190 Γ (R190 r) 19 ⟨73,[(1,dI e),(2,.ptr (Y4 d))],[]⟩:= po <| pr 4 []<|sp h (λa h=>pr 3 (gC a 4 3 [])<|sp h (λb h=>pr 8 (gA b 7 2 [(9,gw a (py b)),(10,gw a g0),(13,gw a g0),(14,py a)])<|Z9<|bT rfl<|Z3 h) λb h=> pr 4 (gC b 7 2 [(9,gw a (pn b)),(10,gw a g0)])<|sp h (λc h=>pr 4 (gA c 11 2 [(13,gw a (py c)),(14,py a)])<|Z9<|bT rfl<|Z3 h) λc h=> pr 4 (gC c 11 2 [(13,gw a (pn c)),(14,py a)])<|Z9<|br h (λf h=>Z3 h) λf h=> go [5] []<|jn (Y0h h)) λa h=> pr 11 (gB a 4 3 (gB a 9 2 [(13,gs1 a),(14,pn a)]))<|Z9<|bF rfl<|go [5] []<|jn (Y0h h)
theorem w190 {b c r} (h:Z51 b c=some r):Zi prog 190 [.agg (Y4 b),dI c] (R190 r):= cs f190<|sp h (λa h=>go [] [rg 0 [(0,bo)],rg 1 ((3,qs Zkn Zkp (!(Z40 b.Yv (Xw.mk [] [] []))))::gA a 5 3 [(8,py a)])]<|bT rfl<|Z3 h) λa h=> go [] [rg 0 [(0,bo)],rg 1 ((3,qs Zkn Zkp (!(Z40 b.Yv (Xw.mk [] [] []))))::gC a 5 3 [(8,pn a)])]<|br h (λd h=>Z3 h) λd h=> go [3] []<|jn (wj190x1 h)
def R191 (a:Bool):D:= .bool a
def Z4f (a:Zg) (t0:Int):Option (Ctl (Int) (Unit⊕Bool)):= if decide (t0<(a.Zs.length:Int)) then (Z4 a.Zs t0).bind λb=> if decide (b<0) then some (.done (.inr false)) else (Z4 a.Zs t0).bind λc=> if decide (c≥1000) then some (.done (.inr false)) else (some (wrap .i64 (t0+1))).bind λd=> some (.next d) else some (.done (.inl (())))
def Zca (b:Zg):Option (Bool):= (Z8 (Z4f b) Zb 0).bind λa=> match a with | .inl q0=>(some true) | .inr c=>(some c)
def Z0n (a:Zg):Option (Bool):= if decide (a.f_To<0) then some false else if decide (a.f_To≥1000) then some false else (Zca a)
def Zwx (a:Zg):Int→SL:= λt0=>⟨33,[(1,.ptr (Y4 a)),(3,dI t0)],[]⟩
def J191x1:JT (Unit⊕Bool):= ju (je 0 λq0:Unit=>⟨33,[],[]⟩) (jr prog f191 R191)
theorem wl191x1 {a t0 r Γ} (h:(Z4f a) t0=some r):A prog Γ (lpC f191 43) [] (Rd (Zwx a) J191x1 r) ((Zwx a) t0).s:= Z0 4 [(3,ln a.Zs)]<|br h (λf h=>bd h λi c h=>sp h (λb h=>Z0 6 [(3,ix c),(5,kb b)]<|bT rfl<|Z2<|dn h (i2 iR)) λb h=> bd h λj d h=>Z0 6 [(3,ix c),(5,kb b),(10,ix d)]<|br h (λg h=>Z2<|dn h (i2 iR)) λg h=> bd h λk e h=>Z0 5 [(1,n e)]<|nx h) λf h=> Z2<|dn h (i1 iE)
theorem wj191x1 {a r Γ} (h:(Zca a)=some r):JnE prog f191 Γ (R191 r) 19 ⟨33,[(1,.ptr (Y4 a))],[]⟩:= so<|Z2<|bd h λc b h=>lp b wl191x1<|match c,h with | .inl q0,h=>j1<|(qe<|Xs h) | .inr d,h=>j2<|(qr h)
theorem w191 {b r} (h:Z0n b=some r):Zi prog 191 [.agg (Y4 b)] (R191 r):= cs f191<|sp h (λa h=>go [] [rg 0 [(0,bo)],rg 1 [(2,kb a)]]<|bT rfl<|Z3 h) λa h=> go [] [rg 0 [(0,bo)],rg 1 [(2,kb a)]]<|br h (λc h=>Z3 h) λc h=> go [3] []<|jn (wj191x1 h)
def R220 (a:Bool):D:= .bool a
def Z9n (a:Int):Option (Bool):= if decide (a≥(-2147483648)) then some (decide (a≤2147483647)) else some false
theorem w220 {b r} (h:Z9n b=some r):Zi prog 220 [dI b] (R220 r):= cs f220<|sp h (λa h=>Z0 1 [(1,kb a)]<|rt h) λa h=> Z0 1 [(1,kb a)]<|rt h
def R192 (a:Int):D:= .int .i64 a
def Zcc (d:Zg):Option (Int):= (Z9n d.f_A).bind λa=> if !a then some 8 else (some (wrap .i64 ((d.Zs.length:Int) - 1))).bind λb=> (some (wrap .i64 (2147483647 - b))).bind λc=> if decide (d.f_A>c) then some 8 else some 0
def Zdt (a:Zg) (t0:Int):Option (Ctl (Int) (Unit⊕Int)):= if decide (t0<(a.Yg.length:Int)) then (Z4 a.Yg t0).bind λb=> (Z9n b).bind λc=> if !c then some (.done (.inr 8)) else (some (wrap .i64 (t0+1))).bind λd=> some (.next d) else some (.done (.inl (())))
def Zdu (b:Zg) (t1:Int):Option (Ctl (Int) (Unit⊕Int)):= if decide (t1<(b.Yg.length:Int)) then (Z4 b.Yg t1).bind λc=> (some (wrap .i64 (t1 - 1))).bind λd=> (Z4 b.Yg d).bind λe=> if decide (c≤e) then some (.done (.inr 4)) else (some (wrap .i64 (t1+1))).bind λa=> some (.next a) else some (.done (.inl (())))
def Zcb (a:Zg):Option (Int):= (Z8 (Zdt a) Zb 0).bind λb=> match b with | .inl q0=>((Z8 (Zdu a) Zb 1).bind λq3=> match q3 with | .inl e=>(some 0) | .inr c=>(some c)) | .inr d=>(some d)
def Z4z (a:Zg):Option (Int):= if a.f_Op==53 then if (a.Zs.length:Int)==0 then some 5 else if decide ((a.Zs.length:Int)>64) then some 5 else (Zcc a) else if decide ((a.Yg.length:Int)>64) then some 5 else if (a.Zs.length:Int)!=(a.Yg.length:Int) then some 5 else (Zcb a)
theorem wj192x2 {f r Γ} (h:(Zcc f)=some r):JnE prog f192 Γ (R192 r) 149 ⟨78,[(1,.ptr (Y4 f))],[]⟩:= so<|bd h λg b h=>sp h (λa h=>go [] [rg 4 ((2,k (w220 b))::gA a 5 8 [(13,py a)])]<|bT rfl<|Z3 h) λa h=> bd h λi c h=>bd h λj d h=>go [] [rg 4 ((2,k (w220 b))::gC a 5 4 [(9,gw a (ln f.Zs)),(10,gw a (n c)),(11,gw a (n d)),(12,gw a g0),(13,pn a)])]<|br h (λe h=>Z3 h) λe h=> Z3 h
def Zwy (a:Zg):Int→SL:= λt0=>⟨78,[(1,.ptr (Y4 a)),(3,dI t0)],[]⟩
def J192x1 (a:Zg):JT (Unit⊕Int):= ju (je 0 λq0:Unit=>⟨78,[(1,.ptr (Y4 a))],[]⟩) (jr prog f192 R192)
theorem wl192x1 {a t0 r Γ} (h:(Zdt a) t0=some r):A prog Γ (lpC f192 87) [] (Rd (Zwy a) (J192x1 a) r) ((Zwy a) t0).s:= Z0 10 [(3,ln a.Yg)]<|br h (λe h=>bd h λg b h=>bd h λi c h=>Z0 12 [(3,ix b),(5,k (w220 c))]<|br h (λf h=>Z2<|dn h (i2 iR)) λf h=> bd h λj d h=>Z0 11 [(1,n d)]<|nx h) λe h=> Z2<|dn h (i1 iE)
def Zwz (a:Zg):Int→SL:= λt1=>⟨78,[(1,.ptr (Y4 a)),(4,dI t1)],[]⟩
def J192x2:JT (Unit⊕Int):= ju (je 2 λa:Unit=>⟨78,[],[]⟩) (jr prog f192 R192)
theorem wl192x2 {a t1 r Γ} (h:(Zdu a) t1=some r):A prog Γ (lpC f192 175) [] (Rd (Zwz a) J192x2 r) ((Zwz a) t1).s:= Z0 15 [(3,ln a.Yg)]<|br h (λd h=>bd h λj f h=>bd h λk g h=>bd h λl b h=>Z0 17 [(3,ix f),(8,n g),(9,ix b)]<|br h (λe h=>Z2<|dn h (i2 iR)) λe h=> bd h λi c h=>Z0 16 [(1,n c)]<|nx h) λd h=> Z2<|dn h (i1 iE)
theorem wj192x1 {b r Γ} (h:(Zcb b)=some r):JnE prog f192 Γ (R192 r) 39 ⟨78,[(1,.ptr (Y4 b))],[]⟩:= so<|Z2<|bd h λd c h=>lp c wl192x1<|match d,h with | .inl q0,h=>j1<|(qe<|goN [] []<|bd h λq3 a h=>lp a wl192x2<|match q3,h with | .inl e,h=>j1<|(qe<|Xs h) | .inr f,h=>j2<|(qr h)) | .inr g,h=>j2<|(qr h)
theorem w192 {a r} (h:Z4z a=some r):Zi prog 192 [.agg (Y4 a)] (R192 r):= cs f192<|Z0 0 [(0,bo)]<|br h (λd h=>sp h (λb h=>Z0 2 [(2,ln a.Zs),(3,kb b)]<|bT rfl<|Z3 h) λb h=> Z0 2 [(2,ln a.Zs),(3,kb b),(7,ln a.Zs)]<|br h (λe h=>Z3 h) λe h=> go [4] []<|jn (wj192x2 h)) λd h=> sp h (λc h=>Z0 7 [(2,ln a.Yg),(3,kb c)]<|bT rfl<|Z3 h) λc h=> Z0 7 [(2,ln a.Yg),(3,kb c),(7,ln a.Zs),(10,ln a.Yg)]<|br h (λf h=>Z3 h) λf h=> go [9] []<|jn (wj192x1 h)
end Go.Proofs
