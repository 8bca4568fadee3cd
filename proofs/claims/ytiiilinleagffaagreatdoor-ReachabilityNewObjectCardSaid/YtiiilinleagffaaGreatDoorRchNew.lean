/-
  The law ReachabilityNewObject holds for every input: the function returns true, and Un argument reads behind the call as it read before. No condition.
-/
import Derived.Test.YtiiilinleagffaaGreatDoorRchZ3ONew
import Derived.Test.YtiiilinleagffaaGreatDoorRchZ3
import Derived.WalkKit
import Derived.ProofKit
import Derived.OpenShut
import Derived.ChangeMaps5
import Derived.Test.YtiiilinleagffaaGreatDoorTie
import Derived.Test.YtiiilinleagffaaGreatDoorCards
import Derived.SevenTiedAt
import Derived.Handed
import Derived.LaidMore
set_option linter.unusedVariables false
set_option linter.unusedSimpArgs false
namespace Go.Proofs.YtiiilinleagffaaGreatDoor.reachabilityNewObject
open Go.ChangeShapes Go.WideShapes Go.ChangeAt Go.RowKit Go.ChangeMaps Go.Den
theorem own:ownKnob Tryz.prog.godebug=none:=by kernel_rfl
theorem laid:laidOutB Tryz.prog=true:=by kernel_rfl
def wf_117 (y:Vu):Prop:=(λs:List UInt8=>s.length≤reachBytes) y.K9∧((λn:Int=>IntKind.min .i64≤n∧n≤IntKind.max .i64) y.f_To∧(True))
theorem rd_117:Zd Tryz.prog 117 Jl wf_117:=
 (Y4 (tot:=2) Tryz.underlying117 (by kernel_rfl) (Z0 (n:=1) (Yc (P:=Tryz.prog) Tryz.underlying9) (by kernel_rfl) (Z0 (n:=1) (Zc (P:=Tryz.prog) Tryz.underlying3) (by kernel_rfl) Y2 rfl) rfl)).map (λp:(List UInt8)×(Int×Unit)=>({ K9:=p.1,f_To:=p.2.1 }:Vu)) (λ_=>rfl) (λ_ h=>h)
def wf_112 (ys:List Vu):Prop:=(∀ y∈ys,wf_117 y)∧ys.length*Tryz.prog.bytesOf 117≤reachBytes
theorem rd_112:Zd Tryz.prog 112 (λys:List Vu=>[D.sl false (ys.map Jl)]) wf_112:=Yg Tryz.underlying112 (row:=Jl) rd_117 (Nat.lt_of_lt_of_le (by decide:0<1) (Nat.le_of_ble_eq_true (by kernel_rfl)))
def wf_144 (y:Vq):Prop:=(λs:List UInt8=>s.length≤reachBytes) y.Ze∧((λs:List UInt8=>s.length≤reachBytes) y.Q8∧(True))
theorem rd_144:Zd Tryz.prog 144 Jh wf_144:=
 (Y4 (tot:=2) Tryz.underlying144 (by kernel_rfl) (Z0 (n:=1) (Yc (P:=Tryz.prog) Tryz.underlying9) (by kernel_rfl) (Z0 (n:=1) (Yc (P:=Tryz.prog) Tryz.underlying9) (by kernel_rfl) Y2 rfl) rfl)).map (λp:(List UInt8)×(List UInt8)×Unit=>({ Ze:=p.1,Q8:=p.2.1 }:Vq)) (λ_=>rfl) (λ_ h=>h)
def wf_113 (ys:List Vq):Prop:=(∀ y∈ys,wf_144 y)∧ys.length*Tryz.prog.bytesOf 144≤reachBytes
theorem rd_113:Zd Tryz.prog 113 (λys:List Vq=>[D.sl false (ys.map Jh)]) wf_113:=Yg Tryz.underlying113 (row:=Jh) rd_144 (Nat.lt_of_lt_of_le (by decide:0<1) (Nat.le_of_ble_eq_true (by kernel_rfl)))
def wf_115 (y:Yi):Prop:=wf_112 y.Wl∧(wf_113 y.Vc∧(True))
theorem rd_115:Zd Tryz.prog 115 Xl wf_115:=
 (Y4 (tot:=2) Tryz.underlying115 (by kernel_rfl) (Z0 (n:=1) rd_112 (by kernel_rfl) (Z0 (n:=1) rd_113 (by kernel_rfl) Y2 rfl) rfl)).map (λp:(List Vu)×(List Vq)×Unit=>({ Wl:=p.1,Vc:=p.2.1 }:Yi)) (λ_=>rfl) (λ_ h=>h)
def wf_22 (ys:List Yi):Prop:=(∀ y∈ys,wf_115 y)∧ys.length*Tryz.prog.bytesOf 115≤reachBytes
theorem rd_22:Zd Tryz.prog 22 (λys:List Yi=>[D.sl false (ys.map Xl)]) wf_22:=Yg Tryz.underlying22 (row:=Xl) rd_115 (Nat.lt_of_lt_of_le (by decide:0<1) (Nat.le_of_ble_eq_true (by kernel_rfl)))
def wf_32 (ys:List (List UInt8)):Prop:=(∀ y∈ys,(λs:List UInt8=>s.length≤reachBytes) y)∧ys.length*Tryz.prog.bytesOf 9≤reachBytes
theorem rd_32:Zd Tryz.prog 32 (λys:List (List UInt8)=>[D.sl false (ys.map Q2)]) wf_32:=Yg Tryz.underlying32 (row:=Q2) (Yc (P:=Tryz.prog) Tryz.underlying9) (Nat.lt_of_lt_of_le (by decide:0<1) (Nat.le_of_ble_eq_true (by kernel_rfl)))
def wf_101 (y:X6):Prop:=(λn:Int=>IntKind.min .i64≤n∧n≤IntKind.max .i64) y.Yb∧((λs:List UInt8=>s.length≤reachBytes) y.Ze∧((λs:List UInt8=>s.length≤reachBytes) y.Xb∧((λn:Int=>IntKind.min .i64≤n∧n≤IntKind.max .i64) y.W7∧((λn:Int=>IntKind.min .i64≤n∧n≤IntKind.max .i64) y.f_N∧((λs:List UInt8=>s.length≤reachBytes) y.f_S∧(True))))))
theorem rd_101:Zd Tryz.prog 101 Wi wf_101:=
 (Y4 (tot:=6) Tryz.underlying101 (by kernel_rfl) (Z0 (n:=1) (Zc (P:=Tryz.prog) Tryz.underlying3) (by kernel_rfl) (Z0 (n:=1) (Yc (P:=Tryz.prog) Tryz.underlying9) (by kernel_rfl) (Z0 (n:=1) (Yc (P:=Tryz.prog) Tryz.underlying9) (by kernel_rfl) (Z0 (n:=1) (Zc (P:=Tryz.prog) Tryz.underlying3) (by kernel_rfl) (Z0 (n:=1) (Zc (P:=Tryz.prog) Tryz.underlying3) (by kernel_rfl) (Z0 (n:=1) (Yc (P:=Tryz.prog) Tryz.underlying9) (by kernel_rfl) Y2 rfl) rfl) rfl) rfl) rfl) rfl)).map (λp:Int×(List UInt8)×(List UInt8)×(Int×(Int×(List UInt8)×Unit))=>({ Yb:=p.1,Ze:=p.2.1,Xb:=p.2.2.1,W7:=p.2.2.2.1,f_N:=p.2.2.2.2.1,f_S:=p.2.2.2.2.2.1 }:X6)) (λ_=>rfl) (λ_ h=>h)
def wf_102 (ys:List X6):Prop:=(∀ y∈ys,wf_101 y)∧ys.length*Tryz.prog.bytesOf 101≤reachBytes
theorem rd_102:Zd Tryz.prog 102 (λys:List X6=>[D.sl false (ys.map Wi)]) wf_102:=Yg Tryz.underlying102 (row:=Wi) rd_101 (Nat.lt_of_lt_of_le (by decide:0<1) (Nat.le_of_ble_eq_true (by kernel_rfl)))
def wf_39 (ys:List Int):Prop:=(∀ y∈ys,(λn:Int=>IntKind.min .i64≤n∧n≤IntKind.max .i64) y)∧ys.length*Tryz.prog.bytesOf 3≤reachBytes
theorem rd_39:Zd Tryz.prog 39 (λys:List Int=>[D.sl false (ys.map Z1)]) wf_39:=Yg Tryz.underlying39 (row:=Z1) (Zc (P:=Tryz.prog) Tryz.underlying3) (Nat.lt_of_lt_of_le (by decide:0<1) (Nat.le_of_ble_eq_true (by kernel_rfl)))
def wf_218 (y:Xp):Prop:=(λs:List UInt8=>s.length≤reachBytes) y.Zq∧((λs:List UInt8=>s.length≤reachBytes) y.Ze∧((λs:List UInt8=>s.length≤reachBytes) y.Xb∧(True)))
theorem rd_218:Zd Tryz.prog 218 Z2a wf_218:=
 (Y4 (tot:=3) Tryz.underlying218 (by kernel_rfl) (Z0 (n:=1) (Yc (P:=Tryz.prog) Tryz.underlying9) (by kernel_rfl) (Z0 (n:=1) (Yc (P:=Tryz.prog) Tryz.underlying9) (by kernel_rfl) (Z0 (n:=1) (Yc (P:=Tryz.prog) Tryz.underlying9) (by kernel_rfl) Y2 rfl) rfl) rfl)).map (λp:(List UInt8)×(List UInt8)×(List UInt8)×Unit=>({ Zq:=p.1,Ze:=p.2.1,Xb:=p.2.2.1 }:Xp)) (λ_=>rfl) (λ_ h=>h)
def wf_220 (y:Z6):Prop:=(λn:Int=>IntKind.min .i64≤n∧n≤IntKind.max .i64) y.f_Op∧((λn:Int=>IntKind.min .i64≤n∧n≤IntKind.max .i64) y.f_A∧((λn:Int=>IntKind.min .i64≤n∧n≤IntKind.max .i64) y.f_B∧((λn:Int=>IntKind.min .i64≤n∧n≤IntKind.max .i64) y.f_To∧(wf_39 y.Y9∧(wf_39 y.Zh∧(wf_218 y.Yr∧((λs:List UInt8=>s.length≤reachBytes) y.f_S∧(True))))))))
theorem rd_220:Zd Tryz.prog 220 Zm wf_220:=
 (Y4 (tot:=10) Tryz.underlying220 (by kernel_rfl) (Z0 (n:=1) (Zc (P:=Tryz.prog) Tryz.underlying3) (by kernel_rfl) (Z0 (n:=1) (Zc (P:=Tryz.prog) Tryz.underlying3) (by kernel_rfl) (Z0 (n:=1) (Zc (P:=Tryz.prog) Tryz.underlying3) (by kernel_rfl) (Z0 (n:=1) (Zc (P:=Tryz.prog) Tryz.underlying3) (by kernel_rfl) (Z0 (n:=1) rd_39 (by kernel_rfl) (Z0 (n:=1) rd_39 (by kernel_rfl) (Z0 (n:=3) rd_218 (by kernel_rfl) (Z0 (n:=1) (Yc (P:=Tryz.prog) Tryz.underlying9) (by kernel_rfl) Y2 rfl) rfl) rfl) rfl) rfl) rfl) rfl) rfl)).map (λp:Int×(Int×(Int×(Int×(List Int)×(List Int)×(Xp×(List UInt8)×Unit))))=>({ f_Op:=p.1,f_A:=p.2.1,f_B:=p.2.2.1,f_To:=p.2.2.2.1,Y9:=p.2.2.2.2.1,Zh:=p.2.2.2.2.2.1,Yr:=p.2.2.2.2.2.2.1,f_S:=p.2.2.2.2.2.2.2.1 }:Z6)) (λ_=>rfl) (λ_ h=>h)
def wf_133 (ys:List Z6):Prop:=(∀ y∈ys,wf_220 y)∧ys.length*Tryz.prog.bytesOf 220≤reachBytes
theorem rd_133:Zd Tryz.prog 133 (λys:List Z6=>[D.sl false (ys.map Zm)]) wf_133:=Yg Tryz.underlying133 (row:=Zm) rd_220 (Nat.lt_of_lt_of_le (by decide:0<1) (Nat.le_of_ble_eq_true (by kernel_rfl)))
def wf_182 (y:Zt):Prop:=(λn:Int=>IntKind.min .i64≤n∧n≤IntKind.max .i64) y.Wp∧((λn:Int=>IntKind.min .i64≤n∧n≤IntKind.max .i64) y.f_To∧((λn:Int=>IntKind.min .i64≤n∧n≤IntKind.max .i64) y.Wq∧((λn:Int=>IntKind.min .i64≤n∧n≤IntKind.max .i64) y.Zq∧((λs:List UInt8=>s.length≤reachBytes) y.Zv∧(True)))))
theorem rd_182:Zd Tryz.prog 182 Y6 wf_182:=
 (Y4 (tot:=5) Tryz.underlying182 (by kernel_rfl) (Z0 (n:=1) (Zc (P:=Tryz.prog) Tryz.underlying3) (by kernel_rfl) (Z0 (n:=1) (Zc (P:=Tryz.prog) Tryz.underlying3) (by kernel_rfl) (Z0 (n:=1) (Zc (P:=Tryz.prog) Tryz.underlying3) (by kernel_rfl) (Z0 (n:=1) (Zc (P:=Tryz.prog) Tryz.underlying3) (by kernel_rfl) (Z0 (n:=1) (Yc (P:=Tryz.prog) Tryz.underlying9) (by kernel_rfl) Y2 rfl) rfl) rfl) rfl) rfl)).map (λp:Int×(Int×(Int×(Int×(List UInt8)×Unit)))=>({ Wp:=p.1,f_To:=p.2.1,Wq:=p.2.2.1,Zq:=p.2.2.2.1,Zv:=p.2.2.2.2.1 }:Zt)) (λ_=>rfl) (λ_ h=>h)
def wf_134 (ys:List Zt):Prop:=(∀ y∈ys,wf_182 y)∧ys.length*Tryz.prog.bytesOf 182≤reachBytes
theorem rd_134:Zd Tryz.prog 134 (λys:List Zt=>[D.sl false (ys.map Y6)]) wf_134:=Yg Tryz.underlying134 (row:=Y6) rd_182 (Nat.lt_of_lt_of_le (by decide:0<1) (Nat.le_of_ble_eq_true (by kernel_rfl)))
def wf_155 (y:Y8):Prop:=(λn:Int=>IntKind.min .i64≤n∧n≤IntKind.max .i64) y.Xh∧((λn:Int=>IntKind.min .u8≤n∧n≤IntKind.max .u8) y.X0∧((λs:List UInt8=>s.length≤reachBytes) y.Ze∧(True)))
theorem rd_155:Zd Tryz.prog 155 Qn wf_155:=
 (Y4 (tot:=3) Tryz.underlying155 (by kernel_rfl) (Z0 (n:=1) (Zc (P:=Tryz.prog) Tryz.underlying3) (by kernel_rfl) (Z0 (n:=1) (Zc (P:=Tryz.prog) Tryz.underlying5) (by kernel_rfl) (Z0 (n:=1) (Yc (P:=Tryz.prog) Tryz.underlying9) (by kernel_rfl) Y2 rfl) rfl) rfl)).map (λp:Int×(Int×(List UInt8)×Unit)=>({ Xh:=p.1,X0:=p.2.1,Ze:=p.2.2.1 }:Y8)) (λ_=>rfl) (λ_ h=>h)
def wf_208 (y:Zp):Prop:=(λn:Int=>IntKind.min .i64≤n∧n≤IntKind.max .i64) y.Zn∧((λn:Int=>IntKind.min .i64≤n∧n≤IntKind.max .i64) y.V0∧(wf_155 y.Zv∧((λn:Int=>IntKind.min .i64≤n∧n≤IntKind.max .i64) y.Vg∧(True))))
theorem rd_208:Zd Tryz.prog 208 Yw wf_208:=
 (Y4 (tot:=6) Tryz.underlying208 (by kernel_rfl) (Z0 (n:=1) (Zc (P:=Tryz.prog) Tryz.underlying3) (by kernel_rfl) (Z0 (n:=1) (Zc (P:=Tryz.prog) Tryz.underlying3) (by kernel_rfl) (Z0 (n:=3) rd_155 (by kernel_rfl) (Z0 (n:=1) (Zc (P:=Tryz.prog) Tryz.underlying3) (by kernel_rfl) Y2 rfl) rfl) rfl) rfl)).map (λp:Int×(Int×(Y8×(Int×Unit)))=>({ Zn:=p.1,V0:=p.2.1,Zv:=p.2.2.1,Vg:=p.2.2.2.1 }:Zp)) (λ_=>rfl) (λ_ h=>h)
def wf_184 (ys:List Zp):Prop:=(∀ y∈ys,wf_208 y)∧ys.length*Tryz.prog.bytesOf 208≤reachBytes
theorem rd_184:Zd Tryz.prog 184 (λys:List Zp=>[D.sl false (ys.map Yw)]) wf_184:=Yg Tryz.underlying184 (row:=Yw) rd_208 (Nat.lt_of_lt_of_le (by decide:0<1) (Nat.le_of_ble_eq_true (by kernel_rfl)))
def wf_186 (y:V5):Prop:=wf_184 y.Zs∧(wf_184 y.Zw∧((λ_:Bool=>True) y.Uc∧(True)))
theorem rd_186:Zd Tryz.prog 186 Z7u wf_186:=
 (Y4 (tot:=3) Tryz.underlying186 (by kernel_rfl) (Z0 (n:=1) rd_184 (by kernel_rfl) (Z0 (n:=1) rd_184 (by kernel_rfl) (Z0 (n:=1) (Uf (P:=Tryz.prog) Tryz.underlying4) (by kernel_rfl) Y2 rfl) rfl) rfl)).map (λp:(List Zp)×(List Zp)×(Bool×Unit)=>({ Zs:=p.1,Zw:=p.2.1,Uc:=p.2.2.1 }:V5)) (λ_=>rfl) (λ_ h=>h)
def wf_188 (y:Zx):Prop:=(λn:Int=>IntKind.min .i64≤n∧n≤IntKind.max .i64) y.Xw∧(wf_186 y.Yy∧(True))
theorem rd_188:Zd Tryz.prog 188 Yf wf_188:=
 (Y4 (tot:=4) Tryz.underlying188 (by kernel_rfl) (Z0 (n:=1) (Zc (P:=Tryz.prog) Tryz.underlying3) (by kernel_rfl) (Z0 (n:=3) rd_186 (by kernel_rfl) Y2 rfl) rfl)).map (λp:Int×(V5×Unit)=>({ Xw:=p.1,Yy:=p.2.1 }:Zx)) (λ_=>rfl) (λ_ h=>h)
def wf_135 (ys:List Zx):Prop:=(∀ y∈ys,wf_188 y)∧ys.length*Tryz.prog.bytesOf 188≤reachBytes
theorem rd_135:Zd Tryz.prog 135 (λys:List Zx=>[D.sl false (ys.map Yf)]) wf_135:=Yg Tryz.underlying135 (row:=Yf) rd_188 (Nat.lt_of_lt_of_le (by decide:0<1) (Nat.le_of_ble_eq_true (by kernel_rfl)))
def wf_201 (y:Yd):Prop:=(λn:Int=>IntKind.min .i64≤n∧n≤IntKind.max .i64) y.Xw∧((λn:Int=>IntKind.min .i64≤n∧n≤IntKind.max .i64) y.Uh∧(True))
theorem rd_201:Zd Tryz.prog 201 Yk wf_201:=
 (Y4 (tot:=2) Tryz.underlying201 (by kernel_rfl) (Z0 (n:=1) (Zc (P:=Tryz.prog) Tryz.underlying3) (by kernel_rfl) (Z0 (n:=1) (Zc (P:=Tryz.prog) Tryz.underlying3) (by kernel_rfl) Y2 rfl) rfl)).map (λp:Int×(Int×Unit)=>({ Xw:=p.1,Uh:=p.2.1 }:Yd)) (λ_=>rfl) (λ_ h=>h)
def wf_136 (ys:List Yd):Prop:=(∀ y∈ys,wf_201 y)∧ys.length*Tryz.prog.bytesOf 201≤reachBytes
theorem rd_136:Zd Tryz.prog 136 (λys:List Yd=>[D.sl false (ys.map Yk)]) wf_136:=Yg Tryz.underlying136 (row:=Yk) rd_201 (Nat.lt_of_lt_of_le (by decide:0<1) (Nat.le_of_ble_eq_true (by kernel_rfl)))
def wf_138 (y:Zi):Prop:=(λn:Int=>IntKind.min .i64≤n∧n≤IntKind.max .i64) y.Zw∧((λn:Int=>IntKind.min .i64≤n∧n≤IntKind.max .i64) y.Zs∧(wf_133 y.Y3∧(wf_134 y.Xo∧(wf_135 y.Yz∧(wf_136 y.X9∧(True))))))
theorem rd_138:Zd Tryz.prog 138 Yh wf_138:=
 (Y4 (tot:=6) Tryz.underlying138 (by kernel_rfl) (Z0 (n:=1) (Zc (P:=Tryz.prog) Tryz.underlying3) (by kernel_rfl) (Z0 (n:=1) (Zc (P:=Tryz.prog) Tryz.underlying3) (by kernel_rfl) (Z0 (n:=1) rd_133 (by kernel_rfl) (Z0 (n:=1) rd_134 (by kernel_rfl) (Z0 (n:=1) rd_135 (by kernel_rfl) (Z0 (n:=1) rd_136 (by kernel_rfl) Y2 rfl) rfl) rfl) rfl) rfl) rfl)).map (λp:Int×(Int×(List Z6)×(List Zt)×(List Zx)×(List Yd)×Unit)=>({ Zw:=p.1,Zs:=p.2.1,Y3:=p.2.2.1,Xo:=p.2.2.2.1,Yz:=p.2.2.2.2.1,X9:=p.2.2.2.2.2.1 }:Zi)) (λ_=>rfl) (λ_ h=>h)
def wf_140 (y:Xy):Prop:=(λn:Int=>IntKind.min .i64≤n∧n≤IntKind.max .i64) y.Yb∧((λs:List UInt8=>s.length≤reachBytes) y.Ze∧((λs:List UInt8=>s.length≤reachBytes) y.Xb∧((λ_:Bool=>True) y.Ja∧(wf_138 y.Xz∧(wf_32 y.U8∧(True))))))
theorem rd_140:Zd Tryz.prog 140 Wh wf_140:=
 (Y4 (tot:=11) Tryz.underlying140 (by kernel_rfl) (Z0 (n:=1) (Zc (P:=Tryz.prog) Tryz.underlying3) (by kernel_rfl) (Z0 (n:=1) (Yc (P:=Tryz.prog) Tryz.underlying9) (by kernel_rfl) (Z0 (n:=1) (Yc (P:=Tryz.prog) Tryz.underlying9) (by kernel_rfl) (Z0 (n:=1) (Uf (P:=Tryz.prog) Tryz.underlying4) (by kernel_rfl) (Z0 (n:=6) rd_138 (by kernel_rfl) (Z0 (n:=1) rd_32 (by kernel_rfl) Y2 rfl) rfl) rfl) rfl) rfl) rfl)).map (λp:Int×(List UInt8)×(List UInt8)×(Bool×(Zi×(List (List UInt8))×Unit))=>({ Yb:=p.1,Ze:=p.2.1,Xb:=p.2.2.1,Ja:=p.2.2.2.1,Xz:=p.2.2.2.2.1,U8:=p.2.2.2.2.2.1 }:Xy)) (λ_=>rfl) (λ_ h=>h)
def wf_103 (ys:List Xy):Prop:=(∀ y∈ys,wf_140 y)∧ys.length*Tryz.prog.bytesOf 140≤reachBytes
theorem rd_103:Zd Tryz.prog 103 (λys:List Xy=>[D.sl false (ys.map Wh)]) wf_103:=Yg Tryz.underlying103 (row:=Wh) rd_140 (Nat.lt_of_lt_of_le (by decide:0<1) (Nat.le_of_ble_eq_true (by kernel_rfl)))
def wf_105 (y:Zu):Prop:=(λn:Int=>IntKind.min .i64≤n∧n≤IntKind.max .i64) y.Yb∧((λs:List UInt8=>s.length≤reachBytes) y.Ze∧((λs:List UInt8=>s.length≤reachBytes) y.Yn∧(wf_32 y.Ya∧(wf_102 y.Yl∧(wf_103 y.Yo∧((λs:List UInt8=>s.length≤reachBytes) y.Jc∧(True)))))))
theorem rd_105:Zd Tryz.prog 105 Qc wf_105:=
 (Y4 (tot:=7) Tryz.underlying105 (by kernel_rfl) (Z0 (n:=1) (Zc (P:=Tryz.prog) Tryz.underlying3) (by kernel_rfl) (Z0 (n:=1) (Yc (P:=Tryz.prog) Tryz.underlying9) (by kernel_rfl) (Z0 (n:=1) (Yc (P:=Tryz.prog) Tryz.underlying9) (by kernel_rfl) (Z0 (n:=1) rd_32 (by kernel_rfl) (Z0 (n:=1) rd_102 (by kernel_rfl) (Z0 (n:=1) rd_103 (by kernel_rfl) (Z0 (n:=1) (Yc (P:=Tryz.prog) Tryz.underlying9) (by kernel_rfl) Y2 rfl) rfl) rfl) rfl) rfl) rfl) rfl)).map (λp:Int×(List UInt8)×(List UInt8)×(List (List UInt8))×(List X6)×(List Xy)×(List UInt8)×Unit=>({ Yb:=p.1,Ze:=p.2.1,Yn:=p.2.2.1,Ya:=p.2.2.2.1,Yl:=p.2.2.2.2.1,Yo:=p.2.2.2.2.2.1,Jc:=p.2.2.2.2.2.2.1 }:Zu)) (λ_=>rfl) (λ_ h=>h)
def wf_107 (y:Y7):Prop:=(λn:Int=>IntKind.min .i64≤n∧n≤IntKind.max .i64) y.Xj∧(wf_105 y.Xg∧((λn:Int=>IntKind.min .i64≤n∧n≤IntKind.max .i64) y.Yn∧(wf_39 y.Ya∧((λn:Int=>IntKind.min .i64≤n∧n≤IntKind.max .i64) y.Ln∧((λn:Int=>IntKind.min .i64≤n∧n≤IntKind.max .i64) y.Ki∧(True))))))
theorem rd_107:Zd Tryz.prog 107 Xx wf_107:=
 (Y4 (tot:=12) Tryz.underlying107 (by kernel_rfl) (Z0 (n:=1) (Zc (P:=Tryz.prog) Tryz.underlying3) (by kernel_rfl) (Z0 (n:=7) rd_105 (by kernel_rfl) (Z0 (n:=1) (Zc (P:=Tryz.prog) Tryz.underlying3) (by kernel_rfl) (Z0 (n:=1) rd_39 (by kernel_rfl) (Z0 (n:=1) (Zc (P:=Tryz.prog) Tryz.underlying3) (by kernel_rfl) (Z0 (n:=1) (Zc (P:=Tryz.prog) Tryz.underlying51) (by kernel_rfl) Y2 rfl) rfl) rfl) rfl) rfl) rfl)).map (λp:Int×(Zu×(Int×(List Int)×(Int×(Int×Unit))))=>({ Xj:=p.1,Xg:=p.2.1,Yn:=p.2.2.1,Ya:=p.2.2.2.1,Ln:=p.2.2.2.2.1,Ki:=p.2.2.2.2.2.1 }:Y7)) (λ_=>rfl) (λ_ h=>h)
def wf_23 (ys:List Y7):Prop:=(∀ y∈ys,wf_107 y)∧ys.length*Tryz.prog.bytesOf 107≤reachBytes
theorem rd_23:Zd Tryz.prog 23 (λys:List Y7=>[D.sl false (ys.map Xx)]) wf_23:=Yg Tryz.underlying23 (row:=Xx) rd_107 (Nat.lt_of_lt_of_le (by decide:0<1) (Nat.le_of_ble_eq_true (by kernel_rfl)))
def wf_109 (y:Xn):Prop:=(λn:Int=>IntKind.min .i64≤n∧n≤IntKind.max .i64) y.Xj∧((λs:List UInt8=>s.length≤reachBytes) y.Ze∧((λn:Int=>IntKind.min .i64≤n∧n≤IntKind.max .i64) y.Zq∧(True)))
theorem rd_109:Zd Tryz.prog 109 Q6 wf_109:=
 (Y4 (tot:=3) Tryz.underlying109 (by kernel_rfl) (Z0 (n:=1) (Zc (P:=Tryz.prog) Tryz.underlying3) (by kernel_rfl) (Z0 (n:=1) (Yc (P:=Tryz.prog) Tryz.underlying9) (by kernel_rfl) (Z0 (n:=1) (Zc (P:=Tryz.prog) Tryz.underlying3) (by kernel_rfl) Y2 rfl) rfl) rfl)).map (λp:Int×(List UInt8)×(Int×Unit)=>({ Xj:=p.1,Ze:=p.2.1,Zq:=p.2.2.1 }:Xn)) (λ_=>rfl) (λ_ h=>h)
def wf_24 (ys:List Xn):Prop:=(∀ y∈ys,wf_109 y)∧ys.length*Tryz.prog.bytesOf 109≤reachBytes
theorem rd_24:Zd Tryz.prog 24 (λys:List Xn=>[D.sl false (ys.map Q6)]) wf_24:=Yg Tryz.underlying24 (row:=Q6) rd_109 (Nat.lt_of_lt_of_le (by decide:0<1) (Nat.le_of_ble_eq_true (by kernel_rfl)))
def wf_93 (y:Qj):Prop:=(λs:List UInt8=>s.length≤reachBytes) y.Ze∧((λn:Int=>IntKind.min .i64≤n∧n≤IntKind.max .i64) y.f_A∧((λn:Int=>IntKind.min .i64≤n∧n≤IntKind.max .i64) y.f_B∧(True)))
theorem rd_93:Zd Tryz.prog 93 Qi wf_93:=
 (Y4 (tot:=3) Tryz.underlying93 (by kernel_rfl) (Z0 (n:=1) (Yc (P:=Tryz.prog) Tryz.underlying9) (by kernel_rfl) (Z0 (n:=1) (Zc (P:=Tryz.prog) Tryz.underlying3) (by kernel_rfl) (Z0 (n:=1) (Zc (P:=Tryz.prog) Tryz.underlying3) (by kernel_rfl) Y2 rfl) rfl) rfl)).map (λp:(List UInt8)×(Int×(Int×Unit))=>({ Ze:=p.1,f_A:=p.2.1,f_B:=p.2.2.1 }:Qj)) (λ_=>rfl) (λ_ h=>h)
def wf_25 (ys:List Qj):Prop:=(∀ y∈ys,wf_93 y)∧ys.length*Tryz.prog.bytesOf 93≤reachBytes
theorem rd_25:Zd Tryz.prog 25 (λys:List Qj=>[D.sl false (ys.map Qi)]) wf_25:=Yg Tryz.underlying25 (row:=Qi) rd_93 (Nat.lt_of_lt_of_le (by decide:0<1) (Nat.le_of_ble_eq_true (by kernel_rfl)))
def wf_27 (y:Zj):Prop:=wf_22 y.X3∧(wf_23 y.Zy∧(wf_24 y.X1∧(wf_25 y.Qq∧(True))))
theorem rd_27:Zd Tryz.prog 27 Ys wf_27:=
 (Y4 (tot:=4) Tryz.underlying27 (by kernel_rfl) (Z0 (n:=1) rd_22 (by kernel_rfl) (Z0 (n:=1) rd_23 (by kernel_rfl) (Z0 (n:=1) rd_24 (by kernel_rfl) (Z0 (n:=1) rd_25 (by kernel_rfl) Y2 rfl) rfl) rfl) rfl)).map (λp:(List Yi)×(List Y7)×(List Xn)×(List Qj)×Unit=>({ X3:=p.1,Zy:=p.2.1,X1:=p.2.2.1,Qq:=p.2.2.2.1 }:Zj)) (λ_=>rfl) (λ_ h=>h)
def wf_47 (y:X5):Prop:=(λn:Int=>IntKind.min .i64≤n∧n≤IntKind.max .i64) y.Xh∧((λn:Int=>IntKind.min .u8≤n∧n≤IntKind.max .u8) y.X0∧((λn:Int=>IntKind.min .i64≤n∧n≤IntKind.max .i64) y.Zq∧(True)))
theorem rd_47:Zd Tryz.prog 47 L6 wf_47:=
 (Y4 (tot:=3) Tryz.underlying47 (by kernel_rfl) (Z0 (n:=1) (Zc (P:=Tryz.prog) Tryz.underlying3) (by kernel_rfl) (Z0 (n:=1) (Zc (P:=Tryz.prog) Tryz.underlying5) (by kernel_rfl) (Z0 (n:=1) (Zc (P:=Tryz.prog) Tryz.underlying3) (by kernel_rfl) Y2 rfl) rfl) rfl)).map (λp:Int×(Int×(Int×Unit))=>({ Xh:=p.1,X0:=p.2.1,Zq:=p.2.2.1 }:X5)) (λ_=>rfl) (λ_ h=>h)
def wf_59 (y:Zg):Prop:=(λn:Int=>IntKind.min .i64≤n∧n≤IntKind.max .i64) y.Zn∧((λn:Int=>IntKind.min .i64≤n∧n≤IntKind.max .i64) y.f_N∧(True))
theorem rd_59:Zd Tryz.prog 59 X2 wf_59:=
 (Y4 (tot:=2) Tryz.underlying59 (by kernel_rfl) (Z0 (n:=1) (Zc (P:=Tryz.prog) Tryz.underlying3) (by kernel_rfl) (Z0 (n:=1) (Zc (P:=Tryz.prog) Tryz.underlying3) (by kernel_rfl) Y2 rfl) rfl)).map (λp:Int×(Int×Unit)=>({ Zn:=p.1,f_N:=p.2.1 }:Zg)) (λ_=>rfl) (λ_ h=>h)
def wf_48 (ys:List Zg):Prop:=(∀ y∈ys,wf_59 y)∧ys.length*Tryz.prog.bytesOf 59≤reachBytes
theorem rd_48:Zd Tryz.prog 48 (λys:List Zg=>[D.sl false (ys.map X2)]) wf_48:=Yg Tryz.underlying48 (row:=X2) rd_59 (Nat.lt_of_lt_of_le (by decide:0<1) (Nat.le_of_ble_eq_true (by kernel_rfl)))
def wf_50 (y:Zl):Prop:=(λn:Int=>IntKind.min .i64≤n∧n≤IntKind.max .i64) y.Zn∧(wf_47 y.Zv∧(wf_48 y.Yj∧((λs:List UInt8=>s.length≤reachBytes) y.Xv∧((λn:Int=>IntKind.min .i64≤n∧n≤IntKind.max .i64) y.Qw∧((λn:Int=>IntKind.min .i64≤n∧n≤IntKind.max .i64) y.Qh∧(wf_39 y.Q7∧(True)))))))
theorem rd_50:Zd Tryz.prog 50 X4 wf_50:=
 (Y4 (tot:=9) Tryz.underlying50 (by kernel_rfl) (Z0 (n:=1) (Zc (P:=Tryz.prog) Tryz.underlying3) (by kernel_rfl) (Z0 (n:=3) rd_47 (by kernel_rfl) (Z0 (n:=1) rd_48 (by kernel_rfl) (Z0 (n:=1) (Yc (P:=Tryz.prog) Tryz.underlying9) (by kernel_rfl) (Z0 (n:=1) (Zc (P:=Tryz.prog) Tryz.underlying3) (by kernel_rfl) (Z0 (n:=1) (Zc (P:=Tryz.prog) Tryz.underlying3) (by kernel_rfl) (Z0 (n:=1) rd_39 (by kernel_rfl) Y2 rfl) rfl) rfl) rfl) rfl) rfl) rfl)).map (λp:Int×(X5×(List Zg)×(List UInt8)×(Int×(Int×(List Int)×Unit)))=>({ Zn:=p.1,Zv:=p.2.1,Yj:=p.2.2.1,Xv:=p.2.2.2.1,Qw:=p.2.2.2.2.1,Qh:=p.2.2.2.2.2.1,Q7:=p.2.2.2.2.2.2.1 }:Zl)) (λ_=>rfl) (λ_ h=>h)
def wf_28 (ys:List Zl):Prop:=(∀ y∈ys,wf_50 y)∧ys.length*Tryz.prog.bytesOf 50≤reachBytes
theorem rd_28:Zd Tryz.prog 28 (λys:List Zl=>[D.sl false (ys.map X4)]) wf_28:=Yg Tryz.underlying28 (row:=X4) rd_50 (Nat.lt_of_lt_of_le (by decide:0<1) (Nat.le_of_ble_eq_true (by kernel_rfl)))
def wf_80 (y:Xm):Prop:=(λn:Int=>IntKind.min .i64≤n∧n≤IntKind.max .i64) y.Q5∧((λn:Int=>IntKind.min .i64≤n∧n≤IntKind.max .i64) y.Le∧(wf_48 y.Qu∧(True)))
theorem rd_80:Zd Tryz.prog 80 Qg wf_80:=
 (Y4 (tot:=3) Tryz.underlying80 (by kernel_rfl) (Z0 (n:=1) (Zc (P:=Tryz.prog) Tryz.underlying3) (by kernel_rfl) (Z0 (n:=1) (Zc (P:=Tryz.prog) Tryz.underlying3) (by kernel_rfl) (Z0 (n:=1) rd_48 (by kernel_rfl) Y2 rfl) rfl) rfl)).map (λp:Int×(Int×(List Zg)×Unit)=>({ Q5:=p.1,Le:=p.2.1,Qu:=p.2.2.1 }:Xm)) (λ_=>rfl) (λ_ h=>h)
def wf_29 (ys:List Xm):Prop:=(∀ y∈ys,wf_80 y)∧ys.length*Tryz.prog.bytesOf 80≤reachBytes
theorem rd_29:Zd Tryz.prog 29 (λys:List Xm=>[D.sl false (ys.map Qg)]) wf_29:=Yg Tryz.underlying29 (row:=Qg) rd_80 (Nat.lt_of_lt_of_le (by decide:0<1) (Nat.le_of_ble_eq_true (by kernel_rfl)))
def wf_82 (y:Ql):Prop:=(λs:List UInt8=>s.length≤reachBytes) y.Xv∧((λn:Int=>IntKind.min .i64≤n∧n≤IntKind.max .i64) y.Xf∧(True))
theorem rd_82:Zd Tryz.prog 82 Qs wf_82:=
 (Y4 (tot:=2) Tryz.underlying82 (by kernel_rfl) (Z0 (n:=1) (Yc (P:=Tryz.prog) Tryz.underlying9) (by kernel_rfl) (Z0 (n:=1) (Zc (P:=Tryz.prog) Tryz.underlying3) (by kernel_rfl) Y2 rfl) rfl)).map (λp:(List UInt8)×(Int×Unit)=>({ Xv:=p.1,Xf:=p.2.1 }:Ql)) (λ_=>rfl) (λ_ h=>h)
def wf_30 (ys:List Ql):Prop:=(∀ y∈ys,wf_82 y)∧ys.length*Tryz.prog.bytesOf 82≤reachBytes
theorem rd_30:Zd Tryz.prog 30 (λys:List Ql=>[D.sl false (ys.map Qs)]) wf_30:=Yg Tryz.underlying30 (row:=Qs) rd_82 (Nat.lt_of_lt_of_le (by decide:0<1) (Nat.le_of_ble_eq_true (by kernel_rfl)))
def wf_78 (y:Q9):Prop:=(λn:Int=>IntKind.min .i64≤n∧n≤IntKind.max .i64) y.Zq∧((λn:Int=>IntKind.min .i64≤n∧n≤IntKind.max .i64) y.J4∧((λn:Int=>IntKind.min .i64≤n∧n≤IntKind.max .i64) y.f_PC∧(wf_48 y.Zs∧(wf_48 y.Zw∧((λn:Int=>IntKind.min .i64≤n∧n≤IntKind.max .i64) y.Vp∧((λ_:Bool=>True) y.K3∧((λ_:Bool=>True) y.Mc∧(True))))))))
theorem rd_78:Zd Tryz.prog 78 Vd wf_78:=
 (Y4 (tot:=8) Tryz.underlying78 (by kernel_rfl) (Z0 (n:=1) (Zc (P:=Tryz.prog) Tryz.underlying3) (by kernel_rfl) (Z0 (n:=1) (Zc (P:=Tryz.prog) Tryz.underlying3) (by kernel_rfl) (Z0 (n:=1) (Zc (P:=Tryz.prog) Tryz.underlying3) (by kernel_rfl) (Z0 (n:=1) rd_48 (by kernel_rfl) (Z0 (n:=1) rd_48 (by kernel_rfl) (Z0 (n:=1) (Zc (P:=Tryz.prog) Tryz.underlying3) (by kernel_rfl) (Z0 (n:=1) (Uf (P:=Tryz.prog) Tryz.underlying4) (by kernel_rfl) (Z0 (n:=1) (Uf (P:=Tryz.prog) Tryz.underlying4) (by kernel_rfl) Y2 rfl) rfl) rfl) rfl) rfl) rfl) rfl) rfl)).map (λp:Int×(Int×(Int×(List Zg)×(List Zg)×(Int×(Bool×(Bool×Unit)))))=>({ Zq:=p.1,J4:=p.2.1,f_PC:=p.2.2.1,Zs:=p.2.2.2.1,Zw:=p.2.2.2.2.1,Vp:=p.2.2.2.2.2.1,K3:=p.2.2.2.2.2.2.1,Mc:=p.2.2.2.2.2.2.2.1 }:Q9)) (λ_=>rfl) (λ_ h=>h)
def wf_60 (ys:List Q9):Prop:=(∀ y∈ys,wf_78 y)∧ys.length*Tryz.prog.bytesOf 78≤reachBytes
theorem rd_60:Zd Tryz.prog 60 (λys:List Q9=>[D.sl false (ys.map Vd)]) wf_60:=Yg Tryz.underlying60 (row:=Vd) rd_78 (Nat.lt_of_lt_of_le (by decide:0<1) (Nat.le_of_ble_eq_true (by kernel_rfl)))
def wf_62 (y:Yu):Prop:=(λn:Int=>IntKind.min .i64≤n∧n≤IntKind.max .i64) y.Q5∧((λn:Int=>IntKind.min .i64≤n∧n≤IntKind.max .i64) y.Qx∧((λn:Int=>IntKind.min .i64≤n∧n≤IntKind.max .i64) y.Qh∧(wf_60 y.Yx∧((λn:Int=>IntKind.min .i64≤n∧n≤IntKind.max .i64) y.Xf∧((λn:Int=>IntKind.min .i64≤n∧n≤IntKind.max .i64) y.Vf∧(wf_59 y.Qm∧(True)))))))
theorem rd_62:Zd Tryz.prog 62 Xk wf_62:=
 (Y4 (tot:=8) Tryz.underlying62 (by kernel_rfl) (Z0 (n:=1) (Zc (P:=Tryz.prog) Tryz.underlying3) (by kernel_rfl) (Z0 (n:=1) (Zc (P:=Tryz.prog) Tryz.underlying3) (by kernel_rfl) (Z0 (n:=1) (Zc (P:=Tryz.prog) Tryz.underlying3) (by kernel_rfl) (Z0 (n:=1) rd_60 (by kernel_rfl) (Z0 (n:=1) (Zc (P:=Tryz.prog) Tryz.underlying3) (by kernel_rfl) (Z0 (n:=1) (Zc (P:=Tryz.prog) Tryz.underlying3) (by kernel_rfl) (Z0 (n:=2) rd_59 (by kernel_rfl) Y2 rfl) rfl) rfl) rfl) rfl) rfl) rfl)).map (λp:Int×(Int×(Int×(List Q9)×(Int×(Int×(Zg×Unit)))))=>({ Q5:=p.1,Qx:=p.2.1,Qh:=p.2.2.1,Yx:=p.2.2.2.1,Xf:=p.2.2.2.2.1,Vf:=p.2.2.2.2.2.1,Qm:=p.2.2.2.2.2.2.1 }:Yu)) (λ_=>rfl) (λ_ h=>h)
def wf_31 (ys:List Yu):Prop:=(∀ y∈ys,wf_62 y)∧ys.length*Tryz.prog.bytesOf 62≤reachBytes
theorem rd_31:Zd Tryz.prog 31 (λys:List Yu=>[D.sl false (ys.map Xk)]) wf_31:=Yg Tryz.underlying31 (row:=Xk) rd_62 (Nat.lt_of_lt_of_le (by decide:0<1) (Nat.le_of_ble_eq_true (by kernel_rfl)))
def wf_34 (y:Z4):Prop:=wf_27 y.Y1∧((λn:Int=>IntKind.min .i64≤n∧n≤IntKind.max .i64) y.V6∧(wf_28 y.Z2∧(wf_29 y.X7∧(wf_30 y.Xc∧(wf_31 y.Zz∧(wf_32 y.W5∧(True)))))))
theorem rd_34:Zd Tryz.prog 34 Zo wf_34:=
 (Y4 (tot:=10) Tryz.underlying34 (by kernel_rfl) (Z0 (n:=4) rd_27 (by kernel_rfl) (Z0 (n:=1) (Zc (P:=Tryz.prog) Tryz.underlying3) (by kernel_rfl) (Z0 (n:=1) rd_28 (by kernel_rfl) (Z0 (n:=1) rd_29 (by kernel_rfl) (Z0 (n:=1) rd_30 (by kernel_rfl) (Z0 (n:=1) rd_31 (by kernel_rfl) (Z0 (n:=1) rd_32 (by kernel_rfl) Y2 rfl) rfl) rfl) rfl) rfl) rfl) rfl)).map (λp:Zj×(Int×(List Zl)×(List Xm)×(List Ql)×(List Yu)×(List (List UInt8))×Unit)=>({ Y1:=p.1,V6:=p.2.1,Z2:=p.2.2.1,X7:=p.2.2.2.1,Xc:=p.2.2.2.2.1,Zz:=p.2.2.2.2.2.1,W5:=p.2.2.2.2.2.2.1 }:Z4)) (λ_=>rfl) (λ_ h=>h)
theorem rlS {n:Nat} (h:n≤reachBytes):n≤4503599627370496:=Nat.le_trans h (by decide)
theorem rlB {n b k:Nat} (e:b=k) (h:n*b≤reachBytes):n*k≤140737488355328:=by have:=Z03 h; rw[e] at this; omega
theorem rlN {n b:Nat} (e:1≤b) (h:n*b≤reachBytes):n≤140737488355328:=Nat.le_trans (Nat.le_trans (Nat.le_of_eq (Nat.mul_one n).symm) (Nat.mul_le_mul_left n e)) (by have:=Z03 h; omega)
theorem ws_T_api_Ref {y:Xp} (h:wf_218 y):WRef y:=⟨rlS h.1,rlS h.2.1,rlS h.2.2.1⟩
theorem ws_T_api_Insn {y:Z6} (h:wf_220 y):Qk y:=⟨rlB (by kernel_rfl) h.2.2.2.2.1.2,rlB (by kernel_rfl) h.2.2.2.2.2.1.2,ws_T_api_Ref h.2.2.2.2.2.2.1,rlS h.2.2.2.2.2.2.2.1⟩
theorem ws_T_api_Frame {y:V5} (h:wf_186 y):Kj y:=⟨λv hv=>rlS (h.1.1 v hv).2.2.1.2.2.1,rlB (by kernel_rfl) h.1.2,λv hv=>rlS (h.2.1.1 v hv).2.2.1.2.2.1,rlB (by kernel_rfl) h.2.1.2⟩
theorem ws_T_api_Code {y:Zi} (h:wf_138 y):Wz y:=⟨λv hv=>ws_T_api_Insn (h.2.2.1.1 v hv),rlB (by kernel_rfl) h.2.2.1.2,λv hv=>rlS (h.2.2.2.1.1 v hv).2.2.2.2.1,rlB (by kernel_rfl) h.2.2.2.1.2,λv hv=>ws_T_api_Frame (h.2.2.2.2.1.1 v hv).2.1,rlB (by kernel_rfl) h.2.2.2.2.1.2,rlB (by kernel_rfl) h.2.2.2.2.2.1.2⟩
theorem ws_T_api_Method {y:Xy} (h:wf_140 y):K8 y:=⟨rlS h.2.1,rlS h.2.2.1,ws_T_api_Code h.2.2.2.2.1,λv hv=>rlS (h.2.2.2.2.2.1.1 v hv),rlB (by kernel_rfl) h.2.2.2.2.2.1.2⟩
theorem ws_T_api_Field {y:X6} (h:wf_101 y):Z2o y:=⟨rlS h.2.1,rlS h.2.2.1,rlS h.2.2.2.2.2.1⟩
theorem ws_T_api_ClassModel {y:Zu} (h:wf_105 y):U4 y:=⟨rlS h.2.1,rlS h.2.2.1,λv hv=>rlS (h.2.2.2.1.1 v hv),rlB (by kernel_rfl) h.2.2.2.1.2,λv hv=>ws_T_api_Field (h.2.2.2.2.1.1 v hv),rlB (by kernel_rfl) h.2.2.2.2.1.2,λv hv=>ws_T_api_Method (h.2.2.2.2.2.1.1 v hv),rlB (by kernel_rfl) h.2.2.2.2.2.1.2,rlS h.2.2.2.2.2.2.1⟩
theorem ws_T_api_Loader {y:Yi} (h:wf_115 y):Jv y:=⟨λv hv=>rlS (h.1.1 v hv).1,rlN (Nat.le_of_ble_eq_true (by kernel_rfl)) h.1.2,λv hv=>rlS (h.2.1.1 v hv).1,rlN (Nat.le_of_ble_eq_true (by kernel_rfl)) h.2.1.2⟩
theorem ws_T_api_ClassSpace {y:Zj} (h:wf_27 y):Wn y:=⟨λv hv=>ws_T_api_Loader (h.1.1 v hv),rlN (Nat.le_of_ble_eq_true (by kernel_rfl)) h.1.2,λv hv=>⟨ws_T_api_ClassModel (h.2.1.1 v hv).2.1,rlN (Nat.le_of_ble_eq_true (by kernel_rfl)) (h.2.1.1 v hv).2.2.2.1.2⟩,rlN (Nat.le_of_ble_eq_true (by kernel_rfl)) h.2.1.2,λv hv=>rlS (h.2.2.1.1 v hv).2.1,rlN (Nat.le_of_ble_eq_true (by kernel_rfl)) h.2.2.1.2,λv hv=>rlS (h.2.2.2.1.1 v hv).1,rlN (Nat.le_of_ble_eq_true (by kernel_rfl)) h.2.2.2.1.2⟩
theorem ws_T_api_Object {y:Zl} (h:wf_50 y):Z0h y:=⟨rlN (Nat.le_of_ble_eq_true (by kernel_rfl)) h.2.2.1.2,rlS h.2.2.2.1,rlN (Nat.le_of_ble_eq_true (by kernel_rfl)) h.2.2.2.2.2.2.1.2⟩
theorem ws_T_api_Activation {y:Q9} (h:wf_78 y):WAct y:=⟨rlN (Nat.le_of_ble_eq_true (by kernel_rfl)) h.2.2.2.1.2,rlN (Nat.le_of_ble_eq_true (by kernel_rfl)) h.2.2.2.2.1.2⟩
theorem ws_T_api_Machine {y:Z4} (h:wf_34 y):Vr y:=⟨ws_T_api_ClassSpace h.1,λv hv=>ws_T_api_Object (h.2.2.1.1 v hv),rlN (Nat.le_of_ble_eq_true (by kernel_rfl)) h.2.2.1.2,λv hv=>rlN (Nat.le_of_ble_eq_true (by kernel_rfl)) (h.2.2.2.1.1 v hv).2.2.1.2,rlN (Nat.le_of_ble_eq_true (by kernel_rfl)) h.2.2.2.1.2,λv hv=>rlS (h.2.2.2.2.1.1 v hv).1,rlN (Nat.le_of_ble_eq_true (by kernel_rfl)) h.2.2.2.2.1.2,λv hv=>⟨λa ha=>ws_T_api_Activation ((h.2.2.2.2.2.1.1 v hv).2.2.2.1.1 a ha),rlN (Nat.le_of_ble_eq_true (by kernel_rfl)) (h.2.2.2.2.2.1.1 v hv).2.2.2.1.2⟩,rlN (Nat.le_of_ble_eq_true (by kernel_rfl)) h.2.2.2.2.2.1.2,rlN (Nat.le_of_ble_eq_true (by kernel_rfl)) h.2.2.2.2.2.2.1.2⟩
set_option maxRecDepth 100000 in
theorem lifted (os:Os) (started:os.Started) (H:Type) (enc:TypeId×Value→H):
  ReturnsInHanded {} Tryz.checked os 5 .any (λw args=>(Rows.reachabilityNewObjectSpec.pre enc Tryz.prog Tryz.f5 [] false w args∧laidMetH Tryz.prog J9 w)∧sizedMet enc Tryz.prog Tryz.f5 (OpenSpec.ofChange Rows.reachabilityNewObjectSpec) false w args) (Rows.reachabilityNewObjectSpec.post enc Tryz.prog Tryz.f5 false true false false):=by
 refine returnsInHanded_of_change_and (C:=Tryz.checked) (X:=λw _=>laidMetH Tryz.prog J9 w) (λ_ _ _ hh h=>h.of_heap hh) own started (by kernel_rfl) Tryz.func5
  (ChangeSpec.witness_shaped (enc:=enc) (C:=Tryz.checked) (os:=os) (X:=λw _=>laidMetH Tryz.prog J9 w) false (World.doorLaid Tryz.prog 400 os) #[.agg #[.slice none 0 0,.slice none 0 0,.slice none 0 0,.slice none 0 0,.int .i64 0,.slice none 0 0,.slice none 0 0,.slice none 0 0,.slice none 0 0,.slice none 0 0],.agg #[.int .i64 0,.int .i64 0,.int .u8 0,.int .i64 0,.slice none 0 0,.string ⟨#[]⟩,.int .i64 0,.int .i64 0,.slice none 0 0]] 8 rfl (World.shaped_of_RefB (by kernel_rfl) (by kernel_rfl)) (by kernel_rfl) (by kernel_rfl) (by kernel_rfl) (Z9b os _)) ?_
 intro W base args ds gs before hval0 hW hcnd hsz hL _
 have hval:∀ (j:Nat) t v,Tryz.f5.params[j]?=some t→args[j]?=some v→Value.okWide Tryz.prog W .any base t v:=hval0
 have hW':=hW
 obtain⟨p,q,hA0,hV,rfl,hfz,hnd⟩:=hW
 have hA:DataW.TrodAll enc Tryz.prog W 0 (λ_=>true) true Tryz.f5.params.toList args.toList ds p:=hA0
 rw[Tryz.params5] at hA hval
 obtain⟨v0,vs0,d0,ds0,p0,q0,hargs,rfl,rfl,h0,r0⟩:=trodAll_cons hA
 obtain⟨v1,vs1,d1,ds1,p1,q1,rfl,rfl,rfl,h1,r1⟩:=trodAll_cons r0
 obtain⟨rfl,rfl,rfl⟩:=trodAll_nil r1
 obtain rfl:args= #[v0,v1] :=by cases args; simp_all
 obtain⟨rfl,rfl⟩:=trodVars_none hV
 have hsz2:(DataW.weightsEach Tryz.prog (Tryz.f5.params.toList++[]) ([d0,d1]++[])).all (· ≤reachBytes)=true:=hsz
 rw[Tryz.params5] at hsz2
 simp only[List.append_nil,DataW.weightsEach,List.all_append,Bool.and_eq_true] at hsz2
 obtain⟨z0,z1⟩:=hsz2
 obtain⟨y0,c0,g0⟩:=Z5i (M:=Jy.reach Tryz.prog) Tryz.underlying34 rd_34 (hval 0 34 v0 rfl rfl) h0 z0
 obtain⟨y1,c1,g1⟩:=Z5i (M:=Jy.reach Tryz.prog) Tryz.underlying50 rd_50 (hval 1 50 v1 rfl rfl) h1 z1
 exact Z9n (P:=Tryz.prog) (fn:=Tryz.f5) (tb:=4) rfl (by kernel_rfl) Tryz.underlying4 laid (by kernel_rfl) hW' rfl (.cons c0 (.cons c1 .nil)) (Zdv hL) (w5 (Zx0 y0 (ws_T_api_Machine g0) y1 (ws_T_api_Object g1)))
theorem am {a b:Bool} (h:a=true) (g:b=true):(a&&b)=true:=by rw[h,g]; rfl
theorem k0:Rows.reachabilityNewObjectRow.wf (OpenSpec.ofChange Rows.reachabilityNewObjectSpec)=true:=by kernel_rfl
theorem k1:laidOutB Tryz.prog=true:=by kernel_rfl
theorem k2:mapsRowed Tryz.prog=true:=by kernel_rfl
theorem k3:Tryz.f5.params.all (Tryz.prog.readableRec ·)=true:=by kernel_rfl
theorem k4:namedTie Tryz.prog Rows.reachabilityNewObjectRow.named Rows.reachabilityNewObjectSpec.vars=true:=by kernel_rfl
theorem k5:(Rows.reachabilityNewObjectRow.stops==[])=true:=by kernel_rfl
theorem k6:(Tryz.prog.stops==[])=true:=by kernel_rfl
theorem k7:(Rows.reachabilityNewObjectRow.knobs==[])=true:=by kernel_rfl
theorem k8:(Tryz.prog.stopKnobs==[])=true:=by kernel_rfl
theorem k9:(Rows.reachabilityNewObjectRow.inPlace==Tryz.prog.inPlace 5)=true:=by kernel_rfl
theorem k10:(Rows.reachabilityNewObjectRow.unfollowed==Tryz.prog.unfollowed 5)=true:=by kernel_rfl
theorem k11:(Rows.reachabilityNewObjectRow.recurses==Tryz.prog.recurses 5)=true:=by kernel_rfl
theorem k12:(Rows.reachabilityNewObjectRow.named==Tryz.prog.varsNamed 5)=true:=by kernel_rfl
theorem k13:(Rows.reachabilityNewObjectRow.maps==(Tryz.f5.params.toList++Rows.reachabilityNewObjectSpec.plain.varTypes Tryz.prog).any (Tryz.prog.mapsRec ·))=true:=by kernel_rfl
theorem k14:(Rows.reachabilityNewObjectRow.ifaces==(Tryz.f5.params.toList++Rows.reachabilityNewObjectSpec.plain.varTypes Tryz.prog).any (Tryz.prog.ifacesRec ·))=true:=by kernel_rfl
theorem k15:(Rows.reachabilityNewObjectRow.mapsOut==Tryz.prog.mapsAmong Tryz.f5.resultTypes.toList)=true:=by kernel_rfl
theorem k16:(Rows.reachabilityNewObjectRow.loops==(Tryz.f5.params.toList++Rows.reachabilityNewObjectSpec.plain.varTypes Tryz.prog).any (Tryz.prog.loopsFrom ·))=true:=by kernel_rfl
theorem k17:(Rows.reachabilityNewObjectRow.wideKeys==(Tryz.f5.params.toList++Rows.reachabilityNewObjectSpec.plain.varTypes Tryz.prog++Tryz.f5.resultTypes.toList).any (Tryz.prog.wideKeysFrom ·))=true:=by kernel_rfl
theorem k18:Rows.reachabilityNewObjectSpec.vars.all (Tryz.prog.varReadable ·)=true:=by kernel_rfl
theorem k19:Tryz.f5.resultTypes.all (λt=>Tryz.prog.readableRec t&&decide (t<Tryz.prog.types.size))=true:=by kernel_rfl
theorem k20:(Rows.reachabilityNewObjectRow.ifacesOut==Tryz.f5.resultTypes.toList.any (Tryz.prog.ifacesRec ·))=true:=by kernel_rfl
theorem k21:(Rows.reachabilityNewObjectRow.loopsOut==Tryz.f5.resultTypes.toList.any (Tryz.prog.loopsFrom ·))=true:=by kernel_rfl
theorem k22:(Rows.reachabilityNewObjectRow.plainKeys==Tryz.prog.plainKeys)=true:=by kernel_rfl
theorem k23:Rows.reachabilityNewObjectRow.shortTexts.isNone=true:=by kernel_rfl
theorem k24:Tryz.prog.stopsHeard=true:=by kernel_rfl
theorem k25:Tryz.prog.mayEnter=true:=by kernel_rfl
theorem k26:(Rows.reachabilityNewObjectRow.lifted==Tryz.prog.liftsFinal)=true:=by kernel_rfl
theorem k27:(Tryz.prog.make==some Rows.reachabilityNewObjectRow.make)=true:=by kernel_rfl
theorem k28:(Rows.reachabilityNewObjectRow.kinds==(if Rows.reachabilityNewObjectRow.domain.isEmpty then [] else Tryz.f5.params.toList.map λt=>match Tryz.prog.underlying t with|some (.int k)=>some k|_=>none))=true:=by kernel_rfl
theorem k29:(Rows.reachabilityNewObjectRow.pinned==Rows.reachabilityNewObjectRow.pinnedBy)=true:=by kernel_rfl
theorem k30:(Rows.reachabilityNewObjectRow.veiled==(Tryz.f5.params.toList++Rows.reachabilityNewObjectSpec.plain.varTypes Tryz.prog++Tryz.f5.resultTypes.toList).any (Tryz.prog.veiledRec ·))=true:=by kernel_rfl
theorem k31:Rows.reachabilityNewObjectRow.veiledFits Tryz.prog Tryz.f5.params.toList (Tryz.f5.params.toList++Rows.reachabilityNewObjectSpec.plain.varTypes Tryz.prog++Tryz.f5.resultTypes.toList)=true:=by kernel_rfl
set_option maxRecDepth 100000 in
theorem closed:joinedFacts Tryz.prog 5 Tryz.f5 Rows.reachabilityNewObjectSpec Rows.reachabilityNewObjectRow=true:=(am (am (am (am (am (am (am (am (am (am (am (am (am (am (am (am (am (am (am (am (am (am (am (am (am (am (am (am (am (am (am k0 k1) k2) k3) k4) k5) k6) k7) k8) k9) k10) k11) k12) k13) k14) k15) k16) k17) k18) k19) k20) k21) k22) k23) k24) k25) k26) k27) k28) k29) k30) k31)
theorem inst:Tryz.f5.isInstance Tryz.prog Rows.reachabilityNewObjectRow.origin Rows.reachabilityNewObjectRow.targs:=of_decide_eq_true (by kernel_rfl)
theorem named:Tryz.prog.funcNamed Rows.reachabilityNewObjectRow.func=some 5:=by kernel_rfl
theorem wrapped:Tryz.f5.isWrapper Tryz.prog Rows.reachabilityNewObjectRow.wrapper Rows.reachabilityNewObjectRow.mainSum:=by unfold Func.isWrapper; first|(rw[if_pos (by decide+kernel)]; kernel_rfl)|(rw[if_neg (by decide+kernel)]; exact⟨rfl,rfl⟩)
theorem over:Rows.reachabilityNewObjectRow.holds Tryz.pinned (OpenSpec.ofChange Rows.reachabilityNewObjectSpec):=
 OpenClaim.holds_of_wide 5 Tryz.f5 rfl rfl rfl rfl rfl rfl rfl ⟨rfl,rfl,rfl,rfl,rfl⟩ rfl rfl rfl rfl rfl named Tryz.func5 closed inst wrapped
  (λos started H enc _=>lifted os started H enc)
theorem t0:Rows.reachabilityNewObjectRow.wfByText (OpenSpec.ofChange Rows.reachabilityNewObjectSpec)=true:=by kernel_rfl
theorem t1 : Tryz.pinned.checked.prog.mainIs = some (true, ("fc9448db9eaec7232785f1b66388264df2deaa6e5a4d6a705348f827750de6c5").toList) := by kernel_rfl
theorem t2:false=Tryz.pinned.checked.prog.looks [] :=by kernel_rfl
theorem t3:false=Rows.reachabilityNewObjectRow.goesBy Tryz.pinned.checked.prog:=by kernel_rfl
theorem t4:([34,50].all λu=>!Tryz.prog.wantsStandIn u)=true:=by kernel_rfl
theorem proved:Rows.ReachabilityNewObjectCardSaid:=
 Claim7.holds_tied_plain_at .later [] [.data] true (true, "fc9448db9eaec7232785f1b66388264df2deaa6e5a4d6a705348f827750de6c5") false
  over (λ_ h=>by cases h) t0 (λ_ h=>by cases h) reachabilityNewObject_row_tie rfl ⟨rfl,rfl⟩ t1 rfl
  (fun f fn hf hfn=>by
   obtain rfl:f=5:=Option.some.inj (named.symm.trans hf) |>.symm
   obtain rfl:fn=Tryz.f5:=(Option.some.inj (Tryz.func5.symm.trans hfn)).symm
   exact ⟨t2,λj t ht=>by
    rw[Tryz.params5] at ht
    have hm:t∈[34,50] :=by simpa using Array.mem_of_getElem? ht
    exact(show Tryz.prog.wantsStandIn t=false by simpa using List.all_eq_true.1 t4 t hm)⟩)
  t3
#print axioms proved
end Go.Proofs.YtiiilinleagffaaGreatDoor.reachabilityNewObject
