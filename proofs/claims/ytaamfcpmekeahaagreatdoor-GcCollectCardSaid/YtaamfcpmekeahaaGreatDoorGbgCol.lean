/-
  The law GcCollect holds for every input: the function returns true, and Uu argument reads behind the call as it read before. No condition.
-/
import Derived.Test.YtaamfcpmekeahaaGreatDoorGbgZ1OCol
import Derived.Test.YtaamfcpmekeahaaGreatDoorGbgK
import Derived.WalkKit
import Derived.ProofKit
import Derived.OpenShut
import Derived.ChangeMaps5
import Derived.Test.YtaamfcpmekeahaaGreatDoorTie
import Derived.Test.YtaamfcpmekeahaaGreatDoorCards
import Derived.SevenTiedAt
import Derived.Handed
import Derived.LaidMore
set_option linter.unusedVariables false
set_option linter.unusedSimpArgs false
namespace Go.Proofs.YtaamfcpmekeahaaGreatDoor.gcCollect
open Go.ChangeShapes Go.WideShapes Go.ChangeAt Go.RowKit Go.ChangeMaps Go.Den
theorem own:ownKnob Tryz.prog.godebug=none:=by kernel_rfl
theorem laid:laidOutB Tryz.prog=true:=by kernel_rfl
def wf_133 (y:Vi):Prop:=(λs:List UInt8=>s.length≤reachBytes) y.L7∧((λn:Int=>IntKind.min .i64≤n∧n≤IntKind.max .i64) y.f_To∧(True))
theorem rd_133:Zl Tryz.prog 133 J0 wf_133:=
 (Y3 (tot:=2) Tryz.underlying133 (by kernel_rfl) (Z1 (n:=1) (Yb (P:=Tryz.prog) Tryz.underlying9) (by kernel_rfl) (Z1 (n:=1) (Ze (P:=Tryz.prog) Tryz.underlying3) (by kernel_rfl) Y2 rfl) rfl)).map (λp:(List UInt8)×(Int×Unit)=>({ L7:=p.1,f_To:=p.2.1 }:Vi)) (λ_=>rfl) (λ_ h=>h)
def wf_128 (ys:List Vi):Prop:=(∀ y∈ys,wf_133 y)∧ys.length*Tryz.prog.bytesOf 133≤reachBytes
theorem rd_128:Zl Tryz.prog 128 (λys:List Vi=>[D.sl false (ys.map J0)]) wf_128:=Yd Tryz.underlying128 (row:=J0) rd_133 (Nat.lt_of_lt_of_le (by decide:0<1) (Nat.le_of_ble_eq_true (by kernel_rfl)))
def wf_135 (y:Vj):Prop:=(λs:List UInt8=>s.length≤reachBytes) y.Zn∧((λs:List UInt8=>s.length≤reachBytes) y.Qm∧(True))
theorem rd_135:Zl Tryz.prog 135 J3 wf_135:=
 (Y3 (tot:=2) Tryz.underlying135 (by kernel_rfl) (Z1 (n:=1) (Yb (P:=Tryz.prog) Tryz.underlying9) (by kernel_rfl) (Z1 (n:=1) (Yb (P:=Tryz.prog) Tryz.underlying9) (by kernel_rfl) Y2 rfl) rfl)).map (λp:(List UInt8)×(List UInt8)×Unit=>({ Zn:=p.1,Qm:=p.2.1 }:Vj)) (λ_=>rfl) (λ_ h=>h)
def wf_129 (ys:List Vj):Prop:=(∀ y∈ys,wf_135 y)∧ys.length*Tryz.prog.bytesOf 135≤reachBytes
theorem rd_129:Zl Tryz.prog 129 (λys:List Vj=>[D.sl false (ys.map J3)]) wf_129:=Yd Tryz.underlying129 (row:=J3) rd_135 (Nat.lt_of_lt_of_le (by decide:0<1) (Nat.le_of_ble_eq_true (by kernel_rfl)))
def wf_131 (y:Yk):Prop:=wf_128 y.Va∧(wf_129 y.Qv∧(True))
theorem rd_131:Zl Tryz.prog 131 Yy wf_131:=
 (Y3 (tot:=2) Tryz.underlying131 (by kernel_rfl) (Z1 (n:=1) rd_128 (by kernel_rfl) (Z1 (n:=1) rd_129 (by kernel_rfl) Y2 rfl) rfl)).map (λp:(List Vi)×(List Vj)×Unit=>({ Va:=p.1,Qv:=p.2.1 }:Yk)) (λ_=>rfl) (λ_ h=>h)
def wf_22 (ys:List Yk):Prop:=(∀ y∈ys,wf_131 y)∧ys.length*Tryz.prog.bytesOf 131≤reachBytes
theorem rd_22:Zl Tryz.prog 22 (λys:List Yk=>[D.sl false (ys.map Yy)]) wf_22:=Yd Tryz.underlying22 (row:=Yy) rd_131 (Nat.lt_of_lt_of_le (by decide:0<1) (Nat.le_of_ble_eq_true (by kernel_rfl)))
def wf_32 (ys:List (List UInt8)):Prop:=(∀ y∈ys,(λs:List UInt8=>s.length≤reachBytes) y)∧ys.length*Tryz.prog.bytesOf 9≤reachBytes
theorem rd_32:Zl Tryz.prog 32 (λys:List (List UInt8)=>[D.sl false (ys.map Xy)]) wf_32:=Yd Tryz.underlying32 (row:=Xy) (Yb (P:=Tryz.prog) Tryz.underlying9) (Nat.lt_of_lt_of_le (by decide:0<1) (Nat.le_of_ble_eq_true (by kernel_rfl)))
def wf_119 (y:Ql):Prop:=(λn:Int=>IntKind.min .i64≤n∧n≤IntKind.max .i64) y.Ye∧((λs:List UInt8=>s.length≤reachBytes) y.Zn∧((λs:List UInt8=>s.length≤reachBytes) y.Xh∧((λn:Int=>IntKind.min .i64≤n∧n≤IntKind.max .i64) y.W1∧((λn:Int=>IntKind.min .i64≤n∧n≤IntKind.max .i64) y.f_N∧((λs:List UInt8=>s.length≤reachBytes) y.f_S∧(True))))))
theorem rd_119:Zl Tryz.prog 119 Wl wf_119:=
 (Y3 (tot:=6) Tryz.underlying119 (by kernel_rfl) (Z1 (n:=1) (Ze (P:=Tryz.prog) Tryz.underlying3) (by kernel_rfl) (Z1 (n:=1) (Yb (P:=Tryz.prog) Tryz.underlying9) (by kernel_rfl) (Z1 (n:=1) (Yb (P:=Tryz.prog) Tryz.underlying9) (by kernel_rfl) (Z1 (n:=1) (Ze (P:=Tryz.prog) Tryz.underlying3) (by kernel_rfl) (Z1 (n:=1) (Ze (P:=Tryz.prog) Tryz.underlying3) (by kernel_rfl) (Z1 (n:=1) (Yb (P:=Tryz.prog) Tryz.underlying9) (by kernel_rfl) Y2 rfl) rfl) rfl) rfl) rfl) rfl)).map (λp:Int×(List UInt8)×(List UInt8)×(Int×(Int×(List UInt8)×Unit))=>({ Ye:=p.1,Zn:=p.2.1,Xh:=p.2.2.1,W1:=p.2.2.2.1,f_N:=p.2.2.2.2.1,f_S:=p.2.2.2.2.2.1 }:Ql)) (λ_=>rfl) (λ_ h=>h)
def wf_85 (ys:List Ql):Prop:=(∀ y∈ys,wf_119 y)∧ys.length*Tryz.prog.bytesOf 119≤reachBytes
theorem rd_85:Zl Tryz.prog 85 (λys:List Ql=>[D.sl false (ys.map Wl)]) wf_85:=Yd Tryz.underlying85 (row:=Wl) rd_119 (Nat.lt_of_lt_of_le (by decide:0<1) (Nat.le_of_ble_eq_true (by kernel_rfl)))
def wf_39 (ys:List Int):Prop:=(∀ y∈ys,(λn:Int=>IntKind.min .i64≤n∧n≤IntKind.max .i64) y)∧ys.length*Tryz.prog.bytesOf 3≤reachBytes
theorem rd_39:Zl Tryz.prog 39 (λys:List Int=>[D.sl false (ys.map Z5)]) wf_39:=Yd Tryz.underlying39 (row:=Z5) (Ze (P:=Tryz.prog) Tryz.underlying3) (Nat.lt_of_lt_of_le (by decide:0<1) (Nat.le_of_ble_eq_true (by kernel_rfl)))
def wf_180 (y:Xw):Prop:=(λs:List UInt8=>s.length≤reachBytes) y.Zy∧((λs:List UInt8=>s.length≤reachBytes) y.Zn∧((λs:List UInt8=>s.length≤reachBytes) y.Xh∧(True)))
theorem rd_180:Zl Tryz.prog 180 Z26 wf_180:=
 (Y3 (tot:=3) Tryz.underlying180 (by kernel_rfl) (Z1 (n:=1) (Yb (P:=Tryz.prog) Tryz.underlying9) (by kernel_rfl) (Z1 (n:=1) (Yb (P:=Tryz.prog) Tryz.underlying9) (by kernel_rfl) (Z1 (n:=1) (Yb (P:=Tryz.prog) Tryz.underlying9) (by kernel_rfl) Y2 rfl) rfl) rfl)).map (λp:(List UInt8)×(List UInt8)×(List UInt8)×Unit=>({ Zy:=p.1,Zn:=p.2.1,Xh:=p.2.2.1 }:Xw)) (λ_=>rfl) (λ_ h=>h)
def wf_182 (y:Zg):Prop:=(λn:Int=>IntKind.min .i64≤n∧n≤IntKind.max .i64) y.f_Op∧((λn:Int=>IntKind.min .i64≤n∧n≤IntKind.max .i64) y.f_A∧((λn:Int=>IntKind.min .i64≤n∧n≤IntKind.max .i64) y.f_B∧((λn:Int=>IntKind.min .i64≤n∧n≤IntKind.max .i64) y.f_To∧(wf_39 y.Yg∧(wf_39 y.Zs∧(wf_180 y.Yv∧((λs:List UInt8=>s.length≤reachBytes) y.f_S∧(True))))))))
theorem rd_182:Zl Tryz.prog 182 Y4 wf_182:=
 (Y3 (tot:=10) Tryz.underlying182 (by kernel_rfl) (Z1 (n:=1) (Ze (P:=Tryz.prog) Tryz.underlying3) (by kernel_rfl) (Z1 (n:=1) (Ze (P:=Tryz.prog) Tryz.underlying3) (by kernel_rfl) (Z1 (n:=1) (Ze (P:=Tryz.prog) Tryz.underlying3) (by kernel_rfl) (Z1 (n:=1) (Ze (P:=Tryz.prog) Tryz.underlying3) (by kernel_rfl) (Z1 (n:=1) rd_39 (by kernel_rfl) (Z1 (n:=1) rd_39 (by kernel_rfl) (Z1 (n:=3) rd_180 (by kernel_rfl) (Z1 (n:=1) (Yb (P:=Tryz.prog) Tryz.underlying9) (by kernel_rfl) Y2 rfl) rfl) rfl) rfl) rfl) rfl) rfl) rfl)).map (λp:Int×(Int×(Int×(Int×(List Int)×(List Int)×(Xw×(List UInt8)×Unit))))=>({ f_Op:=p.1,f_A:=p.2.1,f_B:=p.2.2.1,f_To:=p.2.2.2.1,Yg:=p.2.2.2.2.1,Zs:=p.2.2.2.2.2.1,Yv:=p.2.2.2.2.2.2.1,f_S:=p.2.2.2.2.2.2.2.1 }:Zg)) (λ_=>rfl) (λ_ h=>h)
def wf_152 (ys:List Zg):Prop:=(∀ y∈ys,wf_182 y)∧ys.length*Tryz.prog.bytesOf 182≤reachBytes
theorem rd_152:Zl Tryz.prog 152 (λys:List Zg=>[D.sl false (ys.map Y4)]) wf_152:=Yd Tryz.underlying152 (row:=Y4) rd_182 (Nat.lt_of_lt_of_le (by decide:0<1) (Nat.le_of_ble_eq_true (by kernel_rfl)))
def wf_184 (y:Yf):Prop:=(λn:Int=>IntKind.min .i64≤n∧n≤IntKind.max .i64) y.Wh∧((λn:Int=>IntKind.min .i64≤n∧n≤IntKind.max .i64) y.f_To∧((λn:Int=>IntKind.min .i64≤n∧n≤IntKind.max .i64) y.Wi∧((λn:Int=>IntKind.min .i64≤n∧n≤IntKind.max .i64) y.Zy∧((λs:List UInt8=>s.length≤reachBytes) y.Zt∧(True)))))
theorem rd_184:Zl Tryz.prog 184 X2 wf_184:=
 (Y3 (tot:=5) Tryz.underlying184 (by kernel_rfl) (Z1 (n:=1) (Ze (P:=Tryz.prog) Tryz.underlying3) (by kernel_rfl) (Z1 (n:=1) (Ze (P:=Tryz.prog) Tryz.underlying3) (by kernel_rfl) (Z1 (n:=1) (Ze (P:=Tryz.prog) Tryz.underlying3) (by kernel_rfl) (Z1 (n:=1) (Ze (P:=Tryz.prog) Tryz.underlying3) (by kernel_rfl) (Z1 (n:=1) (Yb (P:=Tryz.prog) Tryz.underlying9) (by kernel_rfl) Y2 rfl) rfl) rfl) rfl) rfl)).map (λp:Int×(Int×(Int×(Int×(List UInt8)×Unit)))=>({ Wh:=p.1,f_To:=p.2.1,Wi:=p.2.2.1,Zy:=p.2.2.2.1,Zt:=p.2.2.2.2.1 }:Yf)) (λ_=>rfl) (λ_ h=>h)
def wf_153 (ys:List Yf):Prop:=(∀ y∈ys,wf_184 y)∧ys.length*Tryz.prog.bytesOf 184≤reachBytes
theorem rd_153:Zl Tryz.prog 153 (λys:List Yf=>[D.sl false (ys.map X2)]) wf_153:=Yd Tryz.underlying153 (row:=X2) rd_184 (Nat.lt_of_lt_of_le (by decide:0<1) (Nat.le_of_ble_eq_true (by kernel_rfl)))
def wf_173 (y:Yl):Prop:=(λn:Int=>IntKind.min .i64≤n∧n≤IntKind.max .i64) y.Xl∧((λn:Int=>IntKind.min .u8≤n∧n≤IntKind.max .u8) y.Yw∧((λs:List UInt8=>s.length≤reachBytes) y.Zn∧(True)))
theorem rd_173:Zl Tryz.prog 173 Vh wf_173:=
 (Y3 (tot:=3) Tryz.underlying173 (by kernel_rfl) (Z1 (n:=1) (Ze (P:=Tryz.prog) Tryz.underlying3) (by kernel_rfl) (Z1 (n:=1) (Ze (P:=Tryz.prog) Tryz.underlying5) (by kernel_rfl) (Z1 (n:=1) (Yb (P:=Tryz.prog) Tryz.underlying9) (by kernel_rfl) Y2 rfl) rfl) rfl)).map (λp:Int×(Int×(List UInt8)×Unit)=>({ Xl:=p.1,Yw:=p.2.1,Zn:=p.2.2.1 }:Yl)) (λ_=>rfl) (λ_ h=>h)
def wf_234 (y:Zz):Prop:=(λn:Int=>IntKind.min .i64≤n∧n≤IntKind.max .i64) y.Zj∧((λn:Int=>IntKind.min .i64≤n∧n≤IntKind.max .i64) y.Vb∧(wf_173 y.Zt∧((λn:Int=>IntKind.min .i64≤n∧n≤IntKind.max .i64) y.Vk∧(True))))
theorem rd_234:Zl Tryz.prog 234 Yz wf_234:=
 (Y3 (tot:=6) Tryz.underlying234 (by kernel_rfl) (Z1 (n:=1) (Ze (P:=Tryz.prog) Tryz.underlying3) (by kernel_rfl) (Z1 (n:=1) (Ze (P:=Tryz.prog) Tryz.underlying3) (by kernel_rfl) (Z1 (n:=3) rd_173 (by kernel_rfl) (Z1 (n:=1) (Ze (P:=Tryz.prog) Tryz.underlying3) (by kernel_rfl) Y2 rfl) rfl) rfl) rfl)).map (λp:Int×(Int×(Yl×(Int×Unit)))=>({ Zj:=p.1,Vb:=p.2.1,Zt:=p.2.2.1,Vk:=p.2.2.2.1 }:Zz)) (λ_=>rfl) (λ_ h=>h)
def wf_209 (ys:List Zz):Prop:=(∀ y∈ys,wf_234 y)∧ys.length*Tryz.prog.bytesOf 234≤reachBytes
theorem rd_209:Zl Tryz.prog 209 (λys:List Zz=>[D.sl false (ys.map Yz)]) wf_209:=Yd Tryz.underlying209 (row:=Yz) rd_234 (Nat.lt_of_lt_of_le (by decide:0<1) (Nat.le_of_ble_eq_true (by kernel_rfl)))
def wf_211 (y:V8):Prop:=wf_209 y.Y1∧(wf_209 y.Y5∧((λ_:Bool=>True) y.Wp∧(True)))
theorem rd_211:Zl Tryz.prog 211 Z25 wf_211:=
 (Y3 (tot:=3) Tryz.underlying211 (by kernel_rfl) (Z1 (n:=1) rd_209 (by kernel_rfl) (Z1 (n:=1) rd_209 (by kernel_rfl) (Z1 (n:=1) (W4 (P:=Tryz.prog) Tryz.underlying4) (by kernel_rfl) Y2 rfl) rfl) rfl)).map (λp:(List Zz)×(List Zz)×(Bool×Unit)=>({ Y1:=p.1,Y5:=p.2.1,Wp:=p.2.2.1 }:V8)) (λ_=>rfl) (λ_ h=>h)
def wf_213 (y:Yi):Prop:=(λn:Int=>IntKind.min .i64≤n∧n≤IntKind.max .i64) y.Q4∧(wf_211 y.Xa∧(True))
theorem rd_213:Zl Tryz.prog 213 Xc wf_213:=
 (Y3 (tot:=4) Tryz.underlying213 (by kernel_rfl) (Z1 (n:=1) (Ze (P:=Tryz.prog) Tryz.underlying3) (by kernel_rfl) (Z1 (n:=3) rd_211 (by kernel_rfl) Y2 rfl) rfl)).map (λp:Int×(V8×Unit)=>({ Q4:=p.1,Xa:=p.2.1 }:Yi)) (λ_=>rfl) (λ_ h=>h)
def wf_154 (ys:List Yi):Prop:=(∀ y∈ys,wf_213 y)∧ys.length*Tryz.prog.bytesOf 213≤reachBytes
theorem rd_154:Zl Tryz.prog 154 (λys:List Yi=>[D.sl false (ys.map Xc)]) wf_154:=Yd Tryz.underlying154 (row:=Xc) rd_213 (Nat.lt_of_lt_of_le (by decide:0<1) (Nat.le_of_ble_eq_true (by kernel_rfl)))
def wf_186 (y:Xo):Prop:=(λn:Int=>IntKind.min .i64≤n∧n≤IntKind.max .i64) y.Q4∧((λn:Int=>IntKind.min .i64≤n∧n≤IntKind.max .i64) y.Wy∧(True))
theorem rd_186:Zl Tryz.prog 186 Xt wf_186:=
 (Y3 (tot:=2) Tryz.underlying186 (by kernel_rfl) (Z1 (n:=1) (Ze (P:=Tryz.prog) Tryz.underlying3) (by kernel_rfl) (Z1 (n:=1) (Ze (P:=Tryz.prog) Tryz.underlying3) (by kernel_rfl) Y2 rfl) rfl)).map (λp:Int×(Int×Unit)=>({ Q4:=p.1,Wy:=p.2.1 }:Xo)) (λ_=>rfl) (λ_ h=>h)
def wf_155 (ys:List Xo):Prop:=(∀ y∈ys,wf_186 y)∧ys.length*Tryz.prog.bytesOf 186≤reachBytes
theorem rd_155:Zl Tryz.prog 155 (λys:List Xo=>[D.sl false (ys.map Xt)]) wf_155:=Yd Tryz.underlying155 (row:=Xt) rd_186 (Nat.lt_of_lt_of_le (by decide:0<1) (Nat.le_of_ble_eq_true (by kernel_rfl)))
def wf_157 (y:Zx):Prop:=(λn:Int=>IntKind.min .i64≤n∧n≤IntKind.max .i64) y.Y5∧((λn:Int=>IntKind.min .i64≤n∧n≤IntKind.max .i64) y.Y1∧(wf_152 y.Y7∧(wf_153 y.Xm∧(wf_154 y.Xe∧(wf_155 y.Xf∧(True))))))
theorem rd_157:Zl Tryz.prog 157 Yn wf_157:=
 (Y3 (tot:=6) Tryz.underlying157 (by kernel_rfl) (Z1 (n:=1) (Ze (P:=Tryz.prog) Tryz.underlying3) (by kernel_rfl) (Z1 (n:=1) (Ze (P:=Tryz.prog) Tryz.underlying3) (by kernel_rfl) (Z1 (n:=1) rd_152 (by kernel_rfl) (Z1 (n:=1) rd_153 (by kernel_rfl) (Z1 (n:=1) rd_154 (by kernel_rfl) (Z1 (n:=1) rd_155 (by kernel_rfl) Y2 rfl) rfl) rfl) rfl) rfl) rfl)).map (λp:Int×(Int×(List Zg)×(List Yf)×(List Yi)×(List Xo)×Unit)=>({ Y5:=p.1,Y1:=p.2.1,Y7:=p.2.2.1,Xm:=p.2.2.2.1,Xe:=p.2.2.2.2.1,Xf:=p.2.2.2.2.2.1 }:Zx)) (λ_=>rfl) (λ_ h=>h)
def wf_159 (y:Q6):Prop:=(λn:Int=>IntKind.min .i64≤n∧n≤IntKind.max .i64) y.Ye∧((λs:List UInt8=>s.length≤reachBytes) y.Zn∧((λs:List UInt8=>s.length≤reachBytes) y.Xh∧((λ_:Bool=>True) y.Uh∧(wf_157 y.Qc∧(wf_32 y.Wg∧(True))))))
theorem rd_159:Zl Tryz.prog 159 Wa wf_159:=
 (Y3 (tot:=11) Tryz.underlying159 (by kernel_rfl) (Z1 (n:=1) (Ze (P:=Tryz.prog) Tryz.underlying3) (by kernel_rfl) (Z1 (n:=1) (Yb (P:=Tryz.prog) Tryz.underlying9) (by kernel_rfl) (Z1 (n:=1) (Yb (P:=Tryz.prog) Tryz.underlying9) (by kernel_rfl) (Z1 (n:=1) (W4 (P:=Tryz.prog) Tryz.underlying4) (by kernel_rfl) (Z1 (n:=6) rd_157 (by kernel_rfl) (Z1 (n:=1) rd_32 (by kernel_rfl) Y2 rfl) rfl) rfl) rfl) rfl) rfl)).map (λp:Int×(List UInt8)×(List UInt8)×(Bool×(Zx×(List (List UInt8))×Unit))=>({ Ye:=p.1,Zn:=p.2.1,Xh:=p.2.2.1,Uh:=p.2.2.2.1,Qc:=p.2.2.2.2.1,Wg:=p.2.2.2.2.2.1 }:Q6)) (λ_=>rfl) (λ_ h=>h)
def wf_86 (ys:List Q6):Prop:=(∀ y∈ys,wf_159 y)∧ys.length*Tryz.prog.bytesOf 159≤reachBytes
theorem rd_86:Zl Tryz.prog 86 (λys:List Q6=>[D.sl false (ys.map Wa)]) wf_86:=Yd Tryz.underlying86 (row:=Wa) rd_159 (Nat.lt_of_lt_of_le (by decide:0<1) (Nat.le_of_ble_eq_true (by kernel_rfl)))
def wf_88 (y:Yj):Prop:=(λn:Int=>IntKind.min .i64≤n∧n≤IntKind.max .i64) y.Ye∧((λs:List UInt8=>s.length≤reachBytes) y.Zn∧((λs:List UInt8=>s.length≤reachBytes) y.Ys∧(wf_32 y.Yc∧(wf_85 y.Ym∧(wf_86 y.Yo∧((λs:List UInt8=>s.length≤reachBytes) y.Ui∧(True)))))))
theorem rd_88:Zl Tryz.prog 88 Qd wf_88:=
 (Y3 (tot:=7) Tryz.underlying88 (by kernel_rfl) (Z1 (n:=1) (Ze (P:=Tryz.prog) Tryz.underlying3) (by kernel_rfl) (Z1 (n:=1) (Yb (P:=Tryz.prog) Tryz.underlying9) (by kernel_rfl) (Z1 (n:=1) (Yb (P:=Tryz.prog) Tryz.underlying9) (by kernel_rfl) (Z1 (n:=1) rd_32 (by kernel_rfl) (Z1 (n:=1) rd_85 (by kernel_rfl) (Z1 (n:=1) rd_86 (by kernel_rfl) (Z1 (n:=1) (Yb (P:=Tryz.prog) Tryz.underlying9) (by kernel_rfl) Y2 rfl) rfl) rfl) rfl) rfl) rfl) rfl)).map (λp:Int×(List UInt8)×(List UInt8)×(List (List UInt8))×(List Ql)×(List Q6)×(List UInt8)×Unit=>({ Ye:=p.1,Zn:=p.2.1,Ys:=p.2.2.1,Yc:=p.2.2.2.1,Ym:=p.2.2.2.2.1,Yo:=p.2.2.2.2.2.1,Ui:=p.2.2.2.2.2.2.1 }:Yj)) (λ_=>rfl) (λ_ h=>h)
def wf_90 (y:Xi):Prop:=(λn:Int=>IntKind.min .i64≤n∧n≤IntKind.max .i64) y.Xn∧(wf_88 y.Xp∧((λn:Int=>IntKind.min .i64≤n∧n≤IntKind.max .i64) y.Ys∧(wf_39 y.Yc∧((λn:Int=>IntKind.min .i64≤n∧n≤IntKind.max .i64) y.Jh∧((λn:Int=>IntKind.min .i64≤n∧n≤IntKind.max .i64) y.L6∧(True))))))
theorem rd_90:Zl Tryz.prog 90 Xg wf_90:=
 (Y3 (tot:=12) Tryz.underlying90 (by kernel_rfl) (Z1 (n:=1) (Ze (P:=Tryz.prog) Tryz.underlying3) (by kernel_rfl) (Z1 (n:=7) rd_88 (by kernel_rfl) (Z1 (n:=1) (Ze (P:=Tryz.prog) Tryz.underlying3) (by kernel_rfl) (Z1 (n:=1) rd_39 (by kernel_rfl) (Z1 (n:=1) (Ze (P:=Tryz.prog) Tryz.underlying3) (by kernel_rfl) (Z1 (n:=1) (Ze (P:=Tryz.prog) Tryz.underlying41) (by kernel_rfl) Y2 rfl) rfl) rfl) rfl) rfl) rfl)).map (λp:Int×(Yj×(Int×(List Int)×(Int×(Int×Unit))))=>({ Xn:=p.1,Xp:=p.2.1,Ys:=p.2.2.1,Yc:=p.2.2.2.1,Jh:=p.2.2.2.2.1,L6:=p.2.2.2.2.2.1 }:Xi)) (λ_=>rfl) (λ_ h=>h)
def wf_23 (ys:List Xi):Prop:=(∀ y∈ys,wf_90 y)∧ys.length*Tryz.prog.bytesOf 90≤reachBytes
theorem rd_23:Zl Tryz.prog 23 (λys:List Xi=>[D.sl false (ys.map Xg)]) wf_23:=Yd Tryz.underlying23 (row:=Xg) rd_90 (Nat.lt_of_lt_of_le (by decide:0<1) (Nat.le_of_ble_eq_true (by kernel_rfl)))
def wf_93 (y:Q2):Prop:=(λn:Int=>IntKind.min .i64≤n∧n≤IntKind.max .i64) y.Xn∧((λs:List UInt8=>s.length≤reachBytes) y.Zn∧((λn:Int=>IntKind.min .i64≤n∧n≤IntKind.max .i64) y.Zy∧(True)))
theorem rd_93:Zl Tryz.prog 93 Qa wf_93:=
 (Y3 (tot:=3) Tryz.underlying93 (by kernel_rfl) (Z1 (n:=1) (Ze (P:=Tryz.prog) Tryz.underlying3) (by kernel_rfl) (Z1 (n:=1) (Yb (P:=Tryz.prog) Tryz.underlying9) (by kernel_rfl) (Z1 (n:=1) (Ze (P:=Tryz.prog) Tryz.underlying3) (by kernel_rfl) Y2 rfl) rfl) rfl)).map (λp:Int×(List UInt8)×(Int×Unit)=>({ Xn:=p.1,Zn:=p.2.1,Zy:=p.2.2.1 }:Q2)) (λ_=>rfl) (λ_ h=>h)
def wf_24 (ys:List Q2):Prop:=(∀ y∈ys,wf_93 y)∧ys.length*Tryz.prog.bytesOf 93≤reachBytes
theorem rd_24:Zl Tryz.prog 24 (λys:List Q2=>[D.sl false (ys.map Qa)]) wf_24:=Yd Tryz.underlying24 (row:=Qa) rd_93 (Nat.lt_of_lt_of_le (by decide:0<1) (Nat.le_of_ble_eq_true (by kernel_rfl)))
def wf_106 (y:V7):Prop:=(λs:List UInt8=>s.length≤reachBytes) y.Zn∧((λn:Int=>IntKind.min .i64≤n∧n≤IntKind.max .i64) y.f_A∧((λn:Int=>IntKind.min .i64≤n∧n≤IntKind.max .i64) y.f_B∧(True)))
theorem rd_106:Zl Tryz.prog 106 Qi wf_106:=
 (Y3 (tot:=3) Tryz.underlying106 (by kernel_rfl) (Z1 (n:=1) (Yb (P:=Tryz.prog) Tryz.underlying9) (by kernel_rfl) (Z1 (n:=1) (Ze (P:=Tryz.prog) Tryz.underlying3) (by kernel_rfl) (Z1 (n:=1) (Ze (P:=Tryz.prog) Tryz.underlying3) (by kernel_rfl) Y2 rfl) rfl) rfl)).map (λp:(List UInt8)×(Int×(Int×Unit))=>({ Zn:=p.1,f_A:=p.2.1,f_B:=p.2.2.1 }:V7)) (λ_=>rfl) (λ_ h=>h)
def wf_25 (ys:List V7):Prop:=(∀ y∈ys,wf_106 y)∧ys.length*Tryz.prog.bytesOf 106≤reachBytes
theorem rd_25:Zl Tryz.prog 25 (λys:List V7=>[D.sl false (ys.map Qi)]) wf_25:=Yd Tryz.underlying25 (row:=Qi) rd_106 (Nat.lt_of_lt_of_le (by decide:0<1) (Nat.le_of_ble_eq_true (by kernel_rfl)))
def wf_27 (y:Zq):Prop:=wf_22 y.X3∧(wf_23 y.Y6∧(wf_24 y.Yr∧(wf_25 y.Q3∧(True))))
theorem rd_27:Zl Tryz.prog 27 Yq wf_27:=
 (Y3 (tot:=4) Tryz.underlying27 (by kernel_rfl) (Z1 (n:=1) rd_22 (by kernel_rfl) (Z1 (n:=1) rd_23 (by kernel_rfl) (Z1 (n:=1) rd_24 (by kernel_rfl) (Z1 (n:=1) rd_25 (by kernel_rfl) Y2 rfl) rfl) rfl) rfl)).map (λp:(List Yk)×(List Xi)×(List Q2)×(List V7)×Unit=>({ X3:=p.1,Y6:=p.2.1,Yr:=p.2.2.1,Q3:=p.2.2.2.1 }:Zq)) (λ_=>rfl) (λ_ h=>h)
def wf_50 (y:Q5):Prop:=(λn:Int=>IntKind.min .i64≤n∧n≤IntKind.max .i64) y.Xl∧((λn:Int=>IntKind.min .u8≤n∧n≤IntKind.max .u8) y.Yw∧((λn:Int=>IntKind.min .i64≤n∧n≤IntKind.max .i64) y.Zy∧(True)))
theorem rd_50:Zl Tryz.prog 50 Lc wf_50:=
 (Y3 (tot:=3) Tryz.underlying50 (by kernel_rfl) (Z1 (n:=1) (Ze (P:=Tryz.prog) Tryz.underlying3) (by kernel_rfl) (Z1 (n:=1) (Ze (P:=Tryz.prog) Tryz.underlying5) (by kernel_rfl) (Z1 (n:=1) (Ze (P:=Tryz.prog) Tryz.underlying3) (by kernel_rfl) Y2 rfl) rfl) rfl)).map (λp:Int×(Int×(Int×Unit))=>({ Xl:=p.1,Yw:=p.2.1,Zy:=p.2.2.1 }:Q5)) (λ_=>rfl) (λ_ h=>h)
def wf_58 (y:Zf):Prop:=(λn:Int=>IntKind.min .i64≤n∧n≤IntKind.max .i64) y.Zj∧((λn:Int=>IntKind.min .i64≤n∧n≤IntKind.max .i64) y.f_N∧(True))
theorem rd_58:Zl Tryz.prog 58 Y8 wf_58:=
 (Y3 (tot:=2) Tryz.underlying58 (by kernel_rfl) (Z1 (n:=1) (Ze (P:=Tryz.prog) Tryz.underlying3) (by kernel_rfl) (Z1 (n:=1) (Ze (P:=Tryz.prog) Tryz.underlying3) (by kernel_rfl) Y2 rfl) rfl)).map (λp:Int×(Int×Unit)=>({ Zj:=p.1,f_N:=p.2.1 }:Zf)) (λ_=>rfl) (λ_ h=>h)
def wf_51 (ys:List Zf):Prop:=(∀ y∈ys,wf_58 y)∧ys.length*Tryz.prog.bytesOf 58≤reachBytes
theorem rd_51:Zl Tryz.prog 51 (λys:List Zf=>[D.sl false (ys.map Y8)]) wf_51:=Yd Tryz.underlying51 (row:=Y8) rd_58 (Nat.lt_of_lt_of_le (by decide:0<1) (Nat.le_of_ble_eq_true (by kernel_rfl)))
def wf_53 (y:Zm):Prop:=(λn:Int=>IntKind.min .i64≤n∧n≤IntKind.max .i64) y.Zj∧(wf_50 y.Zt∧(wf_51 y.Zw∧((λs:List UInt8=>s.length≤reachBytes) y.Yx∧((λn:Int=>IntKind.min .i64≤n∧n≤IntKind.max .i64) y.Xr∧((λn:Int=>IntKind.min .i64≤n∧n≤IntKind.max .i64) y.Xd∧(wf_39 y.Xk∧(True)))))))
theorem rd_53:Zl Tryz.prog 53 Ya wf_53:=
 (Y3 (tot:=9) Tryz.underlying53 (by kernel_rfl) (Z1 (n:=1) (Ze (P:=Tryz.prog) Tryz.underlying3) (by kernel_rfl) (Z1 (n:=3) rd_50 (by kernel_rfl) (Z1 (n:=1) rd_51 (by kernel_rfl) (Z1 (n:=1) (Yb (P:=Tryz.prog) Tryz.underlying9) (by kernel_rfl) (Z1 (n:=1) (Ze (P:=Tryz.prog) Tryz.underlying3) (by kernel_rfl) (Z1 (n:=1) (Ze (P:=Tryz.prog) Tryz.underlying3) (by kernel_rfl) (Z1 (n:=1) rd_39 (by kernel_rfl) Y2 rfl) rfl) rfl) rfl) rfl) rfl) rfl)).map (λp:Int×(Q5×(List Zf)×(List UInt8)×(Int×(Int×(List Int)×Unit)))=>({ Zj:=p.1,Zt:=p.2.1,Zw:=p.2.2.1,Yx:=p.2.2.2.1,Xr:=p.2.2.2.2.1,Xd:=p.2.2.2.2.2.1,Xk:=p.2.2.2.2.2.2.1 }:Zm)) (λ_=>rfl) (λ_ h=>h)
def wf_28 (ys:List Zm):Prop:=(∀ y∈ys,wf_53 y)∧ys.length*Tryz.prog.bytesOf 53≤reachBytes
theorem rd_28:Zl Tryz.prog 28 (λys:List Zm=>[D.sl false (ys.map Ya)]) wf_28:=Yd Tryz.underlying28 (row:=Ya) rd_53 (Nat.lt_of_lt_of_le (by decide:0<1) (Nat.le_of_ble_eq_true (by kernel_rfl)))
def wf_78 (y:Qn):Prop:=(λn:Int=>IntKind.min .i64≤n∧n≤IntKind.max .i64) y.Qf∧((λn:Int=>IntKind.min .i64≤n∧n≤IntKind.max .i64) y.Ji∧(wf_51 y.Qt∧(True)))
theorem rd_78:Zl Tryz.prog 78 Q0 wf_78:=
 (Y3 (tot:=3) Tryz.underlying78 (by kernel_rfl) (Z1 (n:=1) (Ze (P:=Tryz.prog) Tryz.underlying3) (by kernel_rfl) (Z1 (n:=1) (Ze (P:=Tryz.prog) Tryz.underlying3) (by kernel_rfl) (Z1 (n:=1) rd_51 (by kernel_rfl) Y2 rfl) rfl) rfl)).map (λp:Int×(Int×(List Zf)×Unit)=>({ Qf:=p.1,Ji:=p.2.1,Qt:=p.2.2.1 }:Qn)) (λ_=>rfl) (λ_ h=>h)
def wf_29 (ys:List Qn):Prop:=(∀ y∈ys,wf_78 y)∧ys.length*Tryz.prog.bytesOf 78≤reachBytes
theorem rd_29:Zl Tryz.prog 29 (λys:List Qn=>[D.sl false (ys.map Q0)]) wf_29:=Yd Tryz.underlying29 (row:=Q0) rd_78 (Nat.lt_of_lt_of_le (by decide:0<1) (Nat.le_of_ble_eq_true (by kernel_rfl)))
def wf_81 (y:Ve):Prop:=(λs:List UInt8=>s.length≤reachBytes) y.Yx∧((λn:Int=>IntKind.min .i64≤n∧n≤IntKind.max .i64) y.Xj∧(True))
theorem rd_81:Zl Tryz.prog 81 Qk wf_81:=
 (Y3 (tot:=2) Tryz.underlying81 (by kernel_rfl) (Z1 (n:=1) (Yb (P:=Tryz.prog) Tryz.underlying9) (by kernel_rfl) (Z1 (n:=1) (Ze (P:=Tryz.prog) Tryz.underlying3) (by kernel_rfl) Y2 rfl) rfl)).map (λp:(List UInt8)×(Int×Unit)=>({ Yx:=p.1,Xj:=p.2.1 }:Ve)) (λ_=>rfl) (λ_ h=>h)
def wf_30 (ys:List Ve):Prop:=(∀ y∈ys,wf_81 y)∧ys.length*Tryz.prog.bytesOf 81≤reachBytes
theorem rd_30:Zl Tryz.prog 30 (λys:List Ve=>[D.sl false (ys.map Qk)]) wf_30:=Yd Tryz.underlying30 (row:=Qk) rd_81 (Nat.lt_of_lt_of_le (by decide:0<1) (Nat.le_of_ble_eq_true (by kernel_rfl)))
def wf_116 (y:Qb):Prop:=(λn:Int=>IntKind.min .i64≤n∧n≤IntKind.max .i64) y.Zy∧((λn:Int=>IntKind.min .i64≤n∧n≤IntKind.max .i64) y.U9∧((λn:Int=>IntKind.min .i64≤n∧n≤IntKind.max .i64) y.f_PC∧(wf_51 y.Y1∧(wf_51 y.Y5∧((λn:Int=>IntKind.min .i64≤n∧n≤IntKind.max .i64) y.Vo∧((λ_:Bool=>True) y.Jr∧((λ_:Bool=>True) y.Lo∧(True))))))))
theorem rd_116:Zl Tryz.prog 116 Vg wf_116:=
 (Y3 (tot:=8) Tryz.underlying116 (by kernel_rfl) (Z1 (n:=1) (Ze (P:=Tryz.prog) Tryz.underlying3) (by kernel_rfl) (Z1 (n:=1) (Ze (P:=Tryz.prog) Tryz.underlying3) (by kernel_rfl) (Z1 (n:=1) (Ze (P:=Tryz.prog) Tryz.underlying3) (by kernel_rfl) (Z1 (n:=1) rd_51 (by kernel_rfl) (Z1 (n:=1) rd_51 (by kernel_rfl) (Z1 (n:=1) (Ze (P:=Tryz.prog) Tryz.underlying3) (by kernel_rfl) (Z1 (n:=1) (W4 (P:=Tryz.prog) Tryz.underlying4) (by kernel_rfl) (Z1 (n:=1) (W4 (P:=Tryz.prog) Tryz.underlying4) (by kernel_rfl) Y2 rfl) rfl) rfl) rfl) rfl) rfl) rfl) rfl)).map (λp:Int×(Int×(Int×(List Zf)×(List Zf)×(Int×(Bool×(Bool×Unit)))))=>({ Zy:=p.1,U9:=p.2.1,f_PC:=p.2.2.1,Y1:=p.2.2.2.1,Y5:=p.2.2.2.2.1,Vo:=p.2.2.2.2.2.1,Jr:=p.2.2.2.2.2.2.1,Lo:=p.2.2.2.2.2.2.2.1 }:Qb)) (λ_=>rfl) (λ_ h=>h)
def wf_73 (ys:List Qb):Prop:=(∀ y∈ys,wf_116 y)∧ys.length*Tryz.prog.bytesOf 116≤reachBytes
theorem rd_73:Zl Tryz.prog 73 (λys:List Qb=>[D.sl false (ys.map Vg)]) wf_73:=Yd Tryz.underlying73 (row:=Vg) rd_116 (Nat.lt_of_lt_of_le (by decide:0<1) (Nat.le_of_ble_eq_true (by kernel_rfl)))
def wf_75 (y:Xu):Prop:=(λn:Int=>IntKind.min .i64≤n∧n≤IntKind.max .i64) y.Qf∧((λn:Int=>IntKind.min .i64≤n∧n≤IntKind.max .i64) y.V2∧((λn:Int=>IntKind.min .i64≤n∧n≤IntKind.max .i64) y.Xd∧(wf_73 y.Yu∧((λn:Int=>IntKind.min .i64≤n∧n≤IntKind.max .i64) y.Xj∧((λn:Int=>IntKind.min .i64≤n∧n≤IntKind.max .i64) y.Vn∧(wf_58 y.Qr∧(True)))))))
theorem rd_75:Zl Tryz.prog 75 X9 wf_75:=
 (Y3 (tot:=8) Tryz.underlying75 (by kernel_rfl) (Z1 (n:=1) (Ze (P:=Tryz.prog) Tryz.underlying3) (by kernel_rfl) (Z1 (n:=1) (Ze (P:=Tryz.prog) Tryz.underlying3) (by kernel_rfl) (Z1 (n:=1) (Ze (P:=Tryz.prog) Tryz.underlying3) (by kernel_rfl) (Z1 (n:=1) rd_73 (by kernel_rfl) (Z1 (n:=1) (Ze (P:=Tryz.prog) Tryz.underlying3) (by kernel_rfl) (Z1 (n:=1) (Ze (P:=Tryz.prog) Tryz.underlying3) (by kernel_rfl) (Z1 (n:=2) rd_58 (by kernel_rfl) Y2 rfl) rfl) rfl) rfl) rfl) rfl) rfl)).map (λp:Int×(Int×(Int×(List Qb)×(Int×(Int×(Zf×Unit)))))=>({ Qf:=p.1,V2:=p.2.1,Xd:=p.2.2.1,Yu:=p.2.2.2.1,Xj:=p.2.2.2.2.1,Vn:=p.2.2.2.2.2.1,Qr:=p.2.2.2.2.2.2.1 }:Xu)) (λ_=>rfl) (λ_ h=>h)
def wf_31 (ys:List Xu):Prop:=(∀ y∈ys,wf_75 y)∧ys.length*Tryz.prog.bytesOf 75≤reachBytes
theorem rd_31:Zl Tryz.prog 31 (λys:List Xu=>[D.sl false (ys.map X9)]) wf_31:=Yd Tryz.underlying31 (row:=X9) rd_75 (Nat.lt_of_lt_of_le (by decide:0<1) (Nat.le_of_ble_eq_true (by kernel_rfl)))
def wf_34 (y:Z6):Prop:=wf_27 y.Y0∧((λn:Int=>IntKind.min .i64≤n∧n≤IntKind.max .i64) y.Qz∧(wf_28 y.Z7∧(wf_29 y.Xb∧(wf_30 y.X1∧(wf_31 y.Y9∧(wf_32 y.Qo∧(True)))))))
theorem rd_34:Zl Tryz.prog 34 Zr wf_34:=
 (Y3 (tot:=10) Tryz.underlying34 (by kernel_rfl) (Z1 (n:=4) rd_27 (by kernel_rfl) (Z1 (n:=1) (Ze (P:=Tryz.prog) Tryz.underlying3) (by kernel_rfl) (Z1 (n:=1) rd_28 (by kernel_rfl) (Z1 (n:=1) rd_29 (by kernel_rfl) (Z1 (n:=1) rd_30 (by kernel_rfl) (Z1 (n:=1) rd_31 (by kernel_rfl) (Z1 (n:=1) rd_32 (by kernel_rfl) Y2 rfl) rfl) rfl) rfl) rfl) rfl) rfl)).map (λp:Zq×(Int×(List Zm)×(List Qn)×(List Ve)×(List Xu)×(List (List UInt8))×Unit)=>({ Y0:=p.1,Qz:=p.2.1,Z7:=p.2.2.1,Xb:=p.2.2.2.1,X1:=p.2.2.2.2.1,Y9:=p.2.2.2.2.2.1,Qo:=p.2.2.2.2.2.2.1 }:Z6)) (λ_=>rfl) (λ_ h=>h)
theorem rlS {n:Nat} (h:n≤reachBytes):n≤4503599627370496:=Nat.le_trans h (by decide)
theorem rlB {n b k:Nat} (e:b=k) (h:n*b≤reachBytes):n*k≤140737488355328:=by have:=Mm h; rw[e] at this; omega
theorem rlN {n b:Nat} (e:1≤b) (h:n*b≤reachBytes):n≤140737488355328:=Nat.le_trans (Nat.le_trans (Nat.le_of_eq (Nat.mul_one n).symm) (Nat.mul_le_mul_left n e)) (by have:=Mm h; omega)
theorem ws_T_api_Ref {y:Xw} (h:wf_180 y):WRef y:=⟨rlS h.1,rlS h.2.1,rlS h.2.2.1⟩
theorem ws_T_api_Insn {y:Zg} (h:wf_182 y):Qy y:=⟨rlB (by kernel_rfl) h.2.2.2.2.1.2,rlB (by kernel_rfl) h.2.2.2.2.2.1.2,ws_T_api_Ref h.2.2.2.2.2.2.1,rlS h.2.2.2.2.2.2.2.1⟩
theorem ws_T_api_Frame {y:V8} (h:wf_211 y):Lh y:=⟨λv a=>rlS (h.1.1 v a).2.2.1.2.2.1,rlB (by kernel_rfl) h.1.2,λv a=>rlS (h.2.1.1 v a).2.2.1.2.2.1,rlB (by kernel_rfl) h.2.1.2⟩
theorem ws_T_api_Code {y:Zx} (h:wf_157 y):Wu y:=⟨λv a=>ws_T_api_Insn (h.2.2.1.1 v a),rlB (by kernel_rfl) h.2.2.1.2,λv a=>rlS (h.2.2.2.1.1 v a).2.2.2.2.1,rlB (by kernel_rfl) h.2.2.2.1.2,λv a=>ws_T_api_Frame (h.2.2.2.2.1.1 v a).2.1,rlB (by kernel_rfl) h.2.2.2.2.1.2,rlB (by kernel_rfl) h.2.2.2.2.2.1.2⟩
theorem ws_T_api_Method {y:Q6} (h:wf_159 y):Ks y:=⟨rlS h.2.1,rlS h.2.2.1,ws_T_api_Code h.2.2.2.2.1,λv a=>rlS (h.2.2.2.2.2.1.1 v a),rlB (by kernel_rfl) h.2.2.2.2.2.1.2⟩
theorem ws_T_api_Field {y:Ql} (h:wf_119 y):Z2f y:=⟨rlS h.2.1,rlS h.2.2.1,rlS h.2.2.2.2.2.1⟩
theorem ws_T_api_ClassModel {y:Yj} (h:wf_88 y):Wv y:=⟨rlS h.2.1,rlS h.2.2.1,λv a=>rlS (h.2.2.2.1.1 v a),rlB (by kernel_rfl) h.2.2.2.1.2,λv a=>ws_T_api_Field (h.2.2.2.2.1.1 v a),rlB (by kernel_rfl) h.2.2.2.2.1.2,λv a=>ws_T_api_Method (h.2.2.2.2.2.1.1 v a),rlB (by kernel_rfl) h.2.2.2.2.2.1.2,rlS h.2.2.2.2.2.2.1⟩
theorem ws_T_api_Loader {y:Yk} (h:wf_131 y):Jq y:=⟨λv a=>rlS (h.1.1 v a).1,rlN (Nat.le_of_ble_eq_true (by kernel_rfl)) h.1.2,λv a=>rlS (h.2.1.1 v a).1,rlN (Nat.le_of_ble_eq_true (by kernel_rfl)) h.2.1.2⟩
theorem ws_T_api_ClassSpace {y:Zq} (h:wf_27 y):Wo y:=⟨λv a=>ws_T_api_Loader (h.1.1 v a),rlN (Nat.le_of_ble_eq_true (by kernel_rfl)) h.1.2,λv a=>⟨ws_T_api_ClassModel (h.2.1.1 v a).2.1,rlN (Nat.le_of_ble_eq_true (by kernel_rfl)) (h.2.1.1 v a).2.2.2.1.2⟩,rlN (Nat.le_of_ble_eq_true (by kernel_rfl)) h.2.1.2,λv a=>rlS (h.2.2.1.1 v a).2.1,rlN (Nat.le_of_ble_eq_true (by kernel_rfl)) h.2.2.1.2,λv a=>rlS (h.2.2.2.1.1 v a).1,rlN (Nat.le_of_ble_eq_true (by kernel_rfl)) h.2.2.2.1.2⟩
theorem ws_T_api_Object {y:Zm} (h:wf_53 y):Li y:=⟨rlB (by kernel_rfl) h.2.2.1.2,rlS h.2.2.2.1,rlN (Nat.le_of_ble_eq_true (by kernel_rfl)) h.2.2.2.2.2.2.1.2⟩
theorem ws_T_api_Activation {y:Qb} (h:wf_116 y):M9 y:=⟨rlN (Nat.le_of_ble_eq_true (by kernel_rfl)) h.2.2.2.1.2,rlN (Nat.le_of_ble_eq_true (by kernel_rfl)) h.2.2.2.2.1.2⟩
theorem ws_T_api_Machine {y:Z6} (h:wf_34 y):V4 y:=⟨ws_T_api_ClassSpace h.1,λv b=>ws_T_api_Object (h.2.2.1.1 v b),rlN (Nat.le_of_ble_eq_true (by kernel_rfl)) h.2.2.1.2,λv b=>rlN (Nat.le_of_ble_eq_true (by kernel_rfl)) (h.2.2.2.1.1 v b).2.2.1.2,rlN (Nat.le_of_ble_eq_true (by kernel_rfl)) h.2.2.2.1.2,λv b=>rlS (h.2.2.2.2.1.1 v b).1,rlN (Nat.le_of_ble_eq_true (by kernel_rfl)) h.2.2.2.2.1.2,λv b=>⟨λa c=>ws_T_api_Activation ((h.2.2.2.2.2.1.1 v b).2.2.2.1.1 a c),rlN (Nat.le_of_ble_eq_true (by kernel_rfl)) (h.2.2.2.2.2.1.1 v b).2.2.2.1.2⟩,rlN (Nat.le_of_ble_eq_true (by kernel_rfl)) h.2.2.2.2.2.1.2,rlN (Nat.le_of_ble_eq_true (by kernel_rfl)) h.2.2.2.2.2.2.1.2⟩
set_option maxRecDepth 100000 in
theorem lifted (os:Os) (started:os.Started) (H:Type) (enc:TypeId×Value→H):
  ReturnsInHanded {} Tryz.checked os 4 .any (λw args=>(Rows.gcCollectSpec.pre enc Tryz.prog Tryz.f4 [] false w args∧laidMetH Tryz.prog Uw w)∧sizedMet enc Tryz.prog Tryz.f4 (OpenSpec.ofChange Rows.gcCollectSpec) false w args) (Rows.gcCollectSpec.post enc Tryz.prog Tryz.f4 false true false false):=by
 refine returnsInHanded_of_change_and (C:=Tryz.checked) (X:=λw _=>laidMetH Tryz.prog Uw w) (λ_ _ _ z h=>h.of_heap z) own started (by kernel_rfl) Tryz.func4
  (ChangeSpec.witness_shaped (enc:=enc) (C:=Tryz.checked) (os:=os) (X:=λw _=>laidMetH Tryz.prog Uw w) false (World.doorLaid Tryz.prog 400 os) #[.agg #[.slice none 0 0,.slice none 0 0,.slice none 0 0,.slice none 0 0,.int .i64 0,.slice none 0 0,.slice none 0 0,.slice none 0 0,.slice none 0 0,.slice none 0 0],.bool false] 8 rfl (World.shaped_of_RefB (by kernel_rfl) (by kernel_rfl)) (by kernel_rfl) (by kernel_rfl) (by kernel_rfl) (Z6t os _)) ?_
 intro W base args ds gs before d l m hsz u _
 have c:∀ (j:Nat) t v,Tryz.f4.params[j]?=some t→args[j]?=some v→Value.okWide Tryz.prog W .any base t v:=d
 have g:=l
 obtain⟨p,q,e,x,rfl,y,hnd⟩:=l
 have k:DataW.TrodAll enc Tryz.prog W 0 (λ_=>true) true Tryz.f4.params.toList args.toList ds p:=e
 rw[Tryz.params4] at k c
 obtain⟨n,vs0,d0,ds0,p0,q0,i,rfl,rfl,r,A⟩:=trodAll_cons k
 obtain⟨o,vs1,d1,ds1,J,K,rfl,rfl,rfl,s,B⟩:=trodAll_cons A
 obtain⟨rfl,rfl,rfl⟩:=trodAll_nil B
 obtain rfl:args= #[n,o] :=by cases args; simp_all
 obtain⟨rfl,rfl⟩:=trodVars_none x
 have a:(DataW.weightsEach Tryz.prog (Tryz.f4.params.toList++[]) ([d0,d1]++[])).all (· ≤reachBytes)=true:=hsz
 rw[Tryz.params4] at a
 simp only[List.append_nil,DataW.weightsEach,List.all_append,Bool.and_eq_true] at a
 obtain⟨z0,G⟩:=a
 obtain⟨E,c0,g0⟩:=Z6g (M:=J7.reach Tryz.prog) Tryz.underlying34 rd_34 (c 0 34 n rfl rfl) r z0
 obtain⟨_,rfl⟩:=okWide_bool Tryz.underlying4 (c 1 4 o rfl rfl)
 obtain⟨F,c1,I⟩:=Z6h (M:=J7.reach Tryz.prog) (f:=(λb:Bool=>D.bool b)) (W4 (P:=Tryz.prog) Tryz.underlying4) rfl s G
 exact Z9a (P:=Tryz.prog) (fn:=Tryz.f4) (tb:=4) rfl (by kernel_rfl) Tryz.underlying4 laid (by kernel_rfl) g rfl (.cons c0 (.cons c1 .nil)) (Z6w u) (w4 (Y4x E (ws_T_api_Machine g0) F))
theorem am {a b:Bool} (h:a=true) (g:b=true):(a&&b)=true:=by rw[h,g]; rfl
theorem k0:Rows.gcCollectRow.wf (OpenSpec.ofChange Rows.gcCollectSpec)=true:=by kernel_rfl
theorem k1:laidOutB Tryz.prog=true:=by kernel_rfl
theorem k2:mapsRowed Tryz.prog=true:=by kernel_rfl
theorem k3:Tryz.f4.params.all (Tryz.prog.readableRec ·)=true:=by kernel_rfl
theorem k4:namedTie Tryz.prog Rows.gcCollectRow.named Rows.gcCollectSpec.vars=true:=by kernel_rfl
theorem k5:(Rows.gcCollectRow.stops==[])=true:=by kernel_rfl
theorem k6:(Tryz.prog.stops==[])=true:=by kernel_rfl
theorem k7:(Rows.gcCollectRow.knobs==[])=true:=by kernel_rfl
theorem k8:(Tryz.prog.stopKnobs==[])=true:=by kernel_rfl
theorem k9:(Rows.gcCollectRow.inPlace==Tryz.prog.inPlace 4)=true:=by kernel_rfl
theorem k10:(Rows.gcCollectRow.unfollowed==Tryz.prog.unfollowed 4)=true:=by kernel_rfl
theorem k11:(Rows.gcCollectRow.recurses==Tryz.prog.recurses 4)=true:=by kernel_rfl
theorem k12:(Rows.gcCollectRow.named==Tryz.prog.varsNamed 4)=true:=by kernel_rfl
theorem k13:(Rows.gcCollectRow.maps==(Tryz.f4.params.toList++Rows.gcCollectSpec.plain.varTypes Tryz.prog).any (Tryz.prog.mapsRec ·))=true:=by kernel_rfl
theorem k14:(Rows.gcCollectRow.ifaces==(Tryz.f4.params.toList++Rows.gcCollectSpec.plain.varTypes Tryz.prog).any (Tryz.prog.ifacesRec ·))=true:=by kernel_rfl
theorem k15:(Rows.gcCollectRow.mapsOut==Tryz.prog.mapsAmong Tryz.f4.resultTypes.toList)=true:=by kernel_rfl
theorem k16:(Rows.gcCollectRow.loops==(Tryz.f4.params.toList++Rows.gcCollectSpec.plain.varTypes Tryz.prog).any (Tryz.prog.loopsFrom ·))=true:=by kernel_rfl
theorem k17:(Rows.gcCollectRow.wideKeys==(Tryz.f4.params.toList++Rows.gcCollectSpec.plain.varTypes Tryz.prog++Tryz.f4.resultTypes.toList).any (Tryz.prog.wideKeysFrom ·))=true:=by kernel_rfl
theorem k18:Rows.gcCollectSpec.vars.all (Tryz.prog.varReadable ·)=true:=by kernel_rfl
theorem k19:Tryz.f4.resultTypes.all (λt=>Tryz.prog.readableRec t&&decide (t<Tryz.prog.types.size))=true:=by kernel_rfl
theorem k20:(Rows.gcCollectRow.ifacesOut==Tryz.f4.resultTypes.toList.any (Tryz.prog.ifacesRec ·))=true:=by kernel_rfl
theorem k21:(Rows.gcCollectRow.loopsOut==Tryz.f4.resultTypes.toList.any (Tryz.prog.loopsFrom ·))=true:=by kernel_rfl
theorem k22:(Rows.gcCollectRow.plainKeys==Tryz.prog.plainKeys)=true:=by kernel_rfl
theorem k23:Rows.gcCollectRow.shortTexts.isNone=true:=by kernel_rfl
theorem k24:Tryz.prog.stopsHeard=true:=by kernel_rfl
theorem k25:Tryz.prog.mayEnter=true:=by kernel_rfl
theorem k26:(Rows.gcCollectRow.lifted==Tryz.prog.liftsFinal)=true:=by kernel_rfl
theorem k27:(Tryz.prog.make==some Rows.gcCollectRow.make)=true:=by kernel_rfl
theorem k28:(Rows.gcCollectRow.kinds==(if Rows.gcCollectRow.domain.isEmpty then [] else Tryz.f4.params.toList.map λt=>match Tryz.prog.underlying t with|some (.int k)=>some k|_=>none))=true:=by kernel_rfl
theorem k29:(Rows.gcCollectRow.pinned==Rows.gcCollectRow.pinnedBy)=true:=by kernel_rfl
theorem k30:(Rows.gcCollectRow.veiled==(Tryz.f4.params.toList++Rows.gcCollectSpec.plain.varTypes Tryz.prog++Tryz.f4.resultTypes.toList).any (Tryz.prog.veiledRec ·))=true:=by kernel_rfl
theorem k31:Rows.gcCollectRow.veiledFits Tryz.prog Tryz.f4.params.toList (Tryz.f4.params.toList++Rows.gcCollectSpec.plain.varTypes Tryz.prog++Tryz.f4.resultTypes.toList)=true:=by kernel_rfl
set_option maxRecDepth 100000 in
theorem closed:joinedFacts Tryz.prog 4 Tryz.f4 Rows.gcCollectSpec Rows.gcCollectRow=true:=(am (am (am (am (am (am (am (am (am (am (am (am (am (am (am (am (am (am (am (am (am (am (am (am (am (am (am (am (am (am (am k0 k1) k2) k3) k4) k5) k6) k7) k8) k9) k10) k11) k12) k13) k14) k15) k16) k17) k18) k19) k20) k21) k22) k23) k24) k25) k26) k27) k28) k29) k30) k31)
theorem inst:Tryz.f4.isInstance Tryz.prog Rows.gcCollectRow.origin Rows.gcCollectRow.targs:=of_decide_eq_true (by kernel_rfl)
theorem named:Tryz.prog.funcNamed Rows.gcCollectRow.func=some 4:=by kernel_rfl
theorem wrapped:Tryz.f4.isWrapper Tryz.prog Rows.gcCollectRow.wrapper Rows.gcCollectRow.mainSum:=by unfold Func.isWrapper; first|(rw[if_pos (by decide+kernel)]; kernel_rfl)|(rw[if_neg (by decide+kernel)]; exact⟨rfl,rfl⟩)
theorem over:Rows.gcCollectRow.holds Tryz.pinned (OpenSpec.ofChange Rows.gcCollectSpec):=
 OpenClaim.holds_of_wide 4 Tryz.f4 rfl rfl rfl rfl rfl rfl rfl ⟨rfl,rfl,rfl,rfl,rfl⟩ rfl rfl rfl rfl rfl named Tryz.func4 closed inst wrapped
  (λos started H enc _=>lifted os started H enc)
theorem t0:Rows.gcCollectRow.wfByText (OpenSpec.ofChange Rows.gcCollectSpec)=true:=by kernel_rfl
theorem t1 : Tryz.pinned.checked.prog.mainIs = some (true, ("f415640c8ebad5cb2a119a1003d616893e0fb6fe1f8bbb13852f31629077b338").toList) := by kernel_rfl
theorem t2:false=Tryz.pinned.checked.prog.looks [] :=by kernel_rfl
theorem t3:false=Rows.gcCollectRow.goesBy Tryz.pinned.checked.prog:=by kernel_rfl
theorem t4:([34,4].all λu=>!Tryz.prog.wantsStandIn u)=true:=by kernel_rfl
theorem proved:Rows.GcCollectCardSaid:=
 Claim7.holds_tied_plain_at .later [] [.data] true (true, "f415640c8ebad5cb2a119a1003d616893e0fb6fe1f8bbb13852f31629077b338") false
  over (λ_ h=>by cases h) t0 (λ_ h=>by cases h) gcCollect_row_tie rfl ⟨rfl,rfl⟩ t1 rfl
  (fun f fn c a=>by
   obtain rfl:f=4:=Option.some.inj (named.symm.trans c) |>.symm
   obtain rfl:fn=Tryz.f4:=(Option.some.inj (Tryz.func4.symm.trans a)).symm
   exact ⟨t2,λj t b=>by
    rw[Tryz.params4] at b
    have d:t∈[34,4] :=by simpa using Array.mem_of_getElem? b
    exact(show Tryz.prog.wantsStandIn t=false by simpa using List.all_eq_true.1 t4 t d)⟩)
  t3
#print axioms proved
end Go.Proofs.YtaamfcpmekeahaaGreatDoor.gcCollect
