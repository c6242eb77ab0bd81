/- Several texts in one. -/
import Derived.Test.YtodpbobjmkhcfaaGreatDoorQc
namespace Go.Proofs.YtodpbobjmkhcfaaGreatDoor.Gst
open Go Go.RowKit
set_option maxRecDepth 100000
set_option linter.unusedVariables false
set_option maxHeartbeats 1000000
set_option linter.unusedSimpArgs false
set_option synthInstance.maxSize 2000
set_option synthInstance.maxHeartbeats 400000
noncomputable def ba (p : List Nat) : Code := Code.sub (bJ Tryz.f138) p
noncomputable def bp : KK := ei PP (Tryz.f138).results.toList
noncomputable def Ca : KK := CQ (ba [1]) bp bx bp
noncomputable def vO : KK := dv 1684996666696914987166688442938726917102321526408785780068975640544 Ca
noncomputable def VD (x0 x1 x2 x3 x4 : Value) (H : AH) : OV := Ca (ls [x0, x1, x2, x3, x4] 215) H
noncomputable def Cb : KK := CQ (ba [1, 1]) bp bx bp
noncomputable def vP : KK := dv 1684996666696914987166688442938726917102321526408785780068975640544 Cb
noncomputable def VE (x0 x1 x2 x3 x4 : Value) (H : AH) : OV := Cb (ls [x0, x1, x2, x3, x4] 215) H
noncomputable def Lx : KK := CQ (ba [1, 1, 1, 1, 1]) bp bx bp
noncomputable def VF (x0 x1 x2 x3 x4 x18 x19 : Value) (H : AH) : OV := Lx (ls [x0, x1, x2, x3, x4, u, u, u, u, u, u, u, u, u, u, u, u, u, x18, x19] 200) H
noncomputable def Ly : KK := CQ (ba [1, 1, 1, 1, 1, 1]) bp bx bp
noncomputable def JX (x0 x1 x2 x3 x4 x18 x19 x20 x21 : Value) (H : AH) : OV := Ly (ls [x0, x1, x2, x3, x4, u, u, u, u, u, u, u, u, u, u, u, u, u, x18, x19, x20, x21] 198) H
noncomputable def Lz : KK := CQ (ba [1, 1, 1, 1, 1, 1, 1]) bp bx bp
noncomputable def VG (x0 x1 x2 x3 x4 x18 x19 x20 x21 x22 : Value) (H : AH) : OV := Lz (ls [x0, x1, x2, x3, x4, u, u, u, u, u, u, u, u, u, u, u, u, u, x18, x19, x20, x21, x22] 197) H
noncomputable def Cc : KK := CQ (ba [1, 1, 1, 1, 1, 1, 1, 1]) bp bx bp
noncomputable def Xb : KK := dv 1684996666696914987166688442938726917102321526408785780068973805536 Cc
noncomputable def JZ (x0 x1 x2 x3 x4 x18 x19 x20 : Value) (H : AH) : OV := Cc (ls [x0, x1, x2, x3, x4, u, u, u, u, u, u, u, u, u, u, u, u, u, x18, x19, x20] 199) H
noncomputable def LA : KK := CQ (ba [1, 1, 1, 1, 1, 1, 1, 1, 1]) bp bx bp
noncomputable def VH (x0 x1 x2 x3 x4 x18 x20 x24 : Value) (H : AH) : OV := LA (ls [x0, x1, x2, x3, x4, u, u, u, u, u, u, u, u, u, u, u, u, u, x18, u, x20, u, u, u, x24] 195) H
noncomputable def LB : KK := CQ (ba [1, 1, 1, 1, 1, 1, 1, 1, 1, 1]) bp bx bp
noncomputable def DQ (x0 x1 x3 x4 x18 x20 x24 : Value) (H : AH) : OV := LB (ls [x0, x1, u, x3, x4, u, u, u, u, u, u, u, u, u, u, u, u, u, x18, u, x20, u, u, u, x24] 195) H
noncomputable def LC : KK := CQ (ba [1, 1, 1, 1, 1, 1, 1, 1, 1, 1, 1]) bp bx bp
noncomputable def DR (x0 x3 x4 x18 x24 : Value) (H : AH) : OV := LC (ls [x0, u, u, x3, x4, u, u, u, u, u, u, u, u, u, u, u, u, u, x18, u, u, u, u, u, x24] 195) H
noncomputable def xq : KX := BX 8 Xb bx
noncomputable def xv : KX := py 1684996666696914987166688442938726917102321526408785780068973805536 xq
noncomputable def xa : KK := tf (ba [1, 1, 1, 1, 1, 1, 1, 0, 4, 5]) xv bp
noncomputable def EU : KK := dv 1684996666696914987166688442938726917102321526408785780068967514080 xa
noncomputable def sZ (x0 x1 x2 x3 x4 x18 x19 x20 x21 x22 : Value) (H : AH) : OV := xa (ls [x0, x1, x2, x3, x4, u, u, u, u, u, u, u, u, u, u, u, u, u, x18, x19, x20, x21, x22] 197) H
noncomputable def E3 : KK := CQ (ba [1, 1, 1, 1, 1, 1, 1, 0, 4, 5, 1]) EU xv bp
noncomputable def M8 (x0 x1 x2 x3 x4 x18 x19 x20 x21 x22 : Value) (H : AH) : OV := E3 (ls [x0, x1, x2, x3, x4, u, u, u, u, u, u, u, u, u, u, u, u, u, x18, x19, x20, x21, x22] 197) H
noncomputable def RZ : KX := BX 9 EU xv
noncomputable def Bj (x0 x1 x2 x3 x4 x18 x19 x20 : Value) (H : AH) : OV := xq 8 (ls [x0, x1, x2, x3, x4, u, u, u, u, u, u, u, u, u, u, u, u, u, x18, x19, x20] 199) H
noncomputable def E4 : KK := CQ (ba [1, 0, 1]) vP bx bp
noncomputable def M9 (x0 x1 x2 x3 x4 x80 : Value) (H : AH) : OV := E4 (ls [x0, x1, x2, x3, x4, u, u, u, u, u, u, u, u, u, u, u, u, u, u, u, u, u, u, u, u, u, u, u, u, u, u, u, u, u, u, u, u, u, u, u, u, u, u, u, u, u, u, u, u, u, u, u, u, u, u, u, u, u, u, u, u, u, u, u, u, u, u, u, u, u, u, u, u, u, u, u, u, u, u, u, x80] 139) H
noncomputable def E5 : KK := CQ (ba [1, 0, 1, 2, 1, 1]) vP bx bp
noncomputable def DP (x0 x2 x4 x14 x15 : Value) (H : AH) : OV := E5 (ls [x0, u, x2, u, x4, u, u, u, u, u, u, u, u, u, x14, x15] 204) H
noncomputable def xd : KK := CQ (ba [1, 0, 1, 2, 1, 1, 1]) vP bx bp
noncomputable def RV : KK := dv 1684996666696914987166688442938726917102321526408785780068975624186 xd
noncomputable def Na (x0 x2 x14 : Value) (H : AH) : OV := xd (ls [x0, u, x2, u, u, u, u, u, u, u, u, u, u, u, x14] 205) H
noncomputable def xf : KK := CQ (ba [1, 0, 1, 2, 1, 1, 1, 1]) vP bx bp
noncomputable def EV : KK := dv 1684996666696914987166688442938726917102321526408785780068975640575 xf
noncomputable def Nb (H : AH) : OV := xf (ls [] 220) H
noncomputable def E6 : KK := CQ (ba [1, 0, 1, 2, 1, 1, 1, 0, 1]) EV bx bp
noncomputable def Nc (x0 x14 x17 : Value) (H : AH) : OV := E6 (ls [x0, u, u, u, u, u, u, u, u, u, u, u, u, u, x14, u, u, x17] 202) H
noncomputable def xr : KX := BX 6 EV bx
noncomputable def rt : KX := py 1684996666696914987166688442938726917102321526408785780068975640575 xr
noncomputable def xg : KK := tf (ba [1, 0, 1, 2, 1, 1, 1, 0, 1, 4, 5]) rt bp
noncomputable def EW : KK := dv 1684996666696914987166688442938726917102321526408785780068975493118 xg
noncomputable def wh (x0 x14 x17 : Value) (H : AH) : OV := xg (ls [x0, u, u, u, u, u, u, u, u, u, u, u, u, u, x14, u, u, x17] 202) H
noncomputable def E7 : KK := CQ (ba [1, 0, 1, 2, 1, 1, 1, 0, 1, 4, 5, 1]) EW rt bp
noncomputable def Nd (x0 x14 x17 : Value) (H : AH) : OV := E7 (ls [x0, u, u, u, u, u, u, u, u, u, u, u, u, u, x14, u, u, x17] 202) H
noncomputable def xh : KK := CQ (ba [1, 0, 1, 2, 1, 1, 1, 0, 1, 4, 5, 1, 1]) EW rt bp
noncomputable def RW : KK := dv 1684996666696914987166688442938726917102321526408785780068975493118 xh
noncomputable def Ne (x0 x14 x17 : Value) (H : AH) : OV := xh (ls [x0, u, u, u, u, u, u, u, u, u, u, u, u, u, x14, u, u, x17] 202) H
noncomputable def R0 : KX := BX 7 RW rt
noncomputable def Bk (H : AH) : OV := xr 6 (ls [] 220) H
noncomputable def xt : KX := BX 4 RV bx
noncomputable def xw : KX := py 1684996666696914987166688442938726917102321526408785780068975624186 xt
noncomputable def xj : KK := tf (ba [1, 0, 1, 2, 1, 1, 0, 4, 5]) xw bp
noncomputable def EX : KK := dv 1684996666696914987166688442938726917102321526408785780068975591402 xj
noncomputable def s0 (x0 x2 x4 x14 x15 : Value) (H : AH) : OV := xj (ls [x0, u, x2, u, x4, u, u, u, u, u, u, u, u, u, x14, x15] 204) H
noncomputable def E8 : KK := CQ (ba [1, 0, 1, 2, 1, 1, 0, 4, 5, 1]) EX xw bp
noncomputable def Nf (x0 x2 x4 x14 x15 : Value) (H : AH) : OV := E8 (ls [x0, u, x2, u, x4, u, u, u, u, u, u, u, u, u, x14, x15] 204) H
noncomputable def R3 : KX := BX 5 EX xw
noncomputable def Bl (x0 x2 x14 : Value) (H : AH) : OV := xt 4 (ls [x0, u, x2, u, u, u, u, u, u, u, u, u, u, u, x14] 205) H
noncomputable def E9 : KK := CQ (ba [0, 1]) vO bx bp
noncomputable def Ng (x0 x1 x2 x3 x4 x28 : Value) (H : AH) : OV := E9 (ls [x0, x1, x2, x3, x4, u, u, u, u, u, u, u, u, u, u, u, u, u, u, u, u, u, u, u, u, u, u, u, x28] 191) H
noncomputable def Fa : KK := CQ (ba [0, 1, 2, 1, 1]) vO bx bp
noncomputable def DS (x0 x1 x4 x10 x11 : Value) (H : AH) : OV := Fa (ls [x0, x1, u, u, x4, u, u, u, u, u, x10, x11] 208) H
noncomputable def xk : KK := CQ (ba [0, 1, 2, 1, 1, 1]) vO bx bp
noncomputable def RX : KK := dv 1684996666696914987166688442938726917102321526408785780068975639548 xk
noncomputable def Nh (x0 x1 x10 : Value) (H : AH) : OV := xk (ls [x0, x1, u, u, u, u, u, u, u, u, x10] 209) H
noncomputable def xm : KK := CQ (ba [0, 1, 2, 1, 1, 1, 1]) vO bx bp
noncomputable def EY : KK := dv 1684996666696914987166688442938726917102321526408785780068975640575 xm
noncomputable def Ni (H : AH) : OV := xm (ls [] 220) H
noncomputable def Fb : KK := CQ (ba [0, 1, 2, 1, 1, 1, 0, 1]) EY bx bp
noncomputable def Nj (x0 x10 x13 : Value) (H : AH) : OV := Fb (ls [x0, u, u, u, u, u, u, u, u, u, x10, u, u, x13] 206) H
noncomputable def xu : KX := BX 2 EY bx
noncomputable def ru : KX := py 1684996666696914987166688442938726917102321526408785780068975640575 xu
noncomputable def xn : KK := tf (ba [0, 1, 2, 1, 1, 1, 0, 1, 4, 5]) ru bp
noncomputable def EZ : KK := dv 1684996666696914987166688442938726917102321526408785780068975631358 xn
noncomputable def wi (x0 x10 x13 : Value) (H : AH) : OV := xn (ls [x0, u, u, u, u, u, u, u, u, u, x10, u, u, x13] 206) H
noncomputable def Fc : KK := CQ (ba [0, 1, 2, 1, 1, 1, 0, 1, 4, 5, 1]) EZ ru bp
noncomputable def Nk (x0 x10 x13 : Value) (H : AH) : OV := Fc (ls [x0, u, u, u, u, u, u, u, u, u, x10, u, u, x13] 206) H
noncomputable def xo : KK := CQ (ba [0, 1, 2, 1, 1, 1, 0, 1, 4, 5, 1, 1]) EZ ru bp
noncomputable def RY : KK := dv 1684996666696914987166688442938726917102321526408785780068975631358 xo
noncomputable def Nl (x0 x10 x13 : Value) (H : AH) : OV := xo (ls [x0, u, u, u, u, u, u, u, u, u, x10, u, u, x13] 206) H
noncomputable def R4 : KX := BX 3 RY ru
noncomputable def Bm (H : AH) : OV := xu 2 (ls [] 220) H
noncomputable def tx : KX := BX 0 RX bx
noncomputable def tz : KX := py 1684996666696914987166688442938726917102321526408785780068975639548 tx
noncomputable def tw : KK := tf (ba [0, 1, 2, 1, 1, 0, 4, 5]) tz bp
noncomputable def Aw : KK := dv 1684996666696914987166688442938726917102321526408785780068975637484 tw
noncomputable def oy (x0 x1 x4 x10 x11 : Value) (H : AH) : OV := tw (ls [x0, x1, u, u, x4, u, u, u, u, u, x10, x11] 208) H
noncomputable def Ax : KK := CQ (ba [0, 1, 2, 1, 1, 0, 4, 5, 1]) Aw tz bp
noncomputable def Gw (x0 x1 x4 x10 x11 : Value) (H : AH) : OV := Ax (ls [x0, x1, u, u, x4, u, u, u, u, u, x10, x11] 208) H
noncomputable def OC : KX := BX 1 Aw tz
noncomputable def y4 (x0 x1 x10 : Value) (H : AH) : OV := tx 0 (ls [x0, x1, u, u, u, u, u, u, u, u, x10] 209) H
theorem aU : au 1684996666696914987166688442938726917102321526408785780068975640575 bp := rf
theorem lw : au 1684996666696914987166688442938726917102321526408785780068975640544 Ca := rc aU aC aU
theorem lx : au 1684996666696914987166688442938726917102321526408785780068975640544 Cb := rc aU aC aU
theorem Ow : au 1684996666696914987166688442938726917102321526408785780068974854112 Lx := rc aU aC aU
theorem Ox : au 1684996666696914987166688442938726917102321526408785780068971708384 Ly := rc aU aC aU
theorem Oy : au 1684996666696914987166688442938726917102321526408785780068967514080 Lz := rc aU aC aU
theorem Ay : au 1684996666696914987166688442938726917102321526408785780068973805536 Cc := rc aU aC aU
theorem Oz : au 1684996666696914987166688442938726917102321526408785780068957552608 LA := rc aU aC aU
theorem OA : au 1684996666696914987166688442938726917102321526408785780068957552612 LB := rc aU aC aU
theorem OB : au 1684996666696914987166688442938726917102321526408785780068958601190 LC := rc aU aC aU
theorem l6 : ∀ i, au 1684996666696914987166688442938726917102321526408785780068973805536 (xq i) := rb (cd Ay) aC
theorem lX : au 1684996666696914987166688442938726917102321526408785780068967514080 xa := rl (cx l6) aU
theorem Ia : au 1684996666696914987166688442938726917102321526408785780068967514080 E3 := rc (cd lX) (cx l6) aU
theorem Ik : ∀ i, au 1684996666696914987166688442938726917102321526408785780068967514080 (RZ i) := rb (cd lX) (cx l6)
theorem Ib : au 1684996666696914987166688442938726917102320317482966165439800934368 E4 := rc (cd lx) aC aU
theorem Ic : au 1684996666696914987166688442938726917102321526408785780068975591402 E5 := rc (cd lx) aC aU
theorem xe : au 1684996666696914987166688442938726917102321526408785780068975624186 xd := rc (cd lx) aC aU
theorem p7 : au 1684996666696914987166688442938726917102321526408785780068975640575 xf := rc (cd lx) aC aU
theorem Id : au 1684996666696914987166688442938726917102321526408785780068975493118 E6 := rc (cd p7) aC aU
theorem jF : ∀ i, au 1684996666696914987166688442938726917102321526408785780068975640575 (xr i) := rb (cd p7) aC
theorem lY : au 1684996666696914987166688442938726917102321526408785780068975493118 xg := rl (cx jF) aU
theorem Ie : au 1684996666696914987166688442938726917102321526408785780068975493118 E7 := rc (cd lY) (cx jF) aU
theorem xi : au 1684996666696914987166688442938726917102321526408785780068975493118 xh := rc (cd lY) (cx jF) aU
theorem Il : ∀ i, au 1684996666696914987166688442938726917102321526408785780068975493118 (R0 i) := rb (cd xi) (cx jF)
theorem l7 : ∀ i, au 1684996666696914987166688442938726917102321526408785780068975624186 (xt i) := rb (cd xe) aC
theorem lZ : au 1684996666696914987166688442938726917102321526408785780068975591402 xj := rl (cx l7) aU
theorem If : au 1684996666696914987166688442938726917102321526408785780068975591402 E8 := rc (cd lZ) (cx l7) aU
theorem Im : ∀ i, au 1684996666696914987166688442938726917102321526408785780068975591402 (R3 i) := rb (cd lZ) (cx l7)
theorem Ig : au 1684996666696914987166688442938726917102321526408785780068707205088 E9 := rc (cd lw) aC aU
theorem Ih : au 1684996666696914987166688442938726917102321526408785780068975637484 Fa := rc (cd lw) aC aU
theorem xl : au 1684996666696914987166688442938726917102321526408785780068975639548 xk := rc (cd lw) aC aU
theorem p8 : au 1684996666696914987166688442938726917102321526408785780068975640575 xm := rc (cd lw) aC aU
theorem Ii : au 1684996666696914987166688442938726917102321526408785780068975631358 Fb := rc (cd p8) aC aU
theorem jG : ∀ i, au 1684996666696914987166688442938726917102321526408785780068975640575 (xu i) := rb (cd p8) aC
theorem l5 : au 1684996666696914987166688442938726917102321526408785780068975631358 xn := rl (cx jG) aU
theorem Ij : au 1684996666696914987166688442938726917102321526408785780068975631358 Fc := rc (cd l5) (cx jG) aU
theorem xp : au 1684996666696914987166688442938726917102321526408785780068975631358 xo := rc (cd l5) (cx jG) aU
theorem In : ∀ i, au 1684996666696914987166688442938726917102321526408785780068975631358 (R4 i) := rb (cd xp) (cx jG)
theorem kj : ∀ i, au 1684996666696914987166688442938726917102321526408785780068975639548 (tx i) := rb (cd xl) aC
theorem ki : au 1684996666696914987166688442938726917102321526408785780068975637484 tw := rl (cx kj) aU
theorem E0 : au 1684996666696914987166688442938726917102321526408785780068975637484 Ax := rc (cd ki) (cx kj) aU
theorem Fd : ∀ i, au 1684996666696914987166688442938726917102321526408785780068975637484 (OC i) := rb (cd ki) (cx kj)
theorem Qp (x0 x3 x4 x18 x24 : Value) (H : AH) : DR x0 x3 x4 x18 x24 H =
 (aj .other .lss x18 x24).bind fun v9 =>
 (gV v9 true x24).bind fun v10 =>
 (gV v9 true x3).bind fun v11 =>
 (gB v9 true (aj .other .lss v10 v11)).bind fun v12 =>
 (aS v9 v12 (vb false)).bind fun v13 =>
 ax v13
 ((FF AV [x0, x18, x24, x3, x4] H).bind fun r14 =>
 some (Value.tuple #[], r14.2))
 (some (Value.tuple #[], H)) :=
 (by kernel_rfl)
theorem Qo (x0 x1 x3 x4 x18 x20 x24 : Value) (H : AH) : DQ x0 x1 x3 x4 x18 x20 x24 H =
 (aj .other .lss x1 x20).bind fun v15 =>
 (gV v15 true x20).bind fun v16 =>
 (gV v15 true x18).bind fun v17 =>
 (gB v15 true (aj .other .lss v16 v17)).bind fun v18 =>
 (aS v15 v18 (vb false)).bind fun v19 =>
 ax v19
 ((FF AV [x0, x1, x20, x18, x4] H).bind fun r20 =>
 DR x0 x3 x4 x18 x24 r20.2)
 (DR x0 x3 x4 x18 x24 H) :=
 (pt rfl 0 OB (by kernel_rfl))
theorem Qn (x0 x1 x2 x3 x4 x18 x20 x24 : Value) (H : AH) : VH x0 x1 x2 x3 x4 x18 x20 x24 H =
 (aj .other .lss x20 x2).bind fun v21 =>
 (gV v21 true x2).bind fun v22 =>
 (gV v21 true x24).bind fun v23 =>
 (gB v21 true (aj .other .lss v22 v23)).bind fun v24 =>
 (aS v21 v24 (vb false)).bind fun v25 =>
 ax v25
 ((FF US [x0, x20, x2, x24, x4] H).bind fun r26 =>
 DQ x0 x1 x3 x4 x18 x20 x24 r26.2)
 (DQ x0 x1 x3 x4 x18 x20 x24 H) :=
 (pt rfl 0 OA (by kernel_rfl))
theorem Qm (x0 x1 x2 x3 x4 x18 x19 x20 : Value) (H : AH) : JZ x0 x1 x2 x3 x4 x18 x19 x20 H =
 (aj .other .sub x19 x20).bind fun v27 =>
 VH x0 x1 x2 x3 x4 x18 x20 v27 H :=
 (pt rfl 0 Oz (by kernel_rfl))
theorem JY (x0 x1 x2 x3 x4 x18 x19 x20 x21 x22 : Value) (H : AH) : M8 x0 x1 x2 x3 x4 x18 x19 x20 x21 x22 H =
 (aj .other .add x20 x21).bind fun v32 =>
 (bz (some .u64) v32).bind fun v33 =>
 (aj .other .shr v33 (vw 1)).bind fun v34 =>
 (bz (some .i64) v34).bind fun v35 =>
 (aj .other .sub x22 v35).bind fun v36 =>
 ldN 7 [.i 7 v36] x0 H fun v37 =>
 ldN 7 [.i 7 v35] x0 H fun v38 =>
 (bN x4 [v37, v38]).bind fun c => (FF c.1 c.2 H).bind fun r39 =>
 (aj .other .lss r39.1 (vi 0)).bind fun v40 =>
 (pi .not v40).bind fun v41 =>
 ax v41
 ((aj .other .add v35 (vi 1)).bind fun v42 =>
 sZ x0 x1 x2 x3 x4 x18 x19 v42 x21 x22 r39.2)
 (sZ x0 x1 x2 x3 x4 x18 x19 x20 v35 x22 r39.2) :=
 (bt rfl (ba [1, 1, 1, 1, 1, 1, 1, 0, 4, 5, 1, 4]) 9 Ik (by kernel_rfl))
theorem DL (x0 x1 x2 x3 x4 x18 x19 x20 : Value) (H : AH) : Bj x0 x1 x2 x3 x4 x18 x19 x20 H = JZ x0 x1 x2 x3 x4 x18 x19 x20 H :=
 (by kernel_rfl)
theorem JW (x0 x1 x2 x3 x4 x18 x19 x20 x21 x22 : Value) (H : AH) : sZ x0 x1 x2 x3 x4 x18 x19 x20 x21 x22 H =
 (aj .other .lss x20 x21).bind fun v43 =>
 ax v43
 (M8 x0 x1 x2 x3 x4 x18 x19 x20 x21 x22 H)
 (Bj x0 x1 x2 x3 x4 x18 x19 x20 H) :=
 th rfl lX (pt rfl 0 Ia (by kernel_rfl))
theorem Bo (x0 x1 x2 x3 x4 x18 x19 x20 x21 x22 : Value) (H : AH) : VG x0 x1 x2 x3 x4 x18 x19 x20 x21 x22 H =
 sZ x0 x1 x2 x3 x4 x18 x19 x20 x21 x22 H :=
 (pt rfl 0 Ay (bt rfl (ba [1, 1, 1, 1, 1, 1, 1, 0, 4]) 8 l6 (li rfl (ba [1, 1, 1, 1, 1, 1, 1, 0, 4, 5]) lX (by kernel_rfl))))
theorem Bn (x0 x1 x2 x3 x4 x18 x19 x20 x21 : Value) (H : AH) : JX x0 x1 x2 x3 x4 x18 x19 x20 x21 H =
 (aj .other .sub x19 (vi 1)).bind fun v44 =>
 VG x0 x1 x2 x3 x4 x18 x19 x20 x21 v44 H :=
 (pt rfl 0 Oy (by kernel_rfl))
theorem Ql (x0 x1 x2 x3 x4 x18 x19 : Value) (H : AH) : VF x0 x1 x2 x3 x4 x18 x19 H =
 (aj .other .gtr x2 x18).bind fun v45 =>
 ax v45
 ((aj .other .sub x19 x3).bind fun v46 =>
 JX x0 x1 x2 x3 x4 x18 x19 v46 x18 H)
 (JX x0 x1 x2 x3 x4 x18 x19 x1 x2 H) :=
 (pt rfl 0 Ox (by kernel_rfl))
theorem Qk (x0 x1 x2 x3 x4 : Value) (H : AH) : VE x0 x1 x2 x3 x4 H =
 (aj .other .add x1 x3).bind fun v47 =>
 (bz (some .u64) v47).bind fun v48 =>
 (aj .other .shr v48 (vw 1)).bind fun v49 =>
 (bz (some .i64) v49).bind fun v50 =>
 (aj .other .add v50 x2).bind fun v51 =>
 VF x0 x1 x2 x3 x4 v50 v51 H :=
 (pt rfl 2 Ow (by kernel_rfl))
theorem J2 (H : AH) : Nb H =
 some (Value.tuple #[], H) :=
 (by kernel_rfl)
theorem J5 (x0 x14 x17 : Value) (H : AH) : Ne x0 x14 x17 H =
 (aj .other .sub x17 (vi 1)).bind fun v61 =>
 wh x0 x14 v61 H :=
 (by kernel_rfl)
theorem J4 (x0 x14 x17 : Value) (H : AH) : Nd x0 x14 x17 H =
 (aj .other .sub x17 (vi 1)).bind fun v63 =>
 (aj .other .sub x17 (vi 1)).bind fun v64 =>
 ldN 7 [.i 7 v64] x0 H fun v65 =>
 ldN 7 [.i 7 x17] x0 H fun v66 =>
 st 7 [.i 7 x17] x0 v65 H fun H67 =>
 st 7 [.i 7 v63] x0 v66 H67 fun H68 =>
 Ne x0 x14 x17 H68 :=
 (pt rfl 0 xi (bt rfl (ba [1, 0, 1, 2, 1, 1, 1, 0, 1, 4, 5, 1, 0, 4]) 7 Il (by kernel_rfl)))
theorem DM (H : AH) : Bk H = Nb H :=
 (by kernel_rfl)
theorem za (x0 x14 x17 : Value) (H : AH) : wh x0 x14 x17 H =
 (aj .other .gtr x17 x14).bind fun v69 =>
 ax v69
 (Nd x0 x14 x17 H)
 (Bk H) :=
 th rfl lY (pt rfl 0 Ie (by kernel_rfl))
theorem J3 (x0 x14 x17 : Value) (H : AH) : Nc x0 x14 x17 H =
 wh x0 x14 x17 H :=
 (bt rfl (ba [1, 0, 1, 2, 1, 1, 1, 0, 1, 4]) 6 jF (li rfl (ba [1, 0, 1, 2, 1, 1, 1, 0, 1, 4, 5]) lY (by kernel_rfl)))
theorem J1 (x0 x2 x14 : Value) (H : AH) : Na x0 x2 x14 H =
 Nc x0 x14 x2 H :=
 (pt rfl 0 p7 (pt rfl 0 Id (by kernel_rfl)))
theorem J7 (x0 x2 x4 x14 x15 : Value) (H : AH) : Nf x0 x2 x4 x14 x15 H =
 (aj .other .add x14 x15).bind fun v74 =>
 (bz (some .u64) v74).bind fun v75 =>
 (aj .other .shr v75 (vw 1)).bind fun v76 =>
 (bz (some .i64) v76).bind fun v77 =>
 ldN 7 [.i 7 x2] x0 H fun v78 =>
 ldN 7 [.i 7 v77] x0 H fun v79 =>
 (bN x4 [v78, v79]).bind fun c => (FF c.1 c.2 H).bind fun r80 =>
 (aj .other .lss r80.1 (vi 0)).bind fun v81 =>
 (pi .not v81).bind fun v82 =>
 ax v82
 ((aj .other .add v77 (vi 1)).bind fun v83 =>
 s0 x0 x2 x4 v83 x15 r80.2)
 (s0 x0 x2 x4 x14 v77 r80.2) :=
 (bt rfl (ba [1, 0, 1, 2, 1, 1, 0, 4, 5, 1, 4]) 5 Im (by kernel_rfl))
theorem DN (x0 x2 x14 : Value) (H : AH) : Bl x0 x2 x14 H = Na x0 x2 x14 H :=
 (by kernel_rfl)
theorem J6 (x0 x2 x4 x14 x15 : Value) (H : AH) : s0 x0 x2 x4 x14 x15 H =
 (aj .other .lss x14 x15).bind fun v84 =>
 ax v84
 (Nf x0 x2 x4 x14 x15 H)
 (Bl x0 x2 x14 H) :=
 th rfl lZ (pt rfl 0 If (by kernel_rfl))
theorem J0 (x0 x2 x4 x14 x15 : Value) (H : AH) : DP x0 x2 x4 x14 x15 H =
 s0 x0 x2 x4 x14 x15 H :=
 (pt rfl 0 xe (bt rfl (ba [1, 0, 1, 2, 1, 1, 0, 4]) 4 l7 (li rfl (ba [1, 0, 1, 2, 1, 1, 0, 4, 5]) lZ (by kernel_rfl))))
theorem y5 (x0 x1 x2 x3 x4 x80 : Value) (H : AH) : M9 x0 x1 x2 x3 x4 x80 H =
 ax x80
 (DP x0 x2 x4 x1 x2 H)
 (VE x0 x1 x2 x3 x4 H) :=
 (ct rfl (ba [1, 0, 1, 2]) (ba [1, 0, 1, 3]) (.tmp 80) (pt rfl 1 Ic (by kernel_rfl)) (by kernel_rfl))
theorem Qj (x0 x1 x2 x3 x4 : Value) (H : AH) : VD x0 x1 x2 x3 x4 H =
 (aj .other .sub x3 x2).bind fun v85 =>
 (aj .other .eql v85 (vi 1)).bind fun v86 =>
 M9 x0 x1 x2 x3 x4 v86 H :=
 (pt rfl 0 lx (pt rfl 0 Ib (by kernel_rfl)))
theorem Ka (H : AH) : Ni H =
 some (Value.tuple #[], H) :=
 (by kernel_rfl)
theorem Kd (x0 x10 x13 : Value) (H : AH) : Nl x0 x10 x13 H =
 (aj .other .add x13 (vi 1)).bind fun v96 =>
 wi x0 x10 v96 H :=
 (by kernel_rfl)
theorem Kc (x0 x10 x13 : Value) (H : AH) : Nk x0 x10 x13 H =
 (aj .other .add x13 (vi 1)).bind fun v98 =>
 (aj .other .add x13 (vi 1)).bind fun v99 =>
 ldN 7 [.i 7 v99] x0 H fun v100 =>
 ldN 7 [.i 7 x13] x0 H fun v101 =>
 st 7 [.i 7 x13] x0 v100 H fun H102 =>
 st 7 [.i 7 v98] x0 v101 H102 fun H103 =>
 Nl x0 x10 x13 H103 :=
 (pt rfl 0 xp (bt rfl (ba [0, 1, 2, 1, 1, 1, 0, 1, 4, 5, 1, 0, 4]) 3 In (by kernel_rfl)))
theorem DO (H : AH) : Bm H = Ni H :=
 (by kernel_rfl)
theorem zc (x0 x10 x13 : Value) (H : AH) : wi x0 x10 x13 H =
 (aj .other .sub x10 (vi 1)).bind fun v104 =>
 (aj .other .lss x13 v104).bind fun v105 =>
 ax v105
 (Nk x0 x10 x13 H)
 (Bm H) :=
 th rfl l5 (pt rfl 0 Ij (by kernel_rfl))
theorem Kb (x0 x10 x13 : Value) (H : AH) : Nj x0 x10 x13 H =
 wi x0 x10 x13 H :=
 (bt rfl (ba [0, 1, 2, 1, 1, 1, 0, 1, 4]) 2 jG (li rfl (ba [0, 1, 2, 1, 1, 1, 0, 1, 4, 5]) l5 (by kernel_rfl)))
theorem J9 (x0 x1 x10 : Value) (H : AH) : Nh x0 x1 x10 H =
 Nj x0 x10 x1 H :=
 (pt rfl 0 p8 (pt rfl 0 Ii (by kernel_rfl)))
theorem Gx (x0 x1 x4 x10 x11 : Value) (H : AH) : Gw x0 x1 x4 x10 x11 H =
 (aj .other .add x10 x11).bind fun v110 =>
 (bz (some .u64) v110).bind fun v111 =>
 (aj .other .shr v111 (vw 1)).bind fun v112 =>
 (bz (some .i64) v112).bind fun v113 =>
 ldN 7 [.i 7 v113] x0 H fun v114 =>
 ldN 7 [.i 7 x1] x0 H fun v115 =>
 (bN x4 [v114, v115]).bind fun c => (FF c.1 c.2 H).bind fun r116 =>
 (aj .other .lss r116.1 (vi 0)).bind fun v117 =>
 ax v117
 ((aj .other .add v113 (vi 1)).bind fun v118 =>
 oy x0 x1 x4 v118 x11 r116.2)
 (oy x0 x1 x4 x10 v113 r116.2) :=
 (bt rfl (ba [0, 1, 2, 1, 1, 0, 4, 5, 1, 4]) 1 Fd (by kernel_rfl))
theorem z5 (x0 x1 x10 : Value) (H : AH) : y4 x0 x1 x10 H = Nh x0 x1 x10 H :=
 (by kernel_rfl)
theorem Gv (x0 x1 x4 x10 x11 : Value) (H : AH) : oy x0 x1 x4 x10 x11 H =
 (aj .other .lss x10 x11).bind fun v119 =>
 ax v119
 (Gw x0 x1 x4 x10 x11 H)
 (y4 x0 x1 x10 H) :=
 th rfl ki (pt rfl 0 E0 (by kernel_rfl))
theorem J8 (x0 x1 x4 x10 x11 : Value) (H : AH) : DS x0 x1 x4 x10 x11 H =
 oy x0 x1 x4 x10 x11 H :=
 (pt rfl 0 xl (bt rfl (ba [0, 1, 2, 1, 1, 0, 4]) 0 kj (li rfl (ba [0, 1, 2, 1, 1, 0, 4, 5]) ki (by kernel_rfl))))
theorem zb (x0 x1 x2 x3 x4 x28 : Value) (H : AH) : Ng x0 x1 x2 x3 x4 x28 H =
 ax x28
 (DS x0 x1 x4 x2 x3 H)
 (VD x0 x1 x2 x3 x4 H) :=
 (ct rfl (ba [0, 1, 2]) (ba [0, 1, 3]) (.tmp 28) (pt rfl 1 Ih (by kernel_rfl)) (by kernel_rfl))
noncomputable def sMg (x0 x1 x2 x3 x4 : Value) (H : AH) : OV := aW PP GG FF (ba []) (ls [x0, x1, x2, x3, x4] 215) H bp bx bp
theorem aaE (x0 x1 x2 x3 x4 : Value) (H : AH) {r : Value × AH} (h : (
 (aj .other .sub x2 x1).bind fun v120 =>
 (aj .other .eql v120 (vi 1)).bind fun v121 =>
 Ng x0 x1 x2 x3 x4 v121 H) = some r) : FF AV [x0, x1, x2, x3, x4] H = some r :=
 fo (t := sMg x0 x1 x2 x3 x4 H) Tryz.func138 (by kernel_rfl) (Eq.trans (pt rfl 0 lw (pt rfl 0 Ig (by kernel_rfl))) h)
theorem uV (x0 : Value) (H : AH) {r : Value × AH} (h : (
 (aj .other .neq x0 x0).bind fun v0 =>
 some (v0, H)) = some r) : FF gt [x0] H = some r :=
 fo Tryz.func139 (by kernel_rfl) h
noncomputable def ej (p : List Nat) : Code := Code.sub (bJ Tryz.f140) p
noncomputable def em : KK := ei PP (Tryz.f140).results.toList
noncomputable def LE : KK := CQ (ej [1, 1]) em bx em
noncomputable def Vn (x0 x1 x2 x7 x8 : Value) (H : AH) : OV := LE (ls [x0, x1, x2, u, u, u, u, x7, x8] 81) H
noncomputable def Cd : KK := CQ (ej [1, 1, 1]) em bx em
noncomputable def LD : KK := dv 1237940039285380274899123832 Cd
noncomputable def Jy (x0 x1 x2 x7 x8 : Value) (H : AH) : OV := Cd (ls [x0, x1, x2, u, u, u, u, x7, x8] 81) H
noncomputable def LF : KK := CQ (ej [1, 1, 1, 1, 1]) em bx em
noncomputable def Vo (x0 x1 x2 x7 x8 x10 : Value) (H : AH) : OV := LF (ls [x0, x1, x2, u, u, u, u, x7, x8, u, x10] 79) H
noncomputable def Ce : KK := CQ (ej [1, 1, 1, 1, 1, 1]) em bx em
noncomputable def Xc : KK := dv 1237940039285380274899122808 Ce
noncomputable def JB (x0 x1 x2 x7 x8 x10 : Value) (H : AH) : OV := Ce (ls [x0, x1, x2, u, u, u, u, x7, x8, u, x10] 79) H
noncomputable def xD : KX := BX 2 Xc bx
noncomputable def xF : KX := py 1237940039285380274899122808 xD
noncomputable def xy : KK := tf (ej [1, 1, 1, 1, 1, 0, 4, 5]) xF em
noncomputable def Fe : KK := dv 1237940039285380274899122808 xy
noncomputable def wc (x0 x1 x2 x7 x8 x10 : Value) (H : AH) : OV := xy (ls [x0, x1, x2, u, u, u, u, x7, x8, u, x10] 79) H
noncomputable def Fg : KK := CQ (ej [1, 1, 1, 1, 1, 0, 4, 5, 1]) Fe xF em
noncomputable def MS (x0 x1 x2 x7 x8 x10 : Value) (H : AH) : OV := Fg (ls [x0, x1, x2, u, u, u, u, x7, x8, u, x10] 79) H
noncomputable def R6 : KX := BX 3 Fe xF
noncomputable def A6 (x0 x1 x2 x7 x8 x10 : Value) (H : AH) : OV := xD 2 (ls [x0, x1, x2, u, u, u, u, x7, x8, u, x10] 79) H
noncomputable def Fh : KK := CQ (ej [1, 1, 0, 1]) LD bx em
noncomputable def MT (x0 x1 x2 x7 x8 x9 : Value) (H : AH) : OV := Fh (ls [x0, x1, x2, u, u, u, u, x7, x8, x9] 80) H
noncomputable def xE : KX := BX 0 LD bx
noncomputable def rx : KX := py 1237940039285380274899123832 xE
noncomputable def xz : KK := tf (ej [1, 1, 0, 1, 4, 5]) rx em
noncomputable def Ff : KK := dv 1237940039285380274899123320 xz
noncomputable def we (x0 x1 x2 x7 x8 x9 : Value) (H : AH) : OV := xz (ls [x0, x1, x2, u, u, u, u, x7, x8, x9] 80) H
noncomputable def Fi : KK := CQ (ej [1, 1, 0, 1, 4, 5, 1]) Ff rx em
noncomputable def MU (x0 x1 x2 x7 x8 x9 : Value) (H : AH) : OV := Fi (ls [x0, x1, x2, u, u, u, u, x7, x8, x9] 80) H
noncomputable def xA : KK := CQ (ej [1, 1, 0, 1, 4, 5, 1, 1]) Ff rx em
noncomputable def R5 : KK := dv 1237940039285380274899123320 xA
noncomputable def wg (x0 x1 x2 x7 x8 x9 : Value) (H : AH) : OV := xA (ls [x0, x1, x2, u, u, u, u, x7, x8, x9] 80) H
noncomputable def R7 : KX := BX 1 R5 rx
noncomputable def A7 (x0 x1 x2 x7 x8 : Value) (H : AH) : OV := xE 0 (ls [x0, x1, x2, u, u, u, u, x7, x8] 81) H
theorem db : au 1237940039285380274899124223 em := rf
theorem OD : au 1237940039285380274899123832 LE := rc db aC db
theorem tA : au 1237940039285380274899123832 Cd := rc db aC db
theorem OE : au 1237940039285380274899122808 LF := rc db aC db
theorem Az : au 1237940039285380274899122808 Ce := rc db aC db
theorem md : ∀ i, au 1237940039285380274899122808 (xD i) := rb (cd Az) aC
theorem l8 : au 1237940039285380274899122808 xy := rl (cx md) db
theorem Io : au 1237940039285380274899122808 Fg := rc (cd l8) (cx md) db
theorem Ir : ∀ i, au 1237940039285380274899122808 (R6 i) := rb (cd l8) (cx md)
theorem Ip : au 1237940039285380274899123320 Fh := rc (cd tA) aC db
theorem jH : ∀ i, au 1237940039285380274899123832 (xE i) := rb (cd tA) aC
theorem ma : au 1237940039285380274899123320 xz := rl (cx jH) db
theorem Iq : au 1237940039285380274899123320 Fi := rc (cd ma) (cx jH) db
theorem xC : au 1237940039285380274899123320 xA := rc (cd ma) (cx jH) db
theorem Is : ∀ i, au 1237940039285380274899123320 (R7 i) := rb (cd xC) (cx jH)
theorem P6 (x0 x1 x2 x7 x8 x10 : Value) (H : AH) : JB x0 x1 x2 x7 x8 x10 H =
 ld [.n, .f 13] x0 H fun v4 =>
 (dD 7 v4 none (some x10)).bind fun v5 =>
 (dN 7 72 (.slice none 0 0) v5 H).bind fun r6 =>
 (aA 4 x7 r6.2).bind fun v7 =>
 gk [(0, 1), (1, 1), (2, 1), (3, 4)] [(vi 0), (vi 0), (vi 0), (vi 0), (.slice none 0 0), (vi 0), (vw 0)] [(0, x1), (1, x2), (2, x8), (3, v7)] fun v8 =>
 zY 1 7 [(vi 0), (vi 0), (vi 0), (vi 0), (.slice none 0 0), (vi 0), (vw 0)] [(0, v8)] r6.2 fun v9 H10 =>
 (dN 7 72 r6.1 v9 H10).bind fun r11 =>
 ld [.n, .f 13] x0 r11.2 fun v12 =>
 (dD 7 v12 (some x10) none).bind fun v13 =>
 (dN 7 72 r11.1 v13 r11.2).bind fun r14 =>
 st 1 [.n, .f 13] x0 r14.1 r14.2 fun H15 =>
 some (Value.tuple #[], H15) :=
 (by kernel_rfl)
theorem Jz (x0 x1 x2 x7 x8 x10 : Value) (H : AH) : MS x0 x1 x2 x7 x8 x10 H =
 (aj .other .sub x10 (vi 1)).bind fun v20 =>
 wc x0 x1 x2 x7 x8 v20 H :=
 (bt rfl (ej [1, 1, 1, 1, 1, 0, 4, 5, 1, 4]) 3 Ir (by kernel_rfl))
theorem sP (x0 x1 x2 x7 x8 x10 : Value) (H : AH) : A6 x0 x1 x2 x7 x8 x10 H = JB x0 x1 x2 x7 x8 x10 H :=
 (by kernel_rfl)
theorem yT (x0 x1 x2 x7 x8 x10 : Value) (H : AH) : wc x0 x1 x2 x7 x8 x10 H =
 (aj .other .gtr x10 (vi 0)).bind fun v21 =>
 (gV v21 true x0).bind fun v22 =>
 fp v21 true  [.n, .f 13] v22 H fun v23 =>
 (gV v21 true x10).bind fun v24 =>
 (gB v21 true (aj .other .sub v24 (vi 1))).bind fun v25 =>
 fp v21 true  [.i 7 v25, .f 0] v23 H fun v26 =>
 (gV v21 true x1).bind fun v27 =>
 (gB v21 true (aj .other .gtr v26 v27)).bind fun v28 =>
 (aS v21 v28 (vb false)).bind fun v29 =>
 ax v29
 (MS x0 x1 x2 x7 x8 x10 H)
 (A6 x0 x1 x2 x7 x8 x10 H) :=
 th rfl l8 (pt rfl 0 Io (by kernel_rfl))
theorem P5 (x0 x1 x2 x7 x8 x10 : Value) (H : AH) : Vo x0 x1 x2 x7 x8 x10 H =
 wc x0 x1 x2 x7 x8 x10 H :=
 (pt rfl 0 Az (bt rfl (ej [1, 1, 1, 1, 1, 0, 4]) 2 md (li rfl (ej [1, 1, 1, 1, 1, 0, 4, 5]) l8 (by kernel_rfl))))
theorem P4 (x0 x1 x2 x7 x8 : Value) (H : AH) : Jy x0 x1 x2 x7 x8 H =
 ld [.f 1] x7 H fun v30 =>
 (dN 3 24 (.slice none 0 0) v30 H).bind fun r31 =>
 st 1 [.f 1] x7 r31.1 r31.2 fun H32 =>
 ld [.n, .f 13] x0 H32 fun v33 =>
 iN v33 fun v34 =>
 Vo x0 x1 x2 x7 x8 v34 H32 :=
 (pt rfl 1 OE (by kernel_rfl))
theorem JE (x0 x1 x2 x7 x8 x9 : Value) (H : AH) : wg x0 x1 x2 x7 x8 x9 H =
 (aj .other .add x9 (vi 2)).bind fun v40 =>
 we x0 x1 x2 x7 x8 v40 H :=
 (by kernel_rfl)
theorem JD (x0 x1 x2 x7 x8 x9 : Value) (H : AH) : MU x0 x1 x2 x7 x8 x9 H =
 ld [.n, .f 12] x0 H fun v42 =>
 ld [.i 1 x9] v42 H fun v43 =>
 (aj .other .eql v43 x2).bind fun v44 =>
 ax v44
 (ld [.n, .f 12] x0 H fun v45 =>
 (aj .other .add x9 (vi 1)).bind fun v46 =>
 ld [.i 1 v46] v45 H fun v47 =>
 wg x0 x1 x2 x7 v47 x9 H)
 (wg x0 x1 x2 x7 x8 x9 H) :=
 (pt rfl 0 xC (bt rfl (ej [1, 1, 0, 1, 4, 5, 1, 0, 4]) 1 Is (by kernel_rfl)))
theorem Dy (x0 x1 x2 x7 x8 : Value) (H : AH) : A7 x0 x1 x2 x7 x8 H = Jy x0 x1 x2 x7 x8 H :=
 (by kernel_rfl)
theorem yU (x0 x1 x2 x7 x8 x9 : Value) (H : AH) : we x0 x1 x2 x7 x8 x9 H =
 ld [.n, .f 12] x0 H fun v48 =>
 iN v48 fun v49 =>
 (aj .other .lss x9 v49).bind fun v50 =>
 ax v50
 (MU x0 x1 x2 x7 x8 x9 H)
 (A7 x0 x1 x2 x7 x8 H) :=
 th rfl ma (pt rfl 0 Iq (by kernel_rfl))
theorem JC (x0 x1 x2 x7 x8 x9 : Value) (H : AH) : MT x0 x1 x2 x7 x8 x9 H =
 we x0 x1 x2 x7 x8 x9 H :=
 (bt rfl (ej [1, 1, 0, 1, 4]) 0 jH (li rfl (ej [1, 1, 0, 1, 4, 5]) ma (by kernel_rfl)))
theorem P3 (x0 x1 x2 x7 x8 : Value) (H : AH) : Vn x0 x1 x2 x7 x8 H =
 MT x0 x1 x2 x7 x8 (vi 0) H :=
 (pt rfl 0 tA (pt rfl 0 Ip (by kernel_rfl)))
noncomputable def rPN (x0 x1 x2 x3 : Value) (H : AH) : OV := aW PP GG FF (ej []) (ls [x0, x1, x2, x3] 86) H em bx em
theorem Z6 (x0 x1 x2 x3 : Value) (H : AH) {r : Value × AH} (h : (
 aY (Value.cells x3).toList H fun v51 H52 =>
 Vn x0 x1 x2 v51 (vi 0) H52) = some r) : FF UO [x0, x1, x2, x3] H = some r :=
 fo (t := rPN x0 x1 x2 x3 H) Tryz.func140 (by kernel_rfl) (Eq.trans (pt rfl 1 OD (by kernel_rfl)) h)
theorem tY (x0 x1 : Value) (H : AH) {r : Value × AH} (h : (
 ad [.n, .f 0] x0 fun v0 =>
 (ar v0 H).bind fun v1 =>
 ld [.n, .f 1] x0 H fun v2 =>
 (FF bF [(vi 11), v2, (vi 0)] H).bind fun r3 =>
 bE (ar v0 r3.2) (ar v0 H) <|
 (FF cR [v1, x1, r3.1] r3.2).bind fun r4 =>
 some (r4.1, r4.2)) = some r) : FF iY [x0, x1] H = some r :=
 fo Tryz.func143 (by kernel_rfl) h
theorem lO (x0 x1 : Value) (H : AH) {r : Value × AH} (h : (
 ld [.n, .f 2] x0 H fun v0 =>
 (bz (some .u64) v0).bind fun v1 =>
 (aj .other .rem x1 v1).bind fun v2 =>
 (bz (some .i64) v2).bind fun v3 =>
 some (v3, H)) = some r) : FF cZ [x0, x1] H = some r :=
 fo Tryz.func145 (by kernel_rfl) h
theorem tT (x0 x1 : Value) (H : AH) {r : Value × AH} (h : (
 ad [.n, .f 5] x0 fun v0 =>
 (ar v0 H).bind fun v1 =>
 (FF bF [(vi 2), (vi 0), (vi 0)] H).bind fun r2 =>
 bE (ar v0 r2.2) (ar v0 H) <|
 (FF cR [v1, x1, r2.1] r2.2).bind fun r3 =>
 some (r3.1, r3.2)) = some r) : FF fH [x0, x1] H = some r :=
 fo Tryz.func146 (by kernel_rfl) h
theorem tP (x0 x1 : Value) (H : AH) {r : Value × AH} (h : (
 ad [.n, .f 0] x0 fun v0 =>
 (ar v0 H).bind fun v1 =>
 (FF bF [(vi 3), (vi 0), (vi 0)] H).bind fun r2 =>
 bE (ar v0 r2.2) (ar v0 H) <|
 (FF fA [v1, x1, r2.1, (vw 1)] r2.2).bind fun r3 =>
 some (Value.tuple #[], r3.2)) = some r) : FF fG [x0, x1] H = some r :=
 fo Tryz.func147 (by kernel_rfl) h
theorem tQ (x0 x1 x2 : Value) (H : AH) {r : Value × AH} (h : (
 ad [.n, .f 0] x0 fun v0 =>
 (ar v0 H).bind fun v1 =>
 (FF bF [(vi 9), x2, (vi 0)] H).bind fun r2 =>
 bE (ar v0 r2.2) (ar v0 H) <|
 (FF cR [v1, x1, r2.1] r2.2).bind fun r3 =>
 some (r3.1, r3.2)) = some r) : FF iV [x0, x1, x2] H = some r :=
 fo Tryz.func148 (by kernel_rfl) h
theorem sH (x0 x1 x2 x3 : Value) (H : AH) {r : Value × AH} (h : (
 ad [.n, .f 0] x0 fun v0 =>
 (ar v0 H).bind fun v1 =>
 (FF bF [(vi 14), x2, (vi 0)] H).bind fun r2 =>
 bE (ar v0 r2.2) (ar v0 H) <|
 (FF bD [v1, x1, (vi 6), r2.1] r2.2).bind fun r3 =>
 (FF jV [x0, x2] r3.2).bind fun r4 =>
 (aj .other .lss r4.1 (vi 0)).bind fun v5 =>
 ax v5
 (ld [.n, .f 2] x0 r4.2 fun v6 =>
 zY 1 1 [(vi 0)] [(0, x2)] r4.2 fun v7 H8 =>
 (dN 1 8 v6 v7 H8).bind fun r9 =>
 ad [.n, .f 3] x0 fun v10 =>
 (ar v10 r9.2).bind fun v11 =>
 bE (ar v10 H8) (ar v10 r9.2) <|
 zY 1 1 [(vw 0)] [(0, x3)] r9.2 fun v12 H13 =>
 (dN 1 8 v11 v12 H13).bind fun r14 =>
 st 1 [.n, .f 2] x0 r9.1 r14.2 fun H15 =>
 st 1 [.n, .f 3] x0 r14.1 H15 fun H16 =>
 some (Value.tuple #[], H16))
 (ld [.n, .f 3] x0 r4.2 fun v17 =>
 st 1 [.i 1 r4.1] v17 x3 r4.2 fun H18 =>
 some (Value.tuple #[], H18))) = some r) : FF ij [x0, x1, x2, x3] H = some r :=
 fo Tryz.func149 (by kernel_rfl) h
theorem sI (x0 x1 x2 x3 x4 : Value) (H : AH) {r : Value × AH} (h : (
 ad [.n, .f 0] x0 fun v0 =>
 (ar v0 H).bind fun v1 =>
 (FF bF [(vi 9), x2, (vi 0)] H).bind fun r2 =>
 bE (ar v0 r2.2) (ar v0 H) <|
 (bz (some .u64) x4).bind fun v3 =>
 (aj .other .add v3 (vw 1)).bind fun v4 =>
 (FF eA [v1, x1, r2.1, x3, v4] r2.2).bind fun r5 =>
 some (r5.1, r5.2)) = some r) : FF ik [x0, x1, x2, x3, x4] H = some r :=
 fo Tryz.func150 (by kernel_rfl) h
theorem pG (x0 x1 : Value) (H : AH) {r : Value × AH} (h : (
 (aj .other .geq x1 (vi 0)).bind fun v0 =>
 (gV v0 true x1).bind fun v1 =>
 (gV v0 true x0).bind fun v2 =>
 fp v0 true  [.n, .f 10] v2 H fun v3 =>
 (wa (yv v0) true (iN v3 some) (some undef)).bind fun v4 =>
 (gB v0 true (aj .other .lss v1 v4)).bind fun v5 =>
 (aS v0 v5 (vb false)).bind fun v6 =>
 some (v6, H)) = some r) : FF dM [x0, x1] H = some r :=
 fo Tryz.func152 (by kernel_rfl) h
theorem sV (x0 x1 x2 x3 : Value) (H : AH) {r : Value × AH} (h : (
 (bN x3 [x2]).bind fun c => (FF c.1 c.2 H).bind fun r0 =>
 (ai r0.1 0).bind fun v1 =>
 (ai r0.1 1).bind fun v2 =>
 (gV v2 true x0).bind fun v3 =>
 zU v2 true  [.n, .f 0] v3 fun v4 =>
 (gB v2 true (ar v4 r0.2)).bind fun v5 =>
 (gV v2 true x1).bind fun v6 =>
 (gV v2 true x0).bind fun v7 =>
 (gE v2 true r0.2 (FF cS [v7, (vi 11), (vi 0)] r0.2)).bind fun r8 =>
 bE (ar v4 r8.2) (ar v4 r0.2) <|
 (gV v2 true x2).bind fun v9 =>
 (gV v2 true v1).bind fun v10 =>
 (gE v2 true r8.2 (FF dA [v5, v6, r8.1, v9, v10] r8.2)).bind fun r11 =>
 (aS v2 r11.1 (vb false)).bind fun v12 =>
 some (v12, r11.2)) = some r) : FF iq [x0, x1, x2, x3] H = some r :=
 fo Tryz.func153 (by kernel_rfl) h
theorem vA (x0 x1 x2 : Value) (H : AH) {r : Value × AH} (h : (
 aY [(vi 0), (vi 0), (vi 0)] H fun v0 H1 =>
 ld [.n, .f 1] x0 H1 fun v2 =>
 gk [(0, 1), (1, 1), (2, 1)] [(vi 0), (vi 0), (vi 0)] [(0, x1), (1, v2), (2, x2)] fun v3 =>
 (cW 3 v0 v3 H1).bind fun H4 =>
 (aA 3 v0 H4).bind fun v5 => some (v5, H4)) = some r) : FF cS [x0, x1, x2] H = some r :=
 fo Tryz.func156 (by kernel_rfl) h
theorem qB (x0 x1 x2 : Value) (H : AH) {r : Value × AH} (h : (
 aY [(vi 0), (vi 0), (vw 0)] H fun v0 H1 =>
 (FF dM [x0, x2] H1).bind fun r2 =>
 (pi .not r2.1).bind fun v3 =>
 ax v3
 (gk [(0, 1), (1, 1), (2, 1)] [(vi 0), (vi 0), (vw 0)] [] fun v4 =>
 (cW 3 v0 v4 r2.2).bind fun H5 =>
 (aA 3 v0 H5).bind fun v6 => some (v6, H5))
 (ld [.n, .f 0] x0 r2.2 fun v7 =>
 gk [(0, 1), (1, 1), (2, 1)] [(vi 0), (vi 0), (vi 0)] [(0, (vi 13)), (1, x2)] fun v8 =>
 (FF jT [v7, x1, v8] r2.2).bind fun r9 =>
 ld [.n, .f 10] x0 r9.2 fun v10 =>
 ldN 3 [.i 4 x2, .f 0] v10 r9.2 fun v11 =>
 (cW 3 v0 v11 r9.2).bind fun H12 =>
 (aA 3 v0 H12).bind fun v13 => some (v13, H12))) = some r) : FF gy [x0, x1, x2] H = some r :=
 fo Tryz.func178 (by kernel_rfl) h
theorem HN (x0 x1 : Value) (H : AH) {r : Value × AH} (h : (
 aY [(vi 0), (.slice none 0 0), (vi 0), (vw 0)] H fun v0 H1 =>
 ld [.n, .f 11] x0 H1 fun v2 =>
 ld [.n, .f 1] x0 H1 fun v3 =>
 (FF eW [v2, v3] H1).bind fun r4 =>
 st 1 [.n, .f 12] x0 r4.1 r4.2 fun H5 =>
 ld [.n, .f 12] x0 H5 fun v6 =>
 (FF eZ [v6] H5).bind fun r7 =>
 (aj .other .eql r7.1 (vi 2)).bind fun v8 =>
 ax v8
 ((FF bf [x0, (.func (.func cq) #[x0] #[])] r7.2).bind fun r9 =>
 (ai r9.1 0).bind fun v10 =>
 (ai r9.1 1).bind fun v11 =>
 (cW 4 v0 v10 r9.2).bind fun H12 =>
 (aA 4 v0 H12).bind fun v13 => some (Value.tuple #[v13, v11], H12))
 ((FF bf [x0, (.func (.func jm) #[x0] #[])] r7.2).bind fun r14 =>
 (ai r14.1 0).bind fun v15 =>
 (ai r14.1 1).bind fun v16 =>
 (cW 4 v0 v15 r14.2).bind fun H17 =>
 (aA 4 v0 H17).bind fun v18 => some (Value.tuple #[v18, v16], H17))) = some r) : FF bC [x0, x1] H = some r :=
 fo Tryz.func179 (by kernel_rfl) h
noncomputable def Co (p : List Nat) : Code := Code.sub (bJ Tryz.f180) p
noncomputable def qa : KK := ei PP (Tryz.f180).results.toList
noncomputable def LM : KK := CQ (Co [1, 1]) qa bx qa
noncomputable def ri (x0 x1 x4 x5 x6 : Value) (H : AH) : OV := LM (ls [x0, x1, u, u, x4, x5, x6] 30) H
noncomputable def Cp : KK := CQ (Co [1, 1, 1]) qa bx qa
noncomputable def Xj : KK := dv 137438953422 Cp
noncomputable def rj (x0 x4 x5 : Value) (H : AH) : OV := Cp (ls [x0, u, u, u, x4, x5] 31) H
noncomputable def Xl : KX := BX 0 Xj bx
theorem rA : au 137438953423 qa := rf
theorem OL : au 137438953356 LM := rc rA aC rA
theorem AF : au 137438953422 Cp := rc rA aC rA
theorem OM : ∀ i, au 137438953422 (Xl i) := rb (cd AF) aC
theorem uY (x0 x4 x5 : Value) (H : AH) : rj x0 x4 x5 H =
 (FF bf [x0, (.func (.func dc) #[x0] #[])] H).bind fun r2 =>
 (ai r2.1 0).bind fun v3 =>
 (ai r2.1 1).bind fun v4 =>
 (cW 4 x4 v3 r2.2).bind fun H5 =>
 (aA 4 x4 H5).bind fun v6 => some (Value.tuple #[v6, v4], H5) :=
 (by kernel_rfl)
theorem uX (x0 x1 x4 x5 x6 : Value) (H : AH) : ri x0 x1 x4 x5 x6 H =
 ld [.n, .f 10] x0 H fun v8 =>
 ax v8
 ((FF bf [x0, (.func (.func dd) #[x0] #[])] H).bind fun r9 =>
 (ai r9.1 0).bind fun v10 =>
 (ai r9.1 1).bind fun v11 =>
 (cW 4 x4 v10 r9.2).bind fun H12 =>
 (aA 4 x4 H12).bind fun v13 => some (Value.tuple #[v13, v11], H12))
 (ax x6
 ((FF jo [x0, x1, (vi 5)] H).bind fun r14 =>
 (FF bf [x0, (.func (.func dd) #[x0] #[])] r14.2).bind fun r15 =>
 (ai r15.1 0).bind fun v16 =>
 (ai r15.1 1).bind fun v17 =>
 (cW 4 x4 v16 r15.2).bind fun H18 =>
 (aA 4 x4 H18).bind fun v19 => some (Value.tuple #[v19, v17], H18))
 (rj x0 x4 x5 H)) :=
 (pt rfl 0 AF (bt rfl (Co [1, 1, 0, 4]) 0 OM (by kernel_rfl)))
noncomputable def N7 (x0 x1 : Value) (H : AH) : OV := aW PP GG FF (Co []) (ls [x0, x1] 35) H qa bx qa
theorem BO (x0 x1 : Value) (H : AH) {r : Value × AH} (h : (
 aY [(vi 0), (.slice none 0 0), (vi 0), (vw 0)] H fun v20 H21 =>
 (FF sj [x0] H21).bind fun r22 =>
 ri x0 x1 v20 (vb false) r22.1 r22.2) = some r) : FF dc [x0, x1] H = some r :=
 fo (t := N7 x0 x1 H) Tryz.func180 (by kernel_rfl) (Eq.trans (pt rfl 1 OL (by kernel_rfl)) h)
noncomputable def nu (p : List Nat) : Code := Code.sub (bJ Tryz.f181) p
noncomputable def mg : KK := ei PP (Tryz.f181).results.toList
noncomputable def LO : KK := CQ (nu [1, 1]) mg bx mg
noncomputable def VI (x0 x2 x4 x10 x11 : Value) (H : AH) : OV := LO (ls [x0, u, x2, u, x4, u, u, u, u, u, x10, x11] 46) H
noncomputable def Cq : KK := CQ (nu [1, 1, 1]) mg bx mg
noncomputable def Xm : KK := dv 288230376151710698 Cq
noncomputable def VJ (x0 x2 x4 x10 : Value) (H : AH) : OV := Cq (ls [x0, u, x2, u, x4, u, u, u, u, u, x10] 47) H
noncomputable def Cs : KX := BX 0 Xm bx
noncomputable def Ct : KX := py 288230376151710698 Cs
noncomputable def Cr : KK := tf (nu [1, 1, 0, 4, 5]) Ct mg
noncomputable def LN : KK := dv 288230376151708650 Cr
noncomputable def zd (x0 x2 x4 x10 x11 : Value) (H : AH) : OV := Cr (ls [x0, u, x2, u, x4, u, u, u, u, u, x10, x11] 46) H
noncomputable def LP : KK := CQ (nu [1, 1, 0, 4, 5, 1]) LN Ct mg
noncomputable def VK (x0 x2 x4 x10 x11 : Value) (H : AH) : OV := LP (ls [x0, u, x2, u, x4, u, u, u, u, u, x10, x11] 46) H
noncomputable def Xn : KX := BX 1 LN Ct
noncomputable def Gy (x0 x2 x4 x10 : Value) (H : AH) : OV := Cs 0 (ls [x0, u, x2, u, x4, u, u, u, u, u, x10] 47) H
theorem lA : au 288230376151711743 mg := rf
theorem ON : au 288230376151708650 LO := rc lA aC lA
theorem AG : au 288230376151710698 Cq := rc lA aC lA
theorem o5 : ∀ i, au 288230376151710698 (Cs i) := rb (cd AG) aC
theorem o4 : au 288230376151708650 Cr := rl (cx o5) lA
theorem OO : au 288230376151708650 LP := rc (cd o4) (cx o5) lA
theorem OP : ∀ i, au 288230376151708650 (Xn i) := rb (cd o4) (cx o5)
theorem Qr (x0 x2 x4 x10 : Value) (H : AH) : VJ x0 x2 x4 x10 H =
 (aj .other .sub x2 x10).bind fun v2 =>
 (FF FV [x0, v2, x2, x10, x4] H).bind fun r3 =>
 some (Value.tuple #[], r3.2) :=
 (by kernel_rfl)
theorem Qt (x0 x2 x4 x10 x11 : Value) (H : AH) : VK x0 x2 x4 x10 x11 H =
 (aj .other .gtr x10 x11).bind fun v8 =>
 ax v8
 ((aj .other .sub x2 x10).bind fun v9 =>
 (FF FV [x0, v9, x2, x11, x4] H).bind fun r10 =>
 (aj .other .sub x10 x11).bind fun v11 =>
 zd x0 x2 x4 v11 x11 r10.2)
 ((aj .other .sub x2 x10).bind fun v12 =>
 (aj .other .add x2 x11).bind fun v13 =>
 (aj .other .sub v13 x10).bind fun v14 =>
 (FF FV [x0, v12, v14, x10, x4] H).bind fun r15 =>
 (aj .other .sub x11 x10).bind fun v16 =>
 zd x0 x2 x4 x10 v16 r15.2) :=
 (bt rfl (nu [1, 1, 0, 4, 5, 1, 4]) 1 OP (by kernel_rfl))
theorem Gz (x0 x2 x4 x10 : Value) (H : AH) : Gy x0 x2 x4 x10 H = VJ x0 x2 x4 x10 H :=
 (by kernel_rfl)
theorem Qs (x0 x2 x4 x10 x11 : Value) (H : AH) : zd x0 x2 x4 x10 x11 H =
 (aj .other .neq x10 x11).bind fun v17 =>
 ax v17
 (VK x0 x2 x4 x10 x11 H)
 (Gy x0 x2 x4 x10 H) :=
 th rfl o4 (pt rfl 0 OO (by kernel_rfl))
theorem Qq (x0 x2 x4 x10 x11 : Value) (H : AH) : VI x0 x2 x4 x10 x11 H =
 zd x0 x2 x4 x10 x11 H :=
 (pt rfl 0 AG (bt rfl (nu [1, 1, 0, 4]) 0 o5 (li rfl (nu [1, 1, 0, 4, 5]) o4 (by kernel_rfl))))
noncomputable def sRo (x0 x1 x2 x3 x4 : Value) (H : AH) : OV := aW PP GG FF (nu []) (ls [x0, x1, x2, x3, x4] 53) H mg bx mg
theorem aaF (x0 x1 x2 x3 x4 : Value) (H : AH) {r : Value × AH} (h : (
 (aj .other .sub x2 x1).bind fun v18 =>
 (aj .other .sub x3 x2).bind fun v19 =>
 VI x0 x2 x4 v18 v19 H) = some r) : FF US [x0, x1, x2, x3, x4] H = some r :=
 fo (t := sRo x0 x1 x2 x3 x4 H) Tryz.func181 (by kernel_rfl) (Eq.trans (pt rfl 1 ON (by kernel_rfl)) h)
noncomputable def kT (p : List Nat) : Code := Code.sub (bJ Tryz.f182) p
noncomputable def jI : KK := ei PP (Tryz.f182).results.toList
noncomputable def LS : KK := CQ (kT [1]) jI bx jI
noncomputable def mU (x0 x1 x4 : Value) (H : AH) : OV := LS (ls [x0, x1, u, u, x4] 20) H
noncomputable def Cu : KK := CQ (kT [1, 1]) jI bx jI
noncomputable def LQ : KK := dv 33554415 Cu
noncomputable def mV (x4 : Value) (H : AH) : OV := Cu (ls [u, u, u, u, x4] 20) H
noncomputable def LT : KK := CQ (kT [1, 0, 1]) LQ bx jI
noncomputable def mW (x0 x1 x4 x5 : Value) (H : AH) : OV := LT (ls [x0, x1, u, u, x4, x5] 19) H
noncomputable def Cx : KX := BX 0 LQ bx
noncomputable def vR : KX := py 33554415 Cx
noncomputable def Cv : KK := tf (kT [1, 0, 1, 4, 5]) vR jI
noncomputable def LR : KK := dv 33554380 Cv
noncomputable def fM (x0 x1 x4 x5 : Value) (H : AH) : OV := Cv (ls [x0, x1, u, u, x4, x5] 19) H
noncomputable def LU : KK := CQ (kT [1, 0, 1, 4, 5, 1]) LR vR jI
noncomputable def mX (x0 x1 x4 x5 : Value) (H : AH) : OV := LU (ls [x0, x1, u, u, x4, x5] 19) H
noncomputable def Cw : KK := CQ (kT [1, 0, 1, 4, 5, 1, 1]) LR vR jI
noncomputable def Xo : KK := dv 33554380 Cw
noncomputable def mY (x0 x1 x4 x5 : Value) (H : AH) : OV := Cw (ls [x0, x1, u, u, x4, x5] 19) H
noncomputable def Xp : KX := BX 1 Xo vR
noncomputable def kI (x4 : Value) (H : AH) : OV := Cx 0 (ls [u, u, u, u, x4] 20) H
theorem iK : au 33554415 jI := rf
theorem OQ : au 33554412 LS := rc iK aC iK
theorem tC : au 33554415 Cu := rc iK aC iK
theorem OR : au 33554380 LT := rc (cd tC) aC iK
theorem lB : ∀ i, au 33554415 (Cx i) := rb (cd tC) aC
theorem o6 : au 33554380 Cv := rl (cx lB) iK
theorem OS : au 33554380 LU := rc (cd o6) (cx lB) iK
theorem AI : au 33554380 Cw := rc (cd o6) (cx lB) iK
theorem OT : ∀ i, au 33554380 (Xp i) := rb (cd AI) (cx lB)
theorem qG (x4 : Value) (H : AH) : mV x4 H =
 some ((vi (-1)), H) :=
 (by kernel_rfl)
theorem qJ (x0 x1 x4 x5 : Value) (H : AH) : mY x0 x1 x4 x5 H =
 (aj .other .add x5 (vi 1)).bind fun v7 =>
 fM x0 x1 x4 v7 H :=
 (by kernel_rfl)
theorem qI (x0 x1 x4 x5 : Value) (H : AH) : mX x0 x1 x4 x5 H =
 ld [.n, .f 2] x0 H fun v9 =>
 ld [.i 1 x5] v9 H fun v10 =>
 (aj .other .eql v10 x1).bind fun v11 =>
 ax v11
 (some (x5, H))
 (mY x0 x1 x4 x5 H) :=
 (pt rfl 0 AI (bt rfl (kT [1, 0, 1, 4, 5, 1, 0, 4]) 1 OT (by kernel_rfl)))
theorem oq (x4 : Value) (H : AH) : kI x4 H = mV x4 H :=
 (by kernel_rfl)
theorem j2 (x0 x1 x4 x5 : Value) (H : AH) : fM x0 x1 x4 x5 H =
 ld [.n, .f 2] x0 H fun v12 =>
 iN v12 fun v13 =>
 (aj .other .lss x5 v13).bind fun v14 =>
 ax v14
 (mX x0 x1 x4 x5 H)
 (kI x4 H) :=
 th rfl o6 (pt rfl 0 OS (by kernel_rfl))
theorem qH (x0 x1 x4 x5 : Value) (H : AH) : mW x0 x1 x4 x5 H =
 fM x0 x1 x4 x5 H :=
 (bt rfl (kT [1, 0, 1, 4]) 0 lB (li rfl (kT [1, 0, 1, 4, 5]) o6 (by kernel_rfl)))
theorem qF (x0 x1 x4 : Value) (H : AH) : mU x0 x1 x4 H =
 mW x0 x1 x4 (vi 0) H :=
 (pt rfl 0 tC (pt rfl 0 OR (by kernel_rfl)))
noncomputable def Dp (x0 x1 : Value) (H : AH) : OV := aW PP GG FF (kT []) (ls [x0, x1] 23) H jI bx jI
theorem vn (x0 x1 : Value) (H : AH) {r : Value × AH} (h : (
 mU x0 x1 (vi 0) H) = some r) : FF jV [x0, x1] H = some r :=
 fo (t := Dp x0 x1 H) Tryz.func182 (by kernel_rfl) (Eq.trans (pt rfl 0 OQ (by kernel_rfl)) h)
theorem sU (x0 x1 : Value) (H : AH) {r : Value × AH} (h : (
 ad [.n, .f 0] x0 fun v0 =>
 (ar v0 H).bind fun v1 =>
 (FF cS [x0, (vi 11), (vi 0)] H).bind fun r2 =>
 bE (ar v0 r2.2) (ar v0 H) <|
 (FF cz [v1, x1, r2.1] r2.2).bind fun r3 =>
 some (r3.1, r3.2)) = some r) : FF eW [x0, x1] H = some r :=
 fo Tryz.func213 (by kernel_rfl) h
noncomputable def Cz (p : List Nat) : Code := Code.sub (bJ Tryz.f214) p
noncomputable def qc : KK := ei PP (Tryz.f214).results.toList
noncomputable def LV : KK := CQ (Cz [1, 1]) qc bx qc
noncomputable def wR (x0 x4 x5 x6 : Value) (H : AH) : OV := LV (ls [x0, u, u, u, x4, x5, x6] 45) H
noncomputable def CA : KK := CQ (Cz [1, 1, 1]) qc bx qc
noncomputable def Xr : KK := dv 4503599627370446 CA
noncomputable def wT (x0 x4 x5 : Value) (H : AH) : OV := CA (ls [x0, u, u, u, x4, x5] 46) H
noncomputable def Xs : KX := BX 0 Xr bx
theorem rC : au 4503599627370447 qc := rf
theorem OW : au 4503599627370382 LV := rc rC aC rC
theorem AJ : au 4503599627370446 CA := rc rC aC rC
theorem OX : ∀ i, au 4503599627370446 (Xs i) := rb (cd AJ) aC
theorem zN (x0 x4 x5 : Value) (H : AH) : wT x0 x4 x5 H =
 (FF bf [x0, (.func (.func hZ) #[x0] #[])] H).bind fun r2 =>
 (ai r2.1 0).bind fun v3 =>
 (ai r2.1 1).bind fun v4 =>
 (cW 4 x4 v3 r2.2).bind fun H5 =>
 (aA 4 x4 H5).bind fun v6 => some (Value.tuple #[v6, v4], H5) :=
 (by kernel_rfl)
theorem zM (x0 x4 x5 x6 : Value) (H : AH) : wR x0 x4 x5 x6 H =
 ld [.n, .f 11] x0 H fun v8 =>
 ld [.n, .f 12] x0 H fun v9 =>
 (FF eO [v8, v9, x6] H).bind fun r10 =>
 ax r10.1
 ((FF bf [x0, (.func (.func lK) #[x0] #[])] r10.2).bind fun r11 =>
 (ai r11.1 0).bind fun v12 =>
 (ai r11.1 1).bind fun v13 =>
 (cW 4 x4 v12 r11.2).bind fun H14 =>
 (aA 4 x4 H14).bind fun v15 => some (Value.tuple #[v15, v13], H14))
 (ld [.n, .f 12] x0 r10.2 fun v16 =>
 (FF eZ [v16] r10.2).bind fun r17 =>
 (aj .other .eql r17.1 (vi 1)).bind fun v18 =>
 ax v18
 ((FF bf [x0, (.func (.func ia) #[x0] #[])] r17.2).bind fun r19 =>
 (ai r19.1 0).bind fun v20 =>
 (ai r19.1 1).bind fun v21 =>
 (cW 4 x4 v20 r19.2).bind fun H22 =>
 (aA 4 x4 H22).bind fun v23 => some (Value.tuple #[v23, v21], H22))
 (wT x0 x4 x5 r17.2)) :=
 (pt rfl 0 AJ (bt rfl (Cz [1, 1, 0, 4]) 0 OX (by kernel_rfl)))
noncomputable def W3 (x0 x1 : Value) (H : AH) : OV := aW PP GG FF (Cz []) (ls [x0, x1] 50) H qc bx qc
theorem HE (x0 x1 : Value) (H : AH) {r : Value × AH} (h : (
 aY [(vi 0), (.slice none 0 0), (vi 0), (vw 0)] H fun v24 H25 =>
 ld [.n, .f 11] x0 H25 fun v26 =>
 ld [.n, .f 1] x0 H25 fun v27 =>
 (FF eR [v26, v27] H25).bind fun r28 =>
 wR x0 v24 (vb false) r28.1 r28.2) = some r) : FF jm [x0, x1] H = some r :=
 fo (t := W3 x0 x1 H) Tryz.func214 (by kernel_rfl) (Eq.trans (pt rfl 1 OW (by kernel_rfl)) h)
theorem BP (x0 x1 : Value) (H : AH) {r : Value × AH} (h : (
 aY [(vi 0), (.slice none 0 0), (vi 0), (vw 0)] H fun v0 H1 =>
 ld [.n, .f 0] x0 H1 fun v2 =>
 ld [.n, .f 2] v2 H1 fun v3 =>
 ld [.n, .f 1] x0 H1 fun v4 =>
 ld [.n, .f 6] x0 H1 fun v5 =>
 (FF eC [v3, v4, v5] H1).bind fun r6 =>
 ld [.n, .f 10] x0 r6.2 fun v7 =>
 (pi .not v7).bind fun v8 =>
 ax v8
 ((FF jl [x0, (vi 5)] r6.2).bind fun r9 =>
 (ai r9.1 0).bind fun v10 =>
 (ai r9.1 1).bind fun v11 =>
 (cW 4 v0 v10 r9.2).bind fun H12 =>
 (aA 4 v0 H12).bind fun v13 => some (Value.tuple #[v13, v11], H12))
 ((FF bf [x0, (.func (.func eM) #[x0] #[])] r6.2).bind fun r14 =>
 (ai r14.1 0).bind fun v15 =>
 (ai r14.1 1).bind fun v16 =>
 (cW 4 v0 v15 r14.2).bind fun H17 =>
 (aA 4 v0 H17).bind fun v18 => some (Value.tuple #[v18, v16], H17))) = some r) : FF dd [x0, x1] H = some r :=
 fo Tryz.func215 (by kernel_rfl) h
noncomputable def nz (p : List Nat) : Code := Code.sub (bJ Tryz.f216) p
noncomputable def mh : KK := ei PP (Tryz.f216).results.toList
noncomputable def LX : KK := CQ (nz [1]) mh bx mh
noncomputable def VQ (x0 x1 x2 x3 x10 : Value) (H : AH) : OV := LX (ls [x0, x1, x2, x3, u, u, u, u, u, u, x10] 27) H
noncomputable def CD : KX := BX 0 mh bx
noncomputable def vS : KX := py 274877906943 CD
noncomputable def CB : KK := tf (nz [1, 4, 5]) vS mh
noncomputable def LW : KK := dv 274877905904 CB
noncomputable def DX (x0 x1 x2 x3 x10 : Value) (H : AH) : OV := CB (ls [x0, x1, x2, x3, u, u, u, u, u, u, x10] 27) H
noncomputable def LY : KK := CQ (nz [1, 4, 5, 1]) LW vS mh
noncomputable def VR (x0 x1 x2 x3 x10 : Value) (H : AH) : OV := LY (ls [x0, x1, x2, x3, u, u, u, u, u, u, x10] 27) H
noncomputable def CC : KK := CQ (nz [1, 4, 5, 1, 1]) LW vS mh
noncomputable def Xt : KK := dv 274877905904 CC
noncomputable def VS (x0 x1 x2 x3 x10 : Value) (H : AH) : OV := CC (ls [x0, x1, x2, x3, u, u, u, u, u, u, x10] 27) H
noncomputable def Xu : KX := BX 1 Xt vS
noncomputable def GC (H : AH) : OV := CD 0 (ls [] 38) H
theorem lC : au 274877906943 mh := rf
theorem OY : au 274877905904 LX := rc lC aC lC
theorem lD : ∀ i, au 274877906943 (CD i) := rb lC aC
theorem o7 : au 274877905904 CB := rl (cx lD) lC
theorem OZ : au 274877905904 LY := rc (cd o7) (cx lD) lC
theorem AK : au 274877905904 CC := rc (cd o7) (cx lD) lC
theorem O0 : ∀ i, au 274877905904 (Xu i) := rb (cd AK) (cx lD)
theorem QE (x0 x1 x2 x3 x10 : Value) (H : AH) : VS x0 x1 x2 x3 x10 H =
 (aj .other .add x10 (vi 1)).bind fun v5 =>
 DX x0 x1 x2 x3 v5 H :=
 (by kernel_rfl)
theorem QD (x0 x1 x2 x3 x10 : Value) (H : AH) : VR x0 x1 x2 x3 x10 H =
 (aj .other .add x1 x10).bind fun v7 =>
 (aj .other .add x2 x10).bind fun v8 =>
 (aj .other .add x2 x10).bind fun v9 =>
 ldN 7 [.i 7 v9] x0 H fun v10 =>
 (aj .other .add x1 x10).bind fun v11 =>
 ldN 7 [.i 7 v11] x0 H fun v12 =>
 st 7 [.i 7 v7] x0 v10 H fun H13 =>
 st 7 [.i 7 v8] x0 v12 H13 fun H14 =>
 VS x0 x1 x2 x3 x10 H14 :=
 (pt rfl 0 AK (bt rfl (nz [1, 4, 5, 1, 0, 4]) 1 O0 (by kernel_rfl)))
theorem GD (H : AH) : GC H = some (Value.tuple #[], H) :=
 (by kernel_rfl)
theorem Br (x0 x1 x2 x3 x10 : Value) (H : AH) : DX x0 x1 x2 x3 x10 H =
 (aj .other .lss x10 x3).bind fun v15 =>
 ax v15
 (VR x0 x1 x2 x3 x10 H)
 (GC H) :=
 th rfl o7 (pt rfl 0 OZ (by kernel_rfl))
theorem QC (x0 x1 x2 x3 x10 : Value) (H : AH) : VQ x0 x1 x2 x3 x10 H =
 DX x0 x1 x2 x3 x10 H :=
 (bt rfl (nz [1, 4]) 0 lD (li rfl (nz [1, 4, 5]) o7 (by kernel_rfl)))
noncomputable def sSw (x0 x1 x2 x3 x4 : Value) (H : AH) : OV := aW PP GG FF (nz []) (ls [x0, x1, x2, x3, x4] 33) H mh bx mh
theorem aaI (x0 x1 x2 x3 x4 : Value) (H : AH) {r : Value × AH} (h : (
 VQ x0 x1 x2 x3 (vi 0) H) = some r) : FF FV [x0, x1, x2, x3, x4] H = some r :=
 fo (t := sSw x0 x1 x2 x3 x4 H) Tryz.func216 (by kernel_rfl) (Eq.trans (pt rfl 0 OY (by kernel_rfl)) h)
theorem sS (x0 x1 : Value) (H : AH) {r : Value × AH} (h : (
 ad [.n, .f 0] x0 fun v0 =>
 (ar v0 H).bind fun v1 =>
 (FF cS [x0, (vi 12), (vi 0)] H).bind fun r2 =>
 bE (ar v0 r2.2) (ar v0 H) <|
 (FF cz [v1, x1, r2.1] r2.2).bind fun r3 =>
 some (r3.1, r3.2)) = some r) : FF eR [x0, x1] H = some r :=
 fo Tryz.func253 (by kernel_rfl) h
theorem sR (x0 x1 x2 : Value) (H : AH) {r : Value × AH} (h : (
 (FF dg [x1] H).bind fun r0 =>
 (aj .other .geq r0.1 x2).bind fun v1 =>
 (gV v1 true r0.1).bind fun v2 =>
 (gV v1 true x2).bind fun v3 =>
 (gB v1 true (aj .other .sub v2 v3)).bind fun v4 =>
 (gV v1 true x0).bind fun v5 =>
 fp v1 true  [.n, .f 2] v5 r0.2 fun v6 =>
 (wa (yv v1) true (iN v6 some) (some undef)).bind fun v7 =>
 (gB v1 true (bz (some .u64) v7)).bind fun v8 =>
 (gB v1 true (aj .other .geq v4 v8)).bind fun v9 =>
 (aS v1 v9 (vb false)).bind fun v10 =>
 some (v10, r0.2)) = some r) : FF eO [x0, x1, x2] H = some r :=
 fo Tryz.func254 (by kernel_rfl) h
theorem N8 (x0 x1 : Value) (H : AH) {r : Value × AH} (h : (
 aY [(vi 0), (.slice none 0 0), (vi 0), (vw 0)] H fun v0 H1 =>
 ld [.n, .f 0] x0 H1 fun v2 =>
 ld [.n, .f 1] x0 H1 fun v3 =>
 (FF d9 [v2, v3] H1).bind fun r4 =>
 st 1 [.n, .f 13] x0 r4.1 r4.2 fun H5 =>
 ld [.n, .f 13] x0 H5 fun v6 =>
 (aj .other .rem v6 (vw 2)).bind fun v7 =>
 (aj .other .eql v7 (vw 1)).bind fun v8 =>
 ax v8
 ((FF bf [x0, (.func (.func bC) #[x0] #[])] H5).bind fun r9 =>
 (ai r9.1 0).bind fun v10 =>
 (ai r9.1 1).bind fun v11 =>
 (cW 4 v0 v10 r9.2).bind fun H12 =>
 (aA 4 v0 H12).bind fun v13 => some (Value.tuple #[v13, v11], H12))
 ((FF bf [x0, (.func (.func dy) #[x0] #[])] H5).bind fun r14 =>
 (ai r14.1 0).bind fun v15 =>
 (ai r14.1 1).bind fun v16 =>
 (cW 4 v0 v15 r14.2).bind fun H17 =>
 (aA 4 v0 H17).bind fun v18 => some (Value.tuple #[v18, v16], H17))) = some r) : FF lK [x0, x1] H = some r :=
 fo Tryz.func255 (by kernel_rfl) h
theorem EF (x0 x1 : Value) (H : AH) {r : Value × AH} (h : (
 aY [(vi 0), (.slice none 0 0), (vi 0), (vw 0)] H fun v0 H1 =>
 ld [.n, .f 11] x0 H1 fun v2 =>
 ld [.n, .f 1] x0 H1 fun v3 =>
 ld [.n, .f 12] x0 H1 fun v4 =>
 (FF ec [v2, v3, v4] H1).bind fun r5 =>
 (pi .not r5.1).bind fun v6 =>
 ax v6
 ((FF bf [x0, (.func (.func bC) #[x0] #[])] r5.2).bind fun r7 =>
 (ai r7.1 0).bind fun v8 =>
 (ai r7.1 1).bind fun v9 =>
 (cW 4 v0 v8 r7.2).bind fun H10 =>
 (aA 4 v0 H10).bind fun v11 => some (Value.tuple #[v11, v9], H10))
 ((FF jo [x0, x1, (vi 0)] r5.2).bind fun r12 =>
 (FF bf [x0, (.func (.func lJ) #[x0] #[])] r12.2).bind fun r13 =>
 (ai r13.1 0).bind fun v14 =>
 (ai r13.1 1).bind fun v15 =>
 (cW 4 v0 v14 r13.2).bind fun H16 =>
 (aA 4 v0 H16).bind fun v17 => some (Value.tuple #[v17, v15], H16))) = some r) : FF ia [x0, x1] H = some r :=
 fo Tryz.func256 (by kernel_rfl) h
theorem EE (x0 x1 : Value) (H : AH) {r : Value × AH} (h : (
 aY [(vi 0), (.slice none 0 0), (vi 0), (vw 0)] H fun v0 H1 =>
 ld [.n, .f 0] x0 H1 fun v2 =>
 ld [.n, .f 1] v2 H1 fun v3 =>
 ld [.n, .f 1] x0 H1 fun v4 =>
 (FF fh [v3, v4] H1).bind fun r5 =>
 (FF bf [x0, (.func (.func jr) #[x0] #[])] r5.2).bind fun r6 =>
 (ai r6.1 0).bind fun v7 =>
 (ai r6.1 1).bind fun v8 =>
 (cW 4 v0 v7 r6.2).bind fun H9 =>
 (aA 4 v0 H9).bind fun v10 => some (Value.tuple #[v10, v8], H9)) = some r) : FF hZ [x0, x1] H = some r :=
 fo Tryz.func257 (by kernel_rfl) h
theorem qC (x0 x1 : Value) (H : AH) {r : Value × AH} (h : (
 ld [.n, .f 0] x0 H fun v0 =>
 gk [(0, 1), (1, 1), (2, 1)] [(vi 0), (vi 0), (vi 0)] [(0, (vi 2))] fun v1 =>
 (FF cz [v0, x1, v1] H).bind fun r2 =>
 some (r2.1, r2.2)) = some r) : FF d9 [x0, x1] H = some r :=
 fo Tryz.func259 (by kernel_rfl) h
theorem uZ (x0 x1 : Value) (H : AH) {r : Value × AH} (h : (
 aY [(vi 0), (.slice none 0 0), (vi 0), (vw 0)] H fun v0 H1 =>
 ld [.n, .f 11] x0 H1 fun v2 =>
 ld [.n, .f 1] x0 H1 fun v3 =>
 (FF eW [v2, v3] H1).bind fun r4 =>
 st 1 [.n, .f 12] x0 r4.1 r4.2 fun H5 =>
 ld [.n, .f 12] x0 H5 fun v6 =>
 (FF eZ [v6] H5).bind fun r7 =>
 (aj .other .eql r7.1 (vi 2)).bind fun v8 =>
 ax v8
 ((FF bf [x0, (.func (.func cq) #[x0] #[])] r7.2).bind fun r9 =>
 (ai r9.1 0).bind fun v10 =>
 (ai r9.1 1).bind fun v11 =>
 (cW 4 v0 v10 r9.2).bind fun H12 =>
 (aA 4 v0 H12).bind fun v13 => some (Value.tuple #[v13, v11], H12))
 ((FF bf [x0, (.func (.func dx) #[x0] #[])] r7.2).bind fun r14 =>
 (ai r14.1 0).bind fun v15 =>
 (ai r14.1 1).bind fun v16 =>
 (cW 4 v0 v15 r14.2).bind fun H17 =>
 (aA 4 v0 H17).bind fun v18 => some (Value.tuple #[v18, v16], H17))) = some r) : FF dy [x0, x1] H = some r :=
 fo Tryz.func276 (by kernel_rfl) h
theorem qR (x0 x1 x2 : Value) (H : AH) {r : Value × AH} (h : (
 (FF iq [x0, x1, x2, (.func (.func kC) #[] #[])] H).bind fun r0 =>
 some (r0.1, r0.2)) = some r) : FF ec [x0, x1, x2] H = some r :=
 fo Tryz.func277 (by kernel_rfl) h
theorem N6 (x0 x1 : Value) (H : AH) {r : Value × AH} (h : (
 aY [(vi 0), (.slice none 0 0), (vi 0), (vw 0)] H fun v0 H1 =>
 (FF sk [x0] H1).bind fun r2 =>
 (FF bf [x0, (.func (.func jq) #[x0] #[])] r2.2).bind fun r3 =>
 (ai r3.1 0).bind fun v4 =>
 (ai r3.1 1).bind fun v5 =>
 (cW 4 v0 v4 r3.2).bind fun H6 =>
 (aA 4 v0 H6).bind fun v7 => some (Value.tuple #[v7, v5], H6)) = some r) : FF lJ [x0, x1] H = some r :=
 fo Tryz.func278 (by kernel_rfl) h
theorem nI (x0 x1 : Value) (H : AH) {r : Value × AH} (h : (
 ad [.n, .f 0] x0 fun v0 =>
 (ar v0 H).bind fun v1 =>
 (FF bd [(vi 3), (vi 0)] H).bind fun r2 =>
 bE (ar v0 r2.2) (ar v0 H) <|
 (FF dY [v1, x1, r2.1, (vw 4294967296)] r2.2).bind fun r3 =>
 some (Value.tuple #[], r3.2)) = some r) : FF fh [x0, x1] H = some r :=
 fo Tryz.func279 (by kernel_rfl) h
theorem HM (x0 x1 : Value) (H : AH) {r : Value × AH} (h : (
 aY [(vi 0), (.slice none 0 0), (vi 0), (vw 0)] H fun v0 H1 =>
 ld [.n, .f 11] x0 H1 fun v2 =>
 ld [.n, .f 1] x0 H1 fun v3 =>
 ld [.n, .f 12] x0 H1 fun v4 =>
 (FF ec [v2, v3, v4] H1).bind fun r5 =>
 (pi .not r5.1).bind fun v6 =>
 ax v6
 ((FF bf [x0, (.func (.func ji) #[x0] #[])] r5.2).bind fun r7 =>
 (ai r7.1 0).bind fun v8 =>
 (ai r7.1 1).bind fun v9 =>
 (cW 4 v0 v8 r7.2).bind fun H10 =>
 (aA 4 v0 H10).bind fun v11 => some (Value.tuple #[v11, v9], H10))
 ((FF jo [x0, x1, (vi 0)] r5.2).bind fun r12 =>
 (FF bf [x0, (.func (.func jk) #[x0] #[])] r12.2).bind fun r13 =>
 (ai r13.1 0).bind fun v14 =>
 (ai r13.1 1).bind fun v15 =>
 (cW 4 v0 v14 r13.2).bind fun H16 =>
 (aA 4 v0 H16).bind fun v17 => some (Value.tuple #[v17, v15], H16))) = some r) : FF jr [x0, x1] H = some r :=
 fo Tryz.func280 (by kernel_rfl) h
theorem uW (x0 x1 : Value) (H : AH) {r : Value × AH} (h : (
 aY [(vi 0), (.slice none 0 0), (vi 0), (vw 0)] H fun v0 H1 =>
 ad [.n, .f 11] x0 fun v2 =>
 (ar v2 H1).bind fun v3 =>
 ad [.n, .f 12] x0 fun v4 =>
 (ar v4 H1).bind fun v5 =>
 ld [.n, .f 11] x0 H1 fun v6 =>
 ld [.n, .f 1] x0 H1 fun v7 =>
 (FF eR [v6, v7] H1).bind fun r8 =>
 bE (ar v2 r8.2) (ar v2 H1) <|
 bE (ar v4 r8.2) (ar v4 H1) <|
 (FF eO [v3, v5, r8.1] r8.2).bind fun r9 =>
 (pi .not r9.1).bind fun v10 =>
 ax v10
 ((FF bf [x0, (.func (.func bC) #[x0] #[])] r9.2).bind fun r11 =>
 (ai r11.1 0).bind fun v12 =>
 (ai r11.1 1).bind fun v13 =>
 (cW 4 v0 v12 r11.2).bind fun H14 =>
 (aA 4 v0 H14).bind fun v15 => some (Value.tuple #[v15, v13], H14))
 (st 1 [.n, .f 14] x0 x1 r9.2 fun H16 =>
 (FF bf [x0, (.func (.func dX) #[x0] #[])] H16).bind fun r17 =>
 (ai r17.1 0).bind fun v18 =>
 (ai r17.1 1).bind fun v19 =>
 (cW 4 v0 v18 r17.2).bind fun H20 =>
 (aA 4 v0 H20).bind fun v21 => some (Value.tuple #[v21, v19], H20))) = some r) : FF dx [x0, x1] H = some r :=
 fo Tryz.func287 (by kernel_rfl) h
theorem N5 (x0 : Value) (H : AH) {r : Value × AH} (h : (
 ad [.n, .f 11] x0 fun v0 =>
 (ar v0 H).bind fun v1 =>
 ad [.n, .f 1] x0 fun v2 =>
 (ar v2 H).bind fun v3 =>
 ld [.n, .f 12] x0 H fun v4 =>
 (FF dg [v4] H).bind fun r5 =>
 bE (ar v0 r5.2) (ar v0 H) <|
 bE (ar v2 r5.2) (ar v2 H) <|
 ad [.n, .f 2, .f 1] x0 fun v6 =>
 (ar v6 r5.2).bind fun v7 =>
 bE (ar v6 H) (ar v6 r5.2) <|
 ad [.n, .f 2, .f 2] x0 fun v8 =>
 (ar v8 r5.2).bind fun v9 =>
 bE (ar v8 H) (ar v8 r5.2) <|
 ad [.n, .f 2, .f 3] x0 fun v10 =>
 (ar v10 r5.2).bind fun v11 =>
 bE (ar v10 H) (ar v10 r5.2) <|
 gk [(0, 1), (1, 1), (2, 1)] [(vi 0), (vi 0), (vi 0)] [(0, v7), (1, v9), (2, v11)] fun v12 =>
 (FF i0 [v1, v3, r5.1, v12] r5.2).bind fun r13 =>
 some (Value.tuple #[], r13.2)) = some r) : FF sk [x0] H = some r :=
 fo Tryz.func289 (by kernel_rfl) h
theorem HL (x0 x1 : Value) (H : AH) {r : Value × AH} (h : (
 aY [(vi 0), (.slice none 0 0), (vi 0), (vw 0)] H fun v0 H1 =>
 ad [.n, .f 11] x0 fun v2 =>
 (ar v2 H1).bind fun v3 =>
 ad [.n, .f 1] x0 fun v4 =>
 (ar v4 H1).bind fun v5 =>
 ld [.n, .f 12] x0 H1 fun v6 =>
 (FF dg [v6] H1).bind fun r7 =>
 bE (ar v2 r7.2) (ar v2 H1) <|
 bE (ar v4 r7.2) (ar v4 H1) <|
 (FF eS [v3, v5, r7.1] r7.2).bind fun r8 =>
 (FF jl [x0, (vi 0)] r8.2).bind fun r9 =>
 (ai r9.1 0).bind fun v10 =>
 (ai r9.1 1).bind fun v11 =>
 (cW 4 v0 v10 r9.2).bind fun H12 =>
 (aA 4 v0 H12).bind fun v13 => some (Value.tuple #[v13, v11], H12)) = some r) : FF jq [x0, x1] H = some r :=
 fo Tryz.func290 (by kernel_rfl) h
theorem HB (x0 x1 : Value) (H : AH) {r : Value × AH} (h : (
 aY [(vi 0), (.slice none 0 0), (vi 0), (vw 0)] H fun v0 H1 =>
 ld [.n, .f 0] x0 H1 fun v2 =>
 ld [.n, .f 1] v2 H1 fun v3 =>
 ld [.n, .f 1] x0 H1 fun v4 =>
 (FF d8 [v3, v4] H1).bind fun r5 =>
 (FF bf [x0, (.func (.func bC) #[x0] #[])] r5.2).bind fun r6 =>
 (ai r6.1 0).bind fun v7 =>
 (ai r6.1 1).bind fun v8 =>
 (cW 4 v0 v7 r6.2).bind fun H9 =>
 (aA 4 v0 H9).bind fun v10 => some (Value.tuple #[v10, v8], H9)) = some r) : FF ji [x0, x1] H = some r :=
 fo Tryz.func291 (by kernel_rfl) h
theorem HC (x0 x1 : Value) (H : AH) {r : Value × AH} (h : (
 aY [(vi 0), (.slice none 0 0), (vi 0), (vw 0)] H fun v0 H1 =>
 (FF sk [x0] H1).bind fun r2 =>
 (FF bf [x0, (.func (.func ie) #[x0] #[])] r2.2).bind fun r3 =>
 (ai r3.1 0).bind fun v4 =>
 (ai r3.1 1).bind fun v5 =>
 (cW 4 v0 v4 r3.2).bind fun H6 =>
 (aA 4 v0 H6).bind fun v7 => some (Value.tuple #[v7, v5], H6)) = some r) : FF jk [x0, x1] H = some r :=
 fo Tryz.func292 (by kernel_rfl) h
theorem wW (x0 x1 : Value) (H : AH) {r : Value × AH} (h : (
 aY [(vi 0), (.slice none 0 0), (vi 0), (vw 0)] H fun v0 H1 =>
 ld [.n, .f 0] x0 H1 fun v2 =>
 ld [.n, .f 1] x0 H1 fun v3 =>
 (FF d9 [v2, v3] H1).bind fun r4 =>
 ad [.n, .f 13] x0 fun v5 =>
 (ar v5 r4.2).bind fun v6 =>
 bE (ar v5 H1) (ar v5 r4.2) <|
 (aj .other .neq r4.1 v6).bind fun v7 =>
 ax v7
 ((FF bf [x0, (.func (.func bC) #[x0] #[])] r4.2).bind fun r8 =>
 (ai r8.1 0).bind fun v9 =>
 (ai r8.1 1).bind fun v10 =>
 (cW 4 v0 v9 r8.2).bind fun H11 =>
 (aA 4 v0 H11).bind fun v12 => some (Value.tuple #[v12, v10], H11))
 (ld [.n, .f 14] x0 r4.2 fun v13 =>
 (FF gi [x0, v13, (vi 9)] r4.2).bind fun r14 =>
 (ai r14.1 0).bind fun v15 =>
 (ai r14.1 1).bind fun v16 =>
 (cW 4 v0 v15 r14.2).bind fun H17 =>
 (aA 4 v0 H17).bind fun v18 => some (Value.tuple #[v18, v16], H17))) = some r) : FF dX [x0, x1] H = some r :=
 fo Tryz.func293 (by kernel_rfl) h
theorem t9 (x0 x1 x2 x3 : Value) (H : AH) {r : Value × AH} (h : (
 aY (Value.cells x3).toList H fun v0 H1 =>
 ad [.n, .f 0] x0 fun v2 =>
 (ar v2 H1).bind fun v3 =>
 (FF cr [x0, x2] H1).bind fun r4 =>
 bE (ar v2 r4.2) (ar v2 H1) <|
 (FF cS [x0, (vi 16), r4.1] r4.2).bind fun r5 =>
 bE (ar v2 r5.2) (ar v2 H1) <|
 (FF dU [v3, x1, r5.1] r5.2).bind fun r6 =>
 ad [.n, .f 2] x0 fun v7 =>
 (ar v7 r6.2).bind fun v8 =>
 (FF cr [x0, x2] r6.2).bind fun r9 =>
 bE (ar v7 r9.2) (ar v7 r6.2) <|
 (aA 3 v0 r9.2).bind fun v10 =>
 bE (aA 3 v0 r6.2) (aA 3 v0 r9.2) <|
 st 3 [.i 3 r9.1] v8 v10 r9.2 fun H11 =>
 some (Value.tuple #[], H11)) = some r) : FF i0 [x0, x1, x2, x3] H = some r :=
 fo Tryz.func294 (by kernel_rfl) h
theorem sT (x0 x1 x2 : Value) (H : AH) {r : Value × AH} (h : (
 ad [.n, .f 0] x0 fun v0 =>
 (ar v0 H).bind fun v1 =>
 (FF cr [x0, x2] H).bind fun r2 =>
 bE (ar v0 r2.2) (ar v0 H) <|
 (FF cS [x0, (vi 15), r2.1] r2.2).bind fun r3 =>
 bE (ar v0 r3.2) (ar v0 H) <|
 (aj .other .add x2 (vw 1)).bind fun v4 =>
 (FF cY [v1, x1, r3.1, v4] r3.2).bind fun r5 =>
 some (Value.tuple #[], r5.2)) = some r) : FF eS [x0, x1, x2] H = some r :=
 fo Tryz.func295 (by kernel_rfl) h
theorem qe (x0 x1 : Value) (H : AH) {r : Value × AH} (h : (
 ad [.n, .f 0] x0 fun v0 =>
 (ar v0 H).bind fun v1 =>
 (FF bd [(vi 3), (vi 0)] H).bind fun r2 =>
 bE (ar v0 r2.2) (ar v0 H) <|
 (FF dY [v1, x1, r2.1, (vw 1)] r2.2).bind fun r3 =>
 some (Value.tuple #[], r3.2)) = some r) : FF d8 [x0, x1] H = some r :=
 fo Tryz.func296 (by kernel_rfl) h
theorem EI (x0 x1 : Value) (H : AH) {r : Value × AH} (h : (
 aY [(vi 0), (.slice none 0 0), (vi 0), (vw 0)] H fun v0 H1 =>
 ad [.n, .f 11] x0 fun v2 =>
 (ar v2 H1).bind fun v3 =>
 ad [.n, .f 1] x0 fun v4 =>
 (ar v4 H1).bind fun v5 =>
 ld [.n, .f 12] x0 H1 fun v6 =>
 (FF dg [v6] H1).bind fun r7 =>
 bE (ar v2 r7.2) (ar v2 H1) <|
 bE (ar v4 r7.2) (ar v4 H1) <|
 (FF eS [v3, v5, r7.1] r7.2).bind fun r8 =>
 (FF bf [x0, (.func (.func cM) #[x0] #[])] r8.2).bind fun r9 =>
 (ai r9.1 0).bind fun v10 =>
 (ai r9.1 1).bind fun v11 =>
 (cW 4 v0 v10 r9.2).bind fun H12 =>
 (aA 4 v0 H12).bind fun v13 => some (Value.tuple #[v13, v11], H12)) = some r) : FF ie [x0, x1] H = some r :=
 fo Tryz.func297 (by kernel_rfl) h
theorem kL (x0 x1 : Value) (H : AH) {r : Value × AH} (h : (
 ld [.n, .f 2] x0 H fun v0 =>
 iN v0 fun v1 =>
 (bz (some .u64) v1).bind fun v2 =>
 (aj .other .rem x1 v2).bind fun v3 =>
 (bz (some .i64) v3).bind fun v4 =>
 some (v4, H)) = some r) : FF cr [x0, x1] H = some r :=
 fo Tryz.func298 (by kernel_rfl) h
theorem zQ (x0 x1 : Value) (H : AH) {r : Value × AH} (h : (
 aY [(vi 0), (.slice none 0 0), (vi 0), (vw 0)] H fun v0 H1 =>
 ld [.n, .f 0] x0 H1 fun v2 =>
 ld [.n, .f 1] v2 H1 fun v3 =>
 ld [.n, .f 1] x0 H1 fun v4 =>
 ld [.n, .f 6] x0 H1 fun v5 =>
 (FF gu [v3, v4, v5] H1).bind fun r6 =>
 st 1 [.n, .f 15] x0 r6.1 r6.2 fun H7 =>
 (FF bf [x0, (.func (.func jn) #[x0] #[])] H7).bind fun r8 =>
 (ai r8.1 0).bind fun v9 =>
 (ai r8.1 1).bind fun v10 =>
 (cW 4 v0 v9 r8.2).bind fun H11 =>
 (aA 4 v0 H11).bind fun v12 => some (Value.tuple #[v12, v10], H11)) = some r) : FF cM [x0, x1] H = some r :=
 fo Tryz.func299 (by kernel_rfl) h
theorem qf (x0 x1 x2 : Value) (H : AH) {r : Value × AH} (h : (
 ad [.n, .f 0] x0 fun v0 =>
 (ar v0 H).bind fun v1 =>
 ld [.n, .f 3] x0 H fun v2 =>
 (bN v2 [x2]).bind fun c => (FF c.1 c.2 H).bind fun r3 =>
 bE (ar v0 r3.2) (ar v0 H) <|
 (FF cz [v1, x1, r3.1] r3.2).bind fun r4 =>
 some (r4.1, r4.2)) = some r) : FF gu [x0, x1, x2] H = some r :=
 fo Tryz.func300 (by kernel_rfl) h
theorem HF (x0 x1 : Value) (H : AH) {r : Value × AH} (h : (
 aY [(vi 0), (.slice none 0 0), (vi 0), (vw 0)] H fun v0 H1 =>
 ld [.n, .f 0] x0 H1 fun v2 =>
 ld [.n, .f 1] v2 H1 fun v3 =>
 ld [.n, .f 1] x0 H1 fun v4 =>
 ld [.n, .f 9] x0 H1 fun v5 =>
 ld [.n, .f 15] x0 H1 fun v6 =>
 (FF fU [v3, v4, v5, v6] H1).bind fun r7 =>
 (FF bf [x0, (.func (.func jp) #[x0] #[])] r7.2).bind fun r8 =>
 (ai r8.1 0).bind fun v9 =>
 (ai r8.1 1).bind fun v10 =>
 (cW 4 v0 v9 r8.2).bind fun H11 =>
 (aA 4 v0 H11).bind fun v12 => some (Value.tuple #[v12, v10], H11)) = some r) : FF jn [x0, x1] H = some r :=
 fo Tryz.func301 (by kernel_rfl) h
theorem pz (x0 x1 x2 x3 : Value) (H : AH) {r : Value × AH} (h : (
 ad [.n, .f 0] x0 fun v0 =>
 (ar v0 H).bind fun v1 =>
 ld [.n, .f 4] x0 H fun v2 =>
 (bN v2 [x2]).bind fun c => (FF c.1 c.2 H).bind fun r3 =>
 bE (ar v0 r3.2) (ar v0 H) <|
 (FF dU [v1, x1, r3.1] r3.2).bind fun r4 =>
 ld [.n, .f 2] x0 r4.2 fun v5 =>
 (dh .int v5 x2 x3 r4.2).bind fun H6 =>
 some (Value.tuple #[], H6)) = some r) : FF fU [x0, x1, x2, x3] H = some r :=
 fo Tryz.func302 (by kernel_rfl) h
theorem HJ (x0 x1 : Value) (H : AH) {r : Value × AH} (h : (
 aY [(vi 0), (.slice none 0 0), (vi 0), (vw 0)] H fun v0 H1 =>
 ld [.n, .f 0] x0 H1 fun v2 =>
 ld [.n, .f 1] v2 H1 fun v3 =>
 ld [.n, .f 1] x0 H1 fun v4 =>
 ld [.n, .f 6] x0 H1 fun v5 =>
 ld [.n, .f 15] x0 H1 fun v6 =>
 ld [.n, .f 9] x0 H1 fun v7 =>
 (FF fV [v3, v4, v5, v6, v7] H1).bind fun r8 =>
 (pi .not r8.1).bind fun v9 =>
 ax v9
 ((FF bf [x0, (.func (.func cM) #[x0] #[])] r8.2).bind fun r10 =>
 (ai r10.1 0).bind fun v11 =>
 (ai r10.1 1).bind fun v12 =>
 (cW 4 v0 v11 r10.2).bind fun H13 =>
 (aA 4 v0 H13).bind fun v14 => some (Value.tuple #[v14, v12], H13))
 ((FF bf [x0, (.func (.func lI) #[x0] #[])] r8.2).bind fun r15 =>
 (ai r15.1 0).bind fun v16 =>
 (ai r15.1 1).bind fun v17 =>
 (cW 4 v0 v16 r15.2).bind fun H18 =>
 (aA 4 v0 H18).bind fun v19 => some (Value.tuple #[v19, v17], H18))) = some r) : FF jp [x0, x1] H = some r :=
 fo Tryz.func303 (by kernel_rfl) h
theorem pA (x0 x1 x2 x3 x4 : Value) (H : AH) {r : Value × AH} (h : (
 ad [.n, .f 0] x0 fun v0 =>
 (ar v0 H).bind fun v1 =>
 ld [.n, .f 3] x0 H fun v2 =>
 (bN v2 [x2]).bind fun c => (FF c.1 c.2 H).bind fun r3 =>
 bE (ar v0 r3.2) (ar v0 H) <|
 (bz (some .u64) x4).bind fun v4 =>
 (aj .other .add v4 (vw 1)).bind fun v5 =>
 (FF dA [v1, x1, r3.1, x3, v5] r3.2).bind fun r6 =>
 some (r6.1, r6.2)) = some r) : FF fV [x0, x1, x2, x3, x4] H = some r :=
 fo Tryz.func304 (by kernel_rfl) h
theorem N3 (x0 x1 : Value) (H : AH) {r : Value × AH} (h : (
 aY [(vi 0), (.slice none 0 0), (vi 0), (vw 0)] H fun v0 H1 =>
 ld [.n, .f 0] x0 H1 fun v2 =>
 ld [.n, .f 1] v2 H1 fun v3 =>
 ld [.n, .f 1] x0 H1 fun v4 =>
 (FF d8 [v3, v4] H1).bind fun r5 =>
 (FF jl [x0, (vi 0)] r5.2).bind fun r6 =>
 (ai r6.1 0).bind fun v7 =>
 (ai r6.1 1).bind fun v8 =>
 (cW 4 v0 v7 r6.2).bind fun H9 =>
 (aA 4 v0 H9).bind fun v10 => some (Value.tuple #[v10, v8], H9)) = some r) : FF lI [x0, x1] H = some r :=
 fo Tryz.func305 (by kernel_rfl) h
theorem GY {o : Nat} {x : Value} {k : Value → OV} {Q : Value → AH → Prop} (h : wp (k undef) Q) : wp (zU (vb false) true [.n, .f o] x k) Q := h
theorem GZ {p : List Stp} {x : Value} {k : Value → OV} {Q : Value → AH → Prop} (h : wp (ad p x k) Q) : wp (zU (vb true) true p x k) Q := by rw [CY]; exact h
section
variable {m i rp : Nat} {cs : List Pk} {R : SP} {H : AH}
theorem bL (h : ae (bW m i rp cs * R) H) : ∃ cv, ae (blk rp (.cells false [vp m, vi i, cv]) * (ts 3 Pk.cells cv cs * R)) H := by
 obtain ⟨cv, h1⟩ := ae.ex.1 h
 exact ⟨cv, h1.to⟩
theorem uH {cv : Value} (h : ae (blk rp (.cells false [vp m, vi i, cv]) * (ts 3 Pk.cells cv cs * R)) H) : ae (bW m i rp cs * R) H :=
 ae.ex.2 ⟨cv, h.to⟩
theorem dO (h : ae (ci m i rp cs * R) H) : ∃ cv, ae (blk rp (.cells false [vp m, vi i, vi cs.length, cv]) * (ts 3 Pk.cells cv cs * R)) H := by
 obtain ⟨cv, h1⟩ := ae.ex.1 h
 exact ⟨cv, h1.to⟩
theorem kK {cv : Value} (h : ae (blk rp (.cells false [vp m, vi i, vi cs.length, cv]) * (ts 3 Pk.cells cv cs * R)) H) : ae (ci m i rp cs * R) H :=
 ae.ex.2 ⟨cv, h.to⟩
end
section
variable (m i rp : Nat) (cs : List Pk) (μ : Mu)
theorem sW (kind cell : Int) : Sp cS [vp rp, vi kind, vi cell] (bW m i rp cs) (fun _ : Unit => dl (kind, (i : Int), cell)) (fun _ => bW m i rp cs) := by
 refine av fun R H h => ?_
 obtain ⟨cv, h0⟩ := bL h
 refine aw (fun r => vA _ _ _ H) ?_
 refine aO h0 fun b H1 h1 => ?_
 refine am h1 ac rfl ?_
 refine dZ ?_
 refine bZ h1 rfl rfl fun H2 h2 => ?_
 refine aM h2 ?_
 exact aq ⟨(), rfl, uH (cv := cv) h2.to⟩
theorem Bg (who : Int) (hE : μ.N < 1099511627000) : Sp eW [vp rp, vi who] (bW m i rp cs * bj m μ) (fun _ : Unit => vu (μ.V (11, (i : Int), 0))) (fun _ => bW m i rp cs * bj m (μ.acc who 1 (11, (i : Int), 0))) := by
 refine av fun R H h => ?_
 obtain ⟨cv, h0⟩ := bL (m := m) (i := i) (rp := rp) (cs := cs) (R := bj m μ * R) (H := H) h.to
 refine aw (fun r => sU _ _ H) ?_
 refine aJ ac ?_
 refine aE h0 rfl ?_
 refine af h (sW m i rp cs 11 0) fun _ H1 h1 => ?_
 obtain ⟨cv1, k1⟩ := bL h1
 refine aD k1 h0 (by rfl) ?_
 refine af h1 (yC m μ who (11, (i : Int), 0) (by omega)) fun _ H2 h2 => ?_
 exact aq ⟨(), rfl, h2.to⟩
theorem Be (who : Int) (hE : μ.N < 1099511627000) : Sp eR [vp rp, vi who] (bW m i rp cs * bj m μ) (fun _ : Unit => vu (μ.V (12, (i : Int), 0))) (fun _ => bW m i rp cs * bj m (μ.acc who 1 (12, (i : Int), 0))) := by
 refine av fun R H h => ?_
 obtain ⟨cv, h0⟩ := bL (m := m) (i := i) (rp := rp) (cs := cs) (R := bj m μ * R) (H := H) h.to
 refine aw (fun r => sS _ _ H) ?_
 refine aJ ac ?_
 refine aE h0 rfl ?_
 refine af h (sW m i rp cs 12 0) fun _ H1 h1 => ?_
 obtain ⟨cv1, k1⟩ := bL h1
 refine aD k1 h0 (by rfl) ?_
 refine af h1 (yC m μ who (12, (i : Int), 0) (by omega)) fun _ H2 h2 => ?_
 exact aq ⟨(), rfl, h2.to⟩
def gr (w h k : Nat) : Bool := decide (h ≤ aP w ∧ k ≤ aP w - h)
theorem Bd (w h : Nat) (hw : w < 18446744073709551616) (hc : cs.length < 1000) : Sp eO [vp rp, vu w, vu h] (bW m i rp cs) (fun _ : Unit => vb (gr w h cs.length)) (fun _ => bW m i rp cs) := by
 refine av fun R H hh => ?_
 have hl := dH w
 refine aw (fun r => sR _ _ _ H) ?_
 refine af hh (iv w hw) fun _ H1 h1 => ?_
 by_cases hle : h ≤ aP w
 ·refine aa (uy (by omega)) ?_
  with_reducible repeat refine gg ?_
  refine aa (Al hle (by omega)) ?_
  obtain ⟨cv, h2⟩ := bL (m := m) (i := i) (rp := rp) (cs := cs) (R := R) (H := H1) h1.to
  with_reducible repeat refine gg ?_
  refine am h2 ac rfl ?_
  with_reducible repeat refine gg ?_
  refine px (s := cv) (l := cs) h2 ?_
  with_reducible repeat refine gg ?_
  refine aa (cU (by omega) (by omega)) ?_
  rw [show ((cs.length : Nat) : Int).toNat = cs.length from Int.toNat_natCast _]
  with_reducible repeat refine gg ?_
  by_cases hk : cs.length ≤ aP w - h
  ·refine aa (uy (by omega)) ?_
   with_reducible repeat refine gg ?_
   exact aq ⟨(), by rw [gr, decide_eq_true ⟨hle, hk⟩], h1.to⟩
  ·refine aa (pQ (by omega)) ?_
   with_reducible repeat refine gg ?_
   exact aq ⟨(), by rw [gr, decide_eq_false (fun q => hk q.2)], h1.to⟩
 ·refine aa (pQ (by omega)) ?_
  with_reducible repeat refine gg ?_
  exact aq ⟨(), by rw [gr, decide_eq_false (fun q => hle q.1)], h1.to⟩
abbrev Mu.turn (μ : Mu) (who : Int) (i w : Nat) (o : Option Nat) : Mu := match o with
 | none => μ
 | some n => μ.swp who (11, (i : Int), 0) w n
def f7 (μ : Mu) (i w : Nat) (o : Option Nat) : Bool := o.isSome && decide (μ.V (11, (i : Int), 0) = w)
theorem Qf (who : Int) (w fn : Nat) (o : Option Nat) (hf : Sp fn [vu w] emp (fun _ : Unit => Jh o) (fun _ => emp)) (hE : μ.N < 1099511627000) :
 Sp iq [vp rp, vi who, vu w, .func (.func fn) #[] #[]] (bW m i rp cs * bj m μ) (fun _ : Unit => vb (f7 μ i w o)) (fun _ => bW m i rp cs * bj m (μ.turn who i w o)) := by
 refine av fun R H h => ?_
 refine aw (fun r => sV _ _ _ _ H) ?_
 refine ag (show (bN (.func (.func fn) #[] #[]) [vu w]).bind _ = _ from rfl) ?_
 refine af h hf fun _ H1 h1 => ?_
 cases o with
 | none =>
  refine aa (v := vw 0) rfl ?_
  refine aa (v := vb false) rfl ?_
  with_reducible repeat refine gg ?_
  refine GY ?_
  with_reducible repeat refine gg ?_
  refine BD rfl ?_
  with_reducible repeat refine gg ?_
  exact aq ⟨(), rfl, h1.to⟩
 | some n =>
  refine aa (v := vu n) rfl ?_
  refine aa (v := vb true) rfl ?_
  with_reducible repeat refine gg ?_
  refine GZ ?_
  obtain ⟨cv, k1⟩ := bL (m := m) (i := i) (rp := rp) (cs := cs) (R := bj m μ * R) (H := H1) h1.to
  refine aJ ac ?_
  with_reducible repeat refine gg ?_
  refine aE k1 rfl ?_
  with_reducible repeat refine gg ?_
  refine af h1 (sW m i rp cs 11 0) fun _ H2 h2 => ?_
  obtain ⟨cv2, k2⟩ := bL (m := m) (i := i) (rp := rp) (cs := cs) (R := bj m μ * R) (H := H2) h2.to
  refine aD k2 k1 (by rfl) ?_
  with_reducible repeat refine gg ?_
  refine af h2 (Jj m μ who (11, (i : Int), 0) w n (by omega)) fun _ H3 h3 => ?_
  with_reducible repeat refine gg ?_
  exact aq ⟨(), rfl, h3.to⟩
theorem y3 (who : Int) (w : Nat) (hw : w < 18446744073709551616) (hE : μ.N < 1099511627000) : Sp ec [vp rp, vi who, vu w] (bW m i rp cs * bj m μ) (fun _ : Unit => vb (f7 μ i w (a9 w 0))) (fun _ => bW m i rp cs * bj m (μ.turn who i w (a9 w 0))) := by
 refine av fun R H h => ?_
 refine aw (fun r => qR _ _ _ H) ?_
 refine af h (Qf m i rp cs μ who w kC (a9 w 0) (Q3 w hw) hE) fun _ H1 h1 => ?_
 exact aq ⟨(), rfl, h1.to⟩
end
section
variable (m i rp : Nat) (cs : List Pk) (μ : Mu)
theorem KI (who : Int) (hE : μ.N < 1099511627000) : Sp iY [vp rp, vi who] (ci m i rp cs * bk m μ) (fun _ : Unit => vu (μ.V (11, (i : Int), 0))) (fun _ => ci m i rp cs * bk m (μ.acc who 1 (11, (i : Int), 0))) := by
 refine av fun R H h => ?_
 obtain ⟨cv, h0⟩ := dO (m := m) (i := i) (rp := rp) (cs := cs) (R := bk m μ * R) (H := H) h.to
 refine aw (fun r => tY _ _ H) ?_
 refine aJ ac ?_
 refine aE h0 rfl ?_
 refine am h0 ac rfl ?_
 refine af h0 (cV 11 (i : Int) 0) fun _ H1 h1 => ?_
 refine aD h1 h0 (by rfl) ?_
 refine af h1 (ow m μ who (11, (i : Int), 0) (by omega)) fun _ H2 h2 => ?_
 exact aq ⟨(), rfl, (kK (m := m) (i := i) (rp := rp) (cs := cs) (cv := cv) (R := bk m (μ.acc who 1 (11, (i : Int), 0)) * R) h2.to).to⟩
theorem zI (who : Int) (hE : μ.N < 1099511627000) : Sp fJ [vp rp, vi who] (ci m i rp cs * bk m μ) (fun _ : Unit => vu (μ.V (12, (i : Int), 0))) (fun _ => ci m i rp cs * bk m (μ.acc who 1 (12, (i : Int), 0))) := by
 refine av fun R H h => ?_
 obtain ⟨cv, h0⟩ := dO (m := m) (i := i) (rp := rp) (cs := cs) (R := bk m μ * R) (H := H) h.to
 refine aw (fun r => tV _ _ H) ?_
 refine aJ ac ?_
 refine aE h0 rfl ?_
 refine am h0 ac rfl ?_
 refine af h0 (cV 12 (i : Int) 0) fun _ H1 h1 => ?_
 refine aD h1 h0 (by rfl) ?_
 refine af h1 (ow m μ who (12, (i : Int), 0) (by omega)) fun _ H2 h2 => ?_
 exact aq ⟨(), rfl, (kK (m := m) (i := i) (rp := rp) (cs := cs) (cv := cv) (R := bk m (μ.acc who 1 (12, (i : Int), 0)) * R) h2.to).to⟩
theorem zH (w h : Nat) (hw : w < 18446744073709551616) (hc : cs.length < 1000) : Sp fI [vp rp, vu w, vu h] (ci m i rp cs) (fun _ : Unit => vb (gr w h cs.length)) (fun _ => ci m i rp cs) := by
 refine av fun R H hh => ?_
 have hl := dH w
 refine aw (fun r => tU _ _ _ H) ?_
 refine af hh (lN w hw) fun _ H1 h1 => ?_
 refine aa (v := vu (aP w)) rfl ?_
 refine aa (v := vi (bi w)) rfl ?_
 refine aa (v := vb (cD w)) rfl ?_
 by_cases hle : h ≤ aP w
 ·refine aa (uy (by omega)) ?_
  with_reducible repeat refine gg ?_
  refine aa (Al hle (by omega)) ?_
  obtain ⟨cv, h2⟩ := dO (m := m) (i := i) (rp := rp) (cs := cs) (R := R) (H := H1) h1.to
  with_reducible repeat refine gg ?_
  refine am h2 ac rfl ?_
  with_reducible repeat refine gg ?_
  refine aa (cU (by omega) (by omega)) ?_
  rw [show ((cs.length : Nat) : Int).toNat = cs.length from Int.toNat_natCast _]
  with_reducible repeat refine gg ?_
  by_cases hk : cs.length ≤ aP w - h
  ·refine aa (uy (by omega)) ?_
   with_reducible repeat refine gg ?_
   exact aq ⟨(), by rw [gr, decide_eq_true ⟨hle, hk⟩], h1.to⟩
  ·refine aa (pQ (by omega)) ?_
   with_reducible repeat refine gg ?_
   exact aq ⟨(), by rw [gr, decide_eq_false (fun q => hk q.2)], h1.to⟩
 ·refine aa (pQ (by omega)) ?_
  with_reducible repeat refine gg ?_
  exact aq ⟨(), by rw [gr, decide_eq_false (fun q => hle q.1)], h1.to⟩
theorem KH (who : Int) (w how : Nat) (hh : how < 3) (hw : w < 18446744073709551616) (hE : μ.N < 1099511627000) :
 Sp iX [vp rp, vi who, vu w, vi (how : Int)] (ci m i rp cs * bk m μ) (fun _ : Unit => vb (f7 μ i w (a9 w how))) (fun _ => ci m i rp cs * bk m (μ.turn who i w (a9 w how))) := by
 refine av fun R H h => ?_
 refine aw (fun r => tX _ _ _ _ H) ?_
 refine af h (Js w how hw hh) fun _ H1 h1 => ?_
 generalize a9 w how = o at h1 ⊢
 cases o with
 | none =>
  refine aa (v := vw 0) rfl ?_
  refine aa (v := vb false) rfl ?_
  with_reducible repeat refine gg ?_
  refine GY ?_
  with_reducible repeat refine gg ?_
  refine BD rfl ?_
  with_reducible repeat refine gg ?_
  exact aq ⟨(), rfl, h1.to⟩
 | some n =>
  refine aa (v := vu n) rfl ?_
  refine aa (v := vb true) rfl ?_
  with_reducible repeat refine gg ?_
  refine GZ ?_
  obtain ⟨cv, k1⟩ := dO (m := m) (i := i) (rp := rp) (cs := cs) (R := bk m μ * R) (H := H1) h1.to
  refine aJ ac ?_
  with_reducible repeat refine gg ?_
  refine aE k1 rfl ?_
  with_reducible repeat refine gg ?_
  refine am k1 ac rfl ?_
  with_reducible repeat refine gg ?_
  refine af k1 (cV 11 (i : Int) 0) fun _ H2 k2 => ?_
  refine aD k2 k1 (by rfl) ?_
  with_reducible repeat refine gg ?_
  refine af k2 (yR m μ who (11, (i : Int), 0) w n (by omega)) fun _ H3 k3 => ?_
  with_reducible repeat refine gg ?_
  refine aq ⟨(), rfl, ?_⟩
  have h3 := kK (m := m) (i := i) (rp := rp) (cs := cs) (cv := cv) (R := bk m (μ.swp who (11, (i : Int), 0) w n) * R) (H := H3) k3.to
  exact h3.to
end
section
variable (m i rp : Nat) (cs : List Pk) (μ : Mu)
theorem Bc (n : Nat) (h0 : 1 ≤ cs.length ∧ cs.length < 1000) : Sp cr [vp rp, vu n] (bW m i rp cs) (fun _ : Unit => vi ((n % cs.length : Nat) : Int)) (fun _ => bW m i rp cs) := by
 have hlt : n % cs.length < cs.length := Nat.mod_lt _ (by omega)
 refine av fun R H h => ?_
 obtain ⟨cv, k⟩ := bL h
 refine aw (fun r => kL _ _ H) ?_
 refine am k ac rfl ?_
 refine zB (s := cv) (l := cs) k ?_
 refine aa (cU (by omega) (by omega)) ?_
 rw [show ((cs.length : Nat) : Int).toNat = cs.length from Int.toNat_natCast _]
 refine aa (g6 (by omega)) ?_
 refine aa (fC (by omega)) ?_
 exact aq ⟨(), rfl, h⟩
theorem KG (n : Nat) (h0 : 1 ≤ cs.length ∧ cs.length < 1000) : Sp cZ [vp rp, vu n] (ci m i rp cs) (fun _ : Unit => vi ((n % cs.length : Nat) : Int)) (fun _ => ci m i rp cs) := by
 have hlt : n % cs.length < cs.length := Nat.mod_lt _ (by omega)
 refine av fun R H h => ?_
 obtain ⟨cv, k⟩ := dO h
 refine aw (fun r => lO _ _ H) ?_
 refine am k ac rfl ?_
 refine aa (cU (by omega) (by omega)) ?_
 rw [show ((cs.length : Nat) : Int).toNat = cs.length from Int.toNat_natCast _]
 refine aa (g6 (by omega)) ?_
 refine aa (fC (by omega)) ?_
 exact aq ⟨(), rfl, h⟩
theorem Bf (who : Int) (n : Nat) (hn : n < 18446744073709551615) (h0 : 1 ≤ cs.length ∧ cs.length < 1000) (hE : μ.N < 1099511627000) :
 Sp eS [vp rp, vi who, vu n] (bW m i rp cs * bj m μ) (fun _ : Unit => .tuple #[]) (fun _ => bW m i rp cs * bj m ((μ.acc who 2 (15, (i : Int), ((n % cs.length : Nat) : Int))).put (15, (i : Int), ((n % cs.length : Nat) : Int)) (n + 1))) := by
 refine av fun R H h => ?_
 obtain ⟨cv, k0⟩ := bL (m := m) (i := i) (rp := rp) (cs := cs) (R := bj m μ * R) (H := H) h.to
 refine aw (fun r => sT _ _ _ H) ?_
 refine aJ ac ?_
 refine aE k0 rfl ?_
 refine af h (Bc m i rp cs n h0) fun _ H1 h1 => ?_
 obtain ⟨cv1, k1⟩ := bL h1
 refine aD k1 k0 (by rfl) ?_
 refine af h1 (sW m i rp cs 15 ((n % cs.length : Nat) : Int)) fun _ H2 h2 => ?_
 obtain ⟨cv2, k2⟩ := bL h2
 refine aD k2 k0 (by rfl) ?_
 refine aa (dW (b := 1) (by omega)) ?_
 refine af h2 (De m μ who (15, (i : Int), ((n % cs.length : Nat) : Int)) (n + 1) (by omega)) fun _ H3 h3 => ?_
 exact aq ⟨(), rfl, h3.to⟩
theorem zJ (who : Int) (n : Nat) (hn : n < 18446744073709551615) (h0 : 1 ≤ cs.length ∧ cs.length < 1000) (hE : μ.N < 1099511627000) :
 Sp fK [vp rp, vi who, vu n] (ci m i rp cs * bk m μ) (fun _ : Unit => .tuple #[]) (fun _ => ci m i rp cs * bk m ((μ.acc who 2 (15, (i : Int), ((n % cs.length : Nat) : Int))).put (15, (i : Int), ((n % cs.length : Nat) : Int)) (n + 1))) := by
 refine av fun R H h => ?_
 obtain ⟨cv, k0⟩ := dO (m := m) (i := i) (rp := rp) (cs := cs) (R := bk m μ * R) (H := H) h.to
 refine aw (fun r => tW _ _ _ H) ?_
 refine aJ ac ?_
 refine aE k0 rfl ?_
 refine aJ ac ?_
 refine aE k0 rfl ?_
 refine af h (KG m i rp cs n h0) fun _ H1 h1 => ?_
 obtain ⟨cv1, k1⟩ := dO h1
 refine aD k1 k0 (by rfl) ?_
 refine aD k1 k0 (by rfl) ?_
 refine af h1 (cV 15 (i : Int) ((n % cs.length : Nat) : Int)) fun _ H2 h2 => ?_
 obtain ⟨cv2, k2⟩ := dO (m := m) (i := i) (rp := rp) (cs := cs) (R := bk m μ * R) (H := H2) h2.to
 refine aD k2 k0 (by rfl) ?_
 refine aa (dW (b := 1) (by omega)) ?_
 refine af h2 (t6 m μ who (15, (i : Int), ((n % cs.length : Nat) : Int)) (n + 1) (by omega)) fun _ H3 h3 => ?_
 exact aq ⟨(), rfl, h3.to⟩
theorem Vy (who : Int) (n : Nat) (x : Pk) (h0 : 1 ≤ cs.length ∧ cs.length < 1000) (hE : μ.N < 1099511627000) :
 Sp i0 [vp rp, vi who, vu n, .agg (Pk.cells x).toArray] (bW m i rp cs * bj m μ) (fun _ : Unit => .tuple #[]) (fun _ => bW m i rp (cs.set (n % cs.length) x) * bj m (μ.acc who 6 (16, (i : Int), ((n % cs.length : Nat) : Int)))) := by
 have hlt : n % cs.length < cs.length := Nat.mod_lt _ (by omega)
 refine av fun R H h => ?_
 refine aw (fun r => t9 _ _ _ _ H) ?_
 refine aH h fun b H1 h1 => ?_
 obtain ⟨cv, k1⟩ := bL (m := m) (i := i) (rp := rp) (cs := cs) (R := bj m μ * (blk b (.cells false (Pk.cells x)) * R)) (H := H1) h1.to
 refine aJ ac ?_
 refine aE k1 rfl ?_
 refine af h1 (Bc m i rp cs n h0) fun _ H2 h2 => ?_
 obtain ⟨cv2, k2⟩ := bL h2
 refine aD k2 k1 (by rfl) ?_
 refine af h2 (sW m i rp cs 16 ((n % cs.length : Nat) : Int)) fun _ H3 h3 => ?_
 obtain ⟨cv3, k3⟩ := bL h3
 refine aD k3 k1 (by rfl) ?_
 refine af h3 ((tK m μ who (16, (i : Int), ((n % cs.length : Nat) : Int)) (by omega)).imp fun _ R H h => jb (N' := μ.N + 2) (by simp) h) fun _ H4 h4 => ?_
 obtain ⟨cv4, k4⟩ := bL (m := m) (i := i) (rp := rp) (cs := cs) (R := bj m (μ.acc who 6 (16, (i : Int), ((n % cs.length : Nat) : Int))) * (blk b (.cells false (Pk.cells x)) * R)) (H := H4) h4.to
 refine aJ ac ?_
 refine aE k4 rfl ?_
 -- a cell is told once more, of the same ring
 have again : ∀ {k : Value × AH → OV} {Q : Value → AH → Prop}, (∀ H5, ae (blk rp (.cells false [vp m, vi i, cv4]) * (ts 3 Pk.cells cv4 cs * (bj m (μ.acc who 6 (16, (i : Int), ((n % cs.length : Nat) : Int))) * (blk b (.cells false (Pk.cells x)) * R)))) H5 → wp (k (vi ((n % cs.length : Nat) : Int), H5)) Q) → wp ((FF cr [vp rp, vu n] H4).bind k) Q := by
  intro k Q hk
  have cell4 : Sp cr [vp rp, vu n] (blk rp (.cells false [vp m, vi i, cv4]) * ts 3 Pk.cells cv4 cs) (fun _ : Unit => vi ((n % cs.length : Nat) : Int)) (fun _ => blk rp (.cells false [vp m, vi i, cv4]) * ts 3 Pk.cells cv4 cs) := by
   refine av fun R H h => ?_
   refine aw (fun r => kL _ _ H) ?_
   refine am h ac rfl ?_
   refine zB (s := cv4) (l := cs) h ?_
   refine aa (cU (by omega) (by omega)) ?_
   rw [show ((cs.length : Nat) : Int).toNat = cs.length from Int.toNat_natCast _]
   refine aa (g6 (by omega)) ?_
   refine aa (fC (by omega)) ?_
   exact aq ⟨(), rfl, h⟩
  exact af k4 cell4 fun _ H5 h5 => hk H5 h5.to
 refine again fun H5 k5 => ?_
 refine aD k5 k4 (by rfl) ?_
 refine aM k5 ?_
 refine bn k4 k5 rfl ?_
 refine G4 (s := cv4) (l := cs) (i := n % cs.length) x k5 hlt (.inl ⟨rfl, rfl⟩) rfl (by omega) rfl rfl fun H6 k6 => ?_
 refine aq ⟨(), rfl, ?_⟩
 have h6 := uH (m := m) (i := i) (rp := rp) (cs := cs.set (n % cs.length) x) (cv := cv4) (R := bj m (μ.acc who 6 (16, (i : Int), ((n % cs.length : Nat) : Int))) * R) (H := H6) k6.to
 exact h6.to
end
theorem s6 (k a : Int) : Sp bd [vi k, vi a] emp (fun _ : Unit => dl (k, a, 0)) (fun _ => emp) := by
 refine av fun R H h => ?_
 refine aw (fun r => tD _ _ H) ?_
 refine aO h fun b H1 h1 => ?_
 refine dZ ?_
 refine bZ h1 rfl rfl fun H2 h2 => ?_
 refine aM h2 ?_
 exact aq ⟨(), rfl, h2.to⟩
abbrev Mu.cnt (μ : Mu) (who : Int) (at' : bV) (n : Nat) : Mu := (μ.acc who 3 at').put at' ((μ.V at' + n) % 18446744073709551616)
section
variable (ib m nm : Nat) (c : fO) (nx : Int → Option Nat) (μ : Mu) (who : Int)
theorem FK (hE : μ.N < 1099511627000) : Sp fh [vp ib, vi who] (i9 ib m nm c nx * bj m μ) (fun _ : Unit => .tuple #[]) (fun _ => i9 ib m nm c nx * bj m (μ.cnt who (3, 0, 0) 4294967296)) := by
 refine av fun R H h => ?_
 refine aw (fun r => nI _ _ H) ?_
 unfold i9 at h ⊢
 refine aJ ac ?_
 refine aE h rfl ?_
 refine af h (s6 3 0) fun _ H1 h1 => ?_
 refine aD h1 h (by rfl) ?_
 refine af h1 (U9 m μ who (3, 0, 0) 4294967296 (by omega)) fun _ H2 h2 => ?_
 exact aq ⟨(), rfl, h2.to⟩
theorem AN (hE : μ.N < 1099511627000) : Sp d8 [vp ib, vi who] (i9 ib m nm c nx * bj m μ) (fun _ : Unit => .tuple #[]) (fun _ => i9 ib m nm c nx * bj m (μ.cnt who (3, 0, 0) 1)) := by
 refine av fun R H h => ?_
 refine aw (fun r => qe _ _ H) ?_
 unfold i9 at h ⊢
 refine aJ ac ?_
 refine aE h rfl ?_
 refine af h (s6 3 0) fun _ H1 h1 => ?_
 refine aD h1 h (by rfl) ?_
 refine af h1 (U9 m μ who (3, 0, 0) 1 (by omega)) fun _ H2 h2 => ?_
 exact aq ⟨(), rfl, h2.to⟩
theorem Pq (s : Int) (hE : μ.N < 1099511627000) : Sp gu [vp ib, vi who, vi s] (i9 ib m nm c nx * bj m μ) (fun _ : Unit => vu (μ.V (9, s, 0))) (fun _ => i9 ib m nm c nx * bj m (μ.acc who 1 (9, s, 0))) := by
 refine av fun R H h => ?_
 refine aw (fun r => qf _ _ _ H) ?_
 unfold i9 at h ⊢
 refine aJ ac ?_
 refine aE h rfl ?_
 refine am h ac rfl ?_
 refine ag (show (bN (.func (.func bd) #[vi 9] #[]) [vi s]).bind _ = _ from rfl) ?_
 refine af h (s6 9 s) fun _ H1 h1 => ?_
 refine aD h1 h (by rfl) ?_
 refine af h1 (yC m μ who (9, s, 0) (by omega)) fun _ H2 h2 => ?_
 exact aq ⟨(), rfl, h2.to⟩
theorem I5 (s : Int) (top obj : Nat) (ho : obj < 4294967296) (hE : μ.N < 1099511627000) : Sp fV [vp ib, vi who, vi s, vu top, vi obj] (i9 ib m nm c nx * bj m μ) (fun _ : Unit => vb (decide (μ.V (9, s, 0) = top))) (fun _ => i9 ib m nm c nx * bj m (μ.swp who (9, s, 0) top (obj + 1))) := by
 refine av fun R H h => ?_
 refine aw (fun r => pA _ _ _ _ _ H) ?_
 unfold i9 at h ⊢
 refine aJ ac ?_
 refine aE h rfl ?_
 refine am h ac rfl ?_
 refine ag (show (bN (.func (.func bd) #[vi 9] #[]) [vi s]).bind _ = _ from rfl) ?_
 refine af h (s6 9 s) fun _ H1 h1 => ?_
 refine aD h1 h (by rfl) ?_
 refine aa (cU (by omega) (by omega)) ?_
 rw [show ((obj : Nat) : Int).toNat = obj from Int.toNat_natCast _]
 refine aa (dW (b := 1) (by omega)) ?_
 refine af h1 (Jj m μ who (9, s, 0) top (obj + 1) (by omega)) fun _ H2 h2 => ?_
 exact aq ⟨(), rfl, h2.to⟩
theorem I3 (obj : Int) (next : Nat) (hE : μ.N < 1099511627000) : Sp fU [vp ib, vi who, vi obj, vu next] (i9 ib m nm c nx * bj m μ) (fun _ : Unit => .tuple #[]) (fun _ => i9 ib m nm c (fun k => if k = obj then some next else nx k) * bj m (μ.acc who 6 (14, obj, 0))) := by
 refine av fun R H h => ?_
 refine aw (fun r => pz _ _ _ _ H) ?_
 unfold i9 at h ⊢
 refine aJ ac ?_
 refine aE h rfl ?_
 refine am h ac rfl ?_
 refine ag (show (bN (.func (.func bd) #[vi 14] #[]) [vi obj]).bind _ = _ from rfl) ?_
 refine af h (s6 14 obj) fun _ H1 h1 => ?_
 refine aD h1 h (by rfl) ?_
 refine af h1 ((tK m μ who (14, obj, 0) (by omega)).imp fun _ R H h => jb (N' := μ.N + 2) (by simp) h) fun _ H2 h2 => ?_
 refine am h2 ac rfl ?_
 refine Wr (ek := Ha) obj (vu next) h2 fun H3 h3 => ?_
 refine aq ⟨(), rfl, ?_⟩
 have e : (fun k => ((if k = obj then some next else nx k) : Option Nat).map fun n => vu n) = fun x => if x = obj then some (vu next) else (nx x).map fun n => vu n := by
  funext k
  split <;> rfl
 rw [e]
 exact h3.to
end
section
variable (ib m : Nat) (sh : Int) (nx : Int → Option Nat) (L : Nat) (μ : Mu) (who : Int)
theorem Eh (hE : μ.N < 1099511627000) : Sp gz [vp ib, vi who] (fR ib m sh nx L * bk m μ) (fun _ : Unit => .tuple #[]) (fun _ => fR ib m sh nx L * bk m (μ.cnt who (3, 0, 0) 4294967296)) := by
 refine av fun R H h => ?_
 obtain ⟨kv, nv, ns, hn, h0⟩ := lF (ib := ib) (m := m) (sh := sh) (nx := nx) (L := L) (R := bk m μ * R) (H := H) h.to
 refine aw (fun r => qE _ _ H) ?_
 refine aJ ac ?_
 refine aE h0 rfl ?_
 refine af h0 (cV 3 0 0) fun _ H1 h1 => ?_
 refine aD h1 h0 (by rfl) ?_
 refine af h1 (Dq m μ who (3, 0, 0) 4294967296 (by omega)) fun _ H2 h2 => ?_
 have h3 := fS (ib := ib) (m := m) (sh := sh) (nx := nx) (L := L) (kv := kv) (nv := nv) (ns := ns) (R := bk m (μ.cnt who (3, 0, 0) 4294967296) * R) (H := H2) hn h2.to
 exact aq ⟨(), rfl, h3.to⟩
theorem zF (hE : μ.N < 1099511627000) : Sp fG [vp ib, vi who] (fR ib m sh nx L * bk m μ) (fun _ : Unit => .tuple #[]) (fun _ => fR ib m sh nx L * bk m (μ.cnt who (3, 0, 0) 1)) := by
 refine av fun R H h => ?_
 obtain ⟨kv, nv, ns, hn, h0⟩ := lF (ib := ib) (m := m) (sh := sh) (nx := nx) (L := L) (R := bk m μ * R) (H := H) h.to
 refine aw (fun r => tP _ _ H) ?_
 refine aJ ac ?_
 refine aE h0 rfl ?_
 refine af h0 (cV 3 0 0) fun _ H1 h1 => ?_
 refine aD h1 h0 (by rfl) ?_
 refine af h1 (Dq m μ who (3, 0, 0) 1 (by omega)) fun _ H2 h2 => ?_
 have h3 := fS (ib := ib) (m := m) (sh := sh) (nx := nx) (L := L) (kv := kv) (nv := nv) (ns := ns) (R := bk m (μ.cnt who (3, 0, 0) 1) * R) (H := H2) hn h2.to
 exact aq ⟨(), rfl, h3.to⟩
theorem KE (s : Int) (hE : μ.N < 1099511627000) : Sp iV [vp ib, vi who, vi s] (fR ib m sh nx L * bk m μ) (fun _ : Unit => vu (μ.V (9, s, 0))) (fun _ => fR ib m sh nx L * bk m (μ.acc who 1 (9, s, 0))) := by
 refine av fun R H h => ?_
 obtain ⟨kv, nv, ns, hn, h0⟩ := lF (ib := ib) (m := m) (sh := sh) (nx := nx) (L := L) (R := bk m μ * R) (H := H) h.to
 refine aw (fun r => tQ _ _ _ H) ?_
 refine aJ ac ?_
 refine aE h0 rfl ?_
 refine af h0 (cV 9 s 0) fun _ H1 h1 => ?_
 refine aD h1 h0 (by rfl) ?_
 refine af h1 (ow m μ who (9, s, 0) (by omega)) fun _ H2 h2 => ?_
 have h3 := fS (ib := ib) (m := m) (sh := sh) (nx := nx) (L := L) (kv := kv) (nv := nv) (ns := ns) (R := bk m (μ.acc who 1 (9, s, 0)) * R) (H := H2) hn h2.to
 exact aq ⟨(), rfl, h3.to⟩
theorem G7 (s : Int) (top obj : Nat) (ho : obj < 4294967296) (hE : μ.N < 1099511627000) : Sp ik [vp ib, vi who, vi s, vu top, vi obj] (fR ib m sh nx L * bk m μ) (fun _ : Unit => vb (decide (μ.V (9, s, 0) = top))) (fun _ => fR ib m sh nx L * bk m (μ.swp who (9, s, 0) top (obj + 1))) := by
 refine av fun R H h => ?_
 obtain ⟨kv, nv, ns, hn, h0⟩ := lF (ib := ib) (m := m) (sh := sh) (nx := nx) (L := L) (R := bk m μ * R) (H := H) h.to
 refine aw (fun r => sI _ _ _ _ _ H) ?_
 refine aJ ac ?_
 refine aE h0 rfl ?_
 refine af h0 (cV 9 s 0) fun _ H1 h1 => ?_
 refine aD h1 h0 (by rfl) ?_
 refine aa (cU (by omega) (by omega)) ?_
 rw [show ((obj : Nat) : Int).toNat = obj from Int.toNat_natCast _]
 refine aa (dW (b := 1) (by omega)) ?_
 refine af h1 (yR m μ who (9, s, 0) top (obj + 1) (by omega)) fun _ H2 h2 => ?_
 have h3 := fS (ib := ib) (m := m) (sh := sh) (nx := nx) (L := L) (kv := kv) (nv := nv) (ns := ns) (R := bk m (μ.swp who (9, s, 0) top (obj + 1)) * R) (H := H2) hn h2.to
 exact aq ⟨(), rfl, h3.to⟩
end
theorem Ny (a : Int) {n : Int} (h : 1 ≤ n) : -n < a.tmod n ∧ a.tmod n < n := by
 have e := Int.natAbs_tmod a n
 have : a.natAbs % n.natAbs < n.natAbs := Nat.mod_lt _ (by omega)
 omega
section
variable (t m p e : Nat) (σ : aX)
theorem GQ (sh sl : Nat) (hs : 1 ≤ sh ∧ sh ≤ 4) (flow : Int) : Sp fi [vp t, vi flow] (tab t m sh sl) (fun _ : Unit => vi ((flow.tmod sh + sh).tmod sh)) (fun _ => tab t m sh sl) := by
 refine av fun R H h => ?_
 refine aw (fun r => oB _ _ H) ?_
 unfold tab at h ⊢
 have q := Ny flow (n := sh) (by omega)
 refine am h ac rfl ?_
 refine aa (t8 (by omega)) ?_
 refine am h ac rfl ?_
 refine aa (aB (by omega) (by omega)) ?_
 refine am h ac rfl ?_
 refine aa (t8 (by omega)) ?_
 exact aq ⟨(), rfl, h⟩
theorem XQ (μ : Mu) : Sp fy [vp m] (bj m μ) (fun _ : Unit => vi μ.E.length) (fun _ => bj m μ) := by
 refine av fun R H h => ?_
 obtain ⟨⟨c, l, al, es, ck⟩, h1⟩ := ae.ex.1 h
 rw [ap, ae.pu] at h1
 obtain ⟨hp, h1⟩ := h1
 dsimp only at h1
 have h2 : ae (blk m (.cells false [.map (some c), l]) * (blk c (.map es ck) * ts 5 Ev.cells l μ.E) * R) H := h1
 refine aw (fun r => yz _ H) ?_
 refine am h2 ac rfl ?_
 refine mB (s := l) (l := μ.E) h2 ?_
 exact aq ⟨(), rfl, h⟩
theorem rk (r : Value) (x : Int) : Sp jl [r, vi x] emp (fun _ : Unit => .tuple #[.agg (gK x).toArray, vb true]) (fun _ => emp) := by
 refine av fun R H h => ?_
 refine aw (fun r => HD _ _ H) ?_
 refine aO h fun b H1 h1 => ?_
 refine dZ ?_
 refine bZ h1 rfl rfl fun H2 h2 => ?_
 refine aM h2 ?_
 exact aq ⟨(), rfl, h2.to⟩
def cG (x : Cl) : Option Int := if x.a < 1 ∨ 65536 < x.a then some 3 else if x.flow < 0 ∨ 1048576 < x.flow then some 5 else none
end
structure Tk where
 who : Int
 x : Cl
 s : Int
 at' : Nat
 i : Nat
 obj : Nat
 found : Bool
 w : Nat
 q : Nat
 mark : Int
 top : Nat
 code : Int
abbrev aX.mem (σ : aX) (μ : Mu) : aX := { σ with μ := μ }
def yg (v : Nat) (flow : Int) : Bool := decide (v ≠ 0 ∧ ((v / 4294967296 : Nat) : Int) - 1 = flow)
def aI (σ : aX) (t : Tk) : Tk :=
 let v := σ.μ.V (10, t.s, (t.i : Int))
 { t with i := t.i + 1, found := yg v t.x.flow, obj := if yg v t.x.flow = true then v % 4294967296 else t.obj }
abbrev cj (σ : aX) (t : Tk) : aX := σ.mem (σ.μ.acc t.who 1 (10, t.s, (t.i : Int)))
def dp (σ : aX) (t : Tk) : Bool := decide (σ.c.sl ≤ (t.i : Int))
def az (σ : aX) (o : Nat) : List Pk := ((σ.obs[o]?).map (·.2)).getD []
def m9 (σ : aX) (t : Tk) : aX :=
 let n := (az σ t.obj).length
 let k := aP t.w % n
 { σ with μ := σ.μ.acc t.who 6 (16, (t.obj : Int), (k : Int)), obs := σ.obs.modify t.obj fun p => (p.1, p.2.set k ⟨t.x.flow, t.x.a, t.x.b⟩) }
abbrev oA (σ : aX) (t : Tk) : aX :=
 let n := (az σ t.obj).length
 let k := aP t.w % n
 σ.mem ((σ.μ.acc t.who 2 (15, (t.obj : Int), (k : Int))).put (15, (t.obj : Int), (k : Int)) (aP t.w + 1))
abbrev i6 (σ : aX) (t : Tk) : aX := σ.mem (σ.μ.acc t.who 1 (11, (t.obj : Int), 0))
abbrev fw (σ : aX) (t : Tk) : aX := σ.mem (σ.μ.acc t.who 1 (12, (t.obj : Int), 0))
def gT (σ : aX) (t : Tk) : Bool := gr t.w (σ.μ.V (12, (t.obj : Int), 0)) (az σ t.obj).length
abbrev lQ (σ : aX) (t : Tk) : aX := σ.mem (σ.μ.acc t.who 1 (2, 0, 0))
def ah (σ : aX) (t : Tk) (now : Int) : aX × Tk × Bool :=
 let scan (σ : aX) (t : Tk) : aX × Tk × Bool :=
  let t1 := aI σ t
  (cj σ t, { t1 with at' := if t1.found = true then 6 else if dp σ t1 = true then 3 else 2 }, false)
 match t.at' with
 | 0 => match cG t.x with
  | some e => (σ.note now t.who e, { t with code := e }, true)
  | none => scan σ t
 | 2 => scan σ t
 | 3 => let l : bV := (8, t.s, 0)
  (σ.mem (σ.μ.swp t.who l 0 1), (if σ.μ.V l = 0 then { t with at' := 4, i := 0 } else t), false)
 | 4 => let t1 := aI σ t
  if t1.found = true then (cj σ t, { t1 with at' := 5 }, false)
  else if dp σ t1 = true then ((cj σ t).note now t.who 5, { t1 with at' := 5, code := 5 }, false)
  else (cj σ t, t1, false)
 | 5 => let l : bV := (8, t.s, 0)
  (σ.mem ((σ.μ.acc t.who 2 l).put l 0), { t with at' := 6 }, !t.found)
 | 6 => (σ.mem (σ.μ.acc t.who 5 (13, (t.obj : Int), 0)), { t with at' := 7 }, false)
 | 7 => let w := σ.μ.V (11, (t.obj : Int), 0)
  (i6 σ t, { t with w := w, at' := if bi w = 2 then 3 else 8 }, false)
 | 8 => (fw σ t, { t with at' := if gT σ t = true then 15 else if bi t.w = 1 then 9 else 12 }, false)
 | 9 => let o := a9 t.w 0
  let σ1 := σ.mem (σ.μ.turn t.who t.obj t.w o)
  if f7 σ.μ t.obj t.w o = true then (σ1.note now t.who 0, { t with at' := 10, code := 0 }, false) else (σ1, { t with at' := 7 }, false)
 | 10 => (m9 σ t, { t with at' := 11 }, false)
 | 11 => (oA σ t, t, true)
 | 12 => (σ.mem (σ.μ.cnt t.who (3, 0, 0) 4294967296), { t with at' := 13 }, false)
 | 13 => let o := a9 t.w 0
  let σ1 := σ.mem (σ.μ.turn t.who t.obj t.w o)
  if f7 σ.μ t.obj t.w o = true then (σ1.note now t.who 0, { t with at' := 14, code := 0 }, false) else (σ1, { t with at' := 20 }, false)
 | 14 => (m9 σ t, { t with at' := 21 }, false)
 | 15 => let q := σ.μ.V (2, 0, 0)
  (lQ σ t, { t with q := q, at' := if q % 2 = 1 then 7 else 16 }, false)
 | 16 => let w := σ.μ.V (11, (t.obj : Int), 0)
  (i6 σ t, { t with w := w, at' := if bi w = 2 then 3 else 17 }, false)
 | 17 => (fw σ t, (if gT σ t = true then { t with at' := 18, mark := now } else { t with at' := 7 }), false)
 | 18 => if σ.μ.V (2, 0, 0) = t.q then ((lQ σ t).note t.mark t.who 9, { t with code := 9 }, true) else (lQ σ t, { t with at' := 7 }, false)
 | 20 => (σ.mem (σ.μ.cnt t.who (3, 0, 0) 1), { t with at' := 7 }, false)
 | 21 => (oA σ t, { t with at' := 22 }, false)
 | 22 => (σ.mem (σ.μ.acc t.who 1 (9, t.s, 0)), { t with top := σ.μ.V (9, t.s, 0), at' := 23 }, false)
 | 23 => ({ σ with μ := σ.μ.acc t.who 6 (14, (t.obj : Int), 0), nx := fun k => if k = (t.obj : Int) then some t.top else σ.nx k }, { t with at' := 24 }, false)
 | 24 => let l : bV := (9, t.s, 0)
  (σ.mem (σ.μ.swp t.who l t.top (t.obj + 1)), { t with at' := if σ.μ.V l = t.top then 25 else 22 }, false)
 | _ => (σ.mem (σ.μ.cnt t.who (3, 0, 0) 1), t, true)
def bq (p : Nat) (rp : List Nat) (σ : aX) : SP := ex fun g : PIds => pu (g.rp = rp ∧ rp.length = σ.obs.length) * aN p g σ
theorem eD {p : Nat} {rp : List Nat} {σ : aX} {R : SP} {H : AH} (h : ae (bq p rp σ * R) H) : ∃ g : PIds, g.rp = rp ∧ rp.length = σ.obs.length ∧ ae (aN p g σ * R) H := by
 obtain ⟨g, h1⟩ := ae.ex.1 h
 rw [ap, ae.pu] at h1
 exact ⟨g, h1.1.1, h1.1.2, h1.2⟩
theorem bu {p : Nat} {rp : List Nat} {σ : aX} {R : SP} {H : AH} (g : PIds) (h1 : g.rp = rp) (h2 : rp.length = σ.obs.length) (h : ae (aN p g σ * R) H) : ae (bq p rp σ * R) H :=
 ae.ex.2 ⟨g, by rw [ap]; exact ae.pu.2 ⟨⟨h1, h2⟩, h⟩⟩
theorem Vb {p : Nat} {σ : aX} {R : SP} {H : AH} (h : ae (d6 p σ * R) H) : ∃ rp, ae (bq p rp σ * R) H := by
 obtain ⟨g, hg, h1⟩ := kH h
 exact ⟨g.rp, bu g rfl hg h1⟩
theorem DG (m : Nat) : ∀ {ps : List (Nat × List Pk)} {i j : Nat} (h : i < ps.length), ∃ R, j5 m j ps = bW m (j + i) (ps[i]).1 (ps[i]).2 * R ∧ ∀ q : Nat × List Pk, j5 m j (ps.set i q) = bW m (j + i) q.1 q.2 * R := by
 intro ps
 induction ps with
 | nil => intro i j h; simp at h
 | cons p ps ih =>
  intro i j h
  cases i with
  | zero => exact ⟨j5 m (j + 1) ps, rfl, fun q => rfl⟩
  | succ i =>
   obtain ⟨R, e1, e2⟩ := ih (i := i) (j := j + 1) (by simpa using h)
   refine ⟨bW m j p.1 p.2 * R, ?_, fun q => ?_⟩
   ·show bW m j p.1 p.2 * j5 m (j + 1) ps = _
    rw [e1, bQ, show j + 1 + i = j + (i + 1) from by omega]; rfl
   ·show bW m j p.1 p.2 * j5 m (j + 1) (ps.set i q) = _
    rw [e2, bQ, show j + 1 + i = j + (i + 1) from by omega]
theorem DH (m : Nat) : ∀ {ps : List (Nat × List Pk)} {i j : Nat} (h : i < ps.length), ∃ R, gL m j ps = ci m (j + i) (ps[i]).1 (ps[i]).2 * R ∧ ∀ q : Nat × List Pk, gL m j (ps.set i q) = ci m (j + i) q.1 q.2 * R := by
 intro ps
 induction ps with
 | nil => intro i j h; simp at h
 | cons p ps ih =>
  intro i j h
  cases i with
  | zero => exact ⟨gL m (j + 1) ps, rfl, fun q => rfl⟩
  | succ i =>
   obtain ⟨R, e1, e2⟩ := ih (i := i) (j := j + 1) (by simpa using h)
   refine ⟨ci m j p.1 p.2 * R, ?_, fun q => ?_⟩
   ·show ci m j p.1 p.2 * gL m (j + 1) ps = _
    rw [e1, bQ, show j + 1 + i = j + (i + 1) from by omega]; rfl
   ·show ci m j p.1 p.2 * gL m (j + 1) (ps.set i q) = _
    rw [e2, bQ, show j + 1 + i = j + (i + 1) from by omega]
def WM (ns : List (Int × Nat)) (obj : Int) : Int := match ns.findIdx? fun p => p.1 == obj with
 | some i => i
 | none => -1
theorem Er {ns : List (Int × Nat)} {obj : Int} {i : Nat} (h : ∀ j, j < i → ∀ p, ns[j]? = some p → p.1 ≠ obj) :
 (∀ (hi : i < ns.length), ns[i].1 = obj → WM ns obj = i) ∧ (ns.length ≤ i → WM ns obj = -1) := by
 constructor
 ·intro hi e
  unfold WM
  have : ns.findIdx? (fun p => p.1 == obj) = some i := by
   rw [List.findIdx?_eq_some_iff_getElem]
   refine ⟨hi, by simpa using e, fun j hj => ?_⟩
   have := h j hj ns[j] (by rw [List.getElem?_eq_getElem])
   simpa using this
  rw [this]
 ·intro hi
  unfold WM
  have : ns.findIdx? (fun p => p.1 == obj) = none := by
   rw [List.findIdx?_eq_none_iff]
   intro p hp
   obtain ⟨j, hj, rfl⟩ := List.getElem_of_mem hp
   have := h j (by omega) ns[j] (by rw [List.getElem?_eq_getElem])
   simpa using this
  rw [this]
theorem Q7 (ib m : Nat) (sh : Int) (kv nv : Value) (ns : List (Int × Nat)) (hn : ns.length < 1000000) (obj : Int) :
 Sp jV [vp ib, vi obj] (blk ib (.cells false [vp m, vi sh, kv, nv]) * ts 1 jA kv (ns.map (·.1))) (fun _ : Unit => vi (WM ns obj)) (fun _ => blk ib (.cells false [vp m, vi sh, kv, nv]) * ts 1 jA kv (ns.map (·.1))) := by
 refine av fun R H h => ?_
 refine aw (fun r => vn _ _ H) ?_
 refine ag (qF _ _ _ H) ?_
 refine ag (qH _ _ _ _ H) ?_
 have loop : ∀ (d i : Nat), i + d = ns.length → (∀ j, j < i → ∀ p, ns[j]? = some p → p.1 ≠ obj) →
  wp (fM (vp ib) (vi obj) (vi 0) (vi i) H) fun v' H' => ∃ x : Unit, v' = vi (WM ns obj) ∧ ae (blk ib (.cells false [vp m, vi sh, kv, nv]) * ts 1 jA kv (ns.map (·.1)) * R) H' := by
  intro d
  induction d with
  | zero =>
   intro i hi hj
   refine ag (j2 _ _ _ _ H) ?_
   refine am h ac rfl ?_
   refine mB (s := kv) h ?_
   rw [List.length_map]
   refine aa (bI (by omega)) ?_
   with_reducible repeat refine gg ?_
   refine ag (oq _ H) ?_
   refine ag (qG _ H) ?_
   exact aq ⟨(), by rw [(Er hj).2 (by omega)], h⟩
  | succ d ih =>
   intro i hi hj
   have hil : i < ns.length := by omega
   refine ag (j2 _ _ _ _ H) ?_
   refine am h ac rfl ?_
   refine mB (s := kv) h ?_
   rw [List.length_map]
   refine aa (b4 (by omega)) ?_
   with_reducible repeat refine gg ?_
   refine ag (qI _ _ _ _ H) ?_
   refine am h ac rfl ?_
   refine Eb (s := kv) (enc := jA) (l := ns.map fun p : Int × Nat => p.1) (v := vi ns[i].1) h (i := i) (by simpa using hil) (by simp [jA]) ?_
   by_cases e : ns[i].1 = obj
   ·refine aa (bo e) ?_
    with_reducible repeat refine gg ?_
    exact aq ⟨(), by rw [(Er hj).1 hil e], h⟩
   ·refine aa (aR e) ?_
    with_reducible repeat refine gg ?_
    refine ag (qJ _ _ _ _ H) ?_
    refine aa (aB (by omega) (by omega)) ?_
    refine ih (i + 1) (by omega) fun j hj2 p hp => ?_
    rcases Nat.lt_succ_iff_lt_or_eq.1 hj2 with h1 | rfl
    ·exact hj j h1 p hp
    ·rw [List.getElem?_eq_getElem hil] at hp
     obtain rfl := Option.some.inj hp
     exact e
 exact loop ns.length 0 (by omega) (fun j hj => by omega)
theorem Rr {ns : List (Int × Nat)} {obj : Int} (h : ns.findIdx? (fun p => p.1 == obj) = none) : WM ns obj = -1 := by unfold WM; rw [h]
theorem Rs {ns : List (Int × Nat)} {obj : Int} {i : Nat} (h : ns.findIdx? (fun p => p.1 == obj) = some i) : WM ns obj = i := by unfold WM; rw [h]
theorem PC {ns : List (Int × Nat)} {obj : Int} (h : ns.findIdx? (fun p => p.1 == obj) = none) (n : Nat) (k : Int) : zZ (ns ++ [(obj, n)]) k = if k = obj then some n else zZ ns k := by
 have hn : ns.find? (fun p => p.1 == obj) = none := by
  rw [List.find?_eq_none]
  rw [List.findIdx?_eq_none_iff] at h
  intro p hp
  have := h p hp
  simpa using this
 unfold zZ
 rw [List.find?_append]
 by_cases e : k = obj
 ·subst e
  rw [hn, if_pos rfl]
  simp
 ·rw [if_neg e]
  have : ([(obj, n)] : List (Int × Nat)).find? (fun p => p.1 == k) = none := by
   rw [List.find?_eq_none]
   intro p hp
   obtain rfl : p = (obj, n) := by simpa using hp
   simpa using fun q => e q.symm
  rw [this]
  cases ns.find? (fun p => p.1 == k) <;> rfl
theorem UW (obj : Int) (n : Nat) (k : Int) : ∀ {ns : List (Int × Nat)} {i : Nat}, ns.findIdx? (fun p => p.1 == obj) = some i → zZ (ns.set i (obj, n)) k = if k = obj then some n else zZ ns k := by
 intro ns
 induction ns with
 | nil => intro i h; simp at h
 | cons p ns ih =>
  intro i h
  rw [List.findIdx?_cons] at h
  by_cases e : p.1 = obj
  ·rw [if_pos (by simpa using e)] at h
   obtain rfl := Option.some.inj h
   simp only [List.set_cons_zero, zZ, List.find?_cons]
   by_cases e2 : k = obj
   ·subst e2; simp
   ·have h1 : ((obj == k) : Bool) = false := by simpa using fun q => e2 q.symm
    have h2 : ((p.1 == k) : Bool) = false := by rw [e]; exact h1
    simp [h1, h2, e2]
  ·rw [if_neg (by simpa using e)] at h
   obtain ⟨j, hj, rfl⟩ := Option.map_eq_some_iff.1 h
   have := ih hj
   simp only [List.set_cons_succ, zZ, List.find?_cons] at this ⊢
   by_cases e2 : p.1 = k
   ·have h1 : ((p.1 == k) : Bool) = true := by simpa using e2
    simp only [h1]
    rw [if_neg (fun q => e (e2.trans q))]
   ·have h1 : ((p.1 == k) : Bool) = false := by simpa using e2
    simp only [h1]
    exact this
theorem G6 (ib m : Nat) (sh : Int) (nx : Int → Option Nat) (L : Nat) (μ : Mu) (who obj : Int) (next : Nat) (hL : L < 900000) (hE : μ.N < 1099511627000) :
 Sp ij [vp ib, vi who, vi obj, vu next] (fR ib m sh nx L * bk m μ) (fun _ : Unit => .tuple #[]) (fun _ => fR ib m sh (fun k => if k = obj then some next else nx k) (L + 1) * bk m (μ.acc who 6 (14, obj, 0))) := by
 refine av fun R H h => ?_
 obtain ⟨kv, nv, ns, ⟨hn, hl⟩, h0⟩ := lF (ib := ib) (m := m) (sh := sh) (nx := nx) (L := L) (R := bk m μ * R) (H := H) h.to
 refine aw (fun r => sH _ _ _ _ H) ?_
 refine aJ ac ?_
 refine aE h0 rfl ?_
 refine af h0 (cV 14 obj 0) fun _ H1 h1 => ?_
 refine aD h1 h0 (by rfl) ?_
 refine af h1 ((Q8 m μ who 6 (14, obj, 0) (by omega)).imp fun _ R H h => sf (N' := μ.N + 2) (by simp) h) fun _ H2 h2 => ?_
 refine af h2 (Q7 ib m sh kv nv ns (by omega) obj) fun _ H3 h3 => ?_
 cases hf : ns.findIdx? (fun p => p.1 == obj) with
 | none =>
  rw [Rr hf]
  refine aa (b4 (by omega)) ?_
  with_reducible repeat refine gg ?_
  refine am h3 ac rfl ?_
  refine j8 h3 fun b0 H4 h4 => ?_
  refine gQ (s := kv) (l := ns.map fun p : Int × Nat => p.1) (obj : Int) h4 rfl ?_ (by omega) fun a c H5 h5 => ?_
  ·unfold cC; simp only [List.length_map]; omega
  refine aJ ac ?_
  refine aE h5 rfl ?_
  refine aD h4 h5 (by rfl) ?_
  refine j8 h5 fun b1 H6 h6 => ?_
  refine gQ (s := nv) (l := ns.map fun p : Int × Nat => p.2) (next : Nat) h6 rfl ?_ (by omega) fun a2 c2 H7 h7 => ?_
  ·unfold cC; simp only [List.length_map]; omega
  refine aL h7 ac rfl rfl fun H8 h8 => ?_
  refine aL h8 ac rfl rfl fun H9 h9 => ?_
  have e1 : (ns ++ [(obj, next)]).map (fun p : Int × Nat => p.1) = (ns.map fun p : Int × Nat => p.1) ++ [obj] := by rw [List.map_append]; rfl
  have e2 : (ns ++ [(obj, next)]).map (fun p : Int × Nat => p.2) = (ns.map fun p : Int × Nat => p.2) ++ [next] := by rw [List.map_append]; rfl
  refine aq ⟨(), rfl, ?_⟩
  have h10 := fS (ib := ib) (m := m) (sh := sh) (nx := fun k => if k = obj then some next else nx k) (L := L + 1) (kv := .slice a ((ns.map fun p : Int × Nat => p.1).length + 1) c) (nv := .slice a2 ((ns.map fun p : Int × Nat => p.2).length + 1) c2) (ns := ns ++ [(obj, next)])
   (R := bk m (μ.acc who 6 (14, obj, 0)) * R) (H := H9) ⟨fun k => by rw [PC hf, hn], by simp; omega⟩ (by rw [e1, e2]; exact h9.to)
  exact h10.to
 | some i =>
  rw [Rs hf]
  have hi := (List.findIdx?_eq_some_iff_getElem.1 hf)
  obtain ⟨hil, hk, _⟩ := hi
  refine aa (bI (by omega)) ?_
  with_reducible repeat refine gg ?_
  refine am h3 ac rfl ?_
  refine G4 (s := nv) (l := ns.map fun p : Int × Nat => p.2) (i := i) (next : Nat) h3 (by simpa using hil) (.inl ⟨rfl, rfl⟩) rfl (by omega) rfl (by simp [HO, splice]) fun H4 h4 => ?_
  have e1 : (ns.set i (obj, next)).map (fun p : Int × Nat => p.1) = ns.map fun p : Int × Nat => p.1 := by
   rw [List.map_set]
   apply List.ext_getElem?
   intro j
   rw [List.getElem?_set]
   split
   ·rename_i e
    subst e
    have hk : ns[i].1 = obj := by simpa using hk
    simp [hil, hk]
   ·rfl
  have e2 : (ns.set i (obj, next)).map (fun p : Int × Nat => p.2) = (ns.map fun p : Int × Nat => p.2).set i next := by rw [List.map_set]
  refine aq ⟨(), rfl, ?_⟩
  have h10 := fS (ib := ib) (m := m) (sh := sh) (nx := fun k => if k = obj then some next else nx k) (L := L + 1) (kv := kv) (nv := nv) (ns := ns.set i (obj, next))
   (R := bk m (μ.acc who 6 (14, obj, 0)) * R) (H := H4) ⟨fun k => by rw [UW obj next k hf, hn], by rw [List.length_set]; omega⟩ (by rw [e1, e2]; exact h4.to)
  exact h10.to
theorem re {σ : aX} {o : Nat} (ho : o < σ.obs.length) : az σ o = (σ.obs[o]).2 := by
 unfold az
 rw [List.getElem?_eq_getElem ho]; rfl
theorem uE (p : Nat) (g : PIds) (σ : aX) (o b : Nat) (hl : g.rp.length = σ.obs.length) (ho : o < σ.obs.length) (hb : g.rp[o]? = some b) :
 ∃ R, aN p g σ = bW g.m o b (az σ o) * bj g.m σ.μ * R ∧ ∀ μ' cs', aN p g { σ with μ := μ', obs := σ.obs.modify o fun q => (q.1, cs') } = bW g.m o b cs' * bj g.m μ' * R := by
 have hz : o < (g.rp.zip (σ.obs.map fun x => x.2)).length := by simp; omega
 obtain ⟨R, e1, e2⟩ := DG g.m (ps := g.rp.zip (σ.obs.map fun x => x.2)) (j := 0) hz
 have hrp : g.rp[o]'(by omega) = b := by
  rw [List.getElem?_eq_getElem (by omega)] at hb
  exact Option.some.inj hb
 have e3 : (g.rp.zip (σ.obs.map fun x => x.2))[o] = (b, az σ o) := by
  rw [List.getElem_zip, re ho, List.getElem_map, hrp]
 rw [e3] at e1
 rw [Nat.zero_add] at e1 e2
 refine ⟨blk p (.cells false [vp g.m, vp g.ib, vp g.tb, vp g.po, vp g.co, vi σ.c.sh, vi σ.c.sl, vi σ.c.wk, vi σ.c.wd, vu σ.c.un, g.ov, .map (some g.pm), g.pv]) * (i9 g.ib g.m g.nm σ.c σ.nx * (tab g.tb g.m σ.c.sh.toNat σ.c.sl.toNat * (ts 4 EK g.ov ((σ.obs.map fun x => x.1).zip g.rp) * (R *
  (Rb Ha g.pm (fun k => (σ.places k).map fun n => vi n) * ts 7 Pt.cells g.pv σ.pts))))), ?_, fun μ' cs' => ?_⟩
 ·unfold aN
  rw [e1]
  ac_rfl
 ·unfold aN
  dsimp only
  have e4 : (σ.obs.modify o fun q => (q.1, cs')).map (fun x => x.1) = σ.obs.map fun x => x.1 := by
   apply List.ext_getElem?
   intro j
   simp only [List.getElem?_map, List.getElem?_modify]
   cases σ.obs[j]? with
   | none => rfl
   | some q => simp only [Option.map_some]; split <;> rfl
  have e5 : g.rp.zip ((σ.obs.modify o fun q => (q.1, cs')).map fun x => x.2) = (g.rp.zip (σ.obs.map fun x => x.2)).set o (b, cs') := by
   apply List.ext_getElem?
   intro j
   rw [List.getElem?_set]
   by_cases hj : o = j
   ·subst hj
    rw [if_pos rfl, if_pos hz]
    exact List.getElem?_zip_eq_some.2 ⟨hb, by simp [List.getElem?_modify, List.getElem?_eq_getElem ho]⟩
   ·rw [if_neg hj]
    have : (List.map (fun x => x.2) (σ.obs.modify o fun q => (q.1, cs')))[j]? = (σ.obs.map fun x => x.2)[j]? := by
     simp only [List.getElem?_map, List.getElem?_modify]
     cases σ.obs[j]? with
     | none => rfl
     | some q => show some (if o = j then (q.1, cs') else q).2 = some q.2; rw [if_neg hj]
    simp only [List.zip, List.getElem?_zipWith, this]
  rw [e4, e5, e2]
  ac_rfl
theorem FX {σ : aX} {o : Nat} (ho : o < σ.obs.length) : (σ.obs.modify o fun q => (q.1, az σ o)) = σ.obs := by
 apply List.ext_getElem?
 intro j
 rw [List.getElem?_modify]
 cases hj : σ.obs[j]? with
 | none => rfl
 | some q =>
  show some (if o = j then _ else _) = some q
  by_cases e : o = j
  ·subst e
   rw [if_pos rfl]
   unfold az
   rw [hj]; rfl
  ·rw [if_neg e]
section
variable {f : Nat} {args : List Value} {v : Unit → Value} {p : Nat} {g : PIds} {σ : aX} {o b : Nat}
theorem Re {μ' : Mu} {cs' : List Pk} (hl : g.rp.length = σ.obs.length) (ho : o < σ.obs.length) (hb : g.rp[o]? = some b)
 (s : Sp f args (bW g.m o b (az σ o) * bj g.m σ.μ) v (fun _ => bW g.m o b cs' * bj g.m μ')) :
 Sp f args (aN p g σ) v (fun _ => aN p g { σ with μ := μ', obs := σ.obs.modify o fun q => (q.1, cs') }) := by
 obtain ⟨R', e1, e2⟩ := uE p g σ o b hl ho hb
 intro R H h
 rw [e1, ap] at h
 obtain ⟨x, H', h1, h2⟩ := s _ _ h
 exact ⟨x, H', h1, by rw [e2, ap]; exact h2⟩
theorem j9 {μ' : Mu} (hl : g.rp.length = σ.obs.length) (ho : o < σ.obs.length) (hb : g.rp[o]? = some b)
 (s : Sp f args (bW g.m o b (az σ o) * bj g.m σ.μ) v (fun _ => bW g.m o b (az σ o) * bj g.m μ')) :
 Sp f args (aN p g σ) v (fun _ => aN p g (σ.mem μ')) := by
 have := Re (p := p) hl ho hb s
 rw [FX ho] at this
 exact this
theorem KL (hl : g.rp.length = σ.obs.length) (ho : o < σ.obs.length) (hb : g.rp[o]? = some b)
 (s : Sp f args (bW g.m o b (az σ o)) v (fun _ => bW g.m o b (az σ o))) :
 Sp f args (aN p g σ) v (fun _ => aN p g σ) := by
 obtain ⟨R', e1, _⟩ := uE p g σ o b hl ho hb
 intro R H h
 rw [e1, ap, ap] at h
 obtain ⟨x, H', h1, h2⟩ := s _ _ h
 exact ⟨x, H', h1, by rw [e1, ap, ap]; exact h2⟩
theorem Rf {μ' : Mu} (s : Sp f args (tab g.tb g.m σ.c.sh.toNat σ.c.sl.toNat * bj g.m σ.μ) v (fun _ => tab g.tb g.m σ.c.sh.toNat σ.c.sl.toNat * bj g.m μ')) :
 Sp f args (aN p g σ) v (fun _ => aN p g (σ.mem μ')) := by
 intro R H h
 unfold aN at h
 obtain ⟨x, H', h1, h2⟩ := s _ H (ae.fr (A := tab g.tb g.m σ.c.sh.toNat σ.c.sl.toNat * bj g.m σ.μ) h)
 refine ⟨x, H', h1, ?_⟩
 unfold aN
 exact h2.to
theorem Rg (s : Sp f args (tab g.tb g.m σ.c.sh.toNat σ.c.sl.toNat) v (fun _ => tab g.tb g.m σ.c.sh.toNat σ.c.sl.toNat)) :
 Sp f args (aN p g σ) v (fun _ => aN p g σ) := by
 intro R H h
 unfold aN at h
 obtain ⟨x, H', h1, h2⟩ := s _ H (ae.fr (A := tab g.tb g.m σ.c.sh.toNat σ.c.sl.toNat) h)
 refine ⟨x, H', h1, ?_⟩
 unfold aN
 exact h2.to
theorem KJ {μ' : Mu} (s : Sp f args (bj g.m σ.μ) v (fun _ => bj g.m μ')) : Sp f args (aN p g σ) v (fun _ => aN p g (σ.mem μ')) := by
 intro R H h
 unfold aN at h
 obtain ⟨x, H', h1, h2⟩ := s _ H (ae.fr (A := bj g.m σ.μ) h)
 refine ⟨x, H', h1, ?_⟩
 unfold aN
 exact h2.to
theorem Af {μ' : Mu} {nx' : Int → Option Nat} (s : Sp f args (i9 g.ib g.m g.nm σ.c σ.nx * bj g.m σ.μ) v (fun _ => i9 g.ib g.m g.nm σ.c nx' * bj g.m μ')) :
 Sp f args (aN p g σ) v (fun _ => aN p g { σ with μ := μ', nx := nx' }) := by
 intro R H h
 unfold aN at h
 obtain ⟨x, H', h1, h2⟩ := s _ H (ae.fr (A := i9 g.ib g.m g.nm σ.c σ.nx * bj g.m σ.μ) h)
 refine ⟨x, H', h1, ?_⟩
 unfold aN
 exact h2.to
end
instance aaX (p : Nat) (g : PIds) (σ : aX) : Hs (aN p g σ) p (.cells false [vp g.m, vp g.ib, vp g.tb, vp g.po, vp g.co, vi σ.c.sh, vi σ.c.sl, vi σ.c.wk, vi σ.c.wd, vu σ.c.un, g.ov, .map (some g.pm), g.pv]) := ⟨by
 intro H h
 unfold aN at h
 exact h.left.get⟩
theorem mC {P P0 R : SP} {H : AH} {b fn : Nat} {args : List Value} {c : Int} {d : Bool} {Q0 : Unit → SP} {Q : Value → AH → Prop} (h : ae P H)
 (s : Sp fn args P0 (fun _ : Unit => .tuple #[.agg (gK c).toArray, vb d]) Q0) [fr : Fr P (P0 * blk b (.cells false [vi 0, .slice none 0 0, vi 0, vw 0])) R]
 (hk : ∀ H', ae (Q0 () * R) H' → Q (.tuple #[.agg (gK c).toArray, vb d]) H') :
 wp ((FF fn args H).bind fun r2 => (ai r2.1 0).bind fun v3 => (ai r2.1 1).bind fun v4 => (cW 4 (vp b) v3 r2.2).bind fun H5 => (aA 4 (vp b) H5).bind fun v6 => some (Value.tuple #[v6, v4], H5)) Q := by
 have h0 : ae (P0 * (blk b (.cells false [vi 0, .slice none 0 0, vi 0, vw 0]) * R)) H := by
  have := ae.fr (A := P0 * blk b (.cells false [vi 0, .slice none 0 0, vi 0, vw 0])) h
  rw [ap] at this
  exact this
 refine af h0 s fun _ H1 h1 => ?_
 refine aa (v := .agg (gK c).toArray) rfl ?_
 refine aa (v := vb d) rfl ?_
 refine bZ h1 rfl rfl fun H2 h2 => ?_
 refine aM h2 ?_
 exact aq (hk H2 h2.to)
abbrev Pn (e n : Nat) : Value := .func (.func n) #[vp e] #[]
abbrev eB (e p : Nat) (nx rv : Value) (t : Tk) : SP :=
 blk e (.cells false [vp p, vi t.who, vi t.x.op, vi t.x.flow, vi t.x.a, vi t.x.b, vi t.s, nx, vi t.i, vi t.obj, vb t.found, rv, vu t.w, vu t.q, vi t.mark, vu t.top])
def vg : Nat → Nat
 | 0 => jQ | 2 => ic | 3 => cq | 4 => dc | 5 => dd | 6 => eM | 7 => bC | 8 => jm
 | 9 => ia | 10 => lJ | 11 => jq | 12 => hZ | 13 => jr | 14 => jk | 15 => lK | 16 => dy
 | 17 => dx | 18 => dX | 20 => ji | 21 => ie | 22 => cM | 23 => jn | 24 => jp | _ => lI
def DI (rp : List Nat) (t : Tk) (v : Value) : Prop := 7 ≤ t.at' → ∃ b, rp[t.obj]? = some b ∧ v = vp b
def eP (e p : Nat) (rp : List Nat) (σ : aX) (t : Tk) : SP := ex fun v : Value => pu (DI rp t v) * (eB e p (Pn e (vg t.at')) v t * bq p rp σ)
def eQ (e p : Nat) (rp : List Nat) (r : aX × Tk × Bool) : SP := if r.2.2 = true then bq p rp r.1 else eP e p rp r.1 r.2.1
abbrev cT (r : aX × Tk × Bool) : Value := .tuple #[.agg (gK (if r.2.2 = true then r.2.1.code else 0)).toArray, vb r.2.2]
theorem K6 {e p : Nat} {rp : List Nat} {σ : aX} {t : Tk} {R : SP} {H : AH} (h : ae (eP e p rp σ t * R) H) : ∃ v, DI rp t v ∧ ae (eB e p (Pn e (vg t.at')) v t * (bq p rp σ * R)) H := by
 obtain ⟨v, h1⟩ := ae.ex.1 h
 rw [ap, ae.pu] at h1
 exact ⟨v, h1.1, h1.2.to⟩
theorem EJ {e p : Nat} {rp : List Nat} {σ : aX} {t : Tk} {R : SP} {H : AH} {v : Value} {n : Nat} (hv : DI rp t v) (hn : vg t.at' = n) (h : ae (eB e p (Pn e n) v t * (bq p rp σ * R)) H) : ae (eP e p rp σ t * R) H := by
 subst hn
 exact ae.ex.2 ⟨v, by rw [ap]; exact ae.pu.2 ⟨hv, h.to⟩⟩
section
variable (e p : Nat)
theorem Zu (nx rv : Value) (n : Nat) (t : Tk) : Sp bf [vp e, Pn e n] (eB e p nx rv t) (fun _ : Unit => .tuple #[.agg (gK 0).toArray, vb false]) (fun _ => eB e p (Pn e n) rv t) := by
 refine av fun R H h => ?_
 refine aw (fun r => RJ _ _ H) ?_
 refine aO h fun b H1 h1 => ?_
 refine aL h1 ac rfl rfl fun H2 h2 => ?_
 refine dZ ?_
 refine bZ h2 rfl rfl fun H3 h3 => ?_
 refine aM h3 ?_
 exact aq ⟨(), rfl, h3.to⟩
theorem abG (rp : List Nat) (σ : aX) (step who code : Int) (hp : σ.pts.length < 1000000) : Sp fX [vp p, vi step, vi who, .agg (gK code).toArray] (bq p rp σ) (fun _ : Unit => .tuple #[]) (fun _ => bq p rp (σ.note step who code)) := by
 refine av fun R H h => ?_
 obtain ⟨g, hrp, hg, h0⟩ := eD h
 unfold aN at h0
 refine aw (fun r => pD _ _ _ _ H) ?_
 refine aH h0 fun b1 H1 h1 => ?_
 refine aJ ac ?_
 refine aE h1 rfl ?_
 refine aJ ac ?_
 refine aE h1 rfl ?_
 refine ND (ek := Ha) who h1 ?_
 refine aM h1 ?_
 refine af h1 (pT code) fun _ H2 h2 => ?_
 refine aD h2 h1 rfl ?_
 refine aD h2 h1 rfl ?_
 refine Wq who h2 h1 ?_
 have ev : (((σ.places who).map fun n => vi n).getD (vi 0)) = vi ((σ.places who).getD 0) := by cases σ.places who <;> rfl
 rw [ev]
 refine dZ ?_
 refine j8 h2 fun b0 H3 h3 => ?_
 refine gQ (⟨step, who, (σ.places who).getD 0, code⟩ : Pt) h3 rfl ?_ (by omega) fun a cc H4 h4 => ?_
 ·unfold cC; omega
 refine aL h4 ac rfl rfl fun H5 h5 => ?_
 refine aq ⟨(), rfl, ?_⟩
 refine bu { g with pv := .slice a (σ.pts.length + 1) cc } hrp hg ?_
 unfold aN aX.note
 exact h5.to
theorem rm (rp : List Nat) (σ : aX) (nx rv : Value) (t : Tk) (now code : Int) (hp : σ.pts.length < 1000000) :
 Sp jo [vp e, vi now, vi code] (eB e p nx rv t * bq p rp σ) (fun _ : Unit => .tuple #[]) (fun _ => eB e p nx rv t * bq p rp (σ.note now t.who code)) := by
 refine av fun R H h => ?_
 refine aw (fun r => HI _ _ _ H) ?_
 refine am h ac rfl ?_
 refine am h ac rfl ?_
 refine dZ ?_
 refine af h (abG p rp σ now t.who code hp) fun _ H1 h1 => ?_
 exact aq ⟨(), rfl, h1.to⟩
theorem uq (rp : List Nat) (σ : aX) (nx rv : Value) (t : Tk) (now code : Int) (hp : σ.pts.length < 1000000) :
 Sp gi [vp e, vi now, vi code] (eB e p nx rv t * bq p rp σ) (fun _ : Unit => .tuple #[.agg (gK code).toArray, vb true]) (fun _ => eB e p nx rv t * bq p rp (σ.note now t.who code)) := by
 refine av fun R H h => ?_
 refine aw (fun r => BN _ _ _ H) ?_
 refine aO h fun b H1 h1 => ?_
 refine af h1 (rm e p rp σ nx rv t now code hp) fun _ H2 h2 => ?_
 exact mC h2 (rk (vp e) code) fun H3 h3 => ⟨(), rfl, h3.to⟩
end
theorem Yf {α : Type} {P : SP} {H : AH} {e n g i : Nat} {enc : α → List Value} {l : List α} {s : Value} {Q : Value → AH → Prop} {k : Value → OV} {kk : IntKind} {cs : List Value} (h : ae P H) [r : Rd P s e enc l] [E : Enc enc e] (hi : i < l.length) (hg : g + n ≤ e)
 (hc : ((enc l[i]).drop g).take n = cs) (hk : wp (k (.agg cs.toArray)) Q) : wp (ldN n [.i e (.int kk (i : Int)), .f g] s H k) Q := by
 subst hc
 obtain ⟨b, o, ro, row, rfl, h2, h3, h4⟩ := JJ (s := s) (enc := enc) (l := l) h hi
 unfold ldN
 rw [Rn hi, aa2]
 have hm : (i + 1) * e ≤ l.length * e := Nat.mul_le_mul_right _ (by omega)
 rw [Nat.add_mul] at hm
 have : aA n (qY b (o + i * e + g)) H = some (.agg (((enc l[i]).drop g).take n).toArray) := by
  simp only [aA, qX, dn, Option.bind_some, h2]
  rw [if_pos (by omega)]
  congr 3
  rw [← CW E.len l i hi, ← h4, List.drop_take, List.drop_take, List.drop_take, List.drop_drop, List.drop_drop, List.take_take, List.take_take, Nat.min_eq_left (by omega), Nat.min_eq_left (by omega), Nat.add_assoc]
 show wp ((aA n (qY b (o + i * e + g)) H).bind k) Q
 rw [this]; exact hk
structure SOk (σ : aX) : Prop where
 c : cI σ.c = true
 N : σ.μ.N < 800000
 pts : σ.pts.length < 900000
 V : ∀ l, σ.μ.V l < 18446744073709551616
 obs : σ.obs.length < 900000
 cells : ∀ o, o < σ.obs.length → 1 ≤ (az σ o).length ∧ (az σ o).length < 1000
 slot : ∀ s i, σ.μ.V (10, s, i) ≠ 0 → σ.μ.V (10, s, i) % 4294967296 < σ.obs.length
structure ef (σ : aX) (t : Tk) : Prop where
 obj : 6 ≤ t.at' ∨ t.at' = 5 ∧ t.found = true → t.obj < σ.obs.length
 s : t.s = (t.x.flow.tmod σ.c.sh + σ.c.sh).tmod σ.c.sh
 i : t.at' < 5 → t.at' ≠ 3 → (t.i : Int) < σ.c.sl
 w : t.w < 18446744073709551616
 c5 : t.at' = 5 → t.found = false → t.code = 5
 c0 : t.at' = 10 ∨ t.at' = 11 ∨ t.at' = 14 ∨ 21 ≤ t.at' → t.code = 0
 ats : t.at' = 0 ∨ t.at' = 2 ∨ t.at' = 3 ∨ t.at' = 4 ∨ t.at' = 5 ∨ t.at' = 6 ∨ t.at' = 7 ∨ t.at' = 8 ∨ t.at' = 9 ∨ t.at' = 10 ∨ t.at' = 11 ∨ t.at' = 12 ∨ t.at' = 13 ∨ t.at' = 14 ∨ t.at' = 15 ∨ t.at' = 16 ∨ t.at' = 17 ∨ t.at' = 18 ∨ t.at' = 20 ∨ t.at' = 21 ∨ t.at' = 22 ∨ t.at' = 23 ∨ t.at' = 24 ∨ t.at' = 25
section
variable (e p : Nat) (rp : List Nat) (g : PIds) (σ : aX) (nx rv : Value) (t : Tk) (now : Int)
theorem uF (hl : g.rp.length = σ.obs.length) (o : Nat) (ho : o < σ.obs.length) : Sp dM [vp p, vi o] (aN p g σ) (fun _ : Unit => vb true) (fun _ => aN p g σ) := by
 have hz : ((σ.obs.map fun x => x.1).zip g.rp).length = σ.obs.length := by simp [hl]
 refine av fun R H h => ?_
 have h0 := h
 unfold aN at h0
 refine aw (fun r => pG _ _ H) ?_
 refine aa (uy (by omega)) ?_
 with_reducible repeat refine gg ?_
 refine am h ac rfl ?_
 with_reducible repeat refine gg ?_
 refine px (s := g.ov) h0 ?_
 rw [hz]
 with_reducible repeat refine gg ?_
 refine aa (b4 (by omega)) ?_
 with_reducible repeat refine gg ?_
 exact aq ⟨(), rfl, h⟩
theorem F4 (hl : g.rp.length = σ.obs.length) (o b : Nat) (ho : o < σ.obs.length) (hb : g.rp[o]? = some b) : Sp fY [vp p, vi o] (aN p g σ) (fun _ : Unit => vp b) (fun _ => aN p g σ) := by
 have hz : ((σ.obs.map fun x => x.1).zip g.rp).length = σ.obs.length := by simp [hl]
 refine av fun R H h => ?_
 refine aw (fun r => pE _ _ H) ?_
 refine af h (uF p g σ hl o ho) fun _ H1 h1 => ?_
 with_reducible repeat refine gg ?_
 rw [Bool.not_true]
 with_reducible repeat refine gg ?_
 refine am h1 ac rfl ?_
 have h2 := h1
 unfold aN at h2
 have hb' : g.rp[o]'(by omega) = b := by rw [List.getElem?_eq_getElem (by omega)] at hb; exact Option.some.inj hb
 refine Ws (v := vp b) (enc := EK) (l := (σ.obs.map fun x : Ob × List Pk => x.1).zip g.rp) h2 (by omega) (by omega) ?_ ?_
 ·show some (vp ((σ.obs.map fun x => x.1).zip g.rp)[o].2) = _
  rw [List.getElem_zip, hb']
 exact aq ⟨(), rfl, h1.to⟩
theorem Jn (hl : g.rp.length = σ.obs.length) (who : Int) (o : Nat) (ho : o < σ.obs.length) (hN : σ.μ.N < 800000) : Sp gy [vp p, vi who, vi o] (aN p g σ) (fun v : Value => v) (fun _ => aN p g (σ.mem (σ.μ.acc who 5 (13, (o : Int), 0)))) := by
 have hz : ((σ.obs.map fun x => x.1).zip g.rp).length = σ.obs.length := by simp [hl]
 refine av fun R H h => ?_
 refine aw (fun r => qB _ _ _ H) ?_
 refine aO h fun b H1 h1 => ?_
 refine af h1 (uF p g σ hl o ho) fun _ H2 h2 => ?_
 with_reducible repeat refine gg ?_
 rw [Bool.not_true]
 with_reducible repeat refine gg ?_
 refine am h2 ac rfl ?_
 refine dZ ?_
 refine af h2 (KJ (p := p) (g := g) (σ := σ) ((UK g.m σ.μ who (13, (o : Int), 0) (by omega)).imp fun _ R H h => jb (N' := σ.μ.N + 2) (by simp) h)) fun _ H3 h3 => ?_
 refine am h3 ac rfl ?_
 have h4 := h3
 unfold aN at h4
 refine Yf (enc := EK) (l := (σ.obs.map fun x : Ob × List Pk => x.1).zip g.rp) h4 (by omega) (by omega) (show _ = [_, _, _] from rfl) ?_
 refine bZ h3 rfl rfl fun H5 h5 => ?_
 refine aM h5 ?_
 exact aq ⟨_, rfl, h5.to⟩
theorem yF (who : Int) (hN : σ.μ.N < 800000) : Sp d9 [vp p, vi who] (aN p g σ) (fun _ : Unit => vu (σ.μ.V (2, 0, 0))) (fun _ => aN p g (σ.mem (σ.μ.acc who 1 (2, 0, 0)))) := by
 refine av fun R H h => ?_
 refine aw (fun r => qC _ _ H) ?_
 refine am h ac rfl ?_
 refine dZ ?_
 refine af h (KJ (p := p) (g := g) (σ := σ) (yC g.m σ.μ who (2, 0, 0) (by omega))) fun _ H1 h1 => ?_
 exact aq ⟨(), rfl, h1.to⟩
theorem F5 (who : Int) (hN : σ.μ.N < 800000) : Sp cQ [vp p, vi who] (aN p g σ) (fun _ : Unit => .tuple #[]) (fun _ => aN p g (σ.mem (σ.μ.cnt who (2, 0, 0) 1))) := by
 refine av fun R H h => ?_
 refine aw (fun r => pF _ _ H) ?_
 refine am h ac rfl ?_
 refine dZ ?_
 refine af h (KJ (p := p) (g := g) (σ := σ) (U9 g.m σ.μ who (2, 0, 0) 1 (by omega))) fun _ H1 h1 => ?_
 exact aq ⟨(), rfl, h1.to⟩
theorem ze (b : Bool) (h : yg (σ.μ.V (10, t.s, (t.i : Int))) t.x.flow = b) : aI σ t = { t with i := t.i + 1, found := b, obj := if b = true then σ.μ.V (10, t.s, (t.i : Int)) % 4294967296 else t.obj } := by
 subst h
 rfl
theorem K9 (S : SOk σ) (hi : (t.i : Int) < σ.c.sl) : Sp sj [vp e] (eB e p nx rv t * aN p g σ) (fun _ : Unit => vb (dp σ (aI σ t))) (fun _ => eB e p nx rv (aI σ t) * aN p g (cj σ t)) := by
 have hc := bT.1 S.c
 refine av fun R H h => ?_
 refine aw (fun r => N4 _ H) ?_
 refine am h ac rfl ?_
 refine am h ac rfl ?_
 refine am h ac rfl ?_
 refine am h ac rfl ?_
 refine am h ac rfl ?_
 refine af h (Rf (p := p) (g := g) (σ := σ) (GR g.tb g.m σ.c.sh.toNat σ.c.sl.toNat σ.μ t.who t.s t.i (by have := S.N; omega) (S.V _))) fun _ H1 h1 => ?_
 have fin : ∀ (t1 : Tk) (H' : AH), t1.i = t.i + 1 → ae (eB e p nx rv t1 * (aN p g (cj σ t) * R)) H' → wp (oT (vp e) (vb false) H') fun v' H' => ∃ _x : Unit, v' = vb (dp σ t1) ∧ ae (eB e p nx rv t1 * aN p g (cj σ t) * R) H' := by
  intro t1 H' hi1 h'
  refine ag (BM _ _ H') ?_
  refine aJ ac ?_
  refine aE h' rfl ?_
  refine am h' ac rfl ?_
  refine am h' ac rfl ?_
  refine af h' (Rg (p := p) (g := g) (σ := cj σ t) (GS g.tb g.m σ.c.sh.toNat σ.c.sl.toNat)) fun _ H2 h2 => ?_
  refine aD h2 h' (by rfl) ?_
  refine aa (v := vb (dp σ t1)) ?_ ?_
  ·rw [vF]
   congr 3
   apply propext
   omega
  exact aq ⟨(), rfl, h2.to⟩
 by_cases hv : σ.μ.V (10, t.s, (t.i : Int)) = 0
 ·have e1 : kM (σ.μ.V (10, t.s, (t.i : Int))) = .tuple #[vi 0, vi 0, vb false] := by rw [kM, if_pos hv]
  rw [e1]
  refine aa (v := vi 0) rfl ?_
  refine aa (v := vi 0) rfl ?_
  refine aa (v := vb false) rfl ?_
  refine am h1 ac rfl ?_
  refine aa (aB (by omega) (by omega)) ?_
  rw [show ((t.i : Nat) : Int) + 1 = ((t.i + 1 : Nat) : Int) from by omega]
  refine aL h1 ac rfl rfl fun H2 h2 => ?_
  refine ag (rh _ _ _ _ _ H2) ?_
  with_reducible repeat refine gg ?_
  refine aL h2 ac rfl rfl fun H3 h3 => ?_
  refine am h3 ac rfl ?_
  with_reducible repeat refine gg ?_
  have e2 : aI σ t = { t with i := t.i + 1, found := false } := by
   have : yg (σ.μ.V (10, t.s, (t.i : Int))) t.x.flow = false := by simp [yg, hv]
   exact (ze σ t _ this).trans rfl
  rw [e2]
  exact fin _ H3 rfl h3.to
 ·have e1 : kM (σ.μ.V (10, t.s, (t.i : Int))) = .tuple #[vi ((σ.μ.V (10, t.s, (t.i : Int)) / 4294967296 : Nat) - 1), vi (σ.μ.V (10, t.s, (t.i : Int)) % 4294967296 : Nat), vb true] := by rw [kM, if_neg hv]
  rw [e1]
  refine aa (v := vi ((σ.μ.V (10, t.s, (t.i : Int)) / 4294967296 : Nat) - 1)) rfl ?_
  refine aa (v := vi (σ.μ.V (10, t.s, (t.i : Int)) % 4294967296 : Nat)) rfl ?_
  refine aa (v := vb true) rfl ?_
  refine am h1 ac rfl ?_
  refine aa (aB (by omega) (by omega)) ?_
  rw [show ((t.i : Nat) : Int) + 1 = ((t.i + 1 : Nat) : Int) from by omega]
  refine aL h1 ac rfl rfl fun H2 h2 => ?_
  refine ag (rh _ _ _ _ _ H2) ?_
  with_reducible repeat refine gg ?_
  refine am h2 (gS (ch (ch cg))) rfl ?_
  by_cases hf : ((σ.μ.V (10, t.s, (t.i : Int)) / 4294967296 : Nat) : Int) - 1 = t.x.flow
  ·refine kP ?_
   refine aa (bo hf) ?_
   with_reducible repeat refine gg ?_
   refine aL h2 ac rfl rfl fun H3 h3 => ?_
   refine am h3 ac rfl ?_
   with_reducible repeat refine gg ?_
   refine aL h3 ac rfl rfl fun H4 h4 => ?_
   have e2 : aI σ t = { t with i := t.i + 1, found := true, obj := σ.μ.V (10, t.s, (t.i : Int)) % 4294967296 } := by
    have : yg (σ.μ.V (10, t.s, (t.i : Int))) t.x.flow = true := decide_eq_true ⟨hv, hf⟩
    exact (ze σ t _ this).trans rfl
   rw [e2]
   exact fin _ H4 rfl h4.to
  ·refine kP ?_
   refine aa (aR hf) ?_
   with_reducible repeat refine gg ?_
   refine aL h2 ac rfl rfl fun H3 h3 => ?_
   refine am h3 ac rfl ?_
   with_reducible repeat refine gg ?_
   have e2 : aI σ t = { t with i := t.i + 1, found := false } := by
    have : yg (σ.μ.V (10, t.s, (t.i : Int))) t.x.flow = false := decide_eq_false fun q => hf q.2
    exact (ze σ t _ this).trans rfl
   rw [e2]
   exact fin _ H3 rfl h3.to
end
theorem su (p : Nat) (g : XIds) (σ : aX) (o b : Nat) (hl : g.rp.length = σ.obs.length) (ho : o < σ.obs.length) (hb : g.rp[o]? = some b) :
 ∃ R, (∀ N, σ.μ.N = N → ay p g σ = ci g.m o b (az σ o) * bk g.m σ.μ * (fR g.ib g.m σ.c.sh σ.nx N * R)) ∧ ∀ μ' cs', ay p g { σ with μ := μ', obs := σ.obs.modify o fun q => (q.1, cs') } = ci g.m o b cs' * bk g.m μ' * (fR g.ib g.m σ.c.sh σ.nx μ'.N * R) := by
 have hz : o < (g.rp.zip (σ.obs.map fun x => x.2)).length := by simp; omega
 obtain ⟨R, e1, e2⟩ := DH g.m (ps := g.rp.zip (σ.obs.map fun x => x.2)) (j := 0) hz
 have hrp : g.rp[o]'(by omega) = b := by
  rw [List.getElem?_eq_getElem (by omega)] at hb
  exact Option.some.inj hb
 have e3 : (g.rp.zip (σ.obs.map fun x => x.2))[o] = (b, az σ o) := by
  rw [List.getElem_zip, re ho, List.getElem_map, hrp]
 rw [e3] at e1
 rw [Nat.zero_add] at e1 e2
 refine ⟨blk p (.cells false [vi σ.c.sh, vi σ.c.sl, vi σ.c.wk, vi σ.c.wd, vu σ.c.un, vp g.m, vp g.ib, vp g.tb, vp g.po, vp g.co, g.ov, g.rv, g.wv, g.pv]) * (tab g.tb g.m σ.c.sh.toNat σ.c.sl.toNat * (ts 3 pM g.ov (σ.obs.map fun x => x.1) * (ts 1 mH g.rv g.rp * (R *
  (ts 1 jA g.wv (dE g.ws) * ts 7 Pt.cells g.pv (aZ σ.pts)))))), fun N hN => ?_, fun μ' cs' => ?_⟩
 ·subst hN
  unfold ay
  rw [e1]
  ac_rfl
 ·unfold ay
  dsimp only
  have e4 : (σ.obs.modify o fun q => (q.1, cs')).map (fun x => x.1) = σ.obs.map fun x => x.1 := by
   apply List.ext_getElem?
   intro j
   simp only [List.getElem?_map, List.getElem?_modify]
   cases σ.obs[j]? with
   | none => rfl
   | some q => simp only [Option.map_some]; split <;> rfl
  have e5 : g.rp.zip ((σ.obs.modify o fun q => (q.1, cs')).map fun x => x.2) = (g.rp.zip (σ.obs.map fun x => x.2)).set o (b, cs') := by
   apply List.ext_getElem?
   intro j
   rw [List.getElem?_set]
   by_cases hj : o = j
   ·subst hj
    rw [if_pos rfl, if_pos hz]
    exact List.getElem?_zip_eq_some.2 ⟨hb, by simp [List.getElem?_modify, List.getElem?_eq_getElem ho]⟩
   ·rw [if_neg hj]
    have : (List.map (fun x => x.2) (σ.obs.modify o fun q => (q.1, cs')))[j]? = (σ.obs.map fun x => x.2)[j]? := by
     simp only [List.getElem?_map, List.getElem?_modify]
     cases σ.obs[j]? with
     | none => rfl
     | some q => show some (if o = j then (q.1, cs') else q).2 = some q.2; rw [if_neg hj]
    simp only [List.zip, List.getElem?_zipWith, this]
  rw [e4, e5, e2]
  ac_rfl
section
variable {f : Nat} {args : List Value} {v : Unit → Value} {p : Nat} {g : XIds} {σ : aX} {o b : Nat}
theorem BG {μ' : Mu} {cs' : List Pk} (hN : σ.μ.N ≤ μ'.N) (hl : g.rp.length = σ.obs.length) (ho : o < σ.obs.length) (hb : g.rp[o]? = some b)
 (s : Sp f args (ci g.m o b (az σ o) * bk g.m σ.μ) v (fun _ => ci g.m o b cs' * bk g.m μ')) :
 Sp f args (ay p g σ) v (fun _ => ay p g { σ with μ := μ', obs := σ.obs.modify o fun q => (q.1, cs') }) := by
 obtain ⟨R', e1, e2⟩ := su p g σ o b hl ho hb
 intro R H h
 rw [e1 _ rfl, ap] at h
 obtain ⟨x, H', h1, h2⟩ := s _ _ h
 refine ⟨x, H', h1, ?_⟩
 rw [e2, ap]
 have h3 := mn hN (ae.fr (A := fR g.ib g.m σ.c.sh σ.nx σ.μ.N) h2)
 exact h3.to
theorem lj {μ' : Mu} (hN : σ.μ.N ≤ μ'.N) (hl : g.rp.length = σ.obs.length) (ho : o < σ.obs.length) (hb : g.rp[o]? = some b)
 (s : Sp f args (ci g.m o b (az σ o) * bk g.m σ.μ) v (fun _ => ci g.m o b (az σ o) * bk g.m μ')) :
 Sp f args (ay p g σ) v (fun _ => ay p g (σ.mem μ')) := by
 have := BG (p := p) hN hl ho hb s
 rw [FX ho] at this
 exact this
theorem Ek (hl : g.rp.length = σ.obs.length) (ho : o < σ.obs.length) (hb : g.rp[o]? = some b)
 (s : Sp f args (ci g.m o b (az σ o)) v (fun _ => ci g.m o b (az σ o))) :
 Sp f args (ay p g σ) v (fun _ => ay p g σ) := by
 obtain ⟨R', e1, _⟩ := su p g σ o b hl ho hb
 intro R H h
 rw [e1 _ rfl, ap, ap] at h
 obtain ⟨x, H', h1, h2⟩ := s _ _ h
 exact ⟨x, H', h1, by rw [e1 _ rfl, ap, ap]; exact h2⟩
theorem Hg {μ' : Mu} (hN : σ.μ.N ≤ μ'.N) (s : Sp f args (tab g.tb g.m σ.c.sh.toNat σ.c.sl.toNat * bk g.m σ.μ) v (fun _ => tab g.tb g.m σ.c.sh.toNat σ.c.sl.toNat * bk g.m μ')) :
 Sp f args (ay p g σ) v (fun _ => ay p g (σ.mem μ')) := by
 intro R H h
 unfold ay at h
 obtain ⟨x, H', h1, h2⟩ := s _ H (ae.fr (A := tab g.tb g.m σ.c.sh.toNat σ.c.sl.toNat * bk g.m σ.μ) h)
 refine ⟨x, H', h1, ?_⟩
 unfold ay
 have h3 := mn hN (ae.fr (A := fR g.ib g.m σ.c.sh σ.nx σ.μ.N) h2)
 exact h3.to
theorem KO (s : Sp f args (tab g.tb g.m σ.c.sh.toNat σ.c.sl.toNat) v (fun _ => tab g.tb g.m σ.c.sh.toNat σ.c.sl.toNat)) :
 Sp f args (ay p g σ) v (fun _ => ay p g σ) := by
 intro R H h
 unfold ay at h
 obtain ⟨x, H', h1, h2⟩ := s _ H (ae.fr (A := tab g.tb g.m σ.c.sh.toNat σ.c.sl.toNat) h)
 refine ⟨x, H', h1, ?_⟩
 unfold ay
 exact h2.to
theorem Hf {μ' : Mu} (hN : σ.μ.N ≤ μ'.N) (s : Sp f args (bk g.m σ.μ) v (fun _ => bk g.m μ')) : Sp f args (ay p g σ) v (fun _ => ay p g (σ.mem μ')) := by
 intro R H h
 unfold ay at h
 obtain ⟨x, H', h1, h2⟩ := s _ H (ae.fr (A := bk g.m σ.μ) h)
 refine ⟨x, H', h1, ?_⟩
 unfold ay
 have h3 := mn hN (ae.fr (A := fR g.ib g.m σ.c.sh σ.nx σ.μ.N) h2)
 exact h3.to
theorem tj {μ' : Mu} {nx' : Int → Option Nat} {L : Nat} (hL : L ≤ μ'.N) (s : Sp f args (fR g.ib g.m σ.c.sh σ.nx σ.μ.N * bk g.m σ.μ) v (fun _ => fR g.ib g.m σ.c.sh nx' L * bk g.m μ')) :
 Sp f args (ay p g σ) v (fun _ => ay p g { σ with μ := μ', nx := nx' }) := by
 intro R H h
 unfold ay at h
 obtain ⟨x, H', h1, h2⟩ := s _ H (ae.fr (A := fR g.ib g.m σ.c.sh σ.nx σ.μ.N * bk g.m σ.μ) h)
 refine ⟨x, H', h1, ?_⟩
 unfold ay
 have h3 := mn hL (ae.fr (A := fR g.ib g.m σ.c.sh nx' L) h2)
 exact h3.to
end
instance ZZ (p : Nat) (g : XIds) (σ : aX) : Hs (ay p g σ) p (.cells false [vi σ.c.sh, vi σ.c.sl, vi σ.c.wk, vi σ.c.wd, vu σ.c.un, vp g.m, vp g.ib, vp g.tb, vp g.po, vp g.co, g.ov, g.rv, g.wv, g.pv]) := ⟨by
 intro H h
 unfold ay at h
 exact h.left.get⟩
theorem BE (m i rp : Nat) (cs : List Pk) (μ : Mu) (who : Int) (n : Nat) (x : Pk) (h0 : 1 ≤ cs.length ∧ cs.length < 1000) (hE : μ.N < 1099511627000) :
 Sp jZ [vp rp, vi who, vu n, .agg (Pk.cells x).toArray] (ci m i rp cs * bk m μ) (fun _ : Unit => .tuple #[]) (fun _ => ci m i rp (cs.set (n % cs.length) x) * bk m (μ.acc who 6 (16, (i : Int), ((n % cs.length : Nat) : Int)))) := by
 have hlt : n % cs.length < cs.length := Nat.mod_lt _ (by omega)
 refine av fun R H h => ?_
 refine aw (fun r => vy _ _ _ _ H) ?_
 refine aH h fun b H1 h1 => ?_
 obtain ⟨cv, k1⟩ := dO (m := m) (i := i) (rp := rp) (cs := cs) (R := bk m μ * (blk b (.cells false (Pk.cells x)) * R)) (H := H1) h1.to
 refine aJ ac ?_
 refine aE k1 rfl ?_
 refine aJ ac ?_
 refine aE k1 rfl ?_
 have cell : ∀ cv, Sp cZ [vp rp, vu n] (blk rp (.cells false [vp m, vi i, vi cs.length, cv])) (fun _ : Unit => vi ((n % cs.length : Nat) : Int)) (fun _ => blk rp (.cells false [vp m, vi i, vi cs.length, cv])) := by
  intro cv
  refine av fun R H h => ?_
  refine aw (fun r => lO _ _ H) ?_
  refine am h ac rfl ?_
  refine aa (cU (by omega) (by omega)) ?_
  rw [show ((cs.length : Nat) : Int).toNat = cs.length from Int.toNat_natCast _]
  refine aa (g6 (by omega)) ?_
  refine aa (fC (by omega)) ?_
  exact aq ⟨(), rfl, h⟩
 refine af k1 (cell cv) fun _ H2 k2 => ?_
 refine aD k2 k1 (by rfl) ?_
 refine aD k2 k1 (by rfl) ?_
 refine af k2 (cV 16 (i : Int) ((n % cs.length : Nat) : Int)) fun _ H3 k3 => ?_
 refine aD k3 k1 (by rfl) ?_
 refine af k3 ((Q8 m μ who 6 (16, (i : Int), ((n % cs.length : Nat) : Int)) (by omega)).imp fun _ R H h => sf (N' := μ.N + 2) (by simp) h) fun _ H4 k4 => ?_
 refine aJ ac ?_
 refine aE k4 rfl ?_
 refine af k4 (cell cv) fun _ H5 k5 => ?_
 refine aD k5 k4 (by rfl) ?_
 refine aM k5 ?_
 refine bn k4 k5 rfl ?_
 refine G4 (s := cv) (l := cs) (i := n % cs.length) x k5 hlt (.inl ⟨rfl, rfl⟩) rfl (by omega) rfl rfl fun H6 k6 => ?_
 refine aq ⟨(), rfl, ?_⟩
 have el : (cs.set (n % cs.length) x).length = cs.length := List.length_set
 have h6 := kK (m := m) (i := i) (rp := rp) (cs := cs.set (n % cs.length) x) (cv := cv) (R := bk m (μ.acc who 6 (16, (i : Int), ((n % cs.length : Nat) : Int))) * R) (H := H6) (by rw [el]; exact k6.to)
 exact h6.to
section
variable (p : Nat) (g : XIds) (σ : aX)
theorem KF (hl : g.rp.length = σ.obs.length) (who : Int) (o : Nat) (ho : o < σ.obs.length) (hN : σ.μ.N < 800000) : Sp iW [vp p, vi who, vi o] (ay p g σ) (fun v : Value => v) (fun _ => ay p g (σ.mem (σ.μ.acc who 5 (13, (o : Int), 0)))) := by
 refine av fun R H h => ?_
 refine aw (fun r => tS _ _ _ H) ?_
 refine aO h fun b H1 h1 => ?_
 refine aa (bI (by omega)) ?_
 with_reducible repeat refine gg ?_
 refine am h1 ac rfl ?_
 with_reducible repeat refine gg ?_
 have h2 := h1
 unfold ay at h2
 refine px (s := g.ov) (enc := pM) (l := σ.obs.map fun x : Ob × List Pk => x.1) h2 ?_
 rw [List.length_map]
 with_reducible repeat refine gg ?_
 refine aa (pQ (by omega)) ?_
 with_reducible repeat refine gg ?_
 refine aJ ac ?_
 refine aE h1 rfl ?_
 refine af h1 (cV 13 (o : Int) 0) fun _ H3 h3 => ?_
 refine aD h3 h1 (by rfl) ?_
 refine af h3 (Hf (p := p) (g := g) (σ := σ) (μ' := σ.μ.acc who 5 (13, (o : Int), 0)) (by simp) ((Q8 g.m σ.μ who 5 (13, (o : Int), 0) (by omega)).imp fun _ R H h => sf (N' := σ.μ.N + 2) (by simp) h)) fun _ H4 h4 => ?_
 refine am h4 ac rfl ?_
 have h5 := h4
 unfold ay at h5
 refine aaS (enc := pM) (l := σ.obs.map fun x : Ob × List Pk => x.1) h5 (by rw [List.length_map]; exact ho) ?_
 refine bZ h4 rfl rfl fun H6 h6 => ?_
 refine aM h6 ?_
 exact aq ⟨_, rfl, h6.to⟩
theorem zG (who : Int) (hN : σ.μ.N < 800000) : Sp fH [vp p, vi who] (ay p g σ) (fun _ : Unit => vu (σ.μ.V (2, 0, 0))) (fun _ => ay p g (σ.mem (σ.μ.acc who 1 (2, 0, 0)))) := by
 refine av fun R H h => ?_
 refine aw (fun r => tT _ _ H) ?_
 refine aJ ac ?_
 refine aE h rfl ?_
 refine af h (cV 2 0 0) fun _ H1 h1 => ?_
 refine aD h1 h (by rfl) ?_
 refine af h1 (Hf (p := p) (g := g) (σ := σ) (μ' := σ.μ.acc who 1 (2, 0, 0)) (by simp) (ow g.m σ.μ who (2, 0, 0) (by omega))) fun _ H2 h2 => ?_
 exact aq ⟨(), rfl, h2.to⟩
theorem G8 (who : Int) (hN : σ.μ.N < 800000) : Sp eN [vp p, vi who] (ay p g σ) (fun _ : Unit => .tuple #[]) (fun _ => ay p g (σ.mem (σ.μ.cnt who (2, 0, 0) 1))) := by
 refine av fun R H h => ?_
 refine aw (fun r => sK _ _ H) ?_
 refine aJ ac ?_
 refine aE h rfl ?_
 refine af h (cV 2 0 0) fun _ H1 h1 => ?_
 refine aD h1 h (by rfl) ?_
 refine af h1 (Hf (p := p) (g := g) (σ := σ) (μ' := σ.μ.cnt who (2, 0, 0) 1) (by simp) (Dq g.m σ.μ who (2, 0, 0) 1 (by omega))) fun _ H2 h2 => ?_
 exact aq ⟨(), rfl, h2.to⟩
theorem te (t m sh sl : Nat) (hs : 1 ≤ sh ∧ sh ≤ 4) (flow : Int) : Sp eb [vp t, vi flow] (tab t m sh sl) (fun _ : Unit => vi ((flow.tmod sh + sh).tmod sh)) (fun _ => tab t m sh sl) := by
 have q := Ny flow (n := sh) (by omega)
 refine av fun R H h => ?_
 refine aw (fun r => qL _ _ H) ?_
 unfold tab at h ⊢
 refine am h ac rfl ?_
 refine aa (t8 (by omega)) ?_
 refine ag (nf _ _ _ H) ?_
 by_cases hn : flow.tmod sh < 0
 ·refine aa (b4 hn) ?_
  with_reducible repeat refine gg ?_
  refine am h ac rfl ?_
  refine aa (aB (by omega) (by omega)) ?_
  refine ag (gX _ _ H) ?_
  refine aq ⟨(), ?_, h⟩
  have : (flow.tmod sh + sh).tmod sh = flow.tmod sh + sh := Int.tmod_eq_of_lt (by omega) (by omega)
  rw [this]
 ·refine aa (bI hn) ?_
  with_reducible repeat refine gg ?_
  refine ag (gX _ _ H) ?_
  refine aq ⟨(), ?_, h⟩
  have : (flow.tmod sh + sh).tmod sh = flow.tmod sh := by
   rw [Int.tmod_eq_emod_of_nonneg (by omega), Int.add_emod_right]
   exact Int.emod_eq_of_lt (by omega) (by omega)
  rw [this]
end
theorem sx (w pl k : Int) : ∀ ws : List (Int × Int), e7 (ws ++ [(w, pl)]) k = if k = w then pl else e7 ws k := by
 intro ws
 induction ws with
 | nil =>
  simp only [List.nil_append, e7, List.any_nil]
  by_cases e : k = w
  ·subst e; simp
  ·have : ¬ w = k := fun q => e q.symm
   simp [e, this]
 | cons p ws ih =>
  simp only [List.cons_append, e7, ih, List.any_append, List.any_cons, List.any_nil, Bool.or_false]
  by_cases e : k = w
  ·subst e; simp
  ·have h1 : ((w == k) : Bool) = false := by simpa using fun q => e q.symm
   rw [h1, Bool.or_false]
   simp only [if_neg e]
theorem Dj (ws : List (Int × Int)) (k : Int) (j : Nat) (hj : j < ws.length) : e7 (ws.take (j + 1)) k = if k = ws[j].1 then ws[j].2 else e7 (ws.take j) k := by
 rw [List.take_succ_eq_append_getElem hj]
 exact sx ws[j].1 ws[j].2 k (ws.take j)
theorem mr (ws : List (Int × Int)) : (dE ws).length = 2 * ws.length := by
 unfold dE
 induction ws with
 | nil => rfl
 | cons p ws ih => rw [List.flatMap_cons, List.length_append, ih]; simp; omega
theorem PL : ∀ (ws : List (Int × Int)) (j : Nat) (hj : j < ws.length), (dE ws)[2 * j]? = some ws[j].1 ∧ (dE ws)[2 * j + 1]? = some ws[j].2 := by
 intro ws
 induction ws with
 | nil => intro j hj; simp at hj
 | cons p ws ih =>
  intro j hj
  cases j with
  | zero => exact ⟨rfl, rfl⟩
  | succ j =>
   have h := ih j (by simpa using hj)
   have e : dE (p :: ws) = p.1 :: p.2 :: dE ws := rfl
   rw [e, show 2 * (j + 1) = 2 * j + 2 from by omega]
   exact h
theorem Ur (x : Pt) : ∀ (l : List Pt) (k : Nat), k ≤ l.length → (∀ j p, k ≤ j → l[j]? = some p → x.step < p.step) → (∀ p, 0 < k → l[k - 1]? = some p → p.step ≤ x.step) → nJ x l = l.take k ++ x :: l.drop k := by
 intro l
 induction l with
 | nil => intro k hk _ _; simp at hk; subst hk; rfl
 | cons y l ih =>
  intro k hk h1 h2
  cases k with
  | zero =>
   have hy := h1 0 y (Nat.le_refl _) rfl
   have hno : ¬ (y.step ≤ x.step ∨ (l.any fun z => decide (z.step ≤ x.step)) = true) := by
    rintro (h | h)
    ·omega
    ·obtain ⟨z, hz, hzs⟩ := List.any_eq_true.1 h
     obtain ⟨j, hj⟩ := List.mem_iff_getElem?.1 hz
     have := h1 (j + 1) z (by omega) (by simpa using hj)
     have hzs : z.step ≤ x.step := by simpa using hzs
     omega
   rw [nJ, if_neg hno]
   rfl
  | succ k =>
   have hyes : y.step ≤ x.step ∨ (l.any fun z => decide (z.step ≤ x.step)) = true := by
    cases k with
    | zero => exact .inl (h2 y (by omega) rfl)
    | succ k =>
     right
     have hkl : k < l.length := by simp at hk; omega
     rw [List.any_eq_true]
     refine ⟨l[k], List.getElem_mem hkl, ?_⟩
     have := h2 l[k] (by omega) (by simp [hkl])
     simpa using this
   rw [nJ, if_pos hyes, ih k (by simpa using hk) (fun j p hj hp => h1 (j + 1) p (by omega) (by simpa using hp)) (fun p hk0 hp => h2 p (by omega) (by
    rw [show k + 1 - 1 = (k - 1) + 1 from by omega]; simpa using hp))]
   rfl
theorem ul (l : List Pt) (x : Pt) : aZ (l ++ [x]) = nJ x (aZ l) := by
 unfold aZ
 rw [List.foldl_append]; rfl
theorem Pr (x : Pt) : ∀ l : List Pt, (nJ x l).length = l.length + 1 := by
 intro l
 induction l with
 | nil => rfl
 | cons y l ih => rw [nJ]; split <;> simp [ih]
theorem p0 (l : List Pt) : (aZ l).length = l.length := by
 have : ∀ (l acc : List Pt), (l.foldl (fun acc x => nJ x acc) acc).length = acc.length + l.length := by
  intro l
  induction l with
  | nil => intro acc; rfl
  | cons x l ih => intro acc; rw [List.foldl_cons, ih, Pr]; simp; omega
 have h := this l []
 simpa [aZ] using h
theorem WR (e b : Nat) (he : 0 < e) (H : AH) : dN e b (.slice none 0 0) (.slice none 0 0) H = some (.slice none 0 0, H) := by
 unfold dN
 have : jd e (.slice none 0 0) H = some (0, []) := by simp [jd]
 rw [this]
 simp [he]
theorem Wh {α : Type} {P R : SP} {H : AH} {e : Nat} {enc : α → List Value} {l : List α} {s : Value} (h : ae P H) [f : Ts P s α e enc l R] : s.cells.toList = [s] ∧ [s].all Value.oneCell' = true := by
 rcases mz h (enc := enc) (s := s) with ⟨rfl, _, _⟩ | ⟨bb, rfl, _⟩ <;> exact ⟨rfl, rfl⟩
theorem GV {α : Type} {P R : SP} {H : AH} {e : Nat} {enc : α → List Value} {l : List α} {s : Value} {lo hi : Option Value} {a b : Nat} (h : ae P H) [f : Ts P s α e enc l R] [E : Enc enc e] (hlo : (lo = none ∧ a = 0) ∨ ∃ k, lo = some (.int k (a : Int)))
 (hhi : (hi = none ∧ b = l.length) ∨ ∃ k, hi = some (.int k (b : Int))) (h1 : a ≤ b) (h2 : b ≤ l.length) : ∃ s', dD e s lo hi = some s' ∧ Rd P s' e enc ((l.take b).drop a) := by
 haveI : Rd P s e enc l := by rw [f.eq]; infer_instance
 by_cases h0 : 0 < l.length
 ·exact Vv h hlo hhi h1 h2 h0
 ·have hl : l = [] := List.eq_nil_of_length_eq_zero (by omega)
  subst hl
  have hb0 : b = 0 := by simpa using h2
  subst hb0
  have ha0 : a = 0 := by omega
  subst ha0
  have hpos := E.pos
  have rd0 : ∀ s', (∃ a c, s' = .slice a 0 c ∧ (a = none → c = 0) ∧ (∀ x, a = some x → ∃ b o, x = ⟨b, o, none⟩)) → Rd P s' e enc (([] : List α).take 0 |>.drop 0) := by
   rintro s' ⟨a, c, rfl, q1, q2⟩
   exact ⟨fun {H'} _ => ⟨by simp, .inl ⟨a, c, rfl, rfl, q1, q2⟩⟩⟩
  rcases mz h (enc := enc) (s := s) with ⟨rfl, _, _⟩ | ⟨bb, rfl, _⟩
  ·refine ⟨.slice none 0 0, ?_, rd0 _ ⟨none, 0, rfl, fun _ => rfl, fun x hx => (by cases hx)⟩⟩
   rcases hlo with ⟨rfl, _⟩ | ⟨k1, rfl⟩ <;> rcases hhi with ⟨rfl, _⟩ | ⟨k2, rfl⟩ <;> simp [dD, kE]
  ·refine ⟨.slice (some ⟨bb, 0, none⟩) 0 e, ?_, rd0 _ ⟨some ⟨bb, 0, none⟩, e, rfl, fun h => (by cases h), fun x hx => ⟨bb, 0, (Option.some.inj hx).symm⟩⟩⟩
   rcases hlo with ⟨rfl, _⟩ | ⟨k1, rfl⟩ <;> rcases hhi with ⟨rfl, _⟩ | ⟨k2, rfl⟩ <;> simp [dD, kE, hpos]
abbrev aX.begin (σ : aX) (who place : Int) : aX := { σ with places := fun k => if k = who then some place else σ.places k, μ := { σ.μ with N := σ.μ.N + 1 } }
theorem Rt (p : Nat) (rp : List Nat) (σ : aX) (who place : Int) : Sp dr [vp p, vi who, vi place] (bq p rp σ) (fun _ : Unit => .tuple #[]) (fun _ => bq p rp (σ.begin who place)) := by
 refine av fun R H h => ?_
 obtain ⟨g, hrp, hg, h0⟩ := eD h
 unfold aN at h0
 refine aw (fun r => od _ _ _ H) ?_
 refine am h0 ac rfl ?_
 refine Wr (ek := Ha) who (vi place) h0 fun H1 h1 => ?_
 refine aq ⟨(), rfl, ?_⟩
 refine bu g hrp hg ?_
 unfold aN
 dsimp only
 have e : (fun k => ((if k = who then some place else σ.places k) : Option Int).map fun n => vi n) = fun x => if x = who then some (vi place) else (σ.places x).map fun n => vi n := by
  funext k
  split <;> rfl
 rw [e]
 have h2 := jb (V := σ.μ.V) (E := σ.μ.E) (N := σ.μ.N) (N' := σ.μ.N + 1) (by omega) (ae.fr (A := bj g.m σ.μ) h1)
 exact h2.to
theorem aaU (p : Nat) (σ : aX) (who place : Int) (hN : σ.μ.N < 1000000000) : Sp gA [vp p, vi who, vi place] (bv p σ) (fun _ : Unit => .tuple #[]) (fun _ => bv p (σ.begin who place)) := by
 refine av fun R H h => ?_
 obtain ⟨g, ⟨hg1, hg2, hg3⟩, h0⟩ := eE h
 unfold ay at h0
 refine aw (fun r => qK _ _ _ H) ?_
 refine am h0 ac rfl ?_
 refine NC (cs := [vi who, vi place]) h0 rfl fun b H1 h1 => ?_
 have h2 := wn (e := 1) (enc := jA) (l := [who, place]) h1
 refine Ea (s := g.wv) (l := dE g.ws) (m := [who, place]) h2 ?_ (by omega) fun v H2 h3 => ?_
 ·rw [mr]; unfold cC; simp; omega
 have hc := Wh (s := v) (enc := jA) (l := dE g.ws ++ [who, place]) h3
 haveI : tg v [v] := ⟨hc.1⟩
 dsimp only
 refine aL h3 ac rfl hc.2 fun H3 h4 => ?_
 refine aq ⟨(), rfl, ?_⟩
 have e2 : dE (g.ws ++ [(who, place)]) = dE g.ws ++ [who, place] := by simp [dE]
 refine di { g with wv := v, ws := g.ws ++ [(who, place)] } ⟨hg1, fun k => ?_, by simp; omega⟩ ?_
 ·show e7 (g.ws ++ [(who, place)]) k = _
  rw [sx, hg2]
  show _ = ((if k = who then some place else σ.places k)).getD 0
  split <;> rfl
 unfold ay
 dsimp only
 rw [e2]
 have h5 := sf (V := σ.μ.V) (E := σ.μ.E) (N := σ.μ.N) (N' := σ.μ.N + 1) (by omega) (ae.fr (A := bk g.m σ.μ) h4)
 have h6 := mn (L' := σ.μ.N + 1) (by omega) (ae.fr (A := fR g.ib g.m σ.c.sh σ.nx σ.μ.N) h5)
 exact h6.to
theorem ab1 (p : Nat) (g : XIds) (σ : aX) (step who code : Int) (hpl : e7 g.ws who = (σ.places who).getD 0) (hw : g.ws.length < 1000000000) (hp : σ.pts.length < 900000) :
 Sp UO [vp p, vi step, vi who, .agg (gK code).toArray] (ay p g σ) (fun _ : Value => .tuple #[]) (fun v => ay p { g with pv := v } (σ.note step who code)) := by
 refine av fun R H h => ?_
 refine aw (fun r => Z6 _ _ _ _ H) ?_
 refine aH h fun rb H1 h1 => ?_
 refine ag (P3 _ _ _ _ _ H1) ?_
 refine ag (JC _ _ _ _ _ _ H1) ?_
 have place : ∀ (d j : Nat), j + d = g.ws.length → wp (Jy (vp p) (vi step) (vi who) (vp rb) (vi (e7 g.ws who)) H1) (fun v' H' => ∃ x : Value, v' = .tuple #[] ∧ ae (ay p { g with pv := x } (σ.note step who code) * R) H') →
  wp (we (vp p) (vi step) (vi who) (vp rb) (vi (e7 (g.ws.take j) who)) (vi ((2 * j : Nat) : Int)) H1) (fun v' H' => ∃ x : Value, v' = .tuple #[] ∧ ae (ay p { g with pv := x } (σ.note step who code) * R) H') := by
  have h2 := h1
  unfold ay at h2
  intro d
  induction d with
  | zero =>
   intro j hj hk
   refine ag (yU _ _ _ _ _ _ H1) ?_
   refine am h1 ac rfl ?_
   refine zB (s := g.wv) (l := dE g.ws) h2 ?_
   rw [mr]
   refine aa (bI (by omega)) ?_
   with_reducible repeat refine gg ?_
   refine ag (Dy _ _ _ _ _ H1) ?_
   rw [List.take_of_length_le (by omega)]
   exact hk
  | succ d ih =>
   intro j hj hk
   have hjl : j < g.ws.length := by omega
   obtain ⟨a1, a2⟩ := PL g.ws j hjl
   have hlen := mr g.ws
   refine ag (yU _ _ _ _ _ _ H1) ?_
   refine am h1 ac rfl ?_
   refine zB (s := g.wv) (l := dE g.ws) h2 ?_
   rw [mr]
   refine aa (b4 (by omega)) ?_
   with_reducible repeat refine gg ?_
   refine ag (JD _ _ _ _ _ _ H1) ?_
   refine am h1 ac rfl ?_
   refine Eb (s := g.wv) (l := dE g.ws) (i := 2 * j) (v := vi g.ws[j].1) h2 (by omega) ?_ ?_
   ·rw [List.getElem?_eq_getElem (by omega)] at a1
    rw [Option.some.inj a1]; rfl
   have next : ∀ pl : Int, e7 (g.ws.take (j + 1)) who = pl → wp (wg (vp p) (vi step) (vi who) (vp rb) (vi pl) (vi ((2 * j : Nat) : Int)) H1) (fun v' H' => ∃ x : Value, v' = .tuple #[] ∧ ae (ay p { g with pv := x } (σ.note step who code) * R) H') := by
    intro pl hpl2
    refine ag (JE _ _ _ _ _ _ H1) ?_
    refine aa (aB (by omega) (by omega)) ?_
    have := ih (j + 1) (by omega) hk
    rw [hpl2] at this
    rw [show ((2 * j : Nat) : Int) + 2 = ((2 * (j + 1) : Nat) : Int) from by omega]
    exact this
   have ht := Dj g.ws who j hjl
   by_cases hwho : g.ws[j].1 = who
   ·refine aa (bo hwho) ?_
    with_reducible repeat refine gg ?_
    refine am h1 ac rfl ?_
    refine aa (aB (by omega) (by omega)) ?_
    rw [show ((2 * j : Nat) : Int) + 1 = ((2 * j + 1 : Nat) : Int) from by omega]
    refine Eb (s := g.wv) (l := dE g.ws) (i := 2 * j + 1) (v := vi g.ws[j].2) h2 (by omega) ?_ ?_
    ·rw [List.getElem?_eq_getElem (by omega)] at a2
     rw [Option.some.inj a2]; rfl
    exact next _ (by rw [ht, if_pos hwho.symm])
   ·refine aa (aR hwho) ?_
    with_reducible repeat refine gg ?_
    exact next _ (by rw [ht, if_neg (fun q => hwho q.symm)])
 refine place g.ws.length 0 (by omega) ?_
 rw [hpl]
 refine ag (P4 _ _ _ _ _ H1) ?_
 refine am h1 ak rfl ?_
 refine ag (show ((dN 3 24 (.slice none 0 0) (.slice none 0 0) H1).bind _) = _ from by rw [WR 3 24 (by omega)]) ?_
 refine aL h1 ak rfl rfl fun H2 h2 => ?_
 refine am h2 ac rfl ?_
 have h2u := h2
 unfold ay at h2u
 have hlen := p0 σ.pts
 refine zB (s := g.pv) (l := aZ σ.pts) h2u ?_
 refine ag (P5 _ _ _ _ _ _ H2) ?_
 -- behind all that are not behind it
 have put : ∀ k, k ≤ (aZ σ.pts).length → (∀ j p, k ≤ j → (aZ σ.pts)[j]? = some p → step < p.step) → (∀ p, 0 < k → (aZ σ.pts)[k - 1]? = some p → p.step ≤ step) →
  wp (JB (vp p) (vi step) (vi who) (vp rb) (vi ((σ.places who).getD 0)) (vi (k : Int)) H2) (fun v' H' => ∃ x : Value, v' = .tuple #[] ∧ ae (ay p { g with pv := x } (σ.note step who code) * R) H') := by
  intro k hk ha hb
  have hins := Ur ⟨step, who, (σ.places who).getD 0, code⟩ (aZ σ.pts) k hk ha hb
  refine ag (P6 _ _ _ _ _ _ H2) ?_
  refine am h2 ac rfl ?_
  have q1 : ae (ts 7 Pt.cells g.pv (aZ σ.pts)) H2 := h2u.to
  obtain ⟨s1, e1, r1⟩ := GV (s := g.pv) (l := aZ σ.pts) (lo := none) (hi := some (vi (k : Int))) (a := 0) (b := k) q1 (.inl ⟨rfl, rfl⟩) (.inr ⟨_, rfl⟩) (Nat.zero_le _) hk
  refine aa e1 ?_
  have h3 := eH 7 Pt.cells h2u
  refine Ea (s := .slice none 0 0) (l := ([] : List Pt)) (m := ((aZ σ.pts).take k).drop 0) h3 ?_ (by omega) fun v3 H3 h4 => ?_
  ·unfold cC; simp only [List.length_drop, List.length_take, List.length_nil]; omega
  rw [List.nil_append, List.drop_zero] at h4
  refine aM h4 ?_
  refine dZ ?_
  refine j8 h4 fun b0 H5 h5 => ?_
  refine gQ (s := v3) (l := (aZ σ.pts).take k) (⟨step, who, (σ.places who).getD 0, code⟩ : Pt) h5 rfl ?_ (by omega) fun a cc H6 h6 => ?_
  ·unfold cC; simp only [List.length_take]; omega
  refine am h6 ac rfl ?_
  have q2 : ae (ts 7 Pt.cells g.pv (aZ σ.pts)) H6 := h6.to
  obtain ⟨s2, e2, r2⟩ := GV (s := g.pv) (l := aZ σ.pts) (lo := some (vi (k : Int))) (hi := none) (a := k) (b := (aZ σ.pts).length) q2 (.inr ⟨_, rfl⟩) (.inl ⟨rfl, rfl⟩) hk (Nat.le_refl _)
  refine aa e2 ?_
  refine Ea (s := .slice a (((aZ σ.pts).take k).length + 1) cc) (l := (aZ σ.pts).take k ++ [(⟨step, who, (σ.places who).getD 0, code⟩ : Pt)]) (m := ((aZ σ.pts).take (aZ σ.pts).length).drop k) h6 ?_ (by omega) fun v4 H7 h7 => ?_
  ·unfold cC; simp only [List.length_drop, List.length_take, List.length_append, List.length_cons, List.length_nil]; omega
  have hc := Wh (s := v4) (enc := Pt.cells) (l := ((aZ σ.pts).take k ++ [(⟨step, who, (σ.places who).getD 0, code⟩ : Pt)]) ++ ((aZ σ.pts).take (aZ σ.pts).length).drop k) h7
  haveI : tg v4 [v4] := ⟨hc.1⟩
  dsimp only
  refine aL h7 ac rfl hc.2 fun H8 h8 => ?_
  refine aq ⟨v4, rfl, ?_⟩
  have e3 : aZ (σ.note step who code).pts = ((aZ σ.pts).take k ++ [(⟨step, who, (σ.places who).getD 0, code⟩ : Pt)]) ++ ((aZ σ.pts).take (aZ σ.pts).length).drop k := by
   show aZ (σ.pts ++ [_]) = _
   rw [ul, hins, List.take_length]
   simp
  unfold ay
  dsimp only
  rw [e3]
  exact h8.to
 have down : ∀ (k : Nat), k ≤ (aZ σ.pts).length → (∀ j p, k ≤ j → (aZ σ.pts)[j]? = some p → step < p.step) →
  wp (wc (vp p) (vi step) (vi who) (vp rb) (vi ((σ.places who).getD 0)) (vi (k : Int)) H2) (fun v' H' => ∃ x : Value, v' = .tuple #[] ∧ ae (ay p { g with pv := x } (σ.note step who code) * R) H') := by
  intro k
  induction k with
  | zero =>
   intro hk ha
   refine ag (yT _ _ _ _ _ _ H2) ?_
   refine aa (gU (by omega)) ?_
   with_reducible repeat refine gg ?_
   refine ag (sP _ _ _ _ _ _ H2) ?_
   exact put 0 hk ha (fun p h => absurd h (by omega))
  | succ k ih =>
   intro hk ha
   have hkl : k < (aZ σ.pts).length := by omega
   refine ag (yT _ _ _ _ _ _ H2) ?_
   refine aa (nG (by omega)) ?_
   with_reducible repeat refine gg ?_
   refine am h2 ac rfl ?_
   with_reducible repeat refine gg ?_
   refine aa (a8 (by omega) (by omega)) ?_
   rw [show ((k + 1 : Nat) : Int) - 1 = (k : Int) from by omega]
   with_reducible repeat refine gg ?_
   refine Ws (s := g.pv) (l := aZ σ.pts) (v := vi ((aZ σ.pts)[k]).step) h2u hkl (by omega) rfl ?_
   with_reducible repeat refine gg ?_
   by_cases hs : step < ((aZ σ.pts)[k]).step
   ·refine aa (nG hs) ?_
    with_reducible repeat refine gg ?_
    refine ag (Jz _ _ _ _ _ _ H2) ?_
    refine aa (a8 (by omega) (by omega)) ?_
    rw [show ((k + 1 : Nat) : Int) - 1 = (k : Int) from by omega]
    refine ih (by omega) fun j p hj hp => ?_
    by_cases e : j = k
    ·subst e
     rw [List.getElem?_eq_getElem hkl] at hp
     rw [← Option.some.inj hp]; exact hs
    ·exact ha j p (by omega) hp
   ·refine aa (gU hs) ?_
    with_reducible repeat refine gg ?_
    refine ag (sP _ _ _ _ _ _ H2) ?_
    refine put (k + 1) hk ha fun p _ hp => ?_
    rw [show k + 1 - 1 = k from by omega, List.getElem?_eq_getElem hkl] at hp
    rw [← Option.some.inj hp]; omega
 exact down (aZ σ.pts).length (Nat.le_refl _) fun j p hj hp => by
  rw [List.getElem?_eq_none hj] at hp; cases hp
abbrev TP := Nat × Pt
def WN (a b : TP) : Prop := a.2.step < b.2.step ∨ a.2.step = b.2.step ∧ a.1 < b.1
def iR (L : List TP) : Prop := L.Pairwise WN
def uR (X Y : List TP) : Prop := ∀ x ∈ X, ∀ y ∈ Y, x.1 < y.1
def Yu (L : List TP) : Prop := L.Pairwise fun a b => a.1 < b.1
abbrev pl (L : List TP) : List Pt := L.map fun x : TP => x.2
theorem C7 {a b : TP} (h : WN a b) : a.2.step ≤ b.2.step := by rcases h with h | h <;> omega
theorem b8 {X Y : List TP} : iR (X ++ Y) ↔ iR X ∧ iR Y ∧ ∀ x ∈ X, ∀ y ∈ Y, WN x y := List.pairwise_append
theorem eG {x : TP} {Y : List TP} : iR (x :: Y) ↔ (∀ y ∈ Y, WN x y) ∧ iR Y := List.pairwise_cons
theorem D5 : iR [] := List.Pairwise.nil
theorem Ns (x : TP) : iR [x] := List.pairwise_singleton _ _
theorem Kq : ∀ (L1 L2 : List TP), iR L1 → iR L2 → L1.Perm L2 → L1 = L2 := by
 intro L1
 induction L1 with
 | nil => intro L2 _ _ h; exact (List.nil_perm.1 h).symm
 | cons x L1 ih =>
  intro L2 h1 h2 h
  cases L2 with
  | nil => exact absurd h.length_eq (by simp)
  | cons y L2 =>
   have hx : x ∈ y :: L2 := h.mem_iff.1 (List.mem_cons_self ..)
   have hy : y ∈ x :: L1 := h.mem_iff.2 (List.mem_cons_self ..)
   have e : x = y := by
    rcases List.mem_cons.1 hx with e | hx
    ·exact e
    ·rcases List.mem_cons.1 hy with e | hy
     ·exact e.symm
     ·have a1 := (eG.1 h2).1 x hx
      have a2 := (eG.1 h1).1 y hy
      rcases a1 with a1 | a1 <;> rcases a2 with a2 | a2 <;> omega
   subst e
   rw [ih L2 (eG.1 h1).2 (eG.1 h2).2 (h.cons_inv)]
def na : Nat → List Pt → List TP
 | _, [] => []
 | n, x :: l => (n, x) :: na (n + 1) l
theorem MH : ∀ (l : List Pt) (n : Nat), pl (na n l) = l := by
 intro l
 induction l with
 | nil => intro n; rfl
 | cons x l ih => intro n; show x :: pl (na (n + 1) l) = _; rw [ih]
theorem XR : ∀ (l : List Pt) (n : Nat), ∀ x ∈ na n l, n ≤ x.1 := by
 intro l
 induction l with
 | nil => intro n x hx; cases hx
 | cons y l ih =>
  intro n x hx
  rcases List.mem_cons.1 hx with e | hx
  ·subst e; exact Nat.le_refl _
  ·have := ih (n + 1) x hx; omega
theorem FW : ∀ (l : List Pt) (n : Nat), Yu (na n l) := by
 intro l
 induction l with
 | nil => intro n; exact .nil
 | cons x l ih =>
  intro n
  refine List.pairwise_cons.2 ⟨fun y hy => ?_, ih (n + 1)⟩
  have := XR l (n + 1) y hy
  show n < y.1
  omega
theorem AW : ∀ (l : List Pt) (n : Nat) (x : Pt), na n (l ++ [x]) = na n l ++ [(n + l.length, x)] := by
 intro l
 induction l with
 | nil => intro n x; rfl
 | cons y l ih =>
  intro n x
  show (n, y) :: na (n + 1) (l ++ [x]) = (n, y) :: (na (n + 1) l ++ _)
  rw [ih, List.length_cons, show n + 1 + l.length = n + (l.length + 1) from by omega]
def FL (x : TP) : List TP → List TP
 | [] => [x]
 | y :: l => if y.2.step ≤ x.2.step ∨ (l.any fun z => decide (z.2.step ≤ x.2.step)) = true then y :: FL x l else x :: y :: l
theorem XI (x : TP) : ∀ L, pl (FL x L) = nJ x.2 (pl L) := by
 intro L
 induction L with
 | nil => rfl
 | cons y L ih =>
  have e : ((pl L).any fun z => decide (z.step ≤ x.2.step)) = L.any fun z => decide (z.2.step ≤ x.2.step) := by rw [List.any_map]; rfl
  show pl (if _ then _ else _) = (if _ then _ else _)
  rw [e]
  split
  ·show y.2 :: pl (FL x L) = _; rw [ih]
  ·rfl
theorem AO (x : TP) : ∀ L, (FL x L).Perm (x :: L) := by
 intro L
 induction L with
 | nil => exact List.Perm.refl _
 | cons y L ih =>
  rw [FL]
  split
  ·exact (ih.cons y).trans (List.Perm.swap x y L)
  ·exact List.Perm.refl _
theorem Us (x : TP) : ∀ L, iR L → (∀ y ∈ L, y.1 < x.1) → iR (FL x L) := by
 intro L
 induction L with
 | nil => intro _ _; exact Ns x
 | cons y L ih =>
  intro hs hb
  obtain ⟨h1, h2⟩ := eG.1 hs
  have hyx := hb y (List.mem_cons_self ..)
  rw [FL]
  split
  ·rename_i hc
   have hle : y.2.step ≤ x.2.step := by
    rcases hc with hc | hc
    ·exact hc
    ·obtain ⟨z, hz, hzs⟩ := List.any_eq_true.1 hc
     have := C7 (h1 z hz)
     have hzs : z.2.step ≤ x.2.step := by simpa using hzs
     omega
   refine eG.2 ⟨fun z hz => ?_, ih h2 fun z hz => hb z (List.mem_cons_of_mem _ hz)⟩
   rcases List.mem_cons.1 ((AO x L).mem_iff.1 hz) with e | hz
   ·subst e
    unfold WN
    omega
   ·exact h1 z hz
  ·rename_i hc
   have hlt : x.2.step < y.2.step := by
    have : ¬ y.2.step ≤ x.2.step := fun q => hc (.inl q)
    omega
   refine eG.2 ⟨fun z hz => ?_, hs⟩
   rcases List.mem_cons.1 hz with e | hz
   ·subst e; exact .inl hlt
   ·have := C7 (h1 z hz)
    exact .inl (by omega)
theorem Hr (l : List Pt) : ∃ Z, iR Z ∧ Z.Perm (na 0 l) ∧ pl Z = aZ l := by
 have gen : ∀ (r : List Pt), ∃ Z, iR Z ∧ Z.Perm (na 0 r.reverse) ∧ pl Z = aZ r.reverse := by
  intro r
  induction r with
  | nil => exact ⟨[], D5, List.Perm.refl _, rfl⟩
  | cons x r ih =>
   obtain ⟨Z, h1, h2, h3⟩ := ih
   rw [List.reverse_cons, AW, ul]
   refine ⟨FL (0 + r.reverse.length, x) Z, Us _ _ h1 fun y hy => ?_, ?_, ?_⟩
   ·have hy := h2.mem_iff.1 hy
    have := FW (r.reverse ++ [x]) 0
    rw [AW] at this
    exact (List.pairwise_append.1 this).2.2 y hy _ (List.mem_cons_self ..)
   ·refine (AO _ _).trans ?_
    exact (h2.cons _).trans (List.perm_append_comm (l₁ := [_]) (l₂ := na 0 r.reverse))
   ·rw [XI, h3]
 have := gen l.reverse
 rw [List.reverse_reverse] at this
 exact this
theorem NY {l : List Pt} {Z : List TP} (h1 : iR Z) (h2 : Z.Perm (na 0 l)) : pl Z = aZ l := by
 obtain ⟨Z', g1, g2, g3⟩ := Hr l
 rw [Kq Z Z' h1 g1 (h2.trans g2.symm), g3]
inductive KM (bs : Nat) : List TP → Prop
 | last {X : List TP} (h1 : X.length ≤ bs) (h2 : iR X) : KM bs X
 | cons {X L : List TP} (h1 : X.length = bs) (h2 : iR X) (h3 : uR X L) (h4 : KM bs L) : KM bs (X ++ L)
theorem KM.nil {bs : Nat} : KM bs [] := .last (by simp) D5
theorem KM.split {bs : Nat} {L : List TP} (h : KM bs L) (hl : bs ≤ L.length) : ∃ X L2, L = X ++ L2 ∧ X.length = bs ∧ iR X ∧ uR X L2 ∧ KM bs L2 := by
 cases h with
 | last h1 h2 => exact ⟨L, [], by simp, by omega, h2, (fun x _ y hy => by cases hy), .nil⟩
 | @cons X L' h1 h2 h3 h4 => exact ⟨X, L', rfl, h1, h2, h3, h4⟩
theorem KM.short {bs : Nat} {L : List TP} (h : KM bs L) (hl : L.length ≤ bs) : iR L := by
 cases h with
 | last h1 h2 => exact h2
 | @cons X L' h1 h2 h3 h4 =>
  have : L'.length = 0 := by rw [List.length_append] at hl; omega
  have : L' = [] := List.eq_nil_of_length_eq_zero this
  subst this
  rw [List.append_nil]; exact h2
theorem uR.left {X X2 Y : List TP} (h : uR (X ++ X2) Y) : uR X Y := fun x hx y hy => h x (List.mem_append_left _ hx) y hy
theorem uR.perm {X X' Y Y' : List TP} (h : uR X Y) (hx : X'.Perm X) (hy : Y'.Perm Y) : uR X' Y' := fun x h1 y h2 => h x (hx.mem_iff.1 h1) y (hy.mem_iff.1 h2)
theorem uR.sub {X X' Y Y' : List TP} (h : uR X Y) (hx : ∀ x ∈ X', x ∈ X) (hy : ∀ y ∈ Y', y ∈ Y) : uR X' Y' := fun x h1 y h2 => h x (hx x h1) y (hy y h2)
theorem Hm {X Y : List TP} : Yu (X ++ Y) ↔ Yu X ∧ Yu Y ∧ uR X Y := List.pairwise_append
theorem oI {x : OV} {Q Q' : Value → AH → Prop} (f : ∀ v H, Q v H → Q' v H) (k : wp x Q) : wp x Q' := let ⟨v, H, e, q⟩ := k; ⟨v, H, e, f _ _ q⟩
theorem ud (s : Value) (l : List Pt) (hl : l.length ≤ 1000000) : Sp UR [s] (ts 7 Pt.cells s l) (fun v : Value => v) (fun v => ts 7 Pt.cells v l * ts 7 Pt.cells s l) := by
 refine av fun R H h => ?_
 refine aw (fun r => aaC _ H) ?_
 rcases mz (s := s) (l := l) h with ⟨rfl, rfl, h0⟩ | ⟨b, rfl, h0⟩
 ·refine aa (v := vb true) rfl ?_
  with_reducible repeat refine gg ?_
  refine aq ⟨_, rfl, ?_⟩
  have h1 := eH 7 Pt.cells h
  exact h1.to
 ·refine aa (v := vb false) rfl ?_
  with_reducible repeat refine gg ?_
  refine NC (cs := []) h rfl fun b1 H1 h1 => ?_
  have h2 : ae (ts 7 Pt.cells (vs b1 0 7) [] * (ts 7 Pt.cells (vs b l.length 7) l * R)) H1 := wn (enc := Pt.cells) (l := []) h1
  refine Ea (x := vs b l.length 7) (m := l) h2 (by unfold cC; simp; omega) (by omega) fun v H2 h3 => ?_
  rw [List.nil_append] at h3
  exact aq ⟨v, rfl, h3.to⟩
theorem Ga (x2 s : Value) (l : List Pt) (hl : l.length ≤ 1000000) {P R : SP} : ∀ (d i : Nat) (o : Value) (H : AH), i + d = l.length → ae (ts 7 Pt.cells o (l.take i) * (ts 7 Pt.cells s l * P) * R) H →
 wp (Dd x2 o s (vi l.length) (vi i) H) fun v' H' => ∃ v : Value, v' = v ∧ ae (ts 7 Pt.cells v l * (ts 7 Pt.cells s l * P) * R) H' := by
 intro d
 induction d with
 | zero =>
  intro i o H hi h
  refine ag (AZ _ _ _ _ _ H) ?_
  refine aa (bI (by omega)) ?_
  with_reducible repeat refine gg ?_
  refine ag (F2 _ _ H) ?_
  refine ag (PG _ _ H) ?_
  rw [List.take_of_length_le (by omega)] at h
  exact aq ⟨_, rfl, h⟩
 | succ d ih =>
  intro i o H hi h
  have hil : i < l.length := by omega
  refine ag (AZ _ _ _ _ _ H) ?_
  refine aa (b4 (by omega)) ?_
  with_reducible repeat refine gg ?_
  refine ag (PI _ _ _ _ _ H) ?_
  refine Ec (s := s) (l := l) h hil ?_
  refine aO h fun b H1 h1 => ?_
  refine bZ h1 rfl rfl fun H2 h2 => ?_
  refine a7 h2 ak ?_
  refine af h2 (pT l[i].e) fun _ H3 h3 => ?_
  refine aL h3 ak rfl rfl fun H4 h4 => ?_
  refine aM h4 ?_
  refine j8 h4 fun b0 H5 h5 => ?_
  refine gQ (s := o) (l := l.take i) (l[i] : Pt) h5 rfl ?_ (by omega) fun a c H6 h6 => ?_
  ·unfold cC; simp only [List.length_take]; omega
  refine ag (PJ _ _ _ _ _ H6) ?_
  refine aa (aB (by omega) (by omega)) ?_
  refine ih (i + 1) _ H6 (by omega) ?_
  rw [List.take_succ_eq_append_getElem hil]
  exact h6.to
theorem ye : Sp dL [.slice none 0 0, .slice none 0 0] emp (fun _ : Unit => vb true) (fun _ => emp) := by
 have same : ∀ f : Value, Sp n0 [.slice none 0 0, .slice none 0 0, f] emp (fun _ : Unit => vb true) (fun _ => emp) := by
  intro f
  refine av fun R H h => ?_
  refine aw (fun r => C0 _ _ _ H) ?_
  refine cm ?_
  refine cm ?_
  refine aa (so rfl) ?_
  with_reducible repeat refine gg ?_
  refine ag (u0 _ _ _ _ H) ?_
  refine ag (u2 _ _ _ _ _ H) ?_
  refine ag (u3 _ _ _ _ _ H) ?_
  refine cm ?_
  refine aa (bI (by omega)) ?_
  with_reducible repeat refine gg ?_
  refine ag (rO _ H) ?_
  refine ag (u1 _ H) ?_
  exact aq ⟨(), rfl, h⟩
 refine av fun R H h => ?_
 refine aw (fun r => lE _ _ H) ?_
 refine af h (same _) fun _ H1 h1 => ?_
 exact aq ⟨(), rfl, h1.to⟩
theorem yf (e : Int) : Sp jR [.agg (gK e).toArray, .agg (gK e).toArray] emp (fun _ : Unit => vb true) (fun _ => emp) := by
 refine av fun R H h => ?_
 refine aw (fun r => FI _ _ H) ?_
 refine aH h fun b1 H1 h1 => ?_
 refine aH h1 fun b2 H2 h2 => ?_
 refine am h2 ak rfl ?_
 refine am h2 ak rfl ?_
 refine aa (bo rfl) ?_
 with_reducible repeat refine gg ?_
 refine am h2 ak rfl ?_
 with_reducible repeat refine gg ?_
 refine am h2 ak rfl ?_
 with_reducible repeat refine gg ?_
 refine aa (bo rfl) ?_
 with_reducible repeat refine gg ?_
 refine am h2 ak rfl ?_
 with_reducible repeat refine gg ?_
 refine am h2 ak rfl ?_
 with_reducible repeat refine gg ?_
 refine aa (bo rfl) ?_
 with_reducible repeat refine gg ?_
 refine am h2 ak rfl ?_
 with_reducible repeat refine gg ?_
 refine am h2 ak rfl ?_
 with_reducible repeat refine gg ?_
 refine af h2 ye fun _ H3 h3 => ?_
 with_reducible repeat refine gg ?_
 exact aq ⟨(), rfl, h3.to⟩
theorem I1 (x : Pt) : Sp mo [.agg (Pt.cells x).toArray, .agg (Pt.cells x).toArray] emp (fun _ : Unit => vb true) (fun _ => emp) := by
 refine av fun R H h => ?_
 refine aw (fun r => zV _ _ H) ?_
 refine aH h fun b1 H1 h1 => ?_
 refine aH h1 fun b2 H2 h2 => ?_
 refine am h2 ak rfl ?_
 refine am h2 ak rfl ?_
 refine aa (bo rfl) ?_
 with_reducible repeat refine gg ?_
 refine am h2 ak rfl ?_
 with_reducible repeat refine gg ?_
 refine am h2 ak rfl ?_
 with_reducible repeat refine gg ?_
 refine aa (bo rfl) ?_
 with_reducible repeat refine gg ?_
 refine am h2 ak rfl ?_
 with_reducible repeat refine gg ?_
 refine am h2 ak rfl ?_
 with_reducible repeat refine gg ?_
 refine aa (bo rfl) ?_
 with_reducible repeat refine gg ?_
 refine a7 h2 ak ?_
 with_reducible repeat refine gg ?_
 refine a7 h2 ak ?_
 with_reducible repeat refine gg ?_
 refine af h2 (yf x.e) fun _ H3 h3 => ?_
 with_reducible repeat refine gg ?_
 exact aq ⟨(), rfl, h3.to⟩
section
variable {α : Type}
theorem Zm (A B : List α) (x : α) : (A ++ x :: B)[A.length]? = some x := by simp
theorem oO {A B : List α} {x : α} {i : Nat} (h : i = A.length) : (A ++ x :: B)[i]? = some x := by subst h; exact Zm A B x
theorem XZ (A B : List α) (x y : α) : (A ++ x :: B).set A.length y = A ++ y :: B := by simp
theorem s4 {A B : List α} {x y : α} {i : Nat} (h : i = A.length) : (A ++ x :: B).set i y = A ++ y :: B := by subst h; exact XZ A B x y
theorem Y8 {A B C : List α} {x y : α} {i j : Nat} (hi : i = A.length) (hj : j = A.length + 1 + B.length) : ((A ++ x :: (B ++ y :: C)).set i y).set j x = A ++ y :: (B ++ x :: C) := by
 rw [s4 hi]
 have e : A ++ y :: (B ++ y :: C) = (A ++ y :: B) ++ y :: C := by simp
 rw [e, s4 (by simp; omega)]
 simp
theorem Wa {A B C : List α} {x y : α} {i j : Nat} (hi : i = A.length) (hj : j = A.length + 1 + B.length) : ((A ++ x :: (B ++ y :: C)).set j x).set i y = A ++ y :: (B ++ x :: C) := by
 have e : A ++ x :: (B ++ y :: C) = (A ++ x :: B) ++ y :: C := by simp
 rw [e, s4 (by simp; omega)]
 have e2 : (A ++ x :: B) ++ x :: C = A ++ x :: (B ++ x :: C) := by simp
 rw [e2, s4 hi]
theorem Yw {A B C : List α} {x y : α} {j : Nat} (hj : j = A.length + 1 + B.length) : (A ++ x :: (B ++ y :: C))[j]? = some y := by
 have e : A ++ x :: (B ++ y :: C) = (A ++ x :: B) ++ y :: C := by simp
 rw [e]
 exact oO (by simp; omega)
end
section
variable {P R : SP} {H : AH} {s : Value} {l : List Pt} {Q : Value → AH → Prop}
theorem m0 {i : Nat} {ii : Int} {x : Pt} {k : Value → OV} (hi : ii = i) (h : ae P H) [f : Ts P s Pt 7 Pt.cells l R] (hx : l[i]? = some x) (hk : wp (k (.agg (Pt.cells x).toArray)) Q) : wp (ldN 7 [.i 7 (vi ii)] s H k) Q := by
 subst hi
 obtain ⟨hil, e⟩ := List.getElem?_eq_some_iff.1 hx
 refine Ec (s := s) (l := l) (i := i) h hil ?_
 rw [e]
 exact hk
theorem Ed {i : Nat} {ii : Int} {x : Pt} {k : AH → OV} (hi : ii = i) (h : ae P H) [f : Ts P s Pt 7 Pt.cells l R] (hl : i < l.length) (hk : ∀ H', ae (ts 7 Pt.cells s (l.set i x) * R) H' → wp (k H') Q) : wp (st 7 [.i 7 (vi ii)] s (.agg (Pt.cells x).toArray) H k) Q := by
 subst hi
 exact G4 (s := s) (l := l) (i := i) x h hl (.inl ⟨rfl, rfl⟩) rfl (by omega) rfl rfl fun H' h' => hk H' h'.to
theorem KC {i j : Nat} {ii jj : Int} {x y : Pt} {k : AH → OV} (hi : ii = i) (hj : jj = j) (h : ae P H) [f : Ts P s Pt 7 Pt.cells l R] (hx : l[i]? = some x) (hy : l[j]? = some y)
 (hk : ∀ H', ae (ts 7 Pt.cells s ((l.set i y).set j x) * R) H' → wp (k H') Q) :
 wp (ldN 7 [.i 7 (vi jj)] s H fun v16 => ldN 7 [.i 7 (vi ii)] s H fun v17 => st 7 [.i 7 (vi ii)] s v16 H fun H18 => st 7 [.i 7 (vi jj)] s v17 H18 k) Q := by
 obtain ⟨hil, _⟩ := List.getElem?_eq_some_iff.1 hx
 obtain ⟨hjl, _⟩ := List.getElem?_eq_some_iff.1 hy
 refine m0 hj h hy ?_
 refine m0 hi h hx ?_
 refine Ed hi h hil fun H1 h1 => ?_
 refine Ed hj h1 (by rw [List.length_set]; exact hjl) fun H2 h2 => ?_
 exact hk H2 h2.to
end
theorem acG {cl : TCls} {w : Nat} : aj cl .shr (vu w) (vw 1) = some (vu (w / 2)) := by
 have := tk (cl := cl) (a := w) (k := .u64) (n := 1) (by omega)
 simpa using this
theorem NB {i j : Nat} {ii jj : Int} {k : Value → OV} {Q : Value → AH → Prop} (hi : ii = i) (hj : jj = j) (hb : i + j < 4611686018427387904) (hk : wp (k (vi (((i + j) / 2 : Nat) : Int))) Q) :
 wp ((aj .other .add (vi ii) (vi jj)).bind fun a => (bz (some .u64) a).bind fun b => (aj .other .shr b (vw 1)).bind fun c => (bz (some .i64) c).bind k) Q := by
 subst hi hj
 refine aa (aB (by omega) (by omega)) ?_
 refine aa (cU (by omega) (by omega)) ?_
 rw [show ((i : Int) + (j : Int)).toNat = i + j from by omega]
 refine aa (acG) ?_
 refine aa (fC (by omega)) ?_
 exact hk
def N1 (a b : Pt) : Int := if a.step < b.step then -1 else if b.step < a.step then 1 else 0
theorem WZ (a b : Int) : Sp hM [vi a, vi b] emp (fun _ : Unit => vi (if a < b then -1 else if b < a then 1 else 0)) (fun _ => emp) := by
 have nan : ∀ x : Int, Sp gt [vi x] emp (fun _ : Unit => vb false) (fun _ => emp) := by
  intro x
  refine av fun R H h => ?_
  refine aw (fun r => uV _ H) ?_
  refine aa (so rfl) ?_
  exact aq ⟨(), rfl, h⟩
 refine av fun R H h => ?_
 refine aw (fun r => rg _ _ H) ?_
 refine af h (nan a) fun _ H1 h1 => ?_
 refine af h1 (nan b) fun _ H2 h2 => ?_
 refine zz ?_
 refine zz ?_
 by_cases h1 : a < b
 ·refine aa (b4 h1) ?_
  with_reducible repeat refine gg ?_
  exact aq ⟨(), by rw [if_pos h1], h2.to⟩
 ·refine aa (bI h1) ?_
  with_reducible repeat refine gg ?_
  by_cases h3 : b < a
  ·refine aa (nG h3) ?_
   with_reducible repeat refine gg ?_
   exact aq ⟨(), by rw [if_neg h1, if_pos h3], h2.to⟩
  ·refine aa (gU h3) ?_
   with_reducible repeat refine gg ?_
   exact aq ⟨(), by rw [if_neg h1, if_neg h3], h2.to⟩
theorem PE (a b : Pt) : Sp cJ [.agg (Pt.cells a).toArray, .agg (Pt.cells b).toArray] emp (fun _ : Unit => vi (N1 a b)) (fun _ => emp) := by
 refine av fun R H h => ?_
 refine aw (fun r => og _ _ H) ?_
 refine aH h fun b1 H1 h1 => ?_
 refine aH h1 fun b2 H2 h2 => ?_
 refine am h2 ak rfl ?_
 refine am h2 ak rfl ?_
 refine af h2 (WZ a.step b.step) fun _ H3 h3 => ?_
 exact aq ⟨(), rfl, h3.to⟩
theorem vI {a b : Pt} (h : a.step < b.step) : aj .other .lss (vi (N1 a b)) (vi 0) = some (vb true) := by
 rw [N1, if_pos h]; exact b4 (by omega)
theorem vH {a b : Pt} (h : ¬ a.step < b.step) : aj .other .lss (vi (N1 a b)) (vi 0) = some (vb false) := by
 rw [N1, if_neg h]
 split <;> exact bI (by omega)
abbrev j6 : Value := .func (.func cJ) #[] #[]
theorem NE {P : SP} {H : AH} {Q : Value → AH → Prop} {a b : Pt} {k : Value × AH → OV} (h : ae P H) (hk : ∀ H', ae P H' → wp (k (vi (N1 a b), H')) Q) :
 wp (((bN j6 [.agg (Pt.cells a).toArray, .agg (Pt.cells b).toArray]).bind fun c => FF c.1 c.2 H).bind k) Q := by
 refine ag (show ((bN j6 [.agg (Pt.cells a).toArray, .agg (Pt.cells b).toArray]).bind fun c => FF c.1 c.2 H).bind k = (FF cJ [.agg (Pt.cells a).toArray, .agg (Pt.cells b).toArray] H).bind k from rfl) ?_
 refine af h (PE a b) fun _ H1 h1 => ?_
 exact hk H1 h1.to
theorem qT (s f : Value) (P M : List Pt) (Q : List Pt) : ∀ (X Y : List Pt), X.length = Y.length → P.length + X.length + M.length + Y.length < 4000000 →
 Sp FV [s, vi ((P.length : Nat) : Int), vi ((P.length + X.length + M.length : Nat) : Int), vi ((X.length : Nat) : Int), f] (ts 7 Pt.cells s (P ++ (X ++ (M ++ (Y ++ Q))))) (fun _ : Unit => .tuple #[]) (fun _ => ts 7 Pt.cells s (P ++ (Y ++ (M ++ (X ++ Q))))) := by
 intro X Y hXY hb
 refine av fun R H h => ?_
 refine aw (fun r => aaI _ _ _ _ _ H) ?_
 refine ag (QC ..) ?_
 have loop : ∀ (X2 Y2 X1 Y1 : List Pt) (H : AH), X1 ++ X2 = X → Y1 ++ Y2 = Y → X1.length = Y1.length → ae (ts 7 Pt.cells s ((P ++ Y1) ++ (X2 ++ (M ++ (X1 ++ (Y2 ++ Q))))) * R) H →
  wp (DX s (vi ((P.length : Nat) : Int)) (vi ((P.length + X.length + M.length : Nat) : Int)) (vi ((X.length : Nat) : Int)) (vi ((X1.length : Nat) : Int)) H) fun v' H' => ∃ x : Unit, v' = .tuple #[] ∧ ae (ts 7 Pt.cells s (P ++ (Y ++ (M ++ (X ++ Q)))) * R) H' := by
  intro X2
  induction X2 with
  | nil =>
   intro Y2 X1 Y1 H hX hY hl hh
   rw [List.append_nil] at hX
   subst hX
   have : Y2 = [] := by
    have := congrArg List.length hY
    rw [List.length_append] at this
    exact List.eq_nil_of_length_eq_zero (by omega)
   subst this
   rw [List.append_nil] at hY
   subst hY
   refine ag (Br ..) ?_
   refine aa (bI (by omega)) ?_
   with_reducible repeat refine gg ?_
   refine ag (GD ..) ?_
   refine aq ⟨(), rfl, ?_⟩
   simpa using hh
  | cons x X2 ih =>
   intro Y2 X1 Y1 H hX hY hl hh
   have hxl := congrArg List.length hX
   have hyl := congrArg List.length hY
   simp only [List.length_append, List.length_cons] at hxl hyl
   cases Y2 with
   | nil => simp only [List.length_nil] at hyl; omega
   | cons y Y2 =>
    simp only [List.length_cons] at hyl
    refine ag (Br ..) ?_
    refine aa (b4 (by omega)) ?_
    with_reducible repeat refine gg ?_
    refine ag (QD ..) ?_
    refine aa (aB (by omega) (by omega)) ?_
    refine aa (aB (by omega) (by omega)) ?_
    refine aa (aB (by omega) (by omega)) ?_
    have e : (P ++ Y1) ++ ((x :: X2) ++ (M ++ (X1 ++ ((y :: Y2) ++ Q)))) = (P ++ Y1) ++ x :: ((X2 ++ (M ++ X1)) ++ y :: (Y2 ++ Q)) := by simp
    rw [e] at hh
    refine m0 (i := P.length + X.length + M.length + X1.length) (by omega) hh (Yw (by simp; omega)) ?_
    refine aa (aB (by omega) (by omega)) ?_
    refine m0 (i := P.length + X1.length) (by omega) hh (oO (by simp; omega)) ?_
    refine Ed (i := P.length + X1.length) (by omega) hh (by simp; omega) fun H1 h1 => ?_
    refine Ed (i := P.length + X.length + M.length + X1.length) (by omega) h1 (by simp; omega) fun H2 h2 => ?_
    rw [Y8 (by simp; omega) (by simp; omega)] at h2
    refine ag (QE ..) ?_
    refine aa (aB (by omega) (by omega)) ?_
    have := ih Y2 (X1 ++ [x]) (Y1 ++ [y]) H2 (by rw [← hX]; simp) (by rw [← hY]; simp) (by simp; exact hl) (by
     have e2 : (P ++ Y1) ++ y :: ((X2 ++ (M ++ X1)) ++ x :: (Y2 ++ Q)) = (P ++ (Y1 ++ [y])) ++ (X2 ++ (M ++ ((X1 ++ [x]) ++ (Y2 ++ Q)))) := by simp
     rw [e2] at h2
     exact h2.to)
    rw [List.length_append, List.length_singleton] at this
    rw [show ((X1.length : Nat) : Int) + 1 = ((X1.length + 1 : Nat) : Int) from by omega]
    exact this
 exact loop X Y [] [] H rfl rfl rfl (by simpa using h)
theorem aaA (s f : Value) : ∀ (N : Nat) (P U V Q : List Pt), U.length + V.length ≤ N → 1 ≤ U.length → 1 ≤ V.length → P.length + U.length + V.length < 1000000 → ∀ (R : SP) (H : AH), ae (ts 7 Pt.cells s (P ++ (U ++ (V ++ Q))) * R) H →
 wp (zd s (vi ((P.length + U.length : Nat) : Int)) f (vi ((U.length : Nat) : Int)) (vi ((V.length : Nat) : Int)) H) fun v' H' => ∃ x : Unit, v' = .tuple #[] ∧ ae (ts 7 Pt.cells s (P ++ (V ++ (U ++ Q))) * R) H' := by
 intro N
 induction N with
 | zero => intro P U V Q hN hU hV; omega
 | succ N ih =>
  intro P U V Q hN hU hV hb R H h
  refine ag (Qs ..) ?_
  by_cases hij : U.length = V.length
  ·refine aa (so (by omega)) ?_
   with_reducible repeat refine gg ?_
   refine ag (Gz ..) ?_
   refine ag (Qr ..) ?_
   refine aa (a8 (by omega) (by omega)) ?_
   rw [show ((P.length + U.length : Nat) : Int) - ((U.length : Nat) : Int) = ((P.length : Nat) : Int) from by omega]
   have sw := qT s f P [] Q U V hij (by simp; omega)
   simp only [List.length_nil, Nat.add_zero, List.nil_append] at sw
   refine af h sw fun _ H1 h1 => ?_
   exact aq ⟨(), rfl, h1.to⟩
  ·refine aa (Y0 (by omega)) ?_
   with_reducible repeat refine gg ?_
   refine ag (Qt ..) ?_
   by_cases hgt : V.length < U.length
   ·refine aa (nG (by omega)) ?_
    with_reducible repeat refine gg ?_
    refine aa (a8 (by omega) (by omega)) ?_
    rw [show ((P.length + U.length : Nat) : Int) - ((U.length : Nat) : Int) = ((P.length : Nat) : Int) from by omega]
    have hl1 : (U.take V.length).length = V.length := by rw [List.length_take]; omega
    have hl2 : (U.drop V.length).length = U.length - V.length := List.length_drop
    have eU : U.take V.length ++ U.drop V.length = U := List.take_append_drop ..
    have sw := qT s f P (U.drop V.length) Q (U.take V.length) V hl1 (by omega)
    rw [hl1, hl2, show P.length + V.length + (U.length - V.length) = P.length + U.length from by omega] at sw
    have e1 : P ++ (U ++ (V ++ Q)) = P ++ (U.take V.length ++ (U.drop V.length ++ (V ++ Q))) := by rw [← List.append_assoc (U.take V.length), eU]
    rw [e1] at h
    refine af h sw fun _ H1 h1 => ?_
    refine aa (a8 (by omega) (by omega)) ?_
    have := ih (P ++ V) (U.drop V.length) (U.take V.length) Q (by omega) (by omega) (by omega) (by rw [List.length_append]; omega) R H1 (by
     rw [List.append_assoc]
     exact h1.to)
    rw [hl1, hl2, List.length_append, show P.length + V.length + (U.length - V.length) = P.length + U.length from by omega] at this
    rw [show ((U.length : Nat) : Int) - ((V.length : Nat) : Int) = ((U.length - V.length : Nat) : Int) from by omega]
    refine oI ?_ this
    rintro v' H' ⟨_, e, h2⟩
    refine ⟨(), e, ?_⟩
    have e2 : (P ++ V) ++ (U.take V.length ++ (U.drop V.length ++ Q)) = P ++ (V ++ (U ++ Q)) := by rw [← List.append_assoc (U.take V.length), eU, List.append_assoc]
    rw [e2] at h2
    exact h2
   ·refine aa (gU (by omega)) ?_
    with_reducible repeat refine gg ?_
    refine aa (a8 (by omega) (by omega)) ?_
    rw [show ((P.length + U.length : Nat) : Int) - ((U.length : Nat) : Int) = ((P.length : Nat) : Int) from by omega]
    refine aa (aB (by omega) (by omega)) ?_
    refine aa (a8 (by omega) (by omega)) ?_
    have hl1 : (V.take (V.length - U.length)).length = V.length - U.length := by rw [List.length_take]; omega
    have hl2 : (V.drop (V.length - U.length)).length = U.length := by rw [List.length_drop]; omega
    have eV : V.take (V.length - U.length) ++ V.drop (V.length - U.length) = V := List.take_append_drop ..
    have sw := qT s f P (V.take (V.length - U.length)) Q U (V.drop (V.length - U.length)) hl2.symm (by omega)
    rw [hl1] at sw
    rw [show ((P.length + U.length : Nat) : Int) + ((V.length : Nat) : Int) - ((U.length : Nat) : Int) = ((P.length + U.length + (V.length - U.length) : Nat) : Int) from by omega]
    have e1 : P ++ (U ++ (V ++ Q)) = P ++ (U ++ (V.take (V.length - U.length) ++ (V.drop (V.length - U.length) ++ Q))) := by rw [← List.append_assoc (V.take (V.length - U.length)), eV]
    rw [e1] at h
    refine af h sw fun _ H1 h1 => ?_
    refine aa (a8 (by omega) (by omega)) ?_
    have := ih P (V.drop (V.length - U.length)) (V.take (V.length - U.length)) (U ++ Q) (by omega) (by omega) (by omega) (by omega) R H1 h1.to
    rw [hl1, hl2] at this
    rw [show ((V.length : Nat) : Int) - ((U.length : Nat) : Int) = ((V.length - U.length : Nat) : Int) from by omega]
    refine oI ?_ this
    rintro v' H' ⟨_, e, h2⟩
    refine ⟨(), e, ?_⟩
    have e2 : P ++ (V.take (V.length - U.length) ++ (V.drop (V.length - U.length) ++ (U ++ Q))) = P ++ (V ++ (U ++ Q)) := by rw [← List.append_assoc (V.take (V.length - U.length)), eV]
    rw [e2] at h2
    exact h2
theorem JT (s f : Value) (P U V Q : List Pt) (hU : 1 ≤ U.length) (hV : 1 ≤ V.length) (hb : P.length + U.length + V.length < 1000000) :
 Sp US [s, vi ((P.length : Nat) : Int), vi ((P.length + U.length : Nat) : Int), vi ((P.length + U.length + V.length : Nat) : Int), f] (ts 7 Pt.cells s (P ++ (U ++ (V ++ Q)))) (fun _ : Unit => .tuple #[]) (fun _ => ts 7 Pt.cells s (P ++ (V ++ (U ++ Q)))) := by
 refine av fun R H h => ?_
 refine aw (fun r => aaF _ _ _ _ _ H) ?_
 refine aa (a8 (by omega) (by omega)) ?_
 refine aa (a8 (by omega) (by omega)) ?_
 refine ag (Qq ..) ?_
 rw [show ((P.length + U.length : Nat) : Int) - ((P.length : Nat) : Int) = ((U.length : Nat) : Int) from by omega, show ((P.length + U.length + V.length : Nat) : Int) - ((P.length + U.length : Nat) : Int) = ((V.length : Nat) : Int) from by omega]
 exact aaA s f _ P U V Q (Nat.le_refl _) hU hV hb R H h
theorem cB (L : List TP) : (pl L).length = L.length := List.length_map ..
theorem f4 (X Y : List TP) : pl (X ++ Y) = pl X ++ pl Y := List.map_append ..
theorem uR.append_right {X Y Z : List TP} : uR X (Y ++ Z) ↔ uR X Y ∧ uR X Z :=
 ⟨fun h => ⟨fun x hx y hy => h x hx y (List.mem_append_left _ hy), fun x hx y hy => h x hx y (List.mem_append_right _ hy)⟩, fun h x hx y hy => (List.mem_append.1 hy).elim (h.1 x hx y) (h.2 x hx y)⟩
theorem AP (A B : List Pt) (s : Value) (X : List TP) (hX : Yu X) (hb : A.length + X.length < 1000000) :
 Sp MG [s, vi ((A.length : Nat) : Int), vi ((A.length + X.length : Nat) : Int), j6] (ts 7 Pt.cells s (A ++ (pl X ++ B))) (fun _ : List TP => .tuple #[]) (fun Z => pu (iR Z ∧ Z.Perm X) * ts 7 Pt.cells s (A ++ (pl Z ++ B))) := by
 refine av fun R H h => ?_
 refine aw (fun r => aaD _ _ _ _ H) ?_
 refine aa (aB (by omega) (by omega)) ?_
 refine ag (Qg ..) ?_
 have outer : ∀ (r S : List TP) (H : AH), iR S → Yu r → uR S r → (S ++ r).Perm X → ae (ts 7 Pt.cells s (A ++ (pl S ++ (pl r ++ B))) * R) H →
  wp (DJ s (vi ((A.length : Nat) : Int)) (vi ((A.length + X.length : Nat) : Int)) j6 (vi ((A.length + S.length : Nat) : Int)) H) fun v' H' => ∃ Z : List TP, v' = .tuple #[] ∧ ae (pu (iR Z ∧ Z.Perm X) * ts 7 Pt.cells s (A ++ (pl Z ++ B)) * R) H' := by
  intro r
  induction r with
  | nil =>
   intro S H hS hr hSr hp hh
   have hlen := hp.length_eq
   rw [List.append_nil] at hp hlen
   refine ag (ua ..) ?_
   refine aa (bI (by omega)) ?_
   with_reducible repeat refine gg ?_
   refine ag (uI ..) ?_
   refine aq ⟨S, rfl, ?_⟩
   rw [ap, ae.pu]
   exact ⟨⟨hS, hp⟩, by simpa using hh⟩
  | cons x r ih =>
   intro S H hS hr hSr hp hh
   have hlen := hp.length_eq
   rw [List.length_append, List.length_cons] at hlen
   refine ag (ua ..) ?_
   refine aa (b4 (by omega)) ?_
   with_reducible repeat refine gg ?_
   refine ag (Qh ..) ?_
   refine ag (Qi ..) ?_
   -- x goes down
   have inner : ∀ (d : Nat) (S1 S2 : List TP) (H : AH), S1.length = d → S1 ++ S2 = S → (∀ z ∈ S2, x.2.step < z.2.step) → ae (ts 7 Pt.cells s (A ++ (pl S1 ++ (x.2 :: (pl S2 ++ (pl r ++ B))))) * R) H →
    wp (DK s (vi ((A.length : Nat) : Int)) (vi ((A.length + X.length : Nat) : Int)) j6 (vi ((A.length + S.length : Nat) : Int)) (vi ((A.length + S1.length : Nat) : Int)) H) fun v' H' => ∃ Z : List TP, v' = .tuple #[] ∧ ae (pu (iR Z ∧ Z.Perm X) * ts 7 Pt.cells s (A ++ (pl Z ++ B)) * R) H' := by
    intro d
    induction d with
    | zero =>
     intro S1 S2 H hd hS12 hz h2
     have hS1 : S1 = [] := List.eq_nil_of_length_eq_zero hd
     subst hS1
     refine ag (Bi ..) ?_
     refine aa (gU (by simp)) ?_
     with_reducible repeat refine gg ?_
     refine ag (uJ ..) ?_
     refine ag (Bh ..) ?_
     refine aa (aB (by omega) (by omega)) ?_
     rw [List.nil_append] at hS12
     subst hS12
     have := ih (x :: S2) H (eG.2 ⟨fun z hz2 => .inl (hz z hz2), hS⟩) (List.pairwise_cons.1 hr).2 (fun a ha b hb2 => by
      rcases List.mem_cons.1 ha with e | ha
      ·subst e; exact (List.pairwise_cons.1 hr).1 b hb2
      ·exact hSr a ha b (List.mem_cons_of_mem _ hb2)) ((List.perm_middle (l₁ := S2) (l₂ := r) (a := x)).symm.trans hp) (by simpa using h2)
     rw [List.length_cons] at this
     rw [show ((A.length + S2.length : Nat) : Int) + 1 = ((A.length + (S2.length + 1) : Nat) : Int) from by omega]
     exact this
    | succ d ihd =>
     intro S1 S2 H hd hS12 hz h2
     obtain ⟨S0, y, rfl⟩ : ∃ S0 y, S1 = S0 ++ [y] := by
      refine ⟨S1.dropLast, S1.getLast (by intro e; rw [e] at hd; simp at hd), ?_⟩
      rw [List.dropLast_concat_getLast]
     have hd0 : S0.length = d := by simpa using hd
     have hSl := congrArg List.length hS12
     simp only [List.length_append, List.length_singleton] at hSl
     have el : A ++ (pl (S0 ++ [y]) ++ (x.2 :: (pl S2 ++ (pl r ++ B)))) = (A ++ pl S0) ++ y.2 :: ([] ++ x.2 :: (pl S2 ++ (pl r ++ B))) := by simp [pl]
     rw [el] at h2
     refine ag (Bi ..) ?_
     refine aa (nG (by simp; omega)) ?_
     with_reducible repeat refine gg ?_
     rw [show (((A.length + (S0 ++ [y]).length : Nat)) : Int) = ((A.length + S0.length + 1 : Nat) : Int) from by simp; omega]
     refine m0 (i := A.length + S0.length + 1) rfl h2 (Yw (by simp [pl])) ?_
     with_reducible repeat refine gg ?_
     refine aa (a8 (by omega) (by omega)) ?_
     with_reducible repeat refine gg ?_
     refine m0 (i := A.length + S0.length) (by omega) h2 (oO (by simp [pl])) ?_
     refine D9 ?_
     refine NE h2 fun H3 h3 => ?_
     by_cases hc : x.2.step < y.2.step
     ·refine kP ?_
      refine aa (vI hc) ?_
      with_reducible repeat refine gg ?_
      refine ag (JU ..) ?_
      refine aa (a8 (by omega) (by omega)) ?_
      refine aa (a8 (by omega) (by omega)) ?_
      refine KC (i := A.length + S0.length + 1) (j := A.length + S0.length) rfl (by omega) h3 (Yw (by simp [pl])) (oO (by simp [pl])) fun H4 h4 => ?_
      rw [Wa (by simp [pl]) (by simp [pl])] at h4
      refine ag (JV ..) ?_
      refine aa (a8 (by omega) (by omega)) ?_
      have := ihd S0 (y :: S2) H4 hd0 (by rw [← hS12]; simp) (fun z hz2 => by
       rcases List.mem_cons.1 hz2 with e | hz2
       ·subst e; exact hc
       ·exact hz z hz2) (by
       have e2 : (A ++ pl S0) ++ x.2 :: ([] ++ y.2 :: (pl S2 ++ (pl r ++ B))) = A ++ (pl S0 ++ (x.2 :: (pl (y :: S2) ++ (pl r ++ B)))) := by simp [pl]
       rw [e2] at h4
       exact h4.to)
      rw [show ((A.length + S0.length + 1 : Nat) : Int) - 1 = ((A.length + S0.length : Nat) : Int) from by omega]
      exact this
     ·refine kP ?_
      refine aa (vH hc) ?_
      with_reducible repeat refine gg ?_
      refine ag (uJ ..) ?_
      refine ag (Bh ..) ?_
      refine aa (aB (by omega) (by omega)) ?_
      rw [← hS12] at hS hSr hp
      have hS1s := (b8.1 hS).1
      have hx1 : ∀ z ∈ S0 ++ [y], WN z x := by
       intro z hz1
       have hzt := hSr z (List.mem_append_left _ hz1) x (List.mem_cons_self ..)
       have : z.2.step ≤ y.2.step := by
        rcases List.mem_append.1 hz1 with h | h
        ·exact C7 ((b8.1 hS1s).2.2 z h y (List.mem_singleton.2 rfl))
        ·rw [List.mem_singleton.1 h]; exact Int.le_refl _
       unfold WN
       omega
      have := ih ((S0 ++ [y]) ++ x :: S2) H3 (b8.2 ⟨hS1s, eG.2 ⟨fun z hz2 => .inl (hz z hz2), (b8.1 hS).2.1⟩, fun a ha b hb2 => by
       rcases List.mem_cons.1 hb2 with e | hb2
       ·subst e; exact hx1 a ha
       ·exact (b8.1 hS).2.2 a ha b hb2⟩) (List.pairwise_cons.1 hr).2 (fun a ha b hb2 => by
       rcases List.mem_append.1 ha with ha | ha
       ·exact hSr a (List.mem_append_left _ ha) b (List.mem_cons_of_mem _ hb2)
       ·rcases List.mem_cons.1 ha with e | ha
        ·subst e; exact (List.pairwise_cons.1 hr).1 b hb2
        ·exact hSr a (List.mem_append_right _ ha) b (List.mem_cons_of_mem _ hb2)) (by
       refine List.Perm.trans ?_ hp
       have p1 : (x :: (S2 ++ r)).Perm (S2 ++ x :: r) := (List.perm_middle (l₁ := S2) (l₂ := r) (a := x)).symm
       simpa using (p1.append_left (S0 ++ [y]))) (by
       have e2 : (A ++ pl S0) ++ y.2 :: ([] ++ x.2 :: (pl S2 ++ (pl r ++ B))) = A ++ (pl ((S0 ++ [y]) ++ x :: S2) ++ (pl r ++ B)) := by simp [pl]
       rw [← e2]
       exact h3.to)
      have e3 : ((S0 ++ [y]) ++ x :: S2).length = S.length + 1 := by simp; omega
      rw [e3] at this
      rw [show ((A.length + S.length : Nat) : Int) + 1 = ((A.length + (S.length + 1) : Nat) : Int) from by omega]
      exact this
   exact inner S.length S [] H rfl (List.append_nil S) (fun z hz => by cases hz) (by simpa using hh)
 cases X with
 | nil =>
  refine ag (ua ..) ?_
  refine aa (bI (by simp; omega)) ?_
  with_reducible repeat refine gg ?_
  refine ag (uI ..) ?_
  refine aq ⟨[], rfl, ?_⟩
  rw [ap, ae.pu]
  exact ⟨⟨D5, List.Perm.refl _⟩, h⟩
 | cons x X =>
  have := outer X [x] H (Ns x) (List.pairwise_cons.1 hX).2 (fun a ha b hb2 => by rw [List.mem_singleton.1 ha]; exact (List.pairwise_cons.1 hX).1 b hb2) (List.Perm.refl _) (by simpa using h)
  rw [List.length_singleton] at this
  rw [show ((A.length : Nat) : Int) + 1 = ((A.length + 1 : Nat) : Int) from by omega]
  exact this
theorem iQ {L : List TP} (h : iR L) {i j : Nat} (hij : i ≤ j) (hj : j < L.length) : (L[i]'(by omega)).2.step ≤ L[j].2.step := by
 by_cases e : i = j
 ·subst e; exact Int.le_refl _
 ·exact C7 (List.pairwise_iff_getElem.1 h i j (by omega) hj (by omega))
theorem X9 {X1 X2 Y1 Y2 Z1 Z2 : List TP} (hX : iR (X1 ++ X2)) (hY : iR (Y1 ++ Y2)) (hB : uR (X1 ++ X2) (Y1 ++ Y2)) (h1 : ∀ x ∈ X1, ∀ y ∈ Y2, x.2.step ≤ y.2.step) (h2 : ∀ y ∈ Y1, ∀ x ∈ X2, y.2.step < x.2.step)
 (z1 : iR Z1) (z2 : iR Z2) (p1 : Z1.Perm (X1 ++ Y1)) (p2 : Z2.Perm (X2 ++ Y2)) : iR (Z1 ++ Z2) ∧ (Z1 ++ Z2).Perm ((X1 ++ X2) ++ (Y1 ++ Y2)) := by
 refine ⟨b8.2 ⟨z1, z2, fun a ha b hb => ?_⟩, ?_⟩
 ·rcases List.mem_append.1 (p1.mem_iff.1 ha) with ha | ha <;> rcases List.mem_append.1 (p2.mem_iff.1 hb) with hb | hb
  ·exact (b8.1 hX).2.2 a ha b hb
  ·have := h1 a ha b hb
   have := hB a (List.mem_append_left _ ha) b (List.mem_append_right _ hb)
   unfold WN
   omega
  ·exact .inl (h2 a ha b hb)
  ·exact (b8.1 hY).2.2 a ha b hb
 ·refine (p1.append p2).trans ?_
  have : ((X1 ++ Y1) ++ (X2 ++ Y2)).Perm ((X1 ++ X2) ++ (Y1 ++ Y2)) := by
   rw [List.append_assoc, List.append_assoc]
   refine List.Perm.append_left X1 ?_
   rw [← List.append_assoc, ← List.append_assoc]
   exact List.Perm.append_right Y2 List.perm_append_comm
  exact this
theorem kz {L : List TP} {n : Nat} {x : TP} (h : x ∈ L.take n) : ∃ i, ∃ (hi : i < L.length), i < n ∧ L[i] = x := by
 obtain ⟨i, hi, e⟩ := List.mem_iff_getElem.1 h
 rw [List.length_take] at hi
 exact ⟨i, by omega, by omega, by rw [← e, List.getElem_take]⟩
theorem ky {L : List TP} {n : Nat} {x : TP} (h : x ∈ L.drop n) : ∃ i, ∃ (hi : i < L.length), n ≤ i ∧ L[i] = x := by
 obtain ⟨i, hi, e⟩ := List.mem_iff_getElem.1 h
 rw [List.length_drop] at hi
 exact ⟨n + i, by omega, by omega, by rw [← e, List.getElem_drop]⟩
section
variable (A B : List Pt) (s : Value) (X Y : List TP)
theorem Zk {C : Nat} (hC : C < X.length) {i : Nat} (hi : i = A.length + C) : (A ++ (pl X ++ (pl Y ++ B)))[i]? = some X[C].2 := by
 subst hi
 rw [List.getElem?_append_right (by omega), Nat.add_sub_cancel_left, List.getElem?_append_left (by rw [cB]; exact hC), List.getElem?_map, List.getElem?_eq_getElem hC]; rfl
theorem Zl {C : Nat} (hC : C < Y.length) {i : Nat} (hi : i = A.length + X.length + C) : (A ++ (pl X ++ (pl Y ++ B)))[i]? = some Y[C].2 := by
 subst hi
 rw [List.getElem?_append_right (by omega), List.getElem?_append_right (by rw [cB]; omega), cB, show A.length + X.length + C - A.length - X.length = C from by omega, List.getElem?_append_left (by rw [cB]; exact hC), List.getElem?_map, List.getElem?_eq_getElem hC]; rfl
end
theorem NX (s : Value) (x : Pt) (Q : List Pt) {R : SP} : ∀ (M P : List Pt) (H : AH), P.length + M.length < 1000000 → ae (ts 7 Pt.cells s (P ++ x :: (M ++ Q)) * R) H →
 wp (wi s (vi ((P.length + M.length + 1 : Nat) : Int)) (vi ((P.length : Nat) : Int)) H) fun v' H' => v' = .tuple #[] ∧ ae (ts 7 Pt.cells s (P ++ (M ++ x :: Q)) * R) H' := by
 intro M
 induction M with
 | nil =>
  intro P H hb hh
  refine ag (zc ..) ?_
  rw [List.length_nil, Nat.add_zero]
  refine aa (a8 (by omega) (by omega)) ?_
  refine aa (bI (by omega)) ?_
  with_reducible repeat refine gg ?_
  refine ag (DO ..) ?_
  refine ag (Ka ..) ?_
  exact aq ⟨rfl, hh⟩
 | cons y M ih =>
  intro P H hb hh
  rw [List.length_cons] at hb
  refine ag (zc ..) ?_
  rw [List.length_cons]
  refine aa (a8 (by omega) (by omega)) ?_
  refine aa (b4 (by omega)) ?_
  with_reducible repeat refine gg ?_
  refine ag (Kc ..) ?_
  refine aa (aB (by omega) (by omega)) ?_
  refine aa (aB (by omega) (by omega)) ?_
  have e : P ++ x :: ((y :: M) ++ Q) = P ++ x :: ([] ++ y :: (M ++ Q)) := rfl
  rw [e] at hh
  refine KC (i := P.length) (j := P.length + 1) rfl (by omega) hh (oO rfl) (Yw (by simp)) fun H2 h2 => ?_
  rw [Y8 rfl (by simp)] at h2
  refine ag (Kd ..) ?_
  refine aa (aB (by omega) (by omega)) ?_
  have := ih (P ++ [y]) H2 (by simp; omega) (by
   have e2 : P ++ y :: ([] ++ x :: (M ++ Q)) = (P ++ [y]) ++ x :: (M ++ Q) := by simp
   rw [← e2]
   exact h2.to)
  rw [List.length_append, List.length_singleton, show P.length + 1 + M.length + 1 = P.length + (M.length + 1) + 1 from by omega] at this
  rw [show ((P.length : Nat) : Int) + 1 = ((P.length + 1 : Nat) : Int) from by omega]
  refine oI ?_ this
  rintro v' H' ⟨e1, h3⟩
  refine ⟨e1, ?_⟩
  have e3 : (P ++ [y]) ++ (M ++ x :: Q) = P ++ ((y :: M) ++ x :: Q) := by simp
  rw [e3] at h3
  exact h3
theorem Et (s : Value) (y : Pt) {R : SP} : ∀ (d : Nat) (M P Q : List Pt) (H : AH), M.length = d → P.length + M.length < 1000000 → ae (ts 7 Pt.cells s (P ++ (M ++ y :: Q)) * R) H →
 wp (wh s (vi ((P.length : Nat) : Int)) (vi ((P.length + M.length : Nat) : Int)) H) fun v' H' => v' = .tuple #[] ∧ ae (ts 7 Pt.cells s (P ++ y :: (M ++ Q)) * R) H' := by
 intro d
 induction d with
 | zero =>
  intro M P Q H hd hb hh
  have : M = [] := List.eq_nil_of_length_eq_zero hd
  subst this
  refine ag (za ..) ?_
  refine aa (gU (by simp)) ?_
  with_reducible repeat refine gg ?_
  refine ag (DM ..) ?_
  refine ag (J2 ..) ?_
  exact aq ⟨rfl, hh⟩
 | succ d ih =>
  intro M P Q H hd hb hh
  obtain ⟨M0, z, rfl⟩ : ∃ M0 z, M = M0 ++ [z] := ⟨M.dropLast, M.getLast (by intro e; rw [e] at hd; simp at hd), by rw [List.dropLast_concat_getLast]⟩
  have hd0 : M0.length = d := by simpa using hd
  rw [List.length_append, List.length_singleton] at hb
  refine ag (za ..) ?_
  rw [List.length_append, List.length_singleton]
  refine aa (nG (by omega)) ?_
  with_reducible repeat refine gg ?_
  refine ag (J4 ..) ?_
  refine aa (a8 (by omega) (by omega)) ?_
  refine aa (a8 (by omega) (by omega)) ?_
  have e : P ++ ((M0 ++ [z]) ++ y :: Q) = (P ++ M0) ++ z :: ([] ++ y :: Q) := by simp
  rw [e] at hh
  refine KC (i := P.length + M0.length + 1) (j := P.length + M0.length) (by omega) (by omega) hh (Yw (by simp)) (oO (by simp)) fun H2 h2 => ?_
  rw [Wa (by simp) (by simp)] at h2
  refine ag (J5 ..) ?_
  refine aa (a8 (by omega) (by omega)) ?_
  have := ih M0 P (z :: Q) H2 hd0 (by omega) (by
   have e2 : (P ++ M0) ++ y :: ([] ++ z :: Q) = P ++ (M0 ++ y :: (z :: Q)) := by simp
   rw [← e2]
   exact h2.to)
  rw [show ((P.length + (M0.length + 1) : Nat) : Int) - 1 = ((P.length + M0.length : Nat) : Int) from by omega]
  refine oI ?_ this
  rintro v' H' ⟨e1, h3⟩
  refine ⟨e1, ?_⟩
  have e3 : P ++ y :: (M0 ++ z :: Q) = P ++ y :: ((M0 ++ [z]) ++ Q) := by simp
  rw [e3] at h3
  exact h3
section
variable (A B : List Pt) (s : Value) (X Y : List TP) (hX : iR X) (hY : iR Y) (hB : uR X Y) (hb : A.length + X.length + Y.length < 1000000)
include hX hY hB hb
theorem FS (x : TP) (hx : X = [x]) {R : SP} {H : AH} (h : ae (ts 7 Pt.cells s (A ++ (pl X ++ (pl Y ++ B))) * R) H) :
 wp (DS s (vi ((A.length : Nat) : Int)) j6 (vi ((A.length + X.length : Nat) : Int)) (vi ((A.length + X.length + Y.length : Nat) : Int)) H) fun v' H' => ∃ Z : List TP, v' = .tuple #[] ∧ ae (pu (iR Z ∧ Z.Perm (X ++ Y)) * ts 7 Pt.cells s (A ++ (pl Z ++ B)) * R) H' := by
 have hXl : X.length = 1 := by rw [hx]; rfl
 have hx0 : X[0]'(by omega) = x := by subst hx; rfl
 refine ag (J8 ..) ?_
 have bin : ∀ (d i j : Nat) (H : AH), j - i = d → i ≤ j → j ≤ Y.length → (∀ C, ∀ hC : C < Y.length, C < i → Y[C].2.step < x.2.step) → (∀ C, ∀ hC : C < Y.length, j ≤ C → ¬ Y[C].2.step < x.2.step) → ae (ts 7 Pt.cells s (A ++ (pl X ++ (pl Y ++ B))) * R) H →
  wp (oy s (vi ((A.length : Nat) : Int)) j6 (vi ((A.length + X.length + i : Nat) : Int)) (vi ((A.length + X.length + j : Nat) : Int)) H) fun v' H' => ∃ Z : List TP, v' = .tuple #[] ∧ ae (pu (iR Z ∧ Z.Perm (X ++ Y)) * ts 7 Pt.cells s (A ++ (pl Z ++ B)) * R) H' := by
  intro d
  induction d using Nat.strongRecOn with
  | ind d ih =>
   intro i j H hd hij hj hlo hhi hh
   refine ag (Gv ..) ?_
   by_cases hlt : i < j
   ·refine aa (b4 (by omega)) ?_
    with_reducible repeat refine gg ?_
    refine ag (Gx ..) ?_
    refine NB rfl rfl (by omega) ?_
    have hm : (A.length + X.length + i + (A.length + X.length + j)) / 2 = A.length + X.length + (i + j) / 2 := by omega
    rw [hm]
    have hc : (i + j) / 2 < Y.length := by omega
    refine m0 (i := A.length + X.length + (i + j) / 2) rfl hh (Zl A B X Y hc rfl) ?_
    refine m0 (i := A.length) rfl hh (Zk A B X Y (C := 0) (by omega) (by omega)) ?_
    refine NE hh fun H1 h1 => ?_
    rw [hx0]
    by_cases hcmp : Y[(i + j) / 2].2.step < x.2.step
    ·refine aa (vI hcmp) ?_
     with_reducible repeat refine gg ?_
     refine aa (aB (by omega) (by omega)) ?_
     rw [show ((A.length + X.length + (i + j) / 2 : Nat) : Int) + 1 = ((A.length + X.length + ((i + j) / 2 + 1) : Nat) : Int) from by omega]
     refine ih (j - ((i + j) / 2 + 1)) (by omega) ((i + j) / 2 + 1) j H1 rfl (by omega) hj (fun C hC hCl => ?_) hhi h1
     have := iQ hY (i := C) (j := (i + j) / 2) (by omega) hc
     omega
    ·refine aa (vH hcmp) ?_
     with_reducible repeat refine gg ?_
     refine ih ((i + j) / 2 - i) (by omega) i ((i + j) / 2) H1 rfl (by omega) (by omega) hlo (fun C hC hCl => ?_) h1
     have := iQ hY (i := (i + j) / 2) (j := C) hCl hC
     omega
   ·refine aa (bI (by omega)) ?_
    with_reducible repeat refine gg ?_
    have e : j = i := by omega
    subst e
    refine ag (z5 ..) ?_
    refine ag (J9 ..) ?_
    refine ag (Kb ..) ?_
    have ht : (pl (Y.take j)).length = j := by rw [cB, List.length_take]; omega
    have eY : Y.take j ++ Y.drop j = Y := List.take_append_drop ..
    have b := NX s x.2 (pl (Y.drop j) ++ B) (R := R) (pl (Y.take j)) A H (by omega) (by
     have e2 : A ++ (pl X ++ (pl Y ++ B)) = A ++ x.2 :: (pl (Y.take j) ++ (pl (Y.drop j) ++ B)) := by
      rw [← List.append_assoc (pl (Y.take j)), ← f4, eY, hx]; rfl
     rw [← e2]
     exact hh)
    rw [ht] at b
    rw [hXl, show A.length + 1 + j = A.length + j + 1 from by omega]
    refine oI ?_ b
    rintro v' H' ⟨e1, h3⟩
    refine ⟨Y.take j ++ x :: Y.drop j, e1, ?_⟩
    rw [ap, ae.pu]
    have hYs := b8.1 (by rw [eY]; exact hY : iR (Y.take j ++ Y.drop j))
    have hbel : ∀ y ∈ Y, x.1 < y.1 := fun y hy => hB x (by rw [hx]; exact List.mem_singleton.2 rfl) y hy
    refine ⟨⟨b8.2 ⟨hYs.1, eG.2 ⟨fun y hy => ?_, hYs.2.1⟩, fun a ha b hb2 => ?_⟩, ?_⟩, ?_⟩
    ·obtain ⟨i, hi, hge, rfl⟩ := ky hy
     have := hhi i hi hge
     have := hbel _ (List.getElem_mem hi)
     unfold WN
     omega
    ·rcases List.mem_cons.1 hb2 with e3 | hb2
     ·subst e3
      obtain ⟨i, hi, hlt2, rfl⟩ := kz ha
      exact .inl (hlo i hi hlt2)
     ·exact hYs.2.2 a ha b hb2
    ·refine (List.perm_middle (l₁ := Y.take j) (l₂ := Y.drop j) (a := x)).trans ?_
     rw [eY, hx]
     exact List.Perm.refl _
    ·have e4 : A ++ (pl (Y.take j) ++ x.2 :: (pl (Y.drop j) ++ B)) = A ++ (pl (Y.take j ++ x :: Y.drop j) ++ B) := by simp [pl]
     rw [e4] at h3
     exact h3
 have := bin Y.length 0 Y.length H rfl (Nat.zero_le _) (Nat.le_refl _) (fun C hC hl => by omega) (fun C hC hl => by omega) h
 exact this
theorem Jd (y : TP) (hy : Y = [y]) {R : SP} {H : AH} (h : ae (ts 7 Pt.cells s (A ++ (pl X ++ (pl Y ++ B))) * R) H) :
 wp (DP s (vi ((A.length + X.length : Nat) : Int)) j6 (vi ((A.length : Nat) : Int)) (vi ((A.length + X.length : Nat) : Int)) H) fun v' H' => ∃ Z : List TP, v' = .tuple #[] ∧ ae (pu (iR Z ∧ Z.Perm (X ++ Y)) * ts 7 Pt.cells s (A ++ (pl Z ++ B)) * R) H' := by
 have hYl : Y.length = 1 := by rw [hy]; rfl
 have hy0 : Y[0]'(by omega) = y := by subst hy; rfl
 refine ag (J0 ..) ?_
 have bin : ∀ (d i j : Nat) (H : AH), j - i = d → i ≤ j → j ≤ X.length → (∀ C, ∀ hC : C < X.length, C < i → ¬ y.2.step < X[C].2.step) → (∀ C, ∀ hC : C < X.length, j ≤ C → y.2.step < X[C].2.step) → ae (ts 7 Pt.cells s (A ++ (pl X ++ (pl Y ++ B))) * R) H →
  wp (s0 s (vi ((A.length + X.length : Nat) : Int)) j6 (vi ((A.length + i : Nat) : Int)) (vi ((A.length + j : Nat) : Int)) H) fun v' H' => ∃ Z : List TP, v' = .tuple #[] ∧ ae (pu (iR Z ∧ Z.Perm (X ++ Y)) * ts 7 Pt.cells s (A ++ (pl Z ++ B)) * R) H' := by
  intro d
  induction d using Nat.strongRecOn with
  | ind d ih =>
   intro i j H hd hij hj hlo hhi hh
   refine ag (J6 ..) ?_
   by_cases hlt : i < j
   ·refine aa (b4 (by omega)) ?_
    with_reducible repeat refine gg ?_
    refine ag (J7 ..) ?_
    refine NB rfl rfl (by omega) ?_
    have hm : (A.length + i + (A.length + j)) / 2 = A.length + (i + j) / 2 := by omega
    rw [hm]
    have hc : (i + j) / 2 < X.length := by omega
    refine m0 (i := A.length + X.length) rfl hh (Zl A B X Y (C := 0) (by omega) rfl) ?_
    refine m0 (i := A.length + (i + j) / 2) rfl hh (Zk A B X Y hc rfl) ?_
    refine NE hh fun H1 h1 => ?_
    rw [hy0]
    by_cases hcmp : y.2.step < X[(i + j) / 2].2.step
    ·refine aa (vI hcmp) ?_
     with_reducible repeat refine gg ?_
     rw [Bool.not_true]
     with_reducible repeat refine gg ?_
     refine ih ((i + j) / 2 - i) (by omega) i ((i + j) / 2) H1 rfl (by omega) (by omega) hlo (fun C hC hCl => ?_) h1
     have := iQ hX (i := (i + j) / 2) (j := C) hCl hC
     omega
    ·refine aa (vH hcmp) ?_
     with_reducible repeat refine gg ?_
     rw [Bool.not_false]
     with_reducible repeat refine gg ?_
     refine aa (aB (by omega) (by omega)) ?_
     rw [show ((A.length + (i + j) / 2 : Nat) : Int) + 1 = ((A.length + ((i + j) / 2 + 1) : Nat) : Int) from by omega]
     refine ih (j - ((i + j) / 2 + 1)) (by omega) ((i + j) / 2 + 1) j H1 rfl (by omega) hj (fun C hC hCl => ?_) hhi h1
     have := iQ hX (i := C) (j := (i + j) / 2) (by omega) hc
     omega
   ·refine aa (bI (by omega)) ?_
    with_reducible repeat refine gg ?_
    have e : j = i := by omega
    subst e
    refine ag (DN ..) ?_
    refine ag (J1 ..) ?_
    refine ag (J3 ..) ?_
    have ht : (A ++ pl (X.take j)).length = A.length + j := by rw [List.length_append, cB, List.length_take]; omega
    have ht2 : (pl (X.drop j)).length = X.length - j := by rw [cB, List.length_drop]
    have eX : X.take j ++ X.drop j = X := List.take_append_drop ..
    have b := Et s y.2 (R := R) (X.length - j) (pl (X.drop j)) (A ++ pl (X.take j)) B H ht2 (by rw [ht, ht2]; omega) (by
     have e2 : A ++ (pl X ++ (pl Y ++ B)) = (A ++ pl (X.take j)) ++ (pl (X.drop j) ++ y.2 :: B) := by
      rw [List.append_assoc, ← List.append_assoc (pl (X.take j)), ← f4, eX, hy]; rfl
     rw [← e2]
     exact hh)
    rw [ht, ht2, show A.length + j + (X.length - j) = A.length + X.length from by omega] at b
    refine oI ?_ b
    rintro v' H' ⟨e1, h3⟩
    refine ⟨X.take j ++ y :: X.drop j, e1, ?_⟩
    rw [ap, ae.pu]
    have hXs := b8.1 (by rw [eX]; exact hX : iR (X.take j ++ X.drop j))
    have hbel : ∀ x ∈ X, x.1 < y.1 := fun x hx => hB x hx y (by rw [hy]; exact List.mem_singleton.2 rfl)
    refine ⟨⟨b8.2 ⟨hXs.1, eG.2 ⟨fun z hz => ?_, hXs.2.1⟩, fun a ha b hb2 => ?_⟩, ?_⟩, ?_⟩
    ·obtain ⟨i, hi, hge, rfl⟩ := ky hz
     exact .inl (hhi i hi hge)
    ·rcases List.mem_cons.1 hb2 with e3 | hb2
     ·subst e3
      obtain ⟨i, hi, hlt2, rfl⟩ := kz ha
      have := hlo i hi hlt2
      have := hbel _ (List.getElem_mem hi)
      unfold WN
      omega
     ·exact hXs.2.2 a ha b hb2
    ·refine (List.perm_middle (l₁ := X.take j) (l₂ := X.drop j) (a := y)).trans ?_
     rw [eX, hy]
     exact (List.perm_append_comm (l₁ := [y]) (l₂ := X))
    ·have e4 : (A ++ pl (X.take j)) ++ y.2 :: (pl (X.drop j) ++ B) = A ++ (pl (X.take j ++ y :: X.drop j) ++ B) := by simp [pl]
     rw [e4] at h3
     exact h3
 have := bin X.length 0 X.length H rfl (Nat.zero_le _) (Nat.le_refl _) (fun C hC hl => by omega) (fun C hC hl => by omega) h
 rw [Nat.add_zero] at this
 exact this
end
def LoP (X Y : List TP) (hf S : Nat) : Prop := ∃ C, C + 1 = S ∧ ∃ (h1 : C < X.length) (h2 : hf - 1 - C < Y.length), X[C].2.step ≤ Y[hf - 1 - C].2.step
def HiP (X Y : List TP) (hf S : Nat) : Prop := ∃ (h1 : S < X.length) (h2 : hf - 1 - S < Y.length), S < hf ∧ Y[hf - 1 - S].2.step < X[S].2.step
theorem Bz (s : Value) : ∀ (N : Nat) (A B : List Pt) (X Y : List TP), X.length + Y.length ≤ N → 1 ≤ X.length → 1 ≤ Y.length → iR X → iR Y → uR X Y → A.length + X.length + Y.length < 1000000 →
 Sp AV [s, vi ((A.length : Nat) : Int), vi ((A.length + X.length : Nat) : Int), vi ((A.length + X.length + Y.length : Nat) : Int), j6] (ts 7 Pt.cells s (A ++ (pl X ++ (pl Y ++ B)))) (fun _ : List TP => .tuple #[]) (fun Z => pu (iR Z ∧ Z.Perm (X ++ Y)) * ts 7 Pt.cells s (A ++ (pl Z ++ B))) := by
 intro N
 induction N with
 | zero => intro A B X Y hN hX1; omega
 | succ N ih =>
  intro A B X Y hN hX1 hY1 hX hY hB hb
  refine av fun R H h => ?_
  refine aw (fun r => aaE _ _ _ _ _ H) ?_
  refine aa (a8 (by omega) (by omega)) ?_
  by_cases hx1 : X.length = 1
  ·refine aa (bo (by omega)) ?_
   refine ag (zb ..) ?_
   with_reducible repeat refine gg ?_
   obtain ⟨x, hx⟩ := List.length_eq_one_iff.1 hx1
   exact FS A B s X Y hX hY hB hb x hx h
  ·refine aa (aR (by omega)) ?_
   refine ag (zb ..) ?_
   with_reducible repeat refine gg ?_
   refine ag (Qj ..) ?_
   refine aa (a8 (by omega) (by omega)) ?_
   by_cases hy1 : Y.length = 1
   ·refine aa (bo (by omega)) ?_
    refine ag (y5 ..) ?_
    with_reducible repeat refine gg ?_
    obtain ⟨y, hy⟩ := List.length_eq_one_iff.1 hy1
    exact Jd A B s X Y hX hY hB hb y hy h
   ·refine aa (aR (by omega)) ?_
    refine ag (y5 ..) ?_
    with_reducible repeat refine gg ?_
    refine ag (Qk ..) ?_
    refine NB rfl rfl (by omega) ?_
    obtain ⟨hf, hfe⟩ : ∃ hf, hf = (X.length + Y.length) / 2 := ⟨_, rfl⟩
    rw [show (A.length + (A.length + X.length + Y.length)) / 2 = A.length + hf from by omega]
    refine aa (aB (by omega) (by omega)) ?_
    refine ag (Ql ..) ?_
    -- what is behind the search
    have rest : ∀ (S : Nat) (H : AH), S ≤ X.length → S ≤ hf → hf - S ≤ Y.length →
     (LoP X Y hf S ∨ S = 0 ∨ hf - S = Y.length) →
     (HiP X Y hf S ∨ S = X.length ∨ S = hf) →
     ae (ts 7 Pt.cells s (A ++ (pl X ++ (pl Y ++ B))) * R) H →
     wp (JZ s (vi ((A.length : Nat) : Int)) (vi ((A.length + X.length : Nat) : Int)) (vi ((A.length + X.length + Y.length : Nat) : Int)) j6 (vi ((A.length + hf : Nat) : Int)) (vi (((A.length + hf : Nat) : Int) + ((A.length + X.length : Nat) : Int))) (vi ((A.length + S : Nat) : Int)) H)
      fun v' H' => ∃ Z : List TP, v' = .tuple #[] ∧ ae (pu (iR Z ∧ Z.Perm (X ++ Y)) * ts 7 Pt.cells s (A ++ (pl Z ++ B)) * R) H' := by
     intro S H hSX hSf hSY hlo hhi hh
     obtain ⟨E, hE⟩ : ∃ E, E = hf - S := ⟨_, rfl⟩
     have eX : X.take S ++ X.drop S = X := List.take_append_drop ..
     have eY : Y.take E ++ Y.drop E = Y := List.take_append_drop ..
     have l1 : (X.take S).length = S := by rw [List.length_take]; omega
     have l2 : (X.drop S).length = X.length - S := List.length_drop
     have l3 : (Y.take E).length = E := by rw [List.length_take]; omega
     have l4 : (Y.drop E).length = Y.length - E := List.length_drop
     have c1 : ∀ x ∈ X.take S, ∀ y ∈ Y.drop E, x.2.step ≤ y.2.step := by
      clear hhi
      intro x hx y hy
      obtain ⟨i, hi, hiS, rfl⟩ := kz hx
      obtain ⟨j, hj, hjE, rfl⟩ := ky hy
      rcases hlo with ⟨C, hC, h1, h2, h3⟩ | h0 | h0
      ·have a1 := iQ hX (i := i) (j := C) (by omega) h1
       have a2 := iQ hY (i := hf - 1 - C) (j := j) (by omega) hj
       omega
      ·omega
      ·omega
     have c2 : ∀ y ∈ Y.take E, ∀ x ∈ X.drop S, y.2.step < x.2.step := by
      clear hlo
      intro y hy x hx
      obtain ⟨i, hi, hiS, rfl⟩ := ky hx
      obtain ⟨j, hj, hjE, rfl⟩ := kz hy
      rcases hhi with ⟨h1, h2, h4, h3⟩ | h0 | h0
      ·have a1 := iQ hX (i := S) (j := i) (by omega) hi
       have a2 := iQ hY (i := j) (j := hf - 1 - S) (by omega) h2
       omega
      ·omega
      ·omega
     clear hlo hhi
     have sX := b8.1 (by rw [eX]; exact hX : iR (X.take S ++ X.drop S))
     have sY := b8.1 (by rw [eY]; exact hY : iR (Y.take E ++ Y.drop E))
     have hB' : uR (X.take S ++ X.drop S) (Y.take E ++ Y.drop E) := by rw [eX, eY]; exact hB
     have b11 : uR (X.take S) (Y.take E) := hB'.sub (fun x => List.mem_append_left _) (fun x => List.mem_append_left _)
     have b22 : uR (X.drop S) (Y.drop E) := hB'.sub (fun x => List.mem_append_right _) (fun x => List.mem_append_right _)
     refine ag (Qm ..) ?_
     refine aa (a8 (by omega) (by omega)) ?_
     rw [show ((A.length + hf : Nat) : Int) + ((A.length + X.length : Nat) : Int) - ((A.length + S : Nat) : Int) = ((A.length + X.length + E : Nat) : Int) from by omega]
     refine ag (Qn ..) ?_
     -- the second halves
     have part2 : ∀ (Z1 : List TP) (H : AH), iR Z1 → Z1.Perm (X.take S ++ Y.take E) → ae (ts 7 Pt.cells s (A ++ (pl Z1 ++ (pl (X.drop S) ++ (pl (Y.drop E) ++ B)))) * R) H →
      wp (DR s (vi ((A.length + X.length + Y.length : Nat) : Int)) j6 (vi ((A.length + hf : Nat) : Int)) (vi ((A.length + X.length + E : Nat) : Int)) H)
       fun v' H' => ∃ Z : List TP, v' = .tuple #[] ∧ ae (pu (iR Z ∧ Z.Perm (X ++ Y)) * ts 7 Pt.cells s (A ++ (pl Z ++ B)) * R) H' := by
      intro Z1 H hz1 hp1 h1
      have lz := hp1.length_eq
      rw [List.length_append, l1, l3] at lz
      have done : ∀ (Z2 : List TP) (H : AH), iR Z2 → Z2.Perm (X.drop S ++ Y.drop E) → ae (ts 7 Pt.cells s ((A ++ pl Z1) ++ (pl Z2 ++ B)) * R) H →
       ∃ Z : List TP, (.tuple #[] : Value) = .tuple #[] ∧ ae (pu (iR Z ∧ Z.Perm (X ++ Y)) * ts 7 Pt.cells s (A ++ (pl Z ++ B)) * R) H := by
       intro Z2 H hz2 hp2 h2
       have cut := X9 (by rw [eX]; exact hX) (by rw [eY]; exact hY) hB' c1 c2 hz1 hz2 hp1 hp2
       rw [eX, eY] at cut
       refine ⟨Z1 ++ Z2, rfl, ?_⟩
       rw [ap, ae.pu]
       refine ⟨cut, ?_⟩
       rw [f4, List.append_assoc]
       rw [List.append_assoc] at h2
       exact h2
      refine ag (Qp ..) ?_
      by_cases g1 : hf < X.length + E
      ·refine aa (b4 (by omega)) ?_
       with_reducible repeat refine gg ?_
       by_cases g2 : E < Y.length
       ·refine aa (b4 (by omega)) ?_
        with_reducible repeat refine gg ?_
        have m := ih (A ++ pl Z1) B (X.drop S) (Y.drop E) (by omega) (by omega) (by omega) sX.2.1 sY.2.1 b22 (by rw [List.length_append, cB]; omega)
        rw [List.length_append, cB, lz, l2, l4, show A.length + (S + E) = A.length + hf from by omega, show A.length + hf + (X.length - S) = A.length + X.length + E from by omega, show A.length + X.length + E + (Y.length - E) = A.length + X.length + Y.length from by omega] at m
        have h2 : ae (ts 7 Pt.cells s ((A ++ pl Z1) ++ (pl (X.drop S) ++ (pl (Y.drop E) ++ B))) * R) H := by rw [List.append_assoc]; exact h1
        refine af h2 m fun Z2 H3 h3 => ?_
        rw [ap, ae.pu] at h3
        exact aq (done Z2 H3 h3.1.1 h3.1.2 h3.2.to)
       ·refine aa (bI (by omega)) ?_
        with_reducible repeat refine gg ?_
        have e0 : Y.drop E = [] := List.eq_nil_of_length_eq_zero (by omega)
        exact aq (done (X.drop S) H sX.2.1 (by rw [e0, List.append_nil]) (by rw [e0] at h1; rw [List.append_assoc]; exact h1))
      ·refine aa (bI (by omega)) ?_
       with_reducible repeat refine gg ?_
       have e0 : X.drop S = [] := List.eq_nil_of_length_eq_zero (by omega)
       exact aq (done (Y.drop E) H sY.2.1 (by rw [e0, List.nil_append]) (by rw [e0] at h1; rw [List.append_assoc]; exact h1))
     -- the first halves
     have part1 : ∀ (H : AH), ae (ts 7 Pt.cells s (A ++ (pl (X.take S) ++ (pl (Y.take E) ++ (pl (X.drop S) ++ (pl (Y.drop E) ++ B))))) * R) H →
      wp (DQ s (vi ((A.length : Nat) : Int)) (vi ((A.length + X.length + Y.length : Nat) : Int)) j6 (vi ((A.length + hf : Nat) : Int)) (vi ((A.length + S : Nat) : Int)) (vi ((A.length + X.length + E : Nat) : Int)) H)
       fun v' H' => ∃ Z : List TP, v' = .tuple #[] ∧ ae (pu (iR Z ∧ Z.Perm (X ++ Y)) * ts 7 Pt.cells s (A ++ (pl Z ++ B)) * R) H' := by
      intro H h1
      refine ag (Qo ..) ?_
      by_cases g1 : 0 < S
      ·refine aa (b4 (by omega)) ?_
       with_reducible repeat refine gg ?_
       by_cases g2 : S < hf
       ·refine aa (b4 (by omega)) ?_
        with_reducible repeat refine gg ?_
        have m := ih A (pl (X.drop S) ++ (pl (Y.drop E) ++ B)) (X.take S) (Y.take E) (by omega) (by omega) (by omega) sX.1 sY.1 b11 (by omega)
        rw [l1, l3, show A.length + S + E = A.length + hf from by omega] at m
        refine af h1 m fun Z1 H3 h3 => ?_
        rw [ap, ae.pu] at h3
        exact part2 Z1 H3 h3.1.1 h3.1.2 h3.2.to
       ·refine aa (bI (by omega)) ?_
        with_reducible repeat refine gg ?_
        have e0 : Y.take E = [] := List.eq_nil_of_length_eq_zero (by omega)
        exact part2 (X.take S) H sX.1 (by rw [e0, List.append_nil]) (by rw [e0] at h1; exact h1)
      ·refine aa (bI (by omega)) ?_
       with_reducible repeat refine gg ?_
       have e0 : X.take S = [] := List.eq_nil_of_length_eq_zero (by omega)
       exact part2 (Y.take E) H sY.1 (by rw [e0, List.nil_append]) (by rw [e0] at h1; exact h1)
     have e3 : A ++ (pl X ++ (pl Y ++ B)) = (A ++ pl (X.take S)) ++ (pl (X.drop S) ++ (pl (Y.take E) ++ (pl (Y.drop E) ++ B))) := by
      have p1 : pl X = pl (X.take S) ++ pl (X.drop S) := by rw [← f4, eX]
      have p2 : pl Y = pl (Y.take E) ++ pl (Y.drop E) := by rw [← f4, eY]
      rw [p1, p2]
      simp only [List.append_assoc]
     rw [e3] at hh
     by_cases g1 : S < X.length
     ·refine aa (b4 (by omega)) ?_
      with_reducible repeat refine gg ?_
      by_cases g2 : 0 < E
      ·refine aa (b4 (by omega)) ?_
       with_reducible repeat refine gg ?_
       have m := JT s j6 (A ++ pl (X.take S)) (pl (X.drop S)) (pl (Y.take E)) (pl (Y.drop E) ++ B) (by rw [cB]; omega) (by rw [cB]; omega) (by rw [List.length_append, cB, cB, cB]; omega)
       rw [List.length_append, cB, cB, cB, l1, l2, l3, show A.length + S + (X.length - S) = A.length + X.length from by omega] at m
       refine af hh m fun _ H3 h3 => ?_
       refine part1 H3 ?_
       have e4 : (A ++ pl (X.take S)) ++ (pl (Y.take E) ++ (pl (X.drop S) ++ (pl (Y.drop E) ++ B))) = A ++ (pl (X.take S) ++ (pl (Y.take E) ++ (pl (X.drop S) ++ (pl (Y.drop E) ++ B)))) := by simp only [List.append_assoc]
       rw [← e4]
       exact h3.to
      ·refine aa (bI (by omega)) ?_
       with_reducible repeat refine gg ?_
       have e0 : Y.take E = [] := List.eq_nil_of_length_eq_zero (by omega)
       refine part1 H ?_
       rw [e0] at hh ⊢
       simpa only [pl, List.map_nil, List.nil_append, List.append_assoc] using hh
     ·refine aa (bI (by omega)) ?_
      with_reducible repeat refine gg ?_
      have e0 : X.drop S = [] := List.eq_nil_of_length_eq_zero (by omega)
      refine part1 H ?_
      rw [e0] at hh ⊢
      simpa only [pl, List.map_nil, List.nil_append, List.append_assoc] using hh
    -- the search
    have bin : ∀ (lo hi : Nat), hi ≤ X.length → hi ≤ hf → hf - lo ≤ Y.length → (lo = 0 ∨ hf - lo = Y.length) → (hi = X.length ∨ hi = hf) →
     ∀ (d i j : Nat) (H : AH), j - i = d → lo ≤ i → i ≤ j → j ≤ hi →
     (LoP X Y hf i ∨ i = lo) →
     (HiP X Y hf j ∨ j = hi) →
     ae (ts 7 Pt.cells s (A ++ (pl X ++ (pl Y ++ B))) * R) H →
     wp (sZ s (vi ((A.length : Nat) : Int)) (vi ((A.length + X.length : Nat) : Int)) (vi ((A.length + X.length + Y.length : Nat) : Int)) j6 (vi ((A.length + hf : Nat) : Int)) (vi (((A.length + hf : Nat) : Int) + ((A.length + X.length : Nat) : Int))) (vi ((A.length + i : Nat) : Int)) (vi ((A.length + j : Nat) : Int)) (vi (((A.length + hf : Nat) : Int) + ((A.length + X.length : Nat) : Int) - 1)) H)
      fun v' H' => ∃ Z : List TP, v' = .tuple #[] ∧ ae (pu (iR Z ∧ Z.Perm (X ++ Y)) * ts 7 Pt.cells s (A ++ (pl Z ++ B)) * R) H' := by
     intro lo hi hhiX hhif hloY hlo0 hhi0 d
     induction d using Nat.strongRecOn with
     | ind d ihd =>
      intro i j H hd hli hij hjh hlow hhigh hh
      refine ag (JW ..) ?_
      by_cases hlt : i < j
      ·refine aa (b4 (by omega)) ?_
       with_reducible repeat refine gg ?_
       refine ag (JY ..) ?_
       refine NB rfl rfl (by omega) ?_
       rw [show (A.length + i + (A.length + j)) / 2 = A.length + (i + j) / 2 from by omega]
       refine aa (a8 (by omega) (by omega)) ?_
       have hcX : (i + j) / 2 < X.length := by omega
       have hcY : hf - 1 - (i + j) / 2 < Y.length := by omega
       refine m0 (i := A.length + X.length + (hf - 1 - (i + j) / 2)) (by omega) hh (Zl A B X Y hcY rfl) ?_
       refine m0 (i := A.length + (i + j) / 2) rfl hh (Zk A B X Y hcX rfl) ?_
       refine NE hh fun H1 h1 => ?_
       by_cases hcmp : Y[hf - 1 - (i + j) / 2].2.step < X[(i + j) / 2].2.step
       ·refine aa (vI hcmp) ?_
        with_reducible repeat refine gg ?_
        rw [Bool.not_true]
        with_reducible repeat refine gg ?_
        exact ihd ((i + j) / 2 - i) (by omega) i ((i + j) / 2) H1 rfl hli (by omega) (by omega) hlow (.inl ⟨hcX, hcY, by omega, hcmp⟩) h1
       ·refine aa (vH hcmp) ?_
        with_reducible repeat refine gg ?_
        rw [Bool.not_false]
        with_reducible repeat refine gg ?_
        refine aa (aB (by omega) (by omega)) ?_
        rw [show ((A.length + (i + j) / 2 : Nat) : Int) + 1 = ((A.length + ((i + j) / 2 + 1) : Nat) : Int) from by omega]
        exact ihd (j - ((i + j) / 2 + 1)) (by omega) ((i + j) / 2 + 1) j H1 rfl (by omega) (by omega) hjh (.inl ⟨(i + j) / 2, rfl, hcX, hcY, by omega⟩) hhigh h1
      ·refine aa (bI (by omega)) ?_
       with_reducible repeat refine gg ?_
       have e : j = i := by omega
       subst e
       refine ag (DL ..) ?_
       refine rest j H (by omega) (by omega) (by omega) ?_ ?_ hh
       ·rcases hlow with h1 | h1
        ·exact .inl h1
        ·rcases hlo0 with h2 | h2
         ·exact .inr (.inl (by omega))
         ·exact .inr (.inr (by rw [h1]; exact h2))
       ·rcases hhigh with h1 | h1
        ·exact .inl h1
        ·rcases hhi0 with h2 | h2
         ·exact .inr (.inl (by omega))
         ·exact .inr (.inr (by omega))
    by_cases hmid : hf < X.length
    ·refine aa (nG (by omega)) ?_
     with_reducible repeat refine gg ?_
     refine aa (a8 (by omega) (by omega)) ?_
     refine ag (Bn ..) ?_
     refine aa (a8 (by omega) (by omega)) ?_
     refine ag (Bo ..) ?_
     rw [show ((A.length + hf : Nat) : Int) + ((A.length + X.length : Nat) : Int) - ((A.length + X.length + Y.length : Nat) : Int) = ((A.length + (hf - Y.length) : Nat) : Int) from by omega]
     exact bin (hf - Y.length) hf (by omega) (Nat.le_refl _) (by omega) (.inr (by omega)) (.inr rfl) _ (hf - Y.length) hf H rfl (Nat.le_refl _) (by omega) (Nat.le_refl _) (.inr rfl) (.inr rfl) h
    ·refine aa (gU (by omega)) ?_
     with_reducible repeat refine gg ?_
     refine ag (Bn ..) ?_
     refine aa (a8 (by omega) (by omega)) ?_
     refine ag (Bo ..) ?_
     have := bin 0 X.length (Nat.le_refl _) (by omega) (by omega) (.inl rfl) (.inl rfl) _ 0 X.length H rfl (Nat.le_refl _) (by omega) (Nat.le_refl _) (.inr rfl) (.inr rfl) h
     rw [Nat.add_zero] at this
     exact this
theorem FT (s : Value) (bs : Nat) (h0 : 1 ≤ bs) {R : SP} (T : Nat) (hT : T < 1000000) (hbs : bs < 1000000) {Q : Value → AH → Prop} :
 ∀ (N : Nat) (L D : List TP) (H : AH), L.length ≤ N → D.length + L.length = T → KM bs L → ae (ts 7 Pt.cells s (pl D ++ pl L) * R) H →
 (∀ (Z : List TP) (H : AH), Z.Perm L → KM (2 * bs) Z → ae (ts 7 Pt.cells s (pl D ++ pl Z) * R) H → wp (DW s (vi (T : Int)) j6 (vi (bs : Int)) H) Q) →
 wp (wj s (vi (T : Int)) j6 (vi (bs : Int)) (vi (D.length : Int)) (vi (((D.length + 2 * bs : Nat)) : Int)) H) Q := by
 intro N
 induction N using Nat.strongRecOn with
 | ind N ih =>
  intro L D H hN hDL hC hh hk
  refine ag (Ke ..) ?_
  by_cases hle : 2 * bs ≤ L.length
  ·refine aa (Mz (by omega)) ?_
   with_reducible repeat refine gg ?_
   obtain ⟨X, L2, rfl, hXl, hXs, hXB, hC2⟩ := hC.split (by omega)
   rw [List.length_append] at hle hN hDL
   obtain ⟨Y, L3, rfl, hYl, hYs, hYB, hC3⟩ := hC2.split (by omega)
   rw [List.length_append] at hle hN hDL
   have hB := uR.append_right.1 hXB
   refine ag (Kf ..) ?_
   refine aa (aB (by omega) (by omega)) ?_
   have m := Bz s _ (pl D) (pl L3) X Y (Nat.le_refl _) (by omega) (by omega) hXs hYs hB.1 (by rw [cB]; omega)
   rw [cB, hXl, hYl] at m
   rw [show ((D.length : Nat) : Int) + ((bs : Nat) : Int) = ((D.length + bs : Nat) : Int) from by omega, show D.length + 2 * bs = D.length + bs + bs from by omega]
   have e1 : pl D ++ pl (X ++ (Y ++ L3)) = pl D ++ (pl X ++ (pl Y ++ pl L3)) := by rw [f4, f4]
   rw [e1] at hh
   refine af hh m fun Z H1 h1 => ?_
   rw [ap, ae.pu] at h1
   obtain ⟨⟨hZs, hZp⟩, h1⟩ := h1
   have hZl := hZp.length_eq
   rw [List.length_append] at hZl
   refine aa (jh (by omega) (by omega)) ?_
   refine aa (aB (by omega) (by omega)) ?_
   have := ih L3.length (by omega) L3 (D ++ Z) H1 (Nat.le_refl _) (by rw [List.length_append]; omega) hC3 (by
    rw [f4, List.append_assoc]; exact h1.to) (fun Z2 H2 hp2 hc2 h2 => by
    refine hk (Z ++ Z2) H2 ?_ (.cons (by omega) hZs ?_ hc2) ?_
    ·rw [← List.append_assoc]
     exact hZp.append hp2
    ·have hb3 : uR (X ++ Y) L3 := fun x hx y hy => (List.mem_append.1 hx).elim (fun q => hB.2 x q y hy) (fun q => hYB x q y hy)
     exact hb3.perm hZp hp2
    ·rw [f4, ← List.append_assoc, ← f4 D Z]
     exact h2)
   rw [List.length_append, hZl, hXl, hYl] at this
   rw [show ((D.length + bs + bs : Nat) : Int) + 2 * ((bs : Nat) : Int) = ((D.length + (bs + bs) + 2 * bs : Nat) : Int) from by omega, show D.length + bs + bs = D.length + (bs + bs) from by omega]
   exact this
  ·refine aa (My (by omega)) ?_
   with_reducible repeat refine gg ?_
   refine ag (DT ..) ?_
   refine ag (QA ..) ?_
   refine aa (aB (by omega) (by omega)) ?_
   by_cases hlt : bs < L.length
   ·refine aa (b4 (by omega)) ?_
    with_reducible repeat refine gg ?_
    obtain ⟨X, Y, rfl, hXl, hXs, hXB, hC2⟩ := hC.split (by omega)
    rw [List.length_append] at hle hN hDL hlt
    have m := Bz s _ (pl D) [] X Y (Nat.le_refl _) (by omega) (by omega) hXs (hC2.short (by omega)) hXB (by rw [cB]; omega)
    rw [cB, hXl, List.append_nil, show D.length + bs + Y.length = T from by omega] at m
    rw [show ((D.length : Nat) : Int) + ((bs : Nat) : Int) = ((D.length + bs : Nat) : Int) from by omega]
    have e1 : pl D ++ pl (X ++ Y) = pl D ++ (pl X ++ pl Y) := by rw [f4]
    rw [e1] at hh
    refine af hh m fun Z H1 h1 => ?_
    rw [ap, ae.pu] at h1
    obtain ⟨⟨hZs, hZp⟩, h1⟩ := h1
    have hZl := hZp.length_eq
    rw [List.length_append] at hZl
    rw [List.append_nil] at h1
    exact hk Z H1 hZp (.last (by omega) hZs) h1.to
   ·refine aa (bI (by omega)) ?_
    with_reducible repeat refine gg ?_
    exact hk L H (List.Perm.refl _) (.last (by omega) (hC.short (by omega))) hh
theorem PB (s : Value) {R : SP} (L0 : List TP) (hT : L0.length < 400000) : ∀ (N : Nat) (bs : Nat) (L : List TP) (H : AH), 1 ≤ bs → bs < 1000000 → L0.length - bs ≤ N → L.Perm L0 → KM bs L → ae (ts 7 Pt.cells s (pl L) * R) H →
 wp (DV s (vi (L0.length : Int)) j6 (vi (bs : Int)) H) fun v' H' => ∃ Z : List TP, v' = .tuple #[] ∧ ae (pu (iR Z ∧ Z.Perm L0) * ts 7 Pt.cells s (pl Z) * R) H' := by
 intro N
 induction N using Nat.strongRecOn with
 | ind N ih =>
  intro bs L H h0 hbs hN hp hC hh
  have hl := hp.length_eq
  refine ag (Qx ..) ?_
  by_cases hlt : bs < L0.length
  ·refine aa (b4 (by omega)) ?_
   with_reducible repeat refine gg ?_
   refine ag (Qy ..) ?_
   refine aa (jh (by omega) (by omega)) ?_
   refine ag (Qz ..) ?_
   have := FT s bs h0 (R := R) L0.length (by omega) hbs (Q := fun v' H' => ∃ Z : List TP, v' = .tuple #[] ∧ ae (pu (iR Z ∧ Z.Perm L0) * ts 7 Pt.cells s (pl Z) * R) H') L.length L [] H (Nat.le_refl _) (by simpa using hl) hC (by simpa using hh) (fun Z H1 hp1 hc1 h1 => by
    refine ag (QB ..) ?_
    refine aa (jh (by omega) (by omega)) ?_
    rw [show ((bs : Nat) : Int) * 2 = ((2 * bs : Nat) : Int) from by omega]
    exact ih (L0.length - 2 * bs) (by omega) (2 * bs) Z H1 (by omega) (by omega) (Nat.le_refl _) (hp1.trans hp) hc1 (by simpa using h1))
   rw [List.length_nil, Nat.zero_add] at this
   rw [show 2 * ((bs : Nat) : Int) = ((2 * bs : Nat) : Int) from by omega]
   exact this
  ·refine aa (bI (by omega)) ?_
   with_reducible repeat refine gg ?_
   refine ag (GB ..) ?_
   refine aq ⟨L, rfl, ?_⟩
   rw [ap, ae.pu]
   exact ⟨⟨hC.short (by omega), hp⟩, hh⟩
theorem Zn (s : Value) (T : Nat) (hT : T < 400000) {R : SP} {Q : Value → AH → Prop} : ∀ (N : Nat) (L D : List TP) (H : AH), L.length ≤ N → D.length + L.length = T → Yu L → ae (ts 7 Pt.cells s (pl D ++ pl L) * R) H →
 (∀ (Z : List TP) (H : AH), Z.Perm L → KM 20 Z → ae (ts 7 Pt.cells s (pl D ++ pl Z) * R) H → wp (Kg s (vi (T : Int)) j6 (vi 20) H) Q) →
 wp (wl s (vi (T : Int)) j6 (vi 20) (vi (D.length : Int)) (vi ((D.length + 20 : Nat) : Int)) H) Q := by
 intro N
 induction N using Nat.strongRecOn with
 | ind N ih =>
  intro L D H hN hDL hA hh hk
  refine ag (Kh ..) ?_
  by_cases hle : 20 ≤ L.length
  ·refine aa (Mz (by omega)) ?_
   with_reducible repeat refine gg ?_
   refine ag (Ki ..) ?_
   have eL : L.take 20 ++ L.drop 20 = L := List.take_append_drop ..
   have l1 : (L.take 20).length = 20 := by rw [List.length_take]; omega
   have l2 : (L.drop 20).length = L.length - 20 := List.length_drop
   obtain ⟨a1, a2, a3⟩ := Hm.1 (by rw [eL]; exact hA : Yu (L.take 20 ++ L.drop 20))
   have m := AP (pl D) (pl (L.drop 20)) s (L.take 20) a1 (by rw [cB]; omega)
   rw [cB, l1] at m
   have e1 : pl D ++ pl L = pl D ++ (pl (L.take 20) ++ pl (L.drop 20)) := by rw [← f4 (L.take 20), eL]
   rw [e1] at hh
   refine af hh m fun Z H1 h1 => ?_
   rw [ap, ae.pu] at h1
   obtain ⟨⟨hZs, hZp⟩, h1⟩ := h1
   have hZl := hZp.length_eq
   refine aa (aB (by omega) (by omega)) ?_
   have := ih (L.drop 20).length (by omega) (L.drop 20) (D ++ Z) H1 (Nat.le_refl _) (by rw [List.length_append]; omega) a2 (by
    rw [f4, List.append_assoc]; exact h1.to) (fun Z2 H2 hp2 hc2 h2 => by
    refine hk (Z ++ Z2) H2 ?_ (.cons (by omega) hZs (a3.perm hZp hp2) hc2) ?_
    ·have := hZp.append hp2
     rw [eL] at this
     exact this
    ·rw [f4, ← List.append_assoc, ← f4 D Z]
     exact h2)
   rw [List.length_append, hZl, l1] at this
   rw [show ((D.length + 20 : Nat) : Int) + 20 = ((D.length + 20 + 20 : Nat) : Int) from by omega]
   exact this
  ·refine aa (My (by omega)) ?_
   with_reducible repeat refine gg ?_
   refine ag (DU ..) ?_
   refine ag (Qv ..) ?_
   have m := AP (pl D) [] s L hA (by rw [cB]; omega)
   rw [cB, hDL, List.append_nil] at m
   refine af hh m fun Z H1 h1 => ?_
   rw [ap, ae.pu, List.append_nil] at h1
   obtain ⟨⟨hZs, hZp⟩, h1⟩ := h1
   have hZl := hZp.length_eq
   exact hk Z H1 hZp (.last (by omega) hZs) h1.to
theorem V3 (s : Value) (l : List Pt) (hl : l.length < 400000) : Sp UT [s, j6] (ts 7 Pt.cells s l) (fun _ : Unit => .tuple #[]) (fun _ => ts 7 Pt.cells s (aZ l)) := by
 have stable : Sp UU [s, vi l.length, j6] (ts 7 Pt.cells s l) (fun _ : List TP => .tuple #[]) (fun Z => pu (iR Z ∧ Z.Perm (na 0 l)) * ts 7 Pt.cells s (pl Z)) := by
  refine av fun R H h => ?_
  refine aw (fun r => aaH _ _ _ H) ?_
  refine ag (Qu ..) ?_
  have ln : (na 0 l).length = l.length := by rw [← cB, MH]
  have := Zn s l.length hl (R := R) (Q := fun v' H' => ∃ Z : List TP, v' = .tuple #[] ∧ ae (pu (iR Z ∧ Z.Perm (na 0 l)) * ts 7 Pt.cells s (pl Z) * R) H') l.length (na 0 l) [] H (by omega) (by simpa using ln) (FW l 0) (by
   rw [MH]; simpa using h) (fun Z H1 hp hc h1 => by
   refine ag (Qw ..) ?_
   have := PB s (R := R) (na 0 l) (by omega) _ 20 Z H1 (by omega) (by omega) (Nat.le_refl _) hp hc (by simpa using h1)
   rw [ln] at this
   exact this)
  exact this
 refine av fun R H h => ?_
 refine aw (fun r => aaG _ _ H) ?_
 refine mB (s := s) (l := l) h ?_
 refine af h stable fun Z H1 h1 => ?_
 rw [ap, ae.pu] at h1
 obtain ⟨⟨hZs, hZp⟩, h1⟩ := h1
 rw [NY hZs hZp] at h1
 exact aq ⟨(), rfl, h1.to⟩
theorem yH (p : Nat) (rp : List Nat) (σ : aX) (hl : σ.pts.length < 400000) : Sp ME [vp p] (bq p rp σ) (fun v : Value => v) (fun v => ts 7 Pt.cells v (aZ σ.pts) * bq p rp σ) := by
 have hbl := p0 σ.pts
 refine av fun R H h => ?_
 obtain ⟨g, hrp, hg, h0⟩ := eD h
 unfold aN at h0
 refine aw (fun r => ZY _ H) ?_
 refine am h0 ac rfl ?_
 refine af h0 (ud g.pv σ.pts (by omega)) fun v H1 h1 => ?_
 refine af h1 (V3 v σ.pts hl) fun _ H2 h2 => ?_
 refine ag (PF _ _ _ H2) ?_
 refine mB (s := v) (l := aZ σ.pts) h2 ?_
 refine ag (PH _ _ _ _ _ H2) ?_
 have h3 : ae (bq p rp σ * (ts 7 Pt.cells v (aZ σ.pts) * R)) H2 := by
  refine bu g hrp hg ?_
  unfold aN
  exact h2.to
 have h4 := eH 7 Pt.cells h3
 have h5 : ae (ts 7 Pt.cells (.slice none 0 0) ((aZ σ.pts).take 0) * (ts 7 Pt.cells v (aZ σ.pts) * bq p rp σ) * R) H2 := by rw [List.take_zero]; exact h4.to
 refine oI ?_ (Ga (.slice none 0 0) v (aZ σ.pts) (by omega) (aZ σ.pts).length 0 (.slice none 0 0) H2 (by omega) h5)
 rintro v' H' ⟨o, rfl, h6⟩
 exact ⟨_, rfl, h6.to⟩
theorem fN {rp : List Nat} {t : Tk} {v : Value} (h : t.at' < 7) : DI rp t v := fun h' => by omega
theorem bX {rp : List Nat} {t : Tk} {b : Nat} (h : rp[t.obj]? = some b) : DI rp t (vp b) := fun _ => ⟨b, h, rfl⟩
section
variable {e p : Nat} {rp : List Nat} {g : PIds} {σ σ' : aX} {t t' : Tk} {R P : SP} {H : AH} {r : aX × Tk × Bool} {v : Value} {n : Nat} {c : Int}
theorem cL (h : ae (eP e p rp σ t * R) H) : ∃ (nx rv : Value) (g : PIds), DI rp t rv ∧ g.rp = rp ∧ rp.length = σ.obs.length ∧ nx = Pn e (vg t.at') ∧ ae (eB e p nx rv t * (aN p g σ * R)) H := by
 obtain ⟨rv, h1, h2⟩ := K6 h
 obtain ⟨g, h3, h4, h5⟩ := eD (p := p) (rp := rp) (σ := σ) (R := eB e p (Pn e (vg t.at')) rv t * R) (H := H) h2.to
 exact ⟨_, rv, g, h1, h3, h4, rfl, h5.to⟩
theorem BQ (hr : r = (σ', t', false)) (hv : DI rp t' v) (hn : vg t'.at' = n) (h : ae (eB e p (Pn e n) v t' * (bq p rp σ' * R)) H) :
 ∃ x : Unit, (.tuple #[.agg (gK 0).toArray, vb false]) = cT r ∧ ae (eQ e p rp r * R) H := by
 subst hr
 exact ⟨(), rfl, EJ hv hn h⟩
theorem cN (hr : r = (σ', t', false)) (hv : DI g.rp t' v) (hn : vg t'.at' = n) (hl : g.rp.length = σ'.obs.length) (h : ae (eB e p (Pn e n) v t' * (aN p g σ' * R)) H) :
 ∃ x : Unit, (.tuple #[.agg (gK 0).toArray, vb false]) = cT r ∧ ae (eQ e p g.rp r * R) H := by
 refine BQ hr hv hn ?_
 have h1 := bu (p := p) (rp := g.rp) (σ := σ') (R := eB e p (Pn e n) v t' * R) g rfl hl h.to
 exact h1.to
theorem wX (hr : r = (σ', t', true)) (hc : t'.code = c) (h : ae (bq p rp σ' * R) H) :
 ∃ x : Unit, (.tuple #[.agg (gK c).toArray, vb true]) = cT r ∧ ae (eQ e p rp r * R) H := by
 subst hr
 subst hc
 exact ⟨(), rfl, h⟩
theorem eI (nx rv : Value) (t' : Tk) (n : Nat) {b : Nat} {Q : Value → AH → Prop} (h : ae P H) [fr : Fr P (eB e p nx rv t' * blk b (.cells false [vi 0, .slice none 0 0, vi 0, vw 0])) R]
 (hk : ∀ H', ae (eB e p (Pn e n) rv t' * R) H' → Q (.tuple #[.agg (gK 0).toArray, vb false]) H') :
 wp ((FF bf [vp e, Pn e n] H).bind fun r2 => (ai r2.1 0).bind fun v3 => (ai r2.1 1).bind fun v4 => (cW 4 (vp b) v3 r2.2).bind fun H5 => (aA 4 (vp b) H5).bind fun v6 => some (Value.tuple #[v6, v4], H5)) Q :=
 mC h (Zu e p nx rv n t') hk
end
section
variable (e p : Nat) (rp : List Nat) (σ : aX) (t : Tk) (now : Int)
theorem QO (S : SOk σ) (T : ef σ t) (hat : t.at' = 3) : Sp cq [vp e, vi now] (eP e p rp σ t) (fun _ : Unit => cT (ah σ t now)) (fun _ => eQ e p rp (ah σ t now)) := by
 have hN : σ.μ.N < 1099511627000 := by have := S.N; omega
 refine av fun R H h => ?_
 obtain ⟨nx, rv, g, hv, rfl, hl, _, h0⟩ := cL h
 refine aw (fun r => HG _ _ H) ?_
 refine aO h0 fun b1 H1 h1 => ?_
 refine am h1 ac rfl ?_
 refine am h1 ac rfl ?_
 refine am h1 ac rfl ?_
 refine am h1 ac rfl ?_
 refine af h1 (Rf (p := p) (g := g) (σ := σ) (Kx g.tb g.m σ.c.sh.toNat σ.c.sl.toNat σ.μ t.who t.s hN)) fun _ H2 h2 => ?_
 by_cases hw : σ.μ.V (8, t.s, 0) = 0
 ·rw [decide_eq_true hw]
  with_reducible repeat refine gg ?_
  rw [Bool.not_true]
  with_reducible repeat refine gg ?_
  refine aL h2 ac rfl rfl fun H3 h3 => ?_
  refine eI (e := e) (p := p) nx rv { t with at' := 4, i := 0 } dc h3 fun H9 h9 => ?_
  exact cN (σ' := σ.mem (σ.μ.swp t.who (8, t.s, 0) 0 1)) (t' := { t with at' := 4, i := 0 }) (v := rv) (n := dc) (by simp only [ah, hat]; rw [if_pos hw]) (fN (by simp)) rfl hl h9.to
 ·rw [decide_eq_false hw]
  with_reducible repeat refine gg ?_
  rw [Bool.not_false]
  with_reducible repeat refine gg ?_
  refine eI (e := e) (p := p) nx rv t cq h2 fun H9 h9 => ?_
  exact cN (σ' := σ.mem (σ.μ.swp t.who (8, t.s, 0) 0 1)) (t' := t) (v := rv) (n := cq) (by simp only [ah, hat]; rw [if_neg hw]) (fN (by omega)) (by rw [hat]; rfl) hl h9.to
theorem GM (S : SOk σ) (T : ef σ t) (hat : t.at' = 5) : Sp dd [vp e, vi now] (eP e p rp σ t) (fun _ : Unit => cT (ah σ t now)) (fun _ => eQ e p rp (ah σ t now)) := by
 have hN : σ.μ.N < 1099511627000 := by have := S.N; omega
 refine av fun R H h => ?_
 obtain ⟨nx, rv, g, hv, rfl, hl, _, h0⟩ := cL h
 refine aw (fun r => BP _ _ H) ?_
 refine aO h0 fun b1 H1 h1 => ?_
 refine am h1 ac rfl ?_
 refine am h1 ac rfl ?_
 refine am h1 ac rfl ?_
 refine am h1 ac rfl ?_
 refine af h1 (Rf (p := p) (g := g) (σ := σ) (D8 g.tb g.m σ.c.sh.toNat σ.c.sl.toNat σ.μ t.who t.s hN)) fun _ H2 h2 => ?_
 refine am h2 ac rfl ?_
 cases hf : t.found
 ·with_reducible repeat refine gg ?_
  rw [Bool.not_false]
  with_reducible repeat refine gg ?_
  refine mC h2 (rk (vp e) 5) fun H9 h9 => ?_
  exact wX (σ' := σ.mem ((σ.μ.acc t.who 2 (8, t.s, 0)).put (8, t.s, 0) 0)) (t' := { t with at' := 6 }) (by simp only [ah, hat, hf]; rfl) (T.c5 hat hf) (bu (p := p) (rp := g.rp) (R := R) g rfl hl h9.to)
 ·with_reducible repeat refine gg ?_
  rw [Bool.not_true]
  with_reducible repeat refine gg ?_
  refine eI (e := e) (p := p) nx rv { t with at' := 6 } eM h2 fun H9 h9 => ?_
  exact cN (σ' := σ.mem ((σ.μ.acc t.who 2 (8, t.s, 0)).put (8, t.s, 0) 0)) (t' := { t with at' := 6 }) (v := rv) (n := eM) (by simp only [ah, hat, hf]; rfl) (fN (by simp)) rfl hl h9.to
theorem QP (S : SOk σ) (T : ef σ t) (hat : t.at' = 6) : Sp eM [vp e, vi now] (eP e p rp σ t) (fun _ : Unit => cT (ah σ t now)) (fun _ => eQ e p rp (ah σ t now)) := by
 have hN : σ.μ.N < 1099511627000 := by have := S.N; omega
 refine av fun R H h => ?_
 obtain ⟨nx, rv, g, hv, rfl, hl, _, h0⟩ := cL h
 have ho := T.obj (.inl (by omega))
 obtain ⟨b, hb⟩ : ∃ b, g.rp[t.obj]? = some b := ⟨_, List.getElem?_eq_getElem (by omega)⟩
 refine aw (fun r => HH _ _ H) ?_
 refine aO h0 fun b1 H1 h1 => ?_
 refine am h1 ac rfl ?_
 refine am h1 ac rfl ?_
 refine am h1 ac rfl ?_
 refine af h1 (Jn p g σ hl t.who t.obj ho S.N) fun _ H2 h2 => ?_
 refine am h2 ac rfl ?_
 refine am h2 ac rfl ?_
 refine af h2 (F4 p g (σ.mem (σ.μ.acc t.who 5 (13, (t.obj : Int), 0))) hl t.obj b ho hb) fun _ H3 h3 => ?_
 refine aL h3 ac rfl rfl fun H4 h4 => ?_
 refine eI (e := e) (p := p) nx (vp b) { t with at' := 7 } bC h4 fun H9 h9 => ?_
 exact cN (σ' := σ.mem (σ.μ.acc t.who 5 (13, (t.obj : Int), 0))) (t' := { t with at' := 7 }) (v := (vp b)) (n := bC) (by simp only [ah, hat]) (bX hb) rfl hl h9.to
theorem QT (S : SOk σ) (T : ef σ t) (hat : t.at' = 7) : Sp bC [vp e, vi now] (eP e p rp σ t) (fun _ : Unit => cT (ah σ t now)) (fun _ => eQ e p rp (ah σ t now)) := by
 have hN : σ.μ.N < 1099511627000 := by have := S.N; omega
 refine av fun R H h => ?_
 obtain ⟨nx, rv, g, hv, rfl, hl, _, h0⟩ := cL h
 obtain ⟨b, hb, rfl⟩ := hv (by omega)
 have ho := T.obj (.inl (by omega))
 refine aw (fun r => HN _ _ H) ?_
 refine aO h0 fun b1 H1 h1 => ?_
 refine am h1 ac rfl ?_
 refine am h1 ac rfl ?_
 refine af h1 (j9 (p := p) hl ho hb (Bg g.m t.obj b (az σ t.obj) σ.μ t.who hN)) fun _ H2 h2 => ?_
 refine aL h2 ac rfl rfl fun H3 h3 => ?_
 refine am h3 ac rfl ?_
 refine af h3 (mD _ (S.V _)) fun _ H4 h4 => ?_
 by_cases hw : bi (σ.μ.V (11, (t.obj : Int), 0)) = 2
 ·refine aa (bo hw) ?_
  with_reducible repeat refine gg ?_
  refine eI (e := e) (p := p) nx (vp b) { t with w := σ.μ.V (11, (t.obj : Int), 0), at' := 3 } cq h4 fun H9 h9 => ?_
  exact cN (σ' := i6 σ t) (t' := { t with w := σ.μ.V (11, (t.obj : Int), 0), at' := 3 }) (v := (vp b)) (n := cq) (by simp only [ah, hat]; rw [if_pos hw]) (fN (by simp)) rfl hl h9.to
 ·refine aa (aR hw) ?_
  with_reducible repeat refine gg ?_
  refine eI (e := e) (p := p) nx (vp b) { t with w := σ.μ.V (11, (t.obj : Int), 0), at' := 8 } jm h4 fun H9 h9 => ?_
  exact cN (σ' := i6 σ t) (t' := { t with w := σ.μ.V (11, (t.obj : Int), 0), at' := 8 }) (v := (vp b)) (n := jm) (by simp only [ah, hat]; rw [if_neg hw]) (bX hb) rfl hl h9.to
theorem zm (S : SOk σ) (T : ef σ t) (hat : t.at' = 16) : Sp dy [vp e, vi now] (eP e p rp σ t) (fun _ : Unit => cT (ah σ t now)) (fun _ => eQ e p rp (ah σ t now)) := by
 have hN : σ.μ.N < 1099511627000 := by have := S.N; omega
 refine av fun R H h => ?_
 obtain ⟨nx, rv, g, hv, rfl, hl, _, h0⟩ := cL h
 obtain ⟨b, hb, rfl⟩ := hv (by omega)
 have ho := T.obj (.inl (by omega))
 refine aw (fun r => uZ _ _ H) ?_
 refine aO h0 fun b1 H1 h1 => ?_
 refine am h1 ac rfl ?_
 refine am h1 ac rfl ?_
 refine af h1 (j9 (p := p) hl ho hb (Bg g.m t.obj b (az σ t.obj) σ.μ t.who hN)) fun _ H2 h2 => ?_
 refine aL h2 ac rfl rfl fun H3 h3 => ?_
 refine am h3 ac rfl ?_
 refine af h3 (mD _ (S.V _)) fun _ H4 h4 => ?_
 by_cases hw : bi (σ.μ.V (11, (t.obj : Int), 0)) = 2
 ·refine aa (bo hw) ?_
  with_reducible repeat refine gg ?_
  refine eI (e := e) (p := p) nx (vp b) { t with w := σ.μ.V (11, (t.obj : Int), 0), at' := 3 } cq h4 fun H9 h9 => ?_
  exact cN (σ' := i6 σ t) (t' := { t with w := σ.μ.V (11, (t.obj : Int), 0), at' := 3 }) (v := (vp b)) (n := cq) (by simp only [ah, hat]; rw [if_pos hw]) (fN (by simp)) rfl hl h9.to
 ·refine aa (aR hw) ?_
  with_reducible repeat refine gg ?_
  refine eI (e := e) (p := p) nx (vp b) { t with w := σ.μ.V (11, (t.obj : Int), 0), at' := 17 } dx h4 fun H9 h9 => ?_
  exact cN (σ' := i6 σ t) (t' := { t with w := σ.μ.V (11, (t.obj : Int), 0), at' := 17 }) (v := (vp b)) (n := dx) (by simp only [ah, hat]; rw [if_neg hw]) (bX hb) rfl hl h9.to
theorem QM (S : SOk σ) (T : ef σ t) (hat : t.at' = 8) : Sp jm [vp e, vi now] (eP e p rp σ t) (fun _ : Unit => cT (ah σ t now)) (fun _ => eQ e p rp (ah σ t now)) := by
 have hN : σ.μ.N < 1099511627000 := by have := S.N; omega
 refine av fun R H h => ?_
 obtain ⟨nx, rv, g, hv, rfl, hl, _, h0⟩ := cL h
 obtain ⟨b, hb, rfl⟩ := hv (by omega)
 have ho := T.obj (.inl (by omega))
 refine aw (fun r => HE _ _ H) ?_
 refine aO h0 fun b1 H1 h1 => ?_
 refine am h1 ac rfl ?_
 refine am h1 ac rfl ?_
 refine af h1 (j9 (p := p) hl ho hb (Be g.m t.obj b (az σ t.obj) σ.μ t.who hN)) fun _ H2 h2 => ?_
 refine ag (zM _ _ _ _ H2) ?_
 refine am h2 ac rfl ?_
 refine am h2 ac rfl ?_
 refine af h2 (KL (p := p) (σ := fw σ t) hl ho hb (Bd g.m t.obj b (az σ t.obj) t.w (σ.μ.V (12, (t.obj : Int), 0)) T.w (S.cells _ ho).2)) fun _ H3 h3 => ?_
 cases hf : gr t.w (σ.μ.V (12, (t.obj : Int), 0)) (az σ t.obj).length
 ·with_reducible repeat refine gg ?_
  refine am h3 ac rfl ?_
  refine af h3 (mD _ T.w) fun _ H4 h4 => ?_
  by_cases hw : bi t.w = 1
  ·refine aa (bo hw) ?_
   with_reducible repeat refine gg ?_
   refine eI (e := e) (p := p) nx (vp b) { t with at' := 9 } ia h4 fun H9 h9 => ?_
   exact cN (σ' := fw σ t) (t' := { t with at' := 9 }) (v := (vp b)) (n := ia) (by simp only [ah, hat, gT, hf]; rw [if_pos hw]; rfl) (bX hb) rfl hl h9.to
  ·refine aa (aR hw) ?_
   with_reducible repeat refine gg ?_
   refine ag (zN _ _ _ H4) ?_
   refine eI (e := e) (p := p) nx (vp b) { t with at' := 12 } hZ h4 fun H9 h9 => ?_
   exact cN (σ' := fw σ t) (t' := { t with at' := 12 }) (v := (vp b)) (n := hZ) (by simp only [ah, hat, gT, hf]; rw [if_neg hw]; rfl) (bX hb) rfl hl h9.to
 ·with_reducible repeat refine gg ?_
  refine eI (e := e) (p := p) nx (vp b) { t with at' := 15 } lK h3 fun H9 h9 => ?_
  exact cN (σ' := fw σ t) (t' := { t with at' := 15 }) (v := (vp b)) (n := lK) (by simp only [ah, hat, gT, hf]; rfl) (bX hb) rfl hl h9.to
theorem Ks (S : SOk σ) (T : ef σ t) (hat : t.at' = 9) : Sp ia [vp e, vi now] (eP e p rp σ t) (fun _ : Unit => cT (ah σ t now)) (fun _ => eQ e p rp (ah σ t now)) := by
 have hN : σ.μ.N < 1099511627000 := by have := S.N; omega
 refine av fun R H h => ?_
 obtain ⟨nx, rv, g, hv, rfl, hl, _, h0⟩ := cL h
 obtain ⟨b, hb, rfl⟩ := hv (by omega)
 have ho := T.obj (.inl (by omega))
 refine aw (fun r => EF _ _ H) ?_
 refine aO h0 fun b1 H1 h1 => ?_
 refine am h1 ac rfl ?_
 refine am h1 ac rfl ?_
 refine am h1 ac rfl ?_
 refine af h1 (j9 (p := p) hl ho hb (y3 g.m t.obj b (az σ t.obj) σ.μ t.who t.w T.w hN)) fun _ H2 h2 => ?_
 cases hw : f7 σ.μ t.obj t.w (a9 t.w 0)
 ·with_reducible repeat refine gg ?_
  rw [Bool.not_false]
  with_reducible repeat refine gg ?_
  refine eI (e := e) (p := p) nx (vp b) { t with at' := 7 } bC h2 fun H9 h9 => ?_
  exact cN (σ' := σ.mem (σ.μ.turn t.who t.obj t.w (a9 t.w 0))) (t' := { t with at' := 7 }) (v := (vp b)) (n := bC) (by simp only [ah, hat, hw]; rfl) (bX hb) rfl hl h9.to
 ·with_reducible repeat refine gg ?_
  rw [Bool.not_true]
  with_reducible repeat refine gg ?_
  have k2 := bu (p := p) (rp := g.rp) (σ := σ.mem (σ.μ.turn t.who t.obj t.w (a9 t.w 0))) (R := eB e p nx (vp b) t * (blk b1 (.cells false [vi 0, .slice none 0 0, vi 0, vw 0]) * R)) g rfl hl h2.to
  refine af k2 (rm e p g.rp (σ.mem (σ.μ.turn t.who t.obj t.w (a9 t.w 0))) nx (vp b) t now 0 (by have := S.pts; show σ.pts.length < _; omega)) fun _ H3 h3 => ?_
  refine eI (e := e) (p := p) nx (vp b) { t with at' := 10, code := 0 } lJ h3 fun H9 h9 => ?_
  exact BQ (σ' := (σ.mem (σ.μ.turn t.who t.obj t.w (a9 t.w 0))).note now t.who 0) (t' := { t with at' := 10, code := 0 }) (v := (vp b)) (n := lJ) (by simp only [ah, hat, hw]; rfl) (bX hb) rfl h9.to
theorem QS (S : SOk σ) (T : ef σ t) (hat : t.at' = 13) : Sp jr [vp e, vi now] (eP e p rp σ t) (fun _ : Unit => cT (ah σ t now)) (fun _ => eQ e p rp (ah σ t now)) := by
 have hN : σ.μ.N < 1099511627000 := by have := S.N; omega
 refine av fun R H h => ?_
 obtain ⟨nx, rv, g, hv, rfl, hl, _, h0⟩ := cL h
 obtain ⟨b, hb, rfl⟩ := hv (by omega)
 have ho := T.obj (.inl (by omega))
 refine aw (fun r => HM _ _ H) ?_
 refine aO h0 fun b1 H1 h1 => ?_
 refine am h1 ac rfl ?_
 refine am h1 ac rfl ?_
 refine am h1 ac rfl ?_
 refine af h1 (j9 (p := p) hl ho hb (y3 g.m t.obj b (az σ t.obj) σ.μ t.who t.w T.w hN)) fun _ H2 h2 => ?_
 cases hw : f7 σ.μ t.obj t.w (a9 t.w 0)
 ·with_reducible repeat refine gg ?_
  rw [Bool.not_false]
  with_reducible repeat refine gg ?_
  refine eI (e := e) (p := p) nx (vp b) { t with at' := 20 } ji h2 fun H9 h9 => ?_
  exact cN (σ' := σ.mem (σ.μ.turn t.who t.obj t.w (a9 t.w 0))) (t' := { t with at' := 20 }) (v := (vp b)) (n := ji) (by simp only [ah, hat, hw]; rfl) (bX hb) rfl hl h9.to
 ·with_reducible repeat refine gg ?_
  rw [Bool.not_true]
  with_reducible repeat refine gg ?_
  have k2 := bu (p := p) (rp := g.rp) (σ := σ.mem (σ.μ.turn t.who t.obj t.w (a9 t.w 0))) (R := eB e p nx (vp b) t * (blk b1 (.cells false [vi 0, .slice none 0 0, vi 0, vw 0]) * R)) g rfl hl h2.to
  refine af k2 (rm e p g.rp (σ.mem (σ.μ.turn t.who t.obj t.w (a9 t.w 0))) nx (vp b) t now 0 (by have := S.pts; show σ.pts.length < _; omega)) fun _ H3 h3 => ?_
  refine eI (e := e) (p := p) nx (vp b) { t with at' := 14, code := 0 } jk h3 fun H9 h9 => ?_
  exact BQ (σ' := (σ.mem (σ.μ.turn t.who t.obj t.w (a9 t.w 0))).note now t.who 0) (t' := { t with at' := 14, code := 0 }) (v := (vp b)) (n := jk) (by simp only [ah, hat, hw]; rfl) (bX hb) rfl h9.to
theorem sd (σ : aX) (t : Tk) : m9 σ t = { σ with μ := σ.μ.acc t.who 6 (16, (t.obj : Int), ((aP t.w % (az σ t.obj).length : Nat) : Int)), obs := σ.obs.modify t.obj fun q => (q.1, (az σ t.obj).set (aP t.w % (az σ t.obj).length) ⟨t.x.flow, t.x.a, t.x.b⟩) } := by
 have eo : (σ.obs.modify t.obj fun q => (q.1, q.2.set (aP t.w % (az σ t.obj).length) (⟨t.x.flow, t.x.a, t.x.b⟩ : Pk))) = σ.obs.modify t.obj fun q => (q.1, (az σ t.obj).set (aP t.w % (az σ t.obj).length) ⟨t.x.flow, t.x.a, t.x.b⟩) := by
  apply List.ext_getElem?
  intro j
  rw [List.getElem?_modify, List.getElem?_modify]
  cases hj : σ.obs[j]? with
  | none => rfl
  | some q =>
   show some (if t.obj = j then _ else q) = some (if t.obj = j then _ else q)
   by_cases e : t.obj = j
   ·subst e
    rw [if_pos rfl, if_pos rfl]
    unfold az
    rw [hj]; rfl
   ·rw [if_neg e, if_neg e]
 exact congrArg (fun o => ({ σ with μ := σ.μ.acc t.who 6 (16, (t.obj : Int), ((aP t.w % (az σ t.obj).length : Nat) : Int)), obs := o } : aX)) eo
theorem La (S : SOk σ) (T : ef σ t) (nx : Value) (g : PIds) (b : Nat) (hl : g.rp.length = σ.obs.length) (ho : t.obj < σ.obs.length) (hb : g.rp[t.obj]? = some b) :
 Sp sk [vp e] (eB e p nx (vp b) t * aN p g σ) (fun _ : Unit => .tuple #[]) (fun _ => eB e p nx (vp b) t * aN p g (m9 σ t)) := by
 have hN : σ.μ.N < 1099511627000 := by have := S.N; omega
 refine av fun R H h => ?_
 refine aw (fun r => N5 _ H) ?_
 refine aJ ac ?_
 refine aE h rfl ?_
 refine aJ ac ?_
 refine aE h rfl ?_
 refine am h ac rfl ?_
 refine af h (iv t.w T.w) fun _ H1 h1 => ?_
 refine aD h1 h (by rfl) ?_
 refine aD h1 h (by rfl) ?_
 refine aJ (gS (ch (ch cg))) ?_
 refine aE h1 rfl ?_
 refine aD h h1 (by rfl) ?_
 refine aJ (gS (ch (ch cg))) ?_
 refine aE h1 rfl ?_
 refine aD h h1 (by rfl) ?_
 refine aJ (gS (ch (ch cg))) ?_
 refine aE h1 rfl ?_
 refine aD h h1 (by rfl) ?_
 refine dZ ?_
 refine af h1 (Re (p := p) hl ho hb (Vy g.m t.obj b (az σ t.obj) σ.μ t.who (aP t.w) ⟨t.x.flow, t.x.a, t.x.b⟩ (S.cells _ ho) hN)) fun _ H2 h2 => ?_
 refine aq ⟨(), rfl, ?_⟩
 rw [sd]
 exact h2.to
theorem iM (σ : aX) (t : Tk) : (m9 σ t).obs.length = σ.obs.length := by unfold m9; simp
theorem V8 (S : SOk σ) (T : ef σ t) (hat : t.at' = 10) : Sp lJ [vp e, vi now] (eP e p rp σ t) (fun _ : Unit => cT (ah σ t now)) (fun _ => eQ e p rp (ah σ t now)) := by
 have hN : σ.μ.N < 1099511627000 := by have := S.N; omega
 refine av fun R H h => ?_
 obtain ⟨nx, rv, g, hv, rfl, hl, _, h0⟩ := cL h
 obtain ⟨b, hb, rfl⟩ := hv (by omega)
 have ho := T.obj (.inl (by omega))
 refine aw (fun r => N6 _ _ H) ?_
 refine aO h0 fun b1 H1 h1 => ?_
 refine af h1 (La e p σ t S T nx g b hl ho hb) fun _ H2 h2 => ?_
 refine eI (e := e) (p := p) nx (vp b) { t with at' := 11 } jq h2 fun H9 h9 => ?_
 exact cN (σ' := m9 σ t) (t' := { t with at' := 11 }) (v := (vp b)) (n := jq) (by simp only [ah, hat]) (bX hb) rfl (by rw [iM]; exact hl) h9.to
theorem QL (S : SOk σ) (T : ef σ t) (hat : t.at' = 14) : Sp jk [vp e, vi now] (eP e p rp σ t) (fun _ : Unit => cT (ah σ t now)) (fun _ => eQ e p rp (ah σ t now)) := by
 have hN : σ.μ.N < 1099511627000 := by have := S.N; omega
 refine av fun R H h => ?_
 obtain ⟨nx, rv, g, hv, rfl, hl, _, h0⟩ := cL h
 obtain ⟨b, hb, rfl⟩ := hv (by omega)
 have ho := T.obj (.inl (by omega))
 refine aw (fun r => HC _ _ H) ?_
 refine aO h0 fun b1 H1 h1 => ?_
 refine af h1 (La e p σ t S T nx g b hl ho hb) fun _ H2 h2 => ?_
 refine eI (e := e) (p := p) nx (vp b) { t with at' := 21 } ie h2 fun H9 h9 => ?_
 exact cN (σ' := m9 σ t) (t' := { t with at' := 21 }) (v := (vp b)) (n := ie) (by simp only [ah, hat]) (bX hb) rfl (by rw [iM]; exact hl) h9.to
theorem QR (S : SOk σ) (T : ef σ t) (hat : t.at' = 11) : Sp jq [vp e, vi now] (eP e p rp σ t) (fun _ : Unit => cT (ah σ t now)) (fun _ => eQ e p rp (ah σ t now)) := by
 have hN : σ.μ.N < 1099511627000 := by have := S.N; omega
 refine av fun R H h => ?_
 obtain ⟨nx, rv, g, hv, rfl, hl, _, h0⟩ := cL h
 obtain ⟨b, hb, rfl⟩ := hv (by omega)
 have ho := T.obj (.inl (by omega))
 refine aw (fun r => HL _ _ H) ?_
 refine aO h0 fun b1 H1 h1 => ?_
 refine aJ ac ?_
 refine aE h1 rfl ?_
 refine aJ ac ?_
 refine aE h1 rfl ?_
 refine am h1 ac rfl ?_
 refine af h1 (iv t.w T.w) fun _ H2 h2 => ?_
 refine aD h2 h1 (by rfl) ?_
 refine aD h2 h1 (by rfl) ?_
 have hwc := dH t.w
 refine af h2 (j9 (p := p) hl ho hb (Bf g.m t.obj b (az σ t.obj) σ.μ t.who (aP t.w) (by omega) (S.cells _ ho) hN)) fun _ H3 h3 => ?_
 refine mC h3 (rk (vp e) 0) fun H9 h9 => ?_
 exact wX (σ' := oA σ t) (t' := t) (by simp only [ah, hat]) (T.c0 (by omega)) (bu (p := p) (rp := g.rp) (R := R) g rfl hl h9.to)
theorem Ku (S : SOk σ) (T : ef σ t) (hat : t.at' = 21) : Sp ie [vp e, vi now] (eP e p rp σ t) (fun _ : Unit => cT (ah σ t now)) (fun _ => eQ e p rp (ah σ t now)) := by
 have hN : σ.μ.N < 1099511627000 := by have := S.N; omega
 refine av fun R H h => ?_
 obtain ⟨nx, rv, g, hv, rfl, hl, _, h0⟩ := cL h
 obtain ⟨b, hb, rfl⟩ := hv (by omega)
 have ho := T.obj (.inl (by omega))
 refine aw (fun r => EI _ _ H) ?_
 refine aO h0 fun b1 H1 h1 => ?_
 refine aJ ac ?_
 refine aE h1 rfl ?_
 refine aJ ac ?_
 refine aE h1 rfl ?_
 refine am h1 ac rfl ?_
 refine af h1 (iv t.w T.w) fun _ H2 h2 => ?_
 refine aD h2 h1 (by rfl) ?_
 refine aD h2 h1 (by rfl) ?_
 have hwc := dH t.w
 refine af h2 (j9 (p := p) hl ho hb (Bf g.m t.obj b (az σ t.obj) σ.μ t.who (aP t.w) (by omega) (S.cells _ ho) hN)) fun _ H3 h3 => ?_
 refine eI (e := e) (p := p) nx (vp b) { t with at' := 22 } cM h3 fun H9 h9 => ?_
 exact cN (σ' := oA σ t) (t' := { t with at' := 22 }) (v := (vp b)) (n := cM) (by simp only [ah, hat]) (bX hb) rfl hl h9.to
theorem Kr (S : SOk σ) (T : ef σ t) (hat : t.at' = 12) : Sp hZ [vp e, vi now] (eP e p rp σ t) (fun _ : Unit => cT (ah σ t now)) (fun _ => eQ e p rp (ah σ t now)) := by
 have hN : σ.μ.N < 1099511627000 := by have := S.N; omega
 refine av fun R H h => ?_
 obtain ⟨nx, rv, g, hv, rfl, hl, _, h0⟩ := cL h
 obtain ⟨b, hb, rfl⟩ := hv (by omega)
 have ho := T.obj (.inl (by omega))
 refine aw (fun r => EE _ _ H) ?_
 refine aO h0 fun b1 H1 h1 => ?_
 refine am h1 ac rfl ?_
 refine am h1 ac rfl ?_
 refine am h1 ac rfl ?_
 refine af h1 (Af (p := p) (g := g) (σ := σ) (FK g.ib g.m g.nm σ.c σ.nx σ.μ t.who hN)) fun _ H2 h2 => ?_
 refine eI (e := e) (p := p) nx (vp b) { t with at' := 13 } jr h2 fun H9 h9 => ?_
 exact cN (σ' := σ.mem (σ.μ.cnt t.who (3, 0, 0) 4294967296)) (t' := { t with at' := 13 }) (v := (vp b)) (n := jr) (by simp only [ah, hat]) (bX hb) rfl hl h9.to
theorem QJ (S : SOk σ) (T : ef σ t) (hat : t.at' = 20) : Sp ji [vp e, vi now] (eP e p rp σ t) (fun _ : Unit => cT (ah σ t now)) (fun _ => eQ e p rp (ah σ t now)) := by
 have hN : σ.μ.N < 1099511627000 := by have := S.N; omega
 refine av fun R H h => ?_
 obtain ⟨nx, rv, g, hv, rfl, hl, _, h0⟩ := cL h
 obtain ⟨b, hb, rfl⟩ := hv (by omega)
 have ho := T.obj (.inl (by omega))
 refine aw (fun r => HB _ _ H) ?_
 refine aO h0 fun b1 H1 h1 => ?_
 refine am h1 ac rfl ?_
 refine am h1 ac rfl ?_
 refine am h1 ac rfl ?_
 refine af h1 (Af (p := p) (g := g) (σ := σ) (AN g.ib g.m g.nm σ.c σ.nx σ.μ t.who hN)) fun _ H2 h2 => ?_
 refine eI (e := e) (p := p) nx (vp b) { t with at' := 7 } bC h2 fun H9 h9 => ?_
 exact cN (σ' := σ.mem (σ.μ.cnt t.who (3, 0, 0) 1)) (t' := { t with at' := 7 }) (v := (vp b)) (n := bC) (by simp only [ah, hat]) (bX hb) rfl hl h9.to
theorem V7 (S : SOk σ) (T : ef σ t) (hat : t.at' = 25) : Sp lI [vp e, vi now] (eP e p rp σ t) (fun _ : Unit => cT (ah σ t now)) (fun _ => eQ e p rp (ah σ t now)) := by
 have hN : σ.μ.N < 1099511627000 := by have := S.N; omega
 refine av fun R H h => ?_
 obtain ⟨nx, rv, g, hv, rfl, hl, _, h0⟩ := cL h
 obtain ⟨b, hb, rfl⟩ := hv (by omega)
 have ho := T.obj (.inl (by omega))
 refine aw (fun r => N3 _ _ H) ?_
 refine aO h0 fun b1 H1 h1 => ?_
 refine am h1 ac rfl ?_
 refine am h1 ac rfl ?_
 refine am h1 ac rfl ?_
 refine af h1 (Af (p := p) (g := g) (σ := σ) (AN g.ib g.m g.nm σ.c σ.nx σ.μ t.who hN)) fun _ H2 h2 => ?_
 refine mC h2 (rk (vp e) 0) fun H9 h9 => ?_
 exact wX (σ' := σ.mem (σ.μ.cnt t.who (3, 0, 0) 1)) (t' := t) (by simp only [ah, hat]) (T.c0 (by omega)) (bu (p := p) (rp := g.rp) (R := R) g rfl hl h9.to)
theorem D6 (S : SOk σ) (T : ef σ t) (hat : t.at' = 22) : Sp cM [vp e, vi now] (eP e p rp σ t) (fun _ : Unit => cT (ah σ t now)) (fun _ => eQ e p rp (ah σ t now)) := by
 have hN : σ.μ.N < 1099511627000 := by have := S.N; omega
 refine av fun R H h => ?_
 obtain ⟨nx, rv, g, hv, rfl, hl, _, h0⟩ := cL h
 obtain ⟨b, hb, rfl⟩ := hv (by omega)
 have ho := T.obj (.inl (by omega))
 refine aw (fun r => zQ _ _ H) ?_
 refine aO h0 fun b1 H1 h1 => ?_
 refine am h1 ac rfl ?_
 refine am h1 ac rfl ?_
 refine am h1 ac rfl ?_
 refine am h1 ac rfl ?_
 refine af h1 (Af (p := p) (g := g) (σ := σ) (Pq g.ib g.m g.nm σ.c σ.nx σ.μ t.who t.s hN)) fun _ H2 h2 => ?_
 refine aL h2 ac rfl rfl fun H3 h3 => ?_
 refine eI (e := e) (p := p) nx (vp b) { t with top := σ.μ.V (9, t.s, 0), at' := 23 } jn h3 fun H9 h9 => ?_
 exact cN (σ' := σ.mem (σ.μ.acc t.who 1 (9, t.s, 0))) (t' := { t with top := σ.μ.V (9, t.s, 0), at' := 23 }) (v := (vp b)) (n := jn) (by simp only [ah, hat]) (bX hb) rfl hl h9.to
theorem QN (S : SOk σ) (T : ef σ t) (hat : t.at' = 23) : Sp jn [vp e, vi now] (eP e p rp σ t) (fun _ : Unit => cT (ah σ t now)) (fun _ => eQ e p rp (ah σ t now)) := by
 have hN : σ.μ.N < 1099511627000 := by have := S.N; omega
 refine av fun R H h => ?_
 obtain ⟨nx, rv, g, hv, rfl, hl, _, h0⟩ := cL h
 obtain ⟨b, hb, rfl⟩ := hv (by omega)
 have ho := T.obj (.inl (by omega))
 refine aw (fun r => HF _ _ H) ?_
 refine aO h0 fun b1 H1 h1 => ?_
 refine am h1 ac rfl ?_
 refine am h1 ac rfl ?_
 refine am h1 ac rfl ?_
 refine am h1 ac rfl ?_
 refine am h1 ac rfl ?_
 refine af h1 (Af (p := p) (g := g) (σ := σ) (I3 g.ib g.m g.nm σ.c σ.nx σ.μ t.who t.obj t.top hN)) fun _ H2 h2 => ?_
 refine eI (e := e) (p := p) nx (vp b) { t with at' := 24 } jp h2 fun H9 h9 => ?_
 exact cN (σ' := { σ with μ := σ.μ.acc t.who 6 (14, (t.obj : Int), 0), nx := fun k => if k = (t.obj : Int) then some t.top else σ.nx k }) (t' := { t with at' := 24 }) (v := (vp b)) (n := jp) (by simp only [ah, hat]) (bX hb) rfl hl h9.to
theorem QQ (S : SOk σ) (T : ef σ t) (hat : t.at' = 24) : Sp jp [vp e, vi now] (eP e p rp σ t) (fun _ : Unit => cT (ah σ t now)) (fun _ => eQ e p rp (ah σ t now)) := by
 have hN : σ.μ.N < 1099511627000 := by have := S.N; omega
 refine av fun R H h => ?_
 obtain ⟨nx, rv, g, hv, rfl, hl, _, h0⟩ := cL h
 obtain ⟨b, hb, rfl⟩ := hv (by omega)
 have ho := T.obj (.inl (by omega))
 refine aw (fun r => HJ _ _ H) ?_
 refine aO h0 fun b1 H1 h1 => ?_
 refine am h1 ac rfl ?_
 refine am h1 ac rfl ?_
 refine am h1 ac rfl ?_
 refine am h1 ac rfl ?_
 refine am h1 ac rfl ?_
 refine am h1 ac rfl ?_
 refine af h1 (Af (p := p) (g := g) (σ := σ) (I5 g.ib g.m g.nm σ.c σ.nx σ.μ t.who t.s t.top t.obj (by have := S.obs; omega) hN)) fun _ H2 h2 => ?_
 by_cases hw : σ.μ.V (9, t.s, 0) = t.top
 ·rw [decide_eq_true hw]
  with_reducible repeat refine gg ?_
  rw [Bool.not_true]
  with_reducible repeat refine gg ?_
  refine eI (e := e) (p := p) nx (vp b) { t with at' := 25 } lI h2 fun H9 h9 => ?_
  exact cN (σ' := σ.mem (σ.μ.swp t.who (9, t.s, 0) t.top (t.obj + 1))) (t' := { t with at' := 25 }) (v := (vp b)) (n := lI) (by simp only [ah, hat]; rw [if_pos hw]) (bX hb) rfl hl h9.to
 ·rw [decide_eq_false hw]
  with_reducible repeat refine gg ?_
  rw [Bool.not_false]
  with_reducible repeat refine gg ?_
  refine eI (e := e) (p := p) nx (vp b) { t with at' := 22 } cM h2 fun H9 h9 => ?_
  exact cN (σ' := σ.mem (σ.μ.swp t.who (9, t.s, 0) t.top (t.obj + 1))) (t' := { t with at' := 22 }) (v := (vp b)) (n := cM) (by simp only [ah, hat]; rw [if_neg hw]) (bX hb) rfl hl h9.to
theorem V9 (S : SOk σ) (T : ef σ t) (hat : t.at' = 15) : Sp lK [vp e, vi now] (eP e p rp σ t) (fun _ : Unit => cT (ah σ t now)) (fun _ => eQ e p rp (ah σ t now)) := by
 have hN : σ.μ.N < 1099511627000 := by have := S.N; omega
 refine av fun R H h => ?_
 obtain ⟨nx, rv, g, hv, rfl, hl, _, h0⟩ := cL h
 obtain ⟨b, hb, rfl⟩ := hv (by omega)
 have ho := T.obj (.inl (by omega))
 refine aw (fun r => N8 _ _ H) ?_
 refine aO h0 fun b1 H1 h1 => ?_
 refine am h1 ac rfl ?_
 refine am h1 ac rfl ?_
 refine af h1 (yF p g σ t.who S.N) fun _ H2 h2 => ?_
 refine aL h2 ac rfl rfl fun H3 h3 => ?_
 refine am h3 ac rfl ?_
 refine aa (M2 2 (by omega)) ?_
 by_cases hw : σ.μ.V (2, 0, 0) % 2 = 1
 ·refine aa (bo (show ((σ.μ.V (2, 0, 0) % 2 : Nat) : Int) = 1 by omega)) ?_
  with_reducible repeat refine gg ?_
  refine eI (e := e) (p := p) nx (vp b) { t with q := σ.μ.V (2, 0, 0), at' := 7 } bC h3 fun H9 h9 => ?_
  exact cN (σ' := lQ σ t) (t' := { t with q := σ.μ.V (2, 0, 0), at' := 7 }) (v := (vp b)) (n := bC) (by simp only [ah, hat]; rw [if_pos hw]) (bX hb) rfl hl h9.to
 ·refine aa (aR (show ¬ ((σ.μ.V (2, 0, 0) % 2 : Nat) : Int) = 1 by omega)) ?_
  with_reducible repeat refine gg ?_
  refine eI (e := e) (p := p) nx (vp b) { t with q := σ.μ.V (2, 0, 0), at' := 16 } dy h3 fun H9 h9 => ?_
  exact cN (σ' := lQ σ t) (t' := { t with q := σ.μ.V (2, 0, 0), at' := 16 }) (v := (vp b)) (n := dy) (by simp only [ah, hat]; rw [if_neg hw]) (bX hb) rfl hl h9.to
theorem zl (S : SOk σ) (T : ef σ t) (hat : t.at' = 17) : Sp dx [vp e, vi now] (eP e p rp σ t) (fun _ : Unit => cT (ah σ t now)) (fun _ => eQ e p rp (ah σ t now)) := by
 have hN : σ.μ.N < 1099511627000 := by have := S.N; omega
 refine av fun R H h => ?_
 obtain ⟨nx, rv, g, hv, rfl, hl, _, h0⟩ := cL h
 obtain ⟨b, hb, rfl⟩ := hv (by omega)
 have ho := T.obj (.inl (by omega))
 refine aw (fun r => uW _ _ H) ?_
 refine aO h0 fun b1 H1 h1 => ?_
 refine aJ ac ?_
 refine aE h1 rfl ?_
 refine aJ ac ?_
 refine aE h1 rfl ?_
 refine am h1 ac rfl ?_
 refine am h1 ac rfl ?_
 refine af h1 (j9 (p := p) hl ho hb (Be g.m t.obj b (az σ t.obj) σ.μ t.who hN)) fun _ H2 h2 => ?_
 refine aD h2 h1 (by rfl) ?_
 refine aD h2 h1 (by rfl) ?_
 refine af h2 (KL (p := p) (σ := fw σ t) hl ho hb (Bd g.m t.obj b (az σ t.obj) t.w (σ.μ.V (12, (t.obj : Int), 0)) T.w (S.cells _ ho).2)) fun _ H3 h3 => ?_
 cases hf : gr t.w (σ.μ.V (12, (t.obj : Int), 0)) (az σ t.obj).length
 ·with_reducible repeat refine gg ?_
  rw [Bool.not_false]
  with_reducible repeat refine gg ?_
  refine eI (e := e) (p := p) nx (vp b) { t with at' := 7 } bC h3 fun H9 h9 => ?_
  exact cN (σ' := fw σ t) (t' := { t with at' := 7 }) (v := (vp b)) (n := bC) (by simp only [ah, hat, gT, hf]; rfl) (bX hb) rfl hl h9.to
 ·with_reducible repeat refine gg ?_
  rw [Bool.not_true]
  with_reducible repeat refine gg ?_
  refine aL h3 ac rfl rfl fun H4 h4 => ?_
  refine eI (e := e) (p := p) nx (vp b) { t with at' := 18, mark := now } dX h4 fun H9 h9 => ?_
  exact cN (σ' := fw σ t) (t' := { t with at' := 18, mark := now }) (v := (vp b)) (n := dX) (by simp only [ah, hat, gT, hf]; rfl) (bX hb) rfl hl h9.to
theorem z8 (S : SOk σ) (T : ef σ t) (hat : t.at' = 18) : Sp dX [vp e, vi now] (eP e p rp σ t) (fun _ : Unit => cT (ah σ t now)) (fun _ => eQ e p rp (ah σ t now)) := by
 have hN : σ.μ.N < 1099511627000 := by have := S.N; omega
 refine av fun R H h => ?_
 obtain ⟨nx, rv, g, hv, rfl, hl, _, h0⟩ := cL h
 obtain ⟨b, hb, rfl⟩ := hv (by omega)
 have ho := T.obj (.inl (by omega))
 refine aw (fun r => wW _ _ H) ?_
 refine aO h0 fun b1 H1 h1 => ?_
 refine am h1 ac rfl ?_
 refine am h1 ac rfl ?_
 refine af h1 (yF p g σ t.who S.N) fun _ H2 h2 => ?_
 refine aJ ac ?_
 refine aE h2 rfl ?_
 refine aD h1 h2 (by rfl) ?_
 by_cases hw : σ.μ.V (2, 0, 0) = t.q
 ·refine aa (so (show ((σ.μ.V (2, 0, 0) : Nat) : Int) = (t.q : Int) by omega)) ?_
  with_reducible repeat refine gg ?_
  refine am h2 ac rfl ?_
  have k2 := bu (p := p) (rp := g.rp) (σ := lQ σ t) (R := eB e p nx (vp b) t * (blk b1 (.cells false [vi 0, .slice none 0 0, vi 0, vw 0]) * R)) g rfl hl h2.to
  refine mC k2 (uq e p g.rp (lQ σ t) nx (vp b) t t.mark 9 (by have := S.pts; show σ.pts.length < _; omega)) fun H9 h9 => ?_
  exact wX (σ' := (lQ σ t).note t.mark t.who 9) (t' := { t with code := 9 }) (by simp only [ah, hat]; rw [if_pos hw]) rfl h9.to
 ·refine aa (Y0 (show ¬ ((σ.μ.V (2, 0, 0) : Nat) : Int) = (t.q : Int) by omega)) ?_
  with_reducible repeat refine gg ?_
  refine eI (e := e) (p := p) nx (vp b) { t with at' := 7 } bC h2 fun H9 h9 => ?_
  exact cN (σ' := lQ σ t) (t' := { t with at' := 7 }) (v := (vp b)) (n := bC) (by simp only [ah, hat]; rw [if_neg hw]) (bX hb) rfl hl h9.to
def ee (σ : aX) (t : Tk) : aX × Tk × Bool :=
 (cj σ t, { aI σ t with at' := if (aI σ t).found = true then 6 else if dp σ (aI σ t) = true then 3 else 2 }, false)
theorem By (S : SOk σ) (T : ef σ t) (hat : t.at' = 0 ∨ t.at' = 2) : Sp ic [vp e, vi now] (eP e p rp σ t) (fun _ : Unit => cT (ee σ t)) (fun _ => eQ e p rp (ee σ t)) := by
 have hN : σ.μ.N < 1099511627000 := by have := S.N; omega
 refine av fun R H h => ?_
 obtain ⟨nx, rv, g, hv, rfl, hl, _, h0⟩ := cL h
 have hi := T.i (by omega) (by omega)
 refine aw (fun r => HK _ _ H) ?_
 refine aO h0 fun b1 H1 h1 => ?_
 refine af h1 (K9 e p g σ nx rv t S hi) fun _ H2 h2 => ?_
 refine ag (zO _ _ _ _ H2) ?_
 refine am h2 ac rfl ?_
 cases hf : (aI σ t).found
 ·with_reducible repeat refine gg ?_
  cases hla : dp σ (aI σ t)
  ·with_reducible repeat refine gg ?_
   refine ag (zP _ _ _ H2) ?_
   refine eI (e := e) (p := p) nx rv { aI σ t with at' := 2 } ic h2 fun H9 h9 => ?_
   exact cN (σ' := cj σ t) (t' := { aI σ t with at' := 2 }) (v := rv) (n := ic) (by simp only [ee, hf, hla]; rfl) (fN (by simp)) rfl hl h9.to
  ·with_reducible repeat refine gg ?_
   refine eI (e := e) (p := p) nx rv { aI σ t with at' := 3 } cq h2 fun H9 h9 => ?_
   exact cN (σ' := cj σ t) (t' := { aI σ t with at' := 3 }) (v := rv) (n := cq) (by simp only [ee, hf, hla]; rfl) (fN (by simp)) rfl hl h9.to
 ·with_reducible repeat refine gg ?_
  refine eI (e := e) (p := p) nx rv { aI σ t with at' := 6 } eM h2 fun H9 h9 => ?_
  exact cN (σ' := cj σ t) (t' := { aI σ t with at' := 6 }) (v := rv) (n := eM) (by simp only [ee, hf]; rfl) (fN (by simp)) rfl hl h9.to
theorem GL (S : SOk σ) (T : ef σ t) (hat : t.at' = 4) : Sp dc [vp e, vi now] (eP e p rp σ t) (fun _ : Unit => cT (ah σ t now)) (fun _ => eQ e p rp (ah σ t now)) := by
 have hN : σ.μ.N < 1099511627000 := by have := S.N; omega
 refine av fun R H h => ?_
 obtain ⟨nx, rv, g, hv, rfl, hl, _, h0⟩ := cL h
 have hi := T.i (by omega) (by omega)
 refine aw (fun r => BO _ _ H) ?_
 refine aO h0 fun b1 H1 h1 => ?_
 refine af h1 (K9 e p g σ nx rv t S hi) fun _ H2 h2 => ?_
 refine ag (uX _ _ _ _ _ H2) ?_
 refine am h2 ac rfl ?_
 cases hf : (aI σ t).found
 ·with_reducible repeat refine gg ?_
  cases hla : dp σ (aI σ t)
  ·with_reducible repeat refine gg ?_
   refine ag (uY _ _ _ H2) ?_
   refine eI (e := e) (p := p) nx rv (aI σ t) dc h2 fun H9 h9 => ?_
   exact cN (σ' := cj σ t) (t' := (aI σ t)) (v := rv) (n := dc) (by simp only [ah, hat, hf, hla]; rfl) (fN (show t.at' < 7 by omega)) (by show vg t.at' = _; rw [hat]; rfl) hl h9.to
  ·with_reducible repeat refine gg ?_
   have k2 := bu (p := p) (rp := g.rp) (σ := cj σ t) (R := eB e p nx rv (aI σ t) * (blk b1 (.cells false [vi 0, .slice none 0 0, vi 0, vw 0]) * R)) g rfl hl h2.to
   refine af k2 (rm e p g.rp (cj σ t) nx rv (aI σ t) now 5 (by have := S.pts; show σ.pts.length < _; omega)) fun _ H3 h3 => ?_
   refine eI (e := e) (p := p) nx rv { aI σ t with at' := 5, code := 5 } dd h3 fun H9 h9 => ?_
   exact BQ (σ' := (cj σ t).note now (aI σ t).who 5) (t' := { aI σ t with at' := 5, code := 5 }) (v := rv) (n := dd) (by simp only [ah, hat, hf, hla]; rfl) (fN (by simp)) rfl h9.to
 ·with_reducible repeat refine gg ?_
  refine eI (e := e) (p := p) nx rv { aI σ t with at' := 5 } dd h2 fun H9 h9 => ?_
  exact cN (σ' := cj σ t) (t' := { aI σ t with at' := 5 }) (v := rv) (n := dd) (by simp only [ah, hat, hf]; rfl) (fN (by simp)) rfl hl h9.to
theorem Kt (S : SOk σ) (T : ef σ t) (hat : t.at' = 0) : Sp jQ [vp e, vi now] (eP e p rp σ t) (fun _ : Unit => cT (ah σ t now)) (fun _ => eQ e p rp (ah σ t now)) := by
 have hN : σ.μ.N < 1099511627000 := by have := S.N; omega
 refine av fun R H h => ?_
 refine aw (fun r => EG _ _ H) ?_
 refine aO h fun b H1 h1 => ?_
 refine ag (wP _ _ _ _ H1) ?_
 obtain ⟨nx, rv, g, hv, rfl, hl, _, k1⟩ := cL (e := e) (p := p) (rp := rp) (σ := σ) (t := t) (R := blk b (.cells false [vi 0, .slice none 0 0, vi 0, vw 0]) * R) (H := H1) h1.to
 have fin : ∀ code, cG t.x = some code → wp ((FF gi [vp e, vi now, vi code] H1).bind fun r25 =>
  (ai r25.1 0).bind fun v26 =>
  (ai r25.1 1).bind fun v27 =>
  (cW 4 (vp b) v26 r25.2).bind fun H28 =>
  (aA 4 (vp b) H28).bind fun v29 => some (Value.tuple #[v29, v27], H28)) fun v' H' => ∃ x_1 : Unit, v' = cT (ah σ t now) ∧ ae (eQ e p g.rp (ah σ t now) * R) H' := by
  intro code hx
  have k2 := bu (p := p) (rp := g.rp) (σ := σ) (R := eB e p nx rv t * (blk b (.cells false [vi 0, .slice none 0 0, vi 0, vw 0]) * R)) g rfl hl k1.to
  refine mC k2 (uq e p g.rp σ nx rv t now code (by have := S.pts; omega)) fun H9 h9 => ?_
  exact wX (σ' := σ.note now t.who code) (t' := { t with code := code }) (by simp only [ah, hat, hx]) rfl h9.to
 have scan : cG t.x = none → wp (np (vp e) (vi now) (vp b) (vb false) H1) fun v' H' => ∃ x_1 : Unit, v' = cT (ah σ t now) ∧ ae (eQ e p g.rp (ah σ t now) * R) H' := by
  intro hx
  have hs : ah σ t now = ee σ t := by simp only [ah, hat, hx, ee]
  rw [hs]
  refine ag (wQ _ _ _ _ H1) ?_
  exact mC h1 (By e p g.rp σ t now S T (.inl hat)) fun H9 h9 => ⟨(), rfl, h9.to⟩
 refine am k1 (gS (ch (ch cg))) rfl ?_
 by_cases ha : t.x.a < 1
 ·refine aa (b4 ha) ?_
  with_reducible repeat refine gg ?_
  exact fin 3 (by rw [cG, if_pos (.inl ha)])
 ·refine aa (bI ha) ?_
  with_reducible repeat refine gg ?_
  refine am k1 (gS (ch (ch cg))) rfl ?_
  with_reducible repeat refine gg ?_
  by_cases ha2 : 65536 < t.x.a
  ·refine aa (nG ha2) ?_
   with_reducible repeat refine gg ?_
   exact fin 3 (by rw [cG, if_pos (.inr ha2)])
  ·refine aa (gU ha2) ?_
   with_reducible repeat refine gg ?_
   refine am k1 (gS (ch (ch cg))) rfl ?_
   by_cases hf : t.x.flow < 0
   ·refine aa (b4 hf) ?_
    with_reducible repeat refine gg ?_
    exact fin 5 (by rw [cG, if_neg (by omega), if_pos (.inl hf)])
   ·refine aa (bI hf) ?_
    with_reducible repeat refine gg ?_
    refine am k1 (gS (ch (ch cg))) rfl ?_
    with_reducible repeat refine gg ?_
    by_cases hf2 : 1048576 < t.x.flow
    ·refine aa (nG hf2) ?_
     with_reducible repeat refine gg ?_
     exact fin 5 (by rw [cG, if_neg (by omega), if_pos (.inr hf2)])
    ·refine aa (gU hf2) ?_
     with_reducible repeat refine gg ?_
     exact scan (by rw [cG, if_neg (by omega), if_neg (by omega)])
theorem rn (S : SOk σ) (T : ef σ t) : Sp lH [vp e, vi now] (eP e p rp σ t) (fun _ : Unit => cT (ah σ t now)) (fun _ => eQ e p rp (ah σ t now)) := by
 refine av fun R H h => ?_
 refine aw (fun r => Hz _ _ H) ?_
 refine aO h fun b H1 h1 => ?_
 obtain ⟨rv, hv, k1⟩ := K6 (e := e) (p := p) (rp := rp) (σ := σ) (t := t) (R := blk b (.cells false [vi 0, .slice none 0 0, vi 0, vw 0]) * R) (H := H1) h1.to
 refine am k1 ac rfl ?_
 refine ag (show (bN (.func (.func (vg t.at')) #[vp e] #[]) [vi now]).bind _ = _ from rfl) ?_
 have hs : Sp (vg t.at') [vp e, vi now] (eP e p rp σ t) (fun _ : Unit => cT (ah σ t now)) (fun _ => eQ e p rp (ah σ t now)) := by
  rcases T.ats with hat | hat | hat | hat | hat | hat | hat | hat | hat | hat | hat | hat | hat | hat | hat | hat | hat | hat | hat | hat | hat | hat | hat | hat <;> rw [show vg t.at' = _ from by rw [hat]]
  ·exact Kt e p rp σ t now S T hat
  ·have h := By e p rp σ t now S T (.inr hat)
   have hs : ah σ t now = ee σ t := by simp only [ah, hat, ee]
   rw [hs]; exact h
  ·exact QO e p rp σ t now S T hat
  ·exact GL e p rp σ t now S T hat
  ·exact GM e p rp σ t now S T hat
  ·exact QP e p rp σ t now S T hat
  ·exact QT e p rp σ t now S T hat
  ·exact QM e p rp σ t now S T hat
  ·exact Ks e p rp σ t now S T hat
  ·exact V8 e p rp σ t now S T hat
  ·exact QR e p rp σ t now S T hat
  ·exact Kr e p rp σ t now S T hat
  ·exact QS e p rp σ t now S T hat
  ·exact QL e p rp σ t now S T hat
  ·exact V9 e p rp σ t now S T hat
  ·exact zm e p rp σ t now S T hat
  ·exact zl e p rp σ t now S T hat
  ·exact z8 e p rp σ t now S T hat
  ·exact QJ e p rp σ t now S T hat
  ·exact Ku e p rp σ t now S T hat
  ·exact D6 e p rp σ t now S T hat
  ·exact QN e p rp σ t now S T hat
  ·exact QQ e p rp σ t now S T hat
  ·exact V7 e p rp σ t now S T hat
 exact mC h1 hs fun H9 h9 => ⟨(), rfl, h9.to⟩
end
end Go.Proofs.YtodpbobjmkhcfaaGreatDoor.Gst
