/- THE FUNCTIONS OF THE PROGRAM AS PLAIN LEAN FUNCTIONS: printed by a program of this work (XPr), each checked by the kernel against the program's text. -/
import Derived.Test.YthagelbepgcolaaGreatDoorKa
namespace Go.Proofs.YthagelbepgcolaaGreatDoor.Gst
open Go Go.RowKit
set_option maxRecDepth 100000
set_option linter.unusedVariables false
set_option maxHeartbeats 1000000
-- FUNCTION r30_put
noncomputable def f27_b (p : List Nat) : Code := Code.sub (bodyOf Tryz.f27) p
noncomputable def f27_r : KK := cFin PP (Tryz.f27).results.toList
noncomputable def f27_n0 : KK := CQ (f27_b [1]) f27_r kx0 f27_r
noncomputable def f27_m0 : KK := clr 2097132 f27_n0
noncomputable def r30_put_k0 (x0 x1 x4 : Value) (H : AH) : OV := f27_n0 (ls [x0, x1, u, u, x4] 16) H
noncomputable def f27_n1 : KK := CQ (f27_b [1, 1]) f27_r kx0 f27_r
noncomputable def f27_m1 : KK := clr 2097132 f27_n1
noncomputable def r30_put_k1 (x0 x1 x4 : Value) (H : AH) : OV := f27_n1 (ls [x0, x1, u, u, x4] 16) H
noncomputable def f27_x6 : KX := BX 0 f27_m1 kx0
noncomputable def f27_y6 : KX := clx 2097132 (f27_x6)
noncomputable def f27_n7 : KK := CLq (f27_b [1, 0, 4, 5]) f27_y6 f27_r
noncomputable def f27_m7 : KK := clr 2097132 f27_n7
-- a loop
noncomputable def r30_put_k7 (x0 x1 x4 : Value) (H : AH) : OV := f27_n7 (ls [x0, x1, u, u, x4] 16) H
noncomputable def f27_n8 : KK := CQ (f27_b [1, 0, 4, 5, 1]) f27_m7 f27_y6 f27_r
noncomputable def f27_m8 : KK := clr 2097132 f27_n8
noncomputable def r30_put_k8 (x0 x1 x4 : Value) (H : AH) : OV := f27_n8 (ls [x0, x1, u, u, x4] 16) H
noncomputable def f27_x9 : KX := BX 1 f27_m7 f27_y6
noncomputable def f27_y9 : KX := clx 2097132 (f27_x9)
noncomputable def r30_put_e6_0 (x0 x1 x4 : Value) (H : AH) : OV := f27_x6 0 (ls [x0, x1, u, u, x4] 16) H
theorem f27_r_d : Resp 2097135 f27_r := rf
theorem f27_n0_d : Resp 2097132 f27_n0 := rc f27_r_d kx0_d f27_r_d
theorem f27_n1_d : Resp 2097132 f27_n1 := rc f27_r_d kx0_d f27_r_d
theorem f27_x6_d : ∀ i, Resp 2097132 (f27_x6 i) := rb (cd (f27_n1_d)) kx0_d
theorem f27_n7_d : Resp 2097132 f27_n7 := rl (cx (f27_x6_d)) f27_r_d
theorem f27_n8_d : Resp 2097132 f27_n8 := rc (cd (f27_n7_d)) (cx (f27_x6_d)) f27_r_d
theorem f27_x9_d : ∀ i, Resp 2097132 (f27_x9 i) := rb (cd (f27_n7_d)) (cx (f27_x6_d))
theorem r30_put_k1_eq (x0 x1 x4 : Value) (H : AH) : r30_put_k1 x0 x1 x4 H =
  (pConv (some .u8) x1).bind fun v2 =>
  mkR 1 1 [(.int .u8 0)] [(0, v2)] H fun v3 H4 =>
  (pApp 1 1 x0 v3 H4).bind fun r5 =>
  some (r5.1, r5.2) :=
  (by kernel_rfl)
theorem r30_put_k8_eq (x0 x1 x4 : Value) (H : AH) : r30_put_k8 x0 x1 x4 H =
  (pBin .other .rem x1 (vw 128)).bind fun v10 =>
  (pBin .other .add v10 (vw 128)).bind fun v11 =>
  (pConv (some .u8) v11).bind fun v12 =>
  mkR 1 1 [(.int .u8 0)] [(0, v12)] H fun v13 H14 =>
  (pApp 1 1 x0 v13 H14).bind fun r15 =>
  (pBin .other .quo x1 (vw 128)).bind fun v16 =>
  r30_put_k7 r15.1 v16 x4 r15.2 :=
  (bt rfl (f27_b [1, 0, 4, 5, 1, 4]) 1 (f27_x9_d) (by kernel_rfl))
theorem r30_put_e6_0_eq (x0 x1 x4 : Value) (H : AH) : r30_put_e6_0 x0 x1 x4 H = r30_put_k1 x0 x1 x4 H :=
  (by kernel_rfl)
theorem r30_put_k7_eq (x0 x1 x4 : Value) (H : AH) : r30_put_k7 x0 x1 x4 H =
  (pBin .other .geq x1 (vw 128)).bind fun v17 =>
  condK v17
  (r30_put_k8 x0 x1 x4 H)
  (r30_put_e6_0 x0 x1 x4 H) :=
  lt' rfl (f27_n7_d) (pt rfl 0 (f27_n8_d) (by kernel_rfl))
theorem r30_put_k0_eq (x0 x1 x4 : Value) (H : AH) : r30_put_k0 x0 x1 x4 H =
  r30_put_k7 x0 x1 x4 H :=
  (pt rfl 0 (f27_n1_d) (bt rfl (f27_b [1, 0, 4]) 0 (f27_x6_d) (li rfl (f27_b [1, 0, 4, 5]) (f27_n7_d) (by kernel_rfl))))
noncomputable def r30_put (x0 x1 : Value) (H : AH) : OV := cCode PP GG FF (f27_b []) (ls [x0, x1] 19) H f27_r kx0 f27_r
theorem r30_put_of (x0 x1 : Value) (H : AH) {r : Value × AH} (h : (
  r30_put_k0 x0 x1 (.slice none 0 0) H) = some r) : FF n_r30_put [x0, x1] H = some r :=
  fo (t := r30_put x0 x1 H) Tryz.func27 (by kernel_rfl) (Eq.trans (pt rfl 0 (f27_n0_d) (by kernel_rfl)) h)

-- FUNCTION r30_small
theorem r30_small_of (x0 : Value) (H : AH) {r : Value × AH} (h : (
  (pBin .other .geq x0 (vi 0)).bind fun v0 =>
  (gV v0 true x0).bind fun v1 =>
  (gB v0 true (pBin .other .lss v1 (vi 2147483648))).bind fun v2 =>
  (pPick v0 v2 (vb false)).bind fun v3 =>
  some (v3, H)) = some r) : FF n_r30_small [x0] H = some r :=
  fo Tryz.func28 (by kernel_rfl) h

-- FUNCTION model_Right
theorem model_Right_of (x0 : Value) (H : AH) {r : Value × AH} (h : (
  newK (Value.cells x0).toList H fun v0 H1 =>
  ld [.f 0] v0 H1 fun v2 =>
  (FF n_model_within [v2, (vi 1), (vi 4)] H1).bind fun r3 =>
  gld r3.1 true  [.f 1] v0 r3.2 fun v4 =>
  (gE r3.1 true r3.2 (FF n_model_within [v4, (vi 1), (vi 4)] r3.2)).bind fun r5 =>
  (pPick r3.1 r5.1 (vb false)).bind fun v6 =>
  gld v6 true  [.f 2] v0 r5.2 fun v7 =>
  (gE v6 true r5.2 (FF n_model_within [v7, (vi 1), (vi 6)] r5.2)).bind fun r8 =>
  (pPick v6 r8.1 (vb false)).bind fun v9 =>
  gld v9 true  [.f 3] v0 r8.2 fun v10 =>
  (gE v9 true r8.2 (FF n_model_within [v10, (vi 0), (vi 40)] r8.2)).bind fun r11 =>
  (pPick v9 r11.1 (vb false)).bind fun v12 =>
  gld v12 true  [.f 4] v0 r11.2 fun v13 =>
  (gB v12 true (pBin .other .geq v13 (vw 1))).bind fun v14 =>
  (pPick v12 v14 (vb false)).bind fun v15 =>
  gld v15 true  [.f 4] v0 r11.2 fun v16 =>
  (gB v15 true (pBin .other .leq v16 (vw 4611686018427387904))).bind fun v17 =>
  (pPick v15 v17 (vb false)).bind fun v18 =>
  some (v18, r11.2)) = some r) : FF n_model_Right [x0] H = some r :=
  fo Tryz.func33 (by kernel_rfl) h

-- FUNCTION play_Ready
noncomputable def f37_b (p : List Nat) : Code := Code.sub (bodyOf Tryz.f37) p
noncomputable def f37_r : KK := cFin PP (Tryz.f37).results.toList
noncomputable def f37_n0 : KK := CQ (f37_b [1, 1]) f37_r kx0 f37_r
noncomputable def f37_m0 : KK := clr 2097138 f37_n0
noncomputable def play_Ready_k0 (x0 x2 x3 : Value) (H : AH) : OV := f37_n0 (ls [x0, u, x2, x3] 17) H
noncomputable def f37_n1 : KK := CQ (f37_b [1, 1, 1]) f37_r kx0 f37_r
noncomputable def f37_m1 : KK := clr 2097139 f37_n1
noncomputable def play_Ready_k1 (x2 x3 : Value) (H : AH) : OV := f37_n1 (ls [u, u, x2, x3] 17) H
noncomputable def f37_n2 : KK := CQ (f37_b [1, 1, 0, 1]) f37_m1 kx0 f37_r
noncomputable def f37_m2 : KK := clr 2097122 f37_n2
noncomputable def play_Ready_k2 (x0 x2 x3 x4 : Value) (H : AH) : OV := f37_n2 (ls [x0, u, x2, x3, x4] 16) H
noncomputable def f37_x3 : KX := BX 0 f37_m1 kx0
noncomputable def f37_y3 : KX := clx 2097139 (f37_x3)
noncomputable def f37_n4 : KK := CLq (f37_b [1, 1, 0, 1, 4, 5]) f37_y3 f37_r
noncomputable def f37_m4 : KK := clr 2097122 f37_n4
-- a loop
noncomputable def play_Ready_k4 (x0 x2 x3 x4 : Value) (H : AH) : OV := f37_n4 (ls [x0, u, x2, x3, x4] 16) H
noncomputable def f37_n5 : KK := CQ (f37_b [1, 1, 0, 1, 4, 5, 1]) f37_m4 f37_y3 f37_r
noncomputable def f37_m5 : KK := clr 2097122 f37_n5
noncomputable def play_Ready_k5 (x0 x2 x3 x4 : Value) (H : AH) : OV := f37_n5 (ls [x0, u, x2, x3, x4] 16) H
noncomputable def f37_n6 : KK := CQ (f37_b [1, 1, 0, 1, 4, 5, 1, 1]) f37_m4 f37_y3 f37_r
noncomputable def f37_m6 : KK := clr 2097122 f37_n6
noncomputable def play_Ready_k6 (x0 x2 x3 x4 : Value) (H : AH) : OV := f37_n6 (ls [x0, u, x2, x3, x4] 16) H
noncomputable def f37_x8 : KX := BX 1 f37_m6 f37_y3
noncomputable def f37_y8 : KX := clx 2097122 (f37_x8)
noncomputable def play_Ready_e3_0 (x2 x3 : Value) (H : AH) : OV := f37_x3 0 (ls [u, u, x2, x3] 17) H
theorem f37_r_d : Resp 2097147 f37_r := rf
theorem f37_n0_d : Resp 2097138 f37_n0 := rc f37_r_d kx0_d f37_r_d
theorem f37_n1_d : Resp 2097139 f37_n1 := rc f37_r_d kx0_d f37_r_d
theorem f37_n2_d : Resp 2097122 f37_n2 := rc (cd (f37_n1_d)) kx0_d f37_r_d
theorem f37_x3_d : ∀ i, Resp 2097139 (f37_x3 i) := rb (cd (f37_n1_d)) kx0_d
theorem f37_n4_d : Resp 2097122 f37_n4 := rl (cx (f37_x3_d)) f37_r_d
theorem f37_n5_d : Resp 2097122 f37_n5 := rc (cd (f37_n4_d)) (cx (f37_x3_d)) f37_r_d
theorem f37_n6_d : Resp 2097122 f37_n6 := rc (cd (f37_n4_d)) (cx (f37_x3_d)) f37_r_d
theorem f37_x8_d : ∀ i, Resp 2097122 (f37_x8 i) := rb (cd (f37_n6_d)) (cx (f37_x3_d))
theorem play_Ready_k1_eq (x2 x3 : Value) (H : AH) : play_Ready_k1 x2 x3 H =
  some (x3, H) :=
  (by kernel_rfl)
theorem play_Ready_k6_eq (x0 x2 x3 x4 : Value) (H : AH) : play_Ready_k6 x0 x2 x3 x4 H =
  (pBin .other .add x4 (vi 1)).bind fun v7 =>
  play_Ready_k4 x0 x2 x3 v7 H :=
  (by kernel_rfl)
theorem play_Ready_k5_eq (x0 x2 x3 x4 : Value) (H : AH) : play_Ready_k5 x0 x2 x3 x4 H =
  (pBin .other .add (vi 1) x4).bind fun v9 =>
  (pBin .other .rem x4 (vi 2)).bind fun v10 =>
  (pBin .other .add (vi 2) v10).bind fun v11 =>
  mkS [(0, 1), (1, 1), (2, 1), (3, 1)] [(vi 0), (vi 0), (vi 0), (vi 0)] [(0, (vi 1)), (1, x4), (2, v9), (3, v11)] fun v12 =>
  mkR 1 4 [(vi 0), (vi 0), (vi 0), (vi 0)] [(0, v12)] H fun v13 H14 =>
  (pApp 4 32 x3 v13 H14).bind fun r15 =>
  play_Ready_k6 x0 x2 r15.1 x4 r15.2 :=
  (pt rfl 0 (f37_n6_d) (bt rfl (f37_b [1, 1, 0, 1, 4, 5, 1, 0, 4]) 1 (f37_x8_d) (by kernel_rfl)))
theorem play_Ready_e3_0_eq (x2 x3 : Value) (H : AH) : play_Ready_e3_0 x2 x3 H = play_Ready_k1 x2 x3 H :=
  (by kernel_rfl)
theorem play_Ready_k4_eq (x0 x2 x3 x4 : Value) (H : AH) : play_Ready_k4 x0 x2 x3 x4 H =
  (pBin .other .lss x4 x0).bind fun v16 =>
  condK v16
  (play_Ready_k5 x0 x2 x3 x4 H)
  (play_Ready_e3_0 x2 x3 H) :=
  lt' rfl (f37_n4_d) (pt rfl 0 (f37_n5_d) (by kernel_rfl))
theorem play_Ready_k2_eq (x0 x2 x3 x4 : Value) (H : AH) : play_Ready_k2 x0 x2 x3 x4 H =
  play_Ready_k4 x0 x2 x3 x4 H :=
  (bt rfl (f37_b [1, 1, 0, 1, 4]) 0 (f37_x3_d) (li rfl (f37_b [1, 1, 0, 1, 4, 5]) (f37_n4_d) (by kernel_rfl)))
theorem play_Ready_k0_eq (x0 x2 x3 : Value) (H : AH) : play_Ready_k0 x0 x2 x3 H =
  play_Ready_k2 x0 x2 x3 (vi 0) H :=
  (pt rfl 0 (f37_n1_d) (pt rfl 0 (f37_n2_d) (by kernel_rfl)))
noncomputable def play_Ready (x0 : Value) (H : AH) : OV := cCode PP GG FF (f37_b []) (ls [x0] 20) H f37_r kx0 f37_r
theorem play_Ready_of (x0 : Value) (H : AH) {r : Value × AH} (h : (
  play_Ready_k0 x0 (.slice none 0 0) (.slice none 0 0) H) = some r) : FF n_play_Ready [x0] H = some r :=
  fo (t := play_Ready x0 H) Tryz.func37 (by kernel_rfl) (Eq.trans (pt rfl 1 (f37_n0_d) (by kernel_rfl)) h)

-- FUNCTION play_Call
noncomputable def f38_b (p : List Nat) : Code := Code.sub (bodyOf Tryz.f38) p
noncomputable def f38_r : KK := cFin PP (Tryz.f38).results.toList
noncomputable def f38_n0 : KK := CQ (f38_b [1, 1, 1]) f38_r kx0 f38_r
noncomputable def f38_m0 : KK := clr 36893488147419103217 f38_n0
noncomputable def play_Call_k0 (x1 x2 x3 : Value) (H : AH) : OV := f38_n0 (ls [u, x1, x2, x3] 61) H
noncomputable def f38_n1 : KK := CQ (f38_b [1, 1, 1, 1]) f38_r kx0 f38_r
noncomputable def f38_m1 : KK := clr 36893488147419103219 f38_n1
noncomputable def play_Call_k1 (x2 x3 : Value) (H : AH) : OV := f38_n1 (ls [u, u, x2, x3] 61) H
noncomputable def f38_n5 : KK := CQ (f38_b [1, 1, 1, 0, 1]) f38_m1 kx0 f38_r
noncomputable def f38_m5 : KK := clr 36893488147419070449 f38_n5
noncomputable def play_Call_k5 (x1 x2 x3 x15 : Value) (H : AH) : OV := f38_n5 (ls [u, x1, x2, x3, u, u, u, u, u, u, u, u, u, u, u, x15] 49) H
noncomputable def f38_x6 : KX := BX 0 f38_m1 kx0
noncomputable def f38_y6 : KX := clx 36893488147419103219 (f38_x6)
noncomputable def f38_n7 : KK := CQ (f38_b [1, 1, 1, 0, 1, 4, 1]) f38_m1 f38_y6 f38_r
noncomputable def f38_m7 : KK := clr 36893488113059332081 f38_n7
noncomputable def play_Call_k7 (x1 x2 x3 x15 x35 : Value) (H : AH) : OV := f38_n7 (ls [u, x1, x2, x3, u, u, u, u, u, u, u, u, u, u, u, x15, u, u, u, u, u, u, u, u, u, u, u, u, u, u, u, u, u, u, u, x35] 29) H
noncomputable def f38_n18 : KK := CQ (f38_b [1, 1, 1, 0, 1, 4, 1, 3, 1]) f38_m1 f38_y6 f38_r
noncomputable def f38_m18 : KK := clr 36893206672442359793 f38_n18
noncomputable def play_Call_k18 (x1 x2 x3 x15 x48 : Value) (H : AH) : OV := f38_n18 (ls [u, x1, x2, x3, u, u, u, u, u, u, u, u, u, u, u, x15, u, u, u, u, u, u, u, u, u, u, u, u, u, u, u, u, u, u, u, u, u, u, u, u, u, u, u, u, u, u, u, u, x48] 16) H
noncomputable def f38_n20 : KK := CQ (f38_b [1, 1, 1, 0, 1, 4, 1, 3, 1, 3, 1]) f38_m1 f38_y6 f38_r
noncomputable def f38_m20 : KK := clr 36891236347605385201 f38_n20
noncomputable def play_Call_k20 (x1 x2 x3 x15 x51 : Value) (H : AH) : OV := f38_n20 (ls [u, x1, x2, x3, u, u, u, u, u, u, u, u, u, u, u, x15, u, u, u, u, u, u, u, u, u, u, u, u, u, u, u, u, u, u, u, u, u, u, u, u, u, u, u, u, u, u, u, u, u, u, u, x51] 13) H
theorem f38_r_d : Resp 36893488147419103227 f38_r := rf
theorem f38_n0_d : Resp 36893488147419103217 f38_n0 := rc f38_r_d kx0_d f38_r_d
theorem f38_n1_d : Resp 36893488147419103219 f38_n1 := rc f38_r_d kx0_d f38_r_d
theorem f38_n5_d : Resp 36893488147419070449 f38_n5 := rc (cd (f38_n1_d)) kx0_d f38_r_d
theorem f38_x6_d : ∀ i, Resp 36893488147419103219 (f38_x6 i) := rb (cd (f38_n1_d)) kx0_d
theorem f38_n7_d : Resp 36893488113059332081 f38_n7 := rc (cd (f38_n1_d)) (cx (f38_x6_d)) f38_r_d
theorem f38_n18_d : Resp 36893206672442359793 f38_n18 := rc (cd (f38_n1_d)) (cx (f38_x6_d)) f38_r_d
theorem f38_n20_d : Resp 36891236347605385201 f38_n20 := rc (cd (f38_n1_d)) (cx (f38_x6_d)) f38_r_d
theorem play_Call_k1_eq (x2 x3 : Value) (H : AH) : play_Call_k1 x2 x3 H =
  (pLdN 4 x3 H).bind fun v2 =>
  (pSt 4 x2 v2 H).bind fun H3 =>
  (pLdN 4 x2 H3).bind fun v4 => some (v4, H3) :=
  (by kernel_rfl)
theorem play_Call_k20_eq (x1 x2 x3 x15 x51 : Value) (H : AH) : play_Call_k20 x1 x2 x3 x15 x51 H =
  condK x51
  (mkS [(0, 1), (1, 1), (2, 1), (3, 1)] [(vi 0), (vi 0), (vi 0), (vi 0)] [(0, (vi 4))] fun v21 =>
  (pSt 4 x3 v21 H).bind fun H22 =>
  play_Call_k1 x2 x3 H22)
  ((pBin .other .eql x15 (vi 8)).bind fun v23 =>
  condK v23
  (ld [.f 2] x1 H fun v24 =>
  (FF n_play_Mod [v24, (vi 6)] H).bind fun r25 =>
  mkS [(0, 1), (1, 1), (2, 1), (3, 1)] [(vi 0), (vi 0), (vi 0), (vi 0)] [(0, (vi 5)), (2, r25.1)] fun v26 =>
  (pSt 4 x3 v26 r25.2).bind fun H27 =>
  play_Call_k1 x2 x3 H27)
  ((pBin .other .eql x15 (vi 9)).bind fun v28 =>
  condK v28
  (mkS [(0, 1), (1, 1), (2, 1), (3, 1)] [(vi 0), (vi 0), (vi 0), (vi 0)] [(0, (vi 6))] fun v29 =>
  (pSt 4 x3 v29 H).bind fun H30 =>
  play_Call_k1 x2 x3 H30)
  (ld [.f 2] x1 H fun v31 =>
  (FF n_play_Mod [v31, (vi 9)] H).bind fun r32 =>
  (pBin .other .add (vi 1) r32.1).bind fun v33 =>
  ad [.f 3] x1 fun v34 =>
  (pLd1 v34 r32.2).bind fun v35 =>
  eqK (pLd1 v34 H) (pLd1 v34 r32.2) <|
  (FF n_play_Mod [v35, (vi 1000)] r32.2).bind fun r36 =>
  st 1 [.f 0] x3 (vi 3) r36.2 fun H37 =>
  st 1 [.f 2] x3 v33 H37 fun H38 =>
  st 1 [.f 3] x3 r36.1 H38 fun H39 =>
  ld [.f 2] x1 H39 fun v40 =>
  (FF n_play_Mod [v40, (vi 13)] H39).bind fun r41 =>
  (pBin .other .eql r41.1 (vi 12)).bind fun v42 =>
  condK v42
  (ld [.f 2] x1 r41.2 fun v43 =>
  (FF n_play_Mod [v43, (vi 65536)] r41.2).bind fun r44 =>
  (pBin .other .add (vi 1) r44.1).bind fun v45 =>
  st 1 [.f 2] x3 v45 r44.2 fun H46 =>
  play_Call_k1 x2 x3 H46)
  (play_Call_k1 x2 x3 r41.2)))) :=
  (by kernel_rfl)
theorem play_Call_k18_eq (x1 x2 x3 x15 x48 : Value) (H : AH) : play_Call_k18 x1 x2 x3 x15 x48 H =
  condK x48
  (st 1 [.f 0] x3 (vi 2) H fun H19 =>
  play_Call_k1 x2 x3 H19)
  ((pBin .other .eql x15 (vi 6)).bind fun v47 =>
  condK v47
  (play_Call_k20 x1 x2 x3 x15 v47 H)
  ((pBin .other .eql x15 (vi 7)).bind fun v48 =>
  play_Call_k20 x1 x2 x3 x15 v48 H)) :=
  (ct rfl (f38_b [1, 1, 1, 0, 1, 4, 1, 3, 1, 2]) (f38_b [1, 1, 1, 0, 1, 4, 1, 3, 1, 3]) (.tmp 48) (by kernel_rfl) (pt rfl 0 (f38_n20_d) (by kernel_rfl)))
theorem play_Call_k7_eq (x1 x2 x3 x15 x35 : Value) (H : AH) : play_Call_k7 x1 x2 x3 x15 x35 H =
  condK x35
  (ld [.f 2] x1 H fun v8 =>
  (FF n_play_Mod [v8, (vi 5)] H).bind fun r9 =>
  (pBin .other .add (vi 1) r9.1).bind fun v10 =>
  ad [.f 3] x1 fun v11 =>
  (pLd1 v11 r9.2).bind fun v12 =>
  eqK (pLd1 v11 H) (pLd1 v11 r9.2) <|
  (FF n_play_Mod [v12, (vi 3)] r9.2).bind fun r13 =>
  (pBin .other .add (vi 1) r13.1).bind fun v14 =>
  st 1 [.f 0] x3 (vi 1) r13.2 fun H15 =>
  st 1 [.f 2] x3 v10 H15 fun H16 =>
  st 1 [.f 3] x3 v14 H16 fun H17 =>
  play_Call_k1 x2 x3 H17)
  ((pBin .other .eql x15 (vi 1)).bind fun v49 =>
  play_Call_k18 x1 x2 x3 x15 v49 H) :=
  (ct rfl (f38_b [1, 1, 1, 0, 1, 4, 1, 2]) (f38_b [1, 1, 1, 0, 1, 4, 1, 3]) (.tmp 35) (by kernel_rfl) (pt rfl 0 (f38_n18_d) (by kernel_rfl)))
theorem play_Call_k5_eq (x1 x2 x3 x15 : Value) (H : AH) : play_Call_k5 x1 x2 x3 x15 H =
  (pBin .other .eql x15 (vi 0)).bind fun v50 =>
  play_Call_k7 x1 x2 x3 x15 v50 H :=
  (bt rfl (f38_b [1, 1, 1, 0, 1, 4]) 0 (f38_x6_d) (pt rfl 0 (f38_n7_d) (by kernel_rfl)))
theorem play_Call_k0_eq (x1 x2 x3 : Value) (H : AH) : play_Call_k0 x1 x2 x3 H =
  ld [.f 0] x1 H fun v51 =>
  (FF n_play_Mod [v51, (vi 10)] H).bind fun r52 =>
  play_Call_k5 x1 x2 x3 r52.1 r52.2 :=
  (pt rfl 0 (f38_n1_d) (pt rfl 0 (f38_n5_d) (by kernel_rfl)))
noncomputable def play_Call (x0 : Value) (H : AH) : OV := cCode PP GG FF (f38_b []) (ls [x0] 64) H f38_r kx0 f38_r
theorem play_Call_of (x0 : Value) (H : AH) {r : Value × AH} (h : (
  newK (Value.cells x0).toList H fun v53 H54 =>
  newK [(vi 0), (vi 0), (vi 0), (vi 0)] H54 fun v55 H56 =>
  ld [.f 1] v53 H56 fun v57 =>
  (FF n_play_Mod [v57, (vi 23)] H56).bind fun r58 =>
  (pBin .other .eql r58.1 (vi 22)).bind fun v59 =>
  condK v59
  ((pLdN 4 v53 r58.2).bind fun v60 =>
  (pSt 4 v55 v60 r58.2).bind fun H61 =>
  (pLdN 4 v55 H61).bind fun v62 => some (v62, H61))
  (ld [.f 1] v53 r58.2 fun v63 =>
  (FF n_play_Mod [v63, (vi 5)] r58.2).bind fun r64 =>
  mkS [(0, 1), (1, 1), (2, 1), (3, 1)] [(vi 0), (vi 0), (vi 0), (vi 0)] [(1, r64.1)] fun v65 =>
  newK [(vi 0), (vi 0), (vi 0), (vi 0)] r64.2 fun v66 H67 =>
  (pSt 4 v66 v65 H67).bind fun H68 =>
  play_Call_k0 v53 v55 v66 H68)) = some r) : FF n_play_Call [x0] H = some r :=
  fo (t := play_Call x0 H) Tryz.func38 (by kernel_rfl) (Eq.trans (pt rfl 2 (f38_n0_d) (by kernel_rfl)) h)

-- FUNCTION world_New
noncomputable def f39_b (p : List Nat) : Code := Code.sub (bodyOf Tryz.f39) p
noncomputable def f39_r : KK := cFin PP (Tryz.f39).results.toList
noncomputable def f39_n0 : KK := CQ (f39_b [1, 1]) f39_r kx0 f39_r
noncomputable def f39_m0 : KK := clr 18889465931478580854753 f39_n0
noncomputable def world_New_k0 (x1 x2 x3 x4 : Value) (H : AH) : OV := f39_n0 (ls [u, x1, x2, x3, x4] 69) H
noncomputable def f39_n1 : KK := CQ (f39_b [1, 1, 1]) f39_r kx0 f39_r
noncomputable def f39_m1 : KK := clr 18889465931478580854753 f39_n1
noncomputable def world_New_k1 (x1 x2 x3 x4 : Value) (H : AH) : OV := f39_n1 (ls [u, x1, x2, x3, x4] 69) H
noncomputable def f39_n2 : KK := CQ (f39_b [1, 1, 1, 1, 1, 1]) f39_r kx0 f39_r
noncomputable def f39_m2 : KK := clr 18889465931478580854641 f39_n2
noncomputable def world_New_k2 (x1 x2 x3 x7 : Value) (H : AH) : OV := f39_n2 (ls [u, x1, x2, x3, u, u, u, x7] 66) H
noncomputable def f39_n3 : KK := CQ (f39_b [1, 1, 1, 1, 1, 1, 1]) f39_r kx0 f39_r
noncomputable def f39_m3 : KK := clr 18889465931478580854643 f39_n3
noncomputable def world_New_k3 (x2 x3 x7 : Value) (H : AH) : OV := f39_n3 (ls [u, u, x2, x3, u, u, u, x7] 66) H
noncomputable def f39_n4 : KK := CQ (f39_b [1, 1, 1, 1, 1, 1, 0, 1]) f39_m3 kx0 f39_r
noncomputable def f39_m4 : KK := clr 18888961528320315359091 f39_n4
noncomputable def world_New_k4 (x2 x3 x7 x56 x57 x58 : Value) (H : AH) : OV := f39_n4 (ls [u, u, x2, x3, u, u, u, x7, u, u, u, u, u, u, u, u, u, u, u, u, u, u, u, u, u, u, u, u, u, u, u, u, u, u, u, u, u, u, u, u, u, u, u, u, u, u, u, u, u, u, u, u, u, u, u, u, x56, x57, x58] 15) H
noncomputable def f39_x5 : KX := BX 2 f39_m3 kx0
noncomputable def f39_y5 : KX := clx 18889465931478580854643 (f39_x5)
noncomputable def f39_n6 : KK := CLq (f39_b [1, 1, 1, 1, 1, 1, 0, 1, 4, 5]) f39_y5 f39_r
noncomputable def f39_m6 : KK := clr 18888961528320315359091 f39_n6
-- a loop
noncomputable def world_New_k6 (x2 x3 x7 x56 x57 x58 : Value) (H : AH) : OV := f39_n6 (ls [u, u, x2, x3, u, u, u, x7, u, u, u, u, u, u, u, u, u, u, u, u, u, u, u, u, u, u, u, u, u, u, u, u, u, u, u, u, u, u, u, u, u, u, u, u, u, u, u, u, u, u, u, u, u, u, u, u, x56, x57, x58] 15) H
noncomputable def f39_n7 : KK := CQ (f39_b [1, 1, 1, 1, 1, 1, 0, 1, 4, 5, 1, 1]) f39_m6 f39_y5 f39_r
noncomputable def f39_m7 : KK := clr 18888961528320315359091 f39_n7
noncomputable def world_New_k7 (x2 x3 x7 x56 x57 x58 : Value) (H : AH) : OV := f39_n7 (ls [u, u, x2, x3, u, u, u, x7, u, u, u, u, u, u, u, u, u, u, u, u, u, u, u, u, u, u, u, u, u, u, u, u, u, u, u, u, u, u, u, u, u, u, u, u, u, u, u, u, u, u, u, u, u, u, u, u, x56, x57, x58] 15) H
noncomputable def f39_n8 : KK := CQ (f39_b [1, 1, 1, 1, 1, 1, 0, 1, 4, 5, 1, 1, 1]) f39_m6 f39_y5 f39_r
noncomputable def f39_m8 : KK := clr 18888961528320315359091 f39_n8
noncomputable def world_New_k8 (x2 x3 x7 x56 x57 x58 : Value) (H : AH) : OV := f39_n8 (ls [u, u, x2, x3, u, u, u, x7, u, u, u, u, u, u, u, u, u, u, u, u, u, u, u, u, u, u, u, u, u, u, u, u, u, u, u, u, u, u, u, u, u, u, u, u, u, u, u, u, u, u, u, u, u, u, u, u, x56, x57, x58] 15) H
noncomputable def f39_x10 : KX := BX 3 f39_m8 f39_y5
noncomputable def f39_y10 : KX := clx 18888961528320315359091 (f39_x10)
noncomputable def world_New_e5_2 (x2 x3 x7 : Value) (H : AH) : OV := f39_x5 2 (ls [u, u, x2, x3, u, u, u, x7] 66) H
noncomputable def f39_n40 : KK := CQ (f39_b [1, 1, 0, 1]) f39_m1 kx0 f39_r
noncomputable def f39_m40 : KK := clr 18889465931478580840417 f39_n40
noncomputable def world_New_k40 (x1 x2 x3 x4 x11 x12 x13 : Value) (H : AH) : OV := f39_n40 (ls [u, x1, x2, x3, x4, u, u, u, u, u, u, x11, x12, x13] 60) H
noncomputable def f39_x41 : KX := BX 0 f39_m1 kx0
noncomputable def f39_y41 : KX := clx 18889465931478580854753 (f39_x41)
noncomputable def f39_n42 : KK := CLq (f39_b [1, 1, 0, 1, 4, 5]) f39_y41 f39_r
noncomputable def f39_m42 : KK := clr 18889465931478580840417 f39_n42
-- a loop
noncomputable def world_New_k42 (x1 x2 x3 x4 x11 x12 x13 : Value) (H : AH) : OV := f39_n42 (ls [u, x1, x2, x3, x4, u, u, u, u, u, u, x11, x12, x13] 60) H
noncomputable def f39_n43 : KK := CQ (f39_b [1, 1, 0, 1, 4, 5, 1, 1]) f39_m42 f39_y41 f39_r
noncomputable def f39_m43 : KK := clr 18889465931478580840417 f39_n43
noncomputable def world_New_k43 (x1 x2 x3 x4 x11 x12 x13 : Value) (H : AH) : OV := f39_n43 (ls [u, x1, x2, x3, x4, u, u, u, u, u, u, x11, x12, x13] 60) H
noncomputable def f39_n44 : KK := CQ (f39_b [1, 1, 0, 1, 4, 5, 1, 1, 1]) f39_m42 f39_y41 f39_r
noncomputable def f39_m44 : KK := clr 18889465931478580840417 f39_n44
noncomputable def world_New_k44 (x1 x2 x3 x4 x11 x12 x13 : Value) (H : AH) : OV := f39_n44 (ls [u, x1, x2, x3, x4, u, u, u, u, u, u, x11, x12, x13] 60) H
noncomputable def f39_x46 : KX := BX 1 f39_m44 f39_y41
noncomputable def f39_y46 : KX := clx 18889465931478580840417 (f39_x46)
noncomputable def world_New_e41_0 (x1 x2 x3 x4 : Value) (H : AH) : OV := f39_x41 0 (ls [u, x1, x2, x3, x4] 69) H
theorem f39_r_d : Resp 18889465931478580854771 f39_r := rf
theorem f39_n0_d : Resp 18889465931478580854753 f39_n0 := rc f39_r_d kx0_d f39_r_d
theorem f39_n1_d : Resp 18889465931478580854753 f39_n1 := rc f39_r_d kx0_d f39_r_d
theorem f39_n2_d : Resp 18889465931478580854641 f39_n2 := rc f39_r_d kx0_d f39_r_d
theorem f39_n3_d : Resp 18889465931478580854643 f39_n3 := rc f39_r_d kx0_d f39_r_d
theorem f39_n4_d : Resp 18888961528320315359091 f39_n4 := rc (cd (f39_n3_d)) kx0_d f39_r_d
theorem f39_x5_d : ∀ i, Resp 18889465931478580854643 (f39_x5 i) := rb (cd (f39_n3_d)) kx0_d
theorem f39_n6_d : Resp 18888961528320315359091 f39_n6 := rl (cx (f39_x5_d)) f39_r_d
theorem f39_n7_d : Resp 18888961528320315359091 f39_n7 := rc (cd (f39_n6_d)) (cx (f39_x5_d)) f39_r_d
theorem f39_n8_d : Resp 18888961528320315359091 f39_n8 := rc (cd (f39_n6_d)) (cx (f39_x5_d)) f39_r_d
theorem f39_x10_d : ∀ i, Resp 18888961528320315359091 (f39_x10 i) := rb (cd (f39_n8_d)) (cx (f39_x5_d))
theorem f39_n40_d : Resp 18889465931478580840417 f39_n40 := rc (cd (f39_n1_d)) kx0_d f39_r_d
theorem f39_x41_d : ∀ i, Resp 18889465931478580854753 (f39_x41 i) := rb (cd (f39_n1_d)) kx0_d
theorem f39_n42_d : Resp 18889465931478580840417 f39_n42 := rl (cx (f39_x41_d)) f39_r_d
theorem f39_n43_d : Resp 18889465931478580840417 f39_n43 := rc (cd (f39_n42_d)) (cx (f39_x41_d)) f39_r_d
theorem f39_n44_d : Resp 18889465931478580840417 f39_n44 := rc (cd (f39_n42_d)) (cx (f39_x41_d)) f39_r_d
theorem f39_x46_d : ∀ i, Resp 18889465931478580840417 (f39_x46 i) := rb (cd (f39_n44_d)) (cx (f39_x41_d))
theorem world_New_k3_eq (x2 x3 x7 : Value) (H : AH) : world_New_k3 x2 x3 x7 H =
  some (Value.tuple #[x7, (vi 0)], H) :=
  (by kernel_rfl)
theorem world_New_k8_eq (x2 x3 x7 x56 x57 x58 : Value) (H : AH) : world_New_k8 x2 x3 x7 x56 x57 x58 H =
  (pBin .other .add x58 (vi 1)).bind fun v9 =>
  world_New_k6 x2 x3 x7 x56 x57 v9 H :=
  (by kernel_rfl)
theorem world_New_k7_eq (x2 x3 x7 x56 x57 x58 : Value) (H : AH) : world_New_k7 x2 x3 x7 x56 x57 x58 H =
  ld [.i 1 x58] x56 H fun v11 =>
  ad [.n, .f 1] x7 fun v12 =>
  (pLd1 v12 H).bind fun v13 =>
  (FF n_slices_Cloneapi_Callapi_Call [v11] H).bind fun r14 =>
  eqK (pLd1 v12 r14.2) (pLd1 v12 H) <|
  st 1 [.i 3 x58, .f 0] v13 r14.1 r14.2 fun H15 =>
  world_New_k8 x2 x3 x7 x56 x57 x58 H15 :=
  (pt rfl 0 (f39_n8_d) (bt rfl (f39_b [1, 1, 1, 1, 1, 1, 0, 1, 4, 5, 1, 1, 0, 4]) 3 (f39_x10_d) (by kernel_rfl)))
theorem world_New_e5_2_eq (x2 x3 x7 : Value) (H : AH) : world_New_e5_2 x2 x3 x7 H = world_New_k3 x2 x3 x7 H :=
  (by kernel_rfl)
theorem world_New_k6_eq (x2 x3 x7 x56 x57 x58 : Value) (H : AH) : world_New_k6 x2 x3 x7 x56 x57 x58 H =
  (pBin .other .lss x58 x57).bind fun v16 =>
  condK v16
  (world_New_k7 x2 x3 x7 x56 x57 x58 H)
  (world_New_e5_2 x2 x3 x7 H) :=
  lt' rfl (f39_n6_d) (pt rfl 1 (f39_n7_d) (by kernel_rfl))
theorem world_New_k4_eq (x2 x3 x7 x56 x57 x58 : Value) (H : AH) : world_New_k4 x2 x3 x7 x56 x57 x58 H =
  world_New_k6 x2 x3 x7 x56 x57 x58 H :=
  (bt rfl (f39_b [1, 1, 1, 1, 1, 1, 0, 1, 4]) 2 (f39_x5_d) (li rfl (f39_b [1, 1, 1, 1, 1, 1, 0, 1, 4, 5]) (f39_n6_d) (by kernel_rfl)))
theorem world_New_k2_eq (x1 x2 x3 x7 : Value) (H : AH) : world_New_k2 x1 x2 x3 x7 H =
  ld [.f 5] x1 H fun v17 =>
  lenK v17 fun v18 =>
  world_New_k4 x2 x3 x7 v17 v18 (vi 0) H :=
  (pt rfl 0 (f39_n3_d) (pt rfl 0 (f39_n4_d) (by kernel_rfl)))
theorem world_New_k1_eq (x1 x2 x3 x4 : Value) (H : AH) : world_New_k1 x1 x2 x3 x4 H =
  ldN 5 [.f 0] x1 H fun v19 =>
  (FF n_model_Right [v19] H).bind fun r20 =>
  (pUn .not r20.1).bind fun v21 =>
  gld v21 false  [.f 5] x1 r20.2 fun v22 =>
  (onK (yv v21) false (lenK v22 some) (some undef)).bind fun v23 =>
  gld v21 false  [.f 0, .f 2] x1 r20.2 fun v24 =>
  (gB v21 false (pBin .other .gtr v23 v24)).bind fun v25 =>
  (pPick v21 (vb true) v25).bind fun v26 =>
  (gV v26 false x4).bind fun v27 =>
  (gB v26 false (pBin .other .gtr v27 (vi 60))).bind fun v28 =>
  (pPick v26 (vb true) v28).bind fun v29 =>
  condK v29
  (some (Value.tuple #[(.pointer none), (vi 1)], r20.2))
  (ld [.f 0, .f 2] x1 r20.2 fun v30 =>
  (pMake [(.slice none 0 0), (.slice none 0 0), Value.nilFunc] 3 56 v30 v30 r20.2).bind fun r31 =>
  mkS [(0, 1), (1, 1), (2, 1), (3, 1)] [(.pointer none), (.slice none 0 0), (vi 0), (vi 0)] [(1, r31.1), (3, x4)] fun v32 =>
  newK (Value.cells v32).toList r31.2 fun v33 H34 =>
  ldN 5 [.f 0] x1 H34 fun v35 =>
  (FF n_parts_New [v35] H34).bind fun r36 =>
  (pExtract r36.1 0).bind fun v37 =>
  (pExtract r36.1 1).bind fun v38 =>
  st 1 [.n, .f 0] v33 v37 r36.2 fun H39 =>
  world_New_k2 x1 x2 x3 v33 H39) :=
  (pt rfl 2 (f39_n2_d) (by kernel_rfl))
theorem world_New_k44_eq (x1 x2 x3 x4 x11 x12 x13 : Value) (H : AH) : world_New_k44 x1 x2 x3 x4 x11 x12 x13 H =
  (pBin .other .add x13 (vi 1)).bind fun v45 =>
  world_New_k42 x1 x2 x3 x4 x11 x12 v45 H :=
  (by kernel_rfl)
theorem world_New_k43_eq (x1 x2 x3 x4 x11 x12 x13 : Value) (H : AH) : world_New_k43 x1 x2 x3 x4 x11 x12 x13 H =
  ld [.i 1 x13] x11 H fun v47 =>
  lenK v47 fun v48 =>
  (pBin .other .add x4 v48).bind fun v49 =>
  world_New_k44 x1 x2 x3 v49 x11 x12 x13 H :=
  (pt rfl 0 (f39_n44_d) (bt rfl (f39_b [1, 1, 0, 1, 4, 5, 1, 1, 0, 4]) 1 (f39_x46_d) (by kernel_rfl)))
theorem world_New_e41_0_eq (x1 x2 x3 x4 : Value) (H : AH) : world_New_e41_0 x1 x2 x3 x4 H = world_New_k1 x1 x2 x3 x4 H :=
  (by kernel_rfl)
theorem world_New_k42_eq (x1 x2 x3 x4 x11 x12 x13 : Value) (H : AH) : world_New_k42 x1 x2 x3 x4 x11 x12 x13 H =
  (pBin .other .lss x13 x12).bind fun v50 =>
  condK v50
  (world_New_k43 x1 x2 x3 x4 x11 x12 x13 H)
  (world_New_e41_0 x1 x2 x3 x4 H) :=
  lt' rfl (f39_n42_d) (pt rfl 1 (f39_n43_d) (by kernel_rfl))
theorem world_New_k40_eq (x1 x2 x3 x4 x11 x12 x13 : Value) (H : AH) : world_New_k40 x1 x2 x3 x4 x11 x12 x13 H =
  world_New_k42 x1 x2 x3 x4 x11 x12 x13 H :=
  (bt rfl (f39_b [1, 1, 0, 1, 4]) 0 (f39_x41_d) (li rfl (f39_b [1, 1, 0, 1, 4, 5]) (f39_n42_d) (by kernel_rfl)))
theorem world_New_k0_eq (x1 x2 x3 x4 : Value) (H : AH) : world_New_k0 x1 x2 x3 x4 H =
  ld [.f 5] x1 H fun v51 =>
  lenK v51 fun v52 =>
  world_New_k40 x1 x2 x3 x4 v51 v52 (vi 0) H :=
  (pt rfl 0 (f39_n1_d) (pt rfl 0 (f39_n40_d) (by kernel_rfl)))
noncomputable def world_New (x0 : Value) (H : AH) : OV := cCode PP GG FF (f39_b []) (ls [x0] 73) H f39_r kx0 f39_r
theorem world_New_of (x0 : Value) (H : AH) {r : Value × AH} (h : (
  newK (Value.cells x0).toList H fun v53 H54 =>
  world_New_k0 v53 (.pointer none) (vi 0) (vi 0) H54) = some r) : FF n_world_New [x0] H = some r :=
  fo (t := world_New x0 H) Tryz.func39 (by kernel_rfl) (Eq.trans (pt rfl 1 (f39_n0_d) (by kernel_rfl)) h)

-- FUNCTION r09_Right
theorem r09_Right_of (x0 : Value) (H : AH) {r : Value × AH} (h : (
  newK (Value.cells x0).toList H fun v0 H1 =>
  ld [.f 0] v0 H1 fun v2 =>
  (pBin .other .geq v2 (vi 1)).bind fun v3 =>
  gld v3 true  [.f 0] v0 H1 fun v4 =>
  (gB v3 true (pBin .other .leq v4 (vi 4))).bind fun v5 =>
  (pPick v3 v5 (vb false)).bind fun v6 =>
  gld v6 true  [.f 1] v0 H1 fun v7 =>
  (gB v6 true (pBin .other .geq v7 (vi 1))).bind fun v8 =>
  (pPick v6 v8 (vb false)).bind fun v9 =>
  gld v9 true  [.f 1] v0 H1 fun v10 =>
  (gB v9 true (pBin .other .leq v10 (vi 4))).bind fun v11 =>
  (pPick v9 v11 (vb false)).bind fun v12 =>
  gld v12 true  [.f 2] v0 H1 fun v13 =>
  (gB v12 true (pBin .other .geq v13 (vi 1))).bind fun v14 =>
  (pPick v12 v14 (vb false)).bind fun v15 =>
  gld v15 true  [.f 2] v0 H1 fun v16 =>
  (gB v15 true (pBin .other .leq v16 (vi 6))).bind fun v17 =>
  (pPick v15 v17 (vb false)).bind fun v18 =>
  gld v18 true  [.f 3] v0 H1 fun v19 =>
  (gB v18 true (pBin .other .geq v19 (vi 0))).bind fun v20 =>
  (pPick v18 v20 (vb false)).bind fun v21 =>
  gld v21 true  [.f 3] v0 H1 fun v22 =>
  (gB v21 true (pBin .other .leq v22 (vi 40))).bind fun v23 =>
  (pPick v21 v23 (vb false)).bind fun v24 =>
  gld v24 true  [.f 4] v0 H1 fun v25 =>
  (gB v24 true (pBin .other .geq v25 (vw 1))).bind fun v26 =>
  (pPick v24 v26 (vb false)).bind fun v27 =>
  gld v27 true  [.f 4] v0 H1 fun v28 =>
  (gB v27 true (pBin .other .leq v28 (vw 4611686018427387904))).bind fun v29 =>
  (pPick v27 v29 (vb false)).bind fun v30 =>
  some (v30, H1)) = some r) : FF n_r09_Right [x0] H = some r :=
  fo Tryz.func40 (by kernel_rfl) h

-- FUNCTION r16_Calls
noncomputable def f41_b (p : List Nat) : Code := Code.sub (bodyOf Tryz.f41) p
noncomputable def f41_r : KK := cFin PP (Tryz.f41).results.toList
noncomputable def f41_n0 : KK := CQ (f41_b [1, 1]) f41_r kx0 f41_r
noncomputable def f41_m0 : KK := clr 2097137 f41_n0
noncomputable def r16_Calls_k0 (x1 x2 x3 : Value) (H : AH) : OV := f41_n0 (ls [u, x1, x2, x3] 17) H
noncomputable def f41_n1 : KK := CQ (f41_b [1, 1, 1]) f41_r kx0 f41_r
noncomputable def f41_m1 : KK := clr 2097139 f41_n1
noncomputable def r16_Calls_k1 (x2 x3 : Value) (H : AH) : OV := f41_n1 (ls [u, u, x2, x3] 17) H
noncomputable def f41_n2 : KK := CQ (f41_b [1, 1, 0, 1]) f41_m1 kx0 f41_r
noncomputable def f41_m2 : KK := clr 2097121 f41_n2
noncomputable def r16_Calls_k2 (x1 x2 x3 x4 : Value) (H : AH) : OV := f41_n2 (ls [u, x1, x2, x3, x4] 16) H
noncomputable def f41_x3 : KX := BX 0 f41_m1 kx0
noncomputable def f41_y3 : KX := clx 2097139 (f41_x3)
noncomputable def f41_n4 : KK := CLq (f41_b [1, 1, 0, 1, 4, 5]) f41_y3 f41_r
noncomputable def f41_m4 : KK := clr 2097121 f41_n4
-- a loop
noncomputable def r16_Calls_k4 (x1 x2 x3 x4 : Value) (H : AH) : OV := f41_n4 (ls [u, x1, x2, x3, x4] 16) H
noncomputable def f41_n5 : KK := CQ (f41_b [1, 1, 0, 1, 4, 5, 1]) f41_m4 f41_y3 f41_r
noncomputable def f41_m5 : KK := clr 2097121 f41_n5
noncomputable def r16_Calls_k5 (x1 x2 x3 x4 : Value) (H : AH) : OV := f41_n5 (ls [u, x1, x2, x3, x4] 16) H
noncomputable def f41_n6 : KK := CQ (f41_b [1, 1, 0, 1, 4, 5, 1, 1]) f41_m4 f41_y3 f41_r
noncomputable def f41_m6 : KK := clr 2097121 f41_n6
noncomputable def r16_Calls_k6 (x1 x2 x3 x4 : Value) (H : AH) : OV := f41_n6 (ls [u, x1, x2, x3, x4] 16) H
noncomputable def f41_x8 : KX := BX 1 f41_m6 f41_y3
noncomputable def f41_y8 : KX := clx 2097121 (f41_x8)
noncomputable def r16_Calls_e3_0 (x2 x3 : Value) (H : AH) : OV := f41_x3 0 (ls [u, u, x2, x3] 17) H
theorem f41_r_d : Resp 2097147 f41_r := rf
theorem f41_n0_d : Resp 2097137 f41_n0 := rc f41_r_d kx0_d f41_r_d
theorem f41_n1_d : Resp 2097139 f41_n1 := rc f41_r_d kx0_d f41_r_d
theorem f41_n2_d : Resp 2097121 f41_n2 := rc (cd (f41_n1_d)) kx0_d f41_r_d
theorem f41_x3_d : ∀ i, Resp 2097139 (f41_x3 i) := rb (cd (f41_n1_d)) kx0_d
theorem f41_n4_d : Resp 2097121 f41_n4 := rl (cx (f41_x3_d)) f41_r_d
theorem f41_n5_d : Resp 2097121 f41_n5 := rc (cd (f41_n4_d)) (cx (f41_x3_d)) f41_r_d
theorem f41_n6_d : Resp 2097121 f41_n6 := rc (cd (f41_n4_d)) (cx (f41_x3_d)) f41_r_d
theorem f41_x8_d : ∀ i, Resp 2097121 (f41_x8 i) := rb (cd (f41_n6_d)) (cx (f41_x3_d))
theorem r16_Calls_k1_eq (x2 x3 : Value) (H : AH) : r16_Calls_k1 x2 x3 H =
  some (x3, H) :=
  (by kernel_rfl)
theorem r16_Calls_k6_eq (x1 x2 x3 x4 : Value) (H : AH) : r16_Calls_k6 x1 x2 x3 x4 H =
  (pBin .other .add x4 (vi 1)).bind fun v7 =>
  r16_Calls_k4 x1 x2 x3 v7 H :=
  (by kernel_rfl)
theorem r16_Calls_k5_eq (x1 x2 x3 x4 : Value) (H : AH) : r16_Calls_k5 x1 x2 x3 x4 H =
  ld [.f 5] x1 H fun v9 =>
  ld [.i 1 x4] v9 H fun v10 =>
  lenK v10 fun v11 =>
  (pBin .other .add x3 v11).bind fun v12 =>
  r16_Calls_k6 x1 x2 v12 x4 H :=
  (pt rfl 0 (f41_n6_d) (bt rfl (f41_b [1, 1, 0, 1, 4, 5, 1, 0, 4]) 1 (f41_x8_d) (by kernel_rfl)))
theorem r16_Calls_e3_0_eq (x2 x3 : Value) (H : AH) : r16_Calls_e3_0 x2 x3 H = r16_Calls_k1 x2 x3 H :=
  (by kernel_rfl)
theorem r16_Calls_k4_eq (x1 x2 x3 x4 : Value) (H : AH) : r16_Calls_k4 x1 x2 x3 x4 H =
  ld [.f 5] x1 H fun v13 =>
  lenK v13 fun v14 =>
  (pBin .other .lss x4 v14).bind fun v15 =>
  condK v15
  (r16_Calls_k5 x1 x2 x3 x4 H)
  (r16_Calls_e3_0 x2 x3 H) :=
  lt' rfl (f41_n4_d) (pt rfl 0 (f41_n5_d) (by kernel_rfl))
theorem r16_Calls_k2_eq (x1 x2 x3 x4 : Value) (H : AH) : r16_Calls_k2 x1 x2 x3 x4 H =
  r16_Calls_k4 x1 x2 x3 x4 H :=
  (bt rfl (f41_b [1, 1, 0, 1, 4]) 0 (f41_x3_d) (li rfl (f41_b [1, 1, 0, 1, 4, 5]) (f41_n4_d) (by kernel_rfl)))
theorem r16_Calls_k0_eq (x1 x2 x3 : Value) (H : AH) : r16_Calls_k0 x1 x2 x3 H =
  r16_Calls_k2 x1 x2 x3 (vi 0) H :=
  (pt rfl 0 (f41_n1_d) (pt rfl 0 (f41_n2_d) (by kernel_rfl)))
noncomputable def r16_Calls (x0 : Value) (H : AH) : OV := cCode PP GG FF (f41_b []) (ls [x0] 20) H f41_r kx0 f41_r
theorem r16_Calls_of (x0 : Value) (H : AH) {r : Value × AH} (h : (
  newK (Value.cells x0).toList H fun v16 H17 =>
  r16_Calls_k0 v16 (vi 0) (vi 0) H17) = some r) : FF n_r16_Calls [x0] H = some r :=
  fo (t := r16_Calls x0 H) Tryz.func41 (by kernel_rfl) (Eq.trans (pt rfl 1 (f41_n0_d) (by kernel_rfl)) h)

-- FUNCTION model_within
theorem model_within_of (x0 x1 x2 : Value) (H : AH) {r : Value × AH} (h : (
  (pBin .other .geq x0 x1).bind fun v0 =>
  (gV v0 true x0).bind fun v1 =>
  (gV v0 true x2).bind fun v2 =>
  (gB v0 true (pBin .other .leq v1 v2)).bind fun v3 =>
  (pPick v0 v3 (vb false)).bind fun v4 =>
  some (v4, H)) = some r) : FF n_model_within [x0, x1, x2] H = some r :=
  fo Tryz.func55 (by kernel_rfl) h

-- FUNCTION parts_New
theorem parts_New_of (x0 : Value) (H : AH) {r : Value × AH} (h : (
  newK (Value.cells x0).toList H fun v0 H1 =>
  (pLdN 5 v0 H1).bind fun v2 =>
  (FF n_model_Right [v2] H1).bind fun r3 =>
  (pUn .not r3.1).bind fun v4 =>
  condK v4
  (some (Value.tuple #[(.pointer none), (vi 1)], r3.2))
  ((FF n_mem_New [] r3.2).bind fun r5 =>
  ld [.f 0] v0 r5.2 fun v6 =>
  (FF n_inbox_New [r5.1, v6] r5.2).bind fun r7 =>
  ad [.f 0] v0 fun v8 =>
  (pLd1 v8 r7.2).bind fun v9 =>
  eqK (pLd1 v8 r5.2) (pLd1 v8 r7.2) <|
  ad [.f 1] v0 fun v10 =>
  (pLd1 v10 r7.2).bind fun v11 =>
  eqK (pLd1 v10 r5.2) (pLd1 v10 r7.2) <|
  (FF n_table_New [r5.1, v9, v11] r7.2).bind fun r12 =>
  ad [.f 2] v0 fun v13 =>
  (pLd1 v13 r12.2).bind fun v14 =>
  eqK (pLd1 v13 r5.2) (pLd1 v13 r12.2) <|
  eqK (pLd1 v13 r7.2) (pLd1 v13 r12.2) <|
  (FF n_post_New [r5.1, v14] r12.2).bind fun r15 =>
  (pLdN 5 v0 r15.2).bind fun v16 =>
  eqK (pLdN 5 v0 r5.2) (pLdN 5 v0 r15.2) <|
  eqK (pLdN 5 v0 r7.2) (pLdN 5 v0 r15.2) <|
  eqK (pLdN 5 v0 r12.2) (pLdN 5 v0 r15.2) <|
  (FF n_core_New [v16] r15.2).bind fun r17 =>
  (pLdN 5 v0 r17.2).bind fun v18 =>
  eqK (pLdN 5 v0 r5.2) (pLdN 5 v0 r17.2) <|
  eqK (pLdN 5 v0 r7.2) (pLdN 5 v0 r17.2) <|
  eqK (pLdN 5 v0 r12.2) (pLdN 5 v0 r17.2) <|
  eqK (pLdN 5 v0 r15.2) (pLdN 5 v0 r17.2) <|
  mapK r17.2 fun v19 H20 =>
  mkS [(0, 1), (1, 1), (2, 1), (3, 1), (4, 1), (5, 5), (10, 1), (11, 1), (12, 1)] [(.pointer none), (.pointer none), (.pointer none), (.pointer none), (.pointer none), (vi 0), (vi 0), (vi 0), (vi 0), (vw 0), (.slice none 0 0), (.map none), (.slice none 0 0)] [(0, r5.1), (1, r7.1), (2, r12.1), (3, r15.1), (4, r17.1), (5, v18), (7, v19)] fun v21 =>
  newK (Value.cells v21).toList H20 fun v22 H23 =>
  some (Value.tuple #[v22, (vi 0)], H23))) = some r) : FF n_parts_New [x0] H = some r :=
  fo Tryz.func61 (by kernel_rfl) h

-- FUNCTION slices_Cloneapi_Callapi_Call
theorem slices_Cloneapi_Callapi_Call_of (x0 : Value) (H : AH) {r : Value × AH} (h : (
  (pBin .slice .eql x0 (.slice none 0 0)).bind fun v0 =>
  condK v0
  (some ((.slice none 0 0), H))
  (mkR 0 4 [(vi 0), (vi 0), (vi 0), (vi 0)] [] H fun v1 H2 =>
  (pApp 4 32 v1 x0 H2).bind fun r3 =>
  some (r3.1, r3.2))) = some r) : FF n_slices_Cloneapi_Callapi_Call [x0] H = some r :=
  fo Tryz.func62 (by kernel_rfl) h

-- FUNCTION mem_New
theorem mem_New_of (H : AH) {r : Value × AH} (h : (
  mapK H fun v0 H1 =>
  mkS [(0, 1), (1, 1)] [(.map none), (.slice none 0 0)] [(0, v0)] fun v2 =>
  newK (Value.cells v2).toList H1 fun v3 H4 =>
  some (v3, H4)) = some r) : FF n_mem_New [] H = some r :=
  fo Tryz.func73 (by kernel_rfl) h

-- FUNCTION inbox_New
theorem inbox_New_of (x0 x1 : Value) (H : AH) {r : Value × AH} (h : (
  (pMax [x1, (vi 1)]).bind fun v0 =>
  (pMin [v0, (vi 4)]).bind fun v1 =>
  mapK H fun v2 H3 =>
  mkS [(0, 1), (1, 1), (2, 1), (3, 1), (4, 1)] [(.pointer none), (vi 0), (.map none), Value.nilFunc, Value.nilFunc] [(0, x0), (1, v1), (2, v2), (3, (.func (.func n_inbox_site_at) #[(vi 9)] #[])), (4, (.func (.func n_inbox_site_at) #[(vi 14)] #[]))] fun v4 =>
  newK (Value.cells v4).toList H3 fun v5 H6 =>
  some (v5, H6)) = some r) : FF n_inbox_New [x0, x1] H = some r :=
  fo Tryz.func74 (by kernel_rfl) h

-- FUNCTION table_New
theorem table_New_of (x0 x1 x2 : Value) (H : AH) {r : Value × AH} (h : (
  (pMax [x1, (vi 1)]).bind fun v0 =>
  (pMin [v0, (vi 4)]).bind fun v1 =>
  (pMax [x2, (vi 1)]).bind fun v2 =>
  (pMin [v2, (vi 4)]).bind fun v3 =>
  mkS [(0, 1), (1, 1), (2, 1)] [(.pointer none), (vi 0), (vi 0)] [(0, x0), (1, v1), (2, v3)] fun v4 =>
  newK (Value.cells v4).toList H fun v5 H6 =>
  some (v5, H6)) = some r) : FF n_table_New [x0, x1, x2] H = some r :=
  fo Tryz.func75 (by kernel_rfl) h

-- FUNCTION post_New
theorem post_New_of (x0 x1 : Value) (H : AH) {r : Value × AH} (h : (
  (pMax [x1, (vi 1)]).bind fun v0 =>
  (pMin [v0, (vi 6)]).bind fun v1 =>
  mapK H fun v2 H3 =>
  mapK H3 fun v4 H5 =>
  mkS [(0, 1), (1, 1), (2, 1), (3, 1)] [(.pointer none), (vi 0), (.map none), (.map none)] [(0, x0), (1, v1), (2, v2), (3, v4)] fun v6 =>
  newK (Value.cells v6).toList H5 fun v7 H8 =>
  some (v7, H8)) = some r) : FF n_post_New [x0, x1] H = some r :=
  fo Tryz.func76 (by kernel_rfl) h

-- FUNCTION core_New
theorem core_New_of (x0 : Value) (H : AH) {r : Value × AH} (h : (
  newK (Value.cells x0).toList H fun v0 H1 =>
  ld [.f 0] v0 H1 fun v2 =>
  ld [.f 3] v0 H1 fun v3 =>
  (FF n_queue_New [v2, v3] H1).bind fun r4 =>
  mapK r4.2 fun v5 H6 =>
  mapK H6 fun v7 H8 =>
  mkS [(0, 1), (1, 1), (2, 1), (3, 1), (4, 1), (5, 1), (6, 1), (7, 1), (8, 3)] [Value.nilFunc, Value.nilFunc, Value.nilFunc, (vw 0), (vw 0), (vi 0), (.map none), (.map none), (vb false), (vi 0), (vw 0)] [(0, (.func (.func n_queue_Queue_Push) #[r4.1] #[])), (1, (.func (.func n_queue_Queue_Pop) #[r4.1] #[])), (2, (.func (.func n_queue_Queue_All) #[r4.1] #[])), (6, v5), (7, v7)] fun v9 =>
  newK (Value.cells v9).toList H8 fun v10 H11 =>
  some (v10, H11)) = some r) : FF n_core_New [x0] H = some r :=
  fo Tryz.func77 (by kernel_rfl) h

-- FUNCTION queue_New
noncomputable def f94_b (p : List Nat) : Code := Code.sub (bodyOf Tryz.f94) p
noncomputable def f94_r : KK := cFin PP (Tryz.f94).results.toList
noncomputable def f94_n0 : KK := CQ (f94_b [1, 1, 1]) f94_r kx0 f94_r
noncomputable def f94_m0 : KK := clr 1073741709 f94_n0
noncomputable def queue_New_k0 (x1 x4 x5 x6 : Value) (H : AH) : OV := f94_n0 (ls [u, x1, u, u, x4, x5, x6] 23) H
noncomputable def f94_n1 : KK := CQ (f94_b [1, 1, 1, 1]) f94_r kx0 f94_r
noncomputable def f94_m1 : KK := clr 1073741743 f94_n1
noncomputable def queue_New_k1 (x4 x6 : Value) (H : AH) : OV := f94_n1 (ls [u, u, u, u, x4, u, x6] 23) H
noncomputable def f94_n2 : KK := CQ (f94_b [1, 1, 1, 0, 1]) f94_m1 kx0 f94_r
noncomputable def f94_m2 : KK := clr 1073692589 f94_n2
noncomputable def queue_New_k2 (x1 x4 x6 x14 x15 : Value) (H : AH) : OV := f94_n2 (ls [u, x1, u, u, x4, u, x6, u, u, u, u, u, u, u, x14, x15] 14) H
noncomputable def f94_x3 : KX := BX 0 f94_m1 kx0
noncomputable def f94_y3 : KX := clx 1073741743 (f94_x3)
noncomputable def f94_n4 : KK := CLq (f94_b [1, 1, 1, 0, 1, 4, 5]) f94_y3 f94_r
noncomputable def f94_m4 : KK := clr 1073692589 f94_n4
-- a loop
noncomputable def queue_New_k4 (x1 x4 x6 x14 x15 : Value) (H : AH) : OV := f94_n4 (ls [u, x1, u, u, x4, u, x6, u, u, u, u, u, u, u, x14, x15] 14) H
noncomputable def f94_n5 : KK := CQ (f94_b [1, 1, 1, 0, 1, 4, 5, 1, 1]) f94_m4 f94_y3 f94_r
noncomputable def f94_m5 : KK := clr 1073692589 f94_n5
noncomputable def queue_New_k5 (x1 x4 x6 x14 x15 : Value) (H : AH) : OV := f94_n5 (ls [u, x1, u, u, x4, u, x6, u, u, u, u, u, u, u, x14, x15] 14) H
noncomputable def f94_n6 : KK := CQ (f94_b [1, 1, 1, 0, 1, 4, 5, 1, 1, 1]) f94_m4 f94_y3 f94_r
noncomputable def f94_m6 : KK := clr 1073692589 f94_n6
noncomputable def queue_New_k6 (x1 x4 x6 x14 x15 : Value) (H : AH) : OV := f94_n6 (ls [u, x1, u, u, x4, u, x6, u, u, u, u, u, u, u, x14, x15] 14) H
noncomputable def f94_x8 : KX := BX 1 f94_m6 f94_y3
noncomputable def f94_y8 : KX := clx 1073692589 (f94_x8)
noncomputable def queue_New_e3_0 (x4 x6 : Value) (H : AH) : OV := f94_x3 0 (ls [u, u, u, u, x4, u, x6] 23) H
theorem f94_r_d : Resp 1073741807 f94_r := rf
theorem f94_n0_d : Resp 1073741709 f94_n0 := rc f94_r_d kx0_d f94_r_d
theorem f94_n1_d : Resp 1073741743 f94_n1 := rc f94_r_d kx0_d f94_r_d
theorem f94_n2_d : Resp 1073692589 f94_n2 := rc (cd (f94_n1_d)) kx0_d f94_r_d
theorem f94_x3_d : ∀ i, Resp 1073741743 (f94_x3 i) := rb (cd (f94_n1_d)) kx0_d
theorem f94_n4_d : Resp 1073692589 f94_n4 := rl (cx (f94_x3_d)) f94_r_d
theorem f94_n5_d : Resp 1073692589 f94_n5 := rc (cd (f94_n4_d)) (cx (f94_x3_d)) f94_r_d
theorem f94_n6_d : Resp 1073692589 f94_n6 := rc (cd (f94_n4_d)) (cx (f94_x3_d)) f94_r_d
theorem f94_x8_d : ∀ i, Resp 1073692589 (f94_x8 i) := rb (cd (f94_n6_d)) (cx (f94_x3_d))
theorem queue_New_k1_eq (x4 x6 : Value) (H : AH) : queue_New_k1 x4 x6 H =
  some (x6, H) :=
  (by kernel_rfl)
theorem queue_New_k6_eq (x1 x4 x6 x14 x15 : Value) (H : AH) : queue_New_k6 x1 x4 x6 x14 x15 H =
  (pBin .other .add x15 (vi 1)).bind fun v7 =>
  queue_New_k4 x1 x4 x6 x14 v7 H :=
  (by kernel_rfl)
theorem queue_New_k5_eq (x1 x4 x6 x14 x15 : Value) (H : AH) : queue_New_k5 x1 x4 x6 x14 x15 H =
  ad [.n, .f 0] x6 fun v9 =>
  (pLd1 v9 H).bind fun v10 =>
  (FF n_shard_New [x1] H).bind fun r11 =>
  eqK (pLd1 v9 r11.2) (pLd1 v9 H) <|
  mkR 1 1 [(.pointer none)] [(0, r11.1)] r11.2 fun v12 H13 =>
  (pApp 1 8 v10 v12 H13).bind fun r14 =>
  st 1 [.n, .f 0] x6 r14.1 r14.2 fun H15 =>
  queue_New_k6 x1 x4 x6 x14 x15 H15 :=
  (pt rfl 0 (f94_n6_d) (bt rfl (f94_b [1, 1, 1, 0, 1, 4, 5, 1, 1, 0, 4]) 1 (f94_x8_d) (by kernel_rfl)))
theorem queue_New_e3_0_eq (x4 x6 : Value) (H : AH) : queue_New_e3_0 x4 x6 H = queue_New_k1 x4 x6 H :=
  (by kernel_rfl)
theorem queue_New_k4_eq (x1 x4 x6 x14 x15 : Value) (H : AH) : queue_New_k4 x1 x4 x6 x14 x15 H =
  (pBin .other .lss x15 x14).bind fun v16 =>
  condK v16
  (queue_New_k5 x1 x4 x6 x14 x15 H)
  (queue_New_e3_0 x4 x6 H) :=
  lt' rfl (f94_n4_d) (pt rfl 1 (f94_n5_d) (by kernel_rfl))
theorem queue_New_k2_eq (x1 x4 x6 x14 x15 : Value) (H : AH) : queue_New_k2 x1 x4 x6 x14 x15 H =
  queue_New_k4 x1 x4 x6 x14 x15 H :=
  (bt rfl (f94_b [1, 1, 1, 0, 1, 4]) 0 (f94_x3_d) (li rfl (f94_b [1, 1, 1, 0, 1, 4, 5]) (f94_n4_d) (by kernel_rfl)))
theorem queue_New_k0_eq (x1 x4 x5 x6 : Value) (H : AH) : queue_New_k0 x1 x4 x5 x6 H =
  queue_New_k2 x1 x4 x6 x5 (vi 0) H :=
  (pt rfl 0 (f94_n1_d) (pt rfl 0 (f94_n2_d) (by kernel_rfl)))
noncomputable def queue_New (x0 x1 : Value) (H : AH) : OV := cCode PP GG FF (f94_b []) (ls [x0, x1] 28) H f94_r kx0 f94_r
theorem queue_New_of (x0 x1 : Value) (H : AH) {r : Value × AH} (h : (
  (pMax [x0, (vi 1)]).bind fun v17 =>
  (pMin [v17, (vi 16)]).bind fun v18 =>
  (FF n_tour_New [v18] H).bind fun r19 =>
  mkS [(0, 1), (1, 1)] [(.slice none 0 0), (.pointer none)] [(1, r19.1)] fun v20 =>
  newK (Value.cells v20).toList r19.2 fun v21 H22 =>
  queue_New_k0 x1 (.pointer none) v18 v21 H22) = some r) : FF n_queue_New [x0, x1] H = some r :=
  fo (t := queue_New x0 x1 H) Tryz.func94 (by kernel_rfl) (Eq.trans (pt rfl 2 (f94_n0_d) (by kernel_rfl)) h)

-- FUNCTION tour_New
noncomputable def f117_b (p : List Nat) : Code := Code.sub (bodyOf Tryz.f117) p
noncomputable def f117_r : KK := cFin PP (Tryz.f117).results.toList
noncomputable def f117_n0 : KK := CQ (f117_b [1, 1, 1]) f117_r kx0 f117_r
noncomputable def f117_m0 : KK := clr 4398046511090 f117_n0
noncomputable def tour_New_k0 (x0 x2 x3 : Value) (H : AH) : OV := f117_n0 (ls [x0, u, x2, x3] 38) H
noncomputable def f117_n1 : KK := CQ (f117_b [1, 1, 1, 1]) f117_r kx0 f117_r
noncomputable def f117_m1 : KK := clr 4398046511091 f117_n1
noncomputable def tour_New_k1 (x2 x3 : Value) (H : AH) : OV := f117_n1 (ls [u, u, x2, x3] 38) H
noncomputable def f117_n2 : KK := CQ (f117_b [1, 1, 1, 1, 1]) f117_r kx0 f117_r
noncomputable def f117_m2 : KK := clr 4398046511091 f117_n2
noncomputable def tour_New_k2 (x2 x3 : Value) (H : AH) : OV := f117_n2 (ls [u, u, x2, x3] 38) H
noncomputable def f117_n3 : KK := CQ (f117_b [1, 1, 1, 1, 0, 1]) f117_m2 kx0 f117_r
noncomputable def f117_m3 : KK := clr 4397241204723 f117_n3
noncomputable def tour_New_k3 (x2 x3 x28 x29 : Value) (H : AH) : OV := f117_n3 (ls [u, u, x2, x3, u, u, u, u, u, u, u, u, u, u, u, u, u, u, u, u, u, u, u, u, u, u, u, u, x28, x29] 12) H
noncomputable def f117_x4 : KX := BX 2 f117_m2 kx0
noncomputable def f117_y4 : KX := clx 4398046511091 (f117_x4)
noncomputable def f117_n5 : KK := CLq (f117_b [1, 1, 1, 1, 0, 1, 4, 5]) f117_y4 f117_r
noncomputable def f117_m5 : KK := clr 4397241204723 f117_n5
-- a loop
noncomputable def tour_New_k5 (x2 x3 x28 x29 : Value) (H : AH) : OV := f117_n5 (ls [u, u, x2, x3, u, u, u, u, u, u, u, u, u, u, u, u, u, u, u, u, u, u, u, u, u, u, u, u, x28, x29] 12) H
noncomputable def f117_n6 : KK := CQ (f117_b [1, 1, 1, 1, 0, 1, 4, 5, 1, 1]) f117_m5 f117_y4 f117_r
noncomputable def f117_m6 : KK := clr 4397241204723 f117_n6
noncomputable def tour_New_k6 (x2 x3 x28 x29 : Value) (H : AH) : OV := f117_n6 (ls [u, u, x2, x3, u, u, u, u, u, u, u, u, u, u, u, u, u, u, u, u, u, u, u, u, u, u, u, u, x28, x29] 12) H
noncomputable def f117_n7 : KK := CQ (f117_b [1, 1, 1, 1, 0, 1, 4, 5, 1, 1, 1]) f117_m5 f117_y4 f117_r
noncomputable def f117_m7 : KK := clr 4397241204723 f117_n7
noncomputable def tour_New_k7 (x2 x3 x28 x29 : Value) (H : AH) : OV := f117_n7 (ls [u, u, x2, x3, u, u, u, u, u, u, u, u, u, u, u, u, u, u, u, u, u, u, u, u, u, u, u, u, x28, x29] 12) H
noncomputable def f117_x9 : KX := BX 3 f117_m7 f117_y4
noncomputable def f117_y9 : KX := clx 4397241204723 (f117_x9)
noncomputable def tour_New_e4_2 (x2 x3 : Value) (H : AH) : OV := f117_x4 2 (ls [u, u, x2, x3] 38) H
noncomputable def f117_x18 : KX := BX 0 f117_m1 kx0
noncomputable def f117_y18 : KX := clx 4398046511091 (f117_x18)
noncomputable def f117_n19 : KK := CLq (f117_b [1, 1, 1, 0, 4, 5]) f117_y18 f117_r
noncomputable def f117_m19 : KK := clr 4398046511090 f117_n19
-- a loop
noncomputable def tour_New_k19 (x0 x2 x3 : Value) (H : AH) : OV := f117_n19 (ls [x0, u, x2, x3] 38) H
noncomputable def f117_n20 : KK := CQ (f117_b [1, 1, 1, 0, 4, 5, 1]) f117_m19 f117_y18 f117_r
noncomputable def f117_m20 : KK := clr 4398046511090 f117_n20
noncomputable def tour_New_k20 (x0 x2 x3 : Value) (H : AH) : OV := f117_n20 (ls [x0, u, x2, x3] 38) H
noncomputable def f117_x21 : KX := BX 1 f117_m19 f117_y18
noncomputable def f117_y21 : KX := clx 4398046511090 (f117_x21)
noncomputable def tour_New_e18_0 (x2 x3 : Value) (H : AH) : OV := f117_x18 0 (ls [u, u, x2, x3] 38) H
theorem f117_r_d : Resp 4398046511099 f117_r := rf
theorem f117_n0_d : Resp 4398046511090 f117_n0 := rc f117_r_d kx0_d f117_r_d
theorem f117_n1_d : Resp 4398046511091 f117_n1 := rc f117_r_d kx0_d f117_r_d
theorem f117_n2_d : Resp 4398046511091 f117_n2 := rc f117_r_d kx0_d f117_r_d
theorem f117_n3_d : Resp 4397241204723 f117_n3 := rc (cd (f117_n2_d)) kx0_d f117_r_d
theorem f117_x4_d : ∀ i, Resp 4398046511091 (f117_x4 i) := rb (cd (f117_n2_d)) kx0_d
theorem f117_n5_d : Resp 4397241204723 f117_n5 := rl (cx (f117_x4_d)) f117_r_d
theorem f117_n6_d : Resp 4397241204723 f117_n6 := rc (cd (f117_n5_d)) (cx (f117_x4_d)) f117_r_d
theorem f117_n7_d : Resp 4397241204723 f117_n7 := rc (cd (f117_n5_d)) (cx (f117_x4_d)) f117_r_d
theorem f117_x9_d : ∀ i, Resp 4397241204723 (f117_x9 i) := rb (cd (f117_n7_d)) (cx (f117_x4_d))
theorem f117_x18_d : ∀ i, Resp 4398046511091 (f117_x18 i) := rb (cd (f117_n1_d)) kx0_d
theorem f117_n19_d : Resp 4398046511090 f117_n19 := rl (cx (f117_x18_d)) f117_r_d
theorem f117_n20_d : Resp 4398046511090 f117_n20 := rc (cd (f117_n19_d)) (cx (f117_x18_d)) f117_r_d
theorem f117_x21_d : ∀ i, Resp 4398046511090 (f117_x21 i) := rb (cd (f117_n19_d)) (cx (f117_x18_d))
theorem tour_New_k2_eq (x2 x3 : Value) (H : AH) : tour_New_k2 x2 x3 H =
  some (x3, H) :=
  (by kernel_rfl)
theorem tour_New_k7_eq (x2 x3 x28 x29 : Value) (H : AH) : tour_New_k7 x2 x3 x28 x29 H =
  (pBin .other .add x29 (vi 1)).bind fun v8 =>
  tour_New_k5 x2 x3 x28 v8 H :=
  (by kernel_rfl)
theorem tour_New_k6_eq (x2 x3 x28 x29 : Value) (H : AH) : tour_New_k6 x2 x3 x28 x29 H =
  ld [.n, .f 2] x3 H fun v10 =>
  mkR 1 1 [(vi 0)] [(0, (vi (-1)))] H fun v11 H12 =>
  (pApp 1 8 v10 v11 H12).bind fun r13 =>
  st 1 [.n, .f 2] x3 r13.1 r13.2 fun H14 =>
  tour_New_k7 x2 x3 x28 x29 H14 :=
  (pt rfl 0 (f117_n7_d) (bt rfl (f117_b [1, 1, 1, 1, 0, 1, 4, 5, 1, 1, 0, 4]) 3 (f117_x9_d) (by kernel_rfl)))
theorem tour_New_e4_2_eq (x2 x3 : Value) (H : AH) : tour_New_e4_2 x2 x3 H = tour_New_k2 x2 x3 H :=
  (by kernel_rfl)
theorem tour_New_k5_eq (x2 x3 x28 x29 : Value) (H : AH) : tour_New_k5 x2 x3 x28 x29 H =
  (pBin .other .lss x29 x28).bind fun v15 =>
  condK v15
  (tour_New_k6 x2 x3 x28 x29 H)
  (tour_New_e4_2 x2 x3 H) :=
  lt' rfl (f117_n5_d) (pt rfl 1 (f117_n6_d) (by kernel_rfl))
theorem tour_New_k3_eq (x2 x3 x28 x29 : Value) (H : AH) : tour_New_k3 x2 x3 x28 x29 H =
  tour_New_k5 x2 x3 x28 x29 H :=
  (bt rfl (f117_b [1, 1, 1, 1, 0, 1, 4]) 2 (f117_x4_d) (li rfl (f117_b [1, 1, 1, 1, 0, 1, 4, 5]) (f117_n5_d) (by kernel_rfl)))
theorem tour_New_k1_eq (x2 x3 : Value) (H : AH) : tour_New_k1 x2 x3 H =
  ld [.n, .f 1] x3 H fun v16 =>
  (pBin .other .mul (vi 2) v16).bind fun v17 =>
  tour_New_k3 x2 x3 v17 (vi 0) H :=
  (pt rfl 0 (f117_n2_d) (pt rfl 0 (f117_n3_d) (by kernel_rfl)))
theorem tour_New_k20_eq (x0 x2 x3 : Value) (H : AH) : tour_New_k20 x0 x2 x3 H =
  ld [.n, .f 1] x3 H fun v22 =>
  (pBin .other .mul v22 (vi 2)).bind fun v23 =>
  st 1 [.n, .f 1] x3 v23 H fun H24 =>
  tour_New_k19 x0 x2 x3 H24 :=
  (bt rfl (f117_b [1, 1, 1, 0, 4, 5, 1, 4]) 1 (f117_x21_d) (by kernel_rfl))
theorem tour_New_e18_0_eq (x2 x3 : Value) (H : AH) : tour_New_e18_0 x2 x3 H = tour_New_k1 x2 x3 H :=
  (by kernel_rfl)
theorem tour_New_k19_eq (x0 x2 x3 : Value) (H : AH) : tour_New_k19 x0 x2 x3 H =
  ld [.n, .f 1] x3 H fun v25 =>
  (pBin .other .lss v25 x0).bind fun v26 =>
  condK v26
  (tour_New_k20 x0 x2 x3 H)
  (tour_New_e18_0 x2 x3 H) :=
  lt' rfl (f117_n19_d) (pt rfl 0 (f117_n20_d) (by kernel_rfl))
theorem tour_New_k0_eq (x0 x2 x3 : Value) (H : AH) : tour_New_k0 x0 x2 x3 H =
  tour_New_k19 x0 x2 x3 H :=
  (pt rfl 0 (f117_n1_d) (bt rfl (f117_b [1, 1, 1, 0, 4]) 0 (f117_x18_d) (li rfl (f117_b [1, 1, 1, 0, 4, 5]) (f117_n19_d) (by kernel_rfl))))
noncomputable def tour_New (x0 : Value) (H : AH) : OV := cCode PP GG FF (f117_b []) (ls [x0] 41) H f117_r kx0 f117_r
theorem tour_New_of (x0 : Value) (H : AH) {r : Value × AH} (h : (
  (pMax [x0, (vi 1)]).bind fun v27 =>
  (pMin [v27, (vi 16)]).bind fun v28 =>
  (pMake [(vw 0), (vi 0), (vb false)] 3 24 v28 v28 H).bind fun r29 =>
  mkS [(0, 1), (1, 1), (2, 1)] [(.slice none 0 0), (vi 0), (.slice none 0 0)] [(0, r29.1), (1, (vi 1))] fun v30 =>
  newK (Value.cells v30).toList r29.2 fun v31 H32 =>
  tour_New_k0 v28 (.pointer none) v31 H32) = some r) : FF n_tour_New [x0] H = some r :=
  fo (t := tour_New x0 H) Tryz.func117 (by kernel_rfl) (Eq.trans (pt rfl 2 (f117_n0_d) (by kernel_rfl)) h)

-- FUNCTION shard_New
theorem shard_New_of (x0 : Value) (H : AH) {r : Value × AH} (h : (
  (FF n_wheel_New [x0] H).bind fun r0 =>
  (FF n_heap_New [] r0.2).bind fun r1 =>
  mkS [(0, 1), (1, 1), (2, 1)] [(.pointer none), (.pointer none), (vi 0)] [(0, r0.1), (1, r1.1), (2, x0)] fun v2 =>
  newK (Value.cells v2).toList r1.2 fun v3 H4 =>
  some (v3, H4)) = some r) : FF n_shard_New [x0] H = some r :=
  fo Tryz.func118 (by kernel_rfl) h

-- FUNCTION wheel_New
theorem wheel_New_of (x0 : Value) (H : AH) {r : Value × AH} (h : (
  (FF n_wheel_held [x0] H).bind fun r0 =>
  mapK r0.2 fun v1 H2 =>
  mkS [(0, 1), (1, 1), (2, 192), (194, 3), (197, 1)] [(vw 0), (vi 0), (.slice none 0 0), (.slice none 0 0), (.slice none 0 0), (.slice none 0 0), (.slice none 0 0), (.slice none 0 0), (.slice none 0 0), (.slice none 0 0), (.slice none 0 0), (.slice none 0 0), (.slice none 0 0), (.slice none 0 0), (.slice none 0 0), (.slice none 0 0), (.slice none 0 0), (.slice none 0 0), (.slice none 0 0), (.slice none 0 0), (.slice none 0 0), (.slice none 0 0), (.slice none 0 0), (.slice none 0 0), (.slice none 0 0), (.slice none 0 0), (.slice none 0 0), (.slice none 0 0), (.slice none 0 0), (.slice none 0 0), (.slice none 0 0), (.slice none 0 0), (.slice none 0 0), (.slice none 0 0), (.slice none 0 0), (.slice none 0 0), (.slice none 0 0), (.slice none 0 0), (.slice none 0 0), (.slice none 0 0), (.slice none 0 0), (.slice none 0 0), (.slice none 0 0), (.slice none 0 0), (.slice none 0 0), (.slice none 0 0), (.slice none 0 0), (.slice none 0 0), (.slice none 0 0), (.slice none 0 0), (.slice none 0 0), (.slice none 0 0), (.slice none 0 0), (.slice none 0 0), (.slice none 0 0), (.slice none 0 0), (.slice none 0 0), (.slice none 0 0), (.slice none 0 0), (.slice none 0 0), (.slice none 0 0), (.slice none 0 0), (.slice none 0 0), (.slice none 0 0), (.slice none 0 0), (.slice none 0 0), (.slice none 0 0), (.slice none 0 0), (.slice none 0 0), (.slice none 0 0), (.slice none 0 0), (.slice none 0 0), (.slice none 0 0), (.slice none 0 0), (.slice none 0 0), (.slice none 0 0), (.slice none 0 0), (.slice none 0 0), (.slice none 0 0), (.slice none 0 0), (.slice none 0 0), (.slice none 0 0), (.slice none 0 0), (.slice none 0 0), (.slice none 0 0), (.slice none 0 0), (.slice none 0 0), (.slice none 0 0), (.slice none 0 0), (.slice none 0 0), (.slice none 0 0), (.slice none 0 0), (.slice none 0 0), (.slice none 0 0), (.slice none 0 0), (.slice none 0 0), (.slice none 0 0), (.slice none 0 0), (.slice none 0 0), (.slice none 0 0), (.slice none 0 0), (.slice none 0 0), (.slice none 0 0), (.slice none 0 0), (.slice none 0 0), (.slice none 0 0), (.slice none 0 0), (.slice none 0 0), (.slice none 0 0), (.slice none 0 0), (.slice none 0 0), (.slice none 0 0), (.slice none 0 0), (.slice none 0 0), (.slice none 0 0), (.slice none 0 0), (.slice none 0 0), (.slice none 0 0), (.slice none 0 0), (.slice none 0 0), (.slice none 0 0), (.slice none 0 0), (.slice none 0 0), (.slice none 0 0), (.slice none 0 0), (.slice none 0 0), (.slice none 0 0), (.slice none 0 0), (.slice none 0 0), (.slice none 0 0), (.slice none 0 0), (.slice none 0 0), (.slice none 0 0), (.slice none 0 0), (.slice none 0 0), (.slice none 0 0), (.slice none 0 0), (.slice none 0 0), (.slice none 0 0), (.slice none 0 0), (.slice none 0 0), (.slice none 0 0), (.slice none 0 0), (.slice none 0 0), (.slice none 0 0), (.slice none 0 0), (.slice none 0 0), (.slice none 0 0), (.slice none 0 0), (.slice none 0 0), (.slice none 0 0), (.slice none 0 0), (.slice none 0 0), (.slice none 0 0), (.slice none 0 0), (.slice none 0 0), (.slice none 0 0), (.slice none 0 0), (.slice none 0 0), (.slice none 0 0), (.slice none 0 0), (.slice none 0 0), (.slice none 0 0), (.slice none 0 0), (.slice none 0 0), (.slice none 0 0), (.slice none 0 0), (.slice none 0 0), (.slice none 0 0), (.slice none 0 0), (.slice none 0 0), (.slice none 0 0), (.slice none 0 0), (.slice none 0 0), (.slice none 0 0), (.slice none 0 0), (.slice none 0 0), (.slice none 0 0), (.slice none 0 0), (.slice none 0 0), (.slice none 0 0), (.slice none 0 0), (.slice none 0 0), (.slice none 0 0), (.slice none 0 0), (.slice none 0 0), (.slice none 0 0), (.slice none 0 0), (.slice none 0 0), (.slice none 0 0), (.slice none 0 0), (.slice none 0 0), (.slice none 0 0), (.slice none 0 0), (vw 0), (vw 0), (vw 0), (.map none)] [(1, r0.1), (4, v1)] fun v3 =>
  newK (Value.cells v3).toList H2 fun v4 H5 =>
  some (v4, H5)) = some r) : FF n_wheel_New [x0] H = some r :=
  fo Tryz.func150 (by kernel_rfl) h

-- FUNCTION heap_New
theorem heap_New_of (H : AH) {r : Value × AH} (h : (
  mapK H fun v0 H1 =>
  mkS [(0, 1), (1, 1)] [(.slice none 0 0), (.map none)] [(1, v0)] fun v2 =>
  newK (Value.cells v2).toList H1 fun v3 H4 =>
  some (v3, H4)) = some r) : FF n_heap_New [] H = some r :=
  fo Tryz.func151 (by kernel_rfl) h

-- FUNCTION wheel_held
theorem wheel_held_of (x0 : Value) (H : AH) {r : Value × AH} (h : (
  (pMax [x0, (vi 0)]).bind fun v0 =>
  (pMin [v0, (vi 40)]).bind fun v1 =>
  some (v1, H)) = some r) : FF n_wheel_held [x0] H = some r :=
  fo Tryz.func181 (by kernel_rfl) h

-- FUNCTION help_Bytes
theorem help_Bytes_of (x0 x1 : Value) (H : AH) {r : Value × AH} (h : (
  (pBytesS x0 H).bind fun v0 =>
  (pBytesS x1 H).bind fun v1 =>
  (pBin .other .eql v0 v1).bind fun v2 =>
  some (Value.iface 1 v2, H)) = some r) : FB n_help_Bytes [x0, x1] H = some r :=
  fob Tryz.func15 (by kernel_rfl) h

-- FUNCTION strconv_Itoa
theorem strconv_Itoa_of (x0 : Value) (H : AH) {r : Value × AH} (h : (
  (FB n_internal_strconv_Itoa [x0] H).bind fun r0 =>
  outK r0.1 (fun v1 =>
  some (Value.iface 1 v1, r0.2)) (fun p2 =>
  some (Value.iface 0 p2, r0.2))) = some r) : FB n_strconv_Itoa [x0] H = some r :=
  fob Tryz.func46 (by kernel_rfl) h

-- FUNCTION internal_strconv_Itoa
theorem internal_strconv_Itoa_of (x0 : Value) (H : AH) {r : Value × AH} (h : (
  (FB n_internal_strconv_FormatInt [x0, (vi 10)] H).bind fun r0 =>
  outK r0.1 (fun v1 =>
  some (Value.iface 1 v1, r0.2)) (fun p2 =>
  some (Value.iface 0 p2, r0.2))) = some r) : FB n_internal_strconv_Itoa [x0] H = some r :=
  fob Tryz.func63 (by kernel_rfl) h

-- FUNCTION strconv_FormatUint
theorem strconv_FormatUint_of (x0 x1 : Value) (H : AH) {r : Value × AH} (h : (
  (FB n_internal_strconv_FormatUint [x0, x1] H).bind fun r0 =>
  outK r0.1 (fun v1 =>
  some (Value.iface 1 v1, r0.2)) (fun p2 =>
  some (Value.iface 0 p2, r0.2))) = some r) : FB n_strconv_FormatUint [x0, x1] H = some r :=
  fob Tryz.func67 (by kernel_rfl) h

end Go.Proofs.YthagelbepgcolaaGreatDoor.Gst
