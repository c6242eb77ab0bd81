/- THE FUNCTIONS OF THE PROGRAM AS PLAIN LEAN FUNCTIONS: printed by a program of this work (XPr), each checked by the kernel against the program's text. -/
import Derived.Test.YtbjelopcelompaaGreatDoorKa
namespace Go.Proofs.YtbjelopcelompaaGreatDoor.Gst
open Go Go.RowKit
set_option maxRecDepth 100000
set_option linter.unusedVariables false
set_option maxHeartbeats 1000000
-- FUNCTION r27_Even
noncomputable def f19_b (p : List Nat) : Code := Code.sub (bodyOf Tryz.f19) p
noncomputable def f19_r : KK := cFin PP (Tryz.f19).results.toList
noncomputable def f19_n0 : KK := CQ (f19_b [1, 1, 1]) f19_r kx0 f19_r
noncomputable def f19_m0 : KK := clr 9007199254740920 f19_n0
noncomputable def r27_Even_k0 (x0 x1 x2 x6 : Value) (H : AH) : OV := f19_n0 (ls [x0, x1, x2, u, u, u, x6] 46) H
noncomputable def f19_n1 : KK := CQ (f19_b [1, 1, 1, 1]) f19_r kx0 f19_r
noncomputable def f19_m1 : KK := clr 9007199254740927 f19_n1
noncomputable def r27_Even_k1 (x6 : Value) (H : AH) : OV := f19_n1 (ls [u, u, u, u, u, u, x6] 46) H
noncomputable def f19_n2 : KK := CQ (f19_b [1, 1, 1, 0, 1]) f19_m1 kx0 f19_r
noncomputable def f19_m2 : KK := clr 9007199254740792 f19_n2
noncomputable def r27_Even_k2 (x0 x1 x2 x6 x7 : Value) (H : AH) : OV := f19_n2 (ls [x0, x1, x2, u, u, u, x6, x7] 45) H
noncomputable def f19_x3 : KX := BX 0 f19_m1 kx0
noncomputable def f19_y3 : KX := clx 9007199254740927 f19_x3
noncomputable def f19_n4 : KK := CLq (f19_b [1, 1, 1, 0, 1, 4, 5]) f19_y3 f19_r
noncomputable def f19_m4 : KK := clr 9007199254740792 f19_n4
-- a loop
noncomputable def r27_Even_k4 (x0 x1 x2 x6 x7 : Value) (H : AH) : OV := f19_n4 (ls [x0, x1, x2, u, u, u, x6, x7] 45) H
noncomputable def f19_n5 : KK := CQ (f19_b [1, 1, 1, 0, 1, 4, 5, 1]) f19_m4 f19_y3 f19_r
noncomputable def f19_m5 : KK := clr 9007199254740792 f19_n5
noncomputable def r27_Even_k5 (x0 x1 x2 x6 x7 : Value) (H : AH) : OV := f19_n5 (ls [x0, x1, x2, u, u, u, x6, x7] 45) H
noncomputable def f19_n6 : KK := CQ (f19_b [1, 1, 1, 0, 1, 4, 5, 1, 1]) f19_m4 f19_y3 f19_r
noncomputable def f19_m6 : KK := clr 9007199254740792 f19_n6
noncomputable def r27_Even_k6 (x0 x1 x2 x6 x7 : Value) (H : AH) : OV := f19_n6 (ls [x0, x1, x2, u, u, u, x6, x7] 45) H
noncomputable def f19_x8 : KX := BX 1 f19_m6 f19_y3
noncomputable def f19_y8 : KX := clx 9007199254740792 f19_x8
noncomputable def f19_n9 : KK := CQ (f19_b [1, 1, 1, 0, 1, 4, 5, 1, 0, 4, 1]) f19_m6 f19_y8 f19_r
noncomputable def f19_m9 : KK := clr 9007199254740536 f19_n9
noncomputable def r27_Even_k9 (x0 x1 x2 x6 x7 x8 : Value) (H : AH) : OV := f19_n9 (ls [x0, x1, x2, u, u, u, x6, x7, x8] 44) H
noncomputable def f19_x10 : KX := BX 2 f19_m6 f19_y8
noncomputable def f19_y10 : KX := clx 9007199254740792 f19_x10
noncomputable def f19_n11 : KK := CLq (f19_b [1, 1, 1, 0, 1, 4, 5, 1, 0, 4, 1, 4, 5]) f19_y10 f19_r
noncomputable def f19_m11 : KK := clr 9007199254740536 f19_n11
-- a loop
noncomputable def r27_Even_k11 (x0 x1 x2 x6 x7 x8 : Value) (H : AH) : OV := f19_n11 (ls [x0, x1, x2, u, u, u, x6, x7, x8] 44) H
noncomputable def f19_n12 : KK := CQ (f19_b [1, 1, 1, 0, 1, 4, 5, 1, 0, 4, 1, 4, 5, 1]) f19_m11 f19_y10 f19_r
noncomputable def f19_m12 : KK := clr 9007199254740536 f19_n12
noncomputable def r27_Even_k12 (x0 x1 x2 x6 x7 x8 : Value) (H : AH) : OV := f19_n12 (ls [x0, x1, x2, u, u, u, x6, x7, x8] 44) H
noncomputable def f19_n13 : KK := CQ (f19_b [1, 1, 1, 0, 1, 4, 5, 1, 0, 4, 1, 4, 5, 1, 1]) f19_m11 f19_y10 f19_r
noncomputable def f19_m13 : KK := clr 9007199254740536 f19_n13
noncomputable def r27_Even_k13 (x0 x1 x2 x6 x7 x8 : Value) (H : AH) : OV := f19_n13 (ls [x0, x1, x2, u, u, u, x6, x7, x8] 44) H
noncomputable def f19_x15 : KX := BX 3 f19_m13 f19_y10
noncomputable def f19_y15 : KX := clx 9007199254740536 f19_x15
noncomputable def f19_n16 : KK := CQ (f19_b [1, 1, 1, 0, 1, 4, 5, 1, 0, 4, 1, 4, 5, 1, 0, 4, 1]) f19_m13 f19_y15 f19_r
noncomputable def f19_m16 : KK := clr 9007199254740024 f19_n16
noncomputable def r27_Even_k16 (x0 x1 x2 x6 x7 x8 x9 : Value) (H : AH) : OV := f19_n16 (ls [x0, x1, x2, u, u, u, x6, x7, x8, x9] 43) H
noncomputable def f19_n17 : KK := CQ (f19_b [1, 1, 1, 0, 1, 4, 5, 1, 0, 4, 1, 4, 5, 1, 0, 4, 1, 1]) f19_m13 f19_y15 f19_r
noncomputable def f19_m17 : KK := clr 9007199254740024 f19_n17
noncomputable def r27_Even_k17 (x0 x1 x2 x6 x7 x8 x9 : Value) (H : AH) : OV := f19_n17 (ls [x0, x1, x2, u, u, u, x6, x7, x8, x9] 43) H
noncomputable def f19_n19 : KK := CQ (f19_b [1, 1, 1, 0, 1, 4, 5, 1, 0, 4, 1, 4, 5, 1, 0, 4, 1, 0, 1]) f19_m17 f19_y15 f19_r
noncomputable def f19_m19 : KK := clr 9007199254739000 f19_n19
noncomputable def r27_Even_k19 (x0 x1 x2 x6 x7 x8 x9 x10 : Value) (H : AH) : OV := f19_n19 (ls [x0, x1, x2, u, u, u, x6, x7, x8, x9, x10] 42) H
noncomputable def f19_x20 : KX := BX 4 f19_m17 f19_y15
noncomputable def f19_y20 : KX := clx 9007199254740024 f19_x20
noncomputable def f19_n21 : KK := CLq (f19_b [1, 1, 1, 0, 1, 4, 5, 1, 0, 4, 1, 4, 5, 1, 0, 4, 1, 0, 1, 4, 5]) f19_y20 f19_r
noncomputable def f19_m21 : KK := clr 9007199254739000 f19_n21
-- a loop
noncomputable def r27_Even_k21 (x0 x1 x2 x6 x7 x8 x9 x10 : Value) (H : AH) : OV := f19_n21 (ls [x0, x1, x2, u, u, u, x6, x7, x8, x9, x10] 42) H
noncomputable def f19_n22 : KK := CQ (f19_b [1, 1, 1, 0, 1, 4, 5, 1, 0, 4, 1, 4, 5, 1, 0, 4, 1, 0, 1, 4, 5, 1]) f19_m21 f19_y20 f19_r
noncomputable def f19_m22 : KK := clr 9007199254739000 f19_n22
noncomputable def r27_Even_k22 (x0 x1 x2 x6 x7 x8 x9 x10 : Value) (H : AH) : OV := f19_n22 (ls [x0, x1, x2, u, u, u, x6, x7, x8, x9, x10] 42) H
noncomputable def f19_n23 : KK := CQ (f19_b [1, 1, 1, 0, 1, 4, 5, 1, 0, 4, 1, 4, 5, 1, 0, 4, 1, 0, 1, 4, 5, 1, 1]) f19_m21 f19_y20 f19_r
noncomputable def f19_m23 : KK := clr 9007199254739000 f19_n23
noncomputable def r27_Even_k23 (x0 x1 x2 x6 x7 x8 x9 x10 : Value) (H : AH) : OV := f19_n23 (ls [x0, x1, x2, u, u, u, x6, x7, x8, x9, x10] 42) H
noncomputable def f19_x25 : KX := BX 5 f19_m23 f19_y20
noncomputable def f19_y25 : KX := clx 9007199254739000 f19_x25
noncomputable def r27_Even_e20_4 (x0 x1 x2 x6 x7 x8 x9 : Value) (H : AH) : OV := f19_x20 4 (ls [x0, x1, x2, u, u, u, x6, x7, x8, x9] 43) H
noncomputable def r27_Even_e10_2 (x0 x1 x2 x6 x7 : Value) (H : AH) : OV := f19_x10 2 (ls [x0, x1, x2, u, u, u, x6, x7] 45) H
noncomputable def r27_Even_e3_0 (x6 : Value) (H : AH) : OV := f19_x3 0 (ls [u, u, u, u, u, u, x6] 46) H
theorem f19_r_d : Resp 9007199254740927 f19_r := rf
theorem f19_n0_d : Resp 9007199254740920 f19_n0 := rc f19_r_d kx0_d f19_r_d
theorem f19_n1_d : Resp 9007199254740927 f19_n1 := rc f19_r_d kx0_d f19_r_d
theorem f19_n2_d : Resp 9007199254740792 f19_n2 := rc (cd f19_n1_d) kx0_d f19_r_d
theorem f19_x3_d : ∀ i, Resp 9007199254740927 (f19_x3 i) := rb (cd f19_n1_d) kx0_d
theorem f19_n4_d : Resp 9007199254740792 f19_n4 := rl (cx f19_x3_d) f19_r_d
theorem f19_n5_d : Resp 9007199254740792 f19_n5 := rc (cd f19_n4_d) (cx f19_x3_d) f19_r_d
theorem f19_n6_d : Resp 9007199254740792 f19_n6 := rc (cd f19_n4_d) (cx f19_x3_d) f19_r_d
theorem f19_x8_d : ∀ i, Resp 9007199254740792 (f19_x8 i) := rb (cd f19_n6_d) (cx f19_x3_d)
theorem f19_n9_d : Resp 9007199254740536 f19_n9 := rc (cd f19_n6_d) (cx f19_x8_d) f19_r_d
theorem f19_x10_d : ∀ i, Resp 9007199254740792 (f19_x10 i) := rb (cd f19_n6_d) (cx f19_x8_d)
theorem f19_n11_d : Resp 9007199254740536 f19_n11 := rl (cx f19_x10_d) f19_r_d
theorem f19_n12_d : Resp 9007199254740536 f19_n12 := rc (cd f19_n11_d) (cx f19_x10_d) f19_r_d
theorem f19_n13_d : Resp 9007199254740536 f19_n13 := rc (cd f19_n11_d) (cx f19_x10_d) f19_r_d
theorem f19_x15_d : ∀ i, Resp 9007199254740536 (f19_x15 i) := rb (cd f19_n13_d) (cx f19_x10_d)
theorem f19_n16_d : Resp 9007199254740024 f19_n16 := rc (cd f19_n13_d) (cx f19_x15_d) f19_r_d
theorem f19_n17_d : Resp 9007199254740024 f19_n17 := rc (cd f19_n13_d) (cx f19_x15_d) f19_r_d
theorem f19_n19_d : Resp 9007199254739000 f19_n19 := rc (cd f19_n17_d) (cx f19_x15_d) f19_r_d
theorem f19_x20_d : ∀ i, Resp 9007199254740024 (f19_x20 i) := rb (cd f19_n17_d) (cx f19_x15_d)
theorem f19_n21_d : Resp 9007199254739000 f19_n21 := rl (cx f19_x20_d) f19_r_d
theorem f19_n22_d : Resp 9007199254739000 f19_n22 := rc (cd f19_n21_d) (cx f19_x20_d) f19_r_d
theorem f19_n23_d : Resp 9007199254739000 f19_n23 := rc (cd f19_n21_d) (cx f19_x20_d) f19_r_d
theorem f19_x25_d : ∀ i, Resp 9007199254739000 (f19_x25 i) := rb (cd f19_n23_d) (cx f19_x20_d)
theorem r27_Even_k1_eq (x6 : Value) (H : AH) : r27_Even_k1 x6 H =
  some ((vb true), H) :=
  (by kernel_rfl)
theorem r27_Even_k6_eq (x0 x1 x2 x6 x7 : Value) (H : AH) : r27_Even_k6 x0 x1 x2 x6 x7 H =
  (pBin .other .add x7 (vi 1)).bind fun v7 =>
  r27_Even_k4 x0 x1 x2 x6 v7 H :=
  (by kernel_rfl)
theorem r27_Even_k13_eq (x0 x1 x2 x6 x7 x8 : Value) (H : AH) : r27_Even_k13 x0 x1 x2 x6 x7 x8 H =
  (pBin .other .add x8 (vi 1)).bind fun v14 =>
  r27_Even_k11 x0 x1 x2 x6 x7 v14 H :=
  (by kernel_rfl)
theorem r27_Even_k17_eq (x0 x1 x2 x6 x7 x8 x9 : Value) (H : AH) : r27_Even_k17 x0 x1 x2 x6 x7 x8 x9 H =
  (pUn .not x9).bind fun v18 =>
  condK v18
  (some ((vb false), H))
  (r27_Even_k13 x0 x1 x2 x6 x7 x8 H) :=
  (by kernel_rfl)
theorem r27_Even_k23_eq (x0 x1 x2 x6 x7 x8 x9 x10 : Value) (H : AH) : r27_Even_k23 x0 x1 x2 x6 x7 x8 x9 x10 H =
  (pBin .other .add x10 (vi 1)).bind fun v24 =>
  r27_Even_k21 x0 x1 x2 x6 x7 x8 x9 v24 H :=
  (by kernel_rfl)
theorem r27_Even_k22_eq (x0 x1 x2 x6 x7 x8 x9 x10 : Value) (H : AH) : r27_Even_k22 x0 x1 x2 x6 x7 x8 x9 x10 H =
  (gV x9 false x0).bind fun v26 =>
  (gV x9 false x10).bind fun v27 =>
  gld x9 false  [.i 1 v27] v26 H fun v28 =>
  (gV x9 false x8).bind fun v29 =>
  (gB x9 false (pBin .other .eql v28 v29)).bind fun v30 =>
  (pPick x9 (vb true) v30).bind fun v31 =>
  r27_Even_k23 x0 x1 x2 x6 x7 x8 v31 x10 H :=
  (pt rfl 0 f19_n23_d (bt rfl (f19_b [1, 1, 1, 0, 1, 4, 5, 1, 0, 4, 1, 4, 5, 1, 0, 4, 1, 0, 1, 4, 5, 1, 0, 4]) 5 f19_x25_d (by kernel_rfl)))
theorem r27_Even_e20_4_eq (x0 x1 x2 x6 x7 x8 x9 : Value) (H : AH) : r27_Even_e20_4 x0 x1 x2 x6 x7 x8 x9 H = r27_Even_k17 x0 x1 x2 x6 x7 x8 x9 H :=
  (by kernel_rfl)
theorem r27_Even_k21_eq (x0 x1 x2 x6 x7 x8 x9 x10 : Value) (H : AH) : r27_Even_k21 x0 x1 x2 x6 x7 x8 x9 x10 H =
  (pBin .other .add x7 x2).bind fun v32 =>
  (pBin .other .lss x10 v32).bind fun v33 =>
  condK v33
  (r27_Even_k22 x0 x1 x2 x6 x7 x8 x9 x10 H)
  (r27_Even_e20_4 x0 x1 x2 x6 x7 x8 x9 H) :=
  lt' rfl f19_n21_d (pt rfl 0 f19_n22_d (by kernel_rfl))
theorem r27_Even_k19_eq (x0 x1 x2 x6 x7 x8 x9 x10 : Value) (H : AH) : r27_Even_k19 x0 x1 x2 x6 x7 x8 x9 x10 H =
  r27_Even_k21 x0 x1 x2 x6 x7 x8 x9 x10 H :=
  (bt rfl (f19_b [1, 1, 1, 0, 1, 4, 5, 1, 0, 4, 1, 4, 5, 1, 0, 4, 1, 0, 1, 4]) 4 f19_x20_d (li rfl (f19_b [1, 1, 1, 0, 1, 4, 5, 1, 0, 4, 1, 4, 5, 1, 0, 4, 1, 0, 1, 4, 5]) f19_n21_d (by kernel_rfl)))
theorem r27_Even_k16_eq (x0 x1 x2 x6 x7 x8 x9 : Value) (H : AH) : r27_Even_k16 x0 x1 x2 x6 x7 x8 x9 H =
  r27_Even_k19 x0 x1 x2 x6 x7 x8 x9 x7 H :=
  (pt rfl 0 f19_n17_d (pt rfl 0 f19_n19_d (by kernel_rfl)))
theorem r27_Even_k12_eq (x0 x1 x2 x6 x7 x8 : Value) (H : AH) : r27_Even_k12 x0 x1 x2 x6 x7 x8 H =
  r27_Even_k16 x0 x1 x2 x6 x7 x8 (vb false) H :=
  (pt rfl 0 f19_n13_d (bt rfl (f19_b [1, 1, 1, 0, 1, 4, 5, 1, 0, 4, 1, 4, 5, 1, 0, 4]) 3 f19_x15_d (pt rfl 0 f19_n16_d (by kernel_rfl))))
theorem r27_Even_e10_2_eq (x0 x1 x2 x6 x7 : Value) (H : AH) : r27_Even_e10_2 x0 x1 x2 x6 x7 H = r27_Even_k6 x0 x1 x2 x6 x7 H :=
  (by kernel_rfl)
theorem r27_Even_k11_eq (x0 x1 x2 x6 x7 x8 : Value) (H : AH) : r27_Even_k11 x0 x1 x2 x6 x7 x8 H =
  (pBin .other .lss x8 x1).bind fun v34 =>
  condK v34
  (r27_Even_k12 x0 x1 x2 x6 x7 x8 H)
  (r27_Even_e10_2 x0 x1 x2 x6 x7 H) :=
  lt' rfl f19_n11_d (pt rfl 0 f19_n12_d (by kernel_rfl))
theorem r27_Even_k9_eq (x0 x1 x2 x6 x7 x8 : Value) (H : AH) : r27_Even_k9 x0 x1 x2 x6 x7 x8 H =
  r27_Even_k11 x0 x1 x2 x6 x7 x8 H :=
  (bt rfl (f19_b [1, 1, 1, 0, 1, 4, 5, 1, 0, 4, 1, 4]) 2 f19_x10_d (li rfl (f19_b [1, 1, 1, 0, 1, 4, 5, 1, 0, 4, 1, 4, 5]) f19_n11_d (by kernel_rfl)))
theorem r27_Even_k5_eq (x0 x1 x2 x6 x7 : Value) (H : AH) : r27_Even_k5 x0 x1 x2 x6 x7 H =
  r27_Even_k9 x0 x1 x2 x6 x7 (vi 0) H :=
  (pt rfl 0 f19_n6_d (bt rfl (f19_b [1, 1, 1, 0, 1, 4, 5, 1, 0, 4]) 1 f19_x8_d (pt rfl 0 f19_n9_d (by kernel_rfl))))
theorem r27_Even_e3_0_eq (x6 : Value) (H : AH) : r27_Even_e3_0 x6 H = r27_Even_k1 x6 H :=
  (by kernel_rfl)
theorem r27_Even_k4_eq (x0 x1 x2 x6 x7 : Value) (H : AH) : r27_Even_k4 x0 x1 x2 x6 x7 H =
  lenK x0 fun v35 =>
  (pBin .other .leq x2 v35).bind fun v36 =>
  (gV v36 true x7).bind fun v37 =>
  (gV v36 true x0).bind fun v38 =>
  (onK (yv v36) true (lenK v38 some) (some undef)).bind fun v39 =>
  (gV v36 true x2).bind fun v40 =>
  (gB v36 true (pBin .other .sub v39 v40)).bind fun v41 =>
  (gB v36 true (pBin .other .leq v37 v41)).bind fun v42 =>
  (pPick v36 v42 (vb false)).bind fun v43 =>
  condK v43
  (r27_Even_k5 x0 x1 x2 x6 x7 H)
  (r27_Even_e3_0 x6 H) :=
  lt' rfl f19_n4_d (pt rfl 0 f19_n5_d (by kernel_rfl))
theorem r27_Even_k2_eq (x0 x1 x2 x6 x7 : Value) (H : AH) : r27_Even_k2 x0 x1 x2 x6 x7 H =
  r27_Even_k4 x0 x1 x2 x6 x7 H :=
  (bt rfl (f19_b [1, 1, 1, 0, 1, 4]) 0 f19_x3_d (li rfl (f19_b [1, 1, 1, 0, 1, 4, 5]) f19_n4_d (by kernel_rfl)))
theorem r27_Even_k0_eq (x0 x1 x2 x6 : Value) (H : AH) : r27_Even_k0 x0 x1 x2 x6 H =
  r27_Even_k2 x0 x1 x2 x6 (vi 0) H :=
  (pt rfl 0 f19_n1_d (pt rfl 0 f19_n2_d (by kernel_rfl)))
noncomputable def r27_Even (x0 x1 x2 : Value) (H : AH) : OV := cCode PP GG FF (f19_b []) (ls [x0, x1, x2] 50) H f19_r kx0 f19_r
theorem r27_Even_of (x0 x1 x2 : Value) (H : AH) {r : Value × AH} (h : (
  (pBin .other .lss x1 (vi 1)).bind fun v44 =>
  condK v44
  (some ((vb true), H))
  ((pBin .other .lss x2 (vi 1)).bind fun v45 =>
  condK v45
  (some ((vb false), H))
  (r27_Even_k0 x0 x1 x2 (vb false) H))) = some r) : FF n_r27_Even [x0, x1, x2] H = some r :=
  fo (t := r27_Even x0 x1 x2 H) Tryz.func19 (by kernel_rfl) (Eq.trans (pt rfl 2 f19_n0_d (by kernel_rfl)) h)

-- FUNCTION l29_near
noncomputable def f20_b (p : List Nat) : Code := Code.sub (bodyOf Tryz.f20) p
noncomputable def f20_r : KK := cFin PP (Tryz.f20).results.toList
noncomputable def f20_n0 : KK := CQ (f20_b [1, 1, 1, 1]) f20_r kx0 f20_r
noncomputable def f20_m0 : KK := clr 268435441 f20_n0
noncomputable def l29_near_k0 (x1 x2 x3 : Value) (H : AH) : OV := f20_n0 (ls [u, x1, x2, x3] 24) H
noncomputable def f20_n1 : KK := CQ (f20_b [1, 1, 1, 1, 1]) f20_r kx0 f20_r
noncomputable def f20_m1 : KK := clr 268435441 f20_n1
noncomputable def l29_near_k1 (x1 x2 x3 : Value) (H : AH) : OV := f20_n1 (ls [u, x1, x2, x3] 24) H
theorem f20_r_d : Resp 268435451 f20_r := rf
theorem f20_n0_d : Resp 268435441 f20_n0 := rc f20_r_d kx0_d f20_r_d
theorem f20_n1_d : Resp 268435441 f20_n1 := rc f20_r_d kx0_d f20_r_d
theorem l29_near_k1_eq (x1 x2 x3 : Value) (H : AH) : l29_near_k1 x1 x2 x3 H =
  ld [.f 2, .f 1] x1 H fun v2 =>
  (FF n_play_Mod [v2, (vi 2)] H).bind fun r3 =>
  mkS [(0, 1), (1, 1), (2, 1)] [(vi 0), (vi 0), (vi 0)] [(0, x3), (1, r3.1)] fun v4 =>
  st 3 [.f 2] x1 v4 r3.2 fun H5 =>
  (pLdN 5 x1 H5).bind fun v6 =>
  (pSt 5 x2 v6 H5).bind fun H7 =>
  (pLdN 5 x2 H7).bind fun v8 => some (v8, H7) :=
  (by kernel_rfl)
theorem l29_near_k0_eq (x1 x2 x3 : Value) (H : AH) : l29_near_k0 x1 x2 x3 H =
  ld [.f 2, .f 2] x1 H fun v9 =>
  (FF n_play_Mod [v9, (vi 9)] H).bind fun r10 =>
  (pBin .other .eql r10.1 (vi 8)).bind fun v11 =>
  condK v11
  (l29_near_k1 x1 x2 (vi 12) r10.2)
  (l29_near_k1 x1 x2 x3 r10.2) :=
  (pt rfl 0 f20_n1_d (by kernel_rfl))
noncomputable def l29_near (x0 : Value) (H : AH) : OV := cCode PP GG FF (f20_b []) (ls [x0] 27) H f20_r kx0 f20_r
theorem l29_near_of (x0 : Value) (H : AH) {r : Value × AH} (h : (
  newK (Value.cells x0).toList H fun v12 H13 =>
  newK [(vi 0), (vi 0), (vi 0), (vi 0), (vi 0)] H13 fun v14 H15 =>
  ld [.f 0] v12 H15 fun v16 =>
  (FF n_play_Mod [v16, (vi 3)] H15).bind fun r17 =>
  st 1 [.f 0] v12 r17.1 r17.2 fun H18 =>
  mkR 7 1 [(vi 0)] [(0, (vi 1)), (1, (vi 3)), (2, (vi 4)), (3, (vi 1)), (4, (vi 3)), (5, (vi 4)), (6, (vi 2))] H18 fun v19 H20 =>
  ld [.f 1] v12 H20 fun v21 =>
  (FF n_play_Mod [v21, (vi 7)] H20).bind fun r22 =>
  ld [.i 1 r22.1] v19 r22.2 fun v23 =>
  st 1 [.f 1] v12 v23 r22.2 fun H24 =>
  l29_near_k0 v12 v14 (vi 11) H24) = some r) : FF n_l29_near [x0] H = some r :=
  fo (t := l29_near x0 H) Tryz.func20 (by kernel_rfl) (Eq.trans (pt rfl 3 f20_n0_d (by kernel_rfl)) h)

-- FUNCTION pace_Tries
noncomputable def f21_b (p : List Nat) : Code := Code.sub (bodyOf Tryz.f21) p
noncomputable def f21_r : KK := cFin PP (Tryz.f21).results.toList
noncomputable def f21_n0 : KK := CQ (f21_b [1, 1]) f21_r kx0 f21_r
noncomputable def f21_m0 : KK := clr 72057594037927922 f21_n0
noncomputable def pace_Tries_k0 (x0 x2 x3 : Value) (H : AH) : OV := f21_n0 (ls [x0, u, x2, x3] 52) H
noncomputable def f21_n1 : KK := CQ (f21_b [1, 1, 1]) f21_r kx0 f21_r
noncomputable def f21_m1 : KK := clr 72057594037927931 f21_n1
noncomputable def pace_Tries_k1 (x2 : Value) (H : AH) : OV := f21_n1 (ls [u, u, x2] 53) H
noncomputable def f21_n2 : KK := CQ (f21_b [1, 1, 0, 1]) f21_m1 kx0 f21_r
noncomputable def f21_m2 : KK := clr 72057594037924338 f21_n2
noncomputable def pace_Tries_k2 (x0 x2 x3 x9 x10 x11 : Value) (H : AH) : OV := f21_n2 (ls [x0, u, x2, x3, u, u, u, u, u, x9, x10, x11] 44) H
noncomputable def f21_x3 : KX := BX 0 f21_m1 kx0
noncomputable def f21_y3 : KX := clx 72057594037927931 f21_x3
noncomputable def f21_n4 : KK := CLq (f21_b [1, 1, 0, 1, 4, 5]) f21_y3 f21_r
noncomputable def f21_m4 : KK := clr 72057594037924338 f21_n4
-- a loop
noncomputable def pace_Tries_k4 (x0 x2 x3 x9 x10 x11 : Value) (H : AH) : OV := f21_n4 (ls [x0, u, x2, x3, u, u, u, u, u, x9, x10, x11] 44) H
noncomputable def f21_n5 : KK := CQ (f21_b [1, 1, 0, 1, 4, 5, 1, 1]) f21_m4 f21_y3 f21_r
noncomputable def f21_m5 : KK := clr 72057594037924338 f21_n5
noncomputable def pace_Tries_k5 (x0 x2 x3 x9 x10 x11 : Value) (H : AH) : OV := f21_n5 (ls [x0, u, x2, x3, u, u, u, u, u, x9, x10, x11] 44) H
noncomputable def f21_n6 : KK := CQ (f21_b [1, 1, 0, 1, 4, 5, 1, 1, 1]) f21_m4 f21_y3 f21_r
noncomputable def f21_m6 : KK := clr 72057594037924338 f21_n6
noncomputable def pace_Tries_k6 (x0 x2 x3 x9 x10 x11 : Value) (H : AH) : OV := f21_n6 (ls [x0, u, x2, x3, u, u, u, u, u, x9, x10, x11] 44) H
noncomputable def f21_x8 : KX := BX 1 f21_m6 f21_y3
noncomputable def f21_y8 : KX := clx 72057594037924338 f21_x8
noncomputable def f21_n9 : KK := CQ (f21_b [1, 1, 0, 1, 4, 5, 1, 1, 0, 4, 1, 1, 1]) f21_m6 f21_y8 f21_r
noncomputable def f21_m9 : KK := clr 72057594037924098 f21_n9
noncomputable def pace_Tries_k9 (x0 x2 x3 x4 x5 x6 x7 x9 x10 x11 : Value) (H : AH) : OV := f21_n9 (ls [x0, u, x2, x3, x4, x5, x6, x7, u, x9, x10, x11] 44) H
noncomputable def f21_x10 : KX := BX 2 f21_m6 f21_y8
noncomputable def f21_y10 : KX := clx 72057594037924338 f21_x10
noncomputable def pace_Tries_e8_1 (x0 x2 x3 x9 x10 x11 : Value) (H : AH) : OV := f21_x8 1 (ls [x0, u, x2, x3, u, u, u, u, u, x9, x10, x11] 44) H
noncomputable def pace_Tries_e3_0 (x2 : Value) (H : AH) : OV := f21_x3 0 (ls [u, u, x2] 53) H
theorem f21_r_d : Resp 72057594037927931 f21_r := rf
theorem f21_n0_d : Resp 72057594037927922 f21_n0 := rc f21_r_d kx0_d f21_r_d
theorem f21_n1_d : Resp 72057594037927931 f21_n1 := rc f21_r_d kx0_d f21_r_d
theorem f21_n2_d : Resp 72057594037924338 f21_n2 := rc (cd f21_n1_d) kx0_d f21_r_d
theorem f21_x3_d : ∀ i, Resp 72057594037927931 (f21_x3 i) := rb (cd f21_n1_d) kx0_d
theorem f21_n4_d : Resp 72057594037924338 f21_n4 := rl (cx f21_x3_d) f21_r_d
theorem f21_n5_d : Resp 72057594037924338 f21_n5 := rc (cd f21_n4_d) (cx f21_x3_d) f21_r_d
theorem f21_n6_d : Resp 72057594037924338 f21_n6 := rc (cd f21_n4_d) (cx f21_x3_d) f21_r_d
theorem f21_x8_d : ∀ i, Resp 72057594037924338 (f21_x8 i) := rb (cd f21_n6_d) (cx f21_x3_d)
theorem f21_n9_d : Resp 72057594037924098 f21_n9 := rc (cd f21_n6_d) (cx f21_x8_d) f21_r_d
theorem f21_x10_d : ∀ i, Resp 72057594037924338 (f21_x10 i) := rb (cd f21_n6_d) (cx f21_x8_d)
theorem pace_Tries_k1_eq (x2 : Value) (H : AH) : pace_Tries_k1 x2 H =
  some ((vb true), H) :=
  (by kernel_rfl)
theorem pace_Tries_k6_eq (x0 x2 x3 x9 x10 x11 : Value) (H : AH) : pace_Tries_k6 x0 x2 x3 x9 x10 x11 H =
  (pBin .other .add x11 (vi 1)).bind fun v7 =>
  pace_Tries_k4 x0 x2 x3 x9 x10 v7 H :=
  (by kernel_rfl)
theorem pace_Tries_k9_eq (x0 x2 x3 x4 x5 x6 x7 x9 x10 x11 : Value) (H : AH) : pace_Tries_k9 x0 x2 x3 x4 x5 x6 x7 x9 x10 x11 H =
  ld [.f 1] x5 H fun v11 =>
  (pBin .other .eql v11 (vi 1)).bind fun v12 =>
  condK v12
  (ld [.f 0] x5 H fun v13 =>
  ldN 3 [.f 2] x5 H fun v14 =>
  mkS [(0, 1), (1, 3)] [(vi 0), (vi 0), (vi 0), (vi 0)] [(0, v13), (1, v14)] fun v15 =>
  (pUpdate (.flat 4) x3 v15 x4 H).bind fun H16 =>
  pace_Tries_k6 x0 x2 x3 x9 x10 x11 H16)
  (ld [.f 1] x5 H fun v17 =>
  (pBin .other .eql v17 (vi 4)).bind fun v18 =>
  (gV v18 true x7).bind fun v19 =>
  (pPick v18 v19 (vb false)).bind fun v20 =>
  condK v20
  ((pSlice 5 x0 (some x6) (some x4)).bind fun v21 =>
  (FF n_slices_ContainsFuncapi_Eventapi_Event [v21, (.func (.func n_pace_Tries_1) #[] #[x5])] H).bind fun r22 =>
  (pUn .not r22.1).bind fun v23 =>
  condK v23
  (some ((vb false), r22.2))
  (pace_Tries_k6 x0 x2 x3 x9 x10 x11 r22.2))
  (pace_Tries_k6 x0 x2 x3 x9 x10 x11 H)) :=
  (bt rfl (f21_b [1, 1, 0, 1, 4, 5, 1, 1, 0, 4, 1, 1, 1, 4]) 2 f21_x10_d (by kernel_rfl))
theorem pace_Tries_e8_1_eq (x0 x2 x3 x9 x10 x11 : Value) (H : AH) : pace_Tries_e8_1 x0 x2 x3 x9 x10 x11 H = pace_Tries_k6 x0 x2 x3 x9 x10 x11 H :=
  (by kernel_rfl)
theorem pace_Tries_k5_eq (x0 x2 x3 x9 x10 x11 : Value) (H : AH) : pace_Tries_k5 x0 x2 x3 x9 x10 x11 H =
  ldN 5 [.i 5 x11] x9 H fun v24 =>
  newK [(vi 0), (vi 0), (vi 0), (vi 0), (vi 0)] H fun v25 H26 =>
  (pSt 5 v25 v24 H26).bind fun H27 =>
  ld [.f 2, .f 0] v25 H27 fun v28 =>
  (pBin .other .neq v28 (vi 11)).bind fun v29 =>
  condK v29
  (pace_Tries_e8_1 x0 x2 x3 x9 x10 x11 H27)
  (ld [.f 0] v25 H27 fun v30 =>
  ldN 3 [.f 2] v25 H27 fun v31 =>
  mkS [(0, 1), (1, 3)] [(vi 0), (vi 0), (vi 0), (vi 0)] [(0, v30), (1, v31)] fun v32 =>
  (pLookup (.flat 4) (vi 0) x3 v32 true H27).bind fun v33 =>
  (pExtract v33 0).bind fun v34 =>
  (pExtract v33 1).bind fun v35 =>
  pace_Tries_k9 x0 x2 x3 x11 v25 v34 v35 x9 x10 x11 H27) :=
  (pt rfl 0 f21_n6_d (bt rfl (f21_b [1, 1, 0, 1, 4, 5, 1, 1, 0, 4]) 1 f21_x8_d (pt rfl 2 f21_n9_d (by kernel_rfl))))
theorem pace_Tries_e3_0_eq (x2 : Value) (H : AH) : pace_Tries_e3_0 x2 H = pace_Tries_k1 x2 H :=
  (by kernel_rfl)
theorem pace_Tries_k4_eq (x0 x2 x3 x9 x10 x11 : Value) (H : AH) : pace_Tries_k4 x0 x2 x3 x9 x10 x11 H =
  (pBin .other .lss x11 x10).bind fun v36 =>
  condK v36
  (pace_Tries_k5 x0 x2 x3 x9 x10 x11 H)
  (pace_Tries_e3_0 x2 H) :=
  lt' rfl f21_n4_d (pt rfl 1 f21_n5_d (by kernel_rfl))
theorem pace_Tries_k2_eq (x0 x2 x3 x9 x10 x11 : Value) (H : AH) : pace_Tries_k2 x0 x2 x3 x9 x10 x11 H =
  pace_Tries_k4 x0 x2 x3 x9 x10 x11 H :=
  (bt rfl (f21_b [1, 1, 0, 1, 4]) 0 f21_x3_d (li rfl (f21_b [1, 1, 0, 1, 4, 5]) f21_n4_d (by kernel_rfl)))
theorem pace_Tries_k0_eq (x0 x2 x3 : Value) (H : AH) : pace_Tries_k0 x0 x2 x3 H =
  lenK x0 fun v37 =>
  pace_Tries_k2 x0 x2 x3 x0 v37 (vi 0) H :=
  (pt rfl 0 f21_n1_d (pt rfl 0 f21_n2_d (by kernel_rfl)))
noncomputable def pace_Tries (x0 : Value) (H : AH) : OV := cCode PP GG FF (f21_b []) (ls [x0] 55) H f21_r kx0 f21_r
theorem pace_Tries_of (x0 : Value) (H : AH) {r : Value × AH} (h : (
  mapK H fun v38 H39 =>
  pace_Tries_k0 x0 (vb false) v38 H39) = some r) : FF n_pace_Tries [x0] H = some r :=
  fo (t := pace_Tries x0 H) Tryz.func21 (by kernel_rfl) (Eq.trans (pt rfl 1 f21_n0_d (by kernel_rfl)) h)

-- FUNCTION r27_Tries
noncomputable def f22_b (p : List Nat) : Code := Code.sub (bodyOf Tryz.f22) p
noncomputable def f22_r : KK := cFin PP (Tryz.f22).results.toList
noncomputable def f22_n0 : KK := CQ (f22_b [1]) f22_r kx0 f22_r
noncomputable def f22_m0 : KK := clr 154742504910672534362390522 f22_n0
noncomputable def r27_Tries_k0 (x0 x2 : Value) (H : AH) : OV := f22_n0 (ls [x0, u, x2] 84) H
noncomputable def f22_n1 : KK := CQ (f22_b [1, 1]) f22_r kx0 f22_r
noncomputable def f22_m1 : KK := clr 154742504910672534362390523 f22_n1
noncomputable def r27_Tries_k1 (x2 : Value) (H : AH) : OV := f22_n1 (ls [u, u, x2] 84) H
noncomputable def f22_n2 : KK := CQ (f22_b [1, 0, 1]) f22_m1 kx0 f22_r
noncomputable def f22_m2 : KK := clr 154742504910672534362390514 f22_n2
noncomputable def r27_Tries_k2 (x0 x2 x3 : Value) (H : AH) : OV := f22_n2 (ls [x0, u, x2, x3] 83) H
noncomputable def f22_x3 : KX := BX 0 f22_m1 kx0
noncomputable def f22_y3 : KX := clx 154742504910672534362390523 f22_x3
noncomputable def f22_n4 : KK := CLq (f22_b [1, 0, 1, 4, 5]) f22_y3 f22_r
noncomputable def f22_m4 : KK := clr 154742504910672534362390514 f22_n4
-- a loop
noncomputable def r27_Tries_k4 (x0 x2 x3 : Value) (H : AH) : OV := f22_n4 (ls [x0, u, x2, x3] 83) H
noncomputable def f22_n5 : KK := CQ (f22_b [1, 0, 1, 4, 5, 1]) f22_m4 f22_y3 f22_r
noncomputable def f22_m5 : KK := clr 154742504910672534362390514 f22_n5
noncomputable def r27_Tries_k5 (x0 x2 x3 : Value) (H : AH) : OV := f22_n5 (ls [x0, u, x2, x3] 83) H
noncomputable def f22_n6 : KK := CQ (f22_b [1, 0, 1, 4, 5, 1, 1]) f22_m4 f22_y3 f22_r
noncomputable def f22_m6 : KK := clr 154742504910672534362390514 f22_n6
noncomputable def r27_Tries_k6 (x0 x2 x3 : Value) (H : AH) : OV := f22_n6 (ls [x0, u, x2, x3] 83) H
noncomputable def f22_x8 : KX := BX 1 f22_m6 f22_y3
noncomputable def f22_y8 : KX := clx 154742504910672534362390514 f22_x8
noncomputable def f22_n9 : KK := CQ (f22_b [1, 0, 1, 4, 5, 1, 0, 4, 1, 1, 1]) f22_m6 f22_y8 f22_r
noncomputable def f22_m9 : KK := clr 154742504910672534362390466 f22_n9
noncomputable def r27_Tries_k9 (x0 x2 x3 x4 x5 : Value) (H : AH) : OV := f22_n9 (ls [x0, u, x2, x3, x4, x5] 81) H
noncomputable def f22_x10 : KX := BX 2 f22_m6 f22_y8
noncomputable def f22_y10 : KX := clx 154742504910672534362390514 f22_x10
noncomputable def f22_n11 : KK := CLq (f22_b [1, 0, 1, 4, 5, 1, 0, 4, 1, 1, 1, 4, 5]) f22_y10 f22_r
noncomputable def f22_m11 : KK := clr 154742504910672534362390466 f22_n11
-- a loop
noncomputable def r27_Tries_k11 (x0 x2 x3 x4 x5 : Value) (H : AH) : OV := f22_n11 (ls [x0, u, x2, x3, x4, x5] 81) H
noncomputable def f22_n12 : KK := CQ (f22_b [1, 0, 1, 4, 5, 1, 0, 4, 1, 1, 1, 4, 5, 1]) f22_m11 f22_y10 f22_r
noncomputable def f22_m12 : KK := clr 154742504910672534362390466 f22_n12
noncomputable def r27_Tries_k12 (x0 x2 x3 x4 x5 : Value) (H : AH) : OV := f22_n12 (ls [x0, u, x2, x3, x4, x5] 81) H
noncomputable def f22_n13 : KK := CQ (f22_b [1, 0, 1, 4, 5, 1, 0, 4, 1, 1, 1, 4, 5, 1, 1]) f22_m11 f22_y10 f22_r
noncomputable def f22_m13 : KK := clr 154742504910672534362390466 f22_n13
noncomputable def r27_Tries_k13 (x0 x2 x3 x4 x5 : Value) (H : AH) : OV := f22_n13 (ls [x0, u, x2, x3, x4, x5] 81) H
noncomputable def f22_x15 : KX := BX 3 f22_m13 f22_y10
noncomputable def f22_y15 : KX := clx 154742504910672534362390466 f22_x15
noncomputable def r27_Tries_e15_3 (x0 x2 x3 x4 x5 : Value) (H : AH) : OV := f22_x15 3 (ls [x0, u, x2, x3, x4, x5] 81) H
noncomputable def r27_Tries_e10_2 (x0 x2 x3 : Value) (H : AH) : OV := f22_x10 2 (ls [x0, u, x2, x3] 83) H
noncomputable def r27_Tries_e15_2 (x0 x2 x3 x4 x5 : Value) (H : AH) : OV := f22_x15 2 (ls [x0, u, x2, x3, x4, x5] 81) H
noncomputable def r27_Tries_e8_1 (x0 x2 x3 : Value) (H : AH) : OV := f22_x8 1 (ls [x0, u, x2, x3] 83) H
noncomputable def r27_Tries_e3_0 (x2 : Value) (H : AH) : OV := f22_x3 0 (ls [u, u, x2] 84) H
theorem f22_r_d : Resp 154742504910672534362390523 f22_r := rf
theorem f22_n0_d : Resp 154742504910672534362390522 f22_n0 := rc f22_r_d kx0_d f22_r_d
theorem f22_n1_d : Resp 154742504910672534362390523 f22_n1 := rc f22_r_d kx0_d f22_r_d
theorem f22_n2_d : Resp 154742504910672534362390514 f22_n2 := rc (cd f22_n1_d) kx0_d f22_r_d
theorem f22_x3_d : ∀ i, Resp 154742504910672534362390523 (f22_x3 i) := rb (cd f22_n1_d) kx0_d
theorem f22_n4_d : Resp 154742504910672534362390514 f22_n4 := rl (cx f22_x3_d) f22_r_d
theorem f22_n5_d : Resp 154742504910672534362390514 f22_n5 := rc (cd f22_n4_d) (cx f22_x3_d) f22_r_d
theorem f22_n6_d : Resp 154742504910672534362390514 f22_n6 := rc (cd f22_n4_d) (cx f22_x3_d) f22_r_d
theorem f22_x8_d : ∀ i, Resp 154742504910672534362390514 (f22_x8 i) := rb (cd f22_n6_d) (cx f22_x3_d)
theorem f22_n9_d : Resp 154742504910672534362390466 f22_n9 := rc (cd f22_n6_d) (cx f22_x8_d) f22_r_d
theorem f22_x10_d : ∀ i, Resp 154742504910672534362390514 (f22_x10 i) := rb (cd f22_n6_d) (cx f22_x8_d)
theorem f22_n11_d : Resp 154742504910672534362390466 f22_n11 := rl (cx f22_x10_d) f22_r_d
theorem f22_n12_d : Resp 154742504910672534362390466 f22_n12 := rc (cd f22_n11_d) (cx f22_x10_d) f22_r_d
theorem f22_n13_d : Resp 154742504910672534362390466 f22_n13 := rc (cd f22_n11_d) (cx f22_x10_d) f22_r_d
theorem f22_x15_d : ∀ i, Resp 154742504910672534362390466 (f22_x15 i) := rb (cd f22_n13_d) (cx f22_x10_d)
theorem r27_Tries_k1_eq (x2 : Value) (H : AH) : r27_Tries_k1 x2 H =
  some ((vb true), H) :=
  (by kernel_rfl)
theorem r27_Tries_k6_eq (x0 x2 x3 : Value) (H : AH) : r27_Tries_k6 x0 x2 x3 H =
  (pBin .other .add x3 (vi 1)).bind fun v7 =>
  r27_Tries_k4 x0 x2 v7 H :=
  (by kernel_rfl)
theorem r27_Tries_k13_eq (x0 x2 x3 x4 x5 : Value) (H : AH) : r27_Tries_k13 x0 x2 x3 x4 x5 H =
  (pBin .other .sub x5 (vi 1)).bind fun v14 =>
  r27_Tries_k11 x0 x2 x3 x4 v14 H :=
  (by kernel_rfl)
theorem r27_Tries_e15_3_eq (x0 x2 x3 x4 x5 : Value) (H : AH) : r27_Tries_e15_3 x0 x2 x3 x4 x5 H = r27_Tries_k13 x0 x2 x3 x4 x5 H :=
  (by kernel_rfl)
theorem r27_Tries_e10_2_eq (x0 x2 x3 : Value) (H : AH) : r27_Tries_e10_2 x0 x2 x3 H = r27_Tries_k6 x0 x2 x3 H :=
  (by kernel_rfl)
theorem r27_Tries_e15_2_eq (x0 x2 x3 x4 x5 : Value) (H : AH) : r27_Tries_e15_2 x0 x2 x3 x4 x5 H = r27_Tries_e10_2 x0 x2 x3 H :=
  (by kernel_rfl)
theorem r27_Tries_k12_eq (x0 x2 x3 x4 x5 : Value) (H : AH) : r27_Tries_k12 x0 x2 x3 x4 x5 H =
  ldN 3 [.i 5 x5, .f 2] x0 H fun v16 =>
  ldN 3 [.i 5 x3, .f 2] x0 H fun v17 =>
  (pBin (.flat 3) .neq v16 v17).bind fun v18 =>
  condK v18
  (r27_Tries_e15_3 x0 x2 x3 x4 x5 H)
  ((gV x4 false x0).bind fun v19 =>
  (gV x4 false x5).bind fun v20 =>
  gld x4 false  [.i 5 v20, .f 1] v19 H fun v21 =>
  (gB x4 false (pBin .other .eql v21 (vi 3))).bind fun v22 =>
  (gV x4 false v22).bind fun v23 =>
  (gV v23 true x0).bind fun v24 =>
  (gV v23 true x5).bind fun v25 =>
  gld v23 true  [.i 5 v25, .f 0] v24 H fun v26 =>
  (gV v23 true x0).bind fun v27 =>
  (gV v23 true x3).bind fun v28 =>
  gld v23 true  [.i 5 v28, .f 0] v27 H fun v29 =>
  (gB v23 true (pBin .other .neq v26 v29)).bind fun v30 =>
  (gB x4 false (pPick v23 v30 (vb false))).bind fun v31 =>
  (pPick x4 (vb true) v31).bind fun v32 =>
  ld [.i 5 x5, .f 1] x0 H fun v33 =>
  (pBin .other .eql v33 (vi 1)).bind fun v34 =>
  (gV v34 true x0).bind fun v35 =>
  (gV v34 true x5).bind fun v36 =>
  gld v34 true  [.i 5 v36, .f 0] v35 H fun v37 =>
  (gV v34 true x0).bind fun v38 =>
  (gV v34 true x3).bind fun v39 =>
  gld v34 true  [.i 5 v39, .f 0] v38 H fun v40 =>
  (gB v34 true (pBin .other .eql v37 v40)).bind fun v41 =>
  (pPick v34 v41 (vb false)).bind fun v42 =>
  condK v42
  ((pUn .not v32).bind fun v43 =>
  condK v43
  (some ((vb false), H))
  (r27_Tries_e15_2 x0 x2 x3 v32 x5 H))
  (r27_Tries_k13 x0 x2 x3 v32 x5 H)) :=
  (pt rfl 0 f22_n13_d (bt rfl (f22_b [1, 0, 1, 4, 5, 1, 0, 4, 1, 1, 1, 4, 5, 1, 0, 4]) 3 f22_x15_d (by kernel_rfl)))
theorem r27_Tries_k11_eq (x0 x2 x3 x4 x5 : Value) (H : AH) : r27_Tries_k11 x0 x2 x3 x4 x5 H =
  (pBin .other .geq x5 (vi 0)).bind fun v44 =>
  condK v44
  (r27_Tries_k12 x0 x2 x3 x4 x5 H)
  (r27_Tries_e10_2 x0 x2 x3 H) :=
  lt' rfl f22_n11_d (pt rfl 0 f22_n12_d (by kernel_rfl))
theorem r27_Tries_k9_eq (x0 x2 x3 x4 x5 : Value) (H : AH) : r27_Tries_k9 x0 x2 x3 x4 x5 H =
  r27_Tries_k11 x0 x2 x3 x4 x5 H :=
  (bt rfl (f22_b [1, 0, 1, 4, 5, 1, 0, 4, 1, 1, 1, 4]) 2 f22_x10_d (li rfl (f22_b [1, 0, 1, 4, 5, 1, 0, 4, 1, 1, 1, 4, 5]) f22_n11_d (by kernel_rfl)))
theorem r27_Tries_e8_1_eq (x0 x2 x3 : Value) (H : AH) : r27_Tries_e8_1 x0 x2 x3 H = r27_Tries_k6 x0 x2 x3 H :=
  (by kernel_rfl)
theorem r27_Tries_k5_eq (x0 x2 x3 : Value) (H : AH) : r27_Tries_k5 x0 x2 x3 H =
  ld [.i 5 x3, .f 1] x0 H fun v45 =>
  (pBin .other .neq v45 (vi 4)).bind fun v46 =>
  (gV v46 false x0).bind fun v47 =>
  (gV v46 false x3).bind fun v48 =>
  gld v46 false  [.i 5 v48, .f 2, .f 0] v47 H fun v49 =>
  (gB v46 false (pBin .other .neq v49 (vi 11))).bind fun v50 =>
  (pPick v46 (vb true) v50).bind fun v51 =>
  condK v51
  (r27_Tries_e8_1 x0 x2 x3 H)
  ((pBin .other .sub x3 (vi 1)).bind fun v52 =>
  r27_Tries_k9 x0 x2 x3 (vb false) v52 H) :=
  (pt rfl 0 f22_n6_d (bt rfl (f22_b [1, 0, 1, 4, 5, 1, 0, 4]) 1 f22_x8_d (pt rfl 2 f22_n9_d (by kernel_rfl))))
theorem r27_Tries_e3_0_eq (x2 : Value) (H : AH) : r27_Tries_e3_0 x2 H = r27_Tries_k1 x2 H :=
  (by kernel_rfl)
theorem r27_Tries_k4_eq (x0 x2 x3 : Value) (H : AH) : r27_Tries_k4 x0 x2 x3 H =
  lenK x0 fun v53 =>
  (pBin .other .lss x3 v53).bind fun v54 =>
  condK v54
  (r27_Tries_k5 x0 x2 x3 H)
  (r27_Tries_e3_0 x2 H) :=
  lt' rfl f22_n4_d (pt rfl 0 f22_n5_d (by kernel_rfl))
theorem r27_Tries_k2_eq (x0 x2 x3 : Value) (H : AH) : r27_Tries_k2 x0 x2 x3 H =
  r27_Tries_k4 x0 x2 x3 H :=
  (bt rfl (f22_b [1, 0, 1, 4]) 0 f22_x3_d (li rfl (f22_b [1, 0, 1, 4, 5]) f22_n4_d (by kernel_rfl)))
theorem r27_Tries_k0_eq (x0 x2 : Value) (H : AH) : r27_Tries_k0 x0 x2 H =
  r27_Tries_k2 x0 x2 (vi 0) H :=
  (pt rfl 0 f22_n1_d (pt rfl 0 f22_n2_d (by kernel_rfl)))
noncomputable def r27_Tries (x0 : Value) (H : AH) : OV := cCode PP GG FF (f22_b []) (ls [x0] 86) H f22_r kx0 f22_r
theorem r27_Tries_of (x0 : Value) (H : AH) {r : Value × AH} (h : (
  r27_Tries_k0 x0 (vb false) H) = some r) : FF n_r27_Tries [x0] H = some r :=
  fo (t := r27_Tries x0 H) Tryz.func22 (by kernel_rfl) (Eq.trans (pt rfl 0 f22_n0_d (by kernel_rfl)) h)

-- FUNCTION play_Config
noncomputable def f23_b (p : List Nat) : Code := Code.sub (bodyOf Tryz.f23) p
noncomputable def f23_r : KK := cFin PP (Tryz.f23).results.toList
noncomputable def f23_n0 : KK := CQ (f23_b [1, 1]) f23_r kx0 f23_r
noncomputable def f23_m0 : KK := clr 8589934577 f23_n0
noncomputable def play_Config_k0 (x1 x2 x3 : Value) (H : AH) : OV := f23_n0 (ls [u, x1, x2, x3] 29) H
noncomputable def f23_n1 : KK := CQ (f23_b [1, 1, 1]) f23_r kx0 f23_r
noncomputable def f23_m1 : KK := clr 8589934577 f23_n1
noncomputable def play_Config_k1 (x1 x2 x3 : Value) (H : AH) : OV := f23_n1 (ls [u, x1, x2, x3] 29) H
theorem f23_r_d : Resp 8589934587 f23_r := rf
theorem f23_n0_d : Resp 8589934577 f23_n0 := rc f23_r_d kx0_d f23_r_d
theorem f23_n1_d : Resp 8589934577 f23_n1 := rc f23_r_d kx0_d f23_r_d
theorem play_Config_k1_eq (x1 x2 x3 : Value) (H : AH) : play_Config_k1 x1 x2 x3 H =
  ld [.f 0] x1 H fun v2 =>
  (FF n_play_Mod [v2, (vi 4)] H).bind fun r3 =>
  (pBin .other .add (vi 1) r3.1).bind fun v4 =>
  ad [.f 1] x1 fun v5 =>
  (pLd1 v5 r3.2).bind fun v6 =>
  eqK (pLd1 v5 H) (pLd1 v5 r3.2) <|
  (FF n_play_Mod [v6, (vi 4)] r3.2).bind fun r7 =>
  (pBin .other .add (vi 1) r7.1).bind fun v8 =>
  ad [.f 2] x1 fun v9 =>
  (pLd1 v9 r7.2).bind fun v10 =>
  eqK (pLd1 v9 H) (pLd1 v9 r7.2) <|
  eqK (pLd1 v9 r3.2) (pLd1 v9 r7.2) <|
  (FF n_play_Mod [v10, (vi 6)] r7.2).bind fun r11 =>
  (pBin .other .add (vi 1) r11.1).bind fun v12 =>
  ad [.f 3] x1 fun v13 =>
  (pLd1 v13 r11.2).bind fun v14 =>
  eqK (pLd1 v13 H) (pLd1 v13 r11.2) <|
  eqK (pLd1 v13 r3.2) (pLd1 v13 r11.2) <|
  eqK (pLd1 v13 r7.2) (pLd1 v13 r11.2) <|
  (FF n_play_Mod [v14, (vi 12)] r11.2).bind fun r15 =>
  mkS [(0, 1), (1, 1), (2, 1), (3, 1), (4, 1)] [(vi 0), (vi 0), (vi 0), (vi 0), (vw 0)] [(0, v4), (1, v8), (2, v12), (3, r15.1), (4, x3)] fun v16 =>
  (pSt 5 x2 v16 r15.2).bind fun H17 =>
  (pLdN 5 x2 H17).bind fun v18 => some (v18, H17) :=
  (by kernel_rfl)
theorem play_Config_k0_eq (x1 x2 x3 : Value) (H : AH) : play_Config_k0 x1 x2 x3 H =
  ld [.f 4] x1 H fun v19 =>
  (pBin .other .rem v19 (vw 4)).bind fun v20 =>
  (pBin .other .eql v20 (vw 3)).bind fun v21 =>
  condK v21
  (ld [.f 4] x1 H fun v22 =>
  (pBin .other .rem v22 (vw 4611686018427387904)).bind fun v23 =>
  (pBin .other .add (vw 1) v23).bind fun v24 =>
  play_Config_k1 x1 x2 v24 H)
  (play_Config_k1 x1 x2 x3 H) :=
  (pt rfl 0 f23_n1_d (by kernel_rfl))
noncomputable def play_Config (x0 : Value) (H : AH) : OV := cCode PP GG FF (f23_b []) (ls [x0] 32) H f23_r kx0 f23_r
theorem play_Config_of (x0 : Value) (H : AH) {r : Value × AH} (h : (
  newK (Value.cells x0).toList H fun v25 H26 =>
  newK [(vi 0), (vi 0), (vi 0), (vi 0), (vw 0)] H26 fun v27 H28 =>
  ld [.f 4] v25 H28 fun v29 =>
  (pBin .other .rem v29 (vw 5000)).bind fun v30 =>
  (pBin .other .add (vw 1) v30).bind fun v31 =>
  play_Config_k0 v25 v27 v31 H28) = some r) : FF n_play_Config [x0] H = some r :=
  fo (t := play_Config x0 H) Tryz.func23 (by kernel_rfl) (Eq.trans (pt rfl 1 f23_n0_d (by kernel_rfl)) h)

-- FUNCTION play_Ready
noncomputable def f24_b (p : List Nat) : Code := Code.sub (bodyOf Tryz.f24) p
noncomputable def f24_r : KK := cFin PP (Tryz.f24).results.toList
noncomputable def f24_n0 : KK := CQ (f24_b [1, 1]) f24_r kx0 f24_r
noncomputable def f24_m0 : KK := clr 2097138 f24_n0
noncomputable def play_Ready_k0 (x0 x2 x3 : Value) (H : AH) : OV := f24_n0 (ls [x0, u, x2, x3] 17) H
noncomputable def f24_n1 : KK := CQ (f24_b [1, 1, 1]) f24_r kx0 f24_r
noncomputable def f24_m1 : KK := clr 2097139 f24_n1
noncomputable def play_Ready_k1 (x2 x3 : Value) (H : AH) : OV := f24_n1 (ls [u, u, x2, x3] 17) H
noncomputable def f24_n2 : KK := CQ (f24_b [1, 1, 0, 1]) f24_m1 kx0 f24_r
noncomputable def f24_m2 : KK := clr 2097122 f24_n2
noncomputable def play_Ready_k2 (x0 x2 x3 x4 : Value) (H : AH) : OV := f24_n2 (ls [x0, u, x2, x3, x4] 16) H
noncomputable def f24_x3 : KX := BX 0 f24_m1 kx0
noncomputable def f24_y3 : KX := clx 2097139 f24_x3
noncomputable def f24_n4 : KK := CLq (f24_b [1, 1, 0, 1, 4, 5]) f24_y3 f24_r
noncomputable def f24_m4 : KK := clr 2097122 f24_n4
-- a loop
noncomputable def play_Ready_k4 (x0 x2 x3 x4 : Value) (H : AH) : OV := f24_n4 (ls [x0, u, x2, x3, x4] 16) H
noncomputable def f24_n5 : KK := CQ (f24_b [1, 1, 0, 1, 4, 5, 1]) f24_m4 f24_y3 f24_r
noncomputable def f24_m5 : KK := clr 2097122 f24_n5
noncomputable def play_Ready_k5 (x0 x2 x3 x4 : Value) (H : AH) : OV := f24_n5 (ls [x0, u, x2, x3, x4] 16) H
noncomputable def f24_n6 : KK := CQ (f24_b [1, 1, 0, 1, 4, 5, 1, 1]) f24_m4 f24_y3 f24_r
noncomputable def f24_m6 : KK := clr 2097122 f24_n6
noncomputable def play_Ready_k6 (x0 x2 x3 x4 : Value) (H : AH) : OV := f24_n6 (ls [x0, u, x2, x3, x4] 16) H
noncomputable def f24_x8 : KX := BX 1 f24_m6 f24_y3
noncomputable def f24_y8 : KX := clx 2097122 f24_x8
noncomputable def play_Ready_e3_0 (x2 x3 : Value) (H : AH) : OV := f24_x3 0 (ls [u, u, x2, x3] 17) H
theorem f24_r_d : Resp 2097147 f24_r := rf
theorem f24_n0_d : Resp 2097138 f24_n0 := rc f24_r_d kx0_d f24_r_d
theorem f24_n1_d : Resp 2097139 f24_n1 := rc f24_r_d kx0_d f24_r_d
theorem f24_n2_d : Resp 2097122 f24_n2 := rc (cd f24_n1_d) kx0_d f24_r_d
theorem f24_x3_d : ∀ i, Resp 2097139 (f24_x3 i) := rb (cd f24_n1_d) kx0_d
theorem f24_n4_d : Resp 2097122 f24_n4 := rl (cx f24_x3_d) f24_r_d
theorem f24_n5_d : Resp 2097122 f24_n5 := rc (cd f24_n4_d) (cx f24_x3_d) f24_r_d
theorem f24_n6_d : Resp 2097122 f24_n6 := rc (cd f24_n4_d) (cx f24_x3_d) f24_r_d
theorem f24_x8_d : ∀ i, Resp 2097122 (f24_x8 i) := rb (cd f24_n6_d) (cx f24_x3_d)
theorem play_Ready_k1_eq (x2 x3 : Value) (H : AH) : play_Ready_k1 x2 x3 H =
  some (x3, H) :=
  (by kernel_rfl)
theorem play_Ready_k6_eq (x0 x2 x3 x4 : Value) (H : AH) : play_Ready_k6 x0 x2 x3 x4 H =
  (pBin .other .add x4 (vi 1)).bind fun v7 =>
  play_Ready_k4 x0 x2 x3 v7 H :=
  (by kernel_rfl)
theorem play_Ready_k5_eq (x0 x2 x3 x4 : Value) (H : AH) : play_Ready_k5 x0 x2 x3 x4 H =
  (pBin .other .add (vi 1) x4).bind fun v9 =>
  (pBin .other .rem x4 (vi 2)).bind fun v10 =>
  (pBin .other .add (vi 2) v10).bind fun v11 =>
  mkS [(0, 1), (1, 1), (2, 1), (3, 1)] [(vi 0), (vi 0), (vi 0), (vi 0)] [(0, (vi 1)), (1, x4), (2, v9), (3, v11)] fun v12 =>
  mkR 1 4 [(vi 0), (vi 0), (vi 0), (vi 0)] [(0, v12)] H fun v13 H14 =>
  (pApp 4 32 x3 v13 H14).bind fun r15 =>
  play_Ready_k6 x0 x2 r15.1 x4 r15.2 :=
  (pt rfl 0 f24_n6_d (bt rfl (f24_b [1, 1, 0, 1, 4, 5, 1, 0, 4]) 1 f24_x8_d (by kernel_rfl)))
theorem play_Ready_e3_0_eq (x2 x3 : Value) (H : AH) : play_Ready_e3_0 x2 x3 H = play_Ready_k1 x2 x3 H :=
  (by kernel_rfl)
theorem play_Ready_k4_eq (x0 x2 x3 x4 : Value) (H : AH) : play_Ready_k4 x0 x2 x3 x4 H =
  (pBin .other .lss x4 x0).bind fun v16 =>
  condK v16
  (play_Ready_k5 x0 x2 x3 x4 H)
  (play_Ready_e3_0 x2 x3 H) :=
  lt' rfl f24_n4_d (pt rfl 0 f24_n5_d (by kernel_rfl))
theorem play_Ready_k2_eq (x0 x2 x3 x4 : Value) (H : AH) : play_Ready_k2 x0 x2 x3 x4 H =
  play_Ready_k4 x0 x2 x3 x4 H :=
  (bt rfl (f24_b [1, 1, 0, 1, 4]) 0 f24_x3_d (li rfl (f24_b [1, 1, 0, 1, 4, 5]) f24_n4_d (by kernel_rfl)))
theorem play_Ready_k0_eq (x0 x2 x3 : Value) (H : AH) : play_Ready_k0 x0 x2 x3 H =
  play_Ready_k2 x0 x2 x3 (vi 0) H :=
  (pt rfl 0 f24_n1_d (pt rfl 0 f24_n2_d (by kernel_rfl)))
noncomputable def play_Ready (x0 : Value) (H : AH) : OV := cCode PP GG FF (f24_b []) (ls [x0] 20) H f24_r kx0 f24_r
theorem play_Ready_of (x0 : Value) (H : AH) {r : Value × AH} (h : (
  play_Ready_k0 x0 (.slice none 0 0) (.slice none 0 0) H) = some r) : FF n_play_Ready [x0] H = some r :=
  fo (t := play_Ready x0 H) Tryz.func24 (by kernel_rfl) (Eq.trans (pt rfl 1 f24_n0_d (by kernel_rfl)) h)

-- FUNCTION play_Call
noncomputable def f25_b (p : List Nat) : Code := Code.sub (bodyOf Tryz.f25) p
noncomputable def f25_r : KK := cFin PP (Tryz.f25).results.toList
noncomputable def f25_n0 : KK := CQ (f25_b [1, 1, 1]) f25_r kx0 f25_r
noncomputable def f25_m0 : KK := clr 36893488147419103217 f25_n0
noncomputable def play_Call_k0 (x1 x2 x3 : Value) (H : AH) : OV := f25_n0 (ls [u, x1, x2, x3] 61) H
noncomputable def f25_n1 : KK := CQ (f25_b [1, 1, 1, 1]) f25_r kx0 f25_r
noncomputable def f25_m1 : KK := clr 36893488147419103219 f25_n1
noncomputable def play_Call_k1 (x2 x3 : Value) (H : AH) : OV := f25_n1 (ls [u, u, x2, x3] 61) H
noncomputable def f25_n5 : KK := CQ (f25_b [1, 1, 1, 0, 1]) f25_m1 kx0 f25_r
noncomputable def f25_m5 : KK := clr 36893488147419070449 f25_n5
noncomputable def play_Call_k5 (x1 x2 x3 x15 : Value) (H : AH) : OV := f25_n5 (ls [u, x1, x2, x3, u, u, u, u, u, u, u, u, u, u, u, x15] 49) H
noncomputable def f25_x6 : KX := BX 0 f25_m1 kx0
noncomputable def f25_y6 : KX := clx 36893488147419103219 f25_x6
noncomputable def f25_n7 : KK := CQ (f25_b [1, 1, 1, 0, 1, 4, 1]) f25_m1 f25_y6 f25_r
noncomputable def f25_m7 : KK := clr 36893488113059332081 f25_n7
noncomputable def play_Call_k7 (x1 x2 x3 x15 x35 : Value) (H : AH) : OV := f25_n7 (ls [u, x1, x2, x3, u, u, u, u, u, u, u, u, u, u, u, x15, u, u, u, u, u, u, u, u, u, u, u, u, u, u, u, u, u, u, u, x35] 29) H
noncomputable def f25_n18 : KK := CQ (f25_b [1, 1, 1, 0, 1, 4, 1, 3, 1]) f25_m1 f25_y6 f25_r
noncomputable def f25_m18 : KK := clr 36893206672442359793 f25_n18
noncomputable def play_Call_k18 (x1 x2 x3 x15 x48 : Value) (H : AH) : OV := f25_n18 (ls [u, x1, x2, x3, u, u, u, u, u, u, u, u, u, u, u, x15, u, u, u, u, u, u, u, u, u, u, u, u, u, u, u, u, u, u, u, u, u, u, u, u, u, u, u, u, u, u, u, u, x48] 16) H
noncomputable def f25_n20 : KK := CQ (f25_b [1, 1, 1, 0, 1, 4, 1, 3, 1, 3, 1]) f25_m1 f25_y6 f25_r
noncomputable def f25_m20 : KK := clr 36891236347605385201 f25_n20
noncomputable def play_Call_k20 (x1 x2 x3 x15 x51 : Value) (H : AH) : OV := f25_n20 (ls [u, x1, x2, x3, u, u, u, u, u, u, u, u, u, u, u, x15, u, u, u, u, u, u, u, u, u, u, u, u, u, u, u, u, u, u, u, u, u, u, u, u, u, u, u, u, u, u, u, u, u, u, u, x51] 13) H
theorem f25_r_d : Resp 36893488147419103227 f25_r := rf
theorem f25_n0_d : Resp 36893488147419103217 f25_n0 := rc f25_r_d kx0_d f25_r_d
theorem f25_n1_d : Resp 36893488147419103219 f25_n1 := rc f25_r_d kx0_d f25_r_d
theorem f25_n5_d : Resp 36893488147419070449 f25_n5 := rc (cd f25_n1_d) kx0_d f25_r_d
theorem f25_x6_d : ∀ i, Resp 36893488147419103219 (f25_x6 i) := rb (cd f25_n1_d) kx0_d
theorem f25_n7_d : Resp 36893488113059332081 f25_n7 := rc (cd f25_n1_d) (cx f25_x6_d) f25_r_d
theorem f25_n18_d : Resp 36893206672442359793 f25_n18 := rc (cd f25_n1_d) (cx f25_x6_d) f25_r_d
theorem f25_n20_d : Resp 36891236347605385201 f25_n20 := rc (cd f25_n1_d) (cx f25_x6_d) f25_r_d
theorem play_Call_k1_eq (x2 x3 : Value) (H : AH) : play_Call_k1 x2 x3 H =
  (pLdN 4 x3 H).bind fun v2 =>
  (pSt 4 x2 v2 H).bind fun H3 =>
  (pLdN 4 x2 H3).bind fun v4 => some (v4, H3) :=
  (by kernel_rfl)
theorem play_Call_k20_eq (x1 x2 x3 x15 x51 : Value) (H : AH) : play_Call_k20 x1 x2 x3 x15 x51 H =
  condK x51
  (mkS [(0, 1), (1, 1), (2, 1), (3, 1)] [(vi 0), (vi 0), (vi 0), (vi 0)] [(0, (vi 4))] fun v21 =>
  (pSt 4 x3 v21 H).bind fun H22 =>
  play_Call_k1 x2 x3 H22)
  ((pBin .other .eql x15 (vi 8)).bind fun v23 =>
  condK v23
  (ld [.f 2] x1 H fun v24 =>
  (FF n_play_Mod [v24, (vi 6)] H).bind fun r25 =>
  mkS [(0, 1), (1, 1), (2, 1), (3, 1)] [(vi 0), (vi 0), (vi 0), (vi 0)] [(0, (vi 5)), (2, r25.1)] fun v26 =>
  (pSt 4 x3 v26 r25.2).bind fun H27 =>
  play_Call_k1 x2 x3 H27)
  ((pBin .other .eql x15 (vi 9)).bind fun v28 =>
  condK v28
  (mkS [(0, 1), (1, 1), (2, 1), (3, 1)] [(vi 0), (vi 0), (vi 0), (vi 0)] [(0, (vi 6))] fun v29 =>
  (pSt 4 x3 v29 H).bind fun H30 =>
  play_Call_k1 x2 x3 H30)
  (ld [.f 2] x1 H fun v31 =>
  (FF n_play_Mod [v31, (vi 9)] H).bind fun r32 =>
  (pBin .other .add (vi 1) r32.1).bind fun v33 =>
  ad [.f 3] x1 fun v34 =>
  (pLd1 v34 r32.2).bind fun v35 =>
  eqK (pLd1 v34 H) (pLd1 v34 r32.2) <|
  (FF n_play_Mod [v35, (vi 1000)] r32.2).bind fun r36 =>
  st 1 [.f 0] x3 (vi 3) r36.2 fun H37 =>
  st 1 [.f 2] x3 v33 H37 fun H38 =>
  st 1 [.f 3] x3 r36.1 H38 fun H39 =>
  ld [.f 2] x1 H39 fun v40 =>
  (FF n_play_Mod [v40, (vi 13)] H39).bind fun r41 =>
  (pBin .other .eql r41.1 (vi 12)).bind fun v42 =>
  condK v42
  (ld [.f 2] x1 r41.2 fun v43 =>
  (FF n_play_Mod [v43, (vi 65536)] r41.2).bind fun r44 =>
  (pBin .other .add (vi 1) r44.1).bind fun v45 =>
  st 1 [.f 2] x3 v45 r44.2 fun H46 =>
  play_Call_k1 x2 x3 H46)
  (play_Call_k1 x2 x3 r41.2)))) :=
  (by kernel_rfl)
theorem play_Call_k18_eq (x1 x2 x3 x15 x48 : Value) (H : AH) : play_Call_k18 x1 x2 x3 x15 x48 H =
  condK x48
  (st 1 [.f 0] x3 (vi 2) H fun H19 =>
  play_Call_k1 x2 x3 H19)
  ((pBin .other .eql x15 (vi 6)).bind fun v47 =>
  condK v47
  (play_Call_k20 x1 x2 x3 x15 v47 H)
  ((pBin .other .eql x15 (vi 7)).bind fun v48 =>
  play_Call_k20 x1 x2 x3 x15 v48 H)) :=
  (ct rfl (f25_b [1, 1, 1, 0, 1, 4, 1, 3, 1, 2]) (f25_b [1, 1, 1, 0, 1, 4, 1, 3, 1, 3]) (.tmp 48) (by kernel_rfl) (pt rfl 0 f25_n20_d (by kernel_rfl)))
theorem play_Call_k7_eq (x1 x2 x3 x15 x35 : Value) (H : AH) : play_Call_k7 x1 x2 x3 x15 x35 H =
  condK x35
  (ld [.f 2] x1 H fun v8 =>
  (FF n_play_Mod [v8, (vi 5)] H).bind fun r9 =>
  (pBin .other .add (vi 1) r9.1).bind fun v10 =>
  ad [.f 3] x1 fun v11 =>
  (pLd1 v11 r9.2).bind fun v12 =>
  eqK (pLd1 v11 H) (pLd1 v11 r9.2) <|
  (FF n_play_Mod [v12, (vi 3)] r9.2).bind fun r13 =>
  (pBin .other .add (vi 1) r13.1).bind fun v14 =>
  st 1 [.f 0] x3 (vi 1) r13.2 fun H15 =>
  st 1 [.f 2] x3 v10 H15 fun H16 =>
  st 1 [.f 3] x3 v14 H16 fun H17 =>
  play_Call_k1 x2 x3 H17)
  ((pBin .other .eql x15 (vi 1)).bind fun v49 =>
  play_Call_k18 x1 x2 x3 x15 v49 H) :=
  (ct rfl (f25_b [1, 1, 1, 0, 1, 4, 1, 2]) (f25_b [1, 1, 1, 0, 1, 4, 1, 3]) (.tmp 35) (by kernel_rfl) (pt rfl 0 f25_n18_d (by kernel_rfl)))
theorem play_Call_k5_eq (x1 x2 x3 x15 : Value) (H : AH) : play_Call_k5 x1 x2 x3 x15 H =
  (pBin .other .eql x15 (vi 0)).bind fun v50 =>
  play_Call_k7 x1 x2 x3 x15 v50 H :=
  (bt rfl (f25_b [1, 1, 1, 0, 1, 4]) 0 f25_x6_d (pt rfl 0 f25_n7_d (by kernel_rfl)))
theorem play_Call_k0_eq (x1 x2 x3 : Value) (H : AH) : play_Call_k0 x1 x2 x3 H =
  ld [.f 0] x1 H fun v51 =>
  (FF n_play_Mod [v51, (vi 10)] H).bind fun r52 =>
  play_Call_k5 x1 x2 x3 r52.1 r52.2 :=
  (pt rfl 0 f25_n1_d (pt rfl 0 f25_n5_d (by kernel_rfl)))
noncomputable def play_Call (x0 : Value) (H : AH) : OV := cCode PP GG FF (f25_b []) (ls [x0] 64) H f25_r kx0 f25_r
theorem play_Call_of (x0 : Value) (H : AH) {r : Value × AH} (h : (
  newK (Value.cells x0).toList H fun v53 H54 =>
  newK [(vi 0), (vi 0), (vi 0), (vi 0)] H54 fun v55 H56 =>
  ld [.f 1] v53 H56 fun v57 =>
  (FF n_play_Mod [v57, (vi 23)] H56).bind fun r58 =>
  (pBin .other .eql r58.1 (vi 22)).bind fun v59 =>
  condK v59
  ((pLdN 4 v53 r58.2).bind fun v60 =>
  (pSt 4 v55 v60 r58.2).bind fun H61 =>
  (pLdN 4 v55 H61).bind fun v62 => some (v62, H61))
  (ld [.f 1] v53 r58.2 fun v63 =>
  (FF n_play_Mod [v63, (vi 5)] r58.2).bind fun r64 =>
  mkS [(0, 1), (1, 1), (2, 1), (3, 1)] [(vi 0), (vi 0), (vi 0), (vi 0)] [(1, r64.1)] fun v65 =>
  newK [(vi 0), (vi 0), (vi 0), (vi 0)] r64.2 fun v66 H67 =>
  (pSt 4 v66 v65 H67).bind fun H68 =>
  play_Call_k0 v53 v55 v66 H68)) = some r) : FF n_play_Call [x0] H = some r :=
  fo (t := play_Call x0 H) Tryz.func25 (by kernel_rfl) (Eq.trans (pt rfl 2 f25_n0_d (by kernel_rfl)) h)

-- FUNCTION r09_Right
theorem r09_Right_of (x0 : Value) (H : AH) {r : Value × AH} (h : (
  newK (Value.cells x0).toList H fun v0 H1 =>
  ld [.f 0] v0 H1 fun v2 =>
  (pBin .other .geq v2 (vi 1)).bind fun v3 =>
  gld v3 true  [.f 0] v0 H1 fun v4 =>
  (gB v3 true (pBin .other .leq v4 (vi 4))).bind fun v5 =>
  (pPick v3 v5 (vb false)).bind fun v6 =>
  gld v6 true  [.f 1] v0 H1 fun v7 =>
  (gB v6 true (pBin .other .geq v7 (vi 1))).bind fun v8 =>
  (pPick v6 v8 (vb false)).bind fun v9 =>
  gld v9 true  [.f 1] v0 H1 fun v10 =>
  (gB v9 true (pBin .other .leq v10 (vi 4))).bind fun v11 =>
  (pPick v9 v11 (vb false)).bind fun v12 =>
  gld v12 true  [.f 2] v0 H1 fun v13 =>
  (gB v12 true (pBin .other .geq v13 (vi 1))).bind fun v14 =>
  (pPick v12 v14 (vb false)).bind fun v15 =>
  gld v15 true  [.f 2] v0 H1 fun v16 =>
  (gB v15 true (pBin .other .leq v16 (vi 6))).bind fun v17 =>
  (pPick v15 v17 (vb false)).bind fun v18 =>
  gld v18 true  [.f 3] v0 H1 fun v19 =>
  (gB v18 true (pBin .other .geq v19 (vi 0))).bind fun v20 =>
  (pPick v18 v20 (vb false)).bind fun v21 =>
  gld v21 true  [.f 3] v0 H1 fun v22 =>
  (gB v21 true (pBin .other .leq v22 (vi 40))).bind fun v23 =>
  (pPick v21 v23 (vb false)).bind fun v24 =>
  gld v24 true  [.f 4] v0 H1 fun v25 =>
  (gB v24 true (pBin .other .geq v25 (vw 1))).bind fun v26 =>
  (pPick v24 v26 (vb false)).bind fun v27 =>
  gld v27 true  [.f 4] v0 H1 fun v28 =>
  (gB v27 true (pBin .other .leq v28 (vw 4611686018427387904))).bind fun v29 =>
  (pPick v27 v29 (vb false)).bind fun v30 =>
  some (v30, H1)) = some r) : FF n_r09_Right [x0] H = some r :=
  fo Tryz.func26 (by kernel_rfl) h

-- FUNCTION r16_Calls
noncomputable def f27_b (p : List Nat) : Code := Code.sub (bodyOf Tryz.f27) p
noncomputable def f27_r : KK := cFin PP (Tryz.f27).results.toList
noncomputable def f27_n0 : KK := CQ (f27_b [1, 1]) f27_r kx0 f27_r
noncomputable def f27_m0 : KK := clr 2097137 f27_n0
noncomputable def r16_Calls_k0 (x1 x2 x3 : Value) (H : AH) : OV := f27_n0 (ls [u, x1, x2, x3] 17) H
noncomputable def f27_n1 : KK := CQ (f27_b [1, 1, 1]) f27_r kx0 f27_r
noncomputable def f27_m1 : KK := clr 2097139 f27_n1
noncomputable def r16_Calls_k1 (x2 x3 : Value) (H : AH) : OV := f27_n1 (ls [u, u, x2, x3] 17) H
noncomputable def f27_n2 : KK := CQ (f27_b [1, 1, 0, 1]) f27_m1 kx0 f27_r
noncomputable def f27_m2 : KK := clr 2097121 f27_n2
noncomputable def r16_Calls_k2 (x1 x2 x3 x4 : Value) (H : AH) : OV := f27_n2 (ls [u, x1, x2, x3, x4] 16) H
noncomputable def f27_x3 : KX := BX 0 f27_m1 kx0
noncomputable def f27_y3 : KX := clx 2097139 f27_x3
noncomputable def f27_n4 : KK := CLq (f27_b [1, 1, 0, 1, 4, 5]) f27_y3 f27_r
noncomputable def f27_m4 : KK := clr 2097121 f27_n4
-- a loop
noncomputable def r16_Calls_k4 (x1 x2 x3 x4 : Value) (H : AH) : OV := f27_n4 (ls [u, x1, x2, x3, x4] 16) H
noncomputable def f27_n5 : KK := CQ (f27_b [1, 1, 0, 1, 4, 5, 1]) f27_m4 f27_y3 f27_r
noncomputable def f27_m5 : KK := clr 2097121 f27_n5
noncomputable def r16_Calls_k5 (x1 x2 x3 x4 : Value) (H : AH) : OV := f27_n5 (ls [u, x1, x2, x3, x4] 16) H
noncomputable def f27_n6 : KK := CQ (f27_b [1, 1, 0, 1, 4, 5, 1, 1]) f27_m4 f27_y3 f27_r
noncomputable def f27_m6 : KK := clr 2097121 f27_n6
noncomputable def r16_Calls_k6 (x1 x2 x3 x4 : Value) (H : AH) : OV := f27_n6 (ls [u, x1, x2, x3, x4] 16) H
noncomputable def f27_x8 : KX := BX 1 f27_m6 f27_y3
noncomputable def f27_y8 : KX := clx 2097121 f27_x8
noncomputable def r16_Calls_e3_0 (x2 x3 : Value) (H : AH) : OV := f27_x3 0 (ls [u, u, x2, x3] 17) H
theorem f27_r_d : Resp 2097147 f27_r := rf
theorem f27_n0_d : Resp 2097137 f27_n0 := rc f27_r_d kx0_d f27_r_d
theorem f27_n1_d : Resp 2097139 f27_n1 := rc f27_r_d kx0_d f27_r_d
theorem f27_n2_d : Resp 2097121 f27_n2 := rc (cd f27_n1_d) kx0_d f27_r_d
theorem f27_x3_d : ∀ i, Resp 2097139 (f27_x3 i) := rb (cd f27_n1_d) kx0_d
theorem f27_n4_d : Resp 2097121 f27_n4 := rl (cx f27_x3_d) f27_r_d
theorem f27_n5_d : Resp 2097121 f27_n5 := rc (cd f27_n4_d) (cx f27_x3_d) f27_r_d
theorem f27_n6_d : Resp 2097121 f27_n6 := rc (cd f27_n4_d) (cx f27_x3_d) f27_r_d
theorem f27_x8_d : ∀ i, Resp 2097121 (f27_x8 i) := rb (cd f27_n6_d) (cx f27_x3_d)
theorem r16_Calls_k1_eq (x2 x3 : Value) (H : AH) : r16_Calls_k1 x2 x3 H =
  some (x3, H) :=
  (by kernel_rfl)
theorem r16_Calls_k6_eq (x1 x2 x3 x4 : Value) (H : AH) : r16_Calls_k6 x1 x2 x3 x4 H =
  (pBin .other .add x4 (vi 1)).bind fun v7 =>
  r16_Calls_k4 x1 x2 x3 v7 H :=
  (by kernel_rfl)
theorem r16_Calls_k5_eq (x1 x2 x3 x4 : Value) (H : AH) : r16_Calls_k5 x1 x2 x3 x4 H =
  ld [.f 5] x1 H fun v9 =>
  ld [.i 1 x4] v9 H fun v10 =>
  lenK v10 fun v11 =>
  (pBin .other .add x3 v11).bind fun v12 =>
  r16_Calls_k6 x1 x2 v12 x4 H :=
  (pt rfl 0 f27_n6_d (bt rfl (f27_b [1, 1, 0, 1, 4, 5, 1, 0, 4]) 1 f27_x8_d (by kernel_rfl)))
theorem r16_Calls_e3_0_eq (x2 x3 : Value) (H : AH) : r16_Calls_e3_0 x2 x3 H = r16_Calls_k1 x2 x3 H :=
  (by kernel_rfl)
theorem r16_Calls_k4_eq (x1 x2 x3 x4 : Value) (H : AH) : r16_Calls_k4 x1 x2 x3 x4 H =
  ld [.f 5] x1 H fun v13 =>
  lenK v13 fun v14 =>
  (pBin .other .lss x4 v14).bind fun v15 =>
  condK v15
  (r16_Calls_k5 x1 x2 x3 x4 H)
  (r16_Calls_e3_0 x2 x3 H) :=
  lt' rfl f27_n4_d (pt rfl 0 f27_n5_d (by kernel_rfl))
theorem r16_Calls_k2_eq (x1 x2 x3 x4 : Value) (H : AH) : r16_Calls_k2 x1 x2 x3 x4 H =
  r16_Calls_k4 x1 x2 x3 x4 H :=
  (bt rfl (f27_b [1, 1, 0, 1, 4]) 0 f27_x3_d (li rfl (f27_b [1, 1, 0, 1, 4, 5]) f27_n4_d (by kernel_rfl)))
theorem r16_Calls_k0_eq (x1 x2 x3 : Value) (H : AH) : r16_Calls_k0 x1 x2 x3 H =
  r16_Calls_k2 x1 x2 x3 (vi 0) H :=
  (pt rfl 0 f27_n1_d (pt rfl 0 f27_n2_d (by kernel_rfl)))
noncomputable def r16_Calls (x0 : Value) (H : AH) : OV := cCode PP GG FF (f27_b []) (ls [x0] 20) H f27_r kx0 f27_r
theorem r16_Calls_of (x0 : Value) (H : AH) {r : Value × AH} (h : (
  newK (Value.cells x0).toList H fun v16 H17 =>
  r16_Calls_k0 v16 (vi 0) (vi 0) H17) = some r) : FF n_r16_Calls [x0] H = some r :=
  fo (t := r16_Calls x0 H) Tryz.func27 (by kernel_rfl) (Eq.trans (pt rfl 1 f27_n0_d (by kernel_rfl)) h)

-- FUNCTION world_New
noncomputable def f29_b (p : List Nat) : Code := Code.sub (bodyOf Tryz.f29) p
noncomputable def f29_r : KK := cFin PP (Tryz.f29).results.toList
noncomputable def f29_n0 : KK := CQ (f29_b [1, 1]) f29_r kx0 f29_r
noncomputable def f29_m0 : KK := clr 18889465931478580854753 f29_n0
noncomputable def world_New_k0 (x1 x2 x3 x4 : Value) (H : AH) : OV := f29_n0 (ls [u, x1, x2, x3, x4] 69) H
noncomputable def f29_n1 : KK := CQ (f29_b [1, 1, 1]) f29_r kx0 f29_r
noncomputable def f29_m1 : KK := clr 18889465931478580854753 f29_n1
noncomputable def world_New_k1 (x1 x2 x3 x4 : Value) (H : AH) : OV := f29_n1 (ls [u, x1, x2, x3, x4] 69) H
noncomputable def f29_n2 : KK := CQ (f29_b [1, 1, 1, 1, 1, 1]) f29_r kx0 f29_r
noncomputable def f29_m2 : KK := clr 18889465931478580854641 f29_n2
noncomputable def world_New_k2 (x1 x2 x3 x7 : Value) (H : AH) : OV := f29_n2 (ls [u, x1, x2, x3, u, u, u, x7] 66) H
noncomputable def f29_n3 : KK := CQ (f29_b [1, 1, 1, 1, 1, 1, 1]) f29_r kx0 f29_r
noncomputable def f29_m3 : KK := clr 18889465931478580854643 f29_n3
noncomputable def world_New_k3 (x2 x3 x7 : Value) (H : AH) : OV := f29_n3 (ls [u, u, x2, x3, u, u, u, x7] 66) H
noncomputable def f29_n4 : KK := CQ (f29_b [1, 1, 1, 1, 1, 1, 0, 1]) f29_m3 kx0 f29_r
noncomputable def f29_m4 : KK := clr 18888961528320315359091 f29_n4
noncomputable def world_New_k4 (x2 x3 x7 x56 x57 x58 : Value) (H : AH) : OV := f29_n4 (ls [u, u, x2, x3, u, u, u, x7, u, u, u, u, u, u, u, u, u, u, u, u, u, u, u, u, u, u, u, u, u, u, u, u, u, u, u, u, u, u, u, u, u, u, u, u, u, u, u, u, u, u, u, u, u, u, u, u, x56, x57, x58] 15) H
noncomputable def f29_x5 : KX := BX 2 f29_m3 kx0
noncomputable def f29_y5 : KX := clx 18889465931478580854643 f29_x5
noncomputable def f29_n6 : KK := CLq (f29_b [1, 1, 1, 1, 1, 1, 0, 1, 4, 5]) f29_y5 f29_r
noncomputable def f29_m6 : KK := clr 18888961528320315359091 f29_n6
-- a loop
noncomputable def world_New_k6 (x2 x3 x7 x56 x57 x58 : Value) (H : AH) : OV := f29_n6 (ls [u, u, x2, x3, u, u, u, x7, u, u, u, u, u, u, u, u, u, u, u, u, u, u, u, u, u, u, u, u, u, u, u, u, u, u, u, u, u, u, u, u, u, u, u, u, u, u, u, u, u, u, u, u, u, u, u, u, x56, x57, x58] 15) H
noncomputable def f29_n7 : KK := CQ (f29_b [1, 1, 1, 1, 1, 1, 0, 1, 4, 5, 1, 1]) f29_m6 f29_y5 f29_r
noncomputable def f29_m7 : KK := clr 18888961528320315359091 f29_n7
noncomputable def world_New_k7 (x2 x3 x7 x56 x57 x58 : Value) (H : AH) : OV := f29_n7 (ls [u, u, x2, x3, u, u, u, x7, u, u, u, u, u, u, u, u, u, u, u, u, u, u, u, u, u, u, u, u, u, u, u, u, u, u, u, u, u, u, u, u, u, u, u, u, u, u, u, u, u, u, u, u, u, u, u, u, x56, x57, x58] 15) H
noncomputable def f29_n8 : KK := CQ (f29_b [1, 1, 1, 1, 1, 1, 0, 1, 4, 5, 1, 1, 1]) f29_m6 f29_y5 f29_r
noncomputable def f29_m8 : KK := clr 18888961528320315359091 f29_n8
noncomputable def world_New_k8 (x2 x3 x7 x56 x57 x58 : Value) (H : AH) : OV := f29_n8 (ls [u, u, x2, x3, u, u, u, x7, u, u, u, u, u, u, u, u, u, u, u, u, u, u, u, u, u, u, u, u, u, u, u, u, u, u, u, u, u, u, u, u, u, u, u, u, u, u, u, u, u, u, u, u, u, u, u, u, x56, x57, x58] 15) H
noncomputable def f29_x10 : KX := BX 3 f29_m8 f29_y5
noncomputable def f29_y10 : KX := clx 18888961528320315359091 f29_x10
noncomputable def world_New_e5_2 (x2 x3 x7 : Value) (H : AH) : OV := f29_x5 2 (ls [u, u, x2, x3, u, u, u, x7] 66) H
noncomputable def f29_n40 : KK := CQ (f29_b [1, 1, 0, 1]) f29_m1 kx0 f29_r
noncomputable def f29_m40 : KK := clr 18889465931478580840417 f29_n40
noncomputable def world_New_k40 (x1 x2 x3 x4 x11 x12 x13 : Value) (H : AH) : OV := f29_n40 (ls [u, x1, x2, x3, x4, u, u, u, u, u, u, x11, x12, x13] 60) H
noncomputable def f29_x41 : KX := BX 0 f29_m1 kx0
noncomputable def f29_y41 : KX := clx 18889465931478580854753 f29_x41
noncomputable def f29_n42 : KK := CLq (f29_b [1, 1, 0, 1, 4, 5]) f29_y41 f29_r
noncomputable def f29_m42 : KK := clr 18889465931478580840417 f29_n42
-- a loop
noncomputable def world_New_k42 (x1 x2 x3 x4 x11 x12 x13 : Value) (H : AH) : OV := f29_n42 (ls [u, x1, x2, x3, x4, u, u, u, u, u, u, x11, x12, x13] 60) H
noncomputable def f29_n43 : KK := CQ (f29_b [1, 1, 0, 1, 4, 5, 1, 1]) f29_m42 f29_y41 f29_r
noncomputable def f29_m43 : KK := clr 18889465931478580840417 f29_n43
noncomputable def world_New_k43 (x1 x2 x3 x4 x11 x12 x13 : Value) (H : AH) : OV := f29_n43 (ls [u, x1, x2, x3, x4, u, u, u, u, u, u, x11, x12, x13] 60) H
noncomputable def f29_n44 : KK := CQ (f29_b [1, 1, 0, 1, 4, 5, 1, 1, 1]) f29_m42 f29_y41 f29_r
noncomputable def f29_m44 : KK := clr 18889465931478580840417 f29_n44
noncomputable def world_New_k44 (x1 x2 x3 x4 x11 x12 x13 : Value) (H : AH) : OV := f29_n44 (ls [u, x1, x2, x3, x4, u, u, u, u, u, u, x11, x12, x13] 60) H
noncomputable def f29_x46 : KX := BX 1 f29_m44 f29_y41
noncomputable def f29_y46 : KX := clx 18889465931478580840417 f29_x46
noncomputable def world_New_e41_0 (x1 x2 x3 x4 : Value) (H : AH) : OV := f29_x41 0 (ls [u, x1, x2, x3, x4] 69) H
theorem f29_r_d : Resp 18889465931478580854771 f29_r := rf
theorem f29_n0_d : Resp 18889465931478580854753 f29_n0 := rc f29_r_d kx0_d f29_r_d
theorem f29_n1_d : Resp 18889465931478580854753 f29_n1 := rc f29_r_d kx0_d f29_r_d
theorem f29_n2_d : Resp 18889465931478580854641 f29_n2 := rc f29_r_d kx0_d f29_r_d
theorem f29_n3_d : Resp 18889465931478580854643 f29_n3 := rc f29_r_d kx0_d f29_r_d
theorem f29_n4_d : Resp 18888961528320315359091 f29_n4 := rc (cd f29_n3_d) kx0_d f29_r_d
theorem f29_x5_d : ∀ i, Resp 18889465931478580854643 (f29_x5 i) := rb (cd f29_n3_d) kx0_d
theorem f29_n6_d : Resp 18888961528320315359091 f29_n6 := rl (cx f29_x5_d) f29_r_d
theorem f29_n7_d : Resp 18888961528320315359091 f29_n7 := rc (cd f29_n6_d) (cx f29_x5_d) f29_r_d
theorem f29_n8_d : Resp 18888961528320315359091 f29_n8 := rc (cd f29_n6_d) (cx f29_x5_d) f29_r_d
theorem f29_x10_d : ∀ i, Resp 18888961528320315359091 (f29_x10 i) := rb (cd f29_n8_d) (cx f29_x5_d)
theorem f29_n40_d : Resp 18889465931478580840417 f29_n40 := rc (cd f29_n1_d) kx0_d f29_r_d
theorem f29_x41_d : ∀ i, Resp 18889465931478580854753 (f29_x41 i) := rb (cd f29_n1_d) kx0_d
theorem f29_n42_d : Resp 18889465931478580840417 f29_n42 := rl (cx f29_x41_d) f29_r_d
theorem f29_n43_d : Resp 18889465931478580840417 f29_n43 := rc (cd f29_n42_d) (cx f29_x41_d) f29_r_d
theorem f29_n44_d : Resp 18889465931478580840417 f29_n44 := rc (cd f29_n42_d) (cx f29_x41_d) f29_r_d
theorem f29_x46_d : ∀ i, Resp 18889465931478580840417 (f29_x46 i) := rb (cd f29_n44_d) (cx f29_x41_d)
theorem world_New_k3_eq (x2 x3 x7 : Value) (H : AH) : world_New_k3 x2 x3 x7 H =
  some (Value.tuple #[x7, (vi 0)], H) :=
  (by kernel_rfl)
theorem world_New_k8_eq (x2 x3 x7 x56 x57 x58 : Value) (H : AH) : world_New_k8 x2 x3 x7 x56 x57 x58 H =
  (pBin .other .add x58 (vi 1)).bind fun v9 =>
  world_New_k6 x2 x3 x7 x56 x57 v9 H :=
  (by kernel_rfl)
theorem world_New_k7_eq (x2 x3 x7 x56 x57 x58 : Value) (H : AH) : world_New_k7 x2 x3 x7 x56 x57 x58 H =
  ld [.i 1 x58] x56 H fun v11 =>
  ad [.n, .f 1] x7 fun v12 =>
  (pLd1 v12 H).bind fun v13 =>
  (FF n_slices_Cloneapi_Callapi_Call [v11] H).bind fun r14 =>
  eqK (pLd1 v12 r14.2) (pLd1 v12 H) <|
  st 1 [.i 3 x58, .f 0] v13 r14.1 r14.2 fun H15 =>
  world_New_k8 x2 x3 x7 x56 x57 x58 H15 :=
  (pt rfl 0 f29_n8_d (bt rfl (f29_b [1, 1, 1, 1, 1, 1, 0, 1, 4, 5, 1, 1, 0, 4]) 3 f29_x10_d (by kernel_rfl)))
theorem world_New_e5_2_eq (x2 x3 x7 : Value) (H : AH) : world_New_e5_2 x2 x3 x7 H = world_New_k3 x2 x3 x7 H :=
  (by kernel_rfl)
theorem world_New_k6_eq (x2 x3 x7 x56 x57 x58 : Value) (H : AH) : world_New_k6 x2 x3 x7 x56 x57 x58 H =
  (pBin .other .lss x58 x57).bind fun v16 =>
  condK v16
  (world_New_k7 x2 x3 x7 x56 x57 x58 H)
  (world_New_e5_2 x2 x3 x7 H) :=
  lt' rfl f29_n6_d (pt rfl 1 f29_n7_d (by kernel_rfl))
theorem world_New_k4_eq (x2 x3 x7 x56 x57 x58 : Value) (H : AH) : world_New_k4 x2 x3 x7 x56 x57 x58 H =
  world_New_k6 x2 x3 x7 x56 x57 x58 H :=
  (bt rfl (f29_b [1, 1, 1, 1, 1, 1, 0, 1, 4]) 2 f29_x5_d (li rfl (f29_b [1, 1, 1, 1, 1, 1, 0, 1, 4, 5]) f29_n6_d (by kernel_rfl)))
theorem world_New_k2_eq (x1 x2 x3 x7 : Value) (H : AH) : world_New_k2 x1 x2 x3 x7 H =
  ld [.f 5] x1 H fun v17 =>
  lenK v17 fun v18 =>
  world_New_k4 x2 x3 x7 v17 v18 (vi 0) H :=
  (pt rfl 0 f29_n3_d (pt rfl 0 f29_n4_d (by kernel_rfl)))
theorem world_New_k1_eq (x1 x2 x3 x4 : Value) (H : AH) : world_New_k1 x1 x2 x3 x4 H =
  ldN 5 [.f 0] x1 H fun v19 =>
  (FF n_model_Right [v19] H).bind fun r20 =>
  (pUn .not r20.1).bind fun v21 =>
  gld v21 false  [.f 5] x1 r20.2 fun v22 =>
  (onK (yv v21) false (lenK v22 some) (some undef)).bind fun v23 =>
  gld v21 false  [.f 0, .f 2] x1 r20.2 fun v24 =>
  (gB v21 false (pBin .other .gtr v23 v24)).bind fun v25 =>
  (pPick v21 (vb true) v25).bind fun v26 =>
  (gV v26 false x4).bind fun v27 =>
  (gB v26 false (pBin .other .gtr v27 (vi 60))).bind fun v28 =>
  (pPick v26 (vb true) v28).bind fun v29 =>
  condK v29
  (some (Value.tuple #[(.pointer none), (vi 1)], r20.2))
  (ld [.f 0, .f 2] x1 r20.2 fun v30 =>
  (pMake [(.slice none 0 0), (.slice none 0 0), Value.nilFunc] 3 56 v30 v30 r20.2).bind fun r31 =>
  mkS [(0, 1), (1, 1), (2, 1), (3, 1)] [(.pointer none), (.slice none 0 0), (vi 0), (vi 0)] [(1, r31.1), (3, x4)] fun v32 =>
  newK (Value.cells v32).toList r31.2 fun v33 H34 =>
  ldN 5 [.f 0] x1 H34 fun v35 =>
  (FF n_parts_New [v35] H34).bind fun r36 =>
  (pExtract r36.1 0).bind fun v37 =>
  (pExtract r36.1 1).bind fun v38 =>
  st 1 [.n, .f 0] v33 v37 r36.2 fun H39 =>
  world_New_k2 x1 x2 x3 v33 H39) :=
  (pt rfl 2 f29_n2_d (by kernel_rfl))
theorem world_New_k44_eq (x1 x2 x3 x4 x11 x12 x13 : Value) (H : AH) : world_New_k44 x1 x2 x3 x4 x11 x12 x13 H =
  (pBin .other .add x13 (vi 1)).bind fun v45 =>
  world_New_k42 x1 x2 x3 x4 x11 x12 v45 H :=
  (by kernel_rfl)
theorem world_New_k43_eq (x1 x2 x3 x4 x11 x12 x13 : Value) (H : AH) : world_New_k43 x1 x2 x3 x4 x11 x12 x13 H =
  ld [.i 1 x13] x11 H fun v47 =>
  lenK v47 fun v48 =>
  (pBin .other .add x4 v48).bind fun v49 =>
  world_New_k44 x1 x2 x3 v49 x11 x12 x13 H :=
  (pt rfl 0 f29_n44_d (bt rfl (f29_b [1, 1, 0, 1, 4, 5, 1, 1, 0, 4]) 1 f29_x46_d (by kernel_rfl)))
theorem world_New_e41_0_eq (x1 x2 x3 x4 : Value) (H : AH) : world_New_e41_0 x1 x2 x3 x4 H = world_New_k1 x1 x2 x3 x4 H :=
  (by kernel_rfl)
theorem world_New_k42_eq (x1 x2 x3 x4 x11 x12 x13 : Value) (H : AH) : world_New_k42 x1 x2 x3 x4 x11 x12 x13 H =
  (pBin .other .lss x13 x12).bind fun v50 =>
  condK v50
  (world_New_k43 x1 x2 x3 x4 x11 x12 x13 H)
  (world_New_e41_0 x1 x2 x3 x4 H) :=
  lt' rfl f29_n42_d (pt rfl 1 f29_n43_d (by kernel_rfl))
theorem world_New_k40_eq (x1 x2 x3 x4 x11 x12 x13 : Value) (H : AH) : world_New_k40 x1 x2 x3 x4 x11 x12 x13 H =
  world_New_k42 x1 x2 x3 x4 x11 x12 x13 H :=
  (bt rfl (f29_b [1, 1, 0, 1, 4]) 0 f29_x41_d (li rfl (f29_b [1, 1, 0, 1, 4, 5]) f29_n42_d (by kernel_rfl)))
theorem world_New_k0_eq (x1 x2 x3 x4 : Value) (H : AH) : world_New_k0 x1 x2 x3 x4 H =
  ld [.f 5] x1 H fun v51 =>
  lenK v51 fun v52 =>
  world_New_k40 x1 x2 x3 x4 v51 v52 (vi 0) H :=
  (pt rfl 0 f29_n1_d (pt rfl 0 f29_n40_d (by kernel_rfl)))
noncomputable def world_New (x0 : Value) (H : AH) : OV := cCode PP GG FF (f29_b []) (ls [x0] 73) H f29_r kx0 f29_r
theorem world_New_of (x0 : Value) (H : AH) {r : Value × AH} (h : (
  newK (Value.cells x0).toList H fun v53 H54 =>
  world_New_k0 v53 (.pointer none) (vi 0) (vi 0) H54) = some r) : FF n_world_New [x0] H = some r :=
  fo (t := world_New x0 H) Tryz.func29 (by kernel_rfl) (Eq.trans (pt rfl 1 f29_n0_d (by kernel_rfl)) h)

-- FUNCTION pace_slide
noncomputable def f30_b (p : List Nat) : Code := Code.sub (bodyOf Tryz.f30) p
noncomputable def f30_r : KK := cFin PP (Tryz.f30).results.toList
noncomputable def f30_n0 : KK := CQ (f30_b [1]) f30_r kx0 f30_r
noncomputable def f30_m0 : KK := clr 4398046510832 f30_n0
noncomputable def pace_slide_k0 (x0 x1 x2 x3 x8 : Value) (H : AH) : OV := f30_n0 (ls [x0, x1, x2, x3, u, u, u, u, x8] 33) H
noncomputable def f30_n1 : KK := CQ (f30_b [1, 1]) f30_r kx0 f30_r
noncomputable def f30_m1 : KK := clr 4398046510847 f30_n1
noncomputable def pace_slide_k1 (x8 : Value) (H : AH) : OV := f30_n1 (ls [u, u, u, u, u, u, u, u, x8] 33) H
noncomputable def f30_n2 : KK := CQ (f30_b [1, 0, 1]) f30_m1 kx0 f30_r
noncomputable def f30_m2 : KK := clr 4398046496496 f30_n2
noncomputable def pace_slide_k2 (x0 x1 x2 x3 x8 x11 x12 x13 : Value) (H : AH) : OV := f30_n2 (ls [x0, x1, x2, x3, u, u, u, u, x8, u, u, x11, x12, x13] 28) H
noncomputable def f30_x3 : KX := BX 0 f30_m1 kx0
noncomputable def f30_y3 : KX := clx 4398046510847 f30_x3
noncomputable def f30_n4 : KK := CLq (f30_b [1, 0, 1, 4, 5]) f30_y3 f30_r
noncomputable def f30_m4 : KK := clr 4398046496496 f30_n4
-- a loop
noncomputable def pace_slide_k4 (x0 x1 x2 x3 x8 x11 x12 x13 : Value) (H : AH) : OV := f30_n4 (ls [x0, x1, x2, x3, u, u, u, u, x8, u, u, x11, x12, x13] 28) H
noncomputable def f30_n5 : KK := CQ (f30_b [1, 0, 1, 4, 5, 1, 1]) f30_m4 f30_y3 f30_r
noncomputable def f30_m5 : KK := clr 4398046496496 f30_n5
noncomputable def pace_slide_k5 (x0 x1 x2 x3 x8 x11 x12 x13 : Value) (H : AH) : OV := f30_n5 (ls [x0, x1, x2, x3, u, u, u, u, x8, u, u, x11, x12, x13] 28) H
noncomputable def f30_n6 : KK := CQ (f30_b [1, 0, 1, 4, 5, 1, 1, 1]) f30_m4 f30_y3 f30_r
noncomputable def f30_m6 : KK := clr 4398046496496 f30_n6
noncomputable def pace_slide_k6 (x0 x1 x2 x3 x8 x11 x12 x13 : Value) (H : AH) : OV := f30_n6 (ls [x0, x1, x2, x3, u, u, u, u, x8, u, u, x11, x12, x13] 28) H
noncomputable def f30_x8 : KX := BX 1 f30_m6 f30_y3
noncomputable def f30_y8 : KX := clx 4398046496496 f30_x8
noncomputable def f30_n9 : KK := CQ (f30_b [1, 0, 1, 4, 5, 1, 1, 0, 4, 1, 1]) f30_m6 f30_y8 f30_r
noncomputable def f30_m9 : KK := clr 4398046495984 f30_n9
noncomputable def pace_slide_k9 (x0 x1 x2 x3 x8 x9 x11 x12 x13 : Value) (H : AH) : OV := f30_n9 (ls [x0, x1, x2, x3, u, u, u, u, x8, x9, u, x11, x12, x13] 28) H
noncomputable def f30_n10 : KK := CQ (f30_b [1, 0, 1, 4, 5, 1, 1, 0, 4, 1, 1, 1]) f30_m6 f30_y8 f30_r
noncomputable def f30_m10 : KK := clr 4398046495984 f30_n10
noncomputable def pace_slide_k10 (x0 x1 x2 x3 x8 x9 x11 x12 x13 : Value) (H : AH) : OV := f30_n10 (ls [x0, x1, x2, x3, u, u, u, u, x8, x9, u, x11, x12, x13] 28) H
noncomputable def pace_slide_e3_0 (x8 : Value) (H : AH) : OV := f30_x3 0 (ls [u, u, u, u, u, u, u, u, x8] 33) H
theorem f30_r_d : Resp 4398046510847 f30_r := rf
theorem f30_n0_d : Resp 4398046510832 f30_n0 := rc f30_r_d kx0_d f30_r_d
theorem f30_n1_d : Resp 4398046510847 f30_n1 := rc f30_r_d kx0_d f30_r_d
theorem f30_n2_d : Resp 4398046496496 f30_n2 := rc (cd f30_n1_d) kx0_d f30_r_d
theorem f30_x3_d : ∀ i, Resp 4398046510847 (f30_x3 i) := rb (cd f30_n1_d) kx0_d
theorem f30_n4_d : Resp 4398046496496 f30_n4 := rl (cx f30_x3_d) f30_r_d
theorem f30_n5_d : Resp 4398046496496 f30_n5 := rc (cd f30_n4_d) (cx f30_x3_d) f30_r_d
theorem f30_n6_d : Resp 4398046496496 f30_n6 := rc (cd f30_n4_d) (cx f30_x3_d) f30_r_d
theorem f30_x8_d : ∀ i, Resp 4398046496496 (f30_x8 i) := rb (cd f30_n6_d) (cx f30_x3_d)
theorem f30_n9_d : Resp 4398046495984 f30_n9 := rc (cd f30_n6_d) (cx f30_x8_d) f30_r_d
theorem f30_n10_d : Resp 4398046495984 f30_n10 := rc (cd f30_n6_d) (cx f30_x8_d) f30_r_d
theorem pace_slide_k1_eq (x8 : Value) (H : AH) : pace_slide_k1 x8 H =
  some ((vb true), H) :=
  (by kernel_rfl)
theorem pace_slide_k6_eq (x0 x1 x2 x3 x8 x11 x12 x13 : Value) (H : AH) : pace_slide_k6 x0 x1 x2 x3 x8 x11 x12 x13 H =
  (pBin .other .add x13 (vi 1)).bind fun v7 =>
  pace_slide_k4 x0 x1 x2 x3 x8 x11 x12 v7 H :=
  (by kernel_rfl)
theorem pace_slide_k10_eq (x0 x1 x2 x3 x8 x9 x11 x12 x13 : Value) (H : AH) : pace_slide_k10 x0 x1 x2 x3 x8 x9 x11 x12 x13 H =
  (pBin .other .sub x1 (vi 1)).bind fun v11 =>
  (pBin .other .geq x9 v11).bind fun v12 =>
  (gV v12 true x3).bind fun v13 =>
  (gE v12 true H ((pCallee v13 []).bind fun c => FF c.1 c.2 H)).bind fun r14 =>
  (gB v12 true (pUn .not r14.1)).bind fun v15 =>
  (pPick v12 v15 (vb false)).bind fun v16 =>
  condK v16
  (some ((vb false), r14.2))
  (pace_slide_k6 x0 x1 x2 x3 x8 x11 x12 x13 r14.2) :=
  (by kernel_rfl)
theorem pace_slide_k9_eq (x0 x1 x2 x3 x8 x9 x11 x12 x13 : Value) (H : AH) : pace_slide_k9 x0 x1 x2 x3 x8 x9 x11 x12 x13 H =
  (pBin .other .geq x9 x1).bind fun v17 =>
  condK v17
  ((pBin .other .sub x9 x1).bind fun v18 =>
  ld [.i 1 v18] x0 H fun v19 =>
  (pCallee x2 [v19, (vi (-1))]).bind fun c => (FF c.1 c.2 H).bind fun r20 =>
  pace_slide_k10 x0 x1 x2 x3 x8 x9 x11 x12 x13 r20.2)
  (pace_slide_k10 x0 x1 x2 x3 x8 x9 x11 x12 x13 H) :=
  (pt rfl 0 f30_n10_d (by kernel_rfl))
theorem pace_slide_k5_eq (x0 x1 x2 x3 x8 x11 x12 x13 : Value) (H : AH) : pace_slide_k5 x0 x1 x2 x3 x8 x11 x12 x13 H =
  ld [.i 1 x13] x11 H fun v21 =>
  (pCallee x2 [v21, (vi 1)]).bind fun c => (FF c.1 c.2 H).bind fun r22 =>
  pace_slide_k9 x0 x1 x2 x3 x8 x13 x11 x12 x13 r22.2 :=
  (pt rfl 0 f30_n6_d (bt rfl (f30_b [1, 0, 1, 4, 5, 1, 1, 0, 4]) 1 f30_x8_d (pt rfl 1 f30_n9_d (by kernel_rfl))))
theorem pace_slide_e3_0_eq (x8 : Value) (H : AH) : pace_slide_e3_0 x8 H = pace_slide_k1 x8 H :=
  (by kernel_rfl)
theorem pace_slide_k4_eq (x0 x1 x2 x3 x8 x11 x12 x13 : Value) (H : AH) : pace_slide_k4 x0 x1 x2 x3 x8 x11 x12 x13 H =
  (pBin .other .lss x13 x12).bind fun v23 =>
  condK v23
  (pace_slide_k5 x0 x1 x2 x3 x8 x11 x12 x13 H)
  (pace_slide_e3_0 x8 H) :=
  lt' rfl f30_n4_d (pt rfl 1 f30_n5_d (by kernel_rfl))
theorem pace_slide_k2_eq (x0 x1 x2 x3 x8 x11 x12 x13 : Value) (H : AH) : pace_slide_k2 x0 x1 x2 x3 x8 x11 x12 x13 H =
  pace_slide_k4 x0 x1 x2 x3 x8 x11 x12 x13 H :=
  (bt rfl (f30_b [1, 0, 1, 4]) 0 f30_x3_d (li rfl (f30_b [1, 0, 1, 4, 5]) f30_n4_d (by kernel_rfl)))
theorem pace_slide_k0_eq (x0 x1 x2 x3 x8 : Value) (H : AH) : pace_slide_k0 x0 x1 x2 x3 x8 H =
  lenK x0 fun v24 =>
  pace_slide_k2 x0 x1 x2 x3 x8 x0 v24 (vi 0) H :=
  (pt rfl 0 f30_n1_d (pt rfl 0 f30_n2_d (by kernel_rfl)))
noncomputable def pace_slide (x0 x1 x2 x3 : Value) (H : AH) : OV := cCode PP GG FF (f30_b []) (ls [x0, x1, x2, x3] 38) H f30_r kx0 f30_r
theorem pace_slide_of (x0 x1 x2 x3 : Value) (H : AH) {r : Value × AH} (h : (
  pace_slide_k0 x0 x1 x2 x3 (vb false) H) = some r) : FF n_pace_slide [x0, x1, x2, x3] H = some r :=
  fo (t := pace_slide x0 x1 x2 x3 H) Tryz.func30 (by kernel_rfl) (Eq.trans (pt rfl 0 f30_n0_d (by kernel_rfl)) h)

-- FUNCTION pace_window_turn
theorem pace_window_turn_of (x0 x1 x2 : Value) (H : AH) {r : Value × AH} (h : (
  (pBin .other .geq x1 (vi 0)).bind fun v0 =>
  (gV v0 true x1).bind fun v1 =>
  (gV v0 true x0).bind fun v2 =>
  gld v0 true  [.n, .f 0] v2 H fun v3 =>
  (onK (yv v0) true (lenK v3 some) (some undef)).bind fun v4 =>
  (gB v0 true (pBin .other .lss v1 v4)).bind fun v5 =>
  (pPick v0 v5 (vb false)).bind fun v6 =>
  condK v6
  (ld [.n, .f 0] x0 H fun v7 =>
  ld [.i 1 x1] v7 H fun v8 =>
  (pBin .other .add v8 x2).bind fun v9 =>
  st 1 [.i 1 x1] v7 v9 H fun H10 =>
  some (Value.tuple #[], H10))
  (some (Value.tuple #[], H))) = some r) : FF n_pace_window_turn [x0, x1, x2] H = some r :=
  fo Tryz.func31 (by kernel_rfl) h

-- FUNCTION pace_window_full
theorem pace_window_full_of (x0 : Value) (H : AH) {r : Value × AH} (h : (
  ld [.n, .f 0] x0 H fun v0 =>
  (FF n_slices_Containsintint [v0, (vi 0)] H).bind fun r1 =>
  (pUn .not r1.1).bind fun v2 =>
  some (v2, r1.2)) = some r) : FF n_pace_window_full [x0] H = some r :=
  fo Tryz.func32 (by kernel_rfl) h

-- FUNCTION slices_ContainsFuncapi_Eventapi_Event
theorem slices_ContainsFuncapi_Eventapi_Event_of (x0 x1 : Value) (H : AH) {r : Value × AH} (h : (
  (FF n_slices_IndexFuncapi_Eventapi_Event [x0, x1] H).bind fun r0 =>
  (pBin .other .geq r0.1 (vi 0)).bind fun v1 =>
  some (v1, r0.2)) = some r) : FF n_slices_ContainsFuncapi_Eventapi_Event [x0, x1] H = some r :=
  fo Tryz.func33 (by kernel_rfl) h

-- FUNCTION pace_Tries_1
theorem pace_Tries_1_of (x0 x1 : Value) (H : AH) {r : Value × AH} (h : (
  newK (Value.cells x0).toList H fun v0 H1 =>
  ld [.f 1] v0 H1 fun v2 =>
  (pBin .other .eql v2 (vi 3)).bind fun v3 =>
  gldN v3 true  3 [.f 2] v0 H1 fun v4 =>
  gldN v3 true  3 [.f 2] x1 H1 fun v5 =>
  (gB v3 true (pBin (.flat 3) .eql v4 v5)).bind fun v6 =>
  (pPick v3 v6 (vb false)).bind fun v7 =>
  gld v7 true  [.f 0] v0 H1 fun v8 =>
  gld v7 true  [.f 0] x1 H1 fun v9 =>
  (gB v7 true (pBin .other .neq v8 v9)).bind fun v10 =>
  (pPick v7 v10 (vb false)).bind fun v11 =>
  some (v11, H1)) = some r) : FF n_pace_Tries_1 [x0, x1] H = some r :=
  fo Tryz.func34 (by kernel_rfl) h

-- FUNCTION model_Right
theorem model_Right_of (x0 : Value) (H : AH) {r : Value × AH} (h : (
  newK (Value.cells x0).toList H fun v0 H1 =>
  ld [.f 0] v0 H1 fun v2 =>
  (FF n_model_within [v2, (vi 1), (vi 4)] H1).bind fun r3 =>
  gld r3.1 true  [.f 1] v0 r3.2 fun v4 =>
  (gE r3.1 true r3.2 (FF n_model_within [v4, (vi 1), (vi 4)] r3.2)).bind fun r5 =>
  (pPick r3.1 r5.1 (vb false)).bind fun v6 =>
  gld v6 true  [.f 2] v0 r5.2 fun v7 =>
  (gE v6 true r5.2 (FF n_model_within [v7, (vi 1), (vi 6)] r5.2)).bind fun r8 =>
  (pPick v6 r8.1 (vb false)).bind fun v9 =>
  gld v9 true  [.f 3] v0 r8.2 fun v10 =>
  (gE v9 true r8.2 (FF n_model_within [v10, (vi 0), (vi 40)] r8.2)).bind fun r11 =>
  (pPick v9 r11.1 (vb false)).bind fun v12 =>
  gld v12 true  [.f 4] v0 r11.2 fun v13 =>
  (gB v12 true (pBin .other .geq v13 (vw 1))).bind fun v14 =>
  (pPick v12 v14 (vb false)).bind fun v15 =>
  gld v15 true  [.f 4] v0 r11.2 fun v16 =>
  (gB v15 true (pBin .other .leq v16 (vw 4611686018427387904))).bind fun v17 =>
  (pPick v15 v17 (vb false)).bind fun v18 =>
  some (v18, r11.2)) = some r) : FF n_model_Right [x0] H = some r :=
  fo Tryz.func38 (by kernel_rfl) h

-- FUNCTION parts_New
theorem parts_New_of (x0 : Value) (H : AH) {r : Value × AH} (h : (
  newK (Value.cells x0).toList H fun v0 H1 =>
  (pLdN 5 v0 H1).bind fun v2 =>
  (FF n_model_Right [v2] H1).bind fun r3 =>
  (pUn .not r3.1).bind fun v4 =>
  condK v4
  (some (Value.tuple #[(.pointer none), (vi 1)], r3.2))
  ((FF n_mem_New [] r3.2).bind fun r5 =>
  ld [.f 0] v0 r5.2 fun v6 =>
  (FF n_inbox_New [r5.1, v6] r5.2).bind fun r7 =>
  ad [.f 0] v0 fun v8 =>
  (pLd1 v8 r7.2).bind fun v9 =>
  eqK (pLd1 v8 r5.2) (pLd1 v8 r7.2) <|
  ad [.f 1] v0 fun v10 =>
  (pLd1 v10 r7.2).bind fun v11 =>
  eqK (pLd1 v10 r5.2) (pLd1 v10 r7.2) <|
  (FF n_table_New [r5.1, v9, v11] r7.2).bind fun r12 =>
  ad [.f 2] v0 fun v13 =>
  (pLd1 v13 r12.2).bind fun v14 =>
  eqK (pLd1 v13 r5.2) (pLd1 v13 r12.2) <|
  eqK (pLd1 v13 r7.2) (pLd1 v13 r12.2) <|
  (FF n_post_New [r5.1, v14] r12.2).bind fun r15 =>
  (pLdN 5 v0 r15.2).bind fun v16 =>
  eqK (pLdN 5 v0 r5.2) (pLdN 5 v0 r15.2) <|
  eqK (pLdN 5 v0 r7.2) (pLdN 5 v0 r15.2) <|
  eqK (pLdN 5 v0 r12.2) (pLdN 5 v0 r15.2) <|
  (FF n_core_New [v16] r15.2).bind fun r17 =>
  (pLdN 5 v0 r17.2).bind fun v18 =>
  eqK (pLdN 5 v0 r5.2) (pLdN 5 v0 r17.2) <|
  eqK (pLdN 5 v0 r7.2) (pLdN 5 v0 r17.2) <|
  eqK (pLdN 5 v0 r12.2) (pLdN 5 v0 r17.2) <|
  eqK (pLdN 5 v0 r15.2) (pLdN 5 v0 r17.2) <|
  mapK r17.2 fun v19 H20 =>
  mkS [(0, 1), (1, 1), (2, 1), (3, 1), (4, 1), (5, 5), (10, 1), (11, 1), (12, 1)] [(.pointer none), (.pointer none), (.pointer none), (.pointer none), (.pointer none), (vi 0), (vi 0), (vi 0), (vi 0), (vw 0), (.slice none 0 0), (.map none), (.slice none 0 0)] [(0, r5.1), (1, r7.1), (2, r12.1), (3, r15.1), (4, r17.1), (5, v18), (7, v19)] fun v21 =>
  newK (Value.cells v21).toList H20 fun v22 H23 =>
  some (Value.tuple #[v22, (vi 0)], H23))) = some r) : FF n_parts_New [x0] H = some r :=
  fo Tryz.func39 (by kernel_rfl) h

-- FUNCTION slices_Cloneapi_Callapi_Call
theorem slices_Cloneapi_Callapi_Call_of (x0 : Value) (H : AH) {r : Value × AH} (h : (
  (pBin .slice .eql x0 (.slice none 0 0)).bind fun v0 =>
  condK v0
  (some ((.slice none 0 0), H))
  (mkR 0 4 [(vi 0), (vi 0), (vi 0), (vi 0)] [] H fun v1 H2 =>
  (pApp 4 32 v1 x0 H2).bind fun r3 =>
  some (r3.1, r3.2))) = some r) : FF n_slices_Cloneapi_Callapi_Call [x0] H = some r :=
  fo Tryz.func40 (by kernel_rfl) h

-- FUNCTION slices_Containsintint
theorem slices_Containsintint_of (x0 x1 : Value) (H : AH) {r : Value × AH} (h : (
  (FF n_slices_Indexintint [x0, x1] H).bind fun r0 =>
  (pBin .other .geq r0.1 (vi 0)).bind fun v1 =>
  some (v1, r0.2)) = some r) : FF n_slices_Containsintint [x0, x1] H = some r :=
  fo Tryz.func41 (by kernel_rfl) h

-- FUNCTION slices_IndexFuncapi_Eventapi_Event
noncomputable def f42_b (p : List Nat) : Code := Code.sub (bodyOf Tryz.f42) p
noncomputable def f42_r : KK := cFin PP (Tryz.f42).results.toList
noncomputable def f42_n0 : KK := CQ (f42_b [1]) f42_r kx0 f42_r
noncomputable def f42_m0 : KK := clr 524268 f42_n0
noncomputable def slices_IndexFuncapi_Eventapi_Event_k0 (x0 x1 x4 : Value) (H : AH) : OV := f42_n0 (ls [x0, x1, u, u, x4] 14) H
noncomputable def f42_n1 : KK := CQ (f42_b [1, 1]) f42_r kx0 f42_r
noncomputable def f42_m1 : KK := clr 524271 f42_n1
noncomputable def slices_IndexFuncapi_Eventapi_Event_k1 (x4 : Value) (H : AH) : OV := f42_n1 (ls [u, u, u, u, x4] 14) H
noncomputable def f42_n2 : KK := CQ (f42_b [1, 0, 1]) f42_m1 kx0 f42_r
noncomputable def f42_m2 : KK := clr 523884 f42_n2
noncomputable def slices_IndexFuncapi_Eventapi_Event_k2 (x0 x1 x4 x7 x8 : Value) (H : AH) : OV := f42_n2 (ls [x0, x1, u, u, x4, u, u, x7, x8] 10) H
noncomputable def f42_x3 : KX := BX 0 f42_m1 kx0
noncomputable def f42_y3 : KX := clx 524271 f42_x3
noncomputable def f42_n4 : KK := CLq (f42_b [1, 0, 1, 4, 5]) f42_y3 f42_r
noncomputable def f42_m4 : KK := clr 523884 f42_n4
-- a loop
noncomputable def slices_IndexFuncapi_Eventapi_Event_k4 (x0 x1 x4 x7 x8 : Value) (H : AH) : OV := f42_n4 (ls [x0, x1, u, u, x4, u, u, x7, x8] 10) H
noncomputable def f42_n5 : KK := CQ (f42_b [1, 0, 1, 4, 5, 1, 1]) f42_m4 f42_y3 f42_r
noncomputable def f42_m5 : KK := clr 523884 f42_n5
noncomputable def slices_IndexFuncapi_Eventapi_Event_k5 (x0 x1 x4 x7 x8 : Value) (H : AH) : OV := f42_n5 (ls [x0, x1, u, u, x4, u, u, x7, x8] 10) H
noncomputable def f42_n6 : KK := CQ (f42_b [1, 0, 1, 4, 5, 1, 1, 1]) f42_m4 f42_y3 f42_r
noncomputable def f42_m6 : KK := clr 523884 f42_n6
noncomputable def slices_IndexFuncapi_Eventapi_Event_k6 (x0 x1 x4 x7 x8 : Value) (H : AH) : OV := f42_n6 (ls [x0, x1, u, u, x4, u, u, x7, x8] 10) H
noncomputable def f42_x8 : KX := BX 1 f42_m6 f42_y3
noncomputable def f42_y8 : KX := clx 523884 f42_x8
noncomputable def slices_IndexFuncapi_Eventapi_Event_e3_0 (x4 : Value) (H : AH) : OV := f42_x3 0 (ls [u, u, u, u, x4] 14) H
theorem f42_r_d : Resp 524271 f42_r := rf
theorem f42_n0_d : Resp 524268 f42_n0 := rc f42_r_d kx0_d f42_r_d
theorem f42_n1_d : Resp 524271 f42_n1 := rc f42_r_d kx0_d f42_r_d
theorem f42_n2_d : Resp 523884 f42_n2 := rc (cd f42_n1_d) kx0_d f42_r_d
theorem f42_x3_d : ∀ i, Resp 524271 (f42_x3 i) := rb (cd f42_n1_d) kx0_d
theorem f42_n4_d : Resp 523884 f42_n4 := rl (cx f42_x3_d) f42_r_d
theorem f42_n5_d : Resp 523884 f42_n5 := rc (cd f42_n4_d) (cx f42_x3_d) f42_r_d
theorem f42_n6_d : Resp 523884 f42_n6 := rc (cd f42_n4_d) (cx f42_x3_d) f42_r_d
theorem f42_x8_d : ∀ i, Resp 523884 (f42_x8 i) := rb (cd f42_n6_d) (cx f42_x3_d)
theorem slices_IndexFuncapi_Eventapi_Event_k1_eq (x4 : Value) (H : AH) : slices_IndexFuncapi_Eventapi_Event_k1 x4 H =
  some ((vi (-1)), H) :=
  (by kernel_rfl)
theorem slices_IndexFuncapi_Eventapi_Event_k6_eq (x0 x1 x4 x7 x8 : Value) (H : AH) : slices_IndexFuncapi_Eventapi_Event_k6 x0 x1 x4 x7 x8 H =
  (pBin .other .add x8 (vi 1)).bind fun v7 =>
  slices_IndexFuncapi_Eventapi_Event_k4 x0 x1 x4 x7 v7 H :=
  (by kernel_rfl)
theorem slices_IndexFuncapi_Eventapi_Event_k5_eq (x0 x1 x4 x7 x8 : Value) (H : AH) : slices_IndexFuncapi_Eventapi_Event_k5 x0 x1 x4 x7 x8 H =
  ldN 5 [.i 5 x8] x0 H fun v9 =>
  (pCallee x1 [v9]).bind fun c => (FF c.1 c.2 H).bind fun r10 =>
  condK r10.1
  (some (x8, r10.2))
  (slices_IndexFuncapi_Eventapi_Event_k6 x0 x1 x4 x7 x8 r10.2) :=
  (pt rfl 0 f42_n6_d (bt rfl (f42_b [1, 0, 1, 4, 5, 1, 1, 0, 4]) 1 f42_x8_d (by kernel_rfl)))
theorem slices_IndexFuncapi_Eventapi_Event_e3_0_eq (x4 : Value) (H : AH) : slices_IndexFuncapi_Eventapi_Event_e3_0 x4 H = slices_IndexFuncapi_Eventapi_Event_k1 x4 H :=
  (by kernel_rfl)
theorem slices_IndexFuncapi_Eventapi_Event_k4_eq (x0 x1 x4 x7 x8 : Value) (H : AH) : slices_IndexFuncapi_Eventapi_Event_k4 x0 x1 x4 x7 x8 H =
  (pBin .other .lss x8 x7).bind fun v11 =>
  condK v11
  (slices_IndexFuncapi_Eventapi_Event_k5 x0 x1 x4 x7 x8 H)
  (slices_IndexFuncapi_Eventapi_Event_e3_0 x4 H) :=
  lt' rfl f42_n4_d (pt rfl 1 f42_n5_d (by kernel_rfl))
theorem slices_IndexFuncapi_Eventapi_Event_k2_eq (x0 x1 x4 x7 x8 : Value) (H : AH) : slices_IndexFuncapi_Eventapi_Event_k2 x0 x1 x4 x7 x8 H =
  slices_IndexFuncapi_Eventapi_Event_k4 x0 x1 x4 x7 x8 H :=
  (bt rfl (f42_b [1, 0, 1, 4]) 0 f42_x3_d (li rfl (f42_b [1, 0, 1, 4, 5]) f42_n4_d (by kernel_rfl)))
theorem slices_IndexFuncapi_Eventapi_Event_k0_eq (x0 x1 x4 : Value) (H : AH) : slices_IndexFuncapi_Eventapi_Event_k0 x0 x1 x4 H =
  lenK x0 fun v12 =>
  slices_IndexFuncapi_Eventapi_Event_k2 x0 x1 x4 v12 (vi 0) H :=
  (pt rfl 0 f42_n1_d (pt rfl 0 f42_n2_d (by kernel_rfl)))
noncomputable def slices_IndexFuncapi_Eventapi_Event (x0 x1 : Value) (H : AH) : OV := cCode PP GG FF (f42_b []) (ls [x0, x1] 17) H f42_r kx0 f42_r
theorem slices_IndexFuncapi_Eventapi_Event_of (x0 x1 : Value) (H : AH) {r : Value × AH} (h : (
  slices_IndexFuncapi_Eventapi_Event_k0 x0 x1 (vi 0) H) = some r) : FF n_slices_IndexFuncapi_Eventapi_Event [x0, x1] H = some r :=
  fo (t := slices_IndexFuncapi_Eventapi_Event x0 x1 H) Tryz.func42 (by kernel_rfl) (Eq.trans (pt rfl 0 f42_n0_d (by kernel_rfl)) h)

-- FUNCTION model_within
theorem model_within_of (x0 x1 x2 : Value) (H : AH) {r : Value × AH} (h : (
  (pBin .other .geq x0 x1).bind fun v0 =>
  (gV v0 true x0).bind fun v1 =>
  (gV v0 true x2).bind fun v2 =>
  (gB v0 true (pBin .other .leq v1 v2)).bind fun v3 =>
  (pPick v0 v3 (vb false)).bind fun v4 =>
  some (v4, H)) = some r) : FF n_model_within [x0, x1, x2] H = some r :=
  fo Tryz.func44 (by kernel_rfl) h

-- FUNCTION mem_New
theorem mem_New_of (H : AH) {r : Value × AH} (h : (
  mapK H fun v0 H1 =>
  mkS [(0, 1), (1, 1)] [(.map none), (.slice none 0 0)] [(0, v0)] fun v2 =>
  newK (Value.cells v2).toList H1 fun v3 H4 =>
  some (v3, H4)) = some r) : FF n_mem_New [] H = some r :=
  fo Tryz.func45 (by kernel_rfl) h

-- FUNCTION inbox_New
theorem inbox_New_of (x0 x1 : Value) (H : AH) {r : Value × AH} (h : (
  (pMax [x1, (vi 1)]).bind fun v0 =>
  (pMin [v0, (vi 4)]).bind fun v1 =>
  mapK H fun v2 H3 =>
  mkS [(0, 1), (1, 1), (2, 1), (3, 1), (4, 1)] [(.pointer none), (vi 0), (.map none), Value.nilFunc, Value.nilFunc] [(0, x0), (1, v1), (2, v2), (3, (.func (.func n_inbox_site_at) #[(vi 9)] #[])), (4, (.func (.func n_inbox_site_at) #[(vi 14)] #[]))] fun v4 =>
  newK (Value.cells v4).toList H3 fun v5 H6 =>
  some (v5, H6)) = some r) : FF n_inbox_New [x0, x1] H = some r :=
  fo Tryz.func46 (by kernel_rfl) h

-- FUNCTION table_New
theorem table_New_of (x0 x1 x2 : Value) (H : AH) {r : Value × AH} (h : (
  (pMax [x1, (vi 1)]).bind fun v0 =>
  (pMin [v0, (vi 4)]).bind fun v1 =>
  (pMax [x2, (vi 1)]).bind fun v2 =>
  (pMin [v2, (vi 4)]).bind fun v3 =>
  mkS [(0, 1), (1, 1), (2, 1)] [(.pointer none), (vi 0), (vi 0)] [(0, x0), (1, v1), (2, v3)] fun v4 =>
  newK (Value.cells v4).toList H fun v5 H6 =>
  some (v5, H6)) = some r) : FF n_table_New [x0, x1, x2] H = some r :=
  fo Tryz.func47 (by kernel_rfl) h

-- FUNCTION post_New
theorem post_New_of (x0 x1 : Value) (H : AH) {r : Value × AH} (h : (
  (pMax [x1, (vi 1)]).bind fun v0 =>
  (pMin [v0, (vi 6)]).bind fun v1 =>
  mapK H fun v2 H3 =>
  mapK H3 fun v4 H5 =>
  mkS [(0, 1), (1, 1), (2, 1), (3, 1)] [(.pointer none), (vi 0), (.map none), (.map none)] [(0, x0), (1, v1), (2, v2), (3, v4)] fun v6 =>
  newK (Value.cells v6).toList H5 fun v7 H8 =>
  some (v7, H8)) = some r) : FF n_post_New [x0, x1] H = some r :=
  fo Tryz.func48 (by kernel_rfl) h

-- FUNCTION core_New
theorem core_New_of (x0 : Value) (H : AH) {r : Value × AH} (h : (
  newK (Value.cells x0).toList H fun v0 H1 =>
  ld [.f 0] v0 H1 fun v2 =>
  ld [.f 3] v0 H1 fun v3 =>
  (FF n_queue_New [v2, v3] H1).bind fun r4 =>
  mapK r4.2 fun v5 H6 =>
  mapK H6 fun v7 H8 =>
  mkS [(0, 1), (1, 1), (2, 1), (3, 1), (4, 1), (5, 1), (6, 1), (7, 1), (8, 3)] [Value.nilFunc, Value.nilFunc, Value.nilFunc, (vw 0), (vw 0), (vi 0), (.map none), (.map none), (vb false), (vi 0), (vw 0)] [(0, (.func (.func n_queue_Queue_Push) #[r4.1] #[])), (1, (.func (.func n_queue_Queue_Pop) #[r4.1] #[])), (2, (.func (.func n_queue_Queue_All) #[r4.1] #[])), (6, v5), (7, v7)] fun v9 =>
  newK (Value.cells v9).toList H8 fun v10 H11 =>
  some (v10, H11)) = some r) : FF n_core_New [x0] H = some r :=
  fo Tryz.func49 (by kernel_rfl) h

-- FUNCTION slices_Indexintint
noncomputable def f50_b (p : List Nat) : Code := Code.sub (bodyOf Tryz.f50) p
noncomputable def f50_r : KK := cFin PP (Tryz.f50).results.toList
noncomputable def f50_n0 : KK := CQ (f50_b [1]) f50_r kx0 f50_r
noncomputable def f50_m0 : KK := clr 524268 f50_n0
noncomputable def slices_Indexintint_k0 (x0 x1 x4 : Value) (H : AH) : OV := f50_n0 (ls [x0, x1, u, u, x4] 14) H
noncomputable def f50_n1 : KK := CQ (f50_b [1, 1]) f50_r kx0 f50_r
noncomputable def f50_m1 : KK := clr 524271 f50_n1
noncomputable def slices_Indexintint_k1 (x4 : Value) (H : AH) : OV := f50_n1 (ls [u, u, u, u, x4] 14) H
noncomputable def f50_n2 : KK := CQ (f50_b [1, 0, 1]) f50_m1 kx0 f50_r
noncomputable def f50_m2 : KK := clr 523884 f50_n2
noncomputable def slices_Indexintint_k2 (x0 x1 x4 x7 x8 : Value) (H : AH) : OV := f50_n2 (ls [x0, x1, u, u, x4, u, u, x7, x8] 10) H
noncomputable def f50_x3 : KX := BX 0 f50_m1 kx0
noncomputable def f50_y3 : KX := clx 524271 f50_x3
noncomputable def f50_n4 : KK := CLq (f50_b [1, 0, 1, 4, 5]) f50_y3 f50_r
noncomputable def f50_m4 : KK := clr 523884 f50_n4
-- a loop
noncomputable def slices_Indexintint_k4 (x0 x1 x4 x7 x8 : Value) (H : AH) : OV := f50_n4 (ls [x0, x1, u, u, x4, u, u, x7, x8] 10) H
noncomputable def f50_n5 : KK := CQ (f50_b [1, 0, 1, 4, 5, 1, 1]) f50_m4 f50_y3 f50_r
noncomputable def f50_m5 : KK := clr 523884 f50_n5
noncomputable def slices_Indexintint_k5 (x0 x1 x4 x7 x8 : Value) (H : AH) : OV := f50_n5 (ls [x0, x1, u, u, x4, u, u, x7, x8] 10) H
noncomputable def f50_n6 : KK := CQ (f50_b [1, 0, 1, 4, 5, 1, 1, 1]) f50_m4 f50_y3 f50_r
noncomputable def f50_m6 : KK := clr 523884 f50_n6
noncomputable def slices_Indexintint_k6 (x0 x1 x4 x7 x8 : Value) (H : AH) : OV := f50_n6 (ls [x0, x1, u, u, x4, u, u, x7, x8] 10) H
noncomputable def f50_x8 : KX := BX 1 f50_m6 f50_y3
noncomputable def f50_y8 : KX := clx 523884 f50_x8
noncomputable def slices_Indexintint_e3_0 (x4 : Value) (H : AH) : OV := f50_x3 0 (ls [u, u, u, u, x4] 14) H
theorem f50_r_d : Resp 524271 f50_r := rf
theorem f50_n0_d : Resp 524268 f50_n0 := rc f50_r_d kx0_d f50_r_d
theorem f50_n1_d : Resp 524271 f50_n1 := rc f50_r_d kx0_d f50_r_d
theorem f50_n2_d : Resp 523884 f50_n2 := rc (cd f50_n1_d) kx0_d f50_r_d
theorem f50_x3_d : ∀ i, Resp 524271 (f50_x3 i) := rb (cd f50_n1_d) kx0_d
theorem f50_n4_d : Resp 523884 f50_n4 := rl (cx f50_x3_d) f50_r_d
theorem f50_n5_d : Resp 523884 f50_n5 := rc (cd f50_n4_d) (cx f50_x3_d) f50_r_d
theorem f50_n6_d : Resp 523884 f50_n6 := rc (cd f50_n4_d) (cx f50_x3_d) f50_r_d
theorem f50_x8_d : ∀ i, Resp 523884 (f50_x8 i) := rb (cd f50_n6_d) (cx f50_x3_d)
theorem slices_Indexintint_k1_eq (x4 : Value) (H : AH) : slices_Indexintint_k1 x4 H =
  some ((vi (-1)), H) :=
  (by kernel_rfl)
theorem slices_Indexintint_k6_eq (x0 x1 x4 x7 x8 : Value) (H : AH) : slices_Indexintint_k6 x0 x1 x4 x7 x8 H =
  (pBin .other .add x8 (vi 1)).bind fun v7 =>
  slices_Indexintint_k4 x0 x1 x4 x7 v7 H :=
  (by kernel_rfl)
theorem slices_Indexintint_k5_eq (x0 x1 x4 x7 x8 : Value) (H : AH) : slices_Indexintint_k5 x0 x1 x4 x7 x8 H =
  ld [.i 1 x8] x0 H fun v9 =>
  (pBin .other .eql x1 v9).bind fun v10 =>
  condK v10
  (some (x8, H))
  (slices_Indexintint_k6 x0 x1 x4 x7 x8 H) :=
  (pt rfl 0 f50_n6_d (bt rfl (f50_b [1, 0, 1, 4, 5, 1, 1, 0, 4]) 1 f50_x8_d (by kernel_rfl)))
theorem slices_Indexintint_e3_0_eq (x4 : Value) (H : AH) : slices_Indexintint_e3_0 x4 H = slices_Indexintint_k1 x4 H :=
  (by kernel_rfl)
theorem slices_Indexintint_k4_eq (x0 x1 x4 x7 x8 : Value) (H : AH) : slices_Indexintint_k4 x0 x1 x4 x7 x8 H =
  (pBin .other .lss x8 x7).bind fun v11 =>
  condK v11
  (slices_Indexintint_k5 x0 x1 x4 x7 x8 H)
  (slices_Indexintint_e3_0 x4 H) :=
  lt' rfl f50_n4_d (pt rfl 1 f50_n5_d (by kernel_rfl))
theorem slices_Indexintint_k2_eq (x0 x1 x4 x7 x8 : Value) (H : AH) : slices_Indexintint_k2 x0 x1 x4 x7 x8 H =
  slices_Indexintint_k4 x0 x1 x4 x7 x8 H :=
  (bt rfl (f50_b [1, 0, 1, 4]) 0 f50_x3_d (li rfl (f50_b [1, 0, 1, 4, 5]) f50_n4_d (by kernel_rfl)))
theorem slices_Indexintint_k0_eq (x0 x1 x4 : Value) (H : AH) : slices_Indexintint_k0 x0 x1 x4 H =
  lenK x0 fun v12 =>
  slices_Indexintint_k2 x0 x1 x4 v12 (vi 0) H :=
  (pt rfl 0 f50_n1_d (pt rfl 0 f50_n2_d (by kernel_rfl)))
noncomputable def slices_Indexintint (x0 x1 : Value) (H : AH) : OV := cCode PP GG FF (f50_b []) (ls [x0, x1] 17) H f50_r kx0 f50_r
theorem slices_Indexintint_of (x0 x1 : Value) (H : AH) {r : Value × AH} (h : (
  slices_Indexintint_k0 x0 x1 (vi 0) H) = some r) : FF n_slices_Indexintint [x0, x1] H = some r :=
  fo (t := slices_Indexintint x0 x1 H) Tryz.func50 (by kernel_rfl) (Eq.trans (pt rfl 0 f50_n0_d (by kernel_rfl)) h)

-- FUNCTION queue_New
noncomputable def f53_b (p : List Nat) : Code := Code.sub (bodyOf Tryz.f53) p
noncomputable def f53_r : KK := cFin PP (Tryz.f53).results.toList
noncomputable def f53_n0 : KK := CQ (f53_b [1, 1, 1]) f53_r kx0 f53_r
noncomputable def f53_m0 : KK := clr 1073741709 f53_n0
noncomputable def queue_New_k0 (x1 x4 x5 x6 : Value) (H : AH) : OV := f53_n0 (ls [u, x1, u, u, x4, x5, x6] 23) H
noncomputable def f53_n1 : KK := CQ (f53_b [1, 1, 1, 1]) f53_r kx0 f53_r
noncomputable def f53_m1 : KK := clr 1073741743 f53_n1
noncomputable def queue_New_k1 (x4 x6 : Value) (H : AH) : OV := f53_n1 (ls [u, u, u, u, x4, u, x6] 23) H
noncomputable def f53_n2 : KK := CQ (f53_b [1, 1, 1, 0, 1]) f53_m1 kx0 f53_r
noncomputable def f53_m2 : KK := clr 1073692589 f53_n2
noncomputable def queue_New_k2 (x1 x4 x6 x14 x15 : Value) (H : AH) : OV := f53_n2 (ls [u, x1, u, u, x4, u, x6, u, u, u, u, u, u, u, x14, x15] 14) H
noncomputable def f53_x3 : KX := BX 0 f53_m1 kx0
noncomputable def f53_y3 : KX := clx 1073741743 f53_x3
noncomputable def f53_n4 : KK := CLq (f53_b [1, 1, 1, 0, 1, 4, 5]) f53_y3 f53_r
noncomputable def f53_m4 : KK := clr 1073692589 f53_n4
-- a loop
noncomputable def queue_New_k4 (x1 x4 x6 x14 x15 : Value) (H : AH) : OV := f53_n4 (ls [u, x1, u, u, x4, u, x6, u, u, u, u, u, u, u, x14, x15] 14) H
noncomputable def f53_n5 : KK := CQ (f53_b [1, 1, 1, 0, 1, 4, 5, 1, 1]) f53_m4 f53_y3 f53_r
noncomputable def f53_m5 : KK := clr 1073692589 f53_n5
noncomputable def queue_New_k5 (x1 x4 x6 x14 x15 : Value) (H : AH) : OV := f53_n5 (ls [u, x1, u, u, x4, u, x6, u, u, u, u, u, u, u, x14, x15] 14) H
noncomputable def f53_n6 : KK := CQ (f53_b [1, 1, 1, 0, 1, 4, 5, 1, 1, 1]) f53_m4 f53_y3 f53_r
noncomputable def f53_m6 : KK := clr 1073692589 f53_n6
noncomputable def queue_New_k6 (x1 x4 x6 x14 x15 : Value) (H : AH) : OV := f53_n6 (ls [u, x1, u, u, x4, u, x6, u, u, u, u, u, u, u, x14, x15] 14) H
noncomputable def f53_x8 : KX := BX 1 f53_m6 f53_y3
noncomputable def f53_y8 : KX := clx 1073692589 f53_x8
noncomputable def queue_New_e3_0 (x4 x6 : Value) (H : AH) : OV := f53_x3 0 (ls [u, u, u, u, x4, u, x6] 23) H
theorem f53_r_d : Resp 1073741807 f53_r := rf
theorem f53_n0_d : Resp 1073741709 f53_n0 := rc f53_r_d kx0_d f53_r_d
theorem f53_n1_d : Resp 1073741743 f53_n1 := rc f53_r_d kx0_d f53_r_d
theorem f53_n2_d : Resp 1073692589 f53_n2 := rc (cd f53_n1_d) kx0_d f53_r_d
theorem f53_x3_d : ∀ i, Resp 1073741743 (f53_x3 i) := rb (cd f53_n1_d) kx0_d
theorem f53_n4_d : Resp 1073692589 f53_n4 := rl (cx f53_x3_d) f53_r_d
theorem f53_n5_d : Resp 1073692589 f53_n5 := rc (cd f53_n4_d) (cx f53_x3_d) f53_r_d
theorem f53_n6_d : Resp 1073692589 f53_n6 := rc (cd f53_n4_d) (cx f53_x3_d) f53_r_d
theorem f53_x8_d : ∀ i, Resp 1073692589 (f53_x8 i) := rb (cd f53_n6_d) (cx f53_x3_d)
theorem queue_New_k1_eq (x4 x6 : Value) (H : AH) : queue_New_k1 x4 x6 H =
  some (x6, H) :=
  (by kernel_rfl)
theorem queue_New_k6_eq (x1 x4 x6 x14 x15 : Value) (H : AH) : queue_New_k6 x1 x4 x6 x14 x15 H =
  (pBin .other .add x15 (vi 1)).bind fun v7 =>
  queue_New_k4 x1 x4 x6 x14 v7 H :=
  (by kernel_rfl)
theorem queue_New_k5_eq (x1 x4 x6 x14 x15 : Value) (H : AH) : queue_New_k5 x1 x4 x6 x14 x15 H =
  ad [.n, .f 0] x6 fun v9 =>
  (pLd1 v9 H).bind fun v10 =>
  (FF n_shard_New [x1] H).bind fun r11 =>
  eqK (pLd1 v9 r11.2) (pLd1 v9 H) <|
  mkR 1 1 [(.pointer none)] [(0, r11.1)] r11.2 fun v12 H13 =>
  (pApp 1 8 v10 v12 H13).bind fun r14 =>
  st 1 [.n, .f 0] x6 r14.1 r14.2 fun H15 =>
  queue_New_k6 x1 x4 x6 x14 x15 H15 :=
  (pt rfl 0 f53_n6_d (bt rfl (f53_b [1, 1, 1, 0, 1, 4, 5, 1, 1, 0, 4]) 1 f53_x8_d (by kernel_rfl)))
theorem queue_New_e3_0_eq (x4 x6 : Value) (H : AH) : queue_New_e3_0 x4 x6 H = queue_New_k1 x4 x6 H :=
  (by kernel_rfl)
theorem queue_New_k4_eq (x1 x4 x6 x14 x15 : Value) (H : AH) : queue_New_k4 x1 x4 x6 x14 x15 H =
  (pBin .other .lss x15 x14).bind fun v16 =>
  condK v16
  (queue_New_k5 x1 x4 x6 x14 x15 H)
  (queue_New_e3_0 x4 x6 H) :=
  lt' rfl f53_n4_d (pt rfl 1 f53_n5_d (by kernel_rfl))
theorem queue_New_k2_eq (x1 x4 x6 x14 x15 : Value) (H : AH) : queue_New_k2 x1 x4 x6 x14 x15 H =
  queue_New_k4 x1 x4 x6 x14 x15 H :=
  (bt rfl (f53_b [1, 1, 1, 0, 1, 4]) 0 f53_x3_d (li rfl (f53_b [1, 1, 1, 0, 1, 4, 5]) f53_n4_d (by kernel_rfl)))
theorem queue_New_k0_eq (x1 x4 x5 x6 : Value) (H : AH) : queue_New_k0 x1 x4 x5 x6 H =
  queue_New_k2 x1 x4 x6 x5 (vi 0) H :=
  (pt rfl 0 f53_n1_d (pt rfl 0 f53_n2_d (by kernel_rfl)))
noncomputable def queue_New (x0 x1 : Value) (H : AH) : OV := cCode PP GG FF (f53_b []) (ls [x0, x1] 28) H f53_r kx0 f53_r
theorem queue_New_of (x0 x1 : Value) (H : AH) {r : Value × AH} (h : (
  (pMax [x0, (vi 1)]).bind fun v17 =>
  (pMin [v17, (vi 16)]).bind fun v18 =>
  (FF n_tour_New [v18] H).bind fun r19 =>
  mkS [(0, 1), (1, 1)] [(.slice none 0 0), (.pointer none)] [(1, r19.1)] fun v20 =>
  newK (Value.cells v20).toList r19.2 fun v21 H22 =>
  queue_New_k0 x1 (.pointer none) v18 v21 H22) = some r) : FF n_queue_New [x0, x1] H = some r :=
  fo (t := queue_New x0 x1 H) Tryz.func53 (by kernel_rfl) (Eq.trans (pt rfl 2 f53_n0_d (by kernel_rfl)) h)

end Go.Proofs.YtbjelopcelompaaGreatDoor.Gst
