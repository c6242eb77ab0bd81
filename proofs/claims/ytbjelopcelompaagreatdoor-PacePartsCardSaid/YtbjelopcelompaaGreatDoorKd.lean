/- THE FUNCTIONS OF THE PROGRAM AS PLAIN LEAN FUNCTIONS: printed by a program of this work (XPr), each checked by the kernel against the program's text. -/
import Derived.Test.YtbjelopcelompaaGreatDoorKa
namespace Go.Proofs.YtbjelopcelompaaGreatDoor.Gst
open Go Go.RowKit
set_option maxRecDepth 100000
set_option linter.unusedVariables false
set_option maxHeartbeats 1000000
-- FUNCTION tour_New
noncomputable def f59_b (p : List Nat) : Code := Code.sub (bodyOf Tryz.f59) p
noncomputable def f59_r : KK := cFin PP (Tryz.f59).results.toList
noncomputable def f59_n0 : KK := CQ (f59_b [1, 1, 1]) f59_r kx0 f59_r
noncomputable def f59_m0 : KK := clr 4398046511090 f59_n0
noncomputable def tour_New_k0 (x0 x2 x3 : Value) (H : AH) : OV := f59_n0 (ls [x0, u, x2, x3] 38) H
noncomputable def f59_n1 : KK := CQ (f59_b [1, 1, 1, 1]) f59_r kx0 f59_r
noncomputable def f59_m1 : KK := clr 4398046511091 f59_n1
noncomputable def tour_New_k1 (x2 x3 : Value) (H : AH) : OV := f59_n1 (ls [u, u, x2, x3] 38) H
noncomputable def f59_n2 : KK := CQ (f59_b [1, 1, 1, 1, 1]) f59_r kx0 f59_r
noncomputable def f59_m2 : KK := clr 4398046511091 f59_n2
noncomputable def tour_New_k2 (x2 x3 : Value) (H : AH) : OV := f59_n2 (ls [u, u, x2, x3] 38) H
noncomputable def f59_n3 : KK := CQ (f59_b [1, 1, 1, 1, 0, 1]) f59_m2 kx0 f59_r
noncomputable def f59_m3 : KK := clr 4397241204723 f59_n3
noncomputable def tour_New_k3 (x2 x3 x28 x29 : Value) (H : AH) : OV := f59_n3 (ls [u, u, x2, x3, u, u, u, u, u, u, u, u, u, u, u, u, u, u, u, u, u, u, u, u, u, u, u, u, x28, x29] 12) H
noncomputable def f59_x4 : KX := BX 2 f59_m2 kx0
noncomputable def f59_y4 : KX := clx 4398046511091 f59_x4
noncomputable def f59_n5 : KK := CLq (f59_b [1, 1, 1, 1, 0, 1, 4, 5]) f59_y4 f59_r
noncomputable def f59_m5 : KK := clr 4397241204723 f59_n5
-- a loop
noncomputable def tour_New_k5 (x2 x3 x28 x29 : Value) (H : AH) : OV := f59_n5 (ls [u, u, x2, x3, u, u, u, u, u, u, u, u, u, u, u, u, u, u, u, u, u, u, u, u, u, u, u, u, x28, x29] 12) H
noncomputable def f59_n6 : KK := CQ (f59_b [1, 1, 1, 1, 0, 1, 4, 5, 1, 1]) f59_m5 f59_y4 f59_r
noncomputable def f59_m6 : KK := clr 4397241204723 f59_n6
noncomputable def tour_New_k6 (x2 x3 x28 x29 : Value) (H : AH) : OV := f59_n6 (ls [u, u, x2, x3, u, u, u, u, u, u, u, u, u, u, u, u, u, u, u, u, u, u, u, u, u, u, u, u, x28, x29] 12) H
noncomputable def f59_n7 : KK := CQ (f59_b [1, 1, 1, 1, 0, 1, 4, 5, 1, 1, 1]) f59_m5 f59_y4 f59_r
noncomputable def f59_m7 : KK := clr 4397241204723 f59_n7
noncomputable def tour_New_k7 (x2 x3 x28 x29 : Value) (H : AH) : OV := f59_n7 (ls [u, u, x2, x3, u, u, u, u, u, u, u, u, u, u, u, u, u, u, u, u, u, u, u, u, u, u, u, u, x28, x29] 12) H
noncomputable def f59_x9 : KX := BX 3 f59_m7 f59_y4
noncomputable def f59_y9 : KX := clx 4397241204723 f59_x9
noncomputable def tour_New_e4_2 (x2 x3 : Value) (H : AH) : OV := f59_x4 2 (ls [u, u, x2, x3] 38) H
noncomputable def f59_x18 : KX := BX 0 f59_m1 kx0
noncomputable def f59_y18 : KX := clx 4398046511091 f59_x18
noncomputable def f59_n19 : KK := CLq (f59_b [1, 1, 1, 0, 4, 5]) f59_y18 f59_r
noncomputable def f59_m19 : KK := clr 4398046511090 f59_n19
-- a loop
noncomputable def tour_New_k19 (x0 x2 x3 : Value) (H : AH) : OV := f59_n19 (ls [x0, u, x2, x3] 38) H
noncomputable def f59_n20 : KK := CQ (f59_b [1, 1, 1, 0, 4, 5, 1]) f59_m19 f59_y18 f59_r
noncomputable def f59_m20 : KK := clr 4398046511090 f59_n20
noncomputable def tour_New_k20 (x0 x2 x3 : Value) (H : AH) : OV := f59_n20 (ls [x0, u, x2, x3] 38) H
noncomputable def f59_x21 : KX := BX 1 f59_m19 f59_y18
noncomputable def f59_y21 : KX := clx 4398046511090 f59_x21
noncomputable def tour_New_e18_0 (x2 x3 : Value) (H : AH) : OV := f59_x18 0 (ls [u, u, x2, x3] 38) H
theorem f59_r_d : Resp 4398046511099 f59_r := rf
theorem f59_n0_d : Resp 4398046511090 f59_n0 := rc f59_r_d kx0_d f59_r_d
theorem f59_n1_d : Resp 4398046511091 f59_n1 := rc f59_r_d kx0_d f59_r_d
theorem f59_n2_d : Resp 4398046511091 f59_n2 := rc f59_r_d kx0_d f59_r_d
theorem f59_n3_d : Resp 4397241204723 f59_n3 := rc (cd f59_n2_d) kx0_d f59_r_d
theorem f59_x4_d : ∀ i, Resp 4398046511091 (f59_x4 i) := rb (cd f59_n2_d) kx0_d
theorem f59_n5_d : Resp 4397241204723 f59_n5 := rl (cx f59_x4_d) f59_r_d
theorem f59_n6_d : Resp 4397241204723 f59_n6 := rc (cd f59_n5_d) (cx f59_x4_d) f59_r_d
theorem f59_n7_d : Resp 4397241204723 f59_n7 := rc (cd f59_n5_d) (cx f59_x4_d) f59_r_d
theorem f59_x9_d : ∀ i, Resp 4397241204723 (f59_x9 i) := rb (cd f59_n7_d) (cx f59_x4_d)
theorem f59_x18_d : ∀ i, Resp 4398046511091 (f59_x18 i) := rb (cd f59_n1_d) kx0_d
theorem f59_n19_d : Resp 4398046511090 f59_n19 := rl (cx f59_x18_d) f59_r_d
theorem f59_n20_d : Resp 4398046511090 f59_n20 := rc (cd f59_n19_d) (cx f59_x18_d) f59_r_d
theorem f59_x21_d : ∀ i, Resp 4398046511090 (f59_x21 i) := rb (cd f59_n19_d) (cx f59_x18_d)
theorem tour_New_k2_eq (x2 x3 : Value) (H : AH) : tour_New_k2 x2 x3 H =
  some (x3, H) :=
  (by kernel_rfl)
theorem tour_New_k7_eq (x2 x3 x28 x29 : Value) (H : AH) : tour_New_k7 x2 x3 x28 x29 H =
  (pBin .other .add x29 (vi 1)).bind fun v8 =>
  tour_New_k5 x2 x3 x28 v8 H :=
  (by kernel_rfl)
theorem tour_New_k6_eq (x2 x3 x28 x29 : Value) (H : AH) : tour_New_k6 x2 x3 x28 x29 H =
  ld [.n, .f 2] x3 H fun v10 =>
  mkR 1 1 [(vi 0)] [(0, (vi (-1)))] H fun v11 H12 =>
  (pApp 1 8 v10 v11 H12).bind fun r13 =>
  st 1 [.n, .f 2] x3 r13.1 r13.2 fun H14 =>
  tour_New_k7 x2 x3 x28 x29 H14 :=
  (pt rfl 0 f59_n7_d (bt rfl (f59_b [1, 1, 1, 1, 0, 1, 4, 5, 1, 1, 0, 4]) 3 f59_x9_d (by kernel_rfl)))
theorem tour_New_e4_2_eq (x2 x3 : Value) (H : AH) : tour_New_e4_2 x2 x3 H = tour_New_k2 x2 x3 H :=
  (by kernel_rfl)
theorem tour_New_k5_eq (x2 x3 x28 x29 : Value) (H : AH) : tour_New_k5 x2 x3 x28 x29 H =
  (pBin .other .lss x29 x28).bind fun v15 =>
  condK v15
  (tour_New_k6 x2 x3 x28 x29 H)
  (tour_New_e4_2 x2 x3 H) :=
  lt' rfl f59_n5_d (pt rfl 1 f59_n6_d (by kernel_rfl))
theorem tour_New_k3_eq (x2 x3 x28 x29 : Value) (H : AH) : tour_New_k3 x2 x3 x28 x29 H =
  tour_New_k5 x2 x3 x28 x29 H :=
  (bt rfl (f59_b [1, 1, 1, 1, 0, 1, 4]) 2 f59_x4_d (li rfl (f59_b [1, 1, 1, 1, 0, 1, 4, 5]) f59_n5_d (by kernel_rfl)))
theorem tour_New_k1_eq (x2 x3 : Value) (H : AH) : tour_New_k1 x2 x3 H =
  ld [.n, .f 1] x3 H fun v16 =>
  (pBin .other .mul (vi 2) v16).bind fun v17 =>
  tour_New_k3 x2 x3 v17 (vi 0) H :=
  (pt rfl 0 f59_n2_d (pt rfl 0 f59_n3_d (by kernel_rfl)))
theorem tour_New_k20_eq (x0 x2 x3 : Value) (H : AH) : tour_New_k20 x0 x2 x3 H =
  ld [.n, .f 1] x3 H fun v22 =>
  (pBin .other .mul v22 (vi 2)).bind fun v23 =>
  st 1 [.n, .f 1] x3 v23 H fun H24 =>
  tour_New_k19 x0 x2 x3 H24 :=
  (bt rfl (f59_b [1, 1, 1, 0, 4, 5, 1, 4]) 1 f59_x21_d (by kernel_rfl))
theorem tour_New_e18_0_eq (x2 x3 : Value) (H : AH) : tour_New_e18_0 x2 x3 H = tour_New_k1 x2 x3 H :=
  (by kernel_rfl)
theorem tour_New_k19_eq (x0 x2 x3 : Value) (H : AH) : tour_New_k19 x0 x2 x3 H =
  ld [.n, .f 1] x3 H fun v25 =>
  (pBin .other .lss v25 x0).bind fun v26 =>
  condK v26
  (tour_New_k20 x0 x2 x3 H)
  (tour_New_e18_0 x2 x3 H) :=
  lt' rfl f59_n19_d (pt rfl 0 f59_n20_d (by kernel_rfl))
theorem tour_New_k0_eq (x0 x2 x3 : Value) (H : AH) : tour_New_k0 x0 x2 x3 H =
  tour_New_k19 x0 x2 x3 H :=
  (pt rfl 0 f59_n1_d (bt rfl (f59_b [1, 1, 1, 0, 4]) 0 f59_x18_d (li rfl (f59_b [1, 1, 1, 0, 4, 5]) f59_n19_d (by kernel_rfl))))
noncomputable def tour_New (x0 : Value) (H : AH) : OV := cCode PP GG FF (f59_b []) (ls [x0] 41) H f59_r kx0 f59_r
theorem tour_New_of (x0 : Value) (H : AH) {r : Value × AH} (h : (
  (pMax [x0, (vi 1)]).bind fun v27 =>
  (pMin [v27, (vi 16)]).bind fun v28 =>
  (pMake [(vw 0), (vi 0), (vb false)] 3 24 v28 v28 H).bind fun r29 =>
  mkS [(0, 1), (1, 1), (2, 1)] [(.slice none 0 0), (vi 0), (.slice none 0 0)] [(0, r29.1), (1, (vi 1))] fun v30 =>
  newK (Value.cells v30).toList r29.2 fun v31 H32 =>
  tour_New_k0 v28 (.pointer none) v31 H32) = some r) : FF n_tour_New [x0] H = some r :=
  fo (t := tour_New x0 H) Tryz.func59 (by kernel_rfl) (Eq.trans (pt rfl 2 f59_n0_d (by kernel_rfl)) h)

-- FUNCTION shard_New
theorem shard_New_of (x0 : Value) (H : AH) {r : Value × AH} (h : (
  (FF n_wheel_New [x0] H).bind fun r0 =>
  (FF n_heap_New [] r0.2).bind fun r1 =>
  mkS [(0, 1), (1, 1), (2, 1)] [(.pointer none), (.pointer none), (vi 0)] [(0, r0.1), (1, r1.1), (2, x0)] fun v2 =>
  newK (Value.cells v2).toList r1.2 fun v3 H4 =>
  some (v3, H4)) = some r) : FF n_shard_New [x0] H = some r :=
  fo Tryz.func60 (by kernel_rfl) h

-- FUNCTION wheel_New
theorem wheel_New_of (x0 : Value) (H : AH) {r : Value × AH} (h : (
  (FF n_wheel_held [x0] H).bind fun r0 =>
  mapK r0.2 fun v1 H2 =>
  mkS [(0, 1), (1, 1), (2, 192), (194, 3), (197, 1)] [(vw 0), (vi 0), (.slice none 0 0), (.slice none 0 0), (.slice none 0 0), (.slice none 0 0), (.slice none 0 0), (.slice none 0 0), (.slice none 0 0), (.slice none 0 0), (.slice none 0 0), (.slice none 0 0), (.slice none 0 0), (.slice none 0 0), (.slice none 0 0), (.slice none 0 0), (.slice none 0 0), (.slice none 0 0), (.slice none 0 0), (.slice none 0 0), (.slice none 0 0), (.slice none 0 0), (.slice none 0 0), (.slice none 0 0), (.slice none 0 0), (.slice none 0 0), (.slice none 0 0), (.slice none 0 0), (.slice none 0 0), (.slice none 0 0), (.slice none 0 0), (.slice none 0 0), (.slice none 0 0), (.slice none 0 0), (.slice none 0 0), (.slice none 0 0), (.slice none 0 0), (.slice none 0 0), (.slice none 0 0), (.slice none 0 0), (.slice none 0 0), (.slice none 0 0), (.slice none 0 0), (.slice none 0 0), (.slice none 0 0), (.slice none 0 0), (.slice none 0 0), (.slice none 0 0), (.slice none 0 0), (.slice none 0 0), (.slice none 0 0), (.slice none 0 0), (.slice none 0 0), (.slice none 0 0), (.slice none 0 0), (.slice none 0 0), (.slice none 0 0), (.slice none 0 0), (.slice none 0 0), (.slice none 0 0), (.slice none 0 0), (.slice none 0 0), (.slice none 0 0), (.slice none 0 0), (.slice none 0 0), (.slice none 0 0), (.slice none 0 0), (.slice none 0 0), (.slice none 0 0), (.slice none 0 0), (.slice none 0 0), (.slice none 0 0), (.slice none 0 0), (.slice none 0 0), (.slice none 0 0), (.slice none 0 0), (.slice none 0 0), (.slice none 0 0), (.slice none 0 0), (.slice none 0 0), (.slice none 0 0), (.slice none 0 0), (.slice none 0 0), (.slice none 0 0), (.slice none 0 0), (.slice none 0 0), (.slice none 0 0), (.slice none 0 0), (.slice none 0 0), (.slice none 0 0), (.slice none 0 0), (.slice none 0 0), (.slice none 0 0), (.slice none 0 0), (.slice none 0 0), (.slice none 0 0), (.slice none 0 0), (.slice none 0 0), (.slice none 0 0), (.slice none 0 0), (.slice none 0 0), (.slice none 0 0), (.slice none 0 0), (.slice none 0 0), (.slice none 0 0), (.slice none 0 0), (.slice none 0 0), (.slice none 0 0), (.slice none 0 0), (.slice none 0 0), (.slice none 0 0), (.slice none 0 0), (.slice none 0 0), (.slice none 0 0), (.slice none 0 0), (.slice none 0 0), (.slice none 0 0), (.slice none 0 0), (.slice none 0 0), (.slice none 0 0), (.slice none 0 0), (.slice none 0 0), (.slice none 0 0), (.slice none 0 0), (.slice none 0 0), (.slice none 0 0), (.slice none 0 0), (.slice none 0 0), (.slice none 0 0), (.slice none 0 0), (.slice none 0 0), (.slice none 0 0), (.slice none 0 0), (.slice none 0 0), (.slice none 0 0), (.slice none 0 0), (.slice none 0 0), (.slice none 0 0), (.slice none 0 0), (.slice none 0 0), (.slice none 0 0), (.slice none 0 0), (.slice none 0 0), (.slice none 0 0), (.slice none 0 0), (.slice none 0 0), (.slice none 0 0), (.slice none 0 0), (.slice none 0 0), (.slice none 0 0), (.slice none 0 0), (.slice none 0 0), (.slice none 0 0), (.slice none 0 0), (.slice none 0 0), (.slice none 0 0), (.slice none 0 0), (.slice none 0 0), (.slice none 0 0), (.slice none 0 0), (.slice none 0 0), (.slice none 0 0), (.slice none 0 0), (.slice none 0 0), (.slice none 0 0), (.slice none 0 0), (.slice none 0 0), (.slice none 0 0), (.slice none 0 0), (.slice none 0 0), (.slice none 0 0), (.slice none 0 0), (.slice none 0 0), (.slice none 0 0), (.slice none 0 0), (.slice none 0 0), (.slice none 0 0), (.slice none 0 0), (.slice none 0 0), (.slice none 0 0), (.slice none 0 0), (.slice none 0 0), (.slice none 0 0), (.slice none 0 0), (.slice none 0 0), (.slice none 0 0), (.slice none 0 0), (.slice none 0 0), (.slice none 0 0), (.slice none 0 0), (.slice none 0 0), (.slice none 0 0), (.slice none 0 0), (.slice none 0 0), (vw 0), (vw 0), (vw 0), (.map none)] [(1, r0.1), (4, v1)] fun v3 =>
  newK (Value.cells v3).toList H2 fun v4 H5 =>
  some (v4, H5)) = some r) : FF n_wheel_New [x0] H = some r :=
  fo Tryz.func75 (by kernel_rfl) h

-- FUNCTION heap_New
theorem heap_New_of (H : AH) {r : Value × AH} (h : (
  mapK H fun v0 H1 =>
  mkS [(0, 1), (1, 1)] [(.slice none 0 0), (.map none)] [(1, v0)] fun v2 =>
  newK (Value.cells v2).toList H1 fun v3 H4 =>
  some (v3, H4)) = some r) : FF n_heap_New [] H = some r :=
  fo Tryz.func76 (by kernel_rfl) h

-- FUNCTION wheel_held
theorem wheel_held_of (x0 : Value) (H : AH) {r : Value × AH} (h : (
  (pMax [x0, (vi 0)]).bind fun v0 =>
  (pMin [v0, (vi 40)]).bind fun v1 =>
  some (v1, H)) = some r) : FF n_wheel_held [x0] H = some r :=
  fo Tryz.func96 (by kernel_rfl) h

end Go.Proofs.YtbjelopcelompaaGreatDoor.Gst
