/- THE FUNCTIONS OF THE PROGRAM AS PLAIN LEAN FUNCTIONS: printed by a program of this work (XGen), each checked by the kernel against the program's text. -/
import Derived.Test.YtofbcaheogfkeaaDoorGx
namespace Go.Proofs.YtofbcaheogfkeaaDoor.Gst
open Go Go.RowKit
set_option maxRecDepth 100000
set_option linter.unusedVariables false
noncomputable abbrev PP : Program := Tryd.prog
def GG : List Nat := [0]
noncomputable abbrev FF : CallF := aF PP GG
def n_weighbridgelaw03_BitsAll : Nat := 3
def n_weighbridgelaw03_BitsNext : Nat := 4
def n_weighbridgelaw03_BitsFar : Nat := 5
def n_weighbridgelaw03_BitsWalk : Nat := 6
def n_weighbridgelaw03_BitsOne : Nat := 7
def n_weighbridgelaw03_BitsBuilt : Nat := 8
def n_weighbridgeref01_Bits : Nat := 9
def n_weighbridgelaw03_awake : Nat := 10
def n_weighbridgehelp_Plainint : Nat := 11
def n_bits_All : Nat := 12
def n_bits_Many : Nat := 13
def n_bits_Next : Nat := 14
def n_bits_Last : Nat := 15
def n_weighbridgeref01_One : Nat := 16
def n_weighbridgeref01_Bit : Nat := 17
def n_bits_With : Nat := 18
def n_bits_Without : Nat := 19
def n_bits_Has : Nat := 20
def n_weighbridgehelp_Sameint : Nat := 21
def n_weighbridgehelp_Plainint_1 : Nat := 22
def n_math_bits_OnesCount64 : Nat := 23
def n_math_bits_TrailingZeros64 : Nat := 24
def n_math_bits_Len64 : Nat := 25
def n_bits_mask : Nat := 26
-- FUNCTION weighbridgelaw03_BitsAll
noncomputable def f3_b (p : List Nat) : Code := Code.sub (bodyOf Tryd.f3) p
noncomputable def f3_r (A : List Value) (H : AH) : OV := cFin PP (Tryd.f3).results.toList A H
noncomputable def f3_x (_ : Nat) (_ : List Value) (_ : AH) : OV := none
theorem f3_r_d : Resp 1048571 f3_r := resp_fin (by kernel_rfl)
theorem f3_x_d (D : Nat) : ∀ i, Resp D (f3_x i) := fun _ => resp_none
noncomputable def weighbridgelaw03_BitsAll (x0 : Value) (H : AH) : OV := cCode PP GG FF (f3_b []) [x0, u, u, u, u, u, u, u, u, u, u, u, u, u, u, u, u, u, u, u] H f3_r f3_x f3_r
theorem weighbridgelaw03_BitsAll_eq (x0 : Value) (H : AH) : weighbridgelaw03_BitsAll x0 H =
  (FF n_weighbridgeref01_Bits [x0] H).bind fun r0 =>
  (FF n_weighbridgelaw03_awake [] r0.2).bind fun r1 =>
  (onK (yv r1.1) true (some x0) (some undef)).bind fun v2 =>
  (onK (yv r1.1) true (FF n_bits_All [v2] r1.2) (some (undef, r1.2))).bind fun r3 =>
  (onK (yv r1.1) true (some r0.1) (some undef)).bind fun v4 =>
  (onK (yv r1.1) true (FF n_weighbridgehelp_Plainint [r3.1, v4] r3.2) (some (undef, r3.2))).bind fun r5 =>
  (pPick r1.1 r5.1 (Value.bool false)).bind fun v6 =>
  (onK (yv v6) true (some x0) (some undef)).bind fun v7 =>
  (onK (yv v6) true (FF n_bits_Many [v7] r5.2) (some (undef, r5.2))).bind fun r8 =>
  (onK (yv v6) true (some r0.1) (some undef)).bind fun v9 =>
  (onK (yv v6) true (lenK v9 some) (some undef)).bind fun v10 =>
  (onK (yv v6) true ((pBin .other .eql r8.1 v10).bind some) (some undef)).bind fun v11 =>
  (pPick v6 v11 (Value.bool false)).bind fun v12 =>
  some (v12, r8.2) :=
  (by kernel_rfl)
theorem weighbridgelaw03_BitsAll_of (x0 : Value) (H : AH) {r : Value × AH} (h : weighbridgelaw03_BitsAll x0 H = some r) : FF n_weighbridgelaw03_BitsAll [x0] H = some r :=
  aF_of_body Tryd.func3 rfl rfl ((show cBody PP GG FF (Tryd.f3).ntmps (Tryd.f3).results.toList (bodyOf Tryd.f3) [x0] H = weighbridgelaw03_BitsAll x0 H by kernel_rfl).trans h)

-- FUNCTION weighbridgelaw03_BitsNext
noncomputable def f4_b (p : List Nat) : Code := Code.sub (bodyOf Tryd.f4) p
noncomputable def f4_r (A : List Value) (H : AH) : OV := cFin PP (Tryd.f4).results.toList A H
noncomputable def f4_x (_ : Nat) (_ : List Value) (_ : AH) : OV := none
noncomputable def f4_n0 (A : List Value) (H : AH) : OV := cCode PP GG FF (f4_b [1]) A H f4_r f4_x f4_r
noncomputable def f4_m0 (A : List Value) (H : AH) : OV := f4_n0 (clear 4611686018427387884 A) H
noncomputable def weighbridgelaw03_BitsNext_k0 (x0 x1 x4 : Value) (H : AH) : OV := f4_n0 [x0, x1, u, u, x4, u, u, u, u, u, u, u, u, u, u, u, u, u, u, u, u, u, u, u, u, u, u, u, u, u, u, u, u, u, u, u, u, u, u, u, u, u, u, u, u, u, u, u, u, u, u, u, u, u, u, u, u, u, u, u, u, u] H
noncomputable def f4_n1 (A : List Value) (H : AH) : OV := cCode PP GG FF (f4_b [1, 1]) A H f4_r f4_x f4_r
noncomputable def f4_m1 (A : List Value) (H : AH) : OV := f4_n1 (clear 4611686018427387884 A) H
noncomputable def weighbridgelaw03_BitsNext_k1 (x0 x1 x4 : Value) (H : AH) : OV := f4_n1 [x0, x1, u, u, x4, u, u, u, u, u, u, u, u, u, u, u, u, u, u, u, u, u, u, u, u, u, u, u, u, u, u, u, u, u, u, u, u, u, u, u, u, u, u, u, u, u, u, u, u, u, u, u, u, u, u, u, u, u, u, u, u, u] H
noncomputable def f4_n2 (A : List Value) (H : AH) : OV := cCode PP GG FF (f4_b [1, 1, 1, 1]) A H f4_r f4_x f4_r
noncomputable def f4_m2 (A : List Value) (H : AH) : OV := f4_n2 (clear 4611686018427387660 A) H
noncomputable def weighbridgelaw03_BitsNext_k2 (x0 x1 x4 x5 x6 x7 : Value) (H : AH) : OV := f4_n2 [x0, x1, u, u, x4, x5, x6, x7, u, u, u, u, u, u, u, u, u, u, u, u, u, u, u, u, u, u, u, u, u, u, u, u, u, u, u, u, u, u, u, u, u, u, u, u, u, u, u, u, u, u, u, u, u, u, u, u, u, u, u, u, u, u] H
noncomputable def f4_n3 (A : List Value) (H : AH) : OV := cCode PP GG FF (f4_b [1, 1, 1, 1, 1]) A H f4_r f4_x f4_r
noncomputable def f4_m3 (A : List Value) (H : AH) : OV := f4_n3 (clear 4611686018427387788 A) H
noncomputable def weighbridgelaw03_BitsNext_k3 (x0 x1 x4 x5 x6 : Value) (H : AH) : OV := f4_n3 [x0, x1, u, u, x4, x5, x6, u, u, u, u, u, u, u, u, u, u, u, u, u, u, u, u, u, u, u, u, u, u, u, u, u, u, u, u, u, u, u, u, u, u, u, u, u, u, u, u, u, u, u, u, u, u, u, u, u, u, u, u, u, u, u] H
noncomputable def f4_n17 (A : List Value) (H : AH) : OV := cCode PP GG FF (f4_b [1, 1, 1, 1, 0, 1]) A H f4_m3 f4_x f4_r
noncomputable def f4_m17 (A : List Value) (H : AH) : OV := f4_n17 (clear 4611686018427387404 A) H
noncomputable def weighbridgelaw03_BitsNext_k17 (x0 x1 x4 x5 x6 x7 x8 : Value) (H : AH) : OV := f4_n17 [x0, x1, u, u, x4, x5, x6, x7, x8, u, u, u, u, u, u, u, u, u, u, u, u, u, u, u, u, u, u, u, u, u, u, u, u, u, u, u, u, u, u, u, u, u, u, u, u, u, u, u, u, u, u, u, u, u, u, u, u, u, u, u, u, u] H
noncomputable def f4_x18 (i : Nat) (A : List Value) (H : AH) : OV := if i = 0 then f4_m3 A H else f4_x i A H
noncomputable def f4_y18 (i : Nat) (A : List Value) (H : AH) : OV := f4_x18 i (clear 4611686018427387788 A) H
noncomputable def f4_n19 (A : List Value) (H : AH) : OV := cLoop PP GG FF (f4_b [1, 1, 1, 1, 0, 1, 4, 5]) A H f4_y18 f4_r
noncomputable def f4_m19 (A : List Value) (H : AH) : OV := f4_n19 (clear 4611686018427387404 A) H
-- a loop
noncomputable def weighbridgelaw03_BitsNext_k19 (x0 x1 x4 x5 x6 x7 x8 : Value) (H : AH) : OV := f4_n19 [x0, x1, u, u, x4, x5, x6, x7, x8, u, u, u, u, u, u, u, u, u, u, u, u, u, u, u, u, u, u, u, u, u, u, u, u, u, u, u, u, u, u, u, u, u, u, u, u, u, u, u, u, u, u, u, u, u, u, u, u, u, u, u, u, u] H
noncomputable def f4_n20 (A : List Value) (H : AH) : OV := cCode PP GG FF (f4_b [1, 1, 1, 1, 0, 1, 4, 5, 1]) A H f4_m19 f4_y18 f4_r
noncomputable def f4_m20 (A : List Value) (H : AH) : OV := f4_n20 (clear 4611686018427387404 A) H
noncomputable def weighbridgelaw03_BitsNext_k20 (x0 x1 x4 x5 x6 x7 x8 : Value) (H : AH) : OV := f4_n20 [x0, x1, u, u, x4, x5, x6, x7, x8, u, u, u, u, u, u, u, u, u, u, u, u, u, u, u, u, u, u, u, u, u, u, u, u, u, u, u, u, u, u, u, u, u, u, u, u, u, u, u, u, u, u, u, u, u, u, u, u, u, u, u, u, u] H
noncomputable def f4_n21 (A : List Value) (H : AH) : OV := cCode PP GG FF (f4_b [1, 1, 1, 1, 0, 1, 4, 5, 1, 1]) A H f4_m19 f4_y18 f4_r
noncomputable def f4_m21 (A : List Value) (H : AH) : OV := f4_n21 (clear 4611686018427387404 A) H
noncomputable def weighbridgelaw03_BitsNext_k21 (x0 x1 x4 x5 x6 x7 x8 : Value) (H : AH) : OV := f4_n21 [x0, x1, u, u, x4, x5, x6, x7, x8, u, u, u, u, u, u, u, u, u, u, u, u, u, u, u, u, u, u, u, u, u, u, u, u, u, u, u, u, u, u, u, u, u, u, u, u, u, u, u, u, u, u, u, u, u, u, u, u, u, u, u, u, u] H
noncomputable def f4_x23 (i : Nat) (A : List Value) (H : AH) : OV := if i = 1 then f4_m21 A H else f4_y18 i A H
noncomputable def f4_y23 (i : Nat) (A : List Value) (H : AH) : OV := f4_x23 i (clear 4611686018427387404 A) H
noncomputable def f4_n24 (A : List Value) (H : AH) : OV := cCode PP GG FF (f4_b [1, 1, 1, 1, 0, 1, 4, 5, 1, 0, 4, 1]) A H f4_m21 f4_y23 f4_r
noncomputable def f4_m24 (A : List Value) (H : AH) : OV := f4_n24 (clear 4611686018427387404 A) H
noncomputable def weighbridgelaw03_BitsNext_k24 (x0 x1 x4 x5 x6 x7 x8 : Value) (H : AH) : OV := f4_n24 [x0, x1, u, u, x4, x5, x6, x7, x8, u, u, u, u, u, u, u, u, u, u, u, u, u, u, u, u, u, u, u, u, u, u, u, u, u, u, u, u, u, u, u, u, u, u, u, u, u, u, u, u, u, u, u, u, u, u, u, u, u, u, u, u, u] H
noncomputable def weighbridgelaw03_BitsNext_e18_0 (x0 x1 x4 x5 x6 : Value) (H : AH) : OV := f4_x18 0 [x0, x1, u, u, x4, x5, x6, u, u, u, u, u, u, u, u, u, u, u, u, u, u, u, u, u, u, u, u, u, u, u, u, u, u, u, u, u, u, u, u, u, u, u, u, u, u, u, u, u, u, u, u, u, u, u, u, u, u, u, u, u, u, u] H
theorem f4_r_d : Resp 4611686018427387887 f4_r := resp_fin (by kernel_rfl)
theorem f4_x_d (D : Nat) : ∀ i, Resp D (f4_x i) := fun _ => resp_none
theorem f4_n0_d : Resp 4611686018427387884 f4_n0 := resp_code (P := PP) (G := GG) (call := FF) (c := (f4_b [1])) (D := 4611686018427387884) (D' := 4611686018427387887) (kn := f4_r) (kx := f4_x) (kr := f4_r) (by kernel_rfl) (f4_r_d.le (by kernel_rfl)) (f4_x_d _) (f4_r_d.le (by kernel_rfl))
theorem f4_m0_d : Resp 4611686018427387884 f4_m0 := resp_clear f4_n0_d
theorem f4_n1_d : Resp 4611686018427387884 f4_n1 := resp_code (P := PP) (G := GG) (call := FF) (c := (f4_b [1, 1])) (D := 4611686018427387884) (D' := 4611686018427387887) (kn := f4_r) (kx := f4_x) (kr := f4_r) (by kernel_rfl) (f4_r_d.le (by kernel_rfl)) (f4_x_d _) (f4_r_d.le (by kernel_rfl))
theorem f4_m1_d : Resp 4611686018427387884 f4_m1 := resp_clear f4_n1_d
theorem f4_n2_d : Resp 4611686018427387660 f4_n2 := resp_code (P := PP) (G := GG) (call := FF) (c := (f4_b [1, 1, 1, 1])) (D := 4611686018427387660) (D' := 4611686018427387887) (kn := f4_r) (kx := f4_x) (kr := f4_r) (by kernel_rfl) (f4_r_d.le (by kernel_rfl)) (f4_x_d _) (f4_r_d.le (by kernel_rfl))
theorem f4_m2_d : Resp 4611686018427387660 f4_m2 := resp_clear f4_n2_d
theorem f4_n3_d : Resp 4611686018427387788 f4_n3 := resp_code (P := PP) (G := GG) (call := FF) (c := (f4_b [1, 1, 1, 1, 1])) (D := 4611686018427387788) (D' := 4611686018427387887) (kn := f4_r) (kx := f4_x) (kr := f4_r) (by kernel_rfl) (f4_r_d.le (by kernel_rfl)) (f4_x_d _) (f4_r_d.le (by kernel_rfl))
theorem f4_m3_d : Resp 4611686018427387788 f4_m3 := resp_clear f4_n3_d
theorem f4_n17_d : Resp 4611686018427387404 f4_n17 := resp_code (P := PP) (G := GG) (call := FF) (c := (f4_b [1, 1, 1, 1, 0, 1])) (D := 4611686018427387404) (D' := 4611686018427387788) (kn := f4_m3) (kx := f4_x) (kr := f4_r) (by kernel_rfl) (f4_m3_d.le (by kernel_rfl)) (f4_x_d _) (f4_r_d.le (by kernel_rfl))
theorem f4_m17_d : Resp 4611686018427387404 f4_m17 := resp_clear f4_n17_d
theorem f4_x18_d : ∀ i, Resp 4611686018427387788 (f4_x18 i) := resp_block (kn := f4_m3) (kx := f4_x) (f4_m3_d.le (by kernel_rfl)) (f4_x_d _)
theorem f4_y18_d : ∀ i, Resp 4611686018427387788 (f4_y18 i) := fun i => resp_clear (f4_x18_d i)
theorem f4_n19_d : Resp 4611686018427387404 f4_n19 := resp_loop (P := PP) (G := GG) (call := FF) (c := (f4_b [1, 1, 1, 1, 0, 1, 4, 5])) (D := 4611686018427387404) (kx := f4_y18) (kr := f4_r) (by kernel_rfl) (fun i => (f4_y18_d i).le (by kernel_rfl)) (f4_r_d.le (by kernel_rfl))
theorem f4_m19_d : Resp 4611686018427387404 f4_m19 := resp_clear f4_n19_d
theorem f4_n20_d : Resp 4611686018427387404 f4_n20 := resp_code (P := PP) (G := GG) (call := FF) (c := (f4_b [1, 1, 1, 1, 0, 1, 4, 5, 1])) (D := 4611686018427387404) (D' := 4611686018427387404) (kn := f4_m19) (kx := f4_y18) (kr := f4_r) (by kernel_rfl) (f4_m19_d.le (by kernel_rfl)) (fun i => (f4_y18_d i).le (by kernel_rfl)) (f4_r_d.le (by kernel_rfl))
theorem f4_m20_d : Resp 4611686018427387404 f4_m20 := resp_clear f4_n20_d
theorem f4_n21_d : Resp 4611686018427387404 f4_n21 := resp_code (P := PP) (G := GG) (call := FF) (c := (f4_b [1, 1, 1, 1, 0, 1, 4, 5, 1, 1])) (D := 4611686018427387404) (D' := 4611686018427387404) (kn := f4_m19) (kx := f4_y18) (kr := f4_r) (by kernel_rfl) (f4_m19_d.le (by kernel_rfl)) (fun i => (f4_y18_d i).le (by kernel_rfl)) (f4_r_d.le (by kernel_rfl))
theorem f4_m21_d : Resp 4611686018427387404 f4_m21 := resp_clear f4_n21_d
theorem f4_x23_d : ∀ i, Resp 4611686018427387404 (f4_x23 i) := resp_block (kn := f4_m21) (kx := f4_y18) (f4_m21_d.le (by kernel_rfl)) (fun i => (f4_y18_d i).le (by kernel_rfl))
theorem f4_y23_d : ∀ i, Resp 4611686018427387404 (f4_y23 i) := fun i => resp_clear (f4_x23_d i)
theorem f4_n24_d : Resp 4611686018427387404 f4_n24 := resp_code (P := PP) (G := GG) (call := FF) (c := (f4_b [1, 1, 1, 1, 0, 1, 4, 5, 1, 0, 4, 1])) (D := 4611686018427387404) (D' := 4611686018427387404) (kn := f4_m21) (kx := f4_y23) (kr := f4_r) (by kernel_rfl) (f4_m21_d.le (by kernel_rfl)) (fun i => (f4_y23_d i).le (by kernel_rfl)) (f4_r_d.le (by kernel_rfl))
theorem f4_m24_d : Resp 4611686018427387404 f4_m24 := resp_clear f4_n24_d
theorem weighbridgelaw03_BitsNext_k3_eq (x0 x1 x4 x5 x6 : Value) (H : AH) : weighbridgelaw03_BitsNext_k3 x0 x1 x4 x5 x6 H =
  (FF n_weighbridgelaw03_awake [] H).bind fun r4 =>
  (onK (yv r4.1) true (some x0) (some undef)).bind fun v5 =>
  (onK (yv r4.1) true (some x1) (some undef)).bind fun v6 =>
  (onK (yv r4.1) true (FF n_bits_Next [v5, v6] r4.2) (some (undef, r4.2))).bind fun r7 =>
  (onK (yv r4.1) true (some x5) (some undef)).bind fun v8 =>
  (onK (yv r4.1) true ((pBin .other .eql r7.1 v8).bind some) (some undef)).bind fun v9 =>
  (pPick r4.1 v9 (Value.bool false)).bind fun v10 =>
  (onK (yv v10) true (some x0) (some undef)).bind fun v11 =>
  (onK (yv v10) true (some x1) (some undef)).bind fun v12 =>
  (onK (yv v10) true (FF n_bits_Last [v11, v12] r7.2) (some (undef, r7.2))).bind fun r13 =>
  (onK (yv v10) true (some x6) (some undef)).bind fun v14 =>
  (onK (yv v10) true ((pBin .other .eql r13.1 v14).bind some) (some undef)).bind fun v15 =>
  (pPick v10 v15 (Value.bool false)).bind fun v16 =>
  some (v16, r13.2) :=
  (by kernel_rfl)
theorem weighbridgelaw03_BitsNext_k21_eq (x0 x1 x4 x5 x6 x7 x8 : Value) (H : AH) : weighbridgelaw03_BitsNext_k21 x0 x1 x4 x5 x6 x7 x8 H =
  (pBin .other .add x8 (Value.int .i64 1)).bind fun v22 =>
  weighbridgelaw03_BitsNext_k19 x0 x1 x4 x5 x6 x7 v22 H :=
  (by kernel_rfl)
theorem weighbridgelaw03_BitsNext_k24_eq (x0 x1 x4 x5 x6 x7 x8 : Value) (H : AH) : weighbridgelaw03_BitsNext_k24 x0 x1 x4 x5 x6 x7 x8 H =
  (pIdx 1 x7 x8).bind fun v25 =>
  (pLd1 v25 H).bind fun v26 =>
  (pBin .other .leq v26 x1).bind fun v27 =>
  condK v27
  ((pIdx 1 x7 x8).bind fun v28 =>
  (pLd1 v28 H).bind fun v29 =>
  weighbridgelaw03_BitsNext_k21 x0 x1 x4 x5 v29 x7 x8 H)
  (weighbridgelaw03_BitsNext_k21 x0 x1 x4 x5 x6 x7 x8 H) :=
  (by kernel_rfl)
theorem weighbridgelaw03_BitsNext_k20_eq (x0 x1 x4 x5 x6 x7 x8 : Value) (H : AH) : weighbridgelaw03_BitsNext_k20 x0 x1 x4 x5 x6 x7 x8 H =
  (pIdx 1 x7 x8).bind fun v30 =>
  (pLd1 v30 H).bind fun v31 =>
  (pBin .other .geq v31 x1).bind fun v32 =>
  (onK (yv v32) true (some x5) (some undef)).bind fun v33 =>
  (onK (yv v32) true ((pBin .other .lss v33 (Value.int .i64 0)).bind some) (some undef)).bind fun v34 =>
  (pPick v32 v34 (Value.bool false)).bind fun v35 =>
  condK v35
  ((pIdx 1 x7 x8).bind fun v36 =>
  (pLd1 v36 H).bind fun v37 =>
  weighbridgelaw03_BitsNext_k24 x0 x1 x4 v37 x6 x7 x8 H)
  (weighbridgelaw03_BitsNext_k24 x0 x1 x4 x5 x6 x7 x8 H) :=
  (pre_to (P := PP) (G := GG) (call := FF) (A := [x0, x1, u, u, x4, x5, x6, x7, x8, u, u, u, u, u, u, u, u, u, u, u, u, u, u, u, u, u, u, u, u, u, u, u, u, u, u, u, u, u, u, u, u, u, u, u, u, u, u, u, u, u, u, u, u, u, u, u, u, u, u, u, u, u]) (H := H) (kx := f4_y18) (kr := f4_r) (kn := f4_m19) (c := (f4_b [1, 1, 1, 1, 0, 1, 4, 5, 1])) (k := 0) (D := 4611686018427387404) (n := f4_n21) (by kernel_rfl) (by kernel_rfl) f4_n21_d (block_to (P := PP) (G := GG) (call := FF) (A := [x0, x1, u, u, x4, x5, x6, x7, x8, u, u, u, u, u, u, u, u, u, u, u, u, u, u, u, u, u, u, u, u, u, u, u, u, u, u, u, u, u, u, u, u, u, u, u, u, u, u, u, u, u, u, u, u, u, u, u, u, u, u, u, u, u]) (H := H) (kx := f4_y18) (kr := f4_r) (kn := f4_m21) (c := (f4_b [1, 1, 1, 1, 0, 1, 4, 5, 1, 0])) (x := (f4_b [1, 1, 1, 1, 0, 1, 4, 5, 1, 0, 4])) (id := 1) (D := 4611686018427387404) (n := f4_x23) (by kernel_rfl) (by kernel_rfl) (by kernel_rfl) f4_x23_d (pre_to (P := PP) (G := GG) (call := FF) (A := [x0, x1, u, u, x4, x5, x6, x7, x8, u, u, u, u, u, u, u, u, u, u, u, u, u, u, u, u, u, u, u, u, u, u, u, u, u, u, u, u, u, u, u, u, u, u, u, u, u, u, u, u, u, u, u, u, u, u, u, u, u, u, u, u, u]) (H := H) (kx := f4_y23) (kr := f4_r) (kn := f4_m21) (c := (f4_b [1, 1, 1, 1, 0, 1, 4, 5, 1, 0, 4])) (k := 0) (D := 4611686018427387404) (n := f4_n24) (by kernel_rfl) (by kernel_rfl) f4_n24_d (by kernel_rfl))))
theorem weighbridgelaw03_BitsNext_e18_0_eq (x0 x1 x4 x5 x6 : Value) (H : AH) : weighbridgelaw03_BitsNext_e18_0 x0 x1 x4 x5 x6 H = weighbridgelaw03_BitsNext_k3 x0 x1 x4 x5 x6 H :=
  here_to (id := 0) (n := f4_x18) (kn := f4_m3) (kx := f4_x) (A := [x0, x1, u, u, x4, x5, x6, u, u, u, u, u, u, u, u, u, u, u, u, u, u, u, u, u, u, u, u, u, u, u, u, u, u, u, u, u, u, u, u, u, u, u, u, u, u, u, u, u, u, u, u, u, u, u, u, u, u, u, u, u, u, u]) (H := H) (by kernel_rfl) (by kernel_rfl) (by kernel_rfl)
theorem weighbridgelaw03_BitsNext_k19_eq (x0 x1 x4 x5 x6 x7 x8 : Value) (H : AH) : weighbridgelaw03_BitsNext_k19 x0 x1 x4 x5 x6 x7 x8 H =
  lenK x7 fun v38 =>
  (pBin .other .lss x8 v38).bind fun v39 =>
  condK v39
  (weighbridgelaw03_BitsNext_k20 x0 x1 x4 x5 x6 x7 x8 H)
  (weighbridgelaw03_BitsNext_e18_0 x0 x1 x4 x5 x6 H) :=
  loop_to (P := PP) (G := GG) (call := FF) (A := [x0, x1, u, u, x4, x5, x6, x7, x8, u, u, u, u, u, u, u, u, u, u, u, u, u, u, u, u, u, u, u, u, u, u, u, u, u, u, u, u, u, u, u, u, u, u, u, u, u, u, u, u, u, u, u, u, u, u, u, u, u, u, u, u, u]) (H := H) (kx := f4_y18) (kr := f4_r) (x := (f4_b [1, 1, 1, 1, 0, 1, 4, 5])) (D := 4611686018427387404) (n := f4_n19) (by kernel_rfl) (by kernel_rfl) f4_n19_d (pre_to (P := PP) (G := GG) (call := FF) (A := [x0, x1, u, u, x4, x5, x6, x7, x8, u, u, u, u, u, u, u, u, u, u, u, u, u, u, u, u, u, u, u, u, u, u, u, u, u, u, u, u, u, u, u, u, u, u, u, u, u, u, u, u, u, u, u, u, u, u, u, u, u, u, u, u, u]) (H := H) (kx := f4_y18) (kr := f4_r) (kn := f4_m19) (c := (f4_b [1, 1, 1, 1, 0, 1, 4, 5])) (k := 0) (D := 4611686018427387404) (n := f4_n20) (by kernel_rfl) (by kernel_rfl) f4_n20_d (by kernel_rfl))
theorem weighbridgelaw03_BitsNext_k17_eq (x0 x1 x4 x5 x6 x7 x8 : Value) (H : AH) : weighbridgelaw03_BitsNext_k17 x0 x1 x4 x5 x6 x7 x8 H =
  weighbridgelaw03_BitsNext_k19 x0 x1 x4 x5 x6 x7 x8 H :=
  (block_to (P := PP) (G := GG) (call := FF) (A := [x0, x1, u, u, x4, x5, x6, x7, x8, u, u, u, u, u, u, u, u, u, u, u, u, u, u, u, u, u, u, u, u, u, u, u, u, u, u, u, u, u, u, u, u, u, u, u, u, u, u, u, u, u, u, u, u, u, u, u, u, u, u, u, u, u]) (H := H) (kx := f4_x) (kr := f4_r) (kn := f4_m3) (c := (f4_b [1, 1, 1, 1, 0, 1])) (x := (f4_b [1, 1, 1, 1, 0, 1, 4])) (id := 0) (D := 4611686018427387788) (n := f4_x18) (by kernel_rfl) (by kernel_rfl) (by kernel_rfl) f4_x18_d (loop_in (P := PP) (G := GG) (call := FF) (A := [x0, x1, u, u, x4, x5, x6, x7, x8, u, u, u, u, u, u, u, u, u, u, u, u, u, u, u, u, u, u, u, u, u, u, u, u, u, u, u, u, u, u, u, u, u, u, u, u, u, u, u, u, u, u, u, u, u, u, u, u, u, u, u, u, u]) (H := H) (kx := f4_y18) (kr := f4_r) (kn := f4_m3) (c := (f4_b [1, 1, 1, 1, 0, 1, 4])) (x := (f4_b [1, 1, 1, 1, 0, 1, 4, 5])) (D := 4611686018427387404) (n := f4_n19) (by kernel_rfl) (by kernel_rfl) (by kernel_rfl) f4_n19_d (by kernel_rfl)))
theorem weighbridgelaw03_BitsNext_k2_eq (x0 x1 x4 x5 x6 x7 : Value) (H : AH) : weighbridgelaw03_BitsNext_k2 x0 x1 x4 x5 x6 x7 H =
  weighbridgelaw03_BitsNext_k17 x0 x1 x4 x5 x6 x7 (Value.int .i64 0) H :=
  (pre_to (P := PP) (G := GG) (call := FF) (A := [x0, x1, u, u, x4, x5, x6, x7, u, u, u, u, u, u, u, u, u, u, u, u, u, u, u, u, u, u, u, u, u, u, u, u, u, u, u, u, u, u, u, u, u, u, u, u, u, u, u, u, u, u, u, u, u, u, u, u, u, u, u, u, u, u]) (H := H) (kx := f4_x) (kr := f4_r) (kn := f4_r) (c := (f4_b [1, 1, 1, 1])) (k := 0) (D := 4611686018427387788) (n := f4_n3) (by kernel_rfl) (by kernel_rfl) f4_n3_d (pre_to (P := PP) (G := GG) (call := FF) (A := [x0, x1, u, u, x4, x5, x6, x7, u, u, u, u, u, u, u, u, u, u, u, u, u, u, u, u, u, u, u, u, u, u, u, u, u, u, u, u, u, u, u, u, u, u, u, u, u, u, u, u, u, u, u, u, u, u, u, u, u, u, u, u, u, u]) (H := H) (kx := f4_x) (kr := f4_r) (kn := f4_m3) (c := (f4_b [1, 1, 1, 1, 0])) (k := 0) (D := 4611686018427387404) (n := f4_n17) (by kernel_rfl) (by kernel_rfl) f4_n17_d (by kernel_rfl)))
theorem weighbridgelaw03_BitsNext_k1_eq (x0 x1 x4 : Value) (H : AH) : weighbridgelaw03_BitsNext_k1 x0 x1 x4 H =
  (FF n_weighbridgeref01_Bits [x0] H).bind fun r40 =>
  weighbridgelaw03_BitsNext_k2 x0 x1 x4 (Value.int .i64 (-1)) (Value.int .i64 (-1)) r40.1 r40.2 :=
  (pre_to (P := PP) (G := GG) (call := FF) (A := [x0, x1, u, u, x4, u, u, u, u, u, u, u, u, u, u, u, u, u, u, u, u, u, u, u, u, u, u, u, u, u, u, u, u, u, u, u, u, u, u, u, u, u, u, u, u, u, u, u, u, u, u, u, u, u, u, u, u, u, u, u, u, u]) (H := H) (kx := f4_x) (kr := f4_r) (kn := f4_r) (c := (f4_b [1, 1])) (k := 1) (D := 4611686018427387660) (n := f4_n2) (by kernel_rfl) (by kernel_rfl) f4_n2_d (by kernel_rfl))
theorem weighbridgelaw03_BitsNext_k0_eq (x0 x1 x4 : Value) (H : AH) : weighbridgelaw03_BitsNext_k0 x0 x1 x4 H =
  (pBin .other .gtr x1 (Value.int .i64 40)).bind fun v41 =>
  condK v41
  ((pConv (some .u64) x1).bind fun v42 =>
  (pBin .other .rem v42 (Value.int .u64 70)).bind fun v43 =>
  (pConv (some .i64) v43).bind fun v44 =>
  weighbridgelaw03_BitsNext_k1 x0 v44 x4 H)
  (weighbridgelaw03_BitsNext_k1 x0 x1 x4 H) :=
  (pre_to (P := PP) (G := GG) (call := FF) (A := [x0, x1, u, u, x4, u, u, u, u, u, u, u, u, u, u, u, u, u, u, u, u, u, u, u, u, u, u, u, u, u, u, u, u, u, u, u, u, u, u, u, u, u, u, u, u, u, u, u, u, u, u, u, u, u, u, u, u, u, u, u, u, u]) (H := H) (kx := f4_x) (kr := f4_r) (kn := f4_r) (c := (f4_b [1])) (k := 0) (D := 4611686018427387884) (n := f4_n1) (by kernel_rfl) (by kernel_rfl) f4_n1_d (by kernel_rfl))
noncomputable def weighbridgelaw03_BitsNext (x0 x1 : Value) (H : AH) : OV := cCode PP GG FF (f4_b []) [x0, x1, u, u, u, u, u, u, u, u, u, u, u, u, u, u, u, u, u, u, u, u, u, u, u, u, u, u, u, u, u, u, u, u, u, u, u, u, u, u, u, u, u, u, u, u, u, u, u, u, u, u, u, u, u, u, u, u, u, u, u, u] H f4_r f4_x f4_r
theorem weighbridgelaw03_BitsNext_eq (x0 x1 : Value) (H : AH) : weighbridgelaw03_BitsNext x0 x1 H =
  weighbridgelaw03_BitsNext_k0 x0 x1 (Value.bool false) H :=
  (pre_to (P := PP) (G := GG) (call := FF) (A := [x0, x1, u, u, u, u, u, u, u, u, u, u, u, u, u, u, u, u, u, u, u, u, u, u, u, u, u, u, u, u, u, u, u, u, u, u, u, u, u, u, u, u, u, u, u, u, u, u, u, u, u, u, u, u, u, u, u, u, u, u, u, u]) (H := H) (kx := f4_x) (kr := f4_r) (kn := f4_r) (c := (f4_b [])) (k := 0) (D := 4611686018427387884) (n := f4_n0) (by kernel_rfl) (by kernel_rfl) f4_n0_d (by kernel_rfl))
theorem weighbridgelaw03_BitsNext_of (x0 x1 : Value) (H : AH) {r : Value × AH} (h : weighbridgelaw03_BitsNext x0 x1 H = some r) : FF n_weighbridgelaw03_BitsNext [x0, x1] H = some r :=
  aF_of_body Tryd.func4 rfl rfl ((show cBody PP GG FF (Tryd.f4).ntmps (Tryd.f4).results.toList (bodyOf Tryd.f4) [x0, x1] H = weighbridgelaw03_BitsNext x0 x1 H by kernel_rfl).trans h)

-- FUNCTION weighbridgelaw03_BitsFar
noncomputable def f5_b (p : List Nat) : Code := Code.sub (bodyOf Tryd.f5) p
noncomputable def f5_r (A : List Value) (H : AH) : OV := cFin PP (Tryd.f5).results.toList A H
noncomputable def f5_x (_ : Nat) (_ : List Value) (_ : AH) : OV := none
noncomputable def f5_n0 (A : List Value) (H : AH) : OV := cCode PP GG FF (f5_b [1, 1, 1, 1]) A H f5_r f5_x f5_r
noncomputable def f5_m0 (A : List Value) (H : AH) : OV := f5_n0 (clear 36028797018962958 A) H
noncomputable def weighbridgelaw03_BitsFar_k0 (x0 x4 x5 x6 x7 x8 x9 : Value) (H : AH) : OV := f5_n0 [x0, u, u, u, x4, x5, x6, x7, x8, x9, u, u, u, u, u, u, u, u, u, u, u, u, u, u, u, u, u, u, u, u, u, u, u, u, u, u, u, u, u, u, u, u, u, u, u, u, u, u, u, u, u, u, u, u, u] H
noncomputable def f5_n1 (A : List Value) (H : AH) : OV := cCode PP GG FF (f5_b [1, 1, 1, 1, 1]) A H f5_r f5_x f5_r
noncomputable def f5_m1 (A : List Value) (H : AH) : OV := f5_n1 (clear 36028797018963086 A) H
noncomputable def weighbridgelaw03_BitsFar_k1 (x0 x4 x5 x6 x8 x9 : Value) (H : AH) : OV := f5_n1 [x0, u, u, u, x4, x5, x6, u, x8, x9, u, u, u, u, u, u, u, u, u, u, u, u, u, u, u, u, u, u, u, u, u, u, u, u, u, u, u, u, u, u, u, u, u, u, u, u, u, u, u, u, u, u, u, u, u] H
theorem f5_r_d : Resp 36028797018963951 f5_r := resp_fin (by kernel_rfl)
theorem f5_x_d (D : Nat) : ∀ i, Resp D (f5_x i) := fun _ => resp_none
theorem f5_n0_d : Resp 36028797018962958 f5_n0 := resp_code (P := PP) (G := GG) (call := FF) (c := (f5_b [1, 1, 1, 1])) (D := 36028797018962958) (D' := 36028797018963951) (kn := f5_r) (kx := f5_x) (kr := f5_r) (by kernel_rfl) (f5_r_d.le (by kernel_rfl)) (f5_x_d _) (f5_r_d.le (by kernel_rfl))
theorem f5_m0_d : Resp 36028797018962958 f5_m0 := resp_clear f5_n0_d
theorem f5_n1_d : Resp 36028797018963086 f5_n1 := resp_code (P := PP) (G := GG) (call := FF) (c := (f5_b [1, 1, 1, 1, 1])) (D := 36028797018963086) (D' := 36028797018963951) (kn := f5_r) (kx := f5_x) (kr := f5_r) (by kernel_rfl) (f5_r_d.le (by kernel_rfl)) (f5_x_d _) (f5_r_d.le (by kernel_rfl))
theorem f5_m1_d : Resp 36028797018963086 f5_m1 := resp_clear f5_n1_d
theorem weighbridgelaw03_BitsFar_k1_eq (x0 x4 x5 x6 x8 x9 : Value) (H : AH) : weighbridgelaw03_BitsFar_k1 x0 x4 x5 x6 x8 x9 H =
  (FF n_weighbridgelaw03_awake [] H).bind fun r2 =>
  (onK (yv r2.1) true (some x0) (some undef)).bind fun v3 =>
  (onK (yv r2.1) true (some x5) (some undef)).bind fun v4 =>
  (onK (yv r2.1) true (FF n_bits_Next [v3, v4] r2.2) (some (undef, r2.2))).bind fun r5 =>
  (onK (yv r2.1) true (some x8) (some undef)).bind fun v6 =>
  (onK (yv r2.1) true ((pBin .other .eql r5.1 v6).bind some) (some undef)).bind fun v7 =>
  (pPick r2.1 v7 (Value.bool false)).bind fun v8 =>
  (onK (yv v8) true (some x0) (some undef)).bind fun v9 =>
  (onK (yv v8) true (some x6) (some undef)).bind fun v10 =>
  (onK (yv v8) true (FF n_bits_Next [v9, v10] r5.2) (some (undef, r5.2))).bind fun r11 =>
  (onK (yv v8) true ((pBin .other .eql r11.1 (Value.int .i64 (-1))).bind some) (some undef)).bind fun v12 =>
  (pPick v8 v12 (Value.bool false)).bind fun v13 =>
  (onK (yv v13) true (some x0) (some undef)).bind fun v14 =>
  (onK (yv v13) true (some x5) (some undef)).bind fun v15 =>
  (onK (yv v13) true (FF n_bits_Last [v14, v15] r11.2) (some (undef, r11.2))).bind fun r16 =>
  (onK (yv v13) true ((pBin .other .eql r16.1 (Value.int .i64 (-1))).bind some) (some undef)).bind fun v17 =>
  (pPick v13 v17 (Value.bool false)).bind fun v18 =>
  (onK (yv v18) true (some x0) (some undef)).bind fun v19 =>
  (onK (yv v18) true (some x6) (some undef)).bind fun v20 =>
  (onK (yv v18) true (FF n_bits_Last [v19, v20] r16.2) (some (undef, r16.2))).bind fun r21 =>
  (onK (yv v18) true (some x9) (some undef)).bind fun v22 =>
  (onK (yv v18) true ((pBin .other .eql r21.1 v22).bind some) (some undef)).bind fun v23 =>
  (pPick v18 v23 (Value.bool false)).bind fun v24 =>
  some (v24, r21.2) :=
  (by kernel_rfl)
theorem weighbridgelaw03_BitsFar_k0_eq (x0 x4 x5 x6 x7 x8 x9 : Value) (H : AH) : weighbridgelaw03_BitsFar_k0 x0 x4 x5 x6 x7 x8 x9 H =
  lenK x7 fun v25 =>
  (pBin .other .gtr v25 (Value.int .i64 0)).bind fun v26 =>
  condK v26
  ((pIdx 1 x7 (Value.int .i64 0)).bind fun v27 =>
  (pLd1 v27 H).bind fun v28 =>
  lenK x7 fun v29 =>
  (pBin .other .sub v29 (Value.int .i64 1)).bind fun v30 =>
  (pIdx 1 x7 v30).bind fun v31 =>
  (pLd1 v31 H).bind fun v32 =>
  weighbridgelaw03_BitsFar_k1 x0 x4 x5 x6 v28 v32 H)
  (weighbridgelaw03_BitsFar_k1 x0 x4 x5 x6 x8 x9 H) :=
  (pre_to (P := PP) (G := GG) (call := FF) (A := [x0, u, u, u, x4, x5, x6, x7, x8, x9, u, u, u, u, u, u, u, u, u, u, u, u, u, u, u, u, u, u, u, u, u, u, u, u, u, u, u, u, u, u, u, u, u, u, u, u, u, u, u, u, u, u, u, u, u]) (H := H) (kx := f5_x) (kr := f5_r) (kn := f5_r) (c := (f5_b [1, 1, 1, 1])) (k := 0) (D := 36028797018963086) (n := f5_n1) (by kernel_rfl) (by kernel_rfl) f5_n1_d (by kernel_rfl))
noncomputable def weighbridgelaw03_BitsFar (x0 x1 : Value) (H : AH) : OV := cCode PP GG FF (f5_b []) [x0, x1, u, u, u, u, u, u, u, u, u, u, u, u, u, u, u, u, u, u, u, u, u, u, u, u, u, u, u, u, u, u, u, u, u, u, u, u, u, u, u, u, u, u, u, u, u, u, u, u, u, u, u, u, u] H f5_r f5_x f5_r
theorem weighbridgelaw03_BitsFar_eq (x0 x1 : Value) (H : AH) : weighbridgelaw03_BitsFar x0 x1 H =
  (pMin [x1, (Value.int .i64 (-1))]).bind fun v33 =>
  (pMax [x1, (Value.int .i64 64)]).bind fun v34 =>
  (FF n_weighbridgeref01_Bits [x0] H).bind fun r35 =>
  weighbridgelaw03_BitsFar_k0 x0 (Value.bool false) v33 v34 r35.1 (Value.int .i64 (-1)) (Value.int .i64 (-1)) r35.2 :=
  (pre_to (P := PP) (G := GG) (call := FF) (A := [x0, x1, u, u, u, u, u, u, u, u, u, u, u, u, u, u, u, u, u, u, u, u, u, u, u, u, u, u, u, u, u, u, u, u, u, u, u, u, u, u, u, u, u, u, u, u, u, u, u, u, u, u, u, u, u]) (H := H) (kx := f5_x) (kr := f5_r) (kn := f5_r) (c := (f5_b [])) (k := 3) (D := 36028797018962958) (n := f5_n0) (by kernel_rfl) (by kernel_rfl) f5_n0_d (by kernel_rfl))
theorem weighbridgelaw03_BitsFar_of (x0 x1 : Value) (H : AH) {r : Value × AH} (h : weighbridgelaw03_BitsFar x0 x1 H = some r) : FF n_weighbridgelaw03_BitsFar [x0, x1] H = some r :=
  aF_of_body Tryd.func5 rfl rfl ((show cBody PP GG FF (Tryd.f5).ntmps (Tryd.f5).results.toList (bodyOf Tryd.f5) [x0, x1] H = weighbridgelaw03_BitsFar x0 x1 H by kernel_rfl).trans h)

-- FUNCTION weighbridgelaw03_BitsWalk
noncomputable def f6_b (p : List Nat) : Code := Code.sub (bodyOf Tryd.f6) p
noncomputable def f6_r (A : List Value) (H : AH) : OV := cFin PP (Tryd.f6).results.toList A H
noncomputable def f6_x (_ : Nat) (_ : List Value) (_ : AH) : OV := none
noncomputable def f6_n0 (A : List Value) (H : AH) : OV := cCode PP GG FF (f6_b [1, 1]) A H f6_r f6_x f6_r
noncomputable def f6_m0 (A : List Value) (H : AH) : OV := f6_n0 (clear 9007199254740962 A) H
noncomputable def weighbridgelaw03_BitsWalk_k0 (x0 x2 x3 x4 : Value) (H : AH) : OV := f6_n0 [x0, u, x2, x3, x4, u, u, u, u, u, u, u, u, u, u, u, u, u, u, u, u, u, u, u, u, u, u, u, u, u, u, u, u, u, u, u, u, u, u, u, u, u, u, u, u, u, u, u, u, u, u, u, u] H
noncomputable def f6_n1 (A : List Value) (H : AH) : OV := cCode PP GG FF (f6_b [1, 1, 1]) A H f6_r f6_x f6_r
noncomputable def f6_m1 (A : List Value) (H : AH) : OV := f6_n1 (clear 9007199254740962 A) H
noncomputable def weighbridgelaw03_BitsWalk_k1 (x0 x2 x3 x4 : Value) (H : AH) : OV := f6_n1 [x0, u, x2, x3, x4, u, u, u, u, u, u, u, u, u, u, u, u, u, u, u, u, u, u, u, u, u, u, u, u, u, u, u, u, u, u, u, u, u, u, u, u, u, u, u, u, u, u, u, u, u, u, u, u] H
noncomputable def f6_n2 (A : List Value) (H : AH) : OV := cCode PP GG FF (f6_b [1, 1, 1, 1]) A H f6_r f6_x f6_r
noncomputable def f6_m2 (A : List Value) (H : AH) : OV := f6_n2 (clear 9007199254740962 A) H
noncomputable def weighbridgelaw03_BitsWalk_k2 (x0 x2 x3 x4 : Value) (H : AH) : OV := f6_n2 [x0, u, x2, x3, x4, u, u, u, u, u, u, u, u, u, u, u, u, u, u, u, u, u, u, u, u, u, u, u, u, u, u, u, u, u, u, u, u, u, u, u, u, u, u, u, u, u, u, u, u, u, u, u, u] H
noncomputable def f6_n13 (A : List Value) (H : AH) : OV := cCode PP GG FF (f6_b [1, 1, 1, 0, 1]) A H f6_m2 f6_x f6_r
noncomputable def f6_m13 (A : List Value) (H : AH) : OV := f6_n13 (clear 9007199254740898 A) H
noncomputable def weighbridgelaw03_BitsWalk_k13 (x0 x2 x3 x4 x6 : Value) (H : AH) : OV := f6_n13 [x0, u, x2, x3, x4, u, x6, u, u, u, u, u, u, u, u, u, u, u, u, u, u, u, u, u, u, u, u, u, u, u, u, u, u, u, u, u, u, u, u, u, u, u, u, u, u, u, u, u, u, u, u, u, u] H
noncomputable def f6_x14 (i : Nat) (A : List Value) (H : AH) : OV := if i = 2 then f6_m2 A H else f6_x i A H
noncomputable def f6_y14 (i : Nat) (A : List Value) (H : AH) : OV := f6_x14 i (clear 9007199254740962 A) H
noncomputable def f6_n15 (A : List Value) (H : AH) : OV := cLoop PP GG FF (f6_b [1, 1, 1, 0, 1, 4, 5]) A H f6_y14 f6_r
noncomputable def f6_m15 (A : List Value) (H : AH) : OV := f6_n15 (clear 9007199254740898 A) H
-- a loop
noncomputable def weighbridgelaw03_BitsWalk_k15 (x0 x2 x3 x4 x6 : Value) (H : AH) : OV := f6_n15 [x0, u, x2, x3, x4, u, x6, u, u, u, u, u, u, u, u, u, u, u, u, u, u, u, u, u, u, u, u, u, u, u, u, u, u, u, u, u, u, u, u, u, u, u, u, u, u, u, u, u, u, u, u, u, u] H
noncomputable def f6_n16 (A : List Value) (H : AH) : OV := cCode PP GG FF (f6_b [1, 1, 1, 0, 1, 4, 5, 1]) A H f6_m15 f6_y14 f6_r
noncomputable def f6_m16 (A : List Value) (H : AH) : OV := f6_n16 (clear 9007199254740898 A) H
noncomputable def weighbridgelaw03_BitsWalk_k16 (x0 x2 x3 x4 x6 : Value) (H : AH) : OV := f6_n16 [x0, u, x2, x3, x4, u, x6, u, u, u, u, u, u, u, u, u, u, u, u, u, u, u, u, u, u, u, u, u, u, u, u, u, u, u, u, u, u, u, u, u, u, u, u, u, u, u, u, u, u, u, u, u, u] H
noncomputable def f6_n17 (A : List Value) (H : AH) : OV := cCode PP GG FF (f6_b [1, 1, 1, 0, 1, 4, 5, 1, 1]) A H f6_m15 f6_y14 f6_r
noncomputable def f6_m17 (A : List Value) (H : AH) : OV := f6_n17 (clear 9007199254740898 A) H
noncomputable def weighbridgelaw03_BitsWalk_k17 (x0 x2 x3 x4 x6 : Value) (H : AH) : OV := f6_n17 [x0, u, x2, x3, x4, u, x6, u, u, u, u, u, u, u, u, u, u, u, u, u, u, u, u, u, u, u, u, u, u, u, u, u, u, u, u, u, u, u, u, u, u, u, u, u, u, u, u, u, u, u, u, u, u] H
noncomputable def f6_x20 (i : Nat) (A : List Value) (H : AH) : OV := if i = 3 then f6_m17 A H else f6_y14 i A H
noncomputable def f6_y20 (i : Nat) (A : List Value) (H : AH) : OV := f6_x20 i (clear 9007199254740898 A) H
noncomputable def weighbridgelaw03_BitsWalk_e14_2 (x0 x2 x3 x4 : Value) (H : AH) : OV := f6_x14 2 [x0, u, x2, x3, x4, u, u, u, u, u, u, u, u, u, u, u, u, u, u, u, u, u, u, u, u, u, u, u, u, u, u, u, u, u, u, u, u, u, u, u, u, u, u, u, u, u, u, u, u, u, u, u, u] H
noncomputable def f6_n30 (A : List Value) (H : AH) : OV := cCode PP GG FF (f6_b [1, 1, 0, 1]) A H f6_m1 f6_x f6_r
noncomputable def f6_m30 (A : List Value) (H : AH) : OV := f6_n30 (clear 9007199254740930 A) H
noncomputable def weighbridgelaw03_BitsWalk_k30 (x0 x2 x3 x4 x5 : Value) (H : AH) : OV := f6_n30 [x0, u, x2, x3, x4, x5, u, u, u, u, u, u, u, u, u, u, u, u, u, u, u, u, u, u, u, u, u, u, u, u, u, u, u, u, u, u, u, u, u, u, u, u, u, u, u, u, u, u, u, u, u, u, u] H
noncomputable def f6_x31 (i : Nat) (A : List Value) (H : AH) : OV := if i = 0 then f6_m1 A H else f6_x i A H
noncomputable def f6_y31 (i : Nat) (A : List Value) (H : AH) : OV := f6_x31 i (clear 9007199254740962 A) H
noncomputable def f6_n32 (A : List Value) (H : AH) : OV := cLoop PP GG FF (f6_b [1, 1, 0, 1, 4, 5]) A H f6_y31 f6_r
noncomputable def f6_m32 (A : List Value) (H : AH) : OV := f6_n32 (clear 9007199254740930 A) H
-- a loop
noncomputable def weighbridgelaw03_BitsWalk_k32 (x0 x2 x3 x4 x5 : Value) (H : AH) : OV := f6_n32 [x0, u, x2, x3, x4, x5, u, u, u, u, u, u, u, u, u, u, u, u, u, u, u, u, u, u, u, u, u, u, u, u, u, u, u, u, u, u, u, u, u, u, u, u, u, u, u, u, u, u, u, u, u, u, u] H
noncomputable def f6_n33 (A : List Value) (H : AH) : OV := cCode PP GG FF (f6_b [1, 1, 0, 1, 4, 5, 1]) A H f6_m32 f6_y31 f6_r
noncomputable def f6_m33 (A : List Value) (H : AH) : OV := f6_n33 (clear 9007199254740930 A) H
noncomputable def weighbridgelaw03_BitsWalk_k33 (x0 x2 x3 x4 x5 : Value) (H : AH) : OV := f6_n33 [x0, u, x2, x3, x4, x5, u, u, u, u, u, u, u, u, u, u, u, u, u, u, u, u, u, u, u, u, u, u, u, u, u, u, u, u, u, u, u, u, u, u, u, u, u, u, u, u, u, u, u, u, u, u, u] H
noncomputable def f6_n34 (A : List Value) (H : AH) : OV := cCode PP GG FF (f6_b [1, 1, 0, 1, 4, 5, 1, 1]) A H f6_m32 f6_y31 f6_r
noncomputable def f6_m34 (A : List Value) (H : AH) : OV := f6_n34 (clear 9007199254740930 A) H
noncomputable def weighbridgelaw03_BitsWalk_k34 (x0 x2 x3 x4 x5 : Value) (H : AH) : OV := f6_n34 [x0, u, x2, x3, x4, x5, u, u, u, u, u, u, u, u, u, u, u, u, u, u, u, u, u, u, u, u, u, u, u, u, u, u, u, u, u, u, u, u, u, u, u, u, u, u, u, u, u, u, u, u, u, u, u] H
noncomputable def f6_x37 (i : Nat) (A : List Value) (H : AH) : OV := if i = 1 then f6_m34 A H else f6_y31 i A H
noncomputable def f6_y37 (i : Nat) (A : List Value) (H : AH) : OV := f6_x37 i (clear 9007199254740930 A) H
noncomputable def weighbridgelaw03_BitsWalk_e31_0 (x0 x2 x3 x4 : Value) (H : AH) : OV := f6_x31 0 [x0, u, x2, x3, x4, u, u, u, u, u, u, u, u, u, u, u, u, u, u, u, u, u, u, u, u, u, u, u, u, u, u, u, u, u, u, u, u, u, u, u, u, u, u, u, u, u, u, u, u, u, u, u, u] H
theorem f6_r_d : Resp 9007199254740987 f6_r := resp_fin (by kernel_rfl)
theorem f6_x_d (D : Nat) : ∀ i, Resp D (f6_x i) := fun _ => resp_none
theorem f6_n0_d : Resp 9007199254740962 f6_n0 := resp_code (P := PP) (G := GG) (call := FF) (c := (f6_b [1, 1])) (D := 9007199254740962) (D' := 9007199254740987) (kn := f6_r) (kx := f6_x) (kr := f6_r) (by kernel_rfl) (f6_r_d.le (by kernel_rfl)) (f6_x_d _) (f6_r_d.le (by kernel_rfl))
theorem f6_m0_d : Resp 9007199254740962 f6_m0 := resp_clear f6_n0_d
theorem f6_n1_d : Resp 9007199254740962 f6_n1 := resp_code (P := PP) (G := GG) (call := FF) (c := (f6_b [1, 1, 1])) (D := 9007199254740962) (D' := 9007199254740987) (kn := f6_r) (kx := f6_x) (kr := f6_r) (by kernel_rfl) (f6_r_d.le (by kernel_rfl)) (f6_x_d _) (f6_r_d.le (by kernel_rfl))
theorem f6_m1_d : Resp 9007199254740962 f6_m1 := resp_clear f6_n1_d
theorem f6_n2_d : Resp 9007199254740962 f6_n2 := resp_code (P := PP) (G := GG) (call := FF) (c := (f6_b [1, 1, 1, 1])) (D := 9007199254740962) (D' := 9007199254740987) (kn := f6_r) (kx := f6_x) (kr := f6_r) (by kernel_rfl) (f6_r_d.le (by kernel_rfl)) (f6_x_d _) (f6_r_d.le (by kernel_rfl))
theorem f6_m2_d : Resp 9007199254740962 f6_m2 := resp_clear f6_n2_d
theorem f6_n13_d : Resp 9007199254740898 f6_n13 := resp_code (P := PP) (G := GG) (call := FF) (c := (f6_b [1, 1, 1, 0, 1])) (D := 9007199254740898) (D' := 9007199254740962) (kn := f6_m2) (kx := f6_x) (kr := f6_r) (by kernel_rfl) (f6_m2_d.le (by kernel_rfl)) (f6_x_d _) (f6_r_d.le (by kernel_rfl))
theorem f6_m13_d : Resp 9007199254740898 f6_m13 := resp_clear f6_n13_d
theorem f6_x14_d : ∀ i, Resp 9007199254740962 (f6_x14 i) := resp_block (kn := f6_m2) (kx := f6_x) (f6_m2_d.le (by kernel_rfl)) (f6_x_d _)
theorem f6_y14_d : ∀ i, Resp 9007199254740962 (f6_y14 i) := fun i => resp_clear (f6_x14_d i)
theorem f6_n15_d : Resp 9007199254740898 f6_n15 := resp_loop (P := PP) (G := GG) (call := FF) (c := (f6_b [1, 1, 1, 0, 1, 4, 5])) (D := 9007199254740898) (kx := f6_y14) (kr := f6_r) (by kernel_rfl) (fun i => (f6_y14_d i).le (by kernel_rfl)) (f6_r_d.le (by kernel_rfl))
theorem f6_m15_d : Resp 9007199254740898 f6_m15 := resp_clear f6_n15_d
theorem f6_n16_d : Resp 9007199254740898 f6_n16 := resp_code (P := PP) (G := GG) (call := FF) (c := (f6_b [1, 1, 1, 0, 1, 4, 5, 1])) (D := 9007199254740898) (D' := 9007199254740898) (kn := f6_m15) (kx := f6_y14) (kr := f6_r) (by kernel_rfl) (f6_m15_d.le (by kernel_rfl)) (fun i => (f6_y14_d i).le (by kernel_rfl)) (f6_r_d.le (by kernel_rfl))
theorem f6_m16_d : Resp 9007199254740898 f6_m16 := resp_clear f6_n16_d
theorem f6_n17_d : Resp 9007199254740898 f6_n17 := resp_code (P := PP) (G := GG) (call := FF) (c := (f6_b [1, 1, 1, 0, 1, 4, 5, 1, 1])) (D := 9007199254740898) (D' := 9007199254740898) (kn := f6_m15) (kx := f6_y14) (kr := f6_r) (by kernel_rfl) (f6_m15_d.le (by kernel_rfl)) (fun i => (f6_y14_d i).le (by kernel_rfl)) (f6_r_d.le (by kernel_rfl))
theorem f6_m17_d : Resp 9007199254740898 f6_m17 := resp_clear f6_n17_d
theorem f6_x20_d : ∀ i, Resp 9007199254740898 (f6_x20 i) := resp_block (kn := f6_m17) (kx := f6_y14) (f6_m17_d.le (by kernel_rfl)) (fun i => (f6_y14_d i).le (by kernel_rfl))
theorem f6_y20_d : ∀ i, Resp 9007199254740898 (f6_y20 i) := fun i => resp_clear (f6_x20_d i)
theorem f6_n30_d : Resp 9007199254740930 f6_n30 := resp_code (P := PP) (G := GG) (call := FF) (c := (f6_b [1, 1, 0, 1])) (D := 9007199254740930) (D' := 9007199254740962) (kn := f6_m1) (kx := f6_x) (kr := f6_r) (by kernel_rfl) (f6_m1_d.le (by kernel_rfl)) (f6_x_d _) (f6_r_d.le (by kernel_rfl))
theorem f6_m30_d : Resp 9007199254740930 f6_m30 := resp_clear f6_n30_d
theorem f6_x31_d : ∀ i, Resp 9007199254740962 (f6_x31 i) := resp_block (kn := f6_m1) (kx := f6_x) (f6_m1_d.le (by kernel_rfl)) (f6_x_d _)
theorem f6_y31_d : ∀ i, Resp 9007199254740962 (f6_y31 i) := fun i => resp_clear (f6_x31_d i)
theorem f6_n32_d : Resp 9007199254740930 f6_n32 := resp_loop (P := PP) (G := GG) (call := FF) (c := (f6_b [1, 1, 0, 1, 4, 5])) (D := 9007199254740930) (kx := f6_y31) (kr := f6_r) (by kernel_rfl) (fun i => (f6_y31_d i).le (by kernel_rfl)) (f6_r_d.le (by kernel_rfl))
theorem f6_m32_d : Resp 9007199254740930 f6_m32 := resp_clear f6_n32_d
theorem f6_n33_d : Resp 9007199254740930 f6_n33 := resp_code (P := PP) (G := GG) (call := FF) (c := (f6_b [1, 1, 0, 1, 4, 5, 1])) (D := 9007199254740930) (D' := 9007199254740930) (kn := f6_m32) (kx := f6_y31) (kr := f6_r) (by kernel_rfl) (f6_m32_d.le (by kernel_rfl)) (fun i => (f6_y31_d i).le (by kernel_rfl)) (f6_r_d.le (by kernel_rfl))
theorem f6_m33_d : Resp 9007199254740930 f6_m33 := resp_clear f6_n33_d
theorem f6_n34_d : Resp 9007199254740930 f6_n34 := resp_code (P := PP) (G := GG) (call := FF) (c := (f6_b [1, 1, 0, 1, 4, 5, 1, 1])) (D := 9007199254740930) (D' := 9007199254740930) (kn := f6_m32) (kx := f6_y31) (kr := f6_r) (by kernel_rfl) (f6_m32_d.le (by kernel_rfl)) (fun i => (f6_y31_d i).le (by kernel_rfl)) (f6_r_d.le (by kernel_rfl))
theorem f6_m34_d : Resp 9007199254740930 f6_m34 := resp_clear f6_n34_d
theorem f6_x37_d : ∀ i, Resp 9007199254740930 (f6_x37 i) := resp_block (kn := f6_m34) (kx := f6_y31) (f6_m34_d.le (by kernel_rfl)) (fun i => (f6_y31_d i).le (by kernel_rfl))
theorem f6_y37_d : ∀ i, Resp 9007199254740930 (f6_y37 i) := fun i => resp_clear (f6_x37_d i)
theorem weighbridgelaw03_BitsWalk_k2_eq (x0 x2 x3 x4 : Value) (H : AH) : weighbridgelaw03_BitsWalk_k2 x0 x2 x3 x4 H =
  (FF n_weighbridgelaw03_awake [] H).bind fun r3 =>
  (onK (yv r3.1) true (some x3) (some undef)).bind fun v4 =>
  (onK (yv r3.1) true (some x0) (some undef)).bind fun v5 =>
  (onK (yv r3.1) true (FF n_bits_All [v5] r3.2) (some (undef, r3.2))).bind fun r6 =>
  (onK (yv r3.1) true (FF n_weighbridgehelp_Plainint [v4, r6.1] r6.2) (some (undef, r6.2))).bind fun r7 =>
  (pPick r3.1 r7.1 (Value.bool false)).bind fun v8 =>
  (onK (yv v8) true (some x4) (some undef)).bind fun v9 =>
  (onK (yv v8) true (some x3) (some undef)).bind fun v10 =>
  (onK (yv v8) true (FF n_weighbridgehelp_Plainint [v9, v10] r7.2) (some (undef, r7.2))).bind fun r11 =>
  (pPick v8 r11.1 (Value.bool false)).bind fun v12 =>
  some (v12, r11.2) :=
  (by kernel_rfl)
theorem weighbridgelaw03_BitsWalk_k17_eq (x0 x2 x3 x4 x6 : Value) (H : AH) : weighbridgelaw03_BitsWalk_k17 x0 x2 x3 x4 x6 H =
  (pBin .other .sub x6 (Value.int .i64 1)).bind fun v18 =>
  (FF n_bits_Last [x0, v18] H).bind fun r19 =>
  weighbridgelaw03_BitsWalk_k15 x0 x2 x3 x4 r19.1 r19.2 :=
  (by kernel_rfl)
theorem weighbridgelaw03_BitsWalk_k16_eq (x0 x2 x3 x4 x6 : Value) (H : AH) : weighbridgelaw03_BitsWalk_k16 x0 x2 x3 x4 x6 H =
  (pFill (offs 1) (List.replicate 1 [(Value.int .i64 0)]).flatten [(0, x6)]).bind fun cs => rowK 1 1 cs H fun v21 H22 =>
  (pApp 1 8 v21 x4 H22).bind fun r23 =>
  weighbridgelaw03_BitsWalk_k17 x0 x2 x3 r23.1 x6 r23.2 :=
  (pre_to (P := PP) (G := GG) (call := FF) (A := [x0, u, x2, x3, x4, u, x6, u, u, u, u, u, u, u, u, u, u, u, u, u, u, u, u, u, u, u, u, u, u, u, u, u, u, u, u, u, u, u, u, u, u, u, u, u, u, u, u, u, u, u, u, u, u]) (H := H) (kx := f6_y14) (kr := f6_r) (kn := f6_m15) (c := (f6_b [1, 1, 1, 0, 1, 4, 5, 1])) (k := 0) (D := 9007199254740898) (n := f6_n17) (by kernel_rfl) (by kernel_rfl) f6_n17_d (block_to (P := PP) (G := GG) (call := FF) (A := [x0, u, x2, x3, x4, u, x6, u, u, u, u, u, u, u, u, u, u, u, u, u, u, u, u, u, u, u, u, u, u, u, u, u, u, u, u, u, u, u, u, u, u, u, u, u, u, u, u, u, u, u, u, u, u]) (H := H) (kx := f6_y14) (kr := f6_r) (kn := f6_m17) (c := (f6_b [1, 1, 1, 0, 1, 4, 5, 1, 0])) (x := (f6_b [1, 1, 1, 0, 1, 4, 5, 1, 0, 4])) (id := 3) (D := 9007199254740898) (n := f6_x20) (by kernel_rfl) (by kernel_rfl) (by kernel_rfl) f6_x20_d (by kernel_rfl)))
theorem weighbridgelaw03_BitsWalk_e14_2_eq (x0 x2 x3 x4 : Value) (H : AH) : weighbridgelaw03_BitsWalk_e14_2 x0 x2 x3 x4 H = weighbridgelaw03_BitsWalk_k2 x0 x2 x3 x4 H :=
  here_to (id := 2) (n := f6_x14) (kn := f6_m2) (kx := f6_x) (A := [x0, u, x2, x3, x4, u, u, u, u, u, u, u, u, u, u, u, u, u, u, u, u, u, u, u, u, u, u, u, u, u, u, u, u, u, u, u, u, u, u, u, u, u, u, u, u, u, u, u, u, u, u, u, u]) (H := H) (by kernel_rfl) (by kernel_rfl) (by kernel_rfl)
theorem weighbridgelaw03_BitsWalk_k15_eq (x0 x2 x3 x4 x6 : Value) (H : AH) : weighbridgelaw03_BitsWalk_k15 x0 x2 x3 x4 x6 H =
  (pBin .other .geq x6 (Value.int .i64 0)).bind fun v24 =>
  (onK (yv v24) true (some x4) (some undef)).bind fun v25 =>
  (onK (yv v24) true (lenK v25 some) (some undef)).bind fun v26 =>
  (onK (yv v24) true ((pBin .other .lss v26 (Value.int .i64 65)).bind some) (some undef)).bind fun v27 =>
  (pPick v24 v27 (Value.bool false)).bind fun v28 =>
  condK v28
  (weighbridgelaw03_BitsWalk_k16 x0 x2 x3 x4 x6 H)
  (weighbridgelaw03_BitsWalk_e14_2 x0 x2 x3 x4 H) :=
  loop_to (P := PP) (G := GG) (call := FF) (A := [x0, u, x2, x3, x4, u, x6, u, u, u, u, u, u, u, u, u, u, u, u, u, u, u, u, u, u, u, u, u, u, u, u, u, u, u, u, u, u, u, u, u, u, u, u, u, u, u, u, u, u, u, u, u, u]) (H := H) (kx := f6_y14) (kr := f6_r) (x := (f6_b [1, 1, 1, 0, 1, 4, 5])) (D := 9007199254740898) (n := f6_n15) (by kernel_rfl) (by kernel_rfl) f6_n15_d (pre_to (P := PP) (G := GG) (call := FF) (A := [x0, u, x2, x3, x4, u, x6, u, u, u, u, u, u, u, u, u, u, u, u, u, u, u, u, u, u, u, u, u, u, u, u, u, u, u, u, u, u, u, u, u, u, u, u, u, u, u, u, u, u, u, u, u, u]) (H := H) (kx := f6_y14) (kr := f6_r) (kn := f6_m15) (c := (f6_b [1, 1, 1, 0, 1, 4, 5])) (k := 0) (D := 9007199254740898) (n := f6_n16) (by kernel_rfl) (by kernel_rfl) f6_n16_d (by kernel_rfl))
theorem weighbridgelaw03_BitsWalk_k13_eq (x0 x2 x3 x4 x6 : Value) (H : AH) : weighbridgelaw03_BitsWalk_k13 x0 x2 x3 x4 x6 H =
  weighbridgelaw03_BitsWalk_k15 x0 x2 x3 x4 x6 H :=
  (block_to (P := PP) (G := GG) (call := FF) (A := [x0, u, x2, x3, x4, u, x6, u, u, u, u, u, u, u, u, u, u, u, u, u, u, u, u, u, u, u, u, u, u, u, u, u, u, u, u, u, u, u, u, u, u, u, u, u, u, u, u, u, u, u, u, u, u]) (H := H) (kx := f6_x) (kr := f6_r) (kn := f6_m2) (c := (f6_b [1, 1, 1, 0, 1])) (x := (f6_b [1, 1, 1, 0, 1, 4])) (id := 2) (D := 9007199254740962) (n := f6_x14) (by kernel_rfl) (by kernel_rfl) (by kernel_rfl) f6_x14_d (loop_in (P := PP) (G := GG) (call := FF) (A := [x0, u, x2, x3, x4, u, x6, u, u, u, u, u, u, u, u, u, u, u, u, u, u, u, u, u, u, u, u, u, u, u, u, u, u, u, u, u, u, u, u, u, u, u, u, u, u, u, u, u, u, u, u, u, u]) (H := H) (kx := f6_y14) (kr := f6_r) (kn := f6_m2) (c := (f6_b [1, 1, 1, 0, 1, 4])) (x := (f6_b [1, 1, 1, 0, 1, 4, 5])) (D := 9007199254740898) (n := f6_n15) (by kernel_rfl) (by kernel_rfl) (by kernel_rfl) f6_n15_d (by kernel_rfl)))
theorem weighbridgelaw03_BitsWalk_k1_eq (x0 x2 x3 x4 : Value) (H : AH) : weighbridgelaw03_BitsWalk_k1 x0 x2 x3 x4 H =
  (FF n_bits_Last [x0, (Value.int .i64 63)] H).bind fun r29 =>
  weighbridgelaw03_BitsWalk_k13 x0 x2 x3 x4 r29.1 r29.2 :=
  (pre_to (P := PP) (G := GG) (call := FF) (A := [x0, u, x2, x3, x4, u, u, u, u, u, u, u, u, u, u, u, u, u, u, u, u, u, u, u, u, u, u, u, u, u, u, u, u, u, u, u, u, u, u, u, u, u, u, u, u, u, u, u, u, u, u, u, u]) (H := H) (kx := f6_x) (kr := f6_r) (kn := f6_r) (c := (f6_b [1, 1, 1])) (k := 0) (D := 9007199254740962) (n := f6_n2) (by kernel_rfl) (by kernel_rfl) f6_n2_d (pre_to (P := PP) (G := GG) (call := FF) (A := [x0, u, x2, x3, x4, u, u, u, u, u, u, u, u, u, u, u, u, u, u, u, u, u, u, u, u, u, u, u, u, u, u, u, u, u, u, u, u, u, u, u, u, u, u, u, u, u, u, u, u, u, u, u, u]) (H := H) (kx := f6_x) (kr := f6_r) (kn := f6_m2) (c := (f6_b [1, 1, 1, 0])) (k := 0) (D := 9007199254740898) (n := f6_n13) (by kernel_rfl) (by kernel_rfl) f6_n13_d (by kernel_rfl)))
theorem weighbridgelaw03_BitsWalk_k34_eq (x0 x2 x3 x4 x5 : Value) (H : AH) : weighbridgelaw03_BitsWalk_k34 x0 x2 x3 x4 x5 H =
  (pBin .other .add x5 (Value.int .i64 1)).bind fun v35 =>
  (FF n_bits_Next [x0, v35] H).bind fun r36 =>
  weighbridgelaw03_BitsWalk_k32 x0 x2 x3 x4 r36.1 r36.2 :=
  (by kernel_rfl)
theorem weighbridgelaw03_BitsWalk_k33_eq (x0 x2 x3 x4 x5 : Value) (H : AH) : weighbridgelaw03_BitsWalk_k33 x0 x2 x3 x4 x5 H =
  (pFill (offs 1) (List.replicate 1 [(Value.int .i64 0)]).flatten [(0, x5)]).bind fun cs => rowK 1 1 cs H fun v38 H39 =>
  (pApp 1 8 x3 v38 H39).bind fun r40 =>
  weighbridgelaw03_BitsWalk_k34 x0 x2 r40.1 x4 x5 r40.2 :=
  (pre_to (P := PP) (G := GG) (call := FF) (A := [x0, u, x2, x3, x4, x5, u, u, u, u, u, u, u, u, u, u, u, u, u, u, u, u, u, u, u, u, u, u, u, u, u, u, u, u, u, u, u, u, u, u, u, u, u, u, u, u, u, u, u, u, u, u, u]) (H := H) (kx := f6_y31) (kr := f6_r) (kn := f6_m32) (c := (f6_b [1, 1, 0, 1, 4, 5, 1])) (k := 0) (D := 9007199254740930) (n := f6_n34) (by kernel_rfl) (by kernel_rfl) f6_n34_d (block_to (P := PP) (G := GG) (call := FF) (A := [x0, u, x2, x3, x4, x5, u, u, u, u, u, u, u, u, u, u, u, u, u, u, u, u, u, u, u, u, u, u, u, u, u, u, u, u, u, u, u, u, u, u, u, u, u, u, u, u, u, u, u, u, u, u, u]) (H := H) (kx := f6_y31) (kr := f6_r) (kn := f6_m34) (c := (f6_b [1, 1, 0, 1, 4, 5, 1, 0])) (x := (f6_b [1, 1, 0, 1, 4, 5, 1, 0, 4])) (id := 1) (D := 9007199254740930) (n := f6_x37) (by kernel_rfl) (by kernel_rfl) (by kernel_rfl) f6_x37_d (by kernel_rfl)))
theorem weighbridgelaw03_BitsWalk_e31_0_eq (x0 x2 x3 x4 : Value) (H : AH) : weighbridgelaw03_BitsWalk_e31_0 x0 x2 x3 x4 H = weighbridgelaw03_BitsWalk_k1 x0 x2 x3 x4 H :=
  here_to (id := 0) (n := f6_x31) (kn := f6_m1) (kx := f6_x) (A := [x0, u, x2, x3, x4, u, u, u, u, u, u, u, u, u, u, u, u, u, u, u, u, u, u, u, u, u, u, u, u, u, u, u, u, u, u, u, u, u, u, u, u, u, u, u, u, u, u, u, u, u, u, u, u]) (H := H) (by kernel_rfl) (by kernel_rfl) (by kernel_rfl)
theorem weighbridgelaw03_BitsWalk_k32_eq (x0 x2 x3 x4 x5 : Value) (H : AH) : weighbridgelaw03_BitsWalk_k32 x0 x2 x3 x4 x5 H =
  (pBin .other .geq x5 (Value.int .i64 0)).bind fun v41 =>
  (onK (yv v41) true (some x3) (some undef)).bind fun v42 =>
  (onK (yv v41) true (lenK v42 some) (some undef)).bind fun v43 =>
  (onK (yv v41) true ((pBin .other .lss v43 (Value.int .i64 65)).bind some) (some undef)).bind fun v44 =>
  (pPick v41 v44 (Value.bool false)).bind fun v45 =>
  condK v45
  (weighbridgelaw03_BitsWalk_k33 x0 x2 x3 x4 x5 H)
  (weighbridgelaw03_BitsWalk_e31_0 x0 x2 x3 x4 H) :=
  loop_to (P := PP) (G := GG) (call := FF) (A := [x0, u, x2, x3, x4, x5, u, u, u, u, u, u, u, u, u, u, u, u, u, u, u, u, u, u, u, u, u, u, u, u, u, u, u, u, u, u, u, u, u, u, u, u, u, u, u, u, u, u, u, u, u, u, u]) (H := H) (kx := f6_y31) (kr := f6_r) (x := (f6_b [1, 1, 0, 1, 4, 5])) (D := 9007199254740930) (n := f6_n32) (by kernel_rfl) (by kernel_rfl) f6_n32_d (pre_to (P := PP) (G := GG) (call := FF) (A := [x0, u, x2, x3, x4, x5, u, u, u, u, u, u, u, u, u, u, u, u, u, u, u, u, u, u, u, u, u, u, u, u, u, u, u, u, u, u, u, u, u, u, u, u, u, u, u, u, u, u, u, u, u, u, u]) (H := H) (kx := f6_y31) (kr := f6_r) (kn := f6_m32) (c := (f6_b [1, 1, 0, 1, 4, 5])) (k := 0) (D := 9007199254740930) (n := f6_n33) (by kernel_rfl) (by kernel_rfl) f6_n33_d (by kernel_rfl))
theorem weighbridgelaw03_BitsWalk_k30_eq (x0 x2 x3 x4 x5 : Value) (H : AH) : weighbridgelaw03_BitsWalk_k30 x0 x2 x3 x4 x5 H =
  weighbridgelaw03_BitsWalk_k32 x0 x2 x3 x4 x5 H :=
  (block_to (P := PP) (G := GG) (call := FF) (A := [x0, u, x2, x3, x4, x5, u, u, u, u, u, u, u, u, u, u, u, u, u, u, u, u, u, u, u, u, u, u, u, u, u, u, u, u, u, u, u, u, u, u, u, u, u, u, u, u, u, u, u, u, u, u, u]) (H := H) (kx := f6_x) (kr := f6_r) (kn := f6_m1) (c := (f6_b [1, 1, 0, 1])) (x := (f6_b [1, 1, 0, 1, 4])) (id := 0) (D := 9007199254740962) (n := f6_x31) (by kernel_rfl) (by kernel_rfl) (by kernel_rfl) f6_x31_d (loop_in (P := PP) (G := GG) (call := FF) (A := [x0, u, x2, x3, x4, x5, u, u, u, u, u, u, u, u, u, u, u, u, u, u, u, u, u, u, u, u, u, u, u, u, u, u, u, u, u, u, u, u, u, u, u, u, u, u, u, u, u, u, u, u, u, u, u]) (H := H) (kx := f6_y31) (kr := f6_r) (kn := f6_m1) (c := (f6_b [1, 1, 0, 1, 4])) (x := (f6_b [1, 1, 0, 1, 4, 5])) (D := 9007199254740930) (n := f6_n32) (by kernel_rfl) (by kernel_rfl) (by kernel_rfl) f6_n32_d (by kernel_rfl)))
theorem weighbridgelaw03_BitsWalk_k0_eq (x0 x2 x3 x4 : Value) (H : AH) : weighbridgelaw03_BitsWalk_k0 x0 x2 x3 x4 H =
  (FF n_bits_Next [x0, (Value.int .i64 0)] H).bind fun r46 =>
  weighbridgelaw03_BitsWalk_k30 x0 x2 x3 x4 r46.1 r46.2 :=
  (pre_to (P := PP) (G := GG) (call := FF) (A := [x0, u, x2, x3, x4, u, u, u, u, u, u, u, u, u, u, u, u, u, u, u, u, u, u, u, u, u, u, u, u, u, u, u, u, u, u, u, u, u, u, u, u, u, u, u, u, u, u, u, u, u, u, u, u]) (H := H) (kx := f6_x) (kr := f6_r) (kn := f6_r) (c := (f6_b [1, 1])) (k := 0) (D := 9007199254740962) (n := f6_n1) (by kernel_rfl) (by kernel_rfl) f6_n1_d (pre_to (P := PP) (G := GG) (call := FF) (A := [x0, u, x2, x3, x4, u, u, u, u, u, u, u, u, u, u, u, u, u, u, u, u, u, u, u, u, u, u, u, u, u, u, u, u, u, u, u, u, u, u, u, u, u, u, u, u, u, u, u, u, u, u, u, u]) (H := H) (kx := f6_x) (kr := f6_r) (kn := f6_m1) (c := (f6_b [1, 1, 0])) (k := 0) (D := 9007199254740930) (n := f6_n30) (by kernel_rfl) (by kernel_rfl) f6_n30_d (by kernel_rfl)))
noncomputable def weighbridgelaw03_BitsWalk (x0 : Value) (H : AH) : OV := cCode PP GG FF (f6_b []) [x0, u, u, u, u, u, u, u, u, u, u, u, u, u, u, u, u, u, u, u, u, u, u, u, u, u, u, u, u, u, u, u, u, u, u, u, u, u, u, u, u, u, u, u, u, u, u, u, u, u, u, u, u] H f6_r f6_x f6_r
theorem weighbridgelaw03_BitsWalk_eq (x0 : Value) (H : AH) : weighbridgelaw03_BitsWalk x0 H =
  weighbridgelaw03_BitsWalk_k0 x0 (Value.bool false) (Value.slice none 0 0) (Value.slice none 0 0) H :=
  (pre_to (P := PP) (G := GG) (call := FF) (A := [x0, u, u, u, u, u, u, u, u, u, u, u, u, u, u, u, u, u, u, u, u, u, u, u, u, u, u, u, u, u, u, u, u, u, u, u, u, u, u, u, u, u, u, u, u, u, u, u, u, u, u, u, u]) (H := H) (kx := f6_x) (kr := f6_r) (kn := f6_r) (c := (f6_b [])) (k := 1) (D := 9007199254740962) (n := f6_n0) (by kernel_rfl) (by kernel_rfl) f6_n0_d (by kernel_rfl))
theorem weighbridgelaw03_BitsWalk_of (x0 : Value) (H : AH) {r : Value × AH} (h : weighbridgelaw03_BitsWalk x0 H = some r) : FF n_weighbridgelaw03_BitsWalk [x0] H = some r :=
  aF_of_body Tryd.func6 rfl rfl ((show cBody PP GG FF (Tryd.f6).ntmps (Tryd.f6).results.toList (bodyOf Tryd.f6) [x0] H = weighbridgelaw03_BitsWalk x0 H by kernel_rfl).trans h)

-- FUNCTION weighbridgelaw03_BitsOne
noncomputable def f7_b (p : List Nat) : Code := Code.sub (bodyOf Tryd.f7) p
noncomputable def f7_r (A : List Value) (H : AH) : OV := cFin PP (Tryd.f7).results.toList A H
noncomputable def f7_x (_ : Nat) (_ : List Value) (_ : AH) : OV := none
noncomputable def f7_n0 (A : List Value) (H : AH) : OV := cCode PP GG FF (f7_b [1, 1]) A H f7_r f7_x f7_r
noncomputable def f7_m0 (A : List Value) (H : AH) : OV := f7_n0 (clear 9007199254740876 A) H
noncomputable def weighbridgelaw03_BitsOne_k0 (x0 x1 x4 x5 x6 : Value) (H : AH) : OV := f7_n0 [x0, x1, u, u, x4, x5, x6, u, u, u, u, u, u, u, u, u, u, u, u, u, u, u, u, u, u, u, u, u, u, u, u, u, u, u, u, u, u, u, u, u, u, u, u, u, u, u, u, u, u, u, u, u, u] H
noncomputable def f7_n1 (A : List Value) (H : AH) : OV := cCode PP GG FF (f7_b [1, 1, 1]) A H f7_r f7_x f7_r
noncomputable def f7_m1 (A : List Value) (H : AH) : OV := f7_n1 (clear 9007199254740876 A) H
noncomputable def weighbridgelaw03_BitsOne_k1 (x0 x1 x4 x5 x6 : Value) (H : AH) : OV := f7_n1 [x0, x1, u, u, x4, x5, x6, u, u, u, u, u, u, u, u, u, u, u, u, u, u, u, u, u, u, u, u, u, u, u, u, u, u, u, u, u, u, u, u, u, u, u, u, u, u, u, u, u, u, u, u, u, u] H
noncomputable def f7_n2 (A : List Value) (H : AH) : OV := cCode PP GG FF (f7_b [1, 1, 1, 1]) A H f7_r f7_x f7_r
noncomputable def f7_m2 (A : List Value) (H : AH) : OV := f7_n2 (clear 9007199254740876 A) H
noncomputable def weighbridgelaw03_BitsOne_k2 (x0 x1 x4 x5 x6 : Value) (H : AH) : OV := f7_n2 [x0, x1, u, u, x4, x5, x6, u, u, u, u, u, u, u, u, u, u, u, u, u, u, u, u, u, u, u, u, u, u, u, u, u, u, u, u, u, u, u, u, u, u, u, u, u, u, u, u, u, u, u, u, u, u] H
theorem f7_r_d : Resp 9007199254740975 f7_r := resp_fin (by kernel_rfl)
theorem f7_x_d (D : Nat) : ∀ i, Resp D (f7_x i) := fun _ => resp_none
theorem f7_n0_d : Resp 9007199254740876 f7_n0 := resp_code (P := PP) (G := GG) (call := FF) (c := (f7_b [1, 1])) (D := 9007199254740876) (D' := 9007199254740975) (kn := f7_r) (kx := f7_x) (kr := f7_r) (by kernel_rfl) (f7_r_d.le (by kernel_rfl)) (f7_x_d _) (f7_r_d.le (by kernel_rfl))
theorem f7_m0_d : Resp 9007199254740876 f7_m0 := resp_clear f7_n0_d
theorem f7_n1_d : Resp 9007199254740876 f7_n1 := resp_code (P := PP) (G := GG) (call := FF) (c := (f7_b [1, 1, 1])) (D := 9007199254740876) (D' := 9007199254740975) (kn := f7_r) (kx := f7_x) (kr := f7_r) (by kernel_rfl) (f7_r_d.le (by kernel_rfl)) (f7_x_d _) (f7_r_d.le (by kernel_rfl))
theorem f7_m1_d : Resp 9007199254740876 f7_m1 := resp_clear f7_n1_d
theorem f7_n2_d : Resp 9007199254740876 f7_n2 := resp_code (P := PP) (G := GG) (call := FF) (c := (f7_b [1, 1, 1, 1])) (D := 9007199254740876) (D' := 9007199254740975) (kn := f7_r) (kx := f7_x) (kr := f7_r) (by kernel_rfl) (f7_r_d.le (by kernel_rfl)) (f7_x_d _) (f7_r_d.le (by kernel_rfl))
theorem f7_m2_d : Resp 9007199254740876 f7_m2 := resp_clear f7_n2_d
theorem weighbridgelaw03_BitsOne_k2_eq (x0 x1 x4 x5 x6 : Value) (H : AH) : weighbridgelaw03_BitsOne_k2 x0 x1 x4 x5 x6 H =
  (FF n_weighbridgelaw03_awake [] H).bind fun r3 =>
  (onK (yv r3.1) true (some x0) (some undef)).bind fun v4 =>
  (onK (yv r3.1) true (some x1) (some undef)).bind fun v5 =>
  (onK (yv r3.1) true (FF n_bits_With [v4, v5] r3.2) (some (undef, r3.2))).bind fun r6 =>
  (onK (yv r3.1) true (some x5) (some undef)).bind fun v7 =>
  (onK (yv r3.1) true ((pBin .other .eql r6.1 v7).bind some) (some undef)).bind fun v8 =>
  (pPick r3.1 v8 (Value.bool false)).bind fun v9 =>
  (onK (yv v9) true (some x0) (some undef)).bind fun v10 =>
  (onK (yv v9) true (some x1) (some undef)).bind fun v11 =>
  (onK (yv v9) true (FF n_bits_Without [v10, v11] r6.2) (some (undef, r6.2))).bind fun r12 =>
  (onK (yv v9) true (some x6) (some undef)).bind fun v13 =>
  (onK (yv v9) true ((pBin .other .eql r12.1 v13).bind some) (some undef)).bind fun v14 =>
  (pPick v9 v14 (Value.bool false)).bind fun v15 =>
  (onK (yv v15) true (some x0) (some undef)).bind fun v16 =>
  (onK (yv v15) true (some x1) (some undef)).bind fun v17 =>
  (onK (yv v15) true (FF n_bits_Has [v16, v17] r12.2) (some (undef, r12.2))).bind fun r18 =>
  (onK (yv v15) true (some x0) (some undef)).bind fun v19 =>
  (onK (yv v15) true (some x1) (some undef)).bind fun v20 =>
  (onK (yv v15) true (FF n_weighbridgeref01_Bit [v19, v20] r18.2) (some (undef, r18.2))).bind fun r21 =>
  (onK (yv v15) true ((pBin .bool .eql r18.1 r21.1).bind some) (some undef)).bind fun v22 =>
  (pPick v15 v22 (Value.bool false)).bind fun v23 =>
  some (v23, r21.2) :=
  (by kernel_rfl)
theorem weighbridgelaw03_BitsOne_k1_eq (x0 x1 x4 x5 x6 : Value) (H : AH) : weighbridgelaw03_BitsOne_k1 x0 x1 x4 x5 x6 H =
  (FF n_weighbridgeref01_Bit [x0, x1] H).bind fun r24 =>
  condK r24.1
  ((FF n_weighbridgeref01_One [x1] r24.2).bind fun r25 =>
  (pBin .other .sub x0 r25.1).bind fun v26 =>
  weighbridgelaw03_BitsOne_k2 x0 x1 x4 x5 v26 r25.2)
  (weighbridgelaw03_BitsOne_k2 x0 x1 x4 x5 x6 r24.2) :=
  (pre_to (P := PP) (G := GG) (call := FF) (A := [x0, x1, u, u, x4, x5, x6, u, u, u, u, u, u, u, u, u, u, u, u, u, u, u, u, u, u, u, u, u, u, u, u, u, u, u, u, u, u, u, u, u, u, u, u, u, u, u, u, u, u, u, u, u, u]) (H := H) (kx := f7_x) (kr := f7_r) (kn := f7_r) (c := (f7_b [1, 1, 1])) (k := 0) (D := 9007199254740876) (n := f7_n2) (by kernel_rfl) (by kernel_rfl) f7_n2_d (by kernel_rfl))
theorem weighbridgelaw03_BitsOne_k0_eq (x0 x1 x4 x5 x6 : Value) (H : AH) : weighbridgelaw03_BitsOne_k0 x0 x1 x4 x5 x6 H =
  (FF n_weighbridgeref01_One [x1] H).bind fun r27 =>
  (pBin .other .gtr r27.1 (Value.int .u64 0)).bind fun v28 =>
  (onK (yv v28) true (some x0) (some undef)).bind fun v29 =>
  (onK (yv v28) true (some x1) (some undef)).bind fun v30 =>
  (onK (yv v28) true (FF n_weighbridgeref01_Bit [v29, v30] r27.2) (some (undef, r27.2))).bind fun r31 =>
  (onK (yv v28) true ((pUn .not r31.1).bind some) (some undef)).bind fun v32 =>
  (pPick v28 v32 (Value.bool false)).bind fun v33 =>
  condK v33
  ((FF n_weighbridgeref01_One [x1] r31.2).bind fun r34 =>
  (pBin .other .add x0 r34.1).bind fun v35 =>
  weighbridgelaw03_BitsOne_k1 x0 x1 x4 v35 x6 r34.2)
  (weighbridgelaw03_BitsOne_k1 x0 x1 x4 x5 x6 r31.2) :=
  (pre_to (P := PP) (G := GG) (call := FF) (A := [x0, x1, u, u, x4, x5, x6, u, u, u, u, u, u, u, u, u, u, u, u, u, u, u, u, u, u, u, u, u, u, u, u, u, u, u, u, u, u, u, u, u, u, u, u, u, u, u, u, u, u, u, u, u, u]) (H := H) (kx := f7_x) (kr := f7_r) (kn := f7_r) (c := (f7_b [1, 1])) (k := 0) (D := 9007199254740876) (n := f7_n1) (by kernel_rfl) (by kernel_rfl) f7_n1_d (by kernel_rfl))
noncomputable def weighbridgelaw03_BitsOne (x0 x1 : Value) (H : AH) : OV := cCode PP GG FF (f7_b []) [x0, x1, u, u, u, u, u, u, u, u, u, u, u, u, u, u, u, u, u, u, u, u, u, u, u, u, u, u, u, u, u, u, u, u, u, u, u, u, u, u, u, u, u, u, u, u, u, u, u, u, u, u, u] H f7_r f7_x f7_r
theorem weighbridgelaw03_BitsOne_eq (x0 x1 : Value) (H : AH) : weighbridgelaw03_BitsOne x0 x1 H =
  weighbridgelaw03_BitsOne_k0 x0 x1 (Value.bool false) x0 x0 H :=
  (pre_to (P := PP) (G := GG) (call := FF) (A := [x0, x1, u, u, u, u, u, u, u, u, u, u, u, u, u, u, u, u, u, u, u, u, u, u, u, u, u, u, u, u, u, u, u, u, u, u, u, u, u, u, u, u, u, u, u, u, u, u, u, u, u, u, u]) (H := H) (kx := f7_x) (kr := f7_r) (kn := f7_r) (c := (f7_b [])) (k := 1) (D := 9007199254740876) (n := f7_n0) (by kernel_rfl) (by kernel_rfl) f7_n0_d (by kernel_rfl))
theorem weighbridgelaw03_BitsOne_of (x0 x1 : Value) (H : AH) {r : Value × AH} (h : weighbridgelaw03_BitsOne x0 x1 H = some r) : FF n_weighbridgelaw03_BitsOne [x0, x1] H = some r :=
  aF_of_body Tryd.func7 rfl rfl ((show cBody PP GG FF (Tryd.f7).ntmps (Tryd.f7).results.toList (bodyOf Tryd.f7) [x0, x1] H = weighbridgelaw03_BitsOne x0 x1 H by kernel_rfl).trans h)

-- FUNCTION weighbridgelaw03_BitsBuilt
noncomputable def f8_b (p : List Nat) : Code := Code.sub (bodyOf Tryd.f8) p
noncomputable def f8_r (A : List Value) (H : AH) : OV := cFin PP (Tryd.f8).results.toList A H
noncomputable def f8_x (_ : Nat) (_ : List Value) (_ : AH) : OV := none
noncomputable def f8_n0 (A : List Value) (H : AH) : OV := cCode PP GG FF (f8_b [1, 1, 1]) A H f8_r f8_x f8_r
noncomputable def f8_m0 (A : List Value) (H : AH) : OV := f8_n0 (clear 2251799813685218 A) H
noncomputable def weighbridgelaw03_BitsBuilt_k0 (x0 x2 x3 x4 : Value) (H : AH) : OV := f8_n0 [x0, u, x2, x3, x4, u, u, u, u, u, u, u, u, u, u, u, u, u, u, u, u, u, u, u, u, u, u, u, u, u, u, u, u, u, u, u, u, u, u, u, u, u, u, u, u, u, u, u, u, u, u] H
noncomputable def f8_n1 (A : List Value) (H : AH) : OV := cCode PP GG FF (f8_b [1, 1, 1, 1]) A H f8_r f8_x f8_r
noncomputable def f8_m1 (A : List Value) (H : AH) : OV := f8_n1 (clear 2251799813685219 A) H
noncomputable def weighbridgelaw03_BitsBuilt_k1 (x2 x3 x4 : Value) (H : AH) : OV := f8_n1 [u, u, x2, x3, x4, u, u, u, u, u, u, u, u, u, u, u, u, u, u, u, u, u, u, u, u, u, u, u, u, u, u, u, u, u, u, u, u, u, u, u, u, u, u, u, u, u, u, u, u, u, u] H
noncomputable def f8_n2 (A : List Value) (H : AH) : OV := cCode PP GG FF (f8_b [1, 1, 1, 1, 1]) A H f8_r f8_x f8_r
noncomputable def f8_m2 (A : List Value) (H : AH) : OV := f8_n2 (clear 2251799813685243 A) H
noncomputable def weighbridgelaw03_BitsBuilt_k2 (x2 : Value) (H : AH) : OV := f8_n2 [u, u, x2, u, u, u, u, u, u, u, u, u, u, u, u, u, u, u, u, u, u, u, u, u, u, u, u, u, u, u, u, u, u, u, u, u, u, u, u, u, u, u, u, u, u, u, u, u, u, u, u] H
noncomputable def f8_n4 (A : List Value) (H : AH) : OV := cCode PP GG FF (f8_b [1, 1, 1, 1, 0, 1]) A H f8_m2 f8_x f8_r
noncomputable def f8_m4 (A : List Value) (H : AH) : OV := f8_n4 (clear 2251799813685091 A) H
noncomputable def weighbridgelaw03_BitsBuilt_k4 (x2 x3 x4 x7 : Value) (H : AH) : OV := f8_n4 [u, u, x2, x3, x4, u, u, x7, u, u, u, u, u, u, u, u, u, u, u, u, u, u, u, u, u, u, u, u, u, u, u, u, u, u, u, u, u, u, u, u, u, u, u, u, u, u, u, u, u, u, u] H
noncomputable def f8_x5 (i : Nat) (A : List Value) (H : AH) : OV := if i = 2 then f8_m2 A H else f8_x i A H
noncomputable def f8_y5 (i : Nat) (A : List Value) (H : AH) : OV := f8_x5 i (clear 2251799813685243 A) H
noncomputable def f8_n6 (A : List Value) (H : AH) : OV := cLoop PP GG FF (f8_b [1, 1, 1, 1, 0, 1, 4, 5]) A H f8_y5 f8_r
noncomputable def f8_m6 (A : List Value) (H : AH) : OV := f8_n6 (clear 2251799813685091 A) H
-- a loop
noncomputable def weighbridgelaw03_BitsBuilt_k6 (x2 x3 x4 x7 : Value) (H : AH) : OV := f8_n6 [u, u, x2, x3, x4, u, u, x7, u, u, u, u, u, u, u, u, u, u, u, u, u, u, u, u, u, u, u, u, u, u, u, u, u, u, u, u, u, u, u, u, u, u, u, u, u, u, u, u, u, u, u] H
noncomputable def f8_n7 (A : List Value) (H : AH) : OV := cCode PP GG FF (f8_b [1, 1, 1, 1, 0, 1, 4, 5, 1]) A H f8_m6 f8_y5 f8_r
noncomputable def f8_m7 (A : List Value) (H : AH) : OV := f8_n7 (clear 2251799813685091 A) H
noncomputable def weighbridgelaw03_BitsBuilt_k7 (x2 x3 x4 x7 : Value) (H : AH) : OV := f8_n7 [u, u, x2, x3, x4, u, u, x7, u, u, u, u, u, u, u, u, u, u, u, u, u, u, u, u, u, u, u, u, u, u, u, u, u, u, u, u, u, u, u, u, u, u, u, u, u, u, u, u, u, u, u] H
noncomputable def f8_n8 (A : List Value) (H : AH) : OV := cCode PP GG FF (f8_b [1, 1, 1, 1, 0, 1, 4, 5, 1, 1]) A H f8_m6 f8_y5 f8_r
noncomputable def f8_m8 (A : List Value) (H : AH) : OV := f8_n8 (clear 2251799813685091 A) H
noncomputable def weighbridgelaw03_BitsBuilt_k8 (x2 x3 x4 x7 : Value) (H : AH) : OV := f8_n8 [u, u, x2, x3, x4, u, u, x7, u, u, u, u, u, u, u, u, u, u, u, u, u, u, u, u, u, u, u, u, u, u, u, u, u, u, u, u, u, u, u, u, u, u, u, u, u, u, u, u, u, u, u] H
noncomputable def f8_x10 (i : Nat) (A : List Value) (H : AH) : OV := if i = 3 then f8_m8 A H else f8_y5 i A H
noncomputable def f8_y10 (i : Nat) (A : List Value) (H : AH) : OV := f8_x10 i (clear 2251799813685091 A) H
noncomputable def weighbridgelaw03_BitsBuilt_e5_2 (x2 : Value) (H : AH) : OV := f8_x5 2 [u, u, x2, u, u, u, u, u, u, u, u, u, u, u, u, u, u, u, u, u, u, u, u, u, u, u, u, u, u, u, u, u, u, u, u, u, u, u, u, u, u, u, u, u, u, u, u, u, u, u, u] H
noncomputable def f8_n16 (A : List Value) (H : AH) : OV := cCode PP GG FF (f8_b [1, 1, 1, 0, 1]) A H f8_m1 f8_x f8_r
noncomputable def f8_m16 (A : List Value) (H : AH) : OV := f8_n16 (clear 2251799813685186 A) H
noncomputable def weighbridgelaw03_BitsBuilt_k16 (x0 x2 x3 x4 x5 : Value) (H : AH) : OV := f8_n16 [x0, u, x2, x3, x4, x5, u, u, u, u, u, u, u, u, u, u, u, u, u, u, u, u, u, u, u, u, u, u, u, u, u, u, u, u, u, u, u, u, u, u, u, u, u, u, u, u, u, u, u, u, u] H
noncomputable def f8_x17 (i : Nat) (A : List Value) (H : AH) : OV := if i = 0 then f8_m1 A H else f8_x i A H
noncomputable def f8_y17 (i : Nat) (A : List Value) (H : AH) : OV := f8_x17 i (clear 2251799813685219 A) H
noncomputable def f8_n18 (A : List Value) (H : AH) : OV := cLoop PP GG FF (f8_b [1, 1, 1, 0, 1, 4, 5]) A H f8_y17 f8_r
noncomputable def f8_m18 (A : List Value) (H : AH) : OV := f8_n18 (clear 2251799813685186 A) H
-- a loop
noncomputable def weighbridgelaw03_BitsBuilt_k18 (x0 x2 x3 x4 x5 : Value) (H : AH) : OV := f8_n18 [x0, u, x2, x3, x4, x5, u, u, u, u, u, u, u, u, u, u, u, u, u, u, u, u, u, u, u, u, u, u, u, u, u, u, u, u, u, u, u, u, u, u, u, u, u, u, u, u, u, u, u, u, u] H
noncomputable def f8_n19 (A : List Value) (H : AH) : OV := cCode PP GG FF (f8_b [1, 1, 1, 0, 1, 4, 5, 1]) A H f8_m18 f8_y17 f8_r
noncomputable def f8_m19 (A : List Value) (H : AH) : OV := f8_n19 (clear 2251799813685186 A) H
noncomputable def weighbridgelaw03_BitsBuilt_k19 (x0 x2 x3 x4 x5 : Value) (H : AH) : OV := f8_n19 [x0, u, x2, x3, x4, x5, u, u, u, u, u, u, u, u, u, u, u, u, u, u, u, u, u, u, u, u, u, u, u, u, u, u, u, u, u, u, u, u, u, u, u, u, u, u, u, u, u, u, u, u, u] H
noncomputable def f8_n20 (A : List Value) (H : AH) : OV := cCode PP GG FF (f8_b [1, 1, 1, 0, 1, 4, 5, 1, 1]) A H f8_m18 f8_y17 f8_r
noncomputable def f8_m20 (A : List Value) (H : AH) : OV := f8_n20 (clear 2251799813685186 A) H
noncomputable def weighbridgelaw03_BitsBuilt_k20 (x0 x2 x3 x4 x5 : Value) (H : AH) : OV := f8_n20 [x0, u, x2, x3, x4, x5, u, u, u, u, u, u, u, u, u, u, u, u, u, u, u, u, u, u, u, u, u, u, u, u, u, u, u, u, u, u, u, u, u, u, u, u, u, u, u, u, u, u, u, u, u] H
noncomputable def f8_x22 (i : Nat) (A : List Value) (H : AH) : OV := if i = 1 then f8_m20 A H else f8_y17 i A H
noncomputable def f8_y22 (i : Nat) (A : List Value) (H : AH) : OV := f8_x22 i (clear 2251799813685186 A) H
noncomputable def weighbridgelaw03_BitsBuilt_e17_0 (x2 x3 x4 : Value) (H : AH) : OV := f8_x17 0 [u, u, x2, x3, x4, u, u, u, u, u, u, u, u, u, u, u, u, u, u, u, u, u, u, u, u, u, u, u, u, u, u, u, u, u, u, u, u, u, u, u, u, u, u, u, u, u, u, u, u, u, u] H
theorem f8_r_d : Resp 2251799813685243 f8_r := resp_fin (by kernel_rfl)
theorem f8_x_d (D : Nat) : ∀ i, Resp D (f8_x i) := fun _ => resp_none
theorem f8_n0_d : Resp 2251799813685218 f8_n0 := resp_code (P := PP) (G := GG) (call := FF) (c := (f8_b [1, 1, 1])) (D := 2251799813685218) (D' := 2251799813685243) (kn := f8_r) (kx := f8_x) (kr := f8_r) (by kernel_rfl) (f8_r_d.le (by kernel_rfl)) (f8_x_d _) (f8_r_d.le (by kernel_rfl))
theorem f8_m0_d : Resp 2251799813685218 f8_m0 := resp_clear f8_n0_d
theorem f8_n1_d : Resp 2251799813685219 f8_n1 := resp_code (P := PP) (G := GG) (call := FF) (c := (f8_b [1, 1, 1, 1])) (D := 2251799813685219) (D' := 2251799813685243) (kn := f8_r) (kx := f8_x) (kr := f8_r) (by kernel_rfl) (f8_r_d.le (by kernel_rfl)) (f8_x_d _) (f8_r_d.le (by kernel_rfl))
theorem f8_m1_d : Resp 2251799813685219 f8_m1 := resp_clear f8_n1_d
theorem f8_n2_d : Resp 2251799813685243 f8_n2 := resp_code (P := PP) (G := GG) (call := FF) (c := (f8_b [1, 1, 1, 1, 1])) (D := 2251799813685243) (D' := 2251799813685243) (kn := f8_r) (kx := f8_x) (kr := f8_r) (by kernel_rfl) (f8_r_d.le (by kernel_rfl)) (f8_x_d _) (f8_r_d.le (by kernel_rfl))
theorem f8_m2_d : Resp 2251799813685243 f8_m2 := resp_clear f8_n2_d
theorem f8_n4_d : Resp 2251799813685091 f8_n4 := resp_code (P := PP) (G := GG) (call := FF) (c := (f8_b [1, 1, 1, 1, 0, 1])) (D := 2251799813685091) (D' := 2251799813685243) (kn := f8_m2) (kx := f8_x) (kr := f8_r) (by kernel_rfl) (f8_m2_d.le (by kernel_rfl)) (f8_x_d _) (f8_r_d.le (by kernel_rfl))
theorem f8_m4_d : Resp 2251799813685091 f8_m4 := resp_clear f8_n4_d
theorem f8_x5_d : ∀ i, Resp 2251799813685243 (f8_x5 i) := resp_block (kn := f8_m2) (kx := f8_x) (f8_m2_d.le (by kernel_rfl)) (f8_x_d _)
theorem f8_y5_d : ∀ i, Resp 2251799813685243 (f8_y5 i) := fun i => resp_clear (f8_x5_d i)
theorem f8_n6_d : Resp 2251799813685091 f8_n6 := resp_loop (P := PP) (G := GG) (call := FF) (c := (f8_b [1, 1, 1, 1, 0, 1, 4, 5])) (D := 2251799813685091) (kx := f8_y5) (kr := f8_r) (by kernel_rfl) (fun i => (f8_y5_d i).le (by kernel_rfl)) (f8_r_d.le (by kernel_rfl))
theorem f8_m6_d : Resp 2251799813685091 f8_m6 := resp_clear f8_n6_d
theorem f8_n7_d : Resp 2251799813685091 f8_n7 := resp_code (P := PP) (G := GG) (call := FF) (c := (f8_b [1, 1, 1, 1, 0, 1, 4, 5, 1])) (D := 2251799813685091) (D' := 2251799813685091) (kn := f8_m6) (kx := f8_y5) (kr := f8_r) (by kernel_rfl) (f8_m6_d.le (by kernel_rfl)) (fun i => (f8_y5_d i).le (by kernel_rfl)) (f8_r_d.le (by kernel_rfl))
theorem f8_m7_d : Resp 2251799813685091 f8_m7 := resp_clear f8_n7_d
theorem f8_n8_d : Resp 2251799813685091 f8_n8 := resp_code (P := PP) (G := GG) (call := FF) (c := (f8_b [1, 1, 1, 1, 0, 1, 4, 5, 1, 1])) (D := 2251799813685091) (D' := 2251799813685091) (kn := f8_m6) (kx := f8_y5) (kr := f8_r) (by kernel_rfl) (f8_m6_d.le (by kernel_rfl)) (fun i => (f8_y5_d i).le (by kernel_rfl)) (f8_r_d.le (by kernel_rfl))
theorem f8_m8_d : Resp 2251799813685091 f8_m8 := resp_clear f8_n8_d
theorem f8_x10_d : ∀ i, Resp 2251799813685091 (f8_x10 i) := resp_block (kn := f8_m8) (kx := f8_y5) (f8_m8_d.le (by kernel_rfl)) (fun i => (f8_y5_d i).le (by kernel_rfl))
theorem f8_y10_d : ∀ i, Resp 2251799813685091 (f8_y10 i) := fun i => resp_clear (f8_x10_d i)
theorem f8_n16_d : Resp 2251799813685186 f8_n16 := resp_code (P := PP) (G := GG) (call := FF) (c := (f8_b [1, 1, 1, 0, 1])) (D := 2251799813685186) (D' := 2251799813685219) (kn := f8_m1) (kx := f8_x) (kr := f8_r) (by kernel_rfl) (f8_m1_d.le (by kernel_rfl)) (f8_x_d _) (f8_r_d.le (by kernel_rfl))
theorem f8_m16_d : Resp 2251799813685186 f8_m16 := resp_clear f8_n16_d
theorem f8_x17_d : ∀ i, Resp 2251799813685219 (f8_x17 i) := resp_block (kn := f8_m1) (kx := f8_x) (f8_m1_d.le (by kernel_rfl)) (f8_x_d _)
theorem f8_y17_d : ∀ i, Resp 2251799813685219 (f8_y17 i) := fun i => resp_clear (f8_x17_d i)
theorem f8_n18_d : Resp 2251799813685186 f8_n18 := resp_loop (P := PP) (G := GG) (call := FF) (c := (f8_b [1, 1, 1, 0, 1, 4, 5])) (D := 2251799813685186) (kx := f8_y17) (kr := f8_r) (by kernel_rfl) (fun i => (f8_y17_d i).le (by kernel_rfl)) (f8_r_d.le (by kernel_rfl))
theorem f8_m18_d : Resp 2251799813685186 f8_m18 := resp_clear f8_n18_d
theorem f8_n19_d : Resp 2251799813685186 f8_n19 := resp_code (P := PP) (G := GG) (call := FF) (c := (f8_b [1, 1, 1, 0, 1, 4, 5, 1])) (D := 2251799813685186) (D' := 2251799813685186) (kn := f8_m18) (kx := f8_y17) (kr := f8_r) (by kernel_rfl) (f8_m18_d.le (by kernel_rfl)) (fun i => (f8_y17_d i).le (by kernel_rfl)) (f8_r_d.le (by kernel_rfl))
theorem f8_m19_d : Resp 2251799813685186 f8_m19 := resp_clear f8_n19_d
theorem f8_n20_d : Resp 2251799813685186 f8_n20 := resp_code (P := PP) (G := GG) (call := FF) (c := (f8_b [1, 1, 1, 0, 1, 4, 5, 1, 1])) (D := 2251799813685186) (D' := 2251799813685186) (kn := f8_m18) (kx := f8_y17) (kr := f8_r) (by kernel_rfl) (f8_m18_d.le (by kernel_rfl)) (fun i => (f8_y17_d i).le (by kernel_rfl)) (f8_r_d.le (by kernel_rfl))
theorem f8_m20_d : Resp 2251799813685186 f8_m20 := resp_clear f8_n20_d
theorem f8_x22_d : ∀ i, Resp 2251799813685186 (f8_x22 i) := resp_block (kn := f8_m20) (kx := f8_y17) (f8_m20_d.le (by kernel_rfl)) (fun i => (f8_y17_d i).le (by kernel_rfl))
theorem f8_y22_d : ∀ i, Resp 2251799813685186 (f8_y22 i) := fun i => resp_clear (f8_x22_d i)
theorem weighbridgelaw03_BitsBuilt_k2_eq (x2 : Value) (H : AH) : weighbridgelaw03_BitsBuilt_k2 x2 H =
  (FF n_weighbridgelaw03_awake [] H).bind fun r3 =>
  some (r3.1, r3.2) :=
  (by kernel_rfl)
theorem weighbridgelaw03_BitsBuilt_k8_eq (x2 x3 x4 x7 : Value) (H : AH) : weighbridgelaw03_BitsBuilt_k8 x2 x3 x4 x7 H =
  (pBin .other .add x7 (Value.int .i64 1)).bind fun v9 =>
  weighbridgelaw03_BitsBuilt_k6 x2 x3 x4 v9 H :=
  (by kernel_rfl)
theorem weighbridgelaw03_BitsBuilt_k7_eq (x2 x3 x4 x7 : Value) (H : AH) : weighbridgelaw03_BitsBuilt_k7 x2 x3 x4 x7 H =
  (FF n_bits_Has [x3, x7] H).bind fun r11 =>
  (pIdxA 64 1 x4 x7).bind fun v12 =>
  (pLd1 v12 r11.2).bind fun v13 =>
  eqK (pLd1 v12 H) (pLd1 v12 r11.2) <|
  (pBin .bool .neq r11.1 v13).bind fun v14 =>
  condK v14
  (some ((Value.bool false), r11.2))
  (weighbridgelaw03_BitsBuilt_k8 x2 x3 x4 x7 r11.2) :=
  (pre_to (P := PP) (G := GG) (call := FF) (A := [u, u, x2, x3, x4, u, u, x7, u, u, u, u, u, u, u, u, u, u, u, u, u, u, u, u, u, u, u, u, u, u, u, u, u, u, u, u, u, u, u, u, u, u, u, u, u, u, u, u, u, u, u]) (H := H) (kx := f8_y5) (kr := f8_r) (kn := f8_m6) (c := (f8_b [1, 1, 1, 1, 0, 1, 4, 5, 1])) (k := 0) (D := 2251799813685091) (n := f8_n8) (by kernel_rfl) (by kernel_rfl) f8_n8_d (block_to (P := PP) (G := GG) (call := FF) (A := [u, u, x2, x3, x4, u, u, x7, u, u, u, u, u, u, u, u, u, u, u, u, u, u, u, u, u, u, u, u, u, u, u, u, u, u, u, u, u, u, u, u, u, u, u, u, u, u, u, u, u, u, u]) (H := H) (kx := f8_y5) (kr := f8_r) (kn := f8_m8) (c := (f8_b [1, 1, 1, 1, 0, 1, 4, 5, 1, 0])) (x := (f8_b [1, 1, 1, 1, 0, 1, 4, 5, 1, 0, 4])) (id := 3) (D := 2251799813685091) (n := f8_x10) (by kernel_rfl) (by kernel_rfl) (by kernel_rfl) f8_x10_d (by kernel_rfl)))
theorem weighbridgelaw03_BitsBuilt_e5_2_eq (x2 : Value) (H : AH) : weighbridgelaw03_BitsBuilt_e5_2 x2 H = weighbridgelaw03_BitsBuilt_k2 x2 H :=
  here_to (id := 2) (n := f8_x5) (kn := f8_m2) (kx := f8_x) (A := [u, u, x2, u, u, u, u, u, u, u, u, u, u, u, u, u, u, u, u, u, u, u, u, u, u, u, u, u, u, u, u, u, u, u, u, u, u, u, u, u, u, u, u, u, u, u, u, u, u, u, u]) (H := H) (by kernel_rfl) (by kernel_rfl) (by kernel_rfl)
theorem weighbridgelaw03_BitsBuilt_k6_eq (x2 x3 x4 x7 : Value) (H : AH) : weighbridgelaw03_BitsBuilt_k6 x2 x3 x4 x7 H =
  (pBin .other .lss x7 (Value.int .i64 64)).bind fun v15 =>
  condK v15
  (weighbridgelaw03_BitsBuilt_k7 x2 x3 x4 x7 H)
  (weighbridgelaw03_BitsBuilt_e5_2 x2 H) :=
  loop_to (P := PP) (G := GG) (call := FF) (A := [u, u, x2, x3, x4, u, u, x7, u, u, u, u, u, u, u, u, u, u, u, u, u, u, u, u, u, u, u, u, u, u, u, u, u, u, u, u, u, u, u, u, u, u, u, u, u, u, u, u, u, u, u]) (H := H) (kx := f8_y5) (kr := f8_r) (x := (f8_b [1, 1, 1, 1, 0, 1, 4, 5])) (D := 2251799813685091) (n := f8_n6) (by kernel_rfl) (by kernel_rfl) f8_n6_d (pre_to (P := PP) (G := GG) (call := FF) (A := [u, u, x2, x3, x4, u, u, x7, u, u, u, u, u, u, u, u, u, u, u, u, u, u, u, u, u, u, u, u, u, u, u, u, u, u, u, u, u, u, u, u, u, u, u, u, u, u, u, u, u, u, u]) (H := H) (kx := f8_y5) (kr := f8_r) (kn := f8_m6) (c := (f8_b [1, 1, 1, 1, 0, 1, 4, 5])) (k := 0) (D := 2251799813685091) (n := f8_n7) (by kernel_rfl) (by kernel_rfl) f8_n7_d (by kernel_rfl))
theorem weighbridgelaw03_BitsBuilt_k4_eq (x2 x3 x4 x7 : Value) (H : AH) : weighbridgelaw03_BitsBuilt_k4 x2 x3 x4 x7 H =
  weighbridgelaw03_BitsBuilt_k6 x2 x3 x4 x7 H :=
  (block_to (P := PP) (G := GG) (call := FF) (A := [u, u, x2, x3, x4, u, u, x7, u, u, u, u, u, u, u, u, u, u, u, u, u, u, u, u, u, u, u, u, u, u, u, u, u, u, u, u, u, u, u, u, u, u, u, u, u, u, u, u, u, u, u]) (H := H) (kx := f8_x) (kr := f8_r) (kn := f8_m2) (c := (f8_b [1, 1, 1, 1, 0, 1])) (x := (f8_b [1, 1, 1, 1, 0, 1, 4])) (id := 2) (D := 2251799813685243) (n := f8_x5) (by kernel_rfl) (by kernel_rfl) (by kernel_rfl) f8_x5_d (loop_in (P := PP) (G := GG) (call := FF) (A := [u, u, x2, x3, x4, u, u, x7, u, u, u, u, u, u, u, u, u, u, u, u, u, u, u, u, u, u, u, u, u, u, u, u, u, u, u, u, u, u, u, u, u, u, u, u, u, u, u, u, u, u, u]) (H := H) (kx := f8_y5) (kr := f8_r) (kn := f8_m2) (c := (f8_b [1, 1, 1, 1, 0, 1, 4])) (x := (f8_b [1, 1, 1, 1, 0, 1, 4, 5])) (D := 2251799813685091) (n := f8_n6) (by kernel_rfl) (by kernel_rfl) (by kernel_rfl) f8_n6_d (by kernel_rfl)))
theorem weighbridgelaw03_BitsBuilt_k1_eq (x2 x3 x4 : Value) (H : AH) : weighbridgelaw03_BitsBuilt_k1 x2 x3 x4 H =
  weighbridgelaw03_BitsBuilt_k4 x2 x3 x4 (Value.int .i64 0) H :=
  (pre_to (P := PP) (G := GG) (call := FF) (A := [u, u, x2, x3, x4, u, u, u, u, u, u, u, u, u, u, u, u, u, u, u, u, u, u, u, u, u, u, u, u, u, u, u, u, u, u, u, u, u, u, u, u, u, u, u, u, u, u, u, u, u, u]) (H := H) (kx := f8_x) (kr := f8_r) (kn := f8_r) (c := (f8_b [1, 1, 1, 1])) (k := 0) (D := 2251799813685243) (n := f8_n2) (by kernel_rfl) (by kernel_rfl) f8_n2_d (pre_to (P := PP) (G := GG) (call := FF) (A := [u, u, x2, x3, x4, u, u, u, u, u, u, u, u, u, u, u, u, u, u, u, u, u, u, u, u, u, u, u, u, u, u, u, u, u, u, u, u, u, u, u, u, u, u, u, u, u, u, u, u, u, u]) (H := H) (kx := f8_x) (kr := f8_r) (kn := f8_m2) (c := (f8_b [1, 1, 1, 1, 0])) (k := 0) (D := 2251799813685091) (n := f8_n4) (by kernel_rfl) (by kernel_rfl) f8_n4_d (by kernel_rfl)))
theorem weighbridgelaw03_BitsBuilt_k20_eq (x0 x2 x3 x4 x5 : Value) (H : AH) : weighbridgelaw03_BitsBuilt_k20 x0 x2 x3 x4 x5 H =
  (pBin .other .add x5 (Value.int .i64 1)).bind fun v21 =>
  weighbridgelaw03_BitsBuilt_k18 x0 x2 x3 x4 v21 H :=
  (by kernel_rfl)
theorem weighbridgelaw03_BitsBuilt_k19_eq (x0 x2 x3 x4 x5 : Value) (H : AH) : weighbridgelaw03_BitsBuilt_k19 x0 x2 x3 x4 x5 H =
  (pIdx 1 x0 x5).bind fun v23 =>
  (pLd1 v23 H).bind fun v24 =>
  (pConv (some .u64) v24).bind fun v25 =>
  (pBin .other .rem v25 (Value.int .u64 128)).bind fun v26 =>
  (pConv (some .i64) v26).bind fun v27 =>
  (pBin .other .lss v27 (Value.int .i64 64)).bind fun v28 =>
  condK v28
  ((FF n_bits_With [x3, v27] H).bind fun r29 =>
  (pIdxA 64 1 x4 v27).bind fun v30 =>
  (pSt 1 v30 (Value.bool true) r29.2).bind fun H31 =>
  weighbridgelaw03_BitsBuilt_k20 x0 x2 r29.1 x4 x5 H31)
  ((pBin .other .sub v27 (Value.int .i64 64)).bind fun v32 =>
  (pBin .other .sub v27 (Value.int .i64 64)).bind fun v33 =>
  (FF n_bits_Without [x3, v33] H).bind fun r34 =>
  (pIdxA 64 1 x4 v32).bind fun v35 =>
  (pSt 1 v35 (Value.bool false) r34.2).bind fun H36 =>
  weighbridgelaw03_BitsBuilt_k20 x0 x2 r34.1 x4 x5 H36) :=
  (pre_to (P := PP) (G := GG) (call := FF) (A := [x0, u, x2, x3, x4, x5, u, u, u, u, u, u, u, u, u, u, u, u, u, u, u, u, u, u, u, u, u, u, u, u, u, u, u, u, u, u, u, u, u, u, u, u, u, u, u, u, u, u, u, u, u]) (H := H) (kx := f8_y17) (kr := f8_r) (kn := f8_m18) (c := (f8_b [1, 1, 1, 0, 1, 4, 5, 1])) (k := 0) (D := 2251799813685186) (n := f8_n20) (by kernel_rfl) (by kernel_rfl) f8_n20_d (block_to (P := PP) (G := GG) (call := FF) (A := [x0, u, x2, x3, x4, x5, u, u, u, u, u, u, u, u, u, u, u, u, u, u, u, u, u, u, u, u, u, u, u, u, u, u, u, u, u, u, u, u, u, u, u, u, u, u, u, u, u, u, u, u, u]) (H := H) (kx := f8_y17) (kr := f8_r) (kn := f8_m20) (c := (f8_b [1, 1, 1, 0, 1, 4, 5, 1, 0])) (x := (f8_b [1, 1, 1, 0, 1, 4, 5, 1, 0, 4])) (id := 1) (D := 2251799813685186) (n := f8_x22) (by kernel_rfl) (by kernel_rfl) (by kernel_rfl) f8_x22_d (by kernel_rfl)))
theorem weighbridgelaw03_BitsBuilt_e17_0_eq (x2 x3 x4 : Value) (H : AH) : weighbridgelaw03_BitsBuilt_e17_0 x2 x3 x4 H = weighbridgelaw03_BitsBuilt_k1 x2 x3 x4 H :=
  here_to (id := 0) (n := f8_x17) (kn := f8_m1) (kx := f8_x) (A := [u, u, x2, x3, x4, u, u, u, u, u, u, u, u, u, u, u, u, u, u, u, u, u, u, u, u, u, u, u, u, u, u, u, u, u, u, u, u, u, u, u, u, u, u, u, u, u, u, u, u, u, u]) (H := H) (by kernel_rfl) (by kernel_rfl) (by kernel_rfl)
theorem weighbridgelaw03_BitsBuilt_k18_eq (x0 x2 x3 x4 x5 : Value) (H : AH) : weighbridgelaw03_BitsBuilt_k18 x0 x2 x3 x4 x5 H =
  lenK x0 fun v37 =>
  (pBin .other .lss x5 v37).bind fun v38 =>
  (onK (yv v38) true (some x5) (some undef)).bind fun v39 =>
  (onK (yv v38) true ((pBin .other .lss v39 (Value.int .i64 200)).bind some) (some undef)).bind fun v40 =>
  (pPick v38 v40 (Value.bool false)).bind fun v41 =>
  condK v41
  (weighbridgelaw03_BitsBuilt_k19 x0 x2 x3 x4 x5 H)
  (weighbridgelaw03_BitsBuilt_e17_0 x2 x3 x4 H) :=
  loop_to (P := PP) (G := GG) (call := FF) (A := [x0, u, x2, x3, x4, x5, u, u, u, u, u, u, u, u, u, u, u, u, u, u, u, u, u, u, u, u, u, u, u, u, u, u, u, u, u, u, u, u, u, u, u, u, u, u, u, u, u, u, u, u, u]) (H := H) (kx := f8_y17) (kr := f8_r) (x := (f8_b [1, 1, 1, 0, 1, 4, 5])) (D := 2251799813685186) (n := f8_n18) (by kernel_rfl) (by kernel_rfl) f8_n18_d (pre_to (P := PP) (G := GG) (call := FF) (A := [x0, u, x2, x3, x4, x5, u, u, u, u, u, u, u, u, u, u, u, u, u, u, u, u, u, u, u, u, u, u, u, u, u, u, u, u, u, u, u, u, u, u, u, u, u, u, u, u, u, u, u, u, u]) (H := H) (kx := f8_y17) (kr := f8_r) (kn := f8_m18) (c := (f8_b [1, 1, 1, 0, 1, 4, 5])) (k := 0) (D := 2251799813685186) (n := f8_n19) (by kernel_rfl) (by kernel_rfl) f8_n19_d (by kernel_rfl))
theorem weighbridgelaw03_BitsBuilt_k16_eq (x0 x2 x3 x4 x5 : Value) (H : AH) : weighbridgelaw03_BitsBuilt_k16 x0 x2 x3 x4 x5 H =
  weighbridgelaw03_BitsBuilt_k18 x0 x2 x3 x4 x5 H :=
  (block_to (P := PP) (G := GG) (call := FF) (A := [x0, u, x2, x3, x4, x5, u, u, u, u, u, u, u, u, u, u, u, u, u, u, u, u, u, u, u, u, u, u, u, u, u, u, u, u, u, u, u, u, u, u, u, u, u, u, u, u, u, u, u, u, u]) (H := H) (kx := f8_x) (kr := f8_r) (kn := f8_m1) (c := (f8_b [1, 1, 1, 0, 1])) (x := (f8_b [1, 1, 1, 0, 1, 4])) (id := 0) (D := 2251799813685219) (n := f8_x17) (by kernel_rfl) (by kernel_rfl) (by kernel_rfl) f8_x17_d (loop_in (P := PP) (G := GG) (call := FF) (A := [x0, u, x2, x3, x4, x5, u, u, u, u, u, u, u, u, u, u, u, u, u, u, u, u, u, u, u, u, u, u, u, u, u, u, u, u, u, u, u, u, u, u, u, u, u, u, u, u, u, u, u, u, u]) (H := H) (kx := f8_y17) (kr := f8_r) (kn := f8_m1) (c := (f8_b [1, 1, 1, 0, 1, 4])) (x := (f8_b [1, 1, 1, 0, 1, 4, 5])) (D := 2251799813685186) (n := f8_n18) (by kernel_rfl) (by kernel_rfl) (by kernel_rfl) f8_n18_d (by kernel_rfl)))
theorem weighbridgelaw03_BitsBuilt_k0_eq (x0 x2 x3 x4 : Value) (H : AH) : weighbridgelaw03_BitsBuilt_k0 x0 x2 x3 x4 H =
  weighbridgelaw03_BitsBuilt_k16 x0 x2 x3 x4 (Value.int .i64 0) H :=
  (pre_to (P := PP) (G := GG) (call := FF) (A := [x0, u, x2, x3, x4, u, u, u, u, u, u, u, u, u, u, u, u, u, u, u, u, u, u, u, u, u, u, u, u, u, u, u, u, u, u, u, u, u, u, u, u, u, u, u, u, u, u, u, u, u, u]) (H := H) (kx := f8_x) (kr := f8_r) (kn := f8_r) (c := (f8_b [1, 1, 1])) (k := 0) (D := 2251799813685219) (n := f8_n1) (by kernel_rfl) (by kernel_rfl) f8_n1_d (pre_to (P := PP) (G := GG) (call := FF) (A := [x0, u, x2, x3, x4, u, u, u, u, u, u, u, u, u, u, u, u, u, u, u, u, u, u, u, u, u, u, u, u, u, u, u, u, u, u, u, u, u, u, u, u, u, u, u, u, u, u, u, u, u, u]) (H := H) (kx := f8_x) (kr := f8_r) (kn := f8_m1) (c := (f8_b [1, 1, 1, 0])) (k := 0) (D := 2251799813685186) (n := f8_n16) (by kernel_rfl) (by kernel_rfl) f8_n16_d (by kernel_rfl)))
noncomputable def weighbridgelaw03_BitsBuilt (x0 : Value) (H : AH) : OV := cCode PP GG FF (f8_b []) [x0, u, u, u, u, u, u, u, u, u, u, u, u, u, u, u, u, u, u, u, u, u, u, u, u, u, u, u, u, u, u, u, u, u, u, u, u, u, u, u, u, u, u, u, u, u, u, u, u, u, u] H f8_r f8_x f8_r
theorem weighbridgelaw03_BitsBuilt_eq (x0 : Value) (H : AH) : weighbridgelaw03_BitsBuilt x0 H =
  newK [(Value.bool false), (Value.bool false), (Value.bool false), (Value.bool false), (Value.bool false), (Value.bool false), (Value.bool false), (Value.bool false), (Value.bool false), (Value.bool false), (Value.bool false), (Value.bool false), (Value.bool false), (Value.bool false), (Value.bool false), (Value.bool false), (Value.bool false), (Value.bool false), (Value.bool false), (Value.bool false), (Value.bool false), (Value.bool false), (Value.bool false), (Value.bool false), (Value.bool false), (Value.bool false), (Value.bool false), (Value.bool false), (Value.bool false), (Value.bool false), (Value.bool false), (Value.bool false), (Value.bool false), (Value.bool false), (Value.bool false), (Value.bool false), (Value.bool false), (Value.bool false), (Value.bool false), (Value.bool false), (Value.bool false), (Value.bool false), (Value.bool false), (Value.bool false), (Value.bool false), (Value.bool false), (Value.bool false), (Value.bool false), (Value.bool false), (Value.bool false), (Value.bool false), (Value.bool false), (Value.bool false), (Value.bool false), (Value.bool false), (Value.bool false), (Value.bool false), (Value.bool false), (Value.bool false), (Value.bool false), (Value.bool false), (Value.bool false), (Value.bool false), (Value.bool false)] H fun v42 H43 =>
  weighbridgelaw03_BitsBuilt_k0 x0 (Value.bool false) (Value.int .u64 0) v42 H43 :=
  (pre_to (P := PP) (G := GG) (call := FF) (A := [x0, u, u, u, u, u, u, u, u, u, u, u, u, u, u, u, u, u, u, u, u, u, u, u, u, u, u, u, u, u, u, u, u, u, u, u, u, u, u, u, u, u, u, u, u, u, u, u, u, u, u]) (H := H) (kx := f8_x) (kr := f8_r) (kn := f8_r) (c := (f8_b [])) (k := 2) (D := 2251799813685218) (n := f8_n0) (by kernel_rfl) (by kernel_rfl) f8_n0_d (by kernel_rfl))
theorem weighbridgelaw03_BitsBuilt_of (x0 : Value) (H : AH) {r : Value × AH} (h : weighbridgelaw03_BitsBuilt x0 H = some r) : FF n_weighbridgelaw03_BitsBuilt [x0] H = some r :=
  aF_of_body Tryd.func8 rfl rfl ((show cBody PP GG FF (Tryd.f8).ntmps (Tryd.f8).results.toList (bodyOf Tryd.f8) [x0] H = weighbridgelaw03_BitsBuilt x0 H by kernel_rfl).trans h)

-- FUNCTION weighbridgeref01_Bits
noncomputable def f9_b (p : List Nat) : Code := Code.sub (bodyOf Tryd.f9) p
noncomputable def f9_r (A : List Value) (H : AH) : OV := cFin PP (Tryd.f9).results.toList A H
noncomputable def f9_x (_ : Nat) (_ : List Value) (_ : AH) : OV := none
noncomputable def f9_n0 (A : List Value) (H : AH) : OV := cCode PP GG FF (f9_b [1, 1]) A H f9_r f9_x f9_r
noncomputable def f9_m0 (A : List Value) (H : AH) : OV := f9_n0 (clear 131058 A) H
noncomputable def weighbridgeref01_Bits_k0 (x0 x2 x3 : Value) (H : AH) : OV := f9_n0 [x0, u, x2, x3, u, u, u, u, u, u, u, u, u, u, u, u, u] H
noncomputable def f9_n1 (A : List Value) (H : AH) : OV := cCode PP GG FF (f9_b [1, 1, 1]) A H f9_r f9_x f9_r
noncomputable def f9_m1 (A : List Value) (H : AH) : OV := f9_n1 (clear 131059 A) H
noncomputable def weighbridgeref01_Bits_k1 (x2 x3 : Value) (H : AH) : OV := f9_n1 [u, u, x2, x3, u, u, u, u, u, u, u, u, u, u, u, u, u] H
noncomputable def f9_n2 (A : List Value) (H : AH) : OV := cCode PP GG FF (f9_b [1, 1, 0, 1]) A H f9_m1 f9_x f9_r
noncomputable def f9_m2 (A : List Value) (H : AH) : OV := f9_n2 (clear 131042 A) H
noncomputable def weighbridgeref01_Bits_k2 (x0 x2 x3 x4 : Value) (H : AH) : OV := f9_n2 [x0, u, x2, x3, x4, u, u, u, u, u, u, u, u, u, u, u, u] H
noncomputable def f9_x3 (i : Nat) (A : List Value) (H : AH) : OV := if i = 0 then f9_m1 A H else f9_x i A H
noncomputable def f9_y3 (i : Nat) (A : List Value) (H : AH) : OV := f9_x3 i (clear 131059 A) H
noncomputable def f9_n4 (A : List Value) (H : AH) : OV := cLoop PP GG FF (f9_b [1, 1, 0, 1, 4, 5]) A H f9_y3 f9_r
noncomputable def f9_m4 (A : List Value) (H : AH) : OV := f9_n4 (clear 131042 A) H
-- a loop
noncomputable def weighbridgeref01_Bits_k4 (x0 x2 x3 x4 : Value) (H : AH) : OV := f9_n4 [x0, u, x2, x3, x4, u, u, u, u, u, u, u, u, u, u, u, u] H
noncomputable def f9_n5 (A : List Value) (H : AH) : OV := cCode PP GG FF (f9_b [1, 1, 0, 1, 4, 5, 1]) A H f9_m4 f9_y3 f9_r
noncomputable def f9_m5 (A : List Value) (H : AH) : OV := f9_n5 (clear 131042 A) H
noncomputable def weighbridgeref01_Bits_k5 (x0 x2 x3 x4 : Value) (H : AH) : OV := f9_n5 [x0, u, x2, x3, x4, u, u, u, u, u, u, u, u, u, u, u, u] H
noncomputable def f9_n6 (A : List Value) (H : AH) : OV := cCode PP GG FF (f9_b [1, 1, 0, 1, 4, 5, 1, 1]) A H f9_m4 f9_y3 f9_r
noncomputable def f9_m6 (A : List Value) (H : AH) : OV := f9_n6 (clear 131042 A) H
noncomputable def weighbridgeref01_Bits_k6 (x0 x2 x3 x4 : Value) (H : AH) : OV := f9_n6 [x0, u, x2, x3, x4, u, u, u, u, u, u, u, u, u, u, u, u] H
noncomputable def f9_x8 (i : Nat) (A : List Value) (H : AH) : OV := if i = 1 then f9_m6 A H else f9_y3 i A H
noncomputable def f9_y8 (i : Nat) (A : List Value) (H : AH) : OV := f9_x8 i (clear 131042 A) H
noncomputable def weighbridgeref01_Bits_e3_0 (x2 x3 : Value) (H : AH) : OV := f9_x3 0 [u, u, x2, x3, u, u, u, u, u, u, u, u, u, u, u, u, u] H
theorem f9_r_d : Resp 131067 f9_r := resp_fin (by kernel_rfl)
theorem f9_x_d (D : Nat) : ∀ i, Resp D (f9_x i) := fun _ => resp_none
theorem f9_n0_d : Resp 131058 f9_n0 := resp_code (P := PP) (G := GG) (call := FF) (c := (f9_b [1, 1])) (D := 131058) (D' := 131067) (kn := f9_r) (kx := f9_x) (kr := f9_r) (by kernel_rfl) (f9_r_d.le (by kernel_rfl)) (f9_x_d _) (f9_r_d.le (by kernel_rfl))
theorem f9_m0_d : Resp 131058 f9_m0 := resp_clear f9_n0_d
theorem f9_n1_d : Resp 131059 f9_n1 := resp_code (P := PP) (G := GG) (call := FF) (c := (f9_b [1, 1, 1])) (D := 131059) (D' := 131067) (kn := f9_r) (kx := f9_x) (kr := f9_r) (by kernel_rfl) (f9_r_d.le (by kernel_rfl)) (f9_x_d _) (f9_r_d.le (by kernel_rfl))
theorem f9_m1_d : Resp 131059 f9_m1 := resp_clear f9_n1_d
theorem f9_n2_d : Resp 131042 f9_n2 := resp_code (P := PP) (G := GG) (call := FF) (c := (f9_b [1, 1, 0, 1])) (D := 131042) (D' := 131059) (kn := f9_m1) (kx := f9_x) (kr := f9_r) (by kernel_rfl) (f9_m1_d.le (by kernel_rfl)) (f9_x_d _) (f9_r_d.le (by kernel_rfl))
theorem f9_m2_d : Resp 131042 f9_m2 := resp_clear f9_n2_d
theorem f9_x3_d : ∀ i, Resp 131059 (f9_x3 i) := resp_block (kn := f9_m1) (kx := f9_x) (f9_m1_d.le (by kernel_rfl)) (f9_x_d _)
theorem f9_y3_d : ∀ i, Resp 131059 (f9_y3 i) := fun i => resp_clear (f9_x3_d i)
theorem f9_n4_d : Resp 131042 f9_n4 := resp_loop (P := PP) (G := GG) (call := FF) (c := (f9_b [1, 1, 0, 1, 4, 5])) (D := 131042) (kx := f9_y3) (kr := f9_r) (by kernel_rfl) (fun i => (f9_y3_d i).le (by kernel_rfl)) (f9_r_d.le (by kernel_rfl))
theorem f9_m4_d : Resp 131042 f9_m4 := resp_clear f9_n4_d
theorem f9_n5_d : Resp 131042 f9_n5 := resp_code (P := PP) (G := GG) (call := FF) (c := (f9_b [1, 1, 0, 1, 4, 5, 1])) (D := 131042) (D' := 131042) (kn := f9_m4) (kx := f9_y3) (kr := f9_r) (by kernel_rfl) (f9_m4_d.le (by kernel_rfl)) (fun i => (f9_y3_d i).le (by kernel_rfl)) (f9_r_d.le (by kernel_rfl))
theorem f9_m5_d : Resp 131042 f9_m5 := resp_clear f9_n5_d
theorem f9_n6_d : Resp 131042 f9_n6 := resp_code (P := PP) (G := GG) (call := FF) (c := (f9_b [1, 1, 0, 1, 4, 5, 1, 1])) (D := 131042) (D' := 131042) (kn := f9_m4) (kx := f9_y3) (kr := f9_r) (by kernel_rfl) (f9_m4_d.le (by kernel_rfl)) (fun i => (f9_y3_d i).le (by kernel_rfl)) (f9_r_d.le (by kernel_rfl))
theorem f9_m6_d : Resp 131042 f9_m6 := resp_clear f9_n6_d
theorem f9_x8_d : ∀ i, Resp 131042 (f9_x8 i) := resp_block (kn := f9_m6) (kx := f9_y3) (f9_m6_d.le (by kernel_rfl)) (fun i => (f9_y3_d i).le (by kernel_rfl))
theorem f9_y8_d : ∀ i, Resp 131042 (f9_y8 i) := fun i => resp_clear (f9_x8_d i)
theorem weighbridgeref01_Bits_k1_eq (x2 x3 : Value) (H : AH) : weighbridgeref01_Bits_k1 x2 x3 H =
  some (x3, H) :=
  (by kernel_rfl)
theorem weighbridgeref01_Bits_k6_eq (x0 x2 x3 x4 : Value) (H : AH) : weighbridgeref01_Bits_k6 x0 x2 x3 x4 H =
  (pBin .other .add x4 (Value.int .i64 1)).bind fun v7 =>
  weighbridgeref01_Bits_k4 x0 x2 x3 v7 H :=
  (by kernel_rfl)
theorem weighbridgeref01_Bits_k5_eq (x0 x2 x3 x4 : Value) (H : AH) : weighbridgeref01_Bits_k5 x0 x2 x3 x4 H =
  (FF n_weighbridgeref01_Bit [x0, x4] H).bind fun r9 =>
  condK r9.1
  ((pFill (offs 1) (List.replicate 1 [(Value.int .i64 0)]).flatten [(0, x4)]).bind fun cs => rowK 1 1 cs r9.2 fun v10 H11 =>
  (pApp 1 8 x3 v10 H11).bind fun r12 =>
  weighbridgeref01_Bits_k6 x0 x2 r12.1 x4 r12.2)
  (weighbridgeref01_Bits_k6 x0 x2 x3 x4 r9.2) :=
  (pre_to (P := PP) (G := GG) (call := FF) (A := [x0, u, x2, x3, x4, u, u, u, u, u, u, u, u, u, u, u, u]) (H := H) (kx := f9_y3) (kr := f9_r) (kn := f9_m4) (c := (f9_b [1, 1, 0, 1, 4, 5, 1])) (k := 0) (D := 131042) (n := f9_n6) (by kernel_rfl) (by kernel_rfl) f9_n6_d (block_to (P := PP) (G := GG) (call := FF) (A := [x0, u, x2, x3, x4, u, u, u, u, u, u, u, u, u, u, u, u]) (H := H) (kx := f9_y3) (kr := f9_r) (kn := f9_m6) (c := (f9_b [1, 1, 0, 1, 4, 5, 1, 0])) (x := (f9_b [1, 1, 0, 1, 4, 5, 1, 0, 4])) (id := 1) (D := 131042) (n := f9_x8) (by kernel_rfl) (by kernel_rfl) (by kernel_rfl) f9_x8_d (by kernel_rfl)))
theorem weighbridgeref01_Bits_e3_0_eq (x2 x3 : Value) (H : AH) : weighbridgeref01_Bits_e3_0 x2 x3 H = weighbridgeref01_Bits_k1 x2 x3 H :=
  here_to (id := 0) (n := f9_x3) (kn := f9_m1) (kx := f9_x) (A := [u, u, x2, x3, u, u, u, u, u, u, u, u, u, u, u, u, u]) (H := H) (by kernel_rfl) (by kernel_rfl) (by kernel_rfl)
theorem weighbridgeref01_Bits_k4_eq (x0 x2 x3 x4 : Value) (H : AH) : weighbridgeref01_Bits_k4 x0 x2 x3 x4 H =
  (pBin .other .lss x4 (Value.int .i64 64)).bind fun v13 =>
  condK v13
  (weighbridgeref01_Bits_k5 x0 x2 x3 x4 H)
  (weighbridgeref01_Bits_e3_0 x2 x3 H) :=
  loop_to (P := PP) (G := GG) (call := FF) (A := [x0, u, x2, x3, x4, u, u, u, u, u, u, u, u, u, u, u, u]) (H := H) (kx := f9_y3) (kr := f9_r) (x := (f9_b [1, 1, 0, 1, 4, 5])) (D := 131042) (n := f9_n4) (by kernel_rfl) (by kernel_rfl) f9_n4_d (pre_to (P := PP) (G := GG) (call := FF) (A := [x0, u, x2, x3, x4, u, u, u, u, u, u, u, u, u, u, u, u]) (H := H) (kx := f9_y3) (kr := f9_r) (kn := f9_m4) (c := (f9_b [1, 1, 0, 1, 4, 5])) (k := 0) (D := 131042) (n := f9_n5) (by kernel_rfl) (by kernel_rfl) f9_n5_d (by kernel_rfl))
theorem weighbridgeref01_Bits_k2_eq (x0 x2 x3 x4 : Value) (H : AH) : weighbridgeref01_Bits_k2 x0 x2 x3 x4 H =
  weighbridgeref01_Bits_k4 x0 x2 x3 x4 H :=
  (block_to (P := PP) (G := GG) (call := FF) (A := [x0, u, x2, x3, x4, u, u, u, u, u, u, u, u, u, u, u, u]) (H := H) (kx := f9_x) (kr := f9_r) (kn := f9_m1) (c := (f9_b [1, 1, 0, 1])) (x := (f9_b [1, 1, 0, 1, 4])) (id := 0) (D := 131059) (n := f9_x3) (by kernel_rfl) (by kernel_rfl) (by kernel_rfl) f9_x3_d (loop_in (P := PP) (G := GG) (call := FF) (A := [x0, u, x2, x3, x4, u, u, u, u, u, u, u, u, u, u, u, u]) (H := H) (kx := f9_y3) (kr := f9_r) (kn := f9_m1) (c := (f9_b [1, 1, 0, 1, 4])) (x := (f9_b [1, 1, 0, 1, 4, 5])) (D := 131042) (n := f9_n4) (by kernel_rfl) (by kernel_rfl) (by kernel_rfl) f9_n4_d (by kernel_rfl)))
theorem weighbridgeref01_Bits_k0_eq (x0 x2 x3 : Value) (H : AH) : weighbridgeref01_Bits_k0 x0 x2 x3 H =
  weighbridgeref01_Bits_k2 x0 x2 x3 (Value.int .i64 0) H :=
  (pre_to (P := PP) (G := GG) (call := FF) (A := [x0, u, x2, x3, u, u, u, u, u, u, u, u, u, u, u, u, u]) (H := H) (kx := f9_x) (kr := f9_r) (kn := f9_r) (c := (f9_b [1, 1])) (k := 0) (D := 131059) (n := f9_n1) (by kernel_rfl) (by kernel_rfl) f9_n1_d (pre_to (P := PP) (G := GG) (call := FF) (A := [x0, u, x2, x3, u, u, u, u, u, u, u, u, u, u, u, u, u]) (H := H) (kx := f9_x) (kr := f9_r) (kn := f9_m1) (c := (f9_b [1, 1, 0])) (k := 0) (D := 131042) (n := f9_n2) (by kernel_rfl) (by kernel_rfl) f9_n2_d (by kernel_rfl)))
noncomputable def weighbridgeref01_Bits (x0 : Value) (H : AH) : OV := cCode PP GG FF (f9_b []) [x0, u, u, u, u, u, u, u, u, u, u, u, u, u, u, u, u] H f9_r f9_x f9_r
theorem weighbridgeref01_Bits_eq (x0 : Value) (H : AH) : weighbridgeref01_Bits x0 H =
  weighbridgeref01_Bits_k0 x0 (Value.slice none 0 0) (Value.slice none 0 0) H :=
  (pre_to (P := PP) (G := GG) (call := FF) (A := [x0, u, u, u, u, u, u, u, u, u, u, u, u, u, u, u, u]) (H := H) (kx := f9_x) (kr := f9_r) (kn := f9_r) (c := (f9_b [])) (k := 1) (D := 131058) (n := f9_n0) (by kernel_rfl) (by kernel_rfl) f9_n0_d (by kernel_rfl))
theorem weighbridgeref01_Bits_of (x0 : Value) (H : AH) {r : Value × AH} (h : weighbridgeref01_Bits x0 H = some r) : FF n_weighbridgeref01_Bits [x0] H = some r :=
  aF_of_body Tryd.func9 rfl rfl ((show cBody PP GG FF (Tryd.f9).ntmps (Tryd.f9).results.toList (bodyOf Tryd.f9) [x0] H = weighbridgeref01_Bits x0 H by kernel_rfl).trans h)

-- FUNCTION weighbridgelaw03_awake
noncomputable def f10_b (p : List Nat) : Code := Code.sub (bodyOf Tryd.f10) p
noncomputable def f10_r (A : List Value) (H : AH) : OV := cFin PP (Tryd.f10).results.toList A H
noncomputable def f10_x (_ : Nat) (_ : List Value) (_ : AH) : OV := none
theorem f10_r_d : Resp 8388606 f10_r := resp_fin (by kernel_rfl)
theorem f10_x_d (D : Nat) : ∀ i, Resp D (f10_x i) := fun _ => resp_none
noncomputable def weighbridgelaw03_awake (H : AH) : OV := cCode PP GG FF (f10_b []) [u, u, u, u, u, u, u, u, u, u, u, u, u, u, u, u, u, u, u, u, u, u, u] H f10_r f10_x f10_r
theorem weighbridgelaw03_awake_eq (H : AH) : weighbridgelaw03_awake H =
  (FF n_bits_Next [(Value.int .u64 10), (Value.int .i64 2)] H).bind fun r0 =>
  (pBin .other .eql r0.1 (Value.int .i64 3)).bind fun v1 =>
  (onK (yv v1) true (FF n_bits_Last [(Value.int .u64 10), (Value.int .i64 2)] r0.2) (some (undef, r0.2))).bind fun r2 =>
  (onK (yv v1) true ((pBin .other .eql r2.1 (Value.int .i64 1)).bind some) (some undef)).bind fun v3 =>
  (pPick v1 v3 (Value.bool false)).bind fun v4 =>
  (onK (yv v4) true (FF n_bits_With [(Value.int .u64 0), (Value.int .i64 3)] r2.2) (some (undef, r2.2))).bind fun r5 =>
  (onK (yv v4) true ((pBin .other .eql r5.1 (Value.int .u64 8)).bind some) (some undef)).bind fun v6 =>
  (pPick v4 v6 (Value.bool false)).bind fun v7 =>
  (onK (yv v7) true (FF n_bits_Has [(Value.int .u64 8), (Value.int .i64 3)] r5.2) (some (undef, r5.2))).bind fun r8 =>
  (pPick v7 r8.1 (Value.bool false)).bind fun v9 =>
  (onK (yv v9) true (FF n_bits_Many [(Value.int .u64 7)] r8.2) (some (undef, r8.2))).bind fun r10 =>
  (onK (yv v9) true ((pBin .other .eql r10.1 (Value.int .i64 3)).bind some) (some undef)).bind fun v11 =>
  (pPick v9 v11 (Value.bool false)).bind fun v12 =>
  (onK (yv v12) true (FF n_bits_All [(Value.int .u64 5)] r10.2) (some (undef, r10.2))).bind fun r13 =>
  (onK (yv v12) true ((pFill (offs 1) (List.replicate 2 [(Value.int .i64 0)]).flatten [(0, (Value.int .i64 0)), (1, (Value.int .i64 2))]).bind fun cs => rowK 2 1 cs r13.2 fun v H => some (v, H)) (some (undef, r13.2))).bind fun r14 =>
  (onK (yv v12) true (FF n_weighbridgehelp_Plainint [r13.1, r14.1] r14.2) (some (undef, r14.2))).bind fun r15 =>
  (pPick v12 r15.1 (Value.bool false)).bind fun v16 =>
  some (v16, r15.2) :=
  (by kernel_rfl)
theorem weighbridgelaw03_awake_of (H : AH) {r : Value × AH} (h : weighbridgelaw03_awake H = some r) : FF n_weighbridgelaw03_awake [] H = some r :=
  aF_of_body Tryd.func10 rfl rfl ((show cBody PP GG FF (Tryd.f10).ntmps (Tryd.f10).results.toList (bodyOf Tryd.f10) [] H = weighbridgelaw03_awake H by kernel_rfl).trans h)

-- FUNCTION weighbridgehelp_Plainint
noncomputable def f11_b (p : List Nat) : Code := Code.sub (bodyOf Tryd.f11) p
noncomputable def f11_r (A : List Value) (H : AH) : OV := cFin PP (Tryd.f11).results.toList A H
noncomputable def f11_x (_ : Nat) (_ : List Value) (_ : AH) : OV := none
theorem f11_r_d : Resp 239 f11_r := resp_fin (by kernel_rfl)
theorem f11_x_d (D : Nat) : ∀ i, Resp D (f11_x i) := fun _ => resp_none
noncomputable def weighbridgehelp_Plainint (x0 x1 : Value) (H : AH) : OV := cCode PP GG FF (f11_b []) [x0, x1, u, u, u, u, u, u] H f11_r f11_x f11_r
theorem weighbridgehelp_Plainint_eq (x0 x1 : Value) (H : AH) : weighbridgehelp_Plainint x0 x1 H =
  (FF n_weighbridgehelp_Sameint [x0, x1, (Value.func (.func n_weighbridgehelp_Plainint_1) #[] #[])] H).bind fun r0 =>
  some (r0.1, r0.2) :=
  (by kernel_rfl)
theorem weighbridgehelp_Plainint_of (x0 x1 : Value) (H : AH) {r : Value × AH} (h : weighbridgehelp_Plainint x0 x1 H = some r) : FF n_weighbridgehelp_Plainint [x0, x1] H = some r :=
  aF_of_body Tryd.func11 rfl rfl ((show cBody PP GG FF (Tryd.f11).ntmps (Tryd.f11).results.toList (bodyOf Tryd.f11) [x0, x1] H = weighbridgehelp_Plainint x0 x1 H by kernel_rfl).trans h)

-- FUNCTION bits_All
noncomputable def f12_b (p : List Nat) : Code := Code.sub (bodyOf Tryd.f12) p
noncomputable def f12_r (A : List Value) (H : AH) : OV := cFin PP (Tryd.f12).results.toList A H
noncomputable def f12_x (_ : Nat) (_ : List Value) (_ : AH) : OV := none
noncomputable def f12_n0 (A : List Value) (H : AH) : OV := cCode PP GG FF (f12_b [1, 1]) A H f12_r f12_x f12_r
noncomputable def f12_m0 (A : List Value) (H : AH) : OV := f12_n0 (clear 262130 A) H
noncomputable def bits_All_k0 (x0 x2 x3 : Value) (H : AH) : OV := f12_n0 [x0, u, x2, x3, u, u, u, u, u, u, u, u, u, u, u, u, u, u] H
noncomputable def f12_n1 (A : List Value) (H : AH) : OV := cCode PP GG FF (f12_b [1, 1, 1]) A H f12_r f12_x f12_r
noncomputable def f12_m1 (A : List Value) (H : AH) : OV := f12_n1 (clear 262131 A) H
noncomputable def bits_All_k1 (x2 x3 : Value) (H : AH) : OV := f12_n1 [u, u, x2, x3, u, u, u, u, u, u, u, u, u, u, u, u, u, u] H
noncomputable def f12_n2 (A : List Value) (H : AH) : OV := cCode PP GG FF (f12_b [1, 1, 0, 1]) A H f12_m1 f12_x f12_r
noncomputable def f12_m2 (A : List Value) (H : AH) : OV := f12_n2 (clear 262114 A) H
noncomputable def bits_All_k2 (x0 x2 x3 x4 : Value) (H : AH) : OV := f12_n2 [x0, u, x2, x3, x4, u, u, u, u, u, u, u, u, u, u, u, u, u] H
noncomputable def f12_x3 (i : Nat) (A : List Value) (H : AH) : OV := if i = 0 then f12_m1 A H else f12_x i A H
noncomputable def f12_y3 (i : Nat) (A : List Value) (H : AH) : OV := f12_x3 i (clear 262131 A) H
noncomputable def f12_n4 (A : List Value) (H : AH) : OV := cLoop PP GG FF (f12_b [1, 1, 0, 1, 4, 5]) A H f12_y3 f12_r
noncomputable def f12_m4 (A : List Value) (H : AH) : OV := f12_n4 (clear 262114 A) H
-- a loop
noncomputable def bits_All_k4 (x0 x2 x3 x4 : Value) (H : AH) : OV := f12_n4 [x0, u, x2, x3, x4, u, u, u, u, u, u, u, u, u, u, u, u, u] H
noncomputable def f12_n5 (A : List Value) (H : AH) : OV := cCode PP GG FF (f12_b [1, 1, 0, 1, 4, 5, 1]) A H f12_m4 f12_y3 f12_r
noncomputable def f12_m5 (A : List Value) (H : AH) : OV := f12_n5 (clear 262114 A) H
noncomputable def bits_All_k5 (x0 x2 x3 x4 : Value) (H : AH) : OV := f12_n5 [x0, u, x2, x3, x4, u, u, u, u, u, u, u, u, u, u, u, u, u] H
noncomputable def f12_n6 (A : List Value) (H : AH) : OV := cCode PP GG FF (f12_b [1, 1, 0, 1, 4, 5, 1, 1]) A H f12_m4 f12_y3 f12_r
noncomputable def f12_m6 (A : List Value) (H : AH) : OV := f12_n6 (clear 262114 A) H
noncomputable def bits_All_k6 (x0 x2 x3 x4 : Value) (H : AH) : OV := f12_n6 [x0, u, x2, x3, x4, u, u, u, u, u, u, u, u, u, u, u, u, u] H
noncomputable def f12_x9 (i : Nat) (A : List Value) (H : AH) : OV := if i = 1 then f12_m6 A H else f12_y3 i A H
noncomputable def f12_y9 (i : Nat) (A : List Value) (H : AH) : OV := f12_x9 i (clear 262114 A) H
noncomputable def bits_All_e3_0 (x2 x3 : Value) (H : AH) : OV := f12_x3 0 [u, u, x2, x3, u, u, u, u, u, u, u, u, u, u, u, u, u, u] H
theorem f12_r_d : Resp 262139 f12_r := resp_fin (by kernel_rfl)
theorem f12_x_d (D : Nat) : ∀ i, Resp D (f12_x i) := fun _ => resp_none
theorem f12_n0_d : Resp 262130 f12_n0 := resp_code (P := PP) (G := GG) (call := FF) (c := (f12_b [1, 1])) (D := 262130) (D' := 262139) (kn := f12_r) (kx := f12_x) (kr := f12_r) (by kernel_rfl) (f12_r_d.le (by kernel_rfl)) (f12_x_d _) (f12_r_d.le (by kernel_rfl))
theorem f12_m0_d : Resp 262130 f12_m0 := resp_clear f12_n0_d
theorem f12_n1_d : Resp 262131 f12_n1 := resp_code (P := PP) (G := GG) (call := FF) (c := (f12_b [1, 1, 1])) (D := 262131) (D' := 262139) (kn := f12_r) (kx := f12_x) (kr := f12_r) (by kernel_rfl) (f12_r_d.le (by kernel_rfl)) (f12_x_d _) (f12_r_d.le (by kernel_rfl))
theorem f12_m1_d : Resp 262131 f12_m1 := resp_clear f12_n1_d
theorem f12_n2_d : Resp 262114 f12_n2 := resp_code (P := PP) (G := GG) (call := FF) (c := (f12_b [1, 1, 0, 1])) (D := 262114) (D' := 262131) (kn := f12_m1) (kx := f12_x) (kr := f12_r) (by kernel_rfl) (f12_m1_d.le (by kernel_rfl)) (f12_x_d _) (f12_r_d.le (by kernel_rfl))
theorem f12_m2_d : Resp 262114 f12_m2 := resp_clear f12_n2_d
theorem f12_x3_d : ∀ i, Resp 262131 (f12_x3 i) := resp_block (kn := f12_m1) (kx := f12_x) (f12_m1_d.le (by kernel_rfl)) (f12_x_d _)
theorem f12_y3_d : ∀ i, Resp 262131 (f12_y3 i) := fun i => resp_clear (f12_x3_d i)
theorem f12_n4_d : Resp 262114 f12_n4 := resp_loop (P := PP) (G := GG) (call := FF) (c := (f12_b [1, 1, 0, 1, 4, 5])) (D := 262114) (kx := f12_y3) (kr := f12_r) (by kernel_rfl) (fun i => (f12_y3_d i).le (by kernel_rfl)) (f12_r_d.le (by kernel_rfl))
theorem f12_m4_d : Resp 262114 f12_m4 := resp_clear f12_n4_d
theorem f12_n5_d : Resp 262114 f12_n5 := resp_code (P := PP) (G := GG) (call := FF) (c := (f12_b [1, 1, 0, 1, 4, 5, 1])) (D := 262114) (D' := 262114) (kn := f12_m4) (kx := f12_y3) (kr := f12_r) (by kernel_rfl) (f12_m4_d.le (by kernel_rfl)) (fun i => (f12_y3_d i).le (by kernel_rfl)) (f12_r_d.le (by kernel_rfl))
theorem f12_m5_d : Resp 262114 f12_m5 := resp_clear f12_n5_d
theorem f12_n6_d : Resp 262114 f12_n6 := resp_code (P := PP) (G := GG) (call := FF) (c := (f12_b [1, 1, 0, 1, 4, 5, 1, 1])) (D := 262114) (D' := 262114) (kn := f12_m4) (kx := f12_y3) (kr := f12_r) (by kernel_rfl) (f12_m4_d.le (by kernel_rfl)) (fun i => (f12_y3_d i).le (by kernel_rfl)) (f12_r_d.le (by kernel_rfl))
theorem f12_m6_d : Resp 262114 f12_m6 := resp_clear f12_n6_d
theorem f12_x9_d : ∀ i, Resp 262114 (f12_x9 i) := resp_block (kn := f12_m6) (kx := f12_y3) (f12_m6_d.le (by kernel_rfl)) (fun i => (f12_y3_d i).le (by kernel_rfl))
theorem f12_y9_d : ∀ i, Resp 262114 (f12_y9 i) := fun i => resp_clear (f12_x9_d i)
theorem bits_All_k1_eq (x2 x3 : Value) (H : AH) : bits_All_k1 x2 x3 H =
  some (x3, H) :=
  (by kernel_rfl)
theorem bits_All_k6_eq (x0 x2 x3 x4 : Value) (H : AH) : bits_All_k6 x0 x2 x3 x4 H =
  (pBin .other .add x4 (Value.int .i64 1)).bind fun v7 =>
  (FF n_bits_Next [x0, v7] H).bind fun r8 =>
  bits_All_k4 x0 x2 x3 r8.1 r8.2 :=
  (by kernel_rfl)
theorem bits_All_k5_eq (x0 x2 x3 x4 : Value) (H : AH) : bits_All_k5 x0 x2 x3 x4 H =
  (pFill (offs 1) (List.replicate 1 [(Value.int .i64 0)]).flatten [(0, x4)]).bind fun cs => rowK 1 1 cs H fun v10 H11 =>
  (pApp 1 8 x3 v10 H11).bind fun r12 =>
  bits_All_k6 x0 x2 r12.1 x4 r12.2 :=
  (pre_to (P := PP) (G := GG) (call := FF) (A := [x0, u, x2, x3, x4, u, u, u, u, u, u, u, u, u, u, u, u, u]) (H := H) (kx := f12_y3) (kr := f12_r) (kn := f12_m4) (c := (f12_b [1, 1, 0, 1, 4, 5, 1])) (k := 0) (D := 262114) (n := f12_n6) (by kernel_rfl) (by kernel_rfl) f12_n6_d (block_to (P := PP) (G := GG) (call := FF) (A := [x0, u, x2, x3, x4, u, u, u, u, u, u, u, u, u, u, u, u, u]) (H := H) (kx := f12_y3) (kr := f12_r) (kn := f12_m6) (c := (f12_b [1, 1, 0, 1, 4, 5, 1, 0])) (x := (f12_b [1, 1, 0, 1, 4, 5, 1, 0, 4])) (id := 1) (D := 262114) (n := f12_x9) (by kernel_rfl) (by kernel_rfl) (by kernel_rfl) f12_x9_d (by kernel_rfl)))
theorem bits_All_e3_0_eq (x2 x3 : Value) (H : AH) : bits_All_e3_0 x2 x3 H = bits_All_k1 x2 x3 H :=
  here_to (id := 0) (n := f12_x3) (kn := f12_m1) (kx := f12_x) (A := [u, u, x2, x3, u, u, u, u, u, u, u, u, u, u, u, u, u, u]) (H := H) (by kernel_rfl) (by kernel_rfl) (by kernel_rfl)
theorem bits_All_k4_eq (x0 x2 x3 x4 : Value) (H : AH) : bits_All_k4 x0 x2 x3 x4 H =
  (pBin .other .geq x4 (Value.int .i64 0)).bind fun v13 =>
  condK v13
  (bits_All_k5 x0 x2 x3 x4 H)
  (bits_All_e3_0 x2 x3 H) :=
  loop_to (P := PP) (G := GG) (call := FF) (A := [x0, u, x2, x3, x4, u, u, u, u, u, u, u, u, u, u, u, u, u]) (H := H) (kx := f12_y3) (kr := f12_r) (x := (f12_b [1, 1, 0, 1, 4, 5])) (D := 262114) (n := f12_n4) (by kernel_rfl) (by kernel_rfl) f12_n4_d (pre_to (P := PP) (G := GG) (call := FF) (A := [x0, u, x2, x3, x4, u, u, u, u, u, u, u, u, u, u, u, u, u]) (H := H) (kx := f12_y3) (kr := f12_r) (kn := f12_m4) (c := (f12_b [1, 1, 0, 1, 4, 5])) (k := 0) (D := 262114) (n := f12_n5) (by kernel_rfl) (by kernel_rfl) f12_n5_d (by kernel_rfl))
theorem bits_All_k2_eq (x0 x2 x3 x4 : Value) (H : AH) : bits_All_k2 x0 x2 x3 x4 H =
  bits_All_k4 x0 x2 x3 x4 H :=
  (block_to (P := PP) (G := GG) (call := FF) (A := [x0, u, x2, x3, x4, u, u, u, u, u, u, u, u, u, u, u, u, u]) (H := H) (kx := f12_x) (kr := f12_r) (kn := f12_m1) (c := (f12_b [1, 1, 0, 1])) (x := (f12_b [1, 1, 0, 1, 4])) (id := 0) (D := 262131) (n := f12_x3) (by kernel_rfl) (by kernel_rfl) (by kernel_rfl) f12_x3_d (loop_in (P := PP) (G := GG) (call := FF) (A := [x0, u, x2, x3, x4, u, u, u, u, u, u, u, u, u, u, u, u, u]) (H := H) (kx := f12_y3) (kr := f12_r) (kn := f12_m1) (c := (f12_b [1, 1, 0, 1, 4])) (x := (f12_b [1, 1, 0, 1, 4, 5])) (D := 262114) (n := f12_n4) (by kernel_rfl) (by kernel_rfl) (by kernel_rfl) f12_n4_d (by kernel_rfl)))
theorem bits_All_k0_eq (x0 x2 x3 : Value) (H : AH) : bits_All_k0 x0 x2 x3 H =
  (FF n_bits_Next [x0, (Value.int .i64 0)] H).bind fun r14 =>
  bits_All_k2 x0 x2 x3 r14.1 r14.2 :=
  (pre_to (P := PP) (G := GG) (call := FF) (A := [x0, u, x2, x3, u, u, u, u, u, u, u, u, u, u, u, u, u, u]) (H := H) (kx := f12_x) (kr := f12_r) (kn := f12_r) (c := (f12_b [1, 1])) (k := 0) (D := 262131) (n := f12_n1) (by kernel_rfl) (by kernel_rfl) f12_n1_d (pre_to (P := PP) (G := GG) (call := FF) (A := [x0, u, x2, x3, u, u, u, u, u, u, u, u, u, u, u, u, u, u]) (H := H) (kx := f12_x) (kr := f12_r) (kn := f12_m1) (c := (f12_b [1, 1, 0])) (k := 0) (D := 262114) (n := f12_n2) (by kernel_rfl) (by kernel_rfl) f12_n2_d (by kernel_rfl)))
noncomputable def bits_All (x0 : Value) (H : AH) : OV := cCode PP GG FF (f12_b []) [x0, u, u, u, u, u, u, u, u, u, u, u, u, u, u, u, u, u] H f12_r f12_x f12_r
theorem bits_All_eq (x0 : Value) (H : AH) : bits_All x0 H =
  bits_All_k0 x0 (Value.slice none 0 0) (Value.slice none 0 0) H :=
  (pre_to (P := PP) (G := GG) (call := FF) (A := [x0, u, u, u, u, u, u, u, u, u, u, u, u, u, u, u, u, u]) (H := H) (kx := f12_x) (kr := f12_r) (kn := f12_r) (c := (f12_b [])) (k := 1) (D := 262130) (n := f12_n0) (by kernel_rfl) (by kernel_rfl) f12_n0_d (by kernel_rfl))
theorem bits_All_of (x0 : Value) (H : AH) {r : Value × AH} (h : bits_All x0 H = some r) : FF n_bits_All [x0] H = some r :=
  aF_of_body Tryd.func12 rfl rfl ((show cBody PP GG FF (Tryd.f12).ntmps (Tryd.f12).results.toList (bodyOf Tryd.f12) [x0] H = bits_All x0 H by kernel_rfl).trans h)

-- FUNCTION bits_Many
noncomputable def f13_b (p : List Nat) : Code := Code.sub (bodyOf Tryd.f13) p
noncomputable def f13_r (A : List Value) (H : AH) : OV := cFin PP (Tryd.f13).results.toList A H
noncomputable def f13_x (_ : Nat) (_ : List Value) (_ : AH) : OV := none
theorem f13_r_d : Resp 27 f13_r := resp_fin (by kernel_rfl)
theorem f13_x_d (D : Nat) : ∀ i, Resp D (f13_x i) := fun _ => resp_none
noncomputable def bits_Many (x0 : Value) (H : AH) : OV := cCode PP GG FF (f13_b []) [x0, u, u, u, u] H f13_r f13_x f13_r
theorem bits_Many_eq (x0 : Value) (H : AH) : bits_Many x0 H =
  (FF n_math_bits_OnesCount64 [x0] H).bind fun r0 =>
  some (r0.1, r0.2) :=
  (by kernel_rfl)
theorem bits_Many_of (x0 : Value) (H : AH) {r : Value × AH} (h : bits_Many x0 H = some r) : FF n_bits_Many [x0] H = some r :=
  aF_of_body Tryd.func13 rfl rfl ((show cBody PP GG FF (Tryd.f13).ntmps (Tryd.f13).results.toList (bodyOf Tryd.f13) [x0] H = bits_Many x0 H by kernel_rfl).trans h)

-- FUNCTION bits_Next
noncomputable def f14_b (p : List Nat) : Code := Code.sub (bodyOf Tryd.f14) p
noncomputable def f14_r (A : List Value) (H : AH) : OV := cFin PP (Tryd.f14).results.toList A H
noncomputable def f14_x (_ : Nat) (_ : List Value) (_ : AH) : OV := none
theorem f14_r_d : Resp 65519 f14_r := resp_fin (by kernel_rfl)
theorem f14_x_d (D : Nat) : ∀ i, Resp D (f14_x i) := fun _ => resp_none
noncomputable def bits_Next (x0 x1 : Value) (H : AH) : OV := cCode PP GG FF (f14_b []) [x0, x1, u, u, u, u, u, u, u, u, u, u, u, u, u, u] H f14_r f14_x f14_r
theorem bits_Next_eq (x0 x1 : Value) (H : AH) : bits_Next x0 x1 H =
  (pBin .other .geq x1 (Value.int .i64 64)).bind fun v0 =>
  condK v0
  (some ((Value.int .i64 (-1)), H))
  ((pMax [x1, (Value.int .i64 0)]).bind fun v1 =>
  (pBin .other .shl (Value.int .u64 18446744073709551615) v1).bind fun v2 =>
  (pBin .other .and x0 v2).bind fun v3 =>
  (pBin .other .eql v3 (Value.int .u64 0)).bind fun v4 =>
  condK v4
  (some ((Value.int .i64 (-1)), H))
  ((FF n_math_bits_TrailingZeros64 [v3] H).bind fun r5 =>
  some (r5.1, r5.2))) :=
  (by kernel_rfl)
theorem bits_Next_of (x0 x1 : Value) (H : AH) {r : Value × AH} (h : bits_Next x0 x1 H = some r) : FF n_bits_Next [x0, x1] H = some r :=
  aF_of_body Tryd.func14 rfl rfl ((show cBody PP GG FF (Tryd.f14).ntmps (Tryd.f14).results.toList (bodyOf Tryd.f14) [x0, x1] H = bits_Next x0 x1 H by kernel_rfl).trans h)

-- FUNCTION bits_Last
noncomputable def f15_b (p : List Nat) : Code := Code.sub (bodyOf Tryd.f15) p
noncomputable def f15_r (A : List Value) (H : AH) : OV := cFin PP (Tryd.f15).results.toList A H
noncomputable def f15_x (_ : Nat) (_ : List Value) (_ : AH) : OV := none
theorem f15_r_d : Resp 32751 f15_r := resp_fin (by kernel_rfl)
theorem f15_x_d (D : Nat) : ∀ i, Resp D (f15_x i) := fun _ => resp_none
noncomputable def bits_Last (x0 x1 : Value) (H : AH) : OV := cCode PP GG FF (f15_b []) [x0, x1, u, u, u, u, u, u, u, u, u, u, u, u, u] H f15_r f15_x f15_r
theorem bits_Last_eq (x0 x1 : Value) (H : AH) : bits_Last x0 x1 H =
  (pBin .other .lss x1 (Value.int .i64 0)).bind fun v0 =>
  condK v0
  (some ((Value.int .i64 (-1)), H))
  ((pMin [x1, (Value.int .i64 63)]).bind fun v1 =>
  (pBin .other .sub (Value.int .i64 63) v1).bind fun v2 =>
  (pBin .other .shr (Value.int .u64 18446744073709551615) v2).bind fun v3 =>
  (pBin .other .and x0 v3).bind fun v4 =>
  (FF n_math_bits_Len64 [v4] H).bind fun r5 =>
  (pBin .other .sub r5.1 (Value.int .i64 1)).bind fun v6 =>
  some (v6, r5.2)) :=
  (by kernel_rfl)
theorem bits_Last_of (x0 x1 : Value) (H : AH) {r : Value × AH} (h : bits_Last x0 x1 H = some r) : FF n_bits_Last [x0, x1] H = some r :=
  aF_of_body Tryd.func15 rfl rfl ((show cBody PP GG FF (Tryd.f15).ntmps (Tryd.f15).results.toList (bodyOf Tryd.f15) [x0, x1] H = bits_Last x0 x1 H by kernel_rfl).trans h)

-- FUNCTION weighbridgeref01_One
noncomputable def f16_b (p : List Nat) : Code := Code.sub (bodyOf Tryd.f16) p
noncomputable def f16_r (A : List Value) (H : AH) : OV := cFin PP (Tryd.f16).results.toList A H
noncomputable def f16_x (_ : Nat) (_ : List Value) (_ : AH) : OV := none
noncomputable def f16_n0 (A : List Value) (H : AH) : OV := cCode PP GG FF (f16_b [1, 1, 1]) A H f16_r f16_x f16_r
noncomputable def f16_m0 (A : List Value) (H : AH) : OV := f16_n0 (clear 524274 A) H
noncomputable def weighbridgeref01_One_k0 (x0 x2 x3 : Value) (H : AH) : OV := f16_n0 [x0, u, x2, x3, u, u, u, u, u, u, u, u, u, u, u, u, u, u, u] H
noncomputable def f16_n1 (A : List Value) (H : AH) : OV := cCode PP GG FF (f16_b [1, 1, 1, 1]) A H f16_r f16_x f16_r
noncomputable def f16_m1 (A : List Value) (H : AH) : OV := f16_n1 (clear 524275 A) H
noncomputable def weighbridgeref01_One_k1 (x2 x3 : Value) (H : AH) : OV := f16_n1 [u, u, x2, x3, u, u, u, u, u, u, u, u, u, u, u, u, u, u, u] H
noncomputable def f16_n2 (A : List Value) (H : AH) : OV := cCode PP GG FF (f16_b [1, 1, 1, 0, 1]) A H f16_m1 f16_x f16_r
noncomputable def f16_m2 (A : List Value) (H : AH) : OV := f16_n2 (clear 524258 A) H
noncomputable def weighbridgeref01_One_k2 (x0 x2 x3 x4 : Value) (H : AH) : OV := f16_n2 [x0, u, x2, x3, x4, u, u, u, u, u, u, u, u, u, u, u, u, u, u] H
noncomputable def f16_x3 (i : Nat) (A : List Value) (H : AH) : OV := if i = 0 then f16_m1 A H else f16_x i A H
noncomputable def f16_y3 (i : Nat) (A : List Value) (H : AH) : OV := f16_x3 i (clear 524275 A) H
noncomputable def f16_n4 (A : List Value) (H : AH) : OV := cLoop PP GG FF (f16_b [1, 1, 1, 0, 1, 4, 5]) A H f16_y3 f16_r
noncomputable def f16_m4 (A : List Value) (H : AH) : OV := f16_n4 (clear 524258 A) H
-- a loop
noncomputable def weighbridgeref01_One_k4 (x0 x2 x3 x4 : Value) (H : AH) : OV := f16_n4 [x0, u, x2, x3, x4, u, u, u, u, u, u, u, u, u, u, u, u, u, u] H
noncomputable def f16_n5 (A : List Value) (H : AH) : OV := cCode PP GG FF (f16_b [1, 1, 1, 0, 1, 4, 5, 1]) A H f16_m4 f16_y3 f16_r
noncomputable def f16_m5 (A : List Value) (H : AH) : OV := f16_n5 (clear 524258 A) H
noncomputable def weighbridgeref01_One_k5 (x0 x2 x3 x4 : Value) (H : AH) : OV := f16_n5 [x0, u, x2, x3, x4, u, u, u, u, u, u, u, u, u, u, u, u, u, u] H
noncomputable def f16_n6 (A : List Value) (H : AH) : OV := cCode PP GG FF (f16_b [1, 1, 1, 0, 1, 4, 5, 1, 1]) A H f16_m4 f16_y3 f16_r
noncomputable def f16_m6 (A : List Value) (H : AH) : OV := f16_n6 (clear 524258 A) H
noncomputable def weighbridgeref01_One_k6 (x0 x2 x3 x4 : Value) (H : AH) : OV := f16_n6 [x0, u, x2, x3, x4, u, u, u, u, u, u, u, u, u, u, u, u, u, u] H
noncomputable def f16_x8 (i : Nat) (A : List Value) (H : AH) : OV := if i = 1 then f16_m6 A H else f16_y3 i A H
noncomputable def f16_y8 (i : Nat) (A : List Value) (H : AH) : OV := f16_x8 i (clear 524258 A) H
noncomputable def weighbridgeref01_One_e3_0 (x2 x3 : Value) (H : AH) : OV := f16_x3 0 [u, u, x2, x3, u, u, u, u, u, u, u, u, u, u, u, u, u, u, u] H
theorem f16_r_d : Resp 524283 f16_r := resp_fin (by kernel_rfl)
theorem f16_x_d (D : Nat) : ∀ i, Resp D (f16_x i) := fun _ => resp_none
theorem f16_n0_d : Resp 524274 f16_n0 := resp_code (P := PP) (G := GG) (call := FF) (c := (f16_b [1, 1, 1])) (D := 524274) (D' := 524283) (kn := f16_r) (kx := f16_x) (kr := f16_r) (by kernel_rfl) (f16_r_d.le (by kernel_rfl)) (f16_x_d _) (f16_r_d.le (by kernel_rfl))
theorem f16_m0_d : Resp 524274 f16_m0 := resp_clear f16_n0_d
theorem f16_n1_d : Resp 524275 f16_n1 := resp_code (P := PP) (G := GG) (call := FF) (c := (f16_b [1, 1, 1, 1])) (D := 524275) (D' := 524283) (kn := f16_r) (kx := f16_x) (kr := f16_r) (by kernel_rfl) (f16_r_d.le (by kernel_rfl)) (f16_x_d _) (f16_r_d.le (by kernel_rfl))
theorem f16_m1_d : Resp 524275 f16_m1 := resp_clear f16_n1_d
theorem f16_n2_d : Resp 524258 f16_n2 := resp_code (P := PP) (G := GG) (call := FF) (c := (f16_b [1, 1, 1, 0, 1])) (D := 524258) (D' := 524275) (kn := f16_m1) (kx := f16_x) (kr := f16_r) (by kernel_rfl) (f16_m1_d.le (by kernel_rfl)) (f16_x_d _) (f16_r_d.le (by kernel_rfl))
theorem f16_m2_d : Resp 524258 f16_m2 := resp_clear f16_n2_d
theorem f16_x3_d : ∀ i, Resp 524275 (f16_x3 i) := resp_block (kn := f16_m1) (kx := f16_x) (f16_m1_d.le (by kernel_rfl)) (f16_x_d _)
theorem f16_y3_d : ∀ i, Resp 524275 (f16_y3 i) := fun i => resp_clear (f16_x3_d i)
theorem f16_n4_d : Resp 524258 f16_n4 := resp_loop (P := PP) (G := GG) (call := FF) (c := (f16_b [1, 1, 1, 0, 1, 4, 5])) (D := 524258) (kx := f16_y3) (kr := f16_r) (by kernel_rfl) (fun i => (f16_y3_d i).le (by kernel_rfl)) (f16_r_d.le (by kernel_rfl))
theorem f16_m4_d : Resp 524258 f16_m4 := resp_clear f16_n4_d
theorem f16_n5_d : Resp 524258 f16_n5 := resp_code (P := PP) (G := GG) (call := FF) (c := (f16_b [1, 1, 1, 0, 1, 4, 5, 1])) (D := 524258) (D' := 524258) (kn := f16_m4) (kx := f16_y3) (kr := f16_r) (by kernel_rfl) (f16_m4_d.le (by kernel_rfl)) (fun i => (f16_y3_d i).le (by kernel_rfl)) (f16_r_d.le (by kernel_rfl))
theorem f16_m5_d : Resp 524258 f16_m5 := resp_clear f16_n5_d
theorem f16_n6_d : Resp 524258 f16_n6 := resp_code (P := PP) (G := GG) (call := FF) (c := (f16_b [1, 1, 1, 0, 1, 4, 5, 1, 1])) (D := 524258) (D' := 524258) (kn := f16_m4) (kx := f16_y3) (kr := f16_r) (by kernel_rfl) (f16_m4_d.le (by kernel_rfl)) (fun i => (f16_y3_d i).le (by kernel_rfl)) (f16_r_d.le (by kernel_rfl))
theorem f16_m6_d : Resp 524258 f16_m6 := resp_clear f16_n6_d
theorem f16_x8_d : ∀ i, Resp 524258 (f16_x8 i) := resp_block (kn := f16_m6) (kx := f16_y3) (f16_m6_d.le (by kernel_rfl)) (fun i => (f16_y3_d i).le (by kernel_rfl))
theorem f16_y8_d : ∀ i, Resp 524258 (f16_y8 i) := fun i => resp_clear (f16_x8_d i)
theorem weighbridgeref01_One_k1_eq (x2 x3 : Value) (H : AH) : weighbridgeref01_One_k1 x2 x3 H =
  some (x3, H) :=
  (by kernel_rfl)
theorem weighbridgeref01_One_k6_eq (x0 x2 x3 x4 : Value) (H : AH) : weighbridgeref01_One_k6 x0 x2 x3 x4 H =
  (pBin .other .add x4 (Value.int .i64 1)).bind fun v7 =>
  weighbridgeref01_One_k4 x0 x2 x3 v7 H :=
  (by kernel_rfl)
theorem weighbridgeref01_One_k5_eq (x0 x2 x3 x4 : Value) (H : AH) : weighbridgeref01_One_k5 x0 x2 x3 x4 H =
  (pBin .other .mul (Value.int .u64 2) x3).bind fun v9 =>
  weighbridgeref01_One_k6 x0 x2 v9 x4 H :=
  (pre_to (P := PP) (G := GG) (call := FF) (A := [x0, u, x2, x3, x4, u, u, u, u, u, u, u, u, u, u, u, u, u, u]) (H := H) (kx := f16_y3) (kr := f16_r) (kn := f16_m4) (c := (f16_b [1, 1, 1, 0, 1, 4, 5, 1])) (k := 0) (D := 524258) (n := f16_n6) (by kernel_rfl) (by kernel_rfl) f16_n6_d (block_to (P := PP) (G := GG) (call := FF) (A := [x0, u, x2, x3, x4, u, u, u, u, u, u, u, u, u, u, u, u, u, u]) (H := H) (kx := f16_y3) (kr := f16_r) (kn := f16_m6) (c := (f16_b [1, 1, 1, 0, 1, 4, 5, 1, 0])) (x := (f16_b [1, 1, 1, 0, 1, 4, 5, 1, 0, 4])) (id := 1) (D := 524258) (n := f16_x8) (by kernel_rfl) (by kernel_rfl) (by kernel_rfl) f16_x8_d (by kernel_rfl)))
theorem weighbridgeref01_One_e3_0_eq (x2 x3 : Value) (H : AH) : weighbridgeref01_One_e3_0 x2 x3 H = weighbridgeref01_One_k1 x2 x3 H :=
  here_to (id := 0) (n := f16_x3) (kn := f16_m1) (kx := f16_x) (A := [u, u, x2, x3, u, u, u, u, u, u, u, u, u, u, u, u, u, u, u]) (H := H) (by kernel_rfl) (by kernel_rfl) (by kernel_rfl)
theorem weighbridgeref01_One_k4_eq (x0 x2 x3 x4 : Value) (H : AH) : weighbridgeref01_One_k4 x0 x2 x3 x4 H =
  (pBin .other .lss x4 x0).bind fun v10 =>
  condK v10
  (weighbridgeref01_One_k5 x0 x2 x3 x4 H)
  (weighbridgeref01_One_e3_0 x2 x3 H) :=
  loop_to (P := PP) (G := GG) (call := FF) (A := [x0, u, x2, x3, x4, u, u, u, u, u, u, u, u, u, u, u, u, u, u]) (H := H) (kx := f16_y3) (kr := f16_r) (x := (f16_b [1, 1, 1, 0, 1, 4, 5])) (D := 524258) (n := f16_n4) (by kernel_rfl) (by kernel_rfl) f16_n4_d (pre_to (P := PP) (G := GG) (call := FF) (A := [x0, u, x2, x3, x4, u, u, u, u, u, u, u, u, u, u, u, u, u, u]) (H := H) (kx := f16_y3) (kr := f16_r) (kn := f16_m4) (c := (f16_b [1, 1, 1, 0, 1, 4, 5])) (k := 0) (D := 524258) (n := f16_n5) (by kernel_rfl) (by kernel_rfl) f16_n5_d (by kernel_rfl))
theorem weighbridgeref01_One_k2_eq (x0 x2 x3 x4 : Value) (H : AH) : weighbridgeref01_One_k2 x0 x2 x3 x4 H =
  weighbridgeref01_One_k4 x0 x2 x3 x4 H :=
  (block_to (P := PP) (G := GG) (call := FF) (A := [x0, u, x2, x3, x4, u, u, u, u, u, u, u, u, u, u, u, u, u, u]) (H := H) (kx := f16_x) (kr := f16_r) (kn := f16_m1) (c := (f16_b [1, 1, 1, 0, 1])) (x := (f16_b [1, 1, 1, 0, 1, 4])) (id := 0) (D := 524275) (n := f16_x3) (by kernel_rfl) (by kernel_rfl) (by kernel_rfl) f16_x3_d (loop_in (P := PP) (G := GG) (call := FF) (A := [x0, u, x2, x3, x4, u, u, u, u, u, u, u, u, u, u, u, u, u, u]) (H := H) (kx := f16_y3) (kr := f16_r) (kn := f16_m1) (c := (f16_b [1, 1, 1, 0, 1, 4])) (x := (f16_b [1, 1, 1, 0, 1, 4, 5])) (D := 524258) (n := f16_n4) (by kernel_rfl) (by kernel_rfl) (by kernel_rfl) f16_n4_d (by kernel_rfl)))
theorem weighbridgeref01_One_k0_eq (x0 x2 x3 : Value) (H : AH) : weighbridgeref01_One_k0 x0 x2 x3 H =
  weighbridgeref01_One_k2 x0 x2 x3 (Value.int .i64 0) H :=
  (pre_to (P := PP) (G := GG) (call := FF) (A := [x0, u, x2, x3, u, u, u, u, u, u, u, u, u, u, u, u, u, u, u]) (H := H) (kx := f16_x) (kr := f16_r) (kn := f16_r) (c := (f16_b [1, 1, 1])) (k := 0) (D := 524275) (n := f16_n1) (by kernel_rfl) (by kernel_rfl) f16_n1_d (pre_to (P := PP) (G := GG) (call := FF) (A := [x0, u, x2, x3, u, u, u, u, u, u, u, u, u, u, u, u, u, u, u]) (H := H) (kx := f16_x) (kr := f16_r) (kn := f16_m1) (c := (f16_b [1, 1, 1, 0])) (k := 0) (D := 524258) (n := f16_n2) (by kernel_rfl) (by kernel_rfl) f16_n2_d (by kernel_rfl)))
noncomputable def weighbridgeref01_One (x0 : Value) (H : AH) : OV := cCode PP GG FF (f16_b []) [x0, u, u, u, u, u, u, u, u, u, u, u, u, u, u, u, u, u, u] H f16_r f16_x f16_r
theorem weighbridgeref01_One_eq (x0 : Value) (H : AH) : weighbridgeref01_One x0 H =
  (pBin .other .lss x0 (Value.int .i64 0)).bind fun v11 =>
  (onK (yv v11) false (some x0) (some undef)).bind fun v12 =>
  (onK (yv v11) false ((pBin .other .gtr v12 (Value.int .i64 63)).bind some) (some undef)).bind fun v13 =>
  (pPick v11 (Value.bool true) v13).bind fun v14 =>
  condK v14
  (some ((Value.int .u64 0), H))
  (weighbridgeref01_One_k0 x0 (Value.int .u64 0) (Value.int .u64 1) H) :=
  (pre_to (P := PP) (G := GG) (call := FF) (A := [x0, u, u, u, u, u, u, u, u, u, u, u, u, u, u, u, u, u, u]) (H := H) (kx := f16_x) (kr := f16_r) (kn := f16_r) (c := (f16_b [])) (k := 2) (D := 524274) (n := f16_n0) (by kernel_rfl) (by kernel_rfl) f16_n0_d (by kernel_rfl))
theorem weighbridgeref01_One_of (x0 : Value) (H : AH) {r : Value × AH} (h : weighbridgeref01_One x0 H = some r) : FF n_weighbridgeref01_One [x0] H = some r :=
  aF_of_body Tryd.func16 rfl rfl ((show cBody PP GG FF (Tryd.f16).ntmps (Tryd.f16).results.toList (bodyOf Tryd.f16) [x0] H = weighbridgeref01_One x0 H by kernel_rfl).trans h)

-- FUNCTION weighbridgeref01_Bit
noncomputable def f17_b (p : List Nat) : Code := Code.sub (bodyOf Tryd.f17) p
noncomputable def f17_r (A : List Value) (H : AH) : OV := cFin PP (Tryd.f17).results.toList A H
noncomputable def f17_x (_ : Nat) (_ : List Value) (_ : AH) : OV := none
noncomputable def f17_n0 (A : List Value) (H : AH) : OV := cCode PP GG FF (f17_b [1]) A H f17_r f17_x f17_r
noncomputable def f17_m0 (A : List Value) (H : AH) : OV := f17_n0 (clear 262124 A) H
noncomputable def weighbridgeref01_Bit_k0 (x0 x1 x4 : Value) (H : AH) : OV := f17_n0 [x0, x1, u, u, x4, u, u, u, u, u, u, u, u, u, u, u, u, u] H
noncomputable def f17_n1 (A : List Value) (H : AH) : OV := cCode PP GG FF (f17_b [1, 1]) A H f17_r f17_x f17_r
noncomputable def f17_m1 (A : List Value) (H : AH) : OV := f17_n1 (clear 262127 A) H
noncomputable def weighbridgeref01_Bit_k1 (x4 : Value) (H : AH) : OV := f17_n1 [u, u, u, u, x4, u, u, u, u, u, u, u, u, u, u, u, u, u] H
noncomputable def f17_n2 (A : List Value) (H : AH) : OV := cCode PP GG FF (f17_b [1, 0, 1]) A H f17_m1 f17_x f17_r
noncomputable def f17_m2 (A : List Value) (H : AH) : OV := f17_n2 (clear 262092 A) H
noncomputable def weighbridgeref01_Bit_k2 (x0 x1 x4 x5 : Value) (H : AH) : OV := f17_n2 [x0, x1, u, u, x4, x5, u, u, u, u, u, u, u, u, u, u, u, u] H
noncomputable def f17_x3 (i : Nat) (A : List Value) (H : AH) : OV := if i = 0 then f17_m1 A H else f17_x i A H
noncomputable def f17_y3 (i : Nat) (A : List Value) (H : AH) : OV := f17_x3 i (clear 262127 A) H
noncomputable def f17_n4 (A : List Value) (H : AH) : OV := cLoop PP GG FF (f17_b [1, 0, 1, 4, 5]) A H f17_y3 f17_r
noncomputable def f17_m4 (A : List Value) (H : AH) : OV := f17_n4 (clear 262092 A) H
-- a loop
noncomputable def weighbridgeref01_Bit_k4 (x0 x1 x4 x5 : Value) (H : AH) : OV := f17_n4 [x0, x1, u, u, x4, x5, u, u, u, u, u, u, u, u, u, u, u, u] H
noncomputable def f17_n5 (A : List Value) (H : AH) : OV := cCode PP GG FF (f17_b [1, 0, 1, 4, 5, 1]) A H f17_m4 f17_y3 f17_r
noncomputable def f17_m5 (A : List Value) (H : AH) : OV := f17_n5 (clear 262092 A) H
noncomputable def weighbridgeref01_Bit_k5 (x0 x1 x4 x5 : Value) (H : AH) : OV := f17_n5 [x0, x1, u, u, x4, x5, u, u, u, u, u, u, u, u, u, u, u, u] H
noncomputable def f17_n6 (A : List Value) (H : AH) : OV := cCode PP GG FF (f17_b [1, 0, 1, 4, 5, 1, 1]) A H f17_m4 f17_y3 f17_r
noncomputable def f17_m6 (A : List Value) (H : AH) : OV := f17_n6 (clear 262092 A) H
noncomputable def weighbridgeref01_Bit_k6 (x0 x1 x4 x5 : Value) (H : AH) : OV := f17_n6 [x0, x1, u, u, x4, x5, u, u, u, u, u, u, u, u, u, u, u, u] H
noncomputable def f17_x8 (i : Nat) (A : List Value) (H : AH) : OV := if i = 1 then f17_m6 A H else f17_y3 i A H
noncomputable def f17_y8 (i : Nat) (A : List Value) (H : AH) : OV := f17_x8 i (clear 262092 A) H
noncomputable def weighbridgeref01_Bit_e3_0 (x4 : Value) (H : AH) : OV := f17_x3 0 [u, u, u, u, x4, u, u, u, u, u, u, u, u, u, u, u, u, u] H
theorem f17_r_d : Resp 262127 f17_r := resp_fin (by kernel_rfl)
theorem f17_x_d (D : Nat) : ∀ i, Resp D (f17_x i) := fun _ => resp_none
theorem f17_n0_d : Resp 262124 f17_n0 := resp_code (P := PP) (G := GG) (call := FF) (c := (f17_b [1])) (D := 262124) (D' := 262127) (kn := f17_r) (kx := f17_x) (kr := f17_r) (by kernel_rfl) (f17_r_d.le (by kernel_rfl)) (f17_x_d _) (f17_r_d.le (by kernel_rfl))
theorem f17_m0_d : Resp 262124 f17_m0 := resp_clear f17_n0_d
theorem f17_n1_d : Resp 262127 f17_n1 := resp_code (P := PP) (G := GG) (call := FF) (c := (f17_b [1, 1])) (D := 262127) (D' := 262127) (kn := f17_r) (kx := f17_x) (kr := f17_r) (by kernel_rfl) (f17_r_d.le (by kernel_rfl)) (f17_x_d _) (f17_r_d.le (by kernel_rfl))
theorem f17_m1_d : Resp 262127 f17_m1 := resp_clear f17_n1_d
theorem f17_n2_d : Resp 262092 f17_n2 := resp_code (P := PP) (G := GG) (call := FF) (c := (f17_b [1, 0, 1])) (D := 262092) (D' := 262127) (kn := f17_m1) (kx := f17_x) (kr := f17_r) (by kernel_rfl) (f17_m1_d.le (by kernel_rfl)) (f17_x_d _) (f17_r_d.le (by kernel_rfl))
theorem f17_m2_d : Resp 262092 f17_m2 := resp_clear f17_n2_d
theorem f17_x3_d : ∀ i, Resp 262127 (f17_x3 i) := resp_block (kn := f17_m1) (kx := f17_x) (f17_m1_d.le (by kernel_rfl)) (f17_x_d _)
theorem f17_y3_d : ∀ i, Resp 262127 (f17_y3 i) := fun i => resp_clear (f17_x3_d i)
theorem f17_n4_d : Resp 262092 f17_n4 := resp_loop (P := PP) (G := GG) (call := FF) (c := (f17_b [1, 0, 1, 4, 5])) (D := 262092) (kx := f17_y3) (kr := f17_r) (by kernel_rfl) (fun i => (f17_y3_d i).le (by kernel_rfl)) (f17_r_d.le (by kernel_rfl))
theorem f17_m4_d : Resp 262092 f17_m4 := resp_clear f17_n4_d
theorem f17_n5_d : Resp 262092 f17_n5 := resp_code (P := PP) (G := GG) (call := FF) (c := (f17_b [1, 0, 1, 4, 5, 1])) (D := 262092) (D' := 262092) (kn := f17_m4) (kx := f17_y3) (kr := f17_r) (by kernel_rfl) (f17_m4_d.le (by kernel_rfl)) (fun i => (f17_y3_d i).le (by kernel_rfl)) (f17_r_d.le (by kernel_rfl))
theorem f17_m5_d : Resp 262092 f17_m5 := resp_clear f17_n5_d
theorem f17_n6_d : Resp 262092 f17_n6 := resp_code (P := PP) (G := GG) (call := FF) (c := (f17_b [1, 0, 1, 4, 5, 1, 1])) (D := 262092) (D' := 262092) (kn := f17_m4) (kx := f17_y3) (kr := f17_r) (by kernel_rfl) (f17_m4_d.le (by kernel_rfl)) (fun i => (f17_y3_d i).le (by kernel_rfl)) (f17_r_d.le (by kernel_rfl))
theorem f17_m6_d : Resp 262092 f17_m6 := resp_clear f17_n6_d
theorem f17_x8_d : ∀ i, Resp 262092 (f17_x8 i) := resp_block (kn := f17_m6) (kx := f17_y3) (f17_m6_d.le (by kernel_rfl)) (fun i => (f17_y3_d i).le (by kernel_rfl))
theorem f17_y8_d : ∀ i, Resp 262092 (f17_y8 i) := fun i => resp_clear (f17_x8_d i)
theorem weighbridgeref01_Bit_k1_eq (x4 : Value) (H : AH) : weighbridgeref01_Bit_k1 x4 H =
  some ((Value.bool false), H) :=
  (by kernel_rfl)
theorem weighbridgeref01_Bit_k6_eq (x0 x1 x4 x5 : Value) (H : AH) : weighbridgeref01_Bit_k6 x0 x1 x4 x5 H =
  (pBin .other .add x5 (Value.int .i64 1)).bind fun v7 =>
  weighbridgeref01_Bit_k4 x0 x1 x4 v7 H :=
  (by kernel_rfl)
theorem weighbridgeref01_Bit_k5_eq (x0 x1 x4 x5 : Value) (H : AH) : weighbridgeref01_Bit_k5 x0 x1 x4 x5 H =
  (pBin .other .eql x5 x1).bind fun v9 =>
  condK v9
  ((pBin .other .rem x0 (Value.int .u64 2)).bind fun v10 =>
  (pBin .other .eql v10 (Value.int .u64 1)).bind fun v11 =>
  some (v11, H))
  ((pBin .other .quo x0 (Value.int .u64 2)).bind fun v12 =>
  weighbridgeref01_Bit_k6 v12 x1 x4 x5 H) :=
  (pre_to (P := PP) (G := GG) (call := FF) (A := [x0, x1, u, u, x4, x5, u, u, u, u, u, u, u, u, u, u, u, u]) (H := H) (kx := f17_y3) (kr := f17_r) (kn := f17_m4) (c := (f17_b [1, 0, 1, 4, 5, 1])) (k := 0) (D := 262092) (n := f17_n6) (by kernel_rfl) (by kernel_rfl) f17_n6_d (block_to (P := PP) (G := GG) (call := FF) (A := [x0, x1, u, u, x4, x5, u, u, u, u, u, u, u, u, u, u, u, u]) (H := H) (kx := f17_y3) (kr := f17_r) (kn := f17_m6) (c := (f17_b [1, 0, 1, 4, 5, 1, 0])) (x := (f17_b [1, 0, 1, 4, 5, 1, 0, 4])) (id := 1) (D := 262092) (n := f17_x8) (by kernel_rfl) (by kernel_rfl) (by kernel_rfl) f17_x8_d (by kernel_rfl)))
theorem weighbridgeref01_Bit_e3_0_eq (x4 : Value) (H : AH) : weighbridgeref01_Bit_e3_0 x4 H = weighbridgeref01_Bit_k1 x4 H :=
  here_to (id := 0) (n := f17_x3) (kn := f17_m1) (kx := f17_x) (A := [u, u, u, u, x4, u, u, u, u, u, u, u, u, u, u, u, u, u]) (H := H) (by kernel_rfl) (by kernel_rfl) (by kernel_rfl)
theorem weighbridgeref01_Bit_k4_eq (x0 x1 x4 x5 : Value) (H : AH) : weighbridgeref01_Bit_k4 x0 x1 x4 x5 H =
  (pBin .other .lss x5 (Value.int .i64 64)).bind fun v13 =>
  condK v13
  (weighbridgeref01_Bit_k5 x0 x1 x4 x5 H)
  (weighbridgeref01_Bit_e3_0 x4 H) :=
  loop_to (P := PP) (G := GG) (call := FF) (A := [x0, x1, u, u, x4, x5, u, u, u, u, u, u, u, u, u, u, u, u]) (H := H) (kx := f17_y3) (kr := f17_r) (x := (f17_b [1, 0, 1, 4, 5])) (D := 262092) (n := f17_n4) (by kernel_rfl) (by kernel_rfl) f17_n4_d (pre_to (P := PP) (G := GG) (call := FF) (A := [x0, x1, u, u, x4, x5, u, u, u, u, u, u, u, u, u, u, u, u]) (H := H) (kx := f17_y3) (kr := f17_r) (kn := f17_m4) (c := (f17_b [1, 0, 1, 4, 5])) (k := 0) (D := 262092) (n := f17_n5) (by kernel_rfl) (by kernel_rfl) f17_n5_d (by kernel_rfl))
theorem weighbridgeref01_Bit_k2_eq (x0 x1 x4 x5 : Value) (H : AH) : weighbridgeref01_Bit_k2 x0 x1 x4 x5 H =
  weighbridgeref01_Bit_k4 x0 x1 x4 x5 H :=
  (block_to (P := PP) (G := GG) (call := FF) (A := [x0, x1, u, u, x4, x5, u, u, u, u, u, u, u, u, u, u, u, u]) (H := H) (kx := f17_x) (kr := f17_r) (kn := f17_m1) (c := (f17_b [1, 0, 1])) (x := (f17_b [1, 0, 1, 4])) (id := 0) (D := 262127) (n := f17_x3) (by kernel_rfl) (by kernel_rfl) (by kernel_rfl) f17_x3_d (loop_in (P := PP) (G := GG) (call := FF) (A := [x0, x1, u, u, x4, x5, u, u, u, u, u, u, u, u, u, u, u, u]) (H := H) (kx := f17_y3) (kr := f17_r) (kn := f17_m1) (c := (f17_b [1, 0, 1, 4])) (x := (f17_b [1, 0, 1, 4, 5])) (D := 262092) (n := f17_n4) (by kernel_rfl) (by kernel_rfl) (by kernel_rfl) f17_n4_d (by kernel_rfl)))
theorem weighbridgeref01_Bit_k0_eq (x0 x1 x4 : Value) (H : AH) : weighbridgeref01_Bit_k0 x0 x1 x4 H =
  weighbridgeref01_Bit_k2 x0 x1 x4 (Value.int .i64 0) H :=
  (pre_to (P := PP) (G := GG) (call := FF) (A := [x0, x1, u, u, x4, u, u, u, u, u, u, u, u, u, u, u, u, u]) (H := H) (kx := f17_x) (kr := f17_r) (kn := f17_r) (c := (f17_b [1])) (k := 0) (D := 262127) (n := f17_n1) (by kernel_rfl) (by kernel_rfl) f17_n1_d (pre_to (P := PP) (G := GG) (call := FF) (A := [x0, x1, u, u, x4, u, u, u, u, u, u, u, u, u, u, u, u, u]) (H := H) (kx := f17_x) (kr := f17_r) (kn := f17_m1) (c := (f17_b [1, 0])) (k := 0) (D := 262092) (n := f17_n2) (by kernel_rfl) (by kernel_rfl) f17_n2_d (by kernel_rfl)))
noncomputable def weighbridgeref01_Bit (x0 x1 : Value) (H : AH) : OV := cCode PP GG FF (f17_b []) [x0, x1, u, u, u, u, u, u, u, u, u, u, u, u, u, u, u, u] H f17_r f17_x f17_r
theorem weighbridgeref01_Bit_eq (x0 x1 : Value) (H : AH) : weighbridgeref01_Bit x0 x1 H =
  weighbridgeref01_Bit_k0 x0 x1 (Value.bool false) H :=
  (pre_to (P := PP) (G := GG) (call := FF) (A := [x0, x1, u, u, u, u, u, u, u, u, u, u, u, u, u, u, u, u]) (H := H) (kx := f17_x) (kr := f17_r) (kn := f17_r) (c := (f17_b [])) (k := 0) (D := 262124) (n := f17_n0) (by kernel_rfl) (by kernel_rfl) f17_n0_d (by kernel_rfl))
theorem weighbridgeref01_Bit_of (x0 x1 : Value) (H : AH) {r : Value × AH} (h : weighbridgeref01_Bit x0 x1 H = some r) : FF n_weighbridgeref01_Bit [x0, x1] H = some r :=
  aF_of_body Tryd.func17 rfl rfl ((show cBody PP GG FF (Tryd.f17).ntmps (Tryd.f17).results.toList (bodyOf Tryd.f17) [x0, x1] H = weighbridgeref01_Bit x0 x1 H by kernel_rfl).trans h)

-- FUNCTION bits_With
noncomputable def f18_b (p : List Nat) : Code := Code.sub (bodyOf Tryd.f18) p
noncomputable def f18_r (A : List Value) (H : AH) : OV := cFin PP (Tryd.f18).results.toList A H
noncomputable def f18_x (_ : Nat) (_ : List Value) (_ : AH) : OV := none
theorem f18_r_d : Resp 495 f18_r := resp_fin (by kernel_rfl)
theorem f18_x_d (D : Nat) : ∀ i, Resp D (f18_x i) := fun _ => resp_none
noncomputable def bits_With (x0 x1 : Value) (H : AH) : OV := cCode PP GG FF (f18_b []) [x0, x1, u, u, u, u, u, u, u] H f18_r f18_x f18_r
theorem bits_With_eq (x0 x1 : Value) (H : AH) : bits_With x0 x1 H =
  (FF n_bits_mask [x1] H).bind fun r0 =>
  (pBin .other .or x0 r0.1).bind fun v1 =>
  some (v1, r0.2) :=
  (by kernel_rfl)
theorem bits_With_of (x0 x1 : Value) (H : AH) {r : Value × AH} (h : bits_With x0 x1 H = some r) : FF n_bits_With [x0, x1] H = some r :=
  aF_of_body Tryd.func18 rfl rfl ((show cBody PP GG FF (Tryd.f18).ntmps (Tryd.f18).results.toList (bodyOf Tryd.f18) [x0, x1] H = bits_With x0 x1 H by kernel_rfl).trans h)

-- FUNCTION bits_Without
noncomputable def f19_b (p : List Nat) : Code := Code.sub (bodyOf Tryd.f19) p
noncomputable def f19_r (A : List Value) (H : AH) : OV := cFin PP (Tryd.f19).results.toList A H
noncomputable def f19_x (_ : Nat) (_ : List Value) (_ : AH) : OV := none
theorem f19_r_d : Resp 495 f19_r := resp_fin (by kernel_rfl)
theorem f19_x_d (D : Nat) : ∀ i, Resp D (f19_x i) := fun _ => resp_none
noncomputable def bits_Without (x0 x1 : Value) (H : AH) : OV := cCode PP GG FF (f19_b []) [x0, x1, u, u, u, u, u, u, u] H f19_r f19_x f19_r
theorem bits_Without_eq (x0 x1 : Value) (H : AH) : bits_Without x0 x1 H =
  (FF n_bits_mask [x1] H).bind fun r0 =>
  (pBin .other .andNot x0 r0.1).bind fun v1 =>
  some (v1, r0.2) :=
  (by kernel_rfl)
theorem bits_Without_of (x0 x1 : Value) (H : AH) {r : Value × AH} (h : bits_Without x0 x1 H = some r) : FF n_bits_Without [x0, x1] H = some r :=
  aF_of_body Tryd.func19 rfl rfl ((show cBody PP GG FF (Tryd.f19).ntmps (Tryd.f19).results.toList (bodyOf Tryd.f19) [x0, x1] H = bits_Without x0 x1 H by kernel_rfl).trans h)

-- FUNCTION bits_Has
noncomputable def f20_b (p : List Nat) : Code := Code.sub (bodyOf Tryd.f20) p
noncomputable def f20_r (A : List Value) (H : AH) : OV := cFin PP (Tryd.f20).results.toList A H
noncomputable def f20_x (_ : Nat) (_ : List Value) (_ : AH) : OV := none
theorem f20_r_d : Resp 1007 f20_r := resp_fin (by kernel_rfl)
theorem f20_x_d (D : Nat) : ∀ i, Resp D (f20_x i) := fun _ => resp_none
noncomputable def bits_Has (x0 x1 : Value) (H : AH) : OV := cCode PP GG FF (f20_b []) [x0, x1, u, u, u, u, u, u, u, u] H f20_r f20_x f20_r
theorem bits_Has_eq (x0 x1 : Value) (H : AH) : bits_Has x0 x1 H =
  (FF n_bits_mask [x1] H).bind fun r0 =>
  (pBin .other .and x0 r0.1).bind fun v1 =>
  (pBin .other .neq v1 (Value.int .u64 0)).bind fun v2 =>
  some (v2, r0.2) :=
  (by kernel_rfl)
theorem bits_Has_of (x0 x1 : Value) (H : AH) {r : Value × AH} (h : bits_Has x0 x1 H = some r) : FF n_bits_Has [x0, x1] H = some r :=
  aF_of_body Tryd.func20 rfl rfl ((show cBody PP GG FF (Tryd.f20).ntmps (Tryd.f20).results.toList (bodyOf Tryd.f20) [x0, x1] H = bits_Has x0 x1 H by kernel_rfl).trans h)

-- FUNCTION weighbridgehelp_Sameint
noncomputable def f21_b (p : List Nat) : Code := Code.sub (bodyOf Tryd.f21) p
noncomputable def f21_r (A : List Value) (H : AH) : OV := cFin PP (Tryd.f21).results.toList A H
noncomputable def f21_x (_ : Nat) (_ : List Value) (_ : AH) : OV := none
noncomputable def f21_n0 (A : List Value) (H : AH) : OV := cCode PP GG FF (f21_b [1, 1]) A H f21_r f21_x f21_r
noncomputable def f21_m0 (A : List Value) (H : AH) : OV := f21_n0 (clear 1073741752 A) H
noncomputable def weighbridgehelp_Sameint_k0 (x0 x1 x2 x6 : Value) (H : AH) : OV := f21_n0 [x0, x1, x2, u, u, u, x6, u, u, u, u, u, u, u, u, u, u, u, u, u, u, u, u, u, u, u, u, u, u, u] H
noncomputable def f21_n1 (A : List Value) (H : AH) : OV := cCode PP GG FF (f21_b [1, 1, 1]) A H f21_r f21_x f21_r
noncomputable def f21_m1 (A : List Value) (H : AH) : OV := f21_n1 (clear 1073741759 A) H
noncomputable def weighbridgehelp_Sameint_k1 (x6 : Value) (H : AH) : OV := f21_n1 [u, u, u, u, u, u, x6, u, u, u, u, u, u, u, u, u, u, u, u, u, u, u, u, u, u, u, u, u, u, u] H
noncomputable def f21_n2 (A : List Value) (H : AH) : OV := cCode PP GG FF (f21_b [1, 1, 0, 1]) A H f21_m1 f21_x f21_r
noncomputable def f21_m2 (A : List Value) (H : AH) : OV := f21_n2 (clear 1073741624 A) H
noncomputable def weighbridgehelp_Sameint_k2 (x0 x1 x2 x6 x7 : Value) (H : AH) : OV := f21_n2 [x0, x1, x2, u, u, u, x6, x7, u, u, u, u, u, u, u, u, u, u, u, u, u, u, u, u, u, u, u, u, u, u] H
noncomputable def f21_x3 (i : Nat) (A : List Value) (H : AH) : OV := if i = 0 then f21_m1 A H else f21_x i A H
noncomputable def f21_y3 (i : Nat) (A : List Value) (H : AH) : OV := f21_x3 i (clear 1073741759 A) H
noncomputable def f21_n4 (A : List Value) (H : AH) : OV := cLoop PP GG FF (f21_b [1, 1, 0, 1, 4, 5]) A H f21_y3 f21_r
noncomputable def f21_m4 (A : List Value) (H : AH) : OV := f21_n4 (clear 1073741624 A) H
-- a loop
noncomputable def weighbridgehelp_Sameint_k4 (x0 x1 x2 x6 x7 : Value) (H : AH) : OV := f21_n4 [x0, x1, x2, u, u, u, x6, x7, u, u, u, u, u, u, u, u, u, u, u, u, u, u, u, u, u, u, u, u, u, u] H
noncomputable def f21_n5 (A : List Value) (H : AH) : OV := cCode PP GG FF (f21_b [1, 1, 0, 1, 4, 5, 1]) A H f21_m4 f21_y3 f21_r
noncomputable def f21_m5 (A : List Value) (H : AH) : OV := f21_n5 (clear 1073741624 A) H
noncomputable def weighbridgehelp_Sameint_k5 (x0 x1 x2 x6 x7 : Value) (H : AH) : OV := f21_n5 [x0, x1, x2, u, u, u, x6, x7, u, u, u, u, u, u, u, u, u, u, u, u, u, u, u, u, u, u, u, u, u, u] H
noncomputable def f21_n6 (A : List Value) (H : AH) : OV := cCode PP GG FF (f21_b [1, 1, 0, 1, 4, 5, 1, 1]) A H f21_m4 f21_y3 f21_r
noncomputable def f21_m6 (A : List Value) (H : AH) : OV := f21_n6 (clear 1073741624 A) H
noncomputable def weighbridgehelp_Sameint_k6 (x0 x1 x2 x6 x7 : Value) (H : AH) : OV := f21_n6 [x0, x1, x2, u, u, u, x6, x7, u, u, u, u, u, u, u, u, u, u, u, u, u, u, u, u, u, u, u, u, u, u] H
noncomputable def f21_x8 (i : Nat) (A : List Value) (H : AH) : OV := if i = 1 then f21_m6 A H else f21_y3 i A H
noncomputable def f21_y8 (i : Nat) (A : List Value) (H : AH) : OV := f21_x8 i (clear 1073741624 A) H
noncomputable def weighbridgehelp_Sameint_e3_0 (x6 : Value) (H : AH) : OV := f21_x3 0 [u, u, u, u, u, u, x6, u, u, u, u, u, u, u, u, u, u, u, u, u, u, u, u, u, u, u, u, u, u, u] H
theorem f21_r_d : Resp 1073741759 f21_r := resp_fin (by kernel_rfl)
theorem f21_x_d (D : Nat) : ∀ i, Resp D (f21_x i) := fun _ => resp_none
theorem f21_n0_d : Resp 1073741752 f21_n0 := resp_code (P := PP) (G := GG) (call := FF) (c := (f21_b [1, 1])) (D := 1073741752) (D' := 1073741759) (kn := f21_r) (kx := f21_x) (kr := f21_r) (by kernel_rfl) (f21_r_d.le (by kernel_rfl)) (f21_x_d _) (f21_r_d.le (by kernel_rfl))
theorem f21_m0_d : Resp 1073741752 f21_m0 := resp_clear f21_n0_d
theorem f21_n1_d : Resp 1073741759 f21_n1 := resp_code (P := PP) (G := GG) (call := FF) (c := (f21_b [1, 1, 1])) (D := 1073741759) (D' := 1073741759) (kn := f21_r) (kx := f21_x) (kr := f21_r) (by kernel_rfl) (f21_r_d.le (by kernel_rfl)) (f21_x_d _) (f21_r_d.le (by kernel_rfl))
theorem f21_m1_d : Resp 1073741759 f21_m1 := resp_clear f21_n1_d
theorem f21_n2_d : Resp 1073741624 f21_n2 := resp_code (P := PP) (G := GG) (call := FF) (c := (f21_b [1, 1, 0, 1])) (D := 1073741624) (D' := 1073741759) (kn := f21_m1) (kx := f21_x) (kr := f21_r) (by kernel_rfl) (f21_m1_d.le (by kernel_rfl)) (f21_x_d _) (f21_r_d.le (by kernel_rfl))
theorem f21_m2_d : Resp 1073741624 f21_m2 := resp_clear f21_n2_d
theorem f21_x3_d : ∀ i, Resp 1073741759 (f21_x3 i) := resp_block (kn := f21_m1) (kx := f21_x) (f21_m1_d.le (by kernel_rfl)) (f21_x_d _)
theorem f21_y3_d : ∀ i, Resp 1073741759 (f21_y3 i) := fun i => resp_clear (f21_x3_d i)
theorem f21_n4_d : Resp 1073741624 f21_n4 := resp_loop (P := PP) (G := GG) (call := FF) (c := (f21_b [1, 1, 0, 1, 4, 5])) (D := 1073741624) (kx := f21_y3) (kr := f21_r) (by kernel_rfl) (fun i => (f21_y3_d i).le (by kernel_rfl)) (f21_r_d.le (by kernel_rfl))
theorem f21_m4_d : Resp 1073741624 f21_m4 := resp_clear f21_n4_d
theorem f21_n5_d : Resp 1073741624 f21_n5 := resp_code (P := PP) (G := GG) (call := FF) (c := (f21_b [1, 1, 0, 1, 4, 5, 1])) (D := 1073741624) (D' := 1073741624) (kn := f21_m4) (kx := f21_y3) (kr := f21_r) (by kernel_rfl) (f21_m4_d.le (by kernel_rfl)) (fun i => (f21_y3_d i).le (by kernel_rfl)) (f21_r_d.le (by kernel_rfl))
theorem f21_m5_d : Resp 1073741624 f21_m5 := resp_clear f21_n5_d
theorem f21_n6_d : Resp 1073741624 f21_n6 := resp_code (P := PP) (G := GG) (call := FF) (c := (f21_b [1, 1, 0, 1, 4, 5, 1, 1])) (D := 1073741624) (D' := 1073741624) (kn := f21_m4) (kx := f21_y3) (kr := f21_r) (by kernel_rfl) (f21_m4_d.le (by kernel_rfl)) (fun i => (f21_y3_d i).le (by kernel_rfl)) (f21_r_d.le (by kernel_rfl))
theorem f21_m6_d : Resp 1073741624 f21_m6 := resp_clear f21_n6_d
theorem f21_x8_d : ∀ i, Resp 1073741624 (f21_x8 i) := resp_block (kn := f21_m6) (kx := f21_y3) (f21_m6_d.le (by kernel_rfl)) (fun i => (f21_y3_d i).le (by kernel_rfl))
theorem f21_y8_d : ∀ i, Resp 1073741624 (f21_y8 i) := fun i => resp_clear (f21_x8_d i)
theorem weighbridgehelp_Sameint_k1_eq (x6 : Value) (H : AH) : weighbridgehelp_Sameint_k1 x6 H =
  some ((Value.bool true), H) :=
  (by kernel_rfl)
theorem weighbridgehelp_Sameint_k6_eq (x0 x1 x2 x6 x7 : Value) (H : AH) : weighbridgehelp_Sameint_k6 x0 x1 x2 x6 x7 H =
  (pBin .other .add x7 (Value.int .i64 1)).bind fun v7 =>
  weighbridgehelp_Sameint_k4 x0 x1 x2 x6 v7 H :=
  (by kernel_rfl)
theorem weighbridgehelp_Sameint_k5_eq (x0 x1 x2 x6 x7 : Value) (H : AH) : weighbridgehelp_Sameint_k5 x0 x1 x2 x6 x7 H =
  (pIdx 1 x0 x7).bind fun v9 =>
  (pLd1 v9 H).bind fun v10 =>
  (pIdx 1 x1 x7).bind fun v11 =>
  (pLd1 v11 H).bind fun v12 =>
  (pCallee x2 [v10, v12]).bind fun c => (FF c.1 c.2 H).bind fun r13 =>
  (pUn .not r13.1).bind fun v14 =>
  condK v14
  (some ((Value.bool false), r13.2))
  (weighbridgehelp_Sameint_k6 x0 x1 x2 x6 x7 r13.2) :=
  (pre_to (P := PP) (G := GG) (call := FF) (A := [x0, x1, x2, u, u, u, x6, x7, u, u, u, u, u, u, u, u, u, u, u, u, u, u, u, u, u, u, u, u, u, u]) (H := H) (kx := f21_y3) (kr := f21_r) (kn := f21_m4) (c := (f21_b [1, 1, 0, 1, 4, 5, 1])) (k := 0) (D := 1073741624) (n := f21_n6) (by kernel_rfl) (by kernel_rfl) f21_n6_d (block_to (P := PP) (G := GG) (call := FF) (A := [x0, x1, x2, u, u, u, x6, x7, u, u, u, u, u, u, u, u, u, u, u, u, u, u, u, u, u, u, u, u, u, u]) (H := H) (kx := f21_y3) (kr := f21_r) (kn := f21_m6) (c := (f21_b [1, 1, 0, 1, 4, 5, 1, 0])) (x := (f21_b [1, 1, 0, 1, 4, 5, 1, 0, 4])) (id := 1) (D := 1073741624) (n := f21_x8) (by kernel_rfl) (by kernel_rfl) (by kernel_rfl) f21_x8_d (by kernel_rfl)))
theorem weighbridgehelp_Sameint_e3_0_eq (x6 : Value) (H : AH) : weighbridgehelp_Sameint_e3_0 x6 H = weighbridgehelp_Sameint_k1 x6 H :=
  here_to (id := 0) (n := f21_x3) (kn := f21_m1) (kx := f21_x) (A := [u, u, u, u, u, u, x6, u, u, u, u, u, u, u, u, u, u, u, u, u, u, u, u, u, u, u, u, u, u, u]) (H := H) (by kernel_rfl) (by kernel_rfl) (by kernel_rfl)
theorem weighbridgehelp_Sameint_k4_eq (x0 x1 x2 x6 x7 : Value) (H : AH) : weighbridgehelp_Sameint_k4 x0 x1 x2 x6 x7 H =
  lenK x0 fun v15 =>
  (pBin .other .lss x7 v15).bind fun v16 =>
  condK v16
  (weighbridgehelp_Sameint_k5 x0 x1 x2 x6 x7 H)
  (weighbridgehelp_Sameint_e3_0 x6 H) :=
  loop_to (P := PP) (G := GG) (call := FF) (A := [x0, x1, x2, u, u, u, x6, x7, u, u, u, u, u, u, u, u, u, u, u, u, u, u, u, u, u, u, u, u, u, u]) (H := H) (kx := f21_y3) (kr := f21_r) (x := (f21_b [1, 1, 0, 1, 4, 5])) (D := 1073741624) (n := f21_n4) (by kernel_rfl) (by kernel_rfl) f21_n4_d (pre_to (P := PP) (G := GG) (call := FF) (A := [x0, x1, x2, u, u, u, x6, x7, u, u, u, u, u, u, u, u, u, u, u, u, u, u, u, u, u, u, u, u, u, u]) (H := H) (kx := f21_y3) (kr := f21_r) (kn := f21_m4) (c := (f21_b [1, 1, 0, 1, 4, 5])) (k := 0) (D := 1073741624) (n := f21_n5) (by kernel_rfl) (by kernel_rfl) f21_n5_d (by kernel_rfl))
theorem weighbridgehelp_Sameint_k2_eq (x0 x1 x2 x6 x7 : Value) (H : AH) : weighbridgehelp_Sameint_k2 x0 x1 x2 x6 x7 H =
  weighbridgehelp_Sameint_k4 x0 x1 x2 x6 x7 H :=
  (block_to (P := PP) (G := GG) (call := FF) (A := [x0, x1, x2, u, u, u, x6, x7, u, u, u, u, u, u, u, u, u, u, u, u, u, u, u, u, u, u, u, u, u, u]) (H := H) (kx := f21_x) (kr := f21_r) (kn := f21_m1) (c := (f21_b [1, 1, 0, 1])) (x := (f21_b [1, 1, 0, 1, 4])) (id := 0) (D := 1073741759) (n := f21_x3) (by kernel_rfl) (by kernel_rfl) (by kernel_rfl) f21_x3_d (loop_in (P := PP) (G := GG) (call := FF) (A := [x0, x1, x2, u, u, u, x6, x7, u, u, u, u, u, u, u, u, u, u, u, u, u, u, u, u, u, u, u, u, u, u]) (H := H) (kx := f21_y3) (kr := f21_r) (kn := f21_m1) (c := (f21_b [1, 1, 0, 1, 4])) (x := (f21_b [1, 1, 0, 1, 4, 5])) (D := 1073741624) (n := f21_n4) (by kernel_rfl) (by kernel_rfl) (by kernel_rfl) f21_n4_d (by kernel_rfl)))
theorem weighbridgehelp_Sameint_k0_eq (x0 x1 x2 x6 : Value) (H : AH) : weighbridgehelp_Sameint_k0 x0 x1 x2 x6 H =
  weighbridgehelp_Sameint_k2 x0 x1 x2 x6 (Value.int .i64 0) H :=
  (pre_to (P := PP) (G := GG) (call := FF) (A := [x0, x1, x2, u, u, u, x6, u, u, u, u, u, u, u, u, u, u, u, u, u, u, u, u, u, u, u, u, u, u, u]) (H := H) (kx := f21_x) (kr := f21_r) (kn := f21_r) (c := (f21_b [1, 1])) (k := 0) (D := 1073741759) (n := f21_n1) (by kernel_rfl) (by kernel_rfl) f21_n1_d (pre_to (P := PP) (G := GG) (call := FF) (A := [x0, x1, x2, u, u, u, x6, u, u, u, u, u, u, u, u, u, u, u, u, u, u, u, u, u, u, u, u, u, u, u]) (H := H) (kx := f21_x) (kr := f21_r) (kn := f21_m1) (c := (f21_b [1, 1, 0])) (k := 0) (D := 1073741624) (n := f21_n2) (by kernel_rfl) (by kernel_rfl) f21_n2_d (by kernel_rfl)))
noncomputable def weighbridgehelp_Sameint (x0 x1 x2 : Value) (H : AH) : OV := cCode PP GG FF (f21_b []) [x0, x1, x2, u, u, u, u, u, u, u, u, u, u, u, u, u, u, u, u, u, u, u, u, u, u, u, u, u, u, u] H f21_r f21_x f21_r
theorem weighbridgehelp_Sameint_eq (x0 x1 x2 : Value) (H : AH) : weighbridgehelp_Sameint x0 x1 x2 H =
  lenK x0 fun v17 =>
  lenK x1 fun v18 =>
  (pBin .other .neq v17 v18).bind fun v19 =>
  condK v19
  (some ((Value.bool false), H))
  (weighbridgehelp_Sameint_k0 x0 x1 x2 (Value.bool false) H) :=
  (pre_to (P := PP) (G := GG) (call := FF) (A := [x0, x1, x2, u, u, u, u, u, u, u, u, u, u, u, u, u, u, u, u, u, u, u, u, u, u, u, u, u, u, u]) (H := H) (kx := f21_x) (kr := f21_r) (kn := f21_r) (c := (f21_b [])) (k := 1) (D := 1073741752) (n := f21_n0) (by kernel_rfl) (by kernel_rfl) f21_n0_d (by kernel_rfl))
theorem weighbridgehelp_Sameint_of (x0 x1 x2 : Value) (H : AH) {r : Value × AH} (h : weighbridgehelp_Sameint x0 x1 x2 H = some r) : FF n_weighbridgehelp_Sameint [x0, x1, x2] H = some r :=
  aF_of_body Tryd.func21 rfl rfl ((show cBody PP GG FF (Tryd.f21).ntmps (Tryd.f21).results.toList (bodyOf Tryd.f21) [x0, x1, x2] H = weighbridgehelp_Sameint x0 x1 x2 H by kernel_rfl).trans h)

-- FUNCTION weighbridgehelp_Plainint_1
noncomputable def f22_b (p : List Nat) : Code := Code.sub (bodyOf Tryd.f22) p
noncomputable def f22_r (A : List Value) (H : AH) : OV := cFin PP (Tryd.f22).results.toList A H
noncomputable def f22_x (_ : Nat) (_ : List Value) (_ : AH) : OV := none
theorem f22_r_d : Resp 239 f22_r := resp_fin (by kernel_rfl)
theorem f22_x_d (D : Nat) : ∀ i, Resp D (f22_x i) := fun _ => resp_none
noncomputable def weighbridgehelp_Plainint_1 (x0 x1 : Value) (H : AH) : OV := cCode PP GG FF (f22_b []) [x0, x1, u, u, u, u, u, u] H f22_r f22_x f22_r
theorem weighbridgehelp_Plainint_1_eq (x0 x1 : Value) (H : AH) : weighbridgehelp_Plainint_1 x0 x1 H =
  (pBin .other .eql x0 x1).bind fun v0 =>
  some (v0, H) :=
  (by kernel_rfl)
theorem weighbridgehelp_Plainint_1_of (x0 x1 : Value) (H : AH) {r : Value × AH} (h : weighbridgehelp_Plainint_1 x0 x1 H = some r) : FF n_weighbridgehelp_Plainint_1 [x0, x1] H = some r :=
  aF_of_body Tryd.func22 rfl rfl ((show cBody PP GG FF (Tryd.f22).ntmps (Tryd.f22).results.toList (bodyOf Tryd.f22) [x0, x1] H = weighbridgehelp_Plainint_1 x0 x1 H by kernel_rfl).trans h)

-- FUNCTION math_bits_OnesCount64
noncomputable def f23_b (p : List Nat) : Code := Code.sub (bodyOf Tryd.f23) p
noncomputable def f23_r (A : List Value) (H : AH) : OV := cFin PP (Tryd.f23).results.toList A H
noncomputable def f23_x (_ : Nat) (_ : List Value) (_ : AH) : OV := none
theorem f23_r_d : Resp 34359738363 f23_r := resp_fin (by kernel_rfl)
theorem f23_x_d (D : Nat) : ∀ i, Resp D (f23_x i) := fun _ => resp_none
noncomputable def math_bits_OnesCount64 (x0 : Value) (H : AH) : OV := cCode PP GG FF (f23_b []) [x0, u, u, u, u, u, u, u, u, u, u, u, u, u, u, u, u, u, u, u, u, u, u, u, u, u, u, u, u, u, u, u, u, u, u] H f23_r f23_x f23_r
theorem math_bits_OnesCount64_eq (x0 : Value) (H : AH) : math_bits_OnesCount64 x0 H =
  (pBin .other .shr x0 (Value.int .u64 1)).bind fun v0 =>
  (pBin .other .and v0 (Value.int .u64 6148914691236517205)).bind fun v1 =>
  (pBin .other .and x0 (Value.int .u64 6148914691236517205)).bind fun v2 =>
  (pBin .other .add v1 v2).bind fun v3 =>
  (pBin .other .shr v3 (Value.int .u64 2)).bind fun v4 =>
  (pBin .other .and v4 (Value.int .u64 3689348814741910323)).bind fun v5 =>
  (pBin .other .and v3 (Value.int .u64 3689348814741910323)).bind fun v6 =>
  (pBin .other .add v5 v6).bind fun v7 =>
  (pBin .other .shr v7 (Value.int .u64 4)).bind fun v8 =>
  (pBin .other .add v8 v7).bind fun v9 =>
  (pBin .other .and v9 (Value.int .u64 1085102592571150095)).bind fun v10 =>
  (pBin .other .shr v10 (Value.int .u64 8)).bind fun v11 =>
  (pBin .other .add v10 v11).bind fun v12 =>
  (pBin .other .shr v12 (Value.int .u64 16)).bind fun v13 =>
  (pBin .other .add v12 v13).bind fun v14 =>
  (pBin .other .shr v14 (Value.int .u64 32)).bind fun v15 =>
  (pBin .other .add v14 v15).bind fun v16 =>
  (pConv (some .i64) v16).bind fun v17 =>
  (pBin .other .and v17 (Value.int .i64 127)).bind fun v18 =>
  some (v18, H) :=
  (by kernel_rfl)
theorem math_bits_OnesCount64_of (x0 : Value) (H : AH) {r : Value × AH} (h : math_bits_OnesCount64 x0 H = some r) : FF n_math_bits_OnesCount64 [x0] H = some r :=
  aF_of_body Tryd.func23 rfl rfl ((show cBody PP GG FF (Tryd.f23).ntmps (Tryd.f23).results.toList (bodyOf Tryd.f23) [x0] H = math_bits_OnesCount64 x0 H by kernel_rfl).trans h)

-- FUNCTION math_bits_TrailingZeros64
noncomputable def f24_b (p : List Nat) : Code := Code.sub (bodyOf Tryd.f24) p
noncomputable def f24_r (A : List Value) (H : AH) : OV := cFin PP (Tryd.f24).results.toList A H
noncomputable def f24_x (_ : Nat) (_ : List Value) (_ : AH) : OV := none
theorem f24_r_d : Resp 16379 f24_r := resp_fin (by kernel_rfl)
theorem f24_x_d (D : Nat) : ∀ i, Resp D (f24_x i) := fun _ => resp_none
noncomputable def math_bits_TrailingZeros64 (x0 : Value) (H : AH) : OV := cCode PP GG FF (f24_b []) [x0, u, u, u, u, u, u, u, u, u, u, u, u, u] H f24_r f24_x f24_r
theorem math_bits_TrailingZeros64_eq (x0 : Value) (H : AH) : math_bits_TrailingZeros64 x0 H =
  (pBin .other .eql x0 (Value.int .u64 0)).bind fun v0 =>
  condK v0
  (some ((Value.int .i64 64), H))
  ((pUn .neg x0).bind fun v1 =>
  (pBin .other .and x0 v1).bind fun v2 =>
  (pBin .other .mul v2 (Value.int .u64 285870213051353865)).bind fun v3 =>
  (pBin .other .shr v3 (Value.int .u64 58)).bind fun v4 =>
  (pIdxA 64 1 (Value.pointer (some ⟨0, 0, none⟩)) v4).bind fun v5 =>
  (pLd1 v5 H).bind fun v6 =>
  (pConv (some .i64) v6).bind fun v7 =>
  some (v7, H)) :=
  (by kernel_rfl)
theorem math_bits_TrailingZeros64_of (x0 : Value) (H : AH) {r : Value × AH} (h : math_bits_TrailingZeros64 x0 H = some r) : FF n_math_bits_TrailingZeros64 [x0] H = some r :=
  aF_of_body Tryd.func24 rfl rfl ((show cBody PP GG FF (Tryd.f24).ntmps (Tryd.f24).results.toList (bodyOf Tryd.f24) [x0] H = math_bits_TrailingZeros64 x0 H by kernel_rfl).trans h)

-- FUNCTION math_bits_Len64
noncomputable def f25_b (p : List Nat) : Code := Code.sub (bodyOf Tryd.f25) p
noncomputable def f25_r (A : List Value) (H : AH) : OV := cFin PP (Tryd.f25).results.toList A H
noncomputable def f25_x (_ : Nat) (_ : List Value) (_ : AH) : OV := none
noncomputable def f25_n0 (A : List Value) (H : AH) : OV := cCode PP GG FF (f25_b [1]) A H f25_r f25_x f25_r
noncomputable def f25_m0 (A : List Value) (H : AH) : OV := f25_n0 (clear 33554426 A) H
noncomputable def math_bits_Len64_k0 (x0 x2 : Value) (H : AH) : OV := f25_n0 [x0, u, x2, u, u, u, u, u, u, u, u, u, u, u, u, u, u, u, u, u, u, u, u, u, u] H
noncomputable def f25_n1 (A : List Value) (H : AH) : OV := cCode PP GG FF (f25_b [1, 1]) A H f25_r f25_x f25_r
noncomputable def f25_m1 (A : List Value) (H : AH) : OV := f25_n1 (clear 33554426 A) H
noncomputable def math_bits_Len64_k1 (x0 x2 : Value) (H : AH) : OV := f25_n1 [x0, u, x2, u, u, u, u, u, u, u, u, u, u, u, u, u, u, u, u, u, u, u, u, u, u] H
noncomputable def f25_n2 (A : List Value) (H : AH) : OV := cCode PP GG FF (f25_b [1, 1, 1]) A H f25_r f25_x f25_r
noncomputable def f25_m2 (A : List Value) (H : AH) : OV := f25_n2 (clear 33554426 A) H
noncomputable def math_bits_Len64_k2 (x0 x2 : Value) (H : AH) : OV := f25_n2 [x0, u, x2, u, u, u, u, u, u, u, u, u, u, u, u, u, u, u, u, u, u, u, u, u, u] H
noncomputable def f25_n3 (A : List Value) (H : AH) : OV := cCode PP GG FF (f25_b [1, 1, 1, 1]) A H f25_r f25_x f25_r
noncomputable def f25_m3 (A : List Value) (H : AH) : OV := f25_n3 (clear 33554426 A) H
noncomputable def math_bits_Len64_k3 (x0 x2 : Value) (H : AH) : OV := f25_n3 [x0, u, x2, u, u, u, u, u, u, u, u, u, u, u, u, u, u, u, u, u, u, u, u, u, u] H
theorem f25_r_d : Resp 33554427 f25_r := resp_fin (by kernel_rfl)
theorem f25_x_d (D : Nat) : ∀ i, Resp D (f25_x i) := fun _ => resp_none
theorem f25_n0_d : Resp 33554426 f25_n0 := resp_code (P := PP) (G := GG) (call := FF) (c := (f25_b [1])) (D := 33554426) (D' := 33554427) (kn := f25_r) (kx := f25_x) (kr := f25_r) (by kernel_rfl) (f25_r_d.le (by kernel_rfl)) (f25_x_d _) (f25_r_d.le (by kernel_rfl))
theorem f25_m0_d : Resp 33554426 f25_m0 := resp_clear f25_n0_d
theorem f25_n1_d : Resp 33554426 f25_n1 := resp_code (P := PP) (G := GG) (call := FF) (c := (f25_b [1, 1])) (D := 33554426) (D' := 33554427) (kn := f25_r) (kx := f25_x) (kr := f25_r) (by kernel_rfl) (f25_r_d.le (by kernel_rfl)) (f25_x_d _) (f25_r_d.le (by kernel_rfl))
theorem f25_m1_d : Resp 33554426 f25_m1 := resp_clear f25_n1_d
theorem f25_n2_d : Resp 33554426 f25_n2 := resp_code (P := PP) (G := GG) (call := FF) (c := (f25_b [1, 1, 1])) (D := 33554426) (D' := 33554427) (kn := f25_r) (kx := f25_x) (kr := f25_r) (by kernel_rfl) (f25_r_d.le (by kernel_rfl)) (f25_x_d _) (f25_r_d.le (by kernel_rfl))
theorem f25_m2_d : Resp 33554426 f25_m2 := resp_clear f25_n2_d
theorem f25_n3_d : Resp 33554426 f25_n3 := resp_code (P := PP) (G := GG) (call := FF) (c := (f25_b [1, 1, 1, 1])) (D := 33554426) (D' := 33554427) (kn := f25_r) (kx := f25_x) (kr := f25_r) (by kernel_rfl) (f25_r_d.le (by kernel_rfl)) (f25_x_d _) (f25_r_d.le (by kernel_rfl))
theorem f25_m3_d : Resp 33554426 f25_m3 := resp_clear f25_n3_d
theorem math_bits_Len64_k3_eq (x0 x2 : Value) (H : AH) : math_bits_Len64_k3 x0 x2 H =
  (pConv (some .u8) x0).bind fun v4 =>
  (pIndexS (Value.string ⟨#[0, 1, 2, 2, 3, 3, 3, 3, 4, 4, 4, 4, 4, 4, 4, 4, 5, 5, 5, 5, 5, 5, 5, 5, 5, 5, 5, 5, 5, 5, 5, 5, 6, 6, 6, 6, 6, 6, 6, 6, 6, 6, 6, 6, 6, 6, 6, 6, 6, 6, 6, 6, 6, 6, 6, 6, 6, 6, 6, 6, 6, 6, 6, 6, 7, 7, 7, 7, 7, 7, 7, 7, 7, 7, 7, 7, 7, 7, 7, 7, 7, 7, 7, 7, 7, 7, 7, 7, 7, 7, 7, 7, 7, 7, 7, 7, 7, 7, 7, 7, 7, 7, 7, 7, 7, 7, 7, 7, 7, 7, 7, 7, 7, 7, 7, 7, 7, 7, 7, 7, 7, 7, 7, 7, 7, 7, 7, 7, 8, 8, 8, 8, 8, 8, 8, 8, 8, 8, 8, 8, 8, 8, 8, 8, 8, 8, 8, 8, 8, 8, 8, 8, 8, 8, 8, 8, 8, 8, 8, 8, 8, 8, 8, 8, 8, 8, 8, 8, 8, 8, 8, 8, 8, 8, 8, 8, 8, 8, 8, 8, 8, 8, 8, 8, 8, 8, 8, 8, 8, 8, 8, 8, 8, 8, 8, 8, 8, 8, 8, 8, 8, 8, 8, 8, 8, 8, 8, 8, 8, 8, 8, 8, 8, 8, 8, 8, 8, 8, 8, 8, 8, 8, 8, 8, 8, 8, 8, 8, 8, 8, 8, 8, 8, 8, 8, 8, 8, 8, 8, 8, 8, 8, 8, 8, 8, 8, 8, 8, 8, 8, 8, 8, 8, 8, 8, 8]⟩) v4).bind fun v5 =>
  (pConv (some .i64) v5).bind fun v6 =>
  (pBin .other .add x2 v6).bind fun v7 =>
  some (v7, H) :=
  (by kernel_rfl)
theorem math_bits_Len64_k2_eq (x0 x2 : Value) (H : AH) : math_bits_Len64_k2 x0 x2 H =
  (pBin .other .geq x0 (Value.int .u64 256)).bind fun v8 =>
  condK v8
  ((pBin .other .shr x0 (Value.int .u64 8)).bind fun v9 =>
  (pBin .other .add x2 (Value.int .i64 8)).bind fun v10 =>
  math_bits_Len64_k3 v9 v10 H)
  (math_bits_Len64_k3 x0 x2 H) :=
  (pre_to (P := PP) (G := GG) (call := FF) (A := [x0, u, x2, u, u, u, u, u, u, u, u, u, u, u, u, u, u, u, u, u, u, u, u, u, u]) (H := H) (kx := f25_x) (kr := f25_r) (kn := f25_r) (c := (f25_b [1, 1, 1])) (k := 0) (D := 33554426) (n := f25_n3) (by kernel_rfl) (by kernel_rfl) f25_n3_d (by kernel_rfl))
theorem math_bits_Len64_k1_eq (x0 x2 : Value) (H : AH) : math_bits_Len64_k1 x0 x2 H =
  (pBin .other .geq x0 (Value.int .u64 65536)).bind fun v11 =>
  condK v11
  ((pBin .other .shr x0 (Value.int .u64 16)).bind fun v12 =>
  (pBin .other .add x2 (Value.int .i64 16)).bind fun v13 =>
  math_bits_Len64_k2 v12 v13 H)
  (math_bits_Len64_k2 x0 x2 H) :=
  (pre_to (P := PP) (G := GG) (call := FF) (A := [x0, u, x2, u, u, u, u, u, u, u, u, u, u, u, u, u, u, u, u, u, u, u, u, u, u]) (H := H) (kx := f25_x) (kr := f25_r) (kn := f25_r) (c := (f25_b [1, 1])) (k := 0) (D := 33554426) (n := f25_n2) (by kernel_rfl) (by kernel_rfl) f25_n2_d (by kernel_rfl))
theorem math_bits_Len64_k0_eq (x0 x2 : Value) (H : AH) : math_bits_Len64_k0 x0 x2 H =
  (pBin .other .geq x0 (Value.int .u64 4294967296)).bind fun v14 =>
  condK v14
  ((pBin .other .shr x0 (Value.int .u64 32)).bind fun v15 =>
  math_bits_Len64_k1 v15 (Value.int .i64 32) H)
  (math_bits_Len64_k1 x0 x2 H) :=
  (pre_to (P := PP) (G := GG) (call := FF) (A := [x0, u, x2, u, u, u, u, u, u, u, u, u, u, u, u, u, u, u, u, u, u, u, u, u, u]) (H := H) (kx := f25_x) (kr := f25_r) (kn := f25_r) (c := (f25_b [1])) (k := 0) (D := 33554426) (n := f25_n1) (by kernel_rfl) (by kernel_rfl) f25_n1_d (by kernel_rfl))
noncomputable def math_bits_Len64 (x0 : Value) (H : AH) : OV := cCode PP GG FF (f25_b []) [x0, u, u, u, u, u, u, u, u, u, u, u, u, u, u, u, u, u, u, u, u, u, u, u, u] H f25_r f25_x f25_r
theorem math_bits_Len64_eq (x0 : Value) (H : AH) : math_bits_Len64 x0 H =
  math_bits_Len64_k0 x0 (Value.int .i64 0) H :=
  (pre_to (P := PP) (G := GG) (call := FF) (A := [x0, u, u, u, u, u, u, u, u, u, u, u, u, u, u, u, u, u, u, u, u, u, u, u, u]) (H := H) (kx := f25_x) (kr := f25_r) (kn := f25_r) (c := (f25_b [])) (k := 0) (D := 33554426) (n := f25_n0) (by kernel_rfl) (by kernel_rfl) f25_n0_d (by kernel_rfl))
theorem math_bits_Len64_of (x0 : Value) (H : AH) {r : Value × AH} (h : math_bits_Len64 x0 H = some r) : FF n_math_bits_Len64 [x0] H = some r :=
  aF_of_body Tryd.func25 rfl rfl ((show cBody PP GG FF (Tryd.f25).ntmps (Tryd.f25).results.toList (bodyOf Tryd.f25) [x0] H = math_bits_Len64 x0 H by kernel_rfl).trans h)

-- FUNCTION bits_mask
noncomputable def f26_b (p : List Nat) : Code := Code.sub (bodyOf Tryd.f26) p
noncomputable def f26_r (A : List Value) (H : AH) : OV := cFin PP (Tryd.f26).results.toList A H
noncomputable def f26_x (_ : Nat) (_ : List Value) (_ : AH) : OV := none
theorem f26_r_d : Resp 2043 f26_r := resp_fin (by kernel_rfl)
theorem f26_x_d (D : Nat) : ∀ i, Resp D (f26_x i) := fun _ => resp_none
noncomputable def bits_mask (x0 : Value) (H : AH) : OV := cCode PP GG FF (f26_b []) [x0, u, u, u, u, u, u, u, u, u, u] H f26_r f26_x f26_r
theorem bits_mask_eq (x0 : Value) (H : AH) : bits_mask x0 H =
  (pBin .other .lss x0 (Value.int .i64 0)).bind fun v0 =>
  (onK (yv v0) false (some x0) (some undef)).bind fun v1 =>
  (onK (yv v0) false ((pBin .other .geq v1 (Value.int .i64 64)).bind some) (some undef)).bind fun v2 =>
  (pPick v0 (Value.bool true) v2).bind fun v3 =>
  condK v3
  (some ((Value.int .u64 0), H))
  ((pBin .other .shl (Value.int .u64 1) x0).bind fun v4 =>
  some (v4, H)) :=
  (by kernel_rfl)
theorem bits_mask_of (x0 : Value) (H : AH) {r : Value × AH} (h : bits_mask x0 H = some r) : FF n_bits_mask [x0] H = some r :=
  aF_of_body Tryd.func26 rfl rfl ((show cBody PP GG FF (Tryd.f26).ntmps (Tryd.f26).results.toList (bodyOf Tryd.f26) [x0] H = bits_mask x0 H by kernel_rfl).trans h)

end Go.Proofs.YtofbcaheogfkeaaDoor.Gst
