/- THE FUNCTIONS OF THE PROGRAM AS PLAIN LEAN FUNCTIONS: printed by a program of this work (XPr), each checked by the kernel against the program's text. -/
import Derived.Test.YtodpbobjmkhcfaaGreatDoorKa
namespace Go.Proofs.YtodpbobjmkhcfaaGreatDoor.Gst
open Go Go.RowKit
set_option maxRecDepth 100000
set_option linter.unusedVariables false
set_option maxHeartbeats 1000000
-- FUNCTION r01_Inverse
theorem r01_Inverse_of (x0 x1 : Value) (H : AH) {r : Value × AH} (h : (
  (pBin .other .lss x0 (vw 1)).bind fun v0 =>
  (gV v0 false x0).bind fun v1 =>
  (gB v0 false (pBin .other .gtr v1 (vw 4611686018427387904))).bind fun v2 =>
  (pPick v0 (vb true) v2).bind fun v3 =>
  (gV v3 false x1).bind fun v4 =>
  (gB v3 false (pBin .other .lss v4 (vi 1))).bind fun v5 =>
  (pPick v3 (vb true) v5).bind fun v6 =>
  (gV v6 false x1).bind fun v7 =>
  (gB v6 false (pBin .other .gtr v7 (vi 65536))).bind fun v8 =>
  (pPick v6 (vb true) v8).bind fun v9 =>
  condK v9
  (some (Value.tuple #[(vw 0), (vb false)], H))
  ((pConv (some .u64) x1).bind fun v10 =>
  (pBin .other .quo x0 v10).bind fun v11 =>
  (pMax [v11, (vw 1)]).bind fun v12 =>
  some (Value.tuple #[v12, (vb true)], H))) = some r) : FF n_r01_Inverse [x0, x1] H = some r :=
  fo Tryz.func65 (by kernel_rfl) h

-- FUNCTION parts_Parts_Make
theorem parts_Parts_Make_of (x0 x1 x2 : Value) (H : AH) {r : Value × AH} (h : (
  newK (Value.cells x2).toList H fun v0 H1 =>
  ld [.n, .f 10] x0 H1 fun v2 =>
  lenK v2 fun v3 =>
  ld [.n, .f 0] x0 H1 fun v4 =>
  mkS [(0, 1), (1, 1), (2, 1)] [(vi 0), (vi 0), (vi 0)] [(0, (vi 13)), (1, v3)] fun v5 =>
  (FF n_mem_Mem_Write [v4, x1, v5] H1).bind fun r6 =>
  ad [.n, .f 10] x0 fun v7 =>
  (pLd1 v7 r6.2).bind fun v8 =>
  (pLdN 3 v0 r6.2).bind fun v9 =>
  ld [.n, .f 0] x0 r6.2 fun v10 =>
  ld [.f 1] v0 r6.2 fun v11 =>
  (FF n_ring_New [v10, v3, v11] r6.2).bind fun r12 =>
  eqK (pLd1 v7 r12.2) (pLd1 v7 r6.2) <|
  eqK (pLdN 3 v0 r12.2) (pLdN 3 v0 r6.2) <|
  mkS [(0, 3), (3, 1)] [(vi 0), (vi 0), (vw 0), (.pointer none)] [(0, v9), (1, r12.1)] fun v13 =>
  mkR 1 4 [(vi 0), (vi 0), (vw 0), (.pointer none)] [(0, v13)] r12.2 fun v14 H15 =>
  (pApp 4 32 v8 v14 H15).bind fun r16 =>
  st 1 [.n, .f 10] x0 r16.1 r16.2 fun H17 =>
  some (v3, H17)) = some r) : FF n_parts_Parts_Make [x0, x1, x2] H = some r :=
  fo Tryz.func66 (by kernel_rfl) h

-- FUNCTION r16_Parts_Make
theorem r16_Parts_Make_of (x0 x1 x2 : Value) (H : AH) {r : Value × AH} (h : (
  newK (Value.cells x2).toList H fun v0 H1 =>
  ld [.n, .f 10] x0 H1 fun v2 =>
  lenK v2 fun v3 =>
  ad [.n, .f 5] x0 fun v4 =>
  (pLd1 v4 H1).bind fun v5 =>
  (FF n_r16_Loc [(vi 13), v3, (vi 0)] H1).bind fun r6 =>
  eqK (pLd1 v4 r6.2) (pLd1 v4 H1) <|
  (FF n_r16_Mem_Log [v5, x1, (vi 6), r6.1] r6.2).bind fun r7 =>
  ld [.n, .f 10] x0 r7.2 fun v8 =>
  (pLdN 3 v0 r7.2).bind fun v9 =>
  mkR 1 3 [(vi 0), (vi 0), (vw 0)] [(0, v9)] r7.2 fun v10 H11 =>
  (pApp 3 24 v8 v10 H11).bind fun r12 =>
  ad [.n, .f 11] x0 fun v13 =>
  (pLd1 v13 r12.2).bind fun v14 =>
  eqK (pLd1 v13 H11) (pLd1 v13 r12.2) <|
  ad [.n, .f 5] x0 fun v15 =>
  (pLd1 v15 r12.2).bind fun v16 =>
  eqK (pLd1 v15 H11) (pLd1 v15 r12.2) <|
  ad [.f 1] v0 fun v17 =>
  (pLd1 v17 r12.2).bind fun v18 =>
  eqK (pLd1 v17 H11) (pLd1 v17 r12.2) <|
  (FF n_r16_NewRing [v16, v3, v18] r12.2).bind fun r19 =>
  eqK (pLd1 v13 r19.2) (pLd1 v13 r12.2) <|
  mkR 1 1 [(.pointer none)] [(0, r19.1)] r19.2 fun v20 H21 =>
  (pApp 1 8 v14 v20 H21).bind fun r22 =>
  st 1 [.n, .f 10] x0 r12.1 r22.2 fun H23 =>
  st 1 [.n, .f 11] x0 r22.1 H23 fun H24 =>
  some (v3, H24)) = some r) : FF n_r16_Parts_Make [x0, x1, x2] H = some r :=
  fo Tryz.func67 (by kernel_rfl) h

-- FUNCTION table_Table_Put
theorem table_Table_Put_of (x0 x1 x2 x3 x4 x5 : Value) (H : AH) {r : Value × AH} (h : (
  (pBin .other .lss x4 (vi 0)).bind fun v0 =>
  (gV v0 false x4).bind fun v1 =>
  (gB v0 false (pBin .other .gtr v1 (vi 1048576))).bind fun v2 =>
  (pPick v0 (vb true) v2).bind fun v3 =>
  (gV v3 false x5).bind fun v4 =>
  (gB v3 false (pBin .other .lss v4 (vi 0))).bind fun v5 =>
  (pPick v3 (vb true) v5).bind fun v6 =>
  (gV v6 false x5).bind fun v7 =>
  (gB v6 false (pBin .other .geq v7 (vi 4294967296))).bind fun v8 =>
  (pPick v6 (vb true) v8).bind fun v9 =>
  condK v9
  (some ((vb false), H))
  (ad [.n, .f 0] x0 fun v10 =>
  (pLd1 v10 H).bind fun v11 =>
  (FF n_table_slot [x2, x3] H).bind fun r12 =>
  eqK (pLd1 v10 r12.2) (pLd1 v10 H) <|
  (pBin .other .add x4 (vi 1)).bind fun v13 =>
  (pConv (some .u64) v13).bind fun v14 =>
  (pBin .other .shl v14 (vw 32)).bind fun v15 =>
  (pConv (some .u64) x5).bind fun v16 =>
  (pBin .other .or v15 v16).bind fun v17 =>
  (FF n_mem_Mem_Store [v11, x1, r12.1, v17] r12.2).bind fun r18 =>
  some ((vb true), r18.2))) = some r) : FF n_table_Table_Put [x0, x1, x2, x3, x4, x5] H = some r :=
  fo Tryz.func68 (by kernel_rfl) h

-- FUNCTION r16_Table_Put
theorem r16_Table_Put_of (x0 x1 x2 x3 x4 x5 : Value) (H : AH) {r : Value × AH} (h : (
  (pBin .other .lss x4 (vi 0)).bind fun v0 =>
  (gV v0 false x4).bind fun v1 =>
  (gB v0 false (pBin .other .gtr v1 (vi 1048576))).bind fun v2 =>
  (pPick v0 (vb true) v2).bind fun v3 =>
  (gV v3 false x5).bind fun v4 =>
  (gB v3 false (pBin .other .lss v4 (vi 0))).bind fun v5 =>
  (pPick v3 (vb true) v5).bind fun v6 =>
  (gV v6 false x5).bind fun v7 =>
  (gB v6 false (pConv (some .u64) v7)).bind fun v8 =>
  (gB v6 false (pBin .other .geq v8 (vw 4294967296))).bind fun v9 =>
  (pPick v6 (vb true) v9).bind fun v10 =>
  condK v10
  (some ((vb false), H))
  (ad [.n, .f 0] x0 fun v11 =>
  (pLd1 v11 H).bind fun v12 =>
  (FF n_r16_Loc [(vi 10), x2, x3] H).bind fun r13 =>
  eqK (pLd1 v11 r13.2) (pLd1 v11 H) <|
  (pBin .other .add x4 (vi 1)).bind fun v14 =>
  (pConv (some .u64) v14).bind fun v15 =>
  (pBin .other .mul v15 (vw 4294967296)).bind fun v16 =>
  (pConv (some .u64) x5).bind fun v17 =>
  (pBin .other .add v16 v17).bind fun v18 =>
  (FF n_r16_Mem_Store [v12, x1, r13.1, v18] r13.2).bind fun r19 =>
  some ((vb true), r19.2))) = some r) : FF n_r16_Table_Put [x0, x1, x2, x3, x4, x5] H = some r :=
  fo Tryz.func69 (by kernel_rfl) h

-- FUNCTION enq_Enq_refuse
theorem enq_Enq_refuse_of (x0 x1 x2 : Value) (H : AH) {r : Value × AH} (h : (
  newK [(vi 0), (.slice none 0 0), (vi 0), (vw 0)] H fun v0 H1 =>
  (FF n_enq_Enq_note [x0, x1, x2] H1).bind fun r2 =>
  (FF n_enq_Enq_ends [x0, x2] r2.2).bind fun r3 =>
  (pExtract r3.1 0).bind fun v4 =>
  (pExtract r3.1 1).bind fun v5 =>
  (pSt 4 v0 v4 r3.2).bind fun H6 =>
  (pLdN 4 v0 H6).bind fun v7 => some (Value.tuple #[v7, v5], H6)) = some r) : FF n_enq_Enq_refuse [x0, x1, x2] H = some r :=
  fo Tryz.func70 (by kernel_rfl) h

-- FUNCTION slices_stableCmpFuncparts_point
noncomputable def f72_b (p : List Nat) : Code := Code.sub (bodyOf Tryz.f72) p
noncomputable def f72_r : KK := cFin PP (Tryz.f72).results.toList
noncomputable def f72_n0 : KK := CQ (f72_b [1, 1]) f72_r kx0 f72_r
noncomputable def f72_m0 : KK := clr 9223372036854775352 f72_n0
noncomputable def slices_stableCmpFuncparts_point_k0 (x0 x1 x2 x6 x7 x8 : Value) (H : AH) : OV := f72_n0 (ls [x0, x1, x2, u, u, u, x6, x7, x8] 54) H
noncomputable def f72_n1 : KK := CQ (f72_b [1, 1, 1]) f72_r kx0 f72_r
noncomputable def f72_m1 : KK := clr 9223372036854775608 f72_n1
noncomputable def slices_stableCmpFuncparts_point_k1 (x0 x1 x2 x6 x7 : Value) (H : AH) : OV := f72_n1 (ls [x0, x1, x2, u, u, u, x6, x7] 55) H
noncomputable def f72_n2 : KK := CQ (f72_b [1, 1, 1, 1]) f72_r kx0 f72_r
noncomputable def f72_m2 : KK := clr 9223372036854775736 f72_n2
noncomputable def slices_stableCmpFuncparts_point_k2 (x0 x1 x2 x6 : Value) (H : AH) : OV := f72_n2 (ls [x0, x1, x2, u, u, u, x6] 56) H
noncomputable def f72_x3 : KX := BX 2 f72_r kx0
noncomputable def f72_y3 : KX := clx 9223372036854775807 f72_x3
noncomputable def f72_n4 : KK := CLq (f72_b [1, 1, 1, 1, 4, 5]) f72_y3 f72_r
noncomputable def f72_m4 : KK := clr 9223372036854775736 f72_n4
-- a loop
noncomputable def slices_stableCmpFuncparts_point_k4 (x0 x1 x2 x6 : Value) (H : AH) : OV := f72_n4 (ls [x0, x1, x2, u, u, u, x6] 56) H
noncomputable def f72_n5 : KK := CQ (f72_b [1, 1, 1, 1, 4, 5, 1]) f72_m4 f72_y3 f72_r
noncomputable def f72_m5 : KK := clr 9223372036854775736 f72_n5
noncomputable def slices_stableCmpFuncparts_point_k5 (x0 x1 x2 x6 : Value) (H : AH) : OV := f72_n5 (ls [x0, x1, x2, u, u, u, x6] 56) H
noncomputable def f72_x6 : KX := BX 3 f72_m4 f72_y3
noncomputable def f72_y6 : KX := clx 9223372036854775736 f72_x6
noncomputable def f72_n7 : KK := CQ (f72_b [1, 1, 1, 1, 4, 5, 1, 4, 1]) f72_m4 f72_y6 f72_r
noncomputable def f72_m7 : KK := clr 9223372036854775352 f72_n7
noncomputable def slices_stableCmpFuncparts_point_k7 (x0 x1 x2 x6 x7 x8 : Value) (H : AH) : OV := f72_n7 (ls [x0, x1, x2, u, u, u, x6, x7, x8] 54) H
noncomputable def f72_n8 : KK := CQ (f72_b [1, 1, 1, 1, 4, 5, 1, 4, 1, 1]) f72_m4 f72_y6 f72_r
noncomputable def f72_m8 : KK := clr 9223372036854775608 f72_n8
noncomputable def slices_stableCmpFuncparts_point_k8 (x0 x1 x2 x6 x7 : Value) (H : AH) : OV := f72_n8 (ls [x0, x1, x2, u, u, u, x6, x7] 55) H
noncomputable def f72_n9 : KK := CQ (f72_b [1, 1, 1, 1, 4, 5, 1, 4, 1, 1, 1]) f72_m4 f72_y6 f72_r
noncomputable def f72_m9 : KK := clr 9223372036854775736 f72_n9
noncomputable def slices_stableCmpFuncparts_point_k9 (x0 x1 x2 x6 : Value) (H : AH) : OV := f72_n9 (ls [x0, x1, x2, u, u, u, x6] 56) H
noncomputable def f72_x14 : KX := BX 4 f72_m8 f72_y6
noncomputable def f72_y14 : KX := clx 9223372036854775608 f72_x14
noncomputable def f72_n15 : KK := CLq (f72_b [1, 1, 1, 1, 4, 5, 1, 4, 1, 0, 4, 5]) f72_y14 f72_r
noncomputable def f72_m15 : KK := clr 9223372036854775352 f72_n15
-- a loop
noncomputable def slices_stableCmpFuncparts_point_k15 (x0 x1 x2 x6 x7 x8 : Value) (H : AH) : OV := f72_n15 (ls [x0, x1, x2, u, u, u, x6, x7, x8] 54) H
noncomputable def f72_n16 : KK := CQ (f72_b [1, 1, 1, 1, 4, 5, 1, 4, 1, 0, 4, 5, 1]) f72_m15 f72_y14 f72_r
noncomputable def f72_m16 : KK := clr 9223372036854775352 f72_n16
noncomputable def slices_stableCmpFuncparts_point_k16 (x0 x1 x2 x6 x7 x8 : Value) (H : AH) : OV := f72_n16 (ls [x0, x1, x2, u, u, u, x6, x7, x8] 54) H
noncomputable def f72_x17 : KX := BX 5 f72_m15 f72_y14
noncomputable def f72_y17 : KX := clx 9223372036854775352 f72_x17
noncomputable def slices_stableCmpFuncparts_point_e14_4 (x0 x1 x2 x6 x7 : Value) (H : AH) : OV := f72_x14 4 (ls [x0, x1, x2, u, u, u, x6, x7] 55) H
noncomputable def slices_stableCmpFuncparts_point_e3_2 (H : AH) : OV := f72_x3 2 (ls [] 63) H
noncomputable def f72_x26 : KX := BX 0 f72_m1 kx0
noncomputable def f72_y26 : KX := clx 9223372036854775608 f72_x26
noncomputable def f72_n27 : KK := CLq (f72_b [1, 1, 0, 4, 5]) f72_y26 f72_r
noncomputable def f72_m27 : KK := clr 9223372036854775352 f72_n27
-- a loop
noncomputable def slices_stableCmpFuncparts_point_k27 (x0 x1 x2 x6 x7 x8 : Value) (H : AH) : OV := f72_n27 (ls [x0, x1, x2, u, u, u, x6, x7, x8] 54) H
noncomputable def f72_n28 : KK := CQ (f72_b [1, 1, 0, 4, 5, 1]) f72_m27 f72_y26 f72_r
noncomputable def f72_m28 : KK := clr 9223372036854775352 f72_n28
noncomputable def slices_stableCmpFuncparts_point_k28 (x0 x1 x2 x6 x7 x8 : Value) (H : AH) : OV := f72_n28 (ls [x0, x1, x2, u, u, u, x6, x7, x8] 54) H
noncomputable def f72_x29 : KX := BX 1 f72_m27 f72_y26
noncomputable def f72_y29 : KX := clx 9223372036854775352 f72_x29
noncomputable def slices_stableCmpFuncparts_point_e26_0 (x0 x1 x2 x6 x7 : Value) (H : AH) : OV := f72_x26 0 (ls [x0, x1, x2, u, u, u, x6, x7] 55) H
theorem f72_r_d : Resp 9223372036854775807 f72_r := rf
theorem f72_n0_d : Resp 9223372036854775352 f72_n0 := rc f72_r_d kx0_d f72_r_d
theorem f72_n1_d : Resp 9223372036854775608 f72_n1 := rc f72_r_d kx0_d f72_r_d
theorem f72_n2_d : Resp 9223372036854775736 f72_n2 := rc f72_r_d kx0_d f72_r_d
theorem f72_x3_d : ∀ i, Resp 9223372036854775807 (f72_x3 i) := rb f72_r_d kx0_d
theorem f72_n4_d : Resp 9223372036854775736 f72_n4 := rl (cx f72_x3_d) f72_r_d
theorem f72_n5_d : Resp 9223372036854775736 f72_n5 := rc (cd f72_n4_d) (cx f72_x3_d) f72_r_d
theorem f72_x6_d : ∀ i, Resp 9223372036854775736 (f72_x6 i) := rb (cd f72_n4_d) (cx f72_x3_d)
theorem f72_n7_d : Resp 9223372036854775352 f72_n7 := rc (cd f72_n4_d) (cx f72_x6_d) f72_r_d
theorem f72_n8_d : Resp 9223372036854775608 f72_n8 := rc (cd f72_n4_d) (cx f72_x6_d) f72_r_d
theorem f72_n9_d : Resp 9223372036854775736 f72_n9 := rc (cd f72_n4_d) (cx f72_x6_d) f72_r_d
theorem f72_x14_d : ∀ i, Resp 9223372036854775608 (f72_x14 i) := rb (cd f72_n8_d) (cx f72_x6_d)
theorem f72_n15_d : Resp 9223372036854775352 f72_n15 := rl (cx f72_x14_d) f72_r_d
theorem f72_n16_d : Resp 9223372036854775352 f72_n16 := rc (cd f72_n15_d) (cx f72_x14_d) f72_r_d
theorem f72_x17_d : ∀ i, Resp 9223372036854775352 (f72_x17 i) := rb (cd f72_n15_d) (cx f72_x14_d)
theorem f72_x26_d : ∀ i, Resp 9223372036854775608 (f72_x26 i) := rb (cd f72_n1_d) kx0_d
theorem f72_n27_d : Resp 9223372036854775352 f72_n27 := rl (cx f72_x26_d) f72_r_d
theorem f72_n28_d : Resp 9223372036854775352 f72_n28 := rc (cd f72_n27_d) (cx f72_x26_d) f72_r_d
theorem f72_x29_d : ∀ i, Resp 9223372036854775352 (f72_x29 i) := rb (cd f72_n27_d) (cx f72_x26_d)
theorem slices_stableCmpFuncparts_point_k9_eq (x0 x1 x2 x6 : Value) (H : AH) : slices_stableCmpFuncparts_point_k9 x0 x1 x2 x6 H =
  (pBin .other .mul x6 (vi 2)).bind fun v10 =>
  slices_stableCmpFuncparts_point_k4 x0 x1 x2 v10 H :=
  (by kernel_rfl)
theorem slices_stableCmpFuncparts_point_k8_eq (x0 x1 x2 x6 x7 : Value) (H : AH) : slices_stableCmpFuncparts_point_k8 x0 x1 x2 x6 x7 H =
  (pBin .other .add x7 x6).bind fun v11 =>
  (pBin .other .lss v11 x1).bind fun v12 =>
  condK v12
  ((FF n_slices_symMergeCmpFuncparts_point [x0, x7, v11, x1, x2] H).bind fun r13 =>
  slices_stableCmpFuncparts_point_k9 x0 x1 x2 x6 r13.2)
  (slices_stableCmpFuncparts_point_k9 x0 x1 x2 x6 H) :=
  (pt rfl 0 f72_n9_d (by kernel_rfl))
theorem slices_stableCmpFuncparts_point_k16_eq (x0 x1 x2 x6 x7 x8 : Value) (H : AH) : slices_stableCmpFuncparts_point_k16 x0 x1 x2 x6 x7 x8 H =
  (pBin .other .add x7 x6).bind fun v18 =>
  (FF n_slices_symMergeCmpFuncparts_point [x0, x7, v18, x8, x2] H).bind fun r19 =>
  (pBin .other .mul (vi 2) x6).bind fun v20 =>
  (pBin .other .add x8 v20).bind fun v21 =>
  slices_stableCmpFuncparts_point_k15 x0 x1 x2 x6 x8 v21 r19.2 :=
  (bt rfl (f72_b [1, 1, 1, 1, 4, 5, 1, 4, 1, 0, 4, 5, 1, 4]) 5 f72_x17_d (by kernel_rfl))
theorem slices_stableCmpFuncparts_point_e14_4_eq (x0 x1 x2 x6 x7 : Value) (H : AH) : slices_stableCmpFuncparts_point_e14_4 x0 x1 x2 x6 x7 H = slices_stableCmpFuncparts_point_k8 x0 x1 x2 x6 x7 H :=
  (by kernel_rfl)
theorem slices_stableCmpFuncparts_point_k15_eq (x0 x1 x2 x6 x7 x8 : Value) (H : AH) : slices_stableCmpFuncparts_point_k15 x0 x1 x2 x6 x7 x8 H =
  (pBin .other .leq x8 x1).bind fun v22 =>
  condK v22
  (slices_stableCmpFuncparts_point_k16 x0 x1 x2 x6 x7 x8 H)
  (slices_stableCmpFuncparts_point_e14_4 x0 x1 x2 x6 x7 H) :=
  lt' rfl f72_n15_d (pt rfl 0 f72_n16_d (by kernel_rfl))
theorem slices_stableCmpFuncparts_point_k7_eq (x0 x1 x2 x6 x7 x8 : Value) (H : AH) : slices_stableCmpFuncparts_point_k7 x0 x1 x2 x6 x7 x8 H =
  slices_stableCmpFuncparts_point_k15 x0 x1 x2 x6 x7 x8 H :=
  (pt rfl 0 f72_n8_d (bt rfl (f72_b [1, 1, 1, 1, 4, 5, 1, 4, 1, 0, 4]) 4 f72_x14_d (li rfl (f72_b [1, 1, 1, 1, 4, 5, 1, 4, 1, 0, 4, 5]) f72_n15_d (by kernel_rfl))))
theorem slices_stableCmpFuncparts_point_k5_eq (x0 x1 x2 x6 : Value) (H : AH) : slices_stableCmpFuncparts_point_k5 x0 x1 x2 x6 H =
  (pBin .other .mul (vi 2) x6).bind fun v23 =>
  slices_stableCmpFuncparts_point_k7 x0 x1 x2 x6 (vi 0) v23 H :=
  (bt rfl (f72_b [1, 1, 1, 1, 4, 5, 1, 4]) 3 f72_x6_d (pt rfl 0 f72_n7_d (by kernel_rfl)))
theorem slices_stableCmpFuncparts_point_e3_2_eq (H : AH) : slices_stableCmpFuncparts_point_e3_2 H = some (Value.tuple #[], H) :=
  (by kernel_rfl)
theorem slices_stableCmpFuncparts_point_k4_eq (x0 x1 x2 x6 : Value) (H : AH) : slices_stableCmpFuncparts_point_k4 x0 x1 x2 x6 H =
  (pBin .other .lss x6 x1).bind fun v24 =>
  condK v24
  (slices_stableCmpFuncparts_point_k5 x0 x1 x2 x6 H)
  (slices_stableCmpFuncparts_point_e3_2 H) :=
  lt' rfl f72_n4_d (pt rfl 0 f72_n5_d (by kernel_rfl))
theorem slices_stableCmpFuncparts_point_k2_eq (x0 x1 x2 x6 : Value) (H : AH) : slices_stableCmpFuncparts_point_k2 x0 x1 x2 x6 H =
  slices_stableCmpFuncparts_point_k4 x0 x1 x2 x6 H :=
  (bt rfl (f72_b [1, 1, 1, 1, 4]) 2 f72_x3_d (li rfl (f72_b [1, 1, 1, 1, 4, 5]) f72_n4_d (by kernel_rfl)))
theorem slices_stableCmpFuncparts_point_k1_eq (x0 x1 x2 x6 x7 : Value) (H : AH) : slices_stableCmpFuncparts_point_k1 x0 x1 x2 x6 x7 H =
  (FF n_slices_insertionSortCmpFuncparts_point [x0, x7, x1, x2] H).bind fun r25 =>
  slices_stableCmpFuncparts_point_k2 x0 x1 x2 x6 r25.2 :=
  (pt rfl 0 f72_n2_d (by kernel_rfl))
theorem slices_stableCmpFuncparts_point_k28_eq (x0 x1 x2 x6 x7 x8 : Value) (H : AH) : slices_stableCmpFuncparts_point_k28 x0 x1 x2 x6 x7 x8 H =
  (FF n_slices_insertionSortCmpFuncparts_point [x0, x7, x8, x2] H).bind fun r30 =>
  (pBin .other .add x8 x6).bind fun v31 =>
  slices_stableCmpFuncparts_point_k27 x0 x1 x2 x6 x8 v31 r30.2 :=
  (bt rfl (f72_b [1, 1, 0, 4, 5, 1, 4]) 1 f72_x29_d (by kernel_rfl))
theorem slices_stableCmpFuncparts_point_e26_0_eq (x0 x1 x2 x6 x7 : Value) (H : AH) : slices_stableCmpFuncparts_point_e26_0 x0 x1 x2 x6 x7 H = slices_stableCmpFuncparts_point_k1 x0 x1 x2 x6 x7 H :=
  (by kernel_rfl)
theorem slices_stableCmpFuncparts_point_k27_eq (x0 x1 x2 x6 x7 x8 : Value) (H : AH) : slices_stableCmpFuncparts_point_k27 x0 x1 x2 x6 x7 x8 H =
  (pBin .other .leq x8 x1).bind fun v32 =>
  condK v32
  (slices_stableCmpFuncparts_point_k28 x0 x1 x2 x6 x7 x8 H)
  (slices_stableCmpFuncparts_point_e26_0 x0 x1 x2 x6 x7 H) :=
  lt' rfl f72_n27_d (pt rfl 0 f72_n28_d (by kernel_rfl))
theorem slices_stableCmpFuncparts_point_k0_eq (x0 x1 x2 x6 x7 x8 : Value) (H : AH) : slices_stableCmpFuncparts_point_k0 x0 x1 x2 x6 x7 x8 H =
  slices_stableCmpFuncparts_point_k27 x0 x1 x2 x6 x7 x8 H :=
  (pt rfl 0 f72_n1_d (bt rfl (f72_b [1, 1, 0, 4]) 0 f72_x26_d (li rfl (f72_b [1, 1, 0, 4, 5]) f72_n27_d (by kernel_rfl))))
noncomputable def slices_stableCmpFuncparts_point (x0 x1 x2 : Value) (H : AH) : OV := cCode PP GG FF (f72_b []) (ls [x0, x1, x2] 60) H f72_r kx0 f72_r
theorem slices_stableCmpFuncparts_point_of (x0 x1 x2 : Value) (H : AH) {r : Value × AH} (h : (
  slices_stableCmpFuncparts_point_k0 x0 x1 x2 (vi 20) (vi 0) (vi 20) H) = some r) : FF n_slices_stableCmpFuncparts_point [x0, x1, x2] H = some r :=
  fo (t := slices_stableCmpFuncparts_point x0 x1 x2 H) Tryz.func72 (by kernel_rfl) (Eq.trans (pt rfl 1 f72_n0_d (by kernel_rfl)) h)

-- FUNCTION slices_Cloneapi_Packetapi_Packet
theorem slices_Cloneapi_Packetapi_Packet_of (x0 : Value) (H : AH) {r : Value × AH} (h : (
  (pBin .slice .eql x0 (.slice none 0 0)).bind fun v0 =>
  condK v0
  (some ((.slice none 0 0), H))
  (mkR 0 3 [(vi 0), (vi 0), (vi 0)] [] H fun v1 H2 =>
  (pApp 3 24 v1 x0 H2).bind fun r3 =>
  some (r3.1, r3.2))) = some r) : FF n_slices_Cloneapi_Packetapi_Packet [x0] H = some r :=
  fo Tryz.func74 (by kernel_rfl) h

-- FUNCTION help_Sameapi_Packet
noncomputable def f75_b (p : List Nat) : Code := Code.sub (bodyOf Tryz.f75) p
noncomputable def f75_r : KK := cFin PP (Tryz.f75).results.toList
noncomputable def f75_n0 : KK := CQ (f75_b [1, 1]) f75_r kx0 f75_r
noncomputable def f75_m0 : KK := clr 1073741752 f75_n0
noncomputable def help_Sameapi_Packet_k0 (x0 x1 x2 x6 : Value) (H : AH) : OV := f75_n0 (ls [x0, x1, x2, u, u, u, x6] 23) H
noncomputable def f75_n1 : KK := CQ (f75_b [1, 1, 1]) f75_r kx0 f75_r
noncomputable def f75_m1 : KK := clr 1073741759 f75_n1
noncomputable def help_Sameapi_Packet_k1 (x6 : Value) (H : AH) : OV := f75_n1 (ls [u, u, u, u, u, u, x6] 23) H
noncomputable def f75_n2 : KK := CQ (f75_b [1, 1, 0, 1]) f75_m1 kx0 f75_r
noncomputable def f75_m2 : KK := clr 1073741624 f75_n2
noncomputable def help_Sameapi_Packet_k2 (x0 x1 x2 x6 x7 : Value) (H : AH) : OV := f75_n2 (ls [x0, x1, x2, u, u, u, x6, x7] 22) H
noncomputable def f75_x3 : KX := BX 0 f75_m1 kx0
noncomputable def f75_y3 : KX := clx 1073741759 f75_x3
noncomputable def f75_n4 : KK := CLq (f75_b [1, 1, 0, 1, 4, 5]) f75_y3 f75_r
noncomputable def f75_m4 : KK := clr 1073741624 f75_n4
-- a loop
noncomputable def help_Sameapi_Packet_k4 (x0 x1 x2 x6 x7 : Value) (H : AH) : OV := f75_n4 (ls [x0, x1, x2, u, u, u, x6, x7] 22) H
noncomputable def f75_n5 : KK := CQ (f75_b [1, 1, 0, 1, 4, 5, 1]) f75_m4 f75_y3 f75_r
noncomputable def f75_m5 : KK := clr 1073741624 f75_n5
noncomputable def help_Sameapi_Packet_k5 (x0 x1 x2 x6 x7 : Value) (H : AH) : OV := f75_n5 (ls [x0, x1, x2, u, u, u, x6, x7] 22) H
noncomputable def f75_n6 : KK := CQ (f75_b [1, 1, 0, 1, 4, 5, 1, 1]) f75_m4 f75_y3 f75_r
noncomputable def f75_m6 : KK := clr 1073741624 f75_n6
noncomputable def help_Sameapi_Packet_k6 (x0 x1 x2 x6 x7 : Value) (H : AH) : OV := f75_n6 (ls [x0, x1, x2, u, u, u, x6, x7] 22) H
noncomputable def f75_x8 : KX := BX 1 f75_m6 f75_y3
noncomputable def f75_y8 : KX := clx 1073741624 f75_x8
noncomputable def help_Sameapi_Packet_e3_0 (x6 : Value) (H : AH) : OV := f75_x3 0 (ls [u, u, u, u, u, u, x6] 23) H
theorem f75_r_d : Resp 1073741759 f75_r := rf
theorem f75_n0_d : Resp 1073741752 f75_n0 := rc f75_r_d kx0_d f75_r_d
theorem f75_n1_d : Resp 1073741759 f75_n1 := rc f75_r_d kx0_d f75_r_d
theorem f75_n2_d : Resp 1073741624 f75_n2 := rc (cd f75_n1_d) kx0_d f75_r_d
theorem f75_x3_d : ∀ i, Resp 1073741759 (f75_x3 i) := rb (cd f75_n1_d) kx0_d
theorem f75_n4_d : Resp 1073741624 f75_n4 := rl (cx f75_x3_d) f75_r_d
theorem f75_n5_d : Resp 1073741624 f75_n5 := rc (cd f75_n4_d) (cx f75_x3_d) f75_r_d
theorem f75_n6_d : Resp 1073741624 f75_n6 := rc (cd f75_n4_d) (cx f75_x3_d) f75_r_d
theorem f75_x8_d : ∀ i, Resp 1073741624 (f75_x8 i) := rb (cd f75_n6_d) (cx f75_x3_d)
theorem help_Sameapi_Packet_k1_eq (x6 : Value) (H : AH) : help_Sameapi_Packet_k1 x6 H =
  some ((vb true), H) :=
  (by kernel_rfl)
theorem help_Sameapi_Packet_k6_eq (x0 x1 x2 x6 x7 : Value) (H : AH) : help_Sameapi_Packet_k6 x0 x1 x2 x6 x7 H =
  (pBin .other .add x7 (vi 1)).bind fun v7 =>
  help_Sameapi_Packet_k4 x0 x1 x2 x6 v7 H :=
  (by kernel_rfl)
theorem help_Sameapi_Packet_k5_eq (x0 x1 x2 x6 x7 : Value) (H : AH) : help_Sameapi_Packet_k5 x0 x1 x2 x6 x7 H =
  ldN 3 [.i 3 x7] x0 H fun v9 =>
  ldN 3 [.i 3 x7] x1 H fun v10 =>
  (pCallee x2 [v9, v10]).bind fun c => (FF c.1 c.2 H).bind fun r11 =>
  (pUn .not r11.1).bind fun v12 =>
  condK v12
  (some ((vb false), r11.2))
  (help_Sameapi_Packet_k6 x0 x1 x2 x6 x7 r11.2) :=
  (pt rfl 0 f75_n6_d (bt rfl (f75_b [1, 1, 0, 1, 4, 5, 1, 0, 4]) 1 f75_x8_d (by kernel_rfl)))
theorem help_Sameapi_Packet_e3_0_eq (x6 : Value) (H : AH) : help_Sameapi_Packet_e3_0 x6 H = help_Sameapi_Packet_k1 x6 H :=
  (by kernel_rfl)
theorem help_Sameapi_Packet_k4_eq (x0 x1 x2 x6 x7 : Value) (H : AH) : help_Sameapi_Packet_k4 x0 x1 x2 x6 x7 H =
  lenK x0 fun v13 =>
  (pBin .other .lss x7 v13).bind fun v14 =>
  condK v14
  (help_Sameapi_Packet_k5 x0 x1 x2 x6 x7 H)
  (help_Sameapi_Packet_e3_0 x6 H) :=
  lt' rfl f75_n4_d (pt rfl 0 f75_n5_d (by kernel_rfl))
theorem help_Sameapi_Packet_k2_eq (x0 x1 x2 x6 x7 : Value) (H : AH) : help_Sameapi_Packet_k2 x0 x1 x2 x6 x7 H =
  help_Sameapi_Packet_k4 x0 x1 x2 x6 x7 H :=
  (bt rfl (f75_b [1, 1, 0, 1, 4]) 0 f75_x3_d (li rfl (f75_b [1, 1, 0, 1, 4, 5]) f75_n4_d (by kernel_rfl)))
theorem help_Sameapi_Packet_k0_eq (x0 x1 x2 x6 : Value) (H : AH) : help_Sameapi_Packet_k0 x0 x1 x2 x6 H =
  help_Sameapi_Packet_k2 x0 x1 x2 x6 (vi 0) H :=
  (pt rfl 0 f75_n1_d (pt rfl 0 f75_n2_d (by kernel_rfl)))
noncomputable def help_Sameapi_Packet (x0 x1 x2 : Value) (H : AH) : OV := cCode PP GG FF (f75_b []) (ls [x0, x1, x2] 27) H f75_r kx0 f75_r
theorem help_Sameapi_Packet_of (x0 x1 x2 : Value) (H : AH) {r : Value × AH} (h : (
  lenK x0 fun v15 =>
  lenK x1 fun v16 =>
  (pBin .other .neq v15 v16).bind fun v17 =>
  condK v17
  (some ((vb false), H))
  (help_Sameapi_Packet_k0 x0 x1 x2 (vb false) H)) = some r) : FF n_help_Sameapi_Packet [x0, x1, x2] H = some r :=
  fo (t := help_Sameapi_Packet x0 x1 x2 H) Tryz.func75 (by kernel_rfl) (Eq.trans (pt rfl 1 f75_n0_d (by kernel_rfl)) h)

-- FUNCTION r16_Table_Lock
theorem r16_Table_Lock_of (x0 x1 x2 : Value) (H : AH) {r : Value × AH} (h : (
  ad [.n, .f 0] x0 fun v0 =>
  (pLd1 v0 H).bind fun v1 =>
  (FF n_r16_Loc [(vi 8), x2, (vi 0)] H).bind fun r2 =>
  eqK (pLd1 v0 r2.2) (pLd1 v0 H) <|
  (FF n_r16_Mem_Swap [v1, x1, r2.1, (vw 0), (vw 1)] r2.2).bind fun r3 =>
  some (r3.1, r3.2)) = some r) : FF n_r16_Table_Lock [x0, x1, x2] H = some r :=
  fo Tryz.func81 (by kernel_rfl) h

-- FUNCTION r16_Table_Unlock
theorem r16_Table_Unlock_of (x0 x1 x2 : Value) (H : AH) {r : Value × AH} (h : (
  ad [.n, .f 0] x0 fun v0 =>
  (pLd1 v0 H).bind fun v1 =>
  (FF n_r16_Loc [(vi 8), x2, (vi 0)] H).bind fun r2 =>
  eqK (pLd1 v0 r2.2) (pLd1 v0 H) <|
  (FF n_r16_Mem_Store [v1, x1, r2.1, (vw 0)] r2.2).bind fun r3 =>
  some (Value.tuple #[], r3.2)) = some r) : FF n_r16_Table_Unlock [x0, x1, x2] H = some r :=
  fo Tryz.func82 (by kernel_rfl) h

-- FUNCTION r01_Parts
theorem r01_Parts_of (x0 : Value) (H : AH) {r : Value × AH} (h : (
  (pBin .other .rem x0 (vw 2305843009213693952)).bind fun v0 =>
  (pBin .other .quo x0 (vw 2305843009213693952)).bind fun v1 =>
  (pConv (some .i64) v1).bind fun v2 =>
  (pBin .other .gtr v2 (vi 2)).bind fun v3 =>
  condK v3
  (some (Value.tuple #[(vw 0), (vi (-1)), (vb false)], H))
  (some (Value.tuple #[v0, v2, (vb true)], H))) = some r) : FF n_r01_Parts [x0] H = some r :=
  fo Tryz.func87 (by kernel_rfl) h

-- FUNCTION mem_Mem_turn
theorem mem_Mem_turn_of (x0 x1 x2 x3 : Value) (H : AH) {r : Value × AH} (h : (
  newK (Value.cells x2).toList H fun v0 H1 =>
  (pLdN 3 v0 H1).bind fun v2 =>
  (FF n_mem_Mem_Peek [x0, v2] H1).bind fun r3 =>
  (pLdN 3 v0 r3.2).bind fun v4 =>
  (FF n_mem_Mem_note [x0, x1, (vi 3), v4] r3.2).bind fun r5 =>
  ld [.n, .f 0] x0 r5.2 fun v6 =>
  (pLdN 3 v0 r5.2).bind fun v7 =>
  mkS [(0, 1)] [(vw 0)] [(0, x3)] fun v8 =>
  (pUpdate (.flat 3) v6 v7 v8 r5.2).bind fun H9 =>
  some (r3.1, H9)) = some r) : FF n_mem_Mem_turn [x0, x1, x2, x3] H = some r :=
  fo Tryz.func99 (by kernel_rfl) h

-- FUNCTION mem_Mem_Peek
theorem mem_Mem_Peek_of (x0 x1 : Value) (H : AH) {r : Value × AH} (h : (
  newK (Value.cells x1).toList H fun v0 H1 =>
  ld [.n, .f 0] x0 H1 fun v2 =>
  (pLdN 3 v0 H1).bind fun v3 =>
  (pLookup (.flat 3) (.agg #[(vw 0)]) v2 v3 false H1).bind fun v4 =>
  (pPart none 0 v4).bind fun v5 =>
  some (v5, H1)) = some r) : FF n_mem_Mem_Peek [x0, x1] H = some r :=
  fo Tryz.func100 (by kernel_rfl) h

end Go.Proofs.YtodpbobjmkhcfaaGreatDoor.Gst
