/- THE FUNCTIONS OF THE PROGRAM AS PLAIN LEAN FUNCTIONS: printed by a program of this work (XPr), each checked by the kernel against the program's text. -/
import Derived.Test.YtodpbobjmkhcfaaGreatDoorKa
namespace Go.Proofs.YtodpbobjmkhcfaaGreatDoor.Gst
open Go Go.RowKit
set_option maxRecDepth 100000
set_option linter.unusedVariables false
set_option maxHeartbeats 1000000
-- FUNCTION slices_insertionSortCmpFuncparts_point
noncomputable def f137_b (p : List Nat) : Code := Code.sub (bodyOf Tryz.f137) p
noncomputable def f137_r : KK := cFin PP (Tryz.f137).results.toList
noncomputable def f137_n0 : KK := CQ (f137_b [1]) f137_r kx0 f137_r
noncomputable def f137_m0 : KK := clr 9007199254740720 f137_n0
noncomputable def slices_insertionSortCmpFuncparts_point_k0 (x0 x1 x2 x3 x8 : Value) (H : AH) : OV := f137_n0 (ls [x0, x1, x2, x3, u, u, u, u, x8] 44) H
noncomputable def f137_x1 : KX := BX 0 f137_r kx0
noncomputable def f137_y1 : KX := clx 9007199254740991 f137_x1
noncomputable def f137_n2 : KK := CLq (f137_b [1, 4, 5]) f137_y1 f137_r
noncomputable def f137_m2 : KK := clr 9007199254740720 f137_n2
-- a loop
noncomputable def slices_insertionSortCmpFuncparts_point_k2 (x0 x1 x2 x3 x8 : Value) (H : AH) : OV := f137_n2 (ls [x0, x1, x2, x3, u, u, u, u, x8] 44) H
noncomputable def f137_n3 : KK := CQ (f137_b [1, 4, 5, 1]) f137_m2 f137_y1 f137_r
noncomputable def f137_m3 : KK := clr 9007199254740720 f137_n3
noncomputable def slices_insertionSortCmpFuncparts_point_k3 (x0 x1 x2 x3 x8 : Value) (H : AH) : OV := f137_n3 (ls [x0, x1, x2, x3, u, u, u, u, x8] 44) H
noncomputable def f137_n4 : KK := CQ (f137_b [1, 4, 5, 1, 1]) f137_m2 f137_y1 f137_r
noncomputable def f137_m4 : KK := clr 9007199254740720 f137_n4
noncomputable def slices_insertionSortCmpFuncparts_point_k4 (x0 x1 x2 x3 x8 : Value) (H : AH) : OV := f137_n4 (ls [x0, x1, x2, x3, u, u, u, u, x8] 44) H
noncomputable def f137_x6 : KX := BX 1 f137_m4 f137_y1
noncomputable def f137_y6 : KX := clx 9007199254740720 f137_x6
noncomputable def f137_n7 : KK := CQ (f137_b [1, 4, 5, 1, 0, 4, 1]) f137_m4 f137_y6 f137_r
noncomputable def f137_m7 : KK := clr 9007199254740208 f137_n7
noncomputable def slices_insertionSortCmpFuncparts_point_k7 (x0 x1 x2 x3 x8 x9 : Value) (H : AH) : OV := f137_n7 (ls [x0, x1, x2, x3, u, u, u, u, x8, x9] 43) H
noncomputable def f137_x8 : KX := BX 2 f137_m4 f137_y6
noncomputable def f137_y8 : KX := clx 9007199254740720 f137_x8
noncomputable def f137_n9 : KK := CLq (f137_b [1, 4, 5, 1, 0, 4, 1, 4, 5]) f137_y8 f137_r
noncomputable def f137_m9 : KK := clr 9007199254740208 f137_n9
-- a loop
noncomputable def slices_insertionSortCmpFuncparts_point_k9 (x0 x1 x2 x3 x8 x9 : Value) (H : AH) : OV := f137_n9 (ls [x0, x1, x2, x3, u, u, u, u, x8, x9] 43) H
noncomputable def f137_n10 : KK := CQ (f137_b [1, 4, 5, 1, 0, 4, 1, 4, 5, 1]) f137_m9 f137_y8 f137_r
noncomputable def f137_m10 : KK := clr 9007199254740208 f137_n10
noncomputable def slices_insertionSortCmpFuncparts_point_k10 (x0 x1 x2 x3 x8 x9 : Value) (H : AH) : OV := f137_n10 (ls [x0, x1, x2, x3, u, u, u, u, x8, x9] 43) H
noncomputable def f137_n11 : KK := CQ (f137_b [1, 4, 5, 1, 0, 4, 1, 4, 5, 1, 1]) f137_m9 f137_y8 f137_r
noncomputable def f137_m11 : KK := clr 9007199254740208 f137_n11
noncomputable def slices_insertionSortCmpFuncparts_point_k11 (x0 x1 x2 x3 x8 x9 : Value) (H : AH) : OV := f137_n11 (ls [x0, x1, x2, x3, u, u, u, u, x8, x9] 43) H
noncomputable def f137_x13 : KX := BX 3 f137_m11 f137_y8
noncomputable def f137_y13 : KX := clx 9007199254740208 f137_x13
noncomputable def slices_insertionSortCmpFuncparts_point_e8_2 (x0 x1 x2 x3 x8 : Value) (H : AH) : OV := f137_x8 2 (ls [x0, x1, x2, x3, u, u, u, u, x8] 44) H
noncomputable def slices_insertionSortCmpFuncparts_point_e1_0 (H : AH) : OV := f137_x1 0 (ls [] 53) H
theorem f137_r_d : Resp 9007199254740991 f137_r := rf
theorem f137_n0_d : Resp 9007199254740720 f137_n0 := rc f137_r_d kx0_d f137_r_d
theorem f137_x1_d : ∀ i, Resp 9007199254740991 (f137_x1 i) := rb f137_r_d kx0_d
theorem f137_n2_d : Resp 9007199254740720 f137_n2 := rl (cx f137_x1_d) f137_r_d
theorem f137_n3_d : Resp 9007199254740720 f137_n3 := rc (cd f137_n2_d) (cx f137_x1_d) f137_r_d
theorem f137_n4_d : Resp 9007199254740720 f137_n4 := rc (cd f137_n2_d) (cx f137_x1_d) f137_r_d
theorem f137_x6_d : ∀ i, Resp 9007199254740720 (f137_x6 i) := rb (cd f137_n4_d) (cx f137_x1_d)
theorem f137_n7_d : Resp 9007199254740208 f137_n7 := rc (cd f137_n4_d) (cx f137_x6_d) f137_r_d
theorem f137_x8_d : ∀ i, Resp 9007199254740720 (f137_x8 i) := rb (cd f137_n4_d) (cx f137_x6_d)
theorem f137_n9_d : Resp 9007199254740208 f137_n9 := rl (cx f137_x8_d) f137_r_d
theorem f137_n10_d : Resp 9007199254740208 f137_n10 := rc (cd f137_n9_d) (cx f137_x8_d) f137_r_d
theorem f137_n11_d : Resp 9007199254740208 f137_n11 := rc (cd f137_n9_d) (cx f137_x8_d) f137_r_d
theorem f137_x13_d : ∀ i, Resp 9007199254740208 (f137_x13 i) := rb (cd f137_n11_d) (cx f137_x8_d)
theorem slices_insertionSortCmpFuncparts_point_k4_eq (x0 x1 x2 x3 x8 : Value) (H : AH) : slices_insertionSortCmpFuncparts_point_k4 x0 x1 x2 x3 x8 H =
  (pBin .other .add x8 (vi 1)).bind fun v5 =>
  slices_insertionSortCmpFuncparts_point_k2 x0 x1 x2 x3 v5 H :=
  (by kernel_rfl)
theorem slices_insertionSortCmpFuncparts_point_k11_eq (x0 x1 x2 x3 x8 x9 : Value) (H : AH) : slices_insertionSortCmpFuncparts_point_k11 x0 x1 x2 x3 x8 x9 H =
  (pBin .other .sub x9 (vi 1)).bind fun v12 =>
  slices_insertionSortCmpFuncparts_point_k9 x0 x1 x2 x3 x8 v12 H :=
  (by kernel_rfl)
theorem slices_insertionSortCmpFuncparts_point_k10_eq (x0 x1 x2 x3 x8 x9 : Value) (H : AH) : slices_insertionSortCmpFuncparts_point_k10 x0 x1 x2 x3 x8 x9 H =
  (pBin .other .sub x9 (vi 1)).bind fun v14 =>
  (pBin .other .sub x9 (vi 1)).bind fun v15 =>
  ldN 7 [.i 7 v15] x0 H fun v16 =>
  ldN 7 [.i 7 x9] x0 H fun v17 =>
  st 7 [.i 7 x9] x0 v16 H fun H18 =>
  st 7 [.i 7 v14] x0 v17 H18 fun H19 =>
  slices_insertionSortCmpFuncparts_point_k11 x0 x1 x2 x3 x8 x9 H19 :=
  (pt rfl 0 f137_n11_d (bt rfl (f137_b [1, 4, 5, 1, 0, 4, 1, 4, 5, 1, 0, 4]) 3 f137_x13_d (by kernel_rfl)))
theorem slices_insertionSortCmpFuncparts_point_e8_2_eq (x0 x1 x2 x3 x8 : Value) (H : AH) : slices_insertionSortCmpFuncparts_point_e8_2 x0 x1 x2 x3 x8 H = slices_insertionSortCmpFuncparts_point_k4 x0 x1 x2 x3 x8 H :=
  (by kernel_rfl)
theorem slices_insertionSortCmpFuncparts_point_k9_eq (x0 x1 x2 x3 x8 x9 : Value) (H : AH) : slices_insertionSortCmpFuncparts_point_k9 x0 x1 x2 x3 x8 x9 H =
  (pBin .other .gtr x9 x1).bind fun v20 =>
  (gV v20 true x3).bind fun v21 =>
  (gV v20 true x0).bind fun v22 =>
  (gV v20 true x9).bind fun v23 =>
  gldN v20 true  7 [.i 7 v23] v22 H fun v24 =>
  (gV v20 true x0).bind fun v25 =>
  (gV v20 true x9).bind fun v26 =>
  (gB v20 true (pBin .other .sub v26 (vi 1))).bind fun v27 =>
  gldN v20 true  7 [.i 7 v27] v25 H fun v28 =>
  (gE v20 true H ((pCallee v21 [v24, v28]).bind fun c => FF c.1 c.2 H)).bind fun r29 =>
  (gB v20 true (pBin .other .lss r29.1 (vi 0))).bind fun v30 =>
  (pPick v20 v30 (vb false)).bind fun v31 =>
  condK v31
  (slices_insertionSortCmpFuncparts_point_k10 x0 x1 x2 x3 x8 x9 r29.2)
  (slices_insertionSortCmpFuncparts_point_e8_2 x0 x1 x2 x3 x8 r29.2) :=
  lt' rfl f137_n9_d (pt rfl 0 f137_n10_d (by kernel_rfl))
theorem slices_insertionSortCmpFuncparts_point_k7_eq (x0 x1 x2 x3 x8 x9 : Value) (H : AH) : slices_insertionSortCmpFuncparts_point_k7 x0 x1 x2 x3 x8 x9 H =
  slices_insertionSortCmpFuncparts_point_k9 x0 x1 x2 x3 x8 x9 H :=
  (bt rfl (f137_b [1, 4, 5, 1, 0, 4, 1, 4]) 2 f137_x8_d (li rfl (f137_b [1, 4, 5, 1, 0, 4, 1, 4, 5]) f137_n9_d (by kernel_rfl)))
theorem slices_insertionSortCmpFuncparts_point_k3_eq (x0 x1 x2 x3 x8 : Value) (H : AH) : slices_insertionSortCmpFuncparts_point_k3 x0 x1 x2 x3 x8 H =
  slices_insertionSortCmpFuncparts_point_k7 x0 x1 x2 x3 x8 x8 H :=
  (pt rfl 0 f137_n4_d (bt rfl (f137_b [1, 4, 5, 1, 0, 4]) 1 f137_x6_d (pt rfl 0 f137_n7_d (by kernel_rfl))))
theorem slices_insertionSortCmpFuncparts_point_e1_0_eq (H : AH) : slices_insertionSortCmpFuncparts_point_e1_0 H = some (Value.tuple #[], H) :=
  (by kernel_rfl)
theorem slices_insertionSortCmpFuncparts_point_k2_eq (x0 x1 x2 x3 x8 : Value) (H : AH) : slices_insertionSortCmpFuncparts_point_k2 x0 x1 x2 x3 x8 H =
  (pBin .other .lss x8 x2).bind fun v32 =>
  condK v32
  (slices_insertionSortCmpFuncparts_point_k3 x0 x1 x2 x3 x8 H)
  (slices_insertionSortCmpFuncparts_point_e1_0 H) :=
  lt' rfl f137_n2_d (pt rfl 0 f137_n3_d (by kernel_rfl))
theorem slices_insertionSortCmpFuncparts_point_k0_eq (x0 x1 x2 x3 x8 : Value) (H : AH) : slices_insertionSortCmpFuncparts_point_k0 x0 x1 x2 x3 x8 H =
  slices_insertionSortCmpFuncparts_point_k2 x0 x1 x2 x3 x8 H :=
  (bt rfl (f137_b [1, 4]) 0 f137_x1_d (li rfl (f137_b [1, 4, 5]) f137_n2_d (by kernel_rfl)))
noncomputable def slices_insertionSortCmpFuncparts_point (x0 x1 x2 x3 : Value) (H : AH) : OV := cCode PP GG FF (f137_b []) (ls [x0, x1, x2, x3] 49) H f137_r kx0 f137_r
theorem slices_insertionSortCmpFuncparts_point_of (x0 x1 x2 x3 : Value) (H : AH) {r : Value × AH} (h : (
  (pBin .other .add x1 (vi 1)).bind fun v33 =>
  slices_insertionSortCmpFuncparts_point_k0 x0 x1 x2 x3 v33 H) = some r) : FF n_slices_insertionSortCmpFuncparts_point [x0, x1, x2, x3] H = some r :=
  fo (t := slices_insertionSortCmpFuncparts_point x0 x1 x2 x3 H) Tryz.func137 (by kernel_rfl) (Eq.trans (pt rfl 0 f137_n0_d (by kernel_rfl)) h)

-- FUNCTION r16_Table_Slot
theorem r16_Table_Slot_of (x0 x1 x2 x3 : Value) (H : AH) {r : Value × AH} (h : (
  ad [.n, .f 0] x0 fun v0 =>
  (pLd1 v0 H).bind fun v1 =>
  (FF n_r16_Loc [(vi 10), x2, x3] H).bind fun r2 =>
  eqK (pLd1 v0 r2.2) (pLd1 v0 H) <|
  (FF n_r16_Mem_Load [v1, x1, r2.1] r2.2).bind fun r3 =>
  (pBin .other .eql r3.1 (vw 0)).bind fun v4 =>
  condK v4
  (some (Value.tuple #[(vi 0), (vi 0), (vb false)], r3.2))
  ((pBin .other .quo r3.1 (vw 4294967296)).bind fun v5 =>
  (pConv (some .i64) v5).bind fun v6 =>
  (pBin .other .sub v6 (vi 1)).bind fun v7 =>
  (pBin .other .rem r3.1 (vw 4294967296)).bind fun v8 =>
  (pConv (some .i64) v8).bind fun v9 =>
  some (Value.tuple #[v7, v9, (vb true)], r3.2))) = some r) : FF n_r16_Table_Slot [x0, x1, x2, x3] H = some r :=
  fo Tryz.func141 (by kernel_rfl) h

-- FUNCTION r16_Mem_Swap
theorem r16_Mem_Swap_of (x0 x1 x2 x3 x4 : Value) (H : AH) {r : Value × AH} (h : (
  newK (Value.cells x2).toList H fun v0 H1 =>
  (pLdN 3 v0 H1).bind fun v2 =>
  (FF n_r16_Mem_place [x0, v2] H1).bind fun r3 =>
  ld [.n, .f 1] x0 r3.2 fun v4 =>
  ld [.i 1 r3.1] v4 r3.2 fun v5 =>
  (pBin .other .neq v5 x3).bind fun v6 =>
  condK v6
  ((pLdN 3 v0 r3.2).bind fun v7 =>
  (FF n_r16_Mem_Log [x0, x1, (vi 4), v7] r3.2).bind fun r8 =>
  some ((vb false), r8.2))
  ((pLdN 3 v0 r3.2).bind fun v9 =>
  (FF n_r16_Mem_Log [x0, x1, (vi 3), v9] r3.2).bind fun r10 =>
  ld [.n, .f 1] x0 r10.2 fun v11 =>
  st 1 [.i 1 r3.1] v11 x4 r10.2 fun H12 =>
  some ((vb true), H12))) = some r) : FF n_r16_Mem_Swap [x0, x1, x2, x3, x4] H = some r :=
  fo Tryz.func142 (by kernel_rfl) h

-- FUNCTION r16_Mem_Load
theorem r16_Mem_Load_of (x0 x1 x2 : Value) (H : AH) {r : Value × AH} (h : (
  newK (Value.cells x2).toList H fun v0 H1 =>
  (pLdN 3 v0 H1).bind fun v2 =>
  (FF n_r16_Mem_Log [x0, x1, (vi 1), v2] H1).bind fun r3 =>
  (pLdN 3 v0 r3.2).bind fun v4 =>
  (FF n_r16_Mem_place [x0, v4] r3.2).bind fun r5 =>
  ld [.n, .f 1] x0 r5.2 fun v6 =>
  ld [.i 1 r5.1] v6 r5.2 fun v7 =>
  some (v7, r5.2)) = some r) : FF n_r16_Mem_Load [x0, x1, x2] H = some r :=
  fo Tryz.func144 (by kernel_rfl) h

-- FUNCTION mem_Mem_note
theorem mem_Mem_note_of (x0 x1 x2 x3 : Value) (H : AH) {r : Value × AH} (h : (
  newK (Value.cells x3).toList H fun v0 H1 =>
  ld [.n, .f 1] x0 H1 fun v2 =>
  (pLdN 3 v0 H1).bind fun v3 =>
  mkS [(0, 1), (1, 1), (2, 3)] [(vi 0), (vi 0), (vi 0), (vi 0), (vi 0)] [(0, x1), (1, x2), (2, v3)] fun v4 =>
  mkR 1 5 [(vi 0), (vi 0), (vi 0), (vi 0), (vi 0)] [(0, v4)] H1 fun v5 H6 =>
  (pApp 5 40 v2 v5 H6).bind fun r7 =>
  st 1 [.n, .f 1] x0 r7.1 r7.2 fun H8 =>
  some (Value.tuple #[], H8)) = some r) : FF n_mem_Mem_note [x0, x1, x2, x3] H = some r :=
  fo Tryz.func151 (by kernel_rfl) h

-- FUNCTION word_Rest
theorem word_Rest_of (x0 : Value) (H : AH) {r : Value × AH} (h : (
  (FF n_word_State [x0] H).bind fun r0 =>
  (pBin .other .neq r0.1 (vi 1)).bind fun v1 =>
  condK v1
  (some (Value.tuple #[(vw 0), (vb false)], r0.2))
  ((FF n_word_Count [x0] r0.2).bind fun r2 =>
  (FF n_word_Pack [r2.1, (vi 0)] r2.2).bind fun r3 =>
  (pExtract r3.1 0).bind fun v4 =>
  (pExtract r3.1 1).bind fun v5 =>
  some (Value.tuple #[v4, v5], r3.2))) = some r) : FF n_word_Rest [x0] H = some r :=
  fo Tryz.func154 (by kernel_rfl) h

-- FUNCTION r01_Turned
noncomputable def f155_b (p : List Nat) : Code := Code.sub (bodyOf Tryz.f155) p
noncomputable def f155_r : KK := cFin PP (Tryz.f155).results.toList
noncomputable def f155_n0 : KK := CQ (f155_b [1, 1]) f155_r kx0 f155_r
noncomputable def f155_m0 : KK := clr 72057594037927437 f155_n0
noncomputable def r01_Turned_k0 (x1 x4 x5 x6 x7 x8 : Value) (H : AH) : OV := f155_n0 (ls [u, x1, u, u, x4, x5, x6, x7, x8] 47) H
noncomputable def f155_n1 : KK := CQ (f155_b [1, 1, 1]) f155_r kx0 f155_r
noncomputable def f155_m1 : KK := clr 72057594037927887 f155_n1
noncomputable def r01_Turned_k1 (x4 x5 : Value) (H : AH) : OV := f155_n1 (ls [u, u, u, u, x4, x5] 50) H
noncomputable def f155_x2 : KX := BX 0 f155_m1 kx0
noncomputable def f155_y2 : KX := clx 72057594037927887 f155_x2
theorem f155_r_d : Resp 72057594037927887 f155_r := rf
theorem f155_n0_d : Resp 72057594037927437 f155_n0 := rc f155_r_d kx0_d f155_r_d
theorem f155_n1_d : Resp 72057594037927887 f155_n1 := rc f155_r_d kx0_d f155_r_d
theorem f155_x2_d : ∀ i, Resp 72057594037927887 (f155_x2 i) := rb (cd f155_n1_d) kx0_d
theorem r01_Turned_k1_eq (x4 x5 : Value) (H : AH) : r01_Turned_k1 x4 x5 H =
  some (Value.tuple #[(vw 0), (vb false)], H) :=
  (by kernel_rfl)
theorem r01_Turned_k0_eq (x1 x4 x5 x6 x7 x8 : Value) (H : AH) : r01_Turned_k0 x1 x4 x5 x6 x7 x8 H =
  (pUn .not x8).bind fun v3 =>
  condK v3
  (some (Value.tuple #[(vw 0), (vb false)], H))
  ((pBin .other .eql x1 (vi 0)).bind fun v4 =>
  (gV v4 true x7).bind fun v5 =>
  (gB v4 true (pBin .other .neq v5 (vi 2))).bind fun v6 =>
  (pPick v4 v6 (vb false)).bind fun v7 =>
  (gV v7 true x6).bind fun v8 =>
  (gB v7 true (pBin .other .lss v8 (vw 2305843009213693951))).bind fun v9 =>
  (pPick v7 v9 (vb false)).bind fun v10 =>
  condK v10
  ((pBin .other .add x6 (vw 1)).bind fun v11 =>
  (FF n_r01_Pack [v11, (vi 1)] H).bind fun r12 =>
  (pExtract r12.1 0).bind fun v13 =>
  (pExtract r12.1 1).bind fun v14 =>
  some (Value.tuple #[v13, v14], r12.2))
  ((pBin .other .eql x1 (vi 1)).bind fun v15 =>
  (gV v15 true x7).bind fun v16 =>
  (gB v15 true (pBin .other .eql v16 (vi 1))).bind fun v17 =>
  (pPick v15 v17 (vb false)).bind fun v18 =>
  condK v18
  ((FF n_r01_Pack [x6, (vi 0)] H).bind fun r19 =>
  (pExtract r19.1 0).bind fun v20 =>
  (pExtract r19.1 1).bind fun v21 =>
  some (Value.tuple #[v20, v21], r19.2))
  ((pBin .other .eql x1 (vi 2)).bind fun v22 =>
  (gV v22 true x7).bind fun v23 =>
  (gB v22 true (pBin .other .eql v23 (vi 0))).bind fun v24 =>
  (pPick v22 v24 (vb false)).bind fun v25 =>
  condK v25
  ((FF n_r01_Pack [x6, (vi 2)] H).bind fun r26 =>
  (pExtract r26.1 0).bind fun v27 =>
  (pExtract r26.1 1).bind fun v28 =>
  some (Value.tuple #[v27, v28], r26.2))
  (r01_Turned_k1 x4 x5 H)))) :=
  (pt rfl 0 f155_n1_d (bt rfl (f155_b [1, 1, 0, 4]) 0 f155_x2_d (by kernel_rfl)))
noncomputable def r01_Turned (x0 x1 : Value) (H : AH) : OV := cCode PP GG FF (f155_b []) (ls [x0, x1] 54) H f155_r kx0 f155_r
theorem r01_Turned_of (x0 x1 : Value) (H : AH) {r : Value × AH} (h : (
  (FF n_r01_Parts [x0] H).bind fun r29 =>
  (pExtract r29.1 0).bind fun v30 =>
  (pExtract r29.1 1).bind fun v31 =>
  (pExtract r29.1 2).bind fun v32 =>
  r01_Turned_k0 x1 (vw 0) (vb false) v30 v31 v32 r29.2) = some r) : FF n_r01_Turned [x0, x1] H = some r :=
  fo (t := r01_Turned x0 x1 H) Tryz.func155 (by kernel_rfl) (Eq.trans (pt rfl 1 f155_n0_d (by kernel_rfl)) h)

-- FUNCTION word_Shut
theorem word_Shut_of (x0 : Value) (H : AH) {r : Value × AH} (h : (
  (FF n_word_State [x0] H).bind fun r0 =>
  (pBin .other .neq r0.1 (vi 0)).bind fun v1 =>
  condK v1
  (some (Value.tuple #[(vw 0), (vb false)], r0.2))
  ((FF n_word_Count [x0] r0.2).bind fun r2 =>
  (FF n_word_Pack [r2.1, (vi 2)] r2.2).bind fun r3 =>
  (pExtract r3.1 0).bind fun v4 =>
  (pExtract r3.1 1).bind fun v5 =>
  some (Value.tuple #[v4, v5], r3.2))) = some r) : FF n_word_Shut [x0] H = some r :=
  fo Tryz.func157 (by kernel_rfl) h

-- FUNCTION table_Table_Lock
theorem table_Table_Lock_of (x0 x1 x2 : Value) (H : AH) {r : Value × AH} (h : (
  ad [.n, .f 0] x0 fun v0 =>
  (pLd1 v0 H).bind fun v1 =>
  (FF n_table_mutex [x2] H).bind fun r2 =>
  eqK (pLd1 v0 r2.2) (pLd1 v0 H) <|
  (FF n_mem_Mem_Swap [v1, x1, r2.1, (vw 0), (vw 1)] r2.2).bind fun r3 =>
  some (r3.1, r3.2)) = some r) : FF n_table_Table_Lock [x0, x1, x2] H = some r :=
  fo Tryz.func160 (by kernel_rfl) h

-- FUNCTION tour_New
noncomputable def f164_b (p : List Nat) : Code := Code.sub (bodyOf Tryz.f164) p
noncomputable def f164_r : KK := cFin PP (Tryz.f164).results.toList
noncomputable def f164_n0 : KK := CQ (f164_b [1, 1, 1]) f164_r kx0 f164_r
noncomputable def f164_m0 : KK := clr 4398046511090 f164_n0
noncomputable def tour_New_k0 (x0 x2 x3 : Value) (H : AH) : OV := f164_n0 (ls [x0, u, x2, x3] 38) H
noncomputable def f164_n1 : KK := CQ (f164_b [1, 1, 1, 1]) f164_r kx0 f164_r
noncomputable def f164_m1 : KK := clr 4398046511091 f164_n1
noncomputable def tour_New_k1 (x2 x3 : Value) (H : AH) : OV := f164_n1 (ls [u, u, x2, x3] 38) H
noncomputable def f164_n2 : KK := CQ (f164_b [1, 1, 1, 1, 1]) f164_r kx0 f164_r
noncomputable def f164_m2 : KK := clr 4398046511091 f164_n2
noncomputable def tour_New_k2 (x2 x3 : Value) (H : AH) : OV := f164_n2 (ls [u, u, x2, x3] 38) H
noncomputable def f164_n3 : KK := CQ (f164_b [1, 1, 1, 1, 0, 1]) f164_m2 kx0 f164_r
noncomputable def f164_m3 : KK := clr 4397241204723 f164_n3
noncomputable def tour_New_k3 (x2 x3 x28 x29 : Value) (H : AH) : OV := f164_n3 (ls [u, u, x2, x3, u, u, u, u, u, u, u, u, u, u, u, u, u, u, u, u, u, u, u, u, u, u, u, u, x28, x29] 12) H
noncomputable def f164_x4 : KX := BX 2 f164_m2 kx0
noncomputable def f164_y4 : KX := clx 4398046511091 f164_x4
noncomputable def f164_n5 : KK := CLq (f164_b [1, 1, 1, 1, 0, 1, 4, 5]) f164_y4 f164_r
noncomputable def f164_m5 : KK := clr 4397241204723 f164_n5
-- a loop
noncomputable def tour_New_k5 (x2 x3 x28 x29 : Value) (H : AH) : OV := f164_n5 (ls [u, u, x2, x3, u, u, u, u, u, u, u, u, u, u, u, u, u, u, u, u, u, u, u, u, u, u, u, u, x28, x29] 12) H
noncomputable def f164_n6 : KK := CQ (f164_b [1, 1, 1, 1, 0, 1, 4, 5, 1, 1]) f164_m5 f164_y4 f164_r
noncomputable def f164_m6 : KK := clr 4397241204723 f164_n6
noncomputable def tour_New_k6 (x2 x3 x28 x29 : Value) (H : AH) : OV := f164_n6 (ls [u, u, x2, x3, u, u, u, u, u, u, u, u, u, u, u, u, u, u, u, u, u, u, u, u, u, u, u, u, x28, x29] 12) H
noncomputable def f164_n7 : KK := CQ (f164_b [1, 1, 1, 1, 0, 1, 4, 5, 1, 1, 1]) f164_m5 f164_y4 f164_r
noncomputable def f164_m7 : KK := clr 4397241204723 f164_n7
noncomputable def tour_New_k7 (x2 x3 x28 x29 : Value) (H : AH) : OV := f164_n7 (ls [u, u, x2, x3, u, u, u, u, u, u, u, u, u, u, u, u, u, u, u, u, u, u, u, u, u, u, u, u, x28, x29] 12) H
noncomputable def f164_x9 : KX := BX 3 f164_m7 f164_y4
noncomputable def f164_y9 : KX := clx 4397241204723 f164_x9
noncomputable def tour_New_e4_2 (x2 x3 : Value) (H : AH) : OV := f164_x4 2 (ls [u, u, x2, x3] 38) H
noncomputable def f164_x18 : KX := BX 0 f164_m1 kx0
noncomputable def f164_y18 : KX := clx 4398046511091 f164_x18
noncomputable def f164_n19 : KK := CLq (f164_b [1, 1, 1, 0, 4, 5]) f164_y18 f164_r
noncomputable def f164_m19 : KK := clr 4398046511090 f164_n19
-- a loop
noncomputable def tour_New_k19 (x0 x2 x3 : Value) (H : AH) : OV := f164_n19 (ls [x0, u, x2, x3] 38) H
noncomputable def f164_n20 : KK := CQ (f164_b [1, 1, 1, 0, 4, 5, 1]) f164_m19 f164_y18 f164_r
noncomputable def f164_m20 : KK := clr 4398046511090 f164_n20
noncomputable def tour_New_k20 (x0 x2 x3 : Value) (H : AH) : OV := f164_n20 (ls [x0, u, x2, x3] 38) H
noncomputable def f164_x21 : KX := BX 1 f164_m19 f164_y18
noncomputable def f164_y21 : KX := clx 4398046511090 f164_x21
noncomputable def tour_New_e18_0 (x2 x3 : Value) (H : AH) : OV := f164_x18 0 (ls [u, u, x2, x3] 38) H
theorem f164_r_d : Resp 4398046511099 f164_r := rf
theorem f164_n0_d : Resp 4398046511090 f164_n0 := rc f164_r_d kx0_d f164_r_d
theorem f164_n1_d : Resp 4398046511091 f164_n1 := rc f164_r_d kx0_d f164_r_d
theorem f164_n2_d : Resp 4398046511091 f164_n2 := rc f164_r_d kx0_d f164_r_d
theorem f164_n3_d : Resp 4397241204723 f164_n3 := rc (cd f164_n2_d) kx0_d f164_r_d
theorem f164_x4_d : ∀ i, Resp 4398046511091 (f164_x4 i) := rb (cd f164_n2_d) kx0_d
theorem f164_n5_d : Resp 4397241204723 f164_n5 := rl (cx f164_x4_d) f164_r_d
theorem f164_n6_d : Resp 4397241204723 f164_n6 := rc (cd f164_n5_d) (cx f164_x4_d) f164_r_d
theorem f164_n7_d : Resp 4397241204723 f164_n7 := rc (cd f164_n5_d) (cx f164_x4_d) f164_r_d
theorem f164_x9_d : ∀ i, Resp 4397241204723 (f164_x9 i) := rb (cd f164_n7_d) (cx f164_x4_d)
theorem f164_x18_d : ∀ i, Resp 4398046511091 (f164_x18 i) := rb (cd f164_n1_d) kx0_d
theorem f164_n19_d : Resp 4398046511090 f164_n19 := rl (cx f164_x18_d) f164_r_d
theorem f164_n20_d : Resp 4398046511090 f164_n20 := rc (cd f164_n19_d) (cx f164_x18_d) f164_r_d
theorem f164_x21_d : ∀ i, Resp 4398046511090 (f164_x21 i) := rb (cd f164_n19_d) (cx f164_x18_d)
theorem tour_New_k2_eq (x2 x3 : Value) (H : AH) : tour_New_k2 x2 x3 H =
  some (x3, H) :=
  (by kernel_rfl)
theorem tour_New_k7_eq (x2 x3 x28 x29 : Value) (H : AH) : tour_New_k7 x2 x3 x28 x29 H =
  (pBin .other .add x29 (vi 1)).bind fun v8 =>
  tour_New_k5 x2 x3 x28 v8 H :=
  (by kernel_rfl)
theorem tour_New_k6_eq (x2 x3 x28 x29 : Value) (H : AH) : tour_New_k6 x2 x3 x28 x29 H =
  ld [.n, .f 2] x3 H fun v10 =>
  mkR 1 1 [(vi 0)] [(0, (vi (-1)))] H fun v11 H12 =>
  (pApp 1 8 v10 v11 H12).bind fun r13 =>
  st 1 [.n, .f 2] x3 r13.1 r13.2 fun H14 =>
  tour_New_k7 x2 x3 x28 x29 H14 :=
  (pt rfl 0 f164_n7_d (bt rfl (f164_b [1, 1, 1, 1, 0, 1, 4, 5, 1, 1, 0, 4]) 3 f164_x9_d (by kernel_rfl)))
theorem tour_New_e4_2_eq (x2 x3 : Value) (H : AH) : tour_New_e4_2 x2 x3 H = tour_New_k2 x2 x3 H :=
  (by kernel_rfl)
theorem tour_New_k5_eq (x2 x3 x28 x29 : Value) (H : AH) : tour_New_k5 x2 x3 x28 x29 H =
  (pBin .other .lss x29 x28).bind fun v15 =>
  condK v15
  (tour_New_k6 x2 x3 x28 x29 H)
  (tour_New_e4_2 x2 x3 H) :=
  lt' rfl f164_n5_d (pt rfl 1 f164_n6_d (by kernel_rfl))
theorem tour_New_k3_eq (x2 x3 x28 x29 : Value) (H : AH) : tour_New_k3 x2 x3 x28 x29 H =
  tour_New_k5 x2 x3 x28 x29 H :=
  (bt rfl (f164_b [1, 1, 1, 1, 0, 1, 4]) 2 f164_x4_d (li rfl (f164_b [1, 1, 1, 1, 0, 1, 4, 5]) f164_n5_d (by kernel_rfl)))
theorem tour_New_k1_eq (x2 x3 : Value) (H : AH) : tour_New_k1 x2 x3 H =
  ld [.n, .f 1] x3 H fun v16 =>
  (pBin .other .mul (vi 2) v16).bind fun v17 =>
  tour_New_k3 x2 x3 v17 (vi 0) H :=
  (pt rfl 0 f164_n2_d (pt rfl 0 f164_n3_d (by kernel_rfl)))
theorem tour_New_k20_eq (x0 x2 x3 : Value) (H : AH) : tour_New_k20 x0 x2 x3 H =
  ld [.n, .f 1] x3 H fun v22 =>
  (pBin .other .mul v22 (vi 2)).bind fun v23 =>
  st 1 [.n, .f 1] x3 v23 H fun H24 =>
  tour_New_k19 x0 x2 x3 H24 :=
  (bt rfl (f164_b [1, 1, 1, 0, 4, 5, 1, 4]) 1 f164_x21_d (by kernel_rfl))
theorem tour_New_e18_0_eq (x2 x3 : Value) (H : AH) : tour_New_e18_0 x2 x3 H = tour_New_k1 x2 x3 H :=
  (by kernel_rfl)
theorem tour_New_k19_eq (x0 x2 x3 : Value) (H : AH) : tour_New_k19 x0 x2 x3 H =
  ld [.n, .f 1] x3 H fun v25 =>
  (pBin .other .lss v25 x0).bind fun v26 =>
  condK v26
  (tour_New_k20 x0 x2 x3 H)
  (tour_New_e18_0 x2 x3 H) :=
  lt' rfl f164_n19_d (pt rfl 0 f164_n20_d (by kernel_rfl))
theorem tour_New_k0_eq (x0 x2 x3 : Value) (H : AH) : tour_New_k0 x0 x2 x3 H =
  tour_New_k19 x0 x2 x3 H :=
  (pt rfl 0 f164_n1_d (bt rfl (f164_b [1, 1, 1, 0, 4]) 0 f164_x18_d (li rfl (f164_b [1, 1, 1, 0, 4, 5]) f164_n19_d (by kernel_rfl))))
noncomputable def tour_New (x0 : Value) (H : AH) : OV := cCode PP GG FF (f164_b []) (ls [x0] 41) H f164_r kx0 f164_r
theorem tour_New_of (x0 : Value) (H : AH) {r : Value × AH} (h : (
  (pMax [x0, (vi 1)]).bind fun v27 =>
  (pMin [v27, (vi 16)]).bind fun v28 =>
  (pMake [(vw 0), (vi 0), (vb false)] 3 24 v28 v28 H).bind fun r29 =>
  mkS [(0, 1), (1, 1), (2, 1)] [(.slice none 0 0), (vi 0), (.slice none 0 0)] [(0, r29.1), (1, (vi 1))] fun v30 =>
  newK (Value.cells v30).toList r29.2 fun v31 H32 =>
  tour_New_k0 v28 (.pointer none) v31 H32) = some r) : FF n_tour_New [x0] H = some r :=
  fo (t := tour_New x0 H) Tryz.func164 (by kernel_rfl) (Eq.trans (pt rfl 2 f164_n0_d (by kernel_rfl)) h)

-- FUNCTION shard_New
theorem shard_New_of (x0 : Value) (H : AH) {r : Value × AH} (h : (
  (FF n_wheel_New [x0] H).bind fun r0 =>
  (FF n_heap_New [] r0.2).bind fun r1 =>
  mkS [(0, 1), (1, 1), (2, 1)] [(.pointer none), (.pointer none), (vi 0)] [(0, r0.1), (1, r1.1), (2, x0)] fun v2 =>
  newK (Value.cells v2).toList r1.2 fun v3 H4 =>
  some (v3, H4)) = some r) : FF n_shard_New [x0] H = some r :=
  fo Tryz.func165 (by kernel_rfl) h

-- FUNCTION r01_Width
theorem r01_Width_of (x0 : Value) (H : AH) {r : Value × AH} (h : (
  (pMax [x0, (vi 0)]).bind fun v0 =>
  (pMin [v0, (vi 40)]).bind fun v1 =>
  some (v1, H)) = some r) : FF n_r01_Width [x0] H = some r :=
  fo Tryz.func174 (by kernel_rfl) h

-- FUNCTION parts_Parts_Note
theorem parts_Parts_Note_of (x0 x1 x2 x3 : Value) (H : AH) {r : Value × AH} (h : (
  newK (Value.cells x3).toList H fun v0 H1 =>
  ad [.n, .f 12] x0 fun v2 =>
  (pLd1 v2 H1).bind fun v3 =>
  ad [.n, .f 11] x0 fun v4 =>
  (pLd1 v4 H1).bind fun v5 =>
  (pLookup .int (vi 0) v5 x2 false H1).bind fun v6 =>
  (pLdN 4 v0 H1).bind fun v7 =>
  (FF n_parts_own [v7] H1).bind fun r8 =>
  eqK (pLd1 v2 r8.2) (pLd1 v2 H1) <|
  eqK (pLd1 v4 r8.2) (pLd1 v4 H1) <|
  eqK (pLookup .int (vi 0) v5 x2 false r8.2) (pLookup .int (vi 0) v5 x2 false H1) <|
  mkS [(0, 1), (1, 1), (2, 1), (3, 4)] [(vi 0), (vi 0), (vi 0), (vi 0), (.slice none 0 0), (vi 0), (vw 0)] [(0, x1), (1, x2), (2, v6), (3, r8.1)] fun v9 =>
  mkR 1 7 [(vi 0), (vi 0), (vi 0), (vi 0), (.slice none 0 0), (vi 0), (vw 0)] [(0, v9)] r8.2 fun v10 H11 =>
  (pApp 7 72 v3 v10 H11).bind fun r12 =>
  st 1 [.n, .f 12] x0 r12.1 r12.2 fun H13 =>
  some (Value.tuple #[], H13)) = some r) : FF n_parts_Parts_Note [x0, x1, x2, x3] H = some r :=
  fo Tryz.func175 (by kernel_rfl) h

-- FUNCTION table_Table_Slot
theorem table_Table_Slot_of (x0 x1 x2 x3 : Value) (H : AH) {r : Value × AH} (h : (
  ad [.n, .f 0] x0 fun v0 =>
  (pLd1 v0 H).bind fun v1 =>
  (FF n_table_slot [x2, x3] H).bind fun r2 =>
  eqK (pLd1 v0 r2.2) (pLd1 v0 H) <|
  (FF n_mem_Mem_Load [v1, x1, r2.1] r2.2).bind fun r3 =>
  (pBin .other .eql r3.1 (vw 0)).bind fun v4 =>
  condK v4
  (some (Value.tuple #[(vi 0), (vi 0), (vb false)], r3.2))
  ((pBin .other .shr r3.1 (vw 32)).bind fun v5 =>
  (pConv (some .i64) v5).bind fun v6 =>
  (pBin .other .sub v6 (vi 1)).bind fun v7 =>
  (pBin .other .and r3.1 (vw 4294967295)).bind fun v8 =>
  (pConv (some .i64) v8).bind fun v9 =>
  some (Value.tuple #[v7, v9, (vb true)], r3.2))) = some r) : FF n_table_Table_Slot [x0, x1, x2, x3] H = some r :=
  fo Tryz.func176 (by kernel_rfl) h

-- FUNCTION table_Table_Slots
theorem table_Table_Slots_of (x0 : Value) (H : AH) {r : Value × AH} (h : (
  ld [.n, .f 2] x0 H fun v0 =>
  some (v0, H)) = some r) : FF n_table_Table_Slots [x0] H = some r :=
  fo Tryz.func177 (by kernel_rfl) h

-- FUNCTION mem_Mem_Swap
theorem mem_Mem_Swap_of (x0 x1 x2 x3 x4 : Value) (H : AH) {r : Value × AH} (h : (
  newK (Value.cells x2).toList H fun v0 H1 =>
  (pLdN 3 v0 H1).bind fun v2 =>
  (FF n_mem_Mem_Peek [x0, v2] H1).bind fun r3 =>
  (pBin .other .neq r3.1 x3).bind fun v4 =>
  condK v4
  ((pLdN 3 v0 r3.2).bind fun v5 =>
  (FF n_mem_Mem_note [x0, x1, (vi 4), v5] r3.2).bind fun r6 =>
  some ((vb false), r6.2))
  ((pLdN 3 v0 r3.2).bind fun v7 =>
  (FF n_mem_Mem_turn [x0, x1, v7, x4] r3.2).bind fun r8 =>
  some ((vb true), r8.2))) = some r) : FF n_mem_Mem_Swap [x0, x1, x2, x3, x4] H = some r :=
  fo Tryz.func183 (by kernel_rfl) h

-- FUNCTION word_State
theorem word_State_of (x0 : Value) (H : AH) {r : Value × AH} (h : (
  (FF n_word_Right [x0] H).bind fun r0 =>
  (pUn .not r0.1).bind fun v1 =>
  condK v1
  (some ((vi (-1)), r0.2))
  ((pBin .other .shr x0 (vw 61)).bind fun v2 =>
  (pConv (some .i64) v2).bind fun v3 =>
  some (v3, r0.2))) = some r) : FF n_word_State [x0] H = some r :=
  fo Tryz.func184 (by kernel_rfl) h

-- FUNCTION word_Pack
theorem word_Pack_of (x0 x1 : Value) (H : AH) {r : Value × AH} (h : (
  (pBin .other .gtr x0 (vw 2305843009213693951)).bind fun v0 =>
  (gV v0 false x1).bind fun v1 =>
  (gB v0 false (pBin .other .lss v1 (vi 0))).bind fun v2 =>
  (pPick v0 (vb true) v2).bind fun v3 =>
  (gV v3 false x1).bind fun v4 =>
  (gB v3 false (pBin .other .geq v4 (vi 3))).bind fun v5 =>
  (pPick v3 (vb true) v5).bind fun v6 =>
  condK v6
  (some (Value.tuple #[(vw 0), (vb false)], H))
  ((pConv (some .u64) x1).bind fun v7 =>
  (pBin .other .shl v7 (vw 61)).bind fun v8 =>
  (pBin .other .or v8 x0).bind fun v9 =>
  some (Value.tuple #[v9, (vb true)], H))) = some r) : FF n_word_Pack [x0, x1] H = some r :=
  fo Tryz.func185 (by kernel_rfl) h

-- FUNCTION word_Count
theorem word_Count_of (x0 : Value) (H : AH) {r : Value × AH} (h : (
  (FF n_word_Right [x0] H).bind fun r0 =>
  (pUn .not r0.1).bind fun v1 =>
  condK v1
  (some ((vw 0), r0.2))
  ((pBin .other .and x0 (vw 2305843009213693951)).bind fun v2 =>
  some (v2, r0.2))) = some r) : FF n_word_Count [x0] H = some r :=
  fo Tryz.func186 (by kernel_rfl) h

end Go.Proofs.YtodpbobjmkhcfaaGreatDoor.Gst
