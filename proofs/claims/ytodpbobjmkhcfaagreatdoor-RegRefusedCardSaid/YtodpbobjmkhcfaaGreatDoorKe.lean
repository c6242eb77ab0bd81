/- THE FUNCTIONS OF THE PROGRAM AS PLAIN LEAN FUNCTIONS: printed by a program of this work (XPr), each checked by the kernel against the program's text. -/
import Derived.Test.YtodpbobjmkhcfaaGreatDoorKa
namespace Go.Proofs.YtodpbobjmkhcfaaGreatDoor.Gst
open Go Go.RowKit
set_option maxRecDepth 100000
set_option linter.unusedVariables false
set_option maxHeartbeats 1000000
-- FUNCTION r16_Mem_place
noncomputable def f101_b (p : List Nat) : Code := Code.sub (bodyOf Tryz.f101) p
noncomputable def f101_r : KK := cFin PP (Tryz.f101).results.toList
noncomputable def f101_n0 : KK := CQ (f101_b [1]) f101_r kx0 f101_r
noncomputable def f101_m0 : KK := clr 1125899906842598 f101_n0
noncomputable def r16_Mem_place_k0 (x0 x3 x4 : Value) (H : AH) : OV := f101_n0 (ls [x0, u, u, x3, x4] 45) H
noncomputable def f101_n1 : KK := CQ (f101_b [1, 1]) f101_r kx0 f101_r
noncomputable def f101_m1 : KK := clr 1125899906842598 f101_n1
noncomputable def r16_Mem_place_k1 (x0 x3 x4 : Value) (H : AH) : OV := f101_n1 (ls [x0, u, u, x3, x4] 45) H
noncomputable def f101_n17 : KK := CQ (f101_b [1, 0, 1]) f101_m1 kx0 f101_r
noncomputable def f101_m17 : KK := clr 1125899906842566 f101_n17
noncomputable def r16_Mem_place_k17 (x0 x3 x4 x5 : Value) (H : AH) : OV := f101_n17 (ls [x0, u, u, x3, x4, x5] 44) H
noncomputable def f101_x18 : KX := BX 0 f101_m1 kx0
noncomputable def f101_y18 : KX := clx 1125899906842598 f101_x18
noncomputable def f101_n19 : KK := CLq (f101_b [1, 0, 1, 4, 5]) f101_y18 f101_r
noncomputable def f101_m19 : KK := clr 1125899906842566 f101_n19
-- a loop
noncomputable def r16_Mem_place_k19 (x0 x3 x4 x5 : Value) (H : AH) : OV := f101_n19 (ls [x0, u, u, x3, x4, x5] 44) H
noncomputable def f101_n20 : KK := CQ (f101_b [1, 0, 1, 4, 5, 1]) f101_m19 f101_y18 f101_r
noncomputable def f101_m20 : KK := clr 1125899906842566 f101_n20
noncomputable def r16_Mem_place_k20 (x0 x3 x4 x5 : Value) (H : AH) : OV := f101_n20 (ls [x0, u, u, x3, x4, x5] 44) H
noncomputable def f101_n21 : KK := CQ (f101_b [1, 0, 1, 4, 5, 1, 1]) f101_m19 f101_y18 f101_r
noncomputable def f101_m21 : KK := clr 1125899906842566 f101_n21
noncomputable def r16_Mem_place_k21 (x0 x3 x4 x5 : Value) (H : AH) : OV := f101_n21 (ls [x0, u, u, x3, x4, x5] 44) H
noncomputable def f101_x23 : KX := BX 1 f101_m21 f101_y18
noncomputable def f101_y23 : KX := clx 1125899906842566 f101_x23
noncomputable def r16_Mem_place_e18_0 (x0 x3 x4 : Value) (H : AH) : OV := f101_x18 0 (ls [x0, u, u, x3, x4] 45) H
theorem f101_r_d : Resp 1125899906842607 f101_r := rf
theorem f101_n0_d : Resp 1125899906842598 f101_n0 := rc f101_r_d kx0_d f101_r_d
theorem f101_n1_d : Resp 1125899906842598 f101_n1 := rc f101_r_d kx0_d f101_r_d
theorem f101_n17_d : Resp 1125899906842566 f101_n17 := rc (cd f101_n1_d) kx0_d f101_r_d
theorem f101_x18_d : ∀ i, Resp 1125899906842598 (f101_x18 i) := rb (cd f101_n1_d) kx0_d
theorem f101_n19_d : Resp 1125899906842566 f101_n19 := rl (cx f101_x18_d) f101_r_d
theorem f101_n20_d : Resp 1125899906842566 f101_n20 := rc (cd f101_n19_d) (cx f101_x18_d) f101_r_d
theorem f101_n21_d : Resp 1125899906842566 f101_n21 := rc (cd f101_n19_d) (cx f101_x18_d) f101_r_d
theorem f101_x23_d : ∀ i, Resp 1125899906842566 (f101_x23 i) := rb (cd f101_n21_d) (cx f101_x18_d)
theorem r16_Mem_place_k1_eq (x0 x3 x4 : Value) (H : AH) : r16_Mem_place_k1 x0 x3 x4 H =
  ld [.n, .f 0] x0 H fun v2 =>
  (pLdN 3 x3 H).bind fun v3 =>
  mkR 1 3 [(vi 0), (vi 0), (vi 0)] [(0, v3)] H fun v4 H5 =>
  (pApp 3 24 v2 v4 H5).bind fun r6 =>
  ad [.n, .f 1] x0 fun v7 =>
  (pLd1 v7 r6.2).bind fun v8 =>
  eqK (pLd1 v7 H5) (pLd1 v7 r6.2) <|
  mkR 1 1 [(vw 0)] [(0, (vw 0))] r6.2 fun v9 H10 =>
  (pApp 1 8 v8 v9 H10).bind fun r11 =>
  st 1 [.n, .f 0] x0 r6.1 r11.2 fun H12 =>
  st 1 [.n, .f 1] x0 r11.1 H12 fun H13 =>
  ld [.n, .f 0] x0 H13 fun v14 =>
  lenK v14 fun v15 =>
  (pBin .other .sub v15 (vi 1)).bind fun v16 =>
  some (v16, H13) :=
  (by kernel_rfl)
theorem r16_Mem_place_k21_eq (x0 x3 x4 x5 : Value) (H : AH) : r16_Mem_place_k21 x0 x3 x4 x5 H =
  (pBin .other .add x5 (vi 1)).bind fun v22 =>
  r16_Mem_place_k19 x0 x3 x4 v22 H :=
  (by kernel_rfl)
theorem r16_Mem_place_k20_eq (x0 x3 x4 x5 : Value) (H : AH) : r16_Mem_place_k20 x0 x3 x4 x5 H =
  ld [.n, .f 0] x0 H fun v24 =>
  ldN 3 [.i 3 x5] v24 H fun v25 =>
  (pLdN 3 x3 H).bind fun v26 =>
  (pBin (.flat 3) .eql v25 v26).bind fun v27 =>
  condK v27
  (some (x5, H))
  (r16_Mem_place_k21 x0 x3 x4 x5 H) :=
  (pt rfl 0 f101_n21_d (bt rfl (f101_b [1, 0, 1, 4, 5, 1, 0, 4]) 1 f101_x23_d (by kernel_rfl)))
theorem r16_Mem_place_e18_0_eq (x0 x3 x4 : Value) (H : AH) : r16_Mem_place_e18_0 x0 x3 x4 H = r16_Mem_place_k1 x0 x3 x4 H :=
  (by kernel_rfl)
theorem r16_Mem_place_k19_eq (x0 x3 x4 x5 : Value) (H : AH) : r16_Mem_place_k19 x0 x3 x4 x5 H =
  ld [.n, .f 0] x0 H fun v28 =>
  lenK v28 fun v29 =>
  (pBin .other .lss x5 v29).bind fun v30 =>
  condK v30
  (r16_Mem_place_k20 x0 x3 x4 x5 H)
  (r16_Mem_place_e18_0 x0 x3 x4 H) :=
  lt' rfl f101_n19_d (pt rfl 0 f101_n20_d (by kernel_rfl))
theorem r16_Mem_place_k17_eq (x0 x3 x4 x5 : Value) (H : AH) : r16_Mem_place_k17 x0 x3 x4 x5 H =
  r16_Mem_place_k19 x0 x3 x4 x5 H :=
  (bt rfl (f101_b [1, 0, 1, 4]) 0 f101_x18_d (li rfl (f101_b [1, 0, 1, 4, 5]) f101_n19_d (by kernel_rfl)))
theorem r16_Mem_place_k0_eq (x0 x3 x4 : Value) (H : AH) : r16_Mem_place_k0 x0 x3 x4 H =
  r16_Mem_place_k17 x0 x3 x4 (vi 0) H :=
  (pt rfl 0 f101_n1_d (pt rfl 0 f101_n17_d (by kernel_rfl)))
noncomputable def r16_Mem_place (x0 x1 : Value) (H : AH) : OV := cCode PP GG FF (f101_b []) (ls [x0, x1] 48) H f101_r kx0 f101_r
theorem r16_Mem_place_of (x0 x1 : Value) (H : AH) {r : Value × AH} (h : (
  newK (Value.cells x1).toList H fun v31 H32 =>
  r16_Mem_place_k0 x0 v31 (vi 0) H32) = some r) : FF n_r16_Mem_place [x0, x1] H = some r :=
  fo (t := r16_Mem_place x0 x1 H) Tryz.func101 (by kernel_rfl) (Eq.trans (pt rfl 0 f101_n0_d (by kernel_rfl)) h)

-- FUNCTION r16_Mem_Log
theorem r16_Mem_Log_of (x0 x1 x2 x3 : Value) (H : AH) {r : Value × AH} (h : (
  newK (Value.cells x3).toList H fun v0 H1 =>
  ld [.n, .f 2] x0 H1 fun v2 =>
  (pLdN 3 v0 H1).bind fun v3 =>
  mkS [(0, 1), (1, 1), (2, 3)] [(vi 0), (vi 0), (vi 0), (vi 0), (vi 0)] [(0, x1), (1, x2), (2, v3)] fun v4 =>
  mkR 1 5 [(vi 0), (vi 0), (vi 0), (vi 0), (vi 0)] [(0, v4)] H1 fun v5 H6 =>
  (pApp 5 40 v2 v5 H6).bind fun r7 =>
  st 1 [.n, .f 2] x0 r7.1 r7.2 fun H8 =>
  some (Value.tuple #[], H8)) = some r) : FF n_r16_Mem_Log [x0, x1, x2, x3] H = some r :=
  fo Tryz.func102 (by kernel_rfl) h

-- FUNCTION r16_Mem_Peek
theorem r16_Mem_Peek_of (x0 x1 : Value) (H : AH) {r : Value × AH} (h : (
  newK (Value.cells x1).toList H fun v0 H1 =>
  (pLdN 3 v0 H1).bind fun v2 =>
  (FF n_r16_Mem_place [x0, v2] H1).bind fun r3 =>
  ld [.n, .f 1] x0 r3.2 fun v4 =>
  ld [.i 1 r3.1] v4 r3.2 fun v5 =>
  some (v5, r3.2)) = some r) : FF n_r16_Mem_Peek [x0, x1] H = some r :=
  fo Tryz.func104 (by kernel_rfl) h

-- FUNCTION table_Table_Clear
theorem table_Table_Clear_of (x0 x1 x2 x3 : Value) (H : AH) {r : Value × AH} (h : (
  ad [.n, .f 0] x0 fun v0 =>
  (pLd1 v0 H).bind fun v1 =>
  (FF n_table_slot [x2, x3] H).bind fun r2 =>
  eqK (pLd1 v0 r2.2) (pLd1 v0 H) <|
  (FF n_mem_Mem_Store [v1, x1, r2.1, (vw 0)] r2.2).bind fun r3 =>
  some (Value.tuple #[], r3.2)) = some r) : FF n_table_Table_Clear [x0, x1, x2, x3] H = some r :=
  fo Tryz.func109 (by kernel_rfl) h

-- FUNCTION r16_Table_Clear
theorem r16_Table_Clear_of (x0 x1 x2 x3 : Value) (H : AH) {r : Value × AH} (h : (
  ad [.n, .f 0] x0 fun v0 =>
  (pLd1 v0 H).bind fun v1 =>
  (FF n_r16_Loc [(vi 10), x2, x3] H).bind fun r2 =>
  eqK (pLd1 v0 r2.2) (pLd1 v0 H) <|
  (FF n_r16_Mem_Store [v1, x1, r2.1, (vw 0)] r2.2).bind fun r3 =>
  some (Value.tuple #[], r3.2)) = some r) : FF n_r16_Table_Clear [x0, x1, x2, x3] H = some r :=
  fo Tryz.func110 (by kernel_rfl) h

-- FUNCTION model_within
theorem model_within_of (x0 x1 x2 : Value) (H : AH) {r : Value × AH} (h : (
  (pBin .other .geq x0 x1).bind fun v0 =>
  (gV v0 true x0).bind fun v1 =>
  (gV v0 true x2).bind fun v2 =>
  (gB v0 true (pBin .other .leq v1 v2)).bind fun v3 =>
  (pPick v0 v3 (vb false)).bind fun v4 =>
  some (v4, H)) = some r) : FF n_model_within [x0, x1, x2] H = some r :=
  fo Tryz.func118 (by kernel_rfl) h

-- FUNCTION queue_New
noncomputable def f120_b (p : List Nat) : Code := Code.sub (bodyOf Tryz.f120) p
noncomputable def f120_r : KK := cFin PP (Tryz.f120).results.toList
noncomputable def f120_n0 : KK := CQ (f120_b [1, 1, 1]) f120_r kx0 f120_r
noncomputable def f120_m0 : KK := clr 1073741709 f120_n0
noncomputable def queue_New_k0 (x1 x4 x5 x6 : Value) (H : AH) : OV := f120_n0 (ls [u, x1, u, u, x4, x5, x6] 23) H
noncomputable def f120_n1 : KK := CQ (f120_b [1, 1, 1, 1]) f120_r kx0 f120_r
noncomputable def f120_m1 : KK := clr 1073741743 f120_n1
noncomputable def queue_New_k1 (x4 x6 : Value) (H : AH) : OV := f120_n1 (ls [u, u, u, u, x4, u, x6] 23) H
noncomputable def f120_n2 : KK := CQ (f120_b [1, 1, 1, 0, 1]) f120_m1 kx0 f120_r
noncomputable def f120_m2 : KK := clr 1073692589 f120_n2
noncomputable def queue_New_k2 (x1 x4 x6 x14 x15 : Value) (H : AH) : OV := f120_n2 (ls [u, x1, u, u, x4, u, x6, u, u, u, u, u, u, u, x14, x15] 14) H
noncomputable def f120_x3 : KX := BX 0 f120_m1 kx0
noncomputable def f120_y3 : KX := clx 1073741743 f120_x3
noncomputable def f120_n4 : KK := CLq (f120_b [1, 1, 1, 0, 1, 4, 5]) f120_y3 f120_r
noncomputable def f120_m4 : KK := clr 1073692589 f120_n4
-- a loop
noncomputable def queue_New_k4 (x1 x4 x6 x14 x15 : Value) (H : AH) : OV := f120_n4 (ls [u, x1, u, u, x4, u, x6, u, u, u, u, u, u, u, x14, x15] 14) H
noncomputable def f120_n5 : KK := CQ (f120_b [1, 1, 1, 0, 1, 4, 5, 1, 1]) f120_m4 f120_y3 f120_r
noncomputable def f120_m5 : KK := clr 1073692589 f120_n5
noncomputable def queue_New_k5 (x1 x4 x6 x14 x15 : Value) (H : AH) : OV := f120_n5 (ls [u, x1, u, u, x4, u, x6, u, u, u, u, u, u, u, x14, x15] 14) H
noncomputable def f120_n6 : KK := CQ (f120_b [1, 1, 1, 0, 1, 4, 5, 1, 1, 1]) f120_m4 f120_y3 f120_r
noncomputable def f120_m6 : KK := clr 1073692589 f120_n6
noncomputable def queue_New_k6 (x1 x4 x6 x14 x15 : Value) (H : AH) : OV := f120_n6 (ls [u, x1, u, u, x4, u, x6, u, u, u, u, u, u, u, x14, x15] 14) H
noncomputable def f120_x8 : KX := BX 1 f120_m6 f120_y3
noncomputable def f120_y8 : KX := clx 1073692589 f120_x8
noncomputable def queue_New_e3_0 (x4 x6 : Value) (H : AH) : OV := f120_x3 0 (ls [u, u, u, u, x4, u, x6] 23) H
theorem f120_r_d : Resp 1073741807 f120_r := rf
theorem f120_n0_d : Resp 1073741709 f120_n0 := rc f120_r_d kx0_d f120_r_d
theorem f120_n1_d : Resp 1073741743 f120_n1 := rc f120_r_d kx0_d f120_r_d
theorem f120_n2_d : Resp 1073692589 f120_n2 := rc (cd f120_n1_d) kx0_d f120_r_d
theorem f120_x3_d : ∀ i, Resp 1073741743 (f120_x3 i) := rb (cd f120_n1_d) kx0_d
theorem f120_n4_d : Resp 1073692589 f120_n4 := rl (cx f120_x3_d) f120_r_d
theorem f120_n5_d : Resp 1073692589 f120_n5 := rc (cd f120_n4_d) (cx f120_x3_d) f120_r_d
theorem f120_n6_d : Resp 1073692589 f120_n6 := rc (cd f120_n4_d) (cx f120_x3_d) f120_r_d
theorem f120_x8_d : ∀ i, Resp 1073692589 (f120_x8 i) := rb (cd f120_n6_d) (cx f120_x3_d)
theorem queue_New_k1_eq (x4 x6 : Value) (H : AH) : queue_New_k1 x4 x6 H =
  some (x6, H) :=
  (by kernel_rfl)
theorem queue_New_k6_eq (x1 x4 x6 x14 x15 : Value) (H : AH) : queue_New_k6 x1 x4 x6 x14 x15 H =
  (pBin .other .add x15 (vi 1)).bind fun v7 =>
  queue_New_k4 x1 x4 x6 x14 v7 H :=
  (by kernel_rfl)
theorem queue_New_k5_eq (x1 x4 x6 x14 x15 : Value) (H : AH) : queue_New_k5 x1 x4 x6 x14 x15 H =
  ad [.n, .f 0] x6 fun v9 =>
  (pLd1 v9 H).bind fun v10 =>
  (FF n_shard_New [x1] H).bind fun r11 =>
  eqK (pLd1 v9 r11.2) (pLd1 v9 H) <|
  mkR 1 1 [(.pointer none)] [(0, r11.1)] r11.2 fun v12 H13 =>
  (pApp 1 8 v10 v12 H13).bind fun r14 =>
  st 1 [.n, .f 0] x6 r14.1 r14.2 fun H15 =>
  queue_New_k6 x1 x4 x6 x14 x15 H15 :=
  (pt rfl 0 f120_n6_d (bt rfl (f120_b [1, 1, 1, 0, 1, 4, 5, 1, 1, 0, 4]) 1 f120_x8_d (by kernel_rfl)))
theorem queue_New_e3_0_eq (x4 x6 : Value) (H : AH) : queue_New_e3_0 x4 x6 H = queue_New_k1 x4 x6 H :=
  (by kernel_rfl)
theorem queue_New_k4_eq (x1 x4 x6 x14 x15 : Value) (H : AH) : queue_New_k4 x1 x4 x6 x14 x15 H =
  (pBin .other .lss x15 x14).bind fun v16 =>
  condK v16
  (queue_New_k5 x1 x4 x6 x14 x15 H)
  (queue_New_e3_0 x4 x6 H) :=
  lt' rfl f120_n4_d (pt rfl 1 f120_n5_d (by kernel_rfl))
theorem queue_New_k2_eq (x1 x4 x6 x14 x15 : Value) (H : AH) : queue_New_k2 x1 x4 x6 x14 x15 H =
  queue_New_k4 x1 x4 x6 x14 x15 H :=
  (bt rfl (f120_b [1, 1, 1, 0, 1, 4]) 0 f120_x3_d (li rfl (f120_b [1, 1, 1, 0, 1, 4, 5]) f120_n4_d (by kernel_rfl)))
theorem queue_New_k0_eq (x1 x4 x5 x6 : Value) (H : AH) : queue_New_k0 x1 x4 x5 x6 H =
  queue_New_k2 x1 x4 x6 x5 (vi 0) H :=
  (pt rfl 0 f120_n1_d (pt rfl 0 f120_n2_d (by kernel_rfl)))
noncomputable def queue_New (x0 x1 : Value) (H : AH) : OV := cCode PP GG FF (f120_b []) (ls [x0, x1] 28) H f120_r kx0 f120_r
theorem queue_New_of (x0 x1 : Value) (H : AH) {r : Value × AH} (h : (
  (pMax [x0, (vi 1)]).bind fun v17 =>
  (pMin [v17, (vi 16)]).bind fun v18 =>
  (FF n_tour_New [v18] H).bind fun r19 =>
  mkS [(0, 1), (1, 1)] [(.slice none 0 0), (.pointer none)] [(1, r19.1)] fun v20 =>
  newK (Value.cells v20).toList r19.2 fun v21 H22 =>
  queue_New_k0 x1 (.pointer none) v18 v21 H22) = some r) : FF n_queue_New [x0, x1] H = some r :=
  fo (t := queue_New x0 x1 H) Tryz.func120 (by kernel_rfl) (Eq.trans (pt rfl 2 f120_n0_d (by kernel_rfl)) h)

-- FUNCTION r01_NewQueue
noncomputable def f124_b (p : List Nat) : Code := Code.sub (bodyOf Tryz.f124) p
noncomputable def f124_r : KK := cFin PP (Tryz.f124).results.toList
noncomputable def f124_n0 : KK := CQ (f124_b [1, 1]) f124_r kx0 f124_r
noncomputable def f124_m0 : KK := clr 1073741772 f124_n0
noncomputable def r01_NewQueue_k0 (x0 x1 x4 x5 : Value) (H : AH) : OV := f124_n0 (ls [x0, x1, u, u, x4, x5] 24) H
noncomputable def f124_n1 : KK := CQ (f124_b [1, 1, 1]) f124_r kx0 f124_r
noncomputable def f124_m1 : KK := clr 1073741775 f124_n1
noncomputable def r01_NewQueue_k1 (x4 x5 : Value) (H : AH) : OV := f124_n1 (ls [u, u, u, u, x4, x5] 24) H
noncomputable def f124_n2 : KK := CQ (f124_b [1, 1, 0, 1]) f124_m1 kx0 f124_r
noncomputable def f124_m2 : KK := clr 1073741708 f124_n2
noncomputable def r01_NewQueue_k2 (x0 x1 x4 x5 x6 : Value) (H : AH) : OV := f124_n2 (ls [x0, x1, u, u, x4, x5, x6] 23) H
noncomputable def f124_x3 : KX := BX 0 f124_m1 kx0
noncomputable def f124_y3 : KX := clx 1073741775 f124_x3
noncomputable def f124_n4 : KK := CLq (f124_b [1, 1, 0, 1, 4, 5]) f124_y3 f124_r
noncomputable def f124_m4 : KK := clr 1073741708 f124_n4
-- a loop
noncomputable def r01_NewQueue_k4 (x0 x1 x4 x5 x6 : Value) (H : AH) : OV := f124_n4 (ls [x0, x1, u, u, x4, x5, x6] 23) H
noncomputable def f124_n5 : KK := CQ (f124_b [1, 1, 0, 1, 4, 5, 1]) f124_m4 f124_y3 f124_r
noncomputable def f124_m5 : KK := clr 1073741708 f124_n5
noncomputable def r01_NewQueue_k5 (x0 x1 x4 x5 x6 : Value) (H : AH) : OV := f124_n5 (ls [x0, x1, u, u, x4, x5, x6] 23) H
noncomputable def f124_n6 : KK := CQ (f124_b [1, 1, 0, 1, 4, 5, 1, 1]) f124_m4 f124_y3 f124_r
noncomputable def f124_m6 : KK := clr 1073741708 f124_n6
noncomputable def r01_NewQueue_k6 (x0 x1 x4 x5 x6 : Value) (H : AH) : OV := f124_n6 (ls [x0, x1, u, u, x4, x5, x6] 23) H
noncomputable def f124_x8 : KX := BX 1 f124_m6 f124_y3
noncomputable def f124_y8 : KX := clx 1073741708 f124_x8
noncomputable def r01_NewQueue_e3_0 (x4 x5 : Value) (H : AH) : OV := f124_x3 0 (ls [u, u, u, u, x4, x5] 24) H
theorem f124_r_d : Resp 1073741807 f124_r := rf
theorem f124_n0_d : Resp 1073741772 f124_n0 := rc f124_r_d kx0_d f124_r_d
theorem f124_n1_d : Resp 1073741775 f124_n1 := rc f124_r_d kx0_d f124_r_d
theorem f124_n2_d : Resp 1073741708 f124_n2 := rc (cd f124_n1_d) kx0_d f124_r_d
theorem f124_x3_d : ∀ i, Resp 1073741775 (f124_x3 i) := rb (cd f124_n1_d) kx0_d
theorem f124_n4_d : Resp 1073741708 f124_n4 := rl (cx f124_x3_d) f124_r_d
theorem f124_n5_d : Resp 1073741708 f124_n5 := rc (cd f124_n4_d) (cx f124_x3_d) f124_r_d
theorem f124_n6_d : Resp 1073741708 f124_n6 := rc (cd f124_n4_d) (cx f124_x3_d) f124_r_d
theorem f124_x8_d : ∀ i, Resp 1073741708 (f124_x8 i) := rb (cd f124_n6_d) (cx f124_x3_d)
theorem r01_NewQueue_k1_eq (x4 x5 : Value) (H : AH) : r01_NewQueue_k1 x4 x5 H =
  some (x5, H) :=
  (by kernel_rfl)
theorem r01_NewQueue_k6_eq (x0 x1 x4 x5 x6 : Value) (H : AH) : r01_NewQueue_k6 x0 x1 x4 x5 x6 H =
  (pBin .other .add x6 (vi 1)).bind fun v7 =>
  r01_NewQueue_k4 x0 x1 x4 x5 v7 H :=
  (by kernel_rfl)
theorem r01_NewQueue_k5_eq (x0 x1 x4 x5 x6 : Value) (H : AH) : r01_NewQueue_k5 x0 x1 x4 x5 x6 H =
  ad [.n, .f 0] x5 fun v9 =>
  (pLd1 v9 H).bind fun v10 =>
  (FF n_r01_Width [x1] H).bind fun r11 =>
  eqK (pLd1 v9 r11.2) (pLd1 v9 H) <|
  mkS [(0, 1), (1, 1), (2, 1), (3, 1)] [(.slice none 0 0), (vw 0), (vi 0), (vb false)] [(2, r11.1), (3, (vb true))] fun v12 =>
  newK (Value.cells v12).toList r11.2 fun v13 H14 =>
  mkR 1 1 [(.pointer none)] [(0, v13)] H14 fun v15 H16 =>
  (pApp 1 8 v10 v15 H16).bind fun r17 =>
  st 1 [.n, .f 0] x5 r17.1 r17.2 fun H18 =>
  r01_NewQueue_k6 x0 x1 x4 x5 x6 H18 :=
  (pt rfl 0 f124_n6_d (bt rfl (f124_b [1, 1, 0, 1, 4, 5, 1, 0, 4]) 1 f124_x8_d (by kernel_rfl)))
theorem r01_NewQueue_e3_0_eq (x4 x5 : Value) (H : AH) : r01_NewQueue_e3_0 x4 x5 H = r01_NewQueue_k1 x4 x5 H :=
  (by kernel_rfl)
theorem r01_NewQueue_k4_eq (x0 x1 x4 x5 x6 : Value) (H : AH) : r01_NewQueue_k4 x0 x1 x4 x5 x6 H =
  (pMax [x0, (vi 1)]).bind fun v19 =>
  (pMin [v19, (vi 16)]).bind fun v20 =>
  (pBin .other .lss x6 v20).bind fun v21 =>
  condK v21
  (r01_NewQueue_k5 x0 x1 x4 x5 x6 H)
  (r01_NewQueue_e3_0 x4 x5 H) :=
  lt' rfl f124_n4_d (pt rfl 0 f124_n5_d (by kernel_rfl))
theorem r01_NewQueue_k2_eq (x0 x1 x4 x5 x6 : Value) (H : AH) : r01_NewQueue_k2 x0 x1 x4 x5 x6 H =
  r01_NewQueue_k4 x0 x1 x4 x5 x6 H :=
  (bt rfl (f124_b [1, 1, 0, 1, 4]) 0 f124_x3_d (li rfl (f124_b [1, 1, 0, 1, 4, 5]) f124_n4_d (by kernel_rfl)))
theorem r01_NewQueue_k0_eq (x0 x1 x4 x5 : Value) (H : AH) : r01_NewQueue_k0 x0 x1 x4 x5 H =
  r01_NewQueue_k2 x0 x1 x4 x5 (vi 0) H :=
  (pt rfl 0 f124_n1_d (pt rfl 0 f124_n2_d (by kernel_rfl)))
noncomputable def r01_NewQueue (x0 x1 : Value) (H : AH) : OV := cCode PP GG FF (f124_b []) (ls [x0, x1] 28) H f124_r kx0 f124_r
theorem r01_NewQueue_of (x0 x1 : Value) (H : AH) {r : Value × AH} (h : (
  mkS [(0, 1)] [(.slice none 0 0)] [] fun v22 =>
  newK (Value.cells v22).toList H fun v23 H24 =>
  r01_NewQueue_k0 x0 x1 (.pointer none) v23 H24) = some r) : FF n_r01_NewQueue [x0, x1] H = some r :=
  fo (t := r01_NewQueue x0 x1 H) Tryz.func124 (by kernel_rfl) (Eq.trans (pt rfl 1 f124_n0_d (by kernel_rfl)) h)

-- FUNCTION mem_Mem_Write
theorem mem_Mem_Write_of (x0 x1 x2 : Value) (H : AH) {r : Value × AH} (h : (
  newK (Value.cells x2).toList H fun v0 H1 =>
  (pLdN 3 v0 H1).bind fun v2 =>
  (FF n_mem_Mem_note [x0, x1, (vi 6), v2] H1).bind fun r3 =>
  some (Value.tuple #[], r3.2)) = some r) : FF n_mem_Mem_Write [x0, x1, x2] H = some r :=
  fo Tryz.func125 (by kernel_rfl) h

-- FUNCTION ring_New
theorem ring_New_of (x0 x1 x2 : Value) (H : AH) {r : Value × AH} (h : (
  (pMax [x2, (vi 1)]).bind fun v0 =>
  (pMin [v0, (vi 8)]).bind fun v1 =>
  (pMake [(vi 0), (vi 0), (vi 0)] 3 24 v1 v1 H).bind fun r2 =>
  mkS [(0, 1), (1, 1), (2, 1)] [(.pointer none), (vi 0), (.slice none 0 0)] [(0, x0), (1, x1), (2, r2.1)] fun v3 =>
  newK (Value.cells v3).toList r2.2 fun v4 H5 =>
  some (v4, H5)) = some r) : FF n_ring_New [x0, x1, x2] H = some r :=
  fo Tryz.func126 (by kernel_rfl) h

-- FUNCTION r16_NewRing
theorem r16_NewRing_of (x0 x1 x2 : Value) (H : AH) {r : Value × AH} (h : (
  (pMax [x2, (vi 1)]).bind fun v0 =>
  (pMin [v0, (vi 8)]).bind fun v1 =>
  (pMake [(vi 0), (vi 0), (vi 0)] 3 24 v1 v1 H).bind fun r2 =>
  mkS [(0, 1), (1, 1), (2, 1), (3, 1)] [(.pointer none), (vi 0), (vi 0), (.slice none 0 0)] [(0, x0), (1, x1), (2, v1), (3, r2.1)] fun v3 =>
  newK (Value.cells v3).toList r2.2 fun v4 H5 =>
  some (v4, H5)) = some r) : FF n_r16_NewRing [x0, x1, x2] H = some r :=
  fo Tryz.func127 (by kernel_rfl) h

-- FUNCTION mem_Mem_Store
theorem mem_Mem_Store_of (x0 x1 x2 x3 : Value) (H : AH) {r : Value × AH} (h : (
  newK (Value.cells x2).toList H fun v0 H1 =>
  (pLdN 3 v0 H1).bind fun v2 =>
  (FF n_mem_Mem_note [x0, x1, (vi 2), v2] H1).bind fun r3 =>
  ld [.n, .f 0] x0 r3.2 fun v4 =>
  (pLdN 3 v0 r3.2).bind fun v5 =>
  mkS [(0, 1)] [(vw 0)] [(0, x3)] fun v6 =>
  (pUpdate (.flat 3) v4 v5 v6 r3.2).bind fun H7 =>
  some (Value.tuple #[], H7)) = some r) : FF n_mem_Mem_Store [x0, x1, x2, x3] H = some r :=
  fo Tryz.func128 (by kernel_rfl) h

-- FUNCTION table_slot
theorem table_slot_of (x0 x1 : Value) (H : AH) {r : Value × AH} (h : (
  newK [(vi 0), (vi 0), (vi 0)] H fun v0 H1 =>
  mkS [(0, 1), (1, 1), (2, 1)] [(vi 0), (vi 0), (vi 0)] [(0, (vi 10)), (1, x0), (2, x1)] fun v2 =>
  (pSt 3 v0 v2 H1).bind fun H3 =>
  (pLdN 3 v0 H3).bind fun v4 => some (v4, H3)) = some r) : FF n_table_slot [x0, x1] H = some r :=
  fo Tryz.func129 (by kernel_rfl) h

-- FUNCTION r16_Mem_Store
theorem r16_Mem_Store_of (x0 x1 x2 x3 : Value) (H : AH) {r : Value × AH} (h : (
  newK (Value.cells x2).toList H fun v0 H1 =>
  (pLdN 3 v0 H1).bind fun v2 =>
  (FF n_r16_Mem_Log [x0, x1, (vi 2), v2] H1).bind fun r3 =>
  (pLdN 3 v0 r3.2).bind fun v4 =>
  (FF n_r16_Mem_place [x0, v4] r3.2).bind fun r5 =>
  ld [.n, .f 1] x0 r5.2 fun v6 =>
  st 1 [.i 1 r5.1] v6 x3 r5.2 fun H7 =>
  some (Value.tuple #[], H7)) = some r) : FF n_r16_Mem_Store [x0, x1, x2, x3] H = some r :=
  fo Tryz.func130 (by kernel_rfl) h

-- FUNCTION enq_Enq_note
theorem enq_Enq_note_of (x0 x1 x2 : Value) (H : AH) {r : Value × AH} (h : (
  ld [.n, .f 0] x0 H fun v0 =>
  ld [.n, .f 1] x0 H fun v1 =>
  mkS [(0, 1), (1, 1), (2, 1), (3, 1)] [(vi 0), (.slice none 0 0), (vi 0), (vw 0)] [(0, x2)] fun v2 =>
  (FF n_parts_Parts_Note [v0, x1, v1, v2] H).bind fun r3 =>
  some (Value.tuple #[], r3.2)) = some r) : FF n_enq_Enq_note [x0, x1, x2] H = some r :=
  fo Tryz.func131 (by kernel_rfl) h

-- FUNCTION enq_Enq_ends
theorem enq_Enq_ends_of (x0 x1 : Value) (H : AH) {r : Value × AH} (h : (
  newK [(vi 0), (.slice none 0 0), (vi 0), (vw 0)] H fun v0 H1 =>
  mkS [(0, 1), (1, 1), (2, 1), (3, 1)] [(vi 0), (.slice none 0 0), (vi 0), (vw 0)] [(0, x1)] fun v2 =>
  (pSt 4 v0 v2 H1).bind fun H3 =>
  (pLdN 4 v0 H3).bind fun v4 => some (Value.tuple #[v4, (vb true)], H3)) = some r) : FF n_enq_Enq_ends [x0, x1] H = some r :=
  fo Tryz.func132 (by kernel_rfl) h

end Go.Proofs.YtodpbobjmkhcfaaGreatDoor.Gst
