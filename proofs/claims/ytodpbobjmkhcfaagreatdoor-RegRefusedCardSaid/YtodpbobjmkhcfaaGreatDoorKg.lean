/- THE FUNCTIONS OF THE PROGRAM AS PLAIN LEAN FUNCTIONS: printed by a program of this work (XPr), each checked by the kernel against the program's text. -/
import Derived.Test.YtodpbobjmkhcfaaGreatDoorKa
namespace Go.Proofs.YtodpbobjmkhcfaaGreatDoor.Gst
open Go Go.RowKit
set_option maxRecDepth 100000
set_option linter.unusedVariables false
set_option maxHeartbeats 1000000
-- FUNCTION r01_Pack
theorem r01_Pack_of (x0 x1 : Value) (H : AH) {r : Value × AH} (h : (
  (pBin .other .gtr x0 (vw 2305843009213693951)).bind fun v0 =>
  (gV v0 false x1).bind fun v1 =>
  (gB v0 false (pBin .other .lss v1 (vi 0))).bind fun v2 =>
  (pPick v0 (vb true) v2).bind fun v3 =>
  (gV v3 false x1).bind fun v4 =>
  (gB v3 false (pBin .other .gtr v4 (vi 2))).bind fun v5 =>
  (pPick v3 (vb true) v5).bind fun v6 =>
  condK v6
  (some (Value.tuple #[(vw 0), (vb false)], H))
  ((pConv (some .u64) x1).bind fun v7 =>
  (pBin .other .mul v7 (vw 2305843009213693952)).bind fun v8 =>
  (pBin .other .add v8 x0).bind fun v9 =>
  some (Value.tuple #[v9, (vb true)], H))) = some r) : FF n_r01_Pack [x0, x1] H = some r :=
  fo Tryz.func187 (by kernel_rfl) h

-- FUNCTION table_mutex
theorem table_mutex_of (x0 : Value) (H : AH) {r : Value × AH} (h : (
  newK [(vi 0), (vi 0), (vi 0)] H fun v0 H1 =>
  mkS [(0, 1), (1, 1), (2, 1)] [(vi 0), (vi 0), (vi 0)] [(0, (vi 8)), (1, x0)] fun v2 =>
  (pSt 3 v0 v2 H1).bind fun H3 =>
  (pLdN 3 v0 H3).bind fun v4 => some (v4, H3)) = some r) : FF n_table_mutex [x0] H = some r :=
  fo Tryz.func190 (by kernel_rfl) h

-- FUNCTION wheel_New
theorem wheel_New_of (x0 : Value) (H : AH) {r : Value × AH} (h : (
  (FF n_wheel_held [x0] H).bind fun r0 =>
  mapK r0.2 fun v1 H2 =>
  mkS [(0, 1), (1, 1), (2, 192), (194, 3), (197, 1)] [(vw 0), (vi 0), (.slice none 0 0), (.slice none 0 0), (.slice none 0 0), (.slice none 0 0), (.slice none 0 0), (.slice none 0 0), (.slice none 0 0), (.slice none 0 0), (.slice none 0 0), (.slice none 0 0), (.slice none 0 0), (.slice none 0 0), (.slice none 0 0), (.slice none 0 0), (.slice none 0 0), (.slice none 0 0), (.slice none 0 0), (.slice none 0 0), (.slice none 0 0), (.slice none 0 0), (.slice none 0 0), (.slice none 0 0), (.slice none 0 0), (.slice none 0 0), (.slice none 0 0), (.slice none 0 0), (.slice none 0 0), (.slice none 0 0), (.slice none 0 0), (.slice none 0 0), (.slice none 0 0), (.slice none 0 0), (.slice none 0 0), (.slice none 0 0), (.slice none 0 0), (.slice none 0 0), (.slice none 0 0), (.slice none 0 0), (.slice none 0 0), (.slice none 0 0), (.slice none 0 0), (.slice none 0 0), (.slice none 0 0), (.slice none 0 0), (.slice none 0 0), (.slice none 0 0), (.slice none 0 0), (.slice none 0 0), (.slice none 0 0), (.slice none 0 0), (.slice none 0 0), (.slice none 0 0), (.slice none 0 0), (.slice none 0 0), (.slice none 0 0), (.slice none 0 0), (.slice none 0 0), (.slice none 0 0), (.slice none 0 0), (.slice none 0 0), (.slice none 0 0), (.slice none 0 0), (.slice none 0 0), (.slice none 0 0), (.slice none 0 0), (.slice none 0 0), (.slice none 0 0), (.slice none 0 0), (.slice none 0 0), (.slice none 0 0), (.slice none 0 0), (.slice none 0 0), (.slice none 0 0), (.slice none 0 0), (.slice none 0 0), (.slice none 0 0), (.slice none 0 0), (.slice none 0 0), (.slice none 0 0), (.slice none 0 0), (.slice none 0 0), (.slice none 0 0), (.slice none 0 0), (.slice none 0 0), (.slice none 0 0), (.slice none 0 0), (.slice none 0 0), (.slice none 0 0), (.slice none 0 0), (.slice none 0 0), (.slice none 0 0), (.slice none 0 0), (.slice none 0 0), (.slice none 0 0), (.slice none 0 0), (.slice none 0 0), (.slice none 0 0), (.slice none 0 0), (.slice none 0 0), (.slice none 0 0), (.slice none 0 0), (.slice none 0 0), (.slice none 0 0), (.slice none 0 0), (.slice none 0 0), (.slice none 0 0), (.slice none 0 0), (.slice none 0 0), (.slice none 0 0), (.slice none 0 0), (.slice none 0 0), (.slice none 0 0), (.slice none 0 0), (.slice none 0 0), (.slice none 0 0), (.slice none 0 0), (.slice none 0 0), (.slice none 0 0), (.slice none 0 0), (.slice none 0 0), (.slice none 0 0), (.slice none 0 0), (.slice none 0 0), (.slice none 0 0), (.slice none 0 0), (.slice none 0 0), (.slice none 0 0), (.slice none 0 0), (.slice none 0 0), (.slice none 0 0), (.slice none 0 0), (.slice none 0 0), (.slice none 0 0), (.slice none 0 0), (.slice none 0 0), (.slice none 0 0), (.slice none 0 0), (.slice none 0 0), (.slice none 0 0), (.slice none 0 0), (.slice none 0 0), (.slice none 0 0), (.slice none 0 0), (.slice none 0 0), (.slice none 0 0), (.slice none 0 0), (.slice none 0 0), (.slice none 0 0), (.slice none 0 0), (.slice none 0 0), (.slice none 0 0), (.slice none 0 0), (.slice none 0 0), (.slice none 0 0), (.slice none 0 0), (.slice none 0 0), (.slice none 0 0), (.slice none 0 0), (.slice none 0 0), (.slice none 0 0), (.slice none 0 0), (.slice none 0 0), (.slice none 0 0), (.slice none 0 0), (.slice none 0 0), (.slice none 0 0), (.slice none 0 0), (.slice none 0 0), (.slice none 0 0), (.slice none 0 0), (.slice none 0 0), (.slice none 0 0), (.slice none 0 0), (.slice none 0 0), (.slice none 0 0), (.slice none 0 0), (.slice none 0 0), (.slice none 0 0), (.slice none 0 0), (.slice none 0 0), (.slice none 0 0), (.slice none 0 0), (.slice none 0 0), (.slice none 0 0), (.slice none 0 0), (.slice none 0 0), (.slice none 0 0), (.slice none 0 0), (.slice none 0 0), (.slice none 0 0), (.slice none 0 0), (.slice none 0 0), (vw 0), (vw 0), (vw 0), (.map none)] [(1, r0.1), (4, v1)] fun v3 =>
  newK (Value.cells v3).toList H2 fun v4 H5 =>
  some (v4, H5)) = some r) : FF n_wheel_New [x0] H = some r :=
  fo Tryz.func195 (by kernel_rfl) h

-- FUNCTION heap_New
theorem heap_New_of (H : AH) {r : Value × AH} (h : (
  mapK H fun v0 H1 =>
  mkS [(0, 1), (1, 1)] [(.slice none 0 0), (.map none)] [(1, v0)] fun v2 =>
  newK (Value.cells v2).toList H1 fun v3 H4 =>
  some (v3, H4)) = some r) : FF n_heap_New [] H = some r :=
  fo Tryz.func196 (by kernel_rfl) h

-- FUNCTION mem_Mem_Load
theorem mem_Mem_Load_of (x0 x1 x2 : Value) (H : AH) {r : Value × AH} (h : (
  newK (Value.cells x2).toList H fun v0 H1 =>
  (pLdN 3 v0 H1).bind fun v2 =>
  (FF n_mem_Mem_note [x0, x1, (vi 1), v2] H1).bind fun r3 =>
  (pLdN 3 v0 r3.2).bind fun v4 =>
  (FF n_mem_Mem_Peek [x0, v4] r3.2).bind fun r5 =>
  some (r5.1, r5.2)) = some r) : FF n_mem_Mem_Load [x0, x1, x2] H = some r :=
  fo Tryz.func211 (by kernel_rfl) h

-- FUNCTION mem_Mem_Read
theorem mem_Mem_Read_of (x0 x1 x2 : Value) (H : AH) {r : Value × AH} (h : (
  newK (Value.cells x2).toList H fun v0 H1 =>
  (pLdN 3 v0 H1).bind fun v2 =>
  (FF n_mem_Mem_note [x0, x1, (vi 5), v2] H1).bind fun r3 =>
  some (Value.tuple #[], r3.2)) = some r) : FF n_mem_Mem_Read [x0, x1, x2] H = some r :=
  fo Tryz.func212 (by kernel_rfl) h

-- FUNCTION word_Right
theorem word_Right_of (x0 : Value) (H : AH) {r : Value × AH} (h : (
  (pBin .other .shr x0 (vw 61)).bind fun v0 =>
  (pBin .other .lss v0 (vw 3)).bind fun v1 =>
  some (v1, H)) = some r) : FF n_word_Right [x0] H = some r :=
  fo Tryz.func217 (by kernel_rfl) h

-- FUNCTION table_Table_Unlock
theorem table_Table_Unlock_of (x0 x1 x2 : Value) (H : AH) {r : Value × AH} (h : (
  ad [.n, .f 0] x0 fun v0 =>
  (pLd1 v0 H).bind fun v1 =>
  (FF n_table_mutex [x2] H).bind fun r2 =>
  eqK (pLd1 v0 r2.2) (pLd1 v0 H) <|
  (FF n_mem_Mem_Store [v1, x1, r2.1, (vw 0)] r2.2).bind fun r3 =>
  some (Value.tuple #[], r3.2)) = some r) : FF n_table_Table_Unlock [x0, x1, x2] H = some r :=
  fo Tryz.func221 (by kernel_rfl) h

-- FUNCTION wheel_held
theorem wheel_held_of (x0 : Value) (H : AH) {r : Value × AH} (h : (
  (pMax [x0, (vi 0)]).bind fun v0 =>
  (pMin [v0, (vi 40)]).bind fun v1 =>
  some (v1, H)) = some r) : FF n_wheel_held [x0] H = some r :=
  fo Tryz.func224 (by kernel_rfl) h

-- FUNCTION word_More
theorem word_More_of (x0 : Value) (H : AH) {r : Value × AH} (h : (
  (FF n_word_Right [x0] H).bind fun r0 =>
  (pUn .not r0.1).bind fun v1 =>
  (gV v1 false x0).bind fun v2 =>
  (gE v1 false r0.2 (FF n_word_State [v2] r0.2)).bind fun r3 =>
  (gB v1 false (pBin .other .eql r3.1 (vi 2))).bind fun v4 =>
  (pPick v1 (vb true) v4).bind fun v5 =>
  (gV v5 false x0).bind fun v6 =>
  (gE v5 false r3.2 (FF n_word_Count [v6] r3.2)).bind fun r7 =>
  (gB v5 false (pBin .other .eql r7.1 (vw 2305843009213693951))).bind fun v8 =>
  (pPick v5 (vb true) v8).bind fun v9 =>
  condK v9
  (some (Value.tuple #[(vw 0), (vb false)], r7.2))
  ((FF n_word_Count [x0] r7.2).bind fun r10 =>
  (pBin .other .add r10.1 (vw 1)).bind fun v11 =>
  (FF n_word_Pack [v11, (vi 1)] r10.2).bind fun r12 =>
  (pExtract r12.1 0).bind fun v13 =>
  (pExtract r12.1 1).bind fun v14 =>
  some (Value.tuple #[v13, v14], r12.2))) = some r) : FF n_word_More [x0] H = some r :=
  fo Tryz.func288 (by kernel_rfl) h

end Go.Proofs.YtodpbobjmkhcfaaGreatDoor.Gst
