/- THE FUNCTIONS OF THE PROGRAM AS PLAIN LEAN FUNCTIONS: printed by a program of this work (XPr), each checked by the kernel against the program's text. -/
import Derived.Test.YtodpbobjmkhcfaaGreatDoorKa
namespace Go.Proofs.YtodpbobjmkhcfaaGreatDoor.Gst
open Go Go.RowKit
set_option maxRecDepth 100000
set_option linter.unusedVariables false
set_option maxHeartbeats 1000000
-- FUNCTION l24_RegRefused
noncomputable def f8_b (p : List Nat) : Code := Code.sub (bodyOf Tryz.f8) p
noncomputable def f8_r : KK := cFin PP (Tryz.f8).results.toList
noncomputable def f8_n0 : KK := CQ (f8_b [1, 1, 1, 1, 1, 1]) f8_r kx0 f8_r
noncomputable def f8_m0 : KK := clr 22300745198530623141535718272648361505869635 f8_n0
noncomputable def l24_RegRefused_k0 (x2 x3 x4 x5 x7 x12 x13 x15 x16 : Value) (H : AH) : OV := f8_n0 (ls [u, u, x2, x3, x4, x5, u, x7, u, u, u, u, x12, x13, u, x15, x16] 127) H
noncomputable def f8_n1 : KK := CQ (f8_b [1, 1, 1, 1, 1, 1, 1]) f8_r kx0 f8_r
noncomputable def f8_m1 : KK := clr 22300745198530623141535718272648361505869635 f8_n1
noncomputable def l24_RegRefused_k1 (x2 x3 x4 x5 x7 x12 x13 x15 x16 : Value) (H : AH) : OV := f8_n1 (ls [u, u, x2, x3, x4, x5, u, x7, u, u, u, u, x12, x13, u, x15, x16] 127) H
noncomputable def f8_n2 : KK := CQ (f8_b [1, 1, 1, 1, 1, 1, 1, 1]) f8_r kx0 f8_r
noncomputable def f8_m2 : KK := clr 22300745198530623141535718272648361505902435 f8_n2
noncomputable def l24_RegRefused_k2 (x2 x3 x4 x7 x12 x13 x16 : Value) (H : AH) : OV := f8_n2 (ls [u, u, x2, x3, x4, u, u, x7, u, u, u, u, x12, x13, u, u, x16] 127) H
theorem f8_r_d : Resp 22300745198530623141535718272648361505976319 f8_r := rf
theorem f8_n0_d : Resp 22300745198530623141535718272648361505869635 f8_n0 := rc f8_r_d kx0_d f8_r_d
theorem f8_n1_d : Resp 22300745198530623141535718272648361505869635 f8_n1 := rc f8_r_d kx0_d f8_r_d
theorem f8_n2_d : Resp 22300745198530623141535718272648361505902435 f8_n2 := rc f8_r_d kx0_d f8_r_d
theorem l24_RegRefused_k2_eq (x2 x3 x4 x7 x12 x13 x16 : Value) (H : AH) : l24_RegRefused_k2 x2 x3 x4 x7 x12 x13 x16 H =
  ld [.f 0] x13 H fun v3 =>
  ld [.n, .f 0] v3 H fun v4 =>
  (FF n_mem_Mem_Len [v4] H).bind fun r5 =>
  ld [.f 0] x13 r5.2 fun v6 =>
  (FF n_parts_Parts_Begin [v6, x2, x3] r5.2).bind fun r7 =>
  ld [.f 0] x13 r7.2 fun v8 =>
  (pLdN 4 x7 r7.2).bind fun v9 =>
  (FF n_reg_New [v8, x2, v9] r7.2).bind fun r10 =>
  (pBin .ptr .eql r10.1 (.pointer none)).bind fun v11 =>
  condK v11
  (some ((vb false), r10.2))
  ((FF n_reg_Reg_Step [r10.1, x4] r10.2).bind fun r12 =>
  (pExtract r12.1 0).bind fun v13 =>
  (pExtract r12.1 1).bind fun v14 =>
  newK [(vi 0), (.slice none 0 0), (vi 0), (vw 0)] r12.2 fun v15 H16 =>
  (pSt 4 v15 v13 H16).bind fun H17 =>
  ld [.f 0] x13 H17 fun v18 =>
  (FF n_parts_Parts_Points [v18] H17).bind fun r19 =>
  (gB v14 true (pLdN 4 v15 r19.2)).bind fun v20 =>
  (gV v14 true x16).bind fun v21 =>
  (onK (yv v14) true (mkS [(0, 1), (1, 1), (2, 1), (3, 1)] [(vi 0), (.slice none 0 0), (vi 0), (vw 0)] [(0, v21)] some) (some undef)).bind fun v22 =>
  (gE v14 true r19.2 (FF n_help_Ret [v20, v22] r19.2)).bind fun r23 =>
  (pPick v14 r23.1 (vb false)).bind fun v24 =>
  gld v24 true  [.f 0] x13 r23.2 fun v25 =>
  gld v24 true  [.n, .f 0] v25 r23.2 fun v26 =>
  (gE v24 true r23.2 (FF n_mem_Mem_Len [v26] r23.2)).bind fun r27 =>
  (gV v24 true r5.1).bind fun v28 =>
  (gB v24 true (pBin .other .eql r27.1 v28)).bind fun v29 =>
  (pPick v24 v29 (vb false)).bind fun v30 =>
  (gV v30 true r19.1).bind fun v31 =>
  (onK (yv v30) true (lenK v31 some) (some undef)).bind fun v32 =>
  (gB v30 true (pBin .other .eql v32 (vi 1))).bind fun v33 =>
  (pPick v30 v33 (vb false)).bind fun v34 =>
  (gV v34 true r19.1).bind fun v35 =>
  gldN v34 true  7 [.i 7 (vi 0)] v35 r27.2 fun v36 =>
  (gV v34 true x4).bind fun v37 =>
  (gV v34 true x2).bind fun v38 =>
  (gV v34 true x3).bind fun v39 =>
  (gB v34 true (pLdN 4 v15 r27.2)).bind fun v40 =>
  (onK (yv v34) true (mkS [(0, 1), (1, 1), (2, 1), (3, 4)] [(vi 0), (vi 0), (vi 0), (vi 0), (.slice none 0 0), (vi 0), (vw 0)] [(0, v37), (1, v38), (2, v39), (3, v40)] some) (some undef)).bind fun v41 =>
  (gE v34 true r27.2 (FF n_help_Point [v36, v41] r27.2)).bind fun r42 =>
  (pPick v34 r42.1 (vb false)).bind fun v43 =>
  some (v43, r42.2)) :=
  (by kernel_rfl)
theorem l24_RegRefused_k1_eq (x2 x3 x4 x5 x7 x12 x13 x15 x16 : Value) (H : AH) : l24_RegRefused_k1 x2 x3 x4 x5 x7 x12 x13 x15 x16 H =
  (gV x15 true x5).bind fun v44 =>
  (gB x15 true (pUn .not v44)).bind fun v45 =>
  (gV x15 true v45).bind fun v46 =>
  gld v46 false  [.f 2] x7 H fun v47 =>
  (gB v46 false (pBin .other .geq v47 (vi 1))).bind fun v48 =>
  (gV v46 false v48).bind fun v49 =>
  gld v49 true  [.f 2] x7 H fun v50 =>
  (gB v49 true (pBin .other .leq v50 (vi 65536))).bind fun v51 =>
  (gB v46 false (pPick v49 v51 (vb false))).bind fun v52 =>
  (gV v46 false v52).bind fun v53 =>
  gld v53 true  [.f 3] x7 H fun v54 =>
  (gB v53 true (pBin .other .geq v54 (vi 1))).bind fun v55 =>
  (gB v46 false (pPick v53 v55 (vb false))).bind fun v56 =>
  (gV v46 false v56).bind fun v57 =>
  gld v57 true  [.f 3] x7 H fun v58 =>
  (gB v57 true (pBin .other .leq v58 (vi 8))).bind fun v59 =>
  (gB v46 false (pPick v57 v59 (vb false))).bind fun v60 =>
  (gB x15 true (pPick v46 (vb true) v60)).bind fun v61 =>
  (pPick x15 v61 (vb false)).bind fun v62 =>
  condK v62
  (ld [.f 1] x7 H fun v63 =>
  (pBin .other .sub (vi (-1)) v63).bind fun v64 =>
  st 1 [.f 1] x7 v64 H fun H65 =>
  l24_RegRefused_k2 x2 x3 x4 x7 x12 x13 x16 H65)
  (l24_RegRefused_k2 x2 x3 x4 x7 x12 x13 x16 H) :=
  (pt rfl 0 f8_n2_d (by kernel_rfl))
theorem l24_RegRefused_k0_eq (x2 x3 x4 x5 x7 x12 x13 x15 x16 : Value) (H : AH) : l24_RegRefused_k0 x2 x3 x4 x5 x7 x12 x13 x15 x16 H =
  condK x5
  (st 1 [.f 0] x7 (vi 1) H fun H66 =>
  gld x15 true  [.f 2] x7 H66 fun v67 =>
  (gB x15 true (pBin .other .lss v67 (vi 1))).bind fun v68 =>
  (gV x15 true v68).bind fun v69 =>
  gld v69 false  [.f 2] x7 H66 fun v70 =>
  (gB v69 false (pBin .other .gtr v70 (vi 65536))).bind fun v71 =>
  (gB x15 true (pPick v69 (vb true) v71)).bind fun v72 =>
  (pPick x15 v72 (vb false)).bind fun v73 =>
  condK v73
  (l24_RegRefused_k1 x2 x3 x4 x5 x7 x12 x13 x15 (vi 4) H66)
  (l24_RegRefused_k1 x2 x3 x4 x5 x7 x12 x13 x15 (vi 1) H66))
  (l24_RegRefused_k1 x2 x3 x4 x5 x7 x12 x13 x15 x16 H) :=
  (pt rfl 0 f8_n1_d (by kernel_rfl))
noncomputable def l24_RegRefused (x0 x1 x2 x3 x4 x5 : Value) (H : AH) : OV := cCode PP GG FF (f8_b []) (ls [x0, x1, x2, x3, x4, x5] 138) H f8_r kx0 f8_r
theorem l24_RegRefused_of (x0 x1 x2 x3 x4 x5 : Value) (H : AH) {r : Value × AH} (h : (
  newK (Value.cells x0).toList H fun v74 H75 =>
  newK (Value.cells x1).toList H75 fun v76 H77 =>
  (pLdN 5 v74 H77).bind fun v78 =>
  (FF n_l23_Made [v78, (vi 1)] H77).bind fun r79 =>
  (pExtract r79.1 0).bind fun v80 =>
  (pExtract r79.1 1).bind fun v81 =>
  newK [(.pointer none), (.pointer none)] r79.2 fun v82 H83 =>
  (pSt 2 v82 v80 H83).bind fun H84 =>
  (FF n_l24_awake [] H84).bind fun r85 =>
  (pUn .not r85.1).bind fun v86 =>
  (gV v86 false v81).bind fun v87 =>
  (gB v86 false (pUn .not v87)).bind fun v88 =>
  (pPick v86 (vb true) v88).bind fun v89 =>
  condK v89
  (some ((vb false), r85.2))
  (st 1 [.f 0] v76 (vi 2) r85.2 fun H90 =>
  ld [.f 1] v76 H90 fun v91 =>
  (pBin .other .geq v91 (vi 0)).bind fun v92 =>
  gld v92 true  [.f 1] v76 H90 fun v93 =>
  (gB v92 true (pBin .other .leq v93 (vi 1048576))).bind fun v94 =>
  (pPick v92 v94 (vb false)).bind fun v95 =>
  l24_RegRefused_k0 x2 x3 x4 x5 v76 (vb false) v82 v95 (vi 5) H90)) = some r) : FF n_l24_RegRefused [x0, x1, x2, x3, x4, x5] H = some r :=
  fo (t := l24_RegRefused x0 x1 x2 x3 x4 x5 H) Tryz.func8 (by kernel_rfl) (Eq.trans (pt rfl 5 f8_n0_d (by kernel_rfl)) h)

-- FUNCTION reg_New
noncomputable def f28_b (p : List Nat) : Code := Code.sub (bodyOf Tryz.f28) p
noncomputable def f28_r : KK := cFin PP (Tryz.f28).results.toList
noncomputable def f28_n0 : KK := CQ (f28_b [1, 1, 1]) f28_r kx0 f28_r
noncomputable def f28_m0 : KK := clr 17179868959 f28_n0
noncomputable def reg_New_k0 (x5 x6 x7 : Value) (H : AH) : OV := f28_n0 (ls [u, u, u, u, u, x5, x6, x7] 26) H
noncomputable def f28_n1 : KK := CQ (f28_b [1, 1, 1, 1]) f28_r kx0 f28_r
noncomputable def f28_m1 : KK := clr 17179868991 f28_n1
noncomputable def reg_New_k1 (x6 x7 : Value) (H : AH) : OV := f28_n1 (ls [u, u, u, u, u, u, x6, x7] 26) H
theorem f28_r_d : Resp 17179869119 f28_r := rf
theorem f28_n0_d : Resp 17179868959 f28_n0 := rc f28_r_d kx0_d f28_r_d
theorem f28_n1_d : Resp 17179868991 f28_n1 := rc f28_r_d kx0_d f28_r_d
theorem reg_New_k1_eq (x6 x7 : Value) (H : AH) : reg_New_k1 x6 x7 H =
  some (x7, H) :=
  (by kernel_rfl)
theorem reg_New_k0_eq (x5 x6 x7 : Value) (H : AH) : reg_New_k0 x5 x6 x7 H =
  ld [.f 0] x5 H fun v2 =>
  (pBin .other .eql v2 (vi 1)).bind fun v3 =>
  condK v3
  (st 1 [.n, .f 7] x7 (.func (.func n_reg_Reg_come) #[x7] #[]) H fun H4 =>
  reg_New_k1 x6 x7 H4)
  (reg_New_k1 x6 x7 H) :=
  (pt rfl 0 f28_n1_d (by kernel_rfl))
noncomputable def reg_New (x0 x1 x2 : Value) (H : AH) : OV := cCode PP GG FF (f28_b []) (ls [x0, x1, x2] 31) H f28_r kx0 f28_r
theorem reg_New_of (x0 x1 x2 : Value) (H : AH) {r : Value × AH} (h : (
  newK (Value.cells x2).toList H fun v5 H6 =>
  (pLdN 4 v5 H6).bind fun v7 =>
  ld [.n, .f 2] x0 H6 fun v8 =>
  ld [.f 1] v5 H6 fun v9 =>
  (FF n_table_Table_Shard [v8, v9] H6).bind fun r10 =>
  eqK (pLdN 4 v5 r10.2) (pLdN 4 v5 H6) <|
  mkS [(0, 1), (1, 1), (2, 4), (6, 1), (7, 1), (8, 1), (9, 1), (10, 1), (11, 1), (12, 1), (13, 1), (14, 1), (15, 1), (16, 1)] [(.pointer none), (vi 0), (vi 0), (vi 0), (vi 0), (vi 0), (vi 0), Value.nilFunc, (vi 0), (vi 0), (vi 0), (vi 0), (.pointer none), (vw 0), (vw 0), (vi 0), (vi 0)] [(0, x0), (1, x1), (2, v7), (3, r10.1), (6, (vi (-1)))] fun v11 =>
  newK (Value.cells v11).toList r10.2 fun v12 H13 =>
  st 1 [.n, .f 7] v12 (.func (.func n_reg_Reg_leave) #[v12] #[]) H13 fun H14 =>
  reg_New_k0 v5 (.pointer none) v12 H14) = some r) : FF n_reg_New [x0, x1, x2] H = some r :=
  fo (t := reg_New x0 x1 x2 H) Tryz.func28 (by kernel_rfl) (Eq.trans (pt rfl 2 f28_n0_d (by kernel_rfl)) h)

-- FUNCTION reg_Reg_Step
theorem reg_Reg_Step_of (x0 x1 : Value) (H : AH) {r : Value × AH} (h : (
  newK [(vi 0), (.slice none 0 0), (vi 0), (vw 0)] H fun v0 H1 =>
  ld [.n, .f 7] x0 H1 fun v2 =>
  (pCallee v2 [x1]).bind fun c => (FF c.1 c.2 H1).bind fun r3 =>
  (pExtract r3.1 0).bind fun v4 =>
  (pExtract r3.1 1).bind fun v5 =>
  (pSt 4 v0 v4 r3.2).bind fun H6 =>
  (pLdN 4 v0 H6).bind fun v7 => some (Value.tuple #[v7, v5], H6)) = some r) : FF n_reg_Reg_Step [x0, x1] H = some r :=
  fo Tryz.func29 (by kernel_rfl) h

-- FUNCTION reg_Reg_leave
theorem reg_Reg_leave_of (x0 x1 : Value) (H : AH) {r : Value × AH} (h : (
  newK [(vi 0), (.slice none 0 0), (vi 0), (vw 0)] H fun v0 H1 =>
  (FF n_reg_Reg_outside [x0] H1).bind fun r2 =>
  condK r2.1
  ((FF n_reg_Reg_refuse [x0, x1, (vi 5)] r2.2).bind fun r3 =>
  (pExtract r3.1 0).bind fun v4 =>
  (pExtract r3.1 1).bind fun v5 =>
  (pSt 4 v0 v4 r3.2).bind fun H6 =>
  (pLdN 4 v0 H6).bind fun v7 => some (Value.tuple #[v7, v5], H6))
  ((FF n_reg_Reg_lock [x0, x1] r2.2).bind fun r8 =>
  (pExtract r8.1 0).bind fun v9 =>
  (pExtract r8.1 1).bind fun v10 =>
  (pSt 4 v0 v9 r8.2).bind fun H11 =>
  (pLdN 4 v0 H11).bind fun v12 => some (Value.tuple #[v12, v10], H11))) = some r) : FF n_reg_Reg_leave [x0, x1] H = some r :=
  fo Tryz.func53 (by kernel_rfl) h

-- FUNCTION reg_Reg_come
noncomputable def f54_b (p : List Nat) : Code := Code.sub (bodyOf Tryz.f54) p
noncomputable def f54_r : KK := cFin PP (Tryz.f54).results.toList
noncomputable def f54_n0 : KK := CQ (f54_b [1]) f54_r kx0 f54_r
noncomputable def f54_m0 : KK := clr 576460752303423436 f54_n0
noncomputable def reg_Reg_come_k0 (x0 x1 x4 x5 : Value) (H : AH) : OV := f54_n0 (ls [x0, x1, u, u, x4, x5] 53) H
noncomputable def f54_n1 : KK := CQ (f54_b [1, 1]) f54_r kx0 f54_r
noncomputable def f54_m1 : KK := clr 576460752303423436 f54_n1
noncomputable def reg_Reg_come_k1 (x0 x1 x4 x5 : Value) (H : AH) : OV := f54_n1 (ls [x0, x1, u, u, x4, x5] 53) H
noncomputable def f54_x7 : KX := BX 0 f54_m1 kx0
noncomputable def f54_y7 : KX := clx 576460752303423436 f54_x7
theorem f54_r_d : Resp 576460752303423439 f54_r := rf
theorem f54_n0_d : Resp 576460752303423436 f54_n0 := rc f54_r_d kx0_d f54_r_d
theorem f54_n1_d : Resp 576460752303423436 f54_n1 := rc f54_r_d kx0_d f54_r_d
theorem f54_x7_d : ∀ i, Resp 576460752303423436 (f54_x7 i) := rb (cd f54_n1_d) kx0_d
theorem reg_Reg_come_k1_eq (x0 x1 x4 x5 : Value) (H : AH) : reg_Reg_come_k1 x0 x1 x4 x5 H =
  (FF n_reg_Reg_enter [x0, x1] H).bind fun r2 =>
  (pExtract r2.1 0).bind fun v3 =>
  (pExtract r2.1 1).bind fun v4 =>
  (pSt 4 x4 v3 r2.2).bind fun H5 =>
  (pLdN 4 x4 H5).bind fun v6 => some (Value.tuple #[v6, v4], H5) :=
  (by kernel_rfl)
theorem reg_Reg_come_k0_eq (x0 x1 x4 x5 : Value) (H : AH) : reg_Reg_come_k0 x0 x1 x4 x5 H =
  (FF n_reg_Reg_outside [x0] H).bind fun r8 =>
  condK r8.1
  ((FF n_reg_Reg_refuse [x0, x1, (vi 1)] r8.2).bind fun r9 =>
  (pExtract r9.1 0).bind fun v10 =>
  (pExtract r9.1 1).bind fun v11 =>
  (pSt 4 x4 v10 r9.2).bind fun H12 =>
  (pLdN 4 x4 H12).bind fun v13 => some (Value.tuple #[v13, v11], H12))
  (ld [.n, .f 2, .f 2] x0 r8.2 fun v14 =>
  (pBin .other .lss v14 (vi 1)).bind fun v15 =>
  (gV v15 false x0).bind fun v16 =>
  gld v15 false  [.n, .f 2, .f 2] v16 r8.2 fun v17 =>
  (gB v15 false (pBin .other .gtr v17 (vi 65536))).bind fun v18 =>
  (pPick v15 (vb true) v18).bind fun v19 =>
  condK v19
  ((FF n_reg_Reg_refuse [x0, x1, (vi 4)] r8.2).bind fun r20 =>
  (pExtract r20.1 0).bind fun v21 =>
  (pExtract r20.1 1).bind fun v22 =>
  (pSt 4 x4 v21 r20.2).bind fun H23 =>
  (pLdN 4 x4 H23).bind fun v24 => some (Value.tuple #[v24, v22], H23))
  (ld [.n, .f 2, .f 3] x0 r8.2 fun v25 =>
  (pBin .other .lss v25 (vi 1)).bind fun v26 =>
  (gV v26 false x0).bind fun v27 =>
  gld v26 false  [.n, .f 2, .f 3] v27 r8.2 fun v28 =>
  (gB v26 false (pBin .other .gtr v28 (vi 8))).bind fun v29 =>
  (pPick v26 (vb true) v29).bind fun v30 =>
  condK v30
  ((FF n_reg_Reg_refuse [x0, x1, (vi 1)] r8.2).bind fun r31 =>
  (pExtract r31.1 0).bind fun v32 =>
  (pExtract r31.1 1).bind fun v33 =>
  (pSt 4 x4 v32 r31.2).bind fun H34 =>
  (pLdN 4 x4 H34).bind fun v35 => some (Value.tuple #[v35, v33], H34))
  (reg_Reg_come_k1 x0 x1 x4 x5 r8.2))) :=
  (pt rfl 0 f54_n1_d (bt rfl (f54_b [1, 0, 4]) 0 f54_x7_d (by kernel_rfl)))
noncomputable def reg_Reg_come (x0 x1 : Value) (H : AH) : OV := cCode PP GG FF (f54_b []) (ls [x0, x1] 57) H f54_r kx0 f54_r
theorem reg_Reg_come_of (x0 x1 : Value) (H : AH) {r : Value × AH} (h : (
  newK [(vi 0), (.slice none 0 0), (vi 0), (vw 0)] H fun v36 H37 =>
  reg_Reg_come_k0 x0 x1 v36 (vb false) H37) = some r) : FF n_reg_Reg_come [x0, x1] H = some r :=
  fo (t := reg_Reg_come x0 x1 H) Tryz.func54 (by kernel_rfl) (Eq.trans (pt rfl 0 f54_n0_d (by kernel_rfl)) h)

-- FUNCTION reg_Reg_outside
theorem reg_Reg_outside_of (x0 : Value) (H : AH) {r : Value × AH} (h : (
  ld [.n, .f 2, .f 1] x0 H fun v0 =>
  (pBin .other .lss v0 (vi 0)).bind fun v1 =>
  (gV v1 false x0).bind fun v2 =>
  gld v1 false  [.n, .f 2, .f 1] v2 H fun v3 =>
  (gB v1 false (pBin .other .gtr v3 (vi 1048576))).bind fun v4 =>
  (pPick v1 (vb true) v4).bind fun v5 =>
  some (v5, H)) = some r) : FF n_reg_Reg_outside [x0] H = some r :=
  fo Tryz.func114 (by kernel_rfl) h

-- FUNCTION reg_Reg_refuse
theorem reg_Reg_refuse_of (x0 x1 x2 : Value) (H : AH) {r : Value × AH} (h : (
  newK [(vi 0), (.slice none 0 0), (vi 0), (vw 0)] H fun v0 H1 =>
  (FF n_reg_Reg_tell [x0, x1, x2] H1).bind fun r2 =>
  mkS [(0, 1), (1, 1), (2, 1), (3, 1)] [(vi 0), (.slice none 0 0), (vi 0), (vw 0)] [(0, x2)] fun v3 =>
  (pSt 4 v0 v3 r2.2).bind fun H4 =>
  (pLdN 4 v0 H4).bind fun v5 => some (Value.tuple #[v5, (vb true)], H4)) = some r) : FF n_reg_Reg_refuse [x0, x1, x2] H = some r :=
  fo Tryz.func115 (by kernel_rfl) h

-- FUNCTION reg_Reg_tell
theorem reg_Reg_tell_of (x0 x1 x2 : Value) (H : AH) {r : Value × AH} (h : (
  st 1 [.n, .f 16] x0 x2 H fun H0 =>
  ld [.n, .f 0] x0 H0 fun v1 =>
  ld [.n, .f 1] x0 H0 fun v2 =>
  mkS [(0, 1), (1, 1), (2, 1), (3, 1)] [(vi 0), (.slice none 0 0), (vi 0), (vw 0)] [(0, x2)] fun v3 =>
  (FF n_parts_Parts_Note [v1, x1, v2, v3] H0).bind fun r4 =>
  some (Value.tuple #[], r4.2)) = some r) : FF n_reg_Reg_tell [x0, x1, x2] H = some r :=
  fo Tryz.func159 (by kernel_rfl) h

end Go.Proofs.YtodpbobjmkhcfaaGreatDoor.Gst
