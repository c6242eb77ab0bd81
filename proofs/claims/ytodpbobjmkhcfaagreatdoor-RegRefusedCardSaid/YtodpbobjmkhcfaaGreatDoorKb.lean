/- THE FUNCTIONS OF THE PROGRAM AS PLAIN LEAN FUNCTIONS: printed by a program of this work (XPr), each checked by the kernel against the program's text. -/
import Derived.Test.YtodpbobjmkhcfaaGreatDoorKa
namespace Go.Proofs.YtodpbobjmkhcfaaGreatDoor.Gst
open Go Go.RowKit
set_option maxRecDepth 100000
set_option linter.unusedVariables false
set_option maxHeartbeats 1000000
-- FUNCTION l23_EnqRefused
noncomputable def f3_b (p : List Nat) : Code := Code.sub (bodyOf Tryz.f3) p
noncomputable def f3_r : KK := cFin PP (Tryz.f3).results.toList
noncomputable def f3_n0 : KK := CQ (f3_b [1, 1, 1, 1, 1]) f3_r kx0 f3_r
noncomputable def f3_m0 : KK := clr 2596148429267413814265248164598691 f3_n0
noncomputable def l23_EnqRefused_k0 (x2 x3 x4 x6 x10 x11 x13 : Value) (H : AH) : OV := f3_n0 (ls [u, u, x2, x3, x4, u, x6, u, u, u, x10, x11, u, x13] 97) H
noncomputable def f3_n1 : KK := CQ (f3_b [1, 1, 1, 1, 1, 1]) f3_r kx0 f3_r
noncomputable def f3_m1 : KK := clr 2596148429267413814265248164598691 f3_n1
noncomputable def l23_EnqRefused_k1 (x2 x3 x4 x6 x10 x11 x13 : Value) (H : AH) : OV := f3_n1 (ls [u, u, x2, x3, x4, u, x6, u, u, u, x10, x11, u, x13] 97) H
theorem f3_r_d : Resp 2596148429267413814265248164609023 f3_r := rf
theorem f3_n0_d : Resp 2596148429267413814265248164598691 f3_n0 := rc f3_r_d kx0_d f3_r_d
theorem f3_n1_d : Resp 2596148429267413814265248164598691 f3_n1 := rc f3_r_d kx0_d f3_r_d
theorem l23_EnqRefused_k1_eq (x2 x3 x4 x6 x10 x11 x13 : Value) (H : AH) : l23_EnqRefused_k1 x2 x3 x4 x6 x10 x11 x13 H =
  ld [.f 0] x11 H fun v2 =>
  ld [.n, .f 0] v2 H fun v3 =>
  (FF n_mem_Mem_Len [v3] H).bind fun r4 =>
  ld [.f 0] x11 r4.2 fun v5 =>
  (FF n_parts_Parts_Begin [v5, x2, x3] r4.2).bind fun r6 =>
  ld [.f 0] x11 r6.2 fun v7 =>
  (pLdN 4 x6 r6.2).bind fun v8 =>
  (FF n_enq_New [v7, x2, v8] r6.2).bind fun r9 =>
  (pBin .ptr .eql r9.1 (.pointer none)).bind fun v10 =>
  condK v10
  (some ((vb false), r9.2))
  ((FF n_enq_Enq_Step [r9.1, x4] r9.2).bind fun r11 =>
  (pExtract r11.1 0).bind fun v12 =>
  (pExtract r11.1 1).bind fun v13 =>
  newK [(vi 0), (.slice none 0 0), (vi 0), (vw 0)] r11.2 fun v14 H15 =>
  (pSt 4 v14 v12 H15).bind fun H16 =>
  ld [.f 0] x11 H16 fun v17 =>
  (FF n_parts_Parts_Points [v17] H16).bind fun r18 =>
  (gB v13 true (pLdN 4 v14 r18.2)).bind fun v19 =>
  (gV v13 true x13).bind fun v20 =>
  (onK (yv v13) true (mkS [(0, 1), (1, 1), (2, 1), (3, 1)] [(vi 0), (.slice none 0 0), (vi 0), (vw 0)] [(0, v20)] some) (some undef)).bind fun v21 =>
  (gE v13 true r18.2 (FF n_help_Ret [v19, v21] r18.2)).bind fun r22 =>
  (pPick v13 r22.1 (vb false)).bind fun v23 =>
  gld v23 true  [.f 0] x11 r22.2 fun v24 =>
  gld v23 true  [.n, .f 0] v24 r22.2 fun v25 =>
  (gE v23 true r22.2 (FF n_mem_Mem_Len [v25] r22.2)).bind fun r26 =>
  (gV v23 true r4.1).bind fun v27 =>
  (gB v23 true (pBin .other .eql r26.1 v27)).bind fun v28 =>
  (pPick v23 v28 (vb false)).bind fun v29 =>
  (gV v29 true r18.1).bind fun v30 =>
  (onK (yv v29) true (lenK v30 some) (some undef)).bind fun v31 =>
  (gB v29 true (pBin .other .eql v31 (vi 1))).bind fun v32 =>
  (pPick v29 v32 (vb false)).bind fun v33 =>
  (gV v33 true r18.1).bind fun v34 =>
  gldN v33 true  7 [.i 7 (vi 0)] v34 r26.2 fun v35 =>
  (gV v33 true x4).bind fun v36 =>
  (gV v33 true x2).bind fun v37 =>
  (gV v33 true x3).bind fun v38 =>
  (gB v33 true (pLdN 4 v14 r26.2)).bind fun v39 =>
  (onK (yv v33) true (mkS [(0, 1), (1, 1), (2, 1), (3, 4)] [(vi 0), (vi 0), (vi 0), (vi 0), (.slice none 0 0), (vi 0), (vw 0)] [(0, v36), (1, v37), (2, v38), (3, v39)] some) (some undef)).bind fun v40 =>
  (gE v33 true r26.2 (FF n_help_Point [v35, v40] r26.2)).bind fun r41 =>
  (pPick v33 r41.1 (vb false)).bind fun v42 =>
  some (v42, r41.2)) :=
  (by kernel_rfl)
theorem l23_EnqRefused_k0_eq (x2 x3 x4 x6 x10 x11 x13 : Value) (H : AH) : l23_EnqRefused_k0 x2 x3 x4 x6 x10 x11 x13 H =
  ld [.f 2] x6 H fun v43 =>
  (pBin .other .geq v43 (vi 1)).bind fun v44 =>
  gld v44 true  [.f 2] x6 H fun v45 =>
  (gB v44 true (pBin .other .leq v45 (vi 65536))).bind fun v46 =>
  (pPick v44 v46 (vb false)).bind fun v47 =>
  condK v47
  (ld [.f 1] x6 H fun v48 =>
  (pBin .other .geq v48 (vi 0)).bind fun v49 =>
  gld v49 true  [.f 1] x6 H fun v50 =>
  (gB v49 true (pBin .other .leq v50 (vi 1048576))).bind fun v51 =>
  (pPick v49 v51 (vb false)).bind fun v52 =>
  condK v52
  (ld [.f 1] x6 H fun v53 =>
  (pBin .other .sub (vi (-1)) v53).bind fun v54 =>
  st 1 [.f 1] x6 v54 H fun H55 =>
  l23_EnqRefused_k1 x2 x3 x4 x6 x10 x11 (vi 5) H55)
  (l23_EnqRefused_k1 x2 x3 x4 x6 x10 x11 (vi 5) H))
  (l23_EnqRefused_k1 x2 x3 x4 x6 x10 x11 x13 H) :=
  (pt rfl 0 f3_n1_d (by kernel_rfl))
noncomputable def l23_EnqRefused (x0 x1 x2 x3 x4 : Value) (H : AH) : OV := cCode PP GG FF (f3_b []) (ls [x0, x1, x2, x3, x4] 106) H f3_r kx0 f3_r
theorem l23_EnqRefused_of (x0 x1 x2 x3 x4 : Value) (H : AH) {r : Value × AH} (h : (
  newK (Value.cells x0).toList H fun v56 H57 =>
  newK (Value.cells x1).toList H57 fun v58 H59 =>
  (pLdN 5 v56 H59).bind fun v60 =>
  (FF n_l23_Made [v60, (vi 2)] H59).bind fun r61 =>
  (pExtract r61.1 0).bind fun v62 =>
  (pExtract r61.1 1).bind fun v63 =>
  newK [(.pointer none), (.pointer none)] r61.2 fun v64 H65 =>
  (pSt 2 v64 v62 H65).bind fun H66 =>
  (FF n_l23_awake [] H66).bind fun r67 =>
  (pUn .not r67.1).bind fun v68 =>
  (gV v68 false v63).bind fun v69 =>
  (gB v68 false (pUn .not v69)).bind fun v70 =>
  (pPick v68 (vb true) v70).bind fun v71 =>
  condK v71
  (some ((vb false), r67.2))
  (st 1 [.f 0] v58 (vi 3) r67.2 fun H72 =>
  l23_EnqRefused_k0 x2 x3 x4 v58 (vb false) v64 (vi 3) H72)) = some r) : FF n_l23_EnqRefused [x0, x1, x2, x3, x4] H = some r :=
  fo (t := l23_EnqRefused x0 x1 x2 x3 x4 H) Tryz.func3 (by kernel_rfl) (Eq.trans (pt rfl 4 f3_n0_d (by kernel_rfl)) h)

-- FUNCTION l23_Made
noncomputable def f9_b (p : List Nat) : Code := Code.sub (bodyOf Tryz.f9) p
noncomputable def f9_r : KK := cFin PP (Tryz.f9).results.toList
noncomputable def f9_n0 : KK := CQ (f9_b [1, 1, 1, 1, 1]) f9_r kx0 f9_r
noncomputable def f9_m0 : KK := clr 309485009821345068724780745 f9_n0
noncomputable def l23_Made_k0 (x1 x2 x4 x5 x8 : Value) (H : AH) : OV := f9_n0 (ls [u, x1, x2, u, x4, x5, u, u, x8] 79) H
noncomputable def f9_n1 : KK := CQ (f9_b [1, 1, 1, 1, 1, 1]) f9_r kx0 f9_r
noncomputable def f9_m1 : KK := clr 309485009821345068724780751 f9_n1
noncomputable def l23_Made_k1 (x4 x5 x8 : Value) (H : AH) : OV := f9_n1 (ls [u, u, u, u, x4, x5, u, u, x8] 79) H
noncomputable def f9_n5 : KK := CQ (f9_b [1, 1, 1, 1, 1, 0, 1]) f9_m1 kx0 f9_r
noncomputable def f9_m5 : KK := clr 309485009821345068724780233 f9_n5
noncomputable def l23_Made_k5 (x1 x2 x4 x5 x8 x9 : Value) (H : AH) : OV := f9_n5 (ls [u, x1, x2, u, x4, x5, u, u, x8, x9] 78) H
noncomputable def f9_x6 : KX := BX 0 f9_m1 kx0
noncomputable def f9_y6 : KX := clx 309485009821345068724780751 f9_x6
noncomputable def f9_n7 : KK := CLq (f9_b [1, 1, 1, 1, 1, 0, 1, 4, 5]) f9_y6 f9_r
noncomputable def f9_m7 : KK := clr 309485009821345068724780233 f9_n7
-- a loop
noncomputable def l23_Made_k7 (x1 x2 x4 x5 x8 x9 : Value) (H : AH) : OV := f9_n7 (ls [u, x1, x2, u, x4, x5, u, u, x8, x9] 78) H
noncomputable def f9_n8 : KK := CQ (f9_b [1, 1, 1, 1, 1, 0, 1, 4, 5, 1]) f9_m7 f9_y6 f9_r
noncomputable def f9_m8 : KK := clr 309485009821345068724780233 f9_n8
noncomputable def l23_Made_k8 (x1 x2 x4 x5 x8 x9 : Value) (H : AH) : OV := f9_n8 (ls [u, x1, x2, u, x4, x5, u, u, x8, x9] 78) H
noncomputable def f9_n9 : KK := CQ (f9_b [1, 1, 1, 1, 1, 0, 1, 4, 5, 1, 1]) f9_m7 f9_y6 f9_r
noncomputable def f9_m9 : KK := clr 309485009821345068724780233 f9_n9
noncomputable def l23_Made_k9 (x1 x2 x4 x5 x8 x9 : Value) (H : AH) : OV := f9_n9 (ls [u, x1, x2, u, x4, x5, u, u, x8, x9] 78) H
noncomputable def f9_x11 : KX := BX 1 f9_m9 f9_y6
noncomputable def f9_y11 : KX := clx 309485009821345068724780233 f9_x11
noncomputable def l23_Made_e6_0 (x4 x5 x8 : Value) (H : AH) : OV := f9_x6 0 (ls [u, u, u, u, x4, x5, u, u, x8] 79) H
theorem f9_r_d : Resp 309485009821345068724781007 f9_r := rf
theorem f9_n0_d : Resp 309485009821345068724780745 f9_n0 := rc f9_r_d kx0_d f9_r_d
theorem f9_n1_d : Resp 309485009821345068724780751 f9_n1 := rc f9_r_d kx0_d f9_r_d
theorem f9_n5_d : Resp 309485009821345068724780233 f9_n5 := rc (cd f9_n1_d) kx0_d f9_r_d
theorem f9_x6_d : ∀ i, Resp 309485009821345068724780751 (f9_x6 i) := rb (cd f9_n1_d) kx0_d
theorem f9_n7_d : Resp 309485009821345068724780233 f9_n7 := rl (cx f9_x6_d) f9_r_d
theorem f9_n8_d : Resp 309485009821345068724780233 f9_n8 := rc (cd f9_n7_d) (cx f9_x6_d) f9_r_d
theorem f9_n9_d : Resp 309485009821345068724780233 f9_n9 := rc (cd f9_n7_d) (cx f9_x6_d) f9_r_d
theorem f9_x11_d : ∀ i, Resp 309485009821345068724780233 (f9_x11 i) := rb (cd f9_n9_d) (cx f9_x6_d)
theorem l23_Made_k1_eq (x4 x5 x8 : Value) (H : AH) : l23_Made_k1 x4 x5 x8 H =
  (pLdN 2 x8 H).bind fun v2 =>
  (pSt 2 x4 v2 H).bind fun H3 =>
  (pLdN 2 x4 H3).bind fun v4 => some (Value.tuple #[v4, (vb true)], H3) :=
  (by kernel_rfl)
theorem l23_Made_k9_eq (x1 x2 x4 x5 x8 x9 : Value) (H : AH) : l23_Made_k9 x1 x2 x4 x5 x8 x9 H =
  (pBin .other .add x9 (vi 1)).bind fun v10 =>
  l23_Made_k7 x1 x2 x4 x5 x8 v10 H :=
  (by kernel_rfl)
theorem l23_Made_k8_eq (x1 x2 x4 x5 x8 x9 : Value) (H : AH) : l23_Made_k8 x1 x2 x4 x5 x8 x9 H =
  ld [.f 0] x2 H fun v12 =>
  (pBin .other .quo x9 v12).bind fun v13 =>
  ld [.f 1] x2 H fun v14 =>
  (pBin .other .lss v13 v14).bind fun v15 =>
  (gB v15 true (pLdN 2 x8 H)).bind fun v16 =>
  (gV v15 true x9).bind fun v17 =>
  (gV v15 true x9).bind fun v18 =>
  (gB v15 true (pBin .other .add (vi 1) v18)).bind fun v19 =>
  (gV v15 true x9).bind fun v20 =>
  (gB v15 true (pBin .other .rem v20 (vi 2))).bind fun v21 =>
  (gB v15 true (pBin .other .add (vi 2) v21)).bind fun v22 =>
  (gE v15 true H (FF n_l23_Pair_put [v16, v17, v19, v22] H)).bind fun r23 =>
  (gB v15 true (pUn .not r23.1)).bind fun v24 =>
  (pPick v15 v24 (vb false)).bind fun v25 =>
  condK v25
  (mkS [(0, 1), (1, 1)] [(.pointer none), (.pointer none)] [] fun v26 =>
  (pSt 2 x4 v26 r23.2).bind fun H27 =>
  (pLdN 2 x4 H27).bind fun v28 => some (Value.tuple #[v28, (vb false)], H27))
  (l23_Made_k9 x1 x2 x4 x5 x8 x9 r23.2) :=
  (pt rfl 0 f9_n9_d (bt rfl (f9_b [1, 1, 1, 1, 1, 0, 1, 4, 5, 1, 0, 4]) 1 f9_x11_d (by kernel_rfl)))
theorem l23_Made_e6_0_eq (x4 x5 x8 : Value) (H : AH) : l23_Made_e6_0 x4 x5 x8 H = l23_Made_k1 x4 x5 x8 H :=
  (by kernel_rfl)
theorem l23_Made_k7_eq (x1 x2 x4 x5 x8 x9 : Value) (H : AH) : l23_Made_k7 x1 x2 x4 x5 x8 x9 H =
  (pBin .other .lss x9 x1).bind fun v29 =>
  condK v29
  (l23_Made_k8 x1 x2 x4 x5 x8 x9 H)
  (l23_Made_e6_0 x4 x5 x8 H) :=
  lt' rfl f9_n7_d (pt rfl 0 f9_n8_d (by kernel_rfl))
theorem l23_Made_k5_eq (x1 x2 x4 x5 x8 x9 : Value) (H : AH) : l23_Made_k5 x1 x2 x4 x5 x8 x9 H =
  l23_Made_k7 x1 x2 x4 x5 x8 x9 H :=
  (bt rfl (f9_b [1, 1, 1, 1, 1, 0, 1, 4]) 0 f9_x6_d (li rfl (f9_b [1, 1, 1, 1, 1, 0, 1, 4, 5]) f9_n7_d (by kernel_rfl)))
theorem l23_Made_k0_eq (x1 x2 x4 x5 x8 : Value) (H : AH) : l23_Made_k0 x1 x2 x4 x5 x8 H =
  l23_Made_k5 x1 x2 x4 x5 x8 (vi 0) H :=
  (pt rfl 0 f9_n1_d (pt rfl 0 f9_n5_d (by kernel_rfl)))
noncomputable def l23_Made (x0 x1 : Value) (H : AH) : OV := cCode PP GG FF (f9_b []) (ls [x0, x1] 86) H f9_r kx0 f9_r
theorem l23_Made_of (x0 x1 : Value) (H : AH) {r : Value × AH} (h : (
  newK (Value.cells x0).toList H fun v30 H31 =>
  newK [(.pointer none), (.pointer none)] H31 fun v32 H33 =>
  (pLdN 5 v30 H33).bind fun v34 =>
  (FF n_play_Config [v34] H33).bind fun r35 =>
  (pSt 5 v30 r35.1 r35.2).bind fun H36 =>
  (pLdN 5 v30 H36).bind fun v37 =>
  (FF n_parts_New [v37] H36).bind fun r38 =>
  (pExtract r38.1 0).bind fun v39 =>
  (pExtract r38.1 1).bind fun v40 =>
  (pBin .other .neq v40 (vi 0)).bind fun v41 =>
  (gV v41 false v39).bind fun v42 =>
  (gB v41 false (pBin .ptr .eql v42 (.pointer none))).bind fun v43 =>
  (pPick v41 (vb true) v43).bind fun v44 =>
  (gV v44 false v39).bind fun v45 =>
  gld v44 false  [.n, .f 0] v45 r38.2 fun v46 =>
  (gB v44 false (pBin .ptr .eql v46 (.pointer none))).bind fun v47 =>
  (pPick v44 (vb true) v47).bind fun v48 =>
  (gV v48 false v39).bind fun v49 =>
  gld v48 false  [.n, .f 1] v49 r38.2 fun v50 =>
  (gB v48 false (pBin .ptr .eql v50 (.pointer none))).bind fun v51 =>
  (pPick v48 (vb true) v51).bind fun v52 =>
  (gV v52 false v39).bind fun v53 =>
  gld v52 false  [.n, .f 2] v53 r38.2 fun v54 =>
  (gB v52 false (pBin .ptr .eql v54 (.pointer none))).bind fun v55 =>
  (pPick v52 (vb true) v55).bind fun v56 =>
  (gV v56 false v39).bind fun v57 =>
  gld v56 false  [.n, .f 3] v57 r38.2 fun v58 =>
  (gB v56 false (pBin .ptr .eql v58 (.pointer none))).bind fun v59 =>
  (pPick v56 (vb true) v59).bind fun v60 =>
  (gV v60 false v39).bind fun v61 =>
  gld v60 false  [.n, .f 4] v61 r38.2 fun v62 =>
  (gB v60 false (pBin .ptr .eql v62 (.pointer none))).bind fun v63 =>
  (pPick v60 (vb true) v63).bind fun v64 =>
  condK v64
  (mkS [(0, 1), (1, 1)] [(.pointer none), (.pointer none)] [] fun v65 =>
  (pSt 2 v32 v65 r38.2).bind fun H66 =>
  (pLdN 2 v32 H66).bind fun v67 => some (Value.tuple #[v67, (vb false)], H66))
  ((pLdN 5 v30 r38.2).bind fun v68 =>
  (FF n_r16_NewParts [v68] r38.2).bind fun r69 =>
  mkS [(0, 1), (1, 1)] [(.pointer none), (.pointer none)] [(0, v39), (1, r69.1)] fun v70 =>
  newK [(.pointer none), (.pointer none)] r69.2 fun v71 H72 =>
  (pSt 2 v71 v70 H72).bind fun H73 =>
  l23_Made_k0 x1 v30 v32 (vb false) v71 H73)) = some r) : FF n_l23_Made [x0, x1] H = some r :=
  fo (t := l23_Made x0 x1 H) Tryz.func9 (by kernel_rfl) (Eq.trans (pt rfl 4 f9_n0_d (by kernel_rfl)) h)

-- FUNCTION mem_Mem_Len
theorem mem_Mem_Len_of (x0 : Value) (H : AH) {r : Value × AH} (h : (
  ld [.n, .f 1] x0 H fun v0 =>
  lenK v0 fun v1 =>
  some (v1, H)) = some r) : FF n_mem_Mem_Len [x0] H = some r :=
  fo Tryz.func11 (by kernel_rfl) h

-- FUNCTION parts_Parts_Begin
theorem parts_Parts_Begin_of (x0 x1 x2 : Value) (H : AH) {r : Value × AH} (h : (
  ld [.n, .f 11] x0 H fun v0 =>
  (pUpdate .int v0 x1 x2 H).bind fun H1 =>
  some (Value.tuple #[], H1)) = some r) : FF n_parts_Parts_Begin [x0, x1, x2] H = some r :=
  fo Tryz.func12 (by kernel_rfl) h

-- FUNCTION enq_New
theorem enq_New_of (x0 x1 x2 : Value) (H : AH) {r : Value × AH} (h : (
  newK (Value.cells x2).toList H fun v0 H1 =>
  (pLdN 4 v0 H1).bind fun v2 =>
  ld [.n, .f 2] x0 H1 fun v3 =>
  ld [.f 1] v0 H1 fun v4 =>
  (FF n_table_Table_Shard [v3, v4] H1).bind fun r5 =>
  eqK (pLdN 4 v0 r5.2) (pLdN 4 v0 H1) <|
  mkS [(0, 1), (1, 1), (2, 4), (6, 1), (7, 1), (8, 1), (9, 1), (10, 1), (11, 1), (12, 1), (13, 1), (14, 1), (15, 1)] [(.pointer none), (vi 0), (vi 0), (vi 0), (vi 0), (vi 0), (vi 0), Value.nilFunc, (vi 0), (vi 0), (vb false), (.pointer none), (vw 0), (vw 0), (vi 0), (vw 0)] [(0, x0), (1, x1), (2, v2), (3, r5.1)] fun v6 =>
  newK (Value.cells v6).toList r5.2 fun v7 H8 =>
  st 1 [.n, .f 7] v7 (.func (.func n_enq_Enq_first) #[v7] #[]) H8 fun H9 =>
  some (v7, H9)) = some r) : FF n_enq_New [x0, x1, x2] H = some r :=
  fo Tryz.func13 (by kernel_rfl) h

-- FUNCTION enq_Enq_Step
theorem enq_Enq_Step_of (x0 x1 : Value) (H : AH) {r : Value × AH} (h : (
  newK [(vi 0), (.slice none 0 0), (vi 0), (vw 0)] H fun v0 H1 =>
  ld [.n, .f 7] x0 H1 fun v2 =>
  (pCallee v2 [x1]).bind fun c => (FF c.1 c.2 H1).bind fun r3 =>
  (pExtract r3.1 0).bind fun v4 =>
  (pExtract r3.1 1).bind fun v5 =>
  (pSt 4 v0 v4 r3.2).bind fun H6 =>
  (pLdN 4 v0 H6).bind fun v7 => some (Value.tuple #[v7, v5], H6)) = some r) : FF n_enq_Enq_Step [x0, x1] H = some r :=
  fo Tryz.func14 (by kernel_rfl) h

-- FUNCTION parts_Parts_Points
noncomputable def f15_b (p : List Nat) : Code := Code.sub (bodyOf Tryz.f15) p
noncomputable def f15_r : KK := cFin PP (Tryz.f15).results.toList
noncomputable def f15_n0 : KK := CQ (f15_b [1, 1, 1, 1]) f15_r kx0 f15_r
noncomputable def f15_m0 : KK := clr 1073741795 f15_n0
noncomputable def parts_Parts_Points_k0 (x2 x3 x4 : Value) (H : AH) : OV := f15_n0 (ls [u, u, x2, x3, x4] 25) H
noncomputable def f15_n1 : KK := CQ (f15_b [1, 1, 1, 1, 1]) f15_r kx0 f15_r
noncomputable def f15_m1 : KK := clr 1073741803 f15_n1
noncomputable def parts_Parts_Points_k1 (x2 x4 : Value) (H : AH) : OV := f15_n1 (ls [u, u, x2, u, x4] 25) H
noncomputable def f15_n2 : KK := CQ (f15_b [1, 1, 1, 1, 0, 1]) f15_m1 kx0 f15_r
noncomputable def f15_m2 : KK := clr 1073627115 f15_n2
noncomputable def parts_Parts_Points_k2 (x2 x4 x14 x15 x16 : Value) (H : AH) : OV := f15_n2 (ls [u, u, x2, u, x4, u, u, u, u, u, u, u, u, u, x14, x15, x16] 13) H
noncomputable def f15_x3 : KX := BX 0 f15_m1 kx0
noncomputable def f15_y3 : KX := clx 1073741803 f15_x3
noncomputable def f15_n4 : KK := CLq (f15_b [1, 1, 1, 1, 0, 1, 4, 5]) f15_y3 f15_r
noncomputable def f15_m4 : KK := clr 1073627115 f15_n4
-- a loop
noncomputable def parts_Parts_Points_k4 (x2 x4 x14 x15 x16 : Value) (H : AH) : OV := f15_n4 (ls [u, u, x2, u, x4, u, u, u, u, u, u, u, u, u, x14, x15, x16] 13) H
noncomputable def f15_n5 : KK := CQ (f15_b [1, 1, 1, 1, 0, 1, 4, 5, 1, 1]) f15_m4 f15_y3 f15_r
noncomputable def f15_m5 : KK := clr 1073627115 f15_n5
noncomputable def parts_Parts_Points_k5 (x2 x4 x14 x15 x16 : Value) (H : AH) : OV := f15_n5 (ls [u, u, x2, u, x4, u, u, u, u, u, u, u, u, u, x14, x15, x16] 13) H
noncomputable def f15_n6 : KK := CQ (f15_b [1, 1, 1, 1, 0, 1, 4, 5, 1, 1, 1]) f15_m4 f15_y3 f15_r
noncomputable def f15_m6 : KK := clr 1073627115 f15_n6
noncomputable def parts_Parts_Points_k6 (x2 x4 x14 x15 x16 : Value) (H : AH) : OV := f15_n6 (ls [u, u, x2, u, x4, u, u, u, u, u, u, u, u, u, x14, x15, x16] 13) H
noncomputable def f15_x8 : KX := BX 1 f15_m6 f15_y3
noncomputable def f15_y8 : KX := clx 1073627115 f15_x8
noncomputable def parts_Parts_Points_e3_0 (x2 x4 : Value) (H : AH) : OV := f15_x3 0 (ls [u, u, x2, u, x4] 25) H
theorem f15_r_d : Resp 1073741819 f15_r := rf
theorem f15_n0_d : Resp 1073741795 f15_n0 := rc f15_r_d kx0_d f15_r_d
theorem f15_n1_d : Resp 1073741803 f15_n1 := rc f15_r_d kx0_d f15_r_d
theorem f15_n2_d : Resp 1073627115 f15_n2 := rc (cd f15_n1_d) kx0_d f15_r_d
theorem f15_x3_d : ∀ i, Resp 1073741803 (f15_x3 i) := rb (cd f15_n1_d) kx0_d
theorem f15_n4_d : Resp 1073627115 f15_n4 := rl (cx f15_x3_d) f15_r_d
theorem f15_n5_d : Resp 1073627115 f15_n5 := rc (cd f15_n4_d) (cx f15_x3_d) f15_r_d
theorem f15_n6_d : Resp 1073627115 f15_n6 := rc (cd f15_n4_d) (cx f15_x3_d) f15_r_d
theorem f15_x8_d : ∀ i, Resp 1073627115 (f15_x8 i) := rb (cd f15_n6_d) (cx f15_x3_d)
theorem parts_Parts_Points_k1_eq (x2 x4 : Value) (H : AH) : parts_Parts_Points_k1 x2 x4 H =
  some (x4, H) :=
  (by kernel_rfl)
theorem parts_Parts_Points_k6_eq (x2 x4 x14 x15 x16 : Value) (H : AH) : parts_Parts_Points_k6 x2 x4 x14 x15 x16 H =
  (pBin .other .add x16 (vi 1)).bind fun v7 =>
  parts_Parts_Points_k4 x2 x4 x14 x15 v7 H :=
  (by kernel_rfl)
theorem parts_Parts_Points_k5_eq (x2 x4 x14 x15 x16 : Value) (H : AH) : parts_Parts_Points_k5 x2 x4 x14 x15 x16 H =
  ldN 7 [.i 7 x16] x14 H fun v9 =>
  newK [(vi 0), (vi 0), (vi 0), (vi 0), (.slice none 0 0), (vi 0), (vw 0)] H fun v10 H11 =>
  (pSt 7 v10 v9 H11).bind fun H12 =>
  ldN 4 [.f 3] v10 H12 fun v13 =>
  (FF n_parts_own [v13] H12).bind fun r14 =>
  st 4 [.f 3] v10 r14.1 r14.2 fun H15 =>
  (pLdN 7 v10 H15).bind fun v16 =>
  mkR 1 7 [(vi 0), (vi 0), (vi 0), (vi 0), (.slice none 0 0), (vi 0), (vw 0)] [(0, v16)] H15 fun v17 H18 =>
  (pApp 7 72 x4 v17 H18).bind fun r19 =>
  parts_Parts_Points_k6 x2 r19.1 x14 x15 x16 r19.2 :=
  (pt rfl 0 f15_n6_d (bt rfl (f15_b [1, 1, 1, 1, 0, 1, 4, 5, 1, 1, 0, 4]) 1 f15_x8_d (by kernel_rfl)))
theorem parts_Parts_Points_e3_0_eq (x2 x4 : Value) (H : AH) : parts_Parts_Points_e3_0 x2 x4 H = parts_Parts_Points_k1 x2 x4 H :=
  (by kernel_rfl)
theorem parts_Parts_Points_k4_eq (x2 x4 x14 x15 x16 : Value) (H : AH) : parts_Parts_Points_k4 x2 x4 x14 x15 x16 H =
  (pBin .other .lss x16 x15).bind fun v20 =>
  condK v20
  (parts_Parts_Points_k5 x2 x4 x14 x15 x16 H)
  (parts_Parts_Points_e3_0 x2 x4 H) :=
  lt' rfl f15_n4_d (pt rfl 1 f15_n5_d (by kernel_rfl))
theorem parts_Parts_Points_k2_eq (x2 x4 x14 x15 x16 : Value) (H : AH) : parts_Parts_Points_k2 x2 x4 x14 x15 x16 H =
  parts_Parts_Points_k4 x2 x4 x14 x15 x16 H :=
  (bt rfl (f15_b [1, 1, 1, 1, 0, 1, 4]) 0 f15_x3_d (li rfl (f15_b [1, 1, 1, 1, 0, 1, 4, 5]) f15_n4_d (by kernel_rfl)))
theorem parts_Parts_Points_k0_eq (x2 x3 x4 : Value) (H : AH) : parts_Parts_Points_k0 x2 x3 x4 H =
  lenK x3 fun v21 =>
  parts_Parts_Points_k2 x2 x4 x3 v21 (vi 0) H :=
  (pt rfl 0 f15_n1_d (pt rfl 0 f15_n2_d (by kernel_rfl)))
noncomputable def parts_Parts_Points (x0 : Value) (H : AH) : OV := cCode PP GG FF (f15_b []) (ls [x0] 29) H f15_r kx0 f15_r
theorem parts_Parts_Points_of (x0 : Value) (H : AH) {r : Value × AH} (h : (
  ld [.n, .f 12] x0 H fun v22 =>
  (FF n_slices_Cloneparts_pointparts_point [v22] H).bind fun r23 =>
  (FF n_slices_SortStableFuncparts_pointparts_point [r23.1, (.func (.func n_parts_point_order) #[] #[])] r23.2).bind fun r24 =>
  parts_Parts_Points_k0 (.slice none 0 0) r23.1 (.slice none 0 0) r24.2) = some r) : FF n_parts_Parts_Points [x0] H = some r :=
  fo (t := parts_Parts_Points x0 H) Tryz.func15 (by kernel_rfl) (Eq.trans (pt rfl 3 f15_n0_d (by kernel_rfl)) h)

-- FUNCTION help_Ret
theorem help_Ret_of (x0 x1 : Value) (H : AH) {r : Value × AH} (h : (
  newK (Value.cells x0).toList H fun v0 H1 =>
  newK (Value.cells x1).toList H1 fun v2 H3 =>
  ld [.f 0] v0 H3 fun v4 =>
  ld [.f 0] v2 H3 fun v5 =>
  (pBin .other .eql v4 v5).bind fun v6 =>
  gld v6 true  [.f 2] v0 H3 fun v7 =>
  gld v6 true  [.f 2] v2 H3 fun v8 =>
  (gB v6 true (pBin .other .eql v7 v8)).bind fun v9 =>
  (pPick v6 v9 (vb false)).bind fun v10 =>
  gld v10 true  [.f 3] v0 H3 fun v11 =>
  gld v10 true  [.f 3] v2 H3 fun v12 =>
  (gB v10 true (pBin .other .eql v11 v12)).bind fun v13 =>
  (pPick v10 v13 (vb false)).bind fun v14 =>
  gld v14 true  [.f 1] v0 H3 fun v15 =>
  gld v14 true  [.f 1] v2 H3 fun v16 =>
  (gE v14 true H3 (FF n_help_Plainapi_Packet [v15, v16] H3)).bind fun r17 =>
  (pPick v14 r17.1 (vb false)).bind fun v18 =>
  some (v18, r17.2)) = some r) : FF n_help_Ret [x0, x1] H = some r :=
  fo Tryz.func16 (by kernel_rfl) h

-- FUNCTION help_Point
theorem help_Point_of (x0 x1 : Value) (H : AH) {r : Value × AH} (h : (
  newK (Value.cells x0).toList H fun v0 H1 =>
  newK (Value.cells x1).toList H1 fun v2 H3 =>
  ld [.f 0] v0 H3 fun v4 =>
  ld [.f 0] v2 H3 fun v5 =>
  (pBin .other .eql v4 v5).bind fun v6 =>
  gld v6 true  [.f 1] v0 H3 fun v7 =>
  gld v6 true  [.f 1] v2 H3 fun v8 =>
  (gB v6 true (pBin .other .eql v7 v8)).bind fun v9 =>
  (pPick v6 v9 (vb false)).bind fun v10 =>
  gld v10 true  [.f 2] v0 H3 fun v11 =>
  gld v10 true  [.f 2] v2 H3 fun v12 =>
  (gB v10 true (pBin .other .eql v11 v12)).bind fun v13 =>
  (pPick v10 v13 (vb false)).bind fun v14 =>
  gldN v14 true  4 [.f 3] v0 H3 fun v15 =>
  gldN v14 true  4 [.f 3] v2 H3 fun v16 =>
  (gE v14 true H3 (FF n_help_Ret [v15, v16] H3)).bind fun r17 =>
  (pPick v14 r17.1 (vb false)).bind fun v18 =>
  some (v18, r17.2)) = some r) : FF n_help_Point [x0, x1] H = some r :=
  fo Tryz.func17 (by kernel_rfl) h

end Go.Proofs.YtodpbobjmkhcfaaGreatDoor.Gst
