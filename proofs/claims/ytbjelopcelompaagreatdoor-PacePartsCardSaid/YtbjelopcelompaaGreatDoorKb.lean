/- THE FUNCTIONS OF THE PROGRAM AS PLAIN LEAN FUNCTIONS: printed by a program of this work (XPr), each checked by the kernel against the program's text. -/
import Derived.Test.YtbjelopcelompaaGreatDoorKa
namespace Go.Proofs.YtbjelopcelompaaGreatDoor.Gst
open Go Go.RowKit
set_option maxRecDepth 100000
set_option linter.unusedVariables false
set_option maxHeartbeats 1000000
-- FUNCTION l29_PaceParts
noncomputable def f3_b (p : List Nat) : Code := Code.sub (bodyOf Tryz.f3) p
noncomputable def f3_r : KK := cFin PP (Tryz.f3).results.toList
noncomputable def f3_n0 : KK := CQ (f3_b [1]) f3_r kx0 f3_r
noncomputable def f3_m0 : KK := clr 4611686018427387825 f3_n0
noncomputable def l29_PaceParts_k0 (x1 x2 x3 x6 : Value) (H : AH) : OV := f3_n0 (ls [u, x1, x2, x3, u, u, x6] 55) H
noncomputable def f3_n1 : KK := CQ (f3_b [1, 1]) f3_r kx0 f3_r
noncomputable def f3_m1 : KK := clr 4611686018427387831 f3_n1
noncomputable def l29_PaceParts_k1 (x3 x6 : Value) (H : AH) : OV := f3_n1 (ls [u, u, u, x3, u, u, x6] 55) H
noncomputable def f3_n2 : KK := CQ (f3_b [1, 1, 1]) f3_r kx0 f3_r
noncomputable def f3_m2 : KK := clr 4611686018427387319 f3_n2
noncomputable def l29_PaceParts_k2 (x3 x6 x9 : Value) (H : AH) : OV := f3_n2 (ls [u, u, u, x3, u, u, x6, u, u, x9] 52) H
noncomputable def f3_n3 : KK := CQ (f3_b [1, 1, 1, 1]) f3_r kx0 f3_r
noncomputable def f3_m3 : KK := clr 4611686018427387319 f3_n3
noncomputable def l29_PaceParts_k3 (x3 x6 x9 : Value) (H : AH) : OV := f3_n3 (ls [u, u, u, x3, u, u, x6, u, u, x9] 52) H
noncomputable def f3_n20 : KK := CQ (f3_b [1, 0, 1]) f3_m1 kx0 f3_r
noncomputable def f3_m20 : KK := clr 4611686018427386803 f3_n20
noncomputable def l29_PaceParts_k20 (x2 x3 x6 x10 : Value) (H : AH) : OV := f3_n20 (ls [u, u, x2, x3, u, u, x6, u, u, u, x10] 51) H
noncomputable def f3_n21 : KK := CQ (f3_b [1, 0, 1, 2, 1, 1]) f3_m1 kx0 f3_r
noncomputable def f3_m21 : KK := clr 4611686018427387699 f3_n21
noncomputable def l29_PaceParts_k21 (x2 x3 x6 x7 : Value) (H : AH) : OV := f3_n21 (ls [u, u, x2, x3, u, u, x6, x7] 54) H
noncomputable def f3_x22 : KX := BX 0 f3_m1 kx0
noncomputable def f3_y22 : KX := clx 4611686018427387831 f3_x22
noncomputable def f3_n23 : KK := CLq (f3_b [1, 0, 1, 2, 1, 1, 4, 5]) f3_y22 f3_r
noncomputable def f3_m23 : KK := clr 4611686018427387699 f3_n23
-- a loop
noncomputable def l29_PaceParts_k23 (x2 x3 x6 x7 : Value) (H : AH) : OV := f3_n23 (ls [u, u, x2, x3, u, u, x6, x7] 54) H
noncomputable def f3_n24 : KK := CQ (f3_b [1, 0, 1, 2, 1, 1, 4, 5, 1]) f3_m23 f3_y22 f3_r
noncomputable def f3_m24 : KK := clr 4611686018427387699 f3_n24
noncomputable def l29_PaceParts_k24 (x2 x3 x6 x7 : Value) (H : AH) : OV := f3_n24 (ls [u, u, x2, x3, u, u, x6, x7] 54) H
noncomputable def f3_n25 : KK := CQ (f3_b [1, 0, 1, 2, 1, 1, 4, 5, 1, 1]) f3_m23 f3_y22 f3_r
noncomputable def f3_m25 : KK := clr 4611686018427387699 f3_n25
noncomputable def l29_PaceParts_k25 (x2 x3 x6 x7 : Value) (H : AH) : OV := f3_n25 (ls [u, u, x2, x3, u, u, x6, x7] 54) H
noncomputable def f3_x27 : KX := BX 1 f3_m25 f3_y22
noncomputable def f3_y27 : KX := clx 4611686018427387699 f3_x27
noncomputable def l29_PaceParts_e22_0 (x3 x6 : Value) (H : AH) : OV := f3_x22 0 (ls [u, u, u, x3, u, u, x6] 55) H
theorem f3_r_d : Resp 4611686018427387839 f3_r := rf
theorem f3_n0_d : Resp 4611686018427387825 f3_n0 := rc f3_r_d kx0_d f3_r_d
theorem f3_n1_d : Resp 4611686018427387831 f3_n1 := rc f3_r_d kx0_d f3_r_d
theorem f3_n2_d : Resp 4611686018427387319 f3_n2 := rc f3_r_d kx0_d f3_r_d
theorem f3_n3_d : Resp 4611686018427387319 f3_n3 := rc f3_r_d kx0_d f3_r_d
theorem f3_n20_d : Resp 4611686018427386803 f3_n20 := rc (cd f3_n1_d) kx0_d f3_r_d
theorem f3_n21_d : Resp 4611686018427387699 f3_n21 := rc (cd f3_n1_d) kx0_d f3_r_d
theorem f3_x22_d : ∀ i, Resp 4611686018427387831 (f3_x22 i) := rb (cd f3_n1_d) kx0_d
theorem f3_n23_d : Resp 4611686018427387699 f3_n23 := rl (cx f3_x22_d) f3_r_d
theorem f3_n24_d : Resp 4611686018427387699 f3_n24 := rc (cd f3_n23_d) (cx f3_x22_d) f3_r_d
theorem f3_n25_d : Resp 4611686018427387699 f3_n25 := rc (cd f3_n23_d) (cx f3_x22_d) f3_r_d
theorem f3_x27_d : ∀ i, Resp 4611686018427387699 (f3_x27 i) := rb (cd f3_n25_d) (cx f3_x22_d)
theorem l29_PaceParts_k3_eq (x3 x6 x9 : Value) (H : AH) : l29_PaceParts_k3 x3 x6 x9 H =
  (FF n_l29_awake [] H).bind fun r4 =>
  (gB r4.1 true (pLdN 6 x3 r4.2)).bind fun v5 =>
  (gE r4.1 true r4.2 (FF n_pace_Parts [v5] r4.2)).bind fun r6 =>
  (gV r4.1 true x9).bind fun v7 =>
  (gB r4.1 true (pBin .other .eql r6.1 v7)).bind fun v8 =>
  (pPick r4.1 v8 (vb false)).bind fun v9 =>
  (gB v9 true (pLdN 6 x3 r6.2)).bind fun v10 =>
  (gE v9 true r6.2 (FF n_pace_Bound [v10] r6.2)).bind fun r11 =>
  (gB v9 true (pLdN 6 x3 r11.2)).bind fun v12 =>
  eqK (pLdN 6 x3 r6.2) (pLdN 6 x3 r11.2) <|
  (gE v9 true r11.2 (FF n_r27_Bound [v12] r11.2)).bind fun r13 =>
  (gB v9 true (pBin .other .eql r11.1 r13.1)).bind fun v14 =>
  (pPick v9 v14 (vb false)).bind fun v15 =>
  some (v15, r13.2) :=
  (by kernel_rfl)
theorem l29_PaceParts_k2_eq (x3 x6 x9 : Value) (H : AH) : l29_PaceParts_k2 x3 x6 x9 H =
  (pLdN 6 x3 H).bind fun v16 =>
  (FF n_r16_May [v16] H).bind fun r17 =>
  condK r17.1
  ((pLdN 6 x3 r17.2).bind fun v18 =>
  (FF n_r27_Parts [v18] r17.2).bind fun r19 =>
  l29_PaceParts_k3 x3 x6 r19.1 r19.2)
  (l29_PaceParts_k3 x3 x6 x9 r17.2) :=
  (pt rfl 0 f3_n3_d (by kernel_rfl))
theorem l29_PaceParts_k1_eq (x3 x6 : Value) (H : AH) : l29_PaceParts_k1 x3 x6 H =
  l29_PaceParts_k2 x3 x6 (vi 0) H :=
  (pt rfl 0 f3_n2_d (by kernel_rfl))
theorem l29_PaceParts_k25_eq (x2 x3 x6 x7 : Value) (H : AH) : l29_PaceParts_k25 x2 x3 x6 x7 H =
  (pBin .other .add x7 (vi 1)).bind fun v26 =>
  l29_PaceParts_k23 x2 x3 x6 v26 H :=
  (by kernel_rfl)
theorem l29_PaceParts_k24_eq (x2 x3 x6 x7 : Value) (H : AH) : l29_PaceParts_k24 x2 x3 x6 x7 H =
  ld [.f 5] x3 H fun v28 =>
  lenK v28 fun v29 =>
  (FF n_play_Mod [x7, v29] H).bind fun r30 =>
  ad [.f 5] x3 fun v31 =>
  (pLd1 v31 r30.2).bind fun v32 =>
  ld [.f 5] x3 r30.2 fun v33 =>
  ld [.i 1 r30.1] v33 r30.2 fun v34 =>
  ld [.i 1 x7] x2 r30.2 fun v35 =>
  mkS [(0, 1), (1, 1), (2, 1), (3, 1)] [(vi 0), (vi 0), (vi 0), (vi 0)] [(0, (vi 5)), (2, v35)] fun v36 =>
  mkR 1 4 [(vi 0), (vi 0), (vi 0), (vi 0)] [(0, v36)] r30.2 fun v37 H38 =>
  (pApp 4 32 v34 v37 H38).bind fun r39 =>
  eqK (pLd1 v31 r39.2) (pLd1 v31 r30.2) <|
  st 1 [.i 1 r30.1] v32 r39.1 r39.2 fun H40 =>
  l29_PaceParts_k25 x2 x3 x6 x7 H40 :=
  (pt rfl 0 f3_n25_d (bt rfl (f3_b [1, 0, 1, 2, 1, 1, 4, 5, 1, 0, 4]) 1 f3_x27_d (by kernel_rfl)))
theorem l29_PaceParts_e22_0_eq (x3 x6 : Value) (H : AH) : l29_PaceParts_e22_0 x3 x6 H = l29_PaceParts_k1 x3 x6 H :=
  (by kernel_rfl)
theorem l29_PaceParts_k23_eq (x2 x3 x6 x7 : Value) (H : AH) : l29_PaceParts_k23 x2 x3 x6 x7 H =
  lenK x2 fun v41 =>
  (pBin .other .lss x7 v41).bind fun v42 =>
  (gV v42 true x7).bind fun v43 =>
  (gB v42 true (pBin .other .lss v43 (vi 30))).bind fun v44 =>
  (pPick v42 v44 (vb false)).bind fun v45 =>
  condK v45
  (l29_PaceParts_k24 x2 x3 x6 x7 H)
  (l29_PaceParts_e22_0 x3 x6 H) :=
  lt' rfl f3_n23_d (pt rfl 0 f3_n24_d (by kernel_rfl))
theorem l29_PaceParts_k21_eq (x2 x3 x6 x7 : Value) (H : AH) : l29_PaceParts_k21 x2 x3 x6 x7 H =
  l29_PaceParts_k23 x2 x3 x6 x7 H :=
  (bt rfl (f3_b [1, 0, 1, 2, 1, 1, 4]) 0 f3_x22_d (li rfl (f3_b [1, 0, 1, 2, 1, 1, 4, 5]) f3_n23_d (by kernel_rfl)))
theorem l29_PaceParts_k20_eq (x2 x3 x6 x10 : Value) (H : AH) : l29_PaceParts_k20 x2 x3 x6 x10 H =
  condK x10
  ((pLdN 6 x3 H).bind fun v46 =>
  (FF n_play_Plan [v46, (vi 5)] H).bind fun r47 =>
  (pSt 6 x3 r47.1 r47.2).bind fun H48 =>
  l29_PaceParts_k21 x2 x3 x6 (vi 0) H48)
  (l29_PaceParts_k1 x3 x6 H) :=
  (ct rfl (f3_b [1, 0, 1, 2]) (f3_b [1, 0, 1, 3]) (.tmp 10) (pt rfl 1 f3_n21_d (by kernel_rfl)) (by kernel_rfl))
theorem l29_PaceParts_k0_eq (x1 x2 x3 x6 : Value) (H : AH) : l29_PaceParts_k0 x1 x2 x3 x6 H =
  l29_PaceParts_k20 x2 x3 x6 x1 H :=
  (pt rfl 0 f3_n1_d (pt rfl 0 f3_n20_d (by kernel_rfl)))
noncomputable def l29_PaceParts (x0 x1 x2 : Value) (H : AH) : OV := cCode PP GG FF (f3_b []) (ls [x0, x1, x2] 59) H f3_r kx0 f3_r
theorem l29_PaceParts_of (x0 x1 x2 : Value) (H : AH) {r : Value × AH} (h : (
  newK (Value.cells x0).toList H fun v49 H50 =>
  l29_PaceParts_k0 x1 x2 v49 (vb false) H50) = some r) : FF n_l29_PaceParts [x0, x1, x2] H = some r :=
  fo (t := l29_PaceParts x0 x1 x2 H) Tryz.func3 (by kernel_rfl) (Eq.trans (pt rfl 0 f3_n0_d (by kernel_rfl)) h)

-- FUNCTION l29_PaceBound
theorem l29_PaceBound_of (x0 x1 x2 x3 : Value) (H : AH) {r : Value × AH} (h : (
  newK (Value.cells x0).toList H fun v0 H1 =>
  newK (Value.cells x2).toList H1 fun v2 H3 =>
  (pLdN 5 v0 H3).bind fun v4 =>
  (FF n_play_Wide [v4, x1, (vi 40)] H3).bind fun r5 =>
  newK [(vi 0), (vi 0), (vi 0), (vi 0), (vw 0), (.slice none 0 0)] r5.2 fun v6 H7 =>
  (pSt 6 v6 r5.1 H7).bind fun H8 =>
  (pLdN 6 v6 H8).bind fun v9 =>
  (FF n_pace_Bound [v9] H8).bind fun r10 =>
  ad [.f 0] v6 fun v11 =>
  (pLdN 5 v11 r10.2).bind fun v12 =>
  ld [.f 5] v6 r10.2 fun v13 =>
  (pApp 1 24 (.slice none 0 0) v13 r10.2).bind fun r14 =>
  eqK (pLdN 5 v11 r14.2) (pLdN 5 v11 r10.2) <|
  mkS [(0, 5), (5, 1)] [(vi 0), (vi 0), (vi 0), (vi 0), (vw 0), (.slice none 0 0)] [(0, v12), (1, r14.1)] fun v15 =>
  newK [(vi 0), (vi 0), (vi 0), (vi 0), (vw 0), (.slice none 0 0)] r14.2 fun v16 H17 =>
  (pSt 6 v16 v15 H17).bind fun H18 =>
  ld [.f 5] v16 H18 fun v19 =>
  lenK v19 fun v20 =>
  (FF n_play_Mod [x3, v20] H18).bind fun r21 =>
  ad [.f 5] v16 fun v22 =>
  (pLd1 v22 r21.2).bind fun v23 =>
  ld [.f 5] v16 r21.2 fun v24 =>
  ld [.i 1 r21.1] v24 r21.2 fun v25 =>
  (pApp 4 32 (.slice none 0 0) v25 r21.2).bind fun r26 =>
  eqK (pLd1 v22 r26.2) (pLd1 v22 r21.2) <|
  (pLdN 4 v2 r26.2).bind fun v27 =>
  eqK (pLdN 4 v2 r21.2) (pLdN 4 v2 r26.2) <|
  mkR 1 4 [(vi 0), (vi 0), (vi 0), (vi 0)] [(0, v27)] r26.2 fun v28 H29 =>
  (pApp 4 32 r26.1 v28 H29).bind fun r30 =>
  eqK (pLd1 v22 r30.2) (pLd1 v22 r21.2) <|
  st 1 [.i 1 r21.1] v23 r30.1 r30.2 fun H31 =>
  (FF n_l29_awake [] H31).bind fun r32 =>
  (pUn .not r32.1).bind fun v33 =>
  (gV v33 false r10.1).bind fun v34 =>
  (gB v33 false (pBin .other .lss v34 (vi 1))).bind fun v35 =>
  (pPick v33 (vb true) v35).bind fun v36 =>
  (gB v36 false (pLdN 6 v16 r32.2)).bind fun v37 =>
  (gE v36 false r32.2 (FF n_pace_Bound [v37] r32.2)).bind fun r38 =>
  (gV v36 false r10.1).bind fun v39 =>
  (gB v36 false (pBin .other .leq r38.1 v39)).bind fun v40 =>
  (pPick v36 (vb true) v40).bind fun v41 =>
  (gB v41 false (pLdN 6 v16 r38.2)).bind fun v42 =>
  (gE v41 false r38.2 (FF n_pace_Parts [v42] r38.2)).bind fun r43 =>
  (gB v41 false (pLdN 6 v6 r43.2)).bind fun v44 =>
  eqK (pLdN 6 v6 r38.2) (pLdN 6 v6 r43.2) <|
  (gE v41 false r43.2 (FF n_pace_Parts [v44] r43.2)).bind fun r45 =>
  (gB v41 false (pBin .other .leq r43.1 r45.1)).bind fun v46 =>
  (pPick v41 (vb true) v46).bind fun v47 =>
  (gB v47 false (pLdN 6 v16 r45.2)).bind fun v48 =>
  (gE v47 false r45.2 (FF n_pace_Parts [v48] r45.2)).bind fun r49 =>
  (gB v47 false (pLdN 6 v6 r49.2)).bind fun v50 =>
  eqK (pLdN 6 v6 r45.2) (pLdN 6 v6 r49.2) <|
  (gE v47 false r49.2 (FF n_pace_Parts [v50] r49.2)).bind fun r51 =>
  (gB v47 false (pBin .other .add r51.1 (vi 16))).bind fun v52 =>
  (gB v47 false (pBin .other .gtr r49.1 v52)).bind fun v53 =>
  (pPick v47 (vb true) v53).bind fun v54 =>
  condK v54
  (some ((vb false), r51.2))
  ((pLdN 6 v6 r51.2).bind fun v55 =>
  newK [(vi 0), (vi 0), (vi 0), (vi 0), (vw 0), (.slice none 0 0)] r51.2 fun v56 H57 =>
  (pSt 6 v56 v55 H57).bind fun H58 =>
  ld [.f 0, .f 2] v56 H58 fun v59 =>
  (pBin .other .add v59 (vi 1)).bind fun v60 =>
  st 1 [.f 0, .f 2] v56 v60 H58 fun H61 =>
  (pLdN 6 v6 H61).bind fun v62 =>
  newK [(vi 0), (vi 0), (vi 0), (vi 0), (vw 0), (.slice none 0 0)] H61 fun v63 H64 =>
  (pSt 6 v63 v62 H64).bind fun H65 =>
  ld [.f 0, .f 1] v63 H65 fun v66 =>
  (pBin .other .add v66 (vi 1)).bind fun v67 =>
  st 1 [.f 0, .f 1] v63 v67 H65 fun H68 =>
  (pLdN 6 v6 H68).bind fun v69 =>
  newK [(vi 0), (vi 0), (vi 0), (vi 0), (vw 0), (.slice none 0 0)] H68 fun v70 H71 =>
  (pSt 6 v70 v69 H71).bind fun H72 =>
  ld [.f 0, .f 0] v70 H72 fun v73 =>
  (pBin .other .add v73 (vi 1)).bind fun v74 =>
  st 1 [.f 0, .f 0] v70 v74 H72 fun H75 =>
  (pLdN 6 v56 H75).bind fun v76 =>
  (FF n_pace_Bound [v76] H75).bind fun r77 =>
  (pBin .other .gtr r77.1 r10.1).bind fun v78 =>
  ad [.f 0, .f 2] v6 fun v79 =>
  (pLd1 v79 r77.2).bind fun v80 =>
  eqK (pLd1 v79 H75) (pLd1 v79 r77.2) <|
  (pBin .other .lss v80 (vi 6)).bind fun v81 =>
  (pBin .bool .eql v78 v81).bind fun v82 =>
  (gB v82 true (pLdN 6 v63 r77.2)).bind fun v83 =>
  (gE v82 true r77.2 (FF n_pace_Bound [v83] r77.2)).bind fun r84 =>
  (gV v82 true r10.1).bind fun v85 =>
  (gB v82 true (pBin .other .gtr r84.1 v85)).bind fun v86 =>
  gad v82 true  [.f 0, .f 1] v6 fun v87 =>
  (gB v82 true (pLd1 v87 r84.2)).bind fun v88 =>
  eqK (pLd1 v87 r77.2) (pLd1 v87 r84.2) <|
  (gB v82 true (pBin .other .lss v88 (vi 4))).bind fun v89 =>
  (gB v82 true (pBin .bool .eql v86 v89)).bind fun v90 =>
  (pPick v82 v90 (vb false)).bind fun v91 =>
  (gB v91 true (pLdN 6 v70 r84.2)).bind fun v92 =>
  (gE v91 true r84.2 (FF n_pace_Bound [v92] r84.2)).bind fun r93 =>
  (gV v91 true r10.1).bind fun v94 =>
  (gB v91 true (pBin .other .gtr r93.1 v94)).bind fun v95 =>
  gad v91 true  [.f 0, .f 0] v6 fun v96 =>
  (gB v91 true (pLd1 v96 r93.2)).bind fun v97 =>
  eqK (pLd1 v96 r84.2) (pLd1 v96 r93.2) <|
  (gB v91 true (pBin .other .lss v97 (vi 4))).bind fun v98 =>
  (gB v91 true (pBin .bool .eql v95 v98)).bind fun v99 =>
  (pPick v91 v99 (vb false)).bind fun v100 =>
  some (v100, r93.2))) = some r) : FF n_l29_PaceBound [x0, x1, x2, x3] H = some r :=
  fo Tryz.func4 (by kernel_rfl) h

-- FUNCTION l29_PaceEven
noncomputable def f5_b (p : List Nat) : Code := Code.sub (bodyOf Tryz.f5) p
noncomputable def f5_r : KK := cFin PP (Tryz.f5).results.toList
noncomputable def f5_n0 : KK := CQ (f5_b [1, 1]) f5_r kx0 f5_r
noncomputable def f5_m0 : KK := clr 72057594037927152 f5_n0
noncomputable def l29_PaceEven_k0 (x0 x1 x2 x3 x8 x9 : Value) (H : AH) : OV := f5_n0 (ls [x0, x1, x2, x3, u, u, u, u, x8, x9] 46) H
noncomputable def f5_n1 : KK := CQ (f5_b [1, 1, 1]) f5_r kx0 f5_r
noncomputable def f5_m1 : KK := clr 72057594037927153 f5_n1
noncomputable def l29_PaceEven_k1 (x1 x2 x3 x8 x9 : Value) (H : AH) : OV := f5_n1 (ls [u, x1, x2, x3, u, u, u, u, x8, x9] 46) H
noncomputable def f5_n2 : KK := CQ (f5_b [1, 1, 1, 1]) f5_r kx0 f5_r
noncomputable def f5_m2 : KK := clr 72057594037927161 f5_n2
noncomputable def l29_PaceEven_k2 (x1 x2 x8 x9 : Value) (H : AH) : OV := f5_n2 (ls [u, x1, x2, u, u, u, u, u, x8, x9] 46) H
noncomputable def f5_n18 : KK := CQ (f5_b [1, 1, 0, 1]) f5_m1 kx0 f5_r
noncomputable def f5_m18 : KK := clr 72057594037926128 f5_n18
noncomputable def l29_PaceEven_k18 (x0 x1 x2 x3 x8 x9 x10 : Value) (H : AH) : OV := f5_n18 (ls [x0, x1, x2, x3, u, u, u, u, x8, x9, x10] 45) H
noncomputable def f5_x19 : KX := BX 0 f5_m1 kx0
noncomputable def f5_y19 : KX := clx 72057594037927153 f5_x19
noncomputable def f5_n20 : KK := CLq (f5_b [1, 1, 0, 1, 4, 5]) f5_y19 f5_r
noncomputable def f5_m20 : KK := clr 72057594037926128 f5_n20
-- a loop
noncomputable def l29_PaceEven_k20 (x0 x1 x2 x3 x8 x9 x10 : Value) (H : AH) : OV := f5_n20 (ls [x0, x1, x2, x3, u, u, u, u, x8, x9, x10] 45) H
noncomputable def f5_n21 : KK := CQ (f5_b [1, 1, 0, 1, 4, 5, 1]) f5_m20 f5_y19 f5_r
noncomputable def f5_m21 : KK := clr 72057594037926128 f5_n21
noncomputable def l29_PaceEven_k21 (x0 x1 x2 x3 x8 x9 x10 : Value) (H : AH) : OV := f5_n21 (ls [x0, x1, x2, x3, u, u, u, u, x8, x9, x10] 45) H
noncomputable def f5_n22 : KK := CQ (f5_b [1, 1, 0, 1, 4, 5, 1, 1]) f5_m20 f5_y19 f5_r
noncomputable def f5_m22 : KK := clr 72057594037926128 f5_n22
noncomputable def l29_PaceEven_k22 (x0 x1 x2 x3 x8 x9 x10 : Value) (H : AH) : OV := f5_n22 (ls [x0, x1, x2, x3, u, u, u, u, x8, x9, x10] 45) H
noncomputable def f5_x24 : KX := BX 1 f5_m22 f5_y19
noncomputable def f5_y24 : KX := clx 72057594037926128 f5_x24
noncomputable def l29_PaceEven_e19_0 (x1 x2 x3 x8 x9 : Value) (H : AH) : OV := f5_x19 0 (ls [u, x1, x2, x3, u, u, u, u, x8, x9] 46) H
theorem f5_r_d : Resp 72057594037927679 f5_r := rf
theorem f5_n0_d : Resp 72057594037927152 f5_n0 := rc f5_r_d kx0_d f5_r_d
theorem f5_n1_d : Resp 72057594037927153 f5_n1 := rc f5_r_d kx0_d f5_r_d
theorem f5_n2_d : Resp 72057594037927161 f5_n2 := rc f5_r_d kx0_d f5_r_d
theorem f5_n18_d : Resp 72057594037926128 f5_n18 := rc (cd f5_n1_d) kx0_d f5_r_d
theorem f5_x19_d : ∀ i, Resp 72057594037927153 (f5_x19 i) := rb (cd f5_n1_d) kx0_d
theorem f5_n20_d : Resp 72057594037926128 f5_n20 := rl (cx f5_x19_d) f5_r_d
theorem f5_n21_d : Resp 72057594037926128 f5_n21 := rc (cd f5_n20_d) (cx f5_x19_d) f5_r_d
theorem f5_n22_d : Resp 72057594037926128 f5_n22 := rc (cd f5_n20_d) (cx f5_x19_d) f5_r_d
theorem f5_x24_d : ∀ i, Resp 72057594037926128 (f5_x24 i) := rb (cd f5_n22_d) (cx f5_x19_d)
theorem l29_PaceEven_k2_eq (x1 x2 x8 x9 : Value) (H : AH) : l29_PaceEven_k2 x1 x2 x8 x9 H =
  (FF n_l29_awake [] H).bind fun r3 =>
  (gV r3.1 true x9).bind fun v4 =>
  (gV r3.1 true x1).bind fun v5 =>
  (gV r3.1 true x2).bind fun v6 =>
  (gE r3.1 true r3.2 (FF n_pace_Even [v4, v5, v6] r3.2)).bind fun r7 =>
  (gV r3.1 true x9).bind fun v8 =>
  (gV r3.1 true x1).bind fun v9 =>
  (gV r3.1 true x2).bind fun v10 =>
  (gE r3.1 true r7.2 (FF n_r27_Even [v8, v9, v10] r7.2)).bind fun r11 =>
  (gB r3.1 true (pBin .bool .eql r7.1 r11.1)).bind fun v12 =>
  (pPick r3.1 v12 (vb false)).bind fun v13 =>
  some (v13, r11.2) :=
  (by kernel_rfl)
theorem l29_PaceEven_k1_eq (x1 x2 x3 x8 x9 : Value) (H : AH) : l29_PaceEven_k1 x1 x2 x3 x8 x9 H =
  condK x3
  ((FF n_play_Mod [x1, (vi 5)] H).bind fun r14 =>
  (pBin .other .sub r14.1 (vi 1)).bind fun v15 =>
  (FF n_play_Mod [x2, (vi 14)] r14.2).bind fun r16 =>
  (pBin .other .sub r16.1 (vi 1)).bind fun v17 =>
  l29_PaceEven_k2 v15 v17 x8 x9 r16.2)
  (l29_PaceEven_k2 x1 x2 x8 x9 H) :=
  (pt rfl 0 f5_n2_d (by kernel_rfl))
theorem l29_PaceEven_k22_eq (x0 x1 x2 x3 x8 x9 x10 : Value) (H : AH) : l29_PaceEven_k22 x0 x1 x2 x3 x8 x9 x10 H =
  (pBin .other .add x10 (vi 1)).bind fun v23 =>
  l29_PaceEven_k20 x0 x1 x2 x3 x8 x9 v23 H :=
  (by kernel_rfl)
theorem l29_PaceEven_k21_eq (x0 x1 x2 x3 x8 x9 x10 : Value) (H : AH) : l29_PaceEven_k21 x0 x1 x2 x3 x8 x9 x10 H =
  ld [.i 1 x10] x0 H fun v25 =>
  mkR 1 1 [(vi 0)] [(0, v25)] H fun v26 H27 =>
  (pApp 1 8 x9 v26 H27).bind fun r28 =>
  condK x3
  (ld [.i 1 x10] x0 r28.2 fun v29 =>
  (FF n_play_Mod [v29, (vi 3)] r28.2).bind fun r30 =>
  st 1 [.i 1 x10] r28.1 r30.1 r30.2 fun H31 =>
  l29_PaceEven_k22 x0 x1 x2 x3 x8 r28.1 x10 H31)
  (l29_PaceEven_k22 x0 x1 x2 x3 x8 r28.1 x10 r28.2) :=
  (pt rfl 0 f5_n22_d (bt rfl (f5_b [1, 1, 0, 1, 4, 5, 1, 0, 4]) 1 f5_x24_d (by kernel_rfl)))
theorem l29_PaceEven_e19_0_eq (x1 x2 x3 x8 x9 : Value) (H : AH) : l29_PaceEven_e19_0 x1 x2 x3 x8 x9 H = l29_PaceEven_k1 x1 x2 x3 x8 x9 H :=
  (by kernel_rfl)
theorem l29_PaceEven_k20_eq (x0 x1 x2 x3 x8 x9 x10 : Value) (H : AH) : l29_PaceEven_k20 x0 x1 x2 x3 x8 x9 x10 H =
  lenK x0 fun v32 =>
  (pBin .other .lss x10 v32).bind fun v33 =>
  (gV v33 true x10).bind fun v34 =>
  (gB v33 true (pBin .other .lss v34 (vi 60))).bind fun v35 =>
  (pPick v33 v35 (vb false)).bind fun v36 =>
  condK v36
  (l29_PaceEven_k21 x0 x1 x2 x3 x8 x9 x10 H)
  (l29_PaceEven_e19_0 x1 x2 x3 x8 x9 H) :=
  lt' rfl f5_n20_d (pt rfl 0 f5_n21_d (by kernel_rfl))
theorem l29_PaceEven_k18_eq (x0 x1 x2 x3 x8 x9 x10 : Value) (H : AH) : l29_PaceEven_k18 x0 x1 x2 x3 x8 x9 x10 H =
  l29_PaceEven_k20 x0 x1 x2 x3 x8 x9 x10 H :=
  (bt rfl (f5_b [1, 1, 0, 1, 4]) 0 f5_x19_d (li rfl (f5_b [1, 1, 0, 1, 4, 5]) f5_n20_d (by kernel_rfl)))
theorem l29_PaceEven_k0_eq (x0 x1 x2 x3 x8 x9 : Value) (H : AH) : l29_PaceEven_k0 x0 x1 x2 x3 x8 x9 H =
  l29_PaceEven_k18 x0 x1 x2 x3 x8 x9 (vi 0) H :=
  (pt rfl 0 f5_n1_d (pt rfl 0 f5_n18_d (by kernel_rfl)))
noncomputable def l29_PaceEven (x0 x1 x2 x3 : Value) (H : AH) : OV := cCode PP GG FF (f5_b []) (ls [x0, x1, x2, x3] 52) H f5_r kx0 f5_r
theorem l29_PaceEven_of (x0 x1 x2 x3 : Value) (H : AH) {r : Value × AH} (h : (
  l29_PaceEven_k0 x0 x1 x2 x3 (vb false) (.slice none 0 0) H) = some r) : FF n_l29_PaceEven [x0, x1, x2, x3] H = some r :=
  fo (t := l29_PaceEven x0 x1 x2 x3 H) Tryz.func5 (by kernel_rfl) (Eq.trans (pt rfl 1 f5_n0_d (by kernel_rfl)) h)

-- FUNCTION l29_PaceTurns
noncomputable def f6_b (p : List Nat) : Code := Code.sub (bodyOf Tryz.f6) p
noncomputable def f6_r : KK := cFin PP (Tryz.f6).results.toList
noncomputable def f6_n0 : KK := CQ (f6_b [1, 1, 1]) f6_r kx0 f6_r
noncomputable def f6_m0 : KK := clr 19342813113834066795298701 f6_n0
noncomputable def l29_PaceTurns_k0 (x1 x4 x5 x6 : Value) (H : AH) : OV := f6_n0 (ls [u, x1, u, u, x4, x5, x6] 77) H
noncomputable def f6_n1 : KK := CQ (f6_b [1, 1, 1, 1]) f6_r kx0 f6_r
noncomputable def f6_m1 : KK := clr 19342813113834066795298703 f6_n1
noncomputable def l29_PaceTurns_k1 (x4 x5 x6 : Value) (H : AH) : OV := f6_n1 (ls [u, u, u, u, x4, x5, x6] 77) H
noncomputable def f6_n38 : KK := CQ (f6_b [1, 1, 1, 0, 1]) f6_m1 kx0 f6_r
noncomputable def f6_m38 : KK := clr 19342813113834066795298573 f6_n38
noncomputable def l29_PaceTurns_k38 (x1 x4 x5 x6 x7 : Value) (H : AH) : OV := f6_n38 (ls [u, x1, u, u, x4, x5, x6, x7] 76) H
noncomputable def f6_x39 : KX := BX 0 f6_m1 kx0
noncomputable def f6_y39 : KX := clx 19342813113834066795298703 f6_x39
noncomputable def f6_n40 : KK := CLq (f6_b [1, 1, 1, 0, 1, 4, 5]) f6_y39 f6_r
noncomputable def f6_m40 : KK := clr 19342813113834066795298573 f6_n40
-- a loop
noncomputable def l29_PaceTurns_k40 (x1 x4 x5 x6 x7 : Value) (H : AH) : OV := f6_n40 (ls [u, x1, u, u, x4, x5, x6, x7] 76) H
noncomputable def f6_n41 : KK := CQ (f6_b [1, 1, 1, 0, 1, 4, 5, 1]) f6_m40 f6_y39 f6_r
noncomputable def f6_m41 : KK := clr 19342813113834066795298573 f6_n41
noncomputable def l29_PaceTurns_k41 (x1 x4 x5 x6 x7 : Value) (H : AH) : OV := f6_n41 (ls [u, x1, u, u, x4, x5, x6, x7] 76) H
noncomputable def f6_n42 : KK := CQ (f6_b [1, 1, 1, 0, 1, 4, 5, 1, 1]) f6_m40 f6_y39 f6_r
noncomputable def f6_m42 : KK := clr 19342813113834066795298573 f6_n42
noncomputable def l29_PaceTurns_k42 (x1 x4 x5 x6 x7 : Value) (H : AH) : OV := f6_n42 (ls [u, x1, u, u, x4, x5, x6, x7] 76) H
noncomputable def f6_x44 : KX := BX 1 f6_m42 f6_y39
noncomputable def f6_y44 : KX := clx 19342813113834066795298573 f6_x44
noncomputable def f6_n45 : KK := CQ (f6_b [1, 1, 1, 0, 1, 4, 5, 1, 0, 4, 1]) f6_m42 f6_y44 f6_r
noncomputable def f6_m45 : KK := clr 19342813113834066795298317 f6_n45
noncomputable def l29_PaceTurns_k45 (x1 x4 x5 x6 x7 x8 : Value) (H : AH) : OV := f6_n45 (ls [u, x1, u, u, x4, x5, x6, x7, x8] 75) H
noncomputable def f6_x46 : KX := BX 2 f6_m42 f6_y44
noncomputable def f6_y46 : KX := clx 19342813113834066795298573 f6_x46
noncomputable def f6_n47 : KK := CLq (f6_b [1, 1, 1, 0, 1, 4, 5, 1, 0, 4, 1, 4, 5]) f6_y46 f6_r
noncomputable def f6_m47 : KK := clr 19342813113834066795298317 f6_n47
-- a loop
noncomputable def l29_PaceTurns_k47 (x1 x4 x5 x6 x7 x8 : Value) (H : AH) : OV := f6_n47 (ls [u, x1, u, u, x4, x5, x6, x7, x8] 75) H
noncomputable def f6_n48 : KK := CQ (f6_b [1, 1, 1, 0, 1, 4, 5, 1, 0, 4, 1, 4, 5, 1]) f6_m47 f6_y46 f6_r
noncomputable def f6_m48 : KK := clr 19342813113834066795298317 f6_n48
noncomputable def l29_PaceTurns_k48 (x1 x4 x5 x6 x7 x8 : Value) (H : AH) : OV := f6_n48 (ls [u, x1, u, u, x4, x5, x6, x7, x8] 75) H
noncomputable def f6_n49 : KK := CQ (f6_b [1, 1, 1, 0, 1, 4, 5, 1, 0, 4, 1, 4, 5, 1, 1]) f6_m47 f6_y46 f6_r
noncomputable def f6_m49 : KK := clr 19342813113834066795298317 f6_n49
noncomputable def l29_PaceTurns_k49 (x1 x4 x5 x6 x7 x8 : Value) (H : AH) : OV := f6_n49 (ls [u, x1, u, u, x4, x5, x6, x7, x8] 75) H
noncomputable def f6_x51 : KX := BX 3 f6_m49 f6_y46
noncomputable def f6_y51 : KX := clx 19342813113834066795298317 f6_x51
noncomputable def l29_PaceTurns_e46_2 (x1 x4 x5 x6 x7 : Value) (H : AH) : OV := f6_x46 2 (ls [u, x1, u, u, x4, x5, x6, x7] 76) H
noncomputable def l29_PaceTurns_e39_0 (x4 x5 x6 : Value) (H : AH) : OV := f6_x39 0 (ls [u, u, u, u, x4, x5, x6] 77) H
theorem f6_r_d : Resp 19342813113834066795298799 f6_r := rf
theorem f6_n0_d : Resp 19342813113834066795298701 f6_n0 := rc f6_r_d kx0_d f6_r_d
theorem f6_n1_d : Resp 19342813113834066795298703 f6_n1 := rc f6_r_d kx0_d f6_r_d
theorem f6_n38_d : Resp 19342813113834066795298573 f6_n38 := rc (cd f6_n1_d) kx0_d f6_r_d
theorem f6_x39_d : ∀ i, Resp 19342813113834066795298703 (f6_x39 i) := rb (cd f6_n1_d) kx0_d
theorem f6_n40_d : Resp 19342813113834066795298573 f6_n40 := rl (cx f6_x39_d) f6_r_d
theorem f6_n41_d : Resp 19342813113834066795298573 f6_n41 := rc (cd f6_n40_d) (cx f6_x39_d) f6_r_d
theorem f6_n42_d : Resp 19342813113834066795298573 f6_n42 := rc (cd f6_n40_d) (cx f6_x39_d) f6_r_d
theorem f6_x44_d : ∀ i, Resp 19342813113834066795298573 (f6_x44 i) := rb (cd f6_n42_d) (cx f6_x39_d)
theorem f6_n45_d : Resp 19342813113834066795298317 f6_n45 := rc (cd f6_n42_d) (cx f6_x44_d) f6_r_d
theorem f6_x46_d : ∀ i, Resp 19342813113834066795298573 (f6_x46 i) := rb (cd f6_n42_d) (cx f6_x44_d)
theorem f6_n47_d : Resp 19342813113834066795298317 f6_n47 := rl (cx f6_x46_d) f6_r_d
theorem f6_n48_d : Resp 19342813113834066795298317 f6_n48 := rc (cd f6_n47_d) (cx f6_x46_d) f6_r_d
theorem f6_n49_d : Resp 19342813113834066795298317 f6_n49 := rc (cd f6_n47_d) (cx f6_x46_d) f6_r_d
theorem f6_x51_d : ∀ i, Resp 19342813113834066795298317 (f6_x51 i) := rb (cd f6_n49_d) (cx f6_x46_d)
theorem l29_PaceTurns_k1_eq (x4 x5 x6 : Value) (H : AH) : l29_PaceTurns_k1 x4 x5 x6 H =
  (FF n_l29_awake [] H).bind fun r2 =>
  (pUn .not r2.1).bind fun v3 =>
  (gV v3 false x6).bind fun v4 =>
  (gV v3 false x5).bind fun v5 =>
  (gV v3 false x5).bind fun v6 =>
  (gB v3 false (pBin .other .mul (vi 2) v6)).bind fun v7 =>
  (gB v3 false (pBin .other .sub v7 (vi 1))).bind fun v8 =>
  (gE v3 false r2.2 (FF n_pace_Even [v4, v5, v8] r2.2)).bind fun r9 =>
  (gB v3 false (pUn .not r9.1)).bind fun v10 =>
  (pPick v3 (vb true) v10).bind fun v11 =>
  (gV v11 false x6).bind fun v12 =>
  (gV v11 false x5).bind fun v13 =>
  (gV v11 false x5).bind fun v14 =>
  (gB v11 false (pBin .other .mul (vi 2) v14)).bind fun v15 =>
  (gB v11 false (pBin .other .add v15 (vi 3))).bind fun v16 =>
  (gE v11 false r9.2 (FF n_pace_Even [v12, v13, v16] r9.2)).bind fun r17 =>
  (gB v11 false (pUn .not r17.1)).bind fun v18 =>
  (pPick v11 (vb true) v18).bind fun v19 =>
  (gV v19 false x6).bind fun v20 =>
  (gV v19 false x5).bind fun v21 =>
  (gB v19 false (pBin .other .sub v21 (vi 1))).bind fun v22 =>
  (gV v19 false x5).bind fun v23 =>
  (gB v19 false (pBin .other .mul (vi 2) v23)).bind fun v24 =>
  (gB v19 false (pBin .other .sub v24 (vi 1))).bind fun v25 =>
  (gE v19 false r17.2 (FF n_pace_Even [v20, v22, v25] r17.2)).bind fun r26 =>
  (gB v19 false (pUn .not r26.1)).bind fun v27 =>
  (pPick v19 (vb true) v27).bind fun v28 =>
  condK v28
  (some ((vb false), r26.2))
  ((pBin .other .add x5 (vi 1)).bind fun v29 =>
  (pBin .other .mul (vi 2) x5).bind fun v30 =>
  (pBin .other .sub v30 (vi 1)).bind fun v31 =>
  (FF n_pace_Even [x6, v29, v31] r26.2).bind fun r32 =>
  lenK x6 fun v33 =>
  (pBin .other .mul (vi 2) x5).bind fun v34 =>
  (pBin .other .sub v34 (vi 1)).bind fun v35 =>
  (pBin .other .lss v33 v35).bind fun v36 =>
  (pBin .bool .eql r32.1 v36).bind fun v37 =>
  some (v37, r32.2)) :=
  (by kernel_rfl)
theorem l29_PaceTurns_k42_eq (x1 x4 x5 x6 x7 : Value) (H : AH) : l29_PaceTurns_k42 x1 x4 x5 x6 x7 H =
  (pBin .other .add x7 (vi 1)).bind fun v43 =>
  l29_PaceTurns_k40 x1 x4 x5 x6 v43 H :=
  (by kernel_rfl)
theorem l29_PaceTurns_k49_eq (x1 x4 x5 x6 x7 x8 : Value) (H : AH) : l29_PaceTurns_k49 x1 x4 x5 x6 x7 x8 H =
  (pBin .other .add x8 (vi 1)).bind fun v50 =>
  l29_PaceTurns_k47 x1 x4 x5 x6 x7 v50 H :=
  (by kernel_rfl)
theorem l29_PaceTurns_k48_eq (x1 x4 x5 x6 x7 x8 : Value) (H : AH) : l29_PaceTurns_k48 x1 x4 x5 x6 x7 x8 H =
  ld [.i 1 x7] x1 H fun v52 =>
  (FF n_play_Mod [v52, x5] H).bind fun r53 =>
  (pBin .other .add x8 r53.1).bind fun v54 =>
  (FF n_play_Mod [v54, x5] r53.2).bind fun r55 =>
  mkR 1 1 [(vi 0)] [(0, r55.1)] r55.2 fun v56 H57 =>
  (pApp 1 8 x6 v56 H57).bind fun r58 =>
  l29_PaceTurns_k49 x1 x4 x5 r58.1 x7 x8 r58.2 :=
  (pt rfl 0 f6_n49_d (bt rfl (f6_b [1, 1, 1, 0, 1, 4, 5, 1, 0, 4, 1, 4, 5, 1, 0, 4]) 3 f6_x51_d (by kernel_rfl)))
theorem l29_PaceTurns_e46_2_eq (x1 x4 x5 x6 x7 : Value) (H : AH) : l29_PaceTurns_e46_2 x1 x4 x5 x6 x7 H = l29_PaceTurns_k42 x1 x4 x5 x6 x7 H :=
  (by kernel_rfl)
theorem l29_PaceTurns_k47_eq (x1 x4 x5 x6 x7 x8 : Value) (H : AH) : l29_PaceTurns_k47 x1 x4 x5 x6 x7 x8 H =
  (pBin .other .lss x8 x5).bind fun v59 =>
  condK v59
  (l29_PaceTurns_k48 x1 x4 x5 x6 x7 x8 H)
  (l29_PaceTurns_e46_2 x1 x4 x5 x6 x7 H) :=
  lt' rfl f6_n47_d (pt rfl 0 f6_n48_d (by kernel_rfl))
theorem l29_PaceTurns_k45_eq (x1 x4 x5 x6 x7 x8 : Value) (H : AH) : l29_PaceTurns_k45 x1 x4 x5 x6 x7 x8 H =
  l29_PaceTurns_k47 x1 x4 x5 x6 x7 x8 H :=
  (bt rfl (f6_b [1, 1, 1, 0, 1, 4, 5, 1, 0, 4, 1, 4]) 2 f6_x46_d (li rfl (f6_b [1, 1, 1, 0, 1, 4, 5, 1, 0, 4, 1, 4, 5]) f6_n47_d (by kernel_rfl)))
theorem l29_PaceTurns_k41_eq (x1 x4 x5 x6 x7 : Value) (H : AH) : l29_PaceTurns_k41 x1 x4 x5 x6 x7 H =
  l29_PaceTurns_k45 x1 x4 x5 x6 x7 (vi 0) H :=
  (pt rfl 0 f6_n42_d (bt rfl (f6_b [1, 1, 1, 0, 1, 4, 5, 1, 0, 4]) 1 f6_x44_d (pt rfl 0 f6_n45_d (by kernel_rfl))))
theorem l29_PaceTurns_e39_0_eq (x4 x5 x6 : Value) (H : AH) : l29_PaceTurns_e39_0 x4 x5 x6 H = l29_PaceTurns_k1 x4 x5 x6 H :=
  (by kernel_rfl)
theorem l29_PaceTurns_k40_eq (x1 x4 x5 x6 x7 : Value) (H : AH) : l29_PaceTurns_k40 x1 x4 x5 x6 x7 H =
  lenK x1 fun v60 =>
  (pBin .other .lss x7 v60).bind fun v61 =>
  (gV v61 true x7).bind fun v62 =>
  (gB v61 true (pBin .other .lss v62 (vi 12))).bind fun v63 =>
  (pPick v61 v63 (vb false)).bind fun v64 =>
  condK v64
  (l29_PaceTurns_k41 x1 x4 x5 x6 x7 H)
  (l29_PaceTurns_e39_0 x4 x5 x6 H) :=
  lt' rfl f6_n40_d (pt rfl 0 f6_n41_d (by kernel_rfl))
theorem l29_PaceTurns_k38_eq (x1 x4 x5 x6 x7 : Value) (H : AH) : l29_PaceTurns_k38 x1 x4 x5 x6 x7 H =
  l29_PaceTurns_k40 x1 x4 x5 x6 x7 H :=
  (bt rfl (f6_b [1, 1, 1, 0, 1, 4]) 0 f6_x39_d (li rfl (f6_b [1, 1, 1, 0, 1, 4, 5]) f6_n40_d (by kernel_rfl)))
theorem l29_PaceTurns_k0_eq (x1 x4 x5 x6 : Value) (H : AH) : l29_PaceTurns_k0 x1 x4 x5 x6 H =
  l29_PaceTurns_k38 x1 x4 x5 x6 (vi 0) H :=
  (pt rfl 0 f6_n1_d (pt rfl 0 f6_n38_d (by kernel_rfl)))
noncomputable def l29_PaceTurns (x0 x1 : Value) (H : AH) : OV := cCode PP GG FF (f6_b []) (ls [x0, x1] 82) H f6_r kx0 f6_r
theorem l29_PaceTurns_of (x0 x1 : Value) (H : AH) {r : Value × AH} (h : (
  (FF n_play_Mod [x0, (vi 6)] H).bind fun r65 =>
  (pBin .other .add (vi 1) r65.1).bind fun v66 =>
  l29_PaceTurns_k0 x1 (vb false) v66 (.slice none 0 0) r65.2) = some r) : FF n_l29_PaceTurns [x0, x1] H = some r :=
  fo (t := l29_PaceTurns x0 x1 H) Tryz.func6 (by kernel_rfl) (Eq.trans (pt rfl 2 f6_n0_d (by kernel_rfl)) h)

-- FUNCTION l29_PaceTries
noncomputable def f7_b (p : List Nat) : Code := Code.sub (bodyOf Tryz.f7) p
noncomputable def f7_r : KK := cFin PP (Tryz.f7).results.toList
noncomputable def f7_n0 : KK := CQ (f7_b [1, 1]) f7_r kx0 f7_r
noncomputable def f7_m0 : KK := clr 274877906892 f7_n0
noncomputable def l29_PaceTries_k0 (x0 x1 x4 x5 : Value) (H : AH) : OV := f7_n0 (ls [x0, x1, u, u, x4, x5] 32) H
noncomputable def f7_n1 : KK := CQ (f7_b [1, 1, 1]) f7_r kx0 f7_r
noncomputable def f7_m1 : KK := clr 274877906895 f7_n1
noncomputable def l29_PaceTries_k1 (x4 x5 : Value) (H : AH) : OV := f7_n1 (ls [u, u, u, u, x4, x5] 32) H
noncomputable def f7_n9 : KK := CQ (f7_b [1, 1, 0, 1]) f7_m1 kx0 f7_r
noncomputable def f7_m9 : KK := clr 274877906828 f7_n9
noncomputable def l29_PaceTries_k9 (x0 x1 x4 x5 x6 : Value) (H : AH) : OV := f7_n9 (ls [x0, x1, u, u, x4, x5, x6] 31) H
noncomputable def f7_x10 : KX := BX 0 f7_m1 kx0
noncomputable def f7_y10 : KX := clx 274877906895 f7_x10
noncomputable def f7_n11 : KK := CLq (f7_b [1, 1, 0, 1, 4, 5]) f7_y10 f7_r
noncomputable def f7_m11 : KK := clr 274877906828 f7_n11
-- a loop
noncomputable def l29_PaceTries_k11 (x0 x1 x4 x5 x6 : Value) (H : AH) : OV := f7_n11 (ls [x0, x1, u, u, x4, x5, x6] 31) H
noncomputable def f7_n12 : KK := CQ (f7_b [1, 1, 0, 1, 4, 5, 1]) f7_m11 f7_y10 f7_r
noncomputable def f7_m12 : KK := clr 274877906828 f7_n12
noncomputable def l29_PaceTries_k12 (x0 x1 x4 x5 x6 : Value) (H : AH) : OV := f7_n12 (ls [x0, x1, u, u, x4, x5, x6] 31) H
noncomputable def f7_n13 : KK := CQ (f7_b [1, 1, 0, 1, 4, 5, 1, 1]) f7_m11 f7_y10 f7_r
noncomputable def f7_m13 : KK := clr 274877906828 f7_n13
noncomputable def l29_PaceTries_k13 (x0 x1 x4 x5 x6 : Value) (H : AH) : OV := f7_n13 (ls [x0, x1, u, u, x4, x5, x6] 31) H
noncomputable def f7_x15 : KX := BX 1 f7_m13 f7_y10
noncomputable def f7_y15 : KX := clx 274877906828 f7_x15
noncomputable def f7_n16 : KK := CQ (f7_b [1, 1, 0, 1, 4, 5, 1, 0, 4, 1]) f7_m13 f7_y15 f7_r
noncomputable def f7_m16 : KK := clr 274877906700 f7_n16
noncomputable def l29_PaceTries_k16 (x0 x1 x4 x5 x6 x7 : Value) (H : AH) : OV := f7_n16 (ls [x0, x1, u, u, x4, x5, x6, x7] 30) H
noncomputable def f7_n17 : KK := CQ (f7_b [1, 1, 0, 1, 4, 5, 1, 0, 4, 1, 1]) f7_m13 f7_y15 f7_r
noncomputable def f7_m17 : KK := clr 274877906700 f7_n17
noncomputable def l29_PaceTries_k17 (x0 x1 x4 x5 x6 x7 : Value) (H : AH) : OV := f7_n17 (ls [x0, x1, u, u, x4, x5, x6, x7] 30) H
noncomputable def l29_PaceTries_e10_0 (x4 x5 : Value) (H : AH) : OV := f7_x10 0 (ls [u, u, u, u, x4, x5] 32) H
theorem f7_r_d : Resp 274877906927 f7_r := rf
theorem f7_n0_d : Resp 274877906892 f7_n0 := rc f7_r_d kx0_d f7_r_d
theorem f7_n1_d : Resp 274877906895 f7_n1 := rc f7_r_d kx0_d f7_r_d
theorem f7_n9_d : Resp 274877906828 f7_n9 := rc (cd f7_n1_d) kx0_d f7_r_d
theorem f7_x10_d : ∀ i, Resp 274877906895 (f7_x10 i) := rb (cd f7_n1_d) kx0_d
theorem f7_n11_d : Resp 274877906828 f7_n11 := rl (cx f7_x10_d) f7_r_d
theorem f7_n12_d : Resp 274877906828 f7_n12 := rc (cd f7_n11_d) (cx f7_x10_d) f7_r_d
theorem f7_n13_d : Resp 274877906828 f7_n13 := rc (cd f7_n11_d) (cx f7_x10_d) f7_r_d
theorem f7_x15_d : ∀ i, Resp 274877906828 (f7_x15 i) := rb (cd f7_n13_d) (cx f7_x10_d)
theorem f7_n16_d : Resp 274877906700 f7_n16 := rc (cd f7_n13_d) (cx f7_x15_d) f7_r_d
theorem f7_n17_d : Resp 274877906700 f7_n17 := rc (cd f7_n13_d) (cx f7_x15_d) f7_r_d
theorem l29_PaceTries_k1_eq (x4 x5 : Value) (H : AH) : l29_PaceTries_k1 x4 x5 H =
  (FF n_l29_awake [] H).bind fun r2 =>
  (gV r2.1 true x5).bind fun v3 =>
  (gE r2.1 true r2.2 (FF n_pace_Tries [v3] r2.2)).bind fun r4 =>
  (gV r2.1 true x5).bind fun v5 =>
  (gE r2.1 true r4.2 (FF n_r27_Tries [v5] r4.2)).bind fun r6 =>
  (gB r2.1 true (pBin .bool .eql r4.1 r6.1)).bind fun v7 =>
  (pPick r2.1 v7 (vb false)).bind fun v8 =>
  some (v8, r6.2) :=
  (by kernel_rfl)
theorem l29_PaceTries_k13_eq (x0 x1 x4 x5 x6 : Value) (H : AH) : l29_PaceTries_k13 x0 x1 x4 x5 x6 H =
  (pBin .other .add x6 (vi 1)).bind fun v14 =>
  l29_PaceTries_k11 x0 x1 x4 x5 v14 H :=
  (by kernel_rfl)
theorem l29_PaceTries_k17_eq (x0 x1 x4 x5 x6 x7 : Value) (H : AH) : l29_PaceTries_k17 x0 x1 x4 x5 x6 x7 H =
  (pLdN 5 x7 H).bind fun v18 =>
  mkR 1 5 [(vi 0), (vi 0), (vi 0), (vi 0), (vi 0)] [(0, v18)] H fun v19 H20 =>
  (pApp 5 40 x5 v19 H20).bind fun r21 =>
  l29_PaceTries_k13 x0 x1 x4 r21.1 x6 r21.2 :=
  (by kernel_rfl)
theorem l29_PaceTries_k16_eq (x0 x1 x4 x5 x6 x7 : Value) (H : AH) : l29_PaceTries_k16 x0 x1 x4 x5 x6 x7 H =
  (pUn .not x1).bind fun v22 =>
  condK v22
  ((pLdN 5 x7 H).bind fun v23 =>
  (FF n_l29_near [v23] H).bind fun r24 =>
  (pSt 5 x7 r24.1 r24.2).bind fun H25 =>
  l29_PaceTries_k17 x0 x1 x4 x5 x6 x7 H25)
  (l29_PaceTries_k17 x0 x1 x4 x5 x6 x7 H) :=
  (pt rfl 0 f7_n17_d (by kernel_rfl))
theorem l29_PaceTries_k12_eq (x0 x1 x4 x5 x6 : Value) (H : AH) : l29_PaceTries_k12 x0 x1 x4 x5 x6 H =
  ldN 5 [.i 5 x6] x0 H fun v26 =>
  newK [(vi 0), (vi 0), (vi 0), (vi 0), (vi 0)] H fun v27 H28 =>
  (pSt 5 v27 v26 H28).bind fun H29 =>
  l29_PaceTries_k16 x0 x1 x4 x5 x6 v27 H29 :=
  (pt rfl 0 f7_n13_d (bt rfl (f7_b [1, 1, 0, 1, 4, 5, 1, 0, 4]) 1 f7_x15_d (pt rfl 0 f7_n16_d (by kernel_rfl))))
theorem l29_PaceTries_e10_0_eq (x4 x5 : Value) (H : AH) : l29_PaceTries_e10_0 x4 x5 H = l29_PaceTries_k1 x4 x5 H :=
  (by kernel_rfl)
theorem l29_PaceTries_k11_eq (x0 x1 x4 x5 x6 : Value) (H : AH) : l29_PaceTries_k11 x0 x1 x4 x5 x6 H =
  lenK x0 fun v30 =>
  (pBin .other .lss x6 v30).bind fun v31 =>
  (gV v31 true x6).bind fun v32 =>
  (gB v31 true (pBin .other .lss v32 (vi 60))).bind fun v33 =>
  (pPick v31 v33 (vb false)).bind fun v34 =>
  condK v34
  (l29_PaceTries_k12 x0 x1 x4 x5 x6 H)
  (l29_PaceTries_e10_0 x4 x5 H) :=
  lt' rfl f7_n11_d (pt rfl 0 f7_n12_d (by kernel_rfl))
theorem l29_PaceTries_k9_eq (x0 x1 x4 x5 x6 : Value) (H : AH) : l29_PaceTries_k9 x0 x1 x4 x5 x6 H =
  l29_PaceTries_k11 x0 x1 x4 x5 x6 H :=
  (bt rfl (f7_b [1, 1, 0, 1, 4]) 0 f7_x10_d (li rfl (f7_b [1, 1, 0, 1, 4, 5]) f7_n11_d (by kernel_rfl)))
theorem l29_PaceTries_k0_eq (x0 x1 x4 x5 : Value) (H : AH) : l29_PaceTries_k0 x0 x1 x4 x5 H =
  l29_PaceTries_k9 x0 x1 x4 x5 (vi 0) H :=
  (pt rfl 0 f7_n1_d (pt rfl 0 f7_n9_d (by kernel_rfl)))
noncomputable def l29_PaceTries (x0 x1 : Value) (H : AH) : OV := cCode PP GG FF (f7_b []) (ls [x0, x1] 36) H f7_r kx0 f7_r
theorem l29_PaceTries_of (x0 x1 : Value) (H : AH) {r : Value × AH} (h : (
  l29_PaceTries_k0 x0 x1 (vb false) (.slice none 0 0) H) = some r) : FF n_l29_PaceTries [x0, x1] H = some r :=
  fo (t := l29_PaceTries x0 x1 H) Tryz.func7 (by kernel_rfl) (Eq.trans (pt rfl 1 f7_n0_d (by kernel_rfl)) h)

-- FUNCTION l29_PaceOne
noncomputable def f8_b (p : List Nat) : Code := Code.sub (bodyOf Tryz.f8) p
noncomputable def f8_r : KK := cFin PP (Tryz.f8).results.toList
noncomputable def f8_n0 : KK := CQ (f8_b [1]) f8_r kx0 f8_r
noncomputable def f8_m0 : KK := clr 1267650600228229401496703205104 f8_n0
noncomputable def l29_PaceOne_k0 (x0 x1 x2 x3 x8 : Value) (H : AH) : OV := f8_n0 (ls [x0, x1, x2, x3, u, u, u, u, x8] 91) H
noncomputable def f8_n1 : KK := CQ (f8_b [1, 1]) f8_r kx0 f8_r
noncomputable def f8_m1 : KK := clr 1267650600228229401496703205104 f8_n1
noncomputable def l29_PaceOne_k1 (x0 x1 x2 x3 x8 : Value) (H : AH) : OV := f8_n1 (ls [x0, x1, x2, x3, u, u, u, u, x8] 91) H
noncomputable def f8_n2 : KK := CQ (f8_b [1, 1, 1]) f8_r kx0 f8_r
noncomputable def f8_m2 : KK := clr 1267650600228229401496703205104 f8_n2
noncomputable def l29_PaceOne_k2 (x0 x1 x2 x3 x8 : Value) (H : AH) : OV := f8_n2 (ls [x0, x1, x2, x3, u, u, u, u, x8] 91) H
theorem f8_r_d : Resp 1267650600228229401496703205119 f8_r := rf
theorem f8_n0_d : Resp 1267650600228229401496703205104 f8_n0 := rc f8_r_d kx0_d f8_r_d
theorem f8_n1_d : Resp 1267650600228229401496703205104 f8_n1 := rc f8_r_d kx0_d f8_r_d
theorem f8_n2_d : Resp 1267650600228229401496703205104 f8_n2 := rc f8_r_d kx0_d f8_r_d
theorem l29_PaceOne_k2_eq (x0 x1 x2 x3 x8 : Value) (H : AH) : l29_PaceOne_k2 x0 x1 x2 x3 x8 H =
  mkS [(0, 1), (1, 1), (2, 1)] [(vi 0), (vi 0), (vi 0)] [(0, (vi 11)), (1, x2)] fun v3 =>
  mkS [(0, 1), (1, 1), (2, 1)] [(vi 0), (vi 0), (vi 0)] [(0, (vi 11)), (1, x3)] fun v4 =>
  newK [(vi 0), (vi 0), (vi 0)] H fun v5 H6 =>
  newK [(vi 0), (vi 0), (vi 0)] H6 fun v7 H8 =>
  (pSt 3 v5 v3 H8).bind fun H9 =>
  (pSt 3 v7 v4 H9).bind fun H10 =>
  (pLdN 3 v5 H10).bind fun v11 =>
  mkS [(0, 1), (1, 1), (2, 3)] [(vi 0), (vi 0), (vi 0), (vi 0), (vi 0)] [(0, x0), (1, (vi 1)), (2, v11)] fun v12 =>
  (pLdN 3 v5 H10).bind fun v13 =>
  mkS [(0, 1), (1, 1), (2, 3)] [(vi 0), (vi 0), (vi 0), (vi 0), (vi 0)] [(0, x0), (1, (vi 4)), (2, v13)] fun v14 =>
  newK [(vi 0), (vi 0), (vi 0), (vi 0), (vi 0)] H10 fun v15 H16 =>
  newK [(vi 0), (vi 0), (vi 0), (vi 0), (vi 0)] H16 fun v17 H18 =>
  (pSt 5 v15 v12 H18).bind fun H19 =>
  eqK (pLdN 3 v5 H19) (pLdN 3 v5 H10) <|
  (pSt 5 v17 v14 H19).bind fun H20 =>
  (pLdN 3 v5 H20).bind fun v21 =>
  mkS [(0, 1), (1, 1), (2, 3)] [(vi 0), (vi 0), (vi 0), (vi 0), (vi 0)] [(0, x1), (1, (vi 3)), (2, v21)] fun v22 =>
  newK [(vi 0), (vi 0), (vi 0), (vi 0), (vi 0)] H20 fun v23 H24 =>
  (pSt 5 v23 v22 H24).bind fun H25 =>
  (pLdN 3 v5 H25).bind fun v26 =>
  mkS [(0, 1), (1, 1), (2, 3)] [(vi 0), (vi 0), (vi 0), (vi 0), (vi 0)] [(0, x0), (1, (vi 3)), (2, v26)] fun v27 =>
  (pLdN 3 v7 H25).bind fun v28 =>
  mkS [(0, 1), (1, 1), (2, 3)] [(vi 0), (vi 0), (vi 0), (vi 0), (vi 0)] [(0, x1), (1, (vi 3)), (2, v28)] fun v29 =>
  newK [(vi 0), (vi 0), (vi 0), (vi 0), (vi 0)] H25 fun v30 H31 =>
  newK [(vi 0), (vi 0), (vi 0), (vi 0), (vi 0)] H31 fun v32 H33 =>
  (pSt 5 v30 v27 H33).bind fun H34 =>
  eqK (pLdN 3 v7 H34) (pLdN 3 v7 H25) <|
  (pSt 5 v32 v29 H34).bind fun H35 =>
  (FF n_l29_awake [] H35).bind fun r36 =>
  (gB r36.1 true (pLdN 5 v15 r36.2)).bind fun v37 =>
  (gB r36.1 true (pLdN 5 v23 r36.2)).bind fun v38 =>
  (gB r36.1 true (pLdN 5 v17 r36.2)).bind fun v39 =>
  (gE r36.1 true r36.2 (mkR 3 5 [(vi 0), (vi 0), (vi 0), (vi 0), (vi 0)] [(0, v37), (1, v38), (2, v39)] r36.2 fun v H => some (v, H))).bind fun r40 =>
  (gE r36.1 true r40.2 (FF n_pace_Tries [r40.1] r40.2)).bind fun r41 =>
  (pPick r36.1 r41.1 (vb false)).bind fun v42 =>
  (gB v42 true (pLdN 5 v15 r41.2)).bind fun v43 =>
  (gB v42 true (pLdN 5 v17 r41.2)).bind fun v44 =>
  (gE v42 true r41.2 (mkR 2 5 [(vi 0), (vi 0), (vi 0), (vi 0), (vi 0)] [(0, v43), (1, v44)] r41.2 fun v H => some (v, H))).bind fun r45 =>
  (gE v42 true r45.2 (FF n_pace_Tries [r45.1] r45.2)).bind fun r46 =>
  (gB v42 true (pUn .not r46.1)).bind fun v47 =>
  (pPick v42 v47 (vb false)).bind fun v48 =>
  (gB v48 true (pLdN 5 v15 r46.2)).bind fun v49 =>
  (gB v48 true (pLdN 5 v30 r46.2)).bind fun v50 =>
  (gB v48 true (pLdN 5 v17 r46.2)).bind fun v51 =>
  (gE v48 true r46.2 (mkR 3 5 [(vi 0), (vi 0), (vi 0), (vi 0), (vi 0)] [(0, v49), (1, v50), (2, v51)] r46.2 fun v H => some (v, H))).bind fun r52 =>
  (gE v48 true r52.2 (FF n_pace_Tries [r52.1] r52.2)).bind fun r53 =>
  (gB v48 true (pUn .not r53.1)).bind fun v54 =>
  (pPick v48 v54 (vb false)).bind fun v55 =>
  (gB v55 true (pLdN 5 v15 r53.2)).bind fun v56 =>
  (gB v55 true (pLdN 5 v32 r53.2)).bind fun v57 =>
  (gB v55 true (pLdN 5 v17 r53.2)).bind fun v58 =>
  (gE v55 true r53.2 (mkR 3 5 [(vi 0), (vi 0), (vi 0), (vi 0), (vi 0)] [(0, v56), (1, v57), (2, v58)] r53.2 fun v H => some (v, H))).bind fun r59 =>
  (gE v55 true r59.2 (FF n_pace_Tries [r59.1] r59.2)).bind fun r60 =>
  (gB v55 true (pUn .not r60.1)).bind fun v61 =>
  (pPick v55 v61 (vb false)).bind fun v62 =>
  (gB v62 true (pLdN 5 v23 r60.2)).bind fun v63 =>
  (gB v62 true (pLdN 5 v15 r60.2)).bind fun v64 =>
  (gB v62 true (pLdN 5 v17 r60.2)).bind fun v65 =>
  (gE v62 true r60.2 (mkR 3 5 [(vi 0), (vi 0), (vi 0), (vi 0), (vi 0)] [(0, v63), (1, v64), (2, v65)] r60.2 fun v H => some (v, H))).bind fun r66 =>
  (gE v62 true r66.2 (FF n_pace_Tries [r66.1] r66.2)).bind fun r67 =>
  (gB v62 true (pUn .not r67.1)).bind fun v68 =>
  (pPick v62 v68 (vb false)).bind fun v69 =>
  (gB v69 true (pLdN 5 v17 r67.2)).bind fun v70 =>
  (gB v69 true (pLdN 5 v23 r67.2)).bind fun v71 =>
  (gE v69 true r67.2 (mkR 2 5 [(vi 0), (vi 0), (vi 0), (vi 0), (vi 0)] [(0, v70), (1, v71)] r67.2 fun v H => some (v, H))).bind fun r72 =>
  (gE v69 true r72.2 (FF n_pace_Tries [r72.1] r72.2)).bind fun r73 =>
  (pPick v69 r73.1 (vb false)).bind fun v74 =>
  (gB v74 true (pLdN 5 v15 r73.2)).bind fun v75 =>
  (gB v74 true (pLdN 5 v23 r73.2)).bind fun v76 =>
  (gB v74 true (pLdN 5 v17 r73.2)).bind fun v77 =>
  (gB v74 true (pLdN 5 v15 r73.2)).bind fun v78 =>
  (gB v74 true (pLdN 5 v17 r73.2)).bind fun v79 =>
  (gE v74 true r73.2 (mkR 5 5 [(vi 0), (vi 0), (vi 0), (vi 0), (vi 0)] [(0, v75), (1, v76), (2, v77), (3, v78), (4, v79)] r73.2 fun v H => some (v, H))).bind fun r80 =>
  (gE v74 true r80.2 (FF n_pace_Tries [r80.1] r80.2)).bind fun r81 =>
  (gB v74 true (pUn .not r81.1)).bind fun v82 =>
  (pPick v74 v82 (vb false)).bind fun v83 =>
  some (v83, r81.2) :=
  (by kernel_rfl)
theorem l29_PaceOne_k1_eq (x0 x1 x2 x3 x8 : Value) (H : AH) : l29_PaceOne_k1 x0 x1 x2 x3 x8 H =
  (pBin .other .eql x2 x3).bind fun v84 =>
  condK v84
  ((pBin .other .xor x2 (vi 1)).bind fun v85 =>
  l29_PaceOne_k2 x0 x1 x2 v85 x8 H)
  (l29_PaceOne_k2 x0 x1 x2 x3 x8 H) :=
  (pt rfl 0 f8_n2_d (by kernel_rfl))
theorem l29_PaceOne_k0_eq (x0 x1 x2 x3 x8 : Value) (H : AH) : l29_PaceOne_k0 x0 x1 x2 x3 x8 H =
  (pBin .other .eql x0 x1).bind fun v86 =>
  condK v86
  ((pBin .other .xor x0 (vi 1)).bind fun v87 =>
  l29_PaceOne_k1 x0 v87 x2 x3 x8 H)
  (l29_PaceOne_k1 x0 x1 x2 x3 x8 H) :=
  (pt rfl 0 f8_n1_d (by kernel_rfl))
noncomputable def l29_PaceOne (x0 x1 x2 x3 : Value) (H : AH) : OV := cCode PP GG FF (f8_b []) (ls [x0, x1, x2, x3] 96) H f8_r kx0 f8_r
theorem l29_PaceOne_of (x0 x1 x2 x3 : Value) (H : AH) {r : Value × AH} (h : (
  l29_PaceOne_k0 x0 x1 x2 x3 (vb false) H) = some r) : FF n_l29_PaceOne [x0, x1, x2, x3] H = some r :=
  fo (t := l29_PaceOne x0 x1 x2 x3 H) Tryz.func8 (by kernel_rfl) (Eq.trans (pt rfl 0 f8_n0_d (by kernel_rfl)) h)

-- FUNCTION play_Plan
noncomputable def f9_b (p : List Nat) : Code := Code.sub (bodyOf Tryz.f9) p
noncomputable def f9_r : KK := cFin PP (Tryz.f9).results.toList
noncomputable def f9_n0 : KK := CQ (f9_b [1, 1, 1, 1]) f9_r kx0 f9_r
noncomputable def f9_m0 : KK := clr 604462909807314587352841 f9_n0
noncomputable def play_Plan_k0 (x1 x2 x4 x5 x6 x7 : Value) (H : AH) : OV := f9_n0 (ls [u, x1, x2, u, x4, x5, x6, x7] 71) H
noncomputable def f9_n1 : KK := CQ (f9_b [1, 1, 1, 1, 1]) f9_r kx0 f9_r
noncomputable def f9_m1 : KK := clr 604462909807314587353007 f9_n1
noncomputable def play_Plan_k1 (x4 x6 : Value) (H : AH) : OV := f9_n1 (ls [u, u, u, u, x4, u, x6] 72) H
noncomputable def f9_n5 : KK := CQ (f9_b [1, 1, 1, 1, 0, 1]) f9_m1 kx0 f9_r
noncomputable def f9_m5 : KK := clr 604462909807314587352585 f9_n5
noncomputable def play_Plan_k5 (x1 x2 x4 x5 x6 x7 x8 : Value) (H : AH) : OV := f9_n5 (ls [u, x1, x2, u, x4, x5, x6, x7, x8] 70) H
noncomputable def f9_x6 : KX := BX 0 f9_m1 kx0
noncomputable def f9_y6 : KX := clx 604462909807314587353007 f9_x6
noncomputable def f9_n7 : KK := CLq (f9_b [1, 1, 1, 1, 0, 1, 4, 5]) f9_y6 f9_r
noncomputable def f9_m7 : KK := clr 604462909807314587352585 f9_n7
-- a loop
noncomputable def play_Plan_k7 (x1 x2 x4 x5 x6 x7 x8 : Value) (H : AH) : OV := f9_n7 (ls [u, x1, x2, u, x4, x5, x6, x7, x8] 70) H
noncomputable def f9_n8 : KK := CQ (f9_b [1, 1, 1, 1, 0, 1, 4, 5, 1]) f9_m7 f9_y6 f9_r
noncomputable def f9_m8 : KK := clr 604462909807314587352585 f9_n8
noncomputable def play_Plan_k8 (x1 x2 x4 x5 x6 x7 x8 : Value) (H : AH) : OV := f9_n8 (ls [u, x1, x2, u, x4, x5, x6, x7, x8] 70) H
noncomputable def f9_n9 : KK := CQ (f9_b [1, 1, 1, 1, 0, 1, 4, 5, 1, 1]) f9_m7 f9_y6 f9_r
noncomputable def f9_m9 : KK := clr 604462909807314587352585 f9_n9
noncomputable def play_Plan_k9 (x1 x2 x4 x5 x6 x7 x8 : Value) (H : AH) : OV := f9_n9 (ls [u, x1, x2, u, x4, x5, x6, x7, x8] 70) H
noncomputable def f9_x11 : KX := BX 1 f9_m9 f9_y6
noncomputable def f9_y11 : KX := clx 604462909807314587352585 f9_x11
noncomputable def f9_n12 : KK := CQ (f9_b [1, 1, 1, 1, 0, 1, 4, 5, 1, 0, 4, 1]) f9_m9 f9_y11 f9_r
noncomputable def f9_m12 : KK := clr 604462909807314587352073 f9_n12
noncomputable def play_Plan_k12 (x1 x2 x4 x5 x6 x7 x8 x9 : Value) (H : AH) : OV := f9_n12 (ls [u, x1, x2, u, x4, x5, x6, x7, x8, x9] 69) H
noncomputable def f9_n13 : KK := CQ (f9_b [1, 1, 1, 1, 0, 1, 4, 5, 1, 0, 4, 1, 1]) f9_m9 f9_y11 f9_r
noncomputable def f9_m13 : KK := clr 604462909807314587352073 f9_n13
noncomputable def play_Plan_k13 (x1 x2 x4 x5 x6 x7 x8 x9 : Value) (H : AH) : OV := f9_n13 (ls [u, x1, x2, u, x4, x5, x6, x7, x8, x9] 69) H
noncomputable def f9_n14 : KK := CQ (f9_b [1, 1, 1, 1, 0, 1, 4, 5, 1, 0, 4, 1, 1, 1]) f9_m9 f9_y11 f9_r
noncomputable def f9_m14 : KK := clr 604462909807314587352073 f9_n14
noncomputable def play_Plan_k14 (x1 x2 x4 x5 x6 x7 x8 x9 : Value) (H : AH) : OV := f9_n14 (ls [u, x1, x2, u, x4, x5, x6, x7, x8, x9] 69) H
noncomputable def f9_n20 : KK := CQ (f9_b [1, 1, 1, 1, 0, 1, 4, 5, 1, 0, 4, 1, 1, 0, 1]) f9_m14 f9_y11 f9_r
noncomputable def f9_m20 : KK := clr 604462909807314587351049 f9_n20
noncomputable def play_Plan_k20 (x1 x2 x4 x5 x6 x7 x8 x9 x10 : Value) (H : AH) : OV := f9_n20 (ls [u, x1, x2, u, x4, x5, x6, x7, x8, x9, x10] 68) H
noncomputable def f9_x21 : KX := BX 2 f9_m14 f9_y11
noncomputable def f9_y21 : KX := clx 604462909807314587352073 f9_x21
noncomputable def f9_n22 : KK := CLq (f9_b [1, 1, 1, 1, 0, 1, 4, 5, 1, 0, 4, 1, 1, 0, 1, 4, 5]) f9_y21 f9_r
noncomputable def f9_m22 : KK := clr 604462909807314587351049 f9_n22
-- a loop
noncomputable def play_Plan_k22 (x1 x2 x4 x5 x6 x7 x8 x9 x10 : Value) (H : AH) : OV := f9_n22 (ls [u, x1, x2, u, x4, x5, x6, x7, x8, x9, x10] 68) H
noncomputable def f9_n23 : KK := CQ (f9_b [1, 1, 1, 1, 0, 1, 4, 5, 1, 0, 4, 1, 1, 0, 1, 4, 5, 1]) f9_m22 f9_y21 f9_r
noncomputable def f9_m23 : KK := clr 604462909807314587351049 f9_n23
noncomputable def play_Plan_k23 (x1 x2 x4 x5 x6 x7 x8 x9 x10 : Value) (H : AH) : OV := f9_n23 (ls [u, x1, x2, u, x4, x5, x6, x7, x8, x9, x10] 68) H
noncomputable def f9_n24 : KK := CQ (f9_b [1, 1, 1, 1, 0, 1, 4, 5, 1, 0, 4, 1, 1, 0, 1, 4, 5, 1, 1]) f9_m22 f9_y21 f9_r
noncomputable def f9_m24 : KK := clr 604462909807314587351049 f9_n24
noncomputable def play_Plan_k24 (x1 x2 x4 x5 x6 x7 x8 x9 x10 : Value) (H : AH) : OV := f9_n24 (ls [u, x1, x2, u, x4, x5, x6, x7, x8, x9, x10] 68) H
noncomputable def f9_x26 : KX := BX 3 f9_m24 f9_y21
noncomputable def f9_y26 : KX := clx 604462909807314587351049 f9_x26
noncomputable def play_Plan_e21_2 (x1 x2 x4 x5 x6 x7 x8 x9 : Value) (H : AH) : OV := f9_x21 2 (ls [u, x1, x2, u, x4, x5, x6, x7, x8, x9] 69) H
noncomputable def play_Plan_e6_0 (x4 x6 : Value) (H : AH) : OV := f9_x6 0 (ls [u, u, u, u, x4, u, x6] 72) H
theorem f9_r_d : Resp 604462909807314587353071 f9_r := rf
theorem f9_n0_d : Resp 604462909807314587352841 f9_n0 := rc f9_r_d kx0_d f9_r_d
theorem f9_n1_d : Resp 604462909807314587353007 f9_n1 := rc f9_r_d kx0_d f9_r_d
theorem f9_n5_d : Resp 604462909807314587352585 f9_n5 := rc (cd f9_n1_d) kx0_d f9_r_d
theorem f9_x6_d : ∀ i, Resp 604462909807314587353007 (f9_x6 i) := rb (cd f9_n1_d) kx0_d
theorem f9_n7_d : Resp 604462909807314587352585 f9_n7 := rl (cx f9_x6_d) f9_r_d
theorem f9_n8_d : Resp 604462909807314587352585 f9_n8 := rc (cd f9_n7_d) (cx f9_x6_d) f9_r_d
theorem f9_n9_d : Resp 604462909807314587352585 f9_n9 := rc (cd f9_n7_d) (cx f9_x6_d) f9_r_d
theorem f9_x11_d : ∀ i, Resp 604462909807314587352585 (f9_x11 i) := rb (cd f9_n9_d) (cx f9_x6_d)
theorem f9_n12_d : Resp 604462909807314587352073 f9_n12 := rc (cd f9_n9_d) (cx f9_x11_d) f9_r_d
theorem f9_n13_d : Resp 604462909807314587352073 f9_n13 := rc (cd f9_n9_d) (cx f9_x11_d) f9_r_d
theorem f9_n14_d : Resp 604462909807314587352073 f9_n14 := rc (cd f9_n9_d) (cx f9_x11_d) f9_r_d
theorem f9_n20_d : Resp 604462909807314587351049 f9_n20 := rc (cd f9_n14_d) (cx f9_x11_d) f9_r_d
theorem f9_x21_d : ∀ i, Resp 604462909807314587352073 (f9_x21 i) := rb (cd f9_n14_d) (cx f9_x11_d)
theorem f9_n22_d : Resp 604462909807314587351049 f9_n22 := rl (cx f9_x21_d) f9_r_d
theorem f9_n23_d : Resp 604462909807314587351049 f9_n23 := rc (cd f9_n22_d) (cx f9_x21_d) f9_r_d
theorem f9_n24_d : Resp 604462909807314587351049 f9_n24 := rc (cd f9_n22_d) (cx f9_x21_d) f9_r_d
theorem f9_x26_d : ∀ i, Resp 604462909807314587351049 (f9_x26 i) := rb (cd f9_n24_d) (cx f9_x21_d)
theorem play_Plan_k1_eq (x4 x6 : Value) (H : AH) : play_Plan_k1 x4 x6 H =
  (pLdN 6 x6 H).bind fun v2 =>
  (pSt 6 x4 v2 H).bind fun H3 =>
  (pLdN 6 x4 H3).bind fun v4 => some (v4, H3) :=
  (by kernel_rfl)
theorem play_Plan_k9_eq (x1 x2 x4 x5 x6 x7 x8 : Value) (H : AH) : play_Plan_k9 x1 x2 x4 x5 x6 x7 x8 H =
  (pBin .other .add x8 (vi 1)).bind fun v10 =>
  play_Plan_k7 x1 x2 x4 x5 x6 x7 v10 H :=
  (by kernel_rfl)
theorem play_Plan_k14_eq (x1 x2 x4 x5 x6 x7 x8 x9 : Value) (H : AH) : play_Plan_k14 x1 x2 x4 x5 x6 x7 x8 x9 H =
  ld [.f 5] x6 H fun v15 =>
  mkR 1 1 [(.slice none 0 0)] [(0, x9)] H fun v16 H17 =>
  (pApp 1 24 v15 v16 H17).bind fun r18 =>
  st 1 [.f 5] x6 r18.1 r18.2 fun H19 =>
  play_Plan_k9 x1 x2 x4 x5 x6 x7 x8 H19 :=
  (by kernel_rfl)
theorem play_Plan_k24_eq (x1 x2 x4 x5 x6 x7 x8 x9 x10 : Value) (H : AH) : play_Plan_k24 x1 x2 x4 x5 x6 x7 x8 x9 x10 H =
  (pBin .other .add x10 (vi 1)).bind fun v25 =>
  play_Plan_k22 x1 x2 x4 x5 x6 x7 x8 x9 v25 H :=
  (by kernel_rfl)
theorem play_Plan_k23_eq (x1 x2 x4 x5 x6 x7 x8 x9 x10 : Value) (H : AH) : play_Plan_k23 x1 x2 x4 x5 x6 x7 x8 x9 x10 H =
  ld [.f 5] x2 H fun v27 =>
  ld [.i 1 x8] v27 H fun v28 =>
  ldN 4 [.i 4 x10] v28 H fun v29 =>
  (FF n_play_Call [v29] H).bind fun r30 =>
  mkR 1 4 [(vi 0), (vi 0), (vi 0), (vi 0)] [(0, r30.1)] r30.2 fun v31 H32 =>
  (pApp 4 32 x9 v31 H32).bind fun r33 =>
  (pBin .other .sub x7 (vi 1)).bind fun v34 =>
  play_Plan_k24 x1 x2 x4 x5 x6 v34 x8 r33.1 x10 r33.2 :=
  (pt rfl 0 f9_n24_d (bt rfl (f9_b [1, 1, 1, 1, 0, 1, 4, 5, 1, 0, 4, 1, 1, 0, 1, 4, 5, 1, 0, 4]) 3 f9_x26_d (by kernel_rfl)))
theorem play_Plan_e21_2_eq (x1 x2 x4 x5 x6 x7 x8 x9 : Value) (H : AH) : play_Plan_e21_2 x1 x2 x4 x5 x6 x7 x8 x9 H = play_Plan_k14 x1 x2 x4 x5 x6 x7 x8 x9 H :=
  (by kernel_rfl)
theorem play_Plan_k22_eq (x1 x2 x4 x5 x6 x7 x8 x9 x10 : Value) (H : AH) : play_Plan_k22 x1 x2 x4 x5 x6 x7 x8 x9 x10 H =
  ld [.f 5] x2 H fun v35 =>
  lenK v35 fun v36 =>
  (pBin .other .lss x8 v36).bind fun v37 =>
  (gV v37 true x10).bind fun v38 =>
  gld v37 true  [.f 5] x2 H fun v39 =>
  (gV v37 true x8).bind fun v40 =>
  gld v37 true  [.i 1 v40] v39 H fun v41 =>
  (onK (yv v37) true (lenK v41 some) (some undef)).bind fun v42 =>
  (gB v37 true (pBin .other .lss v38 v42)).bind fun v43 =>
  (pPick v37 v43 (vb false)).bind fun v44 =>
  (gV v44 true x10).bind fun v45 =>
  (gV v44 true x1).bind fun v46 =>
  (gB v44 true (pBin .other .lss v45 v46)).bind fun v47 =>
  (pPick v44 v47 (vb false)).bind fun v48 =>
  (gV v48 true x7).bind fun v49 =>
  (gB v48 true (pBin .other .gtr v49 (vi 0))).bind fun v50 =>
  (pPick v48 v50 (vb false)).bind fun v51 =>
  condK v51
  (play_Plan_k23 x1 x2 x4 x5 x6 x7 x8 x9 x10 H)
  (play_Plan_e21_2 x1 x2 x4 x5 x6 x7 x8 x9 H) :=
  lt' rfl f9_n22_d (pt rfl 0 f9_n23_d (by kernel_rfl))
theorem play_Plan_k20_eq (x1 x2 x4 x5 x6 x7 x8 x9 x10 : Value) (H : AH) : play_Plan_k20 x1 x2 x4 x5 x6 x7 x8 x9 x10 H =
  play_Plan_k22 x1 x2 x4 x5 x6 x7 x8 x9 x10 H :=
  (bt rfl (f9_b [1, 1, 1, 1, 0, 1, 4, 5, 1, 0, 4, 1, 1, 0, 1, 4]) 2 f9_x21_d (li rfl (f9_b [1, 1, 1, 1, 0, 1, 4, 5, 1, 0, 4, 1, 1, 0, 1, 4, 5]) f9_n22_d (by kernel_rfl)))
theorem play_Plan_k13_eq (x1 x2 x4 x5 x6 x7 x8 x9 : Value) (H : AH) : play_Plan_k13 x1 x2 x4 x5 x6 x7 x8 x9 H =
  play_Plan_k20 x1 x2 x4 x5 x6 x7 x8 x9 (vi 0) H :=
  (pt rfl 0 f9_n14_d (pt rfl 0 f9_n20_d (by kernel_rfl)))
theorem play_Plan_k12_eq (x1 x2 x4 x5 x6 x7 x8 x9 : Value) (H : AH) : play_Plan_k12 x1 x2 x4 x5 x6 x7 x8 x9 H =
  (pBin .other .eql x8 (vi 0)).bind fun v52 =>
  gld v52 true  [.f 0, .f 3] x2 H fun v53 =>
  (gE v52 true H (FF n_play_Mod [v53, (vi 4)] H)).bind fun r54 =>
  (gB v52 true (pBin .other .gtr r54.1 (vi 0))).bind fun v55 =>
  (pPick v52 v55 (vb false)).bind fun v56 =>
  condK v56
  ((FF n_play_Ready [(vi 3)] r54.2).bind fun r57 =>
  play_Plan_k13 x1 x2 x4 x5 x6 x7 x8 r57.1 r57.2)
  (play_Plan_k13 x1 x2 x4 x5 x6 x7 x8 x9 r54.2) :=
  (pt rfl 0 f9_n13_d (by kernel_rfl))
theorem play_Plan_k8_eq (x1 x2 x4 x5 x6 x7 x8 : Value) (H : AH) : play_Plan_k8 x1 x2 x4 x5 x6 x7 x8 H =
  play_Plan_k12 x1 x2 x4 x5 x6 x7 x8 (.slice none 0 0) H :=
  (pt rfl 0 f9_n9_d (bt rfl (f9_b [1, 1, 1, 1, 0, 1, 4, 5, 1, 0, 4]) 1 f9_x11_d (pt rfl 0 f9_n12_d (by kernel_rfl))))
theorem play_Plan_e6_0_eq (x4 x6 : Value) (H : AH) : play_Plan_e6_0 x4 x6 H = play_Plan_k1 x4 x6 H :=
  (by kernel_rfl)
theorem play_Plan_k7_eq (x1 x2 x4 x5 x6 x7 x8 : Value) (H : AH) : play_Plan_k7 x1 x2 x4 x5 x6 x7 x8 H =
  ld [.f 2] x5 H fun v58 =>
  (pBin .other .lss x8 v58).bind fun v59 =>
  condK v59
  (play_Plan_k8 x1 x2 x4 x5 x6 x7 x8 H)
  (play_Plan_e6_0 x4 x6 H) :=
  lt' rfl f9_n7_d (pt rfl 0 f9_n8_d (by kernel_rfl))
theorem play_Plan_k5_eq (x1 x2 x4 x5 x6 x7 x8 : Value) (H : AH) : play_Plan_k5 x1 x2 x4 x5 x6 x7 x8 H =
  play_Plan_k7 x1 x2 x4 x5 x6 x7 x8 H :=
  (bt rfl (f9_b [1, 1, 1, 1, 0, 1, 4]) 0 f9_x6_d (li rfl (f9_b [1, 1, 1, 1, 0, 1, 4, 5]) f9_n7_d (by kernel_rfl)))
theorem play_Plan_k0_eq (x1 x2 x4 x5 x6 x7 : Value) (H : AH) : play_Plan_k0 x1 x2 x4 x5 x6 x7 H =
  play_Plan_k5 x1 x2 x4 x5 x6 x7 (vi 0) H :=
  (pt rfl 0 f9_n1_d (pt rfl 0 f9_n5_d (by kernel_rfl)))
noncomputable def play_Plan (x0 x1 : Value) (H : AH) : OV := cCode PP GG FF (f9_b []) (ls [x0, x1] 77) H f9_r kx0 f9_r
theorem play_Plan_of (x0 x1 : Value) (H : AH) {r : Value × AH} (h : (
  newK (Value.cells x0).toList H fun v60 H61 =>
  newK [(vi 0), (vi 0), (vi 0), (vi 0), (vw 0), (.slice none 0 0)] H61 fun v62 H63 =>
  ldN 5 [.f 0] v60 H63 fun v64 =>
  (FF n_play_Config [v64] H63).bind fun r65 =>
  newK [(vi 0), (vi 0), (vi 0), (vi 0), (vw 0)] r65.2 fun v66 H67 =>
  (pSt 5 v66 r65.1 H67).bind fun H68 =>
  (pLdN 5 v66 H68).bind fun v69 =>
  mkS [(0, 5), (5, 1)] [(vi 0), (vi 0), (vi 0), (vi 0), (vw 0), (.slice none 0 0)] [(0, v69)] fun v70 =>
  newK [(vi 0), (vi 0), (vi 0), (vi 0), (vw 0), (.slice none 0 0)] H68 fun v71 H72 =>
  (pSt 6 v71 v70 H72).bind fun H73 =>
  play_Plan_k0 x1 v60 v62 v66 v71 (vi 57) H73) = some r) : FF n_play_Plan [x0, x1] H = some r :=
  fo (t := play_Plan x0 x1 H) Tryz.func9 (by kernel_rfl) (Eq.trans (pt rfl 3 f9_n0_d (by kernel_rfl)) h)

-- FUNCTION play_Mod
theorem play_Mod_of (x0 x1 : Value) (H : AH) {r : Value × AH} (h : (
  (pConv (some .u64) x0).bind fun v0 =>
  (pConv (some .u64) x1).bind fun v1 =>
  (pBin .other .rem v0 v1).bind fun v2 =>
  (pConv (some .i64) v2).bind fun v3 =>
  some (v3, H)) = some r) : FF n_play_Mod [x0, x1] H = some r :=
  fo Tryz.func10 (by kernel_rfl) h

-- FUNCTION r16_May
theorem r16_May_of (x0 : Value) (H : AH) {r : Value × AH} (h : (
  newK (Value.cells x0).toList H fun v0 H1 =>
  ldN 5 [.f 0] v0 H1 fun v2 =>
  (FF n_r09_Right [v2] H1).bind fun r3 =>
  gld r3.1 true  [.f 5] v0 r3.2 fun v4 =>
  (onK (yv r3.1) true (lenK v4 some) (some undef)).bind fun v5 =>
  gld r3.1 true  [.f 0, .f 2] v0 r3.2 fun v6 =>
  (gB r3.1 true (pBin .other .leq v5 v6)).bind fun v7 =>
  (pPick r3.1 v7 (vb false)).bind fun v8 =>
  (gB v8 true (pLdN 6 v0 r3.2)).bind fun v9 =>
  (gE v8 true r3.2 (FF n_r16_Calls [v9] r3.2)).bind fun r10 =>
  (gB v8 true (pBin .other .leq r10.1 (vi 60))).bind fun v11 =>
  (pPick v8 v11 (vb false)).bind fun v12 =>
  some (v12, r10.2)) = some r) : FF n_r16_May [x0] H = some r :=
  fo Tryz.func11 (by kernel_rfl) h

-- FUNCTION r27_Parts
noncomputable def f12_b (p : List Nat) : Code := Code.sub (bodyOf Tryz.f12) p
noncomputable def f12_r : KK := cFin PP (Tryz.f12).results.toList
noncomputable def f12_n0 : KK := CQ (f12_b [1, 1]) f12_r kx0 f12_r
noncomputable def f12_m0 : KK := clr 17592186044401 f12_n0
noncomputable def r27_Parts_k0 (x1 x2 x3 : Value) (H : AH) : OV := f12_n0 (ls [u, x1, x2, x3] 40) H
noncomputable def f12_n1 : KK := CQ (f12_b [1, 1, 1]) f12_r kx0 f12_r
noncomputable def f12_m1 : KK := clr 17592186044403 f12_n1
noncomputable def r27_Parts_k1 (x2 x3 : Value) (H : AH) : OV := f12_n1 (ls [u, u, x2, x3] 40) H
noncomputable def f12_n2 : KK := CQ (f12_b [1, 1, 0, 1]) f12_m1 kx0 f12_r
noncomputable def f12_m2 : KK := clr 17592186044385 f12_n2
noncomputable def r27_Parts_k2 (x1 x2 x3 x4 : Value) (H : AH) : OV := f12_n2 (ls [u, x1, x2, x3, x4] 39) H
noncomputable def f12_x3 : KX := BX 0 f12_m1 kx0
noncomputable def f12_y3 : KX := clx 17592186044403 f12_x3
noncomputable def f12_n4 : KK := CLq (f12_b [1, 1, 0, 1, 4, 5]) f12_y3 f12_r
noncomputable def f12_m4 : KK := clr 17592186044385 f12_n4
-- a loop
noncomputable def r27_Parts_k4 (x1 x2 x3 x4 : Value) (H : AH) : OV := f12_n4 (ls [u, x1, x2, x3, x4] 39) H
noncomputable def f12_n5 : KK := CQ (f12_b [1, 1, 0, 1, 4, 5, 1]) f12_m4 f12_y3 f12_r
noncomputable def f12_m5 : KK := clr 17592186044385 f12_n5
noncomputable def r27_Parts_k5 (x1 x2 x3 x4 : Value) (H : AH) : OV := f12_n5 (ls [u, x1, x2, x3, x4] 39) H
noncomputable def f12_n6 : KK := CQ (f12_b [1, 1, 0, 1, 4, 5, 1, 1]) f12_m4 f12_y3 f12_r
noncomputable def f12_m6 : KK := clr 17592186044385 f12_n6
noncomputable def r27_Parts_k6 (x1 x2 x3 x4 : Value) (H : AH) : OV := f12_n6 (ls [u, x1, x2, x3, x4] 39) H
noncomputable def f12_x8 : KX := BX 1 f12_m6 f12_y3
noncomputable def f12_y8 : KX := clx 17592186044385 f12_x8
noncomputable def f12_n9 : KK := CQ (f12_b [1, 1, 0, 1, 4, 5, 1, 0, 4, 1]) f12_m6 f12_y8 f12_r
noncomputable def f12_m9 : KK := clr 17592186044353 f12_n9
noncomputable def r27_Parts_k9 (x1 x2 x3 x4 x5 : Value) (H : AH) : OV := f12_n9 (ls [u, x1, x2, x3, x4, x5] 38) H
noncomputable def f12_x10 : KX := BX 2 f12_m6 f12_y8
noncomputable def f12_y10 : KX := clx 17592186044385 f12_x10
noncomputable def f12_n11 : KK := CLq (f12_b [1, 1, 0, 1, 4, 5, 1, 0, 4, 1, 4, 5]) f12_y10 f12_r
noncomputable def f12_m11 : KK := clr 17592186044353 f12_n11
-- a loop
noncomputable def r27_Parts_k11 (x1 x2 x3 x4 x5 : Value) (H : AH) : OV := f12_n11 (ls [u, x1, x2, x3, x4, x5] 38) H
noncomputable def f12_n12 : KK := CQ (f12_b [1, 1, 0, 1, 4, 5, 1, 0, 4, 1, 4, 5, 1]) f12_m11 f12_y10 f12_r
noncomputable def f12_m12 : KK := clr 17592186044353 f12_n12
noncomputable def r27_Parts_k12 (x1 x2 x3 x4 x5 : Value) (H : AH) : OV := f12_n12 (ls [u, x1, x2, x3, x4, x5] 38) H
noncomputable def f12_n13 : KK := CQ (f12_b [1, 1, 0, 1, 4, 5, 1, 0, 4, 1, 4, 5, 1, 1]) f12_m11 f12_y10 f12_r
noncomputable def f12_m13 : KK := clr 17592186044353 f12_n13
noncomputable def r27_Parts_k13 (x1 x2 x3 x4 x5 : Value) (H : AH) : OV := f12_n13 (ls [u, x1, x2, x3, x4, x5] 38) H
noncomputable def f12_x15 : KX := BX 3 f12_m13 f12_y10
noncomputable def f12_y15 : KX := clx 17592186044353 f12_x15
noncomputable def r27_Parts_e10_2 (x1 x2 x3 x4 : Value) (H : AH) : OV := f12_x10 2 (ls [u, x1, x2, x3, x4] 39) H
noncomputable def r27_Parts_e3_0 (x2 x3 : Value) (H : AH) : OV := f12_x3 0 (ls [u, u, x2, x3] 40) H
theorem f12_r_d : Resp 17592186044411 f12_r := rf
theorem f12_n0_d : Resp 17592186044401 f12_n0 := rc f12_r_d kx0_d f12_r_d
theorem f12_n1_d : Resp 17592186044403 f12_n1 := rc f12_r_d kx0_d f12_r_d
theorem f12_n2_d : Resp 17592186044385 f12_n2 := rc (cd f12_n1_d) kx0_d f12_r_d
theorem f12_x3_d : ∀ i, Resp 17592186044403 (f12_x3 i) := rb (cd f12_n1_d) kx0_d
theorem f12_n4_d : Resp 17592186044385 f12_n4 := rl (cx f12_x3_d) f12_r_d
theorem f12_n5_d : Resp 17592186044385 f12_n5 := rc (cd f12_n4_d) (cx f12_x3_d) f12_r_d
theorem f12_n6_d : Resp 17592186044385 f12_n6 := rc (cd f12_n4_d) (cx f12_x3_d) f12_r_d
theorem f12_x8_d : ∀ i, Resp 17592186044385 (f12_x8 i) := rb (cd f12_n6_d) (cx f12_x3_d)
theorem f12_n9_d : Resp 17592186044353 f12_n9 := rc (cd f12_n6_d) (cx f12_x8_d) f12_r_d
theorem f12_x10_d : ∀ i, Resp 17592186044385 (f12_x10 i) := rb (cd f12_n6_d) (cx f12_x8_d)
theorem f12_n11_d : Resp 17592186044353 f12_n11 := rl (cx f12_x10_d) f12_r_d
theorem f12_n12_d : Resp 17592186044353 f12_n12 := rc (cd f12_n11_d) (cx f12_x10_d) f12_r_d
theorem f12_n13_d : Resp 17592186044353 f12_n13 := rc (cd f12_n11_d) (cx f12_x10_d) f12_r_d
theorem f12_x15_d : ∀ i, Resp 17592186044353 (f12_x15 i) := rb (cd f12_n13_d) (cx f12_x10_d)
theorem r27_Parts_k1_eq (x2 x3 : Value) (H : AH) : r27_Parts_k1 x2 x3 H =
  some (x3, H) :=
  (by kernel_rfl)
theorem r27_Parts_k6_eq (x1 x2 x3 x4 : Value) (H : AH) : r27_Parts_k6 x1 x2 x3 x4 H =
  (pBin .other .add x4 (vi 1)).bind fun v7 =>
  r27_Parts_k4 x1 x2 x3 v7 H :=
  (by kernel_rfl)
theorem r27_Parts_k13_eq (x1 x2 x3 x4 x5 : Value) (H : AH) : r27_Parts_k13 x1 x2 x3 x4 x5 H =
  (pBin .other .add x5 (vi 1)).bind fun v14 =>
  r27_Parts_k11 x1 x2 x3 x4 v14 H :=
  (by kernel_rfl)
theorem r27_Parts_k12_eq (x1 x2 x3 x4 x5 : Value) (H : AH) : r27_Parts_k12 x1 x2 x3 x4 x5 H =
  ld [.f 5] x1 H fun v16 =>
  ld [.i 1 x4] v16 H fun v17 =>
  ldN 4 [.i 4 x5] v17 H fun v18 =>
  newK [(vi 0), (vi 0), (vi 0), (vi 0)] H fun v19 H20 =>
  (pSt 4 v19 v18 H20).bind fun H21 =>
  ld [.f 0] v19 H21 fun v22 =>
  (pBin .other .eql v22 (vi 5)).bind fun v23 =>
  condK v23
  (ld [.f 2] v19 H21 fun v24 =>
  (pMax [v24, (vi 1)]).bind fun v25 =>
  (pMin [v25, (vi 16)]).bind fun v26 =>
  (pBin .other .add x3 v26).bind fun v27 =>
  r27_Parts_k13 x1 x2 v27 x4 x5 H21)
  ((pBin .other .add x3 (vi 1)).bind fun v28 =>
  r27_Parts_k13 x1 x2 v28 x4 x5 H21) :=
  (pt rfl 0 f12_n13_d (bt rfl (f12_b [1, 1, 0, 1, 4, 5, 1, 0, 4, 1, 4, 5, 1, 0, 4]) 3 f12_x15_d (by kernel_rfl)))
theorem r27_Parts_e10_2_eq (x1 x2 x3 x4 : Value) (H : AH) : r27_Parts_e10_2 x1 x2 x3 x4 H = r27_Parts_k6 x1 x2 x3 x4 H :=
  (by kernel_rfl)
theorem r27_Parts_k11_eq (x1 x2 x3 x4 x5 : Value) (H : AH) : r27_Parts_k11 x1 x2 x3 x4 x5 H =
  ld [.f 5] x1 H fun v29 =>
  ld [.i 1 x4] v29 H fun v30 =>
  lenK v30 fun v31 =>
  (pBin .other .lss x5 v31).bind fun v32 =>
  condK v32
  (r27_Parts_k12 x1 x2 x3 x4 x5 H)
  (r27_Parts_e10_2 x1 x2 x3 x4 H) :=
  lt' rfl f12_n11_d (pt rfl 0 f12_n12_d (by kernel_rfl))
theorem r27_Parts_k9_eq (x1 x2 x3 x4 x5 : Value) (H : AH) : r27_Parts_k9 x1 x2 x3 x4 x5 H =
  r27_Parts_k11 x1 x2 x3 x4 x5 H :=
  (bt rfl (f12_b [1, 1, 0, 1, 4, 5, 1, 0, 4, 1, 4]) 2 f12_x10_d (li rfl (f12_b [1, 1, 0, 1, 4, 5, 1, 0, 4, 1, 4, 5]) f12_n11_d (by kernel_rfl)))
theorem r27_Parts_k5_eq (x1 x2 x3 x4 : Value) (H : AH) : r27_Parts_k5 x1 x2 x3 x4 H =
  r27_Parts_k9 x1 x2 x3 x4 (vi 0) H :=
  (pt rfl 0 f12_n6_d (bt rfl (f12_b [1, 1, 0, 1, 4, 5, 1, 0, 4]) 1 f12_x8_d (pt rfl 0 f12_n9_d (by kernel_rfl))))
theorem r27_Parts_e3_0_eq (x2 x3 : Value) (H : AH) : r27_Parts_e3_0 x2 x3 H = r27_Parts_k1 x2 x3 H :=
  (by kernel_rfl)
theorem r27_Parts_k4_eq (x1 x2 x3 x4 : Value) (H : AH) : r27_Parts_k4 x1 x2 x3 x4 H =
  ld [.f 5] x1 H fun v33 =>
  lenK v33 fun v34 =>
  (pBin .other .lss x4 v34).bind fun v35 =>
  condK v35
  (r27_Parts_k5 x1 x2 x3 x4 H)
  (r27_Parts_e3_0 x2 x3 H) :=
  lt' rfl f12_n4_d (pt rfl 0 f12_n5_d (by kernel_rfl))
theorem r27_Parts_k2_eq (x1 x2 x3 x4 : Value) (H : AH) : r27_Parts_k2 x1 x2 x3 x4 H =
  r27_Parts_k4 x1 x2 x3 x4 H :=
  (bt rfl (f12_b [1, 1, 0, 1, 4]) 0 f12_x3_d (li rfl (f12_b [1, 1, 0, 1, 4, 5]) f12_n4_d (by kernel_rfl)))
theorem r27_Parts_k0_eq (x1 x2 x3 : Value) (H : AH) : r27_Parts_k0 x1 x2 x3 H =
  r27_Parts_k2 x1 x2 x3 (vi 0) H :=
  (pt rfl 0 f12_n1_d (pt rfl 0 f12_n2_d (by kernel_rfl)))
noncomputable def r27_Parts (x0 : Value) (H : AH) : OV := cCode PP GG FF (f12_b []) (ls [x0] 43) H f12_r kx0 f12_r
theorem r27_Parts_of (x0 : Value) (H : AH) {r : Value × AH} (h : (
  newK (Value.cells x0).toList H fun v36 H37 =>
  r27_Parts_k0 v36 (vi 0) (vi 0) H37) = some r) : FF n_r27_Parts [x0] H = some r :=
  fo (t := r27_Parts x0 H) Tryz.func12 (by kernel_rfl) (Eq.trans (pt rfl 1 f12_n0_d (by kernel_rfl)) h)

-- FUNCTION pace_Parts
noncomputable def f14_b (p : List Nat) : Code := Code.sub (bodyOf Tryz.f14) p
noncomputable def f14_r : KK := cFin PP (Tryz.f14).results.toList
noncomputable def f14_n0 : KK := CQ (f14_b [1, 1, 1]) f14_r kx0 f14_r
noncomputable def f14_m0 : KK := clr 17592186044377 f14_n0
noncomputable def pace_Parts_k0 (x1 x2 x5 : Value) (H : AH) : OV := f14_n0 (ls [u, x1, x2, u, u, x5] 38) H
noncomputable def f14_n1 : KK := CQ (f14_b [1, 1, 1, 1]) f14_r kx0 f14_r
noncomputable def f14_m1 : KK := clr 17592186044379 f14_n1
noncomputable def pace_Parts_k1 (x2 x5 : Value) (H : AH) : OV := f14_n1 (ls [u, u, x2, u, u, x5] 38) H
noncomputable def f14_n2 : KK := CQ (f14_b [1, 1, 1, 0, 1]) f14_m1 kx0 f14_r
noncomputable def f14_m2 : KK := clr 17592184209371 f14_n2
noncomputable def pace_Parts_k2 (x2 x5 x18 x19 x20 : Value) (H : AH) : OV := f14_n2 (ls [u, u, x2, u, u, x5, u, u, u, u, u, u, u, u, u, u, u, u, x18, x19, x20] 23) H
noncomputable def f14_x3 : KX := BX 0 f14_m1 kx0
noncomputable def f14_y3 : KX := clx 17592186044379 f14_x3
noncomputable def f14_n4 : KK := CLq (f14_b [1, 1, 1, 0, 1, 4, 5]) f14_y3 f14_r
noncomputable def f14_m4 : KK := clr 17592184209371 f14_n4
-- a loop
noncomputable def pace_Parts_k4 (x2 x5 x18 x19 x20 : Value) (H : AH) : OV := f14_n4 (ls [u, u, x2, u, u, x5, u, u, u, u, u, u, u, u, u, u, u, u, x18, x19, x20] 23) H
noncomputable def f14_n5 : KK := CQ (f14_b [1, 1, 1, 0, 1, 4, 5, 1, 1]) f14_m4 f14_y3 f14_r
noncomputable def f14_m5 : KK := clr 17592184209371 f14_n5
noncomputable def pace_Parts_k5 (x2 x5 x18 x19 x20 : Value) (H : AH) : OV := f14_n5 (ls [u, u, x2, u, u, x5, u, u, u, u, u, u, u, u, u, u, u, u, x18, x19, x20] 23) H
noncomputable def f14_n6 : KK := CQ (f14_b [1, 1, 1, 0, 1, 4, 5, 1, 1, 1]) f14_m4 f14_y3 f14_r
noncomputable def f14_m6 : KK := clr 17592184209371 f14_n6
noncomputable def pace_Parts_k6 (x2 x5 x18 x19 x20 : Value) (H : AH) : OV := f14_n6 (ls [u, u, x2, u, u, x5, u, u, u, u, u, u, u, u, u, u, u, u, x18, x19, x20] 23) H
noncomputable def f14_x8 : KX := BX 1 f14_m6 f14_y3
noncomputable def f14_y8 : KX := clx 17592184209371 f14_x8
noncomputable def f14_n9 : KK := CQ (f14_b [1, 1, 1, 0, 1, 4, 5, 1, 1, 0, 4, 1, 1]) f14_m6 f14_y8 f14_r
noncomputable def f14_m9 : KK := clr 17592066768859 f14_n9
noncomputable def pace_Parts_k9 (x2 x5 x18 x19 x20 x24 x25 x26 : Value) (H : AH) : OV := f14_n9 (ls [u, u, x2, u, u, x5, u, u, u, u, u, u, u, u, u, u, u, u, x18, x19, x20, u, u, u, x24, x25, x26] 17) H
noncomputable def f14_x10 : KX := BX 2 f14_m6 f14_y8
noncomputable def f14_y10 : KX := clx 17592184209371 f14_x10
noncomputable def f14_n11 : KK := CLq (f14_b [1, 1, 1, 0, 1, 4, 5, 1, 1, 0, 4, 1, 1, 4, 5]) f14_y10 f14_r
noncomputable def f14_m11 : KK := clr 17592066768859 f14_n11
-- a loop
noncomputable def pace_Parts_k11 (x2 x5 x18 x19 x20 x24 x25 x26 : Value) (H : AH) : OV := f14_n11 (ls [u, u, x2, u, u, x5, u, u, u, u, u, u, u, u, u, u, u, u, x18, x19, x20, u, u, u, x24, x25, x26] 17) H
noncomputable def f14_n12 : KK := CQ (f14_b [1, 1, 1, 0, 1, 4, 5, 1, 1, 0, 4, 1, 1, 4, 5, 1, 1]) f14_m11 f14_y10 f14_r
noncomputable def f14_m12 : KK := clr 17592066768859 f14_n12
noncomputable def pace_Parts_k12 (x2 x5 x18 x19 x20 x24 x25 x26 : Value) (H : AH) : OV := f14_n12 (ls [u, u, x2, u, u, x5, u, u, u, u, u, u, u, u, u, u, u, u, x18, x19, x20, u, u, u, x24, x25, x26] 17) H
noncomputable def f14_n13 : KK := CQ (f14_b [1, 1, 1, 0, 1, 4, 5, 1, 1, 0, 4, 1, 1, 4, 5, 1, 1, 1]) f14_m11 f14_y10 f14_r
noncomputable def f14_m13 : KK := clr 17592066768859 f14_n13
noncomputable def pace_Parts_k13 (x2 x5 x18 x19 x20 x24 x25 x26 : Value) (H : AH) : OV := f14_n13 (ls [u, u, x2, u, u, x5, u, u, u, u, u, u, u, u, u, u, u, u, x18, x19, x20, u, u, u, x24, x25, x26] 17) H
noncomputable def f14_x15 : KX := BX 3 f14_m13 f14_y10
noncomputable def f14_y15 : KX := clx 17592066768859 f14_x15
noncomputable def pace_Parts_e10_2 (x2 x5 x18 x19 x20 : Value) (H : AH) : OV := f14_x10 2 (ls [u, u, x2, u, u, x5, u, u, u, u, u, u, u, u, u, u, u, u, x18, x19, x20] 23) H
noncomputable def pace_Parts_e3_0 (x2 x5 : Value) (H : AH) : OV := f14_x3 0 (ls [u, u, x2, u, u, x5] 38) H
theorem f14_r_d : Resp 17592186044411 f14_r := rf
theorem f14_n0_d : Resp 17592186044377 f14_n0 := rc f14_r_d kx0_d f14_r_d
theorem f14_n1_d : Resp 17592186044379 f14_n1 := rc f14_r_d kx0_d f14_r_d
theorem f14_n2_d : Resp 17592184209371 f14_n2 := rc (cd f14_n1_d) kx0_d f14_r_d
theorem f14_x3_d : ∀ i, Resp 17592186044379 (f14_x3 i) := rb (cd f14_n1_d) kx0_d
theorem f14_n4_d : Resp 17592184209371 f14_n4 := rl (cx f14_x3_d) f14_r_d
theorem f14_n5_d : Resp 17592184209371 f14_n5 := rc (cd f14_n4_d) (cx f14_x3_d) f14_r_d
theorem f14_n6_d : Resp 17592184209371 f14_n6 := rc (cd f14_n4_d) (cx f14_x3_d) f14_r_d
theorem f14_x8_d : ∀ i, Resp 17592184209371 (f14_x8 i) := rb (cd f14_n6_d) (cx f14_x3_d)
theorem f14_n9_d : Resp 17592066768859 f14_n9 := rc (cd f14_n6_d) (cx f14_x8_d) f14_r_d
theorem f14_x10_d : ∀ i, Resp 17592184209371 (f14_x10 i) := rb (cd f14_n6_d) (cx f14_x8_d)
theorem f14_n11_d : Resp 17592066768859 f14_n11 := rl (cx f14_x10_d) f14_r_d
theorem f14_n12_d : Resp 17592066768859 f14_n12 := rc (cd f14_n11_d) (cx f14_x10_d) f14_r_d
theorem f14_n13_d : Resp 17592066768859 f14_n13 := rc (cd f14_n11_d) (cx f14_x10_d) f14_r_d
theorem f14_x15_d : ∀ i, Resp 17592066768859 (f14_x15 i) := rb (cd f14_n13_d) (cx f14_x10_d)
theorem pace_Parts_k1_eq (x2 x5 : Value) (H : AH) : pace_Parts_k1 x2 x5 H =
  some (x5, H) :=
  (by kernel_rfl)
theorem pace_Parts_k6_eq (x2 x5 x18 x19 x20 : Value) (H : AH) : pace_Parts_k6 x2 x5 x18 x19 x20 H =
  (pBin .other .add x20 (vi 1)).bind fun v7 =>
  pace_Parts_k4 x2 x5 x18 x19 v7 H :=
  (by kernel_rfl)
theorem pace_Parts_k13_eq (x2 x5 x18 x19 x20 x24 x25 x26 : Value) (H : AH) : pace_Parts_k13 x2 x5 x18 x19 x20 x24 x25 x26 H =
  (pBin .other .add x26 (vi 1)).bind fun v14 =>
  pace_Parts_k11 x2 x5 x18 x19 x20 x24 x25 v14 H :=
  (by kernel_rfl)
theorem pace_Parts_k12_eq (x2 x5 x18 x19 x20 x24 x25 x26 : Value) (H : AH) : pace_Parts_k12 x2 x5 x18 x19 x20 x24 x25 x26 H =
  ldN 4 [.i 4 x26] x24 H fun v16 =>
  newK [(vi 0), (vi 0), (vi 0), (vi 0)] H fun v17 H18 =>
  (pSt 4 v17 v16 H18).bind fun H19 =>
  ld [.f 0] v17 H19 fun v20 =>
  (pBin .other .eql v20 (vi 5)).bind fun v21 =>
  condK v21
  (ld [.f 2] v17 H19 fun v22 =>
  (pMax [v22, (vi 1)]).bind fun v23 =>
  (pMin [v23, (vi 16)]).bind fun v24 =>
  (pBin .other .add x5 v24).bind fun v25 =>
  pace_Parts_k13 x2 v25 x18 x19 x20 x24 x25 x26 H19)
  ((pBin .other .add x5 (vi 1)).bind fun v26 =>
  pace_Parts_k13 x2 v26 x18 x19 x20 x24 x25 x26 H19) :=
  (pt rfl 0 f14_n13_d (bt rfl (f14_b [1, 1, 1, 0, 1, 4, 5, 1, 1, 0, 4, 1, 1, 4, 5, 1, 1, 0, 4]) 3 f14_x15_d (by kernel_rfl)))
theorem pace_Parts_e10_2_eq (x2 x5 x18 x19 x20 : Value) (H : AH) : pace_Parts_e10_2 x2 x5 x18 x19 x20 H = pace_Parts_k6 x2 x5 x18 x19 x20 H :=
  (by kernel_rfl)
theorem pace_Parts_k11_eq (x2 x5 x18 x19 x20 x24 x25 x26 : Value) (H : AH) : pace_Parts_k11 x2 x5 x18 x19 x20 x24 x25 x26 H =
  (pBin .other .lss x26 x25).bind fun v27 =>
  condK v27
  (pace_Parts_k12 x2 x5 x18 x19 x20 x24 x25 x26 H)
  (pace_Parts_e10_2 x2 x5 x18 x19 x20 H) :=
  lt' rfl f14_n11_d (pt rfl 1 f14_n12_d (by kernel_rfl))
theorem pace_Parts_k9_eq (x2 x5 x18 x19 x20 x24 x25 x26 : Value) (H : AH) : pace_Parts_k9 x2 x5 x18 x19 x20 x24 x25 x26 H =
  pace_Parts_k11 x2 x5 x18 x19 x20 x24 x25 x26 H :=
  (bt rfl (f14_b [1, 1, 1, 0, 1, 4, 5, 1, 1, 0, 4, 1, 1, 4]) 2 f14_x10_d (li rfl (f14_b [1, 1, 1, 0, 1, 4, 5, 1, 1, 0, 4, 1, 1, 4, 5]) f14_n11_d (by kernel_rfl)))
theorem pace_Parts_k5_eq (x2 x5 x18 x19 x20 : Value) (H : AH) : pace_Parts_k5 x2 x5 x18 x19 x20 H =
  ld [.i 1 x20] x18 H fun v28 =>
  lenK v28 fun v29 =>
  pace_Parts_k9 x2 x5 x18 x19 x20 v28 v29 (vi 0) H :=
  (pt rfl 0 f14_n6_d (bt rfl (f14_b [1, 1, 1, 0, 1, 4, 5, 1, 1, 0, 4]) 1 f14_x8_d (pt rfl 1 f14_n9_d (by kernel_rfl))))
theorem pace_Parts_e3_0_eq (x2 x5 : Value) (H : AH) : pace_Parts_e3_0 x2 x5 H = pace_Parts_k1 x2 x5 H :=
  (by kernel_rfl)
theorem pace_Parts_k4_eq (x2 x5 x18 x19 x20 : Value) (H : AH) : pace_Parts_k4 x2 x5 x18 x19 x20 H =
  (pBin .other .lss x20 x19).bind fun v30 =>
  condK v30
  (pace_Parts_k5 x2 x5 x18 x19 x20 H)
  (pace_Parts_e3_0 x2 x5 H) :=
  lt' rfl f14_n4_d (pt rfl 1 f14_n5_d (by kernel_rfl))
theorem pace_Parts_k2_eq (x2 x5 x18 x19 x20 : Value) (H : AH) : pace_Parts_k2 x2 x5 x18 x19 x20 H =
  pace_Parts_k4 x2 x5 x18 x19 x20 H :=
  (bt rfl (f14_b [1, 1, 1, 0, 1, 4]) 0 f14_x3_d (li rfl (f14_b [1, 1, 1, 0, 1, 4, 5]) f14_n4_d (by kernel_rfl)))
theorem pace_Parts_k0_eq (x1 x2 x5 : Value) (H : AH) : pace_Parts_k0 x1 x2 x5 H =
  ld [.f 5] x1 H fun v31 =>
  lenK v31 fun v32 =>
  pace_Parts_k2 x2 x5 v31 v32 (vi 0) H :=
  (pt rfl 0 f14_n1_d (pt rfl 0 f14_n2_d (by kernel_rfl)))
noncomputable def pace_Parts (x0 : Value) (H : AH) : OV := cCode PP GG FF (f14_b []) (ls [x0] 43) H f14_r kx0 f14_r
theorem pace_Parts_of (x0 : Value) (H : AH) {r : Value × AH} (h : (
  newK (Value.cells x0).toList H fun v33 H34 =>
  (pLdN 6 v33 H34).bind fun v35 =>
  (FF n_world_New [v35] H34).bind fun r36 =>
  (pExtract r36.1 0).bind fun v37 =>
  (pExtract r36.1 1).bind fun v38 =>
  (pBin .other .neq v38 (vi 0)).bind fun v39 =>
  condK v39
  (some ((vi 0), r36.2))
  (pace_Parts_k0 v33 (vi 0) (vi 0) r36.2)) = some r) : FF n_pace_Parts [x0] H = some r :=
  fo (t := pace_Parts x0 H) Tryz.func14 (by kernel_rfl) (Eq.trans (pt rfl 2 f14_n0_d (by kernel_rfl)) h)

-- FUNCTION pace_Bound
noncomputable def f15_b (p : List Nat) : Code := Code.sub (bodyOf Tryz.f15) p
noncomputable def f15_r : KK := cFin PP (Tryz.f15).results.toList
noncomputable def f15_n0 : KK := CQ (f15_b [1, 1, 1]) f15_r kx0 f15_r
noncomputable def f15_m0 : KK := clr 70368744177625 f15_n0
noncomputable def pace_Bound_k0 (x1 x2 x5 : Value) (H : AH) : OV := f15_n0 (ls [u, x1, x2, u, u, x5] 40) H
noncomputable def f15_n1 : KK := CQ (f15_b [1, 1, 1, 1]) f15_r kx0 f15_r
noncomputable def f15_m1 : KK := clr 70368744177625 f15_n1
noncomputable def pace_Bound_k1 (x1 x2 x5 : Value) (H : AH) : OV := f15_n1 (ls [u, x1, x2, u, u, x5] 40) H
noncomputable def f15_n11 : KK := CQ (f15_b [1, 1, 1, 0, 1]) f15_m1 kx0 f15_r
noncomputable def f15_m11 : KK := clr 70368740507609 f15_n11
noncomputable def pace_Bound_k11 (x1 x2 x5 x19 x20 x21 : Value) (H : AH) : OV := f15_n11 (ls [u, x1, x2, u, u, x5, u, u, u, u, u, u, u, u, u, u, u, u, u, x19, x20, x21] 24) H
noncomputable def f15_x12 : KX := BX 0 f15_m1 kx0
noncomputable def f15_y12 : KX := clx 70368744177625 f15_x12
noncomputable def f15_n13 : KK := CLq (f15_b [1, 1, 1, 0, 1, 4, 5]) f15_y12 f15_r
noncomputable def f15_m13 : KK := clr 70368740507609 f15_n13
-- a loop
noncomputable def pace_Bound_k13 (x1 x2 x5 x19 x20 x21 : Value) (H : AH) : OV := f15_n13 (ls [u, x1, x2, u, u, x5, u, u, u, u, u, u, u, u, u, u, u, u, u, x19, x20, x21] 24) H
noncomputable def f15_n14 : KK := CQ (f15_b [1, 1, 1, 0, 1, 4, 5, 1, 1]) f15_m13 f15_y12 f15_r
noncomputable def f15_m14 : KK := clr 70368740507609 f15_n14
noncomputable def pace_Bound_k14 (x1 x2 x5 x19 x20 x21 : Value) (H : AH) : OV := f15_n14 (ls [u, x1, x2, u, u, x5, u, u, u, u, u, u, u, u, u, u, u, u, u, x19, x20, x21] 24) H
noncomputable def f15_n15 : KK := CQ (f15_b [1, 1, 1, 0, 1, 4, 5, 1, 1, 1]) f15_m13 f15_y12 f15_r
noncomputable def f15_m15 : KK := clr 70368740507609 f15_n15
noncomputable def pace_Bound_k15 (x1 x2 x5 x19 x20 x21 : Value) (H : AH) : OV := f15_n15 (ls [u, x1, x2, u, u, x5, u, u, u, u, u, u, u, u, u, u, u, u, u, x19, x20, x21] 24) H
noncomputable def f15_x17 : KX := BX 1 f15_m15 f15_y12
noncomputable def f15_y17 : KX := clx 70368740507609 f15_x17
noncomputable def pace_Bound_e12_0 (x1 x2 x5 : Value) (H : AH) : OV := f15_x12 0 (ls [u, x1, x2, u, u, x5] 40) H
theorem f15_r_d : Resp 70368744177659 f15_r := rf
theorem f15_n0_d : Resp 70368744177625 f15_n0 := rc f15_r_d kx0_d f15_r_d
theorem f15_n1_d : Resp 70368744177625 f15_n1 := rc f15_r_d kx0_d f15_r_d
theorem f15_n11_d : Resp 70368740507609 f15_n11 := rc (cd f15_n1_d) kx0_d f15_r_d
theorem f15_x12_d : ∀ i, Resp 70368744177625 (f15_x12 i) := rb (cd f15_n1_d) kx0_d
theorem f15_n13_d : Resp 70368740507609 f15_n13 := rl (cx f15_x12_d) f15_r_d
theorem f15_n14_d : Resp 70368740507609 f15_n14 := rc (cd f15_n13_d) (cx f15_x12_d) f15_r_d
theorem f15_n15_d : Resp 70368740507609 f15_n15 := rc (cd f15_n13_d) (cx f15_x12_d) f15_r_d
theorem f15_x17_d : ∀ i, Resp 70368740507609 (f15_x17 i) := rb (cd f15_n15_d) (cx f15_x12_d)
theorem pace_Bound_k1_eq (x1 x2 x5 : Value) (H : AH) : pace_Bound_k1 x1 x2 x5 H =
  (pBin .other .mul (vi 16) x5).bind fun v2 =>
  ld [.f 0, .f 2] x1 H fun v3 =>
  (pBin .other .add v3 (vi 1)).bind fun v4 =>
  (pBin .other .mul v2 v4).bind fun v5 =>
  ld [.f 0, .f 1] x1 H fun v6 =>
  ld [.f 0, .f 0] x1 H fun v7 =>
  (pBin .other .add v6 v7).bind fun v8 =>
  (pBin .other .add v8 (vi 40)).bind fun v9 =>
  (pBin .other .mul v5 v9).bind fun v10 =>
  some (v10, H) :=
  (by kernel_rfl)
theorem pace_Bound_k15_eq (x1 x2 x5 x19 x20 x21 : Value) (H : AH) : pace_Bound_k15 x1 x2 x5 x19 x20 x21 H =
  (pBin .other .add x21 (vi 1)).bind fun v16 =>
  pace_Bound_k13 x1 x2 x5 x19 x20 v16 H :=
  (by kernel_rfl)
theorem pace_Bound_k14_eq (x1 x2 x5 x19 x20 x21 : Value) (H : AH) : pace_Bound_k14 x1 x2 x5 x19 x20 x21 H =
  ld [.i 1 x21] x19 H fun v18 =>
  lenK v18 fun v19 =>
  (pBin .other .add x5 v19).bind fun v20 =>
  pace_Bound_k15 x1 x2 v20 x19 x20 x21 H :=
  (pt rfl 0 f15_n15_d (bt rfl (f15_b [1, 1, 1, 0, 1, 4, 5, 1, 1, 0, 4]) 1 f15_x17_d (by kernel_rfl)))
theorem pace_Bound_e12_0_eq (x1 x2 x5 : Value) (H : AH) : pace_Bound_e12_0 x1 x2 x5 H = pace_Bound_k1 x1 x2 x5 H :=
  (by kernel_rfl)
theorem pace_Bound_k13_eq (x1 x2 x5 x19 x20 x21 : Value) (H : AH) : pace_Bound_k13 x1 x2 x5 x19 x20 x21 H =
  (pBin .other .lss x21 x20).bind fun v21 =>
  condK v21
  (pace_Bound_k14 x1 x2 x5 x19 x20 x21 H)
  (pace_Bound_e12_0 x1 x2 x5 H) :=
  lt' rfl f15_n13_d (pt rfl 1 f15_n14_d (by kernel_rfl))
theorem pace_Bound_k11_eq (x1 x2 x5 x19 x20 x21 : Value) (H : AH) : pace_Bound_k11 x1 x2 x5 x19 x20 x21 H =
  pace_Bound_k13 x1 x2 x5 x19 x20 x21 H :=
  (bt rfl (f15_b [1, 1, 1, 0, 1, 4]) 0 f15_x12_d (li rfl (f15_b [1, 1, 1, 0, 1, 4, 5]) f15_n13_d (by kernel_rfl)))
theorem pace_Bound_k0_eq (x1 x2 x5 : Value) (H : AH) : pace_Bound_k0 x1 x2 x5 H =
  ld [.f 5] x1 H fun v22 =>
  lenK v22 fun v23 =>
  pace_Bound_k11 x1 x2 x5 v22 v23 (vi 0) H :=
  (pt rfl 0 f15_n1_d (pt rfl 0 f15_n11_d (by kernel_rfl)))
noncomputable def pace_Bound (x0 : Value) (H : AH) : OV := cCode PP GG FF (f15_b []) (ls [x0] 45) H f15_r kx0 f15_r
theorem pace_Bound_of (x0 : Value) (H : AH) {r : Value × AH} (h : (
  newK (Value.cells x0).toList H fun v24 H25 =>
  (pLdN 6 v24 H25).bind fun v26 =>
  (FF n_world_New [v26] H25).bind fun r27 =>
  (pExtract r27.1 0).bind fun v28 =>
  (pExtract r27.1 1).bind fun v29 =>
  (pBin .other .neq v29 (vi 0)).bind fun v30 =>
  condK v30
  (some ((vi 0), r27.2))
  ((pLdN 6 v24 r27.2).bind fun v31 =>
  (FF n_pace_Parts [v31] r27.2).bind fun r32 =>
  (pBin .other .add r32.1 (vi 1)).bind fun v33 =>
  pace_Bound_k0 v24 (vi 0) v33 r32.2)) = some r) : FF n_pace_Bound [x0] H = some r :=
  fo (t := pace_Bound x0 H) Tryz.func15 (by kernel_rfl) (Eq.trans (pt rfl 2 f15_n0_d (by kernel_rfl)) h)

-- FUNCTION r27_Bound
theorem r27_Bound_of (x0 : Value) (H : AH) {r : Value × AH} (h : (
  newK (Value.cells x0).toList H fun v0 H1 =>
  (pLdN 6 v0 H1).bind fun v2 =>
  (FF n_r16_May [v2] H1).bind fun r3 =>
  (pUn .not r3.1).bind fun v4 =>
  condK v4
  (some ((vi 0), r3.2))
  (ldN 5 [.f 0] v0 r3.2 fun v5 =>
  newK [(vi 0), (vi 0), (vi 0), (vi 0), (vw 0)] r3.2 fun v6 H7 =>
  (pSt 5 v6 v5 H7).bind fun H8 =>
  (pLdN 6 v0 H8).bind fun v9 =>
  (FF n_r16_Calls [v9] H8).bind fun r10 =>
  (pLdN 6 v0 r10.2).bind fun v11 =>
  eqK (pLdN 6 v0 H8) (pLdN 6 v0 r10.2) <|
  (FF n_r27_Parts [v11] r10.2).bind fun r12 =>
  (pBin .other .add r10.1 r12.1).bind fun v13 =>
  (pBin .other .add v13 (vi 1)).bind fun v14 =>
  (pBin .other .mul (vi 16) v14).bind fun v15 =>
  ad [.f 2] v6 fun v16 =>
  (pLd1 v16 r12.2).bind fun v17 =>
  eqK (pLd1 v16 H8) (pLd1 v16 r12.2) <|
  eqK (pLd1 v16 r10.2) (pLd1 v16 r12.2) <|
  (pBin .other .add v17 (vi 1)).bind fun v18 =>
  (pBin .other .mul v15 v18).bind fun v19 =>
  ad [.f 1] v6 fun v20 =>
  (pLd1 v20 r12.2).bind fun v21 =>
  eqK (pLd1 v20 H8) (pLd1 v20 r12.2) <|
  eqK (pLd1 v20 r10.2) (pLd1 v20 r12.2) <|
  ad [.f 0] v6 fun v22 =>
  (pLd1 v22 r12.2).bind fun v23 =>
  eqK (pLd1 v22 H8) (pLd1 v22 r12.2) <|
  eqK (pLd1 v22 r10.2) (pLd1 v22 r12.2) <|
  (pBin .other .add v21 v23).bind fun v24 =>
  (pBin .other .add v24 (vi 40)).bind fun v25 =>
  (pBin .other .mul v19 v25).bind fun v26 =>
  some (v26, r12.2))) = some r) : FF n_r27_Bound [x0] H = some r :=
  fo Tryz.func16 (by kernel_rfl) h

-- FUNCTION play_Wide
noncomputable def f17_b (p : List Nat) : Code := Code.sub (bodyOf Tryz.f17) p
noncomputable def f17_r : KK := cFin PP (Tryz.f17).results.toList
noncomputable def f17_n0 : KK := CQ (f17_b [1, 1, 1, 1]) f17_r kx0 f17_r
noncomputable def f17_m0 : KK := clr 604462909807314587352625 f17_n0
noncomputable def play_Wide_k0 (x1 x2 x3 x6 x7 x8 : Value) (H : AH) : OV := f17_n0 (ls [u, x1, x2, x3, u, u, x6, x7, x8] 70) H
noncomputable def f17_n1 : KK := CQ (f17_b [1, 1, 1, 1, 1]) f17_r kx0 f17_r
noncomputable def f17_m1 : KK := clr 604462909807314587352753 f17_n1
noncomputable def play_Wide_k1 (x1 x2 x3 x6 x8 : Value) (H : AH) : OV := f17_n1 (ls [u, x1, x2, x3, u, u, x6, u, x8] 70) H
noncomputable def f17_n2 : KK := CQ (f17_b [1, 1, 1, 1, 1, 1]) f17_r kx0 f17_r
noncomputable def f17_m2 : KK := clr 604462909807314587352241 f17_n2
noncomputable def play_Wide_k2 (x1 x2 x3 x6 x8 x9 : Value) (H : AH) : OV := f17_n2 (ls [u, x1, x2, x3, u, u, x6, u, x8, x9] 69) H
noncomputable def f17_n3 : KK := CQ (f17_b [1, 1, 1, 1, 1, 1, 1]) f17_r kx0 f17_r
noncomputable def f17_m3 : KK := clr 604462909807314587352767 f17_n3
noncomputable def play_Wide_k3 (x6 x8 : Value) (H : AH) : OV := f17_n3 (ls [u, u, u, u, u, u, x6, u, x8] 70) H
noncomputable def f17_n7 : KK := CQ (f17_b [1, 1, 1, 1, 1, 1, 0, 1]) f17_m3 kx0 f17_r
noncomputable def f17_m7 : KK := clr 604462909807314587351217 f17_n7
noncomputable def play_Wide_k7 (x1 x2 x3 x6 x8 x9 x10 : Value) (H : AH) : OV := f17_n7 (ls [u, x1, x2, x3, u, u, x6, u, x8, x9, x10] 68) H
noncomputable def f17_x8 : KX := BX 0 f17_m3 kx0
noncomputable def f17_y8 : KX := clx 604462909807314587352767 f17_x8
noncomputable def f17_n9 : KK := CLq (f17_b [1, 1, 1, 1, 1, 1, 0, 1, 4, 5]) f17_y8 f17_r
noncomputable def f17_m9 : KK := clr 604462909807314587351217 f17_n9
-- a loop
noncomputable def play_Wide_k9 (x1 x2 x3 x6 x8 x9 x10 : Value) (H : AH) : OV := f17_n9 (ls [u, x1, x2, x3, u, u, x6, u, x8, x9, x10] 68) H
noncomputable def f17_n10 : KK := CQ (f17_b [1, 1, 1, 1, 1, 1, 0, 1, 4, 5, 1]) f17_m9 f17_y8 f17_r
noncomputable def f17_m10 : KK := clr 604462909807314587351217 f17_n10
noncomputable def play_Wide_k10 (x1 x2 x3 x6 x8 x9 x10 : Value) (H : AH) : OV := f17_n10 (ls [u, x1, x2, x3, u, u, x6, u, x8, x9, x10] 68) H
noncomputable def f17_n11 : KK := CQ (f17_b [1, 1, 1, 1, 1, 1, 0, 1, 4, 5, 1, 1]) f17_m9 f17_y8 f17_r
noncomputable def f17_m11 : KK := clr 604462909807314587351217 f17_n11
noncomputable def play_Wide_k11 (x1 x2 x3 x6 x8 x9 x10 : Value) (H : AH) : OV := f17_n11 (ls [u, x1, x2, x3, u, u, x6, u, x8, x9, x10] 68) H
noncomputable def f17_x13 : KX := BX 1 f17_m11 f17_y8
noncomputable def f17_y13 : KX := clx 604462909807314587351217 f17_x13
noncomputable def f17_n14 : KK := CQ (f17_b [1, 1, 1, 1, 1, 1, 0, 1, 4, 5, 1, 0, 4, 1]) f17_m11 f17_y13 f17_r
noncomputable def f17_m14 : KK := clr 604462909807314587349169 f17_n14
noncomputable def play_Wide_k14 (x1 x2 x3 x6 x8 x9 x10 x11 : Value) (H : AH) : OV := f17_n14 (ls [u, x1, x2, x3, u, u, x6, u, x8, x9, x10, x11] 67) H
noncomputable def f17_x15 : KX := BX 2 f17_m11 f17_y13
noncomputable def f17_y15 : KX := clx 604462909807314587351217 f17_x15
noncomputable def f17_n16 : KK := CLq (f17_b [1, 1, 1, 1, 1, 1, 0, 1, 4, 5, 1, 0, 4, 1, 4, 5]) f17_y15 f17_r
noncomputable def f17_m16 : KK := clr 604462909807314587349169 f17_n16
-- a loop
noncomputable def play_Wide_k16 (x1 x2 x3 x6 x8 x9 x10 x11 : Value) (H : AH) : OV := f17_n16 (ls [u, x1, x2, x3, u, u, x6, u, x8, x9, x10, x11] 67) H
noncomputable def f17_n17 : KK := CQ (f17_b [1, 1, 1, 1, 1, 1, 0, 1, 4, 5, 1, 0, 4, 1, 4, 5, 1]) f17_m16 f17_y15 f17_r
noncomputable def f17_m17 : KK := clr 604462909807314587349169 f17_n17
noncomputable def play_Wide_k17 (x1 x2 x3 x6 x8 x9 x10 x11 : Value) (H : AH) : OV := f17_n17 (ls [u, x1, x2, x3, u, u, x6, u, x8, x9, x10, x11] 67) H
noncomputable def f17_n18 : KK := CQ (f17_b [1, 1, 1, 1, 1, 1, 0, 1, 4, 5, 1, 0, 4, 1, 4, 5, 1, 1]) f17_m16 f17_y15 f17_r
noncomputable def f17_m18 : KK := clr 604462909807314587349169 f17_n18
noncomputable def play_Wide_k18 (x1 x2 x3 x6 x8 x9 x10 x11 : Value) (H : AH) : OV := f17_n18 (ls [u, x1, x2, x3, u, u, x6, u, x8, x9, x10, x11] 67) H
noncomputable def f17_x20 : KX := BX 3 f17_m18 f17_y15
noncomputable def f17_y20 : KX := clx 604462909807314587349169 f17_x20
noncomputable def play_Wide_e15_2 (x1 x2 x3 x6 x8 x9 x10 : Value) (H : AH) : OV := f17_x15 2 (ls [u, x1, x2, x3, u, u, x6, u, x8, x9, x10] 68) H
noncomputable def play_Wide_e8_0 (x6 x8 : Value) (H : AH) : OV := f17_x8 0 (ls [u, u, u, u, u, u, x6, u, x8] 70) H
theorem f17_r_d : Resp 604462909807314587353023 f17_r := rf
theorem f17_n0_d : Resp 604462909807314587352625 f17_n0 := rc f17_r_d kx0_d f17_r_d
theorem f17_n1_d : Resp 604462909807314587352753 f17_n1 := rc f17_r_d kx0_d f17_r_d
theorem f17_n2_d : Resp 604462909807314587352241 f17_n2 := rc f17_r_d kx0_d f17_r_d
theorem f17_n3_d : Resp 604462909807314587352767 f17_n3 := rc f17_r_d kx0_d f17_r_d
theorem f17_n7_d : Resp 604462909807314587351217 f17_n7 := rc (cd f17_n3_d) kx0_d f17_r_d
theorem f17_x8_d : ∀ i, Resp 604462909807314587352767 (f17_x8 i) := rb (cd f17_n3_d) kx0_d
theorem f17_n9_d : Resp 604462909807314587351217 f17_n9 := rl (cx f17_x8_d) f17_r_d
theorem f17_n10_d : Resp 604462909807314587351217 f17_n10 := rc (cd f17_n9_d) (cx f17_x8_d) f17_r_d
theorem f17_n11_d : Resp 604462909807314587351217 f17_n11 := rc (cd f17_n9_d) (cx f17_x8_d) f17_r_d
theorem f17_x13_d : ∀ i, Resp 604462909807314587351217 (f17_x13 i) := rb (cd f17_n11_d) (cx f17_x8_d)
theorem f17_n14_d : Resp 604462909807314587349169 f17_n14 := rc (cd f17_n11_d) (cx f17_x13_d) f17_r_d
theorem f17_x15_d : ∀ i, Resp 604462909807314587351217 (f17_x15 i) := rb (cd f17_n11_d) (cx f17_x13_d)
theorem f17_n16_d : Resp 604462909807314587349169 f17_n16 := rl (cx f17_x15_d) f17_r_d
theorem f17_n17_d : Resp 604462909807314587349169 f17_n17 := rc (cd f17_n16_d) (cx f17_x15_d) f17_r_d
theorem f17_n18_d : Resp 604462909807314587349169 f17_n18 := rc (cd f17_n16_d) (cx f17_x15_d) f17_r_d
theorem f17_x20_d : ∀ i, Resp 604462909807314587349169 (f17_x20 i) := rb (cd f17_n18_d) (cx f17_x15_d)
theorem play_Wide_k3_eq (x6 x8 : Value) (H : AH) : play_Wide_k3 x6 x8 H =
  (pLdN 6 x8 H).bind fun v4 =>
  (pSt 6 x6 v4 H).bind fun H5 =>
  (pLdN 6 x6 H5).bind fun v6 => some (v6, H5) :=
  (by kernel_rfl)
theorem play_Wide_k11_eq (x1 x2 x3 x6 x8 x9 x10 : Value) (H : AH) : play_Wide_k11 x1 x2 x3 x6 x8 x9 x10 H =
  (pBin .other .add x10 (vi 1)).bind fun v12 =>
  play_Wide_k9 x1 x2 x3 x6 x8 x9 v12 H :=
  (by kernel_rfl)
theorem play_Wide_k18_eq (x1 x2 x3 x6 x8 x9 x10 x11 : Value) (H : AH) : play_Wide_k18 x1 x2 x3 x6 x8 x9 x10 x11 H =
  (pBin .other .add x11 (vi 1)).bind fun v19 =>
  play_Wide_k16 x1 x2 x3 x6 x8 x9 x10 v19 H :=
  (by kernel_rfl)
theorem play_Wide_k17_eq (x1 x2 x3 x6 x8 x9 x10 x11 : Value) (H : AH) : play_Wide_k17 x1 x2 x3 x6 x8 x9 x10 x11 H =
  ld [.f 2] x3 H fun v21 =>
  (pBin .other .rem x10 v21).bind fun v22 =>
  ad [.f 5] x8 fun v23 =>
  (pLd1 v23 H).bind fun v24 =>
  ad [.f 5] x8 fun v25 =>
  (pLd1 v25 H).bind fun v26 =>
  ad [.i 1 v22] v26 fun v27 =>
  (pLd1 v27 H).bind fun v28 =>
  ld [.i 1 x10] x1 H fun v29 =>
  ldN 4 [.i 4 x11] v29 H fun v30 =>
  (FF n_play_Call [v30] H).bind fun r31 =>
  eqK (pLd1 v23 r31.2) (pLd1 v23 H) <|
  eqK (pLd1 v25 r31.2) (pLd1 v25 H) <|
  eqK (pLd1 v27 r31.2) (pLd1 v27 H) <|
  mkR 1 4 [(vi 0), (vi 0), (vi 0), (vi 0)] [(0, r31.1)] r31.2 fun v32 H33 =>
  (pApp 4 32 v28 v32 H33).bind fun r34 =>
  eqK (pLd1 v23 r34.2) (pLd1 v23 H) <|
  st 1 [.i 1 v22] v24 r34.1 r34.2 fun H35 =>
  (pBin .other .add x9 (vi 1)).bind fun v36 =>
  play_Wide_k18 x1 x2 x3 x6 x8 v36 x10 x11 H35 :=
  (pt rfl 0 f17_n18_d (bt rfl (f17_b [1, 1, 1, 1, 1, 1, 0, 1, 4, 5, 1, 0, 4, 1, 4, 5, 1, 0, 4]) 3 f17_x20_d (by kernel_rfl)))
theorem play_Wide_e15_2_eq (x1 x2 x3 x6 x8 x9 x10 : Value) (H : AH) : play_Wide_e15_2 x1 x2 x3 x6 x8 x9 x10 H = play_Wide_k11 x1 x2 x3 x6 x8 x9 x10 H :=
  (by kernel_rfl)
theorem play_Wide_k16_eq (x1 x2 x3 x6 x8 x9 x10 x11 : Value) (H : AH) : play_Wide_k16 x1 x2 x3 x6 x8 x9 x10 x11 H =
  ld [.i 1 x10] x1 H fun v37 =>
  lenK v37 fun v38 =>
  (pBin .other .lss x11 v38).bind fun v39 =>
  (gV v39 true x9).bind fun v40 =>
  (gV v39 true x2).bind fun v41 =>
  (gB v39 true (pBin .other .lss v40 v41)).bind fun v42 =>
  (pPick v39 v42 (vb false)).bind fun v43 =>
  (gV v43 true x9).bind fun v44 =>
  (gB v43 true (pBin .other .lss v44 (vi 57))).bind fun v45 =>
  (pPick v43 v45 (vb false)).bind fun v46 =>
  condK v46
  (play_Wide_k17 x1 x2 x3 x6 x8 x9 x10 x11 H)
  (play_Wide_e15_2 x1 x2 x3 x6 x8 x9 x10 H) :=
  lt' rfl f17_n16_d (pt rfl 0 f17_n17_d (by kernel_rfl))
theorem play_Wide_k14_eq (x1 x2 x3 x6 x8 x9 x10 x11 : Value) (H : AH) : play_Wide_k14 x1 x2 x3 x6 x8 x9 x10 x11 H =
  play_Wide_k16 x1 x2 x3 x6 x8 x9 x10 x11 H :=
  (bt rfl (f17_b [1, 1, 1, 1, 1, 1, 0, 1, 4, 5, 1, 0, 4, 1, 4]) 2 f17_x15_d (li rfl (f17_b [1, 1, 1, 1, 1, 1, 0, 1, 4, 5, 1, 0, 4, 1, 4, 5]) f17_n16_d (by kernel_rfl)))
theorem play_Wide_k10_eq (x1 x2 x3 x6 x8 x9 x10 : Value) (H : AH) : play_Wide_k10 x1 x2 x3 x6 x8 x9 x10 H =
  play_Wide_k14 x1 x2 x3 x6 x8 x9 x10 (vi 0) H :=
  (pt rfl 0 f17_n11_d (bt rfl (f17_b [1, 1, 1, 1, 1, 1, 0, 1, 4, 5, 1, 0, 4]) 1 f17_x13_d (pt rfl 0 f17_n14_d (by kernel_rfl))))
theorem play_Wide_e8_0_eq (x6 x8 : Value) (H : AH) : play_Wide_e8_0 x6 x8 H = play_Wide_k3 x6 x8 H :=
  (by kernel_rfl)
theorem play_Wide_k9_eq (x1 x2 x3 x6 x8 x9 x10 : Value) (H : AH) : play_Wide_k9 x1 x2 x3 x6 x8 x9 x10 H =
  lenK x1 fun v47 =>
  (pBin .other .lss x10 v47).bind fun v48 =>
  condK v48
  (play_Wide_k10 x1 x2 x3 x6 x8 x9 x10 H)
  (play_Wide_e8_0 x6 x8 H) :=
  lt' rfl f17_n9_d (pt rfl 0 f17_n10_d (by kernel_rfl))
theorem play_Wide_k7_eq (x1 x2 x3 x6 x8 x9 x10 : Value) (H : AH) : play_Wide_k7 x1 x2 x3 x6 x8 x9 x10 H =
  play_Wide_k9 x1 x2 x3 x6 x8 x9 x10 H :=
  (bt rfl (f17_b [1, 1, 1, 1, 1, 1, 0, 1, 4]) 0 f17_x8_d (li rfl (f17_b [1, 1, 1, 1, 1, 1, 0, 1, 4, 5]) f17_n9_d (by kernel_rfl)))
theorem play_Wide_k2_eq (x1 x2 x3 x6 x8 x9 : Value) (H : AH) : play_Wide_k2 x1 x2 x3 x6 x8 x9 H =
  play_Wide_k7 x1 x2 x3 x6 x8 x9 (vi 0) H :=
  (pt rfl 0 f17_n3_d (pt rfl 0 f17_n7_d (by kernel_rfl)))
theorem play_Wide_k1_eq (x1 x2 x3 x6 x8 : Value) (H : AH) : play_Wide_k1 x1 x2 x3 x6 x8 H =
  play_Wide_k2 x1 x2 x3 x6 x8 (vi 0) H :=
  (pt rfl 0 f17_n2_d (by kernel_rfl))
theorem play_Wide_k0_eq (x1 x2 x3 x6 x7 x8 : Value) (H : AH) : play_Wide_k0 x1 x2 x3 x6 x7 x8 H =
  condK x7
  (ad [.f 5] x8 fun v49 =>
  (pLd1 v49 H).bind fun v50 =>
  (FF n_play_Ready [(vi 3)] H).bind fun r51 =>
  eqK (pLd1 v49 r51.2) (pLd1 v49 H) <|
  st 1 [.i 1 (vi 0)] v50 r51.1 r51.2 fun H52 =>
  play_Wide_k1 x1 x2 x3 x6 x8 H52)
  (play_Wide_k1 x1 x2 x3 x6 x8 H) :=
  (pt rfl 0 f17_n1_d (by kernel_rfl))
noncomputable def play_Wide (x0 x1 x2 : Value) (H : AH) : OV := cCode PP GG FF (f17_b []) (ls [x0, x1, x2] 76) H f17_r kx0 f17_r
theorem play_Wide_of (x0 x1 x2 : Value) (H : AH) {r : Value × AH} (h : (
  newK (Value.cells x0).toList H fun v53 H54 =>
  newK [(vi 0), (vi 0), (vi 0), (vi 0), (vw 0), (.slice none 0 0)] H54 fun v55 H56 =>
  ld [.f 3] v53 H56 fun v57 =>
  (FF n_play_Mod [v57, (vi 4)] H56).bind fun r58 =>
  (pBin .other .gtr r58.1 (vi 0)).bind fun v59 =>
  (pLdN 5 v53 r58.2).bind fun v60 =>
  (FF n_play_Config [v60] r58.2).bind fun r61 =>
  (pSt 5 v53 r61.1 r61.2).bind fun H62 =>
  (pLdN 5 v53 H62).bind fun v63 =>
  ld [.f 2] v53 H62 fun v64 =>
  (pMake [(.slice none 0 0)] 1 24 v64 v64 H62).bind fun r65 =>
  mkS [(0, 5), (5, 1)] [(vi 0), (vi 0), (vi 0), (vi 0), (vw 0), (.slice none 0 0)] [(0, v63), (1, r65.1)] fun v66 =>
  newK [(vi 0), (vi 0), (vi 0), (vi 0), (vw 0), (.slice none 0 0)] r65.2 fun v67 H68 =>
  (pSt 6 v67 v66 H68).bind fun H69 =>
  play_Wide_k0 x1 x2 v53 v55 v59 v67 H69) = some r) : FF n_play_Wide [x0, x1, x2] H = some r :=
  fo (t := play_Wide x0 x1 x2 H) Tryz.func17 (by kernel_rfl) (Eq.trans (pt rfl 3 f17_n0_d (by kernel_rfl)) h)

-- FUNCTION pace_Even
noncomputable def f18_b (p : List Nat) : Code := Code.sub (bodyOf Tryz.f18) p
noncomputable def f18_r : KK := cFin PP (Tryz.f18).results.toList
noncomputable def f18_n0 : KK := CQ (f18_b [1]) f18_r kx0 f18_r
noncomputable def f18_m0 : KK := clr 68719476664 f18_n0
noncomputable def pace_Even_k0 (x0 x1 x2 x6 : Value) (H : AH) : OV := f18_n0 (ls [x0, x1, x2, u, u, u, x6] 29) H
noncomputable def f18_n1 : KK := CQ (f18_b [1, 1]) f18_r kx0 f18_r
noncomputable def f18_m1 : KK := clr 68719476664 f18_n1
noncomputable def pace_Even_k1 (x0 x1 x2 x6 : Value) (H : AH) : OV := f18_n1 (ls [x0, x1, x2, u, u, u, x6] 29) H
noncomputable def f18_x7 : KX := BX 0 f18_m1 kx0
noncomputable def f18_y7 : KX := clx 68719476664 f18_x7
theorem f18_r_d : Resp 68719476671 f18_r := rf
theorem f18_n0_d : Resp 68719476664 f18_n0 := rc f18_r_d kx0_d f18_r_d
theorem f18_n1_d : Resp 68719476664 f18_n1 := rc f18_r_d kx0_d f18_r_d
theorem f18_x7_d : ∀ i, Resp 68719476664 (f18_x7 i) := rb (cd f18_n1_d) kx0_d
theorem pace_Even_k1_eq (x0 x1 x2 x6 : Value) (H : AH) : pace_Even_k1 x0 x1 x2 x6 H =
  (pMake [(vi 0)] 1 8 x1 x1 H).bind fun r2 =>
  mkS [(0, 1)] [(.slice none 0 0)] [(0, r2.1)] fun v3 =>
  newK (Value.cells v3).toList r2.2 fun v4 H5 =>
  (FF n_pace_slide [x0, x2, (.func (.func n_pace_window_turn) #[v4] #[]), (.func (.func n_pace_window_full) #[v4] #[])] H5).bind fun r6 =>
  some (r6.1, r6.2) :=
  (by kernel_rfl)
theorem pace_Even_k0_eq (x0 x1 x2 x6 : Value) (H : AH) : pace_Even_k0 x0 x1 x2 x6 H =
  lenK x0 fun v8 =>
  (pBin .other .lss v8 x2).bind fun v9 =>
  (gV v9 false x1).bind fun v10 =>
  (gB v9 false (pBin .other .lss v10 (vi 1))).bind fun v11 =>
  (pPick v9 (vb true) v11).bind fun v12 =>
  condK v12
  (some ((vb true), H))
  ((pBin .other .lss x2 (vi 1)).bind fun v13 =>
  (gV v13 false x2).bind fun v14 =>
  (gV v13 false x1).bind fun v15 =>
  (gB v13 false (pBin .other .lss v14 v15)).bind fun v16 =>
  (pPick v13 (vb true) v16).bind fun v17 =>
  condK v17
  (some ((vb false), H))
  (pace_Even_k1 x0 x1 x2 x6 H)) :=
  (pt rfl 0 f18_n1_d (bt rfl (f18_b [1, 0, 4]) 0 f18_x7_d (by kernel_rfl)))
noncomputable def pace_Even (x0 x1 x2 : Value) (H : AH) : OV := cCode PP GG FF (f18_b []) (ls [x0, x1, x2] 33) H f18_r kx0 f18_r
theorem pace_Even_of (x0 x1 x2 : Value) (H : AH) {r : Value × AH} (h : (
  pace_Even_k0 x0 x1 x2 (vb false) H) = some r) : FF n_pace_Even [x0, x1, x2] H = some r :=
  fo (t := pace_Even x0 x1 x2 H) Tryz.func18 (by kernel_rfl) (Eq.trans (pt rfl 0 f18_n0_d (by kernel_rfl)) h)

end Go.Proofs.YtbjelopcelompaaGreatDoor.Gst
