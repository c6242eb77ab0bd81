/- THE FUNCTIONS OF THE PROGRAM AS PLAIN LEAN FUNCTIONS: printed by a program of this work (XPr), each checked by the kernel against the program's text. -/
import Derived.Test.YthagelbepgcolaaGreatDoorKa
namespace Go.Proofs.YthagelbepgcolaaGreatDoor.Gst
open Go Go.RowKit
set_option maxRecDepth 100000
set_option linter.unusedVariables false
set_option maxHeartbeats 1000000
-- FUNCTION l30_ScriptEncode
noncomputable def f3_b (p : List Nat) : Code := Code.sub (bodyOf Tryz.f3) p
noncomputable def f3_r : KK := cFin PP (Tryz.f3).results.toList
noncomputable def f3_n0 : KK := CQ (f3_b [1, 1]) f3_r kx0 f3_r
noncomputable def f3_m0 : KK := clr 72057594037927473 f3_n0
noncomputable def l30_ScriptEncode_k0 (x1 x2 x3 x6 x7 x8 : Value) (H : AH) : OV := f3_n0 (ls [u, x1, x2, x3, u, u, x6, x7, x8] 47) H
noncomputable def f3_n1 : KK := CQ (f3_b [1, 1, 1]) f3_r kx0 f3_r
noncomputable def f3_m1 : KK := clr 72057594037927487 f3_n1
noncomputable def l30_ScriptEncode_k1 (x6 x7 x8 : Value) (H : AH) : OV := f3_n1 (ls [u, u, u, u, u, u, x6, x7, x8] 47) H
theorem f3_r_d : Resp 72057594037927871 f3_r := rf
theorem f3_n0_d : Resp 72057594037927473 f3_n0 := rc f3_r_d kx0_d f3_r_d
theorem f3_n1_d : Resp 72057594037927487 f3_n1 := rc f3_r_d kx0_d f3_r_d
theorem l30_ScriptEncode_k1_eq (x6 x7 x8 : Value) (H : AH) : l30_ScriptEncode_k1 x6 x7 x8 H =
  (pLdN 6 x7 H).bind fun v2 =>
  (FF n_script_Encode [v2, x8] H).bind fun r3 =>
  (pExtract r3.1 0).bind fun v4 =>
  (pExtract r3.1 1).bind fun v5 =>
  (pLdN 6 x7 r3.2).bind fun v6 =>
  (FF n_r30_Encode [v6, x8] r3.2).bind fun r7 =>
  (pExtract r7.1 0).bind fun v8 =>
  (pExtract r7.1 1).bind fun v9 =>
  (FF n_l30_awake [] r7.2).bind fun r10 =>
  (gV r10.1 true v4).bind fun v11 =>
  (gV r10.1 true v8).bind fun v12 =>
  (gE r10.1 true r10.2 (FF n_help_Bytes [v11, v12] r10.2)).bind fun r13 =>
  (pPick r10.1 r13.1 (vb false)).bind fun v14 =>
  (gV v14 true v5).bind fun v15 =>
  (gV v14 true v9).bind fun v16 =>
  (gB v14 true (pBin .other .eql v15 v16)).bind fun v17 =>
  (pPick v14 v17 (vb false)).bind fun v18 =>
  (gV v18 true v5).bind fun v19 =>
  (gB v18 true (pBin .other .eql v19 (vi 0))).bind fun v20 =>
  (gV v18 true v20).bind fun v21 =>
  (gV v21 false v4).bind fun v22 =>
  (onK (yv v21) false (lenK v22 some) (some undef)).bind fun v23 =>
  (gB v21 false (pBin .other .eql v23 (vi 0))).bind fun v24 =>
  (gB v18 true (pPick v21 (vb true) v24)).bind fun v25 =>
  (pPick v18 v25 (vb false)).bind fun v26 =>
  some (v26, r13.2) :=
  (by kernel_rfl)
theorem l30_ScriptEncode_k0_eq (x1 x2 x3 x6 x7 x8 : Value) (H : AH) : l30_ScriptEncode_k0 x1 x2 x3 x6 x7 x8 H =
  (pBin .other .rem x2 (vi 3)).bind fun v27 =>
  (pBin .other .gtr v27 (vi 0)).bind fun v28 =>
  condK v28
  ((pLdN 6 x3 H).bind fun v29 =>
  (FF n_l30_small [v29, x2] H).bind fun r30 =>
  (FF n_l30_steps [x1, x2] r30.2).bind fun r31 =>
  (pSt 6 x7 r30.1 r31.2).bind fun H32 =>
  l30_ScriptEncode_k1 x6 x7 r31.1 H32)
  (l30_ScriptEncode_k1 x6 x7 x8 H) :=
  (pt rfl 0 (f3_n1_d) (by kernel_rfl))
noncomputable def l30_ScriptEncode (x0 x1 x2 : Value) (H : AH) : OV := cCode PP GG FF (f3_b []) (ls [x0, x1, x2] 53) H f3_r kx0 f3_r
theorem l30_ScriptEncode_of (x0 x1 x2 : Value) (H : AH) {r : Value × AH} (h : (
  newK (Value.cells x0).toList H fun v33 H34 =>
  (pLdN 6 v33 H34).bind fun v35 =>
  newK [(vi 0), (vi 0), (vi 0), (vi 0), (vw 0), (.slice none 0 0)] H34 fun v36 H37 =>
  (pSt 6 v36 v35 H37).bind fun H38 =>
  l30_ScriptEncode_k0 x1 x2 v33 (vb false) v36 x1 H38) = some r) : FF n_l30_ScriptEncode [x0, x1, x2] H = some r :=
  fo (t := l30_ScriptEncode x0 x1 x2 H) Tryz.func3 (by kernel_rfl) (Eq.trans (pt rfl 1 (f3_n0_d) (by kernel_rfl)) h)

-- FUNCTION l30_small
noncomputable def f10_b (p : List Nat) : Code := Code.sub (bodyOf Tryz.f10) p
noncomputable def f10_r : KK := cFin PP (Tryz.f10).results.toList
noncomputable def f10_n0 : KK := CQ (f10_b [1, 1, 1]) f10_r kx0 f10_r
noncomputable def f10_m0 : KK := clr 2361183241434822606827 f10_n0
noncomputable def l30_small_k0 (x2 x4 : Value) (H : AH) : OV := f10_n0 (ls [u, u, x2, u, x4] 66) H
noncomputable def f10_n1 : KK := CQ (f10_b [1, 1, 1, 1]) f10_r kx0 f10_r
noncomputable def f10_m1 : KK := clr 2361183241434822606827 f10_n1
noncomputable def l30_small_k1 (x2 x4 : Value) (H : AH) : OV := f10_n1 (ls [u, u, x2, u, x4] 66) H
noncomputable def f10_n5 : KK := CQ (f10_b [1, 1, 1, 0, 1]) f10_m1 kx0 f10_r
noncomputable def f10_m5 : KK := clr 2361183241434822606795 f10_n5
noncomputable def l30_small_k5 (x2 x4 x5 : Value) (H : AH) : OV := f10_n5 (ls [u, u, x2, u, x4, x5] 65) H
noncomputable def f10_x6 : KX := BX 0 f10_m1 kx0
noncomputable def f10_y6 : KX := clx 2361183241434822606827 (f10_x6)
noncomputable def f10_n7 : KK := CLq (f10_b [1, 1, 1, 0, 1, 4, 5]) f10_y6 f10_r
noncomputable def f10_m7 : KK := clr 2361183241434822606795 f10_n7
-- a loop
noncomputable def l30_small_k7 (x2 x4 x5 : Value) (H : AH) : OV := f10_n7 (ls [u, u, x2, u, x4, x5] 65) H
noncomputable def f10_n8 : KK := CQ (f10_b [1, 1, 1, 0, 1, 4, 5, 1]) f10_m7 f10_y6 f10_r
noncomputable def f10_m8 : KK := clr 2361183241434822606795 f10_n8
noncomputable def l30_small_k8 (x2 x4 x5 : Value) (H : AH) : OV := f10_n8 (ls [u, u, x2, u, x4, x5] 65) H
noncomputable def f10_n9 : KK := CQ (f10_b [1, 1, 1, 0, 1, 4, 5, 1, 1]) f10_m7 f10_y6 f10_r
noncomputable def f10_m9 : KK := clr 2361183241434822606795 f10_n9
noncomputable def l30_small_k9 (x2 x4 x5 : Value) (H : AH) : OV := f10_n9 (ls [u, u, x2, u, x4, x5] 65) H
noncomputable def f10_x11 : KX := BX 1 f10_m9 f10_y6
noncomputable def f10_y11 : KX := clx 2361183241434822606795 (f10_x11)
noncomputable def f10_n12 : KK := CQ (f10_b [1, 1, 1, 0, 1, 4, 5, 1, 0, 4, 1]) f10_m9 f10_y11 f10_r
noncomputable def f10_m12 : KK := clr 2361183241434822606731 f10_n12
noncomputable def l30_small_k12 (x2 x4 x5 x6 : Value) (H : AH) : OV := f10_n12 (ls [u, u, x2, u, x4, x5, x6] 64) H
noncomputable def f10_x13 : KX := BX 2 f10_m9 f10_y11
noncomputable def f10_y13 : KX := clx 2361183241434822606795 (f10_x13)
noncomputable def f10_n14 : KK := CLq (f10_b [1, 1, 1, 0, 1, 4, 5, 1, 0, 4, 1, 4, 5]) f10_y13 f10_r
noncomputable def f10_m14 : KK := clr 2361183241434822606731 f10_n14
-- a loop
noncomputable def l30_small_k14 (x2 x4 x5 x6 : Value) (H : AH) : OV := f10_n14 (ls [u, u, x2, u, x4, x5, x6] 64) H
noncomputable def f10_n15 : KK := CQ (f10_b [1, 1, 1, 0, 1, 4, 5, 1, 0, 4, 1, 4, 5, 1]) f10_m14 f10_y13 f10_r
noncomputable def f10_m15 : KK := clr 2361183241434822606731 f10_n15
noncomputable def l30_small_k15 (x2 x4 x5 x6 : Value) (H : AH) : OV := f10_n15 (ls [u, u, x2, u, x4, x5, x6] 64) H
noncomputable def f10_n16 : KK := CQ (f10_b [1, 1, 1, 0, 1, 4, 5, 1, 0, 4, 1, 4, 5, 1, 1]) f10_m14 f10_y13 f10_r
noncomputable def f10_m16 : KK := clr 2361183241434822606731 f10_n16
noncomputable def l30_small_k16 (x2 x4 x5 x6 : Value) (H : AH) : OV := f10_n16 (ls [u, u, x2, u, x4, x5, x6] 64) H
noncomputable def f10_x18 : KX := BX 3 f10_m16 f10_y13
noncomputable def f10_y18 : KX := clx 2361183241434822606731 (f10_x18)
noncomputable def l30_small_e13_2 (x2 x4 x5 : Value) (H : AH) : OV := f10_x13 2 (ls [u, u, x2, u, x4, x5] 65) H
noncomputable def l30_small_e6_0 (x2 x4 : Value) (H : AH) : OV := f10_x6 0 (ls [u, u, x2, u, x4] 66) H
theorem f10_r_d : Resp 2361183241434822606831 f10_r := rf
theorem f10_n0_d : Resp 2361183241434822606827 f10_n0 := rc f10_r_d kx0_d f10_r_d
theorem f10_n1_d : Resp 2361183241434822606827 f10_n1 := rc f10_r_d kx0_d f10_r_d
theorem f10_n5_d : Resp 2361183241434822606795 f10_n5 := rc (cd (f10_n1_d)) kx0_d f10_r_d
theorem f10_x6_d : ∀ i, Resp 2361183241434822606827 (f10_x6 i) := rb (cd (f10_n1_d)) kx0_d
theorem f10_n7_d : Resp 2361183241434822606795 f10_n7 := rl (cx (f10_x6_d)) f10_r_d
theorem f10_n8_d : Resp 2361183241434822606795 f10_n8 := rc (cd (f10_n7_d)) (cx (f10_x6_d)) f10_r_d
theorem f10_n9_d : Resp 2361183241434822606795 f10_n9 := rc (cd (f10_n7_d)) (cx (f10_x6_d)) f10_r_d
theorem f10_x11_d : ∀ i, Resp 2361183241434822606795 (f10_x11 i) := rb (cd (f10_n9_d)) (cx (f10_x6_d))
theorem f10_n12_d : Resp 2361183241434822606731 f10_n12 := rc (cd (f10_n9_d)) (cx (f10_x11_d)) f10_r_d
theorem f10_x13_d : ∀ i, Resp 2361183241434822606795 (f10_x13 i) := rb (cd (f10_n9_d)) (cx (f10_x11_d))
theorem f10_n14_d : Resp 2361183241434822606731 f10_n14 := rl (cx (f10_x13_d)) f10_r_d
theorem f10_n15_d : Resp 2361183241434822606731 f10_n15 := rc (cd (f10_n14_d)) (cx (f10_x13_d)) f10_r_d
theorem f10_n16_d : Resp 2361183241434822606731 f10_n16 := rc (cd (f10_n14_d)) (cx (f10_x13_d)) f10_r_d
theorem f10_x18_d : ∀ i, Resp 2361183241434822606731 (f10_x18 i) := rb (cd (f10_n16_d)) (cx (f10_x13_d))
theorem l30_small_k1_eq (x2 x4 : Value) (H : AH) : l30_small_k1 x2 x4 H =
  (pLdN 6 x2 H).bind fun v2 =>
  (pSt 6 x4 v2 H).bind fun H3 =>
  (pLdN 6 x4 H3).bind fun v4 => some (v4, H3) :=
  (by kernel_rfl)
theorem l30_small_k9_eq (x2 x4 x5 : Value) (H : AH) : l30_small_k9 x2 x4 x5 H =
  (pBin .other .add x5 (vi 1)).bind fun v10 =>
  l30_small_k7 x2 x4 v10 H :=
  (by kernel_rfl)
theorem l30_small_k16_eq (x2 x4 x5 x6 : Value) (H : AH) : l30_small_k16 x2 x4 x5 x6 H =
  (pBin .other .add x6 (vi 1)).bind fun v17 =>
  l30_small_k14 x2 x4 x5 v17 H :=
  (by kernel_rfl)
theorem l30_small_k15_eq (x2 x4 x5 x6 : Value) (H : AH) : l30_small_k15 x2 x4 x5 x6 H =
  ld [.f 5] x2 H fun v19 =>
  ld [.i 1 x5] v19 H fun v20 =>
  ad [.i 4 x6] v20 fun v21 =>
  ld [.n, .f 0] v21 H fun v22 =>
  (FF n_play_Mod [v22, (vi 2147483648)] H).bind fun r23 =>
  ad [.n, .f 1] v21 fun v24 =>
  (pLd1 v24 r23.2).bind fun v25 =>
  eqK (pLd1 v24 H) (pLd1 v24 r23.2) <|
  (FF n_play_Mod [v25, (vi 2147483648)] r23.2).bind fun r26 =>
  ad [.n, .f 2] v21 fun v27 =>
  (pLd1 v27 r26.2).bind fun v28 =>
  eqK (pLd1 v27 H) (pLd1 v27 r26.2) <|
  eqK (pLd1 v27 r23.2) (pLd1 v27 r26.2) <|
  (FF n_play_Mod [v28, (vi 2147483648)] r26.2).bind fun r29 =>
  ad [.n, .f 3] v21 fun v30 =>
  (pLd1 v30 r29.2).bind fun v31 =>
  eqK (pLd1 v30 H) (pLd1 v30 r29.2) <|
  eqK (pLd1 v30 r23.2) (pLd1 v30 r29.2) <|
  eqK (pLd1 v30 r26.2) (pLd1 v30 r29.2) <|
  (FF n_play_Mod [v31, (vi 2147483648)] r29.2).bind fun r32 =>
  st 1 [.n, .f 0] v21 r23.1 r32.2 fun H33 =>
  st 1 [.n, .f 1] v21 r26.1 H33 fun H34 =>
  st 1 [.n, .f 2] v21 r29.1 H34 fun H35 =>
  st 1 [.n, .f 3] v21 r32.1 H35 fun H36 =>
  l30_small_k16 x2 x4 x5 x6 H36 :=
  (pt rfl 0 (f10_n16_d) (bt rfl (f10_b [1, 1, 1, 0, 1, 4, 5, 1, 0, 4, 1, 4, 5, 1, 0, 4]) 3 (f10_x18_d) (by kernel_rfl)))
theorem l30_small_e13_2_eq (x2 x4 x5 : Value) (H : AH) : l30_small_e13_2 x2 x4 x5 H = l30_small_k9 x2 x4 x5 H :=
  (by kernel_rfl)
theorem l30_small_k14_eq (x2 x4 x5 x6 : Value) (H : AH) : l30_small_k14 x2 x4 x5 x6 H =
  ld [.f 5] x2 H fun v37 =>
  ld [.i 1 x5] v37 H fun v38 =>
  lenK v38 fun v39 =>
  (pBin .other .lss x6 v39).bind fun v40 =>
  condK v40
  (l30_small_k15 x2 x4 x5 x6 H)
  (l30_small_e13_2 x2 x4 x5 H) :=
  lt' rfl (f10_n14_d) (pt rfl 0 (f10_n15_d) (by kernel_rfl))
theorem l30_small_k12_eq (x2 x4 x5 x6 : Value) (H : AH) : l30_small_k12 x2 x4 x5 x6 H =
  l30_small_k14 x2 x4 x5 x6 H :=
  (bt rfl (f10_b [1, 1, 1, 0, 1, 4, 5, 1, 0, 4, 1, 4]) 2 (f10_x13_d) (li rfl (f10_b [1, 1, 1, 0, 1, 4, 5, 1, 0, 4, 1, 4, 5]) (f10_n14_d) (by kernel_rfl)))
theorem l30_small_k8_eq (x2 x4 x5 : Value) (H : AH) : l30_small_k8 x2 x4 x5 H =
  l30_small_k12 x2 x4 x5 (vi 0) H :=
  (pt rfl 0 (f10_n9_d) (bt rfl (f10_b [1, 1, 1, 0, 1, 4, 5, 1, 0, 4]) 1 (f10_x11_d) (pt rfl 0 (f10_n12_d) (by kernel_rfl))))
theorem l30_small_e6_0_eq (x2 x4 : Value) (H : AH) : l30_small_e6_0 x2 x4 H = l30_small_k1 x2 x4 H :=
  (by kernel_rfl)
theorem l30_small_k7_eq (x2 x4 x5 : Value) (H : AH) : l30_small_k7 x2 x4 x5 H =
  ld [.f 5] x2 H fun v41 =>
  lenK v41 fun v42 =>
  (pBin .other .lss x5 v42).bind fun v43 =>
  condK v43
  (l30_small_k8 x2 x4 x5 H)
  (l30_small_e6_0 x2 x4 H) :=
  lt' rfl (f10_n7_d) (pt rfl 0 (f10_n8_d) (by kernel_rfl))
theorem l30_small_k5_eq (x2 x4 x5 : Value) (H : AH) : l30_small_k5 x2 x4 x5 H =
  l30_small_k7 x2 x4 x5 H :=
  (bt rfl (f10_b [1, 1, 1, 0, 1, 4]) 0 (f10_x6_d) (li rfl (f10_b [1, 1, 1, 0, 1, 4, 5]) (f10_n7_d) (by kernel_rfl)))
theorem l30_small_k0_eq (x2 x4 : Value) (H : AH) : l30_small_k0 x2 x4 H =
  l30_small_k5 x2 x4 (vi 0) H :=
  (pt rfl 0 (f10_n1_d) (pt rfl 0 (f10_n5_d) (by kernel_rfl)))
noncomputable def l30_small (x0 x1 : Value) (H : AH) : OV := cCode PP GG FF (f10_b []) (ls [x0, x1] 69) H f10_r kx0 f10_r
theorem l30_small_of (x0 x1 : Value) (H : AH) {r : Value × AH} (h : (
  newK (Value.cells x0).toList H fun v44 H45 =>
  newK [(vi 0), (vi 0), (vi 0), (vi 0), (vw 0), (.slice none 0 0)] H45 fun v46 H47 =>
  (pLdN 6 v44 H47).bind fun v48 =>
  (FF n_play_Plan [v48, (vi 5)] H47).bind fun r49 =>
  (pSt 6 v44 r49.1 r49.2).bind fun H50 =>
  (pBin .other .rem x1 (vi 5)).bind fun v51 =>
  (pBin .other .eql v51 (vi 0)).bind fun v52 =>
  condK v52
  ((pLdN 6 v44 H50).bind fun v53 =>
  (pSt 6 v46 v53 H50).bind fun H54 =>
  (pLdN 6 v46 H54).bind fun v55 => some (v55, H54))
  (l30_small_k0 v44 v46 H50)) = some r) : FF n_l30_small [x0, x1] H = some r :=
  fo (t := l30_small x0 x1 H) Tryz.func10 (by kernel_rfl) (Eq.trans (pt rfl 2 (f10_n0_d) (by kernel_rfl)) h)

-- FUNCTION l30_steps
noncomputable def f11_b (p : List Nat) : Code := Code.sub (bodyOf Tryz.f11) p
noncomputable def f11_r : KK := cFin PP (Tryz.f11).results.toList
noncomputable def f11_n0 : KK := CQ (f11_b [1, 1]) f11_r kx0 f11_r
noncomputable def f11_m0 : KK := clr 68719476684 f11_n0
noncomputable def l30_steps_k0 (x0 x1 x4 x5 : Value) (H : AH) : OV := f11_n0 (ls [x0, x1, u, u, x4, x5] 30) H
noncomputable def f11_n1 : KK := CQ (f11_b [1, 1, 1]) f11_r kx0 f11_r
noncomputable def f11_m1 : KK := clr 68719476687 f11_n1
noncomputable def l30_steps_k1 (x4 x5 : Value) (H : AH) : OV := f11_n1 (ls [u, u, u, u, x4, x5] 30) H
noncomputable def f11_n2 : KK := CQ (f11_b [1, 1, 0, 1]) f11_m1 kx0 f11_r
noncomputable def f11_m2 : KK := clr 68719476620 f11_n2
noncomputable def l30_steps_k2 (x0 x1 x4 x5 x6 : Value) (H : AH) : OV := f11_n2 (ls [x0, x1, u, u, x4, x5, x6] 29) H
noncomputable def f11_x3 : KX := BX 0 f11_m1 kx0
noncomputable def f11_y3 : KX := clx 68719476687 (f11_x3)
noncomputable def f11_n4 : KK := CLq (f11_b [1, 1, 0, 1, 4, 5]) f11_y3 f11_r
noncomputable def f11_m4 : KK := clr 68719476620 f11_n4
-- a loop
noncomputable def l30_steps_k4 (x0 x1 x4 x5 x6 : Value) (H : AH) : OV := f11_n4 (ls [x0, x1, u, u, x4, x5, x6] 29) H
noncomputable def f11_n5 : KK := CQ (f11_b [1, 1, 0, 1, 4, 5, 1]) f11_m4 f11_y3 f11_r
noncomputable def f11_m5 : KK := clr 68719476620 f11_n5
noncomputable def l30_steps_k5 (x0 x1 x4 x5 x6 : Value) (H : AH) : OV := f11_n5 (ls [x0, x1, u, u, x4, x5, x6] 29) H
noncomputable def f11_n6 : KK := CQ (f11_b [1, 1, 0, 1, 4, 5, 1, 1]) f11_m4 f11_y3 f11_r
noncomputable def f11_m6 : KK := clr 68719476620 f11_n6
noncomputable def l30_steps_k6 (x0 x1 x4 x5 x6 : Value) (H : AH) : OV := f11_n6 (ls [x0, x1, u, u, x4, x5, x6] 29) H
noncomputable def f11_x8 : KX := BX 1 f11_m6 f11_y3
noncomputable def f11_y8 : KX := clx 68719476620 (f11_x8)
noncomputable def l30_steps_e3_0 (x4 x5 : Value) (H : AH) : OV := f11_x3 0 (ls [u, u, u, u, x4, x5] 30) H
theorem f11_r_d : Resp 68719476719 f11_r := rf
theorem f11_n0_d : Resp 68719476684 f11_n0 := rc f11_r_d kx0_d f11_r_d
theorem f11_n1_d : Resp 68719476687 f11_n1 := rc f11_r_d kx0_d f11_r_d
theorem f11_n2_d : Resp 68719476620 f11_n2 := rc (cd (f11_n1_d)) kx0_d f11_r_d
theorem f11_x3_d : ∀ i, Resp 68719476687 (f11_x3 i) := rb (cd (f11_n1_d)) kx0_d
theorem f11_n4_d : Resp 68719476620 f11_n4 := rl (cx (f11_x3_d)) f11_r_d
theorem f11_n5_d : Resp 68719476620 f11_n5 := rc (cd (f11_n4_d)) (cx (f11_x3_d)) f11_r_d
theorem f11_n6_d : Resp 68719476620 f11_n6 := rc (cd (f11_n4_d)) (cx (f11_x3_d)) f11_r_d
theorem f11_x8_d : ∀ i, Resp 68719476620 (f11_x8 i) := rb (cd (f11_n6_d)) (cx (f11_x3_d))
theorem l30_steps_k1_eq (x4 x5 : Value) (H : AH) : l30_steps_k1 x4 x5 H =
  some (x5, H) :=
  (by kernel_rfl)
theorem l30_steps_k6_eq (x0 x1 x4 x5 x6 : Value) (H : AH) : l30_steps_k6 x0 x1 x4 x5 x6 H =
  (pBin .other .add x6 (vi 1)).bind fun v7 =>
  l30_steps_k4 x0 x1 x4 x5 v7 H :=
  (by kernel_rfl)
theorem l30_steps_k5_eq (x0 x1 x4 x5 x6 : Value) (H : AH) : l30_steps_k5 x0 x1 x4 x5 x6 H =
  (pBin .other .rem x1 (vi 7)).bind fun v9 =>
  (pBin .other .eql v9 (vi 0)).bind fun v10 =>
  condK v10
  (ld [.i 1 x6] x0 H fun v11 =>
  mkR 1 1 [(vi 0)] [(0, v11)] H fun v12 H13 =>
  (pApp 1 8 x5 v12 H13).bind fun r14 =>
  l30_steps_k6 x0 x1 x4 r14.1 x6 r14.2)
  (ld [.i 1 x6] x0 H fun v15 =>
  (FF n_play_Mod [v15, (vi 64)] H).bind fun r16 =>
  mkR 1 1 [(vi 0)] [(0, r16.1)] r16.2 fun v17 H18 =>
  (pApp 1 8 x5 v17 H18).bind fun r19 =>
  l30_steps_k6 x0 x1 x4 r19.1 x6 r19.2) :=
  (pt rfl 0 (f11_n6_d) (bt rfl (f11_b [1, 1, 0, 1, 4, 5, 1, 0, 4]) 1 (f11_x8_d) (by kernel_rfl)))
theorem l30_steps_e3_0_eq (x4 x5 : Value) (H : AH) : l30_steps_e3_0 x4 x5 H = l30_steps_k1 x4 x5 H :=
  (by kernel_rfl)
theorem l30_steps_k4_eq (x0 x1 x4 x5 x6 : Value) (H : AH) : l30_steps_k4 x0 x1 x4 x5 x6 H =
  lenK x0 fun v20 =>
  (pBin .other .lss x6 v20).bind fun v21 =>
  (gV v21 true x6).bind fun v22 =>
  (gB v21 true (pBin .other .lss v22 (vi 60))).bind fun v23 =>
  (pPick v21 v23 (vb false)).bind fun v24 =>
  condK v24
  (l30_steps_k5 x0 x1 x4 x5 x6 H)
  (l30_steps_e3_0 x4 x5 H) :=
  lt' rfl (f11_n4_d) (pt rfl 0 (f11_n5_d) (by kernel_rfl))
theorem l30_steps_k2_eq (x0 x1 x4 x5 x6 : Value) (H : AH) : l30_steps_k2 x0 x1 x4 x5 x6 H =
  l30_steps_k4 x0 x1 x4 x5 x6 H :=
  (bt rfl (f11_b [1, 1, 0, 1, 4]) 0 (f11_x3_d) (li rfl (f11_b [1, 1, 0, 1, 4, 5]) (f11_n4_d) (by kernel_rfl)))
theorem l30_steps_k0_eq (x0 x1 x4 x5 : Value) (H : AH) : l30_steps_k0 x0 x1 x4 x5 H =
  l30_steps_k2 x0 x1 x4 x5 (vi 0) H :=
  (pt rfl 0 (f11_n1_d) (pt rfl 0 (f11_n2_d) (by kernel_rfl)))
noncomputable def l30_steps (x0 x1 : Value) (H : AH) : OV := cCode PP GG FF (f11_b []) (ls [x0, x1] 34) H f11_r kx0 f11_r
theorem l30_steps_of (x0 x1 : Value) (H : AH) {r : Value × AH} (h : (
  l30_steps_k0 x0 x1 (.slice none 0 0) (.slice none 0 0) H) = some r) : FF n_l30_steps [x0, x1] H = some r :=
  fo (t := l30_steps x0 x1 H) Tryz.func11 (by kernel_rfl) (Eq.trans (pt rfl 1 (f11_n0_d) (by kernel_rfl)) h)

-- FUNCTION script_Encode
noncomputable def f12_b (p : List Nat) : Code := Code.sub (bodyOf Tryz.f12) p
noncomputable def f12_r : KK := cFin PP (Tryz.f12).results.toList
noncomputable def f12_n0 : KK := CQ (f12_b [1, 1, 1, 1]) f12_r kx0 f12_r
noncomputable def f12_m0 : KK := clr 158456325028528675187087900425 f12_n0
noncomputable def script_Encode_k0 (x1 x2 x4 x5 x6 x7 : Value) (H : AH) : OV := f12_n0 (ls [u, x1, x2, u, x4, x5, x6, x7] 89) H
noncomputable def f12_n1 : KK := CQ (f12_b [1, 1, 1, 1, 1]) f12_r kx0 f12_r
noncomputable def f12_m1 : KK := clr 158456325028528675187087900425 f12_n1
noncomputable def script_Encode_k1 (x1 x2 x4 x5 x6 x7 : Value) (H : AH) : OV := f12_n1 (ls [u, x1, x2, u, x4, x5, x6, x7] 89) H
noncomputable def f12_n2 : KK := CQ (f12_b [1, 1, 1, 1, 1, 1]) f12_r kx0 f12_r
noncomputable def f12_m2 : KK := clr 158456325028528675187087900489 f12_n2
noncomputable def script_Encode_k2 (x1 x2 x4 x5 x7 : Value) (H : AH) : OV := f12_n2 (ls [u, x1, x2, u, x4, x5, u, x7] 89) H
noncomputable def f12_n3 : KK := CQ (f12_b [1, 1, 1, 1, 1, 1, 1]) f12_r kx0 f12_r
noncomputable def f12_m3 : KK := clr 158456325028528675187087900493 f12_n3
noncomputable def script_Encode_k3 (x1 x4 x5 x7 : Value) (H : AH) : OV := f12_n3 (ls [u, x1, u, u, x4, x5, u, x7] 89) H
noncomputable def f12_n4 : KK := CQ (f12_b [1, 1, 1, 1, 1, 1, 1, 1]) f12_r kx0 f12_r
noncomputable def f12_m4 : KK := clr 158456325028528675187087900493 f12_n4
noncomputable def script_Encode_k4 (x1 x4 x5 x7 : Value) (H : AH) : OV := f12_n4 (ls [u, x1, u, u, x4, x5, u, x7] 89) H
noncomputable def f12_n5 : KK := CQ (f12_b [1, 1, 1, 1, 1, 1, 1, 1, 1]) f12_r kx0 f12_r
noncomputable def f12_m5 : KK := clr 158456325028528675187087900495 f12_n5
noncomputable def script_Encode_k5 (x4 x5 x7 : Value) (H : AH) : OV := f12_n5 (ls [u, u, u, u, x4, x5, u, x7] 89) H
noncomputable def f12_n6 : KK := CQ (f12_b [1, 1, 1, 1, 1, 1, 1, 1, 0, 1]) f12_m5 kx0 f12_r
noncomputable def f12_m6 : KK := clr 158185525644934998251953717071 f12_n6
noncomputable def script_Encode_k6 (x4 x5 x7 x85 x86 x87 : Value) (H : AH) : OV := f12_n6 (ls [u, u, u, u, x4, x5, u, x7, u, u, u, u, u, u, u, u, u, u, u, u, u, u, u, u, u, u, u, u, u, u, u, u, u, u, u, u, u, u, u, u, u, u, u, u, u, u, u, u, u, u, u, u, u, u, u, u, u, u, u, u, u, u, u, u, u, u, u, u, u, u, u, u, u, u, u, u, u, u, u, u, u, u, u, u, u, x85, x86, x87] 9) H
noncomputable def f12_x7 : KX := BX 8 f12_m5 kx0
noncomputable def f12_y7 : KX := clx 158456325028528675187087900495 (f12_x7)
noncomputable def f12_n8 : KK := CLq (f12_b [1, 1, 1, 1, 1, 1, 1, 1, 0, 1, 4, 5]) f12_y7 f12_r
noncomputable def f12_m8 : KK := clr 158185525644934998251953717071 f12_n8
-- a loop
noncomputable def script_Encode_k8 (x4 x5 x7 x85 x86 x87 : Value) (H : AH) : OV := f12_n8 (ls [u, u, u, u, x4, x5, u, x7, u, u, u, u, u, u, u, u, u, u, u, u, u, u, u, u, u, u, u, u, u, u, u, u, u, u, u, u, u, u, u, u, u, u, u, u, u, u, u, u, u, u, u, u, u, u, u, u, u, u, u, u, u, u, u, u, u, u, u, u, u, u, u, u, u, u, u, u, u, u, u, u, u, u, u, u, u, x85, x86, x87] 9) H
noncomputable def f12_n9 : KK := CQ (f12_b [1, 1, 1, 1, 1, 1, 1, 1, 0, 1, 4, 5, 1, 1]) f12_m8 f12_y7 f12_r
noncomputable def f12_m9 : KK := clr 158185525644934998251953717071 f12_n9
noncomputable def script_Encode_k9 (x4 x5 x7 x85 x86 x87 : Value) (H : AH) : OV := f12_n9 (ls [u, u, u, u, x4, x5, u, x7, u, u, u, u, u, u, u, u, u, u, u, u, u, u, u, u, u, u, u, u, u, u, u, u, u, u, u, u, u, u, u, u, u, u, u, u, u, u, u, u, u, u, u, u, u, u, u, u, u, u, u, u, u, u, u, u, u, u, u, u, u, u, u, u, u, u, u, u, u, u, u, u, u, u, u, u, u, x85, x86, x87] 9) H
noncomputable def f12_n10 : KK := CQ (f12_b [1, 1, 1, 1, 1, 1, 1, 1, 0, 1, 4, 5, 1, 1, 1]) f12_m8 f12_y7 f12_r
noncomputable def f12_m10 : KK := clr 158185525644934998251953717071 f12_n10
noncomputable def script_Encode_k10 (x4 x5 x7 x85 x86 x87 : Value) (H : AH) : OV := f12_n10 (ls [u, u, u, u, x4, x5, u, x7, u, u, u, u, u, u, u, u, u, u, u, u, u, u, u, u, u, u, u, u, u, u, u, u, u, u, u, u, u, u, u, u, u, u, u, u, u, u, u, u, u, u, u, u, u, u, u, u, u, u, u, u, u, u, u, u, u, u, u, u, u, u, u, u, u, u, u, u, u, u, u, u, u, u, u, u, u, x85, x86, x87] 9) H
noncomputable def f12_x12 : KX := BX 9 f12_m10 f12_y7
noncomputable def f12_y12 : KX := clx 158185525644934998251953717071 (f12_x12)
noncomputable def script_Encode_e7_8 (x4 x5 x7 : Value) (H : AH) : OV := f12_x7 8 (ls [u, u, u, u, x4, x5, u, x7] 89) H
noncomputable def f12_n21 : KK := CQ (f12_b [1, 1, 1, 1, 1, 1, 0, 1]) f12_m3 kx0 f12_r
noncomputable def f12_m21 : KK := clr 158456325028512912588392103757 f12_n21
noncomputable def script_Encode_k21 (x1 x4 x5 x7 x51 x52 x53 : Value) (H : AH) : OV := f12_n21 (ls [u, x1, u, u, x4, x5, u, x7, u, u, u, u, u, u, u, u, u, u, u, u, u, u, u, u, u, u, u, u, u, u, u, u, u, u, u, u, u, u, u, u, u, u, u, u, u, u, u, u, u, u, u, x51, x52, x53] 43) H
noncomputable def f12_x22 : KX := BX 2 f12_m3 kx0
noncomputable def f12_y22 : KX := clx 158456325028528675187087900493 (f12_x22)
noncomputable def f12_n23 : KK := CLq (f12_b [1, 1, 1, 1, 1, 1, 0, 1, 4, 5]) f12_y22 f12_r
noncomputable def f12_m23 : KK := clr 158456325028512912588392103757 f12_n23
-- a loop
noncomputable def script_Encode_k23 (x1 x4 x5 x7 x51 x52 x53 : Value) (H : AH) : OV := f12_n23 (ls [u, x1, u, u, x4, x5, u, x7, u, u, u, u, u, u, u, u, u, u, u, u, u, u, u, u, u, u, u, u, u, u, u, u, u, u, u, u, u, u, u, u, u, u, u, u, u, u, u, u, u, u, u, x51, x52, x53] 43) H
noncomputable def f12_n24 : KK := CQ (f12_b [1, 1, 1, 1, 1, 1, 0, 1, 4, 5, 1, 1]) f12_m23 f12_y22 f12_r
noncomputable def f12_m24 : KK := clr 158456325028512912588392103757 f12_n24
noncomputable def script_Encode_k24 (x1 x4 x5 x7 x51 x52 x53 : Value) (H : AH) : OV := f12_n24 (ls [u, x1, u, u, x4, x5, u, x7, u, u, u, u, u, u, u, u, u, u, u, u, u, u, u, u, u, u, u, u, u, u, u, u, u, u, u, u, u, u, u, u, u, u, u, u, u, u, u, u, u, u, u, x51, x52, x53] 43) H
noncomputable def f12_n25 : KK := CQ (f12_b [1, 1, 1, 1, 1, 1, 0, 1, 4, 5, 1, 1, 1]) f12_m23 f12_y22 f12_r
noncomputable def f12_m25 : KK := clr 158456325028512912588392103757 f12_n25
noncomputable def script_Encode_k25 (x1 x4 x5 x7 x51 x52 x53 : Value) (H : AH) : OV := f12_n25 (ls [u, x1, u, u, x4, x5, u, x7, u, u, u, u, u, u, u, u, u, u, u, u, u, u, u, u, u, u, u, u, u, u, u, u, u, u, u, u, u, u, u, u, u, u, u, u, u, u, u, u, u, u, u, x51, x52, x53] 43) H
noncomputable def f12_x27 : KX := BX 3 f12_m25 f12_y22
noncomputable def f12_y27 : KX := clx 158456325028512912588392103757 (f12_x27)
noncomputable def f12_n28 : KK := CQ (f12_b [1, 1, 1, 1, 1, 1, 0, 1, 4, 5, 1, 1, 0, 4, 1, 1, 1]) f12_m25 f12_y27 f12_r
noncomputable def f12_m28 : KK := clr 158456324996231110459400388429 f12_n28
noncomputable def script_Encode_k28 (x1 x4 x5 x7 x51 x52 x53 x62 x63 x64 : Value) (H : AH) : OV := f12_n28 (ls [u, x1, u, u, x4, x5, u, x7, u, u, u, u, u, u, u, u, u, u, u, u, u, u, u, u, u, u, u, u, u, u, u, u, u, u, u, u, u, u, u, u, u, u, u, u, u, u, u, u, u, u, u, x51, x52, x53, u, u, u, u, u, u, u, u, x62, x63, x64] 32) H
noncomputable def f12_x29 : KX := BX 4 f12_m25 f12_y27
noncomputable def f12_y29 : KX := clx 158456325028512912588392103757 (f12_x29)
noncomputable def f12_n30 : KK := CLq (f12_b [1, 1, 1, 1, 1, 1, 0, 1, 4, 5, 1, 1, 0, 4, 1, 1, 1, 4, 5]) f12_y29 f12_r
noncomputable def f12_m30 : KK := clr 158456324996231110459400388429 f12_n30
-- a loop
noncomputable def script_Encode_k30 (x1 x4 x5 x7 x51 x52 x53 x62 x63 x64 : Value) (H : AH) : OV := f12_n30 (ls [u, x1, u, u, x4, x5, u, x7, u, u, u, u, u, u, u, u, u, u, u, u, u, u, u, u, u, u, u, u, u, u, u, u, u, u, u, u, u, u, u, u, u, u, u, u, u, u, u, u, u, u, u, x51, x52, x53, u, u, u, u, u, u, u, u, x62, x63, x64] 32) H
noncomputable def f12_n31 : KK := CQ (f12_b [1, 1, 1, 1, 1, 1, 0, 1, 4, 5, 1, 1, 0, 4, 1, 1, 1, 4, 5, 1, 1]) f12_m30 f12_y29 f12_r
noncomputable def f12_m31 : KK := clr 158456324996231110459400388429 f12_n31
noncomputable def script_Encode_k31 (x1 x4 x5 x7 x51 x52 x53 x62 x63 x64 : Value) (H : AH) : OV := f12_n31 (ls [u, x1, u, u, x4, x5, u, x7, u, u, u, u, u, u, u, u, u, u, u, u, u, u, u, u, u, u, u, u, u, u, u, u, u, u, u, u, u, u, u, u, u, u, u, u, u, u, u, u, u, u, u, x51, x52, x53, u, u, u, u, u, u, u, u, x62, x63, x64] 32) H
noncomputable def f12_n32 : KK := CQ (f12_b [1, 1, 1, 1, 1, 1, 0, 1, 4, 5, 1, 1, 0, 4, 1, 1, 1, 4, 5, 1, 1, 1]) f12_m30 f12_y29 f12_r
noncomputable def f12_m32 : KK := clr 158456324996231110459400388429 f12_n32
noncomputable def script_Encode_k32 (x1 x4 x5 x7 x51 x52 x53 x62 x63 x64 : Value) (H : AH) : OV := f12_n32 (ls [u, x1, u, u, x4, x5, u, x7, u, u, u, u, u, u, u, u, u, u, u, u, u, u, u, u, u, u, u, u, u, u, u, u, u, u, u, u, u, u, u, u, u, u, u, u, u, u, u, u, u, u, u, x51, x52, x53, u, u, u, u, u, u, u, u, x62, x63, x64] 32) H
noncomputable def f12_x34 : KX := BX 5 f12_m32 f12_y29
noncomputable def f12_y34 : KX := clx 158456324996231110459400388429 (f12_x34)
noncomputable def f12_n35 : KK := CQ (f12_b [1, 1, 1, 1, 1, 1, 0, 1, 4, 5, 1, 1, 0, 4, 1, 1, 1, 4, 5, 1, 1, 0, 4, 1, 1]) f12_m32 f12_y34 f12_r
noncomputable def f12_m35 : KK := clr 158456323225343679383283433293 f12_n35
noncomputable def script_Encode_k35 (x1 x4 x5 x7 x51 x52 x53 x62 x63 x64 x69 x70 : Value) (H : AH) : OV := f12_n35 (ls [u, x1, u, u, x4, x5, u, x7, u, u, u, u, u, u, u, u, u, u, u, u, u, u, u, u, u, u, u, u, u, u, u, u, u, u, u, u, u, u, u, u, u, u, u, u, u, u, u, u, u, u, u, x51, x52, x53, u, u, u, u, u, u, u, u, x62, x63, x64, u, u, u, u, x69, x70] 26) H
noncomputable def f12_x36 : KX := BX 6 f12_m32 f12_y34
noncomputable def f12_y36 : KX := clx 158456324996231110459400388429 (f12_x36)
noncomputable def f12_n37 : KK := CLq (f12_b [1, 1, 1, 1, 1, 1, 0, 1, 4, 5, 1, 1, 0, 4, 1, 1, 1, 4, 5, 1, 1, 0, 4, 1, 1, 4, 5]) f12_y36 f12_r
noncomputable def f12_m37 : KK := clr 158456323225343679383283433293 f12_n37
-- a loop
noncomputable def script_Encode_k37 (x1 x4 x5 x7 x51 x52 x53 x62 x63 x64 x69 x70 : Value) (H : AH) : OV := f12_n37 (ls [u, x1, u, u, x4, x5, u, x7, u, u, u, u, u, u, u, u, u, u, u, u, u, u, u, u, u, u, u, u, u, u, u, u, u, u, u, u, u, u, u, u, u, u, u, u, u, u, u, u, u, u, u, x51, x52, x53, u, u, u, u, u, u, u, u, x62, x63, x64, u, u, u, u, x69, x70] 26) H
noncomputable def f12_n38 : KK := CQ (f12_b [1, 1, 1, 1, 1, 1, 0, 1, 4, 5, 1, 1, 0, 4, 1, 1, 1, 4, 5, 1, 1, 0, 4, 1, 1, 4, 5, 1, 1]) f12_m37 f12_y36 f12_r
noncomputable def f12_m38 : KK := clr 158456323225343679383283433293 f12_n38
noncomputable def script_Encode_k38 (x1 x4 x5 x7 x51 x52 x53 x62 x63 x64 x69 x70 : Value) (H : AH) : OV := f12_n38 (ls [u, x1, u, u, x4, x5, u, x7, u, u, u, u, u, u, u, u, u, u, u, u, u, u, u, u, u, u, u, u, u, u, u, u, u, u, u, u, u, u, u, u, u, u, u, u, u, u, u, u, u, u, u, x51, x52, x53, u, u, u, u, u, u, u, u, x62, x63, x64, u, u, u, u, x69, x70] 26) H
noncomputable def f12_n39 : KK := CQ (f12_b [1, 1, 1, 1, 1, 1, 0, 1, 4, 5, 1, 1, 0, 4, 1, 1, 1, 4, 5, 1, 1, 0, 4, 1, 1, 4, 5, 1, 1, 1]) f12_m37 f12_y36 f12_r
noncomputable def f12_m39 : KK := clr 158456323225343679383283433293 f12_n39
noncomputable def script_Encode_k39 (x1 x4 x5 x7 x51 x52 x53 x62 x63 x64 x69 x70 : Value) (H : AH) : OV := f12_n39 (ls [u, x1, u, u, x4, x5, u, x7, u, u, u, u, u, u, u, u, u, u, u, u, u, u, u, u, u, u, u, u, u, u, u, u, u, u, u, u, u, u, u, u, u, u, u, u, u, u, u, u, u, u, u, x51, x52, x53, u, u, u, u, u, u, u, u, x62, x63, x64, u, u, u, u, x69, x70] 26) H
noncomputable def f12_x41 : KX := BX 7 f12_m39 f12_y36
noncomputable def f12_y41 : KX := clx 158456323225343679383283433293 (f12_x41)
noncomputable def script_Encode_e36_6 (x1 x4 x5 x7 x51 x52 x53 x62 x63 x64 : Value) (H : AH) : OV := f12_x36 6 (ls [u, x1, u, u, x4, x5, u, x7, u, u, u, u, u, u, u, u, u, u, u, u, u, u, u, u, u, u, u, u, u, u, u, u, u, u, u, u, u, u, u, u, u, u, u, u, u, u, u, u, u, u, u, x51, x52, x53, u, u, u, u, u, u, u, u, x62, x63, x64] 32) H
noncomputable def script_Encode_e29_4 (x1 x4 x5 x7 x51 x52 x53 : Value) (H : AH) : OV := f12_x29 4 (ls [u, x1, u, u, x4, x5, u, x7, u, u, u, u, u, u, u, u, u, u, u, u, u, u, u, u, u, u, u, u, u, u, u, u, u, u, u, u, u, u, u, u, u, u, u, u, u, u, u, u, u, u, u, x51, x52, x53] 43) H
noncomputable def script_Encode_e22_2 (x1 x4 x5 x7 : Value) (H : AH) : OV := f12_x22 2 (ls [u, x1, u, u, x4, x5, u, x7] 89) H
noncomputable def f12_n68 : KK := CQ (f12_b [1, 1, 1, 1, 0, 1]) f12_m1 kx0 f12_r
noncomputable def f12_m68 : KK := clr 158456325028528675174202998537 f12_n68
noncomputable def script_Encode_k68 (x1 x2 x4 x5 x6 x7 x32 x33 : Value) (H : AH) : OV := f12_n68 (ls [u, x1, x2, u, x4, x5, x6, x7, u, u, u, u, u, u, u, u, u, u, u, u, u, u, u, u, u, u, u, u, u, u, u, u, x32, x33] 63) H
noncomputable def f12_x69 : KX := BX 0 f12_m1 kx0
noncomputable def f12_y69 : KX := clx 158456325028528675187087900425 (f12_x69)
noncomputable def f12_n70 : KK := CLq (f12_b [1, 1, 1, 1, 0, 1, 4, 5]) f12_y69 f12_r
noncomputable def f12_m70 : KK := clr 158456325028528675174202998537 f12_n70
-- a loop
noncomputable def script_Encode_k70 (x1 x2 x4 x5 x6 x7 x32 x33 : Value) (H : AH) : OV := f12_n70 (ls [u, x1, x2, u, x4, x5, x6, x7, u, u, u, u, u, u, u, u, u, u, u, u, u, u, u, u, u, u, u, u, u, u, u, u, x32, x33] 63) H
noncomputable def f12_n71 : KK := CQ (f12_b [1, 1, 1, 1, 0, 1, 4, 5, 1, 1]) f12_m70 f12_y69 f12_r
noncomputable def f12_m71 : KK := clr 158456325028528675174202998537 f12_n71
noncomputable def script_Encode_k71 (x1 x2 x4 x5 x6 x7 x32 x33 : Value) (H : AH) : OV := f12_n71 (ls [u, x1, x2, u, x4, x5, x6, x7, u, u, u, u, u, u, u, u, u, u, u, u, u, u, u, u, u, u, u, u, u, u, u, u, x32, x33] 63) H
noncomputable def f12_n72 : KK := CQ (f12_b [1, 1, 1, 1, 0, 1, 4, 5, 1, 1, 1]) f12_m70 f12_y69 f12_r
noncomputable def f12_m72 : KK := clr 158456325028528675174202998537 f12_n72
noncomputable def script_Encode_k72 (x1 x2 x4 x5 x6 x7 x32 x33 : Value) (H : AH) : OV := f12_n72 (ls [u, x1, x2, u, x4, x5, x6, x7, u, u, u, u, u, u, u, u, u, u, u, u, u, u, u, u, u, u, u, u, u, u, u, u, x32, x33] 63) H
noncomputable def f12_x74 : KX := BX 1 f12_m72 f12_y69
noncomputable def f12_y74 : KX := clx 158456325028528675174202998537 (f12_x74)
noncomputable def script_Encode_e69_0 (x1 x2 x4 x5 x6 x7 : Value) (H : AH) : OV := f12_x69 0 (ls [u, x1, x2, u, x4, x5, x6, x7] 89) H
theorem f12_r_d : Resp 158456325028528675187087900623 f12_r := rf
theorem f12_n0_d : Resp 158456325028528675187087900425 f12_n0 := rc f12_r_d kx0_d f12_r_d
theorem f12_n1_d : Resp 158456325028528675187087900425 f12_n1 := rc f12_r_d kx0_d f12_r_d
theorem f12_n2_d : Resp 158456325028528675187087900489 f12_n2 := rc f12_r_d kx0_d f12_r_d
theorem f12_n3_d : Resp 158456325028528675187087900493 f12_n3 := rc f12_r_d kx0_d f12_r_d
theorem f12_n4_d : Resp 158456325028528675187087900493 f12_n4 := rc f12_r_d kx0_d f12_r_d
theorem f12_n5_d : Resp 158456325028528675187087900495 f12_n5 := rc f12_r_d kx0_d f12_r_d
theorem f12_n6_d : Resp 158185525644934998251953717071 f12_n6 := rc (cd (f12_n5_d)) kx0_d f12_r_d
theorem f12_x7_d : ∀ i, Resp 158456325028528675187087900495 (f12_x7 i) := rb (cd (f12_n5_d)) kx0_d
theorem f12_n8_d : Resp 158185525644934998251953717071 f12_n8 := rl (cx (f12_x7_d)) f12_r_d
theorem f12_n9_d : Resp 158185525644934998251953717071 f12_n9 := rc (cd (f12_n8_d)) (cx (f12_x7_d)) f12_r_d
theorem f12_n10_d : Resp 158185525644934998251953717071 f12_n10 := rc (cd (f12_n8_d)) (cx (f12_x7_d)) f12_r_d
theorem f12_x12_d : ∀ i, Resp 158185525644934998251953717071 (f12_x12 i) := rb (cd (f12_n10_d)) (cx (f12_x7_d))
theorem f12_n21_d : Resp 158456325028512912588392103757 f12_n21 := rc (cd (f12_n3_d)) kx0_d f12_r_d
theorem f12_x22_d : ∀ i, Resp 158456325028528675187087900493 (f12_x22 i) := rb (cd (f12_n3_d)) kx0_d
theorem f12_n23_d : Resp 158456325028512912588392103757 f12_n23 := rl (cx (f12_x22_d)) f12_r_d
theorem f12_n24_d : Resp 158456325028512912588392103757 f12_n24 := rc (cd (f12_n23_d)) (cx (f12_x22_d)) f12_r_d
theorem f12_n25_d : Resp 158456325028512912588392103757 f12_n25 := rc (cd (f12_n23_d)) (cx (f12_x22_d)) f12_r_d
theorem f12_x27_d : ∀ i, Resp 158456325028512912588392103757 (f12_x27 i) := rb (cd (f12_n25_d)) (cx (f12_x22_d))
theorem f12_n28_d : Resp 158456324996231110459400388429 f12_n28 := rc (cd (f12_n25_d)) (cx (f12_x27_d)) f12_r_d
theorem f12_x29_d : ∀ i, Resp 158456325028512912588392103757 (f12_x29 i) := rb (cd (f12_n25_d)) (cx (f12_x27_d))
theorem f12_n30_d : Resp 158456324996231110459400388429 f12_n30 := rl (cx (f12_x29_d)) f12_r_d
theorem f12_n31_d : Resp 158456324996231110459400388429 f12_n31 := rc (cd (f12_n30_d)) (cx (f12_x29_d)) f12_r_d
theorem f12_n32_d : Resp 158456324996231110459400388429 f12_n32 := rc (cd (f12_n30_d)) (cx (f12_x29_d)) f12_r_d
theorem f12_x34_d : ∀ i, Resp 158456324996231110459400388429 (f12_x34 i) := rb (cd (f12_n32_d)) (cx (f12_x29_d))
theorem f12_n35_d : Resp 158456323225343679383283433293 f12_n35 := rc (cd (f12_n32_d)) (cx (f12_x34_d)) f12_r_d
theorem f12_x36_d : ∀ i, Resp 158456324996231110459400388429 (f12_x36 i) := rb (cd (f12_n32_d)) (cx (f12_x34_d))
theorem f12_n37_d : Resp 158456323225343679383283433293 f12_n37 := rl (cx (f12_x36_d)) f12_r_d
theorem f12_n38_d : Resp 158456323225343679383283433293 f12_n38 := rc (cd (f12_n37_d)) (cx (f12_x36_d)) f12_r_d
theorem f12_n39_d : Resp 158456323225343679383283433293 f12_n39 := rc (cd (f12_n37_d)) (cx (f12_x36_d)) f12_r_d
theorem f12_x41_d : ∀ i, Resp 158456323225343679383283433293 (f12_x41 i) := rb (cd (f12_n39_d)) (cx (f12_x36_d))
theorem f12_n68_d : Resp 158456325028528675174202998537 f12_n68 := rc (cd (f12_n1_d)) kx0_d f12_r_d
theorem f12_x69_d : ∀ i, Resp 158456325028528675187087900425 (f12_x69 i) := rb (cd (f12_n1_d)) kx0_d
theorem f12_n70_d : Resp 158456325028528675174202998537 f12_n70 := rl (cx (f12_x69_d)) f12_r_d
theorem f12_n71_d : Resp 158456325028528675174202998537 f12_n71 := rc (cd (f12_n70_d)) (cx (f12_x69_d)) f12_r_d
theorem f12_n72_d : Resp 158456325028528675174202998537 f12_n72 := rc (cd (f12_n70_d)) (cx (f12_x69_d)) f12_r_d
theorem f12_x74_d : ∀ i, Resp 158456325028528675174202998537 (f12_x74 i) := rb (cd (f12_n72_d)) (cx (f12_x69_d))
theorem script_Encode_k5_eq (x4 x5 x7 : Value) (H : AH) : script_Encode_k5 x4 x5 x7 H =
  some (Value.tuple #[x7, (vi 0)], H) :=
  (by kernel_rfl)
theorem script_Encode_k10_eq (x4 x5 x7 x85 x86 x87 : Value) (H : AH) : script_Encode_k10 x4 x5 x7 x85 x86 x87 H =
  (pBin .other .add x87 (vi 1)).bind fun v11 =>
  script_Encode_k8 x4 x5 x7 x85 x86 v11 H :=
  (by kernel_rfl)
theorem script_Encode_k9_eq (x4 x5 x7 x85 x86 x87 : Value) (H : AH) : script_Encode_k9 x4 x5 x7 x85 x86 x87 H =
  ld [.i 1 x87] x85 H fun v13 =>
  (pConv (some .u64) v13).bind fun v14 =>
  (FF n_script_put [x7, v14] H).bind fun r15 =>
  script_Encode_k10 x4 x5 r15.1 x85 x86 x87 r15.2 :=
  (pt rfl 0 (f12_n10_d) (bt rfl (f12_b [1, 1, 1, 1, 1, 1, 1, 1, 0, 1, 4, 5, 1, 1, 0, 4]) 9 (f12_x12_d) (by kernel_rfl)))
theorem script_Encode_e7_8_eq (x4 x5 x7 : Value) (H : AH) : script_Encode_e7_8 x4 x5 x7 H = script_Encode_k5 x4 x5 x7 H :=
  (by kernel_rfl)
theorem script_Encode_k8_eq (x4 x5 x7 x85 x86 x87 : Value) (H : AH) : script_Encode_k8 x4 x5 x7 x85 x86 x87 H =
  (pBin .other .lss x87 x86).bind fun v16 =>
  condK v16
  (script_Encode_k9 x4 x5 x7 x85 x86 x87 H)
  (script_Encode_e7_8 x4 x5 x7 H) :=
  lt' rfl (f12_n8_d) (pt rfl 1 (f12_n9_d) (by kernel_rfl))
theorem script_Encode_k6_eq (x4 x5 x7 x85 x86 x87 : Value) (H : AH) : script_Encode_k6 x4 x5 x7 x85 x86 x87 H =
  script_Encode_k8 x4 x5 x7 x85 x86 x87 H :=
  (bt rfl (f12_b [1, 1, 1, 1, 1, 1, 1, 1, 0, 1, 4]) 8 (f12_x7_d) (li rfl (f12_b [1, 1, 1, 1, 1, 1, 1, 1, 0, 1, 4, 5]) (f12_n8_d) (by kernel_rfl)))
theorem script_Encode_k4_eq (x1 x4 x5 x7 : Value) (H : AH) : script_Encode_k4 x1 x4 x5 x7 H =
  lenK x1 fun v17 =>
  script_Encode_k6 x4 x5 x7 x1 v17 (vi 0) H :=
  (pt rfl 0 (f12_n5_d) (pt rfl 0 (f12_n6_d) (by kernel_rfl)))
theorem script_Encode_k3_eq (x1 x4 x5 x7 : Value) (H : AH) : script_Encode_k3 x1 x4 x5 x7 H =
  lenK x1 fun v18 =>
  (pConv (some .u64) v18).bind fun v19 =>
  (FF n_script_put [x7, v19] H).bind fun r20 =>
  script_Encode_k4 x1 x4 x5 r20.1 r20.2 :=
  (pt rfl 0 (f12_n4_d) (by kernel_rfl))
theorem script_Encode_k25_eq (x1 x4 x5 x7 x51 x52 x53 : Value) (H : AH) : script_Encode_k25 x1 x4 x5 x7 x51 x52 x53 H =
  (pBin .other .add x53 (vi 1)).bind fun v26 =>
  script_Encode_k23 x1 x4 x5 x7 x51 x52 v26 H :=
  (by kernel_rfl)
theorem script_Encode_k32_eq (x1 x4 x5 x7 x51 x52 x53 x62 x63 x64 : Value) (H : AH) : script_Encode_k32 x1 x4 x5 x7 x51 x52 x53 x62 x63 x64 H =
  (pBin .other .add x64 (vi 1)).bind fun v33 =>
  script_Encode_k30 x1 x4 x5 x7 x51 x52 x53 x62 x63 v33 H :=
  (by kernel_rfl)
theorem script_Encode_k39_eq (x1 x4 x5 x7 x51 x52 x53 x62 x63 x64 x69 x70 : Value) (H : AH) : script_Encode_k39 x1 x4 x5 x7 x51 x52 x53 x62 x63 x64 x69 x70 H =
  (pBin .other .add x70 (vi 1)).bind fun v40 =>
  script_Encode_k37 x1 x4 x5 x7 x51 x52 x53 x62 x63 x64 x69 v40 H :=
  (by kernel_rfl)
theorem script_Encode_k38_eq (x1 x4 x5 x7 x51 x52 x53 x62 x63 x64 x69 x70 : Value) (H : AH) : script_Encode_k38 x1 x4 x5 x7 x51 x52 x53 x62 x63 x64 x69 x70 H =
  (pIndexV 4 none 1 x69 x70).bind fun v42 =>
  (pConv (some .u64) v42).bind fun v43 =>
  (FF n_script_put [x7, v43] H).bind fun r44 =>
  script_Encode_k39 x1 x4 x5 r44.1 x51 x52 x53 x62 x63 x64 x69 x70 r44.2 :=
  (pt rfl 0 (f12_n39_d) (bt rfl (f12_b [1, 1, 1, 1, 1, 1, 0, 1, 4, 5, 1, 1, 0, 4, 1, 1, 1, 4, 5, 1, 1, 0, 4, 1, 1, 4, 5, 1, 1, 0, 4]) 7 (f12_x41_d) (by kernel_rfl)))
theorem script_Encode_e36_6_eq (x1 x4 x5 x7 x51 x52 x53 x62 x63 x64 : Value) (H : AH) : script_Encode_e36_6 x1 x4 x5 x7 x51 x52 x53 x62 x63 x64 H = script_Encode_k32 x1 x4 x5 x7 x51 x52 x53 x62 x63 x64 H :=
  (by kernel_rfl)
theorem script_Encode_k37_eq (x1 x4 x5 x7 x51 x52 x53 x62 x63 x64 x69 x70 : Value) (H : AH) : script_Encode_k37 x1 x4 x5 x7 x51 x52 x53 x62 x63 x64 x69 x70 H =
  (pBin .other .lss x70 (vi 4)).bind fun v45 =>
  condK v45
  (script_Encode_k38 x1 x4 x5 x7 x51 x52 x53 x62 x63 x64 x69 x70 H)
  (script_Encode_e36_6 x1 x4 x5 x7 x51 x52 x53 x62 x63 x64 H) :=
  lt' rfl (f12_n37_d) (pt rfl 1 (f12_n38_d) (by kernel_rfl))
theorem script_Encode_k35_eq (x1 x4 x5 x7 x51 x52 x53 x62 x63 x64 x69 x70 : Value) (H : AH) : script_Encode_k35 x1 x4 x5 x7 x51 x52 x53 x62 x63 x64 x69 x70 H =
  script_Encode_k37 x1 x4 x5 x7 x51 x52 x53 x62 x63 x64 x69 x70 H :=
  (bt rfl (f12_b [1, 1, 1, 1, 1, 1, 0, 1, 4, 5, 1, 1, 0, 4, 1, 1, 1, 4, 5, 1, 1, 0, 4, 1, 1, 4]) 6 (f12_x36_d) (li rfl (f12_b [1, 1, 1, 1, 1, 1, 0, 1, 4, 5, 1, 1, 0, 4, 1, 1, 1, 4, 5, 1, 1, 0, 4, 1, 1, 4, 5]) (f12_n37_d) (by kernel_rfl)))
theorem script_Encode_k31_eq (x1 x4 x5 x7 x51 x52 x53 x62 x63 x64 : Value) (H : AH) : script_Encode_k31 x1 x4 x5 x7 x51 x52 x53 x62 x63 x64 H =
  ldN 4 [.i 4 x64] x62 H fun v46 =>
  newK [(vi 0), (vi 0), (vi 0), (vi 0)] H fun v47 H48 =>
  (pSt 4 v47 v46 H48).bind fun H49 =>
  (pLdN 4 v47 H49).bind fun v50 =>
  (FF n_script_numbers [v50] H49).bind fun r51 =>
  script_Encode_k35 x1 x4 x5 x7 x51 x52 x53 x62 x63 x64 r51.1 (vi 0) r51.2 :=
  (pt rfl 0 (f12_n32_d) (bt rfl (f12_b [1, 1, 1, 1, 1, 1, 0, 1, 4, 5, 1, 1, 0, 4, 1, 1, 1, 4, 5, 1, 1, 0, 4]) 5 (f12_x34_d) (pt rfl 1 (f12_n35_d) (by kernel_rfl))))
theorem script_Encode_e29_4_eq (x1 x4 x5 x7 x51 x52 x53 : Value) (H : AH) : script_Encode_e29_4 x1 x4 x5 x7 x51 x52 x53 H = script_Encode_k25 x1 x4 x5 x7 x51 x52 x53 H :=
  (by kernel_rfl)
theorem script_Encode_k30_eq (x1 x4 x5 x7 x51 x52 x53 x62 x63 x64 : Value) (H : AH) : script_Encode_k30 x1 x4 x5 x7 x51 x52 x53 x62 x63 x64 H =
  (pBin .other .lss x64 x63).bind fun v52 =>
  condK v52
  (script_Encode_k31 x1 x4 x5 x7 x51 x52 x53 x62 x63 x64 H)
  (script_Encode_e29_4 x1 x4 x5 x7 x51 x52 x53 H) :=
  lt' rfl (f12_n30_d) (pt rfl 1 (f12_n31_d) (by kernel_rfl))
theorem script_Encode_k28_eq (x1 x4 x5 x7 x51 x52 x53 x62 x63 x64 : Value) (H : AH) : script_Encode_k28 x1 x4 x5 x7 x51 x52 x53 x62 x63 x64 H =
  script_Encode_k30 x1 x4 x5 x7 x51 x52 x53 x62 x63 x64 H :=
  (bt rfl (f12_b [1, 1, 1, 1, 1, 1, 0, 1, 4, 5, 1, 1, 0, 4, 1, 1, 1, 4]) 4 (f12_x29_d) (li rfl (f12_b [1, 1, 1, 1, 1, 1, 0, 1, 4, 5, 1, 1, 0, 4, 1, 1, 1, 4, 5]) (f12_n30_d) (by kernel_rfl)))
theorem script_Encode_k24_eq (x1 x4 x5 x7 x51 x52 x53 : Value) (H : AH) : script_Encode_k24 x1 x4 x5 x7 x51 x52 x53 H =
  ld [.i 1 x53] x51 H fun v53 =>
  lenK v53 fun v54 =>
  (pConv (some .u64) v54).bind fun v55 =>
  (FF n_script_put [x7, v55] H).bind fun r56 =>
  lenK v53 fun v57 =>
  script_Encode_k28 x1 x4 x5 r56.1 x51 x52 x53 v53 v57 (vi 0) r56.2 :=
  (pt rfl 0 (f12_n25_d) (bt rfl (f12_b [1, 1, 1, 1, 1, 1, 0, 1, 4, 5, 1, 1, 0, 4]) 3 (f12_x27_d) (pt rfl 2 (f12_n28_d) (by kernel_rfl))))
theorem script_Encode_e22_2_eq (x1 x4 x5 x7 : Value) (H : AH) : script_Encode_e22_2 x1 x4 x5 x7 H = script_Encode_k3 x1 x4 x5 x7 H :=
  (by kernel_rfl)
theorem script_Encode_k23_eq (x1 x4 x5 x7 x51 x52 x53 : Value) (H : AH) : script_Encode_k23 x1 x4 x5 x7 x51 x52 x53 H =
  (pBin .other .lss x53 x52).bind fun v58 =>
  condK v58
  (script_Encode_k24 x1 x4 x5 x7 x51 x52 x53 H)
  (script_Encode_e22_2 x1 x4 x5 x7 H) :=
  lt' rfl (f12_n23_d) (pt rfl 1 (f12_n24_d) (by kernel_rfl))
theorem script_Encode_k21_eq (x1 x4 x5 x7 x51 x52 x53 : Value) (H : AH) : script_Encode_k21 x1 x4 x5 x7 x51 x52 x53 H =
  script_Encode_k23 x1 x4 x5 x7 x51 x52 x53 H :=
  (bt rfl (f12_b [1, 1, 1, 1, 1, 1, 0, 1, 4]) 2 (f12_x22_d) (li rfl (f12_b [1, 1, 1, 1, 1, 1, 0, 1, 4, 5]) (f12_n23_d) (by kernel_rfl)))
theorem script_Encode_k2_eq (x1 x2 x4 x5 x7 : Value) (H : AH) : script_Encode_k2 x1 x2 x4 x5 x7 H =
  ld [.f 5] x2 H fun v59 =>
  lenK v59 fun v60 =>
  script_Encode_k21 x1 x4 x5 x7 v59 v60 (vi 0) H :=
  (pt rfl 0 (f12_n3_d) (pt rfl 0 (f12_n21_d) (by kernel_rfl)))
theorem script_Encode_k1_eq (x1 x2 x4 x5 x6 x7 : Value) (H : AH) : script_Encode_k1 x1 x2 x4 x5 x6 x7 H =
  ld [.f 4] x6 H fun v61 =>
  (FF n_script_put [x7, v61] H).bind fun r62 =>
  ad [.f 5] x2 fun v63 =>
  (pLd1 v63 r62.2).bind fun v64 =>
  eqK (pLd1 v63 H) (pLd1 v63 r62.2) <|
  lenK v64 fun v65 =>
  eqK (lenR v64) (lenR v64) <|
  (pConv (some .u64) v65).bind fun v66 =>
  (FF n_script_put [r62.1, v66] r62.2).bind fun r67 =>
  script_Encode_k2 x1 x2 x4 x5 r67.1 r67.2 :=
  (pt rfl 0 (f12_n2_d) (by kernel_rfl))
theorem script_Encode_k72_eq (x1 x2 x4 x5 x6 x7 x32 x33 : Value) (H : AH) : script_Encode_k72 x1 x2 x4 x5 x6 x7 x32 x33 H =
  (pBin .other .add x33 (vi 1)).bind fun v73 =>
  script_Encode_k70 x1 x2 x4 x5 x6 x7 x32 v73 H :=
  (by kernel_rfl)
theorem script_Encode_k71_eq (x1 x2 x4 x5 x6 x7 x32 x33 : Value) (H : AH) : script_Encode_k71 x1 x2 x4 x5 x6 x7 x32 x33 H =
  (pIndexV 4 none 1 x32 x33).bind fun v75 =>
  (pConv (some .u64) v75).bind fun v76 =>
  (FF n_script_put [x7, v76] H).bind fun r77 =>
  script_Encode_k72 x1 x2 x4 x5 x6 r77.1 x32 x33 r77.2 :=
  (pt rfl 0 (f12_n72_d) (bt rfl (f12_b [1, 1, 1, 1, 0, 1, 4, 5, 1, 1, 0, 4]) 1 (f12_x74_d) (by kernel_rfl)))
theorem script_Encode_e69_0_eq (x1 x2 x4 x5 x6 x7 : Value) (H : AH) : script_Encode_e69_0 x1 x2 x4 x5 x6 x7 H = script_Encode_k1 x1 x2 x4 x5 x6 x7 H :=
  (by kernel_rfl)
theorem script_Encode_k70_eq (x1 x2 x4 x5 x6 x7 x32 x33 : Value) (H : AH) : script_Encode_k70 x1 x2 x4 x5 x6 x7 x32 x33 H =
  (pBin .other .lss x33 (vi 4)).bind fun v78 =>
  condK v78
  (script_Encode_k71 x1 x2 x4 x5 x6 x7 x32 x33 H)
  (script_Encode_e69_0 x1 x2 x4 x5 x6 x7 H) :=
  lt' rfl (f12_n70_d) (pt rfl 1 (f12_n71_d) (by kernel_rfl))
theorem script_Encode_k68_eq (x1 x2 x4 x5 x6 x7 x32 x33 : Value) (H : AH) : script_Encode_k68 x1 x2 x4 x5 x6 x7 x32 x33 H =
  script_Encode_k70 x1 x2 x4 x5 x6 x7 x32 x33 H :=
  (bt rfl (f12_b [1, 1, 1, 1, 0, 1, 4]) 0 (f12_x69_d) (li rfl (f12_b [1, 1, 1, 1, 0, 1, 4, 5]) (f12_n70_d) (by kernel_rfl)))
theorem script_Encode_k0_eq (x1 x2 x4 x5 x6 x7 : Value) (H : AH) : script_Encode_k0 x1 x2 x4 x5 x6 x7 H =
  ld [.f 0] x6 H fun v79 =>
  ld [.f 1] x6 H fun v80 =>
  ld [.f 2] x6 H fun v81 =>
  ld [.f 3] x6 H fun v82 =>
  mkA 1 [(vi 0), (vi 0), (vi 0), (vi 0)] [(0, v79), (1, v80), (2, v81), (3, v82)] fun v83 =>
  script_Encode_k68 x1 x2 x4 x5 x6 x7 v83 (vi 0) H :=
  (pt rfl 0 (f12_n1_d) (pt rfl 0 (f12_n68_d) (by kernel_rfl)))
noncomputable def script_Encode (x0 x1 : Value) (H : AH) : OV := cCode PP GG FF (f12_b []) (ls [x0, x1] 95) H f12_r kx0 f12_r
theorem script_Encode_of (x0 x1 : Value) (H : AH) {r : Value × AH} (h : (
  newK (Value.cells x0).toList H fun v84 H85 =>
  (pLdN 6 v84 H85).bind fun v86 =>
  (FF n_script_may [v86, x1] H85).bind fun r87 =>
  (pUn .not r87.1).bind fun v88 =>
  condK v88
  (some (Value.tuple #[(.slice none 0 0), (vi 1)], r87.2))
  (ldN 5 [.f 0] v84 r87.2 fun v89 =>
  newK [(vi 0), (vi 0), (vi 0), (vi 0), (vw 0)] r87.2 fun v90 H91 =>
  (pSt 5 v90 v89 H91).bind fun H92 =>
  script_Encode_k0 x1 v84 (.slice none 0 0) (vi 0) v90 (.slice none 0 0) H92)) = some r) : FF n_script_Encode [x0, x1] H = some r :=
  fo (t := script_Encode x0 x1 H) Tryz.func12 (by kernel_rfl) (Eq.trans (pt rfl 3 (f12_n0_d) (by kernel_rfl)) h)

end Go.Proofs.YthagelbepgcolaaGreatDoor.Gst
