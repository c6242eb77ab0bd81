/- THE FUNCTIONS OF THE PROGRAM AS PLAIN LEAN FUNCTIONS: printed by a program of this work (XPr), each checked by the kernel against the program's text. -/
import Derived.Test.YthagelbepgcolaaGreatDoorKa
namespace Go.Proofs.YthagelbepgcolaaGreatDoor.Gst
open Go Go.RowKit
set_option maxRecDepth 100000
set_option linter.unusedVariables false
set_option maxHeartbeats 1000000
-- FUNCTION internal_strconv_FormatInt
noncomputable def f78_b (p : List Nat) : Code := Code.sub (bodyOf Tryz.f78) p
noncomputable def f78_r : KK := dFin PP (Tryz.f78).results.toList
noncomputable def f78_n0 : KK := DQ (f78_b [1]) f78_r kx0 f78_r dPan
noncomputable def f78_m0 : KK := clr 18014398509481964 (f78_n0)
noncomputable def internal_strconv_FormatInt_k0 (x0 x1 x4 : Value) (H : AH) : OV := f78_n0 (ls [x0, x1, u, u, x4] 49) H
noncomputable def f78_n1 : KK := DQ (f78_b [1, 1]) f78_r kx0 f78_r dPan
noncomputable def f78_m1 : KK := clr 18014398509481964 (f78_n1)
noncomputable def internal_strconv_FormatInt_k1 (x0 x1 x4 : Value) (H : AH) : OV := f78_n1 (ls [x0, x1, u, u, x4] 49) H
noncomputable def f78_n9 : KK := DQ (f78_b [1, 0, 1]) (f78_m1) kx0 f78_r dPan
noncomputable def f78_m9 : KK := clr 18014398509479916 (f78_n9)
noncomputable def internal_strconv_FormatInt_k9 (x0 x1 x4 x11 : Value) (H : AH) : OV := f78_n9 (ls [x0, x1, u, u, x4, u, u, u, u, u, u, x11] 42) H
noncomputable def f78_n10 : KK := DQ (f78_b [1, 0, 1, 2, 1, 1, 1]) (f78_m1) kx0 f78_r dPan
noncomputable def f78_m10 : KK := clr 18014398509481870 (f78_n10)
noncomputable def internal_strconv_FormatInt_k10 (x0 x4 x5 x6 : Value) (H : AH) : OV := f78_n10 (ls [x0, u, u, u, x4, x5, x6] 47) H
noncomputable def f78_n11 : KK := DQ (f78_b [1, 0, 1, 2, 1, 1, 1, 1]) (f78_m1) kx0 f78_r dPan
noncomputable def f78_m11 : KK := clr 18014398509481870 (f78_n11)
noncomputable def internal_strconv_FormatInt_k11 (x0 x4 x5 x6 : Value) (H : AH) : OV := f78_n11 (ls [x0, u, u, u, x4, x5, x6] 47) H
theorem f78_r_d : Resp 18014398509481967 f78_r := rfB
theorem f78_n0_d : Resp 18014398509481964 (f78_n0) := rcB f78_r_d kx0_d f78_r_d (Dp := fullD) resp_pan
theorem f78_n1_d : Resp 18014398509481964 (f78_n1) := rcB f78_r_d kx0_d f78_r_d (Dp := fullD) resp_pan
theorem f78_n9_d : Resp 18014398509479916 (f78_n9) := rcB (cd (f78_n1_d)) kx0_d f78_r_d (Dp := fullD) resp_pan
theorem f78_n10_d : Resp 18014398509481870 (f78_n10) := rcB (cd (f78_n1_d)) kx0_d f78_r_d (Dp := fullD) resp_pan
theorem f78_n11_d : Resp 18014398509481870 (f78_n11) := rcB (cd (f78_n1_d)) kx0_d f78_r_d (Dp := fullD) resp_pan
theorem internal_strconv_FormatInt_k1_eq (x0 x1 x4 : Value) (H : AH) : internal_strconv_FormatInt_k1 x0 x1 x4 H =
  (pConv (some .u64) x0).bind fun v2 =>
  (pBin .other .lss x0 (vi 0)).bind fun v3 =>
  (FB n_internal_strconv_formatBits [(.slice none 0 0), v2, x1, v3, (vb false)] H).bind fun r4 =>
  outK r4.1 (fun v5 =>
  (pExtract v5 0).bind fun v7 =>
  (pExtract v5 1).bind fun v8 =>
  some (Value.iface 1 v8, r4.2)) (fun p6 =>
  some (Value.iface 0 p6, r4.2)) :=
  (by kernel_rfl)
theorem internal_strconv_FormatInt_k11_eq (x0 x4 x5 x6 : Value) (H : AH) : internal_strconv_FormatInt_k11 x0 x4 x5 x6 H =
  (FB n_internal_strconv_numDigits [x6] H).bind fun r12 =>
  outK r12.1 (fun v13 =>
  (pBin .other .add (vi 1) v13).bind fun v15 =>
  none) (fun p14 =>
  some (Value.iface 0 p14, r12.2)) :=
  (by kernel_rfl)
theorem internal_strconv_FormatInt_k10_eq (x0 x4 x5 x6 : Value) (H : AH) : internal_strconv_FormatInt_k10 x0 x4 x5 x6 H =
  (pBin .other .lss x0 (vi 0)).bind fun v16 =>
  condK v16
  ((pUn .neg x6).bind fun v17 =>
  internal_strconv_FormatInt_k11 x0 x4 x5 v17 H)
  (internal_strconv_FormatInt_k11 x0 x4 x5 x6 H) :=
  (ptB rfl 0 (f78_n11_d) (by kernel_rfl))
theorem internal_strconv_FormatInt_k9_eq (x0 x1 x4 x11 : Value) (H : AH) : internal_strconv_FormatInt_k9 x0 x1 x4 x11 H =
  condK x11
  ((pBin .other .leq (vi 0) x0).bind fun v18 =>
  (gV v18 true x0).bind fun v19 =>
  (gB v18 true (pBin .other .lss v19 (vi 100))).bind fun v20 =>
  (pPick v18 v20 (vb false)).bind fun v21 =>
  condK v21
  ((FB n_internal_strconv_small [x0] H).bind fun r22 =>
  outK r22.1 (fun v23 =>
  some (Value.iface 1 v23, r22.2)) (fun p24 =>
  some (Value.iface 0 p24, r22.2)))
  (newK [(.int .u8 0), (.int .u8 0), (.int .u8 0), (.int .u8 0), (.int .u8 0), (.int .u8 0), (.int .u8 0), (.int .u8 0), (.int .u8 0), (.int .u8 0), (.int .u8 0), (.int .u8 0), (.int .u8 0), (.int .u8 0), (.int .u8 0), (.int .u8 0), (.int .u8 0), (.int .u8 0), (.int .u8 0), (.int .u8 0), (.int .u8 0), (.int .u8 0), (.int .u8 0), (.int .u8 0)] H fun v25 H26 =>
  (pConv (some .u64) x0).bind fun v27 =>
  internal_strconv_FormatInt_k10 x0 x4 v25 v27 H26))
  (internal_strconv_FormatInt_k1 x0 x1 x4 H) :=
  (ctB rfl (f78_b [1, 0, 1, 2]) (f78_b [1, 0, 1, 3]) (.tmp 11) (ptB rfl 2 (f78_n10_d) (by kernel_rfl)) (by kernel_rfl))
theorem internal_strconv_FormatInt_k0_eq (x0 x1 x4 : Value) (H : AH) : internal_strconv_FormatInt_k0 x0 x1 x4 H =
  (pBin .other .eql x1 (vi 10)).bind fun v28 =>
  internal_strconv_FormatInt_k9 x0 x1 x4 v28 H :=
  (ptB rfl 0 (f78_n1_d) (ptB rfl 0 (f78_n9_d) (by kernel_rfl)))
noncomputable def internal_strconv_FormatInt (x0 x1 : Value) (H : AH) : OV := dCode PP GG (bF PP GG) (f78_b []) (ls [x0, x1] 52) H f78_r kx0 f78_r dPan
theorem internal_strconv_FormatInt_of (x0 x1 : Value) (H : AH) {r : Value × AH} (h : (
  internal_strconv_FormatInt_k0 x0 x1 (.string ⟨#[]⟩) H) = some r) : FB n_internal_strconv_FormatInt [x0, x1] H = some r :=
  fob (t := internal_strconv_FormatInt x0 x1 H) Tryz.func78 (by kernel_rfl) (Eq.trans (ptB rfl 0 (f78_n0_d) (by kernel_rfl)) h)

-- FUNCTION internal_strconv_FormatUint
theorem internal_strconv_FormatUint_of (x0 x1 : Value) (H : AH) {r : Value × AH} (h : (
  (pBin .other .eql x1 (vi 10)).bind fun v0 =>
  condK v0
  ((pBin .other .lss x0 (vw 100)).bind fun v1 =>
  condK v1
  ((pConv (some .i64) x0).bind fun v2 =>
  (FB n_internal_strconv_small [v2] H).bind fun r3 =>
  outK r3.1 (fun v4 =>
  some (Value.iface 1 v4, r3.2)) (fun p5 =>
  some (Value.iface 0 p5, r3.2)))
  (newK [(.int .u8 0), (.int .u8 0), (.int .u8 0), (.int .u8 0), (.int .u8 0), (.int .u8 0), (.int .u8 0), (.int .u8 0), (.int .u8 0), (.int .u8 0), (.int .u8 0), (.int .u8 0), (.int .u8 0), (.int .u8 0), (.int .u8 0), (.int .u8 0), (.int .u8 0), (.int .u8 0), (.int .u8 0), (.int .u8 0), (.int .u8 0), (.int .u8 0), (.int .u8 0), (.int .u8 0)] H fun v6 H7 =>
  (FB n_internal_strconv_numDigits [x0] H7).bind fun r8 =>
  outK r8.1 (fun v9 =>
  none) (fun p10 =>
  some (Value.iface 0 p10, r8.2))))
  ((FB n_internal_strconv_formatBits [(.slice none 0 0), x0, x1, (vb false), (vb false)] H).bind fun r11 =>
  outK r11.1 (fun v12 =>
  (pExtract v12 0).bind fun v14 =>
  (pExtract v12 1).bind fun v15 =>
  some (Value.iface 1 v15, r11.2)) (fun p13 =>
  some (Value.iface 0 p13, r11.2)))) = some r) : FB n_internal_strconv_FormatUint [x0, x1] H = some r :=
  fob Tryz.func80 (by kernel_rfl) h

-- FUNCTION internal_strconv_small
theorem internal_strconv_small_of (x0 : Value) (H : AH) {r : Value × AH} (h : (
  (pBin .other .lss x0 (vi 10)).bind fun v0 =>
  condK v0
  ((pBin .other .add x0 (vi 1)).bind fun v1 =>
  (pSliceS (.string ⟨#[48, 49, 50, 51, 52, 53, 54, 55, 56, 57, 97, 98, 99, 100, 101, 102, 103, 104, 105, 106, 107, 108, 109, 110, 111, 112, 113, 114, 115, 116, 117, 118, 119, 120, 121, 122]⟩) (some x0) (some v1)).bind fun v2 =>
  some (Value.iface 1 v2, H))
  ((pBin .other .mul x0 (vi 2)).bind fun v3 =>
  (pBin .other .mul x0 (vi 2)).bind fun v4 =>
  (pBin .other .add v4 (vi 2)).bind fun v5 =>
  (pSliceS (.string ⟨#[48, 48, 48, 49, 48, 50, 48, 51, 48, 52, 48, 53, 48, 54, 48, 55, 48, 56, 48, 57, 49, 48, 49, 49, 49, 50, 49, 51, 49, 52, 49, 53, 49, 54, 49, 55, 49, 56, 49, 57, 50, 48, 50, 49, 50, 50, 50, 51, 50, 52, 50, 53, 50, 54, 50, 55, 50, 56, 50, 57, 51, 48, 51, 49, 51, 50, 51, 51, 51, 52, 51, 53, 51, 54, 51, 55, 51, 56, 51, 57, 52, 48, 52, 49, 52, 50, 52, 51, 52, 52, 52, 53, 52, 54, 52, 55, 52, 56, 52, 57, 53, 48, 53, 49, 53, 50, 53, 51, 53, 52, 53, 53, 53, 54, 53, 55, 53, 56, 53, 57, 54, 48, 54, 49, 54, 50, 54, 51, 54, 52, 54, 53, 54, 54, 54, 55, 54, 56, 54, 57, 55, 48, 55, 49, 55, 50, 55, 51, 55, 52, 55, 53, 55, 54, 55, 55, 55, 56, 55, 57, 56, 48, 56, 49, 56, 50, 56, 51, 56, 52, 56, 53, 56, 54, 56, 55, 56, 56, 56, 57, 57, 48, 57, 49, 57, 50, 57, 51, 57, 52, 57, 53, 57, 54, 57, 55, 57, 56, 57, 57]⟩) (some v3) (some v5)).bind fun v6 =>
  some (Value.iface 1 v6, H))) = some r) : FB n_internal_strconv_small [x0] H = some r :=
  fob Tryz.func98 (by kernel_rfl) h

-- FUNCTION script_reader_plan
noncomputable def f53_b (p : List Nat) : Code := Code.sub (bodyOf Tryz.f53) p
noncomputable def f53_r : KK := dFin PP (Tryz.f53).results.toList
noncomputable def f53_n0 : KK := DQ (f53_b [1, 1, 1, 1, 1, 1, 1, 1, 1]) f53_r kx0 f53_r dPan
noncomputable def f53_m0 : KK := clr 36893488147419103170 (f53_n0)
noncomputable def script_reader_plan_k0 (x0 x2 x3 x4 x5 : Value) (H : AH) : OV := f53_n0 (ls [x0, u, x2, x3, x4, x5] 59) H
noncomputable def f53_n1 : KK := DQ (f53_b [1, 1, 1, 1, 1, 1, 1, 1, 1, 1]) f53_r kx0 f53_r dPan
noncomputable def f53_m1 : KK := clr 36893488147419103219 (f53_n1)
noncomputable def script_reader_plan_k1 (x2 x3 : Value) (H : AH) : OV := f53_n1 (ls [u, u, x2, x3] 61) H
noncomputable def f53_n5 : KK := DQ (f53_b [1, 1, 1, 1, 1, 1, 1, 1, 1, 0, 1]) (f53_m1) kx0 f53_r dPan
noncomputable def f53_m5 : KK := clr 36893486498151661522 (f53_n5)
noncomputable def script_reader_plan_k5 (x0 x2 x3 x5 x39 x40 : Value) (H : AH) : OV := f53_n5 (ls [x0, u, x2, x3, u, x5, u, u, u, u, u, u, u, u, u, u, u, u, u, u, u, u, u, u, u, u, u, u, u, u, u, u, u, u, u, u, u, u, u, x39, x40] 24) H
noncomputable def f53_x6 : KX := BX 0 (f53_m1) kx0
noncomputable def f53_y6 : KX := clx 36893488147419103219 (f53_x6)
noncomputable def f53_n7 : KK := DLq (f53_b [1, 1, 1, 1, 1, 1, 1, 1, 1, 0, 1, 4, 5]) (f53_y6) f53_r dPan
noncomputable def f53_m7 : KK := clr 36893486498151661522 (f53_n7)
-- a loop
noncomputable def script_reader_plan_k7 (x0 x2 x3 x5 x39 x40 : Value) (H : AH) : OV := f53_n7 (ls [x0, u, x2, x3, u, x5, u, u, u, u, u, u, u, u, u, u, u, u, u, u, u, u, u, u, u, u, u, u, u, u, u, u, u, u, u, u, u, u, u, x39, x40] 24) H
noncomputable def f53_n8 : KK := DQ (f53_b [1, 1, 1, 1, 1, 1, 1, 1, 1, 0, 1, 4, 5, 1, 1]) (f53_m7) (f53_y6) f53_r dPan
noncomputable def f53_m8 : KK := clr 36893486498151661522 (f53_n8)
noncomputable def script_reader_plan_k8 (x0 x2 x3 x5 x39 x40 : Value) (H : AH) : OV := f53_n8 (ls [x0, u, x2, x3, u, x5, u, u, u, u, u, u, u, u, u, u, u, u, u, u, u, u, u, u, u, u, u, u, u, u, u, u, u, u, u, u, u, u, u, x39, x40] 24) H
noncomputable def f53_n9 : KK := DQ (f53_b [1, 1, 1, 1, 1, 1, 1, 1, 1, 0, 1, 4, 5, 1, 1, 1]) (f53_m7) (f53_y6) f53_r dPan
noncomputable def f53_m9 : KK := clr 36893486498151661522 (f53_n9)
noncomputable def script_reader_plan_k9 (x0 x2 x3 x5 x39 x40 : Value) (H : AH) : OV := f53_n9 (ls [x0, u, x2, x3, u, x5, u, u, u, u, u, u, u, u, u, u, u, u, u, u, u, u, u, u, u, u, u, u, u, u, u, u, u, u, u, u, u, u, u, x39, x40] 24) H
noncomputable def f53_x11 : KX := BX 1 (f53_m9) (f53_y6)
noncomputable def f53_y11 : KX := clx 36893486498151661522 (f53_x11)
noncomputable def f53_n12 : KK := DQ (f53_b [1, 1, 1, 1, 1, 1, 1, 1, 1, 0, 1, 4, 5, 1, 1, 0, 4, 1, 1]) (f53_m9) (f53_y11) f53_r dPan
noncomputable def f53_m12 : KK := clr 36893486498151661330 (f53_n12)
noncomputable def script_reader_plan_k12 (x0 x2 x3 x5 x6 x7 x39 x40 : Value) (H : AH) : OV := f53_n12 (ls [x0, u, x2, x3, u, x5, x6, x7, u, u, u, u, u, u, u, u, u, u, u, u, u, u, u, u, u, u, u, u, u, u, u, u, u, u, u, u, u, u, u, x39, x40] 24) H
noncomputable def f53_n13 : KK := DQ (f53_b [1, 1, 1, 1, 1, 1, 1, 1, 1, 0, 1, 4, 5, 1, 1, 0, 4, 1, 1, 1]) (f53_m9) (f53_y11) f53_r dPan
noncomputable def f53_m13 : KK := clr 36893486498151661330 (f53_n13)
noncomputable def script_reader_plan_k13 (x0 x2 x3 x5 x6 x7 x39 x40 : Value) (H : AH) : OV := f53_n13 (ls [x0, u, x2, x3, u, x5, x6, x7, u, u, u, u, u, u, u, u, u, u, u, u, u, u, u, u, u, u, u, u, u, u, u, u, u, u, u, u, u, u, u, x39, x40] 24) H
noncomputable def f53_n20 : KK := DQ (f53_b [1, 1, 1, 1, 1, 1, 1, 1, 1, 0, 1, 4, 5, 1, 1, 0, 4, 1, 1, 0, 1]) (f53_m13) (f53_y11) f53_r dPan
noncomputable def f53_m20 : KK := clr 36893380945035394834 (f53_n20)
noncomputable def script_reader_plan_k20 (x0 x2 x3 x5 x6 x7 x39 x40 x45 x46 : Value) (H : AH) : OV := f53_n20 (ls [x0, u, x2, x3, u, x5, x6, x7, u, u, u, u, u, u, u, u, u, u, u, u, u, u, u, u, u, u, u, u, u, u, u, u, u, u, u, u, u, u, u, x39, x40, u, u, u, u, x45, x46] 18) H
noncomputable def f53_x21 : KX := BX 2 (f53_m13) (f53_y11)
noncomputable def f53_y21 : KX := clx 36893486498151661330 (f53_x21)
noncomputable def f53_n22 : KK := DLq (f53_b [1, 1, 1, 1, 1, 1, 1, 1, 1, 0, 1, 4, 5, 1, 1, 0, 4, 1, 1, 0, 1, 4, 5]) (f53_y21) f53_r dPan
noncomputable def f53_m22 : KK := clr 36893380945035394834 (f53_n22)
-- a loop
noncomputable def script_reader_plan_k22 (x0 x2 x3 x5 x6 x7 x39 x40 x45 x46 : Value) (H : AH) : OV := f53_n22 (ls [x0, u, x2, x3, u, x5, x6, x7, u, u, u, u, u, u, u, u, u, u, u, u, u, u, u, u, u, u, u, u, u, u, u, u, u, u, u, u, u, u, u, x39, x40, u, u, u, u, x45, x46] 18) H
noncomputable def f53_n23 : KK := DQ (f53_b [1, 1, 1, 1, 1, 1, 1, 1, 1, 0, 1, 4, 5, 1, 1, 0, 4, 1, 1, 0, 1, 4, 5, 1, 1]) (f53_m22) (f53_y21) f53_r dPan
noncomputable def f53_m23 : KK := clr 36893380945035394834 (f53_n23)
noncomputable def script_reader_plan_k23 (x0 x2 x3 x5 x6 x7 x39 x40 x45 x46 : Value) (H : AH) : OV := f53_n23 (ls [x0, u, x2, x3, u, x5, x6, x7, u, u, u, u, u, u, u, u, u, u, u, u, u, u, u, u, u, u, u, u, u, u, u, u, u, u, u, u, u, u, u, x39, x40, u, u, u, u, x45, x46] 18) H
noncomputable def f53_n24 : KK := DQ (f53_b [1, 1, 1, 1, 1, 1, 1, 1, 1, 0, 1, 4, 5, 1, 1, 0, 4, 1, 1, 0, 1, 4, 5, 1, 1, 1]) (f53_m22) (f53_y21) f53_r dPan
noncomputable def f53_m24 : KK := clr 36893380945035394834 (f53_n24)
noncomputable def script_reader_plan_k24 (x0 x2 x3 x5 x6 x7 x39 x40 x45 x46 : Value) (H : AH) : OV := f53_n24 (ls [x0, u, x2, x3, u, x5, x6, x7, u, u, u, u, u, u, u, u, u, u, u, u, u, u, u, u, u, u, u, u, u, u, u, u, u, u, u, u, u, u, u, x39, x40, u, u, u, u, x45, x46] 18) H
noncomputable def f53_x26 : KX := BX 3 (f53_m24) (f53_y21)
noncomputable def f53_y26 : KX := clx 36893380945035394834 (f53_x26)
noncomputable def script_reader_plan_e21_2 (x0 x2 x3 x5 x6 x7 x39 x40 : Value) (H : AH) : OV := f53_x21 2 (ls [x0, u, x2, x3, u, x5, x6, x7, u, u, u, u, u, u, u, u, u, u, u, u, u, u, u, u, u, u, u, u, u, u, u, u, u, u, u, u, u, u, u, x39, x40] 24) H
noncomputable def script_reader_plan_e6_0 (x2 x3 : Value) (H : AH) : OV := f53_x6 0 (ls [u, u, x2, x3] 61) H
theorem f53_r_d : Resp 36893488147419103227 f53_r := rfB
theorem f53_n0_d : Resp 36893488147419103170 (f53_n0) := rcB f53_r_d kx0_d f53_r_d (Dp := fullD) resp_pan
theorem f53_n1_d : Resp 36893488147419103219 (f53_n1) := rcB f53_r_d kx0_d f53_r_d (Dp := fullD) resp_pan
theorem f53_n5_d : Resp 36893486498151661522 (f53_n5) := rcB (cd (f53_n1_d)) kx0_d f53_r_d (Dp := fullD) resp_pan
theorem f53_x6_d : ∀ i, Resp 36893488147419103219 (f53_x6 i) := rb (cd (f53_n1_d)) kx0_d
theorem f53_n7_d : Resp 36893486498151661522 (f53_n7) := rlB (cx (f53_x6_d)) f53_r_d (Dp := fullD) resp_pan
theorem f53_n8_d : Resp 36893486498151661522 (f53_n8) := rcB (cd (f53_n7_d)) (cx (f53_x6_d)) f53_r_d (Dp := fullD) resp_pan
theorem f53_n9_d : Resp 36893486498151661522 (f53_n9) := rcB (cd (f53_n7_d)) (cx (f53_x6_d)) f53_r_d (Dp := fullD) resp_pan
theorem f53_x11_d : ∀ i, Resp 36893486498151661522 (f53_x11 i) := rb (cd (f53_n9_d)) (cx (f53_x6_d))
theorem f53_n12_d : Resp 36893486498151661330 (f53_n12) := rcB (cd (f53_n9_d)) (cx (f53_x11_d)) f53_r_d (Dp := fullD) resp_pan
theorem f53_n13_d : Resp 36893486498151661330 (f53_n13) := rcB (cd (f53_n9_d)) (cx (f53_x11_d)) f53_r_d (Dp := fullD) resp_pan
theorem f53_n20_d : Resp 36893380945035394834 (f53_n20) := rcB (cd (f53_n13_d)) (cx (f53_x11_d)) f53_r_d (Dp := fullD) resp_pan
theorem f53_x21_d : ∀ i, Resp 36893486498151661330 (f53_x21 i) := rb (cd (f53_n13_d)) (cx (f53_x11_d))
theorem f53_n22_d : Resp 36893380945035394834 (f53_n22) := rlB (cx (f53_x21_d)) f53_r_d (Dp := fullD) resp_pan
theorem f53_n23_d : Resp 36893380945035394834 (f53_n23) := rcB (cd (f53_n22_d)) (cx (f53_x21_d)) f53_r_d (Dp := fullD) resp_pan
theorem f53_n24_d : Resp 36893380945035394834 (f53_n24) := rcB (cd (f53_n22_d)) (cx (f53_x21_d)) f53_r_d (Dp := fullD) resp_pan
theorem f53_x26_d : ∀ i, Resp 36893380945035394834 (f53_x26 i) := rb (cd (f53_n24_d)) (cx (f53_x21_d))
theorem script_reader_plan_k1_eq (x2 x3 : Value) (H : AH) : script_reader_plan_k1 x2 x3 H =
  (pLdN 6 x3 H).bind fun v2 =>
  (pSt 6 x2 v2 H).bind fun H3 =>
  (pLdN 6 x2 H3).bind fun v4 => some (Value.iface 1 v4, H3) :=
  (by kernel_rfl)
theorem script_reader_plan_k9_eq (x0 x2 x3 x5 x39 x40 : Value) (H : AH) : script_reader_plan_k9 x0 x2 x3 x5 x39 x40 H =
  (pBin .other .add x40 (vi 1)).bind fun v10 =>
  script_reader_plan_k7 x0 x2 x3 x5 x39 v10 H :=
  (by kernel_rfl)
theorem script_reader_plan_k13_eq (x0 x2 x3 x5 x6 x7 x39 x40 : Value) (H : AH) : script_reader_plan_k13 x0 x2 x3 x5 x6 x7 x39 x40 H =
  (pBin .other .sub x5 x7).bind fun v14 =>
  ld [.f 5] x3 H fun v15 =>
  mkR 1 1 [(.slice none 0 0)] [(0, x6)] H fun v16 H17 =>
  (pApp 1 24 v15 v16 H17).bind fun r18 =>
  st 1 [.f 5] x3 r18.1 r18.2 fun H19 =>
  script_reader_plan_k9 x0 x2 x3 v14 x39 x40 H19 :=
  (by kernel_rfl)
theorem script_reader_plan_k24_eq (x0 x2 x3 x5 x6 x7 x39 x40 x45 x46 : Value) (H : AH) : script_reader_plan_k24 x0 x2 x3 x5 x6 x7 x39 x40 x45 x46 H =
  (pBin .other .add x46 (vi 1)).bind fun v25 =>
  script_reader_plan_k22 x0 x2 x3 x5 x6 x7 x39 x40 x45 v25 H :=
  (by kernel_rfl)
theorem script_reader_plan_k23_eq (x0 x2 x3 x5 x6 x7 x39 x40 x45 x46 : Value) (H : AH) : script_reader_plan_k23 x0 x2 x3 x5 x6 x7 x39 x40 x45 x46 H =
  (FB n_script_reader_call [x0] H).bind fun r27 =>
  outK r27.1 (fun v28 =>
  mkR 1 4 [(vi 0), (vi 0), (vi 0), (vi 0)] [(0, v28)] r27.2 fun v30 H31 =>
  (pApp 4 32 x6 v30 H31).bind fun r32 =>
  script_reader_plan_k24 x0 x2 x3 x5 r32.1 x7 x39 x40 x45 x46 r32.2) (fun p29 =>
  some (Value.iface 0 p29, r27.2)) :=
  (ptB rfl 0 (f53_n24_d) (btB rfl (f53_b [1, 1, 1, 1, 1, 1, 1, 1, 1, 0, 1, 4, 5, 1, 1, 0, 4, 1, 1, 0, 1, 4, 5, 1, 1, 0, 4]) 3 (f53_x26_d) (by kernel_rfl)))
theorem script_reader_plan_e21_2_eq (x0 x2 x3 x5 x6 x7 x39 x40 : Value) (H : AH) : script_reader_plan_e21_2 x0 x2 x3 x5 x6 x7 x39 x40 H = script_reader_plan_k13 x0 x2 x3 x5 x6 x7 x39 x40 H :=
  (by kernel_rfl)
theorem script_reader_plan_k22_eq (x0 x2 x3 x5 x6 x7 x39 x40 x45 x46 : Value) (H : AH) : script_reader_plan_k22 x0 x2 x3 x5 x6 x7 x39 x40 x45 x46 H =
  (pBin .other .lss x46 x45).bind fun v33 =>
  condK v33
  (script_reader_plan_k23 x0 x2 x3 x5 x6 x7 x39 x40 x45 x46 H)
  (script_reader_plan_e21_2 x0 x2 x3 x5 x6 x7 x39 x40 H) :=
  ltB' rfl (f53_n22_d) (ptB rfl 1 (f53_n23_d) (by kernel_rfl))
theorem script_reader_plan_k20_eq (x0 x2 x3 x5 x6 x7 x39 x40 x45 x46 : Value) (H : AH) : script_reader_plan_k20 x0 x2 x3 x5 x6 x7 x39 x40 x45 x46 H =
  script_reader_plan_k22 x0 x2 x3 x5 x6 x7 x39 x40 x45 x46 H :=
  (btB rfl (f53_b [1, 1, 1, 1, 1, 1, 1, 1, 1, 0, 1, 4, 5, 1, 1, 0, 4, 1, 1, 0, 1, 4]) 2 (f53_x21_d) (liB rfl (f53_b [1, 1, 1, 1, 1, 1, 1, 1, 1, 0, 1, 4, 5, 1, 1, 0, 4, 1, 1, 0, 1, 4, 5]) (f53_n22_d) (by kernel_rfl)))
theorem script_reader_plan_k12_eq (x0 x2 x3 x5 x6 x7 x39 x40 : Value) (H : AH) : script_reader_plan_k12 x0 x2 x3 x5 x6 x7 x39 x40 H =
  script_reader_plan_k20 x0 x2 x3 x5 x6 x7 x39 x40 x7 (vi 0) H :=
  (ptB rfl 0 (f53_n13_d) (ptB rfl 0 (f53_n20_d) (by kernel_rfl)))
theorem script_reader_plan_k8_eq (x0 x2 x3 x5 x39 x40 : Value) (H : AH) : script_reader_plan_k8 x0 x2 x3 x5 x39 x40 H =
  (FB n_script_reader_small [x0, (vi 0), x5] H).bind fun r34 =>
  outK r34.1 (fun v35 =>
  script_reader_plan_k12 x0 x2 x3 x5 (.slice none 0 0) v35 x39 x40 r34.2) (fun p36 =>
  some (Value.iface 0 p36, r34.2)) :=
  (ptB rfl 0 (f53_n9_d) (btB rfl (f53_b [1, 1, 1, 1, 1, 1, 1, 1, 1, 0, 1, 4, 5, 1, 1, 0, 4]) 1 (f53_x11_d) (ptB rfl 1 (f53_n12_d) (by kernel_rfl))))
theorem script_reader_plan_e6_0_eq (x2 x3 : Value) (H : AH) : script_reader_plan_e6_0 x2 x3 H = script_reader_plan_k1 x2 x3 H :=
  (by kernel_rfl)
theorem script_reader_plan_k7_eq (x0 x2 x3 x5 x39 x40 : Value) (H : AH) : script_reader_plan_k7 x0 x2 x3 x5 x39 x40 H =
  (pBin .other .lss x40 x39).bind fun v37 =>
  condK v37
  (script_reader_plan_k8 x0 x2 x3 x5 x39 x40 H)
  (script_reader_plan_e6_0 x2 x3 H) :=
  ltB' rfl (f53_n7_d) (ptB rfl 1 (f53_n8_d) (by kernel_rfl))
theorem script_reader_plan_k5_eq (x0 x2 x3 x5 x39 x40 : Value) (H : AH) : script_reader_plan_k5 x0 x2 x3 x5 x39 x40 H =
  script_reader_plan_k7 x0 x2 x3 x5 x39 x40 H :=
  (btB rfl (f53_b [1, 1, 1, 1, 1, 1, 1, 1, 1, 0, 1, 4]) 0 (f53_x6_d) (liB rfl (f53_b [1, 1, 1, 1, 1, 1, 1, 1, 1, 0, 1, 4, 5]) (f53_n7_d) (by kernel_rfl)))
theorem script_reader_plan_k0_eq (x0 x2 x3 x4 x5 : Value) (H : AH) : script_reader_plan_k0 x0 x2 x3 x4 x5 H =
  ld [.n, .f 2] x4 H fun v38 =>
  (FB n_script_reader_small [x0, (vi 0), v38] H).bind fun r39 =>
  outK r39.1 (fun v40 =>
  script_reader_plan_k5 x0 x2 x3 x5 v40 (vi 0) r39.2) (fun p41 =>
  some (Value.iface 0 p41, r39.2)) :=
  (ptB rfl 0 (f53_n1_d) (ptB rfl 0 (f53_n5_d) (by kernel_rfl)))
noncomputable def script_reader_plan (x0 : Value) (H : AH) : OV := dCode PP GG (bF PP GG) (f53_b []) (ls [x0] 64) H f53_r kx0 f53_r dPan
theorem script_reader_plan_of (x0 : Value) (H : AH) {r : Value × AH} (h : (
  newK [(vi 0), (vi 0), (vi 0), (vi 0), (vw 0), (.slice none 0 0)] H fun v42 H43 =>
  newK [(vi 0), (vi 0), (vi 0), (vi 0), (vw 0), (.slice none 0 0)] H43 fun v44 H45 =>
  ad [.f 0] v44 fun v46 =>
  (FB n_script_reader_small [x0, (vi 1), (vi 4)] H45).bind fun r47 =>
  outK r47.1 (fun v48 =>
  st 1 [.n, .f 0] v46 v48 r47.2 fun H50 =>
  (FB n_script_reader_small [x0, (vi 1), (vi 4)] H50).bind fun r51 =>
  outK r51.1 (fun v52 =>
  st 1 [.n, .f 1] v46 v52 r51.2 fun H54 =>
  (FB n_script_reader_small [x0, (vi 1), (vi 6)] H54).bind fun r55 =>
  outK r55.1 (fun v56 =>
  st 1 [.n, .f 2] v46 v56 r55.2 fun H58 =>
  (FB n_script_reader_small [x0, (vi 0), (vi 40)] H58).bind fun r59 =>
  outK r59.1 (fun v60 =>
  st 1 [.n, .f 3] v46 v60 r59.2 fun H62 =>
  (FB n_script_reader_within [x0, (vw 1), (vw 4611686018427387904)] H62).bind fun r63 =>
  outK r63.1 (fun v64 =>
  st 1 [.n, .f 4] v46 v64 r63.2 fun H66 =>
  script_reader_plan_k0 x0 v42 v44 v46 (vi 60) H66) (fun p65 =>
  some (Value.iface 0 p65, r63.2))) (fun p61 =>
  some (Value.iface 0 p61, r59.2))) (fun p57 =>
  some (Value.iface 0 p57, r55.2))) (fun p53 =>
  some (Value.iface 0 p53, r51.2))) (fun p49 =>
  some (Value.iface 0 p49, r47.2))) = some r) : FB n_script_reader_plan [x0] H = some r :=
  fob (t := script_reader_plan x0 H) Tryz.func53 (by kernel_rfl) (Eq.trans (ptB rfl 8 (f53_n0_d) (by kernel_rfl)) h)

-- FUNCTION script_reader_small
theorem script_reader_small_of (x0 x1 x2 : Value) (H : AH) {r : Value × AH} (h : (
  (pConv (some .u64) x1).bind fun v0 =>
  (pConv (some .u64) x2).bind fun v1 =>
  (FB n_script_reader_within [x0, v0, v1] H).bind fun r2 =>
  outK r2.1 (fun v3 =>
  (pConv (some .i64) v3).bind fun v5 =>
  some (Value.iface 1 v5, r2.2)) (fun p4 =>
  some (Value.iface 0 p4, r2.2))) = some r) : FB n_script_reader_small [x0, x1, x2] H = some r :=
  fob Tryz.func54 (by kernel_rfl) h

-- FUNCTION script_reader_within
noncomputable def f71_b (p : List Nat) : Code := Code.sub (bodyOf Tryz.f71) p
noncomputable def f71_r : KK := dFin PP (Tryz.f71).results.toList
noncomputable def f71_n0 : KK := DQ (f71_b [1, 1]) f71_r kx0 f71_r dPan
noncomputable def f71_m0 : KK := clr 1048377 (f71_n0)
noncomputable def script_reader_within_k0 (x1 x2 x6 x7 : Value) (H : AH) : OV := f71_n0 (ls [u, x1, x2, u, u, u, x6, x7] 12) H
noncomputable def f71_n1 : KK := DQ (f71_b [1, 1, 1]) f71_r kx0 f71_r dPan
noncomputable def f71_m1 : KK := clr 1048383 (f71_n1)
noncomputable def script_reader_within_k1 (x6 x7 : Value) (H : AH) : OV := f71_n1 (ls [u, u, u, u, u, u, x6, x7] 12) H
theorem f71_r_d : Resp 1048511 f71_r := rfB
theorem f71_n0_d : Resp 1048377 (f71_n0) := rcB f71_r_d kx0_d f71_r_d (Dp := fullD) resp_pan
theorem f71_n1_d : Resp 1048383 (f71_n1) := rcB f71_r_d kx0_d f71_r_d (Dp := fullD) resp_pan
theorem script_reader_within_k1_eq (x6 x7 : Value) (H : AH) : script_reader_within_k1 x6 x7 H =
  some (Value.iface 1 x7, H) :=
  (by kernel_rfl)
theorem script_reader_within_k0_eq (x1 x2 x6 x7 : Value) (H : AH) : script_reader_within_k0 x1 x2 x6 x7 H =
  (pBin .other .lss x7 x1).bind fun v2 =>
  (gV v2 false x7).bind fun v3 =>
  (gV v2 false x2).bind fun v4 =>
  (gB v2 false (pBin .other .gtr v3 v4)).bind fun v5 =>
  (pPick v2 (vb true) v5).bind fun v6 =>
  condK v6
  (panK (.iface 32 (vi 11)) fun p7 =>
  some (Value.iface 0 p7, H))
  (script_reader_within_k1 x6 x7 H) :=
  (ptB rfl 0 (f71_n1_d) (by kernel_rfl))
noncomputable def script_reader_within (x0 x1 x2 : Value) (H : AH) : OV := dCode PP GG (bF PP GG) (f71_b []) (ls [x0, x1, x2] 17) H f71_r kx0 f71_r dPan
theorem script_reader_within_of (x0 x1 x2 : Value) (H : AH) {r : Value × AH} (h : (
  (FB n_script_reader_number [x0] H).bind fun r8 =>
  outK r8.1 (fun v9 =>
  script_reader_within_k0 x1 x2 (vw 0) v9 r8.2) (fun p10 =>
  some (Value.iface 0 p10, r8.2))) = some r) : FB n_script_reader_within [x0, x1, x2] H = some r :=
  fob (t := script_reader_within x0 x1 x2 H) Tryz.func71 (by kernel_rfl) (Eq.trans (ptB rfl 1 (f71_n0_d) (by kernel_rfl)) h)

-- FUNCTION script_reader_call
noncomputable def f72_b (p : List Nat) : Code := Code.sub (bodyOf Tryz.f72) p
noncomputable def f72_r : KK := dFin PP (Tryz.f72).results.toList
noncomputable def f72_n0 : KK := DQ (f72_b [1, 1]) f72_r kx0 f72_r dPan
noncomputable def f72_m0 : KK := clr 4194290 (f72_n0)
noncomputable def script_reader_call_k0 (x0 x2 x3 : Value) (H : AH) : OV := f72_n0 (ls [x0, u, x2, x3] 18) H
noncomputable def f72_n1 : KK := DQ (f72_b [1, 1, 1]) f72_r kx0 f72_r dPan
noncomputable def f72_m1 : KK := clr 4194291 (f72_n1)
noncomputable def script_reader_call_k1 (x2 x3 : Value) (H : AH) : OV := f72_n1 (ls [u, u, x2, x3] 18) H
noncomputable def f72_n9 : KK := DQ (f72_b [1, 1, 0, 1]) (f72_m1) kx0 f72_r dPan
noncomputable def f72_m9 : KK := clr 4194258 (f72_n9)
noncomputable def script_reader_call_k9 (x0 x2 x3 x5 : Value) (H : AH) : OV := f72_n9 (ls [x0, u, x2, x3, u, x5] 16) H
noncomputable def f72_x10 : KX := BX 0 (f72_m1) kx0
noncomputable def f72_y10 : KX := clx 4194291 (f72_x10)
noncomputable def f72_n11 : KK := DLq (f72_b [1, 1, 0, 1, 4, 5]) (f72_y10) f72_r dPan
noncomputable def f72_m11 : KK := clr 4194258 (f72_n11)
-- a loop
noncomputable def script_reader_call_k11 (x0 x2 x3 x5 : Value) (H : AH) : OV := f72_n11 (ls [x0, u, x2, x3, u, x5] 16) H
noncomputable def f72_n12 : KK := DQ (f72_b [1, 1, 0, 1, 4, 5, 1, 1]) (f72_m11) (f72_y10) f72_r dPan
noncomputable def f72_m12 : KK := clr 4194258 (f72_n12)
noncomputable def script_reader_call_k12 (x0 x2 x3 x5 : Value) (H : AH) : OV := f72_n12 (ls [x0, u, x2, x3, u, x5] 16) H
noncomputable def f72_n13 : KK := DQ (f72_b [1, 1, 0, 1, 4, 5, 1, 1, 1]) (f72_m11) (f72_y10) f72_r dPan
noncomputable def f72_m13 : KK := clr 4194258 (f72_n13)
noncomputable def script_reader_call_k13 (x0 x2 x3 x5 : Value) (H : AH) : OV := f72_n13 (ls [x0, u, x2, x3, u, x5] 16) H
noncomputable def f72_x15 : KX := BX 1 (f72_m13) (f72_y10)
noncomputable def f72_y15 : KX := clx 4194258 (f72_x15)
noncomputable def script_reader_call_e10_0 (x2 x3 : Value) (H : AH) : OV := f72_x10 0 (ls [u, u, x2, x3] 18) H
theorem f72_r_d : Resp 4194299 f72_r := rfB
theorem f72_n0_d : Resp 4194290 (f72_n0) := rcB f72_r_d kx0_d f72_r_d (Dp := fullD) resp_pan
theorem f72_n1_d : Resp 4194291 (f72_n1) := rcB f72_r_d kx0_d f72_r_d (Dp := fullD) resp_pan
theorem f72_n9_d : Resp 4194258 (f72_n9) := rcB (cd (f72_n1_d)) kx0_d f72_r_d (Dp := fullD) resp_pan
theorem f72_x10_d : ∀ i, Resp 4194291 (f72_x10 i) := rb (cd (f72_n1_d)) kx0_d
theorem f72_n11_d : Resp 4194258 (f72_n11) := rlB (cx (f72_x10_d)) f72_r_d (Dp := fullD) resp_pan
theorem f72_n12_d : Resp 4194258 (f72_n12) := rcB (cd (f72_n11_d)) (cx (f72_x10_d)) f72_r_d (Dp := fullD) resp_pan
theorem f72_n13_d : Resp 4194258 (f72_n13) := rcB (cd (f72_n11_d)) (cx (f72_x10_d)) f72_r_d (Dp := fullD) resp_pan
theorem f72_x15_d : ∀ i, Resp 4194258 (f72_x15 i) := rb (cd (f72_n13_d)) (cx (f72_x10_d))
theorem script_reader_call_k1_eq (x2 x3 : Value) (H : AH) : script_reader_call_k1 x2 x3 H =
  ld [.a 4 1 (vi 0)] x3 H fun v2 =>
  ld [.a 4 1 (vi 1)] x3 H fun v3 =>
  ld [.a 4 1 (vi 2)] x3 H fun v4 =>
  ld [.a 4 1 (vi 3)] x3 H fun v5 =>
  mkS [(0, 1), (1, 1), (2, 1), (3, 1)] [(vi 0), (vi 0), (vi 0), (vi 0)] [(0, v2), (1, v3), (2, v4), (3, v5)] fun v6 =>
  (pSt 4 x2 v6 H).bind fun H7 =>
  (pLdN 4 x2 H7).bind fun v8 => some (Value.iface 1 v8, H7) :=
  (by kernel_rfl)
theorem script_reader_call_k13_eq (x0 x2 x3 x5 : Value) (H : AH) : script_reader_call_k13 x0 x2 x3 x5 H =
  (pBin .other .add x5 (vi 1)).bind fun v14 =>
  script_reader_call_k11 x0 x2 x3 v14 H :=
  (by kernel_rfl)
theorem script_reader_call_k12_eq (x0 x2 x3 x5 : Value) (H : AH) : script_reader_call_k12 x0 x2 x3 x5 H =
  (FB n_script_reader_small [x0, (vi 0), (vi 2147483647)] H).bind fun r16 =>
  outK r16.1 (fun v17 =>
  st 1 [.a 4 1 x5] x3 v17 r16.2 fun H19 =>
  script_reader_call_k13 x0 x2 x3 x5 H19) (fun p18 =>
  some (Value.iface 0 p18, r16.2)) :=
  (ptB rfl 0 (f72_n13_d) (btB rfl (f72_b [1, 1, 0, 1, 4, 5, 1, 1, 0, 4]) 1 (f72_x15_d) (by kernel_rfl)))
theorem script_reader_call_e10_0_eq (x2 x3 : Value) (H : AH) : script_reader_call_e10_0 x2 x3 H = script_reader_call_k1 x2 x3 H :=
  (by kernel_rfl)
theorem script_reader_call_k11_eq (x0 x2 x3 x5 : Value) (H : AH) : script_reader_call_k11 x0 x2 x3 x5 H =
  (pBin .other .lss x5 (vi 4)).bind fun v20 =>
  condK v20
  (script_reader_call_k12 x0 x2 x3 x5 H)
  (script_reader_call_e10_0 x2 x3 H) :=
  ltB' rfl (f72_n11_d) (ptB rfl 1 (f72_n12_d) (by kernel_rfl))
theorem script_reader_call_k9_eq (x0 x2 x3 x5 : Value) (H : AH) : script_reader_call_k9 x0 x2 x3 x5 H =
  script_reader_call_k11 x0 x2 x3 x5 H :=
  (btB rfl (f72_b [1, 1, 0, 1, 4]) 0 (f72_x10_d) (liB rfl (f72_b [1, 1, 0, 1, 4, 5]) (f72_n11_d) (by kernel_rfl)))
theorem script_reader_call_k0_eq (x0 x2 x3 : Value) (H : AH) : script_reader_call_k0 x0 x2 x3 H =
  script_reader_call_k9 x0 x2 x3 (vi 0) H :=
  (ptB rfl 0 (f72_n1_d) (ptB rfl 0 (f72_n9_d) (by kernel_rfl)))
noncomputable def script_reader_call (x0 : Value) (H : AH) : OV := dCode PP GG (bF PP GG) (f72_b []) (ls [x0] 21) H f72_r kx0 f72_r dPan
theorem script_reader_call_of (x0 : Value) (H : AH) {r : Value × AH} (h : (
  newK [(vi 0), (vi 0), (vi 0), (vi 0)] H fun v21 H22 =>
  newK [(vi 0), (vi 0), (vi 0), (vi 0)] H22 fun v23 H24 =>
  script_reader_call_k0 x0 v21 v23 H24) = some r) : FB n_script_reader_call [x0] H = some r :=
  fob (t := script_reader_call x0 H) Tryz.func72 (by kernel_rfl) (Eq.trans (ptB rfl 1 (f72_n0_d) (by kernel_rfl)) h)

-- FUNCTION script_reader_number
noncomputable def f92_b (p : List Nat) : Code := Code.sub (bodyOf Tryz.f92) p
noncomputable def f92_r : KK := dFin PP (Tryz.f92).results.toList
noncomputable def f92_n0 : KK := DQ (f92_b [1, 1, 1]) f92_r kx0 f92_r dPan
noncomputable def f92_m0 : KK := clr 72057594037927906 (f92_n0)
noncomputable def script_reader_number_k0 (x0 x2 x3 x4 : Value) (H : AH) : OV := f92_n0 (ls [x0, u, x2, x3, x4] 51) H
noncomputable def f92_x1 : KX := BX 0 f92_r kx0
noncomputable def f92_y1 : KX := clx 72057594037927931 (f92_x1)
noncomputable def f92_n2 : KK := DLq (f92_b [1, 1, 1, 4, 5]) (f92_y1) f92_r dPan
noncomputable def f92_m2 : KK := clr 72057594037927906 (f92_n2)
-- a loop
noncomputable def script_reader_number_k2 (x0 x2 x3 x4 : Value) (H : AH) : OV := f92_n2 (ls [x0, u, x2, x3, x4] 51) H
noncomputable def f92_n3 : KK := DQ (f92_b [1, 1, 1, 4, 5, 1]) (f92_m2) (f92_y1) f92_r dPan
noncomputable def f92_m3 : KK := clr 72057594037927906 (f92_n3)
noncomputable def script_reader_number_k3 (x0 x2 x3 x4 : Value) (H : AH) : OV := f92_n3 (ls [x0, u, x2, x3, x4] 51) H
noncomputable def f92_x5 : KX := BX 1 (f92_m3) (f92_y1)
noncomputable def f92_y5 : KX := clx 72057594037927906 (f92_x5)
noncomputable def f92_n6 : KK := DQ (f92_b [1, 1, 1, 4, 5, 0, 4, 1]) (f92_m3) (f92_y5) f92_r dPan
noncomputable def f92_m6 : KK := clr 72057594037927906 (f92_n6)
noncomputable def script_reader_number_k6 (x0 x2 x3 x4 : Value) (H : AH) : OV := f92_n6 (ls [x0, u, x2, x3, x4] 51) H
noncomputable def f92_n7 : KK := DQ (f92_b [1, 1, 1, 4, 5, 0, 4, 1, 1, 1, 1]) (f92_m3) (f92_y5) f92_r dPan
noncomputable def f92_m7 : KK := clr 72057594037927874 (f92_n7)
noncomputable def script_reader_number_k7 (x0 x2 x3 x4 x5 : Value) (H : AH) : OV := f92_n7 (ls [x0, u, x2, x3, x4, x5] 50) H
noncomputable def f92_n8 : KK := DQ (f92_b [1, 1, 1, 4, 5, 0, 4, 1, 1, 1, 1, 1]) (f92_m3) (f92_y5) f92_r dPan
noncomputable def f92_m8 : KK := clr 72057594037927906 (f92_n8)
noncomputable def script_reader_number_k8 (x0 x2 x3 x4 : Value) (H : AH) : OV := f92_n8 (ls [x0, u, x2, x3, x4] 51) H
noncomputable def script_reader_number_e5_1 (x0 x2 x3 x4 : Value) (H : AH) : OV := f92_x5 1 (ls [x0, u, x2, x3, x4] 51) H
noncomputable def f92_x26 : KX := BX 2 (f92_m6) (f92_y5)
noncomputable def f92_y26 : KX := clx 72057594037927906 (f92_x26)
theorem f92_r_d : Resp 72057594037927931 f92_r := rfB
theorem f92_n0_d : Resp 72057594037927906 (f92_n0) := rcB f92_r_d kx0_d f92_r_d (Dp := fullD) resp_pan
theorem f92_x1_d : ∀ i, Resp 72057594037927931 (f92_x1 i) := rb f92_r_d kx0_d
theorem f92_n2_d : Resp 72057594037927906 (f92_n2) := rlB (cx (f92_x1_d)) f92_r_d (Dp := fullD) resp_pan
theorem f92_n3_d : Resp 72057594037927906 (f92_n3) := rcB (cd (f92_n2_d)) (cx (f92_x1_d)) f92_r_d (Dp := fullD) resp_pan
theorem f92_x5_d : ∀ i, Resp 72057594037927906 (f92_x5 i) := rb (cd (f92_n3_d)) (cx (f92_x1_d))
theorem f92_n6_d : Resp 72057594037927906 (f92_n6) := rcB (cd (f92_n3_d)) (cx (f92_x5_d)) f92_r_d (Dp := fullD) resp_pan
theorem f92_n7_d : Resp 72057594037927874 (f92_n7) := rcB (cd (f92_n3_d)) (cx (f92_x5_d)) f92_r_d (Dp := fullD) resp_pan
theorem f92_n8_d : Resp 72057594037927906 (f92_n8) := rcB (cd (f92_n3_d)) (cx (f92_x5_d)) f92_r_d (Dp := fullD) resp_pan
theorem f92_x26_d : ∀ i, Resp 72057594037927906 (f92_x26 i) := rb (cd (f92_n6_d)) (cx (f92_x5_d))
theorem script_reader_number_k3_eq (x0 x2 x3 x4 : Value) (H : AH) : script_reader_number_k3 x0 x2 x3 x4 H =
  (pBin .other .add x4 (vi 1)).bind fun v4 =>
  script_reader_number_k2 x0 x2 x3 v4 H :=
  (by kernel_rfl)
theorem script_reader_number_k8_eq (x0 x2 x3 x4 : Value) (H : AH) : script_reader_number_k8 x0 x2 x3 x4 H =
  ld [.n, .f 0] x0 H fun v9 =>
  (pBin .other .add x4 (vi 1)).bind fun v10 =>
  (pSlice 1 v9 (some v10) none).bind fun v11 =>
  st 1 [.n, .f 0] x0 v11 H fun H12 =>
  some (Value.iface 1 x3, H12) :=
  (by kernel_rfl)
theorem script_reader_number_k7_eq (x0 x2 x3 x4 x5 : Value) (H : AH) : script_reader_number_k7 x0 x2 x3 x4 x5 H =
  (pBin .other .eql x5 (.int .u8 0)).bind fun v13 =>
  (gV v13 true x4).bind fun v14 =>
  (gB v13 true (pBin .other .gtr v14 (vi 0))).bind fun v15 =>
  (pPick v13 v15 (vb false)).bind fun v16 =>
  condK v16
  (panK (.iface 32 (vi 11)) fun p17 =>
  some (Value.iface 0 p17, H))
  (script_reader_number_k8 x0 x2 x3 x4 H) :=
  (ptB rfl 0 (f92_n8_d) (by kernel_rfl))
theorem script_reader_number_e5_1_eq (x0 x2 x3 x4 : Value) (H : AH) : script_reader_number_e5_1 x0 x2 x3 x4 H = script_reader_number_k3 x0 x2 x3 x4 H :=
  (by kernel_rfl)
theorem script_reader_number_k6_eq (x0 x2 x3 x4 : Value) (H : AH) : script_reader_number_k6 x0 x2 x3 x4 H =
  ld [.n, .f 0] x0 H fun v18 =>
  ld [.i 1 x4] v18 H fun v19 =>
  (pBin .other .and v19 (.int .u8 127)).bind fun v20 =>
  (pConv (some .u64) v20).bind fun v21 =>
  (pBin .other .mul (vi 7) x4).bind fun v22 =>
  (pBin .other .shl v21 v22).bind fun v23 =>
  (pBin .other .or x3 v23).bind fun v24 =>
  (pBin .other .gtr v19 (.int .u8 127)).bind fun v25 =>
  condK v25
  (script_reader_number_e5_1 x0 x2 v24 x4 H)
  (script_reader_number_k7 x0 x2 v24 x4 v19 H) :=
  (ptB rfl 2 (f92_n7_d) (by kernel_rfl))
theorem script_reader_number_k2_eq (x0 x2 x3 x4 : Value) (H : AH) : script_reader_number_k2 x0 x2 x3 x4 H =
  ld [.n, .f 0] x0 H fun v27 =>
  lenK v27 fun v28 =>
  (pBin .other .geq x4 v28).bind fun v29 =>
  condK v29
  (panK (.iface 32 (vi 12)) fun p30 =>
  some (Value.iface 0 p30, H))
  ((pBin .other .geq x4 (vi 9)).bind fun v31 =>
  condK v31
  (panK (.iface 32 (vi 11)) fun p32 =>
  some (Value.iface 0 p32, H))
  (script_reader_number_k6 x0 x2 x3 x4 H)) :=
  ltB' rfl (f92_n2_d) (ptB rfl 0 (f92_n3_d) (btB rfl (f92_b [1, 1, 1, 4, 5, 0, 4]) 1 (f92_x5_d) (ptB rfl 0 (f92_n6_d) (btB rfl (f92_b [1, 1, 1, 4, 5, 0, 4, 0, 4]) 2 (f92_x26_d) (by kernel_rfl)))))
theorem script_reader_number_k0_eq (x0 x2 x3 x4 : Value) (H : AH) : script_reader_number_k0 x0 x2 x3 x4 H =
  script_reader_number_k2 x0 x2 x3 x4 H :=
  (btB rfl (f92_b [1, 1, 1, 4]) 0 (f92_x1_d) (liB rfl (f92_b [1, 1, 1, 4, 5]) (f92_n2_d) (by kernel_rfl)))
noncomputable def script_reader_number (x0 : Value) (H : AH) : OV := dCode PP GG (bF PP GG) (f92_b []) (ls [x0] 55) H f92_r kx0 f92_r dPan
theorem script_reader_number_of (x0 : Value) (H : AH) {r : Value × AH} (h : (
  script_reader_number_k0 x0 (vw 0) (vw 0) (vi 0) H) = some r) : FB n_script_reader_number [x0] H = some r :=
  fob (t := script_reader_number x0 H) Tryz.func92 (by kernel_rfl) (Eq.trans (ptB rfl 2 (f92_n0_d) (by kernel_rfl)) h)

-- FUNCTION script_read
noncomputable def f32_b (p : List Nat) : Code := Code.sub (bodyOf Tryz.f32) p
noncomputable def f32_r : KK := cFin PP (Tryz.f32).results.toList
noncomputable def f32_p (y0 y1 y2 : Value) : KP := fun v A H => (mendF PP GG n_script_read_1 [y0, y1, y2] v H).bind fun H => cFin PP (Tryz.f32).results.toList A H
noncomputable def f32_c (y0 y1 y2 : Value) : KK := DQ (f32_b [1, 1]) f32_r kx0 f32_r (f32_p y0 y1 y2)
noncomputable def script_read_body (y0 y1 y2 : Value) (x0 x2 x3 x4 : Value) (H : AH) : OV := f32_c y0 y1 y2 (ls [x0, u, x2, x3, x4] 26) H
noncomputable def f32_n0 (y0 y1 y2 : Value) : KK := DQ (f32_b [1, 1, 1, 1]) f32_r kx0 f32_r (f32_p y0 y1 y2)
noncomputable def f32_m0 (y0 y1 y2 : Value) : KK := clr 2147483587 (f32_n0 y0 y1 y2)
noncomputable def script_read_k0 (y0 y1 y2 : Value) (x2 x3 x4 x5 : Value) (H : AH) : OV := f32_n0 y0 y1 y2 (ls [u, u, x2, x3, x4, x5] 25) H
noncomputable def f32_n1 (y0 y1 y2 : Value) : KK := DQ (f32_b [1, 1, 1, 1, 1]) f32_r kx0 f32_r (f32_p y0 y1 y2)
noncomputable def f32_m1 (y0 y1 y2 : Value) : KK := clr 2147483587 (f32_n1 y0 y1 y2)
noncomputable def script_read_k1 (y0 y1 y2 : Value) (x2 x3 x4 x5 : Value) (H : AH) : OV := f32_n1 y0 y1 y2 (ls [u, u, x2, x3, x4, x5] 25) H
noncomputable def f32_n2 (y0 y1 y2 : Value) : KK := DQ (f32_b [1, 1, 1, 1, 1, 1]) f32_r kx0 f32_r (f32_p y0 y1 y2)
noncomputable def f32_m2 (y0 y1 y2 : Value) : KK := clr 2147483619 (f32_n2 y0 y1 y2)
noncomputable def script_read_k2 (y0 y1 y2 : Value) (x2 x3 x4 : Value) (H : AH) : OV := f32_n2 y0 y1 y2 (ls [u, u, x2, x3, x4] 26) H
noncomputable def f32_n19 (y0 y1 y2 : Value) : KK := DQ (f32_b [1, 1, 1, 1, 0, 1]) (f32_m1 y0 y1 y2) kx0 f32_r (f32_p y0 y1 y2)
noncomputable def f32_m19 (y0 y1 y2 : Value) : KK := clr 2147459011 (f32_n19 y0 y1 y2)
noncomputable def script_read_k19 (y0 y1 y2 : Value) (x2 x3 x4 x5 x13 x14 : Value) (H : AH) : OV := f32_n19 y0 y1 y2 (ls [u, u, x2, x3, x4, x5, u, u, u, u, u, u, u, x13, x14] 16) H
noncomputable def f32_x20 (y0 y1 y2 : Value) : KX := BX 0 (f32_m1 y0 y1 y2) kx0
noncomputable def f32_y20 (y0 y1 y2 : Value) : KX := clx 2147483587 (f32_x20 y0 y1 y2)
noncomputable def f32_n21 (y0 y1 y2 : Value) : KK := DLq (f32_b [1, 1, 1, 1, 0, 1, 4, 5]) (f32_y20 y0 y1 y2) f32_r (f32_p y0 y1 y2)
noncomputable def f32_m21 (y0 y1 y2 : Value) : KK := clr 2147459011 (f32_n21 y0 y1 y2)
-- a loop
noncomputable def script_read_k21 (y0 y1 y2 : Value) (x2 x3 x4 x5 x13 x14 : Value) (H : AH) : OV := f32_n21 y0 y1 y2 (ls [u, u, x2, x3, x4, x5, u, u, u, u, u, u, u, x13, x14] 16) H
noncomputable def f32_n22 (y0 y1 y2 : Value) : KK := DQ (f32_b [1, 1, 1, 1, 0, 1, 4, 5, 1, 1]) (f32_m21 y0 y1 y2) (f32_y20 y0 y1 y2) f32_r (f32_p y0 y1 y2)
noncomputable def f32_m22 (y0 y1 y2 : Value) : KK := clr 2147459011 (f32_n22 y0 y1 y2)
noncomputable def script_read_k22 (y0 y1 y2 : Value) (x2 x3 x4 x5 x13 x14 : Value) (H : AH) : OV := f32_n22 y0 y1 y2 (ls [u, u, x2, x3, x4, x5, u, u, u, u, u, u, u, x13, x14] 16) H
noncomputable def f32_n23 (y0 y1 y2 : Value) : KK := DQ (f32_b [1, 1, 1, 1, 0, 1, 4, 5, 1, 1, 1]) (f32_m21 y0 y1 y2) (f32_y20 y0 y1 y2) f32_r (f32_p y0 y1 y2)
noncomputable def f32_m23 (y0 y1 y2 : Value) : KK := clr 2147459011 (f32_n23 y0 y1 y2)
noncomputable def script_read_k23 (y0 y1 y2 : Value) (x2 x3 x4 x5 x13 x14 : Value) (H : AH) : OV := f32_n23 y0 y1 y2 (ls [u, u, x2, x3, x4, x5, u, u, u, u, u, u, u, x13, x14] 16) H
noncomputable def f32_x25 (y0 y1 y2 : Value) : KX := BX 1 (f32_m23 y0 y1 y2) (f32_y20 y0 y1 y2)
noncomputable def f32_y25 (y0 y1 y2 : Value) : KX := clx 2147459011 (f32_x25 y0 y1 y2)
noncomputable def script_read_e20_0 (y0 y1 y2 : Value) (x2 x3 x4 x5 : Value) (H : AH) : OV := f32_x20 y0 y1 y2 0 (ls [u, u, x2, x3, x4, x5] 25) H
theorem f32_r_d : Resp 2147483619 f32_r := rf
theorem f32_p_d (y0 y1 y2 : Value) : ∀ v, Resp 2147483619 (f32_p y0 y1 y2 v) := fun v => resp_mend rf
theorem f32_n0_d (y0 y1 y2 : Value) : Resp 2147483587 (f32_n0 y0 y1 y2) := rcB f32_r_d kx0_d f32_r_d (f32_p_d y0 y1 y2)
theorem f32_n1_d (y0 y1 y2 : Value) : Resp 2147483587 (f32_n1 y0 y1 y2) := rcB f32_r_d kx0_d f32_r_d (f32_p_d y0 y1 y2)
theorem f32_n2_d (y0 y1 y2 : Value) : Resp 2147483619 (f32_n2 y0 y1 y2) := rcB f32_r_d kx0_d f32_r_d (f32_p_d y0 y1 y2)
theorem f32_n19_d (y0 y1 y2 : Value) : Resp 2147459011 (f32_n19 y0 y1 y2) := rcB (cd (f32_n1_d y0 y1 y2)) kx0_d f32_r_d (f32_p_d y0 y1 y2)
theorem f32_x20_d (y0 y1 y2 : Value) : ∀ i, Resp 2147483587 (f32_x20 y0 y1 y2 i) := rb (cd (f32_n1_d y0 y1 y2)) kx0_d
theorem f32_n21_d (y0 y1 y2 : Value) : Resp 2147459011 (f32_n21 y0 y1 y2) := rlB (cx (f32_x20_d y0 y1 y2)) f32_r_d (f32_p_d y0 y1 y2)
theorem f32_n22_d (y0 y1 y2 : Value) : Resp 2147459011 (f32_n22 y0 y1 y2) := rcB (cd (f32_n21_d y0 y1 y2)) (cx (f32_x20_d y0 y1 y2)) f32_r_d (f32_p_d y0 y1 y2)
theorem f32_n23_d (y0 y1 y2 : Value) : Resp 2147459011 (f32_n23 y0 y1 y2) := rcB (cd (f32_n21_d y0 y1 y2)) (cx (f32_x20_d y0 y1 y2)) f32_r_d (f32_p_d y0 y1 y2)
theorem f32_x25_d (y0 y1 y2 : Value) : ∀ i, Resp 2147459011 (f32_x25 y0 y1 y2 i) := rb (cd (f32_n23_d y0 y1 y2)) (cx (f32_x20_d y0 y1 y2))
theorem script_read_k2_eq (y0 y1 y2 : Value) (x2 x3 x4 : Value) (H : AH) : script_read_k2 y0 y1 y2 x2 x3 x4 H =
  (pLdN 6 x2 H).bind fun v3 =>
  (pLd1 x3 H).bind fun v4 =>
  (pSt 6 x2 v3 H).bind fun H5 =>
  eqK (pLd1 x3 H5) (pLd1 x3 H) <|
  (pSt 1 x3 v4 H5).bind fun H6 =>
  (pSt 1 x4 (vi 0) H6).bind fun H7 =>
  (pLdN 6 x2 H7).bind fun v8 => (pLd1 x3 H7).bind fun v9 => (pLd1 x4 H7).bind fun v10 => some (Value.tuple #[v8, v9, v10], H7) :=
  (by kernel_rfl)
theorem script_read_k1_eq (y0 y1 y2 : Value) (x2 x3 x4 x5 : Value) (H : AH) : script_read_k1 y0 y1 y2 x2 x3 x4 x5 H =
  ld [.n, .f 0] x5 H fun v11 =>
  lenK v11 fun v12 =>
  (pBin .other .gtr v12 (vi 0)).bind fun v13 =>
  condK v13
  (panK (.iface 32 (vi 11)) fun p14 =>
  (mendF PP GG n_script_read_1 [y0, y1, y2] p14 H).bind fun H15 =>
  (pLdN 6 x2 H15).bind fun v16 => (pLd1 x3 H15).bind fun v17 => (pLd1 x4 H15).bind fun v18 => some (Value.tuple #[v16, v17, v18], H15))
  (script_read_k2 y0 y1 y2 x2 x3 x4 H) :=
  (ptB rfl 0 (f32_n2_d y0 y1 y2) (by kernel_rfl))
theorem script_read_k23_eq (y0 y1 y2 : Value) (x2 x3 x4 x5 x13 x14 : Value) (H : AH) : script_read_k23 y0 y1 y2 x2 x3 x4 x5 x13 x14 H =
  (pBin .other .add x14 (vi 1)).bind fun v24 =>
  script_read_k21 y0 y1 y2 x2 x3 x4 x5 x13 v24 H :=
  (by kernel_rfl)
theorem script_read_k22_eq (y0 y1 y2 : Value) (x2 x3 x4 x5 x13 x14 : Value) (H : AH) : script_read_k22 y0 y1 y2 x2 x3 x4 x5 x13 x14 H =
  (pLd1 x3 H).bind fun v26 =>
  (FF n_script_reader_small [x5, (vi 0), (vi 63)] H).bind fun r27 =>
  eqK (pLd1 x3 r27.2) (pLd1 x3 H) <|
  mkR 1 1 [(vi 0)] [(0, r27.1)] r27.2 fun v28 H29 =>
  (pApp 1 8 v26 v28 H29).bind fun r30 =>
  (pSt 1 x3 r30.1 r30.2).bind fun H31 =>
  script_read_k23 y0 y1 y2 x2 x3 x4 x5 x13 x14 H31 :=
  (ptB rfl 0 (f32_n23_d y0 y1 y2) (btB rfl (f32_b [1, 1, 1, 1, 0, 1, 4, 5, 1, 1, 0, 4]) 1 (f32_x25_d y0 y1 y2) (by kernel_rfl)))
theorem script_read_e20_0_eq (y0 y1 y2 : Value) (x2 x3 x4 x5 : Value) (H : AH) : script_read_e20_0 y0 y1 y2 x2 x3 x4 x5 H = script_read_k1 y0 y1 y2 x2 x3 x4 x5 H :=
  (by kernel_rfl)
theorem script_read_k21_eq (y0 y1 y2 : Value) (x2 x3 x4 x5 x13 x14 : Value) (H : AH) : script_read_k21 y0 y1 y2 x2 x3 x4 x5 x13 x14 H =
  (pBin .other .lss x14 x13).bind fun v32 =>
  condK v32
  (script_read_k22 y0 y1 y2 x2 x3 x4 x5 x13 x14 H)
  (script_read_e20_0 y0 y1 y2 x2 x3 x4 x5 H) :=
  ltB' rfl (f32_n21_d y0 y1 y2) (ptB rfl 1 (f32_n22_d y0 y1 y2) (by kernel_rfl))
theorem script_read_k19_eq (y0 y1 y2 : Value) (x2 x3 x4 x5 x13 x14 : Value) (H : AH) : script_read_k19 y0 y1 y2 x2 x3 x4 x5 x13 x14 H =
  script_read_k21 y0 y1 y2 x2 x3 x4 x5 x13 x14 H :=
  (btB rfl (f32_b [1, 1, 1, 1, 0, 1, 4]) 0 (f32_x20_d y0 y1 y2) (liB rfl (f32_b [1, 1, 1, 1, 0, 1, 4, 5]) (f32_n21_d y0 y1 y2) (by kernel_rfl)))
theorem script_read_k0_eq (y0 y1 y2 : Value) (x2 x3 x4 x5 : Value) (H : AH) : script_read_k0 y0 y1 y2 x2 x3 x4 x5 H =
  (FB n_script_reader_small [x5, (vi 0), (vi 4000)] H).bind fun r33 =>
  outK r33.1 (fun v34 =>
  script_read_k19 y0 y1 y2 x2 x3 x4 x5 v34 (vi 0) r33.2) (fun p35 =>
  (mendF PP GG n_script_read_1 [y0, y1, y2] p35 r33.2).bind fun H36 =>
  (pLdN 6 x2 H36).bind fun v37 => (pLd1 x3 H36).bind fun v38 => (pLd1 x4 H36).bind fun v39 => some (Value.tuple #[v37, v38, v39], H36)) :=
  (ptB rfl 0 (f32_n1_d y0 y1 y2) (ptB rfl 0 (f32_n19_d y0 y1 y2) (by kernel_rfl)))
theorem script_read_body_eq (y0 y1 y2 : Value) (x0 x2 x3 x4 : Value) (H : AH) : script_read_body y0 y1 y2 x0 x2 x3 x4 H =
  mkS [(0, 1)] [(.slice none 0 0)] [(0, x0)] fun v40 =>
  newK (Value.cells v40).toList H fun v41 H42 =>
  (FB n_script_reader_plan [v41] H42).bind fun r43 =>
  outK r43.1 (fun v44 =>
  (pSt 6 x2 v44 r43.2).bind fun H46 =>
  script_read_k0 y0 y1 y2 x2 x3 x4 v41 H46) (fun p45 =>
  (mendF PP GG n_script_read_1 [y0, y1, y2] p45 r43.2).bind fun H47 =>
  (pLdN 6 x2 H47).bind fun v48 => (pLd1 x3 H47).bind fun v49 => (pLd1 x4 H47).bind fun v50 => some (Value.tuple #[v48, v49, v50], H47)) :=
  (ptB rfl 1 (f32_n0_d y0 y1 y2) (by kernel_rfl))
theorem script_read_of (x0 : Value) (H : AH) {r : Value × AH} (hh : Harmless PP n_script_read_1) (h : (
  newK [(vi 0), (vi 0), (vi 0), (vi 0), (vw 0), (.slice none 0 0)] H fun v51 H52 =>
  newK [(.slice none 0 0)] H52 fun v53 H54 =>
  newK [(vi 0)] H54 fun v55 H56 =>
  script_read_body v51 v53 v55 x0 v51 v53 v55 H56) = some r) : FF n_script_read [x0] H = some r :=
  foe2 2147483618 2147483619 n_script_read_1 Tryz.func32 hh (by kernel_rfl) h

end Go.Proofs.YthagelbepgcolaaGreatDoor.Gst
