/- THE FUNCTIONS OF THE PROGRAM AS PLAIN LEAN FUNCTIONS: printed by a program of this work (XPr), each checked by the kernel against the program's text. -/
import Derived.Test.YthagelbepgcolaaGreatDoorKa
namespace Go.Proofs.YthagelbepgcolaaGreatDoor.Gst
open Go Go.RowKit
set_option maxRecDepth 100000
set_option linter.unusedVariables false
set_option maxHeartbeats 1000000
-- FUNCTION r30_Encode
noncomputable def f13_b (p : List Nat) : Code := Code.sub (bodyOf Tryz.f13) p
noncomputable def f13_r : KK := cFin PP (Tryz.f13).results.toList
noncomputable def f13_n0 : KK := CQ (f13_b [1, 1, 1, 1, 1]) f13_r kx0 f13_r
noncomputable def f13_m0 : KK := clr 2854495385411919762116571938898990272765493065 f13_n0
noncomputable def r30_Encode_k0 (x1 x2 x4 x5 x7 : Value) (H : AH) : OV := f13_n0 (ls [u, x1, x2, u, x4, x5, u, x7] 143) H
noncomputable def f13_n1 : KK := CQ (f13_b [1, 1, 1, 1, 1, 1]) f13_r kx0 f13_r
noncomputable def f13_m1 : KK := clr 2854495385411919762116571938898990272765493069 f13_n1
noncomputable def r30_Encode_k1 (x1 x4 x5 x7 : Value) (H : AH) : OV := f13_n1 (ls [u, x1, u, u, x4, x5, u, x7] 143) H
noncomputable def f13_n2 : KK := CQ (f13_b [1, 1, 1, 1, 1, 1, 1]) f13_r kx0 f13_r
noncomputable def f13_m2 : KK := clr 2854495385411919762116571938898990272765493069 f13_n2
noncomputable def r30_Encode_k2 (x1 x4 x5 x7 : Value) (H : AH) : OV := f13_n2 (ls [u, x1, u, u, x4, x5, u, x7] 143) H
noncomputable def f13_n3 : KK := CQ (f13_b [1, 1, 1, 1, 1, 1, 1, 1]) f13_r kx0 f13_r
noncomputable def f13_m3 : KK := clr 2854495385411919762116571938898990272765493071 f13_n3
noncomputable def r30_Encode_k3 (x4 x5 x7 : Value) (H : AH) : OV := f13_n3 (ls [u, u, u, u, x4, x5, u, x7] 143) H
noncomputable def f13_n4 : KK := CQ (f13_b [1, 1, 1, 1, 1, 1, 1, 0, 1]) f13_m3 kx0 f13_r
noncomputable def f13_m4 : KK := clr 2854495385411919762116571938898990272765491021 f13_n4
noncomputable def r30_Encode_k4 (x1 x4 x5 x7 x11 : Value) (H : AH) : OV := f13_n4 (ls [u, x1, u, u, x4, x5, u, x7, u, u, u, x11] 139) H
noncomputable def f13_x5 : KX := BX 4 f13_m3 kx0
noncomputable def f13_y5 : KX := clx 2854495385411919762116571938898990272765493071 (f13_x5)
noncomputable def f13_n6 : KK := CLq (f13_b [1, 1, 1, 1, 1, 1, 1, 0, 1, 4, 5]) f13_y5 f13_r
noncomputable def f13_m6 : KK := clr 2854495385411919762116571938898990272765491021 f13_n6
-- a loop
noncomputable def r30_Encode_k6 (x1 x4 x5 x7 x11 : Value) (H : AH) : OV := f13_n6 (ls [u, x1, u, u, x4, x5, u, x7, u, u, u, x11] 139) H
noncomputable def f13_n7 : KK := CQ (f13_b [1, 1, 1, 1, 1, 1, 1, 0, 1, 4, 5, 1]) f13_m6 f13_y5 f13_r
noncomputable def f13_m7 : KK := clr 2854495385411919762116571938898990272765491021 f13_n7
noncomputable def r30_Encode_k7 (x1 x4 x5 x7 x11 : Value) (H : AH) : OV := f13_n7 (ls [u, x1, u, u, x4, x5, u, x7, u, u, u, x11] 139) H
noncomputable def f13_n8 : KK := CQ (f13_b [1, 1, 1, 1, 1, 1, 1, 0, 1, 4, 5, 1, 1]) f13_m6 f13_y5 f13_r
noncomputable def f13_m8 : KK := clr 2854495385411919762116571938898990272765491021 f13_n8
noncomputable def r30_Encode_k8 (x1 x4 x5 x7 x11 : Value) (H : AH) : OV := f13_n8 (ls [u, x1, u, u, x4, x5, u, x7, u, u, u, x11] 139) H
noncomputable def f13_x10 : KX := BX 5 f13_m8 f13_y5
noncomputable def f13_y10 : KX := clx 2854495385411919762116571938898990272765491021 (f13_x10)
noncomputable def r30_Encode_e5_4 (x4 x5 x7 : Value) (H : AH) : OV := f13_x5 4 (ls [u, u, u, u, x4, x5, u, x7] 143) H
noncomputable def f13_n26 : KK := CQ (f13_b [1, 1, 1, 1, 1, 0, 1]) f13_m1 kx0 f13_r
noncomputable def f13_m26 : KK := clr 2854495385411919762116571938898990272765492809 f13_n26
noncomputable def r30_Encode_k26 (x1 x2 x4 x5 x7 x8 : Value) (H : AH) : OV := f13_n26 (ls [u, x1, x2, u, x4, x5, u, x7, x8] 142) H
noncomputable def f13_x27 : KX := BX 0 f13_m1 kx0
noncomputable def f13_y27 : KX := clx 2854495385411919762116571938898990272765493069 (f13_x27)
noncomputable def f13_n28 : KK := CLq (f13_b [1, 1, 1, 1, 1, 0, 1, 4, 5]) f13_y27 f13_r
noncomputable def f13_m28 : KK := clr 2854495385411919762116571938898990272765492809 f13_n28
-- a loop
noncomputable def r30_Encode_k28 (x1 x2 x4 x5 x7 x8 : Value) (H : AH) : OV := f13_n28 (ls [u, x1, x2, u, x4, x5, u, x7, x8] 142) H
noncomputable def f13_n29 : KK := CQ (f13_b [1, 1, 1, 1, 1, 0, 1, 4, 5, 1]) f13_m28 f13_y27 f13_r
noncomputable def f13_m29 : KK := clr 2854495385411919762116571938898990272765492809 f13_n29
noncomputable def r30_Encode_k29 (x1 x2 x4 x5 x7 x8 : Value) (H : AH) : OV := f13_n29 (ls [u, x1, x2, u, x4, x5, u, x7, x8] 142) H
noncomputable def f13_n30 : KK := CQ (f13_b [1, 1, 1, 1, 1, 0, 1, 4, 5, 1, 1]) f13_m28 f13_y27 f13_r
noncomputable def f13_m30 : KK := clr 2854495385411919762116571938898990272765492809 f13_n30
noncomputable def r30_Encode_k30 (x1 x2 x4 x5 x7 x8 : Value) (H : AH) : OV := f13_n30 (ls [u, x1, x2, u, x4, x5, u, x7, x8] 142) H
noncomputable def f13_x32 : KX := BX 1 f13_m30 f13_y27
noncomputable def f13_y32 : KX := clx 2854495385411919762116571938898990272765492809 (f13_x32)
noncomputable def f13_n33 : KK := CQ (f13_b [1, 1, 1, 1, 1, 0, 1, 4, 5, 1, 0, 4, 1, 1]) f13_m30 f13_y32 f13_r
noncomputable def f13_m33 : KK := clr 2854495385411919762116571938898990272765492297 f13_n33
noncomputable def r30_Encode_k33 (x1 x2 x4 x5 x7 x8 x9 : Value) (H : AH) : OV := f13_n33 (ls [u, x1, x2, u, x4, x5, u, x7, x8, x9] 141) H
noncomputable def f13_x34 : KX := BX 2 f13_m30 f13_y32
noncomputable def f13_y34 : KX := clx 2854495385411919762116571938898990272765492809 (f13_x34)
noncomputable def f13_n35 : KK := CLq (f13_b [1, 1, 1, 1, 1, 0, 1, 4, 5, 1, 0, 4, 1, 1, 4, 5]) f13_y34 f13_r
noncomputable def f13_m35 : KK := clr 2854495385411919762116571938898990272765492297 f13_n35
-- a loop
noncomputable def r30_Encode_k35 (x1 x2 x4 x5 x7 x8 x9 : Value) (H : AH) : OV := f13_n35 (ls [u, x1, x2, u, x4, x5, u, x7, x8, x9] 141) H
noncomputable def f13_n36 : KK := CQ (f13_b [1, 1, 1, 1, 1, 0, 1, 4, 5, 1, 0, 4, 1, 1, 4, 5, 1]) f13_m35 f13_y34 f13_r
noncomputable def f13_m36 : KK := clr 2854495385411919762116571938898990272765492297 f13_n36
noncomputable def r30_Encode_k36 (x1 x2 x4 x5 x7 x8 x9 : Value) (H : AH) : OV := f13_n36 (ls [u, x1, x2, u, x4, x5, u, x7, x8, x9] 141) H
noncomputable def f13_n37 : KK := CQ (f13_b [1, 1, 1, 1, 1, 0, 1, 4, 5, 1, 0, 4, 1, 1, 4, 5, 1, 1]) f13_m35 f13_y34 f13_r
noncomputable def f13_m37 : KK := clr 2854495385411919762116571938898990272765492297 f13_n37
noncomputable def r30_Encode_k37 (x1 x2 x4 x5 x7 x8 x9 : Value) (H : AH) : OV := f13_n37 (ls [u, x1, x2, u, x4, x5, u, x7, x8, x9] 141) H
noncomputable def f13_x39 : KX := BX 3 f13_m37 f13_y34
noncomputable def f13_y39 : KX := clx 2854495385411919762116571938898990272765492297 (f13_x39)
noncomputable def r30_Encode_e34_2 (x1 x2 x4 x5 x7 x8 : Value) (H : AH) : OV := f13_x34 2 (ls [u, x1, x2, u, x4, x5, u, x7, x8] 142) H
noncomputable def r30_Encode_e27_0 (x1 x4 x5 x7 : Value) (H : AH) : OV := f13_x27 0 (ls [u, x1, u, u, x4, x5, u, x7] 143) H
theorem f13_r_d : Resp 2854495385411919762116571938898990272765493199 f13_r := rf
theorem f13_n0_d : Resp 2854495385411919762116571938898990272765493065 f13_n0 := rc f13_r_d kx0_d f13_r_d
theorem f13_n1_d : Resp 2854495385411919762116571938898990272765493069 f13_n1 := rc f13_r_d kx0_d f13_r_d
theorem f13_n2_d : Resp 2854495385411919762116571938898990272765493069 f13_n2 := rc f13_r_d kx0_d f13_r_d
theorem f13_n3_d : Resp 2854495385411919762116571938898990272765493071 f13_n3 := rc f13_r_d kx0_d f13_r_d
theorem f13_n4_d : Resp 2854495385411919762116571938898990272765491021 f13_n4 := rc (cd (f13_n3_d)) kx0_d f13_r_d
theorem f13_x5_d : ∀ i, Resp 2854495385411919762116571938898990272765493071 (f13_x5 i) := rb (cd (f13_n3_d)) kx0_d
theorem f13_n6_d : Resp 2854495385411919762116571938898990272765491021 f13_n6 := rl (cx (f13_x5_d)) f13_r_d
theorem f13_n7_d : Resp 2854495385411919762116571938898990272765491021 f13_n7 := rc (cd (f13_n6_d)) (cx (f13_x5_d)) f13_r_d
theorem f13_n8_d : Resp 2854495385411919762116571938898990272765491021 f13_n8 := rc (cd (f13_n6_d)) (cx (f13_x5_d)) f13_r_d
theorem f13_x10_d : ∀ i, Resp 2854495385411919762116571938898990272765491021 (f13_x10 i) := rb (cd (f13_n8_d)) (cx (f13_x5_d))
theorem f13_n26_d : Resp 2854495385411919762116571938898990272765492809 f13_n26 := rc (cd (f13_n1_d)) kx0_d f13_r_d
theorem f13_x27_d : ∀ i, Resp 2854495385411919762116571938898990272765493069 (f13_x27 i) := rb (cd (f13_n1_d)) kx0_d
theorem f13_n28_d : Resp 2854495385411919762116571938898990272765492809 f13_n28 := rl (cx (f13_x27_d)) f13_r_d
theorem f13_n29_d : Resp 2854495385411919762116571938898990272765492809 f13_n29 := rc (cd (f13_n28_d)) (cx (f13_x27_d)) f13_r_d
theorem f13_n30_d : Resp 2854495385411919762116571938898990272765492809 f13_n30 := rc (cd (f13_n28_d)) (cx (f13_x27_d)) f13_r_d
theorem f13_x32_d : ∀ i, Resp 2854495385411919762116571938898990272765492809 (f13_x32 i) := rb (cd (f13_n30_d)) (cx (f13_x27_d))
theorem f13_n33_d : Resp 2854495385411919762116571938898990272765492297 f13_n33 := rc (cd (f13_n30_d)) (cx (f13_x32_d)) f13_r_d
theorem f13_x34_d : ∀ i, Resp 2854495385411919762116571938898990272765492809 (f13_x34 i) := rb (cd (f13_n30_d)) (cx (f13_x32_d))
theorem f13_n35_d : Resp 2854495385411919762116571938898990272765492297 f13_n35 := rl (cx (f13_x34_d)) f13_r_d
theorem f13_n36_d : Resp 2854495385411919762116571938898990272765492297 f13_n36 := rc (cd (f13_n35_d)) (cx (f13_x34_d)) f13_r_d
theorem f13_n37_d : Resp 2854495385411919762116571938898990272765492297 f13_n37 := rc (cd (f13_n35_d)) (cx (f13_x34_d)) f13_r_d
theorem f13_x39_d : ∀ i, Resp 2854495385411919762116571938898990272765492297 (f13_x39 i) := rb (cd (f13_n37_d)) (cx (f13_x34_d))
theorem r30_Encode_k3_eq (x4 x5 x7 : Value) (H : AH) : r30_Encode_k3 x4 x5 x7 H =
  some (Value.tuple #[x7, (vi 0)], H) :=
  (by kernel_rfl)
theorem r30_Encode_k8_eq (x1 x4 x5 x7 x11 : Value) (H : AH) : r30_Encode_k8 x1 x4 x5 x7 x11 H =
  (pBin .other .add x11 (vi 1)).bind fun v9 =>
  r30_Encode_k6 x1 x4 x5 x7 v9 H :=
  (by kernel_rfl)
theorem r30_Encode_k7_eq (x1 x4 x5 x7 x11 : Value) (H : AH) : r30_Encode_k7 x1 x4 x5 x7 x11 H =
  ld [.i 1 x11] x1 H fun v11 =>
  (pBin .other .lss v11 (vi 0)).bind fun v12 =>
  (gV v12 false x1).bind fun v13 =>
  (gV v12 false x11).bind fun v14 =>
  gld v12 false  [.i 1 v14] v13 H fun v15 =>
  (gB v12 false (pBin .other .gtr v15 (vi 63))).bind fun v16 =>
  (pPick v12 (vb true) v16).bind fun v17 =>
  condK v17
  (some (Value.tuple #[(.slice none 0 0), (vi 1)], H))
  (ld [.i 1 x11] x1 H fun v18 =>
  (pConv (some .u64) v18).bind fun v19 =>
  (FF n_r30_put [x7, v19] H).bind fun r20 =>
  r30_Encode_k8 x1 x4 x5 r20.1 x11 r20.2) :=
  (pt rfl 0 (f13_n8_d) (bt rfl (f13_b [1, 1, 1, 1, 1, 1, 1, 0, 1, 4, 5, 1, 0, 4]) 5 (f13_x10_d) (by kernel_rfl)))
theorem r30_Encode_e5_4_eq (x4 x5 x7 : Value) (H : AH) : r30_Encode_e5_4 x4 x5 x7 H = r30_Encode_k3 x4 x5 x7 H :=
  (by kernel_rfl)
theorem r30_Encode_k6_eq (x1 x4 x5 x7 x11 : Value) (H : AH) : r30_Encode_k6 x1 x4 x5 x7 x11 H =
  lenK x1 fun v21 =>
  (pBin .other .lss x11 v21).bind fun v22 =>
  condK v22
  (r30_Encode_k7 x1 x4 x5 x7 x11 H)
  (r30_Encode_e5_4 x4 x5 x7 H) :=
  lt' rfl (f13_n6_d) (pt rfl 0 (f13_n7_d) (by kernel_rfl))
theorem r30_Encode_k4_eq (x1 x4 x5 x7 x11 : Value) (H : AH) : r30_Encode_k4 x1 x4 x5 x7 x11 H =
  r30_Encode_k6 x1 x4 x5 x7 x11 H :=
  (bt rfl (f13_b [1, 1, 1, 1, 1, 1, 1, 0, 1, 4]) 4 (f13_x5_d) (li rfl (f13_b [1, 1, 1, 1, 1, 1, 1, 0, 1, 4, 5]) (f13_n6_d) (by kernel_rfl)))
theorem r30_Encode_k2_eq (x1 x4 x5 x7 : Value) (H : AH) : r30_Encode_k2 x1 x4 x5 x7 H =
  r30_Encode_k4 x1 x4 x5 x7 (vi 0) H :=
  (pt rfl 0 (f13_n3_d) (pt rfl 0 (f13_n4_d) (by kernel_rfl)))
theorem r30_Encode_k1_eq (x1 x4 x5 x7 : Value) (H : AH) : r30_Encode_k1 x1 x4 x5 x7 H =
  lenK x1 fun v23 =>
  (pConv (some .u64) v23).bind fun v24 =>
  (FF n_r30_put [x7, v24] H).bind fun r25 =>
  r30_Encode_k2 x1 x4 x5 r25.1 r25.2 :=
  (pt rfl 0 (f13_n2_d) (by kernel_rfl))
theorem r30_Encode_k30_eq (x1 x2 x4 x5 x7 x8 : Value) (H : AH) : r30_Encode_k30 x1 x2 x4 x5 x7 x8 H =
  (pBin .other .add x8 (vi 1)).bind fun v31 =>
  r30_Encode_k28 x1 x2 x4 x5 x7 v31 H :=
  (by kernel_rfl)
theorem r30_Encode_k37_eq (x1 x2 x4 x5 x7 x8 x9 : Value) (H : AH) : r30_Encode_k37 x1 x2 x4 x5 x7 x8 x9 H =
  (pBin .other .add x9 (vi 1)).bind fun v38 =>
  r30_Encode_k35 x1 x2 x4 x5 x7 x8 v38 H :=
  (by kernel_rfl)
theorem r30_Encode_k36_eq (x1 x2 x4 x5 x7 x8 x9 : Value) (H : AH) : r30_Encode_k36 x1 x2 x4 x5 x7 x8 x9 H =
  ld [.f 5] x2 H fun v40 =>
  ld [.i 1 x8] v40 H fun v41 =>
  ldN 4 [.i 4 x9] v41 H fun v42 =>
  newK [(vi 0), (vi 0), (vi 0), (vi 0)] H fun v43 H44 =>
  (pSt 4 v43 v42 H44).bind fun H45 =>
  ld [.f 0] v43 H45 fun v46 =>
  (FF n_r30_small [v46] H45).bind fun r47 =>
  (pUn .not r47.1).bind fun v48 =>
  gld v48 false  [.f 1] v43 r47.2 fun v49 =>
  (gE v48 false r47.2 (FF n_r30_small [v49] r47.2)).bind fun r50 =>
  (gB v48 false (pUn .not r50.1)).bind fun v51 =>
  (pPick v48 (vb true) v51).bind fun v52 =>
  gld v52 false  [.f 2] v43 r50.2 fun v53 =>
  (gE v52 false r50.2 (FF n_r30_small [v53] r50.2)).bind fun r54 =>
  (gB v52 false (pUn .not r54.1)).bind fun v55 =>
  (pPick v52 (vb true) v55).bind fun v56 =>
  gld v56 false  [.f 3] v43 r54.2 fun v57 =>
  (gE v56 false r54.2 (FF n_r30_small [v57] r54.2)).bind fun r58 =>
  (gB v56 false (pUn .not r58.1)).bind fun v59 =>
  (pPick v56 (vb true) v59).bind fun v60 =>
  condK v60
  (some (Value.tuple #[(.slice none 0 0), (vi 1)], r58.2))
  (ld [.f 0] v43 r58.2 fun v61 =>
  (pConv (some .u64) v61).bind fun v62 =>
  (FF n_r30_put [x7, v62] r58.2).bind fun r63 =>
  ad [.f 1] v43 fun v64 =>
  (pLd1 v64 r63.2).bind fun v65 =>
  eqK (pLd1 v64 r58.2) (pLd1 v64 r63.2) <|
  (pConv (some .u64) v65).bind fun v66 =>
  (FF n_r30_put [r63.1, v66] r63.2).bind fun r67 =>
  ad [.f 2] v43 fun v68 =>
  (pLd1 v68 r67.2).bind fun v69 =>
  eqK (pLd1 v68 r58.2) (pLd1 v68 r67.2) <|
  eqK (pLd1 v68 r63.2) (pLd1 v68 r67.2) <|
  (pConv (some .u64) v69).bind fun v70 =>
  (FF n_r30_put [r67.1, v70] r67.2).bind fun r71 =>
  ad [.f 3] v43 fun v72 =>
  (pLd1 v72 r71.2).bind fun v73 =>
  eqK (pLd1 v72 r58.2) (pLd1 v72 r71.2) <|
  eqK (pLd1 v72 r63.2) (pLd1 v72 r71.2) <|
  eqK (pLd1 v72 r67.2) (pLd1 v72 r71.2) <|
  (pConv (some .u64) v73).bind fun v74 =>
  (FF n_r30_put [r71.1, v74] r71.2).bind fun r75 =>
  r30_Encode_k37 x1 x2 x4 x5 r75.1 x8 x9 r75.2) :=
  (pt rfl 0 (f13_n37_d) (bt rfl (f13_b [1, 1, 1, 1, 1, 0, 1, 4, 5, 1, 0, 4, 1, 1, 4, 5, 1, 0, 4]) 3 (f13_x39_d) (by kernel_rfl)))
theorem r30_Encode_e34_2_eq (x1 x2 x4 x5 x7 x8 : Value) (H : AH) : r30_Encode_e34_2 x1 x2 x4 x5 x7 x8 H = r30_Encode_k30 x1 x2 x4 x5 x7 x8 H :=
  (by kernel_rfl)
theorem r30_Encode_k35_eq (x1 x2 x4 x5 x7 x8 x9 : Value) (H : AH) : r30_Encode_k35 x1 x2 x4 x5 x7 x8 x9 H =
  ld [.f 5] x2 H fun v76 =>
  ld [.i 1 x8] v76 H fun v77 =>
  lenK v77 fun v78 =>
  (pBin .other .lss x9 v78).bind fun v79 =>
  condK v79
  (r30_Encode_k36 x1 x2 x4 x5 x7 x8 x9 H)
  (r30_Encode_e34_2 x1 x2 x4 x5 x7 x8 H) :=
  lt' rfl (f13_n35_d) (pt rfl 0 (f13_n36_d) (by kernel_rfl))
theorem r30_Encode_k33_eq (x1 x2 x4 x5 x7 x8 x9 : Value) (H : AH) : r30_Encode_k33 x1 x2 x4 x5 x7 x8 x9 H =
  r30_Encode_k35 x1 x2 x4 x5 x7 x8 x9 H :=
  (bt rfl (f13_b [1, 1, 1, 1, 1, 0, 1, 4, 5, 1, 0, 4, 1, 1, 4]) 2 (f13_x34_d) (li rfl (f13_b [1, 1, 1, 1, 1, 0, 1, 4, 5, 1, 0, 4, 1, 1, 4, 5]) (f13_n35_d) (by kernel_rfl)))
theorem r30_Encode_k29_eq (x1 x2 x4 x5 x7 x8 : Value) (H : AH) : r30_Encode_k29 x1 x2 x4 x5 x7 x8 H =
  ld [.f 5] x2 H fun v80 =>
  ld [.i 1 x8] v80 H fun v81 =>
  lenK v81 fun v82 =>
  (pConv (some .u64) v82).bind fun v83 =>
  (FF n_r30_put [x7, v83] H).bind fun r84 =>
  r30_Encode_k33 x1 x2 x4 x5 r84.1 x8 (vi 0) r84.2 :=
  (pt rfl 0 (f13_n30_d) (bt rfl (f13_b [1, 1, 1, 1, 1, 0, 1, 4, 5, 1, 0, 4]) 1 (f13_x32_d) (pt rfl 1 (f13_n33_d) (by kernel_rfl))))
theorem r30_Encode_e27_0_eq (x1 x4 x5 x7 : Value) (H : AH) : r30_Encode_e27_0 x1 x4 x5 x7 H = r30_Encode_k1 x1 x4 x5 x7 H :=
  (by kernel_rfl)
theorem r30_Encode_k28_eq (x1 x2 x4 x5 x7 x8 : Value) (H : AH) : r30_Encode_k28 x1 x2 x4 x5 x7 x8 H =
  ld [.f 5] x2 H fun v85 =>
  lenK v85 fun v86 =>
  (pBin .other .lss x8 v86).bind fun v87 =>
  condK v87
  (r30_Encode_k29 x1 x2 x4 x5 x7 x8 H)
  (r30_Encode_e27_0 x1 x4 x5 x7 H) :=
  lt' rfl (f13_n28_d) (pt rfl 0 (f13_n29_d) (by kernel_rfl))
theorem r30_Encode_k26_eq (x1 x2 x4 x5 x7 x8 : Value) (H : AH) : r30_Encode_k26 x1 x2 x4 x5 x7 x8 H =
  r30_Encode_k28 x1 x2 x4 x5 x7 x8 H :=
  (bt rfl (f13_b [1, 1, 1, 1, 1, 0, 1, 4]) 0 (f13_x27_d) (li rfl (f13_b [1, 1, 1, 1, 1, 0, 1, 4, 5]) (f13_n28_d) (by kernel_rfl)))
theorem r30_Encode_k0_eq (x1 x2 x4 x5 x7 : Value) (H : AH) : r30_Encode_k0 x1 x2 x4 x5 x7 H =
  r30_Encode_k26 x1 x2 x4 x5 x7 (vi 0) H :=
  (pt rfl 0 (f13_n1_d) (pt rfl 0 (f13_n26_d) (by kernel_rfl)))
noncomputable def r30_Encode (x0 x1 : Value) (H : AH) : OV := cCode PP GG FF (f13_b []) (ls [x0, x1] 149) H f13_r kx0 f13_r
theorem r30_Encode_of (x0 x1 : Value) (H : AH) {r : Value × AH} (h : (
  newK (Value.cells x0).toList H fun v88 H89 =>
  (pLdN 6 v88 H89).bind fun v90 =>
  (FF n_r16_May [v90] H89).bind fun r91 =>
  (pUn .not r91.1).bind fun v92 =>
  (gV v92 false x1).bind fun v93 =>
  (onK (yv v92) false (lenK v93 some) (some undef)).bind fun v94 =>
  (gB v92 false (pBin .other .gtr v94 (vi 4000))).bind fun v95 =>
  (pPick v92 (vb true) v95).bind fun v96 =>
  condK v96
  (some (Value.tuple #[(.slice none 0 0), (vi 1)], r91.2))
  (ldN 5 [.f 0] v88 r91.2 fun v97 =>
  newK [(vi 0), (vi 0), (vi 0), (vi 0), (vw 0)] r91.2 fun v98 H99 =>
  (pSt 5 v98 v97 H99).bind fun H100 =>
  ld [.f 0] v98 H100 fun v101 =>
  (pConv (some .u64) v101).bind fun v102 =>
  (FF n_r30_put [(.slice none 0 0), v102] H100).bind fun r103 =>
  ad [.f 1] v98 fun v104 =>
  (pLd1 v104 r103.2).bind fun v105 =>
  eqK (pLd1 v104 H100) (pLd1 v104 r103.2) <|
  (pConv (some .u64) v105).bind fun v106 =>
  (FF n_r30_put [r103.1, v106] r103.2).bind fun r107 =>
  ad [.f 2] v98 fun v108 =>
  (pLd1 v108 r107.2).bind fun v109 =>
  eqK (pLd1 v108 H100) (pLd1 v108 r107.2) <|
  eqK (pLd1 v108 r103.2) (pLd1 v108 r107.2) <|
  (pConv (some .u64) v109).bind fun v110 =>
  (FF n_r30_put [r107.1, v110] r107.2).bind fun r111 =>
  ad [.f 3] v98 fun v112 =>
  (pLd1 v112 r111.2).bind fun v113 =>
  eqK (pLd1 v112 H100) (pLd1 v112 r111.2) <|
  eqK (pLd1 v112 r103.2) (pLd1 v112 r111.2) <|
  eqK (pLd1 v112 r107.2) (pLd1 v112 r111.2) <|
  (pConv (some .u64) v113).bind fun v114 =>
  (FF n_r30_put [r111.1, v114] r111.2).bind fun r115 =>
  ad [.f 4] v98 fun v116 =>
  (pLd1 v116 r115.2).bind fun v117 =>
  eqK (pLd1 v116 H100) (pLd1 v116 r115.2) <|
  eqK (pLd1 v116 r103.2) (pLd1 v116 r115.2) <|
  eqK (pLd1 v116 r107.2) (pLd1 v116 r115.2) <|
  eqK (pLd1 v116 r111.2) (pLd1 v116 r115.2) <|
  (FF n_r30_put [r115.1, v117] r115.2).bind fun r118 =>
  ld [.f 5] v88 r118.2 fun v119 =>
  lenK v119 fun v120 =>
  (pConv (some .u64) v120).bind fun v121 =>
  (FF n_r30_put [r118.1, v121] r118.2).bind fun r122 =>
  r30_Encode_k0 x1 v88 (.slice none 0 0) (vi 0) r122.1 r122.2)) = some r) : FF n_r30_Encode [x0, x1] H = some r :=
  fo (t := r30_Encode x0 x1 H) Tryz.func13 (by kernel_rfl) (Eq.trans (pt rfl 4 (f13_n0_d) (by kernel_rfl)) h)

-- FUNCTION play_Config
noncomputable def f16_b (p : List Nat) : Code := Code.sub (bodyOf Tryz.f16) p
noncomputable def f16_r : KK := cFin PP (Tryz.f16).results.toList
noncomputable def f16_n0 : KK := CQ (f16_b [1, 1]) f16_r kx0 f16_r
noncomputable def f16_m0 : KK := clr 8589934577 f16_n0
noncomputable def play_Config_k0 (x1 x2 x3 : Value) (H : AH) : OV := f16_n0 (ls [u, x1, x2, x3] 29) H
noncomputable def f16_n1 : KK := CQ (f16_b [1, 1, 1]) f16_r kx0 f16_r
noncomputable def f16_m1 : KK := clr 8589934577 f16_n1
noncomputable def play_Config_k1 (x1 x2 x3 : Value) (H : AH) : OV := f16_n1 (ls [u, x1, x2, x3] 29) H
theorem f16_r_d : Resp 8589934587 f16_r := rf
theorem f16_n0_d : Resp 8589934577 f16_n0 := rc f16_r_d kx0_d f16_r_d
theorem f16_n1_d : Resp 8589934577 f16_n1 := rc f16_r_d kx0_d f16_r_d
theorem play_Config_k1_eq (x1 x2 x3 : Value) (H : AH) : play_Config_k1 x1 x2 x3 H =
  ld [.f 0] x1 H fun v2 =>
  (FF n_play_Mod [v2, (vi 4)] H).bind fun r3 =>
  (pBin .other .add (vi 1) r3.1).bind fun v4 =>
  ad [.f 1] x1 fun v5 =>
  (pLd1 v5 r3.2).bind fun v6 =>
  eqK (pLd1 v5 H) (pLd1 v5 r3.2) <|
  (FF n_play_Mod [v6, (vi 4)] r3.2).bind fun r7 =>
  (pBin .other .add (vi 1) r7.1).bind fun v8 =>
  ad [.f 2] x1 fun v9 =>
  (pLd1 v9 r7.2).bind fun v10 =>
  eqK (pLd1 v9 H) (pLd1 v9 r7.2) <|
  eqK (pLd1 v9 r3.2) (pLd1 v9 r7.2) <|
  (FF n_play_Mod [v10, (vi 6)] r7.2).bind fun r11 =>
  (pBin .other .add (vi 1) r11.1).bind fun v12 =>
  ad [.f 3] x1 fun v13 =>
  (pLd1 v13 r11.2).bind fun v14 =>
  eqK (pLd1 v13 H) (pLd1 v13 r11.2) <|
  eqK (pLd1 v13 r3.2) (pLd1 v13 r11.2) <|
  eqK (pLd1 v13 r7.2) (pLd1 v13 r11.2) <|
  (FF n_play_Mod [v14, (vi 12)] r11.2).bind fun r15 =>
  mkS [(0, 1), (1, 1), (2, 1), (3, 1), (4, 1)] [(vi 0), (vi 0), (vi 0), (vi 0), (vw 0)] [(0, v4), (1, v8), (2, v12), (3, r15.1), (4, x3)] fun v16 =>
  (pSt 5 x2 v16 r15.2).bind fun H17 =>
  (pLdN 5 x2 H17).bind fun v18 => some (v18, H17) :=
  (by kernel_rfl)
theorem play_Config_k0_eq (x1 x2 x3 : Value) (H : AH) : play_Config_k0 x1 x2 x3 H =
  ld [.f 4] x1 H fun v19 =>
  (pBin .other .rem v19 (vw 4)).bind fun v20 =>
  (pBin .other .eql v20 (vw 3)).bind fun v21 =>
  condK v21
  (ld [.f 4] x1 H fun v22 =>
  (pBin .other .rem v22 (vw 4611686018427387904)).bind fun v23 =>
  (pBin .other .add (vw 1) v23).bind fun v24 =>
  play_Config_k1 x1 x2 v24 H)
  (play_Config_k1 x1 x2 x3 H) :=
  (pt rfl 0 (f16_n1_d) (by kernel_rfl))
noncomputable def play_Config (x0 : Value) (H : AH) : OV := cCode PP GG FF (f16_b []) (ls [x0] 32) H f16_r kx0 f16_r
theorem play_Config_of (x0 : Value) (H : AH) {r : Value × AH} (h : (
  newK (Value.cells x0).toList H fun v25 H26 =>
  newK [(vi 0), (vi 0), (vi 0), (vi 0), (vw 0)] H26 fun v27 H28 =>
  ld [.f 4] v25 H28 fun v29 =>
  (pBin .other .rem v29 (vw 5000)).bind fun v30 =>
  (pBin .other .add (vw 1) v30).bind fun v31 =>
  play_Config_k0 v25 v27 v31 H28) = some r) : FF n_play_Config [x0] H = some r :=
  fo (t := play_Config x0 H) Tryz.func16 (by kernel_rfl) (Eq.trans (pt rfl 1 (f16_n0_d) (by kernel_rfl)) h)

-- FUNCTION play_Mod
theorem play_Mod_of (x0 x1 : Value) (H : AH) {r : Value × AH} (h : (
  (pConv (some .u64) x0).bind fun v0 =>
  (pConv (some .u64) x1).bind fun v1 =>
  (pBin .other .rem v0 v1).bind fun v2 =>
  (pConv (some .i64) v2).bind fun v3 =>
  some (v3, H)) = some r) : FF n_play_Mod [x0, x1] H = some r :=
  fo Tryz.func18 (by kernel_rfl) h

-- FUNCTION play_Plan
noncomputable def f22_b (p : List Nat) : Code := Code.sub (bodyOf Tryz.f22) p
noncomputable def f22_r : KK := cFin PP (Tryz.f22).results.toList
noncomputable def f22_n0 : KK := CQ (f22_b [1, 1, 1, 1]) f22_r kx0 f22_r
noncomputable def f22_m0 : KK := clr 604462909807314587352841 f22_n0
noncomputable def play_Plan_k0 (x1 x2 x4 x5 x6 x7 : Value) (H : AH) : OV := f22_n0 (ls [u, x1, x2, u, x4, x5, x6, x7] 71) H
noncomputable def f22_n1 : KK := CQ (f22_b [1, 1, 1, 1, 1]) f22_r kx0 f22_r
noncomputable def f22_m1 : KK := clr 604462909807314587353007 f22_n1
noncomputable def play_Plan_k1 (x4 x6 : Value) (H : AH) : OV := f22_n1 (ls [u, u, u, u, x4, u, x6] 72) H
noncomputable def f22_n5 : KK := CQ (f22_b [1, 1, 1, 1, 0, 1]) f22_m1 kx0 f22_r
noncomputable def f22_m5 : KK := clr 604462909807314587352585 f22_n5
noncomputable def play_Plan_k5 (x1 x2 x4 x5 x6 x7 x8 : Value) (H : AH) : OV := f22_n5 (ls [u, x1, x2, u, x4, x5, x6, x7, x8] 70) H
noncomputable def f22_x6 : KX := BX 0 f22_m1 kx0
noncomputable def f22_y6 : KX := clx 604462909807314587353007 (f22_x6)
noncomputable def f22_n7 : KK := CLq (f22_b [1, 1, 1, 1, 0, 1, 4, 5]) f22_y6 f22_r
noncomputable def f22_m7 : KK := clr 604462909807314587352585 f22_n7
-- a loop
noncomputable def play_Plan_k7 (x1 x2 x4 x5 x6 x7 x8 : Value) (H : AH) : OV := f22_n7 (ls [u, x1, x2, u, x4, x5, x6, x7, x8] 70) H
noncomputable def f22_n8 : KK := CQ (f22_b [1, 1, 1, 1, 0, 1, 4, 5, 1]) f22_m7 f22_y6 f22_r
noncomputable def f22_m8 : KK := clr 604462909807314587352585 f22_n8
noncomputable def play_Plan_k8 (x1 x2 x4 x5 x6 x7 x8 : Value) (H : AH) : OV := f22_n8 (ls [u, x1, x2, u, x4, x5, x6, x7, x8] 70) H
noncomputable def f22_n9 : KK := CQ (f22_b [1, 1, 1, 1, 0, 1, 4, 5, 1, 1]) f22_m7 f22_y6 f22_r
noncomputable def f22_m9 : KK := clr 604462909807314587352585 f22_n9
noncomputable def play_Plan_k9 (x1 x2 x4 x5 x6 x7 x8 : Value) (H : AH) : OV := f22_n9 (ls [u, x1, x2, u, x4, x5, x6, x7, x8] 70) H
noncomputable def f22_x11 : KX := BX 1 f22_m9 f22_y6
noncomputable def f22_y11 : KX := clx 604462909807314587352585 (f22_x11)
noncomputable def f22_n12 : KK := CQ (f22_b [1, 1, 1, 1, 0, 1, 4, 5, 1, 0, 4, 1]) f22_m9 f22_y11 f22_r
noncomputable def f22_m12 : KK := clr 604462909807314587352073 f22_n12
noncomputable def play_Plan_k12 (x1 x2 x4 x5 x6 x7 x8 x9 : Value) (H : AH) : OV := f22_n12 (ls [u, x1, x2, u, x4, x5, x6, x7, x8, x9] 69) H
noncomputable def f22_n13 : KK := CQ (f22_b [1, 1, 1, 1, 0, 1, 4, 5, 1, 0, 4, 1, 1]) f22_m9 f22_y11 f22_r
noncomputable def f22_m13 : KK := clr 604462909807314587352073 f22_n13
noncomputable def play_Plan_k13 (x1 x2 x4 x5 x6 x7 x8 x9 : Value) (H : AH) : OV := f22_n13 (ls [u, x1, x2, u, x4, x5, x6, x7, x8, x9] 69) H
noncomputable def f22_n14 : KK := CQ (f22_b [1, 1, 1, 1, 0, 1, 4, 5, 1, 0, 4, 1, 1, 1]) f22_m9 f22_y11 f22_r
noncomputable def f22_m14 : KK := clr 604462909807314587352073 f22_n14
noncomputable def play_Plan_k14 (x1 x2 x4 x5 x6 x7 x8 x9 : Value) (H : AH) : OV := f22_n14 (ls [u, x1, x2, u, x4, x5, x6, x7, x8, x9] 69) H
noncomputable def f22_n20 : KK := CQ (f22_b [1, 1, 1, 1, 0, 1, 4, 5, 1, 0, 4, 1, 1, 0, 1]) f22_m14 f22_y11 f22_r
noncomputable def f22_m20 : KK := clr 604462909807314587351049 f22_n20
noncomputable def play_Plan_k20 (x1 x2 x4 x5 x6 x7 x8 x9 x10 : Value) (H : AH) : OV := f22_n20 (ls [u, x1, x2, u, x4, x5, x6, x7, x8, x9, x10] 68) H
noncomputable def f22_x21 : KX := BX 2 f22_m14 f22_y11
noncomputable def f22_y21 : KX := clx 604462909807314587352073 (f22_x21)
noncomputable def f22_n22 : KK := CLq (f22_b [1, 1, 1, 1, 0, 1, 4, 5, 1, 0, 4, 1, 1, 0, 1, 4, 5]) f22_y21 f22_r
noncomputable def f22_m22 : KK := clr 604462909807314587351049 f22_n22
-- a loop
noncomputable def play_Plan_k22 (x1 x2 x4 x5 x6 x7 x8 x9 x10 : Value) (H : AH) : OV := f22_n22 (ls [u, x1, x2, u, x4, x5, x6, x7, x8, x9, x10] 68) H
noncomputable def f22_n23 : KK := CQ (f22_b [1, 1, 1, 1, 0, 1, 4, 5, 1, 0, 4, 1, 1, 0, 1, 4, 5, 1]) f22_m22 f22_y21 f22_r
noncomputable def f22_m23 : KK := clr 604462909807314587351049 f22_n23
noncomputable def play_Plan_k23 (x1 x2 x4 x5 x6 x7 x8 x9 x10 : Value) (H : AH) : OV := f22_n23 (ls [u, x1, x2, u, x4, x5, x6, x7, x8, x9, x10] 68) H
noncomputable def f22_n24 : KK := CQ (f22_b [1, 1, 1, 1, 0, 1, 4, 5, 1, 0, 4, 1, 1, 0, 1, 4, 5, 1, 1]) f22_m22 f22_y21 f22_r
noncomputable def f22_m24 : KK := clr 604462909807314587351049 f22_n24
noncomputable def play_Plan_k24 (x1 x2 x4 x5 x6 x7 x8 x9 x10 : Value) (H : AH) : OV := f22_n24 (ls [u, x1, x2, u, x4, x5, x6, x7, x8, x9, x10] 68) H
noncomputable def f22_x26 : KX := BX 3 f22_m24 f22_y21
noncomputable def f22_y26 : KX := clx 604462909807314587351049 (f22_x26)
noncomputable def play_Plan_e21_2 (x1 x2 x4 x5 x6 x7 x8 x9 : Value) (H : AH) : OV := f22_x21 2 (ls [u, x1, x2, u, x4, x5, x6, x7, x8, x9] 69) H
noncomputable def play_Plan_e6_0 (x4 x6 : Value) (H : AH) : OV := f22_x6 0 (ls [u, u, u, u, x4, u, x6] 72) H
theorem f22_r_d : Resp 604462909807314587353071 f22_r := rf
theorem f22_n0_d : Resp 604462909807314587352841 f22_n0 := rc f22_r_d kx0_d f22_r_d
theorem f22_n1_d : Resp 604462909807314587353007 f22_n1 := rc f22_r_d kx0_d f22_r_d
theorem f22_n5_d : Resp 604462909807314587352585 f22_n5 := rc (cd (f22_n1_d)) kx0_d f22_r_d
theorem f22_x6_d : ∀ i, Resp 604462909807314587353007 (f22_x6 i) := rb (cd (f22_n1_d)) kx0_d
theorem f22_n7_d : Resp 604462909807314587352585 f22_n7 := rl (cx (f22_x6_d)) f22_r_d
theorem f22_n8_d : Resp 604462909807314587352585 f22_n8 := rc (cd (f22_n7_d)) (cx (f22_x6_d)) f22_r_d
theorem f22_n9_d : Resp 604462909807314587352585 f22_n9 := rc (cd (f22_n7_d)) (cx (f22_x6_d)) f22_r_d
theorem f22_x11_d : ∀ i, Resp 604462909807314587352585 (f22_x11 i) := rb (cd (f22_n9_d)) (cx (f22_x6_d))
theorem f22_n12_d : Resp 604462909807314587352073 f22_n12 := rc (cd (f22_n9_d)) (cx (f22_x11_d)) f22_r_d
theorem f22_n13_d : Resp 604462909807314587352073 f22_n13 := rc (cd (f22_n9_d)) (cx (f22_x11_d)) f22_r_d
theorem f22_n14_d : Resp 604462909807314587352073 f22_n14 := rc (cd (f22_n9_d)) (cx (f22_x11_d)) f22_r_d
theorem f22_n20_d : Resp 604462909807314587351049 f22_n20 := rc (cd (f22_n14_d)) (cx (f22_x11_d)) f22_r_d
theorem f22_x21_d : ∀ i, Resp 604462909807314587352073 (f22_x21 i) := rb (cd (f22_n14_d)) (cx (f22_x11_d))
theorem f22_n22_d : Resp 604462909807314587351049 f22_n22 := rl (cx (f22_x21_d)) f22_r_d
theorem f22_n23_d : Resp 604462909807314587351049 f22_n23 := rc (cd (f22_n22_d)) (cx (f22_x21_d)) f22_r_d
theorem f22_n24_d : Resp 604462909807314587351049 f22_n24 := rc (cd (f22_n22_d)) (cx (f22_x21_d)) f22_r_d
theorem f22_x26_d : ∀ i, Resp 604462909807314587351049 (f22_x26 i) := rb (cd (f22_n24_d)) (cx (f22_x21_d))
theorem play_Plan_k1_eq (x4 x6 : Value) (H : AH) : play_Plan_k1 x4 x6 H =
  (pLdN 6 x6 H).bind fun v2 =>
  (pSt 6 x4 v2 H).bind fun H3 =>
  (pLdN 6 x4 H3).bind fun v4 => some (v4, H3) :=
  (by kernel_rfl)
theorem play_Plan_k9_eq (x1 x2 x4 x5 x6 x7 x8 : Value) (H : AH) : play_Plan_k9 x1 x2 x4 x5 x6 x7 x8 H =
  (pBin .other .add x8 (vi 1)).bind fun v10 =>
  play_Plan_k7 x1 x2 x4 x5 x6 x7 v10 H :=
  (by kernel_rfl)
theorem play_Plan_k14_eq (x1 x2 x4 x5 x6 x7 x8 x9 : Value) (H : AH) : play_Plan_k14 x1 x2 x4 x5 x6 x7 x8 x9 H =
  ld [.f 5] x6 H fun v15 =>
  mkR 1 1 [(.slice none 0 0)] [(0, x9)] H fun v16 H17 =>
  (pApp 1 24 v15 v16 H17).bind fun r18 =>
  st 1 [.f 5] x6 r18.1 r18.2 fun H19 =>
  play_Plan_k9 x1 x2 x4 x5 x6 x7 x8 H19 :=
  (by kernel_rfl)
theorem play_Plan_k24_eq (x1 x2 x4 x5 x6 x7 x8 x9 x10 : Value) (H : AH) : play_Plan_k24 x1 x2 x4 x5 x6 x7 x8 x9 x10 H =
  (pBin .other .add x10 (vi 1)).bind fun v25 =>
  play_Plan_k22 x1 x2 x4 x5 x6 x7 x8 x9 v25 H :=
  (by kernel_rfl)
theorem play_Plan_k23_eq (x1 x2 x4 x5 x6 x7 x8 x9 x10 : Value) (H : AH) : play_Plan_k23 x1 x2 x4 x5 x6 x7 x8 x9 x10 H =
  ld [.f 5] x2 H fun v27 =>
  ld [.i 1 x8] v27 H fun v28 =>
  ldN 4 [.i 4 x10] v28 H fun v29 =>
  (FF n_play_Call [v29] H).bind fun r30 =>
  mkR 1 4 [(vi 0), (vi 0), (vi 0), (vi 0)] [(0, r30.1)] r30.2 fun v31 H32 =>
  (pApp 4 32 x9 v31 H32).bind fun r33 =>
  (pBin .other .sub x7 (vi 1)).bind fun v34 =>
  play_Plan_k24 x1 x2 x4 x5 x6 v34 x8 r33.1 x10 r33.2 :=
  (pt rfl 0 (f22_n24_d) (bt rfl (f22_b [1, 1, 1, 1, 0, 1, 4, 5, 1, 0, 4, 1, 1, 0, 1, 4, 5, 1, 0, 4]) 3 (f22_x26_d) (by kernel_rfl)))
theorem play_Plan_e21_2_eq (x1 x2 x4 x5 x6 x7 x8 x9 : Value) (H : AH) : play_Plan_e21_2 x1 x2 x4 x5 x6 x7 x8 x9 H = play_Plan_k14 x1 x2 x4 x5 x6 x7 x8 x9 H :=
  (by kernel_rfl)
theorem play_Plan_k22_eq (x1 x2 x4 x5 x6 x7 x8 x9 x10 : Value) (H : AH) : play_Plan_k22 x1 x2 x4 x5 x6 x7 x8 x9 x10 H =
  ld [.f 5] x2 H fun v35 =>
  lenK v35 fun v36 =>
  (pBin .other .lss x8 v36).bind fun v37 =>
  (gV v37 true x10).bind fun v38 =>
  gld v37 true  [.f 5] x2 H fun v39 =>
  (gV v37 true x8).bind fun v40 =>
  gld v37 true  [.i 1 v40] v39 H fun v41 =>
  (onK (yv v37) true (lenK v41 some) (some undef)).bind fun v42 =>
  (gB v37 true (pBin .other .lss v38 v42)).bind fun v43 =>
  (pPick v37 v43 (vb false)).bind fun v44 =>
  (gV v44 true x10).bind fun v45 =>
  (gV v44 true x1).bind fun v46 =>
  (gB v44 true (pBin .other .lss v45 v46)).bind fun v47 =>
  (pPick v44 v47 (vb false)).bind fun v48 =>
  (gV v48 true x7).bind fun v49 =>
  (gB v48 true (pBin .other .gtr v49 (vi 0))).bind fun v50 =>
  (pPick v48 v50 (vb false)).bind fun v51 =>
  condK v51
  (play_Plan_k23 x1 x2 x4 x5 x6 x7 x8 x9 x10 H)
  (play_Plan_e21_2 x1 x2 x4 x5 x6 x7 x8 x9 H) :=
  lt' rfl (f22_n22_d) (pt rfl 0 (f22_n23_d) (by kernel_rfl))
theorem play_Plan_k20_eq (x1 x2 x4 x5 x6 x7 x8 x9 x10 : Value) (H : AH) : play_Plan_k20 x1 x2 x4 x5 x6 x7 x8 x9 x10 H =
  play_Plan_k22 x1 x2 x4 x5 x6 x7 x8 x9 x10 H :=
  (bt rfl (f22_b [1, 1, 1, 1, 0, 1, 4, 5, 1, 0, 4, 1, 1, 0, 1, 4]) 2 (f22_x21_d) (li rfl (f22_b [1, 1, 1, 1, 0, 1, 4, 5, 1, 0, 4, 1, 1, 0, 1, 4, 5]) (f22_n22_d) (by kernel_rfl)))
theorem play_Plan_k13_eq (x1 x2 x4 x5 x6 x7 x8 x9 : Value) (H : AH) : play_Plan_k13 x1 x2 x4 x5 x6 x7 x8 x9 H =
  play_Plan_k20 x1 x2 x4 x5 x6 x7 x8 x9 (vi 0) H :=
  (pt rfl 0 (f22_n14_d) (pt rfl 0 (f22_n20_d) (by kernel_rfl)))
theorem play_Plan_k12_eq (x1 x2 x4 x5 x6 x7 x8 x9 : Value) (H : AH) : play_Plan_k12 x1 x2 x4 x5 x6 x7 x8 x9 H =
  (pBin .other .eql x8 (vi 0)).bind fun v52 =>
  gld v52 true  [.f 0, .f 3] x2 H fun v53 =>
  (gE v52 true H (FF n_play_Mod [v53, (vi 4)] H)).bind fun r54 =>
  (gB v52 true (pBin .other .gtr r54.1 (vi 0))).bind fun v55 =>
  (pPick v52 v55 (vb false)).bind fun v56 =>
  condK v56
  ((FF n_play_Ready [(vi 3)] r54.2).bind fun r57 =>
  play_Plan_k13 x1 x2 x4 x5 x6 x7 x8 r57.1 r57.2)
  (play_Plan_k13 x1 x2 x4 x5 x6 x7 x8 x9 r54.2) :=
  (pt rfl 0 (f22_n13_d) (by kernel_rfl))
theorem play_Plan_k8_eq (x1 x2 x4 x5 x6 x7 x8 : Value) (H : AH) : play_Plan_k8 x1 x2 x4 x5 x6 x7 x8 H =
  play_Plan_k12 x1 x2 x4 x5 x6 x7 x8 (.slice none 0 0) H :=
  (pt rfl 0 (f22_n9_d) (bt rfl (f22_b [1, 1, 1, 1, 0, 1, 4, 5, 1, 0, 4]) 1 (f22_x11_d) (pt rfl 0 (f22_n12_d) (by kernel_rfl))))
theorem play_Plan_e6_0_eq (x4 x6 : Value) (H : AH) : play_Plan_e6_0 x4 x6 H = play_Plan_k1 x4 x6 H :=
  (by kernel_rfl)
theorem play_Plan_k7_eq (x1 x2 x4 x5 x6 x7 x8 : Value) (H : AH) : play_Plan_k7 x1 x2 x4 x5 x6 x7 x8 H =
  ld [.f 2] x5 H fun v58 =>
  (pBin .other .lss x8 v58).bind fun v59 =>
  condK v59
  (play_Plan_k8 x1 x2 x4 x5 x6 x7 x8 H)
  (play_Plan_e6_0 x4 x6 H) :=
  lt' rfl (f22_n7_d) (pt rfl 0 (f22_n8_d) (by kernel_rfl))
theorem play_Plan_k5_eq (x1 x2 x4 x5 x6 x7 x8 : Value) (H : AH) : play_Plan_k5 x1 x2 x4 x5 x6 x7 x8 H =
  play_Plan_k7 x1 x2 x4 x5 x6 x7 x8 H :=
  (bt rfl (f22_b [1, 1, 1, 1, 0, 1, 4]) 0 (f22_x6_d) (li rfl (f22_b [1, 1, 1, 1, 0, 1, 4, 5]) (f22_n7_d) (by kernel_rfl)))
theorem play_Plan_k0_eq (x1 x2 x4 x5 x6 x7 : Value) (H : AH) : play_Plan_k0 x1 x2 x4 x5 x6 x7 H =
  play_Plan_k5 x1 x2 x4 x5 x6 x7 (vi 0) H :=
  (pt rfl 0 (f22_n1_d) (pt rfl 0 (f22_n5_d) (by kernel_rfl)))
noncomputable def play_Plan (x0 x1 : Value) (H : AH) : OV := cCode PP GG FF (f22_b []) (ls [x0, x1] 77) H f22_r kx0 f22_r
theorem play_Plan_of (x0 x1 : Value) (H : AH) {r : Value × AH} (h : (
  newK (Value.cells x0).toList H fun v60 H61 =>
  newK [(vi 0), (vi 0), (vi 0), (vi 0), (vw 0), (.slice none 0 0)] H61 fun v62 H63 =>
  ldN 5 [.f 0] v60 H63 fun v64 =>
  (FF n_play_Config [v64] H63).bind fun r65 =>
  newK [(vi 0), (vi 0), (vi 0), (vi 0), (vw 0)] r65.2 fun v66 H67 =>
  (pSt 5 v66 r65.1 H67).bind fun H68 =>
  (pLdN 5 v66 H68).bind fun v69 =>
  mkS [(0, 5), (5, 1)] [(vi 0), (vi 0), (vi 0), (vi 0), (vw 0), (.slice none 0 0)] [(0, v69)] fun v70 =>
  newK [(vi 0), (vi 0), (vi 0), (vi 0), (vw 0), (.slice none 0 0)] H68 fun v71 H72 =>
  (pSt 6 v71 v70 H72).bind fun H73 =>
  play_Plan_k0 x1 v60 v62 v66 v71 (vi 57) H73) = some r) : FF n_play_Plan [x0, x1] H = some r :=
  fo (t := play_Plan x0 x1 H) Tryz.func22 (by kernel_rfl) (Eq.trans (pt rfl 3 (f22_n0_d) (by kernel_rfl)) h)

-- FUNCTION script_may
noncomputable def f23_b (p : List Nat) : Code := Code.sub (bodyOf Tryz.f23) p
noncomputable def f23_r : KK := cFin PP (Tryz.f23).results.toList
noncomputable def f23_n0 : KK := CQ (f23_b [1, 1]) f23_r kx0 f23_r
noncomputable def f23_m0 : KK := clr 147573952589676412905 f23_n0
noncomputable def script_may_k0 (x1 x2 x4 : Value) (H : AH) : OV := f23_n0 (ls [u, x1, x2, u, x4] 62) H
noncomputable def f23_n1 : KK := CQ (f23_b [1, 1, 1]) f23_r kx0 f23_r
noncomputable def f23_m1 : KK := clr 147573952589676412909 f23_n1
noncomputable def script_may_k1 (x1 x4 : Value) (H : AH) : OV := f23_n1 (ls [u, x1, u, u, x4] 62) H
noncomputable def f23_n2 : KK := CQ (f23_b [1, 1, 1, 1]) f23_r kx0 f23_r
noncomputable def f23_m2 : KK := clr 147573952589676412911 f23_n2
noncomputable def script_may_k2 (x4 : Value) (H : AH) : OV := f23_n2 (ls [u, u, u, u, x4] 62) H
noncomputable def f23_n3 : KK := CQ (f23_b [1, 1, 1, 0, 1]) f23_m2 kx0 f23_r
noncomputable def f23_m3 : KK := clr 147447851800110039023 f23_n3
noncomputable def script_may_k3 (x4 x54 x55 x56 : Value) (H : AH) : OV := f23_n3 (ls [u, u, u, u, x4, u, u, u, u, u, u, u, u, u, u, u, u, u, u, u, u, u, u, u, u, u, u, u, u, u, u, u, u, u, u, u, u, u, u, u, u, u, u, u, u, u, u, u, u, u, u, u, u, u, x54, x55, x56] 10) H
noncomputable def f23_x4 : KX := BX 6 f23_m2 kx0
noncomputable def f23_y4 : KX := clx 147573952589676412911 (f23_x4)
noncomputable def f23_n5 : KK := CLq (f23_b [1, 1, 1, 0, 1, 4, 5]) f23_y4 f23_r
noncomputable def f23_m5 : KK := clr 147447851800110039023 f23_n5
-- a loop
noncomputable def script_may_k5 (x4 x54 x55 x56 : Value) (H : AH) : OV := f23_n5 (ls [u, u, u, u, x4, u, u, u, u, u, u, u, u, u, u, u, u, u, u, u, u, u, u, u, u, u, u, u, u, u, u, u, u, u, u, u, u, u, u, u, u, u, u, u, u, u, u, u, u, u, u, u, u, u, x54, x55, x56] 10) H
noncomputable def f23_n6 : KK := CQ (f23_b [1, 1, 1, 0, 1, 4, 5, 1, 1]) f23_m5 f23_y4 f23_r
noncomputable def f23_m6 : KK := clr 147447851800110039023 f23_n6
noncomputable def script_may_k6 (x4 x54 x55 x56 : Value) (H : AH) : OV := f23_n6 (ls [u, u, u, u, x4, u, u, u, u, u, u, u, u, u, u, u, u, u, u, u, u, u, u, u, u, u, u, u, u, u, u, u, u, u, u, u, u, u, u, u, u, u, u, u, u, u, u, u, u, u, u, u, u, u, x54, x55, x56] 10) H
noncomputable def f23_n7 : KK := CQ (f23_b [1, 1, 1, 0, 1, 4, 5, 1, 1, 1]) f23_m5 f23_y4 f23_r
noncomputable def f23_m7 : KK := clr 147447851800110039023 f23_n7
noncomputable def script_may_k7 (x4 x54 x55 x56 : Value) (H : AH) : OV := f23_n7 (ls [u, u, u, u, x4, u, u, u, u, u, u, u, u, u, u, u, u, u, u, u, u, u, u, u, u, u, u, u, u, u, u, u, u, u, u, u, u, u, u, u, u, u, u, u, u, u, u, u, u, u, u, u, u, u, x54, x55, x56] 10) H
noncomputable def f23_x9 : KX := BX 7 f23_m7 f23_y4
noncomputable def f23_y9 : KX := clx 147447851800110039023 (f23_x9)
noncomputable def script_may_e4_6 (x4 : Value) (H : AH) : OV := f23_x4 6 (ls [u, u, u, u, x4] 62) H
noncomputable def f23_n17 : KK := CQ (f23_b [1, 1, 0, 1]) f23_m1 kx0 f23_r
noncomputable def f23_m17 : KK := clr 147573952587797364717 f23_n17
noncomputable def script_may_k17 (x1 x4 x28 x29 x30 : Value) (H : AH) : OV := f23_n17 (ls [u, x1, u, u, x4, u, u, u, u, u, u, u, u, u, u, u, u, u, u, u, u, u, u, u, u, u, u, u, x28, x29, x30] 36) H
noncomputable def f23_x18 : KX := BX 0 f23_m1 kx0
noncomputable def f23_y18 : KX := clx 147573952589676412909 (f23_x18)
noncomputable def f23_n19 : KK := CLq (f23_b [1, 1, 0, 1, 4, 5]) f23_y18 f23_r
noncomputable def f23_m19 : KK := clr 147573952587797364717 f23_n19
-- a loop
noncomputable def script_may_k19 (x1 x4 x28 x29 x30 : Value) (H : AH) : OV := f23_n19 (ls [u, x1, u, u, x4, u, u, u, u, u, u, u, u, u, u, u, u, u, u, u, u, u, u, u, u, u, u, u, x28, x29, x30] 36) H
noncomputable def f23_n20 : KK := CQ (f23_b [1, 1, 0, 1, 4, 5, 1, 1]) f23_m19 f23_y18 f23_r
noncomputable def f23_m20 : KK := clr 147573952587797364717 f23_n20
noncomputable def script_may_k20 (x1 x4 x28 x29 x30 : Value) (H : AH) : OV := f23_n20 (ls [u, x1, u, u, x4, u, u, u, u, u, u, u, u, u, u, u, u, u, u, u, u, u, u, u, u, u, u, u, x28, x29, x30] 36) H
noncomputable def f23_n21 : KK := CQ (f23_b [1, 1, 0, 1, 4, 5, 1, 1, 1]) f23_m19 f23_y18 f23_r
noncomputable def f23_m21 : KK := clr 147573952587797364717 f23_n21
noncomputable def script_may_k21 (x1 x4 x28 x29 x30 : Value) (H : AH) : OV := f23_n21 (ls [u, x1, u, u, x4, u, u, u, u, u, u, u, u, u, u, u, u, u, u, u, u, u, u, u, u, u, u, u, x28, x29, x30] 36) H
noncomputable def f23_x23 : KX := BX 1 f23_m21 f23_y18
noncomputable def f23_y23 : KX := clx 147573952587797364717 (f23_x23)
noncomputable def f23_n24 : KK := CQ (f23_b [1, 1, 0, 1, 4, 5, 1, 1, 0, 4, 1, 1]) f23_m21 f23_y23 f23_r
noncomputable def f23_m24 : KK := clr 147573952467538280429 f23_n24
noncomputable def script_may_k24 (x1 x4 x28 x29 x30 x34 x35 x36 : Value) (H : AH) : OV := f23_n24 (ls [u, x1, u, u, x4, u, u, u, u, u, u, u, u, u, u, u, u, u, u, u, u, u, u, u, u, u, u, u, x28, x29, x30, u, u, u, x34, x35, x36] 30) H
noncomputable def f23_x25 : KX := BX 2 f23_m21 f23_y23
noncomputable def f23_y25 : KX := clx 147573952587797364717 (f23_x25)
noncomputable def f23_n26 : KK := CLq (f23_b [1, 1, 0, 1, 4, 5, 1, 1, 0, 4, 1, 1, 4, 5]) f23_y25 f23_r
noncomputable def f23_m26 : KK := clr 147573952467538280429 f23_n26
-- a loop
noncomputable def script_may_k26 (x1 x4 x28 x29 x30 x34 x35 x36 : Value) (H : AH) : OV := f23_n26 (ls [u, x1, u, u, x4, u, u, u, u, u, u, u, u, u, u, u, u, u, u, u, u, u, u, u, u, u, u, u, x28, x29, x30, u, u, u, x34, x35, x36] 30) H
noncomputable def f23_n27 : KK := CQ (f23_b [1, 1, 0, 1, 4, 5, 1, 1, 0, 4, 1, 1, 4, 5, 1, 1]) f23_m26 f23_y25 f23_r
noncomputable def f23_m27 : KK := clr 147573952467538280429 f23_n27
noncomputable def script_may_k27 (x1 x4 x28 x29 x30 x34 x35 x36 : Value) (H : AH) : OV := f23_n27 (ls [u, x1, u, u, x4, u, u, u, u, u, u, u, u, u, u, u, u, u, u, u, u, u, u, u, u, u, u, u, x28, x29, x30, u, u, u, x34, x35, x36] 30) H
noncomputable def f23_n28 : KK := CQ (f23_b [1, 1, 0, 1, 4, 5, 1, 1, 0, 4, 1, 1, 4, 5, 1, 1, 1]) f23_m26 f23_y25 f23_r
noncomputable def f23_m28 : KK := clr 147573952467538280429 f23_n28
noncomputable def script_may_k28 (x1 x4 x28 x29 x30 x34 x35 x36 : Value) (H : AH) : OV := f23_n28 (ls [u, x1, u, u, x4, u, u, u, u, u, u, u, u, u, u, u, u, u, u, u, u, u, u, u, u, u, u, u, x28, x29, x30, u, u, u, x34, x35, x36] 30) H
noncomputable def f23_x30 : KX := BX 3 f23_m28 f23_y25
noncomputable def f23_y30 : KX := clx 147573952467538280429 (f23_x30)
noncomputable def f23_n31 : KK := CQ (f23_b [1, 1, 0, 1, 4, 5, 1, 1, 0, 4, 1, 1, 4, 5, 1, 1, 0, 4, 1, 1]) f23_m28 f23_y30 f23_r
noncomputable def f23_m31 : KK := clr 147573945870468513773 f23_n31
noncomputable def script_may_k31 (x1 x4 x28 x29 x30 x34 x35 x36 x41 x42 : Value) (H : AH) : OV := f23_n31 (ls [u, x1, u, u, x4, u, u, u, u, u, u, u, u, u, u, u, u, u, u, u, u, u, u, u, u, u, u, u, x28, x29, x30, u, u, u, x34, x35, x36, u, u, u, u, x41, x42] 24) H
noncomputable def f23_x32 : KX := BX 4 f23_m28 f23_y30
noncomputable def f23_y32 : KX := clx 147573952467538280429 (f23_x32)
noncomputable def f23_n33 : KK := CLq (f23_b [1, 1, 0, 1, 4, 5, 1, 1, 0, 4, 1, 1, 4, 5, 1, 1, 0, 4, 1, 1, 4, 5]) f23_y32 f23_r
noncomputable def f23_m33 : KK := clr 147573945870468513773 f23_n33
-- a loop
noncomputable def script_may_k33 (x1 x4 x28 x29 x30 x34 x35 x36 x41 x42 : Value) (H : AH) : OV := f23_n33 (ls [u, x1, u, u, x4, u, u, u, u, u, u, u, u, u, u, u, u, u, u, u, u, u, u, u, u, u, u, u, x28, x29, x30, u, u, u, x34, x35, x36, u, u, u, u, x41, x42] 24) H
noncomputable def f23_n34 : KK := CQ (f23_b [1, 1, 0, 1, 4, 5, 1, 1, 0, 4, 1, 1, 4, 5, 1, 1, 0, 4, 1, 1, 4, 5, 1, 1]) f23_m33 f23_y32 f23_r
noncomputable def f23_m34 : KK := clr 147573945870468513773 f23_n34
noncomputable def script_may_k34 (x1 x4 x28 x29 x30 x34 x35 x36 x41 x42 : Value) (H : AH) : OV := f23_n34 (ls [u, x1, u, u, x4, u, u, u, u, u, u, u, u, u, u, u, u, u, u, u, u, u, u, u, u, u, u, u, x28, x29, x30, u, u, u, x34, x35, x36, u, u, u, u, x41, x42] 24) H
noncomputable def f23_n35 : KK := CQ (f23_b [1, 1, 0, 1, 4, 5, 1, 1, 0, 4, 1, 1, 4, 5, 1, 1, 0, 4, 1, 1, 4, 5, 1, 1, 1]) f23_m33 f23_y32 f23_r
noncomputable def f23_m35 : KK := clr 147573945870468513773 f23_n35
noncomputable def script_may_k35 (x1 x4 x28 x29 x30 x34 x35 x36 x41 x42 : Value) (H : AH) : OV := f23_n35 (ls [u, x1, u, u, x4, u, u, u, u, u, u, u, u, u, u, u, u, u, u, u, u, u, u, u, u, u, u, u, x28, x29, x30, u, u, u, x34, x35, x36, u, u, u, u, x41, x42] 24) H
noncomputable def f23_x37 : KX := BX 5 f23_m35 f23_y32
noncomputable def f23_y37 : KX := clx 147573945870468513773 (f23_x37)
noncomputable def script_may_e32_4 (x1 x4 x28 x29 x30 x34 x35 x36 : Value) (H : AH) : OV := f23_x32 4 (ls [u, x1, u, u, x4, u, u, u, u, u, u, u, u, u, u, u, u, u, u, u, u, u, u, u, u, u, u, u, x28, x29, x30, u, u, u, x34, x35, x36] 30) H
noncomputable def script_may_e25_2 (x1 x4 x28 x29 x30 : Value) (H : AH) : OV := f23_x25 2 (ls [u, x1, u, u, x4, u, u, u, u, u, u, u, u, u, u, u, u, u, u, u, u, u, u, u, u, u, u, u, x28, x29, x30] 36) H
noncomputable def script_may_e18_0 (x1 x4 : Value) (H : AH) : OV := f23_x18 0 (ls [u, x1, u, u, x4] 62) H
theorem f23_r_d : Resp 147573952589676412911 f23_r := rf
theorem f23_n0_d : Resp 147573952589676412905 f23_n0 := rc f23_r_d kx0_d f23_r_d
theorem f23_n1_d : Resp 147573952589676412909 f23_n1 := rc f23_r_d kx0_d f23_r_d
theorem f23_n2_d : Resp 147573952589676412911 f23_n2 := rc f23_r_d kx0_d f23_r_d
theorem f23_n3_d : Resp 147447851800110039023 f23_n3 := rc (cd (f23_n2_d)) kx0_d f23_r_d
theorem f23_x4_d : ∀ i, Resp 147573952589676412911 (f23_x4 i) := rb (cd (f23_n2_d)) kx0_d
theorem f23_n5_d : Resp 147447851800110039023 f23_n5 := rl (cx (f23_x4_d)) f23_r_d
theorem f23_n6_d : Resp 147447851800110039023 f23_n6 := rc (cd (f23_n5_d)) (cx (f23_x4_d)) f23_r_d
theorem f23_n7_d : Resp 147447851800110039023 f23_n7 := rc (cd (f23_n5_d)) (cx (f23_x4_d)) f23_r_d
theorem f23_x9_d : ∀ i, Resp 147447851800110039023 (f23_x9 i) := rb (cd (f23_n7_d)) (cx (f23_x4_d))
theorem f23_n17_d : Resp 147573952587797364717 f23_n17 := rc (cd (f23_n1_d)) kx0_d f23_r_d
theorem f23_x18_d : ∀ i, Resp 147573952589676412909 (f23_x18 i) := rb (cd (f23_n1_d)) kx0_d
theorem f23_n19_d : Resp 147573952587797364717 f23_n19 := rl (cx (f23_x18_d)) f23_r_d
theorem f23_n20_d : Resp 147573952587797364717 f23_n20 := rc (cd (f23_n19_d)) (cx (f23_x18_d)) f23_r_d
theorem f23_n21_d : Resp 147573952587797364717 f23_n21 := rc (cd (f23_n19_d)) (cx (f23_x18_d)) f23_r_d
theorem f23_x23_d : ∀ i, Resp 147573952587797364717 (f23_x23 i) := rb (cd (f23_n21_d)) (cx (f23_x18_d))
theorem f23_n24_d : Resp 147573952467538280429 f23_n24 := rc (cd (f23_n21_d)) (cx (f23_x23_d)) f23_r_d
theorem f23_x25_d : ∀ i, Resp 147573952587797364717 (f23_x25 i) := rb (cd (f23_n21_d)) (cx (f23_x23_d))
theorem f23_n26_d : Resp 147573952467538280429 f23_n26 := rl (cx (f23_x25_d)) f23_r_d
theorem f23_n27_d : Resp 147573952467538280429 f23_n27 := rc (cd (f23_n26_d)) (cx (f23_x25_d)) f23_r_d
theorem f23_n28_d : Resp 147573952467538280429 f23_n28 := rc (cd (f23_n26_d)) (cx (f23_x25_d)) f23_r_d
theorem f23_x30_d : ∀ i, Resp 147573952467538280429 (f23_x30 i) := rb (cd (f23_n28_d)) (cx (f23_x25_d))
theorem f23_n31_d : Resp 147573945870468513773 f23_n31 := rc (cd (f23_n28_d)) (cx (f23_x30_d)) f23_r_d
theorem f23_x32_d : ∀ i, Resp 147573952467538280429 (f23_x32 i) := rb (cd (f23_n28_d)) (cx (f23_x30_d))
theorem f23_n33_d : Resp 147573945870468513773 f23_n33 := rl (cx (f23_x32_d)) f23_r_d
theorem f23_n34_d : Resp 147573945870468513773 f23_n34 := rc (cd (f23_n33_d)) (cx (f23_x32_d)) f23_r_d
theorem f23_n35_d : Resp 147573945870468513773 f23_n35 := rc (cd (f23_n33_d)) (cx (f23_x32_d)) f23_r_d
theorem f23_x37_d : ∀ i, Resp 147573945870468513773 (f23_x37 i) := rb (cd (f23_n35_d)) (cx (f23_x32_d))
theorem script_may_k2_eq (x4 : Value) (H : AH) : script_may_k2 x4 H =
  some ((vb true), H) :=
  (by kernel_rfl)
theorem script_may_k7_eq (x4 x54 x55 x56 : Value) (H : AH) : script_may_k7 x4 x54 x55 x56 H =
  (pBin .other .add x56 (vi 1)).bind fun v8 =>
  script_may_k5 x4 x54 x55 v8 H :=
  (by kernel_rfl)
theorem script_may_k6_eq (x4 x54 x55 x56 : Value) (H : AH) : script_may_k6 x4 x54 x55 x56 H =
  ld [.i 1 x56] x54 H fun v10 =>
  (pBin .other .lss v10 (vi 0)).bind fun v11 =>
  (gV v11 false v10).bind fun v12 =>
  (gB v11 false (pBin .other .gtr v12 (vi 63))).bind fun v13 =>
  (pPick v11 (vb true) v13).bind fun v14 =>
  condK v14
  (some ((vb false), H))
  (script_may_k7 x4 x54 x55 x56 H) :=
  (pt rfl 0 (f23_n7_d) (bt rfl (f23_b [1, 1, 1, 0, 1, 4, 5, 1, 1, 0, 4]) 7 (f23_x9_d) (by kernel_rfl)))
theorem script_may_e4_6_eq (x4 : Value) (H : AH) : script_may_e4_6 x4 H = script_may_k2 x4 H :=
  (by kernel_rfl)
theorem script_may_k5_eq (x4 x54 x55 x56 : Value) (H : AH) : script_may_k5 x4 x54 x55 x56 H =
  (pBin .other .lss x56 x55).bind fun v15 =>
  condK v15
  (script_may_k6 x4 x54 x55 x56 H)
  (script_may_e4_6 x4 H) :=
  lt' rfl (f23_n5_d) (pt rfl 1 (f23_n6_d) (by kernel_rfl))
theorem script_may_k3_eq (x4 x54 x55 x56 : Value) (H : AH) : script_may_k3 x4 x54 x55 x56 H =
  script_may_k5 x4 x54 x55 x56 H :=
  (bt rfl (f23_b [1, 1, 1, 0, 1, 4]) 6 (f23_x4_d) (li rfl (f23_b [1, 1, 1, 0, 1, 4, 5]) (f23_n5_d) (by kernel_rfl)))
theorem script_may_k1_eq (x1 x4 : Value) (H : AH) : script_may_k1 x1 x4 H =
  lenK x1 fun v16 =>
  script_may_k3 x4 x1 v16 (vi 0) H :=
  (pt rfl 0 (f23_n2_d) (pt rfl 0 (f23_n3_d) (by kernel_rfl)))
theorem script_may_k21_eq (x1 x4 x28 x29 x30 : Value) (H : AH) : script_may_k21 x1 x4 x28 x29 x30 H =
  (pBin .other .add x30 (vi 1)).bind fun v22 =>
  script_may_k19 x1 x4 x28 x29 v22 H :=
  (by kernel_rfl)
theorem script_may_k28_eq (x1 x4 x28 x29 x30 x34 x35 x36 : Value) (H : AH) : script_may_k28 x1 x4 x28 x29 x30 x34 x35 x36 H =
  (pBin .other .add x36 (vi 1)).bind fun v29 =>
  script_may_k26 x1 x4 x28 x29 x30 x34 x35 v29 H :=
  (by kernel_rfl)
theorem script_may_k35_eq (x1 x4 x28 x29 x30 x34 x35 x36 x41 x42 : Value) (H : AH) : script_may_k35 x1 x4 x28 x29 x30 x34 x35 x36 x41 x42 H =
  (pBin .other .add x42 (vi 1)).bind fun v36 =>
  script_may_k33 x1 x4 x28 x29 x30 x34 x35 x36 x41 v36 H :=
  (by kernel_rfl)
theorem script_may_k34_eq (x1 x4 x28 x29 x30 x34 x35 x36 x41 x42 : Value) (H : AH) : script_may_k34 x1 x4 x28 x29 x30 x34 x35 x36 x41 x42 H =
  (pIndexV 4 none 1 x41 x42).bind fun v38 =>
  (pBin .other .lss v38 (vi 0)).bind fun v39 =>
  (gV v39 false v38).bind fun v40 =>
  (gB v39 false (pBin .other .gtr v40 (vi 2147483647))).bind fun v41 =>
  (pPick v39 (vb true) v41).bind fun v42 =>
  condK v42
  (some ((vb false), H))
  (script_may_k35 x1 x4 x28 x29 x30 x34 x35 x36 x41 x42 H) :=
  (pt rfl 0 (f23_n35_d) (bt rfl (f23_b [1, 1, 0, 1, 4, 5, 1, 1, 0, 4, 1, 1, 4, 5, 1, 1, 0, 4, 1, 1, 4, 5, 1, 1, 0, 4]) 5 (f23_x37_d) (by kernel_rfl)))
theorem script_may_e32_4_eq (x1 x4 x28 x29 x30 x34 x35 x36 : Value) (H : AH) : script_may_e32_4 x1 x4 x28 x29 x30 x34 x35 x36 H = script_may_k28 x1 x4 x28 x29 x30 x34 x35 x36 H :=
  (by kernel_rfl)
theorem script_may_k33_eq (x1 x4 x28 x29 x30 x34 x35 x36 x41 x42 : Value) (H : AH) : script_may_k33 x1 x4 x28 x29 x30 x34 x35 x36 x41 x42 H =
  (pBin .other .lss x42 (vi 4)).bind fun v43 =>
  condK v43
  (script_may_k34 x1 x4 x28 x29 x30 x34 x35 x36 x41 x42 H)
  (script_may_e32_4 x1 x4 x28 x29 x30 x34 x35 x36 H) :=
  lt' rfl (f23_n33_d) (pt rfl 1 (f23_n34_d) (by kernel_rfl))
theorem script_may_k31_eq (x1 x4 x28 x29 x30 x34 x35 x36 x41 x42 : Value) (H : AH) : script_may_k31 x1 x4 x28 x29 x30 x34 x35 x36 x41 x42 H =
  script_may_k33 x1 x4 x28 x29 x30 x34 x35 x36 x41 x42 H :=
  (bt rfl (f23_b [1, 1, 0, 1, 4, 5, 1, 1, 0, 4, 1, 1, 4, 5, 1, 1, 0, 4, 1, 1, 4]) 4 (f23_x32_d) (li rfl (f23_b [1, 1, 0, 1, 4, 5, 1, 1, 0, 4, 1, 1, 4, 5, 1, 1, 0, 4, 1, 1, 4, 5]) (f23_n33_d) (by kernel_rfl)))
theorem script_may_k27_eq (x1 x4 x28 x29 x30 x34 x35 x36 : Value) (H : AH) : script_may_k27 x1 x4 x28 x29 x30 x34 x35 x36 H =
  ldN 4 [.i 4 x36] x34 H fun v44 =>
  newK [(vi 0), (vi 0), (vi 0), (vi 0)] H fun v45 H46 =>
  (pSt 4 v45 v44 H46).bind fun H47 =>
  (pLdN 4 v45 H47).bind fun v48 =>
  (FF n_script_numbers [v48] H47).bind fun r49 =>
  script_may_k31 x1 x4 x28 x29 x30 x34 x35 x36 r49.1 (vi 0) r49.2 :=
  (pt rfl 0 (f23_n28_d) (bt rfl (f23_b [1, 1, 0, 1, 4, 5, 1, 1, 0, 4, 1, 1, 4, 5, 1, 1, 0, 4]) 3 (f23_x30_d) (pt rfl 1 (f23_n31_d) (by kernel_rfl))))
theorem script_may_e25_2_eq (x1 x4 x28 x29 x30 : Value) (H : AH) : script_may_e25_2 x1 x4 x28 x29 x30 H = script_may_k21 x1 x4 x28 x29 x30 H :=
  (by kernel_rfl)
theorem script_may_k26_eq (x1 x4 x28 x29 x30 x34 x35 x36 : Value) (H : AH) : script_may_k26 x1 x4 x28 x29 x30 x34 x35 x36 H =
  (pBin .other .lss x36 x35).bind fun v50 =>
  condK v50
  (script_may_k27 x1 x4 x28 x29 x30 x34 x35 x36 H)
  (script_may_e25_2 x1 x4 x28 x29 x30 H) :=
  lt' rfl (f23_n26_d) (pt rfl 1 (f23_n27_d) (by kernel_rfl))
theorem script_may_k24_eq (x1 x4 x28 x29 x30 x34 x35 x36 : Value) (H : AH) : script_may_k24 x1 x4 x28 x29 x30 x34 x35 x36 H =
  script_may_k26 x1 x4 x28 x29 x30 x34 x35 x36 H :=
  (bt rfl (f23_b [1, 1, 0, 1, 4, 5, 1, 1, 0, 4, 1, 1, 4]) 2 (f23_x25_d) (li rfl (f23_b [1, 1, 0, 1, 4, 5, 1, 1, 0, 4, 1, 1, 4, 5]) (f23_n26_d) (by kernel_rfl)))
theorem script_may_k20_eq (x1 x4 x28 x29 x30 : Value) (H : AH) : script_may_k20 x1 x4 x28 x29 x30 H =
  ld [.i 1 x30] x28 H fun v51 =>
  lenK v51 fun v52 =>
  script_may_k24 x1 x4 x28 x29 x30 v51 v52 (vi 0) H :=
  (pt rfl 0 (f23_n21_d) (bt rfl (f23_b [1, 1, 0, 1, 4, 5, 1, 1, 0, 4]) 1 (f23_x23_d) (pt rfl 1 (f23_n24_d) (by kernel_rfl))))
theorem script_may_e18_0_eq (x1 x4 : Value) (H : AH) : script_may_e18_0 x1 x4 H = script_may_k1 x1 x4 H :=
  (by kernel_rfl)
theorem script_may_k19_eq (x1 x4 x28 x29 x30 : Value) (H : AH) : script_may_k19 x1 x4 x28 x29 x30 H =
  (pBin .other .lss x30 x29).bind fun v53 =>
  condK v53
  (script_may_k20 x1 x4 x28 x29 x30 H)
  (script_may_e18_0 x1 x4 H) :=
  lt' rfl (f23_n19_d) (pt rfl 1 (f23_n20_d) (by kernel_rfl))
theorem script_may_k17_eq (x1 x4 x28 x29 x30 : Value) (H : AH) : script_may_k17 x1 x4 x28 x29 x30 H =
  script_may_k19 x1 x4 x28 x29 x30 H :=
  (bt rfl (f23_b [1, 1, 0, 1, 4]) 0 (f23_x18_d) (li rfl (f23_b [1, 1, 0, 1, 4, 5]) (f23_n19_d) (by kernel_rfl)))
theorem script_may_k0_eq (x1 x2 x4 : Value) (H : AH) : script_may_k0 x1 x2 x4 H =
  ld [.f 5] x2 H fun v54 =>
  lenK v54 fun v55 =>
  script_may_k17 x1 x4 v54 v55 (vi 0) H :=
  (pt rfl 0 (f23_n1_d) (pt rfl 0 (f23_n17_d) (by kernel_rfl)))
noncomputable def script_may (x0 x1 : Value) (H : AH) : OV := cCode PP GG FF (f23_b []) (ls [x0, x1] 65) H f23_r kx0 f23_r
theorem script_may_of (x0 x1 : Value) (H : AH) {r : Value × AH} (h : (
  newK (Value.cells x0).toList H fun v56 H57 =>
  (pLdN 6 v56 H57).bind fun v58 =>
  (FF n_world_New [v58] H57).bind fun r59 =>
  (pExtract r59.1 0).bind fun v60 =>
  (pExtract r59.1 1).bind fun v61 =>
  (pBin .other .neq v61 (vi 0)).bind fun v62 =>
  (gV v62 false x1).bind fun v63 =>
  (onK (yv v62) false (lenK v63 some) (some undef)).bind fun v64 =>
  (gB v62 false (pBin .other .gtr v64 (vi 4000))).bind fun v65 =>
  (pPick v62 (vb true) v65).bind fun v66 =>
  condK v66
  (some ((vb false), r59.2))
  (script_may_k0 x1 v56 (vb false) r59.2)) = some r) : FF n_script_may [x0, x1] H = some r :=
  fo (t := script_may x0 x1 H) Tryz.func23 (by kernel_rfl) (Eq.trans (pt rfl 1 (f23_n0_d) (by kernel_rfl)) h)

-- FUNCTION script_put
noncomputable def f24_b (p : List Nat) : Code := Code.sub (bodyOf Tryz.f24) p
noncomputable def f24_r : KK := cFin PP (Tryz.f24).results.toList
noncomputable def f24_n0 : KK := CQ (f24_b [1]) f24_r kx0 f24_r
noncomputable def f24_m0 : KK := clr 1048556 f24_n0
noncomputable def script_put_k0 (x0 x1 x4 : Value) (H : AH) : OV := f24_n0 (ls [x0, x1, u, u, x4] 15) H
noncomputable def f24_n1 : KK := CQ (f24_b [1, 1]) f24_r kx0 f24_r
noncomputable def f24_m1 : KK := clr 1048556 f24_n1
noncomputable def script_put_k1 (x0 x1 x4 : Value) (H : AH) : OV := f24_n1 (ls [x0, x1, u, u, x4] 15) H
noncomputable def f24_x6 : KX := BX 0 f24_m1 kx0
noncomputable def f24_y6 : KX := clx 1048556 (f24_x6)
noncomputable def f24_n7 : KK := CLq (f24_b [1, 0, 4, 5]) f24_y6 f24_r
noncomputable def f24_m7 : KK := clr 1048556 f24_n7
-- a loop
noncomputable def script_put_k7 (x0 x1 x4 : Value) (H : AH) : OV := f24_n7 (ls [x0, x1, u, u, x4] 15) H
noncomputable def f24_n8 : KK := CQ (f24_b [1, 0, 4, 5, 1]) f24_m7 f24_y6 f24_r
noncomputable def f24_m8 : KK := clr 1048556 f24_n8
noncomputable def script_put_k8 (x0 x1 x4 : Value) (H : AH) : OV := f24_n8 (ls [x0, x1, u, u, x4] 15) H
noncomputable def f24_n9 : KK := CQ (f24_b [1, 0, 4, 5, 1, 1]) f24_m7 f24_y6 f24_r
noncomputable def f24_m9 : KK := clr 1048556 f24_n9
noncomputable def script_put_k9 (x0 x1 x4 : Value) (H : AH) : OV := f24_n9 (ls [x0, x1, u, u, x4] 15) H
noncomputable def f24_x11 : KX := BX 1 f24_m9 f24_y6
noncomputable def f24_y11 : KX := clx 1048556 (f24_x11)
noncomputable def script_put_e6_0 (x0 x1 x4 : Value) (H : AH) : OV := f24_x6 0 (ls [x0, x1, u, u, x4] 15) H
theorem f24_r_d : Resp 1048559 f24_r := rf
theorem f24_n0_d : Resp 1048556 f24_n0 := rc f24_r_d kx0_d f24_r_d
theorem f24_n1_d : Resp 1048556 f24_n1 := rc f24_r_d kx0_d f24_r_d
theorem f24_x6_d : ∀ i, Resp 1048556 (f24_x6 i) := rb (cd (f24_n1_d)) kx0_d
theorem f24_n7_d : Resp 1048556 f24_n7 := rl (cx (f24_x6_d)) f24_r_d
theorem f24_n8_d : Resp 1048556 f24_n8 := rc (cd (f24_n7_d)) (cx (f24_x6_d)) f24_r_d
theorem f24_n9_d : Resp 1048556 f24_n9 := rc (cd (f24_n7_d)) (cx (f24_x6_d)) f24_r_d
theorem f24_x11_d : ∀ i, Resp 1048556 (f24_x11 i) := rb (cd (f24_n9_d)) (cx (f24_x6_d))
theorem script_put_k1_eq (x0 x1 x4 : Value) (H : AH) : script_put_k1 x0 x1 x4 H =
  (pConv (some .u8) x1).bind fun v2 =>
  mkR 1 1 [(.int .u8 0)] [(0, v2)] H fun v3 H4 =>
  (pApp 1 1 x0 v3 H4).bind fun r5 =>
  some (r5.1, r5.2) :=
  (by kernel_rfl)
theorem script_put_k9_eq (x0 x1 x4 : Value) (H : AH) : script_put_k9 x0 x1 x4 H =
  (pBin .other .shr x1 (vw 7)).bind fun v10 =>
  script_put_k7 x0 v10 x4 H :=
  (by kernel_rfl)
theorem script_put_k8_eq (x0 x1 x4 : Value) (H : AH) : script_put_k8 x0 x1 x4 H =
  (pConv (some .u8) x1).bind fun v12 =>
  (pBin .other .or v12 (.int .u8 128)).bind fun v13 =>
  mkR 1 1 [(.int .u8 0)] [(0, v13)] H fun v14 H15 =>
  (pApp 1 1 x0 v14 H15).bind fun r16 =>
  script_put_k9 r16.1 x1 x4 r16.2 :=
  (pt rfl 0 (f24_n9_d) (bt rfl (f24_b [1, 0, 4, 5, 1, 0, 4]) 1 (f24_x11_d) (by kernel_rfl)))
theorem script_put_e6_0_eq (x0 x1 x4 : Value) (H : AH) : script_put_e6_0 x0 x1 x4 H = script_put_k1 x0 x1 x4 H :=
  (by kernel_rfl)
theorem script_put_k7_eq (x0 x1 x4 : Value) (H : AH) : script_put_k7 x0 x1 x4 H =
  (pBin .other .gtr x1 (vw 127)).bind fun v17 =>
  condK v17
  (script_put_k8 x0 x1 x4 H)
  (script_put_e6_0 x0 x1 x4 H) :=
  lt' rfl (f24_n7_d) (pt rfl 0 (f24_n8_d) (by kernel_rfl))
theorem script_put_k0_eq (x0 x1 x4 : Value) (H : AH) : script_put_k0 x0 x1 x4 H =
  script_put_k7 x0 x1 x4 H :=
  (pt rfl 0 (f24_n1_d) (bt rfl (f24_b [1, 0, 4]) 0 (f24_x6_d) (li rfl (f24_b [1, 0, 4, 5]) (f24_n7_d) (by kernel_rfl))))
noncomputable def script_put (x0 x1 : Value) (H : AH) : OV := cCode PP GG FF (f24_b []) (ls [x0, x1] 18) H f24_r kx0 f24_r
theorem script_put_of (x0 x1 : Value) (H : AH) {r : Value × AH} (h : (
  script_put_k0 x0 x1 (.slice none 0 0) H) = some r) : FF n_script_put [x0, x1] H = some r :=
  fo (t := script_put x0 x1 H) Tryz.func24 (by kernel_rfl) (Eq.trans (pt rfl 0 (f24_n0_d) (by kernel_rfl)) h)

-- FUNCTION script_numbers
theorem script_numbers_of (x0 : Value) (H : AH) {r : Value × AH} (h : (
  newK (Value.cells x0).toList H fun v0 H1 =>
  newK [(vi 0), (vi 0), (vi 0), (vi 0)] H1 fun v2 H3 =>
  ld [.f 0] v0 H3 fun v4 =>
  ld [.f 1] v0 H3 fun v5 =>
  ld [.f 2] v0 H3 fun v6 =>
  ld [.f 3] v0 H3 fun v7 =>
  mkA 1 [(vi 0), (vi 0), (vi 0), (vi 0)] [(0, v4), (1, v5), (2, v6), (3, v7)] fun v8 =>
  (pSt 4 v2 v8 H3).bind fun H9 =>
  (pLdN 4 v2 H9).bind fun v10 => some (v10, H9)) = some r) : FF n_script_numbers [x0] H = some r :=
  fo Tryz.func25 (by kernel_rfl) h

-- FUNCTION r16_May
theorem r16_May_of (x0 : Value) (H : AH) {r : Value × AH} (h : (
  newK (Value.cells x0).toList H fun v0 H1 =>
  ldN 5 [.f 0] v0 H1 fun v2 =>
  (FF n_r09_Right [v2] H1).bind fun r3 =>
  gld r3.1 true  [.f 5] v0 r3.2 fun v4 =>
  (onK (yv r3.1) true (lenK v4 some) (some undef)).bind fun v5 =>
  gld r3.1 true  [.f 0, .f 2] v0 r3.2 fun v6 =>
  (gB r3.1 true (pBin .other .leq v5 v6)).bind fun v7 =>
  (pPick r3.1 v7 (vb false)).bind fun v8 =>
  (gB v8 true (pLdN 6 v0 r3.2)).bind fun v9 =>
  (gE v8 true r3.2 (FF n_r16_Calls [v9] r3.2)).bind fun r10 =>
  (gB v8 true (pBin .other .leq r10.1 (vi 60))).bind fun v11 =>
  (pPick v8 v11 (vb false)).bind fun v12 =>
  some (v12, r10.2)) = some r) : FF n_r16_May [x0] H = some r :=
  fo Tryz.func26 (by kernel_rfl) h

end Go.Proofs.YthagelbepgcolaaGreatDoor.Gst
