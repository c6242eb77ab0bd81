/- THE FUNCTIONS OF THE PROGRAM AS PLAIN LEAN FUNCTIONS: printed by a program of this work (XPr), each checked by the kernel against the program's text. -/
import Derived.Test.YtodpbobjmkhcfaaGreatDoorKa
namespace Go.Proofs.YtodpbobjmkhcfaaGreatDoor.Gst
open Go Go.RowKit
set_option maxRecDepth 100000
set_option linter.unusedVariables false
set_option maxHeartbeats 1000000
-- FUNCTION play_Call
noncomputable def f18_b (p : List Nat) : Code := Code.sub (bodyOf Tryz.f18) p
noncomputable def f18_r : KK := cFin PP (Tryz.f18).results.toList
noncomputable def f18_n0 : KK := CQ (f18_b [1, 1, 1]) f18_r kx0 f18_r
noncomputable def f18_m0 : KK := clr 36893488147419103217 f18_n0
noncomputable def play_Call_k0 (x1 x2 x3 : Value) (H : AH) : OV := f18_n0 (ls [u, x1, x2, x3] 61) H
noncomputable def f18_n1 : KK := CQ (f18_b [1, 1, 1, 1]) f18_r kx0 f18_r
noncomputable def f18_m1 : KK := clr 36893488147419103219 f18_n1
noncomputable def play_Call_k1 (x2 x3 : Value) (H : AH) : OV := f18_n1 (ls [u, u, x2, x3] 61) H
noncomputable def f18_n5 : KK := CQ (f18_b [1, 1, 1, 0, 1]) f18_m1 kx0 f18_r
noncomputable def f18_m5 : KK := clr 36893488147419070449 f18_n5
noncomputable def play_Call_k5 (x1 x2 x3 x15 : Value) (H : AH) : OV := f18_n5 (ls [u, x1, x2, x3, u, u, u, u, u, u, u, u, u, u, u, x15] 49) H
noncomputable def f18_x6 : KX := BX 0 f18_m1 kx0
noncomputable def f18_y6 : KX := clx 36893488147419103219 f18_x6
noncomputable def f18_n7 : KK := CQ (f18_b [1, 1, 1, 0, 1, 4, 1]) f18_m1 f18_y6 f18_r
noncomputable def f18_m7 : KK := clr 36893488113059332081 f18_n7
noncomputable def play_Call_k7 (x1 x2 x3 x15 x35 : Value) (H : AH) : OV := f18_n7 (ls [u, x1, x2, x3, u, u, u, u, u, u, u, u, u, u, u, x15, u, u, u, u, u, u, u, u, u, u, u, u, u, u, u, u, u, u, u, x35] 29) H
noncomputable def f18_n18 : KK := CQ (f18_b [1, 1, 1, 0, 1, 4, 1, 3, 1]) f18_m1 f18_y6 f18_r
noncomputable def f18_m18 : KK := clr 36893206672442359793 f18_n18
noncomputable def play_Call_k18 (x1 x2 x3 x15 x48 : Value) (H : AH) : OV := f18_n18 (ls [u, x1, x2, x3, u, u, u, u, u, u, u, u, u, u, u, x15, u, u, u, u, u, u, u, u, u, u, u, u, u, u, u, u, u, u, u, u, u, u, u, u, u, u, u, u, u, u, u, u, x48] 16) H
noncomputable def f18_n20 : KK := CQ (f18_b [1, 1, 1, 0, 1, 4, 1, 3, 1, 3, 1]) f18_m1 f18_y6 f18_r
noncomputable def f18_m20 : KK := clr 36891236347605385201 f18_n20
noncomputable def play_Call_k20 (x1 x2 x3 x15 x51 : Value) (H : AH) : OV := f18_n20 (ls [u, x1, x2, x3, u, u, u, u, u, u, u, u, u, u, u, x15, u, u, u, u, u, u, u, u, u, u, u, u, u, u, u, u, u, u, u, u, u, u, u, u, u, u, u, u, u, u, u, u, u, u, u, x51] 13) H
theorem f18_r_d : Resp 36893488147419103227 f18_r := rf
theorem f18_n0_d : Resp 36893488147419103217 f18_n0 := rc f18_r_d kx0_d f18_r_d
theorem f18_n1_d : Resp 36893488147419103219 f18_n1 := rc f18_r_d kx0_d f18_r_d
theorem f18_n5_d : Resp 36893488147419070449 f18_n5 := rc (cd f18_n1_d) kx0_d f18_r_d
theorem f18_x6_d : ∀ i, Resp 36893488147419103219 (f18_x6 i) := rb (cd f18_n1_d) kx0_d
theorem f18_n7_d : Resp 36893488113059332081 f18_n7 := rc (cd f18_n1_d) (cx f18_x6_d) f18_r_d
theorem f18_n18_d : Resp 36893206672442359793 f18_n18 := rc (cd f18_n1_d) (cx f18_x6_d) f18_r_d
theorem f18_n20_d : Resp 36891236347605385201 f18_n20 := rc (cd f18_n1_d) (cx f18_x6_d) f18_r_d
theorem play_Call_k1_eq (x2 x3 : Value) (H : AH) : play_Call_k1 x2 x3 H =
  (pLdN 4 x3 H).bind fun v2 =>
  (pSt 4 x2 v2 H).bind fun H3 =>
  (pLdN 4 x2 H3).bind fun v4 => some (v4, H3) :=
  (by kernel_rfl)
theorem play_Call_k20_eq (x1 x2 x3 x15 x51 : Value) (H : AH) : play_Call_k20 x1 x2 x3 x15 x51 H =
  condK x51
  (mkS [(0, 1), (1, 1), (2, 1), (3, 1)] [(vi 0), (vi 0), (vi 0), (vi 0)] [(0, (vi 4))] fun v21 =>
  (pSt 4 x3 v21 H).bind fun H22 =>
  play_Call_k1 x2 x3 H22)
  ((pBin .other .eql x15 (vi 8)).bind fun v23 =>
  condK v23
  (ld [.f 2] x1 H fun v24 =>
  (FF n_play_Mod [v24, (vi 6)] H).bind fun r25 =>
  mkS [(0, 1), (1, 1), (2, 1), (3, 1)] [(vi 0), (vi 0), (vi 0), (vi 0)] [(0, (vi 5)), (2, r25.1)] fun v26 =>
  (pSt 4 x3 v26 r25.2).bind fun H27 =>
  play_Call_k1 x2 x3 H27)
  ((pBin .other .eql x15 (vi 9)).bind fun v28 =>
  condK v28
  (mkS [(0, 1), (1, 1), (2, 1), (3, 1)] [(vi 0), (vi 0), (vi 0), (vi 0)] [(0, (vi 6))] fun v29 =>
  (pSt 4 x3 v29 H).bind fun H30 =>
  play_Call_k1 x2 x3 H30)
  (ld [.f 2] x1 H fun v31 =>
  (FF n_play_Mod [v31, (vi 9)] H).bind fun r32 =>
  (pBin .other .add (vi 1) r32.1).bind fun v33 =>
  ad [.f 3] x1 fun v34 =>
  (pLd1 v34 r32.2).bind fun v35 =>
  eqK (pLd1 v34 H) (pLd1 v34 r32.2) <|
  (FF n_play_Mod [v35, (vi 1000)] r32.2).bind fun r36 =>
  st 1 [.f 0] x3 (vi 3) r36.2 fun H37 =>
  st 1 [.f 2] x3 v33 H37 fun H38 =>
  st 1 [.f 3] x3 r36.1 H38 fun H39 =>
  ld [.f 2] x1 H39 fun v40 =>
  (FF n_play_Mod [v40, (vi 13)] H39).bind fun r41 =>
  (pBin .other .eql r41.1 (vi 12)).bind fun v42 =>
  condK v42
  (ld [.f 2] x1 r41.2 fun v43 =>
  (FF n_play_Mod [v43, (vi 65536)] r41.2).bind fun r44 =>
  (pBin .other .add (vi 1) r44.1).bind fun v45 =>
  st 1 [.f 2] x3 v45 r44.2 fun H46 =>
  play_Call_k1 x2 x3 H46)
  (play_Call_k1 x2 x3 r41.2)))) :=
  (by kernel_rfl)
theorem play_Call_k18_eq (x1 x2 x3 x15 x48 : Value) (H : AH) : play_Call_k18 x1 x2 x3 x15 x48 H =
  condK x48
  (st 1 [.f 0] x3 (vi 2) H fun H19 =>
  play_Call_k1 x2 x3 H19)
  ((pBin .other .eql x15 (vi 6)).bind fun v47 =>
  condK v47
  (play_Call_k20 x1 x2 x3 x15 v47 H)
  ((pBin .other .eql x15 (vi 7)).bind fun v48 =>
  play_Call_k20 x1 x2 x3 x15 v48 H)) :=
  (ct rfl (f18_b [1, 1, 1, 0, 1, 4, 1, 3, 1, 2]) (f18_b [1, 1, 1, 0, 1, 4, 1, 3, 1, 3]) (.tmp 48) (by kernel_rfl) (pt rfl 0 f18_n20_d (by kernel_rfl)))
theorem play_Call_k7_eq (x1 x2 x3 x15 x35 : Value) (H : AH) : play_Call_k7 x1 x2 x3 x15 x35 H =
  condK x35
  (ld [.f 2] x1 H fun v8 =>
  (FF n_play_Mod [v8, (vi 5)] H).bind fun r9 =>
  (pBin .other .add (vi 1) r9.1).bind fun v10 =>
  ad [.f 3] x1 fun v11 =>
  (pLd1 v11 r9.2).bind fun v12 =>
  eqK (pLd1 v11 H) (pLd1 v11 r9.2) <|
  (FF n_play_Mod [v12, (vi 3)] r9.2).bind fun r13 =>
  (pBin .other .add (vi 1) r13.1).bind fun v14 =>
  st 1 [.f 0] x3 (vi 1) r13.2 fun H15 =>
  st 1 [.f 2] x3 v10 H15 fun H16 =>
  st 1 [.f 3] x3 v14 H16 fun H17 =>
  play_Call_k1 x2 x3 H17)
  ((pBin .other .eql x15 (vi 1)).bind fun v49 =>
  play_Call_k18 x1 x2 x3 x15 v49 H) :=
  (ct rfl (f18_b [1, 1, 1, 0, 1, 4, 1, 2]) (f18_b [1, 1, 1, 0, 1, 4, 1, 3]) (.tmp 35) (by kernel_rfl) (pt rfl 0 f18_n18_d (by kernel_rfl)))
theorem play_Call_k5_eq (x1 x2 x3 x15 : Value) (H : AH) : play_Call_k5 x1 x2 x3 x15 H =
  (pBin .other .eql x15 (vi 0)).bind fun v50 =>
  play_Call_k7 x1 x2 x3 x15 v50 H :=
  (bt rfl (f18_b [1, 1, 1, 0, 1, 4]) 0 f18_x6_d (pt rfl 0 f18_n7_d (by kernel_rfl)))
theorem play_Call_k0_eq (x1 x2 x3 : Value) (H : AH) : play_Call_k0 x1 x2 x3 H =
  ld [.f 0] x1 H fun v51 =>
  (FF n_play_Mod [v51, (vi 10)] H).bind fun r52 =>
  play_Call_k5 x1 x2 x3 r52.1 r52.2 :=
  (pt rfl 0 f18_n1_d (pt rfl 0 f18_n5_d (by kernel_rfl)))
noncomputable def play_Call (x0 : Value) (H : AH) : OV := cCode PP GG FF (f18_b []) (ls [x0] 64) H f18_r kx0 f18_r
theorem play_Call_of (x0 : Value) (H : AH) {r : Value × AH} (h : (
  newK (Value.cells x0).toList H fun v53 H54 =>
  newK [(vi 0), (vi 0), (vi 0), (vi 0)] H54 fun v55 H56 =>
  ld [.f 1] v53 H56 fun v57 =>
  (FF n_play_Mod [v57, (vi 23)] H56).bind fun r58 =>
  (pBin .other .eql r58.1 (vi 22)).bind fun v59 =>
  condK v59
  ((pLdN 4 v53 r58.2).bind fun v60 =>
  (pSt 4 v55 v60 r58.2).bind fun H61 =>
  (pLdN 4 v55 H61).bind fun v62 => some (v62, H61))
  (ld [.f 1] v53 r58.2 fun v63 =>
  (FF n_play_Mod [v63, (vi 5)] r58.2).bind fun r64 =>
  mkS [(0, 1), (1, 1), (2, 1), (3, 1)] [(vi 0), (vi 0), (vi 0), (vi 0)] [(1, r64.1)] fun v65 =>
  newK [(vi 0), (vi 0), (vi 0), (vi 0)] r64.2 fun v66 H67 =>
  (pSt 4 v66 v65 H67).bind fun H68 =>
  play_Call_k0 v53 v55 v66 H68)) = some r) : FF n_play_Call [x0] H = some r :=
  fo (t := play_Call x0 H) Tryz.func18 (by kernel_rfl) (Eq.trans (pt rfl 2 f18_n0_d (by kernel_rfl)) h)

-- FUNCTION play_Mod
theorem play_Mod_of (x0 x1 : Value) (H : AH) {r : Value × AH} (h : (
  (pConv (some .u64) x0).bind fun v0 =>
  (pConv (some .u64) x1).bind fun v1 =>
  (pBin .other .rem v0 v1).bind fun v2 =>
  (pConv (some .i64) v2).bind fun v3 =>
  some (v3, H)) = some r) : FF n_play_Mod [x0, x1] H = some r :=
  fo Tryz.func21 (by kernel_rfl) h

-- FUNCTION play_Config
noncomputable def f30_b (p : List Nat) : Code := Code.sub (bodyOf Tryz.f30) p
noncomputable def f30_r : KK := cFin PP (Tryz.f30).results.toList
noncomputable def f30_n0 : KK := CQ (f30_b [1, 1]) f30_r kx0 f30_r
noncomputable def f30_m0 : KK := clr 8589934577 f30_n0
noncomputable def play_Config_k0 (x1 x2 x3 : Value) (H : AH) : OV := f30_n0 (ls [u, x1, x2, x3] 29) H
noncomputable def f30_n1 : KK := CQ (f30_b [1, 1, 1]) f30_r kx0 f30_r
noncomputable def f30_m1 : KK := clr 8589934577 f30_n1
noncomputable def play_Config_k1 (x1 x2 x3 : Value) (H : AH) : OV := f30_n1 (ls [u, x1, x2, x3] 29) H
theorem f30_r_d : Resp 8589934587 f30_r := rf
theorem f30_n0_d : Resp 8589934577 f30_n0 := rc f30_r_d kx0_d f30_r_d
theorem f30_n1_d : Resp 8589934577 f30_n1 := rc f30_r_d kx0_d f30_r_d
theorem play_Config_k1_eq (x1 x2 x3 : Value) (H : AH) : play_Config_k1 x1 x2 x3 H =
  ld [.f 0] x1 H fun v2 =>
  (FF n_play_Mod [v2, (vi 4)] H).bind fun r3 =>
  (pBin .other .add (vi 1) r3.1).bind fun v4 =>
  ad [.f 1] x1 fun v5 =>
  (pLd1 v5 r3.2).bind fun v6 =>
  eqK (pLd1 v5 H) (pLd1 v5 r3.2) <|
  (FF n_play_Mod [v6, (vi 4)] r3.2).bind fun r7 =>
  (pBin .other .add (vi 1) r7.1).bind fun v8 =>
  ad [.f 2] x1 fun v9 =>
  (pLd1 v9 r7.2).bind fun v10 =>
  eqK (pLd1 v9 H) (pLd1 v9 r7.2) <|
  eqK (pLd1 v9 r3.2) (pLd1 v9 r7.2) <|
  (FF n_play_Mod [v10, (vi 6)] r7.2).bind fun r11 =>
  (pBin .other .add (vi 1) r11.1).bind fun v12 =>
  ad [.f 3] x1 fun v13 =>
  (pLd1 v13 r11.2).bind fun v14 =>
  eqK (pLd1 v13 H) (pLd1 v13 r11.2) <|
  eqK (pLd1 v13 r3.2) (pLd1 v13 r11.2) <|
  eqK (pLd1 v13 r7.2) (pLd1 v13 r11.2) <|
  (FF n_play_Mod [v14, (vi 12)] r11.2).bind fun r15 =>
  mkS [(0, 1), (1, 1), (2, 1), (3, 1), (4, 1)] [(vi 0), (vi 0), (vi 0), (vi 0), (vw 0)] [(0, v4), (1, v8), (2, v12), (3, r15.1), (4, x3)] fun v16 =>
  (pSt 5 x2 v16 r15.2).bind fun H17 =>
  (pLdN 5 x2 H17).bind fun v18 => some (v18, H17) :=
  (by kernel_rfl)
theorem play_Config_k0_eq (x1 x2 x3 : Value) (H : AH) : play_Config_k0 x1 x2 x3 H =
  ld [.f 4] x1 H fun v19 =>
  (pBin .other .rem v19 (vw 4)).bind fun v20 =>
  (pBin .other .eql v20 (vw 3)).bind fun v21 =>
  condK v21
  (ld [.f 4] x1 H fun v22 =>
  (pBin .other .rem v22 (vw 4611686018427387904)).bind fun v23 =>
  (pBin .other .add (vw 1) v23).bind fun v24 =>
  play_Config_k1 x1 x2 v24 H)
  (play_Config_k1 x1 x2 x3 H) :=
  (pt rfl 0 f30_n1_d (by kernel_rfl))
noncomputable def play_Config (x0 : Value) (H : AH) : OV := cCode PP GG FF (f30_b []) (ls [x0] 32) H f30_r kx0 f30_r
theorem play_Config_of (x0 : Value) (H : AH) {r : Value × AH} (h : (
  newK (Value.cells x0).toList H fun v25 H26 =>
  newK [(vi 0), (vi 0), (vi 0), (vi 0), (vw 0)] H26 fun v27 H28 =>
  ld [.f 4] v25 H28 fun v29 =>
  (pBin .other .rem v29 (vw 5000)).bind fun v30 =>
  (pBin .other .add (vw 1) v30).bind fun v31 =>
  play_Config_k0 v25 v27 v31 H28) = some r) : FF n_play_Config [x0] H = some r :=
  fo (t := play_Config x0 H) Tryz.func30 (by kernel_rfl) (Eq.trans (pt rfl 1 f30_n0_d (by kernel_rfl)) h)

-- FUNCTION parts_New
theorem parts_New_of (x0 : Value) (H : AH) {r : Value × AH} (h : (
  newK (Value.cells x0).toList H fun v0 H1 =>
  (pLdN 5 v0 H1).bind fun v2 =>
  (FF n_model_Right [v2] H1).bind fun r3 =>
  (pUn .not r3.1).bind fun v4 =>
  condK v4
  (some (Value.tuple #[(.pointer none), (vi 1)], r3.2))
  ((FF n_mem_New [] r3.2).bind fun r5 =>
  ld [.f 0] v0 r5.2 fun v6 =>
  (FF n_inbox_New [r5.1, v6] r5.2).bind fun r7 =>
  ad [.f 0] v0 fun v8 =>
  (pLd1 v8 r7.2).bind fun v9 =>
  eqK (pLd1 v8 r5.2) (pLd1 v8 r7.2) <|
  ad [.f 1] v0 fun v10 =>
  (pLd1 v10 r7.2).bind fun v11 =>
  eqK (pLd1 v10 r5.2) (pLd1 v10 r7.2) <|
  (FF n_table_New [r5.1, v9, v11] r7.2).bind fun r12 =>
  ad [.f 2] v0 fun v13 =>
  (pLd1 v13 r12.2).bind fun v14 =>
  eqK (pLd1 v13 r5.2) (pLd1 v13 r12.2) <|
  eqK (pLd1 v13 r7.2) (pLd1 v13 r12.2) <|
  (FF n_post_New [r5.1, v14] r12.2).bind fun r15 =>
  (pLdN 5 v0 r15.2).bind fun v16 =>
  eqK (pLdN 5 v0 r5.2) (pLdN 5 v0 r15.2) <|
  eqK (pLdN 5 v0 r7.2) (pLdN 5 v0 r15.2) <|
  eqK (pLdN 5 v0 r12.2) (pLdN 5 v0 r15.2) <|
  (FF n_core_New [v16] r15.2).bind fun r17 =>
  (pLdN 5 v0 r17.2).bind fun v18 =>
  eqK (pLdN 5 v0 r5.2) (pLdN 5 v0 r17.2) <|
  eqK (pLdN 5 v0 r7.2) (pLdN 5 v0 r17.2) <|
  eqK (pLdN 5 v0 r12.2) (pLdN 5 v0 r17.2) <|
  eqK (pLdN 5 v0 r15.2) (pLdN 5 v0 r17.2) <|
  mapK r17.2 fun v19 H20 =>
  mkS [(0, 1), (1, 1), (2, 1), (3, 1), (4, 1), (5, 5), (10, 1), (11, 1), (12, 1)] [(.pointer none), (.pointer none), (.pointer none), (.pointer none), (.pointer none), (vi 0), (vi 0), (vi 0), (vi 0), (vw 0), (.slice none 0 0), (.map none), (.slice none 0 0)] [(0, r5.1), (1, r7.1), (2, r12.1), (3, r15.1), (4, r17.1), (5, v18), (7, v19)] fun v21 =>
  newK (Value.cells v21).toList H20 fun v22 H23 =>
  some (Value.tuple #[v22, (vi 0)], H23))) = some r) : FF n_parts_New [x0] H = some r :=
  fo Tryz.func31 (by kernel_rfl) h

-- FUNCTION r16_NewParts
theorem r16_NewParts_of (x0 : Value) (H : AH) {r : Value × AH} (h : (
  newK (Value.cells x0).toList H fun v0 H1 =>
  mkS [(0, 1), (1, 1), (2, 1)] [(.slice none 0 0), (.slice none 0 0), (.slice none 0 0)] [] fun v2 =>
  newK (Value.cells v2).toList H1 fun v3 H4 =>
  (pLdN 5 v0 H4).bind fun v5 =>
  ld [.f 0] v0 H4 fun v6 =>
  (FF n_r16_NewInbox [v3, v6] H4).bind fun r7 =>
  eqK (pLdN 5 v0 r7.2) (pLdN 5 v0 H4) <|
  ad [.f 0] v0 fun v8 =>
  (pLd1 v8 r7.2).bind fun v9 =>
  eqK (pLd1 v8 H4) (pLd1 v8 r7.2) <|
  ad [.f 1] v0 fun v10 =>
  (pLd1 v10 r7.2).bind fun v11 =>
  eqK (pLd1 v10 H4) (pLd1 v10 r7.2) <|
  (FF n_r16_NewTable [v3, v9, v11] r7.2).bind fun r12 =>
  eqK (pLdN 5 v0 r12.2) (pLdN 5 v0 H4) <|
  ad [.f 2] v0 fun v13 =>
  (pLd1 v13 r12.2).bind fun v14 =>
  eqK (pLd1 v13 H4) (pLd1 v13 r12.2) <|
  eqK (pLd1 v13 r7.2) (pLd1 v13 r12.2) <|
  (FF n_r16_NewPost [v3, v14] r12.2).bind fun r15 =>
  eqK (pLdN 5 v0 r15.2) (pLdN 5 v0 H4) <|
  (pLdN 5 v0 r15.2).bind fun v16 =>
  eqK (pLdN 5 v0 H4) (pLdN 5 v0 r15.2) <|
  eqK (pLdN 5 v0 r7.2) (pLdN 5 v0 r15.2) <|
  eqK (pLdN 5 v0 r12.2) (pLdN 5 v0 r15.2) <|
  (FF n_r16_NewCore [v16] r15.2).bind fun r17 =>
  eqK (pLdN 5 v0 r17.2) (pLdN 5 v0 H4) <|
  mkS [(0, 5), (5, 1), (6, 1), (7, 1), (8, 1), (9, 1), (10, 1), (11, 1), (12, 1), (13, 1)] [(vi 0), (vi 0), (vi 0), (vi 0), (vw 0), (.pointer none), (.pointer none), (.pointer none), (.pointer none), (.pointer none), (.slice none 0 0), (.slice none 0 0), (.slice none 0 0), (.slice none 0 0)] [(0, v5), (1, v3), (2, r7.1), (3, r12.1), (4, r15.1), (5, r17.1)] fun v18 =>
  newK (Value.cells v18).toList r17.2 fun v19 H20 =>
  some (v19, H20)) = some r) : FF n_r16_NewParts [x0] H = some r :=
  fo Tryz.func32 (by kernel_rfl) h

-- FUNCTION l23_Pair_put
theorem l23_Pair_put_of (x0 x1 x2 x3 : Value) (H : AH) {r : Value × AH} (h : (
  newK (Value.cells x0).toList H fun v0 H1 =>
  ld [.f 1] v0 H1 fun v2 =>
  ldN 5 [.n, .f 0] v2 H1 fun v3 =>
  newK [(vi 0), (vi 0), (vi 0), (vi 0), (vw 0)] H1 fun v4 H5 =>
  (pSt 5 v4 v3 H5).bind fun H6 =>
  ld [.f 4] v4 H6 fun v7 =>
  (FF n_r01_Inverse [v7, x2] H6).bind fun r8 =>
  (pExtract r8.1 0).bind fun v9 =>
  (pExtract r8.1 1).bind fun v10 =>
  mkS [(0, 1), (1, 1), (2, 1)] [(vi 0), (vi 0), (vw 0)] [(0, x1), (1, x3), (2, v9)] fun v11 =>
  newK [(vi 0), (vi 0), (vw 0)] r8.2 fun v12 H13 =>
  (pSt 3 v12 v11 H13).bind fun H14 =>
  ld [.f 0] v0 H14 fun v15 =>
  (pLdN 3 v12 H14).bind fun v16 =>
  (FF n_parts_Parts_Make [v15, (vi 0), v16] H14).bind fun r17 =>
  ad [.f 1] v0 fun v18 =>
  (pLd1 v18 r17.2).bind fun v19 =>
  eqK (pLd1 v18 H14) (pLd1 v18 r17.2) <|
  (pLdN 3 v12 r17.2).bind fun v20 =>
  eqK (pLdN 3 v12 H14) (pLdN 3 v12 r17.2) <|
  (FF n_r16_Parts_Make [v19, (vi 0), v20] r17.2).bind fun r21 =>
  (pBin .other .eql r17.1 r21.1).bind fun v22 =>
  gld v22 true  [.f 0] v0 r21.2 fun v23 =>
  gld v22 true  [.n, .f 2] v23 r21.2 fun v24 =>
  (gV v22 true x1).bind fun v25 =>
  gld v22 true  [.f 0] v4 r21.2 fun v26 =>
  (gB v22 true (pBin .other .rem v25 v26)).bind fun v27 =>
  (gV v22 true x1).bind fun v28 =>
  gld v22 true  [.f 0] v4 r21.2 fun v29 =>
  (gB v22 true (pBin .other .quo v28 v29)).bind fun v30 =>
  (gV v22 true x1).bind fun v31 =>
  (gV v22 true r17.1).bind fun v32 =>
  (gE v22 true r21.2 (FF n_table_Table_Put [v24, (vi 0), v27, v30, v31, v32] r21.2)).bind fun r33 =>
  (pPick v22 r33.1 (vb false)).bind fun v34 =>
  gld v34 true  [.f 1] v0 r33.2 fun v35 =>
  gld v34 true  [.n, .f 7] v35 r33.2 fun v36 =>
  (gV v34 true x1).bind fun v37 =>
  gld v34 true  [.f 0] v4 r33.2 fun v38 =>
  (gB v34 true (pBin .other .rem v37 v38)).bind fun v39 =>
  (gV v34 true x1).bind fun v40 =>
  gld v34 true  [.f 0] v4 r33.2 fun v41 =>
  (gB v34 true (pBin .other .quo v40 v41)).bind fun v42 =>
  (gV v34 true x1).bind fun v43 =>
  (gV v34 true r21.1).bind fun v44 =>
  (gE v34 true r33.2 (FF n_r16_Table_Put [v36, (vi 0), v39, v42, v43, v44] r33.2)).bind fun r45 =>
  (pPick v34 r45.1 (vb false)).bind fun v46 =>
  some (v46, r45.2)) = some r) : FF n_l23_Pair_put [x0, x1, x2, x3] H = some r :=
  fo Tryz.func33 (by kernel_rfl) h

-- FUNCTION table_Table_Shard
theorem table_Table_Shard_of (x0 x1 : Value) (H : AH) {r : Value × AH} (h : (
  ld [.n, .f 1] x0 H fun v0 =>
  (pBin .other .rem x1 v0).bind fun v1 =>
  ld [.n, .f 1] x0 H fun v2 =>
  (pBin .other .add v1 v2).bind fun v3 =>
  ld [.n, .f 1] x0 H fun v4 =>
  (pBin .other .rem v3 v4).bind fun v5 =>
  some (v5, H)) = some r) : FF n_table_Table_Shard [x0, x1] H = some r :=
  fo Tryz.func34 (by kernel_rfl) h

-- FUNCTION enq_Enq_first
noncomputable def f35_b (p : List Nat) : Code := Code.sub (bodyOf Tryz.f35) p
noncomputable def f35_r : KK := cFin PP (Tryz.f35).results.toList
noncomputable def f35_n0 : KK := CQ (f35_b [1]) f35_r kx0 f35_r
noncomputable def f35_m0 : KK := clr 2251799813685196 f35_n0
noncomputable def enq_Enq_first_k0 (x0 x1 x4 x5 : Value) (H : AH) : OV := f35_n0 (ls [x0, x1, u, u, x4, x5] 45) H
noncomputable def f35_n1 : KK := CQ (f35_b [1, 1]) f35_r kx0 f35_r
noncomputable def f35_m1 : KK := clr 2251799813685196 f35_n1
noncomputable def enq_Enq_first_k1 (x0 x1 x4 x5 : Value) (H : AH) : OV := f35_n1 (ls [x0, x1, u, u, x4, x5] 45) H
noncomputable def f35_x7 : KX := BX 0 f35_m1 kx0
noncomputable def f35_y7 : KX := clx 2251799813685196 f35_x7
theorem f35_r_d : Resp 2251799813685199 f35_r := rf
theorem f35_n0_d : Resp 2251799813685196 f35_n0 := rc f35_r_d kx0_d f35_r_d
theorem f35_n1_d : Resp 2251799813685196 f35_n1 := rc f35_r_d kx0_d f35_r_d
theorem f35_x7_d : ∀ i, Resp 2251799813685196 (f35_x7 i) := rb (cd f35_n1_d) kx0_d
theorem enq_Enq_first_k1_eq (x0 x1 x4 x5 : Value) (H : AH) : enq_Enq_first_k1 x0 x1 x4 x5 H =
  (FF n_enq_Enq_scan [x0, x1] H).bind fun r2 =>
  (pExtract r2.1 0).bind fun v3 =>
  (pExtract r2.1 1).bind fun v4 =>
  (pSt 4 x4 v3 r2.2).bind fun H5 =>
  (pLdN 4 x4 H5).bind fun v6 => some (Value.tuple #[v6, v4], H5) :=
  (by kernel_rfl)
theorem enq_Enq_first_k0_eq (x0 x1 x4 x5 : Value) (H : AH) : enq_Enq_first_k0 x0 x1 x4 x5 H =
  ld [.n, .f 2, .f 2] x0 H fun v8 =>
  (pBin .other .lss v8 (vi 1)).bind fun v9 =>
  (gV v9 false x0).bind fun v10 =>
  gld v9 false  [.n, .f 2, .f 2] v10 H fun v11 =>
  (gB v9 false (pBin .other .gtr v11 (vi 65536))).bind fun v12 =>
  (pPick v9 (vb true) v12).bind fun v13 =>
  condK v13
  ((FF n_enq_Enq_refuse [x0, x1, (vi 3)] H).bind fun r14 =>
  (pExtract r14.1 0).bind fun v15 =>
  (pExtract r14.1 1).bind fun v16 =>
  (pSt 4 x4 v15 r14.2).bind fun H17 =>
  (pLdN 4 x4 H17).bind fun v18 => some (Value.tuple #[v18, v16], H17))
  (ld [.n, .f 2, .f 1] x0 H fun v19 =>
  (pBin .other .lss v19 (vi 0)).bind fun v20 =>
  (gV v20 false x0).bind fun v21 =>
  gld v20 false  [.n, .f 2, .f 1] v21 H fun v22 =>
  (gB v20 false (pBin .other .gtr v22 (vi 1048576))).bind fun v23 =>
  (pPick v20 (vb true) v23).bind fun v24 =>
  condK v24
  ((FF n_enq_Enq_refuse [x0, x1, (vi 5)] H).bind fun r25 =>
  (pExtract r25.1 0).bind fun v26 =>
  (pExtract r25.1 1).bind fun v27 =>
  (pSt 4 x4 v26 r25.2).bind fun H28 =>
  (pLdN 4 x4 H28).bind fun v29 => some (Value.tuple #[v29, v27], H28))
  (enq_Enq_first_k1 x0 x1 x4 x5 H)) :=
  (pt rfl 0 f35_n1_d (bt rfl (f35_b [1, 0, 4]) 0 f35_x7_d (by kernel_rfl)))
noncomputable def enq_Enq_first (x0 x1 : Value) (H : AH) : OV := cCode PP GG FF (f35_b []) (ls [x0, x1] 49) H f35_r kx0 f35_r
theorem enq_Enq_first_of (x0 x1 : Value) (H : AH) {r : Value × AH} (h : (
  newK [(vi 0), (.slice none 0 0), (vi 0), (vw 0)] H fun v30 H31 =>
  enq_Enq_first_k0 x0 x1 v30 (vb false) H31) = some r) : FF n_enq_Enq_first [x0, x1] H = some r :=
  fo (t := enq_Enq_first x0 x1 H) Tryz.func35 (by kernel_rfl) (Eq.trans (pt rfl 0 f35_n0_d (by kernel_rfl)) h)

-- FUNCTION slices_Cloneparts_pointparts_point
theorem slices_Cloneparts_pointparts_point_of (x0 : Value) (H : AH) {r : Value × AH} (h : (
  (pBin .slice .eql x0 (.slice none 0 0)).bind fun v0 =>
  condK v0
  (some ((.slice none 0 0), H))
  (mkR 0 7 [(vi 0), (vi 0), (vi 0), (vi 0), (.slice none 0 0), (vi 0), (vw 0)] [] H fun v1 H2 =>
  (pApp 7 72 v1 x0 H2).bind fun r3 =>
  some (r3.1, r3.2))) = some r) : FF n_slices_Cloneparts_pointparts_point [x0] H = some r :=
  fo Tryz.func36 (by kernel_rfl) h

-- FUNCTION slices_SortStableFuncparts_pointparts_point
theorem slices_SortStableFuncparts_pointparts_point_of (x0 x1 : Value) (H : AH) {r : Value × AH} (h : (
  lenK x0 fun v0 =>
  (FF n_slices_stableCmpFuncparts_point [x0, v0, x1] H).bind fun r1 =>
  some (Value.tuple #[], r1.2)) = some r) : FF n_slices_SortStableFuncparts_pointparts_point [x0, x1] H = some r :=
  fo Tryz.func37 (by kernel_rfl) h

-- FUNCTION parts_own
theorem parts_own_of (x0 : Value) (H : AH) {r : Value × AH} (h : (
  newK (Value.cells x0).toList H fun v0 H1 =>
  newK [(vi 0), (.slice none 0 0), (vi 0), (vw 0)] H1 fun v2 H3 =>
  ld [.f 1] v0 H3 fun v4 =>
  (FF n_slices_Cloneapi_Packetapi_Packet [v4] H3).bind fun r5 =>
  st 1 [.f 1] v0 r5.1 r5.2 fun H6 =>
  (pLdN 4 v0 H6).bind fun v7 =>
  (pSt 4 v2 v7 H6).bind fun H8 =>
  (pLdN 4 v2 H8).bind fun v9 => some (v9, H8)) = some r) : FF n_parts_own [x0] H = some r :=
  fo Tryz.func39 (by kernel_rfl) h

-- FUNCTION help_Plainapi_Packet
theorem help_Plainapi_Packet_of (x0 x1 : Value) (H : AH) {r : Value × AH} (h : (
  (FF n_help_Sameapi_Packet [x0, x1, (.func (.func n_help_Plainapi_Packet_1) #[] #[])] H).bind fun r0 =>
  some (r0.1, r0.2)) = some r) : FF n_help_Plainapi_Packet [x0, x1] H = some r :=
  fo Tryz.func40 (by kernel_rfl) h

-- FUNCTION mem_Mem_Add
theorem mem_Mem_Add_of (x0 x1 x2 x3 : Value) (H : AH) {r : Value × AH} (h : (
  newK (Value.cells x2).toList H fun v0 H1 =>
  (pLdN 3 v0 H1).bind fun v2 =>
  (pLdN 3 v0 H1).bind fun v3 =>
  (FF n_mem_Mem_Peek [x0, v3] H1).bind fun r4 =>
  eqK (pLdN 3 v0 r4.2) (pLdN 3 v0 H1) <|
  (pBin .other .add r4.1 x3).bind fun v5 =>
  (FF n_mem_Mem_turn [x0, x1, v2, v5] r4.2).bind fun r6 =>
  some (r6.1, r6.2)) = some r) : FF n_mem_Mem_Add [x0, x1, x2, x3] H = some r :=
  fo Tryz.func48 (by kernel_rfl) h

-- FUNCTION r16_Mem_Add
theorem r16_Mem_Add_of (x0 x1 x2 x3 : Value) (H : AH) {r : Value × AH} (h : (
  newK (Value.cells x2).toList H fun v0 H1 =>
  (pLdN 3 v0 H1).bind fun v2 =>
  (FF n_r16_Mem_place [x0, v2] H1).bind fun r3 =>
  (pLdN 3 v0 r3.2).bind fun v4 =>
  (FF n_r16_Mem_Log [x0, x1, (vi 3), v4] r3.2).bind fun r5 =>
  ld [.n, .f 1] x0 r5.2 fun v6 =>
  ld [.i 1 r3.1] v6 r5.2 fun v7 =>
  ld [.n, .f 1] x0 r5.2 fun v8 =>
  (pBin .other .add v7 x3).bind fun v9 =>
  st 1 [.i 1 r3.1] v8 v9 r5.2 fun H10 =>
  some (v7, H10)) = some r) : FF n_r16_Mem_Add [x0, x1, x2, x3] H = some r :=
  fo Tryz.func49 (by kernel_rfl) h

-- FUNCTION r16_Loc
theorem r16_Loc_of (x0 x1 x2 : Value) (H : AH) {r : Value × AH} (h : (
  newK [(vi 0), (vi 0), (vi 0)] H fun v0 H1 =>
  mkS [(0, 1), (1, 1), (2, 1)] [(vi 0), (vi 0), (vi 0)] [(0, x0), (1, x1), (2, x2)] fun v2 =>
  (pSt 3 v0 v2 H1).bind fun H3 =>
  (pLdN 3 v0 H3).bind fun v4 => some (v4, H3)) = some r) : FF n_r16_Loc [x0, x1, x2] H = some r :=
  fo Tryz.func50 (by kernel_rfl) h

-- FUNCTION model_Right
theorem model_Right_of (x0 : Value) (H : AH) {r : Value × AH} (h : (
  newK (Value.cells x0).toList H fun v0 H1 =>
  ld [.f 0] v0 H1 fun v2 =>
  (FF n_model_within [v2, (vi 1), (vi 4)] H1).bind fun r3 =>
  gld r3.1 true  [.f 1] v0 r3.2 fun v4 =>
  (gE r3.1 true r3.2 (FF n_model_within [v4, (vi 1), (vi 4)] r3.2)).bind fun r5 =>
  (pPick r3.1 r5.1 (vb false)).bind fun v6 =>
  gld v6 true  [.f 2] v0 r5.2 fun v7 =>
  (gE v6 true r5.2 (FF n_model_within [v7, (vi 1), (vi 6)] r5.2)).bind fun r8 =>
  (pPick v6 r8.1 (vb false)).bind fun v9 =>
  gld v9 true  [.f 3] v0 r8.2 fun v10 =>
  (gE v9 true r8.2 (FF n_model_within [v10, (vi 0), (vi 40)] r8.2)).bind fun r11 =>
  (pPick v9 r11.1 (vb false)).bind fun v12 =>
  gld v12 true  [.f 4] v0 r11.2 fun v13 =>
  (gB v12 true (pBin .other .geq v13 (vw 1))).bind fun v14 =>
  (pPick v12 v14 (vb false)).bind fun v15 =>
  gld v15 true  [.f 4] v0 r11.2 fun v16 =>
  (gB v15 true (pBin .other .leq v16 (vw 4611686018427387904))).bind fun v17 =>
  (pPick v15 v17 (vb false)).bind fun v18 =>
  some (v18, r11.2)) = some r) : FF n_model_Right [x0] H = some r :=
  fo Tryz.func55 (by kernel_rfl) h

-- FUNCTION mem_New
theorem mem_New_of (H : AH) {r : Value × AH} (h : (
  mapK H fun v0 H1 =>
  mkS [(0, 1), (1, 1)] [(.map none), (.slice none 0 0)] [(0, v0)] fun v2 =>
  newK (Value.cells v2).toList H1 fun v3 H4 =>
  some (v3, H4)) = some r) : FF n_mem_New [] H = some r :=
  fo Tryz.func56 (by kernel_rfl) h

-- FUNCTION inbox_New
theorem inbox_New_of (x0 x1 : Value) (H : AH) {r : Value × AH} (h : (
  (pMax [x1, (vi 1)]).bind fun v0 =>
  (pMin [v0, (vi 4)]).bind fun v1 =>
  mapK H fun v2 H3 =>
  mkS [(0, 1), (1, 1), (2, 1), (3, 1), (4, 1)] [(.pointer none), (vi 0), (.map none), Value.nilFunc, Value.nilFunc] [(0, x0), (1, v1), (2, v2), (3, (.func (.func n_inbox_site_at) #[(vi 9)] #[])), (4, (.func (.func n_inbox_site_at) #[(vi 14)] #[]))] fun v4 =>
  newK (Value.cells v4).toList H3 fun v5 H6 =>
  some (v5, H6)) = some r) : FF n_inbox_New [x0, x1] H = some r :=
  fo Tryz.func57 (by kernel_rfl) h

-- FUNCTION table_New
theorem table_New_of (x0 x1 x2 : Value) (H : AH) {r : Value × AH} (h : (
  (pMax [x1, (vi 1)]).bind fun v0 =>
  (pMin [v0, (vi 4)]).bind fun v1 =>
  (pMax [x2, (vi 1)]).bind fun v2 =>
  (pMin [v2, (vi 4)]).bind fun v3 =>
  mkS [(0, 1), (1, 1), (2, 1)] [(.pointer none), (vi 0), (vi 0)] [(0, x0), (1, v1), (2, v3)] fun v4 =>
  newK (Value.cells v4).toList H fun v5 H6 =>
  some (v5, H6)) = some r) : FF n_table_New [x0, x1, x2] H = some r :=
  fo Tryz.func58 (by kernel_rfl) h

-- FUNCTION post_New
theorem post_New_of (x0 x1 : Value) (H : AH) {r : Value × AH} (h : (
  (pMax [x1, (vi 1)]).bind fun v0 =>
  (pMin [v0, (vi 6)]).bind fun v1 =>
  mapK H fun v2 H3 =>
  mapK H3 fun v4 H5 =>
  mkS [(0, 1), (1, 1), (2, 1), (3, 1)] [(.pointer none), (vi 0), (.map none), (.map none)] [(0, x0), (1, v1), (2, v2), (3, v4)] fun v6 =>
  newK (Value.cells v6).toList H5 fun v7 H8 =>
  some (v7, H8)) = some r) : FF n_post_New [x0, x1] H = some r :=
  fo Tryz.func59 (by kernel_rfl) h

-- FUNCTION core_New
theorem core_New_of (x0 : Value) (H : AH) {r : Value × AH} (h : (
  newK (Value.cells x0).toList H fun v0 H1 =>
  ld [.f 0] v0 H1 fun v2 =>
  ld [.f 3] v0 H1 fun v3 =>
  (FF n_queue_New [v2, v3] H1).bind fun r4 =>
  mapK r4.2 fun v5 H6 =>
  mapK H6 fun v7 H8 =>
  mkS [(0, 1), (1, 1), (2, 1), (3, 1), (4, 1), (5, 1), (6, 1), (7, 1), (8, 3)] [Value.nilFunc, Value.nilFunc, Value.nilFunc, (vw 0), (vw 0), (vi 0), (.map none), (.map none), (vb false), (vi 0), (vw 0)] [(0, (.func (.func n_queue_Queue_Push) #[r4.1] #[])), (1, (.func (.func n_queue_Queue_Pop) #[r4.1] #[])), (2, (.func (.func n_queue_Queue_All) #[r4.1] #[])), (6, v5), (7, v7)] fun v9 =>
  newK (Value.cells v9).toList H8 fun v10 H11 =>
  some (v10, H11)) = some r) : FF n_core_New [x0] H = some r :=
  fo Tryz.func60 (by kernel_rfl) h

-- FUNCTION r16_NewInbox
theorem r16_NewInbox_of (x0 x1 : Value) (H : AH) {r : Value × AH} (h : (
  (pMax [x1, (vi 1)]).bind fun v0 =>
  (pMin [v0, (vi 4)]).bind fun v1 =>
  mkS [(0, 1), (1, 1), (2, 1), (3, 1)] [(.pointer none), (vi 0), (.slice none 0 0), (.slice none 0 0)] [(0, x0), (1, v1)] fun v2 =>
  newK (Value.cells v2).toList H fun v3 H4 =>
  some (v3, H4)) = some r) : FF n_r16_NewInbox [x0, x1] H = some r :=
  fo Tryz.func61 (by kernel_rfl) h

-- FUNCTION r16_NewTable
theorem r16_NewTable_of (x0 x1 x2 : Value) (H : AH) {r : Value × AH} (h : (
  (pMax [x1, (vi 1)]).bind fun v0 =>
  (pMin [v0, (vi 4)]).bind fun v1 =>
  (pMax [x2, (vi 1)]).bind fun v2 =>
  (pMin [v2, (vi 4)]).bind fun v3 =>
  mkS [(0, 1), (1, 1), (2, 1)] [(.pointer none), (vi 0), (vi 0)] [(0, x0), (1, v1), (2, v3)] fun v4 =>
  newK (Value.cells v4).toList H fun v5 H6 =>
  some (v5, H6)) = some r) : FF n_r16_NewTable [x0, x1, x2] H = some r :=
  fo Tryz.func62 (by kernel_rfl) h

-- FUNCTION r16_NewPost
theorem r16_NewPost_of (x0 x1 : Value) (H : AH) {r : Value × AH} (h : (
  (pMax [x1, (vi 1)]).bind fun v0 =>
  (pMin [v0, (vi 6)]).bind fun v1 =>
  mkS [(0, 1), (1, 1), (2, 1), (3, 1), (4, 1), (5, 1)] [(.pointer none), (vi 0), (.slice none 0 0), (.slice none 0 0), (.slice none 0 0), (.slice none 0 0)] [(0, x0), (1, v1)] fun v2 =>
  newK (Value.cells v2).toList H fun v3 H4 =>
  some (v3, H4)) = some r) : FF n_r16_NewPost [x0, x1] H = some r :=
  fo Tryz.func63 (by kernel_rfl) h

-- FUNCTION r16_NewCore
theorem r16_NewCore_of (x0 : Value) (H : AH) {r : Value × AH} (h : (
  newK (Value.cells x0).toList H fun v0 H1 =>
  ld [.f 0] v0 H1 fun v2 =>
  ld [.f 3] v0 H1 fun v3 =>
  (FF n_r01_NewQueue [v2, v3] H1).bind fun r4 =>
  mkS [(0, 1), (1, 1), (2, 1), (3, 1), (4, 1), (5, 1), (6, 1), (7, 1), (8, 1)] [(.pointer none), (vw 0), (vw 0), (vi 0), (.slice none 0 0), (.slice none 0 0), (vb false), (vi 0), (vw 0)] [(0, r4.1)] fun v5 =>
  newK (Value.cells v5).toList r4.2 fun v6 H7 =>
  some (v6, H7)) = some r) : FF n_r16_NewCore [x0] H = some r :=
  fo Tryz.func64 (by kernel_rfl) h

end Go.Proofs.YtodpbobjmkhcfaaGreatDoor.Gst
