/- Several texts in one. -/
import Derived.Test.YtodpbobjmkhcfaaGreatDoorPb
namespace Go.Proofs.YtodpbobjmkhcfaaGreatDoor.Gst
open Go Go.RowKit
set_option maxRecDepth 100000
set_option linter.unusedVariables false
set_option maxHeartbeats 1000000
set_option linter.unusedSimpArgs false
set_option synthInstance.maxSize 2000
set_option synthInstance.maxHeartbeats 400000
noncomputable def f137_b (p : List Nat) : Code := Code.sub (bodyOf Tryz.f137) p
noncomputable def f137_r : KK := cFin PP (Tryz.f137).results.toList
noncomputable def f137_n0 : KK := CQ (f137_b [1]) f137_r kx0 f137_r
noncomputable def sIn_k0 (x0 x1 x2 x3 x8 : Value) (H : AH) : OV := f137_n0 (ls [x0, x1, x2, x3, u, u, u, u, x8] 44) H
noncomputable def f137_x1 : KX := BX 0 f137_r kx0
noncomputable def f137_y1 : KX := clx 9007199254740991 f137_x1
noncomputable def f137_n2 : KK := CLq (f137_b [1, 4, 5]) f137_y1 f137_r
noncomputable def f137_m2 : KK := clr 9007199254740720 f137_n2
noncomputable def sIn_k2 (x0 x1 x2 x3 x8 : Value) (H : AH) : OV := f137_n2 (ls [x0, x1, x2, x3, u, u, u, u, x8] 44) H
noncomputable def f137_n3 : KK := CQ (f137_b [1, 4, 5, 1]) f137_m2 f137_y1 f137_r
noncomputable def sIn_k3 (x0 x1 x2 x3 x8 : Value) (H : AH) : OV := f137_n3 (ls [x0, x1, x2, x3, u, u, u, u, x8] 44) H
noncomputable def f137_n4 : KK := CQ (f137_b [1, 4, 5, 1, 1]) f137_m2 f137_y1 f137_r
noncomputable def f137_m4 : KK := clr 9007199254740720 f137_n4
noncomputable def sIn_k4 (x0 x1 x2 x3 x8 : Value) (H : AH) : OV := f137_n4 (ls [x0, x1, x2, x3, u, u, u, u, x8] 44) H
noncomputable def f137_x6 : KX := BX 1 f137_m4 f137_y1
noncomputable def f137_y6 : KX := clx 9007199254740720 f137_x6
noncomputable def f137_n7 : KK := CQ (f137_b [1, 4, 5, 1, 0, 4, 1]) f137_m4 f137_y6 f137_r
noncomputable def sIn_k7 (x0 x1 x2 x3 x8 x9 : Value) (H : AH) : OV := f137_n7 (ls [x0, x1, x2, x3, u, u, u, u, x8, x9] 43) H
noncomputable def f137_x8 : KX := BX 2 f137_m4 f137_y6
noncomputable def f137_y8 : KX := clx 9007199254740720 f137_x8
noncomputable def f137_n9 : KK := CLq (f137_b [1, 4, 5, 1, 0, 4, 1, 4, 5]) f137_y8 f137_r
noncomputable def f137_m9 : KK := clr 9007199254740208 f137_n9
noncomputable def sIn_k9 (x0 x1 x2 x3 x8 x9 : Value) (H : AH) : OV := f137_n9 (ls [x0, x1, x2, x3, u, u, u, u, x8, x9] 43) H
noncomputable def f137_n10 : KK := CQ (f137_b [1, 4, 5, 1, 0, 4, 1, 4, 5, 1]) f137_m9 f137_y8 f137_r
noncomputable def sIn_k10 (x0 x1 x2 x3 x8 x9 : Value) (H : AH) : OV := f137_n10 (ls [x0, x1, x2, x3, u, u, u, u, x8, x9] 43) H
noncomputable def f137_n11 : KK := CQ (f137_b [1, 4, 5, 1, 0, 4, 1, 4, 5, 1, 1]) f137_m9 f137_y8 f137_r
noncomputable def f137_m11 : KK := clr 9007199254740208 f137_n11
noncomputable def sIn_k11 (x0 x1 x2 x3 x8 x9 : Value) (H : AH) : OV := f137_n11 (ls [x0, x1, x2, x3, u, u, u, u, x8, x9] 43) H
noncomputable def f137_x13 : KX := BX 3 f137_m11 f137_y8
noncomputable def sIn_e8_2 (x0 x1 x2 x3 x8 : Value) (H : AH) : OV := f137_x8 2 (ls [x0, x1, x2, x3, u, u, u, u, x8] 44) H
noncomputable def sIn_e1_0 (H : AH) : OV := f137_x1 0 (ls [] 53) H
theorem f137_r_d : Resp 9007199254740991 f137_r := rf
theorem f137_n0_d : Resp 9007199254740720 f137_n0 := rc f137_r_d kx0_d f137_r_d
theorem f137_x1_d : ∀ i, Resp 9007199254740991 (f137_x1 i) := rb f137_r_d kx0_d
theorem f137_n2_d : Resp 9007199254740720 f137_n2 := rl (cx f137_x1_d) f137_r_d
theorem f137_n3_d : Resp 9007199254740720 f137_n3 := rc (cd f137_n2_d) (cx f137_x1_d) f137_r_d
theorem f137_n4_d : Resp 9007199254740720 f137_n4 := rc (cd f137_n2_d) (cx f137_x1_d) f137_r_d
theorem f137_x6_d : ∀ i, Resp 9007199254740720 (f137_x6 i) := rb (cd f137_n4_d) (cx f137_x1_d)
theorem f137_n7_d : Resp 9007199254740208 f137_n7 := rc (cd f137_n4_d) (cx f137_x6_d) f137_r_d
theorem f137_x8_d : ∀ i, Resp 9007199254740720 (f137_x8 i) := rb (cd f137_n4_d) (cx f137_x6_d)
theorem f137_n9_d : Resp 9007199254740208 f137_n9 := rl (cx f137_x8_d) f137_r_d
theorem f137_n10_d : Resp 9007199254740208 f137_n10 := rc (cd f137_n9_d) (cx f137_x8_d) f137_r_d
theorem f137_n11_d : Resp 9007199254740208 f137_n11 := rc (cd f137_n9_d) (cx f137_x8_d) f137_r_d
theorem f137_x13_d : ∀ i, Resp 9007199254740208 (f137_x13 i) := rb (cd f137_n11_d) (cx f137_x8_d)
theorem sIn_k4_eq (x0 x1 x2 x3 x8 : Value) (H : AH) : sIn_k4 x0 x1 x2 x3 x8 H =
 (pBin .other .add x8 (vi 1)).bind fun v5 =>
 sIn_k2 x0 x1 x2 x3 v5 H :=
 (by kernel_rfl)
theorem sIn_k11_eq (x0 x1 x2 x3 x8 x9 : Value) (H : AH) : sIn_k11 x0 x1 x2 x3 x8 x9 H =
 (pBin .other .sub x9 (vi 1)).bind fun v12 =>
 sIn_k9 x0 x1 x2 x3 x8 v12 H :=
 (by kernel_rfl)
theorem sIn_k10_eq (x0 x1 x2 x3 x8 x9 : Value) (H : AH) : sIn_k10 x0 x1 x2 x3 x8 x9 H =
 (pBin .other .sub x9 (vi 1)).bind fun v14 =>
 (pBin .other .sub x9 (vi 1)).bind fun v15 =>
 ldN 7 [.i 7 v15] x0 H fun v16 =>
 ldN 7 [.i 7 x9] x0 H fun v17 =>
 st 7 [.i 7 x9] x0 v16 H fun H18 =>
 st 7 [.i 7 v14] x0 v17 H18 fun H19 =>
 sIn_k11 x0 x1 x2 x3 x8 x9 H19 :=
 (pt rfl 0 f137_n11_d (bt rfl (f137_b [1, 4, 5, 1, 0, 4, 1, 4, 5, 1, 0, 4]) 3 f137_x13_d (by kernel_rfl)))
theorem sIn_e8_2_eq (x0 x1 x2 x3 x8 : Value) (H : AH) : sIn_e8_2 x0 x1 x2 x3 x8 H = sIn_k4 x0 x1 x2 x3 x8 H :=
 (by kernel_rfl)
theorem sIn_k9_eq (x0 x1 x2 x3 x8 x9 : Value) (H : AH) : sIn_k9 x0 x1 x2 x3 x8 x9 H =
 (pBin .other .gtr x9 x1).bind fun v20 =>
 (gV v20 true x3).bind fun v21 =>
 (gV v20 true x0).bind fun v22 =>
 (gV v20 true x9).bind fun v23 =>
 gldN v20 true  7 [.i 7 v23] v22 H fun v24 =>
 (gV v20 true x0).bind fun v25 =>
 (gV v20 true x9).bind fun v26 =>
 (gB v20 true (pBin .other .sub v26 (vi 1))).bind fun v27 =>
 gldN v20 true  7 [.i 7 v27] v25 H fun v28 =>
 (gE v20 true H ((pCallee v21 [v24, v28]).bind fun c => FF c.1 c.2 H)).bind fun r29 =>
 (gB v20 true (pBin .other .lss r29.1 (vi 0))).bind fun v30 =>
 (pPick v20 v30 (vb false)).bind fun v31 =>
 condK v31
 (sIn_k10 x0 x1 x2 x3 x8 x9 r29.2)
 (sIn_e8_2 x0 x1 x2 x3 x8 r29.2) :=
 lt' rfl f137_n9_d (pt rfl 0 f137_n10_d (by kernel_rfl))
theorem sIn_k7_eq (x0 x1 x2 x3 x8 x9 : Value) (H : AH) : sIn_k7 x0 x1 x2 x3 x8 x9 H =
 sIn_k9 x0 x1 x2 x3 x8 x9 H :=
 (bt rfl (f137_b [1, 4, 5, 1, 0, 4, 1, 4]) 2 f137_x8_d (li rfl (f137_b [1, 4, 5, 1, 0, 4, 1, 4, 5]) f137_n9_d (by kernel_rfl)))
theorem sIn_k3_eq (x0 x1 x2 x3 x8 : Value) (H : AH) : sIn_k3 x0 x1 x2 x3 x8 H =
 sIn_k7 x0 x1 x2 x3 x8 x8 H :=
 (pt rfl 0 f137_n4_d (bt rfl (f137_b [1, 4, 5, 1, 0, 4]) 1 f137_x6_d (pt rfl 0 f137_n7_d (by kernel_rfl))))
theorem sIn_e1_0_eq (H : AH) : sIn_e1_0 H = some (Value.tuple #[], H) :=
 (by kernel_rfl)
theorem sIn_k2_eq (x0 x1 x2 x3 x8 : Value) (H : AH) : sIn_k2 x0 x1 x2 x3 x8 H =
 (pBin .other .lss x8 x2).bind fun v32 =>
 condK v32
 (sIn_k3 x0 x1 x2 x3 x8 H)
 (sIn_e1_0 H) :=
 lt' rfl f137_n2_d (pt rfl 0 f137_n3_d (by kernel_rfl))
theorem sIn_k0_eq (x0 x1 x2 x3 x8 : Value) (H : AH) : sIn_k0 x0 x1 x2 x3 x8 H =
 sIn_k2 x0 x1 x2 x3 x8 H :=
 (bt rfl (f137_b [1, 4]) 0 f137_x1_d (li rfl (f137_b [1, 4, 5]) f137_n2_d (by kernel_rfl)))
noncomputable def sIn (x0 x1 x2 x3 : Value) (H : AH) : OV := cCode PP GG FF (f137_b []) (ls [x0, x1, x2, x3] 49) H f137_r kx0 f137_r
theorem sIn_of (x0 x1 x2 x3 : Value) (H : AH) {r : Value × AH} (h : (
 (pBin .other .add x1 (vi 1)).bind fun v33 =>
 sIn_k0 x0 x1 x2 x3 v33 H) = some r) : FF n_sIn [x0, x1, x2, x3] H = some r :=
 fo (t := sIn x0 x1 x2 x3 H) Tryz.func137 (by kernel_rfl) (Eq.trans (pt rfl 0 f137_n0_d (by kernel_rfl)) h)
theorem r16_Table_Slot_of (x0 x1 x2 x3 : Value) (H : AH) {r : Value × AH} (h : (
 ad [.n, .f 0] x0 fun v0 =>
 (pLd1 v0 H).bind fun v1 =>
 (FF n_r16_Loc [(vi 10), x2, x3] H).bind fun r2 =>
 eqK (pLd1 v0 r2.2) (pLd1 v0 H) <|
 (FF n_r16_Mem_Load [v1, x1, r2.1] r2.2).bind fun r3 =>
 (pBin .other .eql r3.1 (vw 0)).bind fun v4 =>
 condK v4
 (some (Value.tuple #[(vi 0), (vi 0), (vb false)], r3.2))
 ((pBin .other .quo r3.1 (vw 4294967296)).bind fun v5 =>
 (pConv (some .i64) v5).bind fun v6 =>
 (pBin .other .sub v6 (vi 1)).bind fun v7 =>
 (pBin .other .rem r3.1 (vw 4294967296)).bind fun v8 =>
 (pConv (some .i64) v8).bind fun v9 =>
 some (Value.tuple #[v7, v9, (vb true)], r3.2))) = some r) : FF n_r16_Table_Slot [x0, x1, x2, x3] H = some r :=
 fo Tryz.func141 (by kernel_rfl) h
theorem r16_Mem_Swap_of (x0 x1 x2 x3 x4 : Value) (H : AH) {r : Value × AH} (h : (
 newK (Value.cells x2).toList H fun v0 H1 =>
 (pLdN 3 v0 H1).bind fun v2 =>
 (FF n_rMp [x0, v2] H1).bind fun r3 =>
 ld [.n, .f 1] x0 r3.2 fun v4 =>
 ld [.i 1 r3.1] v4 r3.2 fun v5 =>
 (pBin .other .neq v5 x3).bind fun v6 =>
 condK v6
 ((pLdN 3 v0 r3.2).bind fun v7 =>
 (FF n_r16_Mem_Log [x0, x1, (vi 4), v7] r3.2).bind fun r8 =>
 some ((vb false), r8.2))
 ((pLdN 3 v0 r3.2).bind fun v9 =>
 (FF n_r16_Mem_Log [x0, x1, (vi 3), v9] r3.2).bind fun r10 =>
 ld [.n, .f 1] x0 r10.2 fun v11 =>
 st 1 [.i 1 r3.1] v11 x4 r10.2 fun H12 =>
 some ((vb true), H12))) = some r) : FF n_r16_Mem_Swap [x0, x1, x2, x3, x4] H = some r :=
 fo Tryz.func142 (by kernel_rfl) h
theorem r16_Mem_Load_of (x0 x1 x2 : Value) (H : AH) {r : Value × AH} (h : (
 newK (Value.cells x2).toList H fun v0 H1 =>
 (pLdN 3 v0 H1).bind fun v2 =>
 (FF n_r16_Mem_Log [x0, x1, (vi 1), v2] H1).bind fun r3 =>
 (pLdN 3 v0 r3.2).bind fun v4 =>
 (FF n_rMp [x0, v4] r3.2).bind fun r5 =>
 ld [.n, .f 1] x0 r5.2 fun v6 =>
 ld [.i 1 r5.1] v6 r5.2 fun v7 =>
 some (v7, r5.2)) = some r) : FF n_r16_Mem_Load [x0, x1, x2] H = some r :=
 fo Tryz.func144 (by kernel_rfl) h
theorem mem_Mem_note_of (x0 x1 x2 x3 : Value) (H : AH) {r : Value × AH} (h : (
 newK (Value.cells x3).toList H fun v0 H1 =>
 ld [.n, .f 1] x0 H1 fun v2 =>
 (pLdN 3 v0 H1).bind fun v3 =>
 mkS [(0, 1), (1, 1), (2, 3)] [(vi 0), (vi 0), (vi 0), (vi 0), (vi 0)] [(0, x1), (1, x2), (2, v3)] fun v4 =>
 mkR 1 5 [(vi 0), (vi 0), (vi 0), (vi 0), (vi 0)] [(0, v4)] H1 fun v5 H6 =>
 (pApp 5 40 v2 v5 H6).bind fun r7 =>
 st 1 [.n, .f 1] x0 r7.1 r7.2 fun H8 =>
 some (Value.tuple #[], H8)) = some r) : FF n_mem_Mem_note [x0, x1, x2, x3] H = some r :=
 fo Tryz.func151 (by kernel_rfl) h
noncomputable def f155_b (p : List Nat) : Code := Code.sub (bodyOf Tryz.f155) p
noncomputable def f155_r : KK := cFin PP (Tryz.f155).results.toList
noncomputable def f155_n0 : KK := CQ (f155_b [1, 1]) f155_r kx0 f155_r
noncomputable def r01_Turned_k0 (x1 x4 x5 x6 x7 x8 : Value) (H : AH) : OV := f155_n0 (ls [u, x1, u, u, x4, x5, x6, x7, x8] 47) H
noncomputable def f155_n1 : KK := CQ (f155_b [1, 1, 1]) f155_r kx0 f155_r
noncomputable def f155_m1 : KK := clr 72057594037927887 f155_n1
noncomputable def r01_Turned_k1 (x4 x5 : Value) (H : AH) : OV := f155_n1 (ls [u, u, u, u, x4, x5] 50) H
noncomputable def f155_x2 : KX := BX 0 f155_m1 kx0
theorem f155_r_d : Resp 72057594037927887 f155_r := rf
theorem f155_n0_d : Resp 72057594037927437 f155_n0 := rc f155_r_d kx0_d f155_r_d
theorem f155_n1_d : Resp 72057594037927887 f155_n1 := rc f155_r_d kx0_d f155_r_d
theorem f155_x2_d : ∀ i, Resp 72057594037927887 (f155_x2 i) := rb (cd f155_n1_d) kx0_d
theorem r01_Turned_k1_eq (x4 x5 : Value) (H : AH) : r01_Turned_k1 x4 x5 H =
 some (Value.tuple #[(vw 0), (vb false)], H) :=
 (by kernel_rfl)
theorem r01_Turned_k0_eq (x1 x4 x5 x6 x7 x8 : Value) (H : AH) : r01_Turned_k0 x1 x4 x5 x6 x7 x8 H =
 (pUn .not x8).bind fun v3 =>
 condK v3
 (some (Value.tuple #[(vw 0), (vb false)], H))
 ((pBin .other .eql x1 (vi 0)).bind fun v4 =>
 (gV v4 true x7).bind fun v5 =>
 (gB v4 true (pBin .other .neq v5 (vi 2))).bind fun v6 =>
 (pPick v4 v6 (vb false)).bind fun v7 =>
 (gV v7 true x6).bind fun v8 =>
 (gB v7 true (pBin .other .lss v8 (vw 2305843009213693951))).bind fun v9 =>
 (pPick v7 v9 (vb false)).bind fun v10 =>
 condK v10
 ((pBin .other .add x6 (vw 1)).bind fun v11 =>
 (FF n_r01_Pack [v11, (vi 1)] H).bind fun r12 =>
 (pExtract r12.1 0).bind fun v13 =>
 (pExtract r12.1 1).bind fun v14 =>
 some (Value.tuple #[v13, v14], r12.2))
 ((pBin .other .eql x1 (vi 1)).bind fun v15 =>
 (gV v15 true x7).bind fun v16 =>
 (gB v15 true (pBin .other .eql v16 (vi 1))).bind fun v17 =>
 (pPick v15 v17 (vb false)).bind fun v18 =>
 condK v18
 ((FF n_r01_Pack [x6, (vi 0)] H).bind fun r19 =>
 (pExtract r19.1 0).bind fun v20 =>
 (pExtract r19.1 1).bind fun v21 =>
 some (Value.tuple #[v20, v21], r19.2))
 ((pBin .other .eql x1 (vi 2)).bind fun v22 =>
 (gV v22 true x7).bind fun v23 =>
 (gB v22 true (pBin .other .eql v23 (vi 0))).bind fun v24 =>
 (pPick v22 v24 (vb false)).bind fun v25 =>
 condK v25
 ((FF n_r01_Pack [x6, (vi 2)] H).bind fun r26 =>
 (pExtract r26.1 0).bind fun v27 =>
 (pExtract r26.1 1).bind fun v28 =>
 some (Value.tuple #[v27, v28], r26.2))
 (r01_Turned_k1 x4 x5 H)))) :=
 (pt rfl 0 f155_n1_d (bt rfl (f155_b [1, 1, 0, 4]) 0 f155_x2_d (by kernel_rfl)))
noncomputable def r01_Turned (x0 x1 : Value) (H : AH) : OV := cCode PP GG FF (f155_b []) (ls [x0, x1] 54) H f155_r kx0 f155_r
theorem r01_Turned_of (x0 x1 : Value) (H : AH) {r : Value × AH} (h : (
 (FF n_r01_Parts [x0] H).bind fun r29 =>
 (pExtract r29.1 0).bind fun v30 =>
 (pExtract r29.1 1).bind fun v31 =>
 (pExtract r29.1 2).bind fun v32 =>
 r01_Turned_k0 x1 (vw 0) (vb false) v30 v31 v32 r29.2) = some r) : FF n_r01_Turned [x0, x1] H = some r :=
 fo (t := r01_Turned x0 x1 H) Tryz.func155 (by kernel_rfl) (Eq.trans (pt rfl 1 f155_n0_d (by kernel_rfl)) h)
theorem table_Table_Lock_of (x0 x1 x2 : Value) (H : AH) {r : Value × AH} (h : (
 ad [.n, .f 0] x0 fun v0 =>
 (pLd1 v0 H).bind fun v1 =>
 (FF n_table_mutex [x2] H).bind fun r2 =>
 eqK (pLd1 v0 r2.2) (pLd1 v0 H) <|
 (FF n_mem_Mem_Swap [v1, x1, r2.1, (vw 0), (vw 1)] r2.2).bind fun r3 =>
 some (r3.1, r3.2)) = some r) : FF n_table_Table_Lock [x0, x1, x2] H = some r :=
 fo Tryz.func160 (by kernel_rfl) h
noncomputable def f164_b (p : List Nat) : Code := Code.sub (bodyOf Tryz.f164) p
noncomputable def f164_r : KK := cFin PP (Tryz.f164).results.toList
noncomputable def f164_n0 : KK := CQ (f164_b [1, 1, 1]) f164_r kx0 f164_r
noncomputable def tour_New_k0 (x0 x2 x3 : Value) (H : AH) : OV := f164_n0 (ls [x0, u, x2, x3] 38) H
noncomputable def f164_n1 : KK := CQ (f164_b [1, 1, 1, 1]) f164_r kx0 f164_r
noncomputable def f164_m1 : KK := clr 4398046511091 f164_n1
noncomputable def tour_New_k1 (x2 x3 : Value) (H : AH) : OV := f164_n1 (ls [u, u, x2, x3] 38) H
noncomputable def f164_n2 : KK := CQ (f164_b [1, 1, 1, 1, 1]) f164_r kx0 f164_r
noncomputable def f164_m2 : KK := clr 4398046511091 f164_n2
noncomputable def tour_New_k2 (x2 x3 : Value) (H : AH) : OV := f164_n2 (ls [u, u, x2, x3] 38) H
noncomputable def f164_n3 : KK := CQ (f164_b [1, 1, 1, 1, 0, 1]) f164_m2 kx0 f164_r
noncomputable def tour_New_k3 (x2 x3 x28 x29 : Value) (H : AH) : OV := f164_n3 (ls [u, u, x2, x3, u, u, u, u, u, u, u, u, u, u, u, u, u, u, u, u, u, u, u, u, u, u, u, u, x28, x29] 12) H
noncomputable def f164_x4 : KX := BX 2 f164_m2 kx0
noncomputable def f164_y4 : KX := clx 4398046511091 f164_x4
noncomputable def f164_n5 : KK := CLq (f164_b [1, 1, 1, 1, 0, 1, 4, 5]) f164_y4 f164_r
noncomputable def f164_m5 : KK := clr 4397241204723 f164_n5
noncomputable def tour_New_k5 (x2 x3 x28 x29 : Value) (H : AH) : OV := f164_n5 (ls [u, u, x2, x3, u, u, u, u, u, u, u, u, u, u, u, u, u, u, u, u, u, u, u, u, u, u, u, u, x28, x29] 12) H
noncomputable def f164_n6 : KK := CQ (f164_b [1, 1, 1, 1, 0, 1, 4, 5, 1, 1]) f164_m5 f164_y4 f164_r
noncomputable def tour_New_k6 (x2 x3 x28 x29 : Value) (H : AH) : OV := f164_n6 (ls [u, u, x2, x3, u, u, u, u, u, u, u, u, u, u, u, u, u, u, u, u, u, u, u, u, u, u, u, u, x28, x29] 12) H
noncomputable def f164_n7 : KK := CQ (f164_b [1, 1, 1, 1, 0, 1, 4, 5, 1, 1, 1]) f164_m5 f164_y4 f164_r
noncomputable def f164_m7 : KK := clr 4397241204723 f164_n7
noncomputable def tour_New_k7 (x2 x3 x28 x29 : Value) (H : AH) : OV := f164_n7 (ls [u, u, x2, x3, u, u, u, u, u, u, u, u, u, u, u, u, u, u, u, u, u, u, u, u, u, u, u, u, x28, x29] 12) H
noncomputable def f164_x9 : KX := BX 3 f164_m7 f164_y4
noncomputable def tour_New_e4_2 (x2 x3 : Value) (H : AH) : OV := f164_x4 2 (ls [u, u, x2, x3] 38) H
noncomputable def f164_x18 : KX := BX 0 f164_m1 kx0
noncomputable def f164_y18 : KX := clx 4398046511091 f164_x18
noncomputable def f164_n19 : KK := CLq (f164_b [1, 1, 1, 0, 4, 5]) f164_y18 f164_r
noncomputable def f164_m19 : KK := clr 4398046511090 f164_n19
noncomputable def tour_New_k19 (x0 x2 x3 : Value) (H : AH) : OV := f164_n19 (ls [x0, u, x2, x3] 38) H
noncomputable def f164_n20 : KK := CQ (f164_b [1, 1, 1, 0, 4, 5, 1]) f164_m19 f164_y18 f164_r
noncomputable def tour_New_k20 (x0 x2 x3 : Value) (H : AH) : OV := f164_n20 (ls [x0, u, x2, x3] 38) H
noncomputable def f164_x21 : KX := BX 1 f164_m19 f164_y18
noncomputable def tour_New_e18_0 (x2 x3 : Value) (H : AH) : OV := f164_x18 0 (ls [u, u, x2, x3] 38) H
theorem f164_r_d : Resp 4398046511099 f164_r := rf
theorem f164_n0_d : Resp 4398046511090 f164_n0 := rc f164_r_d kx0_d f164_r_d
theorem f164_n1_d : Resp 4398046511091 f164_n1 := rc f164_r_d kx0_d f164_r_d
theorem f164_n2_d : Resp 4398046511091 f164_n2 := rc f164_r_d kx0_d f164_r_d
theorem f164_n3_d : Resp 4397241204723 f164_n3 := rc (cd f164_n2_d) kx0_d f164_r_d
theorem f164_x4_d : ∀ i, Resp 4398046511091 (f164_x4 i) := rb (cd f164_n2_d) kx0_d
theorem f164_n5_d : Resp 4397241204723 f164_n5 := rl (cx f164_x4_d) f164_r_d
theorem f164_n6_d : Resp 4397241204723 f164_n6 := rc (cd f164_n5_d) (cx f164_x4_d) f164_r_d
theorem f164_n7_d : Resp 4397241204723 f164_n7 := rc (cd f164_n5_d) (cx f164_x4_d) f164_r_d
theorem f164_x9_d : ∀ i, Resp 4397241204723 (f164_x9 i) := rb (cd f164_n7_d) (cx f164_x4_d)
theorem f164_x18_d : ∀ i, Resp 4398046511091 (f164_x18 i) := rb (cd f164_n1_d) kx0_d
theorem f164_n19_d : Resp 4398046511090 f164_n19 := rl (cx f164_x18_d) f164_r_d
theorem f164_n20_d : Resp 4398046511090 f164_n20 := rc (cd f164_n19_d) (cx f164_x18_d) f164_r_d
theorem f164_x21_d : ∀ i, Resp 4398046511090 (f164_x21 i) := rb (cd f164_n19_d) (cx f164_x18_d)
theorem tour_New_k2_eq (x2 x3 : Value) (H : AH) : tour_New_k2 x2 x3 H =
 some (x3, H) :=
 (by kernel_rfl)
theorem tour_New_k7_eq (x2 x3 x28 x29 : Value) (H : AH) : tour_New_k7 x2 x3 x28 x29 H =
 (pBin .other .add x29 (vi 1)).bind fun v8 =>
 tour_New_k5 x2 x3 x28 v8 H :=
 (by kernel_rfl)
theorem tour_New_k6_eq (x2 x3 x28 x29 : Value) (H : AH) : tour_New_k6 x2 x3 x28 x29 H =
 ld [.n, .f 2] x3 H fun v10 =>
 mkR 1 1 [(vi 0)] [(0, (vi (-1)))] H fun v11 H12 =>
 (pApp 1 8 v10 v11 H12).bind fun r13 =>
 st 1 [.n, .f 2] x3 r13.1 r13.2 fun H14 =>
 tour_New_k7 x2 x3 x28 x29 H14 :=
 (pt rfl 0 f164_n7_d (bt rfl (f164_b [1, 1, 1, 1, 0, 1, 4, 5, 1, 1, 0, 4]) 3 f164_x9_d (by kernel_rfl)))
theorem tour_New_e4_2_eq (x2 x3 : Value) (H : AH) : tour_New_e4_2 x2 x3 H = tour_New_k2 x2 x3 H :=
 (by kernel_rfl)
theorem tour_New_k5_eq (x2 x3 x28 x29 : Value) (H : AH) : tour_New_k5 x2 x3 x28 x29 H =
 (pBin .other .lss x29 x28).bind fun v15 =>
 condK v15
 (tour_New_k6 x2 x3 x28 x29 H)
 (tour_New_e4_2 x2 x3 H) :=
 lt' rfl f164_n5_d (pt rfl 1 f164_n6_d (by kernel_rfl))
theorem tour_New_k3_eq (x2 x3 x28 x29 : Value) (H : AH) : tour_New_k3 x2 x3 x28 x29 H =
 tour_New_k5 x2 x3 x28 x29 H :=
 (bt rfl (f164_b [1, 1, 1, 1, 0, 1, 4]) 2 f164_x4_d (li rfl (f164_b [1, 1, 1, 1, 0, 1, 4, 5]) f164_n5_d (by kernel_rfl)))
theorem tour_New_k1_eq (x2 x3 : Value) (H : AH) : tour_New_k1 x2 x3 H =
 ld [.n, .f 1] x3 H fun v16 =>
 (pBin .other .mul (vi 2) v16).bind fun v17 =>
 tour_New_k3 x2 x3 v17 (vi 0) H :=
 (pt rfl 0 f164_n2_d (pt rfl 0 f164_n3_d (by kernel_rfl)))
theorem tour_New_k20_eq (x0 x2 x3 : Value) (H : AH) : tour_New_k20 x0 x2 x3 H =
 ld [.n, .f 1] x3 H fun v22 =>
 (pBin .other .mul v22 (vi 2)).bind fun v23 =>
 st 1 [.n, .f 1] x3 v23 H fun H24 =>
 tour_New_k19 x0 x2 x3 H24 :=
 (bt rfl (f164_b [1, 1, 1, 0, 4, 5, 1, 4]) 1 f164_x21_d (by kernel_rfl))
theorem tour_New_e18_0_eq (x2 x3 : Value) (H : AH) : tour_New_e18_0 x2 x3 H = tour_New_k1 x2 x3 H :=
 (by kernel_rfl)
theorem tour_New_k19_eq (x0 x2 x3 : Value) (H : AH) : tour_New_k19 x0 x2 x3 H =
 ld [.n, .f 1] x3 H fun v25 =>
 (pBin .other .lss v25 x0).bind fun v26 =>
 condK v26
 (tour_New_k20 x0 x2 x3 H)
 (tour_New_e18_0 x2 x3 H) :=
 lt' rfl f164_n19_d (pt rfl 0 f164_n20_d (by kernel_rfl))
theorem tour_New_k0_eq (x0 x2 x3 : Value) (H : AH) : tour_New_k0 x0 x2 x3 H =
 tour_New_k19 x0 x2 x3 H :=
 (pt rfl 0 f164_n1_d (bt rfl (f164_b [1, 1, 1, 0, 4]) 0 f164_x18_d (li rfl (f164_b [1, 1, 1, 0, 4, 5]) f164_n19_d (by kernel_rfl))))
noncomputable def tour_New (x0 : Value) (H : AH) : OV := cCode PP GG FF (f164_b []) (ls [x0] 41) H f164_r kx0 f164_r
theorem tour_New_of (x0 : Value) (H : AH) {r : Value × AH} (h : (
 (pMax [x0, (vi 1)]).bind fun v27 =>
 (pMin [v27, (vi 16)]).bind fun v28 =>
 (pMake [(vw 0), (vi 0), (vb false)] 3 24 v28 v28 H).bind fun r29 =>
 mkS [(0, 1), (1, 1), (2, 1)] [(.slice none 0 0), (vi 0), (.slice none 0 0)] [(0, r29.1), (1, (vi 1))] fun v30 =>
 newK (Value.cells v30).toList r29.2 fun v31 H32 =>
 tour_New_k0 v28 (.pointer none) v31 H32) = some r) : FF n_tour_New [x0] H = some r :=
 fo (t := tour_New x0 H) Tryz.func164 (by kernel_rfl) (Eq.trans (pt rfl 2 f164_n0_d (by kernel_rfl)) h)
theorem shard_New_of (x0 : Value) (H : AH) {r : Value × AH} (h : (
 (FF n_wheel_New [x0] H).bind fun r0 =>
 (FF n_heap_New [] r0.2).bind fun r1 =>
 mkS [(0, 1), (1, 1), (2, 1)] [(.pointer none), (.pointer none), (vi 0)] [(0, r0.1), (1, r1.1), (2, x0)] fun v2 =>
 newK (Value.cells v2).toList r1.2 fun v3 H4 =>
 some (v3, H4)) = some r) : FF n_shard_New [x0] H = some r :=
 fo Tryz.func165 (by kernel_rfl) h
theorem r01_Width_of (x0 : Value) (H : AH) {r : Value × AH} (h : (
 (pMax [x0, (vi 0)]).bind fun v0 =>
 (pMin [v0, (vi 40)]).bind fun v1 =>
 some (v1, H)) = some r) : FF n_r01_Width [x0] H = some r :=
 fo Tryz.func174 (by kernel_rfl) h
theorem parts_Parts_Note_of (x0 x1 x2 x3 : Value) (H : AH) {r : Value × AH} (h : (
 newK (Value.cells x3).toList H fun v0 H1 =>
 ad [.n, .f 12] x0 fun v2 =>
 (pLd1 v2 H1).bind fun v3 =>
 ad [.n, .f 11] x0 fun v4 =>
 (pLd1 v4 H1).bind fun v5 =>
 (pLookup .int (vi 0) v5 x2 false H1).bind fun v6 =>
 (pLdN 4 v0 H1).bind fun v7 =>
 (FF n_parts_own [v7] H1).bind fun r8 =>
 eqK (pLd1 v2 r8.2) (pLd1 v2 H1) <|
 eqK (pLd1 v4 r8.2) (pLd1 v4 H1) <|
 eqK (pLookup .int (vi 0) v5 x2 false r8.2) (pLookup .int (vi 0) v5 x2 false H1) <|
 mkS [(0, 1), (1, 1), (2, 1), (3, 4)] [(vi 0), (vi 0), (vi 0), (vi 0), (.slice none 0 0), (vi 0), (vw 0)] [(0, x1), (1, x2), (2, v6), (3, r8.1)] fun v9 =>
 mkR 1 7 [(vi 0), (vi 0), (vi 0), (vi 0), (.slice none 0 0), (vi 0), (vw 0)] [(0, v9)] r8.2 fun v10 H11 =>
 (pApp 7 72 v3 v10 H11).bind fun r12 =>
 st 1 [.n, .f 12] x0 r12.1 r12.2 fun H13 =>
 some (Value.tuple #[], H13)) = some r) : FF n_parts_Parts_Note [x0, x1, x2, x3] H = some r :=
 fo Tryz.func175 (by kernel_rfl) h
theorem table_Table_Slot_of (x0 x1 x2 x3 : Value) (H : AH) {r : Value × AH} (h : (
 ad [.n, .f 0] x0 fun v0 =>
 (pLd1 v0 H).bind fun v1 =>
 (FF n_table_slot [x2, x3] H).bind fun r2 =>
 eqK (pLd1 v0 r2.2) (pLd1 v0 H) <|
 (FF n_mem_Mem_Load [v1, x1, r2.1] r2.2).bind fun r3 =>
 (pBin .other .eql r3.1 (vw 0)).bind fun v4 =>
 condK v4
 (some (Value.tuple #[(vi 0), (vi 0), (vb false)], r3.2))
 ((pBin .other .shr r3.1 (vw 32)).bind fun v5 =>
 (pConv (some .i64) v5).bind fun v6 =>
 (pBin .other .sub v6 (vi 1)).bind fun v7 =>
 (pBin .other .and r3.1 (vw 4294967295)).bind fun v8 =>
 (pConv (some .i64) v8).bind fun v9 =>
 some (Value.tuple #[v7, v9, (vb true)], r3.2))) = some r) : FF n_table_Table_Slot [x0, x1, x2, x3] H = some r :=
 fo Tryz.func176 (by kernel_rfl) h
theorem table_Table_Slots_of (x0 : Value) (H : AH) {r : Value × AH} (h : (
 ld [.n, .f 2] x0 H fun v0 =>
 some (v0, H)) = some r) : FF n_table_Table_Slots [x0] H = some r :=
 fo Tryz.func177 (by kernel_rfl) h
theorem mem_Mem_Swap_of (x0 x1 x2 x3 x4 : Value) (H : AH) {r : Value × AH} (h : (
 newK (Value.cells x2).toList H fun v0 H1 =>
 (pLdN 3 v0 H1).bind fun v2 =>
 (FF n_mem_Mem_Peek [x0, v2] H1).bind fun r3 =>
 (pBin .other .neq r3.1 x3).bind fun v4 =>
 condK v4
 ((pLdN 3 v0 r3.2).bind fun v5 =>
 (FF n_mem_Mem_note [x0, x1, (vi 4), v5] r3.2).bind fun r6 =>
 some ((vb false), r6.2))
 ((pLdN 3 v0 r3.2).bind fun v7 =>
 (FF n_mem_Mem_turn [x0, x1, v7, x4] r3.2).bind fun r8 =>
 some ((vb true), r8.2))) = some r) : FF n_mem_Mem_Swap [x0, x1, x2, x3, x4] H = some r :=
 fo Tryz.func183 (by kernel_rfl) h
theorem word_State_of (x0 : Value) (H : AH) {r : Value × AH} (h : (
 (FF n_word_Right [x0] H).bind fun r0 =>
 (pUn .not r0.1).bind fun v1 =>
 condK v1
 (some ((vi (-1)), r0.2))
 ((pBin .other .shr x0 (vw 61)).bind fun v2 =>
 (pConv (some .i64) v2).bind fun v3 =>
 some (v3, r0.2))) = some r) : FF n_word_State [x0] H = some r :=
 fo Tryz.func184 (by kernel_rfl) h
theorem word_Pack_of (x0 x1 : Value) (H : AH) {r : Value × AH} (h : (
 (pBin .other .gtr x0 (vw 2305843009213693951)).bind fun v0 =>
 (gV v0 false x1).bind fun v1 =>
 (gB v0 false (pBin .other .lss v1 (vi 0))).bind fun v2 =>
 (pPick v0 (vb true) v2).bind fun v3 =>
 (gV v3 false x1).bind fun v4 =>
 (gB v3 false (pBin .other .geq v4 (vi 3))).bind fun v5 =>
 (pPick v3 (vb true) v5).bind fun v6 =>
 condK v6
 (some (Value.tuple #[(vw 0), (vb false)], H))
 ((pConv (some .u64) x1).bind fun v7 =>
 (pBin .other .shl v7 (vw 61)).bind fun v8 =>
 (pBin .other .or v8 x0).bind fun v9 =>
 some (Value.tuple #[v9, (vb true)], H))) = some r) : FF n_word_Pack [x0, x1] H = some r :=
 fo Tryz.func185 (by kernel_rfl) h
theorem word_Count_of (x0 : Value) (H : AH) {r : Value × AH} (h : (
 (FF n_word_Right [x0] H).bind fun r0 =>
 (pUn .not r0.1).bind fun v1 =>
 condK v1
 (some ((vw 0), r0.2))
 ((pBin .other .and x0 (vw 2305843009213693951)).bind fun v2 =>
 some (v2, r0.2))) = some r) : FF n_word_Count [x0] H = some r :=
 fo Tryz.func186 (by kernel_rfl) h
theorem r01_Pack_of (x0 x1 : Value) (H : AH) {r : Value × AH} (h : (
 (pBin .other .gtr x0 (vw 2305843009213693951)).bind fun v0 =>
 (gV v0 false x1).bind fun v1 =>
 (gB v0 false (pBin .other .lss v1 (vi 0))).bind fun v2 =>
 (pPick v0 (vb true) v2).bind fun v3 =>
 (gV v3 false x1).bind fun v4 =>
 (gB v3 false (pBin .other .gtr v4 (vi 2))).bind fun v5 =>
 (pPick v3 (vb true) v5).bind fun v6 =>
 condK v6
 (some (Value.tuple #[(vw 0), (vb false)], H))
 ((pConv (some .u64) x1).bind fun v7 =>
 (pBin .other .mul v7 (vw 2305843009213693952)).bind fun v8 =>
 (pBin .other .add v8 x0).bind fun v9 =>
 some (Value.tuple #[v9, (vb true)], H))) = some r) : FF n_r01_Pack [x0, x1] H = some r :=
 fo Tryz.func187 (by kernel_rfl) h
theorem table_mutex_of (x0 : Value) (H : AH) {r : Value × AH} (h : (
 newK [(vi 0), (vi 0), (vi 0)] H fun v0 H1 =>
 mkS [(0, 1), (1, 1), (2, 1)] [(vi 0), (vi 0), (vi 0)] [(0, (vi 8)), (1, x0)] fun v2 =>
 (pSt 3 v0 v2 H1).bind fun H3 =>
 (pLdN 3 v0 H3).bind fun v4 => some (v4, H3)) = some r) : FF n_table_mutex [x0] H = some r :=
 fo Tryz.func190 (by kernel_rfl) h
theorem wheel_New_of (x0 : Value) (H : AH) {r : Value × AH} (h : (
 (FF n_wheel_held [x0] H).bind fun r0 =>
 mapK r0.2 fun v1 H2 =>
 mkS [(0, 1), (1, 1), (2, 192), (194, 3), (197, 1)] [(vw 0), (vi 0), (.slice none 0 0), (.slice none 0 0), (.slice none 0 0), (.slice none 0 0), (.slice none 0 0), (.slice none 0 0), (.slice none 0 0), (.slice none 0 0), (.slice none 0 0), (.slice none 0 0), (.slice none 0 0), (.slice none 0 0), (.slice none 0 0), (.slice none 0 0), (.slice none 0 0), (.slice none 0 0), (.slice none 0 0), (.slice none 0 0), (.slice none 0 0), (.slice none 0 0), (.slice none 0 0), (.slice none 0 0), (.slice none 0 0), (.slice none 0 0), (.slice none 0 0), (.slice none 0 0), (.slice none 0 0), (.slice none 0 0), (.slice none 0 0), (.slice none 0 0), (.slice none 0 0), (.slice none 0 0), (.slice none 0 0), (.slice none 0 0), (.slice none 0 0), (.slice none 0 0), (.slice none 0 0), (.slice none 0 0), (.slice none 0 0), (.slice none 0 0), (.slice none 0 0), (.slice none 0 0), (.slice none 0 0), (.slice none 0 0), (.slice none 0 0), (.slice none 0 0), (.slice none 0 0), (.slice none 0 0), (.slice none 0 0), (.slice none 0 0), (.slice none 0 0), (.slice none 0 0), (.slice none 0 0), (.slice none 0 0), (.slice none 0 0), (.slice none 0 0), (.slice none 0 0), (.slice none 0 0), (.slice none 0 0), (.slice none 0 0), (.slice none 0 0), (.slice none 0 0), (.slice none 0 0), (.slice none 0 0), (.slice none 0 0), (.slice none 0 0), (.slice none 0 0), (.slice none 0 0), (.slice none 0 0), (.slice none 0 0), (.slice none 0 0), (.slice none 0 0), (.slice none 0 0), (.slice none 0 0), (.slice none 0 0), (.slice none 0 0), (.slice none 0 0), (.slice none 0 0), (.slice none 0 0), (.slice none 0 0), (.slice none 0 0), (.slice none 0 0), (.slice none 0 0), (.slice none 0 0), (.slice none 0 0), (.slice none 0 0), (.slice none 0 0), (.slice none 0 0), (.slice none 0 0), (.slice none 0 0), (.slice none 0 0), (.slice none 0 0), (.slice none 0 0), (.slice none 0 0), (.slice none 0 0), (.slice none 0 0), (.slice none 0 0), (.slice none 0 0), (.slice none 0 0), (.slice none 0 0), (.slice none 0 0), (.slice none 0 0), (.slice none 0 0), (.slice none 0 0), (.slice none 0 0), (.slice none 0 0), (.slice none 0 0), (.slice none 0 0), (.slice none 0 0), (.slice none 0 0), (.slice none 0 0), (.slice none 0 0), (.slice none 0 0), (.slice none 0 0), (.slice none 0 0), (.slice none 0 0), (.slice none 0 0), (.slice none 0 0), (.slice none 0 0), (.slice none 0 0), (.slice none 0 0), (.slice none 0 0), (.slice none 0 0), (.slice none 0 0), (.slice none 0 0), (.slice none 0 0), (.slice none 0 0), (.slice none 0 0), (.slice none 0 0), (.slice none 0 0), (.slice none 0 0), (.slice none 0 0), (.slice none 0 0), (.slice none 0 0), (.slice none 0 0), (.slice none 0 0), (.slice none 0 0), (.slice none 0 0), (.slice none 0 0), (.slice none 0 0), (.slice none 0 0), (.slice none 0 0), (.slice none 0 0), (.slice none 0 0), (.slice none 0 0), (.slice none 0 0), (.slice none 0 0), (.slice none 0 0), (.slice none 0 0), (.slice none 0 0), (.slice none 0 0), (.slice none 0 0), (.slice none 0 0), (.slice none 0 0), (.slice none 0 0), (.slice none 0 0), (.slice none 0 0), (.slice none 0 0), (.slice none 0 0), (.slice none 0 0), (.slice none 0 0), (.slice none 0 0), (.slice none 0 0), (.slice none 0 0), (.slice none 0 0), (.slice none 0 0), (.slice none 0 0), (.slice none 0 0), (.slice none 0 0), (.slice none 0 0), (.slice none 0 0), (.slice none 0 0), (.slice none 0 0), (.slice none 0 0), (.slice none 0 0), (.slice none 0 0), (.slice none 0 0), (.slice none 0 0), (.slice none 0 0), (.slice none 0 0), (.slice none 0 0), (.slice none 0 0), (.slice none 0 0), (.slice none 0 0), (.slice none 0 0), (.slice none 0 0), (.slice none 0 0), (.slice none 0 0), (.slice none 0 0), (.slice none 0 0), (.slice none 0 0), (.slice none 0 0), (vw 0), (vw 0), (vw 0), (.map none)] [(1, r0.1), (4, v1)] fun v3 =>
 newK (Value.cells v3).toList H2 fun v4 H5 =>
 some (v4, H5)) = some r) : FF n_wheel_New [x0] H = some r :=
 fo Tryz.func195 (by kernel_rfl) h
theorem heap_New_of (H : AH) {r : Value × AH} (h : (
 mapK H fun v0 H1 =>
 mkS [(0, 1), (1, 1)] [(.slice none 0 0), (.map none)] [(1, v0)] fun v2 =>
 newK (Value.cells v2).toList H1 fun v3 H4 =>
 some (v3, H4)) = some r) : FF n_heap_New [] H = some r :=
 fo Tryz.func196 (by kernel_rfl) h
theorem mem_Mem_Load_of (x0 x1 x2 : Value) (H : AH) {r : Value × AH} (h : (
 newK (Value.cells x2).toList H fun v0 H1 =>
 (pLdN 3 v0 H1).bind fun v2 =>
 (FF n_mem_Mem_note [x0, x1, (vi 1), v2] H1).bind fun r3 =>
 (pLdN 3 v0 r3.2).bind fun v4 =>
 (FF n_mem_Mem_Peek [x0, v4] r3.2).bind fun r5 =>
 some (r5.1, r5.2)) = some r) : FF n_mem_Mem_Load [x0, x1, x2] H = some r :=
 fo Tryz.func211 (by kernel_rfl) h
theorem mem_Mem_Read_of (x0 x1 x2 : Value) (H : AH) {r : Value × AH} (h : (
 newK (Value.cells x2).toList H fun v0 H1 =>
 (pLdN 3 v0 H1).bind fun v2 =>
 (FF n_mem_Mem_note [x0, x1, (vi 5), v2] H1).bind fun r3 =>
 some (Value.tuple #[], r3.2)) = some r) : FF n_mem_Mem_Read [x0, x1, x2] H = some r :=
 fo Tryz.func212 (by kernel_rfl) h
theorem word_Right_of (x0 : Value) (H : AH) {r : Value × AH} (h : (
 (pBin .other .shr x0 (vw 61)).bind fun v0 =>
 (pBin .other .lss v0 (vw 3)).bind fun v1 =>
 some (v1, H)) = some r) : FF n_word_Right [x0] H = some r :=
 fo Tryz.func217 (by kernel_rfl) h
theorem table_Table_Unlock_of (x0 x1 x2 : Value) (H : AH) {r : Value × AH} (h : (
 ad [.n, .f 0] x0 fun v0 =>
 (pLd1 v0 H).bind fun v1 =>
 (FF n_table_mutex [x2] H).bind fun r2 =>
 eqK (pLd1 v0 r2.2) (pLd1 v0 H) <|
 (FF n_mem_Mem_Store [v1, x1, r2.1, (vw 0)] r2.2).bind fun r3 =>
 some (Value.tuple #[], r3.2)) = some r) : FF n_table_Table_Unlock [x0, x1, x2] H = some r :=
 fo Tryz.func221 (by kernel_rfl) h
theorem wheel_held_of (x0 : Value) (H : AH) {r : Value × AH} (h : (
 (pMax [x0, (vi 0)]).bind fun v0 =>
 (pMin [v0, (vi 40)]).bind fun v1 =>
 some (v1, H)) = some r) : FF n_wheel_held [x0] H = some r :=
 fo Tryz.func224 (by kernel_rfl) h
theorem word_More_of (x0 : Value) (H : AH) {r : Value × AH} (h : (
 (FF n_word_Right [x0] H).bind fun r0 =>
 (pUn .not r0.1).bind fun v1 =>
 (gV v1 false x0).bind fun v2 =>
 (gE v1 false r0.2 (FF n_word_State [v2] r0.2)).bind fun r3 =>
 (gB v1 false (pBin .other .eql r3.1 (vi 2))).bind fun v4 =>
 (pPick v1 (vb true) v4).bind fun v5 =>
 (gV v5 false x0).bind fun v6 =>
 (gE v5 false r3.2 (FF n_word_Count [v6] r3.2)).bind fun r7 =>
 (gB v5 false (pBin .other .eql r7.1 (vw 2305843009213693951))).bind fun v8 =>
 (pPick v5 (vb true) v8).bind fun v9 =>
 condK v9
 (some (Value.tuple #[(vw 0), (vb false)], r7.2))
 ((FF n_word_Count [x0] r7.2).bind fun r10 =>
 (pBin .other .add r10.1 (vw 1)).bind fun v11 =>
 (FF n_word_Pack [v11, (vi 1)] r10.2).bind fun r12 =>
 (pExtract r12.1 0).bind fun v13 =>
 (pExtract r12.1 1).bind fun v14 =>
 some (Value.tuple #[v13, v14], r12.2))) = some r) : FF n_word_More [x0] H = some r :=
 fo Tryz.func288 (by kernel_rfl) h
theorem wrap_u (n : Int) : IntKind.wrap .u64 n = n % 18446744073709551616 := by simp [IntKind.wrap, IntKind.bits, IntKind.signed]
theorem wrap_u_of {n : Int} (h0 : 0 ≤ n) (h1 : n < 18446744073709551616) : IntKind.wrap .u64 n = n := by rw [wrap_u]; omega
theorem wrap_i_of {n : Int} (h0 : -9223372036854775808 ≤ n) (h1 : n < 9223372036854775808) : IntKind.wrap .i64 n = n := by
 simp [IntKind.wrap, IntKind.bits, IntKind.signed]
 split <;> omega
theorem ofInt_nat (a : Nat) (h : a < 18446744073709551616) : (BitVec.ofInt 64 (a : Int)).toNat = a := by
 rw [BitVec.toNat_ofInt]
 omega
theorem bits_and_u {a b : Nat} (ha : a < 18446744073709551616) (hb : b < 18446744073709551616) : Go.bits .and .u64 (a : Int) (b : Int) = ((a &&& b : Nat) : Int) := by
 show IntKind.wrap .u64 (((BitVec.ofInt 64 (a : Int) &&& BitVec.ofInt 64 (b : Int)).toNat : Nat) : Int) = _
 rw [BitVec.toNat_and, ofInt_nat a ha, ofInt_nat b hb]
 have : a &&& b ≤ a := Nat.and_le_left
 exact wrap_u_of (by omega) (by omega)
theorem or_lt {a b : Nat} (ha : a < 18446744073709551616) (hb : b < 18446744073709551616) : a ||| b < 18446744073709551616 := Nat.or_lt_two_pow (n := 64) ha hb
theorem bits_or_u {a b : Nat} (ha : a < 18446744073709551616) (hb : b < 18446744073709551616) : Go.bits .or .u64 (a : Int) (b : Int) = ((a ||| b : Nat) : Int) := by
 show IntKind.wrap .u64 (((BitVec.ofInt 64 (a : Int) ||| BitVec.ofInt 64 (b : Int)).toNat : Nat) : Int) = _
 rw [BitVec.toNat_or, ofInt_nat a ha, ofInt_nat b hb]
 have := or_lt ha hb
 exact wrap_u_of (by omega) (by omega)
section
variable {cl : TCls}
theorem bin_and {a b : Nat} (ha : a < 18446744073709551616) (hb : b < 18446744073709551616) : pBin cl .and (vu a) (vu b) = some (vu (a &&& b)) := by simp only [pBin, pInt, if_true, bits_and_u ha hb]
theorem bin_or {a b : Nat} (ha : a < 18446744073709551616) (hb : b < 18446744073709551616) : pBin cl .or (vu a) (vu b) = some (vu (a ||| b)) := by simp only [pBin, pInt, if_true, bits_or_u ha hb]
theorem bin_add_u {a b : Nat} (h : a + b < 18446744073709551616) : pBin cl .add (vu a) (vu b) = some (vu (a + b)) := by
 simp only [pBin, pInt, if_true]
 rw [wrap_u_of (by omega) (by omega)]
 simp
theorem bin_mul_u {a b : Nat} : pBin cl .mul (vu a) (vu b) = some (vu (a * b % 18446744073709551616)) := by
 simp only [pBin, pInt, if_true]
 rw [wrap_u]
 simp
theorem bin_sub_u {a b : Nat} (h : b ≤ a) (ha : a < 18446744073709551616) : pBin cl .sub (vu a) (vu b) = some (vu (a - b)) := by
 simp only [pBin, pInt, if_true]
 rw [wrap_u_of (by omega) (by omega)]
 show some (Value.int .u64 ((a : Int) - (b : Int))) = some (Value.int .u64 ((a - b : Nat) : Int))
 rw [Int.ofNat_sub h]
theorem bin_quo_u {a b : Nat} (h : b ≠ 0) (ha : a < 18446744073709551616) : pBin cl .quo (vu a) (vu b) = some (vu (a / b)) := by
 simp only [pBin, pInt, if_true]
 rw [if_neg (by omega)]
 have h1 : (a : Int).tdiv (b : Int) = ((a / b : Nat) : Int) := (Int.ofNat_tdiv a b).symm
 have h2 : a / b ≤ a := Nat.div_le_self a b
 rw [h1]
 generalize a / b = q at h2
 rw [wrap_u_of (by omega) (by omega)]
theorem bin_rem_u {a b : Nat} (h : b ≠ 0) : pBin cl .rem (vu a) (vu b) = some (vu (a % b)) := by
 simp only [pBin, pInt, if_true]
 rw [if_neg (by omega)]
 have h1 : (a : Int).tmod (b : Int) = ((a % b : Nat) : Int) := (Int.ofNat_tmod a b).symm
 rw [h1]
theorem bin_shr_u {a : Nat} {k : IntKind} {n : Nat} (hn : n ≤ 64) : pBin cl .shr (vu a) (.int k (n : Int)) = some (vu (a / 2 ^ n)) := by
 simp only [pBin, pShift]
 rw [if_neg (by omega)]
 simp only [IntKind.bits, Int.toNat_natCast, Nat.min_eq_left hn]
 have : (a : Int).fdiv (2 ^ n) = ((a / 2 ^ n : Nat) : Int) := by
  rw [Int.fdiv_eq_ediv_of_nonneg _ (by exact Int.le_of_lt (Int.pow_pos (by omega)))]
  simp
 rw [this]
theorem bin_shl_u {a : Nat} {k : IntKind} {n : Nat} (hn : n ≤ 64) : pBin cl .shl (vu a) (.int k (n : Int)) = some (vu (a * 2 ^ n % 18446744073709551616)) := by
 simp only [pBin, pShift]
 rw [if_neg (by omega)]
 simp only [IntKind.bits, Int.toNat_natCast, Nat.min_eq_left hn]
 rw [wrap_u]
 simp
theorem bin_add_i {a b : Int} (h0 : -9223372036854775808 ≤ a + b) (h1 : a + b < 9223372036854775808) : pBin cl .add (vi a) (vi b) = some (vi (a + b)) := by simp only [pBin, pInt, if_true, wrap_i_of h0 h1]
theorem bin_sub_i {a b : Int} (h0 : -9223372036854775808 ≤ a - b) (h1 : a - b < 9223372036854775808) : pBin cl .sub (vi a) (vi b) = some (vi (a - b)) := by simp only [pBin, pInt, if_true, wrap_i_of h0 h1]
theorem bin_cmp {k : IntKind} {a b : Int} : pBin cl .lss (.int k a) (.int k b) = some (vb (decide (a < b))) ∧ pBin cl .leq (.int k a) (.int k b) = some (vb (decide (a ≤ b))) ∧ pBin cl .gtr (.int k a) (.int k b) = some (vb (decide (b < a))) ∧
  pBin cl .geq (.int k a) (.int k b) = some (vb (decide (b ≤ a))) ∧ pBin cl .eql (.int k a) (.int k b) = some (vb (a == b)) ∧ pBin cl .neq (.int k a) (.int k b) = some (vb (a != b)) := by
 simp [pBin, pInt]
theorem bin_lss {k : IntKind} {a b : Int} : pBin cl .lss (.int k a) (.int k b) = some (vb (decide (a < b))) := bin_cmp.1
theorem bin_leq {k : IntKind} {a b : Int} : pBin cl .leq (.int k a) (.int k b) = some (vb (decide (a ≤ b))) := bin_cmp.2.1
theorem bin_gtr {k : IntKind} {a b : Int} : pBin cl .gtr (.int k a) (.int k b) = some (vb (decide (b < a))) := bin_cmp.2.2.1
theorem bin_geq {k : IntKind} {a b : Int} : pBin cl .geq (.int k a) (.int k b) = some (vb (decide (b ≤ a))) := bin_cmp.2.2.2.1
theorem bin_eql {k : IntKind} {a b : Int} : pBin cl .eql (.int k a) (.int k b) = some (vb (a == b)) := bin_cmp.2.2.2.2.1
theorem bin_neq {k : IntKind} {a b : Int} : pBin cl .neq (.int k a) (.int k b) = some (vb (a != b)) := bin_cmp.2.2.2.2.2
theorem un_not {a : Bool} : pUn .not (vb a) = some (vb (!a)) := rfl
theorem max_i {a b : Int} : pMax [vi a, vi b] = some (vi (max a b)) := by
 simp only [pMax]
 congr 2
 split <;> omega
theorem min_i {a b : Int} : pMin [vi a, vi b] = some (vi (min a b)) := by
 simp only [pMin]
 congr 2
 split <;> omega
end
abbrev Hp := Nat → Option AObj
def SP : Type := Hp → Prop
theorem SP.ext {P Q : SP} (h : ∀ x, P x ↔ Q x) : P = Q := funext fun x => propext (h x)
def sep (P Q : SP) : SP := fun h => ∃ a b : Hp, (∀ i, a i = none ∨ b i = none) ∧ (h = fun i => (a i).or (b i)) ∧ P a ∧ Q b
instance : Mul SP := ⟨sep⟩
def emp : SP := fun h => h = fun _ => none
theorem or_comm' {α : Type} {a b : Option α} (h : a = none ∨ b = none) : a.or b = b.or a := by
 rcases h with rfl | rfl <;> simp
theorem sep_comm (P Q : SP) : P * Q = Q * P := by
 have one : ∀ (P Q : SP) h, sep P Q h → sep Q P h := by
  rintro P Q h ⟨a, b, hd, rfl, ha, hb⟩
  exact ⟨b, a, fun i => (hd i).symm, funext fun i => or_comm' (hd i), hb, ha⟩
 exact SP.ext fun h => ⟨one P Q h, one Q P h⟩
theorem sep_assoc (P Q R : SP) : P * Q * R = P * (Q * R) := by
 apply SP.ext
 intro h
 constructor
 ·rintro ⟨ab, c, hd, rfl, ⟨a, b, hd2, rfl, ha, hb⟩, hc⟩
  refine ⟨a, fun i => (b i).or (c i), fun i => ?_, funext fun i => ?_, ha, b, c, fun i => ?_, rfl, hb, hc⟩
  ·have h1 := hd i
   have h2 := hd2 i
   cases ha' : a i <;> cases hb' : b i <;> cases hc' : c i <;> simp_all
  ·exact Option.or_assoc
  ·have h1 := hd i
   have h2 := hd2 i
   cases ha' : a i <;> cases hb' : b i <;> cases hc' : c i <;> simp_all
 ·rintro ⟨a, bc, hd, rfl, ha, b, c, hd2, rfl, hb, hc⟩
  refine ⟨fun i => (a i).or (b i), c, fun i => ?_, funext fun i => ?_, ⟨a, b, fun i => ?_, rfl, ha, hb⟩, hc⟩
  ·have h1 := hd i
   have h2 := hd2 i
   cases ha' : a i <;> cases hb' : b i <;> cases hc' : c i <;> simp_all
  ·exact Option.or_assoc.symm
  ·have h1 := hd i
   have h2 := hd2 i
   cases ha' : a i <;> cases hb' : b i <;> cases hc' : c i <;> simp_all
theorem sep_emp (P : SP) : P * emp = P := by
 apply SP.ext
 intro h
 constructor
 ·rintro ⟨a, b, hd, rfl, ha, hb⟩
  have hb : b = fun _ => none := hb
  subst hb
  simpa using ha
 ·intro h'
  exact ⟨h, fun _ => none, fun i => .inr rfl, by simp, h', rfl⟩
theorem emp_sep (P : SP) : emp * P = P := by rw [sep_comm, sep_emp]
instance : Std.Associative (α := SP) (· * ·) := ⟨sep_assoc⟩
instance : Std.Commutative (α := SP) (· * ·) := ⟨sep_comm⟩
theorem sep_left_comm (P Q R : SP) : P * (Q * R) = Q * (P * R) := by rw [← sep_assoc, sep_comm P Q, sep_assoc]
def blk (b : Nat) (o : AObj) : SP := fun h => h = fun i => if i = b then some o else none
def ex {α : Type} (P : α → SP) : SP := fun h => ∃ x, P x h
def pu (p : Prop) : SP := fun h => p ∧ h = fun _ => none
def Holds (P : SP) (H : AH) : Prop := ∃ h : Hp, P h ∧ ∀ i o, h i = some o → H.get i = some o
theorem Holds.left {P Q : SP} {H : AH} (h : Holds (P * Q) H) : Holds P H := by
 obtain ⟨x, ⟨a, b, hd, rfl, ha, hb⟩, hx⟩ := h
 exact ⟨a, ha, fun i o hi => hx i o (by simp [hi])⟩
theorem Holds.right {P Q : SP} {H : AH} (h : Holds (P * Q) H) : Holds Q H := by rw [sep_comm] at h; exact h.left
theorem Holds.get {b : Nat} {o : AObj} {H : AH} (h : Holds (blk b o) H) : H.get b = some o := by
 obtain ⟨x, hx, hg⟩ := h
 have hx : x = _ := hx
 exact hg b o (by rw [hx]; simp)
theorem Holds.ex {α : Type} {F : α → SP} {R : SP} {H : AH} : Holds (ex F * R) H ↔ ∃ x, Holds (F x * R) H := by
 constructor
 ·rintro ⟨h, ⟨a, b, hd, rfl, ⟨x, ha⟩, hb⟩, hx⟩
  exact ⟨x, _, ⟨a, b, hd, rfl, ha, hb⟩, hx⟩
 ·rintro ⟨x, h, ⟨a, b, hd, rfl, ha, hb⟩, hx⟩
  exact ⟨_, ⟨a, b, hd, rfl, ⟨x, ha⟩, hb⟩, hx⟩
theorem Holds.pu {p : Prop} {R : SP} {H : AH} : Holds (pu p * R) H ↔ p ∧ Holds R H := by
 constructor
 ·rintro ⟨h, ⟨a, b, hd, rfl, ⟨hp, ha⟩, hb⟩, hx⟩
  subst ha
  exact ⟨hp, b, hb, fun i o hi => hx i o (by simp [hi])⟩
 ·rintro ⟨hp, h, hr, hx⟩
  exact ⟨h, ⟨fun _ => none, h, fun i => .inl rfl, by simp, ⟨hp, rfl⟩, hr⟩, hx⟩
theorem Holds.emp (H : AH) : Holds emp H := ⟨fun _ => none, rfl, fun i o h => by cases h⟩
theorem Holds.lt {b : Nat} {o : AObj} {R : SP} {H : AH} (h : Holds (blk b o * R) H) : b < H.size := AH.lt_of_get h.left.get
theorem Holds.set {b : Nat} {o : AObj} {R : SP} {H : AH} (o' : AObj) (h : Holds (blk b o * R) H) : Holds (blk b o' * R) (H.set b o') := by
 have hb := h.lt
 obtain ⟨x, ⟨a, r, hd, rfl, ha, hr⟩, hx⟩ := h
 have ha : a = _ := ha
 subst ha
 refine ⟨_, ⟨_, r, fun i => ?_, rfl, rfl, hr⟩, fun i o2 hi => ?_⟩
 ·have := hd i
  simp only at this ⊢
  by_cases hi : i = b
  ·rw [if_pos hi] at this ⊢
   rcases this with h | h
   ·cases h
   ·exact .inr h
  ·rw [if_neg hi]; exact .inl rfl
 ·by_cases hib : i = b
  ·subst hib
   simp only [if_true, Option.some_or, Option.some.injEq] at hi
   subst hi
   exact AH.get_set_eq hb
  ·simp only [if_neg hib, Option.none_or] at hi
   rw [AH.get_set_ne hib]
   exact hx i o2 (by simp only [if_neg hib, Option.none_or]; exact hi)
theorem Holds.push {R : SP} {H : AH} (o : AObj) (h : Holds R H) : Holds (blk H.size o * R) (H.push o) := by
 obtain ⟨r, hr, hx⟩ := h
 refine ⟨_, ⟨_, r, fun i => ?_, rfl, rfl, hr⟩, fun i o2 hi => ?_⟩
 ·by_cases hi : i = H.size
  ·subst hi
   right
   cases hr' : r H.size with
   | none => rfl
   | some o' => have := AH.lt_of_get (hx _ _ hr'); omega
  ·rw [if_neg hi]; exact .inl rfl
 ·by_cases hib : i = H.size
  ·subst hib
   simp only [if_true, Option.some_or, Option.some.injEq] at hi
   subst hi
   exact AH.get_push_new _ _
  ·simp only [if_neg hib, Option.none_or] at hi
   have := hx i o2 hi
   rw [AH.get_push_old (AH.lt_of_get this)]
   exact this
theorem Holds.dead {b : Nat} {o : AObj} {R : SP} {H : AH} (h : Holds (blk b o * R) H) : Holds R (H.set b .dead) := (h.set .dead).right
class Fr (P A : SP) (R : outParam SP) : Prop where
 eq : P = A * R
instance (priority := high) Fr.refl (A : SP) : Fr A A emp := ⟨(sep_emp A).symm⟩
instance (priority := high) Fr.emp (P : SP) : Fr P emp P := ⟨(emp_sep P).symm⟩
instance Fr.left (P Q A R : SP) [h : Fr P A R] : Fr (P * Q) A (R * Q) := ⟨by rw [h.eq, sep_assoc]⟩
instance Fr.right (P Q A R : SP) [h : Fr Q A R] : Fr (P * Q) A (P * R) := ⟨by rw [h.eq, sep_left_comm]⟩
instance (priority := high) Fr.both (P A B R1 R2 : SP) [h1 : Fr P A R1] [h2 : Fr R1 B R2] : Fr P (A * B) R2 := ⟨by rw [h1.eq, h2.eq, sep_assoc]⟩
class Hs (P : SP) (b : Nat) (o : outParam AObj) : Prop where
 get : ∀ {H : AH}, Holds P H → H.get b = some o
instance Hs.one (b : Nat) (o : AObj) : Hs (blk b o) b o := ⟨Holds.get⟩
instance Hs.left (P Q : SP) (b : Nat) (o : AObj) [h : Hs P b o] : Hs (P * Q) b o := ⟨fun k => h.get k.left⟩
instance Hs.right (P Q : SP) (b : Nat) (o : AObj) [h : Hs Q b o] : Hs (P * Q) b o := ⟨fun k => h.get k.right⟩
class Up (P : SP) (b : Nat) (o' : AObj) (P' : outParam SP) : Prop where
 up : ∃ o R, P = blk b o * R ∧ P' = blk b o' * R
instance Up.one (b : Nat) (o o' : AObj) : Up (blk b o) b o' (blk b o') := ⟨o, emp, (sep_emp _).symm, (sep_emp _).symm⟩
instance Up.left (P Q : SP) (b : Nat) (o' : AObj) (P' : SP) [h : Up P b o' P'] : Up (P * Q) b o' (P' * Q) := ⟨by
 obtain ⟨o, R, e1, e2⟩ := h.up
 exact ⟨o, R * Q, by rw [e1, sep_assoc], by rw [e2, sep_assoc]⟩⟩
instance Up.right (P Q : SP) (b : Nat) (o' : AObj) (Q' : SP) [h : Up Q b o' Q'] : Up (P * Q) b o' (P * Q') := ⟨by
 obtain ⟨o, R, e1, e2⟩ := h.up
 exact ⟨o, P * R, by rw [e1, sep_left_comm], by rw [e2, sep_left_comm]⟩⟩
theorem Up.set {P P' : SP} {b : Nat} {o' : AObj} [h : Up P b o' P'] {H : AH} (k : Holds P H) : Holds P' (H.set b o') := by
 obtain ⟨o, R, rfl, rfl⟩ := h.up
 exact k.set o'
theorem Holds.fr {P A R : SP} {H : AH} (h : Holds P H) [f : Fr P A R] : Holds (A * R) H := by rw [← f.eq]; exact h
theorem Holds.to {P A R : SP} {H : AH} (h : Holds P H) [f : Fr P A R] : Holds A H := h.fr.left
def wp (x : OV) (Q : Value → AH → Prop) : Prop := ∃ v H, x = some (v, H) ∧ Q v H
abbrev vp (b : Nat) : Value := .pointer (some ⟨b, 0, none⟩)
abbrev vpo (b o : Nat) : Value := .pointer (some ⟨b, o, none⟩)
abbrev vs (b n e : Nat) : Value := .slice (some ⟨b, 0, none⟩) n e
theorem w_ret {v : Value} {H : AH} {Q : Value → AH → Prop} (h : Q v H) : wp (some (v, H)) Q := ⟨v, H, rfl, h⟩
theorem wp.mono {x : OV} {Q Q' : Value → AH → Prop} (h : wp x Q) (k : ∀ v H, Q v H → Q' v H) : wp x Q' := let ⟨v, H, e, q⟩ := h; ⟨v, H, e, k v H q⟩
theorem wp_of {x y : OV} {Q : Value → AH → Prop} (h : ∀ r, x = some r → y = some r) (k : wp x Q) : wp y Q := let ⟨v, H, e, q⟩ := k; ⟨v, H, h _ e, q⟩
theorem wp_eq {x y : OV} {Q : Value → AH → Prop} (h : y = x) (k : wp x Q) : wp y Q := by rw [h]; exact k
theorem w_bind {x : Option Value} {v : Value} {k : Value → OV} {Q : Value → AH → Prop} (e : x = some v) (h : wp (k v) Q) : wp (x.bind k) Q := by rw [e]; exact h
theorem w_cond {b : Bool} {x y : OV} {Q : Value → AH → Prop} (ht : b = true → wp x Q) (hf : b = false → wp y Q) : wp (condK (vb b) x y) Q := by
 cases b
 ·exact hf rfl
 ·exact ht rfl
theorem w_eqK {x y : Option Value} {k : OV} {Q : Value → AH → Prop} (e : x = y) (h : wp k Q) : wp (eqK x y k) Q := by rw [eqK_of e]; exact h
theorem w_eqK_rfl {x : Option Value} {k : OV} {Q : Value → AH → Prop} (h : wp k Q) : wp (eqK x x k) Q := w_eqK rfl h
section
variable {P P' R : SP} {H : AH} {b o f n len e : Nat} {ro : Bool} {cs : List Value} {v x : Value} {Q : Value → AH → Prop}
theorem ld1_at (h : Holds P H) [i : Hs P b (.cells ro cs)] (hv : cs[o]? = some v) : pLd1 (vpo b o) H = some v := by
 simp only [pLd1, pAt, pCells, Option.bind_some, i.get h]
 exact hv
theorem ldN_at (h : Holds P H) [i : Hs P b (.cells ro cs)] (hn : o + n ≤ cs.length) : pLdN n (vpo b o) H = some (.agg ((cs.drop o).take n).toArray) := by
 simp only [pLdN, pAt, pCells, Option.bind_some, i.get h]
 rw [if_pos hn]
theorem st_at (h : Holds P H) [i : Hs P b (.cells false cs)] (hx : x.cells.size = n) (hn : o + n ≤ cs.length) (hc : x.cells.toList.all Value.oneCell' = true) :
  pSt n (vpo b o) x H = some (H.set b (.cells false (splice cs o x.cells.toList))) := by
 simp only [pSt, pAt, Option.bind_some, i.get h]
 rw [if_pos ⟨hx, hn, hc⟩]
theorem w_new {k : Value → AH → OV} (h : Holds P H) (hk : ∀ b H', Holds (blk b (.cells false cs) * P) H' → wp (k (vp b) H') Q) : wp (newK cs H k) Q := hk _ _ (h.push _)
theorem w_map {k : Value → AH → OV} (h : Holds P H) (hk : ∀ b H', Holds (blk b (.map [] 0) * P) H' → wp (k (.map (some b)) H') Q) : wp (mapK H k) Q := hk _ _ (h.push _)
theorem w_row {k : Value → AH → OV} (h : Holds P H) (hk : ∀ b H', Holds (blk b (.cells false cs) * P) H' → wp (k (vs b len e) H') Q) : wp (rowK len e cs H k) Q := hk _ _ (h.push _)
theorem w_mkR {zero : List Value} {xs : List (Nat × Value)} {k : Value → AH → OV} (h : Holds P H) (hf : pFill (offs e) (List.replicate len zero).flatten xs = some cs) (hk : ∀ b H', Holds (blk b (.cells false cs) * P) H' → wp (k (vs b len e) H') Q) :
  wp (mkR len e zero xs H k) Q := by
 unfold mkR
 rw [hf]
 exact w_row h hk
theorem w_mkS {ps : List (Nat × Nat)} {zero : List Value} {xs : List (Nat × Value)} {k : Value → OV} (hf : pFill (fun i => ps[i]?) zero xs = some cs) (hk : wp (k (.agg cs.toArray)) Q) : wp (mkS ps zero xs k) Q := by
 unfold mkS
 rw [hf]
 exact hk
theorem w_len {n : Nat} {a : Option Addr} {k : Value → OV} (hk : wp (k (vi n)) Q) : wp (lenK (.slice a n e) k) Q := hk
theorem ad_f {R : Type} {b o f : Nat} {p : List Stp} {k : Value → Option R} : ad (.f f :: p) (vpo b o) k = ad p (vpo b (o + f)) k := rfl
theorem ad_i {R : Type} {b o n e i : Nat} {c : Nat} {p : List Stp} {kk : IntKind} {k : Value → Option R} (h : i < n) : ad (.i e (.int kk (i : Int)) :: p) (.slice (some ⟨b, o, none⟩) n c) k = ad p (vpo b (o + i * e)) k := by
 show (pIdx e (.slice (some ⟨b, o, none⟩) n c) (.int kk (i : Int))).bind _ = _
 simp only [pIdx]
 rw [if_pos (by omega)]
 simp
def End (p : List Stp) (x : Value) (b o : Nat) : Prop := ∀ {R : Type} (k : Value → Option R), ad p x k = k (vpo b o)
theorem end_nil : End [] (vpo b o) b o := fun _ => rfl
theorem end_n {p : List Stp} {b' o' : Nat} (h : End p (vpo b o) b' o') : End (.n :: p) (vpo b o) b' o' := fun k => h k
theorem end_f {p : List Stp} {b' o' : Nat} (h : End p (vpo b (o + f)) b' o') : End (.f f :: p) (vpo b o) b' o' := fun k => h k
theorem end_i {p : List Stp} {b' o' i c : Nat} {kk : IntKind} (hi : i < n) (h : End p (vpo b (o + i * e)) b' o') : End (.i e (.int kk (i : Int)) :: p) (.slice (some ⟨b, o, none⟩) n c) b' o' := fun k => by rw [ad_i hi]; exact h k
theorem end_nf : End [.n, .f f] (vp b) b f := fun k => by
 show k (vpo b (0 + f)) = _
 rw [Nat.zero_add]
theorem end_f0 : End [.f f] (vp b) b f := fun k => by
 show k (vpo b (0 + f)) = _
 rw [Nat.zero_add]
class SetL (l : List Value) (o : Nat) (v : Value) (l' : outParam (List Value)) : Prop where
 eq : o < l.length ∧ l' = l.set o v
instance SetL.zero (a : Value) (l : List Value) (v : Value) : SetL (a :: l) 0 v (v :: l) := ⟨by simp⟩
instance SetL.succ (a : Value) (l : List Value) (o : Nat) (v : Value) (l' : List Value) [h : SetL l o v l'] : SetL (a :: l) (o + 1) v (a :: l') := ⟨by
 obtain ⟨h1, rfl⟩ := h.eq
 exact ⟨by simp; exact h1, by simp⟩⟩
class LayL (l : List Value) (o : Nat) (xs : List Value) (l' : outParam (List Value)) : Prop where
 eq : o + xs.length ≤ l.length ∧ l' = splice l o xs
instance LayL.here0 (l : List Value) : LayL l 0 [] l := ⟨by simp [splice]⟩
instance LayL.here (a x : Value) (l xs l' : List Value) [h : LayL l 0 xs l'] : LayL (a :: l) 0 (x :: xs) (x :: l') := ⟨by
 obtain ⟨h1, rfl⟩ := h.eq
 refine ⟨by simp at h1 ⊢; exact h1, by simp [splice]⟩⟩
instance LayL.on (a : Value) (l : List Value) (o : Nat) (x : Value) (xs l' : List Value) [h : LayL l o (x :: xs) l'] : LayL (a :: l) (o + 1) (x :: xs) (a :: l') := ⟨by
 obtain ⟨h1, rfl⟩ := h.eq
 refine ⟨by simp at h1 ⊢; omega, ?_⟩
 simp only [splice, List.take_succ_cons, List.cons_append, List.cons.injEq, true_and]
 congr 1
 rw [show o + 1 + (x :: xs).length = (o + (x :: xs).length) + 1 from by omega, List.drop_succ_cons]⟩
class SubL (l : List Value) (o n : Nat) (l' : outParam (List Value)) : Prop where
 eq : o + n ≤ l.length ∧ l' = (l.drop o).take n
instance SubL.nil (l : List Value) : SubL l 0 0 [] := ⟨by simp⟩
instance SubL.here (a : Value) (l : List Value) (n : Nat) (l' : List Value) [h : SubL l 0 n l'] : SubL (a :: l) 0 (n + 1) (a :: l') := ⟨by
 obtain ⟨h1, rfl⟩ := h.eq
 exact ⟨by simp at h1 ⊢; exact h1, by simp⟩⟩
instance SubL.on (a : Value) (l : List Value) (o n : Nat) (l' : List Value) [h : SubL l o (n + 1) l'] : SubL (a :: l) (o + 1) (n + 1) l' := ⟨by
 obtain ⟨h1, rfl⟩ := h.eq
 exact ⟨by simp at h1 ⊢; omega, by simp⟩⟩
class Cel (v : Value) (l : outParam (List Value)) : Prop where
 eq : v.cells.toList = l
instance Cel.int (k : IntKind) (n : Int) : Cel (.int k n) [.int k n] := ⟨rfl⟩
instance Cel.bool (b : Bool) : Cel (.bool b) [.bool b] := ⟨rfl⟩
instance Cel.slice (a : Option Addr) (n c : Nat) : Cel (.slice a n c) [.slice a n c] := ⟨rfl⟩
instance Cel.ptr (a : Option Addr) : Cel (.pointer a) [.pointer a] := ⟨rfl⟩
instance Cel.func (f : Fn) (a b : Array Value) : Cel (.func f a b) [.func f a b] := ⟨rfl⟩
instance Cel.nilFunc : Cel .nilFunc [.nilFunc] := ⟨rfl⟩
instance Cel.map (m : Option Nat) : Cel (.map m) [.map m] := ⟨rfl⟩
instance Cel.string (s : ByteArray) : Cel (.string s) [.string s] := ⟨rfl⟩
instance Cel.agg (l : List Value) : Cel (.agg l.toArray) l := ⟨by simp [Value.cells]⟩
class NthL (ps : List (Nat × Nat)) (i : Nat) (o n : outParam Nat) : Prop where
 eq : ps[i]? = some (o, n)
instance NthL.zero (p : Nat × Nat) (ps : List (Nat × Nat)) : NthL (p :: ps) 0 p.1 p.2 := ⟨rfl⟩
instance NthL.succ (p : Nat × Nat) (ps : List (Nat × Nat)) (i o n : Nat) [h : NthL ps i o n] : NthL (p :: ps) (i + 1) o n := ⟨by simpa using h.eq⟩
class LenL (l : List Value) (n : Nat) : Prop where
 eq : l.length = n
instance LenL.nil : LenL [] 0 := ⟨rfl⟩
instance LenL.cons (a : Value) (l : List Value) (n : Nat) [h : LenL l n] : LenL (a :: l) (n + 1) := ⟨by simp [h.eq]⟩
class FilL (ps : List (Nat × Nat)) (zero : List Value) (xs : List (Nat × Value)) (cs : outParam (List Value)) : Prop where
 eq : pFill (fun i => ps[i]?) zero xs = some cs
instance FilL.nil (ps : List (Nat × Nat)) (zero : List Value) : FilL ps zero [] zero := ⟨rfl⟩
instance FilL.cons (ps : List (Nat × Nat)) (zero z l cs : List Value) (i o n : Nat) (v : Value) (xs : List (Nat × Value)) [h1 : NthL ps i o n] [h2 : Cel v l] [h3 : LenL l n] [h4 : LayL zero o l z] [h5 : FilL ps z xs cs] : FilL ps zero ((i, v) :: xs) cs := ⟨by
 obtain ⟨h6, rfl⟩ := h4.eq
 have h7 := h2.eq
 have h8 := h3.eq
 subst h7
 simp only [pFill, h1.eq, Option.bind_some]
 rw [if_pos ⟨by simpa using h8, by rw [← h8]; exact h6⟩]
 exact h5.eq⟩
class Fil1 (e : Nat) (zero : List Value) (xs : List (Nat × Value)) (cs : outParam (List Value)) : Prop where
 eq : pFill (offs e) (List.replicate 1 zero).flatten xs = some cs
instance Fil1.one (e : Nat) (zero l z : List Value) (v : Value) [h2 : Cel v l] [h3 : LenL l e] [h4 : LayL zero 0 l z] : Fil1 e zero [(0, v)] z := ⟨by
 obtain ⟨h6, rfl⟩ := h4.eq
 have h7 := h2.eq
 have h8 := h3.eq
 subst h7
 have hz : (List.replicate 1 zero).flatten = zero := by simp
 rw [hz]
 simp only [pFill, offs, Option.bind_some, Nat.zero_mul]
 rw [if_pos ⟨by simpa using h8, by rw [← h8]; exact h6⟩]⟩
theorem w_ad {p : List Stp} {k : Value → OV} (hp : End p x b o) (hk : wp (k (vpo b o)) Q) : wp (ad p x k) Q := by rw [hp k]; exact hk
theorem w_ld {p : List Stp} {k : Value → OV} (h : Holds P H) (hp : End p x b o) [i : Hs P b (.cells ro cs)] (hv : cs[o]? = some v) (hk : wp (k v) Q) : wp (ld p x H k) Q := by
 unfold ld
 rw [hp, ld1_at h hv]
 exact hk
theorem w_ldN {l : List Value} {p : List Stp} {k : Value → OV} (h : Holds P H) (hp : End p x b o) [i : Hs P b (.cells ro cs)] [s : SubL cs o n l] (hk : wp (k (.agg l.toArray)) Q) : wp (ldN n p x H k) Q := by
 obtain ⟨hn, rfl⟩ := s.eq
 unfold ldN
 rw [hp, ldN_at h hn]
 exact hk
theorem w_st {cs' l : List Value} {p : List Stp} {k : AH → OV} (h : Holds P H) (hp : End p x b o) [i : Hs P b (.cells false cs)] [c : Cel v l] [s : LayL cs o l cs'] (hx : l.length = n) (hc : l.all Value.oneCell' = true)
  [u : Up P b (.cells false cs') P'] (hk : ∀ H', Holds P' H' → wp (k H') Q) : wp (st n p x v H k) Q := by
 obtain ⟨hn, rfl⟩ := s.eq
 have hl := c.eq
 subst hl
 unfold st
 rw [hp, st_at h (by simpa using hx) (by simp at hx hn; omega) hc]
 exact hk _ (u.set h)
theorem w_Ld1 {k : Value → OV} (h : Holds P H) [i : Hs P b (.cells ro cs)] (hv : cs[o]? = some v) (hk : wp (k v) Q) : wp ((pLd1 (vpo b o) H).bind k) Q := w_bind (ld1_at h hv) hk
theorem w_LdN {l : List Value} {k : Value → OV} (h : Holds P H) [i : Hs P b (.cells ro cs)] [s : SubL cs o n l] (hk : wp (k (.agg l.toArray)) Q) : wp ((pLdN n (vpo b o) H).bind k) Q := by
 obtain ⟨hn, rfl⟩ := s.eq
 exact w_bind (ldN_at h hn) hk
theorem w_St {cs' l : List Value} {k : AH → OV} (h : Holds P H) [i : Hs P b (.cells false cs)] [c : Cel v l] [s : LayL cs o l cs'] (hx : l.length = n) (hc : l.all Value.oneCell' = true)
  [u : Up P b (.cells false cs') P'] (hk : ∀ H', Holds P' H' → wp (k H') Q) : wp ((pSt n (vpo b o) v H).bind k) Q := by
 obtain ⟨hn, rfl⟩ := s.eq
 have hl := c.eq
 subst hl
 rw [st_at h (by simpa using hx) (by simp at hx hn; omega) hc]
 exact hk _ (u.set h)
theorem w_newC {l : List Value} {k : Value → AH → OV} (h : Holds P H) [c : Cel x l] (hk : ∀ b H', Holds (blk b (.cells false l) * P) H' → wp (k (vp b) H') Q) : wp (newK (Value.cells x).toList H k) Q := by
 rw [c.eq]; exact w_new h hk
theorem w_S {ps : List (Nat × Nat)} {zero : List Value} {xs : List (Nat × Value)} {k : Value → OV} [f : FilL ps zero xs cs] (hk : wp (k (.agg cs.toArray)) Q) : wp (mkS ps zero xs k) Q := w_mkS f.eq hk
theorem w_R {zero : List Value} {xs : List (Nat × Value)} {k : Value → AH → OV} (h : Holds P H) [f : Fil1 e zero xs cs] (hk : ∀ b H', Holds (blk b (.cells false cs) * P) H' → wp (k (vs b 1 e) H') Q) : wp (mkR 1 e zero xs H k) Q := w_mkR h f.eq hk
theorem w_eq1 {P2 : SP} {H2 : AH} {ro2 : Bool} {cs2 : List Value} {k : OV} (h : Holds P H) (h2 : Holds P2 H2) [i : Hs P b (.cells ro cs)] [i2 : Hs P2 b (.cells ro2 cs2)] (e : cs[o]? = cs2[o]?) (hk : wp k Q) :
  wp (eqK (pLd1 (vpo b o) H) (pLd1 (vpo b o) H2) k) Q := by
 refine w_eqK ?_ hk
 simp only [pLd1, pAt, pCells, Option.bind_some, i.get h, i2.get h2]
 exact e
theorem w_eqN {P2 : SP} {H2 : AH} {ro2 : Bool} {cs2 : List Value} {k : OV} (h : Holds P H) (h2 : Holds P2 H2) [i : Hs P b (.cells ro cs)] [i2 : Hs P2 b (.cells ro2 cs2)] (e : cs = cs2) (hk : wp k Q) :
  wp (eqK (pLdN n (vpo b o) H) (pLdN n (vpo b o) H2) k) Q := by
 refine w_eqK ?_ hk
 simp only [pLdN, pAt, pCells, Option.bind_some, i.get h, i2.get h2, e]
def Sp {α : Type} (f : Nat) (args : List Value) (P : SP) (v : α → Value) (Q : α → SP) : Prop := ∀ R H, Holds (P * R) H → ∃ x H', FF f args H = some (v x, H') ∧ Holds (Q x * R) H'
theorem sp_of {α : Type} {f : Nat} {args : List Value} {P : SP} {v : α → Value} {Q : α → SP} (h : ∀ R H, Holds (P * R) H → wp (FF f args H) fun v' H' => ∃ x, v' = v x ∧ Holds (Q x * R) H') : Sp f args P v Q := by
 intro R H hh
 obtain ⟨v', H', e, x, rfl, hq⟩ := h R H hh
 exact ⟨x, H', e, hq⟩
theorem w_call {α : Type} {f : Nat} {args : List Value} {P0 : SP} {v : α → Value} {Q0 : α → SP} {k : Value × AH → OV} (h : Holds P H) (s : Sp f args P0 v Q0) [fr : Fr P P0 R] (hk : ∀ x H', Holds (Q0 x * R) H' → wp (k (v x, H')) Q) : wp ((FF f args H).bind k) Q := by
 obtain ⟨x, H', e, h'⟩ := s R H h.fr
 rw [e]
 exact hk x H' h'
end
def sl (e : Nat) (v : Value) (n : Nat) (cs : List Value) : SP := ex fun ob : Option Nat => match ob with
 | none => pu (v = .slice none 0 0 ∧ n = 0 ∧ cs = [])
 | some b => pu (v = vs b n e ∧ cs.length = n * e) * blk b (.cells false cs)
theorem sl_nil' {R : SP} {H : AH} (e : Nat) (h : Holds R H) : Holds (sl e (.slice none 0 0) 0 [] * R) H := Holds.ex.2 ⟨none, Holds.pu.2 ⟨⟨rfl, rfl, rfl⟩, h⟩⟩
theorem sl_some {R : SP} {H : AH} {e b n : Nat} {cs : List Value} (hl : cs.length = n * e) (h : Holds (blk b (.cells false cs) * R) H) : Holds (sl e (vs b n e) n cs * R) H :=
 Holds.ex.2 ⟨some b, by rw [sep_assoc]; exact Holds.pu.2 ⟨⟨rfl, hl⟩, h⟩⟩
theorem sl_open {R : SP} {H : AH} {e n : Nat} {v : Value} {cs : List Value} (h : Holds (sl e v n cs * R) H) : (v = .slice none 0 0 ∧ n = 0 ∧ cs = [] ∧ Holds R H) ∨ ∃ b, v = vs b n e ∧ cs.length = n * e ∧ Holds (blk b (.cells false cs) * R) H := by
 obtain ⟨ob, h⟩ := Holds.ex.1 h
 cases ob with
 | none =>
  obtain ⟨⟨h1, h2, h3⟩, h4⟩ := Holds.pu.1 h
  exact .inl ⟨h1, h2, h3, h4⟩
 | some b =>
  simp only [sep_assoc] at h
  obtain ⟨⟨h1, h2⟩, h4⟩ := Holds.pu.1 h
  exact .inr ⟨b, h1, h2, h4⟩
class Sl (P : SP) (e : Nat) (v : Value) (n : outParam Nat) (cs : outParam (List Value)) (R : outParam SP) : Prop where
 eq : P = sl e v n cs * R
instance (priority := high) Sl.refl (e n : Nat) (v : Value) (cs : List Value) : Sl (sl e v n cs) e v n cs emp := ⟨(sep_emp _).symm⟩
instance Sl.left (P Q R : SP) (e n : Nat) (v : Value) (cs : List Value) [h : Sl P e v n cs R] : Sl (P * Q) e v n cs (R * Q) := ⟨by rw [h.eq, sep_assoc]⟩
instance Sl.right (P Q R : SP) (e n : Nat) (v : Value) (cs : List Value) [h : Sl Q e v n cs R] : Sl (P * Q) e v n cs (P * R) := ⟨by rw [h.eq, sep_left_comm]⟩
theorem Sl.fr {P R : SP} (e : Nat) {n : Nat} (v : Value) {cs : List Value} [h : Sl P e v n cs R] {H : AH} (k : Holds P H) : Holds (sl e v n cs * R) H := by rw [← h.eq]; exact k
section
variable {P P' R : SP} {H : AH} {b o n m e k : Nat} {ro : Bool} {cs xcs : List Value} {v s x : Value} {Q : Value → AH → Prop}
theorem w_app {bytes : Nat} {kk : Value × AH → OV} (h : Holds P H) [f : Sl P e s n cs R] [i : Hs R b (.cells ro xcs)] (hl : xcs.length = k * e) (he : 0 < e) (hk0 : 0 < k) (hc : xcs.all Value.oneCell' = true)
  (hr : (n + k) * bytes ≤ room ∧ n + k ≤ room) (hk : ∀ a c H', Holds (sl e (.slice a (n + k) c) (n + k) (cs ++ xcs) * R) H' → wp (kk (.slice a (n + k) c, H')) Q) : wp ((pApp e bytes s (vs b k e) H).bind kk) Q := by
 have hf := Sl.fr e s h
 have hg := i.get hf.right
 have hrow : pRow e (vs b k e) H = some (k, xcs) := by
  simp only [pRow, pCells, hg, Option.bind_some]
  rw [if_neg (by omega), if_pos (by omega)]
  simp [← hl]
 unfold pApp
 rw [hrow]
 simp only [Option.bind_some]
 rw [if_pos ⟨hc, he⟩]
 rcases sl_open hf with ⟨rfl, rfl, rfl, h'⟩ | ⟨b', rfl, hcl, h'⟩
 ·simp only [and_self, if_true]
  rw [if_neg (by omega), if_pos (by simpa using hr)]
  simp only [Option.bind_some, Nat.zero_add, List.nil_append] at hk ⊢
  exact hk _ _ _ (sl_some hl (h'.push _))
 ·simp only
  have hgb := h'.left.get
  rw [if_neg (by omega), if_neg (by omega), hgb]
  simp only
  rw [if_pos ⟨trivial, by omega, hr.1, hr.2⟩]
  simp only [Option.bind_some, List.drop_zero]
  rw [← hcl, List.take_length]
  have h2 := h'.dead.push (.cells false (cs ++ xcs))
  rw [AH.size_set] at h2
  exact hk _ _ _ (sl_some (by rw [List.length_append, hcl, hl, Nat.add_mul]) h2)
end
abbrev Loc := Int × Int × Int
def encL (l : Loc) : Value := .agg #[vi l.1, vi l.2.1, vi l.2.2]
instance Cel.loc (l : Loc) : Cel (encL l) [vi l.1, vi l.2.1, vi l.2.2] := ⟨rfl⟩
structure Ev where
 who : Int
 kind : Int
 loc : Loc
deriving DecidableEq
def Ev.cells (e : Ev) : List Value := [vi e.who, vi e.kind, vi e.loc.1, vi e.loc.2.1, vi e.loc.2.2]
def evCells (E : List Ev) : List Value := E.flatMap Ev.cells
theorem evCells_snoc (E : List Ev) (x : Ev) : evCells (E ++ [x]) = evCells E ++ x.cells := by simp [evCells]
section
variable {α : Type} {enc : α → List Value} {e : Nat}
theorem flat_len (he : ∀ x, (enc x).length = e) (l : List α) : (l.flatMap enc).length = l.length * e := by
 induction l with
 | nil => simp
 | cons x l ih => rw [List.flatMap_cons, List.length_append, he, ih, List.length_cons, Nat.add_mul]; omega
theorem flat_drop (he : ∀ x, (enc x).length = e) : ∀ (l : List α) (i : Nat), (l.flatMap enc).drop (i * e) = (l.drop i).flatMap enc := by
 intro l
 induction l with
 | nil => intro i; simp
 | cons x l ih =>
  intro i
  cases i with
  | zero => simp
  | succ i =>
   rw [List.flatMap_cons, List.drop_append, he, show (i + 1) * e - e = i * e from by rw [Nat.add_mul]; omega, ih, List.drop_eq_nil_of_le (by rw [he, Nat.add_mul]; omega)]
   rfl
theorem flat_split (l : List α) (i : Nat) (hi : i < l.length) : l.flatMap enc = (l.take i).flatMap enc ++ (enc l[i] ++ (l.drop (i + 1)).flatMap enc) := by
 rw [← List.flatMap_cons, ← List.flatMap_append, List.getElem_cons_drop, List.take_append_drop]
theorem flat_set (l : List α) (i : Nat) (hi : i < l.length) (y : α) : (l.set i y).flatMap enc = (l.take i).flatMap enc ++ (enc y ++ (l.drop (i + 1)).flatMap enc) := by
 rw [← List.flatMap_cons, ← List.flatMap_append, List.set_eq_take_append_cons_drop, if_pos hi]
theorem take_len (he : ∀ x, (enc x).length = e) (l : List α) (i : Nat) (hi : i < l.length) : ((l.take i).flatMap enc).length = i * e := by
 rw [flat_len he, List.length_take, Nat.min_eq_left (by omega)]
theorem flat_at (he : ∀ x, (enc x).length = e) (l : List α) (i : Nat) (hi : i < l.length) : ((l.flatMap enc).drop (i * e)).take e = enc l[i] := by
 rw [flat_split l i hi, List.drop_append, take_len he l i hi, Nat.sub_self, List.drop_zero, List.drop_eq_nil_of_le (by rw [take_len he l i hi]; omega), List.nil_append, List.take_append, he, Nat.sub_self, List.take_zero, List.append_nil,
  List.take_of_length_le (by rw [he]; omega)]
theorem flat_field (he : ∀ x, (enc x).length = e) (l : List α) (i : Nat) (hi : i < l.length) (f : Nat) (hf : f < e) : (l.flatMap enc)[i * e + f]? = (enc l[i])[f]? := by
 rw [flat_split l i hi, List.getElem?_append_right (by rw [take_len he l i hi]; omega), take_len he l i hi, List.getElem?_append_left (by rw [he]; omega)]
 congr 1
 omega
theorem splice_mid (A X B xs : List Value) (f : Nat) (h : f + xs.length ≤ X.length) : splice (A ++ (X ++ B)) (A.length + f) xs = A ++ (splice X f xs ++ B) := by
 unfold splice
 rw [List.take_append, List.take_append, List.drop_append, List.drop_append, List.take_of_length_le (by omega), List.drop_eq_nil_of_le (by omega)]
 have e1 : A.length + f - A.length = f := by omega
 have e2 : A.length + f + xs.length - A.length = f + xs.length := by omega
 have e3 : f + xs.length - X.length = 0 := by omega
 have e4 : f - X.length = 0 := by omega
 rw [e1, e2, e3, e4]
 simp
theorem flat_splice (he : ∀ x, (enc x).length = e) (l : List α) (i : Nat) (hi : i < l.length) (f : Nat) (xs : List Value) (hf : f + xs.length ≤ e) (y : α) (hy : splice (enc l[i]) f xs = enc y) :
  splice (l.flatMap enc) (i * e + f) xs = (l.set i y).flatMap enc := by
 rw [flat_split l i hi, flat_set l i hi, ← take_len he l i hi, splice_mid _ _ _ _ _ (by rw [he]; exact hf), hy]
end
def ts {α : Type} (e : Nat) (enc : α → List Value) (v : Value) (l : List α) : SP := sl e v l.length (l.flatMap enc)
class Enc {α : Type} (enc : α → List Value) (e : outParam Nat) : Prop where
 len : ∀ x, (enc x).length = e
 one : ∀ x, (enc x).all Value.oneCell' = true
 pos : 0 < e
class Ts (P : SP) (s : Value) (α : outParam Type) (e : outParam Nat) (enc : outParam (α → List Value)) (l : outParam (List α)) (R : outParam SP) : Prop where
 eq : P = ts e enc s l * R
instance (priority := high) Ts.refl {α : Type} (e : Nat) (enc : α → List Value) (s : Value) (l : List α) : Ts (ts e enc s l) s α e enc l emp := ⟨(sep_emp _).symm⟩
instance Ts.left {α : Type} (P Q R : SP) (e : Nat) (enc : α → List Value) (s : Value) (l : List α) [h : Ts P s α e enc l R] : Ts (P * Q) s α e enc l (R * Q) := ⟨by rw [h.eq, sep_assoc]⟩
instance Ts.right {α : Type} (P Q R : SP) (e : Nat) (enc : α → List Value) (s : Value) (l : List α) [h : Ts Q s α e enc l R] : Ts (P * Q) s α e enc l (P * R) := ⟨by rw [h.eq, sep_left_comm]⟩
class Tu (P : SP) (s : Value) {α : Type} (l' : List α) (P' : outParam SP) : Prop where
 up : ∃ e enc, ∃ (l : List α), ∃ R, P = ts e enc s l * R ∧ P' = ts e enc s l' * R
theorem ts_nil {α : Type} {R : SP} {H : AH} (e : Nat) (enc : α → List Value) (h : Holds R H) : Holds (ts e enc (.slice none 0 0) [] * R) H := sl_nil' e h
section
variable {α : Type} {P P' R : SP} {H : AH} {b o e : Nat} {ro : Bool} {enc : α → List Value} {l : List α} {xcs : List Value} {s : Value} {Q : Value → AH → Prop}
theorem ts_open (h : Holds P H) [f : Ts P s α e enc l R] : (s = .slice none 0 0 ∧ l = [] ∧ Holds R H) ∨ ∃ b, s = vs b l.length e ∧ Holds (blk b (.cells false (l.flatMap enc)) * R) H := by
 have h' : Holds (ts e enc s l * R) H := by rw [← f.eq]; exact h
 rcases sl_open h' with ⟨h1, h2, _, h4⟩ | ⟨b, h1, _, h3⟩
 ·exact .inl ⟨h1, List.eq_nil_of_length_eq_zero h2, h4⟩
 ·exact .inr ⟨b, h1, h3⟩
theorem ts_back {b : Nat} [E : Enc enc e] (h : Holds (blk b (.cells false (l.flatMap enc)) * R) H) : Holds (ts e enc (vs b l.length e) l * R) H := sl_some (flat_len E.len l) h
theorem w_tlen {k : Value → OV} (h : Holds P H) [f : Ts P s α e enc l R] (hk : wp (k (vi l.length)) Q) : wp (lenK s k) Q := by
 rcases ts_open (f := f) h with ⟨rfl, rfl, _⟩ | ⟨b, rfl, _⟩
 ·exact hk
 ·exact hk
theorem w_tapp {bytes : Nat} {kk : Value × AH → OV} (x : α) (h : Holds P H) [f : Ts P s α e enc l R] [i : Hs R b (.cells ro xcs)] [E : Enc enc e] (hx : xcs = enc x)
  (hr : (l.length + 1) * bytes ≤ room) (hb : 0 < bytes) (hk : ∀ a c H', Holds (ts e enc (.slice a (l.length + 1) c) (l ++ [x]) * R) H' → wp (kk (.slice a (l.length + 1) c, H')) Q) : wp ((pApp e bytes s (vs b 1 e) H).bind kk) Q := by
 have h' : Holds (sl e s l.length (l.flatMap enc) * R) H := by
  have : P = ts e enc s l * R := f.eq
  rw [this] at h
  exact h
 subst hx
 refine w_app (k := 1) (ro := ro) (xcs := enc x) h' (by rw [E.len]; omega) E.pos (by omega) (E.one x) ⟨hr, ?_⟩ fun a c H' h2 => hk a c H' ?_
 ·have : l.length + 1 ≤ (l.length + 1) * bytes := Nat.le_mul_of_pos_right _ hb
  omega
 ·have e1 : (l ++ [x]).length = l.length + 1 := by simp
  have e2 : (l ++ [x]).flatMap enc = l.flatMap enc ++ enc x := by simp
  unfold ts
  rw [e1, e2]
  rw [emp_sep] at h2
  exact h2
theorem w_tldN {k : Value → OV} {i : Nat} {kk : IntKind} (h : Holds P H) [f : Ts P s α e enc l R] [E : Enc enc e] (hi : i < l.length) (hk : wp (k (.agg (enc l[i]).toArray)) Q) : wp (ldN e [.i e (.int kk (i : Int))] s H k) Q := by
 rcases ts_open (f := f) h with ⟨_, rfl, _⟩ | ⟨b, rfl, h'⟩
 ·simp at hi
 ·unfold ldN
  rw [end_i hi end_nil]
  have hlen := flat_len E.len l
  have hm : (i + 1) * e ≤ l.length * e := Nat.mul_le_mul_right _ (by omega)
  rw [Nat.add_mul] at hm
  have := ldN_at (b := b) (cs := l.flatMap enc) (ro := false) (n := e) (o := 0 + i * e) h' (by omega)
  rw [this, Option.bind_some, Nat.zero_add, flat_at E.len l i hi]
  exact hk
theorem w_tld1 {k : Value → OV} {i : Nat} {kk : IntKind} {v : Value} (h : Holds P H) [f : Ts P s α 1 enc l R] [E : Enc enc 1] (hi : i < l.length) (hv : enc l[i] = [v]) (hk : wp (k v) Q) : wp (ld [.i 1 (.int kk (i : Int))] s H k) Q := by
 rcases ts_open (f := f) h with ⟨_, rfl, _⟩ | ⟨b, rfl, h'⟩
 ·simp at hi
 ·unfold ld
  rw [end_i hi end_nil]
  have := ld1_at (b := b) (o := 0 + i * 1) (v := v) h' (by
   have := flat_field E.len l i hi 0 (by omega)
   rw [Nat.add_zero] at this
   rw [Nat.zero_add, this, hv]; rfl)
  rw [this]
  exact hk
theorem w_tst {n : Nat} {p : List Stp} {k : AH → OV} {i g : Nat} {kk : IntKind} {v : Value} {xs : List Value} (y : α) (h : Holds P H) [f : Ts P s α e enc l R] [E : Enc enc e] (hi : i < l.length) (hp : p = [.i e (.int kk (i : Int))] ∧ g = 0 ∨ p = [.i e (.int kk (i : Int)), .f g])
  [c : Cel v xs] (hn : xs.length = n) (hg : g + n ≤ e) (hx : xs.all Value.oneCell' = true) (hy : splice (enc l[i]) g xs = enc y) (hk : ∀ H', Holds (ts e enc s (l.set i y) * R) H' → wp (k H') Q) : wp (st n p s v H k) Q := by
 rcases ts_open (f := f) h with ⟨_, rfl, _⟩ | ⟨b, rfl, h'⟩
 ·simp at hi
 ·have hend : End p (vs b l.length e) b (i * e + g) := by
   rcases hp with ⟨rfl, rfl⟩ | rfl
   ·intro R' k'
    rw [end_i hi end_nil]
    simp
   ·intro R' k'
    rw [end_i hi (end_f end_nil)]
    simp
  unfold st
  have hc := c.eq
  subst hc
  rw [hend]
  have hlen := flat_len E.len l
  have hm : (i + 1) * e ≤ l.length * e := Nat.mul_le_mul_right _ (by omega)
  rw [Nat.add_mul] at hm
  rw [st_at h' (by simpa using hn) (by omega) hx, Option.bind_some, flat_splice E.len l i hi g _ (by rw [hn]; exact hg) y hy]
  refine hk _ ?_
  have h2 := h'.set (.cells false ((l.set i y).flatMap enc))
  have h3 := ts_back (e := e) (enc := enc) (l := l.set i y) h2
  rw [List.length_set] at h3
  exact h3
end
instance : Enc Ev.cells 5 := ⟨fun _ => rfl, fun _ => rfl, by omega⟩
def encI (n : Int) : List Value := [vi n]
instance : Enc encI 1 := ⟨fun _ => rfl, fun _ => rfl, by omega⟩
def RowAt (H : AH) (s : Value) (e n : Nat) (cs : List Value) : Prop :=
 cs.length = n * e ∧ ((∃ a c, s = .slice a 0 c ∧ n = 0 ∧ (a = none → c = 0) ∧ (∀ x, a = some x → ∃ b o, x = ⟨b, o, none⟩)) ∨ ∃ b o ro row, s = .slice (some ⟨b, o, none⟩) n e ∧ H.get b = some (.cells ro row) ∧ o + n * e ≤ row.length ∧ (row.drop o).take (n * e) = cs)
class Rd {α : outParam Type} (P : SP) (s : Value) (e : outParam Nat) (enc : outParam (α → List Value)) (l : outParam (List α)) : Prop where
 rd : ∀ {H : AH}, Holds P H → RowAt H s e l.length (l.flatMap enc)
instance Rd.left {α : Type} (P Q : SP) (s : Value) (e : Nat) (enc : α → List Value) (l : List α) [r : Rd P s e enc l] : Rd (P * Q) s e enc l := ⟨fun h => r.rd h.left⟩
instance Rd.right {α : Type} (P Q : SP) (s : Value) (e : Nat) (enc : α → List Value) (l : List α) [r : Rd Q s e enc l] : Rd (P * Q) s e enc l := ⟨fun h => r.rd h.right⟩
instance Rd.own {α : Type} (s : Value) (e : Nat) (enc : α → List Value) (l : List α) : Rd (ts e enc s l) s e enc l := ⟨by
 intro H h
 have h' : Holds (ts e enc s l * emp) H := by rw [sep_emp]; exact h
 rcases sl_open h' with ⟨rfl, h2, h3, _⟩ | ⟨b, rfl, hc, h4⟩
 ·exact ⟨by rw [h3, h2]; simp, .inl ⟨none, 0, rfl, h2, fun _ => rfl, fun x hx => by cases hx⟩⟩
 ·exact ⟨hc, .inr ⟨b, 0, false, _, rfl, h4.left.get, by omega, by rw [List.drop_zero, ← hc, List.take_length]⟩⟩⟩
section
variable {α : Type} {P R : SP} {H : AH} {e n : Nat} {enc : α → List Value} {l m : List α} {s : Value} {Q : Value → AH → Prop}
theorem w_rlen {k : Value → OV} (h : Holds P H) [r : Rd P s e enc l] (hk : wp (k (vi l.length)) Q) : wp (lenK s k) Q := by
 obtain ⟨_, ⟨a, c, rfl, hn, _⟩ | ⟨b, o, ro, row, rfl, _⟩⟩ := r.rd h
 ·rw [hn] at hk; exact hk
 ·exact hk
theorem rd_len {R' : Type} {k : Value → Option R'} (h : Holds P H) [r : Rd P s e enc l] : lenK s k = k (vi l.length) := by
 obtain ⟨_, ⟨a, c, rfl, hn, _⟩ | ⟨b, o, ro, row, rfl, _⟩⟩ := r.rd h
 ·rw [hn]; rfl
 ·rfl
theorem w_rlenB {k : Value → OV} (h : Holds P H) [r : Rd P s e enc l] (hk : wp (k (vi l.length)) Q) : wp ((lenK s some).bind k) Q := by
 rw [rd_len h]; exact hk
theorem rd_row (h : Holds P H) [r : Rd P s e enc l] [E : Enc enc e] {i : Nat} (hi : i < l.length) : ∃ b o ro row, s = .slice (some ⟨b, o, none⟩) l.length e ∧ H.get b = some (.cells ro row) ∧ o + l.length * e ≤ row.length ∧ (row.drop o).take (l.length * e) = l.flatMap enc := by
 obtain ⟨_, ⟨a, c, rfl, hn, _⟩ | ⟨b, o, ro, row, h1, h2⟩⟩ := r.rd h
 ·omega
 ·exact ⟨b, o, ro, row, h1, h2⟩
theorem rd_cell [E : Enc enc e] {row : List Value} {o i g : Nat} (h : (row.drop o).take (l.length * e) = l.flatMap enc) (hi : i < l.length) (hg : g < e) : row[o + i * e + g]? = (enc l[i])[g]? := by
 rw [← flat_field E.len l i hi g hg, ← h]
 have hm : (i + 1) * e ≤ l.length * e := Nat.mul_le_mul_right _ (by omega)
 rw [Nat.add_mul] at hm
 rw [List.getElem?_take, if_pos (by omega), List.getElem?_drop]
 congr 1; omega
theorem rd_ldF {i g : Nat} {kk : IntKind} {v : Value} (h : Holds P H) [r : Rd P s e enc l] [E : Enc enc e] (hi : i < l.length) (hg : g < e) (hv : (enc l[i])[g]? = some v) {R' : Type} {p : List Stp} (hp : p = [.i e (.int kk (i : Int)), .f g] ∨ p = [.i e (.int kk (i : Int))] ∧ g = 0) {k : Value → Option R'} :
  ld p s H k = k v := by
 obtain ⟨b, o, ro, row, rfl, h2, h3, h4⟩ := rd_row (s := s) (enc := enc) (l := l) h hi
 have hend : ad p (.slice (some ⟨b, o, none⟩) l.length e) = fun k' : Value → Option R' => k' (vpo b (o + i * e + g)) := by
  rcases hp with rfl | ⟨rfl, rfl⟩
  ·funext k'; rw [ad_i hi, ad_f]; rfl
  ·funext k'; rw [ad_i hi]; rfl
 unfold ld
 rw [hend]
 show (pLd1 (vpo b (o + i * e + g)) H).bind k = k v
 have : pLd1 (vpo b (o + i * e + g)) H = some v := by
  simp only [pLd1, pAt, pCells, Option.bind_some, h2]
  rw [rd_cell h4 hi hg, hv]
 rw [this]; rfl
theorem w_rldF {k : Value → OV} {i g : Nat} {kk : IntKind} {v : Value} (h : Holds P H) [r : Rd P s e enc l] [E : Enc enc e] (hi : i < l.length) (hg : g < e) (hv : (enc l[i])[g]? = some v) (hk : wp (k v) Q) : wp (ld [.i e (.int kk (i : Int)), .f g] s H k) Q := by
 rw [rd_ldF h hi hg hv (.inl rfl)]; exact hk
theorem w_rld1 {k : Value → OV} {i : Nat} {kk : IntKind} {v : Value} {enc : α → List Value} (h : Holds P H) [r : Rd P s 1 enc l] [E : Enc enc 1] (hi : i < l.length) (hv : enc l[i] = [v]) (hk : wp (k v) Q) : wp (ld [.i 1 (.int kk (i : Int))] s H k) Q := by
 rw [rd_ldF (g := 0) (v := v) h hi (by omega) (by rw [hv]; rfl) (.inr ⟨rfl, rfl⟩)]; exact hk
theorem w_rldN {k : Value → OV} {i : Nat} {kk : IntKind} (h : Holds P H) [r : Rd P s e enc l] [E : Enc enc e] (hi : i < l.length) (hk : wp (k (.agg (enc l[i]).toArray)) Q) : wp (ldN e [.i e (.int kk (i : Int))] s H k) Q := by
 obtain ⟨b, o, ro, row, rfl, h2, h3, h4⟩ := rd_row (s := s) (enc := enc) (l := l) h hi
 unfold ldN
 rw [ad_i hi]
 have hm : (i + 1) * e ≤ l.length * e := Nat.mul_le_mul_right _ (by omega)
 rw [Nat.add_mul] at hm
 have : pLdN e (vpo b (o + i * e)) H = some (.agg (enc l[i]).toArray) := by
  simp only [pLdN, pAt, pCells, Option.bind_some, h2]
  rw [if_pos (by omega)]
  congr 3
  rw [← flat_at E.len l i hi, ← h4, List.drop_take, List.drop_drop, List.take_take, Nat.min_eq_left (by omega)]
 show wp ((pLdN e (vpo b (o + i * e)) H).bind k) Q
 rw [this]; exact hk
theorem rd_slice {lo hi : Option Value} {a b : Nat} (h : Holds P H) [r : Rd P s e enc l] [E : Enc enc e] (hlo : (lo = none ∧ a = 0) ∨ ∃ k, lo = some (.int k (a : Int))) (hhi : (hi = none ∧ b = l.length) ∨ ∃ k, hi = some (.int k (b : Int))) (h1 : a ≤ b) (h2 : b ≤ l.length) (h0 : 0 < l.length) :
  ∃ s', pSlice e s lo hi = some s' ∧ Rd P s' e enc ((l.take b).drop a) := by
 have hlen : ((l.take b).drop a).length = b - a := by rw [List.length_drop, List.length_take, Nat.min_eq_left h2]
 have hfl : (((l.take b).drop a).flatMap enc).length = (b - a) * e := by rw [flat_len E.len, hlen]
 have hsub : ((l.take b).drop a).flatMap enc = ((l.flatMap enc).drop (a * e)).take ((b - a) * e) := by
  have e2 : (l.drop a).take (b - a) = (l.take b).drop a := by rw [List.drop_take]
  rw [flat_drop E.len, ← e2]
  have gen : ∀ (m : List α) (k : Nat), k ≤ m.length → (m.take k).flatMap enc = (m.flatMap enc).take (k * e) := by
   intro m
   induction m with
   | nil => intro k hk; simp
   | cons x m ih =>
    intro k hk
    cases k with
    | zero => simp
    | succ k =>
     rw [List.take_succ_cons, List.flatMap_cons, List.flatMap_cons, ih k (by simpa using hk), List.take_append, E.len, List.take_of_length_le (l := enc x) (by rw [E.len, Nat.add_mul]; omega)]
     congr 2
     rw [Nat.add_mul, Nat.one_mul, Nat.add_sub_cancel]
  exact gen _ _ (by rw [List.length_drop]; omega)
 obtain ⟨h0, ⟨a0, c, rfl, hn, hc0, ha0⟩ | ⟨b0, o, ro, row, rfl, _⟩⟩ := r.rd h
 ·omega
 ·refine ⟨.slice (some ⟨b0, o + a * e, none⟩) (b - a) e, ?_, ⟨fun {H'} h' => ?_⟩⟩
  ·have hpos := E.pos
   have hab : (0 : Int) ≤ a ∧ (a : Int) ≤ b ∧ (b : Int) ≤ l.length := by omega
   rcases hlo with ⟨rfl, rfl⟩ | ⟨k1, rfl⟩ <;> rcases hhi with ⟨rfl, rfl⟩ | ⟨k2, rfl⟩ <;> simp only [pSlice, pInt?, Option.bind_some]
   ·rw [if_pos (by omega)]; simp [hpos]
   ·rw [if_pos (by omega)]; simp [hpos]
   ·rw [if_pos (by omega)]; simp [hpos]
   ·rw [if_pos (by omega)]; simp [hpos]
  ·obtain ⟨h0', hr⟩ := r.rd h'
   refine ⟨by rw [hfl, hlen], .inr ?_⟩
   rcases hr with ⟨a1, c1, e1, hn, _, _⟩ | ⟨b1, o1, ro1, row1, e1, g1, g2, g3⟩
   ·omega
   ·obtain ⟨rfl, rfl⟩ : b1 = b0 ∧ o1 = o := by
     have := e1; simp at this; exact ⟨this.1.symm, this.2.symm⟩
    have hm : b * e ≤ l.length * e := Nat.mul_le_mul_right _ h2
    have hm2 : a * e ≤ b * e := Nat.mul_le_mul_right _ h1
    have hm3 : (b - a) * e = b * e - a * e := Nat.sub_mul ..
    rw [hlen]
    refine ⟨b1, o1 + a * e, ro1, row1, rfl, g1, by omega, ?_⟩
    rw [hsub, ← g3, List.drop_take, List.drop_drop, List.take_take, Nat.min_eq_left (by omega)]
end
def fix (H0 : AH) : SP := fun h => h = fun i => H0.get i
theorem fix_holds (H0 : AH) : Holds (fix H0) H0 := ⟨_, rfl, fun i o h => h⟩
class Fx (P : SP) (H0 : AH) : Prop where
 fx : ∀ {H : AH}, Holds P H → ∀ b o, H0.get b = some o → H.get b = some o
instance Fx.refl (H0 : AH) : Fx (fix H0) H0 := ⟨by
 rintro H ⟨x, hx, hg⟩ b o hb
 have hx : x = _ := hx
 exact hg b o (by rw [hx]; exact hb)⟩
instance Fx.left (P Q : SP) (H0 : AH) [f : Fx P H0] : Fx (P * Q) H0 := ⟨fun h => f.fx h.left⟩
instance Fx.right (P Q : SP) (H0 : AH) [f : Fx Q H0] : Fx (P * Q) H0 := ⟨fun h => f.fx h.right⟩
theorem RowAbs.flat {α : Type} {R : α → List Value → Prop} {enc : α → List Value} (hf : ∀ x c, R x c → c = enc x) {l : List α} {row : List Value} (h : RowAbs R l row) : row = l.flatMap enc := by
 induction h with
 | nil => rfl
 | cons h1 _ ih => rw [hf _ _ h1, ih]; rfl
theorem Rd.arg {H0 : AH} {t : Ty} {enc : t.I → List Value} {l : List t.I} {v : Value} [E : Enc enc t.w] (hf : ∀ x c, Abs H0 t x c → c = enc x) (h : Abs H0 (.slice t) l [v]) : Rd (fix H0) v t.w enc l := ⟨fun {H} hH => by
 refine ⟨flat_len E.len l, ?_⟩
 rcases h with ⟨rfl, e⟩ | ⟨rfl, b, e⟩ | ⟨b, row, h1, e, h3, _⟩
 ·obtain rfl : v = .slice none 0 0 := by simpa using e
  exact .inl ⟨none, 0, rfl, rfl, fun _ => rfl, fun x hx => by cases hx⟩
 ·obtain rfl : v = .slice (some ⟨b, 0, none⟩) 0 0 := by simpa using e
  exact .inl ⟨_, 0, rfl, rfl, (fun h => by cases h), fun x hx => ⟨b, 0, (Option.some.inj hx).symm⟩⟩
 ·obtain rfl : v = .slice (some ⟨b, 0, none⟩) l.length t.w := by simpa using e
  have hrow := h3.flat hf
  refine .inr ⟨b, 0, true, row, rfl, (Fx.refl H0).fx hH b _ h1, ?_, ?_⟩
  ·rw [hrow, flat_len E.len]; omega
  ·rw [List.drop_zero, hrow, ← flat_len E.len l, List.take_length]⟩
section
variable {α : Type} {P R : SP} {H : AH} {e : Nat} {enc : α → List Value} {l m : List α} {s x : Value} {Q : Value → AH → Prop}
theorem w_rapp {bytes : Nat} {kk : Value × AH → OV} (h : Holds P H) [f : Ts P s α e enc l R] [rd : Rd R x e enc m] [E : Enc enc e] (hr : (l.length + m.length) * bytes ≤ room) (hb : 0 < bytes)
  (hk : ∀ v H', Holds (ts e enc v (l ++ m) * R) H' → wp (kk (v, H')) Q) : wp ((pApp e bytes s x H).bind kk) Q := by
 have h' : Holds (ts e enc s l * R) H := by rw [← f.eq]; exact h
 obtain ⟨hc, ⟨a, c, rfl, hn, _, hax⟩ | ⟨b, o, ro, row, rfl, hg, hle, hrow⟩⟩ := rd.rd h'.right
 ·have hm : m = [] := List.eq_nil_of_length_eq_zero hn
  subst hm
  have hpr : pRow e (.slice a 0 c) H = some (0, []) := by
   cases a with
   | none => simp [pRow]
   | some y => obtain ⟨b, o, rfl⟩ := hax y rfl; simp [pRow]
  unfold pApp
  rw [hpr]
  simp only [Option.bind_some]
  rw [if_pos ⟨rfl, E.pos⟩]
  rcases sl_open h' with ⟨rfl, h2, h3, h4⟩ | ⟨b', rfl, h2, h4⟩
  ·simp only [and_self, if_true, Option.bind_some]
   refine hk _ _ ?_
   rw [List.append_nil]; exact h'
  ·simp only [if_true, Option.bind_some]
   refine hk _ _ ?_
   rw [List.append_nil]; exact h'
 ·by_cases hm0 : m.length = 0
  ·have hm : m = [] := List.eq_nil_of_length_eq_zero hm0
   subst hm
   unfold pApp
   have hpr : pRow e (.slice (some ⟨b, o, none⟩) ([] : List α).length e) H = some (0, []) := by simp [pRow]
   rw [hpr]
   simp only [Option.bind_some]
   rw [if_pos ⟨rfl, E.pos⟩]
   rcases sl_open h' with ⟨rfl, h2, h3, h4⟩ | ⟨b', rfl, h2, h4⟩
   ·simp only [and_self, if_true, Option.bind_some]
    refine hk _ _ ?_
    rw [List.append_nil]; exact h'
   ·simp only [if_true, Option.bind_some]
    refine hk _ _ ?_
    rw [List.append_nil]; exact h'
  ·have hpr : pRow e (.slice (some ⟨b, o, none⟩) m.length e) H = some (m.length, m.flatMap enc) := by
    simp only [pRow, pCells, hg, Option.bind_some]
    rw [if_neg hm0, if_pos hle, hrow]
   have hall : (m.flatMap enc).all Value.oneCell' = true := by
    rw [List.all_eq_true]
    intro y hy
    obtain ⟨z, _, hz⟩ := List.mem_flatMap.1 hy
    exact List.all_eq_true.1 (E.one z) y hz
   have hroom : l.length + m.length ≤ (l.length + m.length) * bytes := Nat.le_mul_of_pos_right _ hb
   unfold pApp
   rw [hpr]
   simp only [Option.bind_some]
   rw [if_pos ⟨hall, E.pos⟩]
   have e1 : (l ++ m).length = l.length + m.length := by simp
   have e2 : (l ++ m).flatMap enc = l.flatMap enc ++ m.flatMap enc := by simp
   have hmul : (l.length + m.length) * e = l.length * e + m.length * e := Nat.add_mul ..
   rcases sl_open h' with ⟨rfl, h2, h3, h4⟩ | ⟨b', rfl, h2, h4⟩
   ·simp only [and_self, if_true]
    rw [h2, Nat.zero_add] at hr hroom
    rw [if_neg hm0, if_pos ⟨hr, by omega⟩]
    simp only [Option.bind_some]
    refine hk _ _ ?_
    unfold ts
    rw [e1, e2, h3, h2, List.nil_append, Nat.zero_add]
    exact sl_some hc (h4.push _)
   ·have hgb := h4.left.get
    have hpos := E.pos
    simp only
    rw [if_neg hm0, if_neg (by omega), hgb]
    simp only
    rw [if_pos ⟨trivial, by omega, hr, by omega⟩]
    simp only [Option.bind_some, List.drop_zero]
    rw [← h2, List.take_length]
    have h5 := h4.dead.push (.cells false (l.flatMap enc ++ m.flatMap enc))
    rw [AH.size_set] at h5
    refine hk _ _ ?_
    unfold ts
    rw [e1, e2]
    exact sl_some (by rw [List.length_append, h2, hc]; omega) h5
theorem replicate_flat {z : α} {zero : List Value} (hz : enc z = zero) : ∀ n : Nat, (List.replicate n zero).flatten = (List.replicate n z).flatMap enc := by
 intro n
 induction n with
 | zero => rfl
 | succ n ih => rw [List.replicate_succ, List.replicate_succ, List.flatten_cons, List.flatMap_cons, ih, hz]
theorem w_make {zero : List Value} {bytes n : Nat} {kk : Value × AH → OV} (z : α) (h : Holds P H) [E : Enc enc e] (hz : enc z = zero) (hr : n * bytes ≤ room) (hb : 0 < bytes) (hk : ∀ b H', Holds (ts e enc (vs b n e) (List.replicate n z) * P) H' → wp (kk (vs b n e, H')) Q) :
  wp ((pMake zero e bytes (vi n) (vi n) H).bind kk) Q := by
 have hroom : n ≤ n * bytes := Nat.le_mul_of_pos_right _ hb
 have hz2 : zero.length = e := by rw [← hz, E.len]
 unfold pMake
 simp only [Int.toNat_natCast]
 rw [if_pos ⟨by omega, trivial, hr, by omega, E.pos, hz2⟩]
 simp only [Option.bind_some]
 refine hk _ _ ?_
 have h2 := h.push (.cells false (List.replicate n zero).flatten)
 rw [replicate_flat hz] at h2 ⊢
 have h3 := ts_back (e := e) (enc := enc) (l := List.replicate n z) h2
 rw [List.length_replicate] at h3
 exact h3
end
class KeyE {κ : Type} [DecidableEq κ] (cl : outParam KCls) (ek : κ → Value) : Prop where
 eq : ∀ a b, keyEq cl (ek a) (ek b) = some (decide (a = b))
 ok : ∀ a, keyOK cl (ek a) = true
inductive Ents {κ : Type} (ek : κ → Value) : List (κ × Value) → List MapEntry → Prop
 | nil : Ents ek [] []
 | cons {p : κ × Value} {l : List (κ × Value)} {e : MapEntry} {es : List MapEntry} (h1 : e.key = ek p.1) (h2 : e.val = p.2) (k : Ents ek l es) : Ents ek (p :: l) (e :: es)
section
variable {κ : Type} [DecidableEq κ] {ek : κ → Value} {cl : KCls}
def mGet : List (κ × Value) → κ → Option Value
 | [], _ => none
 | p :: al, k => if k = p.1 then some p.2 else mGet al k
def mSet : List (κ × Value) → κ → Value → List (κ × Value)
 | [], k, v => [(k, v)]
 | p :: al, k, v => if k = p.1 then (k, v) :: al else p :: mSet al k v
theorem mGet_set (k : κ) (v : Value) (x : κ) : ∀ al, mGet (mSet al k v) x = if x = k then some v else mGet al x := by
 intro al
 induction al with
 | nil => simp only [mSet, mGet]
 | cons p al ih =>
  simp only [mSet]
  by_cases hk : k = p.1
  ·rw [if_pos hk]
   simp only [mGet]
   by_cases hx : x = k
   ·simp [hx]
   ·have : ¬ x = p.1 := by rw [← hk]; exact hx
    simp [hx, this]
  ·rw [if_neg hk]
   simp only [mGet, ih]
   by_cases hx : x = p.1
   ·have : ¬ x = k := by rw [hx]; exact fun h => hk h.symm
    simp [hx]
    intro h; exact absurd h.symm hk
   ·simp [hx]
theorem m_find [K : KeyE cl ek] {al : List (κ × Value)} {es : List MapEntry} (h : Ents ek al es) (k : κ) : ∀ i, ∃ r, findKey' cl (ek k) es i = some r ∧ r.map (·.2) = mGet al k := by
 induction h with
 | nil => intro i; exact ⟨none, rfl, rfl⟩
 | @cons p l e es h1 h2 _ ih =>
  intro i
  simp only [findKey', h1, K.eq, Option.bind_some, mGet]
  by_cases hp : k = p.1
  ·rw [if_pos (by simp [hp]), if_pos hp]
   exact ⟨_, rfl, by simp [h2]⟩
  ·rw [if_neg (by simp [hp]), if_neg hp]
   exact ih (i + 1)
theorem m_upd [K : KeyE cl ek] {al : List (κ × Value)} {es : List MapEntry} (h : Ents ek al es) (k : κ) (v : Value) : ∀ i, match findKey' cl (ek k) es i with
  | some (some (j, _)) => i ≤ j ∧ Ents ek (mSet al k v) (es.modify (j - i) fun e => { e with key := ek k, val := v })
  | some none => ∀ born, Ents ek (mSet al k v) (es ++ [{ key := ek k, val := v, born := born }])
  | none => False := by
 induction h with
 | nil => intro i born; exact .cons rfl rfl .nil
 | @cons p l e es h1 h2 hh ih =>
  intro i
  simp only [findKey', h1, K.eq, Option.bind_some, mSet]
  by_cases hp : k = p.1
  ·rw [if_pos (show decide (k = p.1) = true by simp [hp]), if_pos hp]
   refine ⟨Nat.le_refl _, ?_⟩
   simp only [Nat.sub_self]
   exact .cons rfl rfl hh
  ·rw [if_neg (show ¬ decide (k = p.1) = true by simp [hp]), if_neg hp]
   have hi := ih (i + 1)
   cases hf : findKey' cl (ek k) es (i + 1) with
   | none => rw [hf] at hi; exact hi
   | some r =>
    rw [hf] at hi
    cases r with
    | none => intro born; exact .cons h1 h2 (hi born)
    | some r =>
     obtain ⟨j, v'⟩ := r
     simp only at hi ⊢
     refine ⟨by omega, ?_⟩
     rw [show j - i = (j - (i + 1)) + 1 from by omega]
     exact .cons h1 h2 hi.2
def mpS (ek : κ → Value) (b : Nat) (f : κ → Option Value) : SP := ex fun g : List (κ × Value) × List MapEntry × Nat => pu (Ents ek g.1 g.2.1 ∧ ∀ k, mGet g.1 k = f k) * blk b (.map g.2.1 g.2.2)
class Mp (P : SP) (b : Nat) {κ : Type} [DecidableEq κ] (ek : κ → Value) (f : outParam (κ → Option Value)) (R : outParam SP) : Prop where
 eq : P = mpS ek b f * R
instance (priority := high) Mp.refl {κ : Type} [DecidableEq κ] (b : Nat) (ek : κ → Value) (f : κ → Option Value) : Mp (mpS ek b f) b ek f emp := ⟨(sep_emp _).symm⟩
instance Mp.left {κ : Type} [DecidableEq κ] (P Q R : SP) (b : Nat) (ek : κ → Value) (f : κ → Option Value) [h : Mp P b ek f R] : Mp (P * Q) b ek f (R * Q) := ⟨by rw [h.eq, sep_assoc]⟩
instance Mp.right {κ : Type} [DecidableEq κ] (P Q R : SP) (b : Nat) (ek : κ → Value) (f : κ → Option Value) [h : Mp Q b ek f R] : Mp (P * Q) b ek f (P * R) := ⟨by rw [h.eq, sep_left_comm]⟩
theorem mpS_new {R : SP} {H : AH} {b : Nat} (ek : κ → Value) (h : Holds (blk b (.map [] 0) * R) H) : Holds (mpS ek b (fun _ => none) * R) H :=
 Holds.ex.2 ⟨([], [], 0), by rw [sep_assoc]; exact Holds.pu.2 ⟨⟨.nil, fun _ => rfl⟩, h⟩⟩
theorem w_mlook {P R : SP} {H : AH} {b : Nat} {f : κ → Option Value} {zero : Value} {kk : Value → OV} {Q : Value → AH → Prop} [K : KeyE cl ek] (k : κ) (h : Holds P H) [m : Mp P b ek f R]
  (hk : wp (kk ((f k).getD zero)) Q) : wp ((pLookup cl zero (.map (some b)) (ek k) false H).bind kk) Q := by
 have h' : Holds (mpS ek b f * R) H := by rw [← m.eq]; exact h
 obtain ⟨⟨al, es, c⟩, h'⟩ := Holds.ex.1 h'
 rw [sep_assoc, Holds.pu] at h'
 obtain ⟨⟨he, hf⟩, h'⟩ := h'
 dsimp only at he hf h'
 obtain ⟨r, h1, h2⟩ := m_find he k 0
 refine w_bind ?_ hk
 unfold pLookup
 rw [if_pos (K.ok k)]
 simp only [pMapOf, h'.left.get, Option.bind_some, h1, Option.map_some]
 rw [← hf k, ← h2]
 cases r <;> rfl
theorem w_mset {P R : SP} {H : AH} {b : Nat} {f : κ → Option Value} {kk : AH → OV} {Q : Value → AH → Prop} [K : KeyE cl ek] (k : κ) (v : Value) (h : Holds P H) [m : Mp P b ek f R]
  (hk : ∀ H', Holds (mpS ek b (fun x => if x = k then some v else f x) * R) H' → wp (kk H') Q) : wp ((pUpdate cl (.map (some b)) (ek k) v H).bind kk) Q := by
 have h' : Holds (mpS ek b f * R) H := by rw [← m.eq]; exact h
 obtain ⟨⟨al, es, c⟩, h'⟩ := Holds.ex.1 h'
 rw [sep_assoc, Holds.pu] at h'
 obtain ⟨⟨he, hf⟩, h'⟩ := h'
 dsimp only at he hf h'
 have hu := m_upd he k v 0
 unfold pUpdate
 rw [if_pos (K.ok k)]
 simp only [h'.left.get]
 have fin : ∀ {es' : List MapEntry} {c' : Nat}, Ents ek (mSet al k v) es' → Holds (mpS ek b (fun x => if x = k then some v else f x) * R) (H.set b (.map es' c')) := fun {es'} {c'} he' =>
  Holds.ex.2 ⟨(mSet al k v, es', c'), by
   rw [sep_assoc]
   exact Holds.pu.2 ⟨⟨he', fun x => by rw [mGet_set, hf]⟩, h'.set _⟩⟩
 cases hf' : findKey' cl (ek k) es 0 with
 | none => rw [hf'] at hu; exact absurd hu id
 | some r =>
  rw [hf'] at hu
  cases r with
  | none =>
   simp only [Option.map_some, Option.bind_some]
   exact hk _ (fin (hu c))
  | some r =>
   obtain ⟨j, v'⟩ := r
   simp only [Option.map_some, Option.bind_some]
   exact hk _ (fin hu.2)
end
section
variable {cl : TCls} {w : Nat}
theorem shr61 : pBin cl .shr (vu w) (vw 61) = some (vu (w / 2305843009213693952)) := by
 have := bin_shr_u (cl := cl) (a := w) (k := .u64) (n := 61) (by omega)
 simpa using this
theorem shr32 : pBin cl .shr (vu w) (vw 32) = some (vu (w / 4294967296)) := by
 have := bin_shr_u (cl := cl) (a := w) (k := .u64) (n := 32) (by omega)
 simpa using this
theorem and_low (k : Nat) (hw : w < 18446744073709551616) (hk : 2 ^ k - 1 < 18446744073709551616) : pBin cl .and (vu w) (.int .u64 ((2 ^ k - 1 : Nat) : Int)) = some (vu (w % 2 ^ k)) := by
 have := bin_and (cl := cl) hw hk
 rw [Nat.and_two_pow_sub_one_eq_mod] at this
 exact this
theorem and61 (hw : w < 18446744073709551616) : pBin cl .and (vu w) (vw 2305843009213693951) = some (vu (w % 2305843009213693952)) := by
 have := and_low (cl := cl) 61 hw (by omega)
 simpa using this
theorem and32 (hw : w < 18446744073709551616) : pBin cl .and (vu w) (vw 4294967295) = some (vu (w % 4294967296)) := by
 have := and_low (cl := cl) 32 hw (by omega)
 simpa using this
theorem rem_l (n : Nat) (h : n ≠ 0) : pBin cl .rem (vu w) (.int .u64 (n : Int)) = some (vu (w % n)) := bin_rem_u h
theorem quo_l (n : Nat) (h : n ≠ 0) (hw : w < 18446744073709551616) : pBin cl .quo (vu w) (.int .u64 (n : Int)) = some (vu (w / n)) := bin_quo_u h hw
theorem mul_l (n : Nat) : pBin cl .mul (vu w) (.int .u64 (n : Int)) = some (vu (w * n % 18446744073709551616)) := bin_mul_u
theorem mul61 (h : w * 2305843009213693952 < 18446744073709551616) : pBin cl .mul (vu w) (vw 2305843009213693952) = some (vu (w * 2305843009213693952)) := by
 have := mul_l (cl := cl) (w := w) 2305843009213693952
 rw [Nat.mod_eq_of_lt h] at this
 simpa using this
theorem mul32 : pBin cl .mul (vu w) (vw 4294967296) = some (vu (w * 4294967296 % 18446744073709551616)) := by
 have := mul_l (cl := cl) (w := w) 4294967296
 simpa using this
theorem rem61 : pBin cl .rem (vu w) (vw 2305843009213693952) = some (vu (w % 2305843009213693952)) := by
 have := rem_l (cl := cl) (w := w) 2305843009213693952 (by omega)
 simpa using this
theorem quo61 (hw : w < 18446744073709551616) : pBin cl .quo (vu w) (vw 2305843009213693952) = some (vu (w / 2305843009213693952)) := by
 have := quo_l (cl := cl) (w := w) 2305843009213693952 (by omega) hw
 simpa using this
theorem rem32 : pBin cl .rem (vu w) (vw 4294967296) = some (vu (w % 4294967296)) := by
 have := rem_l (cl := cl) (w := w) 4294967296 (by omega)
 simpa using this
theorem quo32 (hw : w < 18446744073709551616) : pBin cl .quo (vu w) (vw 4294967296) = some (vu (w / 4294967296)) := by
 have := quo_l (cl := cl) (w := w) 4294967296 (by omega) hw
 simpa using this
theorem conv_iu {w : Nat} (hw : w < 9223372036854775808) : pConv (some .i64) (vu w) = some (vi (w : Int)) := by
 simp only [pConv]
 rw [wrap_i_of (by omega) (by omega)]
theorem conv_ui {n : Int} (h0 : 0 ≤ n) (h1 : n < 18446744073709551616) : pConv (some .u64) (vi n) = some (vu n.toNat) := by
 simp only [pConv]
 rw [wrap_u_of h0 h1]
 show _ = some (Value.int .u64 ((n.toNat : Nat) : Int))
 rw [Int.toNat_of_nonneg h0]
end
theorem neq_u {cl : TCls} {a b : Nat} : pBin cl .neq (vu a) (vu b) = some (vb (a != b)) := by
 rw [bin_neq]
 congr 2
 rw [Bool.eq_iff_iff]
 simp
 omega
theorem eql_u {cl : TCls} {a b : Nat} : pBin cl .eql (vu a) (vu b) = some (vb (a == b)) := by
 rw [bin_eql]
 congr 2
 rw [Bool.eq_iff_iff]
 simp
 omega
theorem add_u {cl : TCls} {a b : Nat} : pBin cl .add (vu a) (vu b) = some (vu ((a + b) % 18446744073709551616)) := by
 simp only [pBin, pInt, if_true]
 rw [wrap_u]
 simp
theorem eqCells3 (a b : Loc) : pBin (.flat 3) .eql (.agg #[vi a.1, vi a.2.1, vi a.2.2]) (.agg #[vi b.1, vi b.2.1, vi b.2.2]) = some (vb (a == b)) := by
 show (pEq (.flat 3) (.agg #[vi a.1, vi a.2.1, vi a.2.2]) (.agg #[vi b.1, vi b.2.1, vi b.2.2])).map (fun b => Value.bool b) = _
 simp only [pEq]
 rw [if_pos ⟨rfl, rfl⟩]
 simp only [eqCells, if_true, Option.map_some, Bool.and_true]
 rfl
theorem bin_mul_i {cl : TCls} {a b : Int} (h0 : -9223372036854775808 ≤ a * b) (h1 : a * b < 9223372036854775808) : pBin cl .mul (vi a) (vi b) = some (vi (a * b)) := by simp only [pBin, pInt, if_true, wrap_i_of h0 h1]
section
variable {cl : TCls} {k : IntKind} {a b : Int}
theorem lss_t (h : a < b) : pBin cl .lss (.int k a) (.int k b) = some (vb true) := by rw [bin_lss, decide_eq_true h]
theorem lss_f (h : ¬ a < b) : pBin cl .lss (.int k a) (.int k b) = some (vb false) := by rw [bin_lss, decide_eq_false h]
theorem leq_t (h : a ≤ b) : pBin cl .leq (.int k a) (.int k b) = some (vb true) := by rw [bin_leq, decide_eq_true h]
theorem leq_f (h : ¬ a ≤ b) : pBin cl .leq (.int k a) (.int k b) = some (vb false) := by rw [bin_leq, decide_eq_false h]
theorem gtr_t (h : b < a) : pBin cl .gtr (.int k a) (.int k b) = some (vb true) := by rw [bin_gtr, decide_eq_true h]
theorem gtr_f (h : ¬ b < a) : pBin cl .gtr (.int k a) (.int k b) = some (vb false) := by rw [bin_gtr, decide_eq_false h]
theorem geq_t (h : b ≤ a) : pBin cl .geq (.int k a) (.int k b) = some (vb true) := by rw [bin_geq, decide_eq_true h]
theorem geq_f (h : ¬ b ≤ a) : pBin cl .geq (.int k a) (.int k b) = some (vb false) := by rw [bin_geq, decide_eq_false h]
theorem eql_t (h : a = b) : pBin cl .eql (.int k a) (.int k b) = some (vb true) := by rw [bin_eql, beq_iff_eq.2 h]
theorem eql_f (h : ¬ a = b) : pBin cl .eql (.int k a) (.int k b) = some (vb false) := by rw [bin_eql, beq_eq_false_iff_ne.2 h]
theorem neq_t (h : ¬ a = b) : pBin cl .neq (.int k a) (.int k b) = some (vb true) := by rw [bin_neq, bne_iff_ne.2 h]
theorem neq_f (h : a = b) : pBin cl .neq (.int k a) (.int k b) = some (vb false) := by
 rw [bin_neq]
 simp [h]
end
theorem gB_y {c : Bool} {e : Option Value} {v : Value} (h : e = some v) : gB (vb c) c e = some v := by
 cases c <;> (rw [h]; rfl)
theorem gV_tt {v : Value} : gV (vb true) true v = some v := rfl
theorem gV_ff {v : Value} : gV (vb false) false v = some v := rfl
theorem gV_tf {v : Value} : gV (vb true) false v = some undef := rfl
theorem gV_ft {v : Value} : gV (vb false) true v = some undef := rfl
theorem gB_tf {e : Option Value} : gB (vb true) false e = some undef := rfl
theorem gB_ft {e : Option Value} : gB (vb false) true e = some undef := rfl
section
variable {H : AH} {e : Option (Value × AH)} {k : Value × AH → OV} {Q : Value → AH → Prop} {x : Option Value} {kv : Value → OV}
theorem w_gE_tt (h : wp (e.bind k) Q) : wp ((gE (vb true) true H e).bind k) Q := h
theorem w_gE_ff (h : wp (e.bind k) Q) : wp ((gE (vb false) false H e).bind k) Q := h
theorem w_gE_tf (h : wp (k (undef, H)) Q) : wp ((gE (vb true) false H e).bind k) Q := h
theorem w_gE_ft (h : wp (k (undef, H)) Q) : wp ((gE (vb false) true H e).bind k) Q := h
theorem w_onK_tt (h : wp (x.bind kv) Q) : wp ((onK (yv (vb true)) true x (some undef)).bind kv) Q := h
theorem w_onK_ff (h : wp (x.bind kv) Q) : wp ((onK (yv (vb false)) false x (some undef)).bind kv) Q := h
theorem w_onK_tf (h : wp (kv undef) Q) : wp ((onK (yv (vb true)) false x (some undef)).bind kv) Q := h
theorem w_onK_ft (h : wp (kv undef) Q) : wp ((onK (yv (vb false)) true x (some undef)).bind kv) Q := h
end
theorem gB_on (c : Bool) (e : Option Value) : gB (vb c) c e = e := by cases c <;> cases e <;> rfl
theorem gad_on {R : Type} (c : Bool) (k : Value → Option R) : ∀ (p : List Stp) (x : Value), gad (vb c) c p x k = ad p x k := by
 intro p
 induction p with
 | nil => intro x; rfl
 | cons s p ih => intro x; cases s <;> simp only [gad, ad, gB_on, ih]
theorem gad_off {R : Type} (c : Bool) (k : Value → Option R) (hk : ∀ x, k x = k undef) : ∀ (p : List Stp) (x : Value), gad (vb c) (!c) p x k = k undef := by
 intro p
 induction p with
 | nil => intro x; exact hk x
 | cons s p ih => intro x; cases c <;> cases s <;> exact ih undef
section
variable {H : AH} {p : List Stp} {x : Value} {k : Value → OV} {Q : Value → AH → Prop} {n : Nat}
theorem gld_on {R : Type} (c : Bool) (k : Value → Option R) : gld (vb c) c p x H k = ld p x H k := by simp only [gld, ld, gad_on, gB_on]
theorem gldN_on {R : Type} (c : Bool) (k : Value → Option R) : gldN (vb c) c n p x H k = ldN n p x H k := by simp only [gldN, ldN, gad_on, gB_on]
theorem gld_off {R : Type} (c : Bool) (k : Value → Option R) : gld (vb c) (!c) p x H k = k undef := by
 unfold gld
 rw [gad_off c _ (fun x => by cases c <;> rfl)]
 cases c <;> rfl
theorem gldN_off {R : Type} (c : Bool) (k : Value → Option R) : gldN (vb c) (!c) n p x H k = k undef := by
 unfold gldN
 rw [gad_off c _ (fun x => by cases c <;> rfl)]
 cases c <;> rfl
theorem w_gld_tt (h : wp (ld p x H k) Q) : wp (gld (vb true) true p x H k) Q := by rw [gld_on]; exact h
theorem w_gld_ff (h : wp (ld p x H k) Q) : wp (gld (vb false) false p x H k) Q := by rw [gld_on]; exact h
theorem w_gld_tf (h : wp (k undef) Q) : wp (gld (vb true) false p x H k) Q := by rw [show (false : Bool) = !true from rfl, gld_off]; exact h
theorem w_gld_ft (h : wp (k undef) Q) : wp (gld (vb false) true p x H k) Q := by rw [show gld (vb false) true p x H k = gld (vb false) (!false) p x H k from rfl, gld_off]; exact h
theorem w_gldN_tt (h : wp (ldN n p x H k) Q) : wp (gldN (vb true) true n p x H k) Q := by rw [gldN_on]; exact h
theorem w_gldN_ff (h : wp (ldN n p x H k) Q) : wp (gldN (vb false) false n p x H k) Q := by rw [gldN_on]; exact h
theorem w_gldN_tf (h : wp (k undef) Q) : wp (gldN (vb true) false n p x H k) Q := by rw [show gldN (vb true) false n p x H k = gldN (vb true) (!true) n p x H k from rfl, gldN_off]; exact h
theorem w_gldN_ft (h : wp (k undef) Q) : wp (gldN (vb false) true n p x H k) Q := by rw [show gldN (vb false) true n p x H k = gldN (vb false) (!false) n p x H k from rfl, gldN_off]; exact h
theorem w_gB_tt {e : Option Value} (h : wp (e.bind k) Q) : wp ((gB (vb true) true e).bind k) Q := by rw [gB_on]; exact h
theorem w_gB_ff {e : Option Value} (h : wp (e.bind k) Q) : wp ((gB (vb false) false e).bind k) Q := by rw [gB_on]; exact h
theorem w_cond_t {a b : OV} (h : wp a Q) : wp (condK (vb true) a b) Q := h
theorem w_cond_f {a b : OV} (h : wp b Q) : wp (condK (vb false) a b) Q := h
end
theorem gV_u {b : Bool} {v : Value} : gV undef b v = some undef := rfl
theorem gB_u {b : Bool} {e : Option Value} : gB undef b e = some undef := rfl
theorem gad_u {R : Type} (b : Bool) (k : Value → Option R) (hk : ∀ x, k x = k undef) : ∀ (p : List Stp) (x : Value), gad undef b p x k = k undef := by
 intro p
 induction p with
 | nil => intro x; exact hk x
 | cons s p ih => intro x; cases s <;> exact ih undef
theorem gld_u {R : Type} {b : Bool} {p : List Stp} {x : Value} {H : AH} (k : Value → Option R) : gld undef b p x H k = k undef := by
 unfold gld
 rw [gad_u b _ (fun x => rfl)]
 rfl
theorem w_gld_u {b : Bool} {p : List Stp} {x : Value} {H : AH} {k : Value → OV} {Q : Value → AH → Prop} (h : wp (k undef) Q) : wp (gld undef b p x H k) Q := by rw [gld_u]; exact h
class Gd (x : OV) (y : outParam OV) : Prop where
 go : ∀ {Q : Value → AH → Prop}, wp y Q → wp x Q
theorem gg {x y : OV} {Q : Value → AH → Prop} [g : Gd x y] (h : wp y Q) : wp x Q := g.go h
section
variable {a b v : Value} {k : Value → OV} {H : AH} {e : Option (Value × AH)} {e1 : Option Value} {ke : Value × AH → OV} {p : List Stp} {x : Value} {n : Nat} {c : Bool} {o1 o2 : OV}
instance : Gd ((pPick (vb true) a b).bind k) (k a) := ⟨w_bind (pick_t _ _)⟩
instance : Gd ((pPick (vb false) a b).bind k) (k b) := ⟨w_bind (pick_f _ _)⟩
instance : Gd ((gV (vb true) true v).bind k) (k v) := ⟨w_bind gV_tt⟩
instance : Gd ((gV (vb false) false v).bind k) (k v) := ⟨w_bind gV_ff⟩
instance : Gd ((gV (vb true) false v).bind k) (k undef) := ⟨w_bind gV_tf⟩
instance : Gd ((gV (vb false) true v).bind k) (k undef) := ⟨w_bind gV_ft⟩
instance : Gd ((gB (vb true) false e1).bind k) (k undef) := ⟨w_bind gB_tf⟩
instance : Gd ((gB (vb false) true e1).bind k) (k undef) := ⟨w_bind gB_ft⟩
instance : Gd ((gE (vb true) false H e).bind ke) (ke (undef, H)) := ⟨w_gE_tf⟩
instance : Gd ((gE (vb false) true H e).bind ke) (ke (undef, H)) := ⟨w_gE_ft⟩
instance : Gd ((gE (vb true) true H e).bind ke) (e.bind ke) := ⟨w_gE_tt⟩
instance : Gd ((gE (vb false) false H e).bind ke) (e.bind ke) := ⟨w_gE_ff⟩
instance : Gd ((onK (yv (vb true)) false e1 (some undef)).bind k) (k undef) := ⟨w_onK_tf⟩
instance : Gd ((onK (yv (vb false)) true e1 (some undef)).bind k) (k undef) := ⟨w_onK_ft⟩
instance : Gd ((onK (yv (vb true)) true e1 (some undef)).bind k) (e1.bind k) := ⟨w_onK_tt⟩
instance : Gd ((onK (yv (vb false)) false e1 (some undef)).bind k) (e1.bind k) := ⟨w_onK_ff⟩
instance : Gd (gld (vb true) true p x H k) (ld p x H k) := ⟨w_gld_tt⟩
instance : Gd (gld (vb false) false p x H k) (ld p x H k) := ⟨w_gld_ff⟩
instance : Gd (gld (vb true) false p x H k) (k undef) := ⟨w_gld_tf⟩
instance : Gd (gld (vb false) true p x H k) (k undef) := ⟨w_gld_ft⟩
instance : Gd (gldN (vb true) true n p x H k) (ldN n p x H k) := ⟨w_gldN_tt⟩
instance : Gd (gldN (vb false) false n p x H k) (ldN n p x H k) := ⟨w_gldN_ff⟩
instance : Gd (gldN (vb true) false n p x H k) (k undef) := ⟨w_gldN_tf⟩
instance : Gd (gldN (vb false) true n p x H k) (k undef) := ⟨w_gldN_ft⟩
instance : Gd ((gB (vb true) true e1).bind k) (e1.bind k) := ⟨w_gB_tt⟩
instance : Gd ((gB (vb false) false e1).bind k) (e1.bind k) := ⟨w_gB_ff⟩
instance : Gd ((pUn .not (vb c)).bind k) (k (vb (!c))) := ⟨w_bind un_not⟩
instance : Gd (condK (vb true) o1 o2) o1 := ⟨w_cond_t⟩
instance : Gd (condK (vb false) o1 o2) o2 := ⟨w_cond_f⟩
instance : Gd ((gV undef c v).bind k) (k undef) := ⟨w_bind gV_u⟩
instance : Gd ((gB undef c e1).bind k) (k undef) := ⟨w_bind gB_u⟩
instance : Gd (gld undef c p x H k) (k undef) := ⟨w_gld_u⟩
class Gh (x : OV) (y : outParam OV) : Prop where
 go : ∀ {Q : Value → AH → Prop}, wp y Q → wp x Q
theorem gh {x y : OV} {Q : Value → AH → Prop} [g : Gh x y] (h : wp y Q) : wp x Q := g.go h
instance : Gh ((pPick (vb true) a b).bind k) (k a) := ⟨w_bind (pick_t _ _)⟩
instance : Gh ((pPick (vb false) a b).bind k) (k b) := ⟨w_bind (pick_f _ _)⟩
instance : Gh ((gV (vb true) true v).bind k) (k v) := ⟨w_bind gV_tt⟩
instance : Gh ((gV (vb false) false v).bind k) (k v) := ⟨w_bind gV_ff⟩
instance : Gh ((gV (vb true) false v).bind k) (k undef) := ⟨w_bind gV_tf⟩
instance : Gh ((gV (vb false) true v).bind k) (k undef) := ⟨w_bind gV_ft⟩
instance : Gh ((gB (vb true) false e1).bind k) (k undef) := ⟨w_bind gB_tf⟩
instance : Gh ((gB (vb false) true e1).bind k) (k undef) := ⟨w_bind gB_ft⟩
instance : Gh ((gE (vb true) false H e).bind ke) (ke (undef, H)) := ⟨w_gE_tf⟩
instance : Gh ((gE (vb false) true H e).bind ke) (ke (undef, H)) := ⟨w_gE_ft⟩
instance : Gh ((gE (vb true) true H e).bind ke) (e.bind ke) := ⟨w_gE_tt⟩
instance : Gh ((gE (vb false) false H e).bind ke) (e.bind ke) := ⟨w_gE_ff⟩
instance : Gh ((onK (yv (vb true)) false e1 (some undef)).bind k) (k undef) := ⟨w_onK_tf⟩
instance : Gh ((onK (yv (vb false)) true e1 (some undef)).bind k) (k undef) := ⟨w_onK_ft⟩
instance : Gh ((onK (yv (vb true)) true e1 (some undef)).bind k) (e1.bind k) := ⟨w_onK_tt⟩
instance : Gh ((onK (yv (vb false)) false e1 (some undef)).bind k) (e1.bind k) := ⟨w_onK_ff⟩
end
structure Mu where
 V : Loc → Nat
 E : List Ev
 N : Nat
abbrev Mu.log (μ : Mu) (who kind : Int) (at' : Loc) : Mu := { μ with E := μ.E ++ [⟨who, kind, at'⟩], N := μ.N + 1 }
abbrev Mu.put (μ : Mu) (at' : Loc) (v : Nat) : Mu := { μ with V := fun l => if l = at' then v else μ.V l }
def alGet (al : List (Loc × Nat)) (l : Loc) : Nat := ((al.find? fun p => p.1 == l).map (·.2)).getD 0
def entOf (p : Loc × Nat) (e : MapEntry) : Prop := e.key = encL p.1 ∧ e.val = .agg #[vu p.2]
inductive EntsOf : List (Loc × Nat) → List MapEntry → Prop
 | nil : EntsOf [] []
 | cons {p : Loc × Nat} {l : List (Loc × Nat)} {e : MapEntry} {es : List MapEntry} (h : entOf p e) (k : EntsOf l es) : EntsOf (p :: l) (e :: es)
theorem keyEq_loc (a b : Loc) : keyEq (.flat 3) (encL a) (encL b) = some (a == b) := by
 simp only [keyEq, encL]
 rw [if_pos ⟨rfl, rfl⟩]
 simp only [eqCells, if_true, Option.map_some, Bool.and_true]
 rfl
theorem find_ents {al : List (Loc × Nat)} {es : List MapEntry} (h : EntsOf al es) (l : Loc) : ∀ i, ∃ r, findKey' (.flat 3) (encL l) es i = some r ∧ (match r with
  | some (j, v) => v = .agg #[vu (alGet al l)] ∧ i ≤ j ∧ (∃ p, al[j - i]? = some p ∧ p.1 = l) ∧ ∀ q, q < j - i → ∀ p, al[q]? = some p → p.1 ≠ l
  | none => alGet al l = 0 ∧ ∀ p ∈ al, p.1 ≠ l) := by
 induction h with
 | nil => intro i; exact ⟨none, rfl, rfl, by simp⟩
 | @cons p al e es h k ih =>
  intro i
  simp only [findKey']
  rw [h.1, keyEq_loc]
  simp only [Option.bind_some]
  by_cases hp : p.1 = l
  ·have e1 : (l == p.1) = true := by simp [hp]
   rw [if_pos e1]
   refine ⟨_, rfl, ?_, Nat.le_refl _, ⟨p, by simp, hp⟩, fun q hq => by omega⟩
   rw [h.2]
   simp [alGet, hp]
  ·have e1 : ¬ ((l == p.1) = true) := by simp; exact fun h => hp h.symm
   rw [if_neg e1]
   obtain ⟨r, h1, h2⟩ := ih (i + 1)
   have hg : alGet (p :: al) l = alGet al l := by simp [alGet, hp]
   refine ⟨r, h1, ?_⟩
   cases r with
   | none =>
    simp only at h2 ⊢
    rw [hg]
    exact ⟨h2.1, fun q hq => by
     rcases List.mem_cons.1 hq with rfl | hq
     ·exact hp
     ·exact h2.2 q hq⟩
   | some r =>
    obtain ⟨j, v⟩ := r
    simp only at h2 ⊢
    rw [hg]
    obtain ⟨a1, a2, ⟨p', a3, a4⟩, a5⟩ := h2
    refine ⟨a1, by omega, ⟨p', ?_, a4⟩, fun q hq p'' hp'' => ?_⟩
    ·rw [show j - i = (j - (i + 1)) + 1 from by omega]; exact a3
    ·cases q with
     | zero => simp at hp''; rw [← hp'']; exact hp
     | succ q => exact a5 q (by omega) p'' (by simpa using hp'')
def alSet : List (Loc × Nat) → Loc → Nat → List (Loc × Nat)
 | [], l, v => [(l, v)]
 | p :: al, l, v => if p.1 = l then (l, v) :: al else p :: alSet al l v
theorem alGet_cons (p : Loc × Nat) (al : List (Loc × Nat)) (l : Loc) : alGet (p :: al) l = if p.1 = l then p.2 else alGet al l := by
 unfold alGet
 by_cases h : p.1 = l
 ·simp [h]
 ·simp [h]
theorem alGet_set (l : Loc) (v : Nat) (x : Loc) : ∀ al, alGet (alSet al l v) x = if x = l then v else alGet al x := by
 intro al
 induction al with
 | nil =>
  simp only [alSet, alGet_cons]
  by_cases h : l = x
  ·simp [h]
  ·have : ¬ x = l := fun e => h e.symm
   simp [h, this]
 | cons p al ih =>
  simp only [alSet]
  by_cases hp : p.1 = l
  ·rw [if_pos hp, alGet_cons, alGet_cons]
   by_cases h : l = x
   ·simp [h]
   ·have h2 : ¬ x = l := fun e => h e.symm
    simp [h, h2, hp]
  ·rw [if_neg hp, alGet_cons, alGet_cons, ih]
   by_cases h : p.1 = x
   ·have h2 : ¬ x = l := fun e => hp (h.trans e)
    simp [h, h2]
   ·simp [h]
theorem upd_ents {al : List (Loc × Nat)} {es : List MapEntry} (h : EntsOf al es) (l : Loc) (v : Nat) : ∀ i, match findKey' (.flat 3) (encL l) es i with
  | some (some (j, _)) => i ≤ j ∧ EntsOf (alSet al l v) (es.modify (j - i) fun e => { e with key := encL l, val := .agg #[vu v] })
  | some none => ∀ born, EntsOf (alSet al l v) (es ++ [{ key := encL l, val := .agg #[vu v], born := born }])
  | none => False := by
 induction h with
 | nil => intro i born; exact .cons ⟨rfl, rfl⟩ .nil
 | @cons p al e es h k ih =>
  intro i
  simp only [findKey']
  rw [h.1, keyEq_loc]
  simp only [Option.bind_some]
  by_cases hp : p.1 = l
  ·have e1 : (l == p.1) = true := by simp [hp]
   rw [if_pos e1]
   simp only [alSet, if_pos hp]
   refine ⟨Nat.le_refl _, ?_⟩
   simp only [Nat.sub_self]
   exact .cons ⟨rfl, rfl⟩ k
  ·have e1 : ¬ ((l == p.1) = true) := by simp; exact fun h => hp h.symm
   rw [if_neg e1]
   have hi := ih (i + 1)
   simp only [alSet, if_neg hp]
   cases hf : findKey' (.flat 3) (encL l) es (i + 1) with
   | none => rw [hf] at hi; exact hi
   | some r =>
    rw [hf] at hi
    cases r with
    | none => intro born; exact .cons h (hi born)
    | some r =>
     obtain ⟨j, v'⟩ := r
     simp only at hi ⊢
     refine ⟨by omega, ?_⟩
     rw [show j - i = (j - (i + 1)) + 1 from by omega]
     exact .cons h hi.2
section
variable {P P' R : SP} {H : AH} {c ck : Nat} {es : List MapEntry} {al : List (Loc × Nat)} {Q : Value → AH → Prop}
theorem w_look {k : Value → OV} {at' : Loc} (ha : EntsOf al es) (h : Holds P H) [i : Hs P c (.map es ck)] (hk : wp (k (.agg #[vu (alGet al at')])) Q) : wp ((pLookup (.flat 3) (.agg #[vw 0]) (.map (some c)) (encL at') false H).bind k) Q := by
 have hg := i.get h
 obtain ⟨r, h1, h2⟩ := find_ents ha at' 0
 refine w_bind ?_ hk
 unfold pLookup
 rw [if_pos (show keyOK (.flat 3) (encL at') = true from rfl)]
 simp only [pMapOf, hg, Option.bind_some, h1, Option.map_some]
 cases r with
 | none => simp only at h2 ⊢; rw [h2.1]; rfl
 | some r => simp only at h2 ⊢; rw [h2.1]; rfl
theorem w_upd {k : AH → OV} {at' : Loc} {v : Nat} (ha : EntsOf al es) (h : Holds P H) [i : Hs P c (.map es ck)] (hk : ∀ es' ck' H', EntsOf (alSet al at' v) es' → (∀ P', Up P c (.map es' ck') P' → Holds P' H') → wp (k H') Q) :
  wp ((pUpdate (.flat 3) (.map (some c)) (encL at') (.agg #[vu v]) H).bind k) Q := by
 have hg := i.get h
 have hu := upd_ents ha at' v 0
 unfold pUpdate
 rw [if_pos (show keyOK (.flat 3) (encL at') = true from rfl)]
 simp only [hg]
 cases hf : findKey' (.flat 3) (encL at') es 0 with
 | none => rw [hf] at hu; exact absurd hu id
 | some r =>
  rw [hf] at hu
  cases r with
  | none =>
   simp only [Option.map_some, Option.bind_some]
   exact hk _ _ _ (hu ck) fun P' u => u.set h
  | some r =>
   obtain ⟨j, v'⟩ := r
   simp only [Option.map_some, Option.bind_some]
   exact hk _ _ _ hu.2 fun P' u => u.set h
end
def memP (m : Nat) (μ : Mu) : SP := ex fun g : Nat × Value × List (Loc × Nat) × List MapEntry × Nat =>
 pu (EntsOf g.2.2.1 g.2.2.2.1 ∧ (∀ l, alGet g.2.2.1 l = μ.V l) ∧ μ.E.length ≤ μ.N) * (blk m (.cells false [.map (some g.1), g.2.1]) * (blk g.1 (.map g.2.2.2.1 g.2.2.2.2) * sl 5 g.2.1 μ.E.length (evCells μ.E)))
theorem mem_note (m : Nat) (μ : Mu) (who kind : Int) (at' : Loc) (hE : μ.N < 1099511627776) : Sp n_mem_Mem_note [vp m, vi who, vi kind, encL at'] (memP m μ) (fun _ : Unit => .tuple #[]) (fun _ => memP m (μ.log who kind at')) := by
 refine sp_of fun R H h => ?_
 obtain ⟨⟨c, l, al, es, ck⟩, h⟩ := Holds.ex.1 h
 rw [sep_assoc, Holds.pu] at h
 obtain ⟨hp, h⟩ := h
 dsimp only at h hp
 refine wp_of (fun r => mem_Mem_note_of _ _ _ _ H) ?_
 refine w_new (cs := [vi at'.1, vi at'.2.1, vi at'.2.2]) h fun b0 H1 h1 => ?_
 refine w_ld h1 end_nf rfl ?_
 refine w_LdN h1 ?_
 refine w_mkS (cs := [vi who, vi kind, vi at'.1, vi at'.2.1, vi at'.2.2]) rfl ?_
 refine w_mkR (cs := [vi who, vi kind, vi at'.1, vi at'.2.1, vi at'.2.2]) h1 rfl fun b1 H2 h2 => ?_
 have hl := hp.2.2
 refine w_app h2 rfl (by omega) (by omega) rfl (by unfold room; omega) fun a' c' H3 h3 => ?_
 refine w_st h3 end_nf rfl rfl fun H4 h4 => ?_
 refine w_ret ⟨(), rfl, ?_⟩
 refine Holds.ex.2 ⟨(c, .slice a' (μ.E.length + 1) c', al, es, ck), ?_⟩
 rw [sep_assoc, Holds.pu]
 refine ⟨⟨hp.1, hp.2.1, by simp; exact hp.2.2⟩, ?_⟩
 have e1 : (μ.log who kind at').E.length = μ.E.length + 1 := by simp [Mu.log]
 have e2 : evCells (μ.log who kind at').E = evCells μ.E ++ [vi who, vi kind, vi at'.1, vi at'.2.1, vi at'.2.2] := by rw [Mu.log, evCells_snoc]; rfl
 rw [e1, e2]
 exact h4.to
theorem mem_peek (m : Nat) (μ : Mu) (at' : Loc) : Sp n_mem_Mem_Peek [vp m, encL at'] (memP m μ) (fun _ : Unit => vu (μ.V at')) (fun _ => memP m μ) := by
 refine sp_of fun R H h => ?_
 have h0 := h
 obtain ⟨⟨c, l, al, es, ck⟩, h⟩ := Holds.ex.1 h
 rw [sep_assoc, Holds.pu] at h
 obtain ⟨hp, h⟩ := h
 dsimp only at h hp
 refine wp_of (fun r => mem_Mem_Peek_of _ _ H) ?_
 refine w_new (cs := [vi at'.1, vi at'.2.1, vi at'.2.2]) h fun b0 H1 h1 => ?_
 refine w_ld h1 end_nf rfl ?_
 refine w_LdN h1 ?_
 refine w_look (at' := at') hp.1 h1 ?_
 refine w_bind (v := vu (alGet al at')) rfl ?_
 refine w_ret ⟨(), by rw [hp.2.1], ?_⟩
 refine Holds.ex.2 ⟨(c, l, al, es, ck), ?_⟩
 rw [sep_assoc, Holds.pu]
 exact ⟨hp, h1.to⟩
theorem memP_put {m : Nat} {μ : Mu} {at' : Loc} {v : Nat} {R P : SP} {H : AH} {c : Nat} {l : Value} {al : List (Loc × Nat)} {es : List MapEntry} {k : AH → OV} {Q : Value → AH → Prop} {ck : Nat}
  (hp : EntsOf al es ∧ (∀ l, alGet al l = μ.V l) ∧ μ.E.length ≤ μ.N) (h : Holds P H) [f : Fr P (blk m (.cells false [.map (some c), l]) * (blk c (.map es ck) * sl 5 l μ.E.length (evCells μ.E))) R] [i : Hs P c (.map es ck)]
  (hk : ∀ H', Holds (memP m (μ.put at' v) * R) H' → wp (k H') Q) : wp ((pUpdate (.flat 3) (.map (some c)) (encL at') (.agg #[vu v]) H).bind k) Q := by
 have h' := Holds.fr (f := f) h
 refine w_upd hp.1 h' fun es' ck' H' he hh => hk H' ?_
 have h2 := hh _ inferInstance
 refine Holds.ex.2 ⟨(c, l, alSet al at' v, es', ck'), ?_⟩
 rw [sep_assoc, Holds.pu]
 refine ⟨⟨he, fun x => ?_, hp.2.2⟩, h2.to⟩
 dsimp only
 rw [alGet_set, hp.2.1]
theorem mem_store (m : Nat) (μ : Mu) (who : Int) (at' : Loc) (v : Nat) (hE : μ.N < 1099511627776) : Sp n_mem_Mem_Store [vp m, vi who, encL at', vu v] (memP m μ) (fun _ : Unit => .tuple #[]) (fun _ => memP m ((μ.log who 2 at').put at' v)) := by
 refine sp_of fun R H h => ?_
 refine wp_of (fun r => mem_Mem_Store_of _ _ _ _ H) ?_
 refine w_new (cs := [vi at'.1, vi at'.2.1, vi at'.2.2]) h fun b0 H1 h1 => ?_
 refine w_LdN h1 ?_
 refine w_call h1 (mem_note m μ who 2 at' hE) fun _ H2 h2 => ?_
 obtain ⟨⟨c, l, al, es, ck⟩, h2⟩ := Holds.ex.1 h2
 rw [sep_assoc, Holds.pu] at h2
 obtain ⟨hp, h2⟩ := h2
 dsimp only at h2 hp
 refine w_ld h2 end_nf rfl ?_
 refine w_LdN h2 ?_
 refine w_mkS (cs := [vu v]) rfl ?_
 refine memP_put (m := m) (l := l) (μ := μ.log who 2 at') (at' := at') (v := v) hp h2 fun H3 h3 => ?_
 exact w_ret ⟨(), rfl, h3.to⟩
theorem mem_turn (m : Nat) (μ : Mu) (who : Int) (at' : Loc) (v : Nat) (hE : μ.N < 1099511627776) : Sp n_mem_Mem_turn [vp m, vi who, encL at', vu v] (memP m μ) (fun _ : Unit => vu (μ.V at')) (fun _ => memP m ((μ.log who 3 at').put at' v)) := by
 refine sp_of fun R H h => ?_
 refine wp_of (fun r => mem_Mem_turn_of _ _ _ _ H) ?_
 refine w_new (cs := [vi at'.1, vi at'.2.1, vi at'.2.2]) h fun b0 H1 h1 => ?_
 refine w_LdN h1 ?_
 refine w_call h1 (mem_peek m μ at') fun _ H2 h2 => ?_
 refine w_LdN h2 ?_
 refine w_call h2 (mem_note m μ who 3 at' hE) fun _ H3 h3 => ?_
 obtain ⟨⟨c, l, al, es, ck⟩, h3⟩ := Holds.ex.1 h3
 rw [sep_assoc, Holds.pu] at h3
 obtain ⟨hp, h3⟩ := h3
 dsimp only at h3 hp
 refine w_ld h3 end_nf rfl ?_
 refine w_LdN h3 ?_
 refine w_mkS (cs := [vu v]) rfl ?_
 refine memP_put (m := m) (l := l) (μ := μ.log who 3 at') (at' := at') (v := v) hp h3 fun H4 h4 => ?_
 exact w_ret ⟨(), rfl, h4.to⟩
theorem mem_load (m : Nat) (μ : Mu) (who : Int) (at' : Loc) (hE : μ.N < 1099511627776) : Sp n_mem_Mem_Load [vp m, vi who, encL at'] (memP m μ) (fun _ : Unit => vu (μ.V at')) (fun _ => memP m (μ.log who 1 at')) := by
 refine sp_of fun R H h => ?_
 refine wp_of (fun r => mem_Mem_Load_of _ _ _ H) ?_
 refine w_new (cs := [vi at'.1, vi at'.2.1, vi at'.2.2]) h fun b0 H1 h1 => ?_
 refine w_LdN h1 ?_
 refine w_call h1 (mem_note m μ who 1 at' hE) fun _ H2 h2 => ?_
 refine w_LdN h2 ?_
 refine w_call h2 (mem_peek m (μ.log who 1 at') at') fun _ H3 h3 => ?_
 exact w_ret ⟨(), rfl, h3.to⟩
abbrev Mu.swap (μ : Mu) (who : Int) (at' : Loc) (was now : Nat) : Mu := if μ.V at' = was then (μ.log who 3 at').put at' now else μ.log who 4 at'
theorem mem_swap (m : Nat) (μ : Mu) (who : Int) (at' : Loc) (was now : Nat) (hE : μ.N < 1099511627776) :
  Sp n_mem_Mem_Swap [vp m, vi who, encL at', vu was, vu now] (memP m μ) (fun _ : Unit => vb (decide (μ.V at' = was))) (fun _ => memP m (μ.swap who at' was now)) := by
 refine sp_of fun R H h => ?_
 refine wp_of (fun r => mem_Mem_Swap_of _ _ _ _ _ H) ?_
 refine w_new (cs := [vi at'.1, vi at'.2.1, vi at'.2.2]) h fun b0 H1 h1 => ?_
 refine w_LdN h1 ?_
 refine w_call h1 (mem_peek m μ at') fun _ H2 h2 => ?_
 refine w_bind neq_u ?_
 unfold Mu.swap
 refine w_cond (fun hc => ?_) (fun hc => ?_)
 ·have hc : ¬ μ.V at' = was := by simpa using hc
  rw [if_neg hc, decide_eq_false hc]
  refine w_LdN h2 ?_
  refine w_call h2 (mem_note m μ who 4 at' hE) fun _ H3 h3 => ?_
  exact w_ret ⟨(), rfl, h3.to⟩
 ·have hc : μ.V at' = was := by simpa using hc
  rw [if_pos hc, decide_eq_true hc]
  refine w_LdN h2 ?_
  refine w_call h2 (mem_turn m μ who at' now hE) fun _ H3 h3 => ?_
  exact w_ret ⟨(), rfl, h3.to⟩
theorem mem_add (m : Nat) (μ : Mu) (who : Int) (at' : Loc) (n : Nat) (hE : μ.N < 1099511627776) :
  Sp n_mem_Mem_Add [vp m, vi who, encL at', vu n] (memP m μ) (fun _ : Unit => vu (μ.V at')) (fun _ => memP m ((μ.log who 3 at').put at' ((μ.V at' + n) % 18446744073709551616))) := by
 refine sp_of fun R H h => ?_
 refine wp_of (fun r => mem_Mem_Add_of _ _ _ _ H) ?_
 repeat (first | refine w_newC ‹_› fun _ _ _ => ?_ | refine w_new ‹_› fun _ _ _ => ?_ | refine w_map ‹_› fun _ _ _ => ?_ | refine w_LdN ‹_› ?_ | refine w_ld ‹_› end_nf rfl ?_ | refine w_ld ‹_› end_f0 rfl ?_ | refine w_ldN ‹_› end_nf ?_ | refine w_ldN ‹_› end_f0 ?_ | refine w_ad end_nf ?_ | refine w_ad end_f0 ?_ | refine w_Ld1 ‹_› rfl ?_ | refine w_st ‹_› end_nf rfl rfl fun _ _ => ?_ | refine w_st ‹_› end_f0 rfl rfl fun _ _ => ?_ | refine w_St ‹_› rfl rfl fun _ _ => ?_ | refine w_S ?_ | refine w_R ‹_› fun _ _ _ => ?_ | refine w_eqK_rfl ?_ | refine w_eq1 ‹_› ‹_› rfl ?_ | refine w_eqN ‹_› ‹_› rfl ?_ | refine w_len ?_)
 refine w_call (by assumption) (mem_peek m μ at') fun _ _ _ => ?_
 repeat (first | refine w_newC ‹_› fun _ _ _ => ?_ | refine w_new ‹_› fun _ _ _ => ?_ | refine w_map ‹_› fun _ _ _ => ?_ | refine w_LdN ‹_› ?_ | refine w_ld ‹_› end_nf rfl ?_ | refine w_ld ‹_› end_f0 rfl ?_ | refine w_ldN ‹_› end_nf ?_ | refine w_ldN ‹_› end_f0 ?_ | refine w_ad end_nf ?_ | refine w_ad end_f0 ?_ | refine w_Ld1 ‹_› rfl ?_ | refine w_st ‹_› end_nf rfl rfl fun _ _ => ?_ | refine w_st ‹_› end_f0 rfl rfl fun _ _ => ?_ | refine w_St ‹_› rfl rfl fun _ _ => ?_ | refine w_S ?_ | refine w_R ‹_› fun _ _ _ => ?_ | refine w_eqK_rfl ?_ | refine w_eq1 ‹_› ‹_› rfl ?_ | refine w_eqN ‹_› ‹_› rfl ?_ | refine w_len ?_)
 refine w_bind (add_u) ?_
 refine w_call (by assumption) (mem_turn m μ who at' _ hE) fun _ _ _ => ?_
 exact w_ret ⟨(), rfl, Holds.to (by assumption)⟩
theorem mem_read (m : Nat) (μ : Mu) (who : Int) (at' : Loc) (hE : μ.N < 1099511627776) :
  Sp n_mem_Mem_Read [vp m, vi who, encL at'] (memP m μ) (fun _ : Unit => .tuple #[]) (fun _ => memP m (μ.log who 5 at')) := by
 refine sp_of fun R H h => ?_
 refine wp_of (fun r => mem_Mem_Read_of _ _ _ H) ?_
 repeat (first | refine w_newC ‹_› fun _ _ _ => ?_ | refine w_new ‹_› fun _ _ _ => ?_ | refine w_map ‹_› fun _ _ _ => ?_ | refine w_LdN ‹_› ?_ | refine w_ld ‹_› end_nf rfl ?_ | refine w_ld ‹_› end_f0 rfl ?_ | refine w_ldN ‹_› end_nf ?_ | refine w_ldN ‹_› end_f0 ?_ | refine w_ad end_nf ?_ | refine w_ad end_f0 ?_ | refine w_Ld1 ‹_› rfl ?_ | refine w_st ‹_› end_nf rfl rfl fun _ _ => ?_ | refine w_st ‹_› end_f0 rfl rfl fun _ _ => ?_ | refine w_St ‹_› rfl rfl fun _ _ => ?_ | refine w_S ?_ | refine w_R ‹_› fun _ _ _ => ?_ | refine w_eqK_rfl ?_ | refine w_eq1 ‹_› ‹_› rfl ?_ | refine w_eqN ‹_› ‹_› rfl ?_ | refine w_len ?_)
 refine w_call (by assumption) (mem_note m μ who 5 at' hE) fun _ _ _ => ?_
 exact w_ret ⟨(), rfl, Holds.to (by assumption)⟩
theorem mem_write (m : Nat) (μ : Mu) (who : Int) (at' : Loc) (hE : μ.N < 1099511627776) :
  Sp n_mem_Mem_Write [vp m, vi who, encL at'] (memP m μ) (fun _ : Unit => .tuple #[]) (fun _ => memP m (μ.log who 6 at')) := by
 refine sp_of fun R H h => ?_
 refine wp_of (fun r => mem_Mem_Write_of _ _ _ H) ?_
 repeat (first | refine w_newC ‹_› fun _ _ _ => ?_ | refine w_new ‹_› fun _ _ _ => ?_ | refine w_map ‹_› fun _ _ _ => ?_ | refine w_LdN ‹_› ?_ | refine w_ld ‹_› end_nf rfl ?_ | refine w_ld ‹_› end_f0 rfl ?_ | refine w_ldN ‹_› end_nf ?_ | refine w_ldN ‹_› end_f0 ?_ | refine w_ad end_nf ?_ | refine w_ad end_f0 ?_ | refine w_Ld1 ‹_› rfl ?_ | refine w_st ‹_› end_nf rfl rfl fun _ _ => ?_ | refine w_st ‹_› end_f0 rfl rfl fun _ _ => ?_ | refine w_St ‹_› rfl rfl fun _ _ => ?_ | refine w_S ?_ | refine w_R ‹_› fun _ _ _ => ?_ | refine w_eqK_rfl ?_ | refine w_eq1 ‹_› ‹_› rfl ?_ | refine w_eqN ‹_› ‹_› rfl ?_ | refine w_len ?_)
 refine w_call (by assumption) (mem_note m μ who 6 at' hE) fun _ _ _ => ?_
 exact w_ret ⟨(), rfl, Holds.to (by assumption)⟩
theorem Sp.imp {α : Type} {f : Nat} {args : List Value} {P : SP} {v : α → Value} {Q Q' : α → SP} (s : Sp f args P v Q) (h : ∀ x R H, Holds (Q x * R) H → Holds (Q' x * R) H) : Sp f args P v Q' := by
 intro R H hh
 obtain ⟨x, H', e, hq⟩ := s R H hh
 exact ⟨x, H', e, h x R H' hq⟩
theorem memP_le {m : Nat} {V : Loc → Nat} {E : List Ev} {N N' : Nat} {R : SP} {H : AH} (hN : N ≤ N') (h : Holds (memP m ⟨V, E, N⟩ * R) H) : Holds (memP m ⟨V, E, N'⟩ * R) H := by
 obtain ⟨g, h⟩ := Holds.ex.1 h
 rw [sep_assoc, Holds.pu] at h
 refine Holds.ex.2 ⟨g, ?_⟩
 rw [sep_assoc, Holds.pu]
 exact ⟨⟨h.1.1, h.1.2.1, Nat.le_trans h.1.2.2 hN⟩, h.2⟩
abbrev Mu.acc (μ : Mu) (who kind : Int) (at' : Loc) : Mu := { V := μ.V, E := μ.E ++ [⟨who, kind, at'⟩], N := μ.N + 2 }
abbrev Mu.swp (μ : Mu) (who : Int) (at' : Loc) (was now : Nat) : Mu := { V := (μ.swap who at' was now).V, E := (μ.swap who at' was now).E, N := μ.N + 2 }
theorem p_load (m : Nat) (μ : Mu) (who : Int) (at' : Loc) (hE : μ.N < 1099511627776) : Sp n_mem_Mem_Load [vp m, vi who, encL at'] (memP m μ) (fun _ : Unit => vu (μ.V at')) (fun _ => memP m (μ.acc who 1 at')) :=
 (mem_load m μ who at' hE).imp fun _ R H h => memP_le (by simp) h
theorem p_store (m : Nat) (μ : Mu) (who : Int) (at' : Loc) (v : Nat) (hE : μ.N < 1099511627776) : Sp n_mem_Mem_Store [vp m, vi who, encL at', vu v] (memP m μ) (fun _ : Unit => .tuple #[]) (fun _ => memP m ((μ.acc who 2 at').put at' v)) :=
 (mem_store m μ who at' v hE).imp fun _ R H h => memP_le (by simp) h
theorem p_swap (m : Nat) (μ : Mu) (who : Int) (at' : Loc) (was now : Nat) (hE : μ.N < 1099511627776) :
  Sp n_mem_Mem_Swap [vp m, vi who, encL at', vu was, vu now] (memP m μ) (fun _ : Unit => vb (decide (μ.V at' = was))) (fun _ => memP m (μ.swp who at' was now)) :=
 (mem_swap m μ who at' was now hE).imp fun _ R H h => by
  have : (μ.swap who at' was now).N ≤ μ.N + 2 := by unfold Mu.swap; split <;> simp
  exact memP_le this h
theorem p_add (m : Nat) (μ : Mu) (who : Int) (at' : Loc) (n : Nat) (hE : μ.N < 1099511627776) :
  Sp n_mem_Mem_Add [vp m, vi who, encL at', vu n] (memP m μ) (fun _ : Unit => vu (μ.V at')) (fun _ => memP m ((μ.acc who 3 at').put at' ((μ.V at' + n) % 18446744073709551616))) :=
 (mem_add m μ who at' n hE).imp fun _ R H h => memP_le (by simp) h
def encP (p : Loc × Nat) : List Value := [vi p.1.1, vi p.1.2.1, vi p.1.2.2]
def encV (p : Loc × Nat) : List Value := [vu p.2]
instance : Enc encP 3 := ⟨fun _ => rfl, fun _ => rfl, by omega⟩
instance : Enc encV 1 := ⟨fun _ => rfl, fun _ => rfl, by omega⟩
def memXa (m : Nat) (al : List (Loc × Nat)) (E : List Ev) : SP := ex fun g : Value × Value × Value =>
 blk m (.cells false [g.1, g.2.1, g.2.2]) * (ts 3 encP g.1 al * (ts 1 encV g.2.1 al * ts 5 Ev.cells g.2.2 E))
def memX (m : Nat) (μ : Mu) : SP := ex fun al : List (Loc × Nat) => pu ((∀ l, alGet al l = μ.V l) ∧ al.length + μ.E.length ≤ μ.N) * memXa m al μ.E
def alIdx (al : List (Loc × Nat)) (l : Loc) : Nat := al.findIdx fun p => p.1 == l
def alHas (al : List (Loc × Nat)) (l : Loc) : List (Loc × Nat) := if alIdx al l < al.length then al else al ++ [(l, 0)]
theorem alIdx_cons (p : Loc × Nat) (al : List (Loc × Nat)) (l : Loc) : alIdx (p :: al) l = if p.1 = l then 0 else alIdx al l + 1 := by
 unfold alIdx
 rw [List.findIdx_cons]
 by_cases h : p.1 = l
 ·simp [h]
 ·have : (p.1 == l) = false := by simpa using h
  simp [h, this]
theorem alGet_at (l : Loc) : ∀ (al : List (Loc × Nat)) (h : alIdx al l < al.length), al[alIdx al l] = (l, alGet al l) := by
 intro al
 induction al with
 | nil => intro h; simp at h
 | cons p al ih =>
  intro h
  have e := alIdx_cons p al l
  by_cases hp : p.1 = l
  ·rw [if_pos hp] at e
   simp only [e, List.getElem_cons_zero, alGet_cons, hp, if_true]
   exact Prod.ext hp rfl
  ·rw [if_neg hp] at e
   rw [e, List.length_cons] at h
   simp only [e, List.getElem_cons_succ, alGet_cons, hp, if_false]
   exact ih (by omega)
theorem alGet_snoc (l x : Loc) : ∀ (al : List (Loc × Nat)), ¬ alIdx al l < al.length → alGet (al ++ [(l, 0)]) x = alGet al x := by
 intro al
 induction al with
 | nil =>
  intro _
  show alGet [(l, 0)] x = alGet [] x
  rw [alGet_cons]
  split <;> rfl
 | cons p al ih =>
  intro h
  have e := alIdx_cons p al l
  by_cases hp : p.1 = l
  ·rw [if_pos hp] at e
   simp [e] at h
  ·rw [if_neg hp] at e
   rw [List.cons_append, alGet_cons, alGet_cons, ih (by rw [e, List.length_cons] at h; omega)]
theorem alIdx_snoc (l : Loc) (al : List (Loc × Nat)) (h : ¬ alIdx al l < al.length) : alIdx (al ++ [(l, 0)]) l = al.length := by
 induction al with
 | nil => simp [alIdx, List.findIdx_cons]
 | cons p al ih =>
  have e := alIdx_cons p al l
  by_cases hp : p.1 = l
  ·rw [if_pos hp] at e
   simp [e] at h
  ·rw [if_neg hp] at e
   rw [List.cons_append, alIdx_cons, if_neg hp, ih (by rw [e, List.length_cons] at h; omega), List.length_cons]
theorem alHas_get (al : List (Loc × Nat)) (l x : Loc) : alGet (alHas al l) x = alGet al x := by
 unfold alHas
 split
 ·rfl
 ·exact alGet_snoc l x al (by assumption)
theorem alHas_lt (al : List (Loc × Nat)) (l : Loc) : alIdx (alHas al l) l < (alHas al l).length := by
 unfold alHas
 split
 ·assumption
 ·rw [alIdx_snoc l al (by assumption)]; simp
theorem alSet_set (l : Loc) (v : Nat) : ∀ (al : List (Loc × Nat)), alIdx al l < al.length → alSet al l v = al.set (alIdx al l) (l, v) := by
 intro al
 induction al with
 | nil => intro h; simp at h
 | cons p al ih =>
  intro h
  have e := alIdx_cons p al l
  by_cases hp : p.1 = l
  ·rw [if_pos hp] at e
   simp [alSet, hp, e]
  ·rw [if_neg hp] at e
   rw [e, List.length_cons] at h
   simp only [alSet, hp, if_false, e, List.set_cons_succ]
   rw [ih (by omega)]
theorem r16_log (m : Nat) (al : List (Loc × Nat)) (E : List Ev) (who kind : Int) (at' : Loc) (hE : E.length < 1099511627776) : Sp n_r16_Mem_Log [vp m, vi who, vi kind, encL at'] (memXa m al E) (fun _ : Unit => .tuple #[]) (fun _ => memXa m al (E ++ [⟨who, kind, at'⟩])) := by
 refine sp_of fun R H h => ?_
 refine wp_of (fun r => r16_Mem_Log_of _ _ _ _ H) ?_
 obtain ⟨⟨a, v, e⟩, h⟩ := Holds.ex.1 h
 dsimp only at h
 repeat (first | refine w_newC ‹_› fun _ _ _ => ?_ | refine w_new ‹_› fun _ _ _ => ?_ | refine w_map ‹_› fun _ _ _ => ?_ | refine w_LdN ‹_› ?_ | refine w_ld ‹_› end_nf rfl ?_ | refine w_ld ‹_› end_f0 rfl ?_ | refine w_ldN ‹_› end_nf ?_ | refine w_ldN ‹_› end_f0 ?_ | refine w_ad end_nf ?_ | refine w_ad end_f0 ?_ | refine w_Ld1 ‹_› rfl ?_ | refine w_st ‹_› end_nf rfl rfl fun _ _ => ?_ | refine w_st ‹_› end_f0 rfl rfl fun _ _ => ?_ | refine w_St ‹_› rfl rfl fun _ _ => ?_ | refine w_S ?_ | refine w_R ‹_› fun _ _ _ => ?_ | refine w_eqK_rfl ?_ | refine w_eq1 ‹_› ‹_› rfl ?_ | refine w_eqN ‹_› ‹_› rfl ?_ | refine w_len ?_)
 refine w_tapp ((⟨who, kind, at'⟩ : Ev)) (by assumption) rfl ?_ (by omega) fun a' c' _ _ => ?_
 ·unfold room; omega
 repeat (first | refine w_newC ‹_› fun _ _ _ => ?_ | refine w_new ‹_› fun _ _ _ => ?_ | refine w_map ‹_› fun _ _ _ => ?_ | refine w_LdN ‹_› ?_ | refine w_ld ‹_› end_nf rfl ?_ | refine w_ld ‹_› end_f0 rfl ?_ | refine w_ldN ‹_› end_nf ?_ | refine w_ldN ‹_› end_f0 ?_ | refine w_ad end_nf ?_ | refine w_ad end_f0 ?_ | refine w_Ld1 ‹_› rfl ?_ | refine w_st ‹_› end_nf rfl rfl fun _ _ => ?_ | refine w_st ‹_› end_f0 rfl rfl fun _ _ => ?_ | refine w_St ‹_› rfl rfl fun _ _ => ?_ | refine w_S ?_ | refine w_R ‹_› fun _ _ _ => ?_ | refine w_eqK_rfl ?_ | refine w_eq1 ‹_› ‹_› rfl ?_ | refine w_eqN ‹_› ‹_› rfl ?_ | refine w_len ?_)
 exact w_ret ⟨(), rfl, Holds.ex.2 ⟨(a, v, .slice a' (E.length + 1) c'), Holds.to (by assumption)⟩⟩
theorem alIdx_first (l : Loc) : ∀ (al : List (Loc × Nat)) (k : Nat) (hk : k < al.length), al[k].1 = l → (∀ j, j < k → ∀ p, al[j]? = some p → p.1 ≠ l) → alIdx al l = k := by
 intro al
 induction al with
 | nil => intro k hk; simp at hk
 | cons p al ih =>
  intro k hk h hno
  rw [alIdx_cons]
  cases k with
  | zero => rw [if_pos (by simpa using h)]
  | succ k =>
   rw [if_neg (hno 0 (by omega) p rfl), ih k (by simpa using hk) (by simpa using h) fun j hj q hq => hno (j + 1) (by omega) q (by simpa using hq)]
theorem place_loop {m b0 : Nat} {al : List (Loc × Nat)} {E : List Ev} {at' : Loc} {R : SP} (hal : al.length < 1099511627776) {a v e : Value} (x4 : Value) {H : AH}
  (h : Holds (blk b0 (.cells false [vi at'.1, vi at'.2.1, vi at'.2.2]) * (blk m (.cells false [a, v, e]) * (ts 3 encP a al * (ts 1 encV v al * ts 5 Ev.cells e E)) * R)) H) :
  ∀ (n k : Nat), k + n = al.length → (∀ j, j < k → ∀ p, al[j]? = some p → p.1 ≠ at') →
   wp (rMp_k19 (vp m) (vp b0) x4 (vi k) H) fun v' H' => v' = vi (alIdx (alHas al at') at') ∧ Holds (memXa m (alHas al at') E * R) H' := by
 intro n
 induction n with
 | zero =>
  intro k hk hno
  have hidx : ¬ alIdx al at' < al.length := by
   intro hlt
   have := alGet_at at' al hlt
   exact hno _ (by omega) _ (List.getElem?_eq_getElem hlt) (by rw [this])
  refine wp_eq (rMp_k19_eq _ _ _ _ H) ?_
  refine w_ld h end_nf rfl ?_
  refine w_tlen (s := a) h ?_
  refine w_bind bin_lss ?_
  refine w_cond (fun hc => ?_) (fun hc => ?_)
  ·simp at hc; omega
  refine wp_eq (rMp_e18_0_eq _ _ _ H) ?_
  refine wp_eq (rMp_k1_eq _ _ _ H) ?_
  have e1 : alHas al at' = al ++ [(at', 0)] := if_neg hidx
  have e2 : alIdx (alHas al at') at' = al.length := by rw [e1, alIdx_snoc at' al hidx]
  rw [e1, ← e1, e2, e1]
  repeat (first | refine w_newC ‹_› fun _ _ _ => ?_ | refine w_new ‹_› fun _ _ _ => ?_ | refine w_map ‹_› fun _ _ _ => ?_ | refine w_LdN ‹_› ?_ | refine w_ld ‹_› end_nf rfl ?_ | refine w_ld ‹_› end_f0 rfl ?_ | refine w_ldN ‹_› end_nf ?_ | refine w_ldN ‹_› end_f0 ?_ | refine w_ad end_nf ?_ | refine w_ad end_f0 ?_ | refine w_Ld1 ‹_› rfl ?_ | refine w_st ‹_› end_nf rfl rfl fun _ _ => ?_ | refine w_st ‹_› end_f0 rfl rfl fun _ _ => ?_ | refine w_St ‹_› rfl rfl fun _ _ => ?_ | refine w_S ?_ | refine w_R ‹_› fun _ _ _ => ?_ | refine w_eqK_rfl ?_ | refine w_eq1 ‹_› ‹_› rfl ?_ | refine w_eqN ‹_› ‹_› rfl ?_ | refine w_len ?_)
  refine w_tapp (((at', 0) : Loc × Nat)) (by assumption) rfl ?_ (by omega) fun a1 c1 H1 h1 => ?_
  ·unfold room; omega
  repeat (first | refine w_newC ‹_› fun _ _ _ => ?_ | refine w_new ‹_› fun _ _ _ => ?_ | refine w_map ‹_› fun _ _ _ => ?_ | refine w_LdN ‹_› ?_ | refine w_ld ‹_› end_nf rfl ?_ | refine w_ld ‹_› end_f0 rfl ?_ | refine w_ldN ‹_› end_nf ?_ | refine w_ldN ‹_› end_f0 ?_ | refine w_ad end_nf ?_ | refine w_ad end_f0 ?_ | refine w_Ld1 ‹_› rfl ?_ | refine w_st ‹_› end_nf rfl rfl fun _ _ => ?_ | refine w_st ‹_› end_f0 rfl rfl fun _ _ => ?_ | refine w_St ‹_› rfl rfl fun _ _ => ?_ | refine w_S ?_ | refine w_R ‹_› fun _ _ _ => ?_ | refine w_eqK_rfl ?_ | refine w_eq1 ‹_› ‹_› rfl ?_ | refine w_eqN ‹_› ‹_› rfl ?_ | refine w_len ?_)
  refine w_tapp (((at', 0) : Loc × Nat)) (by assumption) rfl ?_ (by omega) fun a2 c2 H2 h2 => ?_
  ·unfold room; omega
  repeat (first | refine w_newC ‹_› fun _ _ _ => ?_ | refine w_new ‹_› fun _ _ _ => ?_ | refine w_map ‹_› fun _ _ _ => ?_ | refine w_LdN ‹_› ?_ | refine w_ld ‹_› end_nf rfl ?_ | refine w_ld ‹_› end_f0 rfl ?_ | refine w_ldN ‹_› end_nf ?_ | refine w_ldN ‹_› end_f0 ?_ | refine w_ad end_nf ?_ | refine w_ad end_f0 ?_ | refine w_Ld1 ‹_› rfl ?_ | refine w_st ‹_› end_nf rfl rfl fun _ _ => ?_ | refine w_st ‹_› end_f0 rfl rfl fun _ _ => ?_ | refine w_St ‹_› rfl rfl fun _ _ => ?_ | refine w_S ?_ | refine w_R ‹_› fun _ _ _ => ?_ | refine w_eqK_rfl ?_ | refine w_eq1 ‹_› ‹_› rfl ?_ | refine w_eqN ‹_› ‹_› rfl ?_ | refine w_len ?_)
  refine w_bind (bin_sub_i (by omega) (by omega)) ?_
  refine w_ret ⟨by congr 1; omega, ?_⟩
  exact Holds.ex.2 ⟨(.slice a1 (al.length + 1) c1, .slice a2 (al.length + 1) c2, e), Holds.to (by assumption)⟩
 | succ n ih =>
  intro k hk hno
  have hkl : k < al.length := by omega
  refine wp_eq (rMp_k19_eq _ _ _ _ H) ?_
  refine w_ld h end_nf rfl ?_
  refine w_tlen (s := a) h ?_
  refine w_bind bin_lss ?_
  refine w_cond (fun hc => ?_) (fun hc => ?_)
  ·refine wp_eq (rMp_k20_eq _ _ _ _ H) ?_
   refine w_ld h end_nf rfl ?_
   refine w_tldN (s := a) h hkl ?_
   refine w_LdN h ?_
   refine w_bind (eqCells3 al[k].1 at') ?_
   refine w_cond (fun hc => ?_) (fun hc => ?_)
   ·have hc : al[k].1 = at' := by simpa using hc
    have hidx := alIdx_first at' al k hkl hc hno
    have e1 : alHas al at' = al := by unfold alHas; rw [if_pos (by omega)]
    refine w_ret ⟨by rw [e1, hidx], ?_⟩
    rw [e1]
    exact Holds.ex.2 ⟨(a, v, e), Holds.to h⟩
   ·have hc : al[k].1 ≠ at' := by simpa using hc
    refine wp_eq (rMp_k21_eq _ _ _ _ H) ?_
    refine w_bind (bin_add_i (by omega) (by omega)) ?_
    refine ih (k + 1) (by omega) fun j hj p hp => ?_
    by_cases hjk : j = k
    ·subst hjk
     rw [List.getElem?_eq_getElem hkl] at hp
     cases hp
     exact hc
    ·exact hno j (by omega) p hp
  ·simp at hc; omega
theorem r16_place (m : Nat) (al : List (Loc × Nat)) (E : List Ev) (at' : Loc) (hal : al.length < 1099511627776) : Sp n_rMp [vp m, encL at'] (memXa m al E) (fun _ : Unit => vi (alIdx (alHas al at') at')) (fun _ => memXa m (alHas al at') E) := by
 refine sp_of fun R H h => ?_
 refine wp_of (fun r => rMp_of _ _ H) ?_
 obtain ⟨⟨a, v, e⟩, h⟩ := Holds.ex.1 h
 dsimp only at h
 refine w_newC h fun b0 H1 h1 => ?_
 refine wp_eq (rMp_k0_eq _ _ _ H1) ?_
 refine wp_eq (rMp_k17_eq _ _ _ _ H1) ?_
 refine (place_loop hal (vi 0) h1 al.length 0 (by omega) (fun j hj => by omega)).mono fun v' H' h' => ⟨(), h'.1, h'.2⟩
theorem ts_keys (a : Value) (al : List (Loc × Nat)) (i : Nat) (hi : i < al.length) (v : Nat) : ts 3 encP a (al.set i (al[i].1, v)) = ts 3 encP a al := by
 unfold ts
 rw [List.length_set, flat_set al i hi, flat_split al i hi]
 rfl
theorem memX_close {m : Nat} {μ : Mu} {al : List (Loc × Nat)} {a v e : Value} {P R : SP} {H : AH} (hp : (∀ l, alGet al l = μ.V l) ∧ al.length + μ.E.length ≤ μ.N) (h : Holds P H)
  {Z : SP} [f : Fr P ((blk m (.cells false [a, v, e]) * (ts 3 encP a al * (ts 1 encV v al * ts 5 Ev.cells e μ.E))) * R) Z] : Holds (memX m μ * R) H := by
 refine Holds.ex.2 ⟨al, ?_⟩
 rw [sep_assoc, Holds.pu]
 exact ⟨hp, Holds.ex.2 ⟨(a, v, e), h.to⟩⟩
theorem alHas_len (al : List (Loc × Nat)) (l : Loc) : (alHas al l).length ≤ al.length + 1 := by unfold alHas; split <;> simp
def memXi (m : Nat) (μ : Mu) (at' : Loc) (i : Nat) : SP := ex fun g : List (Loc × Nat) × Value × Value × Value =>
 pu ((∀ l, alGet g.1 l = μ.V l) ∧ g.1.length + μ.E.length ≤ μ.N ∧ alIdx g.1 at' = i ∧ i < g.1.length) * (blk m (.cells false [g.2.1, g.2.2.1, g.2.2.2]) * (ts 3 encP g.2.1 g.1 * (ts 1 encV g.2.2.1 g.1 * ts 5 Ev.cells g.2.2.2 μ.E)))
theorem xplace (m : Nat) (μ : Mu) (at' : Loc) (hE : μ.N < 1099511627776) : Sp n_rMp [vp m, encL at'] (memX m μ) (fun i : Nat => vi (i : Int)) (fun i => memXi m { μ with N := μ.N + 1 } at' i) := by
 intro R H h
 obtain ⟨al, h⟩ := Holds.ex.1 h
 rw [sep_assoc, Holds.pu] at h
 obtain ⟨hp, h⟩ := h
 obtain ⟨_, H', e, h'⟩ := r16_place m al μ.E at' (by omega) R H h
 refine ⟨alIdx (alHas al at') at', H', e, ?_⟩
 obtain ⟨⟨a, v, ev⟩, h'⟩ := Holds.ex.1 h'
 refine Holds.ex.2 ⟨(alHas al at', a, v, ev), ?_⟩
 rw [sep_assoc, Holds.pu]
 have := alHas_len al at'
 exact ⟨⟨fun l => by rw [alHas_get, hp.1], by dsimp only; omega, rfl, alHas_lt al at'⟩, h'⟩
theorem xlog (m : Nat) (μ : Mu) (who kind : Int) (at' : Loc) (hE : μ.N < 1099511627776) : Sp n_r16_Mem_Log [vp m, vi who, vi kind, encL at'] (memX m μ) (fun _ : Unit => .tuple #[]) (fun _ => memX m (μ.log who kind at')) := by
 intro R H h
 obtain ⟨al, h⟩ := Holds.ex.1 h
 rw [sep_assoc, Holds.pu] at h
 obtain ⟨hp, h⟩ := h
 obtain ⟨_, H', e, h'⟩ := r16_log m al μ.E who kind at' (by omega) R H h
 refine ⟨(), H', e, ?_⟩
 refine Holds.ex.2 ⟨al, ?_⟩
 rw [sep_assoc, Holds.pu]
 exact ⟨⟨hp.1, by simp; omega⟩, h'⟩
theorem ilog (m : Nat) (μ : Mu) (at2 : Loc) (i : Nat) (who kind : Int) (at' : Loc) (hE : μ.N < 1099511627776) : Sp n_r16_Mem_Log [vp m, vi who, vi kind, encL at'] (memXi m μ at2 i) (fun _ : Unit => .tuple #[]) (fun _ => memXi m (μ.log who kind at') at2 i) := by
 intro R H h
 obtain ⟨⟨al, a, v, e⟩, h⟩ := Holds.ex.1 h
 rw [sep_assoc, Holds.pu] at h
 obtain ⟨hp, h⟩ := h
 dsimp only at hp h
 obtain ⟨_, H', e', h'⟩ := r16_log m al μ.E who kind at' (by omega) R H (Holds.ex.2 ⟨(a, v, e), h⟩)
 refine ⟨(), H', e', ?_⟩
 obtain ⟨⟨a2, v2, e2⟩, h'⟩ := Holds.ex.1 h'
 refine Holds.ex.2 ⟨(al, a2, v2, e2), ?_⟩
 rw [sep_assoc, Holds.pu]
 exact ⟨⟨hp.1, by simp; omega, hp.2.2⟩, h'⟩
class Xi (P : SP) (m i : Nat) (μ : outParam Mu) (at' : outParam Loc) (R : outParam SP) : Prop where
 eq : P = memXi m μ at' i * R
instance (priority := high) Xi.refl (m i : Nat) (μ : Mu) (at' : Loc) : Xi (memXi m μ at' i) m i μ at' emp := ⟨(sep_emp _).symm⟩
instance Xi.left (P Q R : SP) (m i : Nat) (μ : Mu) (at' : Loc) [h : Xi P m i μ at' R] : Xi (P * Q) m i μ at' (R * Q) := ⟨by rw [h.eq, sep_assoc]⟩
instance Xi.right (P Q R : SP) (m i : Nat) (μ : Mu) (at' : Loc) [h : Xi Q m i μ at' R] : Xi (P * Q) m i μ at' (P * R) := ⟨by rw [h.eq, sep_left_comm]⟩
section
variable {m i : Nat} {μ : Mu} {at' : Loc} {P R : SP} {H : AH} {Q : Value → AH → Prop}
theorem xi_ld {k : Value → OV} (h : Holds P H) [f : Xi P m i μ at' R] (hk : wp (k (vu (μ.V at'))) Q) : wp (ld [.n, .f 1] (vp m) H fun v => ld [.i 1 (vi i)] v H k) Q := by
 have h' : Holds (memXi m μ at' i * R) H := by rw [← f.eq]; exact h
 obtain ⟨⟨al, a, v, e⟩, h'⟩ := Holds.ex.1 h'
 rw [sep_assoc, Holds.pu] at h'
 obtain ⟨hp, h'⟩ := h'
 dsimp only at hp h'
 refine w_ld h' end_nf rfl ?_
 obtain ⟨p1, _, p4, p5⟩ := hp
 refine w_tld1 (s := v) h' p5 (v := vu (μ.V at')) ?_ hk
 subst p4
 rw [alGet_at at' al p5]
 simp [encV, p1]
theorem xi_st {k : AH → OV} {v : Nat} (h : Holds P H) [f : Xi P m i μ at' R] (hk : ∀ H', Holds (memX m (μ.put at' v) * R) H' → wp (k H') Q) : wp (ld [.n, .f 1] (vp m) H fun s => st 1 [.i 1 (vi i)] s (vu v) H k) Q := by
 have h0 : Holds (memXi m μ at' i * R) H := by rw [← f.eq]; exact h
 obtain ⟨⟨al, a, s, e⟩, h1⟩ := Holds.ex.1 h0
 rw [sep_assoc, Holds.pu] at h1
 obtain ⟨hp, h'⟩ := h1
 clear h0
 dsimp only at hp h'
 refine w_ld h' end_nf rfl ?_
 obtain ⟨p1, p2, p4, p5⟩ := hp
 subst p4
 refine w_tst (s := s) (g := 0) ((at', v) : Loc × Nat) h' p5 (.inl ⟨rfl, rfl⟩) rfl (by omega) rfl rfl fun H' h2 => hk H' ?_
 have hat := alGet_at at' al p5
 have hk2 := ts_keys a al (alIdx al at') p5 v
 rw [hat] at hk2
 rw [← alSet_set at' v al p5] at h2 hk2
 rw [← hk2] at h2
 refine memX_close (al := alSet al at' v) (a := a) (v := s) (e := e) ⟨fun l => ?_, ?_⟩ h2
 ·rw [alGet_set, p1]
 ·rw [alSet_set at' v al p5, List.length_set]; exact p2
theorem xi_ldst {x y : Value} {op : BinOp} {cl : TCls} {k : AH → OV} {v : Nat} (h : Holds P H) [f : Xi P m i μ at' R] (hb : pBin cl op x y = some (vu v)) (hk : ∀ H', Holds (memX m (μ.put at' v) * R) H' → wp (k H') Q) :
  wp (ld [.n, .f 1] (vp m) H fun s => (pBin cl op x y).bind fun z => st 1 [.i 1 (vi i)] s z H k) Q := by
 rw [hb]
 exact xi_st h hk
theorem xi_x (h : Holds P H) [f : Xi P m i μ at' R] : Holds (memX m μ * R) H := by
 have h' : Holds (memXi m μ at' i * R) H := by rw [← f.eq]; exact h
 obtain ⟨⟨al, a, s, e⟩, h'⟩ := Holds.ex.1 h'
 rw [sep_assoc, Holds.pu] at h'
 obtain ⟨hp, h'⟩ := h'
 exact memX_close (al := al) (a := a) (v := s) (e := e) ⟨hp.1, hp.2.1⟩ h'
end
theorem r16_load (m : Nat) (μ : Mu) (who : Int) (at' : Loc) (hE : μ.N < 1099511627000) : Sp n_r16_Mem_Load [vp m, vi who, encL at'] (memX m μ) (fun _ : Unit => vu (μ.V at')) (fun _ => memX m (μ.acc who 1 at')) := by
 refine sp_of fun R H h => ?_
 refine wp_of (fun r => r16_Mem_Load_of _ _ _ H) ?_
 repeat (first | refine w_newC ‹_› fun _ _ _ => ?_ | refine w_new ‹_› fun _ _ _ => ?_ | refine w_map ‹_› fun _ _ _ => ?_ | refine w_LdN ‹_› ?_ | refine w_ld ‹_› end_nf rfl ?_ | refine w_ld ‹_› end_f0 rfl ?_ | refine w_ldN ‹_› end_nf ?_ | refine w_ldN ‹_› end_f0 ?_ | refine w_ad end_nf ?_ | refine w_ad end_f0 ?_ | refine w_Ld1 ‹_› rfl ?_ | refine w_st ‹_› end_nf rfl rfl fun _ _ => ?_ | refine w_st ‹_› end_f0 rfl rfl fun _ _ => ?_ | refine w_St ‹_› rfl rfl fun _ _ => ?_ | refine w_S ?_ | refine w_R ‹_› fun _ _ _ => ?_ | refine w_eqK_rfl ?_ | refine w_eq1 ‹_› ‹_› rfl ?_ | refine w_eqN ‹_› ‹_› rfl ?_ | refine w_len ?_)
 refine w_call (by assumption) (xlog m μ who 1 at' (by omega)) fun _ _ _ => ?_
 repeat (first | refine w_newC ‹_› fun _ _ _ => ?_ | refine w_new ‹_› fun _ _ _ => ?_ | refine w_map ‹_› fun _ _ _ => ?_ | refine w_LdN ‹_› ?_ | refine w_ld ‹_› end_nf rfl ?_ | refine w_ld ‹_› end_f0 rfl ?_ | refine w_ldN ‹_› end_nf ?_ | refine w_ldN ‹_› end_f0 ?_ | refine w_ad end_nf ?_ | refine w_ad end_f0 ?_ | refine w_Ld1 ‹_› rfl ?_ | refine w_st ‹_› end_nf rfl rfl fun _ _ => ?_ | refine w_st ‹_› end_f0 rfl rfl fun _ _ => ?_ | refine w_St ‹_› rfl rfl fun _ _ => ?_ | refine w_S ?_ | refine w_R ‹_› fun _ _ _ => ?_ | refine w_eqK_rfl ?_ | refine w_eq1 ‹_› ‹_› rfl ?_ | refine w_eqN ‹_› ‹_› rfl ?_ | refine w_len ?_)
 refine w_call (by assumption) (xplace m (μ.log who 1 at') at' (by simp; omega)) fun i H3 h3 => ?_
 refine xi_ld h3 ?_
 exact w_ret ⟨(), rfl, Holds.to (xi_x (m := m) (i := i) h3)⟩
theorem r16_store (m : Nat) (μ : Mu) (who : Int) (at' : Loc) (v : Nat) (hE : μ.N < 1099511627000) : Sp n_r16_Mem_Store [vp m, vi who, encL at', vu v] (memX m μ) (fun _ : Unit => .tuple #[]) (fun _ => memX m ((μ.acc who 2 at').put at' v)) := by
 refine sp_of fun R H h => ?_
 refine wp_of (fun r => r16_Mem_Store_of _ _ _ _ H) ?_
 repeat (first | refine w_newC ‹_› fun _ _ _ => ?_ | refine w_new ‹_› fun _ _ _ => ?_ | refine w_map ‹_› fun _ _ _ => ?_ | refine w_LdN ‹_› ?_ | refine w_ld ‹_› end_nf rfl ?_ | refine w_ld ‹_› end_f0 rfl ?_ | refine w_ldN ‹_› end_nf ?_ | refine w_ldN ‹_› end_f0 ?_ | refine w_ad end_nf ?_ | refine w_ad end_f0 ?_ | refine w_Ld1 ‹_› rfl ?_ | refine w_st ‹_› end_nf rfl rfl fun _ _ => ?_ | refine w_st ‹_› end_f0 rfl rfl fun _ _ => ?_ | refine w_St ‹_› rfl rfl fun _ _ => ?_ | refine w_S ?_ | refine w_R ‹_› fun _ _ _ => ?_ | refine w_eqK_rfl ?_ | refine w_eq1 ‹_› ‹_› rfl ?_ | refine w_eqN ‹_› ‹_› rfl ?_ | refine w_len ?_)
 refine w_call (by assumption) (xlog m μ who 2 at' (by omega)) fun _ _ _ => ?_
 repeat (first | refine w_newC ‹_› fun _ _ _ => ?_ | refine w_new ‹_› fun _ _ _ => ?_ | refine w_map ‹_› fun _ _ _ => ?_ | refine w_LdN ‹_› ?_ | refine w_ld ‹_› end_nf rfl ?_ | refine w_ld ‹_› end_f0 rfl ?_ | refine w_ldN ‹_› end_nf ?_ | refine w_ldN ‹_› end_f0 ?_ | refine w_ad end_nf ?_ | refine w_ad end_f0 ?_ | refine w_Ld1 ‹_› rfl ?_ | refine w_st ‹_› end_nf rfl rfl fun _ _ => ?_ | refine w_st ‹_› end_f0 rfl rfl fun _ _ => ?_ | refine w_St ‹_› rfl rfl fun _ _ => ?_ | refine w_S ?_ | refine w_R ‹_› fun _ _ _ => ?_ | refine w_eqK_rfl ?_ | refine w_eq1 ‹_› ‹_› rfl ?_ | refine w_eqN ‹_› ‹_› rfl ?_ | refine w_len ?_)
 refine w_call (by assumption) (xplace m (μ.log who 2 at') at' (by simp; omega)) fun i H3 h3 => ?_
 refine xi_st (at' := at') h3 fun H4 h4 => ?_
 exact w_ret ⟨(), rfl, h4.to⟩
theorem r16_swap (m : Nat) (μ : Mu) (who : Int) (at' : Loc) (was now : Nat) (hE : μ.N < 1099511627000) :
  Sp n_r16_Mem_Swap [vp m, vi who, encL at', vu was, vu now] (memX m μ) (fun _ : Unit => vb (decide (μ.V at' = was))) (fun _ => memX m (μ.swp who at' was now)) := by
 refine sp_of fun R H h => ?_
 refine wp_of (fun r => r16_Mem_Swap_of _ _ _ _ _ H) ?_
 repeat (first | refine w_newC ‹_› fun _ _ _ => ?_ | refine w_new ‹_› fun _ _ _ => ?_ | refine w_map ‹_› fun _ _ _ => ?_ | refine w_LdN ‹_› ?_ | refine w_ld ‹_› end_nf rfl ?_ | refine w_ld ‹_› end_f0 rfl ?_ | refine w_ldN ‹_› end_nf ?_ | refine w_ldN ‹_› end_f0 ?_ | refine w_ad end_nf ?_ | refine w_ad end_f0 ?_ | refine w_Ld1 ‹_› rfl ?_ | refine w_st ‹_› end_nf rfl rfl fun _ _ => ?_ | refine w_st ‹_› end_f0 rfl rfl fun _ _ => ?_ | refine w_St ‹_› rfl rfl fun _ _ => ?_ | refine w_S ?_ | refine w_R ‹_› fun _ _ _ => ?_ | refine w_eqK_rfl ?_ | refine w_eq1 ‹_› ‹_› rfl ?_ | refine w_eqN ‹_› ‹_› rfl ?_ | refine w_len ?_)
 refine w_call (by assumption) (xplace m μ at' (by omega)) fun i H3 h3 => ?_
 refine xi_ld h3 ?_
 refine w_bind (neq_u) ?_
 unfold Mu.swp Mu.swap
 refine w_cond (fun hc => ?_) (fun hc => ?_)
 ·have hc : ¬ μ.V at' = was := by simpa using hc
  rw [if_neg hc, decide_eq_false hc]
  repeat (first | refine w_newC ‹_› fun _ _ _ => ?_ | refine w_new ‹_› fun _ _ _ => ?_ | refine w_map ‹_› fun _ _ _ => ?_ | refine w_LdN ‹_› ?_ | refine w_ld ‹_› end_nf rfl ?_ | refine w_ld ‹_› end_f0 rfl ?_ | refine w_ldN ‹_› end_nf ?_ | refine w_ldN ‹_› end_f0 ?_ | refine w_ad end_nf ?_ | refine w_ad end_f0 ?_ | refine w_Ld1 ‹_› rfl ?_ | refine w_st ‹_› end_nf rfl rfl fun _ _ => ?_ | refine w_st ‹_› end_f0 rfl rfl fun _ _ => ?_ | refine w_St ‹_› rfl rfl fun _ _ => ?_ | refine w_S ?_ | refine w_R ‹_› fun _ _ _ => ?_ | refine w_eqK_rfl ?_ | refine w_eq1 ‹_› ‹_› rfl ?_ | refine w_eqN ‹_› ‹_› rfl ?_ | refine w_len ?_)
  refine w_call (by assumption) (ilog m { μ with N := μ.N + 1 } at' i who 4 at' (by simp; omega)) fun _ H4 h4 => ?_
  exact w_ret ⟨(), rfl, Holds.to (xi_x (m := m) (i := i) h4)⟩
 ·have hc : μ.V at' = was := by simpa using hc
  rw [if_pos hc, decide_eq_true hc]
  repeat (first | refine w_newC ‹_› fun _ _ _ => ?_ | refine w_new ‹_› fun _ _ _ => ?_ | refine w_map ‹_› fun _ _ _ => ?_ | refine w_LdN ‹_› ?_ | refine w_ld ‹_› end_nf rfl ?_ | refine w_ld ‹_› end_f0 rfl ?_ | refine w_ldN ‹_› end_nf ?_ | refine w_ldN ‹_› end_f0 ?_ | refine w_ad end_nf ?_ | refine w_ad end_f0 ?_ | refine w_Ld1 ‹_› rfl ?_ | refine w_st ‹_› end_nf rfl rfl fun _ _ => ?_ | refine w_st ‹_› end_f0 rfl rfl fun _ _ => ?_ | refine w_St ‹_› rfl rfl fun _ _ => ?_ | refine w_S ?_ | refine w_R ‹_› fun _ _ _ => ?_ | refine w_eqK_rfl ?_ | refine w_eq1 ‹_› ‹_› rfl ?_ | refine w_eqN ‹_› ‹_› rfl ?_ | refine w_len ?_)
  refine w_call (by assumption) (ilog m { μ with N := μ.N + 1 } at' i who 3 at' (by simp; omega)) fun _ H4 h4 => ?_
  refine xi_st (at' := at') h4 fun H5 h5 => ?_
  exact w_ret ⟨(), rfl, h5.to⟩
theorem r16_add (m : Nat) (μ : Mu) (who : Int) (at' : Loc) (n : Nat) (hE : μ.N < 1099511627000) :
  Sp n_r16_Mem_Add [vp m, vi who, encL at', vu n] (memX m μ) (fun _ : Unit => vu (μ.V at')) (fun _ => memX m ((μ.acc who 3 at').put at' ((μ.V at' + n) % 18446744073709551616))) := by
 refine sp_of fun R H h => ?_
 refine wp_of (fun r => r16_Mem_Add_of _ _ _ _ H) ?_
 repeat (first | refine w_newC ‹_› fun _ _ _ => ?_ | refine w_new ‹_› fun _ _ _ => ?_ | refine w_map ‹_› fun _ _ _ => ?_ | refine w_LdN ‹_› ?_ | refine w_ld ‹_› end_nf rfl ?_ | refine w_ld ‹_› end_f0 rfl ?_ | refine w_ldN ‹_› end_nf ?_ | refine w_ldN ‹_› end_f0 ?_ | refine w_ad end_nf ?_ | refine w_ad end_f0 ?_ | refine w_Ld1 ‹_› rfl ?_ | refine w_st ‹_› end_nf rfl rfl fun _ _ => ?_ | refine w_st ‹_› end_f0 rfl rfl fun _ _ => ?_ | refine w_St ‹_› rfl rfl fun _ _ => ?_ | refine w_S ?_ | refine w_R ‹_› fun _ _ _ => ?_ | refine w_eqK_rfl ?_ | refine w_eq1 ‹_› ‹_› rfl ?_ | refine w_eqN ‹_› ‹_› rfl ?_ | refine w_len ?_)
 refine w_call (by assumption) (xplace m μ at' (by omega)) fun i H3 h3 => ?_
 repeat (first | refine w_newC ‹_› fun _ _ _ => ?_ | refine w_new ‹_› fun _ _ _ => ?_ | refine w_map ‹_› fun _ _ _ => ?_ | refine w_LdN ‹_› ?_ | refine w_ld ‹_› end_nf rfl ?_ | refine w_ld ‹_› end_f0 rfl ?_ | refine w_ldN ‹_› end_nf ?_ | refine w_ldN ‹_› end_f0 ?_ | refine w_ad end_nf ?_ | refine w_ad end_f0 ?_ | refine w_Ld1 ‹_› rfl ?_ | refine w_st ‹_› end_nf rfl rfl fun _ _ => ?_ | refine w_st ‹_› end_f0 rfl rfl fun _ _ => ?_ | refine w_St ‹_› rfl rfl fun _ _ => ?_ | refine w_S ?_ | refine w_R ‹_› fun _ _ _ => ?_ | refine w_eqK_rfl ?_ | refine w_eq1 ‹_› ‹_› rfl ?_ | refine w_eqN ‹_› ‹_› rfl ?_ | refine w_len ?_)
 refine w_call (by assumption) (ilog m { μ with N := μ.N + 1 } at' i who 3 at' (by simp; omega)) fun _ H4 h4 => ?_
 refine xi_ld h4 ?_
 refine xi_ldst (at' := at') h4 add_u fun H5 h5 => ?_
 exact w_ret ⟨(), rfl, h5.to⟩
def wRight (w : Nat) : Bool := decide (w / 2305843009213693952 < 3)
def wCount (w : Nat) : Nat := if wRight w then w % 2305843009213693952 else 0
def wState (w : Nat) : Int := if wRight w then (w / 2305843009213693952 : Nat) else -1
def wTurn (w : Nat) : Nat → Option Nat
 | 0 => if wRight w ∧ wState w ≠ 2 ∧ wCount w < 2305843009213693951 then some (wCount w + 1 + 2305843009213693952) else none
 | 1 => if wState w = 1 then some (wCount w) else none
 | 2 => if wState w = 0 then some (wCount w + 4611686018427387904) else none
 | _ => none
def optV : Option Nat → Value
 | some n => .tuple #[vu n, vb true]
 | none => .tuple #[vw 0, vb false]
theorem word_right (w : Nat) : Sp n_word_Right [vu w] emp (fun _ : Unit => vb (wRight w)) (fun _ => emp) := by
 refine sp_of fun R H h => ?_
 refine wp_of (fun r => word_Right_of _ H) ?_
 refine w_bind (shr61) ?_
 refine w_bind (bin_lss) ?_
 refine w_ret ⟨(), ?_, h⟩
 congr 1
 unfold wRight
 congr 1
 apply propext
 omega
theorem word_count (w : Nat) (hw : w < 18446744073709551616) : Sp n_word_Count [vu w] emp (fun _ : Unit => vu (wCount w)) (fun _ => emp) := by
 refine sp_of fun R H h => ?_
 refine wp_of (fun r => word_Count_of _ H) ?_
 refine w_call (by assumption) (word_right w) fun _ _ _ => ?_
 refine w_bind (un_not) ?_
 refine w_cond (fun hc => ?_) (fun hc => ?_)
 ·have hc : wRight w = false := by simpa using hc
  refine w_ret ⟨(), by simp [wCount, hc], Holds.to (by assumption)⟩
 ·have hc : wRight w = true := by simpa using hc
  refine w_bind (and61 hw) ?_
  refine w_ret ⟨(), by simp [wCount, hc], Holds.to (by assumption)⟩
theorem word_state (w : Nat) (hw : w < 18446744073709551616) : Sp n_word_State [vu w] emp (fun _ : Unit => vi (wState w)) (fun _ => emp) := by
 refine sp_of fun R H h => ?_
 refine wp_of (fun r => word_State_of _ H) ?_
 refine w_call (by assumption) (word_right w) fun _ _ _ => ?_
 refine w_bind (un_not) ?_
 refine w_cond (fun hc => ?_) (fun hc => ?_)
 ·have hc : wRight w = false := by simpa using hc
  refine w_ret ⟨(), by simp [wState, hc], Holds.to (by assumption)⟩
 ·have hc : wRight w = true := by simpa using hc
  refine w_bind (shr61) ?_
  refine w_bind (conv_iu (by omega)) ?_
  refine w_ret ⟨(), by simp [wState, hc], Holds.to (by assumption)⟩
theorem r01_parts (w : Nat) (hw : w < 18446744073709551616) : Sp n_r01_Parts [vu w] emp (fun _ : Unit => .tuple #[vu (wCount w), vi (wState w), vb (wRight w)]) (fun _ => emp) := by
 refine sp_of fun R H h => ?_
 refine wp_of (fun r => r01_Parts_of _ H) ?_
 refine w_bind (rem61) ?_
 refine w_bind (quo61 hw) ?_
 refine w_bind (conv_iu (by omega)) ?_
 refine w_bind (bin_gtr) ?_
 refine w_cond (fun hc => ?_) (fun hc => ?_)
 ·have hc : wRight w = false := by simp at hc; simp [wRight]; omega
  refine w_ret ⟨(), by simp [wCount, wState, hc], h.to⟩
 ·have hc : wRight w = true := by simp at hc; simp [wRight]; omega
  refine w_ret ⟨(), by simp [wCount, wState, hc], h.to⟩
theorem word_pack (n : Nat) (s : Nat) (hn : n ≤ 2305843009213693951) (hs : s < 3) : Sp n_word_Pack [vu n, vi (s : Int)] emp (fun _ : Unit => .tuple #[vu (s * 2305843009213693952 + n), vb true]) (fun _ => emp) := by
 refine sp_of fun R H h => ?_
 refine wp_of (fun r => word_Pack_of _ _ H) ?_
 refine w_bind (gtr_f (by omega)) ?_
 with_reducible repeat refine gh ?_
 refine w_bind (gB_y (lss_f ?_)) ?_
 ·omega
 with_reducible repeat refine gh ?_
 refine w_bind (gB_y (geq_f ?_)) ?_
 ·omega
 with_reducible repeat refine gh ?_
 refine w_cond (fun hc => by cases hc) (fun _ => ?_)
 refine w_bind (conv_ui (by omega) (by omega)) ?_
 have e1 : pBin .other .shl (vu (s : Int).toNat) (vw 61) = some (vu (s * 2305843009213693952)) := by
  have := bin_shl_u (cl := .other) (a := s) (k := .u64) (n := 61) (by omega)
  simp only [Nat.reducePow] at this
  rw [Nat.mod_eq_of_lt (by omega)] at this
  simpa using this
 refine w_bind (e1) ?_
 have e2 : pBin .other .or (vu (s * 2305843009213693952)) (vu n) = some (vu (s * 2305843009213693952 + n)) := by
  rw [bin_or (by omega) (by omega)]
  congr 3
  have := Nat.two_pow_add_eq_or_of_lt (i := 61) (b := n) (by simp only [Nat.reducePow]; omega) s
  simp only [Nat.reducePow] at this
  rw [Nat.mul_comm, ← this]
 refine w_bind (e2) ?_
 exact w_ret ⟨(), rfl, h.to⟩
theorem r01_pack (n : Nat) (s : Nat) (hn : n ≤ 2305843009213693951) (hs : s < 3) : Sp n_r01_Pack [vu n, vi (s : Int)] emp (fun _ : Unit => .tuple #[vu (s * 2305843009213693952 + n), vb true]) (fun _ => emp) := by
 refine sp_of fun R H h => ?_
 refine wp_of (fun r => r01_Pack_of _ _ H) ?_
 refine w_bind (gtr_f (by omega)) ?_
 with_reducible repeat refine gh ?_
 refine w_bind (gB_y (lss_f ?_)) ?_
 ·omega
 with_reducible repeat refine gh ?_
 refine w_bind (gB_y (gtr_f ?_)) ?_
 ·omega
 with_reducible repeat refine gh ?_
 refine w_cond (fun hc => by cases hc) (fun _ => ?_)
 refine w_bind (conv_ui (by omega) (by omega)) ?_
 have hs2 : (s : Int).toNat = s := by omega
 rw [hs2]
 refine w_bind (mul61 (by omega)) ?_
 refine w_bind (bin_add_u (by omega)) ?_
 exact w_ret ⟨(), rfl, h.to⟩
theorem wCount_le (w : Nat) : wCount w ≤ 2305843009213693951 := by unfold wCount; split <;> omega
theorem wT0_s {w : Nat} (h : wRight w = true ∧ wState w ≠ 2 ∧ wCount w < 2305843009213693951) : wTurn w 0 = some (wCount w + 1 + 2305843009213693952) := if_pos h
theorem wT0_n {w : Nat} (h : ¬ (wRight w = true ∧ wState w ≠ 2 ∧ wCount w < 2305843009213693951)) : wTurn w 0 = none := if_neg h
theorem wT1_s {w : Nat} (h : wState w = 1) : wTurn w 1 = some (wCount w) := if_pos h
theorem wT1_n {w : Nat} (h : ¬ wState w = 1) : wTurn w 1 = none := if_neg h
theorem wT2_s {w : Nat} (h : wState w = 0) : wTurn w 2 = some (wCount w + 4611686018427387904) := if_pos h
theorem wT2_n {w : Nat} (h : ¬ wState w = 0) : wTurn w 2 = none := if_neg h
theorem word_more (w : Nat) (hw : w < 18446744073709551616) : Sp n_word_More [vu w] emp (fun _ : Unit => optV (wTurn w 0)) (fun _ => emp) := by
 refine sp_of fun R H h => ?_
 refine wp_of (fun r => word_More_of _ H) ?_
 have hcl := wCount_le w
 refine w_call (by assumption) (word_right w) fun _ _ _ => ?_
 refine w_bind (un_not) ?_
 by_cases hr : wRight w = true
 ·rw [hr, Bool.not_true]
  with_reducible repeat refine gh ?_
  refine w_call (by assumption) (word_state w hw) fun _ _ _ => ?_
  refine w_bind (gB_y (bin_eql)) ?_
  by_cases hs : wState w = 2
  ·rw [beq_iff_eq.2 hs]
   with_reducible repeat refine gh ?_
   refine w_cond (fun _ => ?_) (fun hc => by cases hc)
   exact w_ret ⟨(), by rw [wT0_n (fun h => h.2.1 hs)]; rfl, Holds.to (by assumption)⟩
  ·rw [beq_eq_false_iff_ne.2 hs]
   with_reducible repeat refine gh ?_
   refine w_call (by assumption) (word_count w hw) fun _ _ _ => ?_
   refine w_bind (gB_y (bin_eql)) ?_
   with_reducible repeat refine gh ?_
   refine w_cond (fun hc => ?_) (fun hc => ?_)
   ·have hc : (wCount w : Int) = 2305843009213693951 := by simpa using hc
    exact w_ret ⟨(), by rw [wT0_n (fun h => by have := h.2.2; omega)]; rfl, Holds.to (by assumption)⟩
   ·have hc : ¬ (wCount w : Int) = 2305843009213693951 := by simpa using hc
    have ht := wT0_s (w := w) ⟨hr, hs, by omega⟩
    refine w_call (by assumption) (word_count w hw) fun _ _ _ => ?_
    refine w_bind (bin_add_u (b := 1) (by omega)) ?_
    refine w_call (by assumption) (word_pack (wCount w + 1) 1 (by omega) (by omega)) fun _ _ _ => ?_
    refine w_bind rfl ?_
    refine w_bind rfl ?_
    refine w_ret ⟨(), ?_, Holds.to (by assumption)⟩
    rw [ht]
    simp [optV]
    omega
 ·have hr : wRight w = false := by simpa using hr
  rw [hr, Bool.not_false]
  with_reducible repeat refine gh ?_
  refine w_cond (fun _ => ?_) (fun hc => by cases hc)
  exact w_ret ⟨(), by rw [wT0_n (fun h => by rw [hr] at h; cases h.1)]; rfl, Holds.to (by assumption)⟩
theorem r01_turned (w how : Nat) (hw : w < 18446744073709551616) (hh : how < 3) : Sp n_r01_Turned [vu w, vi (how : Int)] emp (fun _ : Unit => optV (wTurn w how)) (fun _ => emp) := by
 refine sp_of fun R H h => ?_
 refine wp_of (fun r => r01_Turned_of _ _ H) ?_
 have hcl := wCount_le w
 refine w_call (by assumption) (r01_parts w hw) fun _ H1 h1 => ?_
 refine w_bind rfl ?_
 refine w_bind rfl ?_
 refine w_bind rfl ?_
 refine wp_eq (r01_Turned_k0_eq _ _ _ _ _ _ H1) ?_
 refine w_bind (un_not) ?_
 refine w_cond (fun hc => ?_) (fun hc => ?_)
 ·have hc : wRight w = false := by simpa using hc
  have : wTurn w how = none := by
   match how, hh with
   | 0, _ => simp [wTurn, hc]
   | 1, _ => simp [wTurn, wState, hc]
   | 2, _ => simp [wTurn, wState, hc]
  exact w_ret ⟨(), by rw [this]; rfl, Holds.to (by assumption)⟩
 ·have hr : wRight w = true := by simpa using hc
  match how, hh with
  | 0, _ =>
   refine w_bind (eql_t rfl) ?_
   with_reducible repeat refine gh ?_
   refine w_bind (gB_y (bin_neq)) ?_
   with_reducible repeat refine gh ?_
   by_cases hs : wState w = 2
   ·rw [bne_eq_false_iff_eq.2 hs]
    with_reducible repeat refine gh ?_
    refine w_cond (fun hc => by cases hc) (fun _ => ?_)
    refine w_bind (eql_f ?_) ?_
    ·omega
    with_reducible repeat refine gh ?_
    refine w_cond (fun hc => by cases hc) (fun _ => ?_)
    refine w_bind (eql_f ?_) ?_
    ·omega
    with_reducible repeat refine gh ?_
    refine w_cond (fun hc => by cases hc) (fun _ => ?_)
    refine wp_eq (r01_Turned_k1_eq _ _ H1) ?_
    exact w_ret ⟨(), by rw [wT0_n (fun h => h.2.1 hs)]; rfl, Holds.to (by assumption)⟩
   ·rw [bne_iff_ne.2 hs]
    with_reducible repeat refine gh ?_
    refine w_bind (gB_y (bin_lss)) ?_
    with_reducible repeat refine gh ?_
    refine w_cond (fun hc => ?_) (fun hc => ?_)
    ·have hc : (wCount w : Int) < 2305843009213693951 := by simpa using hc
     have ht := wT0_s (w := w) ⟨hr, hs, by omega⟩
     refine w_bind (bin_add_u (b := 1) (by omega)) ?_
     refine w_call (by assumption) (r01_pack (wCount w + 1) 1 (by omega) (by omega)) fun _ _ _ => ?_
     refine w_bind rfl ?_
     refine w_bind rfl ?_
     refine w_ret ⟨(), ?_, Holds.to (by assumption)⟩
     rw [ht]
     simp [optV]
     omega
    ·have hc : ¬ (wCount w : Int) < 2305843009213693951 := by simpa using hc
     refine w_bind (eql_f ?_) ?_
     ·omega
     with_reducible repeat refine gh ?_
     refine w_cond (fun hc => by cases hc) (fun _ => ?_)
     refine w_bind (eql_f ?_) ?_
     ·omega
     with_reducible repeat refine gh ?_
     refine w_cond (fun hc => by cases hc) (fun _ => ?_)
     refine wp_eq (r01_Turned_k1_eq _ _ H1) ?_
     exact w_ret ⟨(), by rw [wT0_n (fun h => by have := h.2.2; omega)]; rfl, Holds.to (by assumption)⟩
  | 1, _ =>
   refine w_bind (eql_f ?_) ?_
   ·omega
   with_reducible repeat refine gh ?_
   refine w_cond (fun hc => by cases hc) (fun _ => ?_)
   refine w_bind (eql_t rfl) ?_
   with_reducible repeat refine gh ?_
   refine w_bind (gB_y (bin_eql)) ?_
   with_reducible repeat refine gh ?_
   refine w_cond (fun hc => ?_) (fun hc => ?_)
   ·have hc : wState w = 1 := by simpa using hc
    refine w_call (by assumption) (r01_pack (wCount w) 0 (by omega) (by omega)) fun _ _ _ => ?_
    refine w_bind rfl ?_
    refine w_bind rfl ?_
    exact w_ret ⟨(), by rw [wT1_s hc]; simp [optV], Holds.to (by assumption)⟩
   ·have hc : ¬ wState w = 1 := by simpa using hc
    refine w_bind (eql_f ?_) ?_
    ·omega
    with_reducible repeat refine gh ?_
    refine w_cond (fun hc => by cases hc) (fun _ => ?_)
    refine wp_eq (r01_Turned_k1_eq _ _ H1) ?_
    exact w_ret ⟨(), by rw [wT1_n hc]; rfl, Holds.to (by assumption)⟩
  | 2, _ =>
   refine w_bind (eql_f ?_) ?_
   ·omega
   with_reducible repeat refine gh ?_
   refine w_cond (fun hc => by cases hc) (fun _ => ?_)
   refine w_bind (eql_f ?_) ?_
   ·omega
   with_reducible repeat refine gh ?_
   refine w_cond (fun hc => by cases hc) (fun _ => ?_)
   refine w_bind (eql_t rfl) ?_
   with_reducible repeat refine gh ?_
   refine w_bind (gB_y (bin_eql)) ?_
   with_reducible repeat refine gh ?_
   refine w_cond (fun hc => ?_) (fun hc => ?_)
   ·have hc : wState w = 0 := by simpa using hc
    refine w_call (by assumption) (r01_pack (wCount w) 2 (by omega) (by omega)) fun _ _ _ => ?_
    refine w_bind rfl ?_
    refine w_bind rfl ?_
    refine w_ret ⟨(), ?_, Holds.to (by assumption)⟩
    rw [wT2_s hc]
    simp [optV]
    omega
   ·have hc : ¬ wState w = 0 := by simpa using hc
    refine wp_eq (r01_Turned_k1_eq _ _ H1) ?_
    exact w_ret ⟨(), by rw [wT2_n hc]; rfl, Holds.to (by assumption)⟩
theorem table_mutex (s : Int) : Sp n_table_mutex [vi s] emp (fun _ : Unit => encL (8, s, 0)) (fun _ => emp) := by
 refine sp_of fun R H h => ?_
 refine wp_of (fun r => table_mutex_of _ H) ?_
 repeat (first | refine w_newC ‹_› fun _ _ _ => ?_ | refine w_new ‹_› fun _ _ _ => ?_ | refine w_map ‹_› fun _ _ _ => ?_ | refine w_LdN ‹_› ?_ | refine w_ld ‹_› end_nf rfl ?_ | refine w_ld ‹_› end_f0 rfl ?_ | refine w_ldN ‹_› end_nf ?_ | refine w_ldN ‹_› end_f0 ?_ | refine w_ad end_nf ?_ | refine w_ad end_f0 ?_ | refine w_Ld1 ‹_› rfl ?_ | refine w_st ‹_› end_nf rfl rfl fun _ _ => ?_ | refine w_st ‹_› end_f0 rfl rfl fun _ _ => ?_ | refine w_St ‹_› rfl rfl fun _ _ => ?_ | refine w_S ?_ | refine w_R ‹_› fun _ _ _ => ?_ | refine w_eqK_rfl ?_ | refine w_eq1 ‹_› ‹_› rfl ?_ | refine w_eqN ‹_› ‹_› rfl ?_ | refine w_len ?_)
 exact w_ret ⟨(), rfl, Holds.to (by assumption)⟩
theorem table_slot (s i : Int) : Sp n_table_slot [vi s, vi i] emp (fun _ : Unit => encL (10, s, i)) (fun _ => emp) := by
 refine sp_of fun R H h => ?_
 refine wp_of (fun r => table_slot_of _ _ H) ?_
 repeat (first | refine w_newC ‹_› fun _ _ _ => ?_ | refine w_new ‹_› fun _ _ _ => ?_ | refine w_map ‹_› fun _ _ _ => ?_ | refine w_LdN ‹_› ?_ | refine w_ld ‹_› end_nf rfl ?_ | refine w_ld ‹_› end_f0 rfl ?_ | refine w_ldN ‹_› end_nf ?_ | refine w_ldN ‹_› end_f0 ?_ | refine w_ad end_nf ?_ | refine w_ad end_f0 ?_ | refine w_Ld1 ‹_› rfl ?_ | refine w_st ‹_› end_nf rfl rfl fun _ _ => ?_ | refine w_st ‹_› end_f0 rfl rfl fun _ _ => ?_ | refine w_St ‹_› rfl rfl fun _ _ => ?_ | refine w_S ?_ | refine w_R ‹_› fun _ _ _ => ?_ | refine w_eqK_rfl ?_ | refine w_eq1 ‹_› ‹_› rfl ?_ | refine w_eqN ‹_› ‹_› rfl ?_ | refine w_len ?_)
 exact w_ret ⟨(), rfl, Holds.to (by assumption)⟩
theorem r16_loc (k a b : Int) : Sp n_r16_Loc [vi k, vi a, vi b] emp (fun _ : Unit => encL (k, a, b)) (fun _ => emp) := by
 refine sp_of fun R H h => ?_
 refine wp_of (fun r => r16_Loc_of _ _ _ H) ?_
 repeat (first | refine w_newC ‹_› fun _ _ _ => ?_ | refine w_new ‹_› fun _ _ _ => ?_ | refine w_map ‹_› fun _ _ _ => ?_ | refine w_LdN ‹_› ?_ | refine w_ld ‹_› end_nf rfl ?_ | refine w_ld ‹_› end_f0 rfl ?_ | refine w_ldN ‹_› end_nf ?_ | refine w_ldN ‹_› end_f0 ?_ | refine w_ad end_nf ?_ | refine w_ad end_f0 ?_ | refine w_Ld1 ‹_› rfl ?_ | refine w_st ‹_› end_nf rfl rfl fun _ _ => ?_ | refine w_st ‹_› end_f0 rfl rfl fun _ _ => ?_ | refine w_St ‹_› rfl rfl fun _ _ => ?_ | refine w_S ?_ | refine w_R ‹_› fun _ _ _ => ?_ | refine w_eqK_rfl ?_ | refine w_eq1 ‹_› ‹_› rfl ?_ | refine w_eqN ‹_› ‹_› rfl ?_ | refine w_len ?_)
 exact w_ret ⟨(), rfl, Holds.to (by assumption)⟩
def tab (t m : Nat) (sh sl : Nat) : SP := blk t (.cells false [vp m, vi sh, vi sl])
section
variable (t m : Nat) (sh sl : Nat) (μ : Mu) (who s i : Int)
theorem table_slots : Sp n_table_Table_Slots [vp t] (tab t m sh sl) (fun _ : Unit => vi sl) (fun _ => tab t m sh sl) := by
 refine sp_of fun R H h => ?_
 refine wp_of (fun r => table_Table_Slots_of _ H) ?_
 unfold tab at h ⊢
 repeat (first | refine w_newC ‹_› fun _ _ _ => ?_ | refine w_new ‹_› fun _ _ _ => ?_ | refine w_map ‹_› fun _ _ _ => ?_ | refine w_LdN ‹_› ?_ | refine w_ld ‹_› end_nf rfl ?_ | refine w_ld ‹_› end_f0 rfl ?_ | refine w_ldN ‹_› end_nf ?_ | refine w_ldN ‹_› end_f0 ?_ | refine w_ad end_nf ?_ | refine w_ad end_f0 ?_ | refine w_Ld1 ‹_› rfl ?_ | refine w_st ‹_› end_nf rfl rfl fun _ _ => ?_ | refine w_st ‹_› end_f0 rfl rfl fun _ _ => ?_ | refine w_St ‹_› rfl rfl fun _ _ => ?_ | refine w_S ?_ | refine w_R ‹_› fun _ _ _ => ?_ | refine w_eqK_rfl ?_ | refine w_eq1 ‹_› ‹_› rfl ?_ | refine w_eqN ‹_› ‹_› rfl ?_ | refine w_len ?_)
 exact w_ret ⟨(), rfl, Holds.to (by assumption)⟩
theorem table_lock (hE : μ.N < 1099511627000) : Sp n_table_Table_Lock [vp t, vi who, vi s] (tab t m sh sl * memP m μ) (fun _ : Unit => vb (decide (μ.V (8, s, 0) = 0))) (fun _ => tab t m sh sl * memP m (μ.swp who (8, s, 0) 0 1)) := by
 refine sp_of fun R H h => ?_
 refine wp_of (fun r => table_Table_Lock_of _ _ _ H) ?_
 unfold tab at h ⊢
 repeat (first | refine w_newC ‹_› fun _ _ _ => ?_ | refine w_new ‹_› fun _ _ _ => ?_ | refine w_map ‹_› fun _ _ _ => ?_ | refine w_LdN ‹_› ?_ | refine w_ld ‹_› end_nf rfl ?_ | refine w_ld ‹_› end_f0 rfl ?_ | refine w_ldN ‹_› end_nf ?_ | refine w_ldN ‹_› end_f0 ?_ | refine w_ad end_nf ?_ | refine w_ad end_f0 ?_ | refine w_Ld1 ‹_› rfl ?_ | refine w_st ‹_› end_nf rfl rfl fun _ _ => ?_ | refine w_st ‹_› end_f0 rfl rfl fun _ _ => ?_ | refine w_St ‹_› rfl rfl fun _ _ => ?_ | refine w_S ?_ | refine w_R ‹_› fun _ _ _ => ?_ | refine w_eqK_rfl ?_ | refine w_eq1 ‹_› ‹_› rfl ?_ | refine w_eqN ‹_› ‹_› rfl ?_ | refine w_len ?_)
 refine w_call (by assumption) (table_mutex s) fun _ _ _ => ?_
 repeat (first | refine w_newC ‹_› fun _ _ _ => ?_ | refine w_new ‹_› fun _ _ _ => ?_ | refine w_map ‹_› fun _ _ _ => ?_ | refine w_LdN ‹_› ?_ | refine w_ld ‹_› end_nf rfl ?_ | refine w_ld ‹_› end_f0 rfl ?_ | refine w_ldN ‹_› end_nf ?_ | refine w_ldN ‹_› end_f0 ?_ | refine w_ad end_nf ?_ | refine w_ad end_f0 ?_ | refine w_Ld1 ‹_› rfl ?_ | refine w_st ‹_› end_nf rfl rfl fun _ _ => ?_ | refine w_st ‹_› end_f0 rfl rfl fun _ _ => ?_ | refine w_St ‹_› rfl rfl fun _ _ => ?_ | refine w_S ?_ | refine w_R ‹_› fun _ _ _ => ?_ | refine w_eqK_rfl ?_ | refine w_eq1 ‹_› ‹_› rfl ?_ | refine w_eqN ‹_› ‹_› rfl ?_ | refine w_len ?_)
 refine w_call (by assumption) (p_swap m μ who (8, s, 0) 0 1 (by omega)) fun _ _ _ => ?_
 exact w_ret ⟨(), rfl, Holds.to (by assumption)⟩
theorem table_unlock (hE : μ.N < 1099511627000) : Sp n_table_Table_Unlock [vp t, vi who, vi s] (tab t m sh sl * memP m μ) (fun _ : Unit => .tuple #[]) (fun _ => tab t m sh sl * memP m ((μ.acc who 2 (8, s, 0)).put (8, s, 0) 0)) := by
 refine sp_of fun R H h => ?_
 refine wp_of (fun r => table_Table_Unlock_of _ _ _ H) ?_
 unfold tab at h ⊢
 repeat (first | refine w_newC ‹_› fun _ _ _ => ?_ | refine w_new ‹_› fun _ _ _ => ?_ | refine w_map ‹_› fun _ _ _ => ?_ | refine w_LdN ‹_› ?_ | refine w_ld ‹_› end_nf rfl ?_ | refine w_ld ‹_› end_f0 rfl ?_ | refine w_ldN ‹_› end_nf ?_ | refine w_ldN ‹_› end_f0 ?_ | refine w_ad end_nf ?_ | refine w_ad end_f0 ?_ | refine w_Ld1 ‹_› rfl ?_ | refine w_st ‹_› end_nf rfl rfl fun _ _ => ?_ | refine w_st ‹_› end_f0 rfl rfl fun _ _ => ?_ | refine w_St ‹_› rfl rfl fun _ _ => ?_ | refine w_S ?_ | refine w_R ‹_› fun _ _ _ => ?_ | refine w_eqK_rfl ?_ | refine w_eq1 ‹_› ‹_› rfl ?_ | refine w_eqN ‹_› ‹_› rfl ?_ | refine w_len ?_)
 refine w_call (by assumption) (table_mutex s) fun _ _ _ => ?_
 repeat (first | refine w_newC ‹_› fun _ _ _ => ?_ | refine w_new ‹_› fun _ _ _ => ?_ | refine w_map ‹_› fun _ _ _ => ?_ | refine w_LdN ‹_› ?_ | refine w_ld ‹_› end_nf rfl ?_ | refine w_ld ‹_› end_f0 rfl ?_ | refine w_ldN ‹_› end_nf ?_ | refine w_ldN ‹_› end_f0 ?_ | refine w_ad end_nf ?_ | refine w_ad end_f0 ?_ | refine w_Ld1 ‹_› rfl ?_ | refine w_st ‹_› end_nf rfl rfl fun _ _ => ?_ | refine w_st ‹_› end_f0 rfl rfl fun _ _ => ?_ | refine w_St ‹_› rfl rfl fun _ _ => ?_ | refine w_S ?_ | refine w_R ‹_› fun _ _ _ => ?_ | refine w_eqK_rfl ?_ | refine w_eq1 ‹_› ‹_› rfl ?_ | refine w_eqN ‹_› ‹_› rfl ?_ | refine w_len ?_)
 refine w_call (by assumption) (p_store m μ who (8, s, 0) 0 (by omega)) fun _ _ _ => ?_
 exact w_ret ⟨(), rfl, Holds.to (by assumption)⟩
theorem r16_lock (hE : μ.N < 1099511627000) : Sp n_r16_Table_Lock [vp t, vi who, vi s] (tab t m sh sl * memX m μ) (fun _ : Unit => vb (decide (μ.V (8, s, 0) = 0))) (fun _ => tab t m sh sl * memX m (μ.swp who (8, s, 0) 0 1)) := by
 refine sp_of fun R H h => ?_
 refine wp_of (fun r => r16_Table_Lock_of _ _ _ H) ?_
 unfold tab at h ⊢
 repeat (first | refine w_newC ‹_› fun _ _ _ => ?_ | refine w_new ‹_› fun _ _ _ => ?_ | refine w_map ‹_› fun _ _ _ => ?_ | refine w_LdN ‹_› ?_ | refine w_ld ‹_› end_nf rfl ?_ | refine w_ld ‹_› end_f0 rfl ?_ | refine w_ldN ‹_› end_nf ?_ | refine w_ldN ‹_› end_f0 ?_ | refine w_ad end_nf ?_ | refine w_ad end_f0 ?_ | refine w_Ld1 ‹_› rfl ?_ | refine w_st ‹_› end_nf rfl rfl fun _ _ => ?_ | refine w_st ‹_› end_f0 rfl rfl fun _ _ => ?_ | refine w_St ‹_› rfl rfl fun _ _ => ?_ | refine w_S ?_ | refine w_R ‹_› fun _ _ _ => ?_ | refine w_eqK_rfl ?_ | refine w_eq1 ‹_› ‹_› rfl ?_ | refine w_eqN ‹_› ‹_› rfl ?_ | refine w_len ?_)
 refine w_call (by assumption) (r16_loc 8 s 0) fun _ _ _ => ?_
 repeat (first | refine w_newC ‹_› fun _ _ _ => ?_ | refine w_new ‹_› fun _ _ _ => ?_ | refine w_map ‹_› fun _ _ _ => ?_ | refine w_LdN ‹_› ?_ | refine w_ld ‹_› end_nf rfl ?_ | refine w_ld ‹_› end_f0 rfl ?_ | refine w_ldN ‹_› end_nf ?_ | refine w_ldN ‹_› end_f0 ?_ | refine w_ad end_nf ?_ | refine w_ad end_f0 ?_ | refine w_Ld1 ‹_› rfl ?_ | refine w_st ‹_› end_nf rfl rfl fun _ _ => ?_ | refine w_st ‹_› end_f0 rfl rfl fun _ _ => ?_ | refine w_St ‹_› rfl rfl fun _ _ => ?_ | refine w_S ?_ | refine w_R ‹_› fun _ _ _ => ?_ | refine w_eqK_rfl ?_ | refine w_eq1 ‹_› ‹_› rfl ?_ | refine w_eqN ‹_› ‹_› rfl ?_ | refine w_len ?_)
 refine w_call (by assumption) (r16_swap m μ who (8, s, 0) 0 1 (by omega)) fun _ _ _ => ?_
 exact w_ret ⟨(), rfl, Holds.to (by assumption)⟩
theorem r16_unlock (hE : μ.N < 1099511627000) : Sp n_r16_Table_Unlock [vp t, vi who, vi s] (tab t m sh sl * memX m μ) (fun _ : Unit => .tuple #[]) (fun _ => tab t m sh sl * memX m ((μ.acc who 2 (8, s, 0)).put (8, s, 0) 0)) := by
 refine sp_of fun R H h => ?_
 refine wp_of (fun r => r16_Table_Unlock_of _ _ _ H) ?_
 unfold tab at h ⊢
 repeat (first | refine w_newC ‹_› fun _ _ _ => ?_ | refine w_new ‹_› fun _ _ _ => ?_ | refine w_map ‹_› fun _ _ _ => ?_ | refine w_LdN ‹_› ?_ | refine w_ld ‹_› end_nf rfl ?_ | refine w_ld ‹_› end_f0 rfl ?_ | refine w_ldN ‹_› end_nf ?_ | refine w_ldN ‹_› end_f0 ?_ | refine w_ad end_nf ?_ | refine w_ad end_f0 ?_ | refine w_Ld1 ‹_› rfl ?_ | refine w_st ‹_› end_nf rfl rfl fun _ _ => ?_ | refine w_st ‹_› end_f0 rfl rfl fun _ _ => ?_ | refine w_St ‹_› rfl rfl fun _ _ => ?_ | refine w_S ?_ | refine w_R ‹_› fun _ _ _ => ?_ | refine w_eqK_rfl ?_ | refine w_eq1 ‹_› ‹_› rfl ?_ | refine w_eqN ‹_› ‹_› rfl ?_ | refine w_len ?_)
 refine w_call (by assumption) (r16_loc 8 s 0) fun _ _ _ => ?_
 repeat (first | refine w_newC ‹_› fun _ _ _ => ?_ | refine w_new ‹_› fun _ _ _ => ?_ | refine w_map ‹_› fun _ _ _ => ?_ | refine w_LdN ‹_› ?_ | refine w_ld ‹_› end_nf rfl ?_ | refine w_ld ‹_› end_f0 rfl ?_ | refine w_ldN ‹_› end_nf ?_ | refine w_ldN ‹_› end_f0 ?_ | refine w_ad end_nf ?_ | refine w_ad end_f0 ?_ | refine w_Ld1 ‹_› rfl ?_ | refine w_st ‹_› end_nf rfl rfl fun _ _ => ?_ | refine w_st ‹_› end_f0 rfl rfl fun _ _ => ?_ | refine w_St ‹_› rfl rfl fun _ _ => ?_ | refine w_S ?_ | refine w_R ‹_› fun _ _ _ => ?_ | refine w_eqK_rfl ?_ | refine w_eq1 ‹_› ‹_› rfl ?_ | refine w_eqN ‹_› ‹_› rfl ?_ | refine w_len ?_)
 refine w_call (by assumption) (r16_store m μ who (8, s, 0) 0 (by omega)) fun _ _ _ => ?_
 exact w_ret ⟨(), rfl, Holds.to (by assumption)⟩
def slotV (v : Nat) : Value := if v = 0 then .tuple #[vi 0, vi 0, vb false] else .tuple #[vi ((v / 4294967296 : Nat) - 1), vi (v % 4294967296 : Nat), vb true]
theorem table_slotV (hE : μ.N < 1099511627000) (hV : μ.V (10, s, i) < 18446744073709551616) :
  Sp n_table_Table_Slot [vp t, vi who, vi s, vi i] (tab t m sh sl * memP m μ) (fun _ : Unit => slotV (μ.V (10, s, i))) (fun _ => tab t m sh sl * memP m (μ.acc who 1 (10, s, i))) := by
 refine sp_of fun R H h => ?_
 refine wp_of (fun r => table_Table_Slot_of _ _ _ _ H) ?_
 unfold tab at h ⊢
 repeat (first | refine w_newC ‹_› fun _ _ _ => ?_ | refine w_new ‹_› fun _ _ _ => ?_ | refine w_map ‹_› fun _ _ _ => ?_ | refine w_LdN ‹_› ?_ | refine w_ld ‹_› end_nf rfl ?_ | refine w_ld ‹_› end_f0 rfl ?_ | refine w_ldN ‹_› end_nf ?_ | refine w_ldN ‹_› end_f0 ?_ | refine w_ad end_nf ?_ | refine w_ad end_f0 ?_ | refine w_Ld1 ‹_› rfl ?_ | refine w_st ‹_› end_nf rfl rfl fun _ _ => ?_ | refine w_st ‹_› end_f0 rfl rfl fun _ _ => ?_ | refine w_St ‹_› rfl rfl fun _ _ => ?_ | refine w_S ?_ | refine w_R ‹_› fun _ _ _ => ?_ | refine w_eqK_rfl ?_ | refine w_eq1 ‹_› ‹_› rfl ?_ | refine w_eqN ‹_› ‹_› rfl ?_ | refine w_len ?_)
 refine w_call (by assumption) (table_slot s i) fun _ _ _ => ?_
 repeat (first | refine w_newC ‹_› fun _ _ _ => ?_ | refine w_new ‹_› fun _ _ _ => ?_ | refine w_map ‹_› fun _ _ _ => ?_ | refine w_LdN ‹_› ?_ | refine w_ld ‹_› end_nf rfl ?_ | refine w_ld ‹_› end_f0 rfl ?_ | refine w_ldN ‹_› end_nf ?_ | refine w_ldN ‹_› end_f0 ?_ | refine w_ad end_nf ?_ | refine w_ad end_f0 ?_ | refine w_Ld1 ‹_› rfl ?_ | refine w_st ‹_› end_nf rfl rfl fun _ _ => ?_ | refine w_st ‹_› end_f0 rfl rfl fun _ _ => ?_ | refine w_St ‹_› rfl rfl fun _ _ => ?_ | refine w_S ?_ | refine w_R ‹_› fun _ _ _ => ?_ | refine w_eqK_rfl ?_ | refine w_eq1 ‹_› ‹_› rfl ?_ | refine w_eqN ‹_› ‹_› rfl ?_ | refine w_len ?_)
 refine w_call (by assumption) (p_load m μ who (10, s, i) (by omega)) fun _ _ _ => ?_
 refine w_bind (eql_u (b := 0)) ?_
 refine w_cond (fun hc => ?_) (fun hc => ?_)
 ·have hc : μ.V (10, s, i) = 0 := by simpa using hc
  refine w_ret ⟨(), by rw [slotV, if_pos hc], Holds.to (by assumption)⟩
 ·have hc : ¬ μ.V (10, s, i) = 0 := by simpa using hc
  refine w_bind (shr32) ?_
  refine w_bind (conv_iu (by omega)) ?_
  refine w_bind (bin_sub_i (by omega) (by omega)) ?_
  refine w_bind (and32 hV) ?_
  refine w_bind (conv_iu (by omega)) ?_
  refine w_ret ⟨(), by rw [slotV, if_neg hc], Holds.to (by assumption)⟩
theorem r16_slotV (hE : μ.N < 1099511627000) (hV : μ.V (10, s, i) < 18446744073709551616) :
  Sp n_r16_Table_Slot [vp t, vi who, vi s, vi i] (tab t m sh sl * memX m μ) (fun _ : Unit => slotV (μ.V (10, s, i))) (fun _ => tab t m sh sl * memX m (μ.acc who 1 (10, s, i))) := by
 refine sp_of fun R H h => ?_
 refine wp_of (fun r => r16_Table_Slot_of _ _ _ _ H) ?_
 unfold tab at h ⊢
 repeat (first | refine w_newC ‹_› fun _ _ _ => ?_ | refine w_new ‹_› fun _ _ _ => ?_ | refine w_map ‹_› fun _ _ _ => ?_ | refine w_LdN ‹_› ?_ | refine w_ld ‹_› end_nf rfl ?_ | refine w_ld ‹_› end_f0 rfl ?_ | refine w_ldN ‹_› end_nf ?_ | refine w_ldN ‹_› end_f0 ?_ | refine w_ad end_nf ?_ | refine w_ad end_f0 ?_ | refine w_Ld1 ‹_› rfl ?_ | refine w_st ‹_› end_nf rfl rfl fun _ _ => ?_ | refine w_st ‹_› end_f0 rfl rfl fun _ _ => ?_ | refine w_St ‹_› rfl rfl fun _ _ => ?_ | refine w_S ?_ | refine w_R ‹_› fun _ _ _ => ?_ | refine w_eqK_rfl ?_ | refine w_eq1 ‹_› ‹_› rfl ?_ | refine w_eqN ‹_› ‹_› rfl ?_ | refine w_len ?_)
 refine w_call (by assumption) (r16_loc 10 s i) fun _ _ _ => ?_
 repeat (first | refine w_newC ‹_› fun _ _ _ => ?_ | refine w_new ‹_› fun _ _ _ => ?_ | refine w_map ‹_› fun _ _ _ => ?_ | refine w_LdN ‹_› ?_ | refine w_ld ‹_› end_nf rfl ?_ | refine w_ld ‹_› end_f0 rfl ?_ | refine w_ldN ‹_› end_nf ?_ | refine w_ldN ‹_› end_f0 ?_ | refine w_ad end_nf ?_ | refine w_ad end_f0 ?_ | refine w_Ld1 ‹_› rfl ?_ | refine w_st ‹_› end_nf rfl rfl fun _ _ => ?_ | refine w_st ‹_› end_f0 rfl rfl fun _ _ => ?_ | refine w_St ‹_› rfl rfl fun _ _ => ?_ | refine w_S ?_ | refine w_R ‹_› fun _ _ _ => ?_ | refine w_eqK_rfl ?_ | refine w_eq1 ‹_› ‹_› rfl ?_ | refine w_eqN ‹_› ‹_› rfl ?_ | refine w_len ?_)
 refine w_call (by assumption) (r16_load m μ who (10, s, i) (by omega)) fun _ _ _ => ?_
 refine w_bind (eql_u (b := 0)) ?_
 refine w_cond (fun hc => ?_) (fun hc => ?_)
 ·have hc : μ.V (10, s, i) = 0 := by simpa using hc
  refine w_ret ⟨(), by rw [slotV, if_pos hc], Holds.to (by assumption)⟩
 ·have hc : ¬ μ.V (10, s, i) = 0 := by simpa using hc
  refine w_bind (quo32 hV) ?_
  refine w_bind (conv_iu (by omega)) ?_
  refine w_bind (bin_sub_i (by omega) (by omega)) ?_
  refine w_bind (rem32) ?_
  refine w_bind (conv_iu (by omega)) ?_
  refine w_ret ⟨(), by rw [slotV, if_neg hc], Holds.to (by assumption)⟩
end
def modI (v n : Int) : Int := (v % 18446744073709551616) % n
theorem modI_lt {v n : Int} (h : 0 < n) : 0 ≤ modI v n ∧ modI v n < n := ⟨Int.emod_nonneg _ (by omega), Int.emod_lt_of_pos _ h⟩
theorem play_mod (v n : Int) (h0 : 0 < n) (h1 : n < 9223372036854775808) : Sp n_play_Mod [vi v, vi n] emp (fun _ : Unit => vi (modI v n)) (fun _ => emp) := by
 refine sp_of fun R H h => ?_
 refine wp_of (fun r => play_Mod_of _ _ H) ?_
 have e1 : pConv (some .u64) (vi v) = some (vu (v % 18446744073709551616).toNat) := by
  simp only [pConv]
  rw [wrap_u]
  have : 0 ≤ v % 18446744073709551616 := Int.emod_nonneg _ (by omega)
  show _ = some (Value.int .u64 (((v % 18446744073709551616).toNat : Nat) : Int))
  rw [Int.toNat_of_nonneg this]
 refine w_bind (e1) ?_
 refine w_bind (conv_ui (by omega) (by omega)) ?_
 refine w_bind (bin_rem_u (by omega)) ?_
 have hm := modI_lt (v := v) h0
 have e2 : (((v % 18446744073709551616).toNat % n.toNat : Nat) : Int) = modI v n := by
  have : 0 ≤ v % 18446744073709551616 := Int.emod_nonneg _ (by omega)
  unfold modI
  rw [Int.natCast_emod, Int.toNat_of_nonneg this, Int.toNat_of_nonneg (by omega)]
 refine w_bind (conv_iu (by omega)) ?_
 rw [e2]
 exact w_ret ⟨(), rfl, Holds.to (by assumption)⟩
structure Cfg where
 sh : Int
 sl : Int
 wk : Int
 wd : Int
 un : Nat
abbrev Cfg.cells (c : Cfg) : List Value := [vi c.sh, vi c.sl, vi c.wk, vi c.wd, vu c.un]
structure Cl where
 op : Int
 flow : Int
 a : Int
 b : Int
abbrev Cl.cells (x : Cl) : List Value := [vi x.op, vi x.flow, vi x.a, vi x.b]
instance : Enc Cl.cells 4 := ⟨fun _ => rfl, fun _ => rfl, by omega⟩
structure Sv where
 a : Option Addr
 n : Nat
 c : Nat
abbrev Sv.v (s : Sv) : Value := .slice s.a s.n s.c
abbrev encS (s : Sv) : List Value := [.slice s.a s.n s.c]
instance : Enc encS 1 := ⟨fun _ => rfl, fun _ => rfl, by omega⟩
def rightB (c : Cfg) : Bool := decide (1 ≤ c.sh ∧ c.sh ≤ 4 ∧ 1 ≤ c.sl ∧ c.sl ≤ 4 ∧ 1 ≤ c.wk ∧ c.wk ≤ 6 ∧ 0 ≤ c.wd ∧ c.wd ≤ 40 ∧ 1 ≤ c.un ∧ c.un ≤ 4611686018427387904)
theorem rightB_iff {c : Cfg} : rightB c = true ↔ (1 ≤ c.sh ∧ c.sh ≤ 4 ∧ 1 ≤ c.sl ∧ c.sl ≤ 4 ∧ 1 ≤ c.wk ∧ c.wk ≤ 6 ∧ 0 ≤ c.wd ∧ c.wd ≤ 40 ∧ 1 ≤ c.un ∧ c.un ≤ 4611686018427387904) := by unfold rightB; exact decide_eq_true_iff
theorem rightB_no {c : Cfg} (h : ¬ (1 ≤ c.sh ∧ c.sh ≤ 4 ∧ 1 ≤ c.sl ∧ c.sl ≤ 4 ∧ 1 ≤ c.wk ∧ c.wk ≤ 6 ∧ 0 ≤ c.wd ∧ c.wd ≤ 40 ∧ 1 ≤ c.un ∧ c.un ≤ 4611686018427387904)) : rightB c = false := by unfold rightB; exact decide_eq_false h
theorem model_within_law (x a b : Int) : Sp n_model_within [vi x, vi a, vi b] emp (fun _ : Unit => vb (decide (a ≤ x ∧ x ≤ b))) (fun _ => emp) := by
 refine sp_of fun R H h => ?_
 refine wp_of (fun r => model_within_of _ _ _ H) ?_
 by_cases h1 : a ≤ x
 ·refine w_bind (geq_t h1) ?_
  with_reducible repeat refine gg ?_
  by_cases h2 : x ≤ b
  ·refine w_bind (leq_t h2) ?_
   with_reducible repeat refine gg ?_
   rw [decide_eq_true ⟨h1, h2⟩]
   exact w_ret ⟨(), rfl, Holds.to (by assumption)⟩
  ·refine w_bind (leq_f h2) ?_
   with_reducible repeat refine gg ?_
   rw [decide_eq_false (fun h => h2 h.2)]
   exact w_ret ⟨(), rfl, Holds.to (by assumption)⟩
 ·refine w_bind (geq_f h1) ?_
  with_reducible repeat refine gg ?_
  rw [decide_eq_false (fun h => h1 h.1)]
  exact w_ret ⟨(), rfl, Holds.to (by assumption)⟩
theorem model_right (c : Cfg) : Sp n_model_Right [.agg (Cfg.cells c).toArray] emp (fun _ : Unit => vb (rightB c)) (fun _ => emp) := by
 refine sp_of fun R H h => ?_
 refine wp_of (fun r => model_Right_of _ H) ?_
 refine w_newC h fun b H1 h1 => ?_
 refine w_ld h1 end_f0 rfl ?_
 refine w_call h1 (model_within_law c.sh 1 4) fun _ K0 k0 => ?_
 by_cases g0 : (1 : Int) ≤ c.sh ∧ c.sh ≤ 4
 case neg =>
  rw [decide_eq_false g0]
  with_reducible repeat refine gg ?_
  rw [rightB_no (by omega)]
  exact w_ret ⟨(), rfl, Holds.to (by assumption)⟩
 rw [decide_eq_true g0]
 with_reducible repeat refine gg ?_
 refine w_ld k0 end_f0 rfl ?_
 with_reducible repeat refine gg ?_
 refine w_call k0 (model_within_law c.sl 1 4) fun _ K1 k1 => ?_
 by_cases g1 : (1 : Int) ≤ c.sl ∧ c.sl ≤ 4
 case neg =>
  rw [decide_eq_false g1]
  with_reducible repeat refine gg ?_
  rw [rightB_no (by omega)]
  exact w_ret ⟨(), rfl, Holds.to (by assumption)⟩
 rw [decide_eq_true g1]
 with_reducible repeat refine gg ?_
 refine w_ld k1 end_f0 rfl ?_
 with_reducible repeat refine gg ?_
 refine w_call k1 (model_within_law c.wk 1 6) fun _ K2 k2 => ?_
 by_cases g2 : (1 : Int) ≤ c.wk ∧ c.wk ≤ 6
 case neg =>
  rw [decide_eq_false g2]
  with_reducible repeat refine gg ?_
  rw [rightB_no (by omega)]
  exact w_ret ⟨(), rfl, Holds.to (by assumption)⟩
 rw [decide_eq_true g2]
 with_reducible repeat refine gg ?_
 refine w_ld k2 end_f0 rfl ?_
 with_reducible repeat refine gg ?_
 refine w_call k2 (model_within_law c.wd 0 40) fun _ K3 k3 => ?_
 by_cases g3 : (0 : Int) ≤ c.wd ∧ c.wd ≤ 40
 case neg =>
  rw [decide_eq_false g3]
  with_reducible repeat refine gg ?_
  rw [rightB_no (by omega)]
  exact w_ret ⟨(), rfl, Holds.to (by assumption)⟩
 rw [decide_eq_true g3]
 with_reducible repeat refine gg ?_
 refine w_ld k3 end_f0 rfl ?_
 with_reducible repeat refine gg ?_
 by_cases g4 : (1 : Int) ≤ c.un
 case neg =>
  refine w_bind (geq_f g4) ?_
  with_reducible repeat refine gg ?_
  rw [rightB_no (by omega)]
  exact w_ret ⟨(), rfl, Holds.to (by assumption)⟩
 refine w_bind (geq_t g4) ?_
 with_reducible repeat refine gg ?_
 refine w_ld k3 end_f0 rfl ?_
 with_reducible repeat refine gg ?_
 by_cases g5 : (c.un : Int) ≤ 4611686018427387904
 case neg =>
  refine w_bind (leq_f g5) ?_
  with_reducible repeat refine gg ?_
  rw [rightB_no (by omega)]
  exact w_ret ⟨(), rfl, Holds.to (by assumption)⟩
 refine w_bind (leq_t g5) ?_
 with_reducible repeat refine gg ?_
 rw [rightB_iff.2 (by omega)]
 exact w_ret ⟨(), rfl, Holds.to (by assumption)⟩
theorem wheel_held_law (w : Int) : Sp n_wheel_held [vi w] emp (fun x : Int => vi x) (fun _ => emp) := by
 refine sp_of fun R H h => ?_
 refine wp_of (fun r => wheel_held_of _ H) ?_
 refine w_bind (max_i) ?_
 refine w_bind (min_i) ?_
 exact w_ret ⟨_, rfl, h⟩
theorem wheel_new (w : Int) : Sp n_wheel_New [vi w] emp (fun b : Nat => vp b) (fun _ => emp) := by
 refine sp_of fun R H h => ?_
 refine wp_of (fun r => wheel_New_of _ H) ?_
 refine w_call h (wheel_held_law w) fun x H1 h1 => ?_
 refine w_map h1 fun mb H2 h2 => ?_
 refine w_mkS rfl ?_
 refine w_newC h2 fun b H3 h3 => ?_
 exact w_ret ⟨b, rfl, h3.to⟩
theorem heap_new : Sp n_heap_New [] emp (fun b : Nat => vp b) (fun _ => emp) := by
 refine sp_of fun R H h => ?_
 refine wp_of (fun r => heap_New_of H) ?_
 refine w_map h fun mb H2 h2 => ?_
 refine w_S ?_
 refine w_newC h2 fun b H3 h3 => ?_
 exact w_ret ⟨b, rfl, h3.to⟩
theorem shard_new (w : Int) : Sp n_shard_New [vi w] emp (fun b : Nat => vp b) (fun _ => emp) := by
 refine sp_of fun R H h => ?_
 refine wp_of (fun r => shard_New_of _ H) ?_
 refine w_call h (wheel_new w) fun x H1 h1 => ?_
 refine w_call h1 heap_new fun y H2 h2 => ?_
 refine w_S ?_
 refine w_newC h2 fun b H3 h3 => ?_
 exact w_ret ⟨b, rfl, h3.to⟩
theorem post_new (m : Nat) (s : Int) : Sp n_post_New [vp m, vi s] emp (fun b : Nat => vp b) (fun _ => emp) := by
 refine sp_of fun R H h => ?_
 refine wp_of (fun r => post_New_of _ _ H) ?_
 refine w_bind (max_i) ?_
 refine w_bind (min_i) ?_
 refine w_map h fun mb H2 h2 => ?_
 refine w_map h2 fun mc H3 h3 => ?_
 refine w_S ?_
 refine w_newC h3 fun b H4 h4 => ?_
 exact w_ret ⟨b, rfl, h4.to⟩
structure Lf where
 k : Int
 i : Int
 b : Bool
abbrev Lf.cells (x : Lf) : List Value := [vw x.k, vi x.i, vb x.b]
instance : Enc Lf.cells 3 := ⟨fun _ => rfl, fun _ => rfl, by omega⟩
def tourP (t : Nat) (lv : Value) (s : Nat) (nv : Value) (m : List Int) : SP := blk t (.cells false [lv, vi s, nv]) * ts 1 encI nv m
theorem tour_new (n : Int) : Sp n_tour_New [vi n] emp (fun b : Nat => vp b) (fun _ => emp) := by
 refine sp_of fun R H h => ?_
 refine wp_of (fun r => tour_New_of _ H) ?_
 refine w_bind (max_i) ?_
 refine w_bind (min_i) ?_
 obtain ⟨k, hk⟩ : ∃ k : Nat, min (max n 1) 16 = k := ⟨(min (max n 1) 16).toNat, by omega⟩
 rw [hk]
 have hk1 : 1 ≤ k := by omega
 have hk16 : k ≤ 16 := by omega
 refine w_make (enc := Lf.cells) (⟨0, 0, false⟩ : Lf) h rfl (by unfold room; omega) (by omega) fun lb H1 h1 => ?_
 refine w_S ?_
 refine w_newC h1 fun t H2 h2 => ?_
 refine wp_eq (tour_New_k0_eq _ _ _ H2) ?_
 -- the nodes
 have nodes : ∀ (s : Nat) (H : AH), s ≤ 32 → Holds (tourP t (vs lb k 3) s (.slice none 0 0) [] * R) H → wp (tour_New_k1 (.pointer none) (vp t) H) fun v' H' => ∃ b : Nat, v' = vp b ∧ Holds (emp * R) H' := by
  intro s H hs h
  refine wp_eq (tour_New_k1_eq _ _ H) ?_
  unfold tourP at h
  refine w_ld h end_nf rfl ?_
  refine w_bind (bin_mul_i (by omega) (by omega)) ?_
  refine wp_eq (tour_New_k3_eq _ _ _ _ H) ?_
  have loop : ∀ (d i : Nat) (nv : Value) (m : List Int) (H : AH), i + d = 2 * s → m.length = i → Holds (blk t (.cells false [vs lb k 3, vi s, nv]) * ts 1 encI nv m * R) H → wp (tour_New_k5 (.pointer none) (vp t) (vi (2 * (s : Int))) (vi i) H) fun v' H' => ∃ b : Nat, v' = vp b ∧ Holds (emp * R) H' := by
   intro d
   induction d with
   | zero =>
    intro i nv m H hi hm h
    refine wp_eq (tour_New_k5_eq _ _ _ _ H) ?_
    refine w_bind (lss_f (by omega)) ?_
    with_reducible repeat refine gg ?_
    refine wp_eq (tour_New_e4_2_eq _ _ H) ?_
    refine wp_eq (tour_New_k2_eq _ _ H) ?_
    exact w_ret ⟨t, rfl, h.to⟩
   | succ d ih =>
    intro i nv m H hi hm h
    refine wp_eq (tour_New_k5_eq _ _ _ _ H) ?_
    refine w_bind (lss_t (by omega)) ?_
    with_reducible repeat refine gg ?_
    refine wp_eq (tour_New_k6_eq _ _ _ _ H) ?_
    refine w_ld h end_nf rfl ?_
    refine w_R h fun b0 H3 h3 => ?_
    refine w_tapp (-1 : Int) h3 rfl ?_ (by omega) fun a c H4 h4 => ?_
    ·unfold room; omega
    refine w_st h4 end_nf rfl rfl fun H5 h5 => ?_
    refine wp_eq (tour_New_k7_eq _ _ _ _ H5) ?_
    refine w_bind (bin_add_i (by omega) (by omega)) ?_
    refine ih (i + 1) (.slice a (m.length + 1) c) (m ++ [-1]) H5 (by omega) (by simp; omega) h5.to
  exact loop (2 * s) 0 (.slice none 0 0) [] H (by omega) rfl h
 -- the size
 have size : ∀ (d s : Nat) (H : AH), 16 ≤ s + d → 1 ≤ s → s ≤ 32 → Holds (tourP t (vs lb k 3) s (.slice none 0 0) [] * R) H → wp (tour_New_k19 (vi k) (.pointer none) (vp t) H) fun v' H' => ∃ b : Nat, v' = vp b ∧ Holds (emp * R) H' := by
  intro d
  induction d with
  | zero =>
   intro s H hd hs1 hs h
   refine wp_eq (tour_New_k19_eq _ _ _ H) ?_
   have h' := h
   unfold tourP at h'
   refine w_ld h' end_nf rfl ?_
   refine w_bind (lss_f (by omega)) ?_
   with_reducible repeat refine gg ?_
   refine wp_eq (tour_New_e18_0_eq _ _ H) ?_
   exact nodes s H hs h
  | succ d ih =>
   intro s H hd hs1 hs h
   refine wp_eq (tour_New_k19_eq _ _ _ H) ?_
   have h' := h
   unfold tourP at h'
   refine w_ld h' end_nf rfl ?_
   by_cases hlt : (s : Int) < k
   ·refine w_bind (lss_t hlt) ?_
    with_reducible repeat refine gg ?_
    refine wp_eq (tour_New_k20_eq _ _ _ H) ?_
    refine w_ld h' end_nf rfl ?_
    refine w_bind (bin_mul_i (by omega) (by omega)) ?_
    refine w_st h' end_nf rfl rfl fun H3 h3 => ?_
    refine ih (s * 2) H3 (by omega) (by omega) (by omega) ?_
    unfold tourP
    rw [show (((s * 2 : Nat) : Int)) = (s : Int) * 2 from by omega]
    exact h3.to
   ·refine w_bind (lss_f hlt) ?_
    with_reducible repeat refine gg ?_
    refine wp_eq (tour_New_e18_0_eq _ _ H) ?_
    exact nodes s H hs h
 refine size 16 1 H2 (by omega) (by omega) (by omega) ?_
 unfold tourP
 have h3 := ts_nil 1 encI h2
 exact h3.to
abbrev encP1 (b : Nat) : List Value := [vp b]
instance : Enc encP1 1 := ⟨fun _ => rfl, fun _ => rfl, by omega⟩
theorem queue_new (n w : Int) : Sp n_queue_New [vi n, vi w] emp (fun b : Nat => vp b) (fun _ => emp) := by
 refine sp_of fun R H h => ?_
 refine wp_of (fun r => queue_New_of _ _ H) ?_
 refine w_bind (max_i) ?_
 refine w_bind (min_i) ?_
 obtain ⟨k, hk⟩ : ∃ k : Nat, min (max n 1) 16 = k := ⟨(min (max n 1) 16).toNat, by omega⟩
 rw [hk]
 have hk16 : k ≤ 16 := by omega
 refine w_call h (tour_new k) fun tb H1 h1 => ?_
 refine w_S ?_
 refine w_newC h1 fun q H2 h2 => ?_
 refine wp_eq (queue_New_k0_eq _ _ _ _ H2) ?_
 refine wp_eq (queue_New_k2_eq _ _ _ _ _ H2) ?_
 have loop : ∀ (d i : Nat) (nv : Value) (m : List Nat) (H : AH), i + d = k → m.length = i → Holds (blk q (.cells false [nv, vp tb]) * ts 1 encP1 nv m * R) H → wp (queue_New_k4 (vi w) (.pointer none) (vp q) (vi k) (vi i) H) fun v' H' => ∃ b : Nat, v' = vp b ∧ Holds (emp * R) H' := by
  intro d
  induction d with
  | zero =>
   intro i nv m H hi hm h
   refine wp_eq (queue_New_k4_eq _ _ _ _ _ H) ?_
   refine w_bind (lss_f (by omega)) ?_
   with_reducible repeat refine gg ?_
   refine wp_eq (queue_New_e3_0_eq _ _ H) ?_
   refine wp_eq (queue_New_k1_eq _ _ H) ?_
   exact w_ret ⟨q, rfl, h.to⟩
  | succ d ih =>
   intro i nv m H hi hm h
   refine wp_eq (queue_New_k4_eq _ _ _ _ _ H) ?_
   refine w_bind (lss_t (by omega)) ?_
   with_reducible repeat refine gg ?_
   refine wp_eq (queue_New_k5_eq _ _ _ _ _ H) ?_
   refine w_ad end_nf ?_
   refine w_Ld1 h rfl ?_
   refine w_call h (shard_new w) fun sb H3 h3 => ?_
   refine w_eq1 h3 h rfl ?_
   refine w_R h3 fun b0 H4 h4 => ?_
   refine w_tapp (sb : Nat) h4 rfl ?_ (by omega) fun a c H5 h5 => ?_
   ·unfold room; omega
   refine w_st h5 end_nf rfl rfl fun H6 h6 => ?_
   refine wp_eq (queue_New_k6_eq _ _ _ _ _ H6) ?_
   refine w_bind (bin_add_i (by omega) (by omega)) ?_
   exact ih (i + 1) (.slice a (m.length + 1) c) (m ++ [sb]) H6 (by omega) (by simp; omega) h6.to
 refine loop k 0 (.slice none 0 0) [] H2 (by omega) rfl ?_
 have h3 := ts_nil 1 encP1 h2
 exact h3.to
theorem core_new (c : Cfg) : Sp n_core_New [.agg (Cfg.cells c).toArray] emp (fun b : Nat => vp b) (fun _ => emp) := by
 refine sp_of fun R H h => ?_
 refine wp_of (fun r => core_New_of _ H) ?_
 refine w_newC h fun cb H1 h1 => ?_
 refine w_ld h1 end_f0 rfl ?_
 refine w_ld h1 end_f0 rfl ?_
 refine w_call h1 (queue_new c.sh c.wd) fun q H2 h2 => ?_
 refine w_map h2 fun mb H3 h3 => ?_
 refine w_map h3 fun mc H4 h4 => ?_
 refine w_S ?_
 refine w_newC h4 fun b H5 h5 => ?_
 exact w_ret ⟨b, rfl, h5.to⟩
theorem remu_l {cl : TCls} {w : Nat} (n : Nat) (h : n ≠ 0) : pBin cl .rem (vu w) (.int .u64 (n : Int)) = some (vu (w % n)) := bin_rem_u h
theorem config_end (b b2 : Nat) (c : Cfg) (u : Nat) (hu : 1 ≤ u ∧ u ≤ 4611686018427387904) {R : SP} {H : AH} (h : Holds (blk b2 (.cells false [vi 0, vi 0, vi 0, vi 0, vw 0]) * (blk b (.cells false (Cfg.cells c)) * R)) H) :
  wp (play_Config_k1 (vp b) (vp b2) (vu u) H) fun v' H' => ∃ c' : Cfg, v' = .agg (Cfg.cells c').toArray ∧ Holds (pu (rightB c' = true) * R) H' := by
 refine wp_eq (play_Config_k1_eq _ _ _ H) ?_
 refine w_ld h end_f0 rfl ?_
 refine w_call h (play_mod c.sh 4 (by omega) (by omega)) fun _ H1 h1 => ?_
 have m1 := modI_lt (v := c.sh) (n := 4) (by omega)
 refine w_bind (bin_add_i (by omega) (by omega)) ?_
 refine w_ad end_f0 ?_
 refine w_Ld1 h1 rfl ?_
 refine w_eq1 h h1 rfl ?_
 refine w_call h1 (play_mod c.sl 4 (by omega) (by omega)) fun _ H2 h2 => ?_
 have m2 := modI_lt (v := c.sl) (n := 4) (by omega)
 refine w_bind (bin_add_i (by omega) (by omega)) ?_
 refine w_ad end_f0 ?_
 refine w_Ld1 h2 rfl ?_
 refine w_eq1 h h2 rfl ?_
 refine w_eq1 h1 h2 rfl ?_
 refine w_call h2 (play_mod c.wk 6 (by omega) (by omega)) fun _ H3 h3 => ?_
 have m3 := modI_lt (v := c.wk) (n := 6) (by omega)
 refine w_bind (bin_add_i (by omega) (by omega)) ?_
 refine w_ad end_f0 ?_
 refine w_Ld1 h3 rfl ?_
 refine w_eq1 h h3 rfl ?_
 refine w_eq1 h1 h3 rfl ?_
 refine w_eq1 h2 h3 rfl ?_
 refine w_call h3 (play_mod c.wd 12 (by omega) (by omega)) fun _ H4 h4 => ?_
 have m4 := modI_lt (v := c.wd) (n := 12) (by omega)
 refine w_S ?_
 refine w_St h4 rfl rfl fun H5 h5 => ?_
 refine w_LdN h5 ?_
 refine w_ret ⟨⟨1 + modI c.sh 4, 1 + modI c.sl 4, 1 + modI c.wk 6, modI c.wd 12, u⟩, rfl, ?_⟩
 exact Holds.pu.2 ⟨rightB_iff.2 (by dsimp only; omega), h5.to⟩
theorem play_config (c : Cfg) : Sp n_play_Config [.agg (Cfg.cells c).toArray] emp (fun c' : Cfg => .agg (Cfg.cells c').toArray) (fun c' => pu (rightB c' = true)) := by
 refine sp_of fun R H h => ?_
 rw [emp_sep] at h
 refine wp_of (fun r => play_Config_of _ H) ?_
 refine w_newC h fun b H1 h1 => ?_
 refine w_new h1 fun b2 H2 h2 => ?_
 refine w_ld h2 end_f0 rfl ?_
 refine w_bind (remu_l 5000 (by omega)) ?_
 refine w_bind (bin_add_u (a := 1) (by omega)) ?_
 refine wp_eq (play_Config_k0_eq _ _ _ H2) ?_
 refine w_ld h2 end_f0 rfl ?_
 refine w_bind (remu_l 4 (by omega)) ?_
 refine w_bind (bin_eql) ?_
 refine w_cond (fun _ => ?_) (fun _ => ?_)
 ·refine w_ld h2 end_f0 rfl ?_
  refine w_bind (remu_l 4611686018427387904 (by omega)) ?_
  have hm := Nat.mod_lt c.un (show 4611686018427387904 > 0 by omega)
  generalize c.un % 4611686018427387904 = u at hm
  refine w_bind (bin_add_u (a := 1) (by omega)) ?_
  exact config_end b b2 c _ (by omega) h2
 ·have hm := Nat.mod_lt c.un (show 5000 > 0 by omega)
  exact config_end b b2 c _ (by omega) h2
section
variable {R : SP} {H : AH}
theorem call_end {b2 b3 : Nat} {y y2 : Cl} {P : SP} (h : Holds (blk b3 (.cells false (Cl.cells y)) * (blk b2 (.cells false (Cl.cells y2)) * P)) H) : wp (play_Call_k1 (vp b2) (vp b3) H) fun v' H' => ∃ y : Cl, v' = .agg (Cl.cells y).toArray ∧ Holds P H' := by
 refine wp_eq (play_Call_k1_eq _ _ H) ?_
 refine w_LdN h ?_
 refine w_St h rfl rfl fun H2 h2 => ?_
 refine w_LdN h2 ?_
 exact w_ret ⟨y, rfl, h2.to⟩
end
theorem play_call (x : Cl) : Sp n_play_Call [.agg (Cl.cells x).toArray] emp (fun y : Cl => .agg (Cl.cells y).toArray) (fun _ => emp) := by
 refine sp_of fun R H h => ?_
 rw [emp_sep] at h
 refine wp_of (fun r => play_Call_of _ H) ?_
 refine w_newC h fun b1 H1 h1 => ?_
 refine w_new h1 fun b2 H2 h2 => ?_
 refine w_ld h2 end_f0 rfl ?_
 refine w_call h2 (play_mod x.flow 23 (by omega) (by omega)) fun _ H3 h3 => ?_
 simp only [emp_sep]
 refine w_bind (bin_eql) ?_
 refine w_cond (fun _ => ?_) (fun _ => ?_)
 ·refine w_LdN h3 ?_
  refine w_St h3 rfl rfl fun H4 h4 => ?_
  refine w_LdN h4 ?_
  exact w_ret ⟨x, rfl, h4.to⟩
 refine w_ld h3 end_f0 rfl ?_
 refine w_call h3 (play_mod x.flow 5 (by omega) (by omega)) fun _ H4 h4 => ?_
 refine w_S ?_
 refine w_new h4 fun b3 H5 h5 => ?_
 refine w_St h5 rfl rfl fun H6 h6 => ?_
 -- what each kind ends with
 have fin : ∀ (y : Cl) {H7 : AH}, Holds (blk b3 (.cells false (Cl.cells y)) * (blk b2 (.cells false (Cl.cells ⟨0, 0, 0, 0⟩)) * R)) H7 → wp (play_Call_k1 (vp b2) (vp b3) H7) fun v' H' => ∃ y : Cl, v' = .agg (Cl.cells y).toArray ∧ Holds R H' := fun y {H7} h7 => call_end (y2 := ⟨0, 0, 0, 0⟩) h7
 refine wp_eq (play_Call_k0_eq _ _ _ H6) ?_
 refine w_ld h6 end_f0 rfl ?_
 refine w_call h6 (play_mod x.op 10 (by omega) (by omega)) fun _ H7 h7 => ?_
 generalize modI x.op 10 = o
 refine wp_eq (play_Call_k5_eq _ _ _ _ H7) ?_
 refine w_bind (bin_eql) ?_
 refine wp_eq (play_Call_k7_eq _ _ _ _ _ H7) ?_
 refine w_cond (fun _ => ?_) (fun _ => ?_)
 ·refine w_ld h7 end_f0 rfl ?_
  refine w_call h7 (play_mod x.a 5 (by omega) (by omega)) fun _ H8 h8 => ?_
  have m1 := modI_lt (v := x.a) (n := 5) (by omega)
  refine w_bind (bin_add_i (by omega) (by omega)) ?_
  refine w_ad end_f0 ?_
  refine w_Ld1 h8 rfl ?_
  refine w_eq1 h7 h8 rfl ?_
  refine w_call h8 (play_mod x.b 3 (by omega) (by omega)) fun _ H9 h9 => ?_
  have m2 := modI_lt (v := x.b) (n := 3) (by omega)
  refine w_bind (bin_add_i (by omega) (by omega)) ?_
  refine w_st h9 end_f0 rfl rfl fun H10 h10 => ?_
  refine w_st h10 end_f0 rfl rfl fun H11 h11 => ?_
  refine w_st h11 end_f0 rfl rfl fun H12 h12 => ?_
  exact fin ⟨1, modI x.flow 5, 1 + modI x.a 5, 1 + modI x.b 3⟩ h12.to
 refine w_bind (bin_eql) ?_
 refine wp_eq (play_Call_k18_eq _ _ _ _ _ H7) ?_
 refine w_cond (fun _ => ?_) (fun _ => ?_)
 ·refine w_st h7 end_f0 rfl rfl fun H8 h8 => ?_
  exact fin ⟨2, modI x.flow 5, 0, 0⟩ h8.to
 have tail : ∀ q : Bool, wp (play_Call_k20 (vp b1) (vp b2) (vp b3) (vi o) (vb q) H7) fun v' H' => ∃ y : Cl, v' = .agg (Cl.cells y).toArray ∧ Holds R H' := by
  intro q
  refine wp_eq (play_Call_k20_eq _ _ _ _ _ H7) ?_
  refine w_cond (fun _ => ?_) (fun _ => ?_)
  ·refine w_S ?_
   refine w_St h7 rfl rfl fun H8 h8 => ?_
   exact fin ⟨4, 0, 0, 0⟩ h8.to
  refine w_bind (bin_eql) ?_
  refine w_cond (fun _ => ?_) (fun _ => ?_)
  ·refine w_ld h7 end_f0 rfl ?_
   refine w_call h7 (play_mod x.a 6 (by omega) (by omega)) fun _ H8 h8 => ?_
   refine w_S ?_
   refine w_St h8 rfl rfl fun H9 h9 => ?_
   exact fin ⟨5, 0, modI x.a 6, 0⟩ h9.to
  refine w_bind (bin_eql) ?_
  refine w_cond (fun _ => ?_) (fun _ => ?_)
  ·refine w_S ?_
   refine w_St h7 rfl rfl fun H8 h8 => ?_
   exact fin ⟨6, 0, 0, 0⟩ h8.to
  refine w_ld h7 end_f0 rfl ?_
  refine w_call h7 (play_mod x.a 9 (by omega) (by omega)) fun _ H8 h8 => ?_
  have m1 := modI_lt (v := x.a) (n := 9) (by omega)
  refine w_bind (bin_add_i (by omega) (by omega)) ?_
  refine w_ad end_f0 ?_
  refine w_Ld1 h8 rfl ?_
  refine w_eq1 h7 h8 rfl ?_
  refine w_call h8 (play_mod x.b 1000 (by omega) (by omega)) fun _ H9 h9 => ?_
  refine w_st h9 end_f0 rfl rfl fun H10 h10 => ?_
  refine w_st h10 end_f0 rfl rfl fun H11 h11 => ?_
  refine w_st h11 end_f0 rfl rfl fun H12 h12 => ?_
  refine w_ld h12 end_f0 rfl ?_
  refine w_call h12 (play_mod x.a 13 (by omega) (by omega)) fun _ H13 h13 => ?_
  refine w_bind (bin_eql) ?_
  refine w_cond (fun _ => ?_) (fun _ => ?_)
  ·refine w_ld h13 end_f0 rfl ?_
   refine w_call h13 (play_mod x.a 65536 (by omega) (by omega)) fun _ H14 h14 => ?_
   have m2 := modI_lt (v := x.a) (n := 65536) (by omega)
   refine w_bind (bin_add_i (by omega) (by omega)) ?_
   refine w_st h14 end_f0 rfl rfl fun H15 h15 => ?_
   exact fin ⟨3, modI x.flow 5, 1 + modI x.a 65536, modI x.b 1000⟩ h15.to
  ·exact fin ⟨3, modI x.flow 5, 1 + modI x.a 9, modI x.b 1000⟩ h13.to
 refine w_bind (bin_eql) ?_
 refine w_cond (fun _ => tail _) (fun _ => ?_)
 refine w_bind (bin_eql) ?_
 exact tail _
structure Pk where
 flow : Int
 len : Int
 mark : Int
abbrev Pk.cells (x : Pk) : List Value := [vi x.flow, vi x.len, vi x.mark]
instance : Enc Pk.cells 3 := ⟨fun _ => rfl, fun _ => rfl, by omega⟩
structure Ob where
 flow : Int
 most : Int
 r : Nat
structure Pt where
 step : Int
 who : Int
 place : Int
 e : Int
abbrev retC (e : Int) : List Value := [vi e, .slice none 0 0, vi 0, vw 0]
abbrev Pt.cells (x : Pt) : List Value := [vi x.step, vi x.who, vi x.place, vi x.e, .slice none 0 0, vi 0, vw 0]
instance : Enc Pt.cells 7 := ⟨fun _ => rfl, fun _ => rfl, by omega⟩
structure Sta where
 c : Cfg
 μ : Mu
 obs : List (Ob × List Pk)
 nx : Int → Option Nat
 places : Int → Option Int
 pts : List Pt
def mostOf (n : Int) : Nat := (min (max n 1) 8).toNat
theorem mostOf_in (n : Int) : 1 ≤ mostOf n ∧ mostOf n ≤ 8 ∧ (mostOf n : Int) = min (max n 1) 8 := by unfold mostOf; omega
abbrev pk0 : Pk := ⟨0, 0, 0⟩
abbrev ekI (k : Int) : Value := vi k
instance : KeyE .int ekI where
 eq a b := by
  simp only [keyEq, ekI, if_true]
  congr 1
 ok a := rfl
def ringP (m i rp : Nat) (cs : List Pk) : SP := ex fun cv : Value => blk rp (.cells false [vp m, vi i, cv]) * ts 3 Pk.cells cv cs
def ringsP (m : Nat) : Nat → List (Nat × List Pk) → SP
 | _, [] => emp
 | i, p :: ps => ringP m i p.1 p.2 * ringsP m (i + 1) ps
theorem ringsP_snoc (m : Nat) : ∀ (ps : List (Nat × List Pk)) (i : Nat) (q : Nat × List Pk), ringsP m i (ps ++ [q]) = ringsP m i ps * ringP m (i + ps.length) q.1 q.2 := by
 intro ps
 induction ps with
 | nil => intro i q; show ringP m i q.1 q.2 * emp = emp * ringP m (i + 0) q.1 q.2; rw [sep_emp, emp_sep]; rfl
 | cons p ps ih =>
  intro i q
  show ringP m i p.1 p.2 * ringsP m (i + 1) (ps ++ [q]) = ringP m i p.1 p.2 * ringsP m (i + 1) ps * _
  rw [ih, sep_assoc, List.length_cons, show i + 1 + ps.length = i + (ps.length + 1) from by omega]
abbrev encO (x : Ob × Nat) : List Value := [vi x.1.flow, vi x.1.most, vu x.1.r, vp x.2]
instance : Enc encO 4 := ⟨fun _ => rfl, fun _ => rfl, by omega⟩
structure PIds where
 m : Nat
 ib : Nat
 tb : Nat
 po : Nat
 co : Nat
 ov : Value
 pm : Nat
 pv : Value
 nm : Nat
 rp : List Nat
def inbP (ib m nm : Nat) (c : Cfg) (nx : Int → Option Nat) : SP :=
 blk ib (.cells false [vp m, vi c.sh, .map (some nm), .func (.func n_inbox_site_at) #[vi 9] #[], .func (.func n_inbox_site_at) #[vi 14] #[]]) * mpS ekI nm (fun k => (nx k).map fun n => vu n)
def partsB (p : Nat) (g : PIds) (σ : Sta) : SP :=
 blk p (.cells false [vp g.m, vp g.ib, vp g.tb, vp g.po, vp g.co, vi σ.c.sh, vi σ.c.sl, vi σ.c.wk, vi σ.c.wd, vu σ.c.un, g.ov, .map (some g.pm), g.pv]) *
 (memP g.m σ.μ * (inbP g.ib g.m g.nm σ.c σ.nx * (tab g.tb g.m σ.c.sh.toNat σ.c.sl.toNat * (ts 4 encO g.ov ((σ.obs.map fun x => x.1).zip g.rp) * (ringsP g.m 0 (g.rp.zip (σ.obs.map fun x => x.2)) *
 (mpS ekI g.pm (fun k => (σ.places k).map fun n => vi n) * ts 7 Pt.cells g.pv σ.pts))))))
def partsP (p : Nat) (σ : Sta) : SP := ex fun g : PIds => pu (g.rp.length = σ.obs.length) * partsB p g σ
theorem partsP_open {p : Nat} {σ : Sta} {R : SP} {H : AH} (h : Holds (partsP p σ * R) H) : ∃ g : PIds, g.rp.length = σ.obs.length ∧ Holds (partsB p g σ * R) H := by
 obtain ⟨g, h1⟩ := Holds.ex.1 h
 rw [sep_assoc, Holds.pu] at h1
 exact ⟨g, h1⟩
theorem partsP_close {p : Nat} {σ : Sta} {R : SP} {H : AH} (g : PIds) (hl : g.rp.length = σ.obs.length) (h : Holds (partsB p g σ * R) H) : Holds (partsP p σ * R) H :=
 Holds.ex.2 ⟨g, by rw [sep_assoc]; exact Holds.pu.2 ⟨hl, h⟩⟩
abbrev Sta.new (c : Cfg) : Sta := ⟨c, ⟨fun _ => 0, [], 0⟩, [], fun _ => none, fun _ => none, []⟩
theorem mem_new' : Sp n_mem_New [] emp (fun b : Nat => vp b) (fun b => memP b ⟨fun _ => 0, [], 0⟩) := by
 refine sp_of fun R H h => ?_
 refine wp_of (fun r => mem_New_of H) ?_
 refine w_map h fun mb H2 h2 => ?_
 refine w_S ?_
 refine w_newC h2 fun b H3 h3 => ?_
 refine w_ret ⟨b, rfl, Holds.ex.2 ⟨(mb, .slice none 0 0, [], [], 0), ?_⟩⟩
 rw [sep_assoc, Holds.pu]
 refine ⟨⟨.nil, fun _ => rfl, Nat.le_refl _⟩, ?_⟩
 have := sl_nil' 5 h3
 show Holds (blk b (.cells false [.map (some mb), .slice none 0 0]) * (blk mb (.map [] 0) * sl 5 (.slice none 0 0) 0 []) * R) H3
 exact this.to
theorem inbox_new' (m : Nat) (c : Cfg) (hc : rightB c = true) : Sp n_inbox_New [vp m, vi c.sh] emp (fun b : Nat => vp b) (fun b => ex fun nm : Nat => inbP b m nm c fun _ => none) := by
 have hc := rightB_iff.1 hc
 refine sp_of fun R H h => ?_
 refine wp_of (fun r => inbox_New_of _ _ H) ?_
 refine w_bind (max_i) ?_
 refine w_bind (min_i) ?_
 rw [show min (max c.sh 1) 4 = c.sh from by omega]
 refine w_map h fun mb H2 h2 => ?_
 refine w_S ?_
 refine w_newC h2 fun b H3 h3 => ?_
 refine w_ret ⟨b, rfl, Holds.ex.2 ⟨mb, ?_⟩⟩
 unfold inbP
 have h4 : Holds (blk mb (.map [] 0) * (blk b (.cells false [vp m, vi c.sh, .map (some mb), .func (.func n_inbox_site_at) #[vi 9] #[], .func (.func n_inbox_site_at) #[vi 14] #[]]) * (emp * R))) H3 := h3.to
 have h5 := mpS_new ekI h4
 show Holds (blk b (.cells false [vp m, vi c.sh, .map (some mb), .func (.func n_inbox_site_at) #[vi 9] #[], .func (.func n_inbox_site_at) #[vi 14] #[]]) * mpS ekI mb (fun _ => none) * R) H3
 exact h5.to
theorem table_new' (m : Nat) (c : Cfg) (hc : rightB c = true) : Sp n_table_New [vp m, vi c.sh, vi c.sl] emp (fun b : Nat => vp b) (fun b => tab b m c.sh.toNat c.sl.toNat) := by
 have hc := rightB_iff.1 hc
 refine sp_of fun R H h => ?_
 refine wp_of (fun r => table_New_of _ _ _ H) ?_
 refine w_bind (max_i) ?_
 refine w_bind (min_i) ?_
 refine w_bind (max_i) ?_
 refine w_bind (min_i) ?_
 rw [show min (max c.sh 1) 4 = ((c.sh.toNat : Nat) : Int) from by omega, show min (max c.sl 1) 4 = ((c.sl.toNat : Nat) : Int) from by omega]
 refine w_S ?_
 refine w_newC h fun b H3 h3 => ?_
 exact w_ret ⟨b, rfl, by unfold tab; exact h3.to⟩
theorem parts_new' (c : Cfg) (hc : rightB c = true) : Sp n_parts_New [.agg (Cfg.cells c).toArray] emp (fun b : Nat => .tuple #[vp b, vi 0]) (fun b => partsP b (Sta.new c)) := by
 refine sp_of fun R H h => ?_
 refine wp_of (fun r => parts_New_of _ H) ?_
 refine w_newC h fun cb H1 h1 => ?_
 refine w_LdN h1 ?_
 refine w_call h1 (model_right c) fun _ H2 h2 => ?_
 rw [hc]
 with_reducible repeat refine gg ?_
 rw [Bool.not_true]
 with_reducible repeat refine gg ?_
 refine w_call h2 mem_new' fun m H3 h3 => ?_
 refine w_ld h3 end_f0 rfl ?_
 refine w_call h3 (inbox_new' m c hc) fun ib H4 h4 => ?_
 obtain ⟨nm, h4b⟩ := Holds.ex.1 h4
 refine w_ad end_f0 ?_
 refine w_Ld1 h4b rfl ?_
 refine w_eq1 h3 h4b rfl ?_
 refine w_ad end_f0 ?_
 refine w_Ld1 h4b rfl ?_
 refine w_eq1 h3 h4b rfl ?_
 refine w_call h4b (table_new' m c hc) fun tb H5 h5 => ?_
 refine w_ad end_f0 ?_
 refine w_Ld1 h5 rfl ?_
 refine w_eq1 h3 h5 rfl ?_
 refine w_eq1 h4b h5 rfl ?_
 refine w_call h5 (post_new m c.wk) fun pb H6 h6 => ?_
 refine w_LdN h6 ?_
 refine w_eqN h3 h6 rfl ?_
 refine w_eqN h4b h6 rfl ?_
 refine w_eqN h5 h6 rfl ?_
 refine w_call h6 (core_new c) fun kb H7 h7 => ?_
 refine w_LdN h7 ?_
 refine w_eqN h3 h7 rfl ?_
 refine w_eqN h4b h7 rfl ?_
 refine w_eqN h5 h7 rfl ?_
 refine w_eqN h6 h7 rfl ?_
 refine w_map h7 fun mb H8 h8 => ?_
 refine w_S ?_
 refine w_newC h8 fun b H9 h9 => ?_
 refine w_ret ⟨b, rfl, ?_⟩
 refine partsP_close ⟨m, ib, tb, pb, kb, .slice none 0 0, mb, .slice none 0 0, nm, []⟩ rfl ?_
 have h10 := ts_nil 4 encO (ts_nil 7 Pt.cells h9)
 have h11 : Holds (blk mb (.map [] 0) * (ts 4 encO (.slice none 0 0) [] * (ts 7 Pt.cells (.slice none 0 0) [] * (blk b (.cells false [vp m, vp ib, vp tb, vp pb, vp kb, vi c.sh, vi c.sl, vi c.wk, vi c.wd, vu c.un, .slice none 0 0, .map (some mb), .slice none 0 0]) * (memP m ⟨fun _ => 0, [], 0⟩ * (inbP ib m nm c (fun _ => none) * (tab tb m c.sh.toNat c.sl.toNat * (emp * R)))))))) H9 := h10.to
 have h12 := mpS_new ekI h11
 show Holds (blk b (.cells false [vp m, vp ib, vp tb, vp pb, vp kb, vi c.sh, vi c.sl, vi c.wk, vi c.wd, vu c.un, .slice none 0 0, .map (some mb), .slice none 0 0]) * (memP m ⟨fun _ => 0, [], 0⟩ * (inbP ib m nm c (fun _ => none) * (tab tb m c.sh.toNat c.sl.toNat * (ts 4 encO (.slice none 0 0) [] * (emp * (mpS ekI mb (fun _ => none) * ts 7 Pt.cells (.slice none 0 0) [])))))) * R) H9
 exact h12.to
section
variable (p : Nat) (σ : Sta)
theorem ring_new (m i : Nat) (most : Int) : Sp n_ring_New [vp m, vi i, vi most] emp (fun b : Nat => vp b) (fun b => ringP m i b (List.replicate (mostOf most) pk0)) := by
 obtain ⟨q1, q2, q3⟩ := mostOf_in most
 refine sp_of fun R H h => ?_
 refine wp_of (fun r => ring_New_of _ _ _ H) ?_
 refine w_bind (max_i) ?_
 refine w_bind (min_i) ?_
 rw [← q3]
 refine w_make (enc := Pk.cells) pk0 h rfl (by unfold room; omega) (by omega) fun cb H1 h1 => ?_
 refine w_S ?_
 refine w_newC h1 fun b H2 h2 => ?_
 refine w_ret ⟨b, rfl, ?_⟩
 unfold ringP
 exact Holds.ex.2 ⟨vs cb (mostOf most) 3, h2.to⟩
abbrev Sta.make (σ : Sta) (who : Int) (o : Ob) : Sta := { σ with μ := σ.μ.acc who 6 (13, σ.obs.length, 0), obs := σ.obs ++ [(o, List.replicate (mostOf o.most) pk0)] }
theorem parts_make (who : Int) (o : Ob) (hE : σ.μ.N < 1099511627000) (ho : σ.obs.length < 1000000) : Sp n_parts_Parts_Make [vp p, vi who, .agg (#[vi o.flow, vi o.most, vu o.r] : Array Value)] (partsP p σ) (fun _ : Unit => vi σ.obs.length) (fun _ => partsP p (σ.make who o)) := by
 refine sp_of fun R H h => ?_
 obtain ⟨g, hg, h0⟩ := partsP_open h
 have hz : ((σ.obs.map fun x => x.1).zip g.rp).length = σ.obs.length := by simp [hg]
 unfold partsB at h0
 refine wp_of (fun r => parts_Parts_Make_of _ _ _ H) ?_
 refine w_newC (l := [vi o.flow, vi o.most, vu o.r]) h0 fun ob H1 h1 => ?_
 refine w_ld h1 end_nf rfl ?_
 refine w_tlen (s := g.ov) h1 ?_
 rw [hz]
 refine w_ld h1 end_nf rfl ?_
 refine w_S ?_
 refine w_call h1 ((mem_write g.m σ.μ who (13, σ.obs.length, 0) (by omega)).imp fun _ R H h => memP_le (N' := σ.μ.N + 2) (by simp) h) fun _ H2 h2 => ?_
 refine w_ad end_nf ?_
 refine w_Ld1 h2 rfl ?_
 refine w_LdN h2 ?_
 refine w_ld h2 end_nf rfl ?_
 refine w_ld h2 end_f0 rfl ?_
 refine w_call h2 (ring_new g.m σ.obs.length o.most) fun rb H3 h3 => ?_
 refine w_eq1 h3 h2 rfl ?_
 refine w_eqN h3 h2 rfl ?_
 refine w_S ?_
 refine w_R h3 fun b0 H4 h4 => ?_
 refine w_tapp ((o, rb) : Ob × Nat) h4 rfl ?_ (by omega) fun a cc H5 h5 => ?_
 ·unfold room; omega
 refine w_st h5 end_nf rfl rfl fun H6 h6 => ?_
 refine w_ret ⟨(), rfl, ?_⟩
 refine partsP_close { g with ov := .slice a (((σ.obs.map fun x => x.1).zip g.rp).length + 1) cc, rp := g.rp ++ [rb] } (by simp [Sta.make, hg]) ?_
 unfold partsB Sta.make
 dsimp only
 have e1 : ((σ.obs ++ [(o, List.replicate (mostOf o.most) pk0)]).map fun x => x.1).zip (g.rp ++ [rb]) = ((σ.obs.map fun x => x.1).zip g.rp) ++ [(o, rb)] := by
  rw [List.map_append, List.zip_append (by simp [hg])]
  rfl
 have e2 : (g.rp ++ [rb]).zip ((σ.obs ++ [(o, List.replicate (mostOf o.most) pk0)]).map fun x => x.2) = (g.rp.zip (σ.obs.map fun x => x.2)) ++ [(rb, List.replicate (mostOf o.most) pk0)] := by
  rw [List.map_append, List.zip_append (by simp [hg])]
  rfl
 have e3 : 0 + (g.rp.zip (σ.obs.map fun x => x.2)).length = σ.obs.length := by simp [hg]
 rw [e1, e2, ringsP_snoc, e3]
 exact h6.to
theorem slices_clone_nil : Sp n_sCa [.slice none 0 0] emp (fun _ : Unit => .slice none 0 0) (fun _ => emp) := by
 refine sp_of fun R H h => ?_
 refine wp_of (fun r => sCa_of _ H) ?_
 refine w_bind (v := vb true) rfl ?_
 with_reducible repeat refine gg ?_
 exact w_ret ⟨(), rfl, Holds.to (by assumption)⟩
theorem parts_own_law (e : Int) : Sp n_parts_own [.agg (retC e).toArray] emp (fun _ : Unit => .agg (retC e).toArray) (fun _ => emp) := by
 refine sp_of fun R H h => ?_
 refine wp_of (fun r => parts_own_of _ H) ?_
 refine w_newC h fun b1 H1 h1 => ?_
 refine w_new h1 fun b2 H2 h2 => ?_
 refine w_ld h2 end_f0 rfl ?_
 refine w_call h2 slices_clone_nil fun _ H3 h3 => ?_
 refine w_st h3 end_f0 rfl rfl fun H4 h4 => ?_
 refine w_LdN h4 ?_
 refine w_St h4 rfl rfl fun H5 h5 => ?_
 refine w_LdN h5 ?_
 exact w_ret ⟨(), rfl, h5.to⟩
abbrev Sta.note (σ : Sta) (step who e : Int) : Sta := { σ with pts := σ.pts ++ [⟨step, who, (σ.places who).getD 0, e⟩] }
theorem w_mlookE {P R P2 R2 : SP} {H H2 : AH} {b : Nat} {f : Int → Option Value} {zero : Value} {kk : OV} {Q : Value → AH → Prop} (k : Int) (h : Holds P H) [m : Mp P b ekI f R] (h2 : Holds P2 H2) [m2 : Mp P2 b ekI f R2] (hk : wp kk Q) :
  wp (eqK (pLookup .int zero (.map (some b)) (vi k) false H) (pLookup .int zero (.map (some b)) (vi k) false H2) kk) Q := by
 have one : ∀ {P R : SP} {H : AH} (h : Holds P H) [m : Mp P b ekI f R], pLookup .int zero (.map (some b)) (vi k) false H = some ((f k).getD zero) := by
  intro P R H h m
  obtain ⟨v, H', e, q⟩ : wp ((pLookup .int zero (.map (some b)) (vi k) false H).bind fun v => some (v, H)) (fun v _ => v = (f k).getD zero) := w_mlook (ek := ekI) k h (w_ret rfl)
  obtain ⟨v', e1, e2⟩ := Option.bind_eq_some_iff.1 e
  have : v' = v := by simpa using congrArg (fun x => x.map Prod.fst) e2
  have e1' : pLookup .int zero (.map (some b)) (vi k) false H = some v' := e1
  rw [e1', this, q]
 exact w_eqK (by rw [one h, one h2]) hk
end
theorem rem_ii {cl : TCls} {a b : Int} (h : b ≠ 0) : pBin cl .rem (vi a) (vi b) = some (vi (a.tmod b)) := by
 simp only [pBin, pInt, if_true]
 rw [if_neg h]
theorem max_u {a b : Nat} : pMax [vu a, vu b] = some (vu (max a b)) := by
 simp only [pMax]
 congr 2
 split <;> omega
abbrev encOb (x : Ob) : List Value := [vi x.flow, vi x.most, vu x.r]
instance : Enc encOb 3 := ⟨fun _ => rfl, fun _ => rfl, by omega⟩
abbrev encU (n : Nat) : List Value := [vu n]
instance : Enc encU 1 := ⟨fun _ => rfl, fun _ => rfl, by omega⟩
def placeOf : List (Int × Int) → Int → Int
 | [], _ => 0
 | p :: ps, who => if (ps.any fun q => q.1 == who) = true then placeOf ps who else if p.1 = who then p.2 else 0
def pairsL (l : List (Int × Int)) : List Int := l.flatMap fun p => [p.1, p.2]
def nxOf (l : List (Int × Nat)) (k : Int) : Option Nat := (l.find? fun p => p.1 == k).map (·.2)
def insPt (x : Pt) : List Pt → List Pt
 | [] => [x]
 | y :: l => if y.step ≤ x.step ∨ (l.any fun z => decide (z.step ≤ x.step)) = true then y :: insPt x l else x :: y :: l
def byStep (l : List Pt) : List Pt := l.foldl (fun acc x => insPt x acc) []
def ringX (m i rp : Nat) (cs : List Pk) : SP := ex fun cv : Value => blk rp (.cells false [vp m, vi i, vi cs.length, cv]) * ts 3 Pk.cells cv cs
def ringsX (m : Nat) : Nat → List (Nat × List Pk) → SP
 | _, [] => emp
 | i, p :: ps => ringX m i p.1 p.2 * ringsX m (i + 1) ps
theorem ringsX_snoc (m : Nat) : ∀ (ps : List (Nat × List Pk)) (i : Nat) (q : Nat × List Pk), ringsX m i (ps ++ [q]) = ringsX m i ps * ringX m (i + ps.length) q.1 q.2 := by
 intro ps
 induction ps with
 | nil => intro i q; show ringX m i q.1 q.2 * emp = emp * ringX m (i + 0) q.1 q.2; rw [sep_emp, emp_sep]; rfl
 | cons p ps ih =>
  intro i q
  show ringX m i p.1 p.2 * ringsX m (i + 1) (ps ++ [q]) = ringX m i p.1 p.2 * ringsX m (i + 1) ps * _
  rw [ih, sep_assoc, List.length_cons, show i + 1 + ps.length = i + (ps.length + 1) from by omega]
def inbX (ib m : Nat) (sh : Int) (nx : Int → Option Nat) (L : Nat) : SP := ex fun g : Value × Value × List (Int × Nat) =>
 pu ((∀ k, nxOf g.2.2 k = nx k) ∧ g.2.2.length ≤ L) * (blk ib (.cells false [vp m, vi sh, g.1, g.2.1]) * (ts 1 encI g.1 (g.2.2.map (·.1)) * ts 1 encU g.2.1 (g.2.2.map (·.2))))
theorem inbX_open {ib m : Nat} {sh : Int} {nx : Int → Option Nat} {L : Nat} {R : SP} {H : AH} (h : Holds (inbX ib m sh nx L * R) H) :
  ∃ (kv nv : Value) (ns : List (Int × Nat)), ((∀ k, nxOf ns k = nx k) ∧ ns.length ≤ L) ∧ Holds (blk ib (.cells false [vp m, vi sh, kv, nv]) * (ts 1 encI kv (ns.map (·.1)) * (ts 1 encU nv (ns.map (·.2)) * R))) H := by
 obtain ⟨⟨kv, nv, ns⟩, h1⟩ := Holds.ex.1 h
 rw [sep_assoc, Holds.pu] at h1
 exact ⟨kv, nv, ns, h1.1, h1.2.to⟩
theorem inbX_close {ib m : Nat} {sh : Int} {nx : Int → Option Nat} {L : Nat} {R : SP} {H : AH} {kv nv : Value} {ns : List (Int × Nat)} (hn : (∀ k, nxOf ns k = nx k) ∧ ns.length ≤ L)
  (h : Holds (blk ib (.cells false [vp m, vi sh, kv, nv]) * (ts 1 encI kv (ns.map (·.1)) * (ts 1 encU nv (ns.map (·.2)) * R))) H) : Holds (inbX ib m sh nx L * R) H := by
 refine Holds.ex.2 ⟨(kv, nv, ns), ?_⟩
 rw [sep_assoc, Holds.pu]
 exact ⟨hn, h.to⟩
theorem inbX_le {ib m : Nat} {sh : Int} {nx : Int → Option Nat} {L L' : Nat} {R : SP} {H : AH} (hL : L ≤ L') (h : Holds (inbX ib m sh nx L * R) H) : Holds (inbX ib m sh nx L' * R) H := by
 obtain ⟨g, h1⟩ := Holds.ex.1 h
 rw [sep_assoc, Holds.pu] at h1
 exact Holds.ex.2 ⟨g, by rw [sep_assoc]; exact Holds.pu.2 ⟨⟨h1.1.1, Nat.le_trans h1.1.2 hL⟩, h1.2⟩⟩
structure XIds where
 m : Nat
 ib : Nat
 tb : Nat
 po : Nat
 co : Nat
 ov : Value
 rv : Value
 rp : List Nat
 wv : Value
 ws : List (Int × Int)
 pv : Value
def partsXB (x : Nat) (g : XIds) (σ : Sta) : SP :=
 blk x (.cells false [vi σ.c.sh, vi σ.c.sl, vi σ.c.wk, vi σ.c.wd, vu σ.c.un, vp g.m, vp g.ib, vp g.tb, vp g.po, vp g.co, g.ov, g.rv, g.wv, g.pv]) *
 (memX g.m σ.μ * (inbX g.ib g.m σ.c.sh σ.nx σ.μ.N * (tab g.tb g.m σ.c.sh.toNat σ.c.sl.toNat *
 (ts 3 encOb g.ov (σ.obs.map fun x => x.1) * (ts 1 encP1 g.rv g.rp * (ringsX g.m 0 (g.rp.zip (σ.obs.map fun x => x.2)) * (ts 1 encI g.wv (pairsL g.ws) * ts 7 Pt.cells g.pv (byStep σ.pts))))))))
def partsXR (g : XIds) (σ : Sta) : Prop := g.rp.length = σ.obs.length ∧ (∀ k, placeOf g.ws k = (σ.places k).getD 0) ∧ g.ws.length ≤ σ.μ.N
def partsX (x : Nat) (σ : Sta) : SP := ex fun g : XIds => pu (partsXR g σ) * partsXB x g σ
theorem partsX_open {p : Nat} {σ : Sta} {R : SP} {H : AH} (h : Holds (partsX p σ * R) H) : ∃ g : XIds, partsXR g σ ∧ Holds (partsXB p g σ * R) H := by
 obtain ⟨g, h1⟩ := Holds.ex.1 h
 rw [sep_assoc, Holds.pu] at h1
 exact ⟨g, h1⟩
theorem partsX_close {p : Nat} {σ : Sta} {R : SP} {H : AH} (g : XIds) (hl : partsXR g σ) (h : Holds (partsXB p g σ * R) H) : Holds (partsX p σ * R) H :=
 Holds.ex.2 ⟨g, by rw [sep_assoc]; exact Holds.pu.2 ⟨hl, h⟩⟩
theorem r16_newInbox (m : Nat) (c : Cfg) (hc : rightB c = true) : Sp n_r16_NewInbox [vp m, vi c.sh] emp (fun b : Nat => vp b) (fun b => blk b (.cells false [vp m, vi c.sh, .slice none 0 0, .slice none 0 0])) := by
 have hc := rightB_iff.1 hc
 refine sp_of fun R H h => ?_
 refine wp_of (fun r => r16_NewInbox_of _ _ H) ?_
 refine w_bind (max_i) ?_
 refine w_bind (min_i) ?_
 rw [show min (max c.sh 1) 4 = c.sh from by omega]
 refine w_S ?_
 refine w_newC h fun b H3 h3 => ?_
 exact w_ret ⟨b, rfl, h3.to⟩
theorem r16_newTable (m : Nat) (c : Cfg) (hc : rightB c = true) : Sp n_r16_NewTable [vp m, vi c.sh, vi c.sl] emp (fun b : Nat => vp b) (fun b => tab b m c.sh.toNat c.sl.toNat) := by
 have hc := rightB_iff.1 hc
 refine sp_of fun R H h => ?_
 refine wp_of (fun r => r16_NewTable_of _ _ _ H) ?_
 refine w_bind (max_i) ?_
 refine w_bind (min_i) ?_
 refine w_bind (max_i) ?_
 refine w_bind (min_i) ?_
 rw [show min (max c.sh 1) 4 = ((c.sh.toNat : Nat) : Int) from by omega, show min (max c.sl 1) 4 = ((c.sl.toNat : Nat) : Int) from by omega]
 refine w_S ?_
 refine w_newC h fun b H3 h3 => ?_
 exact w_ret ⟨b, rfl, by unfold tab; exact h3.to⟩
theorem r16_newPost (m : Nat) (w : Int) : Sp n_r16_NewPost [vp m, vi w] emp (fun b : Nat => vp b) (fun _ => emp) := by
 refine sp_of fun R H h => ?_
 refine wp_of (fun r => r16_NewPost_of _ _ H) ?_
 refine w_bind (max_i) ?_
 refine w_bind (min_i) ?_
 refine w_S ?_
 refine w_newC h fun b H3 h3 => ?_
 exact w_ret ⟨b, rfl, h3.to⟩
theorem r01_width (w : Int) : Sp n_r01_Width [vi w] emp (fun x : Int => vi x) (fun _ => emp) := by
 refine sp_of fun R H h => ?_
 refine wp_of (fun r => r01_Width_of _ H) ?_
 refine w_bind (max_i) ?_
 refine w_bind (min_i) ?_
 exact w_ret ⟨_, rfl, h⟩
theorem r01_newQueue (n w : Int) : Sp n_rNQ [vi n, vi w] emp (fun b : Nat => vp b) (fun _ => emp) := by
 refine sp_of fun R H h => ?_
 refine wp_of (fun r => rNQ_of _ _ H) ?_
 refine w_S ?_
 refine w_newC h fun q H2 h2 => ?_
 refine wp_eq (rNQ_k0_eq _ _ _ _ H2) ?_
 refine wp_eq (rNQ_k2_eq _ _ _ _ _ H2) ?_
 obtain ⟨k, hk⟩ : ∃ k : Nat, min (max n 1) 16 = k := ⟨(min (max n 1) 16).toNat, by omega⟩
 have hk16 : k ≤ 16 := by omega
 have loop : ∀ (d i : Nat) (nv : Value) (m : List Nat) (H : AH), i + d = k → m.length = i → Holds (blk q (.cells false [nv]) * ts 1 encP1 nv m * R) H → wp (rNQ_k4 (vi n) (vi w) (.pointer none) (vp q) (vi i) H) fun v' H' => ∃ b : Nat, v' = vp b ∧ Holds (emp * R) H' := by
  intro d
  induction d with
  | zero =>
   intro i nv m H hi hm h
   refine wp_eq (rNQ_k4_eq _ _ _ _ _ H) ?_
   refine w_bind (max_i) ?_
   refine w_bind (min_i) ?_
   refine w_bind (lss_f (by omega)) ?_
   with_reducible repeat refine gg ?_
   refine wp_eq (rNQ_e3_0_eq _ _ H) ?_
   refine wp_eq (rNQ_k1_eq _ _ H) ?_
   exact w_ret ⟨q, rfl, h.to⟩
  | succ d ih =>
   intro i nv m H hi hm h
   refine wp_eq (rNQ_k4_eq _ _ _ _ _ H) ?_
   refine w_bind (max_i) ?_
   refine w_bind (min_i) ?_
   refine w_bind (lss_t (by omega)) ?_
   with_reducible repeat refine gg ?_
   refine wp_eq (rNQ_k5_eq _ _ _ _ _ H) ?_
   refine w_ad end_nf ?_
   refine w_Ld1 h rfl ?_
   refine w_call h (r01_width w) fun x H3 h3 => ?_
   refine w_eq1 h3 h rfl ?_
   refine w_S ?_
   refine w_newC h3 fun sb H3b h3b => ?_
   refine w_R h3b fun b0 H4 h4 => ?_
   refine w_tapp (sb : Nat) h4 rfl ?_ (by omega) fun a c H5 h5 => ?_
   ·unfold room; omega
   refine w_st h5 end_nf rfl rfl fun H6 h6 => ?_
   refine wp_eq (rNQ_k6_eq _ _ _ _ _ H6) ?_
   refine w_bind (bin_add_i (by omega) (by omega)) ?_
   exact ih (i + 1) (.slice a (m.length + 1) c) (m ++ [sb]) H6 (by omega) (by simp; omega) h6.to
 refine loop k 0 (.slice none 0 0) [] H2 (by omega) rfl ?_
 have h3 := ts_nil 1 encP1 h2
 exact h3.to
theorem r16_newCore (c : Cfg) : Sp n_r16_NewCore [.agg (Cfg.cells c).toArray] emp (fun b : Nat => vp b) (fun _ => emp) := by
 refine sp_of fun R H h => ?_
 refine wp_of (fun r => r16_NewCore_of _ H) ?_
 refine w_newC h fun cb H1 h1 => ?_
 refine w_ld h1 end_f0 rfl ?_
 refine w_ld h1 end_f0 rfl ?_
 refine w_call h1 (r01_newQueue c.sh c.wd) fun q H2 h2 => ?_
 refine w_S ?_
 refine w_newC h2 fun b H5 h5 => ?_
 exact w_ret ⟨b, rfl, h5.to⟩
theorem memX_new {b : Nat} {R : SP} {H : AH} (h : Holds (blk b (.cells false [.slice none 0 0, .slice none 0 0, .slice none 0 0]) * R) H) : Holds (memX b ⟨fun _ => 0, [], 0⟩ * R) H := by
 refine Holds.ex.2 ⟨[], ?_⟩
 rw [sep_assoc, Holds.pu]
 refine ⟨⟨fun _ => rfl, Nat.le_refl _⟩, Holds.ex.2 ⟨(.slice none 0 0, .slice none 0 0, .slice none 0 0), ?_⟩⟩
 have h1 := ts_nil 3 encP (ts_nil 1 encV (ts_nil 5 Ev.cells h))
 exact h1.to
theorem r16_newParts (c : Cfg) (hc : rightB c = true) : Sp n_r16_NewParts [.agg (Cfg.cells c).toArray] emp (fun b : Nat => vp b) (fun b => partsX b (Sta.new c)) := by
 refine sp_of fun R H h => ?_
 refine wp_of (fun r => r16_NewParts_of _ H) ?_
 refine w_newC h fun cb H1 h1 => ?_
 refine w_S ?_
 refine w_newC h1 fun m H2 h2 => ?_
 refine w_LdN h2 ?_
 refine w_ld h2 end_f0 rfl ?_
 refine w_call h2 (r16_newInbox m c hc) fun ib H3 h3 => ?_
 refine w_eqN h3 h2 rfl ?_
 refine w_ad end_f0 ?_
 refine w_Ld1 h3 rfl ?_
 refine w_eq1 h2 h3 rfl ?_
 refine w_ad end_f0 ?_
 refine w_Ld1 h3 rfl ?_
 refine w_eq1 h2 h3 rfl ?_
 refine w_call h3 (r16_newTable m c hc) fun tb H4 h4 => ?_
 refine w_eqN h4 h2 rfl ?_
 refine w_ad end_f0 ?_
 refine w_Ld1 h4 rfl ?_
 refine w_eq1 h2 h4 rfl ?_
 refine w_eq1 h3 h4 rfl ?_
 refine w_call h4 (r16_newPost m c.wk) fun pb H5 h5 => ?_
 refine w_eqN h5 h2 rfl ?_
 refine w_LdN h5 ?_
 refine w_eqN h2 h5 rfl ?_
 refine w_eqN h3 h5 rfl ?_
 refine w_eqN h4 h5 rfl ?_
 refine w_call h5 (r16_newCore c) fun kb H6 h6 => ?_
 refine w_eqN h6 h2 rfl ?_
 refine w_S ?_
 refine w_newC h6 fun b H7 h7 => ?_
 refine w_ret ⟨b, rfl, ?_⟩
 refine partsX_close ⟨m, ib, tb, pb, kb, .slice none 0 0, .slice none 0 0, [], .slice none 0 0, [], .slice none 0 0⟩ ⟨rfl, fun _ => rfl, Nat.le_refl _⟩ ?_
 have h8 := memX_new (b := m) (R := blk b (.cells false [vi c.sh, vi c.sl, vi c.wk, vi c.wd, vu c.un, vp m, vp ib, vp tb, vp pb, vp kb, .slice none 0 0, .slice none 0 0, .slice none 0 0, .slice none 0 0]) * (tab tb m c.sh.toNat c.sl.toNat * (blk ib (.cells false [vp m, vi c.sh, .slice none 0 0, .slice none 0 0]) * R))) (Holds.to h7)
 have h8a := ts_nil 1 encI (ts_nil 1 encU h8)
 have h8b := inbX_close (ib := ib) (m := m) (sh := c.sh) (nx := fun _ => none) (L := 0) (kv := .slice none 0 0) (nv := .slice none 0 0) (ns := []) (R := memX m ⟨fun _ => 0, [], 0⟩ * (blk b (.cells false [vi c.sh, vi c.sl, vi c.wk, vi c.wd, vu c.un, vp m, vp ib, vp tb, vp pb, vp kb, .slice none 0 0, .slice none 0 0, .slice none 0 0, .slice none 0 0]) * (tab tb m c.sh.toNat c.sl.toNat * R))) (H := H7) ⟨fun _ => rfl, Nat.le_refl _⟩ (show Holds (blk ib (.cells false [vp m, vi c.sh, .slice none 0 0, .slice none 0 0]) * (ts 1 encI (.slice none 0 0) [] * (ts 1 encU (.slice none 0 0) [] * (memX m ⟨fun _ => 0, [], 0⟩ * (blk b (.cells false [vi c.sh, vi c.sl, vi c.wk, vi c.wd, vu c.un, vp m, vp ib, vp tb, vp pb, vp kb, .slice none 0 0, .slice none 0 0, .slice none 0 0, .slice none 0 0]) * (tab tb m c.sh.toNat c.sl.toNat * R)))))) H7 from h8a.to)
 have h9 := ts_nil 3 encOb (ts_nil 1 encP1 (ts_nil 1 encI (ts_nil 7 Pt.cells h8b)))
 unfold partsXB
 show Holds (blk b (.cells false [vi c.sh, vi c.sl, vi c.wk, vi c.wd, vu c.un, vp m, vp ib, vp tb, vp pb, vp kb, .slice none 0 0, .slice none 0 0, .slice none 0 0, .slice none 0 0]) * (memX m ⟨fun _ => 0, [], 0⟩ * (inbX ib m c.sh (fun _ => none) 0 * (tab tb m c.sh.toNat c.sl.toNat *
  (ts 3 encOb (.slice none 0 0) [] * (ts 1 encP1 (.slice none 0 0) [] * (emp * (ts 1 encI (.slice none 0 0) [] * ts 7 Pt.cells (.slice none 0 0) [])))))))  * R) H7
 exact h9.to
theorem quo_ii {cl : TCls} {a b : Int} (h : b ≠ 0) (h0 : -9223372036854775808 ≤ a.tdiv b) (h1 : a.tdiv b < 9223372036854775808) : pBin cl .quo (vi a) (vi b) = some (vi (a.tdiv b)) := by
 simp only [pBin, pInt, if_true]
 rw [if_neg h, wrap_i_of h0 h1]
theorem memX_le {m : Nat} {V : Loc → Nat} {E : List Ev} {N N' : Nat} {R : SP} {H : AH} (hN : N ≤ N') (h : Holds (memX m ⟨V, E, N⟩ * R) H) : Holds (memX m ⟨V, E, N'⟩ * R) H := by
 obtain ⟨al, h1⟩ := Holds.ex.1 h
 rw [sep_assoc, Holds.pu] at h1
 exact Holds.ex.2 ⟨al, by rw [sep_assoc]; exact Holds.pu.2 ⟨⟨h1.1.1, Nat.le_trans h1.1.2 hN⟩, h1.2⟩⟩
def slotN (flow : Int) (obj : Nat) : Nat := (flow + 1).toNat * 4294967296 + obj
section
variable (t m : Nat) (sh sl : Nat) (μ : Mu) (who s i flow : Int) (obj : Nat)
theorem table_put (hE : μ.N < 1099511627000) (hf : 0 ≤ flow ∧ flow ≤ 1048576) (ho : obj < 4294967296) :
  Sp n_table_Table_Put [vp t, vi who, vi s, vi i, vi flow, vi obj] (tab t m sh sl * memP m μ) (fun _ : Unit => vb true) (fun _ => tab t m sh sl * memP m ((μ.acc who 2 (10, s, i)).put (10, s, i) (slotN flow obj))) := by
 refine sp_of fun R H h => ?_
 refine wp_of (fun r => table_Table_Put_of _ _ _ _ _ _ H) ?_
 unfold tab at h ⊢
 refine w_bind (lss_f (by omega)) ?_
 with_reducible repeat refine gg ?_
 refine w_bind (gtr_f ?_) ?_
 ·omega
 with_reducible repeat refine gg ?_
 refine w_bind (lss_f ?_) ?_
 ·omega
 with_reducible repeat refine gg ?_
 refine w_bind (geq_f ?_) ?_
 ·omega
 with_reducible repeat refine gg ?_
 refine w_ad end_nf ?_
 refine w_Ld1 h rfl ?_
 refine w_call h (table_slot s i) fun _ H1 h1 => ?_
 refine w_eq1 h1 h rfl ?_
 refine w_bind (bin_add_i (by omega) (by omega)) ?_
 refine w_bind (conv_ui (by omega) (by omega)) ?_
 have hn : (flow + 1).toNat ≤ 1048577 := by omega
 have e1 : pBin .other .shl (vu (flow + 1).toNat) (vw 32) = some (vu ((flow + 1).toNat * 4294967296)) := by
  have := bin_shl_u (cl := .other) (a := (flow + 1).toNat) (k := .u64) (n := 32) (by omega)
  simp only [Nat.reducePow] at this
  rw [Nat.mod_eq_of_lt (by omega)] at this
  exact this
 refine w_bind (e1) ?_
 refine w_bind (conv_ui (by omega) (by omega)) ?_
 rw [show ((obj : Nat) : Int).toNat = obj from Int.toNat_natCast obj]
 have e2 : pBin .other .or (vu ((flow + 1).toNat * 4294967296)) (vu obj) = some (vu (slotN flow obj)) := by
  rw [bin_or (by omega) (by omega)]
  congr 3
  have := Nat.two_pow_add_eq_or_of_lt (i := 32) (b := obj) (by simp only [Nat.reducePow]; omega) (flow + 1).toNat
  simp only [Nat.reducePow] at this
  rw [slotN, Nat.mul_comm, ← this]
 refine w_bind (e2) ?_
 refine w_call h1 (p_store m μ who (10, s, i) (slotN flow obj) (by omega)) fun _ H2 h2 => ?_
 exact w_ret ⟨(), rfl, h2.to⟩
theorem r16_put (hE : μ.N < 1099511627000) (hf : 0 ≤ flow ∧ flow ≤ 1048576) (ho : obj < 4294967296) :
  Sp n_r16_Table_Put [vp t, vi who, vi s, vi i, vi flow, vi obj] (tab t m sh sl * memX m μ) (fun _ : Unit => vb true) (fun _ => tab t m sh sl * memX m ((μ.acc who 2 (10, s, i)).put (10, s, i) (slotN flow obj))) := by
 refine sp_of fun R H h => ?_
 refine wp_of (fun r => r16_Table_Put_of _ _ _ _ _ _ H) ?_
 unfold tab at h ⊢
 refine w_bind (lss_f (by omega)) ?_
 with_reducible repeat refine gg ?_
 refine w_bind (gtr_f ?_) ?_
 ·omega
 with_reducible repeat refine gg ?_
 refine w_bind (lss_f ?_) ?_
 ·omega
 with_reducible repeat refine gg ?_
 refine w_bind (conv_ui (by omega) (by omega)) ?_
 rw [show ((obj : Nat) : Int).toNat = obj from Int.toNat_natCast obj]
 with_reducible repeat refine gg ?_
 refine w_bind (geq_f ?_) ?_
 ·omega
 with_reducible repeat refine gg ?_
 refine w_ad end_nf ?_
 refine w_Ld1 h rfl ?_
 refine w_call h (r16_loc 10 s i) fun _ H1 h1 => ?_
 refine w_eq1 h1 h rfl ?_
 refine w_bind (bin_add_i (by omega) (by omega)) ?_
 refine w_bind (conv_ui (by omega) (by omega)) ?_
 have hn : (flow + 1).toNat ≤ 1048577 := by omega
 refine w_bind (mul32) ?_
 rw [Nat.mod_eq_of_lt (by omega)]
 refine w_bind (conv_ui (by omega) (by omega)) ?_
 rw [show ((obj : Nat) : Int).toNat = obj from Int.toNat_natCast obj]
 refine w_bind (bin_add_u (by omega)) ?_
 refine w_call h1 (r16_store m μ who (10, s, i) (slotN flow obj) (by omega)) fun _ H2 h2 => ?_
 exact w_ret ⟨(), rfl, h2.to⟩
end
section
variable (p : Nat) (σ : Sta)
theorem ringX_new (m i : Nat) (most : Int) : Sp n_r16_NewRing [vp m, vi i, vi most] emp (fun b : Nat => vp b) (fun b => ringX m i b (List.replicate (mostOf most) pk0)) := by
 obtain ⟨q1, q2, q3⟩ := mostOf_in most
 refine sp_of fun R H h => ?_
 refine wp_of (fun r => r16_NewRing_of _ _ _ H) ?_
 refine w_bind (max_i) ?_
 refine w_bind (min_i) ?_
 rw [← q3]
 refine w_make (enc := Pk.cells) pk0 h rfl (by unfold room; omega) (by omega) fun cb H1 h1 => ?_
 refine w_S ?_
 refine w_newC h1 fun b H2 h2 => ?_
 refine w_ret ⟨b, rfl, ?_⟩
 unfold ringX
 refine Holds.ex.2 ⟨vs cb (mostOf most) 3, ?_⟩
 rw [List.length_replicate]
 exact h2.to
theorem makeX (who : Int) (o : Ob) (hE : σ.μ.N < 1099511627000) (ho : σ.obs.length < 1000000) : Sp n_r16_Parts_Make [vp p, vi who, .agg [vi o.flow, vi o.most, vu o.r].toArray] (partsX p σ) (fun _ : Unit => vi σ.obs.length) (fun _ => partsX p (σ.make who o)) := by
 refine sp_of fun R H h => ?_
 obtain ⟨g, ⟨hg, hg2⟩, h0⟩ := partsX_open h
 unfold partsXB at h0
 refine wp_of (fun r => r16_Parts_Make_of _ _ _ H) ?_
 refine w_newC (l := [vi o.flow, vi o.most, vu o.r]) h0 fun ob H1 h1 => ?_
 refine w_ld h1 end_nf rfl ?_
 refine w_tlen (s := g.ov) h1 ?_
 rw [List.length_map]
 refine w_ad end_nf ?_
 refine w_Ld1 h1 rfl ?_
 refine w_call h1 (r16_loc 13 σ.obs.length 0) fun _ H2 h2 => ?_
 refine w_eq1 h2 h1 rfl ?_
 refine w_call h2 ((xlog g.m σ.μ who 6 (13, σ.obs.length, 0) (by omega)).imp fun _ R H h => memX_le (N' := σ.μ.N + 2) (by simp) h) fun _ H3 h3 => ?_
 refine w_ld h3 end_nf rfl ?_
 refine w_LdN h3 ?_
 refine w_R h3 fun b0 H4 h4 => ?_
 refine w_tapp (o : Ob) h4 rfl ?_ (by omega) fun a cc H5 h5 => ?_
 ·unfold room; simp only [List.length_map]; omega
 refine w_ad end_nf ?_
 refine w_Ld1 h5 rfl ?_
 refine w_eq1 h4 h5 rfl ?_
 refine w_ad end_nf ?_
 refine w_Ld1 h5 rfl ?_
 refine w_eq1 h4 h5 rfl ?_
 refine w_ad end_f0 ?_
 refine w_Ld1 h5 rfl ?_
 refine w_eq1 h4 h5 rfl ?_
 refine w_call h5 (ringX_new g.m σ.obs.length o.most) fun rb H6 h6 => ?_
 refine w_eq1 h6 h5 rfl ?_
 refine w_R h6 fun b1 H7 h7 => ?_
 refine w_tapp (rb : Nat) h7 rfl ?_ (by omega) fun a2 c2 H8 h8 => ?_
 ·unfold room; omega
 refine w_st h8 end_nf rfl rfl fun H9 h9 => ?_
 refine w_st h9 end_nf rfl rfl fun H10 h10 => ?_
 refine w_ret ⟨(), rfl, ?_⟩
 refine partsX_close { g with ov := .slice a ((σ.obs.map fun x => x.1).length + 1) cc, rv := .slice a2 (g.rp.length + 1) c2, rp := g.rp ++ [rb] } ⟨by simp [Sta.make, hg], hg2.1, Nat.le_trans hg2.2 (by simp [Sta.make])⟩ ?_
 unfold partsXB Sta.make
 dsimp only
 have e2 : (g.rp ++ [rb]).zip ((σ.obs ++ [(o, List.replicate (mostOf o.most) pk0)]).map fun x => x.2) = (g.rp.zip (σ.obs.map fun x => x.2)) ++ [(rb, List.replicate (mostOf o.most) pk0)] := by
  rw [List.map_append, List.zip_append (by simp [hg])]
  rfl
 have e1 : (σ.obs ++ [(o, List.replicate (mostOf o.most) pk0)]).map (fun x => x.1) = (σ.obs.map fun x => x.1) ++ [o] := by rw [List.map_append]; rfl
 have e3 : 0 + (g.rp.zip (σ.obs.map fun x => x.2)).length = σ.obs.length := by simp [hg]
 rw [e1, e2, ringsX_snoc, e3]
 dsimp only
 have h11 := inbX_le (L' := σ.μ.N + 2) (by omega) (Holds.fr (A := inbX g.ib g.m σ.c.sh σ.nx σ.μ.N) h10)
 exact h11.to
theorem r01_inverse (u : Nat) (w : Int) (hu : 1 ≤ u ∧ u ≤ 4611686018427387904) (hw : 1 ≤ w ∧ w ≤ 65536) : Sp n_r01_Inverse [vu u, vi w] emp (fun _ : Unit => .tuple #[vu (max (u / w.toNat) 1), vb true]) (fun _ => emp) := by
 refine sp_of fun R H h => ?_
 refine wp_of (fun r => r01_Inverse_of _ _ H) ?_
 refine w_bind (lss_f (by omega)) ?_
 with_reducible repeat refine gg ?_
 refine w_bind (gtr_f ?_) ?_
 ·omega
 with_reducible repeat refine gg ?_
 refine w_bind (lss_f ?_) ?_
 ·omega
 with_reducible repeat refine gg ?_
 refine w_bind (gtr_f ?_) ?_
 ·omega
 with_reducible repeat refine gg ?_
 refine w_bind (conv_ui (by omega) (by omega)) ?_
 refine w_bind (bin_quo_u (by omega) (by omega)) ?_
 refine w_bind (max_u (b := 1)) ?_
 exact w_ret ⟨(), rfl, h.to⟩
abbrev Sta.lay (σ : Sta) (f w most : Int) : Sta :=
 { σ.make 0 ⟨f, most, max (σ.c.un / w.toNat) 1⟩ with
  μ := ((σ.make 0 ⟨f, most, max (σ.c.un / w.toNat) 1⟩).μ.acc 0 2 (10, f.tmod σ.c.sh, f.tdiv σ.c.sh)).put (10, f.tmod σ.c.sh, f.tdiv σ.c.sh) (slotN f σ.obs.length) }
theorem l23_put (x : Nat) (f w most : Int) (hc : rightB σ.c = true) (hE : σ.μ.N < 1099511620000) (ho : σ.obs.length < 1000000) (hf : 0 ≤ f ∧ f ≤ 1048576) (hw : 1 ≤ w ∧ w ≤ 65536) :
  Sp n_l23_Pair_put [.agg [vp p, vp x].toArray, vi f, vi w, vi most] (partsP p σ * partsX x σ) (fun _ : Unit => vb true) (fun _ => partsP p (σ.lay f w most) * partsX x (σ.lay f w most)) := by
 have hr := rightB_iff.1 hc
 have q0 : 0 ≤ f.tdiv σ.c.sh := Int.tdiv_nonneg hf.1 (by omega)
 have q1 : f.tdiv σ.c.sh ≤ f := Int.tdiv_le_self _ hf.1
 refine sp_of fun R H h => ?_
 refine wp_of (fun r => l23_Pair_put_of _ _ _ _ H) ?_
 refine w_newC (l := [vp p, vp x]) h fun b H1 h1 => ?_
 refine w_ld h1 end_f0 rfl ?_
 obtain ⟨g, hg, k1⟩ := partsX_open (p := x) (σ := σ) (R := blk b (.cells false [vp p, vp x]) * (partsP p σ * R)) (H := H1) h1.to
 unfold partsXB at k1
 refine w_ldN k1 end_nf ?_
 refine w_new h1 fun b2 H2 h2 => ?_
 refine w_St h2 rfl rfl fun H3 h3 => ?_
 refine w_ld h3 end_f0 rfl ?_
 refine w_call h3 (r01_inverse σ.c.un w ⟨by omega, by omega⟩ hw) fun _ H4 h4 => ?_
 refine w_bind (v := vu (max (σ.c.un / w.toNat) 1)) rfl ?_
 refine w_bind (v := vb true) rfl ?_
 refine w_S ?_
 refine w_new h4 fun b3 H5 h5 => ?_
 refine w_St h5 rfl rfl fun H6 h6 => ?_
 refine w_ld h6 end_f0 rfl ?_
 refine w_LdN h6 ?_
 refine w_call h6 (parts_make p σ 0 ⟨f, most, max (σ.c.un / w.toNat) 1⟩ (by omega) ho) fun _ H7 h7 => ?_
 refine w_ad end_f0 ?_
 refine w_Ld1 h7 rfl ?_
 refine w_eq1 h6 h7 rfl ?_
 refine w_LdN h7 ?_
 refine w_eqN h6 h7 rfl ?_
 refine w_call h7 (makeX x σ 0 ⟨f, most, max (σ.c.un / w.toNat) 1⟩ (by omega) ho) fun _ H8 h8 => ?_
 refine w_bind (eql_t rfl) ?_
 with_reducible repeat refine gg ?_
 refine w_ld h8 end_f0 rfl ?_
 obtain ⟨gp, hgp, k8⟩ := partsP_open (p := p) (σ := σ.make 0 ⟨f, most, max (σ.c.un / w.toNat) 1⟩) (R := blk b (.cells false [vp p, vp x]) * (blk b2 (.cells false (Cfg.cells σ.c)) * (partsX x (σ.make 0 ⟨f, most, max (σ.c.un / w.toNat) 1⟩) * R))) (H := H8) h8.to
 unfold partsB at k8
 with_reducible repeat refine gg ?_
 refine w_ld k8 end_nf rfl ?_
 with_reducible repeat refine gg ?_
 refine w_ld k8 end_f0 rfl ?_
 with_reducible repeat refine gg ?_
 refine w_bind (rem_ii (by omega)) ?_
 with_reducible repeat refine gg ?_
 refine w_ld k8 end_f0 rfl ?_
 with_reducible repeat refine gg ?_
 refine w_bind (quo_ii (by omega) (by omega) (by omega)) ?_
 with_reducible repeat refine gg ?_
 refine w_call k8 (table_put gp.tb gp.m σ.c.sh.toNat σ.c.sl.toNat (σ.make 0 ⟨f, most, max (σ.c.un / w.toNat) 1⟩).μ 0 (f.tmod σ.c.sh) (f.tdiv σ.c.sh) f σ.obs.length (by simp [Sta.make]; omega) hf (by omega)) fun _ H9 k9 => ?_
 have h9 : Holds (partsP p (σ.lay f w most) * (blk b (.cells false [vp p, vp x]) * (blk b2 (.cells false (Cfg.cells σ.c)) * (partsX x (σ.make 0 ⟨f, most, max (σ.c.un / w.toNat) 1⟩) * R)))) H9 := by
  refine partsP_close gp hgp ?_
  unfold partsB
  exact k9.to
 with_reducible repeat refine gg ?_
 refine w_ld h9 end_f0 rfl ?_
 obtain ⟨gx, hgx, l9⟩ := partsX_open (p := x) (σ := σ.make 0 ⟨f, most, max (σ.c.un / w.toNat) 1⟩) (R := blk b (.cells false [vp p, vp x]) * (blk b2 (.cells false (Cfg.cells σ.c)) * (partsP p (σ.lay f w most) * R))) (H := H9) h9.to
 unfold partsXB at l9
 with_reducible repeat refine gg ?_
 refine w_ld l9 end_nf rfl ?_
 with_reducible repeat refine gg ?_
 refine w_ld l9 end_f0 rfl ?_
 with_reducible repeat refine gg ?_
 refine w_bind (rem_ii (by omega)) ?_
 with_reducible repeat refine gg ?_
 refine w_ld l9 end_f0 rfl ?_
 with_reducible repeat refine gg ?_
 refine w_bind (quo_ii (by omega) (by omega) (by omega)) ?_
 with_reducible repeat refine gg ?_
 refine w_call l9 (r16_put gx.tb gx.m σ.c.sh.toNat σ.c.sl.toNat (σ.make 0 ⟨f, most, max (σ.c.un / w.toNat) 1⟩).μ 0 (f.tmod σ.c.sh) (f.tdiv σ.c.sh) f σ.obs.length (by simp [Sta.make]; omega) hf (by omega)) fun _ H10 l10 => ?_
 have h10 : Holds (partsX x (σ.lay f w most) * (blk b (.cells false [vp p, vp x]) * (blk b2 (.cells false (Cfg.cells σ.c)) * (partsP p (σ.lay f w most) * R)))) H10 := by
  refine partsX_close gx ⟨hgx.1, hgx.2.1, Nat.le_trans hgx.2.2 (by simp [Sta.lay, Sta.make])⟩ ?_
  unfold partsXB
  have l11 := inbX_le (L' := σ.μ.N + 2 + 2) (by omega) (Holds.fr (A := inbX gx.ib gx.m σ.c.sh σ.nx (σ.μ.N + 2)) l10)
  exact l11.to
 with_reducible repeat refine gg ?_
 exact w_ret ⟨(), rfl, h10.to⟩
end
def Sta.made (c : Cfg) : Nat → Sta
 | 0 => Sta.new c
 | f + 1 => if (f : Int).tdiv c.sh < c.sl then (Sta.made c f).lay f (1 + f) (2 + (f : Int).tmod 2) else Sta.made c f
theorem made_c (c : Cfg) : ∀ n, (Sta.made c n).c = c ∧ (Sta.made c n).μ.N ≤ 4 * n ∧ (Sta.made c n).obs.length ≤ n := by
 intro n
 induction n with
 | zero => exact ⟨rfl, Nat.le_refl _, Nat.le_refl _⟩
 | succ n ih =>
  obtain ⟨h1, h2, h3⟩ := ih
  unfold Sta.made
  split
  ·refine ⟨h1, ?_, ?_⟩
   ·simp [Sta.lay, Sta.make]; omega
   ·simp [Sta.lay, Sta.make]; omega
  ·exact ⟨h1, by omega, by omega⟩
theorem ptr_ne (b : Nat) : pBin .ptr .eql (vp b) (.pointer none) = some (vb false) := rfl
theorem l23_made (c0 : Cfg) (n : Nat) (hn : n ≤ 16) : Sp n_l23_Made [.agg (Cfg.cells c0).toArray, vi n] emp (fun g : Nat × Nat × Cfg => .tuple #[.agg [vp g.1, vp g.2.1].toArray, vb true])
  (fun g => pu (rightB g.2.2 = true) * (partsP g.1 (Sta.made g.2.2 n) * partsX g.2.1 (Sta.made g.2.2 n))) := by
 refine sp_of fun R H h => ?_
 refine wp_of (fun r => l23_Made_of _ _ H) ?_
 refine w_newC h fun b H1 h1 => ?_
 refine w_new h1 fun b2 H2 h2 => ?_
 refine w_LdN h2 ?_
 refine w_call h2 (play_config c0) fun c H3 h3 => ?_
 rw [Holds.pu] at h3
 obtain ⟨hc, h3⟩ := h3
 refine w_St h3 rfl rfl fun H4 h4 => ?_
 refine w_LdN h4 ?_
 refine w_call h4 (parts_new' c hc) fun p H5 h5 => ?_
 refine w_bind (v := vp p) rfl ?_
 refine w_bind (v := vi 0) rfl ?_
 refine w_bind (neq_f rfl) ?_
 with_reducible repeat refine gg ?_
 refine w_bind (ptr_ne _) ?_
 with_reducible repeat refine gg ?_
 obtain ⟨g, hg, k5⟩ := partsP_open (p := p) (σ := Sta.new c) (R := blk b2 (.cells false [.pointer none, .pointer none]) * (blk b (.cells false (Cfg.cells c)) * R)) (H := H5) h5.to
 unfold partsB at k5
 refine w_ld k5 end_nf rfl ?_
 with_reducible repeat refine gg ?_
 refine w_bind (ptr_ne _) ?_
 with_reducible repeat refine gg ?_
 refine w_ld k5 end_nf rfl ?_
 with_reducible repeat refine gg ?_
 refine w_bind (ptr_ne _) ?_
 with_reducible repeat refine gg ?_
 refine w_ld k5 end_nf rfl ?_
 with_reducible repeat refine gg ?_
 refine w_bind (ptr_ne _) ?_
 with_reducible repeat refine gg ?_
 refine w_ld k5 end_nf rfl ?_
 with_reducible repeat refine gg ?_
 refine w_bind (ptr_ne _) ?_
 with_reducible repeat refine gg ?_
 refine w_ld k5 end_nf rfl ?_
 with_reducible repeat refine gg ?_
 refine w_bind (ptr_ne _) ?_
 with_reducible repeat refine gg ?_
 refine w_LdN h5 ?_
 refine w_call h5 (r16_newParts c hc) fun x H6 h6 => ?_
 refine w_S ?_
 refine w_new h6 fun b3 H7 h7 => ?_
 refine w_St h7 rfl rfl fun H8 h8 => ?_
 refine wp_eq (l23_Made_k0_eq _ _ _ _ _ H8) ?_
 refine wp_eq (l23_Made_k5_eq _ _ _ _ _ _ H8) ?_
 have hr := rightB_iff.1 hc
 have loop : ∀ (d i : Nat) (H : AH), i + d = n → Holds (blk b3 (.cells false [vp p, vp x]) * (blk b2 (.cells false [.pointer none, .pointer none]) * (blk b (.cells false (Cfg.cells c)) * (partsP p (Sta.made c i) * (partsX x (Sta.made c i) * R))))) H →
   wp (l23_Made_k7 (vi n) (vp b) (vp b2) (vb false) (vp b3) (vi i) H) fun v' H' => ∃ g : Nat × Nat × Cfg, v' = .tuple #[.agg [vp g.1, vp g.2.1].toArray, vb true] ∧ Holds (pu (rightB g.2.2 = true) * (partsP g.1 (Sta.made g.2.2 n) * partsX g.2.1 (Sta.made g.2.2 n)) * R) H' := by
  intro d
  induction d with
  | zero =>
   intro i H hi h
   refine wp_eq (l23_Made_k7_eq _ _ _ _ _ _ H) ?_
   refine w_bind (lss_f (by omega)) ?_
   with_reducible repeat refine gg ?_
   refine wp_eq (l23_Made_e6_0_eq _ _ _ H) ?_
   refine wp_eq (l23_Made_k1_eq _ _ _ H) ?_
   refine w_LdN h ?_
   refine w_St h rfl rfl fun H2 h2 => ?_
   refine w_LdN h2 ?_
   refine w_ret ⟨(p, x, c), rfl, ?_⟩
   rw [sep_assoc, Holds.pu]
   have e : i = n := by omega
   subst e
   exact ⟨hc, h2.to⟩
  | succ d ih =>
   intro i H hi h
   obtain ⟨m1, m2, m3⟩ := made_c c i
   have q0 : 0 ≤ (i : Int).tdiv c.sh := Int.tdiv_nonneg (by omega) (by omega)
   have q1 : (i : Int).tdiv c.sh ≤ i := Int.tdiv_le_self _ (by omega)
   have t0 : 0 ≤ (i : Int).tmod 2 := Int.tmod_nonneg _ (by omega)
   have t1 : (i : Int).tmod 2 < 2 := Int.tmod_lt_of_pos _ (by omega)
   have next : ∀ {H : AH}, Holds (blk b3 (.cells false [vp p, vp x]) * (blk b2 (.cells false [.pointer none, .pointer none]) * (blk b (.cells false (Cfg.cells c)) * (partsP p (Sta.made c (i + 1)) * (partsX x (Sta.made c (i + 1)) * R))))) H →
     wp (l23_Made_k9 (vi n) (vp b) (vp b2) (vb false) (vp b3) (vi i) H) fun v' H' => ∃ g : Nat × Nat × Cfg, v' = .tuple #[.agg [vp g.1, vp g.2.1].toArray, vb true] ∧ Holds (pu (rightB g.2.2 = true) * (partsP g.1 (Sta.made g.2.2 n) * partsX g.2.1 (Sta.made g.2.2 n)) * R) H' := by
    intro H h
    refine wp_eq (l23_Made_k9_eq _ _ _ _ _ _ H) ?_
    refine w_bind (bin_add_i (by omega) (by omega)) ?_
    exact ih (i + 1) H (by omega) h
   refine wp_eq (l23_Made_k7_eq _ _ _ _ _ _ H) ?_
   refine w_bind (lss_t (by omega)) ?_
   with_reducible repeat refine gg ?_
   refine wp_eq (l23_Made_k8_eq _ _ _ _ _ _ H) ?_
   refine w_ld h end_f0 rfl ?_
   refine w_bind (quo_ii (by omega) (by omega) (by omega)) ?_
   refine w_ld h end_f0 rfl ?_
   by_cases hf : (i : Int).tdiv c.sh < c.sl
   ·have e : Sta.made c (i + 1) = (Sta.made c i).lay i (1 + i) (2 + (i : Int).tmod 2) := by show (if _ then _ else _) = _; rw [if_pos hf]
    rw [e] at next
    refine w_bind (lss_t hf) ?_
    with_reducible repeat refine gg ?_
    refine w_LdN h ?_
    with_reducible repeat refine gg ?_
    refine w_bind (bin_add_i (by omega) (by omega)) ?_
    with_reducible repeat refine gg ?_
    refine w_bind (rem_ii (by omega)) ?_
    with_reducible repeat refine gg ?_
    refine w_bind (bin_add_i (by omega) (by omega)) ?_
    with_reducible repeat refine gg ?_
    refine w_call h (l23_put p (Sta.made c i) x i (1 + i) (2 + (i : Int).tmod 2) (by rw [m1]; exact hc) (by omega) (by omega) (by omega) (by omega)) fun _ H2 h2 => ?_
    with_reducible repeat refine gg ?_
    rw [Bool.not_true]
    with_reducible repeat refine gg ?_
    exact next h2.to
   ·have e : Sta.made c (i + 1) = Sta.made c i := by show (if _ then _ else _) = _; rw [if_neg hf]
    rw [e] at next
    refine w_bind (lss_f hf) ?_
    with_reducible repeat refine gg ?_
    exact next h
 exact loop n 0 H8 (by omega) (show Holds (blk b3 (.cells false [vp p, vp x]) * (blk b2 (.cells false [.pointer none, .pointer none]) * (blk b (.cells false (Cfg.cells c)) * (partsP p (Sta.new c) * (partsX x (Sta.new c) * R))))) H8 from h8.to)
noncomputable def f4_b (p : List Nat) : Code := Code.sub (bodyOf Tryz.f4) p
noncomputable def f4_r : KK := cFin PP (Tryz.f4).results.toList
noncomputable def f4_n0 : KK := CQ (f4_b [1, 1, 1, 1]) f4_r kx0 f4_r
noncomputable def lEA_k0 (x1 x4 x5 x7 : Value) (H : AH) : OV := f4_n0 (ls [u, x1, u, u, x4, x5, u, x7] 45) H
noncomputable def f4_n1 : KK := CQ (f4_b [1, 1, 1, 1, 1]) f4_r kx0 f4_r
noncomputable def f4_m1 : KK := clr 9007199254740943 f4_n1
noncomputable def lEA_k1 (x4 x5 : Value) (H : AH) : OV := f4_n1 (ls [u, u, u, u, x4, x5] 47) H
noncomputable def f4_n4 : KK := CQ (f4_b [1, 1, 1, 1, 0, 1]) f4_m1 kx0 f4_r
noncomputable def lEA_k4 (x1 x4 x5 x7 x9 : Value) (H : AH) : OV := f4_n4 (ls [u, x1, u, u, x4, x5, u, x7, u, x9] 43) H
noncomputable def f4_x5 : KX := BX 0 f4_m1 kx0
noncomputable def f4_y5 : KX := clx 9007199254740943 f4_x5
noncomputable def f4_n6 : KK := CLq (f4_b [1, 1, 1, 1, 0, 1, 4, 5]) f4_y5 f4_r
noncomputable def f4_m6 : KK := clr 9007199254740301 f4_n6
noncomputable def lEA_k6 (x1 x4 x5 x7 x9 : Value) (H : AH) : OV := f4_n6 (ls [u, x1, u, u, x4, x5, u, x7, u, x9] 43) H
noncomputable def f4_n7 : KK := CQ (f4_b [1, 1, 1, 1, 0, 1, 4, 5, 1]) f4_m6 f4_y5 f4_r
noncomputable def lEA_k7 (x1 x4 x5 x7 x9 : Value) (H : AH) : OV := f4_n7 (ls [u, x1, u, u, x4, x5, u, x7, u, x9] 43) H
noncomputable def f4_n8 : KK := CQ (f4_b [1, 1, 1, 1, 0, 1, 4, 5, 1, 1]) f4_m6 f4_y5 f4_r
noncomputable def f4_m8 : KK := clr 9007199254740301 f4_n8
noncomputable def lEA_k8 (x1 x4 x5 x7 x9 : Value) (H : AH) : OV := f4_n8 (ls [u, x1, u, u, x4, x5, u, x7, u, x9] 43) H
noncomputable def f4_x10 : KX := BX 1 f4_m8 f4_y5
noncomputable def lEA_e5_0 (x4 x5 : Value) (H : AH) : OV := f4_x5 0 (ls [u, u, u, u, x4, x5] 47) H
theorem f4_r_d : Resp 9007199254740975 f4_r := rf
theorem f4_n0_d : Resp 9007199254740813 f4_n0 := rc f4_r_d kx0_d f4_r_d
theorem f4_n1_d : Resp 9007199254740943 f4_n1 := rc f4_r_d kx0_d f4_r_d
theorem f4_n4_d : Resp 9007199254740301 f4_n4 := rc (cd f4_n1_d) kx0_d f4_r_d
theorem f4_x5_d : ∀ i, Resp 9007199254740943 (f4_x5 i) := rb (cd f4_n1_d) kx0_d
theorem f4_n6_d : Resp 9007199254740301 f4_n6 := rl (cx f4_x5_d) f4_r_d
theorem f4_n7_d : Resp 9007199254740301 f4_n7 := rc (cd f4_n6_d) (cx f4_x5_d) f4_r_d
theorem f4_n8_d : Resp 9007199254740301 f4_n8 := rc (cd f4_n6_d) (cx f4_x5_d) f4_r_d
theorem f4_x10_d : ∀ i, Resp 9007199254740301 (f4_x10 i) := rb (cd f4_n8_d) (cx f4_x5_d)
theorem lEA_k1_eq (x4 x5 : Value) (H : AH) : lEA_k1 x4 x5 H =
 (pLdN 2 x5 H).bind fun v2 =>
 (FF n_l23_Pair_Same [v2] H).bind fun r3 =>
 some (r3.1, r3.2) :=
 (by kernel_rfl)
theorem lEA_k8_eq (x1 x4 x5 x7 x9 : Value) (H : AH) : lEA_k8 x1 x4 x5 x7 x9 H =
 (pBin .other .add x9 (vi 1)).bind fun v9 =>
 lEA_k6 x1 x4 x5 x7 v9 H :=
 (by kernel_rfl)
theorem lEA_k7_eq (x1 x4 x5 x7 x9 : Value) (H : AH) : lEA_k7 x1 x4 x5 x7 x9 H =
 ldN 4 [.i 4 x9] x1 H fun v11 =>
 (FF n_play_Call [v11] H).bind fun r12 =>
 newK [(vi 0), (vi 0), (vi 0), (vi 0)] r12.2 fun v13 H14 =>
 (pSt 4 v13 r12.1 H14).bind fun H15 =>
 st 1 [.f 0] v13 (vi 3) H15 fun H16 =>
 (pLdN 2 x5 H16).bind fun v17 =>
 (pBin .other .rem x9 (vi 3)).bind fun v18 =>
 (pLdN 4 v13 H16).bind fun v19 =>
 (FF n_lAl [v17, v18, x9, v19, x7, (vi 40)] H16).bind fun r20 =>
 (pExtract r20.1 0).bind fun v21 =>
 (pExtract r20.1 1).bind fun v22 =>
 (pExtract r20.1 2).bind fun v23 =>
 (pUn .not v23).bind fun v24 =>
 condK v24
 (some ((vb false), r20.2))
 (lEA_k8 x1 x4 x5 v22 x9 r20.2) :=
 (pt rfl 0 f4_n8_d (bt rfl (f4_b [1, 1, 1, 1, 0, 1, 4, 5, 1, 0, 4]) 1 f4_x10_d (by kernel_rfl)))
theorem lEA_e5_0_eq (x4 x5 : Value) (H : AH) : lEA_e5_0 x4 x5 H = lEA_k1 x4 x5 H :=
 (by kernel_rfl)
theorem lEA_k6_eq (x1 x4 x5 x7 x9 : Value) (H : AH) : lEA_k6 x1 x4 x5 x7 x9 H =
 lenK x1 fun v25 =>
 (pBin .other .lss x9 v25).bind fun v26 =>
 (gV v26 true x9).bind fun v27 =>
 (gB v26 true (pBin .other .lss v27 (vi 30))).bind fun v28 =>
 (pPick v26 v28 (vb false)).bind fun v29 =>
 condK v29
 (lEA_k7 x1 x4 x5 x7 x9 H)
 (lEA_e5_0 x4 x5 H) :=
 lt' rfl f4_n6_d (pt rfl 0 f4_n7_d (by kernel_rfl))
theorem lEA_k4_eq (x1 x4 x5 x7 x9 : Value) (H : AH) : lEA_k4 x1 x4 x5 x7 x9 H =
 lEA_k6 x1 x4 x5 x7 x9 H :=
 (bt rfl (f4_b [1, 1, 1, 1, 0, 1, 4]) 0 f4_x5_d (li rfl (f4_b [1, 1, 1, 1, 0, 1, 4, 5]) f4_n6_d (by kernel_rfl)))
theorem lEA_k0_eq (x1 x4 x5 x7 : Value) (H : AH) : lEA_k0 x1 x4 x5 x7 H =
 lEA_k4 x1 x4 x5 x7 (vi 0) H :=
 (pt rfl 0 f4_n1_d (pt rfl 0 f4_n4_d (by kernel_rfl)))
noncomputable def lEA (x0 x1 : Value) (H : AH) : OV := cCode PP GG FF (f4_b []) (ls [x0, x1] 51) H f4_r kx0 f4_r
theorem lEA_of (x0 x1 : Value) (H : AH) {r : Value × AH} (h : (
 newK (Value.cells x0).toList H fun v30 H31 =>
 (pLdN 5 v30 H31).bind fun v32 =>
 (FF n_l23_Made [v32, (vi 4)] H31).bind fun r33 =>
 (pExtract r33.1 0).bind fun v34 =>
 (pExtract r33.1 1).bind fun v35 =>
 newK [(.pointer none), (.pointer none)] r33.2 fun v36 H37 =>
 (pSt 2 v36 v34 H37).bind fun H38 =>
 (FF n_l23_awake [] H38).bind fun r39 =>
 (pUn .not r39.1).bind fun v40 =>
 (gV v40 false v35).bind fun v41 =>
 (gB v40 false (pUn .not v41)).bind fun v42 =>
 (pPick v40 (vb true) v42).bind fun v43 =>
 condK v43
 (some ((vb false), r39.2))
 (lEA_k0 x1 (vb false) v36 (vi 0) r39.2)) = some r) : FF n_lEA [x0, x1] H = some r :=
 fo (t := lEA x0 x1 H) Tryz.func4 (by kernel_rfl) (Eq.trans (pt rfl 3 f4_n0_d (by kernel_rfl)) h)
noncomputable def f19_b (p : List Nat) : Code := Code.sub (bodyOf Tryz.f19) p
noncomputable def f19_r : KK := cFin PP (Tryz.f19).results.toList
noncomputable def f19_n0 : KK := CQ (f19_b [1, 1, 1, 1]) f19_r kx0 f19_r
noncomputable def lAl_k0 (x4 x5 x6 x12 x13 x14 x15 x16 : Value) (H : AH) : OV := f19_n0 (ls [u, u, u, u, x4, x5, x6, u, u, u, u, u, x12, x13, x14, x15, x16] 79) H
noncomputable def f19_n1 : KK := CQ (f19_b [1, 1, 1, 1, 1]) f19_r kx0 f19_r
noncomputable def f19_m1 : KK := clr 79228162514264337593543921647 f19_n1
noncomputable def f19_n5 : KK := CQ (f19_b [1, 1, 1, 1, 0, 1]) f19_m1 kx0 f19_r
noncomputable def lAl_k5 (x4 x5 x6 x12 x13 x14 x15 x16 x17 : Value) (H : AH) : OV := f19_n5 (ls [u, u, u, u, x4, x5, x6, u, u, u, u, u, x12, x13, x14, x15, x16, x17] 78) H
noncomputable def f19_x6 : KX := BX 0 f19_m1 kx0
noncomputable def f19_y6 : KX := clx 79228162514264337593543921647 f19_x6
noncomputable def f19_n7 : KK := CLq (f19_b [1, 1, 1, 1, 0, 1, 4, 5]) f19_y6 f19_r
noncomputable def f19_m7 : KK := clr 79228162514264337593543692175 f19_n7
noncomputable def lAl_k7 (x4 x5 x6 x12 x13 x14 x15 x16 x17 : Value) (H : AH) : OV := f19_n7 (ls [u, u, u, u, x4, x5, x6, u, u, u, u, u, x12, x13, x14, x15, x16, x17] 78) H
noncomputable def f19_n8 : KK := CQ (f19_b [1, 1, 1, 1, 0, 1, 4, 5, 1]) f19_m7 f19_y6 f19_r
noncomputable def lAl_k8 (x4 x5 x6 x12 x13 x14 x15 x16 x17 : Value) (H : AH) : OV := f19_n8 (ls [u, u, u, u, x4, x5, x6, u, u, u, u, u, x12, x13, x14, x15, x16, x17] 78) H
noncomputable def f19_n9 : KK := CQ (f19_b [1, 1, 1, 1, 0, 1, 4, 5, 1, 1]) f19_m7 f19_y6 f19_r
noncomputable def f19_m9 : KK := clr 79228162514264337593543692175 f19_n9
noncomputable def lAl_k9 (x4 x5 x6 x12 x13 x14 x15 x16 x17 : Value) (H : AH) : OV := f19_n9 (ls [u, u, u, u, x4, x5, x6, u, u, u, u, u, x12, x13, x14, x15, x16, x17] 78) H
noncomputable def f19_x11 : KX := BX 1 f19_m9 f19_y6
noncomputable def lAl_e6_0 (x4 x12 x13 x14 : Value) (H : AH) : OV := f19_x6 0 (ls [u, u, u, u, x4, u, u, u, u, u, u, u, x12, x13, x14] 81) H
theorem f19_r_d : Resp 79228162514264337593543921663 f19_r := rf
theorem f19_n0_d : Resp 79228162514264337593543823247 f19_n0 := rc f19_r_d kx0_d f19_r_d
theorem f19_n1_d : Resp 79228162514264337593543921647 f19_n1 := rc f19_r_d kx0_d f19_r_d
theorem f19_n5_d : Resp 79228162514264337593543692175 f19_n5 := rc (cd f19_n1_d) kx0_d f19_r_d
theorem f19_x6_d : ∀ i, Resp 79228162514264337593543921647 (f19_x6 i) := rb (cd f19_n1_d) kx0_d
theorem f19_n7_d : Resp 79228162514264337593543692175 f19_n7 := rl (cx f19_x6_d) f19_r_d
theorem f19_n8_d : Resp 79228162514264337593543692175 f19_n8 := rc (cd f19_n7_d) (cx f19_x6_d) f19_r_d
theorem f19_n9_d : Resp 79228162514264337593543692175 f19_n9 := rc (cd f19_n7_d) (cx f19_x6_d) f19_r_d
theorem f19_x11_d : ∀ i, Resp 79228162514264337593543692175 (f19_x11 i) := rb (cd f19_n9_d) (cx f19_x6_d)
theorem lAl_k9_eq (x4 x5 x6 x12 x13 x14 x15 x16 x17 : Value) (H : AH) : lAl_k9 x4 x5 x6 x12 x13 x14 x15 x16 x17 H =
 (pBin .other .add x17 (vi 1)).bind fun v10 =>
 lAl_k7 x4 x5 x6 x12 x13 x14 x15 x16 v10 H :=
 (by kernel_rfl)
theorem lAl_k8_eq (x4 x5 x6 x12 x13 x14 x15 x16 x17 : Value) (H : AH) : lAl_k8 x4 x5 x6 x12 x13 x14 x15 x16 x17 H =
 (pBin .other .add x4 x17).bind fun v12 =>
 (FF n_eE_Step [x15, v12] H).bind fun r13 =>
 (pExtract r13.1 0).bind fun v14 =>
 (pExtract r13.1 1).bind fun v15 =>
 newK [(vi 0), (.slice none 0 0), (vi 0), (vw 0)] r13.2 fun v16 H17 =>
 (pSt 4 v16 v14 H17).bind fun H18 =>
 (pBin .other .add x4 x17).bind fun v19 =>
 (FF n_rTE [x16, v19] H18).bind fun r20 =>
 (pBin .bool .neq v15 r20.1).bind fun v21 =>
 (gB v21 false (pLdN 4 v16 r20.2)).bind fun v22 =>
 (gV v21 false x16).bind fun v23 =>
 (gV v21 false r20.1).bind fun v24 =>
 (gE v21 false r20.2 (FF n_l23_Told [v23, v24] r20.2)).bind fun r25 =>
 eqK (pLdN 4 v16 r25.2) (pLdN 4 v16 r20.2) <|
 (gE v21 false r25.2 (FF n_help_Ret [v22, r25.1] r25.2)).bind fun r26 =>
 (gB v21 false (pUn .not r26.1)).bind fun v27 =>
 (pPick v21 (vb true) v27).bind fun v28 =>
 gld v28 false  [.f 0] x6 r26.2 fun v29 =>
 gld v28 false  [.n, .f 0] v29 r26.2 fun v30 =>
 (gE v28 false r26.2 (FF n_mem_Mem_Len [v30] r26.2)).bind fun r31 =>
 gad v28 false  [.f 1] x6 fun v32 =>
 (gB v28 false (pLd1 v32 r31.2)).bind fun v33 =>
 eqK (pLd1 v32 r26.2) (pLd1 v32 r31.2) <|
 gad v28 false  [.n, .f 5] v33 fun v34 =>
 (gB v28 false (pLd1 v34 r31.2)).bind fun v35 =>
 eqK (pLd1 v34 r26.2) (pLd1 v34 r31.2) <|
 gad v28 false  [.n, .f 2] v35 fun v36 =>
 (gB v28 false (pLd1 v36 r31.2)).bind fun v37 =>
 eqK (pLd1 v36 r26.2) (pLd1 v36 r31.2) <|
 (onK (yv v28) false (lenK v37 some) (some undef)).bind fun v38 =>
 eqK (lenR v37) (lenR v37) <|
 (gB v28 false (pBin .other .neq r31.1 v38)).bind fun v39 =>
 (pPick v28 (vb true) v39).bind fun v40 =>
 condK v40
 (mkS [(0, 1), (1, 1), (2, 1), (3, 1)] [(vi 0), (.slice none 0 0), (vi 0), (vw 0)] [] fun v41 =>
 (pSt 4 x12 v41 r31.2).bind fun H42 =>
 (pLdN 4 x12 H42).bind fun v43 => some (Value.tuple #[v43, x4, (vb false)], H42))
 (condK r20.1
 ((pLdN 4 v16 r31.2).bind fun v44 =>
 (pBin .other .add x4 x17).bind fun v45 =>
 (pBin .other .add v45 (vi 1)).bind fun v46 =>
 (pSt 4 x12 v44 r31.2).bind fun H47 =>
 (pLdN 4 x12 H47).bind fun v48 => some (Value.tuple #[v48, v46, (vb true)], H47))
 (lAl_k9 x4 x5 x6 x12 x13 x14 x15 x16 x17 r31.2)) :=
 (pt rfl 0 f19_n9_d (bt rfl (f19_b [1, 1, 1, 1, 0, 1, 4, 5, 1, 0, 4]) 1 f19_x11_d (by kernel_rfl)))
theorem lAl_k7_eq (x4 x5 x6 x12 x13 x14 x15 x16 x17 : Value) (H : AH) : lAl_k7 x4 x5 x6 x12 x13 x14 x15 x16 x17 H =
 (pBin .other .lss x17 x5).bind fun v49 =>
 condK v49
 (lAl_k8 x4 x5 x6 x12 x13 x14 x15 x16 x17 H)
 (lAl_e6_0 x4 x12 x13 x14 H) :=
 lt' rfl f19_n7_d (pt rfl 0 f19_n8_d (by kernel_rfl))
theorem lAl_k5_eq (x4 x5 x6 x12 x13 x14 x15 x16 x17 : Value) (H : AH) : lAl_k5 x4 x5 x6 x12 x13 x14 x15 x16 x17 H =
 lAl_k7 x4 x5 x6 x12 x13 x14 x15 x16 x17 H :=
 (bt rfl (f19_b [1, 1, 1, 1, 0, 1, 4]) 0 f19_x6_d (li rfl (f19_b [1, 1, 1, 1, 0, 1, 4, 5]) f19_n7_d (by kernel_rfl)))
theorem lAl_k0_eq (x4 x5 x6 x12 x13 x14 x15 x16 : Value) (H : AH) : lAl_k0 x4 x5 x6 x12 x13 x14 x15 x16 H =
 lAl_k5 x4 x5 x6 x12 x13 x14 x15 x16 (vi 0) H :=
 (pt rfl 0 f19_n1_d (pt rfl 0 f19_n5_d (by kernel_rfl)))
noncomputable def lAl (x0 x1 x2 x3 x4 x5 : Value) (H : AH) : OV := cCode PP GG FF (f19_b []) (ls [x0, x1, x2, x3, x4, x5] 90) H f19_r kx0 f19_r
theorem lAl_of (x0 x1 x2 x3 x4 x5 : Value) (H : AH) {r : Value × AH} (h : (
 newK (Value.cells x0).toList H fun v50 H51 =>
 newK (Value.cells x3).toList H51 fun v52 H53 =>
 newK [(vi 0), (.slice none 0 0), (vi 0), (vw 0)] H53 fun v54 H55 =>
 (pLdN 2 v50 H55).bind fun v56 =>
 (FF n_l23_Pair_Begin [v56, x1, x2] H55).bind fun r57 =>
 ld [.f 0] v50 r57.2 fun v58 =>
 (pLdN 4 v52 r57.2).bind fun v59 =>
 (FF n_enq_New [v58, x1, v59] r57.2).bind fun r60 =>
 ad [.f 1] v50 fun v61 =>
 (pLd1 v61 r60.2).bind fun v62 =>
 eqK (pLd1 v61 r57.2) (pLd1 v61 r60.2) <|
 (pLdN 4 v52 r60.2).bind fun v63 =>
 eqK (pLdN 4 v52 r57.2) (pLdN 4 v52 r60.2) <|
 (FF n_r16_NewTask [v62, x1, v63] r60.2).bind fun r64 =>
 (pBin .ptr .eql r60.1 (.pointer none)).bind fun v65 =>
 condK v65
 (mkS [(0, 1), (1, 1), (2, 1), (3, 1)] [(vi 0), (.slice none 0 0), (vi 0), (vw 0)] [] fun v66 =>
 (pSt 4 v54 v66 r64.2).bind fun H67 =>
 (pLdN 4 v54 H67).bind fun v68 => some (Value.tuple #[v68, x4, (vb false)], H67))
 (lAl_k0 x4 x5 v50 v54 (vi 0) (vb false) r60.1 r64.1 r64.2)) = some r) : FF n_lAl [x0, x1, x2, x3, x4, x5] H = some r :=
 fo (t := lAl x0 x1 x2 x3 x4 x5 H) Tryz.func19 (by kernel_rfl) (Eq.trans (pt rfl 3 f19_n0_d (by kernel_rfl)) h)
theorem l23_Pair_Same_of (x0 : Value) (H : AH) {r : Value × AH} (h : (
 newK (Value.cells x0).toList H fun v0 H1 =>
 ld [.f 0] v0 H1 fun v2 =>
 ld [.n, .f 0] v2 H1 fun v3 =>
 (FF n_mem_Mem_Events [v3] H1).bind fun r4 =>
 ad [.f 1] v0 fun v5 =>
 (pLd1 v5 r4.2).bind fun v6 =>
 eqK (pLd1 v5 H1) (pLd1 v5 r4.2) <|
 ad [.n, .f 5] v6 fun v7 =>
 (pLd1 v7 r4.2).bind fun v8 =>
 eqK (pLd1 v7 H1) (pLd1 v7 r4.2) <|
 ad [.n, .f 2] v8 fun v9 =>
 (pLd1 v9 r4.2).bind fun v10 =>
 eqK (pLd1 v9 H1) (pLd1 v9 r4.2) <|
 (FF n_help_Plainapi_Event [r4.1, v10] r4.2).bind fun r11 =>
 gld r11.1 true  [.f 0] v0 r11.2 fun v12 =>
 (gE r11.1 true r11.2 (FF n_pPP [v12] r11.2)).bind fun r13 =>
 gad r11.1 true  [.f 1] v0 fun v14 =>
 (gB r11.1 true (pLd1 v14 r13.2)).bind fun v15 =>
 eqK (pLd1 v14 r11.2) (pLd1 v14 r13.2) <|
 gad r11.1 true  [.n, .f 13] v15 fun v16 =>
 (gB r11.1 true (pLd1 v16 r13.2)).bind fun v17 =>
 eqK (pLd1 v16 r11.2) (pLd1 v16 r13.2) <|
 (gE r11.1 true r13.2 (FF n_hS_Point [r13.1, v17, (.func (.func n_help_Point) #[] #[])] r13.2)).bind fun r18 =>
 (pPick r11.1 r18.1 (vb false)).bind fun v19 =>
 some (v19, r18.2)) = some r) : FF n_l23_Pair_Same [x0] H = some r :=
 fo Tryz.func20 (by kernel_rfl) h
theorem parts_point_order_of (x0 x1 : Value) (H : AH) {r : Value × AH} (h : (
 newK (Value.cells x0).toList H fun v0 H1 =>
 newK (Value.cells x1).toList H1 fun v2 H3 =>
 ld [.f 0] v0 H3 fun v4 =>
 ld [.f 0] v2 H3 fun v5 =>
 (FF n_cmp_Compareint [v4, v5] H3).bind fun r6 =>
 some (r6.1, r6.2)) = some r) : FF n_parts_point_order [x0, x1] H = some r :=
 fo Tryz.func38 (by kernel_rfl) h
theorem l23_Pair_Begin_of (x0 x1 x2 : Value) (H : AH) {r : Value × AH} (h : (
 newK (Value.cells x0).toList H fun v0 H1 =>
 ld [.f 0] v0 H1 fun v2 =>
 (FF n_parts_Parts_Begin [v2, x1, x2] H1).bind fun r3 =>
 ld [.f 1] v0 r3.2 fun v4 =>
 (FF n_r16_Parts_Begin [v4, x1, x2] r3.2).bind fun r5 =>
 some (Value.tuple #[], r5.2)) = some r) : FF n_l23_Pair_Begin [x0, x1, x2] H = some r :=
 fo Tryz.func41 (by kernel_rfl) h
theorem r16_NewTask_of (x0 x1 x2 : Value) (H : AH) {r : Value × AH} (h : (
 newK (Value.cells x2).toList H fun v0 H1 =>
 (pLdN 4 v0 H1).bind fun v2 =>
 mkS [(0, 1), (1, 1), (2, 4), (6, 1), (7, 1), (8, 1), (9, 1), (10, 1), (11, 1), (12, 1), (13, 1), (14, 1), (15, 1), (16, 1), (17, 4), (21, 1), (22, 1), (23, 1), (24, 1), (25, 1), (26, 3), (29, 1), (30, 4)] [(.pointer none), (vi 0), (vi 0), (vi 0), (vi 0), (vi 0), (vi 0), (vi 0), (vi 0), (vb false), (vi 0), (vw 0), (vw 0), (vw 0), (vw 0), (vw 0), (vi 0), (vi 0), (.slice none 0 0), (vi 0), (vw 0), (vi 0), (vi 0), (.slice none 0 0), (vw 0), (vw 0), (vi 0), (vi 0), (vi 0), (vb false), (vi 0), (.slice none 0 0), (vi 0), (vw 0)] [(0, x0), (1, x1), (2, v2), (5, (vi (-1)))] fun v3 =>
 newK (Value.cells v3).toList H1 fun v4 H5 =>
 some (v4, H5)) = some r) : FF n_r16_NewTask [x0, x1, x2] H = some r :=
 fo Tryz.func42 (by kernel_rfl) h
end Go.Proofs.YtodpbobjmkhcfaaGreatDoor.Gst
