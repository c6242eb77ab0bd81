/- Several texts in one. -/
import Derived.Test.YtodpbobjmkhcfaaGreatDoorOc
namespace Go.Proofs.YtodpbobjmkhcfaaGreatDoor.Gst
open Go Go.RowKit
set_option maxRecDepth 100000
set_option linter.unusedVariables false
set_option maxHeartbeats 1000000
set_option linter.unusedSimpArgs false
set_option synthInstance.maxSize 2000
set_option synthInstance.maxHeartbeats 400000
theorem wb (x0 x1 x2 : Value) (H : AH) {r : Value × AH} (h : (
 ad [.n, .f 0] x0 fun v0 =>
 (aq v0 H).bind fun v1 =>
 ad [.n, .f 1] x0 fun v2 =>
 (aq v2 H).bind fun v3 =>
 (FF du [x0, x2] H).bind fun r4 =>
 bD (aq v0 r4.2) (aq v0 H) <|
 bD (aq v2 r4.2) (aq v2 H) <|
 (FF bB [(vi 15), v3, r4.1] r4.2).bind fun r5 =>
 bD (aq v0 r5.2) (aq v0 H) <|
 (ai .other .add x2 (vw 1)).bind fun v6 =>
 (FF cR [v1, x1, r5.1, v6] r5.2).bind fun r7 =>
 some (Value.tuple #[], r7.2)) = some r) : FF gm [x0, x1, x2] H = some r :=
 fo Tryz.func92 (by kernel_rfl) h
theorem sA (x0 x1 : Value) (H : AH) {r : Value × AH} (h : (
 ad [.n, .f 0] x0 fun v0 =>
 (aq v0 H).bind fun v1 =>
 (FF bB [(vi 3), (vi 0), (vi 0)] H).bind fun r2 =>
 bD (aq v0 r2.2) (aq v0 H) <|
 (FF ga [v1, x1, r2.1, (vw 4294967296)] r2.2).bind fun r3 =>
 some (Value.tuple #[], r3.2)) = some r) : FF ip [x0, x1] H = some r :=
 fo Tryz.func93 (by kernel_rfl) h
noncomputable def I6 (p : List Nat) : Code := Code.sub (bG Tryz.f94) p
noncomputable def wP : KK := dR PP (Tryz.f94).results.toList
noncomputable def Zs : KK := CQ (I6 [1]) wP bq wP
noncomputable def abS (x0 x1 x4 : Value) (H : AH) : OV := Zs (ls [x0, x1, u, u, x4] 100) H
noncomputable def MM : KK := CQ (I6 [1, 1]) wP bq wP
noncomputable def Zr : KK := dd 40564819207303340847894502572015 MM
noncomputable def nX (x4 : Value) (H : AH) : OV := MM (ls [u, u, u, u, x4] 100) H
noncomputable def Zu : KK := CQ (I6 [1, 0, 1]) Zr bq wP
noncomputable def abT (x0 x1 x4 x8 : Value) (H : AH) : OV := Zu (ls [x0, x1, u, u, x4, u, u, u, x8] 96) H
noncomputable def aiW : KX := BX 0 Zr bq
theorem tI : au 40564819207303340847894502572015 wP := rf
theorem Zt : au 40564819207303340847894502572012 Zs := rc tI aB tI
theorem AW : au 40564819207303340847894502572015 MM := rc tI aB tI
theorem Zv : au 40564819207303340847894502571756 Zu := rc (cd AW) aB tI
theorem Zw : ∀ i, au 40564819207303340847894502572015 (aiW i) := rb (cd AW) aB
theorem jd (x4 : Value) (H : AH) : nX x4 H =
 some ((vb false), H) :=
 (by kernel_rfl)
theorem qM (x0 x1 x4 x8 : Value) (H : AH) : abT x0 x1 x4 x8 H =
 (ai .other .eql x8 (vi 15)).bind fun v4 =>
 ax v4
 (ld [.n, .f 0] x0 H fun v5 =>
 ld [.n, .f 1] x0 H fun v6 =>
 (FF gj [v5, v6] H).bind fun r7 =>
 st 1 [.n, .f 13] x0 r7.1 r7.2 fun H8 =>
 st 1 [.n, .f 6] x0 (vi 16) H8 fun H9 =>
 ld [.n, .f 13] x0 H9 fun v10 =>
 (ai .other .rem v10 (vw 2)).bind fun v11 =>
 (ai .other .eql v11 (vw 1)).bind fun v12 =>
 ax v12
 (st 1 [.n, .f 6] x0 (vi 7) H9 fun H13 =>
 nX x4 H13)
 (nX x4 H9))
 ((ai .other .eql x8 (vi 16)).bind fun v14 =>
 ax v14
 (st 1 [.n, .f 6] x0 (vi 17) H fun H15 =>
 (FF gn [x0] H15).bind fun r16 =>
 (ai .other .eql r16.1 (vi 2)).bind fun v17 =>
 ax v17
 (st 1 [.n, .f 6] x0 (vi 3) r16.2 fun H18 =>
 nX x4 H18)
 (nX x4 r16.2))
 ((ai .other .eql x8 (vi 17)).bind fun v19 =>
 ax v19
 ((FF bK [x0] H).bind fun r20 =>
 ad [.n, .f 1] x0 fun v21 =>
 (aq v21 r20.2).bind fun v22 =>
 bD (aq v21 H) (aq v21 r20.2) <|
 (FF gl [r20.1, v22] r20.2).bind fun r23 =>
 st 1 [.n, .f 12] x0 r23.1 r23.2 fun H24 =>
 st 1 [.n, .f 16] x0 x1 H24 fun H25 =>
 st 1 [.n, .f 6] x0 (vi 18) H25 fun H26 =>
 (FF bK [x0] H26).bind fun r27 =>
 ad [.n, .f 11] x0 fun v28 =>
 (aq v28 r27.2).bind fun v29 =>
 bD (aq v28 H26) (aq v28 r27.2) <|
 ad [.n, .f 12] x0 fun v30 =>
 (aq v30 r27.2).bind fun v31 =>
 bD (aq v30 H26) (aq v30 r27.2) <|
 (FF gk [r27.1, v29, v31] r27.2).bind fun r32 =>
 (ot .not r32.1).bind fun v33 =>
 ax v33
 (st 1 [.n, .f 6] x0 (vi 7) r32.2 fun H34 =>
 nX x4 H34)
 (nX x4 r32.2))
 ((ai .other .eql x8 (vi 18)).bind fun v35 =>
 ax v35
 (ld [.n, .f 0] x0 H fun v36 =>
 ld [.n, .f 1] x0 H fun v37 =>
 (FF gj [v36, v37] H).bind fun r38 =>
 ad [.n, .f 13] x0 fun v39 =>
 (aq v39 r38.2).bind fun v40 =>
 bD (aq v39 H) (aq v39 r38.2) <|
 (ai .other .eql r38.1 v40).bind fun v41 =>
 ax v41
 (ld [.n, .f 16] x0 r38.2 fun v42 =>
 (FF cr [x0, v42, (vi 9)] r38.2).bind fun r43 =>
 some ((vb true), r43.2))
 (st 1 [.n, .f 6] x0 (vi 7) r38.2 fun H44 =>
 nX x4 H44))
 (nX x4 H)))) :=
 (bt rfl (I6 [1, 0, 1, 4]) 0 Zw (by kernel_rfl))
theorem qL (x0 x1 x4 : Value) (H : AH) : abS x0 x1 x4 H =
 ld [.n, .f 6] x0 H fun v45 =>
 abT x0 x1 x4 v45 H :=
 (pt rfl 0 AW (pt rfl 0 Zv (by kernel_rfl)))
noncomputable def rTf (x0 x1 : Value) (H : AH) : OV := aU PP GG FF (I6 []) (ls [x0, x1] 103) H wP bq wP
theorem G9 (x0 x1 : Value) (H : AH) {r : Value × AH} (h : (
 abS x0 x1 (vb false) H) = some r) : FF ahH [x0, x1] H = some r :=
 fo (t := rTf x0 x1 H) Tryz.func94 (by kernel_rfl) (Eq.trans (pt rfl 0 Zt (by kernel_rfl)) h)
noncomputable def I7 (p : List Nat) : Code := Code.sub (bG Tryz.f95) p
noncomputable def wQ : KK := dR PP (Tryz.f95).results.toList
noncomputable def Zy : KK := CQ (I7 [1, 1]) wQ bq wQ
noncomputable def abV (x0 x1 x4 x5 : Value) (H : AH) : OV := Zy (ls [x0, x1, u, u, x4, x5] 113) H
noncomputable def MN : KK := CQ (I7 [1, 1, 1]) wQ bq wQ
noncomputable def Zx : KK := dd 664613997892457936451903530140172271 MN
noncomputable def pP (x4 : Value) (H : AH) : OV := MN (ls [u, u, u, u, x4] 114) H
noncomputable def ZA : KK := CQ (I7 [1, 1, 0, 1]) Zx bq wQ
noncomputable def abW (x0 x1 x4 x5 x13 : Value) (H : AH) : OV := ZA (ls [x0, x1, u, u, x4, x5, u, u, u, u, u, u, u, x13] 105) H
noncomputable def aiX : KX := BX 0 Zx bq
theorem tJ : au 664613997892457936451903530140172271 wQ := rf
theorem Zz : au 664613997892457936451903530140172236 Zy := rc tJ aB tJ
theorem AX : au 664613997892457936451903530140172271 MN := rc tJ aB tJ
theorem ZB : au 664613997892457936451903530140164044 ZA := rc (cd AX) aB tJ
theorem ZC : ∀ i, au 664613997892457936451903530140172271 (aiX i) := rb (cd AX) aB
theorem ko (x4 : Value) (H : AH) : pP x4 H =
 some ((vb false), H) :=
 (by kernel_rfl)
theorem kp (x0 x1 x4 x5 x13 : Value) (H : AH) : abW x0 x1 x4 x5 x13 H =
 (ai .other .eql x13 (vi 20)).bind fun v4 =>
 ax v4
 (ld [.n, .f 6] x5 H fun v5 =>
 ld [.n, .f 1] x0 H fun v6 =>
 (FF gi [v5, v6] H).bind fun r7 =>
 st 1 [.n, .f 6] x0 (vi 7) r7.2 fun H8 =>
 pP x4 H8)
 ((ai .other .eql x13 (vi 21)).bind fun v9 =>
 ax v9
 ((FF bK [x0] H).bind fun r10 =>
 ad [.n, .f 1] x0 fun v11 =>
 (aq v11 r10.2).bind fun v12 =>
 bD (aq v11 H) (aq v11 r10.2) <|
 (FF dY [x0] r10.2).bind fun r13 =>
 bD (aq v11 r13.2) (aq v11 r10.2) <|
 (FF gm [r10.1, v12, r13.1] r13.2).bind fun r14 =>
 st 1 [.n, .f 6] x0 (vi 22) r14.2 fun H15 =>
 pP x4 H15)
 ((ai .other .eql x13 (vi 22)).bind fun v16 =>
 ax v16
 (ld [.n, .f 6] x5 H fun v17 =>
 ld [.n, .f 1] x0 H fun v18 =>
 (FF jK [v17, v18, x1] H).bind fun r19 =>
 st 1 [.n, .f 15] x0 r19.1 r19.2 fun H20 =>
 st 1 [.n, .f 6] x0 (vi 23) H20 fun H21 =>
 pP x4 H21)
 ((ai .other .eql x13 (vi 23)).bind fun v22 =>
 ax v22
 (ld [.n, .f 6] x5 H fun v23 =>
 ld [.n, .f 1] x0 H fun v24 =>
 ld [.n, .f 10] x0 H fun v25 =>
 ld [.n, .f 15] x0 H fun v26 =>
 (FF i1 [v23, v24, v25, v26] H).bind fun r27 =>
 st 1 [.n, .f 6] x0 (vi 24) r27.2 fun H28 =>
 pP x4 H28)
 ((ai .other .eql x13 (vi 24)).bind fun v29 =>
 ax v29
 (st 1 [.n, .f 6] x0 (vi 22) H fun H30 =>
 ld [.n, .f 6] x5 H30 fun v31 =>
 ld [.n, .f 1] x0 H30 fun v32 =>
 ld [.n, .f 15] x0 H30 fun v33 =>
 ld [.n, .f 10] x0 H30 fun v34 =>
 (FF i3 [v31, v32, x1, v33, v34] H30).bind fun r35 =>
 ax r35.1
 (st 1 [.n, .f 6] x0 (vi 25) r35.2 fun H36 =>
 pP x4 H36)
 (pP x4 r35.2))
 ((ai .other .eql x13 (vi 25)).bind fun v37 =>
 ax v37
 (ld [.n, .f 6] x5 H fun v38 =>
 ld [.n, .f 1] x0 H fun v39 =>
 (FF gi [v38, v39] H).bind fun r40 =>
 some ((vb true), r40.2))
 (pP x4 H)))))) :=
 (bt rfl (I7 [1, 1, 0, 1, 4]) 0 ZC (by kernel_rfl))
theorem km (x0 x1 x4 x5 : Value) (H : AH) : abV x0 x1 x4 x5 H =
 ld [.n, .f 6] x0 H fun v41 =>
 abW x0 x1 x4 x5 v41 H :=
 (pt rfl 0 AX (pt rfl 0 ZB (by kernel_rfl)))
noncomputable def rTw (x0 x1 : Value) (H : AH) : OV := aU PP GG FF (I7 []) (ls [x0, x1] 117) H wQ bq wQ
theorem wm (x0 x1 : Value) (H : AH) {r : Value × AH} (h : (
 ld [.n, .f 0] x0 H fun v42 =>
 abV x0 x1 (vb false) v42 H) = some r) : FF aaN [x0, x1] H = some r :=
 fo (t := rTw x0 x1 H) Tryz.func95 (by kernel_rfl) (Eq.trans (pt rfl 1 Zz (by kernel_rfl)) h)
noncomputable def rr (p : List Nat) : Code := Code.sub (bG Tryz.f96) p
noncomputable def pd : KK := dR PP (Tryz.f96).results.toList
noncomputable def ZF : KK := CQ (rr [1, 1]) pd bq pd
noncomputable def wV (x0 x1 x2 x6 : Value) (H : AH) : OV := ZF (ls [x0, x1, x2, u, u, u, x6] 23) H
noncomputable def MO : KK := CQ (rr [1, 1, 1]) pd bq pd
noncomputable def ZD : KK := dd 1073741759 MO
noncomputable def wW (x6 : Value) (H : AH) : OV := MO (ls [u, u, u, u, u, u, x6] 23) H
noncomputable def ZH : KK := CQ (rr [1, 1, 0, 1]) ZD bq pd
noncomputable def wX (x0 x1 x2 x6 x7 : Value) (H : AH) : OV := ZH (ls [x0, x1, x2, u, u, u, x6, x7] 22) H
noncomputable def MR : KX := BX 0 ZD bq
noncomputable def Gm : KX := ml 1073741759 MR
noncomputable def MP : KK := ri (rr [1, 1, 0, 1, 4, 5]) Gm pd
noncomputable def ZE : KK := dd 1073741624 MP
noncomputable def lu (x0 x1 x2 x6 x7 : Value) (H : AH) : OV := MP (ls [x0, x1, x2, u, u, u, x6, x7] 22) H
noncomputable def ZJ : KK := CQ (rr [1, 1, 0, 1, 4, 5, 1]) ZE Gm pd
noncomputable def wY (x0 x1 x2 x6 x7 : Value) (H : AH) : OV := ZJ (ls [x0, x1, x2, u, u, u, x6, x7] 22) H
noncomputable def MQ : KK := CQ (rr [1, 1, 0, 1, 4, 5, 1, 1]) ZE Gm pd
noncomputable def aiY : KK := dd 1073741624 MQ
noncomputable def wZ (x0 x1 x2 x6 x7 : Value) (H : AH) : OV := MQ (ls [x0, x1, x2, u, u, u, x6, x7] 22) H
noncomputable def aiZ : KX := BX 1 aiY Gm
noncomputable def rt (x6 : Value) (H : AH) : OV := MR 0 (ls [u, u, u, u, u, u, x6] 23) H
theorem lm : au 1073741759 pd := rf
theorem ZG : au 1073741752 ZF := rc lm aB lm
theorem AY : au 1073741759 MO := rc lm aB lm
theorem ZI : au 1073741624 ZH := rc (cd AY) aB lm
theorem pe : ∀ i, au 1073741759 (MR i) := rb (cd AY) aB
theorem tK : au 1073741624 MP := rl (cx pe) lm
theorem ZK : au 1073741624 ZJ := rc (cd tK) (cx pe) lm
theorem I8 : au 1073741624 MQ := rc (cd tK) (cx pe) lm
theorem ZL : ∀ i, au 1073741624 (aiZ i) := rb (cd I8) (cx pe)
theorem A9 (x6 : Value) (H : AH) : wW x6 H =
 some ((vb true), H) :=
 (by kernel_rfl)
theorem Bc (x0 x1 x2 x6 x7 : Value) (H : AH) : wZ x0 x1 x2 x6 x7 H =
 (ai .other .add x7 (vi 1)).bind fun v7 =>
 lu x0 x1 x2 x6 v7 H :=
 (by kernel_rfl)
theorem Bb (x0 x1 x2 x6 x7 : Value) (H : AH) : wY x0 x1 x2 x6 x7 H =
 ldN 5 [.i 5 x7] x0 H fun v9 =>
 ldN 5 [.i 5 x7] x1 H fun v10 =>
 (bM x2 [v9, v10]).bind fun c => (FF c.1 c.2 H).bind fun r11 =>
 (ot .not r11.1).bind fun v12 =>
 ax v12
 (some ((vb false), r11.2))
 (wZ x0 x1 x2 x6 x7 r11.2) :=
 (pt rfl 0 I8 (bt rfl (rr [1, 1, 0, 1, 4, 5, 1, 0, 4]) 1 ZL (by kernel_rfl)))
theorem vo (x6 : Value) (H : AH) : rt x6 H = wW x6 H :=
 (by kernel_rfl)
theorem pg (x0 x1 x2 x6 x7 : Value) (H : AH) : lu x0 x1 x2 x6 x7 H =
 dG x0 fun v13 =>
 (ai .other .lss x7 v13).bind fun v14 =>
 ax v14
 (wY x0 x1 x2 x6 x7 H)
 (rt x6 H) :=
 rG rfl tK (pt rfl 0 ZK (by kernel_rfl))
theorem Ba (x0 x1 x2 x6 x7 : Value) (H : AH) : wX x0 x1 x2 x6 x7 H =
 lu x0 x1 x2 x6 x7 H :=
 (bt rfl (rr [1, 1, 0, 1, 4]) 0 pe (li rfl (rr [1, 1, 0, 1, 4, 5]) tK (by kernel_rfl)))
theorem A8 (x0 x1 x2 x6 : Value) (H : AH) : wV x0 x1 x2 x6 H =
 wX x0 x1 x2 x6 (vi 0) H :=
 (pt rfl 0 AY (pt rfl 0 ZI (by kernel_rfl)))
noncomputable def ZV (x0 x1 x2 : Value) (H : AH) : OV := aU PP GG FF (rr []) (ls [x0, x1, x2] 27) H pd bq pd
theorem Je (x0 x1 x2 : Value) (H : AH) {r : Value × AH} (h : (
 dG x0 fun v15 =>
 dG x1 fun v16 =>
 (ai .other .neq v15 v16).bind fun v17 =>
 ax v17
 (some ((vb false), H))
 (wV x0 x1 x2 (vb false) H)) = some r) : FF sf [x0, x1, x2] H = some r :=
 fo (t := ZV x0 x1 x2 H) Tryz.func96 (by kernel_rfl) (Eq.trans (pt rfl 1 ZG (by kernel_rfl)) h)
theorem lX (x0 x1 : Value) (H : AH) {r : Value × AH} (h : (
 aV (Value.cells x0).toList H fun v0 H1 =>
 aV (Value.cells x1).toList H1 fun v2 H3 =>
 (aD 5 v0 H3).bind fun v4 =>
 (aD 5 v2 H3).bind fun v5 =>
 (ai (.flat 5) .eql v4 v5).bind fun v6 =>
 some (v6, H3)) = some r) : FF bE [x0, x1] H = some r :=
 fo Tryz.func97 (by kernel_rfl) h
theorem ajK (x0 : Value) (H : AH) {r : Value × AH} (h : (
 (ai .slice .eql x0 (.slice none 0 0)).bind fun v0 =>
 ax v0
 (some ((.slice none 0 0), H))
 (vJ 0 5 [(vi 0), (vi 0), (vi 0), (vi 0), (vi 0)] [] H fun v1 H2 =>
 (dq 5 40 v1 x0 H2).bind fun r3 =>
 some (r3.1, r3.2))) = some r) : FF aaP [x0] H = some r :=
 fo Tryz.func98 (by kernel_rfl) h
theorem q7 (x0 x1 : Value) (H : AH) {r : Value × AH} (h : (
 (FF en [x0, x1] H).bind fun r0 =>
 (ot .not r0.1).bind fun v1 =>
 ax v1
 (some ((.pointer none), r0.2))
 (ld [.n, .f 10] x0 r0.2 fun v2 =>
 ld [.i 4 x1, .f 3] v2 r0.2 fun v3 =>
 some (v3, r0.2))) = some r) : FF ej [x0, x1] H = some r :=
 fo Tryz.func103 (by kernel_rfl) h
theorem uF (x0 x1 x2 : Value) (H : AH) {r : Value × AH} (h : (
 (FF dZ [x0, x1, x2, (.func (.func lF) #[] #[])] H).bind fun r0 =>
 some (r0.1, r0.2)) = some r) : FF ja [x0, x1, x2] H = some r :=
 fo Tryz.func105 (by kernel_rfl) h
theorem wc (x0 x1 x2 x3 : Value) (H : AH) {r : Value × AH} (h : (
 (FF nN [x2, x3] H).bind fun r0 =>
 (aj r0.1 0).bind fun v1 =>
 (aj r0.1 1).bind fun v2 =>
 (gV v2 true x0).bind fun v3 =>
 A7 v2 true  [.n, .f 0] v3 fun v4 =>
 (gB v2 true (aq v4 r0.2)).bind fun v5 =>
 (gV v2 true x1).bind fun v6 =>
 (gV v2 true x0).bind fun v7 =>
 fu v2 true  [.n, .f 1] v7 r0.2 fun v8 =>
 (gE v2 true r0.2 (FF bB [(vi 11), v8, (vi 0)] r0.2)).bind fun r9 =>
 bD (aq v4 r9.2) (aq v4 r0.2) <|
 (gV v2 true x2).bind fun v10 =>
 (gV v2 true v1).bind fun v11 =>
 (gE v2 true r9.2 (FF fi [v5, v6, r9.1, v10, v11] r9.2)).bind fun r12 =>
 (aQ v2 r12.1 (vb false)).bind fun v13 =>
 some (v13, r12.2)) = some r) : FF eF [x0, x1, x2, x3] H = some r :=
 fo Tryz.func106 (by kernel_rfl) h
theorem uC (x0 x1 x2 : Value) (H : AH) {r : Value × AH} (h : (
 ad [.n, .f 0] x0 fun v0 =>
 (aq v0 H).bind fun v1 =>
 (FF cL [x0, (vi 12), (vi 0)] H).bind fun r2 =>
 bD (aq v0 r2.2) (aq v0 H) <|
 (ai .other .add x2 (vw 1)).bind fun v3 =>
 (FF cq [v1, x1, r2.1, v3] r2.2).bind fun r4 =>
 some (Value.tuple #[], r4.2)) = some r) : FF i9 [x0, x1, x2] H = some r :=
 fo Tryz.func107 (by kernel_rfl) h
theorem vY (x0 x1 x2 : Value) (H : AH) {r : Value × AH} (h : (
 ad [.n, .f 0] x0 fun v0 =>
 (aq v0 H).bind fun v1 =>
 ld [.n, .f 1] x0 H fun v2 =>
 (FF bB [(vi 12), v2, (vi 0)] H).bind fun r3 =>
 bD (aq v0 r3.2) (aq v0 H) <|
 (ai .other .add x2 (vw 1)).bind fun v4 =>
 (FF cR [v1, x1, r3.1, v4] r3.2).bind fun r5 =>
 some (Value.tuple #[], r5.2)) = some r) : FF jM [x0, x1, x2] H = some r :=
 fo Tryz.func108 (by kernel_rfl) h
theorem uH (x0 x1 x2 : Value) (H : AH) {r : Value × AH} (h : (
 (FF dZ [x0, x1, x2, (.func (.func lG) #[] #[])] H).bind fun r0 =>
 some (r0.1, r0.2)) = some r) : FF jb [x0, x1, x2] H = some r :=
 fo Tryz.func111 (by kernel_rfl) h
theorem vr (x0 x1 : Value) (H : AH) {r : Value × AH} (h : (
 aV [(vi 0), (vi 0), (vi 0)] H fun v0 H1 =>
 g6 [(0, 1), (1, 1), (2, 1)] [(vi 0), (vi 0), (vi 0)] [(0, x0), (1, x1)] fun v2 =>
 (dn 3 v0 v2 H1).bind fun H3 =>
 (aD 3 v0 H3).bind fun v4 => some (v4, H3)) = some r) : FF bf [x0, x1] H = some r :=
 fo Tryz.func119 (by kernel_rfl) h
noncomputable def LD (p : List Nat) : Code := Code.sub (bG Tryz.f133) p
noncomputable def rQ : KK := dR PP (Tryz.f133).results.toList
noncomputable def Pu : KK := CQ (LD [1, 1, 1]) rQ bq rQ
noncomputable def Dq (x0 x2 x3 x4 x5 : Value) (H : AH) : OV := Pu (ls [x0, u, x2, x3, x4, x5] 65) H
noncomputable def Pv : KK := CQ (LD [1, 1, 1, 1]) rQ bq rQ
noncomputable def qj (x0 x2 : Value) (H : AH) : OV := Pv (ls [x0, u, x2] 68) H
theorem tl : au 2361183241434822606843 rQ := rf
theorem S4 : au 2361183241434822606786 Pu := rc tl aB tl
theorem S5 : au 2361183241434822606842 Pv := rc tl aB tl
theorem E3 (x0 x2 : Value) (H : AH) : qj x0 x2 H =
 ad [.n, .f 8] x0 fun v2 =>
 (aq v2 H).bind fun v3 =>
 ld [.n, .f 0] x0 H fun v4 =>
 ld [.n, .f 2] v4 H fun v5 =>
 (FF fV [v5] H).bind fun r6 =>
 bD (aq v2 r6.2) (aq v2 H) <|
 (ai .other .geq v3 r6.1).bind fun v7 =>
 some (v7, r6.2) :=
 (by kernel_rfl)
theorem tf (x0 x2 x3 x4 x5 : Value) (H : AH) : Dq x0 x2 x3 x4 x5 H =
 (gV x5 true x3).bind fun v8 =>
 (gV x5 true x0).bind fun v9 =>
 fu x5 true  [.n, .f 2, .f 1] v9 H fun v10 =>
 (gB x5 true (ai .other .eql v8 v10)).bind fun v11 =>
 (aQ x5 v11 (vb false)).bind fun v12 =>
 st 1 [.n, .f 10] x0 v12 H fun H13 =>
 ld [.n, .f 10] x0 H13 fun v14 =>
 ax v14
 (st 1 [.n, .f 9] x0 x4 H13 fun H15 =>
 qj x0 x2 H15)
 (qj x0 x2 H13) :=
 (pt rfl 0 S5 (by kernel_rfl))
noncomputable def aiB (x0 : Value) (H : AH) : OV := aU PP GG FF (LD []) (ls [x0] 70) H rQ bq rQ
theorem SG (x0 : Value) (H : AH) {r : Value × AH} (h : (
 ld [.n, .f 0] x0 H fun v16 =>
 ld [.n, .f 2] v16 H fun v17 =>
 ld [.n, .f 1] x0 H fun v18 =>
 ld [.n, .f 6] x0 H fun v19 =>
 ld [.n, .f 8] x0 H fun v20 =>
 (FF gK [v17, v18, v19, v20] H).bind fun r21 =>
 (aj r21.1 0).bind fun v22 =>
 (aj r21.1 1).bind fun v23 =>
 (aj r21.1 2).bind fun v24 =>
 ld [.n, .f 8] x0 r21.2 fun v25 =>
 (ai .other .add v25 (vi 1)).bind fun v26 =>
 st 1 [.n, .f 8] x0 v26 r21.2 fun H27 =>
 Dq x0 (vb false) v22 v23 v24 H27) = some r) : FF t5 [x0] H = some r :=
 fo (t := aiB x0 H) Tryz.func133 (by kernel_rfl) (Eq.trans (pt rfl 2 S4 (by kernel_rfl)) h)
theorem WP (x0 x1 : Value) (H : AH) {r : Value × AH} (h : (
 aV [(vi 0), (.slice none 0 0), (vi 0), (vw 0)] H fun v0 H1 =>
 st 1 [.n, .f 7] x0 x1 H1 fun H2 =>
 g6 [(0, 1), (1, 1), (2, 1), (3, 1)] [(vi 0), (.slice none 0 0), (vi 0), (vw 0)] [] fun v3 =>
 (dn 4 v0 v3 H2).bind fun H4 =>
 (aD 4 v0 H4).bind fun v5 => some (Value.tuple #[v5, (vb false)], H4)) = some r) : FF bk [x0, x1] H = some r :=
 fo Tryz.func134 (by kernel_rfl) h
theorem Ln (x0 x1 : Value) (H : AH) {r : Value × AH} (h : (
 aV [(vi 0), (.slice none 0 0), (vi 0), (vw 0)] H fun v0 H1 =>
 ld [.n, .f 0] x0 H1 fun v2 =>
 ld [.n, .f 1] x0 H1 fun v3 =>
 ld [.n, .f 9] x0 H1 fun v4 =>
 (FF io [v2, v3, v4] H1).bind fun r5 =>
 ld [.n, .f 0] x0 r5.2 fun v6 =>
 ld [.n, .f 9] x0 r5.2 fun v7 =>
 (FF ej [v6, v7] r5.2).bind fun r8 =>
 st 1 [.n, .f 11] x0 r8.1 r8.2 fun H9 =>
 (FF bk [x0, (.func (.func bN) #[x0] #[])] H9).bind fun r10 =>
 (aj r10.1 0).bind fun v11 =>
 (aj r10.1 1).bind fun v12 =>
 (dn 4 v0 v11 r10.2).bind fun H13 =>
 (aD 4 v0 H13).bind fun v14 => some (Value.tuple #[v14, v12], H13)) = some r) : FF fB [x0, x1] H = some r :=
 fo Tryz.func135 (by kernel_rfl) h
theorem Lm (x0 x1 : Value) (H : AH) {r : Value × AH} (h : (
 aV [(vi 0), (.slice none 0 0), (vi 0), (vw 0)] H fun v0 H1 =>
 ld [.n, .f 0] x0 H1 fun v2 =>
 ld [.n, .f 2] v2 H1 fun v3 =>
 ld [.n, .f 1] x0 H1 fun v4 =>
 ld [.n, .f 6] x0 H1 fun v5 =>
 (FF gJ [v3, v4, v5] H1).bind fun r6 =>
 (ot .not r6.1).bind fun v7 =>
 ax v7
 ((FF bk [x0, (.func (.func cA) #[x0] #[])] r6.2).bind fun r8 =>
 (aj r8.1 0).bind fun v9 =>
 (aj r8.1 1).bind fun v10 =>
 (dn 4 v0 v9 r8.2).bind fun H11 =>
 (aD 4 v0 H11).bind fun v12 => some (Value.tuple #[v12, v10], H11))
 (st 1 [.n, .f 8] x0 (vi 0) r6.2 fun H13 =>
 (FF bk [x0, (.func (.func dy) #[x0] #[])] H13).bind fun r14 =>
 (aj r14.1 0).bind fun v15 =>
 (aj r14.1 1).bind fun v16 =>
 (dn 4 v0 v15 r14.2).bind fun H17 =>
 (aD 4 v0 H17).bind fun v18 => some (Value.tuple #[v18, v16], H17))) = some r) : FF cA [x0, x1] H = some r :=
 fo Tryz.func136 (by kernel_rfl) h
noncomputable def be (p : List Nat) : Code := Code.sub (bG Tryz.f138) p
noncomputable def bz : KK := dR PP (Tryz.f138).results.toList
noncomputable def Fs : KK := CQ (be [1]) bz bq bz
noncomputable def yP : KK := dd 1684996666696914987166688442938726917102321526408785780068975640544 Fs
noncomputable def ab6 (x0 x1 x2 x3 x4 : Value) (H : AH) : OV := Fs (ls [x0, x1, x2, x3, x4] 215) H
noncomputable def Ft : KK := CQ (be [1, 1]) bz bq bz
noncomputable def yQ : KK := dd 1684996666696914987166688442938726917102321526408785780068975640544 Ft
noncomputable def ab7 (x0 x1 x2 x3 x4 : Value) (H : AH) : OV := Ft (ls [x0, x1, x2, x3, x4] 215) H
noncomputable def PD : KK := CQ (be [1, 1, 1, 1, 1]) bz bq bz
noncomputable def ab8 (x0 x1 x2 x3 x4 x18 x19 : Value) (H : AH) : OV := PD (ls [x0, x1, x2, x3, x4, u, u, u, u, u, u, u, u, u, u, u, u, u, x18, x19] 200) H
noncomputable def PE : KK := CQ (be [1, 1, 1, 1, 1, 1]) bz bq bz
noncomputable def N0 (x0 x1 x2 x3 x4 x18 x19 x20 x21 : Value) (H : AH) : OV := PE (ls [x0, x1, x2, x3, x4, u, u, u, u, u, u, u, u, u, u, u, u, u, x18, x19, x20, x21] 198) H
noncomputable def PF : KK := CQ (be [1, 1, 1, 1, 1, 1, 1]) bz bq bz
noncomputable def ab9 (x0 x1 x2 x3 x4 x18 x19 x20 x21 x22 : Value) (H : AH) : OV := PF (ls [x0, x1, x2, x3, x4, u, u, u, u, u, u, u, u, u, u, u, u, u, x18, x19, x20, x21, x22] 197) H
noncomputable def Fu : KK := CQ (be [1, 1, 1, 1, 1, 1, 1, 1]) bz bq bz
noncomputable def aeT : KK := dd 1684996666696914987166688442938726917102321526408785780068973805536 Fu
noncomputable def N2 (x0 x1 x2 x3 x4 x18 x19 x20 : Value) (H : AH) : OV := Fu (ls [x0, x1, x2, x3, x4, u, u, u, u, u, u, u, u, u, u, u, u, u, x18, x19, x20] 199) H
noncomputable def PG : KK := CQ (be [1, 1, 1, 1, 1, 1, 1, 1, 1]) bz bq bz
noncomputable def acA (x0 x1 x2 x3 x4 x18 x20 x24 : Value) (H : AH) : OV := PG (ls [x0, x1, x2, x3, x4, u, u, u, u, u, u, u, u, u, u, u, u, u, x18, u, x20, u, u, u, x24] 195) H
noncomputable def PH : KK := CQ (be [1, 1, 1, 1, 1, 1, 1, 1, 1, 1]) bz bq bz
noncomputable def Hn (x0 x1 x3 x4 x18 x20 x24 : Value) (H : AH) : OV := PH (ls [x0, x1, u, x3, x4, u, u, u, u, u, u, u, u, u, u, u, u, u, x18, u, x20, u, u, u, x24] 195) H
noncomputable def PI : KK := CQ (be [1, 1, 1, 1, 1, 1, 1, 1, 1, 1, 1]) bz bq bz
noncomputable def Ho (x0 x3 x4 x18 x24 : Value) (H : AH) : OV := PI (ls [x0, u, u, x3, x4, u, u, u, u, u, u, u, u, u, u, u, u, u, x18, u, u, u, u, u, x24] 195) H
noncomputable def Ah : KX := BX 8 aeT bq
noncomputable def Al : KX := ml 1684996666696914987166688442938726917102321526408785780068973805536 Ah
noncomputable def z3 : KK := ri (be [1, 1, 1, 1, 1, 1, 1, 0, 4, 5]) Al bz
noncomputable def Ix : KK := dd 1684996666696914987166688442938726917102321526408785780068967514080 z3
noncomputable def uK (x0 x1 x2 x3 x4 x18 x19 x20 x21 x22 : Value) (H : AH) : OV := z3 (ls [x0, x1, x2, x3, x4, u, u, u, u, u, u, u, u, u, u, u, u, u, x18, x19, x20, x21, x22] 197) H
noncomputable def IE : KK := CQ (be [1, 1, 1, 1, 1, 1, 1, 0, 4, 5, 1]) Ix Al bz
noncomputable def RE (x0 x1 x2 x3 x4 x18 x19 x20 x21 x22 : Value) (H : AH) : OV := IE (ls [x0, x1, x2, x3, x4, u, u, u, u, u, u, u, u, u, u, u, u, u, x18, x19, x20, x21, x22] 197) H
noncomputable def Xb : KX := BX 9 Ix Al
noncomputable def Ep (x0 x1 x2 x3 x4 x18 x19 x20 : Value) (H : AH) : OV := Ah 8 (ls [x0, x1, x2, x3, x4, u, u, u, u, u, u, u, u, u, u, u, u, u, x18, x19, x20] 199) H
noncomputable def IF : KK := CQ (be [1, 0, 1]) yQ bq bz
noncomputable def RF (x0 x1 x2 x3 x4 x80 : Value) (H : AH) : OV := IF (ls [x0, x1, x2, x3, x4, u, u, u, u, u, u, u, u, u, u, u, u, u, u, u, u, u, u, u, u, u, u, u, u, u, u, u, u, u, u, u, u, u, u, u, u, u, u, u, u, u, u, u, u, u, u, u, u, u, u, u, u, u, u, u, u, u, u, u, u, u, u, u, u, u, u, u, u, u, u, u, u, u, u, u, x80] 139) H
noncomputable def IG : KK := CQ (be [1, 0, 1, 2, 1, 1]) yQ bq bz
noncomputable def Hm (x0 x2 x4 x14 x15 : Value) (H : AH) : OV := IG (ls [x0, u, x2, u, x4, u, u, u, u, u, u, u, u, u, x14, x15] 204) H
noncomputable def z4 : KK := CQ (be [1, 0, 1, 2, 1, 1, 1]) yQ bq bz
noncomputable def W7 : KK := dd 1684996666696914987166688442938726917102321526408785780068975624186 z4
noncomputable def RG (x0 x2 x14 : Value) (H : AH) : OV := z4 (ls [x0, u, x2, u, u, u, u, u, u, u, u, u, u, u, x14] 205) H
noncomputable def z6 : KK := CQ (be [1, 0, 1, 2, 1, 1, 1, 1]) yQ bq bz
noncomputable def Iy : KK := dd 1684996666696914987166688442938726917102321526408785780068975640575 z6
noncomputable def RH (H : AH) : OV := z6 (ls [] 220) H
noncomputable def IH : KK := CQ (be [1, 0, 1, 2, 1, 1, 1, 0, 1]) Iy bq bz
noncomputable def RI (x0 x14 x17 : Value) (H : AH) : OV := IH (ls [x0, u, u, u, u, u, u, u, u, u, u, u, u, u, x14, u, u, x17] 202) H
noncomputable def Ai : KX := BX 6 Iy bq
noncomputable def tm : KX := ml 1684996666696914987166688442938726917102321526408785780068975640575 Ai
noncomputable def z7 : KK := ri (be [1, 0, 1, 2, 1, 1, 1, 0, 1, 4, 5]) tm bz
noncomputable def Iz : KK := dd 1684996666696914987166688442938726917102321526408785780068975493118 z7
noncomputable def zh (x0 x14 x17 : Value) (H : AH) : OV := z7 (ls [x0, u, u, u, u, u, u, u, u, u, u, u, u, u, x14, u, u, x17] 202) H
noncomputable def II : KK := CQ (be [1, 0, 1, 2, 1, 1, 1, 0, 1, 4, 5, 1]) Iz tm bz
noncomputable def RJ (x0 x14 x17 : Value) (H : AH) : OV := II (ls [x0, u, u, u, u, u, u, u, u, u, u, u, u, u, x14, u, u, x17] 202) H
noncomputable def z8 : KK := CQ (be [1, 0, 1, 2, 1, 1, 1, 0, 1, 4, 5, 1, 1]) Iz tm bz
noncomputable def W8 : KK := dd 1684996666696914987166688442938726917102321526408785780068975493118 z8
noncomputable def RK (x0 x14 x17 : Value) (H : AH) : OV := z8 (ls [x0, u, u, u, u, u, u, u, u, u, u, u, u, u, x14, u, u, x17] 202) H
noncomputable def Xc : KX := BX 7 W8 tm
noncomputable def Er (H : AH) : OV := Ai 6 (ls [] 220) H
noncomputable def Aj : KX := BX 4 W7 bq
noncomputable def Am : KX := ml 1684996666696914987166688442938726917102321526408785780068975624186 Aj
noncomputable def Aa : KK := ri (be [1, 0, 1, 2, 1, 1, 0, 4, 5]) Am bz
noncomputable def IA : KK := dd 1684996666696914987166688442938726917102321526408785780068975591402 Aa
noncomputable def uL (x0 x2 x4 x14 x15 : Value) (H : AH) : OV := Aa (ls [x0, u, x2, u, x4, u, u, u, u, u, u, u, u, u, x14, x15] 204) H
noncomputable def IJ : KK := CQ (be [1, 0, 1, 2, 1, 1, 0, 4, 5, 1]) IA Am bz
noncomputable def RL (x0 x2 x4 x14 x15 : Value) (H : AH) : OV := IJ (ls [x0, u, x2, u, x4, u, u, u, u, u, u, u, u, u, x14, x15] 204) H
noncomputable def Xd : KX := BX 5 IA Am
noncomputable def Es (x0 x2 x14 : Value) (H : AH) : OV := Aj 4 (ls [x0, u, x2, u, u, u, u, u, u, u, u, u, u, u, x14] 205) H
noncomputable def IK : KK := CQ (be [0, 1]) yP bq bz
noncomputable def RM (x0 x1 x2 x3 x4 x28 : Value) (H : AH) : OV := IK (ls [x0, x1, x2, x3, x4, u, u, u, u, u, u, u, u, u, u, u, u, u, u, u, u, u, u, u, u, u, u, u, x28] 191) H
noncomputable def IL : KK := CQ (be [0, 1, 2, 1, 1]) yP bq bz
noncomputable def Hq (x0 x1 x4 x10 x11 : Value) (H : AH) : OV := IL (ls [x0, x1, u, u, x4, u, u, u, u, u, x10, x11] 208) H
noncomputable def Ab : KK := CQ (be [0, 1, 2, 1, 1, 1]) yP bq bz
noncomputable def W9 : KK := dd 1684996666696914987166688442938726917102321526408785780068975639548 Ab
noncomputable def RN (x0 x1 x10 : Value) (H : AH) : OV := Ab (ls [x0, x1, u, u, u, u, u, u, u, u, x10] 209) H
noncomputable def Ad : KK := CQ (be [0, 1, 2, 1, 1, 1, 1]) yP bq bz
noncomputable def IB : KK := dd 1684996666696914987166688442938726917102321526408785780068975640575 Ad
noncomputable def RO (H : AH) : OV := Ad (ls [] 220) H
noncomputable def IM : KK := CQ (be [0, 1, 2, 1, 1, 1, 0, 1]) IB bq bz
noncomputable def RP (x0 x10 x13 : Value) (H : AH) : OV := IM (ls [x0, u, u, u, u, u, u, u, u, u, x10, u, u, x13] 206) H
noncomputable def Ak : KX := BX 2 IB bq
noncomputable def tn : KX := ml 1684996666696914987166688442938726917102321526408785780068975640575 Ak
noncomputable def Ae : KK := ri (be [0, 1, 2, 1, 1, 1, 0, 1, 4, 5]) tn bz
noncomputable def IC : KK := dd 1684996666696914987166688442938726917102321526408785780068975631358 Ae
noncomputable def zi (x0 x10 x13 : Value) (H : AH) : OV := Ae (ls [x0, u, u, u, u, u, u, u, u, u, x10, u, u, x13] 206) H
noncomputable def IN : KK := CQ (be [0, 1, 2, 1, 1, 1, 0, 1, 4, 5, 1]) IC tn bz
noncomputable def RQ (x0 x10 x13 : Value) (H : AH) : OV := IN (ls [x0, u, u, u, u, u, u, u, u, u, x10, u, u, x13] 206) H
noncomputable def Af : KK := CQ (be [0, 1, 2, 1, 1, 1, 0, 1, 4, 5, 1, 1]) IC tn bz
noncomputable def Xa : KK := dd 1684996666696914987166688442938726917102321526408785780068975631358 Af
noncomputable def RR (x0 x10 x13 : Value) (H : AH) : OV := Af (ls [x0, u, u, u, u, u, u, u, u, u, x10, u, u, x13] 206) H
noncomputable def Xe : KX := BX 3 Xa tn
noncomputable def Et (H : AH) : OV := Ak 2 (ls [] 220) H
noncomputable def vh : KX := BX 0 W9 bq
noncomputable def vj : KX := ml 1684996666696914987166688442938726917102321526408785780068975639548 vh
noncomputable def vg : KK := ri (be [0, 1, 2, 1, 1, 0, 4, 5]) vj bz
noncomputable def Dy : KK := dd 1684996666696914987166688442938726917102321526408785780068975637484 vg
noncomputable def pQ (x0 x1 x4 x10 x11 : Value) (H : AH) : OV := vg (ls [x0, x1, u, u, x4, u, u, u, u, u, x10, x11] 208) H
noncomputable def Dz : KK := CQ (be [0, 1, 2, 1, 1, 0, 4, 5, 1]) Dy vj bz
noncomputable def Kc (x0 x1 x4 x10 x11 : Value) (H : AH) : OV := Dz (ls [x0, x1, u, u, x4, u, u, u, u, u, x10, x11] 208) H
noncomputable def Tg : KX := BX 1 Dy vj
noncomputable def B5 (x0 x1 x10 : Value) (H : AH) : OV := vh 0 (ls [x0, x1, u, u, u, u, u, u, u, u, x10] 209) H
theorem aX : au 1684996666696914987166688442938726917102321526408785780068975640575 bz := rf
theorem mu : au 1684996666696914987166688442938726917102321526408785780068975640544 Fs := rc aX aB aX
theorem mv : au 1684996666696914987166688442938726917102321526408785780068975640544 Ft := rc aX aB aX
theorem S9 : au 1684996666696914987166688442938726917102321526408785780068974854112 PD := rc aX aB aX
theorem Tb : au 1684996666696914987166688442938726917102321526408785780068971708384 PE := rc aX aB aX
theorem Tc : au 1684996666696914987166688442938726917102321526408785780068967514080 PF := rc aX aB aX
theorem DA : au 1684996666696914987166688442938726917102321526408785780068973805536 Fu := rc aX aB aX
theorem Td : au 1684996666696914987166688442938726917102321526408785780068957552608 PG := rc aX aB aX
theorem Te : au 1684996666696914987166688442938726917102321526408785780068957552612 PH := rc aX aB aX
theorem Tf : au 1684996666696914987166688442938726917102321526408785780068958601190 PI := rc aX aB aX
theorem nu : ∀ i, au 1684996666696914987166688442938726917102321526408785780068973805536 (Ah i) := rb (cd DA) aB
theorem np : au 1684996666696914987166688442938726917102321526408785780068967514080 z3 := rl (cx nu) aX
theorem LG : au 1684996666696914987166688442938726917102321526408785780068967514080 IE := rc (cd np) (cx nu) aX
theorem LR : ∀ i, au 1684996666696914987166688442938726917102321526408785780068967514080 (Xb i) := rb (cd np) (cx nu)
theorem LH : au 1684996666696914987166688442938726917102320317482966165439800934368 IF := rc (cd mv) aB aX
theorem LI : au 1684996666696914987166688442938726917102321526408785780068975591402 IG := rc (cd mv) aB aX
theorem z5 : au 1684996666696914987166688442938726917102321526408785780068975624186 z4 := rc (cd mv) aB aX
theorem rR : au 1684996666696914987166688442938726917102321526408785780068975640575 z6 := rc (cd mv) aB aX
theorem LJ : au 1684996666696914987166688442938726917102321526408785780068975493118 IH := rc (cd rR) aB aX
theorem kB : ∀ i, au 1684996666696914987166688442938726917102321526408785780068975640575 (Ai i) := rb (cd rR) aB
theorem nq : au 1684996666696914987166688442938726917102321526408785780068975493118 z7 := rl (cx kB) aX
theorem LK : au 1684996666696914987166688442938726917102321526408785780068975493118 II := rc (cd nq) (cx kB) aX
theorem z9 : au 1684996666696914987166688442938726917102321526408785780068975493118 z8 := rc (cd nq) (cx kB) aX
theorem LS : ∀ i, au 1684996666696914987166688442938726917102321526408785780068975493118 (Xc i) := rb (cd z9) (cx kB)
theorem nw : ∀ i, au 1684996666696914987166688442938726917102321526408785780068975624186 (Aj i) := rb (cd z5) aB
theorem nr : au 1684996666696914987166688442938726917102321526408785780068975591402 Aa := rl (cx nw) aX
theorem LM : au 1684996666696914987166688442938726917102321526408785780068975591402 IJ := rc (cd nr) (cx nw) aX
theorem LT : ∀ i, au 1684996666696914987166688442938726917102321526408785780068975591402 (Xd i) := rb (cd nr) (cx nw)
theorem LN : au 1684996666696914987166688442938726917102321526408785780068707205088 IK := rc (cd mu) aB aX
theorem LO : au 1684996666696914987166688442938726917102321526408785780068975637484 IL := rc (cd mu) aB aX
theorem Ac : au 1684996666696914987166688442938726917102321526408785780068975639548 Ab := rc (cd mu) aB aX
theorem rS : au 1684996666696914987166688442938726917102321526408785780068975640575 Ad := rc (cd mu) aB aX
theorem LP : au 1684996666696914987166688442938726917102321526408785780068975631358 IM := rc (cd rS) aB aX
theorem kC : ∀ i, au 1684996666696914987166688442938726917102321526408785780068975640575 (Ak i) := rb (cd rS) aB
theorem nt : au 1684996666696914987166688442938726917102321526408785780068975631358 Ae := rl (cx kC) aX
theorem LQ : au 1684996666696914987166688442938726917102321526408785780068975631358 IN := rc (cd nt) (cx kC) aX
theorem Ag : au 1684996666696914987166688442938726917102321526408785780068975631358 Af := rc (cd nt) (cx kC) aX
theorem LU : ∀ i, au 1684996666696914987166688442938726917102321526408785780068975631358 (Xe i) := rb (cd Ag) (cx kC)
theorem lh : ∀ i, au 1684996666696914987166688442938726917102321526408785780068975639548 (vh i) := rb (cd Ac) aB
theorem lg : au 1684996666696914987166688442938726917102321526408785780068975637484 vg := rl (cx lh) aX
theorem ID : au 1684996666696914987166688442938726917102321526408785780068975637484 Dz := rc (cd lg) (cx lh) aX
theorem IO : ∀ i, au 1684996666696914987166688442938726917102321526408785780068975637484 (Tg i) := rb (cd lg) (cx lh)
theorem Vt (x0 x3 x4 x18 x24 : Value) (H : AH) : Ho x0 x3 x4 x18 x24 H =
 (ai .other .lss x18 x24).bind fun v9 =>
 (gV v9 true x24).bind fun v10 =>
 (gV v9 true x3).bind fun v11 =>
 (gB v9 true (ai .other .lss v10 v11)).bind fun v12 =>
 (aQ v9 v12 (vb false)).bind fun v13 =>
 ax v13
 ((FF DY [x0, x18, x24, x3, x4] H).bind fun r14 =>
 some (Value.tuple #[], r14.2))
 (some (Value.tuple #[], H)) :=
 (by kernel_rfl)
theorem Vs (x0 x1 x3 x4 x18 x20 x24 : Value) (H : AH) : Hn x0 x1 x3 x4 x18 x20 x24 H =
 (ai .other .lss x1 x20).bind fun v15 =>
 (gV v15 true x20).bind fun v16 =>
 (gV v15 true x18).bind fun v17 =>
 (gB v15 true (ai .other .lss v16 v17)).bind fun v18 =>
 (aQ v15 v18 (vb false)).bind fun v19 =>
 ax v19
 ((FF DY [x0, x1, x20, x18, x4] H).bind fun r20 =>
 Ho x0 x3 x4 x18 x24 r20.2)
 (Ho x0 x3 x4 x18 x24 H) :=
 (pt rfl 0 Tf (by kernel_rfl))
theorem Vr (x0 x1 x2 x3 x4 x18 x20 x24 : Value) (H : AH) : acA x0 x1 x2 x3 x4 x18 x20 x24 H =
 (ai .other .lss x20 x2).bind fun v21 =>
 (gV v21 true x2).bind fun v22 =>
 (gV v21 true x24).bind fun v23 =>
 (gB v21 true (ai .other .lss v22 v23)).bind fun v24 =>
 (aQ v21 v24 (vb false)).bind fun v25 =>
 ax v25
 ((FF aaR [x0, x20, x2, x24, x4] H).bind fun r26 =>
 Hn x0 x1 x3 x4 x18 x20 x24 r26.2)
 (Hn x0 x1 x3 x4 x18 x20 x24 H) :=
 (pt rfl 0 Te (by kernel_rfl))
theorem Vq (x0 x1 x2 x3 x4 x18 x19 x20 : Value) (H : AH) : N2 x0 x1 x2 x3 x4 x18 x19 x20 H =
 (ai .other .sub x19 x20).bind fun v27 =>
 acA x0 x1 x2 x3 x4 x18 x20 v27 H :=
 (pt rfl 0 Td (by kernel_rfl))
theorem N1 (x0 x1 x2 x3 x4 x18 x19 x20 x21 x22 : Value) (H : AH) : RE x0 x1 x2 x3 x4 x18 x19 x20 x21 x22 H =
 (ai .other .add x20 x21).bind fun v32 =>
 (bJ (some .u64) v32).bind fun v33 =>
 (ai .other .shr v33 (vw 1)).bind fun v34 =>
 (bJ (some .i64) v34).bind fun v35 =>
 (ai .other .sub x22 v35).bind fun v36 =>
 ldN 7 [.i 7 v36] x0 H fun v37 =>
 ldN 7 [.i 7 v35] x0 H fun v38 =>
 (bM x4 [v37, v38]).bind fun c => (FF c.1 c.2 H).bind fun r39 =>
 (ai .other .lss r39.1 (vi 0)).bind fun v40 =>
 (ot .not v40).bind fun v41 =>
 ax v41
 ((ai .other .add v35 (vi 1)).bind fun v42 =>
 uK x0 x1 x2 x3 x4 x18 x19 v42 x21 x22 r39.2)
 (uK x0 x1 x2 x3 x4 x18 x19 x20 v35 x22 r39.2) :=
 (bt rfl (be [1, 1, 1, 1, 1, 1, 1, 0, 4, 5, 1, 4]) 9 LR (by kernel_rfl))
theorem Hi (x0 x1 x2 x3 x4 x18 x19 x20 : Value) (H : AH) : Ep x0 x1 x2 x3 x4 x18 x19 x20 H = N2 x0 x1 x2 x3 x4 x18 x19 x20 H :=
 (by kernel_rfl)
theorem NZ (x0 x1 x2 x3 x4 x18 x19 x20 x21 x22 : Value) (H : AH) : uK x0 x1 x2 x3 x4 x18 x19 x20 x21 x22 H =
 (ai .other .lss x20 x21).bind fun v43 =>
 ax v43
 (RE x0 x1 x2 x3 x4 x18 x19 x20 x21 x22 H)
 (Ep x0 x1 x2 x3 x4 x18 x19 x20 H) :=
 rG rfl np (pt rfl 0 LG (by kernel_rfl))
theorem Ew (x0 x1 x2 x3 x4 x18 x19 x20 x21 x22 : Value) (H : AH) : ab9 x0 x1 x2 x3 x4 x18 x19 x20 x21 x22 H =
 uK x0 x1 x2 x3 x4 x18 x19 x20 x21 x22 H :=
 (pt rfl 0 DA (bt rfl (be [1, 1, 1, 1, 1, 1, 1, 0, 4]) 8 nu (li rfl (be [1, 1, 1, 1, 1, 1, 1, 0, 4, 5]) np (by kernel_rfl))))
theorem Eu (x0 x1 x2 x3 x4 x18 x19 x20 x21 : Value) (H : AH) : N0 x0 x1 x2 x3 x4 x18 x19 x20 x21 H =
 (ai .other .sub x19 (vi 1)).bind fun v44 =>
 ab9 x0 x1 x2 x3 x4 x18 x19 x20 x21 v44 H :=
 (pt rfl 0 Tc (by kernel_rfl))
theorem Vp (x0 x1 x2 x3 x4 x18 x19 : Value) (H : AH) : ab8 x0 x1 x2 x3 x4 x18 x19 H =
 (ai .other .gtr x2 x18).bind fun v45 =>
 ax v45
 ((ai .other .sub x19 x3).bind fun v46 =>
 N0 x0 x1 x2 x3 x4 x18 x19 v46 x18 H)
 (N0 x0 x1 x2 x3 x4 x18 x19 x1 x2 H) :=
 (pt rfl 0 Tb (by kernel_rfl))
theorem Vo (x0 x1 x2 x3 x4 : Value) (H : AH) : ab7 x0 x1 x2 x3 x4 H =
 (ai .other .add x1 x3).bind fun v47 =>
 (bJ (some .u64) v47).bind fun v48 =>
 (ai .other .shr v48 (vw 1)).bind fun v49 =>
 (bJ (some .i64) v49).bind fun v50 =>
 (ai .other .add v50 x2).bind fun v51 =>
 ab8 x0 x1 x2 x3 x4 v50 v51 H :=
 (pt rfl 2 S9 (by kernel_rfl))
theorem N5 (H : AH) : RH H =
 some (Value.tuple #[], H) :=
 (by kernel_rfl)
theorem N8 (x0 x14 x17 : Value) (H : AH) : RK x0 x14 x17 H =
 (ai .other .sub x17 (vi 1)).bind fun v61 =>
 zh x0 x14 v61 H :=
 (by kernel_rfl)
theorem N7 (x0 x14 x17 : Value) (H : AH) : RJ x0 x14 x17 H =
 (ai .other .sub x17 (vi 1)).bind fun v63 =>
 (ai .other .sub x17 (vi 1)).bind fun v64 =>
 ldN 7 [.i 7 v64] x0 H fun v65 =>
 ldN 7 [.i 7 x17] x0 H fun v66 =>
 st 7 [.i 7 x17] x0 v65 H fun H67 =>
 st 7 [.i 7 v63] x0 v66 H67 fun H68 =>
 RK x0 x14 x17 H68 :=
 (pt rfl 0 z9 (bt rfl (be [1, 0, 1, 2, 1, 1, 1, 0, 1, 4, 5, 1, 0, 4]) 7 LS (by kernel_rfl)))
theorem Hj (H : AH) : Er H = RH H :=
 (by kernel_rfl)
theorem B7 (x0 x14 x17 : Value) (H : AH) : zh x0 x14 x17 H =
 (ai .other .gtr x17 x14).bind fun v69 =>
 ax v69
 (RJ x0 x14 x17 H)
 (Er H) :=
 rG rfl nq (pt rfl 0 LK (by kernel_rfl))
theorem N6 (x0 x14 x17 : Value) (H : AH) : RI x0 x14 x17 H =
 zh x0 x14 x17 H :=
 (bt rfl (be [1, 0, 1, 2, 1, 1, 1, 0, 1, 4]) 6 kB (li rfl (be [1, 0, 1, 2, 1, 1, 1, 0, 1, 4, 5]) nq (by kernel_rfl)))
theorem N4 (x0 x2 x14 : Value) (H : AH) : RG x0 x2 x14 H =
 RI x0 x14 x2 H :=
 (pt rfl 0 rR (pt rfl 0 LJ (by kernel_rfl)))
theorem Oa (x0 x2 x4 x14 x15 : Value) (H : AH) : RL x0 x2 x4 x14 x15 H =
 (ai .other .add x14 x15).bind fun v74 =>
 (bJ (some .u64) v74).bind fun v75 =>
 (ai .other .shr v75 (vw 1)).bind fun v76 =>
 (bJ (some .i64) v76).bind fun v77 =>
 ldN 7 [.i 7 x2] x0 H fun v78 =>
 ldN 7 [.i 7 v77] x0 H fun v79 =>
 (bM x4 [v78, v79]).bind fun c => (FF c.1 c.2 H).bind fun r80 =>
 (ai .other .lss r80.1 (vi 0)).bind fun v81 =>
 (ot .not v81).bind fun v82 =>
 ax v82
 ((ai .other .add v77 (vi 1)).bind fun v83 =>
 uL x0 x2 x4 v83 x15 r80.2)
 (uL x0 x2 x4 x14 v77 r80.2) :=
 (bt rfl (be [1, 0, 1, 2, 1, 1, 0, 4, 5, 1, 4]) 5 LT (by kernel_rfl))
theorem Hk (x0 x2 x14 : Value) (H : AH) : Es x0 x2 x14 H = RG x0 x2 x14 H :=
 (by kernel_rfl)
theorem N9 (x0 x2 x4 x14 x15 : Value) (H : AH) : uL x0 x2 x4 x14 x15 H =
 (ai .other .lss x14 x15).bind fun v84 =>
 ax v84
 (RL x0 x2 x4 x14 x15 H)
 (Es x0 x2 x14 H) :=
 rG rfl nr (pt rfl 0 LM (by kernel_rfl))
theorem N3 (x0 x2 x4 x14 x15 : Value) (H : AH) : Hm x0 x2 x4 x14 x15 H =
 uL x0 x2 x4 x14 x15 H :=
 (pt rfl 0 z5 (bt rfl (be [1, 0, 1, 2, 1, 1, 0, 4]) 4 nw (li rfl (be [1, 0, 1, 2, 1, 1, 0, 4, 5]) nr (by kernel_rfl))))
theorem B6 (x0 x1 x2 x3 x4 x80 : Value) (H : AH) : RF x0 x1 x2 x3 x4 x80 H =
 ax x80
 (Hm x0 x2 x4 x1 x2 H)
 (ab7 x0 x1 x2 x3 x4 H) :=
 (ct rfl (be [1, 0, 1, 2]) (be [1, 0, 1, 3]) (.tmp 80) (pt rfl 1 LI (by kernel_rfl)) (by kernel_rfl))
theorem Vn (x0 x1 x2 x3 x4 : Value) (H : AH) : ab6 x0 x1 x2 x3 x4 H =
 (ai .other .sub x3 x2).bind fun v85 =>
 (ai .other .eql v85 (vi 1)).bind fun v86 =>
 RF x0 x1 x2 x3 x4 v86 H :=
 (pt rfl 0 mv (pt rfl 0 LH (by kernel_rfl)))
theorem Oe (H : AH) : RO H =
 some (Value.tuple #[], H) :=
 (by kernel_rfl)
theorem Oi (x0 x10 x13 : Value) (H : AH) : RR x0 x10 x13 H =
 (ai .other .add x13 (vi 1)).bind fun v96 =>
 zi x0 x10 v96 H :=
 (by kernel_rfl)
theorem Oh (x0 x10 x13 : Value) (H : AH) : RQ x0 x10 x13 H =
 (ai .other .add x13 (vi 1)).bind fun v98 =>
 (ai .other .add x13 (vi 1)).bind fun v99 =>
 ldN 7 [.i 7 v99] x0 H fun v100 =>
 ldN 7 [.i 7 x13] x0 H fun v101 =>
 st 7 [.i 7 x13] x0 v100 H fun H102 =>
 st 7 [.i 7 v98] x0 v101 H102 fun H103 =>
 RR x0 x10 x13 H103 :=
 (pt rfl 0 Ag (bt rfl (be [0, 1, 2, 1, 1, 1, 0, 1, 4, 5, 1, 0, 4]) 3 LU (by kernel_rfl)))
theorem Hl (H : AH) : Et H = RO H :=
 (by kernel_rfl)
theorem B9 (x0 x10 x13 : Value) (H : AH) : zi x0 x10 x13 H =
 (ai .other .sub x10 (vi 1)).bind fun v104 =>
 (ai .other .lss x13 v104).bind fun v105 =>
 ax v105
 (RQ x0 x10 x13 H)
 (Et H) :=
 rG rfl nt (pt rfl 0 LQ (by kernel_rfl))
theorem Og (x0 x10 x13 : Value) (H : AH) : RP x0 x10 x13 H =
 zi x0 x10 x13 H :=
 (bt rfl (be [0, 1, 2, 1, 1, 1, 0, 1, 4]) 2 kC (li rfl (be [0, 1, 2, 1, 1, 1, 0, 1, 4, 5]) nt (by kernel_rfl)))
theorem Od (x0 x1 x10 : Value) (H : AH) : RN x0 x1 x10 H =
 RP x0 x10 x1 H :=
 (pt rfl 0 rS (pt rfl 0 LP (by kernel_rfl)))
theorem Kd (x0 x1 x4 x10 x11 : Value) (H : AH) : Kc x0 x1 x4 x10 x11 H =
 (ai .other .add x10 x11).bind fun v110 =>
 (bJ (some .u64) v110).bind fun v111 =>
 (ai .other .shr v111 (vw 1)).bind fun v112 =>
 (bJ (some .i64) v112).bind fun v113 =>
 ldN 7 [.i 7 v113] x0 H fun v114 =>
 ldN 7 [.i 7 x1] x0 H fun v115 =>
 (bM x4 [v114, v115]).bind fun c => (FF c.1 c.2 H).bind fun r116 =>
 (ai .other .lss r116.1 (vi 0)).bind fun v117 =>
 ax v117
 ((ai .other .add v113 (vi 1)).bind fun v118 =>
 pQ x0 x1 x4 v118 x11 r116.2)
 (pQ x0 x1 x4 x10 v113 r116.2) :=
 (bt rfl (be [0, 1, 2, 1, 1, 0, 4, 5, 1, 4]) 1 IO (by kernel_rfl))
theorem C5 (x0 x1 x10 : Value) (H : AH) : B5 x0 x1 x10 H = RN x0 x1 x10 H :=
 (by kernel_rfl)
theorem Kb (x0 x1 x4 x10 x11 : Value) (H : AH) : pQ x0 x1 x4 x10 x11 H =
 (ai .other .lss x10 x11).bind fun v119 =>
 ax v119
 (Kc x0 x1 x4 x10 x11 H)
 (B5 x0 x1 x10 H) :=
 rG rfl lg (pt rfl 0 ID (by kernel_rfl))
theorem Oc (x0 x1 x4 x10 x11 : Value) (H : AH) : Hq x0 x1 x4 x10 x11 H =
 pQ x0 x1 x4 x10 x11 H :=
 (pt rfl 0 Ac (bt rfl (be [0, 1, 2, 1, 1, 0, 4]) 0 lh (li rfl (be [0, 1, 2, 1, 1, 0, 4, 5]) lg (by kernel_rfl))))
theorem B8 (x0 x1 x2 x3 x4 x28 : Value) (H : AH) : RM x0 x1 x2 x3 x4 x28 H =
 ax x28
 (Hq x0 x1 x4 x2 x3 H)
 (ab6 x0 x1 x2 x3 x4 H) :=
 (ct rfl (be [0, 1, 2]) (be [0, 1, 3]) (.tmp 28) (pt rfl 1 LO (by kernel_rfl)) (by kernel_rfl))
noncomputable def sMg (x0 x1 x2 x3 x4 : Value) (H : AH) : OV := aU PP GG FF (be []) (ls [x0, x1, x2, x3, x4] 215) H bz bq bz
theorem ajN (x0 x1 x2 x3 x4 : Value) (H : AH) {r : Value × AH} (h : (
 (ai .other .sub x2 x1).bind fun v120 =>
 (ai .other .eql v120 (vi 1)).bind fun v121 =>
 RM x0 x1 x2 x3 x4 v121 H) = some r) : FF DY [x0, x1, x2, x3, x4] H = some r :=
 fo (t := sMg x0 x1 x2 x3 x4 H) Tryz.func138 (by kernel_rfl) (Eq.trans (pt rfl 0 mu (pt rfl 0 LN (by kernel_rfl))) h)
theorem xH (x0 : Value) (H : AH) {r : Value × AH} (h : (
 (ai .other .neq x0 x0).bind fun v0 =>
 some (v0, H)) = some r) : FF ie [x0] H = some r :=
 fo Tryz.func139 (by kernel_rfl) h
noncomputable def e9 (p : List Nat) : Code := Code.sub (bG Tryz.f140) p
noncomputable def fc : KK := dR PP (Tryz.f140).results.toList
noncomputable def PK : KK := CQ (e9 [1, 1]) fc bq fc
noncomputable def abQ (x0 x1 x2 x7 x8 : Value) (H : AH) : OV := PK (ls [x0, x1, x2, u, u, u, u, x7, x8] 81) H
noncomputable def Fv : KK := CQ (e9 [1, 1, 1]) fc bq fc
noncomputable def PJ : KK := dd 1237940039285380274899123832 Fv
noncomputable def NE (x0 x1 x2 x7 x8 : Value) (H : AH) : OV := Fv (ls [x0, x1, x2, u, u, u, u, x7, x8] 81) H
noncomputable def PL : KK := CQ (e9 [1, 1, 1, 1, 1]) fc bq fc
noncomputable def abR (x0 x1 x2 x7 x8 x10 : Value) (H : AH) : OV := PL (ls [x0, x1, x2, u, u, u, u, x7, x8, u, x10] 79) H
noncomputable def Fw : KK := CQ (e9 [1, 1, 1, 1, 1, 1]) fc bq fc
noncomputable def aeU : KK := dd 1237940039285380274899122808 Fw
noncomputable def NG (x0 x1 x2 x7 x8 x10 : Value) (H : AH) : OV := Fw (ls [x0, x1, x2, u, u, u, u, x7, x8, u, x10] 79) H
noncomputable def As : KX := BX 2 aeU bq
noncomputable def Au : KX := ml 1237940039285380274899122808 As
noncomputable def An : KK := ri (e9 [1, 1, 1, 1, 1, 0, 4, 5]) Au fc
noncomputable def IP : KK := dd 1237940039285380274899122808 An
noncomputable def ze (x0 x1 x2 x7 x8 x10 : Value) (H : AH) : OV := An (ls [x0, x1, x2, u, u, u, u, x7, x8, u, x10] 79) H
noncomputable def IR : KK := CQ (e9 [1, 1, 1, 1, 1, 0, 4, 5, 1]) IP Au fc
noncomputable def Rm (x0 x1 x2 x7 x8 x10 : Value) (H : AH) : OV := IR (ls [x0, x1, x2, u, u, u, u, x7, x8, u, x10] 79) H
noncomputable def Xg : KX := BX 3 IP Au
noncomputable def Ec (x0 x1 x2 x7 x8 x10 : Value) (H : AH) : OV := As 2 (ls [x0, x1, x2, u, u, u, u, x7, x8, u, x10] 79) H
noncomputable def IS : KK := CQ (e9 [1, 1, 0, 1]) PJ bq fc
noncomputable def Rn (x0 x1 x2 x7 x8 x9 : Value) (H : AH) : OV := IS (ls [x0, x1, x2, u, u, u, u, x7, x8, x9] 80) H
noncomputable def At : KX := BX 0 PJ bq
noncomputable def tp : KX := ml 1237940039285380274899123832 At
noncomputable def Ao : KK := ri (e9 [1, 1, 0, 1, 4, 5]) tp fc
noncomputable def IQ : KK := dd 1237940039285380274899123320 Ao
noncomputable def zf (x0 x1 x2 x7 x8 x9 : Value) (H : AH) : OV := Ao (ls [x0, x1, x2, u, u, u, u, x7, x8, x9] 80) H
noncomputable def IT : KK := CQ (e9 [1, 1, 0, 1, 4, 5, 1]) IQ tp fc
noncomputable def Ro (x0 x1 x2 x7 x8 x9 : Value) (H : AH) : OV := IT (ls [x0, x1, x2, u, u, u, u, x7, x8, x9] 80) H
noncomputable def Ap : KK := CQ (e9 [1, 1, 0, 1, 4, 5, 1, 1]) IQ tp fc
noncomputable def Xf : KK := dd 1237940039285380274899123320 Ap
noncomputable def zg (x0 x1 x2 x7 x8 x9 : Value) (H : AH) : OV := Ap (ls [x0, x1, x2, u, u, u, u, x7, x8, x9] 80) H
noncomputable def Xh : KX := BX 1 Xf tp
noncomputable def Ed (x0 x1 x2 x7 x8 : Value) (H : AH) : OV := At 0 (ls [x0, x1, x2, u, u, u, u, x7, x8] 81) H
theorem dx : au 1237940039285380274899124223 fc := rf
theorem Th : au 1237940039285380274899123832 PK := rc dx aB dx
theorem vk : au 1237940039285380274899123832 Fv := rc dx aB dx
theorem Ti : au 1237940039285380274899122808 PL := rc dx aB dx
theorem DB : au 1237940039285380274899122808 Fw := rc dx aB dx
theorem nA : ∀ i, au 1237940039285380274899122808 (As i) := rb (cd DB) aB
theorem ny : au 1237940039285380274899122808 An := rl (cx nA) dx
theorem LV : au 1237940039285380274899122808 IR := rc (cd ny) (cx nA) dx
theorem LY : ∀ i, au 1237940039285380274899122808 (Xg i) := rb (cd ny) (cx nA)
theorem LW : au 1237940039285380274899123320 IS := rc (cd vk) aB dx
theorem kD : ∀ i, au 1237940039285380274899123832 (At i) := rb (cd vk) aB
theorem nz : au 1237940039285380274899123320 Ao := rl (cx kD) dx
theorem LX : au 1237940039285380274899123320 IT := rc (cd nz) (cx kD) dx
theorem Aq : au 1237940039285380274899123320 Ap := rc (cd nz) (cx kD) dx
theorem LZ : ∀ i, au 1237940039285380274899123320 (Xh i) := rb (cd Aq) (cx kD)
theorem U9 (x0 x1 x2 x7 x8 x10 : Value) (H : AH) : NG x0 x1 x2 x7 x8 x10 H =
 ld [.n, .f 13] x0 H fun v4 =>
 (d5 7 v4 none (some x10)).bind fun v5 =>
 (dq 7 72 (.slice none 0 0) v5 H).bind fun r6 =>
 (aD 4 x7 r6.2).bind fun v7 =>
 g6 [(0, 1), (1, 1), (2, 1), (3, 4)] [(vi 0), (vi 0), (vi 0), (vi 0), (.slice none 0 0), (vi 0), (vw 0)] [(0, x1), (1, x2), (2, x8), (3, v7)] fun v8 =>
 vJ 1 7 [(vi 0), (vi 0), (vi 0), (vi 0), (.slice none 0 0), (vi 0), (vw 0)] [(0, v8)] r6.2 fun v9 H10 =>
 (dq 7 72 r6.1 v9 H10).bind fun r11 =>
 ld [.n, .f 13] x0 r11.2 fun v12 =>
 (d5 7 v12 (some x10) none).bind fun v13 =>
 (dq 7 72 r11.1 v13 r11.2).bind fun r14 =>
 st 1 [.n, .f 13] x0 r14.1 r14.2 fun H15 =>
 some (Value.tuple #[], H15) :=
 (by kernel_rfl)
theorem NF (x0 x1 x2 x7 x8 x10 : Value) (H : AH) : Rm x0 x1 x2 x7 x8 x10 H =
 (ai .other .sub x10 (vi 1)).bind fun v20 =>
 ze x0 x1 x2 x7 x8 v20 H :=
 (bt rfl (e9 [1, 1, 1, 1, 1, 0, 4, 5, 1, 4]) 3 LY (by kernel_rfl))
theorem uA (x0 x1 x2 x7 x8 x10 : Value) (H : AH) : Ec x0 x1 x2 x7 x8 x10 H = NG x0 x1 x2 x7 x8 x10 H :=
 (by kernel_rfl)
theorem BV (x0 x1 x2 x7 x8 x10 : Value) (H : AH) : ze x0 x1 x2 x7 x8 x10 H =
 (ai .other .gtr x10 (vi 0)).bind fun v21 =>
 (gV v21 true x0).bind fun v22 =>
 fu v21 true  [.n, .f 13] v22 H fun v23 =>
 (gV v21 true x10).bind fun v24 =>
 (gB v21 true (ai .other .sub v24 (vi 1))).bind fun v25 =>
 fu v21 true  [.i 7 v25, .f 0] v23 H fun v26 =>
 (gV v21 true x1).bind fun v27 =>
 (gB v21 true (ai .other .gtr v26 v27)).bind fun v28 =>
 (aQ v21 v28 (vb false)).bind fun v29 =>
 ax v29
 (Rm x0 x1 x2 x7 x8 x10 H)
 (Ec x0 x1 x2 x7 x8 x10 H) :=
 rG rfl ny (pt rfl 0 LV (by kernel_rfl))
theorem U8 (x0 x1 x2 x7 x8 x10 : Value) (H : AH) : abR x0 x1 x2 x7 x8 x10 H =
 ze x0 x1 x2 x7 x8 x10 H :=
 (pt rfl 0 DB (bt rfl (e9 [1, 1, 1, 1, 1, 0, 4]) 2 nA (li rfl (e9 [1, 1, 1, 1, 1, 0, 4, 5]) ny (by kernel_rfl))))
theorem U7 (x0 x1 x2 x7 x8 : Value) (H : AH) : NE x0 x1 x2 x7 x8 H =
 ld [.f 1] x7 H fun v30 =>
 (dq 3 24 (.slice none 0 0) v30 H).bind fun r31 =>
 st 1 [.f 1] x7 r31.1 r31.2 fun H32 =>
 ld [.n, .f 13] x0 H32 fun v33 =>
 dG v33 fun v34 =>
 abR x0 x1 x2 x7 x8 v34 H32 :=
 (pt rfl 1 Ti (by kernel_rfl))
theorem NJ (x0 x1 x2 x7 x8 x9 : Value) (H : AH) : zg x0 x1 x2 x7 x8 x9 H =
 (ai .other .add x9 (vi 2)).bind fun v40 =>
 zf x0 x1 x2 x7 x8 v40 H :=
 (by kernel_rfl)
theorem NI (x0 x1 x2 x7 x8 x9 : Value) (H : AH) : Ro x0 x1 x2 x7 x8 x9 H =
 ld [.n, .f 12] x0 H fun v42 =>
 ld [.i 1 x9] v42 H fun v43 =>
 (ai .other .eql v43 x2).bind fun v44 =>
 ax v44
 (ld [.n, .f 12] x0 H fun v45 =>
 (ai .other .add x9 (vi 1)).bind fun v46 =>
 ld [.i 1 v46] v45 H fun v47 =>
 zg x0 x1 x2 x7 v47 x9 H)
 (zg x0 x1 x2 x7 x8 x9 H) :=
 (pt rfl 0 Aq (bt rfl (e9 [1, 1, 0, 1, 4, 5, 1, 0, 4]) 1 LZ (by kernel_rfl)))
theorem G4 (x0 x1 x2 x7 x8 : Value) (H : AH) : Ed x0 x1 x2 x7 x8 H = NE x0 x1 x2 x7 x8 H :=
 (by kernel_rfl)
theorem BW (x0 x1 x2 x7 x8 x9 : Value) (H : AH) : zf x0 x1 x2 x7 x8 x9 H =
 ld [.n, .f 12] x0 H fun v48 =>
 dG v48 fun v49 =>
 (ai .other .lss x9 v49).bind fun v50 =>
 ax v50
 (Ro x0 x1 x2 x7 x8 x9 H)
 (Ed x0 x1 x2 x7 x8 H) :=
 rG rfl nz (pt rfl 0 LX (by kernel_rfl))
theorem NH (x0 x1 x2 x7 x8 x9 : Value) (H : AH) : Rn x0 x1 x2 x7 x8 x9 H =
 zf x0 x1 x2 x7 x8 x9 H :=
 (bt rfl (e9 [1, 1, 0, 1, 4]) 0 kD (li rfl (e9 [1, 1, 0, 1, 4, 5]) nz (by kernel_rfl)))
theorem U6 (x0 x1 x2 x7 x8 : Value) (H : AH) : abQ x0 x1 x2 x7 x8 H =
 Rn x0 x1 x2 x7 x8 (vi 0) H :=
 (pt rfl 0 vk (pt rfl 0 LW (by kernel_rfl)))
noncomputable def rPN (x0 x1 x2 x3 : Value) (H : AH) : OV := aU PP GG FF (e9 []) (ls [x0, x1, x2, x3] 86) H fc bq fc
theorem ajE (x0 x1 x2 x3 : Value) (H : AH) {r : Value × AH} (h : (
 aV (Value.cells x3).toList H fun v51 H52 =>
 abQ x0 x1 x2 v51 (vi 0) H52) = some r) : FF aaM [x0, x1, x2, x3] H = some r :=
 fo (t := rPN x0 x1 x2 x3 H) Tryz.func140 (by kernel_rfl) (Eq.trans (pt rfl 1 Th (by kernel_rfl)) h)
theorem wg (x0 x1 : Value) (H : AH) {r : Value × AH} (h : (
 ad [.n, .f 0] x0 fun v0 =>
 (aq v0 H).bind fun v1 =>
 ld [.n, .f 1] x0 H fun v2 =>
 (FF bB [(vi 11), v2, (vi 0)] H).bind fun r3 =>
 bD (aq v0 r3.2) (aq v0 H) <|
 (FF dg [v1, x1, r3.1] r3.2).bind fun r4 =>
 some (r4.1, r4.2)) = some r) : FF jN [x0, x1] H = some r :=
 fo Tryz.func143 (by kernel_rfl) h
theorem m8 (x0 x1 : Value) (H : AH) {r : Value × AH} (h : (
 ld [.n, .f 2] x0 H fun v0 =>
 (bJ (some .u64) v0).bind fun v1 =>
 (ai .other .rem x1 v1).bind fun v2 =>
 (bJ (some .i64) v2).bind fun v3 =>
 some (v3, H)) = some r) : FF du [x0, x1] H = some r :=
 fo Tryz.func145 (by kernel_rfl) h
theorem vX (x0 x1 : Value) (H : AH) {r : Value × AH} (h : (
 ad [.n, .f 5] x0 fun v0 =>
 (aq v0 H).bind fun v1 =>
 (FF bB [(vi 2), (vi 0), (vi 0)] H).bind fun r2 =>
 bD (aq v0 r2.2) (aq v0 H) <|
 (FF dg [v1, x1, r2.1] r2.2).bind fun r3 =>
 some (r3.1, r3.2)) = some r) : FF gj [x0, x1] H = some r :=
 fo Tryz.func146 (by kernel_rfl) h
theorem vT (x0 x1 : Value) (H : AH) {r : Value × AH} (h : (
 ad [.n, .f 0] x0 fun v0 =>
 (aq v0 H).bind fun v1 =>
 (FF bB [(vi 3), (vi 0), (vi 0)] H).bind fun r2 =>
 bD (aq v0 r2.2) (aq v0 H) <|
 (FF ga [v1, x1, r2.1, (vw 1)] r2.2).bind fun r3 =>
 some (Value.tuple #[], r3.2)) = some r) : FF gi [x0, x1] H = some r :=
 fo Tryz.func147 (by kernel_rfl) h
theorem vU (x0 x1 x2 : Value) (H : AH) {r : Value × AH} (h : (
 ad [.n, .f 0] x0 fun v0 =>
 (aq v0 H).bind fun v1 =>
 (FF bB [(vi 9), x2, (vi 0)] H).bind fun r2 =>
 bD (aq v0 r2.2) (aq v0 H) <|
 (FF dg [v1, x1, r2.1] r2.2).bind fun r3 =>
 some (r3.1, r3.2)) = some r) : FF jK [x0, x1, x2] H = some r :=
 fo Tryz.func148 (by kernel_rfl) h
theorem us (x0 x1 x2 x3 : Value) (H : AH) {r : Value × AH} (h : (
 ad [.n, .f 0] x0 fun v0 =>
 (aq v0 H).bind fun v1 =>
 (FF bB [(vi 14), x2, (vi 0)] H).bind fun r2 =>
 bD (aq v0 r2.2) (aq v0 H) <|
 (FF bO [v1, x1, (vi 6), r2.1] r2.2).bind fun r3 =>
 (FF kL [x0, x2] r3.2).bind fun r4 =>
 (ai .other .lss r4.1 (vi 0)).bind fun v5 =>
 ax v5
 (ld [.n, .f 2] x0 r4.2 fun v6 =>
 vJ 1 1 [(vi 0)] [(0, x2)] r4.2 fun v7 H8 =>
 (dq 1 8 v6 v7 H8).bind fun r9 =>
 ad [.n, .f 3] x0 fun v10 =>
 (aq v10 r9.2).bind fun v11 =>
 bD (aq v10 H8) (aq v10 r9.2) <|
 vJ 1 1 [(vw 0)] [(0, x3)] r9.2 fun v12 H13 =>
 (dq 1 8 v11 v12 H13).bind fun r14 =>
 st 1 [.n, .f 2] x0 r9.1 r14.2 fun H15 =>
 st 1 [.n, .f 3] x0 r14.1 H15 fun H16 =>
 some (Value.tuple #[], H16))
 (ld [.n, .f 3] x0 r4.2 fun v17 =>
 st 1 [.i 1 r4.1] v17 x3 r4.2 fun H18 =>
 some (Value.tuple #[], H18))) = some r) : FF i1 [x0, x1, x2, x3] H = some r :=
 fo Tryz.func149 (by kernel_rfl) h
theorem ut (x0 x1 x2 x3 x4 : Value) (H : AH) {r : Value × AH} (h : (
 ad [.n, .f 0] x0 fun v0 =>
 (aq v0 H).bind fun v1 =>
 (FF bB [(vi 9), x2, (vi 0)] H).bind fun r2 =>
 bD (aq v0 r2.2) (aq v0 H) <|
 (bJ (some .u64) x4).bind fun v3 =>
 (ai .other .add v3 (vw 1)).bind fun v4 =>
 (FF fi [v1, x1, r2.1, x3, v4] r2.2).bind fun r5 =>
 some (r5.1, r5.2)) = some r) : FF i3 [x0, x1, x2, x3, x4] H = some r :=
 fo Tryz.func150 (by kernel_rfl) h
theorem ra (x0 x1 : Value) (H : AH) {r : Value × AH} (h : (
 (ai .other .geq x1 (vi 0)).bind fun v0 =>
 (gV v0 true x1).bind fun v1 =>
 (gV v0 true x0).bind fun v2 =>
 fu v0 true  [.n, .f 10] v2 H fun v3 =>
 (uY (yv v0) true (dG v3 some) (some undef)).bind fun v4 =>
 (gB v0 true (ai .other .lss v1 v4)).bind fun v5 =>
 (aQ v0 v5 (vb false)).bind fun v6 =>
 some (v6, H)) = some r) : FF en [x0, x1] H = some r :=
 fo Tryz.func152 (by kernel_rfl) h
theorem uJ (x0 x1 x2 x3 : Value) (H : AH) {r : Value × AH} (h : (
 (bM x3 [x2]).bind fun c => (FF c.1 c.2 H).bind fun r0 =>
 (aj r0.1 0).bind fun v1 =>
 (aj r0.1 1).bind fun v2 =>
 (gV v2 true x0).bind fun v3 =>
 A7 v2 true  [.n, .f 0] v3 fun v4 =>
 (gB v2 true (aq v4 r0.2)).bind fun v5 =>
 (gV v2 true x1).bind fun v6 =>
 (gV v2 true x0).bind fun v7 =>
 (gE v2 true r0.2 (FF cL [v7, (vi 11), (vi 0)] r0.2)).bind fun r8 =>
 bD (aq v4 r8.2) (aq v4 r0.2) <|
 (gV v2 true x2).bind fun v9 =>
 (gV v2 true v1).bind fun v10 =>
 (gE v2 true r8.2 (FF dW [v5, v6, r8.1, v9, v10] r8.2)).bind fun r11 =>
 (aQ v2 r11.1 (vb false)).bind fun v12 =>
 some (v12, r11.2)) = some r) : FF dZ [x0, x1, x2, x3] H = some r :=
 fo Tryz.func153 (by kernel_rfl) h
theorem yC (x0 x1 x2 : Value) (H : AH) {r : Value × AH} (h : (
 aV [(vi 0), (vi 0), (vi 0)] H fun v0 H1 =>
 ld [.n, .f 1] x0 H1 fun v2 =>
 g6 [(0, 1), (1, 1), (2, 1)] [(vi 0), (vi 0), (vi 0)] [(0, x1), (1, v2), (2, x2)] fun v3 =>
 (dn 3 v0 v3 H1).bind fun H4 =>
 (aD 3 v0 H4).bind fun v5 => some (v5, H4)) = some r) : FF cL [x0, x1, x2] H = some r :=
 fo Tryz.func156 (by kernel_rfl) h
theorem su (x0 x1 x2 : Value) (H : AH) {r : Value × AH} (h : (
 aV [(vi 0), (vi 0), (vw 0)] H fun v0 H1 =>
 (FF en [x0, x2] H1).bind fun r2 =>
 (ot .not r2.1).bind fun v3 =>
 ax v3
 (g6 [(0, 1), (1, 1), (2, 1)] [(vi 0), (vi 0), (vw 0)] [] fun v4 =>
 (dn 3 v0 v4 r2.2).bind fun H5 =>
 (aD 3 v0 H5).bind fun v6 => some (v6, H5))
 (ld [.n, .f 0] x0 r2.2 fun v7 =>
 g6 [(0, 1), (1, 1), (2, 1)] [(vi 0), (vi 0), (vi 0)] [(0, (vi 13)), (1, x2)] fun v8 =>
 (FF kJ [v7, x1, v8] r2.2).bind fun r9 =>
 ld [.n, .f 10] x0 r9.2 fun v10 =>
 ldN 3 [.i 4 x2, .f 0] v10 r9.2 fun v11 =>
 (dn 3 v0 v11 r9.2).bind fun H12 =>
 (aD 3 v0 H12).bind fun v13 => some (v13, H12))) = some r) : FF io [x0, x1, x2] H = some r :=
 fo Tryz.func178 (by kernel_rfl) h
theorem Lt (x0 x1 : Value) (H : AH) {r : Value × AH} (h : (
 aV [(vi 0), (.slice none 0 0), (vi 0), (vw 0)] H fun v0 H1 =>
 ld [.n, .f 11] x0 H1 fun v2 =>
 ld [.n, .f 1] x0 H1 fun v3 =>
 (FF fG [v2, v3] H1).bind fun r4 =>
 st 1 [.n, .f 12] x0 r4.1 r4.2 fun H5 =>
 ld [.n, .f 12] x0 H5 fun v6 =>
 (FF dC [v6] H5).bind fun r7 =>
 (ai .other .eql r7.1 (vi 2)).bind fun v8 =>
 ax v8
 ((FF bk [x0, (.func (.func cA) #[x0] #[])] r7.2).bind fun r9 =>
 (aj r9.1 0).bind fun v10 =>
 (aj r9.1 1).bind fun v11 =>
 (dn 4 v0 v10 r9.2).bind fun H12 =>
 (aD 4 v0 H12).bind fun v13 => some (Value.tuple #[v13, v11], H12))
 ((FF bk [x0, (.func (.func j8) #[x0] #[])] r7.2).bind fun r14 =>
 (aj r14.1 0).bind fun v15 =>
 (aj r14.1 1).bind fun v16 =>
 (dn 4 v0 v15 r14.2).bind fun H17 =>
 (aD 4 v0 H17).bind fun v18 => some (Value.tuple #[v18, v16], H17))) = some r) : FF bN [x0, x1] H = some r :=
 fo Tryz.func179 (by kernel_rfl) h
noncomputable def FH (p : List Nat) : Code := Code.sub (bG Tryz.f180) p
noncomputable def rU : KK := dR PP (Tryz.f180).results.toList
noncomputable def PT : KK := CQ (FH [1, 1]) rU bq rU
noncomputable def tg (x0 x1 x4 x5 x6 : Value) (H : AH) : OV := PT (ls [x0, x1, u, u, x4, x5, x6] 30) H
noncomputable def FI : KK := CQ (FH [1, 1, 1]) rU bq rU
noncomputable def ae0 : KK := dd 137438953422 FI
noncomputable def th (x0 x4 x5 : Value) (H : AH) : OV := FI (ls [x0, u, u, u, x4, x5] 31) H
noncomputable def ae1 : KX := BX 0 ae0 bq
theorem tt : au 137438953423 rU := rf
theorem Tq : au 137438953356 PT := rc tt aB tt
theorem DF : au 137438953422 FI := rc tt aB tt
theorem Tt : ∀ i, au 137438953422 (ae1 i) := rb (cd DF) aB
theorem xK (x0 x4 x5 : Value) (H : AH) : th x0 x4 x5 H =
 (FF bk [x0, (.func (.func dy) #[x0] #[])] H).bind fun r2 =>
 (aj r2.1 0).bind fun v3 =>
 (aj r2.1 1).bind fun v4 =>
 (dn 4 x4 v3 r2.2).bind fun H5 =>
 (aD 4 x4 H5).bind fun v6 => some (Value.tuple #[v6, v4], H5) :=
 (by kernel_rfl)
theorem xJ (x0 x1 x4 x5 x6 : Value) (H : AH) : tg x0 x1 x4 x5 x6 H =
 ld [.n, .f 10] x0 H fun v8 =>
 ax v8
 ((FF bk [x0, (.func (.func dz) #[x0] #[])] H).bind fun r9 =>
 (aj r9.1 0).bind fun v10 =>
 (aj r9.1 1).bind fun v11 =>
 (dn 4 x4 v10 r9.2).bind fun H12 =>
 (aD 4 x4 H12).bind fun v13 => some (Value.tuple #[v13, v11], H12))
 (ax x6
 ((FF ka [x0, x1, (vi 5)] H).bind fun r14 =>
 (FF bk [x0, (.func (.func dz) #[x0] #[])] r14.2).bind fun r15 =>
 (aj r15.1 0).bind fun v16 =>
 (aj r15.1 1).bind fun v17 =>
 (dn 4 x4 v16 r15.2).bind fun H18 =>
 (aD 4 x4 H18).bind fun v19 => some (Value.tuple #[v19, v17], H18))
 (th x0 x4 x5 H)) :=
 (pt rfl 0 DF (bt rfl (FH [1, 1, 0, 4]) 0 Tt (by kernel_rfl)))
noncomputable def SK (x0 x1 : Value) (H : AH) : OV := aU PP GG FF (FH []) (ls [x0, x1] 35) H rU bq rU
theorem E5 (x0 x1 : Value) (H : AH) {r : Value × AH} (h : (
 aV [(vi 0), (.slice none 0 0), (vi 0), (vw 0)] H fun v20 H21 =>
 (FF t5 [x0] H21).bind fun r22 =>
 tg x0 x1 v20 (vb false) r22.1 r22.2) = some r) : FF dy [x0, x1] H = some r :=
 fo (t := SK x0 x1 H) Tryz.func180 (by kernel_rfl) (Eq.trans (pt rfl 1 Tq (by kernel_rfl)) h)
noncomputable def oX (p : List Nat) : Code := Code.sub (bG Tryz.f181) p
noncomputable def nD : KK := dR PP (Tryz.f181).results.toList
noncomputable def PV : KK := CQ (oX [1, 1]) nD bq nD
noncomputable def acB (x0 x2 x4 x10 x11 : Value) (H : AH) : OV := PV (ls [x0, u, x2, u, x4, u, u, u, u, u, x10, x11] 46) H
noncomputable def FJ : KK := CQ (oX [1, 1, 1]) nD bq nD
noncomputable def ae2 : KK := dd 288230376151710698 FJ
noncomputable def acC (x0 x2 x4 x10 : Value) (H : AH) : OV := FJ (ls [x0, u, x2, u, x4, u, u, u, u, u, x10] 47) H
noncomputable def FL : KX := BX 0 ae2 bq
noncomputable def FM : KX := ml 288230376151710698 FL
noncomputable def FK : KK := ri (oX [1, 1, 0, 4, 5]) FM nD
noncomputable def PU : KK := dd 288230376151708650 FK
noncomputable def Ca (x0 x2 x4 x10 x11 : Value) (H : AH) : OV := FK (ls [x0, u, x2, u, x4, u, u, u, u, u, x10, x11] 46) H
noncomputable def PW : KK := CQ (oX [1, 1, 0, 4, 5, 1]) PU FM nD
noncomputable def acD (x0 x2 x4 x10 x11 : Value) (H : AH) : OV := PW (ls [x0, u, x2, u, x4, u, u, u, u, u, x10, x11] 46) H
noncomputable def ae3 : KX := BX 1 PU FM
noncomputable def Ke (x0 x2 x4 x10 : Value) (H : AH) : OV := FL 0 (ls [x0, u, x2, u, x4, u, u, u, u, u, x10] 47) H
theorem my : au 288230376151711743 nD := rf
theorem Tv : au 288230376151708650 PV := rc my aB my
theorem DG : au 288230376151710698 FJ := rc my aB my
theorem qr : ∀ i, au 288230376151710698 (FL i) := rb (cd DG) aB
theorem qq : au 288230376151708650 FK := rl (cx qr) my
theorem Tw : au 288230376151708650 PW := rc (cd qq) (cx qr) my
theorem Tx : ∀ i, au 288230376151708650 (ae3 i) := rb (cd qq) (cx qr)
theorem Vv (x0 x2 x4 x10 : Value) (H : AH) : acC x0 x2 x4 x10 H =
 (ai .other .sub x2 x10).bind fun v2 =>
 (FF JB [x0, v2, x2, x10, x4] H).bind fun r3 =>
 some (Value.tuple #[], r3.2) :=
 (by kernel_rfl)
theorem Vx (x0 x2 x4 x10 x11 : Value) (H : AH) : acD x0 x2 x4 x10 x11 H =
 (ai .other .gtr x10 x11).bind fun v8 =>
 ax v8
 ((ai .other .sub x2 x10).bind fun v9 =>
 (FF JB [x0, v9, x2, x11, x4] H).bind fun r10 =>
 (ai .other .sub x10 x11).bind fun v11 =>
 Ca x0 x2 x4 v11 x11 r10.2)
 ((ai .other .sub x2 x10).bind fun v12 =>
 (ai .other .add x2 x11).bind fun v13 =>
 (ai .other .sub v13 x10).bind fun v14 =>
 (FF JB [x0, v12, v14, x10, x4] H).bind fun r15 =>
 (ai .other .sub x11 x10).bind fun v16 =>
 Ca x0 x2 x4 x10 v16 r15.2) :=
 (bt rfl (oX [1, 1, 0, 4, 5, 1, 4]) 1 Tx (by kernel_rfl))
theorem Kf (x0 x2 x4 x10 : Value) (H : AH) : Ke x0 x2 x4 x10 H = acC x0 x2 x4 x10 H :=
 (by kernel_rfl)
theorem Vw (x0 x2 x4 x10 x11 : Value) (H : AH) : Ca x0 x2 x4 x10 x11 H =
 (ai .other .neq x10 x11).bind fun v17 =>
 ax v17
 (acD x0 x2 x4 x10 x11 H)
 (Ke x0 x2 x4 x10 H) :=
 rG rfl qq (pt rfl 0 Tw (by kernel_rfl))
theorem Vu (x0 x2 x4 x10 x11 : Value) (H : AH) : acB x0 x2 x4 x10 x11 H =
 Ca x0 x2 x4 x10 x11 H :=
 (pt rfl 0 DG (bt rfl (oX [1, 1, 0, 4]) 0 qr (li rfl (oX [1, 1, 0, 4, 5]) qq (by kernel_rfl))))
noncomputable def sRo (x0 x1 x2 x3 x4 : Value) (H : AH) : OV := aU PP GG FF (oX []) (ls [x0, x1, x2, x3, x4] 53) H nD bq nD
theorem ajO (x0 x1 x2 x3 x4 : Value) (H : AH) {r : Value × AH} (h : (
 (ai .other .sub x2 x1).bind fun v18 =>
 (ai .other .sub x3 x2).bind fun v19 =>
 acB x0 x2 x4 v18 v19 H) = some r) : FF aaR [x0, x1, x2, x3, x4] H = some r :=
 fo (t := sRo x0 x1 x2 x3 x4 H) Tryz.func181 (by kernel_rfl) (Eq.trans (pt rfl 1 Tv (by kernel_rfl)) h)
noncomputable def lW (p : List Nat) : Code := Code.sub (bG Tryz.f182) p
noncomputable def kE : KK := dR PP (Tryz.f182).results.toList
noncomputable def PZ : KK := CQ (lW [1]) kE bq kE
noncomputable def ow (x0 x1 x4 : Value) (H : AH) : OV := PZ (ls [x0, x1, u, u, x4] 20) H
noncomputable def FN : KK := CQ (lW [1, 1]) kE bq kE
noncomputable def PX : KK := dd 33554415 FN
noncomputable def ox (x4 : Value) (H : AH) : OV := FN (ls [u, u, u, u, x4] 20) H
noncomputable def P1 : KK := CQ (lW [1, 0, 1]) PX bq kE
noncomputable def oy (x0 x1 x4 x5 : Value) (H : AH) : OV := P1 (ls [x0, x1, u, u, x4, x5] 19) H
noncomputable def FQ : KX := BX 0 PX bq
noncomputable def yS : KX := ml 33554415 FQ
noncomputable def FO : KK := ri (lW [1, 0, 1, 4, 5]) yS kE
noncomputable def PY : KK := dd 33554380 FO
noncomputable def gq (x0 x1 x4 x5 : Value) (H : AH) : OV := FO (ls [x0, x1, u, u, x4, x5] 19) H
noncomputable def P3 : KK := CQ (lW [1, 0, 1, 4, 5, 1]) PY yS kE
noncomputable def oz (x0 x1 x4 x5 : Value) (H : AH) : OV := P3 (ls [x0, x1, u, u, x4, x5] 19) H
noncomputable def FP : KK := CQ (lW [1, 0, 1, 4, 5, 1, 1]) PY yS kE
noncomputable def ae4 : KK := dd 33554380 FP
noncomputable def oA (x0 x1 x4 x5 : Value) (H : AH) : OV := FP (ls [x0, x1, u, u, x4, x5] 19) H
noncomputable def ae5 : KX := BX 1 ae4 yS
noncomputable def lL (x4 : Value) (H : AH) : OV := FQ 0 (ls [u, u, u, u, x4] 20) H
theorem jy : au 33554415 kE := rf
theorem Tz : au 33554412 PZ := rc jy aB jy
theorem vm : au 33554415 FN := rc jy aB jy
theorem TA : au 33554380 P1 := rc (cd vm) aB jy
theorem mz : ∀ i, au 33554415 (FQ i) := rb (cd vm) aB
theorem qt : au 33554380 FO := rl (cx mz) jy
theorem TB : au 33554380 P3 := rc (cd qt) (cx mz) jy
theorem DH : au 33554380 FP := rc (cd qt) (cx mz) jy
theorem TC : ∀ i, au 33554380 (ae5 i) := rb (cd DH) (cx mz)
theorem sC (x4 : Value) (H : AH) : ox x4 H =
 some ((vi (-1)), H) :=
 (by kernel_rfl)
theorem sF (x0 x1 x4 x5 : Value) (H : AH) : oA x0 x1 x4 x5 H =
 (ai .other .add x5 (vi 1)).bind fun v7 =>
 gq x0 x1 x4 v7 H :=
 (by kernel_rfl)
theorem sE (x0 x1 x4 x5 : Value) (H : AH) : oz x0 x1 x4 x5 H =
 ld [.n, .f 2] x0 H fun v9 =>
 ld [.i 1 x5] v9 H fun v10 =>
 (ai .other .eql v10 x1).bind fun v11 =>
 ax v11
 (some (x5, H))
 (oA x0 x1 x4 x5 H) :=
 (pt rfl 0 DH (bt rfl (lW [1, 0, 1, 4, 5, 1, 0, 4]) 1 TC (by kernel_rfl)))
theorem pL (x4 : Value) (H : AH) : lL x4 H = ox x4 H :=
 (by kernel_rfl)
theorem kT (x0 x1 x4 x5 : Value) (H : AH) : gq x0 x1 x4 x5 H =
 ld [.n, .f 2] x0 H fun v12 =>
 dG v12 fun v13 =>
 (ai .other .lss x5 v13).bind fun v14 =>
 ax v14
 (oz x0 x1 x4 x5 H)
 (lL x4 H) :=
 rG rfl qt (pt rfl 0 TB (by kernel_rfl))
theorem sD (x0 x1 x4 x5 : Value) (H : AH) : oy x0 x1 x4 x5 H =
 gq x0 x1 x4 x5 H :=
 (bt rfl (lW [1, 0, 1, 4]) 0 mz (li rfl (lW [1, 0, 1, 4, 5]) qt (by kernel_rfl)))
theorem sB (x0 x1 x4 : Value) (H : AH) : ow x0 x1 x4 H =
 oy x0 x1 x4 (vi 0) H :=
 (pt rfl 0 vm (pt rfl 0 TA (by kernel_rfl)))
noncomputable def GX (x0 x1 : Value) (H : AH) : OV := aU PP GG FF (lW []) (ls [x0, x1] 23) H kE bq kE
theorem yq (x0 x1 : Value) (H : AH) {r : Value × AH} (h : (
 ow x0 x1 (vi 0) H) = some r) : FF kL [x0, x1] H = some r :=
 fo (t := GX x0 x1 H) Tryz.func182 (by kernel_rfl) (Eq.trans (pt rfl 0 Tz (by kernel_rfl)) h)
theorem uI (x0 x1 : Value) (H : AH) {r : Value × AH} (h : (
 ad [.n, .f 0] x0 fun v0 =>
 (aq v0 H).bind fun v1 =>
 (FF cL [x0, (vi 11), (vi 0)] H).bind fun r2 =>
 bD (aq v0 r2.2) (aq v0 H) <|
 (FF cJ [v1, x1, r2.1] r2.2).bind fun r3 =>
 some (r3.1, r3.2)) = some r) : FF fG [x0, x1] H = some r :=
 fo Tryz.func213 (by kernel_rfl) h
noncomputable def FR (p : List Nat) : Code := Code.sub (bG Tryz.f214) p
noncomputable def rV : KK := dR PP (Tryz.f214).results.toList
noncomputable def P6 : KK := CQ (FR [1, 1]) rV bq rV
noncomputable def zN (x0 x4 x5 x6 : Value) (H : AH) : OV := P6 (ls [x0, u, u, u, x4, x5, x6] 45) H
noncomputable def FS : KK := CQ (FR [1, 1, 1]) rV bq rV
noncomputable def ae6 : KK := dd 4503599627370446 FS
noncomputable def zO (x0 x4 x5 : Value) (H : AH) : OV := FS (ls [x0, u, u, u, x4, x5] 46) H
noncomputable def ae7 : KX := BX 0 ae6 bq
theorem tv : au 4503599627370447 rV := rf
theorem TG : au 4503599627370382 P6 := rc tv aB tv
theorem DI : au 4503599627370446 FS := rc tv aB tv
theorem TH : ∀ i, au 4503599627370446 (ae7 i) := rb (cd DI) aB
theorem CO (x0 x4 x5 : Value) (H : AH) : zO x0 x4 x5 H =
 (FF bk [x0, (.func (.func iW) #[x0] #[])] H).bind fun r2 =>
 (aj r2.1 0).bind fun v3 =>
 (aj r2.1 1).bind fun v4 =>
 (dn 4 x4 v3 r2.2).bind fun H5 =>
 (aD 4 x4 H5).bind fun v6 => some (Value.tuple #[v6, v4], H5) :=
 (by kernel_rfl)
theorem CN (x0 x4 x5 x6 : Value) (H : AH) : zN x0 x4 x5 x6 H =
 ld [.n, .f 11] x0 H fun v8 =>
 ld [.n, .f 12] x0 H fun v9 =>
 (FF fD [v8, v9, x6] H).bind fun r10 =>
 ax r10.1
 ((FF bk [x0, (.func (.func mW) #[x0] #[])] r10.2).bind fun r11 =>
 (aj r11.1 0).bind fun v12 =>
 (aj r11.1 1).bind fun v13 =>
 (dn 4 x4 v12 r11.2).bind fun H14 =>
 (aD 4 x4 H14).bind fun v15 => some (Value.tuple #[v15, v13], H14))
 (ld [.n, .f 12] x0 r10.2 fun v16 =>
 (FF dC [v16] r10.2).bind fun r17 =>
 (ai .other .eql r17.1 (vi 1)).bind fun v18 =>
 ax v18
 ((FF bk [x0, (.func (.func iX) #[x0] #[])] r17.2).bind fun r19 =>
 (aj r19.1 0).bind fun v20 =>
 (aj r19.1 1).bind fun v21 =>
 (dn 4 x4 v20 r19.2).bind fun H22 =>
 (aD 4 x4 H22).bind fun v23 => some (Value.tuple #[v23, v21], H22))
 (zO x0 x4 x5 r17.2)) :=
 (pt rfl 0 DI (bt rfl (FR [1, 1, 0, 4]) 0 TH (by kernel_rfl)))
noncomputable def aeM (x0 x1 : Value) (H : AH) : OV := aU PP GG FF (FR []) (ls [x0, x1] 50) H rV bq rV
theorem Lk (x0 x1 : Value) (H : AH) {r : Value × AH} (h : (
 aV [(vi 0), (.slice none 0 0), (vi 0), (vw 0)] H fun v24 H25 =>
 ld [.n, .f 11] x0 H25 fun v26 =>
 ld [.n, .f 1] x0 H25 fun v27 =>
 (FF fE [v26, v27] H25).bind fun r28 =>
 zN x0 v24 (vb false) r28.1 r28.2) = some r) : FF j8 [x0, x1] H = some r :=
 fo (t := aeM x0 x1 H) Tryz.func214 (by kernel_rfl) (Eq.trans (pt rfl 1 TG (by kernel_rfl)) h)
theorem E6 (x0 x1 : Value) (H : AH) {r : Value × AH} (h : (
 aV [(vi 0), (.slice none 0 0), (vi 0), (vw 0)] H fun v0 H1 =>
 ld [.n, .f 0] x0 H1 fun v2 =>
 ld [.n, .f 2] v2 H1 fun v3 =>
 ld [.n, .f 1] x0 H1 fun v4 =>
 ld [.n, .f 6] x0 H1 fun v5 =>
 (FF fj [v3, v4, v5] H1).bind fun r6 =>
 ld [.n, .f 10] x0 r6.2 fun v7 =>
 (ot .not v7).bind fun v8 =>
 ax v8
 ((FF j7 [x0, (vi 5)] r6.2).bind fun r9 =>
 (aj r9.1 0).bind fun v10 =>
 (aj r9.1 1).bind fun v11 =>
 (dn 4 v0 v10 r9.2).bind fun H12 =>
 (aD 4 v0 H12).bind fun v13 => some (Value.tuple #[v13, v11], H12))
 ((FF bk [x0, (.func (.func fB) #[x0] #[])] r6.2).bind fun r14 =>
 (aj r14.1 0).bind fun v15 =>
 (aj r14.1 1).bind fun v16 =>
 (dn 4 v0 v15 r14.2).bind fun H17 =>
 (aD 4 v0 H17).bind fun v18 => some (Value.tuple #[v18, v16], H17))) = some r) : FF dz [x0, x1] H = some r :=
 fo Tryz.func215 (by kernel_rfl) h
noncomputable def oZ (p : List Nat) : Code := Code.sub (bG Tryz.f216) p
noncomputable def nE : KK := dR PP (Tryz.f216).results.toList
noncomputable def P8 : KK := CQ (oZ [1]) nE bq nE
noncomputable def acJ (x0 x1 x2 x3 x10 : Value) (H : AH) : OV := P8 (ls [x0, x1, x2, x3, u, u, u, u, u, u, x10] 27) H
noncomputable def FV : KX := BX 0 nE bq
noncomputable def yT : KX := ml 274877906943 FV
noncomputable def FT : KK := ri (oZ [1, 4, 5]) yT nE
noncomputable def P7 : KK := dd 274877905904 FT
noncomputable def Hw (x0 x1 x2 x3 x10 : Value) (H : AH) : OV := FT (ls [x0, x1, x2, x3, u, u, u, u, u, u, x10] 27) H
noncomputable def P9 : KK := CQ (oZ [1, 4, 5, 1]) P7 yT nE
noncomputable def acK (x0 x1 x2 x3 x10 : Value) (H : AH) : OV := P9 (ls [x0, x1, x2, x3, u, u, u, u, u, u, x10] 27) H
noncomputable def FU : KK := CQ (oZ [1, 4, 5, 1, 1]) P7 yT nE
noncomputable def ae8 : KK := dd 274877905904 FU
noncomputable def acL (x0 x1 x2 x3 x10 : Value) (H : AH) : OV := FU (ls [x0, x1, x2, x3, u, u, u, u, u, u, x10] 27) H
noncomputable def ae9 : KX := BX 1 ae8 yT
noncomputable def Ki (H : AH) : OV := FV 0 (ls [] 38) H
theorem mB : au 274877906943 nE := rf
theorem TI : au 274877905904 P8 := rc mB aB mB
theorem mC : ∀ i, au 274877906943 (FV i) := rb mB aB
theorem qu : au 274877905904 FT := rl (cx mC) mB
theorem TJ : au 274877905904 P9 := rc (cd qu) (cx mC) mB
theorem DJ : au 274877905904 FU := rc (cd qu) (cx mC) mB
theorem TK : ∀ i, au 274877905904 (ae9 i) := rb (cd DJ) (cx mC)
theorem VI (x0 x1 x2 x3 x10 : Value) (H : AH) : acL x0 x1 x2 x3 x10 H =
 (ai .other .add x10 (vi 1)).bind fun v5 =>
 Hw x0 x1 x2 x3 v5 H :=
 (by kernel_rfl)
theorem VH (x0 x1 x2 x3 x10 : Value) (H : AH) : acK x0 x1 x2 x3 x10 H =
 (ai .other .add x1 x10).bind fun v7 =>
 (ai .other .add x2 x10).bind fun v8 =>
 (ai .other .add x2 x10).bind fun v9 =>
 ldN 7 [.i 7 v9] x0 H fun v10 =>
 (ai .other .add x1 x10).bind fun v11 =>
 ldN 7 [.i 7 v11] x0 H fun v12 =>
 st 7 [.i 7 v7] x0 v10 H fun H13 =>
 st 7 [.i 7 v8] x0 v12 H13 fun H14 =>
 acL x0 x1 x2 x3 x10 H14 :=
 (pt rfl 0 DJ (bt rfl (oZ [1, 4, 5, 1, 0, 4]) 1 TK (by kernel_rfl)))
theorem Kj (H : AH) : Ki H = some (Value.tuple #[], H) :=
 (by kernel_rfl)
theorem Ez (x0 x1 x2 x3 x10 : Value) (H : AH) : Hw x0 x1 x2 x3 x10 H =
 (ai .other .lss x10 x3).bind fun v15 =>
 ax v15
 (acK x0 x1 x2 x3 x10 H)
 (Ki H) :=
 rG rfl qu (pt rfl 0 TJ (by kernel_rfl))
theorem VG (x0 x1 x2 x3 x10 : Value) (H : AH) : acJ x0 x1 x2 x3 x10 H =
 Hw x0 x1 x2 x3 x10 H :=
 (bt rfl (oZ [1, 4]) 0 mC (li rfl (oZ [1, 4, 5]) qu (by kernel_rfl)))
noncomputable def sSw (x0 x1 x2 x3 x4 : Value) (H : AH) : OV := aU PP GG FF (oZ []) (ls [x0, x1, x2, x3, x4] 33) H nE bq nE
theorem ajR (x0 x1 x2 x3 x4 : Value) (H : AH) {r : Value × AH} (h : (
 acJ x0 x1 x2 x3 (vi 0) H) = some r) : FF JB [x0, x1, x2, x3, x4] H = some r :=
 fo (t := sSw x0 x1 x2 x3 x4 H) Tryz.func216 (by kernel_rfl) (Eq.trans (pt rfl 0 TI (by kernel_rfl)) h)
theorem uE (x0 x1 : Value) (H : AH) {r : Value × AH} (h : (
 ad [.n, .f 0] x0 fun v0 =>
 (aq v0 H).bind fun v1 =>
 (FF cL [x0, (vi 12), (vi 0)] H).bind fun r2 =>
 bD (aq v0 r2.2) (aq v0 H) <|
 (FF cJ [v1, x1, r2.1] r2.2).bind fun r3 =>
 some (r3.1, r3.2)) = some r) : FF fE [x0, x1] H = some r :=
 fo Tryz.func253 (by kernel_rfl) h
theorem uD (x0 x1 x2 : Value) (H : AH) {r : Value × AH} (h : (
 (FF cF [x1] H).bind fun r0 =>
 (ai .other .geq r0.1 x2).bind fun v1 =>
 (gV v1 true r0.1).bind fun v2 =>
 (gV v1 true x2).bind fun v3 =>
 (gB v1 true (ai .other .sub v2 v3)).bind fun v4 =>
 (gV v1 true x0).bind fun v5 =>
 fu v1 true  [.n, .f 2] v5 r0.2 fun v6 =>
 (uY (yv v1) true (dG v6 some) (some undef)).bind fun v7 =>
 (gB v1 true (bJ (some .u64) v7)).bind fun v8 =>
 (gB v1 true (ai .other .geq v4 v8)).bind fun v9 =>
 (aQ v1 v9 (vb false)).bind fun v10 =>
 some (v10, r0.2)) = some r) : FF fD [x0, x1, x2] H = some r :=
 fo Tryz.func254 (by kernel_rfl) h
theorem SL (x0 x1 : Value) (H : AH) {r : Value × AH} (h : (
 aV [(vi 0), (.slice none 0 0), (vi 0), (vw 0)] H fun v0 H1 =>
 ld [.n, .f 0] x0 H1 fun v2 =>
 ld [.n, .f 1] x0 H1 fun v3 =>
 (FF eR [v2, v3] H1).bind fun r4 =>
 st 1 [.n, .f 13] x0 r4.1 r4.2 fun H5 =>
 ld [.n, .f 13] x0 H5 fun v6 =>
 (ai .other .rem v6 (vw 2)).bind fun v7 =>
 (ai .other .eql v7 (vw 1)).bind fun v8 =>
 ax v8
 ((FF bk [x0, (.func (.func bN) #[x0] #[])] H5).bind fun r9 =>
 (aj r9.1 0).bind fun v10 =>
 (aj r9.1 1).bind fun v11 =>
 (dn 4 v0 v10 r9.2).bind fun H12 =>
 (aD 4 v0 H12).bind fun v13 => some (Value.tuple #[v13, v11], H12))
 ((FF bk [x0, (.func (.func dU) #[x0] #[])] H5).bind fun r14 =>
 (aj r14.1 0).bind fun v15 =>
 (aj r14.1 1).bind fun v16 =>
 (dn 4 v0 v15 r14.2).bind fun H17 =>
 (aD 4 v0 H17).bind fun v18 => some (Value.tuple #[v18, v16], H17))) = some r) : FF mW [x0, x1] H = some r :=
 fo Tryz.func255 (by kernel_rfl) h
theorem Ik (x0 x1 : Value) (H : AH) {r : Value × AH} (h : (
 aV [(vi 0), (.slice none 0 0), (vi 0), (vw 0)] H fun v0 H1 =>
 ld [.n, .f 11] x0 H1 fun v2 =>
 ld [.n, .f 1] x0 H1 fun v3 =>
 ld [.n, .f 12] x0 H1 fun v4 =>
 (FF eW [v2, v3, v4] H1).bind fun r5 =>
 (ot .not r5.1).bind fun v6 =>
 ax v6
 ((FF bk [x0, (.func (.func bN) #[x0] #[])] r5.2).bind fun r7 =>
 (aj r7.1 0).bind fun v8 =>
 (aj r7.1 1).bind fun v9 =>
 (dn 4 v0 v8 r7.2).bind fun H10 =>
 (aD 4 v0 H10).bind fun v11 => some (Value.tuple #[v11, v9], H10))
 ((FF ka [x0, x1, (vi 0)] r5.2).bind fun r12 =>
 (FF bk [x0, (.func (.func mV) #[x0] #[])] r12.2).bind fun r13 =>
 (aj r13.1 0).bind fun v14 =>
 (aj r13.1 1).bind fun v15 =>
 (dn 4 v0 v14 r13.2).bind fun H16 =>
 (aD 4 v0 H16).bind fun v17 => some (Value.tuple #[v17, v15], H16))) = some r) : FF iX [x0, x1] H = some r :=
 fo Tryz.func256 (by kernel_rfl) h
theorem Ij (x0 x1 : Value) (H : AH) {r : Value × AH} (h : (
 aV [(vi 0), (.slice none 0 0), (vi 0), (vw 0)] H fun v0 H1 =>
 ld [.n, .f 0] x0 H1 fun v2 =>
 ld [.n, .f 1] v2 H1 fun v3 =>
 ld [.n, .f 1] x0 H1 fun v4 =>
 (FF fR [v3, v4] H1).bind fun r5 =>
 (FF bk [x0, (.func (.func kg) #[x0] #[])] r5.2).bind fun r6 =>
 (aj r6.1 0).bind fun v7 =>
 (aj r6.1 1).bind fun v8 =>
 (dn 4 v0 v7 r6.2).bind fun H9 =>
 (aD 4 v0 H9).bind fun v10 => some (Value.tuple #[v10, v8], H9)) = some r) : FF iW [x0, x1] H = some r :=
 fo Tryz.func257 (by kernel_rfl) h
theorem sx (x0 x1 : Value) (H : AH) {r : Value × AH} (h : (
 ld [.n, .f 0] x0 H fun v0 =>
 g6 [(0, 1), (1, 1), (2, 1)] [(vi 0), (vi 0), (vi 0)] [(0, (vi 2))] fun v1 =>
 (FF cJ [v0, x1, v1] H).bind fun r2 =>
 some (r2.1, r2.2)) = some r) : FF eR [x0, x1] H = some r :=
 fo Tryz.func259 (by kernel_rfl) h
theorem xL (x0 x1 : Value) (H : AH) {r : Value × AH} (h : (
 aV [(vi 0), (.slice none 0 0), (vi 0), (vw 0)] H fun v0 H1 =>
 ld [.n, .f 11] x0 H1 fun v2 =>
 ld [.n, .f 1] x0 H1 fun v3 =>
 (FF fG [v2, v3] H1).bind fun r4 =>
 st 1 [.n, .f 12] x0 r4.1 r4.2 fun H5 =>
 ld [.n, .f 12] x0 H5 fun v6 =>
 (FF dC [v6] H5).bind fun r7 =>
 (ai .other .eql r7.1 (vi 2)).bind fun v8 =>
 ax v8
 ((FF bk [x0, (.func (.func cA) #[x0] #[])] r7.2).bind fun r9 =>
 (aj r9.1 0).bind fun v10 =>
 (aj r9.1 1).bind fun v11 =>
 (dn 4 v0 v10 r9.2).bind fun H12 =>
 (aD 4 v0 H12).bind fun v13 => some (Value.tuple #[v13, v11], H12))
 ((FF bk [x0, (.func (.func dT) #[x0] #[])] r7.2).bind fun r14 =>
 (aj r14.1 0).bind fun v15 =>
 (aj r14.1 1).bind fun v16 =>
 (dn 4 v0 v15 r14.2).bind fun H17 =>
 (aD 4 v0 H17).bind fun v18 => some (Value.tuple #[v18, v16], H17))) = some r) : FF dU [x0, x1] H = some r :=
 fo Tryz.func276 (by kernel_rfl) h
theorem sO (x0 x1 x2 : Value) (H : AH) {r : Value × AH} (h : (
 (FF dZ [x0, x1, x2, (.func (.func lE) #[] #[])] H).bind fun r0 =>
 some (r0.1, r0.2)) = some r) : FF eW [x0, x1, x2] H = some r :=
 fo Tryz.func277 (by kernel_rfl) h
theorem SJ (x0 x1 : Value) (H : AH) {r : Value × AH} (h : (
 aV [(vi 0), (.slice none 0 0), (vi 0), (vw 0)] H fun v0 H1 =>
 (FF t6 [x0] H1).bind fun r2 =>
 (FF bk [x0, (.func (.func kf) #[x0] #[])] r2.2).bind fun r3 =>
 (aj r3.1 0).bind fun v4 =>
 (aj r3.1 1).bind fun v5 =>
 (dn 4 v0 v4 r3.2).bind fun H6 =>
 (aD 4 v0 H6).bind fun v7 => some (Value.tuple #[v7, v5], H6)) = some r) : FF mV [x0, x1] H = some r :=
 fo Tryz.func278 (by kernel_rfl) h
theorem pj (x0 x1 : Value) (H : AH) {r : Value × AH} (h : (
 ad [.n, .f 0] x0 fun v0 =>
 (aq v0 H).bind fun v1 =>
 (FF bf [(vi 3), (vi 0)] H).bind fun r2 =>
 bD (aq v0 r2.2) (aq v0 H) <|
 (FF eH [v1, x1, r2.1, (vw 4294967296)] r2.2).bind fun r3 =>
 some (Value.tuple #[], r3.2)) = some r) : FF fR [x0, x1] H = some r :=
 fo Tryz.func279 (by kernel_rfl) h
theorem Ls (x0 x1 : Value) (H : AH) {r : Value × AH} (h : (
 aV [(vi 0), (.slice none 0 0), (vi 0), (vw 0)] H fun v0 H1 =>
 ld [.n, .f 11] x0 H1 fun v2 =>
 ld [.n, .f 1] x0 H1 fun v3 =>
 ld [.n, .f 12] x0 H1 fun v4 =>
 (FF eW [v2, v3, v4] H1).bind fun r5 =>
 (ot .not r5.1).bind fun v6 =>
 ax v6
 ((FF bk [x0, (.func (.func j5) #[x0] #[])] r5.2).bind fun r7 =>
 (aj r7.1 0).bind fun v8 =>
 (aj r7.1 1).bind fun v9 =>
 (dn 4 v0 v8 r7.2).bind fun H10 =>
 (aD 4 v0 H10).bind fun v11 => some (Value.tuple #[v11, v9], H10))
 ((FF ka [x0, x1, (vi 0)] r5.2).bind fun r12 =>
 (FF bk [x0, (.func (.func j6) #[x0] #[])] r12.2).bind fun r13 =>
 (aj r13.1 0).bind fun v14 =>
 (aj r13.1 1).bind fun v15 =>
 (dn 4 v0 v14 r13.2).bind fun H16 =>
 (aD 4 v0 H16).bind fun v17 => some (Value.tuple #[v17, v15], H16))) = some r) : FF kg [x0, x1] H = some r :=
 fo Tryz.func280 (by kernel_rfl) h
theorem xI (x0 x1 : Value) (H : AH) {r : Value × AH} (h : (
 aV [(vi 0), (.slice none 0 0), (vi 0), (vw 0)] H fun v0 H1 =>
 ad [.n, .f 11] x0 fun v2 =>
 (aq v2 H1).bind fun v3 =>
 ad [.n, .f 12] x0 fun v4 =>
 (aq v4 H1).bind fun v5 =>
 ld [.n, .f 11] x0 H1 fun v6 =>
 ld [.n, .f 1] x0 H1 fun v7 =>
 (FF fE [v6, v7] H1).bind fun r8 =>
 bD (aq v2 r8.2) (aq v2 H1) <|
 bD (aq v4 r8.2) (aq v4 H1) <|
 (FF fD [v3, v5, r8.1] r8.2).bind fun r9 =>
 (ot .not r9.1).bind fun v10 =>
 ax v10
 ((FF bk [x0, (.func (.func bN) #[x0] #[])] r9.2).bind fun r11 =>
 (aj r11.1 0).bind fun v12 =>
 (aj r11.1 1).bind fun v13 =>
 (dn 4 v0 v12 r11.2).bind fun H14 =>
 (aD 4 v0 H14).bind fun v15 => some (Value.tuple #[v15, v13], H14))
 (st 1 [.n, .f 14] x0 x1 r9.2 fun H16 =>
 (FF bk [x0, (.func (.func eG) #[x0] #[])] H16).bind fun r17 =>
 (aj r17.1 0).bind fun v18 =>
 (aj r17.1 1).bind fun v19 =>
 (dn 4 v0 v18 r17.2).bind fun H20 =>
 (aD 4 v0 H20).bind fun v21 => some (Value.tuple #[v21, v19], H20))) = some r) : FF dT [x0, x1] H = some r :=
 fo Tryz.func287 (by kernel_rfl) h
theorem SH (x0 : Value) (H : AH) {r : Value × AH} (h : (
 ad [.n, .f 11] x0 fun v0 =>
 (aq v0 H).bind fun v1 =>
 ad [.n, .f 1] x0 fun v2 =>
 (aq v2 H).bind fun v3 =>
 ld [.n, .f 12] x0 H fun v4 =>
 (FF cF [v4] H).bind fun r5 =>
 bD (aq v0 r5.2) (aq v0 H) <|
 bD (aq v2 r5.2) (aq v2 H) <|
 ad [.n, .f 2, .f 1] x0 fun v6 =>
 (aq v6 r5.2).bind fun v7 =>
 bD (aq v6 H) (aq v6 r5.2) <|
 ad [.n, .f 2, .f 2] x0 fun v8 =>
 (aq v8 r5.2).bind fun v9 =>
 bD (aq v8 H) (aq v8 r5.2) <|
 ad [.n, .f 2, .f 3] x0 fun v10 =>
 (aq v10 r5.2).bind fun v11 =>
 bD (aq v10 H) (aq v10 r5.2) <|
 g6 [(0, 1), (1, 1), (2, 1)] [(vi 0), (vi 0), (vi 0)] [(0, v7), (1, v9), (2, v11)] fun v12 =>
 (FF jP [v1, v3, r5.1, v12] r5.2).bind fun r13 =>
 some (Value.tuple #[], r13.2)) = some r) : FF t6 [x0] H = some r :=
 fo Tryz.func289 (by kernel_rfl) h
theorem Lr (x0 x1 : Value) (H : AH) {r : Value × AH} (h : (
 aV [(vi 0), (.slice none 0 0), (vi 0), (vw 0)] H fun v0 H1 =>
 ad [.n, .f 11] x0 fun v2 =>
 (aq v2 H1).bind fun v3 =>
 ad [.n, .f 1] x0 fun v4 =>
 (aq v4 H1).bind fun v5 =>
 ld [.n, .f 12] x0 H1 fun v6 =>
 (FF cF [v6] H1).bind fun r7 =>
 bD (aq v2 r7.2) (aq v2 H1) <|
 bD (aq v4 r7.2) (aq v4 H1) <|
 (FF fF [v3, v5, r7.1] r7.2).bind fun r8 =>
 (FF j7 [x0, (vi 0)] r8.2).bind fun r9 =>
 (aj r9.1 0).bind fun v10 =>
 (aj r9.1 1).bind fun v11 =>
 (dn 4 v0 v10 r9.2).bind fun H12 =>
 (aD 4 v0 H12).bind fun v13 => some (Value.tuple #[v13, v11], H12)) = some r) : FF kf [x0, x1] H = some r :=
 fo Tryz.func290 (by kernel_rfl) h
theorem Lh (x0 x1 : Value) (H : AH) {r : Value × AH} (h : (
 aV [(vi 0), (.slice none 0 0), (vi 0), (vw 0)] H fun v0 H1 =>
 ld [.n, .f 0] x0 H1 fun v2 =>
 ld [.n, .f 1] v2 H1 fun v3 =>
 ld [.n, .f 1] x0 H1 fun v4 =>
 (FF eO [v3, v4] H1).bind fun r5 =>
 (FF bk [x0, (.func (.func bN) #[x0] #[])] r5.2).bind fun r6 =>
 (aj r6.1 0).bind fun v7 =>
 (aj r6.1 1).bind fun v8 =>
 (dn 4 v0 v7 r6.2).bind fun H9 =>
 (aD 4 v0 H9).bind fun v10 => some (Value.tuple #[v10, v8], H9)) = some r) : FF j5 [x0, x1] H = some r :=
 fo Tryz.func291 (by kernel_rfl) h
theorem Li (x0 x1 : Value) (H : AH) {r : Value × AH} (h : (
 aV [(vi 0), (.slice none 0 0), (vi 0), (vw 0)] H fun v0 H1 =>
 (FF t6 [x0] H1).bind fun r2 =>
 (FF bk [x0, (.func (.func iZ) #[x0] #[])] r2.2).bind fun r3 =>
 (aj r3.1 0).bind fun v4 =>
 (aj r3.1 1).bind fun v5 =>
 (dn 4 v0 v4 r3.2).bind fun H6 =>
 (aD 4 v0 H6).bind fun v7 => some (Value.tuple #[v7, v5], H6)) = some r) : FF j6 [x0, x1] H = some r :=
 fo Tryz.func292 (by kernel_rfl) h
theorem zR (x0 x1 : Value) (H : AH) {r : Value × AH} (h : (
 aV [(vi 0), (.slice none 0 0), (vi 0), (vw 0)] H fun v0 H1 =>
 ld [.n, .f 0] x0 H1 fun v2 =>
 ld [.n, .f 1] x0 H1 fun v3 =>
 (FF eR [v2, v3] H1).bind fun r4 =>
 ad [.n, .f 13] x0 fun v5 =>
 (aq v5 r4.2).bind fun v6 =>
 bD (aq v5 H1) (aq v5 r4.2) <|
 (ai .other .neq r4.1 v6).bind fun v7 =>
 ax v7
 ((FF bk [x0, (.func (.func bN) #[x0] #[])] r4.2).bind fun r8 =>
 (aj r8.1 0).bind fun v9 =>
 (aj r8.1 1).bind fun v10 =>
 (dn 4 v0 v9 r8.2).bind fun H11 =>
 (aD 4 v0 H11).bind fun v12 => some (Value.tuple #[v12, v10], H11))
 (ld [.n, .f 14] x0 r4.2 fun v13 =>
 (FF gW [x0, v13, (vi 9)] r4.2).bind fun r14 =>
 (aj r14.1 0).bind fun v15 =>
 (aj r14.1 1).bind fun v16 =>
 (dn 4 v0 v15 r14.2).bind fun H17 =>
 (aD 4 v0 H17).bind fun v18 => some (Value.tuple #[v18, v16], H17))) = some r) : FF eG [x0, x1] H = some r :=
 fo Tryz.func293 (by kernel_rfl) h
theorem wn (x0 x1 x2 x3 : Value) (H : AH) {r : Value × AH} (h : (
 aV (Value.cells x3).toList H fun v0 H1 =>
 ad [.n, .f 0] x0 fun v2 =>
 (aq v2 H1).bind fun v3 =>
 (FF cB [x0, x2] H1).bind fun r4 =>
 bD (aq v2 r4.2) (aq v2 H1) <|
 (FF cL [x0, (vi 16), r4.1] r4.2).bind fun r5 =>
 bD (aq v2 r5.2) (aq v2 H1) <|
 (FF eE [v3, x1, r5.1] r5.2).bind fun r6 =>
 ad [.n, .f 2] x0 fun v7 =>
 (aq v7 r6.2).bind fun v8 =>
 (FF cB [x0, x2] r6.2).bind fun r9 =>
 bD (aq v7 r9.2) (aq v7 r6.2) <|
 (aD 3 v0 r9.2).bind fun v10 =>
 bD (aD 3 v0 r6.2) (aD 3 v0 r9.2) <|
 st 3 [.i 3 r9.1] v8 v10 r9.2 fun H11 =>
 some (Value.tuple #[], H11)) = some r) : FF jP [x0, x1, x2, x3] H = some r :=
 fo Tryz.func294 (by kernel_rfl) h
theorem uG (x0 x1 x2 : Value) (H : AH) {r : Value × AH} (h : (
 ad [.n, .f 0] x0 fun v0 =>
 (aq v0 H).bind fun v1 =>
 (FF cB [x0, x2] H).bind fun r2 =>
 bD (aq v0 r2.2) (aq v0 H) <|
 (FF cL [x0, (vi 15), r2.1] r2.2).bind fun r3 =>
 bD (aq v0 r3.2) (aq v0 H) <|
 (ai .other .add x2 (vw 1)).bind fun v4 =>
 (FF cq [v1, x1, r3.1, v4] r3.2).bind fun r5 =>
 some (Value.tuple #[], r5.2)) = some r) : FF fF [x0, x1, x2] H = some r :=
 fo Tryz.func295 (by kernel_rfl) h
theorem rX (x0 x1 : Value) (H : AH) {r : Value × AH} (h : (
 ad [.n, .f 0] x0 fun v0 =>
 (aq v0 H).bind fun v1 =>
 (FF bf [(vi 3), (vi 0)] H).bind fun r2 =>
 bD (aq v0 r2.2) (aq v0 H) <|
 (FF eH [v1, x1, r2.1, (vw 1)] r2.2).bind fun r3 =>
 some (Value.tuple #[], r3.2)) = some r) : FF eO [x0, x1] H = some r :=
 fo Tryz.func296 (by kernel_rfl) h
theorem Im (x0 x1 : Value) (H : AH) {r : Value × AH} (h : (
 aV [(vi 0), (.slice none 0 0), (vi 0), (vw 0)] H fun v0 H1 =>
 ad [.n, .f 11] x0 fun v2 =>
 (aq v2 H1).bind fun v3 =>
 ad [.n, .f 1] x0 fun v4 =>
 (aq v4 H1).bind fun v5 =>
 ld [.n, .f 12] x0 H1 fun v6 =>
 (FF cF [v6] H1).bind fun r7 =>
 bD (aq v2 r7.2) (aq v2 H1) <|
 bD (aq v4 r7.2) (aq v4 H1) <|
 (FF fF [v3, v5, r7.1] r7.2).bind fun r8 =>
 (FF bk [x0, (.func (.func cW) #[x0] #[])] r8.2).bind fun r9 =>
 (aj r9.1 0).bind fun v10 =>
 (aj r9.1 1).bind fun v11 =>
 (dn 4 v0 v10 r9.2).bind fun H12 =>
 (aD 4 v0 H12).bind fun v13 => some (Value.tuple #[v13, v11], H12)) = some r) : FF iZ [x0, x1] H = some r :=
 fo Tryz.func297 (by kernel_rfl) h
theorem lN (x0 x1 : Value) (H : AH) {r : Value × AH} (h : (
 ld [.n, .f 2] x0 H fun v0 =>
 dG v0 fun v1 =>
 (bJ (some .u64) v1).bind fun v2 =>
 (ai .other .rem x1 v2).bind fun v3 =>
 (bJ (some .i64) v3).bind fun v4 =>
 some (v4, H)) = some r) : FF cB [x0, x1] H = some r :=
 fo Tryz.func298 (by kernel_rfl) h
theorem CS (x0 x1 : Value) (H : AH) {r : Value × AH} (h : (
 aV [(vi 0), (.slice none 0 0), (vi 0), (vw 0)] H fun v0 H1 =>
 ld [.n, .f 0] x0 H1 fun v2 =>
 ld [.n, .f 1] v2 H1 fun v3 =>
 ld [.n, .f 1] x0 H1 fun v4 =>
 ld [.n, .f 6] x0 H1 fun v5 =>
 (FF ig [v3, v4, v5] H1).bind fun r6 =>
 st 1 [.n, .f 15] x0 r6.1 r6.2 fun H7 =>
 (FF bk [x0, (.func (.func j9) #[x0] #[])] H7).bind fun r8 =>
 (aj r8.1 0).bind fun v9 =>
 (aj r8.1 1).bind fun v10 =>
 (dn 4 v0 v9 r8.2).bind fun H11 =>
 (aD 4 v0 H11).bind fun v12 => some (Value.tuple #[v12, v10], H11)) = some r) : FF cW [x0, x1] H = some r :=
 fo Tryz.func299 (by kernel_rfl) h
theorem rY (x0 x1 x2 : Value) (H : AH) {r : Value × AH} (h : (
 ad [.n, .f 0] x0 fun v0 =>
 (aq v0 H).bind fun v1 =>
 ld [.n, .f 3] x0 H fun v2 =>
 (bM v2 [x2]).bind fun c => (FF c.1 c.2 H).bind fun r3 =>
 bD (aq v0 r3.2) (aq v0 H) <|
 (FF cJ [v1, x1, r3.1] r3.2).bind fun r4 =>
 some (r4.1, r4.2)) = some r) : FF ig [x0, x1, x2] H = some r :=
 fo Tryz.func300 (by kernel_rfl) h
theorem Ll (x0 x1 : Value) (H : AH) {r : Value × AH} (h : (
 aV [(vi 0), (.slice none 0 0), (vi 0), (vw 0)] H fun v0 H1 =>
 ld [.n, .f 0] x0 H1 fun v2 =>
 ld [.n, .f 1] v2 H1 fun v3 =>
 ld [.n, .f 1] x0 H1 fun v4 =>
 ld [.n, .f 9] x0 H1 fun v5 =>
 ld [.n, .f 15] x0 H1 fun v6 =>
 (FF gC [v3, v4, v5, v6] H1).bind fun r7 =>
 (FF bk [x0, (.func (.func kc) #[x0] #[])] r7.2).bind fun r8 =>
 (aj r8.1 0).bind fun v9 =>
 (aj r8.1 1).bind fun v10 =>
 (dn 4 v0 v9 r8.2).bind fun H11 =>
 (aD 4 v0 H11).bind fun v12 => some (Value.tuple #[v12, v10], H11)) = some r) : FF j9 [x0, x1] H = some r :=
 fo Tryz.func301 (by kernel_rfl) h
theorem qQ (x0 x1 x2 x3 : Value) (H : AH) {r : Value × AH} (h : (
 ad [.n, .f 0] x0 fun v0 =>
 (aq v0 H).bind fun v1 =>
 ld [.n, .f 4] x0 H fun v2 =>
 (bM v2 [x2]).bind fun c => (FF c.1 c.2 H).bind fun r3 =>
 bD (aq v0 r3.2) (aq v0 H) <|
 (FF eE [v1, x1, r3.1] r3.2).bind fun r4 =>
 ld [.n, .f 2] x0 r4.2 fun v5 =>
 (dD .int v5 x2 x3 r4.2).bind fun H6 =>
 some (Value.tuple #[], H6)) = some r) : FF gC [x0, x1, x2, x3] H = some r :=
 fo Tryz.func302 (by kernel_rfl) h
theorem Lp (x0 x1 : Value) (H : AH) {r : Value × AH} (h : (
 aV [(vi 0), (.slice none 0 0), (vi 0), (vw 0)] H fun v0 H1 =>
 ld [.n, .f 0] x0 H1 fun v2 =>
 ld [.n, .f 1] v2 H1 fun v3 =>
 ld [.n, .f 1] x0 H1 fun v4 =>
 ld [.n, .f 6] x0 H1 fun v5 =>
 ld [.n, .f 15] x0 H1 fun v6 =>
 ld [.n, .f 9] x0 H1 fun v7 =>
 (FF gD [v3, v4, v5, v6, v7] H1).bind fun r8 =>
 (ot .not r8.1).bind fun v9 =>
 ax v9
 ((FF bk [x0, (.func (.func cW) #[x0] #[])] r8.2).bind fun r10 =>
 (aj r10.1 0).bind fun v11 =>
 (aj r10.1 1).bind fun v12 =>
 (dn 4 v0 v11 r10.2).bind fun H13 =>
 (aD 4 v0 H13).bind fun v14 => some (Value.tuple #[v14, v12], H13))
 ((FF bk [x0, (.func (.func mU) #[x0] #[])] r8.2).bind fun r15 =>
 (aj r15.1 0).bind fun v16 =>
 (aj r15.1 1).bind fun v17 =>
 (dn 4 v0 v16 r15.2).bind fun H18 =>
 (aD 4 v0 H18).bind fun v19 => some (Value.tuple #[v19, v17], H18))) = some r) : FF kc [x0, x1] H = some r :=
 fo Tryz.func303 (by kernel_rfl) h
theorem qR (x0 x1 x2 x3 x4 : Value) (H : AH) {r : Value × AH} (h : (
 ad [.n, .f 0] x0 fun v0 =>
 (aq v0 H).bind fun v1 =>
 ld [.n, .f 3] x0 H fun v2 =>
 (bM v2 [x2]).bind fun c => (FF c.1 c.2 H).bind fun r3 =>
 bD (aq v0 r3.2) (aq v0 H) <|
 (bJ (some .u64) x4).bind fun v4 =>
 (ai .other .add v4 (vw 1)).bind fun v5 =>
 (FF dW [v1, x1, r3.1, x3, v5] r3.2).bind fun r6 =>
 some (r6.1, r6.2)) = some r) : FF gD [x0, x1, x2, x3, x4] H = some r :=
 fo Tryz.func304 (by kernel_rfl) h
theorem SF (x0 x1 : Value) (H : AH) {r : Value × AH} (h : (
 aV [(vi 0), (.slice none 0 0), (vi 0), (vw 0)] H fun v0 H1 =>
 ld [.n, .f 0] x0 H1 fun v2 =>
 ld [.n, .f 1] v2 H1 fun v3 =>
 ld [.n, .f 1] x0 H1 fun v4 =>
 (FF eO [v3, v4] H1).bind fun r5 =>
 (FF j7 [x0, (vi 0)] r5.2).bind fun r6 =>
 (aj r6.1 0).bind fun v7 =>
 (aj r6.1 1).bind fun v8 =>
 (dn 4 v0 v7 r6.2).bind fun H9 =>
 (aD 4 v0 H9).bind fun v10 => some (Value.tuple #[v10, v8], H9)) = some r) : FF mU [x0, x1] H = some r :=
 fo Tryz.func305 (by kernel_rfl) h
theorem KE {o : Nat} {x : Value} {k : Value → OV} {Q : Value → AH → Prop} (h : wp (k undef) Q) : wp (A7 (vb false) true [.n, .f o] x k) Q := h
theorem uV {p : List Stp} {x : Value} {k : Value → OV} {Q : Value → AH → Prop} (h : wp (ad p x k) Q) : wp (A7 (vb true) true p x k) Q := by rw [Gr]; exact h
section
variable {m i rp : Nat} {cs : List Pk} {R : SP} {H : AH}
theorem bP (h : ae (bU m i rp cs * R) H) : ∃ cv, ae (blk rp (.cells false [vp m, vi i, cv]) * (ts 3 Pk.cells cv cs * R)) H := by
 obtain ⟨cv, h1⟩ := ae.ex.1 h
 exact ⟨cv, h1.to⟩
theorem xp {cv : Value} (h : ae (blk rp (.cells false [vp m, vi i, cv]) * (ts 3 Pk.cells cv cs * R)) H) : ae (bU m i rp cs * R) H :=
 ae.ex.2 ⟨cv, h.to⟩
theorem di (h : ae (ca m i rp cs * R) H) : ∃ cv, ae (blk rp (.cells false [vp m, vi i, vi cs.length, cv]) * (ts 3 Pk.cells cv cs * R)) H := by
 obtain ⟨cv, h1⟩ := ae.ex.1 h
 exact ⟨cv, h1.to⟩
theorem gY {cv : Value} (h : ae (blk rp (.cells false [vp m, vi i, vi cs.length, cv]) * (ts 3 Pk.cells cv cs * R)) H) : ae (ca m i rp cs * R) H :=
 ae.ex.2 ⟨cv, h.to⟩
end
section
variable (m i rp : Nat) (cs : List Pk) (μ : Mu)
theorem qN (kind cell : Int) : Sp cL [vp rp, vi kind, vi cell] (bU m i rp cs) (fun _ : Unit => dw (kind, (i : Int), cell)) (fun _ => bU m i rp cs) := by
 refine av fun R H h => ?_
 obtain ⟨cv, h0⟩ := bP h
 refine aw (fun r => yC _ _ _ H) ?_
 refine aO h0 fun b H1 h1 => ?_
 refine am h1 ac rfl ?_
 refine dO ?_
 refine bX h1 rfl rfl fun H2 h2 => ?_
 refine aL h2 ?_
 exact ap ⟨(), rfl, xp (cv := cv) h2.to⟩
theorem Em (who : Int) (hE : μ.N < 1099511627000) : Sp fG [vp rp, vi who] (bU m i rp cs * bd m μ) (fun _ : Unit => vu (μ.V (11, (i : Int), 0))) (fun _ => bU m i rp cs * bd m (μ.acc who 1 (11, (i : Int), 0))) := by
 refine av fun R H h => ?_
 obtain ⟨cv, h0⟩ := bP (m := m) (i := i) (rp := rp) (cs := cs) (R := bd m μ * R) (H := H) h.to
 refine aw (fun r => uI _ _ H) ?_
 refine aI ac ?_
 refine aE h0 rfl ?_
 refine af h (qN m i rp cs 11 0) fun _ H1 h1 => ?_
 obtain ⟨cv1, k1⟩ := bP h1
 refine aA k1 h0 (by rfl) ?_
 refine af h1 (BE m μ who (11, (i : Int), 0) (by omega)) fun _ H2 h2 => ?_
 exact ap ⟨(), rfl, h2.to⟩
theorem Ek (who : Int) (hE : μ.N < 1099511627000) : Sp fE [vp rp, vi who] (bU m i rp cs * bd m μ) (fun _ : Unit => vu (μ.V (12, (i : Int), 0))) (fun _ => bU m i rp cs * bd m (μ.acc who 1 (12, (i : Int), 0))) := by
 refine av fun R H h => ?_
 obtain ⟨cv, h0⟩ := bP (m := m) (i := i) (rp := rp) (cs := cs) (R := bd m μ * R) (H := H) h.to
 refine aw (fun r => uE _ _ H) ?_
 refine aI ac ?_
 refine aE h0 rfl ?_
 refine af h (qN m i rp cs 12 0) fun _ H1 h1 => ?_
 obtain ⟨cv1, k1⟩ := bP h1
 refine aA k1 h0 (by rfl) ?_
 refine af h1 (BE m μ who (12, (i : Int), 0) (by omega)) fun _ H2 h2 => ?_
 exact ap ⟨(), rfl, h2.to⟩
theorem Vh (who : Int) (n : Nat) (hn : n < 18446744073709551615) (hE : μ.N < 1099511627000) : Sp i9 [vp rp, vi who, vu n] (bU m i rp cs * bd m μ) (fun _ : Unit => .tuple #[]) (fun _ => bU m i rp cs * bd m ((μ.acc who 2 (12, (i : Int), 0)).put (12, (i : Int), 0) (n + 1))) := by
 refine av fun R H h => ?_
 obtain ⟨cv, h0⟩ := bP (m := m) (i := i) (rp := rp) (cs := cs) (R := bd m μ * R) (H := H) h.to
 refine aw (fun r => uC _ _ _ H) ?_
 refine aI ac ?_
 refine aE h0 rfl ?_
 refine af h (qN m i rp cs 12 0) fun _ H1 h1 => ?_
 obtain ⟨cv1, k1⟩ := bP h1
 refine aA k1 h0 (by rfl) ?_
 refine aa (dt (b := 1) (by omega)) ?_
 refine af h1 (ud m μ who (12, (i : Int), 0) (n + 1) (by omega)) fun _ H2 h2 => ?_
 exact ap ⟨(), rfl, h2.to⟩
def lr (w h k : Nat) : Bool := decide (h ≤ aR w ∧ k ≤ aR w - h)
theorem Ej (w h : Nat) (hw : w < 18446744073709551616) (hc : cs.length < 1000) : Sp fD [vp rp, vu w, vu h] (bU m i rp cs) (fun _ : Unit => vb (lr w h cs.length)) (fun _ => bU m i rp cs) := by
 refine av fun R H hh => ?_
 have hl := dc w
 refine aw (fun r => uD _ _ _ H) ?_
 refine af hh (ft w hw) fun _ H1 h1 => ?_
 by_cases hle : h ≤ aR w
 ·refine aa (wU (by omega)) ?_
  with_reducible repeat refine gg ?_
  refine aa (Dm hle (by omega)) ?_
  obtain ⟨cv, h2⟩ := bP (m := m) (i := i) (rp := rp) (cs := cs) (R := R) (H := H1) h1.to
  with_reducible repeat refine gg ?_
  refine am h2 ac rfl ?_
  with_reducible repeat refine gg ?_
  refine gu (s := cv) (l := cs) h2 ?_
  with_reducible repeat refine gg ?_
  refine aa (dk (by omega) (by omega)) ?_
  rw [show ((cs.length : Nat) : Int).toNat = cs.length from Int.toNat_natCast _]
  with_reducible repeat refine gg ?_
  by_cases hk : cs.length ≤ aR w - h
  ·refine aa (wU (by omega)) ?_
   with_reducible repeat refine gg ?_
   exact ap ⟨(), by rw [lr, decide_eq_true ⟨hle, hk⟩], h1.to⟩
  ·refine aa (ol (by omega)) ?_
   with_reducible repeat refine gg ?_
   exact ap ⟨(), by rw [lr, decide_eq_false (fun q => hk q.2)], h1.to⟩
 ·refine aa (ol (by omega)) ?_
  with_reducible repeat refine gg ?_
  exact ap ⟨(), by rw [lr, decide_eq_false (fun q => hle q.1)], h1.to⟩
abbrev Mu.turn (μ : Mu) (who : Int) (i w : Nat) (o : Option Nat) : Mu := match o with
 | none => μ
 | some n => μ.swp who (11, (i : Int), 0) w n
def eJ (μ : Mu) (i w : Nat) (o : Option Nat) : Bool := o.isSome && decide (μ.V (11, (i : Int), 0) = w)
theorem wo (who : Int) (w fn : Nat) (o : Option Nat) (hf : Sp fn [vu w] emp (fun _ : Unit => BC o) (fun _ => emp)) (hE : μ.N < 1099511627000) :
 Sp dZ [vp rp, vi who, vu w, .func (.func fn) #[] #[]] (bU m i rp cs * bd m μ) (fun _ : Unit => vb (eJ μ i w o)) (fun _ => bU m i rp cs * bd m (μ.turn who i w o)) := by
 refine av fun R H h => ?_
 refine aw (fun r => uJ _ _ _ _ H) ?_
 refine ag (show (bM (.func (.func fn) #[] #[]) [vu w]).bind _ = _ from rfl) ?_
 refine af h hf fun _ H1 h1 => ?_
 cases o with
 | none =>
  refine aa (v := vw 0) rfl ?_
  refine aa (v := vb false) rfl ?_
  with_reducible repeat refine gg ?_
  refine KE ?_
  with_reducible repeat refine gg ?_
  refine rO rfl ?_
  with_reducible repeat refine gg ?_
  exact ap ⟨(), rfl, h1.to⟩
 | some n =>
  refine aa (v := vu n) rfl ?_
  refine aa (v := vb true) rfl ?_
  with_reducible repeat refine gg ?_
  refine uV ?_
  obtain ⟨cv, k1⟩ := bP (m := m) (i := i) (rp := rp) (cs := cs) (R := bd m μ * R) (H := H1) h1.to
  refine aI ac ?_
  with_reducible repeat refine gg ?_
  refine aE k1 rfl ?_
  with_reducible repeat refine gg ?_
  refine af h1 (qN m i rp cs 11 0) fun _ H2 h2 => ?_
  obtain ⟨cv2, k2⟩ := bP (m := m) (i := i) (rp := rp) (cs := cs) (R := bd m μ * R) (H := H2) h2.to
  refine aA k2 k1 (by rfl) ?_
  with_reducible repeat refine gg ?_
  refine af h2 (Np m μ who (11, (i : Int), 0) w n (by omega)) fun _ H3 h3 => ?_
  with_reducible repeat refine gg ?_
  exact ap ⟨(), rfl, h3.to⟩
theorem B4 (who : Int) (w : Nat) (hw : w < 18446744073709551616) (hE : μ.N < 1099511627000) : Sp eW [vp rp, vi who, vu w] (bU m i rp cs * bd m μ) (fun _ : Unit => vb (eJ μ i w (aZ w 0))) (fun _ => bU m i rp cs * bd m (μ.turn who i w (aZ w 0))) := by
 refine av fun R H h => ?_
 refine aw (fun r => sO _ _ _ H) ?_
 refine af h (wo m i rp cs μ who w lE (aZ w 0) (V8 w hw) hE) fun _ H1 h1 => ?_
 exact ap ⟨(), rfl, h1.to⟩
theorem Vi (who : Int) (w : Nat) (hw : w < 18446744073709551616) (hE : μ.N < 1099511627000) : Sp ja [vp rp, vi who, vu w] (bU m i rp cs * bd m μ) (fun _ : Unit => vb (eJ μ i w (aZ w 1))) (fun _ => bU m i rp cs * bd m (μ.turn who i w (aZ w 1))) := by
 refine av fun R H h => ?_
 refine aw (fun r => uF _ _ _ H) ?_
 refine af h (wo m i rp cs μ who w lF (aZ w 1) (V9 w hw) hE) fun _ H1 h1 => ?_
 exact ap ⟨(), rfl, h1.to⟩
theorem Vj (who : Int) (w : Nat) (hw : w < 18446744073709551616) (hE : μ.N < 1099511627000) : Sp jb [vp rp, vi who, vu w] (bU m i rp cs * bd m μ) (fun _ : Unit => vb (eJ μ i w (aZ w 2))) (fun _ => bU m i rp cs * bd m (μ.turn who i w (aZ w 2))) := by
 refine av fun R H h => ?_
 refine aw (fun r => uH _ _ _ H) ?_
 refine af h (wo m i rp cs μ who w lG (aZ w 2) (Wa w hw) hE) fun _ H1 h1 => ?_
 exact ap ⟨(), rfl, h1.to⟩
end
section
variable (m i rp : Nat) (cs : List Pk) (μ : Mu)
theorem OR (who : Int) (hE : μ.N < 1099511627000) : Sp jN [vp rp, vi who] (ca m i rp cs * bi m μ) (fun _ : Unit => vu (μ.V (11, (i : Int), 0))) (fun _ => ca m i rp cs * bi m (μ.acc who 1 (11, (i : Int), 0))) := by
 refine av fun R H h => ?_
 obtain ⟨cv, h0⟩ := di (m := m) (i := i) (rp := rp) (cs := cs) (R := bi m μ * R) (H := H) h.to
 refine aw (fun r => wg _ _ H) ?_
 refine aI ac ?_
 refine aE h0 rfl ?_
 refine am h0 ac rfl ?_
 refine af h0 (cw 11 (i : Int) 0) fun _ H1 h1 => ?_
 refine aA h1 h0 (by rfl) ?_
 refine af h1 (pO m μ who (11, (i : Int), 0) (by omega)) fun _ H2 h2 => ?_
 exact ap ⟨(), rfl, (gY (m := m) (i := i) (rp := rp) (cs := cs) (cv := cv) (R := bi m (μ.acc who 1 (11, (i : Int), 0)) * R) h2.to).to⟩
theorem CG (who : Int) (hE : μ.N < 1099511627000) : Sp gl [vp rp, vi who] (ca m i rp cs * bi m μ) (fun _ : Unit => vu (μ.V (12, (i : Int), 0))) (fun _ => ca m i rp cs * bi m (μ.acc who 1 (12, (i : Int), 0))) := by
 refine av fun R H h => ?_
 obtain ⟨cv, h0⟩ := di (m := m) (i := i) (rp := rp) (cs := cs) (R := bi m μ * R) (H := H) h.to
 refine aw (fun r => wa _ _ H) ?_
 refine aI ac ?_
 refine aE h0 rfl ?_
 refine am h0 ac rfl ?_
 refine af h0 (cw 12 (i : Int) 0) fun _ H1 h1 => ?_
 refine aA h1 h0 (by rfl) ?_
 refine af h1 (pO m μ who (12, (i : Int), 0) (by omega)) fun _ H2 h2 => ?_
 exact ap ⟨(), rfl, (gY (m := m) (i := i) (rp := rp) (cs := cs) (cv := cv) (R := bi m (μ.acc who 1 (12, (i : Int), 0)) * R) h2.to).to⟩
theorem OQ (who : Int) (n : Nat) (hn : n < 18446744073709551615) (hE : μ.N < 1099511627000) : Sp jM [vp rp, vi who, vu n] (ca m i rp cs * bi m μ) (fun _ : Unit => .tuple #[]) (fun _ => ca m i rp cs * bi m ((μ.acc who 2 (12, (i : Int), 0)).put (12, (i : Int), 0) (n + 1))) := by
 refine av fun R H h => ?_
 obtain ⟨cv, h0⟩ := di (m := m) (i := i) (rp := rp) (cs := cs) (R := bi m μ * R) (H := H) h.to
 refine aw (fun r => vY _ _ _ H) ?_
 refine aI ac ?_
 refine aE h0 rfl ?_
 refine am h0 ac rfl ?_
 refine af h0 (cw 12 (i : Int) 0) fun _ H1 h1 => ?_
 refine aA h1 h0 (by rfl) ?_
 refine aa (dt (b := 1) (by omega)) ?_
 refine af h1 (na m μ who (12, (i : Int), 0) (n + 1) (by omega)) fun _ H2 h2 => ?_
 exact ap ⟨(), rfl, (gY (m := m) (i := i) (rp := rp) (cs := cs) (cv := cv) (R := bi m ((μ.acc who 2 (12, (i : Int), 0)).put (12, (i : Int), 0) (n + 1)) * R) h2.to).to⟩
theorem CF (w h : Nat) (hw : w < 18446744073709551616) (hc : cs.length < 1000) : Sp gk [vp rp, vu w, vu h] (ca m i rp cs) (fun _ : Unit => vb (lr w h cs.length)) (fun _ => ca m i rp cs) := by
 refine av fun R H hh => ?_
 have hl := dc w
 refine aw (fun r => vZ _ _ _ H) ?_
 refine af hh (mZ w hw) fun _ H1 h1 => ?_
 refine aa (v := vu (aR w)) rfl ?_
 refine aa (v := vi (br w)) rfl ?_
 refine aa (v := vb (cN w)) rfl ?_
 by_cases hle : h ≤ aR w
 ·refine aa (wU (by omega)) ?_
  with_reducible repeat refine gg ?_
  refine aa (Dm hle (by omega)) ?_
  obtain ⟨cv, h2⟩ := di (m := m) (i := i) (rp := rp) (cs := cs) (R := R) (H := H1) h1.to
  with_reducible repeat refine gg ?_
  refine am h2 ac rfl ?_
  with_reducible repeat refine gg ?_
  refine aa (dk (by omega) (by omega)) ?_
  rw [show ((cs.length : Nat) : Int).toNat = cs.length from Int.toNat_natCast _]
  with_reducible repeat refine gg ?_
  by_cases hk : cs.length ≤ aR w - h
  ·refine aa (wU (by omega)) ?_
   with_reducible repeat refine gg ?_
   exact ap ⟨(), by rw [lr, decide_eq_true ⟨hle, hk⟩], h1.to⟩
  ·refine aa (ol (by omega)) ?_
   with_reducible repeat refine gg ?_
   exact ap ⟨(), by rw [lr, decide_eq_false (fun q => hk q.2)], h1.to⟩
 ·refine aa (ol (by omega)) ?_
  with_reducible repeat refine gg ?_
  exact ap ⟨(), by rw [lr, decide_eq_false (fun q => hle q.1)], h1.to⟩
theorem sZ (who : Int) (w how : Nat) (hh : how < 3) (hw : w < 18446744073709551616) (hE : μ.N < 1099511627000) :
 Sp eF [vp rp, vi who, vu w, vi (how : Int)] (ca m i rp cs * bi m μ) (fun _ : Unit => vb (eJ μ i w (aZ w how))) (fun _ => ca m i rp cs * bi m (μ.turn who i w (aZ w how))) := by
 refine av fun R H h => ?_
 refine aw (fun r => wc _ _ _ _ H) ?_
 refine af h (Ny w how hw hh) fun _ H1 h1 => ?_
 generalize aZ w how = o at h1 ⊢
 cases o with
 | none =>
  refine aa (v := vw 0) rfl ?_
  refine aa (v := vb false) rfl ?_
  with_reducible repeat refine gg ?_
  refine KE ?_
  with_reducible repeat refine gg ?_
  refine rO rfl ?_
  with_reducible repeat refine gg ?_
  exact ap ⟨(), rfl, h1.to⟩
 | some n =>
  refine aa (v := vu n) rfl ?_
  refine aa (v := vb true) rfl ?_
  with_reducible repeat refine gg ?_
  refine uV ?_
  obtain ⟨cv, k1⟩ := di (m := m) (i := i) (rp := rp) (cs := cs) (R := bi m μ * R) (H := H1) h1.to
  refine aI ac ?_
  with_reducible repeat refine gg ?_
  refine aE k1 rfl ?_
  with_reducible repeat refine gg ?_
  refine am k1 ac rfl ?_
  with_reducible repeat refine gg ?_
  refine af k1 (cw 11 (i : Int) 0) fun _ H2 k2 => ?_
  refine aA k2 k1 (by rfl) ?_
  with_reducible repeat refine gg ?_
  refine af k2 (BT m μ who (11, (i : Int), 0) w n (by omega)) fun _ H3 k3 => ?_
  with_reducible repeat refine gg ?_
  refine ap ⟨(), rfl, ?_⟩
  have h3 := gY (m := m) (i := i) (rp := rp) (cs := cs) (cv := cv) (R := bi m (μ.swp who (11, (i : Int), 0) w n) * R) (H := H3) k3.to
  exact h3.to
end
section
variable (m i rp : Nat) (cs : List Pk) (μ : Mu)
theorem Ei (n : Nat) (h0 : 1 ≤ cs.length ∧ cs.length < 1000) : Sp cB [vp rp, vu n] (bU m i rp cs) (fun _ : Unit => vi ((n % cs.length : Nat) : Int)) (fun _ => bU m i rp cs) := by
 have hlt : n % cs.length < cs.length := Nat.mod_lt _ (by omega)
 refine av fun R H h => ?_
 obtain ⟨cv, k⟩ := bP h
 refine aw (fun r => lN _ _ H) ?_
 refine am k ac rfl ?_
 refine dH (s := cv) (l := cs) k ?_
 refine aa (dk (by omega) (by omega)) ?_
 rw [show ((cs.length : Nat) : Int).toNat = cs.length from Int.toNat_natCast _]
 refine aa (iP (by omega)) ?_
 refine aa (gc (by omega)) ?_
 exact ap ⟨(), rfl, h⟩
theorem OP (n : Nat) (h0 : 1 ≤ cs.length ∧ cs.length < 1000) : Sp du [vp rp, vu n] (ca m i rp cs) (fun _ : Unit => vi ((n % cs.length : Nat) : Int)) (fun _ => ca m i rp cs) := by
 have hlt : n % cs.length < cs.length := Nat.mod_lt _ (by omega)
 refine av fun R H h => ?_
 obtain ⟨cv, k⟩ := di h
 refine aw (fun r => m8 _ _ H) ?_
 refine am k ac rfl ?_
 refine aa (dk (by omega) (by omega)) ?_
 rw [show ((cs.length : Nat) : Int).toNat = cs.length from Int.toNat_natCast _]
 refine aa (iP (by omega)) ?_
 refine aa (gc (by omega)) ?_
 exact ap ⟨(), rfl, h⟩
theorem El (who : Int) (n : Nat) (hn : n < 18446744073709551615) (h0 : 1 ≤ cs.length ∧ cs.length < 1000) (hE : μ.N < 1099511627000) :
 Sp fF [vp rp, vi who, vu n] (bU m i rp cs * bd m μ) (fun _ : Unit => .tuple #[]) (fun _ => bU m i rp cs * bd m ((μ.acc who 2 (15, (i : Int), ((n % cs.length : Nat) : Int))).put (15, (i : Int), ((n % cs.length : Nat) : Int)) (n + 1))) := by
 refine av fun R H h => ?_
 obtain ⟨cv, k0⟩ := bP (m := m) (i := i) (rp := rp) (cs := cs) (R := bd m μ * R) (H := H) h.to
 refine aw (fun r => uG _ _ _ H) ?_
 refine aI ac ?_
 refine aE k0 rfl ?_
 refine af h (Ei m i rp cs n h0) fun _ H1 h1 => ?_
 obtain ⟨cv1, k1⟩ := bP h1
 refine aA k1 k0 (by rfl) ?_
 refine af h1 (qN m i rp cs 15 ((n % cs.length : Nat) : Int)) fun _ H2 h2 => ?_
 obtain ⟨cv2, k2⟩ := bP h2
 refine aA k2 k0 (by rfl) ?_
 refine aa (dt (b := 1) (by omega)) ?_
 refine af h2 (ud m μ who (15, (i : Int), ((n % cs.length : Nat) : Int)) (n + 1) (by omega)) fun _ H3 h3 => ?_
 exact ap ⟨(), rfl, h3.to⟩
theorem CH (who : Int) (n : Nat) (hn : n < 18446744073709551615) (h0 : 1 ≤ cs.length ∧ cs.length < 1000) (hE : μ.N < 1099511627000) :
 Sp gm [vp rp, vi who, vu n] (ca m i rp cs * bi m μ) (fun _ : Unit => .tuple #[]) (fun _ => ca m i rp cs * bi m ((μ.acc who 2 (15, (i : Int), ((n % cs.length : Nat) : Int))).put (15, (i : Int), ((n % cs.length : Nat) : Int)) (n + 1))) := by
 refine av fun R H h => ?_
 obtain ⟨cv, k0⟩ := di (m := m) (i := i) (rp := rp) (cs := cs) (R := bi m μ * R) (H := H) h.to
 refine aw (fun r => wb _ _ _ H) ?_
 refine aI ac ?_
 refine aE k0 rfl ?_
 refine aI ac ?_
 refine aE k0 rfl ?_
 refine af h (OP m i rp cs n h0) fun _ H1 h1 => ?_
 obtain ⟨cv1, k1⟩ := di h1
 refine aA k1 k0 (by rfl) ?_
 refine aA k1 k0 (by rfl) ?_
 refine af h1 (cw 15 (i : Int) ((n % cs.length : Nat) : Int)) fun _ H2 h2 => ?_
 obtain ⟨cv2, k2⟩ := di (m := m) (i := i) (rp := rp) (cs := cs) (R := bi m μ * R) (H := H2) h2.to
 refine aA k2 k0 (by rfl) ?_
 refine aa (dt (b := 1) (by omega)) ?_
 refine af h2 (na m μ who (15, (i : Int), ((n % cs.length : Nat) : Int)) (n + 1) (by omega)) fun _ H3 h3 => ?_
 exact ap ⟨(), rfl, h3.to⟩
theorem ab1 (who : Int) (n : Nat) (x : Pk) (h0 : 1 ≤ cs.length ∧ cs.length < 1000) (hE : μ.N < 1099511627000) :
 Sp jP [vp rp, vi who, vu n, .agg (Pk.cells x).toArray] (bU m i rp cs * bd m μ) (fun _ : Unit => .tuple #[]) (fun _ => bU m i rp (cs.set (n % cs.length) x) * bd m (μ.acc who 6 (16, (i : Int), ((n % cs.length : Nat) : Int)))) := by
 have hlt : n % cs.length < cs.length := Nat.mod_lt _ (by omega)
 refine av fun R H h => ?_
 refine aw (fun r => wn _ _ _ _ H) ?_
 refine aG h fun b H1 h1 => ?_
 obtain ⟨cv, k1⟩ := bP (m := m) (i := i) (rp := rp) (cs := cs) (R := bd m μ * (blk b (.cells false (Pk.cells x)) * R)) (H := H1) h1.to
 refine aI ac ?_
 refine aE k1 rfl ?_
 refine af h1 (Ei m i rp cs n h0) fun _ H2 h2 => ?_
 obtain ⟨cv2, k2⟩ := bP h2
 refine aA k2 k1 (by rfl) ?_
 refine af h2 (qN m i rp cs 16 ((n % cs.length : Nat) : Int)) fun _ H3 h3 => ?_
 obtain ⟨cv3, k3⟩ := bP h3
 refine aA k3 k1 (by rfl) ?_
 refine af h3 ((vI m μ who (16, (i : Int), ((n % cs.length : Nat) : Int)) (by omega)).imp fun _ R H h => jl (N' := μ.N + 2) (by simp) h) fun _ H4 h4 => ?_
 obtain ⟨cv4, k4⟩ := bP (m := m) (i := i) (rp := rp) (cs := cs) (R := bd m (μ.acc who 6 (16, (i : Int), ((n % cs.length : Nat) : Int))) * (blk b (.cells false (Pk.cells x)) * R)) (H := H4) h4.to
 refine aI ac ?_
 refine aE k4 rfl ?_
 -- a cell is told once more, of the same ring
 have again : ∀ {k : Value × AH → OV} {Q : Value → AH → Prop}, (∀ H5, ae (blk rp (.cells false [vp m, vi i, cv4]) * (ts 3 Pk.cells cv4 cs * (bd m (μ.acc who 6 (16, (i : Int), ((n % cs.length : Nat) : Int))) * (blk b (.cells false (Pk.cells x)) * R)))) H5 → wp (k (vi ((n % cs.length : Nat) : Int), H5)) Q) → wp ((FF cB [vp rp, vu n] H4).bind k) Q := by
  intro k Q hk
  have cell4 : Sp cB [vp rp, vu n] (blk rp (.cells false [vp m, vi i, cv4]) * ts 3 Pk.cells cv4 cs) (fun _ : Unit => vi ((n % cs.length : Nat) : Int)) (fun _ => blk rp (.cells false [vp m, vi i, cv4]) * ts 3 Pk.cells cv4 cs) := by
   refine av fun R H h => ?_
   refine aw (fun r => lN _ _ H) ?_
   refine am h ac rfl ?_
   refine dH (s := cv4) (l := cs) h ?_
   refine aa (dk (by omega) (by omega)) ?_
   rw [show ((cs.length : Nat) : Int).toNat = cs.length from Int.toNat_natCast _]
   refine aa (iP (by omega)) ?_
   refine aa (gc (by omega)) ?_
   exact ap ⟨(), rfl, h⟩
  exact af k4 cell4 fun _ H5 h5 => hk H5 h5.to
 refine again fun H5 k5 => ?_
 refine aA k5 k4 (by rfl) ?_
 refine aL k5 ?_
 refine bg k4 k5 rfl ?_
 refine EO (s := cv4) (l := cs) (i := n % cs.length) x k5 hlt (.inl ⟨rfl, rfl⟩) rfl (by omega) rfl rfl fun H6 k6 => ?_
 refine ap ⟨(), rfl, ?_⟩
 have h6 := xp (m := m) (i := i) (rp := rp) (cs := cs.set (n % cs.length) x) (cv := cv4) (R := bd m (μ.acc who 6 (16, (i : Int), ((n % cs.length : Nat) : Int))) * R) (H := H6) k6.to
 exact h6.to
end
theorem uP (k a : Int) : Sp bf [vi k, vi a] emp (fun _ : Unit => dw (k, a, 0)) (fun _ => emp) := by
 refine av fun R H h => ?_
 refine aw (fun r => vr _ _ H) ?_
 refine aO h fun b H1 h1 => ?_
 refine dO ?_
 refine bX h1 rfl rfl fun H2 h2 => ?_
 refine aL h2 ?_
 exact ap ⟨(), rfl, h2.to⟩
abbrev Mu.cnt (μ : Mu) (who : Int) (at' : cn) (n : Nat) : Mu := (μ.acc who 3 at').put at' ((μ.V at' + n) % 18446744073709551616)
section
variable (ib m nm : Nat) (c : f0) (nx : Int → Option Nat) (μ : Mu) (who : Int)
theorem Jk (hE : μ.N < 1099511627000) : Sp fR [vp ib, vi who] (jY ib m nm c nx * bd m μ) (fun _ : Unit => .tuple #[]) (fun _ => jY ib m nm c nx * bd m (μ.cnt who (3, 0, 0) 4294967296)) := by
 refine av fun R H h => ?_
 refine aw (fun r => pj _ _ H) ?_
 unfold jY at h ⊢
 refine aI ac ?_
 refine aE h rfl ?_
 refine af h (uP 3 0) fun _ H1 h1 => ?_
 refine aA h1 h (by rfl) ?_
 refine af h1 (abF m μ who (3, 0, 0) 4294967296 (by omega)) fun _ H2 h2 => ?_
 exact ap ⟨(), rfl, h2.to⟩
theorem DO (hE : μ.N < 1099511627000) : Sp eO [vp ib, vi who] (jY ib m nm c nx * bd m μ) (fun _ : Unit => .tuple #[]) (fun _ => jY ib m nm c nx * bd m (μ.cnt who (3, 0, 0) 1)) := by
 refine av fun R H h => ?_
 refine aw (fun r => rX _ _ H) ?_
 unfold jY at h ⊢
 refine aI ac ?_
 refine aE h rfl ?_
 refine af h (uP 3 0) fun _ H1 h1 => ?_
 refine aA h1 h (by rfl) ?_
 refine af h1 (abF m μ who (3, 0, 0) 1 (by omega)) fun _ H2 h2 => ?_
 exact ap ⟨(), rfl, h2.to⟩
theorem Um (s : Int) (hE : μ.N < 1099511627000) : Sp ig [vp ib, vi who, vi s] (jY ib m nm c nx * bd m μ) (fun _ : Unit => vu (μ.V (9, s, 0))) (fun _ => jY ib m nm c nx * bd m (μ.acc who 1 (9, s, 0))) := by
 refine av fun R H h => ?_
 refine aw (fun r => rY _ _ _ H) ?_
 unfold jY at h ⊢
 refine aI ac ?_
 refine aE h rfl ?_
 refine am h ac rfl ?_
 refine ag (show (bM (.func (.func bf) #[vi 9] #[]) [vi s]).bind _ = _ from rfl) ?_
 refine af h (uP 9 s) fun _ H1 h1 => ?_
 refine aA h1 h (by rfl) ?_
 refine af h1 (BE m μ who (9, s, 0) (by omega)) fun _ H2 h2 => ?_
 exact ap ⟨(), rfl, h2.to⟩
theorem MV (s : Int) (top obj : Nat) (ho : obj < 4294967296) (hE : μ.N < 1099511627000) : Sp gD [vp ib, vi who, vi s, vu top, vi obj] (jY ib m nm c nx * bd m μ) (fun _ : Unit => vb (decide (μ.V (9, s, 0) = top))) (fun _ => jY ib m nm c nx * bd m (μ.swp who (9, s, 0) top (obj + 1))) := by
 refine av fun R H h => ?_
 refine aw (fun r => qR _ _ _ _ _ H) ?_
 unfold jY at h ⊢
 refine aI ac ?_
 refine aE h rfl ?_
 refine am h ac rfl ?_
 refine ag (show (bM (.func (.func bf) #[vi 9] #[]) [vi s]).bind _ = _ from rfl) ?_
 refine af h (uP 9 s) fun _ H1 h1 => ?_
 refine aA h1 h (by rfl) ?_
 refine aa (dk (by omega) (by omega)) ?_
 rw [show ((obj : Nat) : Int).toNat = obj from Int.toNat_natCast _]
 refine aa (dt (b := 1) (by omega)) ?_
 refine af h1 (Np m μ who (9, s, 0) top (obj + 1) (by omega)) fun _ H2 h2 => ?_
 exact ap ⟨(), rfl, h2.to⟩
theorem MT (obj : Int) (next : Nat) (hE : μ.N < 1099511627000) : Sp gC [vp ib, vi who, vi obj, vu next] (jY ib m nm c nx * bd m μ) (fun _ : Unit => .tuple #[]) (fun _ => jY ib m nm c (fun k => if k = obj then some next else nx k) * bd m (μ.acc who 6 (14, obj, 0))) := by
 refine av fun R H h => ?_
 refine aw (fun r => qQ _ _ _ _ H) ?_
 unfold jY at h ⊢
 refine aI ac ?_
 refine aE h rfl ?_
 refine am h ac rfl ?_
 refine ag (show (bM (.func (.func bf) #[vi 14] #[]) [vi obj]).bind _ = _ from rfl) ?_
 refine af h (uP 14 obj) fun _ H1 h1 => ?_
 refine aA h1 h (by rfl) ?_
 refine af h1 ((vI m μ who (14, obj, 0) (by omega)).imp fun _ R H h => jl (N' := μ.N + 2) (by simp) h) fun _ H2 h2 => ?_
 refine am h2 ac rfl ?_
 refine adK (ek := KP) obj (vu next) h2 fun H3 h3 => ?_
 refine ap ⟨(), rfl, ?_⟩
 have e : (fun k => ((if k = obj then some next else nx k) : Option Nat).map fun n => vu n) = fun x => if x = obj then some (vu next) else (nx x).map fun n => vu n := by
  funext k
  split <;> rfl
 rw [e]
 exact h3.to
end
section
variable (ib m : Nat) (sh : Int) (nx : Int → Option Nat) (L : Nat) (μ : Mu) (who : Int)
theorem HO (hE : μ.N < 1099511627000) : Sp ip [vp ib, vi who] (fw ib m sh nx L * bi m μ) (fun _ : Unit => .tuple #[]) (fun _ => fw ib m sh nx L * bi m (μ.cnt who (3, 0, 0) 4294967296)) := by
 refine av fun R H h => ?_
 obtain ⟨kv, nv, ns, hn, h0⟩ := mL (ib := ib) (m := m) (sh := sh) (nx := nx) (L := L) (R := bi m μ * R) (H := H) h.to
 refine aw (fun r => sA _ _ H) ?_
 refine aI ac ?_
 refine aE h0 rfl ?_
 refine af h0 (cw 3 0 0) fun _ H1 h1 => ?_
 refine aA h1 h0 (by rfl) ?_
 refine af h1 (GY m μ who (3, 0, 0) 4294967296 (by omega)) fun _ H2 h2 => ?_
 have h3 := gz (ib := ib) (m := m) (sh := sh) (nx := nx) (L := L) (kv := kv) (nv := nv) (ns := ns) (R := bi m (μ.cnt who (3, 0, 0) 4294967296) * R) (H := H2) hn h2.to
 exact ap ⟨(), rfl, h3.to⟩
theorem CC (hE : μ.N < 1099511627000) : Sp gi [vp ib, vi who] (fw ib m sh nx L * bi m μ) (fun _ : Unit => .tuple #[]) (fun _ => fw ib m sh nx L * bi m (μ.cnt who (3, 0, 0) 1)) := by
 refine av fun R H h => ?_
 obtain ⟨kv, nv, ns, hn, h0⟩ := mL (ib := ib) (m := m) (sh := sh) (nx := nx) (L := L) (R := bi m μ * R) (H := H) h.to
 refine aw (fun r => vT _ _ H) ?_
 refine aI ac ?_
 refine aE h0 rfl ?_
 refine af h0 (cw 3 0 0) fun _ H1 h1 => ?_
 refine aA h1 h0 (by rfl) ?_
 refine af h1 (GY m μ who (3, 0, 0) 1 (by omega)) fun _ H2 h2 => ?_
 have h3 := gz (ib := ib) (m := m) (sh := sh) (nx := nx) (L := L) (kv := kv) (nv := nv) (ns := ns) (R := bi m (μ.cnt who (3, 0, 0) 1) * R) (H := H2) hn h2.to
 exact ap ⟨(), rfl, h3.to⟩
theorem ON (s : Int) (hE : μ.N < 1099511627000) : Sp jK [vp ib, vi who, vi s] (fw ib m sh nx L * bi m μ) (fun _ : Unit => vu (μ.V (9, s, 0))) (fun _ => fw ib m sh nx L * bi m (μ.acc who 1 (9, s, 0))) := by
 refine av fun R H h => ?_
 obtain ⟨kv, nv, ns, hn, h0⟩ := mL (ib := ib) (m := m) (sh := sh) (nx := nx) (L := L) (R := bi m μ * R) (H := H) h.to
 refine aw (fun r => vU _ _ _ H) ?_
 refine aI ac ?_
 refine aE h0 rfl ?_
 refine af h0 (cw 9 s 0) fun _ H1 h1 => ?_
 refine aA h1 h0 (by rfl) ?_
 refine af h1 (pO m μ who (9, s, 0) (by omega)) fun _ H2 h2 => ?_
 have h3 := gz (ib := ib) (m := m) (sh := sh) (nx := nx) (L := L) (kv := kv) (nv := nv) (ns := ns) (R := bi m (μ.acc who 1 (9, s, 0)) * R) (H := H2) hn h2.to
 exact ap ⟨(), rfl, h3.to⟩
theorem KM (s : Int) (top obj : Nat) (ho : obj < 4294967296) (hE : μ.N < 1099511627000) : Sp i3 [vp ib, vi who, vi s, vu top, vi obj] (fw ib m sh nx L * bi m μ) (fun _ : Unit => vb (decide (μ.V (9, s, 0) = top))) (fun _ => fw ib m sh nx L * bi m (μ.swp who (9, s, 0) top (obj + 1))) := by
 refine av fun R H h => ?_
 obtain ⟨kv, nv, ns, hn, h0⟩ := mL (ib := ib) (m := m) (sh := sh) (nx := nx) (L := L) (R := bi m μ * R) (H := H) h.to
 refine aw (fun r => ut _ _ _ _ _ H) ?_
 refine aI ac ?_
 refine aE h0 rfl ?_
 refine af h0 (cw 9 s 0) fun _ H1 h1 => ?_
 refine aA h1 h0 (by rfl) ?_
 refine aa (dk (by omega) (by omega)) ?_
 rw [show ((obj : Nat) : Int).toNat = obj from Int.toNat_natCast _]
 refine aa (dt (b := 1) (by omega)) ?_
 refine af h1 (BT m μ who (9, s, 0) top (obj + 1) (by omega)) fun _ H2 h2 => ?_
 have h3 := gz (ib := ib) (m := m) (sh := sh) (nx := nx) (L := L) (kv := kv) (nv := nv) (ns := ns) (R := bi m (μ.swp who (9, s, 0) top (obj + 1)) * R) (H := H2) hn h2.to
 exact ap ⟨(), rfl, h3.to⟩
end
theorem R4 (a : Int) {n : Int} (h : 1 ≤ n) : -n < a.tmod n ∧ a.tmod n < n := by
 have e := Int.natAbs_tmod a n
 have : a.natAbs % n.natAbs < n.natAbs := Nat.mod_lt _ (by omega)
 omega
section
variable (t m p e : Nat) (σ : a7)
theorem Kw (sh sl : Nat) (hs : 1 ≤ sh ∧ sh ≤ 4) (flow : Int) : Sp fU [vp t, vi flow] (tab t m sh sl) (fun _ : Unit => vi ((flow.tmod sh + sh).tmod sh)) (fun _ => tab t m sh sl) := by
 refine av fun R H h => ?_
 refine aw (fun r => pU _ _ H) ?_
 unfold tab at h ⊢
 have q := R4 flow (n := sh) (by omega)
 refine am h ac rfl ?_
 refine aa (iD (by omega)) ?_
 refine am h ac rfl ?_
 refine aa (aC (by omega) (by omega)) ?_
 refine am h ac rfl ?_
 refine aa (iD (by omega)) ?_
 exact ap ⟨(), rfl, h⟩
theorem afS (μ : Mu) : Sp f8 [vp m] (bd m μ) (fun _ : Unit => vi μ.E.length) (fun _ => bd m μ) := by
 refine av fun R H h => ?_
 obtain ⟨⟨c, l, al, es, ck⟩, h1⟩ := ae.ex.1 h
 rw [ar, ae.pu] at h1
 obtain ⟨hp, h1⟩ := h1
 dsimp only at h1
 have h2 : ae (blk m (.cells false [.map (some c), l]) * (blk c (.map es ck) * ts 5 Ev.cells l μ.E) * R) H := h1
 refine aw (fun r => Bz _ H) ?_
 refine am h2 ac rfl ?_
 refine n0 (s := l) (l := μ.E) h2 ?_
 exact ap ⟨(), rfl, h⟩
theorem ti (r : Value) (x : Int) : Sp j7 [r, vi x] emp (fun _ : Unit => .tuple #[.agg (nc x).toArray, vb true]) (fun _ => emp) := by
 refine av fun R H h => ?_
 refine aw (fun r => Lj _ _ H) ?_
 refine aO h fun b H1 h1 => ?_
 refine dO ?_
 refine bX h1 rfl rfl fun H2 h2 => ?_
 refine aL h2 ?_
 exact ap ⟨(), rfl, h2.to⟩
def dN (x : Cl) : Option Int := if x.a < 1 ∨ 65536 < x.a then some 3 else if x.flow < 0 ∨ 1048576 < x.flow then some 5 else none
end
structure Tk where
 who : Int
 x : Cl
 s : Int
 at' : Nat
 i : Nat
 obj : Nat
 found : Bool
 w : Nat
 q : Nat
 mark : Int
 top : Nat
 code : Int
abbrev a7.mem (σ : a7) (μ : Mu) : a7 := { σ with μ := μ }
def Gu (v : Nat) (flow : Int) : Bool := decide (v ≠ 0 ∧ ((v / 4294967296 : Nat) : Int) - 1 = flow)
def aM (σ : a7) (t : Tk) : Tk :=
 let v := σ.μ.V (10, t.s, (t.i : Int))
 { t with i := t.i + 1, found := Gu v t.x.flow, obj := if Gu v t.x.flow = true then v % 4294967296 else t.obj }
abbrev cD (σ : a7) (t : Tk) : a7 := σ.mem (σ.μ.acc t.who 1 (10, t.s, (t.i : Int)))
def dI (σ : a7) (t : Tk) : Bool := decide (σ.c.sl ≤ (t.i : Int))
def az (σ : a7) (o : Nat) : List Pk := ((σ.obs[o]?).map (·.2)).getD []
def sc (σ : a7) (t : Tk) : a7 :=
 let n := (az σ t.obj).length
 let k := aR t.w % n
 { σ with μ := σ.μ.acc t.who 6 (16, (t.obj : Int), (k : Int)), obs := σ.obs.modify t.obj fun p => (p.1, p.2.set k ⟨t.x.flow, t.x.a, t.x.b⟩) }
abbrev xu (σ : a7) (t : Tk) : a7 :=
 let n := (az σ t.obj).length
 let k := aR t.w % n
 σ.mem ((σ.μ.acc t.who 2 (15, (t.obj : Int), (k : Int))).put (15, (t.obj : Int), (k : Int)) (aR t.w + 1))
abbrev lS (σ : a7) (t : Tk) : a7 := σ.mem (σ.μ.acc t.who 1 (11, (t.obj : Int), 0))
abbrev ia (σ : a7) (t : Tk) : a7 := σ.mem (σ.μ.acc t.who 1 (12, (t.obj : Int), 0))
def lq (σ : a7) (t : Tk) : Bool := lr t.w (σ.μ.V (12, (t.obj : Int), 0)) (az σ t.obj).length
abbrev oK (σ : a7) (t : Tk) : a7 := σ.mem (σ.μ.acc t.who 1 (2, 0, 0))
def ak (σ : a7) (t : Tk) (now : Int) : a7 × Tk × Bool :=
 let scan (σ : a7) (t : Tk) : a7 × Tk × Bool :=
  let t1 := aM σ t
  (cD σ t, { t1 with at' := if t1.found = true then 6 else if dI σ t1 = true then 3 else 2 }, false)
 match t.at' with
 | 0 => match dN t.x with
  | some e => (σ.note now t.who e, { t with code := e }, true)
  | none => scan σ t
 | 2 => scan σ t
 | 3 => let l : cn := (8, t.s, 0)
  (σ.mem (σ.μ.swp t.who l 0 1), (if σ.μ.V l = 0 then { t with at' := 4, i := 0 } else t), false)
 | 4 => let t1 := aM σ t
  if t1.found = true then (cD σ t, { t1 with at' := 5 }, false)
  else if dI σ t1 = true then ((cD σ t).note now t.who 5, { t1 with at' := 5, code := 5 }, false)
  else (cD σ t, t1, false)
 | 5 => let l : cn := (8, t.s, 0)
  (σ.mem ((σ.μ.acc t.who 2 l).put l 0), { t with at' := 6 }, !t.found)
 | 6 => (σ.mem (σ.μ.acc t.who 5 (13, (t.obj : Int), 0)), { t with at' := 7 }, false)
 | 7 => let w := σ.μ.V (11, (t.obj : Int), 0)
  (lS σ t, { t with w := w, at' := if br w = 2 then 3 else 8 }, false)
 | 8 => (ia σ t, { t with at' := if lq σ t = true then 15 else if br t.w = 1 then 9 else 12 }, false)
 | 9 => let o := aZ t.w 0
  let σ1 := σ.mem (σ.μ.turn t.who t.obj t.w o)
  if eJ σ.μ t.obj t.w o = true then (σ1.note now t.who 0, { t with at' := 10, code := 0 }, false) else (σ1, { t with at' := 7 }, false)
 | 10 => (sc σ t, { t with at' := 11 }, false)
 | 11 => (xu σ t, t, true)
 | 12 => (σ.mem (σ.μ.cnt t.who (3, 0, 0) 4294967296), { t with at' := 13 }, false)
 | 13 => let o := aZ t.w 0
  let σ1 := σ.mem (σ.μ.turn t.who t.obj t.w o)
  if eJ σ.μ t.obj t.w o = true then (σ1.note now t.who 0, { t with at' := 14, code := 0 }, false) else (σ1, { t with at' := 20 }, false)
 | 14 => (sc σ t, { t with at' := 21 }, false)
 | 15 => let q := σ.μ.V (2, 0, 0)
  (oK σ t, { t with q := q, at' := if q % 2 = 1 then 7 else 16 }, false)
 | 16 => let w := σ.μ.V (11, (t.obj : Int), 0)
  (lS σ t, { t with w := w, at' := if br w = 2 then 3 else 17 }, false)
 | 17 => (ia σ t, (if lq σ t = true then { t with at' := 18, mark := now } else { t with at' := 7 }), false)
 | 18 => if σ.μ.V (2, 0, 0) = t.q then ((oK σ t).note t.mark t.who 9, { t with code := 9 }, true) else (oK σ t, { t with at' := 7 }, false)
 | 20 => (σ.mem (σ.μ.cnt t.who (3, 0, 0) 1), { t with at' := 7 }, false)
 | 21 => (xu σ t, { t with at' := 22 }, false)
 | 22 => (σ.mem (σ.μ.acc t.who 1 (9, t.s, 0)), { t with top := σ.μ.V (9, t.s, 0), at' := 23 }, false)
 | 23 => ({ σ with μ := σ.μ.acc t.who 6 (14, (t.obj : Int), 0), nx := fun k => if k = (t.obj : Int) then some t.top else σ.nx k }, { t with at' := 24 }, false)
 | 24 => let l : cn := (9, t.s, 0)
  (σ.mem (σ.μ.swp t.who l t.top (t.obj + 1)), { t with at' := if σ.μ.V l = t.top then 25 else 22 }, false)
 | _ => (σ.mem (σ.μ.cnt t.who (3, 0, 0) 1), t, true)
def bm (p : Nat) (rp : List Nat) (σ : a7) : SP := ex fun g : PIds => pu (g.rp = rp ∧ rp.length = σ.obs.length) * aH p g σ
theorem ee {p : Nat} {rp : List Nat} {σ : a7} {R : SP} {H : AH} (h : ae (bm p rp σ * R) H) : ∃ g : PIds, g.rp = rp ∧ rp.length = σ.obs.length ∧ ae (aH p g σ * R) H := by
 obtain ⟨g, h1⟩ := ae.ex.1 h
 rw [ar, ae.pu] at h1
 exact ⟨g, h1.1.1, h1.1.2, h1.2⟩
theorem bo {p : Nat} {rp : List Nat} {σ : a7} {R : SP} {H : AH} (g : PIds) (h1 : g.rp = rp) (h2 : rp.length = σ.obs.length) (h : ae (aH p g σ * R) H) : ae (bm p rp σ * R) H :=
 ae.ex.2 ⟨g, by rw [ar]; exact ae.pu.2 ⟨⟨h1, h2⟩, h⟩⟩
theorem JK {p : Nat} {σ : a7} {R : SP} {H : AH} (h : ae (eI p σ * R) H) : ∃ rp, ae (bm p rp σ * R) H := by
 obtain ⟨g, hg, h1⟩ := lK h
 exact ⟨g.rp, bo g rfl hg h1⟩
theorem Hc (m : Nat) : ∀ {ps : List (Nat × List Pk)} {i j : Nat} (h : i < ps.length), ∃ R, kW m j ps = bU m (j + i) (ps[i]).1 (ps[i]).2 * R ∧ ∀ q : Nat × List Pk, kW m j (ps.set i q) = bU m (j + i) q.1 q.2 * R := by
 intro ps
 induction ps with
 | nil => intro i j h; simp at h
 | cons p ps ih =>
  intro i j h
  cases i with
  | zero => exact ⟨kW m (j + 1) ps, rfl, fun q => rfl⟩
  | succ i =>
   obtain ⟨R, e1, e2⟩ := ih (i := i) (j := j + 1) (by simpa using h)
   refine ⟨bU m j p.1 p.2 * R, ?_, fun q => ?_⟩
   ·show bU m j p.1 p.2 * kW m (j + 1) ps = _
    rw [e1, bA, show j + 1 + i = j + (i + 1) from by omega]; rfl
   ·show bU m j p.1 p.2 * kW m (j + 1) (ps.set i q) = _
    rw [e2, bA, show j + 1 + i = j + (i + 1) from by omega]
theorem He (m : Nat) : ∀ {ps : List (Nat × List Pk)} {i j : Nat} (h : i < ps.length), ∃ R, iE m j ps = ca m (j + i) (ps[i]).1 (ps[i]).2 * R ∧ ∀ q : Nat × List Pk, iE m j (ps.set i q) = ca m (j + i) q.1 q.2 * R := by
 intro ps
 induction ps with
 | nil => intro i j h; simp at h
 | cons p ps ih =>
  intro i j h
  cases i with
  | zero => exact ⟨iE m (j + 1) ps, rfl, fun q => rfl⟩
  | succ i =>
   obtain ⟨R, e1, e2⟩ := ih (i := i) (j := j + 1) (by simpa using h)
   refine ⟨ca m j p.1 p.2 * R, ?_, fun q => ?_⟩
   ·show ca m j p.1 p.2 * iE m (j + 1) ps = _
    rw [e1, bA, show j + 1 + i = j + (i + 1) from by omega]; rfl
   ·show ca m j p.1 p.2 * iE m (j + 1) (ps.set i q) = _
    rw [e2, bA, show j + 1 + i = j + (i + 1) from by omega]
def atN (ns : List (Int × Nat)) (obj : Int) : Int := match ns.findIdx? fun p => p.1 == obj with
 | some i => i
 | none => -1
theorem HX {ns : List (Int × Nat)} {obj : Int} {i : Nat} (h : ∀ j, j < i → ∀ p, ns[j]? = some p → p.1 ≠ obj) :
 (∀ (hi : i < ns.length), ns[i].1 = obj → atN ns obj = i) ∧ (ns.length ≤ i → atN ns obj = -1) := by
 constructor
 ·intro hi e
  unfold atN
  have : ns.findIdx? (fun p => p.1 == obj) = some i := by
   rw [List.findIdx?_eq_some_iff_getElem]
   refine ⟨hi, by simpa using e, fun j hj => ?_⟩
   have := h j hj ns[j] (by rw [List.getElem?_eq_getElem])
   simpa using this
  rw [this]
 ·intro hi
  unfold atN
  have : ns.findIdx? (fun p => p.1 == obj) = none := by
   rw [List.findIdx?_eq_none_iff]
   intro p hp
   obtain ⟨j, hj, rfl⟩ := List.getElem_of_mem hp
   have := h j (by omega) ns[j] (by rw [List.getElem?_eq_getElem])
   simpa using this
  rw [this]
theorem We (ib m : Nat) (sh : Int) (kv nv : Value) (ns : List (Int × Nat)) (hn : ns.length < 1000000) (obj : Int) :
 Sp kL [vp ib, vi obj] (blk ib (.cells false [vp m, vi sh, kv, nv]) * ts 1 da kv (ns.map (·.1))) (fun _ : Unit => vi (atN ns obj)) (fun _ => blk ib (.cells false [vp m, vi sh, kv, nv]) * ts 1 da kv (ns.map (·.1))) := by
 refine av fun R H h => ?_
 refine aw (fun r => yq _ _ H) ?_
 refine ag (sB _ _ _ H) ?_
 refine ag (sD _ _ _ _ H) ?_
 have loop : ∀ (d i : Nat), i + d = ns.length → (∀ j, j < i → ∀ p, ns[j]? = some p → p.1 ≠ obj) →
  wp (gq (vp ib) (vi obj) (vi 0) (vi i) H) fun v' H' => ∃ x : Unit, v' = vi (atN ns obj) ∧ ae (blk ib (.cells false [vp m, vi sh, kv, nv]) * ts 1 da kv (ns.map (·.1)) * R) H' := by
  intro d
  induction d with
  | zero =>
   intro i hi hj
   refine ag (kT _ _ _ _ H) ?_
   refine am h ac rfl ?_
   refine n0 (s := kv) h ?_
   rw [List.length_map]
   refine aa (bu (by omega)) ?_
   with_reducible repeat refine gg ?_
   refine ag (pL _ H) ?_
   refine ag (sC _ H) ?_
   exact ap ⟨(), by rw [(HX hj).2 (by omega)], h⟩
  | succ d ih =>
   intro i hi hj
   have hil : i < ns.length := by omega
   refine ag (kT _ _ _ _ H) ?_
   refine am h ac rfl ?_
   refine n0 (s := kv) h ?_
   rw [List.length_map]
   refine aa (bI (by omega)) ?_
   with_reducible repeat refine gg ?_
   refine ag (sE _ _ _ _ H) ?_
   refine am h ac rfl ?_
   refine iI (s := kv) (enc := da) (l := ns.map fun p : Int × Nat => p.1) (v := vi ns[i].1) h (i := i) (by simpa using hil) (by simp [da]) ?_
   by_cases e : ns[i].1 = obj
   ·refine aa (bp e) ?_
    with_reducible repeat refine gg ?_
    exact ap ⟨(), by rw [(HX hj).1 hil e], h⟩
   ·refine aa (aS e) ?_
    with_reducible repeat refine gg ?_
    refine ag (sF _ _ _ _ H) ?_
    refine aa (aC (by omega) (by omega)) ?_
    refine ih (i + 1) (by omega) fun j hj2 p hp => ?_
    rcases Nat.lt_succ_iff_lt_or_eq.1 hj2 with h1 | rfl
    ·exact hj j h1 p hp
    ·rw [List.getElem?_eq_getElem hil] at hp
     obtain rfl := Option.some.inj hp
     exact e
 exact loop ns.length 0 (by omega) (fun j hj => by omega)
theorem Ww {ns : List (Int × Nat)} {obj : Int} (h : ns.findIdx? (fun p => p.1 == obj) = none) : atN ns obj = -1 := by unfold atN; rw [h]
theorem Wx {ns : List (Int × Nat)} {obj : Int} {i : Nat} (h : ns.findIdx? (fun p => p.1 == obj) = some i) : atN ns obj = i := by unfold atN; rw [h]
theorem UA {ns : List (Int × Nat)} {obj : Int} (h : ns.findIdx? (fun p => p.1 == obj) = none) (n : Nat) (k : Int) : C2 (ns ++ [(obj, n)]) k = if k = obj then some n else C2 ns k := by
 have hn : ns.find? (fun p => p.1 == obj) = none := by
  rw [List.find?_eq_none]
  rw [List.findIdx?_eq_none_iff] at h
  intro p hp
  have := h p hp
  simpa using this
 unfold C2
 rw [List.find?_append]
 by_cases e : k = obj
 ·subst e
  rw [hn, if_pos rfl]
  simp
 ·rw [if_neg e]
  have : ([(obj, n)] : List (Int × Nat)).find? (fun p => p.1 == k) = none := by
   rw [List.find?_eq_none]
   intro p hp
   obtain rfl : p = (obj, n) := by simpa using hp
   simpa using fun q => e q.symm
  rw [this]
  cases ns.find? (fun p => p.1 == k) <;> rfl
theorem aaW (obj : Int) (n : Nat) (k : Int) : ∀ {ns : List (Int × Nat)} {i : Nat}, ns.findIdx? (fun p => p.1 == obj) = some i → C2 (ns.set i (obj, n)) k = if k = obj then some n else C2 ns k := by
 intro ns
 induction ns with
 | nil => intro i h; simp at h
 | cons p ns ih =>
  intro i h
  rw [List.findIdx?_cons] at h
  by_cases e : p.1 = obj
  ·rw [if_pos (by simpa using e)] at h
   obtain rfl := Option.some.inj h
   simp only [List.set_cons_zero, C2, List.find?_cons]
   by_cases e2 : k = obj
   ·subst e2; simp
   ·have h1 : ((obj == k) : Bool) = false := by simpa using fun q => e2 q.symm
    have h2 : ((p.1 == k) : Bool) = false := by rw [e]; exact h1
    simp [h1, h2, e2]
  ·rw [if_neg (by simpa using e)] at h
   obtain ⟨j, hj, rfl⟩ := Option.map_eq_some_iff.1 h
   have := ih hj
   simp only [List.set_cons_succ, C2, List.find?_cons] at this ⊢
   by_cases e2 : p.1 = k
   ·have h1 : ((p.1 == k) : Bool) = true := by simpa using e2
    simp only [h1]
    rw [if_neg (fun q => e (e2.trans q))]
   ·have h1 : ((p.1 == k) : Bool) = false := by simpa using e2
    simp only [h1]
    exact this
theorem KL (ib m : Nat) (sh : Int) (nx : Int → Option Nat) (L : Nat) (μ : Mu) (who obj : Int) (next : Nat) (hL : L < 900000) (hE : μ.N < 1099511627000) :
 Sp i1 [vp ib, vi who, vi obj, vu next] (fw ib m sh nx L * bi m μ) (fun _ : Unit => .tuple #[]) (fun _ => fw ib m sh (fun k => if k = obj then some next else nx k) (L + 1) * bi m (μ.acc who 6 (14, obj, 0))) := by
 refine av fun R H h => ?_
 obtain ⟨kv, nv, ns, ⟨hn, hl⟩, h0⟩ := mL (ib := ib) (m := m) (sh := sh) (nx := nx) (L := L) (R := bi m μ * R) (H := H) h.to
 refine aw (fun r => us _ _ _ _ H) ?_
 refine aI ac ?_
 refine aE h0 rfl ?_
 refine af h0 (cw 14 obj 0) fun _ H1 h1 => ?_
 refine aA h1 h0 (by rfl) ?_
 refine af h1 ((Wf m μ who 6 (14, obj, 0) (by omega)).imp fun _ R H h => tZ (N' := μ.N + 2) (by simp) h) fun _ H2 h2 => ?_
 refine af h2 (We ib m sh kv nv ns (by omega) obj) fun _ H3 h3 => ?_
 cases hf : ns.findIdx? (fun p => p.1 == obj) with
 | none =>
  rw [Ww hf]
  refine aa (bI (by omega)) ?_
  with_reducible repeat refine gg ?_
  refine am h3 ac rfl ?_
  refine jH h3 fun b0 H4 h4 => ?_
  refine fW (s := kv) (l := ns.map fun p : Int × Nat => p.1) (obj : Int) h4 rfl ?_ (by omega) fun a c H5 h5 => ?_
  ·unfold cp; simp only [List.length_map]; omega
  refine aI ac ?_
  refine aE h5 rfl ?_
  refine aA h4 h5 (by rfl) ?_
  refine jH h5 fun b1 H6 h6 => ?_
  refine fW (s := nv) (l := ns.map fun p : Int × Nat => p.2) (next : Nat) h6 rfl ?_ (by omega) fun a2 c2 H7 h7 => ?_
  ·unfold cp; simp only [List.length_map]; omega
  refine aK h7 ac rfl rfl fun H8 h8 => ?_
  refine aK h8 ac rfl rfl fun H9 h9 => ?_
  have e1 : (ns ++ [(obj, next)]).map (fun p : Int × Nat => p.1) = (ns.map fun p : Int × Nat => p.1) ++ [obj] := by rw [List.map_append]; rfl
  have e2 : (ns ++ [(obj, next)]).map (fun p : Int × Nat => p.2) = (ns.map fun p : Int × Nat => p.2) ++ [next] := by rw [List.map_append]; rfl
  refine ap ⟨(), rfl, ?_⟩
  have h10 := gz (ib := ib) (m := m) (sh := sh) (nx := fun k => if k = obj then some next else nx k) (L := L + 1) (kv := .slice a ((ns.map fun p : Int × Nat => p.1).length + 1) c) (nv := .slice a2 ((ns.map fun p : Int × Nat => p.2).length + 1) c2) (ns := ns ++ [(obj, next)])
   (R := bi m (μ.acc who 6 (14, obj, 0)) * R) (H := H9) ⟨fun k => by rw [UA hf, hn], by simp; omega⟩ (by rw [e1, e2]; exact h9.to)
  exact h10.to
 | some i =>
  rw [Wx hf]
  have hi := (List.findIdx?_eq_some_iff_getElem.1 hf)
  obtain ⟨hil, hk, _⟩ := hi
  refine aa (bu (by omega)) ?_
  with_reducible repeat refine gg ?_
  refine am h3 ac rfl ?_
  refine EO (s := nv) (l := ns.map fun p : Int × Nat => p.2) (i := i) (next : Nat) h3 (by simpa using hil) (.inl ⟨rfl, rfl⟩) rfl (by omega) rfl (by simp [Lu, splice]) fun H4 h4 => ?_
  have e1 : (ns.set i (obj, next)).map (fun p : Int × Nat => p.1) = ns.map fun p : Int × Nat => p.1 := by
   rw [List.map_set]
   apply List.ext_getElem?
   intro j
   rw [List.getElem?_set]
   split
   ·rename_i e
    subst e
    have hk : ns[i].1 = obj := by simpa using hk
    simp [hil, hk]
   ·rfl
  have e2 : (ns.set i (obj, next)).map (fun p : Int × Nat => p.2) = (ns.map fun p : Int × Nat => p.2).set i next := by rw [List.map_set]
  refine ap ⟨(), rfl, ?_⟩
  have h10 := gz (ib := ib) (m := m) (sh := sh) (nx := fun k => if k = obj then some next else nx k) (L := L + 1) (kv := kv) (nv := nv) (ns := ns.set i (obj, next))
   (R := bi m (μ.acc who 6 (14, obj, 0)) * R) (H := H4) ⟨fun k => by rw [aaW obj next k hf, hn], by rw [List.length_set]; omega⟩ (by rw [e1, e2]; exact h4.to)
  exact h10.to
theorem td {σ : a7} {o : Nat} (ho : o < σ.obs.length) : az σ o = (σ.obs[o]).2 := by
 unfold az
 rw [List.getElem?_eq_getElem ho]; rfl
theorem xj (p : Nat) (g : PIds) (σ : a7) (o b : Nat) (hl : g.rp.length = σ.obs.length) (ho : o < σ.obs.length) (hb : g.rp[o]? = some b) :
 ∃ R, aH p g σ = bU g.m o b (az σ o) * bd g.m σ.μ * R ∧ ∀ μ' cs', aH p g { σ with μ := μ', obs := σ.obs.modify o fun q => (q.1, cs') } = bU g.m o b cs' * bd g.m μ' * R := by
 have hz : o < (g.rp.zip (σ.obs.map fun x => x.2)).length := by simp; omega
 obtain ⟨R, e1, e2⟩ := Hc g.m (ps := g.rp.zip (σ.obs.map fun x => x.2)) (j := 0) hz
 have hrp : g.rp[o]'(by omega) = b := by
  rw [List.getElem?_eq_getElem (by omega)] at hb
  exact Option.some.inj hb
 have e3 : (g.rp.zip (σ.obs.map fun x => x.2))[o] = (b, az σ o) := by
  rw [List.getElem_zip, td ho, List.getElem_map, hrp]
 rw [e3] at e1
 rw [Nat.zero_add] at e1 e2
 refine ⟨blk p (.cells false [vp g.m, vp g.ib, vp g.tb, vp g.po, vp g.co, vi σ.c.sh, vi σ.c.sl, vi σ.c.wk, vi σ.c.wd, vu σ.c.un, g.ov, .map (some g.pm), g.pv]) * (jY g.ib g.m g.nm σ.c σ.nx * (tab g.tb g.m σ.c.sh.toNat σ.c.sl.toNat * (ts 4 Io g.ov ((σ.obs.map fun x => x.1).zip g.rp) * (R *
  (Wi KP g.pm (fun k => (σ.places k).map fun n => vi n) * ts 7 Pt.cells g.pv σ.pts))))), ?_, fun μ' cs' => ?_⟩
 ·unfold aH
  rw [e1]
  ac_rfl
 ·unfold aH
  dsimp only
  have e4 : (σ.obs.modify o fun q => (q.1, cs')).map (fun x => x.1) = σ.obs.map fun x => x.1 := by
   apply List.ext_getElem?
   intro j
   simp only [List.getElem?_map, List.getElem?_modify]
   cases σ.obs[j]? with
   | none => rfl
   | some q => simp only [Option.map_some]; split <;> rfl
  have e5 : g.rp.zip ((σ.obs.modify o fun q => (q.1, cs')).map fun x => x.2) = (g.rp.zip (σ.obs.map fun x => x.2)).set o (b, cs') := by
   apply List.ext_getElem?
   intro j
   rw [List.getElem?_set]
   by_cases hj : o = j
   ·subst hj
    rw [if_pos rfl, if_pos hz]
    exact List.getElem?_zip_eq_some.2 ⟨hb, by simp [List.getElem?_modify, List.getElem?_eq_getElem ho]⟩
   ·rw [if_neg hj]
    have : (List.map (fun x => x.2) (σ.obs.modify o fun q => (q.1, cs')))[j]? = (σ.obs.map fun x => x.2)[j]? := by
     simp only [List.getElem?_map, List.getElem?_modify]
     cases σ.obs[j]? with
     | none => rfl
     | some q => show some (if o = j then (q.1, cs') else q).2 = some q.2; rw [if_neg hj]
    simp only [List.zip, List.getElem?_zipWith, this]
  rw [e4, e5, e2]
  ac_rfl
theorem BB {σ : a7} {o : Nat} (ho : o < σ.obs.length) : (σ.obs.modify o fun q => (q.1, az σ o)) = σ.obs := by
 apply List.ext_getElem?
 intro j
 rw [List.getElem?_modify]
 cases hj : σ.obs[j]? with
 | none => rfl
 | some q =>
  show some (if o = j then _ else _) = some q
  by_cases e : o = j
  ·subst e
   rw [if_pos rfl]
   unfold az
   rw [hj]; rfl
  ·rw [if_neg e]
section
variable {f : Nat} {args : List Value} {v : Unit → Value} {p : Nat} {g : PIds} {σ : a7} {o b : Nat}
theorem Wm {μ' : Mu} {cs' : List Pk} (hl : g.rp.length = σ.obs.length) (ho : o < σ.obs.length) (hb : g.rp[o]? = some b)
 (s : Sp f args (bU g.m o b (az σ o) * bd g.m σ.μ) v (fun _ => bU g.m o b cs' * bd g.m μ')) :
 Sp f args (aH p g σ) v (fun _ => aH p g { σ with μ := μ', obs := σ.obs.modify o fun q => (q.1, cs') }) := by
 obtain ⟨R', e1, e2⟩ := xj p g σ o b hl ho hb
 intro R H h
 rw [e1, ar] at h
 obtain ⟨x, H', h1, h2⟩ := s _ _ h
 exact ⟨x, H', h1, by rw [e2, ar]; exact h2⟩
theorem g7 {μ' : Mu} (hl : g.rp.length = σ.obs.length) (ho : o < σ.obs.length) (hb : g.rp[o]? = some b)
 (s : Sp f args (bU g.m o b (az σ o) * bd g.m σ.μ) v (fun _ => bU g.m o b (az σ o) * bd g.m μ')) :
 Sp f args (aH p g σ) v (fun _ => aH p g (σ.mem μ')) := by
 have := Wm (p := p) hl ho hb s
 rw [BB ho] at this
 exact this
theorem OT (hl : g.rp.length = σ.obs.length) (ho : o < σ.obs.length) (hb : g.rp[o]? = some b)
 (s : Sp f args (bU g.m o b (az σ o)) v (fun _ => bU g.m o b (az σ o))) :
 Sp f args (aH p g σ) v (fun _ => aH p g σ) := by
 obtain ⟨R', e1, _⟩ := xj p g σ o b hl ho hb
 intro R H h
 rw [e1, ar, ar] at h
 obtain ⟨x, H', h1, h2⟩ := s _ _ h
 exact ⟨x, H', h1, by rw [e1, ar, ar]; exact h2⟩
theorem OU {μ' : Mu} (s : Sp f args (tab g.tb g.m σ.c.sh.toNat σ.c.sl.toNat * bd g.m σ.μ) v (fun _ => tab g.tb g.m σ.c.sh.toNat σ.c.sl.toNat * bd g.m μ')) :
 Sp f args (aH p g σ) v (fun _ => aH p g (σ.mem μ')) := by
 intro R H h
 unfold aH at h
 obtain ⟨x, H', h1, h2⟩ := s _ H (ae.fr (A := tab g.tb g.m σ.c.sh.toNat σ.c.sl.toNat * bd g.m σ.μ) h)
 refine ⟨x, H', h1, ?_⟩
 unfold aH
 exact h2.to
theorem Wn (s : Sp f args (tab g.tb g.m σ.c.sh.toNat σ.c.sl.toNat) v (fun _ => tab g.tb g.m σ.c.sh.toNat σ.c.sl.toNat)) :
 Sp f args (aH p g σ) v (fun _ => aH p g σ) := by
 intro R H h
 unfold aH at h
 obtain ⟨x, H', h1, h2⟩ := s _ H (ae.fr (A := tab g.tb g.m σ.c.sh.toNat σ.c.sl.toNat) h)
 refine ⟨x, H', h1, ?_⟩
 unfold aH
 exact h2.to
theorem OS {μ' : Mu} (s : Sp f args (bd g.m σ.μ) v (fun _ => bd g.m μ')) : Sp f args (aH p g σ) v (fun _ => aH p g (σ.mem μ')) := by
 intro R H h
 unfold aH at h
 obtain ⟨x, H', h1, h2⟩ := s _ H (ae.fr (A := bd g.m σ.μ) h)
 refine ⟨x, H', h1, ?_⟩
 unfold aH
 exact h2.to
theorem Df {μ' : Mu} {nx' : Int → Option Nat} (s : Sp f args (jY g.ib g.m g.nm σ.c σ.nx * bd g.m σ.μ) v (fun _ => jY g.ib g.m g.nm σ.c nx' * bd g.m μ')) :
 Sp f args (aH p g σ) v (fun _ => aH p g { σ with μ := μ', nx := nx' }) := by
 intro R H h
 unfold aH at h
 obtain ⟨x, H', h1, h2⟩ := s _ H (ae.fr (A := jY g.ib g.m g.nm σ.c σ.nx * bd g.m σ.μ) h)
 refine ⟨x, H', h1, ?_⟩
 unfold aH
 exact h2.to
end
instance aj4 (p : Nat) (g : PIds) (σ : a7) : Hs (aH p g σ) p (.cells false [vp g.m, vp g.ib, vp g.tb, vp g.po, vp g.co, vi σ.c.sh, vi σ.c.sl, vi σ.c.wk, vi σ.c.wd, vu σ.c.un, g.ov, .map (some g.pm), g.pv]) := ⟨by
 intro H h
 unfold aH at h
 exact h.left.get⟩
theorem n9 {P P0 R : SP} {H : AH} {b fn : Nat} {args : List Value} {c : Int} {d : Bool} {Q0 : Unit → SP} {Q : Value → AH → Prop} (h : ae P H)
 (s : Sp fn args P0 (fun _ : Unit => .tuple #[.agg (nc c).toArray, vb d]) Q0) [fr : Fr P (P0 * blk b (.cells false [vi 0, .slice none 0 0, vi 0, vw 0])) R]
 (hk : ∀ H', ae (Q0 () * R) H' → Q (.tuple #[.agg (nc c).toArray, vb d]) H') :
 wp ((FF fn args H).bind fun r2 => (aj r2.1 0).bind fun v3 => (aj r2.1 1).bind fun v4 => (dn 4 (vp b) v3 r2.2).bind fun H5 => (aD 4 (vp b) H5).bind fun v6 => some (Value.tuple #[v6, v4], H5)) Q := by
 have h0 : ae (P0 * (blk b (.cells false [vi 0, .slice none 0 0, vi 0, vw 0]) * R)) H := by
  have := ae.fr (A := P0 * blk b (.cells false [vi 0, .slice none 0 0, vi 0, vw 0])) h
  rw [ar] at this
  exact this
 refine af h0 s fun _ H1 h1 => ?_
 refine aa (v := .agg (nc c).toArray) rfl ?_
 refine aa (v := vb d) rfl ?_
 refine bX h1 rfl rfl fun H2 h2 => ?_
 refine aL h2 ?_
 exact ap (hk H2 h2.to)
abbrev Uk (e n : Nat) : Value := .func (.func n) #[vp e] #[]
abbrev eB (e p : Nat) (nx rv : Value) (t : Tk) : SP :=
 blk e (.cells false [vp p, vi t.who, vi t.x.op, vi t.x.flow, vi t.x.a, vi t.x.b, vi t.s, nx, vi t.i, vi t.obj, vb t.found, rv, vu t.w, vu t.q, vi t.mark, vu t.top])
def yf : Nat → Nat
 | 0 => kH | 2 => iY | 3 => cA | 4 => dy | 5 => dz | 6 => fB | 7 => bN | 8 => j8
 | 9 => iX | 10 => mV | 11 => kf | 12 => iW | 13 => kg | 14 => j6 | 15 => mW | 16 => dU
 | 17 => dT | 18 => eG | 20 => j5 | 21 => iZ | 22 => cW | 23 => j9 | 24 => kc | _ => mU
def Hf (rp : List Nat) (t : Tk) (v : Value) : Prop := 7 ≤ t.at' → ∃ b, rp[t.obj]? = some b ∧ v = vp b
def eP (e p : Nat) (rp : List Nat) (σ : a7) (t : Tk) : SP := ex fun v : Value => pu (Hf rp t v) * (eB e p (Uk e (yf t.at')) v t * bm p rp σ)
def eQ (e p : Nat) (rp : List Nat) (r : a7 × Tk × Bool) : SP := if r.2.2 = true then bm p rp r.1 else eP e p rp r.1 r.2.1
abbrev dj (r : a7 × Tk × Bool) : Value := .tuple #[.agg (nc (if r.2.2 = true then r.2.1.code else 0)).toArray, vb r.2.2]
theorem Pc {e p : Nat} {rp : List Nat} {σ : a7} {t : Tk} {R : SP} {H : AH} (h : ae (eP e p rp σ t * R) H) : ∃ v, Hf rp t v ∧ ae (eB e p (Uk e (yf t.at')) v t * (bm p rp σ * R)) H := by
 obtain ⟨v, h1⟩ := ae.ex.1 h
 rw [ar, ae.pu] at h1
 exact ⟨v, h1.1, h1.2.to⟩
theorem In {e p : Nat} {rp : List Nat} {σ : a7} {t : Tk} {R : SP} {H : AH} {v : Value} {n : Nat} (hv : Hf rp t v) (hn : yf t.at' = n) (h : ae (eB e p (Uk e n) v t * (bm p rp σ * R)) H) : ae (eP e p rp σ t * R) H := by
 subst hn
 exact ae.ex.2 ⟨v, by rw [ar]; exact ae.pu.2 ⟨hv, h.to⟩⟩
section
variable (e p : Nat)
theorem aiD (nx rv : Value) (n : Nat) (t : Tk) : Sp bk [vp e, Uk e n] (eB e p nx rv t) (fun _ : Unit => .tuple #[.agg (nc 0).toArray, vb false]) (fun _ => eB e p (Uk e n) rv t) := by
 refine av fun R H h => ?_
 refine aw (fun r => WP _ _ H) ?_
 refine aO h fun b H1 h1 => ?_
 refine aK h1 ac rfl rfl fun H2 h2 => ?_
 refine dO ?_
 refine bX h2 rfl rfl fun H3 h3 => ?_
 refine aL h3 ?_
 exact ap ⟨(), rfl, h3.to⟩
theorem akS (rp : List Nat) (σ : a7) (step who code : Int) (hp : σ.pts.length < 1000000) : Sp gG [vp p, vi step, vi who, .agg (nc code).toArray] (bm p rp σ) (fun _ : Unit => .tuple #[]) (fun _ => bm p rp (σ.note step who code)) := by
 refine av fun R H h => ?_
 obtain ⟨g, hrp, hg, h0⟩ := ee h
 unfold aH at h0
 refine aw (fun r => qZ _ _ _ _ H) ?_
 refine aG h0 fun b1 H1 h1 => ?_
 refine aI ac ?_
 refine aE h1 rfl ?_
 refine aI ac ?_
 refine aE h1 rfl ?_
 refine R8 (ek := KP) who h1 ?_
 refine aL h1 ?_
 refine af h1 (rH code) fun _ H2 h2 => ?_
 refine aA h2 h1 rfl ?_
 refine aA h2 h1 rfl ?_
 refine adJ who h2 h1 ?_
 have ev : (((σ.places who).map fun n => vi n).getD (vi 0)) = vi ((σ.places who).getD 0) := by cases σ.places who <;> rfl
 rw [ev]
 refine dO ?_
 refine jH h2 fun b0 H3 h3 => ?_
 refine fW (⟨step, who, (σ.places who).getD 0, code⟩ : Pt) h3 rfl ?_ (by omega) fun a cc H4 h4 => ?_
 ·unfold cp; omega
 refine aK h4 ac rfl rfl fun H5 h5 => ?_
 refine ap ⟨(), rfl, ?_⟩
 refine bo { g with pv := .slice a (σ.pts.length + 1) cc } hrp hg ?_
 unfold aH a7.note
 exact h5.to
theorem tj (rp : List Nat) (σ : a7) (nx rv : Value) (t : Tk) (now code : Int) (hp : σ.pts.length < 1000000) :
 Sp ka [vp e, vi now, vi code] (eB e p nx rv t * bm p rp σ) (fun _ : Unit => .tuple #[]) (fun _ => eB e p nx rv t * bm p rp (σ.note now t.who code)) := by
 refine av fun R H h => ?_
 refine aw (fun r => Lo _ _ _ H) ?_
 refine am h ac rfl ?_
 refine am h ac rfl ?_
 refine dO ?_
 refine af h (akS p rp σ now t.who code hp) fun _ H1 h1 => ?_
 exact ap ⟨(), rfl, h1.to⟩
theorem wK (rp : List Nat) (σ : a7) (nx rv : Value) (t : Tk) (now code : Int) (hp : σ.pts.length < 1000000) :
 Sp gW [vp e, vi now, vi code] (eB e p nx rv t * bm p rp σ) (fun _ : Unit => .tuple #[.agg (nc code).toArray, vb true]) (fun _ => eB e p nx rv t * bm p rp (σ.note now t.who code)) := by
 refine av fun R H h => ?_
 refine aw (fun r => E4 _ _ _ H) ?_
 refine aO h fun b H1 h1 => ?_
 refine af h1 (tj e p rp σ nx rv t now code hp) fun _ H2 h2 => ?_
 exact n9 h2 (ti (vp e) code) fun H3 h3 => ⟨(), rfl, h3.to⟩
end
theorem agG {α : Type} {P : SP} {H : AH} {e n g i : Nat} {enc : α → List Value} {l : List α} {s : Value} {Q : Value → AH → Prop} {k : Value → OV} {kk : IntKind} {cs : List Value} (h : ae P H) [r : Rd P s e enc l] [E : Enc enc e] (hi : i < l.length) (hg : g + n ≤ e)
 (hc : ((enc l[i]).drop g).take n = cs) (hk : wp (k (.agg cs.toArray)) Q) : wp (ldN n [.i e (.int kk (i : Int)), .f g] s H k) Q := by
 subst hc
 obtain ⟨b, o, ro, row, rfl, h2, h3, h4⟩ := B1 (s := s) (enc := enc) (l := l) h hi
 unfold ldN
 rw [So hi, akC]
 have hm : (i + 1) * e ≤ l.length * e := Nat.mul_le_mul_right _ (by omega)
 rw [Nat.add_mul] at hm
 have : aD n (oM b (o + i * e + g)) H = some (.agg (((enc l[i]).drop g).take n).toArray) := by
  simp only [aD, sr, dr, Option.bind_some, h2]
  rw [if_pos (by omega)]
  congr 3
  rw [← Gp E.len l i hi, ← h4, List.drop_take, List.drop_take, List.drop_take, List.drop_drop, List.drop_drop, List.take_take, List.take_take, Nat.min_eq_left (by omega), Nat.min_eq_left (by omega), Nat.add_assoc]
 show wp ((aD n (oM b (o + i * e + g)) H).bind k) Q
 rw [this]; exact hk
structure SOk (σ : a7) : Prop where
 c : dh σ.c = true
 N : σ.μ.N < 800000
 pts : σ.pts.length < 900000
 V : ∀ l, σ.μ.V l < 18446744073709551616
 obs : σ.obs.length < 900000
 cells : ∀ o, o < σ.obs.length → 1 ≤ (az σ o).length ∧ (az σ o).length < 1000
 slot : ∀ s i, σ.μ.V (10, s, i) ≠ 0 → σ.μ.V (10, s, i) % 4294967296 < σ.obs.length
structure fY (σ : a7) (t : Tk) : Prop where
 obj : 6 ≤ t.at' ∨ t.at' = 5 ∧ t.found = true → t.obj < σ.obs.length
 s : t.s = (t.x.flow.tmod σ.c.sh + σ.c.sh).tmod σ.c.sh
 i : t.at' < 5 → t.at' ≠ 3 → (t.i : Int) < σ.c.sl
 w : t.w < 18446744073709551616
 c5 : t.at' = 5 → t.found = false → t.code = 5
 c0 : t.at' = 10 ∨ t.at' = 11 ∨ t.at' = 14 ∨ 21 ≤ t.at' → t.code = 0
 ats : t.at' = 0 ∨ t.at' = 2 ∨ t.at' = 3 ∨ t.at' = 4 ∨ t.at' = 5 ∨ t.at' = 6 ∨ t.at' = 7 ∨ t.at' = 8 ∨ t.at' = 9 ∨ t.at' = 10 ∨ t.at' = 11 ∨ t.at' = 12 ∨ t.at' = 13 ∨ t.at' = 14 ∨ t.at' = 15 ∨ t.at' = 16 ∨ t.at' = 17 ∨ t.at' = 18 ∨ t.at' = 20 ∨ t.at' = 21 ∨ t.at' = 22 ∨ t.at' = 23 ∨ t.at' = 24 ∨ t.at' = 25
section
variable (e p : Nat) (rp : List Nat) (g : PIds) (σ : a7) (nx rv : Value) (t : Tk) (now : Int)
theorem xm (hl : g.rp.length = σ.obs.length) (o : Nat) (ho : o < σ.obs.length) : Sp en [vp p, vi o] (aH p g σ) (fun _ : Unit => vb true) (fun _ => aH p g σ) := by
 have hz : ((σ.obs.map fun x => x.1).zip g.rp).length = σ.obs.length := by simp [hl]
 refine av fun R H h => ?_
 have h0 := h
 unfold aH at h0
 refine aw (fun r => ra _ _ H) ?_
 refine aa (wU (by omega)) ?_
 with_reducible repeat refine gg ?_
 refine am h ac rfl ?_
 with_reducible repeat refine gg ?_
 refine gu (s := g.ov) h0 ?_
 rw [hz]
 with_reducible repeat refine gg ?_
 refine aa (bI (by omega)) ?_
 with_reducible repeat refine gg ?_
 exact ap ⟨(), rfl, h⟩
theorem xn (hl : g.rp.length = σ.obs.length) (o b : Nat) (ho : o < σ.obs.length) (hb : g.rp[o]? = some b) : Sp ej [vp p, vi o] (aH p g σ) (fun _ : Unit => vp b) (fun _ => aH p g σ) := by
 have hz : ((σ.obs.map fun x => x.1).zip g.rp).length = σ.obs.length := by simp [hl]
 refine av fun R H h => ?_
 refine aw (fun r => q7 _ _ H) ?_
 refine af h (xm p g σ hl o ho) fun _ H1 h1 => ?_
 with_reducible repeat refine gg ?_
 rw [Bool.not_true]
 with_reducible repeat refine gg ?_
 refine am h1 ac rfl ?_
 have h2 := h1
 unfold aH at h2
 have hb' : g.rp[o]'(by omega) = b := by rw [List.getElem?_eq_getElem (by omega)] at hb; exact Option.some.inj hb
 refine Cy (v := vp b) (enc := Io) (l := (σ.obs.map fun x : Ob × List Pk => x.1).zip g.rp) h2 (by omega) (by omega) ?_ ?_
 ·show some (vp ((σ.obs.map fun x => x.1).zip g.rp)[o].2) = _
  rw [List.getElem_zip, hb']
 exact ap ⟨(), rfl, h1.to⟩
theorem Nt (hl : g.rp.length = σ.obs.length) (who : Int) (o : Nat) (ho : o < σ.obs.length) (hN : σ.μ.N < 800000) : Sp io [vp p, vi who, vi o] (aH p g σ) (fun v : Value => v) (fun _ => aH p g (σ.mem (σ.μ.acc who 5 (13, (o : Int), 0)))) := by
 have hz : ((σ.obs.map fun x => x.1).zip g.rp).length = σ.obs.length := by simp [hl]
 refine av fun R H h => ?_
 refine aw (fun r => su _ _ _ H) ?_
 refine aO h fun b H1 h1 => ?_
 refine af h1 (xm p g σ hl o ho) fun _ H2 h2 => ?_
 with_reducible repeat refine gg ?_
 rw [Bool.not_true]
 with_reducible repeat refine gg ?_
 refine am h2 ac rfl ?_
 refine dO ?_
 refine af h2 (OS (p := p) (g := g) (σ := σ) ((aaI g.m σ.μ who (13, (o : Int), 0) (by omega)).imp fun _ R H h => jl (N' := σ.μ.N + 2) (by simp) h)) fun _ H3 h3 => ?_
 refine am h3 ac rfl ?_
 have h4 := h3
 unfold aH at h4
 refine agG (enc := Io) (l := (σ.obs.map fun x : Ob × List Pk => x.1).zip g.rp) h4 (by omega) (by omega) (show _ = [_, _, _] from rfl) ?_
 refine bX h3 rfl rfl fun H5 h5 => ?_
 refine aL h5 ?_
 exact ap ⟨_, rfl, h5.to⟩
theorem BH (who : Int) (hN : σ.μ.N < 800000) : Sp eR [vp p, vi who] (aH p g σ) (fun _ : Unit => vu (σ.μ.V (2, 0, 0))) (fun _ => aH p g (σ.mem (σ.μ.acc who 1 (2, 0, 0)))) := by
 refine av fun R H h => ?_
 refine aw (fun r => sx _ _ H) ?_
 refine am h ac rfl ?_
 refine dO ?_
 refine af h (OS (p := p) (g := g) (σ := σ) (BE g.m σ.μ who (2, 0, 0) (by omega))) fun _ H1 h1 => ?_
 exact ap ⟨(), rfl, h1.to⟩
theorem JL (who : Int) (hN : σ.μ.N < 800000) : Sp gH [vp p, vi who] (aH p g σ) (fun _ : Unit => .tuple #[]) (fun _ => aH p g (σ.mem (σ.μ.cnt who (2, 0, 0) 1))) := by
 refine av fun R H h => ?_
 refine aw (fun r => q8 _ _ H) ?_
 refine am h ac rfl ?_
 refine dO ?_
 refine af h (OS (p := p) (g := g) (σ := σ) (abF g.m σ.μ who (2, 0, 0) 1 (by omega))) fun _ H1 h1 => ?_
 exact ap ⟨(), rfl, h1.to⟩
theorem Cb (b : Bool) (h : Gu (σ.μ.V (10, t.s, (t.i : Int))) t.x.flow = b) : aM σ t = { t with i := t.i + 1, found := b, obj := if b = true then σ.μ.V (10, t.s, (t.i : Int)) % 4294967296 else t.obj } := by
 subst h
 rfl
theorem Pe (S : SOk σ) (hi : (t.i : Int) < σ.c.sl) : Sp t5 [vp e] (eB e p nx rv t * aH p g σ) (fun _ : Unit => vb (dI σ (aM σ t))) (fun _ => eB e p nx rv (aM σ t) * aH p g (cD σ t)) := by
 have hc := b7.1 S.c
 refine av fun R H h => ?_
 refine aw (fun r => SG _ H) ?_
 refine am h ac rfl ?_
 refine am h ac rfl ?_
 refine am h ac rfl ?_
 refine am h ac rfl ?_
 refine am h ac rfl ?_
 refine af h (OU (p := p) (g := g) (σ := σ) (Kx g.tb g.m σ.c.sh.toNat σ.c.sl.toNat σ.μ t.who t.s t.i (by have := S.N; omega) (S.V _))) fun _ H1 h1 => ?_
 have fin : ∀ (t1 : Tk) (H' : AH), t1.i = t.i + 1 → ae (eB e p nx rv t1 * (aH p g (cD σ t) * R)) H' → wp (qj (vp e) (vb false) H') fun v' H' => ∃ _x : Unit, v' = vb (dI σ t1) ∧ ae (eB e p nx rv t1 * aH p g (cD σ t) * R) H' := by
  intro t1 H' hi1 h'
  refine ag (E3 _ _ H') ?_
  refine aI ac ?_
  refine aE h' rfl ?_
  refine am h' ac rfl ?_
  refine am h' ac rfl ?_
  refine af h' (Wn (p := p) (g := g) (σ := cD σ t) (Ky g.tb g.m σ.c.sh.toNat σ.c.sl.toNat)) fun _ H2 h2 => ?_
  refine aA h2 h' (by rfl) ?_
  refine aa (v := vb (dI σ t1)) ?_ ?_
  ·rw [yH]
   congr 3
   apply propext
   omega
  exact ap ⟨(), rfl, h2.to⟩
 by_cases hv : σ.μ.V (10, t.s, (t.i : Int)) = 0
 ·have e1 : lO (σ.μ.V (10, t.s, (t.i : Int))) = .tuple #[vi 0, vi 0, vb false] := by rw [lO, if_pos hv]
  rw [e1]
  refine aa (v := vi 0) rfl ?_
  refine aa (v := vi 0) rfl ?_
  refine aa (v := vb false) rfl ?_
  refine am h1 ac rfl ?_
  refine aa (aC (by omega) (by omega)) ?_
  rw [show ((t.i : Nat) : Int) + 1 = ((t.i + 1 : Nat) : Int) from by omega]
  refine aK h1 ac rfl rfl fun H2 h2 => ?_
  refine ag (tf _ _ _ _ _ H2) ?_
  with_reducible repeat refine gg ?_
  refine aK h2 ac rfl rfl fun H3 h3 => ?_
  refine am h3 ac rfl ?_
  with_reducible repeat refine gg ?_
  have e2 : aM σ t = { t with i := t.i + 1, found := false } := by
   have : Gu (σ.μ.V (10, t.s, (t.i : Int))) t.x.flow = false := by simp [Gu, hv]
   exact (Cb σ t _ this).trans rfl
  rw [e2]
  exact fin _ H3 rfl h3.to
 ·have e1 : lO (σ.μ.V (10, t.s, (t.i : Int))) = .tuple #[vi ((σ.μ.V (10, t.s, (t.i : Int)) / 4294967296 : Nat) - 1), vi (σ.μ.V (10, t.s, (t.i : Int)) % 4294967296 : Nat), vb true] := by rw [lO, if_neg hv]
  rw [e1]
  refine aa (v := vi ((σ.μ.V (10, t.s, (t.i : Int)) / 4294967296 : Nat) - 1)) rfl ?_
  refine aa (v := vi (σ.μ.V (10, t.s, (t.i : Int)) % 4294967296 : Nat)) rfl ?_
  refine aa (v := vb true) rfl ?_
  refine am h1 ac rfl ?_
  refine aa (aC (by omega) (by omega)) ?_
  rw [show ((t.i : Nat) : Int) + 1 = ((t.i + 1 : Nat) : Int) from by omega]
  refine aK h1 ac rfl rfl fun H2 h2 => ?_
  refine ag (tf _ _ _ _ _ H2) ?_
  with_reducible repeat refine gg ?_
  refine am h2 (fK (bW (bW bZ))) rfl ?_
  by_cases hf : ((σ.μ.V (10, t.s, (t.i : Int)) / 4294967296 : Nat) : Int) - 1 = t.x.flow
  ·refine gt ?_
   refine aa (bp hf) ?_
   with_reducible repeat refine gg ?_
   refine aK h2 ac rfl rfl fun H3 h3 => ?_
   refine am h3 ac rfl ?_
   with_reducible repeat refine gg ?_
   refine aK h3 ac rfl rfl fun H4 h4 => ?_
   have e2 : aM σ t = { t with i := t.i + 1, found := true, obj := σ.μ.V (10, t.s, (t.i : Int)) % 4294967296 } := by
    have : Gu (σ.μ.V (10, t.s, (t.i : Int))) t.x.flow = true := decide_eq_true ⟨hv, hf⟩
    exact (Cb σ t _ this).trans rfl
   rw [e2]
   exact fin _ H4 rfl h4.to
  ·refine gt ?_
   refine aa (aS hf) ?_
   with_reducible repeat refine gg ?_
   refine aK h2 ac rfl rfl fun H3 h3 => ?_
   refine am h3 ac rfl ?_
   with_reducible repeat refine gg ?_
   have e2 : aM σ t = { t with i := t.i + 1, found := false } := by
    have : Gu (σ.μ.V (10, t.s, (t.i : Int))) t.x.flow = false := decide_eq_false fun q => hf q.2
    exact (Cb σ t _ this).trans rfl
   rw [e2]
   exact fin _ H3 rfl h3.to
end
theorem nS (p : Nat) (g : XIds) (σ : a7) (o b : Nat) (hl : g.rp.length = σ.obs.length) (ho : o < σ.obs.length) (hb : g.rp[o]? = some b) :
 ∃ R, (∀ N, σ.μ.N = N → ay p g σ = ca g.m o b (az σ o) * bi g.m σ.μ * (fw g.ib g.m σ.c.sh σ.nx N * R)) ∧ ∀ μ' cs', ay p g { σ with μ := μ', obs := σ.obs.modify o fun q => (q.1, cs') } = ca g.m o b cs' * bi g.m μ' * (fw g.ib g.m σ.c.sh σ.nx μ'.N * R) := by
 have hz : o < (g.rp.zip (σ.obs.map fun x => x.2)).length := by simp; omega
 obtain ⟨R, e1, e2⟩ := He g.m (ps := g.rp.zip (σ.obs.map fun x => x.2)) (j := 0) hz
 have hrp : g.rp[o]'(by omega) = b := by
  rw [List.getElem?_eq_getElem (by omega)] at hb
  exact Option.some.inj hb
 have e3 : (g.rp.zip (σ.obs.map fun x => x.2))[o] = (b, az σ o) := by
  rw [List.getElem_zip, td ho, List.getElem_map, hrp]
 rw [e3] at e1
 rw [Nat.zero_add] at e1 e2
 refine ⟨blk p (.cells false [vi σ.c.sh, vi σ.c.sl, vi σ.c.wk, vi σ.c.wd, vu σ.c.un, vp g.m, vp g.ib, vp g.tb, vp g.po, vp g.co, g.ov, g.rv, g.wv, g.pv]) * (tab g.tb g.m σ.c.sh.toNat σ.c.sl.toNat * (ts 3 oT g.ov (σ.obs.map fun x => x.1) * (ts 1 lc g.rv g.rp * (R *
  (ts 1 da g.wv (d6 g.ws) * ts 7 Pt.cells g.pv (a8 σ.pts)))))), fun N hN => ?_, fun μ' cs' => ?_⟩
 ·subst hN
  unfold ay
  rw [e1]
  ac_rfl
 ·unfold ay
  dsimp only
  have e4 : (σ.obs.modify o fun q => (q.1, cs')).map (fun x => x.1) = σ.obs.map fun x => x.1 := by
   apply List.ext_getElem?
   intro j
   simp only [List.getElem?_map, List.getElem?_modify]
   cases σ.obs[j]? with
   | none => rfl
   | some q => simp only [Option.map_some]; split <;> rfl
  have e5 : g.rp.zip ((σ.obs.modify o fun q => (q.1, cs')).map fun x => x.2) = (g.rp.zip (σ.obs.map fun x => x.2)).set o (b, cs') := by
   apply List.ext_getElem?
   intro j
   rw [List.getElem?_set]
   by_cases hj : o = j
   ·subst hj
    rw [if_pos rfl, if_pos hz]
    exact List.getElem?_zip_eq_some.2 ⟨hb, by simp [List.getElem?_modify, List.getElem?_eq_getElem ho]⟩
   ·rw [if_neg hj]
    have : (List.map (fun x => x.2) (σ.obs.modify o fun q => (q.1, cs')))[j]? = (σ.obs.map fun x => x.2)[j]? := by
     simp only [List.getElem?_map, List.getElem?_modify]
     cases σ.obs[j]? with
     | none => rfl
     | some q => show some (if o = j then (q.1, cs') else q).2 = some q.2; rw [if_neg hj]
    simp only [List.zip, List.getElem?_zipWith, this]
  rw [e4, e5, e2]
  ac_rfl
section
variable {f : Nat} {args : List Value} {v : Unit → Value} {p : Nat} {g : XIds} {σ : a7} {o b : Nat}
theorem ET {μ' : Mu} {cs' : List Pk} (hN : σ.μ.N ≤ μ'.N) (hl : g.rp.length = σ.obs.length) (ho : o < σ.obs.length) (hb : g.rp[o]? = some b)
 (s : Sp f args (ca g.m o b (az σ o) * bi g.m σ.μ) v (fun _ => ca g.m o b cs' * bi g.m μ')) :
 Sp f args (ay p g σ) v (fun _ => ay p g { σ with μ := μ', obs := σ.obs.modify o fun q => (q.1, cs') }) := by
 obtain ⟨R', e1, e2⟩ := nS p g σ o b hl ho hb
 intro R H h
 rw [e1 _ rfl, ar] at h
 obtain ⟨x, H', h1, h2⟩ := s _ _ h
 refine ⟨x, H', h1, ?_⟩
 rw [e2, ar]
 have h3 := lx hN (ae.fr (A := fw g.ib g.m σ.c.sh σ.nx σ.μ.N) h2)
 exact h3.to
theorem g8 {μ' : Mu} (hN : σ.μ.N ≤ μ'.N) (hl : g.rp.length = σ.obs.length) (ho : o < σ.obs.length) (hb : g.rp[o]? = some b)
 (s : Sp f args (ca g.m o b (az σ o) * bi g.m σ.μ) v (fun _ => ca g.m o b (az σ o) * bi g.m μ')) :
 Sp f args (ay p g σ) v (fun _ => ay p g (σ.mem μ')) := by
 have := ET (p := p) hN hl ho hb s
 rw [BB ho] at this
 exact this
theorem HP (hl : g.rp.length = σ.obs.length) (ho : o < σ.obs.length) (hb : g.rp[o]? = some b)
 (s : Sp f args (ca g.m o b (az σ o)) v (fun _ => ca g.m o b (az σ o))) :
 Sp f args (ay p g σ) v (fun _ => ay p g σ) := by
 obtain ⟨R', e1, _⟩ := nS p g σ o b hl ho hb
 intro R H h
 rw [e1 _ rfl, ar, ar] at h
 obtain ⟨x, H', h1, h2⟩ := s _ _ h
 exact ⟨x, H', h1, by rw [e1 _ rfl, ar, ar]; exact h2⟩
theorem EU {μ' : Mu} (hN : σ.μ.N ≤ μ'.N) (s : Sp f args (tab g.tb g.m σ.c.sh.toNat σ.c.sl.toNat * bi g.m σ.μ) v (fun _ => tab g.tb g.m σ.c.sh.toNat σ.c.sl.toNat * bi g.m μ')) :
 Sp f args (ay p g σ) v (fun _ => ay p g (σ.mem μ')) := by
 intro R H h
 unfold ay at h
 obtain ⟨x, H', h1, h2⟩ := s _ H (ae.fr (A := tab g.tb g.m σ.c.sh.toNat σ.c.sl.toNat * bi g.m σ.μ) h)
 refine ⟨x, H', h1, ?_⟩
 unfold ay
 have h3 := lx hN (ae.fr (A := fw g.ib g.m σ.c.sh σ.nx σ.μ.N) h2)
 exact h3.to
theorem OY (s : Sp f args (tab g.tb g.m σ.c.sh.toNat σ.c.sl.toNat) v (fun _ => tab g.tb g.m σ.c.sh.toNat σ.c.sl.toNat)) :
 Sp f args (ay p g σ) v (fun _ => ay p g σ) := by
 intro R H h
 unfold ay at h
 obtain ⟨x, H', h1, h2⟩ := s _ H (ae.fr (A := tab g.tb g.m σ.c.sh.toNat σ.c.sl.toNat) h)
 refine ⟨x, H', h1, ?_⟩
 unfold ay
 exact h2.to
theorem KU {μ' : Mu} (hN : σ.μ.N ≤ μ'.N) (s : Sp f args (bi g.m σ.μ) v (fun _ => bi g.m μ')) : Sp f args (ay p g σ) v (fun _ => ay p g (σ.mem μ')) := by
 intro R H h
 unfold ay at h
 obtain ⟨x, H', h1, h2⟩ := s _ H (ae.fr (A := bi g.m σ.μ) h)
 refine ⟨x, H', h1, ?_⟩
 unfold ay
 have h3 := lx hN (ae.fr (A := fw g.ib g.m σ.c.sh σ.nx σ.μ.N) h2)
 exact h3.to
theorem u1 {μ' : Mu} {nx' : Int → Option Nat} {L : Nat} (hL : L ≤ μ'.N) (s : Sp f args (fw g.ib g.m σ.c.sh σ.nx σ.μ.N * bi g.m σ.μ) v (fun _ => fw g.ib g.m σ.c.sh nx' L * bi g.m μ')) :
 Sp f args (ay p g σ) v (fun _ => ay p g { σ with μ := μ', nx := nx' }) := by
 intro R H h
 unfold ay at h
 obtain ⟨x, H', h1, h2⟩ := s _ H (ae.fr (A := fw g.ib g.m σ.c.sh σ.nx σ.μ.N * bi g.m σ.μ) h)
 refine ⟨x, H', h1, ?_⟩
 unfold ay
 have h3 := lx hL (ae.fr (A := fw g.ib g.m σ.c.sh nx' L) h2)
 exact h3.to
end
instance ai9 (p : Nat) (g : XIds) (σ : a7) : Hs (ay p g σ) p (.cells false [vi σ.c.sh, vi σ.c.sl, vi σ.c.wk, vi σ.c.wd, vu σ.c.un, vp g.m, vp g.ib, vp g.tb, vp g.po, vp g.co, g.ov, g.rv, g.wv, g.pv]) := ⟨by
 intro H h
 unfold ay at h
 exact h.left.get⟩
theorem EQ (m i rp : Nat) (cs : List Pk) (μ : Mu) (who : Int) (n : Nat) (x : Pk) (h0 : 1 ≤ cs.length ∧ cs.length < 1000) (hE : μ.N < 1099511627000) :
 Sp kP [vp rp, vi who, vu n, .agg (Pk.cells x).toArray] (ca m i rp cs * bi m μ) (fun _ : Unit => .tuple #[]) (fun _ => ca m i rp (cs.set (n % cs.length) x) * bi m (μ.acc who 6 (16, (i : Int), ((n % cs.length : Nat) : Int)))) := by
 have hlt : n % cs.length < cs.length := Nat.mod_lt _ (by omega)
 refine av fun R H h => ?_
 refine aw (fun r => yA _ _ _ _ H) ?_
 refine aG h fun b H1 h1 => ?_
 obtain ⟨cv, k1⟩ := di (m := m) (i := i) (rp := rp) (cs := cs) (R := bi m μ * (blk b (.cells false (Pk.cells x)) * R)) (H := H1) h1.to
 refine aI ac ?_
 refine aE k1 rfl ?_
 refine aI ac ?_
 refine aE k1 rfl ?_
 have cell : ∀ cv, Sp du [vp rp, vu n] (blk rp (.cells false [vp m, vi i, vi cs.length, cv])) (fun _ : Unit => vi ((n % cs.length : Nat) : Int)) (fun _ => blk rp (.cells false [vp m, vi i, vi cs.length, cv])) := by
  intro cv
  refine av fun R H h => ?_
  refine aw (fun r => m8 _ _ H) ?_
  refine am h ac rfl ?_
  refine aa (dk (by omega) (by omega)) ?_
  rw [show ((cs.length : Nat) : Int).toNat = cs.length from Int.toNat_natCast _]
  refine aa (iP (by omega)) ?_
  refine aa (gc (by omega)) ?_
  exact ap ⟨(), rfl, h⟩
 refine af k1 (cell cv) fun _ H2 k2 => ?_
 refine aA k2 k1 (by rfl) ?_
 refine aA k2 k1 (by rfl) ?_
 refine af k2 (cw 16 (i : Int) ((n % cs.length : Nat) : Int)) fun _ H3 k3 => ?_
 refine aA k3 k1 (by rfl) ?_
 refine af k3 ((Wf m μ who 6 (16, (i : Int), ((n % cs.length : Nat) : Int)) (by omega)).imp fun _ R H h => tZ (N' := μ.N + 2) (by simp) h) fun _ H4 k4 => ?_
 refine aI ac ?_
 refine aE k4 rfl ?_
 refine af k4 (cell cv) fun _ H5 k5 => ?_
 refine aA k5 k4 (by rfl) ?_
 refine aL k5 ?_
 refine bg k4 k5 rfl ?_
 refine EO (s := cv) (l := cs) (i := n % cs.length) x k5 hlt (.inl ⟨rfl, rfl⟩) rfl (by omega) rfl rfl fun H6 k6 => ?_
 refine ap ⟨(), rfl, ?_⟩
 have el : (cs.set (n % cs.length) x).length = cs.length := List.length_set
 have h6 := gY (m := m) (i := i) (rp := rp) (cs := cs.set (n % cs.length) x) (cv := cv) (R := bi m (μ.acc who 6 (16, (i : Int), ((n % cs.length : Nat) : Int))) * R) (H := H6) (by rw [el]; exact k6.to)
 exact h6.to
section
variable (p : Nat) (g : XIds) (σ : a7)
theorem OO (hl : g.rp.length = σ.obs.length) (who : Int) (o : Nat) (ho : o < σ.obs.length) (hN : σ.μ.N < 800000) : Sp jL [vp p, vi who, vi o] (ay p g σ) (fun v : Value => v) (fun _ => ay p g (σ.mem (σ.μ.acc who 5 (13, (o : Int), 0)))) := by
 refine av fun R H h => ?_
 refine aw (fun r => vW _ _ _ H) ?_
 refine aO h fun b H1 h1 => ?_
 refine aa (bu (by omega)) ?_
 with_reducible repeat refine gg ?_
 refine am h1 ac rfl ?_
 with_reducible repeat refine gg ?_
 have h2 := h1
 unfold ay at h2
 refine gu (s := g.ov) (enc := oT) (l := σ.obs.map fun x : Ob × List Pk => x.1) h2 ?_
 rw [List.length_map]
 with_reducible repeat refine gg ?_
 refine aa (ol (by omega)) ?_
 with_reducible repeat refine gg ?_
 refine aI ac ?_
 refine aE h1 rfl ?_
 refine af h1 (cw 13 (o : Int) 0) fun _ H3 h3 => ?_
 refine aA h3 h1 (by rfl) ?_
 refine af h3 (KU (p := p) (g := g) (σ := σ) (μ' := σ.μ.acc who 5 (13, (o : Int), 0)) (by simp) ((Wf g.m σ.μ who 5 (13, (o : Int), 0) (by omega)).imp fun _ R H h => tZ (N' := σ.μ.N + 2) (by simp) h)) fun _ H4 h4 => ?_
 refine am h4 ac rfl ?_
 have h5 := h4
 unfold ay at h5
 refine sT (enc := oT) (l := σ.obs.map fun x : Ob × List Pk => x.1) h5 (by rw [List.length_map]; exact ho) ?_
 refine bX h4 rfl rfl fun H6 h6 => ?_
 refine aL h6 ?_
 exact ap ⟨_, rfl, h6.to⟩
theorem CD (who : Int) (hN : σ.μ.N < 800000) : Sp gj [vp p, vi who] (ay p g σ) (fun _ : Unit => vu (σ.μ.V (2, 0, 0))) (fun _ => ay p g (σ.mem (σ.μ.acc who 1 (2, 0, 0)))) := by
 refine av fun R H h => ?_
 refine aw (fun r => vX _ _ H) ?_
 refine aI ac ?_
 refine aE h rfl ?_
 refine af h (cw 2 0 0) fun _ H1 h1 => ?_
 refine aA h1 h (by rfl) ?_
 refine af h1 (KU (p := p) (g := g) (σ := σ) (μ' := σ.μ.acc who 1 (2, 0, 0)) (by simp) (pO g.m σ.μ who (2, 0, 0) (by omega))) fun _ H2 h2 => ?_
 exact ap ⟨(), rfl, h2.to⟩
theorem KN (who : Int) (hN : σ.μ.N < 800000) : Sp i5 [vp p, vi who] (ay p g σ) (fun _ : Unit => .tuple #[]) (fun _ => ay p g (σ.mem (σ.μ.cnt who (2, 0, 0) 1))) := by
 refine av fun R H h => ?_
 refine aw (fun r => uv _ _ H) ?_
 refine aI ac ?_
 refine aE h rfl ?_
 refine af h (cw 2 0 0) fun _ H1 h1 => ?_
 refine aA h1 h (by rfl) ?_
 refine af h1 (KU (p := p) (g := g) (σ := σ) (μ' := σ.μ.cnt who (2, 0, 0) 1) (by simp) (GY g.m σ.μ who (2, 0, 0) 1 (by omega))) fun _ H2 h2 => ?_
 exact ap ⟨(), rfl, h2.to⟩
theorem uX (t m sh sl : Nat) (hs : 1 ≤ sh ∧ sh ≤ 4) (flow : Int) : Sp eS [vp t, vi flow] (tab t m sh sl) (fun _ : Unit => vi ((flow.tmod sh + sh).tmod sh)) (fun _ => tab t m sh sl) := by
 have q := R4 flow (n := sh) (by omega)
 refine av fun R H h => ?_
 refine aw (fun r => sI _ _ H) ?_
 unfold tab at h ⊢
 refine am h ac rfl ?_
 refine aa (iD (by omega)) ?_
 refine ag (oJ _ _ _ H) ?_
 by_cases hn : flow.tmod sh < 0
 ·refine aa (bI hn) ?_
  with_reducible repeat refine gg ?_
  refine am h ac rfl ?_
  refine aa (aC (by omega) (by omega)) ?_
  refine ag (iL _ _ H) ?_
  refine ap ⟨(), ?_, h⟩
  have : (flow.tmod sh + sh).tmod sh = flow.tmod sh + sh := Int.tmod_eq_of_lt (by omega) (by omega)
  rw [this]
 ·refine aa (bu hn) ?_
  with_reducible repeat refine gg ?_
  refine ag (iL _ _ H) ?_
  refine ap ⟨(), ?_, h⟩
  have : (flow.tmod sh + sh).tmod sh = flow.tmod sh := by
   rw [Int.tmod_eq_emod_of_nonneg (by omega), Int.add_emod_right]
   exact Int.emod_eq_of_lt (by omega) (by omega)
  rw [this]
end
theorem ue (w pl k : Int) : ∀ ws : List (Int × Int), fI (ws ++ [(w, pl)]) k = if k = w then pl else fI ws k := by
 intro ws
 induction ws with
 | nil =>
  simp only [List.nil_append, fI, List.any_nil]
  by_cases e : k = w
  ·subst e; simp
  ·have : ¬ w = k := fun q => e q.symm
   simp [e, this]
 | cons p ws ih =>
  simp only [List.cons_append, fI, ih, List.any_append, List.any_cons, List.any_nil, Bool.or_false]
  by_cases e : k = w
  ·subst e; simp
  ·have h1 : ((w == k) : Bool) = false := by simpa using fun q => e q.symm
   rw [h1, Bool.or_false]
   simp only [if_neg e]
theorem GR (ws : List (Int × Int)) (k : Int) (j : Nat) (hj : j < ws.length) : fI (ws.take (j + 1)) k = if k = ws[j].1 then ws[j].2 else fI (ws.take j) k := by
 rw [List.take_succ_eq_append_getElem hj]
 exact ue ws[j].1 ws[j].2 k (ws.take j)
theorem nQ (ws : List (Int × Int)) : (d6 ws).length = 2 * ws.length := by
 unfold d6
 induction ws with
 | nil => rfl
 | cons p ws ih => rw [List.flatMap_cons, List.length_append, ih]; simp; omega
theorem UP : ∀ (ws : List (Int × Int)) (j : Nat) (hj : j < ws.length), (d6 ws)[2 * j]? = some ws[j].1 ∧ (d6 ws)[2 * j + 1]? = some ws[j].2 := by
 intro ws
 induction ws with
 | nil => intro j hj; simp at hj
 | cons p ws ih =>
  intro j hj
  cases j with
  | zero => exact ⟨rfl, rfl⟩
  | succ j =>
   have h := ih j (by simpa using hj)
   have e : d6 (p :: ws) = p.1 :: p.2 :: d6 ws := rfl
   rw [e, show 2 * (j + 1) = 2 * j + 2 from by omega]
   exact h
theorem ZZ (x : Pt) : ∀ (l : List Pt) (k : Nat), k ≤ l.length → (∀ j p, k ≤ j → l[j]? = some p → x.step < p.step) → (∀ p, 0 < k → l[k - 1]? = some p → p.step ≤ x.step) → rx x l = l.take k ++ x :: l.drop k := by
 intro l
 induction l with
 | nil => intro k hk _ _; simp at hk; subst hk; rfl
 | cons y l ih =>
  intro k hk h1 h2
  cases k with
  | zero =>
   have hy := h1 0 y (Nat.le_refl _) rfl
   have hno : ¬ (y.step ≤ x.step ∨ (l.any fun z => decide (z.step ≤ x.step)) = true) := by
    rintro (h | h)
    ·omega
    ·obtain ⟨z, hz, hzs⟩ := List.any_eq_true.1 h
     obtain ⟨j, hj⟩ := List.mem_iff_getElem?.1 hz
     have := h1 (j + 1) z (by omega) (by simpa using hj)
     have hzs : z.step ≤ x.step := by simpa using hzs
     omega
   rw [rx, if_neg hno]
   rfl
  | succ k =>
   have hyes : y.step ≤ x.step ∨ (l.any fun z => decide (z.step ≤ x.step)) = true := by
    cases k with
    | zero => exact .inl (h2 y (by omega) rfl)
    | succ k =>
     right
     have hkl : k < l.length := by simp at hk; omega
     rw [List.any_eq_true]
     refine ⟨l[k], List.getElem_mem hkl, ?_⟩
     have := h2 l[k] (by omega) (by simp [hkl])
     simpa using this
   rw [rx, if_pos hyes, ih k (by simpa using hk) (fun j p hj hp => h1 (j + 1) p (by omega) (by simpa using hp)) (fun p hk0 hp => h2 p (by omega) (by
    rw [show k + 1 - 1 = (k - 1) + 1 from by omega]; simpa using hp))]
   rfl
theorem wH (l : List Pt) (x : Pt) : a8 (l ++ [x]) = rx x (a8 l) := by
 unfold a8
 rw [List.foldl_append]; rfl
theorem Un (x : Pt) : ∀ l : List Pt, (rx x l).length = l.length + 1 := by
 intro l
 induction l with
 | nil => rfl
 | cons y l ih => rw [rx]; split <;> simp [ih]
theorem rP (l : List Pt) : (a8 l).length = l.length := by
 have : ∀ (l acc : List Pt), (l.foldl (fun acc x => rx x acc) acc).length = acc.length + l.length := by
  intro l
  induction l with
  | nil => intro acc; rfl
  | cons x l ih => intro acc; rw [List.foldl_cons, ih, Un]; simp; omega
 have h := this l []
 simpa [a8] using h
theorem aeC (e b : Nat) (he : 0 < e) (H : AH) : dq e b (.slice none 0 0) (.slice none 0 0) H = some (.slice none 0 0, H) := by
 unfold dq
 have : j0 e (.slice none 0 0) H = some (0, []) := by simp [j0]
 rw [this]
 simp [he]
theorem adB {α : Type} {P R : SP} {H : AH} {e : Nat} {enc : α → List Value} {l : List α} {s : Value} (h : ae P H) [f : Ts P s α e enc l R] : s.cells.toList = [s] ∧ [s].all Value.oneCell' = true := by
 rcases lR h (enc := enc) (s := s) with ⟨rfl, _, _⟩ | ⟨bb, rfl, _⟩ <;> exact ⟨rfl, rfl⟩
theorem KB {α : Type} {P R : SP} {H : AH} {e : Nat} {enc : α → List Value} {l : List α} {s : Value} {lo hi : Option Value} {a b : Nat} (h : ae P H) [f : Ts P s α e enc l R] [E : Enc enc e] (hlo : (lo = none ∧ a = 0) ∨ ∃ k, lo = some (.int k (a : Int)))
 (hhi : (hi = none ∧ b = l.length) ∨ ∃ k, hi = some (.int k (b : Int))) (h1 : a ≤ b) (h2 : b ≤ l.length) : ∃ s', d5 e s lo hi = some s' ∧ Rd P s' e enc ((l.take b).drop a) := by
 haveI : Rd P s e enc l := by rw [f.eq]; infer_instance
 by_cases h0 : 0 < l.length
 ·exact abY h hlo hhi h1 h2 h0
 ·have hl : l = [] := List.eq_nil_of_length_eq_zero (by omega)
  subst hl
  have hb0 : b = 0 := by simpa using h2
  subst hb0
  have ha0 : a = 0 := by omega
  subst ha0
  have hpos := E.pos
  have rd0 : ∀ s', (∃ a c, s' = .slice a 0 c ∧ (a = none → c = 0) ∧ (∀ x, a = some x → ∃ b o, x = ⟨b, o, none⟩)) → Rd P s' e enc (([] : List α).take 0 |>.drop 0) := by
   rintro s' ⟨a, c, rfl, q1, q2⟩
   exact ⟨fun {H'} _ => ⟨by simp, .inl ⟨a, c, rfl, rfl, q1, q2⟩⟩⟩
  rcases lR h (enc := enc) (s := s) with ⟨rfl, _, _⟩ | ⟨bb, rfl, _⟩
  ·refine ⟨.slice none 0 0, ?_, rd0 _ ⟨none, 0, rfl, fun _ => rfl, fun x hx => (by cases hx)⟩⟩
   rcases hlo with ⟨rfl, _⟩ | ⟨k1, rfl⟩ <;> rcases hhi with ⟨rfl, _⟩ | ⟨k2, rfl⟩ <;> simp [d5, lI]
  ·refine ⟨.slice (some ⟨bb, 0, none⟩) 0 e, ?_, rd0 _ ⟨some ⟨bb, 0, none⟩, e, rfl, fun h => (by cases h), fun x hx => ⟨bb, 0, (Option.some.inj hx).symm⟩⟩⟩
   rcases hlo with ⟨rfl, _⟩ | ⟨k1, rfl⟩ <;> rcases hhi with ⟨rfl, _⟩ | ⟨k2, rfl⟩ <;> simp [d5, lI, hpos]
abbrev a7.begin (σ : a7) (who place : Int) : a7 := { σ with places := fun k => if k = who then some place else σ.places k, μ := { σ.μ with N := σ.μ.N + 1 } }
theorem ah4 (p : Nat) (rp : List Nat) (σ : a7) (who place : Int) : Sp fS [vp p, vi who, vi place] (bm p rp σ) (fun _ : Unit => .tuple #[]) (fun _ => bm p rp (σ.begin who place)) := by
 refine av fun R H h => ?_
 obtain ⟨g, hrp, hg, h0⟩ := ee h
 unfold aH at h0
 refine aw (fun r => pH _ _ _ H) ?_
 refine am h0 ac rfl ?_
 refine adK (ek := KP) who (vi place) h0 fun H1 h1 => ?_
 refine ap ⟨(), rfl, ?_⟩
 refine bo g hrp hg ?_
 unfold aH
 dsimp only
 have e : (fun k => ((if k = who then some place else σ.places k) : Option Int).map fun n => vi n) = fun x => if x = who then some (vi place) else (σ.places x).map fun n => vi n := by
  funext k
  split <;> rfl
 rw [e]
 have h2 := jl (V := σ.μ.V) (E := σ.μ.E) (N := σ.μ.N) (N' := σ.μ.N + 1) (by omega) (ae.fr (A := bd g.m σ.μ) h1)
 exact h2.to
theorem aj0 (p : Nat) (σ : a7) (who place : Int) (hN : σ.μ.N < 1000000000) : Sp ir [vp p, vi who, vi place] (bj p σ) (fun _ : Unit => .tuple #[]) (fun _ => bj p (σ.begin who place)) := by
 refine av fun R H h => ?_
 obtain ⟨g, ⟨hg1, hg2, hg3⟩, h0⟩ := ef h
 unfold ay at h0
 refine aw (fun r => sG _ _ _ H) ?_
 refine am h0 ac rfl ?_
 refine EN (cs := [vi who, vi place]) h0 rfl fun b H1 h1 => ?_
 have h2 := qP (e := 1) (enc := da) (l := [who, place]) h1
 refine wC (s := g.wv) (l := d6 g.ws) (m := [who, place]) h2 ?_ (by omega) fun v H2 h3 => ?_
 ·rw [nQ]; unfold cp; simp; omega
 have hc := adB (s := v) (enc := da) (l := d6 g.ws ++ [who, place]) h3
 haveI : s0 v [v] := ⟨hc.1⟩
 dsimp only
 refine aK h3 ac rfl hc.2 fun H3 h4 => ?_
 refine ap ⟨(), rfl, ?_⟩
 have e2 : d6 (g.ws ++ [(who, place)]) = d6 g.ws ++ [who, place] := by simp [d6]
 refine cG { g with wv := v, ws := g.ws ++ [(who, place)] } ⟨hg1, fun k => ?_, by simp; omega⟩ ?_
 ·show fI (g.ws ++ [(who, place)]) k = _
  rw [ue, hg2]
  show _ = ((if k = who then some place else σ.places k)).getD 0
  split <;> rfl
 unfold ay
 dsimp only
 rw [e2]
 have h5 := tZ (V := σ.μ.V) (E := σ.μ.E) (N := σ.μ.N) (N' := σ.μ.N + 1) (by omega) (ae.fr (A := bi g.m σ.μ) h4)
 have h6 := lx (L' := σ.μ.N + 1) (by omega) (ae.fr (A := fw g.ib g.m σ.c.sh σ.nx σ.μ.N) h5)
 exact h6.to
theorem ak8 (p : Nat) (g : XIds) (σ : a7) (step who code : Int) (hpl : fI g.ws who = (σ.places who).getD 0) (hw : g.ws.length < 1000000000) (hp : σ.pts.length < 900000) :
 Sp aaM [vp p, vi step, vi who, .agg (nc code).toArray] (ay p g σ) (fun _ : Value => .tuple #[]) (fun v => ay p { g with pv := v } (σ.note step who code)) := by
 refine av fun R H h => ?_
 refine aw (fun r => ajE _ _ _ _ H) ?_
 refine aG h fun rb H1 h1 => ?_
 refine ag (U6 _ _ _ _ _ H1) ?_
 refine ag (NH _ _ _ _ _ _ H1) ?_
 have place : ∀ (d j : Nat), j + d = g.ws.length → wp (NE (vp p) (vi step) (vi who) (vp rb) (vi (fI g.ws who)) H1) (fun v' H' => ∃ x : Value, v' = .tuple #[] ∧ ae (ay p { g with pv := x } (σ.note step who code) * R) H') →
  wp (zf (vp p) (vi step) (vi who) (vp rb) (vi (fI (g.ws.take j) who)) (vi ((2 * j : Nat) : Int)) H1) (fun v' H' => ∃ x : Value, v' = .tuple #[] ∧ ae (ay p { g with pv := x } (σ.note step who code) * R) H') := by
  have h2 := h1
  unfold ay at h2
  intro d
  induction d with
  | zero =>
   intro j hj hk
   refine ag (BW _ _ _ _ _ _ H1) ?_
   refine am h1 ac rfl ?_
   refine dH (s := g.wv) (l := d6 g.ws) h2 ?_
   rw [nQ]
   refine aa (bu (by omega)) ?_
   with_reducible repeat refine gg ?_
   refine ag (G4 _ _ _ _ _ H1) ?_
   rw [List.take_of_length_le (by omega)]
   exact hk
  | succ d ih =>
   intro j hj hk
   have hjl : j < g.ws.length := by omega
   obtain ⟨a1, a2⟩ := UP g.ws j hjl
   have hlen := nQ g.ws
   refine ag (BW _ _ _ _ _ _ H1) ?_
   refine am h1 ac rfl ?_
   refine dH (s := g.wv) (l := d6 g.ws) h2 ?_
   rw [nQ]
   refine aa (bI (by omega)) ?_
   with_reducible repeat refine gg ?_
   refine ag (NI _ _ _ _ _ _ H1) ?_
   refine am h1 ac rfl ?_
   refine iI (s := g.wv) (l := d6 g.ws) (i := 2 * j) (v := vi g.ws[j].1) h2 (by omega) ?_ ?_
   ·rw [List.getElem?_eq_getElem (by omega)] at a1
    rw [Option.some.inj a1]; rfl
   have next : ∀ pl : Int, fI (g.ws.take (j + 1)) who = pl → wp (zg (vp p) (vi step) (vi who) (vp rb) (vi pl) (vi ((2 * j : Nat) : Int)) H1) (fun v' H' => ∃ x : Value, v' = .tuple #[] ∧ ae (ay p { g with pv := x } (σ.note step who code) * R) H') := by
    intro pl hpl2
    refine ag (NJ _ _ _ _ _ _ H1) ?_
    refine aa (aC (by omega) (by omega)) ?_
    have := ih (j + 1) (by omega) hk
    rw [hpl2] at this
    rw [show ((2 * j : Nat) : Int) + 2 = ((2 * (j + 1) : Nat) : Int) from by omega]
    exact this
   have ht := GR g.ws who j hjl
   by_cases hwho : g.ws[j].1 = who
   ·refine aa (bp hwho) ?_
    with_reducible repeat refine gg ?_
    refine am h1 ac rfl ?_
    refine aa (aC (by omega) (by omega)) ?_
    rw [show ((2 * j : Nat) : Int) + 1 = ((2 * j + 1 : Nat) : Int) from by omega]
    refine iI (s := g.wv) (l := d6 g.ws) (i := 2 * j + 1) (v := vi g.ws[j].2) h2 (by omega) ?_ ?_
    ·rw [List.getElem?_eq_getElem (by omega)] at a2
     rw [Option.some.inj a2]; rfl
    exact next _ (by rw [ht, if_pos hwho.symm])
   ·refine aa (aS hwho) ?_
    with_reducible repeat refine gg ?_
    exact next _ (by rw [ht, if_neg (fun q => hwho q.symm)])
 refine place g.ws.length 0 (by omega) ?_
 rw [hpl]
 refine ag (U7 _ _ _ _ _ H1) ?_
 refine am h1 ah rfl ?_
 refine ag (show ((dq 3 24 (.slice none 0 0) (.slice none 0 0) H1).bind _) = _ from by rw [aeC 3 24 (by omega)]) ?_
 refine aK h1 ah rfl rfl fun H2 h2 => ?_
 refine am h2 ac rfl ?_
 have h2u := h2
 unfold ay at h2u
 have hlen := rP σ.pts
 refine dH (s := g.pv) (l := a8 σ.pts) h2u ?_
 refine ag (U8 _ _ _ _ _ _ H2) ?_
 -- behind all that are not behind it
 have put : ∀ k, k ≤ (a8 σ.pts).length → (∀ j p, k ≤ j → (a8 σ.pts)[j]? = some p → step < p.step) → (∀ p, 0 < k → (a8 σ.pts)[k - 1]? = some p → p.step ≤ step) →
  wp (NG (vp p) (vi step) (vi who) (vp rb) (vi ((σ.places who).getD 0)) (vi (k : Int)) H2) (fun v' H' => ∃ x : Value, v' = .tuple #[] ∧ ae (ay p { g with pv := x } (σ.note step who code) * R) H') := by
  intro k hk ha hb
  have hins := ZZ ⟨step, who, (σ.places who).getD 0, code⟩ (a8 σ.pts) k hk ha hb
  refine ag (U9 _ _ _ _ _ _ H2) ?_
  refine am h2 ac rfl ?_
  have q1 : ae (ts 7 Pt.cells g.pv (a8 σ.pts)) H2 := h2u.to
  obtain ⟨s1, e1, r1⟩ := KB (s := g.pv) (l := a8 σ.pts) (lo := none) (hi := some (vi (k : Int))) (a := 0) (b := k) q1 (.inl ⟨rfl, rfl⟩) (.inr ⟨_, rfl⟩) (Nat.zero_le _) hk
  refine aa e1 ?_
  have h3 := cY 7 Pt.cells h2u
  refine wC (s := .slice none 0 0) (l := ([] : List Pt)) (m := ((a8 σ.pts).take k).drop 0) h3 ?_ (by omega) fun v3 H3 h4 => ?_
  ·unfold cp; simp only [List.length_drop, List.length_take, List.length_nil]; omega
  rw [List.nil_append, List.drop_zero] at h4
  refine aL h4 ?_
  refine dO ?_
  refine jH h4 fun b0 H5 h5 => ?_
  refine fW (s := v3) (l := (a8 σ.pts).take k) (⟨step, who, (σ.places who).getD 0, code⟩ : Pt) h5 rfl ?_ (by omega) fun a cc H6 h6 => ?_
  ·unfold cp; simp only [List.length_take]; omega
  refine am h6 ac rfl ?_
  have q2 : ae (ts 7 Pt.cells g.pv (a8 σ.pts)) H6 := h6.to
  obtain ⟨s2, e2, r2⟩ := KB (s := g.pv) (l := a8 σ.pts) (lo := some (vi (k : Int))) (hi := none) (a := k) (b := (a8 σ.pts).length) q2 (.inr ⟨_, rfl⟩) (.inl ⟨rfl, rfl⟩) hk (Nat.le_refl _)
  refine aa e2 ?_
  refine wC (s := .slice a (((a8 σ.pts).take k).length + 1) cc) (l := (a8 σ.pts).take k ++ [(⟨step, who, (σ.places who).getD 0, code⟩ : Pt)]) (m := ((a8 σ.pts).take (a8 σ.pts).length).drop k) h6 ?_ (by omega) fun v4 H7 h7 => ?_
  ·unfold cp; simp only [List.length_drop, List.length_take, List.length_append, List.length_cons, List.length_nil]; omega
  have hc := adB (s := v4) (enc := Pt.cells) (l := ((a8 σ.pts).take k ++ [(⟨step, who, (σ.places who).getD 0, code⟩ : Pt)]) ++ ((a8 σ.pts).take (a8 σ.pts).length).drop k) h7
  haveI : s0 v4 [v4] := ⟨hc.1⟩
  dsimp only
  refine aK h7 ac rfl hc.2 fun H8 h8 => ?_
  refine ap ⟨v4, rfl, ?_⟩
  have e3 : a8 (σ.note step who code).pts = ((a8 σ.pts).take k ++ [(⟨step, who, (σ.places who).getD 0, code⟩ : Pt)]) ++ ((a8 σ.pts).take (a8 σ.pts).length).drop k := by
   show a8 (σ.pts ++ [_]) = _
   rw [wH, hins, List.take_length]
   simp
  unfold ay
  dsimp only
  rw [e3]
  exact h8.to
 have down : ∀ (k : Nat), k ≤ (a8 σ.pts).length → (∀ j p, k ≤ j → (a8 σ.pts)[j]? = some p → step < p.step) →
  wp (ze (vp p) (vi step) (vi who) (vp rb) (vi ((σ.places who).getD 0)) (vi (k : Int)) H2) (fun v' H' => ∃ x : Value, v' = .tuple #[] ∧ ae (ay p { g with pv := x } (σ.note step who code) * R) H') := by
  intro k
  induction k with
  | zero =>
   intro hk ha
   refine ag (BV _ _ _ _ _ _ H2) ?_
   refine aa (gT (by omega)) ?_
   with_reducible repeat refine gg ?_
   refine ag (uA _ _ _ _ _ _ H2) ?_
   exact put 0 hk ha (fun p h => absurd h (by omega))
  | succ k ih =>
   intro hk ha
   have hkl : k < (a8 σ.pts).length := by omega
   refine ag (BV _ _ _ _ _ _ H2) ?_
   refine aa (mJ (by omega)) ?_
   with_reducible repeat refine gg ?_
   refine am h2 ac rfl ?_
   with_reducible repeat refine gg ?_
   refine aa (ba (by omega) (by omega)) ?_
   rw [show ((k + 1 : Nat) : Int) - 1 = (k : Int) from by omega]
   with_reducible repeat refine gg ?_
   refine Cy (s := g.pv) (l := a8 σ.pts) (v := vi ((a8 σ.pts)[k]).step) h2u hkl (by omega) rfl ?_
   with_reducible repeat refine gg ?_
   by_cases hs : step < ((a8 σ.pts)[k]).step
   ·refine aa (mJ hs) ?_
    with_reducible repeat refine gg ?_
    refine ag (NF _ _ _ _ _ _ H2) ?_
    refine aa (ba (by omega) (by omega)) ?_
    rw [show ((k + 1 : Nat) : Int) - 1 = (k : Int) from by omega]
    refine ih (by omega) fun j p hj hp => ?_
    by_cases e : j = k
    ·subst e
     rw [List.getElem?_eq_getElem hkl] at hp
     rw [← Option.some.inj hp]; exact hs
    ·exact ha j p (by omega) hp
   ·refine aa (gT hs) ?_
    with_reducible repeat refine gg ?_
    refine ag (uA _ _ _ _ _ _ H2) ?_
    refine put (k + 1) hk ha fun p _ hp => ?_
    rw [show k + 1 - 1 = k from by omega, List.getElem?_eq_getElem hkl] at hp
    rw [← Option.some.inj hp]; omega
 exact down (a8 σ.pts).length (Nat.le_refl _) fun j p hj hp => by
  rw [List.getElem?_eq_none hj] at hp; cases hp
abbrev TP := Nat × Pt
def ltT (a b : TP) : Prop := a.2.step < b.2.step ∨ a.2.step = b.2.step ∧ a.1 < b.1
def jF (L : List TP) : Prop := L.Pairwise ltT
def xE (X Y : List TP) : Prop := ∀ x ∈ X, ∀ y ∈ Y, x.1 < y.1
def Asc (L : List TP) : Prop := L.Pairwise fun a b => a.1 < b.1
abbrev pl (L : List TP) : List Pt := L.map fun x : TP => x.2
theorem GD {a b : TP} (h : ltT a b) : a.2.step ≤ b.2.step := by rcases h with h | h <;> omega
theorem cj {X Y : List TP} : jF (X ++ Y) ↔ jF X ∧ jF Y ∧ ∀ x ∈ X, ∀ y ∈ Y, ltT x y := List.pairwise_append
theorem fp {x : TP} {Y : List TP} : jF (x :: Y) ↔ (∀ y ∈ Y, ltT x y) ∧ jF Y := List.pairwise_cons
theorem HB : jF [] := List.Pairwise.nil
theorem RY (x : TP) : jF [x] := List.pairwise_singleton _ _
theorem Oz : ∀ (L1 L2 : List TP), jF L1 → jF L2 → L1.Perm L2 → L1 = L2 := by
 intro L1
 induction L1 with
 | nil => intro L2 _ _ h; exact (List.nil_perm.1 h).symm
 | cons x L1 ih =>
  intro L2 h1 h2 h
  cases L2 with
  | nil => exact absurd h.length_eq (by simp)
  | cons y L2 =>
   have hx : x ∈ y :: L2 := h.mem_iff.1 (List.mem_cons_self ..)
   have hy : y ∈ x :: L1 := h.mem_iff.2 (List.mem_cons_self ..)
   have e : x = y := by
    rcases List.mem_cons.1 hx with e | hx
    ·exact e
    ·rcases List.mem_cons.1 hy with e | hy
     ·exact e.symm
     ·have a1 := (fp.1 h2).1 x hx
      have a2 := (fp.1 h1).1 y hy
      rcases a1 with a1 | a1 <;> rcases a2 with a2 | a2 <;> omega
   subst e
   rw [ih L2 (fp.1 h1).2 (fp.1 h2).2 (h.cons_inv)]
def oH : Nat → List Pt → List TP
 | _, [] => []
 | n, x :: l => (n, x) :: oH (n + 1) l
theorem Q5 : ∀ (l : List Pt) (n : Nat), pl (oH n l) = l := by
 intro l
 induction l with
 | nil => intro n; rfl
 | cons x l ih => intro n; show x :: pl (oH (n + 1) l) = _; rw [ih]
theorem afU : ∀ (l : List Pt) (n : Nat), ∀ x ∈ oH n l, n ≤ x.1 := by
 intro l
 induction l with
 | nil => intro n x hx; cases hx
 | cons y l ih =>
  intro n x hx
  rcases List.mem_cons.1 hx with e | hx
  ·subst e; exact Nat.le_refl _
  ·have := ih (n + 1) x hx; omega
theorem JC : ∀ (l : List Pt) (n : Nat), Asc (oH n l) := by
 intro l
 induction l with
 | nil => intro n; exact .nil
 | cons x l ih =>
  intro n
  refine List.pairwise_cons.2 ⟨fun y hy => ?_, ih (n + 1)⟩
  have := afU l (n + 1) y hy
  show n < y.1
  omega
theorem DZ : ∀ (l : List Pt) (n : Nat) (x : Pt), oH n (l ++ [x]) = oH n l ++ [(n + l.length, x)] := by
 intro l
 induction l with
 | nil => intro n x; rfl
 | cons y l ih =>
  intro n x
  show (n, y) :: oH (n + 1) (l ++ [x]) = (n, y) :: (oH (n + 1) l ++ _)
  rw [ih, List.length_cons, show n + 1 + l.length = n + (l.length + 1) from by omega]
def Jl (x : TP) : List TP → List TP
 | [] => [x]
 | y :: l => if y.2.step ≤ x.2.step ∨ (l.any fun z => decide (z.2.step ≤ x.2.step)) = true then y :: Jl x l else x :: y :: l
theorem afK (x : TP) : ∀ L, pl (Jl x L) = rx x.2 (pl L) := by
 intro L
 induction L with
 | nil => rfl
 | cons y L ih =>
  have e : ((pl L).any fun z => decide (z.step ≤ x.2.step)) = L.any fun z => decide (z.2.step ≤ x.2.step) := by rw [List.any_map]; rfl
  show pl (if _ then _ else _) = (if _ then _ else _)
  rw [e]
  split
  ·show y.2 :: pl (Jl x L) = _; rw [ih]
  ·rfl
theorem DP (x : TP) : ∀ L, (Jl x L).Perm (x :: L) := by
 intro L
 induction L with
 | nil => exact List.Perm.refl _
 | cons y L ih =>
  rw [Jl]
  split
  ·exact (ih.cons y).trans (List.Perm.swap x y L)
  ·exact List.Perm.refl _
theorem Z0 (x : TP) : ∀ L, jF L → (∀ y ∈ L, y.1 < x.1) → jF (Jl x L) := by
 intro L
 induction L with
 | nil => intro _ _; exact RY x
 | cons y L ih =>
  intro hs hb
  obtain ⟨h1, h2⟩ := fp.1 hs
  have hyx := hb y (List.mem_cons_self ..)
  rw [Jl]
  split
  ·rename_i hc
   have hle : y.2.step ≤ x.2.step := by
    rcases hc with hc | hc
    ·exact hc
    ·obtain ⟨z, hz, hzs⟩ := List.any_eq_true.1 hc
     have := GD (h1 z hz)
     have hzs : z.2.step ≤ x.2.step := by simpa using hzs
     omega
   refine fp.2 ⟨fun z hz => ?_, ih h2 fun z hz => hb z (List.mem_cons_of_mem _ hz)⟩
   rcases List.mem_cons.1 ((DP x L).mem_iff.1 hz) with e | hz
   ·subst e
    unfold ltT
    omega
   ·exact h1 z hz
  ·rename_i hc
   have hlt : x.2.step < y.2.step := by
    have : ¬ y.2.step ≤ x.2.step := fun q => hc (.inl q)
    omega
   refine fp.2 ⟨fun z hz => ?_, hs⟩
   rcases List.mem_cons.1 hz with e | hz
   ·subst e; exact .inl hlt
   ·have := GD (h1 z hz)
    exact .inl (by omega)
theorem K8 (l : List Pt) : ∃ Z, jF Z ∧ Z.Perm (oH 0 l) ∧ pl Z = a8 l := by
 have gen : ∀ (r : List Pt), ∃ Z, jF Z ∧ Z.Perm (oH 0 r.reverse) ∧ pl Z = a8 r.reverse := by
  intro r
  induction r with
  | nil => exact ⟨[], HB, List.Perm.refl _, rfl⟩
  | cons x r ih =>
   obtain ⟨Z, h1, h2, h3⟩ := ih
   rw [List.reverse_cons, DZ, wH]
   refine ⟨Jl (0 + r.reverse.length, x) Z, Z0 _ _ h1 fun y hy => ?_, ?_, ?_⟩
   ·have hy := h2.mem_iff.1 hy
    have := JC (r.reverse ++ [x]) 0
    rw [DZ] at this
    exact (List.pairwise_append.1 this).2.2 y hy _ (List.mem_cons_self ..)
   ·refine (DP _ _).trans ?_
    exact (h2.cons _).trans (List.perm_append_comm (l₁ := [_]) (l₂ := oH 0 r.reverse))
   ·rw [afK, h3]
 have := gen l.reverse
 rw [List.reverse_reverse] at this
 exact this
theorem SA {l : List Pt} {Z : List TP} (h1 : jF Z) (h2 : Z.Perm (oH 0 l)) : pl Z = a8 l := by
 obtain ⟨Z', g1, g2, g3⟩ := K8 l
 rw [Oz Z Z' h1 g1 (h2.trans g2.symm), g3]
inductive OW (bs : Nat) : List TP → Prop
 | last {X : List TP} (h1 : X.length ≤ bs) (h2 : jF X) : OW bs X
 | cons {X L : List TP} (h1 : X.length = bs) (h2 : jF X) (h3 : xE X L) (h4 : OW bs L) : OW bs (X ++ L)
theorem OW.nil {bs : Nat} : OW bs [] := .last (by simp) HB
theorem OW.split {bs : Nat} {L : List TP} (h : OW bs L) (hl : bs ≤ L.length) : ∃ X L2, L = X ++ L2 ∧ X.length = bs ∧ jF X ∧ xE X L2 ∧ OW bs L2 := by
 cases h with
 | last h1 h2 => exact ⟨L, [], by simp, by omega, h2, (fun x _ y hy => by cases hy), .nil⟩
 | @cons X L' h1 h2 h3 h4 => exact ⟨X, L', rfl, h1, h2, h3, h4⟩
theorem OW.short {bs : Nat} {L : List TP} (h : OW bs L) (hl : L.length ≤ bs) : jF L := by
 cases h with
 | last h1 h2 => exact h2
 | @cons X L' h1 h2 h3 h4 =>
  have : L'.length = 0 := by rw [List.length_append] at hl; omega
  have : L' = [] := List.eq_nil_of_length_eq_zero this
  subst this
  rw [List.append_nil]; exact h2
theorem xE.left {X X2 Y : List TP} (h : xE (X ++ X2) Y) : xE X Y := fun x hx y hy => h x (List.mem_append_left _ hx) y hy
theorem xE.perm {X X' Y Y' : List TP} (h : xE X Y) (hx : X'.Perm X) (hy : Y'.Perm Y) : xE X' Y' := fun x h1 y h2 => h x (hx.mem_iff.1 h1) y (hy.mem_iff.1 h2)
theorem xE.sub {X X' Y Y' : List TP} (h : xE X Y) (hx : ∀ x ∈ X', x ∈ X) (hy : ∀ y ∈ Y', y ∈ Y) : xE X' Y' := fun x h1 y h2 => h x (hx x h1) y (hy y h2)
theorem K4 {X Y : List TP} : Asc (X ++ Y) ↔ Asc X ∧ Asc Y ∧ xE X Y := List.pairwise_append
theorem sW {x : OV} {Q Q' : Value → AH → Prop} (f : ∀ v H, Q v H → Q' v H) (k : wp x Q) : wp x Q' := let ⟨v, H, e, q⟩ := k; ⟨v, H, e, f _ _ q⟩
theorem wy (s : Value) (l : List Pt) (hl : l.length ≤ 1000000) : Sp aaQ [s] (ts 7 Pt.cells s l) (fun v : Value => v) (fun v => ts 7 Pt.cells v l * ts 7 Pt.cells s l) := by
 refine av fun R H h => ?_
 refine aw (fun r => ajL _ H) ?_
 rcases lR (s := s) (l := l) h with ⟨rfl, rfl, h0⟩ | ⟨b, rfl, h0⟩
 ·refine aa (v := vb true) rfl ?_
  with_reducible repeat refine gg ?_
  refine ap ⟨_, rfl, ?_⟩
  have h1 := cY 7 Pt.cells h
  exact h1.to
 ·refine aa (v := vb false) rfl ?_
  with_reducible repeat refine gg ?_
  refine EN (cs := []) h rfl fun b1 H1 h1 => ?_
  have h2 : ae (ts 7 Pt.cells (vs b1 0 7) [] * (ts 7 Pt.cells (vs b l.length 7) l * R)) H1 := qP (enc := Pt.cells) (l := []) h1
  refine wC (x := vs b l.length 7) (m := l) h2 (by unfold cp; simp; omega) (by omega) fun v H2 h3 => ?_
  rw [List.nil_append] at h3
  exact ap ⟨v, rfl, h3.to⟩
theorem JQ (x2 s : Value) (l : List Pt) (hl : l.length ≤ 1000000) {P R : SP} : ∀ (d i : Nat) (o : Value) (H : AH), i + d = l.length → ae (ts 7 Pt.cells o (l.take i) * (ts 7 Pt.cells s l * P) * R) H →
 wp (GN x2 o s (vi l.length) (vi i) H) fun v' H' => ∃ v : Value, v' = v ∧ ae (ts 7 Pt.cells v l * (ts 7 Pt.cells s l * P) * R) H' := by
 intro d
 induction d with
 | zero =>
  intro i o H hi h
  refine ag (D6 _ _ _ _ _ H) ?_
  refine aa (bu (by omega)) ?_
  with_reducible repeat refine gg ?_
  refine ag (JI _ _ H) ?_
  refine ag (UJ _ _ H) ?_
  rw [List.take_of_length_le (by omega)] at h
  exact ap ⟨_, rfl, h⟩
 | succ d ih =>
  intro i o H hi h
  have hil : i < l.length := by omega
  refine ag (D6 _ _ _ _ _ H) ?_
  refine aa (bI (by omega)) ?_
  with_reducible repeat refine gg ?_
  refine ag (UL _ _ _ _ _ H) ?_
  refine OL (s := s) (l := l) h hil ?_
  refine aO h fun b H1 h1 => ?_
  refine bX h1 rfl rfl fun H2 h2 => ?_
  refine aW h2 ah ?_
  refine af h2 (rH l[i].e) fun _ H3 h3 => ?_
  refine aK h3 ah rfl rfl fun H4 h4 => ?_
  refine aL h4 ?_
  refine jH h4 fun b0 H5 h5 => ?_
  refine fW (s := o) (l := l.take i) (l[i] : Pt) h5 rfl ?_ (by omega) fun a c H6 h6 => ?_
  ·unfold cp; simp only [List.length_take]; omega
  refine ag (UM _ _ _ _ _ H6) ?_
  refine aa (aC (by omega) (by omega)) ?_
  refine ih (i + 1) _ H6 (by omega) ?_
  rw [List.take_succ_eq_append_getElem hil]
  exact h6.to
theorem Bi : Sp ei [.slice none 0 0, .slice none 0 0] emp (fun _ : Unit => vb true) (fun _ => emp) := by
 have same : ∀ f : Value, Sp py [.slice none 0 0, .slice none 0 0, f] emp (fun _ : Unit => vb true) (fun _ => emp) := by
  intro f
  refine av fun R H h => ?_
  refine aw (fun r => Gt _ _ _ H) ?_
  refine b6 ?_
  refine b6 ?_
  refine aa (xh rfl) ?_
  with_reducible repeat refine gg ?_
  refine ag (xM _ _ _ _ H) ?_
  refine ag (xO _ _ _ _ _ H) ?_
  refine ag (xR _ _ _ _ _ H) ?_
  refine b6 ?_
  refine aa (bu (by omega)) ?_
  with_reducible repeat refine gg ?_
  refine ag (tN _ H) ?_
  refine ag (xN _ H) ?_
  exact ap ⟨(), rfl, h⟩
 refine av fun R H h => ?_
 refine aw (fun r => mK _ _ H) ?_
 refine af h (same _) fun _ H1 h1 => ?_
 exact ap ⟨(), rfl, h1.to⟩
theorem Ji (e : Int) : Sp nL [.agg (nc e).toArray, .agg (nc e).toArray] emp (fun _ : Unit => vb true) (fun _ => emp) := by
 refine av fun R H h => ?_
 refine aw (fun r => Jh _ _ H) ?_
 refine aG h fun b1 H1 h1 => ?_
 refine aG h1 fun b2 H2 h2 => ?_
 refine am h2 ah rfl ?_
 refine am h2 ah rfl ?_
 refine aa (bp rfl) ?_
 with_reducible repeat refine gg ?_
 refine am h2 ah rfl ?_
 with_reducible repeat refine gg ?_
 refine am h2 ah rfl ?_
 with_reducible repeat refine gg ?_
 refine aa (bp rfl) ?_
 with_reducible repeat refine gg ?_
 refine am h2 ah rfl ?_
 with_reducible repeat refine gg ?_
 refine am h2 ah rfl ?_
 with_reducible repeat refine gg ?_
 refine aa (bp rfl) ?_
 with_reducible repeat refine gg ?_
 refine am h2 ah rfl ?_
 with_reducible repeat refine gg ?_
 refine am h2 ah rfl ?_
 with_reducible repeat refine gg ?_
 refine af h2 Bi fun _ H3 h3 => ?_
 with_reducible repeat refine gg ?_
 exact ap ⟨(), rfl, h3.to⟩
theorem MS (x : Pt) : Sp dA [.agg (Pt.cells x).toArray, .agg (Pt.cells x).toArray] emp (fun _ : Unit => vb true) (fun _ => emp) := by
 refine av fun R H h => ?_
 refine aw (fun r => CX _ _ H) ?_
 refine aG h fun b1 H1 h1 => ?_
 refine aG h1 fun b2 H2 h2 => ?_
 refine am h2 ah rfl ?_
 refine am h2 ah rfl ?_
 refine aa (bp rfl) ?_
 with_reducible repeat refine gg ?_
 refine am h2 ah rfl ?_
 with_reducible repeat refine gg ?_
 refine am h2 ah rfl ?_
 with_reducible repeat refine gg ?_
 refine aa (bp rfl) ?_
 with_reducible repeat refine gg ?_
 refine am h2 ah rfl ?_
 with_reducible repeat refine gg ?_
 refine am h2 ah rfl ?_
 with_reducible repeat refine gg ?_
 refine aa (bp rfl) ?_
 with_reducible repeat refine gg ?_
 refine aW h2 ah ?_
 with_reducible repeat refine gg ?_
 refine aW h2 ah ?_
 with_reducible repeat refine gg ?_
 refine af h2 (Ji x.e) fun _ H3 h3 => ?_
 with_reducible repeat refine gg ?_
 exact ap ⟨(), rfl, h3.to⟩
section
variable {α : Type}
theorem ah3 (A B : List α) (x : α) : (A ++ x :: B)[A.length]? = some x := by simp
theorem qd {A B : List α} {x : α} {i : Nat} (h : i = A.length) : (A ++ x :: B)[i]? = some x := by subst h; exact ah3 A B x
theorem af1 (A B : List α) (x y : α) : (A ++ x :: B).set A.length y = A ++ y :: B := by simp
theorem uN {A B : List α} {x y : α} {i : Nat} (h : i = A.length) : (A ++ x :: B).set i y = A ++ y :: B := by subst h; exact af1 A B x y
theorem ahO {A B C : List α} {x y : α} {i j : Nat} (hi : i = A.length) (hj : j = A.length + 1 + B.length) : ((A ++ x :: (B ++ y :: C)).set i y).set j x = A ++ y :: (B ++ x :: C) := by
 rw [uN hi]
 have e : A ++ y :: (B ++ y :: C) = (A ++ y :: B) ++ y :: C := by simp
 rw [e, uN (by simp; omega)]
 simp
theorem ac3 {A B C : List α} {x y : α} {i j : Nat} (hi : i = A.length) (hj : j = A.length + 1 + B.length) : ((A ++ x :: (B ++ y :: C)).set j x).set i y = A ++ y :: (B ++ x :: C) := by
 have e : A ++ x :: (B ++ y :: C) = (A ++ x :: B) ++ y :: C := by simp
 rw [e, uN (by simp; omega)]
 have e2 : (A ++ x :: B) ++ x :: C = A ++ x :: (B ++ x :: C) := by simp
 rw [e2, uN hi]
theorem at2 {A B C : List α} {x y : α} {j : Nat} (hj : j = A.length + 1 + B.length) : (A ++ x :: (B ++ y :: C))[j]? = some y := by
 have e : A ++ x :: (B ++ y :: C) = (A ++ x :: B) ++ y :: C := by simp
 rw [e]
 exact qd (by simp; omega)
end
section
variable {P R : SP} {H : AH} {s : Value} {l : List Pt} {Q : Value → AH → Prop}
theorem oC {i : Nat} {ii : Int} {x : Pt} {k : Value → OV} (hi : ii = i) (h : ae P H) [f : Ts P s Pt 7 Pt.cells l R] (hx : l[i]? = some x) (hk : wp (k (.agg (Pt.cells x).toArray)) Q) : wp (ldN 7 [.i 7 (vi ii)] s H k) Q := by
 subst hi
 obtain ⟨hil, e⟩ := List.getElem?_eq_some_iff.1 hx
 refine OL (s := s) (l := l) (i := i) h hil ?_
 rw [e]
 exact hk
theorem HI {i : Nat} {ii : Int} {x : Pt} {k : AH → OV} (hi : ii = i) (h : ae P H) [f : Ts P s Pt 7 Pt.cells l R] (hl : i < l.length) (hk : ∀ H', ae (ts 7 Pt.cells s (l.set i x) * R) H' → wp (k H') Q) : wp (st 7 [.i 7 (vi ii)] s (.agg (Pt.cells x).toArray) H k) Q := by
 subst hi
 exact EO (s := s) (l := l) (i := i) x h hl (.inl ⟨rfl, rfl⟩) rfl (by omega) rfl rfl fun H' h' => hk H' h'.to
theorem OK {i j : Nat} {ii jj : Int} {x y : Pt} {k : AH → OV} (hi : ii = i) (hj : jj = j) (h : ae P H) [f : Ts P s Pt 7 Pt.cells l R] (hx : l[i]? = some x) (hy : l[j]? = some y)
 (hk : ∀ H', ae (ts 7 Pt.cells s ((l.set i y).set j x) * R) H' → wp (k H') Q) :
 wp (ldN 7 [.i 7 (vi jj)] s H fun v16 => ldN 7 [.i 7 (vi ii)] s H fun v17 => st 7 [.i 7 (vi ii)] s v16 H fun H18 => st 7 [.i 7 (vi jj)] s v17 H18 k) Q := by
 obtain ⟨hil, _⟩ := List.getElem?_eq_some_iff.1 hx
 obtain ⟨hjl, _⟩ := List.getElem?_eq_some_iff.1 hy
 refine oC hj h hy ?_
 refine oC hi h hx ?_
 refine HI hi h hil fun H1 h1 => ?_
 refine HI hj h1 (by rw [List.length_set]; exact hjl) fun H2 h2 => ?_
 exact hk H2 h2.to
end
theorem alL {cl : TCls} {w : Nat} : ai cl .shr (vu w) (vw 1) = some (vu (w / 2)) := by
 have := u3 (cl := cl) (a := w) (k := .u64) (n := 1) (by omega)
 simpa using this
theorem R7 {i j : Nat} {ii jj : Int} {k : Value → OV} {Q : Value → AH → Prop} (hi : ii = i) (hj : jj = j) (hb : i + j < 4611686018427387904) (hk : wp (k (vi (((i + j) / 2 : Nat) : Int))) Q) :
 wp ((ai .other .add (vi ii) (vi jj)).bind fun a => (bJ (some .u64) a).bind fun b => (ai .other .shr b (vw 1)).bind fun c => (bJ (some .i64) c).bind k) Q := by
 subst hi hj
 refine aa (aC (by omega) (by omega)) ?_
 refine aa (dk (by omega) (by omega)) ?_
 rw [show ((i : Int) + (j : Int)).toNat = i + j from by omega]
 refine aa (alL) ?_
 refine aa (gc (by omega)) ?_
 exact hk
def SD (a b : Pt) : Int := if a.step < b.step then -1 else if b.step < a.step then 1 else 0
theorem aeI (a b : Int) : Sp iV [vi a, vi b] emp (fun _ : Unit => vi (if a < b then -1 else if b < a then 1 else 0)) (fun _ => emp) := by
 have nan : ∀ x : Int, Sp ie [vi x] emp (fun _ : Unit => vb false) (fun _ => emp) := by
  intro x
  refine av fun R H h => ?_
  refine aw (fun r => xH _ H) ?_
  refine aa (xh rfl) ?_
  exact ap ⟨(), rfl, h⟩
 refine av fun R H h => ?_
 refine aw (fun r => te _ _ H) ?_
 refine af h (nan a) fun _ H1 h1 => ?_
 refine af h1 (nan b) fun _ H2 h2 => ?_
 refine Cv ?_
 refine Cv ?_
 by_cases h1 : a < b
 ·refine aa (bI h1) ?_
  with_reducible repeat refine gg ?_
  exact ap ⟨(), by rw [if_pos h1], h2.to⟩
 ·refine aa (bu h1) ?_
  with_reducible repeat refine gg ?_
  by_cases h3 : b < a
  ·refine aa (mJ h3) ?_
   with_reducible repeat refine gg ?_
   exact ap ⟨(), by rw [if_neg h1, if_pos h3], h2.to⟩
  ·refine aa (gT h3) ?_
   with_reducible repeat refine gg ?_
   exact ap ⟨(), by rw [if_neg h1, if_neg h3], h2.to⟩
theorem UC (a b : Pt) : Sp cT [.agg (Pt.cells a).toArray, .agg (Pt.cells b).toArray] emp (fun _ : Unit => vi (SD a b)) (fun _ => emp) := by
 refine av fun R H h => ?_
 refine aw (fun r => pI _ _ H) ?_
 refine aG h fun b1 H1 h1 => ?_
 refine aG h1 fun b2 H2 h2 => ?_
 refine am h2 ah rfl ?_
 refine am h2 ah rfl ?_
 refine af h2 (aeI a.step b.step) fun _ H3 h3 => ?_
 exact ap ⟨(), rfl, h3.to⟩
theorem yJ {a b : Pt} (h : a.step < b.step) : ai .other .lss (vi (SD a b)) (vi 0) = some (vb true) := by
 rw [SD, if_pos h]; exact bI (by omega)
theorem yI {a b : Pt} (h : ¬ a.step < b.step) : ai .other .lss (vi (SD a b)) (vi 0) = some (vb false) := by
 rw [SD, if_neg h]
 split <;> exact bu (by omega)
abbrev kX : Value := .func (.func cT) #[] #[]
theorem R9 {P : SP} {H : AH} {Q : Value → AH → Prop} {a b : Pt} {k : Value × AH → OV} (h : ae P H) (hk : ∀ H', ae P H' → wp (k (vi (SD a b), H')) Q) :
 wp (((bM kX [.agg (Pt.cells a).toArray, .agg (Pt.cells b).toArray]).bind fun c => FF c.1 c.2 H).bind k) Q := by
 refine ag (show ((bM kX [.agg (Pt.cells a).toArray, .agg (Pt.cells b).toArray]).bind fun c => FF c.1 c.2 H).bind k = (FF cT [.agg (Pt.cells a).toArray, .agg (Pt.cells b).toArray] H).bind k from rfl) ?_
 refine af h (UC a b) fun _ H1 h1 => ?_
 exact hk H1 h1.to
theorem sQ (s f : Value) (P M : List Pt) (Q : List Pt) : ∀ (X Y : List Pt), X.length = Y.length → P.length + X.length + M.length + Y.length < 4000000 →
 Sp JB [s, vi ((P.length : Nat) : Int), vi ((P.length + X.length + M.length : Nat) : Int), vi ((X.length : Nat) : Int), f] (ts 7 Pt.cells s (P ++ (X ++ (M ++ (Y ++ Q))))) (fun _ : Unit => .tuple #[]) (fun _ => ts 7 Pt.cells s (P ++ (Y ++ (M ++ (X ++ Q))))) := by
 intro X Y hXY hb
 refine av fun R H h => ?_
 refine aw (fun r => ajR _ _ _ _ _ H) ?_
 refine ag (VG ..) ?_
 have loop : ∀ (X2 Y2 X1 Y1 : List Pt) (H : AH), X1 ++ X2 = X → Y1 ++ Y2 = Y → X1.length = Y1.length → ae (ts 7 Pt.cells s ((P ++ Y1) ++ (X2 ++ (M ++ (X1 ++ (Y2 ++ Q))))) * R) H →
  wp (Hw s (vi ((P.length : Nat) : Int)) (vi ((P.length + X.length + M.length : Nat) : Int)) (vi ((X.length : Nat) : Int)) (vi ((X1.length : Nat) : Int)) H) fun v' H' => ∃ x : Unit, v' = .tuple #[] ∧ ae (ts 7 Pt.cells s (P ++ (Y ++ (M ++ (X ++ Q)))) * R) H' := by
  intro X2
  induction X2 with
  | nil =>
   intro Y2 X1 Y1 H hX hY hl hh
   rw [List.append_nil] at hX
   subst hX
   have : Y2 = [] := by
    have := congrArg List.length hY
    rw [List.length_append] at this
    exact List.eq_nil_of_length_eq_zero (by omega)
   subst this
   rw [List.append_nil] at hY
   subst hY
   refine ag (Ez ..) ?_
   refine aa (bu (by omega)) ?_
   with_reducible repeat refine gg ?_
   refine ag (Kj ..) ?_
   refine ap ⟨(), rfl, ?_⟩
   simpa using hh
  | cons x X2 ih =>
   intro Y2 X1 Y1 H hX hY hl hh
   have hxl := congrArg List.length hX
   have hyl := congrArg List.length hY
   simp only [List.length_append, List.length_cons] at hxl hyl
   cases Y2 with
   | nil => simp only [List.length_nil] at hyl; omega
   | cons y Y2 =>
    simp only [List.length_cons] at hyl
    refine ag (Ez ..) ?_
    refine aa (bI (by omega)) ?_
    with_reducible repeat refine gg ?_
    refine ag (VH ..) ?_
    refine aa (aC (by omega) (by omega)) ?_
    refine aa (aC (by omega) (by omega)) ?_
    refine aa (aC (by omega) (by omega)) ?_
    have e : (P ++ Y1) ++ ((x :: X2) ++ (M ++ (X1 ++ ((y :: Y2) ++ Q)))) = (P ++ Y1) ++ x :: ((X2 ++ (M ++ X1)) ++ y :: (Y2 ++ Q)) := by simp
    rw [e] at hh
    refine oC (i := P.length + X.length + M.length + X1.length) (by omega) hh (at2 (by simp; omega)) ?_
    refine aa (aC (by omega) (by omega)) ?_
    refine oC (i := P.length + X1.length) (by omega) hh (qd (by simp; omega)) ?_
    refine HI (i := P.length + X1.length) (by omega) hh (by simp; omega) fun H1 h1 => ?_
    refine HI (i := P.length + X.length + M.length + X1.length) (by omega) h1 (by simp; omega) fun H2 h2 => ?_
    rw [ahO (by simp; omega) (by simp; omega)] at h2
    refine ag (VI ..) ?_
    refine aa (aC (by omega) (by omega)) ?_
    have := ih Y2 (X1 ++ [x]) (Y1 ++ [y]) H2 (by rw [← hX]; simp) (by rw [← hY]; simp) (by simp; exact hl) (by
     have e2 : (P ++ Y1) ++ y :: ((X2 ++ (M ++ X1)) ++ x :: (Y2 ++ Q)) = (P ++ (Y1 ++ [y])) ++ (X2 ++ (M ++ ((X1 ++ [x]) ++ (Y2 ++ Q)))) := by simp
     rw [e2] at h2
     exact h2.to)
    rw [List.length_append, List.length_singleton] at this
    rw [show ((X1.length : Nat) : Int) + 1 = ((X1.length + 1 : Nat) : Int) from by omega]
    exact this
 exact loop X Y [] [] H rfl rfl rfl (by simpa using h)
theorem ajI (s f : Value) : ∀ (N : Nat) (P U V Q : List Pt), U.length + V.length ≤ N → 1 ≤ U.length → 1 ≤ V.length → P.length + U.length + V.length < 1000000 → ∀ (R : SP) (H : AH), ae (ts 7 Pt.cells s (P ++ (U ++ (V ++ Q))) * R) H →
 wp (Ca s (vi ((P.length + U.length : Nat) : Int)) f (vi ((U.length : Nat) : Int)) (vi ((V.length : Nat) : Int)) H) fun v' H' => ∃ x : Unit, v' = .tuple #[] ∧ ae (ts 7 Pt.cells s (P ++ (V ++ (U ++ Q))) * R) H' := by
 intro N
 induction N with
 | zero => intro P U V Q hN hU hV; omega
 | succ N ih =>
  intro P U V Q hN hU hV hb R H h
  refine ag (Vw ..) ?_
  by_cases hij : U.length = V.length
  ·refine aa (xh (by omega)) ?_
   with_reducible repeat refine gg ?_
   refine ag (Kf ..) ?_
   refine ag (Vv ..) ?_
   refine aa (ba (by omega) (by omega)) ?_
   rw [show ((P.length + U.length : Nat) : Int) - ((U.length : Nat) : Int) = ((P.length : Nat) : Int) from by omega]
   have sw := sQ s f P [] Q U V hij (by simp; omega)
   simp only [List.length_nil, Nat.add_zero, List.nil_append] at sw
   refine af h sw fun _ H1 h1 => ?_
   exact ap ⟨(), rfl, h1.to⟩
  ·refine aa (ahI (by omega)) ?_
   with_reducible repeat refine gg ?_
   refine ag (Vx ..) ?_
   by_cases hgt : V.length < U.length
   ·refine aa (mJ (by omega)) ?_
    with_reducible repeat refine gg ?_
    refine aa (ba (by omega) (by omega)) ?_
    rw [show ((P.length + U.length : Nat) : Int) - ((U.length : Nat) : Int) = ((P.length : Nat) : Int) from by omega]
    have hl1 : (U.take V.length).length = V.length := by rw [List.length_take]; omega
    have hl2 : (U.drop V.length).length = U.length - V.length := List.length_drop
    have eU : U.take V.length ++ U.drop V.length = U := List.take_append_drop ..
    have sw := sQ s f P (U.drop V.length) Q (U.take V.length) V hl1 (by omega)
    rw [hl1, hl2, show P.length + V.length + (U.length - V.length) = P.length + U.length from by omega] at sw
    have e1 : P ++ (U ++ (V ++ Q)) = P ++ (U.take V.length ++ (U.drop V.length ++ (V ++ Q))) := by rw [← List.append_assoc (U.take V.length), eU]
    rw [e1] at h
    refine af h sw fun _ H1 h1 => ?_
    refine aa (ba (by omega) (by omega)) ?_
    have := ih (P ++ V) (U.drop V.length) (U.take V.length) Q (by omega) (by omega) (by omega) (by rw [List.length_append]; omega) R H1 (by
     rw [List.append_assoc]
     exact h1.to)
    rw [hl1, hl2, List.length_append, show P.length + V.length + (U.length - V.length) = P.length + U.length from by omega] at this
    rw [show ((U.length : Nat) : Int) - ((V.length : Nat) : Int) = ((U.length - V.length : Nat) : Int) from by omega]
    refine sW ?_ this
    rintro v' H' ⟨_, e, h2⟩
    refine ⟨(), e, ?_⟩
    have e2 : (P ++ V) ++ (U.take V.length ++ (U.drop V.length ++ Q)) = P ++ (V ++ (U ++ Q)) := by rw [← List.append_assoc (U.take V.length), eU, List.append_assoc]
    rw [e2] at h2
    exact h2
   ·refine aa (gT (by omega)) ?_
    with_reducible repeat refine gg ?_
    refine aa (ba (by omega) (by omega)) ?_
    rw [show ((P.length + U.length : Nat) : Int) - ((U.length : Nat) : Int) = ((P.length : Nat) : Int) from by omega]
    refine aa (aC (by omega) (by omega)) ?_
    refine aa (ba (by omega) (by omega)) ?_
    have hl1 : (V.take (V.length - U.length)).length = V.length - U.length := by rw [List.length_take]; omega
    have hl2 : (V.drop (V.length - U.length)).length = U.length := by rw [List.length_drop]; omega
    have eV : V.take (V.length - U.length) ++ V.drop (V.length - U.length) = V := List.take_append_drop ..
    have sw := sQ s f P (V.take (V.length - U.length)) Q U (V.drop (V.length - U.length)) hl2.symm (by omega)
    rw [hl1] at sw
    rw [show ((P.length + U.length : Nat) : Int) + ((V.length : Nat) : Int) - ((U.length : Nat) : Int) = ((P.length + U.length + (V.length - U.length) : Nat) : Int) from by omega]
    have e1 : P ++ (U ++ (V ++ Q)) = P ++ (U ++ (V.take (V.length - U.length) ++ (V.drop (V.length - U.length) ++ Q))) := by rw [← List.append_assoc (V.take (V.length - U.length)), eV]
    rw [e1] at h
    refine af h sw fun _ H1 h1 => ?_
    refine aa (ba (by omega) (by omega)) ?_
    have := ih P (V.drop (V.length - U.length)) (V.take (V.length - U.length)) (U ++ Q) (by omega) (by omega) (by omega) (by omega) R H1 h1.to
    rw [hl1, hl2] at this
    rw [show ((V.length : Nat) : Int) - ((U.length : Nat) : Int) = ((V.length - U.length : Nat) : Int) from by omega]
    refine sW ?_ this
    rintro v' H' ⟨_, e, h2⟩
    refine ⟨(), e, ?_⟩
    have e2 : P ++ (V.take (V.length - U.length) ++ (V.drop (V.length - U.length) ++ (U ++ Q))) = P ++ (V ++ (U ++ Q)) := by rw [← List.append_assoc (V.take (V.length - U.length)), eV]
    rw [e2] at h2
    exact h2
theorem NW (s f : Value) (P U V Q : List Pt) (hU : 1 ≤ U.length) (hV : 1 ≤ V.length) (hb : P.length + U.length + V.length < 1000000) :
 Sp aaR [s, vi ((P.length : Nat) : Int), vi ((P.length + U.length : Nat) : Int), vi ((P.length + U.length + V.length : Nat) : Int), f] (ts 7 Pt.cells s (P ++ (U ++ (V ++ Q)))) (fun _ : Unit => .tuple #[]) (fun _ => ts 7 Pt.cells s (P ++ (V ++ (U ++ Q)))) := by
 refine av fun R H h => ?_
 refine aw (fun r => ajO _ _ _ _ _ H) ?_
 refine aa (ba (by omega) (by omega)) ?_
 refine aa (ba (by omega) (by omega)) ?_
 refine ag (Vu ..) ?_
 rw [show ((P.length + U.length : Nat) : Int) - ((P.length : Nat) : Int) = ((U.length : Nat) : Int) from by omega, show ((P.length + U.length + V.length : Nat) : Int) - ((P.length + U.length : Nat) : Int) = ((V.length : Nat) : Int) from by omega]
 exact ajI s f _ P U V Q (Nat.le_refl _) hU hV hb R H h
theorem cM (L : List TP) : (pl L).length = L.length := List.length_map ..
theorem gM (X Y : List TP) : pl (X ++ Y) = pl X ++ pl Y := List.map_append ..
theorem xE.append_right {X Y Z : List TP} : xE X (Y ++ Z) ↔ xE X Y ∧ xE X Z :=
 ⟨fun h => ⟨fun x hx y hy => h x hx y (List.mem_append_left _ hy), fun x hx y hy => h x hx y (List.mem_append_right _ hy)⟩, fun h x hx y hy => (List.mem_append.1 hy).elim (h.1 x hx y) (h.2 x hx y)⟩
theorem DQ (A B : List Pt) (s : Value) (X : List TP) (hX : Asc X) (hb : A.length + X.length < 1000000) :
 Sp Q4 [s, vi ((A.length : Nat) : Int), vi ((A.length + X.length : Nat) : Int), kX] (ts 7 Pt.cells s (A ++ (pl X ++ B))) (fun _ : List TP => .tuple #[]) (fun Z => pu (jF Z ∧ Z.Perm X) * ts 7 Pt.cells s (A ++ (pl Z ++ B))) := by
 refine av fun R H h => ?_
 refine aw (fun r => ajM _ _ _ _ H) ?_
 refine aa (aC (by omega) (by omega)) ?_
 refine ag (Vk ..) ?_
 have outer : ∀ (r S : List TP) (H : AH), jF S → Asc r → xE S r → (S ++ r).Perm X → ae (ts 7 Pt.cells s (A ++ (pl S ++ (pl r ++ B))) * R) H →
  wp (Hg s (vi ((A.length : Nat) : Int)) (vi ((A.length + X.length : Nat) : Int)) kX (vi ((A.length + S.length : Nat) : Int)) H) fun v' H' => ∃ Z : List TP, v' = .tuple #[] ∧ ae (pu (jF Z ∧ Z.Perm X) * ts 7 Pt.cells s (A ++ (pl Z ++ B)) * R) H' := by
  intro r
  induction r with
  | nil =>
   intro S H hS hr hSr hp hh
   have hlen := hp.length_eq
   rw [List.append_nil] at hp hlen
   refine ag (wq ..) ?_
   refine aa (bu (by omega)) ?_
   with_reducible repeat refine gg ?_
   refine ag (xq ..) ?_
   refine ap ⟨S, rfl, ?_⟩
   rw [ar, ae.pu]
   exact ⟨⟨hS, hp⟩, by simpa using hh⟩
  | cons x r ih =>
   intro S H hS hr hSr hp hh
   have hlen := hp.length_eq
   rw [List.length_append, List.length_cons] at hlen
   refine ag (wq ..) ?_
   refine aa (bI (by omega)) ?_
   with_reducible repeat refine gg ?_
   refine ag (Vl ..) ?_
   refine ag (Vm ..) ?_
   -- x goes down
   have inner : ∀ (d : Nat) (S1 S2 : List TP) (H : AH), S1.length = d → S1 ++ S2 = S → (∀ z ∈ S2, x.2.step < z.2.step) → ae (ts 7 Pt.cells s (A ++ (pl S1 ++ (x.2 :: (pl S2 ++ (pl r ++ B))))) * R) H →
    wp (Hh s (vi ((A.length : Nat) : Int)) (vi ((A.length + X.length : Nat) : Int)) kX (vi ((A.length + S.length : Nat) : Int)) (vi ((A.length + S1.length : Nat) : Int)) H) fun v' H' => ∃ Z : List TP, v' = .tuple #[] ∧ ae (pu (jF Z ∧ Z.Perm X) * ts 7 Pt.cells s (A ++ (pl Z ++ B)) * R) H' := by
    intro d
    induction d with
    | zero =>
     intro S1 S2 H hd hS12 hz h2
     have hS1 : S1 = [] := List.eq_nil_of_length_eq_zero hd
     subst hS1
     refine ag (Eo ..) ?_
     refine aa (gT (by simp)) ?_
     with_reducible repeat refine gg ?_
     refine ag (xr ..) ?_
     refine ag (En ..) ?_
     refine aa (aC (by omega) (by omega)) ?_
     rw [List.nil_append] at hS12
     subst hS12
     have := ih (x :: S2) H (fp.2 ⟨fun z hz2 => .inl (hz z hz2), hS⟩) (List.pairwise_cons.1 hr).2 (fun a ha b hb2 => by
      rcases List.mem_cons.1 ha with e | ha
      ·subst e; exact (List.pairwise_cons.1 hr).1 b hb2
      ·exact hSr a ha b (List.mem_cons_of_mem _ hb2)) ((List.perm_middle (l₁ := S2) (l₂ := r) (a := x)).symm.trans hp) (by simpa using h2)
     rw [List.length_cons] at this
     rw [show ((A.length + S2.length : Nat) : Int) + 1 = ((A.length + (S2.length + 1) : Nat) : Int) from by omega]
     exact this
    | succ d ihd =>
     intro S1 S2 H hd hS12 hz h2
     obtain ⟨S0, y, rfl⟩ : ∃ S0 y, S1 = S0 ++ [y] := by
      refine ⟨S1.dropLast, S1.getLast (by intro e; rw [e] at hd; simp at hd), ?_⟩
      rw [List.dropLast_concat_getLast]
     have hd0 : S0.length = d := by simpa using hd
     have hSl := congrArg List.length hS12
     simp only [List.length_append, List.length_singleton] at hSl
     have el : A ++ (pl (S0 ++ [y]) ++ (x.2 :: (pl S2 ++ (pl r ++ B)))) = (A ++ pl S0) ++ y.2 :: ([] ++ x.2 :: (pl S2 ++ (pl r ++ B))) := by simp [pl]
     rw [el] at h2
     refine ag (Eo ..) ?_
     refine aa (mJ (by simp; omega)) ?_
     with_reducible repeat refine gg ?_
     rw [show (((A.length + (S0 ++ [y]).length : Nat)) : Int) = ((A.length + S0.length + 1 : Nat) : Int) from by simp; omega]
     refine oC (i := A.length + S0.length + 1) rfl h2 (at2 (by simp [pl])) ?_
     with_reducible repeat refine gg ?_
     refine aa (ba (by omega) (by omega)) ?_
     with_reducible repeat refine gg ?_
     refine oC (i := A.length + S0.length) (by omega) h2 (qd (by simp [pl])) ?_
     refine nZ ?_
     refine R9 h2 fun H3 h3 => ?_
     by_cases hc : x.2.step < y.2.step
     ·refine gt ?_
      refine aa (yJ hc) ?_
      with_reducible repeat refine gg ?_
      refine ag (NX ..) ?_
      refine aa (ba (by omega) (by omega)) ?_
      refine aa (ba (by omega) (by omega)) ?_
      refine OK (i := A.length + S0.length + 1) (j := A.length + S0.length) rfl (by omega) h3 (at2 (by simp [pl])) (qd (by simp [pl])) fun H4 h4 => ?_
      rw [ac3 (by simp [pl]) (by simp [pl])] at h4
      refine ag (NY ..) ?_
      refine aa (ba (by omega) (by omega)) ?_
      have := ihd S0 (y :: S2) H4 hd0 (by rw [← hS12]; simp) (fun z hz2 => by
       rcases List.mem_cons.1 hz2 with e | hz2
       ·subst e; exact hc
       ·exact hz z hz2) (by
       have e2 : (A ++ pl S0) ++ x.2 :: ([] ++ y.2 :: (pl S2 ++ (pl r ++ B))) = A ++ (pl S0 ++ (x.2 :: (pl (y :: S2) ++ (pl r ++ B)))) := by simp [pl]
       rw [e2] at h4
       exact h4.to)
      rw [show ((A.length + S0.length + 1 : Nat) : Int) - 1 = ((A.length + S0.length : Nat) : Int) from by omega]
      exact this
     ·refine gt ?_
      refine aa (yI hc) ?_
      with_reducible repeat refine gg ?_
      refine ag (xr ..) ?_
      refine ag (En ..) ?_
      refine aa (aC (by omega) (by omega)) ?_
      rw [← hS12] at hS hSr hp
      have hS1s := (cj.1 hS).1
      have hx1 : ∀ z ∈ S0 ++ [y], ltT z x := by
       intro z hz1
       have hzt := hSr z (List.mem_append_left _ hz1) x (List.mem_cons_self ..)
       have : z.2.step ≤ y.2.step := by
        rcases List.mem_append.1 hz1 with h | h
        ·exact GD ((cj.1 hS1s).2.2 z h y (List.mem_singleton.2 rfl))
        ·rw [List.mem_singleton.1 h]; exact Int.le_refl _
       unfold ltT
       omega
      have := ih ((S0 ++ [y]) ++ x :: S2) H3 (cj.2 ⟨hS1s, fp.2 ⟨fun z hz2 => .inl (hz z hz2), (cj.1 hS).2.1⟩, fun a ha b hb2 => by
       rcases List.mem_cons.1 hb2 with e | hb2
       ·subst e; exact hx1 a ha
       ·exact (cj.1 hS).2.2 a ha b hb2⟩) (List.pairwise_cons.1 hr).2 (fun a ha b hb2 => by
       rcases List.mem_append.1 ha with ha | ha
       ·exact hSr a (List.mem_append_left _ ha) b (List.mem_cons_of_mem _ hb2)
       ·rcases List.mem_cons.1 ha with e | ha
        ·subst e; exact (List.pairwise_cons.1 hr).1 b hb2
        ·exact hSr a (List.mem_append_right _ ha) b (List.mem_cons_of_mem _ hb2)) (by
       refine List.Perm.trans ?_ hp
       have p1 : (x :: (S2 ++ r)).Perm (S2 ++ x :: r) := (List.perm_middle (l₁ := S2) (l₂ := r) (a := x)).symm
       simpa using (p1.append_left (S0 ++ [y]))) (by
       have e2 : (A ++ pl S0) ++ y.2 :: ([] ++ x.2 :: (pl S2 ++ (pl r ++ B))) = A ++ (pl ((S0 ++ [y]) ++ x :: S2) ++ (pl r ++ B)) := by simp [pl]
       rw [← e2]
       exact h3.to)
      have e3 : ((S0 ++ [y]) ++ x :: S2).length = S.length + 1 := by simp; omega
      rw [e3] at this
      rw [show ((A.length + S.length : Nat) : Int) + 1 = ((A.length + (S.length + 1) : Nat) : Int) from by omega]
      exact this
   exact inner S.length S [] H rfl (List.append_nil S) (fun z hz => by cases hz) (by simpa using hh)
 cases X with
 | nil =>
  refine ag (wq ..) ?_
  refine aa (bu (by simp; omega)) ?_
  with_reducible repeat refine gg ?_
  refine ag (xq ..) ?_
  refine ap ⟨[], rfl, ?_⟩
  rw [ar, ae.pu]
  exact ⟨⟨HB, List.Perm.refl _⟩, h⟩
 | cons x X =>
  have := outer X [x] H (RY x) (List.pairwise_cons.1 hX).2 (fun a ha b hb2 => by rw [List.mem_singleton.1 ha]; exact (List.pairwise_cons.1 hX).1 b hb2) (List.Perm.refl _) (by simpa using h)
  rw [List.length_singleton] at this
  rw [show ((A.length : Nat) : Int) + 1 = ((A.length + 1 : Nat) : Int) from by omega]
  exact this
theorem jE {L : List TP} (h : jF L) {i j : Nat} (hij : i ≤ j) (hj : j < L.length) : (L[i]'(by omega)).2.step ≤ L[j].2.step := by
 by_cases e : i = j
 ·subst e; exact Int.le_refl _
 ·exact GD (List.pairwise_iff_getElem.1 h i j (by omega) hj (by omega))
theorem af9 {X1 X2 Y1 Y2 Z1 Z2 : List TP} (hX : jF (X1 ++ X2)) (hY : jF (Y1 ++ Y2)) (hB : xE (X1 ++ X2) (Y1 ++ Y2)) (h1 : ∀ x ∈ X1, ∀ y ∈ Y2, x.2.step ≤ y.2.step) (h2 : ∀ y ∈ Y1, ∀ x ∈ X2, y.2.step < x.2.step)
 (z1 : jF Z1) (z2 : jF Z2) (p1 : Z1.Perm (X1 ++ Y1)) (p2 : Z2.Perm (X2 ++ Y2)) : jF (Z1 ++ Z2) ∧ (Z1 ++ Z2).Perm ((X1 ++ X2) ++ (Y1 ++ Y2)) := by
 refine ⟨cj.2 ⟨z1, z2, fun a ha b hb => ?_⟩, ?_⟩
 ·rcases List.mem_append.1 (p1.mem_iff.1 ha) with ha | ha <;> rcases List.mem_append.1 (p2.mem_iff.1 hb) with hb | hb
  ·exact (cj.1 hX).2.2 a ha b hb
  ·have := h1 a ha b hb
   have := hB a (List.mem_append_left _ ha) b (List.mem_append_right _ hb)
   unfold ltT
   omega
  ·exact .inl (h2 a ha b hb)
  ·exact (cj.1 hY).2.2 a ha b hb
 ·refine (p1.append p2).trans ?_
  have : ((X1 ++ Y1) ++ (X2 ++ Y2)).Perm ((X1 ++ X2) ++ (Y1 ++ Y2)) := by
   rw [List.append_assoc, List.append_assoc]
   refine List.Perm.append_left X1 ?_
   rw [← List.append_assoc, ← List.append_assoc]
   exact List.Perm.append_right Y2 List.perm_append_comm
  exact this
theorem lB {L : List TP} {n : Nat} {x : TP} (h : x ∈ L.take n) : ∃ i, ∃ (hi : i < L.length), i < n ∧ L[i] = x := by
 obtain ⟨i, hi, e⟩ := List.mem_iff_getElem.1 h
 rw [List.length_take] at hi
 exact ⟨i, by omega, by omega, by rw [← e, List.getElem_take]⟩
theorem lA {L : List TP} {n : Nat} {x : TP} (h : x ∈ L.drop n) : ∃ i, ∃ (hi : i < L.length), n ≤ i ∧ L[i] = x := by
 obtain ⟨i, hi, e⟩ := List.mem_iff_getElem.1 h
 rw [List.length_drop] at hi
 exact ⟨n + i, by omega, by omega, by rw [← e, List.getElem_drop]⟩
section
variable (A B : List Pt) (s : Value) (X Y : List TP)
theorem ah1 {C : Nat} (hC : C < X.length) {i : Nat} (hi : i = A.length + C) : (A ++ (pl X ++ (pl Y ++ B)))[i]? = some X[C].2 := by
 subst hi
 rw [List.getElem?_append_right (by omega), Nat.add_sub_cancel_left, List.getElem?_append_left (by rw [cM]; exact hC), List.getElem?_map, List.getElem?_eq_getElem hC]; rfl
theorem ah2 {C : Nat} (hC : C < Y.length) {i : Nat} (hi : i = A.length + X.length + C) : (A ++ (pl X ++ (pl Y ++ B)))[i]? = some Y[C].2 := by
 subst hi
 rw [List.getElem?_append_right (by omega), List.getElem?_append_right (by rw [cM]; omega), cM, show A.length + X.length + C - A.length - X.length = C from by omega, List.getElem?_append_left (by rw [cM]; exact hC), List.getElem?_map, List.getElem?_eq_getElem hC]; rfl
end
theorem Sz (s : Value) (x : Pt) (Q : List Pt) {R : SP} : ∀ (M P : List Pt) (H : AH), P.length + M.length < 1000000 → ae (ts 7 Pt.cells s (P ++ x :: (M ++ Q)) * R) H →
 wp (zi s (vi ((P.length + M.length + 1 : Nat) : Int)) (vi ((P.length : Nat) : Int)) H) fun v' H' => v' = .tuple #[] ∧ ae (ts 7 Pt.cells s (P ++ (M ++ x :: Q)) * R) H' := by
 intro M
 induction M with
 | nil =>
  intro P H hb hh
  refine ag (B9 ..) ?_
  rw [List.length_nil, Nat.add_zero]
  refine aa (ba (by omega) (by omega)) ?_
  refine aa (bu (by omega)) ?_
  with_reducible repeat refine gg ?_
  refine ag (Hl ..) ?_
  refine ag (Oe ..) ?_
  exact ap ⟨rfl, hh⟩
 | cons y M ih =>
  intro P H hb hh
  rw [List.length_cons] at hb
  refine ag (B9 ..) ?_
  rw [List.length_cons]
  refine aa (ba (by omega) (by omega)) ?_
  refine aa (bI (by omega)) ?_
  with_reducible repeat refine gg ?_
  refine ag (Oh ..) ?_
  refine aa (aC (by omega) (by omega)) ?_
  refine aa (aC (by omega) (by omega)) ?_
  have e : P ++ x :: ((y :: M) ++ Q) = P ++ x :: ([] ++ y :: (M ++ Q)) := rfl
  rw [e] at hh
  refine OK (i := P.length) (j := P.length + 1) rfl (by omega) hh (qd rfl) (at2 (by simp)) fun H2 h2 => ?_
  rw [ahO rfl (by simp)] at h2
  refine ag (Oi ..) ?_
  refine aa (aC (by omega) (by omega)) ?_
  have := ih (P ++ [y]) H2 (by simp; omega) (by
   have e2 : P ++ y :: ([] ++ x :: (M ++ Q)) = (P ++ [y]) ++ x :: (M ++ Q) := by simp
   rw [← e2]
   exact h2.to)
  rw [List.length_append, List.length_singleton, show P.length + 1 + M.length + 1 = P.length + (M.length + 1) + 1 from by omega] at this
  rw [show ((P.length : Nat) : Int) + 1 = ((P.length + 1 : Nat) : Int) from by omega]
  refine sW ?_ this
  rintro v' H' ⟨e1, h3⟩
  refine ⟨e1, ?_⟩
  have e3 : (P ++ [y]) ++ (M ++ x :: Q) = P ++ ((y :: M) ++ x :: Q) := by simp
  rw [e3] at h3
  exact h3
theorem HZ (s : Value) (y : Pt) {R : SP} : ∀ (d : Nat) (M P Q : List Pt) (H : AH), M.length = d → P.length + M.length < 1000000 → ae (ts 7 Pt.cells s (P ++ (M ++ y :: Q)) * R) H →
 wp (zh s (vi ((P.length : Nat) : Int)) (vi ((P.length + M.length : Nat) : Int)) H) fun v' H' => v' = .tuple #[] ∧ ae (ts 7 Pt.cells s (P ++ y :: (M ++ Q)) * R) H' := by
 intro d
 induction d with
 | zero =>
  intro M P Q H hd hb hh
  have : M = [] := List.eq_nil_of_length_eq_zero hd
  subst this
  refine ag (B7 ..) ?_
  refine aa (gT (by simp)) ?_
  with_reducible repeat refine gg ?_
  refine ag (Hj ..) ?_
  refine ag (N5 ..) ?_
  exact ap ⟨rfl, hh⟩
 | succ d ih =>
  intro M P Q H hd hb hh
  obtain ⟨M0, z, rfl⟩ : ∃ M0 z, M = M0 ++ [z] := ⟨M.dropLast, M.getLast (by intro e; rw [e] at hd; simp at hd), by rw [List.dropLast_concat_getLast]⟩
  have hd0 : M0.length = d := by simpa using hd
  rw [List.length_append, List.length_singleton] at hb
  refine ag (B7 ..) ?_
  rw [List.length_append, List.length_singleton]
  refine aa (mJ (by omega)) ?_
  with_reducible repeat refine gg ?_
  refine ag (N7 ..) ?_
  refine aa (ba (by omega) (by omega)) ?_
  refine aa (ba (by omega) (by omega)) ?_
  have e : P ++ ((M0 ++ [z]) ++ y :: Q) = (P ++ M0) ++ z :: ([] ++ y :: Q) := by simp
  rw [e] at hh
  refine OK (i := P.length + M0.length + 1) (j := P.length + M0.length) (by omega) (by omega) hh (at2 (by simp)) (qd (by simp)) fun H2 h2 => ?_
  rw [ac3 (by simp) (by simp)] at h2
  refine ag (N8 ..) ?_
  refine aa (ba (by omega) (by omega)) ?_
  have := ih M0 P (z :: Q) H2 hd0 (by omega) (by
   have e2 : (P ++ M0) ++ y :: ([] ++ z :: Q) = P ++ (M0 ++ y :: (z :: Q)) := by simp
   rw [← e2]
   exact h2.to)
  rw [show ((P.length + (M0.length + 1) : Nat) : Int) - 1 = ((P.length + M0.length : Nat) : Int) from by omega]
  refine sW ?_ this
  rintro v' H' ⟨e1, h3⟩
  refine ⟨e1, ?_⟩
  have e3 : P ++ y :: (M0 ++ z :: Q) = P ++ y :: ((M0 ++ [z]) ++ Q) := by simp
  rw [e3] at h3
  exact h3
section
variable (A B : List Pt) (s : Value) (X Y : List TP) (hX : jF X) (hY : jF Y) (hB : xE X Y) (hb : A.length + X.length + Y.length < 1000000)
include hX hY hB hb
theorem Jv (x : TP) (hx : X = [x]) {R : SP} {H : AH} (h : ae (ts 7 Pt.cells s (A ++ (pl X ++ (pl Y ++ B))) * R) H) :
 wp (Hq s (vi ((A.length : Nat) : Int)) kX (vi ((A.length + X.length : Nat) : Int)) (vi ((A.length + X.length + Y.length : Nat) : Int)) H) fun v' H' => ∃ Z : List TP, v' = .tuple #[] ∧ ae (pu (jF Z ∧ Z.Perm (X ++ Y)) * ts 7 Pt.cells s (A ++ (pl Z ++ B)) * R) H' := by
 have hXl : X.length = 1 := by rw [hx]; rfl
 have hx0 : X[0]'(by omega) = x := by subst hx; rfl
 refine ag (Oc ..) ?_
 have bin : ∀ (d i j : Nat) (H : AH), j - i = d → i ≤ j → j ≤ Y.length → (∀ C, ∀ hC : C < Y.length, C < i → Y[C].2.step < x.2.step) → (∀ C, ∀ hC : C < Y.length, j ≤ C → ¬ Y[C].2.step < x.2.step) → ae (ts 7 Pt.cells s (A ++ (pl X ++ (pl Y ++ B))) * R) H →
  wp (pQ s (vi ((A.length : Nat) : Int)) kX (vi ((A.length + X.length + i : Nat) : Int)) (vi ((A.length + X.length + j : Nat) : Int)) H) fun v' H' => ∃ Z : List TP, v' = .tuple #[] ∧ ae (pu (jF Z ∧ Z.Perm (X ++ Y)) * ts 7 Pt.cells s (A ++ (pl Z ++ B)) * R) H' := by
  intro d
  induction d using Nat.strongRecOn with
  | ind d ih =>
   intro i j H hd hij hj hlo hhi hh
   refine ag (Kb ..) ?_
   by_cases hlt : i < j
   ·refine aa (bI (by omega)) ?_
    with_reducible repeat refine gg ?_
    refine ag (Kd ..) ?_
    refine R7 rfl rfl (by omega) ?_
    have hm : (A.length + X.length + i + (A.length + X.length + j)) / 2 = A.length + X.length + (i + j) / 2 := by omega
    rw [hm]
    have hc : (i + j) / 2 < Y.length := by omega
    refine oC (i := A.length + X.length + (i + j) / 2) rfl hh (ah2 A B X Y hc rfl) ?_
    refine oC (i := A.length) rfl hh (ah1 A B X Y (C := 0) (by omega) (by omega)) ?_
    refine R9 hh fun H1 h1 => ?_
    rw [hx0]
    by_cases hcmp : Y[(i + j) / 2].2.step < x.2.step
    ·refine aa (yJ hcmp) ?_
     with_reducible repeat refine gg ?_
     refine aa (aC (by omega) (by omega)) ?_
     rw [show ((A.length + X.length + (i + j) / 2 : Nat) : Int) + 1 = ((A.length + X.length + ((i + j) / 2 + 1) : Nat) : Int) from by omega]
     refine ih (j - ((i + j) / 2 + 1)) (by omega) ((i + j) / 2 + 1) j H1 rfl (by omega) hj (fun C hC hCl => ?_) hhi h1
     have := jE hY (i := C) (j := (i + j) / 2) (by omega) hc
     omega
    ·refine aa (yI hcmp) ?_
     with_reducible repeat refine gg ?_
     refine ih ((i + j) / 2 - i) (by omega) i ((i + j) / 2) H1 rfl (by omega) (by omega) hlo (fun C hC hCl => ?_) h1
     have := jE hY (i := (i + j) / 2) (j := C) hCl hC
     omega
   ·refine aa (bu (by omega)) ?_
    with_reducible repeat refine gg ?_
    have e : j = i := by omega
    subst e
    refine ag (C5 ..) ?_
    refine ag (Od ..) ?_
    refine ag (Og ..) ?_
    have ht : (pl (Y.take j)).length = j := by rw [cM, List.length_take]; omega
    have eY : Y.take j ++ Y.drop j = Y := List.take_append_drop ..
    have b := Sz s x.2 (pl (Y.drop j) ++ B) (R := R) (pl (Y.take j)) A H (by omega) (by
     have e2 : A ++ (pl X ++ (pl Y ++ B)) = A ++ x.2 :: (pl (Y.take j) ++ (pl (Y.drop j) ++ B)) := by
      rw [← List.append_assoc (pl (Y.take j)), ← gM, eY, hx]; rfl
     rw [← e2]
     exact hh)
    rw [ht] at b
    rw [hXl, show A.length + 1 + j = A.length + j + 1 from by omega]
    refine sW ?_ b
    rintro v' H' ⟨e1, h3⟩
    refine ⟨Y.take j ++ x :: Y.drop j, e1, ?_⟩
    rw [ar, ae.pu]
    have hYs := cj.1 (by rw [eY]; exact hY : jF (Y.take j ++ Y.drop j))
    have hbel : ∀ y ∈ Y, x.1 < y.1 := fun y hy => hB x (by rw [hx]; exact List.mem_singleton.2 rfl) y hy
    refine ⟨⟨cj.2 ⟨hYs.1, fp.2 ⟨fun y hy => ?_, hYs.2.1⟩, fun a ha b hb2 => ?_⟩, ?_⟩, ?_⟩
    ·obtain ⟨i, hi, hge, rfl⟩ := lA hy
     have := hhi i hi hge
     have := hbel _ (List.getElem_mem hi)
     unfold ltT
     omega
    ·rcases List.mem_cons.1 hb2 with e3 | hb2
     ·subst e3
      obtain ⟨i, hi, hlt2, rfl⟩ := lB ha
      exact .inl (hlo i hi hlt2)
     ·exact hYs.2.2 a ha b hb2
    ·refine (List.perm_middle (l₁ := Y.take j) (l₂ := Y.drop j) (a := x)).trans ?_
     rw [eY, hx]
     exact List.Perm.refl _
    ·have e4 : A ++ (pl (Y.take j) ++ x.2 :: (pl (Y.drop j) ++ B)) = A ++ (pl (Y.take j ++ x :: Y.drop j) ++ B) := by simp [pl]
     rw [e4] at h3
     exact h3
 have := bin Y.length 0 Y.length H rfl (Nat.zero_le _) (Nat.le_refl _) (fun C hC hl => by omega) (fun C hC hl => by omega) h
 exact this
theorem Nd (y : TP) (hy : Y = [y]) {R : SP} {H : AH} (h : ae (ts 7 Pt.cells s (A ++ (pl X ++ (pl Y ++ B))) * R) H) :
 wp (Hm s (vi ((A.length + X.length : Nat) : Int)) kX (vi ((A.length : Nat) : Int)) (vi ((A.length + X.length : Nat) : Int)) H) fun v' H' => ∃ Z : List TP, v' = .tuple #[] ∧ ae (pu (jF Z ∧ Z.Perm (X ++ Y)) * ts 7 Pt.cells s (A ++ (pl Z ++ B)) * R) H' := by
 have hYl : Y.length = 1 := by rw [hy]; rfl
 have hy0 : Y[0]'(by omega) = y := by subst hy; rfl
 refine ag (N3 ..) ?_
 have bin : ∀ (d i j : Nat) (H : AH), j - i = d → i ≤ j → j ≤ X.length → (∀ C, ∀ hC : C < X.length, C < i → ¬ y.2.step < X[C].2.step) → (∀ C, ∀ hC : C < X.length, j ≤ C → y.2.step < X[C].2.step) → ae (ts 7 Pt.cells s (A ++ (pl X ++ (pl Y ++ B))) * R) H →
  wp (uL s (vi ((A.length + X.length : Nat) : Int)) kX (vi ((A.length + i : Nat) : Int)) (vi ((A.length + j : Nat) : Int)) H) fun v' H' => ∃ Z : List TP, v' = .tuple #[] ∧ ae (pu (jF Z ∧ Z.Perm (X ++ Y)) * ts 7 Pt.cells s (A ++ (pl Z ++ B)) * R) H' := by
  intro d
  induction d using Nat.strongRecOn with
  | ind d ih =>
   intro i j H hd hij hj hlo hhi hh
   refine ag (N9 ..) ?_
   by_cases hlt : i < j
   ·refine aa (bI (by omega)) ?_
    with_reducible repeat refine gg ?_
    refine ag (Oa ..) ?_
    refine R7 rfl rfl (by omega) ?_
    have hm : (A.length + i + (A.length + j)) / 2 = A.length + (i + j) / 2 := by omega
    rw [hm]
    have hc : (i + j) / 2 < X.length := by omega
    refine oC (i := A.length + X.length) rfl hh (ah2 A B X Y (C := 0) (by omega) rfl) ?_
    refine oC (i := A.length + (i + j) / 2) rfl hh (ah1 A B X Y hc rfl) ?_
    refine R9 hh fun H1 h1 => ?_
    rw [hy0]
    by_cases hcmp : y.2.step < X[(i + j) / 2].2.step
    ·refine aa (yJ hcmp) ?_
     with_reducible repeat refine gg ?_
     rw [Bool.not_true]
     with_reducible repeat refine gg ?_
     refine ih ((i + j) / 2 - i) (by omega) i ((i + j) / 2) H1 rfl (by omega) (by omega) hlo (fun C hC hCl => ?_) h1
     have := jE hX (i := (i + j) / 2) (j := C) hCl hC
     omega
    ·refine aa (yI hcmp) ?_
     with_reducible repeat refine gg ?_
     rw [Bool.not_false]
     with_reducible repeat refine gg ?_
     refine aa (aC (by omega) (by omega)) ?_
     rw [show ((A.length + (i + j) / 2 : Nat) : Int) + 1 = ((A.length + ((i + j) / 2 + 1) : Nat) : Int) from by omega]
     refine ih (j - ((i + j) / 2 + 1)) (by omega) ((i + j) / 2 + 1) j H1 rfl (by omega) hj (fun C hC hCl => ?_) hhi h1
     have := jE hX (i := C) (j := (i + j) / 2) (by omega) hc
     omega
   ·refine aa (bu (by omega)) ?_
    with_reducible repeat refine gg ?_
    have e : j = i := by omega
    subst e
    refine ag (Hk ..) ?_
    refine ag (N4 ..) ?_
    refine ag (N6 ..) ?_
    have ht : (A ++ pl (X.take j)).length = A.length + j := by rw [List.length_append, cM, List.length_take]; omega
    have ht2 : (pl (X.drop j)).length = X.length - j := by rw [cM, List.length_drop]
    have eX : X.take j ++ X.drop j = X := List.take_append_drop ..
    have b := HZ s y.2 (R := R) (X.length - j) (pl (X.drop j)) (A ++ pl (X.take j)) B H ht2 (by rw [ht, ht2]; omega) (by
     have e2 : A ++ (pl X ++ (pl Y ++ B)) = (A ++ pl (X.take j)) ++ (pl (X.drop j) ++ y.2 :: B) := by
      rw [List.append_assoc, ← List.append_assoc (pl (X.take j)), ← gM, eX, hy]; rfl
     rw [← e2]
     exact hh)
    rw [ht, ht2, show A.length + j + (X.length - j) = A.length + X.length from by omega] at b
    refine sW ?_ b
    rintro v' H' ⟨e1, h3⟩
    refine ⟨X.take j ++ y :: X.drop j, e1, ?_⟩
    rw [ar, ae.pu]
    have hXs := cj.1 (by rw [eX]; exact hX : jF (X.take j ++ X.drop j))
    have hbel : ∀ x ∈ X, x.1 < y.1 := fun x hx => hB x hx y (by rw [hy]; exact List.mem_singleton.2 rfl)
    refine ⟨⟨cj.2 ⟨hXs.1, fp.2 ⟨fun z hz => ?_, hXs.2.1⟩, fun a ha b hb2 => ?_⟩, ?_⟩, ?_⟩
    ·obtain ⟨i, hi, hge, rfl⟩ := lA hz
     exact .inl (hhi i hi hge)
    ·rcases List.mem_cons.1 hb2 with e3 | hb2
     ·subst e3
      obtain ⟨i, hi, hlt2, rfl⟩ := lB ha
      have := hlo i hi hlt2
      have := hbel _ (List.getElem_mem hi)
      unfold ltT
      omega
     ·exact hXs.2.2 a ha b hb2
    ·refine (List.perm_middle (l₁ := X.take j) (l₂ := X.drop j) (a := y)).trans ?_
     rw [eX, hy]
     exact (List.perm_append_comm (l₁ := [y]) (l₂ := X))
    ·have e4 : (A ++ pl (X.take j)) ++ y.2 :: (pl (X.drop j) ++ B) = A ++ (pl (X.take j ++ y :: X.drop j) ++ B) := by simp [pl]
     rw [e4] at h3
     exact h3
 have := bin X.length 0 X.length H rfl (Nat.zero_le _) (Nat.le_refl _) (fun C hC hl => by omega) (fun C hC hl => by omega) h
 rw [Nat.add_zero] at this
 exact this
end
def LoP (X Y : List TP) (hf S : Nat) : Prop := ∃ C, C + 1 = S ∧ ∃ (h1 : C < X.length) (h2 : hf - 1 - C < Y.length), X[C].2.step ≤ Y[hf - 1 - C].2.step
def HiP (X Y : List TP) (hf S : Nat) : Prop := ∃ (h1 : S < X.length) (h2 : hf - 1 - S < Y.length), S < hf ∧ Y[hf - 1 - S].2.step < X[S].2.step
theorem EI (s : Value) : ∀ (N : Nat) (A B : List Pt) (X Y : List TP), X.length + Y.length ≤ N → 1 ≤ X.length → 1 ≤ Y.length → jF X → jF Y → xE X Y → A.length + X.length + Y.length < 1000000 →
 Sp DY [s, vi ((A.length : Nat) : Int), vi ((A.length + X.length : Nat) : Int), vi ((A.length + X.length + Y.length : Nat) : Int), kX] (ts 7 Pt.cells s (A ++ (pl X ++ (pl Y ++ B)))) (fun _ : List TP => .tuple #[]) (fun Z => pu (jF Z ∧ Z.Perm (X ++ Y)) * ts 7 Pt.cells s (A ++ (pl Z ++ B))) := by
 intro N
 induction N with
 | zero => intro A B X Y hN hX1; omega
 | succ N ih =>
  intro A B X Y hN hX1 hY1 hX hY hB hb
  refine av fun R H h => ?_
  refine aw (fun r => ajN _ _ _ _ _ H) ?_
  refine aa (ba (by omega) (by omega)) ?_
  by_cases hx1 : X.length = 1
  ·refine aa (bp (by omega)) ?_
   refine ag (B8 ..) ?_
   with_reducible repeat refine gg ?_
   obtain ⟨x, hx⟩ := List.length_eq_one_iff.1 hx1
   exact Jv A B s X Y hX hY hB hb x hx h
  ·refine aa (aS (by omega)) ?_
   refine ag (B8 ..) ?_
   with_reducible repeat refine gg ?_
   refine ag (Vn ..) ?_
   refine aa (ba (by omega) (by omega)) ?_
   by_cases hy1 : Y.length = 1
   ·refine aa (bp (by omega)) ?_
    refine ag (B6 ..) ?_
    with_reducible repeat refine gg ?_
    obtain ⟨y, hy⟩ := List.length_eq_one_iff.1 hy1
    exact Nd A B s X Y hX hY hB hb y hy h
   ·refine aa (aS (by omega)) ?_
    refine ag (B6 ..) ?_
    with_reducible repeat refine gg ?_
    refine ag (Vo ..) ?_
    refine R7 rfl rfl (by omega) ?_
    obtain ⟨hf, hfe⟩ : ∃ hf, hf = (X.length + Y.length) / 2 := ⟨_, rfl⟩
    rw [show (A.length + (A.length + X.length + Y.length)) / 2 = A.length + hf from by omega]
    refine aa (aC (by omega) (by omega)) ?_
    refine ag (Vp ..) ?_
    -- what is behind the search
    have rest : ∀ (S : Nat) (H : AH), S ≤ X.length → S ≤ hf → hf - S ≤ Y.length →
     (LoP X Y hf S ∨ S = 0 ∨ hf - S = Y.length) →
     (HiP X Y hf S ∨ S = X.length ∨ S = hf) →
     ae (ts 7 Pt.cells s (A ++ (pl X ++ (pl Y ++ B))) * R) H →
     wp (N2 s (vi ((A.length : Nat) : Int)) (vi ((A.length + X.length : Nat) : Int)) (vi ((A.length + X.length + Y.length : Nat) : Int)) kX (vi ((A.length + hf : Nat) : Int)) (vi (((A.length + hf : Nat) : Int) + ((A.length + X.length : Nat) : Int))) (vi ((A.length + S : Nat) : Int)) H)
      fun v' H' => ∃ Z : List TP, v' = .tuple #[] ∧ ae (pu (jF Z ∧ Z.Perm (X ++ Y)) * ts 7 Pt.cells s (A ++ (pl Z ++ B)) * R) H' := by
     intro S H hSX hSf hSY hlo hhi hh
     obtain ⟨E, hE⟩ : ∃ E, E = hf - S := ⟨_, rfl⟩
     have eX : X.take S ++ X.drop S = X := List.take_append_drop ..
     have eY : Y.take E ++ Y.drop E = Y := List.take_append_drop ..
     have l1 : (X.take S).length = S := by rw [List.length_take]; omega
     have l2 : (X.drop S).length = X.length - S := List.length_drop
     have l3 : (Y.take E).length = E := by rw [List.length_take]; omega
     have l4 : (Y.drop E).length = Y.length - E := List.length_drop
     have c1 : ∀ x ∈ X.take S, ∀ y ∈ Y.drop E, x.2.step ≤ y.2.step := by
      clear hhi
      intro x hx y hy
      obtain ⟨i, hi, hiS, rfl⟩ := lB hx
      obtain ⟨j, hj, hjE, rfl⟩ := lA hy
      rcases hlo with ⟨C, hC, h1, h2, h3⟩ | h0 | h0
      ·have a1 := jE hX (i := i) (j := C) (by omega) h1
       have a2 := jE hY (i := hf - 1 - C) (j := j) (by omega) hj
       omega
      ·omega
      ·omega
     have c2 : ∀ y ∈ Y.take E, ∀ x ∈ X.drop S, y.2.step < x.2.step := by
      clear hlo
      intro y hy x hx
      obtain ⟨i, hi, hiS, rfl⟩ := lA hx
      obtain ⟨j, hj, hjE, rfl⟩ := lB hy
      rcases hhi with ⟨h1, h2, h4, h3⟩ | h0 | h0
      ·have a1 := jE hX (i := S) (j := i) (by omega) hi
       have a2 := jE hY (i := j) (j := hf - 1 - S) (by omega) h2
       omega
      ·omega
      ·omega
     clear hlo hhi
     have sX := cj.1 (by rw [eX]; exact hX : jF (X.take S ++ X.drop S))
     have sY := cj.1 (by rw [eY]; exact hY : jF (Y.take E ++ Y.drop E))
     have hB' : xE (X.take S ++ X.drop S) (Y.take E ++ Y.drop E) := by rw [eX, eY]; exact hB
     have b11 : xE (X.take S) (Y.take E) := hB'.sub (fun x => List.mem_append_left _) (fun x => List.mem_append_left _)
     have b22 : xE (X.drop S) (Y.drop E) := hB'.sub (fun x => List.mem_append_right _) (fun x => List.mem_append_right _)
     refine ag (Vq ..) ?_
     refine aa (ba (by omega) (by omega)) ?_
     rw [show ((A.length + hf : Nat) : Int) + ((A.length + X.length : Nat) : Int) - ((A.length + S : Nat) : Int) = ((A.length + X.length + E : Nat) : Int) from by omega]
     refine ag (Vr ..) ?_
     -- the second halves
     have part2 : ∀ (Z1 : List TP) (H : AH), jF Z1 → Z1.Perm (X.take S ++ Y.take E) → ae (ts 7 Pt.cells s (A ++ (pl Z1 ++ (pl (X.drop S) ++ (pl (Y.drop E) ++ B)))) * R) H →
      wp (Ho s (vi ((A.length + X.length + Y.length : Nat) : Int)) kX (vi ((A.length + hf : Nat) : Int)) (vi ((A.length + X.length + E : Nat) : Int)) H)
       fun v' H' => ∃ Z : List TP, v' = .tuple #[] ∧ ae (pu (jF Z ∧ Z.Perm (X ++ Y)) * ts 7 Pt.cells s (A ++ (pl Z ++ B)) * R) H' := by
      intro Z1 H hz1 hp1 h1
      have lz := hp1.length_eq
      rw [List.length_append, l1, l3] at lz
      have done : ∀ (Z2 : List TP) (H : AH), jF Z2 → Z2.Perm (X.drop S ++ Y.drop E) → ae (ts 7 Pt.cells s ((A ++ pl Z1) ++ (pl Z2 ++ B)) * R) H →
       ∃ Z : List TP, (.tuple #[] : Value) = .tuple #[] ∧ ae (pu (jF Z ∧ Z.Perm (X ++ Y)) * ts 7 Pt.cells s (A ++ (pl Z ++ B)) * R) H := by
       intro Z2 H hz2 hp2 h2
       have cut := af9 (by rw [eX]; exact hX) (by rw [eY]; exact hY) hB' c1 c2 hz1 hz2 hp1 hp2
       rw [eX, eY] at cut
       refine ⟨Z1 ++ Z2, rfl, ?_⟩
       rw [ar, ae.pu]
       refine ⟨cut, ?_⟩
       rw [gM, List.append_assoc]
       rw [List.append_assoc] at h2
       exact h2
      refine ag (Vt ..) ?_
      by_cases g1 : hf < X.length + E
      ·refine aa (bI (by omega)) ?_
       with_reducible repeat refine gg ?_
       by_cases g2 : E < Y.length
       ·refine aa (bI (by omega)) ?_
        with_reducible repeat refine gg ?_
        have m := ih (A ++ pl Z1) B (X.drop S) (Y.drop E) (by omega) (by omega) (by omega) sX.2.1 sY.2.1 b22 (by rw [List.length_append, cM]; omega)
        rw [List.length_append, cM, lz, l2, l4, show A.length + (S + E) = A.length + hf from by omega, show A.length + hf + (X.length - S) = A.length + X.length + E from by omega, show A.length + X.length + E + (Y.length - E) = A.length + X.length + Y.length from by omega] at m
        have h2 : ae (ts 7 Pt.cells s ((A ++ pl Z1) ++ (pl (X.drop S) ++ (pl (Y.drop E) ++ B))) * R) H := by rw [List.append_assoc]; exact h1
        refine af h2 m fun Z2 H3 h3 => ?_
        rw [ar, ae.pu] at h3
        exact ap (done Z2 H3 h3.1.1 h3.1.2 h3.2.to)
       ·refine aa (bu (by omega)) ?_
        with_reducible repeat refine gg ?_
        have e0 : Y.drop E = [] := List.eq_nil_of_length_eq_zero (by omega)
        exact ap (done (X.drop S) H sX.2.1 (by rw [e0, List.append_nil]) (by rw [e0] at h1; rw [List.append_assoc]; exact h1))
      ·refine aa (bu (by omega)) ?_
       with_reducible repeat refine gg ?_
       have e0 : X.drop S = [] := List.eq_nil_of_length_eq_zero (by omega)
       exact ap (done (Y.drop E) H sY.2.1 (by rw [e0, List.nil_append]) (by rw [e0] at h1; rw [List.append_assoc]; exact h1))
     -- the first halves
     have part1 : ∀ (H : AH), ae (ts 7 Pt.cells s (A ++ (pl (X.take S) ++ (pl (Y.take E) ++ (pl (X.drop S) ++ (pl (Y.drop E) ++ B))))) * R) H →
      wp (Hn s (vi ((A.length : Nat) : Int)) (vi ((A.length + X.length + Y.length : Nat) : Int)) kX (vi ((A.length + hf : Nat) : Int)) (vi ((A.length + S : Nat) : Int)) (vi ((A.length + X.length + E : Nat) : Int)) H)
       fun v' H' => ∃ Z : List TP, v' = .tuple #[] ∧ ae (pu (jF Z ∧ Z.Perm (X ++ Y)) * ts 7 Pt.cells s (A ++ (pl Z ++ B)) * R) H' := by
      intro H h1
      refine ag (Vs ..) ?_
      by_cases g1 : 0 < S
      ·refine aa (bI (by omega)) ?_
       with_reducible repeat refine gg ?_
       by_cases g2 : S < hf
       ·refine aa (bI (by omega)) ?_
        with_reducible repeat refine gg ?_
        have m := ih A (pl (X.drop S) ++ (pl (Y.drop E) ++ B)) (X.take S) (Y.take E) (by omega) (by omega) (by omega) sX.1 sY.1 b11 (by omega)
        rw [l1, l3, show A.length + S + E = A.length + hf from by omega] at m
        refine af h1 m fun Z1 H3 h3 => ?_
        rw [ar, ae.pu] at h3
        exact part2 Z1 H3 h3.1.1 h3.1.2 h3.2.to
       ·refine aa (bu (by omega)) ?_
        with_reducible repeat refine gg ?_
        have e0 : Y.take E = [] := List.eq_nil_of_length_eq_zero (by omega)
        exact part2 (X.take S) H sX.1 (by rw [e0, List.append_nil]) (by rw [e0] at h1; exact h1)
      ·refine aa (bu (by omega)) ?_
       with_reducible repeat refine gg ?_
       have e0 : X.take S = [] := List.eq_nil_of_length_eq_zero (by omega)
       exact part2 (Y.take E) H sY.1 (by rw [e0, List.nil_append]) (by rw [e0] at h1; exact h1)
     have e3 : A ++ (pl X ++ (pl Y ++ B)) = (A ++ pl (X.take S)) ++ (pl (X.drop S) ++ (pl (Y.take E) ++ (pl (Y.drop E) ++ B))) := by
      have p1 : pl X = pl (X.take S) ++ pl (X.drop S) := by rw [← gM, eX]
      have p2 : pl Y = pl (Y.take E) ++ pl (Y.drop E) := by rw [← gM, eY]
      rw [p1, p2]
      simp only [List.append_assoc]
     rw [e3] at hh
     by_cases g1 : S < X.length
     ·refine aa (bI (by omega)) ?_
      with_reducible repeat refine gg ?_
      by_cases g2 : 0 < E
      ·refine aa (bI (by omega)) ?_
       with_reducible repeat refine gg ?_
       have m := NW s kX (A ++ pl (X.take S)) (pl (X.drop S)) (pl (Y.take E)) (pl (Y.drop E) ++ B) (by rw [cM]; omega) (by rw [cM]; omega) (by rw [List.length_append, cM, cM, cM]; omega)
       rw [List.length_append, cM, cM, cM, l1, l2, l3, show A.length + S + (X.length - S) = A.length + X.length from by omega] at m
       refine af hh m fun _ H3 h3 => ?_
       refine part1 H3 ?_
       have e4 : (A ++ pl (X.take S)) ++ (pl (Y.take E) ++ (pl (X.drop S) ++ (pl (Y.drop E) ++ B))) = A ++ (pl (X.take S) ++ (pl (Y.take E) ++ (pl (X.drop S) ++ (pl (Y.drop E) ++ B)))) := by simp only [List.append_assoc]
       rw [← e4]
       exact h3.to
      ·refine aa (bu (by omega)) ?_
       with_reducible repeat refine gg ?_
       have e0 : Y.take E = [] := List.eq_nil_of_length_eq_zero (by omega)
       refine part1 H ?_
       rw [e0] at hh ⊢
       simpa only [pl, List.map_nil, List.nil_append, List.append_assoc] using hh
     ·refine aa (bu (by omega)) ?_
      with_reducible repeat refine gg ?_
      have e0 : X.drop S = [] := List.eq_nil_of_length_eq_zero (by omega)
      refine part1 H ?_
      rw [e0] at hh ⊢
      simpa only [pl, List.map_nil, List.nil_append, List.append_assoc] using hh
    -- the search
    have bin : ∀ (lo hi : Nat), hi ≤ X.length → hi ≤ hf → hf - lo ≤ Y.length → (lo = 0 ∨ hf - lo = Y.length) → (hi = X.length ∨ hi = hf) →
     ∀ (d i j : Nat) (H : AH), j - i = d → lo ≤ i → i ≤ j → j ≤ hi →
     (LoP X Y hf i ∨ i = lo) →
     (HiP X Y hf j ∨ j = hi) →
     ae (ts 7 Pt.cells s (A ++ (pl X ++ (pl Y ++ B))) * R) H →
     wp (uK s (vi ((A.length : Nat) : Int)) (vi ((A.length + X.length : Nat) : Int)) (vi ((A.length + X.length + Y.length : Nat) : Int)) kX (vi ((A.length + hf : Nat) : Int)) (vi (((A.length + hf : Nat) : Int) + ((A.length + X.length : Nat) : Int))) (vi ((A.length + i : Nat) : Int)) (vi ((A.length + j : Nat) : Int)) (vi (((A.length + hf : Nat) : Int) + ((A.length + X.length : Nat) : Int) - 1)) H)
      fun v' H' => ∃ Z : List TP, v' = .tuple #[] ∧ ae (pu (jF Z ∧ Z.Perm (X ++ Y)) * ts 7 Pt.cells s (A ++ (pl Z ++ B)) * R) H' := by
     intro lo hi hhiX hhif hloY hlo0 hhi0 d
     induction d using Nat.strongRecOn with
     | ind d ihd =>
      intro i j H hd hli hij hjh hlow hhigh hh
      refine ag (NZ ..) ?_
      by_cases hlt : i < j
      ·refine aa (bI (by omega)) ?_
       with_reducible repeat refine gg ?_
       refine ag (N1 ..) ?_
       refine R7 rfl rfl (by omega) ?_
       rw [show (A.length + i + (A.length + j)) / 2 = A.length + (i + j) / 2 from by omega]
       refine aa (ba (by omega) (by omega)) ?_
       have hcX : (i + j) / 2 < X.length := by omega
       have hcY : hf - 1 - (i + j) / 2 < Y.length := by omega
       refine oC (i := A.length + X.length + (hf - 1 - (i + j) / 2)) (by omega) hh (ah2 A B X Y hcY rfl) ?_
       refine oC (i := A.length + (i + j) / 2) rfl hh (ah1 A B X Y hcX rfl) ?_
       refine R9 hh fun H1 h1 => ?_
       by_cases hcmp : Y[hf - 1 - (i + j) / 2].2.step < X[(i + j) / 2].2.step
       ·refine aa (yJ hcmp) ?_
        with_reducible repeat refine gg ?_
        rw [Bool.not_true]
        with_reducible repeat refine gg ?_
        exact ihd ((i + j) / 2 - i) (by omega) i ((i + j) / 2) H1 rfl hli (by omega) (by omega) hlow (.inl ⟨hcX, hcY, by omega, hcmp⟩) h1
       ·refine aa (yI hcmp) ?_
        with_reducible repeat refine gg ?_
        rw [Bool.not_false]
        with_reducible repeat refine gg ?_
        refine aa (aC (by omega) (by omega)) ?_
        rw [show ((A.length + (i + j) / 2 : Nat) : Int) + 1 = ((A.length + ((i + j) / 2 + 1) : Nat) : Int) from by omega]
        exact ihd (j - ((i + j) / 2 + 1)) (by omega) ((i + j) / 2 + 1) j H1 rfl (by omega) (by omega) hjh (.inl ⟨(i + j) / 2, rfl, hcX, hcY, by omega⟩) hhigh h1
      ·refine aa (bu (by omega)) ?_
       with_reducible repeat refine gg ?_
       have e : j = i := by omega
       subst e
       refine ag (Hi ..) ?_
       refine rest j H (by omega) (by omega) (by omega) ?_ ?_ hh
       ·rcases hlow with h1 | h1
        ·exact .inl h1
        ·rcases hlo0 with h2 | h2
         ·exact .inr (.inl (by omega))
         ·exact .inr (.inr (by rw [h1]; exact h2))
       ·rcases hhigh with h1 | h1
        ·exact .inl h1
        ·rcases hhi0 with h2 | h2
         ·exact .inr (.inl (by omega))
         ·exact .inr (.inr (by omega))
    by_cases hmid : hf < X.length
    ·refine aa (mJ (by omega)) ?_
     with_reducible repeat refine gg ?_
     refine aa (ba (by omega) (by omega)) ?_
     refine ag (Eu ..) ?_
     refine aa (ba (by omega) (by omega)) ?_
     refine ag (Ew ..) ?_
     rw [show ((A.length + hf : Nat) : Int) + ((A.length + X.length : Nat) : Int) - ((A.length + X.length + Y.length : Nat) : Int) = ((A.length + (hf - Y.length) : Nat) : Int) from by omega]
     exact bin (hf - Y.length) hf (by omega) (Nat.le_refl _) (by omega) (.inr (by omega)) (.inr rfl) _ (hf - Y.length) hf H rfl (Nat.le_refl _) (by omega) (Nat.le_refl _) (.inr rfl) (.inr rfl) h
    ·refine aa (gT (by omega)) ?_
     with_reducible repeat refine gg ?_
     refine ag (Eu ..) ?_
     refine aa (ba (by omega) (by omega)) ?_
     refine ag (Ew ..) ?_
     have := bin 0 X.length (Nat.le_refl _) (by omega) (by omega) (.inl rfl) (.inl rfl) _ 0 X.length H rfl (Nat.le_refl _) (by omega) (Nat.le_refl _) (.inr rfl) (.inr rfl) h
     rw [Nat.add_zero] at this
     exact this
theorem Jw (s : Value) (bs : Nat) (h0 : 1 ≤ bs) {R : SP} (T : Nat) (hT : T < 1000000) (hbs : bs < 1000000) {Q : Value → AH → Prop} :
 ∀ (N : Nat) (L D : List TP) (H : AH), L.length ≤ N → D.length + L.length = T → OW bs L → ae (ts 7 Pt.cells s (pl D ++ pl L) * R) H →
 (∀ (Z : List TP) (H : AH), Z.Perm L → OW (2 * bs) Z → ae (ts 7 Pt.cells s (pl D ++ pl Z) * R) H → wp (Hv s (vi (T : Int)) kX (vi (bs : Int)) H) Q) →
 wp (zj s (vi (T : Int)) kX (vi (bs : Int)) (vi (D.length : Int)) (vi (((D.length + 2 * bs : Nat)) : Int)) H) Q := by
 intro N
 induction N using Nat.strongRecOn with
 | ind N ih =>
  intro L D H hN hDL hC hh hk
  refine ag (Oj ..) ?_
  by_cases hle : 2 * bs ≤ L.length
  ·refine aa (QX (by omega)) ?_
   with_reducible repeat refine gg ?_
   obtain ⟨X, L2, rfl, hXl, hXs, hXB, hC2⟩ := hC.split (by omega)
   rw [List.length_append] at hle hN hDL
   obtain ⟨Y, L3, rfl, hYl, hYs, hYB, hC3⟩ := hC2.split (by omega)
   rw [List.length_append] at hle hN hDL
   have hB := xE.append_right.1 hXB
   refine ag (Ok ..) ?_
   refine aa (aC (by omega) (by omega)) ?_
   have m := EI s _ (pl D) (pl L3) X Y (Nat.le_refl _) (by omega) (by omega) hXs hYs hB.1 (by rw [cM]; omega)
   rw [cM, hXl, hYl] at m
   rw [show ((D.length : Nat) : Int) + ((bs : Nat) : Int) = ((D.length + bs : Nat) : Int) from by omega, show D.length + 2 * bs = D.length + bs + bs from by omega]
   have e1 : pl D ++ pl (X ++ (Y ++ L3)) = pl D ++ (pl X ++ (pl Y ++ pl L3)) := by rw [gM, gM]
   rw [e1] at hh
   refine af hh m fun Z H1 h1 => ?_
   rw [ar, ae.pu] at h1
   obtain ⟨⟨hZs, hZp⟩, h1⟩ := h1
   have hZl := hZp.length_eq
   rw [List.length_append] at hZl
   refine aa (gR (by omega) (by omega)) ?_
   refine aa (aC (by omega) (by omega)) ?_
   have := ih L3.length (by omega) L3 (D ++ Z) H1 (Nat.le_refl _) (by rw [List.length_append]; omega) hC3 (by
    rw [gM, List.append_assoc]; exact h1.to) (fun Z2 H2 hp2 hc2 h2 => by
    refine hk (Z ++ Z2) H2 ?_ (.cons (by omega) hZs ?_ hc2) ?_
    ·rw [← List.append_assoc]
     exact hZp.append hp2
    ·have hb3 : xE (X ++ Y) L3 := fun x hx y hy => (List.mem_append.1 hx).elim (fun q => hB.2 x q y hy) (fun q => hYB x q y hy)
     exact hb3.perm hZp hp2
    ·rw [gM, ← List.append_assoc, ← gM D Z]
     exact h2)
   rw [List.length_append, hZl, hXl, hYl] at this
   rw [show ((D.length + bs + bs : Nat) : Int) + 2 * ((bs : Nat) : Int) = ((D.length + (bs + bs) + 2 * bs : Nat) : Int) from by omega, show D.length + bs + bs = D.length + (bs + bs) from by omega]
   exact this
  ·refine aa (QW (by omega)) ?_
   with_reducible repeat refine gg ?_
   refine ag (Hr ..) ?_
   refine ag (VE ..) ?_
   refine aa (aC (by omega) (by omega)) ?_
   by_cases hlt : bs < L.length
   ·refine aa (bI (by omega)) ?_
    with_reducible repeat refine gg ?_
    obtain ⟨X, Y, rfl, hXl, hXs, hXB, hC2⟩ := hC.split (by omega)
    rw [List.length_append] at hle hN hDL hlt
    have m := EI s _ (pl D) [] X Y (Nat.le_refl _) (by omega) (by omega) hXs (hC2.short (by omega)) hXB (by rw [cM]; omega)
    rw [cM, hXl, List.append_nil, show D.length + bs + Y.length = T from by omega] at m
    rw [show ((D.length : Nat) : Int) + ((bs : Nat) : Int) = ((D.length + bs : Nat) : Int) from by omega]
    have e1 : pl D ++ pl (X ++ Y) = pl D ++ (pl X ++ pl Y) := by rw [gM]
    rw [e1] at hh
    refine af hh m fun Z H1 h1 => ?_
    rw [ar, ae.pu] at h1
    obtain ⟨⟨hZs, hZp⟩, h1⟩ := h1
    have hZl := hZp.length_eq
    rw [List.length_append] at hZl
    rw [List.append_nil] at h1
    exact hk Z H1 hZp (.last (by omega) hZs) h1.to
   ·refine aa (bu (by omega)) ?_
    with_reducible repeat refine gg ?_
    exact hk L H (List.Perm.refl _) (.last (by omega) (hC.short (by omega))) hh
theorem Uz (s : Value) {R : SP} (L0 : List TP) (hT : L0.length < 400000) : ∀ (N : Nat) (bs : Nat) (L : List TP) (H : AH), 1 ≤ bs → bs < 1000000 → L0.length - bs ≤ N → L.Perm L0 → OW bs L → ae (ts 7 Pt.cells s (pl L) * R) H →
 wp (Hu s (vi (L0.length : Int)) kX (vi (bs : Int)) H) fun v' H' => ∃ Z : List TP, v' = .tuple #[] ∧ ae (pu (jF Z ∧ Z.Perm L0) * ts 7 Pt.cells s (pl Z) * R) H' := by
 intro N
 induction N using Nat.strongRecOn with
 | ind N ih =>
  intro bs L H h0 hbs hN hp hC hh
  have hl := hp.length_eq
  refine ag (VB ..) ?_
  by_cases hlt : bs < L0.length
  ·refine aa (bI (by omega)) ?_
   with_reducible repeat refine gg ?_
   refine ag (VC ..) ?_
   refine aa (gR (by omega) (by omega)) ?_
   refine ag (VD ..) ?_
   have := Jw s bs h0 (R := R) L0.length (by omega) hbs (Q := fun v' H' => ∃ Z : List TP, v' = .tuple #[] ∧ ae (pu (jF Z ∧ Z.Perm L0) * ts 7 Pt.cells s (pl Z) * R) H') L.length L [] H (Nat.le_refl _) (by simpa using hl) hC (by simpa using hh) (fun Z H1 hp1 hc1 h1 => by
    refine ag (VF ..) ?_
    refine aa (gR (by omega) (by omega)) ?_
    rw [show ((bs : Nat) : Int) * 2 = ((2 * bs : Nat) : Int) from by omega]
    exact ih (L0.length - 2 * bs) (by omega) (2 * bs) Z H1 (by omega) (by omega) (Nat.le_refl _) (hp1.trans hp) hc1 (by simpa using h1))
   rw [List.length_nil, Nat.zero_add] at this
   rw [show 2 * ((bs : Nat) : Int) = ((2 * bs : Nat) : Int) from by omega]
   exact this
  ·refine aa (bu (by omega)) ?_
   with_reducible repeat refine gg ?_
   refine ag (Kh ..) ?_
   refine ap ⟨L, rfl, ?_⟩
   rw [ar, ae.pu]
   exact ⟨⟨hC.short (by omega), hp⟩, hh⟩
theorem ah5 (s : Value) (T : Nat) (hT : T < 400000) {R : SP} {Q : Value → AH → Prop} : ∀ (N : Nat) (L D : List TP) (H : AH), L.length ≤ N → D.length + L.length = T → Asc L → ae (ts 7 Pt.cells s (pl D ++ pl L) * R) H →
 (∀ (Z : List TP) (H : AH), Z.Perm L → OW 20 Z → ae (ts 7 Pt.cells s (pl D ++ pl Z) * R) H → wp (Ol s (vi (T : Int)) kX (vi 20) H) Q) →
 wp (zk s (vi (T : Int)) kX (vi 20) (vi (D.length : Int)) (vi ((D.length + 20 : Nat) : Int)) H) Q := by
 intro N
 induction N using Nat.strongRecOn with
 | ind N ih =>
  intro L D H hN hDL hA hh hk
  refine ag (Om ..) ?_
  by_cases hle : 20 ≤ L.length
  ·refine aa (QX (by omega)) ?_
   with_reducible repeat refine gg ?_
   refine ag (On ..) ?_
   have eL : L.take 20 ++ L.drop 20 = L := List.take_append_drop ..
   have l1 : (L.take 20).length = 20 := by rw [List.length_take]; omega
   have l2 : (L.drop 20).length = L.length - 20 := List.length_drop
   obtain ⟨a1, a2, a3⟩ := K4.1 (by rw [eL]; exact hA : Asc (L.take 20 ++ L.drop 20))
   have m := DQ (pl D) (pl (L.drop 20)) s (L.take 20) a1 (by rw [cM]; omega)
   rw [cM, l1] at m
   have e1 : pl D ++ pl L = pl D ++ (pl (L.take 20) ++ pl (L.drop 20)) := by rw [← gM (L.take 20), eL]
   rw [e1] at hh
   refine af hh m fun Z H1 h1 => ?_
   rw [ar, ae.pu] at h1
   obtain ⟨⟨hZs, hZp⟩, h1⟩ := h1
   have hZl := hZp.length_eq
   refine aa (aC (by omega) (by omega)) ?_
   have := ih (L.drop 20).length (by omega) (L.drop 20) (D ++ Z) H1 (Nat.le_refl _) (by rw [List.length_append]; omega) a2 (by
    rw [gM, List.append_assoc]; exact h1.to) (fun Z2 H2 hp2 hc2 h2 => by
    refine hk (Z ++ Z2) H2 ?_ (.cons (by omega) hZs (a3.perm hZp hp2) hc2) ?_
    ·have := hZp.append hp2
     rw [eL] at this
     exact this
    ·rw [gM, ← List.append_assoc, ← gM D Z]
     exact h2)
   rw [List.length_append, hZl, l1] at this
   rw [show ((D.length + 20 : Nat) : Int) + 20 = ((D.length + 20 + 20 : Nat) : Int) from by omega]
   exact this
  ·refine aa (QW (by omega)) ?_
   with_reducible repeat refine gg ?_
   refine ag (Ht ..) ?_
   refine ag (Vz ..) ?_
   have m := DQ (pl D) [] s L hA (by rw [cM]; omega)
   rw [cM, hDL, List.append_nil] at m
   refine af hh m fun Z H1 h1 => ?_
   rw [ar, ae.pu, List.append_nil] at h1
   obtain ⟨⟨hZs, hZp⟩, h1⟩ := h1
   have hZl := hZp.length_eq
   exact hk Z H1 hZp (.last (by omega) hZs) h1.to
theorem acW (s : Value) (l : List Pt) (hl : l.length < 400000) : Sp aaS [s, kX] (ts 7 Pt.cells s l) (fun _ : Unit => .tuple #[]) (fun _ => ts 7 Pt.cells s (a8 l)) := by
 have stable : Sp aaT [s, vi l.length, kX] (ts 7 Pt.cells s l) (fun _ : List TP => .tuple #[]) (fun Z => pu (jF Z ∧ Z.Perm (oH 0 l)) * ts 7 Pt.cells s (pl Z)) := by
  refine av fun R H h => ?_
  refine aw (fun r => ajQ _ _ _ H) ?_
  refine ag (Vy ..) ?_
  have ln : (oH 0 l).length = l.length := by rw [← cM, Q5]
  have := ah5 s l.length hl (R := R) (Q := fun v' H' => ∃ Z : List TP, v' = .tuple #[] ∧ ae (pu (jF Z ∧ Z.Perm (oH 0 l)) * ts 7 Pt.cells s (pl Z) * R) H') l.length (oH 0 l) [] H (by omega) (by simpa using ln) (JC l 0) (by
   rw [Q5]; simpa using h) (fun Z H1 hp hc h1 => by
   refine ag (VA ..) ?_
   have := Uz s (R := R) (oH 0 l) (by omega) _ 20 Z H1 (by omega) (by omega) (Nat.le_refl _) hp hc (by simpa using h1)
   rw [ln] at this
   exact this)
  exact this
 refine av fun R H h => ?_
 refine aw (fun r => ajP _ _ H) ?_
 refine n0 (s := s) (l := l) h ?_
 refine af h stable fun Z H1 h1 => ?_
 rw [ar, ae.pu] at h1
 obtain ⟨⟨hZs, hZp⟩, h1⟩ := h1
 rw [SA hZs hZp] at h1
 exact ap ⟨(), rfl, h1.to⟩
theorem Nw (p : Nat) (rp : List Nat) (σ : a7) (hl : σ.pts.length < 400000) : Sp aaK [vp p] (bm p rp σ) (fun v : Value => v) (fun v => ts 7 Pt.cells v (a8 σ.pts) * bm p rp σ) := by
 have hbl := rP σ.pts
 refine av fun R H h => ?_
 obtain ⟨g, hrp, hg, h0⟩ := ee h
 unfold aH at h0
 refine aw (fun r => ai8 _ H) ?_
 refine am h0 ac rfl ?_
 refine af h0 (wy g.pv σ.pts (by omega)) fun v H1 h1 => ?_
 refine af h1 (acW v σ.pts hl) fun _ H2 h2 => ?_
 refine ag (UI _ _ _ H2) ?_
 refine n0 (s := v) (l := a8 σ.pts) h2 ?_
 refine ag (UK _ _ _ _ _ H2) ?_
 have h3 : ae (bm p rp σ * (ts 7 Pt.cells v (a8 σ.pts) * R)) H2 := by
  refine bo g hrp hg ?_
  unfold aH
  exact h2.to
 have h4 := cY 7 Pt.cells h3
 have h5 : ae (ts 7 Pt.cells (.slice none 0 0) ((a8 σ.pts).take 0) * (ts 7 Pt.cells v (a8 σ.pts) * bm p rp σ) * R) H2 := by rw [List.take_zero]; exact h4.to
 refine sW ?_ (JQ (.slice none 0 0) v (a8 σ.pts) (by omega) (a8 σ.pts).length 0 (.slice none 0 0) H2 (by omega) h5)
 rintro v' H' ⟨o, rfl, h6⟩
 exact ⟨_, rfl, h6.to⟩
end Go.Proofs.YtodpbobjmkhcfaaGreatDoor.Gst
