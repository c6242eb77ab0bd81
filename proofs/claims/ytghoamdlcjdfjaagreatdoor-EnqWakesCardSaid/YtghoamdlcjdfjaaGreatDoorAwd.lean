/- Several texts in one. -/
import Derived.Test.YtghoamdlcjdfjaaGreatDoorAwc
namespace Go.Proofs.YtghoamdlcjdfjaaGreatDoor.Gst
open Go Go.RowKit
set_option maxRecDepth 100000
set_option linter.unusedVariables false
set_option maxHeartbeats 1000000
set_option linter.unusedSimpArgs false
set_option synthInstance.maxSize 2000
set_option synthInstance.maxHeartbeats 400000
section
variable (Y Z x2 x3 x4 x5 x6 x8 x13 x14 x15 : Value) (H : AH)
theorem xt {r : Value × AH} (h : (
 aV (Value.cells x3).toList H fun c a =>
 ld [.n, .f 1] Y a fun d =>
 (aB 3 c a).bind fun e =>
 im [(0, 1), (1, 1), (2, 3)] [(vi 0), (vi 0), (vi 0), (vi 0), (vi 0)] [(0, Z), (1, x2), (2, e)] fun g =>
 Af 1 5 [(vi 0), (vi 0), (vi 0), (vi 0), (vi 0)] [(0, g)] a fun i j =>
 (dX 5 40 d i j).bind fun b =>
 st 1 [.n, .f 1] Y b.1 b.2 fun k =>
 some (Value.tuple #[], k)) = some r) : FF cF [Y, Z, x2, x3] H = some r :=
 fo Tryz.func104 (by kernel_rfl) h
theorem xo {r : Value × AH} (h : (
 aV (Value.cells Z).toList H fun b a =>
 ld [.n, .f 0] Y a fun c =>
 (aB 3 b a).bind fun d =>
 (b7 (.flat 3) (.agg #[(vw 0)]) c d false a).bind fun e =>
 (jC none 0 e).bind fun g =>
 some (g, a)) = some r) : FF dQ [Y, Z] H = some r :=
 fo Tryz.func105 (by kernel_rfl) h
theorem px {r : Value × AH} (h : (
 ld [.n, .f 11] Y H fun a =>
 (dv .int a Z x2 H).bind fun b =>
 some (Value.tuple #[], b)) = some r) : FF f3 [Y, Z, x2] H = some r :=
 fo Tryz.func106 (by kernel_rfl) h
theorem sA {r : Value × AH} (h : (
 ld [.n, .f 12] Y H fun b =>
 Af 2 1 [(vi 0)] [(0, Z), (1, x2)] H fun c d =>
 (dX 1 8 b c d).bind fun a =>
 st 1 [.n, .f 12] Y a.1 a.2 fun e =>
 some (Value.tuple #[], e)) = some r) : FF iv [Y, Z, x2] H = some r :=
 fo Tryz.func107 (by kernel_rfl) h
noncomputable def Dh (p : List Nat) : Code := Code.sub (bX Tryz.f108) p
noncomputable def rE : KK := ge PP (Tryz.f108).results.toList
noncomputable def Lr : KK := CQ (Dh [1]) rE bV rE
noncomputable def wA : OV := Lr (ls [Y, Z, u, u, x4, x5] 45) H
noncomputable def Dj : KK := CQ (Dh [1, 1]) rE bV rE
noncomputable def WU : KK := gk K9 Dj
noncomputable def oG : OV := Dj (ls [Y, Z, u, u, x4, x5] 45) H
noncomputable def WV : KX := BX 0 WU bV
theorem tc : au 2251799813685199 rE := rf
theorem Oo : au K9 Lr := rc tc aJ tc
theorem BZ : au K9 Dj := rc tc aJ tc
theorem Oq : ∀ i, au K9 (WV i) := rb (cd BZ) aJ
theorem ze : oG Y Z x4 x5 H =
 (FF iU [Y, Z] H).bind fun a =>
 (ai a.1 0).bind fun c =>
 (ai a.1 1).bind fun d =>
 (dg 4 x4 c a.2).bind fun b =>
 (aB 4 x4 b).bind fun e => some (Value.tuple #[e, d], b) :=
 (by kernel_rfl)
theorem zd : wA Y Z x4 x5 H =
 ld [.n, .f 2, .f 2] Y H fun i =>
 (ak .other .lss i (vi 1)).bind fun a =>
 (gV a false Y).bind fun j =>
 fH a false  [.n, .f 2, .f 2] j H fun k =>
 (gB a false (ak .other .gtr k (vi 65536))).bind fun l =>
 (aQ a (vb true) l).bind fun m =>
 ax m
 ((FF hC [Y, Z, (vi 3)] H).bind fun c =>
 (ai c.1 0).bind fun o =>
 (ai c.1 1).bind fun p =>
 (dg 4 x4 o c.2).bind fun e =>
 (aB 4 x4 e).bind fun q => some (Value.tuple #[q, p], e))
 (ld [.n, .f 2, .f 1] Y H fun s =>
 (ak .other .lss s (vi 0)).bind fun b =>
 (gV b false Y).bind fun t =>
 fH b false  [.n, .f 2, .f 1] t H fun w =>
 (gB b false (ak .other .gtr w (vi 1048576))).bind fun y =>
 (aQ b (vb true) y).bind fun z =>
 ax z
 ((FF hC [Y, Z, (vi 5)] H).bind fun d =>
 (ai d.1 0).bind fun A =>
 (ai d.1 1).bind fun B =>
 (dg 4 x4 A d.2).bind fun g =>
 (aB 4 x4 g).bind fun C => some (Value.tuple #[C, B], g))
 (oG Y Z x4 x5 H)) :=
 (pt rfl 0 BZ (bt rfl (Dh [1, 0, 4]) 0 Oq (by kernel_rfl)))
noncomputable def RW : OV := aW PP GG FF (Dh []) (ls [Y, Z] 49) H rE bV rE
theorem FT {r : Value × AH} (h : (
 aV [(vi 0), (.slice none 0 0), (vi 0), (vw 0)] H fun a b =>
 wA Y Z a (vb false) b) = some r) : FF kV [Y, Z] H = some r :=
 fo (t := RW Y Z H) Tryz.func108 (by kernel_rfl) (Eq.trans (pt rfl 0 Oo (by kernel_rfl)) h)
noncomputable def It (p : List Nat) : Code := Code.sub (bX Tryz.f109) p
noncomputable def rF : KK := ge PP (Tryz.f109).results.toList
noncomputable def Ls : KK := CQ (It [1, 1]) rF bV rF
noncomputable def lr : OV := Ls (ls [Y, u, u, u, x4, x5] 15) H
noncomputable def Lt : KK := CQ (It [1, 1, 1]) rF bV rF
noncomputable def gU : OV := Lt (ls [u, u, u, u, x4, x5] 15) H
theorem td : au 2097135 rF := rf
theorem Ot : au 2097102 Ls := rc td aJ td
theorem Ou : au 2097103 Lt := rc td aJ td
theorem iJ : gU x4 x5 H =
 some (x5, H) :=
 (by kernel_rfl)
theorem ox : lr Y x4 x5 H =
 (ak .other .lss x5 (vi 0)).bind fun a =>
 ax a
 (ld [.n, .f 1] Y H fun b =>
 (ak .other .add x5 b).bind fun c =>
 gU x4 c H)
 (gU x4 x5 H) :=
 (pt rfl 0 Ou (by kernel_rfl))
noncomputable def xW : OV := aW PP GG FF (It []) (ls [Y, Z] 19) H rF bV rF
theorem sB {r : Value × AH} (h : (
 ld [.n, .f 1] Y H fun a =>
 (ak .other .rem Z a).bind fun b =>
 lr Y (vi 0) b H) = some r) : FF e8 [Y, Z] H = some r :=
 fo (t := xW Y Z H) Tryz.func109 (by kernel_rfl) (Eq.trans (pt rfl 1 Ot (by kernel_rfl)) h)
theorem vX {r : Value × AH} (h : (
 im [(0, 1), (1, 1), (2, 1), (3, 1)] [(vi 0), (.slice none 0 0), (vi 0), (vw 0)] [(0, x2)] fun b =>
 st 4 [.n, .f 17] Y b H fun a =>
 ld [.n, .f 0] Y a fun c =>
 ld [.n, .f 1] Y a fun d =>
 ldN 4 [.n, .f 17] Y a fun e =>
 (FF UC [c, Z, d, e] a).bind fun g =>
 some (Value.tuple #[], g.2)) = some r) : FF cm [Y, Z, x2] H = some r :=
 fo Tryz.func110 (by kernel_rfl) h
noncomputable def Iy (p : List Nat) : Code := Code.sub (bX Tryz.f111) p
noncomputable def rG : KK := ge PP (Tryz.f111).results.toList
noncomputable def Lu : KK := CQ (Iy [1, 1, 1]) rG bV rG
noncomputable def Vd : OV := Lu (ls [Y, u, x2, x3, u, u, x6] 88) H
noncomputable def Lv : KK := CQ (Iy [1, 1, 1, 1]) rG bV rG
noncomputable def E3 : OV := Lv (ls [Y, u, x2, x3] 91) H
theorem tg : au 39614081257132168796771975155 rG := rf
theorem Ow : au 39614081257132168796771975090 Lu := rc tg aJ tg
theorem Ox : au 39614081257132168796771975154 Lv := rc tg aJ tg
theorem Qv : E3 Y x2 x3 H =
 ld [.n, .f 7] Y H fun b =>
 (ak .other .add b (vi 1)).bind fun c =>
 st 1 [.n, .f 7] Y c H fun a =>
 ld [.n, .f 7] Y a fun d =>
 ld [.n, .f 0] Y a fun e =>
 ld [.n, .f 7] e a fun g =>
 ld [.n, .f 2] g a fun i =>
 (ak .other .geq d i).bind fun j =>
 some (Value.tuple #[(vb false), j], a) :=
 (by kernel_rfl)
theorem Cz : Vd Y x2 x3 x6 H =
 (pw .not x6).bind fun a =>
 (gV a true Y).bind fun b =>
 fH a true  [.n, .f 8] b H fun c =>
 (gB a true (ak .other .lss c (vi 0))).bind fun d =>
 (aQ a d (vb false)).bind fun e =>
 ax e
 (ld [.n, .f 7] Y H fun g =>
 st 1 [.n, .f 8] Y g H fun i =>
 E3 Y x2 x3 i)
 (E3 Y x2 x3 H) :=
 (pt rfl 0 Ox (by kernel_rfl))
noncomputable def rTs : OV := aW PP GG FF (Iy []) (ls [Y] 94) H rG bV rG
theorem ZD {r : Value × AH} (h : (
 ad [.n, .f 0] Y fun d =>
 (am d H).bind fun j =>
 ad [.n, .f 7] j fun e =>
 (am e H).bind fun k =>
 ad [.n, .f 1] Y fun g =>
 (am g H).bind fun l =>
 ld [.n, .f 0] Y H fun m =>
 ld [.n, .f 7] m H fun o =>
 ld [.n, .f 2, .f 1] Y H fun p =>
 (FF e8 [o, p] H).bind fun a =>
 bw (am d a.2) (am d H) <|
 bw (am e a.2) (am e H) <|
 bw (am g a.2) (am g H) <|
 ad [.n, .f 7] Y fun i =>
 (am i a.2).bind fun q =>
 bw (am i H) (am i a.2) <|
 (FF i3 [k, l, a.1, q] a.2).bind fun b =>
 (ai b.1 0).bind fun s =>
 (ai b.1 1).bind fun w =>
 (ai b.1 2).bind fun c =>
 (gV c true s).bind fun y =>
 (gV c true Y).bind fun z =>
 fH c true  [.n, .f 2, .f 1] z b.2 fun A =>
 (gB c true (ak .other .eql y A)).bind fun B =>
 (aQ c B (vb false)).bind fun C =>
 ax C
 (st 1 [.n, .f 9] Y (vb true) b.2 fun D =>
 st 1 [.n, .f 10] Y w D fun E =>
 some (Value.tuple #[(vb true), (vb false)], E))
 (Vd Y (vb false) (vb false) c b.2)) = some r) : FF M2 [Y] H = some r :=
 fo (t := rTs Y H) Tryz.func111 (by kernel_rfl) (Eq.trans (pt rfl 2 Ow (by kernel_rfl)) h)
theorem um {r : Value × AH} (h : (
 ad [.n, .f 0] Y fun a =>
 (am a H).bind fun d =>
 (FF bL [(vi 8), x2, (vi 0)] H).bind fun b =>
 bw (am a b.2) (am a H) <|
 (FF fy [d, Z, b.1, (vw 0), (vw 1)] b.2).bind fun c =>
 some (c.1, c.2)) = some r) : FF i1 [Y, Z, x2] H = some r :=
 fo Tryz.func112 (by kernel_rfl) h
theorem qT {r : Value × AH} (h : (
 ad [.n, .f 0] Y fun a =>
 (am a H).bind fun c =>
 (FF bL [(vi 8), x2, (vi 0)] H).bind fun b =>
 bw (am a b.2) (am a H) <|
 (FF eM [c, Z, b.1, (vw 0)] b.2).bind fun d =>
 some (Value.tuple #[], d.2)) = some r) : FF gQ [Y, Z, x2] H = some r :=
 fo Tryz.func113 (by kernel_rfl) h
theorem vP {r : Value × AH} (h : (
 aV [(vi 0), (vi 0), (vw 0)] H fun c b =>
 (ak .other .lss x2 (vi 0)).bind fun a =>
 (gV a false x2).bind fun l =>
 (gV a false Y).bind fun m =>
 fH a false  [.n, .f 10] m b fun o =>
 (uR (yv a) false (fq o some) (some undef)).bind fun p =>
 (gB a false (ak .other .geq l p)).bind fun q =>
 (aQ a (vb true) q).bind fun s =>
 ax s
 (im [(0, 1), (1, 1), (2, 1)] [(vi 0), (vi 0), (vw 0)] [] fun t =>
 (dg 3 c t b).bind fun j =>
 (aB 3 c j).bind fun w => some (w, j))
 (ad [.n, .f 5] Y fun d =>
 (am d b).bind fun y =>
 (FF bL [(vi 13), x2, (vi 0)] b).bind fun e =>
 bw (am d e.2) (am d b) <|
 (FF bB [y, Z, (vi 5), e.1] e.2).bind fun g =>
 ld [.n, .f 10] Y g.2 fun z =>
 ldN 3 [.i 3 x2] z g.2 fun A =>
 (dg 3 c A g.2).bind fun k =>
 (aB 3 c k).bind fun B => some (B, k))) = some r) : FF jK [Y, Z, x2] H = some r :=
 fo Tryz.func114 (by kernel_rfl) h
theorem vZ {r : Value × AH} (h : (
 (FF bx [Y] H).bind fun a =>
 ad [.n, .f 1] Y fun c =>
 (am c a.2).bind fun g =>
 bw (am c H) (am c a.2) <|
 (FF jM [a.1, g] a.2).bind fun d =>
 st 1 [.n, .f 11] Y d.1 d.2 fun e =>
 ld [.n, .f 11] Y e fun i =>
 (FF fv [i] e).bind fun b =>
 (ai b.1 0).bind fun k =>
 (ai b.1 1).bind fun j =>
 (ai b.1 2).bind fun l =>
 some (j, b.2)) = some r) : FF gz [Y] H = some r :=
 fo Tryz.func115 (by kernel_rfl) h
theorem vY {r : Value × AH} (h : (
 ld [.n, .f 0] Y H fun a =>
 ld [.n, .f 11] a H fun b =>
 ld [.n, .f 10] Y H fun c =>
 ld [.i 1 c] b H fun d =>
 some (d, H)) = some r) : FF bx [Y] H = some r :=
 fo Tryz.func116 (by kernel_rfl) h
theorem vS {r : Value × AH} (h : (
 ad [.n, .f 0] Y fun a =>
 (am a H).bind fun d =>
 ld [.n, .f 1] Y H fun e =>
 (FF bL [(vi 12), e, (vi 0)] H).bind fun b =>
 bw (am a b.2) (am a H) <|
 (FF cX [d, Z, b.1] b.2).bind fun c =>
 some (c.1, c.2)) = some r) : FF gv [Y, Z] H = some r :=
 fo Tryz.func117 (by kernel_rfl) h
theorem EL {r : Value × AH} (h : (
 (ak .other .rem Y (vw 2305843009213693952)).bind fun b =>
 (ak .other .quo Y (vw 2305843009213693952)).bind fun c =>
 (bO (some .i64) c).bind fun a =>
 (ak .other .gtr a (vi 2)).bind fun d =>
 ax d
 (some (Value.tuple #[(vw 0), (vi (-1)), (vb false)], H))
 (some (Value.tuple #[b, a, (vb true)], H))) = some r) : FF fv [Y] H = some r :=
 fo Tryz.func118 (by kernel_rfl) h
theorem vR {r : Value × AH} (h : (
 (FF fv [Z] H).bind fun b =>
 (ai b.1 0).bind fun c =>
 (ai b.1 1).bind fun o =>
 (ai b.1 2).bind fun p =>
 (ak .other .geq c x2).bind fun a =>
 (gV a true c).bind fun d =>
 (gV a true x2).bind fun e =>
 (gB a true (ak .other .sub d e)).bind fun g =>
 (gV a true Y).bind fun i =>
 fH a true  [.n, .f 2] i b.2 fun j =>
 (gB a true (bO (some .u64) j)).bind fun k =>
 (gB a true (ak .other .geq g k)).bind fun l =>
 (aQ a l (vb false)).bind fun m =>
 some (m, b.2)) = some r) : FF gu [Y, Z, x2] H = some r :=
 fo Tryz.func119 (by kernel_rfl) h
noncomputable def Dl (p : List Nat) : Code := Code.sub (bX Tryz.f120) p
noncomputable def oK : KK := ge PP (Tryz.f120).results.toList
noncomputable def Lw : KK := CQ (Dl [1]) oK bV oK
noncomputable def lN : OV := Lw (ls [Y, Z] 48) H
noncomputable def Lx : KK := CQ (Dl [1, 1]) oK bV oK
noncomputable def fe : OV := Lx (ls [Y, Z] 48) H
noncomputable def WX : KX := BX 0 oK bV
theorem oL : au 1125899906842623 oK := rf
theorem Oy : au 1125899906842620 Lw := rc oL aJ oL
theorem Oz : au 1125899906842620 Lx := rc oL aJ oL
theorem OA : ∀ i, au 1125899906842623 (WX i) := rb oL aJ
theorem pD : fe Y Z H =
 (FF bx [Y] H).bind fun a =>
 ad [.n, .f 1] Y fun c =>
 (am c a.2).bind fun g =>
 bw (am c H) (am c a.2) <|
 ad [.n, .f 11] Y fun d =>
 (am d a.2).bind fun i =>
 bw (am d H) (am d a.2) <|
 (FF jL [a.1, g, i, (vi 0)] a.2).bind fun b =>
 ax b.1
 ((FF cm [Y, Z, (vi 0)] b.2).bind fun e =>
 ld [.n, .f 6] Y e.2 fun j =>
 (ak .other .add j (vi 1)).bind fun k =>
 st 1 [.n, .f 6] Y k e.2 fun l =>
 some (Value.tuple #[], l))
 (ld [.n, .f 6] Y b.2 fun m =>
 (ak .other .eql m (vi 9)).bind fun o =>
 ax o
 (st 1 [.n, .f 6] Y (vi 7) b.2 fun p =>
 some (Value.tuple #[], p))
 (st 1 [.n, .f 6] Y (vi 20) b.2 fun q =>
 some (Value.tuple #[], q))) :=
 (bt rfl (Dl [1, 1, 4]) 0 OA (by kernel_rfl))
theorem pC : lN Y Z H =
 ld [.n, .f 6] Y H fun a =>
 (ak .other .eql a (vi 13)).bind fun b =>
 ax b
 (st 1 [.n, .f 13] Y (vw 1) H fun c =>
 fe Y Z c)
 (fe Y Z H) :=
 (pt rfl 0 Oz (by kernel_rfl))
noncomputable def Av : OV := aW PP GG FF (Dl []) (ls [Y, Z] 48) H oK bV oK
theorem uq {r : Value × AH} (h : (
 st 1 [.n, .f 13] Y (vw 0) H fun a =>
 lN Y Z a) = some r) : FF i4 [Y, Z] H = some r :=
 fo (t := Av Y Z H) Tryz.func120 (by kernel_rfl) (Eq.trans (pt rfl 0 Oy (by kernel_rfl)) h)
theorem xV {r : Value × AH} (h : (
 aV (Value.cells x3).toList H fun g a =>
 ad [.n, .f 0] Y fun b =>
 (am b a).bind fun m =>
 ad [.n, .f 1] Y fun j =>
 (am j a).bind fun o =>
 (FF dj [Y, x2] a).bind fun d =>
 bw (am b d.2) (am b a) <|
 bw (am j d.2) (am j a) <|
 (FF bL [(vi 16), o, d.1] d.2).bind fun k =>
 bw (am b k.2) (am b a) <|
 (FF bB [m, Z, (vi 6), k.1] k.2).bind fun e =>
 ad [.n, .f 3] Y fun l =>
 (am l e.2).bind fun p =>
 (FF dj [Y, x2] e.2).bind fun c =>
 bw (am l c.2) (am l e.2) <|
 (aB 3 g c.2).bind fun q =>
 bw (aB 3 g e.2) (aB 3 g c.2) <|
 st 3 [.i 3 c.1] p q c.2 fun s =>
 some (Value.tuple #[], s)) = some r) : FF lg [Y, Z, x2, x3] H = some r :=
 fo Tryz.func121 (by kernel_rfl) h
theorem ur {r : Value × AH} (h : (
 ld [.n, .f 11] Y H fun b =>
 (FF fv [b] H).bind fun a =>
 (ai a.1 0).bind fun c =>
 (ai a.1 1).bind fun d =>
 (ai a.1 2).bind fun e =>
 some (c, a.2)) = some r) : FF dU [Y] H = some r :=
 fo Tryz.func122 (by kernel_rfl) h
theorem vT {r : Value × AH} (h : (
 ad [.n, .f 0] Y fun a =>
 (am a H).bind fun e =>
 ad [.n, .f 1] Y fun c =>
 (am c H).bind fun g =>
 (FF dj [Y, x2] H).bind fun b =>
 bw (am a b.2) (am a H) <|
 bw (am c b.2) (am c H) <|
 (FF bL [(vi 15), g, b.1] b.2).bind fun d =>
 bw (am a d.2) (am a H) <|
 (ak .other .add x2 (vw 1)).bind fun i =>
 (FF eM [e, Z, d.1, i] d.2).bind fun j =>
 some (Value.tuple #[], j.2)) = some r) : FF gy [Y, Z, x2] H = some r :=
 fo Tryz.func123 (by kernel_rfl) h
theorem sr {r : Value × AH} (h : (
 ad [.n, .f 0] Y fun a =>
 (am a H).bind fun c =>
 (FF bL [(vi 3), (vi 0), (vi 0)] H).bind fun b =>
 bw (am a b.2) (am a H) <|
 (FF ji [c, Z, b.1, (vw 4294967296)] b.2).bind fun d =>
 some (Value.tuple #[], d.2)) = some r) : FF iu [Y, Z] H = some r :=
 fo Tryz.func124 (by kernel_rfl) h
noncomputable def zp (p : List Nat) : Code := Code.sub (bX Tryz.f125) p
noncomputable def oM : KK := ge PP (Tryz.f125).results.toList
noncomputable def Lz : KK := CQ (zp [1]) oM bV oM
noncomputable def Vb : OV := Lz (ls [Y, Z, u, u, x4] 100) H
noncomputable def Dm : KK := CQ (zp [1, 1]) oM bV oM
noncomputable def Ly : KK := gk K5 Dm
noncomputable def nL : OV := Dm (ls [u, u, u, u, x4] 100) H
noncomputable def LA : KK := CQ (zp [1, 0, 1]) Ly bV oM
noncomputable def Vc : OV := LA (ls [Y, Z, u, u, x4, u, u, u, x8] 96) H
noncomputable def WY : KX := BX 0 Ly bV
theorem oN : au K5 oM := rf
theorem OB : au 40564819207303340847894502572012 Lz := rc oN aJ oN
theorem u6 : au K5 Dm := rc oN aJ oN
theorem OC : au 40564819207303340847894502571756 LA := rc (cd u6) aJ oN
theorem OD : ∀ i, au K5 (WY i) := rb (cd u6) aJ
theorem i7 : nL x4 H =
 some ((vb false), H) :=
 (by kernel_rfl)
theorem qu : Vc Y Z x4 x8 H =
 (ak .other .eql x8 (vi 15)).bind fun q =>
 ax q
 (ld [.n, .f 0] Y H fun s =>
 ld [.n, .f 1] Y H fun t =>
 (FF gr [s, t] H).bind fun o =>
 st 1 [.n, .f 13] Y o.1 o.2 fun w =>
 st 1 [.n, .f 6] Y (vi 16) w fun d =>
 ld [.n, .f 13] Y d fun y =>
 (ak .other .rem y (vw 2)).bind fun z =>
 (ak .other .eql z (vw 1)).bind fun A =>
 ax A
 (st 1 [.n, .f 6] Y (vi 7) d fun B =>
 nL x4 B)
 (nL x4 d))
 ((ak .other .eql x8 (vi 16)).bind fun C =>
 ax C
 (st 1 [.n, .f 6] Y (vi 17) H fun D =>
 (FF gz [Y] D).bind fun e =>
 (ak .other .eql e.1 (vi 2)).bind fun E =>
 ax E
 (st 1 [.n, .f 6] Y (vi 3) e.2 fun G =>
 nL x4 G)
 (nL x4 e.2))
 ((ak .other .eql x8 (vi 17)).bind fun I =>
 ax I
 ((FF bx [Y] H).bind fun c =>
 ad [.n, .f 1] Y fun g =>
 (am g c.2).bind fun J =>
 bw (am g H) (am g c.2) <|
 (FF gv [c.1, J] c.2).bind fun p =>
 st 1 [.n, .f 12] Y p.1 p.2 fun K =>
 st 1 [.n, .f 16] Y Z K fun L =>
 st 1 [.n, .f 6] Y (vi 18) L fun i =>
 (FF bx [Y] i).bind fun a =>
 ad [.n, .f 11] Y fun j =>
 (am j a.2).bind fun M =>
 bw (am j i) (am j a.2) <|
 ad [.n, .f 12] Y fun k =>
 (am k a.2).bind fun N =>
 bw (am k i) (am k a.2) <|
 (FF gu [a.1, M, N] a.2).bind fun l =>
 (pw .not l.1).bind fun O =>
 ax O
 (st 1 [.n, .f 6] Y (vi 7) l.2 fun P =>
 nL x4 P)
 (nL x4 l.2))
 ((ak .other .eql x8 (vi 18)).bind fun Q =>
 ax Q
 (ld [.n, .f 0] Y H fun R =>
 ld [.n, .f 1] Y H fun S =>
 (FF gr [R, S] H).bind fun b =>
 ad [.n, .f 13] Y fun m =>
 (am m b.2).bind fun T =>
 bw (am m H) (am m b.2) <|
 (ak .other .eql b.1 T).bind fun U =>
 ax U
 (ld [.n, .f 16] Y b.2 fun V =>
 (FF cm [Y, V, (vi 9)] b.2).bind fun W =>
 some ((vb true), W.2))
 (st 1 [.n, .f 6] Y (vi 7) b.2 fun X =>
 nL x4 X))
 (nL x4 H)))) :=
 (bt rfl (zp [1, 0, 1, 4]) 0 OD (by kernel_rfl))
theorem qt : Vb Y Z x4 H =
 ld [.n, .f 6] Y H fun a =>
 Vc Y Z x4 a H :=
 (pt rfl 0 u6 (pt rfl 0 OC (by kernel_rfl)))
noncomputable def rTf : OV := aW PP GG FF (zp []) (ls [Y, Z] 103) H oM bV oM
theorem E0 {r : Value × AH} (h : (
 Vb Y Z (vb false) H) = some r) : FF YK [Y, Z] H = some r :=
 fo (t := rTf Y Z H) Tryz.func125 (by kernel_rfl) (Eq.trans (pt rfl 0 OB (by kernel_rfl)) h)
noncomputable def zq (p : List Nat) : Code := Code.sub (bX Tryz.f126) p
noncomputable def oO : KK := ge PP (Tryz.f126).results.toList
noncomputable def LC : KK := CQ (zq [1, 1]) oO bV oO
noncomputable def Ve : OV := LC (ls [Y, Z, u, u, x4, x5] 113) H
noncomputable def Do : KK := CQ (zq [1, 1, 1]) oO bV oO
noncomputable def LB : KK := gk KZ Do
noncomputable def pF : OV := Do (ls [u, u, u, u, x4] 114) H
noncomputable def LD : KK := CQ (zq [1, 1, 0, 1]) LB bV oO
noncomputable def Vf : OV := LD (ls [Y, Z, u, u, x4, x5, u, u, u, u, u, u, u, x13] 105) H
noncomputable def WZ : KX := BX 0 LB bV
theorem oP : au KZ oO := rf
theorem OE : au 664613997892457936451903530140172236 LC := rc oP aJ oP
theorem u7 : au KZ Do := rc oP aJ oP
theorem OF : au 664613997892457936451903530140164044 LD := rc (cd u7) aJ oP
theorem OG : ∀ i, au KZ (WZ i) := rb (cd u7) aJ
theorem kC : pF x4 H =
 some ((vb false), H) :=
 (by kernel_rfl)
theorem kD : Vf Y Z x4 x5 x13 H =
 (ak .other .eql x13 (vi 20)).bind fun i =>
 ax i
 (ld [.n, .f 6] x5 H fun j =>
 ld [.n, .f 1] Y H fun k =>
 (FF gq [j, k] H).bind fun l =>
 st 1 [.n, .f 6] Y (vi 7) l.2 fun m =>
 pF x4 m)
 ((ak .other .eql x13 (vi 21)).bind fun o =>
 ax o
 ((FF bx [Y] H).bind fun a =>
 ad [.n, .f 1] Y fun b =>
 (am b a.2).bind fun p =>
 bw (am b H) (am b a.2) <|
 (FF dU [Y] a.2).bind fun d =>
 bw (am b d.2) (am b a.2) <|
 (FF gy [a.1, p, d.1] d.2).bind fun q =>
 st 1 [.n, .f 6] Y (vi 22) q.2 fun s =>
 pF x4 s)
 ((ak .other .eql x13 (vi 22)).bind fun t =>
 ax t
 (ld [.n, .f 6] x5 H fun w =>
 ld [.n, .f 1] Y H fun y =>
 (FF jJ [w, y, Z] H).bind fun g =>
 st 1 [.n, .f 15] Y g.1 g.2 fun z =>
 st 1 [.n, .f 6] Y (vi 23) z fun A =>
 pF x4 A)
 ((ak .other .eql x13 (vi 23)).bind fun B =>
 ax B
 (ld [.n, .f 6] x5 H fun C =>
 ld [.n, .f 1] Y H fun D =>
 ld [.n, .f 10] Y H fun E =>
 ld [.n, .f 15] Y H fun G =>
 (FF iX [C, D, E, G] H).bind fun I =>
 st 1 [.n, .f 6] Y (vi 24) I.2 fun J =>
 pF x4 J)
 ((ak .other .eql x13 (vi 24)).bind fun K =>
 ax K
 (st 1 [.n, .f 6] Y (vi 22) H fun c =>
 ld [.n, .f 6] x5 c fun L =>
 ld [.n, .f 1] Y c fun M =>
 ld [.n, .f 15] Y c fun N =>
 ld [.n, .f 10] Y c fun O =>
 (FF iY [L, M, Z, N, O] c).bind fun e =>
 ax e.1
 (st 1 [.n, .f 6] Y (vi 25) e.2 fun P =>
 pF x4 P)
 (pF x4 e.2))
 ((ak .other .eql x13 (vi 25)).bind fun Q =>
 ax Q
 (ld [.n, .f 6] x5 H fun R =>
 ld [.n, .f 1] Y H fun S =>
 (FF gq [R, S] H).bind fun T =>
 some ((vb true), T.2))
 (pF x4 H)))))) :=
 (bt rfl (zq [1, 1, 0, 1, 4]) 0 OG (by kernel_rfl))
theorem kB : Ve Y Z x4 x5 H =
 ld [.n, .f 6] Y H fun a =>
 Vf Y Z x4 x5 a H :=
 (pt rfl 0 u7 (pt rfl 0 OF (by kernel_rfl)))
noncomputable def rTw : OV := aW PP GG FF (zq []) (ls [Y, Z] 117) H oO bV oO
theorem wa {r : Value × AH} (h : (
 ld [.n, .f 0] Y H fun a =>
 Ve Y Z (vb false) a H) = some r) : FF UD [Y, Z] H = some r :=
 fo (t := rTw Y Z H) Tryz.func126 (by kernel_rfl) (Eq.trans (pt rfl 1 OE (by kernel_rfl)) h)
theorem JZ {r : Value × AH} (h : (
 aV [(vi 0), (vi 0), (vi 0)] H fun a c =>
 im [(0, 1), (1, 1), (2, 1)] [(vi 0), (vi 0), (vi 0)] [(0, Y), (1, Z), (2, x2)] fun d =>
 (dg 3 a d c).bind fun b =>
 (aB 3 a b).bind fun e => some (e, b)) = some r) : FF bL [Y, Z, x2] H = some r :=
 fo Tryz.func130 (by kernel_rfl) h
theorem vU {r : Value × AH} (h : (
 (FF nD [x2, x3] H).bind fun b =>
 (ai b.1 0).bind fun g =>
 (ai b.1 1).bind fun a =>
 (gV a true Y).bind fun i =>
 yq a true  [.n, .f 0] i fun d =>
 (gB a true (am d b.2)).bind fun j =>
 (gV a true Z).bind fun k =>
 (gV a true Y).bind fun l =>
 fH a true  [.n, .f 1] l b.2 fun m =>
 (gE a true b.2 (FF bL [(vi 11), m, (vi 0)] b.2)).bind fun c =>
 bw (am d c.2) (am d b.2) <|
 (gV a true x2).bind fun o =>
 (gV a true g).bind fun p =>
 (gE a true c.2 (FF fy [j, k, c.1, o, p] c.2)).bind fun e =>
 (aQ a e.1 (vb false)).bind fun q =>
 some (q, e.2)) = some r) : FF jL [Y, Z, x2, x3] H = some r :=
 fo Tryz.func132 (by kernel_rfl) h
theorem xu {r : Value × AH} (h : (
 aV (Value.cells x2).toList H fun a d =>
 (aB 3 a d).bind fun e =>
 (FF dQ [Y, e] d).bind fun b =>
 (aB 3 a b.2).bind fun g =>
 (FF cF [Y, Z, (vi 3), g] b.2).bind fun c =>
 ld [.n, .f 0] Y c.2 fun i =>
 (aB 3 a c.2).bind fun j =>
 im [(0, 1)] [(vw 0)] [(0, x3)] fun k =>
 (dv (.flat 3) i j k c.2).bind fun l =>
 some (b.1, l)) = some r) : FF fu [Y, Z, x2, x3] H = some r :=
 fo Tryz.func145 (by kernel_rfl) h
theorem ZF {r : Value × AH} (h : (
 (ak .slice .eql Y (.slice none 0 0)).bind fun b =>
 ax b
 (some ((.slice none 0 0), H))
 (Af 0 3 [(vi 0), (vi 0), (vi 0)] [] H fun c d =>
 (dX 3 24 c Y d).bind fun a =>
 some (a.1, a.2))) = some r) : FF UE [Y] H = some r :=
 fo Tryz.func148 (by kernel_rfl) h
theorem xw {r : Value × AH} (h : (
 (ak .other .geq Y Z).bind fun a =>
 (gV a true Y).bind fun b =>
 (gV a true x2).bind fun c =>
 (gB a true (ak .other .leq b c)).bind fun d =>
 (aQ a d (vb false)).bind fun e =>
 some (e, H)) = some r) : FF dS [Y, Z, x2] H = some r :=
 fo Tryz.func149 (by kernel_rfl) h
noncomputable def lX (p : List Nat) : Code := Code.sub (bX Tryz.f150) p
noncomputable def kJ : KK := ge PP (Tryz.f150).results.toList
noncomputable def LG : KK := CQ (lX [1, 1, 1]) kJ bV kJ
noncomputable def ue : OV := LG (ls [u, Z, u, u, x4, x5, x6] 23) H
noncomputable def Dp : KK := CQ (lX [1, 1, 1, 1]) kJ bV kJ
noncomputable def LE : KK := gk 1073741743 Dp
noncomputable def uf : OV := Dp (ls [u, u, u, u, x4, u, x6] 23) H
noncomputable def LH : KK := CQ (lX [1, 1, 1, 0, 1]) LE bV kJ
noncomputable def ug : OV := LH (ls [u, Z, u, u, x4, u, x6, u, u, u, u, u, u, u, x14, x15] 14) H
noncomputable def Dt : KX := BX 0 LE bV
noncomputable def yg : KX := uQ 1073741743 Dt
noncomputable def Dq : KK := CX (lX [1, 1, 1, 0, 1, 4, 5]) yg kJ
noncomputable def LF : KK := gk y3 Dq
noncomputable def j5 : OV := Dq (ls [u, Z, u, u, x4, u, x6, u, u, u, u, u, u, u, x14, x15] 14) H
noncomputable def LI : KK := CQ (lX [1, 1, 1, 0, 1, 4, 5, 1, 1]) LF yg kJ
noncomputable def uh : OV := LI (ls [u, Z, u, u, x4, u, x6, u, u, u, u, u, u, u, x14, x15] 14) H
noncomputable def Ds : KK := CQ (lX [1, 1, 1, 0, 1, 4, 5, 1, 1, 1]) LF yg kJ
noncomputable def W0 : KK := gk y3 Ds
noncomputable def ui : OV := Ds (ls [u, Z, u, u, x4, u, x6, u, u, u, u, u, u, u, x14, x15] 14) H
noncomputable def W3 : KX := BX 1 W0 yg
noncomputable def pA : OV := Dt 0 (ls [u, u, u, u, x4, u, x6] 23) H
theorem ju : au 1073741807 kJ := rf
theorem OH : au 1073741709 LG := rc ju aJ ju
theorem u9 : au 1073741743 Dp := rc ju aJ ju
theorem OI : au y3 LH := rc (cd u9) aJ ju
theorem mr : ∀ i, au 1073741743 (Dt i) := rb (cd u9) aJ
theorem p9 : au y3 Dq := rl (cx mr) ju
theorem OJ : au y3 LI := rc (cd p9) (cx mr) ju
theorem B0 : au y3 Ds := rc (cd p9) (cx mr) ju
theorem OK : ∀ i, au y3 (W3 i) := rb (cd B0) (cx mr)
theorem xH : uf x4 x6 H =
 some (x6, H) :=
 (by kernel_rfl)
theorem xK : ui Z x4 x6 x14 x15 H =
 (ak .other .add x15 (vi 1)).bind fun a =>
 j5 Z x4 x6 x14 a H :=
 (by kernel_rfl)
theorem xJ : uh Z x4 x6 x14 x15 H =
 ad [.n, .f 0] x6 fun a =>
 (am a H).bind fun d =>
 (FF pk [Z] H).bind fun b =>
 bw (am a b.2) (am a H) <|
 Af 1 1 [(.pointer none)] [(0, b.1)] b.2 fun e g =>
 (dX 1 8 d e g).bind fun c =>
 st 1 [.n, .f 0] x6 c.1 c.2 fun i =>
 ui Z x4 x6 x14 x15 i :=
 (pt rfl 0 B0 (bt rfl (lX [1, 1, 1, 0, 1, 4, 5, 1, 1, 0, 4]) 1 OK (by kernel_rfl)))
theorem ud : pA x4 x6 H = uf x4 x6 H :=
 (by kernel_rfl)
theorem n5 : j5 Z x4 x6 x14 x15 H =
 (ak .other .lss x15 x14).bind fun a =>
 ax a
 (uh Z x4 x6 x14 x15 H)
 (pA x4 x6 H) :=
 yx rfl p9 (pt rfl 1 OJ (by kernel_rfl))
theorem xI : ug Z x4 x6 x14 x15 H =
 j5 Z x4 x6 x14 x15 H :=
 (bt rfl (lX [1, 1, 1, 0, 1, 4]) 0 mr (li rfl (lX [1, 1, 1, 0, 1, 4, 5]) p9 (by kernel_rfl)))
theorem xG : ue Z x4 x5 x6 H =
 ug Z x4 x6 x5 (vi 0) H :=
 (pt rfl 0 u9 (pt rfl 0 OI (by kernel_rfl)))
noncomputable def Qf : OV := aW PP GG FF (lX []) (ls [Y, Z] 28) H kJ bV kJ
theorem EK {r : Value × AH} (h : (
 (gT [Y, (vi 1)]).bind fun c =>
 (iH [c, (vi 16)]).bind fun a =>
 (FF sj [a] H).bind fun b =>
 im [(0, 1), (1, 1)] [(.slice none 0 0), (.pointer none)] [(1, b.1)] fun d =>
 aV (Value.cells d).toList b.2 fun e f =>
 ue Z (.pointer none) a e f) = some r) : FF pi [Y, Z] H = some r :=
 fo (t := Qf Y Z H) Tryz.func150 (by kernel_rfl) (Eq.trans (pt rfl 2 OH (by kernel_rfl)) h)
noncomputable def lY (p : List Nat) : Code := Code.sub (bX Tryz.f154) p
noncomputable def kK : KK := ge PP (Tryz.f154).results.toList
noncomputable def LN : KK := CQ (lY [1, 1]) kK bV kK
noncomputable def U4 : OV := LN (ls [Y, Z, u, u, x4, x5] 24) H
noncomputable def Du : KK := CQ (lY [1, 1, 1]) kK bV kK
noncomputable def LK : KK := gk 1073741775 Du
noncomputable def U5 : OV := Du (ls [u, u, u, u, x4, x5] 24) H
noncomputable def LO : KK := CQ (lY [1, 1, 0, 1]) LK bV kK
noncomputable def U6 : OV := LO (ls [Y, Z, u, u, x4, x5, x6] 23) H
noncomputable def Dy : KX := BX 0 LK bV
noncomputable def yh : KX := uQ 1073741775 Dy
noncomputable def Dv : KK := CX (lY [1, 1, 0, 1, 4, 5]) yh kK
noncomputable def LM : KK := gk y4 Dv
noncomputable def EU : OV := Dv (ls [Y, Z, u, u, x4, x5, x6] 23) H
noncomputable def LP : KK := CQ (lY [1, 1, 0, 1, 4, 5, 1]) LM yh kK
noncomputable def U7 : OV := LP (ls [Y, Z, u, u, x4, x5, x6] 23) H
noncomputable def Dw : KK := CQ (lY [1, 1, 0, 1, 4, 5, 1, 1]) LM yh kK
noncomputable def W4 : KK := gk y4 Dw
noncomputable def U8 : OV := Dw (ls [Y, Z, u, u, x4, x5, x6] 23) H
noncomputable def W5 : KX := BX 1 W4 yh
noncomputable def GW : OV := Dy 0 (ls [u, u, u, u, x4, x5] 24) H
theorem jv : au 1073741807 kK := rf
theorem OL : au 1073741772 LN := rc jv aJ jv
theorem vc : au 1073741775 Du := rc jv aJ jv
theorem OM : au y4 LO := rc (cd vc) aJ jv
theorem mt : ∀ i, au 1073741775 (Dy i) := rb (cd vc) aJ
theorem qa : au y4 Dv := rl (cx mt) jv
theorem ON : au y4 LP := rc (cd qa) (cx mt) jv
theorem B1 : au y4 Dw := rc (cd qa) (cx mt) jv
theorem OO : ∀ i, au y4 (W5 i) := rb (cd B1) (cx mt)
theorem Qn : U5 x4 x5 H =
 some (x5, H) :=
 (by kernel_rfl)
theorem Qq : U8 Y Z x4 x5 x6 H =
 (ak .other .add x6 (vi 1)).bind fun a =>
 EU Y Z x4 x5 a H :=
 (by kernel_rfl)
theorem Qp : U7 Y Z x4 x5 x6 H =
 ad [.n, .f 0] x5 fun a =>
 (am a H).bind fun d =>
 (FF pj [Z] H).bind fun b =>
 bw (am a b.2) (am a H) <|
 im [(0, 1), (1, 1), (2, 1), (3, 1)] [(.slice none 0 0), (vw 0), (vi 0), (vb false)] [(2, b.1), (3, (vb true))] fun e =>
 aV (Value.cells e).toList b.2 fun g i =>
 Af 1 1 [(.pointer none)] [(0, g)] i fun j k =>
 (dX 1 8 d j k).bind fun c =>
 st 1 [.n, .f 0] x5 c.1 c.2 fun l =>
 U8 Y Z x4 x5 x6 l :=
 (pt rfl 0 B1 (bt rfl (lY [1, 1, 0, 1, 4, 5, 1, 0, 4]) 1 OO (by kernel_rfl)))
theorem GX : GW x4 x5 H = U5 x4 x5 H :=
 (by kernel_rfl)
theorem Cu : EU Y Z x4 x5 x6 H =
 (gT [Y, (vi 1)]).bind fun a =>
 (iH [a, (vi 16)]).bind fun b =>
 (ak .other .lss x6 b).bind fun c =>
 ax c
 (U7 Y Z x4 x5 x6 H)
 (GW x4 x5 H) :=
 yx rfl qa (pt rfl 0 ON (by kernel_rfl))
theorem Qo : U6 Y Z x4 x5 x6 H =
 EU Y Z x4 x5 x6 H :=
 (bt rfl (lY [1, 1, 0, 1, 4]) 0 mt (li rfl (lY [1, 1, 0, 1, 4, 5]) qa (by kernel_rfl)))
theorem Qm : U4 Y Z x4 x5 H =
 U6 Y Z x4 x5 (vi 0) H :=
 (pt rfl 0 vc (pt rfl 0 OM (by kernel_rfl)))
noncomputable def rNQ : OV := aW PP GG FF (lY []) (ls [Y, Z] 28) H kK bV kK
theorem ZA {r : Value × AH} (h : (
 im [(0, 1)] [(.slice none 0 0)] [] fun a =>
 aV (Value.cells a).toList H fun b c =>
 U4 Y Z (.pointer none) b c) = some r) : FF UB [Y, Z] H = some r :=
 fo (t := rNQ Y Z H) Tryz.func154 (by kernel_rfl) (Eq.trans (pt rfl 1 OL (by kernel_rfl)) h)
theorem vB {r : Value × AH} (h : (
 aV (Value.cells x2).toList H fun b a =>
 (aB 3 b a).bind fun c =>
 (FF cF [Y, Z, (vi 6), c] a).bind fun d =>
 some (Value.tuple #[], d.2)) = some r) : FF eL [Y, Z, x2] H = some r :=
 fo Tryz.func155 (by kernel_rfl) h
theorem G0 {r : Value × AH} (h : (
 (gT [x2, (vi 1)]).bind fun c =>
 (iH [c, (vi 8)]).bind fun a =>
 (jV [(vi 0), (vi 0), (vi 0)] 3 24 a a H).bind fun b =>
 im [(0, 1), (1, 1), (2, 1)] [(.pointer none), (vi 0), (.slice none 0 0)] [(0, Y), (1, Z), (2, b.1)] fun d =>
 aV (Value.cells d).toList b.2 fun e f =>
 some (e, f)) = some r) : FF sg [Y, Z, x2] H = some r :=
 fo Tryz.func156 (by kernel_rfl) h
theorem Ap {r : Value × AH} (h : (
 aV (Value.cells x3).toList H fun c a =>
 ld [.n, .f 2] Y a fun d =>
 (aB 3 c a).bind fun e =>
 im [(0, 1), (1, 1), (2, 3)] [(vi 0), (vi 0), (vi 0), (vi 0), (vi 0)] [(0, Z), (1, x2), (2, e)] fun g =>
 Af 1 5 [(vi 0), (vi 0), (vi 0), (vi 0), (vi 0)] [(0, g)] a fun i j =>
 (dX 5 40 d i j).bind fun b =>
 st 1 [.n, .f 2] Y b.1 b.2 fun k =>
 some (Value.tuple #[], k)) = some r) : FF bB [Y, Z, x2, x3] H = some r :=
 fo Tryz.func157 (by kernel_rfl) h
theorem At {r : Value × AH} (h : (
 (gT [x2, (vi 1)]).bind fun c =>
 (iH [c, (vi 8)]).bind fun a =>
 (jV [(vi 0), (vi 0), (vi 0)] 3 24 a a H).bind fun b =>
 im [(0, 1), (1, 1), (2, 1), (3, 1)] [(.pointer none), (vi 0), (vi 0), (.slice none 0 0)] [(0, Y), (1, Z), (2, a), (3, b.1)] fun d =>
 aV (Value.cells d).toList b.2 fun e f =>
 some (e, f)) = some r) : FF mg [Y, Z, x2] H = some r :=
 fo Tryz.func158 (by kernel_rfl) h
theorem vA {r : Value × AH} (h : (
 aV (Value.cells x2).toList H fun b c =>
 (aB 3 b c).bind fun d =>
 (FF cF [Y, Z, (vi 2), d] c).bind fun a =>
 ld [.n, .f 0] Y a.2 fun e =>
 (aB 3 b a.2).bind fun g =>
 im [(0, 1)] [(vw 0)] [(0, x3)] fun i =>
 (dv (.flat 3) e g i a.2).bind fun j =>
 some (Value.tuple #[], j)) = some r) : FF di [Y, Z, x2, x3] H = some r :=
 fo Tryz.func159 (by kernel_rfl) h
theorem vO {r : Value × AH} (h : (
 aV (Value.cells x2).toList H fun b c =>
 (aB 3 b c).bind fun e =>
 (FF bB [Y, Z, (vi 2), e] c).bind fun d =>
 (aB 3 b d.2).bind fun g =>
 (FF Ah [Y, g] d.2).bind fun a =>
 ld [.n, .f 1] Y a.2 fun j =>
 st 1 [.i 1 a.1] j x3 a.2 fun k =>
 some (Value.tuple #[], k)) = some r) : FF eM [Y, Z, x2, x3] H = some r :=
 fo Tryz.func160 (by kernel_rfl) h
end
section
variable (G I J L M P R K N Q O : Value) (H : AH)
theorem C9 {r : Value × AH} (h : (
 aV [(vi 0), (.slice none 0 0), (vi 0), (vw 0)] H fun b d =>
 (FF ku [G, I, J] d).bind fun e =>
 (FF kp [G, J] e.2).bind fun a =>
 (ai a.1 0).bind fun f =>
 (ai a.1 1).bind fun g =>
 (dg 4 b f a.2).bind fun c =>
 (aB 4 b c).bind fun i => some (Value.tuple #[i, g], c)) = some r) : FF hC [G, I, J] H = some r :=
 fo Tryz.func167 (by kernel_rfl) h
noncomputable def Dz (p : List Nat) : Code := Code.sub (bX Tryz.f168) p
noncomputable def rH : KK := ge PP (Tryz.f168).results.toList
noncomputable def LQ : KK := CQ (Dz [1, 1]) rH bV rH
noncomputable def zh : OV := LQ (ls [G, u, u, u, M, P, R] 27) H
noncomputable def DA : KK := CQ (Dz [1, 1, 1]) rH bV rH
noncomputable def W6 : KK := gk 17179869134 DA
noncomputable def zi : OV := DA (ls [G, u, u, u, M, P] 28) H
noncomputable def W7 : KX := BX 0 W6 bV
theorem th : au 17179869135 rH := rf
theorem OP : au 17179869070 LQ := rc th aJ th
theorem B2 : au 17179869134 DA := rc th aJ th
theorem OQ : ∀ i, au 17179869134 (W7 i) := rb (cd B2) aJ
theorem Br : zi G M P H =
 (FF ba [G, (.func (.func iU) #[G] #[])] H).bind fun a =>
 (ai a.1 0).bind fun c =>
 (ai a.1 1).bind fun d =>
 (dg 4 M c a.2).bind fun b =>
 (aB 4 M b).bind fun e => some (Value.tuple #[e, d], b) :=
 (by kernel_rfl)
theorem Bq : zh G M P R H =
 ld [.n, .f 10] G H fun e =>
 ax e
 ((FF ba [G, (.func (.func fL) #[G] #[])] H).bind fun a =>
 (ai a.1 0).bind fun g =>
 (ai a.1 1).bind fun i =>
 (dg 4 M g a.2).bind fun c =>
 (aB 4 M c).bind fun j => some (Value.tuple #[j, i], c))
 (ax R
 ((FF ba [G, (.func (.func cu) #[G] #[])] H).bind fun b =>
 (ai b.1 0).bind fun k =>
 (ai b.1 1).bind fun l =>
 (dg 4 M k b.2).bind fun d =>
 (aB 4 M d).bind fun m => some (Value.tuple #[m, l], d))
 (zi G M P H)) :=
 (pt rfl 0 B2 (bt rfl (Dz [1, 1, 0, 4]) 0 OQ (by kernel_rfl)))
noncomputable def WR : OV := aW PP GG FF (Dz []) (ls [G, I] 32) H rH bV rH
theorem Ik {r : Value × AH} (h : (
 aV [(vi 0), (.slice none 0 0), (vi 0), (vw 0)] H fun b c =>
 (FF tU [G] c).bind fun a =>
 zh G b (vb false) a.1 a.2) = some r) : FF iU [G, I] H = some r :=
 fo (t := WR G I H) Tryz.func168 (by kernel_rfl) (Eq.trans (pt rfl 1 OP (by kernel_rfl)) h)
noncomputable def fj (p : List Nat) : Code := Code.sub (bX Tryz.f169) p
noncomputable def fm : KK := ge PP (Tryz.f169).results.toList
noncomputable def LT : KK := CQ (fj [1, 1]) fm bV fm
noncomputable def U9 : OV := LT (ls [G, I, J, u, u, u, u, K, N] 81) H
noncomputable def DB : KK := CQ (fj [1, 1, 1]) fm bV fm
noncomputable def LS : KK := gk FC DB
noncomputable def J4 : OV := DB (ls [G, I, J, u, u, u, u, K, N] 81) H
noncomputable def LU : KK := CQ (fj [1, 1, 1, 1, 1]) fm bV fm
noncomputable def Va : OV := LU (ls [G, I, J, u, u, u, u, K, N, u, O] 79) H
noncomputable def DC : KK := CQ (fj [1, 1, 1, 1, 1, 1]) fm bV fm
noncomputable def W8 : KK := gk C1 DC
noncomputable def J6 : OV := DC (ls [G, I, J, u, u, u, u, K, N, u, O] 79) H
noncomputable def zx : KX := BX 2 W8 bV
noncomputable def zz : KX := uQ C1 zx
noncomputable def zt : KK := CX (fj [1, 1, 1, 1, 1, 0, 4, 5]) zz fm
noncomputable def F2 : KK := gk C1 zt
noncomputable def yC : OV := zt (ls [G, I, J, u, u, u, u, K, N, u, O] 79) H
noncomputable def F4 : KK := CQ (fj [1, 1, 1, 1, 1, 0, 4, 5, 1]) F2 zz fm
noncomputable def Nj : OV := F4 (ls [G, I, J, u, u, u, u, K, N, u, O] 79) H
noncomputable def Su : KX := BX 3 F2 zz
noncomputable def Cv : OV := zx 2 (ls [G, I, J, u, u, u, u, K, N, u, O] 79) H
noncomputable def F5 : KK := CQ (fj [1, 1, 0, 1]) LS bV fm
noncomputable def Nk : OV := F5 (ls [G, I, J, u, u, u, u, K, N, Q] 80) H
noncomputable def zy : KX := BX 0 LS bV
noncomputable def ti : KX := uQ FC zy
noncomputable def zu : KK := CX (fj [1, 1, 0, 1, 4, 5]) ti fm
noncomputable def F3 : KK := gk yV zu
noncomputable def yD : OV := zu (ls [G, I, J, u, u, u, u, K, N, Q] 80) H
noncomputable def F6 : KK := CQ (fj [1, 1, 0, 1, 4, 5, 1]) F3 ti fm
noncomputable def Nl : OV := F6 (ls [G, I, J, u, u, u, u, K, N, Q] 80) H
noncomputable def zv : KK := CQ (fj [1, 1, 0, 1, 4, 5, 1, 1]) F3 ti fm
noncomputable def Ss : KK := gk yV zv
noncomputable def yE : OV := zv (ls [G, I, J, u, u, u, u, K, N, Q] 80) H
noncomputable def Sw : KX := BX 1 Ss ti
noncomputable def Cw : OV := zy 0 (ls [G, I, J, u, u, u, u, K, N] 81) H
theorem dm : au 1237940039285380274899124223 fm := rf
theorem OR : au FC LT := rc dm aJ dm
theorem vd : au FC DB := rc dm aJ dm
theorem OS : au C1 LU := rc dm aJ dm
theorem B3 : au C1 DC := rc dm aJ dm
theorem np : ∀ i, au C1 (zx i) := rb (cd B3) aJ
theorem nj : au C1 zt := rl (cx np) dm
theorem Iz : au C1 F4 := rc (cd nj) (cx np) dm
theorem IC : ∀ i, au C1 (Su i) := rb (cd nj) (cx np)
theorem IA : au yV F5 := rc (cd vd) aJ dm
theorem kL : ∀ i, au FC (zy i) := rb (cd vd) aJ
theorem nk : au yV zu := rl (cx kL) dm
theorem IB : au yV F6 := rc (cd nk) (cx kL) dm
theorem zw : au yV zv := rc (cd nk) (cx kL) dm
theorem ID : ∀ i, au yV (Sw i) := rb (cd zw) (cx kL)
theorem Qu : J6 G I J K N O H =
 ld [.n, .f 13] G H fun d =>
 (dY 7 d none (some O)).bind fun e =>
 (dX 7 72 (.slice none 0 0) e H).bind fun a =>
 (aB 4 K a.2).bind fun g =>
 im [(0, 1), (1, 1), (2, 1), (3, 4)] [(vi 0), (vi 0), (vi 0), (vi 0), (.slice none 0 0), (vi 0), (vw 0)] [(0, I), (1, J), (2, N), (3, g)] fun i =>
 Af 1 7 [(vi 0), (vi 0), (vi 0), (vi 0), (.slice none 0 0), (vi 0), (vw 0)] [(0, i)] a.2 fun j k =>
 (dX 7 72 a.1 j k).bind fun b =>
 ld [.n, .f 13] G b.2 fun l =>
 (dY 7 l (some O) none).bind fun m =>
 (dX 7 72 b.1 m b.2).bind fun c =>
 st 1 [.n, .f 13] G c.1 c.2 fun o =>
 some (Value.tuple #[], o) :=
 (by kernel_rfl)
theorem J5 : Nj G I J K N O H =
 (ak .other .sub O (vi 1)).bind fun a =>
 yC G I J K N a H :=
 (bt rfl (fj [1, 1, 1, 1, 1, 0, 4, 5, 1, 4]) 3 IC (by kernel_rfl))
theorem us : Cv G I J K N O H = J6 G I J K N O H :=
 (by kernel_rfl)
theorem Ay : yC G I J K N O H =
 (ak .other .gtr O (vi 0)).bind fun a =>
 (gV a true G).bind fun b =>
 fH a true  [.n, .f 13] b H fun c =>
 (gV a true O).bind fun d =>
 (gB a true (ak .other .sub d (vi 1))).bind fun e =>
 fH a true  [.i 7 e, .f 0] c H fun g =>
 (gV a true I).bind fun j =>
 (gB a true (ak .other .gtr g j)).bind fun k =>
 (aQ a k (vb false)).bind fun l =>
 ax l
 (Nj G I J K N O H)
 (Cv G I J K N O H) :=
 yx rfl nj (pt rfl 0 Iz (by kernel_rfl))
theorem Qt : Va G I J K N O H =
 yC G I J K N O H :=
 (pt rfl 0 B3 (bt rfl (fj [1, 1, 1, 1, 1, 0, 4]) 2 np (li rfl (fj [1, 1, 1, 1, 1, 0, 4, 5]) nj (by kernel_rfl))))
theorem Qs : J4 G I J K N H =
 ld [.f 1] K H fun c =>
 (dX 3 24 (.slice none 0 0) c H).bind fun a =>
 st 1 [.f 1] K a.1 a.2 fun b =>
 ld [.n, .f 13] G b fun d =>
 fq d fun e =>
 Va G I J K N e b :=
 (pt rfl 1 OS (by kernel_rfl))
theorem J9 : yE G I J K N Q H =
 (ak .other .add Q (vi 2)).bind fun a =>
 yD G I J K N a H :=
 (by kernel_rfl)
theorem J8 : Nl G I J K N Q H =
 ld [.n, .f 12] G H fun a =>
 ld [.i 1 Q] a H fun b =>
 (ak .other .eql b J).bind fun c =>
 ax c
 (ld [.n, .f 12] G H fun d =>
 (ak .other .add Q (vi 1)).bind fun e =>
 ld [.i 1 e] d H fun g =>
 yE G I J K g Q H)
 (yE G I J K N Q H) :=
 (pt rfl 0 zw (bt rfl (fj [1, 1, 0, 1, 4, 5, 1, 0, 4]) 1 ID (by kernel_rfl)))
theorem EV : Cw G I J K N H = J4 G I J K N H :=
 (by kernel_rfl)
theorem Az : yD G I J K N Q H =
 ld [.n, .f 12] G H fun a =>
 fq a fun b =>
 (ak .other .lss Q b).bind fun c =>
 ax c
 (Nl G I J K N Q H)
 (Cw G I J K N H) :=
 yx rfl nk (pt rfl 0 IB (by kernel_rfl))
theorem J7 : Nk G I J K N Q H =
 yD G I J K N Q H :=
 (bt rfl (fj [1, 1, 0, 1, 4]) 0 kL (li rfl (fj [1, 1, 0, 1, 4, 5]) nk (by kernel_rfl)))
theorem Qr : U9 G I J K N H =
 Nk G I J K N (vi 0) H :=
 (pt rfl 0 vd (pt rfl 0 IA (by kernel_rfl)))
noncomputable def rPN : OV := aW PP GG FF (fj []) (ls [G, I, J, L] 86) H fm bV fm
theorem ZB {r : Value × AH} (h : (
 aV (Value.cells L).toList H fun a b =>
 U9 G I J a (vi 0) b) = some r) : FF UC [G, I, J, L] H = some r :=
 fo (t := rPN G I J L H) Tryz.func169 (by kernel_rfl) (Eq.trans (pt rfl 1 OR (by kernel_rfl)) h)
theorem uo {r : Value × AH} (h : (
 ad [.n, .f 0] G fun b =>
 (am b H).bind fun d =>
 (FF bL [(vi 10), J, L] H).bind fun c =>
 bw (am b c.2) (am b H) <|
 (FF cX [d, I, c.1] c.2).bind fun a =>
 (ak .other .eql a.1 (vw 0)).bind fun e =>
 ax e
 (some (Value.tuple #[(vi 0), (vi 0), (vb false)], a.2))
 ((ak .other .quo a.1 (vw 4294967296)).bind fun g =>
 (bO (some .i64) g).bind fun i =>
 (ak .other .sub i (vi 1)).bind fun j =>
 (ak .other .rem a.1 (vw 4294967296)).bind fun k =>
 (bO (some .i64) k).bind fun l =>
 some (Value.tuple #[j, l, (vb true)], a.2))) = some r) : FF i3 [G, I, J, L] H = some r :=
 fo Tryz.func170 (by kernel_rfl) h
theorem xN {r : Value × AH} (h : (
 aV (Value.cells J).toList H fun b c =>
 (aB 3 b c).bind fun e =>
 (FF Ah [G, e] c).bind fun a =>
 ld [.n, .f 1] G a.2 fun g =>
 ld [.i 1 a.1] g a.2 fun j =>
 (ak .other .neq j L).bind fun k =>
 ax k
 ((aB 3 b a.2).bind fun l =>
 (FF bB [G, I, (vi 4), l] a.2).bind fun m =>
 some ((vb false), m.2))
 ((aB 3 b a.2).bind fun o =>
 (FF bB [G, I, (vi 3), o] a.2).bind fun d =>
 ld [.n, .f 1] G d.2 fun p =>
 st 1 [.i 1 a.1] p M d.2 fun q =>
 some ((vb true), q))) = some r) : FF fy [G, I, J, L, M] H = some r :=
 fo Tryz.func171 (by kernel_rfl) h
theorem vV {r : Value × AH} (h : (
 ad [.n, .f 0] G fun a =>
 (am a H).bind fun d =>
 ld [.n, .f 1] G H fun e =>
 (FF bL [(vi 11), e, (vi 0)] H).bind fun b =>
 bw (am a b.2) (am a H) <|
 (FF cX [d, I, b.1] b.2).bind fun c =>
 some (c.1, c.2)) = some r) : FF jM [G, I] H = some r :=
 fo Tryz.func172 (by kernel_rfl) h
theorem xM {r : Value × AH} (h : (
 aV (Value.cells J).toList H fun b c =>
 (aB 3 b c).bind fun e =>
 (FF bB [G, I, (vi 1), e] c).bind fun d =>
 (aB 3 b d.2).bind fun g =>
 (FF Ah [G, g] d.2).bind fun a =>
 ld [.n, .f 1] G a.2 fun j =>
 ld [.i 1 a.1] j a.2 fun k =>
 some (k, a.2)) = some r) : FF cX [G, I, J] H = some r :=
 fo Tryz.func173 (by kernel_rfl) h
theorem mY {r : Value × AH} (h : (
 ld [.n, .f 2] G H fun a =>
 (bO (some .u64) a).bind fun b =>
 (ak .other .rem I b).bind fun c =>
 (bO (some .i64) c).bind fun d =>
 some (d, H)) = some r) : FF dj [G, I] H = some r :=
 fo Tryz.func174 (by kernel_rfl) h
theorem Ao {r : Value × AH} (h : (
 aV (Value.cells J).toList H fun c d =>
 (aB 3 c d).bind fun g =>
 (FF Ah [G, g] d).bind fun a =>
 (aB 3 c a.2).bind fun j =>
 (FF bB [G, I, (vi 3), j] a.2).bind fun b =>
 ld [.n, .f 1] G b.2 fun k =>
 ld [.i 1 a.1] k b.2 fun e =>
 ld [.n, .f 1] G b.2 fun l =>
 (ak .other .add e L).bind fun m =>
 st 1 [.i 1 a.1] l m b.2 fun o =>
 some (e, o)) = some r) : FF ji [G, I, J, L] H = some r :=
 fo Tryz.func175 (by kernel_rfl) h
theorem vQ {r : Value × AH} (h : (
 ad [.n, .f 5] G fun a =>
 (am a H).bind fun d =>
 (FF bL [(vi 2), (vi 0), (vi 0)] H).bind fun b =>
 bw (am a b.2) (am a H) <|
 (FF cX [d, I, b.1] b.2).bind fun c =>
 some (c.1, c.2)) = some r) : FF gr [G, I] H = some r :=
 fo Tryz.func176 (by kernel_rfl) h
theorem vM {r : Value × AH} (h : (
 ad [.n, .f 0] G fun a =>
 (am a H).bind fun c =>
 (FF bL [(vi 3), (vi 0), (vi 0)] H).bind fun b =>
 bw (am a b.2) (am a H) <|
 (FF ji [c, I, b.1, (vw 1)] b.2).bind fun d =>
 some (Value.tuple #[], d.2)) = some r) : FF gq [G, I] H = some r :=
 fo Tryz.func177 (by kernel_rfl) h
theorem vN {r : Value × AH} (h : (
 ad [.n, .f 0] G fun a =>
 (am a H).bind fun d =>
 (FF bL [(vi 9), J, (vi 0)] H).bind fun b =>
 bw (am a b.2) (am a H) <|
 (FF cX [d, I, b.1] b.2).bind fun c =>
 some (c.1, c.2)) = some r) : FF jJ [G, I, J] H = some r :=
 fo Tryz.func178 (by kernel_rfl) h
theorem uj {r : Value × AH} (h : (
 ad [.n, .f 0] G fun c =>
 (am c H).bind fun k =>
 (FF bL [(vi 14), J, (vi 0)] H).bind fun d =>
 bw (am c d.2) (am c H) <|
 (FF bB [k, I, (vi 6), d.1] d.2).bind fun l =>
 (FF kZ [G, J] l.2).bind fun a =>
 (ak .other .lss a.1 (vi 0)).bind fun m =>
 ax m
 (ld [.n, .f 2] G a.2 fun o =>
 Af 1 1 [(vi 0)] [(0, J)] a.2 fun p g =>
 (dX 1 8 o p g).bind fun b =>
 ad [.n, .f 3] G fun e =>
 (am e b.2).bind fun q =>
 bw (am e g) (am e b.2) <|
 Af 1 1 [(vw 0)] [(0, L)] b.2 fun s t =>
 (dX 1 8 q s t).bind fun j =>
 st 1 [.n, .f 2] G b.1 j.2 fun w =>
 st 1 [.n, .f 3] G j.1 w fun y =>
 some (Value.tuple #[], y))
 (ld [.n, .f 3] G a.2 fun z =>
 st 1 [.i 1 a.1] z L a.2 fun A =>
 some (Value.tuple #[], A))) = some r) : FF iX [G, I, J, L] H = some r :=
 fo Tryz.func179 (by kernel_rfl) h
theorem uk {r : Value × AH} (h : (
 ad [.n, .f 0] G fun a =>
 (am a H).bind fun d =>
 (FF bL [(vi 9), J, (vi 0)] H).bind fun b =>
 bw (am a b.2) (am a H) <|
 (bO (some .u64) M).bind fun e =>
 (ak .other .add e (vw 1)).bind fun g =>
 (FF fy [d, I, b.1, L, g] b.2).bind fun c =>
 some (c.1, c.2)) = some r) : FF iY [G, I, J, L, M] H = some r :=
 fo Tryz.func180 (by kernel_rfl) h
theorem Ab {r : Value × AH} (h : (
 aV (Value.cells J).toList H fun a b =>
 (aB 3 a b).bind fun e =>
 (aB 3 a b).bind fun f =>
 (FF dQ [G, f] b).bind fun c =>
 bw (aB 3 a c.2) (aB 3 a b) <|
 (ak .other .add c.1 L).bind fun g =>
 (FF fu [G, I, e, g] c.2).bind fun d =>
 some (d.1, d.2)) = some r) : FF gh [G, I, J, L] H = some r :=
 fo Tryz.func181 (by kernel_rfl) h
noncomputable def lZ (p : List Nat) : Code := Code.sub (bX Tryz.f182) p
noncomputable def kM : KK := ge PP (Tryz.f182).results.toList
noncomputable def LW : KK := CQ (lZ [1]) kM bV kM
noncomputable def U2 : OV := LW (ls [G, u, u, L, M] 45) H
noncomputable def DD : KK := CQ (lZ [1, 1]) kM bV kM
noncomputable def LV : KK := gk FD DD
noncomputable def U3 : OV := DD (ls [G, u, u, L, M] 45) H
noncomputable def F8 : KK := CQ (lZ [1, 0, 1]) LV bV kM
noncomputable def Ng : OV := F8 (ls [G, u, u, L, M, P] 44) H
noncomputable def zD : KX := BX 0 LV bV
noncomputable def tj : KX := uQ FD zD
noncomputable def zA : KK := CX (lZ [1, 0, 1, 4, 5]) tj kM
noncomputable def F7 : KK := gk yY zA
noncomputable def yB : OV := zA (ls [G, u, u, L, M, P] 44) H
noncomputable def F9 : KK := CQ (lZ [1, 0, 1, 4, 5, 1]) F7 tj kM
noncomputable def Nh : OV := F9 (ls [G, u, u, L, M, P] 44) H
noncomputable def zB : KK := CQ (lZ [1, 0, 1, 4, 5, 1, 1]) F7 tj kM
noncomputable def Sx : KK := gk yY zB
noncomputable def Ni : OV := zB (ls [G, u, u, L, M, P] 44) H
noncomputable def Sy : KX := BX 1 Sx tj
noncomputable def Ct : OV := zD 0 (ls [G, u, u, L, M] 45) H
theorem jw : au 1125899906842607 kM := rf
theorem OT : au FD LW := rc jw aJ jw
theorem ve : au FD DD := rc jw aJ jw
theorem IE : au yY F8 := rc (cd ve) aJ jw
theorem kN : ∀ i, au FD (zD i) := rb (cd ve) aJ
theorem nq : au yY zA := rl (cx kN) jw
theorem IF : au yY F9 := rc (cd nq) (cx kN) jw
theorem zC : au yY zB := rc (cd nq) (cx kN) jw
theorem IG : ∀ i, au yY (Sy i) := rb (cd zC) (cx kN)
theorem Ql : U3 G L M H =
 ld [.n, .f 0] G H fun g =>
 (aB 3 L H).bind fun i =>
 Af 1 3 [(vi 0), (vi 0), (vi 0)] [(0, i)] H fun j c =>
 (dX 3 24 g j c).bind fun a =>
 ad [.n, .f 1] G fun b =>
 (am b a.2).bind fun k =>
 bw (am b c) (am b a.2) <|
 Af 1 1 [(vw 0)] [(0, (vw 0))] a.2 fun l m =>
 (dX 1 8 k l m).bind fun d =>
 st 1 [.n, .f 0] G a.1 d.2 fun o =>
 st 1 [.n, .f 1] G d.1 o fun e =>
 ld [.n, .f 0] G e fun p =>
 fq p fun q =>
 (ak .other .sub q (vi 1)).bind fun s =>
 some (s, e) :=
 (by kernel_rfl)
theorem J3 : Ni G L M P H =
 (ak .other .add P (vi 1)).bind fun a =>
 yB G L M a H :=
 (by kernel_rfl)
theorem J2 : Nh G L M P H =
 ld [.n, .f 0] G H fun a =>
 ldN 3 [.i 3 P] a H fun b =>
 (aB 3 L H).bind fun c =>
 (ak (.flat 3) .eql b c).bind fun d =>
 ax d
 (some (P, H))
 (Ni G L M P H) :=
 (pt rfl 0 zC (bt rfl (lZ [1, 0, 1, 4, 5, 1, 0, 4]) 1 IG (by kernel_rfl)))
theorem ET : Ct G L M H = U3 G L M H :=
 (by kernel_rfl)
theorem Ax : yB G L M P H =
 ld [.n, .f 0] G H fun a =>
 fq a fun b =>
 (ak .other .lss P b).bind fun c =>
 ax c
 (Nh G L M P H)
 (Ct G L M H) :=
 yx rfl nq (pt rfl 0 IF (by kernel_rfl))
theorem J1 : Ng G L M P H =
 yB G L M P H :=
 (bt rfl (lZ [1, 0, 1, 4]) 0 kN (li rfl (lZ [1, 0, 1, 4, 5]) nq (by kernel_rfl)))
theorem Qk : U2 G L M H =
 Ng G L M (vi 0) H :=
 (pt rfl 0 ve (pt rfl 0 IE (by kernel_rfl)))
noncomputable def rMp : OV := aW PP GG FF (lZ []) (ls [G, I] 48) H kM bV kM
theorem Zz {r : Value × AH} (h : (
 aV (Value.cells I).toList H fun a b =>
 U2 G a (vi 0) b) = some r) : FF Ah [G, I] H = some r :=
 fo (t := rMp G I H) Tryz.func182 (by kernel_rfl) (Eq.trans (pt rfl 0 OT (by kernel_rfl)) h)
theorem uy {r : Value × AH} (h : (
 (b6 L [J]).bind fun c => (FF c.1 c.2 H).bind fun b =>
 (ai b.1 0).bind fun i =>
 (ai b.1 1).bind fun a =>
 (gV a true G).bind fun j =>
 yq a true  [.n, .f 0] j fun e =>
 (gB a true (am e b.2)).bind fun k =>
 (gV a true I).bind fun l =>
 (gV a true G).bind fun m =>
 (gE a true b.2 (FF cY [m, (vi 11), (vi 0)] b.2)).bind fun d =>
 bw (am e d.2) (am e b.2) <|
 (gV a true J).bind fun o =>
 (gV a true i).bind fun p =>
 (gE a true d.2 (FF dR [k, l, d.1, o, p] d.2)).bind fun g =>
 (aQ a g.1 (vb false)).bind fun q =>
 some (q, g.2)) = some r) : FF i5 [G, I, J, L] H = some r :=
 fo Tryz.func183 (by kernel_rfl) h
noncomputable def DE (p : List Nat) : Code := Code.sub (bX Tryz.f185) p
noncomputable def rI : KK := ge PP (Tryz.f185).results.toList
noncomputable def LX : KK := CQ (DE [1, 1]) rI bV rI
noncomputable def ry : OV := LX (ls [u, I, u, u, M, P, R, K, N] 47) H
noncomputable def DF : KK := CQ (DE [1, 1, 1]) rI bV rI
noncomputable def W9 : KK := gk K4 DF
noncomputable def rz : OV := DF (ls [u, u, u, u, M, P] 50) H
noncomputable def Xa : KX := BX 0 W9 bV
theorem tl : au K4 rI := rf
theorem OU : au 72057594037927437 LX := rc tl aJ tl
theorem B4 : au K4 DF := rc tl aJ tl
theorem OW : ∀ i, au K4 (Xa i) := rb (cd B4) aJ
theorem fS : rz M P H =
 some (Value.tuple #[(vw 0), (vb false)], H) :=
 (by kernel_rfl)
theorem vL : ry I M P R K N H =
 (pw .not N).bind fun i =>
 ax i
 (some (Value.tuple #[(vw 0), (vb false)], H))
 ((ak .other .eql I (vi 0)).bind fun a =>
 (gV a true K).bind fun j =>
 (gB a true (ak .other .neq j (vi 2))).bind fun k =>
 (aQ a k (vb false)).bind fun b =>
 (gV b true R).bind fun l =>
 (gB b true (ak .other .lss l (vw 2305843009213693951))).bind fun m =>
 (aQ b m (vb false)).bind fun n =>
 ax n
 ((ak .other .add R (vw 1)).bind fun o =>
 (FF kY [o, (vi 1)] H).bind fun c =>
 (ai c.1 0).bind fun p =>
 (ai c.1 1).bind fun q =>
 some (Value.tuple #[p, q], c.2))
 ((ak .other .eql I (vi 1)).bind fun d =>
 (gV d true K).bind fun s =>
 (gB d true (ak .other .eql s (vi 1))).bind fun t =>
 (aQ d t (vb false)).bind fun w =>
 ax w
 ((FF kY [R, (vi 0)] H).bind fun e =>
 (ai e.1 0).bind fun y =>
 (ai e.1 1).bind fun z =>
 some (Value.tuple #[y, z], e.2))
 ((ak .other .eql I (vi 2)).bind fun f =>
 (gV f true K).bind fun A =>
 (gB f true (ak .other .eql A (vi 0))).bind fun B =>
 (aQ f B (vb false)).bind fun C =>
 ax C
 ((FF kY [R, (vi 2)] H).bind fun g =>
 (ai g.1 0).bind fun D =>
 (ai g.1 1).bind fun E =>
 some (Value.tuple #[D, E], g.2))
 (rz M P H)))) :=
 (pt rfl 0 B4 (bt rfl (DE [1, 1, 0, 4]) 0 OW (by kernel_rfl)))
noncomputable def JX : OV := aW PP GG FF (DE []) (ls [G, I] 54) H rI bV rI
theorem BC {r : Value × AH} (h : (
 (FF fv [G] H).bind fun a =>
 (ai a.1 0).bind fun b =>
 (ai a.1 1).bind fun c =>
 (ai a.1 2).bind fun d =>
 ry I (vw 0) (vb false) b c d a.2) = some r) : FF nD [G, I] H = some r :=
 fo (t := JX G I H) Tryz.func185 (by kernel_rfl) (Eq.trans (pt rfl 1 OU (by kernel_rfl)) h)
end
section
variable (A D B C I J E G : Value) (H : AH)
noncomputable def fX (p : List Nat) : Code := Code.sub (bX Tryz.f190) p
noncomputable def gF : KK := ge PP (Tryz.f190).results.toList
noncomputable def L0 : KK := CQ (fX [1, 1, 1]) gF bV gF
noncomputable def wW : OV := L0 (ls [A, u, B, C] 38) H
noncomputable def DG : KK := CQ (fX [1, 1, 1, 1]) gF bV gF
noncomputable def Xb : KK := gk ww DG
noncomputable def pO : OV := DG (ls [u, u, B, C] 38) H
noncomputable def DH : KK := CQ (fX [1, 1, 1, 1, 1]) gF bV gF
noncomputable def LY : KK := gk ww DH
noncomputable def wX : OV := DH (ls [u, u, B, C] 38) H
noncomputable def L1 : KK := CQ (fX [1, 1, 1, 1, 0, 1]) LY bV gF
noncomputable def wY : OV := L1 (ls [u, u, B, C, u, u, u, u, u, u, u, u, u, u, u, u, u, u, u, u, u, u, u, u, u, u, u, u, E, G] 12) H
noncomputable def DK : KX := BX 2 LY bV
noncomputable def yi : KX := uQ ww DK
noncomputable def DI : KK := CX (fX [1, 1, 1, 1, 0, 1, 4, 5]) yi gF
noncomputable def LZ : KK := gk yZ DI
noncomputable def lT : OV := DI (ls [u, u, B, C, u, u, u, u, u, u, u, u, u, u, u, u, u, u, u, u, u, u, u, u, u, u, u, u, E, G] 12) H
noncomputable def L3 : KK := CQ (fX [1, 1, 1, 1, 0, 1, 4, 5, 1, 1]) LZ yi gF
noncomputable def wZ : OV := L3 (ls [u, u, B, C, u, u, u, u, u, u, u, u, u, u, u, u, u, u, u, u, u, u, u, u, u, u, u, u, E, G] 12) H
noncomputable def DJ : KK := CQ (fX [1, 1, 1, 1, 0, 1, 4, 5, 1, 1, 1]) LZ yi gF
noncomputable def Xc : KK := gk yZ DJ
noncomputable def w4 : OV := DJ (ls [u, u, B, C, u, u, u, u, u, u, u, u, u, u, u, u, u, u, u, u, u, u, u, u, u, u, u, u, E, G] 12) H
noncomputable def Xd : KX := BX 3 Xc yi
noncomputable def rC : OV := DK 2 (ls [u, u, B, C] 38) H
noncomputable def zF : KX := BX 0 Xb bV
noncomputable def zG : KX := uQ ww zF
noncomputable def zE : KK := CX (fX [1, 1, 1, 0, 4, 5]) zG gF
noncomputable def Ga : KK := gk FE zE
noncomputable def j8 : OV := zE (ls [A, u, B, C] 38) H
noncomputable def Gb : KK := CQ (fX [1, 1, 1, 0, 4, 5, 1]) Ga zG gF
noncomputable def uL : OV := Gb (ls [A, u, B, C] 38) H
noncomputable def Sz : KX := BX 1 Ga zG
noncomputable def pN : OV := zF 0 (ls [u, u, B, C] 38) H
theorem eJ : au 4398046511099 gF := rf
theorem OX : au FE L0 := rc eJ aJ eJ
theorem B5 : au ww DG := rc eJ aJ eJ
theorem vf : au ww DH := rc eJ aJ eJ
theorem OY : au yZ L1 := rc (cd vf) aJ eJ
theorem mv : ∀ i, au ww (DK i) := rb (cd vf) aJ
theorem qc : au yZ DI := rl (cx mv) eJ
theorem OZ : au yZ L3 := rc (cd qc) (cx mv) eJ
theorem B6 : au yZ DJ := rc (cd qc) (cx mv) eJ
theorem O0 : ∀ i, au yZ (Xd i) := rb (cd B6) (cx mv)
theorem nt : ∀ i, au ww (zF i) := rb (cd B5) aJ
theorem nr : au FE zE := rl (cx nt) eJ
theorem IH : au FE Gb := rc (cd nr) (cx nt) eJ
theorem II : ∀ i, au FE (Sz i) := rb (cd nr) (cx nt)
theorem A6 : wX B C H =
 some (C, H) :=
 (by kernel_rfl)
theorem A9 : w4 B C E G H =
 (ak .other .add G (vi 1)).bind fun a =>
 lT B C E a H :=
 (by kernel_rfl)
theorem A8 : wZ B C E G H =
 ld [.n, .f 2] C H fun b =>
 Af 1 1 [(vi 0)] [(0, (vi (-1)))] H fun c d =>
 (dX 1 8 b c d).bind fun a =>
 st 1 [.n, .f 2] C a.1 a.2 fun e =>
 w4 B C E G e :=
 (pt rfl 0 B6 (bt rfl (fX [1, 1, 1, 1, 0, 1, 4, 5, 1, 1, 0, 4]) 3 O0 (by kernel_rfl)))
theorem wm : rC B C H = wX B C H :=
 (by kernel_rfl)
theorem pP : lT B C E G H =
 (ak .other .lss G E).bind fun a =>
 ax a
 (wZ B C E G H)
 (rC B C H) :=
 yx rfl qc (pt rfl 1 OZ (by kernel_rfl))
theorem A7 : wY B C E G H =
 lT B C E G H :=
 (bt rfl (fX [1, 1, 1, 1, 0, 1, 4]) 2 mv (li rfl (fX [1, 1, 1, 1, 0, 1, 4, 5]) qc (by kernel_rfl)))
theorem A5 : pO B C H =
 ld [.n, .f 1] C H fun a =>
 (ak .other .mul (vi 2) a).bind fun b =>
 wY B C b (vi 0) H :=
 (pt rfl 0 vf (pt rfl 0 OY (by kernel_rfl)))
theorem xZ : uL A B C H =
 ld [.n, .f 1] C H fun a =>
 (ak .other .mul a (vi 2)).bind fun b =>
 st 1 [.n, .f 1] C b H fun c =>
 j8 A B C c :=
 (bt rfl (fX [1, 1, 1, 0, 4, 5, 1, 4]) 1 II (by kernel_rfl))
theorem lS : pN B C H = pO B C H :=
 (by kernel_rfl)
theorem od : j8 A B C H =
 ld [.n, .f 1] C H fun a =>
 (ak .other .lss a A).bind fun b =>
 ax b
 (uL A B C H)
 (pN B C H) :=
 yx rfl nr (pt rfl 0 IH (by kernel_rfl))
theorem A4 : wW A B C H =
 j8 A B C H :=
 (pt rfl 0 B5 (bt rfl (fX [1, 1, 1, 0, 4]) 0 nt (li rfl (fX [1, 1, 1, 0, 4, 5]) nr (by kernel_rfl))))
noncomputable def VM : OV := aW PP GG FF (fX []) (ls [A] 41) H gF bV gF
theorem Hk {r : Value × AH} (h : (
 (gT [A, (vi 1)]).bind fun c =>
 (iH [c, (vi 16)]).bind fun a =>
 (jV [(vw 0), (vi 0), (vb false)] 3 24 a a H).bind fun b =>
 im [(0, 1), (1, 1), (2, 1)] [(.slice none 0 0), (vi 0), (.slice none 0 0)] [(0, b.1), (1, (vi 1))] fun d =>
 aV (Value.cells d).toList b.2 fun e f =>
 wW a (.pointer none) e f) = some r) : FF sj [A] H = some r :=
 fo (t := VM A H) Tryz.func190 (by kernel_rfl) (Eq.trans (pt rfl 2 OX (by kernel_rfl)) h)
theorem Fb {r : Value × AH} (h : (
 (FF pp [A] H).bind fun a =>
 (FF r6 [] a.2).bind fun b =>
 im [(0, 1), (1, 1), (2, 1)] [(.pointer none), (.pointer none), (vi 0)] [(0, a.1), (1, b.1), (2, A)] fun c =>
 aV (Value.cells c).toList b.2 fun d e =>
 some (d, e)) = some r) : FF pk [A] H = some r :=
 fo Tryz.func191 (by kernel_rfl) h
theorem EM {r : Value × AH} (h : (
 (gT [A, (vi 0)]).bind fun a =>
 (iH [a, (vi 40)]).bind fun b =>
 some (b, H)) = some r) : FF pj [A] H = some r :=
 fo Tryz.func200 (by kernel_rfl) h
theorem Ii {r : Value × AH} (h : (
 ld [.n, .f 0] A H fun a =>
 ld [.n, .f 1] A H fun b =>
 im [(0, 1), (1, 1), (2, 1), (3, 1)] [(vi 0), (.slice none 0 0), (vi 0), (vw 0)] [(0, B)] fun c =>
 (FF gO [a, D, b, c] H).bind fun d =>
 some (Value.tuple #[], d.2)) = some r) : FF ku [A, D, B] H = some r :=
 fo Tryz.func207 (by kernel_rfl) h
theorem Id {r : Value × AH} (h : (
 aV [(vi 0), (.slice none 0 0), (vi 0), (vw 0)] H fun a c =>
 im [(0, 1), (1, 1), (2, 1), (3, 1)] [(vi 0), (.slice none 0 0), (vi 0), (vw 0)] [(0, D)] fun d =>
 (dg 4 a d c).bind fun b =>
 (aB 4 a b).bind fun e => some (Value.tuple #[e, (vb true)], b)) = some r) : FF kp [A, D] H = some r :=
 fo Tryz.func208 (by kernel_rfl) h
noncomputable def IJ (p : List Nat) : Code := Code.sub (bX Tryz.f209) p
noncomputable def rJ : KK := ge PP (Tryz.f209).results.toList
noncomputable def L4 : KK := CQ (IJ [1, 1, 1]) rJ bV rJ
noncomputable def BT : OV := L4 (ls [A, u, B, C, I, J] 65) H
noncomputable def L5 : KK := CQ (IJ [1, 1, 1, 1]) rJ bV rJ
noncomputable def p8 : OV := L5 (ls [A, u, B] 68) H
theorem tm : au 2361183241434822606843 rJ := rf
theorem O1 : au 2361183241434822606786 L4 := rc tm aJ tm
theorem O2 : au 2361183241434822606842 L5 := rc tm aJ tm
theorem C8 : p8 A B H =
 ad [.n, .f 8] A fun a =>
 (am a H).bind fun c =>
 ld [.n, .f 0] A H fun d =>
 ld [.n, .f 2] d H fun e =>
 (FF f5 [e] H).bind fun b =>
 bw (am a b.2) (am a H) <|
 (ak .other .geq c b.1).bind fun g =>
 some (g, b.2) :=
 (by kernel_rfl)
theorem s6 : BT A B C I J H =
 (gV J true C).bind fun b =>
 (gV J true A).bind fun c =>
 fH J true  [.n, .f 2, .f 1] c H fun d =>
 (gB J true (ak .other .eql b d)).bind fun e =>
 (aQ J e (vb false)).bind fun g =>
 st 1 [.n, .f 10] A g H fun a =>
 ld [.n, .f 10] A a fun i =>
 ax i
 (st 1 [.n, .f 9] A I a fun j =>
 p8 A B j)
 (p8 A B a) :=
 (pt rfl 0 O2 (by kernel_rfl))
noncomputable def Y8 : OV := aW PP GG FF (IJ []) (ls [A] 70) H rJ bV rJ
theorem Oe {r : Value × AH} (h : (
 ld [.n, .f 0] A H fun b =>
 ld [.n, .f 2] b H fun c =>
 ld [.n, .f 1] A H fun d =>
 ld [.n, .f 6] A H fun e =>
 ld [.n, .f 8] A H fun g =>
 (FF gS [c, d, e, g] H).bind fun a =>
 (ai a.1 0).bind fun i =>
 (ai a.1 1).bind fun j =>
 (ai a.1 2).bind fun k =>
 ld [.n, .f 8] A a.2 fun l =>
 (ak .other .add l (vi 1)).bind fun m =>
 st 1 [.n, .f 8] A m a.2 fun o =>
 BT A (vb false) i j k o) = some r) : FF tU [A] H = some r :=
 fo (t := Y8 A H) Tryz.func209 (by kernel_rfl) (Eq.trans (pt rfl 2 O1 (by kernel_rfl)) h)
theorem RX {r : Value × AH} (h : (
 aV [(vi 0), (.slice none 0 0), (vi 0), (vw 0)] H fun a c =>
 st 1 [.n, .f 7] A D c fun d =>
 im [(0, 1), (1, 1), (2, 1), (3, 1)] [(vi 0), (.slice none 0 0), (vi 0), (vw 0)] [] fun e =>
 (dg 4 a e d).bind fun b =>
 (aB 4 a b).bind fun g => some (Value.tuple #[g, (vb false)], b)) = some r) : FF ba [A, D] H = some r :=
 fo Tryz.func210 (by kernel_rfl) h
theorem Ih {r : Value × AH} (h : (
 aV [(vi 0), (.slice none 0 0), (vi 0), (vw 0)] H fun d a =>
 ld [.n, .f 0] A a fun i =>
 ld [.n, .f 1] A a fun j =>
 ld [.n, .f 9] A a fun k =>
 (FF dq [i, j, k] a).bind fun b =>
 ld [.n, .f 0] A b.2 fun l =>
 ld [.n, .f 9] A b.2 fun m =>
 (FF ei [l, m] b.2).bind fun e =>
 st 1 [.n, .f 11] A e.1 e.2 fun o =>
 (FF ba [A, (.func (.func bA) #[A] #[])] o).bind fun c =>
 (ai c.1 0).bind fun p =>
 (ai c.1 1).bind fun q =>
 (dg 4 d p c.2).bind fun g =>
 (aB 4 d g).bind fun s => some (Value.tuple #[s, q], g)) = some r) : FF fL [A, D] H = some r :=
 fo Tryz.func211 (by kernel_rfl) h
theorem Ig {r : Value × AH} (h : (
 aV [(vi 0), (.slice none 0 0), (vi 0), (vw 0)] H fun b a =>
 ld [.n, .f 0] A a fun j =>
 ld [.n, .f 2] j a fun k =>
 ld [.n, .f 1] A a fun l =>
 ld [.n, .f 6] A a fun m =>
 (FF gR [k, l, m] a).bind fun c =>
 (pw .not c.1).bind fun o =>
 ax o
 ((FF ba [A, (.func (.func cu) #[A] #[])] c.2).bind fun d =>
 (ai d.1 0).bind fun p =>
 (ai d.1 1).bind fun q =>
 (dg 4 b p d.2).bind fun g =>
 (aB 4 b g).bind fun s => some (Value.tuple #[s, q], g))
 (st 1 [.n, .f 8] A (vi 0) c.2 fun t =>
 (FF ba [A, (.func (.func dn) #[A] #[])] t).bind fun e =>
 (ai e.1 0).bind fun w =>
 (ai e.1 1).bind fun y =>
 (dg 4 b w e.2).bind fun i =>
 (aB 4 b i).bind fun z => some (Value.tuple #[z, y], i))) = some r) : FF cu [A, D] H = some r :=
 fo Tryz.func212 (by kernel_rfl) h
noncomputable def l4 (p : List Nat) : Code := Code.sub (bX Tryz.f213) p
noncomputable def kO : KK := ge PP (Tryz.f213).results.toList
noncomputable def L8 : KK := CQ (l4 [1]) kO bV kO
noncomputable def n6 : OV := L8 (ls [A, D, u, u, I] 20) H
noncomputable def DL : KK := CQ (l4 [1, 1]) kO bV kO
noncomputable def L6 : KK := gk 33554415 DL
noncomputable def n7 : OV := DL (ls [u, u, u, u, I] 20) H
noncomputable def L9 : KK := CQ (l4 [1, 0, 1]) L6 bV kO
noncomputable def n8 : OV := L9 (ls [A, D, u, u, I, J] 19) H
noncomputable def DO : KX := BX 0 L6 bV
noncomputable def yj : KX := uQ 33554415 DO
noncomputable def DM : KK := CX (l4 [1, 0, 1, 4, 5]) yj kO
noncomputable def L7 : KK := gk 33554380 DM
noncomputable def gA : OV := DM (ls [A, D, u, u, I, J] 19) H
noncomputable def Ma : KK := CQ (l4 [1, 0, 1, 4, 5, 1]) L7 yj kO
noncomputable def n9 : OV := Ma (ls [A, D, u, u, I, J] 19) H
noncomputable def DN : KK := CQ (l4 [1, 0, 1, 4, 5, 1, 1]) L7 yj kO
noncomputable def Xe : KK := gk 33554380 DN
noncomputable def oa : OV := DN (ls [A, D, u, u, I, J] 19) H
noncomputable def Xf : KX := BX 1 Xe yj
noncomputable def lM : OV := DO 0 (ls [u, u, u, u, I] 20) H
theorem jx : au 33554415 kO := rf
theorem O3 : au 33554412 L8 := rc jx aJ jx
theorem vg : au 33554415 DL := rc jx aJ jx
theorem O4 : au 33554380 L9 := rc (cd vg) aJ jx
theorem mw : ∀ i, au 33554415 (DO i) := rb (cd vg) aJ
theorem qd : au 33554380 DM := rl (cx mw) jx
theorem O5 : au 33554380 Ma := rc (cd qd) (cx mw) jx
theorem B7 : au 33554380 DN := rc (cd qd) (cx mw) jx
theorem O6 : ∀ i, au 33554380 (Xf i) := rb (cd B7) (cx mw)
theorem su : n7 I H =
 some ((vi (-1)), H) :=
 (by kernel_rfl)
theorem sy : oa A D I J H =
 (ak .other .add J (vi 1)).bind fun a =>
 gA A D I a H :=
 (by kernel_rfl)
theorem sx : n9 A D I J H =
 ld [.n, .f 2] A H fun a =>
 ld [.i 1 J] a H fun b =>
 (ak .other .eql b D).bind fun c =>
 ax c
 (some (J, H))
 (oa A D I J H) :=
 (pt rfl 0 B7 (bt rfl (l4 [1, 0, 1, 4, 5, 1, 0, 4]) 1 O6 (by kernel_rfl)))
theorem pB : lM I H = n7 I H :=
 (by kernel_rfl)
theorem lq : gA A D I J H =
 ld [.n, .f 2] A H fun a =>
 fq a fun b =>
 (ak .other .lss J b).bind fun c =>
 ax c
 (n9 A D I J H)
 (lM I H) :=
 yx rfl qd (pt rfl 0 O5 (by kernel_rfl))
theorem sw : n8 A D I J H =
 gA A D I J H :=
 (bt rfl (l4 [1, 0, 1, 4]) 0 mw (li rfl (l4 [1, 0, 1, 4, 5]) qd (by kernel_rfl)))
theorem ss : n6 A D I H =
 n8 A D I (vi 0) H :=
 (pt rfl 0 vg (pt rfl 0 O4 (by kernel_rfl)))
noncomputable def EO : OV := aW PP GG FF (l4 []) (ls [A, D] 23) H kO bV kO
theorem xL {r : Value × AH} (h : (
 n6 A D (vi 0) H) = some r) : FF kZ [A, D] H = some r :=
 fo (t := EO A D H) Tryz.func213 (by kernel_rfl) (Eq.trans (pt rfl 0 O3 (by kernel_rfl)) h)
theorem xq {r : Value × AH} (h : (
 aV (Value.cells B).toList H fun b c =>
 (aB 3 b c).bind fun d =>
 (FF dQ [A, d] c).bind fun a =>
 (ak .other .neq a.1 C).bind fun e =>
 ax e
 ((aB 3 b a.2).bind fun f =>
 (FF cF [A, D, (vi 4), f] a.2).bind fun g =>
 some ((vb false), g.2))
 ((aB 3 b a.2).bind fun i =>
 (FF fu [A, D, i, I] a.2).bind fun j =>
 some ((vb true), j.2))) = some r) : FF dR [A, D, B, C, I] H = some r :=
 fo Tryz.func214 (by kernel_rfl) h
theorem BL {r : Value × AH} (h : (
 (FF ix [A] H).bind fun a =>
 (pw .not a.1).bind fun b =>
 ax b
 (some ((vi (-1)), a.2))
 ((ak .other .shr A (vw 61)).bind fun c =>
 (bO (some .i64) c).bind fun d =>
 some (d, a.2))) = some r) : FF fP [A] H = some r :=
 fo Tryz.func215 (by kernel_rfl) h
theorem Fq {r : Value × AH} (h : (
 (ak .other .gtr A (vw 2305843009213693951)).bind fun a =>
 (gV a false D).bind fun c =>
 (gB a false (ak .other .lss c (vi 0))).bind fun d =>
 (aQ a (vb true) d).bind fun b =>
 (gV b false D).bind fun e =>
 (gB b false (ak .other .geq e (vi 3))).bind fun f =>
 (aQ b (vb true) f).bind fun g =>
 ax g
 (some (Value.tuple #[(vw 0), (vb false)], H))
 ((bO (some .u64) D).bind fun i =>
 (ak .other .shl i (vw 61)).bind fun j =>
 (ak .other .or j A).bind fun k =>
 some (Value.tuple #[k, (vb true)], H))) = some r) : FF pr [A, D] H = some r :=
 fo Tryz.func216 (by kernel_rfl) h
theorem BJ {r : Value × AH} (h : (
 (FF ix [A] H).bind fun a =>
 (pw .not a.1).bind fun b =>
 ax b
 (some ((vw 0), a.2))
 ((ak .other .and A (vw 2305843009213693951)).bind fun c =>
 some (c, a.2))) = some r) : FF dt [A] H = some r :=
 fo Tryz.func217 (by kernel_rfl) h
theorem GQ {r : Value × AH} (h : (
 (ak .other .gtr A (vw 2305843009213693951)).bind fun a =>
 (gV a false D).bind fun c =>
 (gB a false (ak .other .lss c (vi 0))).bind fun d =>
 (aQ a (vb true) d).bind fun b =>
 (gV b false D).bind fun e =>
 (gB b false (ak .other .gtr e (vi 2))).bind fun f =>
 (aQ b (vb true) f).bind fun g =>
 ax g
 (some (Value.tuple #[(vw 0), (vb false)], H))
 ((bO (some .u64) D).bind fun i =>
 (ak .other .mul i (vw 2305843009213693952)).bind fun j =>
 (ak .other .add j A).bind fun k =>
 some (Value.tuple #[k, (vb true)], H))) = some r) : FF kY [A, D] H = some r :=
 fo Tryz.func218 (by kernel_rfl) h
theorem Fo {r : Value × AH} (h : (
 (FF nE [A] H).bind fun a =>
 Bx a.2 fun b c =>
 im [(0, 1), (1, 1), (2, 192), (194, 3), (197, 1)] [(vw 0), (vi 0), (.slice none 0 0), (.slice none 0 0), (.slice none 0 0), (.slice none 0 0), (.slice none 0 0), (.slice none 0 0), (.slice none 0 0), (.slice none 0 0), (.slice none 0 0), (.slice none 0 0), (.slice none 0 0), (.slice none 0 0), (.slice none 0 0), (.slice none 0 0), (.slice none 0 0), (.slice none 0 0), (.slice none 0 0), (.slice none 0 0), (.slice none 0 0), (.slice none 0 0), (.slice none 0 0), (.slice none 0 0), (.slice none 0 0), (.slice none 0 0), (.slice none 0 0), (.slice none 0 0), (.slice none 0 0), (.slice none 0 0), (.slice none 0 0), (.slice none 0 0), (.slice none 0 0), (.slice none 0 0), (.slice none 0 0), (.slice none 0 0), (.slice none 0 0), (.slice none 0 0), (.slice none 0 0), (.slice none 0 0), (.slice none 0 0), (.slice none 0 0), (.slice none 0 0), (.slice none 0 0), (.slice none 0 0), (.slice none 0 0), (.slice none 0 0), (.slice none 0 0), (.slice none 0 0), (.slice none 0 0), (.slice none 0 0), (.slice none 0 0), (.slice none 0 0), (.slice none 0 0), (.slice none 0 0), (.slice none 0 0), (.slice none 0 0), (.slice none 0 0), (.slice none 0 0), (.slice none 0 0), (.slice none 0 0), (.slice none 0 0), (.slice none 0 0), (.slice none 0 0), (.slice none 0 0), (.slice none 0 0), (.slice none 0 0), (.slice none 0 0), (.slice none 0 0), (.slice none 0 0), (.slice none 0 0), (.slice none 0 0), (.slice none 0 0), (.slice none 0 0), (.slice none 0 0), (.slice none 0 0), (.slice none 0 0), (.slice none 0 0), (.slice none 0 0), (.slice none 0 0), (.slice none 0 0), (.slice none 0 0), (.slice none 0 0), (.slice none 0 0), (.slice none 0 0), (.slice none 0 0), (.slice none 0 0), (.slice none 0 0), (.slice none 0 0), (.slice none 0 0), (.slice none 0 0), (.slice none 0 0), (.slice none 0 0), (.slice none 0 0), (.slice none 0 0), (.slice none 0 0), (.slice none 0 0), (.slice none 0 0), (.slice none 0 0), (.slice none 0 0), (.slice none 0 0), (.slice none 0 0), (.slice none 0 0), (.slice none 0 0), (.slice none 0 0), (.slice none 0 0), (.slice none 0 0), (.slice none 0 0), (.slice none 0 0), (.slice none 0 0), (.slice none 0 0), (.slice none 0 0), (.slice none 0 0), (.slice none 0 0), (.slice none 0 0), (.slice none 0 0), (.slice none 0 0), (.slice none 0 0), (.slice none 0 0), (.slice none 0 0), (.slice none 0 0), (.slice none 0 0), (.slice none 0 0), (.slice none 0 0), (.slice none 0 0), (.slice none 0 0), (.slice none 0 0), (.slice none 0 0), (.slice none 0 0), (.slice none 0 0), (.slice none 0 0), (.slice none 0 0), (.slice none 0 0), (.slice none 0 0), (.slice none 0 0), (.slice none 0 0), (.slice none 0 0), (.slice none 0 0), (.slice none 0 0), (.slice none 0 0), (.slice none 0 0), (.slice none 0 0), (.slice none 0 0), (.slice none 0 0), (.slice none 0 0), (.slice none 0 0), (.slice none 0 0), (.slice none 0 0), (.slice none 0 0), (.slice none 0 0), (.slice none 0 0), (.slice none 0 0), (.slice none 0 0), (.slice none 0 0), (.slice none 0 0), (.slice none 0 0), (.slice none 0 0), (.slice none 0 0), (.slice none 0 0), (.slice none 0 0), (.slice none 0 0), (.slice none 0 0), (.slice none 0 0), (.slice none 0 0), (.slice none 0 0), (.slice none 0 0), (.slice none 0 0), (.slice none 0 0), (.slice none 0 0), (.slice none 0 0), (.slice none 0 0), (.slice none 0 0), (.slice none 0 0), (.slice none 0 0), (.slice none 0 0), (.slice none 0 0), (.slice none 0 0), (.slice none 0 0), (.slice none 0 0), (.slice none 0 0), (.slice none 0 0), (.slice none 0 0), (.slice none 0 0), (.slice none 0 0), (.slice none 0 0), (.slice none 0 0), (.slice none 0 0), (.slice none 0 0), (.slice none 0 0), (.slice none 0 0), (.slice none 0 0), (.slice none 0 0), (.slice none 0 0), (.slice none 0 0), (vw 0), (vw 0), (vw 0), (.map none)] [(1, a.1), (4, b)] fun d =>
 aV (Value.cells d).toList c fun e f =>
 some (e, f)) = some r) : FF pp [A] H = some r :=
 fo Tryz.func220 (by kernel_rfl) h
theorem Gn (H : AH) {r : Value × AH} (h : (
 Bx H fun a b =>
 im [(0, 1), (1, 1)] [(.slice none 0 0), (.map none)] [(1, a)] fun c =>
 aV (Value.cells c).toList b fun d e =>
 some (d, e)) = some r) : FF r6 [] H = some r :=
 fo Tryz.func221 (by kernel_rfl) h
theorem qU {r : Value × AH} (h : (
 ad [.n, .f 0] A fun a =>
 (am a H).bind fun d =>
 (FF jj [B] H).bind fun b =>
 bw (am a b.2) (am a H) <|
 (FF dR [d, D, b.1, (vw 0), (vw 1)] b.2).bind fun c =>
 some (c.1, c.2)) = some r) : FF gR [A, D, B] H = some r :=
 fo Tryz.func237 (by kernel_rfl) h
end
section
variable (D E G K I J L : Value) (H : AH)
theorem qP {r : Value × AH} (h : (
 aV (Value.cells K).toList H fun i a =>
 ad [.n, .f 12] D fun c =>
 (am c a).bind fun j =>
 ad [.n, .f 11] D fun d =>
 (am d a).bind fun e =>
 (b7 .int (vi 0) e G false a).bind fun k =>
 (aB 4 i a).bind fun l =>
 (FF pf [l] a).bind fun b =>
 bw (am c b.2) (am c a) <|
 bw (am d b.2) (am d a) <|
 bw (b7 .int (vi 0) e G false b.2) (b7 .int (vi 0) e G false a) <|
 im [(0, 1), (1, 1), (2, 1), (3, 4)] [(vi 0), (vi 0), (vi 0), (vi 0), (.slice none 0 0), (vi 0), (vw 0)] [(0, E), (1, G), (2, k), (3, b.1)] fun m =>
 Af 1 7 [(vi 0), (vi 0), (vi 0), (vi 0), (.slice none 0 0), (vi 0), (vw 0)] [(0, m)] b.2 fun o p =>
 (dX 7 72 j o p).bind fun g =>
 st 1 [.n, .f 12] D g.1 g.2 fun q =>
 some (Value.tuple #[], q)) = some r) : FF gO [D, E, G, K] H = some r :=
 fo Tryz.func242 (by kernel_rfl) h
theorem pL {r : Value × AH} (h : (
 ld [.n, .f 2] D H fun a =>
 some (a, H)) = some r) : FF f5 [D] H = some r :=
 fo Tryz.func243 (by kernel_rfl) h
theorem In {r : Value × AH} (h : (
 aV [(vi 0), (.slice none 0 0), (vi 0), (vw 0)] H fun a b =>
 ld [.n, .f 11] D b fun l =>
 ld [.n, .f 1] D b fun m =>
 (FF dV [l, m] b).bind fun g =>
 st 1 [.n, .f 12] D g.1 g.2 fun i =>
 ld [.n, .f 12] D i fun o =>
 (FF fP [o] i).bind fun c =>
 (ak .other .eql c.1 (vi 2)).bind fun p =>
 ax p
 ((FF ba [D, (.func (.func cu) #[D] #[])] c.2).bind fun d =>
 (ai d.1 0).bind fun q =>
 (ai d.1 1).bind fun s =>
 (dg 4 a q d.2).bind fun j =>
 (aB 4 a j).bind fun t => some (Value.tuple #[t, s], j))
 ((FF ba [D, (.func (.func kq) #[D] #[])] c.2).bind fun e =>
 (ai e.1 0).bind fun w =>
 (ai e.1 1).bind fun y =>
 (dg 4 a w e.2).bind fun k =>
 (aB 4 a k).bind fun z => some (Value.tuple #[z, y], k))) = some r) : FF bA [D, E] H = some r :=
 fo Tryz.func244 (by kernel_rfl) h
noncomputable def DP (p : List Nat) : Code := Code.sub (bX Tryz.f245) p
noncomputable def rK : KK := ge PP (Tryz.f245).results.toList
noncomputable def Mb : KK := CQ (DP [1, 1]) rK bV rK
noncomputable def s7 : OV := Mb (ls [D, E, u, u, I, J, L] 30) H
noncomputable def DQ : KK := CQ (DP [1, 1, 1]) rK bV rK
noncomputable def Xg : KK := gk 137438953422 DQ
noncomputable def s8 : OV := DQ (ls [D, u, u, u, I, J] 31) H
noncomputable def Xh : KX := BX 0 Xg bV
theorem tn : au 137438953423 rK := rf
theorem O7 : au 137438953356 Mb := rc tn aJ tn
theorem B8 : au 137438953422 DQ := rc tn aJ tn
theorem O8 : ∀ i, au 137438953422 (Xh i) := rb (cd B8) aJ
theorem xa : s8 D I J H =
 (FF ba [D, (.func (.func dn) #[D] #[])] H).bind fun a =>
 (ai a.1 0).bind fun c =>
 (ai a.1 1).bind fun d =>
 (dg 4 I c a.2).bind fun b =>
 (aB 4 I b).bind fun e => some (Value.tuple #[e, d], b) :=
 (by kernel_rfl)
theorem w9 : s7 D E I J L H =
 ld [.n, .f 10] D H fun e =>
 ax e
 ((FF ba [D, (.func (.func dp) #[D] #[])] H).bind fun a =>
 (ai a.1 0).bind fun g =>
 (ai a.1 1).bind fun i =>
 (dg 4 I g a.2).bind fun c =>
 (aB 4 I c).bind fun j => some (Value.tuple #[j, i], c))
 (ax L
 ((FF ku [D, E, (vi 5)] H).bind fun k =>
 (FF ba [D, (.func (.func dp) #[D] #[])] k.2).bind fun b =>
 (ai b.1 0).bind fun l =>
 (ai b.1 1).bind fun m =>
 (dg 4 I l b.2).bind fun d =>
 (aB 4 I d).bind fun o => some (Value.tuple #[o, m], d))
 (s8 D I J H)) :=
 (pt rfl 0 B8 (bt rfl (DP [1, 1, 0, 4]) 0 O8 (by kernel_rfl)))
noncomputable def Oh : OV := aW PP GG FF (DP []) (ls [D, E] 35) H rK bV rK
theorem Da {r : Value × AH} (h : (
 aV [(vi 0), (.slice none 0 0), (vi 0), (vw 0)] H fun b c =>
 (FF tU [D] c).bind fun a =>
 s7 D E b (vb false) a.1 a.2) = some r) : FF dn [D, E] H = some r :=
 fo (t := Oh D E H) Tryz.func245 (by kernel_rfl) (Eq.trans (pt rfl 1 O7 (by kernel_rfl)) h)
theorem BK {r : Value × AH} (h : (
 (ak .other .shr D (vw 61)).bind fun a =>
 (ak .other .lss a (vw 3)).bind fun b =>
 some (b, H)) = some r) : FF ix [D] H = some r :=
 fo Tryz.func246 (by kernel_rfl) h
theorem BI {r : Value × AH} (h : (
 (gT [D, (vi 0)]).bind fun a =>
 (iH [a, (vi 40)]).bind fun b =>
 some (b, H)) = some r) : FF nE [D] H = some r :=
 fo Tryz.func248 (by kernel_rfl) h
theorem AX {r : Value × AH} (h : (
 aV [(vi 0), (vi 0), (vi 0)] H fun a c =>
 im [(0, 1), (1, 1), (2, 1)] [(vi 0), (vi 0), (vi 0)] [(0, (vi 8)), (1, D)] fun d =>
 (dg 3 a d c).bind fun b =>
 (aB 3 a b).bind fun e => some (e, b)) = some r) : FF jj [D] H = some r :=
 fo Tryz.func277 (by kernel_rfl) h
noncomputable def DR (p : List Nat) : Code := Code.sub (bX Tryz.f282) p
noncomputable def rL : KK := ge PP (Tryz.f282).results.toList
noncomputable def Me : KK := CQ (DR [1, 1]) rL bV rL
noncomputable def zf : OV := Me (ls [D, u, u, u, I, J, L] 45) H
noncomputable def DS : KK := CQ (DR [1, 1, 1]) rL bV rL
noncomputable def Xj : KK := gk 4503599627370446 DS
noncomputable def zg : OV := DS (ls [D, u, u, u, I, J] 46) H
noncomputable def Xl : KX := BX 0 Xj bV
theorem tq : au 4503599627370447 rL := rf
theorem Pb : au 4503599627370382 Me := rc tq aJ tq
theorem B9 : au 4503599627370446 DS := rc tq aJ tq
theorem Pc : ∀ i, au 4503599627370446 (Xl i) := rb (cd B9) aJ
theorem Bp : zg D I J H =
 (FF ba [D, (.func (.func iS) #[D] #[])] H).bind fun a =>
 (ai a.1 0).bind fun c =>
 (ai a.1 1).bind fun d =>
 (dg 4 I c a.2).bind fun b =>
 (aB 4 I b).bind fun e => some (Value.tuple #[e, d], b) :=
 (by kernel_rfl)
theorem Bo : zf D I J L H =
 ld [.n, .f 11] D H fun i =>
 ld [.n, .f 12] D H fun j =>
 (FF fM [i, j, L] H).bind fun a =>
 ax a.1
 ((FF ba [D, (.func (.func mU) #[D] #[])] a.2).bind fun b =>
 (ai b.1 0).bind fun k =>
 (ai b.1 1).bind fun l =>
 (dg 4 I k b.2).bind fun e =>
 (aB 4 I e).bind fun m => some (Value.tuple #[m, l], e))
 (ld [.n, .f 12] D a.2 fun o =>
 (FF fP [o] a.2).bind fun c =>
 (ak .other .eql c.1 (vi 1)).bind fun p =>
 ax p
 ((FF ba [D, (.func (.func iT) #[D] #[])] c.2).bind fun d =>
 (ai d.1 0).bind fun q =>
 (ai d.1 1).bind fun s =>
 (dg 4 I q d.2).bind fun g =>
 (aB 4 I g).bind fun t => some (Value.tuple #[t, s], g))
 (zg D I J c.2)) :=
 (pt rfl 0 B9 (bt rfl (DR [1, 1, 0, 4]) 0 Pc (by kernel_rfl)))
noncomputable def WQ : OV := aW PP GG FF (DR []) (ls [D, E] 50) H rL bV rL
theorem Ie {r : Value × AH} (h : (
 aV [(vi 0), (.slice none 0 0), (vi 0), (vw 0)] H fun c a =>
 ld [.n, .f 11] D a fun d =>
 ld [.n, .f 1] D a fun e =>
 (FF fN [d, e] a).bind fun b =>
 zf D c (vb false) b.1 b.2) = some r) : FF kq [D, E] H = some r :=
 fo (t := WQ D E H) Tryz.func282 (by kernel_rfl) (Eq.trans (pt rfl 1 Pb (by kernel_rfl)) h)
theorem Db {r : Value × AH} (h : (
 aV [(vi 0), (.slice none 0 0), (vi 0), (vw 0)] H fun b a =>
 ld [.n, .f 0] D a fun j =>
 ld [.n, .f 2] j a fun k =>
 ld [.n, .f 1] D a fun l =>
 ld [.n, .f 6] D a fun m =>
 (FF fA [k, l, m] a).bind fun c =>
 ld [.n, .f 10] D c.2 fun o =>
 (pw .not o).bind fun p =>
 ax p
 ((FF kp [D, (vi 5)] c.2).bind fun d =>
 (ai d.1 0).bind fun q =>
 (ai d.1 1).bind fun s =>
 (dg 4 b q d.2).bind fun g =>
 (aB 4 b g).bind fun t => some (Value.tuple #[t, s], g))
 ((FF ba [D, (.func (.func fL) #[D] #[])] c.2).bind fun e =>
 (ai e.1 0).bind fun w =>
 (ai e.1 1).bind fun y =>
 (dg 4 b w e.2).bind fun i =>
 (aB 4 b i).bind fun z => some (Value.tuple #[z, y], i))) = some r) : FF dp [D, E] H = some r :=
 fo Tryz.func283 (by kernel_rfl) h
theorem oy {r : Value × AH} (h : (
 ad [.n, .f 0] D fun a =>
 (am a H).bind fun c =>
 (FF jj [G] H).bind fun b =>
 bw (am a b.2) (am a H) <|
 (FF di [c, E, b.1, (vw 0)] b.2).bind fun d =>
 some (Value.tuple #[], d.2)) = some r) : FF fA [D, E, G] H = some r :=
 fo Tryz.func302 (by kernel_rfl) h
theorem uv {r : Value × AH} (h : (
 ad [.n, .f 0] D fun a =>
 (am a H).bind fun d =>
 (FF cY [D, (vi 12), (vi 0)] H).bind fun b =>
 bw (am a b.2) (am a H) <|
 (FF cg [d, E, b.1] b.2).bind fun c =>
 some (c.1, c.2)) = some r) : FF fN [D, E] H = some r :=
 fo Tryz.func305 (by kernel_rfl) h
theorem uu {r : Value × AH} (h : (
 (FF dt [E] H).bind fun b =>
 (ak .other .geq b.1 G).bind fun a =>
 (gV a true b.1).bind fun c =>
 (gV a true G).bind fun d =>
 (gB a true (ak .other .sub c d)).bind fun e =>
 (gV a true D).bind fun g =>
 fH a true  [.n, .f 2] g b.2 fun i =>
 (uR (yv a) true (fq i some) (some undef)).bind fun j =>
 (gB a true (bO (some .u64) j)).bind fun k =>
 (gB a true (ak .other .geq e k)).bind fun l =>
 (aQ a l (vb false)).bind fun m =>
 some (m, b.2)) = some r) : FF fM [D, E, G] H = some r :=
 fo Tryz.func306 (by kernel_rfl) h
theorem Oi {r : Value × AH} (h : (
 aV [(vi 0), (.slice none 0 0), (vi 0), (vw 0)] H fun a b =>
 ld [.n, .f 0] D b fun k =>
 ld [.n, .f 1] D b fun l =>
 (FF e7 [k, l] b).bind fun g =>
 st 1 [.n, .f 13] D g.1 g.2 fun c =>
 ld [.n, .f 13] D c fun m =>
 (ak .other .rem m (vw 2)).bind fun o =>
 (ak .other .eql o (vw 1)).bind fun p =>
 ax p
 ((FF ba [D, (.func (.func bA) #[D] #[])] c).bind fun d =>
 (ai d.1 0).bind fun q =>
 (ai d.1 1).bind fun s =>
 (dg 4 a q d.2).bind fun i =>
 (aB 4 a i).bind fun t => some (Value.tuple #[t, s], i))
 ((FF ba [D, (.func (.func dP) #[D] #[])] c).bind fun e =>
 (ai e.1 0).bind fun w =>
 (ai e.1 1).bind fun y =>
 (dg 4 a w e.2).bind fun j =>
 (aB 4 a j).bind fun z => some (Value.tuple #[z, y], j))) = some r) : FF mU [D, E] H = some r :=
 fo Tryz.func307 (by kernel_rfl) h
theorem FS {r : Value × AH} (h : (
 aV [(vi 0), (.slice none 0 0), (vi 0), (vw 0)] H fun a b =>
 ld [.n, .f 11] D b fun j =>
 ld [.n, .f 1] D b fun k =>
 ld [.n, .f 12] D b fun l =>
 (FF fc [j, k, l] b).bind fun c =>
 (pw .not c.1).bind fun m =>
 ax m
 ((FF ba [D, (.func (.func bA) #[D] #[])] c.2).bind fun d =>
 (ai d.1 0).bind fun o =>
 (ai d.1 1).bind fun p =>
 (dg 4 a o d.2).bind fun g =>
 (aB 4 a g).bind fun q => some (Value.tuple #[q, p], g))
 ((FF ku [D, E, (vi 0)] c.2).bind fun s =>
 (FF ba [D, (.func (.func mT) #[D] #[])] s.2).bind fun e =>
 (ai e.1 0).bind fun t =>
 (ai e.1 1).bind fun w =>
 (dg 4 a t e.2).bind fun i =>
 (aB 4 a i).bind fun y => some (Value.tuple #[y, w], i))) = some r) : FF iT [D, E] H = some r :=
 fo Tryz.func308 (by kernel_rfl) h
theorem FR {r : Value × AH} (h : (
 aV [(vi 0), (.slice none 0 0), (vi 0), (vw 0)] H fun c a =>
 ld [.n, .f 0] D a fun e =>
 ld [.n, .f 1] e a fun g =>
 ld [.n, .f 1] D a fun i =>
 (FF f0 [g, i] a).bind fun j =>
 (FF ba [D, (.func (.func kz) #[D] #[])] j.2).bind fun b =>
 (ai b.1 0).bind fun k =>
 (ai b.1 1).bind fun l =>
 (dg 4 c k b.2).bind fun d =>
 (aB 4 c d).bind fun m => some (Value.tuple #[m, l], d)) = some r) : FF iS [D, E] H = some r :=
 fo Tryz.func309 (by kernel_rfl) h
theorem sq {r : Value × AH} (h : (
 ld [.n, .f 0] D H fun b =>
 im [(0, 1), (1, 1), (2, 1)] [(vi 0), (vi 0), (vi 0)] [(0, (vi 2))] fun c =>
 (FF cg [b, E, c] H).bind fun a =>
 some (a.1, a.2)) = some r) : FF e7 [D, E] H = some r :=
 fo Tryz.func316 (by kernel_rfl) h
theorem xd {r : Value × AH} (h : (
 aV [(vi 0), (.slice none 0 0), (vi 0), (vw 0)] H fun a b =>
 ld [.n, .f 11] D b fun l =>
 ld [.n, .f 1] D b fun m =>
 (FF dV [l, m] b).bind fun g =>
 st 1 [.n, .f 12] D g.1 g.2 fun i =>
 ld [.n, .f 12] D i fun o =>
 (FF fP [o] i).bind fun c =>
 (ak .other .eql c.1 (vi 2)).bind fun p =>
 ax p
 ((FF ba [D, (.func (.func cu) #[D] #[])] c.2).bind fun d =>
 (ai d.1 0).bind fun q =>
 (ai d.1 1).bind fun s =>
 (dg 4 a q d.2).bind fun j =>
 (aB 4 a j).bind fun t => some (Value.tuple #[t, s], j))
 ((FF ba [D, (.func (.func dO) #[D] #[])] c.2).bind fun e =>
 (ai e.1 0).bind fun w =>
 (ai e.1 1).bind fun y =>
 (dg 4 a w e.2).bind fun k =>
 (aB 4 a k).bind fun z => some (Value.tuple #[z, y], k))) = some r) : FF dP [D, E] H = some r :=
 fo Tryz.func318 (by kernel_rfl) h
theorem sH {r : Value × AH} (h : (
 (FF i5 [D, E, G, (.func (.func lG) #[] #[])] H).bind fun a =>
 some (a.1, a.2)) = some r) : FF fc [D, E, G] H = some r :=
 fo Tryz.func319 (by kernel_rfl) h
theorem Og {r : Value × AH} (h : (
 aV [(vi 0), (.slice none 0 0), (vi 0), (vw 0)] H fun b d =>
 (FF tV [D] d).bind fun e =>
 (FF ba [D, (.func (.func ky) #[D] #[])] e.2).bind fun a =>
 (ai a.1 0).bind fun f =>
 (ai a.1 1).bind fun g =>
 (dg 4 b f a.2).bind fun c =>
 (aB 4 b c).bind fun i => some (Value.tuple #[i, g], c)) = some r) : FF mT [D, E] H = some r :=
 fo Tryz.func320 (by kernel_rfl) h
theorem oY {r : Value × AH} (h : (
 ad [.n, .f 0] D fun a =>
 (am a H).bind fun c =>
 (FF aS [(vi 3), (vi 0)] H).bind fun b =>
 bw (am a b.2) (am a H) <|
 (FF gh [c, E, b.1, (vw 4294967296)] b.2).bind fun d =>
 some (Value.tuple #[], d.2)) = some r) : FF f0 [D, E] H = some r :=
 fo Tryz.func321 (by kernel_rfl) h
theorem Im {r : Value × AH} (h : (
 aV [(vi 0), (.slice none 0 0), (vi 0), (vw 0)] H fun a b =>
 ld [.n, .f 11] D b fun j =>
 ld [.n, .f 1] D b fun k =>
 ld [.n, .f 12] D b fun l =>
 (FF fc [j, k, l] b).bind fun c =>
 (pw .not c.1).bind fun m =>
 ax m
 ((FF ba [D, (.func (.func km) #[D] #[])] c.2).bind fun d =>
 (ai d.1 0).bind fun o =>
 (ai d.1 1).bind fun p =>
 (dg 4 a o d.2).bind fun g =>
 (aB 4 a g).bind fun q => some (Value.tuple #[q, p], g))
 ((FF ku [D, E, (vi 0)] c.2).bind fun s =>
 (FF ba [D, (.func (.func ko) #[D] #[])] s.2).bind fun e =>
 (ai e.1 0).bind fun t =>
 (ai e.1 1).bind fun w =>
 (dg 4 a t e.2).bind fun i =>
 (aB 4 a i).bind fun y => some (Value.tuple #[y, w], i))) = some r) : FF kz [D, E] H = some r :=
 fo Tryz.func322 (by kernel_rfl) h
theorem w8 {r : Value × AH} (h : (
 aV [(vi 0), (.slice none 0 0), (vi 0), (vw 0)] H fun b a =>
 ad [.n, .f 11] D fun d =>
 (am d a).bind fun m =>
 ad [.n, .f 12] D fun e =>
 (am e a).bind fun o =>
 ld [.n, .f 11] D a fun p =>
 ld [.n, .f 1] D a fun q =>
 (FF fN [p, q] a).bind fun c =>
 bw (am d c.2) (am d a) <|
 bw (am e c.2) (am e a) <|
 (FF fM [m, o, c.1] c.2).bind fun g =>
 (pw .not g.1).bind fun s =>
 ax s
 ((FF ba [D, (.func (.func bA) #[D] #[])] g.2).bind fun i =>
 (ai i.1 0).bind fun t =>
 (ai i.1 1).bind fun w =>
 (dg 4 b t i.2).bind fun k =>
 (aB 4 b k).bind fun y => some (Value.tuple #[y, w], k))
 (st 1 [.n, .f 14] D E g.2 fun z =>
 (FF ba [D, (.func (.func eO) #[D] #[])] z).bind fun j =>
 (ai j.1 0).bind fun A =>
 (ai j.1 1).bind fun B =>
 (dg 4 b A j.2).bind fun l =>
 (aB 4 b l).bind fun C => some (Value.tuple #[C, B], l))) = some r) : FF dO [D, E] H = some r :=
 fo Tryz.func324 (by kernel_rfl) h
theorem Fp {r : Value × AH} (h : (
 (FF ix [D] H).bind fun c =>
 (pw .not c.1).bind fun a =>
 (gV a false D).bind fun i =>
 (gE a false c.2 (FF fP [i] c.2)).bind fun d =>
 (gB a false (ak .other .eql d.1 (vi 2))).bind fun j =>
 (aQ a (vb true) j).bind fun b =>
 (gV b false D).bind fun k =>
 (gE b false d.2 (FF dt [k] d.2)).bind fun e =>
 (gB b false (ak .other .eql e.1 (vw 2305843009213693951))).bind fun l =>
 (aQ b (vb true) l).bind fun m =>
 ax m
 (some (Value.tuple #[(vw 0), (vb false)], e.2))
 ((FF dt [D] e.2).bind fun g =>
 (ak .other .add g.1 (vw 1)).bind fun n =>
 (FF pr [n, (vi 1)] g.2).bind fun f =>
 (ai f.1 0).bind fun o =>
 (ai f.1 1).bind fun p =>
 some (Value.tuple #[o, p], f.2))) = some r) : FF lG [D] H = some r :=
 fo Tryz.func325 (by kernel_rfl) h
theorem Of {r : Value × AH} (h : (
 ad [.n, .f 11] D fun b =>
 (am b H).bind fun i =>
 ad [.n, .f 1] D fun c =>
 (am c H).bind fun j =>
 ld [.n, .f 12] D H fun k =>
 (FF dt [k] H).bind fun a =>
 bw (am b a.2) (am b H) <|
 bw (am c a.2) (am c H) <|
 ad [.n, .f 2, .f 1] D fun d =>
 (am d a.2).bind fun l =>
 bw (am d H) (am d a.2) <|
 ad [.n, .f 2, .f 2] D fun e =>
 (am e a.2).bind fun m =>
 bw (am e H) (am e a.2) <|
 ad [.n, .f 2, .f 3] D fun g =>
 (am g a.2).bind fun o =>
 bw (am g H) (am g a.2) <|
 im [(0, 1), (1, 1), (2, 1)] [(vi 0), (vi 0), (vi 0)] [(0, l), (1, m), (2, o)] fun p =>
 (FF jO [i, j, a.1, p] a.2).bind fun q =>
 some (Value.tuple #[], q.2)) = some r) : FF tV [D] H = some r :=
 fo Tryz.func326 (by kernel_rfl) h
theorem Il {r : Value × AH} (h : (
 aV [(vi 0), (.slice none 0 0), (vi 0), (vw 0)] H fun g a =>
 ad [.n, .f 11] D fun c =>
 (am c a).bind fun j =>
 ad [.n, .f 1] D fun d =>
 (am d a).bind fun k =>
 ld [.n, .f 12] D a fun l =>
 (FF dt [l] a).bind fun b =>
 bw (am c b.2) (am c a) <|
 bw (am d b.2) (am d a) <|
 (FF fO [j, k, b.1] b.2).bind fun m =>
 (FF kp [D, (vi 0)] m.2).bind fun e =>
 (ai e.1 0).bind fun o =>
 (ai e.1 1).bind fun p =>
 (dg 4 g o e.2).bind fun i =>
 (aB 4 g i).bind fun q => some (Value.tuple #[q, p], i)) = some r) : FF ky [D, E] H = some r :=
 fo Tryz.func327 (by kernel_rfl) h
theorem Ib {r : Value × AH} (h : (
 aV [(vi 0), (.slice none 0 0), (vi 0), (vw 0)] H fun c a =>
 ld [.n, .f 0] D a fun e =>
 ld [.n, .f 1] e a fun g =>
 ld [.n, .f 1] D a fun i =>
 (FF e6 [g, i] a).bind fun j =>
 (FF ba [D, (.func (.func bA) #[D] #[])] j.2).bind fun b =>
 (ai b.1 0).bind fun k =>
 (ai b.1 1).bind fun l =>
 (dg 4 c k b.2).bind fun d =>
 (aB 4 c d).bind fun m => some (Value.tuple #[m, l], d)) = some r) : FF km [D, E] H = some r :=
 fo Tryz.func328 (by kernel_rfl) h
theorem Ic {r : Value × AH} (h : (
 aV [(vi 0), (.slice none 0 0), (vi 0), (vw 0)] H fun b d =>
 (FF tV [D] d).bind fun e =>
 (FF ba [D, (.func (.func iV) #[D] #[])] e.2).bind fun a =>
 (ai a.1 0).bind fun f =>
 (ai a.1 1).bind fun g =>
 (dg 4 b f a.2).bind fun c =>
 (aB 4 b c).bind fun i => some (Value.tuple #[i, g], c)) = some r) : FF ko [D, E] H = some r :=
 fo Tryz.func329 (by kernel_rfl) h
theorem zj {r : Value × AH} (h : (
 aV [(vi 0), (.slice none 0 0), (vi 0), (vw 0)] H fun b c =>
 ld [.n, .f 0] D c fun k =>
 ld [.n, .f 1] D c fun l =>
 (FF e7 [k, l] c).bind fun a =>
 ad [.n, .f 13] D fun d =>
 (am d a.2).bind fun m =>
 bw (am d c) (am d a.2) <|
 (ak .other .neq a.1 m).bind fun o =>
 ax o
 ((FF ba [D, (.func (.func bA) #[D] #[])] a.2).bind fun e =>
 (ai e.1 0).bind fun p =>
 (ai e.1 1).bind fun q =>
 (dg 4 b p e.2).bind fun i =>
 (aB 4 b i).bind fun s => some (Value.tuple #[s, q], i))
 (ld [.n, .f 14] D a.2 fun t =>
 (FF hC [D, t, (vi 9)] a.2).bind fun g =>
 (ai g.1 0).bind fun w =>
 (ai g.1 1).bind fun y =>
 (dg 4 b w g.2).bind fun j =>
 (aB 4 b j).bind fun z => some (Value.tuple #[z, y], j))) = some r) : FF eO [D, E] H = some r :=
 fo Tryz.func330 (by kernel_rfl) h
theorem wb {r : Value × AH} (h : (
 aV (Value.cells K).toList H fun e c =>
 ad [.n, .f 0] D fun a =>
 (am a c).bind fun l =>
 (FF cy [D, G] c).bind fun g =>
 bw (am a g.2) (am a c) <|
 (FF cY [D, (vi 16), g.1] g.2).bind fun j =>
 bw (am a j.2) (am a c) <|
 (FF eL [l, E, j.1] j.2).bind fun d =>
 ad [.n, .f 2] D fun k =>
 (am k d.2).bind fun m =>
 (FF cy [D, G] d.2).bind fun b =>
 bw (am k b.2) (am k d.2) <|
 (aB 3 e b.2).bind fun o =>
 bw (aB 3 e d.2) (aB 3 e b.2) <|
 st 3 [.i 3 b.1] m o b.2 fun p =>
 some (Value.tuple #[], p)) = some r) : FF jO [D, E, G, K] H = some r :=
 fo Tryz.func331 (by kernel_rfl) h
theorem uw {r : Value × AH} (h : (
 ad [.n, .f 0] D fun a =>
 (am a H).bind fun d =>
 (FF cy [D, G] H).bind fun b =>
 bw (am a b.2) (am a H) <|
 (FF cY [D, (vi 15), b.1] b.2).bind fun c =>
 bw (am a c.2) (am a H) <|
 (ak .other .add G (vw 1)).bind fun e =>
 (FF di [d, E, c.1, e] c.2).bind fun g =>
 some (Value.tuple #[], g.2)) = some r) : FF fO [D, E, G] H = some r :=
 fo Tryz.func332 (by kernel_rfl) h
theorem rP {r : Value × AH} (h : (
 ad [.n, .f 0] D fun a =>
 (am a H).bind fun c =>
 (FF aS [(vi 3), (vi 0)] H).bind fun b =>
 bw (am a b.2) (am a H) <|
 (FF gh [c, E, b.1, (vw 1)] b.2).bind fun d =>
 some (Value.tuple #[], d.2)) = some r) : FF e6 [D, E] H = some r :=
 fo Tryz.func333 (by kernel_rfl) h
theorem FU {r : Value × AH} (h : (
 aV [(vi 0), (.slice none 0 0), (vi 0), (vw 0)] H fun g a =>
 ad [.n, .f 11] D fun c =>
 (am c a).bind fun j =>
 ad [.n, .f 1] D fun d =>
 (am d a).bind fun k =>
 ld [.n, .f 12] D a fun l =>
 (FF dt [l] a).bind fun b =>
 bw (am c b.2) (am c a) <|
 bw (am d b.2) (am d a) <|
 (FF fO [j, k, b.1] b.2).bind fun m =>
 (FF ba [D, (.func (.func cP) #[D] #[])] m.2).bind fun e =>
 (ai e.1 0).bind fun o =>
 (ai e.1 1).bind fun p =>
 (dg 4 g o e.2).bind fun i =>
 (aB 4 g i).bind fun q => some (Value.tuple #[q, p], i)) = some r) : FF iV [D, E] H = some r :=
 fo Tryz.func334 (by kernel_rfl) h
theorem Bs {r : Value × AH} (h : (
 aV [(vi 0), (.slice none 0 0), (vi 0), (vw 0)] H fun c a =>
 ld [.n, .f 0] D a fun g =>
 ld [.n, .f 1] g a fun i =>
 ld [.n, .f 1] D a fun j =>
 ld [.n, .f 6] D a fun k =>
 (FF ip [i, j, k] a).bind fun d =>
 st 1 [.n, .f 15] D d.1 d.2 fun l =>
 (FF ba [D, (.func (.func ks) #[D] #[])] l).bind fun b =>
 (ai b.1 0).bind fun m =>
 (ai b.1 1).bind fun o =>
 (dg 4 c m b.2).bind fun e =>
 (aB 4 c e).bind fun p => some (Value.tuple #[p, o], e)) = some r) : FF cP [D, E] H = some r :=
 fo Tryz.func335 (by kernel_rfl) h
theorem rR {r : Value × AH} (h : (
 ad [.n, .f 0] D fun a =>
 (am a H).bind fun e =>
 ld [.n, .f 3] D H fun g =>
 (b6 g [G]).bind fun c => (FF c.1 c.2 H).bind fun b =>
 bw (am a b.2) (am a H) <|
 (FF cg [e, E, b.1] b.2).bind fun d =>
 some (d.1, d.2)) = some r) : FF ip [D, E, G] H = some r :=
 fo Tryz.func336 (by kernel_rfl) h
theorem If {r : Value × AH} (h : (
 aV [(vi 0), (.slice none 0 0), (vi 0), (vw 0)] H fun c a =>
 ld [.n, .f 0] D a fun e =>
 ld [.n, .f 1] e a fun g =>
 ld [.n, .f 1] D a fun i =>
 ld [.n, .f 9] D a fun j =>
 ld [.n, .f 15] D a fun k =>
 (FF gK [g, i, j, k] a).bind fun l =>
 (FF ba [D, (.func (.func kw) #[D] #[])] l.2).bind fun b =>
 (ai b.1 0).bind fun m =>
 (ai b.1 1).bind fun o =>
 (dg 4 c m b.2).bind fun d =>
 (aB 4 c d).bind fun p => some (Value.tuple #[p, o], d)) = some r) : FF ks [D, E] H = some r :=
 fo Tryz.func337 (by kernel_rfl) h
theorem qB {r : Value × AH} (h : (
 ad [.n, .f 0] D fun a =>
 (am a H).bind fun e =>
 ld [.n, .f 4] D H fun g =>
 (b6 g [G]).bind fun c => (FF c.1 c.2 H).bind fun b =>
 bw (am a b.2) (am a H) <|
 (FF eL [e, E, b.1] b.2).bind fun d =>
 ld [.n, .f 2] D d.2 fun i =>
 (dv .int i G K d.2).bind fun j =>
 some (Value.tuple #[], j)) = some r) : FF gK [D, E, G, K] H = some r :=
 fo Tryz.func338 (by kernel_rfl) h
theorem Ij {r : Value × AH} (h : (
 aV [(vi 0), (.slice none 0 0), (vi 0), (vw 0)] H fun b a =>
 ld [.n, .f 0] D a fun j =>
 ld [.n, .f 1] j a fun k =>
 ld [.n, .f 1] D a fun l =>
 ld [.n, .f 6] D a fun m =>
 ld [.n, .f 15] D a fun o =>
 ld [.n, .f 9] D a fun p =>
 (FF gM [k, l, m, o, p] a).bind fun c =>
 (pw .not c.1).bind fun q =>
 ax q
 ((FF ba [D, (.func (.func cP) #[D] #[])] c.2).bind fun d =>
 (ai d.1 0).bind fun s =>
 (ai d.1 1).bind fun t =>
 (dg 4 b s d.2).bind fun g =>
 (aB 4 b g).bind fun w => some (Value.tuple #[w, t], g))
 ((FF ba [D, (.func (.func mS) #[D] #[])] c.2).bind fun e =>
 (ai e.1 0).bind fun y =>
 (ai e.1 1).bind fun z =>
 (dg 4 b y e.2).bind fun i =>
 (aB 4 b i).bind fun A => some (Value.tuple #[A, z], i))) = some r) : FF kw [D, E] H = some r :=
 fo Tryz.func339 (by kernel_rfl) h
theorem qD {r : Value × AH} (h : (
 ad [.n, .f 0] D fun a =>
 (am a H).bind fun e =>
 ld [.n, .f 3] D H fun g =>
 (b6 g [G]).bind fun c => (FF c.1 c.2 H).bind fun b =>
 bw (am a b.2) (am a H) <|
 (bO (some .u64) I).bind fun i =>
 (ak .other .add i (vw 1)).bind fun j =>
 (FF dR [e, E, b.1, K, j] b.2).bind fun d =>
 some (d.1, d.2)) = some r) : FF gM [D, E, G, K, I] H = some r :=
 fo Tryz.func340 (by kernel_rfl) h
theorem Od {r : Value × AH} (h : (
 aV [(vi 0), (.slice none 0 0), (vi 0), (vw 0)] H fun c a =>
 ld [.n, .f 0] D a fun e =>
 ld [.n, .f 1] e a fun g =>
 ld [.n, .f 1] D a fun i =>
 (FF e6 [g, i] a).bind fun j =>
 (FF kp [D, (vi 0)] j.2).bind fun b =>
 (ai b.1 0).bind fun k =>
 (ai b.1 1).bind fun l =>
 (dg 4 c k b.2).bind fun d =>
 (aB 4 c d).bind fun m => some (Value.tuple #[m, l], d)) = some r) : FF mS [D, E] H = some r :=
 fo Tryz.func341 (by kernel_rfl) h
end
theorem Be (n : Int) : IntKind.wrap .u64 n = n % 18446744073709551616 := by simp [IntKind.wrap, IntKind.bits, IntKind.signed]
theorem kG {n : Int} (h0 : 0 ≤ n) (h1 : n < 18446744073709551616) : IntKind.wrap .u64 n = n := by rw [Be]; omega
theorem nb {n : Int} (h0 : -9223372036854775808 ≤ n) (h1 : n < 9223372036854775808) : IntKind.wrap .i64 n = n := by
 simp [IntKind.wrap, IntKind.bits, IntKind.signed]
 split <;> omega
theorem qm (a : Nat) (h : a < 18446744073709551616) : (BitVec.ofInt 64 (a : Int)).toNat = a := by
 rw [BitVec.toNat_ofInt];omega
theorem HS {a b : Nat} (ha : a < 18446744073709551616) (hb : b < 18446744073709551616) : Go.bits .and .u64 (a : Int) (b : Int) = ((a &&& b : Nat) : Int) := by
 show IntKind.wrap .u64 (((BitVec.ofInt 64 (a : Int) &&& BitVec.ofInt 64 (b : Int)).toNat : Nat) : Int) = _;rw [BitVec.toNat_and, qm a ha, qm b hb];have : a &&& b ≤ a := Nat.and_le_left;exact kG (by omega) (by omega)
theorem aaX {a b : Nat} (ha : a < 18446744073709551616) (hb : b < 18446744073709551616) : a ||| b < 18446744073709551616 := Nat.or_lt_two_pow (n := 64) ha hb
theorem N8 {a b : Nat} (ha : a < 18446744073709551616) (hb : b < 18446744073709551616) : Go.bits .or .u64 (a : Int) (b : Int) = ((a ||| b : Nat) : Int) := by
 show IntKind.wrap .u64 (((BitVec.ofInt 64 (a : Int) ||| BitVec.ofInt 64 (b : Int)).toNat : Nat) : Int) = _;rw [BitVec.toNat_or, qm a ha, qm b hb];have := aaX ha hb;exact kG (by omega) (by omega)
section
variable {cl : TCls}
theorem WH {a b : Nat} (ha : a < 18446744073709551616) (hb : b < 18446744073709551616) : ak cl .and (vu a) (vu b) = some (vu (a &&& b)) := by simp only [ak, lx, if_true, HS ha hb]
theorem RC {a b : Nat} (ha : a < 18446744073709551616) (hb : b < 18446744073709551616) : ak cl .or (vu a) (vu b) = some (vu (a ||| b)) := by simp only [ak, lx, if_true, N8 ha hb]
theorem eN {a b : Nat} (h : a + b < 18446744073709551616) : ak cl .add (vu a) (vu b) = some (vu (a + b)) := by
 simp only [ak, lx, if_true];rw [kG (by omega) (by omega)];simp
theorem N7 {a b : Nat} : ak cl .mul (vu a) (vu b) = some (vu (a * b % 18446744073709551616)) := by
 simp only [ak, lx, if_true];rw [Be];simp
theorem ka {a b : Nat} (h : b ≤ a) (ha : a < 18446744073709551616) : ak cl .sub (vu a) (vu b) = some (vu (a - b)) := by
 simp only [ak, lx, if_true];rw [kG (by omega) (by omega)];show some (Value.int .u64 ((a : Int) - (b : Int))) = some (Value.int .u64 ((a - b : Nat) : Int));rw [Int.ofNat_sub h]
theorem uW {a b : Nat} (h : b ≠ 0) (ha : a < 18446744073709551616) : ak cl .quo (vu a) (vu b) = some (vu (a / b)) := by
 simp only [ak, lx, if_true];rw [if_neg (by omega)];have h1 : (a : Int).tdiv (b : Int) = ((a / b : Nat) : Int) := (Int.ofNat_tdiv a b).symm;have h2 : a / b ≤ a := Nat.div_le_self a b;rw [h1]
 generalize a / b = q at h2
 rw [kG (by omega) (by omega)]
theorem g7 {a b : Nat} (h : b ≠ 0) : ak cl .rem (vu a) (vu b) = some (vu (a % b)) := by
 simp only [ak, lx, if_true];rw [if_neg (by omega)];have h1 : (a : Int).tmod (b : Int) = ((a % b : Nat) : Int) := (Int.ofNat_tmod a b).symm;rw [h1]
theorem BQ {a : Nat} {k : IntKind} {n : Nat} (hn : n ≤ 64) : ak cl .shr (vu a) (.int k (n : Int)) = some (vu (a / 2 ^ n)) := by
 simp only [ak, lh];rw [if_neg (by omega)];simp only [IntKind.bits, rO, Nat.min_eq_left hn]
 have : (a : Int).fdiv (2 ^ n) = ((a / 2 ^ n : Nat) : Int) := by
  rw [Int.fdiv_eq_ediv_of_nonneg _ (by exact Int.le_of_lt (Int.pow_pos (by omega)))];simp
 rw [this]
theorem BP {a : Nat} {k : IntKind} {n : Nat} (hn : n ≤ 64) : ak cl .shl (vu a) (.int k (n : Int)) = some (vu (a * 2 ^ n % 18446744073709551616)) := by
 simp only [ak, lh];rw [if_neg (by omega)];simp only [IntKind.bits, rO, Nat.min_eq_left hn];rw [Be];simp
theorem aO {a b : Int} (h0 : -9223372036854775808 ≤ a + b) (h1 : a + b < 9223372036854775808) : ak cl .add (vi a) (vi b) = some (vi (a + b)) := by simp only [ak, lx, if_true, nb h0 h1]
theorem mp {a b : Int} (h0 : -9223372036854775808 ≤ a - b) (h1 : a - b < 9223372036854775808) : ak cl .sub (vi a) (vi b) = some (vi (a - b)) := by simp only [ak, lx, if_true, nb h0 h1]
theorem pX {k : IntKind} {a b : Int} : ak cl .lss (.int k a) (.int k b) = some (vb (decide (a < b))) ∧ ak cl .leq (.int k a) (.int k b) = some (vb (decide (a ≤ b))) ∧ ak cl .gtr (.int k a) (.int k b) = some (vb (decide (b < a))) ∧
 ak cl .geq (.int k a) (.int k b) = some (vb (decide (b ≤ a))) ∧ ak cl .eql (.int k a) (.int k b) = some (vb (a == b)) ∧ ak cl .neq (.int k a) (.int k b) = some (vb (a != b)) := by
 simp [ak, lx]
theorem pY {k : IntKind} {a b : Int} : ak cl .lss (.int k a) (.int k b) = some (vb (decide (a < b))) := pX.1
theorem La {k : IntKind} {a b : Int} : ak cl .leq (.int k a) (.int k b) = some (vb (decide (a ≤ b))) := pX.2.1
theorem C2 {k : IntKind} {a b : Int} : ak cl .gtr (.int k a) (.int k b) = some (vb (decide (b < a))) := pX.2.2.1
theorem yc {k : IntKind} {a b : Int} : ak cl .geq (.int k a) (.int k b) = some (vb (decide (b ≤ a))) := pX.2.2.2.1
theorem dE {k : IntKind} {a b : Int} : ak cl .eql (.int k a) (.int k b) = some (vb (a == b)) := pX.2.2.2.2.1
theorem yd {k : IntKind} {a b : Int} : ak cl .neq (.int k a) (.int k b) = some (vb (a != b)) := pX.2.2.2.2.2
theorem nN {a : Bool} : pw .not (vb a) = some (vb (!a)) := rfl
theorem jT {a b : Int} : gT [vi a, vi b] = some (vi (max a b)) := by
 simp only [gT]
 congr 2
 split <;> omega
theorem jU {a b : Int} : iH [vi a, vi b] = some (vi (min a b)) := by
 simp only [iH]
 congr 2
 split <;> omega
end
abbrev Hp := Nat → Option AObj
def SP : Type := Hp → Prop
theorem SP.ext {P Q : SP} (h : ∀ x, P x ↔ Q x) : P = Q := funext fun x => propext (h x)
def sep (P Q : SP) : SP := fun h => ∃ a b : Hp, (∀ i, a i = none ∨ b i = none) ∧ (h = fun i => (a i).or (b i)) ∧ P a ∧ Q b
instance : Mul SP := ⟨sep⟩
def emp : SP := fun h => h = fun _ => none
theorem UO {α : Type} {a b : Option α} (h : a = none ∨ b = none) : a.or b = b.or a := by
 rcases h with rfl | rfl <;> simp
theorem uB (P Q : SP) : P * Q = Q * P := by
 have one : ∀ (P Q : SP) h, sep P Q h → sep Q P h := by
  rintro P Q h ⟨a, b, hd, rfl, ha, hb⟩
  exact ⟨b, a, fun i => (hd i).symm, funext fun i => UO (hd i), hb, ha⟩
 exact SP.ext fun h => ⟨one P Q h, one Q P h⟩
theorem ar (P Q R : SP) : P * Q * R = P * (Q * R) := by
 apply SP.ext;intro h
 constructor
 ·rintro ⟨ab, c, hd, rfl, ⟨a, b, hd2, rfl, ha, hb⟩, hc⟩
  refine ⟨a, fun i => (b i).or (c i), fun i => ?_, funext fun i => ?_, ha, b, c, fun i => ?_, rfl, hb, hc⟩
  ·have h1 := hd i
   have h2 := hd2 i
   cases ha' : a i <;> cases hb' : b i <;> cases hc' : c i <;> simp_all
  ·exact Option.or_assoc
  ·have h1 := hd i
   have h2 := hd2 i
   cases ha' : a i <;> cases hb' : b i <;> cases hc' : c i <;> simp_all
 ·rintro ⟨a, bc, hd, rfl, ha, b, c, hd2, rfl, hb, hc⟩
  refine ⟨fun i => (a i).or (b i), c, fun i => ?_, funext fun i => ?_, ⟨a, b, fun i => ?_, rfl, ha, hb⟩, hc⟩
  ·have h1 := hd i
   have h2 := hd2 i
   cases ha' : a i <;> cases hb' : b i <;> cases hc' : c i <;> simp_all
  ·exact Option.or_assoc.symm
  ·have h1 := hd i
   have h2 := hd2 i
   cases ha' : a i <;> cases hb' : b i <;> cases hc' : c i <;> simp_all
theorem eD (P : SP) : P * emp = P := by
 apply SP.ext;intro h
 constructor
 ·rintro ⟨a, b, hd, rfl, ha, hb⟩
  have hb : b = fun _ => none := hb;subst hb
  simpa using ha
 ·intro h'
  exact ⟨h, fun _ => none, fun i => .inr rfl, by simp, h', rfl⟩
theorem jd (P : SP) : emp * P = P := by rw [uB, eD]
instance : Std.Associative (α := SP) (· * ·) := ⟨ar⟩
instance : Std.Commutative (α := SP) (· * ·) := ⟨uB⟩
theorem bo (P Q R : SP) : P * (Q * R) = Q * (P * R) := by rw [← ar, uB P Q, ar]
def blk (b : Nat) (o : AObj) : SP := fun h => h = fun i => if i = b then some o else none
def ex {α : Type} (P : α → SP) : SP := fun h => ∃ x, P x h
def pu (p : Prop) : SP := fun h => p ∧ h = fun _ => none
def ac (P : SP) (H : AH) : Prop := ∃ h : Hp, P h ∧ ∀ i o, h i = some o → H.get i = some o
theorem ac.left {P Q : SP} {H : AH} (h : ac (P * Q) H) : ac P H := by
 obtain ⟨x, ⟨a, b, hd, rfl, ha, hb⟩, hx⟩ := h;exact ⟨a, ha, fun i o hi => hx i o (by simp [hi])⟩
theorem ac.right {P Q : SP} {H : AH} (h : ac (P * Q) H) : ac Q H := by rw [uB] at h; exact h.left
theorem ac.get {b : Nat} {o : AObj} {H : AH} (h : ac (blk b o) H) : H.get b = some o := by
 obtain ⟨x, hx, hg⟩ := h;have hx : x = _ := hx;exact hg b o (by rw [hx]; simp)
theorem ac.ex {α : Type} {F : α → SP} {R : SP} {H : AH} : ac (ex F * R) H ↔ ∃ x, ac (F x * R) H := by
 constructor
 ·rintro ⟨h, ⟨a, b, hd, rfl, ⟨x, ha⟩, hb⟩, hx⟩
  exact ⟨x, _, ⟨a, b, hd, rfl, ha, hb⟩, hx⟩
 ·rintro ⟨x, h, ⟨a, b, hd, rfl, ha, hb⟩, hx⟩
  exact ⟨_, ⟨a, b, hd, rfl, ⟨x, ha⟩, hb⟩, hx⟩
theorem ac.pu {p : Prop} {R : SP} {H : AH} : ac (pu p * R) H ↔ p ∧ ac R H := by
 constructor
 ·rintro ⟨h, ⟨a, b, hd, rfl, ⟨hp, ha⟩, hb⟩, hx⟩
  subst ha;exact ⟨hp, b, hb, fun i o hi => hx i o (by simp [hi])⟩
 ·rintro ⟨hp, h, hr, hx⟩
  exact ⟨h, ⟨fun _ => none, h, fun i => .inl rfl, by simp, ⟨hp, rfl⟩, hr⟩, hx⟩
theorem ac.emp (H : AH) : ac emp H := ⟨fun _ => none, rfl, fun i o h => by cases h⟩
theorem ac.lt {b : Nat} {o : AObj} {R : SP} {H : AH} (h : ac (blk b o * R) H) : b < H.size := AH.lt_of_get h.left.get
theorem ac.set {b : Nat} {o : AObj} {R : SP} {H : AH} (o' : AObj) (h : ac (blk b o * R) H) : ac (blk b o' * R) (H.set b o') := by
 have hb := h.lt;obtain ⟨x, ⟨a, r, hd, rfl, ha, hr⟩, hx⟩ := h;have ha : a = _ := ha;subst ha;refine ⟨_, ⟨_, r, fun i => ?_, rfl, rfl, hr⟩, fun i o2 hi => ?_⟩
 ·have := hd i
  simp only at this ⊢
  by_cases hi : i = b
  ·rw [if_pos hi] at this ⊢
   rcases this with h | h
   ·cases h
   ·exact .inr h
  ·rw [if_neg hi]; exact .inl rfl
 ·by_cases hib : i = b
  ·subst hib
   simp only [if_true, Option.some_or, Option.some.injEq] at hi;subst hi;exact AH.get_set_eq hb
  ·simp only [if_neg hib, Option.none_or] at hi
   rw [AH.get_set_ne hib];exact hx i o2 (by simp only [if_neg hib, Option.none_or]; exact hi)
theorem ac.push {R : SP} {H : AH} (o : AObj) (h : ac R H) : ac (blk H.size o * R) (H.push o) := by
 obtain ⟨r, hr, hx⟩ := h;refine ⟨_, ⟨_, r, fun i => ?_, rfl, rfl, hr⟩, fun i o2 hi => ?_⟩
 ·by_cases hi : i = H.size
  ·subst hi
   right
   cases hr' : r H.size with
   | none => rfl
   | some o' => have := AH.lt_of_get (hx _ _ hr'); omega
  ·rw [if_neg hi]; exact .inl rfl
 ·by_cases hib : i = H.size
  ·subst hib
   simp only [if_true, Option.some_or, Option.some.injEq] at hi;subst hi;exact AH.get_push_new _ _
  ·simp only [if_neg hib, Option.none_or] at hi
   have := hx i o2 hi;rw [AH.get_push_old (AH.lt_of_get this)];exact this
theorem ac.dead {b : Nat} {o : AObj} {R : SP} {H : AH} (h : ac (blk b o * R) H) : ac R (H.set b .dead) := (h.set .dead).right
class Fr (P A : SP) (R : outParam SP) : Prop where
 eq : P = A * R
instance (priority := high) Fr.refl (A : SP) : Fr A A emp := ⟨(eD A).symm⟩
instance (priority := high) Fr.emp (P : SP) : Fr P emp P := ⟨(jd P).symm⟩
instance Fr.left (P Q A R : SP) [h : Fr P A R] : Fr (P * Q) A (R * Q) := ⟨by rw [h.eq, ar]⟩
instance Fr.right (P Q A R : SP) [h : Fr Q A R] : Fr (P * Q) A (P * R) := ⟨by rw [h.eq, bo]⟩
instance (priority := high) Fr.both (P A B R1 R2 : SP) [h1 : Fr P A R1] [h2 : Fr R1 B R2] : Fr P (A * B) R2 := ⟨by rw [h1.eq, h2.eq, ar]⟩
class Hs (P : SP) (b : Nat) (o : outParam AObj) : Prop where
 get : ∀ {H : AH}, ac P H → H.get b = some o
instance Hs.one (b : Nat) (o : AObj) : Hs (blk b o) b o := ⟨ac.get⟩
instance Hs.left (P Q : SP) (b : Nat) (o : AObj) [h : Hs P b o] : Hs (P * Q) b o := ⟨fun k => h.get k.left⟩
instance Hs.right (P Q : SP) (b : Nat) (o : AObj) [h : Hs Q b o] : Hs (P * Q) b o := ⟨fun k => h.get k.right⟩
class Up (P : SP) (b : Nat) (o' : AObj) (P' : outParam SP) : Prop where
 up : ∃ o R, P = blk b o * R ∧ P' = blk b o' * R
instance Up.one (b : Nat) (o o' : AObj) : Up (blk b o) b o' (blk b o') := ⟨o, emp, (eD _).symm, (eD _).symm⟩
instance Up.left (P Q : SP) (b : Nat) (o' : AObj) (P' : SP) [h : Up P b o' P'] : Up (P * Q) b o' (P' * Q) := ⟨by
 obtain ⟨o, R, e1, e2⟩ := h.up
 exact ⟨o, R * Q, by rw [e1, ar], by rw [e2, ar]⟩⟩
instance Up.right (P Q : SP) (b : Nat) (o' : AObj) (Q' : SP) [h : Up Q b o' Q'] : Up (P * Q) b o' (P * Q') := ⟨by
 obtain ⟨o, R, e1, e2⟩ := h.up
 exact ⟨o, P * R, by rw [e1, bo], by rw [e2, bo]⟩⟩
theorem Up.set {P P' : SP} {b : Nat} {o' : AObj} [h : Up P b o' P'] {H : AH} (k : ac P H) : ac P' (H.set b o') := by
 obtain ⟨o, R, rfl, rfl⟩ := h.up;exact k.set o'
theorem ac.fr {P A R : SP} {H : AH} (h : ac P H) [f : Fr P A R] : ac (A * R) H := by rw [← f.eq]; exact h
theorem ac.to {P A R : SP} {H : AH} (h : ac P H) [f : Fr P A R] : ac A H := h.fr.left
def wp (x : OV) (Q : Value → AH → Prop) : Prop := ∃ v H, x = some (v, H) ∧ Q v H
abbrev vp (b : Nat) : Value := .pointer (some ⟨b, 0, none⟩)
abbrev oz (b o : Nat) : Value := .pointer (some ⟨b, o, none⟩)
abbrev vs (b n e : Nat) : Value := .slice (some ⟨b, 0, none⟩) n e
theorem ap {v : Value} {H : AH} {Q : Value → AH → Prop} (h : Q v H) : wp (some (v, H)) Q := ⟨v, H, rfl, h⟩
theorem wp.mono {x : OV} {Q Q' : Value → AH → Prop} (h : wp x Q) (k : ∀ v H, Q v H → Q' v H) : wp x Q' := let ⟨v, H, e, q⟩ := h; ⟨v, H, e, k v H q⟩
theorem a9 {x y : OV} {Q : Value → AH → Prop} (h : ∀ r, x = some r → y = some r) (k : wp x Q) : wp y Q := let ⟨v, H, e, q⟩ := k; ⟨v, H, h _ e, q⟩
theorem aj {x y : OV} {Q : Value → AH → Prop} (h : y = x) (k : wp x Q) : wp y Q := by rw [h]; exact k
theorem aa {x : Option Value} {v : Value} {k : Value → OV} {Q : Value → AH → Prop} (e : x = some v) (h : wp (k v) Q) : wp (x.bind k) Q := by rw [e]; exact h
theorem bF {b : Bool} {x y : OV} {Q : Value → AH → Prop} (ht : b = true → wp x Q) (hf : b = false → wp y Q) : wp (ax (vb b) x y) Q := by
 cases b
 ·exact hf rfl
 ·exact ht rfl
theorem Ba {x y : Option Value} {k : OV} {Q : Value → AH → Prop} (e : x = y) (h : wp k Q) : wp (bw x y k) Q := by rw [Zc e]; exact h
theorem QX {x : Option Value} {k : OV} {Q : Value → AH → Prop} (h : wp k Q) : wp (bw x x k) Q := Ba rfl h
section
variable {P P' R : SP} {H : AH} {b o f n len e : Nat} {ro : Bool} {cs : List Value} {v x : Value} {Q : Value → AH → Prop}
theorem Ju (h : ac P H) [i : Hs P b (.cells ro cs)] (hv : cs[o]? = some v) : am (oz b o) H = some v := by
 simp only [am, sm, dh, be, i.get h];exact hv
theorem Jv (h : ac P H) [i : Hs P b (.cells ro cs)] (hn : o + n ≤ cs.length) : aB n (oz b o) H = some (.agg ((cs.drop o).take n).toArray) := by
 simp only [aB, sm, dh, be, i.get h];rw [if_pos hn]
theorem Vy (h : ac P H) [i : Hs P b (.cells false cs)] (hx : x.cells.size = n) (hn : o + n ≤ cs.length) (hc : x.cells.toList.all Value.oneCell' = true) :
 dg n (oz b o) x H = some (H.set b (.cells false (splice cs o x.cells.toList))) := by
 simp only [dg, sm, be, i.get h];rw [if_pos ⟨hx, hn, hc⟩]
theorem bj {k : Value → AH → OV} (h : ac P H) (hk : ∀ b H', ac (blk b (.cells false cs) * P) H' → wp (k (vp b) H') Q) : wp (aV cs H k) Q := hk _ _ (h.push _)
theorem uM {k : Value → AH → OV} (h : ac P H) (hk : ∀ b H', ac (blk b (.map [] 0) * P) H' → wp (k (.map (some b)) H') Q) : wp (Bx H k) Q := hk _ _ (h.push _)
theorem abF {k : Value → AH → OV} (h : ac P H) (hk : ∀ b H', ac (blk b (.cells false cs) * P) H' → wp (k (vs b len e) H') Q) : wp (aa4 len e cs H k) Q := hk _ _ (h.push _)
theorem V1 {zero : List Value} {xs : List (Nat × Value)} {k : Value → AH → OV} (h : ac P H) (hf : cA (XG e) (List.replicate len zero).flatten xs = some cs) (hk : ∀ b H', ac (blk b (.cells false cs) * P) H' → wp (k (vs b len e) H') Q) :
 wp (Af len e zero xs H k) Q := by
 unfold Af;rw [hf];exact abF h hk
theorem Hu {ps : List (Nat × Nat)} {zero : List Value} {xs : List (Nat × Value)} {k : Value → OV} (hf : cA (fun i => ps[i]?) zero xs = some cs) (hk : wp (k (.agg cs.toArray)) Q) : wp (im ps zero xs k) Q := by
 unfold im;rw [hf];exact hk
theorem NI {n : Nat} {a : Option Addr} {k : Value → OV} (hk : wp (k (vi n)) Q) : wp (fq (.slice a n e) k) Q := hk
theorem Z5 {R : Type} {b o f : Nat} {p : List Stp} {k : Value → Option R} : ad (.f f :: p) (oz b o) k = ad p (oz b (o + f)) k := rfl
theorem NY {R : Type} {b o n e i : Nat} {c : Nat} {p : List Stp} {kk : IntKind} {k : Value → Option R} (h : i < n) : ad (.i e (.int kk (i : Int)) :: p) (.slice (some ⟨b, o, none⟩) n c) k = ad p (oz b (o + i * e)) k := by
 show (mW e (.slice (some ⟨b, o, none⟩) n c) (.int kk (i : Int))).bind _ = _;simp only [mW];rw [if_pos (by omega)];simp
theorem Z4 {R : Type} {b o n e i : Nat} {p : List Stp} {kk : IntKind} {k : Value → Option R} (h : i < n) : ad (.a n e (.int kk (i : Int)) :: p) (oz b o) k = ad p (oz b (o + i * e)) k := by
 show (hF n e (oz b o) (.int kk (i : Int))).bind _ = _;simp only [hF];rw [if_pos (by omega)];simp
def HH (p : List Stp) (x : Value) (b o : Nat) : Prop := ∀ {R : Type} (k : Value → Option R), ad p x k = k (oz b o)
theorem bU : HH [] (oz b o) b o := fun _ => rfl
theorem gf {p : List Stp} {b' o' : Nat} (h : HH p (oz b o) b' o') : HH (.n :: p) (oz b o) b' o' := fun k => h k
theorem bR {p : List Stp} {b' o' : Nat} (h : HH p (oz b (o + f)) b' o') : HH (.f f :: p) (oz b o) b' o' := fun k => h k
theorem Lo {p : List Stp} {b' o' i c : Nat} {kk : IntKind} (hi : i < n) (h : HH p (oz b (o + i * e)) b' o') : HH (.i e (.int kk (i : Int)) :: p) (.slice (some ⟨b, o, none⟩) n c) b' o' := fun k => by rw [NY hi]; exact h k
theorem ae : HH [.n, .f f] (vp b) b f := fun k => by
 show k (oz b (0 + f)) = _;rw [Nat.zero_add]
theorem aD : HH [.f f] (vp b) b f := fun k => by
 show k (oz b (0 + f)) = _;rw [Nat.zero_add]
class Rn (l : List Value) (o : Nat) (v : Value) (l' : outParam (List Value)) : Prop where
 eq : o < l.length ∧ l' = l.set o v
instance Rn.zero (a : Value) (l : List Value) (v : Value) : Rn (a :: l) 0 v (v :: l) := ⟨by simp⟩
instance Rn.succ (a : Value) (l : List Value) (o : Nat) (v : Value) (l' : List Value) [h : Rn l o v l'] : Rn (a :: l) (o + 1) v (a :: l') := ⟨by
 obtain ⟨h1, rfl⟩ := h.eq
 exact ⟨by simp; exact h1, by simp⟩⟩
class uS (l : List Value) (o : Nat) (xs : List Value) (l' : outParam (List Value)) : Prop where
 eq : o + xs.length ≤ l.length ∧ l' = splice l o xs
instance uS.here0 (l : List Value) : uS l 0 [] l := ⟨by simp [splice]⟩
instance uS.here (a x : Value) (l xs l' : List Value) [h : uS l 0 xs l'] : uS (a :: l) 0 (x :: xs) (x :: l') := ⟨by
 obtain ⟨h1, rfl⟩ := h.eq
 refine ⟨by simp at h1 ⊢; exact h1, by simp [splice]⟩⟩
instance uS.on (a : Value) (l : List Value) (o : Nat) (x : Value) (xs l' : List Value) [h : uS l o (x :: xs) l'] : uS (a :: l) (o + 1) (x :: xs) (a :: l') := ⟨by
 obtain ⟨h1, rfl⟩ := h.eq;refine ⟨by simp at h1 ⊢; omega, ?_⟩;simp only [splice, List.take_succ_cons, List.cons_append, List.cons.injEq, true_and]
 congr 1
 rw [show o + 1 + (x :: xs).length = (o + (x :: xs).length) + 1 from by omega, List.drop_succ_cons]⟩
class Bm (l : List Value) (o n : Nat) (l' : outParam (List Value)) : Prop where
 eq : o + n ≤ l.length ∧ l' = (l.drop o).take n
instance Bm.nil (l : List Value) : Bm l 0 0 [] := ⟨by simp⟩
instance Bm.here (a : Value) (l : List Value) (n : Nat) (l' : List Value) [h : Bm l 0 n l'] : Bm (a :: l) 0 (n + 1) (a :: l') := ⟨by
 obtain ⟨h1, rfl⟩ := h.eq
 exact ⟨by simp at h1 ⊢; exact h1, by simp⟩⟩
instance Bm.on (a : Value) (l : List Value) (o n : Nat) (l' : List Value) [h : Bm l o (n + 1) l'] : Bm (a :: l) (o + 1) (n + 1) l' := ⟨by
 obtain ⟨h1, rfl⟩ := h.eq
 exact ⟨by simp at h1 ⊢; omega, by simp⟩⟩
class sQ (v : Value) (l : outParam (List Value)) : Prop where
 eq : v.cells.toList = l
instance sQ.int (k : IntKind) (n : Int) : sQ (.int k n) [.int k n] := ⟨rfl⟩
instance sQ.bool (b : Bool) : sQ (.bool b) [.bool b] := ⟨rfl⟩
instance sQ.slice (a : Option Addr) (n c : Nat) : sQ (.slice a n c) [.slice a n c] := ⟨rfl⟩
instance sQ.ptr (a : Option Addr) : sQ (.pointer a) [.pointer a] := ⟨rfl⟩
instance sQ.func (f : Fn) (a b : Array Value) : sQ (.func f a b) [.func f a b] := ⟨rfl⟩
instance sQ.nilFunc : sQ .nilFunc [.nilFunc] := ⟨rfl⟩
instance sQ.map (m : Option Nat) : sQ (.map m) [.map m] := ⟨rfl⟩
instance sQ.string (s : ByteArray) : sQ (.string s) [.string s] := ⟨rfl⟩
instance sQ.agg (l : List Value) : sQ (.agg l.toArray) l := ⟨by simp [Value.cells]⟩
class NR (ps : List (Nat × Nat)) (i : Nat) (o n : outParam Nat) : Prop where
 eq : ps[i]? = some (o, n)
instance NR.zero (p : Nat × Nat) (ps : List (Nat × Nat)) : NR (p :: ps) 0 p.1 p.2 := ⟨rfl⟩
instance NR.succ (p : Nat × Nat) (ps : List (Nat × Nat)) (i o n : Nat) [h : NR ps i o n] : NR (p :: ps) (i + 1) o n := ⟨by simpa using h.eq⟩
class HI (l : List Value) (n : Nat) : Prop where
 eq : l.length = n
instance HI.nil : HI [] 0 := ⟨rfl⟩
instance HI.cons (a : Value) (l : List Value) (n : Nat) [h : HI l n] : HI (a :: l) (n + 1) := ⟨by simp [h.eq]⟩
class NQ (ps : List (Nat × Nat)) (zero : List Value) (xs : List (Nat × Value)) (cs : outParam (List Value)) : Prop where
 eq : cA (fun i => ps[i]?) zero xs = some cs
instance NQ.nil (ps : List (Nat × Nat)) (zero : List Value) : NQ ps zero [] zero := ⟨rfl⟩
instance NQ.cons (ps : List (Nat × Nat)) (zero z l cs : List Value) (i o n : Nat) (v : Value) (xs : List (Nat × Value)) [h1 : NR ps i o n] [h2 : sQ v l] [h3 : HI l n] [h4 : uS zero o l z] [h5 : NQ ps z xs cs] : NQ ps zero ((i, v) :: xs) cs := ⟨by
 obtain ⟨h6, rfl⟩ := h4.eq;have h7 := h2.eq;have h8 := h3.eq;subst h7;simp only [cA, h1.eq, be];rw [if_pos ⟨by simpa using h8, by rw [← h8]; exact h6⟩]
 exact h5.eq⟩
class YY (e : Nat) (zero : List Value) (xs : List (Nat × Value)) (cs : outParam (List Value)) : Prop where
 eq : cA (XG e) (List.replicate 1 zero).flatten xs = some cs
instance YY.one (e : Nat) (zero l z : List Value) (v : Value) [h2 : sQ v l] [h3 : HI l e] [h4 : uS zero 0 l z] : YY e zero [(0, v)] z := ⟨by
 obtain ⟨h6, rfl⟩ := h4.eq;have h7 := h2.eq;have h8 := h3.eq;subst h7
 have hz : (List.replicate 1 zero).flatten = zero := by simp
 rw [hz];simp only [cA, XG, be, Nat.zero_mul]
 rw [if_pos ⟨by simpa using h8, by rw [← h8]; exact h6⟩]⟩
theorem bg {p : List Stp} {k : Value → OV} (hp : HH p x b o) (hk : wp (k (oz b o)) Q) : wp (ad p x k) Q := by rw [hp k]; exact hk
theorem aq {p : List Stp} {k : Value → OV} (h : ac P H) (hp : HH p x b o) [i : Hs P b (.cells ro cs)] (hv : cs[o]? = some v) (hk : wp (k v) Q) : wp (ld p x H k) Q := by
 unfold ld;rw [hp, Ju h hv];exact hk
theorem V0 {l : List Value} {p : List Stp} {k : Value → OV} (h : ac P H) (hp : HH p x b o) [i : Hs P b (.cells ro cs)] [s : Bm cs o n l] (hk : wp (k (.agg l.toArray)) Q) : wp (ldN n p x H k) Q := by
 obtain ⟨hn, rfl⟩ := s.eq;unfold ldN;rw [hp, Jv h hn];exact hk
theorem bk {cs' l : List Value} {p : List Stp} {k : AH → OV} (h : ac P H) (hp : HH p x b o) [i : Hs P b (.cells false cs)] [c : sQ v l] [s : uS cs o l cs'] (hx : l.length = n) (hc : l.all Value.oneCell' = true)
 [u : Up P b (.cells false cs') P'] (hk : ∀ H', ac P' H' → wp (k H') Q) : wp (st n p x v H k) Q := by
 obtain ⟨hn, rfl⟩ := s.eq;have hl := c.eq;subst hl;unfold st;rw [hp, Vy h (by simpa using hx) (by simp at hx hn; omega) hc];exact hk _ (u.set h)
theorem aN {k : Value → OV} (h : ac P H) [i : Hs P b (.cells ro cs)] (hv : cs[o]? = some v) (hk : wp (k v) Q) : wp ((am (oz b o) H).bind k) Q := aa (Ju h hv) hk
theorem aU {l : List Value} {k : Value → OV} (h : ac P H) [i : Hs P b (.cells ro cs)] [s : Bm cs o n l] (hk : wp (k (.agg l.toArray)) Q) : wp ((aB n (oz b o) H).bind k) Q := by
 obtain ⟨hn, rfl⟩ := s.eq;exact aa (Jv h hn) hk
theorem f7 {cs' l : List Value} {k : AH → OV} (h : ac P H) [i : Hs P b (.cells false cs)] [c : sQ v l] [s : uS cs o l cs'] (hx : l.length = n) (hc : l.all Value.oneCell' = true)
 [u : Up P b (.cells false cs') P'] (hk : ∀ H', ac P' H' → wp (k H') Q) : wp ((dg n (oz b o) v H).bind k) Q := by
 obtain ⟨hn, rfl⟩ := s.eq;have hl := c.eq;subst hl;rw [Vy h (by simpa using hx) (by simp at hx hn; omega) hc];exact hk _ (u.set h)
theorem aZ {l : List Value} {k : Value → AH → OV} (h : ac P H) [c : sQ x l] (hk : ∀ b H', ac (blk b (.cells false l) * P) H' → wp (k (vp b) H') Q) : wp (aV (Value.cells x).toList H k) Q := by
 rw [c.eq]; exact bj h hk
theorem j9 {ps : List (Nat × Nat)} {zero : List Value} {xs : List (Nat × Value)} {k : Value → OV} [f : NQ ps zero xs cs] (hk : wp (k (.agg cs.toArray)) Q) : wp (im ps zero xs k) Q := Hu f.eq hk
theorem KG {zero : List Value} {xs : List (Nat × Value)} {k : Value → AH → OV} (h : ac P H) [f : YY e zero xs cs] (hk : ∀ b H', ac (blk b (.cells false cs) * P) H' → wp (k (vs b 1 e) H') Q) : wp (Af 1 e zero xs H k) Q := V1 h f.eq hk
theorem aG {P2 : SP} {H2 : AH} {ro2 : Bool} {cs2 : List Value} {k : OV} (h : ac P H) (h2 : ac P2 H2) [i : Hs P b (.cells ro cs)] [i2 : Hs P2 b (.cells ro2 cs2)] (e : cs[o]? = cs2[o]?) (hk : wp k Q) :
 wp (bw (am (oz b o) H) (am (oz b o) H2) k) Q := by
 refine Ba ?_ hk;simp only [am, sm, dh, be, i.get h, i2.get h2];exact e
theorem dB {P2 : SP} {H2 : AH} {ro2 : Bool} {cs2 : List Value} {k : OV} (h : ac P H) (h2 : ac P2 H2) [i : Hs P b (.cells ro cs)] [i2 : Hs P2 b (.cells ro2 cs2)] (e : cs = cs2) (hk : wp k Q) :
 wp (bw (aB n (oz b o) H) (aB n (oz b o) H2) k) Q := by
 refine Ba ?_ hk;simp only [aB, sm, dh, be, i.get h, i2.get h2, e]
def Sp {α : Type} (f : Nat) (args : List Value) (P : SP) (v : α → Value) (Q : α → SP) : Prop := ∀ R H, ac (P * R) H → ∃ x H', FF f args H = some (v x, H') ∧ ac (Q x * R) H'
theorem aX {α : Type} {f : Nat} {args : List Value} {P : SP} {v : α → Value} {Q : α → SP} (h : ∀ R H, ac (P * R) H → wp (FF f args H) fun v' H' => ∃ x, v' = v x ∧ ac (Q x * R) H') : Sp f args P v Q := by
 intro R H hh;obtain ⟨v', H', e, x, rfl, hq⟩ := h R H hh;exact ⟨x, H', e, hq⟩
theorem aY {α : Type} {f : Nat} {args : List Value} {P : SP} {v : α → Value} {Q : α → SP} {g : AH → OV} (hf : ∀ (H : AH) {r : Value × AH}, g H = some r → FF f args H = some r) (k : ∀ (R : SP) (H : AH), ac (P * R) H → wp (g H) fun v' H' => ∃ x, v' = v x ∧ ac (Q x * R) H') : Sp f args P v Q := aX fun R H h => a9 (fun r => hf H) (k R H h)
theorem ag {α : Type} {f : Nat} {args : List Value} {P0 : SP} {v : α → Value} {Q0 : α → SP} {k : Value × AH → OV} (h : ac P H) (s : Sp f args P0 v Q0) [fr : Fr P P0 R] (hk : ∀ x H', ac (Q0 x * R) H' → wp (k (v x, H')) Q) : wp ((FF f args H).bind k) Q := by
 obtain ⟨x, H', e, h'⟩ := s R H h.fr;rw [e];exact hk x H' h'
end
def sl (e : Nat) (v : Value) (n : Nat) (cs : List Value) : SP := ex fun ob : Option Nat => match ob with
 | none => pu (v = .slice none 0 0 ∧ n = 0 ∧ cs = [])
 | some b => pu (v = vs b n e ∧ cs.length = n * e) * blk b (.cells false cs)
theorem NA {R : SP} {H : AH} (e : Nat) (h : ac R H) : ac (sl e (.slice none 0 0) 0 [] * R) H := ac.ex.2 ⟨none, ac.pu.2 ⟨⟨rfl, rfl, rfl⟩, h⟩⟩
theorem uD {R : SP} {H : AH} {e b n : Nat} {cs : List Value} (hl : cs.length = n * e) (h : ac (blk b (.cells false cs) * R) H) : ac (sl e (vs b n e) n cs * R) H :=
 ac.ex.2 ⟨some b, by rw [ar]; exact ac.pu.2 ⟨⟨rfl, hl⟩, h⟩⟩
theorem qv {R : SP} {H : AH} {e n : Nat} {v : Value} {cs : List Value} (h : ac (sl e v n cs * R) H) : (v = .slice none 0 0 ∧ n = 0 ∧ cs = [] ∧ ac R H) ∨ ∃ b, v = vs b n e ∧ cs.length = n * e ∧ ac (blk b (.cells false cs) * R) H := by
 obtain ⟨ob, h⟩ := ac.ex.1 h
 cases ob with
 | none =>
  obtain ⟨⟨h1, h2, h3⟩, h4⟩ := ac.pu.1 h;exact .inl ⟨h1, h2, h3, h4⟩
 | some b =>
  simp only [ar] at h;obtain ⟨⟨h1, h2⟩, h4⟩ := ac.pu.1 h;exact .inr ⟨b, h1, h2, h4⟩
class Sl (P : SP) (e : Nat) (v : Value) (n : outParam Nat) (cs : outParam (List Value)) (R : outParam SP) : Prop where
 eq : P = sl e v n cs * R
instance (priority := high) Sl.refl (e n : Nat) (v : Value) (cs : List Value) : Sl (sl e v n cs) e v n cs emp := ⟨(eD _).symm⟩
instance Sl.left (P Q R : SP) (e n : Nat) (v : Value) (cs : List Value) [h : Sl P e v n cs R] : Sl (P * Q) e v n cs (R * Q) := ⟨by rw [h.eq, ar]⟩
instance Sl.right (P Q R : SP) (e n : Nat) (v : Value) (cs : List Value) [h : Sl Q e v n cs R] : Sl (P * Q) e v n cs (P * R) := ⟨by rw [h.eq, bo]⟩
theorem Sl.fr {P R : SP} (e : Nat) {n : Nat} (v : Value) {cs : List Value} [h : Sl P e v n cs R] {H : AH} (k : ac P H) : ac (sl e v n cs * R) H := by rw [← h.eq]; exact k
section
variable {P P' R : SP} {H : AH} {b o n m e k : Nat} {ro : Bool} {cs xcs : List Value} {v s x : Value} {Q : Value → AH → Prop}
theorem YV {bytes : Nat} {kk : Value × AH → OV} (h : ac P H) [f : Sl P e s n cs R] [i : Hs R b (.cells ro xcs)] (hl : xcs.length = k * e) (he : 0 < e) (hk0 : 0 < k) (hc : xcs.all Value.oneCell' = true)
 (hr : (n + k) * bytes ≤ room ∧ n + k ≤ room) (hk : ∀ a c H', ac (sl e (.slice a (n + k) c) (n + k) (cs ++ xcs) * R) H' → wp (kk (.slice a (n + k) c, H')) Q) : wp ((dX e bytes s (vs b k e) H).bind kk) Q := by
 have hf := Sl.fr e s h;have hg := i.get hf.right
 have hrow : j4 e (vs b k e) H = some (k, xcs) := by
  simp only [j4, dh, hg, be];rw [if_neg (by omega), if_pos (by omega)];simp [← hl]
 unfold dX;rw [hrow];simp only [be];rw [if_pos ⟨hc, he⟩]
 rcases qv hf with ⟨rfl, rfl, rfl, h'⟩ | ⟨b', rfl, hcl, h'⟩
 ·simp only [and_self, if_true]
  rw [if_neg (by omega), if_pos (by simpa using hr)];simp only [be, Nat.zero_add, List.nil_append] at hk ⊢;exact hk _ _ _ (uD hl (h'.push _))
 ·simp only
  have hgb := h'.left.get;rw [if_neg (by omega), if_neg (by omega), hgb];simp only;rw [if_pos ⟨trivial, by omega, hr.1, hr.2⟩];simp only [be, List.drop_zero];rw [← hcl, List.take_length];have h2 := h'.dead.push (.cells false (cs ++ xcs));rw [AH.size_set] at h2;exact hk _ _ _ (uD (by rw [nC, hcl, hl, Nat.add_mul]) h2)
end
abbrev bC := Int × Int × Int
def dl (l : bC) : Value := .agg #[vi l.1, vi l.2.1, vi l.2.2]
instance sQ.loc (l : bC) : sQ (dl l) [vi l.1, vi l.2.1, vi l.2.2] := ⟨rfl⟩
structure Ev where
 who : Int
 kind : Int
 loc : bC
deriving DecidableEq
def Ev.cells (e : Ev) : List Value := [vi e.who, vi e.kind, vi e.loc.1, vi e.loc.2.1, vi e.loc.2.2]
def ni (E : List Ev) : List Value := E.flatMap Ev.cells
theorem Dg (E : List Ev) (x : Ev) : ni (E ++ [x]) = ni E ++ x.cells := by simp [ni]
section
variable {α : Type} {enc : α → List Value} {e : Nat}
theorem jy (he : ∀ x, (enc x).length = e) (l : List α) : (l.flatMap enc).length = l.length * e := by
 induction l with
 | nil => simp
 | cons x l ih => rw [List.flatMap_cons, nC, he, ih, List.length_cons, Nat.add_mul]; omega
theorem PG (he : ∀ x, (enc x).length = e) : ∀ (l : List α) (i : Nat), (l.flatMap enc).drop (i * e) = (l.drop i).flatMap enc := by
 intro l
 induction l with
 | nil => intro i; simp
 | cons x l ih =>
  intro i
  cases i with
  | zero => simp
  | succ i =>
   rw [List.flatMap_cons, List.drop_append, he, show (i + 1) * e - e = i * e from by rw [Nat.add_mul]; omega, ih, List.drop_eq_nil_of_le (by rw [he, Nat.add_mul]; omega)]
   rfl
theorem nA (l : List α) (i : Nat) (hi : i < l.length) : l.flatMap enc = (l.take i).flatMap enc ++ (enc l[i] ++ (l.drop (i + 1)).flatMap enc) := by
 rw [← List.flatMap_cons, ← List.flatMap_append, List.getElem_cons_drop, List.take_append_drop]
theorem Gg (l : List α) (i : Nat) (hi : i < l.length) (y : α) : (l.set i y).flatMap enc = (l.take i).flatMap enc ++ (enc y ++ (l.drop (i + 1)).flatMap enc) := by
 rw [← List.flatMap_cons, ← List.flatMap_append, List.set_eq_take_append_cons_drop, if_pos hi]
theorem pM (he : ∀ x, (enc x).length = e) (l : List α) (i : Nat) (hi : i < l.length) : ((l.take i).flatMap enc).length = i * e := by
 rw [jy he, List.length_take, Nat.min_eq_left (by omega)]
theorem Ee (he : ∀ x, (enc x).length = e) (l : List α) (i : Nat) (hi : i < l.length) : ((l.flatMap enc).drop (i * e)).take e = enc l[i] := by
 rw [nA l i hi, List.drop_append, pM he l i hi, Nat.sub_self, List.drop_zero, List.drop_eq_nil_of_le (by rw [pM he l i hi]; omega), List.nil_append, List.take_append, he, Nat.sub_self, List.take_zero, List.append_nil,
  List.take_of_length_le (by rw [he]; omega)]
theorem zU (he : ∀ x, (enc x).length = e) (l : List α) (i : Nat) (hi : i < l.length) (f : Nat) (hf : f < e) : (l.flatMap enc)[i * e + f]? = (enc l[i])[f]? := by
 rw [nA l i hi, List.getElem?_append_right (by rw [pM he l i hi]; omega), pM he l i hi, List.getElem?_append_left (by rw [he]; omega)]
 congr 1
 omega
theorem Ks (A X B xs : List Value) (f : Nat) (h : f + xs.length ≤ X.length) : splice (A ++ (X ++ B)) (A.length + f) xs = A ++ (splice X f xs ++ B) := by
 unfold splice;rw [List.take_append, List.take_append, List.drop_append, List.drop_append, List.take_of_length_le (by omega), List.drop_eq_nil_of_le (by omega)]
 have e1 : A.length + f - A.length = f := by omega
 have e2 : A.length + f + xs.length - A.length = f + xs.length := by omega
 have e3 : f + xs.length - X.length = 0 := by omega
 have e4 : f - X.length = 0 := by omega
 rw [e1, e2, e3, e4];simp
theorem Gi (he : ∀ x, (enc x).length = e) (l : List α) (i : Nat) (hi : i < l.length) (f : Nat) (xs : List Value) (hf : f + xs.length ≤ e) (y : α) (hy : splice (enc l[i]) f xs = enc y) :
 splice (l.flatMap enc) (i * e + f) xs = (l.set i y).flatMap enc := by
 rw [nA l i hi, Gg l i hi, ← pM he l i hi, Ks _ _ _ _ _ (by rw [he]; exact hf), hy]
end
def ts {α : Type} (e : Nat) (enc : α → List Value) (v : Value) (l : List α) : SP := sl e v l.length (l.flatMap enc)
class Enc {α : Type} (enc : α → List Value) (e : outParam Nat) : Prop where
 len : ∀ x, (enc x).length = e
 one : ∀ x, (enc x).all Value.oneCell' = true
 pos : 0 < e
class Ts (P : SP) (s : Value) (α : outParam Type) (e : outParam Nat) (enc : outParam (α → List Value)) (l : outParam (List α)) (R : outParam SP) : Prop where
 eq : P = ts e enc s l * R
instance (priority := high) Ts.refl {α : Type} (e : Nat) (enc : α → List Value) (s : Value) (l : List α) : Ts (ts e enc s l) s α e enc l emp := ⟨(eD _).symm⟩
instance Ts.left {α : Type} (P Q R : SP) (e : Nat) (enc : α → List Value) (s : Value) (l : List α) [h : Ts P s α e enc l R] : Ts (P * Q) s α e enc l (R * Q) := ⟨by rw [h.eq, ar]⟩
instance Ts.right {α : Type} (P Q R : SP) (e : Nat) (enc : α → List Value) (s : Value) (l : List α) [h : Ts Q s α e enc l R] : Ts (P * Q) s α e enc l (P * R) := ⟨by rw [h.eq, bo]⟩
class Tu (P : SP) (s : Value) {α : Type} (l' : List α) (P' : outParam SP) : Prop where
 up : ∃ e enc, ∃ (l : List α), ∃ R, P = ts e enc s l * R ∧ P' = ts e enc s l' * R
theorem d6 {α : Type} {R : SP} {H : AH} (e : Nat) (enc : α → List Value) (h : ac R H) : ac (ts e enc (.slice none 0 0) [] * R) H := NA e h
section
variable {α : Type} {P P' R : SP} {H : AH} {b o e : Nat} {ro : Bool} {enc : α → List Value} {l : List α} {xcs : List Value} {s : Value} {Q : Value → AH → Prop}
theorem qy (h : ac P H) [f : Ts P s α e enc l R] : (s = .slice none 0 0 ∧ l = [] ∧ ac R H) ∨ ∃ b, s = vs b l.length e ∧ ac (blk b (.cells false (l.flatMap enc)) * R) H := by
 have h' : ac (ts e enc s l * R) H := by rw [← f.eq]; exact h
 rcases qv h' with ⟨h1, h2, _, h4⟩ | ⟨b, h1, _, h3⟩
 ·exact .inl ⟨h1, List.eq_nil_of_length_eq_zero h2, h4⟩
 ·exact .inr ⟨b, h1, h3⟩
theorem Fj {b : Nat} [E : Enc enc e] (h : ac (blk b (.cells false (l.flatMap enc)) * R) H) : ac (ts e enc (vs b l.length e) l * R) H := uD (jy E.len l) h
theorem sM {k : Value → OV} (h : ac P H) [f : Ts P s α e enc l R] (hk : wp (k (vi l.length)) Q) : wp (fq s k) Q := by
 rcases qy (f := f) h with ⟨rfl, rfl, _⟩ | ⟨b, rfl, _⟩
 ·exact hk
 ·exact hk
theorem gX {bytes : Nat} {kk : Value × AH → OV} (x : α) (h : ac P H) [f : Ts P s α e enc l R] [i : Hs R b (.cells ro xcs)] [E : Enc enc e] (hx : xcs = enc x)
 (hr : (l.length + 1) * bytes ≤ room) (hb : 0 < bytes) (hk : ∀ a c H', ac (ts e enc (.slice a (l.length + 1) c) (l ++ [x]) * R) H' → wp (kk (.slice a (l.length + 1) c, H')) Q) : wp ((dX e bytes s (vs b 1 e) H).bind kk) Q := by
 have h' : ac (sl e s l.length (l.flatMap enc) * R) H := by
  have : P = ts e enc s l * R := f.eq;rw [this] at h;exact h
 subst hx;refine YV (k := 1) (ro := ro) (xcs := enc x) h' (by rw [E.len]; omega) E.pos (by omega) (E.one x) ⟨hr, ?_⟩ fun a c H' h2 => hk a c H' ?_
 ·have : l.length + 1 ≤ (l.length + 1) * bytes := Nat.le_mul_of_pos_right _ hb
  omega
 ·have e1 : (l ++ [x]).length = l.length + 1 := by simp
  have e2 : (l ++ [x]).flatMap enc = l.flatMap enc ++ enc x := by simp
  unfold ts;rw [e1, e2];rw [jd] at h2;exact h2
theorem ZR {k : Value → OV} {i : Nat} {kk : IntKind} (h : ac P H) [f : Ts P s α e enc l R] [E : Enc enc e] (hi : i < l.length) (hk : wp (k (.agg (enc l[i]).toArray)) Q) : wp (ldN e [.i e (.int kk (i : Int))] s H k) Q := by
 rcases qy (f := f) h with ⟨_, rfl, _⟩ | ⟨b, rfl, h'⟩
 ·simp at hi
 ·unfold ldN
  rw [Lo hi bU];have hlen := jy E.len l;have hm : (i + 1) * e ≤ l.length * e := Nat.mul_le_mul_right _ (by omega);rw [Nat.add_mul] at hm;have := Jv (b := b) (cs := l.flatMap enc) (ro := false) (n := e) (o := 0 + i * e) h' (by omega);rw [this, be, Nat.zero_add, Ee E.len l i hi];exact hk
theorem V5 {k : Value → OV} {i : Nat} {kk : IntKind} {v : Value} (h : ac P H) [f : Ts P s α 1 enc l R] [E : Enc enc 1] (hi : i < l.length) (hv : enc l[i] = [v]) (hk : wp (k v) Q) : wp (ld [.i 1 (.int kk (i : Int))] s H k) Q := by
 rcases qy (f := f) h with ⟨_, rfl, _⟩ | ⟨b, rfl, h'⟩
 ·simp at hi
 ·unfold ld
  rw [Lo hi bU]
  have := Ju (b := b) (o := 0 + i * 1) (v := v) h' (by
   have := zU E.len l i hi 0 (by omega);rw [Nat.add_zero] at this
   rw [Nat.zero_add, this, hv]; rfl)
  rw [this];exact hk
theorem CT {n : Nat} {p : List Stp} {k : AH → OV} {i g : Nat} {kk : IntKind} {v : Value} {xs : List Value} (y : α) (h : ac P H) [f : Ts P s α e enc l R] [E : Enc enc e] (hi : i < l.length) (hp : p = [.i e (.int kk (i : Int))] ∧ g = 0 ∨ p = [.i e (.int kk (i : Int)), .f g])
 [c : sQ v xs] (hn : xs.length = n) (hg : g + n ≤ e) (hx : xs.all Value.oneCell' = true) (hy : splice (enc l[i]) g xs = enc y) (hk : ∀ H', ac (ts e enc s (l.set i y) * R) H' → wp (k H') Q) : wp (st n p s v H k) Q := by
 rcases qy (f := f) h with ⟨_, rfl, _⟩ | ⟨b, rfl, h'⟩
 ·simp at hi
 ·have hend : HH p (vs b l.length e) b (i * e + g) := by
   rcases hp with ⟨rfl, rfl⟩ | rfl
   ·intro R' k'
    rw [Lo hi bU];simp
   ·intro R' k'
    rw [Lo hi (bR bU)];simp
  unfold st;have hc := c.eq;subst hc;rw [hend];have hlen := jy E.len l;have hm : (i + 1) * e ≤ l.length * e := Nat.mul_le_mul_right _ (by omega);rw [Nat.add_mul] at hm;rw [Vy h' (by simpa using hn) (by omega) hx, be, Gi E.len l i hi g _ (by rw [hn]; exact hg) y hy];refine hk _ ?_;have h2 := h'.set (.cells false ((l.set i y).flatMap enc));have h3 := Fj (e := e) (enc := enc) (l := l.set i y) h2;rw [vx] at h3;exact h3
end
instance : Enc Ev.cells 5 := ⟨fun _ => rfl, fun _ => rfl, by omega⟩
def dC (n : Int) : List Value := [vi n]
instance : Enc dC 1 := ⟨fun _ => rfl, fun _ => rfl, by omega⟩
def ZZ (H : AH) (s : Value) (e n : Nat) (cs : List Value) : Prop :=
 cs.length = n * e ∧ ((∃ a c, s = .slice a 0 c ∧ n = 0 ∧ (a = none → c = 0) ∧ (∀ x, a = some x → ∃ b o, x = ⟨b, o, none⟩)) ∨ ∃ b o ro row, s = .slice (some ⟨b, o, none⟩) n e ∧ H.get b = some (.cells ro row) ∧ o + n * e ≤ row.length ∧ (row.drop o).take (n * e) = cs)
class Rd {α : outParam Type} (P : SP) (s : Value) (e : outParam Nat) (enc : outParam (α → List Value)) (l : outParam (List α)) : Prop where
 rd : ∀ {H : AH}, ac P H → ZZ H s e l.length (l.flatMap enc)
instance Rd.left {α : Type} (P Q : SP) (s : Value) (e : Nat) (enc : α → List Value) (l : List α) [r : Rd P s e enc l] : Rd (P * Q) s e enc l := ⟨fun h => r.rd h.left⟩
instance Rd.right {α : Type} (P Q : SP) (s : Value) (e : Nat) (enc : α → List Value) (l : List α) [r : Rd Q s e enc l] : Rd (P * Q) s e enc l := ⟨fun h => r.rd h.right⟩
instance Rd.own {α : Type} (s : Value) (e : Nat) (enc : α → List Value) (l : List α) : Rd (ts e enc s l) s e enc l := ⟨by
 intro H h
 have h' : ac (ts e enc s l * emp) H := by rw [eD]; exact h
 rcases qv h' with ⟨rfl, h2, h3, _⟩ | ⟨b, rfl, hc, h4⟩
 ·exact ⟨by rw [h3, h2]; simp, .inl ⟨none, 0, rfl, h2, fun _ => rfl, fun x hx => by cases hx⟩⟩
 ·exact ⟨hc, .inr ⟨b, 0, false, _, rfl, h4.left.get, by omega, by rw [List.drop_zero, ← hc, List.take_length]⟩⟩⟩
section
variable {α : Type} {P R : SP} {H : AH} {e n : Nat} {enc : α → List Value} {l m : List α} {s : Value} {Q : Value → AH → Prop}
theorem ja {k : Value → OV} (h : ac P H) [r : Rd P s e enc l] (hk : wp (k (vi l.length)) Q) : wp (fq s k) Q := by
 obtain ⟨_, ⟨a, c, rfl, hn, _⟩ | ⟨b, o, ro, row, rfl, _⟩⟩ := r.rd h
 ·rw [hn] at hk; exact hk
 ·exact hk
theorem ZE {R' : Type} {k : Value → Option R'} (h : ac P H) [r : Rd P s e enc l] : fq s k = k (vi l.length) := by
 obtain ⟨_, ⟨a, c, rfl, hn, _⟩ | ⟨b, o, ro, row, rfl, _⟩⟩ := r.rd h
 ·rw [hn]; rfl
 ·rfl
theorem gD {k : Value → OV} (h : ac P H) [r : Rd P s e enc l] (hk : wp (k (vi l.length)) Q) : wp ((fq s some).bind k) Q := by
 rw [ZE h]; exact hk
theorem AF (h : ac P H) [r : Rd P s e enc l] [E : Enc enc e] {i : Nat} (hi : i < l.length) : ∃ b o ro row, s = .slice (some ⟨b, o, none⟩) l.length e ∧ H.get b = some (.cells ro row) ∧ o + l.length * e ≤ row.length ∧ (row.drop o).take (l.length * e) = l.flatMap enc := by
 obtain ⟨_, ⟨a, c, rfl, hn, _⟩ | ⟨b, o, ro, row, h1, h2⟩⟩ := r.rd h
 ·omega
 ·exact ⟨b, o, ro, row, h1, h2⟩
theorem Ns [E : Enc enc e] {row : List Value} {o i g : Nat} (h : (row.drop o).take (l.length * e) = l.flatMap enc) (hi : i < l.length) (hg : g < e) : row[o + i * e + g]? = (enc l[i])[g]? := by
 rw [← zU E.len l i hi g hg, ← h];have hm : (i + 1) * e ≤ l.length * e := Nat.mul_le_mul_right _ (by omega);rw [Nat.add_mul] at hm;rw [List.getElem?_take, if_pos (by omega), List.getElem?_drop]
 congr 1; omega
theorem Vg {i g : Nat} {kk : IntKind} {v : Value} (h : ac P H) [r : Rd P s e enc l] [E : Enc enc e] (hi : i < l.length) (hg : g < e) (hv : (enc l[i])[g]? = some v) {R' : Type} {p : List Stp} (hp : p = [.i e (.int kk (i : Int)), .f g] ∨ p = [.i e (.int kk (i : Int))] ∧ g = 0) {k : Value → Option R'} :
 ld p s H k = k v := by
 obtain ⟨b, o, ro, row, rfl, h2, h3, h4⟩ := AF (s := s) (enc := enc) (l := l) h hi
 have hend : ad p (.slice (some ⟨b, o, none⟩) l.length e) = fun k' : Value → Option R' => k' (oz b (o + i * e + g)) := by
  rcases hp with rfl | ⟨rfl, rfl⟩
  ·funext k'; rw [NY hi, Z5]; rfl
  ·funext k'; rw [NY hi]; rfl
 unfold ld;rw [hend];show (am (oz b (o + i * e + g)) H).bind k = k v
 have : am (oz b (o + i * e + g)) H = some v := by
  simp only [am, sm, dh, be, h2];rw [Ns h4 hi hg, hv]
 rw [this]; rfl
theorem Fm {k : Value → OV} {i g : Nat} {kk : IntKind} {v : Value} (h : ac P H) [r : Rd P s e enc l] [E : Enc enc e] (hi : i < l.length) (hg : g < e) (hv : (enc l[i])[g]? = some v) (hk : wp (k v) Q) : wp (ld [.i e (.int kk (i : Int)), .f g] s H k) Q := by
 rw [Vg h hi hg hv (.inl rfl)]; exact hk
theorem i9 {k : Value → OV} {i : Nat} {kk : IntKind} {v : Value} {enc : α → List Value} (h : ac P H) [r : Rd P s 1 enc l] [E : Enc enc 1] (hi : i < l.length) (hv : enc l[i] = [v]) (hk : wp (k v) Q) : wp (ld [.i 1 (.int kk (i : Int))] s H k) Q := by
 rw [Vg (g := 0) (v := v) h hi (by omega) (by rw [hv]; rfl) (.inr ⟨rfl, rfl⟩)]; exact hk
theorem KJ {k : Value → OV} {i : Nat} {kk : IntKind} (h : ac P H) [r : Rd P s e enc l] [E : Enc enc e] (hi : i < l.length) (hk : wp (k (.agg (enc l[i]).toArray)) Q) : wp (ldN e [.i e (.int kk (i : Int))] s H k) Q := by
 obtain ⟨b, o, ro, row, rfl, h2, h3, h4⟩ := AF (s := s) (enc := enc) (l := l) h hi;unfold ldN;rw [NY hi];have hm : (i + 1) * e ≤ l.length * e := Nat.mul_le_mul_right _ (by omega);rw [Nat.add_mul] at hm
 have : aB e (oz b (o + i * e)) H = some (.agg (enc l[i]).toArray) := by
  simp only [aB, sm, dh, be, h2];rw [if_pos (by omega)]
  congr 3
  rw [← Ee E.len l i hi, ← h4, List.drop_take, List.drop_drop, List.take_take, Nat.min_eq_left (by omega)]
 show wp ((aB e (oz b (o + i * e)) H).bind k) Q;rw [this]; exact hk
theorem Vh {lo hi : Option Value} {a b : Nat} (h : ac P H) [r : Rd P s e enc l] [E : Enc enc e] (hlo : (lo = none ∧ a = 0) ∨ ∃ k, lo = some (.int k (a : Int))) (hhi : (hi = none ∧ b = l.length) ∨ ∃ k, hi = some (.int k (b : Int))) (h1 : a ≤ b) (h2 : b ≤ l.length) (h0 : 0 < l.length) :
 ∃ s', dY e s lo hi = some s' ∧ Rd P s' e enc ((l.take b).drop a) := by
 have hlen : ((l.take b).drop a).length = b - a := by rw [List.length_drop, List.length_take, Nat.min_eq_left h2]
 have hfl : (((l.take b).drop a).flatMap enc).length = (b - a) * e := by rw [jy E.len, hlen]
 have hsub : ((l.take b).drop a).flatMap enc = ((l.flatMap enc).drop (a * e)).take ((b - a) * e) := by
  have e2 : (l.drop a).take (b - a) = (l.take b).drop a := by rw [List.drop_take]
  rw [PG E.len, ← e2]
  have gen : ∀ (m : List α) (k : Nat), k ≤ m.length → (m.take k).flatMap enc = (m.flatMap enc).take (k * e) := by
   intro m
   induction m with
   | nil => intro k hk; simp
   | cons x m ih =>
    intro k hk
    cases k with
    | zero => simp
    | succ k =>
     rw [List.take_succ_cons, List.flatMap_cons, List.flatMap_cons, ih k (by simpa using hk), List.take_append, E.len, List.take_of_length_le (l := enc x) (by rw [E.len, Nat.add_mul]; omega)]
     congr 2
     rw [Nat.add_mul, Nat.one_mul, Nat.add_sub_cancel]
  exact gen _ _ (by rw [List.length_drop]; omega)
 obtain ⟨h0, ⟨a0, c, rfl, hn, hc0, ha0⟩ | ⟨b0, o, ro, row, rfl, _⟩⟩ := r.rd h
 ·omega
 ·refine ⟨.slice (some ⟨b0, o + a * e, none⟩) (b - a) e, ?_, ⟨fun {H'} h' => ?_⟩⟩
  ·have hpos := E.pos
   have hab : (0 : Int) ≤ a ∧ (a : Int) ≤ b ∧ (b : Int) ≤ l.length := by omega
   rcases hlo with ⟨rfl, rfl⟩ | ⟨k1, rfl⟩ <;> rcases hhi with ⟨rfl, rfl⟩ | ⟨k2, rfl⟩ <;> simp only [dY, lI, be]
   ·rw [if_pos (by omega)]; simp [hpos]
   ·rw [if_pos (by omega)]; simp [hpos]
   ·rw [if_pos (by omega)]; simp [hpos]
   ·rw [if_pos (by omega)]; simp [hpos]
  ·obtain ⟨h0', hr⟩ := r.rd h'
   refine ⟨by rw [hfl, hlen], .inr ?_⟩
   rcases hr with ⟨a1, c1, e1, hn, _, _⟩ | ⟨b1, o1, ro1, row1, e1, g1, g2, g3⟩
   ·omega
   ·obtain ⟨rfl, rfl⟩ : b1 = b0 ∧ o1 = o := by
     have := e1; simp at this; exact ⟨this.1.symm, this.2.symm⟩
    have hm : b * e ≤ l.length * e := Nat.mul_le_mul_right _ h2;have hm2 : a * e ≤ b * e := Nat.mul_le_mul_right _ h1;have hm3 : (b - a) * e = b * e - a * e := Nat.sub_mul ..;rw [hlen];refine ⟨b1, o1 + a * e, ro1, row1, rfl, g1, by omega, ?_⟩;rw [hsub, ← g3, List.drop_take, List.drop_drop, List.take_take, Nat.min_eq_left (by omega)]
end
def Rc (H0 : AH) : SP := fun h => h = fun i => H0.get i
theorem PF (H0 : AH) : ac (Rc H0) H0 := ⟨_, rfl, fun i o h => h⟩
class Fx (P : SP) (H0 : AH) : Prop where
 fx : ∀ {H : AH}, ac P H → ∀ b o, H0.get b = some o → H.get b = some o
instance Fx.refl (H0 : AH) : Fx (Rc H0) H0 := ⟨by
 rintro H ⟨x, hx, hg⟩ b o hb
 have hx : x = _ := hx
 exact hg b o (by rw [hx]; exact hb)⟩
instance Fx.left (P Q : SP) (H0 : AH) [f : Fx P H0] : Fx (P * Q) H0 := ⟨fun h => f.fx h.left⟩
instance Fx.right (P Q : SP) (H0 : AH) [f : Fx Q H0] : Fx (P * Q) H0 := ⟨fun h => f.fx h.right⟩
theorem jF.flat {α : Type} {R : α → List Value → Prop} {enc : α → List Value} (hf : ∀ x c, R x c → c = enc x) {l : List α} {row : List Value} (h : jF R l row) : row = l.flatMap enc := by
 induction h with
 | nil => rfl
 | cons h1 _ ih => rw [hf _ _ h1, ih]; rfl
theorem Rd.arg {H0 : AH} {t : Ty} {enc : t.I → List Value} {l : List t.I} {v : Value} [E : Enc enc t.w] (hf : ∀ x c, Abs H0 t x c → c = enc x) (h : Abs H0 (.slice t) l [v]) : Rd (Rc H0) v t.w enc l := ⟨fun {H} hH => by
 refine ⟨jy E.len l, ?_⟩
 rcases h with ⟨rfl, e⟩ | ⟨rfl, b, e⟩ | ⟨b, row, h1, e, h3, _⟩
 ·obtain rfl : v = .slice none 0 0 := by simpa using e
  exact .inl ⟨none, 0, rfl, rfl, fun _ => rfl, fun x hx => by cases hx⟩
 ·obtain rfl : v = .slice (some ⟨b, 0, none⟩) 0 0 := by simpa using e
  exact .inl ⟨_, 0, rfl, rfl, (fun h => by cases h), fun x hx => ⟨b, 0, (fg hx).symm⟩⟩
 ·obtain rfl : v = .slice (some ⟨b, 0, none⟩) l.length t.w := by simpa using e
  have hrow := h3.flat hf;refine .inr ⟨b, 0, true, row, rfl, (Fx.refl H0).fx hH b _ h1, ?_, ?_⟩
  ·rw [hrow, jy E.len]; omega
  ·rw [List.drop_zero, hrow, ← jy E.len l, List.take_length]⟩
section
variable {α : Type} {P R : SP} {H : AH} {e : Nat} {enc : α → List Value} {l m : List α} {s x : Value} {Q : Value → AH → Prop}
theorem KI {bytes : Nat} {kk : Value × AH → OV} (h : ac P H) [f : Ts P s α e enc l R] [rd : Rd R x e enc m] [E : Enc enc e] (hr : (l.length + m.length) * bytes ≤ room) (hb : 0 < bytes)
 (hk : ∀ v H', ac (ts e enc v (l ++ m) * R) H' → wp (kk (v, H')) Q) : wp ((dX e bytes s x H).bind kk) Q := by
 have h' : ac (ts e enc s l * R) H := by rw [← f.eq]; exact h
 obtain ⟨hc, ⟨a, c, rfl, hn, _, hax⟩ | ⟨b, o, ro, row, rfl, hg, hle, hrow⟩⟩ := rd.rd h'.right
 ·have hm : m = [] := List.eq_nil_of_length_eq_zero hn
  subst hm
  have hpr : j4 e (.slice a 0 c) H = some (0, []) := by
   cases a with
   | none => simp [j4]
   | some y => obtain ⟨b, o, rfl⟩ := hax y rfl; simp [j4]
  unfold dX;rw [hpr];simp only [be];rw [if_pos ⟨rfl, E.pos⟩]
  rcases qv h' with ⟨rfl, h2, h3, h4⟩ | ⟨b', rfl, h2, h4⟩
  ·simp only [and_self, if_true, be]
   refine hk _ _ ?_;rw [List.append_nil]; exact h'
  ·simp only [if_true, be]
   refine hk _ _ ?_;rw [List.append_nil]; exact h'
 ·by_cases hm0 : m.length = 0
  ·have hm : m = [] := List.eq_nil_of_length_eq_zero hm0
   subst hm;unfold dX
   have hpr : j4 e (.slice (some ⟨b, o, none⟩) ([] : List α).length e) H = some (0, []) := by simp [j4]
   rw [hpr];simp only [be];rw [if_pos ⟨rfl, E.pos⟩]
   rcases qv h' with ⟨rfl, h2, h3, h4⟩ | ⟨b', rfl, h2, h4⟩
   ·simp only [and_self, if_true, be]
    refine hk _ _ ?_;rw [List.append_nil]; exact h'
   ·simp only [if_true, be]
    refine hk _ _ ?_;rw [List.append_nil]; exact h'
  ·have hpr : j4 e (.slice (some ⟨b, o, none⟩) m.length e) H = some (m.length, m.flatMap enc) := by
    simp only [j4, dh, hg, be];rw [if_neg hm0, if_pos hle, hrow]
   have hall : (m.flatMap enc).all Value.oneCell' = true := by
    rw [List.all_eq_true];intro y hy;obtain ⟨z, _, hz⟩ := List.mem_flatMap.1 hy;exact List.all_eq_true.1 (E.one z) y hz
   have hroom : l.length + m.length ≤ (l.length + m.length) * bytes := Nat.le_mul_of_pos_right _ hb;unfold dX;rw [hpr];simp only [be];rw [if_pos ⟨hall, E.pos⟩]
   have e1 : (l ++ m).length = l.length + m.length := by simp
   have e2 : (l ++ m).flatMap enc = l.flatMap enc ++ m.flatMap enc := by simp
   have hmul : (l.length + m.length) * e = l.length * e + m.length * e := Nat.add_mul ..
   rcases qv h' with ⟨rfl, h2, h3, h4⟩ | ⟨b', rfl, h2, h4⟩
   ·simp only [and_self, if_true]
    rw [h2, Nat.zero_add] at hr hroom;rw [if_neg hm0, if_pos ⟨hr, by omega⟩];simp only [be];refine hk _ _ ?_;unfold ts;rw [e1, e2, h3, h2, List.nil_append, Nat.zero_add];exact uD hc (h4.push _)
   ·have hgb := h4.left.get
    have hpos := E.pos;simp only;rw [if_neg hm0, if_neg (by omega), hgb];simp only;rw [if_pos ⟨trivial, by omega, hr, by omega⟩];simp only [be, List.drop_zero];rw [← h2, List.take_length];have h5 := h4.dead.push (.cells false (l.flatMap enc ++ m.flatMap enc));rw [AH.size_set] at h5;refine hk _ _ ?_;unfold ts;rw [e1, e2];exact uD (by rw [nC, h2, hc]; omega) h5
theorem AG {z : α} {zero : List Value} (hz : enc z = zero) : ∀ n : Nat, (List.replicate n zero).flatten = (List.replicate n z).flatMap enc := by
 intro n
 induction n with
 | zero => rfl
 | succ n ih => rw [List.replicate_succ, List.replicate_succ, List.flatten_cons, List.flatMap_cons, ih, hz]
theorem Bb {zero : List Value} {bytes n : Nat} {kk : Value × AH → OV} (z : α) (h : ac P H) [E : Enc enc e] (hz : enc z = zero) (hr : n * bytes ≤ room) (hb : 0 < bytes) (hk : ∀ b H', ac (ts e enc (vs b n e) (List.replicate n z) * P) H' → wp (kk (vs b n e, H')) Q) :
 wp ((jV zero e bytes (vi n) (vi n) H).bind kk) Q := by
 have hroom : n ≤ n * bytes := Nat.le_mul_of_pos_right _ hb
 have hz2 : zero.length = e := by rw [← hz, E.len]
 unfold jV;simp only [rO];rw [if_pos ⟨by omega, trivial, hr, by omega, E.pos, hz2⟩];simp only [be];refine hk _ _ ?_;have h2 := h.push (.cells false (List.replicate n zero).flatten);rw [AG hz] at h2 ⊢;have h3 := Fj (e := e) (enc := enc) (l := List.replicate n z) h2;rw [List.length_replicate] at h3;exact h3
end
class KeyE {κ : Type} [DecidableEq κ] (cl : outParam KCls) (ek : κ → Value) : Prop where
 eq : ∀ a b, jA cl (ek a) (ek b) = some (decide (a = b))
 ok : ∀ a, g9 cl (ek a) = true
inductive Ents {κ : Type} (ek : κ → Value) : List (κ × Value) → List MapEntry → Prop
 | nil : Ents ek [] []
 | cons {p : κ × Value} {l : List (κ × Value)} {e : MapEntry} {es : List MapEntry} (h1 : e.key = ek p.1) (h2 : e.val = p.2) (k : Ents ek l es) : Ents ek (p :: l) (e :: es)
section
variable {κ : Type} [DecidableEq κ] {ek : κ → Value} {cl : KCls}
def Eu : List (κ × Value) → κ → Option Value
 | [], _ => none
 | p :: al, k => if k = p.1 then some p.2 else Eu al k
def Ew : List (κ × Value) → κ → Value → List (κ × Value)
 | [], k, v => [(k, v)]
 | p :: al, k, v => if k = p.1 then (k, v) :: al else p :: Ew al k v
theorem Ur (k : κ) (v : Value) (x : κ) : ∀ al, Eu (Ew al k v) x = if x = k then some v else Eu al x := by
 intro al
 induction al with
 | nil => simp only [Ew, Eu]
 | cons p al ih =>
  simp only [Ew]
  by_cases hk : k = p.1
  ·rw [if_pos hk]
   simp only [Eu]
   by_cases hx : x = k
   ·simp [hx]
   ·have : ¬ x = p.1 := by rw [← hk]; exact hx
    simp [hx, this]
  ·rw [if_neg hk]
   simp only [Eu, ih]
   by_cases hx : x = p.1
   ·have : ¬ x = k := by rw [hx]; exact fun h => hk h.symm
    simp [hx];intro h; exact absurd h.symm hk
   ·simp [hx]
theorem Zm [K : KeyE cl ek] {al : List (κ × Value)} {es : List MapEntry} (h : Ents ek al es) (k : κ) : ∀ i, ∃ r, aT cl (ek k) es i = some r ∧ r.map (·.2) = Eu al k := by
 induction h with
 | nil => intro i; exact ⟨none, rfl, rfl⟩
 | @cons p l e es h1 h2 _ ih =>
  intro i;simp only [aT, h1, K.eq, be, Eu]
  by_cases hp : k = p.1
  ·rw [if_pos (by simp [hp]), if_pos hp]
   exact ⟨_, rfl, by simp [h2]⟩
  ·rw [if_neg (by simp [hp]), if_neg hp]
   exact ih (i + 1)
theorem aaQ [K : KeyE cl ek] {al : List (κ × Value)} {es : List MapEntry} (h : Ents ek al es) (k : κ) (v : Value) : ∀ i, match aT cl (ek k) es i with
 | some (some (j, _)) => i ≤ j ∧ Ents ek (Ew al k v) (es.modify (j - i) fun e => { e with key := ek k, val := v })
 | some none => ∀ born, Ents ek (Ew al k v) (es ++ [{ key := ek k, val := v, born := born }])
 | none => False := by
 induction h with
 | nil => intro i born; exact .cons rfl rfl .nil
 | @cons p l e es h1 h2 hh ih =>
  intro i;simp only [aT, h1, K.eq, be, Ew]
  by_cases hp : k = p.1
  ·rw [if_pos (show decide (k = p.1) = true by simp [hp]), if_pos hp]
   refine ⟨bf _, ?_⟩;simp only [Nat.sub_self];exact .cons rfl rfl hh
  ·rw [if_neg (show ¬ decide (k = p.1) = true by simp [hp]), if_neg hp]
   have hi := ih (i + 1)
   cases hf : aT cl (ek k) es (i + 1) with
   | none => rw [hf] at hi; exact hi
   | some r =>
    rw [hf] at hi
    cases r with
    | none => intro born; exact .cons h1 h2 (hi born)
    | some r =>
     obtain ⟨j, v'⟩ := r;simp only at hi ⊢;refine ⟨by omega, ?_⟩;rw [show j - i = (j - (i + 1)) + 1 from by omega];exact .cons h1 h2 hi.2
def Re (ek : κ → Value) (b : Nat) (f : κ → Option Value) : SP := ex fun g : List (κ × Value) × List MapEntry × Nat => pu (Ents ek g.1 g.2.1 ∧ ∀ k, Eu g.1 k = f k) * blk b (.map g.2.1 g.2.2)
class Mp (P : SP) (b : Nat) {κ : Type} [DecidableEq κ] (ek : κ → Value) (f : outParam (κ → Option Value)) (R : outParam SP) : Prop where
 eq : P = Re ek b f * R
instance (priority := high) Mp.refl {κ : Type} [DecidableEq κ] (b : Nat) (ek : κ → Value) (f : κ → Option Value) : Mp (Re ek b f) b ek f emp := ⟨(eD _).symm⟩
instance Mp.left {κ : Type} [DecidableEq κ] (P Q R : SP) (b : Nat) (ek : κ → Value) (f : κ → Option Value) [h : Mp P b ek f R] : Mp (P * Q) b ek f (R * Q) := ⟨by rw [h.eq, ar]⟩
instance Mp.right {κ : Type} [DecidableEq κ] (P Q R : SP) (b : Nat) (ek : κ → Value) (f : κ → Option Value) [h : Mp Q b ek f R] : Mp (P * Q) b ek f (P * R) := ⟨by rw [h.eq, bo]⟩
theorem MZ {R : SP} {H : AH} {b : Nat} (ek : κ → Value) (h : ac (blk b (.map [] 0) * R) H) : ac (Re ek b (fun _ => none) * R) H :=
 ac.ex.2 ⟨([], [], 0), by rw [ar]; exact ac.pu.2 ⟨⟨.nil, fun _ => rfl⟩, h⟩⟩
theorem Fl {P R : SP} {H : AH} {b : Nat} {f : κ → Option Value} {zero : Value} {kk : Value → OV} {Q : Value → AH → Prop} [K : KeyE cl ek] (k : κ) (h : ac P H) [m : Mp P b ek f R]
 (hk : wp (kk ((f k).getD zero)) Q) : wp ((b7 cl zero (.map (some b)) (ek k) false H).bind kk) Q := by
 have h' : ac (Re ek b f * R) H := by rw [← m.eq]; exact h
 obtain ⟨⟨al, es, c⟩, h'⟩ := ac.ex.1 h';rw [ar, ac.pu] at h';obtain ⟨⟨he, hf⟩, h'⟩ := h';dsimp only at he hf h';obtain ⟨r, h1, h2⟩ := Zm he k 0;refine aa ?_ hk;unfold b7;rw [if_pos (K.ok k)];simp only [i6, h'.left.get, be, h1, dD];rw [← hf k, ← h2]
 cases r <;> rfl
theorem V4 {P R : SP} {H : AH} {b : Nat} {f : κ → Option Value} {kk : AH → OV} {Q : Value → AH → Prop} [K : KeyE cl ek] (k : κ) (v : Value) (h : ac P H) [m : Mp P b ek f R]
 (hk : ∀ H', ac (Re ek b (fun x => if x = k then some v else f x) * R) H' → wp (kk H') Q) : wp ((dv cl (.map (some b)) (ek k) v H).bind kk) Q := by
 have h' : ac (Re ek b f * R) H := by rw [← m.eq]; exact h
 obtain ⟨⟨al, es, c⟩, h'⟩ := ac.ex.1 h';rw [ar, ac.pu] at h';obtain ⟨⟨he, hf⟩, h'⟩ := h';dsimp only at he hf h';have hu := aaQ he k v 0;unfold dv;rw [if_pos (K.ok k)];simp only [h'.left.get]
 have fin : ∀ {es' : List MapEntry} {c' : Nat}, Ents ek (Ew al k v) es' → ac (Re ek b (fun x => if x = k then some v else f x) * R) (H.set b (.map es' c')) := fun {es'} {c'} he' =>
  ac.ex.2 ⟨(Ew al k v, es', c'), by
   rw [ar]
   exact ac.pu.2 ⟨⟨he', fun x => by rw [Ur, hf]⟩, h'.set _⟩⟩
 cases hf' : aT cl (ek k) es 0 with
 | none => rw [hf'] at hu; exact absurd hu id
 | some r =>
  rw [hf'] at hu
  cases r with
  | none =>
   simp only [dD, be];exact hk _ (fin (hu c))
  | some r =>
   obtain ⟨j, v'⟩ := r;simp only [dD, be];exact hk _ (fin hu.2)
end
section
variable {cl : TCls} {w : Nat}
theorem YP : ak cl .shr (vu w) (vw 61) = some (vu (w / 2305843009213693952)) := by
 have := BQ (cl := cl) (a := w) (k := .u64) (n := 61) (by omega)
 simpa using this
theorem aa8 : ak cl .shr (vu w) (vw 32) = some (vu (w / 4294967296)) := by
 have := BQ (cl := cl) (a := w) (k := .u64) (n := 32) (by omega)
 simpa using this
theorem KY (k : Nat) (hw : w < 18446744073709551616) (hk : 2 ^ k - 1 < 18446744073709551616) : ak cl .and (vu w) (.int .u64 ((2 ^ k - 1 : Nat) : Int)) = some (vu (w % 2 ^ k)) := by
 have := WH (cl := cl) hw hk;rw [Nat.and_two_pow_sub_one_eq_mod] at this;exact this
theorem Z7 (hw : w < 18446744073709551616) : ak cl .and (vu w) (vw 2305843009213693951) = some (vu (w % 2305843009213693952)) := by
 have := KY (cl := cl) 61 hw (by omega)
 simpa using this
theorem Z6 (hw : w < 18446744073709551616) : ak cl .and (vu w) (vw 4294967295) = some (vu (w % 4294967296)) := by
 have := KY (cl := cl) 32 hw (by omega)
 simpa using this
theorem Nt (n : Nat) (h : n ≠ 0) : ak cl .rem (vu w) (.int .u64 (n : Int)) = some (vu (w % n)) := g7 h
theorem YM (n : Nat) (h : n ≠ 0) (hw : w < 18446744073709551616) : ak cl .quo (vu w) (.int .u64 (n : Int)) = some (vu (w / n)) := uW h hw
theorem YJ (n : Nat) : ak cl .mul (vu w) (.int .u64 (n : Int)) = some (vu (w * n % 18446744073709551616)) := N7
theorem aaU (h : w * 2305843009213693952 < 18446744073709551616) : ak cl .mul (vu w) (vw 2305843009213693952) = some (vu (w * 2305843009213693952)) := by
 have := YJ (cl := cl) (w := w) 2305843009213693952;rw [Nat.mod_eq_of_lt h] at this
 simpa using this
theorem aaT : ak cl .mul (vu w) (vw 4294967296) = some (vu (w * 4294967296 % 18446744073709551616)) := by
 have := YJ (cl := cl) (w := w) 4294967296
 simpa using this
theorem aa3 : ak cl .rem (vu w) (vw 2305843009213693952) = some (vu (w % 2305843009213693952)) := by
 have := Nt (cl := cl) (w := w) 2305843009213693952 (by omega)
 simpa using this
theorem aaZ (hw : w < 18446744073709551616) : ak cl .quo (vu w) (vw 2305843009213693952) = some (vu (w / 2305843009213693952)) := by
 have := YM (cl := cl) (w := w) 2305843009213693952 (by omega) hw
 simpa using this
theorem aa2 : ak cl .rem (vu w) (vw 4294967296) = some (vu (w % 4294967296)) := by
 have := Nt (cl := cl) (w := w) 4294967296 (by omega)
 simpa using this
theorem aaY (hw : w < 18446744073709551616) : ak cl .quo (vu w) (vw 4294967296) = some (vu (w / 4294967296)) := by
 have := YM (cl := cl) (w := w) 4294967296 (by omega) hw
 simpa using this
theorem fF {w : Nat} (hw : w < 9223372036854775808) : bO (some .i64) (vu w) = some (vi (w : Int)) := by
 simp only [bO];rw [nb (by omega) (by omega)]
theorem da {n : Int} (h0 : 0 ≤ n) (h1 : n < 18446744073709551616) : bO (some .u64) (vi n) = some (vu n.toNat) := by
 simp only [bO];rw [kG h0 h1];show _ = some (Value.int .u64 ((n.toNat : Nat) : Int));rw [Int.toNat_of_nonneg h0]
end
theorem Cn {cl : TCls} {a b : Nat} : ak cl .neq (vu a) (vu b) = some (vb (a != b)) := by
 rw [yd]
 congr 2
 rw [Bool.eq_iff_iff];simp;omega
theorem Sb {cl : TCls} {a b : Nat} : ak cl .eql (vu a) (vu b) = some (vb (a == b)) := by
 rw [dE]
 congr 2
 rw [Bool.eq_iff_iff];simp;omega
theorem Ym {cl : TCls} {a b : Nat} : ak cl .add (vu a) (vu b) = some (vu ((a + b) % 18446744073709551616)) := by
 simp only [ak, lx, if_true];rw [Be];simp
theorem R8 (a b : bC) : ak (.flat 3) .eql (.agg #[vi a.1, vi a.2.1, vi a.2.2]) (.agg #[vi b.1, vi b.2.1, vi b.2.2]) = some (vb (a == b)) := by
 show (ot (.flat 3) (.agg #[vi a.1, vi a.2.1, vi a.2.2]) (.agg #[vi b.1, vi b.2.1, vi b.2.2])).map (fun b => Value.bool b) = _;simp only [ot];rw [if_pos ⟨rfl, rfl⟩];simp only [bi, if_true, dD, Bool.and_true]
 rfl
theorem pZ {cl : TCls} {a b : Int} (h0 : -9223372036854775808 ≤ a * b) (h1 : a * b < 9223372036854775808) : ak cl .mul (vi a) (vi b) = some (vi (a * b)) := by simp only [ak, lx, if_true, nb h0 h1]
section
variable {cl : TCls} {k : IntKind} {a b : Int}
theorem cJ (h : a < b) : ak cl .lss (.int k a) (.int k b) = some (vb true) := by rw [pY, ia h]
theorem b4 (h : ¬ a < b) : ak cl .lss (.int k a) (.int k b) = some (vb false) := by rw [pY, hZ h]
theorem YG (h : a ≤ b) : ak cl .leq (.int k a) (.int k b) = some (vb true) := by rw [La, ia h]
theorem YF (h : ¬ a ≤ b) : ak cl .leq (.int k a) (.int k b) = some (vb false) := by rw [La, hZ h]
theorem wH (h : b < a) : ak cl .gtr (.int k a) (.int k b) = some (vb true) := by rw [C2, ia h]
theorem jQ (h : ¬ b < a) : ak cl .gtr (.int k a) (.int k b) = some (vb false) := by rw [C2, hZ h]
theorem wG (h : b ≤ a) : ak cl .geq (.int k a) (.int k b) = some (vb true) := by rw [yc, ia h]
theorem nW (h : ¬ b ≤ a) : ak cl .geq (.int k a) (.int k b) = some (vb false) := by rw [yc, hZ h]
theorem bv (h : a = b) : ak cl .eql (.int k a) (.int k b) = some (vb true) := by rw [dE, beq_iff_eq.2 h]
theorem aR (h : ¬ a = b) : ak cl .eql (.int k a) (.int k b) = some (vb false) := by rw [dE, beq_eq_false_iff_ne.2 h]
theorem aaV (h : ¬ a = b) : ak cl .neq (.int k a) (.int k b) = some (vb true) := by rw [yd, bne_iff_ne.2 h]
theorem GB (h : a = b) : ak cl .neq (.int k a) (.int k b) = some (vb false) := by
 rw [yd];simp [h]
end
theorem Bv {c : Bool} {e : Option Value} {v : Value} (h : e = some v) : gB (vb c) c e = some v := by
 cases c <;> (rw [h]; rfl)
theorem YB {v : Value} : gV (vb true) true v = some v := rfl
theorem Yy {v : Value} : gV (vb false) false v = some v := rfl
theorem YA {v : Value} : gV (vb true) false v = some undef := rfl
theorem Yz {v : Value} : gV (vb false) true v = some undef := rfl
theorem Yx {e : Option Value} : gB (vb true) false e = some undef := rfl
theorem Yw {e : Option Value} : gB (vb false) true e = some undef := rfl
section
variable {H : AH} {e : Option (Value × AH)} {k : Value × AH → OV} {Q : Value → AH → Prop} {x : Option Value} {kv : Value → OV}
theorem NH (h : wp (e.bind k) Q) : wp ((gE (vb true) true H e).bind k) Q := h
theorem lV (h : wp (e.bind k) Q) : wp ((gE (vb false) false H e).bind k) Q := h
theorem NG (h : wp (k (undef, H)) Q) : wp ((gE (vb true) false H e).bind k) Q := h
theorem NF (h : wp (k (undef, H)) Q) : wp ((gE (vb false) true H e).bind k) Q := h
theorem Hx (h : wp (x.bind kv) Q) : wp ((uR (yv (vb true)) true x (some undef)).bind kv) Q := h
theorem Bc (h : wp (x.bind kv) Q) : wp ((uR (yv (vb false)) false x (some undef)).bind kv) Q := h
theorem Hw (h : wp (kv undef) Q) : wp ((uR (yv (vb true)) false x (some undef)).bind kv) Q := h
theorem Hv (h : wp (kv undef) Q) : wp ((uR (yv (vb false)) true x (some undef)).bind kv) Q := h
end
theorem Gk (c : Bool) (e : Option Value) : gB (vb c) c e = e := by cases c <;> cases e <;> rfl
theorem rN {R : Type} (c : Bool) (k : Value → Option R) : ∀ (p : List Stp) (x : Value), yq (vb c) c p x k = ad p x k := by
 intro p
 induction p with
 | nil => intro x; rfl
 | cons s p ih => intro x; cases s <;> simp only [yq, ad, Gk, ih]
theorem MM {R : Type} (c : Bool) (k : Value → Option R) (hk : ∀ x, k x = k undef) : ∀ (p : List Stp) (x : Value), yq (vb c) (!c) p x k = k undef := by
 intro p
 induction p with
 | nil => intro x; exact hk x
 | cons s p ih => intro x; cases c <;> cases s <;> exact ih undef
section
variable {H : AH} {p : List Stp} {x : Value} {k : Value → OV} {Q : Value → AH → Prop} {n : Nat}
theorem Ud {R : Type} (c : Bool) (k : Value → Option R) : fH (vb c) c p x H k = ld p x H k := by simp only [fH, ld, rN, Gk]
theorem MN {R : Type} (c : Bool) (k : Value → Option R) : qz (vb c) c n p x H k = ldN n p x H k := by simp only [qz, ldN, rN, Gk]
theorem MO {R : Type} (c : Bool) (k : Value → Option R) : fH (vb c) (!c) p x H k = k undef := by
 unfold fH
 rw [MM c _ (fun x => by cases c <;> rfl)]
 cases c <;> rfl
theorem Gl {R : Type} (c : Bool) (k : Value → Option R) : qz (vb c) (!c) n p x H k = k undef := by
 unfold qz
 rw [MM c _ (fun x => by cases c <;> rfl)]
 cases c <;> rfl
theorem VZ (h : wp (ld p x H k) Q) : wp (fH (vb true) true p x H k) Q := by rw [Ud]; exact h
theorem pQ (h : wp (ld p x H k) Q) : wp (fH (vb false) false p x H k) Q := by rw [Ud]; exact h
theorem VY (h : wp (k undef) Q) : wp (fH (vb true) false p x H k) Q := by rw [show (false : Bool) = !true from rfl, MO]; exact h
theorem VX (h : wp (k undef) Q) : wp (fH (vb false) true p x H k) Q := by rw [show fH (vb false) true p x H k = fH (vb false) (!false) p x H k from rfl, MO]; exact h
theorem Q2 (h : wp (ldN n p x H k) Q) : wp (qz (vb true) true n p x H k) Q := by rw [MN]; exact h
theorem QY (h : wp (ldN n p x H k) Q) : wp (qz (vb false) false n p x H k) Q := by rw [MN]; exact h
theorem Q1 (h : wp (k undef) Q) : wp (qz (vb true) false n p x H k) Q := by rw [show qz (vb true) false n p x H k = qz (vb true) (!true) n p x H k from rfl, Gl]; exact h
theorem QZ (h : wp (k undef) Q) : wp (qz (vb false) true n p x H k) Q := by rw [show qz (vb false) true n p x H k = qz (vb false) (!false) n p x H k from rfl, Gl]; exact h
theorem lU {e : Option Value} (h : wp (e.bind k) Q) : wp ((gB (vb true) true e).bind k) Q := by rw [Gk]; exact h
theorem cL {e : Option Value} (h : wp (e.bind k) Q) : wp ((gB (vb false) false e).bind k) Q := by rw [Gk]; exact h
theorem VW {a b : OV} (h : wp a Q) : wp (ax (vb true) a b) Q := h
theorem VV {a b : OV} (h : wp b Q) : wp (ax (vb false) a b) Q := h
end
theorem ab0 {b : Bool} {v : Value} : gV undef b v = some undef := rfl
theorem abZ {b : Bool} {e : Option Value} : gB undef b e = some undef := rfl
theorem aaM {R : Type} (b : Bool) (k : Value → Option R) (hk : ∀ x, k x = k undef) : ∀ (p : List Stp) (x : Value), yq undef b p x k = k undef := by
 intro p
 induction p with
 | nil => intro x; exact hk x
 | cons s p ih => intro x; cases s <;> exact ih undef
theorem aaN {R : Type} {b : Bool} {p : List Stp} {x : Value} {H : AH} (k : Value → Option R) : fH undef b p x H k = k undef := by
 unfold fH;rw [aaM b _ (fun x => rfl)]
 rfl
theorem X4 {b : Bool} {p : List Stp} {x : Value} {H : AH} {k : Value → OV} {Q : Value → AH → Prop} (h : wp (k undef) Q) : wp (fH undef b p x H k) Q := by rw [aaN]; exact h
class Gd (x : OV) (y : outParam OV) : Prop where
 go : ∀ {Q : Value → AH → Prop}, wp y Q → wp x Q
section
variable {a b v : Value} {k : Value → OV} {H : AH} {e : Option (Value × AH)} {e1 : Option Value} {ke : Value × AH → OV} {p : List Stp} {x : Value} {n : Nat} {c : Bool} {o1 o2 : OV}
instance : Gd ((aQ (vb true) a b).bind k) (k a) := ⟨aa (UY _ _)⟩
instance : Gd ((aQ (vb false) a b).bind k) (k b) := ⟨aa (nH _ _)⟩
instance : Gd ((gV (vb true) true v).bind k) (k v) := ⟨aa YB⟩
instance : Gd ((gV (vb false) false v).bind k) (k v) := ⟨aa Yy⟩
instance : Gd ((gV (vb true) false v).bind k) (k undef) := ⟨aa YA⟩
instance : Gd ((gV (vb false) true v).bind k) (k undef) := ⟨aa Yz⟩
instance : Gd ((gB (vb true) false e1).bind k) (k undef) := ⟨aa Yx⟩
instance : Gd ((gB (vb false) true e1).bind k) (k undef) := ⟨aa Yw⟩
instance : Gd ((gE (vb true) false H e).bind ke) (ke (undef, H)) := ⟨NG⟩
instance : Gd ((gE (vb false) true H e).bind ke) (ke (undef, H)) := ⟨NF⟩
instance : Gd ((gE (vb true) true H e).bind ke) (e.bind ke) := ⟨NH⟩
instance : Gd ((gE (vb false) false H e).bind ke) (e.bind ke) := ⟨lV⟩
instance : Gd ((uR (yv (vb true)) false e1 (some undef)).bind k) (k undef) := ⟨Hw⟩
instance : Gd ((uR (yv (vb false)) true e1 (some undef)).bind k) (k undef) := ⟨Hv⟩
instance : Gd ((uR (yv (vb true)) true e1 (some undef)).bind k) (e1.bind k) := ⟨Hx⟩
instance : Gd ((uR (yv (vb false)) false e1 (some undef)).bind k) (e1.bind k) := ⟨Bc⟩
instance : Gd (fH (vb true) true p x H k) (ld p x H k) := ⟨VZ⟩
instance : Gd (fH (vb false) false p x H k) (ld p x H k) := ⟨pQ⟩
instance : Gd (fH (vb true) false p x H k) (k undef) := ⟨VY⟩
instance : Gd (fH (vb false) true p x H k) (k undef) := ⟨VX⟩
instance : Gd (qz (vb true) true n p x H k) (ldN n p x H k) := ⟨Q2⟩
instance : Gd (qz (vb false) false n p x H k) (ldN n p x H k) := ⟨QY⟩
instance : Gd (qz (vb true) false n p x H k) (k undef) := ⟨Q1⟩
instance : Gd (qz (vb false) true n p x H k) (k undef) := ⟨QZ⟩
instance : Gd ((gB (vb true) true e1).bind k) (e1.bind k) := ⟨lU⟩
instance : Gd ((gB (vb false) false e1).bind k) (e1.bind k) := ⟨cL⟩
instance : Gd ((pw .not (vb c)).bind k) (k (vb (!c))) := ⟨aa nN⟩
instance : Gd (ax (vb true) o1 o2) o1 := ⟨VW⟩
instance : Gd (ax (vb false) o1 o2) o2 := ⟨VV⟩
instance : Gd ((gV undef c v).bind k) (k undef) := ⟨aa ab0⟩
instance : Gd ((gB undef c e1).bind k) (k undef) := ⟨aa abZ⟩
instance : Gd (fH undef c p x H k) (k undef) := ⟨X4⟩
class Gh (x : OV) (y : outParam OV) : Prop where
 go : ∀ {Q : Value → AH → Prop}, wp y Q → wp x Q
instance : Gh ((aQ (vb true) a b).bind k) (k a) := ⟨aa (UY _ _)⟩
instance : Gh ((aQ (vb false) a b).bind k) (k b) := ⟨aa (nH _ _)⟩
instance : Gh ((gV (vb true) true v).bind k) (k v) := ⟨aa YB⟩
instance : Gh ((gV (vb false) false v).bind k) (k v) := ⟨aa Yy⟩
instance : Gh ((gV (vb true) false v).bind k) (k undef) := ⟨aa YA⟩
instance : Gh ((gV (vb false) true v).bind k) (k undef) := ⟨aa Yz⟩
instance : Gh ((gB (vb true) false e1).bind k) (k undef) := ⟨aa Yx⟩
instance : Gh ((gB (vb false) true e1).bind k) (k undef) := ⟨aa Yw⟩
instance : Gh ((gE (vb true) false H e).bind ke) (ke (undef, H)) := ⟨NG⟩
instance : Gh ((gE (vb false) true H e).bind ke) (ke (undef, H)) := ⟨NF⟩
instance : Gh ((gE (vb true) true H e).bind ke) (e.bind ke) := ⟨NH⟩
instance : Gh ((gE (vb false) false H e).bind ke) (e.bind ke) := ⟨lV⟩
instance : Gh ((uR (yv (vb true)) false e1 (some undef)).bind k) (k undef) := ⟨Hw⟩
instance : Gh ((uR (yv (vb false)) true e1 (some undef)).bind k) (k undef) := ⟨Hv⟩
instance : Gh ((uR (yv (vb true)) true e1 (some undef)).bind k) (e1.bind k) := ⟨Hx⟩
instance : Gh ((uR (yv (vb false)) false e1 (some undef)).bind k) (e1.bind k) := ⟨Bc⟩
end
class Gs (x : OV) (y : outParam OV) : Prop where
 go : ∀ {Q : Value → AH → Prop}, wp y Q → wp x Q
class Gt (x : OV) (y : outParam OV) : Prop where
 go : ∀ {Q : Value → AH → Prop}, wp y Q → wp x Q
instance (priority := low) {x : OV} : Gs x x := ⟨id⟩
instance (priority := low) {x : OV} : Gt x x := ⟨id⟩
instance {x y z : OV} [g : Gd x y] [h : Gs y z] : Gs x z := ⟨fun q => g.go (h.go q)⟩
instance {x y z : OV} [g : Gh x y] [h : Gt y z] : Gt x z := ⟨fun q => g.go (h.go q)⟩
theorem gs {x y : OV} [g : Gs x y] {Q : Value → AH → Prop} (h : wp y Q) : wp x Q := g.go h
theorem gt {x y : OV} [g : Gt x y] {Q : Value → AH → Prop} (h : wp y Q) : wp x Q := g.go h
structure Mu where
 V : bC → Nat
 E : List Ev
 N : Nat
abbrev Mu.log (μ : Mu) (who kind : Int) (at' : bC) : Mu := { μ with E := μ.E ++ [⟨who, kind, at'⟩], N := μ.N + 1 }
abbrev Mu.put (μ : Mu) (at' : bC) (v : Nat) : Mu := { μ with V := fun l => if l = at' then v else μ.V l }
def eH (al : List (bC × Nat)) (l : bC) : Nat := ((al.find? fun p => p.1 == l).map (·.2)).getD 0
def aaI (p : bC × Nat) (e : MapEntry) : Prop := e.key = dl p.1 ∧ e.val = .agg #[vu p.2]
inductive EntsOf : List (bC × Nat) → List MapEntry → Prop
 | nil : EntsOf [] []
 | cons {p : bC × Nat} {l : List (bC × Nat)} {e : MapEntry} {es : List MapEntry} (h : aaI p e) (k : EntsOf l es) : EntsOf (p :: l) (e :: es)
theorem Ce (a b : bC) : jA (.flat 3) (dl a) (dl b) = some (a == b) := by
 simp only [jA, dl];rw [if_pos ⟨rfl, rfl⟩];simp only [bi, if_true, dD, Bool.and_true]
 rfl
theorem PD {al : List (bC × Nat)} {es : List MapEntry} (h : EntsOf al es) (l : bC) : ∀ i, ∃ r, aT (.flat 3) (dl l) es i = some r ∧ (match r with
 | some (j, v) => v = .agg #[vu (eH al l)] ∧ i ≤ j ∧ (∃ p, al[j - i]? = some p ∧ p.1 = l) ∧ ∀ q, q < j - i → ∀ p, al[q]? = some p → p.1 ≠ l
 | none => eH al l = 0 ∧ ∀ p ∈ al, p.1 ≠ l) := by
 induction h with
 | nil => intro i; exact ⟨none, rfl, rfl, by simp⟩
 | @cons p al e es h k ih =>
  intro i;simp only [aT];rw [h.1, Ce];simp only [be]
  by_cases hp : p.1 = l
  ·have e1 : (l == p.1) = true := by simp [hp]
   rw [if_pos e1];refine ⟨_, rfl, ?_, bf _, ⟨p, by simp, hp⟩, fun q hq => by omega⟩;rw [h.2];simp [eH, hp]
  ·have e1 : ¬ ((l == p.1) = true) := by simp; exact fun h => hp h.symm
   rw [if_neg e1];obtain ⟨r, h1, h2⟩ := ih (i + 1)
   have hg : eH (p :: al) l = eH al l := by simp [eH, hp]
   refine ⟨r, h1, ?_⟩
   cases r with
   | none =>
    simp only at h2 ⊢;rw [hg]
    exact ⟨h2.1, fun q hq => by
     rcases Jl.1 hq with rfl | hq
     ·exact hp
     ·exact h2.2 q hq⟩
   | some r =>
    obtain ⟨j, v⟩ := r;simp only at h2 ⊢;rw [hg];obtain ⟨a1, a2, ⟨p', a3, a4⟩, a5⟩ := h2;refine ⟨a1, by omega, ⟨p', ?_, a4⟩, fun q hq p'' hp'' => ?_⟩
    ·rw [show j - i = (j - (i + 1)) + 1 from by omega]; exact a3
    ·cases q with
     | zero => simp at hp''; rw [← hp'']; exact hp
     | succ q => exact a5 q (by omega) p'' (by simpa using hp'')
def lA : List (bC × Nat) → bC → Nat → List (bC × Nat)
 | [], l, v => [(l, v)]
 | p :: al, l, v => if p.1 = l then (l, v) :: al else p :: lA al l v
theorem dy (p : bC × Nat) (al : List (bC × Nat)) (l : bC) : eH (p :: al) l = if p.1 = l then p.2 else eH al l := by
 unfold eH
 by_cases h : p.1 = l
 ·simp [h]
 ·simp [h]
theorem BM (l : bC) (v : Nat) (x : bC) : ∀ al, eH (lA al l v) x = if x = l then v else eH al x := by
 intro al
 induction al with
 | nil =>
  simp only [lA, dy]
  by_cases h : l = x
  ·simp [h]
  ·have : ¬ x = l := fun e => h e.symm
   simp [h, this]
 | cons p al ih =>
  simp only [lA]
  by_cases hp : p.1 = l
  ·rw [if_pos hp, dy, dy]
   by_cases h : l = x
   ·simp [h]
   ·have h2 : ¬ x = l := fun e => h e.symm
    simp [h, h2, hp]
  ·rw [if_neg hp, dy, dy, ih]
   by_cases h : p.1 = x
   ·have h2 : ¬ x = l := fun e => hp (h.trans e)
    simp [h, h2]
   ·simp [h]
theorem VR {al : List (bC × Nat)} {es : List MapEntry} (h : EntsOf al es) (l : bC) (v : Nat) : ∀ i, match aT (.flat 3) (dl l) es i with
 | some (some (j, _)) => i ≤ j ∧ EntsOf (lA al l v) (es.modify (j - i) fun e => { e with key := dl l, val := .agg #[vu v] })
 | some none => ∀ born, EntsOf (lA al l v) (es ++ [{ key := dl l, val := .agg #[vu v], born := born }])
 | none => False := by
 induction h with
 | nil => intro i born; exact .cons ⟨rfl, rfl⟩ .nil
 | @cons p al e es h k ih =>
  intro i;simp only [aT];rw [h.1, Ce];simp only [be]
  by_cases hp : p.1 = l
  ·have e1 : (l == p.1) = true := by simp [hp]
   rw [if_pos e1];simp only [lA, if_pos hp];refine ⟨bf _, ?_⟩;simp only [Nat.sub_self];exact .cons ⟨rfl, rfl⟩ k
  ·have e1 : ¬ ((l == p.1) = true) := by simp; exact fun h => hp h.symm
   rw [if_neg e1];have hi := ih (i + 1);simp only [lA, if_neg hp]
   cases hf : aT (.flat 3) (dl l) es (i + 1) with
   | none => rw [hf] at hi; exact hi
   | some r =>
    rw [hf] at hi
    cases r with
    | none => intro born; exact .cons h (hi born)
    | some r =>
     obtain ⟨j, v'⟩ := r;simp only at hi ⊢;refine ⟨by omega, ?_⟩;rw [show j - i = (j - (i + 1)) + 1 from by omega];exact .cons h hi.2
section
variable {P P' R : SP} {H : AH} {c ck : Nat} {es : List MapEntry} {al : List (bC × Nat)} {Q : Value → AH → Prop}
theorem ZP {k : Value → OV} {at' : bC} (ha : EntsOf al es) (h : ac P H) [i : Hs P c (.map es ck)] (hk : wp (k (.agg #[vu (eH al at')])) Q) : wp ((b7 (.flat 3) (.agg #[vw 0]) (.map (some c)) (dl at') false H).bind k) Q := by
 have hg := i.get h;obtain ⟨r, h1, h2⟩ := PD ha at' 0;refine aa ?_ hk;unfold b7;rw [if_pos (show g9 (.flat 3) (dl at') = true from rfl)];simp only [i6, hg, be, h1, dD]
 cases r with
 | none => simp only at h2 ⊢; rw [h2.1]; rfl
 | some r => simp only at h2 ⊢; rw [h2.1]; rfl
theorem abG {k : AH → OV} {at' : bC} {v : Nat} (ha : EntsOf al es) (h : ac P H) [i : Hs P c (.map es ck)] (hk : ∀ es' ck' H', EntsOf (lA al at' v) es' → (∀ P', Up P c (.map es' ck') P' → ac P' H') → wp (k H') Q) :
 wp ((dv (.flat 3) (.map (some c)) (dl at') (.agg #[vu v]) H).bind k) Q := by
 have hg := i.get h;have hu := VR ha at' v 0;unfold dv;rw [if_pos (show g9 (.flat 3) (dl at') = true from rfl)];simp only [hg]
 cases hf : aT (.flat 3) (dl at') es 0 with
 | none => rw [hf] at hu; exact absurd hu id
 | some r =>
  rw [hf] at hu
  cases r with
  | none =>
   simp only [dD, be];exact hk _ _ _ (hu ck) fun P' u => u.set h
  | some r =>
   obtain ⟨j, v'⟩ := r;simp only [dD, be];exact hk _ _ _ hu.2 fun P' u => u.set h
end
def a8 (m : Nat) (μ : Mu) : SP := ex fun g : Nat × Value × List (bC × Nat) × List MapEntry × Nat =>
 pu (EntsOf g.2.2.1 g.2.2.2.1 ∧ (∀ l, eH g.2.2.1 l = μ.V l) ∧ μ.E.length ≤ μ.N) * (blk m (.cells false [.map (some g.1), g.2.1]) * (blk g.1 (.map g.2.2.2.1 g.2.2.2.2) * sl 5 g.2.1 μ.E.length (ni μ.E)))
theorem mR (m : Nat) (μ : Mu) (who kind : Int) (at' : bC) (hE : μ.N < 1099511627776) : Sp cF [vp m, vi who, vi kind, dl at'] (a8 m μ) (fun _ : Unit => .tuple #[]) (fun _ => a8 m (μ.log who kind at')) := by
 refine aX fun R H h => ?_;obtain ⟨⟨c, l, al, es, ck⟩, h⟩ := ac.ex.1 h;rw [ar, ac.pu] at h;obtain ⟨hp, h⟩ := h;dsimp only at h hp;refine a9 (fun r => xt _ _ _ _ H) ?_;refine bj (cs := [vi at'.1, vi at'.2.1, vi at'.2.2]) h fun b0 H1 h1 => ?_;refine aq h1 ae rfl ?_;refine aU h1 ?_;refine Hu (cs := [vi who, vi kind, vi at'.1, vi at'.2.1, vi at'.2.2]) rfl ?_;refine V1 (cs := [vi who, vi kind, vi at'.1, vi at'.2.1, vi at'.2.2]) h1 rfl fun b1 H2 h2 => ?_;have hl := hp.2.2;refine YV h2 rfl (by omega) (by omega) rfl (by unfold room; omega) fun a' c' H3 h3 => ?_;refine bk h3 ae rfl rfl fun H4 h4 => ?_;refine ap ⟨(), rfl, ?_⟩;refine ac.ex.2 ⟨(c, .slice a' (μ.E.length + 1) c', al, es, ck), ?_⟩;rw [ar, ac.pu];refine ⟨⟨hp.1, hp.2.1, by simp; exact hp.2.2⟩, ?_⟩
 have e1 : (μ.log who kind at').E.length = μ.E.length + 1 := by simp [Mu.log]
 have e2 : ni (μ.log who kind at').E = ni μ.E ++ [vi who, vi kind, vi at'.1, vi at'.2.1, vi at'.2.2] := by rw [Mu.log, Dg]; rfl
 rw [e1, e2];exact h4.to
theorem tT (m : Nat) (μ : Mu) (at' : bC) : Sp dQ [vp m, dl at'] (a8 m μ) (fun _ : Unit => vu (μ.V at')) (fun _ => a8 m μ) := by
 refine aX fun R H h => ?_;have h0 := h;obtain ⟨⟨c, l, al, es, ck⟩, h⟩ := ac.ex.1 h;rw [ar, ac.pu] at h;obtain ⟨hp, h⟩ := h;dsimp only at h hp;refine a9 (fun r => xo _ _ H) ?_;refine bj (cs := [vi at'.1, vi at'.2.1, vi at'.2.2]) h fun b0 H1 h1 => ?_;refine aq h1 ae rfl ?_;refine aU h1 ?_;refine ZP (at' := at') hp.1 h1 ?_;refine aa (v := vu (eH al at')) rfl ?_;refine ap ⟨(), by rw [hp.2.1], ?_⟩;refine ac.ex.2 ⟨(c, l, al, es, ck), ?_⟩;rw [ar, ac.pu];exact ⟨hp, h1.to⟩
theorem Gz {m : Nat} {μ : Mu} {at' : bC} {v : Nat} {R P : SP} {H : AH} {c : Nat} {l : Value} {al : List (bC × Nat)} {es : List MapEntry} {k : AH → OV} {Q : Value → AH → Prop} {ck : Nat}
 (hp : EntsOf al es ∧ (∀ l, eH al l = μ.V l) ∧ μ.E.length ≤ μ.N) (h : ac P H) [f : Fr P (blk m (.cells false [.map (some c), l]) * (blk c (.map es ck) * sl 5 l μ.E.length (ni μ.E))) R] [i : Hs P c (.map es ck)]
 (hk : ∀ H', ac (a8 m (μ.put at' v) * R) H' → wp (k H') Q) : wp ((dv (.flat 3) (.map (some c)) (dl at') (.agg #[vu v]) H).bind k) Q := by
 have h' := ac.fr (f := f) h;refine abG hp.1 h' fun es' ck' H' he hh => hk H' ?_;have h2 := hh _ inferInstance;refine ac.ex.2 ⟨(c, l, lA al at' v, es', ck'), ?_⟩;rw [ar, ac.pu];refine ⟨⟨he, fun x => ?_, hp.2.2⟩, h2.to⟩;dsimp only;rw [BM, hp.2.1]
theorem PX (m : Nat) (μ : Mu) (who : Int) (at' : bC) (v : Nat) (hE : μ.N < 1099511627776) : Sp di [vp m, vi who, dl at', vu v] (a8 m μ) (fun _ : Unit => .tuple #[]) (fun _ => a8 m ((μ.log who 2 at').put at' v)) := by
 refine aY (vA _ _ _ _) fun R H h => ?_;refine bj (cs := [vi at'.1, vi at'.2.1, vi at'.2.2]) h fun b0 H1 h1 => ?_;refine aU h1 ?_;refine ag h1 (mR m μ who 2 at' hE) fun _ H2 h2 => ?_;obtain ⟨⟨c, l, al, es, ck⟩, h2⟩ := ac.ex.1 h2;rw [ar, ac.pu] at h2;obtain ⟨hp, h2⟩ := h2;dsimp only at h2 hp;refine aq h2 ae rfl ?_;refine aU h2 ?_;refine Hu (cs := [vu v]) rfl ?_;refine Gz (m := m) (l := l) (μ := μ.log who 2 at') (at' := at') (v := v) hp h2 fun H3 h3 => ?_;exact ap ⟨(), rfl, h3.to⟩
theorem Ae (m : Nat) (μ : Mu) (who : Int) (at' : bC) (v : Nat) (hE : μ.N < 1099511627776) : Sp fu [vp m, vi who, dl at', vu v] (a8 m μ) (fun _ : Unit => vu (μ.V at')) (fun _ => a8 m ((μ.log who 3 at').put at' v)) := by
 refine aY (xu _ _ _ _) fun R H h => ?_;refine bj (cs := [vi at'.1, vi at'.2.1, vi at'.2.2]) h fun b0 H1 h1 => ?_;refine aU h1 ?_;refine ag h1 (tT m μ at') fun _ H2 h2 => ?_;refine aU h2 ?_;refine ag h2 (mR m μ who 3 at' hE) fun _ H3 h3 => ?_;obtain ⟨⟨c, l, al, es, ck⟩, h3⟩ := ac.ex.1 h3;rw [ar, ac.pu] at h3;obtain ⟨hp, h3⟩ := h3;dsimp only at h3 hp;refine aq h3 ae rfl ?_;refine aU h3 ?_;refine Hu (cs := [vu v]) rfl ?_;refine Gz (m := m) (l := l) (μ := μ.log who 3 at') (at' := at') (v := v) hp h3 fun H4 h4 => ?_;exact ap ⟨(), rfl, h4.to⟩
theorem Uy (m : Nat) (μ : Mu) (who : Int) (at' : bC) (hE : μ.N < 1099511627776) : Sp cg [vp m, vi who, dl at'] (a8 m μ) (fun _ : Unit => vu (μ.V at')) (fun _ => a8 m (μ.log who 1 at')) := by
 refine aY (xn _ _ _) fun R H h => ?_;refine bj (cs := [vi at'.1, vi at'.2.1, vi at'.2.2]) h fun b0 H1 h1 => ?_;refine aU h1 ?_;refine ag h1 (mR m μ who 1 at' hE) fun _ H2 h2 => ?_;refine aU h2 ?_;refine ag h2 (tT m (μ.log who 1 at') at') fun _ H3 h3 => ?_;exact ap ⟨(), rfl, h3.to⟩
abbrev Mu.swap (μ : Mu) (who : Int) (at' : bC) (was now : Nat) : Mu := if μ.V at' = was then (μ.log who 3 at').put at' now else μ.log who 4 at'
theorem UA (m : Nat) (μ : Mu) (who : Int) (at' : bC) (was now : Nat) (hE : μ.N < 1099511627776) :
 Sp dR [vp m, vi who, dl at', vu was, vu now] (a8 m μ) (fun _ : Unit => vb (decide (μ.V at' = was))) (fun _ => a8 m (μ.swap who at' was now)) := by
 refine aY (xq _ _ _ _ _) fun R H h => ?_;refine bj (cs := [vi at'.1, vi at'.2.1, vi at'.2.2]) h fun b0 H1 h1 => ?_;refine aU h1 ?_;refine ag h1 (tT m μ at') fun _ H2 h2 => ?_;refine aa Cn ?_;unfold Mu.swap;refine bF (fun hc => ?_) (fun hc => ?_)
 ·have hc : ¬ μ.V at' = was := by simpa using hc
  rw [if_neg hc, hZ hc];refine aU h2 ?_;refine ag h2 (mR m μ who 4 at' hE) fun _ H3 h3 => ?_;exact ap ⟨(), rfl, h3.to⟩
 ·have hc : μ.V at' = was := by simpa using hc
  rw [if_pos hc, ia hc];refine aU h2 ?_;refine ag h2 (Ae m μ who at' now hE) fun _ H3 h3 => ?_;exact ap ⟨(), rfl, h3.to⟩
theorem XD (m : Nat) (μ : Mu) (who : Int) (at' : bC) (n : Nat) (hE : μ.N < 1099511627776) :
 Sp gh [vp m, vi who, dl at', vu n] (a8 m μ) (fun _ : Unit => vu (μ.V at')) (fun _ => a8 m ((μ.log who 3 at').put at' ((μ.V at' + n) % 18446744073709551616))) := by
 refine aY (Ab _ _ _ _) fun R H h => ?_
 repeat (first | refine aZ ‹_› fun _ _ _ => ?_ | refine aU ‹_› ?_)
 refine ag (by assumption) (tT m μ at') fun _ _ _ => ?_
 repeat refine dB ‹_› ‹_› rfl ?_
 refine aa (Ym) ?_;refine ag (by assumption) (Ae m μ who at' _ hE) fun _ _ _ => ?_;exact ap ⟨(), rfl, ac.to (by assumption)⟩
theorem Ad (m : Nat) (μ : Mu) (who : Int) (at' : bC) (hE : μ.N < 1099511627776) :
 Sp ir [vp m, vi who, dl at'] (a8 m μ) (fun _ : Unit => .tuple #[]) (fun _ => a8 m (μ.log who 5 at')) := by
 refine aY (xp _ _ _) fun R H h => ?_
 repeat (first | refine aZ ‹_› fun _ _ _ => ?_ | refine aU ‹_› ?_)
 refine ag (by assumption) (mR m μ who 5 at' hE) fun _ _ _ => ?_;exact ap ⟨(), rfl, ac.to (by assumption)⟩
theorem vC (m : Nat) (μ : Mu) (who : Int) (at' : bC) (hE : μ.N < 1099511627776) :
 Sp eL [vp m, vi who, dl at'] (a8 m μ) (fun _ : Unit => .tuple #[]) (fun _ => a8 m (μ.log who 6 at')) := by
 refine aY (vB _ _ _) fun R H h => ?_
 repeat (first | refine aZ ‹_› fun _ _ _ => ?_ | refine aU ‹_› ?_)
 refine ag (by assumption) (mR m μ who 6 at' hE) fun _ _ _ => ?_;exact ap ⟨(), rfl, ac.to (by assumption)⟩
theorem Sp.imp {α : Type} {f : Nat} {args : List Value} {P : SP} {v : α → Value} {Q Q' : α → SP} (s : Sp f args P v Q) (h : ∀ x R H, ac (Q x * R) H → ac (Q' x * R) H) : Sp f args P v Q' := by
 intro R H hh;obtain ⟨x, H', e, hq⟩ := s R H hh;exact ⟨x, H', e, h x R H' hq⟩
theorem gn {m : Nat} {V : bC → Nat} {E : List Ev} {N N' : Nat} {R : SP} {H : AH} (hN : N ≤ N') (h : ac (a8 m ⟨V, E, N⟩ * R) H) : ac (a8 m ⟨V, E, N'⟩ * R) H := by
 obtain ⟨g, h⟩ := ac.ex.1 h;rw [ar, ac.pu] at h;refine ac.ex.2 ⟨g, ?_⟩;rw [ar, ac.pu];exact ⟨⟨h.1.1, h.1.2.1, dN h.1.2.2 hN⟩, h.2⟩
abbrev Mu.acc (μ : Mu) (who kind : Int) (at' : bC) : Mu := { V := μ.V, E := μ.E ++ [⟨who, kind, at'⟩], N := μ.N + 2 }
abbrev Mu.swp (μ : Mu) (who : Int) (at' : bC) (was now : Nat) : Mu := { V := (μ.swap who at' was now).V, E := (μ.swap who at' was now).E, N := μ.N + 2 }
theorem vI (m : Nat) (μ : Mu) (who : Int) (at' : bC) (hE : μ.N < 1099511627776) : Sp cg [vp m, vi who, dl at'] (a8 m μ) (fun _ : Unit => vu (μ.V at')) (fun _ => a8 m (μ.acc who 1 at')) :=
 (Uy m μ who at' hE).imp fun _ R H h => gn (by simp) h
theorem ED (m : Nat) (μ : Mu) (who : Int) (at' : bC) (v : Nat) (hE : μ.N < 1099511627776) : Sp di [vp m, vi who, dl at', vu v] (a8 m μ) (fun _ : Unit => .tuple #[]) (fun _ => a8 m ((μ.acc who 2 at').put at' v)) :=
 (PX m μ who at' v hE).imp fun _ R H h => gn (by simp) h
theorem JM (m : Nat) (μ : Mu) (who : Int) (at' : bC) (was now : Nat) (hE : μ.N < 1099511627776) :
 Sp dR [vp m, vi who, dl at', vu was, vu now] (a8 m μ) (fun _ : Unit => vb (decide (μ.V at' = was))) (fun _ => a8 m (μ.swp who at' was now)) :=
 (UA m μ who at' was now hE).imp fun _ R H h => by
  have : (μ.swap who at' was now).N ≤ μ.N + 2 := by unfold Mu.swap; split <;> simp
  exact gn this h
theorem YL (m : Nat) (μ : Mu) (who : Int) (at' : bC) (n : Nat) (hE : μ.N < 1099511627776) :
 Sp gh [vp m, vi who, dl at', vu n] (a8 m μ) (fun _ : Unit => vu (μ.V at')) (fun _ => a8 m ((μ.acc who 3 at').put at' ((μ.V at' + n) % 18446744073709551616))) :=
 (XD m μ who at' n hE).imp fun _ R H h => gn (by simp) h
def Df (p : bC × Nat) : List Value := [vi p.1.1, vi p.1.2.1, vi p.1.2.2]
def FY (p : bC × Nat) : List Value := [vu p.2]
instance : Enc Df 3 := ⟨fun _ => rfl, fun _ => rfl, by omega⟩
instance : Enc FY 1 := ⟨fun _ => rfl, fun _ => rfl, by omega⟩
def Cm (m : Nat) (al : List (bC × Nat)) (E : List Ev) : SP := ex fun g : Value × Value × Value =>
 blk m (.cells false [g.1, g.2.1, g.2.2]) * (ts 3 Df g.1 al * (ts 1 FY g.2.1 al * ts 5 Ev.cells g.2.2 E))
def bm (m : Nat) (μ : Mu) : SP := ex fun al : List (bC × Nat) => pu ((∀ l, eH al l = μ.V l) ∧ al.length + μ.E.length ≤ μ.N) * Cm m al μ.E
def gc (al : List (bC × Nat)) (l : bC) : Nat := al.findIdx fun p => p.1 == l
def jq (al : List (bC × Nat)) (l : bC) : List (bC × Nat) := if gc al l < al.length then al else al ++ [(l, 0)]
theorem iM (p : bC × Nat) (al : List (bC × Nat)) (l : bC) : gc (p :: al) l = if p.1 = l then 0 else gc al l + 1 := by
 unfold gc;rw [List.findIdx_cons]
 by_cases h : p.1 = l
 ·simp [h]
 ·have : (p.1 == l) = false := by simpa using h
  simp [h, this]
theorem yR (l : bC) : ∀ (al : List (bC × Nat)) (h : gc al l < al.length), al[gc al l] = (l, eH al l) := by
 intro al
 induction al with
 | nil => intro h; simp at h
 | cons p al ih =>
  intro h;have e := iM p al l
  by_cases hp : p.1 = l
  ·rw [if_pos hp] at e
   simp only [e, List.getElem_cons_zero, dy, hp, if_true];exact Prod.ext hp rfl
  ·rw [if_neg hp] at e
   rw [e, List.length_cons] at h;simp only [e, List.getElem_cons_succ, dy, hp, if_false];exact ih (by omega)
theorem HN (l x : bC) : ∀ (al : List (bC × Nat)), ¬ gc al l < al.length → eH (al ++ [(l, 0)]) x = eH al x := by
 intro al
 induction al with
 | nil =>
  intro _;show eH [(l, 0)] x = eH [] x;rw [dy]
  split <;> rfl
 | cons p al ih =>
  intro h;have e := iM p al l
  by_cases hp : p.1 = l
  ·rw [if_pos hp] at e
   simp [e] at h
  ·rw [if_neg hp] at e
   rw [List.cons_append, dy, dy, ih (by rw [e, List.length_cons] at h; omega)]
theorem yS (l : bC) (al : List (bC × Nat)) (h : ¬ gc al l < al.length) : gc (al ++ [(l, 0)]) l = al.length := by
 induction al with
 | nil => simp [gc, List.findIdx_cons]
 | cons p al ih =>
  have e := iM p al l
  by_cases hp : p.1 = l
  ·rw [if_pos hp] at e
   simp [e] at h
  ·rw [if_neg hp] at e
   rw [List.cons_append, iM, if_neg hp, ih (by rw [e, List.length_cons] at h; omega), List.length_cons]
theorem NZ (al : List (bC × Nat)) (l x : bC) : eH (jq al l) x = eH al x := by
 unfold jq
 split
 ·rfl
 ·exact HN l x al (by assumption)
theorem Rv (al : List (bC × Nat)) (l : bC) : gc (jq al l) l < (jq al l).length := by
 unfold jq
 split
 ·assumption
 ·rw [yS l al (by assumption)]; simp
theorem BN (l : bC) (v : Nat) : ∀ (al : List (bC × Nat)), gc al l < al.length → lA al l v = al.set (gc al l) (l, v) := by
 intro al
 induction al with
 | nil => intro h; simp at h
 | cons p al ih =>
  intro h;have e := iM p al l
  by_cases hp : p.1 = l
  ·rw [if_pos hp] at e
   simp [lA, hp, e]
  ·rw [if_neg hp] at e
   rw [e, List.length_cons] at h;simp only [lA, hp, if_false, e, List.set_cons_succ];rw [ih (by omega)]
theorem Nf (m : Nat) (al : List (bC × Nat)) (E : List Ev) (who kind : Int) (at' : bC) (hE : E.length < 1099511627776) : Sp bB [vp m, vi who, vi kind, dl at'] (Cm m al E) (fun _ : Unit => .tuple #[]) (fun _ => Cm m al (E ++ [⟨who, kind, at'⟩])) := by
 refine aY (Ap _ _ _ _) fun R H h => ?_;obtain ⟨⟨a, v, e⟩, h⟩ := ac.ex.1 h;dsimp only at h
 repeat (first | refine aZ ‹_› fun _ _ _ => ?_ | refine aU ‹_› ?_ | refine aq ‹_› ae rfl ?_ | refine j9 ?_ | refine KG ‹_› fun _ _ _ => ?_)
 refine gX ((⟨who, kind, at'⟩ : Ev)) (by assumption) rfl ?_ (by omega) fun a' c' _ _ => ?_
 ·unfold room; omega
 repeat (first | refine bg ae ?_ | refine f7 ‹_› rfl rfl fun _ _ => ?_)
 exact ap ⟨(), rfl, ac.ex.2 ⟨(a, v, .slice a' (E.length + 1) c'), ac.to (by assumption)⟩⟩
theorem FA (l : bC) : ∀ (al : List (bC × Nat)) (k : Nat) (hk : k < al.length), al[k].1 = l → (∀ j, j < k → ∀ p, al[j]? = some p → p.1 ≠ l) → gc al l = k := by
 intro al
 induction al with
 | nil => intro k hk; simp at hk
 | cons p al ih =>
  intro k hk h hno;rw [iM]
  cases k with
  | zero => rw [if_pos (by simpa using h)]
  | succ k =>
   rw [if_neg (hno 0 (by omega) p rfl), ih k (by simpa using hk) (by simpa using h) fun j hj q hq => hno (j + 1) (by omega) q (by simpa using hq)]
theorem JU {m b0 : Nat} {al : List (bC × Nat)} {E : List Ev} {at' : bC} {R : SP} (hal : al.length < 1099511627776) {a v e : Value} (x4 : Value) {H : AH}
 (h : ac (blk b0 (.cells false [vi at'.1, vi at'.2.1, vi at'.2.2]) * (blk m (.cells false [a, v, e]) * (ts 3 Df a al * (ts 1 FY v al * ts 5 Ev.cells e E)) * R)) H) :
 ∀ (n k : Nat), k + n = al.length → (∀ j, j < k → ∀ p, al[j]? = some p → p.1 ≠ at') →
  wp (yB (vp m) (vp b0) x4 (vi k) H) fun v' H' => v' = vi (gc (jq al at') at') ∧ ac (Cm m (jq al at') E * R) H' := by
 intro n
 induction n with
 | zero =>
  intro k hk hno
  have hidx : ¬ gc al at' < al.length := by
   intro hlt;have := yR at' al hlt;exact hno _ (by omega) _ (br hlt) (by rw [this])
  refine aj (Ax _ _ _ _ H) ?_;refine aq h ae rfl ?_;refine sM (s := a) h ?_;refine aa pY ?_;refine bF (fun hc => ?_) (fun hc => ?_)
  ·simp at hc; omega
  refine aj (ET _ _ _ H) ?_;refine aj (Ql _ _ _ H) ?_;have e1 : jq al at' = al ++ [(at', 0)] := if_neg hidx
  have e2 : gc (jq al at') at' = al.length := by rw [e1, yS at' al hidx]
  rw [e1, ← e1, e2, e1]
  repeat (first | refine aU ‹_› ?_ | refine aq ‹_› ae rfl ?_ | refine KG ‹_› fun _ _ _ => ?_)
  refine gX (((at', 0) : bC × Nat)) (by assumption) rfl ?_ (by omega) fun a1 c1 H1 h1 => ?_
  ·unfold room; omega
  repeat (first | refine aq ‹_› ae rfl ?_ | refine KG ‹_› fun _ _ _ => ?_ | refine aG ‹_› ‹_› rfl ?_)
  refine gX (((at', 0) : bC × Nat)) (by assumption) rfl ?_ (by omega) fun a2 c2 H2 h2 => ?_
  ·unfold room; omega
  repeat (first | refine aq ‹_› ae rfl ?_ | refine bg ae ?_ | refine f7 ‹_› rfl rfl fun _ _ => ?_ | refine NI ?_)
  refine aa (mp (by omega) (by omega)) ?_;refine ap ⟨by congr 1; omega, ?_⟩;exact ac.ex.2 ⟨(.slice a1 (al.length + 1) c1, .slice a2 (al.length + 1) c2, e), ac.to (by assumption)⟩
 | succ n ih =>
  intro k hk hno
  have hkl : k < al.length := by omega
  refine aj (Ax _ _ _ _ H) ?_;refine aq h ae rfl ?_;refine sM (s := a) h ?_;refine aa pY ?_;refine bF (fun hc => ?_) (fun hc => ?_)
  ·refine aj (J2 _ _ _ _ H) ?_
   refine aq h ae rfl ?_;refine ZR (s := a) h hkl ?_;refine aU h ?_;refine aa (R8 al[k].1 at') ?_;refine bF (fun hc => ?_) (fun hc => ?_)
   ·have hc : al[k].1 = at' := by simpa using hc
    have hidx := FA at' al k hkl hc hno
    have e1 : jq al at' = al := by unfold jq; rw [if_pos (by omega)]
    refine ap ⟨by rw [e1, hidx], ?_⟩;rw [e1];exact ac.ex.2 ⟨(a, v, e), ac.to h⟩
   ·have hc : al[k].1 ≠ at' := by simpa using hc
    refine aj (J3 _ _ _ _ H) ?_;refine aa (aO (by omega) (by omega)) ?_;refine ih (k + 1) (by omega) fun j hj p hp => ?_
    by_cases hjk : j = k
    ·subst hjk
     rw [br hkl] at hp;cases hp;exact hc
    ·exact hno j (by omega) p hp
  ·simp at hc; omega
theorem Qi (m : Nat) (al : List (bC × Nat)) (E : List Ev) (at' : bC) (hal : al.length < 1099511627776) : Sp Ah [vp m, dl at'] (Cm m al E) (fun _ : Unit => vi (gc (jq al at') at')) (fun _ => Cm m (jq al at') E) := by
 refine aY (Zz _ _) fun R H h => ?_;obtain ⟨⟨a, v, e⟩, h⟩ := ac.ex.1 h;dsimp only at h;refine aZ h fun b0 H1 h1 => ?_;refine aj (Qk _ _ _ H1) ?_;refine aj (J1 _ _ _ _ H1) ?_;refine (JU hal (vi 0) h1 al.length 0 (by omega) (fun j hj => by omega)).mono fun v' H' h' => ⟨(), h'.1, h'.2⟩
theorem X1 (a : Value) (al : List (bC × Nat)) (i : Nat) (hi : i < al.length) (v : Nat) : ts 3 Df a (al.set i (al[i].1, v)) = ts 3 Df a al := by
 unfold ts;rw [vx, Gg al i hi, nA al i hi]
 rfl
theorem Aa {m : Nat} {μ : Mu} {al : List (bC × Nat)} {a v e : Value} {P R : SP} {H : AH} (hp : (∀ l, eH al l = μ.V l) ∧ al.length + μ.E.length ≤ μ.N) (h : ac P H)
 {Z : SP} [f : Fr P ((blk m (.cells false [a, v, e]) * (ts 3 Df a al * (ts 1 FY v al * ts 5 Ev.cells e μ.E))) * R) Z] : ac (bm m μ * R) H := by
 refine ac.ex.2 ⟨al, ?_⟩;rw [ar, ac.pu];exact ⟨hp, ac.ex.2 ⟨(a, v, e), h.to⟩⟩
theorem N1 (al : List (bC × Nat)) (l : bC) : (jq al l).length ≤ al.length + 1 := by unfold jq; split <;> simp
def wM (m : Nat) (μ : Mu) (at' : bC) (i : Nat) : SP := ex fun g : List (bC × Nat) × Value × Value × Value =>
 pu ((∀ l, eH g.1 l = μ.V l) ∧ g.1.length + μ.E.length ≤ μ.N ∧ gc g.1 at' = i ∧ i < g.1.length) * (blk m (.cells false [g.2.1, g.2.2.1, g.2.2.2]) * (ts 3 Df g.2.1 g.1 * (ts 1 FY g.2.2.1 g.1 * ts 5 Ev.cells g.2.2.2 μ.E)))
theorem Ft (m : Nat) (μ : Mu) (at' : bC) (hE : μ.N < 1099511627776) : Sp Ah [vp m, dl at'] (bm m μ) (fun i : Nat => vi (i : Int)) (fun i => wM m { μ with N := μ.N + 1 } at' i) := by
 intro R H h;obtain ⟨al, h⟩ := ac.ex.1 h;rw [ar, ac.pu] at h;obtain ⟨hp, h⟩ := h;obtain ⟨_, H', e, h'⟩ := Qi m al μ.E at' (by omega) R H h;refine ⟨gc (jq al at') at', H', e, ?_⟩;obtain ⟨⟨a, v, ev⟩, h'⟩ := ac.ex.1 h';refine ac.ex.2 ⟨(jq al at', a, v, ev), ?_⟩;rw [ar, ac.pu];have := N1 al at';exact ⟨⟨fun l => by rw [NZ, hp.1], by dsimp only; omega, rfl, Rv al at'⟩, h'⟩
theorem Q9 (m : Nat) (μ : Mu) (who kind : Int) (at' : bC) (hE : μ.N < 1099511627776) : Sp bB [vp m, vi who, vi kind, dl at'] (bm m μ) (fun _ : Unit => .tuple #[]) (fun _ => bm m (μ.log who kind at')) := by
 intro R H h;obtain ⟨al, h⟩ := ac.ex.1 h;rw [ar, ac.pu] at h;obtain ⟨hp, h⟩ := h;obtain ⟨_, H', e, h'⟩ := Nf m al μ.E who kind at' (by omega) R H h;refine ⟨(), H', e, ?_⟩;refine ac.ex.2 ⟨al, ?_⟩;rw [ar, ac.pu];exact ⟨⟨hp.1, by simp; omega⟩, h'⟩
theorem Zk (m : Nat) (μ : Mu) (at2 : bC) (i : Nat) (who kind : Int) (at' : bC) (hE : μ.N < 1099511627776) : Sp bB [vp m, vi who, vi kind, dl at'] (wM m μ at2 i) (fun _ : Unit => .tuple #[]) (fun _ => wM m (μ.log who kind at') at2 i) := by
 intro R H h;obtain ⟨⟨al, a, v, e⟩, h⟩ := ac.ex.1 h;rw [ar, ac.pu] at h;obtain ⟨hp, h⟩ := h;dsimp only at hp h;obtain ⟨_, H', e', h'⟩ := Nf m al μ.E who kind at' (by omega) R H (ac.ex.2 ⟨(a, v, e), h⟩);refine ⟨(), H', e', ?_⟩;obtain ⟨⟨a2, v2, e2⟩, h'⟩ := ac.ex.1 h';refine ac.ex.2 ⟨(al, a2, v2, e2), ?_⟩;rw [ar, ac.pu];exact ⟨⟨hp.1, by simp; omega, hp.2.2⟩, h'⟩
class Xi (P : SP) (m i : Nat) (μ : outParam Mu) (at' : outParam bC) (R : outParam SP) : Prop where
 eq : P = wM m μ at' i * R
instance (priority := high) Xi.refl (m i : Nat) (μ : Mu) (at' : bC) : Xi (wM m μ at' i) m i μ at' emp := ⟨(eD _).symm⟩
instance Xi.left (P Q R : SP) (m i : Nat) (μ : Mu) (at' : bC) [h : Xi P m i μ at' R] : Xi (P * Q) m i μ at' (R * Q) := ⟨by rw [h.eq, ar]⟩
instance Xi.right (P Q R : SP) (m i : Nat) (μ : Mu) (at' : bC) [h : Xi Q m i μ at' R] : Xi (P * Q) m i μ at' (P * R) := ⟨by rw [h.eq, bo]⟩
section
variable {m i : Nat} {μ : Mu} {at' : bC} {P R : SP} {H : AH} {Q : Value → AH → Prop}
theorem V6 {k : Value → OV} (h : ac P H) [f : Xi P m i μ at' R] (hk : wp (k (vu (μ.V at'))) Q) : wp (ld [.n, .f 1] (vp m) H fun v => ld [.i 1 (vi i)] v H k) Q := by
 have h' : ac (wM m μ at' i * R) H := by rw [← f.eq]; exact h
 obtain ⟨⟨al, a, v, e⟩, h'⟩ := ac.ex.1 h';rw [ar, ac.pu] at h';obtain ⟨hp, h'⟩ := h';dsimp only at hp h';refine aq h' ae rfl ?_;obtain ⟨p1, _, p4, p5⟩ := hp;refine V5 (s := v) h' p5 (v := vu (μ.V at')) ?_ hk;subst p4;rw [yR at' al p5];simp [FY, p1]
theorem V7 {k : AH → OV} {v : Nat} (h : ac P H) [f : Xi P m i μ at' R] (hk : ∀ H', ac (bm m (μ.put at' v) * R) H' → wp (k H') Q) : wp (ld [.n, .f 1] (vp m) H fun s => st 1 [.i 1 (vi i)] s (vu v) H k) Q := by
 have h0 : ac (wM m μ at' i * R) H := by rw [← f.eq]; exact h
 obtain ⟨⟨al, a, s, e⟩, h1⟩ := ac.ex.1 h0;rw [ar, ac.pu] at h1;obtain ⟨hp, h'⟩ := h1
 clear h0
 dsimp only at hp h';refine aq h' ae rfl ?_;obtain ⟨p1, p2, p4, p5⟩ := hp;subst p4;refine CT (s := s) (g := 0) ((at', v) : bC × Nat) h' p5 (.inl ⟨rfl, rfl⟩) rfl (by omega) rfl rfl fun H' h2 => hk H' ?_;have hat := yR at' al p5;have hk2 := X1 a al (gc al at') p5 v;rw [hat] at hk2;rw [← BN at' v al p5] at h2 hk2;rw [← hk2] at h2;refine Aa (al := lA al at' v) (a := a) (v := s) (e := e) ⟨fun l => ?_, ?_⟩ h2
 ·rw [BM, p1]
 ·rw [BN at' v al p5, vx]; exact p2
theorem X8 {x y : Value} {op : BinOp} {cl : TCls} {k : AH → OV} {v : Nat} (h : ac P H) [f : Xi P m i μ at' R] (hb : ak cl op x y = some (vu v)) (hk : ∀ H', ac (bm m (μ.put at' v) * R) H' → wp (k H') Q) :
 wp (ld [.n, .f 1] (vp m) H fun s => (ak cl op x y).bind fun z => st 1 [.i 1 (vi i)] s z H k) Q := by
 rw [hb];exact V7 h hk
theorem abK (h : ac P H) [f : Xi P m i μ at' R] : ac (bm m μ * R) H := by
 have h' : ac (wM m μ at' i * R) H := by rw [← f.eq]; exact h
 obtain ⟨⟨al, a, s, e⟩, h'⟩ := ac.ex.1 h';rw [ar, ac.pu] at h';obtain ⟨hp, h'⟩ := h';exact Aa (al := al) (a := a) (v := s) (e := e) ⟨hp.1, hp.2.1⟩ h'
end
theorem pE (m : Nat) (μ : Mu) (who : Int) (at' : bC) (hE : μ.N < 1099511627000) : Sp cX [vp m, vi who, dl at'] (bm m μ) (fun _ : Unit => vu (μ.V at')) (fun _ => bm m (μ.acc who 1 at')) := by
 refine aY (xM _ _ _) fun R H h => ?_
 repeat (first | refine aZ ‹_› fun _ _ _ => ?_ | refine aU ‹_› ?_)
 refine ag (by assumption) (Q9 m μ who 1 at' (by omega)) fun _ _ _ => ?_
 repeat refine aU ‹_› ?_
 refine ag (by assumption) (Ft m (μ.log who 1 at') at' (by simp; omega)) fun i H3 h3 => ?_;refine V6 h3 ?_;exact ap ⟨(), rfl, ac.to (abK (m := m) (i := i) h3)⟩
theorem v9 (m : Nat) (μ : Mu) (who : Int) (at' : bC) (v : Nat) (hE : μ.N < 1099511627000) : Sp eM [vp m, vi who, dl at', vu v] (bm m μ) (fun _ : Unit => .tuple #[]) (fun _ => bm m ((μ.acc who 2 at').put at' v)) := by
 refine aY (vO _ _ _ _) fun R H h => ?_
 repeat (first | refine aZ ‹_› fun _ _ _ => ?_ | refine aU ‹_› ?_)
 refine ag (by assumption) (Q9 m μ who 2 at' (by omega)) fun _ _ _ => ?_
 repeat refine aU ‹_› ?_
 refine ag (by assumption) (Ft m (μ.log who 2 at') at' (by simp; omega)) fun i H3 h3 => ?_;refine V7 (at' := at') h3 fun H4 h4 => ?_;exact ap ⟨(), rfl, h4.to⟩
theorem Aw (m : Nat) (μ : Mu) (who : Int) (at' : bC) (was now : Nat) (hE : μ.N < 1099511627000) :
 Sp fy [vp m, vi who, dl at', vu was, vu now] (bm m μ) (fun _ : Unit => vb (decide (μ.V at' = was))) (fun _ => bm m (μ.swp who at' was now)) := by
 refine aY (xN _ _ _ _ _) fun R H h => ?_
 repeat (first | refine aZ ‹_› fun _ _ _ => ?_ | refine aU ‹_› ?_)
 refine ag (by assumption) (Ft m μ at' (by omega)) fun i H3 h3 => ?_;refine V6 h3 ?_;refine aa (Cn) ?_;unfold Mu.swp Mu.swap;refine bF (fun hc => ?_) (fun hc => ?_)
 ·have hc : ¬ μ.V at' = was := by simpa using hc
  rw [if_neg hc, hZ hc]
  repeat refine aU ‹_› ?_
  refine ag (by assumption) (Zk m { μ with N := μ.N + 1 } at' i who 4 at' (by simp; omega)) fun _ H4 h4 => ?_;exact ap ⟨(), rfl, ac.to (abK (m := m) (i := i) h4)⟩
 ·have hc : μ.V at' = was := by simpa using hc
  rw [if_pos hc, ia hc]
  repeat refine aU ‹_› ?_
  refine ag (by assumption) (Zk m { μ with N := μ.N + 1 } at' i who 3 at' (by simp; omega)) fun _ H4 h4 => ?_;refine V7 (at' := at') h4 fun H5 h5 => ?_;exact ap ⟨(), rfl, h5.to⟩
theorem Ne (m : Nat) (μ : Mu) (who : Int) (at' : bC) (n : Nat) (hE : μ.N < 1099511627000) :
 Sp ji [vp m, vi who, dl at', vu n] (bm m μ) (fun _ : Unit => vu (μ.V at')) (fun _ => bm m ((μ.acc who 3 at').put at' ((μ.V at' + n) % 18446744073709551616))) := by
 refine aY (Ao _ _ _ _) fun R H h => ?_
 repeat (first | refine aZ ‹_› fun _ _ _ => ?_ | refine aU ‹_› ?_)
 refine ag (by assumption) (Ft m μ at' (by omega)) fun i H3 h3 => ?_
 repeat refine aU ‹_› ?_
 refine ag (by assumption) (Zk m { μ with N := μ.N + 1 } at' i who 3 at' (by simp; omega)) fun _ H4 h4 => ?_;refine V6 h4 ?_;refine X8 (at' := at') h4 Ym fun H5 h5 => ?_;exact ap ⟨(), rfl, h5.to⟩
def bZ (w : Nat) : Bool := decide (w / 2305843009213693952 < 3)
def ay (w : Nat) : Nat := if bZ w then w % 2305843009213693952 else 0
def aH (w : Nat) : Int := if bZ w then (w / 2305843009213693952 : Nat) else -1
def aL (w : Nat) : Nat → Option Nat
 | 0 => if bZ w ∧ aH w ≠ 2 ∧ ay w < 2305843009213693951 then some (ay w + 1 + 2305843009213693952) else none
 | 1 => if aH w = 1 then some (ay w) else none
 | 2 => if aH w = 0 then some (ay w + 4611686018427387904) else none
 | _ => none
def JD : Option Nat → Value
 | some n => .tuple #[vu n, vb true]
 | none => .tuple #[vw 0, vb false]
theorem sO (w : Nat) : Sp ix [vu w] emp (fun _ : Unit => vb (bZ w)) (fun _ => emp) := by
 refine aY (BK _) fun R H h => ?_;refine aa (YP) ?_;refine aa (pY) ?_;refine ap ⟨(), ?_, h⟩
 congr 1
 unfold bZ
 congr 1
 apply propext;omega
theorem jb (w : Nat) (hw : w < 18446744073709551616) : Sp dt [vu w] emp (fun _ : Unit => vu (ay w)) (fun _ => emp) := by
 refine aY (BJ _) fun R H h => ?_;refine ag (by assumption) (sO w) fun _ _ _ => ?_;refine aa (nN) ?_;refine bF (fun hc => ?_) (fun hc => ?_)
 ·have hc : bZ w = false := by simpa using hc
  refine ap ⟨(), by simp [ay, hc], ac.to (by assumption)⟩
 ·have hc : bZ w = true := by simpa using hc
  refine aa (Z7 hw) ?_;refine ap ⟨(), by simp [ay, hc], ac.to (by assumption)⟩
theorem nP (w : Nat) (hw : w < 18446744073709551616) : Sp fP [vu w] emp (fun _ : Unit => vi (aH w)) (fun _ => emp) := by
 refine aY (BL _) fun R H h => ?_;refine ag (by assumption) (sO w) fun _ _ _ => ?_;refine aa (nN) ?_;refine bF (fun hc => ?_) (fun hc => ?_)
 ·have hc : bZ w = false := by simpa using hc
  refine ap ⟨(), by simp [aH, hc], ac.to (by assumption)⟩
 ·have hc : bZ w = true := by simpa using hc
  refine aa (YP) ?_;refine aa (fF (by omega)) ?_;refine ap ⟨(), by simp [aH, hc], ac.to (by assumption)⟩
theorem mX (w : Nat) (hw : w < 18446744073709551616) : Sp fv [vu w] emp (fun _ : Unit => .tuple #[vu (ay w), vi (aH w), vb (bZ w)]) (fun _ => emp) := by
 refine aY (EL _) fun R H h => ?_;refine aa (aa3) ?_;refine aa (aaZ hw) ?_;refine aa (fF (by omega)) ?_;refine aa (C2) ?_;refine bF (fun hc => ?_) (fun hc => ?_)
 ·have hc : bZ w = false := by simp at hc; simp [bZ]; omega
  refine ap ⟨(), by simp [ay, aH, hc], h.to⟩
 ·have hc : bZ w = true := by simp at hc; simp [bZ]; omega
  refine ap ⟨(), by simp [ay, aH, hc], h.to⟩
theorem Q5 (n : Nat) (s : Nat) (hn : n ≤ 2305843009213693951) (hs : s < 3) : Sp pr [vu n, vi (s : Int)] emp (fun _ : Unit => .tuple #[vu (s * 2305843009213693952 + n), vb true]) (fun _ => emp) := by
 refine aY (Fq _ _) fun R H h => ?_;refine aa (jQ (by omega)) ?_;refine gt ?_;refine aa (Bv (b4 ?_)) ?_
 ·omega
 refine gt ?_;refine aa (Bv (nW ?_)) ?_
 ·omega
 refine gt ?_;refine bF (fun hc => by cases hc) (fun _ => ?_);refine aa (da (by omega) (by omega)) ?_
 have e1 : ak .other .shl (vu (s : Int).toNat) (vw 61) = some (vu (s * 2305843009213693952)) := by
  have := BP (cl := .other) (a := s) (k := .u64) (n := 61) (by omega);simp only [Nat.reducePow] at this;rw [Nat.mod_eq_of_lt (by omega)] at this
  simpa using this
 refine aa (e1) ?_
 have e2 : ak .other .or (vu (s * 2305843009213693952)) (vu n) = some (vu (s * 2305843009213693952 + n)) := by
  rw [RC (by omega) (by omega)]
  congr 3
  have := Nat.two_pow_add_eq_or_of_lt (i := 61) (b := n) (by simp only [Nat.reducePow]; omega) s;simp only [Nat.reducePow] at this;rw [Nat.mul_comm, ← this]
 refine aa (e2) ?_;exact ap ⟨(), rfl, h.to⟩
theorem An (n : Nat) (s : Nat) (hn : n ≤ 2305843009213693951) (hs : s < 3) : Sp kY [vu n, vi (s : Int)] emp (fun _ : Unit => .tuple #[vu (s * 2305843009213693952 + n), vb true]) (fun _ => emp) := by
 refine aY (GQ _ _) fun R H h => ?_;refine aa (jQ (by omega)) ?_;refine gt ?_;refine aa (Bv (b4 ?_)) ?_
 ·omega
 refine gt ?_;refine aa (Bv (jQ ?_)) ?_
 ·omega
 refine gt ?_;refine bF (fun hc => by cases hc) (fun _ => ?_);refine aa (da (by omega) (by omega)) ?_
 have hs2 : (s : Int).toNat = s := by omega
 rw [hs2];refine aa (aaU (by omega)) ?_;refine aa (eN (by omega)) ?_;exact ap ⟨(), rfl, h.to⟩
theorem d7 (w : Nat) : ay w ≤ 2305843009213693951 := by unfold ay; split <;> omega
theorem YU {w : Nat} (h : bZ w = true ∧ aH w ≠ 2 ∧ ay w < 2305843009213693951) : aL w 0 = some (ay w + 1 + 2305843009213693952) := if_pos h
theorem Hq {w : Nat} (h : ¬ (bZ w = true ∧ aH w ≠ 2 ∧ ay w < 2305843009213693951)) : aL w 0 = none := if_neg h
theorem abC {w : Nat} (h : aH w = 1) : aL w 1 = some (ay w) := if_pos h
theorem abB {w : Nat} (h : ¬ aH w = 1) : aL w 1 = none := if_neg h
theorem abE {w : Nat} (h : aH w = 0) : aL w 2 = some (ay w + 4611686018427387904) := if_pos h
theorem abD {w : Nat} (h : ¬ aH w = 0) : aL w 2 = none := if_neg h
theorem Q4 (w : Nat) (hw : w < 18446744073709551616) : Sp lG [vu w] emp (fun _ : Unit => JD (aL w 0)) (fun _ => emp) := by
 refine aY (Fp _) fun R H h => ?_;have hcl := d7 w;refine ag (by assumption) (sO w) fun _ _ _ => ?_;refine aa (nN) ?_
 by_cases hr : bZ w = true
 ·rw [hr, Bool.not_true]
  refine gt ?_;refine ag (by assumption) (nP w hw) fun _ _ _ => ?_;refine aa (Bv (dE)) ?_
  by_cases hs : aH w = 2
  ·rw [beq_iff_eq.2 hs]
   refine gt ?_;refine bF (fun _ => ?_) (fun hc => by cases hc);exact ap ⟨(), by rw [Hq (fun h => h.2.1 hs)]; rfl, ac.to (by assumption)⟩
  ·rw [beq_eq_false_iff_ne.2 hs]
   refine gt ?_;refine ag (by assumption) (jb w hw) fun _ _ _ => ?_;refine aa (Bv (dE)) ?_;refine gt ?_;refine bF (fun hc => ?_) (fun hc => ?_)
   ·have hc : (ay w : Int) = 2305843009213693951 := by simpa using hc
    exact ap ⟨(), by rw [Hq (fun h => by have := h.2.2; omega)]; rfl, ac.to (by assumption)⟩
   ·have hc : ¬ (ay w : Int) = 2305843009213693951 := by simpa using hc
    have ht := YU (w := w) ⟨hr, hs, by omega⟩;refine ag (by assumption) (jb w hw) fun _ _ _ => ?_;refine aa (eN (b := 1) (by omega)) ?_;refine ag (by assumption) (Q5 (ay w + 1) 1 (by omega) (by omega)) fun _ _ _ => ?_;refine aa rfl ?_;refine aa rfl ?_;refine ap ⟨(), ?_, ac.to (by assumption)⟩;rw [ht];simp [JD];omega
 ·have hr : bZ w = false := by simpa using hr
  rw [hr, Bool.not_false];refine gt ?_;refine bF (fun _ => ?_) (fun hc => by cases hc);exact ap ⟨(), by rw [Hq (fun h => by rw [hr] at h; cases h.1)]; rfl, ac.to (by assumption)⟩
theorem JY (w how : Nat) (hw : w < 18446744073709551616) (hh : how < 3) : Sp nD [vu w, vi (how : Int)] emp (fun _ : Unit => JD (aL w how)) (fun _ => emp) := by
 refine aY (BC _ _) fun R H h => ?_;have hcl := d7 w;refine ag (by assumption) (mX w hw) fun _ H1 h1 => ?_;refine aa rfl ?_;refine aa rfl ?_;refine aa rfl ?_;refine aj (vL _ _ _ _ _ _ H1) ?_;refine aa (nN) ?_;refine bF (fun hc => ?_) (fun hc => ?_)
 ·have hc : bZ w = false := by simpa using hc
  have : aL w how = none := by
   match how, hh with
   | 0, _ => simp [aL, hc]
   | 1, _ => simp [aL, aH, hc]
   | 2, _ => simp [aL, aH, hc]
  exact ap ⟨(), by rw [this]; rfl, ac.to (by assumption)⟩
 ·have hr : bZ w = true := by simpa using hc
  match how, hh with
  | 0, _ =>
   refine aa (bv rfl) ?_;refine gt ?_;refine aa (Bv (yd)) ?_;refine gt ?_
   by_cases hs : aH w = 2
   ·rw [bne_eq_false_iff_eq.2 hs]
    refine gt ?_;refine bF (fun hc => by cases hc) (fun _ => ?_);refine aa (aR ?_) ?_
    ·omega
    refine gt ?_;refine bF (fun hc => by cases hc) (fun _ => ?_);refine aa (aR ?_) ?_
    ·omega
    refine gt ?_;refine bF (fun hc => by cases hc) (fun _ => ?_);refine aj (fS _ _ H1) ?_;exact ap ⟨(), by rw [Hq (fun h => h.2.1 hs)]; rfl, ac.to (by assumption)⟩
   ·rw [bne_iff_ne.2 hs]
    refine gt ?_;refine aa (Bv (pY)) ?_;refine gt ?_;refine bF (fun hc => ?_) (fun hc => ?_)
    ·have hc : (ay w : Int) < 2305843009213693951 := by simpa using hc
     have ht := YU (w := w) ⟨hr, hs, by omega⟩;refine aa (eN (b := 1) (by omega)) ?_;refine ag (by assumption) (An (ay w + 1) 1 (by omega) (by omega)) fun _ _ _ => ?_;refine aa rfl ?_;refine aa rfl ?_;refine ap ⟨(), ?_, ac.to (by assumption)⟩;rw [ht];simp [JD];omega
    ·have hc : ¬ (ay w : Int) < 2305843009213693951 := by simpa using hc
     refine aa (aR ?_) ?_
     ·omega
     refine gt ?_;refine bF (fun hc => by cases hc) (fun _ => ?_);refine aa (aR ?_) ?_
     ·omega
     refine gt ?_;refine bF (fun hc => by cases hc) (fun _ => ?_);refine aj (fS _ _ H1) ?_;exact ap ⟨(), by rw [Hq (fun h => by have := h.2.2; omega)]; rfl, ac.to (by assumption)⟩
  | 1, _ =>
   refine aa (aR ?_) ?_
   ·omega
   refine gt ?_;refine bF (fun hc => by cases hc) (fun _ => ?_);refine aa (bv rfl) ?_;refine gt ?_;refine aa (Bv (dE)) ?_;refine gt ?_;refine bF (fun hc => ?_) (fun hc => ?_)
   ·have hc : aH w = 1 := by simpa using hc
    refine ag (by assumption) (An (ay w) 0 (by omega) (by omega)) fun _ _ _ => ?_;refine aa rfl ?_;refine aa rfl ?_;exact ap ⟨(), by rw [abC hc]; simp [JD], ac.to (by assumption)⟩
   ·have hc : ¬ aH w = 1 := by simpa using hc
    refine aa (aR ?_) ?_
    ·omega
    refine gt ?_;refine bF (fun hc => by cases hc) (fun _ => ?_);refine aj (fS _ _ H1) ?_;exact ap ⟨(), by rw [abB hc]; rfl, ac.to (by assumption)⟩
  | 2, _ =>
   refine aa (aR ?_) ?_
   ·omega
   refine gt ?_;refine bF (fun hc => by cases hc) (fun _ => ?_);refine aa (aR ?_) ?_
   ·omega
   refine gt ?_;refine bF (fun hc => by cases hc) (fun _ => ?_);refine aa (bv rfl) ?_;refine gt ?_;refine aa (Bv (dE)) ?_;refine gt ?_;refine bF (fun hc => ?_) (fun hc => ?_)
   ·have hc : aH w = 0 := by simpa using hc
    refine ag (by assumption) (An (ay w) 2 (by omega) (by omega)) fun _ _ _ => ?_;refine aa rfl ?_;refine aa rfl ?_;refine ap ⟨(), ?_, ac.to (by assumption)⟩;rw [abE hc];simp [JD];omega
   ·have hc : ¬ aH w = 0 := by simpa using hc
    refine aj (fS _ _ H1) ?_;exact ap ⟨(), by rw [abD hc]; rfl, ac.to (by assumption)⟩
theorem wV (s : Int) : Sp jj [vi s] emp (fun _ : Unit => dl (8, s, 0)) (fun _ => emp) := by
 refine aY (AX _) fun R H h => ?_
 repeat (first | refine bj ‹_› fun _ _ _ => ?_ | refine aU ‹_› ?_ | refine f7 ‹_› rfl rfl fun _ _ => ?_ | refine j9 ?_)
 exact ap ⟨(), rfl, ac.to (by assumption)⟩
theorem AY (s i : Int) : Sp j3 [vi s, vi i] emp (fun _ : Unit => dl (10, s, i)) (fun _ => emp) := by
 refine aY (BH _ _) fun R H h => ?_
 repeat (first | refine bj ‹_› fun _ _ _ => ?_ | refine aU ‹_› ?_ | refine f7 ‹_› rfl rfl fun _ _ => ?_ | refine j9 ?_)
 exact ap ⟨(), rfl, ac.to (by assumption)⟩
theorem dw (k a b : Int) : Sp bL [vi k, vi a, vi b] emp (fun _ : Unit => dl (k, a, b)) (fun _ => emp) := by
 refine aY (JZ _ _ _) fun R H h => ?_
 repeat (first | refine bj ‹_› fun _ _ _ => ?_ | refine aU ‹_› ?_ | refine f7 ‹_› rfl rfl fun _ _ => ?_ | refine j9 ?_)
 exact ap ⟨(), rfl, ac.to (by assumption)⟩
def tab (t m : Nat) (sh sl : Nat) : SP := blk t (.cells false [vp m, vi sh, vi sl])
section
variable (t m : Nat) (sh sl : Nat) (μ : Mu) (who s i : Int)
theorem Hi : Sp f5 [vp t] (tab t m sh sl) (fun _ : Unit => vi sl) (fun _ => tab t m sh sl) := by
 refine aY (pL _) fun R H h => ?_;unfold tab at h ⊢
 repeat refine aq ‹_› ae rfl ?_
 exact ap ⟨(), rfl, ac.to (by assumption)⟩
theorem KB (hE : μ.N < 1099511627000) : Sp gR [vp t, vi who, vi s] (tab t m sh sl * a8 m μ) (fun _ : Unit => vb (decide (μ.V (8, s, 0) = 0))) (fun _ => tab t m sh sl * a8 m (μ.swp who (8, s, 0) 0 1)) := by
 refine aY (qU _ _ _) fun R H h => ?_;unfold tab at h ⊢
 repeat refine aq ‹_› ae rfl ?_
 refine ag (by assumption) (wV s) fun _ _ _ => ?_
 repeat refine aG ‹_› ‹_› rfl ?_
 refine ag (by assumption) (JM m μ who (8, s, 0) 0 1 (by omega)) fun _ _ _ => ?_;exact ap ⟨(), rfl, ac.to (by assumption)⟩
theorem Fh (hE : μ.N < 1099511627000) : Sp fA [vp t, vi who, vi s] (tab t m sh sl * a8 m μ) (fun _ : Unit => .tuple #[]) (fun _ => tab t m sh sl * a8 m ((μ.acc who 2 (8, s, 0)).put (8, s, 0) 0)) := by
 refine aY (oy _ _ _) fun R H h => ?_;unfold tab at h ⊢
 repeat refine aq ‹_› ae rfl ?_
 refine ag (by assumption) (wV s) fun _ _ _ => ?_
 repeat refine aG ‹_› ‹_› rfl ?_
 refine ag (by assumption) (ED m μ who (8, s, 0) 0 (by omega)) fun _ _ _ => ?_;exact ap ⟨(), rfl, ac.to (by assumption)⟩
theorem U1 (hE : μ.N < 1099511627000) : Sp i1 [vp t, vi who, vi s] (tab t m sh sl * bm m μ) (fun _ : Unit => vb (decide (μ.V (8, s, 0) = 0))) (fun _ => tab t m sh sl * bm m (μ.swp who (8, s, 0) 0 1)) := by
 refine aY (um _ _ _) fun R H h => ?_;unfold tab at h ⊢
 repeat refine aq ‹_› ae rfl ?_
 refine ag (by assumption) (dw 8 s 0) fun _ _ _ => ?_
 repeat refine aG ‹_› ‹_› rfl ?_
 refine ag (by assumption) (Aw m μ who (8, s, 0) 0 1 (by omega)) fun _ _ _ => ?_;exact ap ⟨(), rfl, ac.to (by assumption)⟩
theorem J0 (hE : μ.N < 1099511627000) : Sp gQ [vp t, vi who, vi s] (tab t m sh sl * bm m μ) (fun _ : Unit => .tuple #[]) (fun _ => tab t m sh sl * bm m ((μ.acc who 2 (8, s, 0)).put (8, s, 0) 0)) := by
 refine aY (qT _ _ _) fun R H h => ?_;unfold tab at h ⊢
 repeat refine aq ‹_› ae rfl ?_
 refine ag (by assumption) (dw 8 s 0) fun _ _ _ => ?_
 repeat refine aG ‹_› ‹_› rfl ?_
 refine ag (by assumption) (v9 m μ who (8, s, 0) 0 (by omega)) fun _ _ _ => ?_;exact ap ⟨(), rfl, ac.to (by assumption)⟩
def lR (v : Nat) : Value := if v = 0 then .tuple #[vi 0, vi 0, vb false] else .tuple #[vi ((v / 4294967296 : Nat) - 1), vi (v % 4294967296 : Nat), vb true]
theorem Hh (hE : μ.N < 1099511627000) (hV : μ.V (10, s, i) < 18446744073709551616) :
 Sp gS [vp t, vi who, vi s, vi i] (tab t m sh sl * a8 m μ) (fun _ : Unit => lR (μ.V (10, s, i))) (fun _ => tab t m sh sl * a8 m (μ.acc who 1 (10, s, i))) := by
 refine aY (qV _ _ _ _) fun R H h => ?_;unfold tab at h ⊢
 repeat refine aq ‹_› ae rfl ?_
 refine ag (by assumption) (AY s i) fun _ _ _ => ?_
 repeat refine aG ‹_› ‹_› rfl ?_
 refine ag (by assumption) (vI m μ who (10, s, i) (by omega)) fun _ _ _ => ?_;refine aa (Sb (b := 0)) ?_;refine bF (fun hc => ?_) (fun hc => ?_)
 ·have hc : μ.V (10, s, i) = 0 := by simpa using hc
  refine ap ⟨(), by rw [lR, if_pos hc], ac.to (by assumption)⟩
 ·have hc : ¬ μ.V (10, s, i) = 0 := by simpa using hc
  refine aa (aa8) ?_;refine aa (fF (by omega)) ?_;refine aa (mp (by omega) (by omega)) ?_;refine aa (Z6 hV) ?_;refine aa (fF (by omega)) ?_;refine ap ⟨(), by rw [lR, if_neg hc], ac.to (by assumption)⟩
theorem Qj (hE : μ.N < 1099511627000) (hV : μ.V (10, s, i) < 18446744073709551616) :
 Sp i3 [vp t, vi who, vi s, vi i] (tab t m sh sl * bm m μ) (fun _ : Unit => lR (μ.V (10, s, i))) (fun _ => tab t m sh sl * bm m (μ.acc who 1 (10, s, i))) := by
 refine aY (uo _ _ _ _) fun R H h => ?_;unfold tab at h ⊢
 repeat refine aq ‹_› ae rfl ?_
 refine ag (by assumption) (dw 10 s i) fun _ _ _ => ?_
 repeat refine aG ‹_› ‹_› rfl ?_
 refine ag (by assumption) (pE m μ who (10, s, i) (by omega)) fun _ _ _ => ?_;refine aa (Sb (b := 0)) ?_;refine bF (fun hc => ?_) (fun hc => ?_)
 ·have hc : μ.V (10, s, i) = 0 := by simpa using hc
  refine ap ⟨(), by rw [lR, if_pos hc], ac.to (by assumption)⟩
 ·have hc : ¬ μ.V (10, s, i) = 0 := by simpa using hc
  refine aa (aaY hV) ?_;refine aa (fF (by omega)) ?_;refine aa (mp (by omega) (by omega)) ?_;refine aa (aa2) ?_;refine aa (fF (by omega)) ?_;refine ap ⟨(), by rw [lR, if_neg hc], ac.to (by assumption)⟩
end
def dM (v n : Int) : Int := (v % 18446744073709551616) % n
theorem eZ {v n : Int} (h : 0 < n) : 0 ≤ dM v n ∧ dM v n < n := ⟨Int.emod_nonneg _ (by omega), Int.emod_lt_of_pos _ h⟩
theorem ci (v n : Int) (h0 : 0 < n) (h1 : n < 9223372036854775808) : Sp bd [vi v, vi n] emp (fun _ : Unit => vi (dM v n)) (fun _ => emp) := by
 refine aY (GL _ _) fun R H h => ?_
 have e1 : bO (some .u64) (vi v) = some (vu (v % 18446744073709551616).toNat) := by
  simp only [bO];rw [Be];have : 0 ≤ v % 18446744073709551616 := Int.emod_nonneg _ (by omega);show _ = some (Value.int .u64 (((v % 18446744073709551616).toNat : Nat) : Int));rw [Int.toNat_of_nonneg this]
 refine aa (e1) ?_;refine aa (da (by omega) (by omega)) ?_;refine aa (g7 (by omega)) ?_;have hm := eZ (v := v) h0
 have e2 : (((v % 18446744073709551616).toNat % n.toNat : Nat) : Int) = dM v n := by
  have : 0 ≤ v % 18446744073709551616 := Int.emod_nonneg _ (by omega);unfold dM;rw [Int.natCast_emod, Int.toNat_of_nonneg this, Int.toNat_of_nonneg (by omega)]
 refine aa (fF (by omega)) ?_;rw [e2];exact ap ⟨(), rfl, ac.to (by assumption)⟩
structure eR where
 sh : Int
 sl : Int
 wk : Int
 wd : Int
 un : Nat
abbrev eR.cells (c : eR) : List Value := [vi c.sh, vi c.sl, vi c.wk, vi c.wd, vu c.un]
structure Cl where
 op : Int
 flow : Int
 a : Int
 b : Int
abbrev Cl.cells (x : Cl) : List Value := [vi x.op, vi x.flow, vi x.a, vi x.b]
instance : Enc Cl.cells 4 := ⟨fun _ => rfl, fun _ => rfl, by omega⟩
structure Sv where
 a : Option Addr
 n : Nat
 c : Nat
abbrev Sv.v (s : Sv) : Value := .slice s.a s.n s.c
abbrev abX (s : Sv) : List Value := [.slice s.a s.n s.c]
instance : Enc abX 1 := ⟨fun _ => rfl, fun _ => rfl, by omega⟩
def bM (c : eR) : Bool := decide (1 ≤ c.sh ∧ c.sh ≤ 4 ∧ 1 ≤ c.sl ∧ c.sl ≤ 4 ∧ 1 ≤ c.wk ∧ c.wk ≤ 6 ∧ 0 ≤ c.wd ∧ c.wd ≤ 40 ∧ 1 ≤ c.un ∧ c.un ≤ 4611686018427387904)
theorem bE {c : eR} : bM c = true ↔ (1 ≤ c.sh ∧ c.sh ≤ 4 ∧ 1 ≤ c.sl ∧ c.sl ≤ 4 ∧ 1 ≤ c.wk ∧ c.wk ≤ 6 ∧ 0 ≤ c.wd ∧ c.wd ≤ 40 ∧ 1 ≤ c.un ∧ c.un ≤ 4611686018427387904) := by unfold bM; exact decide_eq_true_iff
theorem kE {c : eR} (h : ¬ (1 ≤ c.sh ∧ c.sh ≤ 4 ∧ 1 ≤ c.sl ∧ c.sl ≤ 4 ∧ 1 ≤ c.wk ∧ c.wk ≤ 6 ∧ 0 ≤ c.wd ∧ c.wd ≤ 40 ∧ 1 ≤ c.un ∧ c.un ≤ 4611686018427387904)) : bM c = false := by unfold bM; exact hZ h
theorem fK (x a b : Int) : Sp dS [vi x, vi a, vi b] emp (fun _ : Unit => vb (decide (a ≤ x ∧ x ≤ b))) (fun _ => emp) := by
 refine aY (xw _ _ _) fun R H h => ?_
 by_cases h1 : a ≤ x
 ·refine aa (wG h1) ?_
  refine gs ?_
  by_cases h2 : x ≤ b
  ·refine aa (YG h2) ?_
   refine gs ?_;rw [ia ⟨h1, h2⟩];exact ap ⟨(), rfl, ac.to (by assumption)⟩
  ·refine aa (YF h2) ?_
   refine gs ?_;rw [hZ (fun h => h2 h.2)];exact ap ⟨(), rfl, ac.to (by assumption)⟩
 ·refine aa (nW h1) ?_
  refine gs ?_;rw [hZ (fun h => h1 h.1)];exact ap ⟨(), rfl, ac.to (by assumption)⟩
theorem GA (c : eR) : Sp l7 [.agg (eR.cells c).toArray] emp (fun _ : Unit => vb (bM c)) (fun _ => emp) := by
 refine aY (Ag _) fun R H h => ?_;refine aZ h fun b H1 h1 => ?_;refine aq h1 aD rfl ?_;refine ag h1 (fK c.sh 1 4) fun _ K0 k0 => ?_
 by_cases g0 : (1 : Int) ≤ c.sh ∧ c.sh ≤ 4
 case neg =>
  rw [hZ g0];refine gs ?_;rw [kE (by omega)];exact ap ⟨(), rfl, ac.to (by assumption)⟩
 rw [ia g0];refine gs ?_;refine aq k0 aD rfl ?_;refine gs ?_;refine ag k0 (fK c.sl 1 4) fun _ K1 k1 => ?_
 by_cases g1 : (1 : Int) ≤ c.sl ∧ c.sl ≤ 4
 case neg =>
  rw [hZ g1];refine gs ?_;rw [kE (by omega)];exact ap ⟨(), rfl, ac.to (by assumption)⟩
 rw [ia g1];refine gs ?_;refine aq k1 aD rfl ?_;refine gs ?_;refine ag k1 (fK c.wk 1 6) fun _ K2 k2 => ?_
 by_cases g2 : (1 : Int) ≤ c.wk ∧ c.wk ≤ 6
 case neg =>
  rw [hZ g2];refine gs ?_;rw [kE (by omega)];exact ap ⟨(), rfl, ac.to (by assumption)⟩
 rw [ia g2];refine gs ?_;refine aq k2 aD rfl ?_;refine gs ?_;refine ag k2 (fK c.wd 0 40) fun _ K3 k3 => ?_
 by_cases g3 : (0 : Int) ≤ c.wd ∧ c.wd ≤ 40
 case neg =>
  rw [hZ g3];refine gs ?_;rw [kE (by omega)];exact ap ⟨(), rfl, ac.to (by assumption)⟩
 rw [ia g3];refine gs ?_;refine aq k3 aD rfl ?_;refine gs ?_
 by_cases g4 : (1 : Int) ≤ c.un
 case neg =>
  refine aa (nW g4) ?_;refine gs ?_;rw [kE (by omega)];exact ap ⟨(), rfl, ac.to (by assumption)⟩
 refine aa (wG g4) ?_;refine gs ?_;refine aq k3 aD rfl ?_;refine gs ?_
 by_cases g5 : (c.un : Int) ≤ 4611686018427387904
 case neg =>
  refine aa (YF g5) ?_;refine gs ?_;rw [kE (by omega)];exact ap ⟨(), rfl, ac.to (by assumption)⟩
 refine aa (YG g5) ?_;refine gs ?_;rw [bE.2 (by omega)];exact ap ⟨(), rfl, ac.to (by assumption)⟩
theorem Bd (w : Int) : Sp nE [vi w] emp (fun x : Int => vi x) (fun _ => emp) := by
 refine aY (BI _) fun R H h => ?_;refine aa (jT) ?_;refine aa (jU) ?_;exact ap ⟨_, rfl, h⟩
theorem Q3 (w : Int) : Sp pp [vi w] emp (fun b : Nat => vp b) (fun _ => emp) := by
 refine aY (Fo _) fun R H h => ?_;refine ag h (Bd w) fun x H1 h1 => ?_;refine uM h1 fun mb H2 h2 => ?_;refine Hu rfl ?_;refine aZ h2 fun b H3 h3 => ?_;exact ap ⟨b, rfl, h3.to⟩
theorem Ue : Sp r6 [] emp (fun b : Nat => vp b) (fun _ => emp) := by
 refine aY Gn fun R H h => ?_;refine uM h fun mb H2 h2 => ?_;refine j9 ?_;refine aZ h2 fun b H3 h3 => ?_;exact ap ⟨b, rfl, h3.to⟩
theorem QG (w : Int) : Sp pk [vi w] emp (fun b : Nat => vp b) (fun _ => emp) := by
 refine aY (Fb _) fun R H h => ?_;refine ag h (Q3 w) fun x H1 h1 => ?_;refine ag h1 Ue fun y H2 h2 => ?_;refine j9 ?_;refine aZ h2 fun b H3 h3 => ?_;exact ap ⟨b, rfl, h3.to⟩
theorem UZ (m : Nat) (s : Int) : Sp sa [vp m, vi s] emp (fun b : Nat => vp b) (fun _ => emp) := by
 refine aY (GN _ _) fun R H h => ?_;refine aa (jT) ?_;refine aa (jU) ?_;refine uM h fun mb H2 h2 => ?_;refine uM h2 fun mc H3 h3 => ?_;refine j9 ?_;refine aZ h3 fun b H4 h4 => ?_;exact ap ⟨b, rfl, h4.to⟩
structure Lf where
 k : Int
 i : Int
 b : Bool
abbrev Lf.cells (x : Lf) : List Value := [vw x.k, vi x.i, vb x.b]
instance : Enc Lf.cells 3 := ⟨fun _ => rfl, fun _ => rfl, by omega⟩
def AZ (t : Nat) (lv : Value) (s : Nat) (nv : Value) (m : List Int) : SP := blk t (.cells false [lv, vi s, nv]) * ts 1 dC nv m
theorem VN (n : Int) : Sp sj [vi n] emp (fun b : Nat => vp b) (fun _ => emp) := by
 refine aY (Hk _) fun R H h => ?_;refine aa (jT) ?_;refine aa (jU) ?_;obtain ⟨k, hk⟩ : ∃ k : Nat, min (max n 1) 16 = k := ⟨(min (max n 1) 16).toNat, by omega⟩;rw [hk]
 have hk1 : 1 ≤ k := by omega
 have hk16 : k ≤ 16 := by omega
 refine Bb (enc := Lf.cells) (⟨0, 0, false⟩ : Lf) h rfl (by unfold room; omega) (by omega) fun lb H1 h1 => ?_;refine j9 ?_;refine aZ h1 fun t H2 h2 => ?_;refine aj (A4 _ _ _ H2) ?_
 -- the nodes
 have nodes : ∀ (s : Nat) (H : AH), s ≤ 32 → ac (AZ t (vs lb k 3) s (.slice none 0 0) [] * R) H → wp (pO (.pointer none) (vp t) H) fun v' H' => ∃ b : Nat, v' = vp b ∧ ac (emp * R) H' := by
  intro s H hs h;refine aj (A5 _ _ H) ?_;unfold AZ at h;refine aq h ae rfl ?_;refine aa (pZ (by omega) (by omega)) ?_;refine aj (A7 _ _ _ _ H) ?_
  have loop : ∀ (d i : Nat) (nv : Value) (m : List Int) (H : AH), i + d = 2 * s → m.length = i → ac (blk t (.cells false [vs lb k 3, vi s, nv]) * ts 1 dC nv m * R) H → wp (lT (.pointer none) (vp t) (vi (2 * (s : Int))) (vi i) H) fun v' H' => ∃ b : Nat, v' = vp b ∧ ac (emp * R) H' := by
   intro d
   induction d with
   | zero =>
    intro i nv m H hi hm h;refine aj (pP _ _ _ _ H) ?_;refine aa (b4 (by omega)) ?_;refine gs ?_;refine aj (wm _ _ H) ?_;refine aj (A6 _ _ H) ?_;exact ap ⟨t, rfl, h.to⟩
   | succ d ih =>
    intro i nv m H hi hm h;refine aj (pP _ _ _ _ H) ?_;refine aa (cJ (by omega)) ?_;refine gs ?_;refine aj (A8 _ _ _ _ H) ?_;refine aq h ae rfl ?_;refine KG h fun b0 H3 h3 => ?_;refine gX (-1 : Int) h3 rfl ?_ (by omega) fun a c H4 h4 => ?_
    ·unfold room; omega
    refine bk h4 ae rfl rfl fun H5 h5 => ?_;refine aj (A9 _ _ _ _ H5) ?_;refine aa (aO (by omega) (by omega)) ?_;refine ih (i + 1) (.slice a (m.length + 1) c) (m ++ [-1]) H5 (by omega) (by simp; omega) h5.to
  exact loop (2 * s) 0 (.slice none 0 0) [] H (by omega) rfl h
 -- the size
 have size : ∀ (d s : Nat) (H : AH), 16 ≤ s + d → 1 ≤ s → s ≤ 32 → ac (AZ t (vs lb k 3) s (.slice none 0 0) [] * R) H → wp (j8 (vi k) (.pointer none) (vp t) H) fun v' H' => ∃ b : Nat, v' = vp b ∧ ac (emp * R) H' := by
  intro d
  induction d with
  | zero =>
   intro s H hd hs1 hs h;refine aj (od _ _ _ H) ?_;have h' := h;unfold AZ at h';refine aq h' ae rfl ?_;refine aa (b4 (by omega)) ?_;refine gs ?_;refine aj (lS _ _ H) ?_;exact nodes s H hs h
  | succ d ih =>
   intro s H hd hs1 hs h;refine aj (od _ _ _ H) ?_;have h' := h;unfold AZ at h';refine aq h' ae rfl ?_
   by_cases hlt : (s : Int) < k
   ·refine aa (cJ hlt) ?_
    refine gs ?_;refine aj (xZ _ _ _ H) ?_;refine aq h' ae rfl ?_;refine aa (pZ (by omega) (by omega)) ?_;refine bk h' ae rfl rfl fun H3 h3 => ?_;refine ih (s * 2) H3 (by omega) (by omega) (by omega) ?_;unfold AZ;rw [show (((s * 2 : Nat) : Int)) = (s : Int) * 2 from by omega];exact h3.to
   ·refine aa (b4 hlt) ?_
    refine gs ?_;refine aj (lS _ _ H) ?_;exact nodes s H hs h
 refine size 16 1 H2 (by omega) (by omega) (by omega) ?_;unfold AZ;have h3 := d6 1 dC h2;exact h3.to
abbrev nT (b : Nat) : List Value := [vp b]
instance : Enc nT 1 := ⟨fun _ => rfl, fun _ => rfl, by omega⟩
theorem Qg (n w : Int) : Sp pi [vi n, vi w] emp (fun b : Nat => vp b) (fun _ => emp) := by
 refine aY (EK _ _) fun R H h => ?_;refine aa (jT) ?_;refine aa (jU) ?_;obtain ⟨k, hk⟩ : ∃ k : Nat, min (max n 1) 16 = k := ⟨(min (max n 1) 16).toNat, by omega⟩;rw [hk]
 have hk16 : k ≤ 16 := by omega
 refine ag h (VN k) fun tb H1 h1 => ?_;refine j9 ?_;refine aZ h1 fun q H2 h2 => ?_;refine aj (xG _ _ _ _ H2) ?_;refine aj (xI _ _ _ _ _ H2) ?_
 have loop : ∀ (d i : Nat) (nv : Value) (m : List Nat) (H : AH), i + d = k → m.length = i → ac (blk q (.cells false [nv, vp tb]) * ts 1 nT nv m * R) H → wp (j5 (vi w) (.pointer none) (vp q) (vi k) (vi i) H) fun v' H' => ∃ b : Nat, v' = vp b ∧ ac (emp * R) H' := by
  intro d
  induction d with
  | zero =>
   intro i nv m H hi hm h;refine aj (n5 _ _ _ _ _ H) ?_;refine aa (b4 (by omega)) ?_;refine gs ?_;refine aj (ud _ _ H) ?_;refine aj (xH _ _ H) ?_;exact ap ⟨q, rfl, h.to⟩
  | succ d ih =>
   intro i nv m H hi hm h;refine aj (n5 _ _ _ _ _ H) ?_;refine aa (cJ (by omega)) ?_;refine gs ?_;refine aj (xJ _ _ _ _ _ H) ?_;refine bg ae ?_;refine aN h rfl ?_;refine ag h (QG w) fun sb H3 h3 => ?_;refine aG h3 h rfl ?_;refine KG h3 fun b0 H4 h4 => ?_;refine gX (sb : Nat) h4 rfl ?_ (by omega) fun a c H5 h5 => ?_
   ·unfold room; omega
   refine bk h5 ae rfl rfl fun H6 h6 => ?_;refine aj (xK _ _ _ _ _ H6) ?_;refine aa (aO (by omega) (by omega)) ?_;exact ih (i + 1) (.slice a (m.length + 1) c) (m ++ [sb]) H6 (by omega) (by simp; omega) h6.to
 refine loop k 0 (.slice none 0 0) [] H2 (by omega) rfl ?_;have h3 := d6 1 nT h2;exact h3.to
theorem RU (c : eR) : Sp r5 [.agg (eR.cells c).toArray] emp (fun b : Nat => vp b) (fun _ => emp) := by
 refine aY (FO _) fun R H h => ?_;refine aZ h fun cb H1 h1 => ?_;refine aq h1 aD rfl ?_;refine aq h1 aD rfl ?_;refine ag h1 (Qg c.sh c.wd) fun q H2 h2 => ?_;refine uM h2 fun mb H3 h3 => ?_;refine uM h3 fun mc H4 h4 => ?_;refine j9 ?_;refine aZ h4 fun b H5 h5 => ?_;exact ap ⟨b, rfl, h5.to⟩
theorem Ki {cl : TCls} {w : Nat} (n : Nat) (h : n ≠ 0) : ak cl .rem (vu w) (.int .u64 (n : Int)) = some (vu (w % n)) := g7 h
theorem zb (b b2 : Nat) (c : eR) (u : Nat) (hu : 1 ≤ u ∧ u ≤ 4611686018427387904) {R : SP} {H : AH} (h : ac (blk b2 (.cells false [vi 0, vi 0, vi 0, vi 0, vw 0]) * (blk b (.cells false (eR.cells c)) * R)) H) :
 wp (iC (vp b) (vp b2) (vu u) H) fun v' H' => ∃ c' : eR, v' = .agg (eR.cells c').toArray ∧ ac (pu (bM c' = true) * R) H' := by
 refine aj (uc _ _ _ H) ?_;refine aq h aD rfl ?_;refine ag h (ci c.sh 4 (by omega) (by omega)) fun _ H1 h1 => ?_;have m1 := eZ (v := c.sh) (n := 4) (by omega);refine aa (aO (by omega) (by omega)) ?_;refine bg aD ?_;refine aN h1 rfl ?_;refine aG h h1 rfl ?_;refine ag h1 (ci c.sl 4 (by omega) (by omega)) fun _ H2 h2 => ?_;have m2 := eZ (v := c.sl) (n := 4) (by omega);refine aa (aO (by omega) (by omega)) ?_;refine bg aD ?_;refine aN h2 rfl ?_;refine aG h h2 rfl ?_;refine aG h1 h2 rfl ?_;refine ag h2 (ci c.wk 6 (by omega) (by omega)) fun _ H3 h3 => ?_;have m3 := eZ (v := c.wk) (n := 6) (by omega);refine aa (aO (by omega) (by omega)) ?_;refine bg aD ?_;refine aN h3 rfl ?_;refine aG h h3 rfl ?_;refine aG h1 h3 rfl ?_;refine aG h2 h3 rfl ?_;refine ag h3 (ci c.wd 12 (by omega) (by omega)) fun _ H4 h4 => ?_;have m4 := eZ (v := c.wd) (n := 12) (by omega);refine j9 ?_;refine f7 h4 rfl rfl fun H5 h5 => ?_;refine aU h5 ?_;refine ap ⟨⟨1 + dM c.sh 4, 1 + dM c.sl 4, 1 + dM c.wk 6, dM c.wd 12, u⟩, rfl, ?_⟩;exact ac.pu.2 ⟨bE.2 (by dsimp only; omega), h5.to⟩
theorem GM (c : eR) : Sp l8 [.agg (eR.cells c).toArray] emp (fun c' : eR => .agg (eR.cells c').toArray) (fun c' => pu (bM c' = true)) := by
 refine aX fun R H h => ?_;rw [jd] at h;refine a9 (fun r => Al _ H) ?_;refine aZ h fun b H1 h1 => ?_;refine bj h1 fun b2 H2 h2 => ?_;refine aq h2 aD rfl ?_;refine aa (Ki 5000 (by omega)) ?_;refine aa (eN (a := 1) (by omega)) ?_;refine aj (ub _ _ _ H2) ?_;refine aq h2 aD rfl ?_;refine aa (Ki 4 (by omega)) ?_;refine aa (dE) ?_;refine bF (fun _ => ?_) (fun _ => ?_)
 ·refine aq h2 aD rfl ?_
  refine aa (Ki 4611686018427387904 (by omega)) ?_;have hm := Nat.mod_lt c.un (show 4611686018427387904 > 0 by omega)
  generalize c.un % 4611686018427387904 = u at hm
  refine aa (eN (a := 1) (by omega)) ?_;exact zb b b2 c _ (by omega) h2
 ·have hm := Nat.mod_lt c.un (show 5000 > 0 by omega)
  exact zb b b2 c _ (by omega) h2
section
variable {R : SP} {H : AH}
theorem RO {b2 b3 : Nat} {y y2 : Cl} {P : SP} (h : ac (blk b3 (.cells false (Cl.cells y)) * (blk b2 (.cells false (Cl.cells y2)) * P)) H) : wp (cC (vp b2) (vp b3) H) fun v' H' => ∃ y : Cl, v' = .agg (Cl.cells y).toArray ∧ ac P H' := by
 refine aj (xD _ _ H) ?_;refine aU h ?_;refine f7 h rfl rfl fun H2 h2 => ?_;refine aU h2 ?_;exact ap ⟨y, rfl, h2.to⟩
end
theorem Qd (x : Cl) : Sp pg [.agg (Cl.cells x).toArray] emp (fun y : Cl => .agg (Cl.cells y).toArray) (fun _ => emp) := by
 refine aX fun R H h => ?_;rw [jd] at h;refine a9 (fun r => EJ _ H) ?_;refine aZ h fun b1 H1 h1 => ?_;refine bj h1 fun b2 H2 h2 => ?_;refine aq h2 aD rfl ?_;refine ag h2 (ci x.flow 23 (by omega) (by omega)) fun _ H3 h3 => ?_;simp only [jd];refine aa (dE) ?_;refine bF (fun _ => ?_) (fun _ => ?_)
 ·refine aU h3 ?_
  refine f7 h3 rfl rfl fun H4 h4 => ?_;refine aU h4 ?_;exact ap ⟨x, rfl, h4.to⟩
 refine aq h3 aD rfl ?_;refine ag h3 (ci x.flow 5 (by omega) (by omega)) fun _ H4 h4 => ?_;refine j9 ?_;refine bj h4 fun b3 H5 h5 => ?_;refine f7 h5 rfl rfl fun H6 h6 => ?_
 -- what each kind ends with
 have fin : ∀ (y : Cl) {H7 : AH}, ac (blk b3 (.cells false (Cl.cells y)) * (blk b2 (.cells false (Cl.cells ⟨0, 0, 0, 0⟩)) * R)) H7 → wp (cC (vp b2) (vp b3) H7) fun v' H' => ∃ y : Cl, v' = .agg (Cl.cells y).toArray ∧ ac R H' := fun y {H7} h7 => RO (y2 := ⟨0, 0, 0, 0⟩) h7;refine aj (xC _ _ _ H6) ?_;refine aq h6 aD rfl ?_;refine ag h6 (ci x.op 10 (by omega) (by omega)) fun _ H7 h7 => ?_
 generalize dM x.op 10 = o
 refine aj (xE _ _ _ _ H7) ?_;refine aa (dE) ?_;refine aj (xF _ _ _ _ _ H7) ?_;refine bF (fun _ => ?_) (fun _ => ?_)
 ·refine aq h7 aD rfl ?_
  refine ag h7 (ci x.a 5 (by omega) (by omega)) fun _ H8 h8 => ?_;have m1 := eZ (v := x.a) (n := 5) (by omega);refine aa (aO (by omega) (by omega)) ?_;refine bg aD ?_;refine aN h8 rfl ?_;refine aG h7 h8 rfl ?_;refine ag h8 (ci x.b 3 (by omega) (by omega)) fun _ H9 h9 => ?_;have m2 := eZ (v := x.b) (n := 3) (by omega);refine aa (aO (by omega) (by omega)) ?_;refine bk h9 aD rfl rfl fun H10 h10 => ?_;refine bk h10 aD rfl rfl fun H11 h11 => ?_;refine bk h11 aD rfl rfl fun H12 h12 => ?_;exact fin ⟨1, dM x.flow 5, 1 + dM x.a 5, 1 + dM x.b 3⟩ h12.to
 refine aa (dE) ?_;refine aj (vJ _ _ _ _ _ H7) ?_;refine bF (fun _ => ?_) (fun _ => ?_)
 ·refine bk h7 aD rfl rfl fun H8 h8 => ?_
  exact fin ⟨2, dM x.flow 5, 0, 0⟩ h8.to
 have tail : ∀ q : Bool, wp (jk (vp b1) (vp b2) (vp b3) (vi o) (vb q) H7) fun v' H' => ∃ y : Cl, v' = .agg (Cl.cells y).toArray ∧ ac R H' := by
  intro q;refine aj (vK _ _ _ _ _ H7) ?_;refine bF (fun _ => ?_) (fun _ => ?_)
  ·refine j9 ?_
   refine f7 h7 rfl rfl fun H8 h8 => ?_;exact fin ⟨4, 0, 0, 0⟩ h8.to
  refine aa (dE) ?_;refine bF (fun _ => ?_) (fun _ => ?_)
  ·refine aq h7 aD rfl ?_
   refine ag h7 (ci x.a 6 (by omega) (by omega)) fun _ H8 h8 => ?_;refine j9 ?_;refine f7 h8 rfl rfl fun H9 h9 => ?_;exact fin ⟨5, 0, dM x.a 6, 0⟩ h9.to
  refine aa (dE) ?_;refine bF (fun _ => ?_) (fun _ => ?_)
  ·refine j9 ?_
   refine f7 h7 rfl rfl fun H8 h8 => ?_;exact fin ⟨6, 0, 0, 0⟩ h8.to
  refine aq h7 aD rfl ?_;refine ag h7 (ci x.a 9 (by omega) (by omega)) fun _ H8 h8 => ?_;have m1 := eZ (v := x.a) (n := 9) (by omega);refine aa (aO (by omega) (by omega)) ?_;refine bg aD ?_;refine aN h8 rfl ?_;refine aG h7 h8 rfl ?_;refine ag h8 (ci x.b 1000 (by omega) (by omega)) fun _ H9 h9 => ?_;refine bk h9 aD rfl rfl fun H10 h10 => ?_;refine bk h10 aD rfl rfl fun H11 h11 => ?_;refine bk h11 aD rfl rfl fun H12 h12 => ?_;refine aq h12 aD rfl ?_;refine ag h12 (ci x.a 13 (by omega) (by omega)) fun _ H13 h13 => ?_;refine aa (dE) ?_;refine bF (fun _ => ?_) (fun _ => ?_)
  ·refine aq h13 aD rfl ?_
   refine ag h13 (ci x.a 65536 (by omega) (by omega)) fun _ H14 h14 => ?_;have m2 := eZ (v := x.a) (n := 65536) (by omega);refine aa (aO (by omega) (by omega)) ?_;refine bk h14 aD rfl rfl fun H15 h15 => ?_;exact fin ⟨3, dM x.flow 5, 1 + dM x.a 65536, dM x.b 1000⟩ h15.to
  ·exact fin ⟨3, dM x.flow 5, 1 + dM x.a 9, dM x.b 1000⟩ h13.to
 refine aa (dE) ?_;refine bF (fun _ => tail _) (fun _ => ?_);refine aa (dE) ?_;exact tail _
structure Pk where
 flow : Int
 len : Int
 mark : Int
abbrev Pk.cells (x : Pk) : List Value := [vi x.flow, vi x.len, vi x.mark]
instance : Enc Pk.cells 3 := ⟨fun _ => rfl, fun _ => rfl, by omega⟩
structure Ob where
 flow : Int
 most : Int
 r : Nat
structure Pt where
 step : Int
 who : Int
 place : Int
 e : Int
abbrev m0 (e : Int) : List Value := [vi e, .slice none 0 0, vi 0, vw 0]
abbrev Pt.cells (x : Pt) : List Value := [vi x.step, vi x.who, vi x.place, vi x.e, .slice none 0 0, vi 0, vw 0]
instance : Enc Pt.cells 7 := ⟨fun _ => rfl, fun _ => rfl, by omega⟩
structure az where
 c : eR
 μ : Mu
 obs : List (Ob × List Pk)
 nx : Int → Option Nat
 places : Int → Option Int
 pts : List Pt
def cW (n : Int) : Nat := (min (max n 1) 8).toNat
theorem ql (n : Int) : 1 ≤ cW n ∧ cW n ≤ 8 ∧ (cW n : Int) = min (max n 1) 8 := by unfold cW; omega
abbrev EG : Pk := ⟨0, 0, 0⟩
abbrev FX (k : Int) : Value := vi k
instance : KeyE .int FX where
 eq a b := by
  simp only [jA, FX, if_true]
  congr 1
 ok a := rfl
def b5 (m i rp : Nat) (cs : List Pk) : SP := ex fun cv : Value => blk rp (.cells false [vp m, vi i, cv]) * ts 3 Pk.cells cv cs
def lw (m : Nat) : Nat → List (Nat × List Pk) → SP
 | _, [] => emp
 | i, p :: ps => b5 m i p.1 p.2 * lw m (i + 1) ps
theorem G1 (m : Nat) : ∀ (ps : List (Nat × List Pk)) (i : Nat) (q : Nat × List Pk), lw m i (ps ++ [q]) = lw m i ps * b5 m (i + ps.length) q.1 q.2 := by
 intro ps
 induction ps with
 | nil => intro i q; show b5 m i q.1 q.2 * emp = emp * b5 m (i + 0) q.1 q.2; rw [eD, jd]; rfl
 | cons p ps ih =>
  intro i q;show b5 m i p.1 p.2 * lw m (i + 1) (ps ++ [q]) = b5 m i p.1 p.2 * lw m (i + 1) ps * _;rw [ih, ar, List.length_cons, show i + 1 + ps.length = i + (ps.length + 1) from by omega]
abbrev zl (x : Ob × Nat) : List Value := [vi x.1.flow, vi x.1.most, vu x.1.r, vp x.2]
instance : Enc zl 4 := ⟨fun _ => rfl, fun _ => rfl, by omega⟩
structure PIds where
 m : Nat
 ib : Nat
 tb : Nat
 po : Nat
 co : Nat
 ov : Value
 pm : Nat
 pv : Value
 nm : Nat
 rp : List Nat
def fZ (ib m nm : Nat) (c : eR) (nx : Int → Option Nat) : SP :=
 blk ib (.cells false [vp m, vi c.sh, .map (some nm), .func (.func aS) #[vi 9] #[], .func (.func aS) #[vi 14] #[]]) * Re FX nm (fun k => (nx k).map fun n => vu n)
def aI (p : Nat) (g : PIds) (σ : az) : SP :=
 blk p (.cells false [vp g.m, vp g.ib, vp g.tb, vp g.po, vp g.co, vi σ.c.sh, vi σ.c.sl, vi σ.c.wk, vi σ.c.wd, vu σ.c.un, g.ov, .map (some g.pm), g.pv]) *
 (a8 g.m σ.μ * (fZ g.ib g.m g.nm σ.c σ.nx * (tab g.tb g.m σ.c.sh.toNat σ.c.sl.toNat * (ts 4 zl g.ov ((σ.obs.map fun x => x.1).zip g.rp) * (lw g.m 0 (g.rp.zip (σ.obs.map fun x => x.2)) *
 (Re FX g.pm (fun k => (σ.places k).map fun n => vi n) * ts 7 Pt.cells g.pv σ.pts))))))
def eS (p : Nat) (σ : az) : SP := ex fun g : PIds => pu (g.rp.length = σ.obs.length) * aI p g σ
theorem lK {p : Nat} {σ : az} {R : SP} {H : AH} (h : ac (eS p σ * R) H) : ∃ g : PIds, g.rp.length = σ.obs.length ∧ ac (aI p g σ * R) H := by
 obtain ⟨g, h1⟩ := ac.ex.1 h;rw [ar, ac.pu] at h1;exact ⟨g, h1⟩
theorem nG {p : Nat} {σ : az} {R : SP} {H : AH} (g : PIds) (hl : g.rp.length = σ.obs.length) (h : ac (aI p g σ * R) H) : ac (eS p σ * R) H :=
 ac.ex.2 ⟨g, by rw [ar]; exact ac.pu.2 ⟨hl, h⟩⟩
abbrev az.new (c : eR) : az := ⟨c, ⟨fun _ => 0, [], 0⟩, [], fun _ => none, fun _ => none, []⟩
theorem Uz : Sp vF [] emp (fun b : Nat => vp b) (fun b => a8 b ⟨fun _ => 0, [], 0⟩) := by
 refine aY Jz fun R H h => ?_;refine uM h fun mb H2 h2 => ?_;refine j9 ?_;refine aZ h2 fun b H3 h3 => ?_;refine ap ⟨b, rfl, ac.ex.2 ⟨(mb, .slice none 0 0, [], [], 0), ?_⟩⟩;rw [ar, ac.pu];refine ⟨⟨.nil, fun _ => rfl, bf _⟩, ?_⟩;have := NA 5 h3;show ac (blk b (.cells false [.map (some mb), .slice none 0 0]) * (blk mb (.map [] 0) * sl 5 (.slice none 0 0) 0 []) * R) H3;exact this.to
theorem Jg (m : Nat) (c : eR) (hc : bM c = true) : Sp pc [vp m, vi c.sh] emp (fun b : Nat => vp b) (fun b => ex fun nm : Nat => fZ b m nm c fun _ => none) := by
 have hc := bE.1 hc;refine aY (Ei _ _) fun R H h => ?_;refine aa (jT) ?_;refine aa (jU) ?_;rw [show min (max c.sh 1) 4 = c.sh from by omega];refine uM h fun mb H2 h2 => ?_;refine j9 ?_;refine aZ h2 fun b H3 h3 => ?_;refine ap ⟨b, rfl, ac.ex.2 ⟨mb, ?_⟩⟩;unfold fZ;have h4 : ac (blk mb (.map [] 0) * (blk b (.cells false [vp m, vi c.sh, .map (some mb), .func (.func aS) #[vi 9] #[], .func (.func aS) #[vi 14] #[]]) * (emp * R))) H3 := h3.to;have h5 := MZ FX h4;show ac (blk b (.cells false [vp m, vi c.sh, .map (some mb), .func (.func aS) #[vi 9] #[], .func (.func aS) #[vi 14] #[]]) * Re FX mb (fun _ => none) * R) H3;exact h5.to
theorem KC (m : Nat) (c : eR) (hc : bM c = true) : Sp pn [vp m, vi c.sh, vi c.sl] emp (fun b : Nat => vp b) (fun b => tab b m c.sh.toNat c.sl.toNat) := by
 have hc := bE.1 hc;refine aY (Fg _ _ _) fun R H h => ?_;refine aa (jT) ?_;refine aa (jU) ?_;refine aa (jT) ?_;refine aa (jU) ?_;rw [show min (max c.sh 1) 4 = ((c.sh.toNat : Nat) : Int) from by omega, show min (max c.sl 1) 4 = ((c.sl.toNat : Nat) : Int) from by omega];refine j9 ?_;refine aZ h fun b H3 h3 => ?_;exact ap ⟨b, rfl, by unfold tab; exact h3.to⟩
theorem JQ (c : eR) (hc : bM c = true) : Sp pe [.agg (eR.cells c).toArray] emp (fun b : Nat => .tuple #[vp b, vi 0]) (fun b => eS b (az.new c)) := by
 refine aY (EE _) fun R H h => ?_;refine aZ h fun cb H1 h1 => ?_;refine aU h1 ?_;refine ag h1 (GA c) fun _ H2 h2 => ?_;rw [hc];refine gs ?_;rw [Bool.not_true];refine gs ?_;refine ag h2 Uz fun m H3 h3 => ?_;refine aq h3 aD rfl ?_;refine ag h3 (Jg m c hc) fun ib H4 h4 => ?_;obtain ⟨nm, h4b⟩ := ac.ex.1 h4;refine bg aD ?_;refine aN h4b rfl ?_;refine aG h3 h4b rfl ?_;refine bg aD ?_;refine aN h4b rfl ?_;refine aG h3 h4b rfl ?_;refine ag h4b (KC m c hc) fun tb H5 h5 => ?_;refine bg aD ?_;refine aN h5 rfl ?_;refine aG h3 h5 rfl ?_;refine aG h4b h5 rfl ?_;refine ag h5 (UZ m c.wk) fun pb H6 h6 => ?_;refine aU h6 ?_;refine dB h3 h6 rfl ?_;refine dB h4b h6 rfl ?_;refine dB h5 h6 rfl ?_;refine ag h6 (RU c) fun kb H7 h7 => ?_;refine aU h7 ?_;refine dB h3 h7 rfl ?_;refine dB h4b h7 rfl ?_;refine dB h5 h7 rfl ?_;refine dB h6 h7 rfl ?_;refine uM h7 fun mb H8 h8 => ?_;refine j9 ?_;refine aZ h8 fun b H9 h9 => ?_;refine ap ⟨b, rfl, ?_⟩;refine nG ⟨m, ib, tb, pb, kb, .slice none 0 0, mb, .slice none 0 0, nm, []⟩ rfl ?_;have h10 := d6 4 zl (d6 7 Pt.cells h9);have h11 : ac (blk mb (.map [] 0) * (ts 4 zl (.slice none 0 0) [] * (ts 7 Pt.cells (.slice none 0 0) [] * (blk b (.cells false [vp m, vp ib, vp tb, vp pb, vp kb, vi c.sh, vi c.sl, vi c.wk, vi c.wd, vu c.un, .slice none 0 0, .map (some mb), .slice none 0 0]) * (a8 m ⟨fun _ => 0, [], 0⟩ * (fZ ib m nm c (fun _ => none) * (tab tb m c.sh.toNat c.sl.toNat * (emp * R)))))))) H9 := h10.to;have h12 := MZ FX h11;show ac (blk b (.cells false [vp m, vp ib, vp tb, vp pb, vp kb, vi c.sh, vi c.sl, vi c.wk, vi c.wd, vu c.un, .slice none 0 0, .map (some mb), .slice none 0 0]) * (a8 m ⟨fun _ => 0, [], 0⟩ * (fZ ib m nm c (fun _ => none) * (tab tb m c.sh.toNat c.sl.toNat * (ts 4 zl (.slice none 0 0) [] * (emp * (Re FX mb (fun _ => none) * ts 7 Pt.cells (.slice none 0 0) [])))))) * R) H9;exact h12.to
section
variable (p : Nat) (σ : az)
theorem Vj (m i : Nat) (most : Int) : Sp sg [vp m, vi i, vi most] emp (fun b : Nat => vp b) (fun b => b5 m i b (List.replicate (cW most) EG)) := by
 obtain ⟨q1, q2, q3⟩ := ql most;refine aY (G0 _ _ _) fun R H h => ?_;refine aa (jT) ?_;refine aa (jU) ?_;rw [← q3];refine Bb (enc := Pk.cells) EG h rfl (by unfold room; omega) (by omega) fun cb H1 h1 => ?_;refine j9 ?_;refine aZ h1 fun b H2 h2 => ?_;refine ap ⟨b, rfl, ?_⟩;unfold b5;exact ac.ex.2 ⟨vs cb (cW most) 3, h2.to⟩
abbrev az.make (σ : az) (who : Int) (o : Ob) : az := { σ with μ := σ.μ.acc who 6 (13, σ.obs.length, 0), obs := σ.obs ++ [(o, List.replicate (cW o.most) EG)] }
theorem JP (who : Int) (o : Ob) (hE : σ.μ.N < 1099511627000) (ho : σ.obs.length < 1000000) : Sp gN [vp p, vi who, .agg (#[vi o.flow, vi o.most, vu o.r] : Array Value)] (eS p σ) (fun _ : Unit => vi σ.obs.length) (fun _ => eS p (σ.make who o)) := by
 refine aX fun R H h => ?_;obtain ⟨g, hg, h0⟩ := lK h
 have hz : ((σ.obs.map fun x => x.1).zip g.rp).length = σ.obs.length := by simp [hg]
 unfold aI at h0;refine a9 (fun r => qO _ _ _ H) ?_;refine aZ (l := [vi o.flow, vi o.most, vu o.r]) h0 fun ob H1 h1 => ?_;refine aq h1 ae rfl ?_;refine sM (s := g.ov) h1 ?_;rw [hz];refine aq h1 ae rfl ?_;refine j9 ?_;refine ag h1 ((vC g.m σ.μ who (13, σ.obs.length, 0) (by omega)).imp fun _ R H h => gn (N' := σ.μ.N + 2) (by simp) h) fun _ H2 h2 => ?_;refine bg ae ?_;refine aN h2 rfl ?_;refine aU h2 ?_;refine aq h2 ae rfl ?_;refine aq h2 aD rfl ?_;refine ag h2 (Vj g.m σ.obs.length o.most) fun rb H3 h3 => ?_;refine aG h3 h2 rfl ?_;refine dB h3 h2 rfl ?_;refine j9 ?_;refine KG h3 fun b0 H4 h4 => ?_;refine gX ((o, rb) : Ob × Nat) h4 rfl ?_ (by omega) fun a cc H5 h5 => ?_
 ·unfold room; omega
 refine bk h5 ae rfl rfl fun H6 h6 => ?_;refine ap ⟨(), rfl, ?_⟩;refine nG { g with ov := .slice a (((σ.obs.map fun x => x.1).zip g.rp).length + 1) cc, rp := g.rp ++ [rb] } (by simp [az.make, hg]) ?_;unfold aI az.make;dsimp only
 have e1 : ((σ.obs ++ [(o, List.replicate (cW o.most) EG)]).map fun x => x.1).zip (g.rp ++ [rb]) = ((σ.obs.map fun x => x.1).zip g.rp) ++ [(o, rb)] := by
  rw [Jk, List.zip_append (by simp [hg])]
  rfl
 have e2 : (g.rp ++ [rb]).zip ((σ.obs ++ [(o, List.replicate (cW o.most) EG)]).map fun x => x.2) = (g.rp.zip (σ.obs.map fun x => x.2)) ++ [(rb, List.replicate (cW o.most) EG)] := by
  rw [Jk, List.zip_append (by simp [hg])]
  rfl
 have e3 : 0 + (g.rp.zip (σ.obs.map fun x => x.2)).length = σ.obs.length := by simp [hg]
 rw [e1, e2, G1, e3];exact h6.to
theorem wi : Sp UE [.slice none 0 0] emp (fun _ : Unit => .slice none 0 0) (fun _ => emp) := by
 refine aY (ZF _) fun R H h => ?_;refine aa (v := vb true) rfl ?_;refine gs ?_;exact ap ⟨(), rfl, ac.to (by assumption)⟩
theorem BB (e : Int) : Sp pf [.agg (m0 e).toArray] emp (fun _ : Unit => .agg (m0 e).toArray) (fun _ => emp) := by
 refine aY (EF _) fun R H h => ?_;refine aZ h fun b1 H1 h1 => ?_;refine bj h1 fun b2 H2 h2 => ?_;refine aq h2 aD rfl ?_;refine ag h2 wi fun _ H3 h3 => ?_;refine bk h3 aD rfl rfl fun H4 h4 => ?_;refine aU h4 ?_;refine f7 h4 rfl rfl fun H5 h5 => ?_;refine aU h5 ?_;exact ap ⟨(), rfl, h5.to⟩
abbrev az.note (σ : az) (step who e : Int) : az := { σ with pts := σ.pts ++ [⟨step, who, (σ.places who).getD 0, e⟩] }
theorem V2 {P R P2 R2 : SP} {H H2 : AH} {b : Nat} {f : Int → Option Value} {zero : Value} {kk : OV} {Q : Value → AH → Prop} (k : Int) (h : ac P H) [m : Mp P b FX f R] (h2 : ac P2 H2) [m2 : Mp P2 b FX f R2] (hk : wp kk Q) :
 wp (bw (b7 .int zero (.map (some b)) (vi k) false H) (b7 .int zero (.map (some b)) (vi k) false H2) kk) Q := by
 have one : ∀ {P R : SP} {H : AH} (h : ac P H) [m : Mp P b FX f R], b7 .int zero (.map (some b)) (vi k) false H = some ((f k).getD zero) := by
  intro P R H h m;obtain ⟨v, H', e, q⟩ : wp ((b7 .int zero (.map (some b)) (vi k) false H).bind fun v => some (v, H)) (fun v _ => v = (f k).getD zero) := Fl (ek := FX) k h (ap rfl);obtain ⟨v', e1, e2⟩ := aC.1 e
  have : v' = v := by simpa using congrArg (fun x => x.map Prod.fst) e2
  have e1' : b7 .int zero (.map (some b)) (vi k) false H = some v' := e1;rw [e1', this, q]
 exact Ba (by rw [one h, one h2]) hk
end
theorem i8 {cl : TCls} {a b : Int} (h : b ≠ 0) : ak cl .rem (vi a) (vi b) = some (vi (a.tmod b)) := by
 simp only [ak, lx, if_true];rw [if_neg h]
theorem aaS {a b : Nat} : gT [vu a, vu b] = some (vu (max a b)) := by
 simp only [gT]
 congr 2
 split <;> omega
abbrev re (x : Ob) : List Value := [vi x.flow, vi x.most, vu x.r]
instance : Enc re 3 := ⟨fun _ => rfl, fun _ => rfl, by omega⟩
abbrev Io (n : Nat) : List Value := [vu n]
instance : Enc Io 1 := ⟨fun _ => rfl, fun _ => rfl, by omega⟩
def fR : List (Int × Int) → Int → Int
 | [], _ => 0
 | p :: ps, who => if (ps.any fun q => q.1 == who) = true then fR ps who else if p.1 = who then p.2 else 0
def dZ (l : List (Int × Int)) : List Int := l.flatMap fun p => [p.1, p.2]
def Bz (l : List (Int × Nat)) (k : Int) : Option Nat := (l.find? fun p => p.1 == k).map (·.2)
def tL (x : Pt) : List Pt → List Pt
 | [] => [x]
 | y :: l => if y.step ≤ x.step ∨ (l.any fun z => decide (z.step ≤ x.step)) = true then y :: tL x l else x :: y :: l
def bq (l : List Pt) : List Pt := l.foldl (fun acc x => tL x acc) []
def cp (m i rp : Nat) (cs : List Pk) : SP := ex fun cv : Value => blk rp (.cells false [vp m, vi i, vi cs.length, cv]) * ts 3 Pk.cells cv cs
def iD (m : Nat) : Nat → List (Nat × List Pk) → SP
 | _, [] => emp
 | i, p :: ps => cp m i p.1 p.2 * iD m (i + 1) ps
theorem G2 (m : Nat) : ∀ (ps : List (Nat × List Pk)) (i : Nat) (q : Nat × List Pk), iD m i (ps ++ [q]) = iD m i ps * cp m (i + ps.length) q.1 q.2 := by
 intro ps
 induction ps with
 | nil => intro i q; show cp m i q.1 q.2 * emp = emp * cp m (i + 0) q.1 q.2; rw [eD, jd]; rfl
 | cons p ps ih =>
  intro i q;show cp m i p.1 p.2 * iD m (i + 1) (ps ++ [q]) = cp m i p.1 p.2 * iD m (i + 1) ps * _;rw [ih, ar, List.length_cons, show i + 1 + ps.length = i + (ps.length + 1) from by omega]
def gH (ib m : Nat) (sh : Int) (nx : Int → Option Nat) (L : Nat) : SP := ex fun g : Value × Value × List (Int × Nat) =>
 pu ((∀ k, Bz g.2.2 k = nx k) ∧ g.2.2.length ≤ L) * (blk ib (.cells false [vp m, vi sh, g.1, g.2.1]) * (ts 1 dC g.1 (g.2.2.map (·.1)) * ts 1 Io g.2.1 (g.2.2.map (·.2))))
theorem mG {ib m : Nat} {sh : Int} {nx : Int → Option Nat} {L : Nat} {R : SP} {H : AH} (h : ac (gH ib m sh nx L * R) H) :
 ∃ (kv nv : Value) (ns : List (Int × Nat)), ((∀ k, Bz ns k = nx k) ∧ ns.length ≤ L) ∧ ac (blk ib (.cells false [vp m, vi sh, kv, nv]) * (ts 1 dC kv (ns.map (·.1)) * (ts 1 Io nv (ns.map (·.2)) * R))) H := by
 obtain ⟨⟨kv, nv, ns⟩, h1⟩ := ac.ex.1 h;rw [ar, ac.pu] at h1;exact ⟨kv, nv, ns, h1.1, h1.2.to⟩
theorem gI {ib m : Nat} {sh : Int} {nx : Int → Option Nat} {L : Nat} {R : SP} {H : AH} {kv nv : Value} {ns : List (Int × Nat)} (hn : (∀ k, Bz ns k = nx k) ∧ ns.length ≤ L)
 (h : ac (blk ib (.cells false [vp m, vi sh, kv, nv]) * (ts 1 dC kv (ns.map (·.1)) * (ts 1 Io nv (ns.map (·.2)) * R))) H) : ac (gH ib m sh nx L * R) H := by
 refine ac.ex.2 ⟨(kv, nv, ns), ?_⟩;rw [ar, ac.pu];exact ⟨hn, h.to⟩
theorem nB {ib m : Nat} {sh : Int} {nx : Int → Option Nat} {L L' : Nat} {R : SP} {H : AH} (hL : L ≤ L') (h : ac (gH ib m sh nx L * R) H) : ac (gH ib m sh nx L' * R) H := by
 obtain ⟨g, h1⟩ := ac.ex.1 h;rw [ar, ac.pu] at h1;exact ac.ex.2 ⟨g, by rw [ar]; exact ac.pu.2 ⟨⟨h1.1.1, dN h1.1.2 hL⟩, h1.2⟩⟩
structure XIds where
 m : Nat
 ib : Nat
 tb : Nat
 po : Nat
 co : Nat
 ov : Value
 rv : Value
 rp : List Nat
 wv : Value
 ws : List (Int × Int)
 pv : Value
def av (x : Nat) (g : XIds) (σ : az) : SP :=
 blk x (.cells false [vi σ.c.sh, vi σ.c.sl, vi σ.c.wk, vi σ.c.wd, vu σ.c.un, vp g.m, vp g.ib, vp g.tb, vp g.po, vp g.co, g.ov, g.rv, g.wv, g.pv]) *
 (bm g.m σ.μ * (gH g.ib g.m σ.c.sh σ.nx σ.μ.N * (tab g.tb g.m σ.c.sh.toNat σ.c.sl.toNat *
 (ts 3 re g.ov (σ.obs.map fun x => x.1) * (ts 1 nT g.rv g.rp * (iD g.m 0 (g.rp.zip (σ.obs.map fun x => x.2)) * (ts 1 dC g.wv (dZ g.ws) * ts 7 Pt.cells g.pv (bq σ.pts))))))))
def fQ (g : XIds) (σ : az) : Prop := g.rp.length = σ.obs.length ∧ (∀ k, fR g.ws k = (σ.places k).getD 0) ∧ g.ws.length ≤ σ.μ.N
def bD (x : Nat) (σ : az) : SP := ex fun g : XIds => pu (fQ g σ) * av x g σ
theorem fB {p : Nat} {σ : az} {R : SP} {H : AH} (h : ac (bD p σ * R) H) : ∃ g : XIds, fQ g σ ∧ ac (av p g σ * R) H := by
 obtain ⟨g, h1⟩ := ac.ex.1 h;rw [ar, ac.pu] at h1;exact ⟨g, h1⟩
theorem ep {p : Nat} {σ : az} {R : SP} {H : AH} (g : XIds) (hl : fQ g σ) (h : ac (av p g σ * R) H) : ac (bD p σ * R) H :=
 ac.ex.2 ⟨g, by rw [ar]; exact ac.pu.2 ⟨hl, h⟩⟩
theorem EP (m : Nat) (c : eR) (hc : bM c = true) : Sp k7 [vp m, vi c.sh] emp (fun b : Nat => vp b) (fun b => blk b (.cells false [vp m, vi c.sh, .slice none 0 0, .slice none 0 0])) := by
 have hc := bE.1 hc;refine aY (xO _ _) fun R H h => ?_;refine aa (jT) ?_;refine aa (jU) ?_;rw [show min (max c.sh 1) 4 = c.sh from by omega];refine j9 ?_;refine aZ h fun b H3 h3 => ?_;exact ap ⟨b, rfl, h3.to⟩
theorem ES (m : Nat) (c : eR) (hc : bM c = true) : Sp lc [vp m, vi c.sh, vi c.sl] emp (fun b : Nat => vp b) (fun b => tab b m c.sh.toNat c.sl.toNat) := by
 have hc := bE.1 hc;refine aY (xS _ _ _) fun R H h => ?_;refine aa (jT) ?_;refine aa (jU) ?_;refine aa (jT) ?_;refine aa (jU) ?_;rw [show min (max c.sh 1) 4 = ((c.sh.toNat : Nat) : Int) from by omega, show min (max c.sl 1) 4 = ((c.sl.toNat : Nat) : Int) from by omega];refine j9 ?_;refine aZ h fun b H3 h3 => ?_;exact ap ⟨b, rfl, by unfold tab; exact h3.to⟩
theorem GU (m : Nat) (w : Int) : Sp mf [vp m, vi w] emp (fun b : Nat => vp b) (fun _ => emp) := by
 refine aY (As _ _) fun R H h => ?_;refine aa (jT) ?_;refine aa (jU) ?_;refine j9 ?_;refine aZ h fun b H3 h3 => ?_;exact ap ⟨b, rfl, h3.to⟩
theorem Qh (w : Int) : Sp pj [vi w] emp (fun x : Int => vi x) (fun _ => emp) := by
 refine aY (EM _) fun R H h => ?_;refine aa (jT) ?_;refine aa (jU) ?_;exact ap ⟨_, rfl, h⟩
theorem EN (n w : Int) : Sp UB [vi n, vi w] emp (fun b : Nat => vp b) (fun _ => emp) := by
 refine aY (ZA _ _) fun R H h => ?_;refine j9 ?_;refine aZ h fun q H2 h2 => ?_;refine aj (Qm _ _ _ _ H2) ?_;refine aj (Qo _ _ _ _ _ H2) ?_;obtain ⟨k, hk⟩ : ∃ k : Nat, min (max n 1) 16 = k := ⟨(min (max n 1) 16).toNat, by omega⟩
 have hk16 : k ≤ 16 := by omega
 have loop : ∀ (d i : Nat) (nv : Value) (m : List Nat) (H : AH), i + d = k → m.length = i → ac (blk q (.cells false [nv]) * ts 1 nT nv m * R) H → wp (EU (vi n) (vi w) (.pointer none) (vp q) (vi i) H) fun v' H' => ∃ b : Nat, v' = vp b ∧ ac (emp * R) H' := by
  intro d
  induction d with
  | zero =>
   intro i nv m H hi hm h;refine aj (Cu _ _ _ _ _ H) ?_;refine aa (jT) ?_;refine aa (jU) ?_;refine aa (b4 (by omega)) ?_;refine gs ?_;refine aj (GX _ _ H) ?_;refine aj (Qn _ _ H) ?_;exact ap ⟨q, rfl, h.to⟩
  | succ d ih =>
   intro i nv m H hi hm h;refine aj (Cu _ _ _ _ _ H) ?_;refine aa (jT) ?_;refine aa (jU) ?_;refine aa (cJ (by omega)) ?_;refine gs ?_;refine aj (Qp _ _ _ _ _ H) ?_;refine bg ae ?_;refine aN h rfl ?_;refine ag h (Qh w) fun x H3 h3 => ?_;refine aG h3 h rfl ?_;refine j9 ?_;refine aZ h3 fun sb H3b h3b => ?_;refine KG h3b fun b0 H4 h4 => ?_;refine gX (sb : Nat) h4 rfl ?_ (by omega) fun a c H5 h5 => ?_
   ·unfold room; omega
   refine bk h5 ae rfl rfl fun H6 h6 => ?_;refine aj (Qq _ _ _ _ _ H6) ?_;refine aa (aO (by omega) (by omega)) ?_;exact ih (i + 1) (.slice a (m.length + 1) c) (m ++ [sb]) H6 (by omega) (by simp; omega) h6.to
 refine loop k 0 (.slice none 0 0) [] H2 (by omega) rfl ?_;have h3 := d6 1 nT h2;exact h3.to
theorem GT (c : eR) : Sp me [.agg (eR.cells c).toArray] emp (fun b : Nat => vp b) (fun _ => emp) := by
 refine aY (Aq _) fun R H h => ?_;refine aZ h fun cb H1 h1 => ?_;refine aq h1 aD rfl ?_;refine aq h1 aD rfl ?_;refine ag h1 (EN c.sh c.wd) fun q H2 h2 => ?_;refine j9 ?_;refine aZ h2 fun b H5 h5 => ?_;exact ap ⟨b, rfl, h5.to⟩
theorem Ux {b : Nat} {R : SP} {H : AH} (h : ac (blk b (.cells false [.slice none 0 0, .slice none 0 0, .slice none 0 0]) * R) H) : ac (bm b ⟨fun _ => 0, [], 0⟩ * R) H := by
 refine ac.ex.2 ⟨[], ?_⟩;rw [ar, ac.pu];refine ⟨⟨fun _ => rfl, bf _⟩, ac.ex.2 ⟨(.slice none 0 0, .slice none 0 0, .slice none 0 0), ?_⟩⟩;have h1 := d6 3 Df (d6 1 FY (d6 5 Ev.cells h));exact h1.to
theorem EQ (c : eR) (hc : bM c = true) : Sp la [.agg (eR.cells c).toArray] emp (fun b : Nat => vp b) (fun b => bD b (az.new c)) := by
 refine aY (xR _) fun R H h => ?_;refine aZ h fun cb H1 h1 => ?_;refine j9 ?_;refine aZ h1 fun m H2 h2 => ?_;refine aU h2 ?_;refine aq h2 aD rfl ?_;refine ag h2 (EP m c hc) fun ib H3 h3 => ?_;refine dB h3 h2 rfl ?_;refine bg aD ?_;refine aN h3 rfl ?_;refine aG h2 h3 rfl ?_;refine bg aD ?_;refine aN h3 rfl ?_;refine aG h2 h3 rfl ?_;refine ag h3 (ES m c hc) fun tb H4 h4 => ?_;refine dB h4 h2 rfl ?_;refine bg aD ?_;refine aN h4 rfl ?_;refine aG h2 h4 rfl ?_;refine aG h3 h4 rfl ?_;refine ag h4 (GU m c.wk) fun pb H5 h5 => ?_;refine dB h5 h2 rfl ?_;refine aU h5 ?_;refine dB h2 h5 rfl ?_;refine dB h3 h5 rfl ?_;refine dB h4 h5 rfl ?_;refine ag h5 (GT c) fun kb H6 h6 => ?_;refine dB h6 h2 rfl ?_;refine j9 ?_;refine aZ h6 fun b H7 h7 => ?_;refine ap ⟨b, rfl, ?_⟩;refine ep ⟨m, ib, tb, pb, kb, .slice none 0 0, .slice none 0 0, [], .slice none 0 0, [], .slice none 0 0⟩ ⟨rfl, fun _ => rfl, bf _⟩ ?_;have h8 := Ux (b := m) (R := blk b (.cells false [vi c.sh, vi c.sl, vi c.wk, vi c.wd, vu c.un, vp m, vp ib, vp tb, vp pb, vp kb, .slice none 0 0, .slice none 0 0, .slice none 0 0, .slice none 0 0]) * (tab tb m c.sh.toNat c.sl.toNat * (blk ib (.cells false [vp m, vi c.sh, .slice none 0 0, .slice none 0 0]) * R))) (ac.to h7);have h8a := d6 1 dC (d6 1 Io h8);have h8b := gI (ib := ib) (m := m) (sh := c.sh) (nx := fun _ => none) (L := 0) (kv := .slice none 0 0) (nv := .slice none 0 0) (ns := []) (R := bm m ⟨fun _ => 0, [], 0⟩ * (blk b (.cells false [vi c.sh, vi c.sl, vi c.wk, vi c.wd, vu c.un, vp m, vp ib, vp tb, vp pb, vp kb, .slice none 0 0, .slice none 0 0, .slice none 0 0, .slice none 0 0]) * (tab tb m c.sh.toNat c.sl.toNat * R))) (H := H7) ⟨fun _ => rfl, bf _⟩ (show ac (blk ib (.cells false [vp m, vi c.sh, .slice none 0 0, .slice none 0 0]) * (ts 1 dC (.slice none 0 0) [] * (ts 1 Io (.slice none 0 0) [] * (bm m ⟨fun _ => 0, [], 0⟩ * (blk b (.cells false [vi c.sh, vi c.sl, vi c.wk, vi c.wd, vu c.un, vp m, vp ib, vp tb, vp pb, vp kb, .slice none 0 0, .slice none 0 0, .slice none 0 0, .slice none 0 0]) * (tab tb m c.sh.toNat c.sl.toNat * R)))))) H7 from h8a.to);have h9 := d6 3 re (d6 1 nT (d6 1 dC (d6 7 Pt.cells h8b)));unfold av
 show ac (blk b (.cells false [vi c.sh, vi c.sl, vi c.wk, vi c.wd, vu c.un, vp m, vp ib, vp tb, vp pb, vp kb, .slice none 0 0, .slice none 0 0, .slice none 0 0, .slice none 0 0]) * (bm m ⟨fun _ => 0, [], 0⟩ * (gH ib m c.sh (fun _ => none) 0 * (tab tb m c.sh.toNat c.sl.toNat *
  (ts 3 re (.slice none 0 0) [] * (ts 1 nT (.slice none 0 0) [] * (emp * (ts 1 dC (.slice none 0 0) [] * ts 7 Pt.cells (.slice none 0 0) [])))))))  * R) H7
 exact h9.to
theorem JW {cl : TCls} {a b : Int} (h : b ≠ 0) (h0 : -9223372036854775808 ≤ a.tdiv b) (h1 : a.tdiv b < 9223372036854775808) : ak cl .quo (vi a) (vi b) = some (vi (a.tdiv b)) := by
 simp only [ak, lx, if_true];rw [if_neg h, nb h0 h1]
theorem tS {m : Nat} {V : bC → Nat} {E : List Ev} {N N' : Nat} {R : SP} {H : AH} (hN : N ≤ N') (h : ac (bm m ⟨V, E, N⟩ * R) H) : ac (bm m ⟨V, E, N'⟩ * R) H := by
 obtain ⟨al, h1⟩ := ac.ex.1 h;rw [ar, ac.pu] at h1;exact ac.ex.2 ⟨al, by rw [ar]; exact ac.pu.2 ⟨⟨h1.1.1, dN h1.1.2 hN⟩, h1.2⟩⟩
def cS (flow : Int) (obj : Nat) : Nat := (flow + 1).toNat * 4294967296 + obj
section
variable (t m : Nat) (sh sl : Nat) (μ : Mu) (who s i flow : Int) (obj : Nat)
theorem QW (hE : μ.N < 1099511627000) (hf : 0 ≤ flow ∧ flow ≤ 1048576) (ho : obj < 4294967296) :
 Sp iw [vp t, vi who, vi s, vi i, vi flow, vi obj] (tab t m sh sl * a8 m μ) (fun _ : Unit => vb true) (fun _ => tab t m sh sl * a8 m ((μ.acc who 2 (10, s, i)).put (10, s, i) (cS flow obj))) := by
 refine aY (sJ _ _ _ _ _ _) fun R H h => ?_;unfold tab at h ⊢;refine aa (b4 (by omega)) ?_;refine gs ?_;refine aa (jQ ?_) ?_
 ·omega
 refine gs ?_;refine aa (b4 ?_) ?_
 ·omega
 refine gs ?_;refine aa (nW ?_) ?_
 ·omega
 refine gs ?_;refine bg ae ?_;refine aN h rfl ?_;refine ag h (AY s i) fun _ H1 h1 => ?_;refine aG h1 h rfl ?_;refine aa (aO (by omega) (by omega)) ?_;refine aa (da (by omega) (by omega)) ?_
 have hn : (flow + 1).toNat ≤ 1048577 := by omega
 have e1 : ak .other .shl (vu (flow + 1).toNat) (vw 32) = some (vu ((flow + 1).toNat * 4294967296)) := by
  have := BP (cl := .other) (a := (flow + 1).toNat) (k := .u64) (n := 32) (by omega);simp only [Nat.reducePow] at this;rw [Nat.mod_eq_of_lt (by omega)] at this;exact this
 refine aa (e1) ?_;refine aa (da (by omega) (by omega)) ?_;rw [show ((obj : Nat) : Int).toNat = obj from rO obj]
 have e2 : ak .other .or (vu ((flow + 1).toNat * 4294967296)) (vu obj) = some (vu (cS flow obj)) := by
  rw [RC (by omega) (by omega)]
  congr 3
  have := Nat.two_pow_add_eq_or_of_lt (i := 32) (b := obj) (by simp only [Nat.reducePow]; omega) (flow + 1).toNat;simp only [Nat.reducePow] at this;rw [cS, Nat.mul_comm, ← this]
 refine aa (e2) ?_;refine ag h1 (ED m μ who (10, s, i) (cS flow obj) (by omega)) fun _ H2 h2 => ?_;exact ap ⟨(), rfl, h2.to⟩
theorem XM (hE : μ.N < 1099511627000) (hf : 0 ≤ flow ∧ flow ≤ 1048576) (ho : obj < 4294967296) :
 Sp jN [vp t, vi who, vi s, vi i, vi flow, vi obj] (tab t m sh sl * bm m μ) (fun _ : Unit => vb true) (fun _ => tab t m sh sl * bm m ((μ.acc who 2 (10, s, i)).put (10, s, i) (cS flow obj))) := by
 refine aY (vW _ _ _ _ _ _) fun R H h => ?_;unfold tab at h ⊢;refine aa (b4 (by omega)) ?_;refine gs ?_;refine aa (jQ ?_) ?_
 ·omega
 refine gs ?_;refine aa (b4 ?_) ?_
 ·omega
 refine gs ?_;refine aa (da (by omega) (by omega)) ?_;rw [show ((obj : Nat) : Int).toNat = obj from rO obj];refine gs ?_;refine aa (nW ?_) ?_
 ·omega
 refine gs ?_;refine bg ae ?_;refine aN h rfl ?_;refine ag h (dw 10 s i) fun _ H1 h1 => ?_;refine aG h1 h rfl ?_;refine aa (aO (by omega) (by omega)) ?_;refine aa (da (by omega) (by omega)) ?_
 have hn : (flow + 1).toNat ≤ 1048577 := by omega
 refine aa (aaT) ?_;rw [Nat.mod_eq_of_lt (by omega)];refine aa (da (by omega) (by omega)) ?_;rw [show ((obj : Nat) : Int).toNat = obj from rO obj];refine aa (eN (by omega)) ?_;refine ag h1 (v9 m μ who (10, s, i) (cS flow obj) (by omega)) fun _ H2 h2 => ?_;exact ap ⟨(), rfl, h2.to⟩
end
section
variable (p : Nat) (σ : az)
theorem QB (m i : Nat) (most : Int) : Sp mg [vp m, vi i, vi most] emp (fun b : Nat => vp b) (fun b => cp m i b (List.replicate (cW most) EG)) := by
 obtain ⟨q1, q2, q3⟩ := ql most;refine aY (At _ _ _) fun R H h => ?_;refine aa (jT) ?_;refine aa (jU) ?_;rw [← q3];refine Bb (enc := Pk.cells) EG h rfl (by unfold room; omega) (by omega) fun cb H1 h1 => ?_;refine j9 ?_;refine aZ h1 fun b H2 h2 => ?_;refine ap ⟨b, rfl, ?_⟩;unfold cp;refine ac.ex.2 ⟨vs cb (cW most) 3, ?_⟩;rw [List.length_replicate];exact h2.to
theorem aaR (who : Int) (o : Ob) (hE : σ.μ.N < 1099511627000) (ho : σ.obs.length < 1000000) : Sp iZ [vp p, vi who, .agg [vi o.flow, vi o.most, vu o.r].toArray] (bD p σ) (fun _ : Unit => vi σ.obs.length) (fun _ => bD p (σ.make who o)) := by
 refine aX fun R H h => ?_;obtain ⟨g, ⟨hg, hg2⟩, h0⟩ := fB h;unfold av at h0;refine a9 (fun r => ul _ _ _ H) ?_;refine aZ (l := [vi o.flow, vi o.most, vu o.r]) h0 fun ob H1 h1 => ?_;refine aq h1 ae rfl ?_;refine sM (s := g.ov) h1 ?_;rw [qM];refine bg ae ?_;refine aN h1 rfl ?_;refine ag h1 (dw 13 σ.obs.length 0) fun _ H2 h2 => ?_;refine aG h2 h1 rfl ?_;refine ag h2 ((Q9 g.m σ.μ who 6 (13, σ.obs.length, 0) (by omega)).imp fun _ R H h => tS (N' := σ.μ.N + 2) (by simp) h) fun _ H3 h3 => ?_;refine aq h3 ae rfl ?_;refine aU h3 ?_;refine KG h3 fun b0 H4 h4 => ?_;refine gX (o : Ob) h4 rfl ?_ (by omega) fun a cc H5 h5 => ?_
 ·unfold room; simp only [qM]; omega
 refine bg ae ?_;refine aN h5 rfl ?_;refine aG h4 h5 rfl ?_;refine bg ae ?_;refine aN h5 rfl ?_;refine aG h4 h5 rfl ?_;refine bg aD ?_;refine aN h5 rfl ?_;refine aG h4 h5 rfl ?_;refine ag h5 (QB g.m σ.obs.length o.most) fun rb H6 h6 => ?_;refine aG h6 h5 rfl ?_;refine KG h6 fun b1 H7 h7 => ?_;refine gX (rb : Nat) h7 rfl ?_ (by omega) fun a2 c2 H8 h8 => ?_
 ·unfold room; omega
 refine bk h8 ae rfl rfl fun H9 h9 => ?_;refine bk h9 ae rfl rfl fun H10 h10 => ?_;refine ap ⟨(), rfl, ?_⟩;refine ep { g with ov := .slice a ((σ.obs.map fun x => x.1).length + 1) cc, rv := .slice a2 (g.rp.length + 1) c2, rp := g.rp ++ [rb] } ⟨by simp [az.make, hg], hg2.1, dN hg2.2 (by simp [az.make])⟩ ?_;unfold av az.make;dsimp only
 have e2 : (g.rp ++ [rb]).zip ((σ.obs ++ [(o, List.replicate (cW o.most) EG)]).map fun x => x.2) = (g.rp.zip (σ.obs.map fun x => x.2)) ++ [(rb, List.replicate (cW o.most) EG)] := by
  rw [Jk, List.zip_append (by simp [hg])]
  rfl
 have e1 : (σ.obs ++ [(o, List.replicate (cW o.most) EG)]).map (fun x => x.1) = (σ.obs.map fun x => x.1) ++ [o] := by rw [Jk]; rfl
 have e3 : 0 + (g.rp.zip (σ.obs.map fun x => x.2)).length = σ.obs.length := by simp [hg]
 rw [e1, e2, G2, e3];dsimp only;have h11 := nB (L' := σ.μ.N + 2) (by omega) (ac.fr (A := gH g.ib g.m σ.c.sh σ.nx σ.μ.N) h10);exact h11.to
theorem GR (u : Nat) (w : Int) (hu : 1 ≤ u ∧ u ≤ 4611686018427387904) (hw : 1 ≤ w ∧ w ≤ 65536) : Sp ma [vu u, vi w] emp (fun _ : Unit => .tuple #[vu (max (u / w.toNat) 1), vb true]) (fun _ => emp) := by
 refine aY (Am _ _) fun R H h => ?_;refine aa (b4 (by omega)) ?_;refine gs ?_;refine aa (jQ ?_) ?_
 ·omega
 refine gs ?_;refine aa (b4 ?_) ?_
 ·omega
 refine gs ?_;refine aa (jQ ?_) ?_
 ·omega
 refine gs ?_;refine aa (da (by omega) (by omega)) ?_;refine aa (uW (by omega) (by omega)) ?_;refine aa (aaS (b := 1)) ?_;exact ap ⟨(), rfl, h.to⟩
abbrev az.lay (σ : az) (f w most : Int) : az :=
 { σ.make 0 ⟨f, most, max (σ.c.un / w.toNat) 1⟩ with
  μ := ((σ.make 0 ⟨f, most, max (σ.c.un / w.toNat) 1⟩).μ.acc 0 2 (10, f.tmod σ.c.sh, f.tdiv σ.c.sh)).put (10, f.tmod σ.c.sh, f.tdiv σ.c.sh) (cS f σ.obs.length) }
theorem Xw (x : Nat) (f w most : Int) (hc : bM σ.c = true) (hE : σ.μ.N < 1099511620000) (ho : σ.obs.length < 1000000) (hf : 0 ≤ f ∧ f ≤ 1048576) (hw : 1 ≤ w ∧ w ≤ 65536) :
 Sp kW [.agg [vp p, vp x].toArray, vi f, vi w, vi most] (eS p σ * bD x σ) (fun _ : Unit => vb true) (fun _ => eS p (σ.lay f w most) * bD x (σ.lay f w most)) := by
 have hr := bE.1 hc;have q0 : 0 ≤ f.tdiv σ.c.sh := Int.tdiv_nonneg hf.1 (by omega);have q1 : f.tdiv σ.c.sh ≤ f := Int.tdiv_le_self _ hf.1;refine aY (xj _ _ _ _) fun R H h => ?_;refine aZ (l := [vp p, vp x]) h fun b H1 h1 => ?_;refine aq h1 aD rfl ?_;obtain ⟨g, hg, k1⟩ := fB (p := x) (σ := σ) (R := blk b (.cells false [vp p, vp x]) * (eS p σ * R)) (H := H1) h1.to;unfold av at k1;refine V0 k1 ae ?_;refine bj h1 fun b2 H2 h2 => ?_;refine f7 h2 rfl rfl fun H3 h3 => ?_;refine aq h3 aD rfl ?_;refine ag h3 (GR σ.c.un w ⟨by omega, by omega⟩ hw) fun _ H4 h4 => ?_;refine aa (v := vu (max (σ.c.un / w.toNat) 1)) rfl ?_;refine aa (v := vb true) rfl ?_;refine j9 ?_;refine bj h4 fun b3 H5 h5 => ?_;refine f7 h5 rfl rfl fun H6 h6 => ?_;refine aq h6 aD rfl ?_;refine aU h6 ?_;refine ag h6 (JP p σ 0 ⟨f, most, max (σ.c.un / w.toNat) 1⟩ (by omega) ho) fun _ H7 h7 => ?_;refine bg aD ?_;refine aN h7 rfl ?_;refine aG h6 h7 rfl ?_;refine aU h7 ?_;refine dB h6 h7 rfl ?_;refine ag h7 (aaR x σ 0 ⟨f, most, max (σ.c.un / w.toNat) 1⟩ (by omega) ho) fun _ H8 h8 => ?_;refine aa (bv rfl) ?_;refine gs ?_;refine aq h8 aD rfl ?_;obtain ⟨gp, hgp, k8⟩ := lK (p := p) (σ := σ.make 0 ⟨f, most, max (σ.c.un / w.toNat) 1⟩) (R := blk b (.cells false [vp p, vp x]) * (blk b2 (.cells false (eR.cells σ.c)) * (bD x (σ.make 0 ⟨f, most, max (σ.c.un / w.toNat) 1⟩) * R))) (H := H8) h8.to;unfold aI at k8;refine gs ?_;refine aq k8 ae rfl ?_;refine gs ?_;refine aq k8 aD rfl ?_;refine gs ?_;refine aa (i8 (by omega)) ?_;refine gs ?_;refine aq k8 aD rfl ?_;refine gs ?_;refine aa (JW (by omega) (by omega) (by omega)) ?_;refine gs ?_;refine ag k8 (QW gp.tb gp.m σ.c.sh.toNat σ.c.sl.toNat (σ.make 0 ⟨f, most, max (σ.c.un / w.toNat) 1⟩).μ 0 (f.tmod σ.c.sh) (f.tdiv σ.c.sh) f σ.obs.length (by simp [az.make]; omega) hf (by omega)) fun _ H9 k9 => ?_
 have h9 : ac (eS p (σ.lay f w most) * (blk b (.cells false [vp p, vp x]) * (blk b2 (.cells false (eR.cells σ.c)) * (bD x (σ.make 0 ⟨f, most, max (σ.c.un / w.toNat) 1⟩) * R)))) H9 := by
  refine nG gp hgp ?_;unfold aI;exact k9.to
 refine gs ?_;refine aq h9 aD rfl ?_;obtain ⟨gx, hgx, l9⟩ := fB (p := x) (σ := σ.make 0 ⟨f, most, max (σ.c.un / w.toNat) 1⟩) (R := blk b (.cells false [vp p, vp x]) * (blk b2 (.cells false (eR.cells σ.c)) * (eS p (σ.lay f w most) * R))) (H := H9) h9.to;unfold av at l9;refine gs ?_;refine aq l9 ae rfl ?_;refine gs ?_;refine aq l9 aD rfl ?_;refine gs ?_;refine aa (i8 (by omega)) ?_;refine gs ?_;refine aq l9 aD rfl ?_;refine gs ?_;refine aa (JW (by omega) (by omega) (by omega)) ?_;refine gs ?_;refine ag l9 (XM gx.tb gx.m σ.c.sh.toNat σ.c.sl.toNat (σ.make 0 ⟨f, most, max (σ.c.un / w.toNat) 1⟩).μ 0 (f.tmod σ.c.sh) (f.tdiv σ.c.sh) f σ.obs.length (by simp [az.make]; omega) hf (by omega)) fun _ H10 l10 => ?_
 have h10 : ac (bD x (σ.lay f w most) * (blk b (.cells false [vp p, vp x]) * (blk b2 (.cells false (eR.cells σ.c)) * (eS p (σ.lay f w most) * R)))) H10 := by
  refine ep gx ⟨hgx.1, hgx.2.1, dN hgx.2.2 (by simp [az.lay, az.make])⟩ ?_;unfold av;have l11 := nB (L' := σ.μ.N + 2 + 2) (by omega) (ac.fr (A := gH gx.ib gx.m σ.c.sh σ.nx (σ.μ.N + 2)) l10);exact l11.to
 refine gs ?_;exact ap ⟨(), rfl, h10.to⟩
end
def az.made (c : eR) : Nat → az
 | 0 => az.new c
 | f + 1 => if (f : Int).tdiv c.sh < c.sl then (az.made c f).lay f (1 + f) (2 + (f : Int).tmod 2) else az.made c f
theorem rZ (c : eR) : ∀ n, (az.made c n).c = c ∧ (az.made c n).μ.N ≤ 4 * n ∧ (az.made c n).obs.length ≤ n := by
 intro n
 induction n with
 | zero => exact ⟨rfl, bf _, bf _⟩
 | succ n ih =>
  obtain ⟨h1, h2, h3⟩ := ih;unfold az.made
  split
  ·refine ⟨h1, ?_, ?_⟩
   ·simp [az.lay, az.make]; omega
   ·simp [az.lay, az.make]; omega
  ·exact ⟨h1, by omega, by omega⟩
theorem mi (b : Nat) : ak .ptr .eql (vp b) (.pointer none) = some (vb false) := rfl
theorem Uj (c0 : eR) (n : Nat) (hn : n ≤ 16) : Sp r8 [.agg (eR.cells c0).toArray, vi n] emp (fun g : Nat × Nat × eR => .tuple #[.agg [vp g.1, vp g.2.1].toArray, vb true])
 (fun g => pu (bM g.2.2 = true) * (eS g.1 (az.made g.2.2 n) * bD g.2.1 (az.made g.2.2 n))) := by
 refine aY (Gu _ _) fun R H h => ?_;refine aZ h fun b H1 h1 => ?_;refine bj h1 fun b2 H2 h2 => ?_;refine aU h2 ?_;refine ag h2 (GM c0) fun c H3 h3 => ?_;rw [ac.pu] at h3;obtain ⟨hc, h3⟩ := h3;refine f7 h3 rfl rfl fun H4 h4 => ?_;refine aU h4 ?_;refine ag h4 (JQ c hc) fun p H5 h5 => ?_;refine aa (v := vp p) rfl ?_;refine aa (v := vi 0) rfl ?_;refine aa (GB rfl) ?_;refine gs ?_;refine aa (mi _) ?_;refine gs ?_;obtain ⟨g, hg, k5⟩ := lK (p := p) (σ := az.new c) (R := blk b2 (.cells false [.pointer none, .pointer none]) * (blk b (.cells false (eR.cells c)) * R)) (H := H5) h5.to;unfold aI at k5;refine aq k5 ae rfl ?_;refine gs ?_;refine aa (mi _) ?_;refine gs ?_;refine aq k5 ae rfl ?_;refine gs ?_;refine aa (mi _) ?_;refine gs ?_;refine aq k5 ae rfl ?_;refine gs ?_;refine aa (mi _) ?_;refine gs ?_;refine aq k5 ae rfl ?_;refine gs ?_;refine aa (mi _) ?_;refine gs ?_;refine aq k5 ae rfl ?_;refine gs ?_;refine aa (mi _) ?_;refine gs ?_;refine aU h5 ?_;refine ag h5 (EQ c hc) fun x H6 h6 => ?_;refine j9 ?_;refine bj h6 fun b3 H7 h7 => ?_;refine f7 h7 rfl rfl fun H8 h8 => ?_;refine aj (zY _ _ _ _ _ H8) ?_;refine aj (z0 _ _ _ _ _ _ H8) ?_;have hr := bE.1 hc;have loop : ∀ (d i : Nat) (H : AH), i + d = n → ac (blk b3 (.cells false [vp p, vp x]) * (blk b2 (.cells false [.pointer none, .pointer none]) * (blk b (.cells false (eR.cells c)) * (eS p (az.made c i) * (bD x (az.made c i) * R))))) H →
  wp (lF (vi n) (vp b) (vp b2) (vb false) (vp b3) (vi i) H) fun v' H' => ∃ g : Nat × Nat × eR, v' = .tuple #[.agg [vp g.1, vp g.2.1].toArray, vb true] ∧ ac (pu (bM g.2.2 = true) * (eS g.1 (az.made g.2.2 n) * bD g.2.1 (az.made g.2.2 n)) * R) H' := by
  intro d
  induction d with
  | zero =>
   intro i H hi h;refine aj (o7 _ _ _ _ _ _ H) ?_;refine aa (b4 (by omega)) ?_;refine gs ?_;refine aj (vl _ _ _ H) ?_;refine aj (zZ _ _ _ H) ?_;refine aU h ?_;refine f7 h rfl rfl fun H2 h2 => ?_;refine aU h2 ?_;refine ap ⟨(p, x, c), rfl, ?_⟩;rw [ar, ac.pu]
   have e : i = n := by omega
   subst e;exact ⟨hc, h2.to⟩
  | succ d ih =>
   intro i H hi h;obtain ⟨m1, m2, m3⟩ := rZ c i;have q0 : 0 ≤ (i : Int).tdiv c.sh := Int.tdiv_nonneg (by omega) (by omega);have q1 : (i : Int).tdiv c.sh ≤ i := Int.tdiv_le_self _ (by omega);have t0 : 0 ≤ (i : Int).tmod 2 := Int.tmod_nonneg _ (by omega);have t1 : (i : Int).tmod 2 < 2 := Int.tmod_lt_of_pos _ (by omega);have next : ∀ {H : AH}, ac (blk b3 (.cells false [vp p, vp x]) * (blk b2 (.cells false [.pointer none, .pointer none]) * (blk b (.cells false (eR.cells c)) * (eS p (az.made c (i + 1)) * (bD x (az.made c (i + 1)) * R))))) H →
    wp (o8 (vi n) (vp b) (vp b2) (vb false) (vp b3) (vi i) H) fun v' H' => ∃ g : Nat × Nat × eR, v' = .tuple #[.agg [vp g.1, vp g.2.1].toArray, vb true] ∧ ac (pu (bM g.2.2 = true) * (eS g.1 (az.made g.2.2 n) * bD g.2.1 (az.made g.2.2 n)) * R) H' := by
    intro H h;refine aj (z2 _ _ _ _ _ _ H) ?_;refine aa (aO (by omega) (by omega)) ?_;exact ih (i + 1) H (by omega) h
   refine aj (o7 _ _ _ _ _ _ H) ?_;refine aa (cJ (by omega)) ?_;refine gs ?_;refine aj (z1 _ _ _ _ _ _ H) ?_;refine aq h aD rfl ?_;refine aa (JW (by omega) (by omega) (by omega)) ?_;refine aq h aD rfl ?_
   by_cases hf : (i : Int).tdiv c.sh < c.sl
   ·have e : az.made c (i + 1) = (az.made c i).lay i (1 + i) (2 + (i : Int).tmod 2) := by show (if _ then _ else _) = _; rw [if_pos hf]
    rw [e] at next;refine aa (cJ hf) ?_;refine gs ?_;refine aU h ?_;refine gs ?_;refine aa (aO (by omega) (by omega)) ?_;refine gs ?_;refine aa (i8 (by omega)) ?_;refine gs ?_;refine aa (aO (by omega) (by omega)) ?_;refine gs ?_;refine ag h (Xw p (az.made c i) x i (1 + i) (2 + (i : Int).tmod 2) (by rw [m1]; exact hc) (by omega) (by omega) (by omega) (by omega)) fun _ H2 h2 => ?_;refine gs ?_;rw [Bool.not_true];refine gs ?_;exact next h2.to
   ·have e : az.made c (i + 1) = az.made c i := by show (if _ then _ else _) = _; rw [if_neg hf]
    rw [e] at next;refine aa (b4 hf) ?_;refine gs ?_;exact next h
 exact loop n 0 H8 (by omega) (show ac (blk b3 (.cells false [vp p, vp x]) * (blk b2 (.cells false [.pointer none, .pointer none]) * (blk b (.cells false (eR.cells c)) * (eS p (az.new c) * (bD x (az.new c) * R))))) H8 from h8.to)
theorem Hr {o : Nat} {x : Value} {k : Value → OV} {Q : Value → AH → Prop} (h : wp (k undef) Q) : wp (yq (vb false) true [.n, .f o] x k) Q := h
theorem Ht {p : List Stp} {x : Value} {k : Value → OV} {Q : Value → AH → Prop} (h : wp (ad p x k) Q) : wp (yq (vb true) true p x k) Q := by rw [rN]; exact h
section
variable {m i rp : Nat} {cs : List Pk} {R : SP} {H : AH}
theorem bP (h : ac (b5 m i rp cs * R) H) : ∃ cv, ac (blk rp (.cells false [vp m, vi i, cv]) * (ts 3 Pk.cells cv cs * R)) H := by
 obtain ⟨cv, h1⟩ := ac.ex.1 h;exact ⟨cv, h1.to⟩
theorem wR {cv : Value} (h : ac (blk rp (.cells false [vp m, vi i, cv]) * (ts 3 Pk.cells cv cs * R)) H) : ac (b5 m i rp cs * R) H :=
 ac.ex.2 ⟨cv, h.to⟩
theorem eC (h : ac (cp m i rp cs * R) H) : ∃ cv, ac (blk rp (.cells false [vp m, vi i, vi cs.length, cv]) * (ts 3 Pk.cells cv cs * R)) H := by
 obtain ⟨cv, h1⟩ := ac.ex.1 h;exact ⟨cv, h1.to⟩
theorem lO {cv : Value} (h : ac (blk rp (.cells false [vp m, vi i, vi cs.length, cv]) * (ts 3 Pk.cells cv cs * R)) H) : ac (cp m i rp cs * R) H :=
 ac.ex.2 ⟨cv, h.to⟩
end
section
variable (m i rp : Nat) (cs : List Pk) (μ : Mu)
theorem uz (kind cell : Int) : Sp cY [vp rp, vi kind, vi cell] (b5 m i rp cs) (fun _ : Unit => dl (kind, (i : Int), cell)) (fun _ => b5 m i rp cs) := by
 refine aX fun R H h => ?_;obtain ⟨cv, h0⟩ := bP h;refine a9 (fun r => xX _ _ _ H) ?_;refine bj h0 fun b H1 h1 => ?_;refine aq h1 ae rfl ?_;refine j9 ?_;refine f7 h1 rfl rfl fun H2 h2 => ?_;refine aU h2 ?_;exact ap ⟨(), rfl, wR (cv := cv) h2.to⟩
theorem wg (who : Int) (hE : μ.N < 1099511627000) : Sp dV [vp rp, vi who] (b5 m i rp cs * a8 m μ) (fun _ : Unit => vu (μ.V (11, (i : Int), 0))) (fun _ => b5 m i rp cs * a8 m (μ.acc who 1 (11, (i : Int), 0))) := by
 refine aX fun R H h => ?_;obtain ⟨cv, h0⟩ := bP (m := m) (i := i) (rp := rp) (cs := cs) (R := a8 m μ * R) (H := H) h.to;refine a9 (fun r => ux _ _ H) ?_;refine bg ae ?_;refine aN h0 rfl ?_;refine ag h (uz m i rp cs 11 0) fun _ H1 h1 => ?_;obtain ⟨cv1, k1⟩ := bP h1;refine aG k1 h0 (by rfl) ?_;refine ag h1 (vI m μ who (11, (i : Int), 0) (by omega)) fun _ H2 h2 => ?_;exact ap ⟨(), rfl, h2.to⟩
theorem CE (who : Int) (hE : μ.N < 1099511627000) : Sp fN [vp rp, vi who] (b5 m i rp cs * a8 m μ) (fun _ : Unit => vu (μ.V (12, (i : Int), 0))) (fun _ => b5 m i rp cs * a8 m (μ.acc who 1 (12, (i : Int), 0))) := by
 refine aX fun R H h => ?_;obtain ⟨cv, h0⟩ := bP (m := m) (i := i) (rp := rp) (cs := cs) (R := a8 m μ * R) (H := H) h.to;refine a9 (fun r => uv _ _ H) ?_;refine bg ae ?_;refine aN h0 rfl ?_;refine ag h (uz m i rp cs 12 0) fun _ H1 h1 => ?_;obtain ⟨cv1, k1⟩ := bP h1;refine aG k1 h0 (by rfl) ?_;refine ag h1 (vI m μ who (12, (i : Int), 0) (by omega)) fun _ H2 h2 => ?_;exact ap ⟨(), rfl, h2.to⟩
def kQ (w h k : Nat) : Bool := decide (h ≤ ay w ∧ k ≤ ay w - h)
theorem CD (w h : Nat) (hw : w < 18446744073709551616) (hc : cs.length < 1000) : Sp fM [vp rp, vu w, vu h] (b5 m i rp cs) (fun _ : Unit => vb (kQ w h cs.length)) (fun _ => b5 m i rp cs) := by
 refine aX fun R H hh => ?_;have hl := d7 w;refine a9 (fun r => uu _ _ _ H) ?_;refine ag hh (jb w hw) fun _ H1 h1 => ?_
 by_cases hle : h ≤ ay w
 ·refine aa (wG (by omega)) ?_
  refine gs ?_;refine aa (ka hle (by omega)) ?_;obtain ⟨cv, h2⟩ := bP (m := m) (i := i) (rp := rp) (cs := cs) (R := R) (H := H1) h1.to;refine gs ?_;refine aq h2 ae rfl ?_;refine gs ?_;refine gD (s := cv) (l := cs) h2 ?_;refine gs ?_;refine aa (da (by omega) (by omega)) ?_;rw [show ((cs.length : Nat) : Int).toNat = cs.length from rO _];refine gs ?_
  by_cases hk : cs.length ≤ ay w - h
  ·refine aa (wG (by omega)) ?_
   refine gs ?_;exact ap ⟨(), by rw [kQ, ia ⟨hle, hk⟩], h1.to⟩
  ·refine aa (nW (by omega)) ?_
   refine gs ?_;exact ap ⟨(), by rw [kQ, hZ (fun q => hk q.2)], h1.to⟩
 ·refine aa (nW (by omega)) ?_
  refine gs ?_;exact ap ⟨(), by rw [kQ, hZ (fun q => hle q.1)], h1.to⟩
abbrev Mu.turn (μ : Mu) (who : Int) (i w : Nat) (o : Option Nat) : Mu := match o with
 | none => μ
 | some n => μ.swp who (11, (i : Int), 0) w n
def cG (μ : Mu) (i w : Nat) (o : Option Nat) : Bool := o.isSome && decide (μ.V (11, (i : Int), 0) = w)
theorem QC (who : Int) (w fn : Nat) (o : Option Nat) (hf : Sp fn [vu w] emp (fun _ : Unit => JD o) (fun _ => emp)) (hE : μ.N < 1099511627000) :
 Sp i5 [vp rp, vi who, vu w, .func (.func fn) #[] #[]] (b5 m i rp cs * a8 m μ) (fun _ : Unit => vb (cG μ i w o)) (fun _ => b5 m i rp cs * a8 m (μ.turn who i w o)) := by
 refine aY (uy _ _ _ _) fun R H h => ?_;refine aj (show (b6 (.func (.func fn) #[] #[]) [vu w]).bind _ = _ from rfl) ?_;refine ag h hf fun _ H1 h1 => ?_
 cases o with
 | none =>
  refine aa (v := vw 0) rfl ?_;refine aa (v := vb false) rfl ?_;refine gs ?_;refine Hr ?_;refine gs ?_;refine Ba rfl ?_;refine gs ?_;exact ap ⟨(), rfl, h1.to⟩
 | some n =>
  refine aa (v := vu n) rfl ?_;refine aa (v := vb true) rfl ?_;refine gs ?_;refine Ht ?_;obtain ⟨cv, k1⟩ := bP (m := m) (i := i) (rp := rp) (cs := cs) (R := a8 m μ * R) (H := H1) h1.to;refine bg ae ?_;refine gs ?_;refine aN k1 rfl ?_;refine gs ?_;refine ag h1 (uz m i rp cs 11 0) fun _ H2 h2 => ?_;obtain ⟨cv2, k2⟩ := bP (m := m) (i := i) (rp := rp) (cs := cs) (R := a8 m μ * R) (H := H2) h2.to;refine aG k2 k1 (by rfl) ?_;refine gs ?_;refine ag h2 (JM m μ who (11, (i : Int), 0) w n (by omega)) fun _ H3 h3 => ?_;refine gs ?_;exact ap ⟨(), rfl, h3.to⟩
theorem AJ (who : Int) (w : Nat) (hw : w < 18446744073709551616) (hE : μ.N < 1099511627000) : Sp fc [vp rp, vi who, vu w] (b5 m i rp cs * a8 m μ) (fun _ : Unit => vb (cG μ i w (aL w 0))) (fun _ => b5 m i rp cs * a8 m (μ.turn who i w (aL w 0))) := by
 refine aY (sH _ _ _) fun R H h => ?_;refine ag h (QC m i rp cs μ who w lG (aL w 0) (Q4 w hw) hE) fun _ H1 h1 => ?_;exact ap ⟨(), rfl, h1.to⟩
end
end Go.Proofs.YtghoamdlcjdfjaaGreatDoor.Gst
