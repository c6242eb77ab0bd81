/- Several texts in one. -/
import Derived.Test.YtghoamdlcjdfjaaGreatDoorAcc
namespace Go.Proofs.YtghoamdlcjdfjaaGreatDoor.Gst
open Go Go.RowKit
set_option maxRecDepth 100000
set_option linter.unusedVariables false
set_option maxHeartbeats 1000000
set_option linter.unusedSimpArgs false
set_option synthInstance.maxSize 2000
set_option synthInstance.maxHeartbeats 400000
section
variable (Y Z x2 x3 x4 x5 x6 x7 x8 x13 x14 x15 : Value) (H : AH)
theorem zc {r : Value × AH} (h : (
 aW (Value.cells x3).toList H fun c a =>
 ld [.n, .f 1] Y a fun d =>
 (aC 3 c a).bind fun e =>
 iz [(0, 1), (1, 1), (2, 3)] [(vi 0), (vi 0), (vi 0), (vi 0), (vi 0)] [(0, Z), (1, x2), (2, e)] fun g =>
 ze 1 5 [(vi 0), (vi 0), (vi 0), (vi 0), (vi 0)] [(0, g)] a fun i j =>
 (dN 5 40 d i j).bind fun b =>
 st 1 [.n, .f 1] Y b.1 b.2 fun k =>
 some (Value.tuple #[], k)) = some r) : FF cM [Y, Z, x2, x3] H = some r :=
 fo Tryz.func104 (by kernel_rfl) h
theorem y9 {r : Value × AH} (h : (
 aW (Value.cells Z).toList H fun b a =>
 ld [.n, .f 0] Y a fun c =>
 (aC 3 b a).bind fun d =>
 (cu (.flat 3) (.agg #[(vw 0)]) c d false a).bind fun e =>
 (j2 none 0 e).bind fun g =>
 some (g, a)) = some r) : FF d6 [Y, Z] H = some r :=
 fo Tryz.func105 (by kernel_rfl) h
theorem qJ {r : Value × AH} (h : (
 ld [.n, .f 11] Y H fun a =>
 (dG .int a Z x2 H).bind fun b =>
 some (Value.tuple #[], b)) = some r) : FF gn [Y, Z, x2] H = some r :=
 fo Tryz.func106 (by kernel_rfl) h
theorem tW {r : Value × AH} (h : (
 ld [.n, .f 12] Y H fun b =>
 ze 2 1 [(vi 0)] [(0, Z), (1, x2)] H fun c d =>
 (dN 1 8 b c d).bind fun a =>
 st 1 [.n, .f 12] Y a.1 a.2 fun e =>
 some (Value.tuple #[], e)) = some r) : FF iP [Y, Z, x2] H = some r :=
 fo Tryz.func107 (by kernel_rfl) h
noncomputable def Gf (p : List Nat) : Code := Code.sub (bP Tryz.f108) p
noncomputable def s9 : KK := e6 PP (Tryz.f108).results.toList
noncomputable def QL : KK := CQ (Gf [1]) s9 bC s9
noncomputable def yn : OV := QL (ls [Y, Z, u, u, x4, x5] 45) H
noncomputable def Gg : KK := CQ (Gf [1, 1]) s9 bC s9
noncomputable def ahV : KK := dn Qs Gg
noncomputable def pW : OV := Gg (ls [Y, Z, u, u, x4, x5] 45) H
noncomputable def ahW : KX := BX 0 ahV bC
theorem uz : ap 2251799813685199 s9 := rf
theorem U3 : ap Qs QL := rc uz aA uz
theorem EA : ap Qs Gg := rc uz aA uz
theorem U4 : ∀ i, ap Qs (ahW i) := rb (cd EA) aA
theorem A4 : pW Y Z x4 x5 H =
 (FF jr [Y, Z] H).bind fun a =>
 (ak a.1 0).bind fun c =>
 (ak a.1 1).bind fun d =>
 (dc 4 x4 c a.2).bind fun b =>
 (aC 4 x4 b).bind fun e => some (Value.tuple #[e, d], b) :=
 (by kernel_rfl)
theorem AZ : yn Y Z x4 x5 H =
 ld [.n, .f 2, .f 2] Y H fun i =>
 (aj .other .lss i (vi 1)).bind fun a =>
 (gV a false Y).bind fun j =>
 fG a false  [.n, .f 2, .f 2] j H fun k =>
 (gB a false (aj .other .gtr k (vi 65536))).bind fun l =>
 (aM a (vb true) l).bind fun m =>
 aw m
 ((FF iu [Y, Z, (vi 3)] H).bind fun c =>
 (ak c.1 0).bind fun o =>
 (ak c.1 1).bind fun p =>
 (dc 4 x4 o c.2).bind fun e =>
 (aC 4 x4 e).bind fun q => some (Value.tuple #[q, p], e))
 (ld [.n, .f 2, .f 1] Y H fun s =>
 (aj .other .lss s (vi 0)).bind fun b =>
 (gV b false Y).bind fun t =>
 fG b false  [.n, .f 2, .f 1] t H fun w =>
 (gB b false (aj .other .gtr w (vi 1048576))).bind fun y =>
 (aM b (vb true) y).bind fun z =>
 aw z
 ((FF iu [Y, Z, (vi 5)] H).bind fun d =>
 (ak d.1 0).bind fun A =>
 (ak d.1 1).bind fun B =>
 (dc 4 x4 A d.2).bind fun g =>
 (aC 4 x4 g).bind fun C => some (Value.tuple #[C, B], g))
 (pW Y Z x4 x5 H)) :=
 (pt rfl 0 EA (bt rfl (Gf [1, 0, 4]) 0 U4 (by kernel_rfl)))
noncomputable def Zn : OV := aT PP GG FF (Gf []) (ls [Y, Z] 49) H s9 bC s9
theorem Jy {r : Value × AH} (h : (
 aW [(vi 0), (.slice none 0 0), (vi 0), (vw 0)] H fun a b =>
 yn Y Z a (vb false) b) = some r) : FF lK [Y, Z] H = some r :=
 fo (t := Zn Y Z H) Tryz.func108 (by kernel_rfl) (Eq.trans (pt rfl 0 U3 (by kernel_rfl)) h)
noncomputable def MQ (p : List Nat) : Code := Code.sub (bP Tryz.f109) p
noncomputable def ta : KK := e6 PP (Tryz.f109).results.toList
noncomputable def QM : KK := CQ (MQ [1, 1]) ta bC ta
noncomputable def lY : OV := QM (ls [Y, u, u, u, x4, x5] 15) H
noncomputable def QN : KK := CQ (MQ [1, 1, 1]) ta bC ta
noncomputable def ik : OV := QN (ls [u, u, u, u, x4, x5] 15) H
theorem uA : ap 2097135 ta := rf
theorem U5 : ap 2097102 QM := rc uA aA uA
theorem U6 : ap 2097103 QN := rc uA aA uA
theorem jc : ik x4 x5 H =
 some (x5, H) :=
 (by kernel_rfl)
theorem pN : lY Y x4 x5 H =
 (aj .other .lss x5 (vi 0)).bind fun a =>
 aw a
 (ld [.n, .f 1] Y H fun b =>
 (aj .other .add x5 b).bind fun c =>
 ik x4 c H)
 (ik x4 x5 H) :=
 (pt rfl 0 U6 (by kernel_rfl))
noncomputable def zB : OV := aT PP GG FF (MQ []) (ls [Y, Z] 19) H ta bC ta
theorem tX {r : Value × AH} (h : (
 ld [.n, .f 1] Y H fun a =>
 (aj .other .rem Z a).bind fun b =>
 lY Y (vi 0) b H) = some r) : FF fB [Y, Z] H = some r :=
 fo (t := zB Y Z H) Tryz.func109 (by kernel_rfl) (Eq.trans (pt rfl 1 U5 (by kernel_rfl)) h)
theorem xJ {r : Value × AH} (h : (
 iz [(0, 1), (1, 1), (2, 1), (3, 1)] [(vi 0), (.slice none 0 0), (vi 0), (vw 0)] [(0, x2)] fun b =>
 st 4 [.n, .f 17] Y b H fun a =>
 ld [.n, .f 0] Y a fun c =>
 ld [.n, .f 1] Y a fun d =>
 ldN 4 [.n, .f 17] Y a fun e =>
 (FF adE [c, Z, d, e] a).bind fun g =>
 some (Value.tuple #[], g.2)) = some r) : FF cC [Y, Z, x2] H = some r :=
 fo Tryz.func110 (by kernel_rfl) h
noncomputable def MV (p : List Nat) : Code := Code.sub (bP Tryz.f111) p
noncomputable def tc : KK := e6 PP (Tryz.f111).results.toList
noncomputable def QO : KK := CQ (MV [1, 1, 1]) tc bC tc
noncomputable def aeO : OV := QO (ls [Y, u, x2, x3, u, u, x6] 88) H
noncomputable def QP : KK := CQ (MV [1, 1, 1, 1]) tc bC tc
noncomputable def It : OV := QP (ls [Y, u, x2, x3] 91) H
theorem uC : ap 39614081257132168796771975155 tc := rf
theorem U8 : ap 39614081257132168796771975090 QO := rc uC aA uC
theorem U9 : ap 39614081257132168796771975154 QP := rc uC aA uC
theorem Xz : It Y x2 x3 H =
 ld [.n, .f 7] Y H fun b =>
 (aj .other .add b (vi 1)).bind fun c =>
 st 1 [.n, .f 7] Y c H fun a =>
 ld [.n, .f 7] Y a fun d =>
 ld [.n, .f 0] Y a fun e =>
 ld [.n, .f 7] e a fun g =>
 ld [.n, .f 2] g a fun i =>
 (aj .other .geq d i).bind fun j =>
 some (Value.tuple #[(vb false), j], a) :=
 (by kernel_rfl)
theorem Fp : aeO Y x2 x3 x6 H =
 (pM .not x6).bind fun a =>
 (gV a true Y).bind fun b =>
 fG a true  [.n, .f 8] b H fun c =>
 (gB a true (aj .other .lss c (vi 0))).bind fun d =>
 (aM a d (vb false)).bind fun e =>
 aw e
 (ld [.n, .f 7] Y H fun g =>
 st 1 [.n, .f 8] Y g H fun i =>
 It Y x2 x3 i)
 (It Y x2 x3 H) :=
 (pt rfl 0 U9 (by kernel_rfl))
noncomputable def rTs : OV := aT PP GG FF (MV []) (ls [Y] 94) H tc bC tc
theorem amR {r : Value × AH} (h : (
 ad [.n, .f 0] Y fun d =>
 (au d H).bind fun j =>
 ad [.n, .f 7] j fun e =>
 (au e H).bind fun k =>
 ad [.n, .f 1] Y fun g =>
 (au g H).bind fun l =>
 ld [.n, .f 0] Y H fun m =>
 ld [.n, .f 7] m H fun o =>
 ld [.n, .f 2, .f 1] Y H fun p =>
 (FF fB [o, p] H).bind fun a =>
 bJ (au d a.2) (au d H) <|
 bJ (au e a.2) (au e H) <|
 bJ (au g a.2) (au g H) <|
 ad [.n, .f 7] Y fun i =>
 (au i a.2).bind fun q =>
 bJ (au i H) (au i a.2) <|
 (FF jz [k, l, a.1, q] a.2).bind fun b =>
 (ak b.1 0).bind fun s =>
 (ak b.1 1).bind fun w =>
 (ak b.1 2).bind fun c =>
 (gV c true s).bind fun y =>
 (gV c true Y).bind fun z =>
 fG c true  [.n, .f 2, .f 1] z b.2 fun A =>
 (gB c true (aj .other .eql y A)).bind fun B =>
 (aM c B (vb false)).bind fun C =>
 aw C
 (st 1 [.n, .f 9] Y (vb true) b.2 fun D =>
 st 1 [.n, .f 10] Y w D fun E =>
 some (Value.tuple #[(vb true), (vb false)], E))
 (aeO Y (vb false) (vb false) c b.2)) = some r) : FF SW [Y] H = some r :=
 fo (t := rTs Y H) Tryz.func111 (by kernel_rfl) (Eq.trans (pt rfl 2 U8 (by kernel_rfl)) h)
theorem vO {r : Value × AH} (h : (
 ad [.n, .f 0] Y fun a =>
 (au a H).bind fun d =>
 (FF bX [(vi 8), x2, (vi 0)] H).bind fun b =>
 bJ (au a b.2) (au a H) <|
 (FF fP [d, Z, b.1, (vw 0), (vw 1)] b.2).bind fun c =>
 some (c.1, c.2)) = some r) : FF jy [Y, Z, x2] H = some r :=
 fo Tryz.func112 (by kernel_rfl) h
theorem sy {r : Value × AH} (h : (
 ad [.n, .f 0] Y fun a =>
 (au a H).bind fun c =>
 (FF bX [(vi 8), x2, (vi 0)] H).bind fun b =>
 bJ (au a b.2) (au a H) <|
 (FF fc [c, Z, b.1, (vw 0)] b.2).bind fun d =>
 some (Value.tuple #[], d.2)) = some r) : FF ia [Y, Z, x2] H = some r :=
 fo Tryz.func113 (by kernel_rfl) h
theorem xA {r : Value × AH} (h : (
 aW [(vi 0), (vi 0), (vw 0)] H fun c b =>
 (aj .other .lss x2 (vi 0)).bind fun a =>
 (gV a false x2).bind fun l =>
 (gV a false Y).bind fun m =>
 fG a false  [.n, .f 10] m b fun o =>
 (ue (yv a) false (ep o some) (some undef)).bind fun p =>
 (gB a false (aj .other .geq l p)).bind fun q =>
 (aM a (vb true) q).bind fun s =>
 aw s
 (iz [(0, 1), (1, 1), (2, 1)] [(vi 0), (vi 0), (vw 0)] [] fun t =>
 (dc 3 c t b).bind fun j =>
 (aC 3 c j).bind fun w => some (w, j))
 (ad [.n, .f 5] Y fun d =>
 (au d b).bind fun y =>
 (FF bX [(vi 13), x2, (vi 0)] b).bind fun e =>
 bJ (au d e.2) (au d b) <|
 (FF bN [y, Z, (vi 5), e.1] e.2).bind fun g =>
 ld [.n, .f 10] Y g.2 fun z =>
 ldN 3 [.i 3 x2] z g.2 fun A =>
 (dc 3 c A g.2).bind fun k =>
 (aC 3 c k).bind fun B => some (B, k))) = some r) : FF kc [Y, Z, x2] H = some r :=
 fo Tryz.func114 (by kernel_rfl) h
theorem xL {r : Value × AH} (h : (
 (FF bK [Y] H).bind fun a =>
 ad [.n, .f 1] Y fun c =>
 (au c a.2).bind fun g =>
 bJ (au c H) (au c a.2) <|
 (FF kg [a.1, g] a.2).bind fun d =>
 st 1 [.n, .f 11] Y d.1 d.2 fun e =>
 ld [.n, .f 11] Y e fun i =>
 (FF fO [i] e).bind fun b =>
 (ak b.1 0).bind fun k =>
 (ak b.1 1).bind fun j =>
 (ak b.1 2).bind fun l =>
 some (j, b.2)) = some r) : FF gR [Y] H = some r :=
 fo Tryz.func115 (by kernel_rfl) h
theorem xK {r : Value × AH} (h : (
 ld [.n, .f 0] Y H fun a =>
 ld [.n, .f 11] a H fun b =>
 ld [.n, .f 10] Y H fun c =>
 ld [.i 1 c] b H fun d =>
 some (d, H)) = some r) : FF bK [Y] H = some r :=
 fo Tryz.func116 (by kernel_rfl) h
theorem xE {r : Value × AH} (h : (
 ad [.n, .f 0] Y fun a =>
 (au a H).bind fun d =>
 ld [.n, .f 1] Y H fun e =>
 (FF bX [(vi 12), e, (vi 0)] H).bind fun b =>
 bJ (au a b.2) (au a H) <|
 (FF dj [d, Z, b.1] b.2).bind fun c =>
 some (c.1, c.2)) = some r) : FF gP [Y, Z] H = some r :=
 fo Tryz.func117 (by kernel_rfl) h
theorem Ie {r : Value × AH} (h : (
 (aj .other .rem Y (vw 2305843009213693952)).bind fun b =>
 (aj .other .quo Y (vw 2305843009213693952)).bind fun c =>
 (bI (some .i64) c).bind fun a =>
 (aj .other .gtr a (vi 2)).bind fun d =>
 aw d
 (some (Value.tuple #[(vw 0), (vi (-1)), (vb false)], H))
 (some (Value.tuple #[b, a, (vb true)], H))) = some r) : FF fO [Y] H = some r :=
 fo Tryz.func118 (by kernel_rfl) h
theorem xD {r : Value × AH} (h : (
 (FF fO [Z] H).bind fun b =>
 (ak b.1 0).bind fun c =>
 (ak b.1 1).bind fun o =>
 (ak b.1 2).bind fun p =>
 (aj .other .geq c x2).bind fun a =>
 (gV a true c).bind fun d =>
 (gV a true x2).bind fun e =>
 (gB a true (aj .other .sub d e)).bind fun g =>
 (gV a true Y).bind fun i =>
 fG a true  [.n, .f 2] i b.2 fun j =>
 (gB a true (bI (some .u64) j)).bind fun k =>
 (gB a true (aj .other .geq g k)).bind fun l =>
 (aM a l (vb false)).bind fun m =>
 some (m, b.2)) = some r) : FF gO [Y, Z, x2] H = some r :=
 fo Tryz.func119 (by kernel_rfl) h
noncomputable def Gj (p : List Nat) : Code := Code.sub (bP Tryz.f120) p
noncomputable def p6 : KK := e6 PP (Tryz.f120).results.toList
noncomputable def QQ : KK := CQ (Gj [1]) p6 bC p6
noncomputable def mC : OV := QQ (ls [Y, Z] 48) H
noncomputable def QR : KK := CQ (Gj [1, 1]) p6 bC p6
noncomputable def fE : OV := QR (ls [Y, Z] 48) H
noncomputable def ahY : KX := BX 0 p6 bC
theorem p7 : ap 1125899906842623 p6 := rf
theorem Va : ap 1125899906842620 QQ := rc p7 aA p7
theorem Vb : ap 1125899906842620 QR := rc p7 aA p7
theorem Vc : ∀ i, ap 1125899906842623 (ahY i) := rb p7 aA
theorem qR : fE Y Z H =
 (FF bK [Y] H).bind fun a =>
 ad [.n, .f 1] Y fun c =>
 (au c a.2).bind fun g =>
 bJ (au c H) (au c a.2) <|
 ad [.n, .f 11] Y fun d =>
 (au d a.2).bind fun i =>
 bJ (au d H) (au d a.2) <|
 (FF kf [a.1, g, i, (vi 0)] a.2).bind fun b =>
 aw b.1
 ((FF cC [Y, Z, (vi 0)] b.2).bind fun e =>
 ld [.n, .f 6] Y e.2 fun j =>
 (aj .other .add j (vi 1)).bind fun k =>
 st 1 [.n, .f 6] Y k e.2 fun l =>
 some (Value.tuple #[], l))
 (ld [.n, .f 6] Y b.2 fun m =>
 (aj .other .eql m (vi 9)).bind fun o =>
 aw o
 (st 1 [.n, .f 6] Y (vi 7) b.2 fun p =>
 some (Value.tuple #[], p))
 (st 1 [.n, .f 6] Y (vi 20) b.2 fun q =>
 some (Value.tuple #[], q))) :=
 (bt rfl (Gj [1, 1, 4]) 0 Vc (by kernel_rfl))
theorem qQ : mC Y Z H =
 ld [.n, .f 6] Y H fun a =>
 (aj .other .eql a (vi 13)).bind fun b =>
 aw b
 (st 1 [.n, .f 13] Y (vw 1) H fun c =>
 fE Y Z c)
 (fE Y Z H) :=
 (pt rfl 0 Vb (by kernel_rfl))
noncomputable def CU : OV := aT PP GG FF (Gj []) (ls [Y, Z] 48) H p6 bC p6
theorem vQ {r : Value × AH} (h : (
 st 1 [.n, .f 13] Y (vw 0) H fun a =>
 mC Y Z a) = some r) : FF jA [Y, Z] H = some r :=
 fo (t := CU Y Z H) Tryz.func120 (by kernel_rfl) (Eq.trans (pt rfl 0 Va (by kernel_rfl)) h)
theorem zA {r : Value × AH} (h : (
 aW (Value.cells x3).toList H fun g a =>
 ad [.n, .f 0] Y fun b =>
 (au b a).bind fun m =>
 ad [.n, .f 1] Y fun j =>
 (au j a).bind fun o =>
 (FF dw [Y, x2] a).bind fun d =>
 bJ (au b d.2) (au b a) <|
 bJ (au j d.2) (au j a) <|
 (FF bX [(vi 16), o, d.1] d.2).bind fun k =>
 bJ (au b k.2) (au b a) <|
 (FF bN [m, Z, (vi 6), k.1] k.2).bind fun e =>
 ad [.n, .f 3] Y fun l =>
 (au l e.2).bind fun p =>
 (FF dw [Y, x2] e.2).bind fun c =>
 bJ (au l c.2) (au l e.2) <|
 (aC 3 g c.2).bind fun q =>
 bJ (aC 3 g e.2) (aC 3 g c.2) <|
 st 3 [.i 3 c.1] p q c.2 fun s =>
 some (Value.tuple #[], s)) = some r) : FF lR [Y, Z, x2, x3] H = some r :=
 fo Tryz.func121 (by kernel_rfl) h
theorem vR {r : Value × AH} (h : (
 ld [.n, .f 11] Y H fun b =>
 (FF fO [b] H).bind fun a =>
 (ak a.1 0).bind fun c =>
 (ak a.1 1).bind fun d =>
 (ak a.1 2).bind fun e =>
 some (c, a.2)) = some r) : FF d9 [Y] H = some r :=
 fo Tryz.func122 (by kernel_rfl) h
theorem xF {r : Value × AH} (h : (
 ad [.n, .f 0] Y fun a =>
 (au a H).bind fun e =>
 ad [.n, .f 1] Y fun c =>
 (au c H).bind fun g =>
 (FF dw [Y, x2] H).bind fun b =>
 bJ (au a b.2) (au a H) <|
 bJ (au c b.2) (au c H) <|
 (FF bX [(vi 15), g, b.1] b.2).bind fun d =>
 bJ (au a d.2) (au a H) <|
 (aj .other .add x2 (vw 1)).bind fun i =>
 (FF fc [e, Z, d.1, i] d.2).bind fun j =>
 some (Value.tuple #[], j.2)) = some r) : FF gQ [Y, Z, x2] H = some r :=
 fo Tryz.func123 (by kernel_rfl) h
theorem tQ {r : Value × AH} (h : (
 ad [.n, .f 0] Y fun a =>
 (au a H).bind fun c =>
 (FF bX [(vi 3), (vi 0), (vi 0)] H).bind fun b =>
 bJ (au a b.2) (au a H) <|
 (FF jM [c, Z, b.1, (vw 4294967296)] b.2).bind fun d =>
 some (Value.tuple #[], d.2)) = some r) : FF iO [Y, Z] H = some r :=
 fo Tryz.func124 (by kernel_rfl) h
noncomputable def Bf (p : List Nat) : Code := Code.sub (bP Tryz.f125) p
noncomputable def p8 : KK := e6 PP (Tryz.f125).results.toList
noncomputable def QT : KK := CQ (Bf [1]) p8 bC p8
noncomputable def aeM : OV := QT (ls [Y, Z, u, u, x4] 100) H
noncomputable def Gk : KK := CQ (Bf [1, 1]) p8 bC p8
noncomputable def QS : KK := dn Qn Gk
noncomputable def oT : OV := Gk (ls [u, u, u, u, x4] 100) H
noncomputable def QU : KK := CQ (Bf [1, 0, 1]) QS bC p8
noncomputable def aeN : OV := QU (ls [Y, Z, u, u, x4, u, u, u, x8] 96) H
noncomputable def ahZ : KX := BX 0 QS bC
theorem p9 : ap Qn p8 := rf
theorem Vd : ap 40564819207303340847894502572012 QT := rc p9 aA p9
theorem wK : ap Qn Gk := rc p9 aA p9
theorem Ve : ap 40564819207303340847894502571756 QU := rc (cd wK) aA p9
theorem Vf : ∀ i, ap Qn (ahZ i) := rb (cd wK) aA
theorem jE : oT x4 H =
 some ((vb false), H) :=
 (by kernel_rfl)
theorem r6 : aeN Y Z x4 x8 H =
 (aj .other .eql x8 (vi 15)).bind fun q =>
 aw q
 (ld [.n, .f 0] Y H fun s =>
 ld [.n, .f 1] Y H fun t =>
 (FF gN [s, t] H).bind fun o =>
 st 1 [.n, .f 13] Y o.1 o.2 fun w =>
 st 1 [.n, .f 6] Y (vi 16) w fun d =>
 ld [.n, .f 13] Y d fun y =>
 (aj .other .rem y (vw 2)).bind fun z =>
 (aj .other .eql z (vw 1)).bind fun A =>
 aw A
 (st 1 [.n, .f 6] Y (vi 7) d fun B =>
 oT x4 B)
 (oT x4 d))
 ((aj .other .eql x8 (vi 16)).bind fun C =>
 aw C
 (st 1 [.n, .f 6] Y (vi 17) H fun D =>
 (FF gR [Y] D).bind fun e =>
 (aj .other .eql e.1 (vi 2)).bind fun E =>
 aw E
 (st 1 [.n, .f 6] Y (vi 3) e.2 fun G =>
 oT x4 G)
 (oT x4 e.2))
 ((aj .other .eql x8 (vi 17)).bind fun I =>
 aw I
 ((FF bK [Y] H).bind fun c =>
 ad [.n, .f 1] Y fun g =>
 (au g c.2).bind fun J =>
 bJ (au g H) (au g c.2) <|
 (FF gP [c.1, J] c.2).bind fun p =>
 st 1 [.n, .f 12] Y p.1 p.2 fun K =>
 st 1 [.n, .f 16] Y Z K fun L =>
 st 1 [.n, .f 6] Y (vi 18) L fun i =>
 (FF bK [Y] i).bind fun a =>
 ad [.n, .f 11] Y fun j =>
 (au j a.2).bind fun M =>
 bJ (au j i) (au j a.2) <|
 ad [.n, .f 12] Y fun k =>
 (au k a.2).bind fun N =>
 bJ (au k i) (au k a.2) <|
 (FF gO [a.1, M, N] a.2).bind fun l =>
 (pM .not l.1).bind fun O =>
 aw O
 (st 1 [.n, .f 6] Y (vi 7) l.2 fun P =>
 oT x4 P)
 (oT x4 l.2))
 ((aj .other .eql x8 (vi 18)).bind fun Q =>
 aw Q
 (ld [.n, .f 0] Y H fun R =>
 ld [.n, .f 1] Y H fun S =>
 (FF gN [R, S] H).bind fun b =>
 ad [.n, .f 13] Y fun m =>
 (au m b.2).bind fun T =>
 bJ (au m H) (au m b.2) <|
 (aj .other .eql b.1 T).bind fun U =>
 aw U
 (ld [.n, .f 16] Y b.2 fun V =>
 (FF cC [Y, V, (vi 9)] b.2).bind fun W =>
 some ((vb true), W.2))
 (st 1 [.n, .f 6] Y (vi 7) b.2 fun X =>
 oT x4 X))
 (oT x4 H)))) :=
 (bt rfl (Bf [1, 0, 1, 4]) 0 Vf (by kernel_rfl))
theorem r5 : aeM Y Z x4 H =
 ld [.n, .f 6] Y H fun a =>
 aeN Y Z x4 a H :=
 (pt rfl 0 wK (pt rfl 0 Ve (by kernel_rfl)))
noncomputable def rTf : OV := aT PP GG FF (Bf []) (ls [Y, Z] 103) H p8 bC p8
theorem Is {r : Value × AH} (h : (
 aeM Y Z (vb false) H) = some r) : FF ak2 [Y, Z] H = some r :=
 fo (t := rTf Y Z H) Tryz.func125 (by kernel_rfl) (Eq.trans (pt rfl 0 Vd (by kernel_rfl)) h)
noncomputable def Bg (p : List Nat) : Code := Code.sub (bP Tryz.f126) p
noncomputable def qa : KK := e6 PP (Tryz.f126).results.toList
noncomputable def QW : KK := CQ (Bg [1, 1]) qa bC qa
noncomputable def aeP : OV := QW (ls [Y, Z, u, u, x4, x5] 113) H
noncomputable def Gl : KK := CQ (Bg [1, 1, 1]) qa bC qa
noncomputable def QV : KK := dn Ql Gl
noncomputable def qT : OV := Gl (ls [u, u, u, u, x4] 114) H
noncomputable def QX : KK := CQ (Bg [1, 1, 0, 1]) QV bC qa
noncomputable def aeQ : OV := QX (ls [Y, Z, u, u, x4, x5, u, u, u, u, u, u, u, x13] 105) H
noncomputable def ah0 : KX := BX 0 QV bC
theorem qc : ap Ql qa := rf
theorem Vg : ap 664613997892457936451903530140172236 QW := rc qc aA qc
theorem wL : ap Ql Gl := rc qc aA qc
theorem Vh : ap 664613997892457936451903530140164044 QX := rc (cd wL) aA qc
theorem Vi : ∀ i, ap Ql (ah0 i) := rb (cd wL) aA
theorem lh : qT x4 H =
 some ((vb false), H) :=
 (by kernel_rfl)
theorem lj : aeQ Y Z x4 x5 x13 H =
 (aj .other .eql x13 (vi 20)).bind fun i =>
 aw i
 (ld [.n, .f 6] x5 H fun j =>
 ld [.n, .f 1] Y H fun k =>
 (FF gM [j, k] H).bind fun l =>
 st 1 [.n, .f 6] Y (vi 7) l.2 fun m =>
 qT x4 m)
 ((aj .other .eql x13 (vi 21)).bind fun o =>
 aw o
 ((FF bK [Y] H).bind fun a =>
 ad [.n, .f 1] Y fun b =>
 (au b a.2).bind fun p =>
 bJ (au b H) (au b a.2) <|
 (FF d9 [Y] a.2).bind fun d =>
 bJ (au b d.2) (au b a.2) <|
 (FF gQ [a.1, p, d.1] d.2).bind fun q =>
 st 1 [.n, .f 6] Y (vi 22) q.2 fun s =>
 qT x4 s)
 ((aj .other .eql x13 (vi 22)).bind fun t =>
 aw t
 (ld [.n, .f 6] x5 H fun w =>
 ld [.n, .f 1] Y H fun y =>
 (FF ka [w, y, Z] H).bind fun g =>
 st 1 [.n, .f 15] Y g.1 g.2 fun z =>
 st 1 [.n, .f 6] Y (vi 23) z fun A =>
 qT x4 A)
 ((aj .other .eql x13 (vi 23)).bind fun B =>
 aw B
 (ld [.n, .f 6] x5 H fun C =>
 ld [.n, .f 1] Y H fun D =>
 ld [.n, .f 10] Y H fun E =>
 ld [.n, .f 15] Y H fun G =>
 (FF jv [C, D, E, G] H).bind fun I =>
 st 1 [.n, .f 6] Y (vi 24) I.2 fun J =>
 qT x4 J)
 ((aj .other .eql x13 (vi 24)).bind fun K =>
 aw K
 (st 1 [.n, .f 6] Y (vi 22) H fun c =>
 ld [.n, .f 6] x5 c fun L =>
 ld [.n, .f 1] Y c fun M =>
 ld [.n, .f 15] Y c fun N =>
 ld [.n, .f 10] Y c fun O =>
 (FF jw [L, M, Z, N, O] c).bind fun e =>
 aw e.1
 (st 1 [.n, .f 6] Y (vi 25) e.2 fun P =>
 qT x4 P)
 (qT x4 e.2))
 ((aj .other .eql x13 (vi 25)).bind fun Q =>
 aw Q
 (ld [.n, .f 6] x5 H fun R =>
 ld [.n, .f 1] Y H fun S =>
 (FF gM [R, S] H).bind fun T =>
 some ((vb true), T.2))
 (qT x4 H)))))) :=
 (bt rfl (Bg [1, 1, 0, 1, 4]) 0 Vi (by kernel_rfl))
theorem lg : aeP Y Z x4 x5 H =
 ld [.n, .f 6] Y H fun a =>
 aeQ Y Z x4 x5 a H :=
 (pt rfl 0 wL (pt rfl 0 Vh (by kernel_rfl)))
noncomputable def rTw : OV := aT PP GG FF (Bg []) (ls [Y, Z] 117) H qa bC qa
theorem xN {r : Value × AH} (h : (
 ld [.n, .f 0] Y H fun a =>
 aeP Y Z (vb false) a H) = some r) : FF adF [Y, Z] H = some r :=
 fo (t := rTw Y Z H) Tryz.func126 (by kernel_rfl) (Eq.trans (pt rfl 1 Vg (by kernel_rfl)) h)
theorem OP {r : Value × AH} (h : (
 aW [(vi 0), (vi 0), (vi 0)] H fun a c =>
 iz [(0, 1), (1, 1), (2, 1)] [(vi 0), (vi 0), (vi 0)] [(0, Y), (1, Z), (2, x2)] fun d =>
 (dc 3 a d c).bind fun b =>
 (aC 3 a b).bind fun e => some (e, b)) = some r) : FF bX [Y, Z, x2] H = some r :=
 fo Tryz.func130 (by kernel_rfl) h
theorem xG {r : Value × AH} (h : (
 (FF oL [x2, x3] H).bind fun b =>
 (ak b.1 0).bind fun g =>
 (ak b.1 1).bind fun a =>
 (gV a true Y).bind fun i =>
 yX a true  [.n, .f 0] i fun d =>
 (gB a true (au d b.2)).bind fun j =>
 (gV a true Z).bind fun k =>
 (gV a true Y).bind fun l =>
 fG a true  [.n, .f 1] l b.2 fun m =>
 (gE a true b.2 (FF bX [(vi 11), m, (vi 0)] b.2)).bind fun c =>
 bJ (au d c.2) (au d b.2) <|
 (gV a true x2).bind fun o =>
 (gV a true g).bind fun p =>
 (gE a true c.2 (FF fP [j, k, c.1, o, p] c.2)).bind fun e =>
 (aM a e.1 (vb false)).bind fun q =>
 some (q, e.2)) = some r) : FF kf [Y, Z, x2, x3] H = some r :=
 fo Tryz.func132 (by kernel_rfl) h
theorem zd {r : Value × AH} (h : (
 aW (Value.cells x2).toList H fun a d =>
 (aC 3 a d).bind fun e =>
 (FF d6 [Y, e] d).bind fun b =>
 (aC 3 a b.2).bind fun g =>
 (FF cM [Y, Z, (vi 3), g] b.2).bind fun c =>
 ld [.n, .f 0] Y c.2 fun i =>
 (aC 3 a c.2).bind fun j =>
 iz [(0, 1)] [(vw 0)] [(0, x3)] fun k =>
 (dG (.flat 3) i j k c.2).bind fun l =>
 some (b.1, l)) = some r) : FF iN [Y, Z, x2, x3] H = some r :=
 fo Tryz.func145 (by kernel_rfl) h
noncomputable def dp (p : List Nat) : Code := Code.sub (bP Tryz.f146) p
noncomputable def eG : KK := e6 PP (Tryz.f146).results.toList
noncomputable def QY : KK := CQ (dp [1, 1]) eG bC eG
noncomputable def ae9 : OV := QY (ls [Y, Z, x2, u, u, u, x6, x7, x8] 54) H
noncomputable def Gm : KK := CQ (dp [1, 1, 1]) eG bC eG
noncomputable def ah1 : KK := dn yi Gm
noncomputable def afA : OV := Gm (ls [Y, Z, x2, u, u, u, x6, x7] 55) H
noncomputable def QZ : KK := CQ (dp [1, 1, 1, 1]) eG bC eG
noncomputable def PD : OV := QZ (ls [Y, Z, x2, u, u, u, x6] 56) H
noncomputable def Gq : KX := BX 2 eG bC
noncomputable def Gr : KX := mJ Y3 Gq
noncomputable def Gn : KK := sC (dp [1, 1, 1, 1, 4, 5]) Gr eG
noncomputable def uD : KK := dn AG Gn
noncomputable def IK : OV := Gn (ls [Y, Z, x2, u, u, u, x6] 56) H
noncomputable def Q1 : KK := CQ (dp [1, 1, 1, 1, 4, 5, 1]) uD Gr eG
noncomputable def afB : OV := Q1 (ls [Y, Z, x2, u, u, u, x6] 56) H
noncomputable def Q4 : KX := BX 3 uD Gr
noncomputable def zN : KX := mJ AG Q4
noncomputable def Q2 : KK := CQ (dp [1, 1, 1, 1, 4, 5, 1, 4, 1]) uD zN eG
noncomputable def afC : OV := Q2 (ls [Y, Z, x2, u, u, u, x6, x7, x8] 54) H
noncomputable def Gp : KK := CQ (dp [1, 1, 1, 1, 4, 5, 1, 4, 1, 1]) uD zN eG
noncomputable def ah2 : KK := dn yi Gp
noncomputable def afD : OV := Gp (ls [Y, Z, x2, u, u, u, x6, x7] 55) H
noncomputable def Q3 : KK := CQ (dp [1, 1, 1, 1, 4, 5, 1, 4, 1, 1, 1]) uD zN eG
noncomputable def IL : OV := Q3 (ls [Y, Z, x2, u, u, u, x6] 56) H
noncomputable def Bk : KX := BX 4 ah2 zN
noncomputable def Bm : KX := mJ yi Bk
noncomputable def Bi : KK := sC (dp [1, 1, 1, 1, 4, 5, 1, 4, 1, 0, 4, 5]) Bm eG
noncomputable def JG : KK := dn sG Bi
noncomputable def Ag : OV := Bi (ls [Y, Z, x2, u, u, u, x6, x7, x8] 54) H
noncomputable def JI : KK := CQ (dp [1, 1, 1, 1, 4, 5, 1, 4, 1, 0, 4, 5, 1]) JG Bm eG
noncomputable def T3 : OV := JI (ls [Y, Z, x2, u, u, u, x6, x7, x8] 54) H
noncomputable def ZM : KX := BX 5 JG Bm
noncomputable def FG : OV := Bk 4 (ls [Y, Z, x2, u, u, u, x6, x7] 55) H
noncomputable def Lm (H : AH) : OV := Gq 2 (ls [] 63) H
noncomputable def Bl : KX := BX 0 ah1 bC
noncomputable def Bn : KX := mJ yi Bl
noncomputable def Bj : KK := sC (dp [1, 1, 0, 4, 5]) Bn eG
noncomputable def JH : KK := dn sG Bj
noncomputable def Ah : OV := Bj (ls [Y, Z, x2, u, u, u, x6, x7, x8] 54) H
noncomputable def JJ : KK := CQ (dp [1, 1, 0, 4, 5, 1]) JH Bn eG
noncomputable def T4 : OV := JJ (ls [Y, Z, x2, u, u, u, x6, x7, x8] 54) H
noncomputable def ZN : KX := BX 1 JH Bn
noncomputable def FH : OV := Bl 0 (ls [Y, Z, x2, u, u, u, x6, x7] 55) H
theorem cT : ap Y3 eG := rf
theorem Vj : ap sG QY := rc cT aA cT
theorem EB : ap yi Gm := rc cT aA cT
theorem Vk : ap AG QZ := rc cT aA cT
theorem rB : ∀ i, ap Y3 (Gq i) := rb cT aA
theorem jh : ap AG Gn := rl (cx rB) cT
theorem Vl : ap AG Q1 := rc (cd jh) (cx rB) cT
theorem ng : ∀ i, ap AG (Q4 i) := rb (cd jh) (cx rB)
theorem Vm : ap sG Q2 := rc (cd jh) (cx ng) cT
theorem EC : ap yi Gp := rc (cd jh) (cx ng) cT
theorem Vn : ap AG Q3 := rc (cd jh) (cx ng) cT
theorem oh : ∀ i, ap yi (Bk i) := rb (cd EC) (cx ng)
theorem od : ap sG Bi := rl (cx oh) cT
theorem MW : ap sG JI := rc (cd od) (cx oh) cT
theorem MY : ∀ i, ap sG (ZM i) := rb (cd od) (cx oh)
theorem ol : ∀ i, ap yi (Bl i) := rb (cd EB) aA
theorem og : ap sG Bj := rl (cx ol) cT
theorem MX : ap sG JJ := rc (cd og) (cx ol) cT
theorem MZ : ∀ i, ap sG (ZN i) := rb (cd og) (cx ol)
theorem X4 : IL Y Z x2 x6 H =
 (aj .other .mul x6 (vi 2)).bind fun a =>
 IK Y Z x2 a H :=
 (by kernel_rfl)
theorem X3 : afD Y Z x2 x6 x7 H =
 (aj .other .add x7 x6).bind fun a =>
 (aj .other .lss a Z).bind fun b =>
 aw b
 ((FF E9 [Y, x7, a, Z, x2] H).bind fun c =>
 IL Y Z x2 x6 c.2)
 (IL Y Z x2 x6 H) :=
 (pt rfl 0 Vn (by kernel_rfl))
theorem PC : T3 Y Z x2 x6 x7 x8 H =
 (aj .other .add x7 x6).bind fun a =>
 (FF E9 [Y, x7, a, x8, x2] H).bind fun b =>
 (aj .other .mul (vi 2) x6).bind fun c =>
 (aj .other .add x8 c).bind fun d =>
 Ag Y Z x2 x6 x8 d b.2 :=
 (bt rfl (dp [1, 1, 1, 1, 4, 5, 1, 4, 1, 0, 4, 5, 1, 4]) 5 MY (by kernel_rfl))
theorem II : FG Y Z x2 x6 x7 H = afD Y Z x2 x6 x7 H :=
 (by kernel_rfl)
theorem PB : Ag Y Z x2 x6 x7 x8 H =
 (aj .other .leq x8 Z).bind fun a =>
 aw a
 (T3 Y Z x2 x6 x7 x8 H)
 (FG Y Z x2 x6 x7 H) :=
 pK rfl od (pt rfl 0 MW (by kernel_rfl))
theorem X0 : afC Y Z x2 x6 x7 x8 H =
 Ag Y Z x2 x6 x7 x8 H :=
 (pt rfl 0 EC (bt rfl (dp [1, 1, 1, 1, 4, 5, 1, 4, 1, 0, 4]) 4 oh (li rfl (dp [1, 1, 1, 1, 4, 5, 1, 4, 1, 0, 4, 5]) od (by kernel_rfl))))
theorem XZ : afB Y Z x2 x6 H =
 (aj .other .mul (vi 2) x6).bind fun a =>
 afC Y Z x2 x6 (vi 0) a H :=
 (bt rfl (dp [1, 1, 1, 1, 4, 5, 1, 4]) 3 ng (pt rfl 0 Vm (by kernel_rfl)))
theorem Ln (H : AH) : Lm H = some (Value.tuple #[], H) :=
 (by kernel_rfl)
theorem XY : IK Y Z x2 x6 H =
 (aj .other .lss x6 Z).bind fun a =>
 aw a
 (afB Y Z x2 x6 H)
 (Lm H) :=
 pK rfl jh (pt rfl 0 Vl (by kernel_rfl))
theorem XX : PD Y Z x2 x6 H =
 IK Y Z x2 x6 H :=
 (bt rfl (dp [1, 1, 1, 1, 4]) 2 rB (li rfl (dp [1, 1, 1, 1, 4, 5]) jh (by kernel_rfl)))
theorem XW : afA Y Z x2 x6 x7 H =
 (FF SX [Y, x7, Z, x2] H).bind fun a =>
 PD Y Z x2 x6 a.2 :=
 (pt rfl 0 Vk (by kernel_rfl))
theorem PF : T4 Y Z x2 x6 x7 x8 H =
 (FF SX [Y, x7, x8, x2] H).bind fun a =>
 (aj .other .add x8 x6).bind fun b =>
 Ah Y Z x2 x6 x8 b a.2 :=
 (bt rfl (dp [1, 1, 0, 4, 5, 1, 4]) 1 MZ (by kernel_rfl))
theorem IJ : FH Y Z x2 x6 x7 H = afA Y Z x2 x6 x7 H :=
 (by kernel_rfl)
theorem PE : Ah Y Z x2 x6 x7 x8 H =
 (aj .other .leq x8 Z).bind fun a =>
 aw a
 (T4 Y Z x2 x6 x7 x8 H)
 (FH Y Z x2 x6 x7 H) :=
 pK rfl og (pt rfl 0 MX (by kernel_rfl))
theorem XV : ae9 Y Z x2 x6 x7 x8 H =
 Ah Y Z x2 x6 x7 x8 H :=
 (pt rfl 0 EB (bt rfl (dp [1, 1, 0, 4]) 0 ol (li rfl (dp [1, 1, 0, 4, 5]) og (by kernel_rfl))))
noncomputable def sSt : OV := aT PP GG FF (dp []) (ls [Y, Z, x2] 60) H eG bC eG
theorem am0 {r : Value × AH} (h : (
 ae9 Y Z x2 (vi 20) (vi 0) (vi 20) H) = some r) : FF adK [Y, Z, x2] H = some r :=
 fo (t := sSt Y Z x2 H) Tryz.func146 (by kernel_rfl) (Eq.trans (pt rfl 1 Vj (by kernel_rfl)) h)
theorem ut {r : Value × AH} (h : (
 (FF iJ [Y] H).bind fun b =>
 (FF iJ [Z] b.2).bind fun a =>
 aw b.1
 (aw a.1
 (some ((vi 0), a.2))
 (some ((vi (-1)), a.2)))
 (aw a.1
 (some ((vi 1), a.2))
 ((aj .other .lss Y Z).bind fun c =>
 aw c
 (some ((vi (-1)), a.2))
 ((aj .other .gtr Y Z).bind fun d =>
 aw d
 (some ((vi 1), a.2))
 (some ((vi 0), a.2)))))) = some r) : FF jo [Y, Z] H = some r :=
 fo Tryz.func147 (by kernel_rfl) h
theorem amU {r : Value × AH} (h : (
 (aj .slice .eql Y (.slice none 0 0)).bind fun b =>
 aw b
 (some ((.slice none 0 0), H))
 (ze 0 3 [(vi 0), (vi 0), (vi 0)] [] H fun c d =>
 (dN 3 24 c Y d).bind fun a =>
 some (a.1, a.2))) = some r) : FF adG [Y] H = some r :=
 fo Tryz.func148 (by kernel_rfl) h
theorem zf {r : Value × AH} (h : (
 (aj .other .geq Y Z).bind fun a =>
 (gV a true Y).bind fun b =>
 (gV a true x2).bind fun c =>
 (gB a true (aj .other .leq b c)).bind fun d =>
 (aM a d (vb false)).bind fun e =>
 some (e, H)) = some r) : FF d8 [Y, Z, x2] H = some r :=
 fo Tryz.func149 (by kernel_rfl) h
noncomputable def mK (p : List Nat) : Code := Code.sub (bP Tryz.f150) p
noncomputable def lu : KK := e6 PP (Tryz.f150).results.toList
noncomputable def Q7 : KK := CQ (mK [1, 1, 1]) lu bC lu
noncomputable def vG : OV := Q7 (ls [u, Z, u, u, x4, x5, x6] 23) H
noncomputable def Gu : KK := CQ (mK [1, 1, 1, 1]) lu bC lu
noncomputable def Q5 : KK := dn 1073741743 Gu
noncomputable def vH : OV := Gu (ls [u, u, u, u, x4, u, x6] 23) H
noncomputable def Q8 : KK := CQ (mK [1, 1, 1, 0, 1]) Q5 bC lu
noncomputable def vI : OV := Q8 (ls [u, Z, u, u, x4, u, x6, u, u, u, u, u, u, u, x14, x15] 14) H
noncomputable def Gx : KX := BX 0 Q5 bC
noncomputable def zO : KX := mJ 1073741743 Gx
noncomputable def Gv : KK := sC (mK [1, 1, 1, 0, 1, 4, 5]) zO lu
noncomputable def Q6 : KK := dn AN Gv
noncomputable def kM : OV := Gv (ls [u, Z, u, u, x4, u, x6, u, u, u, u, u, u, u, x14, x15] 14) H
noncomputable def Q9 : KK := CQ (mK [1, 1, 1, 0, 1, 4, 5, 1, 1]) Q6 zO lu
noncomputable def vJ : OV := Q9 (ls [u, Z, u, u, x4, u, x6, u, u, u, u, u, u, u, x14, x15] 14) H
noncomputable def Gw : KK := CQ (mK [1, 1, 1, 0, 1, 4, 5, 1, 1, 1]) Q6 zO lu
noncomputable def ah3 : KK := dn AN Gw
noncomputable def vK : OV := Gw (ls [u, Z, u, u, x4, u, x6, u, u, u, u, u, u, u, x14, x15] 14) H
noncomputable def ah4 : KX := BX 1 ah3 zO
noncomputable def qO : OV := Gx 0 (ls [u, u, u, u, x4, u, x6] 23) H
theorem jV : ap 1073741807 lu := rf
theorem Vo : ap 1073741709 Q7 := rc jV aA jV
theorem wM : ap 1073741743 Gu := rc jV aA jV
theorem Vp : ap AN Q8 := rc (cd wM) aA jV
theorem ni : ∀ i, ap 1073741743 (Gx i) := rb (cd wM) aA
theorem rC : ap AN Gv := rl (cx ni) jV
theorem Vq : ap AN Q9 := rc (cd rC) (cx ni) jV
theorem ED : ap AN Gw := rc (cd rC) (cx ni) jV
theorem Vr : ∀ i, ap AN (ah4 i) := rb (cd ED) (cx ni)
theorem zp : vH x4 x6 H =
 some (x6, H) :=
 (by kernel_rfl)
theorem zt : vK Z x4 x6 x14 x15 H =
 (aj .other .add x15 (vi 1)).bind fun a =>
 kM Z x4 x6 x14 a H :=
 (by kernel_rfl)
theorem zr : vJ Z x4 x6 x14 x15 H =
 ad [.n, .f 0] x6 fun a =>
 (au a H).bind fun d =>
 (FF qF [Z] H).bind fun b =>
 bJ (au a b.2) (au a H) <|
 ze 1 1 [(.pointer none)] [(0, b.1)] b.2 fun e g =>
 (dN 1 8 d e g).bind fun c =>
 st 1 [.n, .f 0] x6 c.1 c.2 fun i =>
 vK Z x4 x6 x14 x15 i :=
 (pt rfl 0 ED (bt rfl (mK [1, 1, 1, 0, 1, 4, 5, 1, 1, 0, 4]) 1 Vr (by kernel_rfl)))
theorem vF : qO x4 x6 H = vH x4 x6 H :=
 (by kernel_rfl)
theorem pj : kM Z x4 x6 x14 x15 H =
 (aj .other .lss x15 x14).bind fun a =>
 aw a
 (vJ Z x4 x6 x14 x15 H)
 (qO x4 x6 H) :=
 pK rfl rC (pt rfl 1 Vq (by kernel_rfl))
theorem zq : vI Z x4 x6 x14 x15 H =
 kM Z x4 x6 x14 x15 H :=
 (bt rfl (mK [1, 1, 1, 0, 1, 4]) 0 ni (li rfl (mK [1, 1, 1, 0, 1, 4, 5]) rC (by kernel_rfl)))
theorem zo : vG Z x4 x5 x6 H =
 vI Z x4 x6 x5 (vi 0) H :=
 (pt rfl 0 wM (pt rfl 0 Vp (by kernel_rfl)))
noncomputable def Xh : OV := aT PP GG FF (mK []) (ls [Y, Z] 28) H lu bC lu
theorem Id {r : Value × AH} (h : (
 (ig [Y, (vi 1)]).bind fun c =>
 (i8 [c, (vi 16)]).bind fun a =>
 (FF tL [a] H).bind fun b =>
 iz [(0, 1), (1, 1)] [(.slice none 0 0), (.pointer none)] [(1, b.1)] fun d =>
 aW (Value.cells d).toList b.2 fun e f =>
 vG Z (.pointer none) a e f) = some r) : FF qD [Y, Z] H = some r :=
 fo (t := Xh Y Z H) Tryz.func150 (by kernel_rfl) (Eq.trans (pt rfl 2 Vo (by kernel_rfl)) h)
noncomputable def mL (p : List Nat) : Code := Code.sub (bP Tryz.f154) p
noncomputable def lw : KK := e6 PP (Tryz.f154).results.toList
noncomputable def Rc : KK := CQ (mL [1, 1]) lw bC lw
noncomputable def aeF : OV := Rc (ls [Y, Z, u, u, x4, x5] 24) H
noncomputable def Gy : KK := CQ (mL [1, 1, 1]) lw bC lw
noncomputable def Ra : KK := dn 1073741775 Gy
noncomputable def aeG : OV := Gy (ls [u, u, u, u, x4, x5] 24) H
noncomputable def Re : KK := CQ (mL [1, 1, 0, 1]) Ra bC lw
noncomputable def aeH : OV := Re (ls [Y, Z, u, u, x4, x5, x6] 23) H
noncomputable def GB : KX := BX 0 Ra bC
noncomputable def zP : KX := mJ 1073741775 GB
noncomputable def Gz : KK := sC (mL [1, 1, 0, 1, 4, 5]) zP lw
noncomputable def Rb : KK := dn AO Gz
noncomputable def Im : OV := Gz (ls [Y, Z, u, u, x4, x5, x6] 23) H
noncomputable def Rf : KK := CQ (mL [1, 1, 0, 1, 4, 5, 1]) Rb zP lw
noncomputable def aeI : OV := Rf (ls [Y, Z, u, u, x4, x5, x6] 23) H
noncomputable def GA : KK := CQ (mL [1, 1, 0, 1, 4, 5, 1, 1]) Rb zP lw
noncomputable def ah5 : KK := dn AO GA
noncomputable def aeJ : OV := GA (ls [Y, Z, u, u, x4, x5, x6] 23) H
noncomputable def ah6 : KX := BX 1 ah5 zP
noncomputable def K7 : OV := GB 0 (ls [u, u, u, u, x4, x5] 24) H
theorem jW : ap 1073741807 lw := rf
theorem Vs : ap 1073741772 Rc := rc jW aA jW
theorem wN : ap 1073741775 Gy := rc jW aA jW
theorem Vt : ap AO Re := rc (cd wN) aA jW
theorem nj : ∀ i, ap 1073741775 (GB i) := rb (cd wN) aA
theorem rD : ap AO Gz := rl (cx nj) jW
theorem Vu : ap AO Rf := rc (cd rD) (cx nj) jW
theorem EE : ap AO GA := rc (cd rD) (cx nj) jW
theorem Vv : ∀ i, ap AO (ah6 i) := rb (cd EE) (cx nj)
theorem Xr : aeG x4 x5 H =
 some (x5, H) :=
 (by kernel_rfl)
theorem Xu : aeJ Y Z x4 x5 x6 H =
 (aj .other .add x6 (vi 1)).bind fun a =>
 Im Y Z x4 x5 a H :=
 (by kernel_rfl)
theorem Xt : aeI Y Z x4 x5 x6 H =
 ad [.n, .f 0] x5 fun a =>
 (au a H).bind fun d =>
 (FF qE [Z] H).bind fun b =>
 bJ (au a b.2) (au a H) <|
 iz [(0, 1), (1, 1), (2, 1), (3, 1)] [(.slice none 0 0), (vw 0), (vi 0), (vb false)] [(2, b.1), (3, (vb true))] fun e =>
 aW (Value.cells e).toList b.2 fun g i =>
 ze 1 1 [(.pointer none)] [(0, g)] i fun j k =>
 (dN 1 8 d j k).bind fun c =>
 st 1 [.n, .f 0] x5 c.1 c.2 fun l =>
 aeJ Y Z x4 x5 x6 l :=
 (pt rfl 0 EE (bt rfl (mL [1, 1, 0, 1, 4, 5, 1, 0, 4]) 1 Vv (by kernel_rfl)))
theorem K8 : K7 x4 x5 H = aeG x4 x5 H :=
 (by kernel_rfl)
theorem Fj : Im Y Z x4 x5 x6 H =
 (ig [Y, (vi 1)]).bind fun a =>
 (i8 [a, (vi 16)]).bind fun b =>
 (aj .other .lss x6 b).bind fun c =>
 aw c
 (aeI Y Z x4 x5 x6 H)
 (K7 x4 x5 H) :=
 pK rfl rD (pt rfl 0 Vu (by kernel_rfl))
theorem Xs : aeH Y Z x4 x5 x6 H =
 Im Y Z x4 x5 x6 H :=
 (bt rfl (mL [1, 1, 0, 1, 4]) 0 nj (li rfl (mL [1, 1, 0, 1, 4, 5]) rD (by kernel_rfl)))
theorem Xq : aeF Y Z x4 x5 H =
 aeH Y Z x4 x5 (vi 0) H :=
 (pt rfl 0 wN (pt rfl 0 Vt (by kernel_rfl)))
noncomputable def rNQ : OV := aT PP GG FF (mL []) (ls [Y, Z] 28) H lw bC lw
theorem amO {r : Value × AH} (h : (
 iz [(0, 1)] [(.slice none 0 0)] [] fun a =>
 aW (Value.cells a).toList H fun b c =>
 aeF Y Z (.pointer none) b c) = some r) : FF adD [Y, Z] H = some r :=
 fo (t := rNQ Y Z H) Tryz.func154 (by kernel_rfl) (Eq.trans (pt rfl 1 Vs (by kernel_rfl)) h)
theorem xi {r : Value × AH} (h : (
 aW (Value.cells x2).toList H fun b a =>
 (aC 3 b a).bind fun c =>
 (FF cM [Y, Z, (vi 6), c] a).bind fun d =>
 some (Value.tuple #[], d.2)) = some r) : FF e9 [Y, Z, x2] H = some r :=
 fo Tryz.func155 (by kernel_rfl) h
theorem Lb {r : Value × AH} (h : (
 (ig [x2, (vi 1)]).bind fun c =>
 (i8 [c, (vi 8)]).bind fun a =>
 (kB [(vi 0), (vi 0), (vi 0)] 3 24 a a H).bind fun b =>
 iz [(0, 1), (1, 1), (2, 1)] [(.pointer none), (vi 0), (.slice none 0 0)] [(0, Y), (1, Z), (2, b.1)] fun d =>
 aW (Value.cells d).toList b.2 fun e f =>
 some (e, f)) = some r) : FF tK [Y, Z, x2] H = some r :=
 fo Tryz.func156 (by kernel_rfl) h
theorem CM {r : Value × AH} (h : (
 aW (Value.cells x3).toList H fun c a =>
 ld [.n, .f 2] Y a fun d =>
 (aC 3 c a).bind fun e =>
 iz [(0, 1), (1, 1), (2, 3)] [(vi 0), (vi 0), (vi 0), (vi 0), (vi 0)] [(0, Z), (1, x2), (2, e)] fun g =>
 ze 1 5 [(vi 0), (vi 0), (vi 0), (vi 0), (vi 0)] [(0, g)] a fun i j =>
 (dN 5 40 d i j).bind fun b =>
 st 1 [.n, .f 2] Y b.1 b.2 fun k =>
 some (Value.tuple #[], k)) = some r) : FF bN [Y, Z, x2, x3] H = some r :=
 fo Tryz.func157 (by kernel_rfl) h
theorem CP {r : Value × AH} (h : (
 (ig [x2, (vi 1)]).bind fun c =>
 (i8 [c, (vi 8)]).bind fun a =>
 (kB [(vi 0), (vi 0), (vi 0)] 3 24 a a H).bind fun b =>
 iz [(0, 1), (1, 1), (2, 1), (3, 1)] [(.pointer none), (vi 0), (vi 0), (.slice none 0 0)] [(0, Y), (1, Z), (2, a), (3, b.1)] fun d =>
 aW (Value.cells d).toList b.2 fun e f =>
 some (e, f)) = some r) : FF mW [Y, Z, x2] H = some r :=
 fo Tryz.func158 (by kernel_rfl) h
theorem xh {r : Value × AH} (h : (
 aW (Value.cells x2).toList H fun b c =>
 (aC 3 b c).bind fun d =>
 (FF cM [Y, Z, (vi 2), d] c).bind fun a =>
 ld [.n, .f 0] Y a.2 fun e =>
 (aC 3 b a.2).bind fun g =>
 iz [(0, 1)] [(vw 0)] [(0, x3)] fun i =>
 (dG (.flat 3) e g i a.2).bind fun j =>
 some (Value.tuple #[], j)) = some r) : FF dv [Y, Z, x2, x3] H = some r :=
 fo Tryz.func159 (by kernel_rfl) h
theorem xz {r : Value × AH} (h : (
 aW (Value.cells x2).toList H fun b c =>
 (aC 3 b c).bind fun e =>
 (FF bN [Y, Z, (vi 2), e] c).bind fun d =>
 (aC 3 b d.2).bind fun g =>
 (FF CA [Y, g] d.2).bind fun a =>
 ld [.n, .f 1] Y a.2 fun j =>
 st 1 [.i 1 a.1] j x3 a.2 fun k =>
 some (Value.tuple #[], k)) = some r) : FF fc [Y, Z, x2, x3] H = some r :=
 fo Tryz.func160 (by kernel_rfl) h
end
section
variable (G I J K N Q R M L P O : Value) (H : AH)
theorem F7 {r : Value × AH} (h : (
 aW [(vi 0), (.slice none 0 0), (vi 0), (vw 0)] H fun b d =>
 (FF kY [G, I, J] d).bind fun e =>
 (FF kV [G, J] e.2).bind fun a =>
 (ak a.1 0).bind fun f =>
 (ak a.1 1).bind fun g =>
 (dc 4 b f a.2).bind fun c =>
 (aC 4 b c).bind fun i => some (Value.tuple #[i, g], c)) = some r) : FF iu [G, I, J] H = some r :=
 fo Tryz.func167 (by kernel_rfl) h
noncomputable def GC (p : List Nat) : Code := Code.sub (bP Tryz.f168) p
noncomputable def td : KK := e6 PP (Tryz.f168).results.toList
noncomputable def Rg : KK := CQ (GC [1, 1]) td bC td
noncomputable def A7 : OV := Rg (ls [G, u, u, u, N, Q, R] 27) H
noncomputable def GD : KK := CQ (GC [1, 1, 1]) td bC td
noncomputable def ah7 : KK := dn 17179869134 GD
noncomputable def A8 : OV := GD (ls [G, u, u, u, N, Q] 28) H
noncomputable def ah8 : KX := BX 0 ah7 bC
theorem uE : ap 17179869135 td := rf
theorem Vw : ap 17179869070 Rg := rc uE aA uE
theorem EF : ap 17179869134 GD := rc uE aA uE
theorem Vx : ∀ i, ap 17179869134 (ah8 i) := rb (cd EF) aA
theorem DV : A8 G N Q H =
 (FF bk [G, (.func (.func jr) #[G] #[])] H).bind fun a =>
 (ak a.1 0).bind fun c =>
 (ak a.1 1).bind fun d =>
 (dc 4 N c a.2).bind fun b =>
 (aC 4 N b).bind fun e => some (Value.tuple #[e, d], b) :=
 (by kernel_rfl)
theorem DU : A7 G N Q R H =
 ld [.n, .f 10] G H fun e =>
 aw e
 ((FF bk [G, (.func (.func f3) #[G] #[])] H).bind fun a =>
 (ak a.1 0).bind fun g =>
 (ak a.1 1).bind fun i =>
 (dc 4 N g a.2).bind fun c =>
 (aC 4 N c).bind fun j => some (Value.tuple #[j, i], c))
 (aw R
 ((FF bk [G, (.func (.func cH) #[G] #[])] H).bind fun b =>
 (ak b.1 0).bind fun k =>
 (ak b.1 1).bind fun l =>
 (dc 4 N k b.2).bind fun d =>
 (aC 4 N d).bind fun m => some (Value.tuple #[m, l], d))
 (A8 G N Q H)) :=
 (pt rfl 0 EF (bt rfl (GC [1, 1, 0, 4]) 0 Vx (by kernel_rfl)))
noncomputable def ahS : OV := aT PP GG FF (GC []) (ls [G, I] 32) H td bC td
theorem MI {r : Value × AH} (h : (
 aW [(vi 0), (.slice none 0 0), (vi 0), (vw 0)] H fun b c =>
 (FF vl [G] c).bind fun a =>
 A7 G b (vb false) a.1 a.2) = some r) : FF jr [G, I] H = some r :=
 fo (t := ahS G I H) Tryz.func168 (by kernel_rfl) (Eq.trans (pt rfl 1 Vw (by kernel_rfl)) h)
noncomputable def fK (p : List Nat) : Code := Code.sub (bP Tryz.f169) p
noncomputable def fL : KK := e6 PP (Tryz.f169).results.toList
noncomputable def Ri : KK := CQ (fK [1, 1]) fL bC fL
noncomputable def aeK : OV := Ri (ls [G, I, J, u, u, u, u, M, L] 81) H
noncomputable def GE : KK := CQ (fK [1, 1, 1]) fL bC fL
noncomputable def Rh : KK := dn Jh GE
noncomputable def OU : OV := GE (ls [G, I, J, u, u, u, u, M, L] 81) H
noncomputable def Rj : KK := CQ (fK [1, 1, 1, 1, 1]) fL bC fL
noncomputable def aeL : OV := Rj (ls [G, I, J, u, u, u, u, M, L, u, O] 79) H
noncomputable def GF : KK := CQ (fK [1, 1, 1, 1, 1, 1]) fL bC fL
noncomputable def ah9 : KK := dn um GF
noncomputable def OX : OV := GF (ls [G, I, J, u, u, u, u, M, L, u, O] 79) H
noncomputable def Bs : KX := BX 2 ah9 bC
noncomputable def Bu : KX := mJ um Bs
noncomputable def Bo : KK := sC (fK [1, 1, 1, 1, 1, 0, 4, 5]) Bu fL
noncomputable def JK : KK := dn um Bo
noncomputable def Ab : OV := Bo (ls [G, I, J, u, u, u, u, M, L, u, O] 79) H
noncomputable def JM : KK := CQ (fK [1, 1, 1, 1, 1, 0, 4, 5, 1]) JK Bu fL
noncomputable def Tm : OV := JM (ls [G, I, J, u, u, u, u, M, L, u, O] 79) H
noncomputable def ZP : KX := BX 3 JK Bu
noncomputable def Fk : OV := Bs 2 (ls [G, I, J, u, u, u, u, M, L, u, O] 79) H
noncomputable def JN : KK := CQ (fK [1, 1, 0, 1]) Rh bC fL
noncomputable def Tn : OV := JN (ls [G, I, J, u, u, u, u, M, L, P] 80) H
noncomputable def Bt : KX := BX 0 Rh bC
noncomputable def uF : KX := mJ Jh Bt
noncomputable def Bp : KK := sC (fK [1, 1, 0, 1, 4, 5]) uF fL
noncomputable def JL : KK := dn AB Bp
noncomputable def Ac : OV := Bp (ls [G, I, J, u, u, u, u, M, L, P] 80) H
noncomputable def JO : KK := CQ (fK [1, 1, 0, 1, 4, 5, 1]) JL uF fL
noncomputable def Tp : OV := JO (ls [G, I, J, u, u, u, u, M, L, P] 80) H
noncomputable def Bq : KK := CQ (fK [1, 1, 0, 1, 4, 5, 1, 1]) JL uF fL
noncomputable def ZO : KK := dn AB Bq
noncomputable def Ad : OV := Bq (ls [G, I, J, u, u, u, u, M, L, P] 80) H
noncomputable def ZQ : KX := BX 1 ZO uF
noncomputable def Fl : OV := Bt 0 (ls [G, I, J, u, u, u, u, M, L] 81) H
theorem dz : ap 1237940039285380274899124223 fL := rf
theorem Vy : ap Jh Ri := rc dz aA dz
theorem wO : ap Jh GE := rc dz aA dz
theorem Vz : ap um Rj := rc dz aA dz
theorem EG : ap um GF := rc dz aA dz
theorem ot : ∀ i, ap um (Bs i) := rb (cd EG) aA
theorem oo : ap um Bo := rl (cx ot) dz
theorem M1 : ap um JM := rc (cd oo) (cx ot) dz
theorem M4 : ∀ i, ap um (ZP i) := rb (cd oo) (cx ot)
theorem M2 : ap AB JN := rc (cd wO) aA dz
theorem lx : ∀ i, ap Jh (Bt i) := rb (cd wO) aA
theorem oq : ap AB Bp := rl (cx lx) dz
theorem M3 : ap AB JO := rc (cd oq) (cx lx) dz
theorem Br : ap AB Bq := rc (cd oq) (cx lx) dz
theorem M5 : ∀ i, ap AB (ZQ i) := rb (cd Br) (cx lx)
theorem Xy : OX G I J M L O H =
 ld [.n, .f 13] G H fun d =>
 (ec 7 d none (some O)).bind fun e =>
 (dN 7 72 (.slice none 0 0) e H).bind fun a =>
 (aC 4 M a.2).bind fun g =>
 iz [(0, 1), (1, 1), (2, 1), (3, 4)] [(vi 0), (vi 0), (vi 0), (vi 0), (.slice none 0 0), (vi 0), (vw 0)] [(0, I), (1, J), (2, L), (3, g)] fun i =>
 ze 1 7 [(vi 0), (vi 0), (vi 0), (vi 0), (.slice none 0 0), (vi 0), (vw 0)] [(0, i)] a.2 fun j k =>
 (dN 7 72 a.1 j k).bind fun b =>
 ld [.n, .f 13] G b.2 fun l =>
 (ec 7 l (some O) none).bind fun m =>
 (dN 7 72 b.1 m b.2).bind fun c =>
 st 1 [.n, .f 13] G c.1 c.2 fun o =>
 some (Value.tuple #[], o) :=
 (by kernel_rfl)
theorem OW : Tm G I J M L O H =
 (aj .other .sub O (vi 1)).bind fun a =>
 Ab G I J M L a H :=
 (bt rfl (fK [1, 1, 1, 1, 1, 0, 4, 5, 1, 4]) 3 M4 (by kernel_rfl))
theorem vS : Fk G I J M L O H = OX G I J M L O H :=
 (by kernel_rfl)
theorem CX : Ab G I J M L O H =
 (aj .other .gtr O (vi 0)).bind fun a =>
 (gV a true G).bind fun b =>
 fG a true  [.n, .f 13] b H fun c =>
 (gV a true O).bind fun d =>
 (gB a true (aj .other .sub d (vi 1))).bind fun e =>
 fG a true  [.i 7 e, .f 0] c H fun g =>
 (gV a true I).bind fun j =>
 (gB a true (aj .other .gtr g j)).bind fun k =>
 (aM a k (vb false)).bind fun l =>
 aw l
 (Tm G I J M L O H)
 (Fk G I J M L O H) :=
 pK rfl oo (pt rfl 0 M1 (by kernel_rfl))
theorem Xx : aeL G I J M L O H =
 Ab G I J M L O H :=
 (pt rfl 0 EG (bt rfl (fK [1, 1, 1, 1, 1, 0, 4]) 2 ot (li rfl (fK [1, 1, 1, 1, 1, 0, 4, 5]) oo (by kernel_rfl))))
theorem Xw : OU G I J M L H =
 ld [.f 1] M H fun c =>
 (dN 3 24 (.slice none 0 0) c H).bind fun a =>
 st 1 [.f 1] M a.1 a.2 fun b =>
 ld [.n, .f 13] G b fun d =>
 ep d fun e =>
 aeL G I J M L e b :=
 (pt rfl 1 Vz (by kernel_rfl))
theorem O0 : Ad G I J M L P H =
 (aj .other .add P (vi 2)).bind fun a =>
 Ac G I J M L a H :=
 (by kernel_rfl)
theorem OZ : Tp G I J M L P H =
 ld [.n, .f 12] G H fun a =>
 ld [.i 1 P] a H fun b =>
 (aj .other .eql b J).bind fun c =>
 aw c
 (ld [.n, .f 12] G H fun d =>
 (aj .other .add P (vi 1)).bind fun e =>
 ld [.i 1 e] d H fun g =>
 Ad G I J M g P H)
 (Ad G I J M L P H) :=
 (pt rfl 0 Br (bt rfl (fK [1, 1, 0, 1, 4, 5, 1, 0, 4]) 1 M5 (by kernel_rfl)))
theorem In : Fl G I J M L H = OU G I J M L H :=
 (by kernel_rfl)
theorem CY : Ac G I J M L P H =
 ld [.n, .f 12] G H fun a =>
 ep a fun b =>
 (aj .other .lss P b).bind fun c =>
 aw c
 (Tp G I J M L P H)
 (Fl G I J M L H) :=
 pK rfl oq (pt rfl 0 M3 (by kernel_rfl))
theorem OY : Tn G I J M L P H =
 Ac G I J M L P H :=
 (bt rfl (fK [1, 1, 0, 1, 4]) 0 lx (li rfl (fK [1, 1, 0, 1, 4, 5]) oq (by kernel_rfl)))
theorem Xv : aeK G I J M L H =
 Tn G I J M L (vi 0) H :=
 (pt rfl 0 wO (pt rfl 0 M2 (by kernel_rfl)))
noncomputable def rPN : OV := aT PP GG FF (fK []) (ls [G, I, J, K] 86) H fL bC fL
theorem amP {r : Value × AH} (h : (
 aW (Value.cells K).toList H fun a b =>
 aeK G I J a (vi 0) b) = some r) : FF adE [G, I, J, K] H = some r :=
 fo (t := rPN G I J K H) Tryz.func169 (by kernel_rfl) (Eq.trans (pt rfl 1 Vy (by kernel_rfl)) h)
theorem vP {r : Value × AH} (h : (
 ad [.n, .f 0] G fun b =>
 (au b H).bind fun d =>
 (FF bX [(vi 10), J, K] H).bind fun c =>
 bJ (au b c.2) (au b H) <|
 (FF dj [d, I, c.1] c.2).bind fun a =>
 (aj .other .eql a.1 (vw 0)).bind fun e =>
 aw e
 (some (Value.tuple #[(vi 0), (vi 0), (vb false)], a.2))
 ((aj .other .quo a.1 (vw 4294967296)).bind fun g =>
 (bI (some .i64) g).bind fun i =>
 (aj .other .sub i (vi 1)).bind fun j =>
 (aj .other .rem a.1 (vw 4294967296)).bind fun k =>
 (bI (some .i64) k).bind fun l =>
 some (Value.tuple #[j, l, (vb true)], a.2))) = some r) : FF jz [G, I, J, K] H = some r :=
 fo Tryz.func170 (by kernel_rfl) h
theorem zw {r : Value × AH} (h : (
 aW (Value.cells J).toList H fun b c =>
 (aC 3 b c).bind fun e =>
 (FF CA [G, e] c).bind fun a =>
 ld [.n, .f 1] G a.2 fun g =>
 ld [.i 1 a.1] g a.2 fun j =>
 (aj .other .neq j K).bind fun k =>
 aw k
 ((aC 3 b a.2).bind fun l =>
 (FF bN [G, I, (vi 4), l] a.2).bind fun m =>
 some ((vb false), m.2))
 ((aC 3 b a.2).bind fun o =>
 (FF bN [G, I, (vi 3), o] a.2).bind fun d =>
 ld [.n, .f 1] G d.2 fun p =>
 st 1 [.i 1 a.1] p N d.2 fun q =>
 some ((vb true), q))) = some r) : FF fP [G, I, J, K, N] H = some r :=
 fo Tryz.func171 (by kernel_rfl) h
theorem xH {r : Value × AH} (h : (
 ad [.n, .f 0] G fun a =>
 (au a H).bind fun d =>
 ld [.n, .f 1] G H fun e =>
 (FF bX [(vi 11), e, (vi 0)] H).bind fun b =>
 bJ (au a b.2) (au a H) <|
 (FF dj [d, I, b.1] b.2).bind fun c =>
 some (c.1, c.2)) = some r) : FF kg [G, I] H = some r :=
 fo Tryz.func172 (by kernel_rfl) h
theorem zv {r : Value × AH} (h : (
 aW (Value.cells J).toList H fun b c =>
 (aC 3 b c).bind fun e =>
 (FF bN [G, I, (vi 1), e] c).bind fun d =>
 (aC 3 b d.2).bind fun g =>
 (FF CA [G, g] d.2).bind fun a =>
 ld [.n, .f 1] G a.2 fun j =>
 ld [.i 1 a.1] j a.2 fun k =>
 some (k, a.2)) = some r) : FF dj [G, I, J] H = some r :=
 fo Tryz.func173 (by kernel_rfl) h
theorem nZ {r : Value × AH} (h : (
 ld [.n, .f 2] G H fun a =>
 (bI (some .u64) a).bind fun b =>
 (aj .other .rem I b).bind fun c =>
 (bI (some .i64) c).bind fun d =>
 some (d, H)) = some r) : FF dw [G, I] H = some r :=
 fo Tryz.func174 (by kernel_rfl) h
theorem CH {r : Value × AH} (h : (
 aW (Value.cells J).toList H fun c d =>
 (aC 3 c d).bind fun g =>
 (FF CA [G, g] d).bind fun a =>
 (aC 3 c a.2).bind fun j =>
 (FF bN [G, I, (vi 3), j] a.2).bind fun b =>
 ld [.n, .f 1] G b.2 fun k =>
 ld [.i 1 a.1] k b.2 fun e =>
 ld [.n, .f 1] G b.2 fun l =>
 (aj .other .add e K).bind fun m =>
 st 1 [.i 1 a.1] l m b.2 fun o =>
 some (e, o)) = some r) : FF jM [G, I, J, K] H = some r :=
 fo Tryz.func175 (by kernel_rfl) h
theorem xC {r : Value × AH} (h : (
 ad [.n, .f 5] G fun a =>
 (au a H).bind fun d =>
 (FF bX [(vi 2), (vi 0), (vi 0)] H).bind fun b =>
 bJ (au a b.2) (au a H) <|
 (FF dj [d, I, b.1] b.2).bind fun c =>
 some (c.1, c.2)) = some r) : FF gN [G, I] H = some r :=
 fo Tryz.func176 (by kernel_rfl) h
theorem xx {r : Value × AH} (h : (
 ad [.n, .f 0] G fun a =>
 (au a H).bind fun c =>
 (FF bX [(vi 3), (vi 0), (vi 0)] H).bind fun b =>
 bJ (au a b.2) (au a H) <|
 (FF jM [c, I, b.1, (vw 1)] b.2).bind fun d =>
 some (Value.tuple #[], d.2)) = some r) : FF gM [G, I] H = some r :=
 fo Tryz.func177 (by kernel_rfl) h
theorem xy {r : Value × AH} (h : (
 ad [.n, .f 0] G fun a =>
 (au a H).bind fun d =>
 (FF bX [(vi 9), J, (vi 0)] H).bind fun b =>
 bJ (au a b.2) (au a H) <|
 (FF dj [d, I, b.1] b.2).bind fun c =>
 some (c.1, c.2)) = some r) : FF ka [G, I, J] H = some r :=
 fo Tryz.func178 (by kernel_rfl) h
theorem vL {r : Value × AH} (h : (
 ad [.n, .f 0] G fun c =>
 (au c H).bind fun k =>
 (FF bX [(vi 14), J, (vi 0)] H).bind fun d =>
 bJ (au c d.2) (au c H) <|
 (FF bN [k, I, (vi 6), d.1] d.2).bind fun l =>
 (FF lN [G, J] l.2).bind fun a =>
 (aj .other .lss a.1 (vi 0)).bind fun m =>
 aw m
 (ld [.n, .f 2] G a.2 fun o =>
 ze 1 1 [(vi 0)] [(0, J)] a.2 fun p g =>
 (dN 1 8 o p g).bind fun b =>
 ad [.n, .f 3] G fun e =>
 (au e b.2).bind fun q =>
 bJ (au e g) (au e b.2) <|
 ze 1 1 [(vw 0)] [(0, K)] b.2 fun s t =>
 (dN 1 8 q s t).bind fun j =>
 st 1 [.n, .f 2] G b.1 j.2 fun w =>
 st 1 [.n, .f 3] G j.1 w fun y =>
 some (Value.tuple #[], y))
 (ld [.n, .f 3] G a.2 fun z =>
 st 1 [.i 1 a.1] z K a.2 fun A =>
 some (Value.tuple #[], A))) = some r) : FF jv [G, I, J, K] H = some r :=
 fo Tryz.func179 (by kernel_rfl) h
theorem vM {r : Value × AH} (h : (
 ad [.n, .f 0] G fun a =>
 (au a H).bind fun d =>
 (FF bX [(vi 9), J, (vi 0)] H).bind fun b =>
 bJ (au a b.2) (au a H) <|
 (bI (some .u64) N).bind fun e =>
 (aj .other .add e (vw 1)).bind fun g =>
 (FF fP [d, I, b.1, K, g] b.2).bind fun c =>
 some (c.1, c.2)) = some r) : FF jw [G, I, J, K, N] H = some r :=
 fo Tryz.func180 (by kernel_rfl) h
theorem Cw {r : Value × AH} (h : (
 aW (Value.cells J).toList H fun a b =>
 (aC 3 a b).bind fun e =>
 (aC 3 a b).bind fun f =>
 (FF d6 [G, f] b).bind fun c =>
 bJ (aC 3 a c.2) (aC 3 a b) <|
 (aj .other .add c.1 K).bind fun g =>
 (FF iN [G, I, e, g] c.2).bind fun d =>
 some (d.1, d.2)) = some r) : FF gG [G, I, J, K] H = some r :=
 fo Tryz.func181 (by kernel_rfl) h
noncomputable def mM (p : List Nat) : Code := Code.sub (bP Tryz.f182) p
noncomputable def ly : KK := e6 PP (Tryz.f182).results.toList
noncomputable def Rl : KK := CQ (mM [1]) ly bC ly
noncomputable def aeD : OV := Rl (ls [G, u, u, K, N] 45) H
noncomputable def GH : KK := CQ (mM [1, 1]) ly bC ly
noncomputable def Rk : KK := dn Jj GH
noncomputable def aeE : OV := GH (ls [G, u, u, K, N] 45) H
noncomputable def JQ : KK := CQ (mM [1, 0, 1]) Rk bC ly
noncomputable def Ti : OV := JQ (ls [G, u, u, K, N, Q] 44) H
noncomputable def By : KX := BX 0 Rk bC
noncomputable def uG : KX := mJ Jj By
noncomputable def Bv : KK := sC (mM [1, 0, 1, 4, 5]) uG ly
noncomputable def JP : KK := dn AI Bv
noncomputable def Aa : OV := Bv (ls [G, u, u, K, N, Q] 44) H
noncomputable def JR : KK := CQ (mM [1, 0, 1, 4, 5, 1]) JP uG ly
noncomputable def Tj : OV := JR (ls [G, u, u, K, N, Q] 44) H
noncomputable def Bw : KK := CQ (mM [1, 0, 1, 4, 5, 1, 1]) JP uG ly
noncomputable def ZR : KK := dn AI Bw
noncomputable def Tl : OV := Bw (ls [G, u, u, K, N, Q] 44) H
noncomputable def ZS : KX := BX 1 ZR uG
noncomputable def Fi : OV := By 0 (ls [G, u, u, K, N] 45) H
theorem jX : ap 1125899906842607 ly := rf
theorem VA : ap Jj Rl := rc jX aA jX
theorem wP : ap Jj GH := rc jX aA jX
theorem M6 : ap AI JQ := rc (cd wP) aA jX
theorem lA : ∀ i, ap Jj (By i) := rb (cd wP) aA
theorem ou : ap AI Bv := rl (cx lA) jX
theorem M7 : ap AI JR := rc (cd ou) (cx lA) jX
theorem Bx : ap AI Bw := rc (cd ou) (cx lA) jX
theorem M8 : ∀ i, ap AI (ZS i) := rb (cd Bx) (cx lA)
theorem Xp : aeE G K N H =
 ld [.n, .f 0] G H fun g =>
 (aC 3 K H).bind fun i =>
 ze 1 3 [(vi 0), (vi 0), (vi 0)] [(0, i)] H fun j c =>
 (dN 3 24 g j c).bind fun a =>
 ad [.n, .f 1] G fun b =>
 (au b a.2).bind fun k =>
 bJ (au b c) (au b a.2) <|
 ze 1 1 [(vw 0)] [(0, (vw 0))] a.2 fun l m =>
 (dN 1 8 k l m).bind fun d =>
 st 1 [.n, .f 0] G a.1 d.2 fun o =>
 st 1 [.n, .f 1] G d.1 o fun e =>
 ld [.n, .f 0] G e fun p =>
 ep p fun q =>
 (aj .other .sub q (vi 1)).bind fun s =>
 some (s, e) :=
 (by kernel_rfl)
theorem OT : Tl G K N Q H =
 (aj .other .add Q (vi 1)).bind fun a =>
 Aa G K N a H :=
 (by kernel_rfl)
theorem OS : Tj G K N Q H =
 ld [.n, .f 0] G H fun a =>
 ldN 3 [.i 3 Q] a H fun b =>
 (aC 3 K H).bind fun c =>
 (aj (.flat 3) .eql b c).bind fun d =>
 aw d
 (some (Q, H))
 (Tl G K N Q H) :=
 (pt rfl 0 Bx (bt rfl (mM [1, 0, 1, 4, 5, 1, 0, 4]) 1 M8 (by kernel_rfl)))
theorem Il : Fi G K N H = aeE G K N H :=
 (by kernel_rfl)
theorem CW : Aa G K N Q H =
 ld [.n, .f 0] G H fun a =>
 ep a fun b =>
 (aj .other .lss Q b).bind fun c =>
 aw c
 (Tj G K N Q H)
 (Fi G K N H) :=
 pK rfl ou (pt rfl 0 M7 (by kernel_rfl))
theorem OR : Ti G K N Q H =
 Aa G K N Q H :=
 (bt rfl (mM [1, 0, 1, 4]) 0 lA (li rfl (mM [1, 0, 1, 4, 5]) ou (by kernel_rfl)))
theorem Xo : aeD G K N H =
 Ti G K N (vi 0) H :=
 (pt rfl 0 wP (pt rfl 0 M6 (by kernel_rfl)))
noncomputable def rMp : OV := aT PP GG FF (mM []) (ls [G, I] 48) H ly bC ly
theorem amN {r : Value × AH} (h : (
 aW (Value.cells I).toList H fun a b =>
 aeD G a (vi 0) b) = some r) : FF CA [G, I] H = some r :=
 fo (t := rMp G I H) Tryz.func182 (by kernel_rfl) (Eq.trans (pt rfl 0 VA (by kernel_rfl)) h)
theorem vZ {r : Value × AH} (h : (
 (b5 K [J]).bind fun c => (FF c.1 c.2 H).bind fun b =>
 (ak b.1 0).bind fun i =>
 (ak b.1 1).bind fun a =>
 (gV a true G).bind fun j =>
 yX a true  [.n, .f 0] j fun e =>
 (gB a true (au e b.2)).bind fun k =>
 (gV a true I).bind fun l =>
 (gV a true G).bind fun m =>
 (gE a true b.2 (FF cr [m, (vi 11), (vi 0)] b.2)).bind fun d =>
 bJ (au e d.2) (au e b.2) <|
 (gV a true J).bind fun o =>
 (gV a true i).bind fun p =>
 (gE a true d.2 (FF d7 [k, l, d.1, o, p] d.2)).bind fun g =>
 (aM a g.1 (vb false)).bind fun q =>
 some (q, g.2)) = some r) : FF jC [G, I, J, K] H = some r :=
 fo Tryz.func183 (by kernel_rfl) h
noncomputable def GI (p : List Nat) : Code := Code.sub (bP Tryz.f185) p
noncomputable def te : KK := e6 PP (Tryz.f185).results.toList
noncomputable def Rm : KK := CQ (GI [1, 1]) te bC te
noncomputable def s4 : OV := Rm (ls [u, I, u, u, N, Q, R, M, L] 47) H
noncomputable def GJ : KK := CQ (GI [1, 1, 1]) te bC te
noncomputable def aiA : KK := dn Qm GJ
noncomputable def s5 : OV := GJ (ls [u, u, u, u, N, Q] 50) H
noncomputable def aiB : KX := BX 0 aiA bC
theorem uH : ap Qm te := rf
theorem VB : ap 72057594037927437 Rm := rc uH aA uH
theorem EI : ap Qm GJ := rc uH aA uH
theorem VC : ∀ i, ap Qm (aiB i) := rb (cd EI) aA
theorem gc : s5 N Q H =
 some (Value.tuple #[(vw 0), (vb false)], H) :=
 (by kernel_rfl)
theorem xw : s4 I N Q R M L H =
 (pM .not L).bind fun i =>
 aw i
 (some (Value.tuple #[(vw 0), (vb false)], H))
 ((aj .other .eql I (vi 0)).bind fun a =>
 (gV a true M).bind fun j =>
 (gB a true (aj .other .neq j (vi 2))).bind fun k =>
 (aM a k (vb false)).bind fun b =>
 (gV b true R).bind fun l =>
 (gB b true (aj .other .lss l (vw 2305843009213693951))).bind fun m =>
 (aM b m (vb false)).bind fun n =>
 aw n
 ((aj .other .add R (vw 1)).bind fun o =>
 (FF lM [o, (vi 1)] H).bind fun c =>
 (ak c.1 0).bind fun p =>
 (ak c.1 1).bind fun q =>
 some (Value.tuple #[p, q], c.2))
 ((aj .other .eql I (vi 1)).bind fun d =>
 (gV d true M).bind fun s =>
 (gB d true (aj .other .eql s (vi 1))).bind fun t =>
 (aM d t (vb false)).bind fun w =>
 aw w
 ((FF lM [R, (vi 0)] H).bind fun e =>
 (ak e.1 0).bind fun y =>
 (ak e.1 1).bind fun z =>
 some (Value.tuple #[y, z], e.2))
 ((aj .other .eql I (vi 2)).bind fun f =>
 (gV f true M).bind fun A =>
 (gB f true (aj .other .eql A (vi 0))).bind fun B =>
 (aM f B (vb false)).bind fun C =>
 aw C
 ((FF lM [R, (vi 2)] H).bind fun g =>
 (ak g.1 0).bind fun D =>
 (ak g.1 1).bind fun E =>
 some (Value.tuple #[D, E], g.2))
 (s5 N Q H)))) :=
 (pt rfl 0 EI (bt rfl (GI [1, 1, 0, 4]) 0 VC (by kernel_rfl)))
noncomputable def ON : OV := aT PP GG FF (GI []) (ls [G, I] 54) H te bC te
theorem D7 {r : Value × AH} (h : (
 (FF fO [G] H).bind fun a =>
 (ak a.1 0).bind fun b =>
 (ak a.1 1).bind fun c =>
 (ak a.1 2).bind fun d =>
 s4 I (vw 0) (vb false) b c d a.2) = some r) : FF oL [G, I] H = some r :=
 fo (t := ON G I H) Tryz.func185 (by kernel_rfl) (Eq.trans (pt rfl 1 VB (by kernel_rfl)) h)
noncomputable def gW (p : List Nat) : Code := Code.sub (bP Tryz.f187) p
noncomputable def ji : KK := e6 PP (Tryz.f187).results.toList
noncomputable def Rp : KK := CQ (gW [1]) ji bC ji
noncomputable def aeX : OV := Rp (ls [G, I, J, K, u, u, u, u, L] 44) H
noncomputable def GO : KX := BX 0 ji bC
noncomputable def zQ : KX := mJ 9007199254740991 GO
noncomputable def GL : KK := sC (gW [1, 4, 5]) zQ ji
noncomputable def Rn : KK := dn sH GL
noncomputable def Iy : OV := GL (ls [G, I, J, K, u, u, u, u, L] 44) H
noncomputable def Rq : KK := CQ (gW [1, 4, 5, 1]) Rn zQ ji
noncomputable def aeY : OV := Rq (ls [G, I, J, K, u, u, u, u, L] 44) H
noncomputable def GM : KK := CQ (gW [1, 4, 5, 1, 1]) Rn zQ ji
noncomputable def GK : KK := dn sH GM
noncomputable def aeZ : OV := GM (ls [G, I, J, K, u, u, u, u, L] 44) H
noncomputable def Rt : KX := BX 1 GK zQ
noncomputable def Ru : KX := mJ sH Rt
noncomputable def Rs : KK := CQ (gW [1, 4, 5, 1, 0, 4, 1]) GK Ru ji
noncomputable def ae0 : OV := Rs (ls [G, I, J, K, u, u, u, u, L, P] 43) H
noncomputable def GP : KX := BX 2 GK Ru
noncomputable def zR : KX := mJ sH GP
noncomputable def GN : KK := sC (gW [1, 4, 5, 1, 0, 4, 1, 4, 5]) zR ji
noncomputable def Ro : KK := dn AJ GN
noncomputable def Iz : OV := GN (ls [G, I, J, K, u, u, u, u, L, P] 43) H
noncomputable def JS : KK := CQ (gW [1, 4, 5, 1, 0, 4, 1, 4, 5, 1]) Ro zR ji
noncomputable def TH : OV := JS (ls [G, I, J, K, u, u, u, u, L, P] 43) H
noncomputable def Bz : KK := CQ (gW [1, 4, 5, 1, 0, 4, 1, 4, 5, 1, 1]) Ro zR ji
noncomputable def ZT : KK := dn AJ Bz
noncomputable def TI : OV := Bz (ls [G, I, J, K, u, u, u, u, L, P] 43) H
noncomputable def ZU : KX := BX 3 ZT zR
noncomputable def Lg : OV := GP 2 (ls [G, I, J, K, u, u, u, u, L] 44) H
noncomputable def Le (H : AH) : OV := GO 0 (ls [] 53) H
theorem gC : ap 9007199254740991 ji := rf
theorem VD : ap sH Rp := rc gC aA gC
theorem nk : ∀ i, ap 9007199254740991 (GO i) := rb gC aA
theorem rE : ap sH GL := rl (cx nk) gC
theorem VE : ap sH Rq := rc (cd rE) (cx nk) gC
theorem rF : ap sH GM := rc (cd rE) (cx nk) gC
theorem wQ : ∀ i, ap sH (Rt i) := rb (cd rF) (cx nk)
theorem VF : ap AJ Rs := rc (cd rF) (cx wQ) gC
theorem nl : ∀ i, ap sH (GP i) := rb (cd rF) (cx wQ)
theorem rG : ap AJ GN := rl (cx nl) gC
theorem M9 : ap AJ JS := rc (cd rG) (cx nl) gC
theorem BA : ap AJ Bz := rc (cd rG) (cx nl) gC
theorem Na : ∀ i, ap AJ (ZU i) := rb (cd BA) (cx nl)
theorem Fw : aeZ G I J K L H =
 (aj .other .add L (vi 1)).bind fun a =>
 Iy G I J K a H :=
 (by kernel_rfl)
theorem Pg : TI G I J K L P H =
 (aj .other .sub P (vi 1)).bind fun a =>
 Iz G I J K L a H :=
 (by kernel_rfl)
theorem Pf : TH G I J K L P H =
 (aj .other .sub P (vi 1)).bind fun a =>
 (aj .other .sub P (vi 1)).bind fun b =>
 ldN 7 [.i 7 b] G H fun c =>
 ldN 7 [.i 7 P] G H fun d =>
 st 7 [.i 7 P] G c H fun e =>
 st 7 [.i 7 a] G d e fun f =>
 TI G I J K L P f :=
 (pt rfl 0 BA (bt rfl (gW [1, 4, 5, 1, 0, 4, 1, 4, 5, 1, 0, 4]) 3 Na (by kernel_rfl)))
theorem yH : Lg G I J K L H = aeZ G I J K L H :=
 (by kernel_rfl)
theorem Fy : Iz G I J K L P H =
 (aj .other .gtr P I).bind fun a =>
 (gV a true K).bind fun d =>
 (gV a true G).bind fun e =>
 (gV a true P).bind fun f =>
 pE a true  7 [.i 7 f] e H fun g =>
 (gV a true G).bind fun j =>
 (gV a true P).bind fun k =>
 (gB a true (aj .other .sub k (vi 1))).bind fun l =>
 pE a true  7 [.i 7 l] j H fun m =>
 (gE a true H ((b5 d [g, m]).bind fun c => FF c.1 c.2 H)).bind fun b =>
 (gB a true (aj .other .lss b.1 (vi 0))).bind fun n =>
 (aM a n (vb false)).bind fun o =>
 aw o
 (TH G I J K L P b.2)
 (Lg G I J K L b.2) :=
 pK rfl rG (pt rfl 0 M9 (by kernel_rfl))
theorem XJ : ae0 G I J K L P H =
 Iz G I J K L P H :=
 (bt rfl (gW [1, 4, 5, 1, 0, 4, 1, 4]) 2 nl (li rfl (gW [1, 4, 5, 1, 0, 4, 1, 4, 5]) rG (by kernel_rfl)))
theorem XI : aeY G I J K L H =
 ae0 G I J K L L H :=
 (pt rfl 0 rF (bt rfl (gW [1, 4, 5, 1, 0, 4]) 1 wQ (pt rfl 0 VF (by kernel_rfl))))
theorem yG (H : AH) : Le H = some (Value.tuple #[], H) :=
 (by kernel_rfl)
theorem xS : Iy G I J K L H =
 (aj .other .lss L J).bind fun a =>
 aw a
 (aeY G I J K L H)
 (Le H) :=
 pK rfl rE (pt rfl 0 VE (by kernel_rfl))
theorem XH : aeX G I J K L H =
 Iy G I J K L H :=
 (bt rfl (gW [1, 4]) 0 nk (li rfl (gW [1, 4, 5]) rE (by kernel_rfl)))
noncomputable def sIn : OV := aT PP GG FF (gW []) (ls [G, I, J, K] 49) H ji bC ji
theorem amW {r : Value × AH} (h : (
 (aj .other .add I (vi 1)).bind fun a =>
 aeX G I J K a H) = some r) : FF SX [G, I, J, K] H = some r :=
 fo (t := sIn G I J K H) Tryz.func187 (by kernel_rfl) (Eq.trans (pt rfl 0 VD (by kernel_rfl)) h)
end
section
variable (A D B G C V E L N K T O I M J R U Q P S W : Value) (H : AH)
noncomputable def bd (p : List Nat) : Code := Code.sub (bP Tryz.f188) p
noncomputable def bB : KK := e6 PP (Tryz.f188).results.toList
noncomputable def GQ : KK := CQ (bd [1]) bB bC bB
noncomputable def zS : KK := dn Qh GQ
noncomputable def ae1 : OV := GQ (ls [A, D, B, G, C] 215) H
noncomputable def GR : KK := CQ (bd [1, 1]) bB bC bB
noncomputable def zT : KK := dn Qh GR
noncomputable def ae2 : OV := GR (ls [A, D, B, G, C] 215) H
noncomputable def Rv : KK := CQ (bd [1, 1, 1, 1, 1]) bB bC bB
noncomputable def ae3 : OV := Rv (ls [A, D, B, G, C, u, u, u, u, u, u, u, u, u, u, u, u, u, I, M] 200) H
noncomputable def Rx : KK := CQ (bd [1, 1, 1, 1, 1, 1]) bB bC bB
noncomputable def Pi : OV := Rx (ls [A, D, B, G, C, u, u, u, u, u, u, u, u, u, u, u, u, u, I, M, J, R] 198) H
noncomputable def Ry : KK := CQ (bd [1, 1, 1, 1, 1, 1, 1]) bB bC bB
noncomputable def ae4 : OV := Ry (ls [A, D, B, G, C, u, u, u, u, u, u, u, u, u, u, u, u, u, I, M, J, R, U] 197) H
noncomputable def GS : KK := CQ (bd [1, 1, 1, 1, 1, 1, 1, 1]) bB bC bB
noncomputable def aiC : KK := dn Qi GS
noncomputable def Pl : OV := GS (ls [A, D, B, G, C, u, u, u, u, u, u, u, u, u, u, u, u, u, I, M, J] 199) H
noncomputable def Rz : KK := CQ (bd [1, 1, 1, 1, 1, 1, 1, 1, 1]) bB bC bB
noncomputable def ae5 : OV := Rz (ls [A, D, B, G, C, u, u, u, u, u, u, u, u, u, u, u, u, u, I, u, J, u, u, u, Q] 195) H
noncomputable def RB : KK := CQ (bd [1, 1, 1, 1, 1, 1, 1, 1, 1, 1]) bB bC bB
noncomputable def IF : OV := RB (ls [A, D, u, G, C, u, u, u, u, u, u, u, u, u, u, u, u, u, I, u, J, u, u, u, Q] 195) H
noncomputable def RC : KK := CQ (bd [1, 1, 1, 1, 1, 1, 1, 1, 1, 1, 1]) bB bC bB
noncomputable def IG : OV := RC (ls [A, u, u, G, C, u, u, u, u, u, u, u, u, u, u, u, u, u, I, u, u, u, u, u, Q] 195) H
noncomputable def BP : KX := BX 8 aiC bC
noncomputable def BT : KX := mJ Qi BP
noncomputable def BB : KK := sC (bd [1, 1, 1, 1, 1, 1, 1, 0, 4, 5]) BT bB
noncomputable def JT : KK := dn Y4 BB
noncomputable def v5 : OV := BB (ls [A, D, B, G, C, u, u, u, u, u, u, u, u, u, u, u, u, u, I, M, J, R, U] 197) H
noncomputable def J0 : KK := CQ (bd [1, 1, 1, 1, 1, 1, 1, 0, 4, 5, 1]) JT BT bB
noncomputable def TJ : OV := J0 (ls [A, D, B, G, C, u, u, u, u, u, u, u, u, u, u, u, u, u, I, M, J, R, U] 197) H
noncomputable def ZZ : KX := BX 9 JT BT
noncomputable def Fz : OV := BP 8 (ls [A, D, B, G, C, u, u, u, u, u, u, u, u, u, u, u, u, u, I, M, J] 199) H
noncomputable def J1 : KK := CQ (bd [1, 0, 1]) zT bC bB
noncomputable def TL : OV := J1 (ls [A, D, B, G, C, u, u, u, u, u, u, u, u, u, u, u, u, u, u, u, u, u, u, u, u, u, u, u, u, u, u, u, u, u, u, u, u, u, u, u, u, u, u, u, u, u, u, u, u, u, u, u, u, u, u, u, u, u, u, u, u, u, u, u, u, u, u, u, u, u, u, u, u, u, u, u, u, u, u, u, W] 139) H
noncomputable def J2 : KK := CQ (bd [1, 0, 1, 2, 1, 1]) zT bC bB
noncomputable def IE : OV := J2 (ls [A, u, B, u, C, u, u, u, u, u, u, u, u, u, K, T] 204) H
noncomputable def BC : KK := CQ (bd [1, 0, 1, 2, 1, 1, 1]) zT bC bB
noncomputable def ZV : KK := dn Qj BC
noncomputable def TM : OV := BC (ls [A, u, B, u, u, u, u, u, u, u, u, u, u, u, K] 205) H
noncomputable def BE : KK := CQ (bd [1, 0, 1, 2, 1, 1, 1, 1]) zT bC bB
noncomputable def JU : KK := dn F0 BE
noncomputable def TN (H : AH) : OV := BE (ls [] 220) H
noncomputable def J3 : KK := CQ (bd [1, 0, 1, 2, 1, 1, 1, 0, 1]) JU bC bB
noncomputable def TO : OV := J3 (ls [A, u, u, u, u, u, u, u, u, u, u, u, u, u, K, u, u, O] 202) H
noncomputable def BQ : KX := BX 6 JU bC
noncomputable def uI : KX := mJ F0 BQ
noncomputable def BF : KK := sC (bd [1, 0, 1, 2, 1, 1, 1, 0, 1, 4, 5]) uI bB
noncomputable def JV : KK := dn Mk BF
noncomputable def Ae : OV := BF (ls [A, u, u, u, u, u, u, u, u, u, u, u, u, u, K, u, u, O] 202) H
noncomputable def J4 : KK := CQ (bd [1, 0, 1, 2, 1, 1, 1, 0, 1, 4, 5, 1]) JV uI bB
noncomputable def TQ : OV := J4 (ls [A, u, u, u, u, u, u, u, u, u, u, u, u, u, K, u, u, O] 202) H
noncomputable def BG : KK := CQ (bd [1, 0, 1, 2, 1, 1, 1, 0, 1, 4, 5, 1, 1]) JV uI bB
noncomputable def ZW : KK := dn Mk BG
noncomputable def TS : OV := BG (ls [A, u, u, u, u, u, u, u, u, u, u, u, u, u, K, u, u, O] 202) H
noncomputable def Z0 : KX := BX 7 ZW uI
noncomputable def FA (H : AH) : OV := BQ 6 (ls [] 220) H
noncomputable def BR : KX := BX 4 ZV bC
noncomputable def BU : KX := mJ Qj BR
noncomputable def BI : KK := sC (bd [1, 0, 1, 2, 1, 1, 0, 4, 5]) BU bB
noncomputable def JW : KK := dn Jf BI
noncomputable def v9 : OV := BI (ls [A, u, B, u, C, u, u, u, u, u, u, u, u, u, K, T] 204) H
noncomputable def J5 : KK := CQ (bd [1, 0, 1, 2, 1, 1, 0, 4, 5, 1]) JW BU bB
noncomputable def TT : OV := J5 (ls [A, u, B, u, C, u, u, u, u, u, u, u, u, u, K, T] 204) H
noncomputable def Z3 : KX := BX 5 JW BU
noncomputable def FB : OV := BR 4 (ls [A, u, B, u, u, u, u, u, u, u, u, u, u, u, K] 205) H
noncomputable def J6 : KK := CQ (bd [0, 1]) zS bC bB
noncomputable def TU : OV := J6 (ls [A, D, B, G, C, u, u, u, u, u, u, u, u, u, u, u, u, u, u, u, u, u, u, u, u, u, u, u, P] 191) H
noncomputable def J7 : KK := CQ (bd [0, 1, 2, 1, 1]) zS bC bB
noncomputable def IH : OV := J7 (ls [A, D, u, u, C, u, u, u, u, u, E, L] 208) H
noncomputable def BJ : KK := CQ (bd [0, 1, 2, 1, 1, 1]) zS bC bB
noncomputable def ZX : KK := dn Qk BJ
noncomputable def TV : OV := BJ (ls [A, D, u, u, u, u, u, u, u, u, E] 209) H
noncomputable def BL : KK := CQ (bd [0, 1, 2, 1, 1, 1, 1]) zS bC bB
noncomputable def JX : KK := dn F0 BL
noncomputable def TX (H : AH) : OV := BL (ls [] 220) H
noncomputable def J8 : KK := CQ (bd [0, 1, 2, 1, 1, 1, 0, 1]) JX bC bB
noncomputable def TY : OV := J8 (ls [A, u, u, u, u, u, u, u, u, u, E, u, u, N] 206) H
noncomputable def BS : KX := BX 2 JX bC
noncomputable def uJ : KX := mJ F0 BS
noncomputable def BM : KK := sC (bd [0, 1, 2, 1, 1, 1, 0, 1, 4, 5]) uJ bB
noncomputable def JY : KK := dn Ml BM
noncomputable def Af : OV := BM (ls [A, u, u, u, u, u, u, u, u, u, E, u, u, N] 206) H
noncomputable def J9 : KK := CQ (bd [0, 1, 2, 1, 1, 1, 0, 1, 4, 5, 1]) JY uJ bB
noncomputable def TZ : OV := J9 (ls [A, u, u, u, u, u, u, u, u, u, E, u, u, N] 206) H
noncomputable def BN : KK := CQ (bd [0, 1, 2, 1, 1, 1, 0, 1, 4, 5, 1, 1]) JY uJ bB
noncomputable def ZY : KK := dn Ml BN
noncomputable def T0 : OV := BN (ls [A, u, u, u, u, u, u, u, u, u, E, u, u, N] 206) H
noncomputable def Z4 : KX := BX 3 ZY uJ
noncomputable def FC (H : AH) : OV := BS 2 (ls [] 220) H
noncomputable def wT : KX := BX 0 ZX bC
noncomputable def wU : KX := mJ Qk wT
noncomputable def wR : KK := sC (bd [0, 1, 2, 1, 1, 0, 4, 5]) wU bB
noncomputable def EJ : KK := dn Jg wR
noncomputable def qV : OV := wR (ls [A, D, u, u, C, u, u, u, u, u, E, L] 208) H
noncomputable def EK : KK := CQ (bd [0, 1, 2, 1, 1, 0, 4, 5, 1]) EJ wU bB
noncomputable def Li : OV := EK (ls [A, D, u, u, C, u, u, u, u, u, E, L] 208) H
noncomputable def VM : KX := BX 1 EJ wU
noncomputable def C7 : OV := wT 0 (ls [A, D, u, u, u, u, u, u, u, u, E] 209) H
theorem aU : ap F0 bB := rf
theorem nq : ap Qh GQ := rc aU aA aU
theorem nr : ap Qh GR := rc aU aA aU
theorem VG : ap 1684996666696914987166688442938726917102321526408785780068974854112 Rv := rc aU aA aU
theorem VH : ap 1684996666696914987166688442938726917102321526408785780068971708384 Rx := rc aU aA aU
theorem VI : ap Y4 Ry := rc aU aA aU
theorem EL : ap Qi GS := rc aU aA aU
theorem VJ : ap 1684996666696914987166688442938726917102321526408785780068957552608 Rz := rc aU aA aU
theorem VK : ap 1684996666696914987166688442938726917102321526408785780068957552612 RB := rc aU aA aU
theorem VL : ap 1684996666696914987166688442938726917102321526408785780068958601190 RC := rc aU aA aU
theorem oA : ∀ i, ap Qi (BP i) := rb (cd EL) aA
theorem ow : ap Y4 BB := rl (cx oA) aU
theorem Nb : ap Y4 J0 := rc (cd ow) (cx oA) aU
theorem Nl : ∀ i, ap Y4 (ZZ i) := rb (cd ow) (cx oA)
theorem Nc : ap 1684996666696914987166688442938726917102320317482966165439800934368 J1 := rc (cd nr) aA aU
theorem Nd : ap Jf J2 := rc (cd nr) aA aU
theorem BD : ap Qj BC := rc (cd nr) aA aU
theorem tg : ap F0 BE := rc (cd nr) aA aU
theorem Ne : ap Mk J3 := rc (cd tg) aA aU
theorem lB : ∀ i, ap F0 (BQ i) := rb (cd tg) aA
theorem ox : ap Mk BF := rl (cx lB) aU
theorem Nf : ap Mk J4 := rc (cd ox) (cx lB) aU
theorem BH : ap Mk BG := rc (cd ox) (cx lB) aU
theorem Nm : ∀ i, ap Mk (Z0 i) := rb (cd BH) (cx lB)
theorem oB : ∀ i, ap Qj (BR i) := rb (cd BD) aA
theorem oy : ap Jf BI := rl (cx oB) aU
theorem Ng : ap Jf J5 := rc (cd oy) (cx oB) aU
theorem Nn : ∀ i, ap Jf (Z3 i) := rb (cd oy) (cx oB)
theorem Nh : ap 1684996666696914987166688442938726917102321526408785780068707205088 J6 := rc (cd nq) aA aU
theorem Ni : ap Jg J7 := rc (cd nq) aA aU
theorem BK : ap Qk BJ := rc (cd nq) aA aU
theorem th : ap F0 BL := rc (cd nq) aA aU
theorem Nj : ap Ml J8 := rc (cd th) aA aU
theorem lC : ∀ i, ap F0 (BS i) := rb (cd th) aA
theorem oz : ap Ml BM := rl (cx lC) aU
theorem Nk : ap Ml J9 := rc (cd oz) (cx lC) aU
theorem BO : ap Ml BN := rc (cd oz) (cx lC) aU
theorem No : ∀ i, ap Ml (Z4 i) := rb (cd BO) (cx lC)
theorem mi : ∀ i, ap Qk (wT i) := rb (cd BK) aA
theorem mh : ap Jg wR := rl (cx mi) aU
theorem JZ : ap Jg EK := rc (cd mh) (cx mi) aU
theorem Ka : ∀ i, ap Jg (VM i) := rb (cd mh) (cx mi)
theorem XQ : IG A G C I Q H =
 (aj .other .lss I Q).bind fun a =>
 (gV a true Q).bind fun b =>
 (gV a true G).bind fun c =>
 (gB a true (aj .other .lss b c)).bind fun d =>
 (aM a d (vb false)).bind fun e =>
 aw e
 ((FF E9 [A, I, Q, G, C] H).bind fun f =>
 some (Value.tuple #[], f.2))
 (some (Value.tuple #[], H)) :=
 (by kernel_rfl)
theorem XP : IF A D G C I J Q H =
 (aj .other .lss D J).bind fun a =>
 (gV a true J).bind fun b =>
 (gV a true I).bind fun c =>
 (gB a true (aj .other .lss b c)).bind fun d =>
 (aM a d (vb false)).bind fun e =>
 aw e
 ((FF E9 [A, D, J, I, C] H).bind fun f =>
 IG A G C I Q f.2)
 (IG A G C I Q H) :=
 (pt rfl 0 VL (by kernel_rfl))
theorem XO : ae5 A D B G C I J Q H =
 (aj .other .lss J B).bind fun a =>
 (gV a true B).bind fun b =>
 (gV a true Q).bind fun c =>
 (gB a true (aj .other .lss b c)).bind fun d =>
 (aM a d (vb false)).bind fun e =>
 aw e
 ((FF adI [A, J, B, Q, C] H).bind fun f =>
 IF A D G C I J Q f.2)
 (IF A D G C I J Q H) :=
 (pt rfl 0 VK (by kernel_rfl))
theorem XN : Pl A D B G C I M J H =
 (aj .other .sub M J).bind fun a =>
 ae5 A D B G C I J a H :=
 (pt rfl 0 VJ (by kernel_rfl))
theorem Pj : TJ A D B G C I M J R U H =
 (aj .other .add J R).bind fun d =>
 (bI (some .u64) d).bind fun e =>
 (aj .other .shr e (vw 1)).bind fun f =>
 (bI (some .i64) f).bind fun a =>
 (aj .other .sub U a).bind fun g =>
 ldN 7 [.i 7 g] A H fun j =>
 ldN 7 [.i 7 a] A H fun k =>
 (b5 C [j, k]).bind fun c => (FF c.1 c.2 H).bind fun b =>
 (aj .other .lss b.1 (vi 0)).bind fun l =>
 (pM .not l).bind fun m =>
 aw m
 ((aj .other .add a (vi 1)).bind fun n =>
 v5 A D B G C I M n R U b.2)
 (v5 A D B G C I M J a U b.2) :=
 (bt rfl (bd [1, 1, 1, 1, 1, 1, 1, 0, 4, 5, 1, 4]) 9 Nl (by kernel_rfl))
theorem IA : Fz A D B G C I M J H = Pl A D B G C I M J H :=
 (by kernel_rfl)
theorem Ph : v5 A D B G C I M J R U H =
 (aj .other .lss J R).bind fun a =>
 aw a
 (TJ A D B G C I M J R U H)
 (Fz A D B G C I M J H) :=
 pK rfl ow (pt rfl 0 Nb (by kernel_rfl))
theorem FE : ae4 A D B G C I M J R U H =
 v5 A D B G C I M J R U H :=
 (pt rfl 0 EL (bt rfl (bd [1, 1, 1, 1, 1, 1, 1, 0, 4]) 8 oA (li rfl (bd [1, 1, 1, 1, 1, 1, 1, 0, 4, 5]) ow (by kernel_rfl))))
theorem FD : Pi A D B G C I M J R H =
 (aj .other .sub M (vi 1)).bind fun a =>
 ae4 A D B G C I M J R a H :=
 (pt rfl 0 VI (by kernel_rfl))
theorem XM : ae3 A D B G C I M H =
 (aj .other .gtr B I).bind fun a =>
 aw a
 ((aj .other .sub M G).bind fun b =>
 Pi A D B G C I M b I H)
 (Pi A D B G C I M D B H) :=
 (pt rfl 0 VH (by kernel_rfl))
theorem XL : ae2 A D B G C H =
 (aj .other .add D G).bind fun b =>
 (bI (some .u64) b).bind fun c =>
 (aj .other .shr c (vw 1)).bind fun d =>
 (bI (some .i64) d).bind fun a =>
 (aj .other .add a B).bind fun e =>
 ae3 A D B G C a e H :=
 (pt rfl 2 VG (by kernel_rfl))
theorem Po (H : AH) : TN H =
 some (Value.tuple #[], H) :=
 (by kernel_rfl)
theorem Pr : TS A K O H =
 (aj .other .sub O (vi 1)).bind fun a =>
 Ae A K a H :=
 (by kernel_rfl)
theorem Pq : TQ A K O H =
 (aj .other .sub O (vi 1)).bind fun a =>
 (aj .other .sub O (vi 1)).bind fun b =>
 ldN 7 [.i 7 b] A H fun c =>
 ldN 7 [.i 7 O] A H fun d =>
 st 7 [.i 7 O] A c H fun e =>
 st 7 [.i 7 a] A d e fun f =>
 TS A K O f :=
 (pt rfl 0 BH (bt rfl (bd [1, 0, 1, 2, 1, 1, 1, 0, 1, 4, 5, 1, 0, 4]) 7 Nm (by kernel_rfl)))
theorem IB (H : AH) : FA H = TN H :=
 (by kernel_rfl)
theorem C9 : Ae A K O H =
 (aj .other .gtr O K).bind fun a =>
 aw a
 (TQ A K O H)
 (FA H) :=
 pK rfl ox (pt rfl 0 Nf (by kernel_rfl))
theorem Pp : TO A K O H =
 Ae A K O H :=
 (bt rfl (bd [1, 0, 1, 2, 1, 1, 1, 0, 1, 4]) 6 lB (li rfl (bd [1, 0, 1, 2, 1, 1, 1, 0, 1, 4, 5]) ox (by kernel_rfl)))
theorem Pn : TM A B K H =
 TO A K B H :=
 (pt rfl 0 tg (pt rfl 0 Ne (by kernel_rfl)))
theorem Pu : TT A B C K T H =
 (aj .other .add K T).bind fun d =>
 (bI (some .u64) d).bind fun e =>
 (aj .other .shr e (vw 1)).bind fun f =>
 (bI (some .i64) f).bind fun a =>
 ldN 7 [.i 7 B] A H fun g =>
 ldN 7 [.i 7 a] A H fun j =>
 (b5 C [g, j]).bind fun c => (FF c.1 c.2 H).bind fun b =>
 (aj .other .lss b.1 (vi 0)).bind fun k =>
 (pM .not k).bind fun l =>
 aw l
 ((aj .other .add a (vi 1)).bind fun m =>
 v9 A B C m T b.2)
 (v9 A B C K a b.2) :=
 (bt rfl (bd [1, 0, 1, 2, 1, 1, 0, 4, 5, 1, 4]) 5 Nn (by kernel_rfl))
theorem IC : FB A B K H = TM A B K H :=
 (by kernel_rfl)
theorem Ps : v9 A B C K T H =
 (aj .other .lss K T).bind fun a =>
 aw a
 (TT A B C K T H)
 (FB A B K H) :=
 pK rfl oy (pt rfl 0 Ng (by kernel_rfl))
theorem Pm : IE A B C K T H =
 v9 A B C K T H :=
 (pt rfl 0 BD (bt rfl (bd [1, 0, 1, 2, 1, 1, 0, 4]) 4 oB (li rfl (bd [1, 0, 1, 2, 1, 1, 0, 4, 5]) oy (by kernel_rfl))))
theorem C8 : TL A D B G C W H =
 aw W
 (IE A B C D B H)
 (ae2 A D B G C H) :=
 (ct rfl (bd [1, 0, 1, 2]) (bd [1, 0, 1, 3]) (.tmp 80) (pt rfl 1 Nd (by kernel_rfl)) (by kernel_rfl))
theorem XK : ae1 A D B G C H =
 (aj .other .sub G B).bind fun a =>
 (aj .other .eql a (vi 1)).bind fun b =>
 TL A D B G C b H :=
 (pt rfl 0 nr (pt rfl 0 Nc (by kernel_rfl)))
theorem Px (H : AH) : TX H =
 some (Value.tuple #[], H) :=
 (by kernel_rfl)
theorem PA : T0 A E N H =
 (aj .other .add N (vi 1)).bind fun a =>
 Af A E a H :=
 (by kernel_rfl)
theorem Pz : TZ A E N H =
 (aj .other .add N (vi 1)).bind fun a =>
 (aj .other .add N (vi 1)).bind fun b =>
 ldN 7 [.i 7 b] A H fun c =>
 ldN 7 [.i 7 N] A H fun d =>
 st 7 [.i 7 N] A c H fun e =>
 st 7 [.i 7 a] A d e fun f =>
 T0 A E N f :=
 (pt rfl 0 BO (bt rfl (bd [0, 1, 2, 1, 1, 1, 0, 1, 4, 5, 1, 0, 4]) 3 No (by kernel_rfl)))
theorem ID (H : AH) : FC H = TX H :=
 (by kernel_rfl)
theorem Db : Af A E N H =
 (aj .other .sub E (vi 1)).bind fun a =>
 (aj .other .lss N a).bind fun b =>
 aw b
 (TZ A E N H)
 (FC H) :=
 pK rfl oz (pt rfl 0 Nk (by kernel_rfl))
theorem Py : TY A E N H =
 Af A E N H :=
 (bt rfl (bd [0, 1, 2, 1, 1, 1, 0, 1, 4]) 2 lC (li rfl (bd [0, 1, 2, 1, 1, 1, 0, 1, 4, 5]) oz (by kernel_rfl)))
theorem Pw : TV A D E H =
 TY A E D H :=
 (pt rfl 0 th (pt rfl 0 Nj (by kernel_rfl)))
theorem Lj : Li A D C E L H =
 (aj .other .add E L).bind fun d =>
 (bI (some .u64) d).bind fun e =>
 (aj .other .shr e (vw 1)).bind fun f =>
 (bI (some .i64) f).bind fun a =>
 ldN 7 [.i 7 a] A H fun g =>
 ldN 7 [.i 7 D] A H fun j =>
 (b5 C [g, j]).bind fun c => (FF c.1 c.2 H).bind fun b =>
 (aj .other .lss b.1 (vi 0)).bind fun k =>
 aw k
 ((aj .other .add a (vi 1)).bind fun l =>
 qV A D C l L b.2)
 (qV A D C E a b.2) :=
 (bt rfl (bd [0, 1, 2, 1, 1, 0, 4, 5, 1, 4]) 1 Ka (by kernel_rfl))
theorem D8 : C7 A D E H = TV A D E H :=
 (by kernel_rfl)
theorem Lh : qV A D C E L H =
 (aj .other .lss E L).bind fun a =>
 aw a
 (Li A D C E L H)
 (C7 A D E H) :=
 pK rfl mh (pt rfl 0 JZ (by kernel_rfl))
theorem Pv : IH A D C E L H =
 qV A D C E L H :=
 (pt rfl 0 BK (bt rfl (bd [0, 1, 2, 1, 1, 0, 4]) 0 mi (li rfl (bd [0, 1, 2, 1, 1, 0, 4, 5]) mh (by kernel_rfl))))
theorem Da : TU A D B G C P H =
 aw P
 (IH A D C B G H)
 (ae1 A D B G C H) :=
 (ct rfl (bd [0, 1, 2]) (bd [0, 1, 3]) (.tmp 28) (pt rfl 1 Ni (by kernel_rfl)) (by kernel_rfl))
noncomputable def sMg : OV := aT PP GG FF (bd []) (ls [A, D, B, G, C] 215) H bB bC bB
theorem amX {r : Value × AH} (h : (
 (aj .other .sub B D).bind fun a =>
 (aj .other .eql a (vi 1)).bind fun b =>
 TU A D B G C b H) = some r) : FF E9 [A, D, B, G, C] H = some r :=
 fo (t := sMg A D B G C H) Tryz.func188 (by kernel_rfl) (Eq.trans (pt rfl 0 nq (pt rfl 0 Nh (by kernel_rfl))) h)
theorem yS {r : Value × AH} (h : (
 (aj .other .neq A A).bind fun a =>
 some (a, H)) = some r) : FF iJ [A] H = some r :=
 fo Tryz.func189 (by kernel_rfl) h
noncomputable def gk (p : List Nat) : Code := Code.sub (bP Tryz.f190) p
noncomputable def gX : KK := e6 PP (Tryz.f190).results.toList
noncomputable def RF : KK := CQ (gk [1, 1, 1]) gX bC gX
noncomputable def yK : OV := RF (ls [A, u, B, G] 38) H
noncomputable def GT : KK := CQ (gk [1, 1, 1, 1]) gX bC gX
noncomputable def aiD : KK := dn yj GT
noncomputable def rg : OV := GT (ls [u, u, B, G] 38) H
noncomputable def GU : KK := CQ (gk [1, 1, 1, 1, 1]) gX bC gX
noncomputable def RD : KK := dn yj GU
noncomputable def yL : OV := GU (ls [u, u, B, G] 38) H
noncomputable def RH : KK := CQ (gk [1, 1, 1, 1, 0, 1]) RD bC gX
noncomputable def yM : OV := RH (ls [u, u, B, G, u, u, u, u, u, u, u, u, u, u, u, u, u, u, u, u, u, u, u, u, u, u, u, u, P, S] 12) H
noncomputable def GX : KX := BX 2 RD bC
noncomputable def zU : KX := mJ yj GX
noncomputable def GV : KK := sC (gk [1, 1, 1, 1, 0, 1, 4, 5]) zU gX
noncomputable def RE : KK := dn AK GV
noncomputable def mG : OV := GV (ls [u, u, B, G, u, u, u, u, u, u, u, u, u, u, u, u, u, u, u, u, u, u, u, u, u, u, u, u, P, S] 12) H
noncomputable def RJ : KK := CQ (gk [1, 1, 1, 1, 0, 1, 4, 5, 1, 1]) RE zU gX
noncomputable def yN : OV := RJ (ls [u, u, B, G, u, u, u, u, u, u, u, u, u, u, u, u, u, u, u, u, u, u, u, u, u, u, u, u, P, S] 12) H
noncomputable def GW : KK := CQ (gk [1, 1, 1, 1, 0, 1, 4, 5, 1, 1, 1]) RE zU gX
noncomputable def aiE : KK := dn AK GW
noncomputable def yO : OV := GW (ls [u, u, B, G, u, u, u, u, u, u, u, u, u, u, u, u, u, u, u, u, u, u, u, u, u, u, u, u, P, S] 12) H
noncomputable def aiF : KX := BX 3 aiE zU
noncomputable def s8 : OV := GX 2 (ls [u, u, B, G] 38) H
noncomputable def BW : KX := BX 0 aiD bC
noncomputable def BY : KX := mJ yj BW
noncomputable def BV : KK := sC (gk [1, 1, 1, 0, 4, 5]) BY gX
noncomputable def Kb : KK := dn Jk BV
noncomputable def kO : OV := BV (ls [A, u, B, G] 38) H
noncomputable def Kc : KK := CQ (gk [1, 1, 1, 0, 4, 5, 1]) Kb BY gX
noncomputable def wq : OV := Kc (ls [A, u, B, G] 38) H
noncomputable def Z5 : KX := BX 1 Kb BY
noncomputable def re : OV := BW 0 (ls [u, u, B, G] 38) H
theorem e7 : ap 4398046511099 gX := rf
theorem VN : ap Jk RF := rc e7 aA e7
theorem EM : ap yj GT := rc e7 aA e7
theorem wV : ap yj GU := rc e7 aA e7
theorem VO : ap AK RH := rc (cd wV) aA e7
theorem nt : ∀ i, ap yj (GX i) := rb (cd wV) aA
theorem rH : ap AK GV := rl (cx nt) e7
theorem VP : ap AK RJ := rc (cd rH) (cx nt) e7
theorem EN : ap AK GW := rc (cd rH) (cx nt) e7
theorem VQ : ∀ i, ap AK (aiF i) := rb (cd EN) (cx nt)
theorem oD : ∀ i, ap yj (BW i) := rb (cd EM) aA
theorem oC : ap Jk BV := rl (cx oD) e7
theorem Np : ap Jk Kc := rc (cd oC) (cx oD) e7
theorem Nq : ∀ i, ap Jk (Z5 i) := rb (cd oC) (cx oD)
theorem Dy : yL B G H =
 some (G, H) :=
 (by kernel_rfl)
theorem DB : yO B G P S H =
 (aj .other .add S (vi 1)).bind fun a =>
 mG B G P a H :=
 (by kernel_rfl)
theorem DA : yN B G P S H =
 ld [.n, .f 2] G H fun b =>
 ze 1 1 [(vi 0)] [(0, (vi (-1)))] H fun c d =>
 (dN 1 8 b c d).bind fun a =>
 st 1 [.n, .f 2] G a.1 a.2 fun e =>
 yO B G P S e :=
 (pt rfl 0 EN (bt rfl (gk [1, 1, 1, 1, 0, 1, 4, 5, 1, 1, 0, 4]) 3 VQ (by kernel_rfl)))
theorem yc : s8 B G H = yL B G H :=
 (by kernel_rfl)
theorem rh : mG B G P S H =
 (aj .other .lss S P).bind fun a =>
 aw a
 (yN B G P S H)
 (s8 B G H) :=
 pK rfl rH (pt rfl 1 VP (by kernel_rfl))
theorem Dz : yM B G P S H =
 mG B G P S H :=
 (bt rfl (gk [1, 1, 1, 1, 0, 1, 4]) 2 nt (li rfl (gk [1, 1, 1, 1, 0, 1, 4, 5]) rH (by kernel_rfl)))
theorem Dw : rg B G H =
 ld [.n, .f 1] G H fun a =>
 (aj .other .mul (vi 2) a).bind fun b =>
 yM B G b (vi 0) H :=
 (pt rfl 0 wV (pt rfl 0 VO (by kernel_rfl)))
theorem zE : wq A B G H =
 ld [.n, .f 1] G H fun a =>
 (aj .other .mul a (vi 2)).bind fun b =>
 st 1 [.n, .f 1] G b H fun c =>
 kO A B G c :=
 (bt rfl (gk [1, 1, 1, 0, 4, 5, 1, 4]) 1 Nq (by kernel_rfl))
theorem mF : re B G H = rg B G H :=
 (by kernel_rfl)
theorem py : kO A B G H =
 ld [.n, .f 1] G H fun a =>
 (aj .other .lss a A).bind fun b =>
 aw b
 (wq A B G H)
 (re B G H) :=
 pK rfl oC (pt rfl 0 Np (by kernel_rfl))
theorem Dv : yK A B G H =
 kO A B G H :=
 (pt rfl 0 EM (bt rfl (gk [1, 1, 1, 0, 4]) 0 oD (li rfl (gk [1, 1, 1, 0, 4, 5]) oC (by kernel_rfl))))
noncomputable def af8 : OV := aT PP GG FF (gk []) (ls [A] 41) H gX bC gX
theorem LH {r : Value × AH} (h : (
 (ig [A, (vi 1)]).bind fun c =>
 (i8 [c, (vi 16)]).bind fun a =>
 (kB [(vw 0), (vi 0), (vb false)] 3 24 a a H).bind fun b =>
 iz [(0, 1), (1, 1), (2, 1)] [(.slice none 0 0), (vi 0), (.slice none 0 0)] [(0, b.1), (1, (vi 1))] fun d =>
 aW (Value.cells d).toList b.2 fun e f =>
 yK a (.pointer none) e f) = some r) : FF tL [A] H = some r :=
 fo (t := af8 A H) Tryz.func190 (by kernel_rfl) (Eq.trans (pt rfl 2 VN (by kernel_rfl)) h)
theorem IQ {r : Value × AH} (h : (
 (FF qH [A] H).bind fun a =>
 (FF tE [] a.2).bind fun b =>
 iz [(0, 1), (1, 1), (2, 1)] [(.pointer none), (.pointer none), (vi 0)] [(0, a.1), (1, b.1), (2, A)] fun c =>
 aW (Value.cells c).toList b.2 fun d e =>
 some (d, e)) = some r) : FF qF [A] H = some r :=
 fo Tryz.func191 (by kernel_rfl) h
theorem If {r : Value × AH} (h : (
 (ig [A, (vi 0)]).bind fun a =>
 (i8 [a, (vi 40)]).bind fun b =>
 some (b, H)) = some r) : FF qE [A] H = some r :=
 fo Tryz.func200 (by kernel_rfl) h
theorem MG {r : Value × AH} (h : (
 ld [.n, .f 0] A H fun a =>
 ld [.n, .f 1] A H fun b =>
 iz [(0, 1), (1, 1), (2, 1), (3, 1)] [(vi 0), (.slice none 0 0), (vi 0), (vw 0)] [(0, B)] fun c =>
 (FF hM [a, D, b, c] H).bind fun d =>
 some (Value.tuple #[], d.2)) = some r) : FF kY [A, D, B] H = some r :=
 fo Tryz.func207 (by kernel_rfl) h
theorem MB {r : Value × AH} (h : (
 aW [(vi 0), (.slice none 0 0), (vi 0), (vw 0)] H fun a c =>
 iz [(0, 1), (1, 1), (2, 1), (3, 1)] [(vi 0), (.slice none 0 0), (vi 0), (vw 0)] [(0, D)] fun d =>
 (dc 4 a d c).bind fun b =>
 (aC 4 a b).bind fun e => some (Value.tuple #[e, (vb true)], b)) = some r) : FF kV [A, D] H = some r :=
 fo Tryz.func208 (by kernel_rfl) h
noncomputable def Nr (p : List Nat) : Code := Code.sub (bP Tryz.f209) p
noncomputable def ti : KK := e6 PP (Tryz.f209).results.toList
noncomputable def RK : KK := CQ (Nr [1, 1, 1]) ti bC ti
noncomputable def Eu : OV := RK (ls [A, u, B, G, C, V] 65) H
noncomputable def RL : KK := CQ (Nr [1, 1, 1, 1]) ti bC ti
noncomputable def rA : OV := RL (ls [A, u, B] 68) H
theorem uK : ap 2361183241434822606843 ti := rf
theorem VR : ap 2361183241434822606786 RK := rc uK aA uK
theorem VS : ap 2361183241434822606842 RL := rc uK aA uK
theorem F6 : rA A B H =
 ad [.n, .f 8] A fun a =>
 (au a H).bind fun c =>
 ld [.n, .f 0] A H fun d =>
 ld [.n, .f 2] d H fun e =>
 (FF gr [e] H).bind fun b =>
 bJ (au a b.2) (au a H) <|
 (aj .other .geq c b.1).bind fun g =>
 some (g, b.2) :=
 (by kernel_rfl)
theorem uu : Eu A B G C V H =
 (gV V true G).bind fun b =>
 (gV V true A).bind fun c =>
 fG V true  [.n, .f 2, .f 1] c H fun d =>
 (gB V true (aj .other .eql b d)).bind fun e =>
 (aM V e (vb false)).bind fun g =>
 st 1 [.n, .f 10] A g H fun a =>
 ld [.n, .f 10] A a fun i =>
 aw i
 (st 1 [.n, .f 9] A C a fun j =>
 rA A B j)
 (rA A B a) :=
 (pt rfl 0 VS (by kernel_rfl))
noncomputable def alV : OV := aT PP GG FF (Nr []) (ls [A] 70) H ti bC ti
theorem UT {r : Value × AH} (h : (
 ld [.n, .f 0] A H fun b =>
 ld [.n, .f 2] b H fun c =>
 ld [.n, .f 1] A H fun d =>
 ld [.n, .f 6] A H fun e =>
 ld [.n, .f 8] A H fun g =>
 (FF ie [c, d, e, g] H).bind fun a =>
 (ak a.1 0).bind fun i =>
 (ak a.1 1).bind fun j =>
 (ak a.1 2).bind fun k =>
 ld [.n, .f 8] A a.2 fun l =>
 (aj .other .add l (vi 1)).bind fun m =>
 st 1 [.n, .f 8] A m a.2 fun o =>
 Eu A (vb false) i j k o) = some r) : FF vl [A] H = some r :=
 fo (t := alV A H) Tryz.func209 (by kernel_rfl) (Eq.trans (pt rfl 2 VR (by kernel_rfl)) h)
theorem Zo {r : Value × AH} (h : (
 aW [(vi 0), (.slice none 0 0), (vi 0), (vw 0)] H fun a c =>
 st 1 [.n, .f 7] A D c fun d =>
 iz [(0, 1), (1, 1), (2, 1), (3, 1)] [(vi 0), (.slice none 0 0), (vi 0), (vw 0)] [] fun e =>
 (dc 4 a e d).bind fun b =>
 (aC 4 a b).bind fun g => some (Value.tuple #[g, (vb false)], b)) = some r) : FF bk [A, D] H = some r :=
 fo Tryz.func210 (by kernel_rfl) h
theorem MF {r : Value × AH} (h : (
 aW [(vi 0), (.slice none 0 0), (vi 0), (vw 0)] H fun d a =>
 ld [.n, .f 0] A a fun i =>
 ld [.n, .f 1] A a fun j =>
 ld [.n, .f 9] A a fun k =>
 (FF dD [i, j, k] a).bind fun b =>
 ld [.n, .f 0] A b.2 fun l =>
 ld [.n, .f 9] A b.2 fun m =>
 (FF di [l, m] b.2).bind fun e =>
 st 1 [.n, .f 11] A e.1 e.2 fun o =>
 (FF bk [A, (.func (.func bM) #[A] #[])] o).bind fun c =>
 (ak c.1 0).bind fun p =>
 (ak c.1 1).bind fun q =>
 (dc 4 d p c.2).bind fun g =>
 (aC 4 d g).bind fun s => some (Value.tuple #[s, q], g)) = some r) : FF f3 [A, D] H = some r :=
 fo Tryz.func211 (by kernel_rfl) h
theorem ME {r : Value × AH} (h : (
 aW [(vi 0), (.slice none 0 0), (vi 0), (vw 0)] H fun b a =>
 ld [.n, .f 0] A a fun j =>
 ld [.n, .f 2] j a fun k =>
 ld [.n, .f 1] A a fun l =>
 ld [.n, .f 6] A a fun m =>
 (FF ic [k, l, m] a).bind fun c =>
 (pM .not c.1).bind fun o =>
 aw o
 ((FF bk [A, (.func (.func cH) #[A] #[])] c.2).bind fun d =>
 (ak d.1 0).bind fun p =>
 (ak d.1 1).bind fun q =>
 (dc 4 b p d.2).bind fun g =>
 (aC 4 b g).bind fun s => some (Value.tuple #[s, q], g))
 (st 1 [.n, .f 8] A (vi 0) c.2 fun t =>
 (FF bk [A, (.func (.func dB) #[A] #[])] t).bind fun e =>
 (ak e.1 0).bind fun w =>
 (ak e.1 1).bind fun y =>
 (dc 4 b w e.2).bind fun i =>
 (aC 4 b i).bind fun z => some (Value.tuple #[z, y], i))) = some r) : FF cH [A, D] H = some r :=
 fo Tryz.func212 (by kernel_rfl) h
noncomputable def mN (p : List Nat) : Code := Code.sub (bP Tryz.f213) p
noncomputable def lD : KK := e6 PP (Tryz.f213).results.toList
noncomputable def RO : KK := CQ (mN [1]) lD bC lD
noncomputable def pk : OV := RO (ls [A, D, u, u, C] 20) H
noncomputable def GY : KK := CQ (mN [1, 1]) lD bC lD
noncomputable def RM : KK := dn 33554415 GY
noncomputable def pn : OV := GY (ls [u, u, u, u, C] 20) H
noncomputable def RP : KK := CQ (mN [1, 0, 1]) RM bC lD
noncomputable def pp : OV := RP (ls [A, D, u, u, C, V] 19) H
noncomputable def G1 : KX := BX 0 RM bC
noncomputable def zV : KX := mJ 33554415 G1
noncomputable def GZ : KK := sC (mN [1, 0, 1, 4, 5]) zV lD
noncomputable def RN : KK := dn 33554380 GZ
noncomputable def gS : OV := GZ (ls [A, D, u, u, C, V] 19) H
noncomputable def RQ : KK := CQ (mN [1, 0, 1, 4, 5, 1]) RN zV lD
noncomputable def pr : OV := RQ (ls [A, D, u, u, C, V] 19) H
noncomputable def G0 : KK := CQ (mN [1, 0, 1, 4, 5, 1, 1]) RN zV lD
noncomputable def aiG : KK := dn 33554380 G0
noncomputable def pw : OV := G0 (ls [A, D, u, u, C, V] 19) H
noncomputable def aiH : KX := BX 1 aiG zV
noncomputable def mB : OV := G1 0 (ls [u, u, u, u, C] 20) H
theorem jY : ap 33554415 lD := rf
theorem VT : ap 33554412 RO := rc jY aA jY
theorem wW : ap 33554415 GY := rc jY aA jY
theorem VU : ap 33554380 RP := rc (cd wW) aA jY
theorem nu : ∀ i, ap 33554415 (G1 i) := rb (cd wW) aA
theorem rI : ap 33554380 GZ := rl (cx nu) jY
theorem VV : ap 33554380 RQ := rc (cd rI) (cx nu) jY
theorem EO : ap 33554380 G0 := rc (cd rI) (cx nu) jY
theorem VW : ∀ i, ap 33554380 (aiH i) := rb (cd EO) (cx nu)
theorem tS : pn C H =
 some ((vi (-1)), H) :=
 (by kernel_rfl)
theorem tV : pw A D C V H =
 (aj .other .add V (vi 1)).bind fun a =>
 gS A D C a H :=
 (by kernel_rfl)
theorem tU : pr A D C V H =
 ld [.n, .f 2] A H fun a =>
 ld [.i 1 V] a H fun b =>
 (aj .other .eql b D).bind fun c =>
 aw c
 (some (V, H))
 (pw A D C V H) :=
 (pt rfl 0 EO (bt rfl (mN [1, 0, 1, 4, 5, 1, 0, 4]) 1 VW (by kernel_rfl)))
theorem qP : mB C H = pn C H :=
 (by kernel_rfl)
theorem lX : gS A D C V H =
 ld [.n, .f 2] A H fun a =>
 ep a fun b =>
 (aj .other .lss V b).bind fun c =>
 aw c
 (pr A D C V H)
 (mB C H) :=
 pK rfl rI (pt rfl 0 VV (by kernel_rfl))
theorem tT : pp A D C V H =
 gS A D C V H :=
 (bt rfl (mN [1, 0, 1, 4]) 0 nu (li rfl (mN [1, 0, 1, 4, 5]) rI (by kernel_rfl)))
theorem tR : pk A D C H =
 pp A D C (vi 0) H :=
 (pt rfl 0 wW (pt rfl 0 VU (by kernel_rfl)))
noncomputable def Ih : OV := aT PP GG FF (mN []) (ls [A, D] 23) H lD bC lD
theorem zu {r : Value × AH} (h : (
 pk A D (vi 0) H) = some r) : FF lN [A, D] H = some r :=
 fo (t := Ih A D H) Tryz.func213 (by kernel_rfl) (Eq.trans (pt rfl 0 VT (by kernel_rfl)) h)
theorem zb {r : Value × AH} (h : (
 aW (Value.cells B).toList H fun b c =>
 (aC 3 b c).bind fun d =>
 (FF d6 [A, d] c).bind fun a =>
 (aj .other .neq a.1 G).bind fun e =>
 aw e
 ((aC 3 b a.2).bind fun f =>
 (FF cM [A, D, (vi 4), f] a.2).bind fun g =>
 some ((vb false), g.2))
 ((aC 3 b a.2).bind fun i =>
 (FF iN [A, D, i, C] a.2).bind fun j =>
 some ((vb true), j.2))) = some r) : FF d7 [A, D, B, G, C] H = some r :=
 fo Tryz.func214 (by kernel_rfl) h
theorem Eh {r : Value × AH} (h : (
 (FF iR [A] H).bind fun a =>
 (pM .not a.1).bind fun b =>
 aw b
 (some ((vi (-1)), a.2))
 ((aj .other .shr A (vw 61)).bind fun c =>
 (bI (some .i64) c).bind fun d =>
 some (d, a.2))) = some r) : FF f8 [A] H = some r :=
 fo Tryz.func215 (by kernel_rfl) h
theorem I1 {r : Value × AH} (h : (
 (aj .other .gtr A (vw 2305843009213693951)).bind fun a =>
 (gV a false D).bind fun c =>
 (gB a false (aj .other .lss c (vi 0))).bind fun d =>
 (aM a (vb true) d).bind fun b =>
 (gV b false D).bind fun e =>
 (gB b false (aj .other .geq e (vi 3))).bind fun f =>
 (aM b (vb true) f).bind fun g =>
 aw g
 (some (Value.tuple #[(vw 0), (vb false)], H))
 ((bI (some .u64) D).bind fun i =>
 (aj .other .shl i (vw 61)).bind fun j =>
 (aj .other .or j A).bind fun k =>
 some (Value.tuple #[k, (vb true)], H))) = some r) : FF qI [A, D] H = some r :=
 fo Tryz.func216 (by kernel_rfl) h
theorem Ef {r : Value × AH} (h : (
 (FF iR [A] H).bind fun a =>
 (pM .not a.1).bind fun b =>
 aw b
 (some ((vw 0), a.2))
 ((aj .other .and A (vw 2305843009213693951)).bind fun c =>
 some (c, a.2))) = some r) : FF dF [A] H = some r :=
 fo Tryz.func217 (by kernel_rfl) h
theorem KY {r : Value × AH} (h : (
 (aj .other .gtr A (vw 2305843009213693951)).bind fun a =>
 (gV a false D).bind fun c =>
 (gB a false (aj .other .lss c (vi 0))).bind fun d =>
 (aM a (vb true) d).bind fun b =>
 (gV b false D).bind fun e =>
 (gB b false (aj .other .gtr e (vi 2))).bind fun f =>
 (aM b (vb true) f).bind fun g =>
 aw g
 (some (Value.tuple #[(vw 0), (vb false)], H))
 ((bI (some .u64) D).bind fun i =>
 (aj .other .mul i (vw 2305843009213693952)).bind fun j =>
 (aj .other .add j A).bind fun k =>
 some (Value.tuple #[k, (vb true)], H))) = some r) : FF lM [A, D] H = some r :=
 fo Tryz.func218 (by kernel_rfl) h
noncomputable def qd (p : List Nat) : Code := Code.sub (bP Tryz.f219) p
noncomputable def oE : KK := e6 PP (Tryz.f219).results.toList
noncomputable def RS : KK := CQ (qd [1, 1]) oE bC oE
noncomputable def ae6 : OV := RS (ls [A, u, B, u, C, u, u, u, u, u, E, L] 46) H
noncomputable def G2 : KK := CQ (qd [1, 1, 1]) oE bC oE
noncomputable def aiI : KK := dn Qr G2
noncomputable def ae7 : OV := G2 (ls [A, u, B, u, C, u, u, u, u, u, E] 47) H
noncomputable def G4 : KX := BX 0 aiI bC
noncomputable def G5 : KX := mJ Qr G4
noncomputable def G3 : KK := sC (qd [1, 1, 0, 4, 5]) G5 oE
noncomputable def RR : KK := dn Ji G3
noncomputable def Dc : OV := G3 (ls [A, u, B, u, C, u, u, u, u, u, E, L] 46) H
noncomputable def RT : KK := CQ (qd [1, 1, 0, 4, 5, 1]) RR G5 oE
noncomputable def ae8 : OV := RT (ls [A, u, B, u, C, u, u, u, u, u, E, L] 46) H
noncomputable def aiJ : KX := BX 1 RR G5
noncomputable def Lk : OV := G4 0 (ls [A, u, B, u, C, u, u, u, u, u, E] 47) H
theorem ny : ap 288230376151711743 oE := rf
theorem VX : ap Ji RS := rc ny aA ny
theorem EP : ap Qr G2 := rc ny aA ny
theorem rK : ∀ i, ap Qr (G4 i) := rb (cd EP) aA
theorem rJ : ap Ji G3 := rl (cx rK) ny
theorem VY : ap Ji RT := rc (cd rJ) (cx rK) ny
theorem VZ : ∀ i, ap Ji (aiJ i) := rb (cd rJ) (cx rK)
theorem XS : ae7 A B C E H =
 (aj .other .sub B E).bind fun a =>
 (FF KE [A, a, B, E, C] H).bind fun b =>
 some (Value.tuple #[], b.2) :=
 (by kernel_rfl)
theorem XU : ae8 A B C E L H =
 (aj .other .gtr E L).bind fun a =>
 aw a
 ((aj .other .sub B E).bind fun b =>
 (FF KE [A, b, B, L, C] H).bind fun c =>
 (aj .other .sub E L).bind fun d =>
 Dc A B C d L c.2)
 ((aj .other .sub B E).bind fun e =>
 (aj .other .add B L).bind fun f =>
 (aj .other .sub f E).bind fun g =>
 (FF KE [A, e, g, E, C] H).bind fun i =>
 (aj .other .sub L E).bind fun j =>
 Dc A B C E j i.2) :=
 (bt rfl (qd [1, 1, 0, 4, 5, 1, 4]) 1 VZ (by kernel_rfl))
theorem Ll : Lk A B C E H = ae7 A B C E H :=
 (by kernel_rfl)
theorem XT : Dc A B C E L H =
 (aj .other .neq E L).bind fun a =>
 aw a
 (ae8 A B C E L H)
 (Lk A B C E H) :=
 pK rfl rJ (pt rfl 0 VY (by kernel_rfl))
theorem XR : ae6 A B C E L H =
 Dc A B C E L H :=
 (pt rfl 0 EP (bt rfl (qd [1, 1, 0, 4]) 0 rK (li rfl (qd [1, 1, 0, 4, 5]) rJ (by kernel_rfl))))
noncomputable def sRo : OV := aT PP GG FF (qd []) (ls [A, D, B, G, C] 53) H oE bC oE
theorem amY {r : Value × AH} (h : (
 (aj .other .sub B D).bind fun a =>
 (aj .other .sub G B).bind fun b =>
 ae6 A B C a b H) = some r) : FF adI [A, D, B, G, C] H = some r :=
 fo (t := sRo A D B G C H) Tryz.func219 (by kernel_rfl) (Eq.trans (pt rfl 1 VX (by kernel_rfl)) h)
theorem IZ {r : Value × AH} (h : (
 (FF oM [A] H).bind fun a =>
 D3 a.2 fun b c =>
 iz [(0, 1), (1, 1), (2, 192), (194, 3), (197, 1)] [(vw 0), (vi 0), (.slice none 0 0), (.slice none 0 0), (.slice none 0 0), (.slice none 0 0), (.slice none 0 0), (.slice none 0 0), (.slice none 0 0), (.slice none 0 0), (.slice none 0 0), (.slice none 0 0), (.slice none 0 0), (.slice none 0 0), (.slice none 0 0), (.slice none 0 0), (.slice none 0 0), (.slice none 0 0), (.slice none 0 0), (.slice none 0 0), (.slice none 0 0), (.slice none 0 0), (.slice none 0 0), (.slice none 0 0), (.slice none 0 0), (.slice none 0 0), (.slice none 0 0), (.slice none 0 0), (.slice none 0 0), (.slice none 0 0), (.slice none 0 0), (.slice none 0 0), (.slice none 0 0), (.slice none 0 0), (.slice none 0 0), (.slice none 0 0), (.slice none 0 0), (.slice none 0 0), (.slice none 0 0), (.slice none 0 0), (.slice none 0 0), (.slice none 0 0), (.slice none 0 0), (.slice none 0 0), (.slice none 0 0), (.slice none 0 0), (.slice none 0 0), (.slice none 0 0), (.slice none 0 0), (.slice none 0 0), (.slice none 0 0), (.slice none 0 0), (.slice none 0 0), (.slice none 0 0), (.slice none 0 0), (.slice none 0 0), (.slice none 0 0), (.slice none 0 0), (.slice none 0 0), (.slice none 0 0), (.slice none 0 0), (.slice none 0 0), (.slice none 0 0), (.slice none 0 0), (.slice none 0 0), (.slice none 0 0), (.slice none 0 0), (.slice none 0 0), (.slice none 0 0), (.slice none 0 0), (.slice none 0 0), (.slice none 0 0), (.slice none 0 0), (.slice none 0 0), (.slice none 0 0), (.slice none 0 0), (.slice none 0 0), (.slice none 0 0), (.slice none 0 0), (.slice none 0 0), (.slice none 0 0), (.slice none 0 0), (.slice none 0 0), (.slice none 0 0), (.slice none 0 0), (.slice none 0 0), (.slice none 0 0), (.slice none 0 0), (.slice none 0 0), (.slice none 0 0), (.slice none 0 0), (.slice none 0 0), (.slice none 0 0), (.slice none 0 0), (.slice none 0 0), (.slice none 0 0), (.slice none 0 0), (.slice none 0 0), (.slice none 0 0), (.slice none 0 0), (.slice none 0 0), (.slice none 0 0), (.slice none 0 0), (.slice none 0 0), (.slice none 0 0), (.slice none 0 0), (.slice none 0 0), (.slice none 0 0), (.slice none 0 0), (.slice none 0 0), (.slice none 0 0), (.slice none 0 0), (.slice none 0 0), (.slice none 0 0), (.slice none 0 0), (.slice none 0 0), (.slice none 0 0), (.slice none 0 0), (.slice none 0 0), (.slice none 0 0), (.slice none 0 0), (.slice none 0 0), (.slice none 0 0), (.slice none 0 0), (.slice none 0 0), (.slice none 0 0), (.slice none 0 0), (.slice none 0 0), (.slice none 0 0), (.slice none 0 0), (.slice none 0 0), (.slice none 0 0), (.slice none 0 0), (.slice none 0 0), (.slice none 0 0), (.slice none 0 0), (.slice none 0 0), (.slice none 0 0), (.slice none 0 0), (.slice none 0 0), (.slice none 0 0), (.slice none 0 0), (.slice none 0 0), (.slice none 0 0), (.slice none 0 0), (.slice none 0 0), (.slice none 0 0), (.slice none 0 0), (.slice none 0 0), (.slice none 0 0), (.slice none 0 0), (.slice none 0 0), (.slice none 0 0), (.slice none 0 0), (.slice none 0 0), (.slice none 0 0), (.slice none 0 0), (.slice none 0 0), (.slice none 0 0), (.slice none 0 0), (.slice none 0 0), (.slice none 0 0), (.slice none 0 0), (.slice none 0 0), (.slice none 0 0), (.slice none 0 0), (.slice none 0 0), (.slice none 0 0), (.slice none 0 0), (.slice none 0 0), (.slice none 0 0), (.slice none 0 0), (.slice none 0 0), (.slice none 0 0), (.slice none 0 0), (.slice none 0 0), (.slice none 0 0), (.slice none 0 0), (.slice none 0 0), (.slice none 0 0), (.slice none 0 0), (.slice none 0 0), (.slice none 0 0), (.slice none 0 0), (.slice none 0 0), (.slice none 0 0), (.slice none 0 0), (.slice none 0 0), (.slice none 0 0), (.slice none 0 0), (.slice none 0 0), (.slice none 0 0), (.slice none 0 0), (.slice none 0 0), (vw 0), (vw 0), (vw 0), (.map none)] [(1, a.1), (4, b)] fun d =>
 aW (Value.cells d).toList c fun e f =>
 some (e, f)) = some r) : FF qH [A] H = some r :=
 fo Tryz.func220 (by kernel_rfl) h
theorem Kn (H : AH) {r : Value × AH} (h : (
 D3 H fun a b =>
 iz [(0, 1), (1, 1)] [(.slice none 0 0), (.map none)] [(1, a)] fun c =>
 aW (Value.cells c).toList b fun d e =>
 some (d, e)) = some r) : FF tE [] H = some r :=
 fo Tryz.func221 (by kernel_rfl) h
theorem sA {r : Value × AH} (h : (
 ad [.n, .f 0] A fun a =>
 (au a H).bind fun d =>
 (FF jN [B] H).bind fun b =>
 bJ (au a b.2) (au a H) <|
 (FF d7 [d, D, b.1, (vw 0), (vw 1)] b.2).bind fun c =>
 some (c.1, c.2)) = some r) : FF ic [A, D, B] H = some r :=
 fo Tryz.func237 (by kernel_rfl) h
end
section
variable (D E G K J L M I : Value) (H : AH)
theorem sr {r : Value × AH} (h : (
 aW (Value.cells K).toList H fun i a =>
 ad [.n, .f 12] D fun c =>
 (au c a).bind fun j =>
 ad [.n, .f 11] D fun d =>
 (au d a).bind fun e =>
 (cu .int (vi 0) e G false a).bind fun k =>
 (aC 4 i a).bind fun l =>
 (FF mt [l] a).bind fun b =>
 bJ (au c b.2) (au c a) <|
 bJ (au d b.2) (au d a) <|
 bJ (cu .int (vi 0) e G false b.2) (cu .int (vi 0) e G false a) <|
 iz [(0, 1), (1, 1), (2, 1), (3, 4)] [(vi 0), (vi 0), (vi 0), (vi 0), (.slice none 0 0), (vi 0), (vw 0)] [(0, E), (1, G), (2, k), (3, b.1)] fun m =>
 ze 1 7 [(vi 0), (vi 0), (vi 0), (vi 0), (.slice none 0 0), (vi 0), (vw 0)] [(0, m)] b.2 fun o p =>
 (dN 7 72 j o p).bind fun g =>
 st 1 [.n, .f 12] D g.1 g.2 fun q =>
 some (Value.tuple #[], q)) = some r) : FF hM [D, E, G, K] H = some r :=
 fo Tryz.func242 (by kernel_rfl) h
theorem q8 {r : Value × AH} (h : (
 ld [.n, .f 2] D H fun a =>
 some (a, H)) = some r) : FF gr [D] H = some r :=
 fo Tryz.func243 (by kernel_rfl) h
theorem ML {r : Value × AH} (h : (
 aW [(vi 0), (.slice none 0 0), (vi 0), (vw 0)] H fun a b =>
 ld [.n, .f 11] D b fun l =>
 ld [.n, .f 1] D b fun m =>
 (FF f7 [l, m] b).bind fun g =>
 st 1 [.n, .f 12] D g.1 g.2 fun i =>
 ld [.n, .f 12] D i fun o =>
 (FF f8 [o] i).bind fun c =>
 (aj .other .eql c.1 (vi 2)).bind fun p =>
 aw p
 ((FF bk [D, (.func (.func cH) #[D] #[])] c.2).bind fun d =>
 (ak d.1 0).bind fun q =>
 (ak d.1 1).bind fun s =>
 (dc 4 a q d.2).bind fun j =>
 (aC 4 a j).bind fun t => some (Value.tuple #[t, s], j))
 ((FF bk [D, (.func (.func kW) #[D] #[])] c.2).bind fun e =>
 (ak e.1 0).bind fun w =>
 (ak e.1 1).bind fun y =>
 (dc 4 a w e.2).bind fun k =>
 (aC 4 a k).bind fun z => some (Value.tuple #[z, y], k))) = some r) : FF bM [D, E] H = some r :=
 fo Tryz.func244 (by kernel_rfl) h
noncomputable def G6 (p : List Nat) : Code := Code.sub (bP Tryz.f245) p
noncomputable def tj : KK := e6 PP (Tryz.f245).results.toList
noncomputable def RU : KK := CQ (G6 [1, 1]) tj bC tj
noncomputable def uv : OV := RU (ls [D, E, u, u, J, L, M] 30) H
noncomputable def G7 : KK := CQ (G6 [1, 1, 1]) tj bC tj
noncomputable def aiK : KK := dn 137438953422 G7
noncomputable def uw : OV := G7 (ls [D, u, u, u, J, L] 31) H
noncomputable def aiL : KX := BX 0 aiK bC
theorem uL : ap 137438953423 tj := rf
theorem V0 : ap 137438953356 RU := rc uL aA uL
theorem EQ : ap 137438953422 G7 := rc uL aA uL
theorem V1 : ∀ i, ap 137438953422 (aiL i) := rb (cd EQ) aA
theorem yV : uw D J L H =
 (FF bk [D, (.func (.func dB) #[D] #[])] H).bind fun a =>
 (ak a.1 0).bind fun c =>
 (ak a.1 1).bind fun d =>
 (dc 4 J c a.2).bind fun b =>
 (aC 4 J b).bind fun e => some (Value.tuple #[e, d], b) :=
 (by kernel_rfl)
theorem yU : uv D E J L M H =
 ld [.n, .f 10] D H fun e =>
 aw e
 ((FF bk [D, (.func (.func dC) #[D] #[])] H).bind fun a =>
 (ak a.1 0).bind fun g =>
 (ak a.1 1).bind fun i =>
 (dc 4 J g a.2).bind fun c =>
 (aC 4 J c).bind fun j => some (Value.tuple #[j, i], c))
 (aw M
 ((FF kY [D, E, (vi 5)] H).bind fun k =>
 (FF bk [D, (.func (.func dC) #[D] #[])] k.2).bind fun b =>
 (ak b.1 0).bind fun l =>
 (ak b.1 1).bind fun m =>
 (dc 4 J l b.2).bind fun d =>
 (aC 4 J d).bind fun o => some (Value.tuple #[o, m], d))
 (uw D J L H)) :=
 (pt rfl 0 EQ (bt rfl (G6 [1, 1, 0, 4]) 0 V1 (by kernel_rfl)))
noncomputable def UW : OV := aT PP GG FF (G6 []) (ls [D, E] 35) H tj bC tj
theorem F8 {r : Value × AH} (h : (
 aW [(vi 0), (.slice none 0 0), (vi 0), (vw 0)] H fun b c =>
 (FF vl [D] c).bind fun a =>
 uv D E b (vb false) a.1 a.2) = some r) : FF dB [D, E] H = some r :=
 fo (t := UW D E H) Tryz.func245 (by kernel_rfl) (Eq.trans (pt rfl 1 V0 (by kernel_rfl)) h)
theorem Eg {r : Value × AH} (h : (
 (aj .other .shr D (vw 61)).bind fun a =>
 (aj .other .lss a (vw 3)).bind fun b =>
 some (b, H)) = some r) : FF iR [D] H = some r :=
 fo Tryz.func246 (by kernel_rfl) h
noncomputable def qe (p : List Nat) : Code := Code.sub (bP Tryz.f247) p
noncomputable def oF : KK := e6 PP (Tryz.f247).results.toList
noncomputable def RW : KK := CQ (qe [1]) oF bC oF
noncomputable def afE : OV := RW (ls [D, E, G, K, u, u, u, u, u, u, I] 27) H
noncomputable def Ha : KX := BX 0 oF bC
noncomputable def zW : KX := mJ 274877906943 Ha
noncomputable def G8 : KK := sC (qe [1, 4, 5]) zW oF
noncomputable def RV : KK := dn AL G8
noncomputable def IM : OV := G8 (ls [D, E, G, K, u, u, u, u, u, u, I] 27) H
noncomputable def RX : KK := CQ (qe [1, 4, 5, 1]) RV zW oF
noncomputable def afF : OV := RX (ls [D, E, G, K, u, u, u, u, u, u, I] 27) H
noncomputable def G9 : KK := CQ (qe [1, 4, 5, 1, 1]) RV zW oF
noncomputable def aiM : KK := dn AL G9
noncomputable def afG : OV := G9 (ls [D, E, G, K, u, u, u, u, u, u, I] 27) H
noncomputable def aiN : KX := BX 1 aiM zW
noncomputable def Lo (H : AH) : OV := Ha 0 (ls [] 38) H
theorem nz : ap 274877906943 oF := rf
theorem V2 : ap AL RW := rc nz aA nz
theorem nA : ∀ i, ap 274877906943 (Ha i) := rb nz aA
theorem rL : ap AL G8 := rl (cx nA) nz
theorem V3 : ap AL RX := rc (cd rL) (cx nA) nz
theorem ES : ap AL G9 := rc (cd rL) (cx nA) nz
theorem V4 : ∀ i, ap AL (aiN i) := rb (cd ES) (cx nA)
theorem X7 : afG D E G K I H =
 (aj .other .add I (vi 1)).bind fun a =>
 IM D E G K a H :=
 (by kernel_rfl)
theorem X6 : afF D E G K I H =
 (aj .other .add E I).bind fun a =>
 (aj .other .add G I).bind fun b =>
 (aj .other .add G I).bind fun c =>
 ldN 7 [.i 7 c] D H fun d =>
 (aj .other .add E I).bind fun e =>
 ldN 7 [.i 7 e] D H fun f =>
 st 7 [.i 7 a] D d H fun g =>
 st 7 [.i 7 b] D f g fun j =>
 afG D E G K I j :=
 (pt rfl 0 ES (bt rfl (qe [1, 4, 5, 1, 0, 4]) 1 V4 (by kernel_rfl)))
theorem Lp (H : AH) : Lo H = some (Value.tuple #[], H) :=
 (by kernel_rfl)
theorem FI : IM D E G K I H =
 (aj .other .lss I K).bind fun a =>
 aw a
 (afF D E G K I H)
 (Lo H) :=
 pK rfl rL (pt rfl 0 V3 (by kernel_rfl))
theorem X5 : afE D E G K I H =
 IM D E G K I H :=
 (bt rfl (qe [1, 4]) 0 nA (li rfl (qe [1, 4, 5]) rL (by kernel_rfl)))
noncomputable def sSw : OV := aT PP GG FF (qe []) (ls [D, E, G, K, J] 33) H oF bC oF
theorem am1 {r : Value × AH} (h : (
 afE D E G K (vi 0) H) = some r) : FF KE [D, E, G, K, J] H = some r :=
 fo (t := sSw D E G K J H) Tryz.func247 (by kernel_rfl) (Eq.trans (pt rfl 0 V2 (by kernel_rfl)) h)
theorem Ee {r : Value × AH} (h : (
 (ig [D, (vi 0)]).bind fun a =>
 (i8 [a, (vi 40)]).bind fun b =>
 some (b, H)) = some r) : FF oM [D] H = some r :=
 fo Tryz.func248 (by kernel_rfl) h
theorem Ds {r : Value × AH} (h : (
 aW [(vi 0), (vi 0), (vi 0)] H fun a c =>
 iz [(0, 1), (1, 1), (2, 1)] [(vi 0), (vi 0), (vi 0)] [(0, (vi 8)), (1, D)] fun d =>
 (dc 3 a d c).bind fun b =>
 (aC 3 a b).bind fun e => some (e, b)) = some r) : FF jN [D] H = some r :=
 fo Tryz.func277 (by kernel_rfl) h
noncomputable def Hb (p : List Nat) : Code := Code.sub (bP Tryz.f282) p
noncomputable def tl : KK := e6 PP (Tryz.f282).results.toList
noncomputable def R0 : KK := CQ (Hb [1, 1]) tl bC tl
noncomputable def A5 : OV := R0 (ls [D, u, u, u, J, L, M] 45) H
noncomputable def Hc : KK := CQ (Hb [1, 1, 1]) tl bC tl
noncomputable def aiO : KK := dn 4503599627370446 Hc
noncomputable def A6 : OV := Hc (ls [D, u, u, u, J, L] 46) H
noncomputable def aiP : KX := BX 0 aiO bC
theorem uN : ap 4503599627370447 tl := rf
theorem V7 : ap 4503599627370382 R0 := rc uN aA uN
theorem ET : ap 4503599627370446 Hc := rc uN aA uN
theorem V8 : ∀ i, ap 4503599627370446 (aiP i) := rb (cd ET) aA
theorem DT : A6 D J L H =
 (FF bk [D, (.func (.func jp) #[D] #[])] H).bind fun a =>
 (ak a.1 0).bind fun c =>
 (ak a.1 1).bind fun d =>
 (dc 4 J c a.2).bind fun b =>
 (aC 4 J b).bind fun e => some (Value.tuple #[e, d], b) :=
 (by kernel_rfl)
theorem DS : A5 D J L M H =
 ld [.n, .f 11] D H fun i =>
 ld [.n, .f 12] D H fun j =>
 (FF f4 [i, j, M] H).bind fun a =>
 aw a.1
 ((FF bk [D, (.func (.func nV) #[D] #[])] a.2).bind fun b =>
 (ak b.1 0).bind fun k =>
 (ak b.1 1).bind fun l =>
 (dc 4 J k b.2).bind fun e =>
 (aC 4 J e).bind fun m => some (Value.tuple #[m, l], e))
 (ld [.n, .f 12] D a.2 fun o =>
 (FF f8 [o] a.2).bind fun c =>
 (aj .other .eql c.1 (vi 1)).bind fun p =>
 aw p
 ((FF bk [D, (.func (.func jq) #[D] #[])] c.2).bind fun d =>
 (ak d.1 0).bind fun q =>
 (ak d.1 1).bind fun s =>
 (dc 4 J q d.2).bind fun g =>
 (aC 4 J g).bind fun t => some (Value.tuple #[t, s], g))
 (A6 D J L c.2)) :=
 (pt rfl 0 ET (bt rfl (Hb [1, 1, 0, 4]) 0 V8 (by kernel_rfl)))
noncomputable def ahR : OV := aT PP GG FF (Hb []) (ls [D, E] 50) H tl bC tl
theorem MC {r : Value × AH} (h : (
 aW [(vi 0), (.slice none 0 0), (vi 0), (vw 0)] H fun c a =>
 ld [.n, .f 11] D a fun d =>
 ld [.n, .f 1] D a fun e =>
 (FF f5 [d, e] a).bind fun b =>
 A5 D c (vb false) b.1 b.2) = some r) : FF kW [D, E] H = some r :=
 fo (t := ahR D E H) Tryz.func282 (by kernel_rfl) (Eq.trans (pt rfl 1 V7 (by kernel_rfl)) h)
theorem F9 {r : Value × AH} (h : (
 aW [(vi 0), (.slice none 0 0), (vi 0), (vw 0)] H fun b a =>
 ld [.n, .f 0] D a fun j =>
 ld [.n, .f 2] j a fun k =>
 ld [.n, .f 1] D a fun l =>
 ld [.n, .f 6] D a fun m =>
 (FF fQ [k, l, m] a).bind fun c =>
 ld [.n, .f 10] D c.2 fun o =>
 (pM .not o).bind fun p =>
 aw p
 ((FF kV [D, (vi 5)] c.2).bind fun d =>
 (ak d.1 0).bind fun q =>
 (ak d.1 1).bind fun s =>
 (dc 4 b q d.2).bind fun g =>
 (aC 4 b g).bind fun t => some (Value.tuple #[t, s], g))
 ((FF bk [D, (.func (.func f3) #[D] #[])] c.2).bind fun e =>
 (ak e.1 0).bind fun w =>
 (ak e.1 1).bind fun y =>
 (dc 4 b w e.2).bind fun i =>
 (aC 4 b i).bind fun z => some (Value.tuple #[z, y], i))) = some r) : FF dC [D, E] H = some r :=
 fo Tryz.func283 (by kernel_rfl) h
theorem pO {r : Value × AH} (h : (
 ad [.n, .f 0] D fun a =>
 (au a H).bind fun c =>
 (FF jN [G] H).bind fun b =>
 bJ (au a b.2) (au a H) <|
 (FF dv [c, E, b.1, (vw 0)] b.2).bind fun d =>
 some (Value.tuple #[], d.2)) = some r) : FF fQ [D, E, G] H = some r :=
 fo Tryz.func302 (by kernel_rfl) h
theorem vV {r : Value × AH} (h : (
 ad [.n, .f 0] D fun a =>
 (au a H).bind fun d =>
 (FF cr [D, (vi 12), (vi 0)] H).bind fun b =>
 bJ (au a b.2) (au a H) <|
 (FF cq [d, E, b.1] b.2).bind fun c =>
 some (c.1, c.2)) = some r) : FF f5 [D, E] H = some r :=
 fo Tryz.func305 (by kernel_rfl) h
theorem vU {r : Value × AH} (h : (
 (FF dF [E] H).bind fun b =>
 (aj .other .geq b.1 G).bind fun a =>
 (gV a true b.1).bind fun c =>
 (gV a true G).bind fun d =>
 (gB a true (aj .other .sub c d)).bind fun e =>
 (gV a true D).bind fun g =>
 fG a true  [.n, .f 2] g b.2 fun i =>
 (ue (yv a) true (ep i some) (some undef)).bind fun j =>
 (gB a true (bI (some .u64) j)).bind fun k =>
 (gB a true (aj .other .geq e k)).bind fun l =>
 (aM a l (vb false)).bind fun m =>
 some (m, b.2)) = some r) : FF f4 [D, E, G] H = some r :=
 fo Tryz.func306 (by kernel_rfl) h
theorem UX {r : Value × AH} (h : (
 aW [(vi 0), (.slice none 0 0), (vi 0), (vw 0)] H fun a b =>
 ld [.n, .f 0] D b fun k =>
 ld [.n, .f 1] D b fun l =>
 (FF fA [k, l] b).bind fun g =>
 st 1 [.n, .f 13] D g.1 g.2 fun c =>
 ld [.n, .f 13] D c fun m =>
 (aj .other .rem m (vw 2)).bind fun o =>
 (aj .other .eql o (vw 1)).bind fun p =>
 aw p
 ((FF bk [D, (.func (.func bM) #[D] #[])] c).bind fun d =>
 (ak d.1 0).bind fun q =>
 (ak d.1 1).bind fun s =>
 (dc 4 a q d.2).bind fun i =>
 (aC 4 a i).bind fun t => some (Value.tuple #[t, s], i))
 ((FF bk [D, (.func (.func d5) #[D] #[])] c).bind fun e =>
 (ak e.1 0).bind fun w =>
 (ak e.1 1).bind fun y =>
 (dc 4 a w e.2).bind fun j =>
 (aC 4 a j).bind fun z => some (Value.tuple #[z, y], j))) = some r) : FF nV [D, E] H = some r :=
 fo Tryz.func307 (by kernel_rfl) h
theorem Jx {r : Value × AH} (h : (
 aW [(vi 0), (.slice none 0 0), (vi 0), (vw 0)] H fun a b =>
 ld [.n, .f 11] D b fun j =>
 ld [.n, .f 1] D b fun k =>
 ld [.n, .f 12] D b fun l =>
 (FF fC [j, k, l] b).bind fun c =>
 (pM .not c.1).bind fun m =>
 aw m
 ((FF bk [D, (.func (.func bM) #[D] #[])] c.2).bind fun d =>
 (ak d.1 0).bind fun o =>
 (ak d.1 1).bind fun p =>
 (dc 4 a o d.2).bind fun g =>
 (aC 4 a g).bind fun q => some (Value.tuple #[q, p], g))
 ((FF kY [D, E, (vi 0)] c.2).bind fun s =>
 (FF bk [D, (.func (.func nU) #[D] #[])] s.2).bind fun e =>
 (ak e.1 0).bind fun t =>
 (ak e.1 1).bind fun w =>
 (dc 4 a t e.2).bind fun i =>
 (aC 4 a i).bind fun y => some (Value.tuple #[y, w], i))) = some r) : FF jq [D, E] H = some r :=
 fo Tryz.func308 (by kernel_rfl) h
theorem Jw {r : Value × AH} (h : (
 aW [(vi 0), (.slice none 0 0), (vi 0), (vw 0)] H fun c a =>
 ld [.n, .f 0] D a fun e =>
 ld [.n, .f 1] e a fun g =>
 ld [.n, .f 1] D a fun i =>
 (FF gm [g, i] a).bind fun j =>
 (FF bk [D, (.func (.func la) #[D] #[])] j.2).bind fun b =>
 (ak b.1 0).bind fun k =>
 (ak b.1 1).bind fun l =>
 (dc 4 c k b.2).bind fun d =>
 (aC 4 c d).bind fun m => some (Value.tuple #[m, l], d)) = some r) : FF jp [D, E] H = some r :=
 fo Tryz.func309 (by kernel_rfl) h
theorem tP {r : Value × AH} (h : (
 ld [.n, .f 0] D H fun b =>
 iz [(0, 1), (1, 1), (2, 1)] [(vi 0), (vi 0), (vi 0)] [(0, (vi 2))] fun c =>
 (FF cq [b, E, c] H).bind fun a =>
 some (a.1, a.2)) = some r) : FF fA [D, E] H = some r :=
 fo Tryz.func316 (by kernel_rfl) h
theorem yW {r : Value × AH} (h : (
 aW [(vi 0), (.slice none 0 0), (vi 0), (vw 0)] H fun a b =>
 ld [.n, .f 11] D b fun l =>
 ld [.n, .f 1] D b fun m =>
 (FF f7 [l, m] b).bind fun g =>
 st 1 [.n, .f 12] D g.1 g.2 fun i =>
 ld [.n, .f 12] D i fun o =>
 (FF f8 [o] i).bind fun c =>
 (aj .other .eql c.1 (vi 2)).bind fun p =>
 aw p
 ((FF bk [D, (.func (.func cH) #[D] #[])] c.2).bind fun d =>
 (ak d.1 0).bind fun q =>
 (ak d.1 1).bind fun s =>
 (dc 4 a q d.2).bind fun j =>
 (aC 4 a j).bind fun t => some (Value.tuple #[t, s], j))
 ((FF bk [D, (.func (.func d4) #[D] #[])] c.2).bind fun e =>
 (ak e.1 0).bind fun w =>
 (ak e.1 1).bind fun y =>
 (dc 4 a w e.2).bind fun k =>
 (aC 4 a k).bind fun z => some (Value.tuple #[z, y], k))) = some r) : FF d5 [D, E] H = some r :=
 fo Tryz.func318 (by kernel_rfl) h
theorem t6 {r : Value × AH} (h : (
 (FF jC [D, E, G, (.func (.func mv) #[] #[])] H).bind fun a =>
 some (a.1, a.2)) = some r) : FF fC [D, E, G] H = some r :=
 fo Tryz.func319 (by kernel_rfl) h
theorem UV {r : Value × AH} (h : (
 aW [(vi 0), (.slice none 0 0), (vi 0), (vw 0)] H fun b d =>
 (FF vm [D] d).bind fun e =>
 (FF bk [D, (.func (.func k7) #[D] #[])] e.2).bind fun a =>
 (ak a.1 0).bind fun f =>
 (ak a.1 1).bind fun g =>
 (dc 4 b f a.2).bind fun c =>
 (aC 4 b c).bind fun i => some (Value.tuple #[i, g], c)) = some r) : FF nU [D, E] H = some r :=
 fo Tryz.func320 (by kernel_rfl) h
theorem qp {r : Value × AH} (h : (
 ad [.n, .f 0] D fun a =>
 (au a H).bind fun c =>
 (FF be [(vi 3), (vi 0)] H).bind fun b =>
 bJ (au a b.2) (au a H) <|
 (FF gG [c, E, b.1, (vw 4294967296)] b.2).bind fun d =>
 some (Value.tuple #[], d.2)) = some r) : FF gm [D, E] H = some r :=
 fo Tryz.func321 (by kernel_rfl) h
theorem MK {r : Value × AH} (h : (
 aW [(vi 0), (.slice none 0 0), (vi 0), (vw 0)] H fun a b =>
 ld [.n, .f 11] D b fun j =>
 ld [.n, .f 1] D b fun k =>
 ld [.n, .f 12] D b fun l =>
 (FF fC [j, k, l] b).bind fun c =>
 (pM .not c.1).bind fun m =>
 aw m
 ((FF bk [D, (.func (.func kT) #[D] #[])] c.2).bind fun d =>
 (ak d.1 0).bind fun o =>
 (ak d.1 1).bind fun p =>
 (dc 4 a o d.2).bind fun g =>
 (aC 4 a g).bind fun q => some (Value.tuple #[q, p], g))
 ((FF kY [D, E, (vi 0)] c.2).bind fun s =>
 (FF bk [D, (.func (.func kU) #[D] #[])] s.2).bind fun e =>
 (ak e.1 0).bind fun t =>
 (ak e.1 1).bind fun w =>
 (dc 4 a t e.2).bind fun i =>
 (aC 4 a i).bind fun y => some (Value.tuple #[y, w], i))) = some r) : FF la [D, E] H = some r :=
 fo Tryz.func322 (by kernel_rfl) h
theorem yT {r : Value × AH} (h : (
 aW [(vi 0), (.slice none 0 0), (vi 0), (vw 0)] H fun b a =>
 ad [.n, .f 11] D fun d =>
 (au d a).bind fun m =>
 ad [.n, .f 12] D fun e =>
 (au e a).bind fun o =>
 ld [.n, .f 11] D a fun p =>
 ld [.n, .f 1] D a fun q =>
 (FF f5 [p, q] a).bind fun c =>
 bJ (au d c.2) (au d a) <|
 bJ (au e c.2) (au e a) <|
 (FF f4 [m, o, c.1] c.2).bind fun g =>
 (pM .not g.1).bind fun s =>
 aw s
 ((FF bk [D, (.func (.func bM) #[D] #[])] g.2).bind fun i =>
 (ak i.1 0).bind fun t =>
 (ak i.1 1).bind fun w =>
 (dc 4 b t i.2).bind fun k =>
 (aC 4 b k).bind fun y => some (Value.tuple #[y, w], k))
 (st 1 [.n, .f 14] D E g.2 fun z =>
 (FF bk [D, (.func (.func ff) #[D] #[])] z).bind fun j =>
 (ak j.1 0).bind fun A =>
 (ak j.1 1).bind fun B =>
 (dc 4 b A j.2).bind fun l =>
 (aC 4 b l).bind fun C => some (Value.tuple #[C, B], l))) = some r) : FF d4 [D, E] H = some r :=
 fo Tryz.func324 (by kernel_rfl) h
theorem I0 {r : Value × AH} (h : (
 (FF iR [D] H).bind fun c =>
 (pM .not c.1).bind fun a =>
 (gV a false D).bind fun i =>
 (gE a false c.2 (FF f8 [i] c.2)).bind fun d =>
 (gB a false (aj .other .eql d.1 (vi 2))).bind fun j =>
 (aM a (vb true) j).bind fun b =>
 (gV b false D).bind fun k =>
 (gE b false d.2 (FF dF [k] d.2)).bind fun e =>
 (gB b false (aj .other .eql e.1 (vw 2305843009213693951))).bind fun l =>
 (aM b (vb true) l).bind fun m =>
 aw m
 (some (Value.tuple #[(vw 0), (vb false)], e.2))
 ((FF dF [D] e.2).bind fun g =>
 (aj .other .add g.1 (vw 1)).bind fun n =>
 (FF qI [n, (vi 1)] g.2).bind fun f =>
 (ak f.1 0).bind fun o =>
 (ak f.1 1).bind fun p =>
 some (Value.tuple #[o, p], f.2))) = some r) : FF mv [D] H = some r :=
 fo Tryz.func325 (by kernel_rfl) h
theorem UU {r : Value × AH} (h : (
 ad [.n, .f 11] D fun b =>
 (au b H).bind fun i =>
 ad [.n, .f 1] D fun c =>
 (au c H).bind fun j =>
 ld [.n, .f 12] D H fun k =>
 (FF dF [k] H).bind fun a =>
 bJ (au b a.2) (au b H) <|
 bJ (au c a.2) (au c H) <|
 ad [.n, .f 2, .f 1] D fun d =>
 (au d a.2).bind fun l =>
 bJ (au d H) (au d a.2) <|
 ad [.n, .f 2, .f 2] D fun e =>
 (au e a.2).bind fun m =>
 bJ (au e H) (au e a.2) <|
 ad [.n, .f 2, .f 3] D fun g =>
 (au g a.2).bind fun o =>
 bJ (au g H) (au g a.2) <|
 iz [(0, 1), (1, 1), (2, 1)] [(vi 0), (vi 0), (vi 0)] [(0, l), (1, m), (2, o)] fun p =>
 (FF ko [i, j, a.1, p] a.2).bind fun q =>
 some (Value.tuple #[], q.2)) = some r) : FF vm [D] H = some r :=
 fo Tryz.func326 (by kernel_rfl) h
theorem MJ {r : Value × AH} (h : (
 aW [(vi 0), (.slice none 0 0), (vi 0), (vw 0)] H fun g a =>
 ad [.n, .f 11] D fun c =>
 (au c a).bind fun j =>
 ad [.n, .f 1] D fun d =>
 (au d a).bind fun k =>
 ld [.n, .f 12] D a fun l =>
 (FF dF [l] a).bind fun b =>
 bJ (au c b.2) (au c a) <|
 bJ (au d b.2) (au d a) <|
 (FF f6 [j, k, b.1] b.2).bind fun m =>
 (FF kV [D, (vi 0)] m.2).bind fun e =>
 (ak e.1 0).bind fun o =>
 (ak e.1 1).bind fun p =>
 (dc 4 g o e.2).bind fun i =>
 (aC 4 g i).bind fun q => some (Value.tuple #[q, p], i)) = some r) : FF k7 [D, E] H = some r :=
 fo Tryz.func327 (by kernel_rfl) h
theorem Mz {r : Value × AH} (h : (
 aW [(vi 0), (.slice none 0 0), (vi 0), (vw 0)] H fun c a =>
 ld [.n, .f 0] D a fun e =>
 ld [.n, .f 1] e a fun g =>
 ld [.n, .f 1] D a fun i =>
 (FF fy [g, i] a).bind fun j =>
 (FF bk [D, (.func (.func bM) #[D] #[])] j.2).bind fun b =>
 (ak b.1 0).bind fun k =>
 (ak b.1 1).bind fun l =>
 (dc 4 c k b.2).bind fun d =>
 (aC 4 c d).bind fun m => some (Value.tuple #[m, l], d)) = some r) : FF kT [D, E] H = some r :=
 fo Tryz.func328 (by kernel_rfl) h
theorem MA {r : Value × AH} (h : (
 aW [(vi 0), (.slice none 0 0), (vi 0), (vw 0)] H fun b d =>
 (FF vm [D] d).bind fun e =>
 (FF bk [D, (.func (.func jt) #[D] #[])] e.2).bind fun a =>
 (ak a.1 0).bind fun f =>
 (ak a.1 1).bind fun g =>
 (dc 4 b f a.2).bind fun c =>
 (aC 4 b c).bind fun i => some (Value.tuple #[i, g], c)) = some r) : FF kU [D, E] H = some r :=
 fo Tryz.func329 (by kernel_rfl) h
theorem A9 {r : Value × AH} (h : (
 aW [(vi 0), (.slice none 0 0), (vi 0), (vw 0)] H fun b c =>
 ld [.n, .f 0] D c fun k =>
 ld [.n, .f 1] D c fun l =>
 (FF fA [k, l] c).bind fun a =>
 ad [.n, .f 13] D fun d =>
 (au d a.2).bind fun m =>
 bJ (au d c) (au d a.2) <|
 (aj .other .neq a.1 m).bind fun o =>
 aw o
 ((FF bk [D, (.func (.func bM) #[D] #[])] a.2).bind fun e =>
 (ak e.1 0).bind fun p =>
 (ak e.1 1).bind fun q =>
 (dc 4 b p e.2).bind fun i =>
 (aC 4 b i).bind fun s => some (Value.tuple #[s, q], i))
 (ld [.n, .f 14] D a.2 fun t =>
 (FF iu [D, t, (vi 9)] a.2).bind fun g =>
 (ak g.1 0).bind fun w =>
 (ak g.1 1).bind fun y =>
 (dc 4 b w g.2).bind fun j =>
 (aC 4 b j).bind fun z => some (Value.tuple #[z, y], j))) = some r) : FF ff [D, E] H = some r :=
 fo Tryz.func330 (by kernel_rfl) h
theorem xR {r : Value × AH} (h : (
 aW (Value.cells K).toList H fun e c =>
 ad [.n, .f 0] D fun a =>
 (au a c).bind fun l =>
 (FF bx [D, G] c).bind fun g =>
 bJ (au a g.2) (au a c) <|
 (FF cr [D, (vi 16), g.1] g.2).bind fun j =>
 bJ (au a j.2) (au a c) <|
 (FF e9 [l, E, j.1] j.2).bind fun d =>
 ad [.n, .f 2] D fun k =>
 (au k d.2).bind fun m =>
 (FF bx [D, G] d.2).bind fun b =>
 bJ (au k b.2) (au k d.2) <|
 (aC 3 e b.2).bind fun o =>
 bJ (aC 3 e d.2) (aC 3 e b.2) <|
 st 3 [.i 3 b.1] m o b.2 fun p =>
 some (Value.tuple #[], p)) = some r) : FF ko [D, E, G, K] H = some r :=
 fo Tryz.func331 (by kernel_rfl) h
theorem vX {r : Value × AH} (h : (
 ad [.n, .f 0] D fun a =>
 (au a H).bind fun d =>
 (FF bx [D, G] H).bind fun b =>
 bJ (au a b.2) (au a H) <|
 (FF cr [D, (vi 15), b.1] b.2).bind fun c =>
 bJ (au a c.2) (au a H) <|
 (aj .other .add G (vw 1)).bind fun e =>
 (FF dv [d, E, c.1, e] c.2).bind fun g =>
 some (Value.tuple #[], g.2)) = some r) : FF f6 [D, E, G] H = some r :=
 fo Tryz.func332 (by kernel_rfl) h
theorem tp {r : Value × AH} (h : (
 ad [.n, .f 0] D fun a =>
 (au a H).bind fun c =>
 (FF be [(vi 3), (vi 0)] H).bind fun b =>
 bJ (au a b.2) (au a H) <|
 (FF gG [c, E, b.1, (vw 1)] b.2).bind fun d =>
 some (Value.tuple #[], d.2)) = some r) : FF fy [D, E] H = some r :=
 fo Tryz.func333 (by kernel_rfl) h
theorem Jz {r : Value × AH} (h : (
 aW [(vi 0), (.slice none 0 0), (vi 0), (vw 0)] H fun g a =>
 ad [.n, .f 11] D fun c =>
 (au c a).bind fun j =>
 ad [.n, .f 1] D fun d =>
 (au d a).bind fun k =>
 ld [.n, .f 12] D a fun l =>
 (FF dF [l] a).bind fun b =>
 bJ (au c b.2) (au c a) <|
 bJ (au d b.2) (au d a) <|
 (FF f6 [j, k, b.1] b.2).bind fun m =>
 (FF bk [D, (.func (.func cX) #[D] #[])] m.2).bind fun e =>
 (ak e.1 0).bind fun o =>
 (ak e.1 1).bind fun p =>
 (dc 4 g o e.2).bind fun i =>
 (aC 4 g i).bind fun q => some (Value.tuple #[q, p], i)) = some r) : FF jt [D, E] H = some r :=
 fo Tryz.func334 (by kernel_rfl) h
theorem DW {r : Value × AH} (h : (
 aW [(vi 0), (.slice none 0 0), (vi 0), (vw 0)] H fun c a =>
 ld [.n, .f 0] D a fun g =>
 ld [.n, .f 1] g a fun i =>
 ld [.n, .f 1] D a fun j =>
 ld [.n, .f 6] D a fun k =>
 (FF iK [i, j, k] a).bind fun d =>
 st 1 [.n, .f 15] D d.1 d.2 fun l =>
 (FF bk [D, (.func (.func kX) #[D] #[])] l).bind fun b =>
 (ak b.1 0).bind fun m =>
 (ak b.1 1).bind fun o =>
 (dc 4 c m b.2).bind fun e =>
 (aC 4 c e).bind fun p => some (Value.tuple #[p, o], e)) = some r) : FF cX [D, E] H = some r :=
 fo Tryz.func335 (by kernel_rfl) h
theorem tq {r : Value × AH} (h : (
 ad [.n, .f 0] D fun a =>
 (au a H).bind fun e =>
 ld [.n, .f 3] D H fun g =>
 (b5 g [G]).bind fun c => (FF c.1 c.2 H).bind fun b =>
 bJ (au a b.2) (au a H) <|
 (FF cq [e, E, b.1] b.2).bind fun d =>
 some (d.1, d.2)) = some r) : FF iK [D, E, G] H = some r :=
 fo Tryz.func336 (by kernel_rfl) h
theorem MD {r : Value × AH} (h : (
 aW [(vi 0), (.slice none 0 0), (vi 0), (vw 0)] H fun c a =>
 ld [.n, .f 0] D a fun e =>
 ld [.n, .f 1] e a fun g =>
 ld [.n, .f 1] D a fun i =>
 ld [.n, .f 9] D a fun j =>
 ld [.n, .f 15] D a fun k =>
 (FF g8 [g, i, j, k] a).bind fun l =>
 (FF bk [D, (.func (.func kZ) #[D] #[])] l.2).bind fun b =>
 (ak b.1 0).bind fun m =>
 (ak b.1 1).bind fun o =>
 (dc 4 c m b.2).bind fun d =>
 (aC 4 c d).bind fun p => some (Value.tuple #[p, o], d)) = some r) : FF kX [D, E] H = some r :=
 fo Tryz.func337 (by kernel_rfl) h
theorem r9 {r : Value × AH} (h : (
 ad [.n, .f 0] D fun a =>
 (au a H).bind fun e =>
 ld [.n, .f 4] D H fun g =>
 (b5 g [G]).bind fun c => (FF c.1 c.2 H).bind fun b =>
 bJ (au a b.2) (au a H) <|
 (FF e9 [e, E, b.1] b.2).bind fun d =>
 ld [.n, .f 2] D d.2 fun i =>
 (dG .int i G K d.2).bind fun j =>
 some (Value.tuple #[], j)) = some r) : FF g8 [D, E, G, K] H = some r :=
 fo Tryz.func338 (by kernel_rfl) h
theorem MH {r : Value × AH} (h : (
 aW [(vi 0), (.slice none 0 0), (vi 0), (vw 0)] H fun b a =>
 ld [.n, .f 0] D a fun j =>
 ld [.n, .f 1] j a fun k =>
 ld [.n, .f 1] D a fun l =>
 ld [.n, .f 6] D a fun m =>
 ld [.n, .f 15] D a fun o =>
 ld [.n, .f 9] D a fun p =>
 (FF g9 [k, l, m, o, p] a).bind fun c =>
 (pM .not c.1).bind fun q =>
 aw q
 ((FF bk [D, (.func (.func cX) #[D] #[])] c.2).bind fun d =>
 (ak d.1 0).bind fun s =>
 (ak d.1 1).bind fun t =>
 (dc 4 b s d.2).bind fun g =>
 (aC 4 b g).bind fun w => some (Value.tuple #[w, t], g))
 ((FF bk [D, (.func (.func nT) #[D] #[])] c.2).bind fun e =>
 (ak e.1 0).bind fun y =>
 (ak e.1 1).bind fun z =>
 (dc 4 b y e.2).bind fun i =>
 (aC 4 b i).bind fun A => some (Value.tuple #[A, z], i))) = some r) : FF kZ [D, E] H = some r :=
 fo Tryz.func339 (by kernel_rfl) h
theorem sa {r : Value × AH} (h : (
 ad [.n, .f 0] D fun a =>
 (au a H).bind fun e =>
 ld [.n, .f 3] D H fun g =>
 (b5 g [G]).bind fun c => (FF c.1 c.2 H).bind fun b =>
 bJ (au a b.2) (au a H) <|
 (bI (some .u64) J).bind fun i =>
 (aj .other .add i (vw 1)).bind fun j =>
 (FF d7 [e, E, b.1, K, j] b.2).bind fun d =>
 some (d.1, d.2)) = some r) : FF g9 [D, E, G, K, J] H = some r :=
 fo Tryz.func340 (by kernel_rfl) h
theorem US {r : Value × AH} (h : (
 aW [(vi 0), (.slice none 0 0), (vi 0), (vw 0)] H fun c a =>
 ld [.n, .f 0] D a fun e =>
 ld [.n, .f 1] e a fun g =>
 ld [.n, .f 1] D a fun i =>
 (FF fy [g, i] a).bind fun j =>
 (FF kV [D, (vi 0)] j.2).bind fun b =>
 (ak b.1 0).bind fun k =>
 (ak b.1 1).bind fun l =>
 (dc 4 c k b.2).bind fun d =>
 (aC 4 c d).bind fun m => some (Value.tuple #[m, l], d)) = some r) : FF nT [D, E] H = some r :=
 fo Tryz.func341 (by kernel_rfl) h
end
theorem DJ (n : Int) : IntKind.wrap .u64 n = n % 18446744073709551616 := by simp [IntKind.wrap, IntKind.bits, IntKind.signed]
theorem lp {n : Int} (h0 : 0 ≤ n) (h1 : n < 18446744073709551616) : IntKind.wrap .u64 n = n := by rw [DJ]; omega
theorem n6 {n : Int} (h0 : -9223372036854775808 ≤ n) (h1 : n < 9223372036854775808) : IntKind.wrap .i64 n = n := by
 simp [IntKind.wrap, IntKind.bits, IntKind.signed]
 split <;> omega
theorem rV (a : Nat) (h : a < 18446744073709551616) : (BitVec.ofInt 64 (a : Int)).toNat = a := by
 rw [BitVec.toNat_ofInt];omega
theorem Mm {a b : Nat} (ha : a < 18446744073709551616) (hb : b < 18446744073709551616) : Go.bits .and .u64 (a : Int) (b : Int) = ((a &&& b : Nat) : Int) := by
 show IntKind.wrap .u64 (((BitVec.ofInt 64 (a : Int) &&& BitVec.ofInt 64 (b : Int)).toNat : Nat) : Int) = _;rw [BitVec.toNat_and, rV a ha, rV b hb];have : a &&& b ≤ a := Nat.and_le_left;exact lp (by omega) (by omega)
theorem aoE {a b : Nat} (ha : a < 18446744073709551616) (hb : b < 18446744073709551616) : a ||| b < 18446744073709551616 := Nat.or_lt_two_pow (n := 64) ha hb
theorem UK {a b : Nat} (ha : a < 18446744073709551616) (hb : b < 18446744073709551616) : Go.bits .or .u64 (a : Int) (b : Int) = ((a ||| b : Nat) : Int) := by
 show IntKind.wrap .u64 (((BitVec.ofInt 64 (a : Int) ||| BitVec.ofInt 64 (b : Int)).toNat : Nat) : Int) = _;rw [BitVec.toNat_or, rV a ha, rV b hb];have := aoE ha hb;exact lp (by omega) (by omega)
section
variable {cl : TCls}
theorem ahJ {a b : Nat} (ha : a < 18446744073709551616) (hb : b < 18446744073709551616) : aj cl .and (vu a) (vu b) = some (vu (a &&& b)) := by simp only [aj, l7, if_true, Mm ha hb]
theorem Y5 {a b : Nat} (ha : a < 18446744073709551616) (hb : b < 18446744073709551616) : aj cl .or (vu a) (vu b) = some (vu (a ||| b)) := by simp only [aj, l7, if_true, UK ha hb]
theorem dt {a b : Nat} (h : a + b < 18446744073709551616) : aj cl .add (vu a) (vu b) = some (vu (a + b)) := by
 simp only [aj, l7, if_true];rw [lp (by omega) (by omega)];simp
theorem UJ {a b : Nat} : aj cl .mul (vu a) (vu b) = some (vu (a * b % 18446744073709551616)) := by
 simp only [aj, l7, if_true];rw [DJ];simp
theorem Er {a b : Nat} (h : b ≤ a) (ha : a < 18446744073709551616) : aj cl .sub (vu a) (vu b) = some (vu (a - b)) := by
 simp only [aj, l7, if_true];rw [lp (by omega) (by omega)];show some (Value.int .u64 ((a : Int) - (b : Int))) = some (Value.int .u64 ((a - b : Nat) : Int));rw [Int.ofNat_sub h]
theorem Eo {a b : Nat} (h : b ≠ 0) (ha : a < 18446744073709551616) : aj cl .quo (vu a) (vu b) = some (vu (a / b)) := by
 simp only [aj, l7, if_true];rw [if_neg (by omega)];have h1 : (a : Int).tdiv (b : Int) = ((a / b : Nat) : Int) := (Int.ofNat_tdiv a b).symm;have h2 : a / b ≤ a := Nat.div_le_self a b;rw [h1]
 generalize a / b = q at h2
 rw [lp (by omega) (by omega)]
theorem ip {a b : Nat} (h : b ≠ 0) : aj cl .rem (vu a) (vu b) = some (vu (a % b)) := by
 simp only [aj, l7, if_true];rw [if_neg (by omega)];have h1 : (a : Int).tmod (b : Int) = ((a % b : Nat) : Int) := (Int.ofNat_tmod a b).symm;rw [h1]
theorem wE {a : Nat} {k : IntKind} {n : Nat} (hn : n ≤ 64) : aj cl .shr (vu a) (.int k (n : Int)) = some (vu (a / 2 ^ n)) := by
 simp only [aj, lS];rw [if_neg (by omega)];simp only [IntKind.bits, nK, Nat.min_eq_left hn]
 have : (a : Int).fdiv (2 ^ n) = ((a / 2 ^ n : Nat) : Int) := by
  rw [Int.fdiv_eq_ediv_of_nonneg _ (by exact Int.le_of_lt (Int.pow_pos (by omega)))];simp
 rw [this]
theorem Ep {a : Nat} {k : IntKind} {n : Nat} (hn : n ≤ 64) : aj cl .shl (vu a) (.int k (n : Int)) = some (vu (a * 2 ^ n % 18446744073709551616)) := by
 simp only [aj, lS];rw [if_neg (by omega)];simp only [IntKind.bits, nK, Nat.min_eq_left hn];rw [DJ];simp
theorem aB {a b : Int} (h0 : -9223372036854775808 ≤ a + b) (h1 : a + b < 9223372036854775808) : aj cl .add (vi a) (vi b) = some (vi (a + b)) := by simp only [aj, l7, if_true, n6 h0 h1]
theorem ba {a b : Int} (h0 : -9223372036854775808 ≤ a - b) (h1 : a - b < 9223372036854775808) : aj cl .sub (vi a) (vi b) = some (vi (a - b)) := by simp only [aj, l7, if_true, n6 h0 h1]
theorem ru {k : IntKind} {a b : Int} : aj cl .lss (.int k a) (.int k b) = some (vb (decide (a < b))) ∧ aj cl .leq (.int k a) (.int k b) = some (vb (decide (a ≤ b))) ∧ aj cl .gtr (.int k a) (.int k b) = some (vb (decide (b < a))) ∧
 aj cl .geq (.int k a) (.int k b) = some (vb (decide (b ≤ a))) ∧ aj cl .eql (.int k a) (.int k b) = some (vb (a == b)) ∧ aj cl .neq (.int k a) (.int k b) = some (vb (a != b)) := by
 simp [aj, l7]
theorem rx {k : IntKind} {a b : Int} : aj cl .lss (.int k a) (.int k b) = some (vb (decide (a < b))) := ru.1
theorem Qt {k : IntKind} {a b : Int} : aj cl .leq (.int k a) (.int k b) = some (vb (decide (a ≤ b))) := ru.2.1
theorem F1 {k : IntKind} {a b : Int} : aj cl .gtr (.int k a) (.int k b) = some (vb (decide (b < a))) := ru.2.2.1
theorem zH {k : IntKind} {a b : Int} : aj cl .geq (.int k a) (.int k b) = some (vb (decide (b ≤ a))) := ru.2.2.2.1
theorem dQ {k : IntKind} {a b : Int} : aj cl .eql (.int k a) (.int k b) = some (vb (a == b)) := ru.2.2.2.2.1
theorem zI {k : IntKind} {a b : Int} : aj cl .neq (.int k a) (.int k b) = some (vb (a != b)) := ru.2.2.2.2.2
theorem oW {a : Bool} : pM .not (vb a) = some (vb (!a)) := rfl
theorem kz {a b : Int} : ig [vi a, vi b] = some (vi (max a b)) := by
 simp only [ig]
 congr 2
 split <;> omega
theorem kA {a b : Int} : i8 [vi a, vi b] = some (vi (min a b)) := by
 simp only [i8]
 congr 2
 split <;> omega
end
abbrev Hp := Nat → Option AObj
def SP : Type := Hp → Prop
theorem SP.ext {P Q : SP} (h : ∀ x, P x ↔ Q x) : P = Q := funext fun x => propext (h x)
def sep (P Q : SP) : SP := fun h => ∃ a b : Hp, (∀ i, a i = none ∨ b i = none) ∧ (h = fun i => (a i).or (b i)) ∧ P a ∧ Q b
instance : Mul SP := ⟨sep⟩
def emp : SP := fun h => h = fun _ => none
theorem adV {α : Type} {a b : Option α} (h : a = none ∨ b = none) : a.or b = b.or a := by
 rcases h with rfl | rfl <;> simp
theorem wa (P Q : SP) : P * Q = Q * P := by
 have one : ∀ (P Q : SP) h, sep P Q h → sep Q P h := by
  rintro P Q h ⟨a, b, hd, rfl, ha, hb⟩
  exact ⟨b, a, fun i => (hd i).symm, funext fun i => adV (hd i), hb, ha⟩
 exact SP.ext fun h => ⟨one P Q h, one Q P h⟩
theorem ar (P Q R : SP) : P * Q * R = P * (Q * R) := by
 apply SP.ext;intro h
 constructor
 ·rintro ⟨ab, c, hd, rfl, ⟨a, b, hd2, rfl, ha, hb⟩, hc⟩
  refine ⟨a, fun i => (b i).or (c i), fun i => ?_, funext fun i => ?_, ha, b, c, fun i => ?_, rfl, hb, hc⟩
  ·have h1 := hd i
   have h2 := hd2 i
   cases ha' : a i <;> cases hb' : b i <;> cases hc' : c i <;> simp_all
  ·exact Option.or_assoc
  ·have h1 := hd i
   have h2 := hd2 i
   cases ha' : a i <;> cases hb' : b i <;> cases hc' : c i <;> simp_all
 ·rintro ⟨a, bc, hd, rfl, ha, b, c, hd2, rfl, hb, hc⟩
  refine ⟨fun i => (a i).or (b i), c, fun i => ?_, funext fun i => ?_, ⟨a, b, fun i => ?_, rfl, ha, hb⟩, hc⟩
  ·have h1 := hd i
   have h2 := hd2 i
   cases ha' : a i <;> cases hb' : b i <;> cases hc' : c i <;> simp_all
  ·exact Option.or_assoc.symm
  ·have h1 := hd i
   have h2 := hd2 i
   cases ha' : a i <;> cases hb' : b i <;> cases hc' : c i <;> simp_all
theorem eN (P : SP) : P * emp = P := by
 apply SP.ext;intro h
 constructor
 ·rintro ⟨a, b, hd, rfl, ha, hb⟩
  have hb : b = fun _ => none := hb;subst hb
  simpa using ha
 ·intro h'
  exact ⟨h, fun _ => none, fun i => .inr rfl, by simp, h', rfl⟩
theorem jI (P : SP) : emp * P = P := by rw [wa, eN]
instance : Std.Associative (α := SP) (· * ·) := ⟨ar⟩
instance : Std.Commutative (α := SP) (· * ·) := ⟨wa⟩
theorem bD (P Q R : SP) : P * (Q * R) = Q * (P * R) := by rw [← ar, wa P Q, ar]
def blk (b : Nat) (o : AObj) : SP := fun h => h = fun i => if i = b then some o else none
def ex {α : Type} (P : α → SP) : SP := fun h => ∃ x, P x h
def pu (p : Prop) : SP := fun h => p ∧ h = fun _ => none
def ac (P : SP) (H : AH) : Prop := ∃ h : Hp, P h ∧ ∀ i o, h i = some o → H.get i = some o
theorem ac.left {P Q : SP} {H : AH} (h : ac (P * Q) H) : ac P H := by
 obtain ⟨x, ⟨a, b, hd, rfl, ha, hb⟩, hx⟩ := h;exact ⟨a, ha, fun i o hi => hx i o (by simp [hi])⟩
theorem ac.right {P Q : SP} {H : AH} (h : ac (P * Q) H) : ac Q H := by rw [wa] at h; exact h.left
theorem ac.get {b : Nat} {o : AObj} {H : AH} (h : ac (blk b o) H) : H.get b = some o := by
 obtain ⟨x, hx, hg⟩ := h;have hx : x = _ := hx;exact hg b o (by rw [hx]; simp)
theorem ac.ex {α : Type} {F : α → SP} {R : SP} {H : AH} : ac (ex F * R) H ↔ ∃ x, ac (F x * R) H := by
 constructor
 ·rintro ⟨h, ⟨a, b, hd, rfl, ⟨x, ha⟩, hb⟩, hx⟩
  exact ⟨x, _, ⟨a, b, hd, rfl, ha, hb⟩, hx⟩
 ·rintro ⟨x, h, ⟨a, b, hd, rfl, ha, hb⟩, hx⟩
  exact ⟨_, ⟨a, b, hd, rfl, ⟨x, ha⟩, hb⟩, hx⟩
theorem ac.pu {p : Prop} {R : SP} {H : AH} : ac (pu p * R) H ↔ p ∧ ac R H := by
 constructor
 ·rintro ⟨h, ⟨a, b, hd, rfl, ⟨hp, ha⟩, hb⟩, hx⟩
  subst ha;exact ⟨hp, b, hb, fun i o hi => hx i o (by simp [hi])⟩
 ·rintro ⟨hp, h, hr, hx⟩
  exact ⟨h, ⟨fun _ => none, h, fun i => .inl rfl, by simp, ⟨hp, rfl⟩, hr⟩, hx⟩
theorem ac.emp (H : AH) : ac emp H := ⟨fun _ => none, rfl, fun i o h => by cases h⟩
theorem ac.lt {b : Nat} {o : AObj} {R : SP} {H : AH} (h : ac (blk b o * R) H) : b < H.size := AH.lt_of_get h.left.get
theorem ac.set {b : Nat} {o : AObj} {R : SP} {H : AH} (o' : AObj) (h : ac (blk b o * R) H) : ac (blk b o' * R) (H.set b o') := by
 have hb := h.lt;obtain ⟨x, ⟨a, r, hd, rfl, ha, hr⟩, hx⟩ := h;have ha : a = _ := ha;subst ha;refine ⟨_, ⟨_, r, fun i => ?_, rfl, rfl, hr⟩, fun i o2 hi => ?_⟩
 ·have := hd i
  simp only at this ⊢
  by_cases hi : i = b
  ·rw [if_pos hi] at this ⊢
   rcases this with h | h
   ·cases h
   ·exact .inr h
  ·rw [if_neg hi]; exact .inl rfl
 ·by_cases hib : i = b
  ·subst hib
   simp only [if_true, Option.some_or, Option.some.injEq] at hi;subst hi;exact AH.get_set_eq hb
  ·simp only [if_neg hib, Option.none_or] at hi
   rw [AH.get_set_ne hib];exact hx i o2 (by simp only [if_neg hib, Option.none_or]; exact hi)
theorem ac.push {R : SP} {H : AH} (o : AObj) (h : ac R H) : ac (blk H.size o * R) (H.push o) := by
 obtain ⟨r, hr, hx⟩ := h;refine ⟨_, ⟨_, r, fun i => ?_, rfl, rfl, hr⟩, fun i o2 hi => ?_⟩
 ·by_cases hi : i = H.size
  ·subst hi
   right
   cases hr' : r H.size with
   | none => rfl
   | some o' => have := AH.lt_of_get (hx _ _ hr'); omega
  ·rw [if_neg hi]; exact .inl rfl
 ·by_cases hib : i = H.size
  ·subst hib
   simp only [if_true, Option.some_or, Option.some.injEq] at hi;subst hi;exact AH.get_push_new _ _
  ·simp only [if_neg hib, Option.none_or] at hi
   have := hx i o2 hi;rw [AH.get_push_old (AH.lt_of_get this)];exact this
theorem ac.dead {b : Nat} {o : AObj} {R : SP} {H : AH} (h : ac (blk b o * R) H) : ac R (H.set b .dead) := (h.set .dead).right
class Fr (P A : SP) (R : outParam SP) : Prop where
 eq : P = A * R
instance (priority := high) Fr.refl (A : SP) : Fr A A emp := ⟨(eN A).symm⟩
instance (priority := high) Fr.emp (P : SP) : Fr P emp P := ⟨(jI P).symm⟩
instance Fr.left (P Q A R : SP) [h : Fr P A R] : Fr (P * Q) A (R * Q) := ⟨by rw [h.eq, ar]⟩
instance Fr.right (P Q A R : SP) [h : Fr Q A R] : Fr (P * Q) A (P * R) := ⟨by rw [h.eq, bD]⟩
instance (priority := high) Fr.both (P A B R1 R2 : SP) [h1 : Fr P A R1] [h2 : Fr R1 B R2] : Fr P (A * B) R2 := ⟨by rw [h1.eq, h2.eq, ar]⟩
class Hs (P : SP) (b : Nat) (o : outParam AObj) : Prop where
 get : ∀ {H : AH}, ac P H → H.get b = some o
instance Hs.one (b : Nat) (o : AObj) : Hs (blk b o) b o := ⟨ac.get⟩
instance Hs.left (P Q : SP) (b : Nat) (o : AObj) [h : Hs P b o] : Hs (P * Q) b o := ⟨fun k => h.get k.left⟩
instance Hs.right (P Q : SP) (b : Nat) (o : AObj) [h : Hs Q b o] : Hs (P * Q) b o := ⟨fun k => h.get k.right⟩
class Up (P : SP) (b : Nat) (o' : AObj) (P' : outParam SP) : Prop where
 up : ∃ o R, P = blk b o * R ∧ P' = blk b o' * R
instance Up.one (b : Nat) (o o' : AObj) : Up (blk b o) b o' (blk b o') := ⟨o, emp, (eN _).symm, (eN _).symm⟩
instance Up.left (P Q : SP) (b : Nat) (o' : AObj) (P' : SP) [h : Up P b o' P'] : Up (P * Q) b o' (P' * Q) := ⟨by
 obtain ⟨o, R, e1, e2⟩ := h.up
 exact ⟨o, R * Q, by rw [e1, ar], by rw [e2, ar]⟩⟩
instance Up.right (P Q : SP) (b : Nat) (o' : AObj) (Q' : SP) [h : Up Q b o' Q'] : Up (P * Q) b o' (P * Q') := ⟨by
 obtain ⟨o, R, e1, e2⟩ := h.up
 exact ⟨o, P * R, by rw [e1, bD], by rw [e2, bD]⟩⟩
theorem Up.set {P P' : SP} {b : Nat} {o' : AObj} [h : Up P b o' P'] {H : AH} (k : ac P H) : ac P' (H.set b o') := by
 obtain ⟨o, R, rfl, rfl⟩ := h.up;exact k.set o'
theorem ac.fr {P A R : SP} {H : AH} (h : ac P H) [f : Fr P A R] : ac (A * R) H := by rw [← f.eq]; exact h
theorem ac.to {P A R : SP} {H : AH} (h : ac P H) [f : Fr P A R] : ac A H := h.fr.left
def wp (x : OV) (Q : Value → AH → Prop) : Prop := ∃ v H, x = some (v, H) ∧ Q v H
abbrev vp (b : Nat) : Value := .pointer (some ⟨b, 0, none⟩)
abbrev pP (b o : Nat) : Value := .pointer (some ⟨b, o, none⟩)
abbrev vs (b n e : Nat) : Value := .slice (some ⟨b, 0, none⟩) n e
theorem aq {v : Value} {H : AH} {Q : Value → AH → Prop} (h : Q v H) : wp (some (v, H)) Q := ⟨v, H, rfl, h⟩
theorem wp.mono {x : OV} {Q Q' : Value → AH → Prop} (h : wp x Q) (k : ∀ v H, Q v H → Q' v H) : wp x Q' := let ⟨v, H, e, q⟩ := h; ⟨v, H, e, k v H q⟩
theorem bf {x y : OV} {Q : Value → AH → Prop} (h : ∀ r, x = some r → y = some r) (k : wp x Q) : wp y Q := let ⟨v, H, e, q⟩ := k; ⟨v, H, h _ e, q⟩
theorem ah {x y : OV} {Q : Value → AH → Prop} (h : y = x) (k : wp x Q) : wp y Q := by rw [h]; exact k
theorem aa {x : Option Value} {v : Value} {k : Value → OV} {Q : Value → AH → Prop} (e : x = some v) (h : wp (k v) Q) : wp (x.bind k) Q := by rw [e]; exact h
theorem bR {b : Bool} {x y : OV} {Q : Value → AH → Prop} (ht : b = true → wp x Q) (hf : b = false → wp y Q) : wp (aw (vb b) x y) Q := by
 cases b
 ·exact hf rfl
 ·exact ht rfl
theorem DE {x y : Option Value} {k : OV} {Q : Value → AH → Prop} (e : x = y) (h : wp k Q) : wp (bJ x y k) Q := by rw [alZ e]; exact h
theorem Yt {x : Option Value} {k : OV} {Q : Value → AH → Prop} (h : wp k Q) : wp (bJ x x k) Q := DE rfl h
section
variable {P P' R : SP} {H : AH} {b o f n len e : Nat} {ro : Bool} {cs : List Value} {v x : Value} {Q : Value → AH → Prop}
theorem Od (h : ac P H) [i : Hs P b (.cells ro cs)] (hv : cs[o]? = some v) : au (pP b o) H = some v := by
 simp only [au, tN, dq, bo, i.get h];exact hv
theorem Oe (h : ac P H) [i : Hs P b (.cells ro cs)] (hn : o + n ≤ cs.length) : aC n (pP b o) H = some (.agg ((cs.drop o).take n).toArray) := by
 simp only [aC, tN, dq, bo, i.get h];rw [if_pos hn]
theorem afV (h : ac P H) [i : Hs P b (.cells false cs)] (hx : x.cells.size = n) (hn : o + n ≤ cs.length) (hc : x.cells.toList.all Value.oneCell' = true) :
 dc n (pP b o) x H = some (H.set b (.cells false (splice cs o x.cells.toList))) := by
 simp only [dc, tN, bo, i.get h];rw [if_pos ⟨hx, hn, hc⟩]
theorem bm {k : Value → AH → OV} (h : ac P H) (hk : ∀ b H', ac (blk b (.cells false cs) * P) H' → wp (k (vp b) H') Q) : wp (aW cs H k) Q := hk _ _ (h.push _)
theorem ww {k : Value → AH → OV} (h : ac P H) (hk : ∀ b H', ac (blk b (.map [] 0) * P) H' → wp (k (.map (some b)) H') Q) : wp (D3 H k) Q := hk _ _ (h.push _)
theorem aoW {k : Value → AH → OV} (h : ac P H) (hk : ∀ b H', ac (blk b (.cells false cs) * P) H' → wp (k (vs b len e) H') Q) : wp (aoK len e cs H k) Q := hk _ _ (h.push _)
theorem Uk {zero : List Value} {xs : List (Nat × Value)} {k : Value → AH → OV} (h : ac P H) (hf : cI (ajA e) (List.replicate len zero).flatten xs = some cs) (hk : ∀ b H', ac (blk b (.cells false cs) * P) H' → wp (k (vs b len e) H') Q) :
 wp (ze len e zero xs H k) Q := by
 unfold ze;rw [hf];exact aoW h hk
theorem LR {ps : List (Nat × Nat)} {zero : List Value} {xs : List (Nat × Value)} {k : Value → OV} (hf : cI (fun i => ps[i]?) zero xs = some cs) (hk : wp (k (.agg cs.toArray)) Q) : wp (iz ps zero xs k) Q := by
 unfold iz;rw [hf];exact hk
theorem Ui {n : Nat} {a : Option Addr} {k : Value → OV} (hk : wp (k (vi n)) Q) : wp (ep (.slice a n e) k) Q := hk
theorem anO {R : Type} {b o f : Nat} {p : List Stp} {k : Value → Option R} : ad (.f f :: p) (pP b o) k = ad p (pP b (o + f)) k := rfl
theorem UB {R : Type} {b o n e i : Nat} {c : Nat} {p : List Stp} {kk : IntKind} {k : Value → Option R} (h : i < n) : ad (.i e (.int kk (i : Int)) :: p) (.slice (some ⟨b, o, none⟩) n c) k = ad p (pP b (o + i * e)) k := by
 show (nX e (.slice (some ⟨b, o, none⟩) n c) (.int kk (i : Int))).bind _ = _;simp only [nX];rw [if_pos (by omega)];simp
theorem anN {R : Type} {b o n e i : Nat} {p : List Stp} {kk : IntKind} {k : Value → Option R} (h : i < n) : ad (.a n e (.int kk (i : Int)) :: p) (pP b o) k = ad p (pP b (o + i * e)) k := by
 show (iv n e (pP b o) (.int kk (i : Int))).bind _ = _;simp only [iv];rw [if_pos (by omega)];simp
def L9 (p : List Stp) (x : Value) (b o : Nat) : Prop := ∀ {R : Type} (k : Value → Option R), ad p x k = k (pP b o)
theorem cn : L9 [] (pP b o) b o := fun _ => rfl
theorem jb {p : List Stp} {b' o' : Nat} (h : L9 p (pP b o) b' o') : L9 (.n :: p) (pP b o) b' o' := fun k => h k
theorem cm {p : List Stp} {b' o' : Nat} (h : L9 p (pP b (o + f)) b' o') : L9 (.f f :: p) (pP b o) b' o' := fun k => h k
theorem QI {p : List Stp} {b' o' i c : Nat} {kk : IntKind} (hi : i < n) (h : L9 p (pP b (o + i * e)) b' o') : L9 (.i e (.int kk (i : Int)) :: p) (.slice (some ⟨b, o, none⟩) n c) b' o' := fun k => by rw [UB hi]; exact h k
theorem ae : L9 [.n, .f f] (vp b) b f := fun k => by
 show k (pP b (0 + f)) = _;rw [Nat.zero_add]
theorem aE : L9 [.f f] (vp b) b f := fun k => by
 show k (pP b (0 + f)) = _;rw [Nat.zero_add]
class YP (l : List Value) (o : Nat) (v : Value) (l' : outParam (List Value)) : Prop where
 eq : o < l.length ∧ l' = l.set o v
instance YP.zero (a : Value) (l : List Value) (v : Value) : YP (a :: l) 0 v (v :: l) := ⟨by simp⟩
instance YP.succ (a : Value) (l : List Value) (o : Nat) (v : Value) (l' : List Value) [h : YP l o v l'] : YP (a :: l) (o + 1) v (a :: l') := ⟨by
 obtain ⟨h1, rfl⟩ := h.eq
 exact ⟨by simp; exact h1, by simp⟩⟩
class wB (l : List Value) (o : Nat) (xs : List Value) (l' : outParam (List Value)) : Prop where
 eq : o + xs.length ≤ l.length ∧ l' = splice l o xs
instance wB.here0 (l : List Value) : wB l 0 [] l := ⟨by simp [splice]⟩
instance wB.here (a x : Value) (l xs l' : List Value) [h : wB l 0 xs l'] : wB (a :: l) 0 (x :: xs) (x :: l') := ⟨by
 obtain ⟨h1, rfl⟩ := h.eq
 refine ⟨by simp at h1 ⊢; exact h1, by simp [splice]⟩⟩
instance wB.on (a : Value) (l : List Value) (o : Nat) (x : Value) (xs l' : List Value) [h : wB l o (x :: xs) l'] : wB (a :: l) (o + 1) (x :: xs) (a :: l') := ⟨by
 obtain ⟨h1, rfl⟩ := h.eq;refine ⟨by simp at h1 ⊢; omega, ?_⟩;simp only [splice, List.take_succ_cons, List.cons_append, List.cons.injEq, true_and]
 congr 1
 rw [show o + 1 + (x :: xs).length = (o + (x :: xs).length) + 1 from by omega, List.drop_succ_cons]⟩
class DQ (l : List Value) (o n : Nat) (l' : outParam (List Value)) : Prop where
 eq : o + n ≤ l.length ∧ l' = (l.drop o).take n
instance DQ.nil (l : List Value) : DQ l 0 0 [] := ⟨by simp⟩
instance DQ.here (a : Value) (l : List Value) (n : Nat) (l' : List Value) [h : DQ l 0 n l'] : DQ (a :: l) 0 (n + 1) (a :: l') := ⟨by
 obtain ⟨h1, rfl⟩ := h.eq
 exact ⟨by simp at h1 ⊢; exact h1, by simp⟩⟩
instance DQ.on (a : Value) (l : List Value) (o n : Nat) (l' : List Value) [h : DQ l o (n + 1) l'] : DQ (a :: l) (o + 1) (n + 1) l' := ⟨by
 obtain ⟨h1, rfl⟩ := h.eq
 exact ⟨by simp at h1 ⊢; omega, by simp⟩⟩
class uf (v : Value) (l : outParam (List Value)) : Prop where
 eq : v.cells.toList = l
instance uf.int (k : IntKind) (n : Int) : uf (.int k n) [.int k n] := ⟨rfl⟩
instance uf.bool (b : Bool) : uf (.bool b) [.bool b] := ⟨rfl⟩
instance uf.slice (a : Option Addr) (n c : Nat) : uf (.slice a n c) [.slice a n c] := ⟨rfl⟩
instance uf.ptr (a : Option Addr) : uf (.pointer a) [.pointer a] := ⟨rfl⟩
instance uf.func (f : Fn) (a b : Array Value) : uf (.func f a b) [.func f a b] := ⟨rfl⟩
instance uf.nilFunc : uf .nilFunc [.nilFunc] := ⟨rfl⟩
instance uf.map (m : Option Nat) : uf (.map m) [.map m] := ⟨rfl⟩
instance uf.string (s : ByteArray) : uf (.string s) [.string s] := ⟨rfl⟩
instance uf.agg (l : List Value) : uf (.agg l.toArray) l := ⟨by simp [Value.cells]⟩
class Uv (ps : List (Nat × Nat)) (i : Nat) (o n : outParam Nat) : Prop where
 eq : ps[i]? = some (o, n)
instance Uv.zero (p : Nat × Nat) (ps : List (Nat × Nat)) : Uv (p :: ps) 0 p.1 p.2 := ⟨rfl⟩
instance Uv.succ (p : Nat × Nat) (ps : List (Nat × Nat)) (i o n : Nat) [h : Uv ps i o n] : Uv (p :: ps) (i + 1) o n := ⟨by simpa using h.eq⟩
class Ma (l : List Value) (n : Nat) : Prop where
 eq : l.length = n
instance Ma.nil : Ma [] 0 := ⟨rfl⟩
instance Ma.cons (a : Value) (l : List Value) (n : Nat) [h : Ma l n] : Ma (a :: l) (n + 1) := ⟨by simp [h.eq]⟩
class Uu (ps : List (Nat × Nat)) (zero : List Value) (xs : List (Nat × Value)) (cs : outParam (List Value)) : Prop where
 eq : cI (fun i => ps[i]?) zero xs = some cs
instance Uu.nil (ps : List (Nat × Nat)) (zero : List Value) : Uu ps zero [] zero := ⟨rfl⟩
instance Uu.cons (ps : List (Nat × Nat)) (zero z l cs : List Value) (i o n : Nat) (v : Value) (xs : List (Nat × Value)) [h1 : Uv ps i o n] [h2 : uf v l] [h3 : Ma l n] [h4 : wB zero o l z] [h5 : Uu ps z xs cs] : Uu ps zero ((i, v) :: xs) cs := ⟨by
 obtain ⟨h6, rfl⟩ := h4.eq;have h7 := h2.eq;have h8 := h3.eq;subst h7;simp only [cI, h1.eq, bo];rw [if_pos ⟨by simpa using h8, by rw [← h8]; exact h6⟩]
 exact h5.eq⟩
class alH (e : Nat) (zero : List Value) (xs : List (Nat × Value)) (cs : outParam (List Value)) : Prop where
 eq : cI (ajA e) (List.replicate 1 zero).flatten xs = some cs
instance alH.one (e : Nat) (zero l z : List Value) (v : Value) [h2 : uf v l] [h3 : Ma l e] [h4 : wB zero 0 l z] : alH e zero [(0, v)] z := ⟨by
 obtain ⟨h6, rfl⟩ := h4.eq;have h7 := h2.eq;have h8 := h3.eq;subst h7
 have hz : (List.replicate 1 zero).flatten = zero := by simp
 rw [hz];simp only [cI, ajA, bo, Nat.zero_mul]
 rw [if_pos ⟨by simpa using h8, by rw [← h8]; exact h6⟩]⟩
theorem bp {p : List Stp} {k : Value → OV} (hp : L9 p x b o) (hk : wp (k (pP b o)) Q) : wp (ad p x k) Q := by rw [hp k]; exact hk
theorem av {p : List Stp} {k : Value → OV} (h : ac P H) (hp : L9 p x b o) [i : Hs P b (.cells ro cs)] (hv : cs[o]? = some v) (hk : wp (k v) Q) : wp (ld p x H k) Q := by
 unfold ld;rw [hp, Od h hv];exact hk
theorem Uh {l : List Value} {p : List Stp} {k : Value → OV} (h : ac P H) (hp : L9 p x b o) [i : Hs P b (.cells ro cs)] [s : DQ cs o n l] (hk : wp (k (.agg l.toArray)) Q) : wp (ldN n p x H k) Q := by
 obtain ⟨hn, rfl⟩ := s.eq;unfold ldN;rw [hp, Oe h hn];exact hk
theorem bw {cs' l : List Value} {p : List Stp} {k : AH → OV} (h : ac P H) (hp : L9 p x b o) [i : Hs P b (.cells false cs)] [c : uf v l] [s : wB cs o l cs'] (hx : l.length = n) (hc : l.all Value.oneCell' = true)
 [u : Up P b (.cells false cs') P'] (hk : ∀ H', ac P' H' → wp (k H') Q) : wp (st n p x v H k) Q := by
 obtain ⟨hn, rfl⟩ := s.eq;have hl := c.eq;subst hl;unfold st;rw [hp, afV h (by simpa using hx) (by simp at hx hn; omega) hc];exact hk _ (u.set h)
theorem aL {k : Value → OV} (h : ac P H) [i : Hs P b (.cells ro cs)] (hv : cs[o]? = some v) (hk : wp (k v) Q) : wp ((au (pP b o) H).bind k) Q := aa (Od h hv) hk
theorem a7 {l : List Value} {k : Value → OV} (h : ac P H) [i : Hs P b (.cells ro cs)] [s : DQ cs o n l] (hk : wp (k (.agg l.toArray)) Q) : wp ((aC n (pP b o) H).bind k) Q := by
 obtain ⟨hn, rfl⟩ := s.eq;exact aa (Oe h hn) hk
theorem fm {cs' l : List Value} {k : AH → OV} (h : ac P H) [i : Hs P b (.cells false cs)] [c : uf v l] [s : wB cs o l cs'] (hx : l.length = n) (hc : l.all Value.oneCell' = true)
 [u : Up P b (.cells false cs') P'] (hk : ∀ H', ac P' H' → wp (k H') Q) : wp ((dc n (pP b o) v H).bind k) Q := by
 obtain ⟨hn, rfl⟩ := s.eq;have hl := c.eq;subst hl;rw [afV h (by simpa using hx) (by simp at hx hn; omega) hc];exact hk _ (u.set h)
theorem a8 {l : List Value} {k : Value → AH → OV} (h : ac P H) [c : uf x l] (hk : ∀ b H', ac (blk b (.cells false l) * P) H' → wp (k (vp b) H') Q) : wp (aW (Value.cells x).toList H k) Q := by
 rw [c.eq]; exact bm h hk
theorem kP {ps : List (Nat × Nat)} {zero : List Value} {xs : List (Nat × Value)} {k : Value → OV} [f : Uu ps zero xs cs] (hk : wp (k (.agg cs.toArray)) Q) : wp (iz ps zero xs k) Q := LR f.eq hk
theorem L8 {zero : List Value} {xs : List (Nat × Value)} {k : Value → AH → OV} (h : ac P H) [f : alH e zero xs cs] (hk : ∀ b H', ac (blk b (.cells false cs) * P) H' → wp (k (vs b 1 e) H') Q) : wp (ze 1 e zero xs H k) Q := Uk h f.eq hk
theorem aI {P2 : SP} {H2 : AH} {ro2 : Bool} {cs2 : List Value} {k : OV} (h : ac P H) (h2 : ac P2 H2) [i : Hs P b (.cells ro cs)] [i2 : Hs P2 b (.cells ro2 cs2)] (e : cs[o]? = cs2[o]?) (hk : wp k Q) :
 wp (bJ (au (pP b o) H) (au (pP b o) H2) k) Q := by
 refine DE ?_ hk;simp only [au, tN, dq, bo, i.get h, i2.get h2];exact e
theorem en {P2 : SP} {H2 : AH} {ro2 : Bool} {cs2 : List Value} {k : OV} (h : ac P H) (h2 : ac P2 H2) [i : Hs P b (.cells ro cs)] [i2 : Hs P2 b (.cells ro2 cs2)] (e : cs = cs2) (hk : wp k Q) :
 wp (bJ (aC n (pP b o) H) (aC n (pP b o) H2) k) Q := by
 refine DE ?_ hk;simp only [aC, tN, dq, bo, i.get h, i2.get h2, e]
def Sp {α : Type} (f : Nat) (args : List Value) (P : SP) (v : α → Value) (Q : α → SP) : Prop := ∀ R H, ac (P * R) H → ∃ x H', FF f args H = some (v x, H') ∧ ac (Q x * R) H'
theorem aZ {α : Type} {f : Nat} {args : List Value} {P : SP} {v : α → Value} {Q : α → SP} (h : ∀ R H, ac (P * R) H → wp (FF f args H) fun v' H' => ∃ x, v' = v x ∧ ac (Q x * R) H') : Sp f args P v Q := by
 intro R H hh;obtain ⟨v', H', e, x, rfl, hq⟩ := h R H hh;exact ⟨x, H', e, hq⟩
theorem aX {α : Type} {f : Nat} {args : List Value} {P : SP} {v : α → Value} {Q : α → SP} {g : AH → OV} (hf : ∀ (H : AH) {r : Value × AH}, g H = some r → FF f args H = some r) (k : ∀ (R : SP) (H : AH), ac (P * R) H → wp (g H) fun v' H' => ∃ x, v' = v x ∧ ac (Q x * R) H') : Sp f args P v Q := aZ fun R H h => bf (fun r => hf H) (k R H h)
theorem ag {α : Type} {f : Nat} {args : List Value} {P0 : SP} {v : α → Value} {Q0 : α → SP} {k : Value × AH → OV} (h : ac P H) (s : Sp f args P0 v Q0) [fr : Fr P P0 R] (hk : ∀ x H', ac (Q0 x * R) H' → wp (k (v x, H')) Q) : wp ((FF f args H).bind k) Q := by
 obtain ⟨x, H', e, h'⟩ := s R H h.fr;rw [e];exact hk x H' h'
end
def sl (e : Nat) (v : Value) (n : Nat) (cs : List Value) : SP := ex fun ob : Option Nat => match ob with
 | none => pu (v = .slice none 0 0 ∧ n = 0 ∧ cs = [])
 | some b => pu (v = vs b n e ∧ cs.length = n * e) * blk b (.cells false cs)
theorem T8 {R : SP} {H : AH} (e : Nat) (h : ac R H) : ac (sl e (.slice none 0 0) 0 [] * R) H := ac.ex.2 ⟨none, ac.pu.2 ⟨⟨rfl, rfl, rfl⟩, h⟩⟩
theorem wi {R : SP} {H : AH} {e b n : Nat} {cs : List Value} (hl : cs.length = n * e) (h : ac (blk b (.cells false cs) * R) H) : ac (sl e (vs b n e) n cs * R) H :=
 ac.ex.2 ⟨some b, by rw [ar]; exact ac.pu.2 ⟨⟨rfl, hl⟩, h⟩⟩
theorem r8 {R : SP} {H : AH} {e n : Nat} {v : Value} {cs : List Value} (h : ac (sl e v n cs * R) H) : (v = .slice none 0 0 ∧ n = 0 ∧ cs = [] ∧ ac R H) ∨ ∃ b, v = vs b n e ∧ cs.length = n * e ∧ ac (blk b (.cells false cs) * R) H := by
 obtain ⟨ob, h⟩ := ac.ex.1 h
 cases ob with
 | none =>
  obtain ⟨⟨h1, h2, h3⟩, h4⟩ := ac.pu.1 h;exact .inl ⟨h1, h2, h3, h4⟩
 | some b =>
  simp only [ar] at h;obtain ⟨⟨h1, h2⟩, h4⟩ := ac.pu.1 h;exact .inr ⟨b, h1, h2, h4⟩
class Sl (P : SP) (e : Nat) (v : Value) (n : outParam Nat) (cs : outParam (List Value)) (R : outParam SP) : Prop where
 eq : P = sl e v n cs * R
instance (priority := high) Sl.refl (e n : Nat) (v : Value) (cs : List Value) : Sl (sl e v n cs) e v n cs emp := ⟨(eN _).symm⟩
instance Sl.left (P Q R : SP) (e n : Nat) (v : Value) (cs : List Value) [h : Sl P e v n cs R] : Sl (P * Q) e v n cs (R * Q) := ⟨by rw [h.eq, ar]⟩
instance Sl.right (P Q R : SP) (e n : Nat) (v : Value) (cs : List Value) [h : Sl Q e v n cs R] : Sl (P * Q) e v n cs (P * R) := ⟨by rw [h.eq, bD]⟩
theorem Sl.fr {P R : SP} (e : Nat) {n : Nat} (v : Value) {cs : List Value} [h : Sl P e v n cs R] {H : AH} (k : ac P H) : ac (sl e v n cs * R) H := by rw [← h.eq]; exact k
section
variable {P P' R : SP} {H : AH} {b o n m e k : Nat} {ro : Bool} {cs xcs : List Value} {v s x : Value} {Q : Value → AH → Prop}
theorem alE {bytes : Nat} {kk : Value × AH → OV} (h : ac P H) [f : Sl P e s n cs R] [i : Hs R b (.cells ro xcs)] (hl : xcs.length = k * e) (he : 0 < e) (hk0 : 0 < k) (hc : xcs.all Value.oneCell' = true)
 (hr : (n + k) * bytes ≤ room ∧ n + k ≤ room) (hk : ∀ a c H', ac (sl e (.slice a (n + k) c) (n + k) (cs ++ xcs) * R) H' → wp (kk (.slice a (n + k) c, H')) Q) : wp ((dN e bytes s (vs b k e) H).bind kk) Q := by
 have hf := Sl.fr e s h;have hg := i.get hf.right
 have hrow : kL e (vs b k e) H = some (k, xcs) := by
  simp only [kL, dq, hg, bo];rw [if_neg (by omega), if_pos (by omega)];simp [← hl]
 unfold dN;rw [hrow];simp only [bo];rw [if_pos ⟨hc, he⟩]
 rcases r8 hf with ⟨rfl, rfl, rfl, h'⟩ | ⟨b', rfl, hcl, h'⟩
 ·simp only [and_self, if_true]
  rw [if_neg (by omega), if_pos (by simpa using hr)];simp only [bo, Nat.zero_add, List.nil_append] at hk ⊢;exact hk _ _ _ (wi hl (h'.push _))
 ·simp only
  have hgb := h'.left.get;rw [if_neg (by omega), if_neg (by omega), hgb];simp only;rw [if_pos ⟨trivial, by omega, hr.1, hr.2⟩];simp only [bo, List.drop_zero];rw [← hcl, List.take_length];have h2 := h'.dead.push (.cells false (cs ++ xcs));rw [AH.size_set] at h2;exact hk _ _ _ (wi (by rw [dh, hcl, hl, Nat.add_mul]) h2)
end
abbrev b7 := Int × Int × Int
def dM (l : b7) : Value := .agg #[vi l.1, vi l.2.1, vi l.2.2]
instance uf.loc (l : b7) : uf (dM l) [vi l.1, vi l.2.1, vi l.2.2] := ⟨rfl⟩
structure Ev where
 who : Int
 kind : Int
 loc : b7
deriving DecidableEq
def Ev.cells (e : Ev) : List Value := [vi e.who, vi e.kind, vi e.loc.1, vi e.loc.2.1, vi e.loc.2.2]
def oc (E : List Ev) : List Value := E.flatMap Ev.cells
theorem Ge (E : List Ev) (x : Ev) : oc (E ++ [x]) = oc E ++ x.cells := by simp [oc]
section
variable {α : Type} {enc : α → List Value} {e : Nat}
theorem jZ (he : ∀ x, (enc x).length = e) (l : List α) : (l.flatMap enc).length = l.length * e := by
 induction l with
 | nil => simp
 | cons x l ih => rw [List.flatMap_cons, dh, he, ih, List.length_cons, Nat.add_mul]; omega
theorem WD (he : ∀ x, (enc x).length = e) : ∀ (l : List α) (i : Nat), (l.flatMap enc).drop (i * e) = (l.drop i).flatMap enc := by
 intro l
 induction l with
 | nil => intro i; simp
 | cons x l ih =>
  intro i
  cases i with
  | zero => simp
  | succ i =>
   rw [List.flatMap_cons, List.drop_append, he, show (i + 1) * e - e = i * e from by rw [Nat.add_mul]; omega, ih, List.drop_eq_nil_of_le (by rw [he, Nat.add_mul]; omega)]
   rfl
theorem oJ (l : List α) (i : Nat) (hi : i < l.length) : l.flatMap enc = (l.take i).flatMap enc ++ (enc l[i] ++ (l.drop (i + 1)).flatMap enc) := by
 rw [← List.flatMap_cons, ← List.flatMap_append, List.getElem_cons_drop, List.take_append_drop]
theorem Ki (l : List α) (i : Nat) (hi : i < l.length) (y : α) : (l.set i y).flatMap enc = (l.take i).flatMap enc ++ (enc y ++ (l.drop (i + 1)).flatMap enc) := by
 rw [← List.flatMap_cons, ← List.flatMap_append, List.set_eq_take_append_cons_drop, if_pos hi]
theorem q9 (he : ∀ x, (enc x).length = e) (l : List α) (i : Nat) (hi : i < l.length) : ((l.take i).flatMap enc).length = i * e := by
 rw [jZ he, List.length_take, Nat.min_eq_left (by omega)]
theorem Hz (he : ∀ x, (enc x).length = e) (l : List α) (i : Nat) (hi : i < l.length) : ((l.flatMap enc).drop (i * e)).take e = enc l[i] := by
 rw [oJ l i hi, List.drop_append, q9 he l i hi, Nat.sub_self, List.drop_zero, List.drop_eq_nil_of_le (by rw [q9 he l i hi]; omega), List.nil_append, List.take_append, he, Nat.sub_self, List.take_zero, List.append_nil,
  List.take_of_length_le (by rw [he]; omega)]
theorem Cd (he : ∀ x, (enc x).length = e) (l : List α) (i : Nat) (hi : i < l.length) (f : Nat) (hf : f < e) : (l.flatMap enc)[i * e + f]? = (enc l[i])[f]? := by
 rw [oJ l i hi, List.getElem?_append_right (by rw [q9 he l i hi]; omega), q9 he l i hi, List.getElem?_append_left (by rw [he]; omega)]
 congr 1
 omega
theorem PM (A X B xs : List Value) (f : Nat) (h : f + xs.length ≤ X.length) : splice (A ++ (X ++ B)) (A.length + f) xs = A ++ (splice X f xs ++ B) := by
 unfold splice;rw [List.take_append, List.take_append, List.drop_append, List.drop_append, List.take_of_length_le (by omega), List.drop_eq_nil_of_le (by omega)]
 have e1 : A.length + f - A.length = f := by omega
 have e2 : A.length + f + xs.length - A.length = f + xs.length := by omega
 have e3 : f + xs.length - X.length = 0 := by omega
 have e4 : f - X.length = 0 := by omega
 rw [e1, e2, e3, e4];simp
theorem Kj (he : ∀ x, (enc x).length = e) (l : List α) (i : Nat) (hi : i < l.length) (f : Nat) (xs : List Value) (hf : f + xs.length ≤ e) (y : α) (hy : splice (enc l[i]) f xs = enc y) :
 splice (l.flatMap enc) (i * e + f) xs = (l.set i y).flatMap enc := by
 rw [oJ l i hi, Ki l i hi, ← q9 he l i hi, PM _ _ _ _ _ (by rw [he]; exact hf), hy]
end
def ts {α : Type} (e : Nat) (enc : α → List Value) (v : Value) (l : List α) : SP := sl e v l.length (l.flatMap enc)
class Enc {α : Type} (enc : α → List Value) (e : outParam Nat) : Prop where
 len : ∀ x, (enc x).length = e
 one : ∀ x, (enc x).all Value.oneCell' = true
 pos : 0 < e
class Ts (P : SP) (s : Value) (α : outParam Type) (e : outParam Nat) (enc : outParam (α → List Value)) (l : outParam (List α)) (R : outParam SP) : Prop where
 eq : P = ts e enc s l * R
instance (priority := high) Ts.refl {α : Type} (e : Nat) (enc : α → List Value) (s : Value) (l : List α) : Ts (ts e enc s l) s α e enc l emp := ⟨(eN _).symm⟩
instance Ts.left {α : Type} (P Q R : SP) (e : Nat) (enc : α → List Value) (s : Value) (l : List α) [h : Ts P s α e enc l R] : Ts (P * Q) s α e enc l (R * Q) := ⟨by rw [h.eq, ar]⟩
instance Ts.right {α : Type} (P Q R : SP) (e : Nat) (enc : α → List Value) (s : Value) (l : List α) [h : Ts Q s α e enc l R] : Ts (P * Q) s α e enc l (P * R) := ⟨by rw [h.eq, bD]⟩
class Tu (P : SP) (s : Value) {α : Type} (l' : List α) (P' : outParam SP) : Prop where
 up : ∃ e enc, ∃ (l : List α), ∃ R, P = ts e enc s l * R ∧ P' = ts e enc s l' * R
theorem dr {α : Type} {R : SP} {H : AH} (e : Nat) (enc : α → List Value) (h : ac R H) : ac (ts e enc (.slice none 0 0) [] * R) H := T8 e h
section
variable {α : Type} {P P' R : SP} {H : AH} {b o e : Nat} {ro : Bool} {enc : α → List Value} {l : List α} {xcs : List Value} {s : Value} {Q : Value → AH → Prop}
theorem oV (h : ac P H) [f : Ts P s α e enc l R] : (s = .slice none 0 0 ∧ l = [] ∧ ac R H) ∨ ∃ b, s = vs b l.length e ∧ ac (blk b (.cells false (l.flatMap enc)) * R) H := by
 have h' : ac (ts e enc s l * R) H := by rw [← f.eq]; exact h
 rcases r8 h' with ⟨h1, h2, _, h4⟩ | ⟨b, h1, _, h3⟩
 ·exact .inl ⟨h1, List.eq_nil_of_length_eq_zero h2, h4⟩
 ·exact .inr ⟨b, h1, h3⟩
theorem Ak {b : Nat} [E : Enc enc e] (h : ac (blk b (.cells false (l.flatMap enc)) * R) H) : ac (ts e enc (vs b l.length e) l * R) H := wi (jZ E.len l) h
theorem oX {k : Value → OV} (h : ac P H) [f : Ts P s α e enc l R] (hk : wp (k (vi l.length)) Q) : wp (ep s k) Q := by
 rcases oV (f := f) h with ⟨rfl, rfl, _⟩ | ⟨b, rfl, _⟩
 ·exact hk
 ·exact hk
theorem gu {bytes : Nat} {kk : Value × AH → OV} (x : α) (h : ac P H) [f : Ts P s α e enc l R] [i : Hs R b (.cells ro xcs)] [E : Enc enc e] (hx : xcs = enc x)
 (hr : (l.length + 1) * bytes ≤ room) (hb : 0 < bytes) (hk : ∀ a c H', ac (ts e enc (.slice a (l.length + 1) c) (l ++ [x]) * R) H' → wp (kk (.slice a (l.length + 1) c, H')) Q) : wp ((dN e bytes s (vs b 1 e) H).bind kk) Q := by
 have h' : ac (sl e s l.length (l.flatMap enc) * R) H := by
  have : P = ts e enc s l * R := f.eq;rw [this] at h;exact h
 subst hx;refine alE (k := 1) (ro := ro) (xcs := enc x) h' (by rw [E.len]; omega) E.pos (by omega) (E.one x) ⟨hr, ?_⟩ fun a c H' h2 => hk a c H' ?_
 ·have : l.length + 1 ≤ (l.length + 1) * bytes := Nat.le_mul_of_pos_right _ hb
  omega
 ·have e1 : (l ++ [x]).length = l.length + 1 := by simp
  have e2 : (l ++ [x]).flatMap enc = l.flatMap enc ++ enc x := by simp
  unfold ts;rw [e1, e2];rw [jI] at h2;exact h2
theorem P4 {k : Value → OV} {i : Nat} {kk : IntKind} (h : ac P H) [f : Ts P s α e enc l R] [E : Enc enc e] (hi : i < l.length) (hk : wp (k (.agg (enc l[i]).toArray)) Q) : wp (ldN e [.i e (.int kk (i : Int))] s H k) Q := by
 rcases oV (f := f) h with ⟨_, rfl, _⟩ | ⟨b, rfl, h'⟩
 ·simp at hi
 ·unfold ldN
  rw [QI hi cn];have hlen := jZ E.len l;have hm : (i + 1) * e ≤ l.length * e := Nat.mul_le_mul_right _ (by omega);rw [Nat.add_mul] at hm;have := Oe (b := b) (cs := l.flatMap enc) (ro := false) (n := e) (o := 0 + i * e) h' (by omega);rw [this, bo, Nat.zero_add, Hz E.len l i hi];exact hk
theorem agN {k : Value → OV} {i : Nat} {kk : IntKind} {v : Value} (h : ac P H) [f : Ts P s α 1 enc l R] [E : Enc enc 1] (hi : i < l.length) (hv : enc l[i] = [v]) (hk : wp (k v) Q) : wp (ld [.i 1 (.int kk (i : Int))] s H k) Q := by
 rcases oV (f := f) h with ⟨_, rfl, _⟩ | ⟨b, rfl, h'⟩
 ·simp at hi
 ·unfold ld
  rw [QI hi cn]
  have := Od (b := b) (o := 0 + i * 1) (v := v) h' (by
   have := Cd E.len l i hi 0 (by omega);rw [Nat.add_zero] at this
   rw [Nat.zero_add, this, hv]; rfl)
  rw [this];exact hk
theorem DH {n : Nat} {p : List Stp} {k : AH → OV} {i g : Nat} {kk : IntKind} {v : Value} {xs : List Value} (y : α) (h : ac P H) [f : Ts P s α e enc l R] [E : Enc enc e] (hi : i < l.length) (hp : p = [.i e (.int kk (i : Int))] ∧ g = 0 ∨ p = [.i e (.int kk (i : Int)), .f g])
 [c : uf v xs] (hn : xs.length = n) (hg : g + n ≤ e) (hx : xs.all Value.oneCell' = true) (hy : splice (enc l[i]) g xs = enc y) (hk : ∀ H', ac (ts e enc s (l.set i y) * R) H' → wp (k H') Q) : wp (st n p s v H k) Q := by
 rcases oV (f := f) h with ⟨_, rfl, _⟩ | ⟨b, rfl, h'⟩
 ·simp at hi
 ·have hend : L9 p (vs b l.length e) b (i * e + g) := by
   rcases hp with ⟨rfl, rfl⟩ | rfl
   ·intro R' k'
    rw [QI hi cn];simp
   ·intro R' k'
    rw [QI hi (cm cn)];simp
  unfold st;have hc := c.eq;subst hc;rw [hend];have hlen := jZ E.len l;have hm : (i + 1) * e ≤ l.length * e := Nat.mul_le_mul_right _ (by omega);rw [Nat.add_mul] at hm;rw [afV h' (by simpa using hn) (by omega) hx, bo, Kj E.len l i hi g _ (by rw [hn]; exact hg) y hy];refine hk _ ?_;have h2 := h'.set (.cells false ((l.set i y).flatMap enc));have h3 := Ak (e := e) (enc := enc) (l := l.set i y) h2;rw [xa] at h3;exact h3
end
instance : Enc Ev.cells 5 := ⟨fun _ => rfl, fun _ => rfl, by omega⟩
def dO (n : Int) : List Value := [vi n]
instance : Enc dO 1 := ⟨fun _ => rfl, fun _ => rfl, by omega⟩
def anI (H : AH) (s : Value) (e n : Nat) (cs : List Value) : Prop :=
 cs.length = n * e ∧ ((∃ a c, s = .slice a 0 c ∧ n = 0 ∧ (a = none → c = 0) ∧ (∀ x, a = some x → ∃ b o, x = ⟨b, o, none⟩)) ∨ ∃ b o ro row, s = .slice (some ⟨b, o, none⟩) n e ∧ H.get b = some (.cells ro row) ∧ o + n * e ≤ row.length ∧ (row.drop o).take (n * e) = cs)
class Rd {α : outParam Type} (P : SP) (s : Value) (e : outParam Nat) (enc : outParam (α → List Value)) (l : outParam (List α)) : Prop where
 rd : ∀ {H : AH}, ac P H → anI H s e l.length (l.flatMap enc)
instance Rd.left {α : Type} (P Q : SP) (s : Value) (e : Nat) (enc : α → List Value) (l : List α) [r : Rd P s e enc l] : Rd (P * Q) s e enc l := ⟨fun h => r.rd h.left⟩
instance Rd.right {α : Type} (P Q : SP) (s : Value) (e : Nat) (enc : α → List Value) (l : List α) [r : Rd Q s e enc l] : Rd (P * Q) s e enc l := ⟨fun h => r.rd h.right⟩
instance Rd.own {α : Type} (s : Value) (e : Nat) (enc : α → List Value) (l : List α) : Rd (ts e enc s l) s e enc l := ⟨by
 intro H h
 have h' : ac (ts e enc s l * emp) H := by rw [eN]; exact h
 rcases r8 h' with ⟨rfl, h2, h3, _⟩ | ⟨b, rfl, hc, h4⟩
 ·exact ⟨by rw [h3, h2]; simp, .inl ⟨none, 0, rfl, h2, fun _ => rfl, fun x hx => by cases hx⟩⟩
 ·exact ⟨hc, .inr ⟨b, 0, false, _, rfl, h4.left.get, by omega, by rw [List.drop_zero, ← hc, List.take_length]⟩⟩⟩
section
variable {α : Type} {P R : SP} {H : AH} {e n : Nat} {enc : α → List Value} {l m : List α} {s : Value} {Q : Value → AH → Prop}
theorem fq {k : Value → OV} (h : ac P H) [r : Rd P s e enc l] (hk : wp (k (vi l.length)) Q) : wp (ep s k) Q := by
 obtain ⟨_, ⟨a, c, rfl, hn, _⟩ | ⟨b, o, ro, row, rfl, _⟩⟩ := r.rd h
 ·rw [hn] at hk; exact hk
 ·exact hk
theorem amS {R' : Type} {k : Value → Option R'} (h : ac P H) [r : Rd P s e enc l] : ep s k = k (vi l.length) := by
 obtain ⟨_, ⟨a, c, rfl, hn, _⟩ | ⟨b, o, ro, row, rfl, _⟩⟩ := r.rd h
 ·rw [hn]; rfl
 ·rfl
theorem ge {k : Value → OV} (h : ac P H) [r : Rd P s e enc l] (hk : wp (k (vi l.length)) Q) : wp ((ep s some).bind k) Q := by
 rw [amS h]; exact hk
theorem C2 (h : ac P H) [r : Rd P s e enc l] [E : Enc enc e] {i : Nat} (hi : i < l.length) : ∃ b o ro row, s = .slice (some ⟨b, o, none⟩) l.length e ∧ H.get b = some (.cells ro row) ∧ o + l.length * e ≤ row.length ∧ (row.drop o).take (l.length * e) = l.flatMap enc := by
 obtain ⟨_, ⟨a, c, rfl, hn, _⟩ | ⟨b, o, ro, row, h1, h2⟩⟩ := r.rd h
 ·omega
 ·exact ⟨b, o, ro, row, h1, h2⟩
theorem TA [E : Enc enc e] {row : List Value} {o i g : Nat} (h : (row.drop o).take (l.length * e) = l.flatMap enc) (hi : i < l.length) (hg : g < e) : row[o + i * e + g]? = (enc l[i])[g]? := by
 rw [← Cd E.len l i hi g hg, ← h];have hm : (i + 1) * e ≤ l.length * e := Nat.mul_le_mul_right _ (by omega);rw [Nat.add_mul] at hm;rw [List.getElem?_take, if_pos (by omega), List.getElem?_drop]
 congr 1; omega
theorem aeR {i g : Nat} {kk : IntKind} {v : Value} (h : ac P H) [r : Rd P s e enc l] [E : Enc enc e] (hi : i < l.length) (hg : g < e) (hv : (enc l[i])[g]? = some v) {R' : Type} {p : List Stp} (hp : p = [.i e (.int kk (i : Int)), .f g] ∨ p = [.i e (.int kk (i : Int))] ∧ g = 0) {k : Value → Option R'} :
 ld p s H k = k v := by
 obtain ⟨b, o, ro, row, rfl, h2, h3, h4⟩ := C2 (s := s) (enc := enc) (l := l) h hi
 have hend : ad p (.slice (some ⟨b, o, none⟩) l.length e) = fun k' : Value → Option R' => k' (pP b (o + i * e + g)) := by
  rcases hp with rfl | ⟨rfl, rfl⟩
  ·funext k'; rw [UB hi, anO]; rfl
  ·funext k'; rw [UB hi]; rfl
 unfold ld;rw [hend];show (au (pP b (o + i * e + g)) H).bind k = k v
 have : au (pP b (o + i * e + g)) H = some v := by
  simp only [au, tN, dq, bo, h2];rw [TA h4 hi hg, hv]
 rw [this]; rfl
theorem IX {k : Value → OV} {i g : Nat} {kk : IntKind} {v : Value} (h : ac P H) [r : Rd P s e enc l] [E : Enc enc e] (hi : i < l.length) (hg : g < e) (hv : (enc l[i])[g]? = some v) (hk : wp (k v) Q) : wp (ld [.i e (.int kk (i : Int)), .f g] s H k) Q := by
 rw [aeR h hi hg hv (.inl rfl)]; exact hk
theorem fp {k : Value → OV} {i : Nat} {kk : IntKind} {v : Value} {enc : α → List Value} (h : ac P H) [r : Rd P s 1 enc l] [E : Enc enc 1] (hi : i < l.length) (hv : enc l[i] = [v]) (hk : wp (k v) Q) : wp (ld [.i 1 (.int kk (i : Int))] s H k) Q := by
 rw [aeR (g := 0) (v := v) h hi (by omega) (by rw [hv]; rfl) (.inr ⟨rfl, rfl⟩)]; exact hk
theorem yf {k : Value → OV} {i : Nat} {kk : IntKind} (h : ac P H) [r : Rd P s e enc l] [E : Enc enc e] (hi : i < l.length) (hk : wp (k (.agg (enc l[i]).toArray)) Q) : wp (ldN e [.i e (.int kk (i : Int))] s H k) Q := by
 obtain ⟨b, o, ro, row, rfl, h2, h3, h4⟩ := C2 (s := s) (enc := enc) (l := l) h hi;unfold ldN;rw [UB hi];have hm : (i + 1) * e ≤ l.length * e := Nat.mul_le_mul_right _ (by omega);rw [Nat.add_mul] at hm
 have : aC e (pP b (o + i * e)) H = some (.agg (enc l[i]).toArray) := by
  simp only [aC, tN, dq, bo, h2];rw [if_pos (by omega)]
  congr 3
  rw [← Hz E.len l i hi, ← h4, List.drop_take, List.drop_drop, List.take_take, Nat.min_eq_left (by omega)]
 show wp ((aC e (pP b (o + i * e)) H).bind k) Q;rw [this]; exact hk
theorem aeS {lo hi : Option Value} {a b : Nat} (h : ac P H) [r : Rd P s e enc l] [E : Enc enc e] (hlo : (lo = none ∧ a = 0) ∨ ∃ k, lo = some (.int k (a : Int))) (hhi : (hi = none ∧ b = l.length) ∨ ∃ k, hi = some (.int k (b : Int))) (h1 : a ≤ b) (h2 : b ≤ l.length) (h0 : 0 < l.length) :
 ∃ s', ec e s lo hi = some s' ∧ Rd P s' e enc ((l.take b).drop a) := by
 have hlen : ((l.take b).drop a).length = b - a := by rw [List.length_drop, List.length_take, Nat.min_eq_left h2]
 have hfl : (((l.take b).drop a).flatMap enc).length = (b - a) * e := by rw [jZ E.len, hlen]
 have hsub : ((l.take b).drop a).flatMap enc = ((l.flatMap enc).drop (a * e)).take ((b - a) * e) := by
  have e2 : (l.drop a).take (b - a) = (l.take b).drop a := by rw [List.drop_take]
  rw [WD E.len, ← e2]
  have gen : ∀ (m : List α) (k : Nat), k ≤ m.length → (m.take k).flatMap enc = (m.flatMap enc).take (k * e) := by
   intro m
   induction m with
   | nil => intro k hk; simp
   | cons x m ih =>
    intro k hk
    cases k with
    | zero => simp
    | succ k =>
     rw [List.take_succ_cons, List.flatMap_cons, List.flatMap_cons, ih k (by simpa using hk), List.take_append, E.len, List.take_of_length_le (l := enc x) (by rw [E.len, Nat.add_mul]; omega)]
     congr 2
     rw [Nat.add_mul, Nat.one_mul, Nat.add_sub_cancel]
  exact gen _ _ (by rw [List.length_drop]; omega)
 obtain ⟨h0, ⟨a0, c, rfl, hn, hc0, ha0⟩ | ⟨b0, o, ro, row, rfl, _⟩⟩ := r.rd h
 ·omega
 ·refine ⟨.slice (some ⟨b0, o + a * e, none⟩) (b - a) e, ?_, ⟨fun {H'} h' => ?_⟩⟩
  ·have hpos := E.pos
   have hab : (0 : Int) ≤ a ∧ (a : Int) ≤ b ∧ (b : Int) ≤ l.length := by omega
   rcases hlo with ⟨rfl, rfl⟩ | ⟨k1, rfl⟩ <;> rcases hhi with ⟨rfl, rfl⟩ | ⟨k2, rfl⟩ <;> simp only [ec, my, bo]
   ·rw [if_pos (by omega)]; simp [hpos]
   ·rw [if_pos (by omega)]; simp [hpos]
   ·rw [if_pos (by omega)]; simp [hpos]
   ·rw [if_pos (by omega)]; simp [hpos]
  ·obtain ⟨h0', hr⟩ := r.rd h'
   refine ⟨by rw [hfl, hlen], .inr ?_⟩
   rcases hr with ⟨a1, c1, e1, hn, _, _⟩ | ⟨b1, o1, ro1, row1, e1, g1, g2, g3⟩
   ·omega
   ·obtain ⟨rfl, rfl⟩ : b1 = b0 ∧ o1 = o := by
     have := e1; simp at this; exact ⟨this.1.symm, this.2.symm⟩
    have hm : b * e ≤ l.length * e := Nat.mul_le_mul_right _ h2;have hm2 : a * e ≤ b * e := Nat.mul_le_mul_right _ h1;have hm3 : (b - a) * e = b * e - a * e := Nat.sub_mul ..;rw [hlen];refine ⟨b1, o1 + a * e, ro1, row1, rfl, g1, by omega, ?_⟩;rw [hsub, ← g3, List.drop_take, List.drop_drop, List.take_take, Nat.min_eq_left (by omega)]
end
def WB (H0 : AH) : SP := fun h => h = fun i => H0.get i
theorem WC (H0 : AH) : ac (WB H0) H0 := ⟨_, rfl, fun i o h => h⟩
class Fx (P : SP) (H0 : AH) : Prop where
 fx : ∀ {H : AH}, ac P H → ∀ b o, H0.get b = some o → H.get b = some o
instance Fx.refl (H0 : AH) : Fx (WB H0) H0 := ⟨by
 rintro H ⟨x, hx, hg⟩ b o hb
 have hx : x = _ := hx
 exact hg b o (by rw [hx]; exact hb)⟩
instance Fx.left (P Q : SP) (H0 : AH) [f : Fx P H0] : Fx (P * Q) H0 := ⟨fun h => f.fx h.left⟩
instance Fx.right (P Q : SP) (H0 : AH) [f : Fx Q H0] : Fx (P * Q) H0 := ⟨fun h => f.fx h.right⟩
theorem j6.flat {α : Type} {R : α → List Value → Prop} {enc : α → List Value} (hf : ∀ x c, R x c → c = enc x) {l : List α} {row : List Value} (h : j6 R l row) : row = l.flatMap enc := by
 induction h with
 | nil => rfl
 | cons h1 _ ih => rw [hf _ _ h1, ih]; rfl
theorem Rd.arg {H0 : AH} {t : Ty} {enc : t.I → List Value} {l : List t.I} {v : Value} [E : Enc enc t.w] (hf : ∀ x c, Abs H0 t x c → c = enc x) (h : Abs H0 (.slice t) l [v]) : Rd (WB H0) v t.w enc l := ⟨fun {H} hH => by
 refine ⟨jZ E.len l, ?_⟩
 rcases h with ⟨rfl, e⟩ | ⟨rfl, b, e⟩ | ⟨b, row, h1, e, h3, _⟩
 ·obtain rfl : v = .slice none 0 0 := by simpa using e
  exact .inl ⟨none, 0, rfl, rfl, fun _ => rfl, fun x hx => by cases hx⟩
 ·obtain rfl : v = .slice (some ⟨b, 0, none⟩) 0 0 := by simpa using e
  exact .inl ⟨_, 0, rfl, rfl, (fun h => by cases h), fun x hx => ⟨b, 0, (fi hx).symm⟩⟩
 ·obtain rfl : v = .slice (some ⟨b, 0, none⟩) l.length t.w := by simpa using e
  have hrow := h3.flat hf;refine .inr ⟨b, 0, true, row, rfl, (Fx.refl H0).fx hH b _ h1, ?_, ?_⟩
  ·rw [hrow, jZ E.len]; omega
  ·rw [List.drop_zero, hrow, ← jZ E.len l, List.take_length]⟩
section
variable {α : Type} {P R : SP} {H : AH} {e : Nat} {enc : α → List Value} {l m : List α} {s x : Value} {Q : Value → AH → Prop}
theorem IW {bytes : Nat} {kk : Value × AH → OV} (h : ac P H) [f : Ts P s α e enc l R] [rd : Rd R x e enc m] [E : Enc enc e] (hr : (l.length + m.length) * bytes ≤ room) (hb : 0 < bytes)
 (hk : ∀ v H', ac (ts e enc v (l ++ m) * R) H' → wp (kk (v, H')) Q) : wp ((dN e bytes s x H).bind kk) Q := by
 have h' : ac (ts e enc s l * R) H := by rw [← f.eq]; exact h
 obtain ⟨hc, ⟨a, c, rfl, hn, _, hax⟩ | ⟨b, o, ro, row, rfl, hg, hle, hrow⟩⟩ := rd.rd h'.right
 ·have hm : m = [] := List.eq_nil_of_length_eq_zero hn
  subst hm
  have hpr : kL e (.slice a 0 c) H = some (0, []) := by
   cases a with
   | none => simp [kL]
   | some y => obtain ⟨b, o, rfl⟩ := hax y rfl; simp [kL]
  unfold dN;rw [hpr];simp only [bo];rw [if_pos ⟨rfl, E.pos⟩]
  rcases r8 h' with ⟨rfl, h2, h3, h4⟩ | ⟨b', rfl, h2, h4⟩
  ·simp only [and_self, if_true, bo]
   refine hk _ _ ?_;rw [List.append_nil]; exact h'
  ·simp only [if_true, bo]
   refine hk _ _ ?_;rw [List.append_nil]; exact h'
 ·by_cases hm0 : m.length = 0
  ·have hm : m = [] := List.eq_nil_of_length_eq_zero hm0
   subst hm;unfold dN
   have hpr : kL e (.slice (some ⟨b, o, none⟩) ([] : List α).length e) H = some (0, []) := by simp [kL]
   rw [hpr];simp only [bo];rw [if_pos ⟨rfl, E.pos⟩]
   rcases r8 h' with ⟨rfl, h2, h3, h4⟩ | ⟨b', rfl, h2, h4⟩
   ·simp only [and_self, if_true, bo]
    refine hk _ _ ?_;rw [List.append_nil]; exact h'
   ·simp only [if_true, bo]
    refine hk _ _ ?_;rw [List.append_nil]; exact h'
  ·have hpr : kL e (.slice (some ⟨b, o, none⟩) m.length e) H = some (m.length, m.flatMap enc) := by
    simp only [kL, dq, hg, bo];rw [if_neg hm0, if_pos hle, hrow]
   have hall : (m.flatMap enc).all Value.oneCell' = true := by
    rw [List.all_eq_true];intro y hy;obtain ⟨z, _, hz⟩ := List.mem_flatMap.1 hy;exact List.all_eq_true.1 (E.one z) y hz
   have hroom : l.length + m.length ≤ (l.length + m.length) * bytes := Nat.le_mul_of_pos_right _ hb;unfold dN;rw [hpr];simp only [bo];rw [if_pos ⟨hall, E.pos⟩]
   have e1 : (l ++ m).length = l.length + m.length := by simp
   have e2 : (l ++ m).flatMap enc = l.flatMap enc ++ m.flatMap enc := by simp
   have hmul : (l.length + m.length) * e = l.length * e + m.length * e := Nat.add_mul ..
   rcases r8 h' with ⟨rfl, h2, h3, h4⟩ | ⟨b', rfl, h2, h4⟩
   ·simp only [and_self, if_true]
    rw [h2, Nat.zero_add] at hr hroom;rw [if_neg hm0, if_pos ⟨hr, by omega⟩];simp only [bo];refine hk _ _ ?_;unfold ts;rw [e1, e2, h3, h2, List.nil_append, Nat.zero_add];exact wi hc (h4.push _)
   ·have hgb := h4.left.get
    have hpos := E.pos;simp only;rw [if_neg hm0, if_neg (by omega), hgb];simp only;rw [if_pos ⟨trivial, by omega, hr, by omega⟩];simp only [bo, List.drop_zero];rw [← h2, List.take_length];have h5 := h4.dead.push (.cells false (l.flatMap enc ++ m.flatMap enc));rw [AH.size_set] at h5;refine hk _ _ ?_;unfold ts;rw [e1, e2];exact wi (by rw [dh, h2, hc]; omega) h5
theorem C3 {z : α} {zero : List Value} (hz : enc z = zero) : ∀ n : Nat, (List.replicate n zero).flatten = (List.replicate n z).flatMap enc := by
 intro n
 induction n with
 | zero => rfl
 | succ n ih => rw [List.replicate_succ, List.replicate_succ, List.flatten_cons, List.flatMap_cons, ih, hz]
theorem DF {zero : List Value} {bytes n : Nat} {kk : Value × AH → OV} (z : α) (h : ac P H) [E : Enc enc e] (hz : enc z = zero) (hr : n * bytes ≤ room) (hb : 0 < bytes) (hk : ∀ b H', ac (ts e enc (vs b n e) (List.replicate n z) * P) H' → wp (kk (vs b n e, H')) Q) :
 wp ((kB zero e bytes (vi n) (vi n) H).bind kk) Q := by
 have hroom : n ≤ n * bytes := Nat.le_mul_of_pos_right _ hb
 have hz2 : zero.length = e := by rw [← hz, E.len]
 unfold kB;simp only [nK];rw [if_pos ⟨by omega, trivial, hr, by omega, E.pos, hz2⟩];simp only [bo];refine hk _ _ ?_;have h2 := h.push (.cells false (List.replicate n zero).flatten);rw [C3 hz] at h2 ⊢;have h3 := Ak (e := e) (enc := enc) (l := List.replicate n z) h2;rw [List.length_replicate] at h3;exact h3
end
class KeyE {κ : Type} [DecidableEq κ] (cl : outParam KCls) (ek : κ → Value) : Prop where
 eq : ∀ a b, j0 cl (ek a) (ek b) = some (decide (a = b))
 ok : ∀ a, ir cl (ek a) = true
inductive Ents {κ : Type} (ek : κ → Value) : List (κ × Value) → List MapEntry → Prop
 | nil : Ents ek [] []
 | cons {p : κ × Value} {l : List (κ × Value)} {e : MapEntry} {es : List MapEntry} (h1 : e.key = ek p.1) (h2 : e.val = p.2) (k : Ents ek l es) : Ents ek (p :: l) (e :: es)
section
variable {κ : Type} [DecidableEq κ] {ek : κ → Value} {cl : KCls}
def HO : List (κ × Value) → κ → Option Value
 | [], _ => none
 | p :: al, k => if k = p.1 then some p.2 else HO al k
def HP : List (κ × Value) → κ → Value → List (κ × Value)
 | [], k, v => [(k, v)]
 | p :: al, k, v => if k = p.1 then (k, v) :: al else p :: HP al k v
theorem ac1 (k : κ) (v : Value) (x : κ) : ∀ al, HO (HP al k v) x = if x = k then some v else HO al x := by
 intro al
 induction al with
 | nil => simp only [HP, HO]
 | cons p al ih =>
  simp only [HP]
  by_cases hk : k = p.1
  ·rw [if_pos hk]
   simp only [HO]
   by_cases hx : x = k
   ·simp [hx]
   ·have : ¬ x = p.1 := by rw [← hk]; exact hx
    simp [hx, this]
  ·rw [if_neg hk]
   simp only [HO, ih]
   by_cases hx : x = p.1
   ·have : ¬ x = k := by rw [hx]; exact fun h => hk h.symm
    simp [hx];intro h; exact absurd h.symm hk
   ·simp [hx]
theorem al9 [K : KeyE cl ek] {al : List (κ × Value)} {es : List MapEntry} (h : Ents ek al es) (k : κ) : ∀ i, ∃ r, aV cl (ek k) es i = some r ∧ r.map (·.2) = HO al k := by
 induction h with
 | nil => intro i; exact ⟨none, rfl, rfl⟩
 | @cons p l e es h1 h2 _ ih =>
  intro i;simp only [aV, h1, K.eq, bo, HO]
  by_cases hp : k = p.1
  ·rw [if_pos (by simp [hp]), if_pos hp]
   exact ⟨_, rfl, by simp [h2]⟩
  ·rw [if_neg (by simp [hp]), if_neg hp]
   exact ih (i + 1)
theorem an8 [K : KeyE cl ek] {al : List (κ × Value)} {es : List MapEntry} (h : Ents ek al es) (k : κ) (v : Value) : ∀ i, match aV cl (ek k) es i with
 | some (some (j, _)) => i ≤ j ∧ Ents ek (HP al k v) (es.modify (j - i) fun e => { e with key := ek k, val := v })
 | some none => ∀ born, Ents ek (HP al k v) (es ++ [{ key := ek k, val := v, born := born }])
 | none => False := by
 induction h with
 | nil => intro i born; exact .cons rfl rfl .nil
 | @cons p l e es h1 h2 hh ih =>
  intro i;simp only [aV, h1, K.eq, bo, HP]
  by_cases hp : k = p.1
  ·rw [if_pos (show decide (k = p.1) = true by simp [hp]), if_pos hp]
   refine ⟨bj _, ?_⟩;simp only [Nat.sub_self];exact .cons rfl rfl hh
  ·rw [if_neg (show ¬ decide (k = p.1) = true by simp [hp]), if_neg hp]
   have hi := ih (i + 1)
   cases hf : aV cl (ek k) es (i + 1) with
   | none => rw [hf] at hi; exact hi
   | some r =>
    rw [hf] at hi
    cases r with
    | none => intro born; exact .cons h1 h2 (hi born)
    | some r =>
     obtain ⟨j, v'⟩ := r;simp only at hi ⊢;refine ⟨by omega, ?_⟩;rw [show j - i = (j - (i + 1)) + 1 from by omega];exact .cons h1 h2 hi.2
def YH (ek : κ → Value) (b : Nat) (f : κ → Option Value) : SP := ex fun g : List (κ × Value) × List MapEntry × Nat => pu (Ents ek g.1 g.2.1 ∧ ∀ k, HO g.1 k = f k) * blk b (.map g.2.1 g.2.2)
class Mp (P : SP) (b : Nat) {κ : Type} [DecidableEq κ] (ek : κ → Value) (f : outParam (κ → Option Value)) (R : outParam SP) : Prop where
 eq : P = YH ek b f * R
instance (priority := high) Mp.refl {κ : Type} [DecidableEq κ] (b : Nat) (ek : κ → Value) (f : κ → Option Value) : Mp (YH ek b f) b ek f emp := ⟨(eN _).symm⟩
instance Mp.left {κ : Type} [DecidableEq κ] (P Q R : SP) (b : Nat) (ek : κ → Value) (f : κ → Option Value) [h : Mp P b ek f R] : Mp (P * Q) b ek f (R * Q) := ⟨by rw [h.eq, ar]⟩
instance Mp.right {κ : Type} [DecidableEq κ] (P Q R : SP) (b : Nat) (ek : κ → Value) (f : κ → Option Value) [h : Mp Q b ek f R] : Mp (P * Q) b ek f (P * R) := ⟨by rw [h.eq, bD]⟩
theorem ST {R : SP} {H : AH} {b : Nat} (ek : κ → Value) (h : ac (blk b (.map [] 0) * R) H) : ac (YH ek b (fun _ => none) * R) H :=
 ac.ex.2 ⟨([], [], 0), by rw [ar]; exact ac.pu.2 ⟨⟨.nil, fun _ => rfl⟩, h⟩⟩
theorem Ul {P R : SP} {H : AH} {b : Nat} {f : κ → Option Value} {zero : Value} {kk : Value → OV} {Q : Value → AH → Prop} [K : KeyE cl ek] (k : κ) (h : ac P H) [m : Mp P b ek f R]
 (hk : wp (kk ((f k).getD zero)) Q) : wp ((cu cl zero (.map (some b)) (ek k) false H).bind kk) Q := by
 have h' : ac (YH ek b f * R) H := by rw [← m.eq]; exact h
 obtain ⟨⟨al, es, c⟩, h'⟩ := ac.ex.1 h';rw [ar, ac.pu] at h';obtain ⟨⟨he, hf⟩, h'⟩ := h';dsimp only at he hf h';obtain ⟨r, h1, h2⟩ := al9 he k 0;refine aa ?_ hk;unfold cu;rw [if_pos (K.ok k)];simp only [jD, h'.left.get, bo, h1, dP];rw [← hf k, ← h2]
 cases r <;> rfl
theorem agM {P R : SP} {H : AH} {b : Nat} {f : κ → Option Value} {kk : AH → OV} {Q : Value → AH → Prop} [K : KeyE cl ek] (k : κ) (v : Value) (h : ac P H) [m : Mp P b ek f R]
 (hk : ∀ H', ac (YH ek b (fun x => if x = k then some v else f x) * R) H' → wp (kk H') Q) : wp ((dG cl (.map (some b)) (ek k) v H).bind kk) Q := by
 have h' : ac (YH ek b f * R) H := by rw [← m.eq]; exact h
 obtain ⟨⟨al, es, c⟩, h'⟩ := ac.ex.1 h';rw [ar, ac.pu] at h';obtain ⟨⟨he, hf⟩, h'⟩ := h';dsimp only at he hf h';have hu := an8 he k v 0;unfold dG;rw [if_pos (K.ok k)];simp only [h'.left.get]
 have fin : ∀ {es' : List MapEntry} {c' : Nat}, Ents ek (HP al k v) es' → ac (YH ek b (fun x => if x = k then some v else f x) * R) (H.set b (.map es' c')) := fun {es'} {c'} he' =>
  ac.ex.2 ⟨(HP al k v, es', c'), by
   rw [ar]
   exact ac.pu.2 ⟨⟨he', fun x => by rw [ac1, hf]⟩, h'.set _⟩⟩
 cases hf' : aV cl (ek k) es 0 with
 | none => rw [hf'] at hu; exact absurd hu id
 | some r =>
  rw [hf'] at hu
  cases r with
  | none =>
   simp only [dP, bo];exact hk _ (fin (hu c))
  | some r =>
   obtain ⟨j, v'⟩ := r;simp only [dP, bo];exact hk _ (fin hu.2)
end
section
variable {cl : TCls} {w : Nat}
theorem ak8 : aj cl .shr (vu w) (vw 61) = some (vu (w / 2305843009213693952)) := by
 have := wE (cl := cl) (a := w) (k := .u64) (n := 61) (by omega)
 simpa using this
theorem aoO : aj cl .shr (vu w) (vw 32) = some (vu (w / 4294967296)) := by
 have := wE (cl := cl) (a := w) (k := .u64) (n := 32) (by omega)
 simpa using this
theorem Qg (k : Nat) (hw : w < 18446744073709551616) (hk : 2 ^ k - 1 < 18446744073709551616) : aj cl .and (vu w) (.int .u64 ((2 ^ k - 1 : Nat) : Int)) = some (vu (w % 2 ^ k)) := by
 have := ahJ (cl := cl) hw hk;rw [Nat.and_two_pow_sub_one_eq_mod] at this;exact this
theorem anQ (hw : w < 18446744073709551616) : aj cl .and (vu w) (vw 2305843009213693951) = some (vu (w % 2305843009213693952)) := by
 have := Qg (cl := cl) 61 hw (by omega)
 simpa using this
theorem anP (hw : w < 18446744073709551616) : aj cl .and (vu w) (vw 4294967295) = some (vu (w % 4294967296)) := by
 have := Qg (cl := cl) 32 hw (by omega)
 simpa using this
theorem TB (n : Nat) (h : n ≠ 0) : aj cl .rem (vu w) (.int .u64 (n : Int)) = some (vu (w % n)) := ip h
theorem ak5 (n : Nat) (h : n ≠ 0) (hw : w < 18446744073709551616) : aj cl .quo (vu w) (.int .u64 (n : Int)) = some (vu (w / n)) := Eo h hw
theorem ak1 (n : Nat) : aj cl .mul (vu w) (.int .u64 (n : Int)) = some (vu (w * n % 18446744073709551616)) := UJ
theorem aoC (h : w * 2305843009213693952 < 18446744073709551616) : aj cl .mul (vu w) (vw 2305843009213693952) = some (vu (w * 2305843009213693952)) := by
 have := ak1 (cl := cl) (w := w) 2305843009213693952;rw [Nat.mod_eq_of_lt h] at this
 simpa using this
theorem aoB : aj cl .mul (vu w) (vw 4294967296) = some (vu (w * 4294967296 % 18446744073709551616)) := by
 have := ak1 (cl := cl) (w := w) 4294967296
 simpa using this
theorem aoJ : aj cl .rem (vu w) (vw 2305843009213693952) = some (vu (w % 2305843009213693952)) := by
 have := TB (cl := cl) (w := w) 2305843009213693952 (by omega)
 simpa using this
theorem aoG (hw : w < 18446744073709551616) : aj cl .quo (vu w) (vw 2305843009213693952) = some (vu (w / 2305843009213693952)) := by
 have := ak5 (cl := cl) (w := w) 2305843009213693952 (by omega) hw
 simpa using this
theorem aoI : aj cl .rem (vu w) (vw 4294967296) = some (vu (w % 4294967296)) := by
 have := TB (cl := cl) (w := w) 4294967296 (by omega)
 simpa using this
theorem aoF (hw : w < 18446744073709551616) : aj cl .quo (vu w) (vw 4294967296) = some (vu (w / 4294967296)) := by
 have := ak5 (cl := cl) (w := w) 4294967296 (by omega) hw
 simpa using this
theorem fV {w : Nat} (hw : w < 9223372036854775808) : bI (some .i64) (vu w) = some (vi (w : Int)) := by
 simp only [bI];rw [n6 (by omega) (by omega)]
theorem cP {n : Int} (h0 : 0 ≤ n) (h1 : n < 18446744073709551616) : bI (some .u64) (vi n) = some (vu n.toNat) := by
 simp only [bI];rw [lp h0 h1];show _ = some (Value.int .u64 ((n.toNat : Nat) : Int));rw [Int.toNat_of_nonneg h0]
end
theorem ak3 {cl : TCls} {a b : Nat} : aj cl .neq (vu a) (vu b) = some (vb (a != b)) := by
 rw [zI]
 congr 2
 rw [Bool.eq_iff_iff];simp;omega
theorem akJ {cl : TCls} {a b : Nat} : aj cl .eql (vu a) (vu b) = some (vb (a == b)) := by
 rw [dQ]
 congr 2
 rw [Bool.eq_iff_iff];simp;omega
theorem akG {cl : TCls} {a b : Nat} : aj cl .add (vu a) (vu b) = some (vu ((a + b) % 18446744073709551616)) := by
 simp only [aj, l7, if_true];rw [DJ];simp
theorem Zw (a b : b7) : aj (.flat 3) .eql (.agg #[vi a.1, vi a.2.1, vi a.2.2]) (.agg #[vi b.1, vi b.2.1, vi b.2.2]) = some (vb (a == b)) := by
 show (oN (.flat 3) (.agg #[vi a.1, vi a.2.1, vi a.2.2]) (.agg #[vi b.1, vi b.2.1, vi b.2.2])).map (fun b => Value.bool b) = _;simp only [oN];rw [if_pos ⟨rfl, rfl⟩];simp only [bq, if_true, dP, Bool.and_true]
 rfl
theorem jf {cl : TCls} {a b : Int} (h0 : -9223372036854775808 ≤ a * b) (h1 : a * b < 9223372036854775808) : aj cl .mul (vi a) (vi b) = some (vi (a * b)) := by simp only [aj, l7, if_true, n6 h0 h1]
section
variable {cl : TCls} {k : IntKind} {a b : Int}
theorem bO (h : a < b) : aj cl .lss (.int k a) (.int k b) = some (vb true) := by rw [rx, iy h]
theorem bu (h : ¬ a < b) : aj cl .lss (.int k a) (.int k b) = some (vb false) := by rw [rx, gU h]
theorem SO (h : a ≤ b) : aj cl .leq (.int k a) (.int k b) = some (vb true) := by rw [Qt, iy h]
theorem SN (h : ¬ a ≤ b) : aj cl .leq (.int k a) (.int k b) = some (vb false) := by rw [Qt, gU h]
theorem nI (h : b < a) : aj cl .gtr (.int k a) (.int k b) = some (vb true) := by rw [F1, iy h]
theorem gh (h : ¬ b < a) : aj cl .gtr (.int k a) (.int k b) = some (vb false) := by rw [F1, gU h]
theorem yw (h : b ≤ a) : aj cl .geq (.int k a) (.int k b) = some (vb true) := by rw [zH, iy h]
theorem nH (h : ¬ b ≤ a) : aj cl .geq (.int k a) (.int k b) = some (vb false) := by rw [zH, gU h]
theorem bF (h : a = b) : aj cl .eql (.int k a) (.int k b) = some (vb true) := by rw [dQ, beq_iff_eq.2 h]
theorem aQ (h : ¬ a = b) : aj cl .eql (.int k a) (.int k b) = some (vb false) := by rw [dQ, beq_eq_false_iff_ne.2 h]
theorem SY (h : ¬ a = b) : aj cl .neq (.int k a) (.int k b) = some (vb true) := by rw [zI, bne_iff_ne.2 h]
theorem yC (h : a = b) : aj cl .neq (.int k a) (.int k b) = some (vb false) := by
 rw [zI];simp [h]
end
theorem DZ {c : Bool} {e : Option Value} {v : Value} (h : e = some v) : gB (vb c) c e = some v := by
 cases c <;> (rw [h]; rfl)
theorem akW {v : Value} : gV (vb true) true v = some v := rfl
theorem akT {v : Value} : gV (vb false) false v = some v := rfl
theorem akV {v : Value} : gV (vb true) false v = some undef := rfl
theorem akU {v : Value} : gV (vb false) true v = some undef := rfl
theorem akS {e : Option Value} : gB (vb true) false e = some undef := rfl
theorem akR {e : Option Value} : gB (vb false) true e = some undef := rfl
section
variable {H : AH} {e : Option (Value × AH)} {k : Value × AH → OV} {Q : Value → AH → Prop} {x : Option Value} {kv : Value → OV}
theorem IV (h : wp (e.bind k) Q) : wp ((gE (vb true) true H e).bind k) Q := h
theorem mI (h : wp (e.bind k) Q) : wp ((gE (vb false) false H e).bind k) Q := h
theorem Ug (h : wp (k (undef, H)) Q) : wp ((gE (vb true) false H e).bind k) Q := h
theorem Uf (h : wp (k (undef, H)) Q) : wp ((gE (vb false) true H e).bind k) Q := h
theorem LU (h : wp (x.bind kv) Q) : wp ((ue (yv (vb true)) true x (some undef)).bind kv) Q := h
theorem DG (h : wp (x.bind kv) Q) : wp ((ue (yv (vb false)) false x (some undef)).bind kv) Q := h
theorem LT (h : wp (kv undef) Q) : wp ((ue (yv (vb true)) false x (some undef)).bind kv) Q := h
theorem LS (h : wp (kv undef) Q) : wp ((ue (yv (vb false)) true x (some undef)).bind kv) Q := h
end
theorem Kk (c : Bool) (e : Option Value) : gB (vb c) c e = e := by cases c <;> cases e <;> rfl
theorem qn {R : Type} (c : Bool) (k : Value → Option R) : ∀ (p : List Stp) (x : Value), yX (vb c) c p x k = ad p x k := by
 intro p
 induction p with
 | nil => intro x; rfl
 | cons s p ih => intro x; cases s <;> simp only [yX, ad, Kk, ih]
theorem SD {R : Type} (c : Bool) (k : Value → Option R) (hk : ∀ x, k x = k undef) : ∀ (p : List Stp) (x : Value), yX (vb c) (!c) p x k = k undef := by
 intro p
 induction p with
 | nil => intro x; exact hk x
 | cons s p ih => intro x; cases c <;> cases s <;> exact ih undef
section
variable {H : AH} {p : List Stp} {x : Value} {k : Value → OV} {Q : Value → AH → Prop} {n : Nat}
theorem acO {R : Type} (c : Bool) (k : Value → Option R) : fG (vb c) c p x H k = ld p x H k := by simp only [fG, ld, qn, Kk]
theorem SE {R : Type} (c : Bool) (k : Value → Option R) : pE (vb c) c n p x H k = ldN n p x H k := by simp only [pE, ldN, qn, Kk]
theorem SF {R : Type} (c : Bool) (k : Value → Option R) : fG (vb c) (!c) p x H k = k undef := by
 unfold fG
 rw [SD c _ (fun x => by cases c <;> rfl)]
 cases c <;> rfl
theorem Kl {R : Type} (c : Bool) (k : Value → Option R) : pE (vb c) (!c) n p x H k = k undef := by
 unfold pE
 rw [SD c _ (fun x => by cases c <;> rfl)]
 cases c <;> rfl
theorem agK (h : wp (ld p x H k) Q) : wp (fG (vb true) true p x H k) Q := by rw [acO]; exact h
theorem i7 (h : wp (ld p x H k) Q) : wp (fG (vb false) false p x H k) Q := by rw [acO]; exact h
theorem agJ (h : wp (k undef) Q) : wp (fG (vb true) false p x H k) Q := by rw [show (false : Bool) = !true from rfl, SF]; exact h
theorem agI (h : wp (k undef) Q) : wp (fG (vb false) true p x H k) Q := by rw [show fG (vb false) true p x H k = fG (vb false) (!false) p x H k from rfl, SF]; exact h
theorem Yx (h : wp (ldN n p x H k) Q) : wp (pE (vb true) true n p x H k) Q := by rw [SE]; exact h
theorem Yu (h : wp (ldN n p x H k) Q) : wp (pE (vb false) false n p x H k) Q := by rw [SE]; exact h
theorem Yw (h : wp (k undef) Q) : wp (pE (vb true) false n p x H k) Q := by rw [show pE (vb true) false n p x H k = pE (vb true) (!true) n p x H k from rfl, Kl]; exact h
theorem Yv (h : wp (k undef) Q) : wp (pE (vb false) true n p x H k) Q := by rw [show pE (vb false) true n p x H k = pE (vb false) (!false) n p x H k from rfl, Kl]; exact h
theorem mH {e : Option Value} (h : wp (e.bind k) Q) : wp ((gB (vb true) true e).bind k) Q := by rw [Kk]; exact h
theorem cZ {e : Option Value} (h : wp (e.bind k) Q) : wp ((gB (vb false) false e).bind k) Q := by rw [Kk]; exact h
theorem agH {a b : OV} (h : wp a Q) : wp (aw (vb true) a b) Q := h
theorem DD {a b : OV} (h : wp b Q) : wp (aw (vb false) a b) Q := h
end
theorem apI {b : Bool} {v : Value} : gV undef b v = some undef := rfl
theorem apH {b : Bool} {e : Option Value} : gB undef b e = some undef := rfl
theorem an4 {R : Type} (b : Bool) (k : Value → Option R) (hk : ∀ x, k x = k undef) : ∀ (p : List Stp) (x : Value), yX undef b p x k = k undef := by
 intro p
 induction p with
 | nil => intro x; exact hk x
 | cons s p ih => intro x; cases s <;> exact ih undef
theorem an5 {R : Type} {b : Bool} {p : List Stp} {x : Value} {H : AH} (k : Value → Option R) : fG undef b p x H k = k undef := by
 unfold fG;rw [an4 b _ (fun x => rfl)]
 rfl
theorem ajX {b : Bool} {p : List Stp} {x : Value} {H : AH} {k : Value → OV} {Q : Value → AH → Prop} (h : wp (k undef) Q) : wp (fG undef b p x H k) Q := by rw [an5]; exact h
class Gd (x : OV) (y : outParam OV) : Prop where
 go : ∀ {Q : Value → AH → Prop}, wp y Q → wp x Q
section
variable {a b v : Value} {k : Value → OV} {H : AH} {e : Option (Value × AH)} {e1 : Option Value} {ke : Value × AH → OV} {p : List Stp} {x : Value} {n : Nat} {c : Bool} {o1 o2 : OV}
instance : Gd ((aM (vb true) a b).bind k) (k a) := ⟨aa (aeA _ _)⟩
instance : Gd ((aM (vb false) a b).bind k) (k b) := ⟨aa (kq _ _)⟩
instance : Gd ((gV (vb true) true v).bind k) (k v) := ⟨aa akW⟩
instance : Gd ((gV (vb false) false v).bind k) (k v) := ⟨aa akT⟩
instance : Gd ((gV (vb true) false v).bind k) (k undef) := ⟨aa akV⟩
instance : Gd ((gV (vb false) true v).bind k) (k undef) := ⟨aa akU⟩
instance : Gd ((gB (vb true) false e1).bind k) (k undef) := ⟨aa akS⟩
instance : Gd ((gB (vb false) true e1).bind k) (k undef) := ⟨aa akR⟩
instance : Gd ((gE (vb true) false H e).bind ke) (ke (undef, H)) := ⟨Ug⟩
instance : Gd ((gE (vb false) true H e).bind ke) (ke (undef, H)) := ⟨Uf⟩
instance : Gd ((gE (vb true) true H e).bind ke) (e.bind ke) := ⟨IV⟩
instance : Gd ((gE (vb false) false H e).bind ke) (e.bind ke) := ⟨mI⟩
instance : Gd ((ue (yv (vb true)) false e1 (some undef)).bind k) (k undef) := ⟨LT⟩
instance : Gd ((ue (yv (vb false)) true e1 (some undef)).bind k) (k undef) := ⟨LS⟩
instance : Gd ((ue (yv (vb true)) true e1 (some undef)).bind k) (e1.bind k) := ⟨LU⟩
instance : Gd ((ue (yv (vb false)) false e1 (some undef)).bind k) (e1.bind k) := ⟨DG⟩
instance : Gd (fG (vb true) true p x H k) (ld p x H k) := ⟨agK⟩
instance : Gd (fG (vb false) false p x H k) (ld p x H k) := ⟨i7⟩
instance : Gd (fG (vb true) false p x H k) (k undef) := ⟨agJ⟩
instance : Gd (fG (vb false) true p x H k) (k undef) := ⟨agI⟩
instance : Gd (pE (vb true) true n p x H k) (ldN n p x H k) := ⟨Yx⟩
instance : Gd (pE (vb false) false n p x H k) (ldN n p x H k) := ⟨Yu⟩
instance : Gd (pE (vb true) false n p x H k) (k undef) := ⟨Yw⟩
instance : Gd (pE (vb false) true n p x H k) (k undef) := ⟨Yv⟩
instance : Gd ((gB (vb true) true e1).bind k) (e1.bind k) := ⟨mH⟩
instance : Gd ((gB (vb false) false e1).bind k) (e1.bind k) := ⟨cZ⟩
instance : Gd ((pM .not (vb c)).bind k) (k (vb (!c))) := ⟨aa oW⟩
instance : Gd (aw (vb true) o1 o2) o1 := ⟨agH⟩
instance : Gd (aw (vb false) o1 o2) o2 := ⟨DD⟩
instance : Gd ((gV undef c v).bind k) (k undef) := ⟨aa apI⟩
instance : Gd ((gB undef c e1).bind k) (k undef) := ⟨aa apH⟩
instance : Gd (fG undef c p x H k) (k undef) := ⟨ajX⟩
class Gh (x : OV) (y : outParam OV) : Prop where
 go : ∀ {Q : Value → AH → Prop}, wp y Q → wp x Q
instance : Gh ((aM (vb true) a b).bind k) (k a) := ⟨aa (aeA _ _)⟩
instance : Gh ((aM (vb false) a b).bind k) (k b) := ⟨aa (kq _ _)⟩
instance : Gh ((gV (vb true) true v).bind k) (k v) := ⟨aa akW⟩
instance : Gh ((gV (vb false) false v).bind k) (k v) := ⟨aa akT⟩
instance : Gh ((gV (vb true) false v).bind k) (k undef) := ⟨aa akV⟩
instance : Gh ((gV (vb false) true v).bind k) (k undef) := ⟨aa akU⟩
instance : Gh ((gB (vb true) false e1).bind k) (k undef) := ⟨aa akS⟩
instance : Gh ((gB (vb false) true e1).bind k) (k undef) := ⟨aa akR⟩
instance : Gh ((gE (vb true) false H e).bind ke) (ke (undef, H)) := ⟨Ug⟩
instance : Gh ((gE (vb false) true H e).bind ke) (ke (undef, H)) := ⟨Uf⟩
instance : Gh ((gE (vb true) true H e).bind ke) (e.bind ke) := ⟨IV⟩
instance : Gh ((gE (vb false) false H e).bind ke) (e.bind ke) := ⟨mI⟩
instance : Gh ((ue (yv (vb true)) false e1 (some undef)).bind k) (k undef) := ⟨LT⟩
instance : Gh ((ue (yv (vb false)) true e1 (some undef)).bind k) (k undef) := ⟨LS⟩
instance : Gh ((ue (yv (vb true)) true e1 (some undef)).bind k) (e1.bind k) := ⟨LU⟩
instance : Gh ((ue (yv (vb false)) false e1 (some undef)).bind k) (e1.bind k) := ⟨DG⟩
end
class Gs (x : OV) (y : outParam OV) : Prop where
 go : ∀ {Q : Value → AH → Prop}, wp y Q → wp x Q
class Gt (x : OV) (y : outParam OV) : Prop where
 go : ∀ {Q : Value → AH → Prop}, wp y Q → wp x Q
instance (priority := low) {x : OV} : Gs x x := ⟨id⟩
instance (priority := low) {x : OV} : Gt x x := ⟨id⟩
instance {x y z : OV} [g : Gd x y] [h : Gs y z] : Gs x z := ⟨fun q => g.go (h.go q)⟩
instance {x y z : OV} [g : Gh x y] [h : Gt y z] : Gt x z := ⟨fun q => g.go (h.go q)⟩
theorem gs {x y : OV} [g : Gs x y] {Q : Value → AH → Prop} (h : wp y Q) : wp x Q := g.go h
theorem gt {x y : OV} [g : Gt x y] {Q : Value → AH → Prop} (h : wp y Q) : wp x Q := g.go h
structure Mu where
 V : b7 → Nat
 E : List Ev
 N : Nat
abbrev Mu.log (μ : Mu) (who kind : Int) (at' : b7) : Mu := { μ with E := μ.E ++ [⟨who, kind, at'⟩], N := μ.N + 1 }
abbrev Mu.put (μ : Mu) (at' : b7) (v : Nat) : Mu := { μ with V := fun l => if l = at' then v else μ.V l }
def eS (al : List (b7 × Nat)) (l : b7) : Nat := ((al.find? fun p => p.1 == l).map (·.2)).getD 0
def an0 (p : b7 × Nat) (e : MapEntry) : Prop := e.key = dM p.1 ∧ e.val = .agg #[vu p.2]
inductive EntsOf : List (b7 × Nat) → List MapEntry → Prop
 | nil : EntsOf [] []
 | cons {p : b7 × Nat} {l : List (b7 × Nat)} {e : MapEntry} {es : List MapEntry} (h : an0 p e) (k : EntsOf l es) : EntsOf (p :: l) (e :: es)
theorem E0 (a b : b7) : j0 (.flat 3) (dM a) (dM b) = some (a == b) := by
 simp only [j0, dM];rw [if_pos ⟨rfl, rfl⟩];simp only [bq, if_true, dP, Bool.and_true]
 rfl
theorem Wz {al : List (b7 × Nat)} {es : List MapEntry} (h : EntsOf al es) (l : b7) : ∀ i, ∃ r, aV (.flat 3) (dM l) es i = some r ∧ (match r with
 | some (j, v) => v = .agg #[vu (eS al l)] ∧ i ≤ j ∧ (∃ p, al[j - i]? = some p ∧ p.1 = l) ∧ ∀ q, q < j - i → ∀ p, al[q]? = some p → p.1 ≠ l
 | none => eS al l = 0 ∧ ∀ p ∈ al, p.1 ≠ l) := by
 induction h with
 | nil => intro i; exact ⟨none, rfl, rfl, by simp⟩
 | @cons p al e es h k ih =>
  intro i;simp only [aV];rw [h.1, E0];simp only [bo]
  by_cases hp : p.1 = l
  ·have e1 : (l == p.1) = true := by simp [hp]
   rw [if_pos e1];refine ⟨_, rfl, ?_, bj _, ⟨p, by simp, hp⟩, fun q hq => by omega⟩;rw [h.2];simp [eS, hp]
  ·have e1 : ¬ ((l == p.1) = true) := by simp; exact fun h => hp h.symm
   rw [if_neg e1];obtain ⟨r, h1, h2⟩ := ih (i + 1)
   have hg : eS (p :: al) l = eS al l := by simp [eS, hp]
   refine ⟨r, h1, ?_⟩
   cases r with
   | none =>
    simp only at h2 ⊢;rw [hg]
    exact ⟨h2.1, fun q hq => by
     rcases sm.1 hq with rfl | hq
     ·exact hp
     ·exact h2.2 q hq⟩
   | some r =>
    obtain ⟨j, v⟩ := r;simp only at h2 ⊢;rw [hg];obtain ⟨a1, a2, ⟨p', a3, a4⟩, a5⟩ := h2;refine ⟨a1, by omega, ⟨p', ?_, a4⟩, fun q hq p'' hp'' => ?_⟩
    ·rw [show j - i = (j - (i + 1)) + 1 from by omega]; exact a3
    ·cases q with
     | zero => simp at hp''; rw [← hp'']; exact hp
     | succ q => exact a5 q (by omega) p'' (by simpa using hp'')
def me : List (b7 × Nat) → b7 → Nat → List (b7 × Nat)
 | [], l, v => [(l, v)]
 | p :: al, l, v => if p.1 = l then (l, v) :: al else p :: me al l v
theorem dL (p : b7 × Nat) (al : List (b7 × Nat)) (l : b7) : eS (p :: al) l = if p.1 = l then p.2 else eS al l := by
 unfold eS
 by_cases h : p.1 = l
 ·simp [h]
 ·simp [h]
theorem El (l : b7) (v : Nat) (x : b7) : ∀ al, eS (me al l v) x = if x = l then v else eS al x := by
 intro al
 induction al with
 | nil =>
  simp only [me, dL]
  by_cases h : l = x
  ·simp [h]
  ·have : ¬ x = l := fun e => h e.symm
   simp [h, this]
 | cons p al ih =>
  simp only [me]
  by_cases hp : p.1 = l
  ·rw [if_pos hp, dL, dL]
   by_cases h : l = x
   ·simp [h]
   ·have h2 : ¬ x = l := fun e => h e.symm
    simp [h, h2, hp]
  ·rw [if_neg hp, dL, dL, ih]
   by_cases h : p.1 = x
   ·have h2 : ¬ x = l := fun e => hp (h.trans e)
    simp [h, h2]
   ·simp [h]
theorem agC {al : List (b7 × Nat)} {es : List MapEntry} (h : EntsOf al es) (l : b7) (v : Nat) : ∀ i, match aV (.flat 3) (dM l) es i with
 | some (some (j, _)) => i ≤ j ∧ EntsOf (me al l v) (es.modify (j - i) fun e => { e with key := dM l, val := .agg #[vu v] })
 | some none => ∀ born, EntsOf (me al l v) (es ++ [{ key := dM l, val := .agg #[vu v], born := born }])
 | none => False := by
 induction h with
 | nil => intro i born; exact .cons ⟨rfl, rfl⟩ .nil
 | @cons p al e es h k ih =>
  intro i;simp only [aV];rw [h.1, E0];simp only [bo]
  by_cases hp : p.1 = l
  ·have e1 : (l == p.1) = true := by simp [hp]
   rw [if_pos e1];simp only [me, if_pos hp];refine ⟨bj _, ?_⟩;simp only [Nat.sub_self];exact .cons ⟨rfl, rfl⟩ k
  ·have e1 : ¬ ((l == p.1) = true) := by simp; exact fun h => hp h.symm
   rw [if_neg e1];have hi := ih (i + 1);simp only [me, if_neg hp]
   cases hf : aV (.flat 3) (dM l) es (i + 1) with
   | none => rw [hf] at hi; exact hi
   | some r =>
    rw [hf] at hi
    cases r with
    | none => intro born; exact .cons h (hi born)
    | some r =>
     obtain ⟨j, v'⟩ := r;simp only at hi ⊢;refine ⟨by omega, ?_⟩;rw [show j - i = (j - (i + 1)) + 1 from by omega];exact .cons h hi.2
section
variable {P P' R : SP} {H : AH} {c ck : Nat} {es : List MapEntry} {al : List (b7 × Nat)} {Q : Value → AH → Prop}
theorem am9 {k : Value → OV} {at' : b7} (ha : EntsOf al es) (h : ac P H) [i : Hs P c (.map es ck)] (hk : wp (k (.agg #[vu (eS al at')])) Q) : wp ((cu (.flat 3) (.agg #[vw 0]) (.map (some c)) (dM at') false H).bind k) Q := by
 have hg := i.get h;obtain ⟨r, h1, h2⟩ := Wz ha at' 0;refine aa ?_ hk;unfold cu;rw [if_pos (show ir (.flat 3) (dM at') = true from rfl)];simp only [jD, hg, bo, h1, dP]
 cases r with
 | none => simp only at h2 ⊢; rw [h2.1]; rfl
 | some r => simp only at h2 ⊢; rw [h2.1]; rfl
theorem aoX {k : AH → OV} {at' : b7} {v : Nat} (ha : EntsOf al es) (h : ac P H) [i : Hs P c (.map es ck)] (hk : ∀ es' ck' H', EntsOf (me al at' v) es' → (∀ P', Up P c (.map es' ck') P' → ac P' H') → wp (k H') Q) :
 wp ((dG (.flat 3) (.map (some c)) (dM at') (.agg #[vu v]) H).bind k) Q := by
 have hg := i.get h;have hu := agC ha at' v 0;unfold dG;rw [if_pos (show ir (.flat 3) (dM at') = true from rfl)];simp only [hg]
 cases hf : aV (.flat 3) (dM at') es 0 with
 | none => rw [hf] at hu; exact absurd hu id
 | some r =>
  rw [hf] at hu
  cases r with
  | none =>
   simp only [dP, bo];exact hk _ _ _ (hu ck) fun P' u => u.set h
  | some r =>
   obtain ⟨j, v'⟩ := r;simp only [dP, bo];exact hk _ _ _ hu.2 fun P' u => u.set h
end
def bh (m : Nat) (μ : Mu) : SP := ex fun g : Nat × Value × List (b7 × Nat) × List MapEntry × Nat =>
 pu (EntsOf g.2.2.1 g.2.2.2.1 ∧ (∀ l, eS g.2.2.1 l = μ.V l) ∧ μ.E.length ≤ μ.N) * (blk m (.cells false [.map (some g.1), g.2.1]) * (blk g.1 (.map g.2.2.2.1 g.2.2.2.2) * sl 5 g.2.1 μ.E.length (oc μ.E)))
theorem nS (m : Nat) (μ : Mu) (who kind : Int) (at' : b7) (hE : μ.N < 1099511627776) : Sp cM [vp m, vi who, vi kind, dM at'] (bh m μ) (fun _ : Unit => .tuple #[]) (fun _ => bh m (μ.log who kind at')) := by
 refine aZ fun R H h => ?_;obtain ⟨⟨c, l, al, es, ck⟩, h⟩ := ac.ex.1 h;rw [ar, ac.pu] at h;obtain ⟨hp, h⟩ := h;dsimp only at h hp;refine bf (fun r => zc _ _ _ _ H) ?_;refine bm (cs := [vi at'.1, vi at'.2.1, vi at'.2.2]) h fun b0 H1 h1 => ?_;refine av h1 ae rfl ?_;refine a7 h1 ?_;refine LR (cs := [vi who, vi kind, vi at'.1, vi at'.2.1, vi at'.2.2]) rfl ?_;refine Uk (cs := [vi who, vi kind, vi at'.1, vi at'.2.1, vi at'.2.2]) h1 rfl fun b1 H2 h2 => ?_;have hl := hp.2.2;refine alE h2 rfl (by omega) (by omega) rfl (by unfold room; omega) fun a' c' H3 h3 => ?_;refine bw h3 ae rfl rfl fun H4 h4 => ?_;refine aq ⟨(), rfl, ?_⟩;refine ac.ex.2 ⟨(c, .slice a' (μ.E.length + 1) c', al, es, ck), ?_⟩;rw [ar, ac.pu];refine ⟨⟨hp.1, hp.2.1, by simp; exact hp.2.2⟩, ?_⟩
 have e1 : (μ.log who kind at').E.length = μ.E.length + 1 := by simp [Mu.log]
 have e2 : oc (μ.log who kind at').E = oc μ.E ++ [vi who, vi kind, vi at'.1, vi at'.2.1, vi at'.2.2] := by rw [Mu.log, Ge]; rfl
 rw [e1, e2];exact h4.to
theorem vk (m : Nat) (μ : Mu) (at' : b7) : Sp d6 [vp m, dM at'] (bh m μ) (fun _ : Unit => vu (μ.V at')) (fun _ => bh m μ) := by
 refine aZ fun R H h => ?_;have h0 := h;obtain ⟨⟨c, l, al, es, ck⟩, h⟩ := ac.ex.1 h;rw [ar, ac.pu] at h;obtain ⟨hp, h⟩ := h;dsimp only at h hp;refine bf (fun r => y9 _ _ H) ?_;refine bm (cs := [vi at'.1, vi at'.2.1, vi at'.2.2]) h fun b0 H1 h1 => ?_;refine av h1 ae rfl ?_;refine a7 h1 ?_;refine am9 (at' := at') hp.1 h1 ?_;refine aa (v := vu (eS al at')) rfl ?_;refine aq ⟨(), by rw [hp.2.1], ?_⟩;refine ac.ex.2 ⟨(c, l, al, es, ck), ?_⟩;rw [ar, ac.pu];exact ⟨hp, h1.to⟩
theorem Kz {m : Nat} {μ : Mu} {at' : b7} {v : Nat} {R P : SP} {H : AH} {c : Nat} {l : Value} {al : List (b7 × Nat)} {es : List MapEntry} {k : AH → OV} {Q : Value → AH → Prop} {ck : Nat}
 (hp : EntsOf al es ∧ (∀ l, eS al l = μ.V l) ∧ μ.E.length ≤ μ.N) (h : ac P H) [f : Fr P (blk m (.cells false [.map (some c), l]) * (blk c (.map es ck) * sl 5 l μ.E.length (oc μ.E))) R] [i : Hs P c (.map es ck)]
 (hk : ∀ H', ac (bh m (μ.put at' v) * R) H' → wp (k H') Q) : wp ((dG (.flat 3) (.map (some c)) (dM at') (.agg #[vu v]) H).bind k) Q := by
 have h' := ac.fr (f := f) h;refine aoX hp.1 h' fun es' ck' H' he hh => hk H' ?_;have h2 := hh _ inferInstance;refine ac.ex.2 ⟨(c, l, me al at' v, es', ck'), ?_⟩;rw [ar, ac.pu];refine ⟨⟨he, fun x => ?_, hp.2.2⟩, h2.to⟩;dsimp only;rw [El, hp.2.1]
theorem WU (m : Nat) (μ : Mu) (who : Int) (at' : b7) (v : Nat) (hE : μ.N < 1099511627776) : Sp dv [vp m, vi who, dM at', vu v] (bh m μ) (fun _ : Unit => .tuple #[]) (fun _ => bh m ((μ.log who 2 at').put at' v)) := by
 refine aX (xh _ _ _ _) fun R H h => ?_;refine bm (cs := [vi at'.1, vi at'.2.1, vi at'.2.2]) h fun b0 H1 h1 => ?_;refine a7 h1 ?_;refine ag h1 (nS m μ who 2 at' hE) fun _ H2 h2 => ?_;obtain ⟨⟨c, l, al, es, ck⟩, h2⟩ := ac.ex.1 h2;rw [ar, ac.pu] at h2;obtain ⟨hp, h2⟩ := h2;dsimp only at h2 hp;refine av h2 ae rfl ?_;refine a7 h2 ?_;refine LR (cs := [vu v]) rfl ?_;refine Kz (m := m) (l := l) (μ := μ.log who 2 at') (at' := at') (v := v) hp h2 fun H3 h3 => ?_;exact aq ⟨(), rfl, h3.to⟩
theorem KA (m : Nat) (μ : Mu) (who : Int) (at' : b7) (v : Nat) (hE : μ.N < 1099511627776) : Sp iN [vp m, vi who, dM at', vu v] (bh m μ) (fun _ : Unit => vu (μ.V at')) (fun _ => bh m ((μ.log who 3 at').put at' v)) := by
 refine aX (zd _ _ _ _) fun R H h => ?_;refine bm (cs := [vi at'.1, vi at'.2.1, vi at'.2.2]) h fun b0 H1 h1 => ?_;refine a7 h1 ?_;refine ag h1 (vk m μ at') fun _ H2 h2 => ?_;refine a7 h2 ?_;refine ag h2 (nS m μ who 3 at' hE) fun _ H3 h3 => ?_;obtain ⟨⟨c, l, al, es, ck⟩, h3⟩ := ac.ex.1 h3;rw [ar, ac.pu] at h3;obtain ⟨hp, h3⟩ := h3;dsimp only at h3 hp;refine av h3 ae rfl ?_;refine a7 h3 ?_;refine LR (cs := [vu v]) rfl ?_;refine Kz (m := m) (l := l) (μ := μ.log who 3 at') (at' := at') (v := v) hp h3 fun H4 h4 => ?_;exact aq ⟨(), rfl, h4.to⟩
theorem ac9 (m : Nat) (μ : Mu) (who : Int) (at' : b7) (hE : μ.N < 1099511627776) : Sp cq [vp m, vi who, dM at'] (bh m μ) (fun _ : Unit => vu (μ.V at')) (fun _ => bh m (μ.log who 1 at')) := by
 refine aX (y8 _ _ _) fun R H h => ?_;refine bm (cs := [vi at'.1, vi at'.2.1, vi at'.2.2]) h fun b0 H1 h1 => ?_;refine a7 h1 ?_;refine ag h1 (nS m μ who 1 at' hE) fun _ H2 h2 => ?_;refine a7 h2 ?_;refine ag h2 (vk m (μ.log who 1 at') at') fun _ H3 h3 => ?_;exact aq ⟨(), rfl, h3.to⟩
abbrev Mu.swap (μ : Mu) (who : Int) (at' : b7) (was now : Nat) : Mu := if μ.V at' = was then (μ.log who 3 at').put at' now else μ.log who 4 at'
theorem adB (m : Nat) (μ : Mu) (who : Int) (at' : b7) (was now : Nat) (hE : μ.N < 1099511627776) :
 Sp d7 [vp m, vi who, dM at', vu was, vu now] (bh m μ) (fun _ : Unit => vb (decide (μ.V at' = was))) (fun _ => bh m (μ.swap who at' was now)) := by
 refine aX (zb _ _ _ _ _) fun R H h => ?_;refine bm (cs := [vi at'.1, vi at'.2.1, vi at'.2.2]) h fun b0 H1 h1 => ?_;refine a7 h1 ?_;refine ag h1 (vk m μ at') fun _ H2 h2 => ?_;refine aa ak3 ?_;unfold Mu.swap;refine bR (fun hc => ?_) (fun hc => ?_)
 ·have hc : ¬ μ.V at' = was := by simpa using hc
  rw [if_neg hc, gU hc];refine a7 h2 ?_;refine ag h2 (nS m μ who 4 at' hE) fun _ H3 h3 => ?_;exact aq ⟨(), rfl, h3.to⟩
 ·have hc : μ.V at' = was := by simpa using hc
  rw [if_pos hc, iy hc];refine a7 h2 ?_;refine ag h2 (KA m μ who at' now hE) fun _ H3 h3 => ?_;exact aq ⟨(), rfl, h3.to⟩
theorem ai6 (m : Nat) (μ : Mu) (who : Int) (at' : b7) (n : Nat) (hE : μ.N < 1099511627776) :
 Sp gG [vp m, vi who, dM at', vu n] (bh m μ) (fun _ : Unit => vu (μ.V at')) (fun _ => bh m ((μ.log who 3 at').put at' ((μ.V at' + n) % 18446744073709551616))) := by
 refine aX (Cw _ _ _ _) fun R H h => ?_
 repeat (first | refine a8 ‹_› fun _ _ _ => ?_ | refine a7 ‹_› ?_)
 refine ag (by assumption) (vk m μ at') fun _ _ _ => ?_
 repeat refine en ‹_› ‹_› rfl ?_
 refine aa (akG) ?_;refine ag (by assumption) (KA m μ who at' _ hE) fun _ _ _ => ?_;exact aq ⟨(), rfl, ac.to (by assumption)⟩
theorem Cy (m : Nat) (μ : Mu) (who : Int) (at' : b7) (hE : μ.N < 1099511627776) :
 Sp iM [vp m, vi who, dM at'] (bh m μ) (fun _ : Unit => .tuple #[]) (fun _ => bh m (μ.log who 5 at')) := by
 refine aX (za _ _ _) fun R H h => ?_
 repeat (first | refine a8 ‹_› fun _ _ _ => ?_ | refine a7 ‹_› ?_)
 refine ag (by assumption) (nS m μ who 5 at' hE) fun _ _ _ => ?_;exact aq ⟨(), rfl, ac.to (by assumption)⟩
theorem xj (m : Nat) (μ : Mu) (who : Int) (at' : b7) (hE : μ.N < 1099511627776) :
 Sp e9 [vp m, vi who, dM at'] (bh m μ) (fun _ : Unit => .tuple #[]) (fun _ => bh m (μ.log who 6 at')) := by
 refine aX (xi _ _ _) fun R H h => ?_
 repeat (first | refine a8 ‹_› fun _ _ _ => ?_ | refine a7 ‹_› ?_)
 refine ag (by assumption) (nS m μ who 6 at' hE) fun _ _ _ => ?_;exact aq ⟨(), rfl, ac.to (by assumption)⟩
theorem Sp.imp {α : Type} {f : Nat} {args : List Value} {P : SP} {v : α → Value} {Q Q' : α → SP} (s : Sp f args P v Q) (h : ∀ x R H, ac (Q x * R) H → ac (Q' x * R) H) : Sp f args P v Q' := by
 intro R H hh;obtain ⟨x, H', e, hq⟩ := s R H hh;exact ⟨x, H', e, h x R H' hq⟩
theorem iI {m : Nat} {V : b7 → Nat} {E : List Ev} {N N' : Nat} {R : SP} {H : AH} (hN : N ≤ N') (h : ac (bh m ⟨V, E, N⟩ * R) H) : ac (bh m ⟨V, E, N'⟩ * R) H := by
 obtain ⟨g, h⟩ := ac.ex.1 h;rw [ar, ac.pu] at h;refine ac.ex.2 ⟨g, ?_⟩;rw [ar, ac.pu];exact ⟨⟨h.1.1, h.1.2.1, dZ h.1.2.2 hN⟩, h.2⟩
abbrev Mu.acc (μ : Mu) (who kind : Int) (at' : b7) : Mu := { V := μ.V, E := μ.E ++ [⟨who, kind, at'⟩], N := μ.N + 2 }
abbrev Mu.swp (μ : Mu) (who : Int) (at' : b7) (was now : Nat) : Mu := { V := (μ.swap who at' was now).V, E := (μ.swap who at' was now).E, N := μ.N + 2 }
theorem xr (m : Nat) (μ : Mu) (who : Int) (at' : b7) (hE : μ.N < 1099511627776) : Sp cq [vp m, vi who, dM at'] (bh m μ) (fun _ : Unit => vu (μ.V at')) (fun _ => bh m (μ.acc who 1 at')) :=
 (ac9 m μ who at' hE).imp fun _ R H h => iI (by simp) h
theorem HY (m : Nat) (μ : Mu) (who : Int) (at' : b7) (v : Nat) (hE : μ.N < 1099511627776) : Sp dv [vp m, vi who, dM at', vu v] (bh m μ) (fun _ : Unit => .tuple #[]) (fun _ => bh m ((μ.acc who 2 at').put at' v)) :=
 (WU m μ who at' v hE).imp fun _ R H h => iI (by simp) h
theorem Oz (m : Nat) (μ : Mu) (who : Int) (at' : b7) (was now : Nat) (hE : μ.N < 1099511627776) :
 Sp d7 [vp m, vi who, dM at', vu was, vu now] (bh m μ) (fun _ : Unit => vb (decide (μ.V at' = was))) (fun _ => bh m (μ.swp who at' was now)) :=
 (adB m μ who at' was now hE).imp fun _ R H h => by
  have : (μ.swap who at' was now).N ≤ μ.N + 2 := by unfold Mu.swap; split <;> simp
  exact iI this h
theorem ak4 (m : Nat) (μ : Mu) (who : Int) (at' : b7) (n : Nat) (hE : μ.N < 1099511627776) :
 Sp gG [vp m, vi who, dM at', vu n] (bh m μ) (fun _ : Unit => vu (μ.V at')) (fun _ => bh m ((μ.acc who 3 at').put at' ((μ.V at' + n) % 18446744073709551616))) :=
 (ai6 m μ who at' n hE).imp fun _ R H h => iI (by simp) h
def Gc (p : b7 × Nat) : List Value := [vi p.1.1, vi p.1.2.1, vi p.1.2.2]
def JC (p : b7 × Nat) : List Value := [vu p.2]
instance : Enc Gc 3 := ⟨fun _ => rfl, fun _ => rfl, by omega⟩
instance : Enc JC 1 := ⟨fun _ => rfl, fun _ => rfl, by omega⟩
def E8 (m : Nat) (al : List (b7 × Nat)) (E : List Ev) : SP := ex fun g : Value × Value × Value =>
 blk m (.cells false [g.1, g.2.1, g.2.2]) * (ts 3 Gc g.1 al * (ts 1 JC g.2.1 al * ts 5 Ev.cells g.2.2 E))
def bz (m : Nat) (μ : Mu) : SP := ex fun al : List (b7 × Nat) => pu ((∀ l, eS al l = μ.V l) ∧ al.length + μ.E.length ≤ μ.N) * E8 m al μ.E
def gA (al : List (b7 × Nat)) (l : b7) : Nat := al.findIdx fun p => p.1 == l
def jT (al : List (b7 × Nat)) (l : b7) : List (b7 × Nat) := if gA al l < al.length then al else al ++ [(l, 0)]
theorem je (p : b7 × Nat) (al : List (b7 × Nat)) (l : b7) : gA (p :: al) l = if p.1 = l then 0 else gA al l + 1 := by
 unfold gA;rw [List.findIdx_cons]
 by_cases h : p.1 = l
 ·simp [h]
 ·have : (p.1 == l) = false := by simpa using h
  simp [h, this]
theorem Ax (l : b7) : ∀ (al : List (b7 × Nat)) (h : gA al l < al.length), al[gA al l] = (l, eS al l) := by
 intro al
 induction al with
 | nil => intro h; simp at h
 | cons p al ih =>
  intro h;have e := je p al l
  by_cases hp : p.1 = l
  ·rw [if_pos hp] at e
   simp only [e, List.getElem_cons_zero, dL, hp, if_true];exact Prod.ext hp rfl
  ·rw [if_neg hp] at e
   rw [e, List.length_cons] at h;simp only [e, List.getElem_cons_succ, dL, hp, if_false];exact ih (by omega)
theorem Mf (l x : b7) : ∀ (al : List (b7 × Nat)), ¬ gA al l < al.length → eS (al ++ [(l, 0)]) x = eS al x := by
 intro al
 induction al with
 | nil =>
  intro _;show eS [(l, 0)] x = eS [] x;rw [dL]
  split <;> rfl
 | cons p al ih =>
  intro h;have e := je p al l
  by_cases hp : p.1 = l
  ·rw [if_pos hp] at e
   simp [e] at h
  ·rw [if_neg hp] at e
   rw [List.cons_append, dL, dL, ih (by rw [e, List.length_cons] at h; omega)]
theorem Ay (l : b7) (al : List (b7 × Nat)) (h : ¬ gA al l < al.length) : gA (al ++ [(l, 0)]) l = al.length := by
 induction al with
 | nil => simp [gA, List.findIdx_cons]
 | cons p al ih =>
  have e := je p al l
  by_cases hp : p.1 = l
  ·rw [if_pos hp] at e
   simp [e] at h
  ·rw [if_neg hp] at e
   rw [List.cons_append, je, if_neg hp, ih (by rw [e, List.length_cons] at h; omega), List.length_cons]
theorem UC (al : List (b7 × Nat)) (l x : b7) : eS (jT al l) x = eS al x := by
 unfold jT
 split
 ·rfl
 ·exact Mf l x al (by assumption)
theorem YW (al : List (b7 × Nat)) (l : b7) : gA (jT al l) l < (jT al l).length := by
 unfold jT
 split
 ·assumption
 ·rw [Ay l al (by assumption)]; simp
theorem Em (l : b7) (v : Nat) : ∀ (al : List (b7 × Nat)), gA al l < al.length → me al l v = al.set (gA al l) (l, v) := by
 intro al
 induction al with
 | nil => intro h; simp at h
 | cons p al ih =>
  intro h;have e := je p al l
  by_cases hp : p.1 = l
  ·rw [if_pos hp] at e
   simp [me, hp, e]
  ·rw [if_neg hp] at e
   rw [e, List.length_cons] at h;simp only [me, hp, if_false, e, List.set_cons_succ];rw [ih (by omega)]
theorem Th (m : Nat) (al : List (b7 × Nat)) (E : List Ev) (who kind : Int) (at' : b7) (hE : E.length < 1099511627776) : Sp bN [vp m, vi who, vi kind, dM at'] (E8 m al E) (fun _ : Unit => .tuple #[]) (fun _ => E8 m al (E ++ [⟨who, kind, at'⟩])) := by
 refine aX (CM _ _ _ _) fun R H h => ?_;obtain ⟨⟨a, v, e⟩, h⟩ := ac.ex.1 h;dsimp only at h
 repeat (first | refine a8 ‹_› fun _ _ _ => ?_ | refine a7 ‹_› ?_ | refine av ‹_› ae rfl ?_ | refine kP ?_ | refine L8 ‹_› fun _ _ _ => ?_)
 refine gu ((⟨who, kind, at'⟩ : Ev)) (by assumption) rfl ?_ (by omega) fun a' c' _ _ => ?_
 ·unfold room; omega
 repeat (first | refine bp ae ?_ | refine fm ‹_› rfl rfl fun _ _ => ?_)
 exact aq ⟨(), rfl, ac.ex.2 ⟨(a, v, .slice a' (E.length + 1) c'), ac.to (by assumption)⟩⟩
theorem Jd (l : b7) : ∀ (al : List (b7 × Nat)) (k : Nat) (hk : k < al.length), al[k].1 = l → (∀ j, j < k → ∀ p, al[j]? = some p → p.1 ≠ l) → gA al l = k := by
 intro al
 induction al with
 | nil => intro k hk; simp at hk
 | cons p al ih =>
  intro k hk h hno;rw [je]
  cases k with
  | zero => rw [if_pos (by simpa using h)]
  | succ k =>
   rw [if_neg (hno 0 (by omega) p rfl), ih k (by simpa using hk) (by simpa using h) fun j hj q hq => hno (j + 1) (by omega) q (by simpa using hq)]
theorem OI {m b0 : Nat} {al : List (b7 × Nat)} {E : List Ev} {at' : b7} {R : SP} (hal : al.length < 1099511627776) {a v e : Value} (x4 : Value) {H : AH}
 (h : ac (blk b0 (.cells false [vi at'.1, vi at'.2.1, vi at'.2.2]) * (blk m (.cells false [a, v, e]) * (ts 3 Gc a al * (ts 1 JC v al * ts 5 Ev.cells e E)) * R)) H) :
 ∀ (n k : Nat), k + n = al.length → (∀ j, j < k → ∀ p, al[j]? = some p → p.1 ≠ at') →
  wp (Aa (vp m) (vp b0) x4 (vi k) H) fun v' H' => v' = vi (gA (jT al at') at') ∧ ac (E8 m (jT al at') E * R) H' := by
 intro n
 induction n with
 | zero =>
  intro k hk hno
  have hidx : ¬ gA al at' < al.length := by
   intro hlt;have := Ax at' al hlt;exact hno _ (by omega) _ (br hlt) (by rw [this])
  refine ah (CW _ _ _ _ H) ?_;refine av h ae rfl ?_;refine oX (s := a) h ?_;refine aa rx ?_;refine bR (fun hc => ?_) (fun hc => ?_)
  ·simp at hc; omega
  refine ah (Il _ _ _ H) ?_;refine ah (Xp _ _ _ H) ?_;have e1 : jT al at' = al ++ [(at', 0)] := if_neg hidx
  have e2 : gA (jT al at') at' = al.length := by rw [e1, Ay at' al hidx]
  rw [e1, ← e1, e2, e1]
  repeat (first | refine a7 ‹_› ?_ | refine av ‹_› ae rfl ?_ | refine L8 ‹_› fun _ _ _ => ?_)
  refine gu (((at', 0) : b7 × Nat)) (by assumption) rfl ?_ (by omega) fun a1 c1 H1 h1 => ?_
  ·unfold room; omega
  repeat (first | refine av ‹_› ae rfl ?_ | refine L8 ‹_› fun _ _ _ => ?_ | refine aI ‹_› ‹_› rfl ?_)
  refine gu (((at', 0) : b7 × Nat)) (by assumption) rfl ?_ (by omega) fun a2 c2 H2 h2 => ?_
  ·unfold room; omega
  repeat (first | refine av ‹_› ae rfl ?_ | refine bp ae ?_ | refine fm ‹_› rfl rfl fun _ _ => ?_ | refine Ui ?_)
  refine aa (ba (by omega) (by omega)) ?_;refine aq ⟨by congr 1; omega, ?_⟩;exact ac.ex.2 ⟨(.slice a1 (al.length + 1) c1, .slice a2 (al.length + 1) c2, e), ac.to (by assumption)⟩
 | succ n ih =>
  intro k hk hno
  have hkl : k < al.length := by omega
  refine ah (CW _ _ _ _ H) ?_;refine av h ae rfl ?_;refine oX (s := a) h ?_;refine aa rx ?_;refine bR (fun hc => ?_) (fun hc => ?_)
  ·refine ah (OS _ _ _ _ H) ?_
   refine av h ae rfl ?_;refine P4 (s := a) h hkl ?_;refine a7 h ?_;refine aa (Zw al[k].1 at') ?_;refine bR (fun hc => ?_) (fun hc => ?_)
   ·have hc : al[k].1 = at' := by simpa using hc
    have hidx := Jd at' al k hkl hc hno
    have e1 : jT al at' = al := by unfold jT; rw [if_pos (by omega)]
    refine aq ⟨by rw [e1, hidx], ?_⟩;rw [e1];exact ac.ex.2 ⟨(a, v, e), ac.to h⟩
   ·have hc : al[k].1 ≠ at' := by simpa using hc
    refine ah (OT _ _ _ _ H) ?_;refine aa (aB (by omega) (by omega)) ?_;refine ih (k + 1) (by omega) fun j hj p hp => ?_
    by_cases hjk : j = k
    ·subst hjk
     rw [br hkl] at hp;cases hp;exact hc
    ·exact hno j (by omega) p hp
  ·simp at hc; omega
theorem Xm (m : Nat) (al : List (b7 × Nat)) (E : List Ev) (at' : b7) (hal : al.length < 1099511627776) : Sp CA [vp m, dM at'] (E8 m al E) (fun _ : Unit => vi (gA (jT al at') at')) (fun _ => E8 m (jT al at') E) := by
 refine aX (amN _ _) fun R H h => ?_;obtain ⟨⟨a, v, e⟩, h⟩ := ac.ex.1 h;dsimp only at h;refine a8 h fun b0 H1 h1 => ?_;refine ah (Xo _ _ _ H1) ?_;refine ah (OR _ _ _ _ H1) ?_;refine (OI hal (vi 0) h1 al.length 0 (by omega) (fun j hj => by omega)).mono fun v' H' h' => ⟨(), h'.1, h'.2⟩
theorem ajV (a : Value) (al : List (b7 × Nat)) (i : Nat) (hi : i < al.length) (v : Nat) : ts 3 Gc a (al.set i (al[i].1, v)) = ts 3 Gc a al := by
 unfold ts;rw [xa, Ki al i hi, oJ al i hi]
 rfl
theorem Cv {m : Nat} {μ : Mu} {al : List (b7 × Nat)} {a v e : Value} {P R : SP} {H : AH} (hp : (∀ l, eS al l = μ.V l) ∧ al.length + μ.E.length ≤ μ.N) (h : ac P H)
 {Z : SP} [f : Fr P ((blk m (.cells false [a, v, e]) * (ts 3 Gc a al * (ts 1 JC v al * ts 5 Ev.cells e μ.E))) * R) Z] : ac (bz m μ * R) H := by
 refine ac.ex.2 ⟨al, ?_⟩;rw [ar, ac.pu];exact ⟨hp, ac.ex.2 ⟨(a, v, e), h.to⟩⟩
theorem UD (al : List (b7 × Nat)) (l : b7) : (jT al l).length ≤ al.length + 1 := by unfold jT; split <;> simp
def yB (m : Nat) (μ : Mu) (at' : b7) (i : Nat) : SP := ex fun g : List (b7 × Nat) × Value × Value × Value =>
 pu ((∀ l, eS g.1 l = μ.V l) ∧ g.1.length + μ.E.length ≤ μ.N ∧ gA g.1 at' = i ∧ i < g.1.length) * (blk m (.cells false [g.2.1, g.2.2.1, g.2.2.2]) * (ts 3 Gc g.2.1 g.1 * (ts 1 JC g.2.2.1 g.1 * ts 5 Ev.cells g.2.2.2 μ.E)))
theorem I4 (m : Nat) (μ : Mu) (at' : b7) (hE : μ.N < 1099511627776) : Sp CA [vp m, dM at'] (bz m μ) (fun i : Nat => vi (i : Int)) (fun i => yB m { μ with N := μ.N + 1 } at' i) := by
 intro R H h;obtain ⟨al, h⟩ := ac.ex.1 h;rw [ar, ac.pu] at h;obtain ⟨hp, h⟩ := h;obtain ⟨_, H', e, h'⟩ := Xm m al μ.E at' (by omega) R H h;refine ⟨gA (jT al at') at', H', e, ?_⟩;obtain ⟨⟨a, v, ev⟩, h'⟩ := ac.ex.1 h';refine ac.ex.2 ⟨(jT al at', a, v, ev), ?_⟩;rw [ar, ac.pu];have := UD al at';exact ⟨⟨fun l => by rw [UC, hp.1], by dsimp only; omega, rfl, YW al at'⟩, h'⟩
theorem YE (m : Nat) (μ : Mu) (who kind : Int) (at' : b7) (hE : μ.N < 1099511627776) : Sp bN [vp m, vi who, vi kind, dM at'] (bz m μ) (fun _ : Unit => .tuple #[]) (fun _ => bz m (μ.log who kind at')) := by
 intro R H h;obtain ⟨al, h⟩ := ac.ex.1 h;rw [ar, ac.pu] at h;obtain ⟨hp, h⟩ := h;obtain ⟨_, H', e, h'⟩ := Th m al μ.E who kind at' (by omega) R H h;refine ⟨(), H', e, ?_⟩;refine ac.ex.2 ⟨al, ?_⟩;rw [ar, ac.pu];exact ⟨⟨hp.1, by simp; omega⟩, h'⟩
theorem al7 (m : Nat) (μ : Mu) (at2 : b7) (i : Nat) (who kind : Int) (at' : b7) (hE : μ.N < 1099511627776) : Sp bN [vp m, vi who, vi kind, dM at'] (yB m μ at2 i) (fun _ : Unit => .tuple #[]) (fun _ => yB m (μ.log who kind at') at2 i) := by
 intro R H h;obtain ⟨⟨al, a, v, e⟩, h⟩ := ac.ex.1 h;rw [ar, ac.pu] at h;obtain ⟨hp, h⟩ := h;dsimp only at hp h;obtain ⟨_, H', e', h'⟩ := Th m al μ.E who kind at' (by omega) R H (ac.ex.2 ⟨(a, v, e), h⟩);refine ⟨(), H', e', ?_⟩;obtain ⟨⟨a2, v2, e2⟩, h'⟩ := ac.ex.1 h';refine ac.ex.2 ⟨(al, a2, v2, e2), ?_⟩;rw [ar, ac.pu];exact ⟨⟨hp.1, by simp; omega, hp.2.2⟩, h'⟩
class Xi (P : SP) (m i : Nat) (μ : outParam Mu) (at' : outParam b7) (R : outParam SP) : Prop where
 eq : P = yB m μ at' i * R
instance (priority := high) Xi.refl (m i : Nat) (μ : Mu) (at' : b7) : Xi (yB m μ at' i) m i μ at' emp := ⟨(eN _).symm⟩
instance Xi.left (P Q R : SP) (m i : Nat) (μ : Mu) (at' : b7) [h : Xi P m i μ at' R] : Xi (P * Q) m i μ at' (R * Q) := ⟨by rw [h.eq, ar]⟩
instance Xi.right (P Q R : SP) (m i : Nat) (μ : Mu) (at' : b7) [h : Xi Q m i μ at' R] : Xi (P * Q) m i μ at' (P * R) := ⟨by rw [h.eq, bD]⟩
section
variable {m i : Nat} {μ : Mu} {at' : b7} {P R : SP} {H : AH} {Q : Value → AH → Prop}
theorem agO {k : Value → OV} (h : ac P H) [f : Xi P m i μ at' R] (hk : wp (k (vu (μ.V at'))) Q) : wp (ld [.n, .f 1] (vp m) H fun v => ld [.i 1 (vi i)] v H k) Q := by
 have h' : ac (yB m μ at' i * R) H := by rw [← f.eq]; exact h
 obtain ⟨⟨al, a, v, e⟩, h'⟩ := ac.ex.1 h';rw [ar, ac.pu] at h';obtain ⟨hp, h'⟩ := h';dsimp only at hp h';refine av h' ae rfl ?_;obtain ⟨p1, _, p4, p5⟩ := hp;refine agN (s := v) h' p5 (v := vu (μ.V at')) ?_ hk;subst p4;rw [Ax at' al p5];simp [JC, p1]
theorem agP {k : AH → OV} {v : Nat} (h : ac P H) [f : Xi P m i μ at' R] (hk : ∀ H', ac (bz m (μ.put at' v) * R) H' → wp (k H') Q) : wp (ld [.n, .f 1] (vp m) H fun s => st 1 [.i 1 (vi i)] s (vu v) H k) Q := by
 have h0 : ac (yB m μ at' i * R) H := by rw [← f.eq]; exact h
 obtain ⟨⟨al, a, s, e⟩, h1⟩ := ac.ex.1 h0;rw [ar, ac.pu] at h1;obtain ⟨hp, h'⟩ := h1
 clear h0
 dsimp only at hp h';refine av h' ae rfl ?_;obtain ⟨p1, p2, p4, p5⟩ := hp;subst p4;refine DH (s := s) (g := 0) ((at', v) : b7 × Nat) h' p5 (.inl ⟨rfl, rfl⟩) rfl (by omega) rfl rfl fun H' h2 => hk H' ?_;have hat := Ax at' al p5;have hk2 := ajV a al (gA al at') p5 v;rw [hat] at hk2;rw [← Em at' v al p5] at h2 hk2;rw [← hk2] at h2;refine Cv (al := me al at' v) (a := a) (v := s) (e := e) ⟨fun l => ?_, ?_⟩ h2
 ·rw [El, p1]
 ·rw [Em at' v al p5, xa]; exact p2
theorem aj1 {x y : Value} {op : BinOp} {cl : TCls} {k : AH → OV} {v : Nat} (h : ac P H) [f : Xi P m i μ at' R] (hb : aj cl op x y = some (vu v)) (hk : ∀ H', ac (bz m (μ.put at' v) * R) H' → wp (k H') Q) :
 wp (ld [.n, .f 1] (vp m) H fun s => (aj cl op x y).bind fun z => st 1 [.i 1 (vi i)] s z H k) Q := by
 rw [hb];exact agP h hk
theorem ao1 (h : ac P H) [f : Xi P m i μ at' R] : ac (bz m μ * R) H := by
 have h' : ac (yB m μ at' i * R) H := by rw [← f.eq]; exact h
 obtain ⟨⟨al, a, s, e⟩, h'⟩ := ac.ex.1 h';rw [ar, ac.pu] at h';obtain ⟨hp, h'⟩ := h';exact Cv (al := al) (a := a) (v := s) (e := e) ⟨hp.1, hp.2.1⟩ h'
end
theorem qS (m : Nat) (μ : Mu) (who : Int) (at' : b7) (hE : μ.N < 1099511627000) : Sp dj [vp m, vi who, dM at'] (bz m μ) (fun _ : Unit => vu (μ.V at')) (fun _ => bz m (μ.acc who 1 at')) := by
 refine aX (zv _ _ _) fun R H h => ?_
 repeat (first | refine a8 ‹_› fun _ _ _ => ?_ | refine a7 ‹_› ?_)
 refine ag (by assumption) (YE m μ who 1 at' (by omega)) fun _ _ _ => ?_
 repeat refine a7 ‹_› ?_
 refine ag (by assumption) (I4 m (μ.log who 1 at') at' (by simp; omega)) fun i H3 h3 => ?_;refine agO h3 ?_;exact aq ⟨(), rfl, ac.to (ao1 (m := m) (i := i) h3)⟩
theorem xM (m : Nat) (μ : Mu) (who : Int) (at' : b7) (v : Nat) (hE : μ.N < 1099511627000) : Sp fc [vp m, vi who, dM at', vu v] (bz m μ) (fun _ : Unit => .tuple #[]) (fun _ => bz m ((μ.acc who 2 at').put at' v)) := by
 refine aX (xz _ _ _ _) fun R H h => ?_
 repeat (first | refine a8 ‹_› fun _ _ _ => ?_ | refine a7 ‹_› ?_)
 refine ag (by assumption) (YE m μ who 2 at' (by omega)) fun _ _ _ => ?_
 repeat refine a7 ‹_› ?_
 refine ag (by assumption) (I4 m (μ.log who 2 at') at' (by simp; omega)) fun i H3 h3 => ?_;refine agP (at' := at') h3 fun H4 h4 => ?_;exact aq ⟨(), rfl, h4.to⟩
theorem CV (m : Nat) (μ : Mu) (who : Int) (at' : b7) (was now : Nat) (hE : μ.N < 1099511627000) :
 Sp fP [vp m, vi who, dM at', vu was, vu now] (bz m μ) (fun _ : Unit => vb (decide (μ.V at' = was))) (fun _ => bz m (μ.swp who at' was now)) := by
 refine aX (zw _ _ _ _ _) fun R H h => ?_
 repeat (first | refine a8 ‹_› fun _ _ _ => ?_ | refine a7 ‹_› ?_)
 refine ag (by assumption) (I4 m μ at' (by omega)) fun i H3 h3 => ?_;refine agO h3 ?_;refine aa (ak3) ?_;unfold Mu.swp Mu.swap;refine bR (fun hc => ?_) (fun hc => ?_)
 ·have hc : ¬ μ.V at' = was := by simpa using hc
  rw [if_neg hc, gU hc]
  repeat refine a7 ‹_› ?_
  refine ag (by assumption) (al7 m { μ with N := μ.N + 1 } at' i who 4 at' (by simp; omega)) fun _ H4 h4 => ?_;exact aq ⟨(), rfl, ac.to (ao1 (m := m) (i := i) h4)⟩
 ·have hc : μ.V at' = was := by simpa using hc
  rw [if_pos hc, iy hc]
  repeat refine a7 ‹_› ?_
  refine ag (by assumption) (al7 m { μ with N := μ.N + 1 } at' i who 3 at' (by simp; omega)) fun _ H4 h4 => ?_;refine agP (at' := at') h4 fun H5 h5 => ?_;exact aq ⟨(), rfl, h5.to⟩
theorem Tg (m : Nat) (μ : Mu) (who : Int) (at' : b7) (n : Nat) (hE : μ.N < 1099511627000) :
 Sp jM [vp m, vi who, dM at', vu n] (bz m μ) (fun _ : Unit => vu (μ.V at')) (fun _ => bz m ((μ.acc who 3 at').put at' ((μ.V at' + n) % 18446744073709551616))) := by
 refine aX (CH _ _ _ _) fun R H h => ?_
 repeat (first | refine a8 ‹_› fun _ _ _ => ?_ | refine a7 ‹_› ?_)
 refine ag (by assumption) (I4 m μ at' (by omega)) fun i H3 h3 => ?_
 repeat refine a7 ‹_› ?_
 refine ag (by assumption) (al7 m { μ with N := μ.N + 1 } at' i who 3 at' (by simp; omega)) fun _ H4 h4 => ?_;refine agO h4 ?_;refine aj1 (at' := at') h4 akG fun H5 h5 => ?_;exact aq ⟨(), rfl, h5.to⟩
def cB (w : Nat) : Bool := decide (w / 2305843009213693952 < 3)
def ax (w : Nat) : Nat := if cB w then w % 2305843009213693952 else 0
def aS (w : Nat) : Int := if cB w then (w / 2305843009213693952 : Nat) else -1
def aR (w : Nat) : Nat → Option Nat
 | 0 => if cB w ∧ aS w ≠ 2 ∧ ax w < 2305843009213693951 then some (ax w + 1 + 2305843009213693952) else none
 | 1 => if aS w = 1 then some (ax w) else none
 | 2 => if aS w = 0 then some (ax w + 4611686018427387904) else none
 | _ => none
def On : Option Nat → Value
 | some n => .tuple #[vu n, vb true]
 | none => .tuple #[vw 0, vb false]
theorem uc (w : Nat) : Sp iR [vu w] emp (fun _ : Unit => vb (cB w)) (fun _ => emp) := by
 refine aX (Eg _) fun R H h => ?_;refine aa (ak8) ?_;refine aa (rx) ?_;refine aq ⟨(), ?_, h⟩
 congr 1
 unfold cB
 congr 1
 apply propext;omega
theorem jF (w : Nat) (hw : w < 18446744073709551616) : Sp dF [vu w] emp (fun _ : Unit => vu (ax w)) (fun _ => emp) := by
 refine aX (Ef _) fun R H h => ?_;refine ag (by assumption) (uc w) fun _ _ _ => ?_;refine aa (oW) ?_;refine bR (fun hc => ?_) (fun hc => ?_)
 ·have hc : cB w = false := by simpa using hc
  refine aq ⟨(), by simp [ax, hc], ac.to (by assumption)⟩
 ·have hc : cB w = true := by simpa using hc
  refine aa (anQ hw) ?_;refine aq ⟨(), by simp [ax, hc], ac.to (by assumption)⟩
theorem oZ (w : Nat) (hw : w < 18446744073709551616) : Sp f8 [vu w] emp (fun _ : Unit => vi (aS w)) (fun _ => emp) := by
 refine aX (Eh _) fun R H h => ?_;refine ag (by assumption) (uc w) fun _ _ _ => ?_;refine aa (oW) ?_;refine bR (fun hc => ?_) (fun hc => ?_)
 ·have hc : cB w = false := by simpa using hc
  refine aq ⟨(), by simp [aS, hc], ac.to (by assumption)⟩
 ·have hc : cB w = true := by simpa using hc
  refine aa (ak8) ?_;refine aa (fV (by omega)) ?_;refine aq ⟨(), by simp [aS, hc], ac.to (by assumption)⟩
theorem nY (w : Nat) (hw : w < 18446744073709551616) : Sp fO [vu w] emp (fun _ : Unit => .tuple #[vu (ax w), vi (aS w), vb (cB w)]) (fun _ => emp) := by
 refine aX (Ie _) fun R H h => ?_;refine aa (aoJ) ?_;refine aa (aoG hw) ?_;refine aa (fV (by omega)) ?_;refine aa (F1) ?_;refine bR (fun hc => ?_) (fun hc => ?_)
 ·have hc : cB w = false := by simp at hc; simp [cB]; omega
  refine aq ⟨(), by simp [ax, aS, hc], h.to⟩
 ·have hc : cB w = true := by simp at hc; simp [cB]; omega
  refine aq ⟨(), by simp [ax, aS, hc], h.to⟩
theorem YA (n : Nat) (s : Nat) (hn : n ≤ 2305843009213693951) (hs : s < 3) : Sp qI [vu n, vi (s : Int)] emp (fun _ : Unit => .tuple #[vu (s * 2305843009213693952 + n), vb true]) (fun _ => emp) := by
 refine aX (I1 _ _) fun R H h => ?_;refine aa (gh (by omega)) ?_;refine gt ?_;refine aa (DZ (bu ?_)) ?_
 ·omega
 refine gt ?_;refine aa (DZ (nH ?_)) ?_
 ·omega
 refine gt ?_;refine bR (fun hc => by cases hc) (fun _ => ?_);refine aa (cP (by omega) (by omega)) ?_
 have e1 : aj .other .shl (vu (s : Int).toNat) (vw 61) = some (vu (s * 2305843009213693952)) := by
  have := Ep (cl := .other) (a := s) (k := .u64) (n := 61) (by omega);simp only [Nat.reducePow] at this;rw [Nat.mod_eq_of_lt (by omega)] at this
  simpa using this
 refine aa (e1) ?_
 have e2 : aj .other .or (vu (s * 2305843009213693952)) (vu n) = some (vu (s * 2305843009213693952 + n)) := by
  rw [Y5 (by omega) (by omega)]
  congr 3
  have := Nat.two_pow_add_eq_or_of_lt (i := 61) (b := n) (by simp only [Nat.reducePow]; omega) s;simp only [Nat.reducePow] at this;rw [Nat.mul_comm, ← this]
 refine aa (e2) ?_;exact aq ⟨(), rfl, h.to⟩
theorem CG (n : Nat) (s : Nat) (hn : n ≤ 2305843009213693951) (hs : s < 3) : Sp lM [vu n, vi (s : Int)] emp (fun _ : Unit => .tuple #[vu (s * 2305843009213693952 + n), vb true]) (fun _ => emp) := by
 refine aX (KY _ _) fun R H h => ?_;refine aa (gh (by omega)) ?_;refine gt ?_;refine aa (DZ (bu ?_)) ?_
 ·omega
 refine gt ?_;refine aa (DZ (gh ?_)) ?_
 ·omega
 refine gt ?_;refine bR (fun hc => by cases hc) (fun _ => ?_);refine aa (cP (by omega) (by omega)) ?_
 have hs2 : (s : Int).toNat = s := by omega
 rw [hs2];refine aa (aoC (by omega)) ?_;refine aa (dt (by omega)) ?_;exact aq ⟨(), rfl, h.to⟩
theorem ej (w : Nat) : ax w ≤ 2305843009213693951 := by unfold ax; split <;> omega
theorem alD {w : Nat} (h : cB w = true ∧ aS w ≠ 2 ∧ ax w < 2305843009213693951) : aR w 0 = some (ax w + 1 + 2305843009213693952) := if_pos h
theorem LO {w : Nat} (h : ¬ (cB w = true ∧ aS w ≠ 2 ∧ ax w < 2305843009213693951)) : aR w 0 = none := if_neg h
theorem aoT {w : Nat} (h : aS w = 1) : aR w 1 = some (ax w) := if_pos h
theorem aoS {w : Nat} (h : ¬ aS w = 1) : aR w 1 = none := if_neg h
theorem aoV {w : Nat} (h : aS w = 0) : aR w 2 = some (ax w + 4611686018427387904) := if_pos h
theorem aoU {w : Nat} (h : ¬ aS w = 0) : aR w 2 = none := if_neg h
theorem Yz (w : Nat) (hw : w < 18446744073709551616) : Sp mv [vu w] emp (fun _ : Unit => On (aR w 0)) (fun _ => emp) := by
 refine aX (I0 _) fun R H h => ?_;have hcl := ej w;refine ag (by assumption) (uc w) fun _ _ _ => ?_;refine aa (oW) ?_
 by_cases hr : cB w = true
 ·rw [hr, Bool.not_true]
  refine gt ?_;refine ag (by assumption) (oZ w hw) fun _ _ _ => ?_;refine aa (DZ (dQ)) ?_
  by_cases hs : aS w = 2
  ·rw [beq_iff_eq.2 hs]
   refine gt ?_;refine bR (fun _ => ?_) (fun hc => by cases hc);exact aq ⟨(), by rw [LO (fun h => h.2.1 hs)]; rfl, ac.to (by assumption)⟩
  ·rw [beq_eq_false_iff_ne.2 hs]
   refine gt ?_;refine ag (by assumption) (jF w hw) fun _ _ _ => ?_;refine aa (DZ (dQ)) ?_;refine gt ?_;refine bR (fun hc => ?_) (fun hc => ?_)
   ·have hc : (ax w : Int) = 2305843009213693951 := by simpa using hc
    exact aq ⟨(), by rw [LO (fun h => by have := h.2.2; omega)]; rfl, ac.to (by assumption)⟩
   ·have hc : ¬ (ax w : Int) = 2305843009213693951 := by simpa using hc
    have ht := alD (w := w) ⟨hr, hs, by omega⟩;refine ag (by assumption) (jF w hw) fun _ _ _ => ?_;refine aa (dt (b := 1) (by omega)) ?_;refine ag (by assumption) (YA (ax w + 1) 1 (by omega) (by omega)) fun _ _ _ => ?_;refine aa rfl ?_;refine aa rfl ?_;refine aq ⟨(), ?_, ac.to (by assumption)⟩;rw [ht];simp [On];omega
 ·have hr : cB w = false := by simpa using hr
  rw [hr, Bool.not_false];refine gt ?_;refine bR (fun _ => ?_) (fun hc => by cases hc);exact aq ⟨(), by rw [LO (fun h => by rw [hr] at h; cases h.1)]; rfl, ac.to (by assumption)⟩
theorem OO (w how : Nat) (hw : w < 18446744073709551616) (hh : how < 3) : Sp oL [vu w, vi (how : Int)] emp (fun _ : Unit => On (aR w how)) (fun _ => emp) := by
 refine aX (D7 _ _) fun R H h => ?_;have hcl := ej w;refine ag (by assumption) (nY w hw) fun _ H1 h1 => ?_;refine aa rfl ?_;refine aa rfl ?_;refine aa rfl ?_;refine ah (xw _ _ _ _ _ _ H1) ?_;refine aa (oW) ?_;refine bR (fun hc => ?_) (fun hc => ?_)
 ·have hc : cB w = false := by simpa using hc
  have : aR w how = none := by
   match how, hh with
   | 0, _ => simp [aR, hc]
   | 1, _ => simp [aR, aS, hc]
   | 2, _ => simp [aR, aS, hc]
  exact aq ⟨(), by rw [this]; rfl, ac.to (by assumption)⟩
 ·have hr : cB w = true := by simpa using hc
  match how, hh with
  | 0, _ =>
   refine aa (bF rfl) ?_;refine gt ?_;refine aa (DZ (zI)) ?_;refine gt ?_
   by_cases hs : aS w = 2
   ·rw [bne_eq_false_iff_eq.2 hs]
    refine gt ?_;refine bR (fun hc => by cases hc) (fun _ => ?_);refine aa (aQ ?_) ?_
    ·omega
    refine gt ?_;refine bR (fun hc => by cases hc) (fun _ => ?_);refine aa (aQ ?_) ?_
    ·omega
    refine gt ?_;refine bR (fun hc => by cases hc) (fun _ => ?_);refine ah (gc _ _ H1) ?_;exact aq ⟨(), by rw [LO (fun h => h.2.1 hs)]; rfl, ac.to (by assumption)⟩
   ·rw [bne_iff_ne.2 hs]
    refine gt ?_;refine aa (DZ (rx)) ?_;refine gt ?_;refine bR (fun hc => ?_) (fun hc => ?_)
    ·have hc : (ax w : Int) < 2305843009213693951 := by simpa using hc
     have ht := alD (w := w) ⟨hr, hs, by omega⟩;refine aa (dt (b := 1) (by omega)) ?_;refine ag (by assumption) (CG (ax w + 1) 1 (by omega) (by omega)) fun _ _ _ => ?_;refine aa rfl ?_;refine aa rfl ?_;refine aq ⟨(), ?_, ac.to (by assumption)⟩;rw [ht];simp [On];omega
    ·have hc : ¬ (ax w : Int) < 2305843009213693951 := by simpa using hc
     refine aa (aQ ?_) ?_
     ·omega
     refine gt ?_;refine bR (fun hc => by cases hc) (fun _ => ?_);refine aa (aQ ?_) ?_
     ·omega
     refine gt ?_;refine bR (fun hc => by cases hc) (fun _ => ?_);refine ah (gc _ _ H1) ?_;exact aq ⟨(), by rw [LO (fun h => by have := h.2.2; omega)]; rfl, ac.to (by assumption)⟩
  | 1, _ =>
   refine aa (aQ ?_) ?_
   ·omega
   refine gt ?_;refine bR (fun hc => by cases hc) (fun _ => ?_);refine aa (bF rfl) ?_;refine gt ?_;refine aa (DZ (dQ)) ?_;refine gt ?_;refine bR (fun hc => ?_) (fun hc => ?_)
   ·have hc : aS w = 1 := by simpa using hc
    refine ag (by assumption) (CG (ax w) 0 (by omega) (by omega)) fun _ _ _ => ?_;refine aa rfl ?_;refine aa rfl ?_;exact aq ⟨(), by rw [aoT hc]; simp [On], ac.to (by assumption)⟩
   ·have hc : ¬ aS w = 1 := by simpa using hc
    refine aa (aQ ?_) ?_
    ·omega
    refine gt ?_;refine bR (fun hc => by cases hc) (fun _ => ?_);refine ah (gc _ _ H1) ?_;exact aq ⟨(), by rw [aoS hc]; rfl, ac.to (by assumption)⟩
  | 2, _ =>
   refine aa (aQ ?_) ?_
   ·omega
   refine gt ?_;refine bR (fun hc => by cases hc) (fun _ => ?_);refine aa (aQ ?_) ?_
   ·omega
   refine gt ?_;refine bR (fun hc => by cases hc) (fun _ => ?_);refine aa (bF rfl) ?_;refine gt ?_;refine aa (DZ (dQ)) ?_;refine gt ?_;refine bR (fun hc => ?_) (fun hc => ?_)
   ·have hc : aS w = 0 := by simpa using hc
    refine ag (by assumption) (CG (ax w) 2 (by omega) (by omega)) fun _ _ _ => ?_;refine aa rfl ?_;refine aa rfl ?_;refine aq ⟨(), ?_, ac.to (by assumption)⟩;rw [aoV hc];simp [On];omega
   ·have hc : ¬ aS w = 0 := by simpa using hc
    refine ah (gc _ _ H1) ?_;exact aq ⟨(), by rw [aoU hc]; rfl, ac.to (by assumption)⟩
theorem yJ (s : Int) : Sp jN [vi s] emp (fun _ : Unit => dM (8, s, 0)) (fun _ => emp) := by
 refine aX (Ds _) fun R H h => ?_
 repeat (first | refine bm ‹_› fun _ _ _ => ?_ | refine a7 ‹_› ?_ | refine fm ‹_› rfl rfl fun _ _ => ?_ | refine kP ?_)
 exact aq ⟨(), rfl, ac.to (by assumption)⟩
theorem Dt (s i : Int) : Sp kK [vi s, vi i] emp (fun _ : Unit => dM (10, s, i)) (fun _ => emp) := by
 refine aX (Ed _ _) fun R H h => ?_
 repeat (first | refine bm ‹_› fun _ _ _ => ?_ | refine a7 ‹_› ?_ | refine fm ‹_› rfl rfl fun _ _ => ?_ | refine kP ?_)
 exact aq ⟨(), rfl, ac.to (by assumption)⟩
theorem dH (k a b : Int) : Sp bX [vi k, vi a, vi b] emp (fun _ : Unit => dM (k, a, b)) (fun _ => emp) := by
 refine aX (OP _ _ _) fun R H h => ?_
 repeat (first | refine bm ‹_› fun _ _ _ => ?_ | refine a7 ‹_› ?_ | refine fm ‹_› rfl rfl fun _ _ => ?_ | refine kP ?_)
 exact aq ⟨(), rfl, ac.to (by assumption)⟩
def tab (t m : Nat) (sh sl : Nat) : SP := blk t (.cells false [vp m, vi sh, vi sl])
section
variable (t m : Nat) (sh sl : Nat) (μ : Mu) (who s i : Int)
theorem LF : Sp gr [vp t] (tab t m sh sl) (fun _ : Unit => vi sl) (fun _ => tab t m sh sl) := by
 refine aX (q8 _) fun R H h => ?_;unfold tab at h ⊢
 repeat refine av ‹_› ae rfl ?_
 exact aq ⟨(), rfl, ac.to (by assumption)⟩
theorem PV (hE : μ.N < 1099511627000) : Sp ic [vp t, vi who, vi s] (tab t m sh sl * bh m μ) (fun _ : Unit => vb (decide (μ.V (8, s, 0) = 0))) (fun _ => tab t m sh sl * bh m (μ.swp who (8, s, 0) 0 1)) := by
 refine aX (sA _ _ _) fun R H h => ?_;unfold tab at h ⊢
 repeat refine av ‹_› ae rfl ?_
 refine ag (by assumption) (yJ s) fun _ _ _ => ?_
 repeat refine aI ‹_› ‹_› rfl ?_
 refine ag (by assumption) (Oz m μ who (8, s, 0) 0 1 (by omega)) fun _ _ _ => ?_;exact aq ⟨(), rfl, ac.to (by assumption)⟩
theorem IU (hE : μ.N < 1099511627000) : Sp fQ [vp t, vi who, vi s] (tab t m sh sl * bh m μ) (fun _ : Unit => .tuple #[]) (fun _ => tab t m sh sl * bh m ((μ.acc who 2 (8, s, 0)).put (8, s, 0) 0)) := by
 refine aX (pO _ _ _) fun R H h => ?_;unfold tab at h ⊢
 repeat refine av ‹_› ae rfl ?_
 refine ag (by assumption) (yJ s) fun _ _ _ => ?_
 repeat refine aI ‹_› ‹_› rfl ?_
 refine ag (by assumption) (HY m μ who (8, s, 0) 0 (by omega)) fun _ _ _ => ?_;exact aq ⟨(), rfl, ac.to (by assumption)⟩
theorem aeC (hE : μ.N < 1099511627000) : Sp jy [vp t, vi who, vi s] (tab t m sh sl * bz m μ) (fun _ : Unit => vb (decide (μ.V (8, s, 0) = 0))) (fun _ => tab t m sh sl * bz m (μ.swp who (8, s, 0) 0 1)) := by
 refine aX (vO _ _ _) fun R H h => ?_;unfold tab at h ⊢
 repeat refine av ‹_› ae rfl ?_
 refine ag (by assumption) (dH 8 s 0) fun _ _ _ => ?_
 repeat refine aI ‹_› ‹_› rfl ?_
 refine ag (by assumption) (CV m μ who (8, s, 0) 0 1 (by omega)) fun _ _ _ => ?_;exact aq ⟨(), rfl, ac.to (by assumption)⟩
theorem OQ (hE : μ.N < 1099511627000) : Sp ia [vp t, vi who, vi s] (tab t m sh sl * bz m μ) (fun _ : Unit => .tuple #[]) (fun _ => tab t m sh sl * bz m ((μ.acc who 2 (8, s, 0)).put (8, s, 0) 0)) := by
 refine aX (sy _ _ _) fun R H h => ?_;unfold tab at h ⊢
 repeat refine av ‹_› ae rfl ?_
 refine ag (by assumption) (dH 8 s 0) fun _ _ _ => ?_
 repeat refine aI ‹_› ‹_› rfl ?_
 refine ag (by assumption) (xM m μ who (8, s, 0) 0 (by omega)) fun _ _ _ => ?_;exact aq ⟨(), rfl, ac.to (by assumption)⟩
def mE (v : Nat) : Value := if v = 0 then .tuple #[vi 0, vi 0, vb false] else .tuple #[vi ((v / 4294967296 : Nat) - 1), vi (v % 4294967296 : Nat), vb true]
theorem LE (hE : μ.N < 1099511627000) (hV : μ.V (10, s, i) < 18446744073709551616) :
 Sp ie [vp t, vi who, vi s, vi i] (tab t m sh sl * bh m μ) (fun _ : Unit => mE (μ.V (10, s, i))) (fun _ => tab t m sh sl * bh m (μ.acc who 1 (10, s, i))) := by
 refine aX (sB _ _ _ _) fun R H h => ?_;unfold tab at h ⊢
 repeat refine av ‹_› ae rfl ?_
 refine ag (by assumption) (Dt s i) fun _ _ _ => ?_
 repeat refine aI ‹_› ‹_› rfl ?_
 refine ag (by assumption) (xr m μ who (10, s, i) (by omega)) fun _ _ _ => ?_;refine aa (akJ (b := 0)) ?_;refine bR (fun hc => ?_) (fun hc => ?_)
 ·have hc : μ.V (10, s, i) = 0 := by simpa using hc
  refine aq ⟨(), by rw [mE, if_pos hc], ac.to (by assumption)⟩
 ·have hc : ¬ μ.V (10, s, i) = 0 := by simpa using hc
  refine aa (aoO) ?_;refine aa (fV (by omega)) ?_;refine aa (ba (by omega) (by omega)) ?_;refine aa (anP hV) ?_;refine aa (fV (by omega)) ?_;refine aq ⟨(), by rw [mE, if_neg hc], ac.to (by assumption)⟩
theorem Xn (hE : μ.N < 1099511627000) (hV : μ.V (10, s, i) < 18446744073709551616) :
 Sp jz [vp t, vi who, vi s, vi i] (tab t m sh sl * bz m μ) (fun _ : Unit => mE (μ.V (10, s, i))) (fun _ => tab t m sh sl * bz m (μ.acc who 1 (10, s, i))) := by
 refine aX (vP _ _ _ _) fun R H h => ?_;unfold tab at h ⊢
 repeat refine av ‹_› ae rfl ?_
 refine ag (by assumption) (dH 10 s i) fun _ _ _ => ?_
 repeat refine aI ‹_› ‹_› rfl ?_
 refine ag (by assumption) (qS m μ who (10, s, i) (by omega)) fun _ _ _ => ?_;refine aa (akJ (b := 0)) ?_;refine bR (fun hc => ?_) (fun hc => ?_)
 ·have hc : μ.V (10, s, i) = 0 := by simpa using hc
  refine aq ⟨(), by rw [mE, if_pos hc], ac.to (by assumption)⟩
 ·have hc : ¬ μ.V (10, s, i) = 0 := by simpa using hc
  refine aa (aoF hV) ?_;refine aa (fV (by omega)) ?_;refine aa (ba (by omega) (by omega)) ?_;refine aa (aoI) ?_;refine aa (fV (by omega)) ?_;refine aq ⟨(), by rw [mE, if_neg hc], ac.to (by assumption)⟩
end
def dY (v n : Int) : Int := (v % 18446744073709551616) % n
theorem fv {v n : Int} (h : 0 < n) : 0 ≤ dY v n ∧ dY v n < n := ⟨Int.emod_nonneg _ (by omega), Int.emod_lt_of_pos _ h⟩
theorem cy (v n : Int) (h0 : 0 < n) (h1 : n < 9223372036854775808) : Sp bn [vi v, vi n] emp (fun _ : Unit => vi (dY v n)) (fun _ => emp) := by
 refine aX (KR _ _) fun R H h => ?_
 have e1 : bI (some .u64) (vi v) = some (vu (v % 18446744073709551616).toNat) := by
  simp only [bI];rw [DJ];have : 0 ≤ v % 18446744073709551616 := Int.emod_nonneg _ (by omega);show _ = some (Value.int .u64 (((v % 18446744073709551616).toNat : Nat) : Int));rw [Int.toNat_of_nonneg this]
 refine aa (e1) ?_;refine aa (cP (by omega) (by omega)) ?_;refine aa (ip (by omega)) ?_;have hm := fv (v := v) h0
 have e2 : (((v % 18446744073709551616).toNat % n.toNat : Nat) : Int) = dY v n := by
  have : 0 ≤ v % 18446744073709551616 := Int.emod_nonneg _ (by omega);unfold dY;rw [Int.natCast_emod, Int.toNat_of_nonneg this, Int.toNat_of_nonneg (by omega)]
 refine aa (fV (by omega)) ?_;rw [e2];exact aq ⟨(), rfl, ac.to (by assumption)⟩
structure gf where
 sh : Int
 sl : Int
 wk : Int
 wd : Int
 un : Nat
abbrev gf.cells (c : gf) : List Value := [vi c.sh, vi c.sl, vi c.wk, vi c.wd, vu c.un]
structure Cl where
 op : Int
 flow : Int
 a : Int
 b : Int
abbrev Cl.cells (x : Cl) : List Value := [vi x.op, vi x.flow, vi x.a, vi x.b]
instance : Enc Cl.cells 4 := ⟨fun _ => rfl, fun _ => rfl, by omega⟩
structure Sv where
 a : Option Addr
 n : Nat
 c : Nat
abbrev Sv.v (s : Sv) : Value := .slice s.a s.n s.c
abbrev apF (s : Sv) : List Value := [.slice s.a s.n s.c]
instance : Enc apF 1 := ⟨fun _ => rfl, fun _ => rfl, by omega⟩
def ci (c : gf) : Bool := decide (1 ≤ c.sh ∧ c.sh ≤ 4 ∧ 1 ≤ c.sl ∧ c.sl ≤ 4 ∧ 1 ≤ c.wk ∧ c.wk ≤ 6 ∧ 0 ≤ c.wd ∧ c.wd ≤ 40 ∧ 1 ≤ c.un ∧ c.un ≤ 4611686018427387904)
theorem bV {c : gf} : ci c = true ↔ (1 ≤ c.sh ∧ c.sh ≤ 4 ∧ 1 ≤ c.sl ∧ c.sl ≤ 4 ∧ 1 ≤ c.wk ∧ c.wk ≤ 6 ∧ 0 ≤ c.wd ∧ c.wd ≤ 40 ∧ 1 ≤ c.un ∧ c.un ≤ 4611686018427387904) := by unfold ci; exact decide_eq_true_iff
theorem lm {c : gf} (h : ¬ (1 ≤ c.sh ∧ c.sh ≤ 4 ∧ 1 ≤ c.sl ∧ c.sl ≤ 4 ∧ 1 ≤ c.wk ∧ c.wk ≤ 6 ∧ 0 ≤ c.wd ∧ c.wd ≤ 40 ∧ 1 ≤ c.un ∧ c.un ≤ 4611686018427387904)) : ci c = false := by unfold ci; exact gU h
theorem f0 (x a b : Int) : Sp d8 [vi x, vi a, vi b] emp (fun _ : Unit => vb (decide (a ≤ x ∧ x ≤ b))) (fun _ => emp) := by
 refine aX (zf _ _ _) fun R H h => ?_
 by_cases h1 : a ≤ x
 ·refine aa (yw h1) ?_
  refine gs ?_
  by_cases h2 : x ≤ b
  ·refine aa (SO h2) ?_
   refine gs ?_;rw [iy ⟨h1, h2⟩];exact aq ⟨(), rfl, ac.to (by assumption)⟩
  ·refine aa (SN h2) ?_
   refine gs ?_;rw [gU (fun h => h2 h.2)];exact aq ⟨(), rfl, ac.to (by assumption)⟩
 ·refine aa (nH h1) ?_
  refine gs ?_;rw [gU (fun h => h1 h.1)];exact aq ⟨(), rfl, ac.to (by assumption)⟩
theorem KD (c : gf) : Sp mR [.agg (gf.cells c).toArray] emp (fun _ : Unit => vb (ci c)) (fun _ => emp) := by
 refine aX (Cz _) fun R H h => ?_;refine a8 h fun b H1 h1 => ?_;refine av h1 aE rfl ?_;refine ag h1 (f0 c.sh 1 4) fun _ K0 k0 => ?_
 by_cases g0 : (1 : Int) ≤ c.sh ∧ c.sh ≤ 4
 case neg =>
  rw [gU g0];refine gs ?_;rw [lm (by omega)];exact aq ⟨(), rfl, ac.to (by assumption)⟩
 rw [iy g0];refine gs ?_;refine av k0 aE rfl ?_;refine gs ?_;refine ag k0 (f0 c.sl 1 4) fun _ K1 k1 => ?_
 by_cases g1 : (1 : Int) ≤ c.sl ∧ c.sl ≤ 4
 case neg =>
  rw [gU g1];refine gs ?_;rw [lm (by omega)];exact aq ⟨(), rfl, ac.to (by assumption)⟩
 rw [iy g1];refine gs ?_;refine av k1 aE rfl ?_;refine gs ?_;refine ag k1 (f0 c.wk 1 6) fun _ K2 k2 => ?_
 by_cases g2 : (1 : Int) ≤ c.wk ∧ c.wk ≤ 6
 case neg =>
  rw [gU g2];refine gs ?_;rw [lm (by omega)];exact aq ⟨(), rfl, ac.to (by assumption)⟩
 rw [iy g2];refine gs ?_;refine av k2 aE rfl ?_;refine gs ?_;refine ag k2 (f0 c.wd 0 40) fun _ K3 k3 => ?_
 by_cases g3 : (0 : Int) ≤ c.wd ∧ c.wd ≤ 40
 case neg =>
  rw [gU g3];refine gs ?_;rw [lm (by omega)];exact aq ⟨(), rfl, ac.to (by assumption)⟩
 rw [iy g3];refine gs ?_;refine av k3 aE rfl ?_;refine gs ?_
 by_cases g4 : (1 : Int) ≤ c.un
 case neg =>
  refine aa (nH g4) ?_;refine gs ?_;rw [lm (by omega)];exact aq ⟨(), rfl, ac.to (by assumption)⟩
 refine aa (yw g4) ?_;refine gs ?_;refine av k3 aE rfl ?_;refine gs ?_
 by_cases g5 : (c.un : Int) ≤ 4611686018427387904
 case neg =>
  refine aa (SN g5) ?_;refine gs ?_;rw [lm (by omega)];exact aq ⟨(), rfl, ac.to (by assumption)⟩
 refine aa (SO g5) ?_;refine gs ?_;rw [bV.2 (by omega)];exact aq ⟨(), rfl, ac.to (by assumption)⟩
theorem DI (w : Int) : Sp oM [vi w] emp (fun x : Int => vi x) (fun _ => emp) := by
 refine aX (Ee _) fun R H h => ?_;refine aa (kz) ?_;refine aa (kA) ?_;exact aq ⟨_, rfl, h⟩
theorem Yy (w : Int) : Sp qH [vi w] emp (fun b : Nat => vp b) (fun _ => emp) := by
 refine aX (IZ _) fun R H h => ?_;refine ag h (DI w) fun x H1 h1 => ?_;refine ww h1 fun mb H2 h2 => ?_;refine LR rfl ?_;refine a8 h2 fun b H3 h3 => ?_;exact aq ⟨b, rfl, h3.to⟩
theorem acP : Sp tE [] emp (fun b : Nat => vp b) (fun _ => emp) := by
 refine aX Kn fun R H h => ?_;refine ww h fun mb H2 h2 => ?_;refine kP ?_;refine a8 h2 fun b H3 h3 => ?_;exact aq ⟨b, rfl, h3.to⟩
theorem Yc (w : Int) : Sp qF [vi w] emp (fun b : Nat => vp b) (fun _ => emp) := by
 refine aX (IQ _) fun R H h => ?_;refine ag h (Yy w) fun x H1 h1 => ?_;refine ag h1 acP fun y H2 h2 => ?_;refine kP ?_;refine a8 h2 fun b H3 h3 => ?_;exact aq ⟨b, rfl, h3.to⟩
theorem aeB (m : Nat) (s : Int) : Sp tI [vp m, vi s] emp (fun b : Nat => vp b) (fun _ => emp) := by
 refine aX (KU _ _) fun R H h => ?_;refine aa (kz) ?_;refine aa (kA) ?_;refine ww h fun mb H2 h2 => ?_;refine ww h2 fun mc H3 h3 => ?_;refine kP ?_;refine a8 h3 fun b H4 h4 => ?_;exact aq ⟨b, rfl, h4.to⟩
structure Lf where
 k : Int
 i : Int
 b : Bool
abbrev Lf.cells (x : Lf) : List Value := [vw x.k, vi x.i, vb x.b]
instance : Enc Lf.cells 3 := ⟨fun _ => rfl, fun _ => rfl, by omega⟩
def Du (t : Nat) (lv : Value) (s : Nat) (nv : Value) (m : List Int) : SP := blk t (.cells false [lv, vi s, nv]) * ts 1 dO nv m
theorem af9 (n : Int) : Sp tL [vi n] emp (fun b : Nat => vp b) (fun _ => emp) := by
 refine aX (LH _) fun R H h => ?_;refine aa (kz) ?_;refine aa (kA) ?_;obtain ⟨k, hk⟩ : ∃ k : Nat, min (max n 1) 16 = k := ⟨(min (max n 1) 16).toNat, by omega⟩;rw [hk]
 have hk1 : 1 ≤ k := by omega
 have hk16 : k ≤ 16 := by omega
 refine DF (enc := Lf.cells) (⟨0, 0, false⟩ : Lf) h rfl (by unfold room; omega) (by omega) fun lb H1 h1 => ?_;refine kP ?_;refine a8 h1 fun t H2 h2 => ?_;refine ah (Dv _ _ _ H2) ?_
 -- the nodes
 have nodes : ∀ (s : Nat) (H : AH), s ≤ 32 → ac (Du t (vs lb k 3) s (.slice none 0 0) [] * R) H → wp (rg (.pointer none) (vp t) H) fun v' H' => ∃ b : Nat, v' = vp b ∧ ac (emp * R) H' := by
  intro s H hs h;refine ah (Dw _ _ H) ?_;unfold Du at h;refine av h ae rfl ?_;refine aa (jf (by omega) (by omega)) ?_;refine ah (Dz _ _ _ _ H) ?_
  have loop : ∀ (d i : Nat) (nv : Value) (m : List Int) (H : AH), i + d = 2 * s → m.length = i → ac (blk t (.cells false [vs lb k 3, vi s, nv]) * ts 1 dO nv m * R) H → wp (mG (.pointer none) (vp t) (vi (2 * (s : Int))) (vi i) H) fun v' H' => ∃ b : Nat, v' = vp b ∧ ac (emp * R) H' := by
   intro d
   induction d with
   | zero =>
    intro i nv m H hi hm h;refine ah (rh _ _ _ _ H) ?_;refine aa (bu (by omega)) ?_;refine gs ?_;refine ah (yc _ _ H) ?_;refine ah (Dy _ _ H) ?_;exact aq ⟨t, rfl, h.to⟩
   | succ d ih =>
    intro i nv m H hi hm h;refine ah (rh _ _ _ _ H) ?_;refine aa (bO (by omega)) ?_;refine gs ?_;refine ah (DA _ _ _ _ H) ?_;refine av h ae rfl ?_;refine L8 h fun b0 H3 h3 => ?_;refine gu (-1 : Int) h3 rfl ?_ (by omega) fun a c H4 h4 => ?_
    ·unfold room; omega
    refine bw h4 ae rfl rfl fun H5 h5 => ?_;refine ah (DB _ _ _ _ H5) ?_;refine aa (aB (by omega) (by omega)) ?_;refine ih (i + 1) (.slice a (m.length + 1) c) (m ++ [-1]) H5 (by omega) (by simp; omega) h5.to
  exact loop (2 * s) 0 (.slice none 0 0) [] H (by omega) rfl h
 -- the size
 have size : ∀ (d s : Nat) (H : AH), 16 ≤ s + d → 1 ≤ s → s ≤ 32 → ac (Du t (vs lb k 3) s (.slice none 0 0) [] * R) H → wp (kO (vi k) (.pointer none) (vp t) H) fun v' H' => ∃ b : Nat, v' = vp b ∧ ac (emp * R) H' := by
  intro d
  induction d with
  | zero =>
   intro s H hd hs1 hs h;refine ah (py _ _ _ H) ?_;have h' := h;unfold Du at h';refine av h' ae rfl ?_;refine aa (bu (by omega)) ?_;refine gs ?_;refine ah (mF _ _ H) ?_;exact nodes s H hs h
  | succ d ih =>
   intro s H hd hs1 hs h;refine ah (py _ _ _ H) ?_;have h' := h;unfold Du at h';refine av h' ae rfl ?_
   by_cases hlt : (s : Int) < k
   ·refine aa (bO hlt) ?_
    refine gs ?_;refine ah (zE _ _ _ H) ?_;refine av h' ae rfl ?_;refine aa (jf (by omega) (by omega)) ?_;refine bw h' ae rfl rfl fun H3 h3 => ?_;refine ih (s * 2) H3 (by omega) (by omega) (by omega) ?_;unfold Du;rw [show (((s * 2 : Nat) : Int)) = (s : Int) * 2 from by omega];exact h3.to
   ·refine aa (bu hlt) ?_
    refine gs ?_;refine ah (mF _ _ H) ?_;exact nodes s H hs h
 refine size 16 1 H2 (by omega) (by omega) (by omega) ?_;unfold Du;have h3 := dr 1 dO h2;exact h3.to
abbrev o8 (b : Nat) : List Value := [vp b]
instance : Enc o8 1 := ⟨fun _ => rfl, fun _ => rfl, by omega⟩
theorem Xj (n w : Int) : Sp qD [vi n, vi w] emp (fun b : Nat => vp b) (fun _ => emp) := by
 refine aX (Id _ _) fun R H h => ?_;refine aa (kz) ?_;refine aa (kA) ?_;obtain ⟨k, hk⟩ : ∃ k : Nat, min (max n 1) 16 = k := ⟨(min (max n 1) 16).toNat, by omega⟩;rw [hk]
 have hk16 : k ≤ 16 := by omega
 refine ag h (af9 k) fun tb H1 h1 => ?_;refine kP ?_;refine a8 h1 fun q H2 h2 => ?_;refine ah (zo _ _ _ _ H2) ?_;refine ah (zq _ _ _ _ _ H2) ?_
 have loop : ∀ (d i : Nat) (nv : Value) (m : List Nat) (H : AH), i + d = k → m.length = i → ac (blk q (.cells false [nv, vp tb]) * ts 1 o8 nv m * R) H → wp (kM (vi w) (.pointer none) (vp q) (vi k) (vi i) H) fun v' H' => ∃ b : Nat, v' = vp b ∧ ac (emp * R) H' := by
  intro d
  induction d with
  | zero =>
   intro i nv m H hi hm h;refine ah (pj _ _ _ _ _ H) ?_;refine aa (bu (by omega)) ?_;refine gs ?_;refine ah (vF _ _ H) ?_;refine ah (zp _ _ H) ?_;exact aq ⟨q, rfl, h.to⟩
  | succ d ih =>
   intro i nv m H hi hm h;refine ah (pj _ _ _ _ _ H) ?_;refine aa (bO (by omega)) ?_;refine gs ?_;refine ah (zr _ _ _ _ _ H) ?_;refine bp ae ?_;refine aL h rfl ?_;refine ag h (Yc w) fun sb H3 h3 => ?_;refine aI h3 h rfl ?_;refine L8 h3 fun b0 H4 h4 => ?_;refine gu (sb : Nat) h4 rfl ?_ (by omega) fun a c H5 h5 => ?_
   ·unfold room; omega
   refine bw h5 ae rfl rfl fun H6 h6 => ?_;refine ah (zt _ _ _ _ _ H6) ?_;refine aa (aB (by omega) (by omega)) ?_;exact ih (i + 1) (.slice a (m.length + 1) c) (m ++ [sb]) H6 (by omega) (by simp; omega) h6.to
 refine loop k 0 (.slice none 0 0) [] H2 (by omega) rfl ?_;have h3 := dr 1 o8 h2;exact h3.to
theorem Zl (c : gf) : Sp tD [.agg (gf.cells c).toArray] emp (fun b : Nat => vp b) (fun _ => emp) := by
 refine aX (Jt _) fun R H h => ?_;refine a8 h fun cb H1 h1 => ?_;refine av h1 aE rfl ?_;refine av h1 aE rfl ?_;refine ag h1 (Xj c.sh c.wd) fun q H2 h2 => ?_;refine ww h2 fun mb H3 h3 => ?_;refine ww h3 fun mc H4 h4 => ?_;refine kP ?_;refine a8 h4 fun b H5 h5 => ?_;exact aq ⟨b, rfl, h5.to⟩
theorem O9 {cl : TCls} {w : Nat} (n : Nat) (h : n ≠ 0) : aj cl .rem (vu w) (.int .u64 (n : Int)) = some (vu (w % n)) := ip h
theorem AX (b b2 : Nat) (c : gf) (u : Nat) (hu : 1 ≤ u ∧ u ≤ 4611686018427387904) {R : SP} {H : AH} (h : ac (blk b2 (.cells false [vi 0, vi 0, vi 0, vi 0, vw 0]) * (blk b (.cells false (gf.cells c)) * R)) H) :
 wp (iW (vp b) (vp b2) (vu u) H) fun v' H' => ∃ c' : gf, v' = .agg (gf.cells c').toArray ∧ ac (pu (ci c' = true) * R) H' := by
 refine ah (vE _ _ _ H) ?_;refine av h aE rfl ?_;refine ag h (cy c.sh 4 (by omega) (by omega)) fun _ H1 h1 => ?_;have m1 := fv (v := c.sh) (n := 4) (by omega);refine aa (aB (by omega) (by omega)) ?_;refine bp aE ?_;refine aL h1 rfl ?_;refine aI h h1 rfl ?_;refine ag h1 (cy c.sl 4 (by omega) (by omega)) fun _ H2 h2 => ?_;have m2 := fv (v := c.sl) (n := 4) (by omega);refine aa (aB (by omega) (by omega)) ?_;refine bp aE ?_;refine aL h2 rfl ?_;refine aI h h2 rfl ?_;refine aI h1 h2 rfl ?_;refine ag h2 (cy c.wk 6 (by omega) (by omega)) fun _ H3 h3 => ?_;have m3 := fv (v := c.wk) (n := 6) (by omega);refine aa (aB (by omega) (by omega)) ?_;refine bp aE ?_;refine aL h3 rfl ?_;refine aI h h3 rfl ?_;refine aI h1 h3 rfl ?_;refine aI h2 h3 rfl ?_;refine ag h3 (cy c.wd 12 (by omega) (by omega)) fun _ H4 h4 => ?_;have m4 := fv (v := c.wd) (n := 12) (by omega);refine kP ?_;refine fm h4 rfl rfl fun H5 h5 => ?_;refine a7 h5 ?_;refine aq ⟨⟨1 + dY c.sh 4, 1 + dY c.sl 4, 1 + dY c.wk 6, dY c.wd 12, u⟩, rfl, ?_⟩;exact ac.pu.2 ⟨bV.2 (by dsimp only; omega), h5.to⟩
theorem KS (c : gf) : Sp mS [.agg (gf.cells c).toArray] emp (fun c' : gf => .agg (gf.cells c').toArray) (fun c' => pu (ci c' = true)) := by
 refine aZ fun R H h => ?_;rw [jI] at h;refine bf (fun r => CE _ H) ?_;refine a8 h fun b H1 h1 => ?_;refine bm h1 fun b2 H2 h2 => ?_;refine av h2 aE rfl ?_;refine aa (O9 5000 (by omega)) ?_;refine aa (dt (a := 1) (by omega)) ?_;refine ah (vD _ _ _ H2) ?_;refine av h2 aE rfl ?_;refine aa (O9 4 (by omega)) ?_;refine aa (dQ) ?_;refine bR (fun _ => ?_) (fun _ => ?_)
 ·refine av h2 aE rfl ?_
  refine aa (O9 4611686018427387904 (by omega)) ?_;have hm := Nat.mod_lt c.un (show 4611686018427387904 > 0 by omega)
  generalize c.un % 4611686018427387904 = u at hm
  refine aa (dt (a := 1) (by omega)) ?_;exact AX b b2 c _ (by omega) h2
 ·have hm := Nat.mod_lt c.un (show 5000 > 0 by omega)
  exact AX b b2 c _ (by omega) h2
section
variable {R : SP} {H : AH}
theorem Zf {b2 b3 : Nat} {y y2 : Cl} {P : SP} (h : ac (blk b3 (.cells false (Cl.cells y)) * (blk b2 (.cells false (Cl.cells y2)) * P)) H) : wp (cK (vp b2) (vp b3) H) fun v' H' => ∃ y : Cl, v' = .agg (Cl.cells y).toArray ∧ ac P H' := by
 refine ah (zl _ _ H) ?_;refine a7 h ?_;refine fm h rfl rfl fun H2 h2 => ?_;refine a7 h2 ?_;exact aq ⟨y, rfl, h2.to⟩
end
theorem Xf (x : Cl) : Sp qC [.agg (Cl.cells x).toArray] emp (fun y : Cl => .agg (Cl.cells y).toArray) (fun _ => emp) := by
 refine aZ fun R H h => ?_;rw [jI] at h;refine bf (fun r => Ic _ H) ?_;refine a8 h fun b1 H1 h1 => ?_;refine bm h1 fun b2 H2 h2 => ?_;refine av h2 aE rfl ?_;refine ag h2 (cy x.flow 23 (by omega) (by omega)) fun _ H3 h3 => ?_;simp only [jI];refine aa (dQ) ?_;refine bR (fun _ => ?_) (fun _ => ?_)
 ·refine a7 h3 ?_
  refine fm h3 rfl rfl fun H4 h4 => ?_;refine a7 h4 ?_;exact aq ⟨x, rfl, h4.to⟩
 refine av h3 aE rfl ?_;refine ag h3 (cy x.flow 5 (by omega) (by omega)) fun _ H4 h4 => ?_;refine kP ?_;refine bm h4 fun b3 H5 h5 => ?_;refine fm h5 rfl rfl fun H6 h6 => ?_
 -- what each kind ends with
 have fin : ∀ (y : Cl) {H7 : AH}, ac (blk b3 (.cells false (Cl.cells y)) * (blk b2 (.cells false (Cl.cells ⟨0, 0, 0, 0⟩)) * R)) H7 → wp (cK (vp b2) (vp b3) H7) fun v' H' => ∃ y : Cl, v' = .agg (Cl.cells y).toArray ∧ ac R H' := fun y {H7} h7 => Zf (y2 := ⟨0, 0, 0, 0⟩) h7;refine ah (zk _ _ _ H6) ?_;refine av h6 aE rfl ?_;refine ag h6 (cy x.op 10 (by omega) (by omega)) fun _ H7 h7 => ?_
 generalize dY x.op 10 = o
 refine ah (zm _ _ _ _ H7) ?_;refine aa (dQ) ?_;refine ah (zn _ _ _ _ _ H7) ?_;refine bR (fun _ => ?_) (fun _ => ?_)
 ·refine av h7 aE rfl ?_
  refine ag h7 (cy x.a 5 (by omega) (by omega)) fun _ H8 h8 => ?_;have m1 := fv (v := x.a) (n := 5) (by omega);refine aa (aB (by omega) (by omega)) ?_;refine bp aE ?_;refine aL h8 rfl ?_;refine aI h7 h8 rfl ?_;refine ag h8 (cy x.b 3 (by omega) (by omega)) fun _ H9 h9 => ?_;have m2 := fv (v := x.b) (n := 3) (by omega);refine aa (aB (by omega) (by omega)) ?_;refine bw h9 aE rfl rfl fun H10 h10 => ?_;refine bw h10 aE rfl rfl fun H11 h11 => ?_;refine bw h11 aE rfl rfl fun H12 h12 => ?_;exact fin ⟨1, dY x.flow 5, 1 + dY x.a 5, 1 + dY x.b 3⟩ h12.to
 refine aa (dQ) ?_;refine ah (xt _ _ _ _ _ H7) ?_;refine bR (fun _ => ?_) (fun _ => ?_)
 ·refine bw h7 aE rfl rfl fun H8 h8 => ?_
  exact fin ⟨2, dY x.flow 5, 0, 0⟩ h8.to
 have tail : ∀ q : Bool, wp (jO (vp b1) (vp b2) (vp b3) (vi o) (vb q) H7) fun v' H' => ∃ y : Cl, v' = .agg (Cl.cells y).toArray ∧ ac R H' := by
  intro q;refine ah (xu _ _ _ _ _ H7) ?_;refine bR (fun _ => ?_) (fun _ => ?_)
  ·refine kP ?_
   refine fm h7 rfl rfl fun H8 h8 => ?_;exact fin ⟨4, 0, 0, 0⟩ h8.to
  refine aa (dQ) ?_;refine bR (fun _ => ?_) (fun _ => ?_)
  ·refine av h7 aE rfl ?_
   refine ag h7 (cy x.a 6 (by omega) (by omega)) fun _ H8 h8 => ?_;refine kP ?_;refine fm h8 rfl rfl fun H9 h9 => ?_;exact fin ⟨5, 0, dY x.a 6, 0⟩ h9.to
  refine aa (dQ) ?_;refine bR (fun _ => ?_) (fun _ => ?_)
  ·refine kP ?_
   refine fm h7 rfl rfl fun H8 h8 => ?_;exact fin ⟨6, 0, 0, 0⟩ h8.to
  refine av h7 aE rfl ?_;refine ag h7 (cy x.a 9 (by omega) (by omega)) fun _ H8 h8 => ?_;have m1 := fv (v := x.a) (n := 9) (by omega);refine aa (aB (by omega) (by omega)) ?_;refine bp aE ?_;refine aL h8 rfl ?_;refine aI h7 h8 rfl ?_;refine ag h8 (cy x.b 1000 (by omega) (by omega)) fun _ H9 h9 => ?_;refine bw h9 aE rfl rfl fun H10 h10 => ?_;refine bw h10 aE rfl rfl fun H11 h11 => ?_;refine bw h11 aE rfl rfl fun H12 h12 => ?_;refine av h12 aE rfl ?_;refine ag h12 (cy x.a 13 (by omega) (by omega)) fun _ H13 h13 => ?_;refine aa (dQ) ?_;refine bR (fun _ => ?_) (fun _ => ?_)
  ·refine av h13 aE rfl ?_
   refine ag h13 (cy x.a 65536 (by omega) (by omega)) fun _ H14 h14 => ?_;have m2 := fv (v := x.a) (n := 65536) (by omega);refine aa (aB (by omega) (by omega)) ?_;refine bw h14 aE rfl rfl fun H15 h15 => ?_;exact fin ⟨3, dY x.flow 5, 1 + dY x.a 65536, dY x.b 1000⟩ h15.to
  ·exact fin ⟨3, dY x.flow 5, 1 + dY x.a 9, dY x.b 1000⟩ h13.to
 refine aa (dQ) ?_;refine bR (fun _ => tail _) (fun _ => ?_);refine aa (dQ) ?_;exact tail _
structure Pk where
 flow : Int
 len : Int
 mark : Int
abbrev Pk.cells (x : Pk) : List Value := [vi x.flow, vi x.len, vi x.mark]
instance : Enc Pk.cells 3 := ⟨fun _ => rfl, fun _ => rfl, by omega⟩
structure Ob where
 flow : Int
 most : Int
 r : Nat
structure Pt where
 step : Int
 who : Int
 place : Int
 e : Int
abbrev n3 (e : Int) : List Value := [vi e, .slice none 0 0, vi 0, vw 0]
abbrev Pt.cells (x : Pt) : List Value := [vi x.step, vi x.who, vi x.place, vi x.e, .slice none 0 0, vi 0, vw 0]
instance : Enc Pt.cells 7 := ⟨fun _ => rfl, fun _ => rfl, by omega⟩
structure az where
 c : gf
 μ : Mu
 obs : List (Ob × List Pk)
 nx : Int → Option Nat
 places : Int → Option Int
 pts : List Pt
def eH (n : Int) : Nat := (min (max n 1) 8).toNat
theorem rT (n : Int) : 1 ≤ eH n ∧ eH n ≤ 8 ∧ (eH n : Int) = min (max n 1) 8 := by unfold eH; omega
abbrev OH : Pk := ⟨0, 0, 0⟩
abbrev L4 (k : Int) : Value := vi k
instance : KeyE .int L4 where
 eq a b := by
  simp only [j0, L4, if_true]
  congr 1
 ok a := rfl
def bW (m i rp : Nat) (cs : List Pk) : SP := ex fun cv : Value => blk rp (.cells false [vp m, vi i, cv]) * ts 3 Pk.cells cv cs
def l5 (m : Nat) : Nat → List (Nat × List Pk) → SP
 | _, [] => emp
 | i, p :: ps => bW m i p.1 p.2 * l5 m (i + 1) ps
theorem Lc (m : Nat) : ∀ (ps : List (Nat × List Pk)) (i : Nat) (q : Nat × List Pk), l5 m i (ps ++ [q]) = l5 m i ps * bW m (i + ps.length) q.1 q.2 := by
 intro ps
 induction ps with
 | nil => intro i q; show bW m i q.1 q.2 * emp = emp * bW m (i + 0) q.1 q.2; rw [eN, jI]; rfl
 | cons p ps ih =>
  intro i q;show bW m i p.1 p.2 * l5 m (i + 1) (ps ++ [q]) = bW m i p.1 p.2 * l5 m (i + 1) ps * _;rw [ih, ar, List.length_cons, show i + 1 + ps.length = i + (ps.length + 1) from by omega]
abbrev Bb (x : Ob × Nat) : List Value := [vi x.1.flow, vi x.1.most, vu x.1.r, vp x.2]
instance : Enc Bb 4 := ⟨fun _ => rfl, fun _ => rfl, by omega⟩
structure PIds where
 m : Nat
 ib : Nat
 tb : Nat
 po : Nat
 co : Nat
 ov : Value
 pm : Nat
 pv : Value
 nm : Nat
 rp : List Nat
def kG (ib m nm : Nat) (c : gf) (nx : Int → Option Nat) : SP :=
 blk ib (.cells false [vp m, vi c.sh, .map (some nm), .func (.func be) #[vi 9] #[], .func (.func be) #[vi 14] #[]]) * YH L4 nm (fun k => (nx k).map fun n => vu n)
def aJ (p : Nat) (g : PIds) (σ : az) : SP :=
 blk p (.cells false [vp g.m, vp g.ib, vp g.tb, vp g.po, vp g.co, vi σ.c.sh, vi σ.c.sl, vi σ.c.wk, vi σ.c.wd, vu σ.c.un, g.ov, .map (some g.pm), g.pv]) *
 (bh g.m σ.μ * (kG g.ib g.m g.nm σ.c σ.nx * (tab g.tb g.m σ.c.sh.toNat σ.c.sl.toNat * (ts 4 Bb g.ov ((σ.obs.map fun x => x.1).zip g.rp) * (l5 g.m 0 (g.rp.zip (σ.obs.map fun x => x.2)) *
 (YH L4 g.pm (fun k => (σ.places k).map fun n => vi n) * ts 7 Pt.cells g.pv σ.pts))))))
def fj (p : Nat) (σ : az) : SP := ex fun g : PIds => pu (g.rp.length = σ.obs.length) * aJ p g σ
theorem mA {p : Nat} {σ : az} {R : SP} {H : AH} (h : ac (fj p σ * R) H) : ∃ g : PIds, g.rp.length = σ.obs.length ∧ ac (aJ p g σ * R) H := by
 obtain ⟨g, h1⟩ := ac.ex.1 h;rw [ar, ac.pu] at h1;exact ⟨g, h1⟩
theorem oP {p : Nat} {σ : az} {R : SP} {H : AH} (g : PIds) (hl : g.rp.length = σ.obs.length) (h : ac (aJ p g σ * R) H) : ac (fj p σ * R) H :=
 ac.ex.2 ⟨g, by rw [ar]; exact ac.pu.2 ⟨hl, h⟩⟩
abbrev az.new (c : gf) : az := ⟨c, ⟨fun _ => 0, [], 0⟩, [], fun _ => none, fun _ => none, []⟩
theorem adA : Sp xo [] emp (fun b : Nat => vp b) (fun b => bh b ⟨fun _ => 0, [], 0⟩) := by
 refine aX Oi fun R H h => ?_;refine ww h fun mb H2 h2 => ?_;refine kP ?_;refine a8 h2 fun b H3 h3 => ?_;refine aq ⟨b, rfl, ac.ex.2 ⟨(mb, .slice none 0 0, [], [], 0), ?_⟩⟩;rw [ar, ac.pu];refine ⟨⟨.nil, fun _ => rfl, bj _⟩, ?_⟩;have := T8 5 h3;show ac (blk b (.cells false [.map (some mb), .slice none 0 0]) * (blk mb (.map [] 0) * sl 5 (.slice none 0 0) 0 []) * R) H3;exact this.to
theorem N1 (m : Nat) (c : gf) (hc : ci c = true) : Sp qz [vp m, vi c.sh] emp (fun b : Nat => vp b) (fun b => ex fun nm : Nat => kG b m nm c fun _ => none) := by
 have hc := bV.1 hc;refine aX (HE _ _) fun R H h => ?_;refine aa (kz) ?_;refine aa (kA) ?_;rw [show min (max c.sh 1) 4 = c.sh from by omega];refine ww h fun mb H2 h2 => ?_;refine kP ?_;refine a8 h2 fun b H3 h3 => ?_;refine aq ⟨b, rfl, ac.ex.2 ⟨mb, ?_⟩⟩;unfold kG;have h4 : ac (blk mb (.map [] 0) * (blk b (.cells false [vp m, vi c.sh, .map (some mb), .func (.func be) #[vi 9] #[], .func (.func be) #[vi 14] #[]]) * (emp * R))) H3 := h3.to;have h5 := ST L4 h4;show ac (blk b (.cells false [vp m, vi c.sh, .map (some mb), .func (.func be) #[vi 9] #[], .func (.func be) #[vi 14] #[]]) * YH L4 mb (fun _ => none) * R) H3;exact h5.to
theorem PW (m : Nat) (c : gf) (hc : ci c = true) : Sp qG [vp m, vi c.sh, vi c.sl] emp (fun b : Nat => vp b) (fun b => tab b m c.sh.toNat c.sl.toNat) := by
 have hc := bV.1 hc;refine aX (IT _ _ _) fun R H h => ?_;refine aa (kz) ?_;refine aa (kA) ?_;refine aa (kz) ?_;refine aa (kA) ?_;rw [show min (max c.sh 1) 4 = ((c.sh.toNat : Nat) : Int) from by omega, show min (max c.sl 1) 4 = ((c.sl.toNat : Nat) : Int) from by omega];refine kP ?_;refine a8 h fun b H3 h3 => ?_;exact aq ⟨b, rfl, by unfold tab; exact h3.to⟩
theorem OD (c : gf) (hc : ci c = true) : Sp qB [.agg (gf.cells c).toArray] emp (fun b : Nat => .tuple #[vp b, vi 0]) (fun b => fj b (az.new c)) := by
 refine aX (HZ _) fun R H h => ?_;refine a8 h fun cb H1 h1 => ?_;refine a7 h1 ?_;refine ag h1 (KD c) fun _ H2 h2 => ?_;rw [hc];refine gs ?_;rw [Bool.not_true];refine gs ?_;refine ag h2 adA fun m H3 h3 => ?_;refine av h3 aE rfl ?_;refine ag h3 (N1 m c hc) fun ib H4 h4 => ?_;obtain ⟨nm, h4b⟩ := ac.ex.1 h4;refine bp aE ?_;refine aL h4b rfl ?_;refine aI h3 h4b rfl ?_;refine bp aE ?_;refine aL h4b rfl ?_;refine aI h3 h4b rfl ?_;refine ag h4b (PW m c hc) fun tb H5 h5 => ?_;refine bp aE ?_;refine aL h5 rfl ?_;refine aI h3 h5 rfl ?_;refine aI h4b h5 rfl ?_;refine ag h5 (aeB m c.wk) fun pb H6 h6 => ?_;refine a7 h6 ?_;refine en h3 h6 rfl ?_;refine en h4b h6 rfl ?_;refine en h5 h6 rfl ?_;refine ag h6 (Zl c) fun kb H7 h7 => ?_;refine a7 h7 ?_;refine en h3 h7 rfl ?_;refine en h4b h7 rfl ?_;refine en h5 h7 rfl ?_;refine en h6 h7 rfl ?_;refine ww h7 fun mb H8 h8 => ?_;refine kP ?_;refine a8 h8 fun b H9 h9 => ?_;refine aq ⟨b, rfl, ?_⟩;refine oP ⟨m, ib, tb, pb, kb, .slice none 0 0, mb, .slice none 0 0, nm, []⟩ rfl ?_;have h10 := dr 4 Bb (dr 7 Pt.cells h9);have h11 : ac (blk mb (.map [] 0) * (ts 4 Bb (.slice none 0 0) [] * (ts 7 Pt.cells (.slice none 0 0) [] * (blk b (.cells false [vp m, vp ib, vp tb, vp pb, vp kb, vi c.sh, vi c.sl, vi c.wk, vi c.wd, vu c.un, .slice none 0 0, .map (some mb), .slice none 0 0]) * (bh m ⟨fun _ => 0, [], 0⟩ * (kG ib m nm c (fun _ => none) * (tab tb m c.sh.toNat c.sl.toNat * (emp * R)))))))) H9 := h10.to;have h12 := ST L4 h11;show ac (blk b (.cells false [vp m, vp ib, vp tb, vp pb, vp kb, vi c.sh, vi c.sl, vi c.wk, vi c.wd, vu c.un, .slice none 0 0, .map (some mb), .slice none 0 0]) * (bh m ⟨fun _ => 0, [], 0⟩ * (kG ib m nm c (fun _ => none) * (tab tb m c.sh.toNat c.sl.toNat * (ts 4 Bb (.slice none 0 0) [] * (emp * (YH L4 mb (fun _ => none) * ts 7 Pt.cells (.slice none 0 0) [])))))) * R) H9;exact h12.to
section
variable (p : Nat) (σ : az)
theorem aeV (m i : Nat) (most : Int) : Sp tK [vp m, vi i, vi most] emp (fun b : Nat => vp b) (fun b => bW m i b (List.replicate (eH most) OH)) := by
 obtain ⟨q1, q2, q3⟩ := rT most;refine aX (Lb _ _ _) fun R H h => ?_;refine aa (kz) ?_;refine aa (kA) ?_;rw [← q3];refine DF (enc := Pk.cells) OH h rfl (by unfold room; omega) (by omega) fun cb H1 h1 => ?_;refine kP ?_;refine a8 h1 fun b H2 h2 => ?_;refine aq ⟨b, rfl, ?_⟩;unfold bW;exact ac.ex.2 ⟨vs cb (eH most) 3, h2.to⟩
abbrev az.make (σ : az) (who : Int) (o : Ob) : az := { σ with μ := σ.μ.acc who 6 (13, σ.obs.length, 0), obs := σ.obs ++ [(o, List.replicate (eH o.most) OH)] }
theorem OC (who : Int) (o : Ob) (hE : σ.μ.N < 1099511627000) (ho : σ.obs.length < 1000000) : Sp hF [vp p, vi who, .agg (#[vi o.flow, vi o.most, vu o.r] : Array Value)] (fj p σ) (fun _ : Unit => vi σ.obs.length) (fun _ => fj p (σ.make who o)) := by
 refine aZ fun R H h => ?_;obtain ⟨g, hg, h0⟩ := mA h
 have hz : ((σ.obs.map fun x => x.1).zip g.rp).length = σ.obs.length := by simp [hg]
 unfold aJ at h0;refine bf (fun r => sq _ _ _ H) ?_;refine a8 (l := [vi o.flow, vi o.most, vu o.r]) h0 fun ob H1 h1 => ?_;refine av h1 ae rfl ?_;refine oX (s := g.ov) h1 ?_;rw [hz];refine av h1 ae rfl ?_;refine kP ?_;refine ag h1 ((xj g.m σ.μ who (13, σ.obs.length, 0) (by omega)).imp fun _ R H h => iI (N' := σ.μ.N + 2) (by simp) h) fun _ H2 h2 => ?_;refine bp ae ?_;refine aL h2 rfl ?_;refine a7 h2 ?_;refine av h2 ae rfl ?_;refine av h2 aE rfl ?_;refine ag h2 (aeV g.m σ.obs.length o.most) fun rb H3 h3 => ?_;refine aI h3 h2 rfl ?_;refine en h3 h2 rfl ?_;refine kP ?_;refine L8 h3 fun b0 H4 h4 => ?_;refine gu ((o, rb) : Ob × Nat) h4 rfl ?_ (by omega) fun a cc H5 h5 => ?_
 ·unfold room; omega
 refine bw h5 ae rfl rfl fun H6 h6 => ?_;refine aq ⟨(), rfl, ?_⟩;refine oP { g with ov := .slice a (((σ.obs.map fun x => x.1).zip g.rp).length + 1) cc, rp := g.rp ++ [rb] } (by simp [az.make, hg]) ?_;unfold aJ az.make;dsimp only
 have e1 : ((σ.obs ++ [(o, List.replicate (eH o.most) OH)]).map fun x => x.1).zip (g.rp ++ [rb]) = ((σ.obs.map fun x => x.1).zip g.rp) ++ [(o, rb)] := by
  rw [Kv, List.zip_append (by simp [hg])]
  rfl
 have e2 : (g.rp ++ [rb]).zip ((σ.obs ++ [(o, List.replicate (eH o.most) OH)]).map fun x => x.2) = (g.rp.zip (σ.obs.map fun x => x.2)) ++ [(rb, List.replicate (eH o.most) OH)] := by
  rw [Kv, List.zip_append (by simp [hg])]
  rfl
 have e3 : 0 + (g.rp.zip (σ.obs.map fun x => x.2)).length = σ.obs.length := by simp [hg]
 rw [e1, e2, Lc, e3];exact h6.to
theorem xX : Sp adG [.slice none 0 0] emp (fun _ : Unit => .slice none 0 0) (fun _ => emp) := by
 refine aX (amU _) fun R H h => ?_;refine aa (v := vb true) rfl ?_;refine gs ?_;exact aq ⟨(), rfl, ac.to (by assumption)⟩
theorem sW (e : Int) : Sp mt [.agg (n3 e).toArray] emp (fun _ : Unit => .agg (n3 e).toArray) (fun _ => emp) := by
 refine aX (Ia _) fun R H h => ?_;refine a8 h fun b1 H1 h1 => ?_;refine bm h1 fun b2 H2 h2 => ?_;refine av h2 aE rfl ?_;refine ag h2 xX fun _ H3 h3 => ?_;refine bw h3 aE rfl rfl fun H4 h4 => ?_;refine a7 h4 ?_;refine fm h4 rfl rfl fun H5 h5 => ?_;refine a7 h5 ?_;exact aq ⟨(), rfl, h5.to⟩
abbrev az.note (σ : az) (step who e : Int) : az := { σ with pts := σ.pts ++ [⟨step, who, (σ.places who).getD 0, e⟩] }
theorem agL {P R P2 R2 : SP} {H H2 : AH} {b : Nat} {f : Int → Option Value} {zero : Value} {kk : OV} {Q : Value → AH → Prop} (k : Int) (h : ac P H) [m : Mp P b L4 f R] (h2 : ac P2 H2) [m2 : Mp P2 b L4 f R2] (hk : wp kk Q) :
 wp (bJ (cu .int zero (.map (some b)) (vi k) false H) (cu .int zero (.map (some b)) (vi k) false H2) kk) Q := by
 have one : ∀ {P R : SP} {H : AH} (h : ac P H) [m : Mp P b L4 f R], cu .int zero (.map (some b)) (vi k) false H = some ((f k).getD zero) := by
  intro P R H h m;obtain ⟨v, H', e, q⟩ : wp ((cu .int zero (.map (some b)) (vi k) false H).bind fun v => some (v, H)) (fun v _ => v = (f k).getD zero) := Ul (ek := L4) k h (aq rfl);obtain ⟨v', e1, e2⟩ := aG.1 e
  have : v' = v := by simpa using congrArg (fun x => x.map Prod.fst) e2
  have e1' : cu .int zero (.map (some b)) (vi k) false H = some v' := e1;rw [e1', this, q]
 exact DE (by rw [one h, one h2]) hk
end
end Go.Proofs.YtghoamdlcjdfjaaGreatDoor.Gst
