/- Several texts in one. -/
import Derived.Test.YtghoamdlcjdfjaaGreatDoorOc
namespace Go.Proofs.YtghoamdlcjdfjaaGreatDoor.Gst
open Go Go.RowKit
set_option maxRecDepth 100000
set_option linter.unusedVariables false
set_option maxHeartbeats 1000000
set_option linter.unusedSimpArgs false
set_option synthInstance.maxSize 2000
set_option synthInstance.maxHeartbeats 400000
section
variable (Y Z x2 x3 x4 x5 x6 x8 x13 x14 x15 : Value) (H : AH)
theorem CJ {r : Value × AH} (h : (
 aW (Value.cells x3).toList H fun c a =>
 ld [.n, .f 1] Y a fun d =>
 (ax 3 c a).bind fun e =>
 gY [(0, 1), (1, 1), (2, 3)] [(vi 0), (vi 0), (vi 0), (vi 0), (vi 0)] [(0, Z), (1, x2), (2, e)] fun g =>
 wL 1 5 [(vi 0), (vi 0), (vi 0), (vi 0), (vi 0)] [(0, g)] a fun i j =>
 (dS 5 40 d i j).bind fun b =>
 st 1 [.n, .f 1] Y b.1 b.2 fun k =>
 some (Value.tuple #[], k)) = some r) : FF dx [Y, Z, x2, x3] H = some r :=
 fo Tryz.func104 (by kernel_rfl) h
theorem CG {r : Value × AH} (h : (
 aW (Value.cells Z).toList H fun b a =>
 ld [.n, .f 0] Y a fun c =>
 (ax 3 b a).bind fun d =>
 (cZ (.flat 3) (.agg #[(vw 0)]) c d false a).bind fun e =>
 (lP none 0 e).bind fun g =>
 some (g, a)) = some r) : FF fG [Y, Z] H = some r :=
 fo Tryz.func105 (by kernel_rfl) h
theorem sT {r : Value × AH} (h : (
 ld [.n, .f 11] Y H fun a =>
 (e8 .int a Z x2 H).bind fun b =>
 some (Value.tuple #[], b)) = some r) : FF ix [Y, Z, x2] H = some r :=
 fo Tryz.func106 (by kernel_rfl) h
theorem wg {r : Value × AH} (h : (
 ld [.n, .f 12] Y H fun b =>
 wL 2 1 [(vi 0)] [(0, Z), (1, x2)] H fun c d =>
 (dS 1 8 b c d).bind fun a =>
 st 1 [.n, .f 12] Y a.1 a.2 fun e =>
 some (Value.tuple #[], e)) = some r) : FF jz [Y, Z, x2] H = some r :=
 fo Tryz.func107 (by kernel_rfl) h
noncomputable def Ki (p : List Nat) : Code := Code.sub (bH Tryz.f108) p
noncomputable def vk : KK := dM PP (Tryz.f108).results.toList
noncomputable def Td : KK := CQ (Ki [1]) vk bA vk
noncomputable def Bu : OV := Td (ls [Y, Z, u, u, x4, x5] 45) H
noncomputable def Kj : KK := CQ (Ki [1, 1]) vk bA vk
noncomputable def ak3 : KK := eG SX Kj
noncomputable def rR : OV := Kj (ls [Y, Z, u, u, x4, x5] 45) H
noncomputable def ak4 : KX := BX 0 ak3 bA
theorem xd : ar 2251799813685199 vk := rf
theorem W6 : ar SX Td := rc xd aB xd
theorem IP : ar SX Kj := rc xd aB xd
theorem W7 : ∀ i, ar SX (ak4 i) := rb (cd IP) aB
theorem ES : rR Y Z x4 x5 H =
 (FF j9 [Y, Z] H).bind fun a =>
 (ag a.1 0).bind fun c =>
 (ag a.1 1).bind fun d =>
 (cH 4 x4 c a.2).bind fun b =>
 (ax 4 x4 b).bind fun e => some (Value.tuple #[e, d], b) :=
 (by kernel_rfl)
theorem EQ : Bu Y Z x4 x5 H =
 ld [.n, .f 2, .f 2] Y H fun i =>
 (aj .other .lss i (vi 1)).bind fun a =>
 (gV a false Y).bind fun j =>
 fc a false  [.n, .f 2, .f 2] j H fun k =>
 (gB a false (aj .other .gtr k (vi 65536))).bind fun l =>
 (aK a (vb true) l).bind fun m =>
 av m
 ((FF ja [Y, Z, (vi 3)] H).bind fun c =>
 (ag c.1 0).bind fun o =>
 (ag c.1 1).bind fun p =>
 (cH 4 x4 o c.2).bind fun e =>
 (ax 4 x4 e).bind fun q => some (Value.tuple #[q, p], e))
 (ld [.n, .f 2, .f 1] Y H fun s =>
 (aj .other .lss s (vi 0)).bind fun b =>
 (gV b false Y).bind fun t =>
 fc b false  [.n, .f 2, .f 1] t H fun w =>
 (gB b false (aj .other .gtr w (vi 1048576))).bind fun y =>
 (aK b (vb true) y).bind fun z =>
 av z
 ((FF ja [Y, Z, (vi 5)] H).bind fun d =>
 (ag d.1 0).bind fun A =>
 (ag d.1 1).bind fun B =>
 (cH 4 x4 A d.2).bind fun g =>
 (ax 4 x4 g).bind fun C => some (Value.tuple #[C, B], g))
 (rR Y Z x4 x5 H)) :=
 (pt rfl 0 IP (bt rfl (Ki [1, 0, 4]) 0 W7 (by kernel_rfl)))
noncomputable def acA : OV := be PP GG FF (Ki []) (ls [Y, Z] 49) H vk bA vk
theorem Nz {r : Value × AH} (h : (
 aW [(vi 0), (.slice none 0 0), (vi 0), (vw 0)] H fun a b =>
 Bu Y Z a (vb false) b) = some r) : FF ne [Y, Z] H = some r :=
 fo (t := acA Y Z H) Tryz.func108 (by kernel_rfl) (Eq.trans (pt rfl 0 W6 (by kernel_rfl)) h)
noncomputable def P8 (p : List Nat) : Code := Code.sub (bH Tryz.f109) p
noncomputable def vl : KK := dM PP (Tryz.f109).results.toList
noncomputable def Te : KK := CQ (P8 [1, 1]) vl bA vl
noncomputable def nH : OV := Te (ls [Y, u, u, u, x4, x5] 15) H
noncomputable def Tf : KK := CQ (P8 [1, 1, 1]) vl bA vl
noncomputable def iX : OV := Tf (ls [u, u, u, u, x4, x5] 15) H
theorem xe : ar 2097135 vl := rf
theorem W8 : ar 2097102 Te := rc xe aB xe
theorem W9 : ar 2097103 Tf := rc xe aB xe
theorem jX : iX x4 x5 H =
 some (x5, H) :=
 (by kernel_rfl)
theorem rJ : nH Y x4 x5 H =
 (aj .other .lss x5 (vi 0)).bind fun a =>
 av a
 (ld [.n, .f 1] Y H fun b =>
 (aj .other .add x5 b).bind fun c =>
 iX x4 c H)
 (iX x4 x5 H) :=
 (pt rfl 0 W9 (by kernel_rfl))
noncomputable def Do : OV := be PP GG FF (P8 []) (ls [Y, Z] 19) H vl bA vl
theorem wj {r : Value × AH} (h : (
 ld [.n, .f 1] Y H fun a =>
 (aj .other .rem Z a).bind fun b =>
 nH Y (vi 0) b H) = some r) : FF eZ [Y, Z] H = some r :=
 fo (t := Do Y Z H) Tryz.func109 (by kernel_rfl) (Eq.trans (pt rfl 1 W8 (by kernel_rfl)) h)
theorem A6 {r : Value × AH} (h : (
 gY [(0, 1), (1, 1), (2, 1), (3, 1)] [(vi 0), (.slice none 0 0), (vi 0), (vw 0)] [(0, x2)] fun b =>
 st 4 [.n, .f 17] Y b H fun a =>
 ld [.n, .f 0] Y a fun c =>
 ld [.n, .f 1] Y a fun d =>
 ldN 4 [.n, .f 17] Y a fun e =>
 (FF ag2 [c, Z, d, e] a).bind fun g =>
 some (Value.tuple #[], g.2)) = some r) : FF bE [Y, Z, x2] H = some r :=
 fo Tryz.func110 (by kernel_rfl) h
noncomputable def Qd (p : List Nat) : Code := Code.sub (bH Tryz.f111) p
noncomputable def vm : KK := dM PP (Tryz.f111).results.toList
noncomputable def Tg : KK := CQ (Qd [1, 1, 1]) vm bA vm
noncomputable def ah6 : OV := Tg (ls [Y, u, x2, x3, u, u, x6] 88) H
noncomputable def Th : KK := CQ (Qd [1, 1, 1, 1]) vm bA vm
noncomputable def GQ : OV := Th (ls [Y, u, x2, x3] 91) H
theorem xg : ar 39614081257132168796771975155 vm := rf
theorem Xb : ar 39614081257132168796771975090 Tg := rc xg aB xg
theorem Xc : ar 39614081257132168796771975154 Th := rc xg aB xg
theorem Jy : GQ Y x2 x3 H =
 ld [.n, .f 7] Y H fun b =>
 (aj .other .add b (vi 1)).bind fun c =>
 st 1 [.n, .f 7] Y c H fun a =>
 ld [.n, .f 7] Y a fun d =>
 ld [.n, .f 0] Y a fun e =>
 ld [.n, .f 7] e a fun g =>
 ld [.n, .f 2] g a fun i =>
 (aj .other .geq d i).bind fun j =>
 some (Value.tuple #[(vb false), j], a) :=
 (by kernel_rfl)
theorem uk : ah6 Y x2 x3 x6 H =
 (pM .not x6).bind fun a =>
 (gV a true Y).bind fun b =>
 fc a true  [.n, .f 8] b H fun c =>
 (gB a true (aj .other .lss c (vi 0))).bind fun d =>
 (aK a d (vb false)).bind fun e =>
 av e
 (ld [.n, .f 7] Y H fun g =>
 st 1 [.n, .f 8] Y g H fun i =>
 GQ Y x2 x3 i)
 (GQ Y x2 x3 H) :=
 (pt rfl 0 Xc (by kernel_rfl))
noncomputable def rTs : OV := be PP GG FF (Qd []) (ls [Y] 94) H vm bA vm
theorem ah7 {r : Value × AH} (h : (
 ad [.n, .f 0] Y fun d =>
 (aq d H).bind fun j =>
 ad [.n, .f 7] j fun e =>
 (aq e H).bind fun k =>
 ad [.n, .f 1] Y fun g =>
 (aq g H).bind fun l =>
 ld [.n, .f 0] Y H fun m =>
 ld [.n, .f 7] m H fun o =>
 ld [.n, .f 2, .f 1] Y H fun p =>
 (FF eZ [o, p] H).bind fun a =>
 bT (aq d a.2) (aq d H) <|
 bT (aq e a.2) (aq e H) <|
 bT (aq g a.2) (aq g H) <|
 ad [.n, .f 7] Y fun i =>
 (aq i a.2).bind fun q =>
 bT (aq i H) (aq i a.2) <|
 (FF km [k, l, a.1, q] a.2).bind fun b =>
 (ag b.1 0).bind fun s =>
 (ag b.1 1).bind fun w =>
 (ag b.1 2).bind fun c =>
 (gV c true s).bind fun y =>
 (gV c true Y).bind fun z =>
 fc c true  [.n, .f 2, .f 1] z b.2 fun A =>
 (gB c true (aj .other .eql y A)).bind fun B =>
 (aK c B (vb false)).bind fun C =>
 av C
 (st 1 [.n, .f 9] Y (vb true) b.2 fun D =>
 st 1 [.n, .f 10] Y w D fun E =>
 some (Value.tuple #[(vb true), (vb false)], E))
 (ah6 Y (vb false) (vb false) c b.2)) = some r) : FF F6 [Y] H = some r :=
 fo (t := rTs Y H) Tryz.func111 (by kernel_rfl) (Eq.trans (pt rfl 2 Xb (by kernel_rfl)) h)
theorem zc {r : Value × AH} (h : (
 ad [.n, .f 0] Y fun a =>
 (aq a H).bind fun d =>
 (FF bY [(vi 8), x2, (vi 0)] H).bind fun b =>
 bT (aq a b.2) (aq a H) <|
 (FF gN [d, Z, b.1, (vw 0), (vw 1)] b.2).bind fun c =>
 some (c.1, c.2)) = some r) : FF hF [Y, Z, x2] H = some r :=
 fo Tryz.func112 (by kernel_rfl) h
theorem uy {r : Value × AH} (h : (
 ad [.n, .f 0] Y fun a =>
 (aq a H).bind fun c =>
 (FF bY [(vi 8), x2, (vi 0)] H).bind fun b =>
 bT (aq a b.2) (aq a H) <|
 (FF eH [c, Z, b.1, (vw 0)] b.2).bind fun d =>
 some (Value.tuple #[], d.2)) = some r) : FF ed [Y, Z, x2] H = some r :=
 fo Tryz.func113 (by kernel_rfl) h
theorem AU {r : Value × AH} (h : (
 aW [(vi 0), (vi 0), (vw 0)] H fun c b =>
 (aj .other .lss x2 (vi 0)).bind fun a =>
 (gV a false x2).bind fun l =>
 (gV a false Y).bind fun m =>
 fc a false  [.n, .f 10] m b fun o =>
 (zM (yv a) false (eS o some) (some undef)).bind fun p =>
 (gB a false (aj .other .geq l p)).bind fun q =>
 (aK a (vb true) q).bind fun s =>
 av s
 (gY [(0, 1), (1, 1), (2, 1)] [(vi 0), (vi 0), (vw 0)] [] fun t =>
 (cH 3 c t b).bind fun j =>
 (ax 3 c j).bind fun w => some (w, j))
 (ad [.n, .f 5] Y fun d =>
 (aq d b).bind fun y =>
 (FF bY [(vi 13), x2, (vi 0)] b).bind fun e =>
 bT (aq d e.2) (aq d b) <|
 (FF ch [y, Z, (vi 5), e.1] e.2).bind fun g =>
 ld [.n, .f 10] Y g.2 fun z =>
 ldN 3 [.i 3 x2] z g.2 fun A =>
 (cH 3 c A g.2).bind fun k =>
 (ax 3 c k).bind fun B => some (B, k))) = some r) : FF lF [Y, Z, x2] H = some r :=
 fo Tryz.func114 (by kernel_rfl) h
theorem A9 {r : Value × AH} (h : (
 (FF bU [Y] H).bind fun a =>
 ad [.n, .f 1] Y fun c =>
 (aq c a.2).bind fun g =>
 bT (aq c H) (aq c a.2) <|
 (FF lG [a.1, g] a.2).bind fun d =>
 st 1 [.n, .f 11] Y d.1 d.2 fun e =>
 ld [.n, .f 11] Y e fun i =>
 (FF gM [i] e).bind fun b =>
 (ag b.1 0).bind fun k =>
 (ag b.1 1).bind fun j =>
 (ag b.1 2).bind fun l =>
 some (j, b.2)) = some r) : FF eK [Y] H = some r :=
 fo Tryz.func115 (by kernel_rfl) h
theorem A7 {r : Value × AH} (h : (
 ld [.n, .f 0] Y H fun a =>
 ld [.n, .f 11] a H fun b =>
 ld [.n, .f 10] Y H fun c =>
 ld [.i 1 c] b H fun d =>
 some (d, H)) = some r) : FF bU [Y] H = some r :=
 fo Tryz.func116 (by kernel_rfl) h
theorem AX {r : Value × AH} (h : (
 ad [.n, .f 0] Y fun a =>
 (aq a H).bind fun d =>
 ld [.n, .f 1] Y H fun e =>
 (FF bY [(vi 12), e, (vi 0)] H).bind fun b =>
 bT (aq a b.2) (aq a H) <|
 (FF eb [d, Z, b.1] b.2).bind fun c =>
 some (c.1, c.2)) = some r) : FF iN [Y, Z] H = some r :=
 fo Tryz.func117 (by kernel_rfl) h
theorem Mh {r : Value × AH} (h : (
 (aj .other .rem Y (vw 2305843009213693952)).bind fun b =>
 (aj .other .quo Y (vw 2305843009213693952)).bind fun c =>
 (cL (some .i64) c).bind fun a =>
 (aj .other .gtr a (vi 2)).bind fun d =>
 av d
 (some (Value.tuple #[(vw 0), (vi (-1)), (vb false)], H))
 (some (Value.tuple #[b, a, (vb true)], H))) = some r) : FF gM [Y] H = some r :=
 fo Tryz.func118 (by kernel_rfl) h
theorem AW {r : Value × AH} (h : (
 (FF gM [Z] H).bind fun b =>
 (ag b.1 0).bind fun c =>
 (ag b.1 1).bind fun o =>
 (ag b.1 2).bind fun p =>
 (aj .other .geq c x2).bind fun a =>
 (gV a true c).bind fun d =>
 (gV a true x2).bind fun e =>
 (gB a true (aj .other .sub d e)).bind fun g =>
 (gV a true Y).bind fun i =>
 fc a true  [.n, .f 2] i b.2 fun j =>
 (gB a true (cL (some .u64) j)).bind fun k =>
 (gB a true (aj .other .geq g k)).bind fun l =>
 (aK a l (vb false)).bind fun m =>
 some (m, b.2)) = some r) : FF iM [Y, Z, x2] H = some r :=
 fo Tryz.func119 (by kernel_rfl) h
noncomputable def Kl (p : List Nat) : Code := Code.sub (bH Tryz.f120) p
noncomputable def rX : KK := dM PP (Tryz.f120).results.toList
noncomputable def Ti : KK := CQ (Kl [1]) rX bA rX
noncomputable def oA : OV := Ti (ls [Y, Z] 48) H
noncomputable def Tj : KK := CQ (Kl [1, 1]) rX bA rX
noncomputable def gy : OV := Tj (ls [Y, Z] 48) H
noncomputable def ak6 : KX := BX 0 rX bA
theorem rY : ar 1125899906842623 rX := rf
theorem Xd : ar 1125899906842620 Ti := rc rY aB rY
theorem Xe : ar 1125899906842620 Tj := rc rY aB rY
theorem Xf : ∀ i, ar 1125899906842623 (ak6 i) := rb rY aB
theorem ta : gy Y Z H =
 (FF bU [Y] H).bind fun a =>
 ad [.n, .f 1] Y fun c =>
 (aq c a.2).bind fun g =>
 bT (aq c H) (aq c a.2) <|
 ad [.n, .f 11] Y fun d =>
 (aq d a.2).bind fun i =>
 bT (aq d H) (aq d a.2) <|
 (FF gf [a.1, g, i, (vi 0)] a.2).bind fun b =>
 av b.1
 ((FF bE [Y, Z, (vi 0)] b.2).bind fun e =>
 ld [.n, .f 6] Y e.2 fun j =>
 (aj .other .add j (vi 1)).bind fun k =>
 st 1 [.n, .f 6] Y k e.2 fun l =>
 some (Value.tuple #[], l))
 (ld [.n, .f 6] Y b.2 fun m =>
 (aj .other .eql m (vi 9)).bind fun o =>
 av o
 (st 1 [.n, .f 6] Y (vi 7) b.2 fun p =>
 some (Value.tuple #[], p))
 (st 1 [.n, .f 6] Y (vi 20) b.2 fun q =>
 some (Value.tuple #[], q))) :=
 (bt rfl (Kl [1, 1, 4]) 0 Xf (by kernel_rfl))
theorem s9 : oA Y Z H =
 ld [.n, .f 6] Y H fun a =>
 (aj .other .eql a (vi 13)).bind fun b =>
 av b
 (st 1 [.n, .f 13] Y (vw 1) H fun c =>
 gy Y Z c)
 (gy Y Z H) :=
 (pt rfl 0 Xe (by kernel_rfl))
noncomputable def GI : OV := be PP GG FF (Kl []) (ls [Y, Z] 48) H rX bA rX
theorem ze {r : Value × AH} (h : (
 st 1 [.n, .f 13] Y (vw 0) H fun a =>
 oA Y Z a) = some r) : FF ko [Y, Z] H = some r :=
 fo (t := GI Y Z H) Tryz.func120 (by kernel_rfl) (Eq.trans (pt rfl 0 Xd (by kernel_rfl)) h)
theorem Dm {r : Value × AH} (h : (
 aW (Value.cells x3).toList H fun g a =>
 ad [.n, .f 0] Y fun b =>
 (aq b a).bind fun m =>
 ad [.n, .f 1] Y fun j =>
 (aq j a).bind fun o =>
 (FF eJ [Y, x2] a).bind fun d =>
 bT (aq b d.2) (aq b a) <|
 bT (aq j d.2) (aq j a) <|
 (FF bY [(vi 16), o, d.1] d.2).bind fun k =>
 bT (aq b k.2) (aq b a) <|
 (FF ch [m, Z, (vi 6), k.1] k.2).bind fun e =>
 ad [.n, .f 3] Y fun l =>
 (aq l e.2).bind fun p =>
 (FF eJ [Y, x2] e.2).bind fun c =>
 bT (aq l c.2) (aq l e.2) <|
 (ax 3 g c.2).bind fun q =>
 bT (ax 3 g e.2) (ax 3 g c.2) <|
 st 3 [.i 3 c.1] p q c.2 fun s =>
 some (Value.tuple #[], s)) = some r) : FF nu [Y, Z, x2, x3] H = some r :=
 fo Tryz.func121 (by kernel_rfl) h
theorem zf {r : Value × AH} (h : (
 ld [.n, .f 11] Y H fun b =>
 (FF gM [b] H).bind fun a =>
 (ag a.1 0).bind fun c =>
 (ag a.1 1).bind fun d =>
 (ag a.1 2).bind fun e =>
 some (c, a.2)) = some r) : FF fK [Y] H = some r :=
 fo Tryz.func122 (by kernel_rfl) h
theorem AY {r : Value × AH} (h : (
 ad [.n, .f 0] Y fun a =>
 (aq a H).bind fun e =>
 ad [.n, .f 1] Y fun c =>
 (aq c H).bind fun g =>
 (FF eJ [Y, x2] H).bind fun b =>
 bT (aq a b.2) (aq a H) <|
 bT (aq c b.2) (aq c H) <|
 (FF bY [(vi 15), g, b.1] b.2).bind fun d =>
 bT (aq a d.2) (aq a H) <|
 (aj .other .add x2 (vw 1)).bind fun i =>
 (FF eH [e, Z, d.1, i] d.2).bind fun j =>
 some (Value.tuple #[], j.2)) = some r) : FF iO [Y, Z, x2] H = some r :=
 fo Tryz.func123 (by kernel_rfl) h
theorem v5 {r : Value × AH} (h : (
 ad [.n, .f 0] Y fun a =>
 (aq a H).bind fun c =>
 (FF bY [(vi 3), (vi 0), (vi 0)] H).bind fun b =>
 bT (aq a b.2) (aq a H) <|
 (FF iH [c, Z, b.1, (vw 4294967296)] b.2).bind fun d =>
 some (Value.tuple #[], d.2)) = some r) : FF jy [Y, Z] H = some r :=
 fo Tryz.func124 (by kernel_rfl) h
noncomputable def E5 (p : List Nat) : Code := Code.sub (bH Tryz.f125) p
noncomputable def rZ : KK := dM PP (Tryz.f125).results.toList
noncomputable def Tm : KK := CQ (E5 [1]) rZ bA rZ
noncomputable def ah4 : OV := Tm (ls [Y, Z, u, u, x4] 100) H
noncomputable def Km : KK := CQ (E5 [1, 1]) rZ bA rZ
noncomputable def Tl : KK := eG SQ Km
noncomputable def qJ : OV := Km (ls [u, u, u, u, x4] 100) H
noncomputable def Tn : KK := CQ (E5 [1, 0, 1]) Tl bA rZ
noncomputable def ah5 : OV := Tn (ls [Y, Z, u, u, x4, u, u, u, x8] 96) H
noncomputable def ak7 : KX := BX 0 Tl bA
theorem r4 : ar SQ rZ := rf
theorem Xg : ar 40564819207303340847894502572012 Tm := rc r4 aB r4
theorem zY : ar SQ Km := rc r4 aB r4
theorem Xh : ar 40564819207303340847894502571756 Tn := rc (cd zY) aB r4
theorem Xj : ∀ i, ar SQ (ak7 i) := rb (cd zY) aB
theorem kw : qJ x4 H =
 some ((vb false), H) :=
 (by kernel_rfl)
theorem uj : ah5 Y Z x4 x8 H =
 (aj .other .eql x8 (vi 15)).bind fun q =>
 av q
 (ld [.n, .f 0] Y H fun s =>
 ld [.n, .f 1] Y H fun t =>
 (FF eI [s, t] H).bind fun o =>
 st 1 [.n, .f 13] Y o.1 o.2 fun w =>
 st 1 [.n, .f 6] Y (vi 16) w fun d =>
 ld [.n, .f 13] Y d fun y =>
 (aj .other .rem y (vw 2)).bind fun z =>
 (aj .other .eql z (vw 1)).bind fun A =>
 av A
 (st 1 [.n, .f 6] Y (vi 7) d fun B =>
 qJ x4 B)
 (qJ x4 d))
 ((aj .other .eql x8 (vi 16)).bind fun C =>
 av C
 (st 1 [.n, .f 6] Y (vi 17) H fun D =>
 (FF eK [Y] D).bind fun e =>
 (aj .other .eql e.1 (vi 2)).bind fun E =>
 av E
 (st 1 [.n, .f 6] Y (vi 3) e.2 fun G =>
 qJ x4 G)
 (qJ x4 e.2))
 ((aj .other .eql x8 (vi 17)).bind fun I =>
 av I
 ((FF bU [Y] H).bind fun c =>
 ad [.n, .f 1] Y fun g =>
 (aq g c.2).bind fun J =>
 bT (aq g H) (aq g c.2) <|
 (FF iN [c.1, J] c.2).bind fun p =>
 st 1 [.n, .f 12] Y p.1 p.2 fun K =>
 st 1 [.n, .f 16] Y Z K fun L =>
 st 1 [.n, .f 6] Y (vi 18) L fun i =>
 (FF bU [Y] i).bind fun a =>
 ad [.n, .f 11] Y fun j =>
 (aq j a.2).bind fun M =>
 bT (aq j i) (aq j a.2) <|
 ad [.n, .f 12] Y fun k =>
 (aq k a.2).bind fun N =>
 bT (aq k i) (aq k a.2) <|
 (FF iM [a.1, M, N] a.2).bind fun l =>
 (pM .not l.1).bind fun O =>
 av O
 (st 1 [.n, .f 6] Y (vi 7) l.2 fun P =>
 qJ x4 P)
 (qJ x4 l.2))
 ((aj .other .eql x8 (vi 18)).bind fun Q =>
 av Q
 (ld [.n, .f 0] Y H fun R =>
 ld [.n, .f 1] Y H fun S =>
 (FF eI [R, S] H).bind fun b =>
 ad [.n, .f 13] Y fun m =>
 (aq m b.2).bind fun T =>
 bT (aq m H) (aq m b.2) <|
 (aj .other .eql b.1 T).bind fun U =>
 av U
 (ld [.n, .f 16] Y b.2 fun V =>
 (FF bE [Y, V, (vi 9)] b.2).bind fun W =>
 some ((vb true), W.2))
 (st 1 [.n, .f 6] Y (vi 7) b.2 fun X =>
 qJ x4 X))
 (qJ x4 H)))) :=
 (bt rfl (E5 [1, 0, 1, 4]) 0 Xj (by kernel_rfl))
theorem ui : ah4 Y Z x4 H =
 ld [.n, .f 6] Y H fun a =>
 ah5 Y Z x4 a H :=
 (pt rfl 0 zY (pt rfl 0 Xh (by kernel_rfl)))
noncomputable def rTf : OV := be PP GG FF (E5 []) (ls [Y, Z] 103) H rZ bA rZ
theorem MB {r : Value × AH} (h : (
 ah4 Y Z (vb false) H) = some r) : FF aoJ [Y, Z] H = some r :=
 fo (t := rTf Y Z H) Tryz.func125 (by kernel_rfl) (Eq.trans (pt rfl 0 Xg (by kernel_rfl)) h)
noncomputable def E6 (p : List Nat) : Code := Code.sub (bH Tryz.f126) p
noncomputable def r5 : KK := dM PP (Tryz.f126).results.toList
noncomputable def Tp : KK := CQ (E6 [1, 1]) r5 bA r5
noncomputable def ah8 : OV := Tp (ls [Y, Z, u, u, x4, x5] 113) H
noncomputable def Kn : KK := CQ (E6 [1, 1, 1]) r5 bA r5
noncomputable def To : KK := eG SO Kn
noncomputable def te : OV := Kn (ls [u, u, u, u, x4] 114) H
noncomputable def Tq : KK := CQ (E6 [1, 1, 0, 1]) To bA r5
noncomputable def ah9 : OV := Tq (ls [Y, Z, u, u, x4, x5, u, u, u, u, u, u, u, x13] 105) H
noncomputable def ak8 : KX := BX 0 To bA
theorem r6 : ar SO r5 := rf
theorem Xl : ar 664613997892457936451903530140172236 Tp := rc r6 aB r6
theorem zZ : ar SO Kn := rc r6 aB r6
theorem Xm : ar 664613997892457936451903530140164044 Tq := rc (cd zZ) aB r6
theorem Xn : ∀ i, ar SO (ak8 i) := rb (cd zZ) aB
theorem mH : te x4 H =
 some ((vb false), H) :=
 (by kernel_rfl)
theorem mI : ah9 Y Z x4 x5 x13 H =
 (aj .other .eql x13 (vi 20)).bind fun i =>
 av i
 (ld [.n, .f 6] x5 H fun j =>
 ld [.n, .f 1] Y H fun k =>
 (FF iL [j, k] H).bind fun l =>
 st 1 [.n, .f 6] Y (vi 7) l.2 fun m =>
 te x4 m)
 ((aj .other .eql x13 (vi 21)).bind fun o =>
 av o
 ((FF bU [Y] H).bind fun a =>
 ad [.n, .f 1] Y fun b =>
 (aq b a.2).bind fun p =>
 bT (aq b H) (aq b a.2) <|
 (FF fK [Y] a.2).bind fun d =>
 bT (aq b d.2) (aq b a.2) <|
 (FF iO [a.1, p, d.1] d.2).bind fun q =>
 st 1 [.n, .f 6] Y (vi 22) q.2 fun s =>
 te x4 s)
 ((aj .other .eql x13 (vi 22)).bind fun t =>
 av t
 (ld [.n, .f 6] x5 H fun w =>
 ld [.n, .f 1] Y H fun y =>
 (FF lE [w, y, Z] H).bind fun g =>
 st 1 [.n, .f 15] Y g.1 g.2 fun z =>
 st 1 [.n, .f 6] Y (vi 23) z fun A =>
 te x4 A)
 ((aj .other .eql x13 (vi 23)).bind fun B =>
 av B
 (ld [.n, .f 6] x5 H fun C =>
 ld [.n, .f 1] Y H fun D =>
 ld [.n, .f 10] Y H fun E =>
 ld [.n, .f 15] Y H fun G =>
 (FF kg [C, D, E, G] H).bind fun I =>
 st 1 [.n, .f 6] Y (vi 24) I.2 fun J =>
 te x4 J)
 ((aj .other .eql x13 (vi 24)).bind fun K =>
 av K
 (st 1 [.n, .f 6] Y (vi 22) H fun c =>
 ld [.n, .f 6] x5 c fun L =>
 ld [.n, .f 1] Y c fun M =>
 ld [.n, .f 15] Y c fun N =>
 ld [.n, .f 10] Y c fun O =>
 (FF kj [L, M, Z, N, O] c).bind fun e =>
 av e.1
 (st 1 [.n, .f 6] Y (vi 25) e.2 fun P =>
 te x4 P)
 (te x4 e.2))
 ((aj .other .eql x13 (vi 25)).bind fun Q =>
 av Q
 (ld [.n, .f 6] x5 H fun R =>
 ld [.n, .f 1] Y H fun S =>
 (FF iL [R, S] H).bind fun T =>
 some ((vb true), T.2))
 (te x4 H)))))) :=
 (bt rfl (E6 [1, 1, 0, 1, 4]) 0 Xn (by kernel_rfl))
theorem mG : ah8 Y Z x4 x5 H =
 ld [.n, .f 6] Y H fun a =>
 ah9 Y Z x4 x5 a H :=
 (pt rfl 0 zZ (pt rfl 0 Xm (by kernel_rfl)))
noncomputable def rTw : OV := be PP GG FF (E6 []) (ls [Y, Z] 117) H r5 bA r5
theorem Ba {r : Value × AH} (h : (
 ld [.n, .f 0] Y H fun a =>
 ah8 Y Z (vb false) a H) = some r) : FF ag3 [Y, Z] H = some r :=
 fo (t := rTw Y Z H) Tryz.func126 (by kernel_rfl) (Eq.trans (pt rfl 1 Xl (by kernel_rfl)) h)
theorem uw {r : Value × AH} (h : (
 ld [.n, .f 0] Y H fun a =>
 gY [(0, 1), (1, 1), (2, 1)] [(vi 0), (vi 0), (vi 0)] [(0, (vi 2))] fun b =>
 (FF gj [a, Z, b, (vw 1)] H).bind fun c =>
 some (Value.tuple #[], c.2)) = some r) : FF d9 [Y, Z] H = some r :=
 fo Tryz.func127 (by kernel_rfl) h
theorem zb {r : Value × AH} (h : (
 ad [.n, .f 5] Y fun a =>
 (aq a H).bind fun c =>
 (FF bY [(vi 2), (vi 0), (vi 0)] H).bind fun b =>
 bT (aq a b.2) (aq a H) <|
 (FF iH [c, Z, b.1, (vw 1)] b.2).bind fun d =>
 some (Value.tuple #[], d.2)) = some r) : FF fJ [Y, Z] H = some r :=
 fo Tryz.func128 (by kernel_rfl) h
theorem Dg {r : Value × AH} (h : (
 aW (Value.cells Z).toList H fun c b =>
 (ax 3 c b).bind fun d =>
 (FF BI [Y, d] b).bind fun a =>
 ld [.n, .f 1] Y a.2 fun e =>
 ld [.i 1 a.1] e a.2 fun g =>
 some (g, a.2)) = some r) : FF nl [Y, Z] H = some r :=
 fo Tryz.func129 (by kernel_rfl) h
theorem RH {r : Value × AH} (h : (
 aW [(vi 0), (vi 0), (vi 0)] H fun a c =>
 gY [(0, 1), (1, 1), (2, 1)] [(vi 0), (vi 0), (vi 0)] [(0, Y), (1, Z), (2, x2)] fun d =>
 (cH 3 a d c).bind fun b =>
 (ax 3 a b).bind fun e => some (e, b)) = some r) : FF bY [Y, Z, x2] H = some r :=
 fo Tryz.func130 (by kernel_rfl) h
theorem zq {r : Value × AH} (h : (
 (FF fN [Y, Z, x2, (.func (.func oh) #[] #[])] H).bind fun a =>
 some (a.1, a.2)) = some r) : FF kp [Y, Z, x2] H = some r :=
 fo Tryz.func131 (by kernel_rfl) h
theorem AZ {r : Value × AH} (h : (
 (FF qu [x2, x3] H).bind fun b =>
 (ag b.1 0).bind fun g =>
 (ag b.1 1).bind fun a =>
 (gV a true Y).bind fun i =>
 LQ a true  [.n, .f 0] i fun d =>
 (gB a true (aq d b.2)).bind fun j =>
 (gV a true Z).bind fun k =>
 (gV a true Y).bind fun l =>
 fc a true  [.n, .f 1] l b.2 fun m =>
 (gE a true b.2 (FF bY [(vi 11), m, (vi 0)] b.2)).bind fun c =>
 bT (aq d c.2) (aq d b.2) <|
 (gV a true x2).bind fun o =>
 (gV a true g).bind fun p =>
 (gE a true c.2 (FF gN [j, k, c.1, o, p] c.2)).bind fun e =>
 (aK a e.1 (vb false)).bind fun q =>
 some (q, e.2)) = some r) : FF gf [Y, Z, x2, x3] H = some r :=
 fo Tryz.func132 (by kernel_rfl) h
theorem tl {r : Value × AH} (h : (
 ad [.n, .f 0] Y fun a =>
 (aq a H).bind fun c =>
 (FF jB [x2, x3] H).bind fun b =>
 bT (aq a b.2) (aq a H) <|
 (FF dI [c, Z, b.1, (vw 0)] b.2).bind fun d =>
 some (Value.tuple #[], d.2)) = some r) : FF iy [Y, Z, x2, x3] H = some r :=
 fo Tryz.func142 (by kernel_rfl) h
theorem wh {r : Value × AH} (h : (
 ad [.n, .f 0] Y fun a =>
 (aq a H).bind fun c =>
 (FF bY [(vi 10), x2, x3] H).bind fun b =>
 bT (aq a b.2) (aq a H) <|
 (FF eH [c, Z, b.1, (vw 0)] b.2).bind fun d =>
 some (Value.tuple #[], d.2)) = some r) : FF jA [Y, Z, x2, x3] H = some r :=
 fo Tryz.func143 (by kernel_rfl) h
theorem zt {r : Value × AH} (h : (
 (FF fN [Y, Z, x2, (.func (.func ol) #[] #[])] H).bind fun a =>
 some (a.1, a.2)) = some r) : FF kq [Y, Z, x2] H = some r :=
 fo Tryz.func144 (by kernel_rfl) h
theorem CM {r : Value × AH} (h : (
 aW (Value.cells x2).toList H fun a d =>
 (ax 3 a d).bind fun e =>
 (FF fG [Y, e] d).bind fun b =>
 (ax 3 a b.2).bind fun g =>
 (FF dx [Y, Z, (vi 3), g] b.2).bind fun c =>
 ld [.n, .f 0] Y c.2 fun i =>
 (ax 3 a c.2).bind fun j =>
 gY [(0, 1)] [(vw 0)] [(0, x3)] fun k =>
 (e8 (.flat 3) i j k c.2).bind fun l =>
 some (b.1, l)) = some r) : FF jv [Y, Z, x2, x3] H = some r :=
 fo Tryz.func145 (by kernel_rfl) h
theorem ap7 {r : Value × AH} (h : (
 (aj .slice .eql Y (.slice none 0 0)).bind fun b =>
 av b
 (some ((.slice none 0 0), H))
 (wL 0 3 [(vi 0), (vi 0), (vi 0)] [] H fun c d =>
 (dS 3 24 c Y d).bind fun a =>
 some (a.1, a.2))) = some r) : FF ag4 [Y] H = some r :=
 fo Tryz.func148 (by kernel_rfl) h
theorem CN {r : Value × AH} (h : (
 (aj .other .geq Y Z).bind fun a =>
 (gV a true Y).bind fun b =>
 (gV a true x2).bind fun c =>
 (gB a true (aj .other .leq b c)).bind fun d =>
 (aK a d (vb false)).bind fun e =>
 some (e, H)) = some r) : FF fI [Y, Z, x2] H = some r :=
 fo Tryz.func149 (by kernel_rfl) h
noncomputable def oK (p : List Nat) : Code := Code.sub (bH Tryz.f150) p
noncomputable def mU : KK := dM PP (Tryz.f150).results.toList
noncomputable def T5 : KK := CQ (oK [1, 1, 1]) mU bA mU
noncomputable def yH : OV := T5 (ls [u, Z, u, u, x4, x5, x6] 23) H
noncomputable def KJ : KK := CQ (oK [1, 1, 1, 1]) mU bA mU
noncomputable def T0 : KK := eG 1073741743 KJ
noncomputable def yI : OV := KJ (ls [u, u, u, u, x4, u, x6] 23) H
noncomputable def T6 : KK := CQ (oK [1, 1, 1, 0, 1]) T0 bA mU
noncomputable def yJ : OV := T6 (ls [u, Z, u, u, x4, u, x6, u, u, u, u, u, u, u, x14, x15] 14) H
noncomputable def KN : KX := BX 0 T0 bA
noncomputable def DO : KX := qQ 1073741743 KN
noncomputable def KL : KK := Cb (oK [1, 1, 1, 0, 1, 4, 5]) DO mU
noncomputable def T4 : KK := eG EF KL
noncomputable def mg : OV := KL (ls [u, Z, u, u, x4, u, x6, u, u, u, u, u, u, u, x14, x15] 14) H
noncomputable def T7 : KK := CQ (oK [1, 1, 1, 0, 1, 4, 5, 1, 1]) T4 DO mU
noncomputable def yK : OV := T7 (ls [u, Z, u, u, x4, u, x6, u, u, u, u, u, u, u, x14, x15] 14) H
noncomputable def KM : KK := CQ (oK [1, 1, 1, 0, 1, 4, 5, 1, 1, 1]) T4 DO mU
noncomputable def alJ : KK := eG EF KM
noncomputable def yL : OV := KM (ls [u, Z, u, u, x4, u, x6, u, u, u, u, u, u, u, x14, x15] 14) H
noncomputable def alK : KX := BX 1 alJ DO
noncomputable def sW : OV := KN 0 (ls [u, u, u, u, x4, u, x6] 23) H
theorem kZ : ar 1073741807 mU := rf
theorem XI : ar 1073741709 T5 := rc kZ aB kZ
theorem z5 : ar 1073741743 KJ := rc kZ aB kZ
theorem XJ : ar EF T6 := rc (cd z5) aB kZ
theorem pg : ∀ i, ar 1073741743 (KN i) := rb (cd z5) aB
theorem tU : ar EF KL := rl (cx pg) kZ
theorem XK : ar EF T7 := rc (cd tU) (cx pg) kZ
theorem IV : ar EF KM := rc (cd tU) (cx pg) kZ
theorem XL : ∀ i, ar EF (alK i) := rb (cd IV) (cx pg)
theorem CV : yI x4 x6 H =
 some (x6, H) :=
 (by kernel_rfl)
theorem CY : yL Z x4 x6 x14 x15 H =
 (aj .other .add x15 (vi 1)).bind fun a =>
 mg Z x4 x6 x14 a H :=
 (by kernel_rfl)
theorem CX : yK Z x4 x6 x14 x15 H =
 ad [.n, .f 0] x6 fun a =>
 (aq a H).bind fun d =>
 (FF sP [Z] H).bind fun b =>
 bT (aq a b.2) (aq a H) <|
 wL 1 1 [(.pointer none)] [(0, b.1)] b.2 fun e g =>
 (dS 1 8 d e g).bind fun c =>
 st 1 [.n, .f 0] x6 c.1 c.2 fun i =>
 yL Z x4 x6 x14 x15 i :=
 (pt rfl 0 IV (bt rfl (oK [1, 1, 1, 0, 1, 4, 5, 1, 1, 0, 4]) 1 XL (by kernel_rfl)))
theorem yG : sW x4 x6 H = yI x4 x6 H :=
 (by kernel_rfl)
theorem qZ : mg Z x4 x6 x14 x15 H =
 (aj .other .lss x15 x14).bind fun a =>
 av a
 (yK Z x4 x6 x14 x15 H)
 (sW x4 x6 H) :=
 CD rfl tU (pt rfl 1 XK (by kernel_rfl))
theorem CW : yJ Z x4 x6 x14 x15 H =
 mg Z x4 x6 x14 x15 H :=
 (bt rfl (oK [1, 1, 1, 0, 1, 4]) 0 pg (li rfl (oK [1, 1, 1, 0, 1, 4, 5]) tU (by kernel_rfl)))
theorem CU : yH Z x4 x5 x6 H =
 yJ Z x4 x6 x5 (vi 0) H :=
 (pt rfl 0 z5 (pt rfl 0 XJ (by kernel_rfl)))
noncomputable def Zv : OV := be PP GG FF (oK []) (ls [Y, Z] 28) H mU bA mU
theorem Mf {r : Value × AH} (h : (
 (gk [Y, (vi 1)]).bind fun c =>
 (jS [c, (vi 16)]).bind fun a =>
 (FF vR [a] H).bind fun b =>
 gY [(0, 1), (1, 1)] [(.slice none 0 0), (.pointer none)] [(1, b.1)] fun d =>
 aW (Value.cells d).toList b.2 fun e f =>
 yH Z (.pointer none) a e f) = some r) : FF sL [Y, Z] H = some r :=
 fo (t := Zv Y Z H) Tryz.func150 (by kernel_rfl) (Eq.trans (pt rfl 2 XI (by kernel_rfl)) h)
noncomputable def oL (p : List Nat) : Code := Code.sub (bH Tryz.f154) p
noncomputable def mV : KK := dM PP (Tryz.f154).results.toList
noncomputable def Ua : KK := CQ (oL [1, 1]) mV bA mV
noncomputable def ahW : OV := Ua (ls [Y, Z, u, u, x4, x5] 24) H
noncomputable def KO : KK := CQ (oL [1, 1, 1]) mV bA mV
noncomputable def T8 : KK := eG 1073741775 KO
noncomputable def ahX : OV := KO (ls [u, u, u, u, x4, x5] 24) H
noncomputable def Ub : KK := CQ (oL [1, 1, 0, 1]) T8 bA mV
noncomputable def ahY : OV := Ub (ls [Y, Z, u, u, x4, x5, x6] 23) H
noncomputable def KS : KX := BX 0 T8 bA
noncomputable def DP : KX := qQ 1073741775 KS
noncomputable def KP : KK := Cb (oL [1, 1, 0, 1, 4, 5]) DP mV
noncomputable def T9 : KK := eG EG KP
noncomputable def Mv : OV := KP (ls [Y, Z, u, u, x4, x5, x6] 23) H
noncomputable def Uc : KK := CQ (oL [1, 1, 0, 1, 4, 5, 1]) T9 DP mV
noncomputable def ahZ : OV := Uc (ls [Y, Z, u, u, x4, x5, x6] 23) H
noncomputable def KQ : KK := CQ (oL [1, 1, 0, 1, 4, 5, 1, 1]) T9 DP mV
noncomputable def alL : KK := eG EG KQ
noncomputable def ah0 : OV := KQ (ls [Y, Z, u, u, x4, x5, x6] 23) H
noncomputable def alM : KX := BX 1 alL DP
noncomputable def OA : OV := KS 0 (ls [u, u, u, u, x4, x5] 24) H
theorem k7 : ar 1073741807 mV := rf
theorem XM : ar 1073741772 Ua := rc k7 aB k7
theorem z6 : ar 1073741775 KO := rc k7 aB k7
theorem XN : ar EG Ub := rc (cd z6) aB k7
theorem ph : ∀ i, ar 1073741775 (KS i) := rb (cd z6) aB
theorem tV : ar EG KP := rl (cx ph) k7
theorem XO : ar EG Uc := rc (cd tV) (cx ph) k7
theorem IW : ar EG KQ := rc (cd tV) (cx ph) k7
theorem XP : ∀ i, ar EG (alM i) := rb (cd IW) (cx ph)
theorem ZG : ahX x4 x5 H =
 some (x5, H) :=
 (by kernel_rfl)
theorem ZJ : ah0 Y Z x4 x5 x6 H =
 (aj .other .add x6 (vi 1)).bind fun a =>
 Mv Y Z x4 x5 a H :=
 (by kernel_rfl)
theorem ZI : ahZ Y Z x4 x5 x6 H =
 ad [.n, .f 0] x5 fun a =>
 (aq a H).bind fun d =>
 (FF sM [Z] H).bind fun b =>
 bT (aq a b.2) (aq a H) <|
 gY [(0, 1), (1, 1), (2, 1), (3, 1)] [(.slice none 0 0), (vw 0), (vi 0), (vb false)] [(2, b.1), (3, (vb true))] fun e =>
 aW (Value.cells e).toList b.2 fun g i =>
 wL 1 1 [(.pointer none)] [(0, g)] i fun j k =>
 (dS 1 8 d j k).bind fun c =>
 st 1 [.n, .f 0] x5 c.1 c.2 fun l =>
 ah0 Y Z x4 x5 x6 l :=
 (pt rfl 0 IW (bt rfl (oL [1, 1, 0, 1, 4, 5, 1, 0, 4]) 1 XP (by kernel_rfl)))
theorem OB : OA x4 x5 H = ahX x4 x5 H :=
 (by kernel_rfl)
theorem Jt : Mv Y Z x4 x5 x6 H =
 (gk [Y, (vi 1)]).bind fun a =>
 (jS [a, (vi 16)]).bind fun b =>
 (aj .other .lss x6 b).bind fun c =>
 av c
 (ahZ Y Z x4 x5 x6 H)
 (OA x4 x5 H) :=
 CD rfl tV (pt rfl 0 XO (by kernel_rfl))
theorem ZH : ahY Y Z x4 x5 x6 H =
 Mv Y Z x4 x5 x6 H :=
 (bt rfl (oL [1, 1, 0, 1, 4]) 0 ph (li rfl (oL [1, 1, 0, 1, 4, 5]) tV (by kernel_rfl)))
theorem ZF : ahW Y Z x4 x5 H =
 ahY Y Z x4 x5 (vi 0) H :=
 (pt rfl 0 z6 (pt rfl 0 XN (by kernel_rfl)))
noncomputable def rNQ : OV := be PP GG FF (oL []) (ls [Y, Z] 28) H mV bA mV
theorem ap3 {r : Value × AH} (h : (
 gY [(0, 1)] [(.slice none 0 0)] [] fun a =>
 aW (Value.cells a).toList H fun b c =>
 ahW Y Z (.pointer none) b c) = some r) : FF ag1 [Y, Z] H = some r :=
 fo (t := rNQ Y Z H) Tryz.func154 (by kernel_rfl) (Eq.trans (pt rfl 1 XM (by kernel_rfl)) h)
theorem Aq {r : Value × AH} (h : (
 aW (Value.cells x2).toList H fun b a =>
 (ax 3 b a).bind fun c =>
 (FF dx [Y, Z, (vi 6), c] a).bind fun d =>
 some (Value.tuple #[], d.2)) = some r) : FF ge [Y, Z, x2] H = some r :=
 fo Tryz.func155 (by kernel_rfl) h
theorem OG {r : Value × AH} (h : (
 (gk [x2, (vi 1)]).bind fun c =>
 (jS [c, (vi 8)]).bind fun a =>
 (nz [(vi 0), (vi 0), (vi 0)] 3 24 a a H).bind fun b =>
 gY [(0, 1), (1, 1), (2, 1)] [(.pointer none), (vi 0), (.slice none 0 0)] [(0, Y), (1, Z), (2, b.1)] fun d =>
 aW (Value.cells d).toList b.2 fun e f =>
 some (e, f)) = some r) : FF vQ [Y, Z, x2] H = some r :=
 fo Tryz.func156 (by kernel_rfl) h
theorem GD {r : Value × AH} (h : (
 aW (Value.cells x3).toList H fun c a =>
 ld [.n, .f 2] Y a fun d =>
 (ax 3 c a).bind fun e =>
 gY [(0, 1), (1, 1), (2, 3)] [(vi 0), (vi 0), (vi 0), (vi 0), (vi 0)] [(0, Z), (1, x2), (2, e)] fun g =>
 wL 1 5 [(vi 0), (vi 0), (vi 0), (vi 0), (vi 0)] [(0, g)] a fun i j =>
 (dS 5 40 d i j).bind fun b =>
 st 1 [.n, .f 2] Y b.1 b.2 fun k =>
 some (Value.tuple #[], k)) = some r) : FF ch [Y, Z, x2, x3] H = some r :=
 fo Tryz.func157 (by kernel_rfl) h
theorem GH {r : Value × AH} (h : (
 (gk [x2, (vi 1)]).bind fun c =>
 (jS [c, (vi 8)]).bind fun a =>
 (nz [(vi 0), (vi 0), (vi 0)] 3 24 a a H).bind fun b =>
 gY [(0, 1), (1, 1), (2, 1), (3, 1)] [(.pointer none), (vi 0), (vi 0), (.slice none 0 0)] [(0, Y), (1, Z), (2, a), (3, b.1)] fun d =>
 aW (Value.cells d).toList b.2 fun e f =>
 some (e, f)) = some r) : FF oW [Y, Z, x2] H = some r :=
 fo Tryz.func158 (by kernel_rfl) h
theorem Ap {r : Value × AH} (h : (
 aW (Value.cells x2).toList H fun b c =>
 (ax 3 b c).bind fun d =>
 (FF dx [Y, Z, (vi 2), d] c).bind fun a =>
 ld [.n, .f 0] Y a.2 fun e =>
 (ax 3 b a.2).bind fun g =>
 gY [(0, 1)] [(vw 0)] [(0, x3)] fun i =>
 (e8 (.flat 3) e g i a.2).bind fun j =>
 some (Value.tuple #[], j)) = some r) : FF dI [Y, Z, x2, x3] H = some r :=
 fo Tryz.func159 (by kernel_rfl) h
theorem AT {r : Value × AH} (h : (
 aW (Value.cells x2).toList H fun b c =>
 (ax 3 b c).bind fun e =>
 (FF ch [Y, Z, (vi 2), e] c).bind fun d =>
 (ax 3 b d.2).bind fun g =>
 (FF BI [Y, g] d.2).bind fun a =>
 ld [.n, .f 1] Y a.2 fun j =>
 st 1 [.i 1 a.1] j x3 a.2 fun k =>
 some (Value.tuple #[], k)) = some r) : FF eH [Y, Z, x2, x3] H = some r :=
 fo Tryz.func160 (by kernel_rfl) h
theorem Bd {r : Value × AH} (h : (
 aW [(vi 0), (.slice none 0 0), (vi 0), (vw 0)] H fun a g =>
 (FF gr [Y] g).bind fun b =>
 av b.1
 ((FF dm [Y, Z, (vi 5)] b.2).bind fun c =>
 (ag c.1 0).bind fun i =>
 (ag c.1 1).bind fun j =>
 (cH 4 a i c.2).bind fun e =>
 (ax 4 a e).bind fun k => some (Value.tuple #[k, j], e))
 ((FF cX [Y, Z] b.2).bind fun d =>
 (ag d.1 0).bind fun l =>
 (ag d.1 1).bind fun m =>
 (cH 4 a l d.2).bind fun f =>
 (ax 4 a f).bind fun n => some (Value.tuple #[n, m], f))) = some r) : FF eL [Y, Z] H = some r :=
 fo Tryz.func161 (by kernel_rfl) h
noncomputable def KT (p : List Nat) : Code := Code.sub (bH Tryz.f162) p
noncomputable def vn : KK := dM PP (Tryz.f162).results.toList
noncomputable def Ud : KK := CQ (KT [1]) vn bA vn
noncomputable def rr : OV := Ud (ls [Y, Z, u, u, x4, x5] 53) H
noncomputable def KU : KK := CQ (KT [1, 1]) vn bA vn
noncomputable def alN : KK := eG SV KU
noncomputable def rt : OV := KU (ls [Y, Z, u, u, x4, x5] 53) H
noncomputable def alO : KX := BX 0 alN bA
theorem xi : ar 576460752303423439 vn := rf
theorem XQ : ar SV Ud := rc xi aB xi
theorem IX : ar SV KU := rc xi aB xi
theorem XR : ∀ i, ar SV (alO i) := rb (cd IX) aB
theorem wz : rt Y Z x4 x5 H =
 (FF cM [Y, Z] H).bind fun a =>
 (ag a.1 0).bind fun c =>
 (ag a.1 1).bind fun d =>
 (cH 4 x4 c a.2).bind fun b =>
 (ax 4 x4 b).bind fun e => some (Value.tuple #[e, d], b) :=
 (by kernel_rfl)
theorem wy : rr Y Z x4 x5 H =
 (FF gr [Y] H).bind fun a =>
 av a.1
 ((FF dm [Y, Z, (vi 1)] a.2).bind fun d =>
 (ag d.1 0).bind fun l =>
 (ag d.1 1).bind fun m =>
 (cH 4 x4 l d.2).bind fun i =>
 (ax 4 x4 i).bind fun o => some (Value.tuple #[o, m], i))
 (ld [.n, .f 2, .f 2] Y a.2 fun p =>
 (aj .other .lss p (vi 1)).bind fun b =>
 (gV b false Y).bind fun q =>
 fc b false  [.n, .f 2, .f 2] q a.2 fun s =>
 (gB b false (aj .other .gtr s (vi 65536))).bind fun t =>
 (aK b (vb true) t).bind fun w =>
 av w
 ((FF dm [Y, Z, (vi 4)] a.2).bind fun e =>
 (ag e.1 0).bind fun y =>
 (ag e.1 1).bind fun z =>
 (cH 4 x4 y e.2).bind fun j =>
 (ax 4 x4 j).bind fun A => some (Value.tuple #[A, z], j))
 (ld [.n, .f 2, .f 3] Y a.2 fun B =>
 (aj .other .lss B (vi 1)).bind fun c =>
 (gV c false Y).bind fun C =>
 fc c false  [.n, .f 2, .f 3] C a.2 fun D =>
 (gB c false (aj .other .gtr D (vi 8))).bind fun E =>
 (aK c (vb true) E).bind fun G =>
 av G
 ((FF dm [Y, Z, (vi 1)] a.2).bind fun g =>
 (ag g.1 0).bind fun I =>
 (ag g.1 1).bind fun J =>
 (cH 4 x4 I g.2).bind fun k =>
 (ax 4 x4 k).bind fun K => some (Value.tuple #[K, J], k))
 (rt Y Z x4 x5 a.2))) :=
 (pt rfl 0 IX (bt rfl (KT [1, 0, 4]) 0 XR (by kernel_rfl)))
noncomputable def MD : OV := be PP GG FF (KT []) (ls [Y, Z] 57) H vn bA vn
theorem Dt {r : Value × AH} (h : (
 aW [(vi 0), (.slice none 0 0), (vi 0), (vw 0)] H fun a b =>
 rr Y Z a (vb false) b) = some r) : FF fL [Y, Z] H = some r :=
 fo (t := MD Y Z H) Tryz.func162 (by kernel_rfl) (Eq.trans (pt rfl 0 XQ (by kernel_rfl)) h)
end
section
variable (x0 x1 x2 x3 x4 x5 x6 x7 x8 x9 x10 x17 x19 x30 : Value) (H : AH)
noncomputable def oM (p : List Nat) : Code := Code.sub (bH Tryz.f163) p
noncomputable def oN : KK := dM PP (Tryz.f163).results.toList
noncomputable def Ue : KK := CQ (oM [1, 1]) oN bA oN
noncomputable def lw : OV := Ue (ls [x0, x1, x2, u, u, u, x6, x7] 128) H
noncomputable def KV : KK := CQ (oM [1, 1, 1]) oN bA oN
noncomputable def xj : KK := eG WM KV
noncomputable def cz : OV := KV (ls [u, u, u, u, u, u, x6] 129) H
noncomputable def Uf : KK := CQ (oM [1, 1, 0, 1]) xj bA oN
noncomputable def gO : OV := Uf (ls [x0, x1, x2, u, u, u, x6, x7, u, u, u, u, u, u, u, u, u, u, u, x19] 116) H
noncomputable def Ui : KX := BX 0 xj bA
noncomputable def KW : KX := qQ WM Ui
noncomputable def Ug : KK := CQ (oM [1, 1, 0, 1, 4, 1]) xj KW oN
noncomputable def lx : OV := Ug (ls [x0, x1, x2, u, u, u, x6, x7, u, u, u, u, u, u, u, u, u, u, u, x19, u, u, u, u, u, u, u, u, u, u, x30] 105) H
noncomputable def Uh : KK := CQ (oM [1, 1, 0, 1, 4, 1, 2, 1]) xj KW oN
noncomputable def ly : OV := Uh (ls [x0, x1, u, u, u, u, x6, u, x8, x9] 126) H
noncomputable def alP : KX := BX 1 xj KW
theorem mW : ar WM oN := rf
theorem XS : ar 87112285931760246646623899502532662132536 Ue := rc mW aB mW
theorem mt : ar WM KV := rc mW aB mW
theorem XT : ar 87112285931760246646623899502532661608248 Uf := rc (cd mt) aB mW
theorem tW : ∀ i, ar WM (Ui i) := rb (cd mt) aB
theorem XU : ar 87112285931760246646623899502531587866424 Ug := rc (cd mt) (cx tW) mW
theorem XV : ar 87112285931760246646623899502532662131900 Uh := rc (cd mt) (cx tW) mW
theorem XW : ∀ i, ar WM (alP i) := rb (cd mt) (cx tW)
theorem cp : cz x6 H =
 some ((vb false), H) :=
 (by kernel_rfl)
theorem pU : ly x0 x1 x6 x8 x9 H =
 av x8
 ((FF bE [x0, x1, (vi 6)] H).bind fun a =>
 st 1 [.n, .f 6] x0 (vi 6) a.2 fun b =>
 cz x6 b)
 ((gV x9 true x0).bind fun c =>
 fc x9 true  [.n, .f 8] c H fun d =>
 (gB x9 true (aj .other .lss d (vi 0))).bind fun e =>
 (aK x9 e (vb false)).bind fun g =>
 av g
 ((FF bE [x0, x1, (vi 7)] H).bind fun i =>
 st 1 [.n, .f 6] x0 (vi 6) i.2 fun j =>
 cz x6 j)
 (av x9
 (st 1 [.n, .f 6] x0 (vi 4) H fun k =>
 cz x6 k)
 (cz x6 H))) :=
 (bt rfl (oM [1, 1, 0, 1, 4, 1, 2, 1, 4]) 1 XW (by kernel_rfl))
theorem dF : lx x0 x1 x2 x6 x7 x19 x30 H =
 av x30
 ((FF F6 [x0] H).bind fun b =>
 (ag b.1 0).bind fun d =>
 (ag b.1 1).bind fun e =>
 ly x0 x1 x6 d e b.2)
 ((aj .other .eql x19 (vi 4)).bind fun g =>
 av g
 (ld [.n, .f 0, .f 4] x7 H fun i =>
 ld [.n, .f 2, .f 2] x0 H fun j =>
 (FF kG [i, j] H).bind fun a =>
 (ag a.1 0).bind fun k =>
 (ag a.1 1).bind fun K =>
 ld [.n, .f 1] x0 a.2 fun l =>
 ld [.n, .f 2, .f 1] x0 a.2 fun m =>
 ld [.n, .f 2, .f 3] x0 a.2 fun o =>
 gY [(0, 1), (1, 1), (2, 1)] [(vi 0), (vi 0), (vw 0)] [(0, m), (1, o), (2, k)] fun p =>
 (FF g9 [x7, l, p] a.2).bind fun c =>
 st 1 [.n, .f 10] x0 c.1 c.2 fun q =>
 st 1 [.n, .f 6] x0 (vi 5) q fun s =>
 cz x6 s)
 ((aj .other .eql x19 (vi 5)).bind fun t =>
 av t
 (ld [.n, .f 7] x7 H fun w =>
 ld [.n, .f 1] x0 H fun y =>
 ld [.n, .f 8] x0 H fun z =>
 ld [.n, .f 2, .f 1] x0 H fun A =>
 ld [.n, .f 10] x0 H fun B =>
 (FF iP [w, y, x2, z, A, B] H).bind fun C =>
 (FF bE [x0, x1, (vi 0)] C.2).bind fun D =>
 st 1 [.n, .f 6] x0 (vi 6) D.2 fun E =>
 cz x6 E)
 (ld [.n, .f 7] x7 H fun G =>
 ld [.n, .f 1] x0 H fun I =>
 (FF ed [G, I, x2] H).bind fun J =>
 some ((vb true), J.2)))) :=
 (ct rfl (oM [1, 1, 0, 1, 4, 1, 2]) (oM [1, 1, 0, 1, 4, 1, 3]) (.tmp 30) (pt rfl 0 XV (by kernel_rfl)) (by kernel_rfl))
theorem dE : gO x0 x1 x2 x6 x7 x19 H =
 (aj .other .eql x19 (vi 3)).bind fun a =>
 lx x0 x1 x2 x6 x7 x19 a H :=
 (bt rfl (oM [1, 1, 0, 1, 4]) 0 tW (pt rfl 0 XU (by kernel_rfl)))
theorem pT : lw x0 x1 x2 x6 x7 H =
 ld [.n, .f 6] x0 H fun a =>
 gO x0 x1 x2 x6 x7 a H :=
 (pt rfl 0 mt (pt rfl 0 XT (by kernel_rfl)))
noncomputable def zg : OV := be PP GG FF (oM []) (ls [x0, x1, x2] 133) H oN bA oN
theorem tc {r : Value × AH} (h : (
 ld [.n, .f 0] x0 H fun a =>
 lw x0 x1 x2 (vb false) a H) = some r) : FF lO [x0, x1, x2] H = some r :=
 fo (t := zg x0 x1 x2 H) Tryz.func163 (by kernel_rfl) (Eq.trans (pt rfl 1 XS (by kernel_rfl)) h)
noncomputable def E9 (p : List Nat) : Code := Code.sub (bH Tryz.f164) p
noncomputable def r9 : KK := dM PP (Tryz.f164).results.toList
noncomputable def Uk : KK := CQ (E9 [1, 1]) r9 bA r9
noncomputable def pV : OV := Uk (ls [x0, x1, x2, u, u, u, x6, x7] 153) H
noncomputable def KY : KK := CQ (E9 [1, 1, 1]) r9 bA r9
noncomputable def Uj : KK := eG akR KY
noncomputable def bw : OV := KY (ls [u, u, u, u, u, u, x6] 154) H
noncomputable def Ul : KK := CQ (E9 [1, 1, 0, 1]) Uj bA r9
noncomputable def ku : OV := Ul (ls [x0, x1, x2, u, u, u, x6, x7, u, u, u, u, u, u, u, u, u, x17] 143) H
noncomputable def alQ : KX := BX 0 Uj bA
theorem sd : ar akR r9 := rf
theorem XX : ar 2923003274661805836407369665432566039311865085752 Uk := rc sd aB sd
theorem z7 : ar akR KY := rc sd aB sd
theorem XY : ar 2923003274661805836407369665432566039311864954680 Ul := rc (cd z7) aB sd
theorem XZ : ∀ i, ar akR (alQ i) := rb (cd z7) aB
theorem bp : bw x6 H =
 some ((vb false), H) :=
 (by kernel_rfl)
theorem cm : ku x0 x1 x2 x6 x7 x17 H =
 (aj .other .eql x17 (vi 3)).bind fun q =>
 av q
 ((FF F6 [x0] H).bind fun c =>
 (ag c.1 0).bind fun s =>
 (ag c.1 1).bind fun t =>
 av s
 (st 1 [.n, .f 6] x0 (vi 4) c.2 fun w =>
 bw x6 w)
 (av t
 ((FF bE [x0, x1, (vi 5)] c.2).bind fun y =>
 st 1 [.n, .f 6] x0 (vi 10) y.2 fun z =>
 bw x6 z)
 (bw x6 c.2)))
 ((aj .other .eql x17 (vi 4)).bind fun A =>
 av A
 (st 1 [.n, .f 6] x0 (vi 5) H fun B =>
 (FF eK [x0] B).bind fun d =>
 (aj .other .eql d.1 (vi 0)).bind fun C =>
 av C
 (st 1 [.n, .f 6] x0 (vi 8) d.2 fun D =>
 bw x6 D)
 (bw x6 d.2))
 ((aj .other .eql x17 (vi 5)).bind fun E =>
 av E
 (ld [.n, .f 1] x0 H fun G =>
 (FF eI [x7, G] H).bind fun p =>
 st 1 [.n, .f 13] x0 p.1 p.2 fun I =>
 st 1 [.n, .f 6] x0 (vi 6) I fun e =>
 ld [.n, .f 13] x0 e fun J =>
 (aj .other .rem J (vw 2)).bind fun K =>
 (aj .other .eql K (vw 1)).bind fun L =>
 av L
 (st 1 [.n, .f 6] x0 (vi 4) e fun M =>
 bw x6 M)
 (bw x6 e))
 ((aj .other .eql x17 (vi 6)).bind fun N =>
 av N
 (st 1 [.n, .f 6] x0 (vi 7) H fun O =>
 st 1 [.n, .f 16] x0 x1 O fun P =>
 (FF eK [x0] P).bind fun g =>
 (aj .other .eql g.1 (vi 0)).bind fun Q =>
 av Q
 (st 1 [.n, .f 6] x0 (vi 8) g.2 fun R =>
 bw x6 R)
 (bw x6 g.2))
 ((aj .other .eql x17 (vi 7)).bind fun S =>
 av S
 (st 1 [.n, .f 6] x0 (vi 4) H fun i =>
 ld [.n, .f 1] x0 i fun T =>
 (FF eI [x7, T] i).bind fun a =>
 ad [.n, .f 13] x0 fun j =>
 (aq j a.2).bind fun U =>
 bT (aq j i) (aq j a.2) <|
 (aj .other .eql a.1 U).bind fun V =>
 av V
 (ld [.n, .f 16] x0 a.2 fun W =>
 (FF bE [x0, W, (vi 8)] a.2).bind fun X =>
 st 1 [.n, .f 6] x0 (vi 10) X.2 fun Y =>
 bw x6 Y)
 (bw x6 a.2))
 ((aj .other .eql x17 (vi 8)).bind fun Z =>
 av Z
 (st 1 [.n, .f 6] x0 (vi 4) H fun k =>
 (FF bU [x0] k).bind fun b =>
 ad [.n, .f 1] x0 fun l =>
 (aq l b.2).bind fun a0 =>
 bT (aq l k) (aq l b.2) <|
 ad [.n, .f 11] x0 fun m =>
 (aq m b.2).bind fun a1 =>
 bT (aq m k) (aq m b.2) <|
 (FF gf [b.1, a0, a1, (vi 2)] b.2).bind fun o =>
 av o.1
 ((FF bE [x0, x1, (vi 0)] o.2).bind fun a2 =>
 st 1 [.n, .f 6] x0 (vi 9) a2.2 fun a3 =>
 bw x6 a3)
 (bw x6 o.2))
 ((aj .other .eql x17 (vi 9)).bind fun a4 =>
 av a4
 (ld [.n, .f 7] x7 H fun a5 =>
 ld [.n, .f 1] x0 H fun a6 =>
 ld [.n, .f 7] x0 H fun a7 =>
 (FF jA [a5, a6, x2, a7] H).bind fun a8 =>
 st 1 [.n, .f 6] x0 (vi 10) a8.2 fun a9 =>
 bw x6 a9)
 (ld [.n, .f 7] x7 H fun b0 =>
 ld [.n, .f 1] x0 H fun b1 =>
 (FF ed [b0, b1, x2] H).bind fun b2 =>
 some ((vb true), b2.2)))))))) :=
 (bt rfl (E9 [1, 1, 0, 1, 4]) 0 XZ (by kernel_rfl))
theorem uz : pV x0 x1 x2 x6 x7 H =
 ld [.n, .f 6] x0 H fun a =>
 ku x0 x1 x2 x6 x7 a H :=
 (pt rfl 0 z7 (pt rfl 0 XY (by kernel_rfl)))
noncomputable def Ip : OV := be PP GG FF (E9 []) (ls [x0, x1, x2] 158) H r9 bA r9
theorem A8 {r : Value × AH} (h : (
 ld [.n, .f 0] x0 H fun a =>
 pV x0 x1 x2 (vb false) a H) = some r) : FF qY [x0, x1, x2] H = some r :=
 fo (t := Ip x0 x1 x2 H) Tryz.func164 (by kernel_rfl) (Eq.trans (pt rfl 1 XX (by kernel_rfl)) h)
theorem Kb {r : Value × AH} (h : (
 aW [(vi 0), (.slice none 0 0), (vi 0), (vw 0)] H fun b d =>
 (FF mB [x0, x1, x2] d).bind fun e =>
 (FF my [x0, x2] e.2).bind fun a =>
 (ag a.1 0).bind fun f =>
 (ag a.1 1).bind fun g =>
 (cH 4 b f a.2).bind fun c =>
 (ax 4 b c).bind fun i => some (Value.tuple #[i, g], c)) = some r) : FF ja [x0, x1, x2] H = some r :=
 fo Tryz.func167 (by kernel_rfl) h
noncomputable def KZ (p : List Nat) : Code := Code.sub (bH Tryz.f168) p
noncomputable def vo : KK := dM PP (Tryz.f168).results.toList
noncomputable def Um : KK := CQ (KZ [1, 1]) vo bA vo
noncomputable def EV : OV := Um (ls [x0, u, u, u, x4, x5, x6] 27) H
noncomputable def K4 : KK := CQ (KZ [1, 1, 1]) vo bA vo
noncomputable def alR : KK := eG 17179869134 K4
noncomputable def EW : OV := K4 (ls [x0, u, u, u, x4, x5] 28) H
noncomputable def alS : KX := BX 0 alR bA
theorem xl : ar 17179869135 vo := rf
theorem X0 : ar 17179869070 Um := rc xl aB xl
theorem IY : ar 17179869134 K4 := rc xl aB xl
theorem X1 : ∀ i, ar 17179869134 (alS i) := rb (cd IY) aB
theorem HO : EW x0 x4 x5 H =
 (FF bI [x0, (.func (.func j9) #[x0] #[])] H).bind fun a =>
 (ag a.1 0).bind fun c =>
 (ag a.1 1).bind fun d =>
 (cH 4 x4 c a.2).bind fun b =>
 (ax 4 x4 b).bind fun e => some (Value.tuple #[e, d], b) :=
 (by kernel_rfl)
theorem HN : EV x0 x4 x5 x6 H =
 ld [.n, .f 10] x0 H fun e =>
 av e
 ((FF bI [x0, (.func (.func g6) #[x0] #[])] H).bind fun a =>
 (ag a.1 0).bind fun g =>
 (ag a.1 1).bind fun i =>
 (cH 4 x4 g a.2).bind fun c =>
 (ax 4 x4 c).bind fun j => some (Value.tuple #[j, i], c))
 (av x6
 ((FF bI [x0, (.func (.func dl) #[x0] #[])] H).bind fun b =>
 (ag b.1 0).bind fun k =>
 (ag b.1 1).bind fun l =>
 (cH 4 x4 k b.2).bind fun d =>
 (ax 4 x4 d).bind fun m => some (Value.tuple #[m, l], d))
 (EW x0 x4 x5 H)) :=
 (pt rfl 0 IY (bt rfl (KZ [1, 1, 0, 4]) 0 X1 (by kernel_rfl)))
noncomputable def ak0 : OV := be PP GG FF (KZ []) (ls [x0, x1] 32) H vo bA vo
theorem PV {r : Value × AH} (h : (
 aW [(vi 0), (.slice none 0 0), (vi 0), (vw 0)] H fun b c =>
 (FF yo [x0] c).bind fun a =>
 EV x0 b (vb false) a.1 a.2) = some r) : FF j9 [x0, x1] H = some r :=
 fo (t := ak0 x0 x1 H) Tryz.func168 (by kernel_rfl) (Eq.trans (pt rfl 1 X0 (by kernel_rfl)) h)
noncomputable def gH (p : List Nat) : Code := Code.sub (bH Tryz.f169) p
noncomputable def gI : KK := dM PP (Tryz.f169).results.toList
noncomputable def Uo : KK := CQ (gH [1, 1]) gI bA gI
noncomputable def ah1 : OV := Uo (ls [x0, x1, x2, u, u, u, u, x7, x8] 81) H
noncomputable def K5 : KK := CQ (gH [1, 1, 1]) gI bA gI
noncomputable def Un : KK := eG Ne K5
noncomputable def RN : OV := K5 (ls [x0, x1, x2, u, u, u, u, x7, x8] 81) H
noncomputable def Uq : KK := CQ (gH [1, 1, 1, 1, 1]) gI bA gI
noncomputable def ah2 : OV := Uq (ls [x0, x1, x2, u, u, u, u, x7, x8, u, x10] 79) H
noncomputable def K6 : KK := CQ (gH [1, 1, 1, 1, 1, 1]) gI bA gI
noncomputable def alT : KK := eG J2 K6
noncomputable def RP : OV := K6 (ls [x0, x1, x2, u, u, u, u, x7, x8, u, x10] 79) H
noncomputable def Fe : KX := BX 2 alT bA
noncomputable def Fg : KX := qQ J2 Fe
noncomputable def Fa : KK := Cb (gH [1, 1, 1, 1, 1, 0, 4, 5]) Fg gI
noncomputable def NH : KK := eG J2 Fa
noncomputable def D9 : OV := Fa (ls [x0, x1, x2, u, u, u, u, x7, x8, u, x10] 79) H
noncomputable def NJ : KK := CQ (gH [1, 1, 1, 1, 1, 0, 4, 5, 1]) NH Fg gI
noncomputable def VQ : OV := NJ (ls [x0, x1, x2, u, u, u, u, x7, x8, u, x10] 79) H
noncomputable def ac7 : KX := BX 3 NH Fg
noncomputable def Ju : OV := Fe 2 (ls [x0, x1, x2, u, u, u, u, x7, x8, u, x10] 79) H
noncomputable def NK : KK := CQ (gH [1, 1, 0, 1]) Un bA gI
noncomputable def VR : OV := NK (ls [x0, x1, x2, u, u, u, u, x7, x8, x9] 80) H
noncomputable def Ff : KX := BX 0 Un bA
noncomputable def xm : KX := qQ Ne Ff
noncomputable def Fb : KK := Cb (gH [1, 1, 0, 1, 4, 5]) xm gI
noncomputable def NI : KK := eG Ex Fb
noncomputable def Ea : OV := Fb (ls [x0, x1, x2, u, u, u, u, x7, x8, x9] 80) H
noncomputable def NL : KK := CQ (gH [1, 1, 0, 1, 4, 5, 1]) NI xm gI
noncomputable def VS : OV := NL (ls [x0, x1, x2, u, u, u, u, x7, x8, x9] 80) H
noncomputable def Fc : KK := CQ (gH [1, 1, 0, 1, 4, 5, 1, 1]) NI xm gI
noncomputable def ac6 : KK := eG Ex Fc
noncomputable def Eb : OV := Fc (ls [x0, x1, x2, u, u, u, u, x7, x8, x9] 80) H
noncomputable def ac8 : KX := BX 1 ac6 xm
noncomputable def Jv : OV := Ff 0 (ls [x0, x1, x2, u, u, u, u, x7, x8] 81) H
theorem eR : ar 1237940039285380274899124223 gI := rf
theorem X3 : ar Ne Uo := rc eR aB eR
theorem z8 : ar Ne K5 := rc eR aB eR
theorem X4 : ar J2 Uq := rc eR aB eR
theorem IZ : ar J2 K6 := rc eR aB eR
theorem qg : ∀ i, ar J2 (Fe i) := rb (cd IZ) aB
theorem qe : ar J2 Fa := rl (cx qg) eR
theorem Qf : ar J2 NJ := rc (cd qe) (cx qg) eR
theorem Qi : ∀ i, ar J2 (ac7 i) := rb (cd qe) (cx qg)
theorem Qg : ar Ex NK := rc (cd z8) aB eR
theorem mX : ∀ i, ar Ne (Ff i) := rb (cd z8) aB
theorem qf : ar Ex Fb := rl (cx mX) eR
theorem Qh : ar Ex NL := rc (cd qf) (cx mX) eR
theorem Fd : ar Ex Fc := rc (cd qf) (cx mX) eR
theorem Qj : ∀ i, ar Ex (ac8 i) := rb (cd Fd) (cx mX)
theorem ZN : RP x0 x1 x2 x7 x8 x10 H =
 ld [.n, .f 13] x0 H fun d =>
 (fO 7 d none (some x10)).bind fun e =>
 (dS 7 72 (.slice none 0 0) e H).bind fun a =>
 (ax 4 x7 a.2).bind fun g =>
 gY [(0, 1), (1, 1), (2, 1), (3, 4)] [(vi 0), (vi 0), (vi 0), (vi 0), (.slice none 0 0), (vi 0), (vw 0)] [(0, x1), (1, x2), (2, x8), (3, g)] fun i =>
 wL 1 7 [(vi 0), (vi 0), (vi 0), (vi 0), (.slice none 0 0), (vi 0), (vw 0)] [(0, i)] a.2 fun j k =>
 (dS 7 72 a.1 j k).bind fun b =>
 ld [.n, .f 13] x0 b.2 fun l =>
 (fO 7 l (some x10) none).bind fun m =>
 (dS 7 72 b.1 m b.2).bind fun c =>
 st 1 [.n, .f 13] x0 c.1 c.2 fun o =>
 some (Value.tuple #[], o) :=
 (by kernel_rfl)
theorem RO : VQ x0 x1 x2 x7 x8 x10 H =
 (aj .other .sub x10 (vi 1)).bind fun a =>
 D9 x0 x1 x2 x7 x8 a H :=
 (bt rfl (gH [1, 1, 1, 1, 1, 0, 4, 5, 1, 4]) 3 Qi (by kernel_rfl))
theorem zh : Ju x0 x1 x2 x7 x8 x10 H = RP x0 x1 x2 x7 x8 x10 H :=
 (by kernel_rfl)
theorem GL : D9 x0 x1 x2 x7 x8 x10 H =
 (aj .other .gtr x10 (vi 0)).bind fun a =>
 (gV a true x0).bind fun b =>
 fc a true  [.n, .f 13] b H fun c =>
 (gV a true x10).bind fun d =>
 (gB a true (aj .other .sub d (vi 1))).bind fun e =>
 fc a true  [.i 7 e, .f 0] c H fun g =>
 (gV a true x1).bind fun j =>
 (gB a true (aj .other .gtr g j)).bind fun k =>
 (aK a k (vb false)).bind fun l =>
 av l
 (VQ x0 x1 x2 x7 x8 x10 H)
 (Ju x0 x1 x2 x7 x8 x10 H) :=
 CD rfl qe (pt rfl 0 Qf (by kernel_rfl))
theorem ZM : ah2 x0 x1 x2 x7 x8 x10 H =
 D9 x0 x1 x2 x7 x8 x10 H :=
 (pt rfl 0 IZ (bt rfl (gH [1, 1, 1, 1, 1, 0, 4]) 2 qg (li rfl (gH [1, 1, 1, 1, 1, 0, 4, 5]) qe (by kernel_rfl))))
theorem ZL : RN x0 x1 x2 x7 x8 H =
 ld [.f 1] x7 H fun c =>
 (dS 3 24 (.slice none 0 0) c H).bind fun a =>
 st 1 [.f 1] x7 a.1 a.2 fun b =>
 ld [.n, .f 13] x0 b fun d =>
 eS d fun e =>
 ah2 x0 x1 x2 x7 x8 e b :=
 (pt rfl 1 X4 (by kernel_rfl))
theorem RS : Eb x0 x1 x2 x7 x8 x9 H =
 (aj .other .add x9 (vi 2)).bind fun a =>
 Ea x0 x1 x2 x7 x8 a H :=
 (by kernel_rfl)
theorem RR : VS x0 x1 x2 x7 x8 x9 H =
 ld [.n, .f 12] x0 H fun a =>
 ld [.i 1 x9] a H fun b =>
 (aj .other .eql b x2).bind fun c =>
 av c
 (ld [.n, .f 12] x0 H fun d =>
 (aj .other .add x9 (vi 1)).bind fun e =>
 ld [.i 1 e] d H fun g =>
 Eb x0 x1 x2 x7 g x9 H)
 (Eb x0 x1 x2 x7 x8 x9 H) :=
 (pt rfl 0 Fd (bt rfl (gH [1, 1, 0, 1, 4, 5, 1, 0, 4]) 1 Qj (by kernel_rfl)))
theorem Mw : Jv x0 x1 x2 x7 x8 H = RN x0 x1 x2 x7 x8 H :=
 (by kernel_rfl)
theorem GM : Ea x0 x1 x2 x7 x8 x9 H =
 ld [.n, .f 12] x0 H fun a =>
 eS a fun b =>
 (aj .other .lss x9 b).bind fun c =>
 av c
 (VS x0 x1 x2 x7 x8 x9 H)
 (Jv x0 x1 x2 x7 x8 H) :=
 CD rfl qf (pt rfl 0 Qh (by kernel_rfl))
theorem RQ : VR x0 x1 x2 x7 x8 x9 H =
 Ea x0 x1 x2 x7 x8 x9 H :=
 (bt rfl (gH [1, 1, 0, 1, 4]) 0 mX (li rfl (gH [1, 1, 0, 1, 4, 5]) qf (by kernel_rfl)))
theorem ZK : ah1 x0 x1 x2 x7 x8 H =
 VR x0 x1 x2 x7 x8 (vi 0) H :=
 (pt rfl 0 z8 (pt rfl 0 Qg (by kernel_rfl)))
noncomputable def rPN : OV := be PP GG FF (gH []) (ls [x0, x1, x2, x3] 86) H gI bA gI
theorem ap4 {r : Value × AH} (h : (
 aW (Value.cells x3).toList H fun a b =>
 ah1 x0 x1 x2 a (vi 0) b) = some r) : FF ag2 [x0, x1, x2, x3] H = some r :=
 fo (t := rPN x0 x1 x2 x3 H) Tryz.func169 (by kernel_rfl) (Eq.trans (pt rfl 1 X3 (by kernel_rfl)) h)
theorem zd {r : Value × AH} (h : (
 ad [.n, .f 0] x0 fun b =>
 (aq b H).bind fun d =>
 (FF bY [(vi 10), x2, x3] H).bind fun c =>
 bT (aq b c.2) (aq b H) <|
 (FF eb [d, x1, c.1] c.2).bind fun a =>
 (aj .other .eql a.1 (vw 0)).bind fun e =>
 av e
 (some (Value.tuple #[(vi 0), (vi 0), (vb false)], a.2))
 ((aj .other .quo a.1 (vw 4294967296)).bind fun g =>
 (cL (some .i64) g).bind fun i =>
 (aj .other .sub i (vi 1)).bind fun j =>
 (aj .other .rem a.1 (vw 4294967296)).bind fun k =>
 (cL (some .i64) k).bind fun l =>
 some (Value.tuple #[j, l, (vb true)], a.2))) = some r) : FF km [x0, x1, x2, x3] H = some r :=
 fo Tryz.func170 (by kernel_rfl) h
theorem Dh {r : Value × AH} (h : (
 aW (Value.cells x2).toList H fun b c =>
 (ax 3 b c).bind fun e =>
 (FF BI [x0, e] c).bind fun a =>
 ld [.n, .f 1] x0 a.2 fun g =>
 ld [.i 1 a.1] g a.2 fun j =>
 (aj .other .neq j x3).bind fun k =>
 av k
 ((ax 3 b a.2).bind fun l =>
 (FF ch [x0, x1, (vi 4), l] a.2).bind fun m =>
 some ((vb false), m.2))
 ((ax 3 b a.2).bind fun o =>
 (FF ch [x0, x1, (vi 3), o] a.2).bind fun d =>
 ld [.n, .f 1] x0 d.2 fun p =>
 st 1 [.i 1 a.1] p x4 d.2 fun q =>
 some ((vb true), q))) = some r) : FF gN [x0, x1, x2, x3, x4] H = some r :=
 fo Tryz.func171 (by kernel_rfl) h
theorem A4 {r : Value × AH} (h : (
 ad [.n, .f 0] x0 fun a =>
 (aq a H).bind fun d =>
 ld [.n, .f 1] x0 H fun e =>
 (FF bY [(vi 11), e, (vi 0)] H).bind fun b =>
 bT (aq a b.2) (aq a H) <|
 (FF eb [d, x1, b.1] b.2).bind fun c =>
 some (c.1, c.2)) = some r) : FF lG [x0, x1] H = some r :=
 fo Tryz.func172 (by kernel_rfl) h
theorem Df {r : Value × AH} (h : (
 aW (Value.cells x2).toList H fun b c =>
 (ax 3 b c).bind fun e =>
 (FF ch [x0, x1, (vi 1), e] c).bind fun d =>
 (ax 3 b d.2).bind fun g =>
 (FF BI [x0, g] d.2).bind fun a =>
 ld [.n, .f 1] x0 a.2 fun j =>
 ld [.i 1 a.1] j a.2 fun k =>
 some (k, a.2)) = some r) : FF eb [x0, x1, x2] H = some r :=
 fo Tryz.func173 (by kernel_rfl) h
theorem pR {r : Value × AH} (h : (
 ld [.n, .f 2] x0 H fun a =>
 (cL (some .u64) a).bind fun b =>
 (aj .other .rem x1 b).bind fun c =>
 (cL (some .i64) c).bind fun d =>
 some (d, H)) = some r) : FF eJ [x0, x1] H = some r :=
 fo Tryz.func174 (by kernel_rfl) h
theorem GC {r : Value × AH} (h : (
 aW (Value.cells x2).toList H fun c d =>
 (ax 3 c d).bind fun g =>
 (FF BI [x0, g] d).bind fun a =>
 (ax 3 c a.2).bind fun j =>
 (FF ch [x0, x1, (vi 3), j] a.2).bind fun b =>
 ld [.n, .f 1] x0 b.2 fun k =>
 ld [.i 1 a.1] k b.2 fun e =>
 ld [.n, .f 1] x0 b.2 fun l =>
 (aj .other .add e x3).bind fun m =>
 st 1 [.i 1 a.1] l m b.2 fun o =>
 some (e, o)) = some r) : FF iH [x0, x1, x2, x3] H = some r :=
 fo Tryz.func175 (by kernel_rfl) h
theorem AV {r : Value × AH} (h : (
 ad [.n, .f 5] x0 fun a =>
 (aq a H).bind fun d =>
 (FF bY [(vi 2), (vi 0), (vi 0)] H).bind fun b =>
 bT (aq a b.2) (aq a H) <|
 (FF eb [d, x1, b.1] b.2).bind fun c =>
 some (c.1, c.2)) = some r) : FF eI [x0, x1] H = some r :=
 fo Tryz.func176 (by kernel_rfl) h
theorem AQ {r : Value × AH} (h : (
 ad [.n, .f 0] x0 fun a =>
 (aq a H).bind fun c =>
 (FF bY [(vi 3), (vi 0), (vi 0)] H).bind fun b =>
 bT (aq a b.2) (aq a H) <|
 (FF iH [c, x1, b.1, (vw 1)] b.2).bind fun d =>
 some (Value.tuple #[], d.2)) = some r) : FF iL [x0, x1] H = some r :=
 fo Tryz.func177 (by kernel_rfl) h
theorem AS {r : Value × AH} (h : (
 ad [.n, .f 0] x0 fun a =>
 (aq a H).bind fun d =>
 (FF bY [(vi 9), x2, (vi 0)] H).bind fun b =>
 bT (aq a b.2) (aq a H) <|
 (FF eb [d, x1, b.1] b.2).bind fun c =>
 some (c.1, c.2)) = some r) : FF lE [x0, x1, x2] H = some r :=
 fo Tryz.func178 (by kernel_rfl) h
theorem y8 {r : Value × AH} (h : (
 ad [.n, .f 0] x0 fun c =>
 (aq c H).bind fun k =>
 (FF bY [(vi 14), x2, (vi 0)] H).bind fun d =>
 bT (aq c d.2) (aq c H) <|
 (FF ch [k, x1, (vi 6), d.1] d.2).bind fun l =>
 (FF nk [x0, x2] l.2).bind fun a =>
 (aj .other .lss a.1 (vi 0)).bind fun m =>
 av m
 (ld [.n, .f 2] x0 a.2 fun o =>
 wL 1 1 [(vi 0)] [(0, x2)] a.2 fun p g =>
 (dS 1 8 o p g).bind fun b =>
 ad [.n, .f 3] x0 fun e =>
 (aq e b.2).bind fun q =>
 bT (aq e g) (aq e b.2) <|
 wL 1 1 [(vw 0)] [(0, x3)] b.2 fun s t =>
 (dS 1 8 q s t).bind fun j =>
 st 1 [.n, .f 2] x0 b.1 j.2 fun w =>
 st 1 [.n, .f 3] x0 j.1 w fun y =>
 some (Value.tuple #[], y))
 (ld [.n, .f 3] x0 a.2 fun z =>
 st 1 [.i 1 a.1] z x3 a.2 fun A =>
 some (Value.tuple #[], A))) = some r) : FF kg [x0, x1, x2, x3] H = some r :=
 fo Tryz.func179 (by kernel_rfl) h
theorem y9 {r : Value × AH} (h : (
 ad [.n, .f 0] x0 fun a =>
 (aq a H).bind fun d =>
 (FF bY [(vi 9), x2, (vi 0)] H).bind fun b =>
 bT (aq a b.2) (aq a H) <|
 (cL (some .u64) x4).bind fun e =>
 (aj .other .add e (vw 1)).bind fun g =>
 (FF gN [d, x1, b.1, x3, g] b.2).bind fun c =>
 some (c.1, c.2)) = some r) : FF kj [x0, x1, x2, x3, x4] H = some r :=
 fo Tryz.func180 (by kernel_rfl) h
theorem F3 {r : Value × AH} (h : (
 aW (Value.cells x2).toList H fun a b =>
 (ax 3 a b).bind fun e =>
 (ax 3 a b).bind fun f =>
 (FF fG [x0, f] b).bind fun c =>
 bT (ax 3 a c.2) (ax 3 a b) <|
 (aj .other .add c.1 x3).bind fun g =>
 (FF jv [x0, x1, e, g] c.2).bind fun d =>
 some (d.1, d.2)) = some r) : FF gj [x0, x1, x2, x3] H = some r :=
 fo Tryz.func181 (by kernel_rfl) h
noncomputable def oO (p : List Nat) : Code := Code.sub (bH Tryz.f182) p
noncomputable def mY : KK := dM PP (Tryz.f182).results.toList
noncomputable def Us : KK := CQ (oO [1]) mY bA mY
noncomputable def ahU : OV := Us (ls [x0, u, u, x3, x4] 45) H
noncomputable def K7 : KK := CQ (oO [1, 1]) mY bA mY
noncomputable def Ur : KK := eG Nh K7
noncomputable def ahV : OV := K7 (ls [x0, u, u, x3, x4] 45) H
noncomputable def NN : KK := CQ (oO [1, 0, 1]) Ur bA mY
noncomputable def VN : OV := NN (ls [x0, u, u, x3, x4, x5] 44) H
noncomputable def Fk : KX := BX 0 Ur bA
noncomputable def xn : KX := qQ Nh Fk
noncomputable def Fh : KK := Cb (oO [1, 0, 1, 4, 5]) xn mY
noncomputable def NM : KK := eG EA Fh
noncomputable def D8 : OV := Fh (ls [x0, u, u, x3, x4, x5] 44) H
noncomputable def NO : KK := CQ (oO [1, 0, 1, 4, 5, 1]) NM xn mY
noncomputable def VO : OV := NO (ls [x0, u, u, x3, x4, x5] 44) H
noncomputable def Fi : KK := CQ (oO [1, 0, 1, 4, 5, 1, 1]) NM xn mY
noncomputable def ac9 : KK := eG EA Fi
noncomputable def VP : OV := Fi (ls [x0, u, u, x3, x4, x5] 44) H
noncomputable def adA : KX := BX 1 ac9 xn
noncomputable def Js : OV := Fk 0 (ls [x0, u, u, x3, x4] 45) H
theorem la : ar 1125899906842607 mY := rf
theorem X5 : ar Nh Us := rc la aB la
theorem z9 : ar Nh K7 := rc la aB la
theorem Qk : ar EA NN := rc (cd z9) aB la
theorem mZ : ∀ i, ar Nh (Fk i) := rb (cd z9) aB
theorem qh : ar EA Fh := rl (cx mZ) la
theorem Ql : ar EA NO := rc (cd qh) (cx mZ) la
theorem Fj : ar EA Fi := rc (cd qh) (cx mZ) la
theorem Qm : ∀ i, ar EA (adA i) := rb (cd Fj) (cx mZ)
theorem ZE : ahV x0 x3 x4 H =
 ld [.n, .f 0] x0 H fun g =>
 (ax 3 x3 H).bind fun i =>
 wL 1 3 [(vi 0), (vi 0), (vi 0)] [(0, i)] H fun j c =>
 (dS 3 24 g j c).bind fun a =>
 ad [.n, .f 1] x0 fun b =>
 (aq b a.2).bind fun k =>
 bT (aq b c) (aq b a.2) <|
 wL 1 1 [(vw 0)] [(0, (vw 0))] a.2 fun l m =>
 (dS 1 8 k l m).bind fun d =>
 st 1 [.n, .f 0] x0 a.1 d.2 fun o =>
 st 1 [.n, .f 1] x0 d.1 o fun e =>
 ld [.n, .f 0] x0 e fun p =>
 eS p fun q =>
 (aj .other .sub q (vi 1)).bind fun s =>
 some (s, e) :=
 (by kernel_rfl)
theorem RM : VP x0 x3 x4 x5 H =
 (aj .other .add x5 (vi 1)).bind fun a =>
 D8 x0 x3 x4 a H :=
 (by kernel_rfl)
theorem RL : VO x0 x3 x4 x5 H =
 ld [.n, .f 0] x0 H fun a =>
 ldN 3 [.i 3 x5] a H fun b =>
 (ax 3 x3 H).bind fun c =>
 (aj (.flat 3) .eql b c).bind fun d =>
 av d
 (some (x5, H))
 (VP x0 x3 x4 x5 H) :=
 (pt rfl 0 Fj (bt rfl (oO [1, 0, 1, 4, 5, 1, 0, 4]) 1 Qm (by kernel_rfl)))
theorem Mt : Js x0 x3 x4 H = ahV x0 x3 x4 H :=
 (by kernel_rfl)
theorem GK : D8 x0 x3 x4 x5 H =
 ld [.n, .f 0] x0 H fun a =>
 eS a fun b =>
 (aj .other .lss x5 b).bind fun c =>
 av c
 (VO x0 x3 x4 x5 H)
 (Js x0 x3 x4 H) :=
 CD rfl qh (pt rfl 0 Ql (by kernel_rfl))
theorem RK : VN x0 x3 x4 x5 H =
 D8 x0 x3 x4 x5 H :=
 (bt rfl (oO [1, 0, 1, 4]) 0 mZ (li rfl (oO [1, 0, 1, 4, 5]) qh (by kernel_rfl)))
theorem ZD : ahU x0 x3 x4 H =
 VN x0 x3 x4 (vi 0) H :=
 (pt rfl 0 z9 (pt rfl 0 Qk (by kernel_rfl)))
noncomputable def rMp : OV := be PP GG FF (oO []) (ls [x0, x1] 48) H mY bA mY
theorem ap2 {r : Value × AH} (h : (
 aW (Value.cells x1).toList H fun a b =>
 ahU x0 a (vi 0) b) = some r) : FF BI [x0, x1] H = some r :=
 fo (t := rMp x0 x1 H) Tryz.func182 (by kernel_rfl) (Eq.trans (pt rfl 0 X5 (by kernel_rfl)) h)
theorem zv {r : Value × AH} (h : (
 (di x3 [x2]).bind fun c => (FF c.1 c.2 H).bind fun b =>
 (ag b.1 0).bind fun i =>
 (ag b.1 1).bind fun a =>
 (gV a true x0).bind fun j =>
 LQ a true  [.n, .f 0] j fun e =>
 (gB a true (aq e b.2)).bind fun k =>
 (gV a true x1).bind fun l =>
 (gV a true x0).bind fun m =>
 (gE a true b.2 (FF ef [m, (vi 11), (vi 0)] b.2)).bind fun d =>
 bT (aq e d.2) (aq e b.2) <|
 (gV a true x2).bind fun o =>
 (gV a true i).bind fun p =>
 (gE a true d.2 (FF fH [k, l, d.1, o, p] d.2)).bind fun g =>
 (aK a g.1 (vb false)).bind fun q =>
 some (q, g.2)) = some r) : FF fN [x0, x1, x2, x3] H = some r :=
 fo Tryz.func183 (by kernel_rfl) h
theorem MZ {r : Value × AH} (h : (
 (FF dR [x0] H).bind fun a =>
 (aj .other .neq a.1 (vi 1)).bind fun d =>
 av d
 (some (Value.tuple #[(vw 0), (vb false)], a.2))
 ((FF dr [x0] a.2).bind fun c =>
 (FF lp [c.1, (vi 0)] c.2).bind fun b =>
 (ag b.1 0).bind fun e =>
 (ag b.1 1).bind fun f =>
 some (Value.tuple #[e, f], b.2))) = some r) : FF oh [x0] H = some r :=
 fo Tryz.func184 (by kernel_rfl) h
noncomputable def K8 (p : List Nat) : Code := Code.sub (bH Tryz.f185) p
noncomputable def vq : KK := dM PP (Tryz.f185).results.toList
noncomputable def Ut : KK := CQ (K8 [1, 1]) vq bA vq
noncomputable def uW : OV := Ut (ls [u, x1, u, u, x4, x5, x6, x7, x8] 47) H
noncomputable def K9 : KK := CQ (K8 [1, 1, 1]) vq bA vq
noncomputable def alU : KK := eG Ng K9
noncomputable def uX : OV := K9 (ls [u, u, u, u, x4, x5] 50) H
noncomputable def alV : KX := BX 0 alU bA
theorem xo : ar Ng vq := rf
theorem X6 : ar 72057594037927437 Ut := rc xo aB xo
theorem I0 : ar Ng K9 := rc xo aB xo
theorem X7 : ∀ i, ar Ng (alV i) := rb (cd I0) aB
theorem ia : uX x4 x5 H =
 some (Value.tuple #[(vw 0), (vb false)], H) :=
 (by kernel_rfl)
theorem AC : uW x1 x4 x5 x6 x7 x8 H =
 (pM .not x8).bind fun i =>
 av i
 (some (Value.tuple #[(vw 0), (vb false)], H))
 ((aj .other .eql x1 (vi 0)).bind fun a =>
 (gV a true x7).bind fun j =>
 (gB a true (aj .other .neq j (vi 2))).bind fun k =>
 (aK a k (vb false)).bind fun b =>
 (gV b true x6).bind fun l =>
 (gB b true (aj .other .lss l (vw 2305843009213693951))).bind fun m =>
 (aK b m (vb false)).bind fun n =>
 av n
 ((aj .other .add x6 (vw 1)).bind fun o =>
 (FF ni [o, (vi 1)] H).bind fun c =>
 (ag c.1 0).bind fun p =>
 (ag c.1 1).bind fun q =>
 some (Value.tuple #[p, q], c.2))
 ((aj .other .eql x1 (vi 1)).bind fun d =>
 (gV d true x7).bind fun s =>
 (gB d true (aj .other .eql s (vi 1))).bind fun t =>
 (aK d t (vb false)).bind fun w =>
 av w
 ((FF ni [x6, (vi 0)] H).bind fun e =>
 (ag e.1 0).bind fun y =>
 (ag e.1 1).bind fun z =>
 some (Value.tuple #[y, z], e.2))
 ((aj .other .eql x1 (vi 2)).bind fun f =>
 (gV f true x7).bind fun A =>
 (gB f true (aj .other .eql A (vi 0))).bind fun B =>
 (aK f B (vb false)).bind fun C =>
 av C
 ((FF ni [x6, (vi 2)] H).bind fun g =>
 (ag g.1 0).bind fun D =>
 (ag g.1 1).bind fun E =>
 some (Value.tuple #[D, E], g.2))
 (uX x4 x5 H)))) :=
 (pt rfl 0 I0 (bt rfl (K8 [1, 1, 0, 4]) 0 X7 (by kernel_rfl)))
noncomputable def RB : OV := be PP GG FF (K8 []) (ls [x0, x1] 54) H vq bA vq
theorem Ic {r : Value × AH} (h : (
 (FF gM [x0] H).bind fun a =>
 (ag a.1 0).bind fun b =>
 (ag a.1 1).bind fun c =>
 (ag a.1 2).bind fun d =>
 uW x1 (vw 0) (vb false) b c d a.2) = some r) : FF qu [x0, x1] H = some r :=
 fo (t := RB x0 x1 H) Tryz.func185 (by kernel_rfl) (Eq.trans (pt rfl 1 X6 (by kernel_rfl)) h)
theorem M0 {r : Value × AH} (h : (
 (FF dR [x0] H).bind fun a =>
 (aj .other .neq a.1 (vi 0)).bind fun d =>
 av d
 (some (Value.tuple #[(vw 0), (vb false)], a.2))
 ((FF dr [x0] a.2).bind fun c =>
 (FF lp [c.1, (vi 2)] c.2).bind fun b =>
 (ag b.1 0).bind fun e =>
 (ag b.1 1).bind fun f =>
 some (Value.tuple #[e, f], b.2))) = some r) : FF ol [x0] H = some r :=
 fo Tryz.func186 (by kernel_rfl) h
end
section
variable (A B C D E G K L I J : Value) (H : AH)
noncomputable def ir (p : List Nat) : Code := Code.sub (bH Tryz.f190) p
noncomputable def iT : KK := dM PP (Tryz.f190).results.toList
noncomputable def Uw : KK := CQ (ir [1, 1, 1]) iT bA iT
noncomputable def B6 : OV := Uw (ls [A, u, C, D] 38) H
noncomputable def La : KK := CQ (ir [1, 1, 1, 1]) iT bA iT
noncomputable def alW : KK := eG Br La
noncomputable def tr : OV := La (ls [u, u, C, D] 38) H
noncomputable def Lb : KK := CQ (ir [1, 1, 1, 1, 1]) iT bA iT
noncomputable def Uu : KK := eG Br Lb
noncomputable def B7 : OV := Lb (ls [u, u, C, D] 38) H
noncomputable def Ux : KK := CQ (ir [1, 1, 1, 1, 0, 1]) Uu bA iT
noncomputable def B8 : OV := Ux (ls [u, u, C, D, u, u, u, u, u, u, u, u, u, u, u, u, u, u, u, u, u, u, u, u, u, u, u, u, I, J] 12) H
noncomputable def Le : KX := BX 2 Uu bA
noncomputable def DQ : KX := qQ Br Le
noncomputable def Lc : KK := Cb (ir [1, 1, 1, 1, 0, 1, 4, 5]) DQ iT
noncomputable def Uv : KK := eG EC Lc
noncomputable def oG : OV := Lc (ls [u, u, C, D, u, u, u, u, u, u, u, u, u, u, u, u, u, u, u, u, u, u, u, u, u, u, u, u, I, J] 12) H
noncomputable def Uy : KK := CQ (ir [1, 1, 1, 1, 0, 1, 4, 5, 1, 1]) Uv DQ iT
noncomputable def B9 : OV := Uy (ls [u, u, C, D, u, u, u, u, u, u, u, u, u, u, u, u, u, u, u, u, u, u, u, u, u, u, u, u, I, J] 12) H
noncomputable def Ld : KK := CQ (ir [1, 1, 1, 1, 0, 1, 4, 5, 1, 1, 1]) Uv DQ iT
noncomputable def alX : KK := eG EC Ld
noncomputable def Ca : OV := Ld (ls [u, u, C, D, u, u, u, u, u, u, u, u, u, u, u, u, u, u, u, u, u, u, u, u, u, u, u, u, I, J] 12) H
noncomputable def alY : KX := BX 3 alX DQ
noncomputable def vg : OV := Le 2 (ls [u, u, C, D] 38) H
noncomputable def Fm : KX := BX 0 alW bA
noncomputable def Fo : KX := qQ Br Fm
noncomputable def Fl : KK := Cb (ir [1, 1, 1, 0, 4, 5]) Fo iT
noncomputable def NP : KK := eG Nj Fl
noncomputable def mo : OV := Fl (ls [A, u, C, D] 38) H
noncomputable def NQ : KK := CQ (ir [1, 1, 1, 0, 4, 5, 1]) NP Fo iT
noncomputable def zH : OV := NQ (ls [A, u, C, D] 38) H
noncomputable def adB : KX := BX 1 NP Fo
noncomputable def tq : OV := Fm 0 (ls [u, u, C, D] 38) H
theorem ga : ar 4398046511099 iT := rf
theorem X8 : ar Nj Uw := rc ga aB ga
theorem I1 : ar Br La := rc ga aB ga
theorem Aa : ar Br Lb := rc ga aB ga
theorem X9 : ar EC Ux := rc (cd Aa) aB ga
theorem pi : ∀ i, ar Br (Le i) := rb (cd Aa) aB
theorem tX : ar EC Lc := rl (cx pi) ga
theorem Ya : ar EC Uy := rc (cd tX) (cx pi) ga
theorem I3 : ar EC Ld := rc (cd tX) (cx pi) ga
theorem Yb : ∀ i, ar EC (alY i) := rb (cd I3) (cx pi)
theorem qj : ∀ i, ar Br (Fm i) := rb (cd I1) aB
theorem qi : ar Nj Fl := rl (cx qj) ga
theorem Qn : ar Nj NQ := rc (cd qi) (cx qj) ga
theorem Qo : ∀ i, ar Nj (adB i) := rb (cd qi) (cx qj)
theorem Hl : B7 C D H =
 some (D, H) :=
 (by kernel_rfl)
theorem Ho : Ca C D I J H =
 (aj .other .add J (vi 1)).bind fun a =>
 oG C D I a H :=
 (by kernel_rfl)
theorem Hn : B9 C D I J H =
 ld [.n, .f 2] D H fun b =>
 wL 1 1 [(vi 0)] [(0, (vi (-1)))] H fun c d =>
 (dS 1 8 b c d).bind fun a =>
 st 1 [.n, .f 2] D a.1 a.2 fun e =>
 Ca C D I J e :=
 (pt rfl 0 I3 (bt rfl (ir [1, 1, 1, 1, 0, 1, 4, 5, 1, 1, 0, 4]) 3 Yb (by kernel_rfl)))
theorem Bj : vg C D H = B7 C D H :=
 (by kernel_rfl)
theorem tt : oG C D I J H =
 (aj .other .lss J I).bind fun a =>
 av a
 (B9 C D I J H)
 (vg C D H) :=
 CD rfl tX (pt rfl 1 Ya (by kernel_rfl))
theorem Hm : B8 C D I J H =
 oG C D I J H :=
 (bt rfl (ir [1, 1, 1, 1, 0, 1, 4]) 2 pi (li rfl (ir [1, 1, 1, 1, 0, 1, 4, 5]) tX (by kernel_rfl)))
theorem Hk : tr C D H =
 ld [.n, .f 1] D H fun a =>
 (aj .other .mul (vi 2) a).bind fun b =>
 B8 C D b (vi 0) H :=
 (pt rfl 0 Aa (pt rfl 0 X9 (by kernel_rfl)))
theorem DD : zH A C D H =
 ld [.n, .f 1] D H fun a =>
 (aj .other .mul a (vi 2)).bind fun b =>
 st 1 [.n, .f 1] D b H fun c =>
 mo A C D c :=
 (bt rfl (ir [1, 1, 1, 0, 4, 5, 1, 4]) 1 Qo (by kernel_rfl))
theorem oF : tq C D H = tr C D H :=
 (by kernel_rfl)
theorem ry : mo A C D H =
 ld [.n, .f 1] D H fun a =>
 (aj .other .lss a A).bind fun b =>
 av b
 (zH A C D H)
 (tq C D H) :=
 CD rfl qi (pt rfl 0 Qn (by kernel_rfl))
theorem Hj : B6 A C D H =
 mo A C D H :=
 (pt rfl 0 I1 (bt rfl (ir [1, 1, 1, 0, 4]) 0 qj (li rfl (ir [1, 1, 1, 0, 4, 5]) qi (by kernel_rfl))))
noncomputable def ajD : OV := be PP GG FF (ir []) (ls [A] 41) H iT bA iT
theorem OZ {r : Value × AH} (h : (
 (gk [A, (vi 1)]).bind fun c =>
 (jS [c, (vi 16)]).bind fun a =>
 (nz [(vw 0), (vi 0), (vb false)] 3 24 a a H).bind fun b =>
 gY [(0, 1), (1, 1), (2, 1)] [(.slice none 0 0), (vi 0), (.slice none 0 0)] [(0, b.1), (1, (vi 1))] fun d =>
 aW (Value.cells d).toList b.2 fun e f =>
 B6 a (.pointer none) e f) = some r) : FF vR [A] H = some r :=
 fo (t := ajD A H) Tryz.func190 (by kernel_rfl) (Eq.trans (pt rfl 2 X8 (by kernel_rfl)) h)
theorem MM {r : Value × AH} (h : (
 (FF sR [A] H).bind fun a =>
 (FF vI [] a.2).bind fun b =>
 gY [(0, 1), (1, 1), (2, 1)] [(.pointer none), (.pointer none), (vi 0)] [(0, a.1), (1, b.1), (2, A)] fun c =>
 aW (Value.cells c).toList b.2 fun d e =>
 some (d, e)) = some r) : FF sP [A] H = some r :=
 fo Tryz.func191 (by kernel_rfl) h
theorem Mi {r : Value × AH} (h : (
 (gk [A, (vi 0)]).bind fun a =>
 (jS [a, (vi 40)]).bind fun b =>
 some (b, H)) = some r) : FF sM [A] H = some r :=
 fo Tryz.func200 (by kernel_rfl) h
theorem wC {r : Value × AH} (h : (
 ld [.n, .f 2, .f 1] A H fun b =>
 (aj .other .lss b (vi 0)).bind fun a =>
 (gV a false A).bind fun c =>
 fc a false  [.n, .f 2, .f 1] c H fun d =>
 (gB a false (aj .other .gtr d (vi 1048576))).bind fun e =>
 (aK a (vb true) e).bind fun g =>
 some (g, H)) = some r) : FF gr [A] H = some r :=
 fo Tryz.func201 (by kernel_rfl) h
theorem zm {r : Value × AH} (h : (
 aW [(vi 0), (.slice none 0 0), (vi 0), (vw 0)] H fun a c =>
 (FF cY [A, B, C] c).bind fun d =>
 gY [(0, 1), (1, 1), (2, 1), (3, 1)] [(vi 0), (.slice none 0 0), (vi 0), (vw 0)] [(0, C)] fun e =>
 (cH 4 a e d.2).bind fun b =>
 (ax 4 a b).bind fun f => some (Value.tuple #[f, (vb true)], b)) = some r) : FF dm [A, B, C] H = some r :=
 fo Tryz.func202 (by kernel_rfl) h
theorem Dv {r : Value × AH} (h : (
 aW [(vi 0), (.slice none 0 0), (vi 0), (vw 0)] H fun b a =>
 ld [.n, .f 0] A a fun j =>
 ld [.n, .f 2] j a fun k =>
 ld [.n, .f 1] A a fun l =>
 ld [.n, .f 6] A a fun m =>
 (FF eg [k, l, m] a).bind fun c =>
 (pM .not c.1).bind fun o =>
 av o
 ((FF bi [A, (.func (.func cX) #[A] #[])] c.2).bind fun d =>
 (ag d.1 0).bind fun p =>
 (ag d.1 1).bind fun q =>
 (cH 4 b p d.2).bind fun g =>
 (ax 4 b g).bind fun s => some (Value.tuple #[s, q], g))
 ((FF bi [A, (.func (.func b8) #[A] #[])] c.2).bind fun e =>
 (ag e.1 0).bind fun t =>
 (ag e.1 1).bind fun w =>
 (cH 4 b t e.2).bind fun i =>
 (ax 4 b i).bind fun y => some (Value.tuple #[y, w], i))) = some r) : FF cX [A, B] H = some r :=
 fo Tryz.func203 (by kernel_rfl) h
theorem Bc {r : Value × AH} (h : (
 aW [(vi 0), (.slice none 0 0), (vi 0), (vw 0)] H fun b a =>
 ld [.n, .f 0] A a fun j =>
 ld [.n, .f 2] j a fun k =>
 ld [.n, .f 1] A a fun l =>
 ld [.n, .f 6] A a fun m =>
 (FF eg [k, l, m] a).bind fun c =>
 (pM .not c.1).bind fun o =>
 av o
 ((FF bi [A, (.func (.func cM) #[A] #[])] c.2).bind fun d =>
 (ag d.1 0).bind fun p =>
 (ag d.1 1).bind fun q =>
 (cH 4 b p d.2).bind fun g =>
 (ax 4 b g).bind fun s => some (Value.tuple #[s, q], g))
 ((FF bi [A, (.func (.func bQ) #[A] #[])] c.2).bind fun e =>
 (ag e.1 0).bind fun t =>
 (ag e.1 1).bind fun w =>
 (cH 4 b t e.2).bind fun i =>
 (ax 4 b i).bind fun y => some (Value.tuple #[y, w], i))) = some r) : FF cM [A, B] H = some r :=
 fo Tryz.func204 (by kernel_rfl) h
theorem PT {r : Value × AH} (h : (
 ld [.n, .f 0] A H fun a =>
 ld [.n, .f 1] A H fun b =>
 gY [(0, 1), (1, 1), (2, 1), (3, 1)] [(vi 0), (.slice none 0 0), (vi 0), (vw 0)] [(0, C)] fun c =>
 (FF f0 [a, B, b, c] H).bind fun d =>
 some (Value.tuple #[], d.2)) = some r) : FF mB [A, B, C] H = some r :=
 fo Tryz.func207 (by kernel_rfl) h
theorem PN {r : Value × AH} (h : (
 aW [(vi 0), (.slice none 0 0), (vi 0), (vw 0)] H fun a c =>
 gY [(0, 1), (1, 1), (2, 1), (3, 1)] [(vi 0), (.slice none 0 0), (vi 0), (vw 0)] [(0, B)] fun d =>
 (cH 4 a d c).bind fun b =>
 (ax 4 a b).bind fun e => some (Value.tuple #[e, (vb true)], b)) = some r) : FF my [A, B] H = some r :=
 fo Tryz.func208 (by kernel_rfl) h
noncomputable def Qp (p : List Nat) : Code := Code.sub (bH Tryz.f209) p
noncomputable def vr : KK := dM PP (Tryz.f209).results.toList
noncomputable def Uz : KK := CQ (Qp [1, 1, 1]) vr bA vr
noncomputable def IL : OV := Uz (ls [A, u, C, D, E, G] 65) H
noncomputable def UA : KK := CQ (Qp [1, 1, 1, 1]) vr bA vr
noncomputable def tN : OV := UA (ls [A, u, C] 68) H
theorem xp : ar 2361183241434822606843 vr := rf
theorem Yc : ar 2361183241434822606786 Uz := rc xp aB xp
theorem Yd : ar 2361183241434822606842 UA := rc xp aB xp
theorem Ka : tN A C H =
 ad [.n, .f 8] A fun a =>
 (aq a H).bind fun c =>
 ld [.n, .f 0] A H fun d =>
 ld [.n, .f 2] d H fun e =>
 (FF dN [e] H).bind fun b =>
 bT (aq a b.2) (aq a H) <|
 (aj .other .geq c b.1).bind fun g =>
 some (g, b.2) :=
 (by kernel_rfl)
theorem w6 : IL A C D E G H =
 (gV G true D).bind fun b =>
 (gV G true A).bind fun c =>
 fc G true  [.n, .f 2, .f 1] c H fun d =>
 (gB G true (aj .other .eql b d)).bind fun e =>
 (aK G e (vb false)).bind fun g =>
 st 1 [.n, .f 10] A g H fun a =>
 ld [.n, .f 10] A a fun i =>
 av i
 (st 1 [.n, .f 9] A E a fun j =>
 tN A C j)
 (tN A C a) :=
 (pt rfl 0 Yd (by kernel_rfl))
noncomputable def apF : OV := be PP GG FF (Qp []) (ls [A] 70) H vr bA vr
theorem WU {r : Value × AH} (h : (
 ld [.n, .f 0] A H fun b =>
 ld [.n, .f 2] b H fun c =>
 ld [.n, .f 1] A H fun d =>
 ld [.n, .f 6] A H fun e =>
 ld [.n, .f 8] A H fun g =>
 (FF f3 [c, d, e, g] H).bind fun a =>
 (ag a.1 0).bind fun i =>
 (ag a.1 1).bind fun j =>
 (ag a.1 2).bind fun k =>
 ld [.n, .f 8] A a.2 fun l =>
 (aj .other .add l (vi 1)).bind fun m =>
 st 1 [.n, .f 8] A m a.2 fun o =>
 IL A (vb false) i j k o) = some r) : FF yo [A] H = some r :=
 fo (t := apF A H) Tryz.func209 (by kernel_rfl) (Eq.trans (pt rfl 2 Yc (by kernel_rfl)) h)
theorem acB {r : Value × AH} (h : (
 aW [(vi 0), (.slice none 0 0), (vi 0), (vw 0)] H fun a c =>
 st 1 [.n, .f 7] A B c fun d =>
 gY [(0, 1), (1, 1), (2, 1), (3, 1)] [(vi 0), (.slice none 0 0), (vi 0), (vw 0)] [] fun e =>
 (cH 4 a e d).bind fun b =>
 (ax 4 a b).bind fun g => some (Value.tuple #[g, (vb false)], b)) = some r) : FF bI [A, B] H = some r :=
 fo Tryz.func210 (by kernel_rfl) h
theorem PS {r : Value × AH} (h : (
 aW [(vi 0), (.slice none 0 0), (vi 0), (vw 0)] H fun d a =>
 ld [.n, .f 0] A a fun i =>
 ld [.n, .f 1] A a fun j =>
 ld [.n, .f 9] A a fun k =>
 (FF jw [i, j, k] a).bind fun b =>
 ld [.n, .f 0] A b.2 fun l =>
 ld [.n, .f 9] A b.2 fun m =>
 (FF d8 [l, m] b.2).bind fun e =>
 st 1 [.n, .f 11] A e.1 e.2 fun o =>
 (FF bI [A, (.func (.func cg) #[A] #[])] o).bind fun c =>
 (ag c.1 0).bind fun p =>
 (ag c.1 1).bind fun q =>
 (cH 4 d p c.2).bind fun g =>
 (ax 4 d g).bind fun s => some (Value.tuple #[s, q], g)) = some r) : FF g6 [A, B] H = some r :=
 fo Tryz.func211 (by kernel_rfl) h
theorem PR {r : Value × AH} (h : (
 aW [(vi 0), (.slice none 0 0), (vi 0), (vw 0)] H fun b a =>
 ld [.n, .f 0] A a fun j =>
 ld [.n, .f 2] j a fun k =>
 ld [.n, .f 1] A a fun l =>
 ld [.n, .f 6] A a fun m =>
 (FF eg [k, l, m] a).bind fun c =>
 (pM .not c.1).bind fun o =>
 av o
 ((FF bI [A, (.func (.func dl) #[A] #[])] c.2).bind fun d =>
 (ag d.1 0).bind fun p =>
 (ag d.1 1).bind fun q =>
 (cH 4 b p d.2).bind fun g =>
 (ax 4 b g).bind fun s => some (Value.tuple #[s, q], g))
 (st 1 [.n, .f 8] A (vi 0) c.2 fun t =>
 (FF bI [A, (.func (.func eW) #[A] #[])] t).bind fun e =>
 (ag e.1 0).bind fun w =>
 (ag e.1 1).bind fun y =>
 (cH 4 b w e.2).bind fun i =>
 (ax 4 b i).bind fun z => some (Value.tuple #[z, y], i))) = some r) : FF dl [A, B] H = some r :=
 fo Tryz.func212 (by kernel_rfl) h
noncomputable def oP (p : List Nat) : Code := Code.sub (bH Tryz.f213) p
noncomputable def m6 : KK := dM PP (Tryz.f213).results.toList
noncomputable def UD : KK := CQ (oP [1]) m6 bA m6
noncomputable def rg : OV := UD (ls [A, B, u, u, E] 20) H
noncomputable def Lg : KK := CQ (oP [1, 1]) m6 bA m6
noncomputable def UB : KK := eG 33554415 Lg
noncomputable def rh : OV := Lg (ls [u, u, u, u, E] 20) H
noncomputable def UE : KK := CQ (oP [1, 0, 1]) UB bA m6
noncomputable def ri : OV := UE (ls [A, B, u, u, E, G] 19) H
noncomputable def Lj : KX := BX 0 UB bA
noncomputable def DR : KX := qQ 33554415 Lj
noncomputable def Lh : KK := Cb (oP [1, 0, 1, 4, 5]) DR m6
noncomputable def UC : KK := eG 33554380 Lh
noncomputable def iQ : OV := Lh (ls [A, B, u, u, E, G] 19) H
noncomputable def UF : KK := CQ (oP [1, 0, 1, 4, 5, 1]) UC DR m6
noncomputable def rj : OV := UF (ls [A, B, u, u, E, G] 19) H
noncomputable def Li : KK := CQ (oP [1, 0, 1, 4, 5, 1, 1]) UC DR m6
noncomputable def alZ : KK := eG 33554380 Li
noncomputable def rk : OV := Li (ls [A, B, u, u, E, G] 19) H
noncomputable def al0 : KX := BX 1 alZ DR
noncomputable def oz : OV := Lj 0 (ls [u, u, u, u, E] 20) H
theorem lc : ar 33554415 m6 := rf
theorem Ye : ar 33554412 UD := rc lc aB lc
theorem Ab : ar 33554415 Lg := rc lc aB lc
theorem Yf : ar 33554380 UE := rc (cd Ab) aB lc
theorem pj : ∀ i, ar 33554415 (Lj i) := rb (cd Ab) aB
theorem tY : ar 33554380 Lh := rl (cx pj) lc
theorem Yg : ar 33554380 UF := rc (cd tY) (cx pj) lc
theorem I4 : ar 33554380 Li := rc (cd tY) (cx pj) lc
theorem Yh : ∀ i, ar 33554380 (al0 i) := rb (cd I4) (cx pj)
theorem v8 : rh E H =
 some ((vi (-1)), H) :=
 (by kernel_rfl)
theorem we : rk A B E G H =
 (aj .other .add G (vi 1)).bind fun a =>
 iQ A B E a H :=
 (by kernel_rfl)
theorem wb : rj A B E G H =
 ld [.n, .f 2] A H fun a =>
 ld [.i 1 G] a H fun b =>
 (aj .other .eql b B).bind fun c =>
 av c
 (some (G, H))
 (rk A B E G H) :=
 (pt rfl 0 I4 (bt rfl (oP [1, 0, 1, 4, 5, 1, 0, 4]) 1 Yh (by kernel_rfl)))
theorem s7 : oz E H = rh E H :=
 (by kernel_rfl)
theorem nG : iQ A B E G H =
 ld [.n, .f 2] A H fun a =>
 eS a fun b =>
 (aj .other .lss G b).bind fun c =>
 av c
 (rj A B E G H)
 (oz E H) :=
 CD rfl tY (pt rfl 0 Yg (by kernel_rfl))
theorem wa : ri A B E G H =
 iQ A B E G H :=
 (bt rfl (oP [1, 0, 1, 4]) 0 pj (li rfl (oP [1, 0, 1, 4, 5]) tY (by kernel_rfl)))
theorem v7 : rg A B E H =
 ri A B E (vi 0) H :=
 (pt rfl 0 Ab (pt rfl 0 Yf (by kernel_rfl)))
noncomputable def Mm : OV := be PP GG FF (oP []) (ls [A, B] 23) H m6 bA m6
theorem De {r : Value × AH} (h : (
 rg A B (vi 0) H) = some r) : FF nk [A, B] H = some r :=
 fo (t := Mm A B H) Tryz.func213 (by kernel_rfl) (Eq.trans (pt rfl 0 Ye (by kernel_rfl)) h)
theorem CI {r : Value × AH} (h : (
 aW (Value.cells C).toList H fun b c =>
 (ax 3 b c).bind fun d =>
 (FF fG [A, d] c).bind fun a =>
 (aj .other .neq a.1 D).bind fun e =>
 av e
 ((ax 3 b a.2).bind fun f =>
 (FF dx [A, B, (vi 4), f] a.2).bind fun g =>
 some ((vb false), g.2))
 ((ax 3 b a.2).bind fun i =>
 (FF jv [A, B, i, E] a.2).bind fun j =>
 some ((vb true), j.2))) = some r) : FF fH [A, B, C, D, E] H = some r :=
 fo Tryz.func214 (by kernel_rfl) h
theorem IB {r : Value × AH} (h : (
 (FF jC [A] H).bind fun a =>
 (pM .not a.1).bind fun b =>
 av b
 (some ((vi (-1)), a.2))
 ((aj .other .shr A (vw 61)).bind fun c =>
 (cL (some .i64) c).bind fun d =>
 some (d, a.2))) = some r) : FF dR [A] H = some r :=
 fo Tryz.func215 (by kernel_rfl) h
theorem MY {r : Value × AH} (h : (
 (aj .other .gtr A (vw 2305843009213693951)).bind fun a =>
 (gV a false B).bind fun c =>
 (gB a false (aj .other .lss c (vi 0))).bind fun d =>
 (aK a (vb true) d).bind fun b =>
 (gV b false B).bind fun e =>
 (gB b false (aj .other .geq e (vi 3))).bind fun f =>
 (aK b (vb true) f).bind fun g =>
 av g
 (some (Value.tuple #[(vw 0), (vb false)], H))
 ((cL (some .u64) B).bind fun i =>
 (aj .other .shl i (vw 61)).bind fun j =>
 (aj .other .or j A).bind fun k =>
 some (Value.tuple #[k, (vb true)], H))) = some r) : FF lp [A, B] H = some r :=
 fo Tryz.func216 (by kernel_rfl) h
theorem Iz {r : Value × AH} (h : (
 (FF jC [A] H).bind fun a =>
 (pM .not a.1).bind fun b =>
 av b
 (some ((vw 0), a.2))
 ((aj .other .and A (vw 2305843009213693951)).bind fun c =>
 some (c, a.2))) = some r) : FF dr [A] H = some r :=
 fo Tryz.func217 (by kernel_rfl) h
theorem Oq {r : Value × AH} (h : (
 (aj .other .gtr A (vw 2305843009213693951)).bind fun a =>
 (gV a false B).bind fun c =>
 (gB a false (aj .other .lss c (vi 0))).bind fun d =>
 (aK a (vb true) d).bind fun b =>
 (gV b false B).bind fun e =>
 (gB b false (aj .other .gtr e (vi 2))).bind fun f =>
 (aK b (vb true) f).bind fun g =>
 av g
 (some (Value.tuple #[(vw 0), (vb false)], H))
 ((cL (some .u64) B).bind fun i =>
 (aj .other .mul i (vw 2305843009213693952)).bind fun j =>
 (aj .other .add j A).bind fun k =>
 some (Value.tuple #[k, (vb true)], H))) = some r) : FF ni [A, B] H = some r :=
 fo Tryz.func218 (by kernel_rfl) h
theorem MW {r : Value × AH} (h : (
 (FF qx [A] H).bind fun a =>
 HW a.2 fun b c =>
 gY [(0, 1), (1, 1), (2, 192), (194, 3), (197, 1)] [(vw 0), (vi 0), (.slice none 0 0), (.slice none 0 0), (.slice none 0 0), (.slice none 0 0), (.slice none 0 0), (.slice none 0 0), (.slice none 0 0), (.slice none 0 0), (.slice none 0 0), (.slice none 0 0), (.slice none 0 0), (.slice none 0 0), (.slice none 0 0), (.slice none 0 0), (.slice none 0 0), (.slice none 0 0), (.slice none 0 0), (.slice none 0 0), (.slice none 0 0), (.slice none 0 0), (.slice none 0 0), (.slice none 0 0), (.slice none 0 0), (.slice none 0 0), (.slice none 0 0), (.slice none 0 0), (.slice none 0 0), (.slice none 0 0), (.slice none 0 0), (.slice none 0 0), (.slice none 0 0), (.slice none 0 0), (.slice none 0 0), (.slice none 0 0), (.slice none 0 0), (.slice none 0 0), (.slice none 0 0), (.slice none 0 0), (.slice none 0 0), (.slice none 0 0), (.slice none 0 0), (.slice none 0 0), (.slice none 0 0), (.slice none 0 0), (.slice none 0 0), (.slice none 0 0), (.slice none 0 0), (.slice none 0 0), (.slice none 0 0), (.slice none 0 0), (.slice none 0 0), (.slice none 0 0), (.slice none 0 0), (.slice none 0 0), (.slice none 0 0), (.slice none 0 0), (.slice none 0 0), (.slice none 0 0), (.slice none 0 0), (.slice none 0 0), (.slice none 0 0), (.slice none 0 0), (.slice none 0 0), (.slice none 0 0), (.slice none 0 0), (.slice none 0 0), (.slice none 0 0), (.slice none 0 0), (.slice none 0 0), (.slice none 0 0), (.slice none 0 0), (.slice none 0 0), (.slice none 0 0), (.slice none 0 0), (.slice none 0 0), (.slice none 0 0), (.slice none 0 0), (.slice none 0 0), (.slice none 0 0), (.slice none 0 0), (.slice none 0 0), (.slice none 0 0), (.slice none 0 0), (.slice none 0 0), (.slice none 0 0), (.slice none 0 0), (.slice none 0 0), (.slice none 0 0), (.slice none 0 0), (.slice none 0 0), (.slice none 0 0), (.slice none 0 0), (.slice none 0 0), (.slice none 0 0), (.slice none 0 0), (.slice none 0 0), (.slice none 0 0), (.slice none 0 0), (.slice none 0 0), (.slice none 0 0), (.slice none 0 0), (.slice none 0 0), (.slice none 0 0), (.slice none 0 0), (.slice none 0 0), (.slice none 0 0), (.slice none 0 0), (.slice none 0 0), (.slice none 0 0), (.slice none 0 0), (.slice none 0 0), (.slice none 0 0), (.slice none 0 0), (.slice none 0 0), (.slice none 0 0), (.slice none 0 0), (.slice none 0 0), (.slice none 0 0), (.slice none 0 0), (.slice none 0 0), (.slice none 0 0), (.slice none 0 0), (.slice none 0 0), (.slice none 0 0), (.slice none 0 0), (.slice none 0 0), (.slice none 0 0), (.slice none 0 0), (.slice none 0 0), (.slice none 0 0), (.slice none 0 0), (.slice none 0 0), (.slice none 0 0), (.slice none 0 0), (.slice none 0 0), (.slice none 0 0), (.slice none 0 0), (.slice none 0 0), (.slice none 0 0), (.slice none 0 0), (.slice none 0 0), (.slice none 0 0), (.slice none 0 0), (.slice none 0 0), (.slice none 0 0), (.slice none 0 0), (.slice none 0 0), (.slice none 0 0), (.slice none 0 0), (.slice none 0 0), (.slice none 0 0), (.slice none 0 0), (.slice none 0 0), (.slice none 0 0), (.slice none 0 0), (.slice none 0 0), (.slice none 0 0), (.slice none 0 0), (.slice none 0 0), (.slice none 0 0), (.slice none 0 0), (.slice none 0 0), (.slice none 0 0), (.slice none 0 0), (.slice none 0 0), (.slice none 0 0), (.slice none 0 0), (.slice none 0 0), (.slice none 0 0), (.slice none 0 0), (.slice none 0 0), (.slice none 0 0), (.slice none 0 0), (.slice none 0 0), (.slice none 0 0), (.slice none 0 0), (.slice none 0 0), (.slice none 0 0), (.slice none 0 0), (.slice none 0 0), (.slice none 0 0), (.slice none 0 0), (.slice none 0 0), (.slice none 0 0), (.slice none 0 0), (.slice none 0 0), (.slice none 0 0), (.slice none 0 0), (.slice none 0 0), (.slice none 0 0), (.slice none 0 0), (.slice none 0 0), (vw 0), (vw 0), (vw 0), (.map none)] [(1, a.1), (4, b)] fun d =>
 aW (Value.cells d).toList c fun e f =>
 some (e, f)) = some r) : FF sR [A] H = some r :=
 fo Tryz.func220 (by kernel_rfl) h
theorem NY (H : AH) {r : Value × AH} (h : (
 HW H fun a b =>
 gY [(0, 1), (1, 1)] [(.slice none 0 0), (.map none)] [(1, a)] fun c =>
 aW (Value.cells c).toList b fun d e =>
 some (d, e)) = some r) : FF vI [] H = some r :=
 fo Tryz.func221 (by kernel_rfl) h
theorem Dz {r : Value × AH} (h : (
 st 1 [.n, .f 16] A C H fun a =>
 ld [.n, .f 0] A a fun b =>
 ld [.n, .f 1] A a fun c =>
 gY [(0, 1), (1, 1), (2, 1), (3, 1)] [(vi 0), (.slice none 0 0), (vi 0), (vw 0)] [(0, C)] fun d =>
 (FF f0 [b, B, c, d] a).bind fun e =>
 some (Value.tuple #[], e.2)) = some r) : FF cY [A, B, C] H = some r :=
 fo Tryz.func236 (by kernel_rfl) h
theorem uC {r : Value × AH} (h : (
 ad [.n, .f 0] A fun a =>
 (aq a H).bind fun d =>
 (FF kK [C] H).bind fun b =>
 bT (aq a b.2) (aq a H) <|
 (FF fH [d, B, b.1, (vw 0), (vw 1)] b.2).bind fun c =>
 some (c.1, c.2)) = some r) : FF eg [A, B, C] H = some r :=
 fo Tryz.func237 (by kernel_rfl) h
theorem Ir {r : Value × AH} (h : (
 aW [(vi 0), (.slice none 0 0), (vi 0), (vw 0)] H fun a c =>
 st 1 [.n, .f 7] A B c fun d =>
 gY [(0, 1), (1, 1), (2, 1), (3, 1)] [(vi 0), (.slice none 0 0), (vi 0), (vw 0)] [] fun e =>
 (cH 4 a e d).bind fun b =>
 (ax 4 a b).bind fun g => some (Value.tuple #[g, (vb false)], b)) = some r) : FF bi [A, B] H = some r :=
 fo Tryz.func238 (by kernel_rfl) h
noncomputable def Lk (p : List Nat) : Code := Code.sub (bH Tryz.f239) p
noncomputable def vt : KK := dM PP (Tryz.f239).results.toList
noncomputable def UG : KK := CQ (Lk [1, 1]) vt bA vt
noncomputable def ru : OV := UG (ls [A, B, u, u, E, G, K, L] 42) H
noncomputable def Ll : KK := CQ (Lk [1, 1, 1]) vt bA vt
noncomputable def al1 : KK := eG 1125899906842574 Ll
noncomputable def rx : OV := Ll (ls [A, u, u, u, E, G] 44) H
noncomputable def al2 : KX := BX 0 al1 bA
theorem xq : ar 1125899906842575 vt := rf
theorem Yi : ar 1125899906842380 UG := rc xq aB xq
theorem I5 : ar 1125899906842574 Ll := rc xq aB xq
theorem Yj : ∀ i, ar 1125899906842574 (al2 i) := rb (cd I5) aB
theorem wB : rx A E G H =
 (FF bi [A, (.func (.func b8) #[A] #[])] H).bind fun a =>
 (ag a.1 0).bind fun c =>
 (ag a.1 1).bind fun d =>
 (cH 4 E c a.2).bind fun b =>
 (ax 4 E b).bind fun e => some (Value.tuple #[e, d], b) :=
 (by kernel_rfl)
theorem wA : ru A B E G K L H =
 av K
 (ld [.n, .f 0] A H fun g =>
 ld [.n, .f 11] A H fun i =>
 (FF d8 [g, i] H).bind fun c =>
 st 1 [.n, .f 12] A c.1 c.2 fun j =>
 (FF bi [A, (.func (.func bq) #[A] #[])] j).bind fun a =>
 (ag a.1 0).bind fun k =>
 (ag a.1 1).bind fun l =>
 (cH 4 E k a.2).bind fun d =>
 (ax 4 E d).bind fun m => some (Value.tuple #[m, l], d))
 (av L
 ((FF cY [A, B, (vi 5)] H).bind fun o =>
 (FF bi [A, (.func (.func aQ) #[A] #[])] o.2).bind fun b =>
 (ag b.1 0).bind fun p =>
 (ag b.1 1).bind fun q =>
 (cH 4 E p b.2).bind fun e =>
 (ax 4 E e).bind fun s => some (Value.tuple #[s, q], e))
 (rx A E G H)) :=
 (pt rfl 0 I5 (bt rfl (Lk [1, 1, 0, 4]) 0 Yj (by kernel_rfl)))
noncomputable def ME : OV := be PP GG FF (Lk []) (ls [A, B] 48) H vt bA vt
theorem Du {r : Value × AH} (h : (
 aW [(vi 0), (.slice none 0 0), (vi 0), (vw 0)] H fun b c =>
 (FF kI [A] c).bind fun a =>
 (ag a.1 0).bind fun d =>
 (ag a.1 1).bind fun e =>
 ru A B b (vb false) d e a.2) = some r) : FF b8 [A, B] H = some r :=
 fo (t := ME A B H) Tryz.func239 (by kernel_rfl) (Eq.trans (pt rfl 1 Yi (by kernel_rfl)) h)
end
section
variable (D E I L G J K M : Value) (H : AH)
noncomputable def Lm (p : List Nat) : Code := Code.sub (bH Tryz.f240) p
noncomputable def vx : KK := dM PP (Tryz.f240).results.toList
noncomputable def UH : KK := CQ (Lm [1, 1]) vx bA vx
noncomputable def oC : OV := UH (ls [D, E, u, u, G, J, K, M] 48) H
noncomputable def Ln : KK := CQ (Lm [1, 1, 1]) vx bA vx
noncomputable def al3 : KK := eG 72057594037927886 Ln
noncomputable def oD : OV := Ln (ls [D, u, u, u, G, J] 50) H
noncomputable def al4 : KX := BX 0 al3 bA
theorem xr : ar Ng vx := rf
theorem Yk : ar 72057594037927692 UH := rc xr aB xr
theorem I6 : ar 72057594037927886 Ln := rc xr aB xr
theorem Yl : ∀ i, ar 72057594037927886 (al4 i) := rb (cd I6) aB
theorem th : oD D G J H =
 (FF bi [D, (.func (.func bQ) #[D] #[])] H).bind fun a =>
 (ag a.1 0).bind fun c =>
 (ag a.1 1).bind fun d =>
 (cH 4 G c a.2).bind fun b =>
 (ax 4 G b).bind fun e => some (Value.tuple #[e, d], b) :=
 (by kernel_rfl)
theorem tg : oC D E G J K M H =
 av K
 ((FF cY [D, E, (vi 6)] H).bind fun i =>
 (FF bi [D, (.func (.func aQ) #[D] #[])] i.2).bind fun a =>
 (ag a.1 0).bind fun j =>
 (ag a.1 1).bind fun k =>
 (cH 4 G j a.2).bind fun d =>
 (ax 4 G d).bind fun l => some (Value.tuple #[l, k], d))
 ((gV M true D).bind fun m =>
 fc M true  [.n, .f 9] m H fun o =>
 (gB M true (aj .other .lss o (vi 0))).bind fun p =>
 (aK M p (vb false)).bind fun q =>
 av q
 ((FF cY [D, E, (vi 7)] H).bind fun s =>
 (FF bi [D, (.func (.func aQ) #[D] #[])] s.2).bind fun b =>
 (ag b.1 0).bind fun t =>
 (ag b.1 1).bind fun w =>
 (cH 4 G t b.2).bind fun e =>
 (ax 4 G e).bind fun y => some (Value.tuple #[y, w], e))
 (av M
 ((FF bi [D, (.func (.func dy) #[D] #[])] H).bind fun c =>
 (ag c.1 0).bind fun z =>
 (ag c.1 1).bind fun A =>
 (cH 4 G z c.2).bind fun g =>
 (ax 4 G g).bind fun B => some (Value.tuple #[B, A], g))
 (oD D G J H))) :=
 (pt rfl 0 I6 (bt rfl (Lm [1, 1, 0, 4]) 0 Yl (by kernel_rfl)))
noncomputable def GX : OV := be PP GG FF (Lm []) (ls [D, E] 54) H vx bA vx
theorem zn {r : Value × AH} (h : (
 aW [(vi 0), (.slice none 0 0), (vi 0), (vw 0)] H fun b c =>
 (FF kI [D] c).bind fun a =>
 (ag a.1 0).bind fun d =>
 (ag a.1 1).bind fun e =>
 oC D E b (vb false) d e a.2) = some r) : FF bQ [D, E] H = some r :=
 fo (t := GX D E H) Tryz.func240 (by kernel_rfl) (Eq.trans (pt rfl 1 Yk (by kernel_rfl)) h)
theorem uu {r : Value × AH} (h : (
 aW (Value.cells L).toList H fun i a =>
 ad [.n, .f 12] D fun c =>
 (aq c a).bind fun j =>
 ad [.n, .f 11] D fun d =>
 (aq d a).bind fun e =>
 (cZ .int (vi 0) e I false a).bind fun k =>
 (ax 4 i a).bind fun l =>
 (FF sJ [l] a).bind fun b =>
 bT (aq c b.2) (aq c a) <|
 bT (aq d b.2) (aq d a) <|
 bT (cZ .int (vi 0) e I false b.2) (cZ .int (vi 0) e I false a) <|
 gY [(0, 1), (1, 1), (2, 1), (3, 4)] [(vi 0), (vi 0), (vi 0), (vi 0), (.slice none 0 0), (vi 0), (vw 0)] [(0, E), (1, I), (2, k), (3, b.1)] fun m =>
 wL 1 7 [(vi 0), (vi 0), (vi 0), (vi 0), (.slice none 0 0), (vi 0), (vw 0)] [(0, m)] b.2 fun o p =>
 (dS 7 72 j o p).bind fun g =>
 st 1 [.n, .f 12] D g.1 g.2 fun q =>
 some (Value.tuple #[], q)) = some r) : FF f0 [D, E, I, L] H = some r :=
 fo Tryz.func242 (by kernel_rfl) h
theorem tn {r : Value × AH} (h : (
 ld [.n, .f 2] D H fun a =>
 some (a, H)) = some r) : FF dN [D] H = some r :=
 fo Tryz.func243 (by kernel_rfl) h
theorem PY {r : Value × AH} (h : (
 aW [(vi 0), (.slice none 0 0), (vi 0), (vw 0)] H fun a b =>
 ld [.n, .f 11] D b fun l =>
 ld [.n, .f 1] D b fun m =>
 (FF fM [l, m] b).bind fun g =>
 st 1 [.n, .f 12] D g.1 g.2 fun i =>
 ld [.n, .f 12] D i fun o =>
 (FF dR [o] i).bind fun c =>
 (aj .other .eql c.1 (vi 2)).bind fun p =>
 av p
 ((FF bI [D, (.func (.func dl) #[D] #[])] c.2).bind fun d =>
 (ag d.1 0).bind fun q =>
 (ag d.1 1).bind fun s =>
 (cH 4 a q d.2).bind fun j =>
 (ax 4 a j).bind fun t => some (Value.tuple #[t, s], j))
 ((FF bI [D, (.func (.func mz) #[D] #[])] c.2).bind fun e =>
 (ag e.1 0).bind fun w =>
 (ag e.1 1).bind fun y =>
 (cH 4 a w e.2).bind fun k =>
 (ax 4 a k).bind fun z => some (Value.tuple #[z, y], k))) = some r) : FF cg [D, E] H = some r :=
 fo Tryz.func244 (by kernel_rfl) h
noncomputable def Lo (p : List Nat) : Code := Code.sub (bH Tryz.f245) p
noncomputable def vy : KK := dM PP (Tryz.f245).results.toList
noncomputable def UI : KK := CQ (Lo [1, 1]) vy bA vy
noncomputable def w7 : OV := UI (ls [D, E, u, u, G, J, K] 30) H
noncomputable def Lp : KK := CQ (Lo [1, 1, 1]) vy bA vy
noncomputable def al5 : KK := eG 137438953422 Lp
noncomputable def w8 : OV := Lp (ls [D, u, u, u, G, J] 31) H
noncomputable def al6 : KX := BX 0 al5 bA
theorem xt : ar wX vy := rf
theorem Ym : ar Bs UI := rc xt aB xt
theorem I7 : ar 137438953422 Lp := rc xt aB xt
theorem Yn : ∀ i, ar 137438953422 (al6 i) := rb (cd I7) aB
theorem Ch : w8 D G J H =
 (FF bI [D, (.func (.func eW) #[D] #[])] H).bind fun a =>
 (ag a.1 0).bind fun c =>
 (ag a.1 1).bind fun d =>
 (cH 4 G c a.2).bind fun b =>
 (ax 4 G b).bind fun e => some (Value.tuple #[e, d], b) :=
 (by kernel_rfl)
theorem Cg : w7 D E G J K H =
 ld [.n, .f 10] D H fun e =>
 av e
 ((FF bI [D, (.func (.func eY) #[D] #[])] H).bind fun a =>
 (ag a.1 0).bind fun g =>
 (ag a.1 1).bind fun i =>
 (cH 4 G g a.2).bind fun c =>
 (ax 4 G c).bind fun j => some (Value.tuple #[j, i], c))
 (av K
 ((FF mB [D, E, (vi 5)] H).bind fun k =>
 (FF bI [D, (.func (.func eY) #[D] #[])] k.2).bind fun b =>
 (ag b.1 0).bind fun l =>
 (ag b.1 1).bind fun m =>
 (cH 4 G l b.2).bind fun d =>
 (ax 4 G d).bind fun o => some (Value.tuple #[o, m], d))
 (w8 D G J H)) :=
 (pt rfl 0 I7 (bt rfl (Lo [1, 1, 0, 4]) 0 Yn (by kernel_rfl)))
noncomputable def WX : OV := be PP GG FF (Lo []) (ls [D, E] 35) H vy bA vy
theorem Kc {r : Value × AH} (h : (
 aW [(vi 0), (.slice none 0 0), (vi 0), (vw 0)] H fun b c =>
 (FF yo [D] c).bind fun a =>
 w7 D E b (vb false) a.1 a.2) = some r) : FF eW [D, E] H = some r :=
 fo (t := WX D E H) Tryz.func245 (by kernel_rfl) (Eq.trans (pt rfl 1 Ym (by kernel_rfl)) h)
theorem IA {r : Value × AH} (h : (
 (aj .other .shr D (vw 61)).bind fun a =>
 (aj .other .lss a (vw 3)).bind fun b =>
 some (b, H)) = some r) : FF jC [D] H = some r :=
 fo Tryz.func246 (by kernel_rfl) h
theorem Iy {r : Value × AH} (h : (
 (gk [D, (vi 0)]).bind fun a =>
 (jS [a, (vi 40)]).bind fun b =>
 some (b, H)) = some r) : FF qx [D] H = some r :=
 fo Tryz.func248 (by kernel_rfl) h
theorem Hg {r : Value × AH} (h : (
 aW [(vi 0), (vi 0), (vi 0)] H fun a c =>
 gY [(0, 1), (1, 1), (2, 1)] [(vi 0), (vi 0), (vi 0)] [(0, (vi 8)), (1, D)] fun d =>
 (cH 3 a d c).bind fun b =>
 (ax 3 a b).bind fun e => some (e, b)) = some r) : FF kK [D] H = some r :=
 fo Tryz.func277 (by kernel_rfl) h
noncomputable def Qs (p : List Nat) : Code := Code.sub (bH Tryz.f278) p
noncomputable def vz : KK := dM PP (Tryz.f278).results.toList
noncomputable def UL : KK := CQ (Qs [1, 1]) vz bA vz
noncomputable def tf : OV := UL (ls [D, u, I, L, G, J, K] 81) H
noncomputable def UM : KK := CQ (Qs [1, 1, 1]) vz bA vz
noncomputable def jJ : OV := UM (ls [D, u, I, L, G, J, K] 81) H
theorem xv : ar 309485009821345068724781043 vz := rf
theorem Yq : ar 309485009821345068724780930 UL := rc xv aB xv
theorem Yr : ar 309485009821345068724780930 UM := rc xv aB xv
theorem zl : jJ D I L G J K H =
 ld [.n, .f 8] D H fun g =>
 st 1 [.n, .f 10] D g H fun i =>
 st 1 [.n, .f 11] D J i fun e =>
 ld [.n, .f 8] D e fun j =>
 (aj .other .add j (vi 1)).bind fun k =>
 st 1 [.n, .f 8] D k e fun a =>
 (gV K true G).bind fun l =>
 (gV K true D).bind fun m =>
 LQ K true  [.n, .f 2, .f 1] m fun c =>
 (gB K true (aq c a)).bind fun o =>
 (gB K true (aj .other .eql l o)).bind fun p =>
 (aK K p (vb false)).bind fun q =>
 ad [.n, .f 8] D fun d =>
 (aq d a).bind fun s =>
 ld [.n, .f 0] D a fun t =>
 ld [.n, .f 2] t a fun w =>
 (FF dN [w] a).bind fun b =>
 bT (aq c b.2) (aq c a) <|
 bT (aq d b.2) (aq d a) <|
 (aj .other .geq s b.1).bind fun y =>
 some (Value.tuple #[q, y], b.2) :=
 (by kernel_rfl)
theorem oB : tf D I L G J K H =
 (pM .not K).bind fun a =>
 (gV a true D).bind fun b =>
 fc a true  [.n, .f 9] b H fun c =>
 (gB a true (aj .other .lss c (vi 0))).bind fun d =>
 (aK a d (vb false)).bind fun e =>
 av e
 (ld [.n, .f 8] D H fun g =>
 st 1 [.n, .f 9] D g H fun i =>
 jJ D I L G J K i)
 (jJ D I L G J K H) :=
 (pt rfl 0 Yr (by kernel_rfl))
noncomputable def OC : OV := be PP GG FF (Qs []) (ls [D] 87) H vz bA vz
theorem GU {r : Value × AH} (h : (
 ld [.n, .f 0] D H fun b =>
 ld [.n, .f 2] b H fun c =>
 ld [.n, .f 1] D H fun d =>
 ld [.n, .f 6] D H fun e =>
 ld [.n, .f 8] D H fun g =>
 (FF f3 [c, d, e, g] H).bind fun a =>
 (ag a.1 0).bind fun i =>
 (ag a.1 1).bind fun j =>
 (ag a.1 2).bind fun k =>
 tf D (vb false) (vb false) i j k a.2) = some r) : FF kI [D] H = some r :=
 fo (t := OC D H) Tryz.func278 (by kernel_rfl) (Eq.trans (pt rfl 1 Yq (by kernel_rfl)) h)
theorem DA {r : Value × AH} (h : (
 aW [(vi 0), (.slice none 0 0), (vi 0), (vw 0)] H fun a g =>
 (FF kJ [D] g).bind fun b =>
 av b.1
 ((FF bi [D, (.func (.func ca) #[D] #[])] b.2).bind fun c =>
 (ag c.1 0).bind fun i =>
 (ag c.1 1).bind fun j =>
 (cH 4 a i c.2).bind fun e =>
 (ax 4 a e).bind fun k => some (Value.tuple #[k, j], e))
 ((FF bi [D, (.func (.func dV) #[D] #[])] b.2).bind fun d =>
 (ag d.1 0).bind fun l =>
 (ag d.1 1).bind fun m =>
 (cH 4 a l d.2).bind fun f =>
 (ax 4 a f).bind fun n => some (Value.tuple #[n, m], f))) = some r) : FF bq [D, E] H = some r :=
 fo Tryz.func279 (by kernel_rfl) h
theorem GV {r : Value × AH} (h : (
 aW [(vi 0), (.slice none 0 0), (vi 0), (vw 0)] H fun b a =>
 ld [.n, .f 0] D a fun e =>
 ld [.n, .f 2] e a fun g =>
 ld [.n, .f 1] D a fun i =>
 ld [.n, .f 6] D a fun j =>
 (FF e7 [g, i, j] a).bind fun c =>
 ld [.n, .f 16] D c.2 fun k =>
 gY [(0, 1), (1, 1), (2, 1), (3, 1)] [(vi 0), (.slice none 0 0), (vi 0), (vw 0)] [(0, k)] fun l =>
 (cH 4 b l c.2).bind fun d =>
 (ax 4 b d).bind fun m => some (Value.tuple #[m, (vb true)], d)) = some r) : FF aQ [D, E] H = some r :=
 fo Tryz.func280 (by kernel_rfl) h
theorem Dw {r : Value × AH} (h : (
 aW [(vi 0), (.slice none 0 0), (vi 0), (vw 0)] H fun d b =>
 ld [.n, .f 0] D b fun i =>
 ld [.n, .f 5, .f 4] i b fun j =>
 ld [.n, .f 2, .f 2] D b fun k =>
 (FF oX [j, k] b).bind fun a =>
 (ag a.1 0).bind fun l =>
 (ag a.1 1).bind fun A =>
 ld [.n, .f 0] D a.2 fun m =>
 ld [.n, .f 1] D a.2 fun o =>
 ld [.n, .f 2, .f 1] D a.2 fun p =>
 ld [.n, .f 2, .f 3] D a.2 fun q =>
 gY [(0, 1), (1, 1), (2, 1)] [(vi 0), (vi 0), (vw 0)] [(0, p), (1, q), (2, l)] fun s =>
 (FF d7 [m, o, s] a.2).bind fun e =>
 st 1 [.n, .f 11] D e.1 e.2 fun t =>
 (FF bi [D, (.func (.func fg) #[D] #[])] t).bind fun c =>
 (ag c.1 0).bind fun w =>
 (ag c.1 1).bind fun y =>
 (cH 4 d w c.2).bind fun g =>
 (ax 4 d g).bind fun z => some (Value.tuple #[z, y], g)) = some r) : FF dy [D, E] H = some r :=
 fo Tryz.func281 (by kernel_rfl) h
noncomputable def Lq (p : List Nat) : Code := Code.sub (bH Tryz.f282) p
noncomputable def vA : KK := dM PP (Tryz.f282).results.toList
noncomputable def UN : KK := CQ (Lq [1, 1]) vA bA vA
noncomputable def ET : OV := UN (ls [D, u, u, u, G, J, K] 45) H
noncomputable def Lr : KK := CQ (Lq [1, 1, 1]) vA bA vA
noncomputable def al7 : KK := eG 4503599627370446 Lr
noncomputable def EU : OV := Lr (ls [D, u, u, u, G, J] 46) H
noncomputable def al8 : KX := BX 0 al7 bA
theorem xw : ar 4503599627370447 vA := rf
theorem Ys : ar 4503599627370382 UN := rc xw aB xw
theorem I8 : ar 4503599627370446 Lr := rc xw aB xw
theorem Yt : ∀ i, ar 4503599627370446 (al8 i) := rb (cd I8) aB
theorem HM : EU D G J H =
 (FF bI [D, (.func (.func j7) #[D] #[])] H).bind fun a =>
 (ag a.1 0).bind fun c =>
 (ag a.1 1).bind fun d =>
 (cH 4 G c a.2).bind fun b =>
 (ax 4 G b).bind fun e => some (Value.tuple #[e, d], b) :=
 (by kernel_rfl)
theorem HL : ET D G J K H =
 ld [.n, .f 11] D H fun i =>
 ld [.n, .f 12] D H fun j =>
 (FF hJ [i, j, K] H).bind fun a =>
 av a.1
 ((FF bI [D, (.func (.func pJ) #[D] #[])] a.2).bind fun b =>
 (ag b.1 0).bind fun k =>
 (ag b.1 1).bind fun l =>
 (cH 4 G k b.2).bind fun e =>
 (ax 4 G e).bind fun m => some (Value.tuple #[m, l], e))
 (ld [.n, .f 12] D a.2 fun o =>
 (FF dR [o] a.2).bind fun c =>
 (aj .other .eql c.1 (vi 1)).bind fun p =>
 av p
 ((FF bI [D, (.func (.func j8) #[D] #[])] c.2).bind fun d =>
 (ag d.1 0).bind fun q =>
 (ag d.1 1).bind fun s =>
 (cH 4 G q d.2).bind fun g =>
 (ax 4 G g).bind fun t => some (Value.tuple #[t, s], g))
 (EU D G J c.2)) :=
 (pt rfl 0 I8 (bt rfl (Lq [1, 1, 0, 4]) 0 Yt (by kernel_rfl)))
noncomputable def akZ : OV := be PP GG FF (Lq []) (ls [D, E] 50) H vA bA vA
theorem PO {r : Value × AH} (h : (
 aW [(vi 0), (.slice none 0 0), (vi 0), (vw 0)] H fun c a =>
 ld [.n, .f 11] D a fun d =>
 ld [.n, .f 1] D a fun e =>
 (FF hM [d, e] a).bind fun b =>
 ET D c (vb false) b.1 b.2) = some r) : FF mz [D, E] H = some r :=
 fo (t := akZ D E H) Tryz.func282 (by kernel_rfl) (Eq.trans (pt rfl 1 Ys (by kernel_rfl)) h)
theorem Kd {r : Value × AH} (h : (
 aW [(vi 0), (.slice none 0 0), (vi 0), (vw 0)] H fun b a =>
 ld [.n, .f 0] D a fun j =>
 ld [.n, .f 2] j a fun k =>
 ld [.n, .f 1] D a fun l =>
 ld [.n, .f 6] D a fun m =>
 (FF e7 [k, l, m] a).bind fun c =>
 ld [.n, .f 10] D c.2 fun o =>
 (pM .not o).bind fun p =>
 av p
 ((FF my [D, (vi 5)] c.2).bind fun d =>
 (ag d.1 0).bind fun q =>
 (ag d.1 1).bind fun s =>
 (cH 4 b q d.2).bind fun g =>
 (ax 4 b g).bind fun t => some (Value.tuple #[t, s], g))
 ((FF bI [D, (.func (.func g6) #[D] #[])] c.2).bind fun e =>
 (ag e.1 0).bind fun w =>
 (ag e.1 1).bind fun y =>
 (cH 4 b w e.2).bind fun i =>
 (ax 4 b i).bind fun z => some (Value.tuple #[z, y], i))) = some r) : FF eY [D, E] H = some r :=
 fo Tryz.func283 (by kernel_rfl) h
theorem GY {r : Value × AH} (h : (
 ld [.n, .f 12] D H fun d =>
 ld [.n, .f 1] D H fun e =>
 (FF fM [d, e] H).bind fun a =>
 st 1 [.n, .f 13] D a.1 a.2 fun b =>
 ld [.n, .f 13] D b fun g =>
 (FF dR [g] b).bind fun c =>
 (aj .other .eql c.1 (vi 0)).bind fun i =>
 some (i, c.2)) = some r) : FF kJ [D] H = some r :=
 fo Tryz.func299 (by kernel_rfl) h
theorem Dy {r : Value × AH} (h : (
 aW [(vi 0), (.slice none 0 0), (vi 0), (vw 0)] H fun a b =>
 ld [.n, .f 12] D b fun j =>
 ld [.n, .f 1] D b fun k =>
 ld [.n, .f 13] D b fun l =>
 (FF kq [j, k, l] b).bind fun c =>
 (pM .not c.1).bind fun m =>
 av m
 ((FF bi [D, (.func (.func bq) #[D] #[])] c.2).bind fun d =>
 (ag d.1 0).bind fun o =>
 (ag d.1 1).bind fun p =>
 (cH 4 a o d.2).bind fun g =>
 (ax 4 a g).bind fun q => some (Value.tuple #[q, p], g))
 ((FF cY [D, E, (vi 0)] c.2).bind fun s =>
 (FF bi [D, (.func (.func dJ) #[D] #[])] s.2).bind fun e =>
 (ag e.1 0).bind fun t =>
 (ag e.1 1).bind fun w =>
 (cH 4 a t e.2).bind fun i =>
 (ax 4 a i).bind fun y => some (Value.tuple #[y, w], i))) = some r) : FF ca [D, E] H = some r :=
 fo Tryz.func300 (by kernel_rfl) h
theorem GZ {r : Value × AH} (h : (
 aW [(vi 0), (.slice none 0 0), (vi 0), (vw 0)] H fun a b =>
 ld [.n, .f 0] D b fun k =>
 ld [.n, .f 1] D b fun l =>
 (FF dD [k, l] b).bind fun g =>
 st 1 [.n, .f 14] D g.1 g.2 fun c =>
 ld [.n, .f 14] D c fun m =>
 (aj .other .rem m (vw 2)).bind fun o =>
 (aj .other .eql o (vw 1)).bind fun p =>
 av p
 ((FF bi [D, (.func (.func bq) #[D] #[])] c).bind fun d =>
 (ag d.1 0).bind fun q =>
 (ag d.1 1).bind fun s =>
 (cH 4 a q d.2).bind fun i =>
 (ax 4 a i).bind fun t => some (Value.tuple #[t, s], i))
 ((FF bi [D, (.func (.func cj) #[D] #[])] c).bind fun e =>
 (ag e.1 0).bind fun w =>
 (ag e.1 1).bind fun y =>
 (cH 4 a w e.2).bind fun j =>
 (ax 4 a j).bind fun z => some (Value.tuple #[z, y], j))) = some r) : FF dV [D, E] H = some r :=
 fo Tryz.func301 (by kernel_rfl) h
theorem rK {r : Value × AH} (h : (
 ad [.n, .f 0] D fun a =>
 (aq a H).bind fun c =>
 (FF kK [I] H).bind fun b =>
 bT (aq a b.2) (aq a H) <|
 (FF dI [c, E, b.1, (vw 0)] b.2).bind fun d =>
 some (Value.tuple #[], d.2)) = some r) : FF e7 [D, E, I] H = some r :=
 fo Tryz.func302 (by kernel_rfl) h
theorem Hh {r : Value × AH} (h : (
 (aj .other .lss D (vw 1)).bind fun a =>
 (gV a false D).bind fun d =>
 (gB a false (aj .other .gtr d (vw 4611686018427387904))).bind fun e =>
 (aK a (vb true) e).bind fun b =>
 (gV b false E).bind fun f =>
 (gB b false (aj .other .lss f (vi 1))).bind fun g =>
 (aK b (vb true) g).bind fun c =>
 (gV c false E).bind fun i =>
 (gB c false (aj .other .gtr i (vi 65536))).bind fun j =>
 (aK c (vb true) j).bind fun k =>
 av k
 (some (Value.tuple #[(vw 0), (vb false)], H))
 ((cL (some .u64) E).bind fun l =>
 (aj .other .quo D l).bind fun m =>
 (gk [m, (vw 1)]).bind fun n =>
 some (Value.tuple #[n, (vb true)], H))) = some r) : FF oX [D, E] H = some r :=
 fo Tryz.func303 (by kernel_rfl) h
theorem GW {r : Value × AH} (h : (
 aW [(vi 0), (.slice none 0 0), (vi 0), (vw 0)] H fun c a =>
 ld [.n, .f 0] D a fun e =>
 ld [.n, .f 2] e a fun g =>
 ld [.n, .f 1] D a fun i =>
 ld [.n, .f 6] D a fun j =>
 ld [.n, .f 9] D a fun k =>
 ld [.n, .f 2, .f 1] D a fun l =>
 ld [.n, .f 11] D a fun m =>
 (FF gv [g, i, j, k, l, m] a).bind fun o =>
 (FF cY [D, E, (vi 0)] o.2).bind fun p =>
 (FF bi [D, (.func (.func aQ) #[D] #[])] p.2).bind fun b =>
 (ag b.1 0).bind fun q =>
 (ag b.1 1).bind fun s =>
 (cH 4 c q b.2).bind fun d =>
 (ax 4 c d).bind fun t => some (Value.tuple #[t, s], d)) = some r) : FF fg [D, E] H = some r :=
 fo Tryz.func304 (by kernel_rfl) h
theorem zp {r : Value × AH} (h : (
 ad [.n, .f 0] D fun a =>
 (aq a H).bind fun d =>
 (FF ef [D, (vi 12), (vi 0)] H).bind fun b =>
 bT (aq a b.2) (aq a H) <|
 (FF dw [d, E, b.1] b.2).bind fun c =>
 some (c.1, c.2)) = some r) : FF hM [D, E] H = some r :=
 fo Tryz.func305 (by kernel_rfl) h
theorem zo {r : Value × AH} (h : (
 (FF dr [E] H).bind fun b =>
 (aj .other .geq b.1 I).bind fun a =>
 (gV a true b.1).bind fun c =>
 (gV a true I).bind fun d =>
 (gB a true (aj .other .sub c d)).bind fun e =>
 (gV a true D).bind fun g =>
 fc a true  [.n, .f 2] g b.2 fun i =>
 (zM (yv a) true (eS i some) (some undef)).bind fun j =>
 (gB a true (cL (some .u64) j)).bind fun k =>
 (gB a true (aj .other .geq e k)).bind fun l =>
 (aK a l (vb false)).bind fun m =>
 some (m, b.2)) = some r) : FF hJ [D, E, I] H = some r :=
 fo Tryz.func306 (by kernel_rfl) h
theorem WY {r : Value × AH} (h : (
 aW [(vi 0), (.slice none 0 0), (vi 0), (vw 0)] H fun a b =>
 ld [.n, .f 0] D b fun k =>
 ld [.n, .f 1] D b fun l =>
 (FF dD [k, l] b).bind fun g =>
 st 1 [.n, .f 13] D g.1 g.2 fun c =>
 ld [.n, .f 13] D c fun m =>
 (aj .other .rem m (vw 2)).bind fun o =>
 (aj .other .eql o (vw 1)).bind fun p =>
 av p
 ((FF bI [D, (.func (.func cg) #[D] #[])] c).bind fun d =>
 (ag d.1 0).bind fun q =>
 (ag d.1 1).bind fun s =>
 (cH 4 a q d.2).bind fun i =>
 (ax 4 a i).bind fun t => some (Value.tuple #[t, s], i))
 ((FF bI [D, (.func (.func fF) #[D] #[])] c).bind fun e =>
 (ag e.1 0).bind fun w =>
 (ag e.1 1).bind fun y =>
 (cH 4 a w e.2).bind fun j =>
 (ax 4 a j).bind fun z => some (Value.tuple #[z, y], j))) = some r) : FF pJ [D, E] H = some r :=
 fo Tryz.func307 (by kernel_rfl) h
theorem Ny {r : Value × AH} (h : (
 aW [(vi 0), (.slice none 0 0), (vi 0), (vw 0)] H fun a b =>
 ld [.n, .f 11] D b fun j =>
 ld [.n, .f 1] D b fun k =>
 ld [.n, .f 12] D b fun l =>
 (FF gu [j, k, l] b).bind fun c =>
 (pM .not c.1).bind fun m =>
 av m
 ((FF bI [D, (.func (.func cg) #[D] #[])] c.2).bind fun d =>
 (ag d.1 0).bind fun o =>
 (ag d.1 1).bind fun p =>
 (cH 4 a o d.2).bind fun g =>
 (ax 4 a g).bind fun q => some (Value.tuple #[q, p], g))
 ((FF mB [D, E, (vi 0)] c.2).bind fun s =>
 (FF bI [D, (.func (.func pI) #[D] #[])] s.2).bind fun e =>
 (ag e.1 0).bind fun t =>
 (ag e.1 1).bind fun w =>
 (cH 4 a t e.2).bind fun i =>
 (ax 4 a i).bind fun y => some (Value.tuple #[y, w], i))) = some r) : FF j8 [D, E] H = some r :=
 fo Tryz.func308 (by kernel_rfl) h
theorem Nx {r : Value × AH} (h : (
 aW [(vi 0), (.slice none 0 0), (vi 0), (vw 0)] H fun c a =>
 ld [.n, .f 0] D a fun e =>
 ld [.n, .f 1] e a fun g =>
 ld [.n, .f 1] D a fun i =>
 (FF iw [g, i] a).bind fun j =>
 (FF bI [D, (.func (.func mE) #[D] #[])] j.2).bind fun b =>
 (ag b.1 0).bind fun k =>
 (ag b.1 1).bind fun l =>
 (cH 4 c k b.2).bind fun d =>
 (ax 4 c d).bind fun m => some (Value.tuple #[m, l], d)) = some r) : FF j7 [D, E] H = some r :=
 fo Tryz.func309 (by kernel_rfl) h
theorem Bb {r : Value × AH} (h : (
 aW [(vi 0), (.slice none 0 0), (vi 0), (vw 0)] H fun c a =>
 ld [.n, .f 0] D a fun e =>
 ld [.n, .f 2] e a fun g =>
 ld [.n, .f 1] D a fun i =>
 ld [.n, .f 6] D a fun j =>
 ld [.n, .f 10] D a fun k =>
 (FF iy [g, i, j, k] a).bind fun l =>
 (FF bi [D, (.func (.func aQ) #[D] #[])] l.2).bind fun b =>
 (ag b.1 0).bind fun m =>
 (ag b.1 1).bind fun o =>
 (cH 4 c m b.2).bind fun d =>
 (ax 4 c d).bind fun p => some (Value.tuple #[p, o], d)) = some r) : FF dJ [D, E] H = some r :=
 fo Tryz.func315 (by kernel_rfl) h
theorem vV {r : Value × AH} (h : (
 ld [.n, .f 0] D H fun b =>
 gY [(0, 1), (1, 1), (2, 1)] [(vi 0), (vi 0), (vi 0)] [(0, (vi 2))] fun c =>
 (FF dw [b, E, c] H).bind fun a =>
 some (a.1, a.2)) = some r) : FF dD [D, E] H = some r :=
 fo Tryz.func316 (by kernel_rfl) h
theorem ti {r : Value × AH} (h : (
 aW [(vi 0), (.slice none 0 0), (vi 0), (vw 0)] H fun a i =>
 (FF kJ [D] i).bind fun b =>
 av b.1
 ((FF bi [D, (.func (.func ca) #[D] #[])] b.2).bind fun c =>
 (ag c.1 0).bind fun j =>
 (ag c.1 1).bind fun k =>
 (cH 4 a j c.2).bind fun e =>
 (ax 4 a e).bind fun l => some (Value.tuple #[l, k], e))
 (st 1 [.n, .f 15] D E b.2 fun m =>
 (FF bi [D, (.func (.func cy) #[D] #[])] m).bind fun d =>
 (ag d.1 0).bind fun o =>
 (ag d.1 1).bind fun p =>
 (cH 4 a o d.2).bind fun g =>
 (ax 4 a g).bind fun q => some (Value.tuple #[q, p], g))) = some r) : FF cj [D, E] H = some r :=
 fo Tryz.func317 (by kernel_rfl) h
theorem Ci {r : Value × AH} (h : (
 aW [(vi 0), (.slice none 0 0), (vi 0), (vw 0)] H fun a b =>
 ld [.n, .f 11] D b fun l =>
 ld [.n, .f 1] D b fun m =>
 (FF fM [l, m] b).bind fun g =>
 st 1 [.n, .f 12] D g.1 g.2 fun i =>
 ld [.n, .f 12] D i fun o =>
 (FF dR [o] i).bind fun c =>
 (aj .other .eql c.1 (vi 2)).bind fun p =>
 av p
 ((FF bI [D, (.func (.func dl) #[D] #[])] c.2).bind fun d =>
 (ag d.1 0).bind fun q =>
 (ag d.1 1).bind fun s =>
 (cH 4 a q d.2).bind fun j =>
 (ax 4 a j).bind fun t => some (Value.tuple #[t, s], j))
 ((FF bI [D, (.func (.func fE) #[D] #[])] c.2).bind fun e =>
 (ag e.1 0).bind fun w =>
 (ag e.1 1).bind fun y =>
 (cH 4 a w e.2).bind fun k =>
 (ax 4 a k).bind fun z => some (Value.tuple #[z, y], k))) = some r) : FF fF [D, E] H = some r :=
 fo Tryz.func318 (by kernel_rfl) h
theorem wD {r : Value × AH} (h : (
 (FF fN [D, E, I, (.func (.func og) #[] #[])] H).bind fun a =>
 some (a.1, a.2)) = some r) : FF gu [D, E, I] H = some r :=
 fo Tryz.func319 (by kernel_rfl) h
theorem WW {r : Value × AH} (h : (
 aW [(vi 0), (.slice none 0 0), (vi 0), (vw 0)] H fun b d =>
 (FF yp [D] d).bind fun e =>
 (FF bI [D, (.func (.func mD) #[D] #[])] e.2).bind fun a =>
 (ag a.1 0).bind fun f =>
 (ag a.1 1).bind fun g =>
 (cH 4 b f a.2).bind fun c =>
 (ax 4 b c).bind fun i => some (Value.tuple #[i, g], c)) = some r) : FF pI [D, E] H = some r :=
 fo Tryz.func320 (by kernel_rfl) h
theorem su {r : Value × AH} (h : (
 ad [.n, .f 0] D fun a =>
 (aq a H).bind fun c =>
 (FF bD [(vi 3), (vi 0)] H).bind fun b =>
 bT (aq a b.2) (aq a H) <|
 (FF gj [c, E, b.1, (vw 4294967296)] b.2).bind fun d =>
 some (Value.tuple #[], d.2)) = some r) : FF iw [D, E] H = some r :=
 fo Tryz.func321 (by kernel_rfl) h
theorem PX {r : Value × AH} (h : (
 aW [(vi 0), (.slice none 0 0), (vi 0), (vw 0)] H fun a b =>
 ld [.n, .f 11] D b fun j =>
 ld [.n, .f 1] D b fun k =>
 ld [.n, .f 12] D b fun l =>
 (FF gu [j, k, l] b).bind fun c =>
 (pM .not c.1).bind fun m =>
 av m
 ((FF bI [D, (.func (.func mv) #[D] #[])] c.2).bind fun d =>
 (ag d.1 0).bind fun o =>
 (ag d.1 1).bind fun p =>
 (cH 4 a o d.2).bind fun g =>
 (ax 4 a g).bind fun q => some (Value.tuple #[q, p], g))
 ((FF mB [D, E, (vi 0)] c.2).bind fun s =>
 (FF bI [D, (.func (.func mw) #[D] #[])] s.2).bind fun e =>
 (ag e.1 0).bind fun t =>
 (ag e.1 1).bind fun w =>
 (cH 4 a t e.2).bind fun i =>
 (ax 4 a i).bind fun y => some (Value.tuple #[y, w], i))) = some r) : FF mE [D, E] H = some r :=
 fo Tryz.func322 (by kernel_rfl) h
theorem uB {r : Value × AH} (h : (
 aW [(vi 0), (.slice none 0 0), (vi 0), (vw 0)] H fun b c =>
 ld [.n, .f 0] D c fun k =>
 ld [.n, .f 1] D c fun l =>
 (FF dD [k, l] c).bind fun a =>
 ad [.n, .f 14] D fun d =>
 (aq d a.2).bind fun m =>
 bT (aq d c) (aq d a.2) <|
 (aj .other .neq a.1 m).bind fun o =>
 av o
 ((FF bi [D, (.func (.func bq) #[D] #[])] a.2).bind fun e =>
 (ag e.1 0).bind fun p =>
 (ag e.1 1).bind fun q =>
 (cH 4 b p e.2).bind fun i =>
 (ax 4 b i).bind fun s => some (Value.tuple #[s, q], i))
 (ld [.n, .f 15] D a.2 fun t =>
 (FF cY [D, t, (vi 8)] a.2).bind fun w =>
 (FF bi [D, (.func (.func aQ) #[D] #[])] w.2).bind fun g =>
 (ag g.1 0).bind fun y =>
 (ag g.1 1).bind fun z =>
 (cH 4 b y g.2).bind fun j =>
 (ax 4 b j).bind fun A => some (Value.tuple #[A, z], j))) = some r) : FF cy [D, E] H = some r :=
 fo Tryz.func323 (by kernel_rfl) h
theorem Ce {r : Value × AH} (h : (
 aW [(vi 0), (.slice none 0 0), (vi 0), (vw 0)] H fun b a =>
 ad [.n, .f 11] D fun d =>
 (aq d a).bind fun m =>
 ad [.n, .f 12] D fun e =>
 (aq e a).bind fun o =>
 ld [.n, .f 11] D a fun p =>
 ld [.n, .f 1] D a fun q =>
 (FF hM [p, q] a).bind fun c =>
 bT (aq d c.2) (aq d a) <|
 bT (aq e c.2) (aq e a) <|
 (FF hJ [m, o, c.1] c.2).bind fun g =>
 (pM .not g.1).bind fun s =>
 av s
 ((FF bI [D, (.func (.func cg) #[D] #[])] g.2).bind fun i =>
 (ag i.1 0).bind fun t =>
 (ag i.1 1).bind fun w =>
 (cH 4 b t i.2).bind fun k =>
 (ax 4 b k).bind fun y => some (Value.tuple #[y, w], k))
 (st 1 [.n, .f 14] D E g.2 fun z =>
 (FF bI [D, (.func (.func gi) #[D] #[])] z).bind fun j =>
 (ag j.1 0).bind fun A =>
 (ag j.1 1).bind fun B =>
 (cH 4 b A j.2).bind fun l =>
 (ax 4 b l).bind fun C => some (Value.tuple #[C, B], l))) = some r) : FF fE [D, E] H = some r :=
 fo Tryz.func324 (by kernel_rfl) h
theorem MX {r : Value × AH} (h : (
 (FF jC [D] H).bind fun c =>
 (pM .not c.1).bind fun a =>
 (gV a false D).bind fun i =>
 (gE a false c.2 (FF dR [i] c.2)).bind fun d =>
 (gB a false (aj .other .eql d.1 (vi 2))).bind fun j =>
 (aK a (vb true) j).bind fun b =>
 (gV b false D).bind fun k =>
 (gE b false d.2 (FF dr [k] d.2)).bind fun e =>
 (gB b false (aj .other .eql e.1 (vw 2305843009213693951))).bind fun l =>
 (aK b (vb true) l).bind fun m =>
 av m
 (some (Value.tuple #[(vw 0), (vb false)], e.2))
 ((FF dr [D] e.2).bind fun g =>
 (aj .other .add g.1 (vw 1)).bind fun n =>
 (FF lp [n, (vi 1)] g.2).bind fun f =>
 (ag f.1 0).bind fun o =>
 (ag f.1 1).bind fun p =>
 some (Value.tuple #[o, p], f.2))) = some r) : FF og [D] H = some r :=
 fo Tryz.func325 (by kernel_rfl) h
theorem WV {r : Value × AH} (h : (
 ad [.n, .f 11] D fun b =>
 (aq b H).bind fun i =>
 ad [.n, .f 1] D fun c =>
 (aq c H).bind fun j =>
 ld [.n, .f 12] D H fun k =>
 (FF dr [k] H).bind fun a =>
 bT (aq b a.2) (aq b H) <|
 bT (aq c a.2) (aq c H) <|
 ad [.n, .f 2, .f 1] D fun d =>
 (aq d a.2).bind fun l =>
 bT (aq d H) (aq d a.2) <|
 ad [.n, .f 2, .f 2] D fun e =>
 (aq e a.2).bind fun m =>
 bT (aq e H) (aq e a.2) <|
 ad [.n, .f 2, .f 3] D fun g =>
 (aq g a.2).bind fun o =>
 bT (aq g H) (aq g a.2) <|
 gY [(0, 1), (1, 1), (2, 1)] [(vi 0), (vi 0), (vi 0)] [(0, l), (1, m), (2, o)] fun p =>
 (FF lH [i, j, a.1, p] a.2).bind fun q =>
 some (Value.tuple #[], q.2)) = some r) : FF yp [D] H = some r :=
 fo Tryz.func326 (by kernel_rfl) h
theorem PW {r : Value × AH} (h : (
 aW [(vi 0), (.slice none 0 0), (vi 0), (vw 0)] H fun g a =>
 ad [.n, .f 11] D fun c =>
 (aq c a).bind fun j =>
 ad [.n, .f 1] D fun d =>
 (aq d a).bind fun k =>
 ld [.n, .f 12] D a fun l =>
 (FF dr [l] a).bind fun b =>
 bT (aq c b.2) (aq c a) <|
 bT (aq d b.2) (aq d a) <|
 (FF hU [j, k, b.1] b.2).bind fun m =>
 (FF my [D, (vi 0)] m.2).bind fun e =>
 (ag e.1 0).bind fun o =>
 (ag e.1 1).bind fun p =>
 (cH 4 g o e.2).bind fun i =>
 (ax 4 g i).bind fun q => some (Value.tuple #[q, p], i)) = some r) : FF mD [D, E] H = some r :=
 fo Tryz.func327 (by kernel_rfl) h
theorem PL {r : Value × AH} (h : (
 aW [(vi 0), (.slice none 0 0), (vi 0), (vw 0)] H fun c a =>
 ld [.n, .f 0] D a fun e =>
 ld [.n, .f 1] e a fun g =>
 ld [.n, .f 1] D a fun i =>
 (FF gq [g, i] a).bind fun j =>
 (FF bI [D, (.func (.func cg) #[D] #[])] j.2).bind fun b =>
 (ag b.1 0).bind fun k =>
 (ag b.1 1).bind fun l =>
 (cH 4 c k b.2).bind fun d =>
 (ax 4 c d).bind fun m => some (Value.tuple #[m, l], d)) = some r) : FF mv [D, E] H = some r :=
 fo Tryz.func328 (by kernel_rfl) h
theorem PM {r : Value × AH} (h : (
 aW [(vi 0), (.slice none 0 0), (vi 0), (vw 0)] H fun b d =>
 (FF yp [D] d).bind fun e =>
 (FF bI [D, (.func (.func kc) #[D] #[])] e.2).bind fun a =>
 (ag a.1 0).bind fun f =>
 (ag a.1 1).bind fun g =>
 (cH 4 b f a.2).bind fun c =>
 (ax 4 b c).bind fun i => some (Value.tuple #[i, g], c)) = some r) : FF mw [D, E] H = some r :=
 fo Tryz.func329 (by kernel_rfl) h
theorem EX {r : Value × AH} (h : (
 aW [(vi 0), (.slice none 0 0), (vi 0), (vw 0)] H fun b c =>
 ld [.n, .f 0] D c fun k =>
 ld [.n, .f 1] D c fun l =>
 (FF dD [k, l] c).bind fun a =>
 ad [.n, .f 13] D fun d =>
 (aq d a.2).bind fun m =>
 bT (aq d c) (aq d a.2) <|
 (aj .other .neq a.1 m).bind fun o =>
 av o
 ((FF bI [D, (.func (.func cg) #[D] #[])] a.2).bind fun e =>
 (ag e.1 0).bind fun p =>
 (ag e.1 1).bind fun q =>
 (cH 4 b p e.2).bind fun i =>
 (ax 4 b i).bind fun s => some (Value.tuple #[s, q], i))
 (ld [.n, .f 14] D a.2 fun t =>
 (FF ja [D, t, (vi 9)] a.2).bind fun g =>
 (ag g.1 0).bind fun w =>
 (ag g.1 1).bind fun y =>
 (cH 4 b w g.2).bind fun j =>
 (ax 4 b j).bind fun z => some (Value.tuple #[z, y], j))) = some r) : FF gi [D, E] H = some r :=
 fo Tryz.func330 (by kernel_rfl) h
theorem Be {r : Value × AH} (h : (
 aW (Value.cells L).toList H fun e c =>
 ad [.n, .f 0] D fun a =>
 (aq a c).bind fun l =>
 (FF dn [D, I] c).bind fun g =>
 bT (aq a g.2) (aq a c) <|
 (FF ef [D, (vi 16), g.1] g.2).bind fun j =>
 bT (aq a j.2) (aq a c) <|
 (FF ge [l, E, j.1] j.2).bind fun d =>
 ad [.n, .f 2] D fun k =>
 (aq k d.2).bind fun m =>
 (FF dn [D, I] d.2).bind fun b =>
 bT (aq k b.2) (aq k d.2) <|
 (ax 3 e b.2).bind fun o =>
 bT (ax 3 e d.2) (ax 3 e b.2) <|
 st 3 [.i 3 b.1] m o b.2 fun p =>
 some (Value.tuple #[], p)) = some r) : FF lH [D, E, I, L] H = some r :=
 fo Tryz.func331 (by kernel_rfl) h
theorem zr {r : Value × AH} (h : (
 ad [.n, .f 0] D fun a =>
 (aq a H).bind fun d =>
 (FF dn [D, I] H).bind fun b =>
 bT (aq a b.2) (aq a H) <|
 (FF ef [D, (vi 15), b.1] b.2).bind fun c =>
 bT (aq a c.2) (aq a H) <|
 (aj .other .add I (vw 1)).bind fun e =>
 (FF dI [d, E, c.1, e] c.2).bind fun g =>
 some (Value.tuple #[], g.2)) = some r) : FF hU [D, E, I] H = some r :=
 fo Tryz.func332 (by kernel_rfl) h
theorem vD {r : Value × AH} (h : (
 ad [.n, .f 0] D fun a =>
 (aq a H).bind fun c =>
 (FF bD [(vi 3), (vi 0)] H).bind fun b =>
 bT (aq a b.2) (aq a H) <|
 (FF gj [c, E, b.1, (vw 1)] b.2).bind fun d =>
 some (Value.tuple #[], d.2)) = some r) : FF gq [D, E] H = some r :=
 fo Tryz.func333 (by kernel_rfl) h
theorem NA {r : Value × AH} (h : (
 aW [(vi 0), (.slice none 0 0), (vi 0), (vw 0)] H fun g a =>
 ad [.n, .f 11] D fun c =>
 (aq c a).bind fun j =>
 ad [.n, .f 1] D fun d =>
 (aq d a).bind fun k =>
 ld [.n, .f 12] D a fun l =>
 (FF dr [l] a).bind fun b =>
 bT (aq c b.2) (aq c a) <|
 bT (aq d b.2) (aq d a) <|
 (FF hU [j, k, b.1] b.2).bind fun m =>
 (FF bI [D, (.func (.func dQ) #[D] #[])] m.2).bind fun e =>
 (ag e.1 0).bind fun o =>
 (ag e.1 1).bind fun p =>
 (cH 4 g o e.2).bind fun i =>
 (ax 4 g i).bind fun q => some (Value.tuple #[q, p], i)) = some r) : FF kc [D, E] H = some r :=
 fo Tryz.func334 (by kernel_rfl) h
theorem HP {r : Value × AH} (h : (
 aW [(vi 0), (.slice none 0 0), (vi 0), (vw 0)] H fun c a =>
 ld [.n, .f 0] D a fun g =>
 ld [.n, .f 1] g a fun i =>
 ld [.n, .f 1] D a fun j =>
 ld [.n, .f 6] D a fun k =>
 (FF jt [i, j, k] a).bind fun d =>
 st 1 [.n, .f 15] D d.1 d.2 fun l =>
 (FF bI [D, (.func (.func mA) #[D] #[])] l).bind fun b =>
 (ag b.1 0).bind fun m =>
 (ag b.1 1).bind fun o =>
 (cH 4 c m b.2).bind fun e =>
 (ax 4 c e).bind fun p => some (Value.tuple #[p, o], e)) = some r) : FF dQ [D, E] H = some r :=
 fo Tryz.func335 (by kernel_rfl) h
theorem vE {r : Value × AH} (h : (
 ad [.n, .f 0] D fun a =>
 (aq a H).bind fun e =>
 ld [.n, .f 3] D H fun g =>
 (di g [I]).bind fun c => (FF c.1 c.2 H).bind fun b =>
 bT (aq a b.2) (aq a H) <|
 (FF dw [e, E, b.1] b.2).bind fun d =>
 some (d.1, d.2)) = some r) : FF jt [D, E, I] H = some r :=
 fo Tryz.func336 (by kernel_rfl) h
theorem PQ {r : Value × AH} (h : (
 aW [(vi 0), (.slice none 0 0), (vi 0), (vw 0)] H fun c a =>
 ld [.n, .f 0] D a fun e =>
 ld [.n, .f 1] e a fun g =>
 ld [.n, .f 1] D a fun i =>
 ld [.n, .f 9] D a fun j =>
 ld [.n, .f 15] D a fun k =>
 (FF iV [g, i, j, k] a).bind fun l =>
 (FF bI [D, (.func (.func mC) #[D] #[])] l.2).bind fun b =>
 (ag b.1 0).bind fun m =>
 (ag b.1 1).bind fun o =>
 (cH 4 c m b.2).bind fun d =>
 (ax 4 c d).bind fun p => some (Value.tuple #[p, o], d)) = some r) : FF mA [D, E] H = some r :=
 fo Tryz.func337 (by kernel_rfl) h
theorem uo {r : Value × AH} (h : (
 ad [.n, .f 0] D fun a =>
 (aq a H).bind fun e =>
 ld [.n, .f 4] D H fun g =>
 (di g [I]).bind fun c => (FF c.1 c.2 H).bind fun b =>
 bT (aq a b.2) (aq a H) <|
 (FF ge [e, E, b.1] b.2).bind fun d =>
 ld [.n, .f 2] D d.2 fun i =>
 (e8 .int i I L d.2).bind fun j =>
 some (Value.tuple #[], j)) = some r) : FF iV [D, E, I, L] H = some r :=
 fo Tryz.func338 (by kernel_rfl) h
theorem PU {r : Value × AH} (h : (
 aW [(vi 0), (.slice none 0 0), (vi 0), (vw 0)] H fun b a =>
 ld [.n, .f 0] D a fun j =>
 ld [.n, .f 1] j a fun k =>
 ld [.n, .f 1] D a fun l =>
 ld [.n, .f 6] D a fun m =>
 ld [.n, .f 15] D a fun o =>
 ld [.n, .f 9] D a fun p =>
 (FF iW [k, l, m, o, p] a).bind fun c =>
 (pM .not c.1).bind fun q =>
 av q
 ((FF bI [D, (.func (.func dQ) #[D] #[])] c.2).bind fun d =>
 (ag d.1 0).bind fun s =>
 (ag d.1 1).bind fun t =>
 (cH 4 b s d.2).bind fun g =>
 (ax 4 b g).bind fun w => some (Value.tuple #[w, t], g))
 ((FF bI [D, (.func (.func pH) #[D] #[])] c.2).bind fun e =>
 (ag e.1 0).bind fun y =>
 (ag e.1 1).bind fun z =>
 (cH 4 b y e.2).bind fun i =>
 (ax 4 b i).bind fun A => some (Value.tuple #[A, z], i))) = some r) : FF mC [D, E] H = some r :=
 fo Tryz.func339 (by kernel_rfl) h
theorem uq {r : Value × AH} (h : (
 ad [.n, .f 0] D fun a =>
 (aq a H).bind fun e =>
 ld [.n, .f 3] D H fun g =>
 (di g [I]).bind fun c => (FF c.1 c.2 H).bind fun b =>
 bT (aq a b.2) (aq a H) <|
 (cL (some .u64) G).bind fun i =>
 (aj .other .add i (vw 1)).bind fun j =>
 (FF fH [e, E, b.1, L, j] b.2).bind fun d =>
 some (d.1, d.2)) = some r) : FF iW [D, E, I, L, G] H = some r :=
 fo Tryz.func340 (by kernel_rfl) h
theorem WT {r : Value × AH} (h : (
 aW [(vi 0), (.slice none 0 0), (vi 0), (vw 0)] H fun c a =>
 ld [.n, .f 0] D a fun e =>
 ld [.n, .f 1] e a fun g =>
 ld [.n, .f 1] D a fun i =>
 (FF gq [g, i] a).bind fun j =>
 (FF my [D, (vi 0)] j.2).bind fun b =>
 (ag b.1 0).bind fun k =>
 (ag b.1 1).bind fun l =>
 (cH 4 c k b.2).bind fun d =>
 (ax 4 c d).bind fun m => some (Value.tuple #[m, l], d)) = some r) : FF pH [D, E] H = some r :=
 fo Tryz.func341 (by kernel_rfl) h
end
theorem Hv (n : Int) : IntKind.wrap .u64 n = n % 18446744073709551616 := by simp [IntKind.wrap, IntKind.bits, IntKind.signed]
theorem mL {n : Int} (h0 : 0 ≤ n) (h1 : n < 18446744073709551616) : IntKind.wrap .u64 n = n := by rw [Hv]; omega
theorem pY {n : Int} (h0 : -9223372036854775808 ≤ n) (h1 : n < 9223372036854775808) : IntKind.wrap .i64 n = n := by
 simp [IntKind.wrap, IntKind.bits, IntKind.signed]
 split <;> omega
theorem ub (a : Nat) (h : a < 18446744073709551616) : (BitVec.ofInt 64 (a : Int)).toNat = a := by
 rw [BitVec.toNat_ofInt];omega
theorem PB {a b : Nat} (ha : a < 18446744073709551616) (hb : b < 18446744073709551616) : Go.bits .and .u64 (a : Int) (b : Int) = ((a &&& b : Nat) : Int) := by
 show IntKind.wrap .u64 (((BitVec.ofInt 64 (a : Int) &&& BitVec.ofInt 64 (b : Int)).toNat : Nat) : Int) = _;rw [BitVec.toNat_and, ub a ha, ub b hb];have : a &&& b ≤ a := Nat.and_le_left;exact mL (by omega) (by omega)
theorem arR {a b : Nat} (ha : a < 18446744073709551616) (hb : b < 18446744073709551616) : a ||| b < 18446744073709551616 := Nat.or_lt_two_pow (n := 64) ha hb
theorem WO {a b : Nat} (ha : a < 18446744073709551616) (hb : b < 18446744073709551616) : Go.bits .or .u64 (a : Int) (b : Int) = ((a ||| b : Nat) : Int) := by
 show IntKind.wrap .u64 (((BitVec.ofInt 64 (a : Int) ||| BitVec.ofInt 64 (b : Int)).toNat : Nat) : Int) = _;rw [BitVec.toNat_or, ub a ha, ub b hb];have := arR ha hb;exact mL (by omega) (by omega)
section
variable {cl : TCls}
theorem akS {a b : Nat} (ha : a < 18446744073709551616) (hb : b < 18446744073709551616) : aj cl .and (vu a) (vu b) = some (vu (a &&& b)) := by simp only [aj, nP, if_true, PB ha hb]
theorem abT {a b : Nat} (ha : a < 18446744073709551616) (hb : b < 18446744073709551616) : aj cl .or (vu a) (vu b) = some (vu (a ||| b)) := by simp only [aj, nP, if_true, WO ha hb]
theorem gh {a b : Nat} (h : a + b < 18446744073709551616) : aj cl .add (vu a) (vu b) = some (vu (a + b)) := by
 simp only [aj, nP, if_true];rw [mL (by omega) (by omega)];simp
theorem WN {a b : Nat} : aj cl .mul (vu a) (vu b) = some (vu (a * b % 18446744073709551616)) := by
 simp only [aj, nP, if_true];rw [Hv];simp
theorem II {a b : Nat} (h : b ≤ a) (ha : a < 18446744073709551616) : aj cl .sub (vu a) (vu b) = some (vu (a - b)) := by
 simp only [aj, nP, if_true];rw [mL (by omega) (by omega)];show some (Value.int .u64 ((a : Int) - (b : Int))) = some (Value.int .u64 ((a - b : Nat) : Int));rw [Int.ofNat_sub h]
theorem zQ {a b : Nat} (h : b ≠ 0) (ha : a < 18446744073709551616) : aj cl .quo (vu a) (vu b) = some (vu (a / b)) := by
 simp only [aj, nP, if_true];rw [if_neg (by omega)];have h1 : (a : Int).tdiv (b : Int) = ((a / b : Nat) : Int) := (Int.ofNat_tdiv a b).symm;have h2 : a / b ≤ a := Nat.div_le_self a b;rw [h1]
 generalize a / b = q at h2
 rw [mL (by omega) (by omega)]
theorem j0 {a b : Nat} (h : b ≠ 0) : aj cl .rem (vu a) (vu b) = some (vu (a % b)) := by
 simp only [aj, nP, if_true];rw [if_neg (by omega)];have h1 : (a : Int).tmod (b : Int) = ((a % b : Nat) : Int) := (Int.ofNat_tmod a b).symm;rw [h1]
theorem IH {a : Nat} {k : IntKind} {n : Nat} (hn : n ≤ 64) : aj cl .shr (vu a) (.int k (n : Int)) = some (vu (a / 2 ^ n)) := by
 simp only [aj, nA];rw [if_neg (by omega)];simp only [IntKind.bits, xS, Nat.min_eq_left hn]
 have : (a : Int).fdiv (2 ^ n) = ((a / 2 ^ n : Nat) : Int) := by
  rw [Int.fdiv_eq_ediv_of_nonneg _ (by exact Int.le_of_lt (Int.pow_pos (by omega)))];simp
 rw [this]
theorem IG {a : Nat} {k : IntKind} {n : Nat} (hn : n ≤ 64) : aj cl .shl (vu a) (.int k (n : Int)) = some (vu (a * 2 ^ n % 18446744073709551616)) := by
 simp only [aj, nA];rw [if_neg (by omega)];simp only [IntKind.bits, xS, Nat.min_eq_left hn];rw [Hv];simp
theorem aS {a b : Int} (h0 : -9223372036854775808 ≤ a + b) (h1 : a + b < 9223372036854775808) : aj cl .add (vi a) (vi b) = some (vi (a + b)) := by simp only [aj, nP, if_true, pY h0 h1]
theorem gS {a b : Int} (h0 : -9223372036854775808 ≤ a - b) (h1 : a - b < 9223372036854775808) : aj cl .sub (vi a) (vi b) = some (vi (a - b)) := by simp only [aj, nP, if_true, pY h0 h1]
theorem tE {k : IntKind} {a b : Int} : aj cl .lss (.int k a) (.int k b) = some (vb (decide (a < b))) ∧ aj cl .leq (.int k a) (.int k b) = some (vb (decide (a ≤ b))) ∧ aj cl .gtr (.int k a) (.int k b) = some (vb (decide (b < a))) ∧
 aj cl .geq (.int k a) (.int k b) = some (vb (decide (b ≤ a))) ∧ aj cl .eql (.int k a) (.int k b) = some (vb (a == b)) ∧ aj cl .neq (.int k a) (.int k b) = some (vb (a != b)) := by
 simp [aj, nP]
theorem tG {k : IntKind} {a b : Int} : aj cl .lss (.int k a) (.int k b) = some (vb (decide (a < b))) := tE.1
theorem SY {k : IntKind} {a b : Int} : aj cl .leq (.int k a) (.int k b) = some (vb (decide (a ≤ b))) := tE.2.1
theorem J3 {k : IntKind} {a b : Int} : aj cl .gtr (.int k a) (.int k b) = some (vb (decide (b < a))) := tE.2.2.1
theorem tF {k : IntKind} {a b : Int} : aj cl .geq (.int k a) (.int k b) = some (vb (decide (b ≤ a))) := tE.2.2.2.1
theorem fq {k : IntKind} {a b : Int} : aj cl .eql (.int k a) (.int k b) = some (vb (a == b)) := tE.2.2.2.2.1
theorem tI {k : IntKind} {a b : Int} : aj cl .neq (.int k a) (.int k b) = some (vb (a != b)) := tE.2.2.2.2.2
theorem Hq {a : Bool} : pM .not (vb a) = some (vb (!a)) := rfl
theorem gL {a b : Int} : gk [vi a, vi b] = some (vi (max a b)) := by
 simp only [gk]
 congr 2
 split <;> omega
theorem lN {a b : Int} : jS [vi a, vi b] = some (vi (min a b)) := by
 simp only [jS]
 congr 2
 split <;> omega
end
abbrev Hp := Nat → Option AObj
def SP : Type := Hp → Prop
theorem SP.ext {P Q : SP} (h : ∀ x, P x ↔ Q x) : P = Q := funext fun x => propext (h x)
def sep (P Q : SP) : SP := fun h => ∃ a b : Hp, (∀ i, a i = none ∨ b i = none) ∧ (h = fun i => (a i).or (b i)) ∧ P a ∧ Q b
instance : Mul SP := ⟨sep⟩
def emp : SP := fun h => h = fun _ => none
theorem ahD {α : Type} {a b : Option α} (h : a = none ∨ b = none) : a.or b = b.or a := by
 rcases h with rfl | rfl <;> simp
theorem zy (P Q : SP) : P * Q = Q * P := by
 have one : ∀ (P Q : SP) h, sep P Q h → sep Q P h := by
  rintro P Q h ⟨a, b, hd, rfl, ha, hb⟩
  exact ⟨b, a, fun i => (hd i).symm, funext fun i => ahD (hd i), hb, ha⟩
 exact SP.ext fun h => ⟨one P Q h, one Q P h⟩
theorem ai (P Q R : SP) : P * Q * R = P * (Q * R) := by
 apply SP.ext;intro h
 constructor
 ·rintro ⟨ab, c, hd, rfl, ⟨a, b, hd2, rfl, ha, hb⟩, hc⟩
  refine ⟨a, fun i => (b i).or (c i), fun i => ?_, funext fun i => ?_, ha, b, c, fun i => ?_, rfl, hb, hc⟩
  ·have h1 := hd i
   have h2 := hd2 i
   cases ha' : a i <;> cases hb' : b i <;> cases hc' : c i <;> simp_all
  ·exact Option.or_assoc
  ·have h1 := hd i
   have h2 := hd2 i
   cases ha' : a i <;> cases hb' : b i <;> cases hc' : c i <;> simp_all
 ·rintro ⟨a, bc, hd, rfl, ha, b, c, hd2, rfl, hb, hc⟩
  refine ⟨fun i => (a i).or (b i), c, fun i => ?_, funext fun i => ?_, ⟨a, b, fun i => ?_, rfl, ha, hb⟩, hc⟩
  ·have h1 := hd i
   have h2 := hd2 i
   cases ha' : a i <;> cases hb' : b i <;> cases hc' : c i <;> simp_all
  ·exact Option.or_assoc.symm
  ·have h1 := hd i
   have h2 := hd2 i
   cases ha' : a i <;> cases hb' : b i <;> cases hc' : c i <;> simp_all
theorem fA (P : SP) : P * emp = P := by
 apply SP.ext;intro h
 constructor
 ·rintro ⟨a, b, hd, rfl, ha, hb⟩
  have hb : b = fun _ => none := hb;subst hb
  simpa using ha
 ·intro h'
  exact ⟨h, fun _ => none, fun i => .inr rfl, by simp, h', rfl⟩
theorem ft (P : SP) : emp * P = P := by rw [zy, fA]
instance : Std.Associative (α := SP) (· * ·) := ⟨ai⟩
instance : Std.Commutative (α := SP) (· * ·) := ⟨zy⟩
theorem ci (P Q R : SP) : P * (Q * R) = Q * (P * R) := by rw [← ai, zy P Q, ai]
def blk (b : Nat) (o : AObj) : SP := fun h => h = fun i => if i = b then some o else none
def ex {α : Type} (P : α → SP) : SP := fun h => ∃ x, P x h
def pu (p : Prop) : SP := fun h => p ∧ h = fun _ => none
def ac (P : SP) (H : AH) : Prop := ∃ h : Hp, P h ∧ ∀ i o, h i = some o → H.get i = some o
theorem ac.left {P Q : SP} {H : AH} (h : ac (P * Q) H) : ac P H := by
 obtain ⟨x, ⟨a, b, hd, rfl, ha, hb⟩, hx⟩ := h;exact ⟨a, ha, fun i o hi => hx i o (by simp [hi])⟩
theorem ac.right {P Q : SP} {H : AH} (h : ac (P * Q) H) : ac Q H := by rw [zy] at h; exact h.left
theorem ac.get {b : Nat} {o : AObj} {H : AH} (h : ac (blk b o) H) : H.get b = some o := by
 obtain ⟨x, hx, hg⟩ := h;have hx : x = _ := hx;exact hg b o (by rw [hx]; simp)
theorem ac.ex {α : Type} {F : α → SP} {R : SP} {H : AH} : ac (ex F * R) H ↔ ∃ x, ac (F x * R) H := by
 constructor
 ·rintro ⟨h, ⟨a, b, hd, rfl, ⟨x, ha⟩, hb⟩, hx⟩
  exact ⟨x, _, ⟨a, b, hd, rfl, ha, hb⟩, hx⟩
 ·rintro ⟨x, h, ⟨a, b, hd, rfl, ha, hb⟩, hx⟩
  exact ⟨_, ⟨a, b, hd, rfl, ⟨x, ha⟩, hb⟩, hx⟩
theorem ac.pu {p : Prop} {R : SP} {H : AH} : ac (pu p * R) H ↔ p ∧ ac R H := by
 constructor
 ·rintro ⟨h, ⟨a, b, hd, rfl, ⟨hp, ha⟩, hb⟩, hx⟩
  subst ha;exact ⟨hp, b, hb, fun i o hi => hx i o (by simp [hi])⟩
 ·rintro ⟨hp, h, hr, hx⟩
  exact ⟨h, ⟨fun _ => none, h, fun i => .inl rfl, by simp, ⟨hp, rfl⟩, hr⟩, hx⟩
theorem ac.emp (H : AH) : ac emp H := ⟨fun _ => none, rfl, fun i o h => by cases h⟩
theorem ac.lt {b : Nat} {o : AObj} {R : SP} {H : AH} (h : ac (blk b o * R) H) : b < H.size := AH.lt_of_get h.left.get
theorem ac.set {b : Nat} {o : AObj} {R : SP} {H : AH} (o' : AObj) (h : ac (blk b o * R) H) : ac (blk b o' * R) (H.set b o') := by
 have hb := h.lt;obtain ⟨x, ⟨a, r, hd, rfl, ha, hr⟩, hx⟩ := h;have ha : a = _ := ha;subst ha;refine ⟨_, ⟨_, r, fun i => ?_, rfl, rfl, hr⟩, fun i o2 hi => ?_⟩
 ·have := hd i
  simp only at this ⊢
  by_cases hi : i = b
  ·rw [if_pos hi] at this ⊢
   rcases this with h | h
   ·cases h
   ·exact .inr h
  ·rw [if_neg hi]; exact .inl rfl
 ·by_cases hib : i = b
  ·subst hib
   simp only [if_true, Option.some_or, Option.some.injEq] at hi;subst hi;exact AH.get_set_eq hb
  ·simp only [if_neg hib, Option.none_or] at hi
   rw [AH.get_set_ne hib];exact hx i o2 (by simp only [if_neg hib, Option.none_or]; exact hi)
theorem ac.push {R : SP} {H : AH} (o : AObj) (h : ac R H) : ac (blk H.size o * R) (H.push o) := by
 obtain ⟨r, hr, hx⟩ := h;refine ⟨_, ⟨_, r, fun i => ?_, rfl, rfl, hr⟩, fun i o2 hi => ?_⟩
 ·by_cases hi : i = H.size
  ·subst hi
   right
   cases hr' : r H.size with
   | none => rfl
   | some o' => have := AH.lt_of_get (hx _ _ hr'); omega
  ·rw [if_neg hi]; exact .inl rfl
 ·by_cases hib : i = H.size
  ·subst hib
   simp only [if_true, Option.some_or, Option.some.injEq] at hi;subst hi;exact AH.get_push_new _ _
  ·simp only [if_neg hib, Option.none_or] at hi
   have := hx i o2 hi;rw [AH.get_push_old (AH.lt_of_get this)];exact this
theorem ac.dead {b : Nat} {o : AObj} {R : SP} {H : AH} (h : ac (blk b o * R) H) : ac R (H.set b .dead) := (h.set .dead).right
class Fr (P A : SP) (R : outParam SP) : Prop where
 eq : P = A * R
instance (priority := high) Fr.refl (A : SP) : Fr A A emp := ⟨(fA A).symm⟩
instance (priority := high) Fr.emp (P : SP) : Fr P emp P := ⟨(ft P).symm⟩
instance Fr.left (P Q A R : SP) [h : Fr P A R] : Fr (P * Q) A (R * Q) := ⟨by rw [h.eq, ai]⟩
instance Fr.right (P Q A R : SP) [h : Fr Q A R] : Fr (P * Q) A (P * R) := ⟨by rw [h.eq, ci]⟩
instance (priority := high) Fr.both (P A B R1 R2 : SP) [h1 : Fr P A R1] [h2 : Fr R1 B R2] : Fr P (A * B) R2 := ⟨by rw [h1.eq, h2.eq, ai]⟩
class Hs (P : SP) (b : Nat) (o : outParam AObj) : Prop where
 get : ∀ {H : AH}, ac P H → H.get b = some o
instance Hs.one (b : Nat) (o : AObj) : Hs (blk b o) b o := ⟨ac.get⟩
instance Hs.left (P Q : SP) (b : Nat) (o : AObj) [h : Hs P b o] : Hs (P * Q) b o := ⟨fun k => h.get k.left⟩
instance Hs.right (P Q : SP) (b : Nat) (o : AObj) [h : Hs Q b o] : Hs (P * Q) b o := ⟨fun k => h.get k.right⟩
class Up (P : SP) (b : Nat) (o' : AObj) (P' : outParam SP) : Prop where
 up : ∃ o R, P = blk b o * R ∧ P' = blk b o' * R
instance Up.one (b : Nat) (o o' : AObj) : Up (blk b o) b o' (blk b o') := ⟨o, emp, (fA _).symm, (fA _).symm⟩
instance Up.left (P Q : SP) (b : Nat) (o' : AObj) (P' : SP) [h : Up P b o' P'] : Up (P * Q) b o' (P' * Q) := ⟨by
 obtain ⟨o, R, e1, e2⟩ := h.up
 exact ⟨o, R * Q, by rw [e1, ai], by rw [e2, ai]⟩⟩
instance Up.right (P Q : SP) (b : Nat) (o' : AObj) (Q' : SP) [h : Up Q b o' Q'] : Up (P * Q) b o' (P * Q') := ⟨by
 obtain ⟨o, R, e1, e2⟩ := h.up
 exact ⟨o, P * R, by rw [e1, ci], by rw [e2, ci]⟩⟩
theorem Up.set {P P' : SP} {b : Nat} {o' : AObj} [h : Up P b o' P'] {H : AH} (k : ac P H) : ac P' (H.set b o') := by
 obtain ⟨o, R, rfl, rfl⟩ := h.up;exact k.set o'
theorem ac.fr {P A R : SP} {H : AH} (h : ac P H) [f : Fr P A R] : ac (A * R) H := by rw [← f.eq]; exact h
theorem ac.to {P A R : SP} {H : AH} (h : ac P H) [f : Fr P A R] : ac A H := h.fr.left
def wp (x : OV) (Q : Value → AH → Prop) : Prop := ∃ v H, x = some (v, H) ∧ Q v H
abbrev vp (b : Nat) : Value := .pointer (some ⟨b, 0, none⟩)
abbrev qL (b o : Nat) : Value := .pointer (some ⟨b, o, none⟩)
abbrev vs (b n e : Nat) : Value := .slice (some ⟨b, 0, none⟩) n e
theorem am {v : Value} {H : AH} {Q : Value → AH → Prop} (h : Q v H) : wp (some (v, H)) Q := ⟨v, H, rfl, h⟩
theorem wp.mono {x : OV} {Q Q' : Value → AH → Prop} (h : wp x Q) (k : ∀ v H, Q v H → Q' v H) : wp x Q' := let ⟨v, H, e, q⟩ := h; ⟨v, H, e, k v H q⟩
theorem bm {x y : OV} {Q : Value → AH → Prop} (h : ∀ r, x = some r → y = some r) (k : wp x Q) : wp y Q := let ⟨v, H, e, q⟩ := k; ⟨v, H, h _ e, q⟩
theorem ah {x y : OV} {Q : Value → AH → Prop} (h : y = x) (k : wp x Q) : wp y Q := by rw [h]; exact k
theorem aa {x : Option Value} {v : Value} {k : Value → OV} {Q : Value → AH → Prop} (e : x = some v) (h : wp (k v) Q) : wp (x.bind k) Q := by rw [e]; exact h
theorem bZ {b : Bool} {x y : OV} {Q : Value → AH → Prop} (ht : b = true → wp x Q) (hf : b = false → wp y Q) : wp (av (vb b) x y) Q := by
 cases b
 ·exact hf rfl
 ·exact ht rfl
theorem zI {x y : Option Value} {k : OV} {Q : Value → AH → Prop} (e : x = y) (h : wp k Q) : wp (bT x y k) Q := by rw [apI e]; exact h
theorem JS {x : Option Value} {k : OV} {Q : Value → AH → Prop} (h : wp k Q) : wp (bT x x k) Q := zI rfl h
section
variable {P P' R : SP} {H : AH} {b o f n len e : Nat} {ro : Bool} {cs : List Value} {v x : Value} {Q : Value → AH → Prop}
theorem Q9 (h : ac P H) [i : Hs P b (.cells ro cs)] (hv : cs[o]? = some v) : aq (qL b o) H = some v := by
 simp only [aq, uU, ei, bJ, i.get h];exact hv
theorem Ra (h : ac P H) [i : Hs P b (.cells ro cs)] (hn : o + n ≤ cs.length) : ax n (qL b o) H = some (.agg ((cs.drop o).take n).toArray) := by
 simp only [ax, uU, ei, bJ, i.get h];rw [if_pos hn]
theorem aiZ (h : ac P H) [i : Hs P b (.cells false cs)] (hx : x.cells.size = n) (hn : o + n ≤ cs.length) (hc : x.cells.toList.all Value.oneCell' = true) :
 cH n (qL b o) x H = some (H.set b (.cells false (splice cs o x.cells.toList))) := by
 simp only [cH, uU, bJ, i.get h];rw [if_pos ⟨hx, hn, hc⟩]
theorem br {k : Value → AH → OV} (h : ac P H) (hk : ∀ b H', ac (blk b (.cells false cs) * P) H' → wp (k (vp b) H') Q) : wp (aW cs H k) Q := hk _ _ (h.push _)
theorem zJ {k : Value → AH → OV} (h : ac P H) (hk : ∀ b H', ac (blk b (.map [] 0) * P) H' → wp (k (.map (some b)) H') Q) : wp (HW H k) Q := hk _ _ (h.push _)
theorem ar1 {k : Value → AH → OV} (h : ac P H) (hk : ∀ b H', ac (blk b (.cells false cs) * P) H' → wp (k (vs b len e) H') Q) : wp (arW len e cs H k) Q := hk _ _ (h.push _)
theorem Wo {zero : List Value} {xs : List (Nat × Value)} {k : Value → AH → OV} (h : ac P H) (hf : dp (amU e) (List.replicate len zero).flatten xs = some cs) (hk : ∀ b H', ac (blk b (.cells false cs) * P) H' → wp (k (vs b len e) H') Q) :
 wp (wL len e zero xs H k) Q := by
 unfold wL;rw [hf];exact ar1 h hk
theorem O6 {ps : List (Nat × Nat)} {zero : List Value} {xs : List (Nat × Value)} {k : Value → OV} (hf : dp (fun i => ps[i]?) zero xs = some cs) (hk : wp (k (.agg cs.toArray)) Q) : wp (gY ps zero xs k) Q := by
 unfold gY;rw [hf];exact hk
theorem Wn {n : Nat} {a : Option Addr} {k : Value → OV} (hk : wp (k (vi n)) Q) : wp (eS (.slice a n e) k) Q := hk
theorem arD {R : Type} {b o f : Nat} {p : List Stp} {k : Value → Option R} : ad (.f f :: p) (qL b o) k = ad p (qL b (o + f)) k := rfl
theorem WD {R : Type} {b o n e i : Nat} {c : Nat} {p : List Stp} {kk : IntKind} {k : Value → Option R} (h : i < n) : ad (.i e (.int kk (i : Int)) :: p) (.slice (some ⟨b, o, none⟩) n c) k = ad p (qL b (o + i * e)) k := by
 show (pL e (.slice (some ⟨b, o, none⟩) n c) (.int kk (i : Int))).bind _ = _;simp only [pL];rw [if_pos (by omega)];simp
theorem ao5 {R : Type} {b o n e i : Nat} {p : List Stp} {kk : IntKind} {k : Value → Option R} (h : i < n) : ad (.a n e (.int kk (i : Int)) :: p) (qL b o) k = ad p (qL b (o + i * e)) k := by
 show (jb n e (qL b o) (.int kk (i : Int))).bind _ = _;simp only [jb];rw [if_pos (by omega)];simp
def Pj (p : List Stp) (x : Value) (b o : Nat) : Prop := ∀ {R : Type} (k : Value → Option R), ad p x k = k (qL b o)
theorem bf : Pj [] (qL b o) b o := fun _ => rfl
theorem b7 {p : List Stp} {b' o' : Nat} (h : Pj p (qL b o) b' o') : Pj (.n :: p) (qL b o) b' o' := fun k => h k
theorem aR {p : List Stp} {b' o' : Nat} (h : Pj p (qL b (o + f)) b' o') : Pj (.f f :: p) (qL b o) b' o' := fun k => h k
theorem Ta {p : List Stp} {b' o' i c : Nat} {kk : IntKind} (hi : i < n) (h : Pj p (qL b (o + i * e)) b' o') : Pj (.i e (.int kk (i : Int)) :: p) (.slice (some ⟨b, o, none⟩) n c) b' o' := fun k => by rw [WD hi]; exact h k
theorem ae : Pj [.n, .f f] (vp b) b f := fun k => by
 show k (qL b (0 + f)) = _;rw [Nat.zero_add]
theorem aD : Pj [.f f] (vp b) b f := fun k => by
 show k (qL b (0 + f)) = _;rw [Nat.zero_add]
class abB (l : List Value) (o : Nat) (v : Value) (l' : outParam (List Value)) : Prop where
 eq : o < l.length ∧ l' = l.set o v
instance abB.zero (a : Value) (l : List Value) (v : Value) : abB (a :: l) 0 v (v :: l) := ⟨by simp⟩
instance abB.succ (a : Value) (l : List Value) (o : Nat) (v : Value) (l' : List Value) [h : abB l o v l'] : abB (a :: l) (o + 1) v (a :: l') := ⟨by
 obtain ⟨h1, rfl⟩ := h.eq
 exact ⟨by simp; exact h1, by simp⟩⟩
class wQ (l : List Value) (o : Nat) (xs : List Value) (l' : outParam (List Value)) : Prop where
 eq : o + xs.length ≤ l.length ∧ l' = splice l o xs
instance wQ.here0 (l : List Value) : wQ l 0 [] l := ⟨by simp [splice]⟩
instance wQ.here (a x : Value) (l xs l' : List Value) [h : wQ l 0 xs l'] : wQ (a :: l) 0 (x :: xs) (x :: l') := ⟨by
 obtain ⟨h1, rfl⟩ := h.eq
 refine ⟨by simp at h1 ⊢; exact h1, by simp [splice]⟩⟩
instance wQ.on (a : Value) (l : List Value) (o : Nat) (x : Value) (xs l' : List Value) [h : wQ l o (x :: xs) l'] : wQ (a :: l) (o + 1) (x :: xs) (a :: l') := ⟨by
 obtain ⟨h1, rfl⟩ := h.eq;refine ⟨by simp at h1 ⊢; omega, ?_⟩;simp only [splice, List.take_succ_cons, List.cons_append, List.cons.injEq, true_and]
 congr 1
 rw [show o + 1 + (x :: xs).length = (o + (x :: xs).length) + 1 from by omega, List.drop_succ_cons]⟩
class Ej (l : List Value) (o n : Nat) (l' : outParam (List Value)) : Prop where
 eq : o + n ≤ l.length ∧ l' = (l.drop o).take n
instance Ej.nil (l : List Value) : Ej l 0 0 [] := ⟨by simp⟩
instance Ej.here (a : Value) (l : List Value) (n : Nat) (l' : List Value) [h : Ej l 0 n l'] : Ej (a :: l) 0 (n + 1) (a :: l') := ⟨by
 obtain ⟨h1, rfl⟩ := h.eq
 exact ⟨by simp at h1 ⊢; exact h1, by simp⟩⟩
instance Ej.on (a : Value) (l : List Value) (o n : Nat) (l' : List Value) [h : Ej l o (n + 1) l'] : Ej (a :: l) (o + 1) (n + 1) l' := ⟨by
 obtain ⟨h1, rfl⟩ := h.eq
 exact ⟨by simp at h1 ⊢; omega, by simp⟩⟩
class wO (v : Value) (l : outParam (List Value)) : Prop where
 eq : v.cells.toList = l
instance wO.int (k : IntKind) (n : Int) : wO (.int k n) [.int k n] := ⟨rfl⟩
instance wO.bool (b : Bool) : wO (.bool b) [.bool b] := ⟨rfl⟩
instance wO.slice (a : Option Addr) (n c : Nat) : wO (.slice a n c) [.slice a n c] := ⟨rfl⟩
instance wO.ptr (a : Option Addr) : wO (.pointer a) [.pointer a] := ⟨rfl⟩
instance wO.func (f : Fn) (a b : Array Value) : wO (.func f a b) [.func f a b] := ⟨rfl⟩
instance wO.nilFunc : wO .nilFunc [.nilFunc] := ⟨rfl⟩
instance wO.map (m : Option Nat) : wO (.map m) [.map m] := ⟨rfl⟩
instance wO.string (s : ByteArray) : wO (.string s) [.string s] := ⟨rfl⟩
instance wO.agg (l : List Value) : wO (.agg l.toArray) l := ⟨by simp [Value.cells]⟩
class Wx (ps : List (Nat × Nat)) (i : Nat) (o n : outParam Nat) : Prop where
 eq : ps[i]? = some (o, n)
instance Wx.zero (p : Nat × Nat) (ps : List (Nat × Nat)) : Wx (p :: ps) 0 p.1 p.2 := ⟨rfl⟩
instance Wx.succ (p : Nat × Nat) (ps : List (Nat × Nat)) (i o n : Nat) [h : Wx ps i o n] : Wx (p :: ps) (i + 1) o n := ⟨by simpa using h.eq⟩
class Pq (l : List Value) (n : Nat) : Prop where
 eq : l.length = n
instance Pq.nil : Pq [] 0 := ⟨rfl⟩
instance Pq.cons (a : Value) (l : List Value) (n : Nat) [h : Pq l n] : Pq (a :: l) (n + 1) := ⟨by simp [h.eq]⟩
class Ww (ps : List (Nat × Nat)) (zero : List Value) (xs : List (Nat × Value)) (cs : outParam (List Value)) : Prop where
 eq : dp (fun i => ps[i]?) zero xs = some cs
instance Ww.nil (ps : List (Nat × Nat)) (zero : List Value) : Ww ps zero [] zero := ⟨rfl⟩
instance Ww.cons (ps : List (Nat × Nat)) (zero z l cs : List Value) (i o n : Nat) (v : Value) (xs : List (Nat × Value)) [h1 : Wx ps i o n] [h2 : wO v l] [h3 : Pq l n] [h4 : wQ zero o l z] [h5 : Ww ps z xs cs] : Ww ps zero ((i, v) :: xs) cs := ⟨by
 obtain ⟨h6, rfl⟩ := h4.eq;have h7 := h2.eq;have h8 := h3.eq;subst h7;simp only [dp, h1.eq, bJ];rw [if_pos ⟨by simpa using h8, by rw [← h8]; exact h6⟩]
 exact h5.eq⟩
class ao3 (e : Nat) (zero : List Value) (xs : List (Nat × Value)) (cs : outParam (List Value)) : Prop where
 eq : dp (amU e) (List.replicate 1 zero).flatten xs = some cs
instance ao3.one (e : Nat) (zero l z : List Value) (v : Value) [h2 : wO v l] [h3 : Pq l e] [h4 : wQ zero 0 l z] : ao3 e zero [(0, v)] z := ⟨by
 obtain ⟨h6, rfl⟩ := h4.eq;have h7 := h2.eq;have h8 := h3.eq;subst h7
 have hz : (List.replicate 1 zero).flatten = zero := by simp
 rw [hz];simp only [dp, amU, bJ, Nat.zero_mul]
 rw [if_pos ⟨by simpa using h8, by rw [← h8]; exact h6⟩]⟩
theorem bC {p : List Stp} {k : Value → OV} (hp : Pj p x b o) (hk : wp (k (qL b o)) Q) : wp (ad p x k) Q := by rw [hp k]; exact hk
theorem ak {p : List Stp} {k : Value → OV} (h : ac P H) (hp : Pj p x b o) [i : Hs P b (.cells ro cs)] (hv : cs[o]? = some v) (hk : wp (k v) Q) : wp (ld p x H k) Q := by
 unfold ld;rw [hp, Q9 h hv];exact hk
theorem JT {l : List Value} {p : List Stp} {k : Value → OV} (h : ac P H) (hp : Pj p x b o) [i : Hs P b (.cells ro cs)] [s : Ej cs o n l] (hk : wp (k (.agg l.toArray)) Q) : wp (ldN n p x H k) Q := by
 obtain ⟨hn, rfl⟩ := s.eq;unfold ldN;rw [hp, Ra h hn];exact hk
theorem bk {cs' l : List Value} {p : List Stp} {k : AH → OV} (h : ac P H) (hp : Pj p x b o) [i : Hs P b (.cells false cs)] [c : wO v l] [s : wQ cs o l cs'] (hx : l.length = n) (hc : l.all Value.oneCell' = true)
 [u : Up P b (.cells false cs') P'] (hk : ∀ H', ac P' H' → wp (k H') Q) : wp (st n p x v H k) Q := by
 obtain ⟨hn, rfl⟩ := s.eq;have hl := c.eq;subst hl;unfold st;rw [hp, aiZ h (by simpa using hx) (by simp at hx hn; omega) hc];exact hk _ (u.set h)
theorem aV {k : Value → OV} (h : ac P H) [i : Hs P b (.cells ro cs)] (hv : cs[o]? = some v) (hk : wp (k v) Q) : wp ((aq (qL b o) H).bind k) Q := aa (Q9 h hv) hk
theorem aZ {l : List Value} {k : Value → OV} (h : ac P H) [i : Hs P b (.cells ro cs)] [s : Ej cs o n l] (hk : wp (k (.agg l.toArray)) Q) : wp ((ax n (qL b o) H).bind k) Q := by
 obtain ⟨hn, rfl⟩ := s.eq;exact aa (Ra h hn) hk
theorem fi {cs' l : List Value} {k : AH → OV} (h : ac P H) [i : Hs P b (.cells false cs)] [c : wO v l] [s : wQ cs o l cs'] (hx : l.length = n) (hc : l.all Value.oneCell' = true)
 [u : Up P b (.cells false cs') P'] (hk : ∀ H', ac P' H' → wp (k H') Q) : wp ((cH n (qL b o) v H).bind k) Q := by
 obtain ⟨hn, rfl⟩ := s.eq;have hl := c.eq;subst hl;rw [aiZ h (by simpa using hx) (by simp at hx hn; omega) hc];exact hk _ (u.set h)
theorem ba {l : List Value} {k : Value → AH → OV} (h : ac P H) [c : wO x l] (hk : ∀ b H', ac (blk b (.cells false l) * P) H' → wp (k (vp b) H') Q) : wp (aW (Value.cells x).toList H k) Q := by
 rw [c.eq]; exact br h hk
theorem jc {ps : List (Nat × Nat)} {zero : List Value} {xs : List (Nat × Value)} {k : Value → OV} [f : Ww ps zero xs cs] (hk : wp (k (.agg cs.toArray)) Q) : wp (gY ps zero xs k) Q := O6 f.eq hk
theorem MS {zero : List Value} {xs : List (Nat × Value)} {k : Value → AH → OV} (h : ac P H) [f : ao3 e zero xs cs] (hk : ∀ b H', ac (blk b (.cells false cs) * P) H' → wp (k (vs b 1 e) H') Q) : wp (wL 1 e zero xs H k) Q := Wo h f.eq hk
theorem aI {P2 : SP} {H2 : AH} {ro2 : Bool} {cs2 : List Value} {k : OV} (h : ac P H) (h2 : ac P2 H2) [i : Hs P b (.cells ro cs)] [i2 : Hs P2 b (.cells ro2 cs2)] (e : cs[o]? = cs2[o]?) (hk : wp k Q) :
 wp (bT (aq (qL b o) H) (aq (qL b o) H2) k) Q := by
 refine zI ?_ hk;simp only [aq, uU, ei, bJ, i.get h, i2.get h2];exact e
theorem dX {P2 : SP} {H2 : AH} {ro2 : Bool} {cs2 : List Value} {k : OV} (h : ac P H) (h2 : ac P2 H2) [i : Hs P b (.cells ro cs)] [i2 : Hs P2 b (.cells ro2 cs2)] (e : cs = cs2) (hk : wp k Q) :
 wp (bT (ax n (qL b o) H) (ax n (qL b o) H2) k) Q := by
 refine zI ?_ hk;simp only [ax, uU, ei, bJ, i.get h, i2.get h2, e]
def Sp {α : Type} (f : Nat) (args : List Value) (P : SP) (v : α → Value) (Q : α → SP) : Prop := ∀ R H, ac (P * R) H → ∃ x H', FF f args H = some (v x, H') ∧ ac (Q x * R) H'
theorem aO {α : Type} {f : Nat} {args : List Value} {P : SP} {v : α → Value} {Q : α → SP} (h : ∀ R H, ac (P * R) H → wp (FF f args H) fun v' H' => ∃ x, v' = v x ∧ ac (Q x * R) H') : Sp f args P v Q := by
 intro R H hh;obtain ⟨v', H', e, x, rfl, hq⟩ := h R H hh;exact ⟨x, H', e, hq⟩
theorem bh {α : Type} {f : Nat} {args : List Value} {P : SP} {v : α → Value} {Q : α → SP} {g : AH → OV} (hf : ∀ (H : AH) {r : Value × AH}, g H = some r → FF f args H = some r) (k : ∀ (R : SP) (H : AH), ac (P * R) H → wp (g H) fun v' H' => ∃ x, v' = v x ∧ ac (Q x * R) H') : Sp f args P v Q := aO fun R H h => bm (fun r => hf H) (k R H h)
theorem af {α : Type} {f : Nat} {args : List Value} {P0 : SP} {v : α → Value} {Q0 : α → SP} {k : Value × AH → OV} (h : ac P H) (s : Sp f args P0 v Q0) [fr : Fr P P0 R] (hk : ∀ x H', ac (Q0 x * R) H' → wp (k (v x, H')) Q) : wp ((FF f args H).bind k) Q := by
 obtain ⟨x, H', e, h'⟩ := s R H h.fr;rw [e];exact hk x H' h'
end
def sl (e : Nat) (v : Value) (n : Nat) (cs : List Value) : SP := ex fun ob : Option Nat => match ob with
 | none => pu (v = .slice none 0 0 ∧ n = 0 ∧ cs = [])
 | some b => pu (v = vs b n e ∧ cs.length = n * e) * blk b (.cells false cs)
theorem V9 {R : SP} {H : AH} (e : Nat) (h : ac R H) : ac (sl e (.slice none 0 0) 0 [] * R) H := ac.ex.2 ⟨none, ac.pu.2 ⟨⟨rfl, rfl, rfl⟩, h⟩⟩
theorem zB {R : SP} {H : AH} {e b n : Nat} {cs : List Value} (hl : cs.length = n * e) (h : ac (blk b (.cells false cs) * R) H) : ac (sl e (vs b n e) n cs * R) H :=
 ac.ex.2 ⟨some b, by rw [ai]; exact ac.pu.2 ⟨⟨rfl, hl⟩, h⟩⟩
theorem ul {R : SP} {H : AH} {e n : Nat} {v : Value} {cs : List Value} (h : ac (sl e v n cs * R) H) : (v = .slice none 0 0 ∧ n = 0 ∧ cs = [] ∧ ac R H) ∨ ∃ b, v = vs b n e ∧ cs.length = n * e ∧ ac (blk b (.cells false cs) * R) H := by
 obtain ⟨ob, h⟩ := ac.ex.1 h
 cases ob with
 | none =>
  obtain ⟨⟨h1, h2, h3⟩, h4⟩ := ac.pu.1 h;exact .inl ⟨h1, h2, h3, h4⟩
 | some b =>
  simp only [ai] at h;obtain ⟨⟨h1, h2⟩, h4⟩ := ac.pu.1 h;exact .inr ⟨b, h1, h2, h4⟩
class Sl (P : SP) (e : Nat) (v : Value) (n : outParam Nat) (cs : outParam (List Value)) (R : outParam SP) : Prop where
 eq : P = sl e v n cs * R
instance (priority := high) Sl.refl (e n : Nat) (v : Value) (cs : List Value) : Sl (sl e v n cs) e v n cs emp := ⟨(fA _).symm⟩
instance Sl.left (P Q R : SP) (e n : Nat) (v : Value) (cs : List Value) [h : Sl P e v n cs R] : Sl (P * Q) e v n cs (R * Q) := ⟨by rw [h.eq, ai]⟩
instance Sl.right (P Q R : SP) (e n : Nat) (v : Value) (cs : List Value) [h : Sl Q e v n cs R] : Sl (P * Q) e v n cs (P * R) := ⟨by rw [h.eq, ci]⟩
theorem Sl.fr {P R : SP} (e : Nat) {n : Nat} (v : Value) {cs : List Value} [h : Sl P e v n cs R] {H : AH} (k : ac P H) : ac (sl e v n cs * R) H := by rw [← h.eq]; exact k
section
variable {P P' R : SP} {H : AH} {b o n m e k : Nat} {ro : Bool} {cs xcs : List Value} {v s x : Value} {Q : Value → AH → Prop}
theorem aoY {bytes : Nat} {kk : Value × AH → OV} (h : ac P H) [f : Sl P e s n cs R] [i : Hs R b (.cells ro xcs)] (hl : xcs.length = k * e) (he : 0 < e) (hk0 : 0 < k) (hc : xcs.all Value.oneCell' = true)
 (hr : (n + k) * bytes ≤ room ∧ n + k ≤ room) (hk : ∀ a c H', ac (sl e (.slice a (n + k) c) (n + k) (cs ++ xcs) * R) H' → wp (kk (.slice a (n + k) c, H')) Q) : wp ((dS e bytes s (vs b k e) H).bind kk) Q := by
 have hf := Sl.fr e s h;have hg := i.get hf.right
 have hrow : mf e (vs b k e) H = some (k, xcs) := by
  simp only [mf, ei, hg, bJ];rw [if_neg (by omega), if_pos (by omega)];simp [← hl]
 unfold dS;rw [hrow];simp only [bJ];rw [if_pos ⟨hc, he⟩]
 rcases ul hf with ⟨rfl, rfl, rfl, h'⟩ | ⟨b', rfl, hcl, h'⟩
 ·simp only [and_self, if_true]
  rw [if_neg (by omega), if_pos (by simpa using hr)];simp only [bJ, Nat.zero_add, List.nil_append] at hk ⊢;exact hk _ _ _ (zB hl (h'.push _))
 ·simp only
  have hgb := h'.left.get;rw [if_neg (by omega), if_neg (by omega), hgb];simp only;rw [if_pos ⟨trivial, by omega, hr.1, hr.2⟩];simp only [bJ, List.drop_zero];rw [← hcl, List.take_length];have h2 := h'.dead.push (.cells false (cs ++ xcs));rw [AH.size_set] at h2;exact hk _ _ _ (zB (by rw [qr, hcl, hl, Nat.add_mul]) h2)
end
abbrev cA := Int × Int × Int
def eO (l : cA) : Value := .agg #[vi l.1, vi l.2.1, vi l.2.2]
instance wO.loc (l : cA) : wO (eO l) [vi l.1, vi l.2.1, vi l.2.2] := ⟨rfl⟩
structure Ev where
 who : Int
 kind : Int
 loc : cA
deriving DecidableEq
def Ev.cells (e : Ev) : List Value := [vi e.who, vi e.kind, vi e.loc.1, vi e.loc.2.1, vi e.loc.2.2]
def qa (E : List Ev) : List Value := E.flatMap Ev.cells
theorem Kh (E : List Ev) (x : Ev) : qa (E ++ [x]) = qa E ++ x.cells := by simp [qa]
section
variable {α : Type} {enc : α → List Value} {e : Nat}
theorem iF (he : ∀ x, (enc x).length = e) (l : List α) : (l.flatMap enc).length = l.length * e := by
 induction l with
 | nil => simp
 | cons x l ih => rw [List.flatMap_cons, qr, he, ih, List.length_cons, Nat.add_mul]; omega
theorem Y3 (he : ∀ x, (enc x).length = e) : ∀ (l : List α) (i : Nat), (l.flatMap enc).drop (i * e) = (l.drop i).flatMap enc := by
 intro l
 induction l with
 | nil => intro i; simp
 | cons x l ih =>
  intro i
  cases i with
  | zero => simp
  | succ i =>
   rw [List.flatMap_cons, List.drop_append, he, show (i + 1) * e - e = i * e from by rw [Nat.add_mul]; omega, ih, List.drop_eq_nil_of_le (by rw [he, Nat.add_mul]; omega)]
   rfl
theorem nb (l : List α) (i : Nat) (hi : i < l.length) : l.flatMap enc = (l.take i).flatMap enc ++ (enc l[i] ++ (l.drop (i + 1)).flatMap enc) := by
 rw [← List.flatMap_cons, ← List.flatMap_append, List.getElem_cons_drop, List.take_append_drop]
theorem FL (l : List α) (i : Nat) (hi : i < l.length) (y : α) : (l.set i y).flatMap enc = (l.take i).flatMap enc ++ (enc y ++ (l.drop (i + 1)).flatMap enc) := by
 rw [← List.flatMap_cons, ← List.flatMap_append, List.set_eq_take_append_cons_drop, if_pos hi]
theorem tp (he : ∀ x, (enc x).length = e) (l : List α) (i : Nat) (hi : i < l.length) : ((l.take i).flatMap enc).length = i * e := by
 rw [iF he, List.length_take, Nat.min_eq_left (by omega)]
theorem D0 (he : ∀ x, (enc x).length = e) (l : List α) (i : Nat) (hi : i < l.length) : ((l.flatMap enc).drop (i * e)).take e = enc l[i] := by
 rw [nb l i hi, List.drop_append, tp he l i hi, Nat.sub_self, List.drop_zero, List.drop_eq_nil_of_le (by rw [tp he l i hi]; omega), List.nil_append, List.take_append, he, Nat.sub_self, List.take_zero, List.append_nil,
  List.take_of_length_le (by rw [he]; omega)]
theorem vC (he : ∀ x, (enc x).length = e) (l : List α) (i : Nat) (hi : i < l.length) (f : Nat) (hf : f < e) : (l.flatMap enc)[i * e + f]? = (enc l[i])[f]? := by
 rw [nb l i hi, List.getElem?_append_right (by rw [tp he l i hi]; omega), tp he l i hi, List.getElem?_append_left (by rw [he]; omega)]
 congr 1
 omega
theorem Sj (A X B xs : List Value) (f : Nat) (h : f + xs.length ≤ X.length) : splice (A ++ (X ++ B)) (A.length + f) xs = A ++ (splice X f xs ++ B) := by
 unfold splice;rw [List.take_append, List.take_append, List.drop_append, List.drop_append, List.take_of_length_le (by omega), List.drop_eq_nil_of_le (by omega)]
 have e1 : A.length + f - A.length = f := by omega
 have e2 : A.length + f + xs.length - A.length = f + xs.length := by omega
 have e3 : f + xs.length - X.length = 0 := by omega
 have e4 : f - X.length = 0 := by omega
 rw [e1, e2, e3, e4];simp
theorem BA (he : ∀ x, (enc x).length = e) (l : List α) (i : Nat) (hi : i < l.length) (f : Nat) (xs : List Value) (hf : f + xs.length ≤ e) (y : α) (hy : splice (enc l[i]) f xs = enc y) :
 splice (l.flatMap enc) (i * e + f) xs = (l.set i y).flatMap enc := by
 rw [nb l i hi, FL l i hi, ← tp he l i hi, Sj _ _ _ _ _ (by rw [he]; exact hf), hy]
end
def ts {α : Type} (e : Nat) (enc : α → List Value) (v : Value) (l : List α) : SP := sl e v l.length (l.flatMap enc)
class Enc {α : Type} (enc : α → List Value) (e : outParam Nat) : Prop where
 len : ∀ x, (enc x).length = e
 one : ∀ x, (enc x).all Value.oneCell' = true
 pos : 0 < e
class Ts (P : SP) (s : Value) (α : outParam Type) (e : outParam Nat) (enc : outParam (α → List Value)) (l : outParam (List α)) (R : outParam SP) : Prop where
 eq : P = ts e enc s l * R
instance (priority := high) Ts.refl {α : Type} (e : Nat) (enc : α → List Value) (s : Value) (l : List α) : Ts (ts e enc s l) s α e enc l emp := ⟨(fA _).symm⟩
instance Ts.left {α : Type} (P Q R : SP) (e : Nat) (enc : α → List Value) (s : Value) (l : List α) [h : Ts P s α e enc l R] : Ts (P * Q) s α e enc l (R * Q) := ⟨by rw [h.eq, ai]⟩
instance Ts.right {α : Type} (P Q R : SP) (e : Nat) (enc : α → List Value) (s : Value) (l : List α) [h : Ts Q s α e enc l R] : Ts (P * Q) s α e enc l (P * R) := ⟨by rw [h.eq, ci]⟩
class Tu (P : SP) (s : Value) {α : Type} (l' : List α) (P' : outParam SP) : Prop where
 up : ∃ e enc, ∃ (l : List α), ∃ R, P = ts e enc s l * R ∧ P' = ts e enc s l' * R
theorem dL {α : Type} {R : SP} {H : AH} (e : Nat) (enc : α → List Value) (h : ac R H) : ac (ts e enc (.slice none 0 0) [] * R) H := V9 e h
section
variable {α : Type} {P P' R : SP} {H : AH} {b o e : Nat} {ro : Bool} {enc : α → List Value} {l : List α} {xcs : List Value} {s : Value} {Q : Value → AH → Prop}
theorem mp (h : ac P H) [f : Ts P s α e enc l R] : (s = .slice none 0 0 ∧ l = [] ∧ ac R H) ∨ ∃ b, s = vs b l.length e ∧ ac (blk b (.cells false (l.flatMap enc)) * R) H := by
 have h' : ac (ts e enc s l * R) H := by rw [← f.eq]; exact h
 rcases ul h' with ⟨h1, h2, _, h4⟩ | ⟨b, h1, _, h3⟩
 ·exact .inl ⟨h1, List.eq_nil_of_length_eq_zero h2, h4⟩
 ·exact .inr ⟨b, h1, h3⟩
theorem Ed {b : Nat} [E : Enc enc e] (h : ac (blk b (.cells false (l.flatMap enc)) * R) H) : ac (ts e enc (vs b l.length e) l * R) H := zB (iF E.len l) h
theorem tu {k : Value → OV} (h : ac P H) [f : Ts P s α e enc l R] (hk : wp (k (vi l.length)) Q) : wp (eS s k) Q := by
 rcases mp (f := f) h with ⟨rfl, rfl, _⟩ | ⟨b, rfl, _⟩
 ·exact hk
 ·exact hk
theorem f5 {bytes : Nat} {kk : Value × AH → OV} (x : α) (h : ac P H) [f : Ts P s α e enc l R] [i : Hs R b (.cells ro xcs)] [E : Enc enc e] (hx : xcs = enc x)
 (hr : (l.length + 1) * bytes ≤ room) (hb : 0 < bytes) (hk : ∀ a c H', ac (ts e enc (.slice a (l.length + 1) c) (l ++ [x]) * R) H' → wp (kk (.slice a (l.length + 1) c, H')) Q) : wp ((dS e bytes s (vs b 1 e) H).bind kk) Q := by
 have h' : ac (sl e s l.length (l.flatMap enc) * R) H := by
  have : P = ts e enc s l * R := f.eq;rw [this] at h;exact h
 subst hx;refine aoY (k := 1) (ro := ro) (xcs := enc x) h' (by rw [E.len]; omega) E.pos (by omega) (E.one x) ⟨hr, ?_⟩ fun a c H' h2 => hk a c H' ?_
 ·have : l.length + 1 ≤ (l.length + 1) * bytes := Nat.le_mul_of_pos_right _ hb
  omega
 ·have e1 : (l ++ [x]).length = l.length + 1 := by simp
  have e2 : (l ++ [x]).flatMap enc = l.flatMap enc ++ enc x := by simp
  unfold ts;rw [e1, e2];rw [ft] at h2;exact h2
theorem aqP {k : Value → OV} {i : Nat} {kk : IntKind} (h : ac P H) [f : Ts P s α e enc l R] [E : Enc enc e] (hi : i < l.length) (hk : wp (k (.agg (enc l[i]).toArray)) Q) : wp (ldN e [.i e (.int kk (i : Int))] s H k) Q := by
 rcases mp (f := f) h with ⟨_, rfl, _⟩ | ⟨b, rfl, h'⟩
 ·simp at hi
 ·unfold ldN
  rw [Ta hi bf];have hlen := iF E.len l;have hm : (i + 1) * e ≤ l.length * e := Nat.mul_le_mul_right _ (by omega);rw [Nat.add_mul] at hm;have := Ra (b := b) (cs := l.flatMap enc) (ro := false) (n := e) (o := 0 + i * e) h' (by omega);rw [this, bJ, Nat.zero_add, D0 E.len l i hi];exact hk
theorem aqO {k : Value → OV} {i : Nat} {kk : IntKind} {v : Value} (h : ac P H) [f : Ts P s α 1 enc l R] [E : Enc enc 1] (hi : i < l.length) (hv : enc l[i] = [v]) (hk : wp (k v) Q) : wp (ld [.i 1 (.int kk (i : Int))] s H k) Q := by
 rcases mp (f := f) h with ⟨_, rfl, _⟩ | ⟨b, rfl, h'⟩
 ·simp at hi
 ·unfold ld
  rw [Ta hi bf]
  have := Q9 (b := b) (o := 0 + i * 1) (v := v) h' (by
   have := vC E.len l i hi 0 (by omega);rw [Nat.add_zero] at this
   rw [Nat.zero_add, this, hv]; rfl)
  rw [this];exact hk
theorem JU {n : Nat} {p : List Stp} {k : AH → OV} {i g : Nat} {kk : IntKind} {v : Value} {xs : List Value} (y : α) (h : ac P H) [f : Ts P s α e enc l R] [E : Enc enc e] (hi : i < l.length) (hp : p = [.i e (.int kk (i : Int))] ∧ g = 0 ∨ p = [.i e (.int kk (i : Int)), .f g])
 [c : wO v xs] (hn : xs.length = n) (hg : g + n ≤ e) (hx : xs.all Value.oneCell' = true) (hy : splice (enc l[i]) g xs = enc y) (hk : ∀ H', ac (ts e enc s (l.set i y) * R) H' → wp (k H') Q) : wp (st n p s v H k) Q := by
 rcases mp (f := f) h with ⟨_, rfl, _⟩ | ⟨b, rfl, h'⟩
 ·simp at hi
 ·have hend : Pj p (vs b l.length e) b (i * e + g) := by
   rcases hp with ⟨rfl, rfl⟩ | rfl
   ·intro R' k'
    rw [Ta hi bf];simp
   ·intro R' k'
    rw [Ta hi (aR bf)];simp
  unfold st;have hc := c.eq;subst hc;rw [hend];have hlen := iF E.len l;have hm : (i + 1) * e ≤ l.length * e := Nat.mul_le_mul_right _ (by omega);rw [Nat.add_mul] at hm;rw [aiZ h' (by simpa using hn) (by omega) hx, bJ, BA E.len l i hi g _ (by rw [hn]; exact hg) y hy];refine hk _ ?_;have h2 := h'.set (.cells false ((l.set i y).flatMap enc));have h3 := Ed (e := e) (enc := enc) (l := l.set i y) h2;rw [N6] at h3;exact h3
end
instance : Enc Ev.cells 5 := ⟨fun _ => rfl, fun _ => rfl, by omega⟩
def cr (n : Int) : List Value := [vi n]
instance : Enc cr 1 := ⟨fun _ => rfl, fun _ => rfl, by omega⟩
def aq8 (H : AH) (s : Value) (e n : Nat) (cs : List Value) : Prop :=
 cs.length = n * e ∧ ((∃ a c, s = .slice a 0 c ∧ n = 0 ∧ (a = none → c = 0) ∧ (∀ x, a = some x → ∃ b o, x = ⟨b, o, none⟩)) ∨ ∃ b o ro row, s = .slice (some ⟨b, o, none⟩) n e ∧ H.get b = some (.cells ro row) ∧ o + n * e ≤ row.length ∧ (row.drop o).take (n * e) = cs)
class Rd {α : outParam Type} (P : SP) (s : Value) (e : outParam Nat) (enc : outParam (α → List Value)) (l : outParam (List α)) : Prop where
 rd : ∀ {H : AH}, ac P H → aq8 H s e l.length (l.flatMap enc)
instance Rd.left {α : Type} (P Q : SP) (s : Value) (e : Nat) (enc : α → List Value) (l : List α) [r : Rd P s e enc l] : Rd (P * Q) s e enc l := ⟨fun h => r.rd h.left⟩
instance Rd.right {α : Type} (P Q : SP) (s : Value) (e : Nat) (enc : α → List Value) (l : List α) [r : Rd Q s e enc l] : Rd (P * Q) s e enc l := ⟨fun h => r.rd h.right⟩
instance Rd.own {α : Type} (s : Value) (e : Nat) (enc : α → List Value) (l : List α) : Rd (ts e enc s l) s e enc l := ⟨by
 intro H h
 have h' : ac (ts e enc s l * emp) H := by rw [fA]; exact h
 rcases ul h' with ⟨rfl, h2, h3, _⟩ | ⟨b, rfl, hc, h4⟩
 ·exact ⟨by rw [h3, h2]; simp, .inl ⟨none, 0, rfl, h2, fun _ => rfl, fun x hx => by cases hx⟩⟩
 ·exact ⟨hc, .inr ⟨b, 0, false, _, rfl, h4.left.get, by omega, by rw [List.drop_zero, ← hc, List.take_length]⟩⟩⟩
section
variable {α : Type} {P R : SP} {H : AH} {e n : Nat} {enc : α → List Value} {l m : List α} {s : Value} {Q : Value → AH → Prop}
theorem de {k : Value → OV} (h : ac P H) [r : Rd P s e enc l] (hk : wp (k (vi l.length)) Q) : wp (eS s k) Q := by
 obtain ⟨_, ⟨a, c, rfl, hn, _⟩ | ⟨b, o, ro, row, rfl, _⟩⟩ := r.rd h
 ·rw [hn] at hk; exact hk
 ·exact hk
theorem ap6 {R' : Type} {k : Value → Option R'} (h : ac P H) [r : Rd P s e enc l] : eS s k = k (vi l.length) := by
 obtain ⟨_, ⟨a, c, rfl, hn, _⟩ | ⟨b, o, ro, row, rfl, _⟩⟩ := r.rd h
 ·rw [hn]; rfl
 ·rfl
theorem ii {k : Value → OV} (h : ac P H) [r : Rd P s e enc l] (hk : wp (k (vi l.length)) Q) : wp ((eS s some).bind k) Q := by
 rw [ap6 h]; exact hk
theorem GR (h : ac P H) [r : Rd P s e enc l] [E : Enc enc e] {i : Nat} (hi : i < l.length) : ∃ b o ro row, s = .slice (some ⟨b, o, none⟩) l.length e ∧ H.get b = some (.cells ro row) ∧ o + l.length * e ≤ row.length ∧ (row.drop o).take (l.length * e) = l.flatMap enc := by
 obtain ⟨_, ⟨a, c, rfl, hn, _⟩ | ⟨b, o, ro, row, h1, h2⟩⟩ := r.rd h
 ·omega
 ·exact ⟨b, o, ro, row, h1, h2⟩
theorem VZ [E : Enc enc e] {row : List Value} {o i g : Nat} (h : (row.drop o).take (l.length * e) = l.flatMap enc) (hi : i < l.length) (hg : g < e) : row[o + i * e + g]? = (enc l[i])[g]? := by
 rw [← vC E.len l i hi g hg, ← h];have hm : (i + 1) * e ≤ l.length * e := Nat.mul_le_mul_right _ (by omega);rw [Nat.add_mul] at hm;rw [List.getElem?_take, if_pos (by omega), List.getElem?_drop]
 congr 1; omega
theorem aiA {i g : Nat} {kk : IntKind} {v : Value} (h : ac P H) [r : Rd P s e enc l] [E : Enc enc e] (hi : i < l.length) (hg : g < e) (hv : (enc l[i])[g]? = some v) {R' : Type} {p : List Stp} (hp : p = [.i e (.int kk (i : Int)), .f g] ∨ p = [.i e (.int kk (i : Int))] ∧ g = 0) {k : Value → Option R'} :
 ld p s H k = k v := by
 obtain ⟨b, o, ro, row, rfl, h2, h3, h4⟩ := GR (s := s) (enc := enc) (l := l) h hi
 have hend : ad p (.slice (some ⟨b, o, none⟩) l.length e) = fun k' : Value → Option R' => k' (qL b (o + i * e + g)) := by
  rcases hp with rfl | ⟨rfl, rfl⟩
  ·funext k'; rw [WD hi, arD]; rfl
  ·funext k'; rw [WD hi]; rfl
 unfold ld;rw [hend];show (aq (qL b (o + i * e + g)) H).bind k = k v
 have : aq (qL b (o + i * e + g)) H = some v := by
  simp only [aq, uU, ei, bJ, h2];rw [VZ h4 hi hg, hv]
 rw [this]; rfl
theorem jO {k : Value → OV} {i g : Nat} {kk : IntKind} {v : Value} (h : ac P H) [r : Rd P s e enc l] [E : Enc enc e] (hi : i < l.length) (hg : g < e) (hv : (enc l[i])[g]? = some v) (hk : wp (k v) Q) : wp (ld [.i e (.int kk (i : Int)), .f g] s H k) Q := by
 rw [aiA h hi hg hv (.inl rfl)]; exact hk
theorem eF {k : Value → OV} {i : Nat} {kk : IntKind} {v : Value} {enc : α → List Value} (h : ac P H) [r : Rd P s 1 enc l] [E : Enc enc 1] (hi : i < l.length) (hv : enc l[i] = [v]) (hk : wp (k v) Q) : wp (ld [.i 1 (.int kk (i : Int))] s H k) Q := by
 rw [aiA (g := 0) (v := v) h hi (by omega) (by rw [hv]; rfl) (.inr ⟨rfl, rfl⟩)]; exact hk
theorem Ht {k : Value → OV} {i : Nat} {kk : IntKind} (h : ac P H) [r : Rd P s e enc l] [E : Enc enc e] (hi : i < l.length) (hk : wp (k (.agg (enc l[i]).toArray)) Q) : wp (ldN e [.i e (.int kk (i : Int))] s H k) Q := by
 obtain ⟨b, o, ro, row, rfl, h2, h3, h4⟩ := GR (s := s) (enc := enc) (l := l) h hi;unfold ldN;rw [WD hi];have hm : (i + 1) * e ≤ l.length * e := Nat.mul_le_mul_right _ (by omega);rw [Nat.add_mul] at hm
 have : ax e (qL b (o + i * e)) H = some (.agg (enc l[i]).toArray) := by
  simp only [ax, uU, ei, bJ, h2];rw [if_pos (by omega)]
  congr 3
  rw [← D0 E.len l i hi, ← h4, List.drop_take, List.drop_drop, List.take_take, Nat.min_eq_left (by omega)]
 show wp ((ax e (qL b (o + i * e)) H).bind k) Q;rw [this]; exact hk
theorem aiB {lo hi : Option Value} {a b : Nat} (h : ac P H) [r : Rd P s e enc l] [E : Enc enc e] (hlo : (lo = none ∧ a = 0) ∨ ∃ k, lo = some (.int k (a : Int))) (hhi : (hi = none ∧ b = l.length) ∨ ∃ k, hi = some (.int k (b : Int))) (h1 : a ≤ b) (h2 : b ≤ l.length) (h0 : 0 < l.length) :
 ∃ s', fO e s lo hi = some s' ∧ Rd P s' e enc ((l.take b).drop a) := by
 have hlen : ((l.take b).drop a).length = b - a := by rw [List.length_drop, List.length_take, Nat.min_eq_left h2]
 have hfl : (((l.take b).drop a).flatMap enc).length = (b - a) * e := by rw [iF E.len, hlen]
 have hsub : ((l.take b).drop a).flatMap enc = ((l.flatMap enc).drop (a * e)).take ((b - a) * e) := by
  have e2 : (l.drop a).take (b - a) = (l.take b).drop a := by rw [List.drop_take]
  rw [Y3 E.len, ← e2]
  have gen : ∀ (m : List α) (k : Nat), k ≤ m.length → (m.take k).flatMap enc = (m.flatMap enc).take (k * e) := by
   intro m
   induction m with
   | nil => intro k hk; simp
   | cons x m ih =>
    intro k hk
    cases k with
    | zero => simp
    | succ k =>
     rw [List.take_succ_cons, List.flatMap_cons, List.flatMap_cons, ih k (by simpa using hk), List.take_append, E.len, List.take_of_length_le (l := enc x) (by rw [E.len, Nat.add_mul]; omega)]
     congr 2
     rw [Nat.add_mul, Nat.one_mul, Nat.add_sub_cancel]
  exact gen _ _ (by rw [List.length_drop]; omega)
 obtain ⟨h0, ⟨a0, c, rfl, hn, hc0, ha0⟩ | ⟨b0, o, ro, row, rfl, _⟩⟩ := r.rd h
 ·omega
 ·refine ⟨.slice (some ⟨b0, o + a * e, none⟩) (b - a) e, ?_, ⟨fun {H'} h' => ?_⟩⟩
  ·have hpos := E.pos
   have hab : (0 : Int) ≤ a ∧ (a : Int) ≤ b ∧ (b : Int) ≤ l.length := by omega
   rcases hlo with ⟨rfl, rfl⟩ | ⟨k1, rfl⟩ <;> rcases hhi with ⟨rfl, rfl⟩ | ⟨k2, rfl⟩ <;> simp only [fO, oq, bJ]
   ·rw [if_pos (by omega)]; simp [hpos]
   ·rw [if_pos (by omega)]; simp [hpos]
   ·rw [if_pos (by omega)]; simp [hpos]
   ·rw [if_pos (by omega)]; simp [hpos]
  ·obtain ⟨h0', hr⟩ := r.rd h'
   refine ⟨by rw [hfl, hlen], .inr ?_⟩
   rcases hr with ⟨a1, c1, e1, hn, _, _⟩ | ⟨b1, o1, ro1, row1, e1, g1, g2, g3⟩
   ·omega
   ·obtain ⟨rfl, rfl⟩ : b1 = b0 ∧ o1 = o := by
     have := e1; simp at this; exact ⟨this.1.symm, this.2.symm⟩
    have hm : b * e ≤ l.length * e := Nat.mul_le_mul_right _ h2;have hm2 : a * e ≤ b * e := Nat.mul_le_mul_right _ h1;have hm3 : (b - a) * e = b * e - a * e := Nat.sub_mul ..;rw [hlen];refine ⟨b1, o1 + a * e, ro1, row1, rfl, g1, by omega, ?_⟩;rw [hsub, ← g3, List.drop_take, List.drop_drop, List.take_take, Nat.min_eq_left (by omega)]
end
def fix (H0 : AH) : SP := fun h => h = fun i => H0.get i
theorem Y2 (H0 : AH) : ac (fix H0) H0 := ⟨_, rfl, fun i o h => h⟩
class Fx (P : SP) (H0 : AH) : Prop where
 fx : ∀ {H : AH}, ac P H → ∀ b o, H0.get b = some o → H.get b = some o
instance Fx.refl (H0 : AH) : Fx (fix H0) H0 := ⟨by
 rintro H ⟨x, hx, hg⟩ b o hb
 have hx : x = _ := hx
 exact hg b o (by rw [hx]; exact hb)⟩
instance Fx.left (P Q : SP) (H0 : AH) [f : Fx P H0] : Fx (P * Q) H0 := ⟨fun h => f.fx h.left⟩
instance Fx.right (P Q : SP) (H0 : AH) [f : Fx Q H0] : Fx (P * Q) H0 := ⟨fun h => f.fx h.right⟩
theorem lB.flat {α : Type} {R : α → List Value → Prop} {enc : α → List Value} (hf : ∀ x c, R x c → c = enc x) {l : List α} {row : List Value} (h : lB R l row) : row = l.flatMap enc := by
 induction h with
 | nil => rfl
 | cons h1 _ ih => rw [hf _ _ h1, ih]; rfl
theorem Rd.arg {H0 : AH} {t : Ty} {enc : t.I → List Value} {l : List t.I} {v : Value} [E : Enc enc t.w] (hf : ∀ x c, Abs H0 t x c → c = enc x) (h : Abs H0 (.slice t) l [v]) : Rd (fix H0) v t.w enc l := ⟨fun {H} hH => by
 refine ⟨iF E.len l, ?_⟩
 rcases h with ⟨rfl, e⟩ | ⟨rfl, b, e⟩ | ⟨b, row, h1, e, h3, _⟩
 ·obtain rfl : v = .slice none 0 0 := by simpa using e
  exact .inl ⟨none, 0, rfl, rfl, fun _ => rfl, fun x hx => by cases hx⟩
 ·obtain rfl : v = .slice (some ⟨b, 0, none⟩) 0 0 := by simpa using e
  exact .inl ⟨_, 0, rfl, rfl, (fun h => by cases h), fun x hx => ⟨b, 0, (gD hx).symm⟩⟩
 ·obtain rfl : v = .slice (some ⟨b, 0, none⟩) l.length t.w := by simpa using e
  have hrow := h3.flat hf;refine .inr ⟨b, 0, true, row, rfl, (Fx.refl H0).fx hH b _ h1, ?_, ?_⟩
  ·rw [hrow, iF E.len]; omega
  ·rw [List.drop_zero, hrow, ← iF E.len l, List.take_length]⟩
section
variable {α : Type} {P R : SP} {H : AH} {e : Nat} {enc : α → List Value} {l m : List α} {s x : Value} {Q : Value → AH → Prop}
theorem Hr {bytes : Nat} {kk : Value × AH → OV} (h : ac P H) [f : Ts P s α e enc l R] [rd : Rd R x e enc m] [E : Enc enc e] (hr : (l.length + m.length) * bytes ≤ room) (hb : 0 < bytes)
 (hk : ∀ v H', ac (ts e enc v (l ++ m) * R) H' → wp (kk (v, H')) Q) : wp ((dS e bytes s x H).bind kk) Q := by
 have h' : ac (ts e enc s l * R) H := by rw [← f.eq]; exact h
 obtain ⟨hc, ⟨a, c, rfl, hn, _, hax⟩ | ⟨b, o, ro, row, rfl, hg, hle, hrow⟩⟩ := rd.rd h'.right
 ·have hm : m = [] := List.eq_nil_of_length_eq_zero hn
  subst hm
  have hpr : mf e (.slice a 0 c) H = some (0, []) := by
   cases a with
   | none => simp [mf]
   | some y => obtain ⟨b, o, rfl⟩ := hax y rfl; simp [mf]
  unfold dS;rw [hpr];simp only [bJ];rw [if_pos ⟨rfl, E.pos⟩]
  rcases ul h' with ⟨rfl, h2, h3, h4⟩ | ⟨b', rfl, h2, h4⟩
  ·simp only [and_self, if_true, bJ]
   refine hk _ _ ?_;rw [List.append_nil]; exact h'
  ·simp only [if_true, bJ]
   refine hk _ _ ?_;rw [List.append_nil]; exact h'
 ·by_cases hm0 : m.length = 0
  ·have hm : m = [] := List.eq_nil_of_length_eq_zero hm0
   subst hm;unfold dS
   have hpr : mf e (.slice (some ⟨b, o, none⟩) ([] : List α).length e) H = some (0, []) := by simp [mf]
   rw [hpr];simp only [bJ];rw [if_pos ⟨rfl, E.pos⟩]
   rcases ul h' with ⟨rfl, h2, h3, h4⟩ | ⟨b', rfl, h2, h4⟩
   ·simp only [and_self, if_true, bJ]
    refine hk _ _ ?_;rw [List.append_nil]; exact h'
   ·simp only [if_true, bJ]
    refine hk _ _ ?_;rw [List.append_nil]; exact h'
  ·have hpr : mf e (.slice (some ⟨b, o, none⟩) m.length e) H = some (m.length, m.flatMap enc) := by
    simp only [mf, ei, hg, bJ];rw [if_neg hm0, if_pos hle, hrow]
   have hall : (m.flatMap enc).all Value.oneCell' = true := by
    rw [List.all_eq_true];intro y hy;obtain ⟨z, _, hz⟩ := List.mem_flatMap.1 hy;exact List.all_eq_true.1 (E.one z) y hz
   have hroom : l.length + m.length ≤ (l.length + m.length) * bytes := Nat.le_mul_of_pos_right _ hb;unfold dS;rw [hpr];simp only [bJ];rw [if_pos ⟨hall, E.pos⟩]
   have e1 : (l ++ m).length = l.length + m.length := by simp
   have e2 : (l ++ m).flatMap enc = l.flatMap enc ++ m.flatMap enc := by simp
   have hmul : (l.length + m.length) * e = l.length * e + m.length * e := Nat.add_mul ..
   rcases ul h' with ⟨rfl, h2, h3, h4⟩ | ⟨b', rfl, h2, h4⟩
   ·simp only [and_self, if_true]
    rw [h2, Nat.zero_add] at hr hroom;rw [if_neg hm0, if_pos ⟨hr, by omega⟩];simp only [bJ];refine hk _ _ ?_;unfold ts;rw [e1, e2, h3, h2, List.nil_append, Nat.zero_add];exact zB hc (h4.push _)
   ·have hgb := h4.left.get
    have hpos := E.pos;simp only;rw [if_neg hm0, if_neg (by omega), hgb];simp only;rw [if_pos ⟨trivial, by omega, hr, by omega⟩];simp only [bJ, List.drop_zero];rw [← h2, List.take_length];have h5 := h4.dead.push (.cells false (l.flatMap enc ++ m.flatMap enc));rw [AH.size_set] at h5;refine hk _ _ ?_;unfold ts;rw [e1, e2];exact zB (by rw [qr, h2, hc]; omega) h5
theorem G0 {z : α} {zero : List Value} (hz : enc z = zero) : ∀ n : Nat, (List.replicate n zero).flatten = (List.replicate n z).flatMap enc := by
 intro n
 induction n with
 | zero => rfl
 | succ n ih => rw [List.replicate_succ, List.replicate_succ, List.flatten_cons, List.flatMap_cons, ih, hz]
theorem MT {zero : List Value} {bytes n : Nat} {kk : Value × AH → OV} (z : α) (h : ac P H) [E : Enc enc e] (hz : enc z = zero) (hr : n * bytes ≤ room) (hb : 0 < bytes) (hk : ∀ b H', ac (ts e enc (vs b n e) (List.replicate n z) * P) H' → wp (kk (vs b n e, H')) Q) :
 wp ((nz zero e bytes (vi n) (vi n) H).bind kk) Q := by
 have hroom : n ≤ n * bytes := Nat.le_mul_of_pos_right _ hb
 have hz2 : zero.length = e := by rw [← hz, E.len]
 unfold nz;simp only [xS];rw [if_pos ⟨by omega, trivial, hr, by omega, E.pos, hz2⟩];simp only [bJ];refine hk _ _ ?_;have h2 := h.push (.cells false (List.replicate n zero).flatten);rw [G0 hz] at h2 ⊢;have h3 := Ed (e := e) (enc := enc) (l := List.replicate n z) h2;rw [List.length_replicate] at h3;exact h3
end
class KeyE {κ : Type} [DecidableEq κ] (cl : outParam KCls) (ek : κ → Value) : Prop where
 eq : ∀ a b, lh cl (ek a) (ek b) = some (decide (a = b))
 ok : ∀ a, i8 cl (ek a) = true
inductive Ents {κ : Type} (ek : κ → Value) : List (κ × Value) → List MapEntry → Prop
 | nil : Ents ek [] []
 | cons {p : κ × Value} {l : List (κ × Value)} {e : MapEntry} {es : List MapEntry} (h1 : e.key = ek p.1) (h2 : e.val = p.2) (k : Ents ek l es) : Ents ek (p :: l) (e :: es)
section
variable {κ : Type} [DecidableEq κ] {ek : κ → Value} {cl : KCls}
def L3 : List (κ × Value) → κ → Option Value
 | [], _ => none
 | p :: al, k => if k = p.1 then some p.2 else L3 al k
def L4 : List (κ × Value) → κ → Value → List (κ × Value)
 | [], k, v => [(k, v)]
 | p :: al, k, v => if k = p.1 then (k, v) :: al else p :: L4 al k v
theorem agQ (k : κ) (v : Value) (x : κ) : ∀ al, L3 (L4 al k v) x = if x = k then some v else L3 al x := by
 intro al
 induction al with
 | nil => simp only [L4, L3]
 | cons p al ih =>
  simp only [L4]
  by_cases hk : k = p.1
  ·rw [if_pos hk]
   simp only [L3]
   by_cases hx : x = k
   ·simp [hx]
   ·have : ¬ x = p.1 := by rw [← hk]; exact hx
    simp [hx, this]
  ·rw [if_neg hk]
   simp only [L3, ih]
   by_cases hx : x = p.1
   ·have : ¬ x = k := by rw [hx]; exact fun h => hk h.symm
    simp [hx];intro h; exact absurd h.symm hk
   ·simp [hx]
theorem apU [K : KeyE cl ek] {al : List (κ × Value)} {es : List MapEntry} (h : Ents ek al es) (k : κ) : ∀ i, ∃ r, bu cl (ek k) es i = some r ∧ r.map (·.2) = L3 al k := by
 induction h with
 | nil => intro i; exact ⟨none, rfl, rfl⟩
 | @cons p l e es h1 h2 _ ih =>
  intro i;simp only [bu, h1, K.eq, bJ, L3]
  by_cases hp : k = p.1
  ·rw [if_pos (by simp [hp]), if_pos hp]
   exact ⟨_, rfl, by simp [h2]⟩
  ·rw [if_neg (by simp [hp]), if_neg hp]
   exact ih (i + 1)
theorem arN [K : KeyE cl ek] {al : List (κ × Value)} {es : List MapEntry} (h : Ents ek al es) (k : κ) (v : Value) : ∀ i, match bu cl (ek k) es i with
 | some (some (j, _)) => i ≤ j ∧ Ents ek (L4 al k v) (es.modify (j - i) fun e => { e with key := ek k, val := v })
 | some none => ∀ born, Ents ek (L4 al k v) (es ++ [{ key := ek k, val := v, born := born }])
 | none => False := by
 induction h with
 | nil => intro i born; exact .cons rfl rfl .nil
 | @cons p l e es h1 h2 hh ih =>
  intro i;simp only [bu, h1, K.eq, bJ, L4]
  by_cases hp : k = p.1
  ·rw [if_pos (show decide (k = p.1) = true by simp [hp]), if_pos hp]
   refine ⟨bv _, ?_⟩;simp only [Nat.sub_self];exact .cons rfl rfl hh
  ·rw [if_neg (show ¬ decide (k = p.1) = true by simp [hp]), if_neg hp]
   have hi := ih (i + 1)
   cases hf : bu cl (ek k) es (i + 1) with
   | none => rw [hf] at hi; exact hi
   | some r =>
    rw [hf] at hi
    cases r with
    | none => intro born; exact .cons h1 h2 (hi born)
    | some r =>
     obtain ⟨j, v'⟩ := r;simp only at hi ⊢;refine ⟨by omega, ?_⟩;rw [show j - i = (j - (i + 1)) + 1 from by omega];exact .cons h1 h2 hi.2
def mpS (ek : κ → Value) (b : Nat) (f : κ → Option Value) : SP := ex fun g : List (κ × Value) × List MapEntry × Nat => pu (Ents ek g.1 g.2.1 ∧ ∀ k, L3 g.1 k = f k) * blk b (.map g.2.1 g.2.2)
class Mp (P : SP) (b : Nat) {κ : Type} [DecidableEq κ] (ek : κ → Value) (f : outParam (κ → Option Value)) (R : outParam SP) : Prop where
 eq : P = mpS ek b f * R
instance (priority := high) Mp.refl {κ : Type} [DecidableEq κ] (b : Nat) (ek : κ → Value) (f : κ → Option Value) : Mp (mpS ek b f) b ek f emp := ⟨(fA _).symm⟩
instance Mp.left {κ : Type} [DecidableEq κ] (P Q R : SP) (b : Nat) (ek : κ → Value) (f : κ → Option Value) [h : Mp P b ek f R] : Mp (P * Q) b ek f (R * Q) := ⟨by rw [h.eq, ai]⟩
instance Mp.right {κ : Type} [DecidableEq κ] (P Q R : SP) (b : Nat) (ek : κ → Value) (f : κ → Option Value) [h : Mp Q b ek f R] : Mp (P * Q) b ek f (P * R) := ⟨by rw [h.eq, ci]⟩
theorem Vy {R : SP} {H : AH} {b : Nat} (ek : κ → Value) (h : ac (blk b (.map [] 0) * R) H) : ac (mpS ek b (fun _ => none) * R) H :=
 ac.ex.2 ⟨([], [], 0), by rw [ai]; exact ac.pu.2 ⟨⟨.nil, fun _ => rfl⟩, h⟩⟩
theorem Wp {P R : SP} {H : AH} {b : Nat} {f : κ → Option Value} {zero : Value} {kk : Value → OV} {Q : Value → AH → Prop} [K : KeyE cl ek] (k : κ) (h : ac P H) [m : Mp P b ek f R]
 (hk : wp (kk ((f k).getD zero)) Q) : wp ((cZ cl zero (.map (some b)) (ek k) false H).bind kk) Q := by
 have h' : ac (mpS ek b f * R) H := by rw [← m.eq]; exact h
 obtain ⟨⟨al, es, c⟩, h'⟩ := ac.ex.1 h';rw [ai, ac.pu] at h';obtain ⟨⟨he, hf⟩, h'⟩ := h';dsimp only at he hf h';obtain ⟨r, h1, h2⟩ := apU he k 0;refine aa ?_ hk;unfold cZ;rw [if_pos (K.ok k)];simp only [ks, h'.left.get, bJ, h1, fp];rw [← hf k, ← h2]
 cases r <;> rfl
theorem ajR {P R : SP} {H : AH} {b : Nat} {f : κ → Option Value} {kk : AH → OV} {Q : Value → AH → Prop} [K : KeyE cl ek] (k : κ) (v : Value) (h : ac P H) [m : Mp P b ek f R]
 (hk : ∀ H', ac (mpS ek b (fun x => if x = k then some v else f x) * R) H' → wp (kk H') Q) : wp ((e8 cl (.map (some b)) (ek k) v H).bind kk) Q := by
 have h' : ac (mpS ek b f * R) H := by rw [← m.eq]; exact h
 obtain ⟨⟨al, es, c⟩, h'⟩ := ac.ex.1 h';rw [ai, ac.pu] at h';obtain ⟨⟨he, hf⟩, h'⟩ := h';dsimp only at he hf h';have hu := arN he k v 0;unfold e8;rw [if_pos (K.ok k)];simp only [h'.left.get]
 have fin : ∀ {es' : List MapEntry} {c' : Nat}, Ents ek (L4 al k v) es' → ac (mpS ek b (fun x => if x = k then some v else f x) * R) (H.set b (.map es' c')) := fun {es'} {c'} he' =>
  ac.ex.2 ⟨(L4 al k v, es', c'), by
   rw [ai]
   exact ac.pu.2 ⟨⟨he', fun x => by rw [agQ, hf]⟩, h'.set _⟩⟩
 cases hf' : bu cl (ek k) es 0 with
 | none => rw [hf'] at hu; exact absurd hu id
 | some r =>
  rw [hf'] at hu
  cases r with
  | none =>
   simp only [fp, bJ];exact hk _ (fin (hu c))
  | some r =>
   obtain ⟨j, v'⟩ := r;simp only [fp, bJ];exact hk _ (fin hu.2)
end
section
variable {cl : TCls} {w : Nat}
theorem aoP : aj cl .shr (vu w) (vw 61) = some (vu (w / 2305843009213693952)) := by
 have := IH (cl := cl) (a := w) (k := .u64) (n := 61) (by omega)
 simpa using this
theorem arZ : aj cl .shr (vu w) (vw 32) = some (vu (w / 4294967296)) := by
 have := IH (cl := cl) (a := w) (k := .u64) (n := 32) (by omega)
 simpa using this
theorem SL (k : Nat) (hw : w < 18446744073709551616) (hk : 2 ^ k - 1 < 18446744073709551616) : aj cl .and (vu w) (.int .u64 ((2 ^ k - 1 : Nat) : Int)) = some (vu (w % 2 ^ k)) := by
 have := akS (cl := cl) hw hk;rw [Nat.and_two_pow_sub_one_eq_mod] at this;exact this
theorem arF (hw : w < 18446744073709551616) : aj cl .and (vu w) (vw 2305843009213693951) = some (vu (w % 2305843009213693952)) := by
 have := SL (cl := cl) 61 hw (by omega)
 simpa using this
theorem arE (hw : w < 18446744073709551616) : aj cl .and (vu w) (vw 4294967295) = some (vu (w % 4294967296)) := by
 have := SL (cl := cl) 32 hw (by omega)
 simpa using this
theorem JB (n : Nat) (h : n ≠ 0) : aj cl .rem (vu w) (.int .u64 (n : Int)) = some (vu (w % n)) := j0 h
theorem aoM (n : Nat) (h : n ≠ 0) (hw : w < 18446744073709551616) : aj cl .quo (vu w) (.int .u64 (n : Int)) = some (vu (w / n)) := zQ h hw
theorem aoI (n : Nat) : aj cl .mul (vu w) (.int .u64 (n : Int)) = some (vu (w * n % 18446744073709551616)) := WN
theorem arQ (h : w * 2305843009213693952 < 18446744073709551616) : aj cl .mul (vu w) (vw 2305843009213693952) = some (vu (w * 2305843009213693952)) := by
 have := aoI (cl := cl) (w := w) 2305843009213693952;rw [Nat.mod_eq_of_lt h] at this
 simpa using this
theorem arP : aj cl .mul (vu w) (vw 4294967296) = some (vu (w * 4294967296 % 18446744073709551616)) := by
 have := aoI (cl := cl) (w := w) 4294967296
 simpa using this
theorem arV : aj cl .rem (vu w) (vw 2305843009213693952) = some (vu (w % 2305843009213693952)) := by
 have := JB (cl := cl) (w := w) 2305843009213693952 (by omega)
 simpa using this
theorem arT (hw : w < 18446744073709551616) : aj cl .quo (vu w) (vw 2305843009213693952) = some (vu (w / 2305843009213693952)) := by
 have := aoM (cl := cl) (w := w) 2305843009213693952 (by omega) hw
 simpa using this
theorem arU : aj cl .rem (vu w) (vw 4294967296) = some (vu (w % 4294967296)) := by
 have := JB (cl := cl) (w := w) 4294967296 (by omega)
 simpa using this
theorem arS (hw : w < 18446744073709551616) : aj cl .quo (vu w) (vw 4294967296) = some (vu (w / 4294967296)) := by
 have := aoM (cl := cl) (w := w) 4294967296 (by omega) hw
 simpa using this
theorem ji {w : Nat} (hw : w < 9223372036854775808) : cL (some .i64) (vu w) = some (vi (w : Int)) := by
 simp only [cL];rw [pY (by omega) (by omega)]
theorem ej {n : Int} (h0 : 0 ≤ n) (h1 : n < 18446744073709551616) : cL (some .u64) (vi n) = some (vu n.toNat) := by
 simp only [cL];rw [mL h0 h1];show _ = some (Value.int .u64 ((n.toNat : Nat) : Int));rw [Int.toNat_of_nonneg h0]
end
theorem aoK {cl : TCls} {a b : Nat} : aj cl .neq (vu a) (vu b) = some (vb (a != b)) := by
 rw [tI]
 congr 2
 rw [Bool.eq_iff_iff];simp;omega
theorem an5 {cl : TCls} {a b : Nat} : aj cl .eql (vu a) (vu b) = some (vb (a == b)) := by
 rw [fq]
 congr 2
 rw [Bool.eq_iff_iff];simp;omega
theorem an3 {cl : TCls} {a b : Nat} : aj cl .add (vu a) (vu b) = some (vu ((a + b) % 18446744073709551616)) := by
 simp only [aj, nP, if_true];rw [Hv];simp
theorem acI (a b : cA) : aj (.flat 3) .eql (.agg #[vi a.1, vi a.2.1, vi a.2.2]) (.agg #[vi b.1, vi b.2.1, vi b.2.2]) = some (vb (a == b)) := by
 show (qy (.flat 3) (.agg #[vi a.1, vi a.2.1, vi a.2.2]) (.agg #[vi b.1, vi b.2.1, vi b.2.2])).map (fun b => Value.bool b) = _;simp only [qy];rw [if_pos ⟨rfl, rfl⟩];simp only [bM, if_true, fp, Bool.and_true]
 rfl
theorem tH {cl : TCls} {a b : Int} (h0 : -9223372036854775808 ≤ a * b) (h1 : a * b < 9223372036854775808) : aj cl .mul (vi a) (vi b) = some (vi (a * b)) := by simp only [aj, nP, if_true, pY h0 h1]
section
variable {cl : TCls} {k : IntKind} {a b : Int}
theorem cE (h : a < b) : aj cl .lss (.int k a) (.int k b) = some (vb true) := by rw [tG, eu h]
theorem bP (h : ¬ a < b) : aj cl .lss (.int k a) (.int k b) = some (vb false) := by rw [tG, d4 h]
theorem Vu (h : a ≤ b) : aj cl .leq (.int k a) (.int k b) = some (vb true) := by rw [SY, eu h]
theorem Vt (h : ¬ a ≤ b) : aj cl .leq (.int k a) (.int k b) = some (vb false) := by rw [SY, d4 h]
theorem pA (h : b < a) : aj cl .gtr (.int k a) (.int k b) = some (vb true) := by rw [J3, eu h]
theorem fV (h : ¬ b < a) : aj cl .gtr (.int k a) (.int k b) = some (vb false) := by rw [J3, d4 h]
theorem jV (h : b ≤ a) : aj cl .geq (.int k a) (.int k b) = some (vb true) := by rw [tF, eu h]
theorem il (h : ¬ b ≤ a) : aj cl .geq (.int k a) (.int k b) = some (vb false) := by rw [tF, d4 h]
theorem bg (h : a = b) : aj cl .eql (.int k a) (.int k b) = some (vb true) := by rw [fq, beq_iff_eq.2 h]
theorem aE (h : ¬ a = b) : aj cl .eql (.int k a) (.int k b) = some (vb false) := by rw [fq, beq_eq_false_iff_ne.2 h]
theorem Jm (h : ¬ a = b) : aj cl .neq (.int k a) (.int k b) = some (vb true) := by rw [tI, bne_iff_ne.2 h]
theorem BJ (h : a = b) : aj cl .neq (.int k a) (.int k b) = some (vb false) := by
 rw [tI];simp [h]
end
theorem HS {c : Bool} {e : Option Value} {v : Value} (h : e = some v) : gB (vb c) c e = some v := by
 cases c <;> (rw [h]; rfl)
theorem aoC {v : Value} : gV (vb true) true v = some v := rfl
theorem an9 {v : Value} : gV (vb false) false v = some v := rfl
theorem aoB {v : Value} : gV (vb true) false v = some undef := rfl
theorem aoA {v : Value} : gV (vb false) true v = some undef := rfl
theorem an8 {e : Option Value} : gB (vb true) false e = some undef := rfl
theorem an7 {e : Option Value} : gB (vb false) true e = some undef := rfl
section
variable {H : AH} {e : Option (Value × AH)} {k : Value × AH → OV} {Q : Value → AH → Prop} {x : Option Value} {kv : Value → OV}
theorem Wl (h : wp (e.bind k) Q) : wp ((gE (vb true) true H e).bind k) Q := h
theorem Wh (h : wp (e.bind k) Q) : wp ((gE (vb false) false H e).bind k) Q := h
theorem Wj (h : wp (k (undef, H)) Q) : wp ((gE (vb true) false H e).bind k) Q := h
theorem Wi (h : wp (k (undef, H)) Q) : wp ((gE (vb false) true H e).bind k) Q := h
theorem Pa (h : wp (x.bind kv) Q) : wp ((zM (yv (vb true)) true x (some undef)).bind kv) Q := h
theorem O7 (h : wp (x.bind kv) Q) : wp ((zM (yv (vb false)) false x (some undef)).bind kv) Q := h
theorem O9 (h : wp (kv undef) Q) : wp ((zM (yv (vb true)) false x (some undef)).bind kv) Q := h
theorem O8 (h : wp (kv undef) Q) : wp ((zM (yv (vb false)) true x (some undef)).bind kv) Q := h
end
theorem NW (c : Bool) (e : Option Value) : gB (vb c) c e = e := by cases c <;> cases e <;> rfl
theorem Q5 {R : Type} (c : Bool) (k : Value → Option R) : ∀ (p : List Stp) (x : Value), LQ (vb c) c p x k = ad p x k := by
 intro p
 induction p with
 | nil => intro x; rfl
 | cons s p ih => intro x; cases s <;> simp only [LQ, ad, NW, ih]
theorem Vn {R : Type} (c : Bool) (k : Value → Option R) (hk : ∀ x, k x = k undef) : ∀ (p : List Stp) (x : Value), LQ (vb c) (!c) p x k = k undef := by
 intro p
 induction p with
 | nil => intro x; exact hk x
 | cons s p ih => intro x; cases c <;> cases s <;> exact ih undef
section
variable {H : AH} {p : List Stp} {x : Value} {k : Value → OV} {Q : Value → AH → Prop} {n : Nat}
theorem agE {R : Type} (c : Bool) (k : Value → Option R) : fc (vb c) c p x H k = ld p x H k := by simp only [fc, ld, Q5, NW]
theorem Vp {R : Type} (c : Bool) (k : Value → Option R) : pz (vb c) c n p x H k = ldN n p x H k := by simp only [pz, ldN, Q5, NW]
theorem Vq {R : Type} (c : Bool) (k : Value → Option R) : fc (vb c) (!c) p x H k = k undef := by
 unfold fc
 rw [Vn c _ (fun x => by cases c <;> rfl)]
 cases c <;> rfl
theorem NX {R : Type} (c : Bool) (k : Value → Option R) : pz (vb c) (!c) n p x H k = k undef := by
 unfold pz
 rw [Vn c _ (fun x => by cases c <;> rfl)]
 cases c <;> rfl
theorem ajP (h : wp (ld p x H k) Q) : wp (fc (vb true) true p x H k) Q := by rw [agE]; exact h
theorem ajM (h : wp (ld p x H k) Q) : wp (fc (vb false) false p x H k) Q := by rw [agE]; exact h
theorem ajO (h : wp (k undef) Q) : wp (fc (vb true) false p x H k) Q := by rw [show (false : Bool) = !true from rfl, Vq]; exact h
theorem ajN (h : wp (k undef) Q) : wp (fc (vb false) true p x H k) Q := by rw [show fc (vb false) true p x H k = fc (vb false) (!false) p x H k from rfl, Vq]; exact h
theorem aaP (h : wp (ldN n p x H k) Q) : wp (pz (vb true) true n p x H k) Q := by rw [Vp]; exact h
theorem aaM (h : wp (ldN n p x H k) Q) : wp (pz (vb false) false n p x H k) Q := by rw [Vp]; exact h
theorem aaO (h : wp (k undef) Q) : wp (pz (vb true) false n p x H k) Q := by rw [show pz (vb true) false n p x H k = pz (vb true) (!true) n p x H k from rfl, NX]; exact h
theorem aaN (h : wp (k undef) Q) : wp (pz (vb false) true n p x H k) Q := by rw [show pz (vb false) true n p x H k = pz (vb false) (!false) n p x H k from rfl, NX]; exact h
theorem mq {e : Option Value} (h : wp (e.bind k) Q) : wp ((gB (vb true) true e).bind k) Q := by rw [NW]; exact h
theorem anJ {e : Option Value} (h : wp (e.bind k) Q) : wp ((gB (vb false) false e).bind k) Q := by rw [NW]; exact h
theorem ajL {a b : OV} (h : wp a Q) : wp (av (vb true) a b) Q := h
theorem ajK {a b : OV} (h : wp b Q) : wp (av (vb false) a b) Q := h
end
theorem asL {b : Bool} {v : Value} : gV undef b v = some undef := rfl
theorem asK {b : Bool} {e : Option Value} : gB undef b e = some undef := rfl
theorem arL {R : Type} (b : Bool) (k : Value → Option R) (hk : ∀ x, k x = k undef) : ∀ (p : List Stp) (x : Value), LQ undef b p x k = k undef := by
 intro p
 induction p with
 | nil => intro x; exact hk x
 | cons s p ih => intro x; cases s <;> exact ih undef
theorem arM {R : Type} {b : Bool} {p : List Stp} {x : Value} {H : AH} (k : Value → Option R) : fc undef b p x H k = k undef := by
 unfold fc;rw [arL b _ (fun x => rfl)]
 rfl
theorem anK {b : Bool} {p : List Stp} {x : Value} {H : AH} {k : Value → OV} {Q : Value → AH → Prop} (h : wp (k undef) Q) : wp (fc undef b p x H k) Q := by rw [arM]; exact h
class Gd (x : OV) (y : outParam OV) : Prop where
 go : ∀ {Q : Value → AH → Prop}, wp y Q → wp x Q
section
variable {a b v : Value} {k : Value → OV} {H : AH} {e : Option (Value × AH)} {e1 : Option Value} {ke : Value × AH → OV} {p : List Stp} {x : Value} {n : Nat} {c : Bool} {o1 o2 : OV}
instance : Gd ((aK (vb true) a b).bind k) (k a) := ⟨aa (ahP _ _)⟩
instance : Gd ((aK (vb false) a b).bind k) (k b) := ⟨aa (ahO _ _)⟩
instance : Gd ((gV (vb true) true v).bind k) (k v) := ⟨aa aoC⟩
instance : Gd ((gV (vb false) false v).bind k) (k v) := ⟨aa an9⟩
instance : Gd ((gV (vb true) false v).bind k) (k undef) := ⟨aa aoB⟩
instance : Gd ((gV (vb false) true v).bind k) (k undef) := ⟨aa aoA⟩
instance : Gd ((gB (vb true) false e1).bind k) (k undef) := ⟨aa an8⟩
instance : Gd ((gB (vb false) true e1).bind k) (k undef) := ⟨aa an7⟩
instance : Gd ((gE (vb true) false H e).bind ke) (ke (undef, H)) := ⟨Wj⟩
instance : Gd ((gE (vb false) true H e).bind ke) (ke (undef, H)) := ⟨Wi⟩
instance : Gd ((gE (vb true) true H e).bind ke) (e.bind ke) := ⟨Wl⟩
instance : Gd ((gE (vb false) false H e).bind ke) (e.bind ke) := ⟨Wh⟩
instance : Gd ((zM (yv (vb true)) false e1 (some undef)).bind k) (k undef) := ⟨O9⟩
instance : Gd ((zM (yv (vb false)) true e1 (some undef)).bind k) (k undef) := ⟨O8⟩
instance : Gd ((zM (yv (vb true)) true e1 (some undef)).bind k) (e1.bind k) := ⟨Pa⟩
instance : Gd ((zM (yv (vb false)) false e1 (some undef)).bind k) (e1.bind k) := ⟨O7⟩
instance : Gd (fc (vb true) true p x H k) (ld p x H k) := ⟨ajP⟩
instance : Gd (fc (vb false) false p x H k) (ld p x H k) := ⟨ajM⟩
instance : Gd (fc (vb true) false p x H k) (k undef) := ⟨ajO⟩
instance : Gd (fc (vb false) true p x H k) (k undef) := ⟨ajN⟩
instance : Gd (pz (vb true) true n p x H k) (ldN n p x H k) := ⟨aaP⟩
instance : Gd (pz (vb false) false n p x H k) (ldN n p x H k) := ⟨aaM⟩
instance : Gd (pz (vb true) false n p x H k) (k undef) := ⟨aaO⟩
instance : Gd (pz (vb false) true n p x H k) (k undef) := ⟨aaN⟩
instance : Gd ((gB (vb true) true e1).bind k) (e1.bind k) := ⟨mq⟩
instance : Gd ((gB (vb false) false e1).bind k) (e1.bind k) := ⟨anJ⟩
instance : Gd ((pM .not (vb c)).bind k) (k (vb (!c))) := ⟨aa Hq⟩
instance : Gd (av (vb true) o1 o2) o1 := ⟨ajL⟩
instance : Gd (av (vb false) o1 o2) o2 := ⟨ajK⟩
instance : Gd ((gV undef c v).bind k) (k undef) := ⟨aa asL⟩
instance : Gd ((gB undef c e1).bind k) (k undef) := ⟨aa asK⟩
instance : Gd (fc undef c p x H k) (k undef) := ⟨anK⟩
class Gh (x : OV) (y : outParam OV) : Prop where
 go : ∀ {Q : Value → AH → Prop}, wp y Q → wp x Q
instance : Gh ((aK (vb true) a b).bind k) (k a) := ⟨aa (ahP _ _)⟩
instance : Gh ((aK (vb false) a b).bind k) (k b) := ⟨aa (ahO _ _)⟩
instance : Gh ((gV (vb true) true v).bind k) (k v) := ⟨aa aoC⟩
instance : Gh ((gV (vb false) false v).bind k) (k v) := ⟨aa an9⟩
instance : Gh ((gV (vb true) false v).bind k) (k undef) := ⟨aa aoB⟩
instance : Gh ((gV (vb false) true v).bind k) (k undef) := ⟨aa aoA⟩
instance : Gh ((gB (vb true) false e1).bind k) (k undef) := ⟨aa an8⟩
instance : Gh ((gB (vb false) true e1).bind k) (k undef) := ⟨aa an7⟩
instance : Gh ((gE (vb true) false H e).bind ke) (ke (undef, H)) := ⟨Wj⟩
instance : Gh ((gE (vb false) true H e).bind ke) (ke (undef, H)) := ⟨Wi⟩
instance : Gh ((gE (vb true) true H e).bind ke) (e.bind ke) := ⟨Wl⟩
instance : Gh ((gE (vb false) false H e).bind ke) (e.bind ke) := ⟨Wh⟩
instance : Gh ((zM (yv (vb true)) false e1 (some undef)).bind k) (k undef) := ⟨O9⟩
instance : Gh ((zM (yv (vb false)) true e1 (some undef)).bind k) (k undef) := ⟨O8⟩
instance : Gh ((zM (yv (vb true)) true e1 (some undef)).bind k) (e1.bind k) := ⟨Pa⟩
instance : Gh ((zM (yv (vb false)) false e1 (some undef)).bind k) (e1.bind k) := ⟨O7⟩
end
class Gs (x : OV) (y : outParam OV) : Prop where
 go : ∀ {Q : Value → AH → Prop}, wp y Q → wp x Q
class Gt (x : OV) (y : outParam OV) : Prop where
 go : ∀ {Q : Value → AH → Prop}, wp y Q → wp x Q
instance (priority := low) {x : OV} : Gs x x := ⟨id⟩
instance (priority := low) {x : OV} : Gt x x := ⟨id⟩
instance {x y z : OV} [g : Gd x y] [h : Gs y z] : Gs x z := ⟨fun q => g.go (h.go q)⟩
instance {x y z : OV} [g : Gh x y] [h : Gt y z] : Gt x z := ⟨fun q => g.go (h.go q)⟩
theorem gs {x y : OV} [g : Gs x y] {Q : Value → AH → Prop} (h : wp y Q) : wp x Q := g.go h
theorem gt {x y : OV} [g : Gt x y] {Q : Value → AH → Prop} (h : wp y Q) : wp x Q := g.go h
structure Mu where
 V : cA → Nat
 E : List Ev
 N : Nat
abbrev Mu.log (μ : Mu) (who kind : Int) (at' : cA) : Mu := { μ with E := μ.E ++ [⟨who, kind, at'⟩], N := μ.N + 1 }
abbrev Mu.put (μ : Mu) (at' : cA) (v : Nat) : Mu := { μ with V := fun l => if l = at' then v else μ.V l }
def f8 (al : List (cA × Nat)) (l : cA) : Nat := ((al.find? fun p => p.1 == l).map (·.2)).getD 0
def arJ (p : cA × Nat) (e : MapEntry) : Prop := e.key = eO p.1 ∧ e.val = .agg #[vu p.2]
inductive EntsOf : List (cA × Nat) → List MapEntry → Prop
 | nil : EntsOf [] []
 | cons {p : cA × Nat} {l : List (cA × Nat)} {e : MapEntry} {es : List MapEntry} (h : arJ p e) (k : EntsOf l es) : EntsOf (p :: l) (e :: es)
theorem Jg (a b : cA) : lh (.flat 3) (eO a) (eO b) = some (a == b) := by
 simp only [lh, eO];rw [if_pos ⟨rfl, rfl⟩];simp only [bM, if_true, fp, Bool.and_true]
 rfl
theorem YZ {al : List (cA × Nat)} {es : List MapEntry} (h : EntsOf al es) (l : cA) : ∀ i, ∃ r, bu (.flat 3) (eO l) es i = some r ∧ (match r with
 | some (j, v) => v = .agg #[vu (f8 al l)] ∧ i ≤ j ∧ (∃ p, al[j - i]? = some p ∧ p.1 = l) ∧ ∀ q, q < j - i → ∀ p, al[q]? = some p → p.1 ≠ l
 | none => f8 al l = 0 ∧ ∀ p ∈ al, p.1 ≠ l) := by
 induction h with
 | nil => intro i; exact ⟨none, rfl, rfl, by simp⟩
 | @cons p al e es h k ih =>
  intro i;simp only [bu];rw [h.1, Jg];simp only [bJ]
  by_cases hp : p.1 = l
  ·have e1 : (l == p.1) = true := by simp [hp]
   rw [if_pos e1];refine ⟨_, rfl, ?_, bv _, ⟨p, by simp, hp⟩, fun q hq => by omega⟩;rw [h.2];simp [f8, hp]
  ·have e1 : ¬ ((l == p.1) = true) := by simp; exact fun h => hp h.symm
   rw [if_neg e1];obtain ⟨r, h1, h2⟩ := ih (i + 1)
   have hg : f8 (p :: al) l = f8 al l := by simp [f8, hp]
   refine ⟨r, h1, ?_⟩
   cases r with
   | none =>
    simp only at h2 ⊢;rw [hg]
    exact ⟨h2.1, fun q hq => by
     rcases List.mem_cons.1 hq with rfl | hq
     ·exact hp
     ·exact h2.2 q hq⟩
   | some r =>
    obtain ⟨j, v⟩ := r;simp only at h2 ⊢;rw [hg];obtain ⟨a1, a2, ⟨p', a3, a4⟩, a5⟩ := h2;refine ⟨a1, by omega, ⟨p', ?_, a4⟩, fun q hq p'' hp'' => ?_⟩
    ·rw [show j - i = (j - (i + 1)) + 1 from by omega]; exact a3
    ·cases q with
     | zero => simp at hp''; rw [← hp'']; exact hp
     | succ q => exact a5 q (by omega) p'' (by simpa using hp'')
def nS : List (cA × Nat) → cA → Nat → List (cA × Nat)
 | [], l, v => [(l, v)]
 | p :: al, l, v => if p.1 = l then (l, v) :: al else p :: nS al l v
theorem ff (p : cA × Nat) (al : List (cA × Nat)) (l : cA) : f8 (p :: al) l = if p.1 = l then p.2 else f8 al l := by
 unfold f8
 by_cases h : p.1 = l
 ·simp [h]
 ·simp [h]
theorem ID (l : cA) (v : Nat) (x : cA) : ∀ al, f8 (nS al l v) x = if x = l then v else f8 al x := by
 intro al
 induction al with
 | nil =>
  simp only [nS, ff]
  by_cases h : l = x
  ·simp [h]
  ·have : ¬ x = l := fun e => h e.symm
   simp [h, this]
 | cons p al ih =>
  simp only [nS]
  by_cases hp : p.1 = l
  ·rw [if_pos hp, ff, ff]
   by_cases h : l = x
   ·simp [h]
   ·have h2 : ¬ x = l := fun e => h e.symm
    simp [h, h2, hp]
  ·rw [if_neg hp, ff, ff, ih]
   by_cases h : p.1 = x
   ·have h2 : ¬ x = l := fun e => hp (h.trans e)
    simp [h, h2]
   ·simp [h]
theorem ajI {al : List (cA × Nat)} {es : List MapEntry} (h : EntsOf al es) (l : cA) (v : Nat) : ∀ i, match bu (.flat 3) (eO l) es i with
 | some (some (j, _)) => i ≤ j ∧ EntsOf (nS al l v) (es.modify (j - i) fun e => { e with key := eO l, val := .agg #[vu v] })
 | some none => ∀ born, EntsOf (nS al l v) (es ++ [{ key := eO l, val := .agg #[vu v], born := born }])
 | none => False := by
 induction h with
 | nil => intro i born; exact .cons ⟨rfl, rfl⟩ .nil
 | @cons p al e es h k ih =>
  intro i;simp only [bu];rw [h.1, Jg];simp only [bJ]
  by_cases hp : p.1 = l
  ·have e1 : (l == p.1) = true := by simp [hp]
   rw [if_pos e1];simp only [nS, if_pos hp];refine ⟨bv _, ?_⟩;simp only [Nat.sub_self];exact .cons ⟨rfl, rfl⟩ k
  ·have e1 : ¬ ((l == p.1) = true) := by simp; exact fun h => hp h.symm
   rw [if_neg e1];have hi := ih (i + 1);simp only [nS, if_neg hp]
   cases hf : bu (.flat 3) (eO l) es (i + 1) with
   | none => rw [hf] at hi; exact hi
   | some r =>
    rw [hf] at hi
    cases r with
    | none => intro born; exact .cons h (hi born)
    | some r =>
     obtain ⟨j, v'⟩ := r;simp only at hi ⊢;refine ⟨by omega, ?_⟩;rw [show j - i = (j - (i + 1)) + 1 from by omega];exact .cons h hi.2
section
variable {P P' R : SP} {H : AH} {c ck : Nat} {es : List MapEntry} {al : List (cA × Nat)} {Q : Value → AH → Prop}
theorem aqN {k : Value → OV} {at' : cA} (ha : EntsOf al es) (h : ac P H) [i : Hs P c (.map es ck)] (hk : wp (k (.agg #[vu (f8 al at')])) Q) : wp ((cZ (.flat 3) (.agg #[vw 0]) (.map (some c)) (eO at') false H).bind k) Q := by
 have hg := i.get h;obtain ⟨r, h1, h2⟩ := YZ ha at' 0;refine aa ?_ hk;unfold cZ;rw [if_pos (show i8 (.flat 3) (eO at') = true from rfl)];simp only [ks, hg, bJ, h1, fp]
 cases r with
 | none => simp only at h2 ⊢; rw [h2.1]; rfl
 | some r => simp only at h2 ⊢; rw [h2.1]; rfl
theorem ar3 {k : AH → OV} {at' : cA} {v : Nat} (ha : EntsOf al es) (h : ac P H) [i : Hs P c (.map es ck)] (hk : ∀ es' ck' H', EntsOf (nS al at' v) es' → (∀ P', Up P c (.map es' ck') P' → ac P' H') → wp (k H') Q) :
 wp ((e8 (.flat 3) (.map (some c)) (eO at') (.agg #[vu v]) H).bind k) Q := by
 have hg := i.get h;have hu := ajI ha at' v 0;unfold e8;rw [if_pos (show i8 (.flat 3) (eO at') = true from rfl)];simp only [hg]
 cases hf : bu (.flat 3) (eO at') es 0 with
 | none => rw [hf] at hu; exact absurd hu id
 | some r =>
  rw [hf] at hu
  cases r with
  | none =>
   simp only [fp, bJ];exact hk _ _ _ (hu ck) fun P' u => u.set h
  | some r =>
   obtain ⟨j, v'⟩ := r;simp only [fp, bJ];exact hk _ _ _ hu.2 fun P' u => u.set h
end
def bF (m : Nat) (μ : Mu) : SP := ex fun g : Nat × Value × List (cA × Nat) × List MapEntry × Nat =>
 pu (EntsOf g.2.2.1 g.2.2.2.1 ∧ (∀ l, f8 g.2.2.1 l = μ.V l) ∧ μ.E.length ≤ μ.N) * (blk m (.cells false [.map (some g.1), g.2.1]) * (blk g.1 (.map g.2.2.2.1 g.2.2.2.2) * sl 5 g.2.1 μ.E.length (qa μ.E)))
theorem pG (m : Nat) (μ : Mu) (who kind : Int) (at' : cA) (hE : μ.N < 1099511627776) : Sp dx [vp m, vi who, vi kind, eO at'] (bF m μ) (fun _ : Unit => .tuple #[]) (fun _ => bF m (μ.log who kind at')) := by
 refine aO fun R H h => ?_;obtain ⟨⟨c, l, al, es, ck⟩, h⟩ := ac.ex.1 h;rw [ai, ac.pu] at h;obtain ⟨hp, h⟩ := h;dsimp only at h hp;refine bm (fun r => CJ _ _ _ _ H) ?_;refine br (cs := [vi at'.1, vi at'.2.1, vi at'.2.2]) h fun b0 H1 h1 => ?_;refine ak h1 ae rfl ?_;refine aZ h1 ?_;refine O6 (cs := [vi who, vi kind, vi at'.1, vi at'.2.1, vi at'.2.2]) rfl ?_;refine Wo (cs := [vi who, vi kind, vi at'.1, vi at'.2.1, vi at'.2.2]) h1 rfl fun b1 H2 h2 => ?_;have hl := hp.2.2;refine aoY h2 rfl (by omega) (by omega) rfl (by unfold room; omega) fun a' c' H3 h3 => ?_;refine bk h3 ae rfl rfl fun H4 h4 => ?_;refine am ⟨(), rfl, ?_⟩;refine ac.ex.2 ⟨(c, .slice a' (μ.E.length + 1) c', al, es, ck), ?_⟩;rw [ai, ac.pu];refine ⟨⟨hp.1, hp.2.1, by simp; exact hp.2.2⟩, ?_⟩
 have e1 : (μ.log who kind at').E.length = μ.E.length + 1 := by simp [Mu.log]
 have e2 : qa (μ.log who kind at').E = qa μ.E ++ [vi who, vi kind, vi at'.1, vi at'.2.1, vi at'.2.2] := by rw [Mu.log, Kh]; rfl
 rw [e1, e2];exact h4.to
theorem yn (m : Nat) (μ : Mu) (at' : cA) : Sp fG [vp m, eO at'] (bF m μ) (fun _ : Unit => vu (μ.V at')) (fun _ => bF m μ) := by
 refine aO fun R H h => ?_;have h0 := h;obtain ⟨⟨c, l, al, es, ck⟩, h⟩ := ac.ex.1 h;rw [ai, ac.pu] at h;obtain ⟨hp, h⟩ := h;dsimp only at h hp;refine bm (fun r => CG _ _ H) ?_;refine br (cs := [vi at'.1, vi at'.2.1, vi at'.2.2]) h fun b0 H1 h1 => ?_;refine ak h1 ae rfl ?_;refine aZ h1 ?_;refine aqN (at' := at') hp.1 h1 ?_;refine aa (v := vu (f8 al at')) rfl ?_;refine am ⟨(), by rw [hp.2.1], ?_⟩;refine ac.ex.2 ⟨(c, l, al, es, ck), ?_⟩;rw [ai, ac.pu];exact ⟨hp, h1.to⟩
theorem N8 {m : Nat} {μ : Mu} {at' : cA} {v : Nat} {R P : SP} {H : AH} {c : Nat} {l : Value} {al : List (cA × Nat)} {es : List MapEntry} {k : AH → OV} {Q : Value → AH → Prop} {ck : Nat}
 (hp : EntsOf al es ∧ (∀ l, f8 al l = μ.V l) ∧ μ.E.length ≤ μ.N) (h : ac P H) [f : Fr P (blk m (.cells false [.map (some c), l]) * (blk c (.map es ck) * sl 5 l μ.E.length (qa μ.E))) R] [i : Hs P c (.map es ck)]
 (hk : ∀ H', ac (bF m (μ.put at' v) * R) H' → wp (k H') Q) : wp ((e8 (.flat 3) (.map (some c)) (eO at') (.agg #[vu v]) H).bind k) Q := by
 have h' := ac.fr (f := f) h;refine ar3 hp.1 h' fun es' ck' H' he hh => hk H' ?_;have h2 := hh _ inferInstance;refine ac.ex.2 ⟨(c, l, nS al at' v, es', ck'), ?_⟩;rw [ai, ac.pu];refine ⟨⟨he, fun x => ?_, hp.2.2⟩, h2.to⟩;dsimp only;rw [ID, hp.2.1]
theorem Zg (m : Nat) (μ : Mu) (who : Int) (at' : cA) (v : Nat) (hE : μ.N < 1099511627776) : Sp dI [vp m, vi who, eO at', vu v] (bF m μ) (fun _ : Unit => .tuple #[]) (fun _ => bF m ((μ.log who 2 at').put at' v)) := by
 refine bh (Ap _ _ _ _) fun R H h => ?_;refine br (cs := [vi at'.1, vi at'.2.1, vi at'.2.2]) h fun b0 H1 h1 => ?_;refine aZ h1 ?_;refine af h1 (pG m μ who 2 at' hE) fun _ H2 h2 => ?_;obtain ⟨⟨c, l, al, es, ck⟩, h2⟩ := ac.ex.1 h2;rw [ai, ac.pu] at h2;obtain ⟨hp, h2⟩ := h2;dsimp only at h2 hp;refine ak h2 ae rfl ?_;refine aZ h2 ?_;refine O6 (cs := [vu v]) rfl ?_;refine N8 (m := m) (l := l) (μ := μ.log who 2 at') (at' := at') (v := v) hp h2 fun H3 h3 => ?_;exact am ⟨(), rfl, h3.to⟩
theorem N9 (m : Nat) (μ : Mu) (who : Int) (at' : cA) (v : Nat) (hE : μ.N < 1099511627776) : Sp jv [vp m, vi who, eO at', vu v] (bF m μ) (fun _ : Unit => vu (μ.V at')) (fun _ => bF m ((μ.log who 3 at').put at' v)) := by
 refine bh (CM _ _ _ _) fun R H h => ?_;refine br (cs := [vi at'.1, vi at'.2.1, vi at'.2.2]) h fun b0 H1 h1 => ?_;refine aZ h1 ?_;refine af h1 (yn m μ at') fun _ H2 h2 => ?_;refine aZ h2 ?_;refine af h2 (pG m μ who 3 at' hE) fun _ H3 h3 => ?_;obtain ⟨⟨c, l, al, es, ck⟩, h3⟩ := ac.ex.1 h3;rw [ai, ac.pu] at h3;obtain ⟨hp, h3⟩ := h3;dsimp only at h3 hp;refine ak h3 ae rfl ?_;refine aZ h3 ?_;refine O6 (cs := [vu v]) rfl ?_;refine N8 (m := m) (l := l) (μ := μ.log who 3 at') (at' := at') (v := v) hp h3 fun H4 h4 => ?_;exact am ⟨(), rfl, h4.to⟩
theorem agX (m : Nat) (μ : Mu) (who : Int) (at' : cA) (hE : μ.N < 1099511627776) : Sp dw [vp m, vi who, eO at'] (bF m μ) (fun _ : Unit => vu (μ.V at')) (fun _ => bF m (μ.log who 1 at')) := by
 refine bh (CF _ _ _) fun R H h => ?_;refine br (cs := [vi at'.1, vi at'.2.1, vi at'.2.2]) h fun b0 H1 h1 => ?_;refine aZ h1 ?_;refine af h1 (pG m μ who 1 at' hE) fun _ H2 h2 => ?_;refine aZ h2 ?_;refine af h2 (yn m (μ.log who 1 at') at') fun _ H3 h3 => ?_;exact am ⟨(), rfl, h3.to⟩
abbrev Mu.swap (μ : Mu) (who : Int) (at' : cA) (was now : Nat) : Mu := if μ.V at' = was then (μ.log who 3 at').put at' now else μ.log who 4 at'
theorem ag0 (m : Nat) (μ : Mu) (who : Int) (at' : cA) (was now : Nat) (hE : μ.N < 1099511627776) :
 Sp fH [vp m, vi who, eO at', vu was, vu now] (bF m μ) (fun _ : Unit => vb (decide (μ.V at' = was))) (fun _ => bF m (μ.swap who at' was now)) := by
 refine bh (CI _ _ _ _ _) fun R H h => ?_;refine br (cs := [vi at'.1, vi at'.2.1, vi at'.2.2]) h fun b0 H1 h1 => ?_;refine aZ h1 ?_;refine af h1 (yn m μ at') fun _ H2 h2 => ?_;refine aa aoK ?_;unfold Mu.swap;refine bZ (fun hc => ?_) (fun hc => ?_)
 ·have hc : ¬ μ.V at' = was := by simpa using hc
  rw [if_neg hc, d4 hc];refine aZ h2 ?_;refine af h2 (pG m μ who 4 at' hE) fun _ H3 h3 => ?_;exact am ⟨(), rfl, h3.to⟩
 ·have hc : μ.V at' = was := by simpa using hc
  rw [if_pos hc, eu hc];refine aZ h2 ?_;refine af h2 (N9 m μ who at' now hE) fun _ H3 h3 => ?_;exact am ⟨(), rfl, h3.to⟩
theorem amQ (m : Nat) (μ : Mu) (who : Int) (at' : cA) (n : Nat) (hE : μ.N < 1099511627776) :
 Sp gj [vp m, vi who, eO at', vu n] (bF m μ) (fun _ : Unit => vu (μ.V at')) (fun _ => bF m ((μ.log who 3 at').put at' ((μ.V at' + n) % 18446744073709551616))) := by
 refine bh (F3 _ _ _ _) fun R H h => ?_
 repeat (first | refine ba ‹_› fun _ _ _ => ?_ | refine aZ ‹_› ?_)
 refine af (by assumption) (yn m μ at') fun _ _ _ => ?_
 repeat refine dX ‹_› ‹_› rfl ?_
 refine aa (an3) ?_;refine af (by assumption) (N9 m μ who at' _ hE) fun _ _ _ => ?_;exact am ⟨(), rfl, ac.to (by assumption)⟩
theorem agZ (m : Nat) (μ : Mu) (who : Int) (at' : cA) (hE : μ.N < 1099511627776) :
 Sp nh [vp m, vi who, eO at'] (bF m μ) (fun _ : Unit => .tuple #[]) (fun _ => bF m (μ.log who 5 at')) := by
 refine bh (CH _ _ _) fun R H h => ?_
 repeat (first | refine ba ‹_› fun _ _ _ => ?_ | refine aZ ‹_› ?_)
 refine af (by assumption) (pG m μ who 5 at' hE) fun _ _ _ => ?_;exact am ⟨(), rfl, ac.to (by assumption)⟩
theorem t9 (m : Nat) (μ : Mu) (who : Int) (at' : cA) (hE : μ.N < 1099511627776) :
 Sp ge [vp m, vi who, eO at'] (bF m μ) (fun _ : Unit => .tuple #[]) (fun _ => bF m (μ.log who 6 at')) := by
 refine bh (Aq _ _ _) fun R H h => ?_
 repeat (first | refine ba ‹_› fun _ _ _ => ?_ | refine aZ ‹_› ?_)
 refine af (by assumption) (pG m μ who 6 at' hE) fun _ _ _ => ?_;exact am ⟨(), rfl, ac.to (by assumption)⟩
theorem Sp.imp {α : Type} {f : Nat} {args : List Value} {P : SP} {v : α → Value} {Q Q' : α → SP} (s : Sp f args P v Q) (h : ∀ x R H, ac (Q x * R) H → ac (Q' x * R) H) : Sp f args P v Q' := by
 intro R H hh;obtain ⟨x, H', e, hq⟩ := s R H hh;exact ⟨x, H', e, h x R H' hq⟩
theorem jr {m : Nat} {V : cA → Nat} {E : List Ev} {N N' : Nat} {R : SP} {H : AH} (hN : N ≤ N') (h : ac (bF m ⟨V, E, N⟩ * R) H) : ac (bF m ⟨V, E, N'⟩ * R) H := by
 obtain ⟨g, h⟩ := ac.ex.1 h;rw [ai, ac.pu] at h;refine ac.ex.2 ⟨g, ?_⟩;rw [ai, ac.pu];exact ⟨⟨h.1.1, h.1.2.1, eA h.1.2.2 hN⟩, h.2⟩
abbrev Mu.acc (μ : Mu) (who kind : Int) (at' : cA) : Mu := { V := μ.V, E := μ.E ++ [⟨who, kind, at'⟩], N := μ.N + 2 }
abbrev Mu.swp (μ : Mu) (who : Int) (at' : cA) (was now : Nat) : Mu := { V := (μ.swap who at' was now).V, E := (μ.swap who at' was now).E, N := μ.N + 2 }
theorem Ga (m : Nat) (μ : Mu) (who : Int) (at' : cA) (hE : μ.N < 1099511627776) : Sp dw [vp m, vi who, eO at'] (bF m μ) (fun _ : Unit => vu (μ.V at')) (fun _ => bF m (μ.acc who 1 at')) :=
 (agX m μ who at' hE).imp fun _ R H h => jr (by simp) h
theorem D7 (m : Nat) (μ : Mu) (who : Int) (at' : cA) (v : Nat) (hE : μ.N < 1099511627776) : Sp dI [vp m, vi who, eO at', vu v] (bF m μ) (fun _ : Unit => .tuple #[]) (fun _ => bF m ((μ.acc who 2 at').put at' v)) :=
 (Zg m μ who at' v hE).imp fun _ R H h => jr (by simp) h
theorem Ru (m : Nat) (μ : Mu) (who : Int) (at' : cA) (was now : Nat) (hE : μ.N < 1099511627776) :
 Sp fH [vp m, vi who, eO at', vu was, vu now] (bF m μ) (fun _ : Unit => vb (decide (μ.V at' = was))) (fun _ => bF m (μ.swp who at' was now)) :=
 (ag0 m μ who at' was now hE).imp fun _ R H h => by
  have : (μ.swap who at' was now).N ≤ μ.N + 2 := by unfold Mu.swap; split <;> simp
  exact jr this h
theorem ahL (m : Nat) (μ : Mu) (who : Int) (at' : cA) (n : Nat) (hE : μ.N < 1099511627776) :
 Sp gj [vp m, vi who, eO at', vu n] (bF m μ) (fun _ : Unit => vu (μ.V at')) (fun _ => bF m ((μ.acc who 3 at').put at' ((μ.V at' + n) % 18446744073709551616))) :=
 (amQ m μ who at' n hE).imp fun _ R H h => jr (by simp) h
def Kg (p : cA × Nat) : List Value := [vi p.1.1, vi p.1.2.1, vi p.1.2.2]
def ND (p : cA × Nat) : List Value := [vu p.2]
instance : Enc Kg 3 := ⟨fun _ => rfl, fun _ => rfl, by omega⟩
instance : Enc ND 1 := ⟨fun _ => rfl, fun _ => rfl, by omega⟩
def Jl (m : Nat) (al : List (cA × Nat)) (E : List Ev) : SP := ex fun g : Value × Value × Value =>
 blk m (.cells false [g.1, g.2.1, g.2.2]) * (ts 3 Kg g.1 al * (ts 1 ND g.2.1 al * ts 5 Ev.cells g.2.2 E))
def bK (m : Nat) (μ : Mu) : SP := ex fun al : List (cA × Nat) => pu ((∀ l, f8 al l = μ.V l) ∧ al.length + μ.E.length ≤ μ.N) * Jl m al μ.E
def iD (al : List (cA × Nat)) (l : cA) : Nat := al.findIdx fun p => p.1 == l
def kT (al : List (cA × Nat)) (l : cA) : List (cA × Nat) := if iD al l < al.length then al else al ++ [(l, 0)]
theorem jZ (p : cA × Nat) (al : List (cA × Nat)) (l : cA) : iD (p :: al) l = if p.1 = l then 0 else iD al l + 1 := by
 unfold iD;rw [List.findIdx_cons]
 by_cases h : p.1 = l
 ·simp [h]
 ·have : (p.1 == l) = false := by simpa using h
  simp [h, this]
theorem Es (l : cA) : ∀ (al : List (cA × Nat)) (h : iD al l < al.length), al[iD al l] = (l, f8 al l) := by
 intro al
 induction al with
 | nil => intro h; simp at h
 | cons p al ih =>
  intro h;have e := jZ p al l
  by_cases hp : p.1 = l
  ·rw [if_pos hp] at e
   simp only [e, List.getElem_cons_zero, ff, hp, if_true];exact Prod.ext hp rfl
  ·rw [if_neg hp] at e
   rw [e, List.length_cons] at h;simp only [e, List.getElem_cons_succ, ff, hp, if_false];exact ih (by omega)
theorem Pw (l x : cA) : ∀ (al : List (cA × Nat)), ¬ iD al l < al.length → f8 (al ++ [(l, 0)]) x = f8 al x := by
 intro al
 induction al with
 | nil =>
  intro _;show f8 [(l, 0)] x = f8 [] x;rw [ff]
  split <;> rfl
 | cons p al ih =>
  intro h;have e := jZ p al l
  by_cases hp : p.1 = l
  ·rw [if_pos hp] at e
   simp [e] at h
  ·rw [if_neg hp] at e
   rw [List.cons_append, ff, ff, ih (by rw [e, List.length_cons] at h; omega)]
theorem Et (l : cA) (al : List (cA × Nat)) (h : ¬ iD al l < al.length) : iD (al ++ [(l, 0)]) l = al.length := by
 induction al with
 | nil => simp [iD, List.findIdx_cons]
 | cons p al ih =>
  have e := jZ p al l
  by_cases hp : p.1 = l
  ·rw [if_pos hp] at e
   simp [e] at h
  ·rw [if_neg hp] at e
   rw [List.cons_append, jZ, if_neg hp, ih (by rw [e, List.length_cons] at h; omega), List.length_cons]
theorem WE (al : List (cA × Nat)) (l x : cA) : f8 (kT al l) x = f8 al x := by
 unfold kT
 split
 ·rfl
 ·exact Pw l x al (by assumption)
theorem abH (al : List (cA × Nat)) (l : cA) : iD (kT al l) l < (kT al l).length := by
 unfold kT
 split
 ·assumption
 ·rw [Et l al (by assumption)]; simp
theorem IE (l : cA) (v : Nat) : ∀ (al : List (cA × Nat)), iD al l < al.length → nS al l v = al.set (iD al l) (l, v) := by
 intro al
 induction al with
 | nil => intro h; simp at h
 | cons p al ih =>
  intro h;have e := jZ p al l
  by_cases hp : p.1 = l
  ·rw [if_pos hp] at e
   simp [nS, hp, e]
  ·rw [if_neg hp] at e
   rw [e, List.length_cons] at h;simp only [nS, hp, if_false, e, List.set_cons_succ];rw [ih (by omega)]
theorem VL (m : Nat) (al : List (cA × Nat)) (E : List Ev) (who kind : Int) (at' : cA) (hE : E.length < 1099511627776) : Sp ch [vp m, vi who, vi kind, eO at'] (Jl m al E) (fun _ : Unit => .tuple #[]) (fun _ => Jl m al (E ++ [⟨who, kind, at'⟩])) := by
 refine bh (GD _ _ _ _) fun R H h => ?_;obtain ⟨⟨a, v, e⟩, h⟩ := ac.ex.1 h;dsimp only at h
 repeat (first | refine ba ‹_› fun _ _ _ => ?_ | refine aZ ‹_› ?_ | refine ak ‹_› ae rfl ?_ | refine jc ?_ | refine MS ‹_› fun _ _ _ => ?_)
 refine f5 ((⟨who, kind, at'⟩ : Ev)) (by assumption) rfl ?_ (by omega) fun a' c' _ _ => ?_
 ·unfold room; omega
 repeat (first | refine bC ae ?_ | refine fi ‹_› rfl rfl fun _ _ => ?_)
 exact am ⟨(), rfl, ac.ex.2 ⟨(a, v, .slice a' (E.length + 1) c'), ac.to (by assumption)⟩⟩
theorem Nb (l : cA) : ∀ (al : List (cA × Nat)) (k : Nat) (hk : k < al.length), al[k].1 = l → (∀ j, j < k → ∀ p, al[j]? = some p → p.1 ≠ l) → iD al l = k := by
 intro al
 induction al with
 | nil => intro k hk; simp at hk
 | cons p al ih =>
  intro k hk h hno;rw [jZ]
  cases k with
  | zero => rw [if_pos (by simpa using h)]
  | succ k =>
   rw [if_neg (hno 0 (by omega) p rfl), ih k (by simpa using hk) (by simpa using h) fun j hj q hq => hno (j + 1) (by omega) q (by simpa using hq)]
theorem Rz {m b0 : Nat} {al : List (cA × Nat)} {E : List Ev} {at' : cA} {R : SP} (hal : al.length < 1099511627776) {a v e : Value} (x4 : Value) {H : AH}
 (h : ac (blk b0 (.cells false [vi at'.1, vi at'.2.1, vi at'.2.2]) * (blk m (.cells false [a, v, e]) * (ts 3 Kg a al * (ts 1 ND v al * ts 5 Ev.cells e E)) * R)) H) :
 ∀ (n k : Nat), k + n = al.length → (∀ j, j < k → ∀ p, al[j]? = some p → p.1 ≠ at') →
  wp (D8 (vp m) (vp b0) x4 (vi k) H) fun v' H' => v' = vi (iD (kT al at') at') ∧ ac (Jl m (kT al at') E * R) H' := by
 intro n
 induction n with
 | zero =>
  intro k hk hno
  have hidx : ¬ iD al at' < al.length := by
   intro hlt;have := Es at' al hlt;exact hno _ (by omega) _ (cB hlt) (by rw [this])
  refine ah (GK _ _ _ _ H) ?_;refine ak h ae rfl ?_;refine tu (s := a) h ?_;refine aa tG ?_;refine bZ (fun hc => ?_) (fun hc => ?_)
  ·simp at hc; omega
  refine ah (Mt _ _ _ H) ?_;refine ah (ZE _ _ _ H) ?_;have e1 : kT al at' = al ++ [(at', 0)] := if_neg hidx
  have e2 : iD (kT al at') at' = al.length := by rw [e1, Et at' al hidx]
  rw [e1, ← e1, e2, e1]
  repeat (first | refine aZ ‹_› ?_ | refine ak ‹_› ae rfl ?_ | refine MS ‹_› fun _ _ _ => ?_)
  refine f5 (((at', 0) : cA × Nat)) (by assumption) rfl ?_ (by omega) fun a1 c1 H1 h1 => ?_
  ·unfold room; omega
  repeat (first | refine ak ‹_› ae rfl ?_ | refine MS ‹_› fun _ _ _ => ?_ | refine aI ‹_› ‹_› rfl ?_)
  refine f5 (((at', 0) : cA × Nat)) (by assumption) rfl ?_ (by omega) fun a2 c2 H2 h2 => ?_
  ·unfold room; omega
  repeat (first | refine ak ‹_› ae rfl ?_ | refine bC ae ?_ | refine fi ‹_› rfl rfl fun _ _ => ?_ | refine Wn ?_)
  refine aa (gS (by omega) (by omega)) ?_;refine am ⟨by congr 1; omega, ?_⟩;exact ac.ex.2 ⟨(.slice a1 (al.length + 1) c1, .slice a2 (al.length + 1) c2, e), ac.to (by assumption)⟩
 | succ n ih =>
  intro k hk hno
  have hkl : k < al.length := by omega
  refine ah (GK _ _ _ _ H) ?_;refine ak h ae rfl ?_;refine tu (s := a) h ?_;refine aa tG ?_;refine bZ (fun hc => ?_) (fun hc => ?_)
  ·refine ah (RL _ _ _ _ H) ?_
   refine ak h ae rfl ?_;refine aqP (s := a) h hkl ?_;refine aZ h ?_;refine aa (acI al[k].1 at') ?_;refine bZ (fun hc => ?_) (fun hc => ?_)
   ·have hc : al[k].1 = at' := by simpa using hc
    have hidx := Nb at' al k hkl hc hno
    have e1 : kT al at' = al := by unfold kT; rw [if_pos (by omega)]
    refine am ⟨by rw [e1, hidx], ?_⟩;rw [e1];exact ac.ex.2 ⟨(a, v, e), ac.to h⟩
   ·have hc : al[k].1 ≠ at' := by simpa using hc
    refine ah (RM _ _ _ _ H) ?_;refine aa (aS (by omega) (by omega)) ?_;refine ih (k + 1) (by omega) fun j hj p hp => ?_
    by_cases hjk : j = k
    ·subst hjk
     rw [cB hkl] at hp;cases hp;exact hc
    ·exact hno j (by omega) p hp
  ·simp at hc; omega
theorem ZC (m : Nat) (al : List (cA × Nat)) (E : List Ev) (at' : cA) (hal : al.length < 1099511627776) : Sp BI [vp m, eO at'] (Jl m al E) (fun _ : Unit => vi (iD (kT al at') at')) (fun _ => Jl m (kT al at') E) := by
 refine bh (ap2 _ _) fun R H h => ?_;obtain ⟨⟨a, v, e⟩, h⟩ := ac.ex.1 h;dsimp only at h;refine ba h fun b0 H1 h1 => ?_;refine ah (ZD _ _ _ H1) ?_;refine ah (RK _ _ _ _ H1) ?_;refine (Rz hal (vi 0) h1 al.length 0 (by omega) (fun j hj => by omega)).mono fun v' H' h' => ⟨(), h'.1, h'.2⟩
theorem anI (a : Value) (al : List (cA × Nat)) (i : Nat) (hi : i < al.length) (v : Nat) : ts 3 Kg a (al.set i (al[i].1, v)) = ts 3 Kg a al := by
 unfold ts;rw [N6, FL al i hi, nb al i hi]
 rfl
theorem F2 {m : Nat} {μ : Mu} {al : List (cA × Nat)} {a v e : Value} {P R : SP} {H : AH} (hp : (∀ l, f8 al l = μ.V l) ∧ al.length + μ.E.length ≤ μ.N) (h : ac P H)
 {Z : SP} [f : Fr P ((blk m (.cells false [a, v, e]) * (ts 3 Kg a al * (ts 1 ND v al * ts 5 Ev.cells e μ.E))) * R) Z] : ac (bK m μ * R) H := by
 refine ac.ex.2 ⟨al, ?_⟩;rw [ai, ac.pu];exact ⟨hp, ac.ex.2 ⟨(a, v, e), h.to⟩⟩
theorem WG (al : List (cA × Nat)) (l : cA) : (kT al l).length ≤ al.length + 1 := by unfold kT; split <;> simp
def BH (m : Nat) (μ : Mu) (at' : cA) (i : Nat) : SP := ex fun g : List (cA × Nat) × Value × Value × Value =>
 pu ((∀ l, f8 g.1 l = μ.V l) ∧ g.1.length + μ.E.length ≤ μ.N ∧ iD g.1 at' = i ∧ i < g.1.length) * (blk m (.cells false [g.2.1, g.2.2.1, g.2.2.2]) * (ts 3 Kg g.2.1 g.1 * (ts 1 ND g.2.2.1 g.1 * ts 5 Ev.cells g.2.2.2 μ.E)))
theorem Hz (m : Nat) (μ : Mu) (at' : cA) (hE : μ.N < 1099511627776) : Sp BI [vp m, eO at'] (bK m μ) (fun i : Nat => vi (i : Int)) (fun i => BH m { μ with N := μ.N + 1 } at' i) := by
 intro R H h;obtain ⟨al, h⟩ := ac.ex.1 h;rw [ai, ac.pu] at h;obtain ⟨hp, h⟩ := h;obtain ⟨_, H', e, h'⟩ := ZC m al μ.E at' (by omega) R H h;refine ⟨iD (kT al at') at', H', e, ?_⟩;obtain ⟨⟨a, v, ev⟩, h'⟩ := ac.ex.1 h';refine ac.ex.2 ⟨(kT al at', a, v, ev), ?_⟩;rw [ai, ac.pu];have := WG al at';exact ⟨⟨fun l => by rw [WE, hp.1], by dsimp only; omega, rfl, abH al at'⟩, h'⟩
theorem aaX (m : Nat) (μ : Mu) (who kind : Int) (at' : cA) (hE : μ.N < 1099511627776) : Sp ch [vp m, vi who, vi kind, eO at'] (bK m μ) (fun _ : Unit => .tuple #[]) (fun _ => bK m (μ.log who kind at')) := by
 intro R H h;obtain ⟨al, h⟩ := ac.ex.1 h;rw [ai, ac.pu] at h;obtain ⟨hp, h⟩ := h;obtain ⟨_, H', e, h'⟩ := VL m al μ.E who kind at' (by omega) R H h;refine ⟨(), H', e, ?_⟩;refine ac.ex.2 ⟨al, ?_⟩;rw [ai, ac.pu];exact ⟨⟨hp.1, by simp; omega⟩, h'⟩
theorem apT (m : Nat) (μ : Mu) (at2 : cA) (i : Nat) (who kind : Int) (at' : cA) (hE : μ.N < 1099511627776) : Sp ch [vp m, vi who, vi kind, eO at'] (BH m μ at2 i) (fun _ : Unit => .tuple #[]) (fun _ => BH m (μ.log who kind at') at2 i) := by
 intro R H h;obtain ⟨⟨al, a, v, e⟩, h⟩ := ac.ex.1 h;rw [ai, ac.pu] at h;obtain ⟨hp, h⟩ := h;dsimp only at hp h;obtain ⟨_, H', e', h'⟩ := VL m al μ.E who kind at' (by omega) R H (ac.ex.2 ⟨(a, v, e), h⟩);refine ⟨(), H', e', ?_⟩;obtain ⟨⟨a2, v2, e2⟩, h'⟩ := ac.ex.1 h';refine ac.ex.2 ⟨(al, a2, v2, e2), ?_⟩;rw [ai, ac.pu];exact ⟨⟨hp.1, by simp; omega, hp.2.2⟩, h'⟩
class Xi (P : SP) (m i : Nat) (μ : outParam Mu) (at' : outParam cA) (R : outParam SP) : Prop where
 eq : P = BH m μ at' i * R
instance (priority := high) Xi.refl (m i : Nat) (μ : Mu) (at' : cA) : Xi (BH m μ at' i) m i μ at' emp := ⟨(fA _).symm⟩
instance Xi.left (P Q R : SP) (m i : Nat) (μ : Mu) (at' : cA) [h : Xi P m i μ at' R] : Xi (P * Q) m i μ at' (R * Q) := ⟨by rw [h.eq, ai]⟩
instance Xi.right (P Q R : SP) (m i : Nat) (μ : Mu) (at' : cA) [h : Xi Q m i μ at' R] : Xi (P * Q) m i μ at' (P * R) := ⟨by rw [h.eq, ci]⟩
section
variable {m i : Nat} {μ : Mu} {at' : cA} {P R : SP} {H : AH} {Q : Value → AH → Prop}
theorem Ws {k : Value → OV} (h : ac P H) [f : Xi P m i μ at' R] (hk : wp (k (vu (μ.V at'))) Q) : wp (ld [.n, .f 1] (vp m) H fun v => ld [.i 1 (vi i)] v H k) Q := by
 have h' : ac (BH m μ at' i * R) H := by rw [← f.eq]; exact h
 obtain ⟨⟨al, a, v, e⟩, h'⟩ := ac.ex.1 h';rw [ai, ac.pu] at h';obtain ⟨hp, h'⟩ := h';dsimp only at hp h';refine ak h' ae rfl ?_;obtain ⟨p1, _, p4, p5⟩ := hp;refine aqO (s := v) h' p5 (v := vu (μ.V at')) ?_ hk;subst p4;rw [Es at' al p5];simp [ND, p1]
theorem ajU {k : AH → OV} {v : Nat} (h : ac P H) [f : Xi P m i μ at' R] (hk : ∀ H', ac (bK m (μ.put at' v) * R) H' → wp (k H') Q) : wp (ld [.n, .f 1] (vp m) H fun s => st 1 [.i 1 (vi i)] s (vu v) H k) Q := by
 have h0 : ac (BH m μ at' i * R) H := by rw [← f.eq]; exact h
 obtain ⟨⟨al, a, s, e⟩, h1⟩ := ac.ex.1 h0;rw [ai, ac.pu] at h1;obtain ⟨hp, h'⟩ := h1
 clear h0
 dsimp only at hp h';refine ak h' ae rfl ?_;obtain ⟨p1, p2, p4, p5⟩ := hp;subst p4;refine JU (s := s) (g := 0) ((at', v) : cA × Nat) h' p5 (.inl ⟨rfl, rfl⟩) rfl (by omega) rfl rfl fun H' h2 => hk H' ?_;have hat := Es at' al p5;have hk2 := anI a al (iD al at') p5 v;rw [hat] at hk2;rw [← IE at' v al p5] at h2 hk2;rw [← hk2] at h2;refine F2 (al := nS al at' v) (a := a) (v := s) (e := e) ⟨fun l => ?_, ?_⟩ h2
 ·rw [ID, p1]
 ·rw [IE at' v al p5, N6]; exact p2
theorem anO {x y : Value} {op : BinOp} {cl : TCls} {k : AH → OV} {v : Nat} (h : ac P H) [f : Xi P m i μ at' R] (hb : aj cl op x y = some (vu v)) (hk : ∀ H', ac (bK m (μ.put at' v) * R) H' → wp (k H') Q) :
 wp (ld [.n, .f 1] (vp m) H fun s => (aj cl op x y).bind fun z => st 1 [.i 1 (vi i)] s z H k) Q := by
 rw [hb];exact ajU h hk
theorem aqR (h : ac P H) [f : Xi P m i μ at' R] : ac (bK m μ * R) H := by
 have h' : ac (BH m μ at' i * R) H := by rw [← f.eq]; exact h
 obtain ⟨⟨al, a, s, e⟩, h'⟩ := ac.ex.1 h';rw [ai, ac.pu] at h';obtain ⟨hp, h'⟩ := h';exact F2 (al := al) (a := a) (v := s) (e := e) ⟨hp.1, hp.2.1⟩ h'
end
theorem td (m : Nat) (μ : Mu) (who : Int) (at' : cA) (hE : μ.N < 1099511627000) : Sp eb [vp m, vi who, eO at'] (bK m μ) (fun _ : Unit => vu (μ.V at')) (fun _ => bK m (μ.acc who 1 at')) := by
 refine bh (Df _ _ _) fun R H h => ?_
 repeat (first | refine ba ‹_› fun _ _ _ => ?_ | refine aZ ‹_› ?_)
 refine af (by assumption) (aaX m μ who 1 at' (by omega)) fun _ _ _ => ?_
 repeat refine aZ ‹_› ?_
 refine af (by assumption) (Hz m (μ.log who 1 at') at' (by simp; omega)) fun i H3 h3 => ?_;refine Ws h3 ?_;exact am ⟨(), rfl, ac.to (aqR (m := m) (i := i) h3)⟩
theorem uh (m : Nat) (μ : Mu) (who : Int) (at' : cA) (v : Nat) (hE : μ.N < 1099511627000) : Sp eH [vp m, vi who, eO at', vu v] (bK m μ) (fun _ : Unit => .tuple #[]) (fun _ => bK m ((μ.acc who 2 at').put at' v)) := by
 refine bh (AT _ _ _ _) fun R H h => ?_
 repeat (first | refine ba ‹_› fun _ _ _ => ?_ | refine aZ ‹_› ?_)
 refine af (by assumption) (aaX m μ who 2 at' (by omega)) fun _ _ _ => ?_
 repeat refine aZ ‹_› ?_
 refine af (by assumption) (Hz m (μ.log who 2 at') at' (by simp; omega)) fun i H3 h3 => ?_;refine ajU (at' := at') h3 fun H4 h4 => ?_;exact am ⟨(), rfl, h4.to⟩
theorem ahT (m : Nat) (μ : Mu) (at' : cA) (hE : μ.N < 1099511627000) : Sp nl [vp m, eO at'] (bK m μ) (fun _ : Unit => vu (μ.V at')) (fun _ => bK m { μ with N := μ.N + 1 }) := by
 refine bh (Dg _ _) fun R H h => ?_
 repeat (first | refine ba ‹_› fun _ _ _ => ?_ | refine aZ ‹_› ?_)
 refine af (by assumption) (Hz m μ at' (by omega)) fun i H3 h3 => ?_;refine Ws h3 ?_;exact am ⟨(), rfl, ac.to (aqR (m := m) (i := i) h3)⟩
theorem GJ (m : Nat) (μ : Mu) (who : Int) (at' : cA) (was now : Nat) (hE : μ.N < 1099511627000) :
 Sp gN [vp m, vi who, eO at', vu was, vu now] (bK m μ) (fun _ : Unit => vb (decide (μ.V at' = was))) (fun _ => bK m (μ.swp who at' was now)) := by
 refine bh (Dh _ _ _ _ _) fun R H h => ?_
 repeat (first | refine ba ‹_› fun _ _ _ => ?_ | refine aZ ‹_› ?_)
 refine af (by assumption) (Hz m μ at' (by omega)) fun i H3 h3 => ?_;refine Ws h3 ?_;refine aa (aoK) ?_;unfold Mu.swp Mu.swap;refine bZ (fun hc => ?_) (fun hc => ?_)
 ·have hc : ¬ μ.V at' = was := by simpa using hc
  rw [if_neg hc, d4 hc]
  repeat refine aZ ‹_› ?_
  refine af (by assumption) (apT m { μ with N := μ.N + 1 } at' i who 4 at' (by simp; omega)) fun _ H4 h4 => ?_;exact am ⟨(), rfl, ac.to (aqR (m := m) (i := i) h4)⟩
 ·have hc : μ.V at' = was := by simpa using hc
  rw [if_pos hc, eu hc]
  repeat refine aZ ‹_› ?_
  refine af (by assumption) (apT m { μ with N := μ.N + 1 } at' i who 3 at' (by simp; omega)) fun _ H4 h4 => ?_;refine ajU (at' := at') h4 fun H5 h5 => ?_;exact am ⟨(), rfl, h5.to⟩
theorem Mo (m : Nat) (μ : Mu) (who : Int) (at' : cA) (n : Nat) (hE : μ.N < 1099511627000) :
 Sp iH [vp m, vi who, eO at', vu n] (bK m μ) (fun _ : Unit => vu (μ.V at')) (fun _ => bK m ((μ.acc who 3 at').put at' ((μ.V at' + n) % 18446744073709551616))) := by
 refine bh (GC _ _ _ _) fun R H h => ?_
 repeat (first | refine ba ‹_› fun _ _ _ => ?_ | refine aZ ‹_› ?_)
 refine af (by assumption) (Hz m μ at' (by omega)) fun i H3 h3 => ?_
 repeat refine aZ ‹_› ?_
 refine af (by assumption) (apT m { μ with N := μ.N + 1 } at' i who 3 at' (by simp; omega)) fun _ H4 h4 => ?_;refine Ws h4 ?_;refine anO (at' := at') h4 an3 fun H5 h5 => ?_;exact am ⟨(), rfl, h5.to⟩
def dd (w : Nat) : Bool := decide (w / 2305843009213693952 < 3)
def aG (w : Nat) : Nat := if dd w then w % 2305843009213693952 else 0
def aN (w : Nat) : Int := if dd w then (w / 2305843009213693952 : Nat) else -1
def aP (w : Nat) : Nat → Option Nat
 | 0 => if dd w ∧ aN w ≠ 2 ∧ aG w < 2305843009213693951 then some (aG w + 1 + 2305843009213693952) else none
 | 1 => if aN w = 1 then some (aG w) else none
 | 2 => if aN w = 0 then some (aG w + 4611686018427387904) else none
 | _ => none
def F8 : Option Nat → Value
 | some n => .tuple #[vu n, vb true]
 | none => .tuple #[vw 0, vb false]
theorem wJ (w : Nat) : Sp jC [vu w] emp (fun _ : Unit => vb (dd w)) (fun _ => emp) := by
 refine bh (IA _) fun R H h => ?_;refine aa (aoP) ?_;refine aa (tG) ?_;refine am ⟨(), ?_, h⟩
 congr 1
 unfold dd
 congr 1
 apply propext;omega
theorem gR (w : Nat) (hw : w < 18446744073709551616) : Sp dr [vu w] emp (fun _ : Unit => vu (aG w)) (fun _ => emp) := by
 refine bh (Iz _) fun R H h => ?_;refine af (by assumption) (wJ w) fun _ _ _ => ?_;refine aa (Hq) ?_;refine bZ (fun hc => ?_) (fun hc => ?_)
 ·have hc : dd w = false := by simpa using hc
  refine am ⟨(), by simp [aG, hc], ac.to (by assumption)⟩
 ·have hc : dd w = true := by simpa using hc
  refine aa (arF hw) ?_;refine am ⟨(), by simp [aG, hc], ac.to (by assumption)⟩
theorem i1 (w : Nat) (hw : w < 18446744073709551616) : Sp dR [vu w] emp (fun _ : Unit => vi (aN w)) (fun _ => emp) := by
 refine bh (IB _) fun R H h => ?_;refine af (by assumption) (wJ w) fun _ _ _ => ?_;refine aa (Hq) ?_;refine bZ (fun hc => ?_) (fun hc => ?_)
 ·have hc : dd w = false := by simpa using hc
  refine am ⟨(), by simp [aN, hc], ac.to (by assumption)⟩
 ·have hc : dd w = true := by simpa using hc
  refine aa (aoP) ?_;refine aa (ji (by omega)) ?_;refine am ⟨(), by simp [aN, hc], ac.to (by assumption)⟩
theorem pN (w : Nat) (hw : w < 18446744073709551616) : Sp gM [vu w] emp (fun _ : Unit => .tuple #[vu (aG w), vi (aN w), vb (dd w)]) (fun _ => emp) := by
 refine bh (Mh _) fun R H h => ?_;refine aa (arV) ?_;refine aa (arT hw) ?_;refine aa (ji (by omega)) ?_;refine aa (J3) ?_;refine bZ (fun hc => ?_) (fun hc => ?_)
 ·have hc : dd w = false := by simp at hc; simp [dd]; omega
  refine am ⟨(), by simp [aG, aN, hc], h.to⟩
 ·have hc : dd w = true := by simp at hc; simp [dd]; omega
  refine am ⟨(), by simp [aG, aN, hc], h.to⟩
theorem Bm (n : Nat) (s : Nat) (hn : n ≤ 2305843009213693951) (hs : s < 3) : Sp lp [vu n, vi (s : Int)] emp (fun _ : Unit => .tuple #[vu (s * 2305843009213693952 + n), vb true]) (fun _ => emp) := by
 refine bh (MY _ _) fun R H h => ?_;refine aa (fV (by omega)) ?_;refine gt ?_;refine aa (HS (bP ?_)) ?_
 ·omega
 refine gt ?_;refine aa (HS (il ?_)) ?_
 ·omega
 refine gt ?_;refine bZ (fun hc => by cases hc) (fun _ => ?_);refine aa (ej (by omega) (by omega)) ?_
 have e1 : aj .other .shl (vu (s : Int).toNat) (vw 61) = some (vu (s * 2305843009213693952)) := by
  have := IG (cl := .other) (a := s) (k := .u64) (n := 61) (by omega);simp only [Nat.reducePow] at this;rw [Nat.mod_eq_of_lt (by omega)] at this
  simpa using this
 refine aa (e1) ?_
 have e2 : aj .other .or (vu (s * 2305843009213693952)) (vu n) = some (vu (s * 2305843009213693952 + n)) := by
  rw [abT (by omega) (by omega)]
  congr 3
  have := Nat.two_pow_add_eq_or_of_lt (i := 61) (b := n) (by simp only [Nat.reducePow]; omega) s;simp only [Nat.reducePow] at this;rw [Nat.mul_comm, ← this]
 refine aa (e2) ?_;exact am ⟨(), rfl, h.to⟩
theorem Gf (n : Nat) (s : Nat) (hn : n ≤ 2305843009213693951) (hs : s < 3) : Sp ni [vu n, vi (s : Int)] emp (fun _ : Unit => .tuple #[vu (s * 2305843009213693952 + n), vb true]) (fun _ => emp) := by
 refine bh (Oq _ _) fun R H h => ?_;refine aa (fV (by omega)) ?_;refine gt ?_;refine aa (HS (bP ?_)) ?_
 ·omega
 refine gt ?_;refine aa (HS (fV ?_)) ?_
 ·omega
 refine gt ?_;refine bZ (fun hc => by cases hc) (fun _ => ?_);refine aa (ej (by omega) (by omega)) ?_
 have hs2 : (s : Int).toNat = s := by omega
 rw [hs2];refine aa (arQ (by omega)) ?_;refine aa (gh (by omega)) ?_;exact am ⟨(), rfl, h.to⟩
theorem dZ (w : Nat) : aG w ≤ 2305843009213693951 := by unfold aG; split <;> omega
theorem aoT {w : Nat} (h : dd w = true ∧ aN w ≠ 2 ∧ aG w < 2305843009213693951) : aP w 0 = some (aG w + 1 + 2305843009213693952) := if_pos h
theorem O3 {w : Nat} (h : ¬ (dd w = true ∧ aN w ≠ 2 ∧ aG w < 2305843009213693951)) : aP w 0 = none := if_neg h
theorem aoV {w : Nat} (h : aN w = 1) : aP w 1 = some (aG w) := if_pos h
theorem aoU {w : Nat} (h : ¬ aN w = 1) : aP w 1 = none := if_neg h
theorem aoX {w : Nat} (h : aN w = 0) : aP w 2 = some (aG w + 4611686018427387904) := if_pos h
theorem aoW {w : Nat} (h : ¬ aN w = 0) : aP w 2 = none := if_neg h
theorem aaR (w : Nat) (hw : w < 18446744073709551616) : Sp og [vu w] emp (fun _ : Unit => F8 (aP w 0)) (fun _ => emp) := by
 refine bh (MX _) fun R H h => ?_;have hcl := dZ w;refine af (by assumption) (wJ w) fun _ _ _ => ?_;refine aa (Hq) ?_
 by_cases hr : dd w = true
 ·rw [hr, Bool.not_true]
  refine gt ?_;refine af (by assumption) (i1 w hw) fun _ _ _ => ?_;refine aa (HS (fq)) ?_
  by_cases hs : aN w = 2
  ·rw [beq_iff_eq.2 hs]
   refine gt ?_;refine bZ (fun _ => ?_) (fun hc => by cases hc);exact am ⟨(), by rw [O3 (fun h => h.2.1 hs)]; rfl, ac.to (by assumption)⟩
  ·rw [beq_eq_false_iff_ne.2 hs]
   refine gt ?_;refine af (by assumption) (gR w hw) fun _ _ _ => ?_;refine aa (HS (fq)) ?_;refine gt ?_;refine bZ (fun hc => ?_) (fun hc => ?_)
   ·have hc : (aG w : Int) = 2305843009213693951 := by simpa using hc
    exact am ⟨(), by rw [O3 (fun h => by have := h.2.2; omega)]; rfl, ac.to (by assumption)⟩
   ·have hc : ¬ (aG w : Int) = 2305843009213693951 := by simpa using hc
    have ht := aoT (w := w) ⟨hr, hs, by omega⟩;refine af (by assumption) (gR w hw) fun _ _ _ => ?_;refine aa (gh (b := 1) (by omega)) ?_;refine af (by assumption) (Bm (aG w + 1) 1 (by omega) (by omega)) fun _ _ _ => ?_;refine aa rfl ?_;refine aa rfl ?_;refine am ⟨(), ?_, ac.to (by assumption)⟩;rw [ht];simp [F8];omega
 ·have hr : dd w = false := by simpa using hr
  rw [hr, Bool.not_false];refine gt ?_;refine bZ (fun _ => ?_) (fun hc => by cases hc);exact am ⟨(), by rw [O3 (fun h => by rw [hr] at h; cases h.1)]; rfl, ac.to (by assumption)⟩
theorem aaS (w : Nat) (hw : w < 18446744073709551616) : Sp oh [vu w] emp (fun _ : Unit => F8 (aP w 1)) (fun _ => emp) := by
 refine bh (MZ _) fun R H h => ?_;have hcl := dZ w;refine af (by assumption) (i1 w hw) fun _ _ _ => ?_;refine aa (tI) ?_;refine bZ (fun hc => ?_) (fun hc => ?_)
 ·have hc : ¬ aN w = 1 := by simpa using hc
  exact am ⟨(), by rw [aoU hc]; rfl, ac.to (by assumption)⟩
 ·have hc : aN w = 1 := by simpa using hc
  refine af (by assumption) (gR w hw) fun _ _ _ => ?_;refine af (by assumption) (Bm (aG w) 0 (by omega) (by omega)) fun _ _ _ => ?_;refine aa rfl ?_;refine aa rfl ?_;exact am ⟨(), by rw [aoV hc]; simp [F8], ac.to (by assumption)⟩
theorem aaT (w : Nat) (hw : w < 18446744073709551616) : Sp ol [vu w] emp (fun _ : Unit => F8 (aP w 2)) (fun _ => emp) := by
 refine bh (M0 _) fun R H h => ?_;have hcl := dZ w;refine af (by assumption) (i1 w hw) fun _ _ _ => ?_;refine aa (tI) ?_;refine bZ (fun hc => ?_) (fun hc => ?_)
 ·have hc : ¬ aN w = 0 := by simpa using hc
  exact am ⟨(), by rw [aoW hc]; rfl, ac.to (by assumption)⟩
 ·have hc : aN w = 0 := by simpa using hc
  refine af (by assumption) (gR w hw) fun _ _ _ => ?_;refine af (by assumption) (Bm (aG w) 2 (by omega) (by omega)) fun _ _ _ => ?_;refine aa rfl ?_;refine aa rfl ?_;refine am ⟨(), ?_, ac.to (by assumption)⟩;rw [aoX hc];simp [F8];omega
theorem RC (w how : Nat) (hw : w < 18446744073709551616) (hh : how < 3) : Sp qu [vu w, vi (how : Int)] emp (fun _ : Unit => F8 (aP w how)) (fun _ => emp) := by
 refine bh (Ic _ _) fun R H h => ?_;have hcl := dZ w;refine af (by assumption) (pN w hw) fun _ H1 h1 => ?_;refine aa rfl ?_;refine aa rfl ?_;refine aa rfl ?_;refine ah (AC _ _ _ _ _ _ H1) ?_;refine aa (Hq) ?_;refine bZ (fun hc => ?_) (fun hc => ?_)
 ·have hc : dd w = false := by simpa using hc
  have : aP w how = none := by
   match how, hh with
   | 0, _ => simp [aP, hc]
   | 1, _ => simp [aP, aN, hc]
   | 2, _ => simp [aP, aN, hc]
  exact am ⟨(), by rw [this]; rfl, ac.to (by assumption)⟩
 ·have hr : dd w = true := by simpa using hc
  match how, hh with
  | 0, _ =>
   refine aa (bg rfl) ?_;refine gt ?_;refine aa (HS (tI)) ?_;refine gt ?_
   by_cases hs : aN w = 2
   ·rw [bne_eq_false_iff_eq.2 hs]
    refine gt ?_;refine bZ (fun hc => by cases hc) (fun _ => ?_);refine aa (aE ?_) ?_
    ·omega
    refine gt ?_;refine bZ (fun hc => by cases hc) (fun _ => ?_);refine aa (aE ?_) ?_
    ·omega
    refine gt ?_;refine bZ (fun hc => by cases hc) (fun _ => ?_);refine ah (ia _ _ H1) ?_;exact am ⟨(), by rw [O3 (fun h => h.2.1 hs)]; rfl, ac.to (by assumption)⟩
   ·rw [bne_iff_ne.2 hs]
    refine gt ?_;refine aa (HS (tG)) ?_;refine gt ?_;refine bZ (fun hc => ?_) (fun hc => ?_)
    ·have hc : (aG w : Int) < 2305843009213693951 := by simpa using hc
     have ht := aoT (w := w) ⟨hr, hs, by omega⟩;refine aa (gh (b := 1) (by omega)) ?_;refine af (by assumption) (Gf (aG w + 1) 1 (by omega) (by omega)) fun _ _ _ => ?_;refine aa rfl ?_;refine aa rfl ?_;refine am ⟨(), ?_, ac.to (by assumption)⟩;rw [ht];simp [F8];omega
    ·have hc : ¬ (aG w : Int) < 2305843009213693951 := by simpa using hc
     refine aa (aE ?_) ?_
     ·omega
     refine gt ?_;refine bZ (fun hc => by cases hc) (fun _ => ?_);refine aa (aE ?_) ?_
     ·omega
     refine gt ?_;refine bZ (fun hc => by cases hc) (fun _ => ?_);refine ah (ia _ _ H1) ?_;exact am ⟨(), by rw [O3 (fun h => by have := h.2.2; omega)]; rfl, ac.to (by assumption)⟩
  | 1, _ =>
   refine aa (aE ?_) ?_
   ·omega
   refine gt ?_;refine bZ (fun hc => by cases hc) (fun _ => ?_);refine aa (bg rfl) ?_;refine gt ?_;refine aa (HS (fq)) ?_;refine gt ?_;refine bZ (fun hc => ?_) (fun hc => ?_)
   ·have hc : aN w = 1 := by simpa using hc
    refine af (by assumption) (Gf (aG w) 0 (by omega) (by omega)) fun _ _ _ => ?_;refine aa rfl ?_;refine aa rfl ?_;exact am ⟨(), by rw [aoV hc]; simp [F8], ac.to (by assumption)⟩
   ·have hc : ¬ aN w = 1 := by simpa using hc
    refine aa (aE ?_) ?_
    ·omega
    refine gt ?_;refine bZ (fun hc => by cases hc) (fun _ => ?_);refine ah (ia _ _ H1) ?_;exact am ⟨(), by rw [aoU hc]; rfl, ac.to (by assumption)⟩
  | 2, _ =>
   refine aa (aE ?_) ?_
   ·omega
   refine gt ?_;refine bZ (fun hc => by cases hc) (fun _ => ?_);refine aa (aE ?_) ?_
   ·omega
   refine gt ?_;refine bZ (fun hc => by cases hc) (fun _ => ?_);refine aa (bg rfl) ?_;refine gt ?_;refine aa (HS (fq)) ?_;refine gt ?_;refine bZ (fun hc => ?_) (fun hc => ?_)
   ·have hc : aN w = 0 := by simpa using hc
    refine af (by assumption) (Gf (aG w) 2 (by omega) (by omega)) fun _ _ _ => ?_;refine aa rfl ?_;refine aa rfl ?_;refine am ⟨(), ?_, ac.to (by assumption)⟩;rw [aoX hc];simp [F8];omega
   ·have hc : ¬ aN w = 0 := by simpa using hc
    refine ah (ia _ _ H1) ?_;exact am ⟨(), by rw [aoW hc]; rfl, ac.to (by assumption)⟩
theorem B2 (s : Int) : Sp kK [vi s] emp (fun _ : Unit => eO (8, s, 0)) (fun _ => emp) := by
 refine bh (Hg _) fun R H h => ?_
 repeat (first | refine br ‹_› fun _ _ _ => ?_ | refine aZ ‹_› ?_ | refine fi ‹_› rfl rfl fun _ _ => ?_ | refine jc ?_)
 exact am ⟨(), rfl, ac.to (by assumption)⟩
theorem wH (s i : Int) : Sp jB [vi s, vi i] emp (fun _ : Unit => eO (10, s, i)) (fun _ => emp) := by
 refine bh (Ix _ _) fun R H h => ?_
 repeat (first | refine br ‹_› fun _ _ _ => ?_ | refine aZ ‹_› ?_ | refine fi ‹_› rfl rfl fun _ _ => ?_ | refine jc ?_)
 exact am ⟨(), rfl, ac.to (by assumption)⟩
theorem dG (k a b : Int) : Sp bY [vi k, vi a, vi b] emp (fun _ : Unit => eO (k, a, b)) (fun _ => emp) := by
 refine bh (RH _ _ _) fun R H h => ?_
 repeat (first | refine br ‹_› fun _ _ _ => ?_ | refine aZ ‹_› ?_ | refine fi ‹_› rfl rfl fun _ _ => ?_ | refine jc ?_)
 exact am ⟨(), rfl, ac.to (by assumption)⟩
def tab (t m : Nat) (sh sl : Nat) : SP := blk t (.cells false [vp m, vi sh, vi sl])
section
variable (t m : Nat) (sh sl : Nat) (μ : Mu) (who s i : Int)
theorem B5 : Sp dN [vp t] (tab t m sh sl) (fun _ : Unit => vi sl) (fun _ => tab t m sh sl) := by
 refine bh (tn _) fun R H h => ?_;unfold tab at h ⊢
 repeat refine ak ‹_› ae rfl ?_
 exact am ⟨(), rfl, ac.to (by assumption)⟩
theorem wG (hE : μ.N < 1099511627000) : Sp eg [vp t, vi who, vi s] (tab t m sh sl * bF m μ) (fun _ : Unit => vb (decide (μ.V (8, s, 0) = 0))) (fun _ => tab t m sh sl * bF m (μ.swp who (8, s, 0) 0 1)) := by
 refine bh (uC _ _ _) fun R H h => ?_;unfold tab at h ⊢
 repeat refine ak ‹_› ae rfl ?_
 refine af (by assumption) (B2 s) fun _ _ _ => ?_
 repeat refine aI ‹_› ‹_› rfl ?_
 refine af (by assumption) (Ru m μ who (8, s, 0) 0 1 (by omega)) fun _ _ _ => ?_;exact am ⟨(), rfl, ac.to (by assumption)⟩
theorem zG (hE : μ.N < 1099511627000) : Sp e7 [vp t, vi who, vi s] (tab t m sh sl * bF m μ) (fun _ : Unit => .tuple #[]) (fun _ => tab t m sh sl * bF m ((μ.acc who 2 (8, s, 0)).put (8, s, 0) 0)) := by
 refine bh (rK _ _ _) fun R H h => ?_;unfold tab at h ⊢
 repeat refine ak ‹_› ae rfl ?_
 refine af (by assumption) (B2 s) fun _ _ _ => ?_
 repeat refine aI ‹_› ‹_› rfl ?_
 refine af (by assumption) (D7 m μ who (8, s, 0) 0 (by omega)) fun _ _ _ => ?_;exact am ⟨(), rfl, ac.to (by assumption)⟩
theorem OW (hE : μ.N < 1099511627000) : Sp iy [vp t, vi who, vi s, vi i] (tab t m sh sl * bF m μ) (fun _ : Unit => .tuple #[]) (fun _ => tab t m sh sl * bF m ((μ.acc who 2 (10, s, i)).put (10, s, i) 0)) := by
 refine bh (tl _ _ _ _) fun R H h => ?_;unfold tab at h ⊢
 repeat refine ak ‹_› ae rfl ?_
 refine af (by assumption) (wH s i) fun _ _ _ => ?_
 repeat refine aI ‹_› ‹_› rfl ?_
 refine af (by assumption) (D7 m μ who (10, s, i) 0 (by omega)) fun _ _ _ => ?_;exact am ⟨(), rfl, ac.to (by assumption)⟩
theorem Ov (hE : μ.N < 1099511627000) : Sp hF [vp t, vi who, vi s] (tab t m sh sl * bK m μ) (fun _ : Unit => vb (decide (μ.V (8, s, 0) = 0))) (fun _ => tab t m sh sl * bK m (μ.swp who (8, s, 0) 0 1)) := by
 refine bh (zc _ _ _) fun R H h => ?_;unfold tab at h ⊢
 repeat refine ak ‹_› ae rfl ?_
 refine af (by assumption) (dG 8 s 0) fun _ _ _ => ?_
 repeat refine aI ‹_› ‹_› rfl ?_
 refine af (by assumption) (GJ m μ who (8, s, 0) 0 1 (by omega)) fun _ _ _ => ?_;exact am ⟨(), rfl, ac.to (by assumption)⟩
theorem wn (hE : μ.N < 1099511627000) : Sp ed [vp t, vi who, vi s] (tab t m sh sl * bK m μ) (fun _ : Unit => .tuple #[]) (fun _ => tab t m sh sl * bK m ((μ.acc who 2 (8, s, 0)).put (8, s, 0) 0)) := by
 refine bh (uy _ _ _) fun R H h => ?_;unfold tab at h ⊢
 repeat refine ak ‹_› ae rfl ?_
 refine af (by assumption) (dG 8 s 0) fun _ _ _ => ?_
 repeat refine aI ‹_› ‹_› rfl ?_
 refine af (by assumption) (uh m μ who (8, s, 0) 0 (by omega)) fun _ _ _ => ?_;exact am ⟨(), rfl, ac.to (by assumption)⟩
theorem ZB (hE : μ.N < 1099511627000) : Sp jA [vp t, vi who, vi s, vi i] (tab t m sh sl * bK m μ) (fun _ : Unit => .tuple #[]) (fun _ => tab t m sh sl * bK m ((μ.acc who 2 (10, s, i)).put (10, s, i) 0)) := by
 refine bh (wh _ _ _ _) fun R H h => ?_;unfold tab at h ⊢
 repeat refine ak ‹_› ae rfl ?_
 refine af (by assumption) (dG 10 s i) fun _ _ _ => ?_
 repeat refine aI ‹_› ‹_› rfl ?_
 refine af (by assumption) (uh m μ who (10, s, i) 0 (by omega)) fun _ _ _ => ?_;exact am ⟨(), rfl, ac.to (by assumption)⟩
def io (v : Nat) : Value := if v = 0 then .tuple #[vi 0, vi 0, vb false] else .tuple #[vi ((v / 4294967296 : Nat) - 1), vi (v % 4294967296 : Nat), vb true]
theorem B4 (hE : μ.N < 1099511627000) (hV : μ.V (10, s, i) < 18446744073709551616) :
 Sp f3 [vp t, vi who, vi s, vi i] (tab t m sh sl * bF m μ) (fun _ : Unit => io (μ.V (10, s, i))) (fun _ => tab t m sh sl * bF m (μ.acc who 1 (10, s, i))) := by
 refine bh (uD _ _ _ _) fun R H h => ?_;unfold tab at h ⊢
 repeat refine ak ‹_› ae rfl ?_
 refine af (by assumption) (wH s i) fun _ _ _ => ?_
 repeat refine aI ‹_› ‹_› rfl ?_
 refine af (by assumption) (Ga m μ who (10, s, i) (by omega)) fun _ _ _ => ?_;refine aa (an5 (b := 0)) ?_;refine bZ (fun hc => ?_) (fun hc => ?_)
 ·have hc : μ.V (10, s, i) = 0 := by simpa using hc
  refine am ⟨(), by rw [io, if_pos hc], ac.to (by assumption)⟩
 ·have hc : ¬ μ.V (10, s, i) = 0 := by simpa using hc
  refine aa (arZ) ?_;refine aa (ji (by omega)) ?_;refine aa (gS (by omega) (by omega)) ?_;refine aa (arE hV) ?_;refine aa (ji (by omega)) ?_;refine am ⟨(), by rw [io, if_neg hc], ac.to (by assumption)⟩
theorem Jr (hE : μ.N < 1099511627000) (hV : μ.V (10, s, i) < 18446744073709551616) :
 Sp km [vp t, vi who, vi s, vi i] (tab t m sh sl * bK m μ) (fun _ : Unit => io (μ.V (10, s, i))) (fun _ => tab t m sh sl * bK m (μ.acc who 1 (10, s, i))) := by
 refine bh (zd _ _ _ _) fun R H h => ?_;unfold tab at h ⊢
 repeat refine ak ‹_› ae rfl ?_
 refine af (by assumption) (dG 10 s i) fun _ _ _ => ?_
 repeat refine aI ‹_› ‹_› rfl ?_
 refine af (by assumption) (td m μ who (10, s, i) (by omega)) fun _ _ _ => ?_;refine aa (an5 (b := 0)) ?_;refine bZ (fun hc => ?_) (fun hc => ?_)
 ·have hc : μ.V (10, s, i) = 0 := by simpa using hc
  refine am ⟨(), by rw [io, if_pos hc], ac.to (by assumption)⟩
 ·have hc : ¬ μ.V (10, s, i) = 0 := by simpa using hc
  refine aa (arS hV) ?_;refine aa (ji (by omega)) ?_;refine aa (gS (by omega) (by omega)) ?_;refine aa (arU) ?_;refine aa (ji (by omega)) ?_;refine am ⟨(), by rw [io, if_neg hc], ac.to (by assumption)⟩
end
def ez (v n : Int) : Int := (v % 18446744073709551616) % n
theorem fv {v n : Int} (h : 0 < n) : 0 ≤ ez v n ∧ ez v n < n := ⟨Int.emod_nonneg _ (by omega), Int.emod_lt_of_pos _ h⟩
theorem da (v n : Int) (h0 : 0 < n) (h1 : n < 9223372036854775808) : Sp bz [vi v, vi n] emp (fun _ : Unit => vi (ez v n)) (fun _ => emp) := by
 refine bh (Ok _ _) fun R H h => ?_
 have e1 : cL (some .u64) (vi v) = some (vu (v % 18446744073709551616).toNat) := by
  simp only [cL];rw [Hv];have : 0 ≤ v % 18446744073709551616 := Int.emod_nonneg _ (by omega);show _ = some (Value.int .u64 (((v % 18446744073709551616).toNat : Nat) : Int));rw [Int.toNat_of_nonneg this]
 refine aa (e1) ?_;refine aa (ej (by omega) (by omega)) ?_;refine aa (j0 (by omega)) ?_;have hm := fv (v := v) h0
 have e2 : (((v % 18446744073709551616).toNat % n.toNat : Nat) : Int) = ez v n := by
  have : 0 ≤ v % 18446744073709551616 := Int.emod_nonneg _ (by omega);unfold ez;rw [Int.natCast_emod, Int.toNat_of_nonneg this, Int.toNat_of_nonneg (by omega)]
 refine aa (ji (by omega)) ?_;rw [e2];exact am ⟨(), rfl, ac.to (by assumption)⟩
structure i5 where
 sh : Int
 sl : Int
 wk : Int
 wd : Int
 un : Nat
abbrev i5.cells (c : i5) : List Value := [vi c.sh, vi c.sl, vi c.wk, vi c.wd, vu c.un]
structure Cl where
 op : Int
 flow : Int
 a : Int
 b : Int
abbrev Cl.cells (x : Cl) : List Value := [vi x.op, vi x.flow, vi x.a, vi x.b]
instance : Enc Cl.cells 4 := ⟨fun _ => rfl, fun _ => rfl, by omega⟩
structure Sv where
 a : Option Addr
 n : Nat
 c : Nat
abbrev Sv.v (s : Sv) : Value := .slice s.a s.n s.c
abbrev asI (s : Sv) : List Value := [.slice s.a s.n s.c]
instance : Enc asI 1 := ⟨fun _ => rfl, fun _ => rfl, by omega⟩
def cQ (c : i5) : Bool := decide (1 ≤ c.sh ∧ c.sh ≤ 4 ∧ 1 ≤ c.sl ∧ c.sl ≤ 4 ∧ 1 ≤ c.wk ∧ c.wk ≤ 6 ∧ 0 ≤ c.wd ∧ c.wd ≤ 40 ∧ 1 ≤ c.un ∧ c.un ≤ 4611686018427387904)
theorem bL {c : i5} : cQ c = true ↔ (1 ≤ c.sh ∧ c.sh ≤ 4 ∧ 1 ≤ c.sl ∧ c.sl ≤ 4 ∧ 1 ≤ c.wk ∧ c.wk ≤ 6 ∧ 0 ≤ c.wd ∧ c.wd ≤ 40 ∧ 1 ≤ c.un ∧ c.un ≤ 4611686018427387904) := by unfold cQ; exact decide_eq_true_iff
theorem mJ {c : i5} (h : ¬ (1 ≤ c.sh ∧ c.sh ≤ 4 ∧ 1 ≤ c.sl ∧ c.sl ≤ 4 ∧ 1 ≤ c.wk ∧ c.wk ≤ 6 ∧ 0 ≤ c.wd ∧ c.wd ≤ 40 ∧ 1 ≤ c.un ∧ c.un ≤ 4611686018427387904)) : cQ c = false := by unfold cQ; exact d4 h
theorem gZ (x a b : Int) : Sp fI [vi x, vi a, vi b] emp (fun _ : Unit => vb (decide (a ≤ x ∧ x ≤ b))) (fun _ => emp) := by
 refine bh (CN _ _ _) fun R H h => ?_
 by_cases h1 : a ≤ x
 ·refine aa (jV h1) ?_
  refine gs ?_
  by_cases h2 : x ≤ b
  ·refine aa (Vu h2) ?_
   refine gs ?_;rw [eu ⟨h1, h2⟩];exact am ⟨(), rfl, ac.to (by assumption)⟩
  ·refine aa (Vt h2) ?_
   refine gs ?_;rw [d4 (fun h => h2 h.2)];exact am ⟨(), rfl, ac.to (by assumption)⟩
 ·refine aa (il h1) ?_
  refine gs ?_;rw [d4 (fun h => h1 h.1)];exact am ⟨(), rfl, ac.to (by assumption)⟩
theorem Oa (c : i5) : Sp oS [.agg (i5.cells c).toArray] emp (fun _ : Unit => vb (cQ c)) (fun _ => emp) := by
 refine bh (F5 _) fun R H h => ?_;refine ba h fun b H1 h1 => ?_;refine ak h1 aD rfl ?_;refine af h1 (gZ c.sh 1 4) fun _ K0 k0 => ?_
 by_cases g0 : (1 : Int) ≤ c.sh ∧ c.sh ≤ 4
 case neg =>
  rw [d4 g0];refine gs ?_;rw [mJ (by omega)];exact am ⟨(), rfl, ac.to (by assumption)⟩
 rw [eu g0];refine gs ?_;refine ak k0 aD rfl ?_;refine gs ?_;refine af k0 (gZ c.sl 1 4) fun _ K1 k1 => ?_
 by_cases g1 : (1 : Int) ≤ c.sl ∧ c.sl ≤ 4
 case neg =>
  rw [d4 g1];refine gs ?_;rw [mJ (by omega)];exact am ⟨(), rfl, ac.to (by assumption)⟩
 rw [eu g1];refine gs ?_;refine ak k1 aD rfl ?_;refine gs ?_;refine af k1 (gZ c.wk 1 6) fun _ K2 k2 => ?_
 by_cases g2 : (1 : Int) ≤ c.wk ∧ c.wk ≤ 6
 case neg =>
  rw [d4 g2];refine gs ?_;rw [mJ (by omega)];exact am ⟨(), rfl, ac.to (by assumption)⟩
 rw [eu g2];refine gs ?_;refine ak k2 aD rfl ?_;refine gs ?_;refine af k2 (gZ c.wd 0 40) fun _ K3 k3 => ?_
 by_cases g3 : (0 : Int) ≤ c.wd ∧ c.wd ≤ 40
 case neg =>
  rw [d4 g3];refine gs ?_;rw [mJ (by omega)];exact am ⟨(), rfl, ac.to (by assumption)⟩
 rw [eu g3];refine gs ?_;refine ak k3 aD rfl ?_;refine gs ?_
 by_cases g4 : (1 : Int) ≤ c.un
 case neg =>
  refine aa (il g4) ?_;refine gs ?_;rw [mJ (by omega)];exact am ⟨(), rfl, ac.to (by assumption)⟩
 refine aa (jV g4) ?_;refine gs ?_;refine ak k3 aD rfl ?_;refine gs ?_
 by_cases g5 : (c.un : Int) ≤ 4611686018427387904
 case neg =>
  refine aa (Vt g5) ?_;refine gs ?_;rw [mJ (by omega)];exact am ⟨(), rfl, ac.to (by assumption)⟩
 refine aa (Vu g5) ?_;refine gs ?_;rw [bL.2 (by omega)];exact am ⟨(), rfl, ac.to (by assumption)⟩
theorem Hu (w : Int) : Sp qx [vi w] emp (fun x : Int => vi x) (fun _ => emp) := by
 refine bh (Iy _) fun R H h => ?_;refine aa (gL) ?_;refine aa (lN) ?_;exact am ⟨_, rfl, h⟩
theorem aaQ (w : Int) : Sp sR [vi w] emp (fun b : Nat => vp b) (fun _ => emp) := by
 refine bh (MW _) fun R H h => ?_;refine af h (Hu w) fun x H1 h1 => ?_;refine zJ h1 fun mb H2 h2 => ?_;refine O6 rfl ?_;refine ba h2 fun b H3 h3 => ?_;exact am ⟨b, rfl, h3.to⟩
theorem agF : Sp vI [] emp (fun b : Nat => vp b) (fun _ => emp) := by
 refine bh NY fun R H h => ?_;refine zJ h fun mb H2 h2 => ?_;refine jc ?_;refine ba h2 fun b H3 h3 => ?_;exact am ⟨b, rfl, h3.to⟩
theorem Z1 (w : Int) : Sp sP [vi w] emp (fun b : Nat => vp b) (fun _ => emp) := by
 refine bh (MM _) fun R H h => ?_;refine af h (aaQ w) fun x H1 h1 => ?_;refine af h1 agF fun y H2 h2 => ?_;refine jc ?_;refine ba h2 fun b H3 h3 => ?_;exact am ⟨b, rfl, h3.to⟩
theorem ahQ (m : Nat) (s : Int) : Sp vN [vp m, vi s] emp (fun b : Nat => vp b) (fun _ => emp) := by
 refine bh (Om _ _) fun R H h => ?_;refine aa (gL) ?_;refine aa (lN) ?_;refine zJ h fun mb H2 h2 => ?_;refine zJ h2 fun mc H3 h3 => ?_;refine jc ?_;refine ba h3 fun b H4 h4 => ?_;exact am ⟨b, rfl, h4.to⟩
structure Lf where
 k : Int
 i : Int
 b : Bool
abbrev Lf.cells (x : Lf) : List Value := [vw x.k, vi x.i, vb x.b]
instance : Enc Lf.cells 3 := ⟨fun _ => rfl, fun _ => rfl, by omega⟩
def Hi (t : Nat) (lv : Value) (s : Nat) (nv : Value) (m : List Int) : SP := blk t (.cells false [lv, vi s, nv]) * ts 1 cr nv m
theorem ajE (n : Int) : Sp vR [vi n] emp (fun b : Nat => vp b) (fun _ => emp) := by
 refine bh (OZ _) fun R H h => ?_;refine aa (gL) ?_;refine aa (lN) ?_;obtain ⟨k, hk⟩ : ∃ k : Nat, min (max n 1) 16 = k := ⟨(min (max n 1) 16).toNat, by omega⟩;rw [hk]
 have hk1 : 1 ≤ k := by omega
 have hk16 : k ≤ 16 := by omega
 refine MT (enc := Lf.cells) (⟨0, 0, false⟩ : Lf) h rfl (by unfold room; omega) (by omega) fun lb H1 h1 => ?_;refine jc ?_;refine ba h1 fun t H2 h2 => ?_;refine ah (Hj _ _ _ H2) ?_
 -- the nodes
 have nodes : ∀ (s : Nat) (H : AH), s ≤ 32 → ac (Hi t (vs lb k 3) s (.slice none 0 0) [] * R) H → wp (tr (.pointer none) (vp t) H) fun v' H' => ∃ b : Nat, v' = vp b ∧ ac (emp * R) H' := by
  intro s H hs h;refine ah (Hk _ _ H) ?_;unfold Hi at h;refine ak h ae rfl ?_;refine aa (tH (by omega) (by omega)) ?_;refine ah (Hm _ _ _ _ H) ?_
  have loop : ∀ (d i : Nat) (nv : Value) (m : List Int) (H : AH), i + d = 2 * s → m.length = i → ac (blk t (.cells false [vs lb k 3, vi s, nv]) * ts 1 cr nv m * R) H → wp (oG (.pointer none) (vp t) (vi (2 * (s : Int))) (vi i) H) fun v' H' => ∃ b : Nat, v' = vp b ∧ ac (emp * R) H' := by
   intro d
   induction d with
   | zero =>
    intro i nv m H hi hm h;refine ah (tt _ _ _ _ H) ?_;refine aa (bP (by omega)) ?_;refine gs ?_;refine ah (Bj _ _ H) ?_;refine ah (Hl _ _ H) ?_;exact am ⟨t, rfl, h.to⟩
   | succ d ih =>
    intro i nv m H hi hm h;refine ah (tt _ _ _ _ H) ?_;refine aa (cE (by omega)) ?_;refine gs ?_;refine ah (Hn _ _ _ _ H) ?_;refine ak h ae rfl ?_;refine MS h fun b0 H3 h3 => ?_;refine f5 (-1 : Int) h3 rfl ?_ (by omega) fun a c H4 h4 => ?_
    ·unfold room; omega
    refine bk h4 ae rfl rfl fun H5 h5 => ?_;refine ah (Ho _ _ _ _ H5) ?_;refine aa (aS (by omega) (by omega)) ?_;refine ih (i + 1) (.slice a (m.length + 1) c) (m ++ [-1]) H5 (by omega) (by simp; omega) h5.to
  exact loop (2 * s) 0 (.slice none 0 0) [] H (by omega) rfl h
 -- the size
 have size : ∀ (d s : Nat) (H : AH), 16 ≤ s + d → 1 ≤ s → s ≤ 32 → ac (Hi t (vs lb k 3) s (.slice none 0 0) [] * R) H → wp (mo (vi k) (.pointer none) (vp t) H) fun v' H' => ∃ b : Nat, v' = vp b ∧ ac (emp * R) H' := by
  intro d
  induction d with
  | zero =>
   intro s H hd hs1 hs h;refine ah (ry _ _ _ H) ?_;have h' := h;unfold Hi at h';refine ak h' ae rfl ?_;refine aa (bP (by omega)) ?_;refine gs ?_;refine ah (oF _ _ H) ?_;exact nodes s H hs h
  | succ d ih =>
   intro s H hd hs1 hs h;refine ah (ry _ _ _ H) ?_;have h' := h;unfold Hi at h';refine ak h' ae rfl ?_
   by_cases hlt : (s : Int) < k
   ·refine aa (cE hlt) ?_
    refine gs ?_;refine ah (DD _ _ _ H) ?_;refine ak h' ae rfl ?_;refine aa (tH (by omega) (by omega)) ?_;refine bk h' ae rfl rfl fun H3 h3 => ?_;refine ih (s * 2) H3 (by omega) (by omega) (by omega) ?_;unfold Hi;rw [show (((s * 2 : Nat) : Int)) = (s : Int) * 2 from by omega];exact h3.to
   ·refine aa (bP hlt) ?_
    refine gs ?_;refine ah (oF _ _ H) ?_;exact nodes s H hs h
 refine size 16 1 H2 (by omega) (by omega) (by omega) ?_;unfold Hi;have h3 := dL 1 cr h2;exact h3.to
abbrev nT (b : Nat) : List Value := [vp b]
instance : Enc nT 1 := ⟨fun _ => rfl, fun _ => rfl, by omega⟩
theorem Zw (n w : Int) : Sp sL [vi n, vi w] emp (fun b : Nat => vp b) (fun _ => emp) := by
 refine bh (Mf _ _) fun R H h => ?_;refine aa (gL) ?_;refine aa (lN) ?_;obtain ⟨k, hk⟩ : ∃ k : Nat, min (max n 1) 16 = k := ⟨(min (max n 1) 16).toNat, by omega⟩;rw [hk]
 have hk16 : k ≤ 16 := by omega
 refine af h (ajE k) fun tb H1 h1 => ?_;refine jc ?_;refine ba h1 fun q H2 h2 => ?_;refine ah (CU _ _ _ _ H2) ?_;refine ah (CW _ _ _ _ _ H2) ?_
 have loop : ∀ (d i : Nat) (nv : Value) (m : List Nat) (H : AH), i + d = k → m.length = i → ac (blk q (.cells false [nv, vp tb]) * ts 1 nT nv m * R) H → wp (mg (vi w) (.pointer none) (vp q) (vi k) (vi i) H) fun v' H' => ∃ b : Nat, v' = vp b ∧ ac (emp * R) H' := by
  intro d
  induction d with
  | zero =>
   intro i nv m H hi hm h;refine ah (qZ _ _ _ _ _ H) ?_;refine aa (bP (by omega)) ?_;refine gs ?_;refine ah (yG _ _ H) ?_;refine ah (CV _ _ H) ?_;exact am ⟨q, rfl, h.to⟩
  | succ d ih =>
   intro i nv m H hi hm h;refine ah (qZ _ _ _ _ _ H) ?_;refine aa (cE (by omega)) ?_;refine gs ?_;refine ah (CX _ _ _ _ _ H) ?_;refine bC ae ?_;refine aV h rfl ?_;refine af h (Z1 w) fun sb H3 h3 => ?_;refine aI h3 h rfl ?_;refine MS h3 fun b0 H4 h4 => ?_;refine f5 (sb : Nat) h4 rfl ?_ (by omega) fun a c H5 h5 => ?_
   ·unfold room; omega
   refine bk h5 ae rfl rfl fun H6 h6 => ?_;refine ah (CY _ _ _ _ _ H6) ?_;refine aa (aS (by omega) (by omega)) ?_;exact ih (i + 1) (.slice a (m.length + 1) c) (m ++ [sb]) H6 (by omega) (by simp; omega) h6.to
 refine loop k 0 (.slice none 0 0) [] H2 (by omega) rfl ?_;have h3 := dL 1 nT h2;exact h3.to
theorem ab8 (c : i5) : Sp vH [.agg (i5.cells c).toArray] emp (fun b : Nat => vp b) (fun _ => emp) := by
 refine bh (Nu _) fun R H h => ?_;refine ba h fun cb H1 h1 => ?_;refine ak h1 aD rfl ?_;refine ak h1 aD rfl ?_;refine af h1 (Zw c.sh c.wd) fun q H2 h2 => ?_;refine zJ h2 fun mb H3 h3 => ?_;refine zJ h3 fun mc H4 h4 => ?_;refine jc ?_;refine ba h4 fun b H5 h5 => ?_;exact am ⟨b, rfl, h5.to⟩
theorem R7 {cl : TCls} {w : Nat} (n : Nat) (h : n ≠ 0) : aj cl .rem (vu w) (.int .u64 (n : Int)) = some (vu (w % n)) := j0 h
theorem EO (b b2 : Nat) (c : i5) (u : Nat) (hu : 1 ≤ u ∧ u ≤ 4611686018427387904) {R : SP} {H : AH} (h : ac (blk b2 (.cells false [vi 0, vi 0, vi 0, vi 0, vw 0]) * (blk b (.cells false (i5.cells c)) * R)) H) :
 wp (jH (vp b) (vp b2) (vu u) H) fun v' H' => ∃ c' : i5, v' = .agg (i5.cells c').toArray ∧ ac (pu (cQ c' = true) * R) H' := by
 refine ah (yF _ _ _ H) ?_;refine ak h aD rfl ?_;refine af h (da c.sh 4 (by omega) (by omega)) fun _ H1 h1 => ?_;have m1 := fv (v := c.sh) (n := 4) (by omega);refine aa (aS (by omega) (by omega)) ?_;refine bC aD ?_;refine aV h1 rfl ?_;refine aI h h1 rfl ?_;refine af h1 (da c.sl 4 (by omega) (by omega)) fun _ H2 h2 => ?_;have m2 := fv (v := c.sl) (n := 4) (by omega);refine aa (aS (by omega) (by omega)) ?_;refine bC aD ?_;refine aV h2 rfl ?_;refine aI h h2 rfl ?_;refine aI h1 h2 rfl ?_;refine af h2 (da c.wk 6 (by omega) (by omega)) fun _ H3 h3 => ?_;have m3 := fv (v := c.wk) (n := 6) (by omega);refine aa (aS (by omega) (by omega)) ?_;refine bC aD ?_;refine aV h3 rfl ?_;refine aI h h3 rfl ?_;refine aI h1 h3 rfl ?_;refine aI h2 h3 rfl ?_;refine af h3 (da c.wd 12 (by omega) (by omega)) fun _ H4 h4 => ?_;have m4 := fv (v := c.wd) (n := 12) (by omega);refine jc ?_;refine fi h4 rfl rfl fun H5 h5 => ?_;refine aZ h5 ?_;refine am ⟨⟨1 + ez c.sh 4, 1 + ez c.sl 4, 1 + ez c.wk 6, ez c.wd 12, u⟩, rfl, ?_⟩;exact ac.pu.2 ⟨bL.2 (by dsimp only; omega), h5.to⟩
theorem Ol (c : i5) : Sp oT [.agg (i5.cells c).toArray] emp (fun c' : i5 => .agg (i5.cells c').toArray) (fun c' => pu (cQ c' = true)) := by
 refine aO fun R H h => ?_;rw [ft] at h;refine bm (fun r => Gc _ H) ?_;refine ba h fun b H1 h1 => ?_;refine br h1 fun b2 H2 h2 => ?_;refine ak h2 aD rfl ?_;refine aa (R7 5000 (by omega)) ?_;refine aa (gh (a := 1) (by omega)) ?_;refine ah (yE _ _ _ H2) ?_;refine ak h2 aD rfl ?_;refine aa (R7 4 (by omega)) ?_;refine aa (fq) ?_;refine bZ (fun _ => ?_) (fun _ => ?_)
 ·refine ak h2 aD rfl ?_
  refine aa (R7 4611686018427387904 (by omega)) ?_;have hm := Nat.mod_lt c.un (show 4611686018427387904 > 0 by omega)
  generalize c.un % 4611686018427387904 = u at hm
  refine aa (gh (a := 1) (by omega)) ?_;exact EO b b2 c _ (by omega) h2
 ·have hm := Nat.mod_lt c.un (show 5000 > 0 by omega)
  exact EO b b2 c _ (by omega) h2
section
variable {R : SP} {H : AH}
theorem ab3 {b2 b3 : Nat} {y y2 : Cl} {P : SP} (h : ac (blk b3 (.cells false (Cl.cells y)) * (blk b2 (.cells false (Cl.cells y2)) * P)) H) : wp (dt (vp b2) (vp b3) H) fun v' H' => ∃ y : Cl, v' = .agg (Cl.cells y).toArray ∧ ac P H' := by
 refine ah (CR _ _ H) ?_;refine aZ h ?_;refine fi h rfl rfl fun H2 h2 => ?_;refine aZ h2 ?_;exact am ⟨y, rfl, h2.to⟩
end
theorem Zt (x : Cl) : Sp sK [.agg (Cl.cells x).toArray] emp (fun y : Cl => .agg (Cl.cells y).toArray) (fun _ => emp) := by
 refine aO fun R H h => ?_;rw [ft] at h;refine bm (fun r => Me _ H) ?_;refine ba h fun b1 H1 h1 => ?_;refine br h1 fun b2 H2 h2 => ?_;refine ak h2 aD rfl ?_;refine af h2 (da x.flow 23 (by omega) (by omega)) fun _ H3 h3 => ?_;simp only [ft];refine aa (fq) ?_;refine bZ (fun _ => ?_) (fun _ => ?_)
 ·refine aZ h3 ?_
  refine fi h3 rfl rfl fun H4 h4 => ?_;refine aZ h4 ?_;exact am ⟨x, rfl, h4.to⟩
 refine ak h3 aD rfl ?_;refine af h3 (da x.flow 5 (by omega) (by omega)) fun _ H4 h4 => ?_;refine jc ?_;refine br h4 fun b3 H5 h5 => ?_;refine fi h5 rfl rfl fun H6 h6 => ?_
 -- what each kind ends with
 have fin : ∀ (y : Cl) {H7 : AH}, ac (blk b3 (.cells false (Cl.cells y)) * (blk b2 (.cells false (Cl.cells ⟨0, 0, 0, 0⟩)) * R)) H7 → wp (dt (vp b2) (vp b3) H7) fun v' H' => ∃ y : Cl, v' = .agg (Cl.cells y).toArray ∧ ac R H' := fun y {H7} h7 => ab3 (y2 := ⟨0, 0, 0, 0⟩) h7;refine ah (CP _ _ _ H6) ?_;refine ak h6 aD rfl ?_;refine af h6 (da x.op 10 (by omega) (by omega)) fun _ H7 h7 => ?_
 generalize ez x.op 10 = o
 refine ah (CS _ _ _ _ H7) ?_;refine aa (fq) ?_;refine ah (CT _ _ _ _ _ H7) ?_;refine bZ (fun _ => ?_) (fun _ => ?_)
 ·refine ak h7 aD rfl ?_
  refine af h7 (da x.a 5 (by omega) (by omega)) fun _ H8 h8 => ?_;have m1 := fv (v := x.a) (n := 5) (by omega);refine aa (aS (by omega) (by omega)) ?_;refine bC aD ?_;refine aV h8 rfl ?_;refine aI h7 h8 rfl ?_;refine af h8 (da x.b 3 (by omega) (by omega)) fun _ H9 h9 => ?_;have m2 := fv (v := x.b) (n := 3) (by omega);refine aa (aS (by omega) (by omega)) ?_;refine bk h9 aD rfl rfl fun H10 h10 => ?_;refine bk h10 aD rfl rfl fun H11 h11 => ?_;refine bk h11 aD rfl rfl fun H12 h12 => ?_;exact fin ⟨1, ez x.flow 5, 1 + ez x.a 5, 1 + ez x.b 3⟩ h12.to
 refine aa (fq) ?_;refine ah (AA _ _ _ _ _ H7) ?_;refine bZ (fun _ => ?_) (fun _ => ?_)
 ·refine bk h7 aD rfl rfl fun H8 h8 => ?_
  exact fin ⟨2, ez x.flow 5, 0, 0⟩ h8.to
 have tail : ∀ q : Bool, wp (kL (vp b1) (vp b2) (vp b3) (vi o) (vb q) H7) fun v' H' => ∃ y : Cl, v' = .agg (Cl.cells y).toArray ∧ ac R H' := by
  intro q;refine ah (AB _ _ _ _ _ H7) ?_;refine bZ (fun _ => ?_) (fun _ => ?_)
  ·refine jc ?_
   refine fi h7 rfl rfl fun H8 h8 => ?_;exact fin ⟨4, 0, 0, 0⟩ h8.to
  refine aa (fq) ?_;refine bZ (fun _ => ?_) (fun _ => ?_)
  ·refine ak h7 aD rfl ?_
   refine af h7 (da x.a 6 (by omega) (by omega)) fun _ H8 h8 => ?_;refine jc ?_;refine fi h8 rfl rfl fun H9 h9 => ?_;exact fin ⟨5, 0, ez x.a 6, 0⟩ h9.to
  refine aa (fq) ?_;refine bZ (fun _ => ?_) (fun _ => ?_)
  ·refine jc ?_
   refine fi h7 rfl rfl fun H8 h8 => ?_;exact fin ⟨6, 0, 0, 0⟩ h8.to
  refine ak h7 aD rfl ?_;refine af h7 (da x.a 9 (by omega) (by omega)) fun _ H8 h8 => ?_;have m1 := fv (v := x.a) (n := 9) (by omega);refine aa (aS (by omega) (by omega)) ?_;refine bC aD ?_;refine aV h8 rfl ?_;refine aI h7 h8 rfl ?_;refine af h8 (da x.b 1000 (by omega) (by omega)) fun _ H9 h9 => ?_;refine bk h9 aD rfl rfl fun H10 h10 => ?_;refine bk h10 aD rfl rfl fun H11 h11 => ?_;refine bk h11 aD rfl rfl fun H12 h12 => ?_;refine ak h12 aD rfl ?_;refine af h12 (da x.a 13 (by omega) (by omega)) fun _ H13 h13 => ?_;refine aa (fq) ?_;refine bZ (fun _ => ?_) (fun _ => ?_)
  ·refine ak h13 aD rfl ?_
   refine af h13 (da x.a 65536 (by omega) (by omega)) fun _ H14 h14 => ?_;have m2 := fv (v := x.a) (n := 65536) (by omega);refine aa (aS (by omega) (by omega)) ?_;refine bk h14 aD rfl rfl fun H15 h15 => ?_;exact fin ⟨3, ez x.flow 5, 1 + ez x.a 65536, ez x.b 1000⟩ h15.to
  ·exact fin ⟨3, ez x.flow 5, 1 + ez x.a 9, ez x.b 1000⟩ h13.to
 refine aa (fq) ?_;refine bZ (fun _ => tail _) (fun _ => ?_);refine aa (fq) ?_;exact tail _
structure Pk where
 flow : Int
 len : Int
 mark : Int
abbrev Pk.cells (x : Pk) : List Value := [vi x.flow, vi x.len, vi x.mark]
instance : Enc Pk.cells 3 := ⟨fun _ => rfl, fun _ => rfl, by omega⟩
structure Ob where
 flow : Int
 most : Int
 r : Nat
structure Pt where
 step : Int
 who : Int
 place : Int
 e : Int
abbrev ie (e : Int) : List Value := [vi e, .slice none 0 0, vi 0, vw 0]
abbrev Pt.cells (x : Pt) : List Value := [vi x.step, vi x.who, vi x.place, vi x.e, .slice none 0 0, vi 0, vw 0]
instance : Enc Pt.cells 7 := ⟨fun _ => rfl, fun _ => rfl, by omega⟩
structure aM where
 c : i5
 μ : Mu
 obs : List (Ob × List Pk)
 nx : Int → Option Nat
 places : Int → Option Int
 pts : List Pt
def dv (n : Int) : Nat := (min (max n 1) 8).toNat
theorem ua (n : Int) : 1 ≤ dv n ∧ dv n ≤ 8 ∧ (dv n : Int) = min (max n 1) 8 := by unfold dv; omega
abbrev HH : Pk := ⟨0, 0, 0⟩
abbrev Pl (k : Int) : Value := vi k
instance : KeyE .int Pl where
 eq a b := by
  simp only [lh, Pl, if_true]
  congr 1
 ok a := rfl
def cF (m i rp : Nat) (cs : List Pk) : SP := ex fun cv : Value => blk rp (.cells false [vp m, vi i, cv]) * ts 3 Pk.cells cv cs
def nN (m : Nat) : Nat → List (Nat × List Pk) → SP
 | _, [] => emp
 | i, p :: ps => cF m i p.1 p.2 * nN m (i + 1) ps
theorem BZ (m : Nat) : ∀ (ps : List (Nat × List Pk)) (i : Nat) (q : Nat × List Pk), nN m i (ps ++ [q]) = nN m i ps * cF m (i + ps.length) q.1 q.2 := by
 intro ps
 induction ps with
 | nil => intro i q; show cF m i q.1 q.2 * emp = emp * cF m (i + 0) q.1 q.2; rw [fA, ft]; rfl
 | cons p ps ih =>
  intro i q;show cF m i p.1 p.2 * nN m (i + 1) (ps ++ [q]) = cF m i p.1 p.2 * nN m (i + 1) ps * _;rw [ih, ai, List.length_cons, show i + 1 + ps.length = i + (ps.length + 1) from by omega]
abbrev NC (x : Ob × Nat) : List Value := [vi x.1.flow, vi x.1.most, vu x.1.r, vp x.2]
instance : Enc NC 4 := ⟨fun _ => rfl, fun _ => rfl, by omega⟩
structure PIds where
 m : Nat
 ib : Nat
 tb : Nat
 po : Nat
 co : Nat
 ov : Value
 pm : Nat
 pv : Value
 nm : Nat
 rp : List Nat
def lX (ib m nm : Nat) (c : i5) (nx : Int → Option Nat) : SP :=
 blk ib (.cells false [vp m, vi c.sh, .map (some nm), .func (.func bD) #[vi 9] #[], .func (.func bD) #[vi 14] #[]]) * mpS Pl nm (fun k => (nx k).map fun n => vu n)
def aA (p : Nat) (g : PIds) (σ : aM) : SP :=
 blk p (.cells false [vp g.m, vp g.ib, vp g.tb, vp g.po, vp g.co, vi σ.c.sh, vi σ.c.sl, vi σ.c.wk, vi σ.c.wd, vu σ.c.un, g.ov, .map (some g.pm), g.pv]) *
 (bF g.m σ.μ * (lX g.ib g.m g.nm σ.c σ.nx * (tab g.tb g.m σ.c.sh.toNat σ.c.sl.toNat * (ts 4 NC g.ov ((σ.obs.map fun x => x.1).zip g.rp) * (nN g.m 0 (g.rp.zip (σ.obs.map fun x => x.2)) *
 (mpS Pl g.pm (fun k => (σ.places k).map fun n => vi n) * ts 7 Pt.cells g.pv σ.pts))))))
def gl (p : Nat) (σ : aM) : SP := ex fun g : PIds => pu (g.rp.length = σ.obs.length) * aA p g σ
theorem ou {p : Nat} {σ : aM} {R : SP} {H : AH} (h : ac (gl p σ * R) H) : ∃ g : PIds, g.rp.length = σ.obs.length ∧ ac (aA p g σ * R) H := by
 obtain ⟨g, h1⟩ := ac.ex.1 h;rw [ai, ac.pu] at h1;exact ⟨g, h1⟩
theorem qA {p : Nat} {σ : aM} {R : SP} {H : AH} (g : PIds) (hl : g.rp.length = σ.obs.length) (h : ac (aA p g σ * R) H) : ac (gl p σ * R) H :=
 ac.ex.2 ⟨g, by rw [ai]; exact ac.pu.2 ⟨hl, h⟩⟩
abbrev aM.new (c : i5) : aM := ⟨c, ⟨fun _ => 0, [], 0⟩, [], fun _ => none, fun _ => none, []⟩
theorem agY : Sp Au [] emp (fun b : Nat => vp b) (fun b => bF b ⟨fun _ => 0, [], 0⟩) := by
 refine bh Rg fun R H h => ?_;refine zJ h fun mb H2 h2 => ?_;refine jc ?_;refine ba h2 fun b H3 h3 => ?_;refine am ⟨b, rfl, ac.ex.2 ⟨(mb, .slice none 0 0, [], [], 0), ?_⟩⟩;rw [ai, ac.pu];refine ⟨⟨.nil, fun _ => rfl, bv _⟩, ?_⟩;have := V9 5 h3;show ac (blk b (.cells false [.map (some mb), .slice none 0 0]) * (blk mb (.map [] 0) * sl 5 (.slice none 0 0) 0 []) * R) H3;exact this.to
theorem Q7 (m : Nat) (c : i5) (hc : cQ c = true) : Sp sF [vp m, vi c.sh] emp (fun b : Nat => vp b) (fun b => ex fun nm : Nat => lX b m nm c fun _ => none) := by
 have hc := bL.1 hc;refine bh (LT _ _) fun R H h => ?_;refine aa (gL) ?_;refine aa (lN) ?_;rw [show min (max c.sh 1) 4 = c.sh from by omega];refine zJ h fun mb H2 h2 => ?_;refine jc ?_;refine ba h2 fun b H3 h3 => ?_;refine am ⟨b, rfl, ac.ex.2 ⟨mb, ?_⟩⟩;unfold lX;have h4 : ac (blk mb (.map [] 0) * (blk b (.cells false [vp m, vi c.sh, .map (some mb), .func (.func bD) #[vi 9] #[], .func (.func bD) #[vi 14] #[]]) * (emp * R))) H3 := h3.to;have h5 := Vy Pl h4;show ac (blk b (.cells false [vp m, vi c.sh, .map (some mb), .func (.func bD) #[vi 9] #[], .func (.func bD) #[vi 14] #[]]) * mpS Pl mb (fun _ => none) * R) H3;exact h5.to
theorem Sx (m : Nat) (c : i5) (hc : cQ c = true) : Sp sQ [vp m, vi c.sh, vi c.sl] emp (fun b : Nat => vp b) (fun b => tab b m c.sh.toNat c.sl.toNat) := by
 have hc := bL.1 hc;refine bh (MR _ _ _) fun R H h => ?_;refine aa (gL) ?_;refine aa (lN) ?_;refine aa (gL) ?_;refine aa (lN) ?_;rw [show min (max c.sh 1) 4 = ((c.sh.toNat : Nat) : Int) from by omega, show min (max c.sl 1) 4 = ((c.sl.toNat : Nat) : Int) from by omega];refine jc ?_;refine ba h fun b H3 h3 => ?_;exact am ⟨b, rfl, by unfold tab; exact h3.to⟩
theorem Rx (c : i5) (hc : cQ c = true) : Sp sI [.agg (i5.cells c).toArray] emp (fun b : Nat => .tuple #[vp b, vi 0]) (fun b => gl b (aM.new c)) := by
 refine bh (Mb _) fun R H h => ?_;refine ba h fun cb H1 h1 => ?_;refine aZ h1 ?_;refine af h1 (Oa c) fun _ H2 h2 => ?_;rw [hc];refine gs ?_;rw [Bool.not_true];refine gs ?_;refine af h2 agY fun m H3 h3 => ?_;refine ak h3 aD rfl ?_;refine af h3 (Q7 m c hc) fun ib H4 h4 => ?_;obtain ⟨nm, h4b⟩ := ac.ex.1 h4;refine bC aD ?_;refine aV h4b rfl ?_;refine aI h3 h4b rfl ?_;refine bC aD ?_;refine aV h4b rfl ?_;refine aI h3 h4b rfl ?_;refine af h4b (Sx m c hc) fun tb H5 h5 => ?_;refine bC aD ?_;refine aV h5 rfl ?_;refine aI h3 h5 rfl ?_;refine aI h4b h5 rfl ?_;refine af h5 (ahQ m c.wk) fun pb H6 h6 => ?_;refine aZ h6 ?_;refine dX h3 h6 rfl ?_;refine dX h4b h6 rfl ?_;refine dX h5 h6 rfl ?_;refine af h6 (ab8 c) fun kb H7 h7 => ?_;refine aZ h7 ?_;refine dX h3 h7 rfl ?_;refine dX h4b h7 rfl ?_;refine dX h5 h7 rfl ?_;refine dX h6 h7 rfl ?_;refine zJ h7 fun mb H8 h8 => ?_;refine jc ?_;refine ba h8 fun b H9 h9 => ?_;refine am ⟨b, rfl, ?_⟩;refine qA ⟨m, ib, tb, pb, kb, .slice none 0 0, mb, .slice none 0 0, nm, []⟩ rfl ?_;have h10 := dL 4 NC (dL 7 Pt.cells h9);have h11 : ac (blk mb (.map [] 0) * (ts 4 NC (.slice none 0 0) [] * (ts 7 Pt.cells (.slice none 0 0) [] * (blk b (.cells false [vp m, vp ib, vp tb, vp pb, vp kb, vi c.sh, vi c.sl, vi c.wk, vi c.wd, vu c.un, .slice none 0 0, .map (some mb), .slice none 0 0]) * (bF m ⟨fun _ => 0, [], 0⟩ * (lX ib m nm c (fun _ => none) * (tab tb m c.sh.toNat c.sl.toNat * (emp * R)))))))) H9 := h10.to;have h12 := Vy Pl h11;show ac (blk b (.cells false [vp m, vp ib, vp tb, vp pb, vp kb, vi c.sh, vi c.sl, vi c.wk, vi c.wd, vu c.un, .slice none 0 0, .map (some mb), .slice none 0 0]) * (bF m ⟨fun _ => 0, [], 0⟩ * (lX ib m nm c (fun _ => none) * (tab tb m c.sh.toNat c.sl.toNat * (ts 4 NC (.slice none 0 0) [] * (emp * (mpS Pl mb (fun _ => none) * ts 7 Pt.cells (.slice none 0 0) [])))))) * R) H9;exact h12.to
section
variable (p : Nat) (σ : aM)
theorem OH (m i : Nat) (most : Int) : Sp vQ [vp m, vi i, vi most] emp (fun b : Nat => vp b) (fun b => cF m i b (List.replicate (dv most) HH)) := by
 obtain ⟨q1, q2, q3⟩ := ua most;refine bh (OG _ _ _) fun R H h => ?_;refine aa (gL) ?_;refine aa (lN) ?_;rw [← q3];refine MT (enc := Pk.cells) HH h rfl (by unfold room; omega) (by omega) fun cb H1 h1 => ?_;refine jc ?_;refine ba h1 fun b H2 h2 => ?_;refine am ⟨b, rfl, ?_⟩;unfold cF;exact ac.ex.2 ⟨vs cb (dv most) 3, h2.to⟩
abbrev aM.make (σ : aM) (who : Int) (o : Ob) : aM := { σ with μ := σ.μ.acc who 6 (13, σ.obs.length, 0), obs := σ.obs ++ [(o, List.replicate (dv o.most) HH)] }
theorem Rw (who : Int) (o : Ob) (hE : σ.μ.N < 1099511627000) (ho : σ.obs.length < 1000000) : Sp d7 [vp p, vi who, .agg (#[vi o.flow, vi o.most, vu o.r] : Array Value)] (gl p σ) (fun _ : Unit => vi σ.obs.length) (fun _ => gl p (σ.make who o)) := by
 refine aO fun R H h => ?_;obtain ⟨g, hg, h0⟩ := ou h
 have hz : ((σ.obs.map fun x => x.1).zip g.rp).length = σ.obs.length := by simp [hg]
 unfold aA at h0;refine bm (fun r => lQ _ _ _ H) ?_;refine ba (l := [vi o.flow, vi o.most, vu o.r]) h0 fun ob H1 h1 => ?_;refine ak h1 ae rfl ?_;refine tu (s := g.ov) h1 ?_;rw [hz];refine ak h1 ae rfl ?_;refine jc ?_;refine af h1 ((t9 g.m σ.μ who (13, σ.obs.length, 0) (by omega)).imp fun _ R H h => jr (N' := σ.μ.N + 2) (by simp) h) fun _ H2 h2 => ?_;refine bC ae ?_;refine aV h2 rfl ?_;refine aZ h2 ?_;refine ak h2 ae rfl ?_;refine ak h2 aD rfl ?_;refine af h2 (OH g.m σ.obs.length o.most) fun rb H3 h3 => ?_;refine aI h3 h2 rfl ?_;refine dX h3 h2 rfl ?_;refine jc ?_;refine MS h3 fun b0 H4 h4 => ?_;refine f5 ((o, rb) : Ob × Nat) h4 rfl ?_ (by omega) fun a cc H5 h5 => ?_
 ·unfold room; omega
 refine bk h5 ae rfl rfl fun H6 h6 => ?_;refine am ⟨(), rfl, ?_⟩;refine qA { g with ov := .slice a (((σ.obs.map fun x => x.1).zip g.rp).length + 1) cc, rp := g.rp ++ [rb] } (by simp [aM.make, hg]) ?_;unfold aA aM.make;dsimp only
 have e1 : ((σ.obs ++ [(o, List.replicate (dv o.most) HH)]).map fun x => x.1).zip (g.rp ++ [rb]) = ((σ.obs.map fun x => x.1).zip g.rp) ++ [(o, rb)] := by
  rw [HV, List.zip_append (by simp [hg])]
  rfl
 have e2 : (g.rp ++ [rb]).zip ((σ.obs ++ [(o, List.replicate (dv o.most) HH)]).map fun x => x.2) = (g.rp.zip (σ.obs.map fun x => x.2)) ++ [(rb, List.replicate (dv o.most) HH)] := by
  rw [HV, List.zip_append (by simp [hg])]
  rfl
 have e3 : 0 + (g.rp.zip (σ.obs.map fun x => x.2)).length = σ.obs.length := by simp [hg]
 rw [e1, e2, BZ, e3];exact h6.to
theorem Bi : Sp ag4 [.slice none 0 0] emp (fun _ : Unit => .slice none 0 0) (fun _ => emp) := by
 refine bh (ap7 _) fun R H h => ?_;refine aa (v := vb true) rfl ?_;refine gs ?_;exact am ⟨(), rfl, ac.to (by assumption)⟩
theorem Ib (e : Int) : Sp sJ [.agg (ie e).toArray] emp (fun _ : Unit => .agg (ie e).toArray) (fun _ => emp) := by
 refine bh (Mc _) fun R H h => ?_;refine ba h fun b1 H1 h1 => ?_;refine br h1 fun b2 H2 h2 => ?_;refine ak h2 aD rfl ?_;refine af h2 Bi fun _ H3 h3 => ?_;refine bk h3 aD rfl rfl fun H4 h4 => ?_;refine aZ h4 ?_;refine fi h4 rfl rfl fun H5 h5 => ?_;refine aZ h5 ?_;exact am ⟨(), rfl, h5.to⟩
abbrev aM.note (σ : aM) (step who e : Int) : aM := { σ with pts := σ.pts ++ [⟨step, who, (σ.places who).getD 0, e⟩] }
theorem ajQ {P R P2 R2 : SP} {H H2 : AH} {b : Nat} {f : Int → Option Value} {zero : Value} {kk : OV} {Q : Value → AH → Prop} (k : Int) (h : ac P H) [m : Mp P b Pl f R] (h2 : ac P2 H2) [m2 : Mp P2 b Pl f R2] (hk : wp kk Q) :
 wp (bT (cZ .int zero (.map (some b)) (vi k) false H) (cZ .int zero (.map (some b)) (vi k) false H2) kk) Q := by
 have one : ∀ {P R : SP} {H : AH} (h : ac P H) [m : Mp P b Pl f R], cZ .int zero (.map (some b)) (vi k) false H = some ((f k).getD zero) := by
  intro P R H h m;obtain ⟨v, H', e, q⟩ : wp ((cZ .int zero (.map (some b)) (vi k) false H).bind fun v => some (v, H)) (fun v _ => v = (f k).getD zero) := Wp (ek := Pl) k h (am rfl);obtain ⟨v', e1, e2⟩ := aH.1 e
  have : v' = v := by simpa using congrArg (fun x => x.map Prod.fst) e2
  have e1' : cZ .int zero (.map (some b)) (vi k) false H = some v' := e1;rw [e1', this, q]
 exact zI (by rw [one h, one h2]) hk
end
end Go.Proofs.YtghoamdlcjdfjaaGreatDoor.Gst
