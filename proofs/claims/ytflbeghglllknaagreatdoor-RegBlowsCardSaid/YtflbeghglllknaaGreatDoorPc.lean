/- Several texts in one. -/
import Derived.Test.YtflbeghglllknaaGreatDoorPb
namespace Go.Proofs.YtflbeghglllknaaGreatDoor.Gst
open Go Go.RowKit
set_option maxRecDepth 100000
set_option linter.unusedVariables false
set_option maxHeartbeats 1000000
set_option linter.unusedSimpArgs false
section
variable (Y Z x2 x3 x4 x5 x6 x7 x8 x13 x30 x114 : Value) (H : AH)
noncomputable def mX (p : List Nat) : Code := Code.sub (bK Tryz.f48) p
noncomputable def nR : KK := dK PP (Tryz.f48).results.toList
noncomputable def ajL : KK := CQ (mX [1, 1]) nR bv nR
noncomputable def lM : OV := ajL (ls [Y, Z, u, u, x4, x5, x6] 141) H
noncomputable def So : KK := CQ (mX [1, 1, 1]) nR bv nR
noncomputable def Sm : KK := dD afM So
noncomputable def gq : OV := So (ls [Y, Z, u, u, x4, x5, x6] 141) H
noncomputable def Sq : KK := CQ (mX [1, 1, 1, 1]) nR bv nR
noncomputable def Sn : KK := dD Nt Sq
noncomputable def rh : OV := Sq (ls [Y, Z, u, u, x4, u, x6] 141) H
noncomputable def ajR : KX := BX 1 Sn bv
noncomputable def ajS : KX := nJ Nt ajR
noncomputable def ajN : KK := CQ (mX [1, 1, 1, 0, 4, 1]) Sn ajS nR
noncomputable def ri : OV := ajN (ls [Y, Z, u, u, x4, x5, x6, u, u, u, u, u, u, u, u, u, u, u, u, u, u, u, u, u, u, u, u, u, u, u, u, u, u, u, u, u, u, u, u, u, u, u, u, u, u, u, u, u, u, u, u, u, u, u, u, u, u, u, u, u, u, u, u, u, u, u, u, u, u, u, u, u, u, u, u, u, u, u, u, u, u, u, u, u, u, u, u, u, u, u, u, u, u, u, u, u, u, u, u, u, u, u, u, u, u, u, u, u, u, u, u, u, u, u, x114] 33) H
noncomputable def ajP : KK := CQ (mX [1, 1, 1, 0, 4, 1, 2, 1]) Sn ajS nR
noncomputable def lN : OV := ajP (ls [Y, Z, u, u, x4, u, x6] 141) H
noncomputable def W9 : KK := CQ (mX [1, 1, 0, 1]) Sm bv nR
noncomputable def pN : OV := W9 (ls [Y, Z, u, u, x4, x5, x6, u, u, u, u, u, u, u, u, u, u, u, u, u, u, u, u, u, u, u, u, u, u, u, x30] 117) H
noncomputable def Xa : KK := CQ (mX [1, 1, 0, 1, 2, 1, 1]) Sm bv nR
noncomputable def io : OV := Xa (ls [Y, Z, u, u, x4, x5, x6, x7, x8] 139) H
noncomputable def LI : KK := CQ (mX [1, 1, 0, 1, 2, 1, 1, 1]) Sm bv nR
noncomputable def aq8 : KK := dD afN LI
noncomputable def cR : OV := LI (ls [Y, Z, u, u, x4, x5, x6, x7] 140) H
noncomputable def aq9 : KX := BX 0 aq8 bv
theorem jz : ap 356811923176489970264571492362373784095686639 nR := rf
theorem ajM : ap afM ajL := rc jz aw jz
theorem xq : ap afM So := rc jz aw jz
theorem xr : ap Nt Sq := rc jz aw jz
theorem Fw : ∀ i, ap Nt (ajR i) := rb (cd xr) aw
theorem ajO : ap 356811923155720782830432181848251798778806156 ajN := rc (cd xr) (cx Fw) jz
theorem ajQ : ap Nt ajP := rc (cd xr) (cx Fw) jz
theorem abQ : ap 356811923176489970264571492362373783021944716 W9 := rc (cd xq) aw jz
theorem abR : ap 356811923176489970264571492362373784095686156 Xa := rc (cd xq) aw jz
theorem IP : ap afN LI := rc (cd xq) aw jz
theorem abS : ∀ i, ap afN (aq9 i) := rb (cd IP) aw
theorem vZ : rh Y Z x4 x6 H =
 (FF qZ [Y, Z, x6] H).bind fun a =>
 some (a.1, a.2) :=
 (by kernel_rfl)
theorem ny : lN Y Z x4 x6 H =
 some ((vb false), H) :=
 (by kernel_rfl)
theorem je : ri Y Z x4 x5 x6 x114 H =
 av x114
 (ld [.n, .f 7] x5 H fun c =>
 ld [.n, .f 1] Y H fun d =>
 (FF ie [c, d, x6] H).bind fun a =>
 av a.1
 (st 1 [.n, .f 6] Y (vi 3) a.2 fun e =>
 lN Y Z x4 x6 e)
 (lN Y Z x4 x6 a.2))
 (ld [.n, .f 2, .f 0] Y H fun g =>
 (ai .other .eql g (vi 1)).bind fun i =>
 av i
 ((FF lT [Y, Z, x6] H).bind fun b =>
 some (b.1, b.2))
 (rh Y Z x4 x6 H)) :=
 (ct rfl (mX [1, 1, 1, 0, 4, 1, 2]) (mX [1, 1, 1, 0, 4, 1, 3]) (.tmp 114) (pt rfl 0 ajQ (by kernel_rfl)) (by kernel_rfl))
theorem jd : gq Y Z x4 x5 x6 H =
 ld [.n, .f 6] Y H fun a =>
 (ai .other .eql a (vi 2)).bind fun b =>
 ri Y Z x4 x5 x6 b H :=
 (pt rfl 0 xr (bt rfl (mX [1, 1, 1, 0, 4]) 1 Fw (pt rfl 0 ajO (by kernel_rfl))))
theorem lY : cR Y Z x4 x5 x6 x7 H =
 (ai .other .neq x7 (vi 0)).bind fun a =>
 av a
 ((FF bJ [Y, Z, x7] H).bind fun b =>
 some ((vb true), b.2))
 (st 1 [.n, .f 6] Y (vi 2) H fun c =>
 gq Y Z x4 x5 x6 c) :=
 (by kernel_rfl)
theorem lX : io Y Z x4 x5 x6 x7 x8 H =
 ld [.n, .f 2, .f 0] Y H fun g =>
 (ai .other .neq g (vi 1)).bind fun e =>
 (gV e true x8).bind fun i =>
 (gB e true (ot .not i)).bind fun j =>
 (aL e j (vb false)).bind fun k =>
 av k
 (cR Y Z x4 x5 x6 (vi 5) H)
 ((ot .not x8).bind fun l =>
 av l
 (cR Y Z x4 x5 x6 (vi 1) H)
 (ld [.n, .f 2, .f 0] Y H fun m =>
 (ai .other .eql m (vi 1)).bind fun a =>
 (gV a true Y).bind fun o =>
 f0 a true  [.n, .f 2, .f 2] o H fun p =>
 (gB a true (ai .other .lss p (vi 1))).bind fun q =>
 (gV a true q).bind fun c =>
 (gV c false Y).bind fun s =>
 f0 c false  [.n, .f 2, .f 2] s H fun t =>
 (gB c false (ai .other .gtr t (vi 65536))).bind fun w =>
 (gB a true (aL c (vb true) w)).bind fun y =>
 (aL a y (vb false)).bind fun z =>
 av z
 (cR Y Z x4 x5 x6 (vi 4) H)
 (ld [.n, .f 2, .f 0] Y H fun A =>
 (ai .other .eql A (vi 1)).bind fun b =>
 (gV b true Y).bind fun B =>
 f0 b true  [.n, .f 2, .f 3] B H fun C =>
 (gB b true (ai .other .lss C (vi 1))).bind fun D =>
 (gV b true D).bind fun d =>
 (gV d false Y).bind fun E =>
 f0 d false  [.n, .f 2, .f 3] E H fun G =>
 (gB d false (ai .other .gtr G (vi 8))).bind fun I =>
 (gB b true (aL d (vb true) I)).bind fun J =>
 (aL b J (vb false)).bind fun K =>
 av K
 (cR Y Z x4 x5 x6 (vi 1) H)
 (cR Y Z x4 x5 x6 x7 H)))) :=
 (pt rfl 0 IP (bt rfl (mX [1, 1, 0, 1, 2, 1, 1, 0, 4]) 0 abS (by kernel_rfl)))
theorem lW : pN Y Z x4 x5 x6 x30 H =
 av x30
 (ld [.n, .f 2, .f 1] Y H fun b =>
 (ai .other .geq b (vi 0)).bind fun a =>
 (gV a true Y).bind fun c =>
 f0 a true  [.n, .f 2, .f 1] c H fun d =>
 (gB a true (ai .other .leq d (vi 1048576))).bind fun e =>
 (aL a e (vb false)).bind fun g =>
 io Y Z x4 x5 x6 (vi 0) g H)
 (gq Y Z x4 x5 x6 H) :=
 (ct rfl (mX [1, 1, 0, 1, 2]) (mX [1, 1, 0, 1, 3]) (.tmp 30) (pt rfl 1 abR (by kernel_rfl)) (by kernel_rfl))
theorem nu : lM Y Z x4 x5 x6 H =
 ld [.n, .f 6] Y H fun a =>
 (ai .other .eql a (vi 0)).bind fun b =>
 pN Y Z x4 x5 x6 b H :=
 (pt rfl 0 xq (pt rfl 0 abQ (by kernel_rfl)))
noncomputable def Mo : OV := ba PP GG FF (mX []) (ls [Y, Z] 146) H nR bv nR
theorem CD {r : Value × AH} (h : (
 ad [.n, .f 0] Y fun a =>
 (ar a H).bind fun c =>
 ld [.n, .f 0] Y H fun d =>
 ld [.n, .f 7] d H fun e =>
 ld [.n, .f 2, .f 1] Y H fun g =>
 (FF fg [e, g] H).bind fun b =>
 bX (ar a b.2) (ar a H) <|
 lM Y Z (vb false) c b.1 b.2) = some r) : FF bm [Y, Z] H = some r :=
 fo (t := Mo Y Z H) Tryz.func48 (by kernel_rfl) (Eq.trans (pt rfl 1 ajM (by kernel_rfl)) h)
theorem OM {r : Value × AH} (h : (
 aQ (Value.cells Y).toList H fun b j =>
 aQ (Value.cells Z).toList j fun c a =>
 ld [.f 0] b a fun k =>
 ld [.f 0] c a fun l =>
 (ai .other .eql k l).bind fun d =>
 f0 d true  [.f 2] b a fun m =>
 f0 d true  [.f 2] c a fun n =>
 (gB d true (ai .other .eql m n)).bind fun o =>
 (aL d o (vb false)).bind fun e =>
 f0 e true  [.f 3] b a fun p =>
 f0 e true  [.f 3] c a fun q =>
 (gB e true (ai .other .eql p q)).bind fun s =>
 (aL e s (vb false)).bind fun g =>
 f0 g true  [.f 1] b a fun t =>
 f0 g true  [.f 1] c a fun w =>
 (gE g true a (FF gb [t, w] a)).bind fun i =>
 (aL g i.1 (vb false)).bind fun y =>
 some (y, i.2)) = some r) : FF qw [Y, Z] H = some r :=
 fo Tryz.func49 (by kernel_rfl) h
theorem OS {r : Value × AH} (h : (
 aQ [(vi 0), (.slice none 0 0), (vi 0), (vw 0)] H fun a b =>
 av Z
 (ldN 4 [.n, .f 17] Y b fun e =>
 (cJ 4 a e b).bind fun c =>
 (ax 4 a c).bind fun g => some (g, c))
 (hJ [(0, 1), (1, 1), (2, 1), (3, 1)] [(vi 0), (.slice none 0 0), (vi 0), (vw 0)] [] fun i =>
 (cJ 4 a i b).bind fun d =>
 (ax 4 a d).bind fun j => some (j, d))) = some r) : FF qy [Y, Z] H = some r :=
 fo Tryz.func50 (by kernel_rfl) h
theorem Ga {r : Value × AH} (h : (
 ld [.n, .f 1] Y H fun a =>
 fy a fun b =>
 some (b, H)) = some r) : FF kO [Y] H = some r :=
 fo Tryz.func51 (by kernel_rfl) h
theorem us {r : Value × AH} (h : (
 (ai .other .geq Z (vi 0)).bind fun a =>
 (gV a true Z).bind fun b =>
 (gV a true Y).bind fun c =>
 f0 a true  [.n, .f 10] c H fun d =>
 (Ab (yv a) true (fy d some) (some undef)).bind fun e =>
 (gB a true (ai .other .lss b e)).bind fun g =>
 (aL a g (vb false)).bind fun i =>
 some (i, H)) = some r) : FF ge [Y, Z] H = some r :=
 fo Tryz.func52 (by kernel_rfl) h
theorem Cc {r : Value × AH} (h : (
 aQ (Value.cells x2).toList H fun a b =>
 (ax 3 a b).bind fun e =>
 (FF dx [Y, Z, (vi 1), e] b).bind fun c =>
 (ax 3 a c.2).bind fun f =>
 (FF fN [Y, f] c.2).bind fun d =>
 some (d.1, d.2)) = some r) : FF dw [Y, Z, x2] H = some r :=
 fo Tryz.func53 (by kernel_rfl) h
theorem CO {r : Value × AH} (h : (
 aQ [(vi 0), (vi 0), (vi 0)] H fun a b =>
 ld [.n, .f 1] Y b fun d =>
 hJ [(0, 1), (1, 1), (2, 1)] [(vi 0), (vi 0), (vi 0)] [(0, Z), (1, d), (2, x2)] fun e =>
 (cJ 3 a e b).bind fun c =>
 (ax 3 a c).bind fun g => some (g, c)) = some r) : FF en [Y, Z, x2] H = some r :=
 fo Tryz.func54 (by kernel_rfl) h
theorem oB {r : Value × AH} (h : (
 ld [.n, .f 2] Y H fun a =>
 fy a fun b =>
 (cf (some .u64) b).bind fun c =>
 (ai .other .rem Z c).bind fun d =>
 (cf (some .i64) d).bind fun e =>
 some (e, H)) = some r) : FF dp [Y, Z] H = some r :=
 fo Tryz.func55 (by kernel_rfl) h
theorem Ce {r : Value × AH} (h : (
 aQ (Value.cells x2).toList H fun b a =>
 (ax 3 b a).bind fun c =>
 (FF dx [Y, Z, (vi 5), c] a).bind fun d =>
 some (Value.tuple #[], d.2)) = some r) : FF na [Y, Z, x2] H = some r :=
 fo Tryz.func56 (by kernel_rfl) h
theorem avO {r : Value × AH} (h : (
 (ai .slice .eql Y (.slice none 0 0)).bind fun b =>
 av b
 (some ((.slice none 0 0), H))
 (z5 0 7 [(vi 0), (vi 0), (vi 0), (vi 0), (.slice none 0 0), (vi 0), (vw 0)] [] H fun c d =>
 (eJ 7 72 c Y d).bind fun a =>
 some (a.1, a.2))) = some r) : FF alQ [Y] H = some r :=
 fo Tryz.func57 (by kernel_rfl) h
theorem avS {r : Value × AH} (h : (
 fy Y fun a =>
 (FF alT [Y, a, Z] H).bind fun b =>
 some (Value.tuple #[], b.2)) = some r) : FF alS [Y, Z] H = some r :=
 fo Tryz.func58 (by kernel_rfl) h
theorem sT {r : Value × AH} (h : (
 aQ (Value.cells Y).toList H fun c d =>
 aQ (Value.cells Z).toList d fun e a =>
 ld [.f 0] c a fun g =>
 ld [.f 0] e a fun i =>
 (FF ko [g, i] a).bind fun b =>
 some (b.1, b.2)) = some r) : FF dQ [Y, Z] H = some r :=
 fo Tryz.func59 (by kernel_rfl) h
theorem Mf {r : Value × AH} (h : (
 aQ (Value.cells Y).toList H fun a i =>
 aQ [(vi 0), (.slice none 0 0), (vi 0), (vw 0)] i fun b c =>
 ld [.f 1] a c fun j =>
 (FF alO [j] c).bind fun d =>
 st 1 [.f 1] a d.1 d.2 fun e =>
 (ax 4 a e).bind fun k =>
 (cJ 4 b k e).bind fun g =>
 (ax 4 b g).bind fun l => some (l, g)) = some r) : FF oc [Y] H = some r :=
 fo Tryz.func60 (by kernel_rfl) h
theorem Id {r : Value × AH} (h : (
 aQ [(vi 0), (vi 0), (vi 0)] H fun a c =>
 hJ [(0, 1), (1, 1), (2, 1)] [(vi 0), (vi 0), (vi 0)] [(0, (vi 10)), (1, Y), (2, Z)] fun d =>
 (cJ 3 a d c).bind fun b =>
 (ax 3 a b).bind fun e => some (e, b)) = some r) : FF jN [Y, Z] H = some r :=
 fo Tryz.func61 (by kernel_rfl) h
theorem Cf {r : Value × AH} (h : (
 aQ (Value.cells x2).toList H fun b c =>
 (ax 3 b c).bind fun d =>
 (FF fN [Y, d] c).bind fun a =>
 (ai .other .neq a.1 x3).bind fun e =>
 av e
 ((ax 3 b a.2).bind fun f =>
 (FF dx [Y, Z, (vi 4), f] a.2).bind fun g =>
 some ((vb false), g.2))
 ((ax 3 b a.2).bind fun i =>
 (FF jI [Y, Z, i, x4] a.2).bind fun j =>
 some ((vb true), j.2))) = some r) : FF fO [Y, Z, x2, x3, x4] H = some r :=
 fo Tryz.func62 (by kernel_rfl) h
theorem Ha {r : Value × AH} (h : (
 aQ [(vi 0), (vi 0), (vi 0)] H fun a c =>
 hJ [(0, 1), (1, 1), (2, 1)] [(vi 0), (vi 0), (vi 0)] [(0, (vi 8)), (1, Y)] fun d =>
 (cJ 3 a d c).bind fun b =>
 (ax 3 a b).bind fun e => some (e, b)) = some r) : FF kT [Y] H = some r :=
 fo Tryz.func63 (by kernel_rfl) h
theorem Gb {r : Value × AH} (h : (
 aQ (Value.cells Y).toList H fun a l =>
 ld [.f 0] a l fun m =>
 (FF fP [m, (vi 1), (vi 4)] l).bind fun b =>
 f0 b.1 true  [.f 1] a b.2 fun n =>
 (gE b.1 true b.2 (FF fP [n, (vi 1), (vi 4)] b.2)).bind fun c =>
 (aL b.1 c.1 (vb false)).bind fun g =>
 f0 g true  [.f 2] a c.2 fun o =>
 (gE g true c.2 (FF fP [o, (vi 1), (vi 6)] c.2)).bind fun d =>
 (aL g d.1 (vb false)).bind fun i =>
 f0 i true  [.f 3] a d.2 fun p =>
 (gE i true d.2 (FF fP [p, (vi 0), (vi 40)] d.2)).bind fun e =>
 (aL i e.1 (vb false)).bind fun j =>
 f0 j true  [.f 4] a e.2 fun q =>
 (gB j true (ai .other .geq q (vw 1))).bind fun s =>
 (aL j s (vb false)).bind fun k =>
 f0 k true  [.f 4] a e.2 fun t =>
 (gB k true (ai .other .leq t (vw 4611686018427387904))).bind fun w =>
 (aL k w (vb false)).bind fun y =>
 some (y, e.2)) = some r) : FF oP [Y] H = some r :=
 fo Tryz.func64 (by kernel_rfl) h
theorem SN (H : AH) {r : Value × AH} (h : (
 HO H fun a b =>
 hJ [(0, 1), (1, 1)] [(.map none), (.slice none 0 0)] [(0, a)] fun c =>
 aQ (Value.cells c).toList b fun d e =>
 some (d, e)) = some r) : FF z8 [] H = some r :=
 fo Tryz.func65 (by kernel_rfl) h
theorem LR {r : Value × AH} (h : (
 (iQ [Z, (vi 1)]).bind fun a =>
 (j3 [a, (vi 4)]).bind fun b =>
 HO H fun c d =>
 hJ [(0, 1), (1, 1), (2, 1), (3, 1), (4, 1)] [(.pointer none), (vi 0), (.map none), Value.nilFunc, Value.nilFunc] [(0, Y), (1, b), (2, c), (3, (.func (.func bI) #[(vi 9)] #[])), (4, (.func (.func bI) #[(vi 14)] #[]))] fun e =>
 aQ (Value.cells e).toList d fun f g =>
 some (f, g)) = some r) : FF sH [Y, Z] H = some r :=
 fo Tryz.func66 (by kernel_rfl) h
theorem M6 {r : Value × AH} (h : (
 (iQ [Z, (vi 1)]).bind fun a =>
 (j3 [a, (vi 4)]).bind fun b =>
 (iQ [x2, (vi 1)]).bind fun c =>
 (j3 [c, (vi 4)]).bind fun d =>
 hJ [(0, 1), (1, 1), (2, 1)] [(.pointer none), (vi 0), (vi 0)] [(0, Y), (1, b), (2, d)] fun e =>
 aQ (Value.cells e).toList H fun f g =>
 some (f, g)) = some r) : FF sO [Y, Z, x2] H = some r :=
 fo Tryz.func67 (by kernel_rfl) h
theorem Ps {r : Value × AH} (h : (
 (iQ [Z, (vi 1)]).bind fun a =>
 (j3 [a, (vi 6)]).bind fun b =>
 HO H fun c d =>
 HO d fun e f =>
 hJ [(0, 1), (1, 1), (2, 1), (3, 1)] [(.pointer none), (vi 0), (.map none), (.map none)] [(0, Y), (1, b), (2, c), (3, e)] fun g =>
 aQ (Value.cells g).toList f fun i j =>
 some (i, j)) = some r) : FF vH [Y, Z] H = some r :=
 fo Tryz.func68 (by kernel_rfl) h
theorem NJ {r : Value × AH} (h : (
 aQ (Value.cells Y).toList H fun c b =>
 ld [.f 0] c b fun d =>
 ld [.f 3] c b fun e =>
 (FF sL [d, e] b).bind fun a =>
 HO a.2 fun g i =>
 HO i fun j k =>
 hJ [(0, 1), (1, 1), (2, 1), (3, 1), (4, 1), (5, 1), (6, 1), (7, 1), (8, 3)] [Value.nilFunc, Value.nilFunc, Value.nilFunc, (vw 0), (vw 0), (vi 0), (.map none), (.map none), (vb false), (vi 0), (vw 0)] [(0, (.func (.func vI) #[a.1] #[])), (1, (.func (.func yd) #[a.1] #[])), (2, (.func (.func yc) #[a.1] #[])), (6, g), (7, j)] fun l =>
 aQ (Value.cells l).toList k fun m n =>
 some (m, n)) = some r) : FF vC [Y] H = some r :=
 fo Tryz.func69 (by kernel_rfl) h
theorem Cy {r : Value × AH} (h : (
 (iQ [Z, (vi 1)]).bind fun a =>
 (j3 [a, (vi 4)]).bind fun b =>
 hJ [(0, 1), (1, 1), (2, 1), (3, 1)] [(.pointer none), (vi 0), (.slice none 0 0), (.slice none 0 0)] [(0, Y), (1, b)] fun c =>
 aQ (Value.cells c).toList H fun d e =>
 some (d, e)) = some r) : FF ng [Y, Z] H = some r :=
 fo Tryz.func70 (by kernel_rfl) h
theorem CA {r : Value × AH} (h : (
 (iQ [Z, (vi 1)]).bind fun a =>
 (j3 [a, (vi 4)]).bind fun b =>
 (iQ [x2, (vi 1)]).bind fun c =>
 (j3 [c, (vi 4)]).bind fun d =>
 hJ [(0, 1), (1, 1), (2, 1)] [(.pointer none), (vi 0), (vi 0)] [(0, Y), (1, b), (2, d)] fun e =>
 aQ (Value.cells e).toList H fun f g =>
 some (f, g)) = some r) : FF ni [Y, Z, x2] H = some r :=
 fo Tryz.func71 (by kernel_rfl) h
theorem Gr {r : Value × AH} (h : (
 (iQ [Z, (vi 1)]).bind fun a =>
 (j3 [a, (vi 6)]).bind fun b =>
 hJ [(0, 1), (1, 1), (2, 1), (3, 1), (4, 1), (5, 1)] [(.pointer none), (vi 0), (.slice none 0 0), (.slice none 0 0), (.slice none 0 0), (.slice none 0 0)] [(0, Y), (1, b)] fun c =>
 aQ (Value.cells c).toList H fun d e =>
 some (d, e)) = some r) : FF oS [Y, Z] H = some r :=
 fo Tryz.func72 (by kernel_rfl) h
theorem Gq {r : Value × AH} (h : (
 aQ (Value.cells Y).toList H fun b a =>
 ld [.f 0] b a fun d =>
 ld [.f 3] b a fun e =>
 (FF alL [d, e] a).bind fun c =>
 hJ [(0, 1), (1, 1), (2, 1), (3, 1), (4, 1), (5, 1), (6, 1), (7, 1), (8, 1)] [(.pointer none), (vw 0), (vw 0), (vi 0), (.slice none 0 0), (.slice none 0 0), (vb false), (vi 0), (vw 0)] [(0, c.1)] fun g =>
 aQ (Value.cells g).toList c.2 fun i j =>
 some (i, j)) = some r) : FF oR [Y] H = some r :=
 fo Tryz.func73 (by kernel_rfl) h
theorem Gl {r : Value × AH} (h : (
 (ai .other .lss Y (vw 1)).bind fun a =>
 (gV a false Y).bind fun d =>
 (gB a false (ai .other .gtr d (vw 4611686018427387904))).bind fun e =>
 (aL a (vb true) e).bind fun b =>
 (gV b false Z).bind fun f =>
 (gB b false (ai .other .lss f (vi 1))).bind fun g =>
 (aL b (vb true) g).bind fun c =>
 (gV c false Z).bind fun i =>
 (gB c false (ai .other .gtr i (vi 65536))).bind fun j =>
 (aL c (vb true) j).bind fun k =>
 av k
 (some (Value.tuple #[(vw 0), (vb false)], H))
 ((cf (some .u64) Z).bind fun l =>
 (ai .other .quo Y l).bind fun m =>
 (iQ [m, (vw 1)]).bind fun n =>
 some (Value.tuple #[n, (vb true)], H))) = some r) : FF kP [Y, Z] H = some r :=
 fo Tryz.func74 (by kernel_rfl) h
theorem lV {r : Value × AH} (h : (
 aQ (Value.cells x2).toList H fun b d =>
 ld [.n, .f 10] Y d fun j =>
 fy j fun e =>
 ld [.n, .f 0] Y d fun k =>
 hJ [(0, 1), (1, 1), (2, 1)] [(vi 0), (vi 0), (vi 0)] [(0, (vi 13)), (1, e)] fun l =>
 (FF gm [k, Z, l] d).bind fun a =>
 ad [.n, .f 10] Y fun g =>
 (ar g a.2).bind fun m =>
 (ax 3 b a.2).bind fun o =>
 ld [.n, .f 0] Y a.2 fun p =>
 ld [.f 1] b a.2 fun q =>
 (FF vJ [p, e, q] a.2).bind fun c =>
 bX (ar g c.2) (ar g a.2) <|
 bX (ax 3 b c.2) (ax 3 b a.2) <|
 hJ [(0, 3), (3, 1)] [(vi 0), (vi 0), (vw 0), (.pointer none)] [(0, o), (1, c.1)] fun s =>
 z5 1 4 [(vi 0), (vi 0), (vw 0), (.pointer none)] [(0, s)] c.2 fun t w =>
 (eJ 4 32 m t w).bind fun i =>
 st 1 [.n, .f 10] Y i.1 i.2 fun y =>
 some (e, y)) = some r) : FF ee [Y, Z, x2] H = some r :=
 fo Tryz.func75 (by kernel_rfl) h
theorem yA {r : Value × AH} (h : (
 aQ (Value.cells x2).toList H fun o c =>
 ld [.n, .f 10] Y c fun q =>
 fy q fun e =>
 ad [.n, .f 5] Y fun g =>
 (ar g c).bind fun s =>
 (FF ch [(vi 13), e, (vi 0)] c).bind fun i =>
 bX (ar g i.2) (ar g c) <|
 (FF cr [s, Z, (vi 6), i.1] i.2).bind fun j =>
 ld [.n, .f 10] Y j.2 fun t =>
 (ax 3 o j.2).bind fun w =>
 z5 1 3 [(vi 0), (vi 0), (vw 0)] [(0, w)] j.2 fun y d =>
 (eJ 3 24 t y d).bind fun a =>
 ad [.n, .f 11] Y fun b =>
 (ar b a.2).bind fun z =>
 bX (ar b d) (ar b a.2) <|
 ad [.n, .f 5] Y fun k =>
 (ar k a.2).bind fun A =>
 bX (ar k d) (ar k a.2) <|
 ad [.f 1] o fun l =>
 (ar l a.2).bind fun B =>
 bX (ar l d) (ar l a.2) <|
 (FF oT [A, e, B] a.2).bind fun m =>
 bX (ar b m.2) (ar b a.2) <|
 z5 1 1 [(.pointer none)] [(0, m.1)] m.2 fun C D =>
 (eJ 1 8 z C D).bind fun p =>
 st 1 [.n, .f 10] Y a.1 p.2 fun E =>
 st 1 [.n, .f 11] Y p.1 E fun G =>
 some (e, G)) = some r) : FF ic [Y, Z, x2] H = some r :=
 fo Tryz.func76 (by kernel_rfl) h
theorem wr {r : Value × AH} (h : (
 (ai .other .lss x4 (vi 0)).bind fun a =>
 (gV a false x4).bind fun g =>
 (gB a false (ai .other .gtr g (vi 1048576))).bind fun i =>
 (aL a (vb true) i).bind fun b =>
 (gV b false x5).bind fun j =>
 (gB b false (ai .other .lss j (vi 0))).bind fun k =>
 (aL b (vb true) k).bind fun c =>
 (gV c false x5).bind fun l =>
 (gB c false (ai .other .geq l (vi 4294967296))).bind fun m =>
 (aL c (vb true) m).bind fun o =>
 av o
 (some ((vb false), H))
 (ad [.n, .f 0] Y fun d =>
 (ar d H).bind fun p =>
 (FF jN [x2, x3] H).bind fun e =>
 bX (ar d e.2) (ar d H) <|
 (ai .other .add x4 (vi 1)).bind fun q =>
 (cf (some .u64) q).bind fun s =>
 (ai .other .shl s (vw 32)).bind fun t =>
 (cf (some .u64) x5).bind fun w =>
 (ai .other .or t w).bind fun y =>
 (FF dL [p, Z, e.1, y] e.2).bind fun z =>
 some ((vb true), z.2))) = some r) : FF gG [Y, Z, x2, x3, x4, x5] H = some r :=
 fo Tryz.func77 (by kernel_rfl) h
theorem Aq {r : Value × AH} (h : (
 (ai .other .lss x4 (vi 0)).bind fun b =>
 (gV b false x4).bind fun g =>
 (gB b false (ai .other .gtr g (vi 1048576))).bind fun i =>
 (aL b (vb true) i).bind fun c =>
 (gV c false x5).bind fun j =>
 (gB c false (ai .other .lss j (vi 0))).bind fun k =>
 (aL c (vb true) k).bind fun a =>
 (gV a false x5).bind fun l =>
 (gB a false (cf (some .u64) l)).bind fun m =>
 (gB a false (ai .other .geq m (vw 4294967296))).bind fun o =>
 (aL a (vb true) o).bind fun p =>
 av p
 (some ((vb false), H))
 (ad [.n, .f 0] Y fun d =>
 (ar d H).bind fun q =>
 (FF ch [(vi 10), x2, x3] H).bind fun e =>
 bX (ar d e.2) (ar d H) <|
 (ai .other .add x4 (vi 1)).bind fun s =>
 (cf (some .u64) s).bind fun t =>
 (ai .other .mul t (vw 4294967296)).bind fun w =>
 (cf (some .u64) x5).bind fun y =>
 (ai .other .add w y).bind fun z =>
 (FF eO [q, Z, e.1, z] e.2).bind fun A =>
 some ((vb true), A.2))) = some r) : FF iZ [Y, Z, x2, x3, x4, x5] H = some r :=
 fo Tryz.func78 (by kernel_rfl) h
noncomputable def uN (p : List Nat) : Code := Code.sub (bK Tryz.f79) p
noncomputable def sk : KK := dK PP (Tryz.f79).results.toList
noncomputable def aj2 : KK := CQ (uN [1, 1]) sk bv sk
noncomputable def A7 : OV := aj2 (ls [Y, Z, x2, u, u, u, x6] 23) H
noncomputable def Sw : KK := CQ (uN [1, 1, 1]) sk bv sk
noncomputable def aj0 : KK := dD mM Sw
noncomputable def A8 : OV := Sw (ls [u, u, u, u, u, u, x6] 23) H
noncomputable def aj4 : KK := CQ (uN [1, 1, 0, 1]) aj0 bv sk
noncomputable def A9 : OV := aj4 (ls [Y, Z, x2, u, u, u, x6, x7] 22) H
noncomputable def Sz : KX := BX 0 aj0 bv
noncomputable def LM : KX := nJ mM Sz
noncomputable def Sx : KK := uz (uN [1, 1, 0, 1, 4, 5]) LM sk
noncomputable def aj1 : KK := dD j4 Sx
noncomputable def nV : OV := Sx (ls [Y, Z, x2, u, u, u, x6, x7] 22) H
noncomputable def aj6 : KK := CQ (uN [1, 1, 0, 1, 4, 5, 1]) aj1 LM sk
noncomputable def Ba : OV := aj6 (ls [Y, Z, x2, u, u, u, x6, x7] 22) H
noncomputable def Sy : KK := CQ (uN [1, 1, 0, 1, 4, 5, 1, 1]) aj1 LM sk
noncomputable def auZ : KK := dD j4 Sy
noncomputable def Bb : OV := Sy (ls [Y, Z, x2, u, u, u, x6, x7] 22) H
noncomputable def au0 : KX := BX 1 auZ LM
noncomputable def uO : OV := Sz 0 (ls [u, u, u, u, u, u, x6] 23) H
theorem nS : ap mM sk := rf
theorem aj3 : ap 1073741752 aj2 := rc nS aw nS
theorem Fz : ap mM Sw := rc nS aw nS
theorem aj5 : ap j4 aj4 := rc (cd Fz) aw nS
theorem sm : ∀ i, ap mM (Sz i) := rb (cd Fz) aw
theorem xu : ap j4 Sx := rl (cx sm) nS
theorem aj7 : ap j4 aj6 := rc (cd xu) (cx sm) nS
theorem OD : ap j4 Sy := rc (cd xu) (cx sm) nS
theorem aj8 : ∀ i, ap j4 (au0 i) := rb (cd OD) (cx sm)
theorem FK : A8 x6 H =
 some ((vb true), H) :=
 (by kernel_rfl)
theorem FN : Bb Y Z x2 x6 x7 H =
 (ai .other .add x7 (vi 1)).bind fun a =>
 nV Y Z x2 x6 a H :=
 (by kernel_rfl)
theorem FM : Ba Y Z x2 x6 x7 H =
 ldN 5 [.i 5 x7] Y H fun b =>
 ldN 5 [.i 5 x7] Z H fun d =>
 (ce x2 [b, d]).bind fun c => (FF c.1 c.2 H).bind fun a =>
 (ot .not a.1).bind fun e =>
 av e
 (some ((vb false), a.2))
 (Bb Y Z x2 x6 x7 a.2) :=
 (pt rfl 0 OD (bt rfl (uN [1, 1, 0, 1, 4, 5, 1, 0, 4]) 1 aj8 (by kernel_rfl)))
theorem zK : uO x6 H = A8 x6 H :=
 (by kernel_rfl)
theorem so : nV Y Z x2 x6 x7 H =
 fy Y fun a =>
 (ai .other .lss x7 a).bind fun b =>
 av b
 (Ba Y Z x2 x6 x7 H)
 (uO x6 H) :=
 uW rfl xu (pt rfl 0 aj7 (by kernel_rfl))
theorem FL : A9 Y Z x2 x6 x7 H =
 nV Y Z x2 x6 x7 H :=
 (bt rfl (uN [1, 1, 0, 1, 4]) 0 sm (li rfl (uN [1, 1, 0, 1, 4, 5]) xu (by kernel_rfl)))
theorem FJ : A7 Y Z x2 x6 H =
 A9 Y Z x2 x6 (vi 0) H :=
 (pt rfl 0 Fz (pt rfl 0 aj5 (by kernel_rfl)))
noncomputable def akY : OV := ba PP GG FF (uN []) (ls [Y, Z, x2] 27) H sk bv sk
theorem OJ {r : Value × AH} (h : (
 fy Y fun a =>
 fy Z fun b =>
 (ai .other .neq a b).bind fun c =>
 av c
 (some ((vb false), H))
 (A7 Y Z x2 (vb false) H)) = some r) : FF vD [Y, Z, x2] H = some r :=
 fo (t := akY Y Z x2 H) Tryz.func79 (by kernel_rfl) (Eq.trans (pt rfl 1 aj3 (by kernel_rfl)) h)
theorem oM {r : Value × AH} (h : (
 aQ (Value.cells Y).toList H fun b c =>
 aQ (Value.cells Z).toList c fun d a =>
 (ax 5 b a).bind fun e =>
 (ax 5 d a).bind fun f =>
 (ai (.flat 5) .eql e f).bind fun g =>
 some (g, a)) = some r) : FF b8 [Y, Z] H = some r :=
 fo Tryz.func80 (by kernel_rfl) h
theorem ur {r : Value × AH} (h : (
 ld [.n, .f 0] Y H fun a =>
 hJ [(0, 1), (1, 1), (2, 1)] [(vi 0), (vi 0), (vi 0)] [(0, (vi 2))] fun b =>
 (FF gv [a, Z, b, (vw 1)] H).bind fun c =>
 some (Value.tuple #[], c.2)) = some r) : FF eg [Y, Z] H = some r :=
 fo Tryz.func81 (by kernel_rfl) h
theorem yB {r : Value × AH} (h : (
 ad [.n, .f 5] Y fun a =>
 (ar a H).bind fun c =>
 (FF ch [(vi 2), (vi 0), (vi 0)] H).bind fun b =>
 bX (ar a b.2) (ar a H) <|
 (FF iO [c, Z, b.1, (vw 1)] b.2).bind fun d =>
 some (Value.tuple #[], d.2)) = some r) : FF fQ [Y, Z] H = some r :=
 fo Tryz.func82 (by kernel_rfl) h
theorem Cw {r : Value × AH} (h : (
 aQ (Value.cells Z).toList H fun c b =>
 (ax 3 c b).bind fun d =>
 (FF Bo [Y, d] b).bind fun a =>
 ld [.n, .f 1] Y a.2 fun e =>
 ld [.i 1 a.1] e a.2 fun g =>
 some (g, a.2)) = some r) : FF ne [Y, Z] H = some r :=
 fo Tryz.func83 (by kernel_rfl) h
theorem Tg {r : Value × AH} (h : (
 aQ [(vi 0), (vi 0), (vi 0)] H fun a c =>
 hJ [(0, 1), (1, 1), (2, 1)] [(vi 0), (vi 0), (vi 0)] [(0, Y), (1, Z), (2, x2)] fun d =>
 (cJ 3 a d c).bind fun b =>
 (ax 3 a b).bind fun e => some (e, b)) = some r) : FF ch [Y, Z, x2] H = some r :=
 fo Tryz.func84 (by kernel_rfl) h
theorem yQ {r : Value × AH} (h : (
 (FF fU [Y, Z, x2, (.func (.func og) #[] #[])] H).bind fun a =>
 some (a.1, a.2)) = some r) : FF kC [Y, Z, x2] H = some r :=
 fo Tryz.func85 (by kernel_rfl) h
theorem Ao {r : Value × AH} (h : (
 (FF qz [x2, x3] H).bind fun b =>
 (ag b.1 0).bind fun g =>
 (ag b.1 1).bind fun a =>
 (gV a true Y).bind fun i =>
 HK a true  [.n, .f 0] i fun d =>
 (gB a true (ar d b.2)).bind fun j =>
 (gV a true Z).bind fun k =>
 (gV a true Y).bind fun l =>
 f0 a true  [.n, .f 1] l b.2 fun m =>
 (gE a true b.2 (FF ch [(vi 11), m, (vi 0)] b.2)).bind fun c =>
 bX (ar d c.2) (ar d b.2) <|
 (gV a true x2).bind fun o =>
 (gV a true g).bind fun p =>
 (gE a true c.2 (FF gS [j, k, c.1, o, p] c.2)).bind fun e =>
 (aL a e.1 (vb false)).bind fun q =>
 some (q, e.2)) = some r) : FF gn [Y, Z, x2, x3] H = some r :=
 fo Tryz.func86 (by kernel_rfl) h
theorem sS {r : Value × AH} (h : (
 ld [.n, .f 11] Y H fun a =>
 (fj .int a Z x2 H).bind fun b =>
 some (Value.tuple #[], b)) = some r) : FF iC [Y, Z, x2] H = some r :=
 fo Tryz.func87 (by kernel_rfl) h
theorem vW {r : Value × AH} (h : (
 ld [.n, .f 12] Y H fun b =>
 z5 2 1 [(vi 0)] [(0, Z), (1, x2)] H fun c d =>
 (eJ 1 8 b c d).bind fun a =>
 st 1 [.n, .f 12] Y a.1 a.2 fun e =>
 some (Value.tuple #[], e)) = some r) : FF jL [Y, Z, x2] H = some r :=
 fo Tryz.func88 (by kernel_rfl) h
noncomputable def Xb (p : List Nat) : Code := Code.sub (bK Tryz.f89) p
noncomputable def FA : KK := dK PP (Tryz.f89).results.toList
noncomputable def aj9 : KK := CQ (Xb [1]) FA bv FA
noncomputable def AX : OV := aj9 (ls [Y, Z, u, u, x4, x5] 45) H
noncomputable def SA : KK := CQ (Xb [1, 1]) FA bv FA
noncomputable def au1 : KK := dD U2 SA
noncomputable def rJ : OV := SA (ls [Y, Z, u, u, x4, x5] 45) H
noncomputable def au2 : KX := BX 0 au1 bv
theorem Dg : ap 2251799813685199 FA := rf
theorem akA : ap U2 aj9 := rc Dg aw Dg
theorem OE : ap U2 SA := rc Dg aw Dg
theorem akB : ∀ i, ap U2 (au2 i) := rb (cd OE) aw
theorem Ei : rJ Y Z x4 x5 H =
 (FF ks [Y, Z] H).bind fun a =>
 (ag a.1 0).bind fun c =>
 (ag a.1 1).bind fun d =>
 (cJ 4 x4 c a.2).bind fun b =>
 (ax 4 x4 b).bind fun e => some (Value.tuple #[e, d], b) :=
 (by kernel_rfl)
theorem Eh : AX Y Z x4 x5 H =
 ld [.n, .f 2, .f 2] Y H fun i =>
 (ai .other .lss i (vi 1)).bind fun a =>
 (gV a false Y).bind fun j =>
 f0 a false  [.n, .f 2, .f 2] j H fun k =>
 (gB a false (ai .other .gtr k (vi 65536))).bind fun l =>
 (aL a (vb true) l).bind fun m =>
 av m
 ((FF jo [Y, Z, (vi 3)] H).bind fun c =>
 (ag c.1 0).bind fun o =>
 (ag c.1 1).bind fun p =>
 (cJ 4 x4 o c.2).bind fun e =>
 (ax 4 x4 e).bind fun q => some (Value.tuple #[q, p], e))
 (ld [.n, .f 2, .f 1] Y H fun s =>
 (ai .other .lss s (vi 0)).bind fun b =>
 (gV b false Y).bind fun t =>
 f0 b false  [.n, .f 2, .f 1] t H fun w =>
 (gB b false (ai .other .gtr w (vi 1048576))).bind fun y =>
 (aL b (vb true) y).bind fun z =>
 av z
 ((FF jo [Y, Z, (vi 5)] H).bind fun d =>
 (ag d.1 0).bind fun A =>
 (ag d.1 1).bind fun B =>
 (cJ 4 x4 A d.2).bind fun g =>
 (ax 4 x4 g).bind fun C => some (Value.tuple #[C, B], g))
 (rJ Y Z x4 x5 H)) :=
 (pt rfl 0 OE (bt rfl (Xb [1, 0, 4]) 0 akB (by kernel_rfl)))
noncomputable def agA : OV := ba PP GG FF (Xb []) (ls [Y, Z] 49) H FA bv FA
theorem NO {r : Value × AH} (h : (
 aQ [(vi 0), (.slice none 0 0), (vi 0), (vw 0)] H fun a b =>
 AX Y Z a (vb false) b) = some r) : FF m6 [Y, Z] H = some r :=
 fo (t := agA Y Z H) Tryz.func89 (by kernel_rfl) (Eq.trans (pt rfl 0 akA (by kernel_rfl)) h)
theorem Az {r : Value × AH} (h : (
 aQ [(vi 0), (.slice none 0 0), (vi 0), (vw 0)] H fun a g =>
 (FF gD [Y] g).bind fun b =>
 av b.1
 ((FF dn [Y, Z, (vi 5)] b.2).bind fun c =>
 (ag c.1 0).bind fun i =>
 (ag c.1 1).bind fun j =>
 (cJ 4 a i c.2).bind fun e =>
 (ax 4 a e).bind fun k => some (Value.tuple #[k, j], e))
 ((FF cW [Y, Z] b.2).bind fun d =>
 (ag d.1 0).bind fun l =>
 (ag d.1 1).bind fun m =>
 (cJ 4 a l d.2).bind fun f =>
 (ax 4 a f).bind fun n => some (Value.tuple #[n, m], f))) = some r) : FF eZ [Y, Z] H = some r :=
 fo Tryz.func90 (by kernel_rfl) h
noncomputable def Xc (p : List Nat) : Code := Code.sub (bK Tryz.f91) p
noncomputable def FB : KK := dK PP (Tryz.f91).results.toList
noncomputable def akC : KK := CQ (Xc [1]) FB bv FB
noncomputable def rj : OV := akC (ls [Y, Z, u, u, x4, x5] 53) H
noncomputable def SB : KK := CQ (Xc [1, 1]) FB bv FB
noncomputable def au3 : KK := dD U0 SB
noncomputable def rk : OV := SB (ls [Y, Z, u, u, x4, x5] 53) H
noncomputable def au4 : KX := BX 0 au3 bv
theorem Dh : ap 576460752303423439 FB := rf
theorem akD : ap U0 akC := rc Dh aw Dh
theorem OF : ap U0 SB := rc Dh aw Dh
theorem akE : ∀ i, ap U0 (au4 i) := rb (cd OF) aw
theorem wi : rk Y Z x4 x5 H =
 (FF cO [Y, Z] H).bind fun a =>
 (ag a.1 0).bind fun c =>
 (ag a.1 1).bind fun d =>
 (cJ 4 x4 c a.2).bind fun b =>
 (ax 4 x4 b).bind fun e => some (Value.tuple #[e, d], b) :=
 (by kernel_rfl)
theorem wh : rj Y Z x4 x5 H =
 (FF gD [Y] H).bind fun a =>
 av a.1
 ((FF dn [Y, Z, (vi 1)] a.2).bind fun d =>
 (ag d.1 0).bind fun l =>
 (ag d.1 1).bind fun m =>
 (cJ 4 x4 l d.2).bind fun i =>
 (ax 4 x4 i).bind fun o => some (Value.tuple #[o, m], i))
 (ld [.n, .f 2, .f 2] Y a.2 fun p =>
 (ai .other .lss p (vi 1)).bind fun b =>
 (gV b false Y).bind fun q =>
 f0 b false  [.n, .f 2, .f 2] q a.2 fun s =>
 (gB b false (ai .other .gtr s (vi 65536))).bind fun t =>
 (aL b (vb true) t).bind fun w =>
 av w
 ((FF dn [Y, Z, (vi 4)] a.2).bind fun e =>
 (ag e.1 0).bind fun y =>
 (ag e.1 1).bind fun z =>
 (cJ 4 x4 y e.2).bind fun j =>
 (ax 4 x4 j).bind fun A => some (Value.tuple #[A, z], j))
 (ld [.n, .f 2, .f 3] Y a.2 fun B =>
 (ai .other .lss B (vi 1)).bind fun c =>
 (gV c false Y).bind fun C =>
 f0 c false  [.n, .f 2, .f 3] C a.2 fun D =>
 (gB c false (ai .other .gtr D (vi 8))).bind fun E =>
 (aL c (vb true) E).bind fun G =>
 av G
 ((FF dn [Y, Z, (vi 1)] a.2).bind fun g =>
 (ag g.1 0).bind fun I =>
 (ag g.1 1).bind fun J =>
 (cJ 4 x4 I g.2).bind fun k =>
 (ax 4 x4 k).bind fun K => some (Value.tuple #[K, J], k))
 (rk Y Z x4 x5 a.2))) :=
 (pt rfl 0 OF (bt rfl (Xc [1, 0, 4]) 0 akE (by kernel_rfl)))
noncomputable def ME : OV := ba PP GG FF (Xc []) (ls [Y, Z] 57) H FB bv FB
theorem CF {r : Value × AH} (h : (
 aQ [(vi 0), (.slice none 0 0), (vi 0), (vw 0)] H fun a b =>
 rj Y Z a (vb false) b) = some r) : FF fS [Y, Z] H = some r :=
 fo (t := ME Y Z H) Tryz.func91 (by kernel_rfl) (Eq.trans (pt rfl 0 akD (by kernel_rfl)) h)
noncomputable def akF (p : List Nat) : Code := Code.sub (bK Tryz.f92) p
noncomputable def FC : KK := dK PP (Tryz.f92).results.toList
noncomputable def akG : KK := CQ (akF [1, 1]) FC bv FC
noncomputable def nr : OV := akG (ls [Y, u, u, u, x4, x5] 15) H
noncomputable def akI : KK := CQ (akF [1, 1, 1]) FC bv FC
noncomputable def jc : OV := akI (ls [u, u, u, u, x4, x5] 15) H
theorem Dj : ap 2097135 FC := rf
theorem akH : ap 2097102 akG := rc Dj aw Dj
theorem akJ : ap 2097103 akI := rc Dj aw Dj
theorem j6 : jc x4 x5 H =
 some (x5, H) :=
 (by kernel_rfl)
theorem rC : nr Y x4 x5 H =
 (ai .other .lss x5 (vi 0)).bind fun a =>
 av a
 (ld [.n, .f 1] Y H fun b =>
 (ai .other .add x5 b).bind fun c =>
 jc x4 c H)
 (jc x4 x5 H) :=
 (pt rfl 0 akJ (by kernel_rfl))
noncomputable def CC : OV := ba PP GG FF (akF []) (ls [Y, Z] 19) H FC bv FC
theorem vY {r : Value × AH} (h : (
 ld [.n, .f 1] Y H fun a =>
 (ai .other .rem Z a).bind fun b =>
 nr Y (vi 0) b H) = some r) : FF fg [Y, Z] H = some r :=
 fo (t := CC Y Z H) Tryz.func92 (by kernel_rfl) (Eq.trans (pt rfl 1 akH (by kernel_rfl)) h)
theorem As {r : Value × AH} (h : (
 hJ [(0, 1), (1, 1), (2, 1), (3, 1)] [(vi 0), (.slice none 0 0), (vi 0), (vw 0)] [(0, x2)] fun b =>
 st 4 [.n, .f 17] Y b H fun a =>
 ld [.n, .f 0] Y a fun c =>
 ld [.n, .f 1] Y a fun d =>
 ldN 4 [.n, .f 17] Y a fun e =>
 (FF alM [c, Z, d, e] a).bind fun g =>
 some (Value.tuple #[], g.2)) = some r) : FF bJ [Y, Z, x2] H = some r :=
 fo Tryz.func93 (by kernel_rfl) h
noncomputable def akK (p : List Nat) : Code := Code.sub (bK Tryz.f94) p
noncomputable def FD : KK := dK PP (Tryz.f94).results.toList
noncomputable def akL : KK := CQ (akK [1, 1, 1]) FD bv FD
noncomputable def amW : OV := akL (ls [Y, u, x2, x3, u, u, x6] 88) H
noncomputable def akN : KK := CQ (akK [1, 1, 1, 1]) FD bv FD
noncomputable def GD : OV := akN (ls [Y, u, x2, x3] 91) H
theorem Dk : ap 39614081257132168796771975155 FD := rf
theorem akM : ap 39614081257132168796771975090 akL := rc Dk aw Dk
theorem akO : ap 39614081257132168796771975154 akN := rc Dk aw Dk
theorem Jl : GD Y x2 x3 H =
 ld [.n, .f 7] Y H fun b =>
 (ai .other .add b (vi 1)).bind fun c =>
 st 1 [.n, .f 7] Y c H fun a =>
 ld [.n, .f 7] Y a fun d =>
 ld [.n, .f 0] Y a fun e =>
 ld [.n, .f 7] e a fun g =>
 ld [.n, .f 2] g a fun i =>
 (ai .other .geq d i).bind fun j =>
 some (Value.tuple #[(vb false), j], a) :=
 (by kernel_rfl)
theorem uc : amW Y x2 x3 x6 H =
 (ot .not x6).bind fun a =>
 (gV a true Y).bind fun b =>
 f0 a true  [.n, .f 8] b H fun c =>
 (gB a true (ai .other .lss c (vi 0))).bind fun d =>
 (aL a d (vb false)).bind fun e =>
 av e
 (ld [.n, .f 7] Y H fun g =>
 st 1 [.n, .f 8] Y g H fun i =>
 GD Y x2 x3 i)
 (GD Y x2 x3 H) :=
 (pt rfl 0 akO (by kernel_rfl))
noncomputable def rTs : OV := ba PP GG FF (akK []) (ls [Y] 94) H FD bv FD
theorem amX {r : Value × AH} (h : (
 ad [.n, .f 0] Y fun d =>
 (ar d H).bind fun j =>
 ad [.n, .f 7] j fun e =>
 (ar e H).bind fun k =>
 ad [.n, .f 1] Y fun g =>
 (ar g H).bind fun l =>
 ld [.n, .f 0] Y H fun m =>
 ld [.n, .f 7] m H fun o =>
 ld [.n, .f 2, .f 1] Y H fun p =>
 (FF fg [o, p] H).bind fun a =>
 bX (ar d a.2) (ar d H) <|
 bX (ar e a.2) (ar e H) <|
 bX (ar g a.2) (ar g H) <|
 ad [.n, .f 7] Y fun i =>
 (ar i a.2).bind fun q =>
 bX (ar i H) (ar i a.2) <|
 (FF kA [k, l, a.1, q] a.2).bind fun b =>
 (ag b.1 0).bind fun s =>
 (ag b.1 1).bind fun w =>
 (ag b.1 2).bind fun c =>
 (gV c true s).bind fun y =>
 (gV c true Y).bind fun z =>
 f0 c true  [.n, .f 2, .f 1] z b.2 fun A =>
 (gB c true (ai .other .eql y A)).bind fun B =>
 (aL c B (vb false)).bind fun C =>
 av C
 (st 1 [.n, .f 9] Y (vb true) b.2 fun D =>
 st 1 [.n, .f 10] Y w D fun E =>
 some (Value.tuple #[(vb true), (vb false)], E))
 (amW Y (vb false) (vb false) c b.2)) = some r) : FF Gc [Y] H = some r :=
 fo (t := rTs Y H) Tryz.func94 (by kernel_rfl) (Eq.trans (pt rfl 2 akM (by kernel_rfl)) h)
theorem yC {r : Value × AH} (h : (
 ad [.n, .f 0] Y fun a =>
 (ar a H).bind fun d =>
 (FF ch [(vi 8), x2, (vi 0)] H).bind fun b =>
 bX (ar a b.2) (ar a H) <|
 (FF gS [d, Z, b.1, (vw 0), (vw 1)] b.2).bind fun c =>
 some (c.1, c.2)) = some r) : FF ie [Y, Z, x2] H = some r :=
 fo Tryz.func95 (by kernel_rfl) h
theorem ut {r : Value × AH} (h : (
 ad [.n, .f 0] Y fun a =>
 (ar a H).bind fun c =>
 (FF ch [(vi 8), x2, (vi 0)] H).bind fun b =>
 bX (ar a b.2) (ar a H) <|
 (FF eO [c, Z, b.1, (vw 0)] b.2).bind fun d =>
 some (Value.tuple #[], d.2)) = some r) : FF ej [Y, Z, x2] H = some r :=
 fo Tryz.func96 (by kernel_rfl) h
theorem Aj {r : Value × AH} (h : (
 aQ [(vi 0), (vi 0), (vw 0)] H fun c b =>
 (ai .other .lss x2 (vi 0)).bind fun a =>
 (gV a false x2).bind fun l =>
 (gV a false Y).bind fun m =>
 f0 a false  [.n, .f 10] m b fun o =>
 (Ab (yv a) false (fy o some) (some undef)).bind fun p =>
 (gB a false (ai .other .geq l p)).bind fun q =>
 (aL a (vb true) q).bind fun s =>
 av s
 (hJ [(0, 1), (1, 1), (2, 1)] [(vi 0), (vi 0), (vw 0)] [] fun t =>
 (cJ 3 c t b).bind fun j =>
 (ax 3 c j).bind fun w => some (w, j))
 (ad [.n, .f 5] Y fun d =>
 (ar d b).bind fun y =>
 (FF ch [(vi 13), x2, (vi 0)] b).bind fun e =>
 bX (ar d e.2) (ar d b) <|
 (FF cr [y, Z, (vi 5), e.1] e.2).bind fun g =>
 ld [.n, .f 10] Y g.2 fun z =>
 ldN 3 [.i 3 x2] z g.2 fun A =>
 (cJ 3 c A g.2).bind fun k =>
 (ax 3 c k).bind fun B => some (B, k))) = some r) : FF lJ [Y, Z, x2] H = some r :=
 fo Tryz.func97 (by kernel_rfl) h
theorem Av {r : Value × AH} (h : (
 (FF b7 [Y] H).bind fun a =>
 ad [.n, .f 1] Y fun c =>
 (ar c a.2).bind fun g =>
 bX (ar c H) (ar c a.2) <|
 (FF lK [a.1, g] a.2).bind fun d =>
 st 1 [.n, .f 11] Y d.1 d.2 fun e =>
 ld [.n, .f 11] Y e fun i =>
 (FF gR [i] e).bind fun b =>
 (ag b.1 0).bind fun k =>
 (ag b.1 1).bind fun j =>
 (ag b.1 2).bind fun l =>
 some (j, b.2)) = some r) : FF eW [Y] H = some r :=
 fo Tryz.func98 (by kernel_rfl) h
theorem At {r : Value × AH} (h : (
 ld [.n, .f 0] Y H fun a =>
 ld [.n, .f 11] a H fun b =>
 ld [.n, .f 10] Y H fun c =>
 ld [.i 1 c] b H fun d =>
 some (d, H)) = some r) : FF b7 [Y] H = some r :=
 fo Tryz.func99 (by kernel_rfl) h
theorem Am {r : Value × AH} (h : (
 ad [.n, .f 0] Y fun a =>
 (ar a H).bind fun d =>
 ld [.n, .f 1] Y H fun e =>
 (FF ch [(vi 12), e, (vi 0)] H).bind fun b =>
 bX (ar a b.2) (ar a H) <|
 (FF ei [d, Z, b.1] b.2).bind fun c =>
 some (c.1, c.2)) = some r) : FF iX [Y, Z] H = some r :=
 fo Tryz.func100 (by kernel_rfl) h
theorem Mk {r : Value × AH} (h : (
 (ai .other .rem Y (vw 2305843009213693952)).bind fun b =>
 (ai .other .quo Y (vw 2305843009213693952)).bind fun c =>
 (cf (some .i64) c).bind fun a =>
 (ai .other .gtr a (vi 2)).bind fun d =>
 av d
 (some (Value.tuple #[(vw 0), (vi (-1)), (vb false)], H))
 (some (Value.tuple #[b, a, (vb true)], H))) = some r) : FF gR [Y] H = some r :=
 fo Tryz.func101 (by kernel_rfl) h
theorem Al {r : Value × AH} (h : (
 (FF gR [Z] H).bind fun b =>
 (ag b.1 0).bind fun c =>
 (ag b.1 1).bind fun o =>
 (ag b.1 2).bind fun p =>
 (ai .other .geq c x2).bind fun a =>
 (gV a true c).bind fun d =>
 (gV a true x2).bind fun e =>
 (gB a true (ai .other .sub d e)).bind fun g =>
 (gV a true Y).bind fun i =>
 f0 a true  [.n, .f 2] i b.2 fun j =>
 (gB a true (cf (some .u64) j)).bind fun k =>
 (gB a true (ai .other .geq g k)).bind fun l =>
 (aL a l (vb false)).bind fun m =>
 some (m, b.2)) = some r) : FF iW [Y, Z, x2] H = some r :=
 fo Tryz.func102 (by kernel_rfl) h
noncomputable def Kj (p : List Nat) : Code := Code.sub (bK Tryz.f103) p
noncomputable def rL : KK := dK PP (Tryz.f103).results.toList
noncomputable def Vi : KK := CQ (Kj [1]) rL bv rL
noncomputable def ox : OV := Vi (ls [Y, Z] 48) H
noncomputable def Vj : KK := CQ (Kj [1, 1]) rL bv rL
noncomputable def gH : OV := Vj (ls [Y, Z] 48) H
noncomputable def ap5 : KX := BX 0 rL bv
theorem rM : ap 1125899906842623 rL := rf
theorem Zj : ap 1125899906842620 Vi := rc rM aw rM
theorem Zk : ap 1125899906842620 Vj := rc rM aw rM
theorem Zl : ∀ i, ap 1125899906842623 (ap5 i) := rb rM aw
theorem s6 : gH Y Z H =
 (FF b7 [Y] H).bind fun a =>
 ad [.n, .f 1] Y fun c =>
 (ar c a.2).bind fun g =>
 bX (ar c H) (ar c a.2) <|
 ad [.n, .f 11] Y fun d =>
 (ar d a.2).bind fun i =>
 bX (ar d H) (ar d a.2) <|
 (FF gn [a.1, g, i, (vi 0)] a.2).bind fun b =>
 av b.1
 ((FF bJ [Y, Z, (vi 0)] b.2).bind fun e =>
 ld [.n, .f 6] Y e.2 fun j =>
 (ai .other .add j (vi 1)).bind fun k =>
 st 1 [.n, .f 6] Y k e.2 fun l =>
 some (Value.tuple #[], l))
 (ld [.n, .f 6] Y b.2 fun m =>
 (ai .other .eql m (vi 9)).bind fun o =>
 av o
 (st 1 [.n, .f 6] Y (vi 7) b.2 fun p =>
 some (Value.tuple #[], p))
 (st 1 [.n, .f 6] Y (vi 20) b.2 fun q =>
 some (Value.tuple #[], q))) :=
 (bt rfl (Kj [1, 1, 4]) 0 Zl (by kernel_rfl))
theorem s5 : ox Y Z H =
 ld [.n, .f 6] Y H fun a =>
 (ai .other .eql a (vi 13)).bind fun b =>
 av b
 (st 1 [.n, .f 13] Y (vw 1) H fun c =>
 gH Y Z c)
 (gH Y Z H) :=
 (pt rfl 0 Zk (by kernel_rfl))
noncomputable def Gv : OV := ba PP GG FF (Kj []) (ls [Y, Z] 48) H rL bv rL
theorem yE {r : Value × AH} (h : (
 st 1 [.n, .f 13] Y (vw 0) H fun a =>
 ox Y Z a) = some r) : FF kB [Y, Z] H = some r :=
 fo (t := Gv Y Z H) Tryz.func103 (by kernel_rfl) (Eq.trans (pt rfl 0 Zj (by kernel_rfl)) h)
theorem CB {r : Value × AH} (h : (
 aQ (Value.cells x3).toList H fun g a =>
 ad [.n, .f 0] Y fun b =>
 (ar b a).bind fun m =>
 ad [.n, .f 1] Y fun j =>
 (ar j a).bind fun o =>
 (FF eS [Y, x2] a).bind fun d =>
 bX (ar b d.2) (ar b a) <|
 bX (ar j d.2) (ar j a) <|
 (FF ch [(vi 16), o, d.1] d.2).bind fun k =>
 bX (ar b k.2) (ar b a) <|
 (FF cr [m, Z, (vi 6), k.1] k.2).bind fun e =>
 ad [.n, .f 3] Y fun l =>
 (ar l e.2).bind fun p =>
 (FF eS [Y, x2] e.2).bind fun c =>
 bX (ar l c.2) (ar l e.2) <|
 (ax 3 g c.2).bind fun q =>
 bX (ax 3 g e.2) (ax 3 g c.2) <|
 st 3 [.i 3 c.1] p q c.2 fun s =>
 some (Value.tuple #[], s)) = some r) : FF nj [Y, Z, x2, x3] H = some r :=
 fo Tryz.func104 (by kernel_rfl) h
theorem yF {r : Value × AH} (h : (
 ld [.n, .f 11] Y H fun b =>
 (FF gR [b] H).bind fun a =>
 (ag a.1 0).bind fun c =>
 (ag a.1 1).bind fun d =>
 (ag a.1 2).bind fun e =>
 some (c, a.2)) = some r) : FF fR [Y] H = some r :=
 fo Tryz.func105 (by kernel_rfl) h
theorem An {r : Value × AH} (h : (
 ad [.n, .f 0] Y fun a =>
 (ar a H).bind fun e =>
 ad [.n, .f 1] Y fun c =>
 (ar c H).bind fun g =>
 (FF eS [Y, x2] H).bind fun b =>
 bX (ar a b.2) (ar a H) <|
 bX (ar c b.2) (ar c H) <|
 (FF ch [(vi 15), g, b.1] b.2).bind fun d =>
 bX (ar a d.2) (ar a H) <|
 (ai .other .add x2 (vw 1)).bind fun i =>
 (FF eO [e, Z, d.1, i] d.2).bind fun j =>
 some (Value.tuple #[], j.2)) = some r) : FF iY [Y, Z, x2] H = some r :=
 fo Tryz.func106 (by kernel_rfl) h
theorem vQ {r : Value × AH} (h : (
 ad [.n, .f 0] Y fun a =>
 (ar a H).bind fun c =>
 (FF ch [(vi 3), (vi 0), (vi 0)] H).bind fun b =>
 bX (ar a b.2) (ar a H) <|
 (FF iO [c, Z, b.1, (vw 4294967296)] b.2).bind fun d =>
 some (Value.tuple #[], d.2)) = some r) : FF jK [Y, Z] H = some r :=
 fo Tryz.func107 (by kernel_rfl) h
noncomputable def Et (p : List Nat) : Code := Code.sub (bK Tryz.f108) p
noncomputable def rN : KK := dK PP (Tryz.f108).results.toList
noncomputable def Vl : KK := CQ (Et [1]) rN bv rN
noncomputable def amU : OV := Vl (ls [Y, Z, u, u, x4] 100) H
noncomputable def Kk : KK := CQ (Et [1, 1]) rN bv rN
noncomputable def Vk : KK := dD UV Kk
noncomputable def qJ : OV := Kk (ls [u, u, u, u, x4] 100) H
noncomputable def Vm : KK := CQ (Et [1, 0, 1]) Vk bv rN
noncomputable def amV : OV := Vm (ls [Y, Z, u, u, x4, u, u, u, x8] 96) H
noncomputable def ap6 : KX := BX 0 Vk bv
theorem rO : ap UV rN := rf
theorem Zm : ap 40564819207303340847894502572012 Vl := rc rO aw rO
theorem zt : ap UV Kk := rc rO aw rO
theorem Zn : ap 40564819207303340847894502571756 Vm := rc (cd zt) aw rO
theorem Zo : ∀ i, ap UV (ap6 i) := rb (cd zt) aw
theorem kG : qJ x4 H =
 some ((vb false), H) :=
 (by kernel_rfl)
theorem ub : amV Y Z x4 x8 H =
 (ai .other .eql x8 (vi 15)).bind fun q =>
 av q
 (ld [.n, .f 0] Y H fun s =>
 ld [.n, .f 1] Y H fun t =>
 (FF eR [s, t] H).bind fun o =>
 st 1 [.n, .f 13] Y o.1 o.2 fun w =>
 st 1 [.n, .f 6] Y (vi 16) w fun d =>
 ld [.n, .f 13] Y d fun y =>
 (ai .other .rem y (vw 2)).bind fun z =>
 (ai .other .eql z (vw 1)).bind fun A =>
 av A
 (st 1 [.n, .f 6] Y (vi 7) d fun B =>
 qJ x4 B)
 (qJ x4 d))
 ((ai .other .eql x8 (vi 16)).bind fun C =>
 av C
 (st 1 [.n, .f 6] Y (vi 17) H fun D =>
 (FF eW [Y] D).bind fun e =>
 (ai .other .eql e.1 (vi 2)).bind fun E =>
 av E
 (st 1 [.n, .f 6] Y (vi 3) e.2 fun G =>
 qJ x4 G)
 (qJ x4 e.2))
 ((ai .other .eql x8 (vi 17)).bind fun I =>
 av I
 ((FF b7 [Y] H).bind fun c =>
 ad [.n, .f 1] Y fun g =>
 (ar g c.2).bind fun J =>
 bX (ar g H) (ar g c.2) <|
 (FF iX [c.1, J] c.2).bind fun p =>
 st 1 [.n, .f 12] Y p.1 p.2 fun K =>
 st 1 [.n, .f 16] Y Z K fun L =>
 st 1 [.n, .f 6] Y (vi 18) L fun i =>
 (FF b7 [Y] i).bind fun a =>
 ad [.n, .f 11] Y fun j =>
 (ar j a.2).bind fun M =>
 bX (ar j i) (ar j a.2) <|
 ad [.n, .f 12] Y fun k =>
 (ar k a.2).bind fun N =>
 bX (ar k i) (ar k a.2) <|
 (FF iW [a.1, M, N] a.2).bind fun l =>
 (ot .not l.1).bind fun O =>
 av O
 (st 1 [.n, .f 6] Y (vi 7) l.2 fun P =>
 qJ x4 P)
 (qJ x4 l.2))
 ((ai .other .eql x8 (vi 18)).bind fun Q =>
 av Q
 (ld [.n, .f 0] Y H fun R =>
 ld [.n, .f 1] Y H fun S =>
 (FF eR [R, S] H).bind fun b =>
 ad [.n, .f 13] Y fun m =>
 (ar m b.2).bind fun T =>
 bX (ar m H) (ar m b.2) <|
 (ai .other .eql b.1 T).bind fun U =>
 av U
 (ld [.n, .f 16] Y b.2 fun V =>
 (FF bJ [Y, V, (vi 9)] b.2).bind fun W =>
 some ((vb true), W.2))
 (st 1 [.n, .f 6] Y (vi 7) b.2 fun X =>
 qJ x4 X))
 (qJ x4 H)))) :=
 (bt rfl (Et [1, 0, 1, 4]) 0 Zo (by kernel_rfl))
theorem ua : amU Y Z x4 H =
 ld [.n, .f 6] Y H fun a =>
 amV Y Z x4 a H :=
 (pt rfl 0 zt (pt rfl 0 Zn (by kernel_rfl)))
noncomputable def rTf : OV := ba PP GG FF (Et []) (ls [Y, Z] 103) H rN bv rN
theorem MC {r : Value × AH} (h : (
 amU Y Z (vb false) H) = some r) : FF atL [Y, Z] H = some r :=
 fo (t := rTf Y Z H) Tryz.func108 (by kernel_rfl) (Eq.trans (pt rfl 0 Zm (by kernel_rfl)) h)
noncomputable def Eu (p : List Nat) : Code := Code.sub (bK Tryz.f109) p
noncomputable def rP : KK := dK PP (Tryz.f109).results.toList
noncomputable def Vo : KK := CQ (Eu [1, 1]) rP bv rP
noncomputable def amY : OV := Vo (ls [Y, Z, u, u, x4, x5] 113) H
noncomputable def Kl : KK := CQ (Eu [1, 1, 1]) rP bv rP
noncomputable def Vn : KK := dD UU Kl
noncomputable def s9 : OV := Kl (ls [u, u, u, u, x4] 114) H
noncomputable def Vp : KK := CQ (Eu [1, 1, 0, 1]) Vn bv rP
noncomputable def amZ : OV := Vp (ls [Y, Z, u, u, x4, x5, u, u, u, u, u, u, u, x13] 105) H
noncomputable def ap7 : KX := BX 0 Vn bv
theorem rR : ap UU rP := rf
theorem Zp : ap 664613997892457936451903530140172236 Vo := rc rR aw rR
theorem zu : ap UU Kl := rc rR aw rR
theorem Zq : ap 664613997892457936451903530140164044 Vp := rc (cd zu) aw rR
theorem Zr : ∀ i, ap UU (ap7 i) := rb (cd zu) aw
theorem mF : s9 x4 H =
 some ((vb false), H) :=
 (by kernel_rfl)
theorem mG : amZ Y Z x4 x5 x13 H =
 (ai .other .eql x13 (vi 20)).bind fun i =>
 av i
 (ld [.n, .f 6] x5 H fun j =>
 ld [.n, .f 1] Y H fun k =>
 (FF iV [j, k] H).bind fun l =>
 st 1 [.n, .f 6] Y (vi 7) l.2 fun m =>
 s9 x4 m)
 ((ai .other .eql x13 (vi 21)).bind fun o =>
 av o
 ((FF b7 [Y] H).bind fun a =>
 ad [.n, .f 1] Y fun b =>
 (ar b a.2).bind fun p =>
 bX (ar b H) (ar b a.2) <|
 (FF fR [Y] a.2).bind fun d =>
 bX (ar b d.2) (ar b a.2) <|
 (FF iY [a.1, p, d.1] d.2).bind fun q =>
 st 1 [.n, .f 6] Y (vi 22) q.2 fun s =>
 s9 x4 s)
 ((ai .other .eql x13 (vi 22)).bind fun t =>
 av t
 (ld [.n, .f 6] x5 H fun w =>
 ld [.n, .f 1] Y H fun y =>
 (FF lI [w, y, Z] H).bind fun g =>
 st 1 [.n, .f 15] Y g.1 g.2 fun z =>
 st 1 [.n, .f 6] Y (vi 23) z fun A =>
 s9 x4 A)
 ((ai .other .eql x13 (vi 23)).bind fun B =>
 av B
 (ld [.n, .f 6] x5 H fun C =>
 ld [.n, .f 1] Y H fun D =>
 ld [.n, .f 10] Y H fun E =>
 ld [.n, .f 15] Y H fun G =>
 (FF ky [C, D, E, G] H).bind fun I =>
 st 1 [.n, .f 6] Y (vi 24) I.2 fun J =>
 s9 x4 J)
 ((ai .other .eql x13 (vi 24)).bind fun K =>
 av K
 (st 1 [.n, .f 6] Y (vi 22) H fun c =>
 ld [.n, .f 6] x5 c fun L =>
 ld [.n, .f 1] Y c fun M =>
 ld [.n, .f 15] Y c fun N =>
 ld [.n, .f 10] Y c fun O =>
 (FF kz [L, M, Z, N, O] c).bind fun e =>
 av e.1
 (st 1 [.n, .f 6] Y (vi 25) e.2 fun P =>
 s9 x4 P)
 (s9 x4 e.2))
 ((ai .other .eql x13 (vi 25)).bind fun Q =>
 av Q
 (ld [.n, .f 6] x5 H fun R =>
 ld [.n, .f 1] Y H fun S =>
 (FF iV [R, S] H).bind fun T =>
 some ((vb true), T.2))
 (s9 x4 H)))))) :=
 (bt rfl (Eu [1, 1, 0, 1, 4]) 0 Zr (by kernel_rfl))
theorem mE : amY Y Z x4 x5 H =
 ld [.n, .f 6] Y H fun a =>
 amZ Y Z x4 x5 a H :=
 (pt rfl 0 zu (pt rfl 0 Zq (by kernel_rfl)))
noncomputable def rTw : OV := ba PP GG FF (Eu []) (ls [Y, Z] 117) H rP bv rP
theorem Aw {r : Value × AH} (h : (
 ld [.n, .f 0] Y H fun a =>
 amY Y Z (vb false) a H) = some r) : FF alN [Y, Z] H = some r :=
 fo (t := rTw Y Z H) Tryz.func109 (by kernel_rfl) (Eq.trans (pt rfl 1 Zp (by kernel_rfl)) h)
end
section
variable (x0 x1 x2 x3 x4 x5 x6 x7 x8 x9 x10 x14 x15 x17 x19 x30 : Value) (H : AH)
noncomputable def oF (p : List Nat) : Code := Code.sub (bK Tryz.f110) p
noncomputable def oG : KK := dK PP (Tryz.f110).results.toList
noncomputable def Vq : KK := CQ (oF [1, 1]) oG bv oG
noncomputable def lw : OV := Vq (ls [x0, x1, x2, u, u, u, x6, x7] 128) H
noncomputable def Km : KK := CQ (oF [1, 1, 1]) oG bv oG
noncomputable def wW : KK := dD Im Km
noncomputable def cF : OV := Km (ls [u, u, u, u, u, u, x6] 129) H
noncomputable def Vr : KK := CQ (oF [1, 1, 0, 1]) wW bv oG
noncomputable def gT : OV := Vr (ls [x0, x1, x2, u, u, u, x6, x7, u, u, u, u, u, u, u, u, u, u, u, x19] 116) H
noncomputable def Vu : KX := BX 0 wW bv
noncomputable def Kn : KX := nJ Im Vu
noncomputable def Vs : KK := CQ (oF [1, 1, 0, 1, 4, 1]) wW Kn oG
noncomputable def lx : OV := Vs (ls [x0, x1, x2, u, u, u, x6, x7, u, u, u, u, u, u, u, u, u, u, u, x19, u, u, u, u, u, u, u, u, u, u, x30] 105) H
noncomputable def Vt : KK := CQ (oF [1, 1, 0, 1, 4, 1, 2, 1]) wW Kn oG
noncomputable def ly : OV := Vt (ls [x0, x1, u, u, u, u, x6, u, x8, x9] 126) H
noncomputable def ap8 : KX := BX 1 wW Kn
theorem mN : ap Im oG := rf
theorem Zs : ap 87112285931760246646623899502532662132536 Vq := rc mN aw mN
theorem mq : ap Im Km := rc mN aw mN
theorem Zt : ap 87112285931760246646623899502532661608248 Vr := rc (cd mq) aw mN
theorem tH : ∀ i, ap Im (Vu i) := rb (cd mq) aw
theorem Zu : ap 87112285931760246646623899502531587866424 Vs := rc (cd mq) (cx tH) mN
theorem Zv : ap 87112285931760246646623899502532662131900 Vt := rc (cd mq) (cx tH) mN
theorem Zw : ∀ i, ap Im (ap8 i) := rb (cd mq) (cx tH)
theorem cz : cF x6 H =
 some ((vb false), H) :=
 (by kernel_rfl)
theorem pP : ly x0 x1 x6 x8 x9 H =
 av x8
 ((FF bJ [x0, x1, (vi 6)] H).bind fun a =>
 st 1 [.n, .f 6] x0 (vi 6) a.2 fun b =>
 cF x6 b)
 ((gV x9 true x0).bind fun c =>
 f0 x9 true  [.n, .f 8] c H fun d =>
 (gB x9 true (ai .other .lss d (vi 0))).bind fun e =>
 (aL x9 e (vb false)).bind fun g =>
 av g
 ((FF bJ [x0, x1, (vi 7)] H).bind fun i =>
 st 1 [.n, .f 6] x0 (vi 6) i.2 fun j =>
 cF x6 j)
 (av x9
 (st 1 [.n, .f 6] x0 (vi 4) H fun k =>
 cF x6 k)
 (cF x6 H))) :=
 (bt rfl (oF [1, 1, 0, 1, 4, 1, 2, 1, 4]) 1 Zw (by kernel_rfl))
theorem dH : lx x0 x1 x2 x6 x7 x19 x30 H =
 av x30
 ((FF Gc [x0] H).bind fun b =>
 (ag b.1 0).bind fun d =>
 (ag b.1 1).bind fun e =>
 ly x0 x1 x6 d e b.2)
 ((ai .other .eql x19 (vi 4)).bind fun g =>
 av g
 (ld [.n, .f 0, .f 4] x7 H fun i =>
 ld [.n, .f 2, .f 2] x0 H fun j =>
 (FF kP [i, j] H).bind fun a =>
 (ag a.1 0).bind fun k =>
 (ag a.1 1).bind fun K =>
 ld [.n, .f 1] x0 a.2 fun l =>
 ld [.n, .f 2, .f 1] x0 a.2 fun m =>
 ld [.n, .f 2, .f 3] x0 a.2 fun o =>
 hJ [(0, 1), (1, 1), (2, 1)] [(vi 0), (vi 0), (vw 0)] [(0, m), (1, o), (2, k)] fun p =>
 (FF ic [x7, l, p] a.2).bind fun c =>
 st 1 [.n, .f 10] x0 c.1 c.2 fun q =>
 st 1 [.n, .f 6] x0 (vi 5) q fun s =>
 cF x6 s)
 ((ai .other .eql x19 (vi 5)).bind fun t =>
 av t
 (ld [.n, .f 7] x7 H fun w =>
 ld [.n, .f 1] x0 H fun y =>
 ld [.n, .f 8] x0 H fun z =>
 ld [.n, .f 2, .f 1] x0 H fun A =>
 ld [.n, .f 10] x0 H fun B =>
 (FF iZ [w, y, x2, z, A, B] H).bind fun C =>
 (FF bJ [x0, x1, (vi 0)] C.2).bind fun D =>
 st 1 [.n, .f 6] x0 (vi 6) D.2 fun E =>
 cF x6 E)
 (ld [.n, .f 7] x7 H fun G =>
 ld [.n, .f 1] x0 H fun I =>
 (FF ej [G, I, x2] H).bind fun J =>
 some ((vb true), J.2)))) :=
 (ct rfl (oF [1, 1, 0, 1, 4, 1, 2]) (oF [1, 1, 0, 1, 4, 1, 3]) (.tmp 30) (pt rfl 0 Zv (by kernel_rfl)) (by kernel_rfl))
theorem dG : gT x0 x1 x2 x6 x7 x19 H =
 (ai .other .eql x19 (vi 3)).bind fun a =>
 lx x0 x1 x2 x6 x7 x19 a H :=
 (bt rfl (oF [1, 1, 0, 1, 4]) 0 tH (pt rfl 0 Zu (by kernel_rfl)))
theorem pO : lw x0 x1 x2 x6 x7 H =
 ld [.n, .f 6] x0 H fun a =>
 gT x0 x1 x2 x6 x7 a H :=
 (pt rfl 0 mq (pt rfl 0 Zt (by kernel_rfl)))
noncomputable def yG : OV := ba PP GG FF (oF []) (ls [x0, x1, x2] 133) H oG bv oG
theorem s7 {r : Value × AH} (h : (
 ld [.n, .f 0] x0 H fun a =>
 lw x0 x1 x2 (vb false) a H) = some r) : FF lT [x0, x1, x2] H = some r :=
 fo (t := yG x0 x1 x2 H) Tryz.func110 (by kernel_rfl) (Eq.trans (pt rfl 1 Zs (by kernel_rfl)) h)
noncomputable def Ew (p : List Nat) : Code := Code.sub (bK Tryz.f111) p
noncomputable def rS : KK := dK PP (Tryz.f111).results.toList
noncomputable def Vw : KK := CQ (Ew [1, 1]) rS bv rS
noncomputable def pQ : OV := Vw (ls [x0, x1, x2, u, u, u, x6, x7] 153) H
noncomputable def Ko : KK := CQ (Ew [1, 1, 1]) rS bv rS
noncomputable def Vv : KK := dD UR Ko
noncomputable def bB : OV := Ko (ls [u, u, u, u, u, u, x6] 154) H
noncomputable def Vx : KK := CQ (Ew [1, 1, 0, 1]) Vv bv rS
noncomputable def kF : OV := Vx (ls [x0, x1, x2, u, u, u, x6, x7, u, u, u, u, u, u, u, u, u, x17] 143) H
noncomputable def ap9 : KX := BX 0 Vv bv
theorem rV : ap UR rS := rf
theorem Zx : ap 2923003274661805836407369665432566039311865085752 Vw := rc rV aw rV
theorem zv : ap UR Ko := rc rV aw rV
theorem Zy : ap 2923003274661805836407369665432566039311864954680 Vx := rc (cd zv) aw rV
theorem Zz : ∀ i, ap UR (ap9 i) := rb (cd zv) aw
theorem bp : bB x6 H =
 some ((vb false), H) :=
 (by kernel_rfl)
theorem cy : kF x0 x1 x2 x6 x7 x17 H =
 (ai .other .eql x17 (vi 3)).bind fun q =>
 av q
 ((FF Gc [x0] H).bind fun c =>
 (ag c.1 0).bind fun s =>
 (ag c.1 1).bind fun t =>
 av s
 (st 1 [.n, .f 6] x0 (vi 4) c.2 fun w =>
 bB x6 w)
 (av t
 ((FF bJ [x0, x1, (vi 5)] c.2).bind fun y =>
 st 1 [.n, .f 6] x0 (vi 10) y.2 fun z =>
 bB x6 z)
 (bB x6 c.2)))
 ((ai .other .eql x17 (vi 4)).bind fun A =>
 av A
 (st 1 [.n, .f 6] x0 (vi 5) H fun B =>
 (FF eW [x0] B).bind fun d =>
 (ai .other .eql d.1 (vi 0)).bind fun C =>
 av C
 (st 1 [.n, .f 6] x0 (vi 8) d.2 fun D =>
 bB x6 D)
 (bB x6 d.2))
 ((ai .other .eql x17 (vi 5)).bind fun E =>
 av E
 (ld [.n, .f 1] x0 H fun G =>
 (FF eR [x7, G] H).bind fun p =>
 st 1 [.n, .f 13] x0 p.1 p.2 fun I =>
 st 1 [.n, .f 6] x0 (vi 6) I fun e =>
 ld [.n, .f 13] x0 e fun J =>
 (ai .other .rem J (vw 2)).bind fun K =>
 (ai .other .eql K (vw 1)).bind fun L =>
 av L
 (st 1 [.n, .f 6] x0 (vi 4) e fun M =>
 bB x6 M)
 (bB x6 e))
 ((ai .other .eql x17 (vi 6)).bind fun N =>
 av N
 (st 1 [.n, .f 6] x0 (vi 7) H fun O =>
 st 1 [.n, .f 16] x0 x1 O fun P =>
 (FF eW [x0] P).bind fun g =>
 (ai .other .eql g.1 (vi 0)).bind fun Q =>
 av Q
 (st 1 [.n, .f 6] x0 (vi 8) g.2 fun R =>
 bB x6 R)
 (bB x6 g.2))
 ((ai .other .eql x17 (vi 7)).bind fun S =>
 av S
 (st 1 [.n, .f 6] x0 (vi 4) H fun i =>
 ld [.n, .f 1] x0 i fun T =>
 (FF eR [x7, T] i).bind fun a =>
 ad [.n, .f 13] x0 fun j =>
 (ar j a.2).bind fun U =>
 bX (ar j i) (ar j a.2) <|
 (ai .other .eql a.1 U).bind fun V =>
 av V
 (ld [.n, .f 16] x0 a.2 fun W =>
 (FF bJ [x0, W, (vi 8)] a.2).bind fun X =>
 st 1 [.n, .f 6] x0 (vi 10) X.2 fun Y =>
 bB x6 Y)
 (bB x6 a.2))
 ((ai .other .eql x17 (vi 8)).bind fun Z =>
 av Z
 (st 1 [.n, .f 6] x0 (vi 4) H fun k =>
 (FF b7 [x0] k).bind fun b =>
 ad [.n, .f 1] x0 fun l =>
 (ar l b.2).bind fun a0 =>
 bX (ar l k) (ar l b.2) <|
 ad [.n, .f 11] x0 fun m =>
 (ar m b.2).bind fun a1 =>
 bX (ar m k) (ar m b.2) <|
 (FF gn [b.1, a0, a1, (vi 2)] b.2).bind fun o =>
 av o.1
 ((FF bJ [x0, x1, (vi 0)] o.2).bind fun a2 =>
 st 1 [.n, .f 6] x0 (vi 9) a2.2 fun a3 =>
 bB x6 a3)
 (bB x6 o.2))
 ((ai .other .eql x17 (vi 9)).bind fun a4 =>
 av a4
 (ld [.n, .f 7] x7 H fun a5 =>
 ld [.n, .f 1] x0 H fun a6 =>
 ld [.n, .f 7] x0 H fun a7 =>
 (FF jM [a5, a6, x2, a7] H).bind fun a8 =>
 st 1 [.n, .f 6] x0 (vi 10) a8.2 fun a9 =>
 bB x6 a9)
 (ld [.n, .f 7] x7 H fun b0 =>
 ld [.n, .f 1] x0 H fun b1 =>
 (FF ej [b0, b1, x2] H).bind fun b2 =>
 some ((vb true), b2.2)))))))) :=
 (bt rfl (Ew [1, 1, 0, 1, 4]) 0 Zz (by kernel_rfl))
theorem uu : pQ x0 x1 x2 x6 x7 H =
 ld [.n, .f 6] x0 H fun a =>
 kF x0 x1 x2 x6 x7 a H :=
 (pt rfl 0 zv (pt rfl 0 Zy (by kernel_rfl)))
noncomputable def HU : OV := ba PP GG FF (Ew []) (ls [x0, x1, x2] 158) H rS bv rS
theorem Au {r : Value × AH} (h : (
 ld [.n, .f 0] x0 H fun a =>
 pQ x0 x1 x2 (vb false) a H) = some r) : FF qZ [x0, x1, x2] H = some r :=
 fo (t := HU x0 x1 x2 H) Tryz.func111 (by kernel_rfl) (Eq.trans (pt rfl 1 Zx (by kernel_rfl)) h)
theorem px {r : Value × AH} (h : (
 (FF sG [x0, x1, (.func (.func oO) #[] #[])] H).bind fun a =>
 some (a.1, a.2)) = some r) : FF gb [x0, x1] H = some r :=
 fo Tryz.func112 (by kernel_rfl) h
theorem Cg {r : Value × AH} (h : (
 aQ (Value.cells x3).toList H fun c a =>
 ld [.n, .f 1] x0 a fun d =>
 (ax 3 c a).bind fun e =>
 hJ [(0, 1), (1, 1), (2, 3)] [(vi 0), (vi 0), (vi 0), (vi 0), (vi 0)] [(0, x1), (1, x2), (2, e)] fun g =>
 z5 1 5 [(vi 0), (vi 0), (vi 0), (vi 0), (vi 0)] [(0, g)] a fun i j =>
 (eJ 5 40 d i j).bind fun b =>
 st 1 [.n, .f 1] x0 b.1 b.2 fun k =>
 some (Value.tuple #[], k)) = some r) : FF dx [x0, x1, x2, x3] H = some r :=
 fo Tryz.func113 (by kernel_rfl) h
theorem Cd {r : Value × AH} (h : (
 aQ (Value.cells x1).toList H fun b a =>
 ld [.n, .f 0] x0 a fun c =>
 (ax 3 b a).bind fun d =>
 (cY (.flat 3) (.agg #[(vw 0)]) c d false a).bind fun e =>
 (lU none 0 e).bind fun g =>
 some (g, a)) = some r) : FF fN [x0, x1] H = some r :=
 fo Tryz.func114 (by kernel_rfl) h
noncomputable def eG (p : List Nat) : Code := Code.sub (bK Tryz.f115) p
noncomputable def ga : KK := dK PP (Tryz.f115).results.toList
noncomputable def Vy : KK := CQ (eG [1, 1]) ga bv ga
noncomputable def anP : OV := Vy (ls [x0, x1, x2, u, u, u, x6, x7, x8] 54) H
noncomputable def Kp : KK := CQ (eG [1, 1, 1]) ga bv ga
noncomputable def aqA : KK := dD AS Kp
noncomputable def anQ : OV := Kp (ls [x0, x1, x2, u, u, u, x6, x7] 55) H
noncomputable def Vz : KK := CQ (eG [1, 1, 1, 1]) ga bv ga
noncomputable def Uc : OV := Vz (ls [x0, x1, x2, u, u, u, x6] 56) H
noncomputable def Ks : KX := BX 2 ga bv
noncomputable def Kt : KX := nJ afS Ks
noncomputable def Kq : KK := uz (eG [1, 1, 1, 1, 4, 5]) Kt ga
noncomputable def wX : KK := dD DZ Kq
noncomputable def MW : OV := Kq (ls [x0, x1, x2, u, u, u, x6] 56) H
noncomputable def VA : KK := CQ (eG [1, 1, 1, 1, 4, 5, 1]) wX Kt ga
noncomputable def anR : OV := VA (ls [x0, x1, x2, u, u, u, x6] 56) H
noncomputable def VD : KX := BX 3 wX Kt
noncomputable def CY : KX := nJ DZ VD
noncomputable def VB : KK := CQ (eG [1, 1, 1, 1, 4, 5, 1, 4, 1]) wX CY ga
noncomputable def anS : OV := VB (ls [x0, x1, x2, u, u, u, x6, x7, x8] 54) H
noncomputable def Kr : KK := CQ (eG [1, 1, 1, 1, 4, 5, 1, 4, 1, 1]) wX CY ga
noncomputable def aqB : KK := dD AS Kr
noncomputable def anT : OV := Kr (ls [x0, x1, x2, u, u, u, x6, x7] 55) H
noncomputable def VC : KK := CQ (eG [1, 1, 1, 1, 4, 5, 1, 4, 1, 1, 1]) wX CY ga
noncomputable def MX : OV := VC (ls [x0, x1, x2, u, u, u, x6] 56) H
noncomputable def Ez : KX := BX 4 aqB CY
noncomputable def EB : KX := nJ AS Ez
noncomputable def Ex : KK := uz (eG [1, 1, 1, 1, 4, 5, 1, 4, 1, 0, 4, 5]) EB ga
noncomputable def NW : KK := dD uF Ex
noncomputable def DB : OV := Ex (ls [x0, x1, x2, u, u, u, x6, x7, x8] 54) H
noncomputable def NY : KK := CQ (eG [1, 1, 1, 1, 4, 5, 1, 4, 1, 0, 4, 5, 1]) NW EB ga
noncomputable def Yj : OV := NY (ls [x0, x1, x2, u, u, u, x6, x7, x8] 54) H
noncomputable def agL : KX := BX 5 NW EB
noncomputable def JB : OV := Ez 4 (ls [x0, x1, x2, u, u, u, x6, x7] 55) H
noncomputable def PS (H : AH) : OV := Ks 2 (ls [] 63) H
noncomputable def EA : KX := BX 0 aqA bv
noncomputable def EC : KX := nJ AS EA
noncomputable def Ey : KK := uz (eG [1, 1, 0, 4, 5]) EC ga
noncomputable def NX : KK := dD uF Ey
noncomputable def DC : OV := Ey (ls [x0, x1, x2, u, u, u, x6, x7, x8] 54) H
noncomputable def NZ : KK := CQ (eG [1, 1, 0, 4, 5, 1]) NX EC ga
noncomputable def Yk : OV := NZ (ls [x0, x1, x2, u, u, u, x6, x7, x8] 54) H
noncomputable def agM : KX := BX 1 NX EC
noncomputable def JC : OV := EA 0 (ls [x0, x1, x2, u, u, u, x6, x7] 55) H
theorem dO : ap afS ga := rf
theorem ZA : ap uF Vy := rc dO aw dO
theorem Iv : ap AS Kp := rc dO aw dO
theorem ZB : ap DZ Vz := rc dO aw dO
theorem tI : ∀ i, ap afS (Ks i) := rb dO aw
theorem kf : ap DZ Kq := rl (cx tI) dO
theorem ZC : ap DZ VA := rc (cd kf) (cx tI) dO
theorem o3 : ∀ i, ap DZ (VD i) := rb (cd kf) (cx tI)
theorem ZD : ap uF VB := rc (cd kf) (cx o3) dO
theorem Iw : ap AS Kr := rc (cd kf) (cx o3) dO
theorem ZE : ap DZ VC := rc (cd kf) (cx o3) dO
theorem p6 : ∀ i, ap AS (Ez i) := rb (cd Iw) (cx o3)
theorem pY : ap uF Ex := rl (cx p6) dO
theorem Rl : ap uF NY := rc (cd pY) (cx p6) dO
theorem Rn : ∀ i, ap uF (agL i) := rb (cd pY) (cx p6)
theorem p7 : ∀ i, ap AS (EA i) := rb (cd Iv) aw
theorem pZ : ap uF Ey := rl (cx p7) dO
theorem Rm : ap uF NZ := rc (cd pZ) (cx p7) dO
theorem Ro : ∀ i, ap uF (agM i) := rb (cd pZ) (cx p7)
theorem adZ : MX x0 x1 x2 x6 H =
 (ai .other .mul x6 (vi 2)).bind fun a =>
 MW x0 x1 x2 a H :=
 (by kernel_rfl)
theorem adY : anT x0 x1 x2 x6 x7 H =
 (ai .other .add x7 x6).bind fun a =>
 (ai .other .lss a x1).bind fun b =>
 av b
 ((FF I3 [x0, x7, a, x1, x2] H).bind fun c =>
 MX x0 x1 x2 x6 c.2)
 (MX x0 x1 x2 x6 H) :=
 (pt rfl 0 ZE (by kernel_rfl))
theorem Ub : Yj x0 x1 x2 x6 x7 x8 H =
 (ai .other .add x7 x6).bind fun a =>
 (FF I3 [x0, x7, a, x8, x2] H).bind fun b =>
 (ai .other .mul (vi 2) x6).bind fun c =>
 (ai .other .add x8 c).bind fun d =>
 DB x0 x1 x2 x6 x8 d b.2 :=
 (bt rfl (eG [1, 1, 1, 1, 4, 5, 1, 4, 1, 0, 4, 5, 1, 4]) 5 Rn (by kernel_rfl))
theorem MU : JB x0 x1 x2 x6 x7 H = anT x0 x1 x2 x6 x7 H :=
 (by kernel_rfl)
theorem Ua : DB x0 x1 x2 x6 x7 x8 H =
 (ai .other .leq x8 x1).bind fun a =>
 av a
 (Yj x0 x1 x2 x6 x7 x8 H)
 (JB x0 x1 x2 x6 x7 H) :=
 uW rfl pY (pt rfl 0 Rl (by kernel_rfl))
theorem adX : anS x0 x1 x2 x6 x7 x8 H =
 DB x0 x1 x2 x6 x7 x8 H :=
 (pt rfl 0 Iw (bt rfl (eG [1, 1, 1, 1, 4, 5, 1, 4, 1, 0, 4]) 4 p6 (li rfl (eG [1, 1, 1, 1, 4, 5, 1, 4, 1, 0, 4, 5]) pY (by kernel_rfl))))
theorem adW : anR x0 x1 x2 x6 H =
 (ai .other .mul (vi 2) x6).bind fun a =>
 anS x0 x1 x2 x6 (vi 0) a H :=
 (bt rfl (eG [1, 1, 1, 1, 4, 5, 1, 4]) 3 o3 (pt rfl 0 ZD (by kernel_rfl)))
theorem PT (H : AH) : PS H = some (Value.tuple #[], H) :=
 (by kernel_rfl)
theorem adV : MW x0 x1 x2 x6 H =
 (ai .other .lss x6 x1).bind fun a =>
 av a
 (anR x0 x1 x2 x6 H)
 (PS H) :=
 uW rfl kf (pt rfl 0 ZC (by kernel_rfl))
theorem adU : Uc x0 x1 x2 x6 H =
 MW x0 x1 x2 x6 H :=
 (bt rfl (eG [1, 1, 1, 1, 4]) 2 tI (li rfl (eG [1, 1, 1, 1, 4, 5]) kf (by kernel_rfl)))
theorem adT : anQ x0 x1 x2 x6 x7 H =
 (FF Xt [x0, x7, x1, x2] H).bind fun a =>
 Uc x0 x1 x2 x6 a.2 :=
 (pt rfl 0 ZB (by kernel_rfl))
theorem Ue : Yk x0 x1 x2 x6 x7 x8 H =
 (FF Xt [x0, x7, x8, x2] H).bind fun a =>
 (ai .other .add x8 x6).bind fun b =>
 DC x0 x1 x2 x6 x8 b a.2 :=
 (bt rfl (eG [1, 1, 0, 4, 5, 1, 4]) 1 Ro (by kernel_rfl))
theorem MV : JC x0 x1 x2 x6 x7 H = anQ x0 x1 x2 x6 x7 H :=
 (by kernel_rfl)
theorem Ud : DC x0 x1 x2 x6 x7 x8 H =
 (ai .other .leq x8 x1).bind fun a =>
 av a
 (Yk x0 x1 x2 x6 x7 x8 H)
 (JC x0 x1 x2 x6 x7 H) :=
 uW rfl pZ (pt rfl 0 Rm (by kernel_rfl))
theorem adS : anP x0 x1 x2 x6 x7 x8 H =
 DC x0 x1 x2 x6 x7 x8 H :=
 (pt rfl 0 Iv (bt rfl (eG [1, 1, 0, 4]) 0 p7 (li rfl (eG [1, 1, 0, 4, 5]) pZ (by kernel_rfl))))
noncomputable def sSt : OV := ba PP GG FF (eG []) (ls [x0, x1, x2] 60) H ga bv ga
theorem avT {r : Value × AH} (h : (
 anP x0 x1 x2 (vi 20) (vi 0) (vi 20) H) = some r) : FF alT [x0, x1, x2] H = some r :=
 fo (t := sSt x0 x1 x2 H) Tryz.func115 (by kernel_rfl) (Eq.trans (pt rfl 1 ZA (by kernel_rfl)) h)
theorem wP {r : Value × AH} (h : (
 (FF jE [x0] H).bind fun b =>
 (FF jE [x1] b.2).bind fun a =>
 av b.1
 (av a.1
 (some ((vi 0), a.2))
 (some ((vi (-1)), a.2)))
 (av a.1
 (some ((vi 1), a.2))
 ((ai .other .lss x0 x1).bind fun c =>
 av c
 (some ((vi (-1)), a.2))
 ((ai .other .gtr x0 x1).bind fun d =>
 av d
 (some ((vi 1), a.2))
 (some ((vi 0), a.2)))))) = some r) : FF ko [x0, x1] H = some r :=
 fo Tryz.func116 (by kernel_rfl) h
theorem avM {r : Value × AH} (h : (
 (ai .slice .eql x0 (.slice none 0 0)).bind fun b =>
 av b
 (some ((.slice none 0 0), H))
 (z5 0 3 [(vi 0), (vi 0), (vi 0)] [] H fun c d =>
 (eJ 3 24 c x0 d).bind fun a =>
 some (a.1, a.2))) = some r) : FF alO [x0] H = some r :=
 fo Tryz.func117 (by kernel_rfl) h
theorem Ch {r : Value × AH} (h : (
 aQ (Value.cells x2).toList H fun a d =>
 (ax 3 a d).bind fun e =>
 (FF fN [x0, e] d).bind fun b =>
 (ax 3 a b.2).bind fun g =>
 (FF dx [x0, x1, (vi 3), g] b.2).bind fun c =>
 ld [.n, .f 0] x0 c.2 fun i =>
 (ax 3 a c.2).bind fun j =>
 hJ [(0, 1)] [(vw 0)] [(0, x3)] fun k =>
 (fj (.flat 3) i j k c.2).bind fun l =>
 some (b.1, l)) = some r) : FF jI [x0, x1, x2, x3] H = some r :=
 fo Tryz.func118 (by kernel_rfl) h
theorem Ci {r : Value × AH} (h : (
 (ai .other .geq x0 x1).bind fun a =>
 (gV a true x0).bind fun b =>
 (gV a true x2).bind fun c =>
 (gB a true (ai .other .leq b c)).bind fun d =>
 (aL a d (vb false)).bind fun e =>
 some (e, H)) = some r) : FF fP [x0, x1, x2] H = some r :=
 fo Tryz.func119 (by kernel_rfl) h
theorem zM {r : Value × AH} (h : (
 aQ [(vi 0), (vi 0), (vi 0)] H fun a c =>
 hJ [(0, 1), (1, 1), (2, 1)] [(vi 0), (vi 0), (vi 0)] [(0, x0), (1, x1)] fun d =>
 (cJ 3 a d c).bind fun b =>
 (ax 3 a b).bind fun e => some (e, b)) = some r) : FF bI [x0, x1] H = some r :=
 fo Tryz.func120 (by kernel_rfl) h
noncomputable def oH (p : List Nat) : Code := Code.sub (bK Tryz.f121) p
noncomputable def mO : KK := dK PP (Tryz.f121).results.toList
noncomputable def VG : KK := CQ (oH [1, 1, 1]) mO bv mO
noncomputable def yq : OV := VG (ls [u, x1, u, u, x4, x5, x6] 23) H
noncomputable def Ku : KK := CQ (oH [1, 1, 1, 1]) mO bv mO
noncomputable def VE : KK := dD 1073741743 Ku
noncomputable def yr : OV := Ku (ls [u, u, u, u, x4, u, x6] 23) H
noncomputable def VH : KK := CQ (oH [1, 1, 1, 0, 1]) VE bv mO
noncomputable def yu : OV := VH (ls [u, x1, u, u, x4, u, x6, u, u, u, u, u, u, u, x14, x15] 14) H
noncomputable def Kx : KX := BX 0 VE bv
noncomputable def CZ : KX := nJ 1073741743 Kx
noncomputable def Kv : KK := uz (oH [1, 1, 1, 0, 1, 4, 5]) CZ mO
noncomputable def VF : KK := dD D7 Kv
noncomputable def ml : OV := Kv (ls [u, x1, u, u, x4, u, x6, u, u, u, u, u, u, u, x14, x15] 14) H
noncomputable def VI : KK := CQ (oH [1, 1, 1, 0, 1, 4, 5, 1, 1]) VF CZ mO
noncomputable def yw : OV := VI (ls [u, x1, u, u, x4, u, x6, u, u, u, u, u, u, u, x14, x15] 14) H
noncomputable def Kw : KK := CQ (oH [1, 1, 1, 0, 1, 4, 5, 1, 1, 1]) VF CZ mO
noncomputable def aqC : KK := dD D7 Kw
noncomputable def yx : OV := Kw (ls [u, x1, u, u, x4, u, x6, u, u, u, u, u, u, u, x14, x15] 14) H
noncomputable def aqD : KX := BX 1 aqC CZ
noncomputable def sW : OV := Kx 0 (ls [u, u, u, u, x4, u, x6] 23) H
theorem lc : ap 1073741807 mO := rf
theorem ZF : ap 1073741709 VG := rc lc aw lc
theorem zw : ap 1073741743 Ku := rc lc aw lc
theorem ZG : ap D7 VH := rc (cd zw) aw lc
theorem o5 : ∀ i, ap 1073741743 (Kx i) := rb (cd zw) aw
theorem tJ : ap D7 Kv := rl (cx o5) lc
theorem ZH : ap D7 VI := rc (cd tJ) (cx o5) lc
theorem Ix : ap D7 Kw := rc (cd tJ) (cx o5) lc
theorem ZI : ∀ i, ap D7 (aqD i) := rb (cd Ix) (cx o5)
theorem Cq : yr x4 x6 H =
 some (x6, H) :=
 (by kernel_rfl)
theorem Ct : yx x1 x4 x6 x14 x15 H =
 (ai .other .add x15 (vi 1)).bind fun a =>
 ml x1 x4 x6 x14 a H :=
 (by kernel_rfl)
theorem Cs : yw x1 x4 x6 x14 x15 H =
 ad [.n, .f 0] x6 fun a =>
 (ar a H).bind fun d =>
 (FF sN [x1] H).bind fun b =>
 bX (ar a b.2) (ar a H) <|
 z5 1 1 [(.pointer none)] [(0, b.1)] b.2 fun e g =>
 (eJ 1 8 d e g).bind fun c =>
 st 1 [.n, .f 0] x6 c.1 c.2 fun i =>
 yx x1 x4 x6 x14 x15 i :=
 (pt rfl 0 Ix (bt rfl (oH [1, 1, 1, 0, 1, 4, 5, 1, 1, 0, 4]) 1 ZI (by kernel_rfl)))
theorem yp : sW x4 x6 H = yr x4 x6 H :=
 (by kernel_rfl)
theorem q7 : ml x1 x4 x6 x14 x15 H =
 (ai .other .lss x15 x14).bind fun a =>
 av a
 (yw x1 x4 x6 x14 x15 H)
 (sW x4 x6 H) :=
 uW rfl tJ (pt rfl 1 ZH (by kernel_rfl))
theorem Cr : yu x1 x4 x6 x14 x15 H =
 ml x1 x4 x6 x14 x15 H :=
 (bt rfl (oH [1, 1, 1, 0, 1, 4]) 0 o5 (li rfl (oH [1, 1, 1, 0, 1, 4, 5]) tJ (by kernel_rfl)))
theorem Cp : yq x1 x4 x5 x6 H =
 yu x1 x4 x6 x5 (vi 0) H :=
 (pt rfl 0 zw (pt rfl 0 ZG (by kernel_rfl)))
noncomputable def acO : OV := ba PP GG FF (oH []) (ls [x0, x1] 28) H mO bv mO
theorem Mi {r : Value × AH} (h : (
 (iQ [x0, (vi 1)]).bind fun c =>
 (j3 [c, (vi 16)]).bind fun a =>
 (FF vK [a] H).bind fun b =>
 hJ [(0, 1), (1, 1)] [(.slice none 0 0), (.pointer none)] [(1, b.1)] fun d =>
 aQ (Value.cells d).toList b.2 fun e f =>
 yq x1 (.pointer none) a e f) = some r) : FF sL [x0, x1] H = some r :=
 fo (t := acO x0 x1 H) Tryz.func121 (by kernel_rfl) (Eq.trans (pt rfl 2 ZF (by kernel_rfl)) h)
noncomputable def oI (p : List Nat) : Code := Code.sub (bK Tryz.f125) p
noncomputable def mP : KK := dK PP (Tryz.f125).results.toList
noncomputable def VL : KK := CQ (oI [1, 1]) mP bv mP
noncomputable def amM : OV := VL (ls [x0, x1, u, u, x4, x5] 24) H
noncomputable def Ky : KK := CQ (oI [1, 1, 1]) mP bv mP
noncomputable def VJ : KK := dD 1073741775 Ky
noncomputable def amN : OV := Ky (ls [u, u, u, u, x4, x5] 24) H
noncomputable def VM : KK := CQ (oI [1, 1, 0, 1]) VJ bv mP
noncomputable def amO : OV := VM (ls [x0, x1, u, u, x4, x5, x6] 23) H
noncomputable def KB : KX := BX 0 VJ bv
noncomputable def C0 : KX := nJ 1073741775 KB
noncomputable def Kz : KK := uz (oI [1, 1, 0, 1, 4, 5]) C0 mP
noncomputable def VK : KK := dD D8 Kz
noncomputable def Mw : OV := Kz (ls [x0, x1, u, u, x4, x5, x6] 23) H
noncomputable def VN : KK := CQ (oI [1, 1, 0, 1, 4, 5, 1]) VK C0 mP
noncomputable def amP : OV := VN (ls [x0, x1, u, u, x4, x5, x6] 23) H
noncomputable def KA : KK := CQ (oI [1, 1, 0, 1, 4, 5, 1, 1]) VK C0 mP
noncomputable def aqE : KK := dD D8 KA
noncomputable def amQ : OV := KA (ls [x0, x1, u, u, x4, x5, x6] 23) H
noncomputable def aqF : KX := BX 1 aqE C0
noncomputable def PB : OV := KB 0 (ls [u, u, u, u, x4, x5] 24) H
theorem lg : ap 1073741807 mP := rf
theorem ZJ : ap 1073741772 VL := rc lg aw lg
theorem zx : ap 1073741775 Ky := rc lg aw lg
theorem ZK : ap D8 VM := rc (cd zx) aw lg
theorem o6 : ∀ i, ap 1073741775 (KB i) := rb (cd zx) aw
theorem tK : ap D8 Kz := rl (cx o6) lg
theorem ZL : ap D8 VN := rc (cd tK) (cx o6) lg
theorem Iy : ap D8 KA := rc (cd tK) (cx o6) lg
theorem ZM : ∀ i, ap D8 (aqF i) := rb (cd Iy) (cx o6)
theorem acW : amN x4 x5 H =
 some (x5, H) :=
 (by kernel_rfl)
theorem acZ : amQ x0 x1 x4 x5 x6 H =
 (ai .other .add x6 (vi 1)).bind fun a =>
 Mw x0 x1 x4 x5 a H :=
 (by kernel_rfl)
theorem acY : amP x0 x1 x4 x5 x6 H =
 ad [.n, .f 0] x5 fun a =>
 (ar a H).bind fun d =>
 (FF sM [x1] H).bind fun b =>
 bX (ar a b.2) (ar a H) <|
 hJ [(0, 1), (1, 1), (2, 1), (3, 1)] [(.slice none 0 0), (vw 0), (vi 0), (vb false)] [(2, b.1), (3, (vb true))] fun e =>
 aQ (Value.cells e).toList b.2 fun g i =>
 z5 1 1 [(.pointer none)] [(0, g)] i fun j k =>
 (eJ 1 8 d j k).bind fun c =>
 st 1 [.n, .f 0] x5 c.1 c.2 fun l =>
 amQ x0 x1 x4 x5 x6 l :=
 (pt rfl 0 Iy (bt rfl (oI [1, 1, 0, 1, 4, 5, 1, 0, 4]) 1 ZM (by kernel_rfl)))
theorem PC : PB x4 x5 H = amN x4 x5 H :=
 (by kernel_rfl)
theorem Jg : Mw x0 x1 x4 x5 x6 H =
 (iQ [x0, (vi 1)]).bind fun a =>
 (j3 [a, (vi 16)]).bind fun b =>
 (ai .other .lss x6 b).bind fun c =>
 av c
 (amP x0 x1 x4 x5 x6 H)
 (PB x4 x5 H) :=
 uW rfl tK (pt rfl 0 ZL (by kernel_rfl))
theorem acX : amO x0 x1 x4 x5 x6 H =
 Mw x0 x1 x4 x5 x6 H :=
 (bt rfl (oI [1, 1, 0, 1, 4]) 0 o6 (li rfl (oI [1, 1, 0, 1, 4, 5]) tK (by kernel_rfl)))
theorem acV : amM x0 x1 x4 x5 H =
 amO x0 x1 x4 x5 (vi 0) H :=
 (pt rfl 0 zx (pt rfl 0 ZK (by kernel_rfl)))
noncomputable def rNQ : OV := ba PP GG FF (oI []) (ls [x0, x1] 28) H mP bv mP
theorem avH {r : Value × AH} (h : (
 hJ [(0, 1)] [(.slice none 0 0)] [] fun a =>
 aQ (Value.cells a).toList H fun b c =>
 amM x0 x1 (.pointer none) b c) = some r) : FF alL [x0, x1] H = some r :=
 fo (t := rNQ x0 x1 H) Tryz.func125 (by kernel_rfl) (Eq.trans (pt rfl 1 ZJ (by kernel_rfl)) h)
theorem z4 {r : Value × AH} (h : (
 aQ (Value.cells x2).toList H fun b a =>
 (ax 3 b a).bind fun c =>
 (FF dx [x0, x1, (vi 6), c] a).bind fun d =>
 some (Value.tuple #[], d.2)) = some r) : FF gm [x0, x1, x2] H = some r :=
 fo Tryz.func126 (by kernel_rfl) h
theorem PH {r : Value × AH} (h : (
 (iQ [x2, (vi 1)]).bind fun c =>
 (j3 [c, (vi 8)]).bind fun a =>
 (nl [(vi 0), (vi 0), (vi 0)] 3 24 a a H).bind fun b =>
 hJ [(0, 1), (1, 1), (2, 1)] [(.pointer none), (vi 0), (.slice none 0 0)] [(0, x0), (1, x1), (2, b.1)] fun d =>
 aQ (Value.cells d).toList b.2 fun e f =>
 some (e, f)) = some r) : FF vJ [x0, x1, x2] H = some r :=
 fo Tryz.func127 (by kernel_rfl) h
theorem Gp {r : Value × AH} (h : (
 aQ (Value.cells x3).toList H fun c a =>
 ld [.n, .f 2] x0 a fun d =>
 (ax 3 c a).bind fun e =>
 hJ [(0, 1), (1, 1), (2, 3)] [(vi 0), (vi 0), (vi 0), (vi 0), (vi 0)] [(0, x1), (1, x2), (2, e)] fun g =>
 z5 1 5 [(vi 0), (vi 0), (vi 0), (vi 0), (vi 0)] [(0, g)] a fun i j =>
 (eJ 5 40 d i j).bind fun b =>
 st 1 [.n, .f 2] x0 b.1 b.2 fun k =>
 some (Value.tuple #[], k)) = some r) : FF cr [x0, x1, x2, x3] H = some r :=
 fo Tryz.func128 (by kernel_rfl) h
theorem Gu {r : Value × AH} (h : (
 (iQ [x2, (vi 1)]).bind fun c =>
 (j3 [c, (vi 8)]).bind fun a =>
 (nl [(vi 0), (vi 0), (vi 0)] 3 24 a a H).bind fun b =>
 hJ [(0, 1), (1, 1), (2, 1), (3, 1)] [(.pointer none), (vi 0), (vi 0), (.slice none 0 0)] [(0, x0), (1, x1), (2, a), (3, b.1)] fun d =>
 aQ (Value.cells d).toList b.2 fun e f =>
 some (e, f)) = some r) : FF oT [x0, x1, x2] H = some r :=
 fo Tryz.func129 (by kernel_rfl) h
theorem z3 {r : Value × AH} (h : (
 aQ (Value.cells x2).toList H fun b c =>
 (ax 3 b c).bind fun d =>
 (FF dx [x0, x1, (vi 2), d] c).bind fun a =>
 ld [.n, .f 0] x0 a.2 fun e =>
 (ax 3 b a.2).bind fun g =>
 hJ [(0, 1)] [(vw 0)] [(0, x3)] fun i =>
 (fj (.flat 3) e g i a.2).bind fun j =>
 some (Value.tuple #[], j)) = some r) : FF dL [x0, x1, x2, x3] H = some r :=
 fo Tryz.func130 (by kernel_rfl) h
theorem Ai {r : Value × AH} (h : (
 aQ (Value.cells x2).toList H fun b c =>
 (ax 3 b c).bind fun e =>
 (FF cr [x0, x1, (vi 2), e] c).bind fun d =>
 (ax 3 b d.2).bind fun g =>
 (FF Bo [x0, g] d.2).bind fun a =>
 ld [.n, .f 1] x0 a.2 fun j =>
 st 1 [.i 1 a.1] j x3 a.2 fun k =>
 some (Value.tuple #[], k)) = some r) : FF eO [x0, x1, x2, x3] H = some r :=
 fo Tryz.func131 (by kernel_rfl) h
theorem F9 {r : Value × AH} (h : (
 aQ (Value.cells x2).toList H fun a b =>
 (ax 3 a b).bind fun e =>
 (ax 3 a b).bind fun f =>
 (FF fN [x0, f] b).bind fun c =>
 bX (ax 3 a c.2) (ax 3 a b) <|
 (ai .other .add c.1 x3).bind fun g =>
 (FF jI [x0, x1, e, g] c.2).bind fun d =>
 some (d.1, d.2)) = some r) : FF gv [x0, x1, x2, x3] H = some r :=
 fo Tryz.func132 (by kernel_rfl) h
theorem Gn {r : Value × AH} (h : (
 aQ (Value.cells x2).toList H fun c d =>
 (ax 3 c d).bind fun g =>
 (FF Bo [x0, g] d).bind fun a =>
 (ax 3 c a.2).bind fun j =>
 (FF cr [x0, x1, (vi 3), j] a.2).bind fun b =>
 ld [.n, .f 1] x0 b.2 fun k =>
 ld [.i 1 a.1] k b.2 fun e =>
 ld [.n, .f 1] x0 b.2 fun l =>
 (ai .other .add e x3).bind fun m =>
 st 1 [.i 1 a.1] l m b.2 fun o =>
 some (e, o)) = some r) : FF iO [x0, x1, x2, x3] H = some r :=
 fo Tryz.func133 (by kernel_rfl) h
noncomputable def oJ (p : List Nat) : Code := Code.sub (bK Tryz.f134) p
noncomputable def mQ : KK := dK PP (Tryz.f134).results.toList
noncomputable def VP : KK := CQ (oJ [1]) mQ bv mQ
noncomputable def amK : OV := VP (ls [x0, u, u, x3, x4] 45) H
noncomputable def KC : KK := CQ (oJ [1, 1]) mQ bv mQ
noncomputable def VO : KK := dD Ny KC
noncomputable def amL : OV := KC (ls [x0, u, u, x3, x4] 45) H
noncomputable def N1 : KK := CQ (oJ [1, 0, 1]) VO bv mQ
noncomputable def XI : OV := N1 (ls [x0, u, u, x3, x4, x5] 44) H
noncomputable def EG : KX := BX 0 VO bv
noncomputable def wY : KX := nJ Ny EG
noncomputable def ED : KK := uz (oJ [1, 0, 1, 4, 5]) wY mQ
noncomputable def N0 : KK := dD D0 ED
noncomputable def Du : OV := ED (ls [x0, u, u, x3, x4, x5] 44) H
noncomputable def N2 : KK := CQ (oJ [1, 0, 1, 4, 5, 1]) N0 wY mQ
noncomputable def XJ : OV := N2 (ls [x0, u, u, x3, x4, x5] 44) H
noncomputable def EE : KK := CQ (oJ [1, 0, 1, 4, 5, 1, 1]) N0 wY mQ
noncomputable def agN : KK := dD D0 EE
noncomputable def XK : OV := EE (ls [x0, u, u, x3, x4, x5] 44) H
noncomputable def agO : KX := BX 1 agN wY
noncomputable def Jf : OV := EG 0 (ls [x0, u, u, x3, x4] 45) H
theorem lh : ap 1125899906842607 mQ := rf
theorem ZN : ap Ny VP := rc lh aw lh
theorem zy : ap Ny KC := rc lh aw lh
theorem Rp : ap D0 N1 := rc (cd zy) aw lh
theorem mR : ∀ i, ap Ny (EG i) := rb (cd zy) aw
theorem p8 : ap D0 ED := rl (cx mR) lh
theorem Rq : ap D0 N2 := rc (cd p8) (cx mR) lh
theorem EF : ap D0 EE := rc (cd p8) (cx mR) lh
theorem Rs : ∀ i, ap D0 (agO i) := rb (cd EF) (cx mR)
theorem acU : amL x0 x3 x4 H =
 ld [.n, .f 0] x0 H fun g =>
 (ax 3 x3 H).bind fun i =>
 z5 1 3 [(vi 0), (vi 0), (vi 0)] [(0, i)] H fun j c =>
 (eJ 3 24 g j c).bind fun a =>
 ad [.n, .f 1] x0 fun b =>
 (ar b a.2).bind fun k =>
 bX (ar b c) (ar b a.2) <|
 z5 1 1 [(vw 0)] [(0, (vw 0))] a.2 fun l m =>
 (eJ 1 8 k l m).bind fun d =>
 st 1 [.n, .f 0] x0 a.1 d.2 fun o =>
 st 1 [.n, .f 1] x0 d.1 o fun e =>
 ld [.n, .f 0] x0 e fun p =>
 fy p fun q =>
 (ai .other .sub q (vi 1)).bind fun s =>
 some (s, e) :=
 (by kernel_rfl)
theorem Tj : XK x0 x3 x4 x5 H =
 (ai .other .add x5 (vi 1)).bind fun a =>
 Du x0 x3 x4 a H :=
 (by kernel_rfl)
theorem Ti : XJ x0 x3 x4 x5 H =
 ld [.n, .f 0] x0 H fun a =>
 ldN 3 [.i 3 x5] a H fun b =>
 (ax 3 x3 H).bind fun c =>
 (ai (.flat 3) .eql b c).bind fun d =>
 av d
 (some (x5, H))
 (XK x0 x3 x4 x5 H) :=
 (pt rfl 0 EF (bt rfl (oJ [1, 0, 1, 4, 5, 1, 0, 4]) 1 Rs (by kernel_rfl)))
theorem Mv : Jf x0 x3 x4 H = amL x0 x3 x4 H :=
 (by kernel_rfl)
theorem Gx : Du x0 x3 x4 x5 H =
 ld [.n, .f 0] x0 H fun a =>
 fy a fun b =>
 (ai .other .lss x5 b).bind fun c =>
 av c
 (XJ x0 x3 x4 x5 H)
 (Jf x0 x3 x4 H) :=
 uW rfl p8 (pt rfl 0 Rq (by kernel_rfl))
theorem Th : XI x0 x3 x4 x5 H =
 Du x0 x3 x4 x5 H :=
 (bt rfl (oJ [1, 0, 1, 4]) 0 mR (li rfl (oJ [1, 0, 1, 4, 5]) p8 (by kernel_rfl)))
theorem acT : amK x0 x3 x4 H =
 XI x0 x3 x4 (vi 0) H :=
 (pt rfl 0 zy (pt rfl 0 Rp (by kernel_rfl)))
noncomputable def rMp : OV := ba PP GG FF (oJ []) (ls [x0, x1] 48) H mQ bv mQ
theorem avG {r : Value × AH} (h : (
 aQ (Value.cells x1).toList H fun a b =>
 amK x0 a (vi 0) b) = some r) : FF Bo [x0, x1] H = some r :=
 fo (t := rMp x0 x1 H) Tryz.func134 (by kernel_rfl) (Eq.trans (pt rfl 0 ZN (by kernel_rfl)) h)
theorem yW {r : Value × AH} (h : (
 (ce x3 [x2]).bind fun c => (FF c.1 c.2 H).bind fun b =>
 (ag b.1 0).bind fun i =>
 (ag b.1 1).bind fun a =>
 (gV a true x0).bind fun j =>
 HK a true  [.n, .f 0] j fun e =>
 (gB a true (ar e b.2)).bind fun k =>
 (gV a true x1).bind fun l =>
 (gV a true x0).bind fun m =>
 (gE a true b.2 (FF en [m, (vi 11), (vi 0)] b.2)).bind fun d =>
 bX (ar e d.2) (ar e b.2) <|
 (gV a true x2).bind fun o =>
 (gV a true i).bind fun p =>
 (gE a true d.2 (FF fO [k, l, d.1, o, p] d.2)).bind fun g =>
 (aL a g.1 (vb false)).bind fun q =>
 some (q, g.2)) = some r) : FF fU [x0, x1, x2, x3] H = some r :=
 fo Tryz.func135 (by kernel_rfl) h
theorem Nd {r : Value × AH} (h : (
 (FF dX [x0] H).bind fun a =>
 (ai .other .neq a.1 (vi 1)).bind fun d =>
 av d
 (some (Value.tuple #[(vw 0), (vb false)], a.2))
 ((FF dt [x0] a.2).bind fun c =>
 (FF lr [c.1, (vi 0)] c.2).bind fun b =>
 (ag b.1 0).bind fun e =>
 (ag b.1 1).bind fun f =>
 some (Value.tuple #[e, f], b.2))) = some r) : FF og [x0] H = some r :=
 fo Tryz.func136 (by kernel_rfl) h
noncomputable def KD (p : List Nat) : Code := Code.sub (bK Tryz.f137) p
noncomputable def vc : KK := dK PP (Tryz.f137).results.toList
noncomputable def VQ : KK := CQ (KD [1, 1]) vc bv vc
noncomputable def u0 : OV := VQ (ls [u, x1, u, u, x4, x5, x6, x7, x8] 47) H
noncomputable def KE : KK := CQ (KD [1, 1, 1]) vc bv vc
noncomputable def aqG : KK := dD Nx KE
noncomputable def u1 : OV := KE (ls [u, u, u, u, x4, x5] 50) H
noncomputable def aqH : KX := BX 0 aqG bv
theorem wZ : ap Nx vc := rf
theorem ZO : ap 72057594037927437 VQ := rc wZ aw wZ
theorem Iz : ap Nx KE := rc wZ aw wZ
theorem ZP : ∀ i, ap Nx (aqH i) := rb (cd Iz) aw
theorem im : u1 x4 x5 H =
 some (Value.tuple #[(vw 0), (vb false)], H) :=
 (by kernel_rfl)
theorem Af : u0 x1 x4 x5 x6 x7 x8 H =
 (ot .not x8).bind fun i =>
 av i
 (some (Value.tuple #[(vw 0), (vb false)], H))
 ((ai .other .eql x1 (vi 0)).bind fun a =>
 (gV a true x7).bind fun j =>
 (gB a true (ai .other .neq j (vi 2))).bind fun k =>
 (aL a k (vb false)).bind fun b =>
 (gV b true x6).bind fun l =>
 (gB b true (ai .other .lss l (vw 2305843009213693951))).bind fun m =>
 (aL b m (vb false)).bind fun n =>
 av n
 ((ai .other .add x6 (vw 1)).bind fun o =>
 (FF nb [o, (vi 1)] H).bind fun c =>
 (ag c.1 0).bind fun p =>
 (ag c.1 1).bind fun q =>
 some (Value.tuple #[p, q], c.2))
 ((ai .other .eql x1 (vi 1)).bind fun d =>
 (gV d true x7).bind fun s =>
 (gB d true (ai .other .eql s (vi 1))).bind fun t =>
 (aL d t (vb false)).bind fun w =>
 av w
 ((FF nb [x6, (vi 0)] H).bind fun e =>
 (ag e.1 0).bind fun y =>
 (ag e.1 1).bind fun z =>
 some (Value.tuple #[y, z], e.2))
 ((ai .other .eql x1 (vi 2)).bind fun f =>
 (gV f true x7).bind fun A =>
 (gB f true (ai .other .eql A (vi 0))).bind fun B =>
 (aL f B (vb false)).bind fun C =>
 av C
 ((FF nb [x6, (vi 2)] H).bind fun g =>
 (ag g.1 0).bind fun D =>
 (ag g.1 1).bind fun E =>
 some (Value.tuple #[D, E], g.2))
 (u1 x4 x5 H)))) :=
 (pt rfl 0 Iz (bt rfl (KD [1, 1, 0, 4]) 0 ZP (by kernel_rfl)))
noncomputable def Te : OV := ba PP GG FF (KD []) (ls [x0, x1] 54) H vc bv vc
theorem HT {r : Value × AH} (h : (
 (FF gR [x0] H).bind fun a =>
 (ag a.1 0).bind fun b =>
 (ag a.1 1).bind fun c =>
 (ag a.1 2).bind fun d =>
 u0 x1 (vw 0) (vb false) b c d a.2) = some r) : FF qz [x0, x1] H = some r :=
 fo (t := Te x0 x1 H) Tryz.func137 (by kernel_rfl) (Eq.trans (pt rfl 1 ZO (by kernel_rfl)) h)
theorem Cx {r : Value × AH} (h : (
 aQ (Value.cells x2).toList H fun b c =>
 (ax 3 b c).bind fun e =>
 (FF Bo [x0, e] c).bind fun a =>
 ld [.n, .f 1] x0 a.2 fun g =>
 ld [.i 1 a.1] g a.2 fun j =>
 (ai .other .neq j x3).bind fun k =>
 av k
 ((ax 3 b a.2).bind fun l =>
 (FF cr [x0, x1, (vi 4), l] a.2).bind fun m =>
 some ((vb false), m.2))
 ((ax 3 b a.2).bind fun o =>
 (FF cr [x0, x1, (vi 3), o] a.2).bind fun d =>
 ld [.n, .f 1] x0 d.2 fun p =>
 st 1 [.i 1 a.1] p x4 d.2 fun q =>
 some ((vb true), q))) = some r) : FF gS [x0, x1, x2, x3, x4] H = some r :=
 fo Tryz.func138 (by kernel_rfl) h
theorem Kc {r : Value × AH} (h : (
 aQ [(vi 0), (.slice none 0 0), (vi 0), (vw 0)] H fun b d =>
 (FF mz [x0, x1, x2] d).bind fun e =>
 (FF mv [x0, x2] e.2).bind fun a =>
 (ag a.1 0).bind fun f =>
 (ag a.1 1).bind fun g =>
 (cJ 4 b f a.2).bind fun c =>
 (ax 4 b c).bind fun i => some (Value.tuple #[i, g], c)) = some r) : FF jo [x0, x1, x2] H = some r :=
 fo Tryz.func139 (by kernel_rfl) h
noncomputable def KG (p : List Nat) : Code := Code.sub (bK Tryz.f140) p
noncomputable def vd : KK := dK PP (Tryz.f140).results.toList
noncomputable def VS : KK := CQ (KG [1, 1]) vd bv vd
noncomputable def Em : OV := VS (ls [x0, u, u, u, x4, x5, x6] 27) H
noncomputable def KH : KK := CQ (KG [1, 1, 1]) vd bv vd
noncomputable def aqI : KK := dD 17179869134 KH
noncomputable def En : OV := KH (ls [x0, u, u, u, x4, x5] 28) H
noncomputable def aqJ : KX := BX 0 aqI bv
theorem w5 : ap 17179869135 vd := rf
theorem ZR : ap 17179869070 VS := rc w5 aw w5
theorem IA : ap 17179869134 KH := rc w5 aw w5
theorem ZS : ∀ i, ap 17179869134 (aqJ i) := rb (cd IA) aw
theorem HE : En x0 x4 x5 H =
 (FF bN [x0, (.func (.func ks) #[x0] #[])] H).bind fun a =>
 (ag a.1 0).bind fun c =>
 (ag a.1 1).bind fun d =>
 (cJ 4 x4 c a.2).bind fun b =>
 (ax 4 x4 b).bind fun e => some (Value.tuple #[e, d], b) :=
 (by kernel_rfl)
theorem HD : Em x0 x4 x5 x6 H =
 ld [.n, .f 10] x0 H fun e =>
 av e
 ((FF bN [x0, (.func (.func hZ) #[x0] #[])] H).bind fun a =>
 (ag a.1 0).bind fun g =>
 (ag a.1 1).bind fun i =>
 (cJ 4 x4 g a.2).bind fun c =>
 (ax 4 x4 c).bind fun j => some (Value.tuple #[j, i], c))
 (av x6
 ((FF bN [x0, (.func (.func dm) #[x0] #[])] H).bind fun b =>
 (ag b.1 0).bind fun k =>
 (ag b.1 1).bind fun l =>
 (cJ 4 x4 k b.2).bind fun d =>
 (ax 4 x4 d).bind fun m => some (Value.tuple #[m, l], d))
 (En x0 x4 x5 H)) :=
 (pt rfl 0 IA (bt rfl (KG [1, 1, 0, 4]) 0 ZS (by kernel_rfl)))
noncomputable def ap2 : OV := ba PP GG FF (KG []) (ls [x0, x1] 32) H vd bv vd
theorem Q9 {r : Value × AH} (h : (
 aQ [(vi 0), (.slice none 0 0), (vi 0), (vw 0)] H fun b c =>
 (FF ya [x0] c).bind fun a =>
 Em x0 b (vb false) a.1 a.2) = some r) : FF ks [x0, x1] H = some r :=
 fo (t := ap2 x0 x1 H) Tryz.func140 (by kernel_rfl) (Eq.trans (pt rfl 1 ZR (by kernel_rfl)) h)
theorem wm {r : Value × AH} (h : (
 ld [.n, .f 2, .f 1] x0 H fun b =>
 (ai .other .lss b (vi 0)).bind fun a =>
 (gV a false x0).bind fun c =>
 f0 a false  [.n, .f 2, .f 1] c H fun d =>
 (gB a false (ai .other .gtr d (vi 1048576))).bind fun e =>
 (aL a (vb true) e).bind fun g =>
 some (g, H)) = some r) : FF gD [x0] H = some r :=
 fo Tryz.func141 (by kernel_rfl) h
theorem yM {r : Value × AH} (h : (
 aQ [(vi 0), (.slice none 0 0), (vi 0), (vw 0)] H fun a c =>
 (FF cX [x0, x1, x2] c).bind fun d =>
 hJ [(0, 1), (1, 1), (2, 1), (3, 1)] [(vi 0), (.slice none 0 0), (vi 0), (vw 0)] [(0, x2)] fun e =>
 (cJ 4 a e d.2).bind fun b =>
 (ax 4 a b).bind fun f => some (Value.tuple #[f, (vb true)], b)) = some r) : FF dn [x0, x1, x2] H = some r :=
 fo Tryz.func142 (by kernel_rfl) h
theorem CH {r : Value × AH} (h : (
 aQ [(vi 0), (.slice none 0 0), (vi 0), (vw 0)] H fun b a =>
 ld [.n, .f 0] x0 a fun j =>
 ld [.n, .f 2] j a fun k =>
 ld [.n, .f 1] x0 a fun l =>
 ld [.n, .f 6] x0 a fun m =>
 (FF eu [k, l, m] a).bind fun c =>
 (ot .not c.1).bind fun o =>
 av o
 ((FF bf [x0, (.func (.func cW) #[x0] #[])] c.2).bind fun d =>
 (ag d.1 0).bind fun p =>
 (ag d.1 1).bind fun q =>
 (cJ 4 b p d.2).bind fun g =>
 (ax 4 b g).bind fun s => some (Value.tuple #[s, q], g))
 ((FF bf [x0, (.func (.func cm) #[x0] #[])] c.2).bind fun e =>
 (ag e.1 0).bind fun t =>
 (ag e.1 1).bind fun w =>
 (cJ 4 b t e.2).bind fun i =>
 (ax 4 b i).bind fun y => some (Value.tuple #[y, w], i))) = some r) : FF cW [x0, x1] H = some r :=
 fo Tryz.func143 (by kernel_rfl) h
theorem Ay {r : Value × AH} (h : (
 aQ [(vi 0), (.slice none 0 0), (vi 0), (vw 0)] H fun b a =>
 ld [.n, .f 0] x0 a fun j =>
 ld [.n, .f 2] j a fun k =>
 ld [.n, .f 1] x0 a fun l =>
 ld [.n, .f 6] x0 a fun m =>
 (FF eu [k, l, m] a).bind fun c =>
 (ot .not c.1).bind fun o =>
 av o
 ((FF bf [x0, (.func (.func cO) #[x0] #[])] c.2).bind fun d =>
 (ag d.1 0).bind fun p =>
 (ag d.1 1).bind fun q =>
 (cJ 4 b p d.2).bind fun g =>
 (ax 4 b g).bind fun s => some (Value.tuple #[s, q], g))
 ((FF bf [x0, (.func (.func bV) #[x0] #[])] c.2).bind fun e =>
 (ag e.1 0).bind fun t =>
 (ag e.1 1).bind fun w =>
 (cJ 4 b t e.2).bind fun i =>
 (ax 4 b i).bind fun y => some (Value.tuple #[y, w], i))) = some r) : FF cO [x0, x1] H = some r :=
 fo Tryz.func144 (by kernel_rfl) h
noncomputable def gN (p : List Nat) : Code := Code.sub (bK Tryz.f145) p
noncomputable def gO : KK := dK PP (Tryz.f145).results.toList
noncomputable def VU : KK := CQ (gN [1, 1]) gO bv gO
noncomputable def amR : OV := VU (ls [x0, x1, x2, u, u, u, u, x7, x8] 81) H
noncomputable def KI : KK := CQ (gN [1, 1, 1]) gO bv gO
noncomputable def VT : KK := dD Nv KI
noncomputable def Tl : OV := KI (ls [x0, x1, x2, u, u, u, u, x7, x8] 81) H
noncomputable def VV : KK := CQ (gN [1, 1, 1, 1, 1]) gO bv gO
noncomputable def amS : OV := VV (ls [x0, x1, x2, u, u, u, u, x7, x8, u, x10] 79) H
noncomputable def KJ : KK := CQ (gN [1, 1, 1, 1, 1, 1]) gO bv gO
noncomputable def aqK : KK := dD wK KJ
noncomputable def Tn : OV := KJ (ls [x0, x1, x2, u, u, u, u, x7, x8, u, x10] 79) H
noncomputable def EN : KX := BX 2 aqK bv
noncomputable def EP : KX := nJ wK EN
noncomputable def EJ : KK := uz (gN [1, 1, 1, 1, 1, 0, 4, 5]) EP gO
noncomputable def N3 : KK := dD wK EJ
noncomputable def Dv : OV := EJ (ls [x0, x1, x2, u, u, u, u, x7, x8, u, x10] 79) H
noncomputable def N5 : KK := CQ (gN [1, 1, 1, 1, 1, 0, 4, 5, 1]) N3 EP gO
noncomputable def XL : OV := N5 (ls [x0, x1, x2, u, u, u, u, x7, x8, u, x10] 79) H
noncomputable def agY : KX := BX 3 N3 EP
noncomputable def Jh : OV := EN 2 (ls [x0, x1, x2, u, u, u, u, x7, x8, u, x10] 79) H
noncomputable def N6 : KK := CQ (gN [1, 1, 0, 1]) VT bv gO
noncomputable def XM : OV := N6 (ls [x0, x1, x2, u, u, u, u, x7, x8, x9] 80) H
noncomputable def EO : KX := BX 0 VT bv
noncomputable def w6 : KX := nJ Nv EO
noncomputable def EK : KK := uz (gN [1, 1, 0, 1, 4, 5]) w6 gO
noncomputable def N4 : KK := dD DV EK
noncomputable def Dw : OV := EK (ls [x0, x1, x2, u, u, u, u, x7, x8, x9] 80) H
noncomputable def N7 : KK := CQ (gN [1, 1, 0, 1, 4, 5, 1]) N4 w6 gO
noncomputable def XN : OV := N7 (ls [x0, x1, x2, u, u, u, u, x7, x8, x9] 80) H
noncomputable def EL : KK := CQ (gN [1, 1, 0, 1, 4, 5, 1, 1]) N4 w6 gO
noncomputable def agX : KK := dD DV EL
noncomputable def Dy : OV := EL (ls [x0, x1, x2, u, u, u, u, x7, x8, x9] 80) H
noncomputable def agZ : KX := BX 1 agX w6
noncomputable def Ji : OV := EO 0 (ls [x0, x1, x2, u, u, u, u, x7, x8] 81) H
theorem e9 : ap 1237940039285380274899124223 gO := rf
theorem ZT : ap Nv VU := rc e9 aw e9
theorem zz : ap Nv KI := rc e9 aw e9
theorem ZU : ap wK VV := rc e9 aw e9
theorem IB : ap wK KJ := rc e9 aw e9
theorem qd : ∀ i, ap wK (EN i) := rb (cd IB) aw
theorem qa : ap wK EJ := rl (cx qd) e9
theorem Ru : ap wK N5 := rc (cd qa) (cx qd) e9
theorem Rx : ∀ i, ap wK (agY i) := rb (cd qa) (cx qd)
theorem Rv : ap DV N6 := rc (cd zz) aw e9
theorem mS : ∀ i, ap Nv (EO i) := rb (cd zz) aw
theorem qc : ap DV EK := rl (cx mS) e9
theorem Rw : ap DV N7 := rc (cd qc) (cx mS) e9
theorem EM : ap DV EL := rc (cd qc) (cx mS) e9
theorem Ry : ∀ i, ap DV (agZ i) := rb (cd EM) (cx mS)
theorem ac3 : Tn x0 x1 x2 x7 x8 x10 H =
 ld [.n, .f 13] x0 H fun d =>
 (fV 7 d none (some x10)).bind fun e =>
 (eJ 7 72 (.slice none 0 0) e H).bind fun a =>
 (ax 4 x7 a.2).bind fun g =>
 hJ [(0, 1), (1, 1), (2, 1), (3, 4)] [(vi 0), (vi 0), (vi 0), (vi 0), (.slice none 0 0), (vi 0), (vw 0)] [(0, x1), (1, x2), (2, x8), (3, g)] fun i =>
 z5 1 7 [(vi 0), (vi 0), (vi 0), (vi 0), (.slice none 0 0), (vi 0), (vw 0)] [(0, i)] a.2 fun j k =>
 (eJ 7 72 a.1 j k).bind fun b =>
 ld [.n, .f 13] x0 b.2 fun l =>
 (fV 7 l (some x10) none).bind fun m =>
 (eJ 7 72 b.1 m b.2).bind fun c =>
 st 1 [.n, .f 13] x0 c.1 c.2 fun o =>
 some (Value.tuple #[], o) :=
 (by kernel_rfl)
theorem Tm : XL x0 x1 x2 x7 x8 x10 H =
 (ai .other .sub x10 (vi 1)).bind fun a =>
 Dv x0 x1 x2 x7 x8 a H :=
 (bt rfl (gN [1, 1, 1, 1, 1, 0, 4, 5, 1, 4]) 3 Rx (by kernel_rfl))
theorem yH : Jh x0 x1 x2 x7 x8 x10 H = Tn x0 x1 x2 x7 x8 x10 H :=
 (by kernel_rfl)
theorem Gy : Dv x0 x1 x2 x7 x8 x10 H =
 (ai .other .gtr x10 (vi 0)).bind fun a =>
 (gV a true x0).bind fun b =>
 f0 a true  [.n, .f 13] b H fun c =>
 (gV a true x10).bind fun d =>
 (gB a true (ai .other .sub d (vi 1))).bind fun e =>
 f0 a true  [.i 7 e, .f 0] c H fun g =>
 (gV a true x1).bind fun j =>
 (gB a true (ai .other .gtr g j)).bind fun k =>
 (aL a k (vb false)).bind fun l =>
 av l
 (XL x0 x1 x2 x7 x8 x10 H)
 (Jh x0 x1 x2 x7 x8 x10 H) :=
 uW rfl qa (pt rfl 0 Ru (by kernel_rfl))
theorem ac2 : amS x0 x1 x2 x7 x8 x10 H =
 Dv x0 x1 x2 x7 x8 x10 H :=
 (pt rfl 0 IB (bt rfl (gN [1, 1, 1, 1, 1, 0, 4]) 2 qd (li rfl (gN [1, 1, 1, 1, 1, 0, 4, 5]) qa (by kernel_rfl))))
theorem ac1 : Tl x0 x1 x2 x7 x8 H =
 ld [.f 1] x7 H fun c =>
 (eJ 3 24 (.slice none 0 0) c H).bind fun a =>
 st 1 [.f 1] x7 a.1 a.2 fun b =>
 ld [.n, .f 13] x0 b fun d =>
 fy d fun e =>
 amS x0 x1 x2 x7 x8 e b :=
 (pt rfl 1 ZU (by kernel_rfl))
theorem Tq : Dy x0 x1 x2 x7 x8 x9 H =
 (ai .other .add x9 (vi 2)).bind fun a =>
 Dw x0 x1 x2 x7 x8 a H :=
 (by kernel_rfl)
theorem Tp : XN x0 x1 x2 x7 x8 x9 H =
 ld [.n, .f 12] x0 H fun a =>
 ld [.i 1 x9] a H fun b =>
 (ai .other .eql b x2).bind fun c =>
 av c
 (ld [.n, .f 12] x0 H fun d =>
 (ai .other .add x9 (vi 1)).bind fun e =>
 ld [.i 1 e] d H fun g =>
 Dy x0 x1 x2 x7 g x9 H)
 (Dy x0 x1 x2 x7 x8 x9 H) :=
 (pt rfl 0 EM (bt rfl (gN [1, 1, 0, 1, 4, 5, 1, 0, 4]) 1 Ry (by kernel_rfl)))
theorem Mx : Ji x0 x1 x2 x7 x8 H = Tl x0 x1 x2 x7 x8 H :=
 (by kernel_rfl)
theorem Gz : Dw x0 x1 x2 x7 x8 x9 H =
 ld [.n, .f 12] x0 H fun a =>
 fy a fun b =>
 (ai .other .lss x9 b).bind fun c =>
 av c
 (XN x0 x1 x2 x7 x8 x9 H)
 (Ji x0 x1 x2 x7 x8 H) :=
 uW rfl qc (pt rfl 0 Rw (by kernel_rfl))
theorem To : XM x0 x1 x2 x7 x8 x9 H =
 Dw x0 x1 x2 x7 x8 x9 H :=
 (bt rfl (gN [1, 1, 0, 1, 4]) 0 mS (li rfl (gN [1, 1, 0, 1, 4, 5]) qc (by kernel_rfl)))
theorem ac0 : amR x0 x1 x2 x7 x8 H =
 XM x0 x1 x2 x7 x8 (vi 0) H :=
 (pt rfl 0 zz (pt rfl 0 Rv (by kernel_rfl)))
noncomputable def rPN : OV := ba PP GG FF (gN []) (ls [x0, x1, x2, x3] 86) H gO bv gO
theorem avI {r : Value × AH} (h : (
 aQ (Value.cells x3).toList H fun a b =>
 amR x0 x1 x2 a (vi 0) b) = some r) : FF alM [x0, x1, x2, x3] H = some r :=
 fo (t := rPN x0 x1 x2 x3 H) Tryz.func145 (by kernel_rfl) (Eq.trans (pt rfl 1 ZT (by kernel_rfl)) h)
theorem yD {r : Value × AH} (h : (
 ad [.n, .f 0] x0 fun b =>
 (ar b H).bind fun d =>
 (FF ch [(vi 10), x2, x3] H).bind fun c =>
 bX (ar b c.2) (ar b H) <|
 (FF ei [d, x1, c.1] c.2).bind fun a =>
 (ai .other .eql a.1 (vw 0)).bind fun e =>
 av e
 (some (Value.tuple #[(vi 0), (vi 0), (vb false)], a.2))
 ((ai .other .quo a.1 (vw 4294967296)).bind fun g =>
 (cf (some .i64) g).bind fun i =>
 (ai .other .sub i (vi 1)).bind fun j =>
 (ai .other .rem a.1 (vw 4294967296)).bind fun k =>
 (cf (some .i64) k).bind fun l =>
 some (Value.tuple #[j, l, (vb true)], a.2))) = some r) : FF kA [x0, x1, x2, x3] H = some r :=
 fo Tryz.func146 (by kernel_rfl) h
theorem Ap {r : Value × AH} (h : (
 ad [.n, .f 0] x0 fun a =>
 (ar a H).bind fun d =>
 ld [.n, .f 1] x0 H fun e =>
 (FF ch [(vi 11), e, (vi 0)] H).bind fun b =>
 bX (ar a b.2) (ar a H) <|
 (FF ei [d, x1, b.1] b.2).bind fun c =>
 some (c.1, c.2)) = some r) : FF lK [x0, x1] H = some r :=
 fo Tryz.func147 (by kernel_rfl) h
theorem Cv {r : Value × AH} (h : (
 aQ (Value.cells x2).toList H fun b c =>
 (ax 3 b c).bind fun e =>
 (FF cr [x0, x1, (vi 1), e] c).bind fun d =>
 (ax 3 b d.2).bind fun g =>
 (FF Bo [x0, g] d.2).bind fun a =>
 ld [.n, .f 1] x0 a.2 fun j =>
 ld [.i 1 a.1] j a.2 fun k =>
 some (k, a.2)) = some r) : FF ei [x0, x1, x2] H = some r :=
 fo Tryz.func148 (by kernel_rfl) h
theorem pM {r : Value × AH} (h : (
 ld [.n, .f 2] x0 H fun a =>
 (cf (some .u64) a).bind fun b =>
 (ai .other .rem x1 b).bind fun c =>
 (cf (some .i64) c).bind fun d =>
 some (d, H)) = some r) : FF eS [x0, x1] H = some r :=
 fo Tryz.func149 (by kernel_rfl) h
theorem Ak {r : Value × AH} (h : (
 ad [.n, .f 5] x0 fun a =>
 (ar a H).bind fun d =>
 (FF ch [(vi 2), (vi 0), (vi 0)] H).bind fun b =>
 bX (ar a b.2) (ar a H) <|
 (FF ei [d, x1, b.1] b.2).bind fun c =>
 some (c.1, c.2)) = some r) : FF eR [x0, x1] H = some r :=
 fo Tryz.func150 (by kernel_rfl) h
theorem Ag {r : Value × AH} (h : (
 ad [.n, .f 0] x0 fun a =>
 (ar a H).bind fun c =>
 (FF ch [(vi 3), (vi 0), (vi 0)] H).bind fun b =>
 bX (ar a b.2) (ar a H) <|
 (FF iO [c, x1, b.1, (vw 1)] b.2).bind fun d =>
 some (Value.tuple #[], d.2)) = some r) : FF iV [x0, x1] H = some r :=
 fo Tryz.func151 (by kernel_rfl) h
theorem Ah {r : Value × AH} (h : (
 ad [.n, .f 0] x0 fun a =>
 (ar a H).bind fun d =>
 (FF ch [(vi 9), x2, (vi 0)] H).bind fun b =>
 bX (ar a b.2) (ar a H) <|
 (FF ei [d, x1, b.1] b.2).bind fun c =>
 some (c.1, c.2)) = some r) : FF lI [x0, x1, x2] H = some r :=
 fo Tryz.func152 (by kernel_rfl) h
end
section
variable (B D C E G Z X x7 R Y K U N L V O I M J S W Q P T x80 : Value) (H : AH)
theorem yy {r : Value × AH} (h : (
 ad [.n, .f 0] B fun c =>
 (ar c H).bind fun k =>
 (FF ch [(vi 14), C, (vi 0)] H).bind fun d =>
 bX (ar c d.2) (ar c H) <|
 (FF cr [k, D, (vi 6), d.1] d.2).bind fun l =>
 (FF nc [B, C] l.2).bind fun a =>
 (ai .other .lss a.1 (vi 0)).bind fun m =>
 av m
 (ld [.n, .f 2] B a.2 fun o =>
 z5 1 1 [(vi 0)] [(0, C)] a.2 fun p g =>
 (eJ 1 8 o p g).bind fun b =>
 ad [.n, .f 3] B fun e =>
 (ar e b.2).bind fun q =>
 bX (ar e g) (ar e b.2) <|
 z5 1 1 [(vw 0)] [(0, E)] b.2 fun s t =>
 (eJ 1 8 q s t).bind fun j =>
 st 1 [.n, .f 2] B b.1 j.2 fun w =>
 st 1 [.n, .f 3] B j.1 w fun y =>
 some (Value.tuple #[], y))
 (ld [.n, .f 3] B a.2 fun z =>
 st 1 [.i 1 a.1] z E a.2 fun A =>
 some (Value.tuple #[], A))) = some r) : FF ky [B, D, C, E] H = some r :=
 fo Tryz.func153 (by kernel_rfl) h
theorem yz {r : Value × AH} (h : (
 ad [.n, .f 0] B fun a =>
 (ar a H).bind fun d =>
 (FF ch [(vi 9), C, (vi 0)] H).bind fun b =>
 bX (ar a b.2) (ar a H) <|
 (cf (some .u64) G).bind fun e =>
 (ai .other .add e (vw 1)).bind fun g =>
 (FF gS [d, D, b.1, E, g] b.2).bind fun c =>
 some (c.1, c.2)) = some r) : FF kz [B, D, C, E, G] H = some r :=
 fo Tryz.func154 (by kernel_rfl) h
theorem vX {r : Value × AH} (h : (
 ad [.n, .f 0] B fun a =>
 (ar a H).bind fun c =>
 (FF ch [(vi 10), C, E] H).bind fun b =>
 bX (ar a b.2) (ar a H) <|
 (FF eO [c, D, b.1, (vw 0)] b.2).bind fun d =>
 some (Value.tuple #[], d.2)) = some r) : FF jM [B, D, C, E] H = some r :=
 fo Tryz.func155 (by kernel_rfl) h
noncomputable def rX (p : List Nat) : Code := Code.sub (bK Tryz.f156) p
noncomputable def oK : KK := dK PP (Tryz.f156).results.toList
noncomputable def VX : KK := CQ (rX [1, 1]) oK bv oK
noncomputable def xz : OV := VX (ls [B, D, C, u, u, u, X] 23) H
noncomputable def KL : KK := CQ (rX [1, 1, 1]) oK bv oK
noncomputable def VW : KK := dD mM KL
noncomputable def xA : OV := KL (ls [u, u, u, u, u, u, X] 23) H
noncomputable def VY : KK := CQ (rX [1, 1, 0, 1]) VW bv oK
noncomputable def xC : OV := VY (ls [B, D, C, u, u, u, X, x7] 22) H
noncomputable def KN : KX := BX 0 VW bv
noncomputable def V0 : KX := nJ mM KN
noncomputable def KM : KK := uz (rX [1, 1, 0, 1, 4, 5]) V0 oK
noncomputable def aqL : KK := dD j4 KM
noncomputable def xD : OV := KM (ls [B, D, C, u, u, u, X, x7] 22) H
noncomputable def VZ : KK := CQ (rX [1, 1, 0, 1, 4, 5, 1]) aqL V0 oK
noncomputable def LP : OV := VZ (ls [B, D, C, u, u, u, X, x7] 22) H
noncomputable def sq : OV := KN 0 (ls [u, u, u, u, u, u, X] 23) H
theorem mT : ap mM oK := rf
theorem ZV : ap 1073741752 VX := rc mT aw mT
theorem zA : ap mM KL := rc mT aw mT
theorem ZW : ap j4 VY := rc (cd zA) aw mT
theorem zC : ∀ i, ap mM (KN i) := rb (cd zA) aw
theorem zB : ap j4 KM := rl (cx zC) mT
theorem ZX : ap j4 VZ := rc (cd zB) (cx zC) mT
theorem BT : xA X H =
 some ((vb true), H) :=
 (by kernel_rfl)
theorem xy : sq X H = xA X H :=
 (by kernel_rfl)
theorem BV : xD B D C X x7 H =
 fy B fun a =>
 (ai .other .lss x7 a).bind fun b =>
 av b
 (LP B D C X x7 H)
 (sq X H) :=
 uW rfl zB (pt rfl 0 ZX (by kernel_rfl))
theorem BU : xC B D C X x7 H =
 xD B D C X x7 H :=
 (bt rfl (rX [1, 1, 0, 1, 4]) 0 zC (li rfl (rX [1, 1, 0, 1, 4, 5]) zB (by kernel_rfl)))
theorem BS : xz B D C X H =
 xC B D C X (vi 0) H :=
 (pt rfl 0 zA (pt rfl 0 ZW (by kernel_rfl)))
noncomputable def abX : OV := ba PP GG FF (rX []) (ls [B, D, C] 27) H oK bv oK
theorem LQ {r : Value × AH} (h : (
 fy B fun a =>
 fy D fun b =>
 (ai .other .neq a b).bind fun c =>
 av c
 (some ((vb false), H))
 (xz B D C (vb false) H)) = some r) : FF sG [B, D, C] H = some r :=
 fo (t := abX B D C H) Tryz.func156 (by kernel_rfl) (Eq.trans (pt rfl 1 ZV (by kernel_rfl)) h)
noncomputable def i5 (p : List Nat) : Code := Code.sub (bK Tryz.f158) p
noncomputable def kg : KK := dK PP (Tryz.f158).results.toList
noncomputable def V3 : KK := CQ (i5 [1]) kg bv kg
noncomputable def anD : OV := V3 (ls [B, D, C, E, u, u, u, u, R] 44) H
noncomputable def KT : KX := BX 0 kg bv
noncomputable def C1 : KX := nJ 9007199254740991 KT
noncomputable def KP : KK := uz (i5 [1, 4, 5]) C1 kg
noncomputable def V1 : KK := dD uG KP
noncomputable def MK : OV := KP (ls [B, D, C, E, u, u, u, u, R] 44) H
noncomputable def V4 : KK := CQ (i5 [1, 4, 5, 1]) V1 C1 kg
noncomputable def anE : OV := V4 (ls [B, D, C, E, u, u, u, u, R] 44) H
noncomputable def KQ : KK := CQ (i5 [1, 4, 5, 1, 1]) V1 C1 kg
noncomputable def KO : KK := dD uG KQ
noncomputable def anF : OV := KQ (ls [B, D, C, E, u, u, u, u, R] 44) H
noncomputable def V6 : KX := BX 1 KO C1
noncomputable def V7 : KX := nJ uG V6
noncomputable def V5 : KK := CQ (i5 [1, 4, 5, 1, 0, 4, 1]) KO V7 kg
noncomputable def anG : OV := V5 (ls [B, D, C, E, u, u, u, u, R, Y] 43) H
noncomputable def KU : KX := BX 2 KO V7
noncomputable def C2 : KX := nJ uG KU
noncomputable def KS : KK := uz (i5 [1, 4, 5, 1, 0, 4, 1, 4, 5]) C2 kg
noncomputable def V2 : KK := dD D3 KS
noncomputable def ML : OV := KS (ls [B, D, C, E, u, u, u, u, R, Y] 43) H
noncomputable def N8 : KK := CQ (i5 [1, 4, 5, 1, 0, 4, 1, 4, 5, 1]) V2 C2 kg
noncomputable def X3 : OV := N8 (ls [B, D, C, E, u, u, u, u, R, Y] 43) H
noncomputable def EQ : KK := CQ (i5 [1, 4, 5, 1, 0, 4, 1, 4, 5, 1, 1]) V2 C2 kg
noncomputable def ag0 : KK := dD D3 EQ
noncomputable def X4 : OV := EQ (ls [B, D, C, E, u, u, u, u, R, Y] 43) H
noncomputable def ag1 : KX := BX 3 ag0 C2
noncomputable def PL : OV := KU 2 (ls [B, D, C, E, u, u, u, u, R] 44) H
noncomputable def PK (H : AH) : OV := KT 0 (ls [] 53) H
theorem iK : ap 9007199254740991 kg := rf
theorem ZY : ap uG V3 := rc iK aw iK
theorem o7 : ∀ i, ap 9007199254740991 (KT i) := rb iK aw
theorem tL : ap uG KP := rl (cx o7) iK
theorem ZZ : ap uG V4 := rc (cd tL) (cx o7) iK
theorem tM : ap uG KQ := rc (cd tL) (cx o7) iK
theorem zD : ∀ i, ap uG (V6 i) := rb (cd tM) (cx o7)
theorem Z0 : ap D3 V5 := rc (cd tM) (cx zD) iK
theorem o8 : ∀ i, ap uG (KU i) := rb (cd tM) (cx zD)
theorem tN : ap D3 KS := rl (cx o8) iK
theorem Rz : ap D3 N8 := rc (cd tN) (cx o8) iK
theorem ES : ap D3 EQ := rc (cd tN) (cx o8) iK
theorem RA : ∀ i, ap D3 (ag1 i) := rb (cd ES) (cx o8)
theorem Jt : anF B D C E R H =
 (ai .other .add R (vi 1)).bind fun a =>
 MK B D C E a H :=
 (by kernel_rfl)
theorem TN : X4 B D C E R Y H =
 (ai .other .sub Y (vi 1)).bind fun a =>
 ML B D C E R a H :=
 (by kernel_rfl)
theorem TM : X3 B D C E R Y H =
 (ai .other .sub Y (vi 1)).bind fun a =>
 (ai .other .sub Y (vi 1)).bind fun b =>
 ldN 7 [.i 7 b] B H fun c =>
 ldN 7 [.i 7 Y] B H fun d =>
 st 7 [.i 7 Y] B c H fun e =>
 st 7 [.i 7 a] B d e fun f =>
 X4 B D C E R Y f :=
 (pt rfl 0 ES (bt rfl (i5 [1, 4, 5, 1, 0, 4, 1, 4, 5, 1, 0, 4]) 3 RA (by kernel_rfl)))
theorem By : PL B D C E R H = anF B D C E R H :=
 (by kernel_rfl)
theorem Ju : ML B D C E R Y H =
 (ai .other .gtr Y D).bind fun a =>
 (gV a true E).bind fun d =>
 (gV a true B).bind fun e =>
 (gV a true Y).bind fun f =>
 pw a true  7 [.i 7 f] e H fun g =>
 (gV a true B).bind fun j =>
 (gV a true Y).bind fun k =>
 (gB a true (ai .other .sub k (vi 1))).bind fun l =>
 pw a true  7 [.i 7 l] j H fun m =>
 (gE a true H ((ce d [g, m]).bind fun c => FF c.1 c.2 H)).bind fun b =>
 (gB a true (ai .other .lss b.1 (vi 0))).bind fun n =>
 (aL a n (vb false)).bind fun o =>
 av o
 (X3 B D C E R Y b.2)
 (PL B D C E R b.2) :=
 uW rfl tN (pt rfl 0 Rz (by kernel_rfl))
theorem adG : anG B D C E R Y H =
 ML B D C E R Y H :=
 (bt rfl (i5 [1, 4, 5, 1, 0, 4, 1, 4]) 2 o8 (li rfl (i5 [1, 4, 5, 1, 0, 4, 1, 4, 5]) tN (by kernel_rfl)))
theorem adF : anE B D C E R H =
 anG B D C E R R H :=
 (pt rfl 0 tM (bt rfl (i5 [1, 4, 5, 1, 0, 4]) 1 zD (pt rfl 0 Z0 (by kernel_rfl))))
theorem Bx (H : AH) : PK H = some (Value.tuple #[], H) :=
 (by kernel_rfl)
theorem AF : MK B D C E R H =
 (ai .other .lss R C).bind fun a =>
 av a
 (anE B D C E R H)
 (PK H) :=
 uW rfl tL (pt rfl 0 ZZ (by kernel_rfl))
theorem adE : anD B D C E R H =
 MK B D C E R H :=
 (bt rfl (i5 [1, 4]) 0 o7 (li rfl (i5 [1, 4, 5]) tL (by kernel_rfl)))
noncomputable def sIn : OV := ba PP GG FF (i5 []) (ls [B, D, C, E] 49) H kg bv kg
theorem avP {r : Value × AH} (h : (
 (ai .other .add D (vi 1)).bind fun a =>
 anD B D C E a H) = some r) : FF Xt [B, D, C, E] H = some r :=
 fo (t := sIn B D C E H) Tryz.func158 (by kernel_rfl) (Eq.trans (pt rfl 0 ZY (by kernel_rfl)) h)
noncomputable def bH (p : List Nat) : Code := Code.sub (bK Tryz.f159) p
noncomputable def bY : KK := dK PP (Tryz.f159).results.toList
noncomputable def KV : KK := CQ (bH [1]) bY bv bY
noncomputable def C3 : KK := dD apT KV
noncomputable def anH : OV := KV (ls [B, D, C, E, G] 215) H
noncomputable def KW : KK := CQ (bH [1, 1]) bY bv bY
noncomputable def C4 : KK := dD apT KW
noncomputable def anI : OV := KW (ls [B, D, C, E, G] 215) H
noncomputable def V8 : KK := CQ (bH [1, 1, 1, 1, 1]) bY bv bY
noncomputable def anJ : OV := V8 (ls [B, D, C, E, G, u, u, u, u, u, u, u, u, u, u, u, u, u, I, M] 200) H
noncomputable def V9 : KK := CQ (bH [1, 1, 1, 1, 1, 1]) bY bv bY
noncomputable def TQ : OV := V9 (ls [B, D, C, E, G, u, u, u, u, u, u, u, u, u, u, u, u, u, I, M, J, S] 198) H
noncomputable def Wa : KK := CQ (bH [1, 1, 1, 1, 1, 1, 1]) bY bv bY
noncomputable def anK : OV := Wa (ls [B, D, C, E, G, u, u, u, u, u, u, u, u, u, u, u, u, u, I, M, J, S, W] 197) H
noncomputable def KY : KK := CQ (bH [1, 1, 1, 1, 1, 1, 1, 1]) bY bv bY
noncomputable def aqM : KK := dD UO KY
noncomputable def TT : OV := KY (ls [B, D, C, E, G, u, u, u, u, u, u, u, u, u, u, u, u, u, I, M, J] 199) H
noncomputable def Wb : KK := CQ (bH [1, 1, 1, 1, 1, 1, 1, 1, 1]) bY bv bY
noncomputable def anL : OV := Wb (ls [B, D, C, E, G, u, u, u, u, u, u, u, u, u, u, u, u, u, I, u, J, u, u, u, Q] 195) H
noncomputable def Wc : KK := CQ (bH [1, 1, 1, 1, 1, 1, 1, 1, 1, 1]) bY bv bY
noncomputable def MR : OV := Wc (ls [B, D, u, E, G, u, u, u, u, u, u, u, u, u, u, u, u, u, I, u, J, u, u, u, Q] 195) H
noncomputable def Wd : KK := CQ (bH [1, 1, 1, 1, 1, 1, 1, 1, 1, 1, 1]) bY bv bY
noncomputable def MS : OV := Wd (ls [B, u, u, E, G, u, u, u, u, u, u, u, u, u, u, u, u, u, I, u, u, u, u, u, Q] 195) H
noncomputable def E9 : KX := BX 8 aqM bv
noncomputable def Fd : KX := nJ UO E9
noncomputable def ET : KK := uz (bH [1, 1, 1, 1, 1, 1, 1, 0, 4, 5]) Fd bY
noncomputable def N9 : KK := dD afO ET
noncomputable def yY : OV := ET (ls [B, D, C, E, G, u, u, u, u, u, u, u, u, u, u, u, u, u, I, M, J, S, W] 197) H
noncomputable def Oh : KK := CQ (bH [1, 1, 1, 1, 1, 1, 1, 0, 4, 5, 1]) N9 Fd bY
noncomputable def X5 : OV := Oh (ls [B, D, C, E, G, u, u, u, u, u, u, u, u, u, u, u, u, u, I, M, J, S, W] 197) H
noncomputable def ag6 : KX := BX 9 N9 Fd
noncomputable def Jv : OV := E9 8 (ls [B, D, C, E, G, u, u, u, u, u, u, u, u, u, u, u, u, u, I, M, J] 199) H
noncomputable def Oi : KK := CQ (bH [1, 0, 1]) C4 bv bY
noncomputable def X6 : OV := Oi (ls [B, D, C, E, G, u, u, u, u, u, u, u, u, u, u, u, u, u, u, u, u, u, u, u, u, u, u, u, u, u, u, u, u, u, u, u, u, u, u, u, u, u, u, u, u, u, u, u, u, u, u, u, u, u, u, u, u, u, u, u, u, u, u, u, u, u, u, u, u, u, u, u, u, u, u, u, u, u, u, u, x80] 139) H
noncomputable def Oj : KK := CQ (bH [1, 0, 1, 2, 1, 1]) C4 bv bY
noncomputable def MQ : OV := Oj (ls [B, u, C, u, G, u, u, u, u, u, u, u, u, u, L, V] 204) H
noncomputable def EU : KK := CQ (bH [1, 0, 1, 2, 1, 1, 1]) C4 bv bY
noncomputable def ag2 : KK := dD UP EU
noncomputable def X7 : OV := EU (ls [B, u, C, u, u, u, u, u, u, u, u, u, u, u, L] 205) H
noncomputable def EW : KK := CQ (bH [1, 0, 1, 2, 1, 1, 1, 1]) C4 bv bY
noncomputable def Oa : KK := dD J4 EW
noncomputable def X8 (H : AH) : OV := EW (ls [] 220) H
noncomputable def Ok : KK := CQ (bH [1, 0, 1, 2, 1, 1, 1, 0, 1]) Oa bv bY
noncomputable def X9 : OV := Ok (ls [B, u, u, u, u, u, u, u, u, u, u, u, u, u, L, u, u, O] 202) H
noncomputable def Fa : KX := BX 6 Oa bv
noncomputable def w7 : KX := nJ J4 Fa
noncomputable def EX : KK := uz (bH [1, 0, 1, 2, 1, 1, 1, 0, 1, 4, 5]) w7 bY
noncomputable def Oc : KK := dD QN EX
noncomputable def Dz : OV := EX (ls [B, u, u, u, u, u, u, u, u, u, u, u, u, u, L, u, u, O] 202) H
noncomputable def Ol : KK := CQ (bH [1, 0, 1, 2, 1, 1, 1, 0, 1, 4, 5, 1]) Oc w7 bY
noncomputable def Ya : OV := Ol (ls [B, u, u, u, u, u, u, u, u, u, u, u, u, u, L, u, u, O] 202) H
noncomputable def EY : KK := CQ (bH [1, 0, 1, 2, 1, 1, 1, 0, 1, 4, 5, 1, 1]) Oc w7 bY
noncomputable def ag3 : KK := dD QN EY
noncomputable def Yb : OV := EY (ls [B, u, u, u, u, u, u, u, u, u, u, u, u, u, L, u, u, O] 202) H
noncomputable def ag7 : KX := BX 7 ag3 w7
noncomputable def Jw (H : AH) : OV := Fa 6 (ls [] 220) H
noncomputable def Fb : KX := BX 4 ag2 bv
noncomputable def Fe : KX := nJ UP Fb
noncomputable def E0 : KK := uz (bH [1, 0, 1, 2, 1, 1, 0, 4, 5]) Fe bY
noncomputable def Od : KK := dD afP E0
noncomputable def yZ : OV := E0 (ls [B, u, C, u, G, u, u, u, u, u, u, u, u, u, L, V] 204) H
noncomputable def Om : KK := CQ (bH [1, 0, 1, 2, 1, 1, 0, 4, 5, 1]) Od Fe bY
noncomputable def Yc : OV := Om (ls [B, u, C, u, G, u, u, u, u, u, u, u, u, u, L, V] 204) H
noncomputable def ag8 : KX := BX 5 Od Fe
noncomputable def Jx : OV := Fb 4 (ls [B, u, C, u, u, u, u, u, u, u, u, u, u, u, L] 205) H
noncomputable def On : KK := CQ (bH [0, 1]) C3 bv bY
noncomputable def Yd : OV := On (ls [B, D, C, E, G, u, u, u, u, u, u, u, u, u, u, u, u, u, u, u, u, u, u, u, u, u, u, u, P] 191) H
noncomputable def Oo : KK := CQ (bH [0, 1, 2, 1, 1]) C3 bv bY
noncomputable def MT : OV := Oo (ls [B, D, u, u, G, u, u, u, u, u, K, U] 208) H
noncomputable def E3 : KK := CQ (bH [0, 1, 2, 1, 1, 1]) C3 bv bY
noncomputable def ag4 : KK := dD UQ E3
noncomputable def Ye : OV := E3 (ls [B, D, u, u, u, u, u, u, u, u, K] 209) H
noncomputable def E5 : KK := CQ (bH [0, 1, 2, 1, 1, 1, 1]) C3 bv bY
noncomputable def Oe : KK := dD J4 E5
noncomputable def Yf (H : AH) : OV := E5 (ls [] 220) H
noncomputable def Oq : KK := CQ (bH [0, 1, 2, 1, 1, 1, 0, 1]) Oe bv bY
noncomputable def Yg : OV := Oq (ls [B, u, u, u, u, u, u, u, u, u, K, u, u, N] 206) H
noncomputable def Fc : KX := BX 2 Oe bv
noncomputable def w8 : KX := nJ J4 Fc
noncomputable def E6 : KK := uz (bH [0, 1, 2, 1, 1, 1, 0, 1, 4, 5]) w8 bY
noncomputable def Of : KK := dD QO E6
noncomputable def DA : OV := E6 (ls [B, u, u, u, u, u, u, u, u, u, K, u, u, N] 206) H
noncomputable def Ot : KK := CQ (bH [0, 1, 2, 1, 1, 1, 0, 1, 4, 5, 1]) Of w8 bY
noncomputable def Yh : OV := Ot (ls [B, u, u, u, u, u, u, u, u, u, K, u, u, N] 206) H
noncomputable def E7 : KK := CQ (bH [0, 1, 2, 1, 1, 1, 0, 1, 4, 5, 1, 1]) Of w8 bY
noncomputable def ag5 : KK := dD QO E7
noncomputable def Yi : OV := E7 (ls [B, u, u, u, u, u, u, u, u, u, K, u, u, N] 206) H
noncomputable def ag9 : KX := BX 3 ag5 w8
noncomputable def Jy (H : AH) : OV := Fc 2 (ls [] 220) H
noncomputable def zF : KX := BX 0 ag4 bv
noncomputable def zG : KX := nJ UQ zF
noncomputable def zE : KK := uz (bH [0, 1, 2, 1, 1, 0, 4, 5]) zG bY
noncomputable def IC : KK := dD afQ zE
noncomputable def tf : OV := zE (ls [B, D, u, u, G, u, u, u, u, u, K, U] 208) H
noncomputable def ID : KK := CQ (bH [0, 1, 2, 1, 1, 0, 4, 5, 1]) IC zG bY
noncomputable def PN : OV := ID (ls [B, D, u, u, G, u, u, u, u, u, K, U] 208) H
noncomputable def Z9 : KX := BX 1 IC zG
noncomputable def GS : OV := zF 0 (ls [B, D, u, u, u, u, u, u, u, u, K] 209) H
theorem br : ap J4 bY := rf
theorem o9 : ap apT KV := rc br aw br
theorem pa : ap apT KW := rc br aw br
theorem Z3 : ap 1684996666696914987166688442938726917102321526408785780068974854112 V8 := rc br aw br
theorem Z4 : ap 1684996666696914987166688442938726917102321526408785780068971708384 V9 := rc br aw br
theorem Z5 : ap afO Wa := rc br aw br
theorem IE : ap UO KY := rc br aw br
theorem Z6 : ap 1684996666696914987166688442938726917102321526408785780068957552608 Wb := rc br aw br
theorem Z7 : ap 1684996666696914987166688442938726917102321526408785780068957552612 Wc := rc br aw br
theorem Z8 : ap 1684996666696914987166688442938726917102321526408785780068958601190 Wd := rc br aw br
theorem qi : ∀ i, ap UO (E9 i) := rb (cd IE) aw
theorem qe : ap afO ET := rl (cx qi) br
theorem RB : ap afO Oh := rc (cd qe) (cx qi) br
theorem RL : ∀ i, ap afO (ag6 i) := rb (cd qe) (cx qi)
theorem RC : ap 1684996666696914987166688442938726917102320317482966165439800934368 Oi := rc (cd pa) aw br
theorem RD : ap afP Oj := rc (cd pa) aw br
theorem EV : ap UP EU := rc (cd pa) aw br
theorem ve : ap J4 EW := rc (cd pa) aw br
theorem RE : ap QN Ok := rc (cd ve) aw br
theorem mU : ∀ i, ap J4 (Fa i) := rb (cd ve) aw
theorem qf : ap QN EX := rl (cx mU) br
theorem RF : ap QN Ol := rc (cd qf) (cx mU) br
theorem EZ : ap QN EY := rc (cd qf) (cx mU) br
theorem RM : ∀ i, ap QN (ag7 i) := rb (cd EZ) (cx mU)
theorem qj : ∀ i, ap UP (Fb i) := rb (cd EV) aw
theorem qg : ap afP E0 := rl (cx qj) br
theorem RG : ap afP Om := rc (cd qg) (cx qj) br
theorem RN : ∀ i, ap afP (ag8 i) := rb (cd qg) (cx qj)
theorem RH : ap 1684996666696914987166688442938726917102321526408785780068707205088 On := rc (cd o9) aw br
theorem RI : ap afQ Oo := rc (cd o9) aw br
theorem E4 : ap UQ E3 := rc (cd o9) aw br
theorem vf : ap J4 E5 := rc (cd o9) aw br
theorem RJ : ap QO Oq := rc (cd vf) aw br
theorem mV : ∀ i, ap J4 (Fc i) := rb (cd vf) aw
theorem qh : ap QO E6 := rl (cx mV) br
theorem RK : ap QO Ot := rc (cd qh) (cx mV) br
theorem E8 : ap QO E7 := rc (cd qh) (cx mV) br
theorem RO : ∀ i, ap QO (ag9 i) := rb (cd E8) (cx mV)
theorem nM : ∀ i, ap UQ (zF i) := rb (cd E4) aw
theorem nL : ap afQ zE := rl (cx nM) br
theorem Og : ap afQ ID := rc (cd nL) (cx nM) br
theorem Ou : ∀ i, ap afQ (Z9 i) := rb (cd nL) (cx nM)
theorem adN : MS B E G I Q H =
 (ai .other .lss I Q).bind fun a =>
 (gV a true Q).bind fun b =>
 (gV a true E).bind fun c =>
 (gB a true (ai .other .lss b c)).bind fun d =>
 (aL a d (vb false)).bind fun e =>
 av e
 ((FF I3 [B, I, Q, E, G] H).bind fun f =>
 some (Value.tuple #[], f.2))
 (some (Value.tuple #[], H)) :=
 (by kernel_rfl)
theorem adM : MR B D E G I J Q H =
 (ai .other .lss D J).bind fun a =>
 (gV a true J).bind fun b =>
 (gV a true I).bind fun c =>
 (gB a true (ai .other .lss b c)).bind fun d =>
 (aL a d (vb false)).bind fun e =>
 av e
 ((FF I3 [B, D, J, I, G] H).bind fun f =>
 MS B E G I Q f.2)
 (MS B E G I Q H) :=
 (pt rfl 0 Z8 (by kernel_rfl))
theorem adL : anL B D C E G I J Q H =
 (ai .other .lss J C).bind fun a =>
 (gV a true C).bind fun b =>
 (gV a true Q).bind fun c =>
 (gB a true (ai .other .lss b c)).bind fun d =>
 (aL a d (vb false)).bind fun e =>
 av e
 ((FF alR [B, J, C, Q, G] H).bind fun f =>
 MR B D E G I J Q f.2)
 (MR B D E G I J Q H) :=
 (pt rfl 0 Z7 (by kernel_rfl))
theorem adK : TT B D C E G I M J H =
 (ai .other .sub M J).bind fun a =>
 anL B D C E G I J a H :=
 (pt rfl 0 Z6 (by kernel_rfl))
theorem TS : X5 B D C E G I M J S W H =
 (ai .other .add J S).bind fun d =>
 (cf (some .u64) d).bind fun e =>
 (ai .other .shr e (vw 1)).bind fun f =>
 (cf (some .i64) f).bind fun a =>
 (ai .other .sub W a).bind fun g =>
 ldN 7 [.i 7 g] B H fun j =>
 ldN 7 [.i 7 a] B H fun k =>
 (ce G [j, k]).bind fun c => (FF c.1 c.2 H).bind fun b =>
 (ai .other .lss b.1 (vi 0)).bind fun l =>
 (ot .not l).bind fun m =>
 av m
 ((ai .other .add a (vi 1)).bind fun n =>
 yY B D C E G I M n S W b.2)
 (yY B D C E G I M J a W b.2) :=
 (bt rfl (bH [1, 1, 1, 1, 1, 1, 1, 0, 4, 5, 1, 4]) 9 RL (by kernel_rfl))
theorem MM : Jv B D C E G I M J H = TT B D C E G I M J H :=
 (by kernel_rfl)
theorem TO : yY B D C E G I M J S W H =
 (ai .other .lss J S).bind fun a =>
 av a
 (X5 B D C E G I M J S W H)
 (Jv B D C E G I M J H) :=
 uW rfl qe (pt rfl 0 RB (by kernel_rfl))
theorem JA : anK B D C E G I M J S W H =
 yY B D C E G I M J S W H :=
 (pt rfl 0 IE (bt rfl (bH [1, 1, 1, 1, 1, 1, 1, 0, 4]) 8 qi (li rfl (bH [1, 1, 1, 1, 1, 1, 1, 0, 4, 5]) qe (by kernel_rfl))))
theorem Jz : TQ B D C E G I M J S H =
 (ai .other .sub M (vi 1)).bind fun a =>
 anK B D C E G I M J S a H :=
 (pt rfl 0 Z5 (by kernel_rfl))
theorem adJ : anJ B D C E G I M H =
 (ai .other .gtr C I).bind fun a =>
 av a
 ((ai .other .sub M E).bind fun b =>
 TQ B D C E G I M b I H)
 (TQ B D C E G I M D C H) :=
 (pt rfl 0 Z4 (by kernel_rfl))
theorem adI : anI B D C E G H =
 (ai .other .add D E).bind fun b =>
 (cf (some .u64) b).bind fun c =>
 (ai .other .shr c (vw 1)).bind fun d =>
 (cf (some .i64) d).bind fun a =>
 (ai .other .add a C).bind fun e =>
 anJ B D C E G a e H :=
 (pt rfl 2 Z3 (by kernel_rfl))
theorem TW (H : AH) : X8 H =
 some (Value.tuple #[], H) :=
 (by kernel_rfl)
theorem TZ : Yb B L O H =
 (ai .other .sub O (vi 1)).bind fun a =>
 Dz B L a H :=
 (by kernel_rfl)
theorem TY : Ya B L O H =
 (ai .other .sub O (vi 1)).bind fun a =>
 (ai .other .sub O (vi 1)).bind fun b =>
 ldN 7 [.i 7 b] B H fun c =>
 ldN 7 [.i 7 O] B H fun d =>
 st 7 [.i 7 O] B c H fun e =>
 st 7 [.i 7 a] B d e fun f =>
 Yb B L O f :=
 (pt rfl 0 EZ (bt rfl (bH [1, 0, 1, 2, 1, 1, 1, 0, 1, 4, 5, 1, 0, 4]) 7 RM (by kernel_rfl)))
theorem MN (H : AH) : Jw H = X8 H :=
 (by kernel_rfl)
theorem GU : Dz B L O H =
 (ai .other .gtr O L).bind fun a =>
 av a
 (Ya B L O H)
 (Jw H) :=
 uW rfl qf (pt rfl 0 RF (by kernel_rfl))
theorem TX : X9 B L O H =
 Dz B L O H :=
 (bt rfl (bH [1, 0, 1, 2, 1, 1, 1, 0, 1, 4]) 6 mU (li rfl (bH [1, 0, 1, 2, 1, 1, 1, 0, 1, 4, 5]) qf (by kernel_rfl)))
theorem TV : X7 B C L H =
 X9 B L C H :=
 (pt rfl 0 ve (pt rfl 0 RE (by kernel_rfl)))
theorem T3 : Yc B C G L V H =
 (ai .other .add L V).bind fun d =>
 (cf (some .u64) d).bind fun e =>
 (ai .other .shr e (vw 1)).bind fun f =>
 (cf (some .i64) f).bind fun a =>
 ldN 7 [.i 7 C] B H fun g =>
 ldN 7 [.i 7 a] B H fun j =>
 (ce G [g, j]).bind fun c => (FF c.1 c.2 H).bind fun b =>
 (ai .other .lss b.1 (vi 0)).bind fun k =>
 (ot .not k).bind fun l =>
 av l
 ((ai .other .add a (vi 1)).bind fun m =>
 yZ B C G m V b.2)
 (yZ B C G L a b.2) :=
 (bt rfl (bH [1, 0, 1, 2, 1, 1, 0, 4, 5, 1, 4]) 5 RN (by kernel_rfl))
theorem MO : Jx B C L H = X7 B C L H :=
 (by kernel_rfl)
theorem T0 : yZ B C G L V H =
 (ai .other .lss L V).bind fun a =>
 av a
 (Yc B C G L V H)
 (Jx B C L H) :=
 uW rfl qg (pt rfl 0 RG (by kernel_rfl))
theorem TU : MQ B C G L V H =
 yZ B C G L V H :=
 (pt rfl 0 EV (bt rfl (bH [1, 0, 1, 2, 1, 1, 0, 4]) 4 qj (li rfl (bH [1, 0, 1, 2, 1, 1, 0, 4, 5]) qg (by kernel_rfl))))
theorem GT : X6 B D C E G x80 H =
 av x80
 (MQ B C G D C H)
 (anI B D C E G H) :=
 (ct rfl (bH [1, 0, 1, 2]) (bH [1, 0, 1, 3]) (.tmp 80) (pt rfl 1 RD (by kernel_rfl)) (by kernel_rfl))
theorem adH : anH B D C E G H =
 (ai .other .sub E C).bind fun a =>
 (ai .other .eql a (vi 1)).bind fun b =>
 X6 B D C E G b H :=
 (pt rfl 0 pa (pt rfl 0 RC (by kernel_rfl)))
theorem T6 (H : AH) : Yf H =
 some (Value.tuple #[], H) :=
 (by kernel_rfl)
theorem T9 : Yi B K N H =
 (ai .other .add N (vi 1)).bind fun a =>
 DA B K a H :=
 (by kernel_rfl)
theorem T8 : Yh B K N H =
 (ai .other .add N (vi 1)).bind fun a =>
 (ai .other .add N (vi 1)).bind fun b =>
 ldN 7 [.i 7 b] B H fun c =>
 ldN 7 [.i 7 N] B H fun d =>
 st 7 [.i 7 N] B c H fun e =>
 st 7 [.i 7 a] B d e fun f =>
 Yi B K N f :=
 (pt rfl 0 E8 (bt rfl (bH [0, 1, 2, 1, 1, 1, 0, 1, 4, 5, 1, 0, 4]) 3 RO (by kernel_rfl)))
theorem MP (H : AH) : Jy H = Yf H :=
 (by kernel_rfl)
theorem GW : DA B K N H =
 (ai .other .sub K (vi 1)).bind fun a =>
 (ai .other .lss N a).bind fun b =>
 av b
 (Yh B K N H)
 (Jy H) :=
 uW rfl qh (pt rfl 0 RK (by kernel_rfl))
theorem T7 : Yg B K N H =
 DA B K N H :=
 (bt rfl (bH [0, 1, 2, 1, 1, 1, 0, 1, 4]) 2 mV (li rfl (bH [0, 1, 2, 1, 1, 1, 0, 1, 4, 5]) qh (by kernel_rfl)))
theorem T5 : Ye B D K H =
 Yg B K D H :=
 (pt rfl 0 vf (pt rfl 0 RJ (by kernel_rfl)))
theorem PO : PN B D G K U H =
 (ai .other .add K U).bind fun d =>
 (cf (some .u64) d).bind fun e =>
 (ai .other .shr e (vw 1)).bind fun f =>
 (cf (some .i64) f).bind fun a =>
 ldN 7 [.i 7 a] B H fun g =>
 ldN 7 [.i 7 D] B H fun j =>
 (ce G [g, j]).bind fun c => (FF c.1 c.2 H).bind fun b =>
 (ai .other .lss b.1 (vi 0)).bind fun k =>
 av k
 ((ai .other .add a (vi 1)).bind fun l =>
 tf B D G l U b.2)
 (tf B D G K a b.2) :=
 (bt rfl (bH [0, 1, 2, 1, 1, 0, 4, 5, 1, 4]) 1 Ou (by kernel_rfl))
theorem HY : GS B D K H = Ye B D K H :=
 (by kernel_rfl)
theorem PM : tf B D G K U H =
 (ai .other .lss K U).bind fun a =>
 av a
 (PN B D G K U H)
 (GS B D K H) :=
 uW rfl nL (pt rfl 0 Og (by kernel_rfl))
theorem T4 : MT B D G K U H =
 tf B D G K U H :=
 (pt rfl 0 E4 (bt rfl (bH [0, 1, 2, 1, 1, 0, 4]) 0 nM (li rfl (bH [0, 1, 2, 1, 1, 0, 4, 5]) nL (by kernel_rfl))))
theorem GV : Yd B D C E G P H =
 av P
 (MT B D G C E H)
 (anH B D C E G H) :=
 (ct rfl (bH [0, 1, 2]) (bH [0, 1, 3]) (.tmp 28) (pt rfl 1 RI (by kernel_rfl)) (by kernel_rfl))
noncomputable def sMg : OV := ba PP GG FF (bH []) (ls [B, D, C, E, G] 215) H bY bv bY
theorem avQ {r : Value × AH} (h : (
 (ai .other .sub C D).bind fun a =>
 (ai .other .eql a (vi 1)).bind fun b =>
 Yd B D C E G b H) = some r) : FF I3 [B, D, C, E, G] H = some r :=
 fo (t := sMg B D C E G H) Tryz.func159 (by kernel_rfl) (Eq.trans (pt rfl 0 o9 (pt rfl 0 RH (by kernel_rfl))) h)
theorem BN {r : Value × AH} (h : (
 (ai .other .neq B B).bind fun a =>
 some (a, H)) = some r) : FF jE [B] H = some r :=
 fo Tryz.func160 (by kernel_rfl) h
noncomputable def iz (p : List Nat) : Code := Code.sub (bK Tryz.f161) p
noncomputable def i6 : KK := dK PP (Tryz.f161).results.toList
noncomputable def Wo : KK := CQ (iz [1, 1, 1]) i6 bv i6
noncomputable def BF : OV := Wo (ls [B, u, C, E] 38) H
noncomputable def K8 : KK := CQ (iz [1, 1, 1, 1]) i6 bv i6
noncomputable def aqN : KK := dD AT K8
noncomputable def tm : OV := K8 (ls [u, u, C, E] 38) H
noncomputable def K9 : KK := CQ (iz [1, 1, 1, 1, 1]) i6 bv i6
noncomputable def Wm : KK := dD AT K9
noncomputable def BG : OV := K9 (ls [u, u, C, E] 38) H
noncomputable def Wp : KK := CQ (iz [1, 1, 1, 1, 0, 1]) Wm bv i6
noncomputable def BH : OV := Wp (ls [u, u, C, E, u, u, u, u, u, u, u, u, u, u, u, u, u, u, u, u, u, u, u, u, u, u, u, u, P, T] 12) H
noncomputable def Lc : KX := BX 2 Wm bv
noncomputable def C7 : KX := nJ AT Lc
noncomputable def La : KK := uz (iz [1, 1, 1, 1, 0, 1, 4, 5]) C7 i6
noncomputable def Wn : KK := dD D4 La
noncomputable def oD : OV := La (ls [u, u, C, E, u, u, u, u, u, u, u, u, u, u, u, u, u, u, u, u, u, u, u, u, u, u, u, u, P, T] 12) H
noncomputable def Wq : KK := CQ (iz [1, 1, 1, 1, 0, 1, 4, 5, 1, 1]) Wn C7 i6
noncomputable def BI : OV := Wq (ls [u, u, C, E, u, u, u, u, u, u, u, u, u, u, u, u, u, u, u, u, u, u, u, u, u, u, u, u, P, T] 12) H
noncomputable def Lb : KK := CQ (iz [1, 1, 1, 1, 0, 1, 4, 5, 1, 1, 1]) Wn C7 i6
noncomputable def aqO : KK := dD D4 Lb
noncomputable def BJ : OV := Lb (ls [u, u, C, E, u, u, u, u, u, u, u, u, u, u, u, u, u, u, u, u, u, u, u, u, u, u, u, u, P, T] 12) H
noncomputable def aqP : KX := BX 3 aqO C7
noncomputable def u6 : OV := Lc 2 (ls [u, u, C, E] 38) H
noncomputable def Fi : KX := BX 0 aqN bv
noncomputable def Fj : KX := nJ AT Fi
noncomputable def Fh : KK := uz (iz [1, 1, 1, 0, 4, 5]) Fj i6
noncomputable def Ow : KK := dD Nz Fh
noncomputable def mo : OV := Fh (ls [B, u, C, E] 38) H
noncomputable def Ox : KK := CQ (iz [1, 1, 1, 0, 4, 5, 1]) Ow Fj i6
noncomputable def zd : OV := Ox (ls [B, u, C, E] 38) H
noncomputable def ahK : KX := BX 1 Ow Fj
noncomputable def tl : OV := Fi 0 (ls [u, u, C, E] 38) H
theorem gk : ap 4398046511099 i6 := rf
theorem aaG : ap Nz Wo := rc gk aw gk
theorem IF : ap AT K8 := rc gk aw gk
theorem zH : ap AT K9 := rc gk aw gk
theorem aaH : ap D4 Wp := rc (cd zH) aw gk
theorem pe : ∀ i, ap AT (Lc i) := rb (cd zH) aw
theorem tP : ap D4 La := rl (cx pe) gk
theorem aaI : ap D4 Wq := rc (cd tP) (cx pe) gk
theorem IG : ap D4 Lb := rc (cd tP) (cx pe) gk
theorem aaJ : ∀ i, ap D4 (aqP i) := rb (cd IG) (cx pe)
theorem ql : ∀ i, ap AT (Fi i) := rb (cd IF) aw
theorem qk : ap Nz Fh := rl (cx ql) gk
theorem RU : ap Nz Ox := rc (cd qk) (cx ql) gk
theorem RV : ∀ i, ap Nz (ahK i) := rb (cd qk) (cx ql)
theorem Hg : BG C E H =
 some (E, H) :=
 (by kernel_rfl)
theorem Hj : BJ C E P T H =
 (ai .other .add T (vi 1)).bind fun a =>
 oD C E P a H :=
 (by kernel_rfl)
theorem Hi : BI C E P T H =
 ld [.n, .f 2] E H fun b =>
 z5 1 1 [(vi 0)] [(0, (vi (-1)))] H fun c d =>
 (eJ 1 8 b c d).bind fun a =>
 st 1 [.n, .f 2] E a.1 a.2 fun e =>
 BJ C E P T e :=
 (pt rfl 0 IG (bt rfl (iz [1, 1, 1, 1, 0, 1, 4, 5, 1, 1, 0, 4]) 3 aaJ (by kernel_rfl)))
theorem AK : u6 C E H = BG C E H :=
 (by kernel_rfl)
theorem tn : oD C E P T H =
 (ai .other .lss T P).bind fun a =>
 av a
 (BI C E P T H)
 (u6 C E H) :=
 uW rfl tP (pt rfl 1 aaI (by kernel_rfl))
theorem Hh : BH C E P T H =
 oD C E P T H :=
 (bt rfl (iz [1, 1, 1, 1, 0, 1, 4]) 2 pe (li rfl (iz [1, 1, 1, 1, 0, 1, 4, 5]) tP (by kernel_rfl)))
theorem Hf : tm C E H =
 ld [.n, .f 1] E H fun a =>
 (ai .other .mul (vi 2) a).bind fun b =>
 BH C E b (vi 0) H :=
 (pt rfl 0 zH (pt rfl 0 aaH (by kernel_rfl)))
theorem CR : zd B C E H =
 ld [.n, .f 1] E H fun a =>
 (ai .other .mul a (vi 2)).bind fun b =>
 st 1 [.n, .f 1] E b H fun c =>
 mo B C E c :=
 (bt rfl (iz [1, 1, 1, 0, 4, 5, 1, 4]) 1 RV (by kernel_rfl))
theorem oC : tl C E H = tm C E H :=
 (by kernel_rfl)
theorem rq : mo B C E H =
 ld [.n, .f 1] E H fun a =>
 (ai .other .lss a B).bind fun b =>
 av b
 (zd B C E H)
 (tl C E H) :=
 uW rfl qk (pt rfl 0 RU (by kernel_rfl))
theorem He : BF B C E H =
 mo B C E H :=
 (pt rfl 0 IF (bt rfl (iz [1, 1, 1, 0, 4]) 0 ql (li rfl (iz [1, 1, 1, 0, 4, 5]) qk (by kernel_rfl))))
noncomputable def aoK : OV := ba PP GG FF (iz []) (ls [B] 41) H i6 bv i6
theorem Qd {r : Value × AH} (h : (
 (iQ [B, (vi 1)]).bind fun c =>
 (j3 [c, (vi 16)]).bind fun a =>
 (nl [(vw 0), (vi 0), (vb false)] 3 24 a a H).bind fun b =>
 hJ [(0, 1), (1, 1), (2, 1)] [(.slice none 0 0), (vi 0), (.slice none 0 0)] [(0, b.1), (1, (vi 1))] fun d =>
 aQ (Value.cells d).toList b.2 fun e f =>
 BF a (.pointer none) e f) = some r) : FF vK [B] H = some r :=
 fo (t := aoK B H) Tryz.func161 (by kernel_rfl) (Eq.trans (pt rfl 2 aaG (by kernel_rfl)) h)
theorem M3 {r : Value × AH} (h : (
 (FF sP [B] H).bind fun a =>
 (FF vE [] a.2).bind fun b =>
 hJ [(0, 1), (1, 1), (2, 1)] [(.pointer none), (.pointer none), (vi 0)] [(0, a.1), (1, b.1), (2, B)] fun c =>
 aQ (Value.cells c).toList b.2 fun d e =>
 some (d, e)) = some r) : FF sN [B] H = some r :=
 fo Tryz.func162 (by kernel_rfl) h
theorem Ml {r : Value × AH} (h : (
 (iQ [B, (vi 0)]).bind fun a =>
 (j3 [a, (vi 40)]).bind fun b =>
 some (b, H)) = some r) : FF sM [B] H = some r :=
 fo Tryz.func171 (by kernel_rfl) h
theorem Ih {r : Value × AH} (h : (
 (FF jO [B] H).bind fun a =>
 (ot .not a.1).bind fun b =>
 av b
 (some ((vi (-1)), a.2))
 ((ai .other .shr B (vw 61)).bind fun c =>
 (cf (some .i64) c).bind fun d =>
 some (d, a.2))) = some r) : FF dX [B] H = some r :=
 fo Tryz.func172 (by kernel_rfl) h
theorem Nc {r : Value × AH} (h : (
 (ai .other .gtr B (vw 2305843009213693951)).bind fun a =>
 (gV a false D).bind fun c =>
 (gB a false (ai .other .lss c (vi 0))).bind fun d =>
 (aL a (vb true) d).bind fun b =>
 (gV b false D).bind fun e =>
 (gB b false (ai .other .geq e (vi 3))).bind fun f =>
 (aL b (vb true) f).bind fun g =>
 av g
 (some (Value.tuple #[(vw 0), (vb false)], H))
 ((cf (some .u64) D).bind fun i =>
 (ai .other .shl i (vw 61)).bind fun j =>
 (ai .other .or j B).bind fun k =>
 some (Value.tuple #[k, (vb true)], H))) = some r) : FF lr [B, D] H = some r :=
 fo Tryz.func173 (by kernel_rfl) h
theorem If {r : Value × AH} (h : (
 (FF jO [B] H).bind fun a =>
 (ot .not a.1).bind fun b =>
 av b
 (some ((vw 0), a.2))
 ((ai .other .and B (vw 2305843009213693951)).bind fun c =>
 some (c, a.2))) = some r) : FF dt [B] H = some r :=
 fo Tryz.func174 (by kernel_rfl) h
theorem Pw {r : Value × AH} (h : (
 (ai .other .gtr B (vw 2305843009213693951)).bind fun a =>
 (gV a false D).bind fun c =>
 (gB a false (ai .other .lss c (vi 0))).bind fun d =>
 (aL a (vb true) d).bind fun b =>
 (gV b false D).bind fun e =>
 (gB b false (ai .other .gtr e (vi 2))).bind fun f =>
 (aL b (vb true) f).bind fun g =>
 av g
 (some (Value.tuple #[(vw 0), (vb false)], H))
 ((cf (some .u64) D).bind fun i =>
 (ai .other .mul i (vw 2305843009213693952)).bind fun j =>
 (ai .other .add j B).bind fun k =>
 some (Value.tuple #[k, (vb true)], H))) = some r) : FF nb [B, D] H = some r :=
 fo Tryz.func175 (by kernel_rfl) h
theorem Q7 {r : Value × AH} (h : (
 ld [.n, .f 0] B H fun a =>
 ld [.n, .f 1] B H fun b =>
 hJ [(0, 1), (1, 1), (2, 1), (3, 1)] [(vi 0), (.slice none 0 0), (vi 0), (vw 0)] [(0, C)] fun c =>
 (FF gc [a, D, b, c] H).bind fun d =>
 some (Value.tuple #[], d.2)) = some r) : FF mz [B, D, C] H = some r :=
 fo Tryz.func176 (by kernel_rfl) h
theorem Q2 {r : Value × AH} (h : (
 aQ [(vi 0), (.slice none 0 0), (vi 0), (vw 0)] H fun a c =>
 hJ [(0, 1), (1, 1), (2, 1), (3, 1)] [(vi 0), (.slice none 0 0), (vi 0), (vw 0)] [(0, D)] fun d =>
 (cJ 4 a d c).bind fun b =>
 (ax 4 a b).bind fun e => some (Value.tuple #[e, (vb true)], b)) = some r) : FF mv [B, D] H = some r :=
 fo Tryz.func177 (by kernel_rfl) h
noncomputable def R0 (p : List Nat) : Code := Code.sub (bK Tryz.f178) p
noncomputable def vg : KK := dK PP (Tryz.f178).results.toList
noncomputable def Wr : KK := CQ (R0 [1, 1, 1]) vg bv vg
noncomputable def Ir : OV := Wr (ls [B, u, C, E, G, Z] 65) H
noncomputable def Ws : KK := CQ (R0 [1, 1, 1, 1]) vg bv vg
noncomputable def tG : OV := Ws (ls [B, u, C] 68) H
theorem xe : ap 2361183241434822606843 vg := rf
theorem aaK : ap 2361183241434822606786 Wr := rc xe aw xe
theorem aaL : ap 2361183241434822606842 Ws := rc xe aw xe
theorem Kb : tG B C H =
 ad [.n, .f 8] B fun a =>
 (ar a H).bind fun c =>
 ld [.n, .f 0] B H fun d =>
 ld [.n, .f 2] d H fun e =>
 (FF dR [e] H).bind fun b =>
 bX (ar a b.2) (ar a H) <|
 (ai .other .geq c b.1).bind fun g =>
 some (g, b.2) :=
 (by kernel_rfl)
theorem wQ : Ir B C E G Z H =
 (gV Z true E).bind fun b =>
 (gV Z true B).bind fun c =>
 f0 Z true  [.n, .f 2, .f 1] c H fun d =>
 (gB Z true (ai .other .eql b d)).bind fun e =>
 (aL Z e (vb false)).bind fun g =>
 st 1 [.n, .f 10] B g H fun a =>
 ld [.n, .f 10] B a fun i =>
 av i
 (st 1 [.n, .f 9] B G a fun j =>
 tG B C j)
 (tG B C a) :=
 (pt rfl 0 aaL (by kernel_rfl))
noncomputable def auJ : OV := ba PP GG FF (R0 []) (ls [B] 70) H vg bv vg
theorem Y8 {r : Value × AH} (h : (
 ld [.n, .f 0] B H fun b =>
 ld [.n, .f 2] b H fun c =>
 ld [.n, .f 1] B H fun d =>
 ld [.n, .f 6] B H fun e =>
 ld [.n, .f 8] B H fun g =>
 (FF gf [c, d, e, g] H).bind fun a =>
 (ag a.1 0).bind fun i =>
 (ag a.1 1).bind fun j =>
 (ag a.1 2).bind fun k =>
 ld [.n, .f 8] B a.2 fun l =>
 (ai .other .add l (vi 1)).bind fun m =>
 st 1 [.n, .f 8] B m a.2 fun o =>
 Ir B (vb false) i j k o) = some r) : FF ya [B] H = some r :=
 fo (t := auJ B H) Tryz.func178 (by kernel_rfl) (Eq.trans (pt rfl 2 aaK (by kernel_rfl)) h)
theorem agB {r : Value × AH} (h : (
 aQ [(vi 0), (.slice none 0 0), (vi 0), (vw 0)] H fun a c =>
 st 1 [.n, .f 7] B D c fun d =>
 hJ [(0, 1), (1, 1), (2, 1), (3, 1)] [(vi 0), (.slice none 0 0), (vi 0), (vw 0)] [] fun e =>
 (cJ 4 a e d).bind fun b =>
 (ax 4 a b).bind fun g => some (Value.tuple #[g, (vb false)], b)) = some r) : FF bN [B, D] H = some r :=
 fo Tryz.func179 (by kernel_rfl) h
theorem Q6 {r : Value × AH} (h : (
 aQ [(vi 0), (.slice none 0 0), (vi 0), (vw 0)] H fun d a =>
 ld [.n, .f 0] B a fun i =>
 ld [.n, .f 1] B a fun j =>
 ld [.n, .f 9] B a fun k =>
 (FF jJ [i, j, k] a).bind fun b =>
 ld [.n, .f 0] B b.2 fun l =>
 ld [.n, .f 9] B b.2 fun m =>
 (FF ef [l, m] b.2).bind fun e =>
 st 1 [.n, .f 11] B e.1 e.2 fun o =>
 (FF bN [B, (.func (.func cq) #[B] #[])] o).bind fun c =>
 (ag c.1 0).bind fun p =>
 (ag c.1 1).bind fun q =>
 (cJ 4 d p c.2).bind fun g =>
 (ax 4 d g).bind fun s => some (Value.tuple #[s, q], g)) = some r) : FF hZ [B, D] H = some r :=
 fo Tryz.func180 (by kernel_rfl) h
theorem Q5 {r : Value × AH} (h : (
 aQ [(vi 0), (.slice none 0 0), (vi 0), (vw 0)] H fun b a =>
 ld [.n, .f 0] B a fun j =>
 ld [.n, .f 2] j a fun k =>
 ld [.n, .f 1] B a fun l =>
 ld [.n, .f 6] B a fun m =>
 (FF eu [k, l, m] a).bind fun c =>
 (ot .not c.1).bind fun o =>
 av o
 ((FF bN [B, (.func (.func dm) #[B] #[])] c.2).bind fun d =>
 (ag d.1 0).bind fun p =>
 (ag d.1 1).bind fun q =>
 (cJ 4 b p d.2).bind fun g =>
 (ax 4 b g).bind fun s => some (Value.tuple #[s, q], g))
 (st 1 [.n, .f 8] B (vi 0) c.2 fun t =>
 (FF bN [B, (.func (.func fc) #[B] #[])] t).bind fun e =>
 (ag e.1 0).bind fun w =>
 (ag e.1 1).bind fun y =>
 (cJ 4 b w e.2).bind fun i =>
 (ax 4 b i).bind fun z => some (Value.tuple #[z, y], i))) = some r) : FF dm [B, D] H = some r :=
 fo Tryz.func181 (by kernel_rfl) h
theorem CM {r : Value × AH} (h : (
 st 1 [.n, .f 16] B C H fun a =>
 ld [.n, .f 0] B a fun b =>
 ld [.n, .f 1] B a fun c =>
 hJ [(0, 1), (1, 1), (2, 1), (3, 1)] [(vi 0), (.slice none 0 0), (vi 0), (vw 0)] [(0, C)] fun d =>
 (FF gc [b, D, c, d] a).bind fun e =>
 some (Value.tuple #[], e.2)) = some r) : FF cX [B, D, C] H = some r :=
 fo Tryz.func182 (by kernel_rfl) h
theorem HW {r : Value × AH} (h : (
 aQ [(vi 0), (.slice none 0 0), (vi 0), (vw 0)] H fun a c =>
 st 1 [.n, .f 7] B D c fun d =>
 hJ [(0, 1), (1, 1), (2, 1), (3, 1)] [(vi 0), (.slice none 0 0), (vi 0), (vw 0)] [] fun e =>
 (cJ 4 a e d).bind fun b =>
 (ax 4 a b).bind fun g => some (Value.tuple #[g, (vb false)], b)) = some r) : FF bf [B, D] H = some r :=
 fo Tryz.func183 (by kernel_rfl) h
noncomputable def Ln (p : List Nat) : Code := Code.sub (bK Tryz.f184) p
noncomputable def vh : KK := dK PP (Tryz.f184).results.toList
noncomputable def WA : KK := CQ (Ln [1, 1]) vh bv vh
noncomputable def rm : OV := WA (ls [B, D, u, u, G, Z, X, x7] 42) H
noncomputable def Lo : KK := CQ (Ln [1, 1, 1]) vh bv vh
noncomputable def aqS : KK := dD 1125899906842574 Lo
noncomputable def rn : OV := Lo (ls [B, u, u, u, G, Z] 44) H
noncomputable def aqT : KX := BX 0 aqS bv
theorem xh : ap 1125899906842575 vh := rf
theorem aaQ : ap 1125899906842380 WA := rc xh aw xh
theorem II : ap 1125899906842574 Lo := rc xh aw xh
theorem aaR : ∀ i, ap 1125899906842574 (aqT i) := rb (cd II) aw
theorem wl : rn B G Z H =
 (FF bf [B, (.func (.func cm) #[B] #[])] H).bind fun a =>
 (ag a.1 0).bind fun c =>
 (ag a.1 1).bind fun d =>
 (cJ 4 G c a.2).bind fun b =>
 (ax 4 G b).bind fun e => some (Value.tuple #[e, d], b) :=
 (by kernel_rfl)
theorem wj : rm B D G Z X x7 H =
 av X
 (ld [.n, .f 0] B H fun g =>
 ld [.n, .f 11] B H fun i =>
 (FF ef [g, i] H).bind fun c =>
 st 1 [.n, .f 12] B c.1 c.2 fun j =>
 (FF bf [B, (.func (.func bq) #[B] #[])] j).bind fun a =>
 (ag a.1 0).bind fun k =>
 (ag a.1 1).bind fun l =>
 (cJ 4 G k a.2).bind fun d =>
 (ax 4 G d).bind fun m => some (Value.tuple #[m, l], d))
 (av x7
 ((FF cX [B, D, (vi 5)] H).bind fun o =>
 (FF bf [B, (.func (.func aO) #[B] #[])] o.2).bind fun b =>
 (ag b.1 0).bind fun p =>
 (ag b.1 1).bind fun q =>
 (cJ 4 G p b.2).bind fun e =>
 (ax 4 G e).bind fun s => some (Value.tuple #[s, q], e))
 (rn B G Z H)) :=
 (pt rfl 0 II (bt rfl (Ln [1, 1, 0, 4]) 0 aaR (by kernel_rfl)))
noncomputable def MF : OV := ba PP GG FF (Ln []) (ls [B, D] 48) H vh bv vh
theorem CG {r : Value × AH} (h : (
 aQ [(vi 0), (.slice none 0 0), (vi 0), (vw 0)] H fun b c =>
 (FF kR [B] c).bind fun a =>
 (ag a.1 0).bind fun d =>
 (ag a.1 1).bind fun e =>
 rm B D b (vb false) d e a.2) = some r) : FF cm [B, D] H = some r :=
 fo (t := MF B D H) Tryz.func184 (by kernel_rfl) (Eq.trans (pt rfl 1 aaQ (by kernel_rfl)) h)
end
section
variable (D E J K G L N O I M : Value) (H : AH)
noncomputable def Lp (p : List Nat) : Code := Code.sub (bK Tryz.f185) p
noncomputable def vj : KK := dK PP (Tryz.f185).results.toList
noncomputable def WB : KK := CQ (Lp [1, 1]) vj bv vj
noncomputable def oz : OV := WB (ls [D, E, u, u, G, L, N, O] 48) H
noncomputable def Lq : KK := CQ (Lp [1, 1, 1]) vj bv vj
noncomputable def aqU : KK := dD 72057594037927886 Lq
noncomputable def oA : OV := Lq (ls [D, u, u, u, G, L] 50) H
noncomputable def aqV : KX := BX 0 aqU bv
theorem xi : ap Nx vj := rf
theorem aaS : ap 72057594037927692 WB := rc xi aw xi
theorem IJ : ap 72057594037927886 Lq := rc xi aw xi
theorem aaT : ∀ i, ap 72057594037927886 (aqV i) := rb (cd IJ) aw
theorem td : oA D G L H =
 (FF bf [D, (.func (.func bV) #[D] #[])] H).bind fun a =>
 (ag a.1 0).bind fun c =>
 (ag a.1 1).bind fun d =>
 (cJ 4 G c a.2).bind fun b =>
 (ax 4 G b).bind fun e => some (Value.tuple #[e, d], b) :=
 (by kernel_rfl)
theorem tc : oz D E G L N O H =
 av N
 ((FF cX [D, E, (vi 6)] H).bind fun i =>
 (FF bf [D, (.func (.func aO) #[D] #[])] i.2).bind fun a =>
 (ag a.1 0).bind fun j =>
 (ag a.1 1).bind fun k =>
 (cJ 4 G j a.2).bind fun d =>
 (ax 4 G d).bind fun l => some (Value.tuple #[l, k], d))
 ((gV O true D).bind fun m =>
 f0 O true  [.n, .f 9] m H fun o =>
 (gB O true (ai .other .lss o (vi 0))).bind fun p =>
 (aL O p (vb false)).bind fun q =>
 av q
 ((FF cX [D, E, (vi 7)] H).bind fun s =>
 (FF bf [D, (.func (.func aO) #[D] #[])] s.2).bind fun b =>
 (ag b.1 0).bind fun t =>
 (ag b.1 1).bind fun w =>
 (cJ 4 G t b.2).bind fun e =>
 (ax 4 G e).bind fun y => some (Value.tuple #[y, w], e))
 (av O
 ((FF bf [D, (.func (.func dy) #[D] #[])] H).bind fun c =>
 (ag c.1 0).bind fun z =>
 (ag c.1 1).bind fun A =>
 (cJ 4 G z c.2).bind fun g =>
 (ax 4 G g).bind fun B => some (Value.tuple #[B, A], g))
 (oA D G L H))) :=
 (pt rfl 0 IJ (bt rfl (Lp [1, 1, 0, 4]) 0 aaT (by kernel_rfl)))
noncomputable def GM : OV := ba PP GG FF (Lp []) (ls [D, E] 54) H vj bv vj
theorem yN {r : Value × AH} (h : (
 aQ [(vi 0), (.slice none 0 0), (vi 0), (vw 0)] H fun b c =>
 (FF kR [D] c).bind fun a =>
 (ag a.1 0).bind fun d =>
 (ag a.1 1).bind fun e =>
 oz D E b (vb false) d e a.2) = some r) : FF bV [D, E] H = some r :=
 fo (t := GM D E H) Tryz.func185 (by kernel_rfl) (Eq.trans (pt rfl 1 aaS (by kernel_rfl)) h)
noncomputable def oL (p : List Nat) : Code := Code.sub (bK Tryz.f186) p
noncomputable def mW : KK := dK PP (Tryz.f186).results.toList
noncomputable def WE : KK := CQ (oL [1]) mW bv mW
noncomputable def q8 : OV := WE (ls [D, E, u, u, G] 20) H
noncomputable def Lr : KK := CQ (oL [1, 1]) mW bv mW
noncomputable def WC : KK := dD 33554415 Lr
noncomputable def q9 : OV := Lr (ls [u, u, u, u, G] 20) H
noncomputable def WG : KK := CQ (oL [1, 0, 1]) WC bv mW
noncomputable def ra : OV := WG (ls [D, E, u, u, G, L] 19) H
noncomputable def Lu : KX := BX 0 WC bv
noncomputable def Da : KX := nJ 33554415 Lu
noncomputable def Ls : KK := uz (oL [1, 0, 1, 4, 5]) Da mW
noncomputable def WD : KK := dD 33554380 Ls
noncomputable def i0 : OV := Ls (ls [D, E, u, u, G, L] 19) H
noncomputable def WH : KK := CQ (oL [1, 0, 1, 4, 5, 1]) WD Da mW
noncomputable def re : OV := WH (ls [D, E, u, u, G, L] 19) H
noncomputable def Lt : KK := CQ (oL [1, 0, 1, 4, 5, 1, 1]) WD Da mW
noncomputable def aqW : KK := dD 33554380 Lt
noncomputable def rg : OV := Lt (ls [D, E, u, u, G, L] 19) H
noncomputable def aqX : KX := BX 1 aqW Da
noncomputable def ow : OV := Lu 0 (ls [u, u, u, u, G] 20) H
theorem lj : ap 33554415 mW := rf
theorem aaU : ap 33554412 WE := rc lj aw lj
theorem zJ : ap 33554415 Lr := rc lj aw lj
theorem aaV : ap 33554380 WG := rc (cd zJ) aw lj
theorem ph : ∀ i, ap 33554415 (Lu i) := rb (cd zJ) aw
theorem tT : ap 33554380 Ls := rl (cx ph) lj
theorem aaW : ap 33554380 WH := rc (cd tT) (cx ph) lj
theorem IK : ap 33554380 Lt := rc (cd tT) (cx ph) lj
theorem aaX : ∀ i, ap 33554380 (aqX i) := rb (cd IK) (cx ph)
theorem vS : q9 G H =
 some ((vi (-1)), H) :=
 (by kernel_rfl)
theorem vV : rg D E G L H =
 (ai .other .add L (vi 1)).bind fun a =>
 i0 D E G a H :=
 (by kernel_rfl)
theorem vU : re D E G L H =
 ld [.n, .f 2] D H fun a =>
 ld [.i 1 L] a H fun b =>
 (ai .other .eql b E).bind fun c =>
 av c
 (some (L, H))
 (rg D E G L H) :=
 (pt rfl 0 IK (bt rfl (oL [1, 0, 1, 4, 5, 1, 0, 4]) 1 aaX (by kernel_rfl)))
theorem sZ : ow G H = q9 G H :=
 (by kernel_rfl)
theorem nq : i0 D E G L H =
 ld [.n, .f 2] D H fun a =>
 fy a fun b =>
 (ai .other .lss L b).bind fun c =>
 av c
 (re D E G L H)
 (ow G H) :=
 uW rfl tT (pt rfl 0 aaW (by kernel_rfl))
theorem vT : ra D E G L H =
 i0 D E G L H :=
 (bt rfl (oL [1, 0, 1, 4]) 0 ph (li rfl (oL [1, 0, 1, 4, 5]) tT (by kernel_rfl)))
theorem vR : q8 D E G H =
 ra D E G (vi 0) H :=
 (pt rfl 0 zJ (pt rfl 0 aaV (by kernel_rfl)))
noncomputable def Mn : OV := ba PP GG FF (oL []) (ls [D, E] 23) H mW bv mW
theorem Cu {r : Value × AH} (h : (
 q8 D E (vi 0) H) = some r) : FF nc [D, E] H = some r :=
 fo (t := Mn D E H) Tryz.func186 (by kernel_rfl) (Eq.trans (pt rfl 0 aaU (by kernel_rfl)) h)
noncomputable def r8 (p : List Nat) : Code := Code.sub (bK Tryz.f187) p
noncomputable def qm : KK := dK PP (Tryz.f187).results.toList
noncomputable def WJ : KK := CQ (r8 [1, 1]) qm bv qm
noncomputable def anM : OV := WJ (ls [D, u, J, u, G, u, u, u, u, u, I, M] 46) H
noncomputable def Lv : KK := CQ (r8 [1, 1, 1]) qm bv qm
noncomputable def aqY : KK := dD U1 Lv
noncomputable def anN : OV := Lv (ls [D, u, J, u, G, u, u, u, u, u, I] 47) H
noncomputable def Lx : KX := BX 0 aqY bv
noncomputable def Ly : KX := nJ U1 Lx
noncomputable def Lw : KK := uz (r8 [1, 1, 0, 4, 5]) Ly qm
noncomputable def WI : KK := dD Nw Lw
noncomputable def GX : OV := Lw (ls [D, u, J, u, G, u, u, u, u, u, I, M] 46) H
noncomputable def WK : KK := CQ (r8 [1, 1, 0, 4, 5, 1]) WI Ly qm
noncomputable def anO : OV := WK (ls [D, u, J, u, G, u, u, u, u, u, I, M] 46) H
noncomputable def aqZ : KX := BX 1 WI Ly
noncomputable def PQ : OV := Lx 0 (ls [D, u, J, u, G, u, u, u, u, u, I] 47) H
theorem pi : ap 288230376151711743 qm := rf
theorem aaY : ap Nw WJ := rc pi aw pi
theorem IL : ap U1 Lv := rc pi aw pi
theorem tV : ∀ i, ap U1 (Lx i) := rb (cd IL) aw
theorem tU : ap Nw Lw := rl (cx tV) pi
theorem aaZ : ap Nw WK := rc (cd tU) (cx tV) pi
theorem aa0 : ∀ i, ap Nw (aqZ i) := rb (cd tU) (cx tV)
theorem adP : anN D J G I H =
 (ai .other .sub J I).bind fun a =>
 (FF O9 [D, a, J, I, G] H).bind fun b =>
 some (Value.tuple #[], b.2) :=
 (by kernel_rfl)
theorem adR : anO D J G I M H =
 (ai .other .gtr I M).bind fun a =>
 av a
 ((ai .other .sub J I).bind fun b =>
 (FF O9 [D, b, J, M, G] H).bind fun c =>
 (ai .other .sub I M).bind fun d =>
 GX D J G d M c.2)
 ((ai .other .sub J I).bind fun e =>
 (ai .other .add J M).bind fun f =>
 (ai .other .sub f I).bind fun g =>
 (FF O9 [D, e, g, I, G] H).bind fun i =>
 (ai .other .sub M I).bind fun j =>
 GX D J G I j i.2) :=
 (bt rfl (r8 [1, 1, 0, 4, 5, 1, 4]) 1 aa0 (by kernel_rfl))
theorem PR : PQ D J G I H = anN D J G I H :=
 (by kernel_rfl)
theorem adQ : GX D J G I M H =
 (ai .other .neq I M).bind fun a =>
 av a
 (anO D J G I M H)
 (PQ D J G I H) :=
 uW rfl tU (pt rfl 0 aaZ (by kernel_rfl))
theorem adO : anM D J G I M H =
 GX D J G I M H :=
 (pt rfl 0 IL (bt rfl (r8 [1, 1, 0, 4]) 0 tV (li rfl (r8 [1, 1, 0, 4, 5]) tU (by kernel_rfl))))
noncomputable def sRo : OV := ba PP GG FF (r8 []) (ls [D, E, J, K, G] 53) H qm bv qm
theorem avR {r : Value × AH} (h : (
 (ai .other .sub J E).bind fun a =>
 (ai .other .sub K J).bind fun b =>
 anM D J G a b H) = some r) : FF alR [D, E, J, K, G] H = some r :=
 fo (t := sRo D E J K G H) Tryz.func187 (by kernel_rfl) (Eq.trans (pt rfl 1 aaY (by kernel_rfl)) h)
theorem Na {r : Value × AH} (h : (
 (FF qA [D] H).bind fun a =>
 HO a.2 fun b c =>
 hJ [(0, 1), (1, 1), (2, 192), (194, 3), (197, 1)] [(vw 0), (vi 0), (.slice none 0 0), (.slice none 0 0), (.slice none 0 0), (.slice none 0 0), (.slice none 0 0), (.slice none 0 0), (.slice none 0 0), (.slice none 0 0), (.slice none 0 0), (.slice none 0 0), (.slice none 0 0), (.slice none 0 0), (.slice none 0 0), (.slice none 0 0), (.slice none 0 0), (.slice none 0 0), (.slice none 0 0), (.slice none 0 0), (.slice none 0 0), (.slice none 0 0), (.slice none 0 0), (.slice none 0 0), (.slice none 0 0), (.slice none 0 0), (.slice none 0 0), (.slice none 0 0), (.slice none 0 0), (.slice none 0 0), (.slice none 0 0), (.slice none 0 0), (.slice none 0 0), (.slice none 0 0), (.slice none 0 0), (.slice none 0 0), (.slice none 0 0), (.slice none 0 0), (.slice none 0 0), (.slice none 0 0), (.slice none 0 0), (.slice none 0 0), (.slice none 0 0), (.slice none 0 0), (.slice none 0 0), (.slice none 0 0), (.slice none 0 0), (.slice none 0 0), (.slice none 0 0), (.slice none 0 0), (.slice none 0 0), (.slice none 0 0), (.slice none 0 0), (.slice none 0 0), (.slice none 0 0), (.slice none 0 0), (.slice none 0 0), (.slice none 0 0), (.slice none 0 0), (.slice none 0 0), (.slice none 0 0), (.slice none 0 0), (.slice none 0 0), (.slice none 0 0), (.slice none 0 0), (.slice none 0 0), (.slice none 0 0), (.slice none 0 0), (.slice none 0 0), (.slice none 0 0), (.slice none 0 0), (.slice none 0 0), (.slice none 0 0), (.slice none 0 0), (.slice none 0 0), (.slice none 0 0), (.slice none 0 0), (.slice none 0 0), (.slice none 0 0), (.slice none 0 0), (.slice none 0 0), (.slice none 0 0), (.slice none 0 0), (.slice none 0 0), (.slice none 0 0), (.slice none 0 0), (.slice none 0 0), (.slice none 0 0), (.slice none 0 0), (.slice none 0 0), (.slice none 0 0), (.slice none 0 0), (.slice none 0 0), (.slice none 0 0), (.slice none 0 0), (.slice none 0 0), (.slice none 0 0), (.slice none 0 0), (.slice none 0 0), (.slice none 0 0), (.slice none 0 0), (.slice none 0 0), (.slice none 0 0), (.slice none 0 0), (.slice none 0 0), (.slice none 0 0), (.slice none 0 0), (.slice none 0 0), (.slice none 0 0), (.slice none 0 0), (.slice none 0 0), (.slice none 0 0), (.slice none 0 0), (.slice none 0 0), (.slice none 0 0), (.slice none 0 0), (.slice none 0 0), (.slice none 0 0), (.slice none 0 0), (.slice none 0 0), (.slice none 0 0), (.slice none 0 0), (.slice none 0 0), (.slice none 0 0), (.slice none 0 0), (.slice none 0 0), (.slice none 0 0), (.slice none 0 0), (.slice none 0 0), (.slice none 0 0), (.slice none 0 0), (.slice none 0 0), (.slice none 0 0), (.slice none 0 0), (.slice none 0 0), (.slice none 0 0), (.slice none 0 0), (.slice none 0 0), (.slice none 0 0), (.slice none 0 0), (.slice none 0 0), (.slice none 0 0), (.slice none 0 0), (.slice none 0 0), (.slice none 0 0), (.slice none 0 0), (.slice none 0 0), (.slice none 0 0), (.slice none 0 0), (.slice none 0 0), (.slice none 0 0), (.slice none 0 0), (.slice none 0 0), (.slice none 0 0), (.slice none 0 0), (.slice none 0 0), (.slice none 0 0), (.slice none 0 0), (.slice none 0 0), (.slice none 0 0), (.slice none 0 0), (.slice none 0 0), (.slice none 0 0), (.slice none 0 0), (.slice none 0 0), (.slice none 0 0), (.slice none 0 0), (.slice none 0 0), (.slice none 0 0), (.slice none 0 0), (.slice none 0 0), (.slice none 0 0), (.slice none 0 0), (.slice none 0 0), (.slice none 0 0), (.slice none 0 0), (.slice none 0 0), (.slice none 0 0), (.slice none 0 0), (.slice none 0 0), (.slice none 0 0), (.slice none 0 0), (.slice none 0 0), (.slice none 0 0), (.slice none 0 0), (.slice none 0 0), (.slice none 0 0), (.slice none 0 0), (.slice none 0 0), (.slice none 0 0), (.slice none 0 0), (.slice none 0 0), (.slice none 0 0), (.slice none 0 0), (vw 0), (vw 0), (vw 0), (.map none)] [(1, a.1), (4, b)] fun d =>
 aQ (Value.cells d).toList c fun e f =>
 some (e, f)) = some r) : FF sP [D] H = some r :=
 fo Tryz.func188 (by kernel_rfl) h
theorem OL (H : AH) {r : Value × AH} (h : (
 HO H fun a b =>
 hJ [(0, 1), (1, 1)] [(.slice none 0 0), (.map none)] [(1, a)] fun c =>
 aQ (Value.cells c).toList b fun d e =>
 some (d, e)) = some r) : FF vE [] H = some r :=
 fo Tryz.func189 (by kernel_rfl) h
theorem Ig {r : Value × AH} (h : (
 (ai .other .shr D (vw 61)).bind fun a =>
 (ai .other .lss a (vw 3)).bind fun b =>
 some (b, H)) = some r) : FF jO [D] H = some r :=
 fo Tryz.func204 (by kernel_rfl) h
theorem uo {r : Value × AH} (h : (
 aQ (Value.cells K).toList H fun i a =>
 ad [.n, .f 12] D fun c =>
 (ar c a).bind fun j =>
 ad [.n, .f 11] D fun d =>
 (ar d a).bind fun e =>
 (cY .int (vi 0) e J false a).bind fun k =>
 (ax 4 i a).bind fun l =>
 (FF oc [l] a).bind fun b =>
 bX (ar c b.2) (ar c a) <|
 bX (ar d b.2) (ar d a) <|
 bX (cY .int (vi 0) e J false b.2) (cY .int (vi 0) e J false a) <|
 hJ [(0, 1), (1, 1), (2, 1), (3, 4)] [(vi 0), (vi 0), (vi 0), (vi 0), (.slice none 0 0), (vi 0), (vw 0)] [(0, E), (1, J), (2, k), (3, b.1)] fun m =>
 z5 1 7 [(vi 0), (vi 0), (vi 0), (vi 0), (.slice none 0 0), (vi 0), (vw 0)] [(0, m)] b.2 fun o p =>
 (eJ 7 72 j o p).bind fun g =>
 st 1 [.n, .f 12] D g.1 g.2 fun q =>
 some (Value.tuple #[], q)) = some r) : FF gc [D, E, J, K] H = some r :=
 fo Tryz.func205 (by kernel_rfl) h
theorem tj {r : Value × AH} (h : (
 ld [.n, .f 2] D H fun a =>
 some (a, H)) = some r) : FF dR [D] H = some r :=
 fo Tryz.func206 (by kernel_rfl) h
theorem Rc {r : Value × AH} (h : (
 aQ [(vi 0), (.slice none 0 0), (vi 0), (vw 0)] H fun a b =>
 ld [.n, .f 11] D b fun l =>
 ld [.n, .f 1] D b fun m =>
 (FF fT [l, m] b).bind fun g =>
 st 1 [.n, .f 12] D g.1 g.2 fun i =>
 ld [.n, .f 12] D i fun o =>
 (FF dX [o] i).bind fun c =>
 (ai .other .eql c.1 (vi 2)).bind fun p =>
 av p
 ((FF bN [D, (.func (.func dm) #[D] #[])] c.2).bind fun d =>
 (ag d.1 0).bind fun q =>
 (ag d.1 1).bind fun s =>
 (cJ 4 a q d.2).bind fun j =>
 (ax 4 a j).bind fun t => some (Value.tuple #[t, s], j))
 ((FF bN [D, (.func (.func mw) #[D] #[])] c.2).bind fun e =>
 (ag e.1 0).bind fun w =>
 (ag e.1 1).bind fun y =>
 (cJ 4 a w e.2).bind fun k =>
 (ax 4 a k).bind fun z => some (Value.tuple #[z, y], k))) = some r) : FF cq [D, E] H = some r :=
 fo Tryz.func207 (by kernel_rfl) h
noncomputable def Lz (p : List Nat) : Code := Code.sub (bK Tryz.f208) p
noncomputable def vk : KK := dK PP (Tryz.f208).results.toList
noncomputable def WL : KK := CQ (Lz [1, 1]) vk bv vk
noncomputable def wR : OV := WL (ls [D, E, u, u, G, L, N] 30) H
noncomputable def LA : KK := CQ (Lz [1, 1, 1]) vk bv vk
noncomputable def aq0 : KK := dD 137438953422 LA
noncomputable def wT : OV := LA (ls [D, u, u, u, G, L] 31) H
noncomputable def aq1 : KX := BX 0 aq0 bv
theorem xj : ap wL vk := rf
theorem aa1 : ap AU WL := rc xj aw xj
theorem IM : ap 137438953422 LA := rc xj aw xj
theorem aa2 : ∀ i, ap 137438953422 (aq1 i) := rb (cd IM) aw
theorem BQ : wT D G L H =
 (FF bN [D, (.func (.func fc) #[D] #[])] H).bind fun a =>
 (ag a.1 0).bind fun c =>
 (ag a.1 1).bind fun d =>
 (cJ 4 G c a.2).bind fun b =>
 (ax 4 G b).bind fun e => some (Value.tuple #[e, d], b) :=
 (by kernel_rfl)
theorem BP : wR D E G L N H =
 ld [.n, .f 10] D H fun e =>
 av e
 ((FF bN [D, (.func (.func fe) #[D] #[])] H).bind fun a =>
 (ag a.1 0).bind fun g =>
 (ag a.1 1).bind fun i =>
 (cJ 4 G g a.2).bind fun c =>
 (ax 4 G c).bind fun j => some (Value.tuple #[j, i], c))
 (av N
 ((FF mz [D, E, (vi 5)] H).bind fun k =>
 (FF bN [D, (.func (.func fe) #[D] #[])] k.2).bind fun b =>
 (ag b.1 0).bind fun l =>
 (ag b.1 1).bind fun m =>
 (cJ 4 G l b.2).bind fun d =>
 (ax 4 G d).bind fun o => some (Value.tuple #[o, m], d))
 (wT D G L H)) :=
 (pt rfl 0 IM (bt rfl (Lz [1, 1, 0, 4]) 0 aa2 (by kernel_rfl)))
noncomputable def Zc : OV := ba PP GG FF (Lz []) (ls [D, E] 35) H vk bv vk
theorem Kd {r : Value × AH} (h : (
 aQ [(vi 0), (.slice none 0 0), (vi 0), (vw 0)] H fun b c =>
 (FF ya [D] c).bind fun a =>
 wR D E b (vb false) a.1 a.2) = some r) : FF fc [D, E] H = some r :=
 fo (t := Zc D E H) Tryz.func208 (by kernel_rfl) (Eq.trans (pt rfl 1 aa1 (by kernel_rfl)) h)
noncomputable def R8 (p : List Nat) : Code := Code.sub (bK Tryz.f209) p
noncomputable def vl : KK := dK PP (Tryz.f209).results.toList
noncomputable def WM : KK := CQ (R8 [1, 1]) vl bv vl
noncomputable def ta : OV := WM (ls [D, u, J, K, G, L, N] 81) H
noncomputable def WN : KK := CQ (R8 [1, 1, 1]) vl bv vl
noncomputable def jU : OV := WN (ls [D, u, J, K, G, L, N] 81) H
theorem xl : ap 309485009821345068724781043 vl := rf
theorem aa3 : ap 309485009821345068724780930 WM := rc xl aw xl
theorem aa4 : ap 309485009821345068724780930 WN := rc xl aw xl
theorem yL : jU D J K G L N H =
 ld [.n, .f 8] D H fun g =>
 st 1 [.n, .f 10] D g H fun i =>
 st 1 [.n, .f 11] D L i fun e =>
 ld [.n, .f 8] D e fun j =>
 (ai .other .add j (vi 1)).bind fun k =>
 st 1 [.n, .f 8] D k e fun a =>
 (gV N true G).bind fun l =>
 (gV N true D).bind fun m =>
 HK N true  [.n, .f 2, .f 1] m fun c =>
 (gB N true (ar c a)).bind fun o =>
 (gB N true (ai .other .eql l o)).bind fun p =>
 (aL N p (vb false)).bind fun q =>
 ad [.n, .f 8] D fun d =>
 (ar d a).bind fun s =>
 ld [.n, .f 0] D a fun t =>
 ld [.n, .f 2] t a fun w =>
 (FF dR [w] a).bind fun b =>
 bX (ar c b.2) (ar c a) <|
 bX (ar d b.2) (ar d a) <|
 (ai .other .geq s b.1).bind fun y =>
 some (Value.tuple #[q, y], b.2) :=
 (by kernel_rfl)
theorem oy : ta D J K G L N H =
 (ot .not N).bind fun a =>
 (gV a true D).bind fun b =>
 f0 a true  [.n, .f 9] b H fun c =>
 (gB a true (ai .other .lss c (vi 0))).bind fun d =>
 (aL a d (vb false)).bind fun e =>
 av e
 (ld [.n, .f 8] D H fun g =>
 st 1 [.n, .f 9] D g H fun i =>
 jU D J K G L N i)
 (jU D J K G L N H) :=
 (pt rfl 0 aa4 (by kernel_rfl))
noncomputable def PD : OV := ba PP GG FF (R8 []) (ls [D] 87) H vl bv vl
theorem GJ {r : Value × AH} (h : (
 ld [.n, .f 0] D H fun b =>
 ld [.n, .f 2] b H fun c =>
 ld [.n, .f 1] D H fun d =>
 ld [.n, .f 6] D H fun e =>
 ld [.n, .f 8] D H fun g =>
 (FF gf [c, d, e, g] H).bind fun a =>
 (ag a.1 0).bind fun i =>
 (ag a.1 1).bind fun j =>
 (ag a.1 2).bind fun k =>
 ta D (vb false) (vb false) i j k a.2) = some r) : FF kR [D] H = some r :=
 fo (t := PD D H) Tryz.func209 (by kernel_rfl) (Eq.trans (pt rfl 1 aa3 (by kernel_rfl)) h)
theorem CN {r : Value × AH} (h : (
 aQ [(vi 0), (.slice none 0 0), (vi 0), (vw 0)] H fun a g =>
 (FF kS [D] g).bind fun b =>
 av b.1
 ((FF bf [D, (.func (.func cn) #[D] #[])] b.2).bind fun c =>
 (ag c.1 0).bind fun i =>
 (ag c.1 1).bind fun j =>
 (cJ 4 a i c.2).bind fun e =>
 (ax 4 a e).bind fun k => some (Value.tuple #[k, j], e))
 ((FF bf [D, (.func (.func d8) #[D] #[])] b.2).bind fun d =>
 (ag d.1 0).bind fun l =>
 (ag d.1 1).bind fun m =>
 (cJ 4 a l d.2).bind fun f =>
 (ax 4 a f).bind fun n => some (Value.tuple #[n, m], f))) = some r) : FF bq [D, E] H = some r :=
 fo Tryz.func210 (by kernel_rfl) h
theorem GK {r : Value × AH} (h : (
 aQ [(vi 0), (.slice none 0 0), (vi 0), (vw 0)] H fun b a =>
 ld [.n, .f 0] D a fun e =>
 ld [.n, .f 2] e a fun g =>
 ld [.n, .f 1] D a fun i =>
 ld [.n, .f 6] D a fun j =>
 (FF fi [g, i, j] a).bind fun c =>
 ld [.n, .f 16] D c.2 fun k =>
 hJ [(0, 1), (1, 1), (2, 1), (3, 1)] [(vi 0), (.slice none 0 0), (vi 0), (vw 0)] [(0, k)] fun l =>
 (cJ 4 b l c.2).bind fun d =>
 (ax 4 b d).bind fun m => some (Value.tuple #[m, (vb true)], d)) = some r) : FF aO [D, E] H = some r :=
 fo Tryz.func211 (by kernel_rfl) h
theorem CI {r : Value × AH} (h : (
 aQ [(vi 0), (.slice none 0 0), (vi 0), (vw 0)] H fun d b =>
 ld [.n, .f 0] D b fun i =>
 ld [.n, .f 5, .f 4] i b fun j =>
 ld [.n, .f 2, .f 2] D b fun k =>
 (FF oU [j, k] b).bind fun a =>
 (ag a.1 0).bind fun l =>
 (ag a.1 1).bind fun A =>
 ld [.n, .f 0] D a.2 fun m =>
 ld [.n, .f 1] D a.2 fun o =>
 ld [.n, .f 2, .f 1] D a.2 fun p =>
 ld [.n, .f 2, .f 3] D a.2 fun q =>
 hJ [(0, 1), (1, 1), (2, 1)] [(vi 0), (vi 0), (vw 0)] [(0, p), (1, q), (2, l)] fun s =>
 (FF ee [m, o, s] a.2).bind fun e =>
 st 1 [.n, .f 11] D e.1 e.2 fun t =>
 (FF bf [D, (.func (.func ft) #[D] #[])] t).bind fun c =>
 (ag c.1 0).bind fun w =>
 (ag c.1 1).bind fun y =>
 (cJ 4 d w c.2).bind fun g =>
 (ax 4 d g).bind fun z => some (Value.tuple #[z, y], g)) = some r) : FF dy [D, E] H = some r :=
 fo Tryz.func212 (by kernel_rfl) h
noncomputable def r9 (p : List Nat) : Code := Code.sub (bK Tryz.f213) p
noncomputable def qn : KK := dK PP (Tryz.f213).results.toList
noncomputable def WQ : KK := CQ (r9 [1]) qn bv qn
noncomputable def anU : OV := WQ (ls [D, E, J, K, u, u, u, u, u, u, I] 27) H
noncomputable def LD : KX := BX 0 qn bv
noncomputable def Dd : KX := nJ 274877906943 LD
noncomputable def LB : KK := uz (r9 [1, 4, 5]) Dd qn
noncomputable def WP : KK := dD D5 LB
noncomputable def MY : OV := LB (ls [D, E, J, K, u, u, u, u, u, u, I] 27) H
noncomputable def WR : KK := CQ (r9 [1, 4, 5, 1]) WP Dd qn
noncomputable def anV : OV := WR (ls [D, E, J, K, u, u, u, u, u, u, I] 27) H
noncomputable def LC : KK := CQ (r9 [1, 4, 5, 1, 1]) WP Dd qn
noncomputable def aq3 : KK := dD D5 LC
noncomputable def anW : OV := LC (ls [D, E, J, K, u, u, u, u, u, u, I] 27) H
noncomputable def aq4 : KX := BX 1 aq3 Dd
noncomputable def PU (H : AH) : OV := LD 0 (ls [] 38) H
theorem pj : ap 274877906943 qn := rf
theorem aa6 : ap D5 WQ := rc pj aw pj
theorem pk : ∀ i, ap 274877906943 (LD i) := rb pj aw
theorem tW : ap D5 LB := rl (cx pk) pj
theorem aa7 : ap D5 WR := rc (cd tW) (cx pk) pj
theorem IN : ap D5 LC := rc (cd tW) (cx pk) pj
theorem aa8 : ∀ i, ap D5 (aq4 i) := rb (cd IN) (cx pk)
theorem ad2 : anW D E J K I H =
 (ai .other .add I (vi 1)).bind fun a =>
 MY D E J K a H :=
 (by kernel_rfl)
theorem ad1 : anV D E J K I H =
 (ai .other .add E I).bind fun a =>
 (ai .other .add J I).bind fun b =>
 (ai .other .add J I).bind fun c =>
 ldN 7 [.i 7 c] D H fun d =>
 (ai .other .add E I).bind fun e =>
 ldN 7 [.i 7 e] D H fun f =>
 st 7 [.i 7 a] D d H fun g =>
 st 7 [.i 7 b] D f g fun j =>
 anW D E J K I j :=
 (pt rfl 0 IN (bt rfl (r9 [1, 4, 5, 1, 0, 4]) 1 aa8 (by kernel_rfl)))
theorem PV (H : AH) : PU H = some (Value.tuple #[], H) :=
 (by kernel_rfl)
theorem JD : MY D E J K I H =
 (ai .other .lss I K).bind fun a =>
 av a
 (anV D E J K I H)
 (PU H) :=
 uW rfl tW (pt rfl 0 aa7 (by kernel_rfl))
theorem ad0 : anU D E J K I H =
 MY D E J K I H :=
 (bt rfl (r9 [1, 4]) 0 pk (li rfl (r9 [1, 4, 5]) tW (by kernel_rfl)))
noncomputable def sSw : OV := ba PP GG FF (r9 []) (ls [D, E, J, K, G] 33) H qn bv qn
theorem avU {r : Value × AH} (h : (
 anU D E J K (vi 0) H) = some r) : FF O9 [D, E, J, K, G] H = some r :=
 fo (t := sSw D E J K G H) Tryz.func213 (by kernel_rfl) (Eq.trans (pt rfl 0 aa6 (by kernel_rfl)) h)
theorem Ie {r : Value × AH} (h : (
 (iQ [D, (vi 0)]).bind fun a =>
 (j3 [a, (vi 40)]).bind fun b =>
 some (b, H)) = some r) : FF qA [D] H = some r :=
 fo Tryz.func214 (by kernel_rfl) h
theorem yV {r : Value × AH} (h : (
 ad [.n, .f 0] D fun a =>
 (ar a H).bind fun d =>
 (FF en [D, (vi 11), (vi 0)] H).bind fun b =>
 bX (ar a b.2) (ar a H) <|
 (FF dw [d, E, b.1] b.2).bind fun c =>
 some (c.1, c.2)) = some r) : FF fT [D, E] H = some r :=
 fo Tryz.func243 (by kernel_rfl) h
noncomputable def LE (p : List Nat) : Code := Code.sub (bK Tryz.f244) p
noncomputable def vm : KK := dK PP (Tryz.f244).results.toList
noncomputable def WS : KK := CQ (LE [1, 1]) vm bv vm
noncomputable def Ej : OV := WS (ls [D, u, u, u, G, L, N] 45) H
noncomputable def LF : KK := CQ (LE [1, 1, 1]) vm bv vm
noncomputable def aq5 : KK := dD 4503599627370446 LF
noncomputable def El : OV := LF (ls [D, u, u, u, G, L] 46) H
noncomputable def aq6 : KX := BX 0 aq5 bv
theorem xm : ap 4503599627370447 vm := rf
theorem aa9 : ap 4503599627370382 WS := rc xm aw xm
theorem IO : ap 4503599627370446 LF := rc xm aw xm
theorem abA : ∀ i, ap 4503599627370446 (aq6 i) := rb (cd IO) aw
theorem Hz : El D G L H =
 (FF bN [D, (.func (.func kp) #[D] #[])] H).bind fun a =>
 (ag a.1 0).bind fun c =>
 (ag a.1 1).bind fun d =>
 (cJ 4 G c a.2).bind fun b =>
 (ax 4 G b).bind fun e => some (Value.tuple #[e, d], b) :=
 (by kernel_rfl)
theorem Hy : Ej D G L N H =
 ld [.n, .f 11] D H fun i =>
 ld [.n, .f 12] D H fun j =>
 (FF ig [i, j, N] H).bind fun a =>
 av a.1
 ((FF bN [D, (.func (.func pI) #[D] #[])] a.2).bind fun b =>
 (ag b.1 0).bind fun k =>
 (ag b.1 1).bind fun l =>
 (cJ 4 G k b.2).bind fun e =>
 (ax 4 G e).bind fun m => some (Value.tuple #[m, l], e))
 (ld [.n, .f 12] D a.2 fun o =>
 (FF dX [o] a.2).bind fun c =>
 (ai .other .eql c.1 (vi 1)).bind fun p =>
 av p
 ((FF bN [D, (.func (.func kq) #[D] #[])] c.2).bind fun d =>
 (ag d.1 0).bind fun q =>
 (ag d.1 1).bind fun s =>
 (cJ 4 G q d.2).bind fun g =>
 (ax 4 G g).bind fun t => some (Value.tuple #[t, s], g))
 (El D G L c.2)) :=
 (pt rfl 0 IO (bt rfl (LE [1, 1, 0, 4]) 0 abA (by kernel_rfl)))
noncomputable def ap1 : OV := ba PP GG FF (LE []) (ls [D, E] 50) H vm bv vm
theorem Q3 {r : Value × AH} (h : (
 aQ [(vi 0), (.slice none 0 0), (vi 0), (vw 0)] H fun c a =>
 ld [.n, .f 11] D a fun d =>
 ld [.n, .f 1] D a fun e =>
 (FF ij [d, e] a).bind fun b =>
 Ej D c (vb false) b.1 b.2) = some r) : FF mw [D, E] H = some r :=
 fo (t := ap1 D E H) Tryz.func244 (by kernel_rfl) (Eq.trans (pt rfl 1 aa9 (by kernel_rfl)) h)
theorem Ke {r : Value × AH} (h : (
 aQ [(vi 0), (.slice none 0 0), (vi 0), (vw 0)] H fun b a =>
 ld [.n, .f 0] D a fun j =>
 ld [.n, .f 2] j a fun k =>
 ld [.n, .f 1] D a fun l =>
 ld [.n, .f 6] D a fun m =>
 (FF fi [k, l, m] a).bind fun c =>
 ld [.n, .f 10] D c.2 fun o =>
 (ot .not o).bind fun p =>
 av p
 ((FF mv [D, (vi 5)] c.2).bind fun d =>
 (ag d.1 0).bind fun q =>
 (ag d.1 1).bind fun s =>
 (cJ 4 b q d.2).bind fun g =>
 (ax 4 b g).bind fun t => some (Value.tuple #[t, s], g))
 ((FF bN [D, (.func (.func hZ) #[D] #[])] c.2).bind fun e =>
 (ag e.1 0).bind fun w =>
 (ag e.1 1).bind fun y =>
 (cJ 4 b w e.2).bind fun i =>
 (ax 4 b i).bind fun z => some (Value.tuple #[z, y], i))) = some r) : FF fe [D, E] H = some r :=
 fo Tryz.func245 (by kernel_rfl) h
theorem GN {r : Value × AH} (h : (
 ld [.n, .f 12] D H fun d =>
 ld [.n, .f 1] D H fun e =>
 (FF fT [d, e] H).bind fun a =>
 st 1 [.n, .f 13] D a.1 a.2 fun b =>
 ld [.n, .f 13] D b fun g =>
 (FF dX [g] b).bind fun c =>
 (ai .other .eql c.1 (vi 0)).bind fun i =>
 some (i, c.2)) = some r) : FF kS [D] H = some r :=
 fo Tryz.func246 (by kernel_rfl) h
theorem CJ {r : Value × AH} (h : (
 aQ [(vi 0), (.slice none 0 0), (vi 0), (vw 0)] H fun a b =>
 ld [.n, .f 12] D b fun j =>
 ld [.n, .f 1] D b fun k =>
 ld [.n, .f 13] D b fun l =>
 (FF kD [j, k, l] b).bind fun c =>
 (ot .not c.1).bind fun m =>
 av m
 ((FF bf [D, (.func (.func bq) #[D] #[])] c.2).bind fun d =>
 (ag d.1 0).bind fun o =>
 (ag d.1 1).bind fun p =>
 (cJ 4 a o d.2).bind fun g =>
 (ax 4 a g).bind fun q => some (Value.tuple #[q, p], g))
 ((FF cX [D, E, (vi 0)] c.2).bind fun s =>
 (FF bf [D, (.func (.func dM) #[D] #[])] s.2).bind fun e =>
 (ag e.1 0).bind fun t =>
 (ag e.1 1).bind fun w =>
 (cJ 4 a t e.2).bind fun i =>
 (ax 4 a i).bind fun y => some (Value.tuple #[y, w], i))) = some r) : FF cn [D, E] H = some r :=
 fo Tryz.func247 (by kernel_rfl) h
theorem GO {r : Value × AH} (h : (
 aQ [(vi 0), (.slice none 0 0), (vi 0), (vw 0)] H fun a b =>
 ld [.n, .f 0] D b fun k =>
 ld [.n, .f 1] D b fun l =>
 (FF dF [k, l] b).bind fun g =>
 st 1 [.n, .f 14] D g.1 g.2 fun c =>
 ld [.n, .f 14] D c fun m =>
 (ai .other .rem m (vw 2)).bind fun o =>
 (ai .other .eql o (vw 1)).bind fun p =>
 av p
 ((FF bf [D, (.func (.func bq) #[D] #[])] c).bind fun d =>
 (ag d.1 0).bind fun q =>
 (ag d.1 1).bind fun s =>
 (cJ 4 a q d.2).bind fun i =>
 (ax 4 a i).bind fun t => some (Value.tuple #[t, s], i))
 ((FF bf [D, (.func (.func cw) #[D] #[])] c).bind fun e =>
 (ag e.1 0).bind fun w =>
 (ag e.1 1).bind fun y =>
 (cJ 4 a w e.2).bind fun j =>
 (ax 4 a j).bind fun z => some (Value.tuple #[z, y], j))) = some r) : FF d8 [D, E] H = some r :=
 fo Tryz.func248 (by kernel_rfl) h
theorem rD {r : Value × AH} (h : (
 ad [.n, .f 0] D fun a =>
 (ar a H).bind fun c =>
 (FF kT [J] H).bind fun b =>
 bX (ar a b.2) (ar a H) <|
 (FF dL [c, E, b.1, (vw 0)] b.2).bind fun d =>
 some (Value.tuple #[], d.2)) = some r) : FF fi [D, E, J] H = some r :=
 fo Tryz.func249 (by kernel_rfl) h
theorem Hb {r : Value × AH} (h : (
 (ai .other .lss D (vw 1)).bind fun a =>
 (gV a false D).bind fun d =>
 (gB a false (ai .other .gtr d (vw 4611686018427387904))).bind fun e =>
 (aL a (vb true) e).bind fun b =>
 (gV b false E).bind fun f =>
 (gB b false (ai .other .lss f (vi 1))).bind fun g =>
 (aL b (vb true) g).bind fun c =>
 (gV c false E).bind fun i =>
 (gB c false (ai .other .gtr i (vi 65536))).bind fun j =>
 (aL c (vb true) j).bind fun k =>
 av k
 (some (Value.tuple #[(vw 0), (vb false)], H))
 ((cf (some .u64) E).bind fun l =>
 (ai .other .quo D l).bind fun m =>
 (iQ [m, (vw 1)]).bind fun n =>
 some (Value.tuple #[n, (vb true)], H))) = some r) : FF oU [D, E] H = some r :=
 fo Tryz.func250 (by kernel_rfl) h
theorem GL {r : Value × AH} (h : (
 aQ [(vi 0), (.slice none 0 0), (vi 0), (vw 0)] H fun c a =>
 ld [.n, .f 0] D a fun e =>
 ld [.n, .f 2] e a fun g =>
 ld [.n, .f 1] D a fun i =>
 ld [.n, .f 6] D a fun j =>
 ld [.n, .f 9] D a fun k =>
 ld [.n, .f 2, .f 1] D a fun l =>
 ld [.n, .f 11] D a fun m =>
 (FF gG [g, i, j, k, l, m] a).bind fun o =>
 (FF cX [D, E, (vi 0)] o.2).bind fun p =>
 (FF bf [D, (.func (.func aO) #[D] #[])] p.2).bind fun b =>
 (ag b.1 0).bind fun q =>
 (ag b.1 1).bind fun s =>
 (cJ 4 c q b.2).bind fun d =>
 (ax 4 c d).bind fun t => some (Value.tuple #[t, s], d)) = some r) : FF ft [D, E] H = some r :=
 fo Tryz.func251 (by kernel_rfl) h
theorem yP {r : Value × AH} (h : (
 ad [.n, .f 0] D fun a =>
 (ar a H).bind fun d =>
 (FF en [D, (vi 12), (vi 0)] H).bind fun b =>
 bX (ar a b.2) (ar a H) <|
 (FF dw [d, E, b.1] b.2).bind fun c =>
 some (c.1, c.2)) = some r) : FF ij [D, E] H = some r :=
 fo Tryz.func267 (by kernel_rfl) h
theorem yO {r : Value × AH} (h : (
 (FF dt [E] H).bind fun b =>
 (ai .other .geq b.1 J).bind fun a =>
 (gV a true b.1).bind fun c =>
 (gV a true J).bind fun d =>
 (gB a true (ai .other .sub c d)).bind fun e =>
 (gV a true D).bind fun g =>
 f0 a true  [.n, .f 2] g b.2 fun i =>
 (Ab (yv a) true (fy i some) (some undef)).bind fun j =>
 (gB a true (cf (some .u64) j)).bind fun k =>
 (gB a true (ai .other .geq e k)).bind fun l =>
 (aL a l (vb false)).bind fun m =>
 some (m, b.2)) = some r) : FF ig [D, E, J] H = some r :=
 fo Tryz.func268 (by kernel_rfl) h
theorem Zd {r : Value × AH} (h : (
 aQ [(vi 0), (.slice none 0 0), (vi 0), (vw 0)] H fun a b =>
 ld [.n, .f 0] D b fun k =>
 ld [.n, .f 1] D b fun l =>
 (FF dF [k, l] b).bind fun g =>
 st 1 [.n, .f 13] D g.1 g.2 fun c =>
 ld [.n, .f 13] D c fun m =>
 (ai .other .rem m (vw 2)).bind fun o =>
 (ai .other .eql o (vw 1)).bind fun p =>
 av p
 ((FF bN [D, (.func (.func cq) #[D] #[])] c).bind fun d =>
 (ag d.1 0).bind fun q =>
 (ag d.1 1).bind fun s =>
 (cJ 4 a q d.2).bind fun i =>
 (ax 4 a i).bind fun t => some (Value.tuple #[t, s], i))
 ((FF bN [D, (.func (.func fM) #[D] #[])] c).bind fun e =>
 (ag e.1 0).bind fun w =>
 (ag e.1 1).bind fun y =>
 (cJ 4 a w e.2).bind fun j =>
 (ax 4 a j).bind fun z => some (Value.tuple #[z, y], j))) = some r) : FF pI [D, E] H = some r :=
 fo Tryz.func269 (by kernel_rfl) h
theorem NN {r : Value × AH} (h : (
 aQ [(vi 0), (.slice none 0 0), (vi 0), (vw 0)] H fun a b =>
 ld [.n, .f 11] D b fun j =>
 ld [.n, .f 1] D b fun k =>
 ld [.n, .f 12] D b fun l =>
 (FF gF [j, k, l] b).bind fun c =>
 (ot .not c.1).bind fun m =>
 av m
 ((FF bN [D, (.func (.func cq) #[D] #[])] c.2).bind fun d =>
 (ag d.1 0).bind fun o =>
 (ag d.1 1).bind fun p =>
 (cJ 4 a o d.2).bind fun g =>
 (ax 4 a g).bind fun q => some (Value.tuple #[q, p], g))
 ((FF mz [D, E, (vi 0)] c.2).bind fun s =>
 (FF bN [D, (.func (.func pH) #[D] #[])] s.2).bind fun e =>
 (ag e.1 0).bind fun t =>
 (ag e.1 1).bind fun w =>
 (cJ 4 a t e.2).bind fun i =>
 (ax 4 a i).bind fun y => some (Value.tuple #[y, w], i))) = some r) : FF kq [D, E] H = some r :=
 fo Tryz.func270 (by kernel_rfl) h
theorem NM {r : Value × AH} (h : (
 aQ [(vi 0), (.slice none 0 0), (vi 0), (vw 0)] H fun c a =>
 ld [.n, .f 0] D a fun e =>
 ld [.n, .f 1] e a fun g =>
 ld [.n, .f 1] D a fun i =>
 (FF iB [g, i] a).bind fun j =>
 (FF bN [D, (.func (.func mC) #[D] #[])] j.2).bind fun b =>
 (ag b.1 0).bind fun k =>
 (ag b.1 1).bind fun l =>
 (cJ 4 c k b.2).bind fun d =>
 (ax 4 c d).bind fun m => some (Value.tuple #[m, l], d)) = some r) : FF kp [D, E] H = some r :=
 fo Tryz.func271 (by kernel_rfl) h
theorem yS {r : Value × AH} (h : (
 (FF fU [D, E, J, (.func (.func oh) #[] #[])] H).bind fun a =>
 some (a.1, a.2)) = some r) : FF kD [D, E, J] H = some r :=
 fo Tryz.func272 (by kernel_rfl) h
theorem Ax {r : Value × AH} (h : (
 aQ [(vi 0), (.slice none 0 0), (vi 0), (vw 0)] H fun c a =>
 ld [.n, .f 0] D a fun e =>
 ld [.n, .f 2] e a fun g =>
 ld [.n, .f 1] D a fun i =>
 ld [.n, .f 6] D a fun j =>
 ld [.n, .f 10] D a fun k =>
 (FF iD [g, i, j, k] a).bind fun l =>
 (FF bf [D, (.func (.func aO) #[D] #[])] l.2).bind fun b =>
 (ag b.1 0).bind fun m =>
 (ag b.1 1).bind fun o =>
 (cJ 4 c m b.2).bind fun d =>
 (ax 4 c d).bind fun p => some (Value.tuple #[p, o], d)) = some r) : FF dM [D, E] H = some r :=
 fo Tryz.func273 (by kernel_rfl) h
theorem vO {r : Value × AH} (h : (
 ld [.n, .f 0] D H fun b =>
 hJ [(0, 1), (1, 1), (2, 1)] [(vi 0), (vi 0), (vi 0)] [(0, (vi 2))] fun c =>
 (FF dw [b, E, c] H).bind fun a =>
 some (a.1, a.2)) = some r) : FF dF [D, E] H = some r :=
 fo Tryz.func274 (by kernel_rfl) h
theorem te {r : Value × AH} (h : (
 aQ [(vi 0), (.slice none 0 0), (vi 0), (vw 0)] H fun a i =>
 (FF kS [D] i).bind fun b =>
 av b.1
 ((FF bf [D, (.func (.func cn) #[D] #[])] b.2).bind fun c =>
 (ag c.1 0).bind fun j =>
 (ag c.1 1).bind fun k =>
 (cJ 4 a j c.2).bind fun e =>
 (ax 4 a e).bind fun l => some (Value.tuple #[l, k], e))
 (st 1 [.n, .f 15] D E b.2 fun m =>
 (FF bf [D, (.func (.func cE) #[D] #[])] m).bind fun d =>
 (ag d.1 0).bind fun o =>
 (ag d.1 1).bind fun p =>
 (cJ 4 a o d.2).bind fun g =>
 (ax 4 a g).bind fun q => some (Value.tuple #[q, p], g))) = some r) : FF cw [D, E] H = some r :=
 fo Tryz.func275 (by kernel_rfl) h
theorem BR {r : Value × AH} (h : (
 aQ [(vi 0), (.slice none 0 0), (vi 0), (vw 0)] H fun a b =>
 ld [.n, .f 11] D b fun l =>
 ld [.n, .f 1] D b fun m =>
 (FF fT [l, m] b).bind fun g =>
 st 1 [.n, .f 12] D g.1 g.2 fun i =>
 ld [.n, .f 12] D i fun o =>
 (FF dX [o] i).bind fun c =>
 (ai .other .eql c.1 (vi 2)).bind fun p =>
 av p
 ((FF bN [D, (.func (.func dm) #[D] #[])] c.2).bind fun d =>
 (ag d.1 0).bind fun q =>
 (ag d.1 1).bind fun s =>
 (cJ 4 a q d.2).bind fun j =>
 (ax 4 a j).bind fun t => some (Value.tuple #[t, s], j))
 ((FF bN [D, (.func (.func fL) #[D] #[])] c.2).bind fun e =>
 (ag e.1 0).bind fun w =>
 (ag e.1 1).bind fun y =>
 (cJ 4 a w e.2).bind fun k =>
 (ax 4 a k).bind fun z => some (Value.tuple #[z, y], k))) = some r) : FF fM [D, E] H = some r :=
 fo Tryz.func281 (by kernel_rfl) h
theorem wn {r : Value × AH} (h : (
 (FF fU [D, E, J, (.func (.func od) #[] #[])] H).bind fun a =>
 some (a.1, a.2)) = some r) : FF gF [D, E, J] H = some r :=
 fo Tryz.func282 (by kernel_rfl) h
theorem Zb {r : Value × AH} (h : (
 aQ [(vi 0), (.slice none 0 0), (vi 0), (vw 0)] H fun b d =>
 (FF yb [D] d).bind fun e =>
 (FF bN [D, (.func (.func mB) #[D] #[])] e.2).bind fun a =>
 (ag a.1 0).bind fun f =>
 (ag a.1 1).bind fun g =>
 (cJ 4 b f a.2).bind fun c =>
 (ax 4 b c).bind fun i => some (Value.tuple #[i, g], c)) = some r) : FF pH [D, E] H = some r :=
 fo Tryz.func283 (by kernel_rfl) h
theorem su {r : Value × AH} (h : (
 ad [.n, .f 0] D fun a =>
 (ar a H).bind fun c =>
 (FF bI [(vi 3), (vi 0)] H).bind fun b =>
 bX (ar a b.2) (ar a H) <|
 (FF gv [c, E, b.1, (vw 4294967296)] b.2).bind fun d =>
 some (Value.tuple #[], d.2)) = some r) : FF iB [D, E] H = some r :=
 fo Tryz.func284 (by kernel_rfl) h
theorem Rb {r : Value × AH} (h : (
 aQ [(vi 0), (.slice none 0 0), (vi 0), (vw 0)] H fun a b =>
 ld [.n, .f 11] D b fun j =>
 ld [.n, .f 1] D b fun k =>
 ld [.n, .f 12] D b fun l =>
 (FF gF [j, k, l] b).bind fun c =>
 (ot .not c.1).bind fun m =>
 av m
 ((FF bN [D, (.func (.func mt) #[D] #[])] c.2).bind fun d =>
 (ag d.1 0).bind fun o =>
 (ag d.1 1).bind fun p =>
 (cJ 4 a o d.2).bind fun g =>
 (ax 4 a g).bind fun q => some (Value.tuple #[q, p], g))
 ((FF mz [D, E, (vi 0)] c.2).bind fun s =>
 (FF bN [D, (.func (.func mu) #[D] #[])] s.2).bind fun e =>
 (ag e.1 0).bind fun t =>
 (ag e.1 1).bind fun w =>
 (cJ 4 a t e.2).bind fun i =>
 (ax 4 a i).bind fun y => some (Value.tuple #[y, w], i))) = some r) : FF mC [D, E] H = some r :=
 fo Tryz.func285 (by kernel_rfl) h
theorem Ne {r : Value × AH} (h : (
 (FF dX [D] H).bind fun a =>
 (ai .other .neq a.1 (vi 0)).bind fun d =>
 av d
 (some (Value.tuple #[(vw 0), (vb false)], a.2))
 ((FF dt [D] a.2).bind fun c =>
 (FF lr [c.1, (vi 2)] c.2).bind fun b =>
 (ag b.1 0).bind fun e =>
 (ag b.1 1).bind fun f =>
 some (Value.tuple #[e, f], b.2))) = some r) : FF oh [D] H = some r :=
 fo Tryz.func286 (by kernel_rfl) h
theorem th {r : Value × AH} (h : (
 ad [.n, .f 0] D fun a =>
 (ar a H).bind fun c =>
 (FF jN [J, K] H).bind fun b =>
 bX (ar a b.2) (ar a H) <|
 (FF dL [c, E, b.1, (vw 0)] b.2).bind fun d =>
 some (Value.tuple #[], d.2)) = some r) : FF iD [D, E, J, K] H = some r :=
 fo Tryz.func287 (by kernel_rfl) h
theorem uw {r : Value × AH} (h : (
 aQ [(vi 0), (.slice none 0 0), (vi 0), (vw 0)] H fun b c =>
 ld [.n, .f 0] D c fun k =>
 ld [.n, .f 1] D c fun l =>
 (FF dF [k, l] c).bind fun a =>
 ad [.n, .f 14] D fun d =>
 (ar d a.2).bind fun m =>
 bX (ar d c) (ar d a.2) <|
 (ai .other .neq a.1 m).bind fun o =>
 av o
 ((FF bf [D, (.func (.func bq) #[D] #[])] a.2).bind fun e =>
 (ag e.1 0).bind fun p =>
 (ag e.1 1).bind fun q =>
 (cJ 4 b p e.2).bind fun i =>
 (ax 4 b i).bind fun s => some (Value.tuple #[s, q], i))
 (ld [.n, .f 15] D a.2 fun t =>
 (FF cX [D, t, (vi 8)] a.2).bind fun w =>
 (FF bf [D, (.func (.func aO) #[D] #[])] w.2).bind fun g =>
 (ag g.1 0).bind fun y =>
 (ag g.1 1).bind fun z =>
 (cJ 4 b y g.2).bind fun j =>
 (ax 4 b j).bind fun A => some (Value.tuple #[A, z], j))) = some r) : FF cE [D, E] H = some r :=
 fo Tryz.func288 (by kernel_rfl) h
theorem BO {r : Value × AH} (h : (
 aQ [(vi 0), (.slice none 0 0), (vi 0), (vw 0)] H fun b a =>
 ad [.n, .f 11] D fun d =>
 (ar d a).bind fun m =>
 ad [.n, .f 12] D fun e =>
 (ar e a).bind fun o =>
 ld [.n, .f 11] D a fun p =>
 ld [.n, .f 1] D a fun q =>
 (FF ij [p, q] a).bind fun c =>
 bX (ar d c.2) (ar d a) <|
 bX (ar e c.2) (ar e a) <|
 (FF ig [m, o, c.1] c.2).bind fun g =>
 (ot .not g.1).bind fun s =>
 av s
 ((FF bN [D, (.func (.func cq) #[D] #[])] g.2).bind fun i =>
 (ag i.1 0).bind fun t =>
 (ag i.1 1).bind fun w =>
 (cJ 4 b t i.2).bind fun k =>
 (ax 4 b k).bind fun y => some (Value.tuple #[y, w], k))
 (st 1 [.n, .f 14] D E g.2 fun z =>
 (FF bN [D, (.func (.func gu) #[D] #[])] z).bind fun j =>
 (ag j.1 0).bind fun A =>
 (ag j.1 1).bind fun B =>
 (cJ 4 b A j.2).bind fun l =>
 (ax 4 b l).bind fun C => some (Value.tuple #[C, B], l))) = some r) : FF fL [D, E] H = some r :=
 fo Tryz.func289 (by kernel_rfl) h
theorem Nb {r : Value × AH} (h : (
 (FF jO [D] H).bind fun c =>
 (ot .not c.1).bind fun a =>
 (gV a false D).bind fun i =>
 (gE a false c.2 (FF dX [i] c.2)).bind fun d =>
 (gB a false (ai .other .eql d.1 (vi 2))).bind fun j =>
 (aL a (vb true) j).bind fun b =>
 (gV b false D).bind fun k =>
 (gE b false d.2 (FF dt [k] d.2)).bind fun e =>
 (gB b false (ai .other .eql e.1 (vw 2305843009213693951))).bind fun l =>
 (aL b (vb true) l).bind fun m =>
 av m
 (some (Value.tuple #[(vw 0), (vb false)], e.2))
 ((FF dt [D] e.2).bind fun g =>
 (ai .other .add g.1 (vw 1)).bind fun n =>
 (FF lr [n, (vi 1)] g.2).bind fun f =>
 (ag f.1 0).bind fun o =>
 (ag f.1 1).bind fun p =>
 some (Value.tuple #[o, p], f.2))) = some r) : FF od [D] H = some r :=
 fo Tryz.func290 (by kernel_rfl) h
theorem Y9 {r : Value × AH} (h : (
 ad [.n, .f 11] D fun b =>
 (ar b H).bind fun i =>
 ad [.n, .f 1] D fun c =>
 (ar c H).bind fun j =>
 ld [.n, .f 12] D H fun k =>
 (FF dt [k] H).bind fun a =>
 bX (ar b a.2) (ar b H) <|
 bX (ar c a.2) (ar c H) <|
 ad [.n, .f 2, .f 1] D fun d =>
 (ar d a.2).bind fun l =>
 bX (ar d H) (ar d a.2) <|
 ad [.n, .f 2, .f 2] D fun e =>
 (ar e a.2).bind fun m =>
 bX (ar e H) (ar e a.2) <|
 ad [.n, .f 2, .f 3] D fun g =>
 (ar g a.2).bind fun o =>
 bX (ar g H) (ar g a.2) <|
 hJ [(0, 1), (1, 1), (2, 1)] [(vi 0), (vi 0), (vi 0)] [(0, l), (1, m), (2, o)] fun p =>
 (FF lL [i, j, a.1, p] a.2).bind fun q =>
 some (Value.tuple #[], q.2)) = some r) : FF yb [D] H = some r :=
 fo Tryz.func291 (by kernel_rfl) h
theorem Ra {r : Value × AH} (h : (
 aQ [(vi 0), (.slice none 0 0), (vi 0), (vw 0)] H fun g a =>
 ad [.n, .f 11] D fun c =>
 (ar c a).bind fun j =>
 ad [.n, .f 1] D fun d =>
 (ar d a).bind fun k =>
 ld [.n, .f 12] D a fun l =>
 (FF dt [l] a).bind fun b =>
 bX (ar c b.2) (ar c a) <|
 bX (ar d b.2) (ar d a) <|
 (FF ik [j, k, b.1] b.2).bind fun m =>
 (FF mv [D, (vi 0)] m.2).bind fun e =>
 (ag e.1 0).bind fun o =>
 (ag e.1 1).bind fun p =>
 (cJ 4 g o e.2).bind fun i =>
 (ax 4 g i).bind fun q => some (Value.tuple #[q, p], i)) = some r) : FF mB [D, E] H = some r :=
 fo Tryz.func292 (by kernel_rfl) h
theorem QZ {r : Value × AH} (h : (
 aQ [(vi 0), (.slice none 0 0), (vi 0), (vw 0)] H fun c a =>
 ld [.n, .f 0] D a fun e =>
 ld [.n, .f 1] e a fun g =>
 ld [.n, .f 1] D a fun i =>
 (FF gC [g, i] a).bind fun j =>
 (FF bN [D, (.func (.func cq) #[D] #[])] j.2).bind fun b =>
 (ag b.1 0).bind fun k =>
 (ag b.1 1).bind fun l =>
 (cJ 4 c k b.2).bind fun d =>
 (ax 4 c d).bind fun m => some (Value.tuple #[m, l], d)) = some r) : FF mt [D, E] H = some r :=
 fo Tryz.func293 (by kernel_rfl) h
theorem Q1 {r : Value × AH} (h : (
 aQ [(vi 0), (.slice none 0 0), (vi 0), (vw 0)] H fun b d =>
 (FF yb [D] d).bind fun e =>
 (FF bN [D, (.func (.func ku) #[D] #[])] e.2).bind fun a =>
 (ag a.1 0).bind fun f =>
 (ag a.1 1).bind fun g =>
 (cJ 4 b f a.2).bind fun c =>
 (ax 4 b c).bind fun i => some (Value.tuple #[i, g], c)) = some r) : FF mu [D, E] H = some r :=
 fo Tryz.func294 (by kernel_rfl) h
theorem Eo {r : Value × AH} (h : (
 aQ [(vi 0), (.slice none 0 0), (vi 0), (vw 0)] H fun b c =>
 ld [.n, .f 0] D c fun k =>
 ld [.n, .f 1] D c fun l =>
 (FF dF [k, l] c).bind fun a =>
 ad [.n, .f 13] D fun d =>
 (ar d a.2).bind fun m =>
 bX (ar d c) (ar d a.2) <|
 (ai .other .neq a.1 m).bind fun o =>
 av o
 ((FF bN [D, (.func (.func cq) #[D] #[])] a.2).bind fun e =>
 (ag e.1 0).bind fun p =>
 (ag e.1 1).bind fun q =>
 (cJ 4 b p e.2).bind fun i =>
 (ax 4 b i).bind fun s => some (Value.tuple #[s, q], i))
 (ld [.n, .f 14] D a.2 fun t =>
 (FF jo [D, t, (vi 9)] a.2).bind fun g =>
 (ag g.1 0).bind fun w =>
 (ag g.1 1).bind fun y =>
 (cJ 4 b w g.2).bind fun j =>
 (ax 4 b j).bind fun z => some (Value.tuple #[z, y], j))) = some r) : FF gu [D, E] H = some r :=
 fo Tryz.func295 (by kernel_rfl) h
theorem AA {r : Value × AH} (h : (
 aQ (Value.cells K).toList H fun e c =>
 ad [.n, .f 0] D fun a =>
 (ar a c).bind fun l =>
 (FF dp [D, J] c).bind fun g =>
 bX (ar a g.2) (ar a c) <|
 (FF en [D, (vi 16), g.1] g.2).bind fun j =>
 bX (ar a j.2) (ar a c) <|
 (FF gm [l, E, j.1] j.2).bind fun d =>
 ad [.n, .f 2] D fun k =>
 (ar k d.2).bind fun m =>
 (FF dp [D, J] d.2).bind fun b =>
 bX (ar k b.2) (ar k d.2) <|
 (ax 3 e b.2).bind fun o =>
 bX (ax 3 e d.2) (ax 3 e b.2) <|
 st 3 [.i 3 b.1] m o b.2 fun p =>
 some (Value.tuple #[], p)) = some r) : FF lL [D, E, J, K] H = some r :=
 fo Tryz.func296 (by kernel_rfl) h
theorem yR {r : Value × AH} (h : (
 ad [.n, .f 0] D fun a =>
 (ar a H).bind fun d =>
 (FF dp [D, J] H).bind fun b =>
 bX (ar a b.2) (ar a H) <|
 (FF en [D, (vi 15), b.1] b.2).bind fun c =>
 bX (ar a c.2) (ar a H) <|
 (ai .other .add J (vw 1)).bind fun e =>
 (FF dL [d, E, c.1, e] c.2).bind fun g =>
 some (Value.tuple #[], g.2)) = some r) : FF ik [D, E, J] H = some r :=
 fo Tryz.func297 (by kernel_rfl) h
theorem vq {r : Value × AH} (h : (
 ad [.n, .f 0] D fun a =>
 (ar a H).bind fun c =>
 (FF bI [(vi 3), (vi 0)] H).bind fun b =>
 bX (ar a b.2) (ar a H) <|
 (FF gv [c, E, b.1, (vw 1)] b.2).bind fun d =>
 some (Value.tuple #[], d.2)) = some r) : FF gC [D, E] H = some r :=
 fo Tryz.func298 (by kernel_rfl) h
theorem NP {r : Value × AH} (h : (
 aQ [(vi 0), (.slice none 0 0), (vi 0), (vw 0)] H fun g a =>
 ad [.n, .f 11] D fun c =>
 (ar c a).bind fun j =>
 ad [.n, .f 1] D fun d =>
 (ar d a).bind fun k =>
 ld [.n, .f 12] D a fun l =>
 (FF dt [l] a).bind fun b =>
 bX (ar c b.2) (ar c a) <|
 bX (ar d b.2) (ar d a) <|
 (FF ik [j, k, b.1] b.2).bind fun m =>
 (FF bN [D, (.func (.func dW) #[D] #[])] m.2).bind fun e =>
 (ag e.1 0).bind fun o =>
 (ag e.1 1).bind fun p =>
 (cJ 4 g o e.2).bind fun i =>
 (ax 4 g i).bind fun q => some (Value.tuple #[q, p], i)) = some r) : FF ku [D, E] H = some r :=
 fo Tryz.func299 (by kernel_rfl) h
theorem HF {r : Value × AH} (h : (
 aQ [(vi 0), (.slice none 0 0), (vi 0), (vw 0)] H fun c a =>
 ld [.n, .f 0] D a fun g =>
 ld [.n, .f 1] g a fun i =>
 ld [.n, .f 1] D a fun j =>
 ld [.n, .f 6] D a fun k =>
 (FF jF [i, j, k] a).bind fun d =>
 st 1 [.n, .f 15] D d.1 d.2 fun l =>
 (FF bN [D, (.func (.func my) #[D] #[])] l).bind fun b =>
 (ag b.1 0).bind fun m =>
 (ag b.1 1).bind fun o =>
 (cJ 4 c m b.2).bind fun e =>
 (ax 4 c e).bind fun p => some (Value.tuple #[p, o], e)) = some r) : FF dW [D, E] H = some r :=
 fo Tryz.func300 (by kernel_rfl) h
theorem vr {r : Value × AH} (h : (
 ad [.n, .f 0] D fun a =>
 (ar a H).bind fun e =>
 ld [.n, .f 3] D H fun g =>
 (ce g [J]).bind fun c => (FF c.1 c.2 H).bind fun b =>
 bX (ar a b.2) (ar a H) <|
 (FF dw [e, E, b.1] b.2).bind fun d =>
 some (d.1, d.2)) = some r) : FF jF [D, E, J] H = some r :=
 fo Tryz.func301 (by kernel_rfl) h
theorem Q4 {r : Value × AH} (h : (
 aQ [(vi 0), (.slice none 0 0), (vi 0), (vw 0)] H fun c a =>
 ld [.n, .f 0] D a fun e =>
 ld [.n, .f 1] e a fun g =>
 ld [.n, .f 1] D a fun i =>
 ld [.n, .f 9] D a fun j =>
 ld [.n, .f 15] D a fun k =>
 (FF i9 [g, i, j, k] a).bind fun l =>
 (FF bN [D, (.func (.func mA) #[D] #[])] l.2).bind fun b =>
 (ag b.1 0).bind fun m =>
 (ag b.1 1).bind fun o =>
 (cJ 4 c m b.2).bind fun d =>
 (ax 4 c d).bind fun p => some (Value.tuple #[p, o], d)) = some r) : FF my [D, E] H = some r :=
 fo Tryz.func302 (by kernel_rfl) h
theorem uf {r : Value × AH} (h : (
 ad [.n, .f 0] D fun a =>
 (ar a H).bind fun e =>
 ld [.n, .f 4] D H fun g =>
 (ce g [J]).bind fun c => (FF c.1 c.2 H).bind fun b =>
 bX (ar a b.2) (ar a H) <|
 (FF gm [e, E, b.1] b.2).bind fun d =>
 ld [.n, .f 2] D d.2 fun i =>
 (fj .int i J K d.2).bind fun j =>
 some (Value.tuple #[], j)) = some r) : FF i9 [D, E, J, K] H = some r :=
 fo Tryz.func303 (by kernel_rfl) h
theorem Q8 {r : Value × AH} (h : (
 aQ [(vi 0), (.slice none 0 0), (vi 0), (vw 0)] H fun b a =>
 ld [.n, .f 0] D a fun j =>
 ld [.n, .f 1] j a fun k =>
 ld [.n, .f 1] D a fun l =>
 ld [.n, .f 6] D a fun m =>
 ld [.n, .f 15] D a fun o =>
 ld [.n, .f 9] D a fun p =>
 (FF ja [k, l, m, o, p] a).bind fun c =>
 (ot .not c.1).bind fun q =>
 av q
 ((FF bN [D, (.func (.func dW) #[D] #[])] c.2).bind fun d =>
 (ag d.1 0).bind fun s =>
 (ag d.1 1).bind fun t =>
 (cJ 4 b s d.2).bind fun g =>
 (ax 4 b g).bind fun w => some (Value.tuple #[w, t], g))
 ((FF bN [D, (.func (.func pG) #[D] #[])] c.2).bind fun e =>
 (ag e.1 0).bind fun y =>
 (ag e.1 1).bind fun z =>
 (cJ 4 b y e.2).bind fun i =>
 (ax 4 b i).bind fun A => some (Value.tuple #[A, z], i))) = some r) : FF mA [D, E] H = some r :=
 fo Tryz.func304 (by kernel_rfl) h
theorem ug {r : Value × AH} (h : (
 ad [.n, .f 0] D fun a =>
 (ar a H).bind fun e =>
 ld [.n, .f 3] D H fun g =>
 (ce g [J]).bind fun c => (FF c.1 c.2 H).bind fun b =>
 bX (ar a b.2) (ar a H) <|
 (cf (some .u64) G).bind fun i =>
 (ai .other .add i (vw 1)).bind fun j =>
 (FF fO [e, E, b.1, K, j] b.2).bind fun d =>
 some (d.1, d.2)) = some r) : FF ja [D, E, J, K, G] H = some r :=
 fo Tryz.func305 (by kernel_rfl) h
theorem Y7 {r : Value × AH} (h : (
 aQ [(vi 0), (.slice none 0 0), (vi 0), (vw 0)] H fun c a =>
 ld [.n, .f 0] D a fun e =>
 ld [.n, .f 1] e a fun g =>
 ld [.n, .f 1] D a fun i =>
 (FF gC [g, i] a).bind fun j =>
 (FF mv [D, (vi 0)] j.2).bind fun b =>
 (ag b.1 0).bind fun k =>
 (ag b.1 1).bind fun l =>
 (cJ 4 c k b.2).bind fun d =>
 (ax 4 c d).bind fun m => some (Value.tuple #[m, l], d)) = some r) : FF pG [D, E] H = some r :=
 fo Tryz.func306 (by kernel_rfl) h
end
theorem Ho (n : Int) : IntKind.wrap .u64 n = n % 18446744073709551616 := by simp [IntKind.wrap, IntKind.bits, IntKind.signed]
theorem mJ {n : Int} (h0 : 0 ≤ n) (h1 : n < 18446744073709551616) : IntKind.wrap .u64 n = n := by rw [Ho]; omega
theorem pS {n : Int} (h0 : -9223372036854775808 ≤ n) (h1 : n < 9223372036854775808) : IntKind.wrap .i64 n = n := by
 simp [IntKind.wrap, IntKind.bits, IntKind.signed]
 split <;> omega
theorem t4 (a : Nat) (h : a < 18446744073709551616) : (BitVec.ofInt 64 (a : Int)).toNat = a := by
 rw [BitVec.toNat_ofInt];omega
theorem QQ {a b : Nat} (ha : a < 18446744073709551616) (hb : b < 18446744073709551616) : Go.bits .and .u64 (a : Int) (b : Int) = ((a &&& b : Nat) : Int) := by
 show IntKind.wrap .u64 (((BitVec.ofInt 64 (a : Int) &&& BitVec.ofInt 64 (b : Int)).toNat : Nat) : Int) = _;rw [BitVec.toNat_and, t4 a ha, t4 b hb];have : a &&& b ≤ a := Nat.and_le_left;exact mJ (by omega) (by omega)
theorem aw6 {a b : Nat} (ha : a < 18446744073709551616) (hb : b < 18446744073709551616) : a ||| b < 18446744073709551616 := Nat.or_lt_two_pow (n := 64) ha hb
theorem YY {a b : Nat} (ha : a < 18446744073709551616) (hb : b < 18446744073709551616) : Go.bits .or .u64 (a : Int) (b : Int) = ((a ||| b : Nat) : Int) := by
 show IntKind.wrap .u64 (((BitVec.ofInt 64 (a : Int) ||| BitVec.ofInt 64 (b : Int)).toNat : Nat) : Int) = _;rw [BitVec.toNat_or, t4 a ha, t4 b hb];have := aw6 ha hb;exact mJ (by omega) (by omega)
section
variable {cl : TCls}
theorem apU {a b : Nat} (ha : a < 18446744073709551616) (hb : b < 18446744073709551616) : ai cl .and (vu a) (vu b) = some (vu (a &&& b)) := by simp only [ai, nF, if_true, QQ ha hb]
theorem afT {a b : Nat} (ha : a < 18446744073709551616) (hb : b < 18446744073709551616) : ai cl .or (vu a) (vu b) = some (vu (a ||| b)) := by simp only [ai, nF, if_true, YY ha hb]
theorem gr {a b : Nat} (h : a + b < 18446744073709551616) : ai cl .add (vu a) (vu b) = some (vu (a + b)) := by
 simp only [ai, nF, if_true];rw [mJ (by omega) (by omega)];simp
theorem YX {a b : Nat} : ai cl .mul (vu a) (vu b) = some (vu (a * b % 18446744073709551616)) := by
 simp only [ai, nF, if_true];rw [Ho];simp
theorem Io {a b : Nat} (h : b ≤ a) (ha : a < 18446744073709551616) : ai cl .sub (vu a) (vu b) = some (vu (a - b)) := by
 simp only [ai, nF, if_true];rw [mJ (by omega) (by omega)];show some (Value.int .u64 ((a : Int) - (b : Int))) = some (Value.int .u64 ((a - b : Nat) : Int));rw [Int.ofNat_sub h]
theorem zl {a b : Nat} (h : b ≠ 0) (ha : a < 18446744073709551616) : ai cl .quo (vu a) (vu b) = some (vu (a / b)) := by
 simp only [ai, nF, if_true];rw [if_neg (by omega)];have h1 : (a : Int).tdiv (b : Int) = ((a / b : Nat) : Int) := (Int.ofNat_tdiv a b).symm;have h2 : a / b ≤ a := Nat.div_le_self a b;rw [h1]
 generalize a / b = q at h2
 rw [mJ (by omega) (by omega)]
theorem ka {a b : Nat} (h : b ≠ 0) : ai cl .rem (vu a) (vu b) = some (vu (a % b)) := by
 simp only [ai, nF, if_true];rw [if_neg (by omega)];have h1 : (a : Int).tmod (b : Int) = ((a % b : Nat) : Int) := (Int.ofNat_tmod a b).symm;rw [h1]
theorem zm {a : Nat} {k : IntKind} {n : Nat} (hn : n ≤ 64) : ai cl .shr (vu a) (.int k (n : Int)) = some (vu (a / 2 ^ n)) := by
 simp only [ai, np];rw [if_neg (by omega)];simp only [IntKind.bits, xE, Nat.min_eq_left hn]
 have : (a : Int).fdiv (2 ^ n) = ((a / 2 ^ n : Nat) : Int) := by
  rw [Int.fdiv_eq_ediv_of_nonneg _ (by exact Int.le_of_lt (Int.pow_pos (by omega)))];simp
 rw [this]
theorem In {a : Nat} {k : IntKind} {n : Nat} (hn : n ≤ 64) : ai cl .shl (vu a) (.int k (n : Int)) = some (vu (a * 2 ^ n % 18446744073709551616)) := by
 simp only [ai, np];rw [if_neg (by omega)];simp only [IntKind.bits, xE, Nat.min_eq_left hn];rw [Ho];simp
theorem aE {a b : Int} (h0 : -9223372036854775808 ≤ a + b) (h1 : a + b < 9223372036854775808) : ai cl .add (vi a) (vi b) = some (vi (a + b)) := by simp only [ai, nF, if_true, pS h0 h1]
theorem bG {a b : Int} (h0 : -9223372036854775808 ≤ a - b) (h1 : a - b < 9223372036854775808) : ai cl .sub (vi a) (vi b) = some (vi (a - b)) := by simp only [ai, nF, if_true, pS h0 h1]
theorem tA {k : IntKind} {a b : Int} : ai cl .lss (.int k a) (.int k b) = some (vb (decide (a < b))) ∧ ai cl .leq (.int k a) (.int k b) = some (vb (decide (a ≤ b))) ∧ ai cl .gtr (.int k a) (.int k b) = some (vb (decide (b < a))) ∧
 ai cl .geq (.int k a) (.int k b) = some (vb (decide (b ≤ a))) ∧ ai cl .eql (.int k a) (.int k b) = some (vb (a == b)) ∧ ai cl .neq (.int k a) (.int k b) = some (vb (a != b)) := by
 simp [ai, nF]
theorem tC {k : IntKind} {a b : Int} : ai cl .lss (.int k a) (.int k b) = some (vb (decide (a < b))) := tA.1
theorem U3 {k : IntKind} {a b : Int} : ai cl .leq (.int k a) (.int k b) = some (vb (decide (a ≤ b))) := tA.2.1
theorem J5 {k : IntKind} {a b : Int} : ai cl .gtr (.int k a) (.int k b) = some (vb (decide (b < a))) := tA.2.2.1
theorem tB {k : IntKind} {a b : Int} : ai cl .geq (.int k a) (.int k b) = some (vb (decide (b ≤ a))) := tA.2.2.2.1
theorem fB {k : IntKind} {a b : Int} : ai cl .eql (.int k a) (.int k b) = some (vb (a == b)) := tA.2.2.2.2.1
theorem tD {k : IntKind} {a b : Int} : ai cl .neq (.int k a) (.int k b) = some (vb (a != b)) := tA.2.2.2.2.2
theorem Hk {a : Bool} : ot .not (vb a) = some (vb (!a)) := rfl
theorem lR {a b : Int} : iQ [vi a, vi b] = some (vi (max a b)) := by
 simp only [iQ]
 congr 2
 split <;> omega
theorem lS {a b : Int} : j3 [vi a, vi b] = some (vi (min a b)) := by
 simp only [j3]
 congr 2
 split <;> omega
end
abbrev Hp := Nat → Option AObj
def SP : Type := Hp → Prop
theorem SP.ext {P Q : SP} (h : ∀ x, P x ↔ Q x) : P = Q := funext fun x => propext (h x)
def sep (P Q : SP) : SP := fun h => ∃ a b : Hp, (∀ i, a i = none ∨ b i = none) ∧ (h = fun i => (a i).or (b i)) ∧ P a ∧ Q b
instance : Mul SP := ⟨sep⟩
def emp : SP := fun h => h = fun _ => none
theorem al2 {α : Type} {a b : Option α} (h : a = none ∨ b = none) : a.or b = b.or a := by
 rcases h with rfl | rfl <;> simp
theorem y4 (P Q : SP) : P * Q = Q * P := by
 have one : ∀ (P Q : SP) h, sep P Q h → sep Q P h := by
  rintro P Q h ⟨a, b, hd, rfl, ha, hb⟩
  exact ⟨b, a, fun i => (hd i).symm, funext fun i => al2 (hd i), hb, ha⟩
 exact SP.ext fun h => ⟨one P Q h, one Q P h⟩
theorem aj (P Q R : SP) : P * Q * R = P * (Q * R) := by
 apply SP.ext;intro h
 constructor
 ·rintro ⟨ab, c, hd, rfl, ⟨a, b, hd2, rfl, ha, hb⟩, hc⟩
  refine ⟨a, fun i => (b i).or (c i), fun i => ?_, funext fun i => ?_, ha, b, c, fun i => ?_, rfl, hb, hc⟩
  ·have h1 := hd i
   have h2 := hd2 i
   cases ha' : a i <;> cases hb' : b i <;> cases hc' : c i <;> simp_all
  ·exact Option.or_assoc
  ·have h1 := hd i
   have h2 := hd2 i
   cases ha' : a i <;> cases hb' : b i <;> cases hc' : c i <;> simp_all
 ·rintro ⟨a, bc, hd, rfl, ha, b, c, hd2, rfl, hb, hc⟩
  refine ⟨fun i => (a i).or (b i), c, fun i => ?_, funext fun i => ?_, ⟨a, b, fun i => ?_, rfl, ha, hb⟩, hc⟩
  ·have h1 := hd i
   have h2 := hd2 i
   cases ha' : a i <;> cases hb' : b i <;> cases hc' : c i <;> simp_all
  ·exact Option.or_assoc.symm
  ·have h1 := hd i
   have h2 := hd2 i
   cases ha' : a i <;> cases hb' : b i <;> cases hc' : c i <;> simp_all
theorem dY (P : SP) : P * emp = P := by
 apply SP.ext;intro h
 constructor
 ·rintro ⟨a, b, hd, rfl, ha, hb⟩
  have hb : b = fun _ => none := hb;subst hb
  simpa using ha
 ·intro h'
  exact ⟨h, fun _ => none, fun i => .inr rfl, by simp, h', rfl⟩
theorem g7 (P : SP) : emp * P = P := by rw [y4, dY]
instance : Std.Associative (α := SP) (· * ·) := ⟨aj⟩
instance : Std.Commutative (α := SP) (· * ·) := ⟨y4⟩
theorem cu (P Q R : SP) : P * (Q * R) = Q * (P * R) := by rw [← aj, y4 P Q, aj]
def blk (b : Nat) (o : AObj) : SP := fun h => h = fun i => if i = b then some o else none
def ex {α : Type} (P : α → SP) : SP := fun h => ∃ x, P x h
def pu (p : Prop) : SP := fun h => p ∧ h = fun _ => none
def ac (P : SP) (H : AH) : Prop := ∃ h : Hp, P h ∧ ∀ i o, h i = some o → H.get i = some o
theorem ac.left {P Q : SP} {H : AH} (h : ac (P * Q) H) : ac P H := by
 obtain ⟨x, ⟨a, b, hd, rfl, ha, hb⟩, hx⟩ := h;exact ⟨a, ha, fun i o hi => hx i o (by simp [hi])⟩
theorem ac.right {P Q : SP} {H : AH} (h : ac (P * Q) H) : ac Q H := by rw [y4] at h; exact h.left
theorem ac.get {b : Nat} {o : AObj} {H : AH} (h : ac (blk b o) H) : H.get b = some o := by
 obtain ⟨x, hx, hg⟩ := h;have hx : x = _ := hx;exact hg b o (by rw [hx]; simp)
theorem ac.ex {α : Type} {F : α → SP} {R : SP} {H : AH} : ac (ex F * R) H ↔ ∃ x, ac (F x * R) H := by
 constructor
 ·rintro ⟨h, ⟨a, b, hd, rfl, ⟨x, ha⟩, hb⟩, hx⟩
  exact ⟨x, _, ⟨a, b, hd, rfl, ha, hb⟩, hx⟩
 ·rintro ⟨x, h, ⟨a, b, hd, rfl, ha, hb⟩, hx⟩
  exact ⟨_, ⟨a, b, hd, rfl, ⟨x, ha⟩, hb⟩, hx⟩
theorem ac.pu {p : Prop} {R : SP} {H : AH} : ac (pu p * R) H ↔ p ∧ ac R H := by
 constructor
 ·rintro ⟨h, ⟨a, b, hd, rfl, ⟨hp, ha⟩, hb⟩, hx⟩
  subst ha;exact ⟨hp, b, hb, fun i o hi => hx i o (by simp [hi])⟩
 ·rintro ⟨hp, h, hr, hx⟩
  exact ⟨h, ⟨fun _ => none, h, fun i => .inl rfl, by simp, ⟨hp, rfl⟩, hr⟩, hx⟩
theorem ac.emp (H : AH) : ac emp H := ⟨fun _ => none, rfl, fun i o h => by cases h⟩
theorem ac.lt {b : Nat} {o : AObj} {R : SP} {H : AH} (h : ac (blk b o * R) H) : b < H.size := AH.lt_of_get h.left.get
theorem ac.set {b : Nat} {o : AObj} {R : SP} {H : AH} (o' : AObj) (h : ac (blk b o * R) H) : ac (blk b o' * R) (H.set b o') := by
 have hb := h.lt;obtain ⟨x, ⟨a, r, hd, rfl, ha, hr⟩, hx⟩ := h;have ha : a = _ := ha;subst ha;refine ⟨_, ⟨_, r, fun i => ?_, rfl, rfl, hr⟩, fun i o2 hi => ?_⟩
 ·have := hd i
  simp only at this ⊢
  by_cases hi : i = b
  ·rw [if_pos hi] at this ⊢
   rcases this with h | h
   ·cases h
   ·exact .inr h
  ·rw [if_neg hi]; exact .inl rfl
 ·by_cases hib : i = b
  ·subst hib
   simp only [if_true, Option.some_or, Option.some.injEq] at hi;subst hi;exact AH.get_set_eq hb
  ·simp only [if_neg hib, Option.none_or] at hi
   rw [AH.get_set_ne hib];exact hx i o2 (by simp only [if_neg hib, Option.none_or]; exact hi)
theorem ac.push {R : SP} {H : AH} (o : AObj) (h : ac R H) : ac (blk H.size o * R) (H.push o) := by
 obtain ⟨r, hr, hx⟩ := h;refine ⟨_, ⟨_, r, fun i => ?_, rfl, rfl, hr⟩, fun i o2 hi => ?_⟩
 ·by_cases hi : i = H.size
  ·subst hi
   right
   cases hr' : r H.size with
   | none => rfl
   | some o' => have := AH.lt_of_get (hx _ _ hr'); omega
  ·rw [if_neg hi]; exact .inl rfl
 ·by_cases hib : i = H.size
  ·subst hib
   simp only [if_true, Option.some_or, Option.some.injEq] at hi;subst hi;exact AH.get_push_new _ _
  ·simp only [if_neg hib, Option.none_or] at hi
   have := hx i o2 hi;rw [AH.get_push_old (AH.lt_of_get this)];exact this
theorem ac.dead {b : Nat} {o : AObj} {R : SP} {H : AH} (h : ac (blk b o * R) H) : ac R (H.set b .dead) := (h.set .dead).right
class Fr (P A : SP) (R : outParam SP) : Prop where
 eq : P = A * R
instance (priority := high) Fr.refl (A : SP) : Fr A A emp := ⟨(dY A).symm⟩
instance (priority := high) Fr.emp (P : SP) : Fr P emp P := ⟨(g7 P).symm⟩
instance Fr.left (P Q A R : SP) [h : Fr P A R] : Fr (P * Q) A (R * Q) := ⟨by rw [h.eq, aj]⟩
instance Fr.right (P Q A R : SP) [h : Fr Q A R] : Fr (P * Q) A (P * R) := ⟨by rw [h.eq, cu]⟩
instance (priority := high) Fr.both (P A B R1 R2 : SP) [h1 : Fr P A R1] [h2 : Fr R1 B R2] : Fr P (A * B) R2 := ⟨by rw [h1.eq, h2.eq, aj]⟩
class Hs (P : SP) (b : Nat) (o : outParam AObj) : Prop where
 get : ∀ {H : AH}, ac P H → H.get b = some o
instance Hs.one (b : Nat) (o : AObj) : Hs (blk b o) b o := ⟨ac.get⟩
instance Hs.left (P Q : SP) (b : Nat) (o : AObj) [h : Hs P b o] : Hs (P * Q) b o := ⟨fun k => h.get k.left⟩
instance Hs.right (P Q : SP) (b : Nat) (o : AObj) [h : Hs Q b o] : Hs (P * Q) b o := ⟨fun k => h.get k.right⟩
class Up (P : SP) (b : Nat) (o' : AObj) (P' : outParam SP) : Prop where
 up : ∃ o R, P = blk b o * R ∧ P' = blk b o' * R
instance Up.one (b : Nat) (o o' : AObj) : Up (blk b o) b o' (blk b o') := ⟨o, emp, (dY _).symm, (dY _).symm⟩
instance Up.left (P Q : SP) (b : Nat) (o' : AObj) (P' : SP) [h : Up P b o' P'] : Up (P * Q) b o' (P' * Q) := ⟨by
 obtain ⟨o, R, e1, e2⟩ := h.up
 exact ⟨o, R * Q, by rw [e1, aj], by rw [e2, aj]⟩⟩
instance Up.right (P Q : SP) (b : Nat) (o' : AObj) (Q' : SP) [h : Up Q b o' Q'] : Up (P * Q) b o' (P * Q') := ⟨by
 obtain ⟨o, R, e1, e2⟩ := h.up
 exact ⟨o, P * R, by rw [e1, cu], by rw [e2, cu]⟩⟩
theorem Up.set {P P' : SP} {b : Nat} {o' : AObj} [h : Up P b o' P'] {H : AH} (k : ac P H) : ac P' (H.set b o') := by
 obtain ⟨o, R, rfl, rfl⟩ := h.up;exact k.set o'
theorem ac.fr {P A R : SP} {H : AH} (h : ac P H) [f : Fr P A R] : ac (A * R) H := by rw [← f.eq]; exact h
theorem ac.to {P A R : SP} {H : AH} (h : ac P H) [f : Fr P A R] : ac A H := h.fr.left
def wp (x : OV) (Q : Value → AH → Prop) : Prop := ∃ v H, x = some (v, H) ∧ Q v H
abbrev vp (b : Nat) : Value := .pointer (some ⟨b, 0, none⟩)
abbrev qK (b o : Nat) : Value := .pointer (some ⟨b, o, none⟩)
abbrev vs (b n e : Nat) : Value := .slice (some ⟨b, 0, none⟩) n e
theorem am {v : Value} {H : AH} {Q : Value → AH → Prop} (h : Q v H) : wp (some (v, H)) Q := ⟨v, H, rfl, h⟩
theorem wp.mono {x : OV} {Q Q' : Value → AH → Prop} (h : wp x Q) (k : ∀ v H, Q v H → Q' v H) : wp x Q' := let ⟨v, H, e, q⟩ := h; ⟨v, H, e, k v H q⟩
theorem bj {x y : OV} {Q : Value → AH → Prop} (h : ∀ r, x = some r → y = some r) (k : wp x Q) : wp y Q := let ⟨v, H, e, q⟩ := k; ⟨v, H, h _ e, q⟩
theorem ah {x y : OV} {Q : Value → AH → Prop} (h : y = x) (k : wp x Q) : wp y Q := by rw [h]; exact k
theorem aa {x : Option Value} {v : Value} {k : Value → OV} {Q : Value → AH → Prop} (e : x = some v) (h : wp (k v) Q) : wp (x.bind k) Q := by rw [e]; exact h
theorem ci {b : Bool} {x y : OV} {Q : Value → AH → Prop} (ht : b = true → wp x Q) (hf : b = false → wp y Q) : wp (av (vb b) x y) Q := by
 cases b
 ·exact hf rfl
 ·exact ht rfl
theorem ze {x y : Option Value} {k : OV} {Q : Value → AH → Prop} (e : x = y) (h : wp k Q) : wp (bX x y k) Q := by rw [auM e]; exact h
theorem JU {x : Option Value} {k : OV} {Q : Value → AH → Prop} (h : wp k Q) : wp (bX x x k) Q := ze rfl h
section
variable {P P' R : SP} {H : AH} {b o f n len e : Nat} {ro : Bool} {cs : List Value} {v x : Value} {Q : Value → AH → Prop}
theorem SH (h : ac P H) [i : Hs P b (.cells ro cs)] (hv : cs[o]? = some v) : ar (qK b o) H = some v := by
 simp only [ar, uX, ez, bO, i.get h];exact hv
theorem SJ (h : ac P H) [i : Hs P b (.cells ro cs)] (hn : o + n ≤ cs.length) : ax n (qK b o) H = some (.agg ((cs.drop o).take n).toArray) := by
 simp only [ax, uX, ez, bO, i.get h];rw [if_pos hn]
theorem aoA (h : ac P H) [i : Hs P b (.cells false cs)] (hx : x.cells.size = n) (hn : o + n ≤ cs.length) (hc : x.cells.toList.all Value.oneCell' = true) :
 cJ n (qK b o) x H = some (H.set b (.cells false (splice cs o x.cells.toList))) := by
 simp only [cJ, uX, bO, i.get h];rw [if_pos ⟨hx, hn, hc⟩]
theorem bo {k : Value → AH → OV} (h : ac P H) (hk : ∀ b H', ac (blk b (.cells false cs) * P) H' → wp (k (vp b) H') Q) : wp (aQ cs H k) Q := hk _ _ (h.push _)
theorem zg {k : Value → AH → OV} (h : ac P H) (hk : ∀ b H', ac (blk b (.map [] 0) * P) H' → wp (k (.map (some b)) H') Q) : wp (HO H k) Q := hk _ _ (h.push _)
theorem axG {k : Value → AH → OV} (h : ac P H) (hk : ∀ b H', ac (blk b (.cells false cs) * P) H' → wp (k (vs b len e) H') Q) : wp (axB len e cs H k) Q := hk _ _ (h.push _)
theorem JV {zero : List Value} {xs : List (Nat × Value)} {k : Value → AH → OV} (h : ac P H) (hf : dq (arQ e) (List.replicate len zero).flatten xs = some cs) (hk : ∀ b H', ac (blk b (.cells false cs) * P) H' → wp (k (vs b len e) H') Q) :
 wp (z5 len e zero xs H k) Q := by
 unfold z5;rw [hf];exact axG h hk
theorem Ql {ps : List (Nat × Nat)} {zero : List Value} {xs : List (Nat × Value)} {k : Value → OV} (hf : dq (fun i => ps[i]?) zero xs = some cs) (hk : wp (k (.agg cs.toArray)) Q) : wp (hJ ps zero xs k) Q := by
 unfold hJ;rw [hf];exact hk
theorem Yz {n : Nat} {a : Option Addr} {k : Value → OV} (hk : wp (k (vi n)) Q) : wp (fy (.slice a n e) k) Q := hk
theorem awS {R : Type} {b o f : Nat} {p : List Stp} {k : Value → Option R} : ad (.f f :: p) (qK b o) k = ad p (qK b (o + f)) k := rfl
theorem YQ {R : Type} {b o n e i : Nat} {c : Nat} {p : List Stp} {kk : IntKind} {k : Value → Option R} (h : i < n) : ad (.i e (.int kk (i : Int)) :: p) (.slice (some ⟨b, o, none⟩) n c) k = ad p (qK b (o + i * e)) k := by
 show (pK e (.slice (some ⟨b, o, none⟩) n c) (.int kk (i : Int))).bind _ = _;simp only [pK];rw [if_pos (by omega)];simp
theorem at8 {R : Type} {b o n e i : Nat} {p : List Stp} {kk : IntKind} {k : Value → Option R} (h : i < n) : ad (.a n e (.int kk (i : Int)) :: p) (qK b o) k = ad p (qK b (o + i * e)) k := by
 show (jp n e (qK b o) (.int kk (i : Int))).bind _ = _;simp only [jp];rw [if_pos (by omega)];simp
def Qy (p : List Stp) (x : Value) (b o : Nat) : Prop := ∀ {R : Type} (k : Value → Option R), ad p x k = k (qK b o)
theorem be : Qy [] (qK b o) b o := fun _ => rfl
theorem cj {p : List Stp} {b' o' : Nat} (h : Qy p (qK b o) b' o') : Qy (.n :: p) (qK b o) b' o' := fun k => h k
theorem aP {p : List Stp} {b' o' : Nat} (h : Qy p (qK b (o + f)) b' o') : Qy (.f f :: p) (qK b o) b' o' := fun k => h k
theorem Vf {p : List Stp} {b' o' i c : Nat} {kk : IntKind} (hi : i < n) (h : Qy p (qK b (o + i * e)) b' o') : Qy (.i e (.int kk (i : Int)) :: p) (.slice (some ⟨b, o, none⟩) n c) b' o' := fun k => by rw [YQ hi]; exact h k
theorem ae : Qy [.n, .f f] (vp b) b f := fun k => by
 show k (qK b (0 + f)) = _;rw [Nat.zero_add]
theorem aB : Qy [.f f] (vp b) b f := fun k => by
 show k (qK b (0 + f)) = _;rw [Nat.zero_add]
class afC (l : List Value) (o : Nat) (v : Value) (l' : outParam (List Value)) : Prop where
 eq : o < l.length ∧ l' = l.set o v
instance afC.zero (a : Value) (l : List Value) (v : Value) : afC (a :: l) 0 v (v :: l) := ⟨by simp⟩
instance afC.succ (a : Value) (l : List Value) (o : Nat) (v : Value) (l' : List Value) [h : afC l o v l'] : afC (a :: l) (o + 1) v (a :: l') := ⟨by
 obtain ⟨h1, rfl⟩ := h.eq
 exact ⟨by simp; exact h1, by simp⟩⟩
class wF (l : List Value) (o : Nat) (xs : List Value) (l' : outParam (List Value)) : Prop where
 eq : o + xs.length ≤ l.length ∧ l' = splice l o xs
instance wF.here0 (l : List Value) : wF l 0 [] l := ⟨by simp [splice]⟩
instance wF.here (a x : Value) (l xs l' : List Value) [h : wF l 0 xs l'] : wF (a :: l) 0 (x :: xs) (x :: l') := ⟨by
 obtain ⟨h1, rfl⟩ := h.eq
 refine ⟨by simp at h1 ⊢; exact h1, by simp [splice]⟩⟩
instance wF.on (a : Value) (l : List Value) (o : Nat) (x : Value) (xs l' : List Value) [h : wF l o (x :: xs) l'] : wF (a :: l) (o + 1) (x :: xs) (a :: l') := ⟨by
 obtain ⟨h1, rfl⟩ := h.eq;refine ⟨by simp at h1 ⊢; omega, ?_⟩;simp only [splice, List.take_succ_cons, List.cons_append, List.cons.injEq, true_and]
 congr 1
 rw [show o + 1 + (x :: xs).length = (o + (x :: xs).length) + 1 from by omega, List.drop_succ_cons]⟩
class DJ (l : List Value) (o n : Nat) (l' : outParam (List Value)) : Prop where
 eq : o + n ≤ l.length ∧ l' = (l.drop o).take n
instance DJ.nil (l : List Value) : DJ l 0 0 [] := ⟨by simp⟩
instance DJ.here (a : Value) (l : List Value) (n : Nat) (l' : List Value) [h : DJ l 0 n l'] : DJ (a :: l) 0 (n + 1) (a :: l') := ⟨by
 obtain ⟨h1, rfl⟩ := h.eq
 exact ⟨by simp at h1 ⊢; exact h1, by simp⟩⟩
instance DJ.on (a : Value) (l : List Value) (o n : Nat) (l' : List Value) [h : DJ l o (n + 1) l'] : DJ (a :: l) (o + 1) (n + 1) l' := ⟨by
 obtain ⟨h1, rfl⟩ := h.eq
 exact ⟨by simp at h1 ⊢; omega, by simp⟩⟩
class wD (v : Value) (l : outParam (List Value)) : Prop where
 eq : v.cells.toList = l
instance wD.int (k : IntKind) (n : Int) : wD (.int k n) [.int k n] := ⟨rfl⟩
instance wD.bool (b : Bool) : wD (.bool b) [.bool b] := ⟨rfl⟩
instance wD.slice (a : Option Addr) (n c : Nat) : wD (.slice a n c) [.slice a n c] := ⟨rfl⟩
instance wD.ptr (a : Option Addr) : wD (.pointer a) [.pointer a] := ⟨rfl⟩
instance wD.func (f : Fn) (a b : Array Value) : wD (.func f a b) [.func f a b] := ⟨rfl⟩
instance wD.nilFunc : wD .nilFunc [.nilFunc] := ⟨rfl⟩
instance wD.map (m : Option Nat) : wD (.map m) [.map m] := ⟨rfl⟩
instance wD.string (s : ByteArray) : wD (.string s) [.string s] := ⟨rfl⟩
instance wD.agg (l : List Value) : wD (.agg l.toArray) l := ⟨by simp [Value.cells]⟩
class YK (ps : List (Nat × Nat)) (i : Nat) (o n : outParam Nat) : Prop where
 eq : ps[i]? = some (o, n)
instance YK.zero (p : Nat × Nat) (ps : List (Nat × Nat)) : YK (p :: ps) 0 p.1 p.2 := ⟨rfl⟩
instance YK.succ (p : Nat × Nat) (ps : List (Nat × Nat)) (i o n : Nat) [h : YK ps i o n] : YK (p :: ps) (i + 1) o n := ⟨by simpa using h.eq⟩
class QE (l : List Value) (n : Nat) : Prop where
 eq : l.length = n
instance QE.nil : QE [] 0 := ⟨rfl⟩
instance QE.cons (a : Value) (l : List Value) (n : Nat) [h : QE l n] : QE (a :: l) (n + 1) := ⟨by simp [h.eq]⟩
class YJ (ps : List (Nat × Nat)) (zero : List Value) (xs : List (Nat × Value)) (cs : outParam (List Value)) : Prop where
 eq : dq (fun i => ps[i]?) zero xs = some cs
instance YJ.nil (ps : List (Nat × Nat)) (zero : List Value) : YJ ps zero [] zero := ⟨rfl⟩
instance YJ.cons (ps : List (Nat × Nat)) (zero z l cs : List Value) (i o n : Nat) (v : Value) (xs : List (Nat × Value)) [h1 : YK ps i o n] [h2 : wD v l] [h3 : QE l n] [h4 : wF zero o l z] [h5 : YJ ps z xs cs] : YJ ps zero ((i, v) :: xs) cs := ⟨by
 obtain ⟨h6, rfl⟩ := h4.eq;have h7 := h2.eq;have h8 := h3.eq;subst h7;simp only [dq, h1.eq, bO];rw [if_pos ⟨by simpa using h8, by rw [← h8]; exact h6⟩]
 exact h5.eq⟩
class at6 (e : Nat) (zero : List Value) (xs : List (Nat × Value)) (cs : outParam (List Value)) : Prop where
 eq : dq (arQ e) (List.replicate 1 zero).flatten xs = some cs
instance at6.one (e : Nat) (zero l z : List Value) (v : Value) [h2 : wD v l] [h3 : QE l e] [h4 : wF zero 0 l z] : at6 e zero [(0, v)] z := ⟨by
 obtain ⟨h6, rfl⟩ := h4.eq;have h7 := h2.eq;have h8 := h3.eq;subst h7
 have hz : (List.replicate 1 zero).flatten = zero := by simp
 rw [hz];simp only [dq, arQ, bO, Nat.zero_mul]
 rw [if_pos ⟨by simpa using h8, by rw [← h8]; exact h6⟩]⟩
theorem bD {p : List Stp} {k : Value → OV} (hp : Qy p x b o) (hk : wp (k (qK b o)) Q) : wp (ad p x k) Q := by rw [hp k]; exact hk
theorem ak {p : List Stp} {k : Value → OV} (h : ac P H) (hp : Qy p x b o) [i : Hs P b (.cells ro cs)] (hv : cs[o]? = some v) (hk : wp (k v) Q) : wp (ld p x H k) Q := by
 unfold ld;rw [hp, SH h hv];exact hk
theorem Hm {l : List Value} {p : List Stp} {k : Value → OV} (h : ac P H) (hp : Qy p x b o) [i : Hs P b (.cells ro cs)] [s : DJ cs o n l] (hk : wp (k (.agg l.toArray)) Q) : wp (ldN n p x H k) Q := by
 obtain ⟨hn, rfl⟩ := s.eq;unfold ldN;rw [hp, SJ h hn];exact hk
theorem bg {cs' l : List Value} {p : List Stp} {k : AH → OV} (h : ac P H) (hp : Qy p x b o) [i : Hs P b (.cells false cs)] [c : wD v l] [s : wF cs o l cs'] (hx : l.length = n) (hc : l.all Value.oneCell' = true)
 [u : Up P b (.cells false cs') P'] (hk : ∀ H', ac P' H' → wp (k H') Q) : wp (st n p x v H k) Q := by
 obtain ⟨hn, rfl⟩ := s.eq;have hl := c.eq;subst hl;unfold st;rw [hp, aoA h (by simpa using hx) (by simp at hx hn; omega) hc];exact hk _ (u.set h)
theorem aN {k : Value → OV} (h : ac P H) [i : Hs P b (.cells ro cs)] (hv : cs[o]? = some v) (hk : wp (k v) Q) : wp ((ar (qK b o) H).bind k) Q := aa (SH h hv) hk
theorem aR {l : List Value} {k : Value → OV} (h : ac P H) [i : Hs P b (.cells ro cs)] [s : DJ cs o n l] (hk : wp (k (.agg l.toArray)) Q) : wp ((ax n (qK b o) H).bind k) Q := by
 obtain ⟨hn, rfl⟩ := s.eq;exact aa (SJ h hn) hk
theorem eM {cs' l : List Value} {k : AH → OV} (h : ac P H) [i : Hs P b (.cells false cs)] [c : wD v l] [s : wF cs o l cs'] (hx : l.length = n) (hc : l.all Value.oneCell' = true)
 [u : Up P b (.cells false cs') P'] (hk : ∀ H', ac P' H' → wp (k H') Q) : wp ((cJ n (qK b o) v H).bind k) Q := by
 obtain ⟨hn, rfl⟩ := s.eq;have hl := c.eq;subst hl;rw [aoA h (by simpa using hx) (by simp at hx hn; omega) hc];exact hk _ (u.set h)
theorem aS {l : List Value} {k : Value → AH → OV} (h : ac P H) [c : wD x l] (hk : ∀ b H', ac (blk b (.cells false l) * P) H' → wp (k (vp b) H') Q) : wp (aQ (Value.cells x).toList H k) Q := by
 rw [c.eq]; exact bo h hk
theorem jq {ps : List (Nat × Nat)} {zero : List Value} {xs : List (Nat × Value)} {k : Value → OV} [f : YJ ps zero xs cs] (hk : wp (k (.agg cs.toArray)) Q) : wp (hJ ps zero xs k) Q := Ql f.eq hk
theorem Qi {zero : List Value} {xs : List (Nat × Value)} {k : Value → AH → OV} (h : ac P H) [f : at6 e zero xs cs] (hk : ∀ b H', ac (blk b (.cells false cs) * P) H' → wp (k (vs b 1 e) H') Q) : wp (z5 1 e zero xs H k) Q := JV h f.eq hk
theorem aH {P2 : SP} {H2 : AH} {ro2 : Bool} {cs2 : List Value} {k : OV} (h : ac P H) (h2 : ac P2 H2) [i : Hs P b (.cells ro cs)] [i2 : Hs P2 b (.cells ro2 cs2)] (e : cs[o]? = cs2[o]?) (hk : wp k Q) :
 wp (bX (ar (qK b o) H) (ar (qK b o) H2) k) Q := by
 refine ze ?_ hk;simp only [ar, uX, ez, bO, i.get h, i2.get h2];exact e
theorem dB {P2 : SP} {H2 : AH} {ro2 : Bool} {cs2 : List Value} {k : OV} (h : ac P H) (h2 : ac P2 H2) [i : Hs P b (.cells ro cs)] [i2 : Hs P2 b (.cells ro2 cs2)] (e : cs = cs2) (hk : wp k Q) :
 wp (bX (ax n (qK b o) H) (ax n (qK b o) H2) k) Q := by
 refine ze ?_ hk;simp only [ax, uX, ez, bO, i.get h, i2.get h2, e]
def Sp {α : Type} (f : Nat) (args : List Value) (P : SP) (v : α → Value) (Q : α → SP) : Prop := ∀ R H, ac (P * R) H → ∃ x H', FF f args H = some (v x, H') ∧ ac (Q x * R) H'
theorem aK {α : Type} {f : Nat} {args : List Value} {P : SP} {v : α → Value} {Q : α → SP} (h : ∀ R H, ac (P * R) H → wp (FF f args H) fun v' H' => ∃ x, v' = v x ∧ ac (Q x * R) H') : Sp f args P v Q := by
 intro R H hh;obtain ⟨v', H', e, x, rfl, hq⟩ := h R H hh;exact ⟨x, H', e, hq⟩
theorem aY {α : Type} {f : Nat} {args : List Value} {P : SP} {v : α → Value} {Q : α → SP} {g : AH → OV} (hf : ∀ (H : AH) {r : Value × AH}, g H = some r → FF f args H = some r) (k : ∀ (R : SP) (H : AH), ac (P * R) H → wp (g H) fun v' H' => ∃ x, v' = v x ∧ ac (Q x * R) H') : Sp f args P v Q := aK fun R H h => bj (fun r => hf H) (k R H h)
theorem af {α : Type} {f : Nat} {args : List Value} {P0 : SP} {v : α → Value} {Q0 : α → SP} {k : Value × AH → OV} (h : ac P H) (s : Sp f args P0 v Q0) [fr : Fr P P0 R] (hk : ∀ x H', ac (Q0 x * R) H' → wp (k (v x, H')) Q) : wp ((FF f args H).bind k) Q := by
 obtain ⟨x, H', e, h'⟩ := s R H h.fr;rw [e];exact hk x H' h'
end
def sl (e : Nat) (v : Value) (n : Nat) (cs : List Value) : SP := ex fun ob : Option Nat => match ob with
 | none => pu (v = .slice none 0 0 ∧ n = 0 ∧ cs = [])
 | some b => pu (v = vs b n e ∧ cs.length = n * e) * blk b (.cells false cs)
theorem Yo {R : SP} {H : AH} (e : Nat) (h : ac R H) : ac (sl e (.slice none 0 0) 0 [] * R) H := ac.ex.2 ⟨none, ac.pu.2 ⟨⟨rfl, rfl, rfl⟩, h⟩⟩
theorem y8 {R : SP} {H : AH} {e b n : Nat} {cs : List Value} (hl : cs.length = n * e) (h : ac (blk b (.cells false cs) * R) H) : ac (sl e (vs b n e) n cs * R) H :=
 ac.ex.2 ⟨some b, by rw [aj]; exact ac.pu.2 ⟨⟨rfl, hl⟩, h⟩⟩
theorem ud {R : SP} {H : AH} {e n : Nat} {v : Value} {cs : List Value} (h : ac (sl e v n cs * R) H) : (v = .slice none 0 0 ∧ n = 0 ∧ cs = [] ∧ ac R H) ∨ ∃ b, v = vs b n e ∧ cs.length = n * e ∧ ac (blk b (.cells false cs) * R) H := by
 obtain ⟨ob, h⟩ := ac.ex.1 h
 cases ob with
 | none =>
  obtain ⟨⟨h1, h2, h3⟩, h4⟩ := ac.pu.1 h;exact .inl ⟨h1, h2, h3, h4⟩
 | some b =>
  simp only [aj] at h;obtain ⟨⟨h1, h2⟩, h4⟩ := ac.pu.1 h;exact .inr ⟨b, h1, h2, h4⟩
class Sl (P : SP) (e : Nat) (v : Value) (n : outParam Nat) (cs : outParam (List Value)) (R : outParam SP) : Prop where
 eq : P = sl e v n cs * R
instance (priority := high) Sl.refl (e n : Nat) (v : Value) (cs : List Value) : Sl (sl e v n cs) e v n cs emp := ⟨(dY _).symm⟩
instance Sl.left (P Q R : SP) (e n : Nat) (v : Value) (cs : List Value) [h : Sl P e v n cs R] : Sl (P * Q) e v n cs (R * Q) := ⟨by rw [h.eq, aj]⟩
instance Sl.right (P Q R : SP) (e n : Nat) (v : Value) (cs : List Value) [h : Sl Q e v n cs R] : Sl (P * Q) e v n cs (P * R) := ⟨by rw [h.eq, cu]⟩
theorem Sl.fr {P R : SP} (e : Nat) {n : Nat} (v : Value) {cs : List Value} [h : Sl P e v n cs R] {H : AH} (k : ac P H) : ac (sl e v n cs * R) H := by rw [← h.eq]; exact k
section
variable {P P' R : SP} {H : AH} {b o n m e k : Nat} {ro : Bool} {cs xcs : List Value} {v s x : Value} {Q : Value → AH → Prop}
theorem at1 {bytes : Nat} {kk : Value × AH → OV} (h : ac P H) [f : Sl P e s n cs R] [i : Hs R b (.cells ro xcs)] (hl : xcs.length = k * e) (he : 0 < e) (hk0 : 0 < k) (hc : xcs.all Value.oneCell' = true)
 (hr : (n + k) * bytes ≤ dc ∧ n + k ≤ dc) (hk : ∀ a c H', ac (sl e (.slice a (n + k) c) (n + k) (cs ++ xcs) * R) H' → wp (kk (.slice a (n + k) c, H')) Q) : wp ((eJ e bytes s (vs b k e) H).bind kk) Q := by
 have hf := Sl.fr e s h;have hg := i.get hf.right
 have hrow : mj e (vs b k e) H = some (k, xcs) := by
  simp only [mj, ez, hg, bO];rw [if_neg (by omega), if_pos (by omega)];simp [← hl]
 unfold eJ;rw [hrow];simp only [bO];rw [if_pos ⟨hc, he⟩]
 rcases ud hf with ⟨rfl, rfl, rfl, h'⟩ | ⟨b', rfl, hcl, h'⟩
 ·simp only [and_self, if_true]
  rw [if_neg (by omega), if_pos (by simpa using hr)];simp only [bO, Nat.zero_add, List.nil_append] at hk ⊢;exact hk _ _ _ (y8 hl (h'.push _))
 ·simp only
  have hgb := h'.left.get;rw [if_neg (by omega), if_neg (by omega), hgb];simp only;rw [if_pos ⟨trivial, by omega, hr.1, hr.2⟩];simp only [bO, List.drop_zero];rw [← hcl, List.take_length];have h2 := h'.dead.push (.cells false (cs ++ xcs));rw [AH.size_set] at h2;exact hk _ _ _ (y8 (by rw [f2, hcl, hl, Nat.add_mul]) h2)
end
abbrev dj := Int × Int × Int
def e8 (l : dj) : Value := .agg #[vi l.1, vi l.2.1, vi l.2.2]
instance wD.loc (l : dj) : wD (e8 l) [vi l.1, vi l.2.1, vi l.2.2] := ⟨rfl⟩
structure Ev where
 who : Int
 kind : Int
 loc : dj
deriving DecidableEq
def Ev.cells (e : Ev) : List Value := [vi e.who, vi e.kind, vi e.loc.1, vi e.loc.2.1, vi e.loc.2.2]
def pX (E : List Ev) : List Value := E.flatMap Ev.cells
theorem Ki (E : List Ev) (x : Ev) : pX (E ++ [x]) = pX E ++ x.cells := by simp [pX]
section
variable {α : Type} {enc : α → List Value} {e : Nat}
theorem iM (he : ∀ x, (enc x).length = e) (l : List α) : (l.flatMap enc).length = l.length * e := by
 induction l with
 | nil => simp
 | cons x l ih => rw [List.flatMap_cons, f2, he, ih, List.length_cons, Nat.add_mul]; omega
theorem abV (he : ∀ x, (enc x).length = e) : ∀ (l : List α) (i : Nat), (l.flatMap enc).drop (i * e) = (l.drop i).flatMap enc := by
 intro l
 induction l with
 | nil => intro i; simp
 | cons x l ih =>
  intro i
  cases i with
  | zero => simp
  | succ i =>
   rw [List.flatMap_cons, List.drop_append, he, show (i + 1) * e - e = i * e from by rw [Nat.add_mul]; omega, ih, List.drop_eq_nil_of_le (by rw [he, Nat.add_mul]; omega)]
   rfl
theorem mY (l : List α) (i : Nat) (hi : i < l.length) : l.flatMap enc = (l.take i).flatMap enc ++ (enc l[i] ++ (l.drop (i + 1)).flatMap enc) := by
 rw [← List.flatMap_cons, ← List.flatMap_append, List.getElem_cons_drop, List.take_append_drop]
theorem FI (l : List α) (i : Nat) (hi : i < l.length) (y : α) : (l.set i y).flatMap enc = (l.take i).flatMap enc ++ (enc y ++ (l.drop (i + 1)).flatMap enc) := by
 rw [← List.flatMap_cons, ← List.flatMap_append, List.set_eq_take_append_cons_drop, if_pos hi]
theorem tk (he : ∀ x, (enc x).length = e) (l : List α) (i : Nat) (hi : i < l.length) : ((l.take i).flatMap enc).length = i * e := by
 rw [iM he, List.length_take, Nat.min_eq_left (by omega)]
theorem Dm (he : ∀ x, (enc x).length = e) (l : List α) (i : Nat) (hi : i < l.length) : ((l.flatMap enc).drop (i * e)).take e = enc l[i] := by
 rw [mY l i hi, List.drop_append, tk he l i hi, Nat.sub_self, List.drop_zero, List.drop_eq_nil_of_le (by rw [tk he l i hi]; omega), List.nil_append, List.take_append, he, Nat.sub_self, List.take_zero, List.append_nil,
  List.take_of_length_le (by rw [he]; omega)]
theorem vo (he : ∀ x, (enc x).length = e) (l : List α) (i : Nat) (hi : i < l.length) (f : Nat) (hf : f < e) : (l.flatMap enc)[i * e + f]? = (enc l[i])[f]? := by
 rw [mY l i hi, List.getElem?_append_right (by rw [tk he l i hi]; omega), tk he l i hi, List.getElem?_append_left (by rw [he]; omega)]
 congr 1
 omega
theorem Un (A X B xs : List Value) (f : Nat) (h : f + xs.length ≤ X.length) : splice (A ++ (X ++ B)) (A.length + f) xs = A ++ (splice X f xs ++ B) := by
 unfold splice;rw [List.take_append, List.take_append, List.drop_append, List.drop_append, List.take_of_length_le (by omega), List.drop_eq_nil_of_le (by omega)]
 have e1 : A.length + f - A.length = f := by omega
 have e2 : A.length + f + xs.length - A.length = f + xs.length := by omega
 have e3 : f + xs.length - X.length = 0 := by omega
 have e4 : f - X.length = 0 := by omega
 rw [e1, e2, e3, e4];simp
theorem A6 (he : ∀ x, (enc x).length = e) (l : List α) (i : Nat) (hi : i < l.length) (f : Nat) (xs : List Value) (hf : f + xs.length ≤ e) (y : α) (hy : splice (enc l[i]) f xs = enc y) :
 splice (l.flatMap enc) (i * e + f) xs = (l.set i y).flatMap enc := by
 rw [mY l i hi, FI l i hi, ← tk he l i hi, Un _ _ _ _ _ (by rw [he]; exact hf), hy]
end
def ts {α : Type} (e : Nat) (enc : α → List Value) (v : Value) (l : List α) : SP := sl e v l.length (l.flatMap enc)
class Enc {α : Type} (enc : α → List Value) (e : outParam Nat) : Prop where
 len : ∀ x, (enc x).length = e
 one : ∀ x, (enc x).all Value.oneCell' = true
 pos : 0 < e
class Ts (P : SP) (s : Value) (α : outParam Type) (e : outParam Nat) (enc : outParam (α → List Value)) (l : outParam (List α)) (R : outParam SP) : Prop where
 eq : P = ts e enc s l * R
instance (priority := high) Ts.refl {α : Type} (e : Nat) (enc : α → List Value) (s : Value) (l : List α) : Ts (ts e enc s l) s α e enc l emp := ⟨(dY _).symm⟩
instance Ts.left {α : Type} (P Q R : SP) (e : Nat) (enc : α → List Value) (s : Value) (l : List α) [h : Ts P s α e enc l R] : Ts (P * Q) s α e enc l (R * Q) := ⟨by rw [h.eq, aj]⟩
instance Ts.right {α : Type} (P Q R : SP) (e : Nat) (enc : α → List Value) (s : Value) (l : List α) [h : Ts Q s α e enc l R] : Ts (P * Q) s α e enc l (P * R) := ⟨by rw [h.eq, cu]⟩
class Tu (P : SP) (s : Value) {α : Type} (l' : List α) (P' : outParam SP) : Prop where
 up : ∃ e enc, ∃ (l : List α), ∃ R, P = ts e enc s l * R ∧ P' = ts e enc s l' * R
theorem dZ {α : Type} {R : SP} {H : AH} (e : Nat) (enc : α → List Value) (h : ac R H) : ac (ts e enc (.slice none 0 0) [] * R) H := Yo e h
section
variable {α : Type} {P P' R : SP} {H : AH} {b o e : Nat} {ro : Bool} {enc : α → List Value} {l : List α} {xcs : List Value} {s : Value} {Q : Value → AH → Prop}
theorem oE (h : ac P H) [f : Ts P s α e enc l R] : (s = .slice none 0 0 ∧ l = [] ∧ ac R H) ∨ ∃ b, s = vs b l.length e ∧ ac (blk b (.cells false (l.flatMap enc)) * R) H := by
 have h' : ac (ts e enc s l * R) H := by rw [← f.eq]; exact h
 rcases ud h' with ⟨h1, h2, _, h4⟩ | ⟨b, h1, _, h3⟩
 ·exact .inl ⟨h1, List.eq_nil_of_length_eq_zero h2, h4⟩
 ·exact .inr ⟨b, h1, h3⟩
theorem ue {b : Nat} [E : Enc enc e] (h : ac (blk b (.cells false (l.flatMap enc)) * R) H) : ac (ts e enc (vs b l.length e) l * R) H := y8 (iM E.len l) h
theorem oW {k : Value → OV} (h : ac P H) [f : Ts P s α e enc l R] (hk : wp (k (vi l.length)) Q) : wp (fy s k) Q := by
 rcases oE (f := f) h with ⟨rfl, rfl, _⟩ | ⟨b, rfl, _⟩
 ·exact hk
 ·exact hk
theorem gY {bytes : Nat} {kk : Value × AH → OV} (x : α) (h : ac P H) [f : Ts P s α e enc l R] [i : Hs R b (.cells ro xcs)] [E : Enc enc e] (hx : xcs = enc x)
 (hr : (l.length + 1) * bytes ≤ dc) (hb : 0 < bytes) (hk : ∀ a c H', ac (ts e enc (.slice a (l.length + 1) c) (l ++ [x]) * R) H' → wp (kk (.slice a (l.length + 1) c, H')) Q) : wp ((eJ e bytes s (vs b 1 e) H).bind kk) Q := by
 have h' : ac (sl e s l.length (l.flatMap enc) * R) H := by
  have : P = ts e enc s l * R := f.eq;rw [this] at h;exact h
 subst hx;refine at1 (k := 1) (ro := ro) (xcs := enc x) h' (by rw [E.len]; omega) E.pos (by omega) (E.one x) ⟨hr, ?_⟩ fun a c H' h2 => hk a c H' ?_
 ·have : l.length + 1 ≤ (l.length + 1) * bytes := Nat.le_mul_of_pos_right _ hb
  omega
 ·have e1 : (l ++ [x]).length = l.length + 1 := by simp
  have e2 : (l ++ [x]).flatMap enc = l.flatMap enc ++ enc x := by simp
  unfold ts;rw [e1, e2];rw [g7] at h2;exact h2
theorem UC {k : Value → OV} {i : Nat} {kk : IntKind} (h : ac P H) [f : Ts P s α e enc l R] [E : Enc enc e] (hi : i < l.length) (hk : wp (k (.agg (enc l[i]).toArray)) Q) : wp (ldN e [.i e (.int kk (i : Int))] s H k) Q := by
 rcases oE (f := f) h with ⟨_, rfl, _⟩ | ⟨b, rfl, h'⟩
 ·simp at hi
 ·unfold ldN
  rw [Vf hi be];have hlen := iM E.len l;have hm : (i + 1) * e ≤ l.length * e := Nat.mul_le_mul_right _ (by omega);rw [Nat.add_mul] at hm;have := SJ (b := b) (cs := l.flatMap enc) (ro := false) (n := e) (o := 0 + i * e) h' (by omega);rw [this, bO, Nat.zero_add, Dm E.len l i hi];exact hk
theorem av6 {k : Value → OV} {i : Nat} {kk : IntKind} {v : Value} (h : ac P H) [f : Ts P s α 1 enc l R] [E : Enc enc 1] (hi : i < l.length) (hv : enc l[i] = [v]) (hk : wp (k v) Q) : wp (ld [.i 1 (.int kk (i : Int))] s H k) Q := by
 rcases oE (f := f) h with ⟨_, rfl, _⟩ | ⟨b, rfl, h'⟩
 ·simp at hi
 ·unfold ld
  rw [Vf hi be]
  have := SH (b := b) (o := 0 + i * 1) (v := v) h' (by
   have := vo E.len l i hi 0 (by omega);rw [Nat.add_zero] at this
   rw [Nat.zero_add, this, hv]; rfl)
  rw [this];exact hk
theorem JW {n : Nat} {p : List Stp} {k : AH → OV} {i g : Nat} {kk : IntKind} {v : Value} {xs : List Value} (y : α) (h : ac P H) [f : Ts P s α e enc l R] [E : Enc enc e] (hi : i < l.length) (hp : p = [.i e (.int kk (i : Int))] ∧ g = 0 ∨ p = [.i e (.int kk (i : Int)), .f g])
 [c : wD v xs] (hn : xs.length = n) (hg : g + n ≤ e) (hx : xs.all Value.oneCell' = true) (hy : splice (enc l[i]) g xs = enc y) (hk : ∀ H', ac (ts e enc s (l.set i y) * R) H' → wp (k H') Q) : wp (st n p s v H k) Q := by
 rcases oE (f := f) h with ⟨_, rfl, _⟩ | ⟨b, rfl, h'⟩
 ·simp at hi
 ·have hend : Qy p (vs b l.length e) b (i * e + g) := by
   rcases hp with ⟨rfl, rfl⟩ | rfl
   ·intro R' k'
    rw [Vf hi be];simp
   ·intro R' k'
    rw [Vf hi (aP be)];simp
  unfold st;have hc := c.eq;subst hc;rw [hend];have hlen := iM E.len l;have hm : (i + 1) * e ≤ l.length * e := Nat.mul_le_mul_right _ (by omega);rw [Nat.add_mul] at hm;rw [aoA h' (by simpa using hn) (by omega) hx, bO, A6 E.len l i hi g _ (by rw [hn]; exact hg) y hy];refine hk _ ?_;have h2 := h'.set (.cells false ((l.set i y).flatMap enc));have h3 := ue (e := e) (enc := enc) (l := l.set i y) h2;rw [OY] at h3;exact h3
end
instance : Enc Ev.cells 5 := ⟨fun _ => rfl, fun _ => rfl, by omega⟩
def eF (n : Int) : List Value := [vi n]
instance : Enc eF 1 := ⟨fun _ => rfl, fun _ => rfl, by omega⟩
def awN (H : AH) (s : Value) (e n : Nat) (cs : List Value) : Prop :=
 cs.length = n * e ∧ ((∃ a c, s = .slice a 0 c ∧ n = 0 ∧ (a = none → c = 0) ∧ (∀ x, a = some x → ∃ b o, x = ⟨b, o, none⟩)) ∨ ∃ b o ro row, s = .slice (some ⟨b, o, none⟩) n e ∧ H.get b = some (.cells ro row) ∧ o + n * e ≤ row.length ∧ (row.drop o).take (n * e) = cs)
class Rd {α : outParam Type} (P : SP) (s : Value) (e : outParam Nat) (enc : outParam (α → List Value)) (l : outParam (List α)) : Prop where
 rd : ∀ {H : AH}, ac P H → awN H s e l.length (l.flatMap enc)
instance Rd.left {α : Type} (P Q : SP) (s : Value) (e : Nat) (enc : α → List Value) (l : List α) [r : Rd P s e enc l] : Rd (P * Q) s e enc l := ⟨fun h => r.rd h.left⟩
instance Rd.right {α : Type} (P Q : SP) (s : Value) (e : Nat) (enc : α → List Value) (l : List α) [r : Rd Q s e enc l] : Rd (P * Q) s e enc l := ⟨fun h => r.rd h.right⟩
instance Rd.own {α : Type} (s : Value) (e : Nat) (enc : α → List Value) (l : List α) : Rd (ts e enc s l) s e enc l := ⟨by
 intro H h
 have h' : ac (ts e enc s l * emp) H := by rw [dY]; exact h
 rcases ud h' with ⟨rfl, h2, h3, _⟩ | ⟨b, rfl, hc, h4⟩
 ·exact ⟨by rw [h3, h2]; simp, .inl ⟨none, 0, rfl, h2, fun _ => rfl, fun x hx => by cases hx⟩⟩
 ·exact ⟨hc, .inr ⟨b, 0, false, _, rfl, h4.left.get, by omega, by rw [List.drop_zero, ← hc, List.take_length]⟩⟩⟩
section
variable {α : Type} {P R : SP} {H : AH} {e n : Nat} {enc : α → List Value} {l m : List α} {s : Value} {Q : Value → AH → Prop}
theorem fv {k : Value → OV} (h : ac P H) [r : Rd P s e enc l] (hk : wp (k (vi l.length)) Q) : wp (fy s k) Q := by
 obtain ⟨_, ⟨a, c, rfl, hn, _⟩ | ⟨b, o, ro, row, rfl, _⟩⟩ := r.rd h
 ·rw [hn] at hk; exact hk
 ·exact hk
theorem avK {R' : Type} {k : Value → Option R'} (h : ac P H) [r : Rd P s e enc l] : fy s k = k (vi l.length) := by
 obtain ⟨_, ⟨a, c, rfl, hn, _⟩ | ⟨b, o, ro, row, rfl, _⟩⟩ := r.rd h
 ·rw [hn]; rfl
 ·rfl
theorem i4 {k : Value → OV} (h : ac P H) [r : Rd P s e enc l] (hk : wp (k (vi l.length)) Q) : wp ((fy s some).bind k) Q := by
 rw [avK h]; exact hk
theorem GE (h : ac P H) [r : Rd P s e enc l] [E : Enc enc e] {i : Nat} (hi : i < l.length) : ∃ b o ro row, s = .slice (some ⟨b, o, none⟩) l.length e ∧ H.get b = some (.cells ro row) ∧ o + l.length * e ≤ row.length ∧ (row.drop o).take (l.length * e) = l.flatMap enc := by
 obtain ⟨_, ⟨a, c, rfl, hn, _⟩ | ⟨b, o, ro, row, h1, h2⟩⟩ := r.rd h
 ·omega
 ·exact ⟨b, o, ro, row, h1, h2⟩
theorem XU [E : Enc enc e] {row : List Value} {o i g : Nat} (h : (row.drop o).take (l.length * e) = l.flatMap enc) (hi : i < l.length) (hg : g < e) : row[o + i * e + g]? = (enc l[i])[g]? := by
 rw [← vo E.len l i hi g hg, ← h];have hm : (i + 1) * e ≤ l.length * e := Nat.mul_le_mul_right _ (by omega);rw [Nat.add_mul] at hm;rw [List.getElem?_take, if_pos (by omega), List.getElem?_drop]
 congr 1; omega
theorem am0 {i g : Nat} {kk : IntKind} {v : Value} (h : ac P H) [r : Rd P s e enc l] [E : Enc enc e] (hi : i < l.length) (hg : g < e) (hv : (enc l[i])[g]? = some v) {R' : Type} {p : List Stp} (hp : p = [.i e (.int kk (i : Int)), .f g] ∨ p = [.i e (.int kk (i : Int))] ∧ g = 0) {k : Value → Option R'} :
 ld p s H k = k v := by
 obtain ⟨b, o, ro, row, rfl, h2, h3, h4⟩ := GE (s := s) (enc := enc) (l := l) h hi
 have hend : ad p (.slice (some ⟨b, o, none⟩) l.length e) = fun k' : Value → Option R' => k' (qK b (o + i * e + g)) := by
  rcases hp with rfl | ⟨rfl, rfl⟩
  ·funext k'; rw [YQ hi, awS]; rfl
  ·funext k'; rw [YQ hi]; rfl
 unfold ld;rw [hend];show (ar (qK b (o + i * e + g)) H).bind k = k v
 have : ar (qK b (o + i * e + g)) H = some v := by
  simp only [ar, uX, ez, bO, h2];rw [XU h4 hi hg, hv]
 rw [this]; rfl
theorem aoY {k : Value → OV} {i g : Nat} {kk : IntKind} {v : Value} (h : ac P H) [r : Rd P s e enc l] [E : Enc enc e] (hi : i < l.length) (hg : g < e) (hv : (enc l[i])[g]? = some v) (hk : wp (k v) Q) : wp (ld [.i e (.int kk (i : Int)), .f g] s H k) Q := by
 rw [am0 h hi hg hv (.inl rfl)]; exact hk
theorem jf {k : Value → OV} {i : Nat} {kk : IntKind} {v : Value} {enc : α → List Value} (h : ac P H) [r : Rd P s 1 enc l] [E : Enc enc 1] (hi : i < l.length) (hv : enc l[i] = [v]) (hk : wp (k v) Q) : wp (ld [.i 1 (.int kk (i : Int))] s H k) Q := by
 rw [am0 (g := 0) (v := v) h hi (by omega) (by rw [hv]; rfl) (.inr ⟨rfl, rfl⟩)]; exact hk
theorem wx {k : Value → OV} {i : Nat} {kk : IntKind} (h : ac P H) [r : Rd P s e enc l] [E : Enc enc e] (hi : i < l.length) (hk : wp (k (.agg (enc l[i]).toArray)) Q) : wp (ldN e [.i e (.int kk (i : Int))] s H k) Q := by
 obtain ⟨b, o, ro, row, rfl, h2, h3, h4⟩ := GE (s := s) (enc := enc) (l := l) h hi;unfold ldN;rw [YQ hi];have hm : (i + 1) * e ≤ l.length * e := Nat.mul_le_mul_right _ (by omega);rw [Nat.add_mul] at hm
 have : ax e (qK b (o + i * e)) H = some (.agg (enc l[i]).toArray) := by
  simp only [ax, uX, ez, bO, h2];rw [if_pos (by omega)]
  congr 3
  rw [← Dm E.len l i hi, ← h4, List.drop_take, List.drop_drop, List.take_take, Nat.min_eq_left (by omega)]
 show wp ((ax e (qK b (o + i * e)) H).bind k) Q;rw [this]; exact hk
theorem am1 {lo hi : Option Value} {a b : Nat} (h : ac P H) [r : Rd P s e enc l] [E : Enc enc e] (hlo : (lo = none ∧ a = 0) ∨ ∃ k, lo = some (.int k (a : Int))) (hhi : (hi = none ∧ b = l.length) ∨ ∃ k, hi = some (.int k (b : Int))) (h1 : a ≤ b) (h2 : b ≤ l.length) (h0 : 0 < l.length) :
 ∃ s', fV e s lo hi = some s' ∧ Rd P s' e enc ((l.take b).drop a) := by
 have hlen : ((l.take b).drop a).length = b - a := by rw [List.length_drop, List.length_take, Nat.min_eq_left h2]
 have hfl : (((l.take b).drop a).flatMap enc).length = (b - a) * e := by rw [iM E.len, hlen]
 have hsub : ((l.take b).drop a).flatMap enc = ((l.flatMap enc).drop (a * e)).take ((b - a) * e) := by
  have e2 : (l.drop a).take (b - a) = (l.take b).drop a := by rw [List.drop_take]
  rw [abV E.len, ← e2]
  have gen : ∀ (m : List α) (k : Nat), k ≤ m.length → (m.take k).flatMap enc = (m.flatMap enc).take (k * e) := by
   intro m
   induction m with
   | nil => intro k hk; simp
   | cons x m ih =>
    intro k hk
    cases k with
    | zero => simp
    | succ k =>
     rw [List.take_succ_cons, List.flatMap_cons, List.flatMap_cons, ih k (by simpa using hk), List.take_append, E.len, List.take_of_length_le (l := enc x) (by rw [E.len, Nat.add_mul]; omega)]
     congr 2
     rw [Nat.add_mul, Nat.one_mul, Nat.add_sub_cancel]
  exact gen _ _ (by rw [List.length_drop]; omega)
 obtain ⟨h0, ⟨a0, c, rfl, hn, hc0, ha0⟩ | ⟨b0, o, ro, row, rfl, _⟩⟩ := r.rd h
 ·omega
 ·refine ⟨.slice (some ⟨b0, o + a * e, none⟩) (b - a) e, ?_, ⟨fun {H'} h' => ?_⟩⟩
  ·have hpos := E.pos
   have hab : (0 : Int) ≤ a ∧ (a : Int) ≤ b ∧ (b : Int) ≤ l.length := by omega
   rcases hlo with ⟨rfl, rfl⟩ | ⟨k1, rfl⟩ <;> rcases hhi with ⟨rfl, rfl⟩ | ⟨k2, rfl⟩ <;> simp only [fV, oo, bO]
   ·rw [if_pos (by omega)]; simp [hpos]
   ·rw [if_pos (by omega)]; simp [hpos]
   ·rw [if_pos (by omega)]; simp [hpos]
   ·rw [if_pos (by omega)]; simp [hpos]
  ·obtain ⟨h0', hr⟩ := r.rd h'
   refine ⟨by rw [hfl, hlen], .inr ?_⟩
   rcases hr with ⟨a1, c1, e1, hn, _, _⟩ | ⟨b1, o1, ro1, row1, e1, g1, g2, g3⟩
   ·omega
   ·obtain ⟨rfl, rfl⟩ : b1 = b0 ∧ o1 = o := by
     have := e1; simp at this; exact ⟨this.1.symm, this.2.symm⟩
    have hm : b * e ≤ l.length * e := Nat.mul_le_mul_right _ h2;have hm2 : a * e ≤ b * e := Nat.mul_le_mul_right _ h1;have hm3 : (b - a) * e = b * e - a * e := Nat.sub_mul ..;rw [hlen];refine ⟨b1, o1 + a * e, ro1, row1, rfl, g1, by omega, ?_⟩;rw [hsub, ← g3, List.drop_take, List.drop_drop, List.take_take, Nat.min_eq_left (by omega)]
end
def Xg (H0 : AH) : SP := fun h => h = fun i => H0.get i
theorem IQ (H0 : AH) : ac (Xg H0) H0 := ⟨_, rfl, fun i o h => h⟩
class Fx (P : SP) (H0 : AH) : Prop where
 fx : ∀ {H : AH}, ac P H → ∀ b o, H0.get b = some o → H.get b = some o
instance Fx.refl (H0 : AH) : Fx (Xg H0) H0 := ⟨by
 rintro H ⟨x, hx, hg⟩ b o hb
 have hx : x = _ := hx
 exact hg b o (by rw [hx]; exact hb)⟩
instance Fx.left (P Q : SP) (H0 : AH) [f : Fx P H0] : Fx (P * Q) H0 := ⟨fun h => f.fx h.left⟩
instance Fx.right (P Q : SP) (H0 : AH) [f : Fx Q H0] : Fx (P * Q) H0 := ⟨fun h => f.fx h.right⟩
theorem lF.flat {α : Type} {R : α → List Value → Prop} {enc : α → List Value} (hf : ∀ x c, R x c → c = enc x) {l : List α} {row : List Value} (h : lF R l row) : row = l.flatMap enc := by
 induction h with
 | nil => rfl
 | cons h1 _ ih => rw [hf _ _ h1, ih]; rfl
theorem Rd.arg {H0 : AH} {t : Ty} {enc : t.I → List Value} {l : List t.I} {v : Value} [E : Enc enc t.w] (hf : ∀ x c, Abs H0 t x c → c = enc x) (h : Abs H0 (.slice t) l [v]) : Rd (Xg H0) v t.w enc l := ⟨fun {H} hH => by
 refine ⟨iM E.len l, ?_⟩
 rcases h with ⟨rfl, e⟩ | ⟨rfl, b, e⟩ | ⟨b, row, h1, e, h3, _⟩
 ·obtain rfl : v = .slice none 0 0 := by simpa using e
  exact .inl ⟨none, 0, rfl, rfl, fun _ => rfl, fun x hx => by cases hx⟩
 ·obtain rfl : v = .slice (some ⟨b, 0, none⟩) 0 0 := by simpa using e
  exact .inl ⟨_, 0, rfl, rfl, (fun h => by cases h), fun x hx => ⟨b, 0, (iP hx).symm⟩⟩
 ·obtain rfl : v = .slice (some ⟨b, 0, none⟩) l.length t.w := by simpa using e
  have hrow := h3.flat hf;refine .inr ⟨b, 0, true, row, rfl, (Fx.refl H0).fx hH b _ h1, ?_, ?_⟩
  ·rw [hrow, iM E.len]; omega
  ·rw [List.drop_zero, hrow, ← iM E.len l, List.take_length]⟩
section
variable {α : Type} {P R : SP} {H : AH} {e : Nat} {enc : α → List Value} {l m : List α} {s x : Value} {Q : Value → AH → Prop}
theorem AM {bytes : Nat} {kk : Value × AH → OV} (h : ac P H) [f : Ts P s α e enc l R] [rd : Rd R x e enc m] [E : Enc enc e] (hr : (l.length + m.length) * bytes ≤ dc) (hb : 0 < bytes)
 (hk : ∀ v H', ac (ts e enc v (l ++ m) * R) H' → wp (kk (v, H')) Q) : wp ((eJ e bytes s x H).bind kk) Q := by
 have h' : ac (ts e enc s l * R) H := by rw [← f.eq]; exact h
 obtain ⟨hc, ⟨a, c, rfl, hn, _, hax⟩ | ⟨b, o, ro, row, rfl, hg, hle, hrow⟩⟩ := rd.rd h'.right
 ·have hm : m = [] := List.eq_nil_of_length_eq_zero hn
  subst hm
  have hpr : mj e (.slice a 0 c) H = some (0, []) := by
   cases a with
   | none => simp [mj]
   | some y => obtain ⟨b, o, rfl⟩ := hax y rfl; simp [mj]
  unfold eJ;rw [hpr];simp only [bO];rw [if_pos ⟨rfl, E.pos⟩]
  rcases ud h' with ⟨rfl, h2, h3, h4⟩ | ⟨b', rfl, h2, h4⟩
  ·simp only [and_self, if_true, bO]
   refine hk _ _ ?_;rw [List.append_nil]; exact h'
  ·simp only [if_true, bO]
   refine hk _ _ ?_;rw [List.append_nil]; exact h'
 ·by_cases hm0 : m.length = 0
  ·have hm : m = [] := List.eq_nil_of_length_eq_zero hm0
   subst hm;unfold eJ
   have hpr : mj e (.slice (some ⟨b, o, none⟩) ([] : List α).length e) H = some (0, []) := by simp [mj]
   rw [hpr];simp only [bO];rw [if_pos ⟨rfl, E.pos⟩]
   rcases ud h' with ⟨rfl, h2, h3, h4⟩ | ⟨b', rfl, h2, h4⟩
   ·simp only [and_self, if_true, bO]
    refine hk _ _ ?_;rw [List.append_nil]; exact h'
   ·simp only [if_true, bO]
    refine hk _ _ ?_;rw [List.append_nil]; exact h'
  ·have hpr : mj e (.slice (some ⟨b, o, none⟩) m.length e) H = some (m.length, m.flatMap enc) := by
    simp only [mj, ez, hg, bO];rw [if_neg hm0, if_pos hle, hrow]
   have hall : (m.flatMap enc).all Value.oneCell' = true := by
    rw [List.all_eq_true];intro y hy;obtain ⟨z, _, hz⟩ := List.mem_flatMap.1 hy;exact List.all_eq_true.1 (E.one z) y hz
   have hroom : l.length + m.length ≤ (l.length + m.length) * bytes := Nat.le_mul_of_pos_right _ hb;unfold eJ;rw [hpr];simp only [bO];rw [if_pos ⟨hall, E.pos⟩]
   have e1 : (l ++ m).length = l.length + m.length := by simp
   have e2 : (l ++ m).flatMap enc = l.flatMap enc ++ m.flatMap enc := by simp
   have hmul : (l.length + m.length) * e = l.length * e + m.length * e := Nat.add_mul ..
   rcases ud h' with ⟨rfl, h2, h3, h4⟩ | ⟨b', rfl, h2, h4⟩
   ·simp only [and_self, if_true]
    rw [h2, Nat.zero_add] at hr hroom;rw [if_neg hm0, if_pos ⟨hr, by omega⟩];simp only [bO];refine hk _ _ ?_;unfold ts;rw [e1, e2, h3, h2, List.nil_append, Nat.zero_add];exact y8 hc (h4.push _)
   ·have hgb := h4.left.get
    have hpos := E.pos;simp only;rw [if_neg hm0, if_neg (by omega), hgb];simp only;rw [if_pos ⟨trivial, by omega, hr, by omega⟩];simp only [bO, List.drop_zero];rw [← h2, List.take_length];have h5 := h4.dead.push (.cells false (l.flatMap enc ++ m.flatMap enc));rw [AH.size_set] at h5;refine hk _ _ ?_;unfold ts;rw [e1, e2];exact y8 (by rw [f2, h2, hc]; omega) h5
theorem GP {z : α} {zero : List Value} (hz : enc z = zero) : ∀ n : Nat, (List.replicate n zero).flatten = (List.replicate n z).flatMap enc := by
 intro n
 induction n with
 | zero => rfl
 | succ n ih => rw [List.replicate_succ, List.replicate_succ, List.flatten_cons, List.flatMap_cons, ih, hz]
theorem M7 {zero : List Value} {bytes n : Nat} {kk : Value × AH → OV} (z : α) (h : ac P H) [E : Enc enc e] (hz : enc z = zero) (hr : n * bytes ≤ dc) (hb : 0 < bytes) (hk : ∀ b H', ac (ts e enc (vs b n e) (List.replicate n z) * P) H' → wp (kk (vs b n e, H')) Q) :
 wp ((nl zero e bytes (vi n) (vi n) H).bind kk) Q := by
 have hroom : n ≤ n * bytes := Nat.le_mul_of_pos_right _ hb
 have hz2 : zero.length = e := by rw [← hz, E.len]
 unfold nl;simp only [xE];rw [if_pos ⟨by omega, trivial, hr, by omega, E.pos, hz2⟩];simp only [bO];refine hk _ _ ?_;have h2 := h.push (.cells false (List.replicate n zero).flatten);rw [GP hz] at h2 ⊢;have h3 := ue (e := e) (enc := enc) (l := List.replicate n z) h2;rw [List.length_replicate] at h3;exact h3
end
class KeyE {κ : Type} [DecidableEq κ] (cl : outParam KCls) (ek : κ → Value) : Prop where
 eq : ∀ a b, lk cl (ek a) (ek b) = some (decide (a = b))
 ok : ∀ a, jm cl (ek a) = true
inductive Ents {κ : Type} (ek : κ → Value) : List (κ × Value) → List MapEntry → Prop
 | nil : Ents ek [] []
 | cons {p : κ × Value} {l : List (κ × Value)} {e : MapEntry} {es : List MapEntry} (h1 : e.key = ek p.1) (h2 : e.val = p.2) (k : Ents ek l es) : Ents ek (p :: l) (e :: es)
section
variable {κ : Type} [DecidableEq κ] {ek : κ → Value} {cl : KCls}
def L5 : List (κ × Value) → κ → Option Value
 | [], _ => none
 | p :: al, k => if k = p.1 then some p.2 else L5 al k
def L6 : List (κ × Value) → κ → Value → List (κ × Value)
 | [], k, v => [(k, v)]
 | p :: al, k, v => if k = p.1 then (k, v) :: al else p :: L6 al k v
theorem ak9 (k : κ) (v : Value) (x : κ) : ∀ al, L5 (L6 al k v) x = if x = k then some v else L5 al x := by
 intro al
 induction al with
 | nil => simp only [L6, L5]
 | cons p al ih =>
  simp only [L6]
  by_cases hk : k = p.1
  ·rw [if_pos hk]
   simp only [L5]
   by_cases hx : x = k
   ·simp [hx]
   ·have : ¬ x = p.1 := by rw [← hk]; exact hx
    simp [hx, this]
  ·rw [if_neg hk]
   simp only [L5, ih]
   by_cases hx : x = p.1
   ·have : ¬ x = k := by rw [hx]; exact fun h => hk h.symm
    simp [hx];intro h; exact absurd h.symm hk
   ·simp [hx]
theorem au7 [K : KeyE cl ek] {al : List (κ × Value)} {es : List MapEntry} (h : Ents ek al es) (k : κ) : ∀ i, ∃ r, bu cl (ek k) es i = some r ∧ r.map (·.2) = L5 al k := by
 induction h with
 | nil => intro i; exact ⟨none, rfl, rfl⟩
 | @cons p l e es h1 h2 _ ih =>
  intro i;simp only [bu, h1, K.eq, bO, L5]
  by_cases hp : k = p.1
  ·rw [if_pos (by simp [hp]), if_pos hp]
   exact ⟨_, rfl, by simp [h2]⟩
  ·rw [if_neg (by simp [hp]), if_neg hp]
   exact ih (i + 1)
theorem aw2 [K : KeyE cl ek] {al : List (κ × Value)} {es : List MapEntry} (h : Ents ek al es) (k : κ) (v : Value) : ∀ i, match bu cl (ek k) es i with
 | some (some (j, _)) => i ≤ j ∧ Ents ek (L6 al k v) (es.modify (j - i) fun e => { e with key := ek k, val := v })
 | some none => ∀ born, Ents ek (L6 al k v) (es ++ [{ key := ek k, val := v, born := born }])
 | none => False := by
 induction h with
 | nil => intro i born; exact .cons rfl rfl .nil
 | @cons p l e es h1 h2 hh ih =>
  intro i;simp only [bu, h1, K.eq, bO, L6]
  by_cases hp : k = p.1
  ·rw [if_pos (show decide (k = p.1) = true by simp [hp]), if_pos hp]
   refine ⟨bA _, ?_⟩;simp only [Nat.sub_self];exact .cons rfl rfl hh
  ·rw [if_neg (show ¬ decide (k = p.1) = true by simp [hp]), if_neg hp]
   have hi := ih (i + 1)
   cases hf : bu cl (ek k) es (i + 1) with
   | none => rw [hf] at hi; exact hi
   | some r =>
    rw [hf] at hi
    cases r with
    | none => intro born; exact .cons h1 h2 (hi born)
    | some r =>
     obtain ⟨j, v'⟩ := r;simp only at hi ⊢;refine ⟨by omega, ?_⟩;rw [show j - i = (j - (i + 1)) + 1 from by omega];exact .cons h1 h2 hi.2
def mpS (ek : κ → Value) (b : Nat) (f : κ → Option Value) : SP := ex fun g : List (κ × Value) × List MapEntry × Nat => pu (Ents ek g.1 g.2.1 ∧ ∀ k, L5 g.1 k = f k) * blk b (.map g.2.1 g.2.2)
class Mp (P : SP) (b : Nat) {κ : Type} [DecidableEq κ] (ek : κ → Value) (f : outParam (κ → Option Value)) (R : outParam SP) : Prop where
 eq : P = mpS ek b f * R
instance (priority := high) Mp.refl {κ : Type} [DecidableEq κ] (b : Nat) (ek : κ → Value) (f : κ → Option Value) : Mp (mpS ek b f) b ek f emp := ⟨(dY _).symm⟩
instance Mp.left {κ : Type} [DecidableEq κ] (P Q R : SP) (b : Nat) (ek : κ → Value) (f : κ → Option Value) [h : Mp P b ek f R] : Mp (P * Q) b ek f (R * Q) := ⟨by rw [h.eq, aj]⟩
instance Mp.right {κ : Type} [DecidableEq κ] (P Q R : SP) (b : Nat) (ek : κ → Value) (f : κ → Option Value) [h : Mp Q b ek f R] : Mp (P * Q) b ek f (P * R) := ⟨by rw [h.eq, cu]⟩
theorem Xs {R : SP} {H : AH} {b : Nat} (ek : κ → Value) (h : ac (blk b (.map [] 0) * R) H) : ac (mpS ek b (fun _ => none) * R) H :=
 ac.ex.2 ⟨([], [], 0), by rw [aj]; exact ac.pu.2 ⟨⟨.nil, fun _ => rfl⟩, h⟩⟩
theorem YB {P R : SP} {H : AH} {b : Nat} {f : κ → Option Value} {zero : Value} {kk : Value → OV} {Q : Value → AH → Prop} [K : KeyE cl ek] (k : κ) (h : ac P H) [m : Mp P b ek f R]
 (hk : wp (kk ((f k).getD zero)) Q) : wp ((cY cl zero (.map (some b)) (ek k) false H).bind kk) Q := by
 have h' : ac (mpS ek b f * R) H := by rw [← m.eq]; exact h
 obtain ⟨⟨al, es, c⟩, h'⟩ := ac.ex.1 h';rw [aj, ac.pu] at h';obtain ⟨⟨he, hf⟩, h'⟩ := h';dsimp only at he hf h';obtain ⟨r, h1, h2⟩ := au7 he k 0;refine aa ?_ hk;unfold cY;rw [if_pos (K.ok k)];simp only [kE, h'.left.get, bO, h1, fA];rw [← hf k, ← h2]
 cases r <;> rfl
theorem aoW {P R : SP} {H : AH} {b : Nat} {f : κ → Option Value} {kk : AH → OV} {Q : Value → AH → Prop} [K : KeyE cl ek] (k : κ) (v : Value) (h : ac P H) [m : Mp P b ek f R]
 (hk : ∀ H', ac (mpS ek b (fun x => if x = k then some v else f x) * R) H' → wp (kk H') Q) : wp ((fj cl (.map (some b)) (ek k) v H).bind kk) Q := by
 have h' : ac (mpS ek b f * R) H := by rw [← m.eq]; exact h
 obtain ⟨⟨al, es, c⟩, h'⟩ := ac.ex.1 h';rw [aj, ac.pu] at h';obtain ⟨⟨he, hf⟩, h'⟩ := h';dsimp only at he hf h';have hu := aw2 he k v 0;unfold fj;rw [if_pos (K.ok k)];simp only [h'.left.get]
 have fin : ∀ {es' : List MapEntry} {c' : Nat}, Ents ek (L6 al k v) es' → ac (mpS ek b (fun x => if x = k then some v else f x) * R) (H.set b (.map es' c')) := fun {es'} {c'} he' =>
  ac.ex.2 ⟨(L6 al k v, es', c'), by
   rw [aj]
   exact ac.pu.2 ⟨⟨he', fun x => by rw [ak9, hf]⟩, h'.set _⟩⟩
 cases hf' : bu cl (ek k) es 0 with
 | none => rw [hf'] at hu; exact absurd hu id
 | some r =>
  rw [hf'] at hu
  cases r with
  | none =>
   simp only [fA, bO];exact hk _ (fin (hu c))
  | some r =>
   obtain ⟨j, v'⟩ := r;simp only [fA, bO];exact hk _ (fin hu.2)
end
section
variable {cl : TCls} {w : Nat}
theorem atS : ai cl .shr (vu w) (vw 61) = some (vu (w / 2305843009213693952)) := by
 have := zm (cl := cl) (a := w) (k := .u64) (n := 61) (by omega)
 simpa using this
theorem axE : ai cl .shr (vu w) (vw 32) = some (vu (w / 4294967296)) := by
 have := zm (cl := cl) (a := w) (k := .u64) (n := 32) (by omega)
 simpa using this
theorem UN (k : Nat) (hw : w < 18446744073709551616) (hk : 2 ^ k - 1 < 18446744073709551616) : ai cl .and (vu w) (.int .u64 ((2 ^ k - 1 : Nat) : Int)) = some (vu (w % 2 ^ k)) := by
 have := apU (cl := cl) hw hk;rw [Nat.and_two_pow_sub_one_eq_mod] at this;exact this
theorem awU (hw : w < 18446744073709551616) : ai cl .and (vu w) (vw 2305843009213693951) = some (vu (w % 2305843009213693952)) := by
 have := UN (cl := cl) 61 hw (by omega)
 simpa using this
theorem awT (hw : w < 18446744073709551616) : ai cl .and (vu w) (vw 4294967295) = some (vu (w % 4294967296)) := by
 have := UN (cl := cl) 32 hw (by omega)
 simpa using this
theorem Jo (n : Nat) (h : n ≠ 0) : ai cl .rem (vu w) (.int .u64 (n : Int)) = some (vu (w % n)) := ka h
theorem atP (n : Nat) (h : n ≠ 0) (hw : w < 18446744073709551616) : ai cl .quo (vu w) (.int .u64 (n : Int)) = some (vu (w / n)) := zl h hw
theorem atK (n : Nat) : ai cl .mul (vu w) (.int .u64 (n : Int)) = some (vu (w * n % 18446744073709551616)) := YX
theorem aw5 (h : w * 2305843009213693952 < 18446744073709551616) : ai cl .mul (vu w) (vw 2305843009213693952) = some (vu (w * 2305843009213693952)) := by
 have := atK (cl := cl) (w := w) 2305843009213693952;rw [Nat.mod_eq_of_lt h] at this
 simpa using this
theorem aw4 : ai cl .mul (vu w) (vw 4294967296) = some (vu (w * 4294967296 % 18446744073709551616)) := by
 have := atK (cl := cl) (w := w) 4294967296
 simpa using this
theorem axA : ai cl .rem (vu w) (vw 2305843009213693952) = some (vu (w % 2305843009213693952)) := by
 have := Jo (cl := cl) (w := w) 2305843009213693952 (by omega)
 simpa using this
theorem aw8 (hw : w < 18446744073709551616) : ai cl .quo (vu w) (vw 2305843009213693952) = some (vu (w / 2305843009213693952)) := by
 have := atP (cl := cl) (w := w) 2305843009213693952 (by omega) hw
 simpa using this
theorem aw9 : ai cl .rem (vu w) (vw 4294967296) = some (vu (w % 4294967296)) := by
 have := Jo (cl := cl) (w := w) 4294967296 (by omega)
 simpa using this
theorem aw7 (hw : w < 18446744073709551616) : ai cl .quo (vu w) (vw 4294967296) = some (vu (w / 4294967296)) := by
 have := atP (cl := cl) (w := w) 4294967296 (by omega) hw
 simpa using this
theorem iS {w : Nat} (hw : w < 9223372036854775808) : cf (some .i64) (vu w) = some (vi (w : Int)) := by
 simp only [cf];rw [pS (by omega) (by omega)]
theorem dU {n : Int} (h0 : 0 ≤ n) (h1 : n < 18446744073709551616) : cf (some .u64) (vi n) = some (vu n.toNat) := by
 simp only [cf];rw [mJ h0 h1];show _ = some (Value.int .u64 ((n.toNat : Nat) : Int));rw [Int.toNat_of_nonneg h0]
end
theorem atM {cl : TCls} {a b : Nat} : ai cl .neq (vu a) (vu b) = some (vb (a != b)) := by
 rw [tD]
 congr 2
 rw [Bool.eq_iff_iff];simp;omega
theorem as1 {cl : TCls} {a b : Nat} : ai cl .eql (vu a) (vu b) = some (vb (a == b)) := by
 rw [fB]
 congr 2
 rw [Bool.eq_iff_iff];simp;omega
theorem asX {cl : TCls} {a b : Nat} : ai cl .add (vu a) (vu b) = some (vu ((a + b) % 18446744073709551616)) := by
 simp only [ai, nF, if_true];rw [Ho];simp
theorem agI (a b : dj) : ai (.flat 3) .eql (.agg #[vi a.1, vi a.2.1, vi a.2.2]) (.agg #[vi b.1, vi b.2.1, vi b.2.2]) = some (vb (a == b)) := by
 show (qB (.flat 3) (.agg #[vi a.1, vi a.2.1, vi a.2.2]) (.agg #[vi b.1, vi b.2.1, vi b.2.2])).map (fun b => Value.bool b) = _;simp only [qB];rw [if_pos ⟨rfl, rfl⟩];simp only [bR, if_true, fA, Bool.and_true]
 rfl
theorem j9 {cl : TCls} {a b : Int} (h0 : -9223372036854775808 ≤ a * b) (h1 : a * b < 9223372036854775808) : ai cl .mul (vi a) (vi b) = some (vi (a * b)) := by simp only [ai, nF, if_true, pS h0 h1]
section
variable {cl : TCls} {k : IntKind} {a b : Int}
theorem bS (h : a < b) : ai cl .lss (.int k a) (.int k b) = some (vb true) := by rw [tC, fH h]
theorem bE (h : ¬ a < b) : ai cl .lss (.int k a) (.int k b) = some (vb false) := by rw [tC, e7 h]
theorem O0 (h : a ≤ b) : ai cl .leq (.int k a) (.int k b) = some (vb true) := by rw [U3, fH h]
theorem OZ (h : ¬ a ≤ b) : ai cl .leq (.int k a) (.int k b) = some (vb false) := by rw [U3, e7 h]
theorem j5 (h : b < a) : ai cl .gtr (.int k a) (.int k b) = some (vb true) := by rw [J5, fH h]
theorem fJ (h : ¬ b < a) : ai cl .gtr (.int k a) (.int k b) = some (vb false) := by rw [J5, e7 h]
theorem xx (h : b ≤ a) : ai cl .geq (.int k a) (.int k b) = some (vb true) := by rw [tB, fH h]
theorem pr (h : ¬ b ≤ a) : ai cl .geq (.int k a) (.int k b) = some (vb false) := by rw [tB, e7 h]
theorem bi (h : a = b) : ai cl .eql (.int k a) (.int k b) = some (vb true) := by rw [fB, beq_iff_eq.2 h]
theorem aG (h : ¬ a = b) : ai cl .eql (.int k a) (.int k b) = some (vb false) := by rw [fB, beq_eq_false_iff_ne.2 h]
theorem I4 (h : ¬ a = b) : ai cl .neq (.int k a) (.int k b) = some (vb true) := by rw [tD, bne_iff_ne.2 h]
theorem sQ (h : a = b) : ai cl .neq (.int k a) (.int k b) = some (vb false) := by
 rw [tD];simp [h]
end
theorem HJ {c : Bool} {e : Option Value} {v : Value} (h : e = some v) : gB (vb c) c e = some v := by
 cases c <;> (rw [h]; rfl)
theorem atF {v : Value} : gV (vb true) true v = some v := rfl
theorem atC {v : Value} : gV (vb false) false v = some v := rfl
theorem atE {v : Value} : gV (vb true) false v = some undef := rfl
theorem atD {v : Value} : gV (vb false) true v = some undef := rfl
theorem atB {e : Option Value} : gB (vb true) false e = some undef := rfl
theorem atA {e : Option Value} : gB (vb false) true e = some undef := rfl
section
variable {H : AH} {e : Option (Value × AH)} {k : Value × AH → OV} {Q : Value → AH → Prop} {x : Option Value} {kv : Value → OV}
theorem zf (h : wp (e.bind k) Q) : wp ((gE (vb true) true H e).bind k) Q := h
theorem Yv (h : wp (e.bind k) Q) : wp ((gE (vb false) false H e).bind k) Q := h
theorem Yx (h : wp (k (undef, H)) Q) : wp ((gE (vb true) false H e).bind k) Q := h
theorem Yw (h : wp (k (undef, H)) Q) : wp ((gE (vb false) true H e).bind k) Q := h
theorem Qp (h : wp (x.bind kv) Q) : wp ((Ab (yv (vb true)) true x (some undef)).bind kv) Q := h
theorem Qm (h : wp (x.bind kv) Q) : wp ((Ab (yv (vb false)) false x (some undef)).bind kv) Q := h
theorem Qo (h : wp (kv undef) Q) : wp ((Ab (yv (vb true)) false x (some undef)).bind kv) Q := h
theorem Qn (h : wp (kv undef) Q) : wp ((Ab (yv (vb false)) true x (some undef)).bind kv) Q := h
end
theorem OH (c : Bool) (e : Option Value) : gB (vb c) c e = e := by cases c <;> cases e <;> rfl
theorem SC {R : Type} (c : Bool) (k : Value → Option R) : ∀ (p : List Stp) (x : Value), HK (vb c) c p x k = ad p x k := by
 intro p
 induction p with
 | nil => intro x; rfl
 | cons s p ih => intro x; cases s <;> simp only [HK, ad, OH, ih]
theorem Xj {R : Type} (c : Bool) (k : Value → Option R) (hk : ∀ x, k x = k undef) : ∀ (p : List Stp) (x : Value), HK (vb c) (!c) p x k = k undef := by
 intro p
 induction p with
 | nil => intro x; exact hk x
 | cons s p ih => intro x; cases c <;> cases s <;> exact ih undef
section
variable {H : AH} {p : List Stp} {x : Value} {k : Value → OV} {Q : Value → AH → Prop} {n : Nat}
theorem akX {R : Type} (c : Bool) (k : Value → Option R) : f0 (vb c) c p x H k = ld p x H k := by simp only [f0, ld, SC, OH]
theorem Xl {R : Type} (c : Bool) (k : Value → Option R) : pw (vb c) c n p x H k = ldN n p x H k := by simp only [pw, ldN, SC, OH]
theorem Xm {R : Type} (c : Bool) (k : Value → Option R) : f0 (vb c) (!c) p x H k = k undef := by
 unfold f0
 rw [Xj c _ (fun x => by cases c <;> rfl)]
 cases c <;> rfl
theorem OI {R : Type} (c : Bool) (k : Value → Option R) : pw (vb c) (!c) n p x H k = k undef := by
 unfold pw
 rw [Xj c _ (fun x => by cases c <;> rfl)]
 cases c <;> rfl
theorem aoU (h : wp (ld p x H k) Q) : wp (f0 (vb true) true p x H k) Q := by rw [akX]; exact h
theorem aoR (h : wp (ld p x H k) Q) : wp (f0 (vb false) false p x H k) Q := by rw [akX]; exact h
theorem aoT (h : wp (k undef) Q) : wp (f0 (vb true) false p x H k) Q := by rw [show (false : Bool) = !true from rfl, Xm]; exact h
theorem aoS (h : wp (k undef) Q) : wp (f0 (vb false) true p x H k) Q := by rw [show f0 (vb false) true p x H k = f0 (vb false) (!false) p x H k from rfl, Xm]; exact h
theorem aeS (h : wp (ldN n p x H k) Q) : wp (pw (vb true) true n p x H k) Q := by rw [Xl]; exact h
theorem aeP (h : wp (ldN n p x H k) Q) : wp (pw (vb false) false n p x H k) Q := by rw [Xl]; exact h
theorem aeR (h : wp (k undef) Q) : wp (pw (vb true) false n p x H k) Q := by rw [show pw (vb true) false n p x H k = pw (vb true) (!true) n p x H k from rfl, OI]; exact h
theorem aeQ (h : wp (k undef) Q) : wp (pw (vb false) true n p x H k) Q := by rw [show pw (vb false) true n p x H k = pw (vb false) (!false) n p x H k from rfl, OI]; exact h
theorem iq {e : Option Value} (h : wp (e.bind k) Q) : wp ((gB (vb true) true e).bind k) Q := by rw [OH]; exact h
theorem asC {e : Option Value} (h : wp (e.bind k) Q) : wp ((gB (vb false) false e).bind k) Q := by rw [OH]; exact h
theorem aoQ {a b : OV} (h : wp a Q) : wp (av (vb true) a b) Q := h
theorem Hl {a b : OV} (h : wp b Q) : wp (av (vb false) a b) Q := h
end
theorem axZ {b : Bool} {v : Value} : gV undef b v = some undef := rfl
theorem axY {b : Bool} {e : Option Value} : gB undef b e = some undef := rfl
theorem aw0 {R : Type} (b : Bool) (k : Value → Option R) (hk : ∀ x, k x = k undef) : ∀ (p : List Stp) (x : Value), HK undef b p x k = k undef := by
 intro p
 induction p with
 | nil => intro x; exact hk x
 | cons s p ih => intro x; cases s <;> exact ih undef
theorem aw1 {R : Type} {b : Bool} {p : List Stp} {x : Value} {H : AH} (k : Value → Option R) : f0 undef b p x H k = k undef := by
 unfold f0;rw [aw0 b _ (fun x => rfl)]
 rfl
theorem asD {b : Bool} {p : List Stp} {x : Value} {H : AH} {k : Value → OV} {Q : Value → AH → Prop} (h : wp (k undef) Q) : wp (f0 undef b p x H k) Q := by rw [aw1]; exact h
class Gd (x : OV) (y : outParam OV) : Prop where
 go : ∀ {Q : Value → AH → Prop}, wp y Q → wp x Q
section
variable {a b v : Value} {k : Value → OV} {H : AH} {e : Option (Value × AH)} {e1 : Option Value} {ke : Value × AH → OV} {p : List Stp} {x : Value} {n : Nat} {c : Bool} {o1 o2 : OV}
instance : Gd ((aL (vb true) a b).bind k) (k a) := ⟨aa (Ta _ _)⟩
instance : Gd ((aL (vb false) a b).bind k) (k b) := ⟨aa (amH _ _)⟩
instance : Gd ((gV (vb true) true v).bind k) (k v) := ⟨aa atF⟩
instance : Gd ((gV (vb false) false v).bind k) (k v) := ⟨aa atC⟩
instance : Gd ((gV (vb true) false v).bind k) (k undef) := ⟨aa atE⟩
instance : Gd ((gV (vb false) true v).bind k) (k undef) := ⟨aa atD⟩
instance : Gd ((gB (vb true) false e1).bind k) (k undef) := ⟨aa atB⟩
instance : Gd ((gB (vb false) true e1).bind k) (k undef) := ⟨aa atA⟩
instance : Gd ((gE (vb true) false H e).bind ke) (ke (undef, H)) := ⟨Yx⟩
instance : Gd ((gE (vb false) true H e).bind ke) (ke (undef, H)) := ⟨Yw⟩
instance : Gd ((gE (vb true) true H e).bind ke) (e.bind ke) := ⟨zf⟩
instance : Gd ((gE (vb false) false H e).bind ke) (e.bind ke) := ⟨Yv⟩
instance : Gd ((Ab (yv (vb true)) false e1 (some undef)).bind k) (k undef) := ⟨Qo⟩
instance : Gd ((Ab (yv (vb false)) true e1 (some undef)).bind k) (k undef) := ⟨Qn⟩
instance : Gd ((Ab (yv (vb true)) true e1 (some undef)).bind k) (e1.bind k) := ⟨Qp⟩
instance : Gd ((Ab (yv (vb false)) false e1 (some undef)).bind k) (e1.bind k) := ⟨Qm⟩
instance : Gd (f0 (vb true) true p x H k) (ld p x H k) := ⟨aoU⟩
instance : Gd (f0 (vb false) false p x H k) (ld p x H k) := ⟨aoR⟩
instance : Gd (f0 (vb true) false p x H k) (k undef) := ⟨aoT⟩
instance : Gd (f0 (vb false) true p x H k) (k undef) := ⟨aoS⟩
instance : Gd (pw (vb true) true n p x H k) (ldN n p x H k) := ⟨aeS⟩
instance : Gd (pw (vb false) false n p x H k) (ldN n p x H k) := ⟨aeP⟩
instance : Gd (pw (vb true) false n p x H k) (k undef) := ⟨aeR⟩
instance : Gd (pw (vb false) true n p x H k) (k undef) := ⟨aeQ⟩
instance : Gd ((gB (vb true) true e1).bind k) (e1.bind k) := ⟨iq⟩
instance : Gd ((gB (vb false) false e1).bind k) (e1.bind k) := ⟨asC⟩
instance : Gd ((ot .not (vb c)).bind k) (k (vb (!c))) := ⟨aa Hk⟩
instance : Gd (av (vb true) o1 o2) o1 := ⟨aoQ⟩
instance : Gd (av (vb false) o1 o2) o2 := ⟨Hl⟩
instance : Gd ((gV undef c v).bind k) (k undef) := ⟨aa axZ⟩
instance : Gd ((gB undef c e1).bind k) (k undef) := ⟨aa axY⟩
instance : Gd (f0 undef c p x H k) (k undef) := ⟨asD⟩
class Gh (x : OV) (y : outParam OV) : Prop where
 go : ∀ {Q : Value → AH → Prop}, wp y Q → wp x Q
instance : Gh ((aL (vb true) a b).bind k) (k a) := ⟨aa (Ta _ _)⟩
instance : Gh ((aL (vb false) a b).bind k) (k b) := ⟨aa (amH _ _)⟩
instance : Gh ((gV (vb true) true v).bind k) (k v) := ⟨aa atF⟩
instance : Gh ((gV (vb false) false v).bind k) (k v) := ⟨aa atC⟩
instance : Gh ((gV (vb true) false v).bind k) (k undef) := ⟨aa atE⟩
instance : Gh ((gV (vb false) true v).bind k) (k undef) := ⟨aa atD⟩
instance : Gh ((gB (vb true) false e1).bind k) (k undef) := ⟨aa atB⟩
instance : Gh ((gB (vb false) true e1).bind k) (k undef) := ⟨aa atA⟩
instance : Gh ((gE (vb true) false H e).bind ke) (ke (undef, H)) := ⟨Yx⟩
instance : Gh ((gE (vb false) true H e).bind ke) (ke (undef, H)) := ⟨Yw⟩
instance : Gh ((gE (vb true) true H e).bind ke) (e.bind ke) := ⟨zf⟩
instance : Gh ((gE (vb false) false H e).bind ke) (e.bind ke) := ⟨Yv⟩
instance : Gh ((Ab (yv (vb true)) false e1 (some undef)).bind k) (k undef) := ⟨Qo⟩
instance : Gh ((Ab (yv (vb false)) true e1 (some undef)).bind k) (k undef) := ⟨Qn⟩
instance : Gh ((Ab (yv (vb true)) true e1 (some undef)).bind k) (e1.bind k) := ⟨Qp⟩
instance : Gh ((Ab (yv (vb false)) false e1 (some undef)).bind k) (e1.bind k) := ⟨Qm⟩
end
class Gs (x : OV) (y : outParam OV) : Prop where
 go : ∀ {Q : Value → AH → Prop}, wp y Q → wp x Q
class Gt (x : OV) (y : outParam OV) : Prop where
 go : ∀ {Q : Value → AH → Prop}, wp y Q → wp x Q
instance (priority := low) {x : OV} : Gs x x := ⟨id⟩
instance (priority := low) {x : OV} : Gt x x := ⟨id⟩
instance {x y z : OV} [g : Gd x y] [h : Gs y z] : Gs x z := ⟨fun q => g.go (h.go q)⟩
instance {x y z : OV} [g : Gh x y] [h : Gt y z] : Gt x z := ⟨fun q => g.go (h.go q)⟩
theorem gs {x y : OV} [g : Gs x y] {Q : Value → AH → Prop} (h : wp y Q) : wp x Q := g.go h
theorem gt {x y : OV} [g : Gt x y] {Q : Value → AH → Prop} (h : wp y Q) : wp x Q := g.go h
end Go.Proofs.YtflbeghglllknaaGreatDoor.Gst
