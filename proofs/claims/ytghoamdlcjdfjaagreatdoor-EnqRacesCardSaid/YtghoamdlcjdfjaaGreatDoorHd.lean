/- Several texts in one. -/
import Derived.Test.YtghoamdlcjdfjaaGreatDoorHc
namespace Go.Proofs.YtghoamdlcjdfjaaGreatDoor.Gst
open Go Go.RowKit
set_option maxRecDepth 100000
set_option linter.unusedVariables false
set_option maxHeartbeats 1000000
set_option linter.unusedSimpArgs false
set_option synthInstance.maxSize 2000
set_option synthInstance.maxHeartbeats 400000
section
variable (Y Z x2 x3 x4 x5 x6 x8 x13 x14 x15 : Value) (H : AH)
theorem ya {r : Value × AH} (h : (
 aS (Value.cells x3).toList H fun c a =>
 ld [.n, .f 1] Y a fun d =>
 (ax 3 c a).bind fun e =>
 gR [(0, 1), (1, 1), (2, 3)] [(vi 0), (vi 0), (vi 0), (vi 0), (vi 0)] [(0, Z), (1, x2), (2, e)] fun g =>
 sK 1 5 [(vi 0), (vi 0), (vi 0), (vi 0), (vi 0)] [(0, g)] a fun i j =>
 (cO 5 40 d i j).bind fun b =>
 st 1 [.n, .f 1] Y b.1 b.2 fun k =>
 some (Value.tuple #[], k)) = some r) : FF cE [Y, Z, x2, x3] H = some r :=
 fo Tryz.func104 (by kernel_rfl) h
theorem xX {r : Value × AH} (h : (
 aS (Value.cells Z).toList H fun b a =>
 ld [.n, .f 0] Y a fun c =>
 (ax 3 b a).bind fun d =>
 (b9 (.flat 3) (.agg #[(vw 0)]) c d false a).bind fun e =>
 (jz none 0 e).bind fun g =>
 some (g, a)) = some r) : FF dI [Y, Z] H = some r :=
 fo Tryz.func105 (by kernel_rfl) h
theorem pw {r : Value × AH} (h : (
 ld [.n, .f 11] Y H fun a =>
 (dl .int a Z x2 H).bind fun b =>
 some (Value.tuple #[], b)) = some r) : FF fK [Y, Z, x2] H = some r :=
 fo Tryz.func106 (by kernel_rfl) h
theorem sw {r : Value × AH} (h : (
 ld [.n, .f 12] Y H fun b =>
 sK 2 1 [(vi 0)] [(0, Z), (1, x2)] H fun c d =>
 (cO 1 8 b c d).bind fun a =>
 st 1 [.n, .f 12] Y a.1 a.2 fun e =>
 some (Value.tuple #[], e)) = some r) : FF gZ [Y, Z, x2] H = some r :=
 fo Tryz.func107 (by kernel_rfl) h
noncomputable def EP (p : List Nat) : Code := Code.sub (bw Tryz.f108) p
noncomputable def rJ : KK := dV PP (Tryz.f108).results.toList
noncomputable def Nq : KK := CQ (EP [1]) rJ bv rJ
noncomputable def wW : OV := Nq (ls [Y, Z, u, u, x4, x5] 45) H
noncomputable def EQ : KK := CQ (EP [1, 1]) rJ bv rJ
noncomputable def ZJ : KK := dT Nb EQ
noncomputable def oB : OV := EQ (ls [Y, Z, u, u, x4, x5] 45) H
noncomputable def ZK : KX := BX 0 ZJ bv
theorem s8 : aq 2251799813685199 rJ := rf
theorem QR : aq Nb Nq := rc s8 aA s8
theorem Dq : aq Nb EQ := rc s8 aA s8
theorem QS : ∀ i, aq Nb (ZK i) := rb (cd Dq) aA
theorem zZ : oB Y Z x4 x5 H =
 (FF iA [Y, Z] H).bind fun a =>
 (ah a.1 0).bind fun c =>
 (ah a.1 1).bind fun d =>
 (cZ 4 x4 c a.2).bind fun b =>
 (ax 4 x4 b).bind fun e => some (Value.tuple #[e, d], b) :=
 (by kernel_rfl)
theorem zY : wW Y Z x4 x5 H =
 ld [.n, .f 2, .f 2] Y H fun i =>
 (aj .other .lss i (vi 1)).bind fun a =>
 (gV a false Y).bind fun j =>
 ed a false  [.n, .f 2, .f 2] j H fun k =>
 (gB a false (aj .other .gtr k (vi 65536))).bind fun l =>
 (aH a (vb true) l).bind fun m =>
 au m
 ((FF gz [Y, Z, (vi 3)] H).bind fun c =>
 (ah c.1 0).bind fun o =>
 (ah c.1 1).bind fun p =>
 (cZ 4 x4 o c.2).bind fun e =>
 (ax 4 x4 e).bind fun q => some (Value.tuple #[q, p], e))
 (ld [.n, .f 2, .f 1] Y H fun s =>
 (aj .other .lss s (vi 0)).bind fun b =>
 (gV b false Y).bind fun t =>
 ed b false  [.n, .f 2, .f 1] t H fun w =>
 (gB b false (aj .other .gtr w (vi 1048576))).bind fun y =>
 (aH b (vb true) y).bind fun z =>
 au z
 ((FF gz [Y, Z, (vi 5)] H).bind fun d =>
 (ah d.1 0).bind fun A =>
 (ah d.1 1).bind fun B =>
 (cZ 4 x4 A d.2).bind fun g =>
 (ax 4 x4 g).bind fun C => some (Value.tuple #[C, B], g))
 (oB Y Z x4 x5 H)) :=
 (pt rfl 0 Dq (bt rfl (EP [1, 0, 4]) 0 QS (by kernel_rfl)))
noncomputable def U2 : OV := aQ PP GG FF (EP []) (ls [Y, Z] 49) H rJ bv rJ
theorem HX {r : Value × AH} (h : (
 aS [(vi 0), (.slice none 0 0), (vi 0), (vw 0)] H fun a b =>
 wW Y Z a (vb false) b) = some r) : FF kB [Y, Z] H = some r :=
 fo (t := U2 Y Z H) Tryz.func108 (by kernel_rfl) (Eq.trans (pt rfl 0 QR (by kernel_rfl)) h)
noncomputable def Kp (p : List Nat) : Code := Code.sub (bw Tryz.f109) p
noncomputable def rK : KK := dV PP (Tryz.f109).results.toList
noncomputable def Nr : KK := CQ (Kp [1, 1]) rK bv rK
noncomputable def kU : OV := Nr (ls [Y, u, u, u, x4, x5] 15) H
noncomputable def Ns : KK := CQ (Kp [1, 1, 1]) rK bv rK
noncomputable def gn : OV := Ns (ls [u, u, u, u, x4, x5] 15) H
theorem s9 : aq 2097135 rK := rf
theorem QT : aq 2097102 Nr := rc s9 aA s9
theorem QU : aq 2097103 Ns := rc s9 aA s9
theorem io : gn x4 x5 H =
 some (x5, H) :=
 (by kernel_rfl)
theorem oq : kU Y x4 x5 H =
 (aj .other .lss x5 (vi 0)).bind fun a =>
 au a
 (ld [.n, .f 1] Y H fun b =>
 (aj .other .add x5 b).bind fun c =>
 gn x4 c H)
 (gn x4 x5 H) :=
 (pt rfl 0 QU (by kernel_rfl))
noncomputable def yO : OV := aQ PP GG FF (Kp []) (ls [Y, Z] 19) H rK bv rK
theorem sx {r : Value × AH} (h : (
 ld [.n, .f 1] Y H fun a =>
 (aj .other .rem Z a).bind fun b =>
 kU Y (vi 0) b H) = some r) : FF eI [Y, Z] H = some r :=
 fo (t := yO Y Z H) Tryz.func109 (by kernel_rfl) (Eq.trans (pt rfl 1 QT (by kernel_rfl)) h)
theorem wE {r : Value × AH} (h : (
 gR [(0, 1), (1, 1), (2, 1), (3, 1)] [(vi 0), (.slice none 0 0), (vi 0), (vw 0)] [(0, x2)] fun b =>
 st 4 [.n, .f 17] Y b H fun a =>
 ld [.n, .f 0] Y a fun c =>
 ld [.n, .f 1] Y a fun d =>
 ldN 4 [.n, .f 17] Y a fun e =>
 (FF XB [c, Z, d, e] a).bind fun g =>
 some (Value.tuple #[], g.2)) = some r) : FF ch [Y, Z, x2] H = some r :=
 fo Tryz.func110 (by kernel_rfl) h
noncomputable def Ku (p : List Nat) : Code := Code.sub (bw Tryz.f111) p
noncomputable def rL : KK := dV PP (Tryz.f111).results.toList
noncomputable def Nt : KK := CQ (Ku [1, 1, 1]) rL bv rL
noncomputable def Ye : OV := Nt (ls [Y, u, x2, x3, u, u, x6] 88) H
noncomputable def Nu : KK := CQ (Ku [1, 1, 1, 1]) rL bv rL
noncomputable def G2 : OV := Nu (ls [Y, u, x2, x3] 91) H
theorem tc : aq 39614081257132168796771975155 rL := rf
theorem QW : aq 39614081257132168796771975090 Nt := rc tc aA tc
theorem QX : aq 39614081257132168796771975154 Nu := rc tc aA tc
theorem TA : G2 Y x2 x3 H =
 ld [.n, .f 7] Y H fun b =>
 (aj .other .add b (vi 1)).bind fun c =>
 st 1 [.n, .f 7] Y c H fun a =>
 ld [.n, .f 7] Y a fun d =>
 ld [.n, .f 0] Y a fun e =>
 ld [.n, .f 7] e a fun g =>
 ld [.n, .f 2] g a fun i =>
 (aj .other .geq d i).bind fun j =>
 some (Value.tuple #[(vb false), j], a) :=
 (by kernel_rfl)
theorem D7 : Ye Y x2 x3 x6 H =
 (pr .not x6).bind fun a =>
 (gV a true Y).bind fun b =>
 ed a true  [.n, .f 8] b H fun c =>
 (gB a true (aj .other .lss c (vi 0))).bind fun d =>
 (aH a d (vb false)).bind fun e =>
 au e
 (ld [.n, .f 7] Y H fun g =>
 st 1 [.n, .f 8] Y g H fun i =>
 G2 Y x2 x3 i)
 (G2 Y x2 x3 H) :=
 (pt rfl 0 QX (by kernel_rfl))
noncomputable def rTs : OV := aQ PP GG FF (Ku []) (ls [Y] 94) H rL bv rL
theorem ad3 {r : Value × AH} (h : (
 ad [.n, .f 0] Y fun d =>
 (ap d H).bind fun j =>
 ad [.n, .f 7] j fun e =>
 (ap e H).bind fun k =>
 ad [.n, .f 1] Y fun g =>
 (ap g H).bind fun l =>
 ld [.n, .f 0] Y H fun m =>
 ld [.n, .f 7] m H fun o =>
 ld [.n, .f 2, .f 1] Y H fun p =>
 (FF eI [o, p] H).bind fun a =>
 bE (ap d a.2) (ap d H) <|
 bE (ap e a.2) (ap e H) <|
 bE (ap g a.2) (ap g H) <|
 ad [.n, .f 7] Y fun i =>
 (ap i a.2).bind fun q =>
 bE (ap i H) (ap i a.2) <|
 (FF iH [k, l, a.1, q] a.2).bind fun b =>
 (ah b.1 0).bind fun s =>
 (ah b.1 1).bind fun w =>
 (ah b.1 2).bind fun c =>
 (gV c true s).bind fun y =>
 (gV c true Y).bind fun z =>
 ed c true  [.n, .f 2, .f 1] z b.2 fun A =>
 (gB c true (aj .other .eql y A)).bind fun B =>
 (aH c B (vb false)).bind fun C =>
 au C
 (st 1 [.n, .f 9] Y (vb true) b.2 fun D =>
 st 1 [.n, .f 10] Y w D fun E =>
 some (Value.tuple #[(vb true), (vb false)], E))
 (Ye Y (vb false) (vb false) c b.2)) = some r) : FF Pr [Y] H = some r :=
 fo (t := rTs Y H) Tryz.func111 (by kernel_rfl) (Eq.trans (pt rfl 2 QW (by kernel_rfl)) h)
theorem uE {r : Value × AH} (h : (
 ad [.n, .f 0] Y fun a =>
 (ap a H).bind fun d =>
 (FF bN [(vi 8), x2, (vi 0)] H).bind fun b =>
 bE (ap a b.2) (ap a H) <|
 (FF e7 [d, Z, b.1, (vw 0), (vw 1)] b.2).bind fun c =>
 some (c.1, c.2)) = some r) : FF iG [Y, Z, x2] H = some r :=
 fo Tryz.func112 (by kernel_rfl) h
theorem qQ {r : Value × AH} (h : (
 ad [.n, .f 0] Y fun a =>
 (ap a H).bind fun c =>
 (FF bN [(vi 8), x2, (vi 0)] H).bind fun b =>
 bE (ap a b.2) (ap a H) <|
 (FF ei [c, Z, b.1, (vw 0)] b.2).bind fun d =>
 some (Value.tuple #[], d.2)) = some r) : FF gk [Y, Z, x2] H = some r :=
 fo Tryz.func113 (by kernel_rfl) h
theorem wu {r : Value × AH} (h : (
 aS [(vi 0), (vi 0), (vw 0)] H fun c b =>
 (aj .other .lss x2 (vi 0)).bind fun a =>
 (gV a false x2).bind fun l =>
 (gV a false Y).bind fun m =>
 ed a false  [.n, .f 10] m b fun o =>
 (tX (yv a) false (dt o some) (some undef)).bind fun p =>
 (gB a false (aj .other .geq l p)).bind fun q =>
 (aH a (vb true) q).bind fun s =>
 au s
 (gR [(0, 1), (1, 1), (2, 1)] [(vi 0), (vi 0), (vw 0)] [] fun t =>
 (cZ 3 c t b).bind fun j =>
 (ax 3 c j).bind fun w => some (w, j))
 (ad [.n, .f 5] Y fun d =>
 (ap d b).bind fun y =>
 (FF bN [(vi 13), x2, (vi 0)] b).bind fun e =>
 bE (ap d e.2) (ap d b) <|
 (FF bB [y, Z, (vi 5), e.1] e.2).bind fun g =>
 ld [.n, .f 10] Y g.2 fun z =>
 ldN 3 [.i 3 x2] z g.2 fun A =>
 (cZ 3 c A g.2).bind fun k =>
 (ax 3 c k).bind fun B => some (B, k))) = some r) : FF jq [Y, Z, x2] H = some r :=
 fo Tryz.func114 (by kernel_rfl) h
theorem wG {r : Value × AH} (h : (
 (FF bx [Y] H).bind fun a =>
 ad [.n, .f 1] Y fun c =>
 (ap c a.2).bind fun g =>
 bE (ap c H) (ap c a.2) <|
 (FF jt [a.1, g] a.2).bind fun d =>
 st 1 [.n, .f 11] Y d.1 d.2 fun e =>
 ld [.n, .f 11] Y e fun i =>
 (FF e6 [i] e).bind fun b =>
 (ah b.1 0).bind fun k =>
 (ah b.1 1).bind fun j =>
 (ah b.1 2).bind fun l =>
 some (j, b.2)) = some r) : FF f6 [Y] H = some r :=
 fo Tryz.func115 (by kernel_rfl) h
theorem wF {r : Value × AH} (h : (
 ld [.n, .f 0] Y H fun a =>
 ld [.n, .f 11] a H fun b =>
 ld [.n, .f 10] Y H fun c =>
 ld [.i 1 c] b H fun d =>
 some (d, H)) = some r) : FF bx [Y] H = some r :=
 fo Tryz.func116 (by kernel_rfl) h
theorem wz {r : Value × AH} (h : (
 ad [.n, .f 0] Y fun a =>
 (ap a H).bind fun d =>
 ld [.n, .f 1] Y H fun e =>
 (FF bN [(vi 12), e, (vi 0)] H).bind fun b =>
 bE (ap a b.2) (ap a H) <|
 (FF cV [d, Z, b.1] b.2).bind fun c =>
 some (c.1, c.2)) = some r) : FF f4 [Y, Z] H = some r :=
 fo Tryz.func117 (by kernel_rfl) h
theorem GL {r : Value × AH} (h : (
 (aj .other .rem Y (vw 2305843009213693952)).bind fun b =>
 (aj .other .quo Y (vw 2305843009213693952)).bind fun c =>
 (bV (some .i64) c).bind fun a =>
 (aj .other .gtr a (vi 2)).bind fun d =>
 au d
 (some (Value.tuple #[(vw 0), (vi (-1)), (vb false)], H))
 (some (Value.tuple #[b, a, (vb true)], H))) = some r) : FF e6 [Y] H = some r :=
 fo Tryz.func118 (by kernel_rfl) h
theorem wy {r : Value × AH} (h : (
 (FF e6 [Z] H).bind fun b =>
 (ah b.1 0).bind fun c =>
 (ah b.1 1).bind fun o =>
 (ah b.1 2).bind fun p =>
 (aj .other .geq c x2).bind fun a =>
 (gV a true c).bind fun d =>
 (gV a true x2).bind fun e =>
 (gB a true (aj .other .sub d e)).bind fun g =>
 (gV a true Y).bind fun i =>
 ed a true  [.n, .f 2] i b.2 fun j =>
 (gB a true (bV (some .u64) j)).bind fun k =>
 (gB a true (aj .other .geq g k)).bind fun l =>
 (aH a l (vb false)).bind fun m =>
 some (m, b.2)) = some r) : FF f3 [Y, Z, x2] H = some r :=
 fo Tryz.func119 (by kernel_rfl) h
noncomputable def ET (p : List Nat) : Code := Code.sub (bw Tryz.f120) p
noncomputable def oF : KK := dV PP (Tryz.f120).results.toList
noncomputable def Nv : KK := CQ (ET [1]) oF bv oF
noncomputable def lE : OV := Nv (ls [Y, Z] 48) H
noncomputable def Nw : KK := CQ (ET [1, 1]) oF bv oF
noncomputable def eK : OV := Nw (ls [Y, Z] 48) H
noncomputable def ZM : KX := BX 0 oF bv
theorem oG : aq 1125899906842623 oF := rf
theorem QY : aq 1125899906842620 Nv := rc oG aA oG
theorem QZ : aq 1125899906842620 Nw := rc oG aA oG
theorem Q1 : ∀ i, aq 1125899906842623 (ZM i) := rb oG aA
theorem pF : eK Y Z H =
 (FF bx [Y] H).bind fun a =>
 ad [.n, .f 1] Y fun c =>
 (ap c a.2).bind fun g =>
 bE (ap c H) (ap c a.2) <|
 ad [.n, .f 11] Y fun d =>
 (ap d a.2).bind fun i =>
 bE (ap d H) (ap d a.2) <|
 (FF jr [a.1, g, i, (vi 0)] a.2).bind fun b =>
 au b.1
 ((FF ch [Y, Z, (vi 0)] b.2).bind fun e =>
 ld [.n, .f 6] Y e.2 fun j =>
 (aj .other .add j (vi 1)).bind fun k =>
 st 1 [.n, .f 6] Y k e.2 fun l =>
 some (Value.tuple #[], l))
 (ld [.n, .f 6] Y b.2 fun m =>
 (aj .other .eql m (vi 9)).bind fun o =>
 au o
 (st 1 [.n, .f 6] Y (vi 7) b.2 fun p =>
 some (Value.tuple #[], p))
 (st 1 [.n, .f 6] Y (vi 20) b.2 fun q =>
 some (Value.tuple #[], q))) :=
 (bt rfl (ET [1, 1, 4]) 0 Q1 (by kernel_rfl))
theorem pE : lE Y Z H =
 ld [.n, .f 6] Y H fun a =>
 (aj .other .eql a (vi 13)).bind fun b =>
 au b
 (st 1 [.n, .f 13] Y (vw 1) H fun c =>
 eK Y Z c)
 (eK Y Z H) :=
 (pt rfl 0 QZ (by kernel_rfl))
noncomputable def BG : OV := aQ PP GG FF (ET []) (ls [Y, Z] 48) H oF bv oF
theorem uG {r : Value × AH} (h : (
 st 1 [.n, .f 13] Y (vw 0) H fun a =>
 lE Y Z a) = some r) : FF iI [Y, Z] H = some r :=
 fo (t := BG Y Z H) Tryz.func120 (by kernel_rfl) (Eq.trans (pt rfl 0 QY (by kernel_rfl)) h)
theorem yN {r : Value × AH} (h : (
 aS (Value.cells x3).toList H fun g a =>
 ad [.n, .f 0] Y fun b =>
 (ap b a).bind fun m =>
 ad [.n, .f 1] Y fun j =>
 (ap j a).bind fun o =>
 (FF dc [Y, x2] a).bind fun d =>
 bE (ap b d.2) (ap b a) <|
 bE (ap j d.2) (ap j a) <|
 (FF bN [(vi 16), o, d.1] d.2).bind fun k =>
 bE (ap b k.2) (ap b a) <|
 (FF bB [m, Z, (vi 6), k.1] k.2).bind fun e =>
 ad [.n, .f 3] Y fun l =>
 (ap l e.2).bind fun p =>
 (FF dc [Y, x2] e.2).bind fun c =>
 bE (ap l c.2) (ap l e.2) <|
 (ax 3 g c.2).bind fun q =>
 bE (ax 3 g e.2) (ax 3 g c.2) <|
 st 3 [.i 3 c.1] p q c.2 fun s =>
 some (Value.tuple #[], s)) = some r) : FF kK [Y, Z, x2, x3] H = some r :=
 fo Tryz.func121 (by kernel_rfl) h
theorem uH {r : Value × AH} (h : (
 ld [.n, .f 11] Y H fun b =>
 (FF e6 [b] H).bind fun a =>
 (ah a.1 0).bind fun c =>
 (ah a.1 1).bind fun d =>
 (ah a.1 2).bind fun e =>
 some (c, a.2)) = some r) : FF dL [Y] H = some r :=
 fo Tryz.func122 (by kernel_rfl) h
theorem wA {r : Value × AH} (h : (
 ad [.n, .f 0] Y fun a =>
 (ap a H).bind fun e =>
 ad [.n, .f 1] Y fun c =>
 (ap c H).bind fun g =>
 (FF dc [Y, x2] H).bind fun b =>
 bE (ap a b.2) (ap a H) <|
 bE (ap c b.2) (ap c H) <|
 (FF bN [(vi 15), g, b.1] b.2).bind fun d =>
 bE (ap a d.2) (ap a H) <|
 (aj .other .add x2 (vw 1)).bind fun i =>
 (FF ei [e, Z, d.1, i] d.2).bind fun j =>
 some (Value.tuple #[], j.2)) = some r) : FF f5 [Y, Z, x2] H = some r :=
 fo Tryz.func123 (by kernel_rfl) h
theorem sn {r : Value × AH} (h : (
 ad [.n, .f 0] Y fun a =>
 (ap a H).bind fun c =>
 (FF bN [(vi 3), (vi 0), (vi 0)] H).bind fun b =>
 bE (ap a b.2) (ap a H) <|
 (FF iR [c, Z, b.1, (vw 4294967296)] b.2).bind fun d =>
 some (Value.tuple #[], d.2)) = some r) : FF gY [Y, Z] H = some r :=
 fo Tryz.func124 (by kernel_rfl) h
noncomputable def Aa (p : List Nat) : Code := Code.sub (bw Tryz.f125) p
noncomputable def oH : KK := dV PP (Tryz.f125).results.toList
noncomputable def Ny : KK := CQ (Aa [1]) oH bv oH
noncomputable def Yc : OV := Ny (ls [Y, Z, u, u, x4] 100) H
noncomputable def EU : KK := CQ (Aa [1, 1]) oH bv oH
noncomputable def Nx : KK := dT M5 EU
noncomputable def nI : OV := EU (ls [u, u, u, u, x4] 100) H
noncomputable def Nz : KK := CQ (Aa [1, 0, 1]) Nx bv oH
noncomputable def Yd : OV := Nz (ls [Y, Z, u, u, x4, u, u, u, x8] 96) H
noncomputable def ZN : KX := BX 0 Nx bv
theorem oI : aq M5 oH := rf
theorem Q2 : aq 40564819207303340847894502572012 Ny := rc oI aA oI
theorem vf : aq M5 EU := rc oI aA oI
theorem Q3 : aq 40564819207303340847894502571756 Nz := rc (cd vf) aA oI
theorem Q4 : ∀ i, aq M5 (ZN i) := rb (cd vf) aA
theorem iL : nI x4 H =
 some ((vb false), H) :=
 (by kernel_rfl)
theorem qE : Yd Y Z x4 x8 H =
 (aj .other .eql x8 (vi 15)).bind fun q =>
 au q
 (ld [.n, .f 0] Y H fun s =>
 ld [.n, .f 1] Y H fun t =>
 (FF f2 [s, t] H).bind fun o =>
 st 1 [.n, .f 13] Y o.1 o.2 fun w =>
 st 1 [.n, .f 6] Y (vi 16) w fun d =>
 ld [.n, .f 13] Y d fun y =>
 (aj .other .rem y (vw 2)).bind fun z =>
 (aj .other .eql z (vw 1)).bind fun A =>
 au A
 (st 1 [.n, .f 6] Y (vi 7) d fun B =>
 nI x4 B)
 (nI x4 d))
 ((aj .other .eql x8 (vi 16)).bind fun C =>
 au C
 (st 1 [.n, .f 6] Y (vi 17) H fun D =>
 (FF f6 [Y] D).bind fun e =>
 (aj .other .eql e.1 (vi 2)).bind fun E =>
 au E
 (st 1 [.n, .f 6] Y (vi 3) e.2 fun G =>
 nI x4 G)
 (nI x4 e.2))
 ((aj .other .eql x8 (vi 17)).bind fun I =>
 au I
 ((FF bx [Y] H).bind fun c =>
 ad [.n, .f 1] Y fun g =>
 (ap g c.2).bind fun J =>
 bE (ap g H) (ap g c.2) <|
 (FF f4 [c.1, J] c.2).bind fun p =>
 st 1 [.n, .f 12] Y p.1 p.2 fun K =>
 st 1 [.n, .f 16] Y Z K fun L =>
 st 1 [.n, .f 6] Y (vi 18) L fun i =>
 (FF bx [Y] i).bind fun a =>
 ad [.n, .f 11] Y fun j =>
 (ap j a.2).bind fun M =>
 bE (ap j i) (ap j a.2) <|
 ad [.n, .f 12] Y fun k =>
 (ap k a.2).bind fun N =>
 bE (ap k i) (ap k a.2) <|
 (FF f3 [a.1, M, N] a.2).bind fun l =>
 (pr .not l.1).bind fun O =>
 au O
 (st 1 [.n, .f 6] Y (vi 7) l.2 fun P =>
 nI x4 P)
 (nI x4 l.2))
 ((aj .other .eql x8 (vi 18)).bind fun Q =>
 au Q
 (ld [.n, .f 0] Y H fun R =>
 ld [.n, .f 1] Y H fun S =>
 (FF f2 [R, S] H).bind fun b =>
 ad [.n, .f 13] Y fun m =>
 (ap m b.2).bind fun T =>
 bE (ap m H) (ap m b.2) <|
 (aj .other .eql b.1 T).bind fun U =>
 au U
 (ld [.n, .f 16] Y b.2 fun V =>
 (FF ch [Y, V, (vi 9)] b.2).bind fun W =>
 some ((vb true), W.2))
 (st 1 [.n, .f 6] Y (vi 7) b.2 fun X =>
 nI x4 X))
 (nI x4 H)))) :=
 (bt rfl (Aa [1, 0, 1, 4]) 0 Q4 (by kernel_rfl))
theorem qD : Yc Y Z x4 H =
 ld [.n, .f 6] Y H fun a =>
 Yd Y Z x4 a H :=
 (pt rfl 0 vf (pt rfl 0 Q3 (by kernel_rfl)))
noncomputable def rTf : OV := aQ PP GG FF (Aa []) (ls [Y, Z] 103) H oH bv oH
theorem G1 {r : Value × AH} (h : (
 Yc Y Z (vb false) H) = some r) : FF acK [Y, Z] H = some r :=
 fo (t := rTf Y Z H) Tryz.func125 (by kernel_rfl) (Eq.trans (pt rfl 0 Q2 (by kernel_rfl)) h)
noncomputable def Ab (p : List Nat) : Code := Code.sub (bw Tryz.f126) p
noncomputable def oJ : KK := dV PP (Tryz.f126).results.toList
noncomputable def NB : KK := CQ (Ab [1, 1]) oJ bv oJ
noncomputable def Yf : OV := NB (ls [Y, Z, u, u, x4, x5] 113) H
noncomputable def EV : KK := CQ (Ab [1, 1, 1]) oJ bv oJ
noncomputable def NA : KK := dT M3 EV
noncomputable def pH : OV := EV (ls [u, u, u, u, x4] 114) H
noncomputable def NC : KK := CQ (Ab [1, 1, 0, 1]) NA bv oJ
noncomputable def Yg : OV := NC (ls [Y, Z, u, u, x4, x5, u, u, u, u, u, u, u, x13] 105) H
noncomputable def ZO : KX := BX 0 NA bv
theorem oK : aq M3 oJ := rf
theorem Q5 : aq 664613997892457936451903530140172236 NB := rc oK aA oK
theorem vg : aq M3 EV := rc oK aA oK
theorem Q6 : aq 664613997892457936451903530140164044 NC := rc (cd vg) aA oK
theorem Q7 : ∀ i, aq M3 (ZO i) := rb (cd vg) aA
theorem j4 : pH x4 H =
 some ((vb false), H) :=
 (by kernel_rfl)
theorem j5 : Yg Y Z x4 x5 x13 H =
 (aj .other .eql x13 (vi 20)).bind fun i =>
 au i
 (ld [.n, .f 6] x5 H fun j =>
 ld [.n, .f 1] Y H fun k =>
 (FF f0 [j, k] H).bind fun l =>
 st 1 [.n, .f 6] Y (vi 7) l.2 fun m =>
 pH x4 m)
 ((aj .other .eql x13 (vi 21)).bind fun o =>
 au o
 ((FF bx [Y] H).bind fun a =>
 ad [.n, .f 1] Y fun b =>
 (ap b a.2).bind fun p =>
 bE (ap b H) (ap b a.2) <|
 (FF dL [Y] a.2).bind fun d =>
 bE (ap b d.2) (ap b a.2) <|
 (FF f5 [a.1, p, d.1] d.2).bind fun q =>
 st 1 [.n, .f 6] Y (vi 22) q.2 fun s =>
 pH x4 s)
 ((aj .other .eql x13 (vi 22)).bind fun t =>
 au t
 (ld [.n, .f 6] x5 H fun w =>
 ld [.n, .f 1] Y H fun y =>
 (FF jp [w, y, Z] H).bind fun g =>
 st 1 [.n, .f 15] Y g.1 g.2 fun z =>
 st 1 [.n, .f 6] Y (vi 23) z fun A =>
 pH x4 A)
 ((aj .other .eql x13 (vi 23)).bind fun B =>
 au B
 (ld [.n, .f 6] x5 H fun C =>
 ld [.n, .f 1] Y H fun D =>
 ld [.n, .f 10] Y H fun E =>
 ld [.n, .f 15] Y H fun G =>
 (FF iD [C, D, E, G] H).bind fun I =>
 st 1 [.n, .f 6] Y (vi 24) I.2 fun J =>
 pH x4 J)
 ((aj .other .eql x13 (vi 24)).bind fun K =>
 au K
 (st 1 [.n, .f 6] Y (vi 22) H fun c =>
 ld [.n, .f 6] x5 c fun L =>
 ld [.n, .f 1] Y c fun M =>
 ld [.n, .f 15] Y c fun N =>
 ld [.n, .f 10] Y c fun O =>
 (FF iE [L, M, Z, N, O] c).bind fun e =>
 au e.1
 (st 1 [.n, .f 6] Y (vi 25) e.2 fun P =>
 pH x4 P)
 (pH x4 e.2))
 ((aj .other .eql x13 (vi 25)).bind fun Q =>
 au Q
 (ld [.n, .f 6] x5 H fun R =>
 ld [.n, .f 1] Y H fun S =>
 (FF f0 [R, S] H).bind fun T =>
 some ((vb true), T.2))
 (pH x4 H)))))) :=
 (bt rfl (Ab [1, 1, 0, 1, 4]) 0 Q7 (by kernel_rfl))
theorem j0 : Yf Y Z x4 x5 H =
 ld [.n, .f 6] Y H fun a =>
 Yg Y Z x4 x5 a H :=
 (pt rfl 0 vg (pt rfl 0 Q6 (by kernel_rfl)))
noncomputable def rTw : OV := aQ PP GG FF (Ab []) (ls [Y, Z] 117) H oJ bv oJ
theorem wI {r : Value × AH} (h : (
 ld [.n, .f 0] Y H fun a =>
 Yf Y Z (vb false) a H) = some r) : FF XC [Y, Z] H = some r :=
 fo (t := rTw Y Z H) Tryz.func126 (by kernel_rfl) (Eq.trans (pt rfl 1 Q5 (by kernel_rfl)) h)
theorem L8 {r : Value × AH} (h : (
 aS [(vi 0), (vi 0), (vi 0)] H fun a c =>
 gR [(0, 1), (1, 1), (2, 1)] [(vi 0), (vi 0), (vi 0)] [(0, Y), (1, Z), (2, x2)] fun d =>
 (cZ 3 a d c).bind fun b =>
 (ax 3 a b).bind fun e => some (e, b)) = some r) : FF bN [Y, Z, x2] H = some r :=
 fo Tryz.func130 (by kernel_rfl) h
theorem wB {r : Value × AH} (h : (
 (FF nq [x2, x3] H).bind fun b =>
 (ah b.1 0).bind fun g =>
 (ah b.1 1).bind fun a =>
 (gV a true Y).bind fun i =>
 CE a true  [.n, .f 0] i fun d =>
 (gB a true (ap d b.2)).bind fun j =>
 (gV a true Z).bind fun k =>
 (gV a true Y).bind fun l =>
 ed a true  [.n, .f 1] l b.2 fun m =>
 (gE a true b.2 (FF bN [(vi 11), m, (vi 0)] b.2)).bind fun c =>
 bE (ap d c.2) (ap d b.2) <|
 (gV a true x2).bind fun o =>
 (gV a true g).bind fun p =>
 (gE a true c.2 (FF e7 [j, k, c.1, o, p] c.2)).bind fun e =>
 (aH a e.1 (vb false)).bind fun q =>
 some (q, e.2)) = some r) : FF jr [Y, Z, x2, x3] H = some r :=
 fo Tryz.func132 (by kernel_rfl) h
theorem yb {r : Value × AH} (h : (
 aS (Value.cells x2).toList H fun a d =>
 (ax 3 a d).bind fun e =>
 (FF dI [Y, e] d).bind fun b =>
 (ax 3 a b.2).bind fun g =>
 (FF cE [Y, Z, (vi 3), g] b.2).bind fun c =>
 ld [.n, .f 0] Y c.2 fun i =>
 (ax 3 a c.2).bind fun j =>
 gR [(0, 1)] [(vw 0)] [(0, x3)] fun k =>
 (dl (.flat 3) i j k c.2).bind fun l =>
 some (b.1, l)) = some r) : FF gU [Y, Z, x2, x3] H = some r :=
 fo Tryz.func145 (by kernel_rfl) h
theorem ad5 {r : Value × AH} (h : (
 (aj .slice .eql Y (.slice none 0 0)).bind fun b =>
 au b
 (some ((.slice none 0 0), H))
 (sK 0 3 [(vi 0), (vi 0), (vi 0)] [] H fun c d =>
 (cO 3 24 c Y d).bind fun a =>
 some (a.1, a.2))) = some r) : FF XD [Y] H = some r :=
 fo Tryz.func148 (by kernel_rfl) h
theorem yc {r : Value × AH} (h : (
 (aj .other .geq Y Z).bind fun a =>
 (gV a true Y).bind fun b =>
 (gV a true x2).bind fun c =>
 (gB a true (aj .other .leq b c)).bind fun d =>
 (aH a d (vb false)).bind fun e =>
 some (e, H)) = some r) : FF dK [Y, Z, x2] H = some r :=
 fo Tryz.func149 (by kernel_rfl) h
noncomputable def lN (p : List Nat) : Code := Code.sub (bw Tryz.f150) p
noncomputable def kp : KK := dV PP (Tryz.f150).results.toList
noncomputable def N4 : KK := CQ (lN [1, 1, 1]) kp bv kp
noncomputable def ue : OV := N4 (ls [u, Z, u, u, x4, x5, x6] 23) H
noncomputable def Fi : KK := CQ (lN [1, 1, 1, 1]) kp bv kp
noncomputable def N2 : KK := dT 1073741743 Fi
noncomputable def uf : OV := Fi (ls [u, u, u, u, x4, u, x6] 23) H
noncomputable def N5 : KK := CQ (lN [1, 1, 1, 0, 1]) N2 bv kp
noncomputable def ug : OV := N5 (ls [u, Z, u, u, x4, u, x6, u, u, u, u, u, u, u, x14, x15] 14) H
noncomputable def Fl : KX := BX 0 N2 bv
noncomputable def y6 : KX := ou 1073741743 Fl
noncomputable def Fj : KK := xD (lN [1, 1, 1, 0, 1, 4, 5]) y6 kp
noncomputable def N3 : KK := dT zO Fj
noncomputable def jJ : OV := Fj (ls [u, Z, u, u, x4, u, x6, u, u, u, u, u, u, u, x14, x15] 14) H
noncomputable def N6 : KK := CQ (lN [1, 1, 1, 0, 1, 4, 5, 1, 1]) N3 y6 kp
noncomputable def uh : OV := N6 (ls [u, Z, u, u, x4, u, x6, u, u, u, u, u, u, u, x14, x15] 14) H
noncomputable def Fk : KK := CQ (lN [1, 1, 1, 0, 1, 4, 5, 1, 1, 1]) N3 y6 kp
noncomputable def ZZ : KK := dT zO Fk
noncomputable def ui : OV := Fk (ls [u, Z, u, u, x4, u, x6, u, u, u, u, u, u, u, x14, x15] 14) H
noncomputable def Z0 : KX := BX 1 ZZ y6
noncomputable def py : OV := Fl 0 (ls [u, u, u, u, x4, u, x6] 23) H
theorem i9 : aq 1073741807 kp := rf
theorem Rt : aq 1073741709 N4 := rc i9 aA i9
theorem vn : aq 1073741743 Fi := rc i9 aA i9
theorem Ru : aq zO N5 := rc (cd vn) aA i9
theorem mo : ∀ i, aq 1073741743 (Fl i) := rb (cd vn) aA
theorem qj : aq zO Fj := rl (cx mo) i9
theorem Rv : aq zO N6 := rc (cd qj) (cx mo) i9
theorem Dy : aq zO Fk := rc (cd qj) (cx mo) i9
theorem Rx : ∀ i, aq zO (Z0 i) := rb (cd Dy) (cx mo)
theorem yl : uf x4 x6 H =
 some (x6, H) :=
 (by kernel_rfl)
theorem yo : ui Z x4 x6 x14 x15 H =
 (aj .other .add x15 (vi 1)).bind fun a =>
 jJ Z x4 x6 x14 a H :=
 (by kernel_rfl)
theorem yn : uh Z x4 x6 x14 x15 H =
 ad [.n, .f 0] x6 fun a =>
 (ap a H).bind fun d =>
 (FF pj [Z] H).bind fun b =>
 bE (ap a b.2) (ap a H) <|
 sK 1 1 [(.pointer none)] [(0, b.1)] b.2 fun e g =>
 (cO 1 8 d e g).bind fun c =>
 st 1 [.n, .f 0] x6 c.1 c.2 fun i =>
 ui Z x4 x6 x14 x15 i :=
 (pt rfl 0 Dy (bt rfl (lN [1, 1, 1, 0, 1, 4, 5, 1, 1, 0, 4]) 1 Rx (by kernel_rfl)))
theorem ud : py x4 x6 H = uf x4 x6 H :=
 (by kernel_rfl)
theorem nT : jJ Z x4 x6 x14 x15 H =
 (aj .other .lss x15 x14).bind fun a =>
 au a
 (uh Z x4 x6 x14 x15 H)
 (py x4 x6 H) :=
 xS rfl qj (pt rfl 1 Rv (by kernel_rfl))
theorem ym : ug Z x4 x6 x14 x15 H =
 jJ Z x4 x6 x14 x15 H :=
 (bt rfl (lN [1, 1, 1, 0, 1, 4]) 0 mo (li rfl (lN [1, 1, 1, 0, 1, 4, 5]) qj (by kernel_rfl)))
theorem yj : ue Z x4 x5 x6 H =
 ug Z x4 x6 x5 (vi 0) H :=
 (pt rfl 0 vn (pt rfl 0 Ru (by kernel_rfl)))
noncomputable def Tc : OV := aQ PP GG FF (lN []) (ls [Y, Z] 28) H kp bv kp
theorem GK {r : Value × AH} (h : (
 (eN [Y, (vi 1)]).bind fun c =>
 (ii [c, (vi 16)]).bind fun a =>
 (FF r8 [a] H).bind fun b =>
 gR [(0, 1), (1, 1)] [(.slice none 0 0), (.pointer none)] [(1, b.1)] fun d =>
 aS (Value.cells d).toList b.2 fun e f =>
 ue Z (.pointer none) a e f) = some r) : FF pf [Y, Z] H = some r :=
 fo (t := Tc Y Z H) Tryz.func150 (by kernel_rfl) (Eq.trans (pt rfl 2 Rt (by kernel_rfl)) h)
noncomputable def lO (p : List Nat) : Code := Code.sub (bw Tryz.f154) p
noncomputable def kq : KK := dV PP (Tryz.f154).results.toList
noncomputable def N9 : KK := CQ (lO [1, 1]) kq bv kq
noncomputable def X5 : OV := N9 (ls [Y, Z, u, u, x4, x5] 24) H
noncomputable def Fm : KK := CQ (lO [1, 1, 1]) kq bv kq
noncomputable def N7 : KK := dT 1073741775 Fm
noncomputable def X6 : OV := Fm (ls [u, u, u, u, x4, x5] 24) H
noncomputable def Oa : KK := CQ (lO [1, 1, 0, 1]) N7 bv kq
noncomputable def X7 : OV := Oa (ls [Y, Z, u, u, x4, x5, x6] 23) H
noncomputable def Fq : KX := BX 0 N7 bv
noncomputable def y7 : KX := ou 1073741775 Fq
noncomputable def Fo : KK := xD (lO [1, 1, 0, 1, 4, 5]) y7 kq
noncomputable def N8 : KK := dT zP Fo
noncomputable def GV : OV := Fo (ls [Y, Z, u, u, x4, x5, x6] 23) H
noncomputable def Oc : KK := CQ (lO [1, 1, 0, 1, 4, 5, 1]) N8 y7 kq
noncomputable def X8 : OV := Oc (ls [Y, Z, u, u, x4, x5, x6] 23) H
noncomputable def Fp : KK := CQ (lO [1, 1, 0, 1, 4, 5, 1, 1]) N8 y7 kq
noncomputable def Z1 : KK := dT zP Fp
noncomputable def X9 : OV := Fp (ls [Y, Z, u, u, x4, x5, x6] 23) H
noncomputable def Z2 : KX := BX 1 Z1 y7
noncomputable def I6 : OV := Fq 0 (ls [u, u, u, u, x4, x5] 24) H
theorem ja : aq 1073741807 kq := rf
theorem Ry : aq 1073741772 N9 := rc ja aA ja
theorem vo : aq 1073741775 Fm := rc ja aA ja
theorem Rz : aq zP Oa := rc (cd vo) aA ja
theorem mp : ∀ i, aq 1073741775 (Fq i) := rb (cd vo) aA
theorem qk : aq zP Fo := rl (cx mp) ja
theorem RA : aq zP Oc := rc (cd qk) (cx mp) ja
theorem Dz : aq zP Fp := rc (cd qk) (cx mp) ja
theorem RB : ∀ i, aq zP (Z2 i) := rb (cd Dz) (cx mp)
theorem To : X6 x4 x5 H =
 some (x5, H) :=
 (by kernel_rfl)
theorem Tt : X9 Y Z x4 x5 x6 H =
 (aj .other .add x6 (vi 1)).bind fun a =>
 GV Y Z x4 x5 a H :=
 (by kernel_rfl)
theorem Tq : X8 Y Z x4 x5 x6 H =
 ad [.n, .f 0] x5 fun a =>
 (ap a H).bind fun d =>
 (FF pg [Z] H).bind fun b =>
 bE (ap a b.2) (ap a H) <|
 gR [(0, 1), (1, 1), (2, 1), (3, 1)] [(.slice none 0 0), (vw 0), (vi 0), (vb false)] [(2, b.1), (3, (vb true))] fun e =>
 aS (Value.cells e).toList b.2 fun g i =>
 sK 1 1 [(.pointer none)] [(0, g)] i fun j k =>
 (cO 1 8 d j k).bind fun c =>
 st 1 [.n, .f 0] x5 c.1 c.2 fun l =>
 X9 Y Z x4 x5 x6 l :=
 (pt rfl 0 Dz (bt rfl (lO [1, 1, 0, 1, 4, 5, 1, 0, 4]) 1 RB (by kernel_rfl)))
theorem I7 : I6 x4 x5 H = X6 x4 x5 H :=
 (by kernel_rfl)
theorem D0 : GV Y Z x4 x5 x6 H =
 (eN [Y, (vi 1)]).bind fun a =>
 (ii [a, (vi 16)]).bind fun b =>
 (aj .other .lss x6 b).bind fun c =>
 au c
 (X8 Y Z x4 x5 x6 H)
 (I6 x4 x5 H) :=
 xS rfl qk (pt rfl 0 RA (by kernel_rfl))
theorem Tp : X7 Y Z x4 x5 x6 H =
 GV Y Z x4 x5 x6 H :=
 (bt rfl (lO [1, 1, 0, 1, 4]) 0 mp (li rfl (lO [1, 1, 0, 1, 4, 5]) qk (by kernel_rfl)))
theorem Tn : X5 Y Z x4 x5 H =
 X7 Y Z x4 x5 (vi 0) H :=
 (pt rfl 0 vo (pt rfl 0 Rz (by kernel_rfl)))
noncomputable def rNQ : OV := aQ PP GG FF (lO []) (ls [Y, Z] 28) H kq bv kq
theorem ad0 {r : Value × AH} (h : (
 gR [(0, 1)] [(.slice none 0 0)] [] fun a =>
 aS (Value.cells a).toList H fun b c =>
 X5 Y Z (.pointer none) b c) = some r) : FF XA [Y, Z] H = some r :=
 fo (t := rNQ Y Z H) Tryz.func154 (by kernel_rfl) (Eq.trans (pt rfl 1 Ry (by kernel_rfl)) h)
theorem vK {r : Value × AH} (h : (
 aS (Value.cells x2).toList H fun b a =>
 (ax 3 b a).bind fun c =>
 (FF cE [Y, Z, (vi 6), c] a).bind fun d =>
 some (Value.tuple #[], d.2)) = some r) : FF eg [Y, Z, x2] H = some r :=
 fo Tryz.func155 (by kernel_rfl) h
theorem Ja {r : Value × AH} (h : (
 (eN [x2, (vi 1)]).bind fun c =>
 (ii [c, (vi 8)]).bind fun a =>
 (kL [(vi 0), (vi 0), (vi 0)] 3 24 a a H).bind fun b =>
 gR [(0, 1), (1, 1), (2, 1)] [(.pointer none), (vi 0), (.slice none 0 0)] [(0, Y), (1, Z), (2, b.1)] fun d =>
 aS (Value.cells d).toList b.2 fun e f =>
 some (e, f)) = some r) : FF r7 [Y, Z, x2] H = some r :=
 fo Tryz.func156 (by kernel_rfl) h
theorem BB {r : Value × AH} (h : (
 aS (Value.cells x3).toList H fun c a =>
 ld [.n, .f 2] Y a fun d =>
 (ax 3 c a).bind fun e =>
 gR [(0, 1), (1, 1), (2, 3)] [(vi 0), (vi 0), (vi 0), (vi 0), (vi 0)] [(0, Z), (1, x2), (2, e)] fun g =>
 sK 1 5 [(vi 0), (vi 0), (vi 0), (vi 0), (vi 0)] [(0, g)] a fun i j =>
 (cO 5 40 d i j).bind fun b =>
 st 1 [.n, .f 2] Y b.1 b.2 fun k =>
 some (Value.tuple #[], k)) = some r) : FF bB [Y, Z, x2, x3] H = some r :=
 fo Tryz.func157 (by kernel_rfl) h
theorem BE {r : Value × AH} (h : (
 (eN [x2, (vi 1)]).bind fun c =>
 (ii [c, (vi 8)]).bind fun a =>
 (kL [(vi 0), (vi 0), (vi 0)] 3 24 a a H).bind fun b =>
 gR [(0, 1), (1, 1), (2, 1), (3, 1)] [(.pointer none), (vi 0), (vi 0), (.slice none 0 0)] [(0, Y), (1, Z), (2, a), (3, b.1)] fun d =>
 aS (Value.cells d).toList b.2 fun e f =>
 some (e, f)) = some r) : FF lY [Y, Z, x2] H = some r :=
 fo Tryz.func158 (by kernel_rfl) h
theorem vJ {r : Value × AH} (h : (
 aS (Value.cells x2).toList H fun b c =>
 (ax 3 b c).bind fun d =>
 (FF cE [Y, Z, (vi 2), d] c).bind fun a =>
 ld [.n, .f 0] Y a.2 fun e =>
 (ax 3 b a.2).bind fun g =>
 gR [(0, 1)] [(vw 0)] [(0, x3)] fun i =>
 (dl (.flat 3) e g i a.2).bind fun j =>
 some (Value.tuple #[], j)) = some r) : FF db [Y, Z, x2, x3] H = some r :=
 fo Tryz.func159 (by kernel_rfl) h
theorem wq {r : Value × AH} (h : (
 aS (Value.cells x2).toList H fun b c =>
 (ax 3 b c).bind fun e =>
 (FF bB [Y, Z, (vi 2), e] c).bind fun d =>
 (ax 3 b d.2).bind fun g =>
 (FF Ba [Y, g] d.2).bind fun a =>
 ld [.n, .f 1] Y a.2 fun j =>
 st 1 [.i 1 a.1] j x3 a.2 fun k =>
 some (Value.tuple #[], k)) = some r) : FF ei [Y, Z, x2, x3] H = some r :=
 fo Tryz.func160 (by kernel_rfl) h
end
section
variable (G I J L M P R K N Q O : Value) (H : AH)
theorem EI {r : Value × AH} (h : (
 aS [(vi 0), (.slice none 0 0), (vi 0), (vw 0)] H fun b d =>
 (FF jV [G, I, J] d).bind fun e =>
 (FF jS [G, J] e.2).bind fun a =>
 (ah a.1 0).bind fun f =>
 (ah a.1 1).bind fun g =>
 (cZ 4 b f a.2).bind fun c =>
 (ax 4 b c).bind fun i => some (Value.tuple #[i, g], c)) = some r) : FF gz [G, I, J] H = some r :=
 fo Tryz.func167 (by kernel_rfl) h
noncomputable def Fs (p : List Nat) : Code := Code.sub (bw Tryz.f168) p
noncomputable def rM : KK := dV PP (Tryz.f168).results.toList
noncomputable def Od : KK := CQ (Fs [1, 1]) rM bv rM
noncomputable def z2 : OV := Od (ls [G, u, u, u, M, P, R] 27) H
noncomputable def Ft : KK := CQ (Fs [1, 1, 1]) rM bv rM
noncomputable def Z3 : KK := dT 17179869134 Ft
noncomputable def z3 : OV := Ft (ls [G, u, u, u, M, P] 28) H
noncomputable def Z4 : KX := BX 0 Z3 bv
theorem td : aq 17179869135 rM := rf
theorem RC : aq 17179869070 Od := rc td aA td
theorem DA : aq 17179869134 Ft := rc td aA td
theorem RD : ∀ i, aq 17179869134 (Z4 i) := rb (cd DA) aA
theorem Cz : z3 G M P H =
 (FF a8 [G, (.func (.func iA) #[G] #[])] H).bind fun a =>
 (ah a.1 0).bind fun c =>
 (ah a.1 1).bind fun d =>
 (cZ 4 M c a.2).bind fun b =>
 (ax 4 M b).bind fun e => some (Value.tuple #[e, d], b) :=
 (by kernel_rfl)
theorem Cy : z2 G M P R H =
 ld [.n, .f 10] G H fun e =>
 au e
 ((FF a8 [G, (.func (.func fj) #[G] #[])] H).bind fun a =>
 (ah a.1 0).bind fun g =>
 (ah a.1 1).bind fun i =>
 (cZ 4 M g a.2).bind fun c =>
 (ax 4 M c).bind fun j => some (Value.tuple #[j, i], c))
 (au R
 ((FF a8 [G, (.func (.func cr) #[G] #[])] H).bind fun b =>
 (ah b.1 0).bind fun k =>
 (ah b.1 1).bind fun l =>
 (cZ 4 M k b.2).bind fun d =>
 (ax 4 M d).bind fun m => some (Value.tuple #[m, l], d))
 (z3 G M P H)) :=
 (pt rfl 0 DA (bt rfl (Fs [1, 1, 0, 4]) 0 RD (by kernel_rfl)))
noncomputable def ZH : OV := aQ PP GG FF (Fs []) (ls [G, I] 32) H rM bv rM
theorem Kg {r : Value × AH} (h : (
 aS [(vi 0), (.slice none 0 0), (vi 0), (vw 0)] H fun b c =>
 (FF tT [G] c).bind fun a =>
 z2 G b (vb false) a.1 a.2) = some r) : FF iA [G, I] H = some r :=
 fo (t := ZH G I H) Tryz.func168 (by kernel_rfl) (Eq.trans (pt rfl 1 RC (by kernel_rfl)) h)
noncomputable def eS (p : List Nat) : Code := Code.sub (bw Tryz.f169) p
noncomputable def eW : KK := dV PP (Tryz.f169).results.toList
noncomputable def Of : KK := CQ (eS [1, 1]) eW bv eW
noncomputable def Ya : OV := Of (ls [G, I, J, u, u, u, u, K, N] 81) H
noncomputable def Fu : KK := CQ (eS [1, 1, 1]) eW bv eW
noncomputable def Oe : KK := dT HD Fu
noncomputable def Md : OV := Fu (ls [G, I, J, u, u, u, u, K, N] 81) H
noncomputable def Og : KK := CQ (eS [1, 1, 1, 1, 1]) eW bv eW
noncomputable def Yb : OV := Og (ls [G, I, J, u, u, u, u, K, N, u, O] 79) H
noncomputable def Fv : KK := CQ (eS [1, 1, 1, 1, 1, 1]) eW bv eW
noncomputable def Z5 : KK := dT Ey Fv
noncomputable def Mf : OV := Fv (ls [G, I, J, u, u, u, u, K, N, u, O] 79) H
noncomputable def Ah : KX := BX 2 Z5 bv
noncomputable def Aj : KX := ou Ey Ah
noncomputable def Ad : KK := xD (eS [1, 1, 1, 1, 1, 0, 4, 5]) Aj eW
noncomputable def If : KK := dT Ey Ad
noncomputable def zm : OV := Ad (ls [G, I, J, u, u, u, u, K, N, u, O] 79) H
noncomputable def Ih : KK := CQ (eS [1, 1, 1, 1, 1, 0, 4, 5, 1]) If Aj eW
noncomputable def PJ : OV := Ih (ls [G, I, J, u, u, u, u, K, N, u, O] 79) H
noncomputable def Vt : KX := BX 3 If Aj
noncomputable def D3 : OV := Ah 2 (ls [G, I, J, u, u, u, u, K, N, u, O] 79) H
noncomputable def Ii : KK := CQ (eS [1, 1, 0, 1]) Oe bv eW
noncomputable def PK : OV := Ii (ls [G, I, J, u, u, u, u, K, N, Q] 80) H
noncomputable def Ai : KX := BX 0 Oe bv
noncomputable def te : KX := ou HD Ai
noncomputable def Ae : KK := xD (eS [1, 1, 0, 1, 4, 5]) te eW
noncomputable def Ig : KK := dT JW Ae
noncomputable def zn : OV := Ae (ls [G, I, J, u, u, u, u, K, N, Q] 80) H
noncomputable def Ij : KK := CQ (eS [1, 1, 0, 1, 4, 5, 1]) Ig te eW
noncomputable def PL : OV := Ij (ls [G, I, J, u, u, u, u, K, N, Q] 80) H
noncomputable def Af : KK := CQ (eS [1, 1, 0, 1, 4, 5, 1, 1]) Ig te eW
noncomputable def Vs : KK := dT JW Af
noncomputable def zo : OV := Af (ls [G, I, J, u, u, u, u, K, N, Q] 80) H
noncomputable def Vu : KX := BX 1 Vs te
noncomputable def D4 : OV := Ai 0 (ls [G, I, J, u, u, u, u, K, N] 81) H
theorem dg : aq 1237940039285380274899124223 eW := rf
theorem RE : aq HD Of := rc dg aA dg
theorem vq : aq HD Fu := rc dg aA dg
theorem RF : aq Ey Og := rc dg aA dg
theorem DB : aq Ey Fv := rc dg aA dg
theorem ne : ∀ i, aq Ey (Ah i) := rb (cd DB) aA
theorem nb : aq Ey Ad := rl (cx ne) dg
theorem Kv : aq Ey Ih := rc (cd nb) (cx ne) dg
theorem Ky : ∀ i, aq Ey (Vt i) := rb (cd nb) (cx ne)
theorem Kw : aq JW Ii := rc (cd vq) aA dg
theorem ks : ∀ i, aq HD (Ai i) := rb (cd vq) aA
theorem nc : aq JW Ae := rl (cx ks) dg
theorem Kx : aq JW Ij := rc (cd nc) (cx ks) dg
theorem Ag : aq JW Af := rc (cd nc) (cx ks) dg
theorem Kz : ∀ i, aq JW (Vu i) := rb (cd Ag) (cx ks)
theorem Tz : Mf G I J K N O H =
 ld [.n, .f 13] G H fun d =>
 (dM 7 d none (some O)).bind fun e =>
 (cO 7 72 (.slice none 0 0) e H).bind fun a =>
 (ax 4 K a.2).bind fun g =>
 gR [(0, 1), (1, 1), (2, 1), (3, 4)] [(vi 0), (vi 0), (vi 0), (vi 0), (.slice none 0 0), (vi 0), (vw 0)] [(0, I), (1, J), (2, N), (3, g)] fun i =>
 sK 1 7 [(vi 0), (vi 0), (vi 0), (vi 0), (.slice none 0 0), (vi 0), (vw 0)] [(0, i)] a.2 fun j k =>
 (cO 7 72 a.1 j k).bind fun b =>
 ld [.n, .f 13] G b.2 fun l =>
 (dM 7 l (some O) none).bind fun m =>
 (cO 7 72 b.1 m b.2).bind fun c =>
 st 1 [.n, .f 13] G c.1 c.2 fun o =>
 some (Value.tuple #[], o) :=
 (by kernel_rfl)
theorem Me : PJ G I J K N O H =
 (aj .other .sub O (vi 1)).bind fun a =>
 zm G I J K N a H :=
 (bt rfl (eS [1, 1, 1, 1, 1, 0, 4, 5, 1, 4]) 3 Ky (by kernel_rfl))
theorem uI : D3 G I J K N O H = Mf G I J K N O H :=
 (by kernel_rfl)
theorem BJ : zm G I J K N O H =
 (aj .other .gtr O (vi 0)).bind fun a =>
 (gV a true G).bind fun b =>
 ed a true  [.n, .f 13] b H fun c =>
 (gV a true O).bind fun d =>
 (gB a true (aj .other .sub d (vi 1))).bind fun e =>
 ed a true  [.i 7 e, .f 0] c H fun g =>
 (gV a true I).bind fun j =>
 (gB a true (aj .other .gtr g j)).bind fun k =>
 (aH a k (vb false)).bind fun l =>
 au l
 (PJ G I J K N O H)
 (D3 G I J K N O H) :=
 xS rfl nb (pt rfl 0 Kv (by kernel_rfl))
theorem Tx : Yb G I J K N O H =
 zm G I J K N O H :=
 (pt rfl 0 DB (bt rfl (eS [1, 1, 1, 1, 1, 0, 4]) 2 ne (li rfl (eS [1, 1, 1, 1, 1, 0, 4, 5]) nb (by kernel_rfl))))
theorem Tw : Md G I J K N H =
 ld [.f 1] K H fun c =>
 (cO 3 24 (.slice none 0 0) c H).bind fun a =>
 st 1 [.f 1] K a.1 a.2 fun b =>
 ld [.n, .f 13] G b fun d =>
 dt d fun e =>
 Yb G I J K N e b :=
 (pt rfl 1 RF (by kernel_rfl))
theorem Mi : zo G I J K N Q H =
 (aj .other .add Q (vi 2)).bind fun a =>
 zn G I J K N a H :=
 (by kernel_rfl)
theorem Mh : PL G I J K N Q H =
 ld [.n, .f 12] G H fun a =>
 ld [.i 1 Q] a H fun b =>
 (aj .other .eql b J).bind fun c =>
 au c
 (ld [.n, .f 12] G H fun d =>
 (aj .other .add Q (vi 1)).bind fun e =>
 ld [.i 1 e] d H fun g =>
 zo G I J K g Q H)
 (zo G I J K N Q H) :=
 (pt rfl 0 Ag (bt rfl (eS [1, 1, 0, 1, 4, 5, 1, 0, 4]) 1 Kz (by kernel_rfl)))
theorem GW : D4 G I J K N H = Md G I J K N H :=
 (by kernel_rfl)
theorem BK : zn G I J K N Q H =
 ld [.n, .f 12] G H fun a =>
 dt a fun b =>
 (aj .other .lss Q b).bind fun c =>
 au c
 (PL G I J K N Q H)
 (D4 G I J K N H) :=
 xS rfl nc (pt rfl 0 Kx (by kernel_rfl))
theorem Mg : PK G I J K N Q H =
 zn G I J K N Q H :=
 (bt rfl (eS [1, 1, 0, 1, 4]) 0 ks (li rfl (eS [1, 1, 0, 1, 4, 5]) nc (by kernel_rfl)))
theorem Tv : Ya G I J K N H =
 PK G I J K N (vi 0) H :=
 (pt rfl 0 vq (pt rfl 0 Kw (by kernel_rfl)))
noncomputable def rPN : OV := aQ PP GG FF (eS []) (ls [G, I, J, L] 86) H eW bv eW
theorem ad1 {r : Value × AH} (h : (
 aS (Value.cells L).toList H fun a b =>
 Ya G I J a (vi 0) b) = some r) : FF XB [G, I, J, L] H = some r :=
 fo (t := rPN G I J L H) Tryz.func169 (by kernel_rfl) (Eq.trans (pt rfl 1 RE (by kernel_rfl)) h)
theorem uF {r : Value × AH} (h : (
 ad [.n, .f 0] G fun b =>
 (ap b H).bind fun d =>
 (FF bN [(vi 10), J, L] H).bind fun c =>
 bE (ap b c.2) (ap b H) <|
 (FF cV [d, I, c.1] c.2).bind fun a =>
 (aj .other .eql a.1 (vw 0)).bind fun e =>
 au e
 (some (Value.tuple #[(vi 0), (vi 0), (vb false)], a.2))
 ((aj .other .quo a.1 (vw 4294967296)).bind fun g =>
 (bV (some .i64) g).bind fun i =>
 (aj .other .sub i (vi 1)).bind fun j =>
 (aj .other .rem a.1 (vw 4294967296)).bind fun k =>
 (bV (some .i64) k).bind fun l =>
 some (Value.tuple #[j, l, (vb true)], a.2))) = some r) : FF iH [G, I, J, L] H = some r :=
 fo Tryz.func170 (by kernel_rfl) h
theorem yJ {r : Value × AH} (h : (
 aS (Value.cells J).toList H fun b c =>
 (ax 3 b c).bind fun e =>
 (FF Ba [G, e] c).bind fun a =>
 ld [.n, .f 1] G a.2 fun g =>
 ld [.i 1 a.1] g a.2 fun j =>
 (aj .other .neq j L).bind fun k =>
 au k
 ((ax 3 b a.2).bind fun l =>
 (FF bB [G, I, (vi 4), l] a.2).bind fun m =>
 some ((vb false), m.2))
 ((ax 3 b a.2).bind fun o =>
 (FF bB [G, I, (vi 3), o] a.2).bind fun d =>
 ld [.n, .f 1] G d.2 fun p =>
 st 1 [.i 1 a.1] p M d.2 fun q =>
 some ((vb true), q))) = some r) : FF e7 [G, I, J, L, M] H = some r :=
 fo Tryz.func171 (by kernel_rfl) h
theorem wC {r : Value × AH} (h : (
 ad [.n, .f 0] G fun a =>
 (ap a H).bind fun d =>
 ld [.n, .f 1] G H fun e =>
 (FF bN [(vi 11), e, (vi 0)] H).bind fun b =>
 bE (ap a b.2) (ap a H) <|
 (FF cV [d, I, b.1] b.2).bind fun c =>
 some (c.1, c.2)) = some r) : FF jt [G, I] H = some r :=
 fo Tryz.func172 (by kernel_rfl) h
theorem yI {r : Value × AH} (h : (
 aS (Value.cells J).toList H fun b c =>
 (ax 3 b c).bind fun e =>
 (FF bB [G, I, (vi 1), e] c).bind fun d =>
 (ax 3 b d.2).bind fun g =>
 (FF Ba [G, g] d.2).bind fun a =>
 ld [.n, .f 1] G a.2 fun j =>
 ld [.i 1 a.1] j a.2 fun k =>
 some (k, a.2)) = some r) : FF cV [G, I, J] H = some r :=
 fo Tryz.func173 (by kernel_rfl) h
theorem mS {r : Value × AH} (h : (
 ld [.n, .f 2] G H fun a =>
 (bV (some .u64) a).bind fun b =>
 (aj .other .rem I b).bind fun c =>
 (bV (some .i64) c).bind fun d =>
 some (d, H)) = some r) : FF dc [G, I] H = some r :=
 fo Tryz.func174 (by kernel_rfl) h
theorem BA {r : Value × AH} (h : (
 aS (Value.cells J).toList H fun c d =>
 (ax 3 c d).bind fun g =>
 (FF Ba [G, g] d).bind fun a =>
 (ax 3 c a.2).bind fun j =>
 (FF bB [G, I, (vi 3), j] a.2).bind fun b =>
 ld [.n, .f 1] G b.2 fun k =>
 ld [.i 1 a.1] k b.2 fun e =>
 ld [.n, .f 1] G b.2 fun l =>
 (aj .other .add e L).bind fun m =>
 st 1 [.i 1 a.1] l m b.2 fun o =>
 some (e, o)) = some r) : FF iR [G, I, J, L] H = some r :=
 fo Tryz.func175 (by kernel_rfl) h
theorem ww {r : Value × AH} (h : (
 ad [.n, .f 5] G fun a =>
 (ap a H).bind fun d =>
 (FF bN [(vi 2), (vi 0), (vi 0)] H).bind fun b =>
 bE (ap a b.2) (ap a H) <|
 (FF cV [d, I, b.1] b.2).bind fun c =>
 some (c.1, c.2)) = some r) : FF f2 [G, I] H = some r :=
 fo Tryz.func176 (by kernel_rfl) h
theorem wn {r : Value × AH} (h : (
 ad [.n, .f 0] G fun a =>
 (ap a H).bind fun c =>
 (FF bN [(vi 3), (vi 0), (vi 0)] H).bind fun b =>
 bE (ap a b.2) (ap a H) <|
 (FF iR [c, I, b.1, (vw 1)] b.2).bind fun d =>
 some (Value.tuple #[], d.2)) = some r) : FF f0 [G, I] H = some r :=
 fo Tryz.func177 (by kernel_rfl) h
theorem wo {r : Value × AH} (h : (
 ad [.n, .f 0] G fun a =>
 (ap a H).bind fun d =>
 (FF bN [(vi 9), J, (vi 0)] H).bind fun b =>
 bE (ap a b.2) (ap a H) <|
 (FF cV [d, I, b.1] b.2).bind fun c =>
 some (c.1, c.2)) = some r) : FF jp [G, I, J] H = some r :=
 fo Tryz.func178 (by kernel_rfl) h
theorem uB {r : Value × AH} (h : (
 ad [.n, .f 0] G fun c =>
 (ap c H).bind fun k =>
 (FF bN [(vi 14), J, (vi 0)] H).bind fun d =>
 bE (ap c d.2) (ap c H) <|
 (FF bB [k, I, (vi 6), d.1] d.2).bind fun l =>
 (FF kG [G, J] l.2).bind fun a =>
 (aj .other .lss a.1 (vi 0)).bind fun m =>
 au m
 (ld [.n, .f 2] G a.2 fun o =>
 sK 1 1 [(vi 0)] [(0, J)] a.2 fun p g =>
 (cO 1 8 o p g).bind fun b =>
 ad [.n, .f 3] G fun e =>
 (ap e b.2).bind fun q =>
 bE (ap e g) (ap e b.2) <|
 sK 1 1 [(vw 0)] [(0, L)] b.2 fun s t =>
 (cO 1 8 q s t).bind fun j =>
 st 1 [.n, .f 2] G b.1 j.2 fun w =>
 st 1 [.n, .f 3] G j.1 w fun y =>
 some (Value.tuple #[], y))
 (ld [.n, .f 3] G a.2 fun z =>
 st 1 [.i 1 a.1] z L a.2 fun A =>
 some (Value.tuple #[], A))) = some r) : FF iD [G, I, J, L] H = some r :=
 fo Tryz.func179 (by kernel_rfl) h
theorem uC {r : Value × AH} (h : (
 ad [.n, .f 0] G fun a =>
 (ap a H).bind fun d =>
 (FF bN [(vi 9), J, (vi 0)] H).bind fun b =>
 bE (ap a b.2) (ap a H) <|
 (bV (some .u64) M).bind fun e =>
 (aj .other .add e (vw 1)).bind fun g =>
 (FF e7 [d, I, b.1, L, g] b.2).bind fun c =>
 some (c.1, c.2)) = some r) : FF iE [G, I, J, L, M] H = some r :=
 fo Tryz.func180 (by kernel_rfl) h
theorem A7 {r : Value × AH} (h : (
 aS (Value.cells J).toList H fun a b =>
 (ax 3 a b).bind fun e =>
 (ax 3 a b).bind fun f =>
 (FF dI [G, f] b).bind fun c =>
 bE (ax 3 a c.2) (ax 3 a b) <|
 (aj .other .add c.1 L).bind fun g =>
 (FF gU [G, I, e, g] c.2).bind fun d =>
 some (d.1, d.2)) = some r) : FF fU [G, I, J, L] H = some r :=
 fo Tryz.func181 (by kernel_rfl) h
noncomputable def lP (p : List Nat) : Code := Code.sub (bw Tryz.f182) p
noncomputable def ku : KK := dV PP (Tryz.f182).results.toList
noncomputable def Oi : KK := CQ (lP [1]) ku bv ku
noncomputable def X3 : OV := Oi (ls [G, u, u, L, M] 45) H
noncomputable def Fw : KK := CQ (lP [1, 1]) ku bv ku
noncomputable def Oh : KK := dT HE Fw
noncomputable def X4 : OV := Fw (ls [G, u, u, L, M] 45) H
noncomputable def Il : KK := CQ (lP [1, 0, 1]) Oh bv ku
noncomputable def PG : OV := Il (ls [G, u, u, L, M, P] 44) H
noncomputable def An : KX := BX 0 Oh bv
noncomputable def tf : KX := ou HE An
noncomputable def Ak : KK := xD (lP [1, 0, 1, 4, 5]) tf ku
noncomputable def Ik : KK := dT zJ Ak
noncomputable def zl : OV := Ak (ls [G, u, u, L, M, P] 44) H
noncomputable def Im : KK := CQ (lP [1, 0, 1, 4, 5, 1]) Ik tf ku
noncomputable def PH : OV := Im (ls [G, u, u, L, M, P] 44) H
noncomputable def Al : KK := CQ (lP [1, 0, 1, 4, 5, 1, 1]) Ik tf ku
noncomputable def Vv : KK := dT zJ Al
noncomputable def PI : OV := Al (ls [G, u, u, L, M, P] 44) H
noncomputable def Vw : KX := BX 1 Vv tf
noncomputable def DZ : OV := An 0 (ls [G, u, u, L, M] 45) H
theorem jb : aq 1125899906842607 ku := rf
theorem RH : aq HE Oi := rc jb aA jb
theorem vr : aq HE Fw := rc jb aA jb
theorem KA : aq zJ Il := rc (cd vr) aA jb
theorem kw : ∀ i, aq HE (An i) := rb (cd vr) aA
theorem nf : aq zJ Ak := rl (cx kw) jb
theorem KB : aq zJ Im := rc (cd nf) (cx kw) jb
theorem Am : aq zJ Al := rc (cd nf) (cx kw) jb
theorem KC : ∀ i, aq zJ (Vw i) := rb (cd Am) (cx kw)
theorem Tm : X4 G L M H =
 ld [.n, .f 0] G H fun g =>
 (ax 3 L H).bind fun i =>
 sK 1 3 [(vi 0), (vi 0), (vi 0)] [(0, i)] H fun j c =>
 (cO 3 24 g j c).bind fun a =>
 ad [.n, .f 1] G fun b =>
 (ap b a.2).bind fun k =>
 bE (ap b c) (ap b a.2) <|
 sK 1 1 [(vw 0)] [(0, (vw 0))] a.2 fun l m =>
 (cO 1 8 k l m).bind fun d =>
 st 1 [.n, .f 0] G a.1 d.2 fun o =>
 st 1 [.n, .f 1] G d.1 o fun e =>
 ld [.n, .f 0] G e fun p =>
 dt p fun q =>
 (aj .other .sub q (vi 1)).bind fun s =>
 some (s, e) :=
 (by kernel_rfl)
theorem Mc : PI G L M P H =
 (aj .other .add P (vi 1)).bind fun a =>
 zl G L M a H :=
 (by kernel_rfl)
theorem Mb : PH G L M P H =
 ld [.n, .f 0] G H fun a =>
 ldN 3 [.i 3 P] a H fun b =>
 (ax 3 L H).bind fun c =>
 (aj (.flat 3) .eql b c).bind fun d =>
 au d
 (some (P, H))
 (PI G L M P H) :=
 (pt rfl 0 Am (bt rfl (lP [1, 0, 1, 4, 5, 1, 0, 4]) 1 KC (by kernel_rfl)))
theorem GU : DZ G L M H = X4 G L M H :=
 (by kernel_rfl)
theorem BI : zl G L M P H =
 ld [.n, .f 0] G H fun a =>
 dt a fun b =>
 (aj .other .lss P b).bind fun c =>
 au c
 (PH G L M P H)
 (DZ G L M H) :=
 xS rfl nf (pt rfl 0 KB (by kernel_rfl))
theorem Ma : PG G L M P H =
 zl G L M P H :=
 (bt rfl (lP [1, 0, 1, 4]) 0 kw (li rfl (lP [1, 0, 1, 4, 5]) nf (by kernel_rfl)))
theorem Tl : X3 G L M H =
 PG G L M (vi 0) H :=
 (pt rfl 0 vr (pt rfl 0 KA (by kernel_rfl)))
noncomputable def rMp : OV := aQ PP GG FF (lP []) (ls [G, I] 48) H ku bv ku
theorem adZ {r : Value × AH} (h : (
 aS (Value.cells I).toList H fun a b =>
 X3 G a (vi 0) b) = some r) : FF Ba [G, I] H = some r :=
 fo (t := rMp G I H) Tryz.func182 (by kernel_rfl) (Eq.trans (pt rfl 0 RH (by kernel_rfl)) h)
theorem uO {r : Value × AH} (h : (
 (cI L [J]).bind fun c => (FF c.1 c.2 H).bind fun b =>
 (ah b.1 0).bind fun i =>
 (ah b.1 1).bind fun a =>
 (gV a true G).bind fun j =>
 CE a true  [.n, .f 0] j fun e =>
 (gB a true (ap e b.2)).bind fun k =>
 (gV a true I).bind fun l =>
 (gV a true G).bind fun m =>
 (gE a true b.2 (FF cW [m, (vi 11), (vi 0)] b.2)).bind fun d =>
 bE (ap e d.2) (ap e b.2) <|
 (gV a true J).bind fun o =>
 (gV a true i).bind fun p =>
 (gE a true d.2 (FF dJ [k, l, d.1, o, p] d.2)).bind fun g =>
 (aH a g.1 (vb false)).bind fun q =>
 some (q, g.2)) = some r) : FF iJ [G, I, J, L] H = some r :=
 fo Tryz.func183 (by kernel_rfl) h
noncomputable def Fy (p : List Nat) : Code := Code.sub (bw Tryz.f185) p
noncomputable def rN : KK := dV PP (Tryz.f185).results.toList
noncomputable def Oj : KK := CQ (Fy [1, 1]) rN bv rN
noncomputable def rn : OV := Oj (ls [u, I, u, u, M, P, R, K, N] 47) H
noncomputable def Fz : KK := CQ (Fy [1, 1, 1]) rN bv rN
noncomputable def Z6 : KK := dT M4 Fz
noncomputable def rq : OV := Fz (ls [u, u, u, u, M, P] 50) H
noncomputable def Z7 : KX := BX 0 Z6 bv
theorem tg : aq M4 rN := rf
theorem RK : aq 72057594037927437 Oj := rc tg aA tg
theorem DC : aq M4 Fz := rc tg aA tg
theorem RL : ∀ i, aq M4 (Z7 i) := rb (cd DC) aA
theorem fB : rq M P H =
 some (Value.tuple #[(vw 0), (vb false)], H) :=
 (by kernel_rfl)
theorem vV : rn I M P R K N H =
 (pr .not N).bind fun i =>
 au i
 (some (Value.tuple #[(vw 0), (vb false)], H))
 ((aj .other .eql I (vi 0)).bind fun a =>
 (gV a true K).bind fun j =>
 (gB a true (aj .other .neq j (vi 2))).bind fun k =>
 (aH a k (vb false)).bind fun b =>
 (gV b true R).bind fun l =>
 (gB b true (aj .other .lss l (vw 2305843009213693951))).bind fun m =>
 (aH b m (vb false)).bind fun n =>
 au n
 ((aj .other .add R (vw 1)).bind fun o =>
 (FF kE [o, (vi 1)] H).bind fun c =>
 (ah c.1 0).bind fun p =>
 (ah c.1 1).bind fun q =>
 some (Value.tuple #[p, q], c.2))
 ((aj .other .eql I (vi 1)).bind fun d =>
 (gV d true K).bind fun s =>
 (gB d true (aj .other .eql s (vi 1))).bind fun t =>
 (aH d t (vb false)).bind fun w =>
 au w
 ((FF kE [R, (vi 0)] H).bind fun e =>
 (ah e.1 0).bind fun y =>
 (ah e.1 1).bind fun z =>
 some (Value.tuple #[y, z], e.2))
 ((aj .other .eql I (vi 2)).bind fun f =>
 (gV f true K).bind fun A =>
 (gB f true (aj .other .eql A (vi 0))).bind fun B =>
 (aH f B (vb false)).bind fun C =>
 au C
 ((FF kE [R, (vi 2)] H).bind fun g =>
 (ah g.1 0).bind fun D =>
 (ah g.1 1).bind fun E =>
 some (Value.tuple #[D, E], g.2))
 (rq M P H)))) :=
 (pt rfl 0 DC (bt rfl (Fy [1, 1, 0, 4]) 0 RL (by kernel_rfl)))
noncomputable def L3 : OV := aQ PP GG FF (Fy []) (ls [G, I] 54) H rN bv rN
theorem CN {r : Value × AH} (h : (
 (FF e6 [G] H).bind fun a =>
 (ah a.1 0).bind fun b =>
 (ah a.1 1).bind fun c =>
 (ah a.1 2).bind fun d =>
 rn I (vw 0) (vb false) b c d a.2) = some r) : FF nq [G, I] H = some r :=
 fo (t := L3 G I H) Tryz.func185 (by kernel_rfl) (Eq.trans (pt rfl 1 RK (by kernel_rfl)) h)
end
section
variable (A D B C I J E G : Value) (H : AH)
noncomputable def fG (p : List Nat) : Code := Code.sub (bw Tryz.f190) p
noncomputable def gb : KK := dV PP (Tryz.f190).results.toList
noncomputable def Om : KK := CQ (fG [1, 1, 1]) gb bv gb
noncomputable def xx : OV := Om (ls [A, u, B, C] 38) H
noncomputable def FA : KK := CQ (fG [1, 1, 1, 1]) gb bv gb
noncomputable def Z8 : KK := dT wU FA
noncomputable def pP : OV := FA (ls [u, u, B, C] 38) H
noncomputable def FB : KK := CQ (fG [1, 1, 1, 1, 1]) gb bv gb
noncomputable def Ok : KK := dT wU FB
noncomputable def xy : OV := FB (ls [u, u, B, C] 38) H
noncomputable def On : KK := CQ (fG [1, 1, 1, 1, 0, 1]) Ok bv gb
noncomputable def xz : OV := On (ls [u, u, B, C, u, u, u, u, u, u, u, u, u, u, u, u, u, u, u, u, u, u, u, u, u, u, u, u, E, G] 12) H
noncomputable def FE : KX := BX 2 Ok bv
noncomputable def y8 : KX := ou wU FE
noncomputable def FC : KK := xD (fG [1, 1, 1, 1, 0, 1, 4, 5]) y8 gb
noncomputable def Ol : KK := dT zL FC
noncomputable def lJ : OV := FC (ls [u, u, B, C, u, u, u, u, u, u, u, u, u, u, u, u, u, u, u, u, u, u, u, u, u, u, u, u, E, G] 12) H
noncomputable def Oo : KK := CQ (fG [1, 1, 1, 1, 0, 1, 4, 5, 1, 1]) Ol y8 gb
noncomputable def xA : OV := Oo (ls [u, u, B, C, u, u, u, u, u, u, u, u, u, u, u, u, u, u, u, u, u, u, u, u, u, u, u, u, E, G] 12) H
noncomputable def FD : KK := CQ (fG [1, 1, 1, 1, 0, 1, 4, 5, 1, 1, 1]) Ol y8 gb
noncomputable def Z9 : KK := dT zL FD
noncomputable def xC : OV := FD (ls [u, u, B, C, u, u, u, u, u, u, u, u, u, u, u, u, u, u, u, u, u, u, u, u, u, u, u, u, E, G] 12) H
noncomputable def aaA : KX := BX 3 Z9 y8
noncomputable def rH : OV := FE 2 (ls [u, u, B, C] 38) H
noncomputable def Ap : KX := BX 0 Z8 bv
noncomputable def Aq : KX := ou wU Ap
noncomputable def Ao : KK := xD (fG [1, 1, 1, 0, 4, 5]) Aq gb
noncomputable def In : KK := dT HG Ao
noncomputable def jN : OV := Ao (ls [A, u, B, C] 38) H
noncomputable def Io : KK := CQ (fG [1, 1, 1, 0, 4, 5, 1]) In Aq gb
noncomputable def uZ : OV := Io (ls [A, u, B, C] 38) H
noncomputable def Vx : KX := BX 1 In Aq
noncomputable def pO : OV := Ap 0 (ls [u, u, B, C] 38) H
theorem d9 : aq 4398046511099 gb := rf
theorem RM : aq HG Om := rc d9 aA d9
theorem DD : aq wU FA := rc d9 aA d9
theorem vt : aq wU FB := rc d9 aA d9
theorem RN : aq zL On := rc (cd vt) aA d9
theorem mq : ∀ i, aq wU (FE i) := rb (cd vt) aA
theorem ql : aq zL FC := rl (cx mq) d9
theorem RO : aq zL Oo := rc (cd ql) (cx mq) d9
theorem DE : aq zL FD := rc (cd ql) (cx mq) d9
theorem RP : ∀ i, aq zL (aaA i) := rb (cd DE) (cx mq)
theorem nh : ∀ i, aq wU (Ap i) := rb (cd DD) aA
theorem ng : aq HG Ao := rl (cx nh) d9
theorem KD : aq HG Io := rc (cd ng) (cx nh) d9
theorem KE : ∀ i, aq HG (Vx i) := rb (cd ng) (cx nh)
theorem B8 : xy B C H =
 some (C, H) :=
 (by kernel_rfl)
theorem Cb : xC B C E G H =
 (aj .other .add G (vi 1)).bind fun a =>
 lJ B C E a H :=
 (by kernel_rfl)
theorem Ca : xA B C E G H =
 ld [.n, .f 2] C H fun b =>
 sK 1 1 [(vi 0)] [(0, (vi (-1)))] H fun c d =>
 (cO 1 8 b c d).bind fun a =>
 st 1 [.n, .f 2] C a.1 a.2 fun e =>
 xC B C E G e :=
 (pt rfl 0 DE (bt rfl (fG [1, 1, 1, 1, 0, 1, 4, 5, 1, 1, 0, 4]) 3 RP (by kernel_rfl)))
theorem wN : rH B C H = xy B C H :=
 (by kernel_rfl)
theorem pQ : lJ B C E G H =
 (aj .other .lss G E).bind fun a =>
 au a
 (xA B C E G H)
 (rH B C H) :=
 xS rfl ql (pt rfl 1 RO (by kernel_rfl))
theorem B9 : xz B C E G H =
 lJ B C E G H :=
 (bt rfl (fG [1, 1, 1, 1, 0, 1, 4]) 2 mq (li rfl (fG [1, 1, 1, 1, 0, 1, 4, 5]) ql (by kernel_rfl)))
theorem B7 : pP B C H =
 ld [.n, .f 1] C H fun a =>
 (aj .other .mul (vi 2) a).bind fun b =>
 xz B C b (vi 0) H :=
 (pt rfl 0 vt (pt rfl 0 RN (by kernel_rfl)))
theorem yR : uZ A B C H =
 ld [.n, .f 1] C H fun a =>
 (aj .other .mul a (vi 2)).bind fun b =>
 st 1 [.n, .f 1] C b H fun c =>
 jN A B C c :=
 (bt rfl (fG [1, 1, 1, 0, 4, 5, 1, 4]) 1 KE (by kernel_rfl))
theorem lI : pO B C H = pP B C H :=
 (by kernel_rfl)
theorem n7 : jN A B C H =
 ld [.n, .f 1] C H fun a =>
 (aj .other .lss a A).bind fun b =>
 au b
 (uZ A B C H)
 (pO B C H) :=
 xS rfl ng (pt rfl 0 KD (by kernel_rfl))
theorem B6 : xx A B C H =
 jN A B C H :=
 (pt rfl 0 DD (bt rfl (fG [1, 1, 1, 0, 4]) 0 nh (li rfl (fG [1, 1, 1, 0, 4, 5]) ng (by kernel_rfl))))
noncomputable def YL : OV := aQ PP GG FF (fG []) (ls [A] 41) H gb bv gb
theorem Js {r : Value × AH} (h : (
 (eN [A, (vi 1)]).bind fun c =>
 (ii [c, (vi 16)]).bind fun a =>
 (kL [(vw 0), (vi 0), (vb false)] 3 24 a a H).bind fun b =>
 gR [(0, 1), (1, 1), (2, 1)] [(.slice none 0 0), (vi 0), (.slice none 0 0)] [(0, b.1), (1, (vi 1))] fun d =>
 aS (Value.cells d).toList b.2 fun e f =>
 xx a (.pointer none) e f) = some r) : FF r8 [A] H = some r :=
 fo (t := YL A H) Tryz.func190 (by kernel_rfl) (Eq.trans (pt rfl 2 RM (by kernel_rfl)) h)
theorem Ha {r : Value × AH} (h : (
 (FF pn [A] H).bind fun a =>
 (FF rW [] a.2).bind fun b =>
 gR [(0, 1), (1, 1), (2, 1)] [(.pointer none), (.pointer none), (vi 0)] [(0, a.1), (1, b.1), (2, A)] fun c =>
 aS (Value.cells c).toList b.2 fun d e =>
 some (d, e)) = some r) : FF pj [A] H = some r :=
 fo Tryz.func191 (by kernel_rfl) h
theorem GM {r : Value × AH} (h : (
 (eN [A, (vi 0)]).bind fun a =>
 (ii [a, (vi 40)]).bind fun b =>
 some (b, H)) = some r) : FF pg [A] H = some r :=
 fo Tryz.func200 (by kernel_rfl) h
theorem Ke {r : Value × AH} (h : (
 ld [.n, .f 0] A H fun a =>
 ld [.n, .f 1] A H fun b =>
 gR [(0, 1), (1, 1), (2, 1), (3, 1)] [(vi 0), (.slice none 0 0), (vi 0), (vw 0)] [(0, B)] fun c =>
 (FF gi [a, D, b, c] H).bind fun d =>
 some (Value.tuple #[], d.2)) = some r) : FF jV [A, D, B] H = some r :=
 fo Tryz.func207 (by kernel_rfl) h
theorem J9 {r : Value × AH} (h : (
 aS [(vi 0), (.slice none 0 0), (vi 0), (vw 0)] H fun a c =>
 gR [(0, 1), (1, 1), (2, 1), (3, 1)] [(vi 0), (.slice none 0 0), (vi 0), (vw 0)] [(0, D)] fun d =>
 (cZ 4 a d c).bind fun b =>
 (ax 4 a b).bind fun e => some (Value.tuple #[e, (vb true)], b)) = some r) : FF jS [A, D] H = some r :=
 fo Tryz.func208 (by kernel_rfl) h
noncomputable def KF (p : List Nat) : Code := Code.sub (bw Tryz.f209) p
noncomputable def rO : KK := dV PP (Tryz.f209).results.toList
noncomputable def Oq : KK := CQ (KF [1, 1, 1]) rO bv rO
noncomputable def Dl : OV := Oq (ls [A, u, B, C, I, J] 65) H
noncomputable def Ot : KK := CQ (KF [1, 1, 1, 1]) rO bv rO
noncomputable def qc : OV := Ot (ls [A, u, B] 68) H
theorem th : aq 2361183241434822606843 rO := rf
theorem RQ : aq 2361183241434822606786 Oq := rc th aA th
theorem RR : aq 2361183241434822606842 Ot := rc th aA th
theorem EG : qc A B H =
 ad [.n, .f 8] A fun a =>
 (ap a H).bind fun c =>
 ld [.n, .f 0] A H fun d =>
 ld [.n, .f 2] d H fun e =>
 (FF fM [e] H).bind fun b =>
 bE (ap a b.2) (ap a H) <|
 (aj .other .geq c b.1).bind fun g =>
 some (g, b.2) :=
 (by kernel_rfl)
theorem sZ : Dl A B C I J H =
 (gV J true C).bind fun b =>
 (gV J true A).bind fun c =>
 ed J true  [.n, .f 2, .f 1] c H fun d =>
 (gB J true (aj .other .eql b d)).bind fun e =>
 (aH J e (vb false)).bind fun g =>
 st 1 [.n, .f 10] A g H fun a =>
 ld [.n, .f 10] A a fun i =>
 au i
 (st 1 [.n, .f 9] A I a fun j =>
 qc A B j)
 (qc A B a) :=
 (pt rfl 0 RR (by kernel_rfl))
noncomputable def adC : OV := aQ PP GG FF (KF []) (ls [A] 70) H rO bv rO
theorem QH {r : Value × AH} (h : (
 ld [.n, .f 0] A H fun b =>
 ld [.n, .f 2] b H fun c =>
 ld [.n, .f 1] A H fun d =>
 ld [.n, .f 6] A H fun e =>
 ld [.n, .f 8] A H fun g =>
 (FF gm [c, d, e, g] H).bind fun a =>
 (ah a.1 0).bind fun i =>
 (ah a.1 1).bind fun j =>
 (ah a.1 2).bind fun k =>
 ld [.n, .f 8] A a.2 fun l =>
 (aj .other .add l (vi 1)).bind fun m =>
 st 1 [.n, .f 8] A m a.2 fun o =>
 Dl A (vb false) i j k o) = some r) : FF tT [A] H = some r :=
 fo (t := adC A H) Tryz.func209 (by kernel_rfl) (Eq.trans (pt rfl 2 RQ (by kernel_rfl)) h)
theorem U3 {r : Value × AH} (h : (
 aS [(vi 0), (.slice none 0 0), (vi 0), (vw 0)] H fun a c =>
 st 1 [.n, .f 7] A D c fun d =>
 gR [(0, 1), (1, 1), (2, 1), (3, 1)] [(vi 0), (.slice none 0 0), (vi 0), (vw 0)] [] fun e =>
 (cZ 4 a e d).bind fun b =>
 (ax 4 a b).bind fun g => some (Value.tuple #[g, (vb false)], b)) = some r) : FF a8 [A, D] H = some r :=
 fo Tryz.func210 (by kernel_rfl) h
theorem Kd {r : Value × AH} (h : (
 aS [(vi 0), (.slice none 0 0), (vi 0), (vw 0)] H fun d a =>
 ld [.n, .f 0] A a fun i =>
 ld [.n, .f 1] A a fun j =>
 ld [.n, .f 9] A a fun k =>
 (FF gW [i, j, k] a).bind fun b =>
 ld [.n, .f 0] A b.2 fun l =>
 ld [.n, .f 9] A b.2 fun m =>
 (FF gj [l, m] b.2).bind fun e =>
 st 1 [.n, .f 11] A e.1 e.2 fun o =>
 (FF a8 [A, (.func (.func bA) #[A] #[])] o).bind fun c =>
 (ah c.1 0).bind fun p =>
 (ah c.1 1).bind fun q =>
 (cZ 4 d p c.2).bind fun g =>
 (ax 4 d g).bind fun s => some (Value.tuple #[s, q], g)) = some r) : FF fj [A, D] H = some r :=
 fo Tryz.func211 (by kernel_rfl) h
theorem Kc {r : Value × AH} (h : (
 aS [(vi 0), (.slice none 0 0), (vi 0), (vw 0)] H fun b a =>
 ld [.n, .f 0] A a fun j =>
 ld [.n, .f 2] j a fun k =>
 ld [.n, .f 1] A a fun l =>
 ld [.n, .f 6] A a fun m =>
 (FF gl [k, l, m] a).bind fun c =>
 (pr .not c.1).bind fun o =>
 au o
 ((FF a8 [A, (.func (.func cr) #[A] #[])] c.2).bind fun d =>
 (ah d.1 0).bind fun p =>
 (ah d.1 1).bind fun q =>
 (cZ 4 b p d.2).bind fun g =>
 (ax 4 b g).bind fun s => some (Value.tuple #[s, q], g))
 (st 1 [.n, .f 8] A (vi 0) c.2 fun t =>
 (FF a8 [A, (.func (.func dh) #[A] #[])] t).bind fun e =>
 (ah e.1 0).bind fun w =>
 (ah e.1 1).bind fun y =>
 (cZ 4 b w e.2).bind fun i =>
 (ax 4 b i).bind fun z => some (Value.tuple #[z, y], i))) = some r) : FF cr [A, D] H = some r :=
 fo Tryz.func212 (by kernel_rfl) h
noncomputable def lQ (p : List Nat) : Code := Code.sub (bw Tryz.f213) p
noncomputable def ky : KK := dV PP (Tryz.f213).results.toList
noncomputable def Ow : KK := CQ (lQ [1]) ky bv ky
noncomputable def nY : OV := Ow (ls [A, D, u, u, I] 20) H
noncomputable def FG : KK := CQ (lQ [1, 1]) ky bv ky
noncomputable def Ou : KK := dT 33554415 FG
noncomputable def nZ : OV := FG (ls [u, u, u, u, I] 20) H
noncomputable def Ox : KK := CQ (lQ [1, 0, 1]) Ou bv ky
noncomputable def n0 : OV := Ox (ls [A, D, u, u, I, J] 19) H
noncomputable def FJ : KX := BX 0 Ou bv
noncomputable def y9 : KX := ou 33554415 FJ
noncomputable def FH : KK := xD (lQ [1, 0, 1, 4, 5]) y9 ky
noncomputable def Ov : KK := dT 33554380 FH
noncomputable def f8 : OV := FH (ls [A, D, u, u, I, J] 19) H
noncomputable def Oy : KK := CQ (lQ [1, 0, 1, 4, 5, 1]) Ov y9 ky
noncomputable def n5 : OV := Oy (ls [A, D, u, u, I, J] 19) H
noncomputable def FI : KK := CQ (lQ [1, 0, 1, 4, 5, 1, 1]) Ov y9 ky
noncomputable def aaB : KK := dT 33554380 FI
noncomputable def n6 : OV := FI (ls [A, D, u, u, I, J] 19) H
noncomputable def aaC : KX := BX 1 aaB y9
noncomputable def lD : OV := FJ 0 (ls [u, u, u, u, I] 20) H
theorem jc : aq 33554415 ky := rf
theorem RS : aq 33554412 Ow := rc jc aA jc
theorem vx : aq 33554415 FG := rc jc aA jc
theorem RT : aq 33554380 Ox := rc (cd vx) aA jc
theorem mr : ∀ i, aq 33554415 (FJ i) := rb (cd vx) aA
theorem qm : aq 33554380 FH := rl (cx mr) jc
theorem RU : aq 33554380 Oy := rc (cd qm) (cx mr) jc
theorem DF : aq 33554380 FI := rc (cd qm) (cx mr) jc
theorem RV : ∀ i, aq 33554380 (aaC i) := rb (cd DF) (cx mr)
theorem sq : nZ I H =
 some ((vi (-1)), H) :=
 (by kernel_rfl)
theorem su : n6 A D I J H =
 (aj .other .add J (vi 1)).bind fun a =>
 f8 A D I a H :=
 (by kernel_rfl)
theorem ss : n5 A D I J H =
 ld [.n, .f 2] A H fun a =>
 ld [.i 1 J] a H fun b =>
 (aj .other .eql b D).bind fun c =>
 au c
 (some (J, H))
 (n6 A D I J H) :=
 (pt rfl 0 DF (bt rfl (lQ [1, 0, 1, 4, 5, 1, 0, 4]) 1 RV (by kernel_rfl)))
theorem pD : lD I H = nZ I H :=
 (by kernel_rfl)
theorem kT : f8 A D I J H =
 ld [.n, .f 2] A H fun a =>
 dt a fun b =>
 (aj .other .lss J b).bind fun c =>
 au c
 (n5 A D I J H)
 (lD I H) :=
 xS rfl qm (pt rfl 0 RU (by kernel_rfl))
theorem sr : n0 A D I J H =
 f8 A D I J H :=
 (bt rfl (lQ [1, 0, 1, 4]) 0 mr (li rfl (lQ [1, 0, 1, 4, 5]) qm (by kernel_rfl)))
theorem so : nY A D I H =
 n0 A D I (vi 0) H :=
 (pt rfl 0 vx (pt rfl 0 RT (by kernel_rfl)))
noncomputable def GQ : OV := aQ PP GG FF (lQ []) (ls [A, D] 23) H ky bv ky
theorem yH {r : Value × AH} (h : (
 nY A D (vi 0) H) = some r) : FF kG [A, D] H = some r :=
 fo (t := GQ A D H) Tryz.func213 (by kernel_rfl) (Eq.trans (pt rfl 0 RS (by kernel_rfl)) h)
theorem xZ {r : Value × AH} (h : (
 aS (Value.cells B).toList H fun b c =>
 (ax 3 b c).bind fun d =>
 (FF dI [A, d] c).bind fun a =>
 (aj .other .neq a.1 C).bind fun e =>
 au e
 ((ax 3 b a.2).bind fun f =>
 (FF cE [A, D, (vi 4), f] a.2).bind fun g =>
 some ((vb false), g.2))
 ((ax 3 b a.2).bind fun i =>
 (FF gU [A, D, i, I] a.2).bind fun j =>
 some ((vb true), j.2))) = some r) : FF dJ [A, D, B, C, I] H = some r :=
 fo Tryz.func214 (by kernel_rfl) h
theorem C9 {r : Value × AH} (h : (
 (FF g7 [A] H).bind fun a =>
 (pr .not a.1).bind fun b =>
 au b
 (some ((vi (-1)), a.2))
 ((aj .other .shr A (vw 61)).bind fun c =>
 (bV (some .i64) c).bind fun d =>
 some (d, a.2))) = some r) : FF fw [A] H = some r :=
 fo Tryz.func215 (by kernel_rfl) h
theorem Hn {r : Value × AH} (h : (
 (aj .other .gtr A (vw 2305843009213693951)).bind fun a =>
 (gV a false D).bind fun c =>
 (gB a false (aj .other .lss c (vi 0))).bind fun d =>
 (aH a (vb true) d).bind fun b =>
 (gV b false D).bind fun e =>
 (gB b false (aj .other .geq e (vi 3))).bind fun f =>
 (aH b (vb true) f).bind fun g =>
 au g
 (some (Value.tuple #[(vw 0), (vb false)], H))
 ((bV (some .u64) D).bind fun i =>
 (aj .other .shl i (vw 61)).bind fun j =>
 (aj .other .or j A).bind fun k =>
 some (Value.tuple #[k, (vb true)], H))) = some r) : FF pp [A, D] H = some r :=
 fo Tryz.func216 (by kernel_rfl) h
theorem C7 {r : Value × AH} (h : (
 (FF g7 [A] H).bind fun a =>
 (pr .not a.1).bind fun b =>
 au b
 (some ((vw 0), a.2))
 ((aj .other .and A (vw 2305843009213693951)).bind fun c =>
 some (c, a.2))) = some r) : FF dk [A] H = some r :=
 fo Tryz.func217 (by kernel_rfl) h
theorem IY {r : Value × AH} (h : (
 (aj .other .gtr A (vw 2305843009213693951)).bind fun a =>
 (gV a false D).bind fun c =>
 (gB a false (aj .other .lss c (vi 0))).bind fun d =>
 (aH a (vb true) d).bind fun b =>
 (gV b false D).bind fun e =>
 (gB b false (aj .other .gtr e (vi 2))).bind fun f =>
 (aH b (vb true) f).bind fun g =>
 au g
 (some (Value.tuple #[(vw 0), (vb false)], H))
 ((bV (some .u64) D).bind fun i =>
 (aj .other .mul i (vw 2305843009213693952)).bind fun j =>
 (aj .other .add j A).bind fun k =>
 some (Value.tuple #[k, (vb true)], H))) = some r) : FF kE [A, D] H = some r :=
 fo Tryz.func218 (by kernel_rfl) h
theorem Hl {r : Value × AH} (h : (
 (FF nu [A] H).bind fun a =>
 CG a.2 fun b c =>
 gR [(0, 1), (1, 1), (2, 192), (194, 3), (197, 1)] [(vw 0), (vi 0), (.slice none 0 0), (.slice none 0 0), (.slice none 0 0), (.slice none 0 0), (.slice none 0 0), (.slice none 0 0), (.slice none 0 0), (.slice none 0 0), (.slice none 0 0), (.slice none 0 0), (.slice none 0 0), (.slice none 0 0), (.slice none 0 0), (.slice none 0 0), (.slice none 0 0), (.slice none 0 0), (.slice none 0 0), (.slice none 0 0), (.slice none 0 0), (.slice none 0 0), (.slice none 0 0), (.slice none 0 0), (.slice none 0 0), (.slice none 0 0), (.slice none 0 0), (.slice none 0 0), (.slice none 0 0), (.slice none 0 0), (.slice none 0 0), (.slice none 0 0), (.slice none 0 0), (.slice none 0 0), (.slice none 0 0), (.slice none 0 0), (.slice none 0 0), (.slice none 0 0), (.slice none 0 0), (.slice none 0 0), (.slice none 0 0), (.slice none 0 0), (.slice none 0 0), (.slice none 0 0), (.slice none 0 0), (.slice none 0 0), (.slice none 0 0), (.slice none 0 0), (.slice none 0 0), (.slice none 0 0), (.slice none 0 0), (.slice none 0 0), (.slice none 0 0), (.slice none 0 0), (.slice none 0 0), (.slice none 0 0), (.slice none 0 0), (.slice none 0 0), (.slice none 0 0), (.slice none 0 0), (.slice none 0 0), (.slice none 0 0), (.slice none 0 0), (.slice none 0 0), (.slice none 0 0), (.slice none 0 0), (.slice none 0 0), (.slice none 0 0), (.slice none 0 0), (.slice none 0 0), (.slice none 0 0), (.slice none 0 0), (.slice none 0 0), (.slice none 0 0), (.slice none 0 0), (.slice none 0 0), (.slice none 0 0), (.slice none 0 0), (.slice none 0 0), (.slice none 0 0), (.slice none 0 0), (.slice none 0 0), (.slice none 0 0), (.slice none 0 0), (.slice none 0 0), (.slice none 0 0), (.slice none 0 0), (.slice none 0 0), (.slice none 0 0), (.slice none 0 0), (.slice none 0 0), (.slice none 0 0), (.slice none 0 0), (.slice none 0 0), (.slice none 0 0), (.slice none 0 0), (.slice none 0 0), (.slice none 0 0), (.slice none 0 0), (.slice none 0 0), (.slice none 0 0), (.slice none 0 0), (.slice none 0 0), (.slice none 0 0), (.slice none 0 0), (.slice none 0 0), (.slice none 0 0), (.slice none 0 0), (.slice none 0 0), (.slice none 0 0), (.slice none 0 0), (.slice none 0 0), (.slice none 0 0), (.slice none 0 0), (.slice none 0 0), (.slice none 0 0), (.slice none 0 0), (.slice none 0 0), (.slice none 0 0), (.slice none 0 0), (.slice none 0 0), (.slice none 0 0), (.slice none 0 0), (.slice none 0 0), (.slice none 0 0), (.slice none 0 0), (.slice none 0 0), (.slice none 0 0), (.slice none 0 0), (.slice none 0 0), (.slice none 0 0), (.slice none 0 0), (.slice none 0 0), (.slice none 0 0), (.slice none 0 0), (.slice none 0 0), (.slice none 0 0), (.slice none 0 0), (.slice none 0 0), (.slice none 0 0), (.slice none 0 0), (.slice none 0 0), (.slice none 0 0), (.slice none 0 0), (.slice none 0 0), (.slice none 0 0), (.slice none 0 0), (.slice none 0 0), (.slice none 0 0), (.slice none 0 0), (.slice none 0 0), (.slice none 0 0), (.slice none 0 0), (.slice none 0 0), (.slice none 0 0), (.slice none 0 0), (.slice none 0 0), (.slice none 0 0), (.slice none 0 0), (.slice none 0 0), (.slice none 0 0), (.slice none 0 0), (.slice none 0 0), (.slice none 0 0), (.slice none 0 0), (.slice none 0 0), (.slice none 0 0), (.slice none 0 0), (.slice none 0 0), (.slice none 0 0), (.slice none 0 0), (.slice none 0 0), (.slice none 0 0), (.slice none 0 0), (.slice none 0 0), (.slice none 0 0), (.slice none 0 0), (.slice none 0 0), (.slice none 0 0), (.slice none 0 0), (.slice none 0 0), (.slice none 0 0), (.slice none 0 0), (.slice none 0 0), (.slice none 0 0), (.slice none 0 0), (.slice none 0 0), (.slice none 0 0), (.slice none 0 0), (.slice none 0 0), (.slice none 0 0), (.slice none 0 0), (.slice none 0 0), (.slice none 0 0), (vw 0), (vw 0), (vw 0), (.map none)] [(1, a.1), (4, b)] fun d =>
 aS (Value.cells d).toList c fun e f =>
 some (e, f)) = some r) : FF pn [A] H = some r :=
 fo Tryz.func220 (by kernel_rfl) h
theorem Iw (H : AH) {r : Value × AH} (h : (
 CG H fun a b =>
 gR [(0, 1), (1, 1)] [(.slice none 0 0), (.map none)] [(1, a)] fun c =>
 aS (Value.cells c).toList b fun d e =>
 some (d, e)) = some r) : FF rW [] H = some r :=
 fo Tryz.func221 (by kernel_rfl) h
theorem qR {r : Value × AH} (h : (
 ad [.n, .f 0] A fun a =>
 (ap a H).bind fun d =>
 (FF iS [B] H).bind fun b =>
 bE (ap a b.2) (ap a H) <|
 (FF dJ [d, D, b.1, (vw 0), (vw 1)] b.2).bind fun c =>
 some (c.1, c.2)) = some r) : FF gl [A, D, B] H = some r :=
 fo Tryz.func237 (by kernel_rfl) h
end
section
variable (D E G K I J L : Value) (H : AH)
theorem qN {r : Value × AH} (h : (
 aS (Value.cells K).toList H fun i a =>
 ad [.n, .f 12] D fun c =>
 (ap c a).bind fun j =>
 ad [.n, .f 11] D fun d =>
 (ap d a).bind fun e =>
 (b9 .int (vi 0) e G false a).bind fun k =>
 (ax 4 i a).bind fun l =>
 (FF pd [l] a).bind fun b =>
 bE (ap c b.2) (ap c a) <|
 bE (ap d b.2) (ap d a) <|
 bE (b9 .int (vi 0) e G false b.2) (b9 .int (vi 0) e G false a) <|
 gR [(0, 1), (1, 1), (2, 1), (3, 4)] [(vi 0), (vi 0), (vi 0), (vi 0), (.slice none 0 0), (vi 0), (vw 0)] [(0, E), (1, G), (2, k), (3, b.1)] fun m =>
 sK 1 7 [(vi 0), (vi 0), (vi 0), (vi 0), (.slice none 0 0), (vi 0), (vw 0)] [(0, m)] b.2 fun o p =>
 (cO 7 72 j o p).bind fun g =>
 st 1 [.n, .f 12] D g.1 g.2 fun q =>
 some (Value.tuple #[], q)) = some r) : FF gi [D, E, G, K] H = some r :=
 fo Tryz.func242 (by kernel_rfl) h
theorem pM {r : Value × AH} (h : (
 ld [.n, .f 2] D H fun a =>
 some (a, H)) = some r) : FF fM [D] H = some r :=
 fo Tryz.func243 (by kernel_rfl) h
theorem Kj {r : Value × AH} (h : (
 aS [(vi 0), (.slice none 0 0), (vi 0), (vw 0)] H fun a b =>
 ld [.n, .f 11] D b fun l =>
 ld [.n, .f 1] D b fun m =>
 (FF fv [l, m] b).bind fun g =>
 st 1 [.n, .f 12] D g.1 g.2 fun i =>
 ld [.n, .f 12] D i fun o =>
 (FF fw [o] i).bind fun c =>
 (aj .other .eql c.1 (vi 2)).bind fun p =>
 au p
 ((FF a8 [D, (.func (.func cr) #[D] #[])] c.2).bind fun d =>
 (ah d.1 0).bind fun q =>
 (ah d.1 1).bind fun s =>
 (cZ 4 a q d.2).bind fun j =>
 (ax 4 a j).bind fun t => some (Value.tuple #[t, s], j))
 ((FF a8 [D, (.func (.func jT) #[D] #[])] c.2).bind fun e =>
 (ah e.1 0).bind fun w =>
 (ah e.1 1).bind fun y =>
 (cZ 4 a w e.2).bind fun k =>
 (ax 4 a k).bind fun z => some (Value.tuple #[z, y], k))) = some r) : FF bA [D, E] H = some r :=
 fo Tryz.func244 (by kernel_rfl) h
noncomputable def FK (p : List Nat) : Code := Code.sub (bw Tryz.f245) p
noncomputable def rP : KK := dV PP (Tryz.f245).results.toList
noncomputable def Oz : KK := CQ (FK [1, 1]) rP bv rP
noncomputable def s4 : OV := Oz (ls [D, E, u, u, I, J, L] 30) H
noncomputable def FL : KK := CQ (FK [1, 1, 1]) rP bv rP
noncomputable def aaD : KK := dT 137438953422 FL
noncomputable def s5 : OV := FL (ls [D, u, u, u, I, J] 31) H
noncomputable def aaE : KX := BX 0 aaD bv
theorem ti : aq 137438953423 rP := rf
theorem RW : aq 137438953356 Oz := rc ti aA ti
theorem DG : aq 137438953422 FL := rc ti aA ti
theorem RX : ∀ i, aq 137438953422 (aaE i) := rb (cd DG) aA
theorem xI : s5 D I J H =
 (FF a8 [D, (.func (.func dh) #[D] #[])] H).bind fun a =>
 (ah a.1 0).bind fun c =>
 (ah a.1 1).bind fun d =>
 (cZ 4 I c a.2).bind fun b =>
 (ax 4 I b).bind fun e => some (Value.tuple #[e, d], b) :=
 (by kernel_rfl)
theorem xH : s4 D E I J L H =
 ld [.n, .f 10] D H fun e =>
 au e
 ((FF a8 [D, (.func (.func di) #[D] #[])] H).bind fun a =>
 (ah a.1 0).bind fun g =>
 (ah a.1 1).bind fun i =>
 (cZ 4 I g a.2).bind fun c =>
 (ax 4 I c).bind fun j => some (Value.tuple #[j, i], c))
 (au L
 ((FF jV [D, E, (vi 5)] H).bind fun k =>
 (FF a8 [D, (.func (.func di) #[D] #[])] k.2).bind fun b =>
 (ah b.1 0).bind fun l =>
 (ah b.1 1).bind fun m =>
 (cZ 4 I l b.2).bind fun d =>
 (ax 4 I d).bind fun o => some (Value.tuple #[o, m], d))
 (s5 D I J H)) :=
 (pt rfl 0 DG (bt rfl (FK [1, 1, 0, 4]) 0 RX (by kernel_rfl)))
noncomputable def QK : OV := aQ PP GG FF (FK []) (ls [D, E] 35) H rP bv rP
theorem EJ {r : Value × AH} (h : (
 aS [(vi 0), (.slice none 0 0), (vi 0), (vw 0)] H fun b c =>
 (FF tT [D] c).bind fun a =>
 s4 D E b (vb false) a.1 a.2) = some r) : FF dh [D, E] H = some r :=
 fo (t := QK D E H) Tryz.func245 (by kernel_rfl) (Eq.trans (pt rfl 1 RW (by kernel_rfl)) h)
theorem C8 {r : Value × AH} (h : (
 (aj .other .shr D (vw 61)).bind fun a =>
 (aj .other .lss a (vw 3)).bind fun b =>
 some (b, H)) = some r) : FF g7 [D] H = some r :=
 fo Tryz.func246 (by kernel_rfl) h
theorem C6 {r : Value × AH} (h : (
 (eN [D, (vi 0)]).bind fun a =>
 (ii [a, (vi 40)]).bind fun b =>
 some (b, H)) = some r) : FF nu [D] H = some r :=
 fo Tryz.func248 (by kernel_rfl) h
theorem B3 {r : Value × AH} (h : (
 aS [(vi 0), (vi 0), (vi 0)] H fun a c =>
 gR [(0, 1), (1, 1), (2, 1)] [(vi 0), (vi 0), (vi 0)] [(0, (vi 8)), (1, D)] fun d =>
 (cZ 3 a d c).bind fun b =>
 (ax 3 a b).bind fun e => some (e, b)) = some r) : FF iS [D] H = some r :=
 fo Tryz.func277 (by kernel_rfl) h
noncomputable def FM (p : List Nat) : Code := Code.sub (bw Tryz.f282) p
noncomputable def rQ : KK := dV PP (Tryz.f282).results.toList
noncomputable def OC : KK := CQ (FM [1, 1]) rQ bv rQ
noncomputable def z0 : OV := OC (ls [D, u, u, u, I, J, L] 45) H
noncomputable def FN : KK := CQ (FM [1, 1, 1]) rQ bv rQ
noncomputable def aaF : KK := dT 4503599627370446 FN
noncomputable def z1 : OV := FN (ls [D, u, u, u, I, J] 46) H
noncomputable def aaG : KX := BX 0 aaF bv
theorem tl : aq 4503599627370447 rQ := rf
theorem R0 : aq 4503599627370382 OC := rc tl aA tl
theorem DH : aq 4503599627370446 FN := rc tl aA tl
theorem R4 : ∀ i, aq 4503599627370446 (aaG i) := rb (cd DH) aA
theorem Cx : z1 D I J H =
 (FF a8 [D, (.func (.func iy) #[D] #[])] H).bind fun a =>
 (ah a.1 0).bind fun c =>
 (ah a.1 1).bind fun d =>
 (cZ 4 I c a.2).bind fun b =>
 (ax 4 I b).bind fun e => some (Value.tuple #[e, d], b) :=
 (by kernel_rfl)
theorem Cw : z0 D I J L H =
 ld [.n, .f 11] D H fun i =>
 ld [.n, .f 12] D H fun j =>
 (FF fq [i, j, L] H).bind fun a =>
 au a.1
 ((FF a8 [D, (.func (.func mL) #[D] #[])] a.2).bind fun b =>
 (ah b.1 0).bind fun k =>
 (ah b.1 1).bind fun l =>
 (cZ 4 I k b.2).bind fun e =>
 (ax 4 I e).bind fun m => some (Value.tuple #[m, l], e))
 (ld [.n, .f 12] D a.2 fun o =>
 (FF fw [o] a.2).bind fun c =>
 (aj .other .eql c.1 (vi 1)).bind fun p =>
 au p
 ((FF a8 [D, (.func (.func iz) #[D] #[])] c.2).bind fun d =>
 (ah d.1 0).bind fun q =>
 (ah d.1 1).bind fun s =>
 (cZ 4 I q d.2).bind fun g =>
 (ax 4 I g).bind fun t => some (Value.tuple #[t, s], g))
 (z1 D I J c.2)) :=
 (pt rfl 0 DH (bt rfl (FM [1, 1, 0, 4]) 0 R4 (by kernel_rfl)))
noncomputable def ZG : OV := aQ PP GG FF (FM []) (ls [D, E] 50) H rQ bv rQ
theorem Ka {r : Value × AH} (h : (
 aS [(vi 0), (.slice none 0 0), (vi 0), (vw 0)] H fun c a =>
 ld [.n, .f 11] D a fun d =>
 ld [.n, .f 1] D a fun e =>
 (FF ft [d, e] a).bind fun b =>
 z0 D c (vb false) b.1 b.2) = some r) : FF jT [D, E] H = some r :=
 fo (t := ZG D E H) Tryz.func282 (by kernel_rfl) (Eq.trans (pt rfl 1 R0 (by kernel_rfl)) h)
theorem EK {r : Value × AH} (h : (
 aS [(vi 0), (.slice none 0 0), (vi 0), (vw 0)] H fun b a =>
 ld [.n, .f 0] D a fun j =>
 ld [.n, .f 2] j a fun k =>
 ld [.n, .f 1] D a fun l =>
 ld [.n, .f 6] D a fun m =>
 (FF e8 [k, l, m] a).bind fun c =>
 ld [.n, .f 10] D c.2 fun o =>
 (pr .not o).bind fun p =>
 au p
 ((FF jS [D, (vi 5)] c.2).bind fun d =>
 (ah d.1 0).bind fun q =>
 (ah d.1 1).bind fun s =>
 (cZ 4 b q d.2).bind fun g =>
 (ax 4 b g).bind fun t => some (Value.tuple #[t, s], g))
 ((FF a8 [D, (.func (.func fj) #[D] #[])] c.2).bind fun e =>
 (ah e.1 0).bind fun w =>
 (ah e.1 1).bind fun y =>
 (cZ 4 b w e.2).bind fun i =>
 (ax 4 b i).bind fun z => some (Value.tuple #[z, y], i))) = some r) : FF di [D, E] H = some r :=
 fo Tryz.func283 (by kernel_rfl) h
theorem ot {r : Value × AH} (h : (
 ad [.n, .f 0] D fun a =>
 (ap a H).bind fun c =>
 (FF iS [G] H).bind fun b =>
 bE (ap a b.2) (ap a H) <|
 (FF db [c, E, b.1, (vw 0)] b.2).bind fun d =>
 some (Value.tuple #[], d.2)) = some r) : FF e8 [D, E, G] H = some r :=
 fo Tryz.func302 (by kernel_rfl) h
theorem uL {r : Value × AH} (h : (
 ad [.n, .f 0] D fun a =>
 (ap a H).bind fun d =>
 (FF cW [D, (vi 12), (vi 0)] H).bind fun b =>
 bE (ap a b.2) (ap a H) <|
 (FF cD [d, E, b.1] b.2).bind fun c =>
 some (c.1, c.2)) = some r) : FF ft [D, E] H = some r :=
 fo Tryz.func305 (by kernel_rfl) h
theorem uK {r : Value × AH} (h : (
 (FF dk [E] H).bind fun b =>
 (aj .other .geq b.1 G).bind fun a =>
 (gV a true b.1).bind fun c =>
 (gV a true G).bind fun d =>
 (gB a true (aj .other .sub c d)).bind fun e =>
 (gV a true D).bind fun g =>
 ed a true  [.n, .f 2] g b.2 fun i =>
 (tX (yv a) true (dt i some) (some undef)).bind fun j =>
 (gB a true (bV (some .u64) j)).bind fun k =>
 (gB a true (aj .other .geq e k)).bind fun l =>
 (aH a l (vb false)).bind fun m =>
 some (m, b.2)) = some r) : FF fq [D, E, G] H = some r :=
 fo Tryz.func306 (by kernel_rfl) h
theorem QL {r : Value × AH} (h : (
 aS [(vi 0), (.slice none 0 0), (vi 0), (vw 0)] H fun a b =>
 ld [.n, .f 0] D b fun k =>
 ld [.n, .f 1] D b fun l =>
 (FF eH [k, l] b).bind fun g =>
 st 1 [.n, .f 13] D g.1 g.2 fun c =>
 ld [.n, .f 13] D c fun m =>
 (aj .other .rem m (vw 2)).bind fun o =>
 (aj .other .eql o (vw 1)).bind fun p =>
 au p
 ((FF a8 [D, (.func (.func bA) #[D] #[])] c).bind fun d =>
 (ah d.1 0).bind fun q =>
 (ah d.1 1).bind fun s =>
 (cZ 4 a q d.2).bind fun i =>
 (ax 4 a i).bind fun t => some (Value.tuple #[t, s], i))
 ((FF a8 [D, (.func (.func dH) #[D] #[])] c).bind fun e =>
 (ah e.1 0).bind fun w =>
 (ah e.1 1).bind fun y =>
 (cZ 4 a w e.2).bind fun j =>
 (ax 4 a j).bind fun z => some (Value.tuple #[z, y], j))) = some r) : FF mL [D, E] H = some r :=
 fo Tryz.func307 (by kernel_rfl) h
theorem HW {r : Value × AH} (h : (
 aS [(vi 0), (.slice none 0 0), (vi 0), (vw 0)] H fun a b =>
 ld [.n, .f 11] D b fun j =>
 ld [.n, .f 1] D b fun k =>
 ld [.n, .f 12] D b fun l =>
 (FF eJ [j, k, l] b).bind fun c =>
 (pr .not c.1).bind fun m =>
 au m
 ((FF a8 [D, (.func (.func bA) #[D] #[])] c.2).bind fun d =>
 (ah d.1 0).bind fun o =>
 (ah d.1 1).bind fun p =>
 (cZ 4 a o d.2).bind fun g =>
 (ax 4 a g).bind fun q => some (Value.tuple #[q, p], g))
 ((FF jV [D, E, (vi 0)] c.2).bind fun s =>
 (FF a8 [D, (.func (.func mK) #[D] #[])] s.2).bind fun e =>
 (ah e.1 0).bind fun t =>
 (ah e.1 1).bind fun w =>
 (cZ 4 a t e.2).bind fun i =>
 (ax 4 a i).bind fun y => some (Value.tuple #[y, w], i))) = some r) : FF iz [D, E] H = some r :=
 fo Tryz.func308 (by kernel_rfl) h
theorem HV {r : Value × AH} (h : (
 aS [(vi 0), (.slice none 0 0), (vi 0), (vw 0)] H fun c a =>
 ld [.n, .f 0] D a fun e =>
 ld [.n, .f 1] e a fun g =>
 ld [.n, .f 1] D a fun i =>
 (FF fJ [g, i] a).bind fun j =>
 (FF a8 [D, (.func (.func jY) #[D] #[])] j.2).bind fun b =>
 (ah b.1 0).bind fun k =>
 (ah b.1 1).bind fun l =>
 (cZ 4 c k b.2).bind fun d =>
 (ax 4 c d).bind fun m => some (Value.tuple #[m, l], d)) = some r) : FF iy [D, E] H = some r :=
 fo Tryz.func309 (by kernel_rfl) h
theorem sg {r : Value × AH} (h : (
 ld [.n, .f 0] D H fun b =>
 gR [(0, 1), (1, 1), (2, 1)] [(vi 0), (vi 0), (vi 0)] [(0, (vi 2))] fun c =>
 (FF cD [b, E, c] H).bind fun a =>
 some (a.1, a.2)) = some r) : FF eH [D, E] H = some r :=
 fo Tryz.func316 (by kernel_rfl) h
theorem xJ {r : Value × AH} (h : (
 aS [(vi 0), (.slice none 0 0), (vi 0), (vw 0)] H fun a b =>
 ld [.n, .f 11] D b fun l =>
 ld [.n, .f 1] D b fun m =>
 (FF fv [l, m] b).bind fun g =>
 st 1 [.n, .f 12] D g.1 g.2 fun i =>
 ld [.n, .f 12] D i fun o =>
 (FF fw [o] i).bind fun c =>
 (aj .other .eql c.1 (vi 2)).bind fun p =>
 au p
 ((FF a8 [D, (.func (.func cr) #[D] #[])] c.2).bind fun d =>
 (ah d.1 0).bind fun q =>
 (ah d.1 1).bind fun s =>
 (cZ 4 a q d.2).bind fun j =>
 (ax 4 a j).bind fun t => some (Value.tuple #[t, s], j))
 ((FF a8 [D, (.func (.func dG) #[D] #[])] c.2).bind fun e =>
 (ah e.1 0).bind fun w =>
 (ah e.1 1).bind fun y =>
 (cZ 4 a w e.2).bind fun k =>
 (ax 4 a k).bind fun z => some (Value.tuple #[z, y], k))) = some r) : FF dH [D, E] H = some r :=
 fo Tryz.func318 (by kernel_rfl) h
theorem sE {r : Value × AH} (h : (
 (FF iJ [D, E, G, (.func (.func lu) #[] #[])] H).bind fun a =>
 some (a.1, a.2)) = some r) : FF eJ [D, E, G] H = some r :=
 fo Tryz.func319 (by kernel_rfl) h
theorem QJ {r : Value × AH} (h : (
 aS [(vi 0), (.slice none 0 0), (vi 0), (vw 0)] H fun b d =>
 (FF tU [D] d).bind fun e =>
 (FF a8 [D, (.func (.func jX) #[D] #[])] e.2).bind fun a =>
 (ah a.1 0).bind fun f =>
 (ah a.1 1).bind fun g =>
 (cZ 4 b f a.2).bind fun c =>
 (ax 4 b c).bind fun i => some (Value.tuple #[i, g], c)) = some r) : FF mK [D, E] H = some r :=
 fo Tryz.func320 (by kernel_rfl) h
theorem oW {r : Value × AH} (h : (
 ad [.n, .f 0] D fun a =>
 (ap a H).bind fun c =>
 (FF aY [(vi 3), (vi 0)] H).bind fun b =>
 bE (ap a b.2) (ap a H) <|
 (FF fU [c, E, b.1, (vw 4294967296)] b.2).bind fun d =>
 some (Value.tuple #[], d.2)) = some r) : FF fJ [D, E] H = some r :=
 fo Tryz.func321 (by kernel_rfl) h
theorem Ki {r : Value × AH} (h : (
 aS [(vi 0), (.slice none 0 0), (vi 0), (vw 0)] H fun a b =>
 ld [.n, .f 11] D b fun j =>
 ld [.n, .f 1] D b fun k =>
 ld [.n, .f 12] D b fun l =>
 (FF eJ [j, k, l] b).bind fun c =>
 (pr .not c.1).bind fun m =>
 au m
 ((FF a8 [D, (.func (.func jQ) #[D] #[])] c.2).bind fun d =>
 (ah d.1 0).bind fun o =>
 (ah d.1 1).bind fun p =>
 (cZ 4 a o d.2).bind fun g =>
 (ax 4 a g).bind fun q => some (Value.tuple #[q, p], g))
 ((FF jV [D, E, (vi 0)] c.2).bind fun s =>
 (FF a8 [D, (.func (.func jR) #[D] #[])] s.2).bind fun e =>
 (ah e.1 0).bind fun t =>
 (ah e.1 1).bind fun w =>
 (cZ 4 a t e.2).bind fun i =>
 (ax 4 a i).bind fun y => some (Value.tuple #[y, w], i))) = some r) : FF jY [D, E] H = some r :=
 fo Tryz.func322 (by kernel_rfl) h
theorem xG {r : Value × AH} (h : (
 aS [(vi 0), (.slice none 0 0), (vi 0), (vw 0)] H fun b a =>
 ad [.n, .f 11] D fun d =>
 (ap d a).bind fun m =>
 ad [.n, .f 12] D fun e =>
 (ap e a).bind fun o =>
 ld [.n, .f 11] D a fun p =>
 ld [.n, .f 1] D a fun q =>
 (FF ft [p, q] a).bind fun c =>
 bE (ap d c.2) (ap d a) <|
 bE (ap e c.2) (ap e a) <|
 (FF fq [m, o, c.1] c.2).bind fun g =>
 (pr .not g.1).bind fun s =>
 au s
 ((FF a8 [D, (.func (.func bA) #[D] #[])] g.2).bind fun i =>
 (ah i.1 0).bind fun t =>
 (ah i.1 1).bind fun w =>
 (cZ 4 b t i.2).bind fun k =>
 (ax 4 b k).bind fun y => some (Value.tuple #[y, w], k))
 (st 1 [.n, .f 14] D E g.2 fun z =>
 (FF a8 [D, (.func (.func en) #[D] #[])] z).bind fun j =>
 (ah j.1 0).bind fun A =>
 (ah j.1 1).bind fun B =>
 (cZ 4 b A j.2).bind fun l =>
 (ax 4 b l).bind fun C => some (Value.tuple #[C, B], l))) = some r) : FF dG [D, E] H = some r :=
 fo Tryz.func324 (by kernel_rfl) h
theorem Hm {r : Value × AH} (h : (
 (FF g7 [D] H).bind fun c =>
 (pr .not c.1).bind fun a =>
 (gV a false D).bind fun i =>
 (gE a false c.2 (FF fw [i] c.2)).bind fun d =>
 (gB a false (aj .other .eql d.1 (vi 2))).bind fun j =>
 (aH a (vb true) j).bind fun b =>
 (gV b false D).bind fun k =>
 (gE b false d.2 (FF dk [k] d.2)).bind fun e =>
 (gB b false (aj .other .eql e.1 (vw 2305843009213693951))).bind fun l =>
 (aH b (vb true) l).bind fun m =>
 au m
 (some (Value.tuple #[(vw 0), (vb false)], e.2))
 ((FF dk [D] e.2).bind fun g =>
 (aj .other .add g.1 (vw 1)).bind fun n =>
 (FF pp [n, (vi 1)] g.2).bind fun f =>
 (ah f.1 0).bind fun o =>
 (ah f.1 1).bind fun p =>
 some (Value.tuple #[o, p], f.2))) = some r) : FF lu [D] H = some r :=
 fo Tryz.func325 (by kernel_rfl) h
theorem QI {r : Value × AH} (h : (
 ad [.n, .f 11] D fun b =>
 (ap b H).bind fun i =>
 ad [.n, .f 1] D fun c =>
 (ap c H).bind fun j =>
 ld [.n, .f 12] D H fun k =>
 (FF dk [k] H).bind fun a =>
 bE (ap b a.2) (ap b H) <|
 bE (ap c a.2) (ap c H) <|
 ad [.n, .f 2, .f 1] D fun d =>
 (ap d a.2).bind fun l =>
 bE (ap d H) (ap d a.2) <|
 ad [.n, .f 2, .f 2] D fun e =>
 (ap e a.2).bind fun m =>
 bE (ap e H) (ap e a.2) <|
 ad [.n, .f 2, .f 3] D fun g =>
 (ap g a.2).bind fun o =>
 bE (ap g H) (ap g a.2) <|
 gR [(0, 1), (1, 1), (2, 1)] [(vi 0), (vi 0), (vi 0)] [(0, l), (1, m), (2, o)] fun p =>
 (FF jv [i, j, a.1, p] a.2).bind fun q =>
 some (Value.tuple #[], q.2)) = some r) : FF tU [D] H = some r :=
 fo Tryz.func326 (by kernel_rfl) h
theorem Kh {r : Value × AH} (h : (
 aS [(vi 0), (.slice none 0 0), (vi 0), (vw 0)] H fun g a =>
 ad [.n, .f 11] D fun c =>
 (ap c a).bind fun j =>
 ad [.n, .f 1] D fun d =>
 (ap d a).bind fun k =>
 ld [.n, .f 12] D a fun l =>
 (FF dk [l] a).bind fun b =>
 bE (ap c b.2) (ap c a) <|
 bE (ap d b.2) (ap d a) <|
 (FF fu [j, k, b.1] b.2).bind fun m =>
 (FF jS [D, (vi 0)] m.2).bind fun e =>
 (ah e.1 0).bind fun o =>
 (ah e.1 1).bind fun p =>
 (cZ 4 g o e.2).bind fun i =>
 (ax 4 g i).bind fun q => some (Value.tuple #[q, p], i)) = some r) : FF jX [D, E] H = some r :=
 fo Tryz.func327 (by kernel_rfl) h
theorem J7 {r : Value × AH} (h : (
 aS [(vi 0), (.slice none 0 0), (vi 0), (vw 0)] H fun c a =>
 ld [.n, .f 0] D a fun e =>
 ld [.n, .f 1] e a fun g =>
 ld [.n, .f 1] D a fun i =>
 (FF eG [g, i] a).bind fun j =>
 (FF a8 [D, (.func (.func bA) #[D] #[])] j.2).bind fun b =>
 (ah b.1 0).bind fun k =>
 (ah b.1 1).bind fun l =>
 (cZ 4 c k b.2).bind fun d =>
 (ax 4 c d).bind fun m => some (Value.tuple #[m, l], d)) = some r) : FF jQ [D, E] H = some r :=
 fo Tryz.func328 (by kernel_rfl) h
theorem J8 {r : Value × AH} (h : (
 aS [(vi 0), (.slice none 0 0), (vi 0), (vw 0)] H fun b d =>
 (FF tU [D] d).bind fun e =>
 (FF a8 [D, (.func (.func iB) #[D] #[])] e.2).bind fun a =>
 (ah a.1 0).bind fun f =>
 (ah a.1 1).bind fun g =>
 (cZ 4 b f a.2).bind fun c =>
 (ax 4 b c).bind fun i => some (Value.tuple #[i, g], c)) = some r) : FF jR [D, E] H = some r :=
 fo Tryz.func329 (by kernel_rfl) h
theorem z4 {r : Value × AH} (h : (
 aS [(vi 0), (.slice none 0 0), (vi 0), (vw 0)] H fun b c =>
 ld [.n, .f 0] D c fun k =>
 ld [.n, .f 1] D c fun l =>
 (FF eH [k, l] c).bind fun a =>
 ad [.n, .f 13] D fun d =>
 (ap d a.2).bind fun m =>
 bE (ap d c) (ap d a.2) <|
 (aj .other .neq a.1 m).bind fun o =>
 au o
 ((FF a8 [D, (.func (.func bA) #[D] #[])] a.2).bind fun e =>
 (ah e.1 0).bind fun p =>
 (ah e.1 1).bind fun q =>
 (cZ 4 b p e.2).bind fun i =>
 (ax 4 b i).bind fun s => some (Value.tuple #[s, q], i))
 (ld [.n, .f 14] D a.2 fun t =>
 (FF gz [D, t, (vi 9)] a.2).bind fun g =>
 (ah g.1 0).bind fun w =>
 (ah g.1 1).bind fun y =>
 (cZ 4 b w g.2).bind fun j =>
 (ax 4 b j).bind fun z => some (Value.tuple #[z, y], j))) = some r) : FF en [D, E] H = some r :=
 fo Tryz.func330 (by kernel_rfl) h
theorem wJ {r : Value × AH} (h : (
 aS (Value.cells K).toList H fun e c =>
 ad [.n, .f 0] D fun a =>
 (ap a c).bind fun l =>
 (FF cu [D, G] c).bind fun g =>
 bE (ap a g.2) (ap a c) <|
 (FF cW [D, (vi 16), g.1] g.2).bind fun j =>
 bE (ap a j.2) (ap a c) <|
 (FF eg [l, E, j.1] j.2).bind fun d =>
 ad [.n, .f 2] D fun k =>
 (ap k d.2).bind fun m =>
 (FF cu [D, G] d.2).bind fun b =>
 bE (ap k b.2) (ap k d.2) <|
 (ax 3 e b.2).bind fun o =>
 bE (ax 3 e d.2) (ax 3 e b.2) <|
 st 3 [.i 3 b.1] m o b.2 fun p =>
 some (Value.tuple #[], p)) = some r) : FF jv [D, E, G, K] H = some r :=
 fo Tryz.func331 (by kernel_rfl) h
theorem uM {r : Value × AH} (h : (
 ad [.n, .f 0] D fun a =>
 (ap a H).bind fun d =>
 (FF cu [D, G] H).bind fun b =>
 bE (ap a b.2) (ap a H) <|
 (FF cW [D, (vi 15), b.1] b.2).bind fun c =>
 bE (ap a c.2) (ap a H) <|
 (aj .other .add G (vw 1)).bind fun e =>
 (FF db [d, E, c.1, e] c.2).bind fun g =>
 some (Value.tuple #[], g.2)) = some r) : FF fu [D, E, G] H = some r :=
 fo Tryz.func332 (by kernel_rfl) h
theorem rS {r : Value × AH} (h : (
 ad [.n, .f 0] D fun a =>
 (ap a H).bind fun c =>
 (FF aY [(vi 3), (vi 0)] H).bind fun b =>
 bE (ap a b.2) (ap a H) <|
 (FF fU [c, E, b.1, (vw 1)] b.2).bind fun d =>
 some (Value.tuple #[], d.2)) = some r) : FF eG [D, E] H = some r :=
 fo Tryz.func333 (by kernel_rfl) h
theorem HY {r : Value × AH} (h : (
 aS [(vi 0), (.slice none 0 0), (vi 0), (vw 0)] H fun g a =>
 ad [.n, .f 11] D fun c =>
 (ap c a).bind fun j =>
 ad [.n, .f 1] D fun d =>
 (ap d a).bind fun k =>
 ld [.n, .f 12] D a fun l =>
 (FF dk [l] a).bind fun b =>
 bE (ap c b.2) (ap c a) <|
 bE (ap d b.2) (ap d a) <|
 (FF fu [j, k, b.1] b.2).bind fun m =>
 (FF a8 [D, (.func (.func cN) #[D] #[])] m.2).bind fun e =>
 (ah e.1 0).bind fun o =>
 (ah e.1 1).bind fun p =>
 (cZ 4 g o e.2).bind fun i =>
 (ax 4 g i).bind fun q => some (Value.tuple #[q, p], i)) = some r) : FF iB [D, E] H = some r :=
 fo Tryz.func334 (by kernel_rfl) h
theorem CA {r : Value × AH} (h : (
 aS [(vi 0), (.slice none 0 0), (vi 0), (vw 0)] H fun c a =>
 ld [.n, .f 0] D a fun g =>
 ld [.n, .f 1] g a fun i =>
 ld [.n, .f 1] D a fun j =>
 ld [.n, .f 6] D a fun k =>
 (FF gS [i, j, k] a).bind fun d =>
 st 1 [.n, .f 15] D d.1 d.2 fun l =>
 (FF a8 [D, (.func (.func jU) #[D] #[])] l).bind fun b =>
 (ah b.1 0).bind fun m =>
 (ah b.1 1).bind fun o =>
 (cZ 4 c m b.2).bind fun e =>
 (ax 4 c e).bind fun p => some (Value.tuple #[p, o], e)) = some r) : FF cN [D, E] H = some r :=
 fo Tryz.func335 (by kernel_rfl) h
theorem rT {r : Value × AH} (h : (
 ad [.n, .f 0] D fun a =>
 (ap a H).bind fun e =>
 ld [.n, .f 3] D H fun g =>
 (cI g [G]).bind fun c => (FF c.1 c.2 H).bind fun b =>
 bE (ap a b.2) (ap a H) <|
 (FF cD [e, E, b.1] b.2).bind fun d =>
 some (d.1, d.2)) = some r) : FF gS [D, E, G] H = some r :=
 fo Tryz.func336 (by kernel_rfl) h
theorem Kb {r : Value × AH} (h : (
 aS [(vi 0), (.slice none 0 0), (vi 0), (vw 0)] H fun c a =>
 ld [.n, .f 0] D a fun e =>
 ld [.n, .f 1] e a fun g =>
 ld [.n, .f 1] D a fun i =>
 ld [.n, .f 9] D a fun j =>
 ld [.n, .f 15] D a fun k =>
 (FF gf [g, i, j, k] a).bind fun l =>
 (FF a8 [D, (.func (.func jW) #[D] #[])] l.2).bind fun b =>
 (ah b.1 0).bind fun m =>
 (ah b.1 1).bind fun o =>
 (cZ 4 c m b.2).bind fun d =>
 (ax 4 c d).bind fun p => some (Value.tuple #[p, o], d)) = some r) : FF jU [D, E] H = some r :=
 fo Tryz.func337 (by kernel_rfl) h
theorem qI {r : Value × AH} (h : (
 ad [.n, .f 0] D fun a =>
 (ap a H).bind fun e =>
 ld [.n, .f 4] D H fun g =>
 (cI g [G]).bind fun c => (FF c.1 c.2 H).bind fun b =>
 bE (ap a b.2) (ap a H) <|
 (FF eg [e, E, b.1] b.2).bind fun d =>
 ld [.n, .f 2] D d.2 fun i =>
 (dl .int i G K d.2).bind fun j =>
 some (Value.tuple #[], j)) = some r) : FF gf [D, E, G, K] H = some r :=
 fo Tryz.func338 (by kernel_rfl) h
theorem Kf {r : Value × AH} (h : (
 aS [(vi 0), (.slice none 0 0), (vi 0), (vw 0)] H fun b a =>
 ld [.n, .f 0] D a fun j =>
 ld [.n, .f 1] j a fun k =>
 ld [.n, .f 1] D a fun l =>
 ld [.n, .f 6] D a fun m =>
 ld [.n, .f 15] D a fun o =>
 ld [.n, .f 9] D a fun p =>
 (FF gg [k, l, m, o, p] a).bind fun c =>
 (pr .not c.1).bind fun q =>
 au q
 ((FF a8 [D, (.func (.func cN) #[D] #[])] c.2).bind fun d =>
 (ah d.1 0).bind fun s =>
 (ah d.1 1).bind fun t =>
 (cZ 4 b s d.2).bind fun g =>
 (ax 4 b g).bind fun w => some (Value.tuple #[w, t], g))
 ((FF a8 [D, (.func (.func mJ) #[D] #[])] c.2).bind fun e =>
 (ah e.1 0).bind fun y =>
 (ah e.1 1).bind fun z =>
 (cZ 4 b y e.2).bind fun i =>
 (ax 4 b i).bind fun A => some (Value.tuple #[A, z], i))) = some r) : FF jW [D, E] H = some r :=
 fo Tryz.func339 (by kernel_rfl) h
theorem qJ {r : Value × AH} (h : (
 ad [.n, .f 0] D fun a =>
 (ap a H).bind fun e =>
 ld [.n, .f 3] D H fun g =>
 (cI g [G]).bind fun c => (FF c.1 c.2 H).bind fun b =>
 bE (ap a b.2) (ap a H) <|
 (bV (some .u64) I).bind fun i =>
 (aj .other .add i (vw 1)).bind fun j =>
 (FF dJ [e, E, b.1, K, j] b.2).bind fun d =>
 some (d.1, d.2)) = some r) : FF gg [D, E, G, K, I] H = some r :=
 fo Tryz.func340 (by kernel_rfl) h
theorem QG {r : Value × AH} (h : (
 aS [(vi 0), (.slice none 0 0), (vi 0), (vw 0)] H fun c a =>
 ld [.n, .f 0] D a fun e =>
 ld [.n, .f 1] e a fun g =>
 ld [.n, .f 1] D a fun i =>
 (FF eG [g, i] a).bind fun j =>
 (FF jS [D, (vi 0)] j.2).bind fun b =>
 (ah b.1 0).bind fun k =>
 (ah b.1 1).bind fun l =>
 (cZ 4 c k b.2).bind fun d =>
 (ax 4 c d).bind fun m => some (Value.tuple #[m, l], d)) = some r) : FF mJ [D, E] H = some r :=
 fo Tryz.func341 (by kernel_rfl) h
end
theorem Ch (n : Int) : IntKind.wrap .u64 n = n % 18446744073709551616 := by simp [IntKind.wrap, IntKind.bits, IntKind.signed]
theorem j8 {n : Int} (h0 : 0 ≤ n) (h1 : n < 18446744073709551616) : IntKind.wrap .u64 n = n := by rw [Ch]; omega
theorem mW {n : Int} (h0 : -9223372036854775808 ≤ n) (h1 : n < 9223372036854775808) : IntKind.wrap .i64 n = n := by
 simp [IntKind.wrap, IntKind.bits, IntKind.signed]
 split <;> omega
theorem qx (a : Nat) (h : a < 18446744073709551616) : (BitVec.ofInt 64 (a : Int)).toNat = a := by
 rw [BitVec.toNat_ofInt];omega
theorem JX {a b : Nat} (ha : a < 18446744073709551616) (hb : b < 18446744073709551616) : Go.bits .and .u64 (a : Int) (b : Int) = ((a &&& b : Nat) : Int) := by
 show IntKind.wrap .u64 (((BitVec.ofInt 64 (a : Int) &&& BitVec.ofInt 64 (b : Int)).toNat : Nat) : Int) = _;rw [BitVec.toNat_and, qx a ha, qx b hb];have : a &&& b ≤ a := Nat.and_le_left;exact j8 (by omega) (by omega)
theorem afG {a b : Nat} (ha : a < 18446744073709551616) (hb : b < 18446744073709551616) : a ||| b < 18446744073709551616 := Nat.or_lt_two_pow (n := 64) ha hb
theorem QB {a b : Nat} (ha : a < 18446744073709551616) (hb : b < 18446744073709551616) : Go.bits .or .u64 (a : Int) (b : Int) = ((a ||| b : Nat) : Int) := by
 show IntKind.wrap .u64 (((BitVec.ofInt 64 (a : Int) ||| BitVec.ofInt 64 (b : Int)).toNat : Nat) : Int) = _;rw [BitVec.toNat_or, qx a ha, qx b hb];have := afG ha hb;exact j8 (by omega) (by omega)
section
variable {cl : TCls}
theorem Zz {a b : Nat} (ha : a < 18446744073709551616) (hb : b < 18446744073709551616) : aj cl .and (vu a) (vu b) = some (vu (a &&& b)) := by simp only [aj, kX, if_true, JX ha hb]
theorem UN {a b : Nat} (ha : a < 18446744073709551616) (hb : b < 18446744073709551616) : aj cl .or (vu a) (vu b) = some (vu (a ||| b)) := by simp only [aj, kX, if_true, QB ha hb]
theorem ej {a b : Nat} (h : a + b < 18446744073709551616) : aj cl .add (vu a) (vu b) = some (vu (a + b)) := by
 simp only [aj, kX, if_true];rw [j8 (by omega) (by omega)];simp
theorem QA {a b : Nat} : aj cl .mul (vu a) (vu b) = some (vu (a * b % 18446744073709551616)) := by
 simp only [aj, kX, if_true];rw [Ch];simp
theorem Dh {a b : Nat} (h : b ≤ a) (ha : a < 18446744073709551616) : aj cl .sub (vu a) (vu b) = some (vu (a - b)) := by
 simp only [aj, kX, if_true];rw [j8 (by omega) (by omega)];show some (Value.int .u64 ((a : Int) - (b : Int))) = some (Value.int .u64 ((a - b : Nat) : Int));rw [Int.ofNat_sub h]
theorem De {a b : Nat} (h : b ≠ 0) (ha : a < 18446744073709551616) : aj cl .quo (vu a) (vu b) = some (vu (a / b)) := by
 simp only [aj, kX, if_true];rw [if_neg (by omega)];have h1 : (a : Int).tdiv (b : Int) = ((a / b : Nat) : Int) := (Int.ofNat_tdiv a b).symm;have h2 : a / b ≤ a := Nat.div_le_self a b;rw [h1]
 generalize a / b = q at h2
 rw [j8 (by omega) (by omega)]
theorem ir {a b : Nat} (h : b ≠ 0) : aj cl .rem (vu a) (vu b) = some (vu (a % b)) := by
 simp only [aj, kX, if_true];rw [if_neg (by omega)];have h1 : (a : Int).tmod (b : Int) = ((a % b : Nat) : Int) := (Int.ofNat_tmod a b).symm;rw [h1]
theorem Dg {a : Nat} {k : IntKind} {n : Nat} (hn : n ≤ 64) : aj cl .shr (vu a) (.int k (n : Int)) = some (vu (a / 2 ^ n)) := by
 simp only [aj, kM];rw [if_neg (by omega)];simp only [IntKind.bits, tI, Nat.min_eq_left hn]
 have : (a : Int).fdiv (2 ^ n) = ((a / 2 ^ n : Nat) : Int) := by
  rw [Int.fdiv_eq_ediv_of_nonneg _ (by exact Int.le_of_lt (Int.pow_pos (by omega)))];simp
 rw [this]
theorem Df {a : Nat} {k : IntKind} {n : Nat} (hn : n ≤ 64) : aj cl .shl (vu a) (.int k (n : Int)) = some (vu (a * 2 ^ n % 18446744073709551616)) := by
 simp only [aj, kM];rw [if_neg (by omega)];simp only [IntKind.bits, tI, Nat.min_eq_left hn];rw [Ch];simp
theorem aJ {a b : Int} (h0 : -9223372036854775808 ≤ a + b) (h1 : a + b < 9223372036854775808) : aj cl .add (vi a) (vi b) = some (vi (a + b)) := by simp only [aj, kX, if_true, mW h0 h1]
theorem fe {a b : Int} (h0 : -9223372036854775808 ≤ a - b) (h1 : a - b < 9223372036854775808) : aj cl .sub (vi a) (vi b) = some (vi (a - b)) := by simp only [aj, kX, if_true, mW h0 h1]
theorem pY {k : IntKind} {a b : Int} : aj cl .lss (.int k a) (.int k b) = some (vb (decide (a < b))) ∧ aj cl .leq (.int k a) (.int k b) = some (vb (decide (a ≤ b))) ∧ aj cl .gtr (.int k a) (.int k b) = some (vb (decide (b < a))) ∧
 aj cl .geq (.int k a) (.int k b) = some (vb (decide (b ≤ a))) ∧ aj cl .eql (.int k a) (.int k b) = some (vb (a == b)) ∧ aj cl .neq (.int k a) (.int k b) = some (vb (a != b)) := by
 simp [aj, kX]
theorem pZ {k : IntKind} {a b : Int} : aj cl .lss (.int k a) (.int k b) = some (vb (decide (a < b))) := pY.1
theorem Nc {k : IntKind} {a b : Int} : aj cl .leq (.int k a) (.int k b) = some (vb (decide (a ≤ b))) := pY.2.1
theorem Ez {k : IntKind} {a b : Int} : aj cl .gtr (.int k a) (.int k b) = some (vb (decide (b < a))) := pY.2.2.1
theorem yU {k : IntKind} {a b : Int} : aj cl .geq (.int k a) (.int k b) = some (vb (decide (b ≤ a))) := pY.2.2.2.1
theorem dy {k : IntKind} {a b : Int} : aj cl .eql (.int k a) (.int k b) = some (vb (a == b)) := pY.2.2.2.2.1
theorem yV {k : IntKind} {a b : Int} : aj cl .neq (.int k a) (.int k b) = some (vb (a != b)) := pY.2.2.2.2.2
theorem wP {a : Bool} : pr .not (vb a) = some (vb (!a)) := rfl
theorem eZ {a b : Int} : eN [vi a, vi b] = some (vi (max a b)) := by
 simp only [eN]
 congr 2
 split <;> omega
theorem jy {a b : Int} : ii [vi a, vi b] = some (vi (min a b)) := by
 simp only [ii]
 congr 2
 split <;> omega
end
abbrev Hp := Nat → Option AObj
def SP : Type := Hp → Prop
theorem SP.ext {P Q : SP} (h : ∀ x, P x ↔ Q x) : P = Q := funext fun x => propext (h x)
def sep (P Q : SP) : SP := fun h => ∃ a b : Hp, (∀ i, a i = none ∨ b i = none) ∧ (h = fun i => (a i).or (b i)) ∧ P a ∧ Q b
instance : Mul SP := ⟨sep⟩
def emp : SP := fun h => h = fun _ => none
theorem XN {α : Type} {a b : Option α} (h : a = none ∨ b = none) : a.or b = b.or a := by
 rcases h with rfl | rfl <;> simp
theorem uR (P Q : SP) : P * Q = Q * P := by
 have one : ∀ (P Q : SP) h, sep P Q h → sep Q P h := by
  rintro P Q h ⟨a, b, hd, rfl, ha, hb⟩
  exact ⟨b, a, fun i => (hd i).symm, funext fun i => XN (hd i), hb, ha⟩
 exact SP.ext fun h => ⟨one P Q h, one Q P h⟩
theorem ak (P Q R : SP) : P * Q * R = P * (Q * R) := by
 apply SP.ext;intro h
 constructor
 ·rintro ⟨ab, c, hd, rfl, ⟨a, b, hd2, rfl, ha, hb⟩, hc⟩
  refine ⟨a, fun i => (b i).or (c i), fun i => ?_, funext fun i => ?_, ha, b, c, fun i => ?_, rfl, hb, hc⟩
  ·have h1 := hd i
   have h2 := hd2 i
   cases ha' : a i <;> cases hb' : b i <;> cases hc' : c i <;> simp_all
  ·exact Option.or_assoc
  ·have h1 := hd i
   have h2 := hd2 i
   cases ha' : a i <;> cases hb' : b i <;> cases hc' : c i <;> simp_all
 ·rintro ⟨a, bc, hd, rfl, ha, b, c, hd2, rfl, hb, hc⟩
  refine ⟨fun i => (a i).or (b i), c, fun i => ?_, funext fun i => ?_, ⟨a, b, fun i => ?_, rfl, ha, hb⟩, hc⟩
  ·have h1 := hd i
   have h2 := hd2 i
   cases ha' : a i <;> cases hb' : b i <;> cases hc' : c i <;> simp_all
  ·exact Option.or_assoc.symm
  ·have h1 := hd i
   have h2 := hd2 i
   cases ha' : a i <;> cases hb' : b i <;> cases hc' : c i <;> simp_all
theorem dB (P : SP) : P * emp = P := by
 apply SP.ext;intro h
 constructor
 ·rintro ⟨a, b, hd, rfl, ha, hb⟩
  have hb : b = fun _ => none := hb;subst hb
  simpa using ha
 ·intro h'
  exact ⟨h, fun _ => none, fun i => .inr rfl, by simp, h', rfl⟩
theorem fg (P : SP) : emp * P = P := by rw [uR, dB]
instance : Std.Associative (α := SP) (· * ·) := ⟨ak⟩
instance : Std.Commutative (α := SP) (· * ·) := ⟨uR⟩
theorem bo (P Q R : SP) : P * (Q * R) = Q * (P * R) := by rw [← ak, uR P Q, ak]
def blk (b : Nat) (o : AObj) : SP := fun h => h = fun i => if i = b then some o else none
def ex {α : Type} (P : α → SP) : SP := fun h => ∃ x, P x h
def pu (p : Prop) : SP := fun h => p ∧ h = fun _ => none
def ac (P : SP) (H : AH) : Prop := ∃ h : Hp, P h ∧ ∀ i o, h i = some o → H.get i = some o
theorem ac.left {P Q : SP} {H : AH} (h : ac (P * Q) H) : ac P H := by
 obtain ⟨x, ⟨a, b, hd, rfl, ha, hb⟩, hx⟩ := h;exact ⟨a, ha, fun i o hi => hx i o (by simp [hi])⟩
theorem ac.right {P Q : SP} {H : AH} (h : ac (P * Q) H) : ac Q H := by rw [uR] at h; exact h.left
theorem ac.get {b : Nat} {o : AObj} {H : AH} (h : ac (blk b o) H) : H.get b = some o := by
 obtain ⟨x, hx, hg⟩ := h;have hx : x = _ := hx;exact hg b o (by rw [hx]; simp)
theorem ac.ex {α : Type} {F : α → SP} {R : SP} {H : AH} : ac (ex F * R) H ↔ ∃ x, ac (F x * R) H := by
 constructor
 ·rintro ⟨h, ⟨a, b, hd, rfl, ⟨x, ha⟩, hb⟩, hx⟩
  exact ⟨x, _, ⟨a, b, hd, rfl, ha, hb⟩, hx⟩
 ·rintro ⟨x, h, ⟨a, b, hd, rfl, ha, hb⟩, hx⟩
  exact ⟨_, ⟨a, b, hd, rfl, ⟨x, ha⟩, hb⟩, hx⟩
theorem ac.pu {p : Prop} {R : SP} {H : AH} : ac (pu p * R) H ↔ p ∧ ac R H := by
 constructor
 ·rintro ⟨h, ⟨a, b, hd, rfl, ⟨hp, ha⟩, hb⟩, hx⟩
  subst ha;exact ⟨hp, b, hb, fun i o hi => hx i o (by simp [hi])⟩
 ·rintro ⟨hp, h, hr, hx⟩
  exact ⟨h, ⟨fun _ => none, h, fun i => .inl rfl, by simp, ⟨hp, rfl⟩, hr⟩, hx⟩
theorem ac.emp (H : AH) : ac emp H := ⟨fun _ => none, rfl, fun i o h => by cases h⟩
theorem ac.lt {b : Nat} {o : AObj} {R : SP} {H : AH} (h : ac (blk b o * R) H) : b < H.size := AH.lt_of_get h.left.get
theorem ac.set {b : Nat} {o : AObj} {R : SP} {H : AH} (o' : AObj) (h : ac (blk b o * R) H) : ac (blk b o' * R) (H.set b o') := by
 have hb := h.lt;obtain ⟨x, ⟨a, r, hd, rfl, ha, hr⟩, hx⟩ := h;have ha : a = _ := ha;subst ha;refine ⟨_, ⟨_, r, fun i => ?_, rfl, rfl, hr⟩, fun i o2 hi => ?_⟩
 ·have := hd i
  simp only at this ⊢
  by_cases hi : i = b
  ·rw [if_pos hi] at this ⊢
   rcases this with h | h
   ·cases h
   ·exact .inr h
  ·rw [if_neg hi]; exact .inl rfl
 ·by_cases hib : i = b
  ·subst hib
   simp only [if_true, Option.some_or, Option.some.injEq] at hi;subst hi;exact AH.get_set_eq hb
  ·simp only [if_neg hib, Option.none_or] at hi
   rw [AH.get_set_ne hib];exact hx i o2 (by simp only [if_neg hib, Option.none_or]; exact hi)
theorem ac.push {R : SP} {H : AH} (o : AObj) (h : ac R H) : ac (blk H.size o * R) (H.push o) := by
 obtain ⟨r, hr, hx⟩ := h;refine ⟨_, ⟨_, r, fun i => ?_, rfl, rfl, hr⟩, fun i o2 hi => ?_⟩
 ·by_cases hi : i = H.size
  ·subst hi
   right
   cases hr' : r H.size with
   | none => rfl
   | some o' => have := AH.lt_of_get (hx _ _ hr'); omega
  ·rw [if_neg hi]; exact .inl rfl
 ·by_cases hib : i = H.size
  ·subst hib
   simp only [if_true, Option.some_or, Option.some.injEq] at hi;subst hi;exact AH.get_push_new _ _
  ·simp only [if_neg hib, Option.none_or] at hi
   have := hx i o2 hi;rw [AH.get_push_old (AH.lt_of_get this)];exact this
theorem ac.dead {b : Nat} {o : AObj} {R : SP} {H : AH} (h : ac (blk b o * R) H) : ac R (H.set b .dead) := (h.set .dead).right
class Fr (P A : SP) (R : outParam SP) : Prop where
 eq : P = A * R
instance (priority := high) Fr.refl (A : SP) : Fr A A emp := ⟨(dB A).symm⟩
instance (priority := high) Fr.emp (P : SP) : Fr P emp P := ⟨(fg P).symm⟩
instance Fr.left (P Q A R : SP) [h : Fr P A R] : Fr (P * Q) A (R * Q) := ⟨by rw [h.eq, ak]⟩
instance Fr.right (P Q A R : SP) [h : Fr Q A R] : Fr (P * Q) A (P * R) := ⟨by rw [h.eq, bo]⟩
instance (priority := high) Fr.both (P A B R1 R2 : SP) [h1 : Fr P A R1] [h2 : Fr R1 B R2] : Fr P (A * B) R2 := ⟨by rw [h1.eq, h2.eq, ak]⟩
class Hs (P : SP) (b : Nat) (o : outParam AObj) : Prop where
 get : ∀ {H : AH}, ac P H → H.get b = some o
instance Hs.one (b : Nat) (o : AObj) : Hs (blk b o) b o := ⟨ac.get⟩
instance Hs.left (P Q : SP) (b : Nat) (o : AObj) [h : Hs P b o] : Hs (P * Q) b o := ⟨fun k => h.get k.left⟩
instance Hs.right (P Q : SP) (b : Nat) (o : AObj) [h : Hs Q b o] : Hs (P * Q) b o := ⟨fun k => h.get k.right⟩
class Up (P : SP) (b : Nat) (o' : AObj) (P' : outParam SP) : Prop where
 up : ∃ o R, P = blk b o * R ∧ P' = blk b o' * R
instance Up.one (b : Nat) (o o' : AObj) : Up (blk b o) b o' (blk b o') := ⟨o, emp, (dB _).symm, (dB _).symm⟩
instance Up.left (P Q : SP) (b : Nat) (o' : AObj) (P' : SP) [h : Up P b o' P'] : Up (P * Q) b o' (P' * Q) := ⟨by
 obtain ⟨o, R, e1, e2⟩ := h.up
 exact ⟨o, R * Q, by rw [e1, ak], by rw [e2, ak]⟩⟩
instance Up.right (P Q : SP) (b : Nat) (o' : AObj) (Q' : SP) [h : Up Q b o' Q'] : Up (P * Q) b o' (P * Q') := ⟨by
 obtain ⟨o, R, e1, e2⟩ := h.up
 exact ⟨o, P * R, by rw [e1, bo], by rw [e2, bo]⟩⟩
theorem Up.set {P P' : SP} {b : Nat} {o' : AObj} [h : Up P b o' P'] {H : AH} (k : ac P H) : ac P' (H.set b o') := by
 obtain ⟨o, R, rfl, rfl⟩ := h.up;exact k.set o'
theorem ac.fr {P A R : SP} {H : AH} (h : ac P H) [f : Fr P A R] : ac (A * R) H := by rw [← f.eq]; exact h
theorem ac.to {P A R : SP} {H : AH} (h : ac P H) [f : Fr P A R] : ac A H := h.fr.left
def wp (x : OV) (Q : Value → AH → Prop) : Prop := ∃ v H, x = some (v, H) ∧ Q v H
abbrev vp (b : Nat) : Value := .pointer (some ⟨b, 0, none⟩)
abbrev pR (b o : Nat) : Value := .pointer (some ⟨b, o, none⟩)
abbrev vs (b n e : Nat) : Value := .slice (some ⟨b, 0, none⟩) n e
theorem am {v : Value} {H : AH} {Q : Value → AH → Prop} (h : Q v H) : wp (some (v, H)) Q := ⟨v, H, rfl, h⟩
theorem wp.mono {x : OV} {Q Q' : Value → AH → Prop} (h : wp x Q) (k : ∀ v H, Q v H → Q' v H) : wp x Q' := let ⟨v, H, e, q⟩ := h; ⟨v, H, e, k v H q⟩
theorem aZ {x y : OV} {Q : Value → AH → Prop} (h : ∀ r, x = some r → y = some r) (k : wp x Q) : wp y Q := let ⟨v, H, e, q⟩ := k; ⟨v, H, h _ e, q⟩
theorem ag {x y : OV} {Q : Value → AH → Prop} (h : y = x) (k : wp x Q) : wp y Q := by rw [h]; exact k
theorem aa {x : Option Value} {v : Value} {k : Value → OV} {Q : Value → AH → Prop} (e : x = some v) (h : wp (k v) Q) : wp (x.bind k) Q := by rw [e]; exact h
theorem bD {b : Bool} {x y : OV} {Q : Value → AH → Prop} (ht : b = true → wp x Q) (hf : b = false → wp y Q) : wp (au (vb b) x y) Q := by
 cases b
 ·exact hf rfl
 ·exact ht rfl
theorem Ep {x y : Option Value} {k : OV} {Q : Value → AH → Prop} (e : x = y) (h : wp k Q) : wp (bE x y k) Q := by rw [adG e]; exact h
theorem T8 {x : Option Value} {k : OV} {Q : Value → AH → Prop} (h : wp k Q) : wp (bE x x k) Q := Ep rfl h
section
variable {P P' R : SP} {H : AH} {b o f n len e : Nat} {ro : Bool} {cs : List Value} {v x : Value} {Q : Value → AH → Prop}
theorem Ly (h : ac P H) [i : Hs P b (.cells ro cs)] (hv : cs[o]? = some v) : ap (pR b o) H = some v := by
 simp only [ap, sL, dv, be, i.get h];exact hv
theorem Lz (h : ac P H) [i : Hs P b (.cells ro cs)] (hn : o + n ≤ cs.length) : ax n (pR b o) H = some (.agg ((cs.drop o).take n).toArray) := by
 simp only [ax, sL, dv, be, i.get h];rw [if_pos hn]
theorem Yz (h : ac P H) [i : Hs P b (.cells false cs)] (hx : x.cells.size = n) (hn : o + n ≤ cs.length) (hc : x.cells.toList.all Value.oneCell' = true) :
 cZ n (pR b o) x H = some (H.set b (.cells false (splice cs o x.cells.toList))) := by
 simp only [cZ, sL, be, i.get h];rw [if_pos ⟨hx, hn, hc⟩]
theorem bk {k : Value → AH → OV} (h : ac P H) (hk : ∀ b H', ac (blk b (.cells false cs) * P) H' → wp (k (vp b) H') Q) : wp (aS cs H k) Q := hk _ _ (h.push _)
theorem u0 {k : Value → AH → OV} (h : ac P H) (hk : ∀ b H', ac (blk b (.map [] 0) * P) H' → wp (k (.map (some b)) H') Q) : wp (CG H k) Q := hk _ _ (h.push _)
theorem afX {k : Value → AH → OV} (h : ac P H) (hk : ∀ b H', ac (blk b (.cells false cs) * P) H' → wp (k (vs b len e) H') Q) : wp (afN len e cs H k) Q := hk _ _ (h.push _)
theorem Qf {zero : List Value} {xs : List (Nat × Value)} {k : Value → AH → OV} (h : ac P H) (hf : cz (aaZ e) (List.replicate len zero).flatten xs = some cs) (hk : ∀ b H', ac (blk b (.cells false cs) * P) H' → wp (k (vs b len e) H') Q) :
 wp (sK len e zero xs H k) Q := by
 unfold sK;rw [hf];exact afX h hk
theorem JA {ps : List (Nat × Nat)} {zero : List Value} {xs : List (Nat × Value)} {k : Value → OV} (hf : cz (fun i => ps[i]?) zero xs = some cs) (hk : wp (k (.agg cs.toArray)) Q) : wp (gR ps zero xs k) Q := by
 unfold gR;rw [hf];exact hk
theorem Qe {n : Nat} {a : Option Addr} {k : Value → OV} (hk : wp (k (vi n)) Q) : wp (dt (.slice a n e) k) Q := hk
theorem aeY {R : Type} {b o f : Nat} {p : List Stp} {k : Value → Option R} : ad (.f f :: p) (pR b o) k = ad p (pR b (o + f)) k := rfl
theorem UF {R : Type} {b o n e i : Nat} {c : Nat} {p : List Stp} {kk : IntKind} {k : Value → Option R} (h : i < n) : ad (.i e (.int kk (i : Int)) :: p) (.slice (some ⟨b, o, none⟩) n c) k = ad p (pR b (o + i * e)) k := by
 show (mN e (.slice (some ⟨b, o, none⟩) n c) (.int kk (i : Int))).bind _ = _;simp only [mN];rw [if_pos (by omega)];simp
theorem aeX {R : Type} {b o n e i : Nat} {p : List Stp} {kk : IntKind} {k : Value → Option R} (h : i < n) : ad (.a n e (.int kk (i : Int)) :: p) (pR b o) k = ad p (pR b (o + i * e)) k := by
 show (gA n e (pR b o) (.int kk (i : Int))).bind _ = _;simp only [gA];rw [if_pos (by omega)];simp
def JM (p : List Stp) (x : Value) (b o : Nat) : Prop := ∀ {R : Type} (k : Value → Option R), ad p x k = k (pR b o)
theorem cj : JM [] (pR b o) b o := fun _ => rfl
theorem ik {p : List Stp} {b' o' : Nat} (h : JM p (pR b o) b' o') : JM (.n :: p) (pR b o) b' o' := fun k => h k
theorem cm {p : List Stp} {b' o' : Nat} (h : JM p (pR b (o + f)) b' o') : JM (.f f :: p) (pR b o) b' o' := fun k => h k
theorem Nn {p : List Stp} {b' o' i c : Nat} {kk : IntKind} (hi : i < n) (h : JM p (pR b (o + i * e)) b' o') : JM (.i e (.int kk (i : Int)) :: p) (.slice (some ⟨b, o, none⟩) n c) b' o' := fun k => by rw [UF hi]; exact h k
theorem ae : JM [.n, .f f] (vp b) b f := fun k => by
 show k (pR b (0 + f)) = _;rw [Nat.zero_add]
theorem aB : JM [.f f] (vp b) b f := fun k => by
 show k (pR b (0 + f)) = _;rw [Nat.zero_add]
class Uy (l : List Value) (o : Nat) (v : Value) (l' : outParam (List Value)) : Prop where
 eq : o < l.length ∧ l' = l.set o v
instance Uy.zero (a : Value) (l : List Value) (v : Value) : Uy (a :: l) 0 v (v :: l) := ⟨by simp⟩
instance Uy.succ (a : Value) (l : List Value) (o : Nat) (v : Value) (l' : List Value) [h : Uy l o v l'] : Uy (a :: l) (o + 1) v (a :: l') := ⟨by
 obtain ⟨h1, rfl⟩ := h.eq
 exact ⟨by simp; exact h1, by simp⟩⟩
class u4 (l : List Value) (o : Nat) (xs : List Value) (l' : outParam (List Value)) : Prop where
 eq : o + xs.length ≤ l.length ∧ l' = splice l o xs
instance u4.here0 (l : List Value) : u4 l 0 [] l := ⟨by simp [splice]⟩
instance u4.here (a x : Value) (l xs l' : List Value) [h : u4 l 0 xs l'] : u4 (a :: l) 0 (x :: xs) (x :: l') := ⟨by
 obtain ⟨h1, rfl⟩ := h.eq
 refine ⟨by simp at h1 ⊢; exact h1, by simp [splice]⟩⟩
instance u4.on (a : Value) (l : List Value) (o : Nat) (x : Value) (xs l' : List Value) [h : u4 l o (x :: xs) l'] : u4 (a :: l) (o + 1) (x :: xs) (a :: l') := ⟨by
 obtain ⟨h1, rfl⟩ := h.eq;refine ⟨by simp at h1 ⊢; omega, ?_⟩;simp only [splice, List.take_succ_cons, List.cons_append, List.cons.injEq, true_and]
 congr 1
 rw [show o + 1 + (x :: xs).length = (o + (x :: xs).length) + 1 from by omega, List.drop_succ_cons]⟩
class Cs (l : List Value) (o n : Nat) (l' : outParam (List Value)) : Prop where
 eq : o + n ≤ l.length ∧ l' = (l.drop o).take n
instance Cs.nil (l : List Value) : Cs l 0 0 [] := ⟨by simp⟩
instance Cs.here (a : Value) (l : List Value) (n : Nat) (l' : List Value) [h : Cs l 0 n l'] : Cs (a :: l) 0 (n + 1) (a :: l') := ⟨by
 obtain ⟨h1, rfl⟩ := h.eq
 exact ⟨by simp at h1 ⊢; exact h1, by simp⟩⟩
instance Cs.on (a : Value) (l : List Value) (o n : Nat) (l' : List Value) [h : Cs l o (n + 1) l'] : Cs (a :: l) (o + 1) (n + 1) l' := ⟨by
 obtain ⟨h1, rfl⟩ := h.eq
 exact ⟨by simp at h1 ⊢; omega, by simp⟩⟩
class sM (v : Value) (l : outParam (List Value)) : Prop where
 eq : v.cells.toList = l
instance sM.int (k : IntKind) (n : Int) : sM (.int k n) [.int k n] := ⟨rfl⟩
instance sM.bool (b : Bool) : sM (.bool b) [.bool b] := ⟨rfl⟩
instance sM.slice (a : Option Addr) (n c : Nat) : sM (.slice a n c) [.slice a n c] := ⟨rfl⟩
instance sM.ptr (a : Option Addr) : sM (.pointer a) [.pointer a] := ⟨rfl⟩
instance sM.func (f : Fn) (a b : Array Value) : sM (.func f a b) [.func f a b] := ⟨rfl⟩
instance sM.nilFunc : sM .nilFunc [.nilFunc] := ⟨rfl⟩
instance sM.map (m : Option Nat) : sM (.map m) [.map m] := ⟨rfl⟩
instance sM.string (s : ByteArray) : sM (.string s) [.string s] := ⟨rfl⟩
instance sM.agg (l : List Value) : sM (.agg l.toArray) l := ⟨by simp [Value.cells]⟩
class Qn (ps : List (Nat × Nat)) (i : Nat) (o n : outParam Nat) : Prop where
 eq : ps[i]? = some (o, n)
instance Qn.zero (p : Nat × Nat) (ps : List (Nat × Nat)) : Qn (p :: ps) 0 p.1 p.2 := ⟨rfl⟩
instance Qn.succ (p : Nat × Nat) (ps : List (Nat × Nat)) (i o n : Nat) [h : Qn ps i o n] : Qn (p :: ps) (i + 1) o n := ⟨by simpa using h.eq⟩
class JN (l : List Value) (n : Nat) : Prop where
 eq : l.length = n
instance JN.nil : JN [] 0 := ⟨rfl⟩
instance JN.cons (a : Value) (l : List Value) (n : Nat) [h : JN l n] : JN (a :: l) (n + 1) := ⟨by simp [h.eq]⟩
class Qm (ps : List (Nat × Nat)) (zero : List Value) (xs : List (Nat × Value)) (cs : outParam (List Value)) : Prop where
 eq : cz (fun i => ps[i]?) zero xs = some cs
instance Qm.nil (ps : List (Nat × Nat)) (zero : List Value) : Qm ps zero [] zero := ⟨rfl⟩
instance Qm.cons (ps : List (Nat × Nat)) (zero z l cs : List Value) (i o n : Nat) (v : Value) (xs : List (Nat × Value)) [h1 : Qn ps i o n] [h2 : sM v l] [h3 : JN l n] [h4 : u4 zero o l z] [h5 : Qm ps z xs cs] : Qm ps zero ((i, v) :: xs) cs := ⟨by
 obtain ⟨h6, rfl⟩ := h4.eq;have h7 := h2.eq;have h8 := h3.eq;subst h7;simp only [cz, h1.eq, be];rw [if_pos ⟨by simpa using h8, by rw [← h8]; exact h6⟩]
 exact h5.eq⟩
class ac0 (e : Nat) (zero : List Value) (xs : List (Nat × Value)) (cs : outParam (List Value)) : Prop where
 eq : cz (aaZ e) (List.replicate 1 zero).flatten xs = some cs
instance ac0.one (e : Nat) (zero l z : List Value) (v : Value) [h2 : sM v l] [h3 : JN l e] [h4 : u4 zero 0 l z] : ac0 e zero [(0, v)] z := ⟨by
 obtain ⟨h6, rfl⟩ := h4.eq;have h7 := h2.eq;have h8 := h3.eq;subst h7
 have hz : (List.replicate 1 zero).flatten = zero := by simp
 rw [hz];simp only [cz, aaZ, be, Nat.zero_mul]
 rw [if_pos ⟨by simpa using h8, by rw [← h8]; exact h6⟩]⟩
theorem bn {p : List Stp} {k : Value → OV} (hp : JM p x b o) (hk : wp (k (pR b o)) Q) : wp (ad p x k) Q := by rw [hp k]; exact hk
theorem ar {p : List Stp} {k : Value → OV} (h : ac P H) (hp : JM p x b o) [i : Hs P b (.cells ro cs)] (hv : cs[o]? = some v) (hk : wp (k v) Q) : wp (ld p x H k) Q := by
 unfold ld;rw [hp, Ly h hv];exact hk
theorem Jz {l : List Value} {p : List Stp} {k : Value → OV} (h : ac P H) (hp : JM p x b o) [i : Hs P b (.cells ro cs)] [s : Cs cs o n l] (hk : wp (k (.agg l.toArray)) Q) : wp (ldN n p x H k) Q := by
 obtain ⟨hn, rfl⟩ := s.eq;unfold ldN;rw [hp, Lz h hn];exact hk
theorem bh {cs' l : List Value} {p : List Stp} {k : AH → OV} (h : ac P H) (hp : JM p x b o) [i : Hs P b (.cells false cs)] [c : sM v l] [s : u4 cs o l cs'] (hx : l.length = n) (hc : l.all Value.oneCell' = true)
 [u : Up P b (.cells false cs') P'] (hk : ∀ H', ac P' H' → wp (k H') Q) : wp (st n p x v H k) Q := by
 obtain ⟨hn, rfl⟩ := s.eq;have hl := c.eq;subst hl;unfold st;rw [hp, Yz h (by simpa using hx) (by simp at hx hn; omega) hc];exact hk _ (u.set h)
theorem aP {k : Value → OV} (h : ac P H) [i : Hs P b (.cells ro cs)] (hv : cs[o]? = some v) (hk : wp (k v) Q) : wp ((ap (pR b o) H).bind k) Q := aa (Ly h hv) hk
theorem aT {l : List Value} {k : Value → OV} (h : ac P H) [i : Hs P b (.cells ro cs)] [s : Cs cs o n l] (hk : wp (k (.agg l.toArray)) Q) : wp ((ax n (pR b o) H).bind k) Q := by
 obtain ⟨hn, rfl⟩ := s.eq;exact aa (Lz h hn) hk
theorem fW {cs' l : List Value} {k : AH → OV} (h : ac P H) [i : Hs P b (.cells false cs)] [c : sM v l] [s : u4 cs o l cs'] (hx : l.length = n) (hc : l.all Value.oneCell' = true)
 [u : Up P b (.cells false cs') P'] (hk : ∀ H', ac P' H' → wp (k H') Q) : wp ((cZ n (pR b o) v H).bind k) Q := by
 obtain ⟨hn, rfl⟩ := s.eq;have hl := c.eq;subst hl;rw [Yz h (by simpa using hx) (by simp at hx hn; omega) hc];exact hk _ (u.set h)
theorem aV {l : List Value} {k : Value → AH → OV} (h : ac P H) [c : sM x l] (hk : ∀ b H', ac (blk b (.cells false l) * P) H' → wp (k (vp b) H') Q) : wp (aS (Value.cells x).toList H k) Q := by
 rw [c.eq]; exact bk h hk
theorem j7 {ps : List (Nat × Nat)} {zero : List Value} {xs : List (Nat × Value)} {k : Value → OV} [f : Qm ps zero xs cs] (hk : wp (k (.agg cs.toArray)) Q) : wp (gR ps zero xs k) Q := JA f.eq hk
theorem Ht {zero : List Value} {xs : List (Nat × Value)} {k : Value → AH → OV} (h : ac P H) [f : ac0 e zero xs cs] (hk : ∀ b H', ac (blk b (.cells false cs) * P) H' → wp (k (vs b 1 e) H') Q) : wp (sK 1 e zero xs H k) Q := Qf h f.eq hk
theorem aG {P2 : SP} {H2 : AH} {ro2 : Bool} {cs2 : List Value} {k : OV} (h : ac P H) (h2 : ac P2 H2) [i : Hs P b (.cells ro cs)] [i2 : Hs P2 b (.cells ro2 cs2)] (e : cs[o]? = cs2[o]?) (hk : wp k Q) :
 wp (bE (ap (pR b o) H) (ap (pR b o) H2) k) Q := by
 refine Ep ?_ hk;simp only [ap, sL, dv, be, i.get h, i2.get h2];exact e
theorem dw {P2 : SP} {H2 : AH} {ro2 : Bool} {cs2 : List Value} {k : OV} (h : ac P H) (h2 : ac P2 H2) [i : Hs P b (.cells ro cs)] [i2 : Hs P2 b (.cells ro2 cs2)] (e : cs = cs2) (hk : wp k Q) :
 wp (bE (ax n (pR b o) H) (ax n (pR b o) H2) k) Q := by
 refine Ep ?_ hk;simp only [ax, sL, dv, be, i.get h, i2.get h2, e]
def Sp {α : Type} (f : Nat) (args : List Value) (P : SP) (v : α → Value) (Q : α → SP) : Prop := ∀ R H, ac (P * R) H → ∃ x H', FF f args H = some (v x, H') ∧ ac (Q x * R) H'
theorem aW {α : Type} {f : Nat} {args : List Value} {P : SP} {v : α → Value} {Q : α → SP} (h : ∀ R H, ac (P * R) H → wp (FF f args H) fun v' H' => ∃ x, v' = v x ∧ ac (Q x * R) H') : Sp f args P v Q := by
 intro R H hh;obtain ⟨v', H', e, x, rfl, hq⟩ := h R H hh;exact ⟨x, H', e, hq⟩
theorem aU {α : Type} {f : Nat} {args : List Value} {P : SP} {v : α → Value} {Q : α → SP} {g : AH → OV} (hf : ∀ (H : AH) {r : Value × AH}, g H = some r → FF f args H = some r) (k : ∀ (R : SP) (H : AH), ac (P * R) H → wp (g H) fun v' H' => ∃ x, v' = v x ∧ ac (Q x * R) H') : Sp f args P v Q := aW fun R H h => aZ (fun r => hf H) (k R H h)
theorem af {α : Type} {f : Nat} {args : List Value} {P0 : SP} {v : α → Value} {Q0 : α → SP} {k : Value × AH → OV} (h : ac P H) (s : Sp f args P0 v Q0) [fr : Fr P P0 R] (hk : ∀ x H', ac (Q0 x * R) H' → wp (k (v x, H')) Q) : wp ((FF f args H).bind k) Q := by
 obtain ⟨x, H', e, h'⟩ := s R H h.fr;rw [e];exact hk x H' h'
end
def sl (e : Nat) (v : Value) (n : Nat) (cs : List Value) : SP := ex fun ob : Option Nat => match ob with
 | none => pu (v = .slice none 0 0 ∧ n = 0 ∧ cs = [])
 | some b => pu (v = vs b n e ∧ cs.length = n * e) * blk b (.cells false cs)
theorem P3 {R : SP} {H : AH} (e : Nat) (h : ac R H) : ac (sl e (.slice none 0 0) 0 [] * R) H := ac.ex.2 ⟨none, ac.pu.2 ⟨⟨rfl, rfl, rfl⟩, h⟩⟩
theorem uU {R : SP} {H : AH} {e b n : Nat} {cs : List Value} (hl : cs.length = n * e) (h : ac (blk b (.cells false cs) * R) H) : ac (sl e (vs b n e) n cs * R) H :=
 ac.ex.2 ⟨some b, by rw [ak]; exact ac.pu.2 ⟨⟨rfl, hl⟩, h⟩⟩
theorem qF {R : SP} {H : AH} {e n : Nat} {v : Value} {cs : List Value} (h : ac (sl e v n cs * R) H) : (v = .slice none 0 0 ∧ n = 0 ∧ cs = [] ∧ ac R H) ∨ ∃ b, v = vs b n e ∧ cs.length = n * e ∧ ac (blk b (.cells false cs) * R) H := by
 obtain ⟨ob, h⟩ := ac.ex.1 h
 cases ob with
 | none =>
  obtain ⟨⟨h1, h2, h3⟩, h4⟩ := ac.pu.1 h;exact .inl ⟨h1, h2, h3, h4⟩
 | some b =>
  simp only [ak] at h;obtain ⟨⟨h1, h2⟩, h4⟩ := ac.pu.1 h;exact .inr ⟨b, h1, h2, h4⟩
class Sl (P : SP) (e : Nat) (v : Value) (n : outParam Nat) (cs : outParam (List Value)) (R : outParam SP) : Prop where
 eq : P = sl e v n cs * R
instance (priority := high) Sl.refl (e n : Nat) (v : Value) (cs : List Value) : Sl (sl e v n cs) e v n cs emp := ⟨(dB _).symm⟩
instance Sl.left (P Q R : SP) (e n : Nat) (v : Value) (cs : List Value) [h : Sl P e v n cs R] : Sl (P * Q) e v n cs (R * Q) := ⟨by rw [h.eq, ak]⟩
instance Sl.right (P Q R : SP) (e n : Nat) (v : Value) (cs : List Value) [h : Sl Q e v n cs R] : Sl (P * Q) e v n cs (P * R) := ⟨by rw [h.eq, bo]⟩
theorem Sl.fr {P R : SP} (e : Nat) {n : Nat} (v : Value) {cs : List Value} [h : Sl P e v n cs R] {H : AH} (k : ac P H) : ac (sl e v n cs * R) H := by rw [← h.eq]; exact k
section
variable {P P' R : SP} {H : AH} {b o n m e k : Nat} {ro : Bool} {cs xcs : List Value} {v s x : Value} {Q : Value → AH → Prop}
theorem acW {bytes : Nat} {kk : Value × AH → OV} (h : ac P H) [f : Sl P e s n cs R] [i : Hs R b (.cells ro xcs)] (hl : xcs.length = k * e) (he : 0 < e) (hk0 : 0 < k) (hc : xcs.all Value.oneCell' = true)
 (hr : (n + k) * bytes ≤ room ∧ n + k ≤ room) (hk : ∀ a c H', ac (sl e (.slice a (n + k) c) (n + k) (cs ++ xcs) * R) H' → wp (kk (.slice a (n + k) c, H')) Q) : wp ((cO e bytes s (vs b k e) H).bind kk) Q := by
 have hf := Sl.fr e s h;have hg := i.get hf.right
 have hrow : jI e (vs b k e) H = some (k, xcs) := by
  simp only [jI, dv, hg, be];rw [if_neg (by omega), if_pos (by omega)];simp [← hl]
 unfold cO;rw [hrow];simp only [be];rw [if_pos ⟨hc, he⟩]
 rcases qF hf with ⟨rfl, rfl, rfl, h'⟩ | ⟨b', rfl, hcl, h'⟩
 ·simp only [and_self, if_true]
  rw [if_neg (by omega), if_pos (by simpa using hr)];simp only [be, Nat.zero_add, List.nil_append] at hk ⊢;exact hk _ _ _ (uU hl (h'.push _))
 ·simp only
  have hgb := h'.left.get;rw [if_neg (by omega), if_neg (by omega), hgb];simp only;rw [if_pos ⟨trivial, by omega, hr.1, hr.2⟩];simp only [be, List.drop_zero];rw [← hcl, List.take_length];have h2 := h'.dead.push (.cells false (cs ++ xcs));rw [AH.size_set] at h2;exact hk _ _ _ (uU (by rw [mH, hcl, hl, Nat.add_mul]) h2)
end
abbrev bK := Int × Int × Int
def dr (l : bK) : Value := .agg #[vi l.1, vi l.2.1, vi l.2.2]
instance sM.loc (l : bK) : sM (dr l) [vi l.1, vi l.2.1, vi l.2.2] := ⟨rfl⟩
structure Ev where
 who : Int
 kind : Int
 loc : bK
deriving DecidableEq
def Ev.cells (e : Ev) : List Value := [vi e.who, vi e.kind, vi e.loc.1, vi e.loc.2.1, vi e.loc.2.2]
def m8 (E : List Ev) : List Value := E.flatMap Ev.cells
theorem EO (E : List Ev) (x : Ev) : m8 (E ++ [x]) = m8 E ++ x.cells := by simp [m8]
section
variable {α : Type} {enc : α → List Value} {e : Nat}
theorem je (he : ∀ x, (enc x).length = e) (l : List α) : (l.flatMap enc).length = l.length * e := by
 induction l with
 | nil => simp
 | cons x l ih => rw [List.flatMap_cons, mH, he, ih, List.length_cons, Nat.add_mul]; omega
theorem SF (he : ∀ x, (enc x).length = e) : ∀ (l : List α) (i : Nat), (l.flatMap enc).drop (i * e) = (l.drop i).flatMap enc := by
 intro l
 induction l with
 | nil => intro i; simp
 | cons x l ih =>
  intro i
  cases i with
  | zero => simp
  | succ i =>
   rw [List.flatMap_cons, List.drop_append, he, show (i + 1) * e - e = i * e from by rw [Nat.add_mul]; omega, ih, List.drop_eq_nil_of_le (by rw [he, Nat.add_mul]; omega)]
   rfl
theorem nl (l : List α) (i : Nat) (hi : i < l.length) : l.flatMap enc = (l.take i).flatMap enc ++ (enc l[i] ++ (l.drop (i + 1)).flatMap enc) := by
 rw [← List.flatMap_cons, ← List.flatMap_append, List.getElem_cons_drop, List.take_append_drop]
theorem Is (l : List α) (i : Nat) (hi : i < l.length) (y : α) : (l.set i y).flatMap enc = (l.take i).flatMap enc ++ (enc y ++ (l.drop (i + 1)).flatMap enc) := by
 rw [← List.flatMap_cons, ← List.flatMap_append, List.set_eq_take_append_cons_drop, if_pos hi]
theorem pN (he : ∀ x, (enc x).length = e) (l : List α) (i : Nat) (hi : i < l.length) : ((l.take i).flatMap enc).length = i * e := by
 rw [je he, List.length_take, Nat.min_eq_left (by omega)]
theorem F9 (he : ∀ x, (enc x).length = e) (l : List α) (i : Nat) (hi : i < l.length) : ((l.flatMap enc).drop (i * e)).take e = enc l[i] := by
 rw [nl l i hi, List.drop_append, pN he l i hi, Nat.sub_self, List.drop_zero, List.drop_eq_nil_of_le (by rw [pN he l i hi]; omega), List.nil_append, List.take_append, he, Nat.sub_self, List.take_zero, List.append_nil,
  List.take_of_length_le (by rw [he]; omega)]
theorem AL (he : ∀ x, (enc x).length = e) (l : List α) (i : Nat) (hi : i < l.length) (f : Nat) (hf : f < e) : (l.flatMap enc)[i * e + f]? = (enc l[i])[f]? := by
 rw [nl l i hi, List.getElem?_append_right (by rw [pN he l i hi]; omega), pN he l i hi, List.getElem?_append_left (by rw [he]; omega)]
 congr 1
 omega
theorem ME (A X B xs : List Value) (f : Nat) (h : f + xs.length ≤ X.length) : splice (A ++ (X ++ B)) (A.length + f) xs = A ++ (splice X f xs ++ B) := by
 unfold splice;rw [List.take_append, List.take_append, List.drop_append, List.drop_append, List.take_of_length_le (by omega), List.drop_eq_nil_of_le (by omega)]
 have e1 : A.length + f - A.length = f := by omega
 have e2 : A.length + f + xs.length - A.length = f + xs.length := by omega
 have e3 : f + xs.length - X.length = 0 := by omega
 have e4 : f - X.length = 0 := by omega
 rw [e1, e2, e3, e4];simp
theorem It (he : ∀ x, (enc x).length = e) (l : List α) (i : Nat) (hi : i < l.length) (f : Nat) (xs : List Value) (hf : f + xs.length ≤ e) (y : α) (hy : splice (enc l[i]) f xs = enc y) :
 splice (l.flatMap enc) (i * e + f) xs = (l.set i y).flatMap enc := by
 rw [nl l i hi, Is l i hi, ← pN he l i hi, ME _ _ _ _ _ (by rw [he]; exact hf), hy]
end
def ts {α : Type} (e : Nat) (enc : α → List Value) (v : Value) (l : List α) : SP := sl e v l.length (l.flatMap enc)
class Enc {α : Type} (enc : α → List Value) (e : outParam Nat) : Prop where
 len : ∀ x, (enc x).length = e
 one : ∀ x, (enc x).all Value.oneCell' = true
 pos : 0 < e
class Ts (P : SP) (s : Value) (α : outParam Type) (e : outParam Nat) (enc : outParam (α → List Value)) (l : outParam (List α)) (R : outParam SP) : Prop where
 eq : P = ts e enc s l * R
instance (priority := high) Ts.refl {α : Type} (e : Nat) (enc : α → List Value) (s : Value) (l : List α) : Ts (ts e enc s l) s α e enc l emp := ⟨(dB _).symm⟩
instance Ts.left {α : Type} (P Q R : SP) (e : Nat) (enc : α → List Value) (s : Value) (l : List α) [h : Ts P s α e enc l R] : Ts (P * Q) s α e enc l (R * Q) := ⟨by rw [h.eq, ak]⟩
instance Ts.right {α : Type} (P Q R : SP) (e : Nat) (enc : α → List Value) (s : Value) (l : List α) [h : Ts Q s α e enc l R] : Ts (P * Q) s α e enc l (P * R) := ⟨by rw [h.eq, bo]⟩
class Tu (P : SP) (s : Value) {α : Type} (l' : List α) (P' : outParam SP) : Prop where
 up : ∃ e enc, ∃ (l : List α), ∃ R, P = ts e enc s l * R ∧ P' = ts e enc s l' * R
theorem cK {α : Type} {R : SP} {H : AH} (e : Nat) (enc : α → List Value) (h : ac R H) : ac (ts e enc (.slice none 0 0) [] * R) H := P3 e h
section
variable {α : Type} {P P' R : SP} {H : AH} {b o e : Nat} {ro : Bool} {enc : α → List Value} {l : List α} {xcs : List Value} {s : Value} {Q : Value → AH → Prop}
theorem jO (h : ac P H) [f : Ts P s α e enc l R] : (s = .slice none 0 0 ∧ l = [] ∧ ac R H) ∨ ∃ b, s = vs b l.length e ∧ ac (blk b (.cells false (l.flatMap enc)) * R) H := by
 have h' : ac (ts e enc s l * R) H := by rw [← f.eq]; exact h
 rcases qF h' with ⟨h1, h2, _, h4⟩ | ⟨b, h1, _, h3⟩
 ·exact .inl ⟨h1, List.eq_nil_of_length_eq_zero h2, h4⟩
 ·exact .inr ⟨b, h1, h3⟩
theorem zq {b : Nat} [E : Enc enc e] (h : ac (blk b (.cells false (l.flatMap enc)) * R) H) : ac (ts e enc (vs b l.length e) l * R) H := uU (je E.len l) h
theorem sH {k : Value → OV} (h : ac P H) [f : Ts P s α e enc l R] (hk : wp (k (vi l.length)) Q) : wp (dt s k) Q := by
 rcases jO (f := f) h with ⟨rfl, rfl, _⟩ | ⟨b, rfl, _⟩
 ·exact hk
 ·exact hk
theorem eA {bytes : Nat} {kk : Value × AH → OV} (x : α) (h : ac P H) [f : Ts P s α e enc l R] [i : Hs R b (.cells ro xcs)] [E : Enc enc e] (hx : xcs = enc x)
 (hr : (l.length + 1) * bytes ≤ room) (hb : 0 < bytes) (hk : ∀ a c H', ac (ts e enc (.slice a (l.length + 1) c) (l ++ [x]) * R) H' → wp (kk (.slice a (l.length + 1) c, H')) Q) : wp ((cO e bytes s (vs b 1 e) H).bind kk) Q := by
 have h' : ac (sl e s l.length (l.flatMap enc) * R) H := by
  have : P = ts e enc s l * R := f.eq;rw [this] at h;exact h
 subst hx;refine acW (k := 1) (ro := ro) (xcs := enc x) h' (by rw [E.len]; omega) E.pos (by omega) (E.one x) ⟨hr, ?_⟩ fun a c H' h2 => hk a c H' ?_
 ·have : l.length + 1 ≤ (l.length + 1) * bytes := Nat.le_mul_of_pos_right _ hb
  omega
 ·have e1 : (l ++ [x]).length = l.length + 1 := by simp
  have e2 : (l ++ [x]).flatMap enc = l.flatMap enc ++ enc x := by simp
  unfold ts;rw [e1, e2];rw [fg] at h2;exact h2
theorem aeJ {k : Value → OV} {i : Nat} {kk : IntKind} (h : ac P H) [f : Ts P s α e enc l R] [E : Enc enc e] (hi : i < l.length) (hk : wp (k (.agg (enc l[i]).toArray)) Q) : wp (ldN e [.i e (.int kk (i : Int))] s H k) Q := by
 rcases jO (f := f) h with ⟨_, rfl, _⟩ | ⟨b, rfl, h'⟩
 ·simp at hi
 ·unfold ldN
  rw [Nn hi cj];have hlen := je E.len l;have hm : (i + 1) * e ≤ l.length * e := Nat.mul_le_mul_right _ (by omega);rw [Nat.add_mul] at hm;have := Lz (b := b) (cs := l.flatMap enc) (ro := false) (n := e) (o := 0 + i * e) h' (by omega);rw [this, be, Nat.zero_add, F9 E.len l i hi];exact hk
theorem Y0 {k : Value → OV} {i : Nat} {kk : IntKind} {v : Value} (h : ac P H) [f : Ts P s α 1 enc l R] [E : Enc enc 1] (hi : i < l.length) (hv : enc l[i] = [v]) (hk : wp (k v) Q) : wp (ld [.i 1 (.int kk (i : Int))] s H k) Q := by
 rcases jO (f := f) h with ⟨_, rfl, _⟩ | ⟨b, rfl, h'⟩
 ·simp at hi
 ·unfold ld
  rw [Nn hi cj]
  have := Ly (b := b) (o := 0 + i * 1) (v := v) h' (by
   have := AL E.len l i hi 0 (by omega);rw [Nat.add_zero] at this
   rw [Nat.zero_add, this, hv]; rfl)
  rw [this];exact hk
theorem Er {n : Nat} {p : List Stp} {k : AH → OV} {i g : Nat} {kk : IntKind} {v : Value} {xs : List Value} (y : α) (h : ac P H) [f : Ts P s α e enc l R] [E : Enc enc e] (hi : i < l.length) (hp : p = [.i e (.int kk (i : Int))] ∧ g = 0 ∨ p = [.i e (.int kk (i : Int)), .f g])
 [c : sM v xs] (hn : xs.length = n) (hg : g + n ≤ e) (hx : xs.all Value.oneCell' = true) (hy : splice (enc l[i]) g xs = enc y) (hk : ∀ H', ac (ts e enc s (l.set i y) * R) H' → wp (k H') Q) : wp (st n p s v H k) Q := by
 rcases jO (f := f) h with ⟨_, rfl, _⟩ | ⟨b, rfl, h'⟩
 ·simp at hi
 ·have hend : JM p (vs b l.length e) b (i * e + g) := by
   rcases hp with ⟨rfl, rfl⟩ | rfl
   ·intro R' k'
    rw [Nn hi cj];simp
   ·intro R' k'
    rw [Nn hi (cm cj)];simp
  unfold st;have hc := c.eq;subst hc;rw [hend];have hlen := je E.len l;have hm : (i + 1) * e ≤ l.length * e := Nat.mul_le_mul_right _ (by omega);rw [Nat.add_mul] at hm;rw [Yz h' (by simpa using hn) (by omega) hx, be, It E.len l i hi g _ (by rw [hn]; exact hg) y hy];refine hk _ ?_;have h2 := h'.set (.cells false ((l.set i y).flatMap enc));have h3 := zq (e := e) (enc := enc) (l := l.set i y) h2;rw [Gj] at h3;exact h3
end
instance : Enc Ev.cells 5 := ⟨fun _ => rfl, fun _ => rfl, by omega⟩
def bH (n : Int) : List Value := [vi n]
instance : Enc bH 1 := ⟨fun _ => rfl, fun _ => rfl, by omega⟩
def aeS (H : AH) (s : Value) (e n : Nat) (cs : List Value) : Prop :=
 cs.length = n * e ∧ ((∃ a c, s = .slice a 0 c ∧ n = 0 ∧ (a = none → c = 0) ∧ (∀ x, a = some x → ∃ b o, x = ⟨b, o, none⟩)) ∨ ∃ b o ro row, s = .slice (some ⟨b, o, none⟩) n e ∧ H.get b = some (.cells ro row) ∧ o + n * e ≤ row.length ∧ (row.drop o).take (n * e) = cs)
class Rd {α : outParam Type} (P : SP) (s : Value) (e : outParam Nat) (enc : outParam (α → List Value)) (l : outParam (List α)) : Prop where
 rd : ∀ {H : AH}, ac P H → aeS H s e l.length (l.flatMap enc)
instance Rd.left {α : Type} (P Q : SP) (s : Value) (e : Nat) (enc : α → List Value) (l : List α) [r : Rd P s e enc l] : Rd (P * Q) s e enc l := ⟨fun h => r.rd h.left⟩
instance Rd.right {α : Type} (P Q : SP) (s : Value) (e : Nat) (enc : α → List Value) (l : List α) [r : Rd Q s e enc l] : Rd (P * Q) s e enc l := ⟨fun h => r.rd h.right⟩
instance Rd.own {α : Type} (s : Value) (e : Nat) (enc : α → List Value) (l : List α) : Rd (ts e enc s l) s e enc l := ⟨by
 intro H h
 have h' : ac (ts e enc s l * emp) H := by rw [dB]; exact h
 rcases qF h' with ⟨rfl, h2, h3, _⟩ | ⟨b, rfl, hc, h4⟩
 ·exact ⟨by rw [h3, h2]; simp, .inl ⟨none, 0, rfl, h2, fun _ => rfl, fun x hx => by cases hx⟩⟩
 ·exact ⟨hc, .inr ⟨b, 0, false, _, rfl, h4.left.get, by omega, by rw [List.drop_zero, ← hc, List.take_length]⟩⟩⟩
section
variable {α : Type} {P R : SP} {H : AH} {e n : Nat} {enc : α → List Value} {l m : List α} {s : Value} {Q : Value → AH → Prop}
theorem cw {k : Value → OV} (h : ac P H) [r : Rd P s e enc l] (hk : wp (k (vi l.length)) Q) : wp (dt s k) Q := by
 obtain ⟨_, ⟨a, c, rfl, hn, _⟩ | ⟨b, o, ro, row, rfl, _⟩⟩ := r.rd h
 ·rw [hn] at hk; exact hk
 ·exact hk
theorem ad4 {R' : Type} {k : Value → Option R'} (h : ac P H) [r : Rd P s e enc l] : dt s k = k (vi l.length) := by
 obtain ⟨_, ⟨a, c, rfl, hn, _⟩ | ⟨b, o, ro, row, rfl, _⟩⟩ := r.rd h
 ·rw [hn]; rfl
 ·rfl
theorem fC {k : Value → OV} (h : ac P H) [r : Rd P s e enc l] (hk : wp (k (vi l.length)) Q) : wp ((dt s some).bind k) Q := by
 rw [ad4 h]; exact hk
theorem Mn (h : ac P H) [r : Rd P s e enc l] [E : Enc enc e] {i : Nat} (hi : i < l.length) : ∃ b o ro row, s = .slice (some ⟨b, o, none⟩) l.length e ∧ H.get b = some (.cells ro row) ∧ o + l.length * e ≤ row.length ∧ (row.drop o).take (l.length * e) = l.flatMap enc := by
 obtain ⟨_, ⟨a, c, rfl, hn, _⟩ | ⟨b, o, ro, row, h1, h2⟩⟩ := r.rd h
 ·omega
 ·exact ⟨b, o, ro, row, h1, h2⟩
theorem aa7 [E : Enc enc e] {row : List Value} {o i g : Nat} (h : (row.drop o).take (l.length * e) = l.flatMap enc) (hi : i < l.length) (hg : g < e) : row[o + i * e + g]? = (enc l[i])[g]? := by
 rw [← AL E.len l i hi g hg, ← h];have hm : (i + 1) * e ≤ l.length * e := Nat.mul_le_mul_right _ (by omega);rw [Nat.add_mul] at hm;rw [List.getElem?_take, if_pos (by omega), List.getElem?_drop]
 congr 1; omega
theorem Yh {i g : Nat} {kk : IntKind} {v : Value} (h : ac P H) [r : Rd P s e enc l] [E : Enc enc e] (hi : i < l.length) (hg : g < e) (hv : (enc l[i])[g]? = some v) {R' : Type} {p : List Stp} (hp : p = [.i e (.int kk (i : Int)), .f g] ∨ p = [.i e (.int kk (i : Int))] ∧ g = 0) {k : Value → Option R'} :
 ld p s H k = k v := by
 obtain ⟨b, o, ro, row, rfl, h2, h3, h4⟩ := Mn (s := s) (enc := enc) (l := l) h hi
 have hend : ad p (.slice (some ⟨b, o, none⟩) l.length e) = fun k' : Value → Option R' => k' (pR b (o + i * e + g)) := by
  rcases hp with rfl | ⟨rfl, rfl⟩
  ·funext k'; rw [UF hi, aeY]; rfl
  ·funext k'; rw [UF hi]; rfl
 unfold ld;rw [hend];show (ap (pR b (o + i * e + g)) H).bind k = k v
 have : ap (pR b (o + i * e + g)) H = some v := by
  simp only [ap, sL, dv, be, h2];rw [aa7 h4 hi hg, hv]
 rw [this]; rfl
theorem fN {k : Value → OV} {i g : Nat} {kk : IntKind} {v : Value} (h : ac P H) [r : Rd P s e enc l] [E : Enc enc e] (hi : i < l.length) (hg : g < e) (hv : (enc l[i])[g]? = some v) (hk : wp (k v) Q) : wp (ld [.i e (.int kk (i : Int)), .f g] s H k) Q := by
 rw [Yh h hi hg hv (.inl rfl)]; exact hk
theorem da {k : Value → OV} {i : Nat} {kk : IntKind} {v : Value} {enc : α → List Value} (h : ac P H) [r : Rd P s 1 enc l] [E : Enc enc 1] (hi : i < l.length) (hv : enc l[i] = [v]) (hk : wp (k v) Q) : wp (ld [.i 1 (.int kk (i : Int))] s H k) Q := by
 rw [Yh (g := 0) (v := v) h hi (by omega) (by rw [hv]; rfl) (.inr ⟨rfl, rfl⟩)]; exact hk
theorem Ce {k : Value → OV} {i : Nat} {kk : IntKind} (h : ac P H) [r : Rd P s e enc l] [E : Enc enc e] (hi : i < l.length) (hk : wp (k (.agg (enc l[i]).toArray)) Q) : wp (ldN e [.i e (.int kk (i : Int))] s H k) Q := by
 obtain ⟨b, o, ro, row, rfl, h2, h3, h4⟩ := Mn (s := s) (enc := enc) (l := l) h hi;unfold ldN;rw [UF hi];have hm : (i + 1) * e ≤ l.length * e := Nat.mul_le_mul_right _ (by omega);rw [Nat.add_mul] at hm
 have : ax e (pR b (o + i * e)) H = some (.agg (enc l[i]).toArray) := by
  simp only [ax, sL, dv, be, h2];rw [if_pos (by omega)]
  congr 3
  rw [← F9 E.len l i hi, ← h4, List.drop_take, List.drop_drop, List.take_take, Nat.min_eq_left (by omega)]
 show wp ((ax e (pR b (o + i * e)) H).bind k) Q;rw [this]; exact hk
theorem Yi {lo hi : Option Value} {a b : Nat} (h : ac P H) [r : Rd P s e enc l] [E : Enc enc e] (hlo : (lo = none ∧ a = 0) ∨ ∃ k, lo = some (.int k (a : Int))) (hhi : (hi = none ∧ b = l.length) ∨ ∃ k, hi = some (.int k (b : Int))) (h1 : a ≤ b) (h2 : b ≤ l.length) (h0 : 0 < l.length) :
 ∃ s', dM e s lo hi = some s' ∧ Rd P s' e enc ((l.take b).drop a) := by
 have hlen : ((l.take b).drop a).length = b - a := by rw [List.length_drop, List.length_take, Nat.min_eq_left h2]
 have hfl : (((l.take b).drop a).flatMap enc).length = (b - a) * e := by rw [je E.len, hlen]
 have hsub : ((l.take b).drop a).flatMap enc = ((l.flatMap enc).drop (a * e)).take ((b - a) * e) := by
  have e2 : (l.drop a).take (b - a) = (l.take b).drop a := by rw [List.drop_take]
  rw [SF E.len, ← e2]
  have gen : ∀ (m : List α) (k : Nat), k ≤ m.length → (m.take k).flatMap enc = (m.flatMap enc).take (k * e) := by
   intro m
   induction m with
   | nil => intro k hk; simp
   | cons x m ih =>
    intro k hk
    cases k with
    | zero => simp
    | succ k =>
     rw [List.take_succ_cons, List.flatMap_cons, List.flatMap_cons, ih k (by simpa using hk), List.take_append, E.len, List.take_of_length_le (l := enc x) (by rw [E.len, Nat.add_mul]; omega)]
     congr 2
     rw [Nat.add_mul, Nat.one_mul, Nat.add_sub_cancel]
  exact gen _ _ (by rw [List.length_drop]; omega)
 obtain ⟨h0, ⟨a0, c, rfl, hn, hc0, ha0⟩ | ⟨b0, o, ro, row, rfl, _⟩⟩ := r.rd h
 ·omega
 ·refine ⟨.slice (some ⟨b0, o + a * e, none⟩) (b - a) e, ?_, ⟨fun {H'} h' => ?_⟩⟩
  ·have hpos := E.pos
   have hab : (0 : Int) ≤ a ∧ (a : Int) ≤ b ∧ (b : Int) ≤ l.length := by omega
   rcases hlo with ⟨rfl, rfl⟩ | ⟨k1, rfl⟩ <;> rcases hhi with ⟨rfl, rfl⟩ | ⟨k2, rfl⟩ <;> simp only [dM, lx, be]
   ·rw [if_pos (by omega)]; simp [hpos]
   ·rw [if_pos (by omega)]; simp [hpos]
   ·rw [if_pos (by omega)]; simp [hpos]
   ·rw [if_pos (by omega)]; simp [hpos]
  ·obtain ⟨h0', hr⟩ := r.rd h'
   refine ⟨by rw [hfl, hlen], .inr ?_⟩
   rcases hr with ⟨a1, c1, e1, hn, _, _⟩ | ⟨b1, o1, ro1, row1, e1, g1, g2, g3⟩
   ·omega
   ·obtain ⟨rfl, rfl⟩ : b1 = b0 ∧ o1 = o := by
     have := e1; simp at this; exact ⟨this.1.symm, this.2.symm⟩
    have hm : b * e ≤ l.length * e := Nat.mul_le_mul_right _ h2;have hm2 : a * e ≤ b * e := Nat.mul_le_mul_right _ h1;have hm3 : (b - a) * e = b * e - a * e := Nat.sub_mul ..;rw [hlen];refine ⟨b1, o1 + a * e, ro1, row1, rfl, g1, by omega, ?_⟩;rw [hsub, ← g3, List.drop_take, List.drop_drop, List.take_take, Nat.min_eq_left (by omega)]
end
def fix (H0 : AH) : SP := fun h => h = fun i => H0.get i
theorem SE (H0 : AH) : ac (fix H0) H0 := ⟨_, rfl, fun i o h => h⟩
class Fx (P : SP) (H0 : AH) : Prop where
 fx : ∀ {H : AH}, ac P H → ∀ b o, H0.get b = some o → H.get b = some o
instance Fx.refl (H0 : AH) : Fx (fix H0) H0 := ⟨by
 rintro H ⟨x, hx, hg⟩ b o hb
 have hx : x = _ := hx
 exact hg b o (by rw [hx]; exact hb)⟩
instance Fx.left (P Q : SP) (H0 : AH) [f : Fx P H0] : Fx (P * Q) H0 := ⟨fun h => f.fx h.left⟩
instance Fx.right (P Q : SP) (H0 : AH) [f : Fx Q H0] : Fx (P * Q) H0 := ⟨fun h => f.fx h.right⟩
theorem jn.flat {α : Type} {R : α → List Value → Prop} {enc : α → List Value} (hf : ∀ x c, R x c → c = enc x) {l : List α} {row : List Value} (h : jn R l row) : row = l.flatMap enc := by
 induction h with
 | nil => rfl
 | cons h1 _ ih => rw [hf _ _ h1, ih]; rfl
theorem Rd.arg {H0 : AH} {t : Ty} {enc : t.I → List Value} {l : List t.I} {v : Value} [E : Enc enc t.w] (hf : ∀ x c, Abs H0 t x c → c = enc x) (h : Abs H0 (.slice t) l [v]) : Rd (fix H0) v t.w enc l := ⟨fun {H} hH => by
 refine ⟨je E.len l, ?_⟩
 rcases h with ⟨rfl, e⟩ | ⟨rfl, b, e⟩ | ⟨b, row, h1, e, h3, _⟩
 ·obtain rfl : v = .slice none 0 0 := by simpa using e
  exact .inl ⟨none, 0, rfl, rfl, fun _ => rfl, fun x hx => by cases hx⟩
 ·obtain rfl : v = .slice (some ⟨b, 0, none⟩) 0 0 := by simpa using e
  exact .inl ⟨_, 0, rfl, rfl, (fun h => by cases h), fun x hx => ⟨b, 0, (eu hx).symm⟩⟩
 ·obtain rfl : v = .slice (some ⟨b, 0, none⟩) l.length t.w := by simpa using e
  have hrow := h3.flat hf;refine .inr ⟨b, 0, true, row, rfl, (Fx.refl H0).fx hH b _ h1, ?_, ?_⟩
  ·rw [hrow, je E.len]; omega
  ·rw [List.drop_zero, hrow, ← je E.len l, List.take_length]⟩
section
variable {α : Type} {P R : SP} {H : AH} {e : Nat} {enc : α → List Value} {l m : List α} {s x : Value} {Q : Value → AH → Prop}
theorem Cd {bytes : Nat} {kk : Value × AH → OV} (h : ac P H) [f : Ts P s α e enc l R] [rd : Rd R x e enc m] [E : Enc enc e] (hr : (l.length + m.length) * bytes ≤ room) (hb : 0 < bytes)
 (hk : ∀ v H', ac (ts e enc v (l ++ m) * R) H' → wp (kk (v, H')) Q) : wp ((cO e bytes s x H).bind kk) Q := by
 have h' : ac (ts e enc s l * R) H := by rw [← f.eq]; exact h
 obtain ⟨hc, ⟨a, c, rfl, hn, _, hax⟩ | ⟨b, o, ro, row, rfl, hg, hle, hrow⟩⟩ := rd.rd h'.right
 ·have hm : m = [] := List.eq_nil_of_length_eq_zero hn
  subst hm
  have hpr : jI e (.slice a 0 c) H = some (0, []) := by
   cases a with
   | none => simp [jI]
   | some y => obtain ⟨b, o, rfl⟩ := hax y rfl; simp [jI]
  unfold cO;rw [hpr];simp only [be];rw [if_pos ⟨rfl, E.pos⟩]
  rcases qF h' with ⟨rfl, h2, h3, h4⟩ | ⟨b', rfl, h2, h4⟩
  ·simp only [and_self, if_true, be]
   refine hk _ _ ?_;rw [List.append_nil]; exact h'
  ·simp only [if_true, be]
   refine hk _ _ ?_;rw [List.append_nil]; exact h'
 ·by_cases hm0 : m.length = 0
  ·have hm : m = [] := List.eq_nil_of_length_eq_zero hm0
   subst hm;unfold cO
   have hpr : jI e (.slice (some ⟨b, o, none⟩) ([] : List α).length e) H = some (0, []) := by simp [jI]
   rw [hpr];simp only [be];rw [if_pos ⟨rfl, E.pos⟩]
   rcases qF h' with ⟨rfl, h2, h3, h4⟩ | ⟨b', rfl, h2, h4⟩
   ·simp only [and_self, if_true, be]
    refine hk _ _ ?_;rw [List.append_nil]; exact h'
   ·simp only [if_true, be]
    refine hk _ _ ?_;rw [List.append_nil]; exact h'
  ·have hpr : jI e (.slice (some ⟨b, o, none⟩) m.length e) H = some (m.length, m.flatMap enc) := by
    simp only [jI, dv, hg, be];rw [if_neg hm0, if_pos hle, hrow]
   have hall : (m.flatMap enc).all Value.oneCell' = true := by
    rw [List.all_eq_true];intro y hy;obtain ⟨z, _, hz⟩ := List.mem_flatMap.1 hy;exact List.all_eq_true.1 (E.one z) y hz
   have hroom : l.length + m.length ≤ (l.length + m.length) * bytes := Nat.le_mul_of_pos_right _ hb;unfold cO;rw [hpr];simp only [be];rw [if_pos ⟨hall, E.pos⟩]
   have e1 : (l ++ m).length = l.length + m.length := by simp
   have e2 : (l ++ m).flatMap enc = l.flatMap enc ++ m.flatMap enc := by simp
   have hmul : (l.length + m.length) * e = l.length * e + m.length * e := Nat.add_mul ..
   rcases qF h' with ⟨rfl, h2, h3, h4⟩ | ⟨b', rfl, h2, h4⟩
   ·simp only [and_self, if_true]
    rw [h2, Nat.zero_add] at hr hroom;rw [if_neg hm0, if_pos ⟨hr, by omega⟩];simp only [be];refine hk _ _ ?_;unfold ts;rw [e1, e2, h3, h2, List.nil_append, Nat.zero_add];exact uU hc (h4.push _)
   ·have hgb := h4.left.get
    have hpos := E.pos;simp only;rw [if_neg hm0, if_neg (by omega), hgb];simp only;rw [if_pos ⟨trivial, by omega, hr, by omega⟩];simp only [be, List.drop_zero];rw [← h2, List.take_length];have h5 := h4.dead.push (.cells false (l.flatMap enc ++ m.flatMap enc));rw [AH.size_set] at h5;refine hk _ _ ?_;unfold ts;rw [e1, e2];exact uU (by rw [mH, h2, hc]; omega) h5
theorem BO {z : α} {zero : List Value} (hz : enc z = zero) : ∀ n : Nat, (List.replicate n zero).flatten = (List.replicate n z).flatMap enc := by
 intro n
 induction n with
 | zero => rfl
 | succ n ih => rw [List.replicate_succ, List.replicate_succ, List.flatten_cons, List.flatMap_cons, ih, hz]
theorem Hj {zero : List Value} {bytes n : Nat} {kk : Value × AH → OV} (z : α) (h : ac P H) [E : Enc enc e] (hz : enc z = zero) (hr : n * bytes ≤ room) (hb : 0 < bytes) (hk : ∀ b H', ac (ts e enc (vs b n e) (List.replicate n z) * P) H' → wp (kk (vs b n e, H')) Q) :
 wp ((kL zero e bytes (vi n) (vi n) H).bind kk) Q := by
 have hroom : n ≤ n * bytes := Nat.le_mul_of_pos_right _ hb
 have hz2 : zero.length = e := by rw [← hz, E.len]
 unfold kL;simp only [tI];rw [if_pos ⟨by omega, trivial, hr, by omega, E.pos, hz2⟩];simp only [be];refine hk _ _ ?_;have h2 := h.push (.cells false (List.replicate n zero).flatten);rw [BO hz] at h2 ⊢;have h3 := zq (e := e) (enc := enc) (l := List.replicate n z) h2;rw [List.length_replicate] at h3;exact h3
end
class KeyE {κ : Type} [DecidableEq κ] (cl : outParam KCls) (ek : κ → Value) : Prop where
 eq : ∀ a b, jg cl (ek a) (ek b) = some (decide (a = b))
 ok : ∀ a, gy cl (ek a) = true
inductive Ents {κ : Type} (ek : κ → Value) : List (κ × Value) → List MapEntry → Prop
 | nil : Ents ek [] []
 | cons {p : κ × Value} {l : List (κ × Value)} {e : MapEntry} {es : List MapEntry} (h1 : e.key = ek p.1) (h2 : e.val = p.2) (k : Ents ek l es) : Ents ek (p :: l) (e :: es)
section
variable {κ : Type} [DecidableEq κ] {ek : κ → Value} {cl : KCls}
def Gu : List (κ × Value) → κ → Option Value
 | [], _ => none
 | p :: al, k => if k = p.1 then some p.2 else Gu al k
def Gv : List (κ × Value) → κ → Value → List (κ × Value)
 | [], k, v => [(k, v)]
 | p :: al, k, v => if k = p.1 then (k, v) :: al else p :: Gv al k v
theorem Xp (k : κ) (v : Value) (x : κ) : ∀ al, Gu (Gv al k v) x = if x = k then some v else Gu al x := by
 intro al
 induction al with
 | nil => simp only [Gv, Gu]
 | cons p al ih =>
  simp only [Gv]
  by_cases hk : k = p.1
  ·rw [if_pos hk]
   simp only [Gu]
   by_cases hx : x = k
   ·simp [hx]
   ·have : ¬ x = p.1 := by rw [← hk]; exact hx
    simp [hx, this]
  ·rw [if_neg hk]
   simp only [Gu, ih]
   by_cases hx : x = p.1
   ·have : ¬ x = k := by rw [hx]; exact fun h => hk h.symm
    simp [hx];intro h; exact absurd h.symm hk
   ·simp [hx]
theorem adP [K : KeyE cl ek] {al : List (κ × Value)} {es : List MapEntry} (h : Ents ek al es) (k : κ) : ∀ i, ∃ r, aR cl (ek k) es i = some r ∧ r.map (·.2) = Gu al k := by
 induction h with
 | nil => intro i; exact ⟨none, rfl, rfl⟩
 | @cons p l e es h1 h2 _ ih =>
  intro i;simp only [aR, h1, K.eq, be, Gu]
  by_cases hp : k = p.1
  ·rw [if_pos (by simp [hp]), if_pos hp]
   exact ⟨_, rfl, by simp [h2]⟩
  ·rw [if_neg (by simp [hp]), if_neg hp]
   exact ih (i + 1)
theorem afA [K : KeyE cl ek] {al : List (κ × Value)} {es : List MapEntry} (h : Ents ek al es) (k : κ) (v : Value) : ∀ i, match aR cl (ek k) es i with
 | some (some (j, _)) => i ≤ j ∧ Ents ek (Gv al k v) (es.modify (j - i) fun e => { e with key := ek k, val := v })
 | some none => ∀ born, Ents ek (Gv al k v) (es ++ [{ key := ek k, val := v, born := born }])
 | none => False := by
 induction h with
 | nil => intro i born; exact .cons rfl rfl .nil
 | @cons p l e es h1 h2 hh ih =>
  intro i;simp only [aR, h1, K.eq, be, Gv]
  by_cases hp : k = p.1
  ·rw [if_pos (show decide (k = p.1) = true by simp [hp]), if_pos hp]
   refine ⟨bm _, ?_⟩;simp only [Nat.sub_self];exact .cons rfl rfl hh
  ·rw [if_neg (show ¬ decide (k = p.1) = true by simp [hp]), if_neg hp]
   have hi := ih (i + 1)
   cases hf : aR cl (ek k) es (i + 1) with
   | none => rw [hf] at hi; exact hi
   | some r =>
    rw [hf] at hi
    cases r with
    | none => intro born; exact .cons h1 h2 (hi born)
    | some r =>
     obtain ⟨j, v'⟩ := r;simp only at hi ⊢;refine ⟨by omega, ?_⟩;rw [show j - i = (j - (i + 1)) + 1 from by omega];exact .cons h1 h2 hi.2
def Un (ek : κ → Value) (b : Nat) (f : κ → Option Value) : SP := ex fun g : List (κ × Value) × List MapEntry × Nat => pu (Ents ek g.1 g.2.1 ∧ ∀ k, Gu g.1 k = f k) * blk b (.map g.2.1 g.2.2)
class Mp (P : SP) (b : Nat) {κ : Type} [DecidableEq κ] (ek : κ → Value) (f : outParam (κ → Option Value)) (R : outParam SP) : Prop where
 eq : P = Un ek b f * R
instance (priority := high) Mp.refl {κ : Type} [DecidableEq κ] (b : Nat) (ek : κ → Value) (f : κ → Option Value) : Mp (Un ek b f) b ek f emp := ⟨(dB _).symm⟩
instance Mp.left {κ : Type} [DecidableEq κ] (P Q R : SP) (b : Nat) (ek : κ → Value) (f : κ → Option Value) [h : Mp P b ek f R] : Mp (P * Q) b ek f (R * Q) := ⟨by rw [h.eq, ak]⟩
instance Mp.right {κ : Type} [DecidableEq κ] (P Q R : SP) (b : Nat) (ek : κ → Value) (f : κ → Option Value) [h : Mp Q b ek f R] : Mp (P * Q) b ek f (P * R) := ⟨by rw [h.eq, bo]⟩
theorem Po {R : SP} {H : AH} {b : Nat} (ek : κ → Value) (h : ac (blk b (.map [] 0) * R) H) : ac (Un ek b (fun _ => none) * R) H :=
 ac.ex.2 ⟨([], [], 0), by rw [ak]; exact ac.pu.2 ⟨⟨.nil, fun _ => rfl⟩, h⟩⟩
theorem Qg {P R : SP} {H : AH} {b : Nat} {f : κ → Option Value} {zero : Value} {kk : Value → OV} {Q : Value → AH → Prop} [K : KeyE cl ek] (k : κ) (h : ac P H) [m : Mp P b ek f R]
 (hk : wp (kk ((f k).getD zero)) Q) : wp ((b9 cl zero (.map (some b)) (ek k) false H).bind kk) Q := by
 have h' : ac (Un ek b f * R) H := by rw [← m.eq]; exact h
 obtain ⟨⟨al, es, c⟩, h'⟩ := ac.ex.1 h';rw [ak, ac.pu] at h';obtain ⟨⟨he, hf⟩, h'⟩ := h';dsimp only at he hf h';obtain ⟨r, h1, h2⟩ := adP he k 0;refine aa ?_ hk;unfold b9;rw [if_pos (K.ok k)];simp only [iK, h'.left.get, be, h1, dx];rw [← hf k, ← h2]
 cases r <;> rfl
theorem YZ {P R : SP} {H : AH} {b : Nat} {f : κ → Option Value} {kk : AH → OV} {Q : Value → AH → Prop} [K : KeyE cl ek] (k : κ) (v : Value) (h : ac P H) [m : Mp P b ek f R]
 (hk : ∀ H', ac (Un ek b (fun x => if x = k then some v else f x) * R) H' → wp (kk H') Q) : wp ((dl cl (.map (some b)) (ek k) v H).bind kk) Q := by
 have h' : ac (Un ek b f * R) H := by rw [← m.eq]; exact h
 obtain ⟨⟨al, es, c⟩, h'⟩ := ac.ex.1 h';rw [ak, ac.pu] at h';obtain ⟨⟨he, hf⟩, h'⟩ := h';dsimp only at he hf h';have hu := afA he k v 0;unfold dl;rw [if_pos (K.ok k)];simp only [h'.left.get]
 have fin : ∀ {es' : List MapEntry} {c' : Nat}, Ents ek (Gv al k v) es' → ac (Un ek b (fun x => if x = k then some v else f x) * R) (H.set b (.map es' c')) := fun {es'} {c'} he' =>
  ac.ex.2 ⟨(Gv al k v, es', c'), by
   rw [ak]
   exact ac.pu.2 ⟨⟨he', fun x => by rw [Xp, hf]⟩, h'.set _⟩⟩
 cases hf' : aR cl (ek k) es 0 with
 | none => rw [hf'] at hu; exact absurd hu id
 | some r =>
  rw [hf'] at hu
  cases r with
  | none =>
   simp only [dx, be];exact hk _ (fin (hu c))
  | some r =>
   obtain ⟨j, v'⟩ := r;simp only [dx, be];exact hk _ (fin hu.2)
end
section
variable {cl : TCls} {w : Nat}
theorem acR : aj cl .shr (vu w) (vw 61) = some (vu (w / 2305843009213693952)) := by
 have := Dg (cl := cl) (a := w) (k := .u64) (n := 61) (by omega)
 simpa using this
theorem afR : aj cl .shr (vu w) (vw 32) = some (vu (w / 4294967296)) := by
 have := Dg (cl := cl) (a := w) (k := .u64) (n := 32) (by omega)
 simpa using this
theorem M2 (k : Nat) (hw : w < 18446744073709551616) (hk : 2 ^ k - 1 < 18446744073709551616) : aj cl .and (vu w) (.int .u64 ((2 ^ k - 1 : Nat) : Int)) = some (vu (w % 2 ^ k)) := by
 have := Zz (cl := cl) hw hk;rw [Nat.and_two_pow_sub_one_eq_mod] at this;exact this
theorem ae0 (hw : w < 18446744073709551616) : aj cl .and (vu w) (vw 2305843009213693951) = some (vu (w % 2305843009213693952)) := by
 have := M2 (cl := cl) 61 hw (by omega)
 simpa using this
theorem aeZ (hw : w < 18446744073709551616) : aj cl .and (vu w) (vw 4294967295) = some (vu (w % 4294967296)) := by
 have := M2 (cl := cl) 32 hw (by omega)
 simpa using this
theorem PT (n : Nat) (h : n ≠ 0) : aj cl .rem (vu w) (.int .u64 (n : Int)) = some (vu (w % n)) := ir h
theorem acO (n : Nat) (h : n ≠ 0) (hw : w < 18446744073709551616) : aj cl .quo (vu w) (.int .u64 (n : Int)) = some (vu (w / n)) := De h hw
theorem acJ (n : Nat) : aj cl .mul (vu w) (.int .u64 (n : Int)) = some (vu (w * n % 18446744073709551616)) := QA
theorem afE (h : w * 2305843009213693952 < 18446744073709551616) : aj cl .mul (vu w) (vw 2305843009213693952) = some (vu (w * 2305843009213693952)) := by
 have := acJ (cl := cl) (w := w) 2305843009213693952;rw [Nat.mod_eq_of_lt h] at this
 simpa using this
theorem afD : aj cl .mul (vu w) (vw 4294967296) = some (vu (w * 4294967296 % 18446744073709551616)) := by
 have := acJ (cl := cl) (w := w) 4294967296
 simpa using this
theorem afM : aj cl .rem (vu w) (vw 2305843009213693952) = some (vu (w % 2305843009213693952)) := by
 have := PT (cl := cl) (w := w) 2305843009213693952 (by omega)
 simpa using this
theorem afI (hw : w < 18446744073709551616) : aj cl .quo (vu w) (vw 2305843009213693952) = some (vu (w / 2305843009213693952)) := by
 have := acO (cl := cl) (w := w) 2305843009213693952 (by omega) hw
 simpa using this
theorem afL : aj cl .rem (vu w) (vw 4294967296) = some (vu (w % 4294967296)) := by
 have := PT (cl := cl) (w := w) 4294967296 (by omega)
 simpa using this
theorem afH (hw : w < 18446744073709551616) : aj cl .quo (vu w) (vw 4294967296) = some (vu (w / 4294967296)) := by
 have := acO (cl := cl) (w := w) 4294967296 (by omega) hw
 simpa using this
theorem gK {w : Nat} (hw : w < 9223372036854775808) : bV (some .i64) (vu w) = some (vi (w : Int)) := by
 simp only [bV];rw [mW (by omega) (by omega)]
theorem de {n : Int} (h0 : 0 ≤ n) (h1 : n < 18446744073709551616) : bV (some .u64) (vi n) = some (vu n.toNat) := by
 simp only [bV];rw [j8 h0 h1];show _ = some (Value.int .u64 ((n.toNat : Nat) : Int));rw [Int.toNat_of_nonneg h0]
end
theorem acM {cl : TCls} {a b : Nat} : aj cl .neq (vu a) (vu b) = some (vb (a != b)) := by
 rw [yV]
 congr 2
 rw [Bool.eq_iff_iff];simp;omega
theorem ab8 {cl : TCls} {a b : Nat} : aj cl .eql (vu a) (vu b) = some (vb (a == b)) := by
 rw [dy]
 congr 2
 rw [Bool.eq_iff_iff];simp;omega
theorem ab6 {cl : TCls} {a b : Nat} : aj cl .add (vu a) (vu b) = some (vu ((a + b) % 18446744073709551616)) := by
 simp only [aj, kX, if_true];rw [Ch];simp
theorem Vb (a b : bK) : aj (.flat 3) .eql (.agg #[vi a.1, vi a.2.1, vi a.2.2]) (.agg #[vi b.1, vi b.2.1, vi b.2.2]) = some (vb (a == b)) := by
 show (ny (.flat 3) (.agg #[vi a.1, vi a.2.1, vi a.2.2]) (.agg #[vi b.1, vi b.2.1, vi b.2.2])).map (fun b => Value.bool b) = _;simp only [ny];rw [if_pos ⟨rfl, rfl⟩];simp only [ba, if_true, dx, Bool.and_true]
 rfl
theorem p6 {cl : TCls} {a b : Int} (h0 : -9223372036854775808 ≤ a * b) (h1 : a * b < 9223372036854775808) : aj cl .mul (vi a) (vi b) = some (vi (a * b)) := by simp only [aj, kX, if_true, mW h0 h1]
section
variable {cl : TCls} {k : IntKind} {a b : Int}
theorem cy (h : a < b) : aj cl .lss (.int k a) (.int k b) = some (vb true) := by rw [pZ, i4 h]
theorem bF (h : ¬ a < b) : aj cl .lss (.int k a) (.int k b) = some (vb false) := by rw [pZ, iv h]
theorem Xm (h : a ≤ b) : aj cl .leq (.int k a) (.int k b) = some (vb true) := by rw [Nc, i4 h]
theorem Xl (h : ¬ a ≤ b) : aj cl .leq (.int k a) (.int k b) = some (vb false) := by rw [Nc, iv h]
theorem w6 (h : b < a) : aj cl .gtr (.int k a) (.int k b) = some (vb true) := by rw [Ez, i4 h]
theorem gO (h : ¬ b < a) : aj cl .gtr (.int k a) (.int k b) = some (vb false) := by rw [Ez, iv h]
theorem jf (h : b ≤ a) : aj cl .geq (.int k a) (.int k b) = some (vb true) := by rw [yU, i4 h]
theorem fT (h : ¬ b ≤ a) : aj cl .geq (.int k a) (.int k b) = some (vb false) := by rw [yU, iv h]
theorem bf (h : a = b) : aj cl .eql (.int k a) (.int k b) = some (vb true) := by rw [dy, beq_iff_eq.2 h]
theorem aM (h : ¬ a = b) : aj cl .eql (.int k a) (.int k b) = some (vb false) := by rw [dy, beq_eq_false_iff_ne.2 h]
theorem acL (h : ¬ a = b) : aj cl .neq (.int k a) (.int k b) = some (vb true) := by rw [yV, bne_iff_ne.2 h]
theorem IJ (h : a = b) : aj cl .neq (.int k a) (.int k b) = some (vb false) := by
 rw [yV];simp [h]
end
theorem CD {c : Bool} {e : Option Value} {v : Value} (h : e = some v) : gB (vb c) c e = some v := by
 cases c <;> (rw [h]; rfl)
theorem acF {v : Value} : gV (vb true) true v = some v := rfl
theorem acC {v : Value} : gV (vb false) false v = some v := rfl
theorem acE {v : Value} : gV (vb true) false v = some undef := rfl
theorem acD {v : Value} : gV (vb false) true v = some undef := rfl
theorem acB {e : Option Value} : gB (vb true) false e = some undef := rfl
theorem acA {e : Option Value} : gB (vb false) true e = some undef := rfl
section
variable {H : AH} {e : Option (Value × AH)} {k : Value × AH → OV} {Q : Value → AH → Prop} {x : Option Value} {kv : Value → OV}
theorem Qd (h : wp (e.bind k) Q) : wp ((gE (vb true) true H e).bind k) Q := h
theorem zt (h : wp (e.bind k) Q) : wp ((gE (vb false) false H e).bind k) Q := h
theorem Qc (h : wp (k (undef, H)) Q) : wp ((gE (vb true) false H e).bind k) Q := h
theorem Qb (h : wp (k (undef, H)) Q) : wp ((gE (vb false) true H e).bind k) Q := h
theorem JD (h : wp (x.bind kv) Q) : wp ((tX (yv (vb true)) true x (some undef)).bind kv) Q := h
theorem Cc (h : wp (x.bind kv) Q) : wp ((tX (yv (vb false)) false x (some undef)).bind kv) Q := h
theorem JC (h : wp (kv undef) Q) : wp ((tX (yv (vb true)) false x (some undef)).bind kv) Q := h
theorem JB (h : wp (kv undef) Q) : wp ((tX (yv (vb false)) true x (some undef)).bind kv) Q := h
end
theorem Iu (c : Bool) (e : Option Value) : gB (vb c) c e = e := by cases c <;> cases e <;> rfl
theorem Gb {R : Type} (c : Bool) (k : Value → Option R) : ∀ (p : List Stp) (x : Value), CE (vb c) c p x k = ad p x k := by
 intro p
 induction p with
 | nil => intro x; rfl
 | cons s p ih => intro x; cases s <;> simp only [CE, ad, Iu, ih]
theorem Pb {R : Type} (c : Bool) (k : Value → Option R) (hk : ∀ x, k x = k undef) : ∀ (p : List Stp) (x : Value), CE (vb c) (!c) p x k = k undef := by
 intro p
 induction p with
 | nil => intro x; exact hk x
 | cons s p ih => intro x; cases c <;> cases s <;> exact ih undef
section
variable {H : AH} {p : List Stp} {x : Value} {k : Value → OV} {Q : Value → AH → Prop} {n : Nat}
theorem W7 {R : Type} (c : Bool) (k : Value → Option R) : ed (vb c) c p x H k = ld p x H k := by simp only [ed, ld, Gb, Iu]
theorem Pc {R : Type} (c : Bool) (k : Value → Option R) : mC (vb c) c n p x H k = ldN n p x H k := by simp only [mC, ldN, Gb, Iu]
theorem Pd {R : Type} (c : Bool) (k : Value → Option R) : ed (vb c) (!c) p x H k = k undef := by
 unfold ed
 rw [Pb c _ (fun x => by cases c <;> rfl)]
 cases c <;> rfl
theorem Iv {R : Type} (c : Bool) (k : Value → Option R) : mC (vb c) (!c) n p x H k = k undef := by
 unfold mC
 rw [Pb c _ (fun x => by cases c <;> rfl)]
 cases c <;> rfl
theorem YX (h : wp (ld p x H k) Q) : wp (ed (vb true) true p x H k) Q := by rw [W7]; exact h
theorem YU (h : wp (ld p x H k) Q) : wp (ed (vb false) false p x H k) Q := by rw [W7]; exact h
theorem YW (h : wp (k undef) Q) : wp (ed (vb true) false p x H k) Q := by rw [show (false : Bool) = !true from rfl, Pd]; exact h
theorem YV (h : wp (k undef) Q) : wp (ed (vb false) true p x H k) Q := by rw [show ed (vb false) true p x H k = ed (vb false) (!false) p x H k from rfl, Pd]; exact h
theorem Uc (h : wp (ldN n p x H k) Q) : wp (mC (vb true) true n p x H k) Q := by rw [Pc]; exact h
theorem T9 (h : wp (ldN n p x H k) Q) : wp (mC (vb false) false n p x H k) Q := by rw [Pc]; exact h
theorem Ub (h : wp (k undef) Q) : wp (mC (vb true) false n p x H k) Q := by rw [show mC (vb true) false n p x H k = mC (vb true) (!true) n p x H k from rfl, Iv]; exact h
theorem Ua (h : wp (k undef) Q) : wp (mC (vb false) true n p x H k) Q := by rw [show mC (vb false) true n p x H k = mC (vb false) (!false) n p x H k from rfl, Iv]; exact h
theorem qG {e : Option Value} (h : wp (e.bind k) Q) : wp ((gB (vb true) true e).bind k) Q := by rw [Iu]; exact h
theorem nK {e : Option Value} (h : wp (e.bind k) Q) : wp ((gB (vb false) false e).bind k) Q := by rw [Iu]; exact h
theorem YT {a b : OV} (h : wp a Q) : wp (au (vb true) a b) Q := h
theorem YS {a b : OV} (h : wp b Q) : wp (au (vb false) a b) Q := h
end
theorem agH {b : Bool} {v : Value} : gV undef b v = some undef := rfl
theorem agG {b : Bool} {e : Option Value} : gB undef b e = some undef := rfl
theorem ae7 {R : Type} (b : Bool) (k : Value → Option R) (hk : ∀ x, k x = k undef) : ∀ (p : List Stp) (x : Value), CE undef b p x k = k undef := by
 intro p
 induction p with
 | nil => intro x; exact hk x
 | cons s p ih => intro x; cases s <;> exact ih undef
theorem ae8 {R : Type} {b : Bool} {p : List Stp} {x : Value} {H : AH} (k : Value → Option R) : ed undef b p x H k = k undef := by
 unfold ed;rw [ae7 b _ (fun x => rfl)]
 rfl
theorem abO {b : Bool} {p : List Stp} {x : Value} {H : AH} {k : Value → OV} {Q : Value → AH → Prop} (h : wp (k undef) Q) : wp (ed undef b p x H k) Q := by rw [ae8]; exact h
class Gd (x : OV) (y : outParam OV) : Prop where
 go : ∀ {Q : Value → AH → Prop}, wp y Q → wp x Q
section
variable {a b v : Value} {k : Value → OV} {H : AH} {e : Option (Value × AH)} {e1 : Option Value} {ke : Value × AH → OV} {p : List Stp} {x : Value} {n : Nat} {c : Bool} {o1 o2 : OV}
instance : Gd ((aH (vb true) a b).bind k) (k a) := ⟨aa (XX _ _)⟩
instance : Gd ((aH (vb false) a b).bind k) (k b) := ⟨aa (GF _ _)⟩
instance : Gd ((gV (vb true) true v).bind k) (k v) := ⟨aa acF⟩
instance : Gd ((gV (vb false) false v).bind k) (k v) := ⟨aa acC⟩
instance : Gd ((gV (vb true) false v).bind k) (k undef) := ⟨aa acE⟩
instance : Gd ((gV (vb false) true v).bind k) (k undef) := ⟨aa acD⟩
instance : Gd ((gB (vb true) false e1).bind k) (k undef) := ⟨aa acB⟩
instance : Gd ((gB (vb false) true e1).bind k) (k undef) := ⟨aa acA⟩
instance : Gd ((gE (vb true) false H e).bind ke) (ke (undef, H)) := ⟨Qc⟩
instance : Gd ((gE (vb false) true H e).bind ke) (ke (undef, H)) := ⟨Qb⟩
instance : Gd ((gE (vb true) true H e).bind ke) (e.bind ke) := ⟨Qd⟩
instance : Gd ((gE (vb false) false H e).bind ke) (e.bind ke) := ⟨zt⟩
instance : Gd ((tX (yv (vb true)) false e1 (some undef)).bind k) (k undef) := ⟨JC⟩
instance : Gd ((tX (yv (vb false)) true e1 (some undef)).bind k) (k undef) := ⟨JB⟩
instance : Gd ((tX (yv (vb true)) true e1 (some undef)).bind k) (e1.bind k) := ⟨JD⟩
instance : Gd ((tX (yv (vb false)) false e1 (some undef)).bind k) (e1.bind k) := ⟨Cc⟩
instance : Gd (ed (vb true) true p x H k) (ld p x H k) := ⟨YX⟩
instance : Gd (ed (vb false) false p x H k) (ld p x H k) := ⟨YU⟩
instance : Gd (ed (vb true) false p x H k) (k undef) := ⟨YW⟩
instance : Gd (ed (vb false) true p x H k) (k undef) := ⟨YV⟩
instance : Gd (mC (vb true) true n p x H k) (ldN n p x H k) := ⟨Uc⟩
instance : Gd (mC (vb false) false n p x H k) (ldN n p x H k) := ⟨T9⟩
instance : Gd (mC (vb true) false n p x H k) (k undef) := ⟨Ub⟩
instance : Gd (mC (vb false) true n p x H k) (k undef) := ⟨Ua⟩
instance : Gd ((gB (vb true) true e1).bind k) (e1.bind k) := ⟨qG⟩
instance : Gd ((gB (vb false) false e1).bind k) (e1.bind k) := ⟨nK⟩
instance : Gd ((pr .not (vb c)).bind k) (k (vb (!c))) := ⟨aa wP⟩
instance : Gd (au (vb true) o1 o2) o1 := ⟨YT⟩
instance : Gd (au (vb false) o1 o2) o2 := ⟨YS⟩
instance : Gd ((gV undef c v).bind k) (k undef) := ⟨aa agH⟩
instance : Gd ((gB undef c e1).bind k) (k undef) := ⟨aa agG⟩
instance : Gd (ed undef c p x H k) (k undef) := ⟨abO⟩
class Gh (x : OV) (y : outParam OV) : Prop where
 go : ∀ {Q : Value → AH → Prop}, wp y Q → wp x Q
instance : Gh ((aH (vb true) a b).bind k) (k a) := ⟨aa (XX _ _)⟩
instance : Gh ((aH (vb false) a b).bind k) (k b) := ⟨aa (GF _ _)⟩
instance : Gh ((gV (vb true) true v).bind k) (k v) := ⟨aa acF⟩
instance : Gh ((gV (vb false) false v).bind k) (k v) := ⟨aa acC⟩
instance : Gh ((gV (vb true) false v).bind k) (k undef) := ⟨aa acE⟩
instance : Gh ((gV (vb false) true v).bind k) (k undef) := ⟨aa acD⟩
instance : Gh ((gB (vb true) false e1).bind k) (k undef) := ⟨aa acB⟩
instance : Gh ((gB (vb false) true e1).bind k) (k undef) := ⟨aa acA⟩
instance : Gh ((gE (vb true) false H e).bind ke) (ke (undef, H)) := ⟨Qc⟩
instance : Gh ((gE (vb false) true H e).bind ke) (ke (undef, H)) := ⟨Qb⟩
instance : Gh ((gE (vb true) true H e).bind ke) (e.bind ke) := ⟨Qd⟩
instance : Gh ((gE (vb false) false H e).bind ke) (e.bind ke) := ⟨zt⟩
instance : Gh ((tX (yv (vb true)) false e1 (some undef)).bind k) (k undef) := ⟨JC⟩
instance : Gh ((tX (yv (vb false)) true e1 (some undef)).bind k) (k undef) := ⟨JB⟩
instance : Gh ((tX (yv (vb true)) true e1 (some undef)).bind k) (e1.bind k) := ⟨JD⟩
instance : Gh ((tX (yv (vb false)) false e1 (some undef)).bind k) (e1.bind k) := ⟨Cc⟩
end
class Gs (x : OV) (y : outParam OV) : Prop where
 go : ∀ {Q : Value → AH → Prop}, wp y Q → wp x Q
class Gt (x : OV) (y : outParam OV) : Prop where
 go : ∀ {Q : Value → AH → Prop}, wp y Q → wp x Q
instance (priority := low) {x : OV} : Gs x x := ⟨id⟩
instance (priority := low) {x : OV} : Gt x x := ⟨id⟩
instance {x y z : OV} [g : Gd x y] [h : Gs y z] : Gs x z := ⟨fun q => g.go (h.go q)⟩
instance {x y z : OV} [g : Gh x y] [h : Gt y z] : Gt x z := ⟨fun q => g.go (h.go q)⟩
theorem gs {x y : OV} [g : Gs x y] {Q : Value → AH → Prop} (h : wp y Q) : wp x Q := g.go h
theorem gt {x y : OV} [g : Gt x y] {Q : Value → AH → Prop} (h : wp y Q) : wp x Q := g.go h
structure Mu where
 V : bK → Nat
 E : List Ev
 N : Nat
abbrev Mu.log (μ : Mu) (who kind : Int) (at' : bK) : Mu := { μ with E := μ.E ++ [⟨who, kind, at'⟩], N := μ.N + 1 }
abbrev Mu.put (μ : Mu) (at' : bK) (v : Nat) : Mu := { μ with V := fun l => if l = at' then v else μ.V l }
def d7 (al : List (bK × Nat)) (l : bK) : Nat := ((al.find? fun p => p.1 == l).map (·.2)).getD 0
def ae5 (p : bK × Nat) (e : MapEntry) : Prop := e.key = dr p.1 ∧ e.val = .agg #[vu p.2]
inductive EntsOf : List (bK × Nat) → List MapEntry → Prop
 | nil : EntsOf [] []
 | cons {p : bK × Nat} {l : List (bK × Nat)} {e : MapEntry} {es : List MapEntry} (h : ae5 p e) (k : EntsOf l es) : EntsOf (p :: l) (e :: es)
theorem DO (a b : bK) : jg (.flat 3) (dr a) (dr b) = some (a == b) := by
 simp only [jg, dr];rw [if_pos ⟨rfl, rfl⟩];simp only [ba, if_true, dx, Bool.and_true]
 rfl
theorem SB {al : List (bK × Nat)} {es : List MapEntry} (h : EntsOf al es) (l : bK) : ∀ i, ∃ r, aR (.flat 3) (dr l) es i = some r ∧ (match r with
 | some (j, v) => v = .agg #[vu (d7 al l)] ∧ i ≤ j ∧ (∃ p, al[j - i]? = some p ∧ p.1 = l) ∧ ∀ q, q < j - i → ∀ p, al[q]? = some p → p.1 ≠ l
 | none => d7 al l = 0 ∧ ∀ p ∈ al, p.1 ≠ l) := by
 induction h with
 | nil => intro i; exact ⟨none, rfl, rfl, by simp⟩
 | @cons p al e es h k ih =>
  intro i;simp only [aR];rw [h.1, DO];simp only [be]
  by_cases hp : p.1 = l
  ·have e1 : (l == p.1) = true := by simp [hp]
   rw [if_pos e1];refine ⟨_, rfl, ?_, bm _, ⟨p, by simp, hp⟩, fun q hq => by omega⟩;rw [h.2];simp [d7, hp]
  ·have e1 : ¬ ((l == p.1) = true) := by simp; exact fun h => hp h.symm
   rw [if_neg e1];obtain ⟨r, h1, h2⟩ := ih (i + 1)
   have hg : d7 (p :: al) l = d7 al l := by simp [d7, hp]
   refine ⟨r, h1, ?_⟩
   cases r with
   | none =>
    simp only at h2 ⊢;rw [hg]
    exact ⟨h2.1, fun q hq => by
     rcases List.mem_cons.1 hq with rfl | hq
     ·exact hp
     ·exact h2.2 q hq⟩
   | some r =>
    obtain ⟨j, v⟩ := r;simp only at h2 ⊢;rw [hg];obtain ⟨a1, a2, ⟨p', a3, a4⟩, a5⟩ := h2;refine ⟨a1, by omega, ⟨p', ?_, a4⟩, fun q hq p'' hp'' => ?_⟩
    ·rw [show j - i = (j - (i + 1)) + 1 from by omega]; exact a3
    ·cases q with
     | zero => simp at hp''; rw [← hp'']; exact hp
     | succ q => exact a5 q (by omega) p'' (by simpa using hp'')
def la : List (bK × Nat) → bK → Nat → List (bK × Nat)
 | [], l, v => [(l, v)]
 | p :: al, l, v => if p.1 = l then (l, v) :: al else p :: la al l v
theorem dq (p : bK × Nat) (al : List (bK × Nat)) (l : bK) : d7 (p :: al) l = if p.1 = l then p.2 else d7 al l := by
 unfold d7
 by_cases h : p.1 = l
 ·simp [h]
 ·simp [h]
theorem Db (l : bK) (v : Nat) (x : bK) : ∀ al, d7 (la al l v) x = if x = l then v else d7 al x := by
 intro al
 induction al with
 | nil =>
  simp only [la, dq]
  by_cases h : l = x
  ·simp [h]
  ·have : ¬ x = l := fun e => h e.symm
   simp [h, this]
 | cons p al ih =>
  simp only [la]
  by_cases hp : p.1 = l
  ·rw [if_pos hp, dq, dq]
   by_cases h : l = x
   ·simp [h]
   ·have h2 : ¬ x = l := fun e => h e.symm
    simp [h, h2, hp]
  ·rw [if_neg hp, dq, dq, ih]
   by_cases h : p.1 = x
   ·have h2 : ¬ x = l := fun e => hp (h.trans e)
    simp [h, h2]
   ·simp [h]
theorem YQ {al : List (bK × Nat)} {es : List MapEntry} (h : EntsOf al es) (l : bK) (v : Nat) : ∀ i, match aR (.flat 3) (dr l) es i with
 | some (some (j, _)) => i ≤ j ∧ EntsOf (la al l v) (es.modify (j - i) fun e => { e with key := dr l, val := .agg #[vu v] })
 | some none => ∀ born, EntsOf (la al l v) (es ++ [{ key := dr l, val := .agg #[vu v], born := born }])
 | none => False := by
 induction h with
 | nil => intro i born; exact .cons ⟨rfl, rfl⟩ .nil
 | @cons p al e es h k ih =>
  intro i;simp only [aR];rw [h.1, DO];simp only [be]
  by_cases hp : p.1 = l
  ·have e1 : (l == p.1) = true := by simp [hp]
   rw [if_pos e1];simp only [la, if_pos hp];refine ⟨bm _, ?_⟩;simp only [Nat.sub_self];exact .cons ⟨rfl, rfl⟩ k
  ·have e1 : ¬ ((l == p.1) = true) := by simp; exact fun h => hp h.symm
   rw [if_neg e1];have hi := ih (i + 1);simp only [la, if_neg hp]
   cases hf : aR (.flat 3) (dr l) es (i + 1) with
   | none => rw [hf] at hi; exact hi
   | some r =>
    rw [hf] at hi
    cases r with
    | none => intro born; exact .cons h (hi born)
    | some r =>
     obtain ⟨j, v'⟩ := r;simp only at hi ⊢;refine ⟨by omega, ?_⟩;rw [show j - i = (j - (i + 1)) + 1 from by omega];exact .cons h hi.2
section
variable {P P' R : SP} {H : AH} {c ck : Nat} {es : List MapEntry} {al : List (bK × Nat)} {Q : Value → AH → Prop}
theorem aeI {k : Value → OV} {at' : bK} (ha : EntsOf al es) (h : ac P H) [i : Hs P c (.map es ck)] (hk : wp (k (.agg #[vu (d7 al at')])) Q) : wp ((b9 (.flat 3) (.agg #[vw 0]) (.map (some c)) (dr at') false H).bind k) Q := by
 have hg := i.get h;obtain ⟨r, h1, h2⟩ := SB ha at' 0;refine aa ?_ hk;unfold b9;rw [if_pos (show gy (.flat 3) (dr at') = true from rfl)];simp only [iK, hg, be, h1, dx]
 cases r with
 | none => simp only at h2 ⊢; rw [h2.1]; rfl
 | some r => simp only at h2 ⊢; rw [h2.1]; rfl
theorem afY {k : AH → OV} {at' : bK} {v : Nat} (ha : EntsOf al es) (h : ac P H) [i : Hs P c (.map es ck)] (hk : ∀ es' ck' H', EntsOf (la al at' v) es' → (∀ P', Up P c (.map es' ck') P' → ac P' H') → wp (k H') Q) :
 wp ((dl (.flat 3) (.map (some c)) (dr at') (.agg #[vu v]) H).bind k) Q := by
 have hg := i.get h;have hu := YQ ha at' v 0;unfold dl;rw [if_pos (show gy (.flat 3) (dr at') = true from rfl)];simp only [hg]
 cases hf : aR (.flat 3) (dr at') es 0 with
 | none => rw [hf] at hu; exact absurd hu id
 | some r =>
  rw [hf] at hu
  cases r with
  | none =>
   simp only [dx, be];exact hk _ _ _ (hu ck) fun P' u => u.set h
  | some r =>
   obtain ⟨j, v'⟩ := r;simp only [dx, be];exact hk _ _ _ hu.2 fun P' u => u.set h
end
def bd (m : Nat) (μ : Mu) : SP := ex fun g : Nat × Value × List (bK × Nat) × List MapEntry × Nat =>
 pu (EntsOf g.2.2.1 g.2.2.2.1 ∧ (∀ l, d7 g.2.2.1 l = μ.V l) ∧ μ.E.length ≤ μ.N) * (blk m (.cells false [.map (some g.1), g.2.1]) * (blk g.1 (.map g.2.2.2.1 g.2.2.2.2) * sl 5 g.2.1 μ.E.length (m8 μ.E)))
theorem mI (m : Nat) (μ : Mu) (who kind : Int) (at' : bK) (hE : μ.N < 1099511627776) : Sp cE [vp m, vi who, vi kind, dr at'] (bd m μ) (fun _ : Unit => .tuple #[]) (fun _ => bd m (μ.log who kind at')) := by
 refine aW fun R H h => ?_;obtain ⟨⟨c, l, al, es, ck⟩, h⟩ := ac.ex.1 h;rw [ak, ac.pu] at h;obtain ⟨hp, h⟩ := h;dsimp only at h hp;refine aZ (fun r => ya _ _ _ _ H) ?_;refine bk (cs := [vi at'.1, vi at'.2.1, vi at'.2.2]) h fun b0 H1 h1 => ?_;refine ar h1 ae rfl ?_;refine aT h1 ?_;refine JA (cs := [vi who, vi kind, vi at'.1, vi at'.2.1, vi at'.2.2]) rfl ?_;refine Qf (cs := [vi who, vi kind, vi at'.1, vi at'.2.1, vi at'.2.2]) h1 rfl fun b1 H2 h2 => ?_;have hl := hp.2.2;refine acW h2 rfl (by omega) (by omega) rfl (by unfold room; omega) fun a' c' H3 h3 => ?_;refine bh h3 ae rfl rfl fun H4 h4 => ?_;refine am ⟨(), rfl, ?_⟩;refine ac.ex.2 ⟨(c, .slice a' (μ.E.length + 1) c', al, es, ck), ?_⟩;rw [ak, ac.pu];refine ⟨⟨hp.1, hp.2.1, by simp; exact hp.2.2⟩, ?_⟩
 have e1 : (μ.log who kind at').E.length = μ.E.length + 1 := by simp [Mu.log]
 have e2 : m8 (μ.log who kind at').E = m8 μ.E ++ [vi who, vi kind, vi at'.1, vi at'.2.1, vi at'.2.2] := by rw [Mu.log, EO]; rfl
 rw [e1, e2];exact h4.to
theorem tS (m : Nat) (μ : Mu) (at' : bK) : Sp dI [vp m, dr at'] (bd m μ) (fun _ : Unit => vu (μ.V at')) (fun _ => bd m μ) := by
 refine aW fun R H h => ?_;have h0 := h;obtain ⟨⟨c, l, al, es, ck⟩, h⟩ := ac.ex.1 h;rw [ak, ac.pu] at h;obtain ⟨hp, h⟩ := h;dsimp only at h hp;refine aZ (fun r => xX _ _ H) ?_;refine bk (cs := [vi at'.1, vi at'.2.1, vi at'.2.2]) h fun b0 H1 h1 => ?_;refine ar h1 ae rfl ?_;refine aT h1 ?_;refine aeI (at' := at') hp.1 h1 ?_;refine aa (v := vu (d7 al at')) rfl ?_;refine am ⟨(), by rw [hp.2.1], ?_⟩;refine ac.ex.2 ⟨(c, l, al, es, ck), ?_⟩;rw [ak, ac.pu];exact ⟨hp, h1.to⟩
theorem IG {m : Nat} {μ : Mu} {at' : bK} {v : Nat} {R P : SP} {H : AH} {c : Nat} {l : Value} {al : List (bK × Nat)} {es : List MapEntry} {k : AH → OV} {Q : Value → AH → Prop} {ck : Nat}
 (hp : EntsOf al es ∧ (∀ l, d7 al l = μ.V l) ∧ μ.E.length ≤ μ.N) (h : ac P H) [f : Fr P (blk m (.cells false [.map (some c), l]) * (blk c (.map es ck) * sl 5 l μ.E.length (m8 μ.E))) R] [i : Hs P c (.map es ck)]
 (hk : ∀ H', ac (bd m (μ.put at' v) * R) H' → wp (k H') Q) : wp ((dl (.flat 3) (.map (some c)) (dr at') (.agg #[vu v]) H).bind k) Q := by
 have h' := ac.fr (f := f) h;refine afY hp.1 h' fun es' ck' H' he hh => hk H' ?_;have h2 := hh _ inferInstance;refine ac.ex.2 ⟨(c, l, la al at' v, es', ck'), ?_⟩;rw [ak, ac.pu];refine ⟨⟨he, fun x => ?_, hp.2.2⟩, h2.to⟩;dsimp only;rw [Db, hp.2.1]
theorem SW (m : Nat) (μ : Mu) (who : Int) (at' : bK) (v : Nat) (hE : μ.N < 1099511627776) : Sp db [vp m, vi who, dr at', vu v] (bd m μ) (fun _ : Unit => .tuple #[]) (fun _ => bd m ((μ.log who 2 at').put at' v)) := by
 refine aU (vJ _ _ _ _) fun R H h => ?_;refine bk (cs := [vi at'.1, vi at'.2.1, vi at'.2.2]) h fun b0 H1 h1 => ?_;refine aT h1 ?_;refine af h1 (mI m μ who 2 at' hE) fun _ H2 h2 => ?_;obtain ⟨⟨c, l, al, es, ck⟩, h2⟩ := ac.ex.1 h2;rw [ak, ac.pu] at h2;obtain ⟨hp, h2⟩ := h2;dsimp only at h2 hp;refine ar h2 ae rfl ?_;refine aT h2 ?_;refine JA (cs := [vu v]) rfl ?_;refine IG (m := m) (l := l) (μ := μ.log who 2 at') (at' := at') (v := v) hp h2 fun H3 h3 => ?_;exact am ⟨(), rfl, h3.to⟩
theorem IH (m : Nat) (μ : Mu) (who : Int) (at' : bK) (v : Nat) (hE : μ.N < 1099511627776) : Sp gU [vp m, vi who, dr at', vu v] (bd m μ) (fun _ : Unit => vu (μ.V at')) (fun _ => bd m ((μ.log who 3 at').put at' v)) := by
 refine aU (yb _ _ _ _) fun R H h => ?_;refine bk (cs := [vi at'.1, vi at'.2.1, vi at'.2.2]) h fun b0 H1 h1 => ?_;refine aT h1 ?_;refine af h1 (tS m μ at') fun _ H2 h2 => ?_;refine aT h2 ?_;refine af h2 (mI m μ who 3 at' hE) fun _ H3 h3 => ?_;obtain ⟨⟨c, l, al, es, ck⟩, h3⟩ := ac.ex.1 h3;rw [ak, ac.pu] at h3;obtain ⟨hp, h3⟩ := h3;dsimp only at h3 hp;refine ar h3 ae rfl ?_;refine aT h3 ?_;refine JA (cs := [vu v]) rfl ?_;refine IG (m := m) (l := l) (μ := μ.log who 3 at') (at' := at') (v := v) hp h3 fun H4 h4 => ?_;exact am ⟨(), rfl, h4.to⟩
theorem Xw (m : Nat) (μ : Mu) (who : Int) (at' : bK) (hE : μ.N < 1099511627776) : Sp cD [vp m, vi who, dr at'] (bd m μ) (fun _ : Unit => vu (μ.V at')) (fun _ => bd m (μ.log who 1 at')) := by
 refine aU (xW _ _ _) fun R H h => ?_;refine bk (cs := [vi at'.1, vi at'.2.1, vi at'.2.2]) h fun b0 H1 h1 => ?_;refine aT h1 ?_;refine af h1 (mI m μ who 1 at' hE) fun _ H2 h2 => ?_;refine aT h2 ?_;refine af h2 (tS m (μ.log who 1 at') at') fun _ H3 h3 => ?_;exact am ⟨(), rfl, h3.to⟩
abbrev Mu.swap (μ : Mu) (who : Int) (at' : bK) (was now : Nat) : Mu := if μ.V at' = was then (μ.log who 3 at').put at' now else μ.log who 4 at'
theorem Xz (m : Nat) (μ : Mu) (who : Int) (at' : bK) (was now : Nat) (hE : μ.N < 1099511627776) :
 Sp dJ [vp m, vi who, dr at', vu was, vu now] (bd m μ) (fun _ : Unit => vb (decide (μ.V at' = was))) (fun _ => bd m (μ.swap who at' was now)) := by
 refine aU (xZ _ _ _ _ _) fun R H h => ?_;refine bk (cs := [vi at'.1, vi at'.2.1, vi at'.2.2]) h fun b0 H1 h1 => ?_;refine aT h1 ?_;refine af h1 (tS m μ at') fun _ H2 h2 => ?_;refine aa acM ?_;unfold Mu.swap;refine bD (fun hc => ?_) (fun hc => ?_)
 ·have hc : ¬ μ.V at' = was := by simpa using hc
  rw [if_neg hc, iv hc];refine aT h2 ?_;refine af h2 (mI m μ who 4 at' hE) fun _ H3 h3 => ?_;exact am ⟨(), rfl, h3.to⟩
 ·have hc : μ.V at' = was := by simpa using hc
  rw [if_pos hc, i4 hc];refine aT h2 ?_;refine af h2 (IH m μ who at' now hE) fun _ H3 h3 => ?_;exact am ⟨(), rfl, h3.to⟩
theorem aaW (m : Nat) (μ : Mu) (who : Int) (at' : bK) (n : Nat) (hE : μ.N < 1099511627776) :
 Sp fU [vp m, vi who, dr at', vu n] (bd m μ) (fun _ : Unit => vu (μ.V at')) (fun _ => bd m ((μ.log who 3 at').put at' ((μ.V at' + n) % 18446744073709551616))) := by
 refine aU (A7 _ _ _ _) fun R H h => ?_
 repeat (first | refine aV ‹_› fun _ _ _ => ?_ | refine aT ‹_› ?_)
 refine af (by assumption) (tS m μ at') fun _ _ _ => ?_
 repeat refine dw ‹_› ‹_› rfl ?_
 refine aa (ab6) ?_;refine af (by assumption) (IH m μ who at' _ hE) fun _ _ _ => ?_;exact am ⟨(), rfl, ac.to (by assumption)⟩
theorem Xy (m : Nat) (μ : Mu) (who : Int) (at' : bK) (hE : μ.N < 1099511627776) :
 Sp kD [vp m, vi who, dr at'] (bd m μ) (fun _ : Unit => .tuple #[]) (fun _ => bd m (μ.log who 5 at')) := by
 refine aU (xY _ _ _) fun R H h => ?_
 repeat (first | refine aV ‹_› fun _ _ _ => ?_ | refine aT ‹_› ?_)
 refine af (by assumption) (mI m μ who 5 at' hE) fun _ _ _ => ?_;exact am ⟨(), rfl, ac.to (by assumption)⟩
theorem vL (m : Nat) (μ : Mu) (who : Int) (at' : bK) (hE : μ.N < 1099511627776) :
 Sp eg [vp m, vi who, dr at'] (bd m μ) (fun _ : Unit => .tuple #[]) (fun _ => bd m (μ.log who 6 at')) := by
 refine aU (vK _ _ _) fun R H h => ?_
 repeat (first | refine aV ‹_› fun _ _ _ => ?_ | refine aT ‹_› ?_)
 refine af (by assumption) (mI m μ who 6 at' hE) fun _ _ _ => ?_;exact am ⟨(), rfl, ac.to (by assumption)⟩
theorem Sp.imp {α : Type} {f : Nat} {args : List Value} {P : SP} {v : α → Value} {Q Q' : α → SP} (s : Sp f args P v Q) (h : ∀ x R H, ac (Q x * R) H → ac (Q' x * R) H) : Sp f args P v Q' := by
 intro R H hh;obtain ⟨x, H', e, hq⟩ := s R H hh;exact ⟨x, H', e, h x R H' hq⟩
theorem jF {m : Nat} {V : bK → Nat} {E : List Ev} {N N' : Nat} {R : SP} {H : AH} (hN : N ≤ N') (h : ac (bd m ⟨V, E, N⟩ * R) H) : ac (bd m ⟨V, E, N'⟩ * R) H := by
 obtain ⟨g, h⟩ := ac.ex.1 h;rw [ak, ac.pu] at h;refine ac.ex.2 ⟨g, ?_⟩;rw [ak, ac.pu];exact ⟨⟨h.1.1, h.1.2.1, ep h.1.2.2 hN⟩, h.2⟩
abbrev Mu.acc (μ : Mu) (who kind : Int) (at' : bK) : Mu := { V := μ.V, E := μ.E ++ [⟨who, kind, at'⟩], N := μ.N + 2 }
abbrev Mu.swp (μ : Mu) (who : Int) (at' : bK) (was now : Nat) : Mu := { V := (μ.swap who at' was now).V, E := (μ.swap who at' was now).E, N := μ.N + 2 }
theorem Bc (m : Nat) (μ : Mu) (who : Int) (at' : bK) (hE : μ.N < 1099511627776) : Sp cD [vp m, vi who, dr at'] (bd m μ) (fun _ : Unit => vu (μ.V at')) (fun _ => bd m (μ.acc who 1 at')) :=
 (Xw m μ who at' hE).imp fun _ R H h => jF (by simp) h
theorem GC (m : Nat) (μ : Mu) (who : Int) (at' : bK) (v : Nat) (hE : μ.N < 1099511627776) : Sp db [vp m, vi who, dr at', vu v] (bd m μ) (fun _ : Unit => .tuple #[]) (fun _ => bd m ((μ.acc who 2 at').put at' v)) :=
 (SW m μ who at' v hE).imp fun _ R H h => jF (by simp) h
theorem LT (m : Nat) (μ : Mu) (who : Int) (at' : bK) (was now : Nat) (hE : μ.N < 1099511627776) :
 Sp dJ [vp m, vi who, dr at', vu was, vu now] (bd m μ) (fun _ : Unit => vb (decide (μ.V at' = was))) (fun _ => bd m (μ.swp who at' was now)) :=
 (Xz m μ who at' was now hE).imp fun _ R H h => by
  have : (μ.swap who at' was now).N ≤ μ.N + 2 := by unfold Mu.swap; split <;> simp
  exact jF this h
theorem acN (m : Nat) (μ : Mu) (who : Int) (at' : bK) (n : Nat) (hE : μ.N < 1099511627776) :
 Sp fU [vp m, vi who, dr at', vu n] (bd m μ) (fun _ : Unit => vu (μ.V at')) (fun _ => bd m ((μ.acc who 3 at').put at' ((μ.V at' + n) % 18446744073709551616))) :=
 (aaW m μ who at' n hE).imp fun _ R H h => jF (by simp) h
def EN (p : bK × Nat) : List Value := [vi p.1.1, vi p.1.2.1, vi p.1.2.2]
def Ib (p : bK × Nat) : List Value := [vu p.2]
instance : Enc EN 3 := ⟨fun _ => rfl, fun _ => rfl, by omega⟩
instance : Enc Ib 1 := ⟨fun _ => rfl, fun _ => rfl, by omega⟩
def DU (m : Nat) (al : List (bK × Nat)) (E : List Ev) : SP := ex fun g : Value × Value × Value =>
 blk m (.cells false [g.1, g.2.1, g.2.2]) * (ts 3 EN g.1 al * (ts 1 Ib g.2.1 al * ts 5 Ev.cells g.2.2 E))
def bi (m : Nat) (μ : Mu) : SP := ex fun al : List (bK × Nat) => pu ((∀ l, d7 al l = μ.V l) ∧ al.length + μ.E.length ≤ μ.N) * DU m al μ.E
def fR (al : List (bK × Nat)) (l : bK) : Nat := al.findIdx fun p => p.1 == l
def i1 (al : List (bK × Nat)) (l : bK) : List (bK × Nat) := if fR al l < al.length then al else al ++ [(l, 0)]
theorem iq (p : bK × Nat) (al : List (bK × Nat)) (l : bK) : fR (p :: al) l = if p.1 = l then 0 else fR al l + 1 := by
 unfold fR;rw [List.findIdx_cons]
 by_cases h : p.1 = l
 ·simp [h]
 ·have : (p.1 == l) = false := by simpa using h
  simp [h, this]
theorem zD (l : bK) : ∀ (al : List (bK × Nat)) (h : fR al l < al.length), al[fR al l] = (l, d7 al l) := by
 intro al
 induction al with
 | nil => intro h; simp at h
 | cons p al ih =>
  intro h;have e := iq p al l
  by_cases hp : p.1 = l
  ·rw [if_pos hp] at e
   simp only [e, List.getElem_cons_zero, dq, hp, if_true];exact Prod.ext hp rfl
  ·rw [if_neg hp] at e
   rw [e, List.length_cons] at h;simp only [e, List.getElem_cons_succ, dq, hp, if_false];exact ih (by omega)
theorem JS (l x : bK) : ∀ (al : List (bK × Nat)), ¬ fR al l < al.length → d7 (al ++ [(l, 0)]) x = d7 al x := by
 intro al
 induction al with
 | nil =>
  intro _;show d7 [(l, 0)] x = d7 [] x;rw [dq]
  split <;> rfl
 | cons p al ih =>
  intro h;have e := iq p al l
  by_cases hp : p.1 = l
  ·rw [if_pos hp] at e
   simp [e] at h
  ·rw [if_neg hp] at e
   rw [List.cons_append, dq, dq, ih (by rw [e, List.length_cons] at h; omega)]
theorem zE (l : bK) (al : List (bK × Nat)) (h : ¬ fR al l < al.length) : fR (al ++ [(l, 0)]) l = al.length := by
 induction al with
 | nil => simp [fR, List.findIdx_cons]
 | cons p al ih =>
  have e := iq p al l
  by_cases hp : p.1 = l
  ·rw [if_pos hp] at e
   simp [e] at h
  ·rw [if_neg hp] at e
   rw [List.cons_append, iq, if_neg hp, ih (by rw [e, List.length_cons] at h; omega), List.length_cons]
theorem Qt (al : List (bK × Nat)) (l x : bK) : d7 (i1 al l) x = d7 al x := by
 unfold i1
 split
 ·rfl
 ·exact JS l x al (by assumption)
theorem UG (al : List (bK × Nat)) (l : bK) : fR (i1 al l) l < (i1 al l).length := by
 unfold i1
 split
 ·assumption
 ·rw [zE l al (by assumption)]; simp
theorem Dc (l : bK) (v : Nat) : ∀ (al : List (bK × Nat)), fR al l < al.length → la al l v = al.set (fR al l) (l, v) := by
 intro al
 induction al with
 | nil => intro h; simp at h
 | cons p al ih =>
  intro h;have e := iq p al l
  by_cases hp : p.1 = l
  ·rw [if_pos hp] at e
   simp [la, hp, e]
  ·rw [if_neg hp] at e
   rw [e, List.length_cons] at h;simp only [la, hp, if_false, e, List.set_cons_succ];rw [ih (by omega)]
theorem PF (m : Nat) (al : List (bK × Nat)) (E : List Ev) (who kind : Int) (at' : bK) (hE : E.length < 1099511627776) : Sp bB [vp m, vi who, vi kind, dr at'] (DU m al E) (fun _ : Unit => .tuple #[]) (fun _ => DU m al (E ++ [⟨who, kind, at'⟩])) := by
 refine aU (BB _ _ _ _) fun R H h => ?_;obtain ⟨⟨a, v, e⟩, h⟩ := ac.ex.1 h;dsimp only at h
 repeat (first | refine aV ‹_› fun _ _ _ => ?_ | refine aT ‹_› ?_ | refine ar ‹_› ae rfl ?_ | refine j7 ?_ | refine Ht ‹_› fun _ _ _ => ?_)
 refine eA ((⟨who, kind, at'⟩ : Ev)) (by assumption) rfl ?_ (by omega) fun a' c' _ _ => ?_
 ·unfold room; omega
 repeat (first | refine bn ae ?_ | refine fW ‹_› rfl rfl fun _ _ => ?_)
 exact am ⟨(), rfl, ac.ex.2 ⟨(a, v, .slice a' (E.length + 1) c'), ac.to (by assumption)⟩⟩
theorem HA (l : bK) : ∀ (al : List (bK × Nat)) (k : Nat) (hk : k < al.length), al[k].1 = l → (∀ j, j < k → ∀ p, al[j]? = some p → p.1 ≠ l) → fR al l = k := by
 intro al
 induction al with
 | nil => intro k hk; simp at hk
 | cons p al ih =>
  intro k hk h hno;rw [iq]
  cases k with
  | zero => rw [if_pos (by simpa using h)]
  | succ k =>
   rw [if_neg (hno 0 (by omega) p rfl), ih k (by simpa using hk) (by simpa using h) fun j hj q hq => hno (j + 1) (by omega) q (by simpa using hq)]
theorem LZ {m b0 : Nat} {al : List (bK × Nat)} {E : List Ev} {at' : bK} {R : SP} (hal : al.length < 1099511627776) {a v e : Value} (x4 : Value) {H : AH}
 (h : ac (blk b0 (.cells false [vi at'.1, vi at'.2.1, vi at'.2.2]) * (blk m (.cells false [a, v, e]) * (ts 3 EN a al * (ts 1 Ib v al * ts 5 Ev.cells e E)) * R)) H) :
 ∀ (n k : Nat), k + n = al.length → (∀ j, j < k → ∀ p, al[j]? = some p → p.1 ≠ at') →
  wp (zl (vp m) (vp b0) x4 (vi k) H) fun v' H' => v' = vi (fR (i1 al at') at') ∧ ac (DU m (i1 al at') E * R) H' := by
 intro n
 induction n with
 | zero =>
  intro k hk hno
  have hidx : ¬ fR al at' < al.length := by
   intro hlt;have := zD at' al hlt;exact hno _ (by omega) _ (bu hlt) (by rw [this])
  refine ag (BI _ _ _ _ H) ?_;refine ar h ae rfl ?_;refine sH (s := a) h ?_;refine aa pZ ?_;refine bD (fun hc => ?_) (fun hc => ?_)
  ·simp at hc; omega
  refine ag (GU _ _ _ H) ?_;refine ag (Tm _ _ _ H) ?_;have e1 : i1 al at' = al ++ [(at', 0)] := if_neg hidx
  have e2 : fR (i1 al at') at' = al.length := by rw [e1, zE at' al hidx]
  rw [e1, ← e1, e2, e1]
  repeat (first | refine aT ‹_› ?_ | refine ar ‹_› ae rfl ?_ | refine Ht ‹_› fun _ _ _ => ?_)
  refine eA (((at', 0) : bK × Nat)) (by assumption) rfl ?_ (by omega) fun a1 c1 H1 h1 => ?_
  ·unfold room; omega
  repeat (first | refine ar ‹_› ae rfl ?_ | refine Ht ‹_› fun _ _ _ => ?_ | refine aG ‹_› ‹_› rfl ?_)
  refine eA (((at', 0) : bK × Nat)) (by assumption) rfl ?_ (by omega) fun a2 c2 H2 h2 => ?_
  ·unfold room; omega
  repeat (first | refine ar ‹_› ae rfl ?_ | refine bn ae ?_ | refine fW ‹_› rfl rfl fun _ _ => ?_ | refine Qe ?_)
  refine aa (fe (by omega) (by omega)) ?_;refine am ⟨by congr 1; omega, ?_⟩;exact ac.ex.2 ⟨(.slice a1 (al.length + 1) c1, .slice a2 (al.length + 1) c2, e), ac.to (by assumption)⟩
 | succ n ih =>
  intro k hk hno
  have hkl : k < al.length := by omega
  refine ag (BI _ _ _ _ H) ?_;refine ar h ae rfl ?_;refine sH (s := a) h ?_;refine aa pZ ?_;refine bD (fun hc => ?_) (fun hc => ?_)
  ·refine ag (Mb _ _ _ _ H) ?_
   refine ar h ae rfl ?_;refine aeJ (s := a) h hkl ?_;refine aT h ?_;refine aa (Vb al[k].1 at') ?_;refine bD (fun hc => ?_) (fun hc => ?_)
   ·have hc : al[k].1 = at' := by simpa using hc
    have hidx := HA at' al k hkl hc hno
    have e1 : i1 al at' = al := by unfold i1; rw [if_pos (by omega)]
    refine am ⟨by rw [e1, hidx], ?_⟩;rw [e1];exact ac.ex.2 ⟨(a, v, e), ac.to h⟩
   ·have hc : al[k].1 ≠ at' := by simpa using hc
    refine ag (Mc _ _ _ _ H) ?_;refine aa (aJ (by omega) (by omega)) ?_;refine ih (k + 1) (by omega) fun j hj p hp => ?_
    by_cases hjk : j = k
    ·subst hjk
     rw [bu hkl] at hp;cases hp;exact hc
    ·exact hno j (by omega) p hp
  ·simp at hc; omega
theorem Ti (m : Nat) (al : List (bK × Nat)) (E : List Ev) (at' : bK) (hal : al.length < 1099511627776) : Sp Ba [vp m, dr at'] (DU m al E) (fun _ : Unit => vi (fR (i1 al at') at')) (fun _ => DU m (i1 al at') E) := by
 refine aU (adZ _ _) fun R H h => ?_;obtain ⟨⟨a, v, e⟩, h⟩ := ac.ex.1 h;dsimp only at h;refine aV h fun b0 H1 h1 => ?_;refine ag (Tl _ _ _ H1) ?_;refine ag (Ma _ _ _ _ H1) ?_;refine (LZ hal (vi 0) h1 al.length 0 (by omega) (fun j hj => by omega)).mono fun v' H' h' => ⟨(), h'.1, h'.2⟩
theorem abM (a : Value) (al : List (bK × Nat)) (i : Nat) (hi : i < al.length) (v : Nat) : ts 3 EN a (al.set i (al[i].1, v)) = ts 3 EN a al := by
 unfold ts;rw [Gj, Is al i hi, nl al i hi]
 rfl
theorem A6 {m : Nat} {μ : Mu} {al : List (bK × Nat)} {a v e : Value} {P R : SP} {H : AH} (hp : (∀ l, d7 al l = μ.V l) ∧ al.length + μ.E.length ≤ μ.N) (h : ac P H)
 {Z : SP} [f : Fr P ((blk m (.cells false [a, v, e]) * (ts 3 EN a al * (ts 1 Ib v al * ts 5 Ev.cells e μ.E))) * R) Z] : ac (bi m μ * R) H := by
 refine ac.ex.2 ⟨al, ?_⟩;rw [ak, ac.pu];exact ⟨hp, ac.ex.2 ⟨(a, v, e), h.to⟩⟩
theorem Qu (al : List (bK × Nat)) (l : bK) : (i1 al l).length ≤ al.length + 1 := by unfold i1; split <;> simp
def xd (m : Nat) (μ : Mu) (at' : bK) (i : Nat) : SP := ex fun g : List (bK × Nat) × Value × Value × Value =>
 pu ((∀ l, d7 g.1 l = μ.V l) ∧ g.1.length + μ.E.length ≤ μ.N ∧ fR g.1 at' = i ∧ i < g.1.length) * (blk m (.cells false [g.2.1, g.2.2.1, g.2.2.2]) * (ts 3 EN g.2.1 g.1 * (ts 1 Ib g.2.2.1 g.1 * ts 5 Ev.cells g.2.2.2 μ.E)))
theorem Hq (m : Nat) (μ : Mu) (at' : bK) (hE : μ.N < 1099511627776) : Sp Ba [vp m, dr at'] (bi m μ) (fun i : Nat => vi (i : Int)) (fun i => xd m { μ with N := μ.N + 1 } at' i) := by
 intro R H h;obtain ⟨al, h⟩ := ac.ex.1 h;rw [ak, ac.pu] at h;obtain ⟨hp, h⟩ := h;obtain ⟨_, H', e, h'⟩ := Ti m al μ.E at' (by omega) R H h;refine ⟨fR (i1 al at') at', H', e, ?_⟩;obtain ⟨⟨a, v, ev⟩, h'⟩ := ac.ex.1 h';refine ac.ex.2 ⟨(i1 al at', a, v, ev), ?_⟩;rw [ak, ac.pu];have := Qu al at';exact ⟨⟨fun l => by rw [Qt, hp.1], by dsimp only; omega, rfl, UG al at'⟩, h'⟩
theorem Uj (m : Nat) (μ : Mu) (who kind : Int) (at' : bK) (hE : μ.N < 1099511627776) : Sp bB [vp m, vi who, vi kind, dr at'] (bi m μ) (fun _ : Unit => .tuple #[]) (fun _ => bi m (μ.log who kind at')) := by
 intro R H h;obtain ⟨al, h⟩ := ac.ex.1 h;rw [ak, ac.pu] at h;obtain ⟨hp, h⟩ := h;obtain ⟨_, H', e, h'⟩ := PF m al μ.E who kind at' (by omega) R H h;refine ⟨(), H', e, ?_⟩;refine ac.ex.2 ⟨al, ?_⟩;rw [ak, ac.pu];exact ⟨⟨hp.1, by simp; omega⟩, h'⟩
theorem adN (m : Nat) (μ : Mu) (at2 : bK) (i : Nat) (who kind : Int) (at' : bK) (hE : μ.N < 1099511627776) : Sp bB [vp m, vi who, vi kind, dr at'] (xd m μ at2 i) (fun _ : Unit => .tuple #[]) (fun _ => xd m (μ.log who kind at') at2 i) := by
 intro R H h;obtain ⟨⟨al, a, v, e⟩, h⟩ := ac.ex.1 h;rw [ak, ac.pu] at h;obtain ⟨hp, h⟩ := h;dsimp only at hp h;obtain ⟨_, H', e', h'⟩ := PF m al μ.E who kind at' (by omega) R H (ac.ex.2 ⟨(a, v, e), h⟩);refine ⟨(), H', e', ?_⟩;obtain ⟨⟨a2, v2, e2⟩, h'⟩ := ac.ex.1 h';refine ac.ex.2 ⟨(al, a2, v2, e2), ?_⟩;rw [ak, ac.pu];exact ⟨⟨hp.1, by simp; omega, hp.2.2⟩, h'⟩
class Xi (P : SP) (m i : Nat) (μ : outParam Mu) (at' : outParam bK) (R : outParam SP) : Prop where
 eq : P = xd m μ at' i * R
instance (priority := high) Xi.refl (m i : Nat) (μ : Mu) (at' : bK) : Xi (xd m μ at' i) m i μ at' emp := ⟨(dB _).symm⟩
instance Xi.left (P Q R : SP) (m i : Nat) (μ : Mu) (at' : bK) [h : Xi P m i μ at' R] : Xi (P * Q) m i μ at' (R * Q) := ⟨by rw [h.eq, ak]⟩
instance Xi.right (P Q R : SP) (m i : Nat) (μ : Mu) (at' : bK) [h : Xi Q m i μ at' R] : Xi (P * Q) m i μ at' (P * R) := ⟨by rw [h.eq, bo]⟩
section
variable {m i : Nat} {μ : Mu} {at' : bK} {P R : SP} {H : AH} {Q : Value → AH → Prop}
theorem Y2 {k : Value → OV} (h : ac P H) [f : Xi P m i μ at' R] (hk : wp (k (vu (μ.V at'))) Q) : wp (ld [.n, .f 1] (vp m) H fun v => ld [.i 1 (vi i)] v H k) Q := by
 have h' : ac (xd m μ at' i * R) H := by rw [← f.eq]; exact h
 obtain ⟨⟨al, a, v, e⟩, h'⟩ := ac.ex.1 h';rw [ak, ac.pu] at h';obtain ⟨hp, h'⟩ := h';dsimp only at hp h';refine ar h' ae rfl ?_;obtain ⟨p1, _, p4, p5⟩ := hp;refine Y0 (s := v) h' p5 (v := vu (μ.V at')) ?_ hk;subst p4;rw [zD at' al p5];simp [Ib, p1]
theorem Y3 {k : AH → OV} {v : Nat} (h : ac P H) [f : Xi P m i μ at' R] (hk : ∀ H', ac (bi m (μ.put at' v) * R) H' → wp (k H') Q) : wp (ld [.n, .f 1] (vp m) H fun s => st 1 [.i 1 (vi i)] s (vu v) H k) Q := by
 have h0 : ac (xd m μ at' i * R) H := by rw [← f.eq]; exact h
 obtain ⟨⟨al, a, s, e⟩, h1⟩ := ac.ex.1 h0;rw [ak, ac.pu] at h1;obtain ⟨hp, h'⟩ := h1
 clear h0
 dsimp only at hp h';refine ar h' ae rfl ?_;obtain ⟨p1, p2, p4, p5⟩ := hp;subst p4;refine Er (s := s) (g := 0) ((at', v) : bK × Nat) h' p5 (.inl ⟨rfl, rfl⟩) rfl (by omega) rfl rfl fun H' h2 => hk H' ?_;have hat := zD at' al p5;have hk2 := abM a al (fR al at') p5 v;rw [hat] at hk2;rw [← Dc at' v al p5] at h2 hk2;rw [← hk2] at h2;refine A6 (al := la al at' v) (a := a) (v := s) (e := e) ⟨fun l => ?_, ?_⟩ h2
 ·rw [Db, p1]
 ·rw [Dc at' v al p5, Gj]; exact p2
theorem abS {x y : Value} {op : BinOp} {cl : TCls} {k : AH → OV} {v : Nat} (h : ac P H) [f : Xi P m i μ at' R] (hb : aj cl op x y = some (vu v)) (hk : ∀ H', ac (bi m (μ.put at' v) * R) H' → wp (k H') Q) :
 wp (ld [.n, .f 1] (vp m) H fun s => (aj cl op x y).bind fun z => st 1 [.i 1 (vi i)] s z H k) Q := by
 rw [hb];exact Y3 h hk
theorem af2 (h : ac P H) [f : Xi P m i μ at' R] : ac (bi m μ * R) H := by
 have h' : ac (xd m μ at' i * R) H := by rw [← f.eq]; exact h
 obtain ⟨⟨al, a, s, e⟩, h'⟩ := ac.ex.1 h';rw [ak, ac.pu] at h';obtain ⟨hp, h'⟩ := h';exact A6 (al := al) (a := a) (v := s) (e := e) ⟨hp.1, hp.2.1⟩ h'
end
theorem pG (m : Nat) (μ : Mu) (who : Int) (at' : bK) (hE : μ.N < 1099511627000) : Sp cV [vp m, vi who, dr at'] (bi m μ) (fun _ : Unit => vu (μ.V at')) (fun _ => bi m (μ.acc who 1 at')) := by
 refine aU (yI _ _ _) fun R H h => ?_
 repeat (first | refine aV ‹_› fun _ _ _ => ?_ | refine aT ‹_› ?_)
 refine af (by assumption) (Uj m μ who 1 at' (by omega)) fun _ _ _ => ?_
 repeat refine aT ‹_› ?_
 refine af (by assumption) (Hq m (μ.log who 1 at') at' (by simp; omega)) fun i H3 h3 => ?_;refine Y2 h3 ?_;exact am ⟨(), rfl, ac.to (af2 (m := m) (i := i) h3)⟩
theorem wH (m : Nat) (μ : Mu) (who : Int) (at' : bK) (v : Nat) (hE : μ.N < 1099511627000) : Sp ei [vp m, vi who, dr at', vu v] (bi m μ) (fun _ : Unit => .tuple #[]) (fun _ => bi m ((μ.acc who 2 at').put at' v)) := by
 refine aU (wq _ _ _ _) fun R H h => ?_
 repeat (first | refine aV ‹_› fun _ _ _ => ?_ | refine aT ‹_› ?_)
 refine af (by assumption) (Uj m μ who 2 at' (by omega)) fun _ _ _ => ?_
 repeat refine aT ‹_› ?_
 refine af (by assumption) (Hq m (μ.log who 2 at') at' (by simp; omega)) fun i H3 h3 => ?_;refine Y3 (at' := at') h3 fun H4 h4 => ?_;exact am ⟨(), rfl, h4.to⟩
theorem BH (m : Nat) (μ : Mu) (who : Int) (at' : bK) (was now : Nat) (hE : μ.N < 1099511627000) :
 Sp e7 [vp m, vi who, dr at', vu was, vu now] (bi m μ) (fun _ : Unit => vb (decide (μ.V at' = was))) (fun _ => bi m (μ.swp who at' was now)) := by
 refine aU (yJ _ _ _ _ _) fun R H h => ?_
 repeat (first | refine aV ‹_› fun _ _ _ => ?_ | refine aT ‹_› ?_)
 refine af (by assumption) (Hq m μ at' (by omega)) fun i H3 h3 => ?_;refine Y2 h3 ?_;refine aa (acM) ?_;unfold Mu.swp Mu.swap;refine bD (fun hc => ?_) (fun hc => ?_)
 ·have hc : ¬ μ.V at' = was := by simpa using hc
  rw [if_neg hc, iv hc]
  repeat refine aT ‹_› ?_
  refine af (by assumption) (adN m { μ with N := μ.N + 1 } at' i who 4 at' (by simp; omega)) fun _ H4 h4 => ?_;exact am ⟨(), rfl, ac.to (af2 (m := m) (i := i) h4)⟩
 ·have hc : μ.V at' = was := by simpa using hc
  rw [if_pos hc, i4 hc]
  repeat refine aT ‹_› ?_
  refine af (by assumption) (adN m { μ with N := μ.N + 1 } at' i who 3 at' (by simp; omega)) fun _ H4 h4 => ?_;refine Y3 (at' := at') h4 fun H5 h5 => ?_;exact am ⟨(), rfl, h5.to⟩
theorem PE (m : Nat) (μ : Mu) (who : Int) (at' : bK) (n : Nat) (hE : μ.N < 1099511627000) :
 Sp iR [vp m, vi who, dr at', vu n] (bi m μ) (fun _ : Unit => vu (μ.V at')) (fun _ => bi m ((μ.acc who 3 at').put at' ((μ.V at' + n) % 18446744073709551616))) := by
 refine aU (BA _ _ _ _) fun R H h => ?_
 repeat (first | refine aV ‹_› fun _ _ _ => ?_ | refine aT ‹_› ?_)
 refine af (by assumption) (Hq m μ at' (by omega)) fun i H3 h3 => ?_
 repeat refine aT ‹_› ?_
 refine af (by assumption) (adN m { μ with N := μ.N + 1 } at' i who 3 at' (by simp; omega)) fun _ H4 h4 => ?_;refine Y2 h4 ?_;refine abS (at' := at') h4 ab6 fun H5 h5 => ?_;exact am ⟨(), rfl, h5.to⟩
def cg (w : Nat) : Bool := decide (w / 2305843009213693952 < 3)
def ay (w : Nat) : Nat := if cg w then w % 2305843009213693952 else 0
def aL (w : Nat) : Int := if cg w then (w / 2305843009213693952 : Nat) else -1
def aX (w : Nat) : Nat → Option Nat
 | 0 => if cg w ∧ aL w ≠ 2 ∧ ay w < 2305843009213693951 then some (ay w + 1 + 2305843009213693952) else none
 | 1 => if aL w = 1 then some (ay w) else none
 | 2 => if aL w = 0 then some (ay w + 4611686018427387904) else none
 | _ => none
def LJ : Option Nat → Value
 | some n => .tuple #[vu n, vb true]
 | none => .tuple #[vw 0, vb false]
theorem sJ (w : Nat) : Sp g7 [vu w] emp (fun _ : Unit => vb (cg w)) (fun _ => emp) := by
 refine aU (C8 _) fun R H h => ?_;refine aa (acR) ?_;refine aa (pZ) ?_;refine am ⟨(), ?_, h⟩
 congr 1
 unfold cg
 congr 1
 apply propext;omega
theorem iM (w : Nat) (hw : w < 18446744073709551616) : Sp dk [vu w] emp (fun _ : Unit => vu (ay w)) (fun _ => emp) := by
 refine aU (C7 _) fun R H h => ?_;refine af (by assumption) (sJ w) fun _ _ _ => ?_;refine aa (wP) ?_;refine bD (fun hc => ?_) (fun hc => ?_)
 ·have hc : cg w = false := by simpa using hc
  refine am ⟨(), by simp [ay, hc], ac.to (by assumption)⟩
 ·have hc : cg w = true := by simpa using hc
  refine aa (ae0 hw) ?_;refine am ⟨(), by simp [ay, hc], ac.to (by assumption)⟩
theorem nM (w : Nat) (hw : w < 18446744073709551616) : Sp fw [vu w] emp (fun _ : Unit => vi (aL w)) (fun _ => emp) := by
 refine aU (C9 _) fun R H h => ?_;refine af (by assumption) (sJ w) fun _ _ _ => ?_;refine aa (wP) ?_;refine bD (fun hc => ?_) (fun hc => ?_)
 ·have hc : cg w = false := by simpa using hc
  refine am ⟨(), by simp [aL, hc], ac.to (by assumption)⟩
 ·have hc : cg w = true := by simpa using hc
  refine aa (acR) ?_;refine aa (gK (by omega)) ?_;refine am ⟨(), by simp [aL, hc], ac.to (by assumption)⟩
theorem mO (w : Nat) (hw : w < 18446744073709551616) : Sp e6 [vu w] emp (fun _ : Unit => .tuple #[vu (ay w), vi (aL w), vb (cg w)]) (fun _ => emp) := by
 refine aU (GL _) fun R H h => ?_;refine aa (afM) ?_;refine aa (afI hw) ?_;refine aa (gK (by omega)) ?_;refine aa (Ez) ?_;refine bD (fun hc => ?_) (fun hc => ?_)
 ·have hc : cg w = false := by simp at hc; simp [cg]; omega
  refine am ⟨(), by simp [ay, aL, hc], h.to⟩
 ·have hc : cg w = true := by simp at hc; simp [cg]; omega
  refine am ⟨(), by simp [ay, aL, hc], h.to⟩
theorem Uf (n : Nat) (s : Nat) (hn : n ≤ 2305843009213693951) (hs : s < 3) : Sp pp [vu n, vi (s : Int)] emp (fun _ : Unit => .tuple #[vu (s * 2305843009213693952 + n), vb true]) (fun _ => emp) := by
 refine aU (Hn _ _) fun R H h => ?_;refine aa (gO (by omega)) ?_;refine gt ?_;refine aa (CD (bF ?_)) ?_
 ·omega
 refine gt ?_;refine aa (CD (fT ?_)) ?_
 ·omega
 refine gt ?_;refine bD (fun hc => by cases hc) (fun _ => ?_);refine aa (de (by omega) (by omega)) ?_
 have e1 : aj .other .shl (vu (s : Int).toNat) (vw 61) = some (vu (s * 2305843009213693952)) := by
  have := Df (cl := .other) (a := s) (k := .u64) (n := 61) (by omega);simp only [Nat.reducePow] at this;rw [Nat.mod_eq_of_lt (by omega)] at this
  simpa using this
 refine aa (e1) ?_
 have e2 : aj .other .or (vu (s * 2305843009213693952)) (vu n) = some (vu (s * 2305843009213693952 + n)) := by
  rw [UN (by omega) (by omega)]
  congr 3
  have := Nat.two_pow_add_eq_or_of_lt (i := 61) (b := n) (by simp only [Nat.reducePow]; omega) s;simp only [Nat.reducePow] at this;rw [Nat.mul_comm, ← this]
 refine aa (e2) ?_;exact am ⟨(), rfl, h.to⟩
theorem Bh (n : Nat) (s : Nat) (hn : n ≤ 2305843009213693951) (hs : s < 3) : Sp kE [vu n, vi (s : Int)] emp (fun _ : Unit => .tuple #[vu (s * 2305843009213693952 + n), vb true]) (fun _ => emp) := by
 refine aU (IY _ _) fun R H h => ?_;refine aa (gO (by omega)) ?_;refine gt ?_;refine aa (CD (bF ?_)) ?_
 ·omega
 refine gt ?_;refine aa (CD (gO ?_)) ?_
 ·omega
 refine gt ?_;refine bD (fun hc => by cases hc) (fun _ => ?_);refine aa (de (by omega) (by omega)) ?_
 have hs2 : (s : Int).toNat = s := by omega
 rw [hs2];refine aa (afE (by omega)) ?_;refine aa (ej (by omega)) ?_;exact am ⟨(), rfl, h.to⟩
theorem dQ (w : Nat) : ay w ≤ 2305843009213693951 := by unfold ay; split <;> omega
theorem acV {w : Nat} (h : cg w = true ∧ aL w ≠ 2 ∧ ay w < 2305843009213693951) : aX w 0 = some (ay w + 1 + 2305843009213693952) := if_pos h
theorem Jw {w : Nat} (h : ¬ (cg w = true ∧ aL w ≠ 2 ∧ ay w < 2305843009213693951)) : aX w 0 = none := if_neg h
theorem afU {w : Nat} (h : aL w = 1) : aX w 1 = some (ay w) := if_pos h
theorem afT {w : Nat} (h : ¬ aL w = 1) : aX w 1 = none := if_neg h
theorem afW {w : Nat} (h : aL w = 0) : aX w 2 = some (ay w + 4611686018427387904) := if_pos h
theorem afV {w : Nat} (h : ¬ aL w = 0) : aX w 2 = none := if_neg h
theorem Ue (w : Nat) (hw : w < 18446744073709551616) : Sp lu [vu w] emp (fun _ : Unit => LJ (aX w 0)) (fun _ => emp) := by
 refine aU (Hm _) fun R H h => ?_;have hcl := dQ w;refine af (by assumption) (sJ w) fun _ _ _ => ?_;refine aa (wP) ?_
 by_cases hr : cg w = true
 ·rw [hr, Bool.not_true]
  refine gt ?_;refine af (by assumption) (nM w hw) fun _ _ _ => ?_;refine aa (CD (dy)) ?_
  by_cases hs : aL w = 2
  ·rw [beq_iff_eq.2 hs]
   refine gt ?_;refine bD (fun _ => ?_) (fun hc => by cases hc);exact am ⟨(), by rw [Jw (fun h => h.2.1 hs)]; rfl, ac.to (by assumption)⟩
  ·rw [beq_eq_false_iff_ne.2 hs]
   refine gt ?_;refine af (by assumption) (iM w hw) fun _ _ _ => ?_;refine aa (CD (dy)) ?_;refine gt ?_;refine bD (fun hc => ?_) (fun hc => ?_)
   ·have hc : (ay w : Int) = 2305843009213693951 := by simpa using hc
    exact am ⟨(), by rw [Jw (fun h => by have := h.2.2; omega)]; rfl, ac.to (by assumption)⟩
   ·have hc : ¬ (ay w : Int) = 2305843009213693951 := by simpa using hc
    have ht := acV (w := w) ⟨hr, hs, by omega⟩;refine af (by assumption) (iM w hw) fun _ _ _ => ?_;refine aa (ej (b := 1) (by omega)) ?_;refine af (by assumption) (Uf (ay w + 1) 1 (by omega) (by omega)) fun _ _ _ => ?_;refine aa rfl ?_;refine aa rfl ?_;refine am ⟨(), ?_, ac.to (by assumption)⟩;rw [ht];simp [LJ];omega
 ·have hr : cg w = false := by simpa using hr
  rw [hr, Bool.not_false];refine gt ?_;refine bD (fun _ => ?_) (fun hc => by cases hc);exact am ⟨(), by rw [Jw (fun h => by rw [hr] at h; cases h.1)]; rfl, ac.to (by assumption)⟩
theorem L4 (w how : Nat) (hw : w < 18446744073709551616) (hh : how < 3) : Sp nq [vu w, vi (how : Int)] emp (fun _ : Unit => LJ (aX w how)) (fun _ => emp) := by
 refine aU (CN _ _) fun R H h => ?_;have hcl := dQ w;refine af (by assumption) (mO w hw) fun _ H1 h1 => ?_;refine aa rfl ?_;refine aa rfl ?_;refine aa rfl ?_;refine ag (vV _ _ _ _ _ _ H1) ?_;refine aa (wP) ?_;refine bD (fun hc => ?_) (fun hc => ?_)
 ·have hc : cg w = false := by simpa using hc
  have : aX w how = none := by
   match how, hh with
   | 0, _ => simp [aX, hc]
   | 1, _ => simp [aX, aL, hc]
   | 2, _ => simp [aX, aL, hc]
  exact am ⟨(), by rw [this]; rfl, ac.to (by assumption)⟩
 ·have hr : cg w = true := by simpa using hc
  match how, hh with
  | 0, _ =>
   refine aa (bf rfl) ?_;refine gt ?_;refine aa (CD (yV)) ?_;refine gt ?_
   by_cases hs : aL w = 2
   ·rw [bne_eq_false_iff_eq.2 hs]
    refine gt ?_;refine bD (fun hc => by cases hc) (fun _ => ?_);refine aa (aM ?_) ?_
    ·omega
    refine gt ?_;refine bD (fun hc => by cases hc) (fun _ => ?_);refine aa (aM ?_) ?_
    ·omega
    refine gt ?_;refine bD (fun hc => by cases hc) (fun _ => ?_);refine ag (fB _ _ H1) ?_;exact am ⟨(), by rw [Jw (fun h => h.2.1 hs)]; rfl, ac.to (by assumption)⟩
   ·rw [bne_iff_ne.2 hs]
    refine gt ?_;refine aa (CD (pZ)) ?_;refine gt ?_;refine bD (fun hc => ?_) (fun hc => ?_)
    ·have hc : (ay w : Int) < 2305843009213693951 := by simpa using hc
     have ht := acV (w := w) ⟨hr, hs, by omega⟩;refine aa (ej (b := 1) (by omega)) ?_;refine af (by assumption) (Bh (ay w + 1) 1 (by omega) (by omega)) fun _ _ _ => ?_;refine aa rfl ?_;refine aa rfl ?_;refine am ⟨(), ?_, ac.to (by assumption)⟩;rw [ht];simp [LJ];omega
    ·have hc : ¬ (ay w : Int) < 2305843009213693951 := by simpa using hc
     refine aa (aM ?_) ?_
     ·omega
     refine gt ?_;refine bD (fun hc => by cases hc) (fun _ => ?_);refine aa (aM ?_) ?_
     ·omega
     refine gt ?_;refine bD (fun hc => by cases hc) (fun _ => ?_);refine ag (fB _ _ H1) ?_;exact am ⟨(), by rw [Jw (fun h => by have := h.2.2; omega)]; rfl, ac.to (by assumption)⟩
  | 1, _ =>
   refine aa (aM ?_) ?_
   ·omega
   refine gt ?_;refine bD (fun hc => by cases hc) (fun _ => ?_);refine aa (bf rfl) ?_;refine gt ?_;refine aa (CD (dy)) ?_;refine gt ?_;refine bD (fun hc => ?_) (fun hc => ?_)
   ·have hc : aL w = 1 := by simpa using hc
    refine af (by assumption) (Bh (ay w) 0 (by omega) (by omega)) fun _ _ _ => ?_;refine aa rfl ?_;refine aa rfl ?_;exact am ⟨(), by rw [afU hc]; simp [LJ], ac.to (by assumption)⟩
   ·have hc : ¬ aL w = 1 := by simpa using hc
    refine aa (aM ?_) ?_
    ·omega
    refine gt ?_;refine bD (fun hc => by cases hc) (fun _ => ?_);refine ag (fB _ _ H1) ?_;exact am ⟨(), by rw [afT hc]; rfl, ac.to (by assumption)⟩
  | 2, _ =>
   refine aa (aM ?_) ?_
   ·omega
   refine gt ?_;refine bD (fun hc => by cases hc) (fun _ => ?_);refine aa (aM ?_) ?_
   ·omega
   refine gt ?_;refine bD (fun hc => by cases hc) (fun _ => ?_);refine aa (bf rfl) ?_;refine gt ?_;refine aa (CD (dy)) ?_;refine gt ?_;refine bD (fun hc => ?_) (fun hc => ?_)
   ·have hc : aL w = 0 := by simpa using hc
    refine af (by assumption) (Bh (ay w) 2 (by omega) (by omega)) fun _ _ _ => ?_;refine aa rfl ?_;refine aa rfl ?_;refine am ⟨(), ?_, ac.to (by assumption)⟩;rw [afW hc];simp [LJ];omega
   ·have hc : ¬ aL w = 0 := by simpa using hc
    refine ag (fB _ _ H1) ?_;exact am ⟨(), by rw [afV hc]; rfl, ac.to (by assumption)⟩
theorem xw (s : Int) : Sp iS [vi s] emp (fun _ : Unit => dr (8, s, 0)) (fun _ => emp) := by
 refine aU (B3 _) fun R H h => ?_
 repeat (first | refine bk ‹_› fun _ _ _ => ?_ | refine aT ‹_› ?_ | refine fW ‹_› rfl rfl fun _ _ => ?_ | refine j7 ?_)
 exact am ⟨(), rfl, ac.to (by assumption)⟩
theorem B4 (s i : Int) : Sp jH [vi s, vi i] emp (fun _ : Unit => dr (10, s, i)) (fun _ => emp) := by
 refine aU (C5 _ _) fun R H h => ?_
 repeat (first | refine bk ‹_› fun _ _ _ => ?_ | refine aT ‹_› ?_ | refine fW ‹_› rfl rfl fun _ _ => ?_ | refine j7 ?_)
 exact am ⟨(), rfl, ac.to (by assumption)⟩
theorem dm (k a b : Int) : Sp bN [vi k, vi a, vi b] emp (fun _ : Unit => dr (k, a, b)) (fun _ => emp) := by
 refine aU (L8 _ _ _) fun R H h => ?_
 repeat (first | refine bk ‹_› fun _ _ _ => ?_ | refine aT ‹_› ?_ | refine fW ‹_› rfl rfl fun _ _ => ?_ | refine j7 ?_)
 exact am ⟨(), rfl, ac.to (by assumption)⟩
def tab (t m : Nat) (sh sl : Nat) : SP := blk t (.cells false [vp m, vi sh, vi sl])
section
variable (t m : Nat) (sh sl : Nat) (μ : Mu) (who s i : Int)
theorem Jq : Sp fM [vp t] (tab t m sh sl) (fun _ : Unit => vi sl) (fun _ => tab t m sh sl) := by
 refine aU (pM _) fun R H h => ?_;unfold tab at h ⊢
 repeat refine ar ‹_› ae rfl ?_
 exact am ⟨(), rfl, ac.to (by assumption)⟩
theorem MN (hE : μ.N < 1099511627000) : Sp gl [vp t, vi who, vi s] (tab t m sh sl * bd m μ) (fun _ : Unit => vb (decide (μ.V (8, s, 0) = 0))) (fun _ => tab t m sh sl * bd m (μ.swp who (8, s, 0) 0 1)) := by
 refine aU (qR _ _ _) fun R H h => ?_;unfold tab at h ⊢
 repeat refine ar ‹_› ae rfl ?_
 refine af (by assumption) (xw s) fun _ _ _ => ?_
 repeat refine aG ‹_› ‹_› rfl ?_
 refine af (by assumption) (LT m μ who (8, s, 0) 0 1 (by omega)) fun _ _ _ => ?_;exact am ⟨(), rfl, ac.to (by assumption)⟩
theorem Hh (hE : μ.N < 1099511627000) : Sp e8 [vp t, vi who, vi s] (tab t m sh sl * bd m μ) (fun _ : Unit => .tuple #[]) (fun _ => tab t m sh sl * bd m ((μ.acc who 2 (8, s, 0)).put (8, s, 0) 0)) := by
 refine aU (ot _ _ _) fun R H h => ?_;unfold tab at h ⊢
 repeat refine ar ‹_› ae rfl ?_
 refine af (by assumption) (xw s) fun _ _ _ => ?_
 repeat refine aG ‹_› ‹_› rfl ?_
 refine af (by assumption) (GC m μ who (8, s, 0) 0 (by omega)) fun _ _ _ => ?_;exact am ⟨(), rfl, ac.to (by assumption)⟩
theorem X1 (hE : μ.N < 1099511627000) : Sp iG [vp t, vi who, vi s] (tab t m sh sl * bi m μ) (fun _ : Unit => vb (decide (μ.V (8, s, 0) = 0))) (fun _ => tab t m sh sl * bi m (μ.swp who (8, s, 0) 0 1)) := by
 refine aU (uE _ _ _) fun R H h => ?_;unfold tab at h ⊢
 repeat refine ar ‹_› ae rfl ?_
 refine af (by assumption) (dm 8 s 0) fun _ _ _ => ?_
 repeat refine aG ‹_› ‹_› rfl ?_
 refine af (by assumption) (BH m μ who (8, s, 0) 0 1 (by omega)) fun _ _ _ => ?_;exact am ⟨(), rfl, ac.to (by assumption)⟩
theorem L9 (hE : μ.N < 1099511627000) : Sp gk [vp t, vi who, vi s] (tab t m sh sl * bi m μ) (fun _ : Unit => .tuple #[]) (fun _ => tab t m sh sl * bi m ((μ.acc who 2 (8, s, 0)).put (8, s, 0) 0)) := by
 refine aU (qQ _ _ _) fun R H h => ?_;unfold tab at h ⊢
 repeat refine ar ‹_› ae rfl ?_
 refine af (by assumption) (dm 8 s 0) fun _ _ _ => ?_
 repeat refine aG ‹_› ‹_› rfl ?_
 refine af (by assumption) (wH m μ who (8, s, 0) 0 (by omega)) fun _ _ _ => ?_;exact am ⟨(), rfl, ac.to (by assumption)⟩
def lH (v : Nat) : Value := if v = 0 then .tuple #[vi 0, vi 0, vb false] else .tuple #[vi ((v / 4294967296 : Nat) - 1), vi (v % 4294967296 : Nat), vb true]
theorem Jp (hE : μ.N < 1099511627000) (hV : μ.V (10, s, i) < 18446744073709551616) :
 Sp gm [vp t, vi who, vi s, vi i] (tab t m sh sl * bd m μ) (fun _ : Unit => lH (μ.V (10, s, i))) (fun _ => tab t m sh sl * bd m (μ.acc who 1 (10, s, i))) := by
 refine aU (qS _ _ _ _) fun R H h => ?_;unfold tab at h ⊢
 repeat refine ar ‹_› ae rfl ?_
 refine af (by assumption) (B4 s i) fun _ _ _ => ?_
 repeat refine aG ‹_› ‹_› rfl ?_
 refine af (by assumption) (Bc m μ who (10, s, i) (by omega)) fun _ _ _ => ?_;refine aa (ab8 (b := 0)) ?_;refine bD (fun hc => ?_) (fun hc => ?_)
 ·have hc : μ.V (10, s, i) = 0 := by simpa using hc
  refine am ⟨(), by rw [lH, if_pos hc], ac.to (by assumption)⟩
 ·have hc : ¬ μ.V (10, s, i) = 0 := by simpa using hc
  refine aa (afR) ?_;refine aa (gK (by omega)) ?_;refine aa (fe (by omega) (by omega)) ?_;refine aa (aeZ hV) ?_;refine aa (gK (by omega)) ?_;refine am ⟨(), by rw [lH, if_neg hc], ac.to (by assumption)⟩
theorem Tj (hE : μ.N < 1099511627000) (hV : μ.V (10, s, i) < 18446744073709551616) :
 Sp iH [vp t, vi who, vi s, vi i] (tab t m sh sl * bi m μ) (fun _ : Unit => lH (μ.V (10, s, i))) (fun _ => tab t m sh sl * bi m (μ.acc who 1 (10, s, i))) := by
 refine aU (uF _ _ _ _) fun R H h => ?_;unfold tab at h ⊢
 repeat refine ar ‹_› ae rfl ?_
 refine af (by assumption) (dm 10 s i) fun _ _ _ => ?_
 repeat refine aG ‹_› ‹_› rfl ?_
 refine af (by assumption) (pG m μ who (10, s, i) (by omega)) fun _ _ _ => ?_;refine aa (ab8 (b := 0)) ?_;refine bD (fun hc => ?_) (fun hc => ?_)
 ·have hc : μ.V (10, s, i) = 0 := by simpa using hc
  refine am ⟨(), by rw [lH, if_pos hc], ac.to (by assumption)⟩
 ·have hc : ¬ μ.V (10, s, i) = 0 := by simpa using hc
  refine aa (afH hV) ?_;refine aa (gK (by omega)) ?_;refine aa (fe (by omega) (by omega)) ?_;refine aa (afL) ?_;refine aa (gK (by omega)) ?_;refine am ⟨(), by rw [lH, if_neg hc], ac.to (by assumption)⟩
end
def dF (v n : Int) : Int := (v % 18446744073709551616) % n
theorem eF {v n : Int} (h : 0 < n) : 0 ≤ dF v n ∧ dF v n < n := ⟨Int.emod_nonneg _ (by omega), Int.emod_lt_of_pos _ h⟩
theorem ca (v n : Int) (h0 : 0 < n) (h1 : n < 9223372036854775808) : Sp a9 [vi v, vi n] emp (fun _ : Unit => vi (dF v n)) (fun _ => emp) := by
 refine aU (IT _ _) fun R H h => ?_
 have e1 : bV (some .u64) (vi v) = some (vu (v % 18446744073709551616).toNat) := by
  simp only [bV];rw [Ch];have : 0 ≤ v % 18446744073709551616 := Int.emod_nonneg _ (by omega);show _ = some (Value.int .u64 (((v % 18446744073709551616).toNat : Nat) : Int));rw [Int.toNat_of_nonneg this]
 refine aa (e1) ?_;refine aa (de (by omega) (by omega)) ?_;refine aa (ir (by omega)) ?_;have hm := eF (v := v) h0
 have e2 : (((v % 18446744073709551616).toNat % n.toNat : Nat) : Int) = dF v n := by
  have : 0 ≤ v % 18446744073709551616 := Int.emod_nonneg _ (by omega);unfold dF;rw [Int.natCast_emod, Int.toNat_of_nonneg this, Int.toNat_of_nonneg (by omega)]
 refine aa (gK (by omega)) ?_;rw [e2];exact am ⟨(), rfl, ac.to (by assumption)⟩
structure gF where
 sh : Int
 sl : Int
 wk : Int
 wd : Int
 un : Nat
abbrev gF.cells (c : gF) : List Value := [vi c.sh, vi c.sl, vi c.wk, vi c.wd, vu c.un]
structure Cl where
 op : Int
 flow : Int
 a : Int
 b : Int
abbrev Cl.cells (x : Cl) : List Value := [vi x.op, vi x.flow, vi x.a, vi x.b]
instance : Enc Cl.cells 4 := ⟨fun _ => rfl, fun _ => rfl, by omega⟩
structure Sv where
 a : Option Addr
 n : Nat
 c : Nat
abbrev Sv.v (s : Sv) : Value := .slice s.a s.n s.c
abbrev agE (s : Sv) : List Value := [.slice s.a s.n s.c]
instance : Enc agE 1 := ⟨fun _ => rfl, fun _ => rfl, by omega⟩
def b5 (c : gF) : Bool := decide (1 ≤ c.sh ∧ c.sh ≤ 4 ∧ 1 ≤ c.sl ∧ c.sl ≤ 4 ∧ 1 ≤ c.wk ∧ c.wk ≤ 6 ∧ 0 ≤ c.wd ∧ c.wd ≤ 40 ∧ 1 ≤ c.un ∧ c.un ≤ 4611686018427387904)
theorem bW {c : gF} : b5 c = true ↔ (1 ≤ c.sh ∧ c.sh ≤ 4 ∧ 1 ≤ c.sl ∧ c.sl ≤ 4 ∧ 1 ≤ c.wk ∧ c.wk ≤ 6 ∧ 0 ≤ c.wd ∧ c.wd ≤ 40 ∧ 1 ≤ c.un ∧ c.un ≤ 4611686018427387904) := by unfold b5; exact decide_eq_true_iff
theorem j6 {c : gF} (h : ¬ (1 ≤ c.sh ∧ c.sh ≤ 4 ∧ 1 ≤ c.sl ∧ c.sl ≤ 4 ∧ 1 ≤ c.wk ∧ c.wk ≤ 6 ∧ 0 ≤ c.wd ∧ c.wd ≤ 40 ∧ 1 ≤ c.un ∧ c.un ≤ 4611686018427387904)) : b5 c = false := by unfold b5; exact iv h
theorem fi (x a b : Int) : Sp dK [vi x, vi a, vi b] emp (fun _ : Unit => vb (decide (a ≤ x ∧ x ≤ b))) (fun _ => emp) := by
 refine aU (yc _ _ _) fun R H h => ?_
 by_cases h1 : a ≤ x
 ·refine aa (jf h1) ?_
  refine gs ?_
  by_cases h2 : x ≤ b
  ·refine aa (Xm h2) ?_
   refine gs ?_;rw [i4 ⟨h1, h2⟩];exact am ⟨(), rfl, ac.to (by assumption)⟩
  ·refine aa (Xl h2) ?_
   refine gs ?_;rw [iv (fun h => h2 h.2)];exact am ⟨(), rfl, ac.to (by assumption)⟩
 ·refine aa (fT h1) ?_
  refine gs ?_;rw [iv (fun h => h1 h.1)];exact am ⟨(), rfl, ac.to (by assumption)⟩
theorem II (c : gF) : Sp lT [.agg (gF.cells c).toArray] emp (fun _ : Unit => vb (b5 c)) (fun _ => emp) := by
 refine aU (A9 _) fun R H h => ?_;refine aV h fun b H1 h1 => ?_;refine ar h1 aB rfl ?_;refine af h1 (fi c.sh 1 4) fun _ K0 k0 => ?_
 by_cases g0 : (1 : Int) ≤ c.sh ∧ c.sh ≤ 4
 case neg =>
  rw [iv g0];refine gs ?_;rw [j6 (by omega)];exact am ⟨(), rfl, ac.to (by assumption)⟩
 rw [i4 g0];refine gs ?_;refine ar k0 aB rfl ?_;refine gs ?_;refine af k0 (fi c.sl 1 4) fun _ K1 k1 => ?_
 by_cases g1 : (1 : Int) ≤ c.sl ∧ c.sl ≤ 4
 case neg =>
  rw [iv g1];refine gs ?_;rw [j6 (by omega)];exact am ⟨(), rfl, ac.to (by assumption)⟩
 rw [i4 g1];refine gs ?_;refine ar k1 aB rfl ?_;refine gs ?_;refine af k1 (fi c.wk 1 6) fun _ K2 k2 => ?_
 by_cases g2 : (1 : Int) ≤ c.wk ∧ c.wk ≤ 6
 case neg =>
  rw [iv g2];refine gs ?_;rw [j6 (by omega)];exact am ⟨(), rfl, ac.to (by assumption)⟩
 rw [i4 g2];refine gs ?_;refine ar k2 aB rfl ?_;refine gs ?_;refine af k2 (fi c.wd 0 40) fun _ K3 k3 => ?_
 by_cases g3 : (0 : Int) ≤ c.wd ∧ c.wd ≤ 40
 case neg =>
  rw [iv g3];refine gs ?_;rw [j6 (by omega)];exact am ⟨(), rfl, ac.to (by assumption)⟩
 rw [i4 g3];refine gs ?_;refine ar k3 aB rfl ?_;refine gs ?_
 by_cases g4 : (1 : Int) ≤ c.un
 case neg =>
  refine aa (fT g4) ?_;refine gs ?_;rw [j6 (by omega)];exact am ⟨(), rfl, ac.to (by assumption)⟩
 refine aa (jf g4) ?_;refine gs ?_;refine ar k3 aB rfl ?_;refine gs ?_
 by_cases g5 : (c.un : Int) ≤ 4611686018427387904
 case neg =>
  refine aa (Xl g5) ?_;refine gs ?_;rw [j6 (by omega)];exact am ⟨(), rfl, ac.to (by assumption)⟩
 refine aa (Xm g5) ?_;refine gs ?_;rw [bW.2 (by omega)];exact am ⟨(), rfl, ac.to (by assumption)⟩
theorem Cg (w : Int) : Sp nu [vi w] emp (fun x : Int => vi x) (fun _ => emp) := by
 refine aU (C6 _) fun R H h => ?_;refine aa (eZ) ?_;refine aa (jy) ?_;exact am ⟨_, rfl, h⟩
theorem Ud (w : Int) : Sp pn [vi w] emp (fun b : Nat => vp b) (fun _ => emp) := by
 refine aU (Hl _) fun R H h => ?_;refine af h (Cg w) fun x H1 h1 => ?_;refine u0 h1 fun mb H2 h2 => ?_;refine JA rfl ?_;refine aV h2 fun b H3 h3 => ?_;exact am ⟨b, rfl, h3.to⟩
theorem W8 : Sp rW [] emp (fun b : Nat => vp b) (fun _ => emp) := by
 refine aU Iw fun R H h => ?_;refine u0 h fun mb H2 h2 => ?_;refine j7 ?_;refine aV h2 fun b H3 h3 => ?_;exact am ⟨b, rfl, h3.to⟩
theorem TO (w : Int) : Sp pj [vi w] emp (fun b : Nat => vp b) (fun _ => emp) := by
 refine aU (Ha _) fun R H h => ?_;refine af h (Ud w) fun x H1 h1 => ?_;refine af h1 W8 fun y H2 h2 => ?_;refine j7 ?_;refine aV h2 fun b H3 h3 => ?_;exact am ⟨b, rfl, h3.to⟩
theorem XY (m : Nat) (s : Int) : Sp r4 [vp m, vi s] emp (fun b : Nat => vp b) (fun _ => emp) := by
 refine aU (IV _ _) fun R H h => ?_;refine aa (eZ) ?_;refine aa (jy) ?_;refine u0 h fun mb H2 h2 => ?_;refine u0 h2 fun mc H3 h3 => ?_;refine j7 ?_;refine aV h3 fun b H4 h4 => ?_;exact am ⟨b, rfl, h4.to⟩
structure Lf where
 k : Int
 i : Int
 b : Bool
abbrev Lf.cells (x : Lf) : List Value := [vw x.k, vi x.i, vb x.b]
instance : Enc Lf.cells 3 := ⟨fun _ => rfl, fun _ => rfl, by omega⟩
def B5 (t : Nat) (lv : Value) (s : Nat) (nv : Value) (m : List Int) : SP := blk t (.cells false [lv, vi s, nv]) * ts 1 bH nv m
theorem YM (n : Int) : Sp r8 [vi n] emp (fun b : Nat => vp b) (fun _ => emp) := by
 refine aU (Js _) fun R H h => ?_;refine aa (eZ) ?_;refine aa (jy) ?_;obtain ⟨k, hk⟩ : ∃ k : Nat, min (max n 1) 16 = k := ⟨(min (max n 1) 16).toNat, by omega⟩;rw [hk]
 have hk1 : 1 ≤ k := by omega
 have hk16 : k ≤ 16 := by omega
 refine Hj (enc := Lf.cells) (⟨0, 0, false⟩ : Lf) h rfl (by unfold room; omega) (by omega) fun lb H1 h1 => ?_;refine j7 ?_;refine aV h1 fun t H2 h2 => ?_;refine ag (B6 _ _ _ H2) ?_
 -- the nodes
 have nodes : ∀ (s : Nat) (H : AH), s ≤ 32 → ac (B5 t (vs lb k 3) s (.slice none 0 0) [] * R) H → wp (pP (.pointer none) (vp t) H) fun v' H' => ∃ b : Nat, v' = vp b ∧ ac (emp * R) H' := by
  intro s H hs h;refine ag (B7 _ _ H) ?_;unfold B5 at h;refine ar h ae rfl ?_;refine aa (p6 (by omega) (by omega)) ?_;refine ag (B9 _ _ _ _ H) ?_
  have loop : ∀ (d i : Nat) (nv : Value) (m : List Int) (H : AH), i + d = 2 * s → m.length = i → ac (blk t (.cells false [vs lb k 3, vi s, nv]) * ts 1 bH nv m * R) H → wp (lJ (.pointer none) (vp t) (vi (2 * (s : Int))) (vi i) H) fun v' H' => ∃ b : Nat, v' = vp b ∧ ac (emp * R) H' := by
   intro d
   induction d with
   | zero =>
    intro i nv m H hi hm h;refine ag (pQ _ _ _ _ H) ?_;refine aa (bF (by omega)) ?_;refine gs ?_;refine ag (wN _ _ H) ?_;refine ag (B8 _ _ H) ?_;exact am ⟨t, rfl, h.to⟩
   | succ d ih =>
    intro i nv m H hi hm h;refine ag (pQ _ _ _ _ H) ?_;refine aa (cy (by omega)) ?_;refine gs ?_;refine ag (Ca _ _ _ _ H) ?_;refine ar h ae rfl ?_;refine Ht h fun b0 H3 h3 => ?_;refine eA (-1 : Int) h3 rfl ?_ (by omega) fun a c H4 h4 => ?_
    ·unfold room; omega
    refine bh h4 ae rfl rfl fun H5 h5 => ?_;refine ag (Cb _ _ _ _ H5) ?_;refine aa (aJ (by omega) (by omega)) ?_;refine ih (i + 1) (.slice a (m.length + 1) c) (m ++ [-1]) H5 (by omega) (by simp; omega) h5.to
  exact loop (2 * s) 0 (.slice none 0 0) [] H (by omega) rfl h
 -- the size
 have size : ∀ (d s : Nat) (H : AH), 16 ≤ s + d → 1 ≤ s → s ≤ 32 → ac (B5 t (vs lb k 3) s (.slice none 0 0) [] * R) H → wp (jN (vi k) (.pointer none) (vp t) H) fun v' H' => ∃ b : Nat, v' = vp b ∧ ac (emp * R) H' := by
  intro d
  induction d with
  | zero =>
   intro s H hd hs1 hs h;refine ag (n7 _ _ _ H) ?_;have h' := h;unfold B5 at h';refine ar h' ae rfl ?_;refine aa (bF (by omega)) ?_;refine gs ?_;refine ag (lI _ _ H) ?_;exact nodes s H hs h
  | succ d ih =>
   intro s H hd hs1 hs h;refine ag (n7 _ _ _ H) ?_;have h' := h;unfold B5 at h';refine ar h' ae rfl ?_
   by_cases hlt : (s : Int) < k
   ·refine aa (cy hlt) ?_
    refine gs ?_;refine ag (yR _ _ _ H) ?_;refine ar h' ae rfl ?_;refine aa (p6 (by omega) (by omega)) ?_;refine bh h' ae rfl rfl fun H3 h3 => ?_;refine ih (s * 2) H3 (by omega) (by omega) (by omega) ?_;unfold B5;rw [show (((s * 2 : Nat) : Int)) = (s : Int) * 2 from by omega];exact h3.to
   ·refine aa (bF hlt) ?_
    refine gs ?_;refine ag (lI _ _ H) ?_;exact nodes s H hs h
 refine size 16 1 H2 (by omega) (by omega) (by omega) ?_;unfold B5;have h3 := cK 1 bH h2;exact h3.to
abbrev nQ (b : Nat) : List Value := [vp b]
instance : Enc nQ 1 := ⟨fun _ => rfl, fun _ => rfl, by omega⟩
theorem Td (n w : Int) : Sp pf [vi n, vi w] emp (fun b : Nat => vp b) (fun _ => emp) := by
 refine aU (GK _ _) fun R H h => ?_;refine aa (eZ) ?_;refine aa (jy) ?_;obtain ⟨k, hk⟩ : ∃ k : Nat, min (max n 1) 16 = k := ⟨(min (max n 1) 16).toNat, by omega⟩;rw [hk]
 have hk16 : k ≤ 16 := by omega
 refine af h (YM k) fun tb H1 h1 => ?_;refine j7 ?_;refine aV h1 fun q H2 h2 => ?_;refine ag (yj _ _ _ _ H2) ?_;refine ag (ym _ _ _ _ _ H2) ?_
 have loop : ∀ (d i : Nat) (nv : Value) (m : List Nat) (H : AH), i + d = k → m.length = i → ac (blk q (.cells false [nv, vp tb]) * ts 1 nQ nv m * R) H → wp (jJ (vi w) (.pointer none) (vp q) (vi k) (vi i) H) fun v' H' => ∃ b : Nat, v' = vp b ∧ ac (emp * R) H' := by
  intro d
  induction d with
  | zero =>
   intro i nv m H hi hm h;refine ag (nT _ _ _ _ _ H) ?_;refine aa (bF (by omega)) ?_;refine gs ?_;refine ag (ud _ _ H) ?_;refine ag (yl _ _ H) ?_;exact am ⟨q, rfl, h.to⟩
  | succ d ih =>
   intro i nv m H hi hm h;refine ag (nT _ _ _ _ _ H) ?_;refine aa (cy (by omega)) ?_;refine gs ?_;refine ag (yn _ _ _ _ _ H) ?_;refine bn ae ?_;refine aP h rfl ?_;refine af h (TO w) fun sb H3 h3 => ?_;refine aG h3 h rfl ?_;refine Ht h3 fun b0 H4 h4 => ?_;refine eA (sb : Nat) h4 rfl ?_ (by omega) fun a c H5 h5 => ?_
   ·unfold room; omega
   refine bh h5 ae rfl rfl fun H6 h6 => ?_;refine ag (yo _ _ _ _ _ H6) ?_;refine aa (aJ (by omega) (by omega)) ?_;exact ih (i + 1) (.slice a (m.length + 1) c) (m ++ [sb]) H6 (by omega) (by simp; omega) h6.to
 refine loop k 0 (.slice none 0 0) [] H2 (by omega) rfl ?_;have h3 := cK 1 nQ h2;exact h3.to
theorem U1 (c : gF) : Sp rV [.agg (gF.cells c).toArray] emp (fun b : Nat => vp b) (fun _ => emp) := by
 refine aU (HS _) fun R H h => ?_;refine aV h fun cb H1 h1 => ?_;refine ar h1 aB rfl ?_;refine ar h1 aB rfl ?_;refine af h1 (Td c.sh c.wd) fun q H2 h2 => ?_;refine u0 h2 fun mb H3 h3 => ?_;refine u0 h3 fun mc H4 h4 => ?_;refine j7 ?_;refine aV h4 fun b H5 h5 => ?_;exact am ⟨b, rfl, h5.to⟩
theorem Mt {cl : TCls} {w : Nat} (n : Nat) (h : n ≠ 0) : aj cl .rem (vu w) (.int .u64 (n : Int)) = some (vu (w % n)) := ir h
theorem zW (b b2 : Nat) (c : gF) (u : Nat) (hu : 1 ≤ u ∧ u ≤ 4611686018427387904) {R : SP} {H : AH} (h : ac (blk b2 (.cells false [vi 0, vi 0, vi 0, vi 0, vw 0]) * (blk b (.cells false (gF.cells c)) * R)) H) :
 wp (hU (vp b) (vp b2) (vu u) H) fun v' H' => ∃ c' : gF, v' = .agg (gF.cells c').toArray ∧ ac (pu (b5 c' = true) * R) H' := by
 refine ag (uc _ _ _ H) ?_;refine ar h aB rfl ?_;refine af h (ca c.sh 4 (by omega) (by omega)) fun _ H1 h1 => ?_;have m1 := eF (v := c.sh) (n := 4) (by omega);refine aa (aJ (by omega) (by omega)) ?_;refine bn aB ?_;refine aP h1 rfl ?_;refine aG h h1 rfl ?_;refine af h1 (ca c.sl 4 (by omega) (by omega)) fun _ H2 h2 => ?_;have m2 := eF (v := c.sl) (n := 4) (by omega);refine aa (aJ (by omega) (by omega)) ?_;refine bn aB ?_;refine aP h2 rfl ?_;refine aG h h2 rfl ?_;refine aG h1 h2 rfl ?_;refine af h2 (ca c.wk 6 (by omega) (by omega)) fun _ H3 h3 => ?_;have m3 := eF (v := c.wk) (n := 6) (by omega);refine aa (aJ (by omega) (by omega)) ?_;refine bn aB ?_;refine aP h3 rfl ?_;refine aG h h3 rfl ?_;refine aG h1 h3 rfl ?_;refine aG h2 h3 rfl ?_;refine af h3 (ca c.wd 12 (by omega) (by omega)) fun _ H4 h4 => ?_;have m4 := eF (v := c.wd) (n := 12) (by omega);refine j7 ?_;refine fW h4 rfl rfl fun H5 h5 => ?_;refine aT h5 ?_;refine am ⟨⟨1 + dF c.sh 4, 1 + dF c.sl 4, 1 + dF c.wk 6, dF c.wd 12, u⟩, rfl, ?_⟩;exact ac.pu.2 ⟨bW.2 (by dsimp only; omega), h5.to⟩
theorem IU (c : gF) : Sp lU [.agg (gF.cells c).toArray] emp (fun c' : gF => .agg (gF.cells c').toArray) (fun c' => pu (b5 c' = true)) := by
 refine aW fun R H h => ?_;rw [fg] at h;refine aZ (fun r => Bf _ H) ?_;refine aV h fun b H1 h1 => ?_;refine bk h1 fun b2 H2 h2 => ?_;refine ar h2 aB rfl ?_;refine aa (Mt 5000 (by omega)) ?_;refine aa (ej (a := 1) (by omega)) ?_;refine ag (ub _ _ _ H2) ?_;refine ar h2 aB rfl ?_;refine aa (Mt 4 (by omega)) ?_;refine aa (dy) ?_;refine bD (fun _ => ?_) (fun _ => ?_)
 ·refine ar h2 aB rfl ?_
  refine aa (Mt 4611686018427387904 (by omega)) ?_;have hm := Nat.mod_lt c.un (show 4611686018427387904 > 0 by omega)
  generalize c.un % 4611686018427387904 = u at hm
  refine aa (ej (a := 1) (by omega)) ?_;exact zW b b2 c _ (by omega) h2
 ·have hm := Nat.mod_lt c.un (show 5000 > 0 by omega)
  exact zW b b2 c _ (by omega) h2
section
variable {R : SP} {H : AH}
theorem UW {b2 b3 : Nat} {y y2 : Cl} {P : SP} (h : ac (blk b3 (.cells false (Cl.cells y)) * (blk b2 (.cells false (Cl.cells y2)) * P)) H) : wp (cB (vp b2) (vp b3) H) fun v' H' => ∃ y : Cl, v' = .agg (Cl.cells y).toArray ∧ ac P H' := by
 refine ag (yg _ _ H) ?_;refine aT h ?_;refine fW h rfl rfl fun H2 h2 => ?_;refine aT h2 ?_;exact am ⟨y, rfl, h2.to⟩
end
theorem Ta (x : Cl) : Sp pe [.agg (Cl.cells x).toArray] emp (fun y : Cl => .agg (Cl.cells y).toArray) (fun _ => emp) := by
 refine aW fun R H h => ?_;rw [fg] at h;refine aZ (fun r => GJ _ H) ?_;refine aV h fun b1 H1 h1 => ?_;refine bk h1 fun b2 H2 h2 => ?_;refine ar h2 aB rfl ?_;refine af h2 (ca x.flow 23 (by omega) (by omega)) fun _ H3 h3 => ?_;simp only [fg];refine aa (dy) ?_;refine bD (fun _ => ?_) (fun _ => ?_)
 ·refine aT h3 ?_
  refine fW h3 rfl rfl fun H4 h4 => ?_;refine aT h4 ?_;exact am ⟨x, rfl, h4.to⟩
 refine ar h3 aB rfl ?_;refine af h3 (ca x.flow 5 (by omega) (by omega)) fun _ H4 h4 => ?_;refine j7 ?_;refine bk h4 fun b3 H5 h5 => ?_;refine fW h5 rfl rfl fun H6 h6 => ?_
 -- what each kind ends with
 have fin : ∀ (y : Cl) {H7 : AH}, ac (blk b3 (.cells false (Cl.cells y)) * (blk b2 (.cells false (Cl.cells ⟨0, 0, 0, 0⟩)) * R)) H7 → wp (cB (vp b2) (vp b3) H7) fun v' H' => ∃ y : Cl, v' = .agg (Cl.cells y).toArray ∧ ac R H' := fun y {H7} h7 => UW (y2 := ⟨0, 0, 0, 0⟩) h7;refine ag (yf _ _ _ H6) ?_;refine ar h6 aB rfl ?_;refine af h6 (ca x.op 10 (by omega) (by omega)) fun _ H7 h7 => ?_
 generalize dF x.op 10 = o
 refine ag (yh _ _ _ _ H7) ?_;refine aa (dy) ?_;refine ag (yi _ _ _ _ _ H7) ?_;refine bD (fun _ => ?_) (fun _ => ?_)
 ·refine ar h7 aB rfl ?_
  refine af h7 (ca x.a 5 (by omega) (by omega)) fun _ H8 h8 => ?_;have m1 := eF (v := x.a) (n := 5) (by omega);refine aa (aJ (by omega) (by omega)) ?_;refine bn aB ?_;refine aP h8 rfl ?_;refine aG h7 h8 rfl ?_;refine af h8 (ca x.b 3 (by omega) (by omega)) fun _ H9 h9 => ?_;have m2 := eF (v := x.b) (n := 3) (by omega);refine aa (aJ (by omega) (by omega)) ?_;refine bh h9 aB rfl rfl fun H10 h10 => ?_;refine bh h10 aB rfl rfl fun H11 h11 => ?_;refine bh h11 aB rfl rfl fun H12 h12 => ?_;exact fin ⟨1, dF x.flow 5, 1 + dF x.a 5, 1 + dF x.b 3⟩ h12.to
 refine aa (dy) ?_;refine ag (vT _ _ _ _ _ H7) ?_;refine bD (fun _ => ?_) (fun _ => ?_)
 ·refine bh h7 aB rfl rfl fun H8 h8 => ?_
  exact fin ⟨2, dF x.flow 5, 0, 0⟩ h8.to
 have tail : ∀ q : Bool, wp (iT (vp b1) (vp b2) (vp b3) (vi o) (vb q) H7) fun v' H' => ∃ y : Cl, v' = .agg (Cl.cells y).toArray ∧ ac R H' := by
  intro q;refine ag (vU _ _ _ _ _ H7) ?_;refine bD (fun _ => ?_) (fun _ => ?_)
  ·refine j7 ?_
   refine fW h7 rfl rfl fun H8 h8 => ?_;exact fin ⟨4, 0, 0, 0⟩ h8.to
  refine aa (dy) ?_;refine bD (fun _ => ?_) (fun _ => ?_)
  ·refine ar h7 aB rfl ?_
   refine af h7 (ca x.a 6 (by omega) (by omega)) fun _ H8 h8 => ?_;refine j7 ?_;refine fW h8 rfl rfl fun H9 h9 => ?_;exact fin ⟨5, 0, dF x.a 6, 0⟩ h9.to
  refine aa (dy) ?_;refine bD (fun _ => ?_) (fun _ => ?_)
  ·refine j7 ?_
   refine fW h7 rfl rfl fun H8 h8 => ?_;exact fin ⟨6, 0, 0, 0⟩ h8.to
  refine ar h7 aB rfl ?_;refine af h7 (ca x.a 9 (by omega) (by omega)) fun _ H8 h8 => ?_;have m1 := eF (v := x.a) (n := 9) (by omega);refine aa (aJ (by omega) (by omega)) ?_;refine bn aB ?_;refine aP h8 rfl ?_;refine aG h7 h8 rfl ?_;refine af h8 (ca x.b 1000 (by omega) (by omega)) fun _ H9 h9 => ?_;refine bh h9 aB rfl rfl fun H10 h10 => ?_;refine bh h10 aB rfl rfl fun H11 h11 => ?_;refine bh h11 aB rfl rfl fun H12 h12 => ?_;refine ar h12 aB rfl ?_;refine af h12 (ca x.a 13 (by omega) (by omega)) fun _ H13 h13 => ?_;refine aa (dy) ?_;refine bD (fun _ => ?_) (fun _ => ?_)
  ·refine ar h13 aB rfl ?_
   refine af h13 (ca x.a 65536 (by omega) (by omega)) fun _ H14 h14 => ?_;have m2 := eF (v := x.a) (n := 65536) (by omega);refine aa (aJ (by omega) (by omega)) ?_;refine bh h14 aB rfl rfl fun H15 h15 => ?_;exact fin ⟨3, dF x.flow 5, 1 + dF x.a 65536, dF x.b 1000⟩ h15.to
  ·exact fin ⟨3, dF x.flow 5, 1 + dF x.a 9, dF x.b 1000⟩ h13.to
 refine aa (dy) ?_;refine bD (fun _ => tail _) (fun _ => ?_);refine aa (dy) ?_;exact tail _
structure Pk where
 flow : Int
 len : Int
 mark : Int
abbrev Pk.cells (x : Pk) : List Value := [vi x.flow, vi x.len, vi x.mark]
instance : Enc Pk.cells 3 := ⟨fun _ => rfl, fun _ => rfl, by omega⟩
structure Ob where
 flow : Int
 most : Int
 r : Nat
structure Pt where
 step : Int
 who : Int
 place : Int
 e : Int
abbrev mU (e : Int) : List Value := [vi e, .slice none 0 0, vi 0, vw 0]
abbrev Pt.cells (x : Pt) : List Value := [vi x.step, vi x.who, vi x.place, vi x.e, .slice none 0 0, vi 0, vw 0]
instance : Enc Pt.cells 7 := ⟨fun _ => rfl, fun _ => rfl, by omega⟩
structure aE where
 c : gF
 μ : Mu
 obs : List (Ob × List Pk)
 nx : Int → Option Nat
 places : Int → Option Int
 pts : List Pt
def cU (n : Int) : Nat := (min (max n 1) 8).toNat
theorem qw (n : Int) : 1 ≤ cU n ∧ cU n ≤ 8 ∧ (cU n : Int) = min (max n 1) 8 := by unfold cU; omega
abbrev GH : Pk := ⟨0, 0, 0⟩
abbrev JI (k : Int) : Value := vi k
instance : KeyE .int JI where
 eq a b := by
  simp only [jg, JI, if_true]
  congr 1
 ok a := rfl
def bY (m i rp : Nat) (cs : List Pk) : SP := ex fun cv : Value => blk rp (.cells false [vp m, vi i, cv]) * ts 3 Pk.cells cv cs
def kW (m : Nat) : Nat → List (Nat × List Pk) → SP
 | _, [] => emp
 | i, p :: ps => bY m i p.1 p.2 * kW m (i + 1) ps
theorem Jb (m : Nat) : ∀ (ps : List (Nat × List Pk)) (i : Nat) (q : Nat × List Pk), kW m i (ps ++ [q]) = kW m i ps * bY m (i + ps.length) q.1 q.2 := by
 intro ps
 induction ps with
 | nil => intro i q; show bY m i q.1 q.2 * emp = emp * bY m (i + 0) q.1 q.2; rw [dB, fg]; rfl
 | cons p ps ih =>
  intro i q;show bY m i p.1 p.2 * kW m (i + 1) (ps ++ [q]) = bY m i p.1 p.2 * kW m (i + 1) ps * _;rw [ih, ak, List.length_cons, show i + 1 + ps.length = i + (ps.length + 1) from by omega]
abbrev Ia (x : Ob × Nat) : List Value := [vi x.1.flow, vi x.1.most, vu x.1.r, vp x.2]
instance : Enc Ia 4 := ⟨fun _ => rfl, fun _ => rfl, by omega⟩
structure PIds where
 m : Nat
 ib : Nat
 tb : Nat
 po : Nat
 co : Nat
 ov : Value
 pm : Nat
 pv : Value
 nm : Nat
 rp : List Nat
def jD (ib m nm : Nat) (c : gF) (nx : Int → Option Nat) : SP :=
 blk ib (.cells false [vp m, vi c.sh, .map (some nm), .func (.func aY) #[vi 9] #[], .func (.func aY) #[vi 14] #[]]) * Un JI nm (fun k => (nx k).map fun n => vu n)
def aK (p : Nat) (g : PIds) (σ : aE) : SP :=
 blk p (.cells false [vp g.m, vp g.ib, vp g.tb, vp g.po, vp g.co, vi σ.c.sh, vi σ.c.sl, vi σ.c.wk, vi σ.c.wd, vu σ.c.un, g.ov, .map (some g.pm), g.pv]) *
 (bd g.m σ.μ * (jD g.ib g.m g.nm σ.c σ.nx * (tab g.tb g.m σ.c.sh.toNat σ.c.sl.toNat * (ts 4 Ia g.ov ((σ.obs.map fun x => x.1).zip g.rp) * (kW g.m 0 (g.rp.zip (σ.obs.map fun x => x.2)) *
 (Un JI g.pm (fun k => (σ.places k).map fun n => vi n) * ts 7 Pt.cells g.pv σ.pts))))))
def ez (p : Nat) (σ : aE) : SP := ex fun g : PIds => pu (g.rp.length = σ.obs.length) * aK p g σ
theorem lz {p : Nat} {σ : aE} {R : SP} {H : AH} (h : ac (ez p σ * R) H) : ∃ g : PIds, g.rp.length = σ.obs.length ∧ ac (aK p g σ * R) H := by
 obtain ⟨g, h1⟩ := ac.ex.1 h;rw [ak, ac.pu] at h1;exact ⟨g, h1⟩
theorem nA {p : Nat} {σ : aE} {R : SP} {H : AH} (g : PIds) (hl : g.rp.length = σ.obs.length) (h : ac (aK p g σ * R) H) : ac (ez p σ * R) H :=
 ac.ex.2 ⟨g, by rw [ak]; exact ac.pu.2 ⟨hl, h⟩⟩
abbrev aE.new (c : gF) : aE := ⟨c, ⟨fun _ => 0, [], 0⟩, [], fun _ => none, fun _ => none, []⟩
theorem Xx : Sp vO [] emp (fun b : Nat => vp b) (fun b => bd b ⟨fun _ => 0, [], 0⟩) := by
 refine aU LE fun R H h => ?_;refine u0 h fun mb H2 h2 => ?_;refine j7 ?_;refine aV h2 fun b H3 h3 => ?_;refine am ⟨b, rfl, ac.ex.2 ⟨(mb, .slice none 0 0, [], [], 0), ?_⟩⟩;rw [ak, ac.pu];refine ⟨⟨.nil, fun _ => rfl, bm _⟩, ?_⟩;have := P3 5 h3;show ac (blk b (.cells false [.map (some mb), .slice none 0 0]) * (blk mb (.map [] 0) * sl 5 (.slice none 0 0) 0 []) * R) H3;exact this.to
theorem Ln (m : Nat) (c : gF) (hc : b5 c = true) : Sp o8 [vp m, vi c.sh] emp (fun b : Nat => vp b) (fun b => ex fun nm : Nat => jD b m nm c fun _ => none) := by
 have hc := bW.1 hc;refine aU (Gf _ _) fun R H h => ?_;refine aa (eZ) ?_;refine aa (jy) ?_;rw [show min (max c.sh 1) 4 = c.sh from by omega];refine u0 h fun mb H2 h2 => ?_;refine j7 ?_;refine aV h2 fun b H3 h3 => ?_;refine am ⟨b, rfl, ac.ex.2 ⟨mb, ?_⟩⟩;unfold jD;have h4 : ac (blk mb (.map [] 0) * (blk b (.cells false [vp m, vi c.sh, .map (some mb), .func (.func aY) #[vi 9] #[], .func (.func aY) #[vi 14] #[]]) * (emp * R))) H3 := h3.to;have h5 := Po JI h4;show ac (blk b (.cells false [vp m, vi c.sh, .map (some mb), .func (.func aY) #[vi 9] #[], .func (.func aY) #[vi 14] #[]]) * Un JI mb (fun _ => none) * R) H3;exact h5.to
theorem MO (m : Nat) (c : gF) (hc : b5 c = true) : Sp pk [vp m, vi c.sh, vi c.sl] emp (fun b : Nat => vp b) (fun b => tab b m c.sh.toNat c.sl.toNat) := by
 have hc := bW.1 hc;refine aU (Hg _ _ _) fun R H h => ?_;refine aa (eZ) ?_;refine aa (jy) ?_;refine aa (eZ) ?_;refine aa (jy) ?_;rw [show min (max c.sh 1) 4 = ((c.sh.toNat : Nat) : Int) from by omega, show min (max c.sl 1) 4 = ((c.sl.toNat : Nat) : Int) from by omega];refine j7 ?_;refine aV h fun b H3 h3 => ?_;exact am ⟨b, rfl, by unfold tab; exact h3.to⟩
theorem LX (c : gF) (hc : b5 c = true) : Sp pc [.agg (gF.cells c).toArray] emp (fun b : Nat => .tuple #[vp b, vi 0]) (fun b => ez b (aE.new c)) := by
 refine aU (GD _) fun R H h => ?_;refine aV h fun cb H1 h1 => ?_;refine aT h1 ?_;refine af h1 (II c) fun _ H2 h2 => ?_;rw [hc];refine gs ?_;rw [Bool.not_true];refine gs ?_;refine af h2 Xx fun m H3 h3 => ?_;refine ar h3 aB rfl ?_;refine af h3 (Ln m c hc) fun ib H4 h4 => ?_;obtain ⟨nm, h4b⟩ := ac.ex.1 h4;refine bn aB ?_;refine aP h4b rfl ?_;refine aG h3 h4b rfl ?_;refine bn aB ?_;refine aP h4b rfl ?_;refine aG h3 h4b rfl ?_;refine af h4b (MO m c hc) fun tb H5 h5 => ?_;refine bn aB ?_;refine aP h5 rfl ?_;refine aG h3 h5 rfl ?_;refine aG h4b h5 rfl ?_;refine af h5 (XY m c.wk) fun pb H6 h6 => ?_;refine aT h6 ?_;refine dw h3 h6 rfl ?_;refine dw h4b h6 rfl ?_;refine dw h5 h6 rfl ?_;refine af h6 (U1 c) fun kb H7 h7 => ?_;refine aT h7 ?_;refine dw h3 h7 rfl ?_;refine dw h4b h7 rfl ?_;refine dw h5 h7 rfl ?_;refine dw h6 h7 rfl ?_;refine u0 h7 fun mb H8 h8 => ?_;refine j7 ?_;refine aV h8 fun b H9 h9 => ?_;refine am ⟨b, rfl, ?_⟩;refine nA ⟨m, ib, tb, pb, kb, .slice none 0 0, mb, .slice none 0 0, nm, []⟩ rfl ?_;have h10 := cK 4 Ia (cK 7 Pt.cells h9);have h11 : ac (blk mb (.map [] 0) * (ts 4 Ia (.slice none 0 0) [] * (ts 7 Pt.cells (.slice none 0 0) [] * (blk b (.cells false [vp m, vp ib, vp tb, vp pb, vp kb, vi c.sh, vi c.sl, vi c.wk, vi c.wd, vu c.un, .slice none 0 0, .map (some mb), .slice none 0 0]) * (bd m ⟨fun _ => 0, [], 0⟩ * (jD ib m nm c (fun _ => none) * (tab tb m c.sh.toNat c.sl.toNat * (emp * R)))))))) H9 := h10.to;have h12 := Po JI h11;show ac (blk b (.cells false [vp m, vp ib, vp tb, vp pb, vp kb, vi c.sh, vi c.sl, vi c.wk, vi c.wd, vu c.un, .slice none 0 0, .map (some mb), .slice none 0 0]) * (bd m ⟨fun _ => 0, [], 0⟩ * (jD ib m nm c (fun _ => none) * (tab tb m c.sh.toNat c.sl.toNat * (ts 4 Ia (.slice none 0 0) [] * (emp * (Un JI mb (fun _ => none) * ts 7 Pt.cells (.slice none 0 0) [])))))) * R) H9;exact h12.to
section
variable (p : Nat) (σ : aE)
theorem Yk (m i : Nat) (most : Int) : Sp r7 [vp m, vi i, vi most] emp (fun b : Nat => vp b) (fun b => bY m i b (List.replicate (cU most) GH)) := by
 obtain ⟨q1, q2, q3⟩ := qw most;refine aU (Ja _ _ _) fun R H h => ?_;refine aa (eZ) ?_;refine aa (jy) ?_;rw [← q3];refine Hj (enc := Pk.cells) GH h rfl (by unfold room; omega) (by omega) fun cb H1 h1 => ?_;refine j7 ?_;refine aV h1 fun b H2 h2 => ?_;refine am ⟨b, rfl, ?_⟩;unfold bY;exact ac.ex.2 ⟨vs cb (cU most) 3, h2.to⟩
abbrev aE.make (σ : aE) (who : Int) (o : Ob) : aE := { σ with μ := σ.μ.acc who 6 (13, σ.obs.length, 0), obs := σ.obs ++ [(o, List.replicate (cU o.most) GH)] }
theorem LW (who : Int) (o : Ob) (hE : σ.μ.N < 1099511627000) (ho : σ.obs.length < 1000000) : Sp gh [vp p, vi who, .agg (#[vi o.flow, vi o.most, vu o.r] : Array Value)] (ez p σ) (fun _ : Unit => vi σ.obs.length) (fun _ => ez p (σ.make who o)) := by
 refine aW fun R H h => ?_;obtain ⟨g, hg, h0⟩ := lz h
 have hz : ((σ.obs.map fun x => x.1).zip g.rp).length = σ.obs.length := by simp [hg]
 unfold aK at h0;refine aZ (fun r => qM _ _ _ H) ?_;refine aV (l := [vi o.flow, vi o.most, vu o.r]) h0 fun ob H1 h1 => ?_;refine ar h1 ae rfl ?_;refine sH (s := g.ov) h1 ?_;rw [hz];refine ar h1 ae rfl ?_;refine j7 ?_;refine af h1 ((vL g.m σ.μ who (13, σ.obs.length, 0) (by omega)).imp fun _ R H h => jF (N' := σ.μ.N + 2) (by simp) h) fun _ H2 h2 => ?_;refine bn ae ?_;refine aP h2 rfl ?_;refine aT h2 ?_;refine ar h2 ae rfl ?_;refine ar h2 aB rfl ?_;refine af h2 (Yk g.m σ.obs.length o.most) fun rb H3 h3 => ?_;refine aG h3 h2 rfl ?_;refine dw h3 h2 rfl ?_;refine j7 ?_;refine Ht h3 fun b0 H4 h4 => ?_;refine eA ((o, rb) : Ob × Nat) h4 rfl ?_ (by omega) fun a cc H5 h5 => ?_
 ·unfold room; omega
 refine bh h5 ae rfl rfl fun H6 h6 => ?_;refine am ⟨(), rfl, ?_⟩;refine nA { g with ov := .slice a (((σ.obs.map fun x => x.1).zip g.rp).length + 1) cc, rp := g.rp ++ [rb] } (by simp [aE.make, hg]) ?_;unfold aK aE.make;dsimp only
 have e1 : ((σ.obs ++ [(o, List.replicate (cU o.most) GH)]).map fun x => x.1).zip (g.rp ++ [rb]) = ((σ.obs.map fun x => x.1).zip g.rp) ++ [(o, rb)] := by
  rw [IC, List.zip_append (by simp [hg])]
  rfl
 have e2 : (g.rp ++ [rb]).zip ((σ.obs ++ [(o, List.replicate (cU o.most) GH)]).map fun x => x.2) = (g.rp.zip (σ.obs.map fun x => x.2)) ++ [(rb, List.replicate (cU o.most) GH)] := by
  rw [IC, List.zip_append (by simp [hg])]
  rfl
 have e3 : 0 + (g.rp.zip (σ.obs.map fun x => x.2)).length = σ.obs.length := by simp [hg]
 rw [e1, e2, Jb, e3];exact h6.to
theorem wL : Sp XD [.slice none 0 0] emp (fun _ : Unit => .slice none 0 0) (fun _ => emp) := by
 refine aU (ad5 _) fun R H h => ?_;refine aa (v := vb true) rfl ?_;refine gs ?_;exact am ⟨(), rfl, ac.to (by assumption)⟩
theorem CM (e : Int) : Sp pd [.agg (mU e).toArray] emp (fun _ : Unit => .agg (mU e).toArray) (fun _ => emp) := by
 refine aU (GE _) fun R H h => ?_;refine aV h fun b1 H1 h1 => ?_;refine bk h1 fun b2 H2 h2 => ?_;refine ar h2 aB rfl ?_;refine af h2 wL fun _ H3 h3 => ?_;refine bh h3 aB rfl rfl fun H4 h4 => ?_;refine aT h4 ?_;refine fW h4 rfl rfl fun H5 h5 => ?_;refine aT h5 ?_;exact am ⟨(), rfl, h5.to⟩
abbrev aE.note (σ : aE) (step who e : Int) : aE := { σ with pts := σ.pts ++ [⟨step, who, (σ.places who).getD 0, e⟩] }
theorem YY {P R P2 R2 : SP} {H H2 : AH} {b : Nat} {f : Int → Option Value} {zero : Value} {kk : OV} {Q : Value → AH → Prop} (k : Int) (h : ac P H) [m : Mp P b JI f R] (h2 : ac P2 H2) [m2 : Mp P2 b JI f R2] (hk : wp kk Q) :
 wp (bE (b9 .int zero (.map (some b)) (vi k) false H) (b9 .int zero (.map (some b)) (vi k) false H2) kk) Q := by
 have one : ∀ {P R : SP} {H : AH} (h : ac P H) [m : Mp P b JI f R], b9 .int zero (.map (some b)) (vi k) false H = some ((f k).getD zero) := by
  intro P R H h m;obtain ⟨v, H', e, q⟩ : wp ((b9 .int zero (.map (some b)) (vi k) false H).bind fun v => some (v, H)) (fun v _ => v = (f k).getD zero) := Qg (ek := JI) k h (am rfl);obtain ⟨v', e1, e2⟩ := az.1 e
  have : v' = v := by simpa using congrArg (fun x => x.map Prod.fst) e2
  have e1' : b9 .int zero (.map (some b)) (vi k) false H = some v' := e1;rw [e1', this, q]
 exact Ep (by rw [one h, one h2]) hk
end
theorem jw {cl : TCls} {a b : Int} (h : b ≠ 0) : aj cl .rem (vi a) (vi b) = some (vi (a.tmod b)) := by
 simp only [aj, kX, if_true];rw [if_neg h]
theorem afC {a b : Nat} : eN [vu a, vu b] = some (vu (max a b)) := by
 simp only [eN]
 congr 2
 split <;> omega
abbrev qW (x : Ob) : List Value := [vi x.flow, vi x.most, vu x.r]
instance : Enc qW 3 := ⟨fun _ => rfl, fun _ => rfl, by omega⟩
abbrev Kk (n : Nat) : List Value := [vu n]
instance : Enc Kk 1 := ⟨fun _ => rfl, fun _ => rfl, by omega⟩
def fA : List (Int × Int) → Int → Int
 | [], _ => 0
 | p :: ps, who => if (ps.any fun q => q.1 == who) = true then fA ps who else if p.1 = who then p.2 else 0
def dN (l : List (Int × Int)) : List Int := l.flatMap fun p => [p.1, p.2]
def CI (l : List (Int × Nat)) (k : Int) : Option Nat := (l.find? fun p => p.1 == k).map (·.2)
def tJ (x : Pt) : List Pt → List Pt
 | [] => [x]
 | y :: l => if y.step ≤ x.step ∨ (l.any fun z => decide (z.step ≤ x.step)) = true then y :: tJ x l else x :: y :: l
def bq (l : List Pt) : List Pt := l.foldl (fun acc x => tJ x acc) []
def cn (m i rp : Nat) (cs : List Pk) : SP := ex fun cv : Value => blk rp (.cells false [vp m, vi i, vi cs.length, cv]) * ts 3 Pk.cells cv cs
def ia (m : Nat) : Nat → List (Nat × List Pk) → SP
 | _, [] => emp
 | i, p :: ps => cn m i p.1 p.2 * ia m (i + 1) ps
theorem Jc (m : Nat) : ∀ (ps : List (Nat × List Pk)) (i : Nat) (q : Nat × List Pk), ia m i (ps ++ [q]) = ia m i ps * cn m (i + ps.length) q.1 q.2 := by
 intro ps
 induction ps with
 | nil => intro i q; show cn m i q.1 q.2 * emp = emp * cn m (i + 0) q.1 q.2; rw [dB, fg]; rfl
 | cons p ps ih =>
  intro i q;show cn m i p.1 p.2 * ia m (i + 1) (ps ++ [q]) = cn m i p.1 p.2 * ia m (i + 1) ps * _;rw [ih, ak, List.length_cons, show i + 1 + ps.length = i + (ps.length + 1) from by omega]
def gc (ib m : Nat) (sh : Int) (nx : Int → Option Nat) (L : Nat) : SP := ex fun g : Value × Value × List (Int × Nat) =>
 pu ((∀ k, CI g.2.2 k = nx k) ∧ g.2.2.length ≤ L) * (blk ib (.cells false [vp m, vi sh, g.1, g.2.1]) * (ts 1 bH g.1 (g.2.2.map (·.1)) * ts 1 Kk g.2.1 (g.2.2.map (·.2))))
theorem mE {ib m : Nat} {sh : Int} {nx : Int → Option Nat} {L : Nat} {R : SP} {H : AH} (h : ac (gc ib m sh nx L * R) H) :
 ∃ (kv nv : Value) (ns : List (Int × Nat)), ((∀ k, CI ns k = nx k) ∧ ns.length ≤ L) ∧ ac (blk ib (.cells false [vp m, vi sh, kv, nv]) * (ts 1 bH kv (ns.map (·.1)) * (ts 1 Kk nv (ns.map (·.2)) * R))) H := by
 obtain ⟨⟨kv, nv, ns⟩, h1⟩ := ac.ex.1 h;rw [ak, ac.pu] at h1;exact ⟨kv, nv, ns, h1.1, h1.2.to⟩
theorem ge {ib m : Nat} {sh : Int} {nx : Int → Option Nat} {L : Nat} {R : SP} {H : AH} {kv nv : Value} {ns : List (Int × Nat)} (hn : (∀ k, CI ns k = nx k) ∧ ns.length ≤ L)
 (h : ac (blk ib (.cells false [vp m, vi sh, kv, nv]) * (ts 1 bH kv (ns.map (·.1)) * (ts 1 Kk nv (ns.map (·.2)) * R))) H) : ac (gc ib m sh nx L * R) H := by
 refine ac.ex.2 ⟨(kv, nv, ns), ?_⟩;rw [ak, ac.pu];exact ⟨hn, h.to⟩
theorem np {ib m : Nat} {sh : Int} {nx : Int → Option Nat} {L L' : Nat} {R : SP} {H : AH} (hL : L ≤ L') (h : ac (gc ib m sh nx L * R) H) : ac (gc ib m sh nx L' * R) H := by
 obtain ⟨g, h1⟩ := ac.ex.1 h;rw [ak, ac.pu] at h1;exact ac.ex.2 ⟨g, by rw [ak]; exact ac.pu.2 ⟨⟨h1.1.1, ep h1.1.2 hL⟩, h1.2⟩⟩
structure XIds where
 m : Nat
 ib : Nat
 tb : Nat
 po : Nat
 co : Nat
 ov : Value
 rv : Value
 rp : List Nat
 wv : Value
 ws : List (Int × Int)
 pv : Value
def aw (x : Nat) (g : XIds) (σ : aE) : SP :=
 blk x (.cells false [vi σ.c.sh, vi σ.c.sl, vi σ.c.wk, vi σ.c.wd, vu σ.c.un, vp g.m, vp g.ib, vp g.tb, vp g.po, vp g.co, g.ov, g.rv, g.wv, g.pv]) *
 (bi g.m σ.μ * (gc g.ib g.m σ.c.sh σ.nx σ.μ.N * (tab g.tb g.m σ.c.sh.toNat σ.c.sl.toNat *
 (ts 3 qW g.ov (σ.obs.map fun x => x.1) * (ts 1 nQ g.rv g.rp * (ia g.m 0 (g.rp.zip (σ.obs.map fun x => x.2)) * (ts 1 bH g.wv (dN g.ws) * ts 7 Pt.cells g.pv (bq σ.pts))))))))
def fy (g : XIds) (σ : aE) : Prop := g.rp.length = σ.obs.length ∧ (∀ k, fA g.ws k = (σ.places k).getD 0) ∧ g.ws.length ≤ σ.μ.N
def bC (x : Nat) (σ : aE) : SP := ex fun g : XIds => pu (fy g σ) * aw x g σ
theorem gD {p : Nat} {σ : aE} {R : SP} {H : AH} (h : ac (bC p σ * R) H) : ∃ g : XIds, fy g σ ∧ ac (aw p g σ * R) H := by
 obtain ⟨g, h1⟩ := ac.ex.1 h;rw [ak, ac.pu] at h1;exact ⟨g, h1⟩
theorem dY {p : Nat} {σ : aE} {R : SP} {H : AH} (g : XIds) (hl : fy g σ) (h : ac (aw p g σ * R) H) : ac (bC p σ * R) H :=
 ac.ex.2 ⟨g, by rw [ak]; exact ac.pu.2 ⟨hl, h⟩⟩
theorem GR (m : Nat) (c : gF) (hc : b5 c = true) : Sp kH [vp m, vi c.sh] emp (fun b : Nat => vp b) (fun b => blk b (.cells false [vp m, vi c.sh, .slice none 0 0, .slice none 0 0])) := by
 have hc := bW.1 hc;refine aU (yK _ _) fun R H h => ?_;refine aa (eZ) ?_;refine aa (jy) ?_;rw [show min (max c.sh 1) 4 = c.sh from by omega];refine j7 ?_;refine aV h fun b H3 h3 => ?_;exact am ⟨b, rfl, h3.to⟩
theorem GT (m : Nat) (c : gF) (hc : b5 c = true) : Sp kJ [vp m, vi c.sh, vi c.sl] emp (fun b : Nat => vp b) (fun b => tab b m c.sh.toNat c.sl.toNat) := by
 have hc := bW.1 hc;refine aU (yM _ _ _) fun R H h => ?_;refine aa (eZ) ?_;refine aa (jy) ?_;refine aa (eZ) ?_;refine aa (jy) ?_;rw [show min (max c.sh 1) 4 = ((c.sh.toNat : Nat) : Int) from by omega, show min (max c.sl 1) 4 = ((c.sl.toNat : Nat) : Int) from by omega];refine j7 ?_;refine aV h fun b H3 h3 => ?_;exact am ⟨b, rfl, by unfold tab; exact h3.to⟩
theorem I4 (m : Nat) (w : Int) : Sp lX [vp m, vi w] emp (fun b : Nat => vp b) (fun _ => emp) := by
 refine aU (BD _ _) fun R H h => ?_;refine aa (eZ) ?_;refine aa (jy) ?_;refine j7 ?_;refine aV h fun b H3 h3 => ?_;exact am ⟨b, rfl, h3.to⟩
theorem Te (w : Int) : Sp pg [vi w] emp (fun x : Int => vi x) (fun _ => emp) := by
 refine aU (GM _) fun R H h => ?_;refine aa (eZ) ?_;refine aa (jy) ?_;exact am ⟨_, rfl, h⟩
theorem GN (n w : Int) : Sp XA [vi n, vi w] emp (fun b : Nat => vp b) (fun _ => emp) := by
 refine aU (ad0 _ _) fun R H h => ?_;refine j7 ?_;refine aV h fun q H2 h2 => ?_;refine ag (Tn _ _ _ _ H2) ?_;refine ag (Tp _ _ _ _ _ H2) ?_;obtain ⟨k, hk⟩ : ∃ k : Nat, min (max n 1) 16 = k := ⟨(min (max n 1) 16).toNat, by omega⟩
 have hk16 : k ≤ 16 := by omega
 have loop : ∀ (d i : Nat) (nv : Value) (m : List Nat) (H : AH), i + d = k → m.length = i → ac (blk q (.cells false [nv]) * ts 1 nQ nv m * R) H → wp (GV (vi n) (vi w) (.pointer none) (vp q) (vi i) H) fun v' H' => ∃ b : Nat, v' = vp b ∧ ac (emp * R) H' := by
  intro d
  induction d with
  | zero =>
   intro i nv m H hi hm h;refine ag (D0 _ _ _ _ _ H) ?_;refine aa (eZ) ?_;refine aa (jy) ?_;refine aa (bF (by omega)) ?_;refine gs ?_;refine ag (I7 _ _ H) ?_;refine ag (To _ _ H) ?_;exact am ⟨q, rfl, h.to⟩
  | succ d ih =>
   intro i nv m H hi hm h;refine ag (D0 _ _ _ _ _ H) ?_;refine aa (eZ) ?_;refine aa (jy) ?_;refine aa (cy (by omega)) ?_;refine gs ?_;refine ag (Tq _ _ _ _ _ H) ?_;refine bn ae ?_;refine aP h rfl ?_;refine af h (Te w) fun x H3 h3 => ?_;refine aG h3 h rfl ?_;refine j7 ?_;refine aV h3 fun sb H3b h3b => ?_;refine Ht h3b fun b0 H4 h4 => ?_;refine eA (sb : Nat) h4 rfl ?_ (by omega) fun a c H5 h5 => ?_
   ·unfold room; omega
   refine bh h5 ae rfl rfl fun H6 h6 => ?_;refine ag (Tt _ _ _ _ _ H6) ?_;refine aa (aJ (by omega) (by omega)) ?_;exact ih (i + 1) (.slice a (m.length + 1) c) (m ++ [sb]) H6 (by omega) (by simp; omega) h6.to
 refine loop k 0 (.slice none 0 0) [] H2 (by omega) rfl ?_;have h3 := cK 1 nQ h2;exact h3.to
theorem I3 (c : gF) : Sp lW [.agg (gF.cells c).toArray] emp (fun b : Nat => vp b) (fun _ => emp) := by
 refine aU (BC _) fun R H h => ?_;refine aV h fun cb H1 h1 => ?_;refine ar h1 aB rfl ?_;refine ar h1 aB rfl ?_;refine af h1 (GN c.sh c.wd) fun q H2 h2 => ?_;refine j7 ?_;refine aV h2 fun b H5 h5 => ?_;exact am ⟨b, rfl, h5.to⟩
theorem Xv {b : Nat} {R : SP} {H : AH} (h : ac (blk b (.cells false [.slice none 0 0, .slice none 0 0, .slice none 0 0]) * R) H) : ac (bi b ⟨fun _ => 0, [], 0⟩ * R) H := by
 refine ac.ex.2 ⟨[], ?_⟩;rw [ak, ac.pu];refine ⟨⟨fun _ => rfl, bm _⟩, ac.ex.2 ⟨(.slice none 0 0, .slice none 0 0, .slice none 0 0), ?_⟩⟩;have h1 := cK 3 EN (cK 1 Ib (cK 5 Ev.cells h));exact h1.to
theorem GS (c : gF) (hc : b5 c = true) : Sp kI [.agg (gF.cells c).toArray] emp (fun b : Nat => vp b) (fun b => bC b (aE.new c)) := by
 refine aU (yL _) fun R H h => ?_;refine aV h fun cb H1 h1 => ?_;refine j7 ?_;refine aV h1 fun m H2 h2 => ?_;refine aT h2 ?_;refine ar h2 aB rfl ?_;refine af h2 (GR m c hc) fun ib H3 h3 => ?_;refine dw h3 h2 rfl ?_;refine bn aB ?_;refine aP h3 rfl ?_;refine aG h2 h3 rfl ?_;refine bn aB ?_;refine aP h3 rfl ?_;refine aG h2 h3 rfl ?_;refine af h3 (GT m c hc) fun tb H4 h4 => ?_;refine dw h4 h2 rfl ?_;refine bn aB ?_;refine aP h4 rfl ?_;refine aG h2 h4 rfl ?_;refine aG h3 h4 rfl ?_;refine af h4 (I4 m c.wk) fun pb H5 h5 => ?_;refine dw h5 h2 rfl ?_;refine aT h5 ?_;refine dw h2 h5 rfl ?_;refine dw h3 h5 rfl ?_;refine dw h4 h5 rfl ?_;refine af h5 (I3 c) fun kb H6 h6 => ?_;refine dw h6 h2 rfl ?_;refine j7 ?_;refine aV h6 fun b H7 h7 => ?_;refine am ⟨b, rfl, ?_⟩;refine dY ⟨m, ib, tb, pb, kb, .slice none 0 0, .slice none 0 0, [], .slice none 0 0, [], .slice none 0 0⟩ ⟨rfl, fun _ => rfl, bm _⟩ ?_;have h8 := Xv (b := m) (R := blk b (.cells false [vi c.sh, vi c.sl, vi c.wk, vi c.wd, vu c.un, vp m, vp ib, vp tb, vp pb, vp kb, .slice none 0 0, .slice none 0 0, .slice none 0 0, .slice none 0 0]) * (tab tb m c.sh.toNat c.sl.toNat * (blk ib (.cells false [vp m, vi c.sh, .slice none 0 0, .slice none 0 0]) * R))) (ac.to h7);have h8a := cK 1 bH (cK 1 Kk h8);have h8b := ge (ib := ib) (m := m) (sh := c.sh) (nx := fun _ => none) (L := 0) (kv := .slice none 0 0) (nv := .slice none 0 0) (ns := []) (R := bi m ⟨fun _ => 0, [], 0⟩ * (blk b (.cells false [vi c.sh, vi c.sl, vi c.wk, vi c.wd, vu c.un, vp m, vp ib, vp tb, vp pb, vp kb, .slice none 0 0, .slice none 0 0, .slice none 0 0, .slice none 0 0]) * (tab tb m c.sh.toNat c.sl.toNat * R))) (H := H7) ⟨fun _ => rfl, bm _⟩ (show ac (blk ib (.cells false [vp m, vi c.sh, .slice none 0 0, .slice none 0 0]) * (ts 1 bH (.slice none 0 0) [] * (ts 1 Kk (.slice none 0 0) [] * (bi m ⟨fun _ => 0, [], 0⟩ * (blk b (.cells false [vi c.sh, vi c.sl, vi c.wk, vi c.wd, vu c.un, vp m, vp ib, vp tb, vp pb, vp kb, .slice none 0 0, .slice none 0 0, .slice none 0 0, .slice none 0 0]) * (tab tb m c.sh.toNat c.sl.toNat * R)))))) H7 from h8a.to);have h9 := cK 3 qW (cK 1 nQ (cK 1 bH (cK 7 Pt.cells h8b)));unfold aw
 show ac (blk b (.cells false [vi c.sh, vi c.sl, vi c.wk, vi c.wd, vu c.un, vp m, vp ib, vp tb, vp pb, vp kb, .slice none 0 0, .slice none 0 0, .slice none 0 0, .slice none 0 0]) * (bi m ⟨fun _ => 0, [], 0⟩ * (gc ib m c.sh (fun _ => none) 0 * (tab tb m c.sh.toNat c.sl.toNat *
  (ts 3 qW (.slice none 0 0) [] * (ts 1 nQ (.slice none 0 0) [] * (emp * (ts 1 bH (.slice none 0 0) [] * ts 7 Pt.cells (.slice none 0 0) [])))))))  * R) H7
 exact h9.to
theorem L1 {cl : TCls} {a b : Int} (h : b ≠ 0) (h0 : -9223372036854775808 ≤ a.tdiv b) (h1 : a.tdiv b < 9223372036854775808) : aj cl .quo (vi a) (vi b) = some (vi (a.tdiv b)) := by
 simp only [aj, kX, if_true];rw [if_neg h, mW h0 h1]
theorem tQ {m : Nat} {V : bK → Nat} {E : List Ev} {N N' : Nat} {R : SP} {H : AH} (hN : N ≤ N') (h : ac (bi m ⟨V, E, N⟩ * R) H) : ac (bi m ⟨V, E, N'⟩ * R) H := by
 obtain ⟨al, h1⟩ := ac.ex.1 h;rw [ak, ac.pu] at h1;exact ac.ex.2 ⟨al, by rw [ak]; exact ac.pu.2 ⟨⟨h1.1.1, ep h1.1.2 hN⟩, h1.2⟩⟩
def dn (flow : Int) (obj : Nat) : Nat := (flow + 1).toNat * 4294967296 + obj
section
variable (t m : Nat) (sh sl : Nat) (μ : Mu) (who s i flow : Int) (obj : Nat)
theorem T7 (hE : μ.N < 1099511627000) (hf : 0 ≤ flow ∧ flow ≤ 1048576) (ho : obj < 4294967296) :
 Sp g6 [vp t, vi who, vi s, vi i, vi flow, vi obj] (tab t m sh sl * bd m μ) (fun _ : Unit => vb true) (fun _ => tab t m sh sl * bd m ((μ.acc who 2 (10, s, i)).put (10, s, i) (dn flow obj))) := by
 refine aU (sG _ _ _ _ _ _) fun R H h => ?_;unfold tab at h ⊢;refine aa (bF (by omega)) ?_;refine gs ?_;refine aa (gO ?_) ?_
 ·omega
 refine gs ?_;refine aa (bF ?_) ?_
 ·omega
 refine gs ?_;refine aa (fT ?_) ?_
 ·omega
 refine gs ?_;refine bn ae ?_;refine aP h rfl ?_;refine af h (B4 s i) fun _ H1 h1 => ?_;refine aG h1 h rfl ?_;refine aa (aJ (by omega) (by omega)) ?_;refine aa (de (by omega) (by omega)) ?_
 have hn : (flow + 1).toNat ≤ 1048577 := by omega
 have e1 : aj .other .shl (vu (flow + 1).toNat) (vw 32) = some (vu ((flow + 1).toNat * 4294967296)) := by
  have := Df (cl := .other) (a := (flow + 1).toNat) (k := .u64) (n := 32) (by omega);simp only [Nat.reducePow] at this;rw [Nat.mod_eq_of_lt (by omega)] at this;exact this
 refine aa (e1) ?_;refine aa (de (by omega) (by omega)) ?_;rw [show ((obj : Nat) : Int).toNat = obj from tI obj]
 have e2 : aj .other .or (vu ((flow + 1).toNat * 4294967296)) (vu obj) = some (vu (dn flow obj)) := by
  rw [UN (by omega) (by omega)]
  congr 3
  have := Nat.two_pow_add_eq_or_of_lt (i := 32) (b := obj) (by simp only [Nat.reducePow]; omega) (flow + 1).toNat;simp only [Nat.reducePow] at this;rw [dn, Nat.mul_comm, ← this]
 refine aa (e2) ?_;refine af h1 (GC m μ who (10, s, i) (dn flow obj) (by omega)) fun _ H2 h2 => ?_;exact am ⟨(), rfl, h2.to⟩
theorem aa6 (hE : μ.N < 1099511627000) (hf : 0 ≤ flow ∧ flow ≤ 1048576) (ho : obj < 4294967296) :
 Sp ju [vp t, vi who, vi s, vi i, vi flow, vi obj] (tab t m sh sl * bi m μ) (fun _ : Unit => vb true) (fun _ => tab t m sh sl * bi m ((μ.acc who 2 (10, s, i)).put (10, s, i) (dn flow obj))) := by
 refine aU (wD _ _ _ _ _ _) fun R H h => ?_;unfold tab at h ⊢;refine aa (bF (by omega)) ?_;refine gs ?_;refine aa (gO ?_) ?_
 ·omega
 refine gs ?_;refine aa (bF ?_) ?_
 ·omega
 refine gs ?_;refine aa (de (by omega) (by omega)) ?_;rw [show ((obj : Nat) : Int).toNat = obj from tI obj];refine gs ?_;refine aa (fT ?_) ?_
 ·omega
 refine gs ?_;refine bn ae ?_;refine aP h rfl ?_;refine af h (dm 10 s i) fun _ H1 h1 => ?_;refine aG h1 h rfl ?_;refine aa (aJ (by omega) (by omega)) ?_;refine aa (de (by omega) (by omega)) ?_
 have hn : (flow + 1).toNat ≤ 1048577 := by omega
 refine aa (afD) ?_;rw [Nat.mod_eq_of_lt (by omega)];refine aa (de (by omega) (by omega)) ?_;rw [show ((obj : Nat) : Int).toNat = obj from tI obj];refine aa (ej (by omega)) ?_;refine af h1 (wH m μ who (10, s, i) (dn flow obj) (by omega)) fun _ H2 h2 => ?_;exact am ⟨(), rfl, h2.to⟩
end
section
variable (p : Nat) (σ : aE)
theorem TJ (m i : Nat) (most : Int) : Sp lY [vp m, vi i, vi most] emp (fun b : Nat => vp b) (fun b => cn m i b (List.replicate (cU most) GH)) := by
 obtain ⟨q1, q2, q3⟩ := qw most;refine aU (BE _ _ _) fun R H h => ?_;refine aa (eZ) ?_;refine aa (jy) ?_;rw [← q3];refine Hj (enc := Pk.cells) GH h rfl (by unfold room; omega) (by omega) fun cb H1 h1 => ?_;refine j7 ?_;refine aV h1 fun b H2 h2 => ?_;refine am ⟨b, rfl, ?_⟩;unfold cn;refine ac.ex.2 ⟨vs cb (cU most) 3, ?_⟩;rw [List.length_replicate];exact h2.to
theorem afB (who : Int) (o : Ob) (hE : σ.μ.N < 1099511627000) (ho : σ.obs.length < 1000000) : Sp iF [vp p, vi who, .agg [vi o.flow, vi o.most, vu o.r].toArray] (bC p σ) (fun _ : Unit => vi σ.obs.length) (fun _ => bC p (σ.make who o)) := by
 refine aW fun R H h => ?_;obtain ⟨g, ⟨hg, hg2⟩, h0⟩ := gD h;unfold aw at h0;refine aZ (fun r => uD _ _ _ H) ?_;refine aV (l := [vi o.flow, vi o.most, vu o.r]) h0 fun ob H1 h1 => ?_;refine ar h1 ae rfl ?_;refine sH (s := g.ov) h1 ?_;rw [qK];refine bn ae ?_;refine aP h1 rfl ?_;refine af h1 (dm 13 σ.obs.length 0) fun _ H2 h2 => ?_;refine aG h2 h1 rfl ?_;refine af h2 ((Uj g.m σ.μ who 6 (13, σ.obs.length, 0) (by omega)).imp fun _ R H h => tQ (N' := σ.μ.N + 2) (by simp) h) fun _ H3 h3 => ?_;refine ar h3 ae rfl ?_;refine aT h3 ?_;refine Ht h3 fun b0 H4 h4 => ?_;refine eA (o : Ob) h4 rfl ?_ (by omega) fun a cc H5 h5 => ?_
 ·unfold room; simp only [qK]; omega
 refine bn ae ?_;refine aP h5 rfl ?_;refine aG h4 h5 rfl ?_;refine bn ae ?_;refine aP h5 rfl ?_;refine aG h4 h5 rfl ?_;refine bn aB ?_;refine aP h5 rfl ?_;refine aG h4 h5 rfl ?_;refine af h5 (TJ g.m σ.obs.length o.most) fun rb H6 h6 => ?_;refine aG h6 h5 rfl ?_;refine Ht h6 fun b1 H7 h7 => ?_;refine eA (rb : Nat) h7 rfl ?_ (by omega) fun a2 c2 H8 h8 => ?_
 ·unfold room; omega
 refine bh h8 ae rfl rfl fun H9 h9 => ?_;refine bh h9 ae rfl rfl fun H10 h10 => ?_;refine am ⟨(), rfl, ?_⟩;refine dY { g with ov := .slice a ((σ.obs.map fun x => x.1).length + 1) cc, rv := .slice a2 (g.rp.length + 1) c2, rp := g.rp ++ [rb] } ⟨by simp [aE.make, hg], hg2.1, ep hg2.2 (by simp [aE.make])⟩ ?_;unfold aw aE.make;dsimp only
 have e2 : (g.rp ++ [rb]).zip ((σ.obs ++ [(o, List.replicate (cU o.most) GH)]).map fun x => x.2) = (g.rp.zip (σ.obs.map fun x => x.2)) ++ [(rb, List.replicate (cU o.most) GH)] := by
  rw [IC, List.zip_append (by simp [hg])]
  rfl
 have e1 : (σ.obs ++ [(o, List.replicate (cU o.most) GH)]).map (fun x => x.1) = (σ.obs.map fun x => x.1) ++ [o] := by rw [IC]; rfl
 have e3 : 0 + (g.rp.zip (σ.obs.map fun x => x.2)).length = σ.obs.length := by simp [hg]
 rw [e1, e2, Jc, e3];dsimp only;have h11 := np (L' := σ.μ.N + 2) (by omega) (ac.fr (A := gc g.ib g.m σ.c.sh σ.nx σ.μ.N) h10);exact h11.to
theorem IZ (u : Nat) (w : Int) (hu : 1 ≤ u ∧ u ≤ 4611686018427387904) (hw : 1 ≤ w ∧ w ≤ 65536) : Sp lV [vu u, vi w] emp (fun _ : Unit => .tuple #[vu (max (u / w.toNat) 1), vb true]) (fun _ => emp) := by
 refine aU (Bg _ _) fun R H h => ?_;refine aa (bF (by omega)) ?_;refine gs ?_;refine aa (gO ?_) ?_
 ·omega
 refine gs ?_;refine aa (bF ?_) ?_
 ·omega
 refine gs ?_;refine aa (gO ?_) ?_
 ·omega
 refine gs ?_;refine aa (de (by omega) (by omega)) ?_;refine aa (De (by omega) (by omega)) ?_;refine aa (afC (b := 1)) ?_;exact am ⟨(), rfl, h.to⟩
abbrev aE.lay (σ : aE) (f w most : Int) : aE :=
 { σ.make 0 ⟨f, most, max (σ.c.un / w.toNat) 1⟩ with
  μ := ((σ.make 0 ⟨f, most, max (σ.c.un / w.toNat) 1⟩).μ.acc 0 2 (10, f.tmod σ.c.sh, f.tdiv σ.c.sh)).put (10, f.tmod σ.c.sh, f.tdiv σ.c.sh) (dn f σ.obs.length) }
theorem aaQ (x : Nat) (f w most : Int) (hc : b5 σ.c = true) (hE : σ.μ.N < 1099511620000) (ho : σ.obs.length < 1000000) (hf : 0 ≤ f ∧ f ≤ 1048576) (hw : 1 ≤ w ∧ w ≤ 65536) :
 Sp kC [.agg [vp p, vp x].toArray, vi f, vi w, vi most] (ez p σ * bC x σ) (fun _ : Unit => vb true) (fun _ => ez p (σ.lay f w most) * bC x (σ.lay f w most)) := by
 have hr := bW.1 hc;have q0 : 0 ≤ f.tdiv σ.c.sh := Int.tdiv_nonneg hf.1 (by omega);have q1 : f.tdiv σ.c.sh ≤ f := Int.tdiv_le_self _ hf.1;refine aU (xR _ _ _ _) fun R H h => ?_;refine aV (l := [vp p, vp x]) h fun b H1 h1 => ?_;refine ar h1 aB rfl ?_;obtain ⟨g, hg, k1⟩ := gD (p := x) (σ := σ) (R := blk b (.cells false [vp p, vp x]) * (ez p σ * R)) (H := H1) h1.to;unfold aw at k1;refine Jz k1 ae ?_;refine bk h1 fun b2 H2 h2 => ?_;refine fW h2 rfl rfl fun H3 h3 => ?_;refine ar h3 aB rfl ?_;refine af h3 (IZ σ.c.un w ⟨by omega, by omega⟩ hw) fun _ H4 h4 => ?_;refine aa (v := vu (max (σ.c.un / w.toNat) 1)) rfl ?_;refine aa (v := vb true) rfl ?_;refine j7 ?_;refine bk h4 fun b3 H5 h5 => ?_;refine fW h5 rfl rfl fun H6 h6 => ?_;refine ar h6 aB rfl ?_;refine aT h6 ?_;refine af h6 (LW p σ 0 ⟨f, most, max (σ.c.un / w.toNat) 1⟩ (by omega) ho) fun _ H7 h7 => ?_;refine bn aB ?_;refine aP h7 rfl ?_;refine aG h6 h7 rfl ?_;refine aT h7 ?_;refine dw h6 h7 rfl ?_;refine af h7 (afB x σ 0 ⟨f, most, max (σ.c.un / w.toNat) 1⟩ (by omega) ho) fun _ H8 h8 => ?_;refine aa (bf rfl) ?_;refine gs ?_;refine ar h8 aB rfl ?_;obtain ⟨gp, hgp, k8⟩ := lz (p := p) (σ := σ.make 0 ⟨f, most, max (σ.c.un / w.toNat) 1⟩) (R := blk b (.cells false [vp p, vp x]) * (blk b2 (.cells false (gF.cells σ.c)) * (bC x (σ.make 0 ⟨f, most, max (σ.c.un / w.toNat) 1⟩) * R))) (H := H8) h8.to;unfold aK at k8;refine gs ?_;refine ar k8 ae rfl ?_;refine gs ?_;refine ar k8 aB rfl ?_;refine gs ?_;refine aa (jw (by omega)) ?_;refine gs ?_;refine ar k8 aB rfl ?_;refine gs ?_;refine aa (L1 (by omega) (by omega) (by omega)) ?_;refine gs ?_;refine af k8 (T7 gp.tb gp.m σ.c.sh.toNat σ.c.sl.toNat (σ.make 0 ⟨f, most, max (σ.c.un / w.toNat) 1⟩).μ 0 (f.tmod σ.c.sh) (f.tdiv σ.c.sh) f σ.obs.length (by simp [aE.make]; omega) hf (by omega)) fun _ H9 k9 => ?_
 have h9 : ac (ez p (σ.lay f w most) * (blk b (.cells false [vp p, vp x]) * (blk b2 (.cells false (gF.cells σ.c)) * (bC x (σ.make 0 ⟨f, most, max (σ.c.un / w.toNat) 1⟩) * R)))) H9 := by
  refine nA gp hgp ?_;unfold aK;exact k9.to
 refine gs ?_;refine ar h9 aB rfl ?_;obtain ⟨gx, hgx, l9⟩ := gD (p := x) (σ := σ.make 0 ⟨f, most, max (σ.c.un / w.toNat) 1⟩) (R := blk b (.cells false [vp p, vp x]) * (blk b2 (.cells false (gF.cells σ.c)) * (ez p (σ.lay f w most) * R))) (H := H9) h9.to;unfold aw at l9;refine gs ?_;refine ar l9 ae rfl ?_;refine gs ?_;refine ar l9 aB rfl ?_;refine gs ?_;refine aa (jw (by omega)) ?_;refine gs ?_;refine ar l9 aB rfl ?_;refine gs ?_;refine aa (L1 (by omega) (by omega) (by omega)) ?_;refine gs ?_;refine af l9 (aa6 gx.tb gx.m σ.c.sh.toNat σ.c.sl.toNat (σ.make 0 ⟨f, most, max (σ.c.un / w.toNat) 1⟩).μ 0 (f.tmod σ.c.sh) (f.tdiv σ.c.sh) f σ.obs.length (by simp [aE.make]; omega) hf (by omega)) fun _ H10 l10 => ?_
 have h10 : ac (bC x (σ.lay f w most) * (blk b (.cells false [vp p, vp x]) * (blk b2 (.cells false (gF.cells σ.c)) * (ez p (σ.lay f w most) * R)))) H10 := by
  refine dY gx ⟨hgx.1, hgx.2.1, ep hgx.2.2 (by simp [aE.lay, aE.make])⟩ ?_;unfold aw;have l11 := np (L' := σ.μ.N + 2 + 2) (by omega) (ac.fr (A := gc gx.ib gx.m σ.c.sh σ.nx (σ.μ.N + 2)) l10);exact l11.to
 refine gs ?_;exact am ⟨(), rfl, h10.to⟩
end
def aE.made (c : gF) : Nat → aE
 | 0 => aE.new c
 | f + 1 => if (f : Int).tdiv c.sh < c.sl then (aE.made c f).lay f (1 + f) (2 + (f : Int).tmod 2) else aE.made c f
theorem LC (c : gF) : ∀ n, (aE.made c n).c = c ∧ (aE.made c n).μ.N ≤ 4 * n ∧ (aE.made c n).obs.length ≤ n := by
 intro n
 induction n with
 | zero => exact ⟨rfl, bm _, bm _⟩
 | succ n ih =>
  obtain ⟨h1, h2, h3⟩ := ih;unfold aE.made
  split
  ·refine ⟨h1, ?_, ?_⟩
   ·simp [aE.lay, aE.make]; omega
   ·simp [aE.lay, aE.make]; omega
  ·exact ⟨h1, by omega, by omega⟩
theorem nB (b : Nat) : aj .ptr .eql (vp b) (.pointer none) = some (vb false) := rfl
theorem Xe (c0 : gF) (n : Nat) (hn : n ≤ 16) : Sp rY [.agg (gF.cells c0).toArray, vi n] emp (fun g : Nat × Nat × gF => .tuple #[.agg [vp g.1, vp g.2.1].toArray, vb true])
 (fun g => pu (b5 g.2.2 = true) * (ez g.1 (aE.made g.2.2 n) * bC g.2.1 (aE.made g.2.2 n))) := by
 refine aU (IA _ _) fun R H h => ?_;refine aV h fun b H1 h1 => ?_;refine bk h1 fun b2 H2 h2 => ?_;refine aT h2 ?_;refine af h2 (IU c0) fun c H3 h3 => ?_;rw [ac.pu] at h3;obtain ⟨hc, h3⟩ := h3;refine fW h3 rfl rfl fun H4 h4 => ?_;refine aT h4 ?_;refine af h4 (LX c hc) fun p H5 h5 => ?_;refine aa (v := vp p) rfl ?_;refine aa (v := vi 0) rfl ?_;refine aa (IJ rfl) ?_;refine gs ?_;refine aa (nB _) ?_;refine gs ?_;obtain ⟨g, hg, k5⟩ := lz (p := p) (σ := aE.new c) (R := blk b2 (.cells false [.pointer none, .pointer none]) * (blk b (.cells false (gF.cells c)) * R)) (H := H5) h5.to;unfold aK at k5;refine ar k5 ae rfl ?_;refine gs ?_;refine aa (nB _) ?_;refine gs ?_;refine ar k5 ae rfl ?_;refine gs ?_;refine aa (nB _) ?_;refine gs ?_;refine ar k5 ae rfl ?_;refine gs ?_;refine aa (nB _) ?_;refine gs ?_;refine ar k5 ae rfl ?_;refine gs ?_;refine aa (nB _) ?_;refine gs ?_;refine ar k5 ae rfl ?_;refine gs ?_;refine aa (nB _) ?_;refine gs ?_;refine aT h5 ?_;refine af h5 (GS c hc) fun x H6 h6 => ?_;refine j7 ?_;refine bk h6 fun b3 H7 h7 => ?_;refine fW h7 rfl rfl fun H8 h8 => ?_;refine ag (AP _ _ _ _ _ H8) ?_;refine ag (AS _ _ _ _ _ _ H8) ?_;have hr := bW.1 hc;have loop : ∀ (d i : Nat) (H : AH), i + d = n → ac (blk b3 (.cells false [vp p, vp x]) * (blk b2 (.cells false [.pointer none, .pointer none]) * (blk b (.cells false (gF.cells c)) * (ez p (aE.made c i) * (bC x (aE.made c i) * R))))) H →
  wp (lq (vi n) (vp b) (vp b2) (vb false) (vp b3) (vi i) H) fun v' H' => ∃ g : Nat × Nat × gF, v' = .tuple #[.agg [vp g.1, vp g.2.1].toArray, vb true] ∧ ac (pu (b5 g.2.2 = true) * (ez g.1 (aE.made g.2.2 n) * bC g.2.1 (aE.made g.2.2 n)) * R) H' := by
  intro d
  induction d with
  | zero =>
   intro i H hi h;refine ag (oZ _ _ _ _ _ _ H) ?_;refine aa (bF (by omega)) ?_;refine gs ?_;refine ag (vB _ _ _ H) ?_;refine ag (AQ _ _ _ H) ?_;refine aT h ?_;refine fW h rfl rfl fun H2 h2 => ?_;refine aT h2 ?_;refine am ⟨(p, x, c), rfl, ?_⟩;rw [ak, ac.pu]
   have e : i = n := by omega
   subst e;exact ⟨hc, h2.to⟩
  | succ d ih =>
   intro i H hi h;obtain ⟨m1, m2, m3⟩ := LC c i;have q0 : 0 ≤ (i : Int).tdiv c.sh := Int.tdiv_nonneg (by omega) (by omega);have q1 : (i : Int).tdiv c.sh ≤ i := Int.tdiv_le_self _ (by omega);have t0 : 0 ≤ (i : Int).tmod 2 := Int.tmod_nonneg _ (by omega);have t1 : (i : Int).tmod 2 < 2 := Int.tmod_lt_of_pos _ (by omega);have next : ∀ {H : AH}, ac (blk b3 (.cells false [vp p, vp x]) * (blk b2 (.cells false [.pointer none, .pointer none]) * (blk b (.cells false (gF.cells c)) * (ez p (aE.made c (i + 1)) * (bC x (aE.made c (i + 1)) * R))))) H →
    wp (o5 (vi n) (vp b) (vp b2) (vb false) (vp b3) (vi i) H) fun v' H' => ∃ g : Nat × Nat × gF, v' = .tuple #[.agg [vp g.1, vp g.2.1].toArray, vb true] ∧ ac (pu (b5 g.2.2 = true) * (ez g.1 (aE.made g.2.2 n) * bC g.2.1 (aE.made g.2.2 n)) * R) H' := by
    intro H h;refine ag (AU _ _ _ _ _ _ H) ?_;refine aa (aJ (by omega) (by omega)) ?_;exact ih (i + 1) H (by omega) h
   refine ag (oZ _ _ _ _ _ _ H) ?_;refine aa (cy (by omega)) ?_;refine gs ?_;refine ag (AT _ _ _ _ _ _ H) ?_;refine ar h aB rfl ?_;refine aa (L1 (by omega) (by omega) (by omega)) ?_;refine ar h aB rfl ?_
   by_cases hf : (i : Int).tdiv c.sh < c.sl
   ·have e : aE.made c (i + 1) = (aE.made c i).lay i (1 + i) (2 + (i : Int).tmod 2) := by show (if _ then _ else _) = _; rw [if_pos hf]
    rw [e] at next;refine aa (cy hf) ?_;refine gs ?_;refine aT h ?_;refine gs ?_;refine aa (aJ (by omega) (by omega)) ?_;refine gs ?_;refine aa (jw (by omega)) ?_;refine gs ?_;refine aa (aJ (by omega) (by omega)) ?_;refine gs ?_;refine af h (aaQ p (aE.made c i) x i (1 + i) (2 + (i : Int).tmod 2) (by rw [m1]; exact hc) (by omega) (by omega) (by omega) (by omega)) fun _ H2 h2 => ?_;refine gs ?_;rw [Bool.not_true];refine gs ?_;exact next h2.to
   ·have e : aE.made c (i + 1) = aE.made c i := by show (if _ then _ else _) = _; rw [if_neg hf]
    rw [e] at next;refine aa (bF hf) ?_;refine gs ?_;exact next h
 exact loop n 0 H8 (by omega) (show ac (blk b3 (.cells false [vp p, vp x]) * (blk b2 (.cells false [.pointer none, .pointer none]) * (blk b (.cells false (gF.cells c)) * (ez p (aE.new c) * (bC x (aE.new c) * R))))) H8 from h8.to)
theorem Jx {o : Nat} {x : Value} {k : Value → OV} {Q : Value → AH → Prop} (h : wp (k undef) Q) : wp (CE (vb false) true [.n, .f o] x k) Q := h
theorem Jy {p : List Stp} {x : Value} {k : Value → OV} {Q : Value → AH → Prop} (h : wp (ad p x k) Q) : wp (CE (vb true) true p x k) Q := by rw [Gb]; exact h
section
variable {m i rp : Nat} {cs : List Pk} {R : SP} {H : AH}
theorem bP (h : ac (bY m i rp cs * R) H) : ∃ cv, ac (blk rp (.cells false [vp m, vi i, cv]) * (ts 3 Pk.cells cv cs * R)) H := by
 obtain ⟨cv, h1⟩ := ac.ex.1 h;exact ⟨cv, h1.to⟩
theorem xr {cv : Value} (h : ac (blk rp (.cells false [vp m, vi i, cv]) * (ts 3 Pk.cells cv cs * R)) H) : ac (bY m i rp cs * R) H :=
 ac.ex.2 ⟨cv, h.to⟩
theorem d4 (h : ac (cn m i rp cs * R) H) : ∃ cv, ac (blk rp (.cells false [vp m, vi i, vi cs.length, cv]) * (ts 3 Pk.cells cv cs * R)) H := by
 obtain ⟨cv, h1⟩ := ac.ex.1 h;exact ⟨cv, h1.to⟩
theorem lF {cv : Value} (h : ac (blk rp (.cells false [vp m, vi i, vi cs.length, cv]) * (ts 3 Pk.cells cv cs * R)) H) : ac (cn m i rp cs * R) H :=
 ac.ex.2 ⟨cv, h.to⟩
end
section
variable (m i rp : Nat) (cs : List Pk) (μ : Mu)
theorem uP (kind cell : Int) : Sp cW [vp rp, vi kind, vi cell] (bY m i rp cs) (fun _ : Unit => dr (kind, (i : Int), cell)) (fun _ => bY m i rp cs) := by
 refine aW fun R H h => ?_;obtain ⟨cv, h0⟩ := bP h;refine aZ (fun r => yP _ _ _ H) ?_;refine bk h0 fun b H1 h1 => ?_;refine ar h1 ae rfl ?_;refine j7 ?_;refine fW h1 rfl rfl fun H2 h2 => ?_;refine aT h2 ?_;exact am ⟨(), rfl, xr (cv := cv) h2.to⟩
theorem Ed (who : Int) (hE : μ.N < 1099511627000) : Sp fv [vp rp, vi who] (bY m i rp cs * bd m μ) (fun _ : Unit => vu (μ.V (11, (i : Int), 0))) (fun _ => bY m i rp cs * bd m (μ.acc who 1 (11, (i : Int), 0))) := by
 refine aW fun R H h => ?_;obtain ⟨cv, h0⟩ := bP (m := m) (i := i) (rp := rp) (cs := cs) (R := bd m μ * R) (H := H) h.to;refine aZ (fun r => uN _ _ H) ?_;refine bn ae ?_;refine aP h0 rfl ?_;refine af h (uP m i rp cs 11 0) fun _ H1 h1 => ?_;obtain ⟨cv1, k1⟩ := bP h1;refine aG k1 h0 (by rfl) ?_;refine af h1 (Bc m μ who (11, (i : Int), 0) (by omega)) fun _ H2 h2 => ?_;exact am ⟨(), rfl, h2.to⟩
theorem Eb (who : Int) (hE : μ.N < 1099511627000) : Sp ft [vp rp, vi who] (bY m i rp cs * bd m μ) (fun _ : Unit => vu (μ.V (12, (i : Int), 0))) (fun _ => bY m i rp cs * bd m (μ.acc who 1 (12, (i : Int), 0))) := by
 refine aW fun R H h => ?_;obtain ⟨cv, h0⟩ := bP (m := m) (i := i) (rp := rp) (cs := cs) (R := bd m μ * R) (H := H) h.to;refine aZ (fun r => uL _ _ H) ?_;refine bn ae ?_;refine aP h0 rfl ?_;refine af h (uP m i rp cs 12 0) fun _ H1 h1 => ?_;obtain ⟨cv1, k1⟩ := bP h1;refine aG k1 h0 (by rfl) ?_;refine af h1 (Bc m μ who (12, (i : Int), 0) (by omega)) fun _ H2 h2 => ?_;exact am ⟨(), rfl, h2.to⟩
def lp (w h k : Nat) : Bool := decide (h ≤ ay w ∧ k ≤ ay w - h)
theorem Ea (w h : Nat) (hw : w < 18446744073709551616) (hc : cs.length < 1000) : Sp fq [vp rp, vu w, vu h] (bY m i rp cs) (fun _ : Unit => vb (lp w h cs.length)) (fun _ => bY m i rp cs) := by
 refine aW fun R H hh => ?_;have hl := dQ w;refine aZ (fun r => uK _ _ _ H) ?_;refine af hh (iM w hw) fun _ H1 h1 => ?_
 by_cases hle : h ≤ ay w
 ·refine aa (jf (by omega)) ?_
  refine gs ?_;refine aa (Dh hle (by omega)) ?_;obtain ⟨cv, h2⟩ := bP (m := m) (i := i) (rp := rp) (cs := cs) (R := R) (H := H1) h1.to;refine gs ?_;refine ar h2 ae rfl ?_;refine gs ?_;refine fC (s := cv) (l := cs) h2 ?_;refine gs ?_;refine aa (de (by omega) (by omega)) ?_;rw [show ((cs.length : Nat) : Int).toNat = cs.length from tI _];refine gs ?_
  by_cases hk : cs.length ≤ ay w - h
  ·refine aa (jf (by omega)) ?_
   refine gs ?_;exact am ⟨(), by rw [lp, i4 ⟨hle, hk⟩], h1.to⟩
  ·refine aa (fT (by omega)) ?_
   refine gs ?_;exact am ⟨(), by rw [lp, iv (fun q => hk q.2)], h1.to⟩
 ·refine aa (fT (by omega)) ?_
  refine gs ?_;exact am ⟨(), by rw [lp, iv (fun q => hle q.1)], h1.to⟩
abbrev Mu.turn (μ : Mu) (who : Int) (i w : Nat) (o : Option Nat) : Mu := match o with
 | none => μ
 | some n => μ.swp who (11, (i : Int), 0) w n
def d5 (μ : Mu) (i w : Nat) (o : Option Nat) : Bool := o.isSome && decide (μ.V (11, (i : Int), 0) = w)
theorem TL (who : Int) (w fn : Nat) (o : Option Nat) (hf : Sp fn [vu w] emp (fun _ : Unit => LJ o) (fun _ => emp)) (hE : μ.N < 1099511627000) :
 Sp iJ [vp rp, vi who, vu w, .func (.func fn) #[] #[]] (bY m i rp cs * bd m μ) (fun _ : Unit => vb (d5 μ i w o)) (fun _ => bY m i rp cs * bd m (μ.turn who i w o)) := by
 refine aU (uO _ _ _ _) fun R H h => ?_;refine ag (show (cI (.func (.func fn) #[] #[]) [vu w]).bind _ = _ from rfl) ?_;refine af h hf fun _ H1 h1 => ?_
 cases o with
 | none =>
  refine aa (v := vw 0) rfl ?_;refine aa (v := vb false) rfl ?_;refine gs ?_;refine Jx ?_;refine gs ?_;refine Ep rfl ?_;refine gs ?_;exact am ⟨(), rfl, h1.to⟩
 | some n =>
  refine aa (v := vu n) rfl ?_;refine aa (v := vb true) rfl ?_;refine gs ?_;refine Jy ?_;obtain ⟨cv, k1⟩ := bP (m := m) (i := i) (rp := rp) (cs := cs) (R := bd m μ * R) (H := H1) h1.to;refine bn ae ?_;refine gs ?_;refine aP k1 rfl ?_;refine gs ?_;refine af h1 (uP m i rp cs 11 0) fun _ H2 h2 => ?_;obtain ⟨cv2, k2⟩ := bP (m := m) (i := i) (rp := rp) (cs := cs) (R := bd m μ * R) (H := H2) h2.to;refine aG k2 k1 (by rfl) ?_;refine gs ?_;refine af h2 (LT m μ who (11, (i : Int), 0) w n (by omega)) fun _ H3 h3 => ?_;refine gs ?_;exact am ⟨(), rfl, h3.to⟩
theorem BQ (who : Int) (w : Nat) (hw : w < 18446744073709551616) (hE : μ.N < 1099511627000) : Sp eJ [vp rp, vi who, vu w] (bY m i rp cs * bd m μ) (fun _ : Unit => vb (d5 μ i w (aX w 0))) (fun _ => bY m i rp cs * bd m (μ.turn who i w (aX w 0))) := by
 refine aU (sE _ _ _) fun R H h => ?_;refine af h (TL m i rp cs μ who w lu (aX w 0) (Ue w hw) hE) fun _ H1 h1 => ?_;exact am ⟨(), rfl, h1.to⟩
end
end Go.Proofs.YtghoamdlcjdfjaaGreatDoor.Gst
