/- Several texts in one. -/
import Derived.Test.YtghoamdlcjdfjaaGreatDoorPc
namespace Go.Proofs.YtghoamdlcjdfjaaGreatDoor.Gst
open Go Go.RowKit
set_option maxRecDepth 100000
set_option linter.unusedVariables false
set_option maxHeartbeats 1000000
set_option linter.unusedSimpArgs false
set_option synthInstance.maxSize 2000
set_option synthInstance.maxHeartbeats 400000
section
variable (Y Z x2 x3 x4 x5 x6 x8 x9 x13 x14 x15 : Value) (H : AH)
noncomputable def rF (p : List Nat) : Code := Code.sub (bH Tryz.f101) p
noncomputable def pW : KK := dO PP (Tryz.f101).results.toList
noncomputable def QZ : KK := CQ (rF [1, 1, 1]) pW bD pW
noncomputable def sJ : OV := QZ (ls [Y, Z, x2, x3, u, u, u, u, x8, x9] 52) H
noncomputable def IF : KK := CQ (rF [1, 1, 1, 1]) pW bD pW
noncomputable def aeO : KK := gC wu IF
noncomputable def nq : OV := IF (ls [Y, Z, x2, x3, u, u, u, u, x8, x9] 52) H
noncomputable def Dt : KX := BX 0 aeO bD
noncomputable def Du : KX := A6 wu Dt
noncomputable def Ds : KK := KM (rF [1, 1, 1, 0, 4, 5]) Du pW
noncomputable def LC : KK := gC wu Ds
noncomputable def i5 : OV := Ds (ls [Y, Z, x2, x3, u, u, u, u, x8, x9] 52) H
noncomputable def LD : KK := CQ (rF [1, 1, 1, 0, 4, 5, 1]) LC Du pW
noncomputable def qU : OV := LD (ls [Y, Z, x2, x3, u, u, u, u, x8, x9] 52) H
noncomputable def X1 : KX := BX 1 LC Du
noncomputable def oh : OV := Dt 0 (ls [Y, Z, x2, x3, u, u, u, u, x8, x9] 52) H
theorem o7 : aw 4611686018427387647 pW := rf
theorem Ul : aw wu QZ := rc o7 aD o7
theorem GV : aw wu IF := rc o7 aD o7
theorem pX : ∀ i, aw wu (Dt i) := rb (cd GV) aD
theorem pV : aw wu Ds := rl (cx pX) o7
theorem N6 : aw wu LD := rc (cd pV) (cx pX) o7
theorem N7 : ∀ i, aw wu (X1 i) := rb (cd pV) (cx pX)
theorem yd : nq Y Z x2 x3 x8 x9 H =
 ld [.n, .f 0] Y H fun i =>
 (dT 1 i none (some x9)).bind fun j =>
 (fj 1 8 (.slice none 0 0) j H).bind fun c =>
 (FF oN [Z, x2, x3] c.2).bind fun d =>
 Gi 1 1 [(.pointer none)] [(0, d.1)] d.2 fun k e =>
 (fj 1 8 c.1 k e).bind fun a =>
 ad [.n, .f 0] Y fun b =>
 (ar b a.2).bind fun l =>
 bO (ar b c.2) (ar b a.2) <|
 bO (ar b e) (ar b a.2) <|
 (dT 1 l (some x9) none).bind fun m =>
 (fj 1 8 a.1 m a.2).bind fun g =>
 st 1 [.n, .f 0] Y g.1 g.2 fun o =>
 some ((vb true), o) :=
 (by kernel_rfl)
theorem vI : qU Y Z x2 x3 x8 x9 H =
 (ap .other .add x9 (vi 1)).bind fun a =>
 i5 Y Z x2 x3 x8 a H :=
 (bt rfl (rF [1, 1, 1, 0, 4, 5, 1, 4]) 1 N7 (by kernel_rfl))
theorem lB : oh Y Z x2 x3 x8 x9 H = nq Y Z x2 x3 x8 x9 H :=
 (by kernel_rfl)
theorem nr : i5 Y Z x2 x3 x8 x9 H =
 ld [.n, .f 0] Y H fun b =>
 iQ b fun c =>
 (ap .other .lss x9 c).bind fun a =>
 (gV a true Y).bind fun d =>
 fF a true  [.n, .f 0] d H fun e =>
 (gV a true x9).bind fun g =>
 fF a true  [.i 1 g] e H fun j =>
 fF a true  [.n, .f 0] j H fun k =>
 (gV a true Z).bind fun l =>
 (gB a true (ap .other .lss k l)).bind fun m =>
 (aV a m (vb false)).bind fun o =>
 av o
 (qU Y Z x2 x3 x8 x9 H)
 (oh Y Z x2 x3 x8 x9 H) :=
 KN rfl pV (pt rfl 0 N6 (by kernel_rfl))
theorem yc : sJ Y Z x2 x3 x8 x9 H =
 i5 Y Z x2 x3 x8 x9 H :=
 (pt rfl 0 GV (bt rfl (rF [1, 1, 1, 0, 4]) 0 pX (li rfl (rF [1, 1, 1, 0, 4, 5]) pV (by kernel_rfl))))
noncomputable def MB : OV := bh PP GG FF (rF []) (ls [Y, Z, x2, x3] 58) H pW bD pW
theorem ES {r : Value × AH} (h : (
 (FF ik [Y, Z] H).bind fun a =>
 (ap .other .geq a.1 (vi 0)).bind fun b =>
 av b
 (some ((vb false), a.2))
 (sJ Y Z x2 x3 (vb false) (vi 0) a.2)) = some r) : FF oO [Y, Z, x2, x3] H = some r :=
 fo (t := MB Y Z x2 x3 H) Tryz.func101 (by kernel_rfl) (Eq.trans (pt rfl 2 Ul (by kernel_rfl)) h)
noncomputable def N8 (p : List Nat) : Code := Code.sub (bH Tryz.f102) p
noncomputable def uK : KK := dO PP (Tryz.f102).results.toList
noncomputable def Q1 : KK := CQ (N8 [1, 1]) uK bD uK
noncomputable def np : OV := Q1 (ls [Y, Z, u, u, u, x5, x6] 36) H
noncomputable def Q2 : KK := CQ (N8 [1, 1, 1]) uK bD uK
noncomputable def gf : OV := Q2 (ls [Y, u, u, u, u, x5, x6] 36) H
theorem wF : aw 8796093022143 uK := rf
theorem Um : aw 8796093022108 Q1 := rc wF aD wF
theorem Un : aw 8796093022110 Q2 := rc wF aD wF
theorem rn : gf Y x5 x6 H =
 ld [.n, .f 3] Y H fun c =>
 (fj 3 24 (.slice none 0 0) c H).bind fun a =>
 (ay 3 x5 a.2).bind fun d =>
 bO (ay 3 x5 H) (ay 3 x5 a.2) <|
 Gi 1 3 [(vi 0), (vi 0), (vi 0)] [(0, d)] a.2 fun e g =>
 (fj 3 24 a.1 e g).bind fun b =>
 st 1 [.n, .f 3] Y b.1 b.2 fun i =>
 some ((vb true), i) :=
 (by kernel_rfl)
theorem rm : np Y Z x5 x6 H =
 ld [.n, .f 3] Y H fun a =>
 iQ a fun b =>
 (ap .other .eql b (vi 0)).bind fun c =>
 av c
 (ld [.n, .f 5] Y H fun d =>
 (iv [Z, d]).bind fun e =>
 st 1 [.n, .f 4] Y e H fun g =>
 gf Y x5 x6 g)
 (gf Y x5 x6 H) :=
 (pt rfl 0 Un (by kernel_rfl))
noncomputable def BJ : OV := bh PP GG FF (N8 []) (ls [Y, Z, x2] 40) H uK bD uK
theorem vE {r : Value × AH} (h : (
 aQ (Value.cells x2).toList H fun b a =>
 ld [.n, .f 3] Y a fun c =>
 iQ c fun d =>
 ld [.n, .f 1] Y a fun e =>
 (ap .other .geq d e).bind fun g =>
 av g
 (some ((vb false), a))
 (np Y Z b (vb false) a)) = some r) : FF jK [Y, Z, x2] H = some r :=
 fo (t := BJ Y Z x2 H) Tryz.func102 (by kernel_rfl) (Eq.trans (pt rfl 1 Um (by kernel_rfl)) h)
theorem Bv {r : Value × AH} (h : (
 aQ (Value.cells x3).toList H fun c a =>
 ld [.n, .f 1] Y a fun d =>
 (ay 3 c a).bind fun e =>
 ga [(0, 1), (1, 1), (2, 3)] [(vi 0), (vi 0), (vi 0), (vi 0), (vi 0)] [(0, Z), (1, x2), (2, e)] fun g =>
 Gi 1 5 [(vi 0), (vi 0), (vi 0), (vi 0), (vi 0)] [(0, g)] a fun i j =>
 (fj 5 40 d i j).bind fun b =>
 st 1 [.n, .f 1] Y b.1 b.2 fun k =>
 some (Value.tuple #[], k)) = some r) : FF dy [Y, Z, x2, x3] H = some r :=
 fo Tryz.func104 (by kernel_rfl) h
theorem Bs {r : Value × AH} (h : (
 aQ (Value.cells Z).toList H fun b a =>
 ld [.n, .f 0] Y a fun c =>
 (ay 3 b a).bind fun d =>
 (dc (.flat 3) (.agg #[(vw 0)]) c d false a).bind fun e =>
 (lA none 0 e).bind fun g =>
 some (g, a)) = some r) : FF fO [Y, Z] H = some r :=
 fo Tryz.func105 (by kernel_rfl) h
theorem sF {r : Value × AH} (h : (
 ld [.n, .f 11] Y H fun a =>
 (fm .int a Z x2 H).bind fun b =>
 some (Value.tuple #[], b)) = some r) : FF iI [Y, Z, x2] H = some r :=
 fo Tryz.func106 (by kernel_rfl) h
theorem vQ {r : Value × AH} (h : (
 ld [.n, .f 12] Y H fun b =>
 Gi 2 1 [(vi 0)] [(0, Z), (1, x2)] H fun c d =>
 (fj 1 8 b c d).bind fun a =>
 st 1 [.n, .f 12] Y a.1 a.2 fun e =>
 some (Value.tuple #[], e)) = some r) : FF jN [Y, Z, x2] H = some r :=
 fo Tryz.func107 (by kernel_rfl) h
noncomputable def IG (p : List Nat) : Code := Code.sub (bH Tryz.f108) p
noncomputable def uL : KK := dO PP (Tryz.f108).results.toList
noncomputable def Q3 : KK := CQ (IG [1]) uL bD uL
noncomputable def Aq : OV := Q3 (ls [Y, Z, u, u, x4, x5] 45) H
noncomputable def IH : KK := CQ (IG [1, 1]) uL bD uL
noncomputable def aeP : KK := gC QB IH
noncomputable def rD : OV := IH (ls [Y, Z, u, u, x4, x5] 45) H
noncomputable def aeQ : KX := BX 0 aeP bD
theorem wG : aw 2251799813685199 uL := rf
theorem Uo : aw QB Q3 := rc wG aD wG
theorem GW : aw QB IH := rc wG aD wG
theorem Uq : ∀ i, aw QB (aeQ i) := rb (cd GW) aD
theorem Dg : rD Y Z x4 x5 H =
 (FF kz [Y, Z] H).bind fun a =>
 (af a.1 0).bind fun c =>
 (af a.1 1).bind fun d =>
 (cf 4 x4 c a.2).bind fun b =>
 (ay 4 x4 b).bind fun e => some (Value.tuple #[e, d], b) :=
 (by kernel_rfl)
theorem Df : Aq Y Z x4 x5 H =
 ld [.n, .f 2, .f 2] Y H fun i =>
 (ap .other .lss i (vi 1)).bind fun a =>
 (gV a false Y).bind fun j =>
 fF a false  [.n, .f 2, .f 2] j H fun k =>
 (gB a false (ap .other .gtr k (vi 65536))).bind fun l =>
 (aV a (vb true) l).bind fun m =>
 av m
 ((FF jq [Y, Z, (vi 3)] H).bind fun c =>
 (af c.1 0).bind fun o =>
 (af c.1 1).bind fun p =>
 (cf 4 x4 o c.2).bind fun e =>
 (ay 4 x4 e).bind fun q => some (Value.tuple #[q, p], e))
 (ld [.n, .f 2, .f 1] Y H fun s =>
 (ap .other .lss s (vi 0)).bind fun b =>
 (gV b false Y).bind fun t =>
 fF b false  [.n, .f 2, .f 1] t H fun w =>
 (gB b false (ap .other .gtr w (vi 1048576))).bind fun y =>
 (aV b (vb true) y).bind fun z =>
 av z
 ((FF jq [Y, Z, (vi 5)] H).bind fun d =>
 (af d.1 0).bind fun A =>
 (af d.1 1).bind fun B =>
 (cf 4 x4 A d.2).bind fun g =>
 (ay 4 x4 g).bind fun C => some (Value.tuple #[C, B], g))
 (rD Y Z x4 x5 H)) :=
 (pt rfl 0 GW (bt rfl (IG [1, 0, 4]) 0 Uq (by kernel_rfl)))
noncomputable def XR : OV := bh PP GG FF (IG []) (ls [Y, Z] 49) H uL bD uL
theorem Lu {r : Value × AH} (h : (
 aQ [(vi 0), (.slice none 0 0), (vi 0), (vw 0)] H fun a b =>
 Aq Y Z a (vb false) b) = some r) : FF m6 [Y, Z] H = some r :=
 fo (t := XR Y Z H) Tryz.func108 (by kernel_rfl) (Eq.trans (pt rfl 0 Uo (by kernel_rfl)) h)
noncomputable def N9 (p : List Nat) : Code := Code.sub (bH Tryz.f109) p
noncomputable def uM : KK := dO PP (Tryz.f109).results.toList
noncomputable def Q4 : KK := CQ (N9 [1, 1]) uM bD uM
noncomputable def ny : OV := Q4 (ls [Y, u, u, u, x4, x5] 15) H
noncomputable def Q5 : KK := CQ (N9 [1, 1, 1]) uM bD uM
noncomputable def jg : OV := Q5 (ls [u, u, u, u, x4, x5] 15) H
theorem wH : aw 2097135 uM := rf
theorem Ur : aw 2097102 Q4 := rc wH aD wH
theorem Us : aw 2097103 Q5 := rc wH aD wH
theorem kj : jg x4 x5 H =
 some (x5, H) :=
 (by kernel_rfl)
theorem rr : ny Y x4 x5 H =
 (ap .other .lss x5 (vi 0)).bind fun a =>
 av a
 (ld [.n, .f 1] Y H fun b =>
 (ap .other .add x5 b).bind fun c =>
 jg x4 c H)
 (jg x4 x5 H) :=
 (pt rfl 0 Us (by kernel_rfl))
noncomputable def BU : OV := bh PP GG FF (N9 []) (ls [Y, Z] 19) H uM bD uM
theorem vS {r : Value × AH} (h : (
 ld [.n, .f 1] Y H fun a =>
 (ap .other .rem Z a).bind fun b =>
 ny Y (vi 0) b H) = some r) : FF fg [Y, Z] H = some r :=
 fo (t := BU Y Z H) Tryz.func109 (by kernel_rfl) (Eq.trans (pt rfl 1 Ur (by kernel_rfl)) h)
theorem zZ {r : Value × AH} (h : (
 ga [(0, 1), (1, 1), (2, 1), (3, 1)] [(vi 0), (.slice none 0 0), (vi 0), (vw 0)] [(0, x2)] fun b =>
 st 4 [.n, .f 17] Y b H fun a =>
 ld [.n, .f 0] Y a fun c =>
 ld [.n, .f 1] Y a fun d =>
 ldN 4 [.n, .f 17] Y a fun e =>
 (FF aaV [c, Z, d, e] a).bind fun g =>
 some (Value.tuple #[], g.2)) = some r) : FF bC [Y, Z, x2] H = some r :=
 fo Tryz.func110 (by kernel_rfl) h
noncomputable def Of (p : List Nat) : Code := Code.sub (bH Tryz.f111) p
noncomputable def uN : KK := dO PP (Tryz.f111).results.toList
noncomputable def Q6 : KK := CQ (Of [1, 1, 1]) uN bD uN
noncomputable def abN : OV := Q6 (ls [Y, u, x2, x3, u, u, x6] 88) H
noncomputable def Q7 : KK := CQ (Of [1, 1, 1, 1]) uN bD uN
noncomputable def E9 : OV := Q7 (ls [Y, u, x2, x3] 91) H
theorem wJ : aw 39614081257132168796771975155 uN := rf
theorem Uu : aw 39614081257132168796771975090 Q6 := rc wJ aD wJ
theorem Uv : aw 39614081257132168796771975154 Q7 := rc wJ aD wJ
theorem HG : E9 Y x2 x3 H =
 ld [.n, .f 7] Y H fun b =>
 (ap .other .add b (vi 1)).bind fun c =>
 st 1 [.n, .f 7] Y c H fun a =>
 ld [.n, .f 7] Y a fun d =>
 ld [.n, .f 0] Y a fun e =>
 ld [.n, .f 7] e a fun g =>
 ld [.n, .f 2] g a fun i =>
 (ap .other .geq d i).bind fun j =>
 some (Value.tuple #[(vb false), j], a) :=
 (by kernel_rfl)
theorem tT : abN Y x2 x3 x6 H =
 (nk .not x6).bind fun a =>
 (gV a true Y).bind fun b =>
 fF a true  [.n, .f 8] b H fun c =>
 (gB a true (ap .other .lss c (vi 0))).bind fun d =>
 (aV a d (vb false)).bind fun e =>
 av e
 (ld [.n, .f 7] Y H fun g =>
 st 1 [.n, .f 8] Y g H fun i =>
 E9 Y x2 x3 i)
 (E9 Y x2 x3 H) :=
 (pt rfl 0 Uv (by kernel_rfl))
noncomputable def rTs : OV := bh PP GG FF (Of []) (ls [Y] 94) H uN bD uN
theorem abO {r : Value × AH} (h : (
 ad [.n, .f 0] Y fun d =>
 (ar d H).bind fun j =>
 ad [.n, .f 7] j fun e =>
 (ar e H).bind fun k =>
 ad [.n, .f 1] Y fun g =>
 (ar g H).bind fun l =>
 ld [.n, .f 0] Y H fun m =>
 ld [.n, .f 7] m H fun o =>
 ld [.n, .f 2, .f 1] Y H fun p =>
 (FF fg [o, p] H).bind fun a =>
 bO (ar d a.2) (ar d H) <|
 bO (ar e a.2) (ar e H) <|
 bO (ar g a.2) (ar g H) <|
 ad [.n, .f 7] Y fun i =>
 (ar i a.2).bind fun q =>
 bO (ar i H) (ar i a.2) <|
 (FF kH [k, l, a.1, q] a.2).bind fun b =>
 (af b.1 0).bind fun s =>
 (af b.1 1).bind fun w =>
 (af b.1 2).bind fun c =>
 (gV c true s).bind fun y =>
 (gV c true Y).bind fun z =>
 fF c true  [.n, .f 2, .f 1] z b.2 fun A =>
 (gB c true (ap .other .eql y A)).bind fun B =>
 (aV c B (vb false)).bind fun C =>
 av C
 (st 1 [.n, .f 9] Y (vb true) b.2 fun D =>
 st 1 [.n, .f 10] Y w D fun E =>
 some (Value.tuple #[(vb true), (vb false)], E))
 (abN Y (vb false) (vb false) c b.2)) = some r) : FF EG [Y] H = some r :=
 fo (t := rTs Y H) Tryz.func111 (by kernel_rfl) (Eq.trans (pt rfl 2 Uu (by kernel_rfl)) h)
theorem yj {r : Value × AH} (h : (
 ad [.n, .f 0] Y fun a =>
 (ar a H).bind fun d =>
 (FF cz [(vi 8), x2, (vi 0)] H).bind fun b =>
 bO (ar a b.2) (ar a H) <|
 (FF g8 [d, Z, b.1, (vw 0), (vw 1)] b.2).bind fun c =>
 some (c.1, c.2)) = some r) : FF io [Y, Z, x2] H = some r :=
 fo Tryz.func112 (by kernel_rfl) h
theorem t9 {r : Value × AH} (h : (
 ad [.n, .f 0] Y fun a =>
 (ar a H).bind fun c =>
 (FF cz [(vi 8), x2, (vi 0)] H).bind fun b =>
 bO (ar a b.2) (ar a H) <|
 (FF eM [c, Z, b.1, (vw 0)] b.2).bind fun d =>
 some (Value.tuple #[], d.2)) = some r) : FF en [Y, Z, x2] H = some r :=
 fo Tryz.func113 (by kernel_rfl) h
theorem zP {r : Value × AH} (h : (
 aQ [(vi 0), (vi 0), (vw 0)] H fun c b =>
 (ap .other .lss x2 (vi 0)).bind fun a =>
 (gV a false x2).bind fun l =>
 (gV a false Y).bind fun m =>
 fF a false  [.n, .f 10] m b fun o =>
 (EI (yv a) false (iQ o some) (some undef)).bind fun p =>
 (gB a false (ap .other .geq l p)).bind fun q =>
 (aV a (vb true) q).bind fun s =>
 av s
 (ga [(0, 1), (1, 1), (2, 1)] [(vi 0), (vi 0), (vw 0)] [] fun t =>
 (cf 3 c t b).bind fun j =>
 (ay 3 c j).bind fun w => some (w, j))
 (ad [.n, .f 5] Y fun d =>
 (ar d b).bind fun y =>
 (FF cz [(vi 13), x2, (vi 0)] b).bind fun e =>
 bO (ar d e.2) (ar d b) <|
 (FF cq [y, Z, (vi 5), e.1] e.2).bind fun g =>
 ld [.n, .f 10] Y g.2 fun z =>
 ldN 3 [.i 3 x2] z g.2 fun A =>
 (cf 3 c A g.2).bind fun k =>
 (ay 3 c k).bind fun B => some (B, k))) = some r) : FF lK [Y, Z, x2] H = some r :=
 fo Tryz.func114 (by kernel_rfl) h
theorem z5 {r : Value × AH} (h : (
 (FF bX [Y] H).bind fun a =>
 ad [.n, .f 1] Y fun c =>
 (ar c a.2).bind fun g =>
 bO (ar c H) (ar c a.2) <|
 (FF lL [a.1, g] a.2).bind fun d =>
 st 1 [.n, .f 11] Y d.1 d.2 fun e =>
 ld [.n, .f 11] Y e fun i =>
 (FF gZ [i] e).bind fun b =>
 (af b.1 0).bind fun k =>
 (af b.1 1).bind fun j =>
 (af b.1 2).bind fun l =>
 some (j, b.2)) = some r) : FF eR [Y] H = some r :=
 fo Tryz.func115 (by kernel_rfl) h
theorem z0 {r : Value × AH} (h : (
 ld [.n, .f 0] Y H fun a =>
 ld [.n, .f 11] a H fun b =>
 ld [.n, .f 10] Y H fun c =>
 ld [.i 1 c] b H fun d =>
 some (d, H)) = some r) : FF bX [Y] H = some r :=
 fo Tryz.func116 (by kernel_rfl) h
theorem zS {r : Value × AH} (h : (
 ad [.n, .f 0] Y fun a =>
 (ar a H).bind fun d =>
 ld [.n, .f 1] Y H fun e =>
 (FF cz [(vi 12), e, (vi 0)] H).bind fun b =>
 bO (ar a b.2) (ar a H) <|
 (FF ej [d, Z, b.1] b.2).bind fun c =>
 some (c.1, c.2)) = some r) : FF i0 [Y, Z] H = some r :=
 fo Tryz.func117 (by kernel_rfl) h
theorem J3 {r : Value × AH} (h : (
 (ap .other .rem Y (vw 2305843009213693952)).bind fun b =>
 (ap .other .quo Y (vw 2305843009213693952)).bind fun c =>
 (cN (some .i64) c).bind fun a =>
 (ap .other .gtr a (vi 2)).bind fun d =>
 av d
 (some (Value.tuple #[(vw 0), (vi (-1)), (vb false)], H))
 (some (Value.tuple #[b, a, (vb true)], H))) = some r) : FF gZ [Y] H = some r :=
 fo Tryz.func118 (by kernel_rfl) h
theorem zR {r : Value × AH} (h : (
 (FF gZ [Z] H).bind fun b =>
 (af b.1 0).bind fun c =>
 (af b.1 1).bind fun o =>
 (af b.1 2).bind fun p =>
 (ap .other .geq c x2).bind fun a =>
 (gV a true c).bind fun d =>
 (gV a true x2).bind fun e =>
 (gB a true (ap .other .sub d e)).bind fun g =>
 (gV a true Y).bind fun i =>
 fF a true  [.n, .f 2] i b.2 fun j =>
 (gB a true (cN (some .u64) j)).bind fun k =>
 (gB a true (ap .other .geq g k)).bind fun l =>
 (aV a l (vb false)).bind fun m =>
 some (m, b.2)) = some r) : FF iZ [Y, Z, x2] H = some r :=
 fo Tryz.func119 (by kernel_rfl) h
noncomputable def IJ (p : List Nat) : Code := Code.sub (bH Tryz.f120) p
noncomputable def rI : KK := dO PP (Tryz.f120).results.toList
noncomputable def Q8 : KK := CQ (IJ [1]) rI bD rI
noncomputable def ot : OV := Q8 (ls [Y, Z] 48) H
noncomputable def Q9 : KK := CQ (IJ [1, 1]) rI bD rI
noncomputable def gM : OV := Q9 (ls [Y, Z] 48) H
noncomputable def aeS : KX := BX 0 rI bD
theorem rJ : aw 1125899906842623 rI := rf
theorem Uw : aw 1125899906842620 Q8 := rc rJ aD rJ
theorem Ux : aw 1125899906842620 Q9 := rc rJ aD rJ
theorem Uy : ∀ i, aw 1125899906842623 (aeS i) := rb rJ aD
theorem sP : gM Y Z H =
 (FF bX [Y] H).bind fun a =>
 ad [.n, .f 1] Y fun c =>
 (ar c a.2).bind fun g =>
 bO (ar c H) (ar c a.2) <|
 ad [.n, .f 11] Y fun d =>
 (ar d a.2).bind fun i =>
 bO (ar d H) (ar d a.2) <|
 (FF i3 [a.1, g, i, (vi 0)] a.2).bind fun b =>
 av b.1
 ((FF bC [Y, Z, (vi 0)] b.2).bind fun e =>
 ld [.n, .f 6] Y e.2 fun j =>
 (ap .other .add j (vi 1)).bind fun k =>
 st 1 [.n, .f 6] Y k e.2 fun l =>
 some (Value.tuple #[], l))
 (ld [.n, .f 6] Y b.2 fun m =>
 (ap .other .eql m (vi 9)).bind fun o =>
 av o
 (st 1 [.n, .f 6] Y (vi 7) b.2 fun p =>
 some (Value.tuple #[], p))
 (st 1 [.n, .f 6] Y (vi 20) b.2 fun q =>
 some (Value.tuple #[], q))) :=
 (bt rfl (IJ [1, 1, 4]) 0 Uy (by kernel_rfl))
theorem sO : ot Y Z H =
 ld [.n, .f 6] Y H fun a =>
 (ap .other .eql a (vi 13)).bind fun b =>
 av b
 (st 1 [.n, .f 13] Y (vw 1) H fun c =>
 gM Y Z c)
 (gM Y Z H) :=
 (pt rfl 0 Ux (by kernel_rfl))
noncomputable def EZ : OV := bh PP GG FF (IJ []) (ls [Y, Z] 48) H rI bD rI
theorem ym {r : Value × AH} (h : (
 st 1 [.n, .f 13] Y (vw 0) H fun a =>
 ot Y Z a) = some r) : FF kI [Y, Z] H = some r :=
 fo (t := EZ Y Z H) Tryz.func120 (by kernel_rfl) (Eq.trans (pt rfl 0 Uw (by kernel_rfl)) h)
theorem BT {r : Value × AH} (h : (
 aQ (Value.cells x3).toList H fun g a =>
 ad [.n, .f 0] Y fun b =>
 (ar b a).bind fun m =>
 ad [.n, .f 1] Y fun j =>
 (ar j a).bind fun o =>
 (FF eO [Y, x2] a).bind fun d =>
 bO (ar b d.2) (ar b a) <|
 bO (ar j d.2) (ar j a) <|
 (FF cz [(vi 16), o, d.1] d.2).bind fun k =>
 bO (ar b k.2) (ar b a) <|
 (FF cq [m, Z, (vi 6), k.1] k.2).bind fun e =>
 ad [.n, .f 3] Y fun l =>
 (ar l e.2).bind fun p =>
 (FF eO [Y, x2] e.2).bind fun c =>
 bO (ar l c.2) (ar l e.2) <|
 (ay 3 g c.2).bind fun q =>
 bO (ay 3 g e.2) (ay 3 g c.2) <|
 st 3 [.i 3 c.1] p q c.2 fun s =>
 some (Value.tuple #[], s)) = some r) : FF nh [Y, Z, x2, x3] H = some r :=
 fo Tryz.func121 (by kernel_rfl) h
theorem yn {r : Value × AH} (h : (
 ld [.n, .f 11] Y H fun b =>
 (FF gZ [b] H).bind fun a =>
 (af a.1 0).bind fun c =>
 (af a.1 1).bind fun d =>
 (af a.1 2).bind fun e =>
 some (c, a.2)) = some r) : FF fR [Y] H = some r :=
 fo Tryz.func122 (by kernel_rfl) h
theorem zV {r : Value × AH} (h : (
 ad [.n, .f 0] Y fun a =>
 (ar a H).bind fun e =>
 ad [.n, .f 1] Y fun c =>
 (ar c H).bind fun g =>
 (FF eO [Y, x2] H).bind fun b =>
 bO (ar a b.2) (ar a H) <|
 bO (ar c b.2) (ar c H) <|
 (FF cz [(vi 15), g, b.1] b.2).bind fun d =>
 bO (ar a d.2) (ar a H) <|
 (ap .other .add x2 (vw 1)).bind fun i =>
 (FF eM [e, Z, d.1, i] d.2).bind fun j =>
 some (Value.tuple #[], j.2)) = some r) : FF i1 [Y, Z, x2] H = some r :=
 fo Tryz.func123 (by kernel_rfl) h
theorem vK {r : Value × AH} (h : (
 ad [.n, .f 0] Y fun a =>
 (ar a H).bind fun c =>
 (FF cz [(vi 3), (vi 0), (vi 0)] H).bind fun b =>
 bO (ar a b.2) (ar a H) <|
 (FF kT [c, Z, b.1, (vw 4294967296)] b.2).bind fun d =>
 some (Value.tuple #[], d.2)) = some r) : FF jM [Y, Z] H = some r :=
 fo Tryz.func124 (by kernel_rfl) h
noncomputable def Dw (p : List Nat) : Code := Code.sub (bH Tryz.f125) p
noncomputable def rK : KK := dO PP (Tryz.f125).results.toList
noncomputable def Rb : KK := CQ (Dw [1]) rK bD rK
noncomputable def abL : OV := Rb (ls [Y, Z, u, u, x4] 100) H
noncomputable def IK : KK := CQ (Dw [1, 1]) rK bD rK
noncomputable def Ra : KK := gC Qv IK
noncomputable def qr : OV := IK (ls [u, u, u, u, x4] 100) H
noncomputable def Rc : KK := CQ (Dw [1, 0, 1]) Ra bD rK
noncomputable def abM : OV := Rc (ls [Y, Z, u, u, x4, u, u, u, x8] 96) H
noncomputable def aeT : KX := BX 0 Ra bD
theorem rL : aw Qv rK := rf
theorem Uz : aw 40564819207303340847894502572012 Rb := rc rL aD rL
theorem zd : aw Qv IK := rc rL aD rL
theorem UA : aw 40564819207303340847894502571756 Rc := rc (cd zd) aD rL
theorem UB : ∀ i, aw Qv (aeT i) := rb (cd zd) aD
theorem kN : qr x4 H =
 some ((vb false), H) :=
 (by kernel_rfl)
theorem tS : abM Y Z x4 x8 H =
 (ap .other .eql x8 (vi 15)).bind fun q =>
 av q
 (ld [.n, .f 0] Y H fun s =>
 ld [.n, .f 1] Y H fun t =>
 (FF eN [s, t] H).bind fun o =>
 st 1 [.n, .f 13] Y o.1 o.2 fun w =>
 st 1 [.n, .f 6] Y (vi 16) w fun d =>
 ld [.n, .f 13] Y d fun y =>
 (ap .other .rem y (vw 2)).bind fun z =>
 (ap .other .eql z (vw 1)).bind fun A =>
 av A
 (st 1 [.n, .f 6] Y (vi 7) d fun B =>
 qr x4 B)
 (qr x4 d))
 ((ap .other .eql x8 (vi 16)).bind fun C =>
 av C
 (st 1 [.n, .f 6] Y (vi 17) H fun D =>
 (FF eR [Y] D).bind fun e =>
 (ap .other .eql e.1 (vi 2)).bind fun E =>
 av E
 (st 1 [.n, .f 6] Y (vi 3) e.2 fun G =>
 qr x4 G)
 (qr x4 e.2))
 ((ap .other .eql x8 (vi 17)).bind fun I =>
 av I
 ((FF bX [Y] H).bind fun c =>
 ad [.n, .f 1] Y fun g =>
 (ar g c.2).bind fun J =>
 bO (ar g H) (ar g c.2) <|
 (FF i0 [c.1, J] c.2).bind fun p =>
 st 1 [.n, .f 12] Y p.1 p.2 fun K =>
 st 1 [.n, .f 16] Y Z K fun L =>
 st 1 [.n, .f 6] Y (vi 18) L fun i =>
 (FF bX [Y] i).bind fun a =>
 ad [.n, .f 11] Y fun j =>
 (ar j a.2).bind fun M =>
 bO (ar j i) (ar j a.2) <|
 ad [.n, .f 12] Y fun k =>
 (ar k a.2).bind fun N =>
 bO (ar k i) (ar k a.2) <|
 (FF iZ [a.1, M, N] a.2).bind fun l =>
 (nk .not l.1).bind fun O =>
 av O
 (st 1 [.n, .f 6] Y (vi 7) l.2 fun P =>
 qr x4 P)
 (qr x4 l.2))
 ((ap .other .eql x8 (vi 18)).bind fun Q =>
 av Q
 (ld [.n, .f 0] Y H fun R =>
 ld [.n, .f 1] Y H fun S =>
 (FF eN [R, S] H).bind fun b =>
 ad [.n, .f 13] Y fun m =>
 (ar m b.2).bind fun T =>
 bO (ar m H) (ar m b.2) <|
 (ap .other .eql b.1 T).bind fun U =>
 av U
 (ld [.n, .f 16] Y b.2 fun V =>
 (FF bC [Y, V, (vi 9)] b.2).bind fun W =>
 some ((vb true), W.2))
 (st 1 [.n, .f 6] Y (vi 7) b.2 fun X =>
 qr x4 X))
 (qr x4 H)))) :=
 (bt rfl (Dw [1, 0, 1, 4]) 0 UB (by kernel_rfl))
theorem tR : abL Y Z x4 H =
 ld [.n, .f 6] Y H fun a =>
 abM Y Z x4 a H :=
 (pt rfl 0 zd (pt rfl 0 UA (by kernel_rfl)))
noncomputable def rTf : OV := bh PP GG FF (Dw []) (ls [Y, Z] 103) H rK bD rK
theorem Kj {r : Value × AH} (h : (
 abL Y Z (vb false) H) = some r) : FF aiE [Y, Z] H = some r :=
 fo (t := rTf Y Z H) Tryz.func125 (by kernel_rfl) (Eq.trans (pt rfl 0 Uz (by kernel_rfl)) h)
noncomputable def Dy (p : List Nat) : Code := Code.sub (bH Tryz.f126) p
noncomputable def rM : KK := dO PP (Tryz.f126).results.toList
noncomputable def Rf : KK := CQ (Dy [1, 1]) rM bD rM
noncomputable def abP : OV := Rf (ls [Y, Z, u, u, x4, x5] 113) H
noncomputable def IL : KK := CQ (Dy [1, 1, 1]) rM bD rM
noncomputable def Re : KK := gC Qt IL
noncomputable def sS : OV := IL (ls [u, u, u, u, x4] 114) H
noncomputable def Rg : KK := CQ (Dy [1, 1, 0, 1]) Re bD rM
noncomputable def abQ : OV := Rg (ls [Y, Z, u, u, x4, x5, u, u, u, u, u, u, u, x13] 105) H
noncomputable def aeU : KX := BX 0 Re bD
theorem rN : aw Qt rM := rf
theorem UC : aw 664613997892457936451903530140172236 Rf := rc rN aD rN
theorem ze : aw Qt IL := rc rN aD rN
theorem UD : aw 664613997892457936451903530140164044 Rg := rc (cd ze) aD rN
theorem UE : ∀ i, aw Qt (aeU i) := rb (cd ze) aD
theorem mD : sS x4 H =
 some ((vb false), H) :=
 (by kernel_rfl)
theorem mE : abQ Y Z x4 x5 x13 H =
 (ap .other .eql x13 (vi 20)).bind fun i =>
 av i
 (ld [.n, .f 6] x5 H fun j =>
 ld [.n, .f 1] Y H fun k =>
 (FF iY [j, k] H).bind fun l =>
 st 1 [.n, .f 6] Y (vi 7) l.2 fun m =>
 sS x4 m)
 ((ap .other .eql x13 (vi 21)).bind fun o =>
 av o
 ((FF bX [Y] H).bind fun a =>
 ad [.n, .f 1] Y fun b =>
 (ar b a.2).bind fun p =>
 bO (ar b H) (ar b a.2) <|
 (FF fR [Y] a.2).bind fun d =>
 bO (ar b d.2) (ar b a.2) <|
 (FF i1 [a.1, p, d.1] d.2).bind fun q =>
 st 1 [.n, .f 6] Y (vi 22) q.2 fun s =>
 sS x4 s)
 ((ap .other .eql x13 (vi 22)).bind fun t =>
 av t
 (ld [.n, .f 6] x5 H fun w =>
 ld [.n, .f 1] Y H fun y =>
 (FF lJ [w, y, Z] H).bind fun g =>
 st 1 [.n, .f 15] Y g.1 g.2 fun z =>
 st 1 [.n, .f 6] Y (vi 23) z fun A =>
 sS x4 A)
 ((ap .other .eql x13 (vi 23)).bind fun B =>
 av B
 (ld [.n, .f 6] x5 H fun C =>
 ld [.n, .f 1] Y H fun D =>
 ld [.n, .f 10] Y H fun E =>
 ld [.n, .f 15] Y H fun G =>
 (FF kF [C, D, E, G] H).bind fun I =>
 st 1 [.n, .f 6] Y (vi 24) I.2 fun J =>
 sS x4 J)
 ((ap .other .eql x13 (vi 24)).bind fun K =>
 av K
 (st 1 [.n, .f 6] Y (vi 22) H fun c =>
 ld [.n, .f 6] x5 c fun L =>
 ld [.n, .f 1] Y c fun M =>
 ld [.n, .f 15] Y c fun N =>
 ld [.n, .f 10] Y c fun O =>
 (FF kG [L, M, Z, N, O] c).bind fun e =>
 av e.1
 (st 1 [.n, .f 6] Y (vi 25) e.2 fun P =>
 sS x4 P)
 (sS x4 e.2))
 ((ap .other .eql x13 (vi 25)).bind fun Q =>
 av Q
 (ld [.n, .f 6] x5 H fun R =>
 ld [.n, .f 1] Y H fun S =>
 (FF iY [R, S] H).bind fun T =>
 some ((vb true), T.2))
 (sS x4 H)))))) :=
 (bt rfl (Dy [1, 1, 0, 1, 4]) 0 UE (by kernel_rfl))
theorem mC : abP Y Z x4 x5 H =
 ld [.n, .f 6] Y H fun a =>
 abQ Y Z x4 x5 a H :=
 (pt rfl 0 ze (pt rfl 0 UD (by kernel_rfl)))
noncomputable def rTw : OV := bh PP GG FF (Dy []) (ls [Y, Z] 117) H rM bD rM
theorem z6 {r : Value × AH} (h : (
 ld [.n, .f 0] Y H fun a =>
 abP Y Z (vb false) a H) = some r) : FF aaW [Y, Z] H = some r :=
 fo (t := rTw Y Z H) Tryz.func126 (by kernel_rfl) (Eq.trans (pt rfl 1 UC (by kernel_rfl)) h)
theorem Ps {r : Value × AH} (h : (
 aQ [(vi 0), (vi 0), (vi 0)] H fun a c =>
 ga [(0, 1), (1, 1), (2, 1)] [(vi 0), (vi 0), (vi 0)] [(0, Y), (1, Z), (2, x2)] fun d =>
 (cf 3 a d c).bind fun b =>
 (ay 3 a b).bind fun e => some (e, b)) = some r) : FF cz [Y, Z, x2] H = some r :=
 fo Tryz.func130 (by kernel_rfl) h
theorem zW {r : Value × AH} (h : (
 (FF qi [x2, x3] H).bind fun b =>
 (af b.1 0).bind fun g =>
 (af b.1 1).bind fun a =>
 (gV a true Y).bind fun i =>
 xe a true  [.n, .f 0] i fun d =>
 (gB a true (ar d b.2)).bind fun j =>
 (gV a true Z).bind fun k =>
 (gV a true Y).bind fun l =>
 fF a true  [.n, .f 1] l b.2 fun m =>
 (gE a true b.2 (FF cz [(vi 11), m, (vi 0)] b.2)).bind fun c =>
 bO (ar d c.2) (ar d b.2) <|
 (gV a true x2).bind fun o =>
 (gV a true g).bind fun p =>
 (gE a true c.2 (FF g8 [j, k, c.1, o, p] c.2)).bind fun e =>
 (aV a e.1 (vb false)).bind fun q =>
 some (q, e.2)) = some r) : FF i3 [Y, Z, x2, x3] H = some r :=
 fo Tryz.func132 (by kernel_rfl) h
theorem s4 {r : Value × AH} (h : (
 ad [.n, .f 0] Y fun a =>
 (ar a H).bind fun c =>
 (FF jP [x2, x3] H).bind fun b =>
 bO (ar a b.2) (ar a H) <|
 (FF dH [c, Z, b.1, (vw 0)] b.2).bind fun d =>
 some (Value.tuple #[], d.2)) = some r) : FF iJ [Y, Z, x2, x3] H = some r :=
 fo Tryz.func142 (by kernel_rfl) h
theorem vR {r : Value × AH} (h : (
 ad [.n, .f 0] Y fun a =>
 (ar a H).bind fun c =>
 (FF cz [(vi 10), x2, x3] H).bind fun b =>
 bO (ar a b.2) (ar a H) <|
 (FF eM [c, Z, b.1, (vw 0)] b.2).bind fun d =>
 some (Value.tuple #[], d.2)) = some r) : FF jO [Y, Z, x2, x3] H = some r :=
 fo Tryz.func143 (by kernel_rfl) h
theorem yE {r : Value × AH} (h : (
 (FF iu [Y, Z, x2, (.func (.func n6) #[] #[])] H).bind fun a =>
 some (a.1, a.2)) = some r) : FF kK [Y, Z, x2] H = some r :=
 fo Tryz.func144 (by kernel_rfl) h
theorem Bw {r : Value × AH} (h : (
 aQ (Value.cells x2).toList H fun a d =>
 (ay 3 a d).bind fun e =>
 (FF fO [Y, e] d).bind fun b =>
 (ay 3 a b.2).bind fun g =>
 (FF dy [Y, Z, (vi 3), g] b.2).bind fun c =>
 ld [.n, .f 0] Y c.2 fun i =>
 (ay 3 a c.2).bind fun j =>
 ga [(0, 1)] [(vw 0)] [(0, x3)] fun k =>
 (fm (.flat 3) i j k c.2).bind fun l =>
 some (b.1, l)) = some r) : FF jJ [Y, Z, x2, x3] H = some r :=
 fo Tryz.func145 (by kernel_rfl) h
theorem aj1 {r : Value × AH} (h : (
 (ap .slice .eql Y (.slice none 0 0)).bind fun b =>
 av b
 (some ((.slice none 0 0), H))
 (Gi 0 3 [(vi 0), (vi 0), (vi 0)] [] H fun c d =>
 (fj 3 24 c Y d).bind fun a =>
 some (a.1, a.2))) = some r) : FF aaX [Y] H = some r :=
 fo Tryz.func148 (by kernel_rfl) h
theorem Bx {r : Value × AH} (h : (
 (ap .other .geq Y Z).bind fun a =>
 (gV a true Y).bind fun b =>
 (gV a true x2).bind fun c =>
 (gB a true (ap .other .leq b c)).bind fun d =>
 (aV a d (vb false)).bind fun e =>
 some (e, H)) = some r) : FF fQ [Y, Z, x2] H = some r :=
 fo Tryz.func149 (by kernel_rfl) h
noncomputable def oE (p : List Nat) : Code := Code.sub (bH Tryz.f150) p
noncomputable def mM : KK := dO PP (Tryz.f150).results.toList
noncomputable def Rk : KK := CQ (oE [1, 1, 1]) mM bD mM
noncomputable def xW : OV := Rk (ls [u, Z, u, u, x4, x5, x6] 23) H
noncomputable def IN : KK := CQ (oE [1, 1, 1, 1]) mM bD mM
noncomputable def Ri : KK := gC 1073741743 IN
noncomputable def xX : OV := IN (ls [u, u, u, u, x4, u, x6] 23) H
noncomputable def Rl : KK := CQ (oE [1, 1, 1, 0, 1]) Ri bD mM
noncomputable def xY : OV := Rl (ls [u, Z, u, u, x4, u, x6, u, u, u, u, u, u, u, x14, x15] 14) H
noncomputable def IQ : KX := BX 0 Ri bD
noncomputable def Ce : KX := A6 1073741743 IQ
noncomputable def IO : KK := KM (oE [1, 1, 1, 0, 1, 4, 5]) Ce mM
noncomputable def Rj : KK := gC C4 IO
noncomputable def mf : OV := IO (ls [u, Z, u, u, x4, u, x6, u, u, u, u, u, u, u, x14, x15] 14) H
noncomputable def Rm : KK := CQ (oE [1, 1, 1, 0, 1, 4, 5, 1, 1]) Rj Ce mM
noncomputable def xZ : OV := Rm (ls [u, Z, u, u, x4, u, x6, u, u, u, u, u, u, u, x14, x15] 14) H
noncomputable def IP : KK := CQ (oE [1, 1, 1, 0, 1, 4, 5, 1, 1, 1]) Rj Ce mM
noncomputable def aeV : KK := gC C4 IP
noncomputable def ya : OV := IP (ls [u, Z, u, u, x4, u, x6, u, u, u, u, u, u, u, x14, x15] 14) H
noncomputable def aeW : KX := BX 1 aeV Ce
noncomputable def sI : OV := IQ 0 (ls [u, u, u, u, x4, u, x6] 23) H
theorem lk : aw 1073741807 mM := rf
theorem UG : aw 1073741709 Rk := rc lk aD lk
theorem zg : aw 1073741743 IN := rc lk aD lk
theorem UH : aw C4 Rl := rc (cd zg) aD lk
theorem o8 : ∀ i, aw 1073741743 (IQ i) := rb (cd zg) aD
theorem tA : aw C4 IO := rl (cx o8) lk
theorem UI : aw C4 Rm := rc (cd tA) (cx o8) lk
theorem GX : aw C4 IP := rc (cd tA) (cx o8) lk
theorem UJ : ∀ i, aw C4 (aeW i) := rb (cd GX) (cx o8)
theorem BF : xX x4 x6 H =
 some (x6, H) :=
 (by kernel_rfl)
theorem BI : ya Z x4 x6 x14 x15 H =
 (ap .other .add x15 (vi 1)).bind fun a =>
 mf Z x4 x6 x14 a H :=
 (by kernel_rfl)
theorem BH : xZ Z x4 x6 x14 x15 H =
 ad [.n, .f 0] x6 fun a =>
 (ar a H).bind fun d =>
 (FF sC [Z] H).bind fun b =>
 bO (ar a b.2) (ar a H) <|
 Gi 1 1 [(.pointer none)] [(0, b.1)] b.2 fun e g =>
 (fj 1 8 d e g).bind fun c =>
 st 1 [.n, .f 0] x6 c.1 c.2 fun i =>
 ya Z x4 x6 x14 x15 i :=
 (pt rfl 0 GX (bt rfl (oE [1, 1, 1, 0, 1, 4, 5, 1, 1, 0, 4]) 1 UJ (by kernel_rfl)))
theorem xV : sI x4 x6 H = xX x4 x6 H :=
 (by kernel_rfl)
theorem qR : mf Z x4 x6 x14 x15 H =
 (ap .other .lss x15 x14).bind fun a =>
 av a
 (xZ Z x4 x6 x14 x15 H)
 (sI x4 x6 H) :=
 KN rfl tA (pt rfl 1 UI (by kernel_rfl))
theorem BG : xY Z x4 x6 x14 x15 H =
 mf Z x4 x6 x14 x15 H :=
 (bt rfl (oE [1, 1, 1, 0, 1, 4]) 0 o8 (li rfl (oE [1, 1, 1, 0, 1, 4, 5]) tA (by kernel_rfl)))
theorem BE : xW Z x4 x5 x6 H =
 xY Z x4 x6 x5 (vi 0) H :=
 (pt rfl 0 zg (pt rfl 0 UH (by kernel_rfl)))
noncomputable def Wc : OV := bh PP GG FF (oE []) (ls [Y, Z] 28) H mM bD mM
theorem J2 {r : Value × AH} (h : (
 (iv [Y, (vi 1)]).bind fun c =>
 (jT [c, (vi 16)]).bind fun a =>
 (FF vz [a] H).bind fun b =>
 ga [(0, 1), (1, 1)] [(.slice none 0 0), (.pointer none)] [(1, b.1)] fun d =>
 aQ (Value.cells d).toList b.2 fun e f =>
 xW Z (.pointer none) a e f) = some r) : FF sA [Y, Z] H = some r :=
 fo (t := Wc Y Z H) Tryz.func150 (by kernel_rfl) (Eq.trans (pt rfl 2 UG (by kernel_rfl)) h)
noncomputable def oF (p : List Nat) : Code := Code.sub (bH Tryz.f154) p
noncomputable def mN : KK := dO PP (Tryz.f154).results.toList
noncomputable def Rp : KK := CQ (oF [1, 1]) mN bD mN
noncomputable def abD : OV := Rp (ls [Y, Z, u, u, x4, x5] 24) H
noncomputable def IR : KK := CQ (oF [1, 1, 1]) mN bD mN
noncomputable def Rn : KK := gC 1073741775 IR
noncomputable def abE : OV := IR (ls [u, u, u, u, x4, x5] 24) H
noncomputable def Rq : KK := CQ (oF [1, 1, 0, 1]) Rn bD mN
noncomputable def abF : OV := Rq (ls [Y, Z, u, u, x4, x5, x6] 23) H
noncomputable def IU : KX := BX 0 Rn bD
noncomputable def Cf : KX := A6 1073741775 IU
noncomputable def IS : KK := KM (oF [1, 1, 0, 1, 4, 5]) Cf mN
noncomputable def Ro : KK := gC C5 IS
noncomputable def Kd : OV := IS (ls [Y, Z, u, u, x4, x5, x6] 23) H
noncomputable def Rr : KK := CQ (oF [1, 1, 0, 1, 4, 5, 1]) Ro Cf mN
noncomputable def abG : OV := Rr (ls [Y, Z, u, u, x4, x5, x6] 23) H
noncomputable def IT : KK := CQ (oF [1, 1, 0, 1, 4, 5, 1, 1]) Ro Cf mN
noncomputable def aeX : KK := gC C5 IT
noncomputable def abH : OV := IT (ls [Y, Z, u, u, x4, x5, x6] 23) H
noncomputable def aeY : KX := BX 1 aeX Cf
noncomputable def MG : OV := IU 0 (ls [u, u, u, u, x4, x5] 24) H
theorem ll : aw 1073741807 mN := rf
theorem UK : aw 1073741772 Rp := rc ll aD ll
theorem zh : aw 1073741775 IR := rc ll aD ll
theorem UL : aw C5 Rq := rc (cd zh) aD ll
theorem o9 : ∀ i, aw 1073741775 (IU i) := rb (cd zh) aD
theorem tB : aw C5 IS := rl (cx o9) ll
theorem UM : aw C5 Rr := rc (cd tB) (cx o9) ll
theorem GY : aw C5 IT := rc (cd tB) (cx o9) ll
theorem UN : ∀ i, aw C5 (aeY i) := rb (cd GY) (cx o9)
theorem Wl : abE x4 x5 H =
 some (x5, H) :=
 (by kernel_rfl)
theorem Wo : abH Y Z x4 x5 x6 H =
 (ap .other .add x6 (vi 1)).bind fun a =>
 Kd Y Z x4 x5 a H :=
 (by kernel_rfl)
theorem Wn : abG Y Z x4 x5 x6 H =
 ad [.n, .f 0] x5 fun a =>
 (ar a H).bind fun d =>
 (FF sB [Z] H).bind fun b =>
 bO (ar a b.2) (ar a H) <|
 ga [(0, 1), (1, 1), (2, 1), (3, 1)] [(.slice none 0 0), (vw 0), (vi 0), (vb false)] [(2, b.1), (3, (vb true))] fun e =>
 aQ (Value.cells e).toList b.2 fun g i =>
 Gi 1 1 [(.pointer none)] [(0, g)] i fun j k =>
 (fj 1 8 d j k).bind fun c =>
 st 1 [.n, .f 0] x5 c.1 c.2 fun l =>
 abH Y Z x4 x5 x6 l :=
 (pt rfl 0 GY (bt rfl (oF [1, 1, 0, 1, 4, 5, 1, 0, 4]) 1 UN (by kernel_rfl)))
theorem MH : MG x4 x5 H = abE x4 x5 H :=
 (by kernel_rfl)
theorem Hy : Kd Y Z x4 x5 x6 H =
 (iv [Y, (vi 1)]).bind fun a =>
 (jT [a, (vi 16)]).bind fun b =>
 (ap .other .lss x6 b).bind fun c =>
 av c
 (abG Y Z x4 x5 x6 H)
 (MG x4 x5 H) :=
 KN rfl tB (pt rfl 0 UM (by kernel_rfl))
theorem Wm : abF Y Z x4 x5 x6 H =
 Kd Y Z x4 x5 x6 H :=
 (bt rfl (oF [1, 1, 0, 1, 4]) 0 o9 (li rfl (oF [1, 1, 0, 1, 4, 5]) tB (by kernel_rfl)))
theorem Wj : abD Y Z x4 x5 H =
 abF Y Z x4 x5 (vi 0) H :=
 (pt rfl 0 zh (pt rfl 0 UL (by kernel_rfl)))
noncomputable def rNQ : OV := bh PP GG FF (oF []) (ls [Y, Z] 28) H mN bD mN
theorem ajX {r : Value × AH} (h : (
 ga [(0, 1)] [(.slice none 0 0)] [] fun a =>
 aQ (Value.cells a).toList H fun b c =>
 abD Y Z (.pointer none) b c) = some r) : FF aaU [Y, Z] H = some r :=
 fo (t := rNQ Y Z H) Tryz.func154 (by kernel_rfl) (Eq.trans (pt rfl 1 UK (by kernel_rfl)) h)
theorem zz {r : Value × AH} (h : (
 aQ (Value.cells x2).toList H fun b a =>
 (ay 3 b a).bind fun c =>
 (FF dy [Y, Z, (vi 6), c] a).bind fun d =>
 some (Value.tuple #[], d.2)) = some r) : FF gq [Y, Z, x2] H = some r :=
 fo Tryz.func155 (by kernel_rfl) h
theorem MN {r : Value × AH} (h : (
 (iv [x2, (vi 1)]).bind fun c =>
 (jT [c, (vi 8)]).bind fun a =>
 (oa [(vi 0), (vi 0), (vi 0)] 3 24 a a H).bind fun b =>
 ga [(0, 1), (1, 1), (2, 1)] [(.pointer none), (vi 0), (.slice none 0 0)] [(0, Y), (1, Z), (2, b.1)] fun d =>
 aQ (Value.cells d).toList b.2 fun e f =>
 some (e, f)) = some r) : FF vy [Y, Z, x2] H = some r :=
 fo Tryz.func156 (by kernel_rfl) h
theorem EV {r : Value × AH} (h : (
 aQ (Value.cells x3).toList H fun c a =>
 ld [.n, .f 2] Y a fun d =>
 (ay 3 c a).bind fun e =>
 ga [(0, 1), (1, 1), (2, 3)] [(vi 0), (vi 0), (vi 0), (vi 0), (vi 0)] [(0, Z), (1, x2), (2, e)] fun g =>
 Gi 1 5 [(vi 0), (vi 0), (vi 0), (vi 0), (vi 0)] [(0, g)] a fun i j =>
 (fj 5 40 d i j).bind fun b =>
 st 1 [.n, .f 2] Y b.1 b.2 fun k =>
 some (Value.tuple #[], k)) = some r) : FF cq [Y, Z, x2, x3] H = some r :=
 fo Tryz.func157 (by kernel_rfl) h
theorem EY {r : Value × AH} (h : (
 (iv [x2, (vi 1)]).bind fun c =>
 (jT [c, (vi 8)]).bind fun a =>
 (oa [(vi 0), (vi 0), (vi 0)] 3 24 a a H).bind fun b =>
 ga [(0, 1), (1, 1), (2, 1), (3, 1)] [(.pointer none), (vi 0), (vi 0), (.slice none 0 0)] [(0, Y), (1, Z), (2, a), (3, b.1)] fun d =>
 aQ (Value.cells d).toList b.2 fun e f =>
 some (e, f)) = some r) : FF oR [Y, Z, x2] H = some r :=
 fo Tryz.func158 (by kernel_rfl) h
theorem zy {r : Value × AH} (h : (
 aQ (Value.cells x2).toList H fun b c =>
 (ay 3 b c).bind fun d =>
 (FF dy [Y, Z, (vi 2), d] c).bind fun a =>
 ld [.n, .f 0] Y a.2 fun e =>
 (ay 3 b a.2).bind fun g =>
 ga [(0, 1)] [(vw 0)] [(0, x3)] fun i =>
 (fm (.flat 3) e g i a.2).bind fun j =>
 some (Value.tuple #[], j)) = some r) : FF dH [Y, Z, x2, x3] H = some r :=
 fo Tryz.func159 (by kernel_rfl) h
theorem zO {r : Value × AH} (h : (
 aQ (Value.cells x2).toList H fun b c =>
 (ay 3 b c).bind fun e =>
 (FF cq [Y, Z, (vi 2), e] c).bind fun d =>
 (ay 3 b d.2).bind fun g =>
 (FF EF [Y, g] d.2).bind fun a =>
 ld [.n, .f 1] Y a.2 fun j =>
 st 1 [.i 1 a.1] j x3 a.2 fun k =>
 some (Value.tuple #[], k)) = some r) : FF eM [Y, Z, x2, x3] H = some r :=
 fo Tryz.func160 (by kernel_rfl) h
theorem z9 {r : Value × AH} (h : (
 aQ [(vi 0), (.slice none 0 0), (vi 0), (vw 0)] H fun a g =>
 (FF gJ [Y] g).bind fun b =>
 av b.1
 ((FF dq [Y, Z, (vi 5)] b.2).bind fun c =>
 (af c.1 0).bind fun i =>
 (af c.1 1).bind fun j =>
 (cf 4 a i c.2).bind fun e =>
 (ay 4 a e).bind fun k => some (Value.tuple #[k, j], e))
 ((FF da [Y, Z] b.2).bind fun d =>
 (af d.1 0).bind fun l =>
 (af d.1 1).bind fun m =>
 (cf 4 a l d.2).bind fun f =>
 (ay 4 a f).bind fun n => some (Value.tuple #[n, m], f))) = some r) : FF eS [Y, Z] H = some r :=
 fo Tryz.func161 (by kernel_rfl) h
noncomputable def IW (p : List Nat) : Code := Code.sub (bH Tryz.f162) p
noncomputable def uO : KK := dO PP (Tryz.f162).results.toList
noncomputable def Rs : KK := CQ (IW [1]) uO bD uO
noncomputable def q7 : OV := Rs (ls [Y, Z, u, u, x4, x5] 53) H
noncomputable def IX : KK := CQ (IW [1, 1]) uO bD uO
noncomputable def ae0 : KK := gC Qz IX
noncomputable def q8 : OV := IX (ls [Y, Z, u, u, x4, x5] 53) H
noncomputable def ae1 : KX := BX 0 ae0 bD
theorem wM : aw 576460752303423439 uO := rf
theorem UP : aw Qz Rs := rc wM aD wM
theorem GZ : aw Qz IX := rc wM aD wM
theorem UQ : ∀ i, aw Qz (ae1 i) := rb (cd GZ) aD
theorem v8 : q8 Y Z x4 x5 H =
 (FF cP [Y, Z] H).bind fun a =>
 (af a.1 0).bind fun c =>
 (af a.1 1).bind fun d =>
 (cf 4 x4 c a.2).bind fun b =>
 (ay 4 x4 b).bind fun e => some (Value.tuple #[e, d], b) :=
 (by kernel_rfl)
theorem v7 : q7 Y Z x4 x5 H =
 (FF gJ [Y] H).bind fun a =>
 av a.1
 ((FF dq [Y, Z, (vi 1)] a.2).bind fun d =>
 (af d.1 0).bind fun l =>
 (af d.1 1).bind fun m =>
 (cf 4 x4 l d.2).bind fun i =>
 (ay 4 x4 i).bind fun o => some (Value.tuple #[o, m], i))
 (ld [.n, .f 2, .f 2] Y a.2 fun p =>
 (ap .other .lss p (vi 1)).bind fun b =>
 (gV b false Y).bind fun q =>
 fF b false  [.n, .f 2, .f 2] q a.2 fun s =>
 (gB b false (ap .other .gtr s (vi 65536))).bind fun t =>
 (aV b (vb true) t).bind fun w =>
 av w
 ((FF dq [Y, Z, (vi 4)] a.2).bind fun e =>
 (af e.1 0).bind fun y =>
 (af e.1 1).bind fun z =>
 (cf 4 x4 y e.2).bind fun j =>
 (ay 4 x4 j).bind fun A => some (Value.tuple #[A, z], j))
 (ld [.n, .f 2, .f 3] Y a.2 fun B =>
 (ap .other .lss B (vi 1)).bind fun c =>
 (gV c false Y).bind fun C =>
 fF c false  [.n, .f 2, .f 3] C a.2 fun D =>
 (gB c false (ap .other .gtr D (vi 8))).bind fun E =>
 (aV c (vb true) E).bind fun G =>
 av G
 ((FF dq [Y, Z, (vi 1)] a.2).bind fun g =>
 (af g.1 0).bind fun I =>
 (af g.1 1).bind fun J =>
 (cf 4 x4 I g.2).bind fun k =>
 (ay 4 x4 k).bind fun K => some (Value.tuple #[K, J], k))
 (q8 Y Z x4 x5 a.2))) :=
 (pt rfl 0 GZ (bt rfl (IW [1, 0, 4]) 0 UQ (by kernel_rfl)))
noncomputable def Kl : OV := bh PP GG FF (IW []) (ls [Y, Z] 57) H uO bD uO
theorem BY {r : Value × AH} (h : (
 aQ [(vi 0), (.slice none 0 0), (vi 0), (vw 0)] H fun a b =>
 q7 Y Z a (vb false) b) = some r) : FF fS [Y, Z] H = some r :=
 fo (t := Kl Y Z H) Tryz.func162 (by kernel_rfl) (Eq.trans (pt rfl 0 UP (by kernel_rfl)) h)
end
section
variable (x0 x1 x2 x3 x4 x5 x6 x7 x8 x9 x10 x17 x19 x30 : Value) (H : AH)
noncomputable def oG (p : List Nat) : Code := Code.sub (bH Tryz.f163) p
noncomputable def oH : KK := dO PP (Tryz.f163).results.toList
noncomputable def Rt : KK := CQ (oG [1, 1]) oH bD oH
noncomputable def lC : OV := Rt (ls [x0, x1, x2, u, u, u, x6, x7] 128) H
noncomputable def IY : KK := CQ (oG [1, 1, 1]) oH bD oH
noncomputable def wN : KK := gC TW IY
noncomputable def cE : OV := IY (ls [u, u, u, u, u, u, x6] 129) H
noncomputable def Ru : KK := CQ (oG [1, 1, 0, 1]) wN bD oH
noncomputable def g9 : OV := Ru (ls [x0, x1, x2, u, u, u, x6, x7, u, u, u, u, u, u, u, u, u, u, u, x19] 116) H
noncomputable def Rx : KX := BX 0 wN bD
noncomputable def IZ : KX := A6 TW Rx
noncomputable def Rv : KK := CQ (oG [1, 1, 0, 1, 4, 1]) wN IZ oH
noncomputable def lD : OV := Rv (ls [x0, x1, x2, u, u, u, x6, x7, u, u, u, u, u, u, u, u, u, u, u, x19, u, u, u, u, u, u, u, u, u, u, x30] 105) H
noncomputable def Rw : KK := CQ (oG [1, 1, 0, 1, 4, 1, 2, 1]) wN IZ oH
noncomputable def lE : OV := Rw (ls [x0, x1, u, u, u, u, x6, u, x8, x9] 126) H
noncomputable def ae2 : KX := BX 1 wN IZ
theorem mO : aw TW oH := rf
theorem UR : aw 87112285931760246646623899502532662132536 Rt := rc mO aD mO
theorem mn : aw TW IY := rc mO aD mO
theorem US : aw 87112285931760246646623899502532661608248 Ru := rc (cd mn) aD mO
theorem tC : ∀ i, aw TW (Rx i) := rb (cd mn) aD
theorem UT : aw 87112285931760246646623899502531587866424 Rv := rc (cd mn) (cx tC) mO
theorem UU : aw 87112285931760246646623899502532662131900 Rw := rc (cd mn) (cx tC) mO
theorem UV : ∀ i, aw TW (ae2 i) := rb (cd mn) (cx tC)
theorem cA : cE x6 H =
 some ((vb false), H) :=
 (by kernel_rfl)
theorem pL : lE x0 x1 x6 x8 x9 H =
 av x8
 ((FF bC [x0, x1, (vi 6)] H).bind fun a =>
 st 1 [.n, .f 6] x0 (vi 6) a.2 fun b =>
 cE x6 b)
 ((gV x9 true x0).bind fun c =>
 fF x9 true  [.n, .f 8] c H fun d =>
 (gB x9 true (ap .other .lss d (vi 0))).bind fun e =>
 (aV x9 e (vb false)).bind fun g =>
 av g
 ((FF bC [x0, x1, (vi 7)] H).bind fun i =>
 st 1 [.n, .f 6] x0 (vi 6) i.2 fun j =>
 cE x6 j)
 (av x9
 (st 1 [.n, .f 6] x0 (vi 4) H fun k =>
 cE x6 k)
 (cE x6 H))) :=
 (bt rfl (oG [1, 1, 0, 1, 4, 1, 2, 1, 4]) 1 UV (by kernel_rfl))
theorem dF : lD x0 x1 x2 x6 x7 x19 x30 H =
 av x30
 ((FF EG [x0] H).bind fun b =>
 (af b.1 0).bind fun d =>
 (af b.1 1).bind fun e =>
 lE x0 x1 x6 d e b.2)
 ((ap .other .eql x19 (vi 4)).bind fun g =>
 av g
 (ld [.n, .f 0, .f 4] x7 H fun i =>
 ld [.n, .f 2, .f 2] x0 H fun j =>
 (FF gA [i, j] H).bind fun a =>
 (af a.1 0).bind fun k =>
 (af a.1 1).bind fun K =>
 ld [.n, .f 1] x0 a.2 fun l =>
 ld [.n, .f 2, .f 1] x0 a.2 fun m =>
 ld [.n, .f 2, .f 3] x0 a.2 fun o =>
 ga [(0, 1), (1, 1), (2, 1)] [(vi 0), (vi 0), (vw 0)] [(0, m), (1, o), (2, k)] fun p =>
 (FF il [x7, l, p] a.2).bind fun c =>
 st 1 [.n, .f 10] x0 c.1 c.2 fun q =>
 st 1 [.n, .f 6] x0 (vi 5) q fun s =>
 cE x6 s)
 ((ap .other .eql x19 (vi 5)).bind fun t =>
 av t
 (ld [.n, .f 7] x7 H fun w =>
 ld [.n, .f 1] x0 H fun y =>
 ld [.n, .f 8] x0 H fun z =>
 ld [.n, .f 2, .f 1] x0 H fun A =>
 ld [.n, .f 10] x0 H fun B =>
 (FF i4 [w, y, x2, z, A, B] H).bind fun C =>
 (FF bC [x0, x1, (vi 0)] C.2).bind fun D =>
 st 1 [.n, .f 6] x0 (vi 6) D.2 fun E =>
 cE x6 E)
 (ld [.n, .f 7] x7 H fun G =>
 ld [.n, .f 1] x0 H fun I =>
 (FF en [G, I, x2] H).bind fun J =>
 some ((vb true), J.2)))) :=
 (ct rfl (oG [1, 1, 0, 1, 4, 1, 2]) (oG [1, 1, 0, 1, 4, 1, 3]) (.tmp 30) (pt rfl 0 UU (by kernel_rfl)) (by kernel_rfl))
theorem dE : g9 x0 x1 x2 x6 x7 x19 H =
 (ap .other .eql x19 (vi 3)).bind fun a =>
 lD x0 x1 x2 x6 x7 x19 a H :=
 (bt rfl (oG [1, 1, 0, 1, 4]) 0 tC (pt rfl 0 UT (by kernel_rfl)))
theorem pK : lC x0 x1 x2 x6 x7 H =
 ld [.n, .f 6] x0 H fun a =>
 g9 x0 x1 x2 x6 x7 a H :=
 (pt rfl 0 mn (pt rfl 0 US (by kernel_rfl)))
noncomputable def yo : OV := bh PP GG FF (oG []) (ls [x0, x1, x2] 133) H oH bD oH
theorem sQ {r : Value × AH} (h : (
 ld [.n, .f 0] x0 H fun a =>
 lC x0 x1 x2 (vb false) a H) = some r) : FF lT [x0, x1, x2] H = some r :=
 fo (t := yo x0 x1 x2 H) Tryz.func163 (by kernel_rfl) (Eq.trans (pt rfl 1 UR (by kernel_rfl)) h)
noncomputable def DC (p : List Nat) : Code := Code.sub (bH Tryz.f164) p
noncomputable def rS : KK := dO PP (Tryz.f164).results.toList
noncomputable def Rz : KK := CQ (DC [1, 1]) rS bD rS
noncomputable def pM : OV := Rz (ls [x0, x1, x2, u, u, u, x6, x7] 153) H
noncomputable def I0 : KK := CQ (DC [1, 1, 1]) rS bD rS
noncomputable def Ry : KK := gC ad9 I0
noncomputable def bA : OV := I0 (ls [u, u, u, u, u, u, x6] 154) H
noncomputable def RA : KK := CQ (DC [1, 1, 0, 1]) Ry bD rS
noncomputable def kM : OV := RA (ls [x0, x1, x2, u, u, u, x6, x7, u, u, u, u, u, u, u, u, u, x17] 143) H
noncomputable def ae3 : KX := BX 0 Ry bD
theorem rV : aw ad9 rS := rf
theorem UW : aw 2923003274661805836407369665432566039311865085752 Rz := rc rV aD rV
theorem zi : aw ad9 I0 := rc rV aD rV
theorem UX : aw 2923003274661805836407369665432566039311864954680 RA := rc (cd zi) aD rV
theorem UY : ∀ i, aw ad9 (ae3 i) := rb (cd zi) aD
theorem bu : bA x6 H =
 some ((vb false), H) :=
 (by kernel_rfl)
theorem cw : kM x0 x1 x2 x6 x7 x17 H =
 (ap .other .eql x17 (vi 3)).bind fun q =>
 av q
 ((FF EG [x0] H).bind fun c =>
 (af c.1 0).bind fun s =>
 (af c.1 1).bind fun t =>
 av s
 (st 1 [.n, .f 6] x0 (vi 4) c.2 fun w =>
 bA x6 w)
 (av t
 ((FF bC [x0, x1, (vi 5)] c.2).bind fun y =>
 st 1 [.n, .f 6] x0 (vi 10) y.2 fun z =>
 bA x6 z)
 (bA x6 c.2)))
 ((ap .other .eql x17 (vi 4)).bind fun A =>
 av A
 (st 1 [.n, .f 6] x0 (vi 5) H fun B =>
 (FF eR [x0] B).bind fun d =>
 (ap .other .eql d.1 (vi 0)).bind fun C =>
 av C
 (st 1 [.n, .f 6] x0 (vi 8) d.2 fun D =>
 bA x6 D)
 (bA x6 d.2))
 ((ap .other .eql x17 (vi 5)).bind fun E =>
 av E
 (ld [.n, .f 1] x0 H fun G =>
 (FF eN [x7, G] H).bind fun p =>
 st 1 [.n, .f 13] x0 p.1 p.2 fun I =>
 st 1 [.n, .f 6] x0 (vi 6) I fun e =>
 ld [.n, .f 13] x0 e fun J =>
 (ap .other .rem J (vw 2)).bind fun K =>
 (ap .other .eql K (vw 1)).bind fun L =>
 av L
 (st 1 [.n, .f 6] x0 (vi 4) e fun M =>
 bA x6 M)
 (bA x6 e))
 ((ap .other .eql x17 (vi 6)).bind fun N =>
 av N
 (st 1 [.n, .f 6] x0 (vi 7) H fun O =>
 st 1 [.n, .f 16] x0 x1 O fun P =>
 (FF eR [x0] P).bind fun g =>
 (ap .other .eql g.1 (vi 0)).bind fun Q =>
 av Q
 (st 1 [.n, .f 6] x0 (vi 8) g.2 fun R =>
 bA x6 R)
 (bA x6 g.2))
 ((ap .other .eql x17 (vi 7)).bind fun S =>
 av S
 (st 1 [.n, .f 6] x0 (vi 4) H fun i =>
 ld [.n, .f 1] x0 i fun T =>
 (FF eN [x7, T] i).bind fun a =>
 ad [.n, .f 13] x0 fun j =>
 (ar j a.2).bind fun U =>
 bO (ar j i) (ar j a.2) <|
 (ap .other .eql a.1 U).bind fun V =>
 av V
 (ld [.n, .f 16] x0 a.2 fun W =>
 (FF bC [x0, W, (vi 8)] a.2).bind fun X =>
 st 1 [.n, .f 6] x0 (vi 10) X.2 fun Y =>
 bA x6 Y)
 (bA x6 a.2))
 ((ap .other .eql x17 (vi 8)).bind fun Z =>
 av Z
 (st 1 [.n, .f 6] x0 (vi 4) H fun k =>
 (FF bX [x0] k).bind fun b =>
 ad [.n, .f 1] x0 fun l =>
 (ar l b.2).bind fun a0 =>
 bO (ar l k) (ar l b.2) <|
 ad [.n, .f 11] x0 fun m =>
 (ar m b.2).bind fun a1 =>
 bO (ar m k) (ar m b.2) <|
 (FF i3 [b.1, a0, a1, (vi 2)] b.2).bind fun o =>
 av o.1
 ((FF bC [x0, x1, (vi 0)] o.2).bind fun a2 =>
 st 1 [.n, .f 6] x0 (vi 9) a2.2 fun a3 =>
 bA x6 a3)
 (bA x6 o.2))
 ((ap .other .eql x17 (vi 9)).bind fun a4 =>
 av a4
 (ld [.n, .f 7] x7 H fun a5 =>
 ld [.n, .f 1] x0 H fun a6 =>
 ld [.n, .f 7] x0 H fun a7 =>
 (FF jO [a5, a6, x2, a7] H).bind fun a8 =>
 st 1 [.n, .f 6] x0 (vi 10) a8.2 fun a9 =>
 bA x6 a9)
 (ld [.n, .f 7] x7 H fun b0 =>
 ld [.n, .f 1] x0 H fun b1 =>
 (FF en [b0, b1, x2] H).bind fun b2 =>
 some ((vb true), b2.2)))))))) :=
 (bt rfl (DC [1, 1, 0, 1, 4]) 0 UY (by kernel_rfl))
theorem ua : pM x0 x1 x2 x6 x7 H =
 ld [.n, .f 6] x0 H fun a =>
 kM x0 x1 x2 x6 x7 a H :=
 (pt rfl 0 zi (pt rfl 0 UX (by kernel_rfl)))
noncomputable def Gp : OV := bh PP GG FF (DC []) (ls [x0, x1, x2] 158) H rS bD rS
theorem z4 {r : Value × AH} (h : (
 ld [.n, .f 0] x0 H fun a =>
 pM x0 x1 x2 (vb false) a H) = some r) : FF qQ [x0, x1, x2] H = some r :=
 fo (t := Gp x0 x1 x2 H) Tryz.func164 (by kernel_rfl) (Eq.trans (pt rfl 1 UW (by kernel_rfl)) h)
theorem EQ {r : Value × AH} (h : (
 (iv [x2, (vi 1)]).bind fun a =>
 (jT [a, (vi 8)]).bind fun b =>
 ga [(0, 1), (1, 1), (2, 1), (3, 1), (4, 1), (5, 1)] [(vi 0), (vi 0), (vw 0), (.slice none 0 0), (vw 0), (vw 0)] [(0, x0), (2, x1), (1, b)] fun c =>
 aQ (Value.cells c).toList H fun d e =>
 some (d, e)) = some r) : FF oN [x0, x1, x2] H = some r :=
 fo Tryz.func165 (by kernel_rfl) h
theorem Iu {r : Value × AH} (h : (
 aQ [(vi 0), (.slice none 0 0), (vi 0), (vw 0)] H fun b d =>
 (FF mw [x0, x1, x2] d).bind fun e =>
 (FF mt [x0, x2] e.2).bind fun a =>
 (af a.1 0).bind fun f =>
 (af a.1 1).bind fun g =>
 (cf 4 b f a.2).bind fun c =>
 (ay 4 b c).bind fun i => some (Value.tuple #[i, g], c)) = some r) : FF jq [x0, x1, x2] H = some r :=
 fo Tryz.func167 (by kernel_rfl) h
noncomputable def I1 (p : List Nat) : Code := Code.sub (bH Tryz.f168) p
noncomputable def uP : KK := dO PP (Tryz.f168).results.toList
noncomputable def RB : KK := CQ (I1 [1, 1]) uP bD uP
noncomputable def Dk : OV := RB (ls [x0, u, u, u, x4, x5, x6] 27) H
noncomputable def I3 : KK := CQ (I1 [1, 1, 1]) uP bD uP
noncomputable def ae4 : KK := gC 17179869134 I3
noncomputable def Dl : OV := I3 (ls [x0, u, u, u, x4, x5] 28) H
noncomputable def ae5 : KX := BX 0 ae4 bD
theorem wO : aw 17179869135 uP := rf
theorem UZ : aw 17179869070 RB := rc wO aD wO
theorem G0 : aw 17179869134 I3 := rc wO aD wO
theorem U0 : ∀ i, aw 17179869134 (ae5 i) := rb (cd G0) aD
theorem F4 : Dl x0 x4 x5 H =
 (FF bJ [x0, (.func (.func kz) #[x0] #[])] H).bind fun a =>
 (af a.1 0).bind fun c =>
 (af a.1 1).bind fun d =>
 (cf 4 x4 c a.2).bind fun b =>
 (ay 4 x4 b).bind fun e => some (Value.tuple #[e, d], b) :=
 (by kernel_rfl)
theorem F3 : Dk x0 x4 x5 x6 H =
 ld [.n, .f 10] x0 H fun e =>
 av e
 ((FF bJ [x0, (.func (.func ii) #[x0] #[])] H).bind fun a =>
 (af a.1 0).bind fun g =>
 (af a.1 1).bind fun i =>
 (cf 4 x4 g a.2).bind fun c =>
 (ay 4 x4 c).bind fun j => some (Value.tuple #[j, i], c))
 (av x6
 ((FF bJ [x0, (.func (.func dn) #[x0] #[])] H).bind fun b =>
 (af b.1 0).bind fun k =>
 (af b.1 1).bind fun l =>
 (cf 4 x4 k b.2).bind fun d =>
 (ay 4 x4 d).bind fun m => some (Value.tuple #[m, l], d))
 (Dl x0 x4 x5 H)) :=
 (pt rfl 0 G0 (bt rfl (I1 [1, 1, 0, 4]) 0 U0 (by kernel_rfl)))
noncomputable def aeH : OV := bh PP GG FF (I1 []) (ls [x0, x1] 32) H uP bD uP
theorem NW {r : Value × AH} (h : (
 aQ [(vi 0), (.slice none 0 0), (vi 0), (vw 0)] H fun b c =>
 (FF xC [x0] c).bind fun a =>
 Dk x0 b (vb false) a.1 a.2) = some r) : FF kz [x0, x1] H = some r :=
 fo (t := aeH x0 x1 H) Tryz.func168 (by kernel_rfl) (Eq.trans (pt rfl 1 UZ (by kernel_rfl)) h)
noncomputable def gT (p : List Nat) : Code := Code.sub (bH Tryz.f169) p
noncomputable def gU : KK := dO PP (Tryz.f169).results.toList
noncomputable def RD : KK := CQ (gT [1, 1]) gU bD gU
noncomputable def abI : OV := RD (ls [x0, x1, x2, u, u, u, u, x7, x8] 81) H
noncomputable def I4 : KK := CQ (gT [1, 1, 1]) gU bD gU
noncomputable def RC : KK := gC K9 I4
noncomputable def Px : OV := I4 (ls [x0, x1, x2, u, u, u, u, x7, x8] 81) H
noncomputable def RE : KK := CQ (gT [1, 1, 1, 1, 1]) gU bD gU
noncomputable def abJ : OV := RE (ls [x0, x1, x2, u, u, u, u, x7, x8, u, x10] 79) H
noncomputable def I5 : KK := CQ (gT [1, 1, 1, 1, 1, 1]) gU bD gU
noncomputable def ae6 : KK := gC Il I5
noncomputable def Pz : OV := I5 (ls [x0, x1, x2, u, u, u, u, x7, x8, u, x10] 79) H
noncomputable def DH : KX := BX 2 ae6 bD
noncomputable def DJ : KX := A6 Il DH
noncomputable def DD : KK := KM (gT [1, 1, 1, 1, 1, 0, 4, 5]) DJ gU
noncomputable def LG : KK := gC Il DD
noncomputable def Cv : OV := DD (ls [x0, x1, x2, u, u, u, u, x7, x8, u, x10] 79) H
noncomputable def LI : KK := CQ (gT [1, 1, 1, 1, 1, 0, 4, 5, 1]) LG DJ gU
noncomputable def SZ : OV := LI (ls [x0, x1, x2, u, u, u, u, x7, x8, u, x10] 79) H
noncomputable def Yy : KX := BX 3 LG DJ
noncomputable def Hz : OV := DH 2 (ls [x0, x1, x2, u, u, u, u, x7, x8, u, x10] 79) H
noncomputable def LJ : KK := CQ (gT [1, 1, 0, 1]) RC bD gU
noncomputable def S0 : OV := LJ (ls [x0, x1, x2, u, u, u, u, x7, x8, x9] 80) H
noncomputable def DI : KX := BX 0 RC bD
noncomputable def wP : KX := A6 K9 DI
noncomputable def DE : KK := KM (gT [1, 1, 0, 1, 4, 5]) wP gU
noncomputable def LH : KK := gC ND DE
noncomputable def Cw : OV := DE (ls [x0, x1, x2, u, u, u, u, x7, x8, x9] 80) H
noncomputable def LK : KK := CQ (gT [1, 1, 0, 1, 4, 5, 1]) LH wP gU
noncomputable def S2 : OV := LK (ls [x0, x1, x2, u, u, u, u, x7, x8, x9] 80) H
noncomputable def DF : KK := CQ (gT [1, 1, 0, 1, 4, 5, 1, 1]) LH wP gU
noncomputable def Yx : KK := gC ND DF
noncomputable def Cx : OV := DF (ls [x0, x1, x2, u, u, u, u, x7, x8, x9] 80) H
noncomputable def Yz : KX := BX 1 Yx wP
noncomputable def HD : OV := DI 0 (ls [x0, x1, x2, u, u, u, u, x7, x8] 81) H
theorem eZ : aw 1237940039285380274899124223 gU := rf
theorem U1 : aw K9 RD := rc eZ aD eZ
theorem zj : aw K9 I4 := rc eZ aD eZ
theorem U2 : aw Il RE := rc eZ aD eZ
theorem G1 : aw Il I5 := rc eZ aD eZ
theorem p3 : ∀ i, aw Il (DH i) := rb (cd G1) aD
theorem pZ : aw Il DD := rl (cx p3) eZ
theorem Ok : aw Il LI := rc (cd pZ) (cx p3) eZ
theorem On : ∀ i, aw Il (Yy i) := rb (cd pZ) (cx p3)
theorem Ol : aw ND LJ := rc (cd zj) aD eZ
theorem mP : ∀ i, aw K9 (DI i) := rb (cd zj) aD
theorem p0 : aw ND DE := rl (cx mP) eZ
theorem Om : aw ND LK := rc (cd p0) (cx mP) eZ
theorem DG : aw ND DF := rc (cd p0) (cx mP) eZ
theorem Oo : ∀ i, aw ND (Yz i) := rb (cd DG) (cx mP)
theorem Ws : Pz x0 x1 x2 x7 x8 x10 H =
 ld [.n, .f 13] x0 H fun d =>
 (dT 7 d none (some x10)).bind fun e =>
 (fj 7 72 (.slice none 0 0) e H).bind fun a =>
 (ay 4 x7 a.2).bind fun g =>
 ga [(0, 1), (1, 1), (2, 1), (3, 4)] [(vi 0), (vi 0), (vi 0), (vi 0), (.slice none 0 0), (vi 0), (vw 0)] [(0, x1), (1, x2), (2, x8), (3, g)] fun i =>
 Gi 1 7 [(vi 0), (vi 0), (vi 0), (vi 0), (.slice none 0 0), (vi 0), (vw 0)] [(0, i)] a.2 fun j k =>
 (fj 7 72 a.1 j k).bind fun b =>
 ld [.n, .f 13] x0 b.2 fun l =>
 (dT 7 l (some x10) none).bind fun m =>
 (fj 7 72 b.1 m b.2).bind fun c =>
 st 1 [.n, .f 13] x0 c.1 c.2 fun o =>
 some (Value.tuple #[], o) :=
 (by kernel_rfl)
theorem Py : SZ x0 x1 x2 x7 x8 x10 H =
 (ap .other .sub x10 (vi 1)).bind fun a =>
 Cv x0 x1 x2 x7 x8 a H :=
 (bt rfl (gT [1, 1, 1, 1, 1, 0, 4, 5, 1, 4]) 3 On (by kernel_rfl))
theorem yp : Hz x0 x1 x2 x7 x8 x10 H = Pz x0 x1 x2 x7 x8 x10 H :=
 (by kernel_rfl)
theorem E4 : Cv x0 x1 x2 x7 x8 x10 H =
 (ap .other .gtr x10 (vi 0)).bind fun a =>
 (gV a true x0).bind fun b =>
 fF a true  [.n, .f 13] b H fun c =>
 (gV a true x10).bind fun d =>
 (gB a true (ap .other .sub d (vi 1))).bind fun e =>
 fF a true  [.i 7 e, .f 0] c H fun g =>
 (gV a true x1).bind fun j =>
 (gB a true (ap .other .gtr g j)).bind fun k =>
 (aV a k (vb false)).bind fun l =>
 av l
 (SZ x0 x1 x2 x7 x8 x10 H)
 (Hz x0 x1 x2 x7 x8 x10 H) :=
 KN rfl pZ (pt rfl 0 Ok (by kernel_rfl))
theorem Wr : abJ x0 x1 x2 x7 x8 x10 H =
 Cv x0 x1 x2 x7 x8 x10 H :=
 (pt rfl 0 G1 (bt rfl (gT [1, 1, 1, 1, 1, 0, 4]) 2 p3 (li rfl (gT [1, 1, 1, 1, 1, 0, 4, 5]) pZ (by kernel_rfl))))
theorem Wq : Px x0 x1 x2 x7 x8 H =
 ld [.f 1] x7 H fun c =>
 (fj 3 24 (.slice none 0 0) c H).bind fun a =>
 st 1 [.f 1] x7 a.1 a.2 fun b =>
 ld [.n, .f 13] x0 b fun d =>
 iQ d fun e =>
 abJ x0 x1 x2 x7 x8 e b :=
 (pt rfl 1 U2 (by kernel_rfl))
theorem PC : Cx x0 x1 x2 x7 x8 x9 H =
 (ap .other .add x9 (vi 2)).bind fun a =>
 Cw x0 x1 x2 x7 x8 a H :=
 (by kernel_rfl)
theorem PB : S2 x0 x1 x2 x7 x8 x9 H =
 ld [.n, .f 12] x0 H fun a =>
 ld [.i 1 x9] a H fun b =>
 (ap .other .eql b x2).bind fun c =>
 av c
 (ld [.n, .f 12] x0 H fun d =>
 (ap .other .add x9 (vi 1)).bind fun e =>
 ld [.i 1 e] d H fun g =>
 Cx x0 x1 x2 x7 g x9 H)
 (Cx x0 x1 x2 x7 x8 x9 H) :=
 (pt rfl 0 DG (bt rfl (gT [1, 1, 0, 1, 4, 5, 1, 0, 4]) 1 Oo (by kernel_rfl)))
theorem Ke : HD x0 x1 x2 x7 x8 H = Px x0 x1 x2 x7 x8 H :=
 (by kernel_rfl)
theorem E5 : Cw x0 x1 x2 x7 x8 x9 H =
 ld [.n, .f 12] x0 H fun a =>
 iQ a fun b =>
 (ap .other .lss x9 b).bind fun c =>
 av c
 (S2 x0 x1 x2 x7 x8 x9 H)
 (HD x0 x1 x2 x7 x8 H) :=
 KN rfl p0 (pt rfl 0 Om (by kernel_rfl))
theorem PA : S0 x0 x1 x2 x7 x8 x9 H =
 Cw x0 x1 x2 x7 x8 x9 H :=
 (bt rfl (gT [1, 1, 0, 1, 4]) 0 mP (li rfl (gT [1, 1, 0, 1, 4, 5]) p0 (by kernel_rfl)))
theorem Wp : abI x0 x1 x2 x7 x8 H =
 S0 x0 x1 x2 x7 x8 (vi 0) H :=
 (pt rfl 0 zj (pt rfl 0 Ol (by kernel_rfl)))
noncomputable def rPN : OV := bh PP GG FF (gT []) (ls [x0, x1, x2, x3] 86) H gU bD gU
theorem ajY {r : Value × AH} (h : (
 aQ (Value.cells x3).toList H fun a b =>
 abI x0 x1 x2 a (vi 0) b) = some r) : FF aaV [x0, x1, x2, x3] H = some r :=
 fo (t := rPN x0 x1 x2 x3 H) Tryz.func169 (by kernel_rfl) (Eq.trans (pt rfl 1 U1 (by kernel_rfl)) h)
theorem yl {r : Value × AH} (h : (
 ad [.n, .f 0] x0 fun b =>
 (ar b H).bind fun d =>
 (FF cz [(vi 10), x2, x3] H).bind fun c =>
 bO (ar b c.2) (ar b H) <|
 (FF ej [d, x1, c.1] c.2).bind fun a =>
 (ap .other .eql a.1 (vw 0)).bind fun e =>
 av e
 (some (Value.tuple #[(vi 0), (vi 0), (vb false)], a.2))
 ((ap .other .quo a.1 (vw 4294967296)).bind fun g =>
 (cN (some .i64) g).bind fun i =>
 (ap .other .sub i (vi 1)).bind fun j =>
 (ap .other .rem a.1 (vw 4294967296)).bind fun k =>
 (cN (some .i64) k).bind fun l =>
 some (Value.tuple #[j, l, (vb true)], a.2))) = some r) : FF kH [x0, x1, x2, x3] H = some r :=
 fo Tryz.func170 (by kernel_rfl) h
theorem BP {r : Value × AH} (h : (
 aQ (Value.cells x2).toList H fun b c =>
 (ay 3 b c).bind fun e =>
 (FF EF [x0, e] c).bind fun a =>
 ld [.n, .f 1] x0 a.2 fun g =>
 ld [.i 1 a.1] g a.2 fun j =>
 (ap .other .neq j x3).bind fun k =>
 av k
 ((ay 3 b a.2).bind fun l =>
 (FF cq [x0, x1, (vi 4), l] a.2).bind fun m =>
 some ((vb false), m.2))
 ((ay 3 b a.2).bind fun o =>
 (FF cq [x0, x1, (vi 3), o] a.2).bind fun d =>
 ld [.n, .f 1] x0 d.2 fun p =>
 st 1 [.i 1 a.1] p x4 d.2 fun q =>
 some ((vb true), q))) = some r) : FF g8 [x0, x1, x2, x3, x4] H = some r :=
 fo Tryz.func171 (by kernel_rfl) h
theorem zX {r : Value × AH} (h : (
 ad [.n, .f 0] x0 fun a =>
 (ar a H).bind fun d =>
 ld [.n, .f 1] x0 H fun e =>
 (FF cz [(vi 11), e, (vi 0)] H).bind fun b =>
 bO (ar a b.2) (ar a H) <|
 (FF ej [d, x1, b.1] b.2).bind fun c =>
 some (c.1, c.2)) = some r) : FF lL [x0, x1] H = some r :=
 fo Tryz.func172 (by kernel_rfl) h
theorem BO {r : Value × AH} (h : (
 aQ (Value.cells x2).toList H fun b c =>
 (ay 3 b c).bind fun e =>
 (FF cq [x0, x1, (vi 1), e] c).bind fun d =>
 (ay 3 b d.2).bind fun g =>
 (FF EF [x0, g] d.2).bind fun a =>
 ld [.n, .f 1] x0 a.2 fun j =>
 ld [.i 1 a.1] j a.2 fun k =>
 some (k, a.2)) = some r) : FF ej [x0, x1, x2] H = some r :=
 fo Tryz.func173 (by kernel_rfl) h
theorem pI {r : Value × AH} (h : (
 ld [.n, .f 2] x0 H fun a =>
 (cN (some .u64) a).bind fun b =>
 (ap .other .rem x1 b).bind fun c =>
 (cN (some .i64) c).bind fun d =>
 some (d, H)) = some r) : FF eO [x0, x1] H = some r :=
 fo Tryz.func174 (by kernel_rfl) h
theorem EU {r : Value × AH} (h : (
 aQ (Value.cells x2).toList H fun c d =>
 (ay 3 c d).bind fun g =>
 (FF EF [x0, g] d).bind fun a =>
 (ay 3 c a.2).bind fun j =>
 (FF cq [x0, x1, (vi 3), j] a.2).bind fun b =>
 ld [.n, .f 1] x0 b.2 fun k =>
 ld [.i 1 a.1] k b.2 fun e =>
 ld [.n, .f 1] x0 b.2 fun l =>
 (ap .other .add e x3).bind fun m =>
 st 1 [.i 1 a.1] l m b.2 fun o =>
 some (e, o)) = some r) : FF kT [x0, x1, x2, x3] H = some r :=
 fo Tryz.func175 (by kernel_rfl) h
theorem zQ {r : Value × AH} (h : (
 ad [.n, .f 5] x0 fun a =>
 (ar a H).bind fun d =>
 (FF cz [(vi 2), (vi 0), (vi 0)] H).bind fun b =>
 bO (ar a b.2) (ar a H) <|
 (FF ej [d, x1, b.1] b.2).bind fun c =>
 some (c.1, c.2)) = some r) : FF eN [x0, x1] H = some r :=
 fo Tryz.func176 (by kernel_rfl) h
theorem zM {r : Value × AH} (h : (
 ad [.n, .f 0] x0 fun a =>
 (ar a H).bind fun c =>
 (FF cz [(vi 3), (vi 0), (vi 0)] H).bind fun b =>
 bO (ar a b.2) (ar a H) <|
 (FF kT [c, x1, b.1, (vw 1)] b.2).bind fun d =>
 some (Value.tuple #[], d.2)) = some r) : FF iY [x0, x1] H = some r :=
 fo Tryz.func177 (by kernel_rfl) h
theorem zN {r : Value × AH} (h : (
 ad [.n, .f 0] x0 fun a =>
 (ar a H).bind fun d =>
 (FF cz [(vi 9), x2, (vi 0)] H).bind fun b =>
 bO (ar a b.2) (ar a H) <|
 (FF ej [d, x1, b.1] b.2).bind fun c =>
 some (c.1, c.2)) = some r) : FF lJ [x0, x1, x2] H = some r :=
 fo Tryz.func178 (by kernel_rfl) h
theorem yg {r : Value × AH} (h : (
 ad [.n, .f 0] x0 fun c =>
 (ar c H).bind fun k =>
 (FF cz [(vi 14), x2, (vi 0)] H).bind fun d =>
 bO (ar c d.2) (ar c H) <|
 (FF cq [k, x1, (vi 6), d.1] d.2).bind fun l =>
 (FF nb [x0, x2] l.2).bind fun a =>
 (ap .other .lss a.1 (vi 0)).bind fun m =>
 av m
 (ld [.n, .f 2] x0 a.2 fun o =>
 Gi 1 1 [(vi 0)] [(0, x2)] a.2 fun p g =>
 (fj 1 8 o p g).bind fun b =>
 ad [.n, .f 3] x0 fun e =>
 (ar e b.2).bind fun q =>
 bO (ar e g) (ar e b.2) <|
 Gi 1 1 [(vw 0)] [(0, x3)] b.2 fun s t =>
 (fj 1 8 q s t).bind fun j =>
 st 1 [.n, .f 2] x0 b.1 j.2 fun w =>
 st 1 [.n, .f 3] x0 j.1 w fun y =>
 some (Value.tuple #[], y))
 (ld [.n, .f 3] x0 a.2 fun z =>
 st 1 [.i 1 a.1] z x3 a.2 fun A =>
 some (Value.tuple #[], A))) = some r) : FF kF [x0, x1, x2, x3] H = some r :=
 fo Tryz.func179 (by kernel_rfl) h
theorem yh {r : Value × AH} (h : (
 ad [.n, .f 0] x0 fun a =>
 (ar a H).bind fun d =>
 (FF cz [(vi 9), x2, (vi 0)] H).bind fun b =>
 bO (ar a b.2) (ar a H) <|
 (cN (some .u64) x4).bind fun e =>
 (ap .other .add e (vw 1)).bind fun g =>
 (FF g8 [d, x1, b.1, x3, g] b.2).bind fun c =>
 some (c.1, c.2)) = some r) : FF kG [x0, x1, x2, x3, x4] H = some r :=
 fo Tryz.func180 (by kernel_rfl) h
theorem Ex {r : Value × AH} (h : (
 aQ (Value.cells x2).toList H fun a b =>
 (ay 3 a b).bind fun e =>
 (ay 3 a b).bind fun f =>
 (FF fO [x0, f] b).bind fun c =>
 bO (ay 3 a c.2) (ay 3 a b) <|
 (ap .other .add c.1 x3).bind fun g =>
 (FF jJ [x0, x1, e, g] c.2).bind fun d =>
 some (d.1, d.2)) = some r) : FF iR [x0, x1, x2, x3] H = some r :=
 fo Tryz.func181 (by kernel_rfl) h
noncomputable def oI (p : List Nat) : Code := Code.sub (bH Tryz.f182) p
noncomputable def mQ : KK := dO PP (Tryz.f182).results.toList
noncomputable def RG : KK := CQ (oI [1]) mQ bD mQ
noncomputable def abB : OV := RG (ls [x0, u, u, x3, x4] 45) H
noncomputable def I6 : KK := CQ (oI [1, 1]) mQ bD mQ
noncomputable def RF : KK := gC Ld I6
noncomputable def abC : OV := I6 (ls [x0, u, u, x3, x4] 45) H
noncomputable def LO : KK := CQ (oI [1, 0, 1]) RF bD mQ
noncomputable def SW : OV := LO (ls [x0, u, u, x3, x4, x5] 44) H
noncomputable def DO : KX := BX 0 RF bD
noncomputable def wR : KX := A6 Ld DO
noncomputable def DL : KK := KM (oI [1, 0, 1, 4, 5]) wR mQ
noncomputable def LN : KK := gC C0 DL
noncomputable def Cu : OV := DL (ls [x0, u, u, x3, x4, x5] 44) H
noncomputable def LP : KK := CQ (oI [1, 0, 1, 4, 5, 1]) LN wR mQ
noncomputable def SX : OV := LP (ls [x0, u, u, x3, x4, x5] 44) H
noncomputable def DM : KK := CQ (oI [1, 0, 1, 4, 5, 1, 1]) LN wR mQ
noncomputable def YG : KK := gC C0 DM
noncomputable def SY : OV := DM (ls [x0, u, u, x3, x4, x5] 44) H
noncomputable def YH : KX := BX 1 YG wR
noncomputable def Hx : OV := DO 0 (ls [x0, u, u, x3, x4] 45) H
theorem lm : aw 1125899906842607 mQ := rf
theorem U3 : aw Ld RG := rc lm aD lm
theorem zk : aw Ld I6 := rc lm aD lm
theorem Ot : aw C0 LO := rc (cd zk) aD lm
theorem mR : ∀ i, aw Ld (DO i) := rb (cd zk) aD
theorem p6 : aw C0 DL := rl (cx mR) lm
theorem Ou : aw C0 LP := rc (cd p6) (cx mR) lm
theorem DN : aw C0 DM := rc (cd p6) (cx mR) lm
theorem Ov : ∀ i, aw C0 (YH i) := rb (cd DN) (cx mR)
theorem Wi : abC x0 x3 x4 H =
 ld [.n, .f 0] x0 H fun g =>
 (ay 3 x3 H).bind fun i =>
 Gi 1 3 [(vi 0), (vi 0), (vi 0)] [(0, i)] H fun j c =>
 (fj 3 24 g j c).bind fun a =>
 ad [.n, .f 1] x0 fun b =>
 (ar b a.2).bind fun k =>
 bO (ar b c) (ar b a.2) <|
 Gi 1 1 [(vw 0)] [(0, (vw 0))] a.2 fun l m =>
 (fj 1 8 k l m).bind fun d =>
 st 1 [.n, .f 0] x0 a.1 d.2 fun o =>
 st 1 [.n, .f 1] x0 d.1 o fun e =>
 ld [.n, .f 0] x0 e fun p =>
 iQ p fun q =>
 (ap .other .sub q (vi 1)).bind fun s =>
 some (s, e) :=
 (by kernel_rfl)
theorem Pw : SY x0 x3 x4 x5 H =
 (ap .other .add x5 (vi 1)).bind fun a =>
 Cu x0 x3 x4 a H :=
 (by kernel_rfl)
theorem Pv : SX x0 x3 x4 x5 H =
 ld [.n, .f 0] x0 H fun a =>
 ldN 3 [.i 3 x5] a H fun b =>
 (ay 3 x3 H).bind fun c =>
 (ap (.flat 3) .eql b c).bind fun d =>
 av d
 (some (x5, H))
 (SY x0 x3 x4 x5 H) :=
 (pt rfl 0 DN (bt rfl (oI [1, 0, 1, 4, 5, 1, 0, 4]) 1 Ov (by kernel_rfl)))
theorem Kc : Hx x0 x3 x4 H = abC x0 x3 x4 H :=
 (by kernel_rfl)
theorem E3 : Cu x0 x3 x4 x5 H =
 ld [.n, .f 0] x0 H fun a =>
 iQ a fun b =>
 (ap .other .lss x5 b).bind fun c =>
 av c
 (SX x0 x3 x4 x5 H)
 (Hx x0 x3 x4 H) :=
 KN rfl p6 (pt rfl 0 Ou (by kernel_rfl))
theorem Pu : SW x0 x3 x4 x5 H =
 Cu x0 x3 x4 x5 H :=
 (bt rfl (oI [1, 0, 1, 4]) 0 mR (li rfl (oI [1, 0, 1, 4, 5]) p6 (by kernel_rfl)))
theorem Wh : abB x0 x3 x4 H =
 SW x0 x3 x4 (vi 0) H :=
 (pt rfl 0 zk (pt rfl 0 Ot (by kernel_rfl)))
noncomputable def rMp : OV := bh PP GG FF (oI []) (ls [x0, x1] 48) H mQ bD mQ
theorem ajW {r : Value × AH} (h : (
 aQ (Value.cells x1).toList H fun a b =>
 abB x0 a (vi 0) b) = some r) : FF EF [x0, x1] H = some r :=
 fo (t := rMp x0 x1 H) Tryz.func182 (by kernel_rfl) (Eq.trans (pt rfl 0 U3 (by kernel_rfl)) h)
theorem yG {r : Value × AH} (h : (
 (di x3 [x2]).bind fun c => (FF c.1 c.2 H).bind fun b =>
 (af b.1 0).bind fun i =>
 (af b.1 1).bind fun a =>
 (gV a true x0).bind fun j =>
 xe a true  [.n, .f 0] j fun e =>
 (gB a true (ar e b.2)).bind fun k =>
 (gV a true x1).bind fun l =>
 (gV a true x0).bind fun m =>
 (gE a true b.2 (FF ep [m, (vi 11), (vi 0)] b.2)).bind fun d =>
 bO (ar e d.2) (ar e b.2) <|
 (gV a true x2).bind fun o =>
 (gV a true i).bind fun p =>
 (gE a true d.2 (FF fP [k, l, d.1, o, p] d.2)).bind fun g =>
 (aV a g.1 (vb false)).bind fun q =>
 some (q, g.2)) = some r) : FF iu [x0, x1, x2, x3] H = some r :=
 fo Tryz.func183 (by kernel_rfl) h
noncomputable def I7 (p : List Nat) : Code := Code.sub (bH Tryz.f185) p
noncomputable def uQ : KK := dO PP (Tryz.f185).results.toList
noncomputable def RH : KK := CQ (I7 [1, 1]) uQ bD uQ
noncomputable def uv : OV := RH (ls [u, x1, u, u, x4, x5, x6, x7, x8] 47) H
noncomputable def I8 : KK := CQ (I7 [1, 1, 1]) uQ bD uQ
noncomputable def ae7 : KK := gC Lc I8
noncomputable def uw : OV := I8 (ls [u, u, u, u, x4, x5] 50) H
noncomputable def ae8 : KX := BX 0 ae7 bD
theorem wT : aw Lc uQ := rf
theorem U4 : aw 72057594037927437 RH := rc wT aD wT
theorem G2 : aw Lc I8 := rc wT aD wT
theorem U5 : ∀ i, aw Lc (ae8 i) := rb (cd G2) aD
theorem ix : uw x4 x5 H =
 some (Value.tuple #[(vw 0), (vb false)], H) :=
 (by kernel_rfl)
theorem zG : uv x1 x4 x5 x6 x7 x8 H =
 (nk .not x8).bind fun i =>
 av i
 (some (Value.tuple #[(vw 0), (vb false)], H))
 ((ap .other .eql x1 (vi 0)).bind fun a =>
 (gV a true x7).bind fun j =>
 (gB a true (ap .other .neq j (vi 2))).bind fun k =>
 (aV a k (vb false)).bind fun b =>
 (gV b true x6).bind fun l =>
 (gB b true (ap .other .lss l (vw 2305843009213693951))).bind fun m =>
 (aV b m (vb false)).bind fun n =>
 av n
 ((ap .other .add x6 (vw 1)).bind fun o =>
 (FF na [o, (vi 1)] H).bind fun c =>
 (af c.1 0).bind fun p =>
 (af c.1 1).bind fun q =>
 some (Value.tuple #[p, q], c.2))
 ((ap .other .eql x1 (vi 1)).bind fun d =>
 (gV d true x7).bind fun s =>
 (gB d true (ap .other .eql s (vi 1))).bind fun t =>
 (aV d t (vb false)).bind fun w =>
 av w
 ((FF na [x6, (vi 0)] H).bind fun e =>
 (af e.1 0).bind fun y =>
 (af e.1 1).bind fun z =>
 some (Value.tuple #[y, z], e.2))
 ((ap .other .eql x1 (vi 2)).bind fun f =>
 (gV f true x7).bind fun A =>
 (gB f true (ap .other .eql A (vi 0))).bind fun B =>
 (aV f B (vb false)).bind fun C =>
 av C
 ((FF na [x6, (vi 2)] H).bind fun g =>
 (af g.1 0).bind fun D =>
 (af g.1 1).bind fun E =>
 some (Value.tuple #[D, E], g.2))
 (uw x4 x5 H)))) :=
 (pt rfl 0 G2 (bt rfl (I7 [1, 1, 0, 4]) 0 U5 (by kernel_rfl)))
noncomputable def Pp : OV := bh PP GG FF (I7 []) (ls [x0, x1] 54) H uQ bD uQ
theorem Gm {r : Value × AH} (h : (
 (FF gZ [x0] H).bind fun a =>
 (af a.1 0).bind fun b =>
 (af a.1 1).bind fun c =>
 (af a.1 2).bind fun d =>
 uv x1 (vw 0) (vb false) b c d a.2) = some r) : FF qi [x0, x1] H = some r :=
 fo (t := Pp x0 x1 H) Tryz.func185 (by kernel_rfl) (Eq.trans (pt rfl 1 U4 (by kernel_rfl)) h)
theorem KH {r : Value × AH} (h : (
 (FF fi [x0] H).bind fun a =>
 (ap .other .neq a.1 (vi 0)).bind fun d =>
 av d
 (some (Value.tuple #[(vw 0), (vb false)], a.2))
 ((FF dS [x0] a.2).bind fun c =>
 (FF n0 [c.1, (vi 2)] c.2).bind fun b =>
 (af b.1 0).bind fun e =>
 (af b.1 1).bind fun f =>
 some (Value.tuple #[e, f], b.2))) = some r) : FF n6 [x0] H = some r :=
 fo Tryz.func186 (by kernel_rfl) h
end
section
variable (A B C D E G K L I J : Value) (H : AH)
noncomputable def iE (p : List Nat) : Code := Code.sub (bH Tryz.f190) p
noncomputable def ja : KK := dO PP (Tryz.f190).results.toList
noncomputable def RK : KK := CQ (iE [1, 1, 1]) ja bD ja
noncomputable def AU : OV := RK (ls [A, u, C, D] 38) H
noncomputable def I9 : KK := CQ (iE [1, 1, 1, 1]) ja bD ja
noncomputable def ae9 : KK := gC An I9
noncomputable def tc : OV := I9 (ls [u, u, C, D] 38) H
noncomputable def Ja : KK := CQ (iE [1, 1, 1, 1, 1]) ja bD ja
noncomputable def RI : KK := gC An Ja
noncomputable def AV : OV := Ja (ls [u, u, C, D] 38) H
noncomputable def RL : KK := CQ (iE [1, 1, 1, 1, 0, 1]) RI bD ja
noncomputable def AW : OV := RL (ls [u, u, C, D, u, u, u, u, u, u, u, u, u, u, u, u, u, u, u, u, u, u, u, u, u, u, u, u, I, J] 12) H
noncomputable def Jd : KX := BX 2 RI bD
noncomputable def Cg : KX := A6 An Jd
noncomputable def Jb : KK := KM (iE [1, 1, 1, 1, 0, 1, 4, 5]) Cg ja
noncomputable def RJ : KK := gC C3 Jb
noncomputable def oB : OV := Jb (ls [u, u, C, D, u, u, u, u, u, u, u, u, u, u, u, u, u, u, u, u, u, u, u, u, u, u, u, u, I, J] 12) H
noncomputable def RM : KK := CQ (iE [1, 1, 1, 1, 0, 1, 4, 5, 1, 1]) RJ Cg ja
noncomputable def AX : OV := RM (ls [u, u, C, D, u, u, u, u, u, u, u, u, u, u, u, u, u, u, u, u, u, u, u, u, u, u, u, u, I, J] 12) H
noncomputable def Jc : KK := CQ (iE [1, 1, 1, 1, 0, 1, 4, 5, 1, 1, 1]) RJ Cg ja
noncomputable def afA : KK := gC C3 Jc
noncomputable def AY : OV := Jc (ls [u, u, C, D, u, u, u, u, u, u, u, u, u, u, u, u, u, u, u, u, u, u, u, u, u, u, u, u, I, J] 12) H
noncomputable def afB : KX := BX 3 afA Cg
noncomputable def uG : OV := Jd 2 (ls [u, u, C, D] 38) H
noncomputable def DQ : KX := BX 0 ae9 bD
noncomputable def DR : KX := A6 An DQ
noncomputable def DP : KK := KM (iE [1, 1, 1, 0, 4, 5]) DR ja
noncomputable def LQ : KK := gC Le DP
noncomputable def mj : OV := DP (ls [A, u, C, D] 38) H
noncomputable def LR : KK := CQ (iE [1, 1, 1, 0, 4, 5, 1]) LQ DR ja
noncomputable def yR : OV := LR (ls [A, u, C, D] 38) H
noncomputable def YI : KX := BX 1 LQ DR
noncomputable def ta : OV := DQ 0 (ls [u, u, C, D] 38) H
theorem gm : aw 4398046511099 ja := rf
theorem U6 : aw Le RK := rc gm aD gm
theorem G3 : aw An I9 := rc gm aD gm
theorem zl : aw An Ja := rc gm aD gm
theorem U7 : aw C3 RL := rc (cd zl) aD gm
theorem pa : ∀ i, aw An (Jd i) := rb (cd zl) aD
theorem tD : aw C3 Jb := rl (cx pa) gm
theorem U8 : aw C3 RM := rc (cd tD) (cx pa) gm
theorem G4 : aw C3 Jc := rc (cd tD) (cx pa) gm
theorem U9 : ∀ i, aw C3 (afB i) := rb (cd G4) (cx pa)
theorem p8 : ∀ i, aw An (DQ i) := rb (cd G3) aD
theorem p7 : aw Le DP := rl (cx p8) gm
theorem Ow : aw Le LR := rc (cd p7) (cx p8) gm
theorem Ox : ∀ i, aw Le (YI i) := rb (cd p7) (cx p8)
theorem FI : AV C D H =
 some (D, H) :=
 (by kernel_rfl)
theorem FL : AY C D I J H =
 (ap .other .add J (vi 1)).bind fun a =>
 oB C D I a H :=
 (by kernel_rfl)
theorem FK : AX C D I J H =
 ld [.n, .f 2] D H fun b =>
 Gi 1 1 [(vi 0)] [(0, (vi (-1)))] H fun c d =>
 (fj 1 8 b c d).bind fun a =>
 st 1 [.n, .f 2] D a.1 a.2 fun e =>
 AY C D I J e :=
 (pt rfl 0 G4 (bt rfl (iE [1, 1, 1, 1, 0, 1, 4, 5, 1, 1, 0, 4]) 3 U9 (by kernel_rfl)))
theorem Af : uG C D H = AV C D H :=
 (by kernel_rfl)
theorem td : oB C D I J H =
 (ap .other .lss J I).bind fun a =>
 av a
 (AX C D I J H)
 (uG C D H) :=
 KN rfl tD (pt rfl 1 U8 (by kernel_rfl))
theorem FJ : AW C D I J H =
 oB C D I J H :=
 (bt rfl (iE [1, 1, 1, 1, 0, 1, 4]) 2 pa (li rfl (iE [1, 1, 1, 1, 0, 1, 4, 5]) tD (by kernel_rfl)))
theorem FH : tc C D H =
 ld [.n, .f 1] D H fun a =>
 (ap .other .mul (vi 2) a).bind fun b =>
 AW C D b (vi 0) H :=
 (pt rfl 0 zl (pt rfl 0 U7 (by kernel_rfl)))
theorem B7 : yR A C D H =
 ld [.n, .f 1] D H fun a =>
 (ap .other .mul a (vi 2)).bind fun b =>
 st 1 [.n, .f 1] D b H fun c =>
 mj A C D c :=
 (bt rfl (iE [1, 1, 1, 0, 4, 5, 1, 4]) 1 Ox (by kernel_rfl))
theorem oA : ta C D H = tc C D H :=
 (by kernel_rfl)
theorem re : mj A C D H =
 ld [.n, .f 1] D H fun a =>
 (ap .other .lss a A).bind fun b =>
 av b
 (yR A C D H)
 (ta C D H) :=
 KN rfl p7 (pt rfl 0 Ow (by kernel_rfl))
theorem FG : AU A C D H =
 mj A C D H :=
 (pt rfl 0 G3 (bt rfl (iE [1, 1, 1, 0, 4]) 0 p8 (li rfl (iE [1, 1, 1, 0, 4, 5]) p7 (by kernel_rfl))))
noncomputable def acU : OV := bh PP GG FF (iE []) (ls [A] 41) H ja bD ja
theorem M6 {r : Value × AH} (h : (
 (iv [A, (vi 1)]).bind fun c =>
 (jT [c, (vi 16)]).bind fun a =>
 (oa [(vw 0), (vi 0), (vb false)] 3 24 a a H).bind fun b =>
 ga [(0, 1), (1, 1), (2, 1)] [(.slice none 0 0), (vi 0), (.slice none 0 0)] [(0, b.1), (1, (vi 1))] fun d =>
 aQ (Value.cells d).toList b.2 fun e f =>
 AU a (.pointer none) e f) = some r) : FF vz [A] H = some r :=
 fo (t := acU A H) Tryz.func190 (by kernel_rfl) (Eq.trans (pt rfl 2 U6 (by kernel_rfl)) h)
theorem Kv {r : Value × AH} (h : (
 (FF sE [A] H).bind fun a =>
 (FF vq [] a.2).bind fun b =>
 ga [(0, 1), (1, 1), (2, 1)] [(.pointer none), (.pointer none), (vi 0)] [(0, a.1), (1, b.1), (2, A)] fun c =>
 aQ (Value.cells c).toList b.2 fun d e =>
 some (d, e)) = some r) : FF sC [A] H = some r :=
 fo Tryz.func191 (by kernel_rfl) h
theorem J4 {r : Value × AH} (h : (
 (iv [A, (vi 0)]).bind fun a =>
 (jT [a, (vi 40)]).bind fun b =>
 some (b, H)) = some r) : FF sB [A] H = some r :=
 fo Tryz.func200 (by kernel_rfl) h
theorem wb {r : Value × AH} (h : (
 ld [.n, .f 2, .f 1] A H fun b =>
 (ap .other .lss b (vi 0)).bind fun a =>
 (gV a false A).bind fun c =>
 fF a false  [.n, .f 2, .f 1] c H fun d =>
 (gB a false (ap .other .gtr d (vi 1048576))).bind fun e =>
 (aV a (vb true) e).bind fun g =>
 some (g, H)) = some r) : FF gJ [A] H = some r :=
 fo Tryz.func201 (by kernel_rfl) h
theorem yy {r : Value × AH} (h : (
 aQ [(vi 0), (.slice none 0 0), (vi 0), (vw 0)] H fun a c =>
 (FF db [A, B, C] c).bind fun d =>
 ga [(0, 1), (1, 1), (2, 1), (3, 1)] [(vi 0), (.slice none 0 0), (vi 0), (vw 0)] [(0, C)] fun e =>
 (cf 4 a e d.2).bind fun b =>
 (ay 4 a b).bind fun f => some (Value.tuple #[f, (vb true)], b)) = some r) : FF dq [A, B, C] H = some r :=
 fo Tryz.func202 (by kernel_rfl) h
theorem B0 {r : Value × AH} (h : (
 aQ [(vi 0), (.slice none 0 0), (vi 0), (vw 0)] H fun b a =>
 ld [.n, .f 0] A a fun j =>
 ld [.n, .f 2] j a fun k =>
 ld [.n, .f 1] A a fun l =>
 ld [.n, .f 6] A a fun m =>
 (FF eA [k, l, m] a).bind fun c =>
 (nk .not c.1).bind fun o =>
 av o
 ((FF bj [A, (.func (.func da) #[A] #[])] c.2).bind fun d =>
 (af d.1 0).bind fun p =>
 (af d.1 1).bind fun q =>
 (cf 4 b p d.2).bind fun g =>
 (ay 4 b g).bind fun s => some (Value.tuple #[s, q], g))
 ((FF bj [A, (.func (.func ci) #[A] #[])] c.2).bind fun e =>
 (af e.1 0).bind fun t =>
 (af e.1 1).bind fun w =>
 (cf 4 b t e.2).bind fun i =>
 (ay 4 b i).bind fun y => some (Value.tuple #[y, w], i))) = some r) : FF da [A, B] H = some r :=
 fo Tryz.func203 (by kernel_rfl) h
theorem z8 {r : Value × AH} (h : (
 aQ [(vi 0), (.slice none 0 0), (vi 0), (vw 0)] H fun b a =>
 ld [.n, .f 0] A a fun j =>
 ld [.n, .f 2] j a fun k =>
 ld [.n, .f 1] A a fun l =>
 ld [.n, .f 6] A a fun m =>
 (FF eA [k, l, m] a).bind fun c =>
 (nk .not c.1).bind fun o =>
 av o
 ((FF bj [A, (.func (.func cP) #[A] #[])] c.2).bind fun d =>
 (af d.1 0).bind fun p =>
 (af d.1 1).bind fun q =>
 (cf 4 b p d.2).bind fun g =>
 (ay 4 b g).bind fun s => some (Value.tuple #[s, q], g))
 ((FF bj [A, (.func (.func bT) #[A] #[])] c.2).bind fun e =>
 (af e.1 0).bind fun t =>
 (af e.1 1).bind fun w =>
 (cf 4 b t e.2).bind fun i =>
 (ay 4 b i).bind fun y => some (Value.tuple #[y, w], i))) = some r) : FF cP [A, B] H = some r :=
 fo Tryz.func204 (by kernel_rfl) h
theorem NU {r : Value × AH} (h : (
 ld [.n, .f 0] A H fun a =>
 ld [.n, .f 1] A H fun b =>
 ga [(0, 1), (1, 1), (2, 1), (3, 1)] [(vi 0), (.slice none 0 0), (vi 0), (vw 0)] [(0, C)] fun c =>
 (FF gc [a, B, b, c] H).bind fun d =>
 some (Value.tuple #[], d.2)) = some r) : FF mw [A, B, C] H = some r :=
 fo Tryz.func207 (by kernel_rfl) h
theorem NP {r : Value × AH} (h : (
 aQ [(vi 0), (.slice none 0 0), (vi 0), (vw 0)] H fun a c =>
 ga [(0, 1), (1, 1), (2, 1), (3, 1)] [(vi 0), (.slice none 0 0), (vi 0), (vw 0)] [(0, B)] fun d =>
 (cf 4 a d c).bind fun b =>
 (ay 4 a b).bind fun e => some (Value.tuple #[e, (vb true)], b)) = some r) : FF mt [A, B] H = some r :=
 fo Tryz.func208 (by kernel_rfl) h
noncomputable def Oy (p : List Nat) : Code := Code.sub (bH Tryz.f209) p
noncomputable def uR : KK := dO PP (Tryz.f209).results.toList
noncomputable def RN : KK := CQ (Oy [1, 1, 1]) uR bD uR
noncomputable def GQ : OV := RN (ls [A, u, C, D, E, G] 65) H
noncomputable def RO : KK := CQ (Oy [1, 1, 1, 1]) uR bD uR
noncomputable def tx : OV := RO (ls [A, u, C] 68) H
theorem wU : aw 2361183241434822606843 uR := rf
theorem Va : aw 2361183241434822606786 RN := rc wU aD wU
theorem Vb : aw 2361183241434822606842 RO := rc wU aD wU
theorem It : tx A C H =
 ad [.n, .f 8] A fun a =>
 (ar a H).bind fun c =>
 ld [.n, .f 0] A H fun d =>
 ld [.n, .f 2] d H fun e =>
 (FF dL [e] H).bind fun b =>
 bO (ar a b.2) (ar a H) <|
 (ap .other .geq c b.1).bind fun g =>
 some (g, b.2) :=
 (by kernel_rfl)
theorem wA : GQ A C D E G H =
 (gV G true D).bind fun b =>
 (gV G true A).bind fun c =>
 fF G true  [.n, .f 2, .f 1] c H fun d =>
 (gB G true (ap .other .eql b d)).bind fun e =>
 (aV G e (vb false)).bind fun g =>
 st 1 [.n, .f 10] A g H fun a =>
 ld [.n, .f 10] A a fun i =>
 av i
 (st 1 [.n, .f 9] A E a fun j =>
 tx A C j)
 (tx A C a) :=
 (pt rfl 0 Vb (by kernel_rfl))
noncomputable def ai4 : OV := bh PP GG FF (Oy []) (ls [A] 70) H uR bD uR
theorem T6 {r : Value × AH} (h : (
 ld [.n, .f 0] A H fun b =>
 ld [.n, .f 2] b H fun c =>
 ld [.n, .f 1] A H fun d =>
 ld [.n, .f 6] A H fun e =>
 ld [.n, .f 8] A H fun g =>
 (FF eC [c, d, e, g] H).bind fun a =>
 (af a.1 0).bind fun i =>
 (af a.1 1).bind fun j =>
 (af a.1 2).bind fun k =>
 ld [.n, .f 8] A a.2 fun l =>
 (ap .other .add l (vi 1)).bind fun m =>
 st 1 [.n, .f 8] A m a.2 fun o =>
 GQ A (vb false) i j k o) = some r) : FF xC [A] H = some r :=
 fo (t := ai4 A H) Tryz.func209 (by kernel_rfl) (Eq.trans (pt rfl 2 Va (by kernel_rfl)) h)
theorem XS {r : Value × AH} (h : (
 aQ [(vi 0), (.slice none 0 0), (vi 0), (vw 0)] H fun a c =>
 st 1 [.n, .f 7] A B c fun d =>
 ga [(0, 1), (1, 1), (2, 1), (3, 1)] [(vi 0), (.slice none 0 0), (vi 0), (vw 0)] [] fun e =>
 (cf 4 a e d).bind fun b =>
 (ay 4 a b).bind fun g => some (Value.tuple #[g, (vb false)], b)) = some r) : FF bJ [A, B] H = some r :=
 fo Tryz.func210 (by kernel_rfl) h
theorem NT {r : Value × AH} (h : (
 aQ [(vi 0), (.slice none 0 0), (vi 0), (vw 0)] H fun d a =>
 ld [.n, .f 0] A a fun i =>
 ld [.n, .f 1] A a fun j =>
 ld [.n, .f 9] A a fun k =>
 (FF ff [i, j, k] a).bind fun b =>
 ld [.n, .f 0] A b.2 fun l =>
 ld [.n, .f 9] A b.2 fun m =>
 (FF dp [l, m] b.2).bind fun e =>
 st 1 [.n, .f 11] A e.1 e.2 fun o =>
 (FF bJ [A, (.func (.func cp) #[A] #[])] o).bind fun c =>
 (af c.1 0).bind fun p =>
 (af c.1 1).bind fun q =>
 (cf 4 d p c.2).bind fun g =>
 (ay 4 d g).bind fun s => some (Value.tuple #[s, q], g)) = some r) : FF ii [A, B] H = some r :=
 fo Tryz.func211 (by kernel_rfl) h
theorem NS {r : Value × AH} (h : (
 aQ [(vi 0), (.slice none 0 0), (vi 0), (vw 0)] H fun b a =>
 ld [.n, .f 0] A a fun j =>
 ld [.n, .f 2] j a fun k =>
 ld [.n, .f 1] A a fun l =>
 ld [.n, .f 6] A a fun m =>
 (FF eA [k, l, m] a).bind fun c =>
 (nk .not c.1).bind fun o =>
 av o
 ((FF bJ [A, (.func (.func dn) #[A] #[])] c.2).bind fun d =>
 (af d.1 0).bind fun p =>
 (af d.1 1).bind fun q =>
 (cf 4 b p d.2).bind fun g =>
 (ay 4 b g).bind fun s => some (Value.tuple #[s, q], g))
 (st 1 [.n, .f 8] A (vi 0) c.2 fun t =>
 (FF bJ [A, (.func (.func fc) #[A] #[])] t).bind fun e =>
 (af e.1 0).bind fun w =>
 (af e.1 1).bind fun y =>
 (cf 4 b w e.2).bind fun i =>
 (ay 4 b i).bind fun z => some (Value.tuple #[z, y], i))) = some r) : FF dn [A, B] H = some r :=
 fo Tryz.func212 (by kernel_rfl) h
noncomputable def oJ (p : List Nat) : Code := Code.sub (bH Tryz.f213) p
noncomputable def mS : KK := dO PP (Tryz.f213).results.toList
noncomputable def RR : KK := CQ (oJ [1]) mS bD mS
noncomputable def qW : OV := RR (ls [A, B, u, u, E] 20) H
noncomputable def Je : KK := CQ (oJ [1, 1]) mS bD mS
noncomputable def RP : KK := gC 33554415 Je
noncomputable def qX : OV := Je (ls [u, u, u, u, E] 20) H
noncomputable def RS : KK := CQ (oJ [1, 0, 1]) RP bD mS
noncomputable def qY : OV := RS (ls [A, B, u, u, E, G] 19) H
noncomputable def Jh : KX := BX 0 RP bD
noncomputable def Ch : KX := A6 33554415 Jh
noncomputable def Jf : KK := KM (oJ [1, 0, 1, 4, 5]) Ch mS
noncomputable def RQ : KK := gC 33554380 Jf
noncomputable def i6 : OV := Jf (ls [A, B, u, u, E, G] 19) H
noncomputable def RT : KK := CQ (oJ [1, 0, 1, 4, 5, 1]) RQ Ch mS
noncomputable def qZ : OV := RT (ls [A, B, u, u, E, G] 19) H
noncomputable def Jg : KK := CQ (oJ [1, 0, 1, 4, 5, 1, 1]) RQ Ch mS
noncomputable def afC : KK := gC 33554380 Jg
noncomputable def q4 : OV := Jg (ls [A, B, u, u, E, G] 19) H
noncomputable def afD : KX := BX 1 afC Ch
noncomputable def oq : OV := Jh 0 (ls [u, u, u, u, E] 20) H
theorem ln : aw 33554415 mS := rf
theorem Vc : aw 33554412 RR := rc ln aD ln
theorem zm : aw 33554415 Je := rc ln aD ln
theorem Vd : aw 33554380 RS := rc (cd zm) aD ln
theorem pc : ∀ i, aw 33554415 (Jh i) := rb (cd zm) aD
theorem tE : aw 33554380 Jf := rl (cx pc) ln
theorem Ve : aw 33554380 RT := rc (cd tE) (cx pc) ln
theorem G5 : aw 33554380 Jg := rc (cd tE) (cx pc) ln
theorem Vf : ∀ i, aw 33554380 (afD i) := rb (cd G5) (cx pc)
theorem vM : qX E H =
 some ((vi (-1)), H) :=
 (by kernel_rfl)
theorem vP : q4 A B E G H =
 (ap .other .add G (vi 1)).bind fun a =>
 i6 A B E a H :=
 (by kernel_rfl)
theorem vO : qZ A B E G H =
 ld [.n, .f 2] A H fun a =>
 ld [.i 1 G] a H fun b =>
 (ap .other .eql b B).bind fun c =>
 av c
 (some (G, H))
 (q4 A B E G H) :=
 (pt rfl 0 G5 (bt rfl (oJ [1, 0, 1, 4, 5, 1, 0, 4]) 1 Vf (by kernel_rfl)))
theorem sM : oq E H = qX E H :=
 (by kernel_rfl)
theorem nu : i6 A B E G H =
 ld [.n, .f 2] A H fun a =>
 iQ a fun b =>
 (ap .other .lss G b).bind fun c =>
 av c
 (qZ A B E G H)
 (oq E H) :=
 KN rfl tE (pt rfl 0 Ve (by kernel_rfl))
theorem vN : qY A B E G H =
 i6 A B E G H :=
 (bt rfl (oJ [1, 0, 1, 4]) 0 pc (li rfl (oJ [1, 0, 1, 4, 5]) tE (by kernel_rfl)))
theorem vL : qW A B E H =
 qY A B E (vi 0) H :=
 (pt rfl 0 zm (pt rfl 0 Vd (by kernel_rfl)))
noncomputable def J7 : OV := bh PP GG FF (oJ []) (ls [A, B] 23) H mS bD mS
theorem BN {r : Value × AH} (h : (
 qW A B (vi 0) H) = some r) : FF nb [A, B] H = some r :=
 fo (t := J7 A B H) Tryz.func213 (by kernel_rfl) (Eq.trans (pt rfl 0 Vc (by kernel_rfl)) h)
theorem Bu {r : Value × AH} (h : (
 aQ (Value.cells C).toList H fun b c =>
 (ay 3 b c).bind fun d =>
 (FF fO [A, d] c).bind fun a =>
 (ap .other .neq a.1 D).bind fun e =>
 av e
 ((ay 3 b a.2).bind fun f =>
 (FF dy [A, B, (vi 4), f] a.2).bind fun g =>
 some ((vb false), g.2))
 ((ay 3 b a.2).bind fun i =>
 (FF jJ [A, B, i, E] a.2).bind fun j =>
 some ((vb true), j.2))) = some r) : FF fP [A, B, C, D, E] H = some r :=
 fo Tryz.func214 (by kernel_rfl) h
theorem GD {r : Value × AH} (h : (
 (FF jQ [A] H).bind fun a =>
 (nk .not a.1).bind fun b =>
 av b
 (some ((vi (-1)), a.2))
 ((ap .other .shr A (vw 61)).bind fun c =>
 (cN (some .i64) c).bind fun d =>
 some (d, a.2))) = some r) : FF fi [A] H = some r :=
 fo Tryz.func215 (by kernel_rfl) h
theorem KG {r : Value × AH} (h : (
 (ap .other .gtr A (vw 2305843009213693951)).bind fun a =>
 (gV a false B).bind fun c =>
 (gB a false (ap .other .lss c (vi 0))).bind fun d =>
 (aV a (vb true) d).bind fun b =>
 (gV b false B).bind fun e =>
 (gB b false (ap .other .geq e (vi 3))).bind fun f =>
 (aV b (vb true) f).bind fun g =>
 av g
 (some (Value.tuple #[(vw 0), (vb false)], H))
 ((cN (some .u64) B).bind fun i =>
 (ap .other .shl i (vw 61)).bind fun j =>
 (ap .other .or j A).bind fun k =>
 some (Value.tuple #[k, (vb true)], H))) = some r) : FF n0 [A, B] H = some r :=
 fo Tryz.func216 (by kernel_rfl) h
theorem GB {r : Value × AH} (h : (
 (FF jQ [A] H).bind fun a =>
 (nk .not a.1).bind fun b =>
 av b
 (some ((vw 0), a.2))
 ((ap .other .and A (vw 2305843009213693951)).bind fun c =>
 some (c, a.2))) = some r) : FF dS [A] H = some r :=
 fo Tryz.func217 (by kernel_rfl) h
theorem MA {r : Value × AH} (h : (
 (ap .other .gtr A (vw 2305843009213693951)).bind fun a =>
 (gV a false B).bind fun c =>
 (gB a false (ap .other .lss c (vi 0))).bind fun d =>
 (aV a (vb true) d).bind fun b =>
 (gV b false B).bind fun e =>
 (gB b false (ap .other .gtr e (vi 2))).bind fun f =>
 (aV b (vb true) f).bind fun g =>
 av g
 (some (Value.tuple #[(vw 0), (vb false)], H))
 ((cN (some .u64) B).bind fun i =>
 (ap .other .mul i (vw 2305843009213693952)).bind fun j =>
 (ap .other .add j A).bind fun k =>
 some (Value.tuple #[k, (vb true)], H))) = some r) : FF na [A, B] H = some r :=
 fo Tryz.func218 (by kernel_rfl) h
theorem KE {r : Value × AH} (h : (
 (FF qj [A] H).bind fun a =>
 Ge a.2 fun b c =>
 ga [(0, 1), (1, 1), (2, 192), (194, 3), (197, 1)] [(vw 0), (vi 0), (.slice none 0 0), (.slice none 0 0), (.slice none 0 0), (.slice none 0 0), (.slice none 0 0), (.slice none 0 0), (.slice none 0 0), (.slice none 0 0), (.slice none 0 0), (.slice none 0 0), (.slice none 0 0), (.slice none 0 0), (.slice none 0 0), (.slice none 0 0), (.slice none 0 0), (.slice none 0 0), (.slice none 0 0), (.slice none 0 0), (.slice none 0 0), (.slice none 0 0), (.slice none 0 0), (.slice none 0 0), (.slice none 0 0), (.slice none 0 0), (.slice none 0 0), (.slice none 0 0), (.slice none 0 0), (.slice none 0 0), (.slice none 0 0), (.slice none 0 0), (.slice none 0 0), (.slice none 0 0), (.slice none 0 0), (.slice none 0 0), (.slice none 0 0), (.slice none 0 0), (.slice none 0 0), (.slice none 0 0), (.slice none 0 0), (.slice none 0 0), (.slice none 0 0), (.slice none 0 0), (.slice none 0 0), (.slice none 0 0), (.slice none 0 0), (.slice none 0 0), (.slice none 0 0), (.slice none 0 0), (.slice none 0 0), (.slice none 0 0), (.slice none 0 0), (.slice none 0 0), (.slice none 0 0), (.slice none 0 0), (.slice none 0 0), (.slice none 0 0), (.slice none 0 0), (.slice none 0 0), (.slice none 0 0), (.slice none 0 0), (.slice none 0 0), (.slice none 0 0), (.slice none 0 0), (.slice none 0 0), (.slice none 0 0), (.slice none 0 0), (.slice none 0 0), (.slice none 0 0), (.slice none 0 0), (.slice none 0 0), (.slice none 0 0), (.slice none 0 0), (.slice none 0 0), (.slice none 0 0), (.slice none 0 0), (.slice none 0 0), (.slice none 0 0), (.slice none 0 0), (.slice none 0 0), (.slice none 0 0), (.slice none 0 0), (.slice none 0 0), (.slice none 0 0), (.slice none 0 0), (.slice none 0 0), (.slice none 0 0), (.slice none 0 0), (.slice none 0 0), (.slice none 0 0), (.slice none 0 0), (.slice none 0 0), (.slice none 0 0), (.slice none 0 0), (.slice none 0 0), (.slice none 0 0), (.slice none 0 0), (.slice none 0 0), (.slice none 0 0), (.slice none 0 0), (.slice none 0 0), (.slice none 0 0), (.slice none 0 0), (.slice none 0 0), (.slice none 0 0), (.slice none 0 0), (.slice none 0 0), (.slice none 0 0), (.slice none 0 0), (.slice none 0 0), (.slice none 0 0), (.slice none 0 0), (.slice none 0 0), (.slice none 0 0), (.slice none 0 0), (.slice none 0 0), (.slice none 0 0), (.slice none 0 0), (.slice none 0 0), (.slice none 0 0), (.slice none 0 0), (.slice none 0 0), (.slice none 0 0), (.slice none 0 0), (.slice none 0 0), (.slice none 0 0), (.slice none 0 0), (.slice none 0 0), (.slice none 0 0), (.slice none 0 0), (.slice none 0 0), (.slice none 0 0), (.slice none 0 0), (.slice none 0 0), (.slice none 0 0), (.slice none 0 0), (.slice none 0 0), (.slice none 0 0), (.slice none 0 0), (.slice none 0 0), (.slice none 0 0), (.slice none 0 0), (.slice none 0 0), (.slice none 0 0), (.slice none 0 0), (.slice none 0 0), (.slice none 0 0), (.slice none 0 0), (.slice none 0 0), (.slice none 0 0), (.slice none 0 0), (.slice none 0 0), (.slice none 0 0), (.slice none 0 0), (.slice none 0 0), (.slice none 0 0), (.slice none 0 0), (.slice none 0 0), (.slice none 0 0), (.slice none 0 0), (.slice none 0 0), (.slice none 0 0), (.slice none 0 0), (.slice none 0 0), (.slice none 0 0), (.slice none 0 0), (.slice none 0 0), (.slice none 0 0), (.slice none 0 0), (.slice none 0 0), (.slice none 0 0), (.slice none 0 0), (.slice none 0 0), (.slice none 0 0), (.slice none 0 0), (.slice none 0 0), (.slice none 0 0), (.slice none 0 0), (.slice none 0 0), (.slice none 0 0), (.slice none 0 0), (.slice none 0 0), (.slice none 0 0), (.slice none 0 0), (.slice none 0 0), (.slice none 0 0), (.slice none 0 0), (.slice none 0 0), (.slice none 0 0), (.slice none 0 0), (.slice none 0 0), (.slice none 0 0), (.slice none 0 0), (vw 0), (vw 0), (vw 0), (.map none)] [(1, a.1), (4, b)] fun d =>
 aQ (Value.cells d).toList c fun e f =>
 some (e, f)) = some r) : FF sE [A] H = some r :=
 fo Tryz.func220 (by kernel_rfl) h
theorem L5 (H : AH) {r : Value × AH} (h : (
 Ge H fun a b =>
 ga [(0, 1), (1, 1)] [(.slice none 0 0), (.map none)] [(1, a)] fun c =>
 aQ (Value.cells c).toList b fun d e =>
 some (d, e)) = some r) : FF vq [] H = some r :=
 fo Tryz.func221 (by kernel_rfl) h
theorem B3 {r : Value × AH} (h : (
 st 1 [.n, .f 16] A C H fun a =>
 ld [.n, .f 0] A a fun b =>
 ld [.n, .f 1] A a fun c =>
 ga [(0, 1), (1, 1), (2, 1), (3, 1)] [(vi 0), (.slice none 0 0), (vi 0), (vw 0)] [(0, C)] fun d =>
 (FF gc [b, B, c, d] a).bind fun e =>
 some (Value.tuple #[], e.2)) = some r) : FF db [A, B, C] H = some r :=
 fo Tryz.func236 (by kernel_rfl) h
theorem uc {r : Value × AH} (h : (
 ad [.n, .f 0] A fun a =>
 (ar a H).bind fun d =>
 (FF kW [C] H).bind fun b =>
 bO (ar a b.2) (ar a H) <|
 (FF fP [d, B, b.1, (vw 0), (vw 1)] b.2).bind fun c =>
 some (c.1, c.2)) = some r) : FF eA [A, B, C] H = some r :=
 fo Tryz.func237 (by kernel_rfl) h
theorem Gr {r : Value × AH} (h : (
 aQ [(vi 0), (.slice none 0 0), (vi 0), (vw 0)] H fun a c =>
 st 1 [.n, .f 7] A B c fun d =>
 ga [(0, 1), (1, 1), (2, 1), (3, 1)] [(vi 0), (.slice none 0 0), (vi 0), (vw 0)] [] fun e =>
 (cf 4 a e d).bind fun b =>
 (ay 4 a b).bind fun g => some (Value.tuple #[g, (vb false)], b)) = some r) : FF bj [A, B] H = some r :=
 fo Tryz.func238 (by kernel_rfl) h
noncomputable def Ji (p : List Nat) : Code := Code.sub (bH Tryz.f239) p
noncomputable def uS : KK := dO PP (Tryz.f239).results.toList
noncomputable def RU : KK := CQ (Ji [1, 1]) uS bD uS
noncomputable def q9 : OV := RU (ls [A, B, u, u, E, G, K, L] 42) H
noncomputable def Jj : KK := CQ (Ji [1, 1, 1]) uS bD uS
noncomputable def afE : KK := gC 1125899906842574 Jj
noncomputable def ra : OV := Jj (ls [A, u, u, u, E, G] 44) H
noncomputable def afF : KX := BX 0 afE bD
theorem wV : aw 1125899906842575 uS := rf
theorem Vg : aw 1125899906842380 RU := rc wV aD wV
theorem G6 : aw 1125899906842574 Jj := rc wV aD wV
theorem Vh : ∀ i, aw 1125899906842574 (afF i) := rb (cd G6) aD
theorem wa : ra A E G H =
 (FF bj [A, (.func (.func ci) #[A] #[])] H).bind fun a =>
 (af a.1 0).bind fun c =>
 (af a.1 1).bind fun d =>
 (cf 4 E c a.2).bind fun b =>
 (ay 4 E b).bind fun e => some (Value.tuple #[e, d], b) :=
 (by kernel_rfl)
theorem v9 : q9 A B E G K L H =
 av K
 (ld [.n, .f 0] A H fun g =>
 ld [.n, .f 11] A H fun i =>
 (FF dp [g, i] H).bind fun c =>
 st 1 [.n, .f 12] A c.1 c.2 fun j =>
 (FF bj [A, (.func (.func bv) #[A] #[])] j).bind fun a =>
 (af a.1 0).bind fun k =>
 (af a.1 1).bind fun l =>
 (cf 4 E k a.2).bind fun d =>
 (ay 4 E d).bind fun m => some (Value.tuple #[m, l], d))
 (av L
 ((FF db [A, B, (vi 5)] H).bind fun o =>
 (FF bj [A, (.func (.func aX) #[A] #[])] o.2).bind fun b =>
 (af b.1 0).bind fun p =>
 (af b.1 1).bind fun q =>
 (cf 4 E p b.2).bind fun e =>
 (ay 4 E e).bind fun s => some (Value.tuple #[s, q], e))
 (ra A E G H)) :=
 (pt rfl 0 G6 (bt rfl (Ji [1, 1, 0, 4]) 0 Vh (by kernel_rfl)))
noncomputable def Km : OV := bh PP GG FF (Ji []) (ls [A, B] 48) H uS bD uS
theorem BZ {r : Value × AH} (h : (
 aQ [(vi 0), (.slice none 0 0), (vi 0), (vw 0)] H fun b c =>
 (FF kU [A] c).bind fun a =>
 (af a.1 0).bind fun d =>
 (af a.1 1).bind fun e =>
 q9 A B b (vb false) d e a.2) = some r) : FF ci [A, B] H = some r :=
 fo (t := Km A B H) Tryz.func239 (by kernel_rfl) (Eq.trans (pt rfl 1 Vg (by kernel_rfl)) h)
end
section
variable (D E I L G J K M : Value) (H : AH)
noncomputable def Jk (p : List Nat) : Code := Code.sub (bH Tryz.f240) p
noncomputable def uT : KK := dO PP (Tryz.f240).results.toList
noncomputable def RV : KK := CQ (Jk [1, 1]) uT bD uT
noncomputable def ow : OV := RV (ls [D, E, u, u, G, J, K, M] 48) H
noncomputable def Jl : KK := CQ (Jk [1, 1, 1]) uT bD uT
noncomputable def afG : KK := gC 72057594037927886 Jl
noncomputable def ox : OV := Jl (ls [D, u, u, u, G, J] 50) H
noncomputable def afH : KX := BX 0 afG bD
theorem wW : aw Lc uT := rf
theorem Vi : aw 72057594037927692 RV := rc wW aD wW
theorem G7 : aw 72057594037927886 Jl := rc wW aD wW
theorem Vj : ∀ i, aw 72057594037927886 (afH i) := rb (cd G7) aD
theorem sV : ox D G J H =
 (FF bj [D, (.func (.func bT) #[D] #[])] H).bind fun a =>
 (af a.1 0).bind fun c =>
 (af a.1 1).bind fun d =>
 (cf 4 G c a.2).bind fun b =>
 (ay 4 G b).bind fun e => some (Value.tuple #[e, d], b) :=
 (by kernel_rfl)
theorem sU : ow D E G J K M H =
 av K
 ((FF db [D, E, (vi 6)] H).bind fun i =>
 (FF bj [D, (.func (.func aX) #[D] #[])] i.2).bind fun a =>
 (af a.1 0).bind fun j =>
 (af a.1 1).bind fun k =>
 (cf 4 G j a.2).bind fun d =>
 (ay 4 G d).bind fun l => some (Value.tuple #[l, k], d))
 ((gV M true D).bind fun m =>
 fF M true  [.n, .f 9] m H fun o =>
 (gB M true (ap .other .lss o (vi 0))).bind fun p =>
 (aV M p (vb false)).bind fun q =>
 av q
 ((FF db [D, E, (vi 7)] H).bind fun s =>
 (FF bj [D, (.func (.func aX) #[D] #[])] s.2).bind fun b =>
 (af b.1 0).bind fun t =>
 (af b.1 1).bind fun w =>
 (cf 4 G t b.2).bind fun e =>
 (ay 4 G e).bind fun y => some (Value.tuple #[y, w], e))
 (av M
 ((FF bj [D, (.func (.func dz) #[D] #[])] H).bind fun c =>
 (af c.1 0).bind fun z =>
 (af c.1 1).bind fun A =>
 (cf 4 G z c.2).bind fun g =>
 (ay 4 G g).bind fun B => some (Value.tuple #[B, A], g))
 (ox D G J H))) :=
 (pt rfl 0 G7 (bt rfl (Jk [1, 1, 0, 4]) 0 Vj (by kernel_rfl)))
noncomputable def Ff : OV := bh PP GG FF (Jk []) (ls [D, E] 54) H uT bD uT
theorem yz {r : Value × AH} (h : (
 aQ [(vi 0), (.slice none 0 0), (vi 0), (vw 0)] H fun b c =>
 (FF kU [D] c).bind fun a =>
 (af a.1 0).bind fun d =>
 (af a.1 1).bind fun e =>
 ow D E b (vb false) d e a.2) = some r) : FF bT [D, E] H = some r :=
 fo (t := Ff D E H) Tryz.func240 (by kernel_rfl) (Eq.trans (pt rfl 1 Vi (by kernel_rfl)) h)
theorem t6 {r : Value × AH} (h : (
 aQ (Value.cells L).toList H fun i a =>
 ad [.n, .f 12] D fun c =>
 (ar c a).bind fun j =>
 ad [.n, .f 11] D fun d =>
 (ar d a).bind fun e =>
 (dc .int (vi 0) e I false a).bind fun k =>
 (ay 4 i a).bind fun l =>
 (FF sy [l] a).bind fun b =>
 bO (ar c b.2) (ar c a) <|
 bO (ar d b.2) (ar d a) <|
 bO (dc .int (vi 0) e I false b.2) (dc .int (vi 0) e I false a) <|
 ga [(0, 1), (1, 1), (2, 1), (3, 4)] [(vi 0), (vi 0), (vi 0), (vi 0), (.slice none 0 0), (vi 0), (vw 0)] [(0, E), (1, I), (2, k), (3, b.1)] fun m =>
 Gi 1 7 [(vi 0), (vi 0), (vi 0), (vi 0), (.slice none 0 0), (vi 0), (vw 0)] [(0, m)] b.2 fun o p =>
 (fj 7 72 j o p).bind fun g =>
 st 1 [.n, .f 12] D g.1 g.2 fun q =>
 some (Value.tuple #[], q)) = some r) : FF gc [D, E, I, L] H = some r :=
 fo Tryz.func242 (by kernel_rfl) h
theorem s6 {r : Value × AH} (h : (
 ld [.n, .f 2] D H fun a =>
 some (a, H)) = some r) : FF dL [D] H = some r :=
 fo Tryz.func243 (by kernel_rfl) h
theorem NZ {r : Value × AH} (h : (
 aQ [(vi 0), (.slice none 0 0), (vi 0), (vw 0)] H fun a b =>
 ld [.n, .f 11] D b fun l =>
 ld [.n, .f 1] D b fun m =>
 (FF fT [l, m] b).bind fun g =>
 st 1 [.n, .f 12] D g.1 g.2 fun i =>
 ld [.n, .f 12] D i fun o =>
 (FF fi [o] i).bind fun c =>
 (ap .other .eql c.1 (vi 2)).bind fun p =>
 av p
 ((FF bJ [D, (.func (.func dn) #[D] #[])] c.2).bind fun d =>
 (af d.1 0).bind fun q =>
 (af d.1 1).bind fun s =>
 (cf 4 a q d.2).bind fun j =>
 (ay 4 a j).bind fun t => some (Value.tuple #[t, s], j))
 ((FF bJ [D, (.func (.func mu) #[D] #[])] c.2).bind fun e =>
 (af e.1 0).bind fun w =>
 (af e.1 1).bind fun y =>
 (cf 4 a w e.2).bind fun k =>
 (ay 4 a k).bind fun z => some (Value.tuple #[z, y], k))) = some r) : FF cp [D, E] H = some r :=
 fo Tryz.func244 (by kernel_rfl) h
noncomputable def Jm (p : List Nat) : Code := Code.sub (bH Tryz.f245) p
noncomputable def uU : KK := dO PP (Tryz.f245).results.toList
noncomputable def RW : KK := CQ (Jm [1, 1]) uU bD uU
noncomputable def wB : OV := RW (ls [D, E, u, u, G, J, K] 30) H
noncomputable def Jn : KK := CQ (Jm [1, 1, 1]) uU bD uU
noncomputable def afI : KK := gC 137438953422 Jn
noncomputable def wC : OV := Jn (ls [D, u, u, u, G, J] 31) H
noncomputable def afJ : KX := BX 0 afI bD
theorem wX : aw Lg uU := rf
theorem Vk : aw 137438953356 RW := rc wX aD wX
theorem G8 : aw 137438953422 Jn := rc wX aD wX
theorem Vl : ∀ i, aw 137438953422 (afJ i) := rb (cd G8) aD
theorem A9 : wC D G J H =
 (FF bJ [D, (.func (.func fc) #[D] #[])] H).bind fun a =>
 (af a.1 0).bind fun c =>
 (af a.1 1).bind fun d =>
 (cf 4 G c a.2).bind fun b =>
 (ay 4 G b).bind fun e => some (Value.tuple #[e, d], b) :=
 (by kernel_rfl)
theorem A8 : wB D E G J K H =
 ld [.n, .f 10] D H fun e =>
 av e
 ((FF bJ [D, (.func (.func fe) #[D] #[])] H).bind fun a =>
 (af a.1 0).bind fun g =>
 (af a.1 1).bind fun i =>
 (cf 4 G g a.2).bind fun c =>
 (ay 4 G c).bind fun j => some (Value.tuple #[j, i], c))
 (av K
 ((FF mw [D, E, (vi 5)] H).bind fun k =>
 (FF bJ [D, (.func (.func fe) #[D] #[])] k.2).bind fun b =>
 (af b.1 0).bind fun l =>
 (af b.1 1).bind fun m =>
 (cf 4 G l b.2).bind fun d =>
 (ay 4 G d).bind fun o => some (Value.tuple #[o, m], d))
 (wC D G J H)) :=
 (pt rfl 0 G8 (bt rfl (Jm [1, 1, 0, 4]) 0 Vl (by kernel_rfl)))
noncomputable def T9 : OV := bh PP GG FF (Jm []) (ls [D, E] 35) H uU bD uU
theorem Iv {r : Value × AH} (h : (
 aQ [(vi 0), (.slice none 0 0), (vi 0), (vw 0)] H fun b c =>
 (FF xC [D] c).bind fun a =>
 wB D E b (vb false) a.1 a.2) = some r) : FF fc [D, E] H = some r :=
 fo (t := T9 D E H) Tryz.func245 (by kernel_rfl) (Eq.trans (pt rfl 1 Vk (by kernel_rfl)) h)
theorem GC {r : Value × AH} (h : (
 (ap .other .shr D (vw 61)).bind fun a =>
 (ap .other .lss a (vw 3)).bind fun b =>
 some (b, H)) = some r) : FF jQ [D] H = some r :=
 fo Tryz.func246 (by kernel_rfl) h
theorem GA {r : Value × AH} (h : (
 (iv [D, (vi 0)]).bind fun a =>
 (jT [a, (vi 40)]).bind fun b =>
 some (b, H)) = some r) : FF qj [D] H = some r :=
 fo Tryz.func248 (by kernel_rfl) h
theorem FC {r : Value × AH} (h : (
 aQ [(vi 0), (vi 0), (vi 0)] H fun a c =>
 ga [(0, 1), (1, 1), (2, 1)] [(vi 0), (vi 0), (vi 0)] [(0, (vi 8)), (1, D)] fun d =>
 (cf 3 a d c).bind fun b =>
 (ay 3 a b).bind fun e => some (e, b)) = some r) : FF kW [D] H = some r :=
 fo Tryz.func277 (by kernel_rfl) h
noncomputable def OB (p : List Nat) : Code := Code.sub (bH Tryz.f278) p
noncomputable def uV : KK := dO PP (Tryz.f278).results.toList
noncomputable def RZ : KK := CQ (OB [1, 1]) uV bD uV
noncomputable def sT : OV := RZ (ls [D, u, I, L, G, J, K] 81) H
noncomputable def R0 : KK := CQ (OB [1, 1, 1]) uV bD uV
noncomputable def jZ : OV := R0 (ls [D, u, I, L, G, J, K] 81) H
theorem wZ : aw 309485009821345068724781043 uV := rf
theorem Vo : aw 309485009821345068724780930 RZ := rc wZ aD wZ
theorem Vp : aw 309485009821345068724780930 R0 := rc wZ aD wZ
theorem yx : jZ D I L G J K H =
 ld [.n, .f 8] D H fun g =>
 st 1 [.n, .f 10] D g H fun i =>
 st 1 [.n, .f 11] D J i fun e =>
 ld [.n, .f 8] D e fun j =>
 (ap .other .add j (vi 1)).bind fun k =>
 st 1 [.n, .f 8] D k e fun a =>
 (gV K true G).bind fun l =>
 (gV K true D).bind fun m =>
 xe K true  [.n, .f 2, .f 1] m fun c =>
 (gB K true (ar c a)).bind fun o =>
 (gB K true (ap .other .eql l o)).bind fun p =>
 (aV K p (vb false)).bind fun q =>
 ad [.n, .f 8] D fun d =>
 (ar d a).bind fun s =>
 ld [.n, .f 0] D a fun t =>
 ld [.n, .f 2] t a fun w =>
 (FF dL [w] a).bind fun b =>
 bO (ar c b.2) (ar c a) <|
 bO (ar d b.2) (ar d a) <|
 (ap .other .geq s b.1).bind fun y =>
 some (Value.tuple #[q, y], b.2) :=
 (by kernel_rfl)
theorem ou : sT D I L G J K H =
 (nk .not K).bind fun a =>
 (gV a true D).bind fun b =>
 fF a true  [.n, .f 9] b H fun c =>
 (gB a true (ap .other .lss c (vi 0))).bind fun d =>
 (aV a d (vb false)).bind fun e =>
 av e
 (ld [.n, .f 8] D H fun g =>
 st 1 [.n, .f 9] D g H fun i =>
 jZ D I L G J K i)
 (jZ D I L G J K H) :=
 (pt rfl 0 Vp (by kernel_rfl))
noncomputable def MI : OV := bh PP GG FF (OB []) (ls [D] 87) H uV bD uV
theorem Fc {r : Value × AH} (h : (
 ld [.n, .f 0] D H fun b =>
 ld [.n, .f 2] b H fun c =>
 ld [.n, .f 1] D H fun d =>
 ld [.n, .f 6] D H fun e =>
 ld [.n, .f 8] D H fun g =>
 (FF eC [c, d, e, g] H).bind fun a =>
 (af a.1 0).bind fun i =>
 (af a.1 1).bind fun j =>
 (af a.1 2).bind fun k =>
 sT D (vb false) (vb false) i j k a.2) = some r) : FF kU [D] H = some r :=
 fo (t := MI D H) Tryz.func278 (by kernel_rfl) (Eq.trans (pt rfl 1 Vo (by kernel_rfl)) h)
theorem B4 {r : Value × AH} (h : (
 aQ [(vi 0), (.slice none 0 0), (vi 0), (vw 0)] H fun a g =>
 (FF kV [D] g).bind fun b =>
 av b.1
 ((FF bj [D, (.func (.func cj) #[D] #[])] b.2).bind fun c =>
 (af c.1 0).bind fun i =>
 (af c.1 1).bind fun j =>
 (cf 4 a i c.2).bind fun e =>
 (ay 4 a e).bind fun k => some (Value.tuple #[k, j], e))
 ((FF bj [D, (.func (.func dY) #[D] #[])] b.2).bind fun d =>
 (af d.1 0).bind fun l =>
 (af d.1 1).bind fun m =>
 (cf 4 a l d.2).bind fun f =>
 (ay 4 a f).bind fun n => some (Value.tuple #[n, m], f))) = some r) : FF bv [D, E] H = some r :=
 fo Tryz.func279 (by kernel_rfl) h
theorem Fd {r : Value × AH} (h : (
 aQ [(vi 0), (.slice none 0 0), (vi 0), (vw 0)] H fun b a =>
 ld [.n, .f 0] D a fun e =>
 ld [.n, .f 2] e a fun g =>
 ld [.n, .f 1] D a fun i =>
 ld [.n, .f 6] D a fun j =>
 (FF fh [g, i, j] a).bind fun c =>
 ld [.n, .f 16] D c.2 fun k =>
 ga [(0, 1), (1, 1), (2, 1), (3, 1)] [(vi 0), (.slice none 0 0), (vi 0), (vw 0)] [(0, k)] fun l =>
 (cf 4 b l c.2).bind fun d =>
 (ay 4 b d).bind fun m => some (Value.tuple #[m, (vb true)], d)) = some r) : FF aX [D, E] H = some r :=
 fo Tryz.func280 (by kernel_rfl) h
theorem B1 {r : Value × AH} (h : (
 aQ [(vi 0), (.slice none 0 0), (vi 0), (vw 0)] H fun d b =>
 ld [.n, .f 0] D b fun i =>
 ld [.n, .f 5, .f 4] i b fun j =>
 ld [.n, .f 2, .f 2] D b fun k =>
 (FF oS [j, k] b).bind fun a =>
 (af a.1 0).bind fun l =>
 (af a.1 1).bind fun A =>
 ld [.n, .f 0] D a.2 fun m =>
 ld [.n, .f 1] D a.2 fun o =>
 ld [.n, .f 2, .f 1] D a.2 fun p =>
 ld [.n, .f 2, .f 3] D a.2 fun q =>
 ga [(0, 1), (1, 1), (2, 1)] [(vi 0), (vi 0), (vw 0)] [(0, p), (1, q), (2, l)] fun s =>
 (FF ei [m, o, s] a.2).bind fun e =>
 st 1 [.n, .f 11] D e.1 e.2 fun t =>
 (FF bj [D, (.func (.func fB) #[D] #[])] t).bind fun c =>
 (af c.1 0).bind fun w =>
 (af c.1 1).bind fun y =>
 (cf 4 d w c.2).bind fun g =>
 (ay 4 d g).bind fun z => some (Value.tuple #[z, y], g)) = some r) : FF dz [D, E] H = some r :=
 fo Tryz.func281 (by kernel_rfl) h
noncomputable def Jp (p : List Nat) : Code := Code.sub (bH Tryz.f282) p
noncomputable def uW : KK := dO PP (Tryz.f282).results.toList
noncomputable def R3 : KK := CQ (Jp [1, 1]) uW bD uW
noncomputable def Dh : OV := R3 (ls [D, u, u, u, G, J, K] 45) H
noncomputable def Jq : KK := CQ (Jp [1, 1, 1]) uW bD uW
noncomputable def afL : KK := gC 4503599627370446 Jq
noncomputable def Dj : OV := Jq (ls [D, u, u, u, G, J] 46) H
noncomputable def afM : KX := BX 0 afL bD
theorem w5 : aw 4503599627370447 uW := rf
theorem Vr : aw 4503599627370382 R3 := rc w5 aD w5
theorem G9 : aw 4503599627370446 Jq := rc w5 aD w5
theorem Vs : ∀ i, aw 4503599627370446 (afM i) := rb (cd G9) aD
theorem F2 : Dj D G J H =
 (FF bJ [D, (.func (.func kw) #[D] #[])] H).bind fun a =>
 (af a.1 0).bind fun c =>
 (af a.1 1).bind fun d =>
 (cf 4 G c a.2).bind fun b =>
 (ay 4 G b).bind fun e => some (Value.tuple #[e, d], b) :=
 (by kernel_rfl)
theorem F1 : Dh D G J K H =
 ld [.n, .f 11] D H fun i =>
 ld [.n, .f 12] D H fun j =>
 (FF ip [i, j, K] H).bind fun a =>
 av a.1
 ((FF bJ [D, (.func (.func pD) #[D] #[])] a.2).bind fun b =>
 (af b.1 0).bind fun k =>
 (af b.1 1).bind fun l =>
 (cf 4 G k b.2).bind fun e =>
 (ay 4 G e).bind fun m => some (Value.tuple #[m, l], e))
 (ld [.n, .f 12] D a.2 fun o =>
 (FF fi [o] a.2).bind fun c =>
 (ap .other .eql c.1 (vi 1)).bind fun p =>
 av p
 ((FF bJ [D, (.func (.func ky) #[D] #[])] c.2).bind fun d =>
 (af d.1 0).bind fun q =>
 (af d.1 1).bind fun s =>
 (cf 4 G q d.2).bind fun g =>
 (ay 4 G g).bind fun t => some (Value.tuple #[t, s], g))
 (Dj D G J c.2)) :=
 (pt rfl 0 G9 (bt rfl (Jp [1, 1, 0, 4]) 0 Vs (by kernel_rfl)))
noncomputable def aeG : OV := bh PP GG FF (Jp []) (ls [D, E] 50) H uW bD uW
theorem NQ {r : Value × AH} (h : (
 aQ [(vi 0), (.slice none 0 0), (vi 0), (vw 0)] H fun c a =>
 ld [.n, .f 11] D a fun d =>
 ld [.n, .f 1] D a fun e =>
 (FF iq [d, e] a).bind fun b =>
 Dh D c (vb false) b.1 b.2) = some r) : FF mu [D, E] H = some r :=
 fo (t := aeG D E H) Tryz.func282 (by kernel_rfl) (Eq.trans (pt rfl 1 Vr (by kernel_rfl)) h)
theorem Iw {r : Value × AH} (h : (
 aQ [(vi 0), (.slice none 0 0), (vi 0), (vw 0)] H fun b a =>
 ld [.n, .f 0] D a fun j =>
 ld [.n, .f 2] j a fun k =>
 ld [.n, .f 1] D a fun l =>
 ld [.n, .f 6] D a fun m =>
 (FF fh [k, l, m] a).bind fun c =>
 ld [.n, .f 10] D c.2 fun o =>
 (nk .not o).bind fun p =>
 av p
 ((FF mt [D, (vi 5)] c.2).bind fun d =>
 (af d.1 0).bind fun q =>
 (af d.1 1).bind fun s =>
 (cf 4 b q d.2).bind fun g =>
 (ay 4 b g).bind fun t => some (Value.tuple #[t, s], g))
 ((FF bJ [D, (.func (.func ii) #[D] #[])] c.2).bind fun e =>
 (af e.1 0).bind fun w =>
 (af e.1 1).bind fun y =>
 (cf 4 b w e.2).bind fun i =>
 (ay 4 b i).bind fun z => some (Value.tuple #[z, y], i))) = some r) : FF fe [D, E] H = some r :=
 fo Tryz.func283 (by kernel_rfl) h
theorem Fg {r : Value × AH} (h : (
 ld [.n, .f 12] D H fun d =>
 ld [.n, .f 1] D H fun e =>
 (FF fT [d, e] H).bind fun a =>
 st 1 [.n, .f 13] D a.1 a.2 fun b =>
 ld [.n, .f 13] D b fun g =>
 (FF fi [g] b).bind fun c =>
 (ap .other .eql c.1 (vi 0)).bind fun i =>
 some (i, c.2)) = some r) : FF kV [D] H = some r :=
 fo Tryz.func299 (by kernel_rfl) h
theorem B2 {r : Value × AH} (h : (
 aQ [(vi 0), (.slice none 0 0), (vi 0), (vw 0)] H fun a b =>
 ld [.n, .f 12] D b fun j =>
 ld [.n, .f 1] D b fun k =>
 ld [.n, .f 13] D b fun l =>
 (FF kK [j, k, l] b).bind fun c =>
 (nk .not c.1).bind fun m =>
 av m
 ((FF bj [D, (.func (.func bv) #[D] #[])] c.2).bind fun d =>
 (af d.1 0).bind fun o =>
 (af d.1 1).bind fun p =>
 (cf 4 a o d.2).bind fun g =>
 (ay 4 a g).bind fun q => some (Value.tuple #[q, p], g))
 ((FF db [D, E, (vi 0)] c.2).bind fun s =>
 (FF bj [D, (.func (.func dI) #[D] #[])] s.2).bind fun e =>
 (af e.1 0).bind fun t =>
 (af e.1 1).bind fun w =>
 (cf 4 a t e.2).bind fun i =>
 (ay 4 a i).bind fun y => some (Value.tuple #[y, w], i))) = some r) : FF cj [D, E] H = some r :=
 fo Tryz.func300 (by kernel_rfl) h
theorem Fh {r : Value × AH} (h : (
 aQ [(vi 0), (.slice none 0 0), (vi 0), (vw 0)] H fun a b =>
 ld [.n, .f 0] D b fun k =>
 ld [.n, .f 1] D b fun l =>
 (FF dD [k, l] b).bind fun g =>
 st 1 [.n, .f 14] D g.1 g.2 fun c =>
 ld [.n, .f 14] D c fun m =>
 (ap .other .rem m (vw 2)).bind fun o =>
 (ap .other .eql o (vw 1)).bind fun p =>
 av p
 ((FF bj [D, (.func (.func bv) #[D] #[])] c).bind fun d =>
 (af d.1 0).bind fun q =>
 (af d.1 1).bind fun s =>
 (cf 4 a q d.2).bind fun i =>
 (ay 4 a i).bind fun t => some (Value.tuple #[t, s], i))
 ((FF bj [D, (.func (.func cu) #[D] #[])] c).bind fun e =>
 (af e.1 0).bind fun w =>
 (af e.1 1).bind fun y =>
 (cf 4 a w e.2).bind fun j =>
 (ay 4 a j).bind fun z => some (Value.tuple #[z, y], j))) = some r) : FF dY [D, E] H = some r :=
 fo Tryz.func301 (by kernel_rfl) h
theorem rt {r : Value × AH} (h : (
 ad [.n, .f 0] D fun a =>
 (ar a H).bind fun c =>
 (FF kW [I] H).bind fun b =>
 bO (ar a b.2) (ar a H) <|
 (FF dH [c, E, b.1, (vw 0)] b.2).bind fun d =>
 some (Value.tuple #[], d.2)) = some r) : FF fh [D, E, I] H = some r :=
 fo Tryz.func302 (by kernel_rfl) h
theorem FD {r : Value × AH} (h : (
 (ap .other .lss D (vw 1)).bind fun a =>
 (gV a false D).bind fun d =>
 (gB a false (ap .other .gtr d (vw 4611686018427387904))).bind fun e =>
 (aV a (vb true) e).bind fun b =>
 (gV b false E).bind fun f =>
 (gB b false (ap .other .lss f (vi 1))).bind fun g =>
 (aV b (vb true) g).bind fun c =>
 (gV c false E).bind fun i =>
 (gB c false (ap .other .gtr i (vi 65536))).bind fun j =>
 (aV c (vb true) j).bind fun k =>
 av k
 (some (Value.tuple #[(vw 0), (vb false)], H))
 ((cN (some .u64) E).bind fun l =>
 (ap .other .quo D l).bind fun m =>
 (iv [m, (vw 1)]).bind fun n =>
 some (Value.tuple #[n, (vb true)], H))) = some r) : FF oS [D, E] H = some r :=
 fo Tryz.func303 (by kernel_rfl) h
theorem Fe {r : Value × AH} (h : (
 aQ [(vi 0), (.slice none 0 0), (vi 0), (vw 0)] H fun c a =>
 ld [.n, .f 0] D a fun e =>
 ld [.n, .f 2] e a fun g =>
 ld [.n, .f 1] D a fun i =>
 ld [.n, .f 6] D a fun j =>
 ld [.n, .f 9] D a fun k =>
 ld [.n, .f 2, .f 1] D a fun l =>
 ld [.n, .f 11] D a fun m =>
 (FF gL [g, i, j, k, l, m] a).bind fun o =>
 (FF db [D, E, (vi 0)] o.2).bind fun p =>
 (FF bj [D, (.func (.func aX) #[D] #[])] p.2).bind fun b =>
 (af b.1 0).bind fun q =>
 (af b.1 1).bind fun s =>
 (cf 4 c q b.2).bind fun d =>
 (ay 4 c d).bind fun t => some (Value.tuple #[t, s], d)) = some r) : FF fB [D, E] H = some r :=
 fo Tryz.func304 (by kernel_rfl) h
theorem yB {r : Value × AH} (h : (
 ad [.n, .f 0] D fun a =>
 (ar a H).bind fun d =>
 (FF ep [D, (vi 12), (vi 0)] H).bind fun b =>
 bO (ar a b.2) (ar a H) <|
 (FF dx [d, E, b.1] b.2).bind fun c =>
 some (c.1, c.2)) = some r) : FF iq [D, E] H = some r :=
 fo Tryz.func305 (by kernel_rfl) h
theorem yA {r : Value × AH} (h : (
 (FF dS [E] H).bind fun b =>
 (ap .other .geq b.1 I).bind fun a =>
 (gV a true b.1).bind fun c =>
 (gV a true I).bind fun d =>
 (gB a true (ap .other .sub c d)).bind fun e =>
 (gV a true D).bind fun g =>
 fF a true  [.n, .f 2] g b.2 fun i =>
 (EI (yv a) true (iQ i some) (some undef)).bind fun j =>
 (gB a true (cN (some .u64) j)).bind fun k =>
 (gB a true (ap .other .geq e k)).bind fun l =>
 (aV a l (vb false)).bind fun m =>
 some (m, b.2)) = some r) : FF ip [D, E, I] H = some r :=
 fo Tryz.func306 (by kernel_rfl) h
theorem Ua {r : Value × AH} (h : (
 aQ [(vi 0), (.slice none 0 0), (vi 0), (vw 0)] H fun a b =>
 ld [.n, .f 0] D b fun k =>
 ld [.n, .f 1] D b fun l =>
 (FF dD [k, l] b).bind fun g =>
 st 1 [.n, .f 13] D g.1 g.2 fun c =>
 ld [.n, .f 13] D c fun m =>
 (ap .other .rem m (vw 2)).bind fun o =>
 (ap .other .eql o (vw 1)).bind fun p =>
 av p
 ((FF bJ [D, (.func (.func cp) #[D] #[])] c).bind fun d =>
 (af d.1 0).bind fun q =>
 (af d.1 1).bind fun s =>
 (cf 4 a q d.2).bind fun i =>
 (ay 4 a i).bind fun t => some (Value.tuple #[t, s], i))
 ((FF bJ [D, (.func (.func fN) #[D] #[])] c).bind fun e =>
 (af e.1 0).bind fun w =>
 (af e.1 1).bind fun y =>
 (cf 4 a w e.2).bind fun j =>
 (ay 4 a j).bind fun z => some (Value.tuple #[z, y], j))) = some r) : FF pD [D, E] H = some r :=
 fo Tryz.func307 (by kernel_rfl) h
theorem Lt {r : Value × AH} (h : (
 aQ [(vi 0), (.slice none 0 0), (vi 0), (vw 0)] H fun a b =>
 ld [.n, .f 11] D b fun j =>
 ld [.n, .f 1] D b fun k =>
 ld [.n, .f 12] D b fun l =>
 (FF gK [j, k, l] b).bind fun c =>
 (nk .not c.1).bind fun m =>
 av m
 ((FF bJ [D, (.func (.func cp) #[D] #[])] c.2).bind fun d =>
 (af d.1 0).bind fun o =>
 (af d.1 1).bind fun p =>
 (cf 4 a o d.2).bind fun g =>
 (ay 4 a g).bind fun q => some (Value.tuple #[q, p], g))
 ((FF mw [D, E, (vi 0)] c.2).bind fun s =>
 (FF bJ [D, (.func (.func pC) #[D] #[])] s.2).bind fun e =>
 (af e.1 0).bind fun t =>
 (af e.1 1).bind fun w =>
 (cf 4 a t e.2).bind fun i =>
 (ay 4 a i).bind fun y => some (Value.tuple #[y, w], i))) = some r) : FF ky [D, E] H = some r :=
 fo Tryz.func308 (by kernel_rfl) h
theorem Ls {r : Value × AH} (h : (
 aQ [(vi 0), (.slice none 0 0), (vi 0), (vw 0)] H fun c a =>
 ld [.n, .f 0] D a fun e =>
 ld [.n, .f 1] e a fun g =>
 ld [.n, .f 1] D a fun i =>
 (FF iH [g, i] a).bind fun j =>
 (FF bJ [D, (.func (.func mA) #[D] #[])] j.2).bind fun b =>
 (af b.1 0).bind fun k =>
 (af b.1 1).bind fun l =>
 (cf 4 c k b.2).bind fun d =>
 (ay 4 c d).bind fun m => some (Value.tuple #[m, l], d)) = some r) : FF kw [D, E] H = some r :=
 fo Tryz.func309 (by kernel_rfl) h
theorem z7 {r : Value × AH} (h : (
 aQ [(vi 0), (.slice none 0 0), (vi 0), (vw 0)] H fun c a =>
 ld [.n, .f 0] D a fun e =>
 ld [.n, .f 2] e a fun g =>
 ld [.n, .f 1] D a fun i =>
 ld [.n, .f 6] D a fun j =>
 ld [.n, .f 10] D a fun k =>
 (FF iJ [g, i, j, k] a).bind fun l =>
 (FF bj [D, (.func (.func aX) #[D] #[])] l.2).bind fun b =>
 (af b.1 0).bind fun m =>
 (af b.1 1).bind fun o =>
 (cf 4 c m b.2).bind fun d =>
 (ay 4 c d).bind fun p => some (Value.tuple #[p, o], d)) = some r) : FF dI [D, E] H = some r :=
 fo Tryz.func315 (by kernel_rfl) h
theorem vD {r : Value × AH} (h : (
 ld [.n, .f 0] D H fun b =>
 ga [(0, 1), (1, 1), (2, 1)] [(vi 0), (vi 0), (vi 0)] [(0, (vi 2))] fun c =>
 (FF dx [b, E, c] H).bind fun a =>
 some (a.1, a.2)) = some r) : FF dD [D, E] H = some r :=
 fo Tryz.func316 (by kernel_rfl) h
theorem sW {r : Value × AH} (h : (
 aQ [(vi 0), (.slice none 0 0), (vi 0), (vw 0)] H fun a i =>
 (FF kV [D] i).bind fun b =>
 av b.1
 ((FF bj [D, (.func (.func cj) #[D] #[])] b.2).bind fun c =>
 (af c.1 0).bind fun j =>
 (af c.1 1).bind fun k =>
 (cf 4 a j c.2).bind fun e =>
 (ay 4 a e).bind fun l => some (Value.tuple #[l, k], e))
 (st 1 [.n, .f 15] D E b.2 fun m =>
 (FF bj [D, (.func (.func cD) #[D] #[])] m).bind fun d =>
 (af d.1 0).bind fun o =>
 (af d.1 1).bind fun p =>
 (cf 4 a o d.2).bind fun g =>
 (ay 4 a g).bind fun q => some (Value.tuple #[q, p], g))) = some r) : FF cu [D, E] H = some r :=
 fo Tryz.func317 (by kernel_rfl) h
theorem Ba {r : Value × AH} (h : (
 aQ [(vi 0), (.slice none 0 0), (vi 0), (vw 0)] H fun a b =>
 ld [.n, .f 11] D b fun l =>
 ld [.n, .f 1] D b fun m =>
 (FF fT [l, m] b).bind fun g =>
 st 1 [.n, .f 12] D g.1 g.2 fun i =>
 ld [.n, .f 12] D i fun o =>
 (FF fi [o] i).bind fun c =>
 (ap .other .eql c.1 (vi 2)).bind fun p =>
 av p
 ((FF bJ [D, (.func (.func dn) #[D] #[])] c.2).bind fun d =>
 (af d.1 0).bind fun q =>
 (af d.1 1).bind fun s =>
 (cf 4 a q d.2).bind fun j =>
 (ay 4 a j).bind fun t => some (Value.tuple #[t, s], j))
 ((FF bJ [D, (.func (.func fM) #[D] #[])] c.2).bind fun e =>
 (af e.1 0).bind fun w =>
 (af e.1 1).bind fun y =>
 (cf 4 a w e.2).bind fun k =>
 (ay 4 a k).bind fun z => some (Value.tuple #[z, y], k))) = some r) : FF fN [D, E] H = some r :=
 fo Tryz.func318 (by kernel_rfl) h
theorem wc {r : Value × AH} (h : (
 (FF iu [D, E, I, (.func (.func nZ) #[] #[])] H).bind fun a =>
 some (a.1, a.2)) = some r) : FF gK [D, E, I] H = some r :=
 fo Tryz.func319 (by kernel_rfl) h
theorem T8 {r : Value × AH} (h : (
 aQ [(vi 0), (.slice none 0 0), (vi 0), (vw 0)] H fun b d =>
 (FF xD [D] d).bind fun e =>
 (FF bJ [D, (.func (.func mz) #[D] #[])] e.2).bind fun a =>
 (af a.1 0).bind fun f =>
 (af a.1 1).bind fun g =>
 (cf 4 b f a.2).bind fun c =>
 (ay 4 b c).bind fun i => some (Value.tuple #[i, g], c)) = some r) : FF pC [D, E] H = some r :=
 fo Tryz.func320 (by kernel_rfl) h
theorem sa {r : Value × AH} (h : (
 ad [.n, .f 0] D fun a =>
 (ar a H).bind fun c =>
 (FF bB [(vi 3), (vi 0)] H).bind fun b =>
 bO (ar a b.2) (ar a H) <|
 (FF iR [c, E, b.1, (vw 4294967296)] b.2).bind fun d =>
 some (Value.tuple #[], d.2)) = some r) : FF iH [D, E] H = some r :=
 fo Tryz.func321 (by kernel_rfl) h
theorem NY {r : Value × AH} (h : (
 aQ [(vi 0), (.slice none 0 0), (vi 0), (vw 0)] H fun a b =>
 ld [.n, .f 11] D b fun j =>
 ld [.n, .f 1] D b fun k =>
 ld [.n, .f 12] D b fun l =>
 (FF gK [j, k, l] b).bind fun c =>
 (nk .not c.1).bind fun m =>
 av m
 ((FF bJ [D, (.func (.func mq) #[D] #[])] c.2).bind fun d =>
 (af d.1 0).bind fun o =>
 (af d.1 1).bind fun p =>
 (cf 4 a o d.2).bind fun g =>
 (ay 4 a g).bind fun q => some (Value.tuple #[q, p], g))
 ((FF mw [D, E, (vi 0)] c.2).bind fun s =>
 (FF bJ [D, (.func (.func mr) #[D] #[])] s.2).bind fun e =>
 (af e.1 0).bind fun t =>
 (af e.1 1).bind fun w =>
 (cf 4 a t e.2).bind fun i =>
 (ay 4 a i).bind fun y => some (Value.tuple #[y, w], i))) = some r) : FF mA [D, E] H = some r :=
 fo Tryz.func322 (by kernel_rfl) h
theorem ub {r : Value × AH} (h : (
 aQ [(vi 0), (.slice none 0 0), (vi 0), (vw 0)] H fun b c =>
 ld [.n, .f 0] D c fun k =>
 ld [.n, .f 1] D c fun l =>
 (FF dD [k, l] c).bind fun a =>
 ad [.n, .f 14] D fun d =>
 (ar d a.2).bind fun m =>
 bO (ar d c) (ar d a.2) <|
 (ap .other .neq a.1 m).bind fun o =>
 av o
 ((FF bj [D, (.func (.func bv) #[D] #[])] a.2).bind fun e =>
 (af e.1 0).bind fun p =>
 (af e.1 1).bind fun q =>
 (cf 4 b p e.2).bind fun i =>
 (ay 4 b i).bind fun s => some (Value.tuple #[s, q], i))
 (ld [.n, .f 15] D a.2 fun t =>
 (FF db [D, t, (vi 8)] a.2).bind fun w =>
 (FF bj [D, (.func (.func aX) #[D] #[])] w.2).bind fun g =>
 (af g.1 0).bind fun y =>
 (af g.1 1).bind fun z =>
 (cf 4 b y g.2).bind fun j =>
 (ay 4 b j).bind fun A => some (Value.tuple #[A, z], j))) = some r) : FF cD [D, E] H = some r :=
 fo Tryz.func323 (by kernel_rfl) h
theorem A7 {r : Value × AH} (h : (
 aQ [(vi 0), (.slice none 0 0), (vi 0), (vw 0)] H fun b a =>
 ad [.n, .f 11] D fun d =>
 (ar d a).bind fun m =>
 ad [.n, .f 12] D fun e =>
 (ar e a).bind fun o =>
 ld [.n, .f 11] D a fun p =>
 ld [.n, .f 1] D a fun q =>
 (FF iq [p, q] a).bind fun c =>
 bO (ar d c.2) (ar d a) <|
 bO (ar e c.2) (ar e a) <|
 (FF ip [m, o, c.1] c.2).bind fun g =>
 (nk .not g.1).bind fun s =>
 av s
 ((FF bJ [D, (.func (.func cp) #[D] #[])] g.2).bind fun i =>
 (af i.1 0).bind fun t =>
 (af i.1 1).bind fun w =>
 (cf 4 b t i.2).bind fun k =>
 (ay 4 b k).bind fun y => some (Value.tuple #[y, w], k))
 (st 1 [.n, .f 14] D E g.2 fun z =>
 (FF bJ [D, (.func (.func gy) #[D] #[])] z).bind fun j =>
 (af j.1 0).bind fun A =>
 (af j.1 1).bind fun B =>
 (cf 4 b A j.2).bind fun l =>
 (ay 4 b l).bind fun C => some (Value.tuple #[C, B], l))) = some r) : FF fM [D, E] H = some r :=
 fo Tryz.func324 (by kernel_rfl) h
theorem KF {r : Value × AH} (h : (
 (FF jQ [D] H).bind fun c =>
 (nk .not c.1).bind fun a =>
 (gV a false D).bind fun i =>
 (gE a false c.2 (FF fi [i] c.2)).bind fun d =>
 (gB a false (ap .other .eql d.1 (vi 2))).bind fun j =>
 (aV a (vb true) j).bind fun b =>
 (gV b false D).bind fun k =>
 (gE b false d.2 (FF dS [k] d.2)).bind fun e =>
 (gB b false (ap .other .eql e.1 (vw 2305843009213693951))).bind fun l =>
 (aV b (vb true) l).bind fun m =>
 av m
 (some (Value.tuple #[(vw 0), (vb false)], e.2))
 ((FF dS [D] e.2).bind fun g =>
 (ap .other .add g.1 (vw 1)).bind fun n =>
 (FF n0 [n, (vi 1)] g.2).bind fun f =>
 (af f.1 0).bind fun o =>
 (af f.1 1).bind fun p =>
 some (Value.tuple #[o, p], f.2))) = some r) : FF nZ [D] H = some r :=
 fo Tryz.func325 (by kernel_rfl) h
theorem T7 {r : Value × AH} (h : (
 ad [.n, .f 11] D fun b =>
 (ar b H).bind fun i =>
 ad [.n, .f 1] D fun c =>
 (ar c H).bind fun j =>
 ld [.n, .f 12] D H fun k =>
 (FF dS [k] H).bind fun a =>
 bO (ar b a.2) (ar b H) <|
 bO (ar c a.2) (ar c H) <|
 ad [.n, .f 2, .f 1] D fun d =>
 (ar d a.2).bind fun l =>
 bO (ar d H) (ar d a.2) <|
 ad [.n, .f 2, .f 2] D fun e =>
 (ar e a.2).bind fun m =>
 bO (ar e H) (ar e a.2) <|
 ad [.n, .f 2, .f 3] D fun g =>
 (ar g a.2).bind fun o =>
 bO (ar g H) (ar g a.2) <|
 ga [(0, 1), (1, 1), (2, 1)] [(vi 0), (vi 0), (vi 0)] [(0, l), (1, m), (2, o)] fun p =>
 (FF lM [i, j, a.1, p] a.2).bind fun q =>
 some (Value.tuple #[], q.2)) = some r) : FF xD [D] H = some r :=
 fo Tryz.func326 (by kernel_rfl) h
theorem NX {r : Value × AH} (h : (
 aQ [(vi 0), (.slice none 0 0), (vi 0), (vw 0)] H fun g a =>
 ad [.n, .f 11] D fun c =>
 (ar c a).bind fun j =>
 ad [.n, .f 1] D fun d =>
 (ar d a).bind fun k =>
 ld [.n, .f 12] D a fun l =>
 (FF dS [l] a).bind fun b =>
 bO (ar c b.2) (ar c a) <|
 bO (ar d b.2) (ar d a) <|
 (FF ir [j, k, b.1] b.2).bind fun m =>
 (FF mt [D, (vi 0)] m.2).bind fun e =>
 (af e.1 0).bind fun o =>
 (af e.1 1).bind fun p =>
 (cf 4 g o e.2).bind fun i =>
 (ay 4 g i).bind fun q => some (Value.tuple #[q, p], i)) = some r) : FF mz [D, E] H = some r :=
 fo Tryz.func327 (by kernel_rfl) h
theorem NN {r : Value × AH} (h : (
 aQ [(vi 0), (.slice none 0 0), (vi 0), (vw 0)] H fun c a =>
 ld [.n, .f 0] D a fun e =>
 ld [.n, .f 1] e a fun g =>
 ld [.n, .f 1] D a fun i =>
 (FF gI [g, i] a).bind fun j =>
 (FF bJ [D, (.func (.func cp) #[D] #[])] j.2).bind fun b =>
 (af b.1 0).bind fun k =>
 (af b.1 1).bind fun l =>
 (cf 4 c k b.2).bind fun d =>
 (ay 4 c d).bind fun m => some (Value.tuple #[m, l], d)) = some r) : FF mq [D, E] H = some r :=
 fo Tryz.func328 (by kernel_rfl) h
theorem NO {r : Value × AH} (h : (
 aQ [(vi 0), (.slice none 0 0), (vi 0), (vw 0)] H fun b d =>
 (FF xD [D] d).bind fun e =>
 (FF bJ [D, (.func (.func kA) #[D] #[])] e.2).bind fun a =>
 (af a.1 0).bind fun f =>
 (af a.1 1).bind fun g =>
 (cf 4 b f a.2).bind fun c =>
 (ay 4 b c).bind fun i => some (Value.tuple #[i, g], c)) = some r) : FF mr [D, E] H = some r :=
 fo Tryz.func329 (by kernel_rfl) h
theorem Dm {r : Value × AH} (h : (
 aQ [(vi 0), (.slice none 0 0), (vi 0), (vw 0)] H fun b c =>
 ld [.n, .f 0] D c fun k =>
 ld [.n, .f 1] D c fun l =>
 (FF dD [k, l] c).bind fun a =>
 ad [.n, .f 13] D fun d =>
 (ar d a.2).bind fun m =>
 bO (ar d c) (ar d a.2) <|
 (ap .other .neq a.1 m).bind fun o =>
 av o
 ((FF bJ [D, (.func (.func cp) #[D] #[])] a.2).bind fun e =>
 (af e.1 0).bind fun p =>
 (af e.1 1).bind fun q =>
 (cf 4 b p e.2).bind fun i =>
 (ay 4 b i).bind fun s => some (Value.tuple #[s, q], i))
 (ld [.n, .f 14] D a.2 fun t =>
 (FF jq [D, t, (vi 9)] a.2).bind fun g =>
 (af g.1 0).bind fun w =>
 (af g.1 1).bind fun y =>
 (cf 4 b w g.2).bind fun j =>
 (ay 4 b j).bind fun z => some (Value.tuple #[z, y], j))) = some r) : FF gy [D, E] H = some r :=
 fo Tryz.func330 (by kernel_rfl) h
theorem Aa {r : Value × AH} (h : (
 aQ (Value.cells L).toList H fun e c =>
 ad [.n, .f 0] D fun a =>
 (ar a c).bind fun l =>
 (FF dr [D, I] c).bind fun g =>
 bO (ar a g.2) (ar a c) <|
 (FF ep [D, (vi 16), g.1] g.2).bind fun j =>
 bO (ar a j.2) (ar a c) <|
 (FF gq [l, E, j.1] j.2).bind fun d =>
 ad [.n, .f 2] D fun k =>
 (ar k d.2).bind fun m =>
 (FF dr [D, I] d.2).bind fun b =>
 bO (ar k b.2) (ar k d.2) <|
 (ay 3 e b.2).bind fun o =>
 bO (ay 3 e d.2) (ay 3 e b.2) <|
 st 3 [.i 3 b.1] m o b.2 fun p =>
 some (Value.tuple #[], p)) = some r) : FF lM [D, E, I, L] H = some r :=
 fo Tryz.func331 (by kernel_rfl) h
theorem yD {r : Value × AH} (h : (
 ad [.n, .f 0] D fun a =>
 (ar a H).bind fun d =>
 (FF dr [D, I] H).bind fun b =>
 bO (ar a b.2) (ar a H) <|
 (FF ep [D, (vi 15), b.1] b.2).bind fun c =>
 bO (ar a c.2) (ar a H) <|
 (ap .other .add I (vw 1)).bind fun e =>
 (FF dH [d, E, c.1, e] c.2).bind fun g =>
 some (Value.tuple #[], g.2)) = some r) : FF ir [D, E, I] H = some r :=
 fo Tryz.func332 (by kernel_rfl) h
theorem uY {r : Value × AH} (h : (
 ad [.n, .f 0] D fun a =>
 (ar a H).bind fun c =>
 (FF bB [(vi 3), (vi 0)] H).bind fun b =>
 bO (ar a b.2) (ar a H) <|
 (FF iR [c, E, b.1, (vw 1)] b.2).bind fun d =>
 some (Value.tuple #[], d.2)) = some r) : FF gI [D, E] H = some r :=
 fo Tryz.func333 (by kernel_rfl) h
theorem Lv {r : Value × AH} (h : (
 aQ [(vi 0), (.slice none 0 0), (vi 0), (vw 0)] H fun g a =>
 ad [.n, .f 11] D fun c =>
 (ar c a).bind fun j =>
 ad [.n, .f 1] D fun d =>
 (ar d a).bind fun k =>
 ld [.n, .f 12] D a fun l =>
 (FF dS [l] a).bind fun b =>
 bO (ar c b.2) (ar c a) <|
 bO (ar d b.2) (ar d a) <|
 (FF ir [j, k, b.1] b.2).bind fun m =>
 (FF bJ [D, (.func (.func dR) #[D] #[])] m.2).bind fun e =>
 (af e.1 0).bind fun o =>
 (af e.1 1).bind fun p =>
 (cf 4 g o e.2).bind fun i =>
 (ay 4 g i).bind fun q => some (Value.tuple #[q, p], i)) = some r) : FF kA [D, E] H = some r :=
 fo Tryz.func334 (by kernel_rfl) h
theorem F5 {r : Value × AH} (h : (
 aQ [(vi 0), (.slice none 0 0), (vi 0), (vw 0)] H fun c a =>
 ld [.n, .f 0] D a fun g =>
 ld [.n, .f 1] g a fun i =>
 ld [.n, .f 1] D a fun j =>
 ld [.n, .f 6] D a fun k =>
 (FF jF [i, j, k] a).bind fun d =>
 st 1 [.n, .f 15] D d.1 d.2 fun l =>
 (FF bJ [D, (.func (.func mv) #[D] #[])] l).bind fun b =>
 (af b.1 0).bind fun m =>
 (af b.1 1).bind fun o =>
 (cf 4 c m b.2).bind fun e =>
 (ay 4 c e).bind fun p => some (Value.tuple #[p, o], e)) = some r) : FF dR [D, E] H = some r :=
 fo Tryz.func335 (by kernel_rfl) h
theorem uZ {r : Value × AH} (h : (
 ad [.n, .f 0] D fun a =>
 (ar a H).bind fun e =>
 ld [.n, .f 3] D H fun g =>
 (di g [I]).bind fun c => (FF c.1 c.2 H).bind fun b =>
 bO (ar a b.2) (ar a H) <|
 (FF dx [e, E, b.1] b.2).bind fun d =>
 some (d.1, d.2)) = some r) : FF jF [D, E, I] H = some r :=
 fo Tryz.func336 (by kernel_rfl) h
theorem NR {r : Value × AH} (h : (
 aQ [(vi 0), (.slice none 0 0), (vi 0), (vw 0)] H fun c a =>
 ld [.n, .f 0] D a fun e =>
 ld [.n, .f 1] e a fun g =>
 ld [.n, .f 1] D a fun i =>
 ld [.n, .f 9] D a fun j =>
 ld [.n, .f 15] D a fun k =>
 (FF jd [g, i, j, k] a).bind fun l =>
 (FF bJ [D, (.func (.func my) #[D] #[])] l.2).bind fun b =>
 (af b.1 0).bind fun m =>
 (af b.1 1).bind fun o =>
 (cf 4 c m b.2).bind fun d =>
 (ay 4 c d).bind fun p => some (Value.tuple #[p, o], d)) = some r) : FF mv [D, E] H = some r :=
 fo Tryz.func337 (by kernel_rfl) h
theorem tW {r : Value × AH} (h : (
 ad [.n, .f 0] D fun a =>
 (ar a H).bind fun e =>
 ld [.n, .f 4] D H fun g =>
 (di g [I]).bind fun c => (FF c.1 c.2 H).bind fun b =>
 bO (ar a b.2) (ar a H) <|
 (FF gq [e, E, b.1] b.2).bind fun d =>
 ld [.n, .f 2] D d.2 fun i =>
 (fm .int i I L d.2).bind fun j =>
 some (Value.tuple #[], j)) = some r) : FF jd [D, E, I, L] H = some r :=
 fo Tryz.func338 (by kernel_rfl) h
theorem NV {r : Value × AH} (h : (
 aQ [(vi 0), (.slice none 0 0), (vi 0), (vw 0)] H fun b a =>
 ld [.n, .f 0] D a fun j =>
 ld [.n, .f 1] j a fun k =>
 ld [.n, .f 1] D a fun l =>
 ld [.n, .f 6] D a fun m =>
 ld [.n, .f 15] D a fun o =>
 ld [.n, .f 9] D a fun p =>
 (FF je [k, l, m, o, p] a).bind fun c =>
 (nk .not c.1).bind fun q =>
 av q
 ((FF bJ [D, (.func (.func dR) #[D] #[])] c.2).bind fun d =>
 (af d.1 0).bind fun s =>
 (af d.1 1).bind fun t =>
 (cf 4 b s d.2).bind fun g =>
 (ay 4 b g).bind fun w => some (Value.tuple #[w, t], g))
 ((FF bJ [D, (.func (.func pB) #[D] #[])] c.2).bind fun e =>
 (af e.1 0).bind fun y =>
 (af e.1 1).bind fun z =>
 (cf 4 b y e.2).bind fun i =>
 (ay 4 b i).bind fun A => some (Value.tuple #[A, z], i))) = some r) : FF my [D, E] H = some r :=
 fo Tryz.func339 (by kernel_rfl) h
theorem tX {r : Value × AH} (h : (
 ad [.n, .f 0] D fun a =>
 (ar a H).bind fun e =>
 ld [.n, .f 3] D H fun g =>
 (di g [I]).bind fun c => (FF c.1 c.2 H).bind fun b =>
 bO (ar a b.2) (ar a H) <|
 (cN (some .u64) G).bind fun i =>
 (ap .other .add i (vw 1)).bind fun j =>
 (FF fP [e, E, b.1, L, j] b.2).bind fun d =>
 some (d.1, d.2)) = some r) : FF je [D, E, I, L, G] H = some r :=
 fo Tryz.func340 (by kernel_rfl) h
theorem T5 {r : Value × AH} (h : (
 aQ [(vi 0), (.slice none 0 0), (vi 0), (vw 0)] H fun c a =>
 ld [.n, .f 0] D a fun e =>
 ld [.n, .f 1] e a fun g =>
 ld [.n, .f 1] D a fun i =>
 (FF gI [g, i] a).bind fun j =>
 (FF mt [D, (vi 0)] j.2).bind fun b =>
 (af b.1 0).bind fun k =>
 (af b.1 1).bind fun l =>
 (cf 4 c k b.2).bind fun d =>
 (ay 4 c d).bind fun m => some (Value.tuple #[m, l], d)) = some r) : FF pB [D, E] H = some r :=
 fo Tryz.func341 (by kernel_rfl) h
end
theorem FP (n : Int) : IntKind.wrap .u64 n = n % 18446744073709551616 := by simp [IntKind.wrap, IntKind.bits, IntKind.signed]
theorem mH {n : Int} (h0 : 0 ≤ n) (h1 : n < 18446744073709551616) : IntKind.wrap .u64 n = n := by rw [FP]; omega
theorem pP {n : Int} (h0 : -9223372036854775808 ≤ n) (h1 : n < 9223372036854775808) : IntKind.wrap .i64 n = n := by
 simp [IntKind.wrap, IntKind.bits, IntKind.signed]
 split <;> omega
theorem tM (a : Nat) (h : a < 18446744073709551616) : (BitVec.ofInt 64 (a : Int)).toNat = a := by
 rw [BitVec.toNat_ofInt];omega
theorem NF {a b : Nat} (ha : a < 18446744073709551616) (hb : b < 18446744073709551616) : Go.bits .and .u64 (a : Int) (b : Int) = ((a &&& b : Nat) : Int) := by
 show IntKind.wrap .u64 (((BitVec.ofInt 64 (a : Int) &&& BitVec.ofInt 64 (b : Int)).toNat : Nat) : Int) = _;rw [BitVec.toNat_and, tM a ha, tM b hb];have : a &&& b ≤ a := Nat.and_le_left;exact mH (by omega) (by omega)
theorem alI {a b : Nat} (ha : a < 18446744073709551616) (hb : b < 18446744073709551616) : a ||| b < 18446744073709551616 := Nat.or_lt_two_pow (n := 64) ha hb
theorem TY {a b : Nat} (ha : a < 18446744073709551616) (hb : b < 18446744073709551616) : Go.bits .or .u64 (a : Int) (b : Int) = ((a ||| b : Nat) : Int) := by
 show IntKind.wrap .u64 (((BitVec.ofInt 64 (a : Int) ||| BitVec.ofInt 64 (b : Int)).toNat : Nat) : Int) = _;rw [BitVec.toNat_or, tM a ha, tM b hb];have := alI ha hb;exact mH (by omega) (by omega)
section
variable {cl : TCls}
theorem aeA {a b : Nat} (ha : a < 18446744073709551616) (hb : b < 18446744073709551616) : ap cl .and (vu a) (vu b) = some (vu (a &&& b)) := by simp only [ap, nI, if_true, NF ha hb]
theorem Xz {a b : Nat} (ha : a < 18446744073709551616) (hb : b < 18446744073709551616) : ap cl .or (vu a) (vu b) = some (vu (a ||| b)) := by simp only [ap, nI, if_true, TY ha hb]
theorem gv {a b : Nat} (h : a + b < 18446744073709551616) : ap cl .add (vu a) (vu b) = some (vu (a + b)) := by
 simp only [ap, nI, if_true];rw [mH (by omega) (by omega)];simp
theorem TX {a b : Nat} : ap cl .mul (vu a) (vu b) = some (vu (a * b % 18446744073709551616)) := by
 simp only [ap, nI, if_true];rw [FP];simp
theorem GN {a b : Nat} (h : b ≤ a) (ha : a < 18446744073709551616) : ap cl .sub (vu a) (vu b) = some (vu (a - b)) := by
 simp only [ap, nI, if_true];rw [mH (by omega) (by omega)];show some (Value.int .u64 ((a : Int) - (b : Int))) = some (Value.int .u64 ((a - b : Nat) : Int));rw [Int.ofNat_sub h]
theorem y4 {a b : Nat} (h : b ≠ 0) (ha : a < 18446744073709551616) : ap cl .quo (vu a) (vu b) = some (vu (a / b)) := by
 simp only [ap, nI, if_true];rw [if_neg (by omega)];have h1 : (a : Int).tdiv (b : Int) = ((a / b : Nat) : Int) := (Int.ofNat_tdiv a b).symm;have h2 : a / b ≤ a := Nat.div_le_self a b;rw [h1]
 generalize a / b = q at h2
 rw [mH (by omega) (by omega)]
theorem kp {a b : Nat} (h : b ≠ 0) : ap cl .rem (vu a) (vu b) = some (vu (a % b)) := by
 simp only [ap, nI, if_true];rw [if_neg (by omega)];have h1 : (a : Int).tmod (b : Int) = ((a % b : Nat) : Int) := (Int.ofNat_tmod a b).symm;rw [h1]
theorem GM {a : Nat} {k : IntKind} {n : Nat} (hn : n ≤ 64) : ap cl .shr (vu a) (.int k (n : Int)) = some (vu (a / 2 ^ n)) := by
 simp only [ap, nj];rw [if_neg (by omega)];simp only [IntKind.bits, xm, Nat.min_eq_left hn]
 have : (a : Int).fdiv (2 ^ n) = ((a / 2 ^ n : Nat) : Int) := by
  rw [Int.fdiv_eq_ediv_of_nonneg _ (by exact Int.le_of_lt (Int.pow_pos (by omega)))];simp
 rw [this]
theorem GL {a : Nat} {k : IntKind} {n : Nat} (hn : n ≤ 64) : ap cl .shl (vu a) (.int k (n : Int)) = some (vu (a * 2 ^ n % 18446744073709551616)) := by
 simp only [ap, nj];rw [if_neg (by omega)];simp only [IntKind.bits, xm, Nat.min_eq_left hn];rw [FP];simp
theorem aM {a b : Int} (h0 : -9223372036854775808 ≤ a + b) (h1 : a + b < 9223372036854775808) : ap cl .add (vi a) (vi b) = some (vi (a + b)) := by simp only [ap, nI, if_true, pP h0 h1]
theorem o4 {a b : Int} (h0 : -9223372036854775808 ≤ a - b) (h1 : a - b < 9223372036854775808) : ap cl .sub (vi a) (vi b) = some (vi (a - b)) := by simp only [ap, nI, if_true, pP h0 h1]
theorem tq {k : IntKind} {a b : Int} : ap cl .lss (.int k a) (.int k b) = some (vb (decide (a < b))) ∧ ap cl .leq (.int k a) (.int k b) = some (vb (decide (a ≤ b))) ∧ ap cl .gtr (.int k a) (.int k b) = some (vb (decide (b < a))) ∧
 ap cl .geq (.int k a) (.int k b) = some (vb (decide (b ≤ a))) ∧ ap cl .eql (.int k a) (.int k b) = some (vb (a == b)) ∧ ap cl .neq (.int k a) (.int k b) = some (vb (a != b)) := by
 simp [ap, nI]
theorem tt {k : IntKind} {a b : Int} : ap cl .lss (.int k a) (.int k b) = some (vb (decide (a < b))) := tq.1
theorem QD {k : IntKind} {a b : Int} : ap cl .leq (.int k a) (.int k b) = some (vb (decide (a ≤ b))) := tq.2.1
theorem In {k : IntKind} {a b : Int} : ap cl .gtr (.int k a) (.int k b) = some (vb (decide (b < a))) := tq.2.2.1
theorem tr {k : IntKind} {a b : Int} : ap cl .geq (.int k a) (.int k b) = some (vb (decide (b ≤ a))) := tq.2.2.2.1
theorem fI {k : IntKind} {a b : Int} : ap cl .eql (.int k a) (.int k b) = some (vb (a == b)) := tq.2.2.2.2.1
theorem ww {k : IntKind} {a b : Int} : ap cl .neq (.int k a) (.int k b) = some (vb (a != b)) := tq.2.2.2.2.2
theorem Ah {a : Bool} : nk .not (vb a) = some (vb (!a)) := rfl
theorem lx {a b : Int} : iv [vi a, vi b] = some (vi (max a b)) := by
 simp only [iv]
 congr 2
 split <;> omega
theorem ly {a b : Int} : jT [vi a, vi b] = some (vi (min a b)) := by
 simp only [jT]
 congr 2
 split <;> omega
end
abbrev Hp := Nat → Option AObj
def SP : Type := Hp → Prop
theorem SP.ext {P Q : SP} (h : ∀ x, P x ↔ Q x) : P = Q := funext fun x => propext (h x)
def sep (P Q : SP) : SP := fun h => ∃ a b : Hp, (∀ i, a i = none ∨ b i = none) ∧ (h = fun i => (a i).or (b i)) ∧ P a ∧ Q b
instance : Mul SP := ⟨sep⟩
def emp : SP := fun h => h = fun _ => none
theorem aa5 {α : Type} {a b : Option α} (h : a = none ∨ b = none) : a.or b = b.or a := by
 rcases h with rfl | rfl <;> simp
theorem yJ (P Q : SP) : P * Q = Q * P := by
 have one : ∀ (P Q : SP) h, sep P Q h → sep Q P h := by
  rintro P Q h ⟨a, b, hd, rfl, ha, hb⟩
  exact ⟨b, a, fun i => (hd i).symm, funext fun i => aa5 (hd i), hb, ha⟩
 exact SP.ext fun h => ⟨one P Q h, one Q P h⟩
theorem ai (P Q R : SP) : P * Q * R = P * (Q * R) := by
 apply SP.ext;intro h
 constructor
 ·rintro ⟨ab, c, hd, rfl, ⟨a, b, hd2, rfl, ha, hb⟩, hc⟩
  refine ⟨a, fun i => (b i).or (c i), fun i => ?_, funext fun i => ?_, ha, b, c, fun i => ?_, rfl, hb, hc⟩
  ·have h1 := hd i
   have h2 := hd2 i
   cases ha' : a i <;> cases hb' : b i <;> cases hc' : c i <;> simp_all
  ·exact Option.or_assoc
  ·have h1 := hd i
   have h2 := hd2 i
   cases ha' : a i <;> cases hb' : b i <;> cases hc' : c i <;> simp_all
 ·rintro ⟨a, bc, hd, rfl, ha, b, c, hd2, rfl, hb, hc⟩
  refine ⟨fun i => (a i).or (b i), c, fun i => ?_, funext fun i => ?_, ⟨a, b, fun i => ?_, rfl, ha, hb⟩, hc⟩
  ·have h1 := hd i
   have h2 := hd2 i
   cases ha' : a i <;> cases hb' : b i <;> cases hc' : c i <;> simp_all
  ·exact Option.or_assoc.symm
  ·have h1 := hd i
   have h2 := hd2 i
   cases ha' : a i <;> cases hb' : b i <;> cases hc' : c i <;> simp_all
theorem j2 (P : SP) : P * emp = P := by
 apply SP.ext;intro h
 constructor
 ·rintro ⟨a, b, hd, rfl, ha, hb⟩
  have hb : b = fun _ => none := hb;subst hb
  simpa using ha
 ·intro h'
  exact ⟨h, fun _ => none, fun i => .inr rfl, by simp, h', rfl⟩
theorem kR (P : SP) : emp * P = P := by rw [yJ, j2]
instance : Std.Associative (α := SP) (· * ·) := ⟨ai⟩
instance : Std.Commutative (α := SP) (· * ·) := ⟨yJ⟩
theorem cr (P Q R : SP) : P * (Q * R) = Q * (P * R) := by rw [← ai, yJ P Q, ai]
def blk (b : Nat) (o : AObj) : SP := fun h => h = fun i => if i = b then some o else none
def ex {α : Type} (P : α → SP) : SP := fun h => ∃ x, P x h
def pu (p : Prop) : SP := fun h => p ∧ h = fun _ => none
def ae (P : SP) (H : AH) : Prop := ∃ h : Hp, P h ∧ ∀ i o, h i = some o → H.get i = some o
theorem ae.left {P Q : SP} {H : AH} (h : ae (P * Q) H) : ae P H := by
 obtain ⟨x, ⟨a, b, hd, rfl, ha, hb⟩, hx⟩ := h;exact ⟨a, ha, fun i o hi => hx i o (by simp [hi])⟩
theorem ae.right {P Q : SP} {H : AH} (h : ae (P * Q) H) : ae Q H := by rw [yJ] at h; exact h.left
theorem ae.get {b : Nat} {o : AObj} {H : AH} (h : ae (blk b o) H) : H.get b = some o := by
 obtain ⟨x, hx, hg⟩ := h;have hx : x = _ := hx;exact hg b o (by rw [hx]; simp)
theorem ae.ex {α : Type} {F : α → SP} {R : SP} {H : AH} : ae (ex F * R) H ↔ ∃ x, ae (F x * R) H := by
 constructor
 ·rintro ⟨h, ⟨a, b, hd, rfl, ⟨x, ha⟩, hb⟩, hx⟩
  exact ⟨x, _, ⟨a, b, hd, rfl, ha, hb⟩, hx⟩
 ·rintro ⟨x, h, ⟨a, b, hd, rfl, ha, hb⟩, hx⟩
  exact ⟨_, ⟨a, b, hd, rfl, ⟨x, ha⟩, hb⟩, hx⟩
theorem ae.pu {p : Prop} {R : SP} {H : AH} : ae (pu p * R) H ↔ p ∧ ae R H := by
 constructor
 ·rintro ⟨h, ⟨a, b, hd, rfl, ⟨hp, ha⟩, hb⟩, hx⟩
  subst ha;exact ⟨hp, b, hb, fun i o hi => hx i o (by simp [hi])⟩
 ·rintro ⟨hp, h, hr, hx⟩
  exact ⟨h, ⟨fun _ => none, h, fun i => .inl rfl, by simp, ⟨hp, rfl⟩, hr⟩, hx⟩
theorem ae.emp (H : AH) : ae emp H := ⟨fun _ => none, rfl, fun i o h => by cases h⟩
theorem ae.lt {b : Nat} {o : AObj} {R : SP} {H : AH} (h : ae (blk b o * R) H) : b < H.size := AH.lt_of_get h.left.get
theorem ae.set {b : Nat} {o : AObj} {R : SP} {H : AH} (o' : AObj) (h : ae (blk b o * R) H) : ae (blk b o' * R) (H.set b o') := by
 have hb := h.lt;obtain ⟨x, ⟨a, r, hd, rfl, ha, hr⟩, hx⟩ := h;have ha : a = _ := ha;subst ha;refine ⟨_, ⟨_, r, fun i => ?_, rfl, rfl, hr⟩, fun i o2 hi => ?_⟩
 ·have := hd i
  simp only at this ⊢
  by_cases hi : i = b
  ·rw [if_pos hi] at this ⊢
   rcases this with h | h
   ·cases h
   ·exact .inr h
  ·rw [if_neg hi]; exact .inl rfl
 ·by_cases hib : i = b
  ·subst hib
   simp only [if_true, Option.some_or, Option.some.injEq] at hi;subst hi;exact AH.get_set_eq hb
  ·simp only [if_neg hib, Option.none_or] at hi
   rw [AH.get_set_ne hib];exact hx i o2 (by simp only [if_neg hib, Option.none_or]; exact hi)
theorem ae.push {R : SP} {H : AH} (o : AObj) (h : ae R H) : ae (blk H.size o * R) (H.push o) := by
 obtain ⟨r, hr, hx⟩ := h;refine ⟨_, ⟨_, r, fun i => ?_, rfl, rfl, hr⟩, fun i o2 hi => ?_⟩
 ·by_cases hi : i = H.size
  ·subst hi
   right
   cases hr' : r H.size with
   | none => rfl
   | some o' => have := AH.lt_of_get (hx _ _ hr'); omega
  ·rw [if_neg hi]; exact .inl rfl
 ·by_cases hib : i = H.size
  ·subst hib
   simp only [if_true, Option.some_or, Option.some.injEq] at hi;subst hi;exact AH.get_push_new _ _
  ·simp only [if_neg hib, Option.none_or] at hi
   have := hx i o2 hi;rw [AH.get_push_old (AH.lt_of_get this)];exact this
theorem ae.dead {b : Nat} {o : AObj} {R : SP} {H : AH} (h : ae (blk b o * R) H) : ae R (H.set b .dead) := (h.set .dead).right
class Fr (P A : SP) (R : outParam SP) : Prop where
 eq : P = A * R
instance (priority := high) Fr.refl (A : SP) : Fr A A emp := ⟨(j2 A).symm⟩
instance (priority := high) Fr.emp (P : SP) : Fr P emp P := ⟨(kR P).symm⟩
instance Fr.left (P Q A R : SP) [h : Fr P A R] : Fr (P * Q) A (R * Q) := ⟨by rw [h.eq, ai]⟩
instance Fr.right (P Q A R : SP) [h : Fr Q A R] : Fr (P * Q) A (P * R) := ⟨by rw [h.eq, cr]⟩
instance (priority := high) Fr.both (P A B R1 R2 : SP) [h1 : Fr P A R1] [h2 : Fr R1 B R2] : Fr P (A * B) R2 := ⟨by rw [h1.eq, h2.eq, ai]⟩
class Hs (P : SP) (b : Nat) (o : outParam AObj) : Prop where
 get : ∀ {H : AH}, ae P H → H.get b = some o
instance Hs.one (b : Nat) (o : AObj) : Hs (blk b o) b o := ⟨ae.get⟩
instance Hs.left (P Q : SP) (b : Nat) (o : AObj) [h : Hs P b o] : Hs (P * Q) b o := ⟨fun k => h.get k.left⟩
instance Hs.right (P Q : SP) (b : Nat) (o : AObj) [h : Hs Q b o] : Hs (P * Q) b o := ⟨fun k => h.get k.right⟩
class Up (P : SP) (b : Nat) (o' : AObj) (P' : outParam SP) : Prop where
 up : ∃ o R, P = blk b o * R ∧ P' = blk b o' * R
instance Up.one (b : Nat) (o o' : AObj) : Up (blk b o) b o' (blk b o') := ⟨o, emp, (j2 _).symm, (j2 _).symm⟩
instance Up.left (P Q : SP) (b : Nat) (o' : AObj) (P' : SP) [h : Up P b o' P'] : Up (P * Q) b o' (P' * Q) := ⟨by
 obtain ⟨o, R, e1, e2⟩ := h.up
 exact ⟨o, R * Q, by rw [e1, ai], by rw [e2, ai]⟩⟩
instance Up.right (P Q : SP) (b : Nat) (o' : AObj) (Q' : SP) [h : Up Q b o' Q'] : Up (P * Q) b o' (P * Q') := ⟨by
 obtain ⟨o, R, e1, e2⟩ := h.up
 exact ⟨o, P * R, by rw [e1, cr], by rw [e2, cr]⟩⟩
theorem Up.set {P P' : SP} {b : Nat} {o' : AObj} [h : Up P b o' P'] {H : AH} (k : ae P H) : ae P' (H.set b o') := by
 obtain ⟨o, R, rfl, rfl⟩ := h.up;exact k.set o'
theorem ae.fr {P A R : SP} {H : AH} (h : ae P H) [f : Fr P A R] : ae (A * R) H := by rw [← f.eq]; exact h
theorem ae.to {P A R : SP} {H : AH} (h : ae P H) [f : Fr P A R] : ae A H := h.fr.left
def wp (x : OV) (Q : Value → AH → Prop) : Prop := ∃ v H, x = some (v, H) ∧ Q v H
abbrev vp (b : Nat) : Value := .pointer (some ⟨b, 0, none⟩)
abbrev uH (b o : Nat) : Value := .pointer (some ⟨b, o, none⟩)
abbrev vs (b n e : Nat) : Value := .slice (some ⟨b, 0, none⟩) n e
theorem aq {v : Value} {H : AH} {Q : Value → AH → Prop} (h : Q v H) : wp (some (v, H)) Q := ⟨v, H, rfl, h⟩
theorem wp.mono {x : OV} {Q Q' : Value → AH → Prop} (h : wp x Q) (k : ∀ v H, Q v H → Q' v H) : wp x Q' := let ⟨v, H, e, q⟩ := h; ⟨v, H, e, k v H q⟩
theorem bg {x y : OV} {Q : Value → AH → Prop} (h : ∀ r, x = some r → y = some r) (k : wp x Q) : wp y Q := let ⟨v, H, e, q⟩ := k; ⟨v, H, h _ e, q⟩
theorem ah {x y : OV} {Q : Value → AH → Prop} (h : y = x) (k : wp x Q) : wp y Q := by rw [h]; exact k
theorem aa {x : Option Value} {v : Value} {k : Value → OV} {Q : Value → AH → Prop} (e : x = some v) (h : wp (k v) Q) : wp (x.bind k) Q := by rw [e]; exact h
theorem cm {b : Bool} {x y : OV} {Q : Value → AH → Prop} (ht : b = true → wp x Q) (hf : b = false → wp y Q) : wp (av (vb b) x y) Q := by
 cases b
 ·exact hf rfl
 ·exact ht rfl
theorem FM {x y : Option Value} {k : OV} {Q : Value → AH → Prop} (e : x = y) (h : wp k Q) : wp (bO x y k) Q := by rw [ai9 e]; exact h
theorem Ai {x : Option Value} {k : OV} {Q : Value → AH → Prop} (h : wp k Q) : wp (bO x x k) Q := FM rfl h
section
variable {P P' R : SP} {H : AH} {b o f n len e : Nat} {ro : Bool} {cs : List Value} {v x : Value} {Q : Value → AH → Prop}
theorem OY (h : ae P H) [i : Hs P b (.cells ro cs)] (hv : cs[o]? = some v) : ar (uH b o) H = some v := by
 simp only [ar, vB, eK, bL, i.get h];exact hv
theorem OZ (h : ae P H) [i : Hs P b (.cells ro cs)] (hn : o + n ≤ cs.length) : ay n (uH b o) H = some (.agg ((cs.drop o).take n).toArray) := by
 simp only [ay, vB, eK, bL, i.get h];rw [if_pos hn]
theorem acK (h : ae P H) [i : Hs P b (.cells false cs)] (hx : x.cells.size = n) (hn : o + n ≤ cs.length) (hc : x.cells.toList.all Value.oneCell' = true) :
 cf n (uH b o) x H = some (H.set b (.cells false (splice cs o x.cells.toList))) := by
 simp only [cf, vB, bL, i.get h];rw [if_pos ⟨hx, hn, hc⟩]
theorem bf {k : Value → AH → OV} (h : ae P H) (hk : ∀ b H', ae (blk b (.cells false cs) * P) H' → wp (k (vp b) H') Q) : wp (aQ cs H k) Q := hk _ _ (h.push _)
theorem yS {k : Value → AH → OV} (h : ae P H) (hk : ∀ b H', ae (blk b (.map [] 0) * P) H' → wp (k (.map (some b)) H') Q) : wp (Ge H k) Q := hk _ _ (h.push _)
theorem alU {k : Value → AH → OV} (h : ae P H) (hk : ∀ b H', ae (blk b (.cells false cs) * P) H' → wp (k (vs b len e) H') Q) : wp (alN len e cs H k) Q := hk _ _ (h.push _)
theorem ac9 {zero : List Value} {xs : List (Nat × Value)} {k : Value → AH → OV} (h : ae P H) (hf : dt (agE e) (List.replicate len zero).flatten xs = some cs) (hk : ∀ b H', ae (blk b (.cells false cs) * P) H' → wp (k (vs b len e) H') Q) :
 wp (Gi len e zero xs H k) Q := by
 unfold Gi;rw [hf];exact alU h hk
theorem Nb {ps : List (Nat × Nat)} {zero : List Value} {xs : List (Nat × Value)} {k : Value → OV} (hf : dt (fun i => ps[i]?) zero xs = some cs) (hk : wp (k (.agg cs.toArray)) Q) : wp (ga ps zero xs k) Q := by
 unfold ga;rw [hf];exact hk
theorem Tw {n : Nat} {a : Option Addr} {k : Value → OV} (hk : wp (k (vi n)) Q) : wp (iQ (.slice a n e) k) Q := hk
theorem ak0 {R : Type} {b o f : Nat} {p : List Stp} {k : Value → Option R} : ad (.f f :: p) (uH b o) k = ad p (uH b (o + f)) k := rfl
theorem Xp {R : Type} {b o n e i : Nat} {c : Nat} {p : List Stp} {kk : IntKind} {k : Value → Option R} (h : i < n) : ad (.i e (.int kk (i : Int)) :: p) (.slice (some ⟨b, o, none⟩) n c) k = ad p (uH b (o + i * e)) k := by
 show (pF e (.slice (some ⟨b, o, none⟩) n c) (.int kk (i : Int))).bind _ = _;simp only [pF];rw [if_pos (by omega)];simp
def Qq (p : List Stp) (x : Value) (b o : Nat) : Prop := ∀ {R : Type} (k : Value → Option R), ad p x k = k (uH b o)
theorem aY : Qq [] (uH b o) b o := fun _ => rfl
theorem bV {p : List Stp} {b' o' : Nat} (h : Qq p (uH b o) b' o') : Qq (.n :: p) (uH b o) b' o' := fun k => h k
theorem aO {p : List Stp} {b' o' : Nat} (h : Qq p (uH b (o + f)) b' o') : Qq (.f f :: p) (uH b o) b' o' := fun k => h k
theorem QQ {p : List Stp} {b' o' i c : Nat} {kk : IntKind} (hi : i < n) (h : Qq p (uH b (o + i * e)) b' o') : Qq (.i e (.int kk (i : Int)) :: p) (.slice (some ⟨b, o, none⟩) n c) b' o' := fun k => by rw [Xp hi]; exact h k
theorem ac : Qq [.n, .f f] (vp b) b f := fun k => by
 show k (uH b (0 + f)) = _;rw [Nat.zero_add]
theorem aA : Qq [.f f] (vp b) b f := fun k => by
 show k (uH b (0 + f)) = _;rw [Nat.zero_add]
class Xh (l : List Value) (o : Nat) (v : Value) (l' : outParam (List Value)) : Prop where
 eq : o < l.length ∧ l' = l.set o v
instance Xh.zero (a : Value) (l : List Value) (v : Value) : Xh (a :: l) 0 v (v :: l) := ⟨by simp⟩
instance Xh.succ (a : Value) (l : List Value) (o : Nat) (v : Value) (l' : List Value) [h : Xh l o v l'] : Xh (a :: l) (o + 1) v (a :: l') := ⟨by
 obtain ⟨h1, rfl⟩ := h.eq
 exact ⟨by simp; exact h1, by simp⟩⟩
class AZ (l : List Value) (o : Nat) (xs : List Value) (l' : outParam (List Value)) : Prop where
 eq : o + xs.length ≤ l.length ∧ l' = splice l o xs
instance AZ.here0 (l : List Value) : AZ l 0 [] l := ⟨by simp [splice]⟩
instance AZ.here (a x : Value) (l xs l' : List Value) [h : AZ l 0 xs l'] : AZ (a :: l) 0 (x :: xs) (x :: l') := ⟨by
 obtain ⟨h1, rfl⟩ := h.eq
 refine ⟨by simp at h1 ⊢; exact h1, by simp [splice]⟩⟩
instance AZ.on (a : Value) (l : List Value) (o : Nat) (x : Value) (xs l' : List Value) [h : AZ l o (x :: xs) l'] : AZ (a :: l) (o + 1) (x :: xs) (a :: l') := ⟨by
 obtain ⟨h1, rfl⟩ := h.eq;refine ⟨by simp at h1 ⊢; omega, ?_⟩;simp only [splice, List.take_succ_cons, List.cons_append, List.cons.injEq, true_and]
 congr 1
 rw [show o + 1 + (x :: xs).length = (o + (x :: xs).length) + 1 from by omega, List.drop_succ_cons]⟩
class FZ (l : List Value) (o n : Nat) (l' : outParam (List Value)) : Prop where
 eq : o + n ≤ l.length ∧ l' = (l.drop o).take n
instance FZ.nil (l : List Value) : FZ l 0 0 [] := ⟨by simp⟩
instance FZ.here (a : Value) (l : List Value) (n : Nat) (l' : List Value) [h : FZ l 0 n l'] : FZ (a :: l) 0 (n + 1) (a :: l') := ⟨by
 obtain ⟨h1, rfl⟩ := h.eq
 exact ⟨by simp at h1 ⊢; exact h1, by simp⟩⟩
instance FZ.on (a : Value) (l : List Value) (o n : Nat) (l' : List Value) [h : FZ l o (n + 1) l'] : FZ (a :: l) (o + 1) (n + 1) l' := ⟨by
 obtain ⟨h1, rfl⟩ := h.eq
 exact ⟨by simp at h1 ⊢; omega, by simp⟩⟩
class yX (v : Value) (l : outParam (List Value)) : Prop where
 eq : v.cells.toList = l
instance yX.int (k : IntKind) (n : Int) : yX (.int k n) [.int k n] := ⟨rfl⟩
instance yX.bool (b : Bool) : yX (.bool b) [.bool b] := ⟨rfl⟩
instance yX.slice (a : Option Addr) (n c : Nat) : yX (.slice a n c) [.slice a n c] := ⟨rfl⟩
instance yX.ptr (a : Option Addr) : yX (.pointer a) [.pointer a] := ⟨rfl⟩
instance yX.func (f : Fn) (a b : Array Value) : yX (.func f a b) [.func f a b] := ⟨rfl⟩
instance yX.nilFunc : yX .nilFunc [.nilFunc] := ⟨rfl⟩
instance yX.map (m : Option Nat) : yX (.map m) [.map m] := ⟨rfl⟩
instance yX.string (s : ByteArray) : yX (.string s) [.string s] := ⟨rfl⟩
instance yX.agg (l : List Value) : yX (.agg l.toArray) l := ⟨by simp [Value.cells]⟩
class TH (ps : List (Nat × Nat)) (i : Nat) (o n : outParam Nat) : Prop where
 eq : ps[i]? = some (o, n)
instance TH.zero (p : Nat × Nat) (ps : List (Nat × Nat)) : TH (p :: ps) 0 p.1 p.2 := ⟨rfl⟩
instance TH.succ (p : Nat × Nat) (ps : List (Nat × Nat)) (i o n : Nat) [h : TH ps i o n] : TH (p :: ps) (i + 1) o n := ⟨by simpa using h.eq⟩
class Nr (l : List Value) (n : Nat) : Prop where
 eq : l.length = n
instance Nr.nil : Nr [] 0 := ⟨rfl⟩
instance Nr.cons (a : Value) (l : List Value) (n : Nat) [h : Nr l n] : Nr (a :: l) (n + 1) := ⟨by simp [h.eq]⟩
class TG (ps : List (Nat × Nat)) (zero : List Value) (xs : List (Nat × Value)) (cs : outParam (List Value)) : Prop where
 eq : dt (fun i => ps[i]?) zero xs = some cs
instance TG.nil (ps : List (Nat × Nat)) (zero : List Value) : TG ps zero [] zero := ⟨rfl⟩
instance TG.cons (ps : List (Nat × Nat)) (zero z l cs : List Value) (i o n : Nat) (v : Value) (xs : List (Nat × Value)) [h1 : TH ps i o n] [h2 : yX v l] [h3 : Nr l n] [h4 : AZ zero o l z] [h5 : TG ps z xs cs] : TG ps zero ((i, v) :: xs) cs := ⟨by
 obtain ⟨h6, rfl⟩ := h4.eq;have h7 := h2.eq;have h8 := h3.eq;subst h7;simp only [dt, h1.eq, bL];rw [if_pos ⟨by simpa using h8, by rw [← h8]; exact h6⟩]
 exact h5.eq⟩
class aiV (e : Nat) (zero : List Value) (xs : List (Nat × Value)) (cs : outParam (List Value)) : Prop where
 eq : dt (agE e) (List.replicate 1 zero).flatten xs = some cs
instance aiV.one (e : Nat) (zero l z : List Value) (v : Value) [h2 : yX v l] [h3 : Nr l e] [h4 : AZ zero 0 l z] : aiV e zero [(0, v)] z := ⟨by
 obtain ⟨h6, rfl⟩ := h4.eq;have h7 := h2.eq;have h8 := h3.eq;subst h7
 have hz : (List.replicate 1 zero).flatten = zero := by simp
 rw [hz];simp only [dt, agE, bL, Nat.zero_mul]
 rw [if_pos ⟨by simpa using h8, by rw [← h8]; exact h6⟩]⟩
theorem bz {p : List Stp} {k : Value → OV} (hp : Qq p x b o) (hk : wp (k (uH b o)) Q) : wp (ad p x k) Q := by rw [hp k]; exact hk
theorem aj {p : List Stp} {k : Value → OV} (h : ae P H) (hp : Qq p x b o) [i : Hs P b (.cells ro cs)] (hv : cs[o]? = some v) (hk : wp (k v) Q) : wp (ld p x H k) Q := by
 unfold ld;rw [hp, OY h hv];exact hk
theorem Tv {l : List Value} {p : List Stp} {k : Value → OV} (h : ae P H) (hp : Qq p x b o) [i : Hs P b (.cells ro cs)] [s : FZ cs o n l] (hk : wp (k (.agg l.toArray)) Q) : wp (ldN n p x H k) Q := by
 obtain ⟨hn, rfl⟩ := s.eq;unfold ldN;rw [hp, OZ h hn];exact hk
theorem bi {cs' l : List Value} {p : List Stp} {k : AH → OV} (h : ae P H) (hp : Qq p x b o) [i : Hs P b (.cells false cs)] [c : yX v l] [s : AZ cs o l cs'] (hx : l.length = n) (hc : l.all Value.oneCell' = true)
 [u : Up P b (.cells false cs') P'] (hk : ∀ H', ae P' H' → wp (k H') Q) : wp (st n p x v H k) Q := by
 obtain ⟨hn, rfl⟩ := s.eq;have hl := c.eq;subst hl;unfold st;rw [hp, acK h (by simpa using hx) (by simp at hx hn; omega) hc];exact hk _ (u.set h)
theorem aR {k : Value → OV} (h : ae P H) [i : Hs P b (.cells ro cs)] (hv : cs[o]? = some v) (hk : wp (k v) Q) : wp ((ar (uH b o) H).bind k) Q := aa (OY h hv) hk
theorem aJ {l : List Value} {k : Value → OV} (h : ae P H) [i : Hs P b (.cells ro cs)] [s : FZ cs o n l] (hk : wp (k (.agg l.toArray)) Q) : wp ((ay n (uH b o) H).bind k) Q := by
 obtain ⟨hn, rfl⟩ := s.eq;exact aa (OZ h hn) hk
theorem cX {cs' l : List Value} {k : AH → OV} (h : ae P H) [i : Hs P b (.cells false cs)] [c : yX v l] [s : AZ cs o l cs'] (hx : l.length = n) (hc : l.all Value.oneCell' = true)
 [u : Up P b (.cells false cs') P'] (hk : ∀ H', ae P' H' → wp (k H') Q) : wp ((cf n (uH b o) v H).bind k) Q := by
 obtain ⟨hn, rfl⟩ := s.eq;have hl := c.eq;subst hl;rw [acK h (by simpa using hx) (by simp at hx hn; omega) hc];exact hk _ (u.set h)
theorem aS {l : List Value} {k : Value → AH → OV} (h : ae P H) [c : yX x l] (hk : ∀ b H', ae (blk b (.cells false l) * P) H' → wp (k (vp b) H') Q) : wp (aQ (Value.cells x).toList H k) Q := by
 rw [c.eq]; exact bf h hk
theorem iz {ps : List (Nat × Nat)} {zero : List Value} {xs : List (Nat × Value)} {k : Value → OV} [f : TG ps zero xs cs] (hk : wp (k (.agg cs.toArray)) Q) : wp (ga ps zero xs k) Q := Nb f.eq hk
theorem Nq {zero : List Value} {xs : List (Nat × Value)} {k : Value → AH → OV} (h : ae P H) [f : aiV e zero xs cs] (hk : ∀ b H', ae (blk b (.cells false cs) * P) H' → wp (k (vs b 1 e) H') Q) : wp (Gi 1 e zero xs H k) Q := ac9 h f.eq hk
theorem aH {P2 : SP} {H2 : AH} {ro2 : Bool} {cs2 : List Value} {k : OV} (h : ae P H) (h2 : ae P2 H2) [i : Hs P b (.cells ro cs)] [i2 : Hs P2 b (.cells ro2 cs2)] (e : cs[o]? = cs2[o]?) (hk : wp k Q) :
 wp (bO (ar (uH b o) H) (ar (uH b o) H2) k) Q := by
 refine FM ?_ hk;simp only [ar, vB, eK, bL, i.get h, i2.get h2];exact e
theorem dA {P2 : SP} {H2 : AH} {ro2 : Bool} {cs2 : List Value} {k : OV} (h : ae P H) (h2 : ae P2 H2) [i : Hs P b (.cells ro cs)] [i2 : Hs P2 b (.cells ro2 cs2)] (e : cs = cs2) (hk : wp k Q) :
 wp (bO (ay n (uH b o) H) (ay n (uH b o) H2) k) Q := by
 refine FM ?_ hk;simp only [ay, vB, eK, bL, i.get h, i2.get h2, e]
def Sp {α : Type} (f : Nat) (args : List Value) (P : SP) (v : α → Value) (Q : α → SP) : Prop := ∀ R H, ae (P * R) H → ∃ x H', FF f args H = some (v x, H') ∧ ae (Q x * R) H'
theorem aP {α : Type} {f : Nat} {args : List Value} {P : SP} {v : α → Value} {Q : α → SP} (h : ∀ R H, ae (P * R) H → wp (FF f args H) fun v' H' => ∃ x, v' = v x ∧ ae (Q x * R) H') : Sp f args P v Q := by
 intro R H hh;obtain ⟨v', H', e, x, rfl, hq⟩ := h R H hh;exact ⟨x, H', e, hq⟩
theorem br {α : Type} {f : Nat} {args : List Value} {P : SP} {v : α → Value} {Q : α → SP} {g : AH → OV} (hf : ∀ (H : AH) {r : Value × AH}, g H = some r → FF f args H = some r) (k : ∀ (R : SP) (H : AH), ae (P * R) H → wp (g H) fun v' H' => ∃ x, v' = v x ∧ ae (Q x * R) H') : Sp f args P v Q := aP fun R H h => bg (fun r => hf H) (k R H h)
theorem ag {α : Type} {f : Nat} {args : List Value} {P0 : SP} {v : α → Value} {Q0 : α → SP} {k : Value × AH → OV} (h : ae P H) (s : Sp f args P0 v Q0) [fr : Fr P P0 R] (hk : ∀ x H', ae (Q0 x * R) H' → wp (k (v x, H')) Q) : wp ((FF f args H).bind k) Q := by
 obtain ⟨x, H', e, h'⟩ := s R H h.fr;rw [e];exact hk x H' h'
end
def sl (e : Nat) (v : Value) (n : Nat) (cs : List Value) : SP := ex fun ob : Option Nat => match ob with
 | none => pu (v = .slice none 0 0 ∧ n = 0 ∧ cs = [])
 | some b => pu (v = vs b n e ∧ cs.length = n * e) * blk b (.cells false cs)
theorem Tj {R : SP} {H : AH} (e : Nat) (h : ae R H) : ae (sl e (.slice none 0 0) 0 [] * R) H := ae.ex.2 ⟨none, ae.pu.2 ⟨⟨rfl, rfl, rfl⟩, h⟩⟩
theorem yM {R : SP} {H : AH} {e b n : Nat} {cs : List Value} (hl : cs.length = n * e) (h : ae (blk b (.cells false cs) * R) H) : ae (sl e (vs b n e) n cs * R) H :=
 ae.ex.2 ⟨some b, by rw [ai]; exact ae.pu.2 ⟨⟨rfl, hl⟩, h⟩⟩
theorem tU {R : SP} {H : AH} {e n : Nat} {v : Value} {cs : List Value} (h : ae (sl e v n cs * R) H) : (v = .slice none 0 0 ∧ n = 0 ∧ cs = [] ∧ ae R H) ∨ ∃ b, v = vs b n e ∧ cs.length = n * e ∧ ae (blk b (.cells false cs) * R) H := by
 obtain ⟨ob, h⟩ := ae.ex.1 h
 cases ob with
 | none =>
  obtain ⟨⟨h1, h2, h3⟩, h4⟩ := ae.pu.1 h;exact .inl ⟨h1, h2, h3, h4⟩
 | some b =>
  simp only [ai] at h;obtain ⟨⟨h1, h2⟩, h4⟩ := ae.pu.1 h;exact .inr ⟨b, h1, h2, h4⟩
class Sl (P : SP) (e : Nat) (v : Value) (n : outParam Nat) (cs : outParam (List Value)) (R : outParam SP) : Prop where
 eq : P = sl e v n cs * R
instance (priority := high) Sl.refl (e n : Nat) (v : Value) (cs : List Value) : Sl (sl e v n cs) e v n cs emp := ⟨(j2 _).symm⟩
instance Sl.left (P Q R : SP) (e n : Nat) (v : Value) (cs : List Value) [h : Sl P e v n cs R] : Sl (P * Q) e v n cs (R * Q) := ⟨by rw [h.eq, ai]⟩
instance Sl.right (P Q R : SP) (e n : Nat) (v : Value) (cs : List Value) [h : Sl Q e v n cs R] : Sl (P * Q) e v n cs (P * R) := ⟨by rw [h.eq, cr]⟩
theorem Sl.fr {P R : SP} (e : Nat) {n : Nat} (v : Value) {cs : List Value} [h : Sl P e v n cs R] {H : AH} (k : ae P H) : ae (sl e v n cs * R) H := by rw [← h.eq]; exact k
section
variable {P P' R : SP} {H : AH} {b o n m e k : Nat} {ro : Bool} {cs xcs : List Value} {v s x : Value} {Q : Value → AH → Prop}
theorem aiP {bytes : Nat} {kk : Value × AH → OV} (h : ae P H) [f : Sl P e s n cs R] [i : Hs R b (.cells ro xcs)] (hl : xcs.length = k * e) (he : 0 < e) (hk0 : 0 < k) (hc : xcs.all Value.oneCell' = true)
 (hr : (n + k) * bytes ≤ room ∧ n + k ≤ room) (hk : ∀ a c H', ae (sl e (.slice a (n + k) c) (n + k) (cs ++ xcs) * R) H' → wp (kk (.slice a (n + k) c, H')) Q) : wp ((fj e bytes s (vs b k e) H).bind kk) Q := by
 have hf := Sl.fr e s h;have hg := i.get hf.right
 have hrow : md e (vs b k e) H = some (k, xcs) := by
  simp only [md, eK, hg, bL];rw [if_neg (by omega), if_pos (by omega)];simp [← hl]
 unfold fj;rw [hrow];simp only [bL];rw [if_pos ⟨hc, he⟩]
 rcases tU hf with ⟨rfl, rfl, rfl, h'⟩ | ⟨b', rfl, hcl, h'⟩
 ·simp only [and_self, if_true]
  rw [if_neg (by omega), if_pos (by simpa using hr)];simp only [bL, Nat.zero_add, List.nil_append] at hk ⊢;exact hk _ _ _ (yM hl (h'.push _))
 ·simp only
  have hgb := h'.left.get;rw [if_neg (by omega), if_neg (by omega), hgb];simp only;rw [if_pos ⟨trivial, by omega, hr.1, hr.2⟩];simp only [bL, List.drop_zero];rw [← hcl, List.take_length];have h2 := h'.dead.push (.cells false (cs ++ xcs));rw [AH.size_set] at h2;exact hk _ _ _ (yM (by rw [sn, hcl, hl, Nat.add_mul]) h2)
end
abbrev cO := Int × Int × Int
def fw (l : cO) : Value := .agg #[vi l.1, vi l.2.1, vi l.2.2]
instance yX.loc (l : cO) : yX (fw l) [vi l.1, vi l.2.1, vi l.2.2] := ⟨rfl⟩
structure Ev where
 who : Int
 kind : Int
 loc : cO
deriving DecidableEq
def Ev.cells (e : Ev) : List Value := [vi e.who, vi e.kind, vi e.loc.1, vi e.loc.2.1, vi e.loc.2.2]
def pU (E : List Ev) : List Value := E.flatMap Ev.cells
theorem IA (E : List Ev) (x : Ev) : pU (E ++ [x]) = pU E ++ x.cells := by simp [pU]
section
variable {α : Type} {enc : α → List Value} {e : Nat}
theorem lp (he : ∀ x, (enc x).length = e) (l : List α) : (l.flatMap enc).length = l.length * e := by
 induction l with
 | nil => simp
 | cons x l ih => rw [List.flatMap_cons, sn, he, ih, List.length_cons, Nat.add_mul]; omega
theorem VR (he : ∀ x, (enc x).length = e) : ∀ (l : List α) (i : Nat), (l.flatMap enc).drop (i * e) = (l.drop i).flatMap enc := by
 intro l
 induction l with
 | nil => intro i; simp
 | cons x l ih =>
  intro i
  cases i with
  | zero => simp
  | succ i =>
   rw [List.flatMap_cons, List.drop_append, he, show (i + 1) * e - e = i * e from by rw [Nat.add_mul]; omega, ih, List.drop_eq_nil_of_le (by rw [he, Nat.add_mul]; omega)]
   rfl
theorem qf (l : List α) (i : Nat) (hi : i < l.length) : l.flatMap enc = (l.take i).flatMap enc ++ (enc l[i] ++ (l.drop (i + 1)).flatMap enc) := by
 rw [← List.flatMap_cons, ← List.flatMap_append, List.getElem_cons_drop, List.take_append_drop]
theorem LZ (l : List α) (i : Nat) (hi : i < l.length) (y : α) : (l.set i y).flatMap enc = (l.take i).flatMap enc ++ (enc y ++ (l.drop (i + 1)).flatMap enc) := by
 rw [← List.flatMap_cons, ← List.flatMap_append, List.set_eq_take_append_cons_drop, if_pos hi]
theorem s9 (he : ∀ x, (enc x).length = e) (l : List α) (i : Nat) (hi : i < l.length) : ((l.take i).flatMap enc).length = i * e := by
 rw [lp he, List.length_take, Nat.min_eq_left (by omega)]
theorem JB (he : ∀ x, (enc x).length = e) (l : List α) (i : Nat) (hi : i < l.length) : ((l.flatMap enc).drop (i * e)).take e = enc l[i] := by
 rw [qf l i hi, List.drop_append, s9 he l i hi, Nat.sub_self, List.drop_zero, List.drop_eq_nil_of_le (by rw [s9 he l i hi]; omega), List.nil_append, List.take_append, he, Nat.sub_self, List.take_zero, List.append_nil,
  List.take_of_length_le (by rw [he]; omega)]
theorem D9 (he : ∀ x, (enc x).length = e) (l : List α) (i : Nat) (hi : i < l.length) (f : Nat) (hf : f < e) : (l.flatMap enc)[i * e + f]? = (enc l[i])[f]? := by
 rw [qf l i hi, List.getElem?_append_right (by rw [s9 he l i hi]; omega), s9 he l i hi, List.getElem?_append_left (by rw [he]; omega)]
 congr 1
 omega
theorem P6 (A X B xs : List Value) (f : Nat) (h : f + xs.length ≤ X.length) : splice (A ++ (X ++ B)) (A.length + f) xs = A ++ (splice X f xs ++ B) := by
 unfold splice;rw [List.take_append, List.take_append, List.drop_append, List.drop_append, List.take_of_length_le (by omega), List.drop_eq_nil_of_le (by omega)]
 have e1 : A.length + f - A.length = f := by omega
 have e2 : A.length + f + xs.length - A.length = f + xs.length := by omega
 have e3 : f + xs.length - X.length = 0 := by omega
 have e4 : f - X.length = 0 := by omega
 rw [e1, e2, e3, e4];simp
theorem L0 (he : ∀ x, (enc x).length = e) (l : List α) (i : Nat) (hi : i < l.length) (f : Nat) (xs : List Value) (hf : f + xs.length ≤ e) (y : α) (hy : splice (enc l[i]) f xs = enc y) :
 splice (l.flatMap enc) (i * e + f) xs = (l.set i y).flatMap enc := by
 rw [qf l i hi, LZ l i hi, ← s9 he l i hi, P6 _ _ _ _ _ (by rw [he]; exact hf), hy]
end
def ts {α : Type} (e : Nat) (enc : α → List Value) (v : Value) (l : List α) : SP := sl e v l.length (l.flatMap enc)
class Enc {α : Type} (enc : α → List Value) (e : outParam Nat) : Prop where
 len : ∀ x, (enc x).length = e
 one : ∀ x, (enc x).all Value.oneCell' = true
 pos : 0 < e
class Ts (P : SP) (s : Value) (α : outParam Type) (e : outParam Nat) (enc : outParam (α → List Value)) (l : outParam (List α)) (R : outParam SP) : Prop where
 eq : P = ts e enc s l * R
instance (priority := high) Ts.refl {α : Type} (e : Nat) (enc : α → List Value) (s : Value) (l : List α) : Ts (ts e enc s l) s α e enc l emp := ⟨(j2 _).symm⟩
instance Ts.left {α : Type} (P Q R : SP) (e : Nat) (enc : α → List Value) (s : Value) (l : List α) [h : Ts P s α e enc l R] : Ts (P * Q) s α e enc l (R * Q) := ⟨by rw [h.eq, ai]⟩
instance Ts.right {α : Type} (P Q R : SP) (e : Nat) (enc : α → List Value) (s : Value) (l : List α) [h : Ts Q s α e enc l R] : Ts (P * Q) s α e enc l (P * R) := ⟨by rw [h.eq, cr]⟩
class Tu (P : SP) (s : Value) {α : Type} (l' : List α) (P' : outParam SP) : Prop where
 up : ∃ e enc, ∃ (l : List α), ∃ R, P = ts e enc s l * R ∧ P' = ts e enc s l' * R
theorem fX {α : Type} {R : SP} {H : AH} (e : Nat) (enc : α → List Value) (h : ae R H) : ae (ts e enc (.slice none 0 0) [] * R) H := Tj e h
section
variable {α : Type} {P P' R : SP} {H : AH} {b o e : Nat} {ro : Bool} {enc : α → List Value} {l : List α} {xcs : List Value} {s : Value} {Q : Value → AH → Prop}
theorem oC (h : ae P H) [f : Ts P s α e enc l R] : (s = .slice none 0 0 ∧ l = [] ∧ ae R H) ∨ ∃ b, s = vs b l.length e ∧ ae (blk b (.cells false (l.flatMap enc)) * R) H := by
 have h' : ae (ts e enc s l * R) H := by rw [← f.eq]; exact h
 rcases tU h' with ⟨h1, h2, _, h4⟩ | ⟨b, h1, _, h3⟩
 ·exact .inl ⟨h1, List.eq_nil_of_length_eq_zero h2, h4⟩
 ·exact .inr ⟨b, h1, h3⟩
theorem KC {b : Nat} [E : Enc enc e] (h : ae (blk b (.cells false (l.flatMap enc)) * R) H) : ae (ts e enc (vs b l.length e) l * R) H := yM (lp E.len l) h
theorem tg {k : Value → OV} (h : ae P H) [f : Ts P s α e enc l R] (hk : wp (k (vi l.length)) Q) : wp (iQ s k) Q := by
 rcases oC (f := f) h with ⟨rfl, rfl, _⟩ | ⟨b, rfl, _⟩
 ·exact hk
 ·exact hk
theorem iL {bytes : Nat} {kk : Value × AH → OV} (x : α) (h : ae P H) [f : Ts P s α e enc l R] [i : Hs R b (.cells ro xcs)] [E : Enc enc e] (hx : xcs = enc x)
 (hr : (l.length + 1) * bytes ≤ room) (hb : 0 < bytes) (hk : ∀ a c H', ae (ts e enc (.slice a (l.length + 1) c) (l ++ [x]) * R) H' → wp (kk (.slice a (l.length + 1) c, H')) Q) : wp ((fj e bytes s (vs b 1 e) H).bind kk) Q := by
 have h' : ae (sl e s l.length (l.flatMap enc) * R) H := by
  have : P = ts e enc s l * R := f.eq;rw [this] at h;exact h
 subst hx;refine aiP (k := 1) (ro := ro) (xcs := enc x) h' (by rw [E.len]; omega) E.pos (by omega) (E.one x) ⟨hr, ?_⟩ fun a c H' h2 => hk a c H' ?_
 ·have : l.length + 1 ≤ (l.length + 1) * bytes := Nat.le_mul_of_pos_right _ hb
  omega
 ·have e1 : (l ++ [x]).length = l.length + 1 := by simp
  have e2 : (l ++ [x]).flatMap enc = l.flatMap enc ++ enc x := by simp
  unfold ts;rw [e1, e2];rw [kR] at h2;exact h2
theorem akD {k : Value → OV} {i : Nat} {kk : IntKind} (h : ae P H) [f : Ts P s α e enc l R] [E : Enc enc e] (hi : i < l.length) (hk : wp (k (.agg (enc l[i]).toArray)) Q) : wp (ldN e [.i e (.int kk (i : Int))] s H k) Q := by
 rcases oC (f := f) h with ⟨_, rfl, _⟩ | ⟨b, rfl, h'⟩
 ·simp at hi
 ·unfold ldN
  rw [QQ hi aY];have hlen := lp E.len l;have hm : (i + 1) * e ≤ l.length * e := Nat.mul_le_mul_right _ (by omega);rw [Nat.add_mul] at hm;have := OZ (b := b) (cs := l.flatMap enc) (ro := false) (n := e) (o := 0 + i * e) h' (by omega);rw [this, bL, Nat.zero_add, JB E.len l i hi];exact hk
theorem akC {k : Value → OV} {i : Nat} {kk : IntKind} {v : Value} (h : ae P H) [f : Ts P s α 1 enc l R] [E : Enc enc 1] (hi : i < l.length) (hv : enc l[i] = [v]) (hk : wp (k v) Q) : wp (ld [.i 1 (.int kk (i : Int))] s H k) Q := by
 rcases oC (f := f) h with ⟨_, rfl, _⟩ | ⟨b, rfl, h'⟩
 ·simp at hi
 ·unfold ld
  rw [QQ hi aY]
  have := OY (b := b) (o := 0 + i * 1) (v := v) h' (by
   have := D9 E.len l i hi 0 (by omega);rw [Nat.add_zero] at this
   rw [Nat.zero_add, this, hv]; rfl)
  rw [this];exact hk
theorem TB {n : Nat} {p : List Stp} {k : AH → OV} {i g : Nat} {kk : IntKind} {v : Value} {xs : List Value} (y : α) (h : ae P H) [f : Ts P s α e enc l R] [E : Enc enc e] (hi : i < l.length) (hp : p = [.i e (.int kk (i : Int))] ∧ g = 0 ∨ p = [.i e (.int kk (i : Int)), .f g])
 [c : yX v xs] (hn : xs.length = n) (hg : g + n ≤ e) (hx : xs.all Value.oneCell' = true) (hy : splice (enc l[i]) g xs = enc y) (hk : ∀ H', ae (ts e enc s (l.set i y) * R) H' → wp (k H') Q) : wp (st n p s v H k) Q := by
 rcases oC (f := f) h with ⟨_, rfl, _⟩ | ⟨b, rfl, h'⟩
 ·simp at hi
 ·have hend : Qq p (vs b l.length e) b (i * e + g) := by
   rcases hp with ⟨rfl, rfl⟩ | rfl
   ·intro R' k'
    rw [QQ hi aY];simp
   ·intro R' k'
    rw [QQ hi (aO aY)];simp
  unfold st;have hc := c.eq;subst hc;rw [hend];have hlen := lp E.len l;have hm : (i + 1) * e ≤ l.length * e := Nat.mul_le_mul_right _ (by omega);rw [Nat.add_mul] at hm;rw [acK h' (by simpa using hn) (by omega) hx, bL, L0 E.len l i hi g _ (by rw [hn]; exact hg) y hy];refine hk _ ?_;have h2 := h'.set (.cells false ((l.set i y).flatMap enc));have h3 := KC (e := e) (enc := enc) (l := l.set i y) h2;rw [Mc] at h3;exact h3
end
instance : Enc Ev.cells 5 := ⟨fun _ => rfl, fun _ => rfl, by omega⟩
def l5 (n : Int) : List Value := [vi n]
instance : Enc l5 1 := ⟨fun _ => rfl, fun _ => rfl, by omega⟩
def akV (H : AH) (s : Value) (e n : Nat) (cs : List Value) : Prop :=
 cs.length = n * e ∧ ((∃ a c, s = .slice a 0 c ∧ n = 0 ∧ (a = none → c = 0) ∧ (∀ x, a = some x → ∃ b o, x = ⟨b, o, none⟩)) ∨ ∃ b o ro row, s = .slice (some ⟨b, o, none⟩) n e ∧ H.get b = some (.cells ro row) ∧ o + n * e ≤ row.length ∧ (row.drop o).take (n * e) = cs)
class Rd {α : outParam Type} (P : SP) (s : Value) (e : outParam Nat) (enc : outParam (α → List Value)) (l : outParam (List α)) : Prop where
 rd : ∀ {H : AH}, ae P H → akV H s e l.length (l.flatMap enc)
instance Rd.left {α : Type} (P Q : SP) (s : Value) (e : Nat) (enc : α → List Value) (l : List α) [r : Rd P s e enc l] : Rd (P * Q) s e enc l := ⟨fun h => r.rd h.left⟩
instance Rd.right {α : Type} (P Q : SP) (s : Value) (e : Nat) (enc : α → List Value) (l : List α) [r : Rd Q s e enc l] : Rd (P * Q) s e enc l := ⟨fun h => r.rd h.right⟩
instance Rd.own {α : Type} (s : Value) (e : Nat) (enc : α → List Value) (l : List α) : Rd (ts e enc s l) s e enc l := ⟨by
 intro H h
 have h' : ae (ts e enc s l * emp) H := by rw [j2]; exact h
 rcases tU h' with ⟨rfl, h2, h3, _⟩ | ⟨b, rfl, hc, h4⟩
 ·exact ⟨by rw [h3, h2]; simp, .inl ⟨none, 0, rfl, h2, fun _ => rfl, fun x hx => by cases hx⟩⟩
 ·exact ⟨hc, .inr ⟨b, 0, false, _, rfl, h4.left.get, by omega, by rw [List.drop_zero, ← hc, List.take_length]⟩⟩⟩
section
variable {α : Type} {P R : SP} {H : AH} {e n : Nat} {enc : α → List Value} {l m : List α} {s : Value} {Q : Value → AH → Prop}
theorem gi {k : Value → OV} (h : ae P H) [r : Rd P s e enc l] (hk : wp (k (vi l.length)) Q) : wp (iQ s k) Q := by
 obtain ⟨_, ⟨a, c, rfl, hn, _⟩ | ⟨b, o, ro, row, rfl, _⟩⟩ := r.rd h
 ·rw [hn] at hk; exact hk
 ·exact hk
theorem aj0 {R' : Type} {k : Value → Option R'} (h : ae P H) [r : Rd P s e enc l] : iQ s k = k (vi l.length) := by
 obtain ⟨_, ⟨a, c, rfl, hn, _⟩ | ⟨b, o, ro, row, rfl, _⟩⟩ := r.rd h
 ·rw [hn]; rfl
 ·rfl
theorem yV {k : Value → OV} (h : ae P H) [r : Rd P s e enc l] (hk : wp (k (vi l.length)) Q) : wp ((iQ s some).bind k) Q := by
 rw [aj0 h]; exact hk
theorem PH (h : ae P H) [r : Rd P s e enc l] [E : Enc enc e] {i : Nat} (hi : i < l.length) : ∃ b o ro row, s = .slice (some ⟨b, o, none⟩) l.length e ∧ H.get b = some (.cells ro row) ∧ o + l.length * e ≤ row.length ∧ (row.drop o).take (l.length * e) = l.flatMap enc := by
 obtain ⟨_, ⟨a, c, rfl, hn, _⟩ | ⟨b, o, ro, row, h1, h2⟩⟩ := r.rd h
 ·omega
 ·exact ⟨b, o, ro, row, h1, h2⟩
theorem agI [E : Enc enc e] {row : List Value} {o i g : Nat} (h : (row.drop o).take (l.length * e) = l.flatMap enc) (hi : i < l.length) (hg : g < e) : row[o + i * e + g]? = (enc l[i])[g]? := by
 rw [← D9 E.len l i hi g hg, ← h];have hm : (i + 1) * e ≤ l.length * e := Nat.mul_le_mul_right _ (by omega);rw [Nat.add_mul] at hm;rw [List.getElem?_take, if_pos (by omega), List.getElem?_drop]
 congr 1; omega
theorem abR {i g : Nat} {kk : IntKind} {v : Value} (h : ae P H) [r : Rd P s e enc l] [E : Enc enc e] (hi : i < l.length) (hg : g < e) (hv : (enc l[i])[g]? = some v) {R' : Type} {p : List Stp} (hp : p = [.i e (.int kk (i : Int)), .f g] ∨ p = [.i e (.int kk (i : Int))] ∧ g = 0) {k : Value → Option R'} :
 ld p s H k = k v := by
 obtain ⟨b, o, ro, row, rfl, h2, h3, h4⟩ := PH (s := s) (enc := enc) (l := l) h hi
 have hend : ad p (.slice (some ⟨b, o, none⟩) l.length e) = fun k' : Value → Option R' => k' (uH b (o + i * e + g)) := by
  rcases hp with rfl | ⟨rfl, rfl⟩
  ·funext k'; rw [Xp hi, ak0]; rfl
  ·funext k'; rw [Xp hi]; rfl
 unfold ld;rw [hend];show (ar (uH b (o + i * e + g)) H).bind k = k v
 have : ar (uH b (o + i * e + g)) H = some v := by
  simp only [ar, vB, eK, bL, h2];rw [agI h4 hi hg, hv]
 rw [this]; rfl
theorem adC {k : Value → OV} {i g : Nat} {kk : IntKind} {v : Value} (h : ae P H) [r : Rd P s e enc l] [E : Enc enc e] (hi : i < l.length) (hg : g < e) (hv : (enc l[i])[g]? = some v) (hk : wp (k v) Q) : wp (ld [.i e (.int kk (i : Int)), .f g] s H k) Q := by
 rw [abR h hi hg hv (.inl rfl)]; exact hk
theorem qv {k : Value → OV} {i : Nat} {kk : IntKind} {v : Value} {enc : α → List Value} (h : ae P H) [r : Rd P s 1 enc l] [E : Enc enc 1] (hi : i < l.length) (hv : enc l[i] = [v]) (hk : wp (k v) Q) : wp (ld [.i 1 (.int kk (i : Int))] s H k) Q := by
 rw [abR (g := 0) (v := v) h hi (by omega) (by rw [hv]; rfl) (.inr ⟨rfl, rfl⟩)]; exact hk
theorem Qj {k : Value → OV} {i : Nat} {kk : IntKind} (h : ae P H) [r : Rd P s e enc l] [E : Enc enc e] (hi : i < l.length) (hk : wp (k (.agg (enc l[i]).toArray)) Q) : wp (ldN e [.i e (.int kk (i : Int))] s H k) Q := by
 obtain ⟨b, o, ro, row, rfl, h2, h3, h4⟩ := PH (s := s) (enc := enc) (l := l) h hi;unfold ldN;rw [Xp hi];have hm : (i + 1) * e ≤ l.length * e := Nat.mul_le_mul_right _ (by omega);rw [Nat.add_mul] at hm
 have : ay e (uH b (o + i * e)) H = some (.agg (enc l[i]).toArray) := by
  simp only [ay, vB, eK, bL, h2];rw [if_pos (by omega)]
  congr 3
  rw [← JB E.len l i hi, ← h4, List.drop_take, List.drop_drop, List.take_take, Nat.min_eq_left (by omega)]
 show wp ((ay e (uH b (o + i * e)) H).bind k) Q;rw [this]; exact hk
theorem abS {lo hi : Option Value} {a b : Nat} (h : ae P H) [r : Rd P s e enc l] [E : Enc enc e] (hlo : (lo = none ∧ a = 0) ∨ ∃ k, lo = some (.int k (a : Int))) (hhi : (hi = none ∧ b = l.length) ∨ ∃ k, hi = some (.int k (b : Int))) (h1 : a ≤ b) (h2 : b ≤ l.length) (h0 : 0 < l.length) :
 ∃ s', dT e s lo hi = some s' ∧ Rd P s' e enc ((l.take b).drop a) := by
 have hlen : ((l.take b).drop a).length = b - a := by rw [List.length_drop, List.length_take, Nat.min_eq_left h2]
 have hfl : (((l.take b).drop a).flatMap enc).length = (b - a) * e := by rw [lp E.len, hlen]
 have hsub : ((l.take b).drop a).flatMap enc = ((l.flatMap enc).drop (a * e)).take ((b - a) * e) := by
  have e2 : (l.drop a).take (b - a) = (l.take b).drop a := by rw [List.drop_take]
  rw [VR E.len, ← e2]
  have gen : ∀ (m : List α) (k : Nat), k ≤ m.length → (m.take k).flatMap enc = (m.flatMap enc).take (k * e) := by
   intro m
   induction m with
   | nil => intro k hk; simp
   | cons x m ih =>
    intro k hk
    cases k with
    | zero => simp
    | succ k =>
     rw [List.take_succ_cons, List.flatMap_cons, List.flatMap_cons, ih k (by simpa using hk), List.take_append, E.len, List.take_of_length_le (l := enc x) (by rw [E.len, Nat.add_mul]; omega)]
     congr 2
     rw [Nat.add_mul, Nat.one_mul, Nat.add_sub_cancel]
  exact gen _ _ (by rw [List.length_drop]; omega)
 obtain ⟨h0, ⟨a0, c, rfl, hn, hc0, ha0⟩ | ⟨b0, o, ro, row, rfl, _⟩⟩ := r.rd h
 ·omega
 ·refine ⟨.slice (some ⟨b0, o + a * e, none⟩) (b - a) e, ?_, ⟨fun {H'} h' => ?_⟩⟩
  ·have hpos := E.pos
   have hab : (0 : Int) ≤ a ∧ (a : Int) ≤ b ∧ (b : Int) ≤ l.length := by omega
   rcases hlo with ⟨rfl, rfl⟩ | ⟨k1, rfl⟩ <;> rcases hhi with ⟨rfl, rfl⟩ | ⟨k2, rfl⟩ <;> simp only [dT, n8, bL]
   ·rw [if_pos (by omega)]; simp [hpos]
   ·rw [if_pos (by omega)]; simp [hpos]
   ·rw [if_pos (by omega)]; simp [hpos]
   ·rw [if_pos (by omega)]; simp [hpos]
  ·obtain ⟨h0', hr⟩ := r.rd h'
   refine ⟨by rw [hfl, hlen], .inr ?_⟩
   rcases hr with ⟨a1, c1, e1, hn, _, _⟩ | ⟨b1, o1, ro1, row1, e1, g1, g2, g3⟩
   ·omega
   ·obtain ⟨rfl, rfl⟩ : b1 = b0 ∧ o1 = o := by
     have := e1; simp at this; exact ⟨this.1.symm, this.2.symm⟩
    have hm : b * e ≤ l.length * e := Nat.mul_le_mul_right _ h2;have hm2 : a * e ≤ b * e := Nat.mul_le_mul_right _ h1;have hm3 : (b - a) * e = b * e - a * e := Nat.sub_mul ..;rw [hlen];refine ⟨b1, o1 + a * e, ro1, row1, rfl, g1, by omega, ?_⟩;rw [hsub, ← g3, List.drop_take, List.drop_drop, List.take_take, Nat.min_eq_left (by omega)]
end
def Nn (H0 : AH) : SP := fun h => h = fun i => H0.get i
theorem zp (H0 : AH) : ae (Nn H0) H0 := ⟨_, rfl, fun i o h => h⟩
class Fx (P : SP) (H0 : AH) : Prop where
 fx : ∀ {H : AH}, ae P H → ∀ b o, H0.get b = some o → H.get b = some o
instance Fx.refl (H0 : AH) : Fx (Nn H0) H0 := ⟨by
 rintro H ⟨x, hx, hg⟩ b o hb
 have hx : x = _ := hx
 exact hg b o (by rw [hx]; exact hb)⟩
instance Fx.left (P Q : SP) (H0 : AH) [f : Fx P H0] : Fx (P * Q) H0 := ⟨fun h => f.fx h.left⟩
instance Fx.right (P Q : SP) (H0 : AH) [f : Fx Q H0] : Fx (P * Q) H0 := ⟨fun h => f.fx h.right⟩
theorem lG.flat {α : Type} {R : α → List Value → Prop} {enc : α → List Value} (hf : ∀ x c, R x c → c = enc x) {l : List α} {row : List Value} (h : lG R l row) : row = l.flatMap enc := by
 induction h with
 | nil => rfl
 | cons h1 _ ih => rw [hf _ _ h1, ih]; rfl
theorem Rd.arg {H0 : AH} {t : Ty} {enc : t.I → List Value} {l : List t.I} {v : Value} [E : Enc enc t.w] (hf : ∀ x c, Abs H0 t x c → c = enc x) (h : Abs H0 (.slice t) l [v]) : Rd (Nn H0) v t.w enc l := ⟨fun {H} hH => by
 refine ⟨lp E.len l, ?_⟩
 rcases h with ⟨rfl, e⟩ | ⟨rfl, b, e⟩ | ⟨b, row, h1, e, h3, _⟩
 ·obtain rfl : v = .slice none 0 0 := by simpa using e
  exact .inl ⟨none, 0, rfl, rfl, fun _ => rfl, fun x hx => by cases hx⟩
 ·obtain rfl : v = .slice (some ⟨b, 0, none⟩) 0 0 := by simpa using e
  exact .inl ⟨_, 0, rfl, rfl, (fun h => by cases h), fun x hx => ⟨b, 0, (gr hx).symm⟩⟩
 ·obtain rfl : v = .slice (some ⟨b, 0, none⟩) l.length t.w := by simpa using e
  have hrow := h3.flat hf;refine .inr ⟨b, 0, true, row, rfl, (Fx.refl H0).fx hH b _ h1, ?_, ?_⟩
  ·rw [hrow, lp E.len]; omega
  ·rw [List.drop_zero, hrow, ← lp E.len l, List.take_length]⟩
section
variable {α : Type} {P R : SP} {H : AH} {e : Nat} {enc : α → List Value} {l m : List α} {s x : Value} {Q : Value → AH → Prop}
theorem tf {bytes : Nat} {kk : Value × AH → OV} (h : ae P H) [f : Ts P s α e enc l R] [rd : Rd R x e enc m] [E : Enc enc e] (hr : (l.length + m.length) * bytes ≤ room) (hb : 0 < bytes)
 (hk : ∀ v H', ae (ts e enc v (l ++ m) * R) H' → wp (kk (v, H')) Q) : wp ((fj e bytes s x H).bind kk) Q := by
 have h' : ae (ts e enc s l * R) H := by rw [← f.eq]; exact h
 obtain ⟨hc, ⟨a, c, rfl, hn, _, hax⟩ | ⟨b, o, ro, row, rfl, hg, hle, hrow⟩⟩ := rd.rd h'.right
 ·have hm : m = [] := List.eq_nil_of_length_eq_zero hn
  subst hm
  have hpr : md e (.slice a 0 c) H = some (0, []) := by
   cases a with
   | none => simp [md]
   | some y => obtain ⟨b, o, rfl⟩ := hax y rfl; simp [md]
  unfold fj;rw [hpr];simp only [bL];rw [if_pos ⟨rfl, E.pos⟩]
  rcases tU h' with ⟨rfl, h2, h3, h4⟩ | ⟨b', rfl, h2, h4⟩
  ·simp only [and_self, if_true, bL]
   refine hk _ _ ?_;rw [List.append_nil]; exact h'
  ·simp only [if_true, bL]
   refine hk _ _ ?_;rw [List.append_nil]; exact h'
 ·by_cases hm0 : m.length = 0
  ·have hm : m = [] := List.eq_nil_of_length_eq_zero hm0
   subst hm;unfold fj
   have hpr : md e (.slice (some ⟨b, o, none⟩) ([] : List α).length e) H = some (0, []) := by simp [md]
   rw [hpr];simp only [bL];rw [if_pos ⟨rfl, E.pos⟩]
   rcases tU h' with ⟨rfl, h2, h3, h4⟩ | ⟨b', rfl, h2, h4⟩
   ·simp only [and_self, if_true, bL]
    refine hk _ _ ?_;rw [List.append_nil]; exact h'
   ·simp only [if_true, bL]
    refine hk _ _ ?_;rw [List.append_nil]; exact h'
  ·have hpr : md e (.slice (some ⟨b, o, none⟩) m.length e) H = some (m.length, m.flatMap enc) := by
    simp only [md, eK, hg, bL];rw [if_neg hm0, if_pos hle, hrow]
   have hall : (m.flatMap enc).all Value.oneCell' = true := by
    rw [List.all_eq_true];intro y hy;obtain ⟨z, _, hz⟩ := List.mem_flatMap.1 hy;exact List.all_eq_true.1 (E.one z) y hz
   have hroom : l.length + m.length ≤ (l.length + m.length) * bytes := Nat.le_mul_of_pos_right _ hb;unfold fj;rw [hpr];simp only [bL];rw [if_pos ⟨hall, E.pos⟩]
   have e1 : (l ++ m).length = l.length + m.length := by simp
   have e2 : (l ++ m).flatMap enc = l.flatMap enc ++ m.flatMap enc := by simp
   have hmul : (l.length + m.length) * e = l.length * e + m.length * e := Nat.add_mul ..
   rcases tU h' with ⟨rfl, h2, h3, h4⟩ | ⟨b', rfl, h2, h4⟩
   ·simp only [and_self, if_true]
    rw [h2, Nat.zero_add] at hr hroom;rw [if_neg hm0, if_pos ⟨hr, by omega⟩];simp only [bL];refine hk _ _ ?_;unfold ts;rw [e1, e2, h3, h2, List.nil_append, Nat.zero_add];exact yM hc (h4.push _)
   ·have hgb := h4.left.get
    have hpos := E.pos;simp only;rw [if_neg hm0, if_neg (by omega), hgb];simp only;rw [if_pos ⟨trivial, by omega, hr, by omega⟩];simp only [bL, List.drop_zero];rw [← h2, List.take_length];have h5 := h4.dead.push (.cells false (l.flatMap enc ++ m.flatMap enc));rw [AH.size_set] at h5;refine hk _ _ ?_;unfold ts;rw [e1, e2];exact yM (by rw [sn, h2, hc]; omega) h5
theorem Fi {z : α} {zero : List Value} (hz : enc z = zero) : ∀ n : Nat, (List.replicate n zero).flatten = (List.replicate n z).flatMap enc := by
 intro n
 induction n with
 | zero => rfl
 | succ n ih => rw [List.replicate_succ, List.replicate_succ, List.flatten_cons, List.flatMap_cons, ih, hz]
theorem Qi {zero : List Value} {bytes n : Nat} {kk : Value × AH → OV} (z : α) (h : ae P H) [E : Enc enc e] (hz : enc z = zero) (hr : n * bytes ≤ room) (hb : 0 < bytes) (hk : ∀ b H', ae (ts e enc (vs b n e) (List.replicate n z) * P) H' → wp (kk (vs b n e, H')) Q) :
 wp ((oa zero e bytes (vi n) (vi n) H).bind kk) Q := by
 have hroom : n ≤ n * bytes := Nat.le_mul_of_pos_right _ hb
 have hz2 : zero.length = e := by rw [← hz, E.len]
 unfold oa;simp only [xm];rw [if_pos ⟨by omega, trivial, hr, by omega, E.pos, hz2⟩];simp only [bL];refine hk _ _ ?_;have h2 := h.push (.cells false (List.replicate n zero).flatten);rw [Fi hz] at h2 ⊢;have h3 := KC (e := e) (enc := enc) (l := List.replicate n z) h2;rw [List.length_replicate] at h3;exact h3
end
class KeyE {κ : Type} [DecidableEq κ] (cl : outParam KCls) (ek : κ → Value) : Prop where
 eq : ∀ a b, lr cl (ek a) (ek b) = some (decide (a = b))
 ok : ∀ a, jo cl (ek a) = true
inductive Ents {κ : Type} (ek : κ → Value) : List (κ × Value) → List MapEntry → Prop
 | nil : Ents ek [] []
 | cons {p : κ × Value} {l : List (κ × Value)} {e : MapEntry} {es : List MapEntry} (h1 : e.key = ek p.1) (h2 : e.val = p.2) (k : Ents ek l es) : Ents ek (p :: l) (e :: es)
section
variable {κ : Type} [DecidableEq κ] {ek : κ → Value} {cl : KCls}
def JQ : List (κ × Value) → κ → Option Value
 | [], _ => none
 | p :: al, k => if k = p.1 then some p.2 else JQ al k
def JR : List (κ × Value) → κ → Value → List (κ × Value)
 | [], k, v => [(k, v)]
 | p :: al, k, v => if k = p.1 then (k, v) :: al else p :: JR al k v
theorem aaJ (k : κ) (v : Value) (x : κ) : ∀ al, JQ (JR al k v) x = if x = k then some v else JQ al x := by
 intro al
 induction al with
 | nil => simp only [JR, JQ]
 | cons p al ih =>
  simp only [JR]
  by_cases hk : k = p.1
  ·rw [if_pos hk]
   simp only [JQ]
   by_cases hx : x = k
   ·simp [hx]
   ·have : ¬ x = p.1 := by rw [← hk]; exact hx
    simp [hx, this]
  ·rw [if_neg hk]
   simp only [JQ, ih]
   by_cases hx : x = p.1
   ·have : ¬ x = k := by rw [hx]; exact fun h => hk h.symm
    simp [hx];intro h; exact absurd h.symm hk
   ·simp [hx]
theorem ajO [K : KeyE cl ek] {al : List (κ × Value)} {es : List MapEntry} (h : Ents ek al es) (k : κ) : ∀ i, ∃ r, bw cl (ek k) es i = some r ∧ r.map (·.2) = JQ al k := by
 induction h with
 | nil => intro i; exact ⟨none, rfl, rfl⟩
 | @cons p l e es h1 h2 _ ih =>
  intro i;simp only [bw, h1, K.eq, bL, JQ]
  by_cases hp : k = p.1
  ·rw [if_pos (by simp [hp]), if_pos hp]
   exact ⟨_, rfl, by simp [h2]⟩
  ·rw [if_neg (by simp [hp]), if_neg hp]
   exact ih (i + 1)
theorem alE [K : KeyE cl ek] {al : List (κ × Value)} {es : List MapEntry} (h : Ents ek al es) (k : κ) (v : Value) : ∀ i, match bw cl (ek k) es i with
 | some (some (j, _)) => i ≤ j ∧ Ents ek (JR al k v) (es.modify (j - i) fun e => { e with key := ek k, val := v })
 | some none => ∀ born, Ents ek (JR al k v) (es ++ [{ key := ek k, val := v, born := born }])
 | none => False := by
 induction h with
 | nil => intro i born; exact .cons rfl rfl .nil
 | @cons p l e es h1 h2 hh ih =>
  intro i;simp only [bw, h1, K.eq, bL, JR]
  by_cases hp : k = p.1
  ·rw [if_pos (show decide (k = p.1) = true by simp [hp]), if_pos hp]
   refine ⟨bI _, ?_⟩;simp only [Nat.sub_self];exact .cons rfl rfl hh
  ·rw [if_neg (show ¬ decide (k = p.1) = true by simp [hp]), if_neg hp]
   have hi := ih (i + 1)
   cases hf : bw cl (ek k) es (i + 1) with
   | none => rw [hf] at hi; exact hi
   | some r =>
    rw [hf] at hi
    cases r with
    | none => intro born; exact .cons h1 h2 (hi born)
    | some r =>
     obtain ⟨j, v'⟩ := r;simp only at hi ⊢;refine ⟨by omega, ?_⟩;rw [show j - i = (j - (i + 1)) + 1 from by omega];exact .cons h1 h2 hi.2
def Xb (ek : κ → Value) (b : Nat) (f : κ → Option Value) : SP := ex fun g : List (κ × Value) × List MapEntry × Nat => pu (Ents ek g.1 g.2.1 ∧ ∀ k, JQ g.1 k = f k) * blk b (.map g.2.1 g.2.2)
class Mp (P : SP) (b : Nat) {κ : Type} [DecidableEq κ] (ek : κ → Value) (f : outParam (κ → Option Value)) (R : outParam SP) : Prop where
 eq : P = Xb ek b f * R
instance (priority := high) Mp.refl {κ : Type} [DecidableEq κ] (b : Nat) (ek : κ → Value) (f : κ → Option Value) : Mp (Xb ek b f) b ek f emp := ⟨(j2 _).symm⟩
instance Mp.left {κ : Type} [DecidableEq κ] (P Q R : SP) (b : Nat) (ek : κ → Value) (f : κ → Option Value) [h : Mp P b ek f R] : Mp (P * Q) b ek f (R * Q) := ⟨by rw [h.eq, ai]⟩
instance Mp.right {κ : Type} [DecidableEq κ] (P Q R : SP) (b : Nat) (ek : κ → Value) (f : κ → Option Value) [h : Mp Q b ek f R] : Mp (P * Q) b ek f (P * R) := ⟨by rw [h.eq, cr]⟩
theorem SK {R : SP} {H : AH} {b : Nat} (ek : κ → Value) (h : ae (blk b (.map [] 0) * R) H) : ae (Xb ek b (fun _ => none) * R) H :=
 ae.ex.2 ⟨([], [], 0), by rw [ai]; exact ae.pu.2 ⟨⟨.nil, fun _ => rfl⟩, h⟩⟩
theorem Tx {P R : SP} {H : AH} {b : Nat} {f : κ → Option Value} {zero : Value} {kk : Value → OV} {Q : Value → AH → Prop} [K : KeyE cl ek] (k : κ) (h : ae P H) [m : Mp P b ek f R]
 (hk : wp (kk ((f k).getD zero)) Q) : wp ((dc cl zero (.map (some b)) (ek k) false H).bind kk) Q := by
 have h' : ae (Xb ek b f * R) H := by rw [← m.eq]; exact h
 obtain ⟨⟨al, es, c⟩, h'⟩ := ae.ex.1 h';rw [ai, ae.pu] at h';obtain ⟨⟨he, hf⟩, h'⟩ := h';dsimp only at he hf h';obtain ⟨r, h1, h2⟩ := ajO he k 0;refine aa ?_ hk;unfold dc;rw [if_pos (K.ok k)];simp only [kL, h'.left.get, bL, h1, fH];rw [← hf k, ← h2]
 cases r <;> rfl
theorem adB {P R : SP} {H : AH} {b : Nat} {f : κ → Option Value} {kk : AH → OV} {Q : Value → AH → Prop} [K : KeyE cl ek] (k : κ) (v : Value) (h : ae P H) [m : Mp P b ek f R]
 (hk : ∀ H', ae (Xb ek b (fun x => if x = k then some v else f x) * R) H' → wp (kk H') Q) : wp ((fm cl (.map (some b)) (ek k) v H).bind kk) Q := by
 have h' : ae (Xb ek b f * R) H := by rw [← m.eq]; exact h
 obtain ⟨⟨al, es, c⟩, h'⟩ := ae.ex.1 h';rw [ai, ae.pu] at h';obtain ⟨⟨he, hf⟩, h'⟩ := h';dsimp only at he hf h';have hu := alE he k v 0;unfold fm;rw [if_pos (K.ok k)];simp only [h'.left.get]
 have fin : ∀ {es' : List MapEntry} {c' : Nat}, Ents ek (JR al k v) es' → ae (Xb ek b (fun x => if x = k then some v else f x) * R) (H.set b (.map es' c')) := fun {es'} {c'} he' =>
  ae.ex.2 ⟨(JR al k v, es', c'), by
   rw [ai]
   exact ae.pu.2 ⟨⟨he', fun x => by rw [aaJ, hf]⟩, h'.set _⟩⟩
 cases hf' : bw cl (ek k) es 0 with
 | none => rw [hf'] at hu; exact absurd hu id
 | some r =>
  rw [hf'] at hu
  cases r with
  | none =>
   simp only [fH, bL];exact hk _ (fin (hu c))
  | some r =>
   obtain ⟨j, v'⟩ := r;simp only [fH, bL];exact hk _ (fin hu.2)
end
section
variable {cl : TCls} {w : Nat}
theorem aiL : ap cl .shr (vu w) (vw 61) = some (vu (w / 2305843009213693952)) := by
 have := GM (cl := cl) (a := w) (k := .u64) (n := 61) (by omega)
 simpa using this
theorem alQ : ap cl .shr (vu w) (vw 32) = some (vu (w / 4294967296)) := by
 have := GM (cl := cl) (a := w) (k := .u64) (n := 32) (by omega)
 simpa using this
theorem Qs (k : Nat) (hw : w < 18446744073709551616) (hk : 2 ^ k - 1 < 18446744073709551616) : ap cl .and (vu w) (.int .u64 ((2 ^ k - 1 : Nat) : Int)) = some (vu (w % 2 ^ k)) := by
 have := aeA (cl := cl) hw hk;rw [Nat.and_two_pow_sub_one_eq_mod] at this;exact this
theorem ak2 (hw : w < 18446744073709551616) : ap cl .and (vu w) (vw 2305843009213693951) = some (vu (w % 2305843009213693952)) := by
 have := Qs (cl := cl) 61 hw (by omega)
 simpa using this
theorem ak1 (hw : w < 18446744073709551616) : ap cl .and (vu w) (vw 4294967295) = some (vu (w % 4294967296)) := by
 have := Qs (cl := cl) 32 hw (by omega)
 simpa using this
theorem HJ (n : Nat) (h : n ≠ 0) : ap cl .rem (vu w) (.int .u64 (n : Int)) = some (vu (w % n)) := kp h
theorem aiI (n : Nat) (h : n ≠ 0) (hw : w < 18446744073709551616) : ap cl .quo (vu w) (.int .u64 (n : Int)) = some (vu (w / n)) := y4 h hw
theorem aiD (n : Nat) : ap cl .mul (vu w) (.int .u64 (n : Int)) = some (vu (w * n % 18446744073709551616)) := TX
theorem alH (h : w * 2305843009213693952 < 18446744073709551616) : ap cl .mul (vu w) (vw 2305843009213693952) = some (vu (w * 2305843009213693952)) := by
 have := aiD (cl := cl) (w := w) 2305843009213693952;rw [Nat.mod_eq_of_lt h] at this
 simpa using this
theorem alG : ap cl .mul (vu w) (vw 4294967296) = some (vu (w * 4294967296 % 18446744073709551616)) := by
 have := aiD (cl := cl) (w := w) 4294967296
 simpa using this
theorem alM : ap cl .rem (vu w) (vw 2305843009213693952) = some (vu (w % 2305843009213693952)) := by
 have := HJ (cl := cl) (w := w) 2305843009213693952 (by omega)
 simpa using this
theorem alK (hw : w < 18446744073709551616) : ap cl .quo (vu w) (vw 2305843009213693952) = some (vu (w / 2305843009213693952)) := by
 have := aiI (cl := cl) (w := w) 2305843009213693952 (by omega) hw
 simpa using this
theorem alL : ap cl .rem (vu w) (vw 4294967296) = some (vu (w % 4294967296)) := by
 have := HJ (cl := cl) (w := w) 4294967296 (by omega)
 simpa using this
theorem alJ (hw : w < 18446744073709551616) : ap cl .quo (vu w) (vw 4294967296) = some (vu (w / 4294967296)) := by
 have := aiI (cl := cl) (w := w) 4294967296 (by omega) hw
 simpa using this
theorem jx {w : Nat} (hw : w < 9223372036854775808) : cN (some .i64) (vu w) = some (vi (w : Int)) := by
 simp only [cN];rw [pP (by omega) (by omega)]
theorem eF {n : Int} (h0 : 0 ≤ n) (h1 : n < 18446744073709551616) : cN (some .u64) (vi n) = some (vu n.toNat) := by
 simp only [cN];rw [mH h0 h1];show _ = some (Value.int .u64 ((n.toNat : Nat) : Int));rw [Int.toNat_of_nonneg h0]
end
theorem aiF {cl : TCls} {a b : Nat} : ap cl .neq (vu a) (vu b) = some (vb (a != b)) := by
 rw [ww]
 congr 2
 rw [Bool.eq_iff_iff];simp;omega
theorem ahP {cl : TCls} {a b : Nat} : ap cl .eql (vu a) (vu b) = some (vb (a == b)) := by
 rw [fI]
 congr 2
 rw [Bool.eq_iff_iff];simp;omega
theorem ahM {cl : TCls} {a b : Nat} : ap cl .add (vu a) (vu b) = some (vu ((a + b) % 18446744073709551616)) := by
 simp only [ap, nI, if_true];rw [FP];simp
theorem XY (a b : cO) : ap (.flat 3) .eql (.agg #[vi a.1, vi a.2.1, vi a.2.2]) (.agg #[vi b.1, vi b.2.1, vi b.2.2]) = some (vb (a == b)) := by
 show (qk (.flat 3) (.agg #[vi a.1, vi a.2.1, vi a.2.2]) (.agg #[vi b.1, vi b.2.1, vi b.2.2])).map (fun b => Value.bool b) = _;simp only [qk];rw [if_pos ⟨rfl, rfl⟩];simp only [bM, if_true, fH, Bool.and_true]
 rfl
theorem GK {cl : TCls} {a b : Int} (h0 : -9223372036854775808 ≤ a * b) (h1 : a * b < 9223372036854775808) : ap cl .mul (vi a) (vi b) = some (vi (a * b)) := by simp only [ap, nI, if_true, pP h0 h1]
section
variable {cl : TCls} {k : IntKind} {a b : Int}
theorem cK (h : a < b) : ap cl .lss (.int k a) (.int k b) = some (vb true) := by rw [tt, dj h]
theorem ch (h : ¬ a < b) : ap cl .lss (.int k a) (.int k b) = some (vb false) := by rw [tt, dP h]
theorem aaH (h : a ≤ b) : ap cl .leq (.int k a) (.int k b) = some (vb true) := by rw [QD, dj h]
theorem aaG (h : ¬ a ≤ b) : ap cl .leq (.int k a) (.int k b) = some (vb false) := by rw [QD, dP h]
theorem lq (h : b < a) : ap cl .gtr (.int k a) (.int k b) = some (vb true) := by rw [In, dj h]
theorem f7 (h : ¬ b < a) : ap cl .gtr (.int k a) (.int k b) = some (vb false) := by rw [In, dP h]
theorem r7 (h : b ≤ a) : ap cl .geq (.int k a) (.int k b) = some (vb true) := by rw [tr, dj h]
theorem mV (h : ¬ b ≤ a) : ap cl .geq (.int k a) (.int k b) = some (vb false) := by rw [tr, dP h]
theorem bk (h : a = b) : ap cl .eql (.int k a) (.int k b) = some (vb true) := by rw [fI, beq_iff_eq.2 h]
theorem aG (h : ¬ a = b) : ap cl .eql (.int k a) (.int k b) = some (vb false) := by rw [fI, beq_eq_false_iff_ne.2 h]
theorem Ml (h : ¬ a = b) : ap cl .neq (.int k a) (.int k b) = some (vb true) := by rw [ww, bne_iff_ne.2 h]
theorem AJ (h : a = b) : ap cl .neq (.int k a) (.int k b) = some (vb false) := by
 rw [ww];simp [h]
end
theorem F9 {c : Bool} {e : Option Value} {v : Value} (h : e = some v) : gB (vb c) c e = some v := by
 cases c <;> (rw [h]; rfl)
theorem ah8 {v : Value} : gV (vb true) true v = some v := rfl
theorem ah5 {v : Value} : gV (vb false) false v = some v := rfl
theorem ah7 {v : Value} : gV (vb true) false v = some undef := rfl
theorem ah6 {v : Value} : gV (vb false) true v = some undef := rfl
theorem ah4 {e : Option Value} : gB (vb true) false e = some undef := rfl
theorem ah3 {e : Option Value} : gB (vb false) true e = some undef := rfl
section
variable {H : AH} {e : Option (Value × AH)} {k : Value × AH → OV} {Q : Value → AH → Prop} {x : Option Value} {kv : Value → OV}
theorem Tt (h : wp (e.bind k) Q) : wp ((gE (vb true) true H e).bind k) Q := h
theorem CB (h : wp (e.bind k) Q) : wp ((gE (vb false) false H e).bind k) Q := h
theorem Tq (h : wp (k (undef, H)) Q) : wp ((gE (vb true) false H e).bind k) Q := h
theorem Tp (h : wp (k (undef, H)) Q) : wp ((gE (vb false) true H e).bind k) Q := h
theorem Ne (h : wp (x.bind kv) Q) : wp ((EI (yv (vb true)) true x (some undef)).bind kv) Q := h
theorem FN (h : wp (x.bind kv) Q) : wp ((EI (yv (vb false)) false x (some undef)).bind kv) Q := h
theorem Nd (h : wp (kv undef) Q) : wp ((EI (yv (vb true)) false x (some undef)).bind kv) Q := h
theorem Nc (h : wp (kv undef) Q) : wp ((EI (yv (vb false)) true x (some undef)).bind kv) Q := h
end
theorem L3 (c : Bool) (e : Option Value) : gB (vb c) c e = e := by cases c <;> cases e <;> rfl
theorem JD {R : Type} (c : Bool) (k : Value → Option R) : ∀ (p : List Stp) (x : Value), xe (vb c) c p x k = ad p x k := by
 intro p
 induction p with
 | nil => intro x; rfl
 | cons s p ih => intro x; cases s <;> simp only [xe, ad, L3, ih]
theorem Sz {R : Type} (c : Bool) (k : Value → Option R) (hk : ∀ x, k x = k undef) : ∀ (p : List Stp) (x : Value), xe (vb c) (!c) p x k = k undef := by
 intro p
 induction p with
 | nil => intro x; exact hk x
 | cons s p ih => intro x; cases c <;> cases s <;> exact ih undef
section
variable {H : AH} {p : List Stp} {x : Value} {k : Value → OV} {Q : Value → AH → Prop} {n : Nat}
theorem Z2 {R : Type} (c : Bool) (k : Value → Option R) : fF (vb c) c p x H k = ld p x H k := by simp only [fF, ld, JD, L3]
theorem SA {R : Type} (c : Bool) (k : Value → Option R) : tV (vb c) c n p x H k = ldN n p x H k := by simp only [tV, ldN, JD, L3]
theorem SB {R : Type} (c : Bool) (k : Value → Option R) : fF (vb c) (!c) p x H k = k undef := by
 unfold fF
 rw [Sz c _ (fun x => by cases c <;> rfl)]
 cases c <;> rfl
theorem L4 {R : Type} (c : Bool) (k : Value → Option R) : tV (vb c) (!c) n p x H k = k undef := by
 unfold tV
 rw [Sz c _ (fun x => by cases c <;> rfl)]
 cases c <;> rfl
theorem ac8 (h : wp (ld p x H k) Q) : wp (fF (vb true) true p x H k) Q := by rw [Z2]; exact h
theorem ac5 (h : wp (ld p x H k) Q) : wp (fF (vb false) false p x H k) Q := by rw [Z2]; exact h
theorem ac7 (h : wp (k undef) Q) : wp (fF (vb true) false p x H k) Q := by rw [show (false : Bool) = !true from rfl, SB]; exact h
theorem ac6 (h : wp (k undef) Q) : wp (fF (vb false) true p x H k) Q := by rw [show fF (vb false) true p x H k = fF (vb false) (!false) p x H k from rfl, SB]; exact h
theorem W1 (h : wp (ldN n p x H k) Q) : wp (tV (vb true) true n p x H k) Q := by rw [SA]; exact h
theorem WY (h : wp (ldN n p x H k) Q) : wp (tV (vb false) false n p x H k) Q := by rw [SA]; exact h
theorem W0 (h : wp (k undef) Q) : wp (tV (vb true) false n p x H k) Q := by rw [show tV (vb true) false n p x H k = tV (vb true) (!true) n p x H k from rfl, L4]; exact h
theorem WZ (h : wp (k undef) Q) : wp (tV (vb false) true n p x H k) Q := by rw [show tV (vb false) true n p x H k = tV (vb false) (!false) n p x H k from rfl, L4]; exact h
theorem ml {e : Option Value} (h : wp (e.bind k) Q) : wp ((gB (vb true) true e).bind k) Q := by rw [L3]; exact h
theorem qu {e : Option Value} (h : wp (e.bind k) Q) : wp ((gB (vb false) false e).bind k) Q := by rw [L3]; exact h
theorem ac4 {a b : OV} (h : wp a Q) : wp (av (vb true) a b) Q := h
theorem ac3 {a b : OV} (h : wp b Q) : wp (av (vb false) a b) Q := h
end
theorem amC {b : Bool} {v : Value} : gV undef b v = some undef := rfl
theorem amB {b : Bool} {e : Option Value} : gB undef b e = some undef := rfl
theorem alC {R : Type} (b : Bool) (k : Value → Option R) (hk : ∀ x, k x = k undef) : ∀ (p : List Stp) (x : Value), xe undef b p x k = k undef := by
 intro p
 induction p with
 | nil => intro x; exact hk x
 | cons s p ih => intro x; cases s <;> exact ih undef
theorem alD {R : Type} {b : Bool} {p : List Stp} {x : Value} {H : AH} (k : Value → Option R) : fF undef b p x H k = k undef := by
 unfold fF;rw [alC b _ (fun x => rfl)]
 rfl
theorem ag2 {b : Bool} {p : List Stp} {x : Value} {H : AH} {k : Value → OV} {Q : Value → AH → Prop} (h : wp (k undef) Q) : wp (fF undef b p x H k) Q := by rw [alD]; exact h
class Gd (x : OV) (y : outParam OV) : Prop where
 go : ∀ {Q : Value → AH → Prop}, wp y Q → wp x Q
section
variable {a b v : Value} {k : Value → OV} {H : AH} {e : Option (Value × AH)} {e1 : Option Value} {ke : Value × AH → OV} {p : List Stp} {x : Value} {n : Nat} {c : Bool} {o1 o2 : OV}
instance : Gd ((aV (vb true) a b).bind k) (k a) := ⟨aa (aa9 _ _)⟩
instance : Gd ((aV (vb false) a b).bind k) (k b) := ⟨aa (JZ _ _)⟩
instance : Gd ((gV (vb true) true v).bind k) (k v) := ⟨aa ah8⟩
instance : Gd ((gV (vb false) false v).bind k) (k v) := ⟨aa ah5⟩
instance : Gd ((gV (vb true) false v).bind k) (k undef) := ⟨aa ah7⟩
instance : Gd ((gV (vb false) true v).bind k) (k undef) := ⟨aa ah6⟩
instance : Gd ((gB (vb true) false e1).bind k) (k undef) := ⟨aa ah4⟩
instance : Gd ((gB (vb false) true e1).bind k) (k undef) := ⟨aa ah3⟩
instance : Gd ((gE (vb true) false H e).bind ke) (ke (undef, H)) := ⟨Tq⟩
instance : Gd ((gE (vb false) true H e).bind ke) (ke (undef, H)) := ⟨Tp⟩
instance : Gd ((gE (vb true) true H e).bind ke) (e.bind ke) := ⟨Tt⟩
instance : Gd ((gE (vb false) false H e).bind ke) (e.bind ke) := ⟨CB⟩
instance : Gd ((EI (yv (vb true)) false e1 (some undef)).bind k) (k undef) := ⟨Nd⟩
instance : Gd ((EI (yv (vb false)) true e1 (some undef)).bind k) (k undef) := ⟨Nc⟩
instance : Gd ((EI (yv (vb true)) true e1 (some undef)).bind k) (e1.bind k) := ⟨Ne⟩
instance : Gd ((EI (yv (vb false)) false e1 (some undef)).bind k) (e1.bind k) := ⟨FN⟩
instance : Gd (fF (vb true) true p x H k) (ld p x H k) := ⟨ac8⟩
instance : Gd (fF (vb false) false p x H k) (ld p x H k) := ⟨ac5⟩
instance : Gd (fF (vb true) false p x H k) (k undef) := ⟨ac7⟩
instance : Gd (fF (vb false) true p x H k) (k undef) := ⟨ac6⟩
instance : Gd (tV (vb true) true n p x H k) (ldN n p x H k) := ⟨W1⟩
instance : Gd (tV (vb false) false n p x H k) (ldN n p x H k) := ⟨WY⟩
instance : Gd (tV (vb true) false n p x H k) (k undef) := ⟨W0⟩
instance : Gd (tV (vb false) true n p x H k) (k undef) := ⟨WZ⟩
instance : Gd ((gB (vb true) true e1).bind k) (e1.bind k) := ⟨ml⟩
instance : Gd ((gB (vb false) false e1).bind k) (e1.bind k) := ⟨qu⟩
instance : Gd ((nk .not (vb c)).bind k) (k (vb (!c))) := ⟨aa Ah⟩
instance : Gd (av (vb true) o1 o2) o1 := ⟨ac4⟩
instance : Gd (av (vb false) o1 o2) o2 := ⟨ac3⟩
instance : Gd ((gV undef c v).bind k) (k undef) := ⟨aa amC⟩
instance : Gd ((gB undef c e1).bind k) (k undef) := ⟨aa amB⟩
instance : Gd (fF undef c p x H k) (k undef) := ⟨ag2⟩
class Gh (x : OV) (y : outParam OV) : Prop where
 go : ∀ {Q : Value → AH → Prop}, wp y Q → wp x Q
instance : Gh ((aV (vb true) a b).bind k) (k a) := ⟨aa (aa9 _ _)⟩
instance : Gh ((aV (vb false) a b).bind k) (k b) := ⟨aa (JZ _ _)⟩
instance : Gh ((gV (vb true) true v).bind k) (k v) := ⟨aa ah8⟩
instance : Gh ((gV (vb false) false v).bind k) (k v) := ⟨aa ah5⟩
instance : Gh ((gV (vb true) false v).bind k) (k undef) := ⟨aa ah7⟩
instance : Gh ((gV (vb false) true v).bind k) (k undef) := ⟨aa ah6⟩
instance : Gh ((gB (vb true) false e1).bind k) (k undef) := ⟨aa ah4⟩
instance : Gh ((gB (vb false) true e1).bind k) (k undef) := ⟨aa ah3⟩
instance : Gh ((gE (vb true) false H e).bind ke) (ke (undef, H)) := ⟨Tq⟩
instance : Gh ((gE (vb false) true H e).bind ke) (ke (undef, H)) := ⟨Tp⟩
instance : Gh ((gE (vb true) true H e).bind ke) (e.bind ke) := ⟨Tt⟩
instance : Gh ((gE (vb false) false H e).bind ke) (e.bind ke) := ⟨CB⟩
instance : Gh ((EI (yv (vb true)) false e1 (some undef)).bind k) (k undef) := ⟨Nd⟩
instance : Gh ((EI (yv (vb false)) true e1 (some undef)).bind k) (k undef) := ⟨Nc⟩
instance : Gh ((EI (yv (vb true)) true e1 (some undef)).bind k) (e1.bind k) := ⟨Ne⟩
instance : Gh ((EI (yv (vb false)) false e1 (some undef)).bind k) (e1.bind k) := ⟨FN⟩
end
class Gs (x : OV) (y : outParam OV) : Prop where
 go : ∀ {Q : Value → AH → Prop}, wp y Q → wp x Q
class Gt (x : OV) (y : outParam OV) : Prop where
 go : ∀ {Q : Value → AH → Prop}, wp y Q → wp x Q
instance (priority := low) {x : OV} : Gs x x := ⟨id⟩
instance (priority := low) {x : OV} : Gt x x := ⟨id⟩
instance {x y z : OV} [g : Gd x y] [h : Gs y z] : Gs x z := ⟨fun q => g.go (h.go q)⟩
instance {x y z : OV} [g : Gh x y] [h : Gt y z] : Gt x z := ⟨fun q => g.go (h.go q)⟩
theorem gs {x y : OV} [g : Gs x y] {Q : Value → AH → Prop} (h : wp y Q) : wp x Q := g.go h
theorem gt {x y : OV} [g : Gt x y] {Q : Value → AH → Prop} (h : wp y Q) : wp x Q := g.go h
structure Mu where
 V : cO → Nat
 E : List Ev
 N : Nat
abbrev Mu.log (μ : Mu) (who kind : Int) (at' : cO) : Mu := { μ with E := μ.E ++ [⟨who, kind, at'⟩], N := μ.N + 1 }
abbrev Mu.put (μ : Mu) (at' : cO) (v : Nat) : Mu := { μ with V := fun l => if l = at' then v else μ.V l }
def gk (al : List (cO × Nat)) (l : cO) : Nat := ((al.find? fun p => p.1 == l).map (·.2)).getD 0
def ak7 (p : cO × Nat) (e : MapEntry) : Prop := e.key = fw p.1 ∧ e.val = .agg #[vu p.2]
inductive EntsOf : List (cO × Nat) → List MapEntry → Prop
 | nil : EntsOf [] []
 | cons {p : cO × Nat} {l : List (cO × Nat)} {e : MapEntry} {es : List MapEntry} (h : ak7 p e) (k : EntsOf l es) : EntsOf (p :: l) (e :: es)
theorem Hg (a b : cO) : lr (.flat 3) (fw a) (fw b) = some (a == b) := by
 simp only [lr, fw];rw [if_pos ⟨rfl, rfl⟩];simp only [bM, if_true, fH, Bool.and_true]
 rfl
theorem VP {al : List (cO × Nat)} {es : List MapEntry} (h : EntsOf al es) (l : cO) : ∀ i, ∃ r, bw (.flat 3) (fw l) es i = some r ∧ (match r with
 | some (j, v) => v = .agg #[vu (gk al l)] ∧ i ≤ j ∧ (∃ p, al[j - i]? = some p ∧ p.1 = l) ∧ ∀ q, q < j - i → ∀ p, al[q]? = some p → p.1 ≠ l
 | none => gk al l = 0 ∧ ∀ p ∈ al, p.1 ≠ l) := by
 induction h with
 | nil => intro i; exact ⟨none, rfl, rfl, by simp⟩
 | @cons p al e es h k ih =>
  intro i;simp only [bw];rw [h.1, Hg];simp only [bL]
  by_cases hp : p.1 = l
  ·have e1 : (l == p.1) = true := by simp [hp]
   rw [if_pos e1];refine ⟨_, rfl, ?_, bI _, ⟨p, by simp, hp⟩, fun q hq => by omega⟩;rw [h.2];simp [gk, hp]
  ·have e1 : ¬ ((l == p.1) = true) := by simp; exact fun h => hp h.symm
   rw [if_neg e1];obtain ⟨r, h1, h2⟩ := ih (i + 1)
   have hg : gk (p :: al) l = gk al l := by simp [gk, hp]
   refine ⟨r, h1, ?_⟩
   cases r with
   | none =>
    simp only at h2 ⊢;rw [hg]
    exact ⟨h2.1, fun q hq => by
     rcases vj.1 hq with rfl | hq
     ·exact hp
     ·exact h2.2 q hq⟩
   | some r =>
    obtain ⟨j, v⟩ := r;simp only at h2 ⊢;rw [hg];obtain ⟨a1, a2, ⟨p', a3, a4⟩, a5⟩ := h2;refine ⟨a1, by omega, ⟨p', ?_, a4⟩, fun q hq p'' hp'' => ?_⟩
    ·rw [show j - i = (j - (i + 1)) + 1 from by omega]; exact a3
    ·cases q with
     | zero => simp at hp''; rw [← hp'']; exact hp
     | succ q => exact a5 q (by omega) p'' (by simpa using hp'')
def nO : List (cO × Nat) → cO → Nat → List (cO × Nat)
 | [], l, v => [(l, v)]
 | p :: al, l, v => if p.1 = l then (l, v) :: al else p :: nO al l v
theorem fu (p : cO × Nat) (al : List (cO × Nat)) (l : cO) : gk (p :: al) l = if p.1 = l then p.2 else gk al l := by
 unfold gk
 by_cases h : p.1 = l
 ·simp [h]
 ·simp [h]
theorem GF (l : cO) (v : Nat) (x : cO) : ∀ al, gk (nO al l v) x = if x = l then v else gk al x := by
 intro al
 induction al with
 | nil =>
  simp only [nO, fu]
  by_cases h : l = x
  ·simp [h]
  ·have : ¬ x = l := fun e => h e.symm
   simp [h, this]
 | cons p al ih =>
  simp only [nO]
  by_cases hp : p.1 = l
  ·rw [if_pos hp, fu, fu]
   by_cases h : l = x
   ·simp [h]
   ·have h2 : ¬ x = l := fun e => h e.symm
    simp [h, h2, hp]
  ·rw [if_neg hp, fu, fu, ih]
   by_cases h : p.1 = x
   ·have h2 : ¬ x = l := fun e => hp (h.trans e)
    simp [h, h2]
   ·simp [h]
theorem acZ {al : List (cO × Nat)} {es : List MapEntry} (h : EntsOf al es) (l : cO) (v : Nat) : ∀ i, match bw (.flat 3) (fw l) es i with
 | some (some (j, _)) => i ≤ j ∧ EntsOf (nO al l v) (es.modify (j - i) fun e => { e with key := fw l, val := .agg #[vu v] })
 | some none => ∀ born, EntsOf (nO al l v) (es ++ [{ key := fw l, val := .agg #[vu v], born := born }])
 | none => False := by
 induction h with
 | nil => intro i born; exact .cons ⟨rfl, rfl⟩ .nil
 | @cons p al e es h k ih =>
  intro i;simp only [bw];rw [h.1, Hg];simp only [bL]
  by_cases hp : p.1 = l
  ·have e1 : (l == p.1) = true := by simp [hp]
   rw [if_pos e1];simp only [nO, if_pos hp];refine ⟨bI _, ?_⟩;simp only [Nat.sub_self];exact .cons ⟨rfl, rfl⟩ k
  ·have e1 : ¬ ((l == p.1) = true) := by simp; exact fun h => hp h.symm
   rw [if_neg e1];have hi := ih (i + 1);simp only [nO, if_neg hp]
   cases hf : bw (.flat 3) (fw l) es (i + 1) with
   | none => rw [hf] at hi; exact hi
   | some r =>
    rw [hf] at hi
    cases r with
    | none => intro born; exact .cons h (hi born)
    | some r =>
     obtain ⟨j, v'⟩ := r;simp only at hi ⊢;refine ⟨by omega, ?_⟩;rw [show j - i = (j - (i + 1)) + 1 from by omega];exact .cons h hi.2
section
variable {P P' R : SP} {H : AH} {c ck : Nat} {es : List MapEntry} {al : List (cO × Nat)} {Q : Value → AH → Prop}
theorem akB {k : Value → OV} {at' : cO} (ha : EntsOf al es) (h : ae P H) [i : Hs P c (.map es ck)] (hk : wp (k (.agg #[vu (gk al at')])) Q) : wp ((dc (.flat 3) (.agg #[vw 0]) (.map (some c)) (fw at') false H).bind k) Q := by
 have hg := i.get h;obtain ⟨r, h1, h2⟩ := VP ha at' 0;refine aa ?_ hk;unfold dc;rw [if_pos (show jo (.flat 3) (fw at') = true from rfl)];simp only [kL, hg, bL, h1, fH]
 cases r with
 | none => simp only at h2 ⊢; rw [h2.1]; rfl
 | some r => simp only at h2 ⊢; rw [h2.1]; rfl
theorem alV {k : AH → OV} {at' : cO} {v : Nat} (ha : EntsOf al es) (h : ae P H) [i : Hs P c (.map es ck)] (hk : ∀ es' ck' H', EntsOf (nO al at' v) es' → (∀ P', Up P c (.map es' ck') P' → ae P' H') → wp (k H') Q) :
 wp ((fm (.flat 3) (.map (some c)) (fw at') (.agg #[vu v]) H).bind k) Q := by
 have hg := i.get h;have hu := acZ ha at' v 0;unfold fm;rw [if_pos (show jo (.flat 3) (fw at') = true from rfl)];simp only [hg]
 cases hf : bw (.flat 3) (fw at') es 0 with
 | none => rw [hf] at hu; exact absurd hu id
 | some r =>
  rw [hf] at hu
  cases r with
  | none =>
   simp only [fH, bL];exact hk _ _ _ (hu ck) fun P' u => u.set h
  | some r =>
   obtain ⟨j, v'⟩ := r;simp only [fH, bL];exact hk _ _ _ hu.2 fun P' u => u.set h
end
def bN (m : Nat) (μ : Mu) : SP := ex fun g : Nat × Value × List (cO × Nat) × List MapEntry × Nat =>
 pu (EntsOf g.2.2.1 g.2.2.2.1 ∧ (∀ l, gk g.2.2.1 l = μ.V l) ∧ μ.E.length ≤ μ.N) * (blk m (.cells false [.map (some g.1), g.2.1]) * (blk g.1 (.map g.2.2.2.1 g.2.2.2.2) * sl 5 g.2.1 μ.E.length (pU μ.E)))
theorem pA (m : Nat) (μ : Mu) (who kind : Int) (at' : cO) (hE : μ.N < 1099511627776) : Sp dy [vp m, vi who, vi kind, fw at'] (bN m μ) (fun _ : Unit => .tuple #[]) (fun _ => bN m (μ.log who kind at')) := by
 refine aP fun R H h => ?_;obtain ⟨⟨c, l, al, es, ck⟩, h⟩ := ae.ex.1 h;rw [ai, ae.pu] at h;obtain ⟨hp, h⟩ := h;dsimp only at h hp;refine bg (fun r => Bv _ _ _ _ H) ?_;refine bf (cs := [vi at'.1, vi at'.2.1, vi at'.2.2]) h fun b0 H1 h1 => ?_;refine aj h1 ac rfl ?_;refine aJ h1 ?_;refine Nb (cs := [vi who, vi kind, vi at'.1, vi at'.2.1, vi at'.2.2]) rfl ?_;refine ac9 (cs := [vi who, vi kind, vi at'.1, vi at'.2.1, vi at'.2.2]) h1 rfl fun b1 H2 h2 => ?_;have hl := hp.2.2;refine aiP h2 rfl (by omega) (by omega) rfl (by unfold room; omega) fun a' c' H3 h3 => ?_;refine bi h3 ac rfl rfl fun H4 h4 => ?_;refine aq ⟨(), rfl, ?_⟩;refine ae.ex.2 ⟨(c, .slice a' (μ.E.length + 1) c', al, es, ck), ?_⟩;rw [ai, ae.pu];refine ⟨⟨hp.1, hp.2.1, by simp; exact hp.2.2⟩, ?_⟩
 have e1 : (μ.log who kind at').E.length = μ.E.length + 1 := by simp [Mu.log]
 have e2 : pU (μ.log who kind at').E = pU μ.E ++ [vi who, vi kind, vi at'.1, vi at'.2.1, vi at'.2.2] := by rw [Mu.log, IA]; rfl
 rw [e1, e2];exact h4.to
theorem xz (m : Nat) (μ : Mu) (at' : cO) : Sp fO [vp m, fw at'] (bN m μ) (fun _ : Unit => vu (μ.V at')) (fun _ => bN m μ) := by
 refine aP fun R H h => ?_;have h0 := h;obtain ⟨⟨c, l, al, es, ck⟩, h⟩ := ae.ex.1 h;rw [ai, ae.pu] at h;obtain ⟨hp, h⟩ := h;dsimp only at h hp;refine bg (fun r => Bs _ _ H) ?_;refine bf (cs := [vi at'.1, vi at'.2.1, vi at'.2.2]) h fun b0 H1 h1 => ?_;refine aj h1 ac rfl ?_;refine aJ h1 ?_;refine akB (at' := at') hp.1 h1 ?_;refine aa (v := vu (gk al at')) rfl ?_;refine aq ⟨(), by rw [hp.2.1], ?_⟩;refine ae.ex.2 ⟨(c, l, al, es, ck), ?_⟩;rw [ai, ae.pu];exact ⟨hp, h1.to⟩
theorem Mh {m : Nat} {μ : Mu} {at' : cO} {v : Nat} {R P : SP} {H : AH} {c : Nat} {l : Value} {al : List (cO × Nat)} {es : List MapEntry} {k : AH → OV} {Q : Value → AH → Prop} {ck : Nat}
 (hp : EntsOf al es ∧ (∀ l, gk al l = μ.V l) ∧ μ.E.length ≤ μ.N) (h : ae P H) [f : Fr P (blk m (.cells false [.map (some c), l]) * (blk c (.map es ck) * sl 5 l μ.E.length (pU μ.E))) R] [i : Hs P c (.map es ck)]
 (hk : ∀ H', ae (bN m (μ.put at' v) * R) H' → wp (k H') Q) : wp ((fm (.flat 3) (.map (some c)) (fw at') (.agg #[vu v]) H).bind k) Q := by
 have h' := ae.fr (f := f) h;refine alV hp.1 h' fun es' ck' H' he hh => hk H' ?_;have h2 := hh _ inferInstance;refine ae.ex.2 ⟨(c, l, nO al at' v, es', ck'), ?_⟩;rw [ai, ae.pu];refine ⟨⟨he, fun x => ?_, hp.2.2⟩, h2.to⟩;dsimp only;rw [GF, hp.2.1]
theorem V6 (m : Nat) (μ : Mu) (who : Int) (at' : cO) (v : Nat) (hE : μ.N < 1099511627776) : Sp dH [vp m, vi who, fw at', vu v] (bN m μ) (fun _ : Unit => .tuple #[]) (fun _ => bN m ((μ.log who 2 at').put at' v)) := by
 refine br (zy _ _ _ _) fun R H h => ?_;refine bf (cs := [vi at'.1, vi at'.2.1, vi at'.2.2]) h fun b0 H1 h1 => ?_;refine aJ h1 ?_;refine ag h1 (pA m μ who 2 at' hE) fun _ H2 h2 => ?_;obtain ⟨⟨c, l, al, es, ck⟩, h2⟩ := ae.ex.1 h2;rw [ai, ae.pu] at h2;obtain ⟨hp, h2⟩ := h2;dsimp only at h2 hp;refine aj h2 ac rfl ?_;refine aJ h2 ?_;refine Nb (cs := [vu v]) rfl ?_;refine Mh (m := m) (l := l) (μ := μ.log who 2 at') (at' := at') (v := v) hp h2 fun H3 h3 => ?_;exact aq ⟨(), rfl, h3.to⟩
theorem Mj (m : Nat) (μ : Mu) (who : Int) (at' : cO) (v : Nat) (hE : μ.N < 1099511627776) : Sp jJ [vp m, vi who, fw at', vu v] (bN m μ) (fun _ : Unit => vu (μ.V at')) (fun _ => bN m ((μ.log who 3 at').put at' v)) := by
 refine br (Bw _ _ _ _) fun R H h => ?_;refine bf (cs := [vi at'.1, vi at'.2.1, vi at'.2.2]) h fun b0 H1 h1 => ?_;refine aJ h1 ?_;refine ag h1 (xz m μ at') fun _ H2 h2 => ?_;refine aJ h2 ?_;refine ag h2 (pA m μ who 3 at' hE) fun _ H3 h3 => ?_;obtain ⟨⟨c, l, al, es, ck⟩, h3⟩ := ae.ex.1 h3;rw [ai, ae.pu] at h3;obtain ⟨hp, h3⟩ := h3;dsimp only at h3 hp;refine aj h3 ac rfl ?_;refine aJ h3 ?_;refine Nb (cs := [vu v]) rfl ?_;refine Mh (m := m) (l := l) (μ := μ.log who 3 at') (at' := at') (v := v) hp h3 fun H4 h4 => ?_;exact aq ⟨(), rfl, h4.to⟩
theorem aaP (m : Nat) (μ : Mu) (who : Int) (at' : cO) (hE : μ.N < 1099511627776) : Sp dx [vp m, vi who, fw at'] (bN m μ) (fun _ : Unit => vu (μ.V at')) (fun _ => bN m (μ.log who 1 at')) := by
 refine br (Br _ _ _) fun R H h => ?_;refine bf (cs := [vi at'.1, vi at'.2.1, vi at'.2.2]) h fun b0 H1 h1 => ?_;refine aJ h1 ?_;refine ag h1 (pA m μ who 1 at' hE) fun _ H2 h2 => ?_;refine aJ h2 ?_;refine ag h2 (xz m (μ.log who 1 at') at') fun _ H3 h3 => ?_;exact aq ⟨(), rfl, h3.to⟩
abbrev Mu.swap (μ : Mu) (who : Int) (at' : cO) (was now : Nat) : Mu := if μ.V at' = was then (μ.log who 3 at').put at' now else μ.log who 4 at'
theorem aaS (m : Nat) (μ : Mu) (who : Int) (at' : cO) (was now : Nat) (hE : μ.N < 1099511627776) :
 Sp fP [vp m, vi who, fw at', vu was, vu now] (bN m μ) (fun _ : Unit => vb (decide (μ.V at' = was))) (fun _ => bN m (μ.swap who at' was now)) := by
 refine br (Bu _ _ _ _ _) fun R H h => ?_;refine bf (cs := [vi at'.1, vi at'.2.1, vi at'.2.2]) h fun b0 H1 h1 => ?_;refine aJ h1 ?_;refine ag h1 (xz m μ at') fun _ H2 h2 => ?_;refine aa aiF ?_;unfold Mu.swap;refine cm (fun hc => ?_) (fun hc => ?_)
 ·have hc : ¬ μ.V at' = was := by simpa using hc
  rw [if_neg hc, dP hc];refine aJ h2 ?_;refine ag h2 (pA m μ who 4 at' hE) fun _ H3 h3 => ?_;exact aq ⟨(), rfl, h3.to⟩
 ·have hc : μ.V at' = was := by simpa using hc
  rw [if_pos hc, dj hc];refine aJ h2 ?_;refine ag h2 (Mj m μ who at' now hE) fun _ H3 h3 => ?_;exact aq ⟨(), rfl, h3.to⟩
theorem agB (m : Nat) (μ : Mu) (who : Int) (at' : cO) (n : Nat) (hE : μ.N < 1099511627776) :
 Sp iR [vp m, vi who, fw at', vu n] (bN m μ) (fun _ : Unit => vu (μ.V at')) (fun _ => bN m ((μ.log who 3 at').put at' ((μ.V at' + n) % 18446744073709551616))) := by
 refine br (Ex _ _ _ _) fun R H h => ?_
 repeat (first | refine aS ‹_› fun _ _ _ => ?_ | refine aJ ‹_› ?_)
 refine ag (by assumption) (xz m μ at') fun _ _ _ => ?_
 repeat refine dA ‹_› ‹_› rfl ?_
 refine aa (ahM) ?_;refine ag (by assumption) (Mj m μ who at' _ hE) fun _ _ _ => ?_;exact aq ⟨(), rfl, ae.to (by assumption)⟩
theorem Mi (m : Nat) (μ : Mu) (who : Int) (at' : cO) (hE : μ.N < 1099511627776) :
 Sp m9 [vp m, vi who, fw at'] (bN m μ) (fun _ : Unit => .tuple #[]) (fun _ => bN m (μ.log who 5 at')) := by
 refine br (Bt _ _ _) fun R H h => ?_
 repeat (first | refine aS ‹_› fun _ _ _ => ?_ | refine aJ ‹_› ?_)
 refine ag (by assumption) (pA m μ who 5 at' hE) fun _ _ _ => ?_;exact aq ⟨(), rfl, ae.to (by assumption)⟩
theorem tJ (m : Nat) (μ : Mu) (who : Int) (at' : cO) (hE : μ.N < 1099511627776) :
 Sp gq [vp m, vi who, fw at'] (bN m μ) (fun _ : Unit => .tuple #[]) (fun _ => bN m (μ.log who 6 at')) := by
 refine br (zz _ _ _) fun R H h => ?_
 repeat (first | refine aS ‹_› fun _ _ _ => ?_ | refine aJ ‹_› ?_)
 refine ag (by assumption) (pA m μ who 6 at' hE) fun _ _ _ => ?_;exact aq ⟨(), rfl, ae.to (by assumption)⟩
theorem Sp.imp {α : Type} {f : Nat} {args : List Value} {P : SP} {v : α → Value} {Q Q' : α → SP} (s : Sp f args P v Q) (h : ∀ x R H, ae (Q x * R) H → ae (Q' x * R) H) : Sp f args P v Q' := by
 intro R H hh;obtain ⟨x, H', e, hq⟩ := s R H hh;exact ⟨x, H', e, h x R H' hq⟩
theorem jE {m : Nat} {V : cO → Nat} {E : List Ev} {N N' : Nat} {R : SP} {H : AH} (hN : N ≤ N') (h : ae (bN m ⟨V, E, N⟩ * R) H) : ae (bN m ⟨V, E, N'⟩ * R) H := by
 obtain ⟨g, h⟩ := ae.ex.1 h;rw [ai, ae.pu] at h;refine ae.ex.2 ⟨g, ?_⟩;rw [ai, ae.pu];exact ⟨⟨h.1.1, h.1.2.1, fy h.1.2.2 hN⟩, h.2⟩
abbrev Mu.acc (μ : Mu) (who kind : Int) (at' : cO) : Mu := { V := μ.V, E := μ.E ++ [⟨who, kind, at'⟩], N := μ.N + 2 }
abbrev Mu.swp (μ : Mu) (who : Int) (at' : cO) (was now : Nat) : Mu := { V := (μ.swap who at' was now).V, E := (μ.swap who at' was now).E, N := μ.N + 2 }
theorem EJ (m : Nat) (μ : Mu) (who : Int) (at' : cO) (hE : μ.N < 1099511627776) : Sp dx [vp m, vi who, fw at'] (bN m μ) (fun _ : Unit => vu (μ.V at')) (fun _ => bN m (μ.acc who 1 at')) :=
 (aaP m μ who at' hE).imp fun _ R H h => jE (by simp) h
theorem Ct (m : Nat) (μ : Mu) (who : Int) (at' : cO) (v : Nat) (hE : μ.N < 1099511627776) : Sp dH [vp m, vi who, fw at', vu v] (bN m μ) (fun _ : Unit => .tuple #[]) (fun _ => bN m ((μ.acc who 2 at').put at' v)) :=
 (V6 m μ who at' v hE).imp fun _ R H h => jE (by simp) h
theorem Pe (m : Nat) (μ : Mu) (who : Int) (at' : cO) (was now : Nat) (hE : μ.N < 1099511627776) :
 Sp fP [vp m, vi who, fw at', vu was, vu now] (bN m μ) (fun _ : Unit => vb (decide (μ.V at' = was))) (fun _ => bN m (μ.swp who at' was now)) :=
 (aaS m μ who at' was now hE).imp fun _ R H h => by
  have : (μ.swap who at' was now).N ≤ μ.N + 2 := by unfold Mu.swap; split <;> simp
  exact jE this h
theorem aiH (m : Nat) (μ : Mu) (who : Int) (at' : cO) (n : Nat) (hE : μ.N < 1099511627776) :
 Sp iR [vp m, vi who, fw at', vu n] (bN m μ) (fun _ : Unit => vu (μ.V at')) (fun _ => bN m ((μ.acc who 3 at').put at' ((μ.V at' + n) % 18446744073709551616))) :=
 (agB m μ who at' n hE).imp fun _ R H h => jE (by simp) h
def Iz (p : cO × Nat) : List Value := [vi p.1.1, vi p.1.2.1, vi p.1.2.2]
def Lx (p : cO × Nat) : List Value := [vu p.2]
instance : Enc Iz 3 := ⟨fun _ => rfl, fun _ => rfl, by omega⟩
instance : Enc Lx 1 := ⟨fun _ => rfl, fun _ => rfl, by omega⟩
def Hn (m : Nat) (al : List (cO × Nat)) (E : List Ev) : SP := ex fun g : Value × Value × Value =>
 blk m (.cells false [g.1, g.2.1, g.2.2]) * (ts 3 Iz g.1 al * (ts 1 Lx g.2.1 al * ts 5 Ev.cells g.2.2 E))
def bS (m : Nat) (μ : Mu) : SP := ex fun al : List (cO × Nat) => pu ((∀ l, gk al l = μ.V l) ∧ al.length + μ.E.length ≤ μ.N) * Hn m al μ.E
def iP (al : List (cO × Nat)) (l : cO) : Nat := al.findIdx fun p => p.1 == l
def lg (al : List (cO × Nat)) (l : cO) : List (cO × Nat) := if iP al l < al.length then al else al ++ [(l, 0)]
theorem ko (p : cO × Nat) (al : List (cO × Nat)) (l : cO) : iP (p :: al) l = if p.1 = l then 0 else iP al l + 1 := by
 unfold iP;rw [List.findIdx_cons]
 by_cases h : p.1 = l
 ·simp [h]
 ·have : (p.1 == l) = false := by simpa using h
  simp [h, this]
theorem CP (l : cO) : ∀ (al : List (cO × Nat)) (h : iP al l < al.length), al[iP al l] = (l, gk al l) := by
 intro al
 induction al with
 | nil => intro h; simp at h
 | cons p al ih =>
  intro h;have e := ko p al l
  by_cases hp : p.1 = l
  ·rw [if_pos hp] at e
   simp only [e, List.getElem_cons_zero, fu, hp, if_true];exact Prod.ext hp rfl
  ·rw [if_neg hp] at e
   rw [e, List.length_cons] at h;simp only [e, List.getElem_cons_succ, fu, hp, if_false];exact ih (by omega)
theorem Nx (l x : cO) : ∀ (al : List (cO × Nat)), ¬ iP al l < al.length → gk (al ++ [(l, 0)]) x = gk al x := by
 intro al
 induction al with
 | nil =>
  intro _;show gk [(l, 0)] x = gk [] x;rw [fu]
  split <;> rfl
 | cons p al ih =>
  intro h;have e := ko p al l
  by_cases hp : p.1 = l
  ·rw [if_pos hp] at e
   simp [e] at h
  ·rw [if_neg hp] at e
   rw [List.cons_append, fu, fu, ih (by rw [e, List.length_cons] at h; omega)]
theorem CR (l : cO) (al : List (cO × Nat)) (h : ¬ iP al l < al.length) : iP (al ++ [(l, 0)]) l = al.length := by
 induction al with
 | nil => simp [iP, List.findIdx_cons]
 | cons p al ih =>
  have e := ko p al l
  by_cases hp : p.1 = l
  ·rw [if_pos hp] at e
   simp [e] at h
  ·rw [if_neg hp] at e
   rw [List.cons_append, ko, if_neg hp, ih (by rw [e, List.length_cons] at h; omega), List.length_cons]
theorem TN (al : List (cO × Nat)) (l x : cO) : gk (lg al l) x = gk al x := by
 unfold lg
 split
 ·rfl
 ·exact Nx l x al (by assumption)
theorem Xq (al : List (cO × Nat)) (l : cO) : iP (lg al l) l < (lg al l).length := by
 unfold lg
 split
 ·assumption
 ·rw [CR l al (by assumption)]; simp
theorem GH (l : cO) (v : Nat) : ∀ (al : List (cO × Nat)), iP al l < al.length → nO al l v = al.set (iP al l) (l, v) := by
 intro al
 induction al with
 | nil => intro h; simp at h
 | cons p al ih =>
  intro h;have e := ko p al l
  by_cases hp : p.1 = l
  ·rw [if_pos hp] at e
   simp [nO, hp, e]
  ·rw [if_neg hp] at e
   rw [e, List.length_cons] at h;simp only [nO, hp, if_false, e, List.set_cons_succ];rw [ih (by omega)]
theorem SU (m : Nat) (al : List (cO × Nat)) (E : List Ev) (who kind : Int) (at' : cO) (hE : E.length < 1099511627776) : Sp cq [vp m, vi who, vi kind, fw at'] (Hn m al E) (fun _ : Unit => .tuple #[]) (fun _ => Hn m al (E ++ [⟨who, kind, at'⟩])) := by
 refine br (EV _ _ _ _) fun R H h => ?_;obtain ⟨⟨a, v, e⟩, h⟩ := ae.ex.1 h;dsimp only at h
 repeat (first | refine aS ‹_› fun _ _ _ => ?_ | refine aJ ‹_› ?_ | refine aj ‹_› ac rfl ?_ | refine iz ?_ | refine Nq ‹_› fun _ _ _ => ?_)
 refine iL ((⟨who, kind, at'⟩ : Ev)) (by assumption) rfl ?_ (by omega) fun a' c' _ _ => ?_
 ·unfold room; omega
 repeat (first | refine bz ac ?_ | refine cX ‹_› rfl rfl fun _ _ => ?_)
 exact aq ⟨(), rfl, ae.ex.2 ⟨(a, v, .slice a' (E.length + 1) c'), ae.to (by assumption)⟩⟩
theorem KZ (l : cO) : ∀ (al : List (cO × Nat)) (k : Nat) (hk : k < al.length), al[k].1 = l → (∀ j, j < k → ∀ p, al[j]? = some p → p.1 ≠ l) → iP al l = k := by
 intro al
 induction al with
 | nil => intro k hk; simp at hk
 | cons p al ih =>
  intro k hk h hno;rw [ko]
  cases k with
  | zero => rw [if_pos (by simpa using h)]
  | succ k =>
   rw [if_neg (hno 0 (by omega) p rfl), ih k (by simpa using hk) (by simpa using h) fun j hj q hq => hno (j + 1) (by omega) q (by simpa using hq)]
theorem Pm {m b0 : Nat} {al : List (cO × Nat)} {E : List Ev} {at' : cO} {R : SP} (hal : al.length < 1099511627776) {a v e : Value} (x4 : Value) {H : AH}
 (h : ae (blk b0 (.cells false [vi at'.1, vi at'.2.1, vi at'.2.2]) * (blk m (.cells false [a, v, e]) * (ts 3 Iz a al * (ts 1 Lx v al * ts 5 Ev.cells e E)) * R)) H) :
 ∀ (n k : Nat), k + n = al.length → (∀ j, j < k → ∀ p, al[j]? = some p → p.1 ≠ at') →
  wp (Cu (vp m) (vp b0) x4 (vi k) H) fun v' H' => v' = vi (iP (lg al at') at') ∧ ae (Hn m (lg al at') E * R) H' := by
 intro n
 induction n with
 | zero =>
  intro k hk hno
  have hidx : ¬ iP al at' < al.length := by
   intro hlt;have := CP at' al hlt;exact hno _ (by omega) _ (cS hlt) (by rw [this])
  refine ah (E3 _ _ _ _ H) ?_;refine aj h ac rfl ?_;refine tg (s := a) h ?_;refine aa tt ?_;refine cm (fun hc => ?_) (fun hc => ?_)
  ·simp at hc; omega
  refine ah (Kc _ _ _ H) ?_;refine ah (Wi _ _ _ H) ?_;have e1 : lg al at' = al ++ [(at', 0)] := if_neg hidx
  have e2 : iP (lg al at') at' = al.length := by rw [e1, CR at' al hidx]
  rw [e1, ← e1, e2, e1]
  repeat (first | refine aJ ‹_› ?_ | refine aj ‹_› ac rfl ?_ | refine Nq ‹_› fun _ _ _ => ?_)
  refine iL (((at', 0) : cO × Nat)) (by assumption) rfl ?_ (by omega) fun a1 c1 H1 h1 => ?_
  ·unfold room; omega
  repeat (first | refine aj ‹_› ac rfl ?_ | refine Nq ‹_› fun _ _ _ => ?_ | refine aH ‹_› ‹_› rfl ?_)
  refine iL (((at', 0) : cO × Nat)) (by assumption) rfl ?_ (by omega) fun a2 c2 H2 h2 => ?_
  ·unfold room; omega
  repeat (first | refine aj ‹_› ac rfl ?_ | refine bz ac ?_ | refine cX ‹_› rfl rfl fun _ _ => ?_ | refine Tw ?_)
  refine aa (o4 (by omega) (by omega)) ?_;refine aq ⟨by congr 1; omega, ?_⟩;exact ae.ex.2 ⟨(.slice a1 (al.length + 1) c1, .slice a2 (al.length + 1) c2, e), ae.to (by assumption)⟩
 | succ n ih =>
  intro k hk hno
  have hkl : k < al.length := by omega
  refine ah (E3 _ _ _ _ H) ?_;refine aj h ac rfl ?_;refine tg (s := a) h ?_;refine aa tt ?_;refine cm (fun hc => ?_) (fun hc => ?_)
  ·refine ah (Pv _ _ _ _ H) ?_
   refine aj h ac rfl ?_;refine akD (s := a) h hkl ?_;refine aJ h ?_;refine aa (XY al[k].1 at') ?_;refine cm (fun hc => ?_) (fun hc => ?_)
   ·have hc : al[k].1 = at' := by simpa using hc
    have hidx := KZ at' al k hkl hc hno
    have e1 : lg al at' = al := by unfold lg; rw [if_pos (by omega)]
    refine aq ⟨by rw [e1, hidx], ?_⟩;rw [e1];exact ae.ex.2 ⟨(a, v, e), ae.to h⟩
   ·have hc : al[k].1 ≠ at' := by simpa using hc
    refine ah (Pw _ _ _ _ H) ?_;refine aa (aM (by omega) (by omega)) ?_;refine ih (k + 1) (by omega) fun j hj p hp => ?_
    by_cases hjk : j = k
    ·subst hjk
     rw [cS hkl] at hp;cases hp;exact hc
    ·exact hno j (by omega) p hp
  ·simp at hc; omega
theorem Wg (m : Nat) (al : List (cO × Nat)) (E : List Ev) (at' : cO) (hal : al.length < 1099511627776) : Sp EF [vp m, fw at'] (Hn m al E) (fun _ : Unit => vi (iP (lg al at') at')) (fun _ => Hn m (lg al at') E) := by
 refine br (ajW _ _) fun R H h => ?_;obtain ⟨⟨a, v, e⟩, h⟩ := ae.ex.1 h;dsimp only at h;refine aS h fun b0 H1 h1 => ?_;refine ah (Wh _ _ _ H1) ?_;refine ah (Pu _ _ _ _ H1) ?_;refine (Pm hal (vi 0) h1 al.length 0 (by omega) (fun j hj => by omega)).mono fun v' H' h' => ⟨(), h'.1, h'.2⟩
theorem ag1 (a : Value) (al : List (cO × Nat)) (i : Nat) (hi : i < al.length) (v : Nat) : ts 3 Iz a (al.set i (al[i].1, v)) = ts 3 Iz a al := by
 unfold ts;rw [Mc, LZ al i hi, qf al i hi]
 rfl
theorem Ew {m : Nat} {μ : Mu} {al : List (cO × Nat)} {a v e : Value} {P R : SP} {H : AH} (hp : (∀ l, gk al l = μ.V l) ∧ al.length + μ.E.length ≤ μ.N) (h : ae P H)
 {Z : SP} [f : Fr P ((blk m (.cells false [a, v, e]) * (ts 3 Iz a al * (ts 1 Lx v al * ts 5 Ev.cells e μ.E))) * R) Z] : ae (bS m μ * R) H := by
 refine ae.ex.2 ⟨al, ?_⟩;rw [ai, ae.pu];exact ⟨hp, ae.ex.2 ⟨(a, v, e), h.to⟩⟩
theorem TO (al : List (cO × Nat)) (l : cO) : (lg al l).length ≤ al.length + 1 := by unfold lg; split <;> simp
def AI (m : Nat) (μ : Mu) (at' : cO) (i : Nat) : SP := ex fun g : List (cO × Nat) × Value × Value × Value =>
 pu ((∀ l, gk g.1 l = μ.V l) ∧ g.1.length + μ.E.length ≤ μ.N ∧ iP g.1 at' = i ∧ i < g.1.length) * (blk m (.cells false [g.2.1, g.2.2.1, g.2.2.2]) * (ts 3 Iz g.2.1 g.1 * (ts 1 Lx g.2.2.1 g.1 * ts 5 Ev.cells g.2.2.2 μ.E)))
theorem KJ (m : Nat) (μ : Mu) (at' : cO) (hE : μ.N < 1099511627776) : Sp EF [vp m, fw at'] (bS m μ) (fun i : Nat => vi (i : Int)) (fun i => AI m { μ with N := μ.N + 1 } at' i) := by
 intro R H h;obtain ⟨al, h⟩ := ae.ex.1 h;rw [ai, ae.pu] at h;obtain ⟨hp, h⟩ := h;obtain ⟨_, H', e, h'⟩ := Wg m al μ.E at' (by omega) R H h;refine ⟨iP (lg al at') at', H', e, ?_⟩;obtain ⟨⟨a, v, ev⟩, h'⟩ := ae.ex.1 h';refine ae.ex.2 ⟨(lg al at', a, v, ev), ?_⟩;rw [ai, ae.pu];have := TO al at';exact ⟨⟨fun l => by rw [TN, hp.1], by dsimp only; omega, rfl, Xq al at'⟩, h'⟩
theorem W7 (m : Nat) (μ : Mu) (who kind : Int) (at' : cO) (hE : μ.N < 1099511627776) : Sp cq [vp m, vi who, vi kind, fw at'] (bS m μ) (fun _ : Unit => .tuple #[]) (fun _ => bS m (μ.log who kind at')) := by
 intro R H h;obtain ⟨al, h⟩ := ae.ex.1 h;rw [ai, ae.pu] at h;obtain ⟨hp, h⟩ := h;obtain ⟨_, H', e, h'⟩ := SU m al μ.E who kind at' (by omega) R H h;refine ⟨(), H', e, ?_⟩;refine ae.ex.2 ⟨al, ?_⟩;rw [ai, ae.pu];exact ⟨⟨hp.1, by simp; omega⟩, h'⟩
theorem ajM (m : Nat) (μ : Mu) (at2 : cO) (i : Nat) (who kind : Int) (at' : cO) (hE : μ.N < 1099511627776) : Sp cq [vp m, vi who, vi kind, fw at'] (AI m μ at2 i) (fun _ : Unit => .tuple #[]) (fun _ => AI m (μ.log who kind at') at2 i) := by
 intro R H h;obtain ⟨⟨al, a, v, e⟩, h⟩ := ae.ex.1 h;rw [ai, ae.pu] at h;obtain ⟨hp, h⟩ := h;dsimp only at hp h;obtain ⟨_, H', e', h'⟩ := SU m al μ.E who kind at' (by omega) R H (ae.ex.2 ⟨(a, v, e), h⟩);refine ⟨(), H', e', ?_⟩;obtain ⟨⟨a2, v2, e2⟩, h'⟩ := ae.ex.1 h';refine ae.ex.2 ⟨(al, a2, v2, e2), ?_⟩;rw [ai, ae.pu];exact ⟨⟨hp.1, by simp; omega, hp.2.2⟩, h'⟩
class Xi (P : SP) (m i : Nat) (μ : outParam Mu) (at' : outParam cO) (R : outParam SP) : Prop where
 eq : P = AI m μ at' i * R
instance (priority := high) Xi.refl (m i : Nat) (μ : Mu) (at' : cO) : Xi (AI m μ at' i) m i μ at' emp := ⟨(j2 _).symm⟩
instance Xi.left (P Q R : SP) (m i : Nat) (μ : Mu) (at' : cO) [h : Xi P m i μ at' R] : Xi (P * Q) m i μ at' (R * Q) := ⟨by rw [h.eq, ai]⟩
instance Xi.right (P Q R : SP) (m i : Nat) (μ : Mu) (at' : cO) [h : Xi Q m i μ at' R] : Xi (P * Q) m i μ at' (P * R) := ⟨by rw [h.eq, cr]⟩
section
variable {m i : Nat} {μ : Mu} {at' : cO} {P R : SP} {H : AH} {Q : Value → AH → Prop}
theorem adD {k : Value → OV} (h : ae P H) [f : Xi P m i μ at' R] (hk : wp (k (vu (μ.V at'))) Q) : wp (ld [.n, .f 1] (vp m) H fun v => ld [.i 1 (vi i)] v H k) Q := by
 have h' : ae (AI m μ at' i * R) H := by rw [← f.eq]; exact h
 obtain ⟨⟨al, a, v, e⟩, h'⟩ := ae.ex.1 h';rw [ai, ae.pu] at h';obtain ⟨hp, h'⟩ := h';dsimp only at hp h';refine aj h' ac rfl ?_;obtain ⟨p1, _, p4, p5⟩ := hp;refine akC (s := v) h' p5 (v := vu (μ.V at')) ?_ hk;subst p4;rw [CP at' al p5];simp [Lx, p1]
theorem adE {k : AH → OV} {v : Nat} (h : ae P H) [f : Xi P m i μ at' R] (hk : ∀ H', ae (bS m (μ.put at' v) * R) H' → wp (k H') Q) : wp (ld [.n, .f 1] (vp m) H fun s => st 1 [.i 1 (vi i)] s (vu v) H k) Q := by
 have h0 : ae (AI m μ at' i * R) H := by rw [← f.eq]; exact h
 obtain ⟨⟨al, a, s, e⟩, h1⟩ := ae.ex.1 h0;rw [ai, ae.pu] at h1;obtain ⟨hp, h'⟩ := h1
 clear h0
 dsimp only at hp h';refine aj h' ac rfl ?_;obtain ⟨p1, p2, p4, p5⟩ := hp;subst p4;refine TB (s := s) (g := 0) ((at', v) : cO × Nat) h' p5 (.inl ⟨rfl, rfl⟩) rfl (by omega) rfl rfl fun H' h2 => hk H' ?_;have hat := CP at' al p5;have hk2 := ag1 a al (iP al at') p5 v;rw [hat] at hk2;rw [← GH at' v al p5] at h2 hk2;rw [← hk2] at h2;refine Ew (al := nO al at' v) (a := a) (v := s) (e := e) ⟨fun l => ?_, ?_⟩ h2
 ·rw [GF, p1]
 ·rw [GH at' v al p5, Mc]; exact p2
theorem ag7 {x y : Value} {op : BinOp} {cl : TCls} {k : AH → OV} {v : Nat} (h : ae P H) [f : Xi P m i μ at' R] (hb : ap cl op x y = some (vu v)) (hk : ∀ H', ae (bS m (μ.put at' v) * R) H' → wp (k H') Q) :
 wp (ld [.n, .f 1] (vp m) H fun s => (ap cl op x y).bind fun z => st 1 [.i 1 (vi i)] s z H k) Q := by
 rw [hb];exact adE h hk
theorem alW (h : ae P H) [f : Xi P m i μ at' R] : ae (bS m μ * R) H := by
 have h' : ae (AI m μ at' i * R) H := by rw [← f.eq]; exact h
 obtain ⟨⟨al, a, s, e⟩, h'⟩ := ae.ex.1 h';rw [ai, ae.pu] at h';obtain ⟨hp, h'⟩ := h';exact Ew (al := al) (a := a) (v := s) (e := e) ⟨hp.1, hp.2.1⟩ h'
end
theorem sR (m : Nat) (μ : Mu) (who : Int) (at' : cO) (hE : μ.N < 1099511627000) : Sp ej [vp m, vi who, fw at'] (bS m μ) (fun _ : Unit => vu (μ.V at')) (fun _ => bS m (μ.acc who 1 at')) := by
 refine br (BO _ _ _) fun R H h => ?_
 repeat (first | refine aS ‹_› fun _ _ _ => ?_ | refine aJ ‹_› ?_)
 refine ag (by assumption) (W7 m μ who 1 at' (by omega)) fun _ _ _ => ?_
 repeat refine aJ ‹_› ?_
 refine ag (by assumption) (KJ m (μ.log who 1 at') at' (by simp; omega)) fun i H3 h3 => ?_;refine adD h3 ?_;exact aq ⟨(), rfl, ae.to (alW (m := m) (i := i) h3)⟩
theorem tQ (m : Nat) (μ : Mu) (who : Int) (at' : cO) (v : Nat) (hE : μ.N < 1099511627000) : Sp eM [vp m, vi who, fw at', vu v] (bS m μ) (fun _ : Unit => .tuple #[]) (fun _ => bS m ((μ.acc who 2 at').put at' v)) := by
 refine br (zO _ _ _ _) fun R H h => ?_
 repeat (first | refine aS ‹_› fun _ _ _ => ?_ | refine aJ ‹_› ?_)
 refine ag (by assumption) (W7 m μ who 2 at' (by omega)) fun _ _ _ => ?_
 repeat refine aJ ‹_› ?_
 refine ag (by assumption) (KJ m (μ.log who 2 at') at' (by simp; omega)) fun i H3 h3 => ?_;refine adE (at' := at') h3 fun H4 h4 => ?_;exact aq ⟨(), rfl, h4.to⟩
theorem E0 (m : Nat) (μ : Mu) (who : Int) (at' : cO) (was now : Nat) (hE : μ.N < 1099511627000) :
 Sp g8 [vp m, vi who, fw at', vu was, vu now] (bS m μ) (fun _ : Unit => vb (decide (μ.V at' = was))) (fun _ => bS m (μ.swp who at' was now)) := by
 refine br (BP _ _ _ _ _) fun R H h => ?_
 repeat (first | refine aS ‹_› fun _ _ _ => ?_ | refine aJ ‹_› ?_)
 refine ag (by assumption) (KJ m μ at' (by omega)) fun i H3 h3 => ?_;refine adD h3 ?_;refine aa (aiF) ?_;unfold Mu.swp Mu.swap;refine cm (fun hc => ?_) (fun hc => ?_)
 ·have hc : ¬ μ.V at' = was := by simpa using hc
  rw [if_neg hc, dP hc]
  repeat refine aJ ‹_› ?_
  refine ag (by assumption) (ajM m { μ with N := μ.N + 1 } at' i who 4 at' (by simp; omega)) fun _ H4 h4 => ?_;exact aq ⟨(), rfl, ae.to (alW (m := m) (i := i) h4)⟩
 ·have hc : μ.V at' = was := by simpa using hc
  rw [if_pos hc, dj hc]
  repeat refine aJ ‹_› ?_
  refine ag (by assumption) (ajM m { μ with N := μ.N + 1 } at' i who 3 at' (by simp; omega)) fun _ H4 h4 => ?_;refine adE (at' := at') h4 fun H5 h5 => ?_;exact aq ⟨(), rfl, h5.to⟩
theorem ST (m : Nat) (μ : Mu) (who : Int) (at' : cO) (n : Nat) (hE : μ.N < 1099511627000) :
 Sp kT [vp m, vi who, fw at', vu n] (bS m μ) (fun _ : Unit => vu (μ.V at')) (fun _ => bS m ((μ.acc who 3 at').put at' ((μ.V at' + n) % 18446744073709551616))) := by
 refine br (EU _ _ _ _) fun R H h => ?_
 repeat (first | refine aS ‹_› fun _ _ _ => ?_ | refine aJ ‹_› ?_)
 refine ag (by assumption) (KJ m μ at' (by omega)) fun i H3 h3 => ?_
 repeat refine aJ ‹_› ?_
 refine ag (by assumption) (ajM m { μ with N := μ.N + 1 } at' i who 3 at' (by simp; omega)) fun _ H4 h4 => ?_;refine adD h4 ?_;refine ag7 (at' := at') h4 ahM fun H5 h5 => ?_;exact aq ⟨(), rfl, h5.to⟩
def cI (w : Nat) : Bool := decide (w / 2305843009213693952 < 3)
def aL (w : Nat) : Nat := if cI w then w % 2305843009213693952 else 0
def aZ (w : Nat) : Int := if cI w then (w / 2305843009213693952 : Nat) else -1
def bd (w : Nat) : Nat → Option Nat
 | 0 => if cI w ∧ aZ w ≠ 2 ∧ aL w < 2305843009213693951 then some (aL w + 1 + 2305843009213693952) else none
 | 1 => if aZ w = 1 then some (aL w) else none
 | 2 => if aZ w = 0 then some (aL w + 4611686018427387904) else none
 | _ => none
def JV : Option Nat → Value
 | some n => .tuple #[vu n, vb true]
 | none => .tuple #[vw 0, vb false]
theorem wm (w : Nat) : Sp jQ [vu w] emp (fun _ : Unit => vb (cI w)) (fun _ => emp) := by
 refine br (GC _) fun R H h => ?_;refine aa (aiL) ?_;refine aa (tt) ?_;refine aq ⟨(), ?_, h⟩
 congr 1
 unfold cI
 congr 1
 apply propext;omega
theorem jj (w : Nat) (hw : w < 18446744073709551616) : Sp dS [vu w] emp (fun _ : Unit => vu (aL w)) (fun _ => emp) := by
 refine br (GB _) fun R H h => ?_;refine ag (by assumption) (wm w) fun _ _ _ => ?_;refine aa (Ah) ?_;refine cm (fun hc => ?_) (fun hc => ?_)
 ·have hc : cI w = false := by simpa using hc
  refine aq ⟨(), by simp [aL, hc], ae.to (by assumption)⟩
 ·have hc : cI w = true := by simpa using hc
  refine aa (ak2 hw) ?_;refine aq ⟨(), by simp [aL, hc], ae.to (by assumption)⟩
theorem kO (w : Nat) (hw : w < 18446744073709551616) : Sp fi [vu w] emp (fun _ : Unit => vi (aZ w)) (fun _ => emp) := by
 refine br (GD _) fun R H h => ?_;refine ag (by assumption) (wm w) fun _ _ _ => ?_;refine aa (Ah) ?_;refine cm (fun hc => ?_) (fun hc => ?_)
 ·have hc : cI w = false := by simpa using hc
  refine aq ⟨(), by simp [aZ, hc], ae.to (by assumption)⟩
 ·have hc : cI w = true := by simpa using hc
  refine aa (aiL) ?_;refine aa (jx (by omega)) ?_;refine aq ⟨(), by simp [aZ, hc], ae.to (by assumption)⟩
theorem pG (w : Nat) (hw : w < 18446744073709551616) : Sp gZ [vu w] emp (fun _ : Unit => .tuple #[vu (aL w), vi (aZ w), vb (cI w)]) (fun _ => emp) := by
 refine br (J3 _) fun R H h => ?_;refine aa (alM) ?_;refine aa (alK hw) ?_;refine aa (jx (by omega)) ?_;refine aa (In) ?_;refine cm (fun hc => ?_) (fun hc => ?_)
 ·have hc : cI w = false := by simp at hc; simp [cI]; omega
  refine aq ⟨(), by simp [aL, aZ, hc], h.to⟩
 ·have hc : cI w = true := by simp at hc; simp [cI]; omega
  refine aq ⟨(), by simp [aL, aZ, hc], h.to⟩
theorem Ie (n : Nat) (s : Nat) (hn : n ≤ 2305843009213693951) (hs : s < 3) : Sp n0 [vu n, vi (s : Int)] emp (fun _ : Unit => .tuple #[vu (s * 2305843009213693952 + n), vb true]) (fun _ => emp) := by
 refine br (KG _ _) fun R H h => ?_;refine aa (f7 (by omega)) ?_;refine gt ?_;refine aa (F9 (ch ?_)) ?_
 ·omega
 refine gt ?_;refine aa (F9 (mV ?_)) ?_
 ·omega
 refine gt ?_;refine cm (fun hc => by cases hc) (fun _ => ?_);refine aa (eF (by omega) (by omega)) ?_
 have e1 : ap .other .shl (vu (s : Int).toNat) (vw 61) = some (vu (s * 2305843009213693952)) := by
  have := GL (cl := .other) (a := s) (k := .u64) (n := 61) (by omega);simp only [Nat.reducePow] at this;rw [Nat.mod_eq_of_lt (by omega)] at this
  simpa using this
 refine aa (e1) ?_
 have e2 : ap .other .or (vu (s * 2305843009213693952)) (vu n) = some (vu (s * 2305843009213693952 + n)) := by
  rw [Xz (by omega) (by omega)]
  congr 3
  have := Nat.two_pow_add_eq_or_of_lt (i := 61) (b := n) (by simp only [Nat.reducePow]; omega) s;simp only [Nat.reducePow] at this;rw [Nat.mul_comm, ← this]
 refine aa (e2) ?_;exact aq ⟨(), rfl, h.to⟩
theorem EP (n : Nat) (s : Nat) (hn : n ≤ 2305843009213693951) (hs : s < 3) : Sp na [vu n, vi (s : Int)] emp (fun _ : Unit => .tuple #[vu (s * 2305843009213693952 + n), vb true]) (fun _ => emp) := by
 refine br (MA _ _) fun R H h => ?_;refine aa (f7 (by omega)) ?_;refine gt ?_;refine aa (F9 (ch ?_)) ?_
 ·omega
 refine gt ?_;refine aa (F9 (f7 ?_)) ?_
 ·omega
 refine gt ?_;refine cm (fun hc => by cases hc) (fun _ => ?_);refine aa (eF (by omega) (by omega)) ?_
 have hs2 : (s : Int).toNat = s := by omega
 rw [hs2];refine aa (alH (by omega)) ?_;refine aa (gv (by omega)) ?_;exact aq ⟨(), rfl, h.to⟩
theorem eV (w : Nat) : aL w ≤ 2305843009213693951 := by unfold aL; split <;> omega
theorem ac0 {w : Nat} (h : cI w = true ∧ aZ w ≠ 2 ∧ aL w < 2305843009213693951) : bd w 0 = some (aL w + 1 + 2305843009213693952) := if_pos h
theorem M9 {w : Nat} (h : ¬ (cI w = true ∧ aZ w ≠ 2 ∧ aL w < 2305843009213693951)) : bd w 0 = none := if_neg h
theorem alT {w : Nat} (h : aZ w = 1) : bd w 1 = some (aL w) := if_pos h
theorem alS {w : Nat} (h : ¬ aZ w = 1) : bd w 1 = none := if_neg h
theorem ac1 {w : Nat} (h : aZ w = 0) : bd w 2 = some (aL w + 4611686018427387904) := if_pos h
theorem aiO {w : Nat} (h : ¬ aZ w = 0) : bd w 2 = none := if_neg h
theorem W3 (w : Nat) (hw : w < 18446744073709551616) : Sp nZ [vu w] emp (fun _ : Unit => JV (bd w 0)) (fun _ => emp) := by
 refine br (KF _) fun R H h => ?_;have hcl := eV w;refine ag (by assumption) (wm w) fun _ _ _ => ?_;refine aa (Ah) ?_
 by_cases hr : cI w = true
 ·rw [hr, Bool.not_true]
  refine gt ?_;refine ag (by assumption) (kO w hw) fun _ _ _ => ?_;refine aa (F9 (fI)) ?_
  by_cases hs : aZ w = 2
  ·rw [beq_iff_eq.2 hs]
   refine gt ?_;refine cm (fun _ => ?_) (fun hc => by cases hc);exact aq ⟨(), by rw [M9 (fun h => h.2.1 hs)]; rfl, ae.to (by assumption)⟩
  ·rw [beq_eq_false_iff_ne.2 hs]
   refine gt ?_;refine ag (by assumption) (jj w hw) fun _ _ _ => ?_;refine aa (F9 (fI)) ?_;refine gt ?_;refine cm (fun hc => ?_) (fun hc => ?_)
   ·have hc : (aL w : Int) = 2305843009213693951 := by simpa using hc
    exact aq ⟨(), by rw [M9 (fun h => by have := h.2.2; omega)]; rfl, ae.to (by assumption)⟩
   ·have hc : ¬ (aL w : Int) = 2305843009213693951 := by simpa using hc
    have ht := ac0 (w := w) ⟨hr, hs, by omega⟩;refine ag (by assumption) (jj w hw) fun _ _ _ => ?_;refine aa (gv (b := 1) (by omega)) ?_;refine ag (by assumption) (Ie (aL w + 1) 1 (by omega) (by omega)) fun _ _ _ => ?_;refine aa rfl ?_;refine aa rfl ?_;refine aq ⟨(), ?_, ae.to (by assumption)⟩;rw [ht];simp [JV];omega
 ·have hr : cI w = false := by simpa using hr
  rw [hr, Bool.not_false];refine gt ?_;refine cm (fun _ => ?_) (fun hc => by cases hc);exact aq ⟨(), by rw [M9 (fun h => by rw [hr] at h; cases h.1)]; rfl, ae.to (by assumption)⟩
theorem W4 (w : Nat) (hw : w < 18446744073709551616) : Sp n6 [vu w] emp (fun _ : Unit => JV (bd w 2)) (fun _ => emp) := by
 refine br (KH _) fun R H h => ?_;have hcl := eV w;refine ag (by assumption) (kO w hw) fun _ _ _ => ?_;refine aa (ww) ?_;refine cm (fun hc => ?_) (fun hc => ?_)
 ·have hc : ¬ aZ w = 0 := by simpa using hc
  exact aq ⟨(), by rw [aiO hc]; rfl, ae.to (by assumption)⟩
 ·have hc : aZ w = 0 := by simpa using hc
  refine ag (by assumption) (jj w hw) fun _ _ _ => ?_;refine ag (by assumption) (Ie (aL w) 2 (by omega) (by omega)) fun _ _ _ => ?_;refine aa rfl ?_;refine aa rfl ?_;refine aq ⟨(), ?_, ae.to (by assumption)⟩;rw [ac1 hc];simp [JV];omega
theorem Pq (w how : Nat) (hw : w < 18446744073709551616) (hh : how < 3) : Sp qi [vu w, vi (how : Int)] emp (fun _ : Unit => JV (bd w how)) (fun _ => emp) := by
 refine br (Gm _ _) fun R H h => ?_;have hcl := eV w;refine ag (by assumption) (pG w hw) fun _ H1 h1 => ?_;refine aa rfl ?_;refine aa rfl ?_;refine aa rfl ?_;refine ah (zG _ _ _ _ _ _ H1) ?_;refine aa (Ah) ?_;refine cm (fun hc => ?_) (fun hc => ?_)
 ·have hc : cI w = false := by simpa using hc
  have : bd w how = none := by
   match how, hh with
   | 0, _ => simp [bd, hc]
   | 1, _ => simp [bd, aZ, hc]
   | 2, _ => simp [bd, aZ, hc]
  exact aq ⟨(), by rw [this]; rfl, ae.to (by assumption)⟩
 ·have hr : cI w = true := by simpa using hc
  match how, hh with
  | 0, _ =>
   refine aa (bk rfl) ?_;refine gt ?_;refine aa (F9 (ww)) ?_;refine gt ?_
   by_cases hs : aZ w = 2
   ·rw [bne_eq_false_iff_eq.2 hs]
    refine gt ?_;refine cm (fun hc => by cases hc) (fun _ => ?_);refine aa (aG ?_) ?_
    ·omega
    refine gt ?_;refine cm (fun hc => by cases hc) (fun _ => ?_);refine aa (aG ?_) ?_
    ·omega
    refine gt ?_;refine cm (fun hc => by cases hc) (fun _ => ?_);refine ah (ix _ _ H1) ?_;exact aq ⟨(), by rw [M9 (fun h => h.2.1 hs)]; rfl, ae.to (by assumption)⟩
   ·rw [bne_iff_ne.2 hs]
    refine gt ?_;refine aa (F9 (tt)) ?_;refine gt ?_;refine cm (fun hc => ?_) (fun hc => ?_)
    ·have hc : (aL w : Int) < 2305843009213693951 := by simpa using hc
     have ht := ac0 (w := w) ⟨hr, hs, by omega⟩;refine aa (gv (b := 1) (by omega)) ?_;refine ag (by assumption) (EP (aL w + 1) 1 (by omega) (by omega)) fun _ _ _ => ?_;refine aa rfl ?_;refine aa rfl ?_;refine aq ⟨(), ?_, ae.to (by assumption)⟩;rw [ht];simp [JV];omega
    ·have hc : ¬ (aL w : Int) < 2305843009213693951 := by simpa using hc
     refine aa (aG ?_) ?_
     ·omega
     refine gt ?_;refine cm (fun hc => by cases hc) (fun _ => ?_);refine aa (aG ?_) ?_
     ·omega
     refine gt ?_;refine cm (fun hc => by cases hc) (fun _ => ?_);refine ah (ix _ _ H1) ?_;exact aq ⟨(), by rw [M9 (fun h => by have := h.2.2; omega)]; rfl, ae.to (by assumption)⟩
  | 1, _ =>
   refine aa (aG ?_) ?_
   ·omega
   refine gt ?_;refine cm (fun hc => by cases hc) (fun _ => ?_);refine aa (bk rfl) ?_;refine gt ?_;refine aa (F9 (fI)) ?_;refine gt ?_;refine cm (fun hc => ?_) (fun hc => ?_)
   ·have hc : aZ w = 1 := by simpa using hc
    refine ag (by assumption) (EP (aL w) 0 (by omega) (by omega)) fun _ _ _ => ?_;refine aa rfl ?_;refine aa rfl ?_;exact aq ⟨(), by rw [alT hc]; simp [JV], ae.to (by assumption)⟩
   ·have hc : ¬ aZ w = 1 := by simpa using hc
    refine aa (aG ?_) ?_
    ·omega
    refine gt ?_;refine cm (fun hc => by cases hc) (fun _ => ?_);refine ah (ix _ _ H1) ?_;exact aq ⟨(), by rw [alS hc]; rfl, ae.to (by assumption)⟩
  | 2, _ =>
   refine aa (aG ?_) ?_
   ·omega
   refine gt ?_;refine cm (fun hc => by cases hc) (fun _ => ?_);refine aa (aG ?_) ?_
   ·omega
   refine gt ?_;refine cm (fun hc => by cases hc) (fun _ => ?_);refine aa (bk rfl) ?_;refine gt ?_;refine aa (F9 (fI)) ?_;refine gt ?_;refine cm (fun hc => ?_) (fun hc => ?_)
   ·have hc : aZ w = 0 := by simpa using hc
    refine ag (by assumption) (EP (aL w) 2 (by omega) (by omega)) fun _ _ _ => ?_;refine aa rfl ?_;refine aa rfl ?_;refine aq ⟨(), ?_, ae.to (by assumption)⟩;rw [ac1 hc];simp [JV];omega
   ·have hc : ¬ aZ w = 0 := by simpa using hc
    refine ah (ix _ _ H1) ?_;exact aq ⟨(), by rw [aiO hc]; rfl, ae.to (by assumption)⟩
theorem AS (s : Int) : Sp kW [vi s] emp (fun _ : Unit => fw (8, s, 0)) (fun _ => emp) := by
 refine br (FC _) fun R H h => ?_
 repeat (first | refine bf ‹_› fun _ _ _ => ?_ | refine aJ ‹_› ?_ | refine cX ‹_› rfl rfl fun _ _ => ?_ | refine iz ?_)
 exact aq ⟨(), rfl, ae.to (by assumption)⟩
theorem wi (s i : Int) : Sp jP [vi s, vi i] emp (fun _ : Unit => fw (10, s, i)) (fun _ => emp) := by
 refine br (Gz _ _) fun R H h => ?_
 repeat (first | refine bf ‹_› fun _ _ _ => ?_ | refine aJ ‹_› ?_ | refine cX ‹_› rfl rfl fun _ _ => ?_ | refine iz ?_)
 exact aq ⟨(), rfl, ae.to (by assumption)⟩
theorem eG (k a b : Int) : Sp cz [vi k, vi a, vi b] emp (fun _ : Unit => fw (k, a, b)) (fun _ => emp) := by
 refine br (Ps _ _ _) fun R H h => ?_
 repeat (first | refine bf ‹_› fun _ _ _ => ?_ | refine aJ ‹_› ?_ | refine cX ‹_› rfl rfl fun _ _ => ?_ | refine iz ?_)
 exact aq ⟨(), rfl, ae.to (by assumption)⟩
def tab (t m : Nat) (sh sl : Nat) : SP := blk t (.cells false [vp m, vi sh, vi sl])
section
variable (t m : Nat) (sh sl : Nat) (μ : Mu) (who s i : Int)
theorem AT : Sp dL [vp t] (tab t m sh sl) (fun _ : Unit => vi sl) (fun _ => tab t m sh sl) := by
 refine br (s6 _) fun R H h => ?_;unfold tab at h ⊢
 repeat refine aj ‹_› ac rfl ?_
 exact aq ⟨(), rfl, ae.to (by assumption)⟩
theorem wh (hE : μ.N < 1099511627000) : Sp eA [vp t, vi who, vi s] (tab t m sh sl * bN m μ) (fun _ : Unit => vb (decide (μ.V (8, s, 0) = 0))) (fun _ => tab t m sh sl * bN m (μ.swp who (8, s, 0) 0 1)) := by
 refine br (uc _ _ _) fun R H h => ?_;unfold tab at h ⊢
 repeat refine aj ‹_› ac rfl ?_
 refine ag (by assumption) (AS s) fun _ _ _ => ?_
 repeat refine aH ‹_› ‹_› rfl ?_
 refine ag (by assumption) (Pe m μ who (8, s, 0) 0 1 (by omega)) fun _ _ _ => ?_;exact aq ⟨(), rfl, ae.to (by assumption)⟩
theorem yQ (hE : μ.N < 1099511627000) : Sp fh [vp t, vi who, vi s] (tab t m sh sl * bN m μ) (fun _ : Unit => .tuple #[]) (fun _ => tab t m sh sl * bN m ((μ.acc who 2 (8, s, 0)).put (8, s, 0) 0)) := by
 refine br (rt _ _ _) fun R H h => ?_;unfold tab at h ⊢
 repeat refine aj ‹_› ac rfl ?_
 refine ag (by assumption) (AS s) fun _ _ _ => ?_
 repeat refine aH ‹_› ‹_› rfl ?_
 refine ag (by assumption) (Ct m μ who (8, s, 0) 0 (by omega)) fun _ _ _ => ?_;exact aq ⟨(), rfl, ae.to (by assumption)⟩
theorem M2 (hE : μ.N < 1099511627000) : Sp iJ [vp t, vi who, vi s, vi i] (tab t m sh sl * bN m μ) (fun _ : Unit => .tuple #[]) (fun _ => tab t m sh sl * bN m ((μ.acc who 2 (10, s, i)).put (10, s, i) 0)) := by
 refine br (s4 _ _ _ _) fun R H h => ?_;unfold tab at h ⊢
 repeat refine aj ‹_› ac rfl ?_
 refine ag (by assumption) (wi s i) fun _ _ _ => ?_
 repeat refine aH ‹_› ‹_› rfl ?_
 refine ag (by assumption) (Ct m μ who (10, s, i) 0 (by omega)) fun _ _ _ => ?_;exact aq ⟨(), rfl, ae.to (by assumption)⟩
theorem MD (hE : μ.N < 1099511627000) : Sp io [vp t, vi who, vi s] (tab t m sh sl * bS m μ) (fun _ : Unit => vb (decide (μ.V (8, s, 0) = 0))) (fun _ => tab t m sh sl * bS m (μ.swp who (8, s, 0) 0 1)) := by
 refine br (yj _ _ _) fun R H h => ?_;unfold tab at h ⊢
 repeat refine aj ‹_› ac rfl ?_
 refine ag (by assumption) (eG 8 s 0) fun _ _ _ => ?_
 repeat refine aH ‹_› ‹_› rfl ?_
 refine ag (by assumption) (E0 m μ who (8, s, 0) 0 1 (by omega)) fun _ _ _ => ?_;exact aq ⟨(), rfl, ae.to (by assumption)⟩
theorem vU (hE : μ.N < 1099511627000) : Sp en [vp t, vi who, vi s] (tab t m sh sl * bS m μ) (fun _ : Unit => .tuple #[]) (fun _ => tab t m sh sl * bS m ((μ.acc who 2 (8, s, 0)).put (8, s, 0) 0)) := by
 refine br (t9 _ _ _) fun R H h => ?_;unfold tab at h ⊢
 repeat refine aj ‹_› ac rfl ?_
 refine ag (by assumption) (eG 8 s 0) fun _ _ _ => ?_
 repeat refine aH ‹_› ‹_› rfl ?_
 refine ag (by assumption) (tQ m μ who (8, s, 0) 0 (by omega)) fun _ _ _ => ?_;exact aq ⟨(), rfl, ae.to (by assumption)⟩
theorem Wf (hE : μ.N < 1099511627000) : Sp jO [vp t, vi who, vi s, vi i] (tab t m sh sl * bS m μ) (fun _ : Unit => .tuple #[]) (fun _ => tab t m sh sl * bS m ((μ.acc who 2 (10, s, i)).put (10, s, i) 0)) := by
 refine br (vR _ _ _ _) fun R H h => ?_;unfold tab at h ⊢
 repeat refine aj ‹_› ac rfl ?_
 refine ag (by assumption) (eG 10 s i) fun _ _ _ => ?_
 repeat refine aH ‹_› ‹_› rfl ?_
 refine ag (by assumption) (tQ m μ who (10, s, i) 0 (by omega)) fun _ _ _ => ?_;exact aq ⟨(), rfl, ae.to (by assumption)⟩
def gP (v : Nat) : Value := if v = 0 then .tuple #[vi 0, vi 0, vb false] else .tuple #[vi ((v / 4294967296 : Nat) - 1), vi (v % 4294967296 : Nat), vb true]
theorem s8 (hE : μ.N < 1099511627000) (hV : μ.V (10, s, i) < 18446744073709551616) :
 Sp eC [vp t, vi who, vi s, vi i] (tab t m sh sl * bN m μ) (fun _ : Unit => gP (μ.V (10, s, i))) (fun _ => tab t m sh sl * bN m (μ.acc who 1 (10, s, i))) := by
 refine br (ud _ _ _ _) fun R H h => ?_;unfold tab at h ⊢
 repeat refine aj ‹_› ac rfl ?_
 refine ag (by assumption) (wi s i) fun _ _ _ => ?_
 repeat refine aH ‹_› ‹_› rfl ?_
 refine ag (by assumption) (EJ m μ who (10, s, i) (by omega)) fun _ _ _ => ?_;refine aa (ahP (b := 0)) ?_;refine cm (fun hc => ?_) (fun hc => ?_)
 ·have hc : μ.V (10, s, i) = 0 := by simpa using hc
  refine aq ⟨(), by rw [gP, if_pos hc], ae.to (by assumption)⟩
 ·have hc : ¬ μ.V (10, s, i) = 0 := by simpa using hc
  refine aa (alQ) ?_;refine aa (jx (by omega)) ?_;refine aa (o4 (by omega) (by omega)) ?_;refine aa (ak1 hV) ?_;refine aa (jx (by omega)) ?_;refine aq ⟨(), by rw [gP, if_neg hc], ae.to (by assumption)⟩
theorem Hw (hE : μ.N < 1099511627000) (hV : μ.V (10, s, i) < 18446744073709551616) :
 Sp kH [vp t, vi who, vi s, vi i] (tab t m sh sl * bS m μ) (fun _ : Unit => gP (μ.V (10, s, i))) (fun _ => tab t m sh sl * bS m (μ.acc who 1 (10, s, i))) := by
 refine br (yl _ _ _ _) fun R H h => ?_;unfold tab at h ⊢
 repeat refine aj ‹_› ac rfl ?_
 refine ag (by assumption) (eG 10 s i) fun _ _ _ => ?_
 repeat refine aH ‹_› ‹_› rfl ?_
 refine ag (by assumption) (sR m μ who (10, s, i) (by omega)) fun _ _ _ => ?_;refine aa (ahP (b := 0)) ?_;refine cm (fun hc => ?_) (fun hc => ?_)
 ·have hc : μ.V (10, s, i) = 0 := by simpa using hc
  refine aq ⟨(), by rw [gP, if_pos hc], ae.to (by assumption)⟩
 ·have hc : ¬ μ.V (10, s, i) = 0 := by simpa using hc
  refine aa (alJ hV) ?_;refine aa (jx (by omega)) ?_;refine aa (o4 (by omega) (by omega)) ?_;refine aa (alL) ?_;refine aa (jx (by omega)) ?_;refine aq ⟨(), by rw [gP, if_neg hc], ae.to (by assumption)⟩
end
def eJ (v n : Int) : Int := (v % 18446744073709551616) % n
theorem gH {v n : Int} (h : 0 < n) : 0 ≤ eJ v n ∧ eJ v n < n := ⟨Int.emod_nonneg _ (by omega), Int.emod_lt_of_pos _ h⟩
theorem eE (v n : Int) (h0 : 0 < n) (h1 : n < 9223372036854775808) : Sp bF [vi v, vi n] emp (fun _ : Unit => vi (eJ v n)) (fun _ => emp) := by
 refine br (Mw _ _) fun R H h => ?_
 have e1 : cN (some .u64) (vi v) = some (vu (v % 18446744073709551616).toNat) := by
  simp only [cN];rw [FP];have : 0 ≤ v % 18446744073709551616 := Int.emod_nonneg _ (by omega);show _ = some (Value.int .u64 (((v % 18446744073709551616).toNat : Nat) : Int));rw [Int.toNat_of_nonneg this]
 refine aa (e1) ?_;refine aa (eF (by omega) (by omega)) ?_;refine aa (kp (by omega)) ?_;have hm := gH (v := v) h0
 have e2 : (((v % 18446744073709551616).toNat % n.toNat : Nat) : Int) = eJ v n := by
  have : 0 ≤ v % 18446744073709551616 := Int.emod_nonneg _ (by omega);unfold eJ;rw [Int.natCast_emod, Int.toNat_of_nonneg this, Int.toNat_of_nonneg (by omega)]
 refine aa (jx (by omega)) ?_;rw [e2];exact aq ⟨(), rfl, ae.to (by assumption)⟩
structure eg where
 sh : Int
 sl : Int
 wk : Int
 wd : Int
 un : Nat
abbrev eg.cells (c : eg) : List Value := [vi c.sh, vi c.sl, vi c.wk, vi c.wd, vu c.un]
structure Cl where
 op : Int
 flow : Int
 a : Int
 b : Int
abbrev Cl.cells (x : Cl) : List Value := [vi x.op, vi x.flow, vi x.a, vi x.b]
instance : Enc Cl.cells 4 := ⟨fun _ => rfl, fun _ => rfl, by omega⟩
structure Sv where
 a : Option Addr
 n : Nat
 c : Nat
abbrev Sv.v (s : Sv) : Value := .slice s.a s.n s.c
abbrev al9 (s : Sv) : List Value := [.slice s.a s.n s.c]
instance : Enc al9 1 := ⟨fun _ => rfl, fun _ => rfl, by omega⟩
def bZ (c : eg) : Bool := decide (1 ≤ c.sh ∧ c.sh ≤ 4 ∧ 1 ≤ c.sl ∧ c.sl ≤ 4 ∧ 1 ≤ c.wk ∧ c.wk ≤ 6 ∧ 0 ≤ c.wd ∧ c.wd ≤ 40 ∧ 1 ≤ c.un ∧ c.un ≤ 4611686018427387904)
theorem bo {c : eg} : bZ c = true ↔ (1 ≤ c.sh ∧ c.sh ≤ 4 ∧ 1 ≤ c.sl ∧ c.sl ≤ 4 ∧ 1 ≤ c.wk ∧ c.wk ≤ 6 ∧ 0 ≤ c.wd ∧ c.wd ≤ 40 ∧ 1 ≤ c.un ∧ c.un ≤ 4611686018427387904) := by unfold bZ; exact decide_eq_true_iff
theorem mF {c : eg} (h : ¬ (1 ≤ c.sh ∧ c.sh ≤ 4 ∧ 1 ≤ c.sl ∧ c.sl ≤ 4 ∧ 1 ≤ c.wk ∧ c.wk ≤ 6 ∧ 0 ≤ c.wd ∧ c.wd ≤ 40 ∧ 1 ≤ c.un ∧ c.un ≤ 4611686018427387904)) : bZ c = false := by unfold bZ; exact dP h
theorem ig (x a b : Int) : Sp fQ [vi x, vi a, vi b] emp (fun _ : Unit => vb (decide (a ≤ x ∧ x ≤ b))) (fun _ => emp) := by
 refine br (Bx _ _ _) fun R H h => ?_
 by_cases h1 : a ≤ x
 ·refine aa (r7 h1) ?_
  refine gs ?_
  by_cases h2 : x ≤ b
  ·refine aa (aaH h2) ?_
   refine gs ?_;rw [dj ⟨h1, h2⟩];exact aq ⟨(), rfl, ae.to (by assumption)⟩
  ·refine aa (aaG h2) ?_
   refine gs ?_;rw [dP (fun h => h2 h.2)];exact aq ⟨(), rfl, ae.to (by assumption)⟩
 ·refine aa (mV h1) ?_
  refine gs ?_;rw [dP (fun h => h1 h.1)];exact aq ⟨(), rfl, ae.to (by assumption)⟩
theorem Mk (c : eg) : Sp oM [.agg (eg.cells c).toArray] emp (fun _ : Unit => vb (bZ c)) (fun _ => emp) := by
 refine br (EB _) fun R H h => ?_;refine aS h fun b H1 h1 => ?_;refine aj h1 aA rfl ?_;refine ag h1 (ig c.sh 1 4) fun _ K0 k0 => ?_
 by_cases g0 : (1 : Int) ≤ c.sh ∧ c.sh ≤ 4
 case neg =>
  rw [dP g0];refine gs ?_;rw [mF (by omega)];exact aq ⟨(), rfl, ae.to (by assumption)⟩
 rw [dj g0];refine gs ?_;refine aj k0 aA rfl ?_;refine gs ?_;refine ag k0 (ig c.sl 1 4) fun _ K1 k1 => ?_
 by_cases g1 : (1 : Int) ≤ c.sl ∧ c.sl ≤ 4
 case neg =>
  rw [dP g1];refine gs ?_;rw [mF (by omega)];exact aq ⟨(), rfl, ae.to (by assumption)⟩
 rw [dj g1];refine gs ?_;refine aj k1 aA rfl ?_;refine gs ?_;refine ag k1 (ig c.wk 1 6) fun _ K2 k2 => ?_
 by_cases g2 : (1 : Int) ≤ c.wk ∧ c.wk ≤ 6
 case neg =>
  rw [dP g2];refine gs ?_;rw [mF (by omega)];exact aq ⟨(), rfl, ae.to (by assumption)⟩
 rw [dj g2];refine gs ?_;refine aj k2 aA rfl ?_;refine gs ?_;refine ag k2 (ig c.wd 0 40) fun _ K3 k3 => ?_
 by_cases g3 : (0 : Int) ≤ c.wd ∧ c.wd ≤ 40
 case neg =>
  rw [dP g3];refine gs ?_;rw [mF (by omega)];exact aq ⟨(), rfl, ae.to (by assumption)⟩
 rw [dj g3];refine gs ?_;refine aj k3 aA rfl ?_;refine gs ?_
 by_cases g4 : (1 : Int) ≤ c.un
 case neg =>
  refine aa (mV g4) ?_;refine gs ?_;rw [mF (by omega)];exact aq ⟨(), rfl, ae.to (by assumption)⟩
 refine aa (r7 g4) ?_;refine gs ?_;refine aj k3 aA rfl ?_;refine gs ?_
 by_cases g5 : (c.un : Int) ≤ 4611686018427387904
 case neg =>
  refine aa (aaG g5) ?_;refine gs ?_;rw [mF (by omega)];exact aq ⟨(), rfl, ae.to (by assumption)⟩
 refine aa (aaH g5) ?_;refine gs ?_;rw [bo.2 (by omega)];exact aq ⟨(), rfl, ae.to (by assumption)⟩
theorem FO (w : Int) : Sp qj [vi w] emp (fun x : Int => vi x) (fun _ => emp) := by
 refine br (GA _) fun R H h => ?_;refine aa (lx) ?_;refine aa (ly) ?_;exact aq ⟨_, rfl, h⟩
theorem W2 (w : Int) : Sp sE [vi w] emp (fun b : Nat => vp b) (fun _ => emp) := by
 refine br (KE _) fun R H h => ?_;refine ag h (FO w) fun x H1 h1 => ?_;refine yS h1 fun mb H2 h2 => ?_;refine Nb rfl ?_;refine aS h2 fun b H3 h3 => ?_;exact aq ⟨b, rfl, h3.to⟩
theorem Z3 : Sp vq [] emp (fun b : Nat => vp b) (fun _ => emp) := by
 refine br L5 fun R H h => ?_;refine yS h fun mb H2 h2 => ?_;refine iz ?_;refine aS h2 fun b H3 h3 => ?_;exact aq ⟨b, rfl, h3.to⟩
theorem WG (w : Int) : Sp sC [vi w] emp (fun b : Nat => vp b) (fun _ => emp) := by
 refine br (Kv _) fun R H h => ?_;refine ag h (W2 w) fun x H1 h1 => ?_;refine ag h1 Z3 fun y H2 h2 => ?_;refine iz ?_;refine aS h2 fun b H3 h3 => ?_;exact aq ⟨b, rfl, h3.to⟩
theorem abA (m : Nat) (s : Int) : Sp vt [vp m, vi s] emp (fun b : Nat => vp b) (fun _ => emp) := by
 refine br (Mx _ _) fun R H h => ?_;refine aa (lx) ?_;refine aa (ly) ?_;refine yS h fun mb H2 h2 => ?_;refine yS h2 fun mc H3 h3 => ?_;refine iz ?_;refine aS h3 fun b H4 h4 => ?_;exact aq ⟨b, rfl, h4.to⟩
structure Lf where
 k : Int
 i : Int
 b : Bool
abbrev Lf.cells (x : Lf) : List Value := [vw x.k, vi x.i, vb x.b]
instance : Enc Lf.cells 3 := ⟨fun _ => rfl, fun _ => rfl, by omega⟩
def FE (t : Nat) (lv : Value) (s : Nat) (nv : Value) (m : List Int) : SP := blk t (.cells false [lv, vi s, nv]) * ts 1 l5 nv m
theorem acV (n : Int) : Sp vz [vi n] emp (fun b : Nat => vp b) (fun _ => emp) := by
 refine br (M6 _) fun R H h => ?_;refine aa (lx) ?_;refine aa (ly) ?_;obtain ⟨k, hk⟩ : ∃ k : Nat, min (max n 1) 16 = k := ⟨(min (max n 1) 16).toNat, by omega⟩;rw [hk]
 have hk1 : 1 ≤ k := by omega
 have hk16 : k ≤ 16 := by omega
 refine Qi (enc := Lf.cells) (⟨0, 0, false⟩ : Lf) h rfl (by unfold room; omega) (by omega) fun lb H1 h1 => ?_;refine iz ?_;refine aS h1 fun t H2 h2 => ?_;refine ah (FG _ _ _ H2) ?_
 -- the nodes
 have nodes : ∀ (s : Nat) (H : AH), s ≤ 32 → ae (FE t (vs lb k 3) s (.slice none 0 0) [] * R) H → wp (tc (.pointer none) (vp t) H) fun v' H' => ∃ b : Nat, v' = vp b ∧ ae (emp * R) H' := by
  intro s H hs h;refine ah (FH _ _ H) ?_;unfold FE at h;refine aj h ac rfl ?_;refine aa (GK (by omega) (by omega)) ?_;refine ah (FJ _ _ _ _ H) ?_
  have loop : ∀ (d i : Nat) (nv : Value) (m : List Int) (H : AH), i + d = 2 * s → m.length = i → ae (blk t (.cells false [vs lb k 3, vi s, nv]) * ts 1 l5 nv m * R) H → wp (oB (.pointer none) (vp t) (vi (2 * (s : Int))) (vi i) H) fun v' H' => ∃ b : Nat, v' = vp b ∧ ae (emp * R) H' := by
   intro d
   induction d with
   | zero =>
    intro i nv m H hi hm h;refine ah (td _ _ _ _ H) ?_;refine aa (ch (by omega)) ?_;refine gs ?_;refine ah (Af _ _ H) ?_;refine ah (FI _ _ H) ?_;exact aq ⟨t, rfl, h.to⟩
   | succ d ih =>
    intro i nv m H hi hm h;refine ah (td _ _ _ _ H) ?_;refine aa (cK (by omega)) ?_;refine gs ?_;refine ah (FK _ _ _ _ H) ?_;refine aj h ac rfl ?_;refine Nq h fun b0 H3 h3 => ?_;refine iL (-1 : Int) h3 rfl ?_ (by omega) fun a c H4 h4 => ?_
    ·unfold room; omega
    refine bi h4 ac rfl rfl fun H5 h5 => ?_;refine ah (FL _ _ _ _ H5) ?_;refine aa (aM (by omega) (by omega)) ?_;refine ih (i + 1) (.slice a (m.length + 1) c) (m ++ [-1]) H5 (by omega) (by simp; omega) h5.to
  exact loop (2 * s) 0 (.slice none 0 0) [] H (by omega) rfl h
 -- the size
 have size : ∀ (d s : Nat) (H : AH), 16 ≤ s + d → 1 ≤ s → s ≤ 32 → ae (FE t (vs lb k 3) s (.slice none 0 0) [] * R) H → wp (mj (vi k) (.pointer none) (vp t) H) fun v' H' => ∃ b : Nat, v' = vp b ∧ ae (emp * R) H' := by
  intro d
  induction d with
  | zero =>
   intro s H hd hs1 hs h;refine ah (re _ _ _ H) ?_;have h' := h;unfold FE at h';refine aj h' ac rfl ?_;refine aa (ch (by omega)) ?_;refine gs ?_;refine ah (oA _ _ H) ?_;exact nodes s H hs h
  | succ d ih =>
   intro s H hd hs1 hs h;refine ah (re _ _ _ H) ?_;have h' := h;unfold FE at h';refine aj h' ac rfl ?_
   by_cases hlt : (s : Int) < k
   ·refine aa (cK hlt) ?_
    refine gs ?_;refine ah (B7 _ _ _ H) ?_;refine aj h' ac rfl ?_;refine aa (GK (by omega) (by omega)) ?_;refine bi h' ac rfl rfl fun H3 h3 => ?_;refine ih (s * 2) H3 (by omega) (by omega) (by omega) ?_;unfold FE;rw [show (((s * 2 : Nat) : Int)) = (s : Int) * 2 from by omega];exact h3.to
   ·refine aa (ch hlt) ?_
    refine gs ?_;refine ah (oA _ _ H) ?_;exact nodes s H hs h
 refine size 16 1 H2 (by omega) (by omega) (by omega) ?_;unfold FE;have h3 := fX 1 l5 h2;exact h3.to
abbrev qA (b : Nat) : List Value := [vp b]
instance : Enc qA 1 := ⟨fun _ => rfl, fun _ => rfl, by omega⟩
theorem Wd (n w : Int) : Sp sA [vi n, vi w] emp (fun b : Nat => vp b) (fun _ => emp) := by
 refine br (J2 _ _) fun R H h => ?_;refine aa (lx) ?_;refine aa (ly) ?_;obtain ⟨k, hk⟩ : ∃ k : Nat, min (max n 1) 16 = k := ⟨(min (max n 1) 16).toNat, by omega⟩;rw [hk]
 have hk16 : k ≤ 16 := by omega
 refine ag h (acV k) fun tb H1 h1 => ?_;refine iz ?_;refine aS h1 fun q H2 h2 => ?_;refine ah (BE _ _ _ _ H2) ?_;refine ah (BG _ _ _ _ _ H2) ?_
 have loop : ∀ (d i : Nat) (nv : Value) (m : List Nat) (H : AH), i + d = k → m.length = i → ae (blk q (.cells false [nv, vp tb]) * ts 1 qA nv m * R) H → wp (mf (vi w) (.pointer none) (vp q) (vi k) (vi i) H) fun v' H' => ∃ b : Nat, v' = vp b ∧ ae (emp * R) H' := by
  intro d
  induction d with
  | zero =>
   intro i nv m H hi hm h;refine ah (qR _ _ _ _ _ H) ?_;refine aa (ch (by omega)) ?_;refine gs ?_;refine ah (xV _ _ H) ?_;refine ah (BF _ _ H) ?_;exact aq ⟨q, rfl, h.to⟩
  | succ d ih =>
   intro i nv m H hi hm h;refine ah (qR _ _ _ _ _ H) ?_;refine aa (cK (by omega)) ?_;refine gs ?_;refine ah (BH _ _ _ _ _ H) ?_;refine bz ac ?_;refine aR h rfl ?_;refine ag h (WG w) fun sb H3 h3 => ?_;refine aH h3 h rfl ?_;refine Nq h3 fun b0 H4 h4 => ?_;refine iL (sb : Nat) h4 rfl ?_ (by omega) fun a c H5 h5 => ?_
   ·unfold room; omega
   refine bi h5 ac rfl rfl fun H6 h6 => ?_;refine ah (BI _ _ _ _ _ H6) ?_;refine aa (aM (by omega) (by omega)) ?_;exact ih (i + 1) (.slice a (m.length + 1) c) (m ++ [sb]) H6 (by omega) (by simp; omega) h6.to
 refine loop k 0 (.slice none 0 0) [] H2 (by omega) rfl ?_;have h3 := fX 1 qA h2;exact h3.to
theorem XQ (c : eg) : Sp vn [.agg (eg.cells c).toArray] emp (fun b : Nat => vp b) (fun _ => emp) := by
 refine br (Lp _) fun R H h => ?_;refine aS h fun cb H1 h1 => ?_;refine aj h1 aA rfl ?_;refine aj h1 aA rfl ?_;refine ag h1 (Wd c.sh c.wd) fun q H2 h2 => ?_;refine yS h2 fun mb H3 h3 => ?_;refine yS h3 fun mc H4 h4 => ?_;refine iz ?_;refine aS h4 fun b H5 h5 => ?_;exact aq ⟨b, rfl, h5.to⟩
theorem PQ {cl : TCls} {w : Nat} (n : Nat) (h : n ≠ 0) : ap cl .rem (vu w) (.int .u64 (n : Int)) = some (vu (w % n)) := kp h
section
variable {R : SP} {H : AH}
theorem XI {b2 b3 : Nat} {y y2 : Cl} {P : SP} (h : ae (blk b3 (.cells false (Cl.cells y)) * (blk b2 (.cells false (Cl.cells y2)) * P)) H) : wp (dv (vp b2) (vp b3) H) fun v' H' => ∃ y : Cl, v' = .agg (Cl.cells y).toArray ∧ ae P H' := by
 refine ah (BB _ _ H) ?_;refine aJ h ?_;refine cX h rfl rfl fun H2 h2 => ?_;refine aJ h2 ?_;exact aq ⟨y, rfl, h2.to⟩
end
theorem Hv (x : Cl) : Sp nY [.agg (Cl.cells x).toArray] emp (fun y : Cl => .agg (Cl.cells y).toArray) (fun _ => emp) := by
 refine aP fun R H h => ?_;rw [kR] at h;refine bg (fun r => J1 _ H) ?_;refine aS h fun b1 H1 h1 => ?_;refine bf h1 fun b2 H2 h2 => ?_;refine aj h2 aA rfl ?_;refine ag h2 (eE x.flow 23 (by omega) (by omega)) fun _ H3 h3 => ?_;simp only [kR];refine aa (fI) ?_;refine cm (fun _ => ?_) (fun _ => ?_)
 ·refine aJ h3 ?_
  refine cX h3 rfl rfl fun H4 h4 => ?_;refine aJ h4 ?_;exact aq ⟨x, rfl, h4.to⟩
 refine aj h3 aA rfl ?_;refine ag h3 (eE x.flow 5 (by omega) (by omega)) fun _ H4 h4 => ?_;refine iz ?_;refine bf h4 fun b3 H5 h5 => ?_;refine cX h5 rfl rfl fun H6 h6 => ?_
 -- what each kind ends with
 have fin : ∀ (y : Cl) {H7 : AH}, ae (blk b3 (.cells false (Cl.cells y)) * (blk b2 (.cells false (Cl.cells ⟨0, 0, 0, 0⟩)) * R)) H7 → wp (dv (vp b2) (vp b3) H7) fun v' H' => ∃ y : Cl, v' = .agg (Cl.cells y).toArray ∧ ae R H' := fun y {H7} h7 => XI (y2 := ⟨0, 0, 0, 0⟩) h7;refine ah (BA _ _ _ H6) ?_;refine aj h6 aA rfl ?_;refine ag h6 (eE x.op 10 (by omega) (by omega)) fun _ H7 h7 => ?_
 generalize eJ x.op 10 = o
 refine ah (BC _ _ _ _ H7) ?_;refine aa (fI) ?_;refine ah (BD _ _ _ _ _ H7) ?_;refine cm (fun _ => ?_) (fun _ => ?_)
 ·refine aj h7 aA rfl ?_
  refine ag h7 (eE x.a 5 (by omega) (by omega)) fun _ H8 h8 => ?_;have m1 := gH (v := x.a) (n := 5) (by omega);refine aa (aM (by omega) (by omega)) ?_;refine bz aA ?_;refine aR h8 rfl ?_;refine aH h7 h8 rfl ?_;refine ag h8 (eE x.b 3 (by omega) (by omega)) fun _ H9 h9 => ?_;have m2 := gH (v := x.b) (n := 3) (by omega);refine aa (aM (by omega) (by omega)) ?_;refine bi h9 aA rfl rfl fun H10 h10 => ?_;refine bi h10 aA rfl rfl fun H11 h11 => ?_;refine bi h11 aA rfl rfl fun H12 h12 => ?_;exact fin ⟨1, eJ x.flow 5, 1 + eJ x.a 5, 1 + eJ x.b 3⟩ h12.to
 refine aa (fI) ?_;refine ah (zD _ _ _ _ _ H7) ?_;refine cm (fun _ => ?_) (fun _ => ?_)
 ·refine bi h7 aA rfl rfl fun H8 h8 => ?_
  exact fin ⟨2, eJ x.flow 5, 0, 0⟩ h8.to
 have tail : ∀ q : Bool, wp (kX (vp b1) (vp b2) (vp b3) (vi o) (vb q) H7) fun v' H' => ∃ y : Cl, v' = .agg (Cl.cells y).toArray ∧ ae R H' := by
  intro q;refine ah (zE _ _ _ _ _ H7) ?_;refine cm (fun _ => ?_) (fun _ => ?_)
  ·refine iz ?_
   refine cX h7 rfl rfl fun H8 h8 => ?_;exact fin ⟨4, 0, 0, 0⟩ h8.to
  refine aa (fI) ?_;refine cm (fun _ => ?_) (fun _ => ?_)
  ·refine aj h7 aA rfl ?_
   refine ag h7 (eE x.a 6 (by omega) (by omega)) fun _ H8 h8 => ?_;refine iz ?_;refine cX h8 rfl rfl fun H9 h9 => ?_;exact fin ⟨5, 0, eJ x.a 6, 0⟩ h9.to
  refine aa (fI) ?_;refine cm (fun _ => ?_) (fun _ => ?_)
  ·refine iz ?_
   refine cX h7 rfl rfl fun H8 h8 => ?_;exact fin ⟨6, 0, 0, 0⟩ h8.to
  refine aj h7 aA rfl ?_;refine ag h7 (eE x.a 9 (by omega) (by omega)) fun _ H8 h8 => ?_;have m1 := gH (v := x.a) (n := 9) (by omega);refine aa (aM (by omega) (by omega)) ?_;refine bz aA ?_;refine aR h8 rfl ?_;refine aH h7 h8 rfl ?_;refine ag h8 (eE x.b 1000 (by omega) (by omega)) fun _ H9 h9 => ?_;refine bi h9 aA rfl rfl fun H10 h10 => ?_;refine bi h10 aA rfl rfl fun H11 h11 => ?_;refine bi h11 aA rfl rfl fun H12 h12 => ?_;refine aj h12 aA rfl ?_;refine ag h12 (eE x.a 13 (by omega) (by omega)) fun _ H13 h13 => ?_;refine aa (fI) ?_;refine cm (fun _ => ?_) (fun _ => ?_)
  ·refine aj h13 aA rfl ?_
   refine ag h13 (eE x.a 65536 (by omega) (by omega)) fun _ H14 h14 => ?_;have m2 := gH (v := x.a) (n := 65536) (by omega);refine aa (aM (by omega) (by omega)) ?_;refine bi h14 aA rfl rfl fun H15 h15 => ?_;exact fin ⟨3, eJ x.flow 5, 1 + eJ x.a 65536, eJ x.b 1000⟩ h15.to
  ·exact fin ⟨3, eJ x.flow 5, 1 + eJ x.a 9, eJ x.b 1000⟩ h13.to
 refine aa (fI) ?_;refine cm (fun _ => tail _) (fun _ => ?_);refine aa (fI) ?_;exact tail _
structure Pk where
 flow : Int
 len : Int
 mark : Int
abbrev Pk.cells (x : Pk) : List Value := [vi x.flow, vi x.len, vi x.mark]
instance : Enc Pk.cells 3 := ⟨fun _ => rfl, fun _ => rfl, by omega⟩
structure Ob where
 flow : Int
 most : Int
 r : Nat
structure Pt where
 step : Int
 who : Int
 place : Int
 e : Int
abbrev ef (e : Int) : List Value := [vi e, .slice none 0 0, vi 0, vw 0]
abbrev Pt.cells (x : Pt) : List Value := [vi x.step, vi x.who, vi x.place, vi x.e, .slice none 0 0, vi 0, vw 0]
instance : Enc Pt.cells 7 := ⟨fun _ => rfl, fun _ => rfl, by omega⟩
structure aN where
 c : eg
 μ : Mu
 obs : List (Ob × List Pk)
 nx : Int → Option Nat
 places : Int → Option Int
 pts : List Pt
def bP (n : Int) : Nat := (min (max n 1) 8).toNat
theorem mp (n : Int) : 1 ≤ bP n ∧ bP n ≤ 8 ∧ (bP n : Int) = min (max n 1) 8 := by unfold bP; omega
abbrev FW : Pk := ⟨0, 0, 0⟩
abbrev Nm (k : Int) : Value := vi k
instance : KeyE .int Nm where
 eq a b := by
  simp only [lr, Nm, if_true]
  congr 1
 ok a := rfl
def cH (m i rp : Nat) (cs : List Pk) : SP := ex fun cv : Value => blk rp (.cells false [vp m, vi i, cv]) * ts 3 Pk.cells cv cs
def nF (m : Nat) : Nat → List (Nat × List Pk) → SP
 | _, [] => emp
 | i, p :: ps => cH m i p.1 p.2 * nF m (i + 1) ps
theorem AP (m : Nat) : ∀ (ps : List (Nat × List Pk)) (i : Nat) (q : Nat × List Pk), nF m i (ps ++ [q]) = nF m i ps * cH m (i + ps.length) q.1 q.2 := by
 intro ps
 induction ps with
 | nil => intro i q; show cH m i q.1 q.2 * emp = emp * cH m (i + 0) q.1 q.2; rw [j2, kR]; rfl
 | cons p ps ih =>
  intro i q;show cH m i p.1 p.2 * nF m (i + 1) (ps ++ [q]) = cH m i p.1 p.2 * nF m (i + 1) ps * _;rw [ih, ai, List.length_cons, show i + 1 + ps.length = i + (ps.length + 1) from by omega]
abbrev F6 (x : Ob × Nat) : List Value := [vi x.1.flow, vi x.1.most, vu x.1.r, vp x.2]
instance : Enc F6 4 := ⟨fun _ => rfl, fun _ => rfl, by omega⟩
structure PIds where
 m : Nat
 ib : Nat
 tb : Nat
 po : Nat
 co : Nat
 ov : Value
 pm : Nat
 pv : Value
 nm : Nat
 rp : List Nat
def l6 (ib m nm : Nat) (c : eg) (nx : Int → Option Nat) : SP :=
 blk ib (.cells false [vp m, vi c.sh, .map (some nm), .func (.func bB) #[vi 9] #[], .func (.func bB) #[vi 14] #[]]) * Xb Nm nm (fun k => (nx k).map fun n => vu n)
def aE (p : Nat) (g : PIds) (σ : aN) : SP :=
 blk p (.cells false [vp g.m, vp g.ib, vp g.tb, vp g.po, vp g.co, vi σ.c.sh, vi σ.c.sl, vi σ.c.wk, vi σ.c.wd, vu σ.c.un, g.ov, .map (some g.pm), g.pv]) *
 (bN g.m σ.μ * (l6 g.ib g.m g.nm σ.c σ.nx * (tab g.tb g.m σ.c.sh.toNat σ.c.sl.toNat * (ts 4 F6 g.ov ((σ.obs.map fun x => x.1).zip g.rp) * (nF g.m 0 (g.rp.zip (σ.obs.map fun x => x.2)) *
 (Xb Nm g.pm (fun k => (σ.places k).map fun n => vi n) * ts 7 Pt.cells g.pv σ.pts))))))
def fC (p : Nat) (σ : aN) : SP := ex fun g : PIds => pu (g.rp.length = σ.obs.length) * aE p g σ
theorem oc {p : Nat} {σ : aN} {R : SP} {H : AH} (h : ae (fC p σ * R) H) : ∃ g : PIds, g.rp.length = σ.obs.length ∧ ae (aE p g σ * R) H := by
 obtain ⟨g, h1⟩ := ae.ex.1 h;rw [ai, ae.pu] at h1;exact ⟨g, h1⟩
theorem qm {p : Nat} {σ : aN} {R : SP} {H : AH} (g : PIds) (hl : g.rp.length = σ.obs.length) (h : ae (aE p g σ * R) H) : ae (fC p σ * R) H :=
 ae.ex.2 ⟨g, by rw [ai]; exact ae.pu.2 ⟨hl, h⟩⟩
abbrev aN.new (c : eg) : aN := ⟨c, ⟨fun _ => 0, [], 0⟩, [], fun _ => none, fun _ => none, []⟩
theorem aaR : Sp zA [] emp (fun b : Nat => vp b) (fun b => bN b ⟨fun _ => 0, [], 0⟩) := by
 refine br O8 fun R H h => ?_;refine yS h fun mb H2 h2 => ?_;refine iz ?_;refine aS h2 fun b H3 h3 => ?_;refine aq ⟨b, rfl, ae.ex.2 ⟨(mb, .slice none 0 0, [], [], 0), ?_⟩⟩;rw [ai, ae.pu];refine ⟨⟨.nil, fun _ => rfl, bI _⟩, ?_⟩;have := Tj 5 h3;show ae (blk b (.cells false [.map (some mb), .slice none 0 0]) * (blk mb (.map [] 0) * sl 5 (.slice none 0 0) 0 []) * R) H3;exact this.to
theorem OW (m : Nat) (c : eg) (hc : bZ c = true) : Sp ss [vp m, vi c.sh] emp (fun b : Nat => vp b) (fun b => ex fun nm : Nat => l6 b m nm c fun _ => none) := by
 have hc := bo.1 hc;refine br (JG _ _) fun R H h => ?_;refine aa (lx) ?_;refine aa (ly) ?_;rw [show min (max c.sh 1) 4 = c.sh from by omega];refine yS h fun mb H2 h2 => ?_;refine iz ?_;refine aS h2 fun b H3 h3 => ?_;refine aq ⟨b, rfl, ae.ex.2 ⟨mb, ?_⟩⟩;unfold l6;have h4 : ae (blk mb (.map [] 0) * (blk b (.cells false [vp m, vi c.sh, .map (some mb), .func (.func bB) #[vi 9] #[], .func (.func bB) #[vi 14] #[]]) * (emp * R))) H3 := h3.to;have h5 := SK Nm h4;show ae (blk b (.cells false [vp m, vi c.sh, .map (some mb), .func (.func bB) #[vi 9] #[], .func (.func bB) #[vi 14] #[]]) * Xb Nm mb (fun _ => none) * R) H3;exact h5.to
theorem Qd (m : Nat) (c : eg) (hc : bZ c = true) : Sp sD [vp m, vi c.sh, vi c.sl] emp (fun b : Nat => vp b) (fun b => tab b m c.sh.toNat c.sl.toNat) := by
 have hc := bo.1 hc;refine br (KA _ _ _) fun R H h => ?_;refine aa (lx) ?_;refine aa (ly) ?_;refine aa (lx) ?_;refine aa (ly) ?_;rw [show min (max c.sh 1) 4 = ((c.sh.toNat : Nat) : Int) from by omega, show min (max c.sl 1) 4 = ((c.sl.toNat : Nat) : Int) from by omega];refine iz ?_;refine aS h fun b H3 h3 => ?_;exact aq ⟨b, rfl, by unfold tab; exact h3.to⟩
theorem Pi (c : eg) (hc : bZ c = true) : Sp sx [.agg (eg.cells c).toArray] emp (fun b : Nat => .tuple #[vp b, vi 0]) (fun b => fC b (aN.new c)) := by
 refine br (JX _) fun R H h => ?_;refine aS h fun cb H1 h1 => ?_;refine aJ h1 ?_;refine ag h1 (Mk c) fun _ H2 h2 => ?_;rw [hc];refine gs ?_;rw [Bool.not_true];refine gs ?_;refine ag h2 aaR fun m H3 h3 => ?_;refine aj h3 aA rfl ?_;refine ag h3 (OW m c hc) fun ib H4 h4 => ?_;obtain ⟨nm, h4b⟩ := ae.ex.1 h4;refine bz aA ?_;refine aR h4b rfl ?_;refine aH h3 h4b rfl ?_;refine bz aA ?_;refine aR h4b rfl ?_;refine aH h3 h4b rfl ?_;refine ag h4b (Qd m c hc) fun tb H5 h5 => ?_;refine bz aA ?_;refine aR h5 rfl ?_;refine aH h3 h5 rfl ?_;refine aH h4b h5 rfl ?_;refine ag h5 (abA m c.wk) fun pb H6 h6 => ?_;refine aJ h6 ?_;refine dA h3 h6 rfl ?_;refine dA h4b h6 rfl ?_;refine dA h5 h6 rfl ?_;refine ag h6 (XQ c) fun kb H7 h7 => ?_;refine aJ h7 ?_;refine dA h3 h7 rfl ?_;refine dA h4b h7 rfl ?_;refine dA h5 h7 rfl ?_;refine dA h6 h7 rfl ?_;refine yS h7 fun mb H8 h8 => ?_;refine iz ?_;refine aS h8 fun b H9 h9 => ?_;refine aq ⟨b, rfl, ?_⟩;refine qm ⟨m, ib, tb, pb, kb, .slice none 0 0, mb, .slice none 0 0, nm, []⟩ rfl ?_;have h10 := fX 4 F6 (fX 7 Pt.cells h9);have h11 : ae (blk mb (.map [] 0) * (ts 4 F6 (.slice none 0 0) [] * (ts 7 Pt.cells (.slice none 0 0) [] * (blk b (.cells false [vp m, vp ib, vp tb, vp pb, vp kb, vi c.sh, vi c.sl, vi c.wk, vi c.wd, vu c.un, .slice none 0 0, .map (some mb), .slice none 0 0]) * (bN m ⟨fun _ => 0, [], 0⟩ * (l6 ib m nm c (fun _ => none) * (tab tb m c.sh.toNat c.sl.toNat * (emp * R)))))))) H9 := h10.to;have h12 := SK Nm h11;show ae (blk b (.cells false [vp m, vp ib, vp tb, vp pb, vp kb, vi c.sh, vi c.sl, vi c.wk, vi c.wd, vu c.un, .slice none 0 0, .map (some mb), .slice none 0 0]) * (bN m ⟨fun _ => 0, [], 0⟩ * (l6 ib m nm c (fun _ => none) * (tab tb m c.sh.toNat c.sl.toNat * (ts 4 F6 (.slice none 0 0) [] * (emp * (Xb Nm mb (fun _ => none) * ts 7 Pt.cells (.slice none 0 0) [])))))) * R) H9;exact h12.to
section
variable (p : Nat) (σ : aN)
theorem MO (m i : Nat) (most : Int) : Sp vy [vp m, vi i, vi most] emp (fun b : Nat => vp b) (fun b => cH m i b (List.replicate (bP most) FW)) := by
 obtain ⟨q1, q2, q3⟩ := mp most;refine br (MN _ _ _) fun R H h => ?_;refine aa (lx) ?_;refine aa (ly) ?_;rw [← q3];refine Qi (enc := Pk.cells) FW h rfl (by unfold room; omega) (by omega) fun cb H1 h1 => ?_;refine iz ?_;refine aS h1 fun b H2 h2 => ?_;refine aq ⟨b, rfl, ?_⟩;unfold cH;exact ae.ex.2 ⟨vs cb (bP most) 3, h2.to⟩
abbrev aN.make (σ : aN) (who : Int) (o : Ob) : aN := { σ with μ := σ.μ.acc who 6 (13, σ.obs.length, 0), obs := σ.obs ++ [(o, List.replicate (bP o.most) FW)] }
theorem Ph (who : Int) (o : Ob) (hE : σ.μ.N < 1099511627000) (ho : σ.obs.length < 1000000) : Sp ei [vp p, vi who, .agg (#[vi o.flow, vi o.most, vu o.r] : Array Value)] (fC p σ) (fun _ : Unit => vi σ.obs.length) (fun _ => fC p (σ.make who o)) := by
 refine aP fun R H h => ?_;obtain ⟨g, hg, h0⟩ := oc h
 have hz : ((σ.obs.map fun x => x.1).zip g.rp).length = σ.obs.length := by simp [hg]
 unfold aE at h0;refine bg (fun r => lU _ _ _ H) ?_;refine aS (l := [vi o.flow, vi o.most, vu o.r]) h0 fun ob H1 h1 => ?_;refine aj h1 ac rfl ?_;refine tg (s := g.ov) h1 ?_;rw [hz];refine aj h1 ac rfl ?_;refine iz ?_;refine ag h1 ((tJ g.m σ.μ who (13, σ.obs.length, 0) (by omega)).imp fun _ R H h => jE (N' := σ.μ.N + 2) (by simp) h) fun _ H2 h2 => ?_;refine bz ac ?_;refine aR h2 rfl ?_;refine aJ h2 ?_;refine aj h2 ac rfl ?_;refine aj h2 aA rfl ?_;refine ag h2 (MO g.m σ.obs.length o.most) fun rb H3 h3 => ?_;refine aH h3 h2 rfl ?_;refine dA h3 h2 rfl ?_;refine iz ?_;refine Nq h3 fun b0 H4 h4 => ?_;refine iL ((o, rb) : Ob × Nat) h4 rfl ?_ (by omega) fun a cc H5 h5 => ?_
 ·unfold room; omega
 refine bi h5 ac rfl rfl fun H6 h6 => ?_;refine aq ⟨(), rfl, ?_⟩;refine qm { g with ov := .slice a (((σ.obs.map fun x => x.1).zip g.rp).length + 1) cc, rp := g.rp ++ [rb] } (by simp [aN.make, hg]) ?_;unfold aE aN.make;dsimp only
 have e1 : ((σ.obs ++ [(o, List.replicate (bP o.most) FW)]).map fun x => x.1).zip (g.rp ++ [rb]) = ((σ.obs.map fun x => x.1).zip g.rp) ++ [(o, rb)] := by
  rw [zw, List.zip_append (by simp [hg])]
  rfl
 have e2 : (g.rp ++ [rb]).zip ((σ.obs ++ [(o, List.replicate (bP o.most) FW)]).map fun x => x.2) = (g.rp.zip (σ.obs.map fun x => x.2)) ++ [(rb, List.replicate (bP o.most) FW)] := by
  rw [zw, List.zip_append (by simp [hg])]
  rfl
 have e3 : 0 + (g.rp.zip (σ.obs.map fun x => x.2)).length = σ.obs.length := by simp [hg]
 rw [e1, e2, AP, e3];exact h6.to
theorem Ad : Sp aaX [.slice none 0 0] emp (fun _ : Unit => .slice none 0 0) (fun _ => emp) := by
 refine br (aj1 _) fun R H h => ?_;refine aa (v := vb true) rfl ?_;refine gs ?_;exact aq ⟨(), rfl, ae.to (by assumption)⟩
theorem Gl (e : Int) : Sp sy [.agg (ef e).toArray] emp (fun _ : Unit => .agg (ef e).toArray) (fun _ => emp) := by
 refine br (JY _) fun R H h => ?_;refine aS h fun b1 H1 h1 => ?_;refine bf h1 fun b2 H2 h2 => ?_;refine aj h2 aA rfl ?_;refine ag h2 Ad fun _ H3 h3 => ?_;refine bi h3 aA rfl rfl fun H4 h4 => ?_;refine aJ h4 ?_;refine cX h4 rfl rfl fun H5 h5 => ?_;refine aJ h5 ?_;exact aq ⟨(), rfl, h5.to⟩
abbrev aN.note (σ : aN) (step who e : Int) : aN := { σ with pts := σ.pts ++ [⟨step, who, (σ.places who).getD 0, e⟩] }
theorem adA {P R P2 R2 : SP} {H H2 : AH} {b : Nat} {f : Int → Option Value} {zero : Value} {kk : OV} {Q : Value → AH → Prop} (k : Int) (h : ae P H) [m : Mp P b Nm f R] (h2 : ae P2 H2) [m2 : Mp P2 b Nm f R2] (hk : wp kk Q) :
 wp (bO (dc .int zero (.map (some b)) (vi k) false H) (dc .int zero (.map (some b)) (vi k) false H2) kk) Q := by
 have one : ∀ {P R : SP} {H : AH} (h : ae P H) [m : Mp P b Nm f R], dc .int zero (.map (some b)) (vi k) false H = some ((f k).getD zero) := by
  intro P R H h m;obtain ⟨v, H', e, q⟩ : wp ((dc .int zero (.map (some b)) (vi k) false H).bind fun v => some (v, H)) (fun v _ => v = (f k).getD zero) := Tx (ek := Nm) k h (aq rfl);obtain ⟨v', e1, e2⟩ := aI.1 e
  have : v' = v := by simpa using congrArg (fun x => x.map Prod.fst) e2
  have e1' : dc .int zero (.map (some b)) (vi k) false H = some v' := e1;rw [e1', this, q]
 exact FM (by rw [one h, one h2]) hk
end
end Go.Proofs.YtghoamdlcjdfjaaGreatDoor.Gst
