/- Several texts in one. -/
import Derived.Test.YtflbeghglllknaaGreatDoorQb
namespace Go.Proofs.YtflbeghglllknaaGreatDoor.Gst
open Go Go.RowKit
set_option maxRecDepth 100000
set_option linter.unusedVariables false
set_option maxHeartbeats 1000000
set_option linter.unusedSimpArgs false
set_option synthInstance.maxSize 2000
set_option synthInstance.maxHeartbeats 400000
section
variable (x0 x1 x2 x3 x4 x5 x6 x7 x8 x9 x10 x14 x15 x17 x19 x30 : Value) (H : AH)
noncomputable def nq (p : List Nat) : Code := Code.sub (bQ Tryz.f110) p
noncomputable def nr : KK := eO PP (Tryz.f110).results.toList
noncomputable def Od : KK := CQ (nq [1, 1]) nr bP nr
noncomputable def kC : OV := Od (ls [x0, x1, x2, u, u, u, x6, x7] 128) H
noncomputable def F1 : KK := CQ (nq [1, 1, 1]) nr bP nr
noncomputable def uB : KK := gY Q4 F1
noncomputable def cw : OV := F1 (ls [u, u, u, u, u, u, x6] 129) H
noncomputable def Oe : KK := CQ (nq [1, 1, 0, 1]) uB bP nr
noncomputable def gy : OV := Oe (ls [x0, x1, x2, u, u, u, x6, x7, u, u, u, u, u, u, u, u, u, u, u, x19] 116) H
noncomputable def Oh : KX := BX 0 uB bP
noncomputable def F2 : KX := wG Q4 Oh
noncomputable def Of : KK := CQ (nq [1, 1, 0, 1, 4, 1]) uB F2 nr
noncomputable def kD : OV := Of (ls [x0, x1, x2, u, u, u, x6, x7, u, u, u, u, u, u, u, u, u, u, u, x19, u, u, u, u, u, u, u, u, u, u, x30] 105) H
noncomputable def Og : KK := CQ (nq [1, 1, 0, 1, 4, 1, 2, 1]) uB F2 nr
noncomputable def kE : OV := Og (ls [x0, x1, u, u, u, u, x6, u, x8, x9] 126) H
noncomputable def Z7 : KX := BX 1 uB F2
theorem lT : av Q4 nr := rf
theorem Rw : av 87112285931760246646623899502532662132536 Od := rc lT aE lT
theorem lA : av Q4 F1 := rc lT aE lT
theorem Rx : av 87112285931760246646623899502532661608248 Oe := rc (cd lA) aE lT
theorem rJ : ∀ i, av Q4 (Oh i) := rb (cd lA) aE
theorem Ry : av 87112285931760246646623899502531587866424 Of := rc (cd lA) (cx rJ) lT
theorem Rz : av 87112285931760246646623899502532662131900 Og := rc (cd lA) (cx rJ) lT
theorem RA : ∀ i, av Q4 (Z7 i) := rb (cd lA) (cx rJ)
theorem cm : cw x6 H =
 some ((vb false), H) :=
 (by kernel_rfl)
theorem ou : kE x0 x1 x6 x8 x9 H =
 au x8
 ((FF bC [x0, x1, (vi 6)] H).bind fun a =>
 st 1 [.n, .f 6] x0 (vi 6) a.2 fun b =>
 cw x6 b)
 ((gV x9 true x0).bind fun c =>
 fI x9 true  [.n, .f 8] c H fun d =>
 (gB x9 true (ak .other .lss d (vi 0))).bind fun e =>
 (aM x9 e (vb false)).bind fun g =>
 au g
 ((FF bC [x0, x1, (vi 7)] H).bind fun i =>
 st 1 [.n, .f 6] x0 (vi 6) i.2 fun j =>
 cw x6 j)
 (au x9
 (st 1 [.n, .f 6] x0 (vi 4) H fun k =>
 cw x6 k)
 (cw x6 H))) :=
 (bt rfl (nq [1, 1, 0, 1, 4, 1, 2, 1, 4]) 1 RA (by kernel_rfl))
theorem dy : kD x0 x1 x2 x6 x7 x19 x30 H =
 au x30
 ((FF Cx [x0] H).bind fun b =>
 (ag b.1 0).bind fun d =>
 (ag b.1 1).bind fun e =>
 kE x0 x1 x6 d e b.2)
 ((ak .other .eql x19 (vi 4)).bind fun g =>
 au g
 (ld [.n, .f 0, .f 4] x7 H fun i =>
 ld [.n, .f 2, .f 2] x0 H fun j =>
 (FF j4 [i, j] H).bind fun a =>
 (ag a.1 0).bind fun k =>
 (ag a.1 1).bind fun K =>
 ld [.n, .f 1] x0 a.2 fun l =>
 ld [.n, .f 2, .f 1] x0 a.2 fun m =>
 ld [.n, .f 2, .f 3] x0 a.2 fun o =>
 gJ [(0, 1), (1, 1), (2, 1)] [(vi 0), (vi 0), (vw 0)] [(0, m), (1, o), (2, k)] fun p =>
 (FF gN [x7, l, p] a.2).bind fun c =>
 st 1 [.n, .f 10] x0 c.1 c.2 fun q =>
 st 1 [.n, .f 6] x0 (vi 5) q fun s =>
 cw x6 s)
 ((ak .other .eql x19 (vi 5)).bind fun t =>
 au t
 (ld [.n, .f 7] x7 H fun w =>
 ld [.n, .f 1] x0 H fun y =>
 ld [.n, .f 8] x0 H fun z =>
 ld [.n, .f 2, .f 1] x0 H fun A =>
 ld [.n, .f 10] x0 H fun B =>
 (FF iB [w, y, x2, z, A, B] H).bind fun C =>
 (FF bC [x0, x1, (vi 0)] C.2).bind fun D =>
 st 1 [.n, .f 6] x0 (vi 6) D.2 fun E =>
 cw x6 E)
 (ld [.n, .f 7] x7 H fun G =>
 ld [.n, .f 1] x0 H fun I =>
 (FF dY [G, I, x2] H).bind fun J =>
 some ((vb true), J.2)))) :=
 (ct rfl (nq [1, 1, 0, 1, 4, 1, 2]) (nq [1, 1, 0, 1, 4, 1, 3]) (.tmp 30) (pt rfl 0 Rz (by kernel_rfl)) (by kernel_rfl))
theorem dx : gy x0 x1 x2 x6 x7 x19 H =
 (ak .other .eql x19 (vi 3)).bind fun a =>
 kD x0 x1 x2 x6 x7 x19 a H :=
 (bt rfl (nq [1, 1, 0, 1, 4]) 0 rJ (pt rfl 0 Ry (by kernel_rfl)))
theorem ot : kC x0 x1 x2 x6 x7 H =
 ld [.n, .f 6] x0 H fun a =>
 gy x0 x1 x2 x6 x7 a H :=
 (pt rfl 0 lA (pt rfl 0 Rx (by kernel_rfl)))
noncomputable def vZ : OV := bi PP GG FF (nq []) (ls [x0, x1, x2] 133) H nr bP nr
theorem qV {r : Value × AH} (h : (
 ld [.n, .f 0] x0 H fun a =>
 kC x0 x1 x2 (vb false) a H) = some r) : FF kV [x0, x1, x2] H = some r :=
 fo (t := vZ x0 x1 x2 H) Tryz.func110 (by kernel_rfl) (Eq.trans (pt rfl 1 Rw (by kernel_rfl)) h)
noncomputable def BB (p : List Nat) : Code := Code.sub (bQ Tryz.f111) p
noncomputable def qe : KK := eO PP (Tryz.f111).results.toList
noncomputable def Oj : KK := CQ (BB [1, 1]) qe bP qe
noncomputable def ow : OV := Oj (ls [x0, x1, x2, u, u, u, x6, x7] 153) H
noncomputable def F3 : KK := CQ (BB [1, 1, 1]) qe bP qe
noncomputable def Oi : KK := gY NF F3
noncomputable def bu : OV := F3 (ls [u, u, u, u, u, u, x6] 154) H
noncomputable def Ok : KK := CQ (BB [1, 1, 0, 1]) Oi bP qe
noncomputable def jT : OV := Ok (ls [x0, x1, x2, u, u, u, x6, x7, u, u, u, u, u, u, u, u, u, x17] 143) H
noncomputable def Z8 : KX := BX 0 Oi bP
theorem qf : av NF qe := rf
theorem RB : av 2923003274661805836407369665432566039311865085752 Oj := rc qf aE qf
theorem wR : av NF F3 := rc qf aE qf
theorem RC : av 2923003274661805836407369665432566039311864954680 Ok := rc (cd wR) aE qf
theorem RD : ∀ i, av NF (Z8 i) := rb (cd wR) aE
theorem bo : bu x6 H =
 some ((vb false), H) :=
 (by kernel_rfl)
theorem cj : jT x0 x1 x2 x6 x7 x17 H =
 (ak .other .eql x17 (vi 3)).bind fun q =>
 au q
 ((FF Cx [x0] H).bind fun c =>
 (ag c.1 0).bind fun s =>
 (ag c.1 1).bind fun t =>
 au s
 (st 1 [.n, .f 6] x0 (vi 4) c.2 fun w =>
 bu x6 w)
 (au t
 ((FF bC [x0, x1, (vi 5)] c.2).bind fun y =>
 st 1 [.n, .f 6] x0 (vi 10) y.2 fun z =>
 bu x6 z)
 (bu x6 c.2)))
 ((ak .other .eql x17 (vi 4)).bind fun A =>
 au A
 (st 1 [.n, .f 6] x0 (vi 5) H fun B =>
 (FF ej [x0] B).bind fun d =>
 (ak .other .eql d.1 (vi 0)).bind fun C =>
 au C
 (st 1 [.n, .f 6] x0 (vi 8) d.2 fun D =>
 bu x6 D)
 (bu x6 d.2))
 ((ak .other .eql x17 (vi 5)).bind fun E =>
 au E
 (ld [.n, .f 1] x0 H fun G =>
 (FF eg [x7, G] H).bind fun p =>
 st 1 [.n, .f 13] x0 p.1 p.2 fun I =>
 st 1 [.n, .f 6] x0 (vi 6) I fun e =>
 ld [.n, .f 13] x0 e fun J =>
 (ak .other .rem J (vw 2)).bind fun K =>
 (ak .other .eql K (vw 1)).bind fun L =>
 au L
 (st 1 [.n, .f 6] x0 (vi 4) e fun M =>
 bu x6 M)
 (bu x6 e))
 ((ak .other .eql x17 (vi 6)).bind fun N =>
 au N
 (st 1 [.n, .f 6] x0 (vi 7) H fun O =>
 st 1 [.n, .f 16] x0 x1 O fun P =>
 (FF ej [x0] P).bind fun g =>
 (ak .other .eql g.1 (vi 0)).bind fun Q =>
 au Q
 (st 1 [.n, .f 6] x0 (vi 8) g.2 fun R =>
 bu x6 R)
 (bu x6 g.2))
 ((ak .other .eql x17 (vi 7)).bind fun S =>
 au S
 (st 1 [.n, .f 6] x0 (vi 4) H fun i =>
 ld [.n, .f 1] x0 i fun T =>
 (FF eg [x7, T] i).bind fun a =>
 ad [.n, .f 13] x0 fun j =>
 (aq j a.2).bind fun U =>
 bS (aq j i) (aq j a.2) <|
 (ak .other .eql a.1 U).bind fun V =>
 au V
 (ld [.n, .f 16] x0 a.2 fun W =>
 (FF bC [x0, W, (vi 8)] a.2).bind fun X =>
 st 1 [.n, .f 6] x0 (vi 10) X.2 fun Y =>
 bu x6 Y)
 (bu x6 a.2))
 ((ak .other .eql x17 (vi 8)).bind fun Z =>
 au Z
 (st 1 [.n, .f 6] x0 (vi 4) H fun k =>
 (FF bT [x0] k).bind fun b =>
 ad [.n, .f 1] x0 fun l =>
 (aq l b.2).bind fun a0 =>
 bS (aq l k) (aq l b.2) <|
 ad [.n, .f 11] x0 fun m =>
 (aq m b.2).bind fun a1 =>
 bS (aq m k) (aq m b.2) <|
 (FF f0 [b.1, a0, a1, (vi 2)] b.2).bind fun o =>
 au o.1
 ((FF bC [x0, x1, (vi 0)] o.2).bind fun a2 =>
 st 1 [.n, .f 6] x0 (vi 9) a2.2 fun a3 =>
 bu x6 a3)
 (bu x6 o.2))
 ((ak .other .eql x17 (vi 9)).bind fun a4 =>
 au a4
 (ld [.n, .f 7] x7 H fun a5 =>
 ld [.n, .f 1] x0 H fun a6 =>
 ld [.n, .f 7] x0 H fun a7 =>
 (FF ji [a5, a6, x2, a7] H).bind fun a8 =>
 st 1 [.n, .f 6] x0 (vi 10) a8.2 fun a9 =>
 bu x6 a9)
 (ld [.n, .f 7] x7 H fun b0 =>
 ld [.n, .f 1] x0 H fun b1 =>
 (FF dY [b0, b1, x2] H).bind fun b2 =>
 some ((vb true), b2.2)))))))) :=
 (bt rfl (BB [1, 1, 0, 1, 4]) 0 RD (by kernel_rfl))
theorem sy : ow x0 x1 x2 x6 x7 H =
 ld [.n, .f 6] x0 H fun a =>
 jT x0 x1 x2 x6 x7 a H :=
 (pt rfl 0 wR (pt rfl 0 RC (by kernel_rfl)))
noncomputable def DZ : OV := bi PP GG FF (BB []) (ls [x0, x1, x2] 158) H qe bP qe
theorem xN {r : Value × AH} (h : (
 ld [.n, .f 0] x0 H fun a =>
 ow x0 x1 x2 (vb false) a H) = some r) : FF pz [x0, x1, x2] H = some r :=
 fo (t := DZ x0 x1 x2 H) Tryz.func111 (by kernel_rfl) (Eq.trans (pt rfl 1 RB (by kernel_rfl)) h)
theorem n0 {r : Value × AH} (h : (
 (FF qA [x0, x1, (.func (.func nD) #[] #[])] H).bind fun a =>
 some (a.1, a.2)) = some r) : FF fP [x0, x1] H = some r :=
 fo Tryz.func112 (by kernel_rfl) h
theorem zz {r : Value × AH} (h : (
 aS (Value.cells x3).toList H fun c a =>
 ld [.n, .f 1] x0 a fun d =>
 (ay 3 c a).bind fun e =>
 gJ [(0, 1), (1, 1), (2, 3)] [(vi 0), (vi 0), (vi 0), (vi 0), (vi 0)] [(0, x1), (1, x2), (2, e)] fun g =>
 AB 1 5 [(vi 0), (vi 0), (vi 0), (vi 0), (vi 0)] [(0, g)] a fun i j =>
 (e8 5 40 d i j).bind fun b =>
 st 1 [.n, .f 1] x0 b.1 b.2 fun k =>
 some (Value.tuple #[], k)) = some r) : FF dq [x0, x1, x2, x3] H = some r :=
 fo Tryz.func113 (by kernel_rfl) h
theorem zw {r : Value × AH} (h : (
 aS (Value.cells x1).toList H fun b a =>
 ld [.n, .f 0] x0 a fun c =>
 (ay 3 b a).bind fun d =>
 (cU (.flat 3) (.agg #[(vw 0)]) c d false a).bind fun e =>
 (kW none 0 e).bind fun g =>
 some (g, a)) = some r) : FF fu [x0, x1] H = some r :=
 fo Tryz.func114 (by kernel_rfl) h
theorem ae6 {r : Value × AH} (h : (
 (ak .slice .eql x0 (.slice none 0 0)).bind fun b =>
 au b
 (some ((.slice none 0 0), H))
 (AB 0 3 [(vi 0), (vi 0), (vi 0)] [] H fun c d =>
 (e8 3 24 c x0 d).bind fun a =>
 some (a.1, a.2))) = some r) : FF XP [x0] H = some r :=
 fo Tryz.func117 (by kernel_rfl) h
theorem zA {r : Value × AH} (h : (
 aS (Value.cells x2).toList H fun a d =>
 (ay 3 a d).bind fun e =>
 (FF fu [x0, e] d).bind fun b =>
 (ay 3 a b.2).bind fun g =>
 (FF dq [x0, x1, (vi 3), g] b.2).bind fun c =>
 ld [.n, .f 0] x0 c.2 fun i =>
 (ay 3 a c.2).bind fun j =>
 gJ [(0, 1)] [(vw 0)] [(0, x3)] fun k =>
 (eJ (.flat 3) i j k c.2).bind fun l =>
 some (b.1, l)) = some r) : FF je [x0, x1, x2, x3] H = some r :=
 fo Tryz.func118 (by kernel_rfl) h
theorem zB {r : Value × AH} (h : (
 (ak .other .geq x0 x1).bind fun a =>
 (gV a true x0).bind fun b =>
 (gV a true x2).bind fun c =>
 (gB a true (ak .other .leq b c)).bind fun d =>
 (aM a d (vb false)).bind fun e =>
 some (e, H)) = some r) : FF fw [x0, x1, x2] H = some r :=
 fo Tryz.func119 (by kernel_rfl) h
theorem w7 {r : Value × AH} (h : (
 aS [(vi 0), (vi 0), (vi 0)] H fun a c =>
 gJ [(0, 1), (1, 1), (2, 1)] [(vi 0), (vi 0), (vi 0)] [(0, x0), (1, x1)] fun d =>
 (cB 3 a d c).bind fun b =>
 (ay 3 a b).bind fun e => some (e, b)) = some r) : FF bB [x0, x1] H = some r :=
 fo Tryz.func120 (by kernel_rfl) h
noncomputable def nu (p : List Nat) : Code := Code.sub (bQ Tryz.f121) p
noncomputable def lU : KK := eO PP (Tryz.f121).results.toList
noncomputable def On : KK := CQ (nu [1, 1, 1]) lU bP lU
noncomputable def vM : OV := On (ls [u, x1, u, u, x4, x5, x6] 23) H
noncomputable def F4 : KK := CQ (nu [1, 1, 1, 1]) lU bP lU
noncomputable def Ol : KK := gY 1073741743 F4
noncomputable def vN : OV := F4 (ls [u, u, u, u, x4, u, x6] 23) H
noncomputable def Oo : KK := CQ (nu [1, 1, 1, 0, 1]) Ol bP lU
noncomputable def vO : OV := Oo (ls [u, x1, u, u, x4, u, x6, u, u, u, u, u, u, u, x14, x15] 14) H
noncomputable def F7 : KX := BX 0 Ol bP
noncomputable def Ae : KX := wG 1073741743 F7
noncomputable def F5 : KK := Iu (nu [1, 1, 1, 0, 1, 4, 5]) Ae lU
noncomputable def Om : KK := gY Bf F5
noncomputable def lp : OV := F5 (ls [u, x1, u, u, x4, u, x6, u, u, u, u, u, u, u, x14, x15] 14) H
noncomputable def Oq : KK := CQ (nu [1, 1, 1, 0, 1, 4, 5, 1, 1]) Om Ae lU
noncomputable def vP : OV := Oq (ls [u, x1, u, u, x4, u, x6, u, u, u, u, u, u, u, x14, x15] 14) H
noncomputable def F6 : KK := CQ (nu [1, 1, 1, 0, 1, 4, 5, 1, 1, 1]) Om Ae lU
noncomputable def Z9 : KK := gY Bf F6
noncomputable def vQ : OV := F6 (ls [u, x1, u, u, x4, u, x6, u, u, u, u, u, u, u, x14, x15] 14) H
noncomputable def aaA : KX := BX 1 Z9 Ae
noncomputable def qQ : OV := F7 0 (ls [u, u, u, u, x4, u, x6] 23) H
theorem kp : av 1073741807 lU := rf
theorem RE : av 1073741709 On := rc kp aE kp
theorem wT : av 1073741743 F4 := rc kp aE kp
theorem RF : av Bf Oo := rc (cd wT) aE kp
theorem nP : ∀ i, av 1073741743 (F7 i) := rb (cd wT) aE
theorem rK : av Bf F5 := rl (cx nP) kp
theorem RG : av Bf Oq := rc (cd rK) (cx nP) kp
theorem Eu : av Bf F6 := rc (cd rK) (cx nP) kp
theorem RH : ∀ i, av Bf (aaA i) := rb (cd Eu) (cx nP)
theorem zI : vN x4 x6 H =
 some (x6, H) :=
 (by kernel_rfl)
theorem zL : vQ x1 x4 x6 x14 x15 H =
 (ak .other .add x15 (vi 1)).bind fun a =>
 lp x1 x4 x6 x14 a H :=
 (by kernel_rfl)
theorem zK : vP x1 x4 x6 x14 x15 H =
 ad [.n, .f 0] x6 fun a =>
 (aq a H).bind fun d =>
 (FF qJ [x1] H).bind fun b =>
 bS (aq a b.2) (aq a H) <|
 AB 1 1 [(.pointer none)] [(0, b.1)] b.2 fun e g =>
 (e8 1 8 d e g).bind fun c =>
 st 1 [.n, .f 0] x6 c.1 c.2 fun i =>
 vQ x1 x4 x6 x14 x15 i :=
 (pt rfl 0 Eu (bt rfl (nu [1, 1, 1, 0, 1, 4, 5, 1, 1, 0, 4]) 1 RH (by kernel_rfl)))
theorem vL : qQ x4 x6 H = vN x4 x6 H :=
 (by kernel_rfl)
theorem pA : lp x1 x4 x6 x14 x15 H =
 (ak .other .lss x15 x14).bind fun a =>
 au a
 (vP x1 x4 x6 x14 x15 H)
 (qQ x4 x6 H) :=
 Jy rfl rK (pt rfl 1 RG (by kernel_rfl))
theorem zJ : vO x1 x4 x6 x14 x15 H =
 lp x1 x4 x6 x14 x15 H :=
 (bt rfl (nu [1, 1, 1, 0, 1, 4]) 0 nP (li rfl (nu [1, 1, 1, 0, 1, 4, 5]) rK (by kernel_rfl)))
theorem zH : vM x1 x4 x5 x6 H =
 vO x1 x4 x6 x5 (vi 0) H :=
 (pt rfl 0 wT (pt rfl 0 RF (by kernel_rfl)))
noncomputable def Tn : OV := bi PP GG FF (nu []) (ls [x0, x1] 28) H lU bP lU
theorem Hx {r : Value × AH} (h : (
 (ir [x0, (vi 1)]).bind fun c =>
 (jz [c, (vi 16)]).bind fun a =>
 (FF tE [a] H).bind fun b =>
 gJ [(0, 1), (1, 1)] [(.slice none 0 0), (.pointer none)] [(1, b.1)] fun d =>
 aS (Value.cells d).toList b.2 fun e f =>
 vM x1 (.pointer none) a e f) = some r) : FF qH [x0, x1] H = some r :=
 fo (t := Tn x0 x1 H) Tryz.func121 (by kernel_rfl) (Eq.trans (pt rfl 2 RE (by kernel_rfl)) h)
noncomputable def ny (p : List Nat) : Code := Code.sub (bQ Tryz.f125) p
noncomputable def lV : KK := eO PP (Tryz.f125).results.toList
noncomputable def Ov : KK := CQ (ny [1, 1]) lV bP lV
noncomputable def Yi : OV := Ov (ls [x0, x1, u, u, x4, x5] 24) H
noncomputable def F8 : KK := CQ (ny [1, 1, 1]) lV bP lV
noncomputable def Ot : KK := gY 1073741775 F8
noncomputable def Yj : OV := F8 (ls [u, u, u, u, x4, x5] 24) H
noncomputable def Ow : KK := CQ (ny [1, 1, 0, 1]) Ot bP lV
noncomputable def Yk : OV := Ow (ls [x0, x1, u, u, x4, x5, x6] 23) H
noncomputable def Gb : KX := BX 0 Ot bP
noncomputable def Af : KX := wG 1073741775 Gb
noncomputable def F9 : KK := Iu (ny [1, 1, 0, 1, 4, 5]) Af lV
noncomputable def Ou : KK := gY Bg F9
noncomputable def HM : OV := F9 (ls [x0, x1, u, u, x4, x5, x6] 23) H
noncomputable def Ox : KK := CQ (ny [1, 1, 0, 1, 4, 5, 1]) Ou Af lV
noncomputable def Yl : OV := Ox (ls [x0, x1, u, u, x4, x5, x6] 23) H
noncomputable def Ga : KK := CQ (ny [1, 1, 0, 1, 4, 5, 1, 1]) Ou Af lV
noncomputable def aaB : KK := gY Bg Ga
noncomputable def Ym : OV := Ga (ls [x0, x1, u, u, x4, x5, x6] 23) H
noncomputable def aaC : KX := BX 1 aaB Af
noncomputable def JV : OV := Gb 0 (ls [u, u, u, u, x4, x5] 24) H
theorem kq : av 1073741807 lV := rf
theorem RI : av 1073741772 Ov := rc kq aE kq
theorem wU : av 1073741775 F8 := rc kq aE kq
theorem RJ : av Bg Ow := rc (cd wU) aE kq
theorem nQ : ∀ i, av 1073741775 (Gb i) := rb (cd wU) aE
theorem rL : av Bg F9 := rl (cx nQ) kq
theorem RK : av Bg Ox := rc (cd rL) (cx nQ) kq
theorem Ew : av Bg Ga := rc (cd rL) (cx nQ) kq
theorem RL : ∀ i, av Bg (aaC i) := rb (cd Ew) (cx nQ)
theorem Tz : Yj x4 x5 H =
 some (x5, H) :=
 (by kernel_rfl)
theorem TC : Ym x0 x1 x4 x5 x6 H =
 (ak .other .add x6 (vi 1)).bind fun a =>
 HM x0 x1 x4 x5 a H :=
 (by kernel_rfl)
theorem TB : Yl x0 x1 x4 x5 x6 H =
 ad [.n, .f 0] x5 fun a =>
 (aq a H).bind fun d =>
 (FF qI [x1] H).bind fun b =>
 bS (aq a b.2) (aq a H) <|
 gJ [(0, 1), (1, 1), (2, 1), (3, 1)] [(.slice none 0 0), (vw 0), (vi 0), (vb false)] [(2, b.1), (3, (vb true))] fun e =>
 aS (Value.cells e).toList b.2 fun g i =>
 AB 1 1 [(.pointer none)] [(0, g)] i fun j k =>
 (e8 1 8 d j k).bind fun c =>
 st 1 [.n, .f 0] x5 c.1 c.2 fun l =>
 Ym x0 x1 x4 x5 x6 l :=
 (pt rfl 0 Ew (bt rfl (ny [1, 1, 0, 1, 4, 5, 1, 0, 4]) 1 RL (by kernel_rfl)))
theorem JW : JV x4 x5 H = Yj x4 x5 H :=
 (by kernel_rfl)
theorem E6 : HM x0 x1 x4 x5 x6 H =
 (ir [x0, (vi 1)]).bind fun a =>
 (jz [a, (vi 16)]).bind fun b =>
 (ak .other .lss x6 b).bind fun c =>
 au c
 (Yl x0 x1 x4 x5 x6 H)
 (JV x4 x5 H) :=
 Jy rfl rL (pt rfl 0 RK (by kernel_rfl))
theorem TA : Yk x0 x1 x4 x5 x6 H =
 HM x0 x1 x4 x5 x6 H :=
 (bt rfl (ny [1, 1, 0, 1, 4]) 0 nQ (li rfl (ny [1, 1, 0, 1, 4, 5]) rL (by kernel_rfl)))
theorem Tx : Yi x0 x1 x4 x5 H =
 Yk x0 x1 x4 x5 (vi 0) H :=
 (pt rfl 0 wU (pt rfl 0 RJ (by kernel_rfl)))
noncomputable def rNQ : OV := bi PP GG FF (ny []) (ls [x0, x1] 28) H lV bP lV
theorem ae2 {r : Value × AH} (h : (
 gJ [(0, 1)] [(.slice none 0 0)] [] fun a =>
 aS (Value.cells a).toList H fun b c =>
 Yi x0 x1 (.pointer none) b c) = some r) : FF XM [x0, x1] H = some r :=
 fo (t := rNQ x0 x1 H) Tryz.func125 (by kernel_rfl) (Eq.trans (pt rfl 1 RI (by kernel_rfl)) h)
theorem xn {r : Value × AH} (h : (
 aS (Value.cells x2).toList H fun b a =>
 (ay 3 b a).bind fun c =>
 (FF dq [x0, x1, (vi 6), c] a).bind fun d =>
 some (Value.tuple #[], d.2)) = some r) : FF fZ [x0, x1, x2] H = some r :=
 fo Tryz.func126 (by kernel_rfl) h
theorem J1 {r : Value × AH} (h : (
 (ir [x2, (vi 1)]).bind fun c =>
 (jz [c, (vi 8)]).bind fun a =>
 (mv [(vi 0), (vi 0), (vi 0)] 3 24 a a H).bind fun b =>
 gJ [(0, 1), (1, 1), (2, 1)] [(.pointer none), (vi 0), (.slice none 0 0)] [(0, x0), (1, x1), (2, b.1)] fun d =>
 aS (Value.cells d).toList b.2 fun e f =>
 some (e, f)) = some r) : FF tD [x0, x1, x2] H = some r :=
 fo Tryz.func127 (by kernel_rfl) h
theorem CH {r : Value × AH} (h : (
 aS (Value.cells x3).toList H fun c a =>
 ld [.n, .f 2] x0 a fun d =>
 (ay 3 c a).bind fun e =>
 gJ [(0, 1), (1, 1), (2, 3)] [(vi 0), (vi 0), (vi 0), (vi 0), (vi 0)] [(0, x1), (1, x2), (2, e)] fun g =>
 AB 1 5 [(vi 0), (vi 0), (vi 0), (vi 0), (vi 0)] [(0, g)] a fun i j =>
 (e8 5 40 d i j).bind fun b =>
 st 1 [.n, .f 2] x0 b.1 b.2 fun k =>
 some (Value.tuple #[], k)) = some r) : FF cg [x0, x1, x2, x3] H = some r :=
 fo Tryz.func128 (by kernel_rfl) h
theorem CM {r : Value × AH} (h : (
 (ir [x2, (vi 1)]).bind fun c =>
 (jz [c, (vi 8)]).bind fun a =>
 (mv [(vi 0), (vi 0), (vi 0)] 3 24 a a H).bind fun b =>
 gJ [(0, 1), (1, 1), (2, 1), (3, 1)] [(.pointer none), (vi 0), (vi 0), (.slice none 0 0)] [(0, x0), (1, x1), (2, a), (3, b.1)] fun d =>
 aS (Value.cells d).toList b.2 fun e f =>
 some (e, f)) = some r) : FF nI [x0, x1, x2] H = some r :=
 fo Tryz.func129 (by kernel_rfl) h
theorem xm {r : Value × AH} (h : (
 aS (Value.cells x2).toList H fun b c =>
 (ay 3 b c).bind fun d =>
 (FF dq [x0, x1, (vi 2), d] c).bind fun a =>
 ld [.n, .f 0] x0 a.2 fun e =>
 (ay 3 b a.2).bind fun g =>
 gJ [(0, 1)] [(vw 0)] [(0, x3)] fun i =>
 (eJ (.flat 3) e g i a.2).bind fun j =>
 some (Value.tuple #[], j)) = some r) : FF dC [x0, x1, x2, x3] H = some r :=
 fo Tryz.func130 (by kernel_rfl) h
theorem xC {r : Value × AH} (h : (
 aS (Value.cells x2).toList H fun b c =>
 (ay 3 b c).bind fun e =>
 (FF cg [x0, x1, (vi 2), e] c).bind fun d =>
 (ay 3 b d.2).bind fun g =>
 (FF yE [x0, g] d.2).bind fun a =>
 ld [.n, .f 1] x0 a.2 fun j =>
 st 1 [.i 1 a.1] j x3 a.2 fun k =>
 some (Value.tuple #[], k)) = some r) : FF ef [x0, x1, x2, x3] H = some r :=
 fo Tryz.func131 (by kernel_rfl) h
theorem Cu {r : Value × AH} (h : (
 aS (Value.cells x2).toList H fun a b =>
 (ay 3 a b).bind fun e =>
 (ay 3 a b).bind fun f =>
 (FF fu [x0, f] b).bind fun c =>
 bS (ay 3 a c.2) (ay 3 a b) <|
 (ak .other .add c.1 x3).bind fun g =>
 (FF je [x0, x1, e, g] c.2).bind fun d =>
 some (d.1, d.2)) = some r) : FF f5 [x0, x1, x2, x3] H = some r :=
 fo Tryz.func132 (by kernel_rfl) h
theorem CG {r : Value × AH} (h : (
 aS (Value.cells x2).toList H fun c d =>
 (ay 3 c d).bind fun g =>
 (FF yE [x0, g] d).bind fun a =>
 (ay 3 c a.2).bind fun j =>
 (FF cg [x0, x1, (vi 3), j] a.2).bind fun b =>
 ld [.n, .f 1] x0 b.2 fun k =>
 ld [.i 1 a.1] k b.2 fun e =>
 ld [.n, .f 1] x0 b.2 fun l =>
 (ak .other .add e x3).bind fun m =>
 st 1 [.i 1 a.1] l m b.2 fun o =>
 some (e, o)) = some r) : FF iq [x0, x1, x2, x3] H = some r :=
 fo Tryz.func133 (by kernel_rfl) h
noncomputable def nz (p : List Nat) : Code := Code.sub (bQ Tryz.f134) p
noncomputable def lW : KK := eO PP (Tryz.f134).results.toList
noncomputable def Oz : KK := CQ (nz [1]) lW bP lW
noncomputable def Yg : OV := Oz (ls [x0, u, u, x3, x4] 45) H
noncomputable def Gc : KK := CQ (nz [1, 1]) lW bP lW
noncomputable def Oy : KK := gY IJ Gc
noncomputable def Yh : OV := Gc (ls [x0, u, u, x3, x4] 45) H
noncomputable def I7 : KK := CQ (nz [1, 0, 1]) Oy bP lW
noncomputable def P8 : OV := I7 (ls [x0, u, u, x3, x4, x5] 44) H
noncomputable def BF : KX := BX 0 Oy bP
noncomputable def uC : KX := wG IJ BF
noncomputable def BC : KK := Iu (nz [1, 0, 1, 4, 5]) uC lW
noncomputable def I6 : KK := gY Bd BC
noncomputable def AI : OV := BC (ls [x0, u, u, x3, x4, x5] 44) H
noncomputable def I8 : KK := CQ (nz [1, 0, 1, 4, 5, 1]) I6 uC lW
noncomputable def P9 : OV := I8 (ls [x0, u, u, x3, x4, x5] 44) H
noncomputable def BD : KK := CQ (nz [1, 0, 1, 4, 5, 1, 1]) I6 uC lW
noncomputable def Vp : KK := gY Bd BD
noncomputable def Qa : OV := BD (ls [x0, u, u, x3, x4, x5] 44) H
noncomputable def Vq : KX := BX 1 Vp uC
noncomputable def E5 : OV := BF 0 (ls [x0, u, u, x3, x4] 45) H
theorem ks : av 1125899906842607 lW := rf
theorem RM : av IJ Oz := rc ks aE ks
theorem wV : av IJ Gc := rc ks aE ks
theorem Lu : av Bd I7 := rc (cd wV) aE ks
theorem lX : ∀ i, av IJ (BF i) := rb (cd wV) aE
theorem oG : av Bd BC := rl (cx lX) ks
theorem Lv : av Bd I8 := rc (cd oG) (cx lX) ks
theorem BE : av Bd BD := rc (cd oG) (cx lX) ks
theorem Lw : ∀ i, av Bd (Vq i) := rb (cd BE) (cx lX)
theorem Tw : Yh x0 x3 x4 H =
 ld [.n, .f 0] x0 H fun g =>
 (ay 3 x3 H).bind fun i =>
 AB 1 3 [(vi 0), (vi 0), (vi 0)] [(0, i)] H fun j c =>
 (e8 3 24 g j c).bind fun a =>
 ad [.n, .f 1] x0 fun b =>
 (aq b a.2).bind fun k =>
 bS (aq b c) (aq b a.2) <|
 AB 1 1 [(vw 0)] [(0, (vw 0))] a.2 fun l m =>
 (e8 1 8 k l m).bind fun d =>
 st 1 [.n, .f 0] x0 a.1 d.2 fun o =>
 st 1 [.n, .f 1] x0 d.1 o fun e =>
 ld [.n, .f 0] x0 e fun p =>
 gI p fun q =>
 (ak .other .sub q (vi 1)).bind fun s =>
 some (s, e) :=
 (by kernel_rfl)
theorem ML : Qa x0 x3 x4 x5 H =
 (ak .other .add x5 (vi 1)).bind fun a =>
 AI x0 x3 x4 a H :=
 (by kernel_rfl)
theorem MK : P9 x0 x3 x4 x5 H =
 ld [.n, .f 0] x0 H fun a =>
 ldN 3 [.i 3 x5] a H fun b =>
 (ay 3 x3 H).bind fun c =>
 (ak (.flat 3) .eql b c).bind fun d =>
 au d
 (some (x5, H))
 (Qa x0 x3 x4 x5 H) :=
 (pt rfl 0 BE (bt rfl (nz [1, 0, 1, 4, 5, 1, 0, 4]) 1 Lw (by kernel_rfl)))
theorem HL : E5 x0 x3 x4 H = Yh x0 x3 x4 H :=
 (by kernel_rfl)
theorem CP : AI x0 x3 x4 x5 H =
 ld [.n, .f 0] x0 H fun a =>
 gI a fun b =>
 (ak .other .lss x5 b).bind fun c =>
 au c
 (P9 x0 x3 x4 x5 H)
 (E5 x0 x3 x4 H) :=
 Jy rfl oG (pt rfl 0 Lv (by kernel_rfl))
theorem MJ : P8 x0 x3 x4 x5 H =
 AI x0 x3 x4 x5 H :=
 (bt rfl (nz [1, 0, 1, 4]) 0 lX (li rfl (nz [1, 0, 1, 4, 5]) oG (by kernel_rfl)))
theorem Tv : Yg x0 x3 x4 H =
 P8 x0 x3 x4 (vi 0) H :=
 (pt rfl 0 wV (pt rfl 0 Lu (by kernel_rfl)))
noncomputable def rMp : OV := bi PP GG FF (nz []) (ls [x0, x1] 48) H lW bP lW
theorem ae1 {r : Value × AH} (h : (
 aS (Value.cells x1).toList H fun a b =>
 Yg x0 a (vi 0) b) = some r) : FF yE [x0, x1] H = some r :=
 fo (t := rMp x0 x1 H) Tryz.func134 (by kernel_rfl) (Eq.trans (pt rfl 0 RM (by kernel_rfl)) h)
theorem wn {r : Value × AH} (h : (
 (db x3 [x2]).bind fun c => (FF c.1 c.2 H).bind fun b =>
 (ag b.1 0).bind fun i =>
 (ag b.1 1).bind fun a =>
 (gV a true x0).bind fun j =>
 G3 a true  [.n, .f 0] j fun e =>
 (gB a true (aq e b.2)).bind fun k =>
 (gV a true x1).bind fun l =>
 (gV a true x0).bind fun m =>
 (gE a true b.2 (FF dZ [m, (vi 11), (vi 0)] b.2)).bind fun d =>
 bS (aq e d.2) (aq e b.2) <|
 (gV a true x2).bind fun o =>
 (gV a true i).bind fun p =>
 (gE a true d.2 (FF fv [k, l, d.1, o, p] d.2)).bind fun g =>
 (aM a g.1 (vb false)).bind fun q =>
 some (q, g.2)) = some r) : FF fD [x0, x1, x2, x3] H = some r :=
 fo Tryz.func135 (by kernel_rfl) h
theorem Io {r : Value × AH} (h : (
 (FF dK [x0] H).bind fun a =>
 (ak .other .neq a.1 (vi 1)).bind fun d =>
 au d
 (some (Value.tuple #[(vw 0), (vb false)], a.2))
 ((FF dl [x0] a.2).bind fun c =>
 (FF kA [c.1, (vi 0)] c.2).bind fun b =>
 (ag b.1 0).bind fun e =>
 (ag b.1 1).bind fun f =>
 some (Value.tuple #[e, f], b.2))) = some r) : FF mY [x0] H = some r :=
 fo Tryz.func136 (by kernel_rfl) h
noncomputable def Ge (p : List Nat) : Code := Code.sub (bQ Tryz.f137) p
noncomputable def s6 : KK := eO PP (Tryz.f137).results.toList
noncomputable def OA : KK := CQ (Ge [1, 1]) s6 bP s6
noncomputable def sT : OV := OA (ls [u, x1, u, u, x4, x5, x6, x7, x8] 47) H
noncomputable def Gf : KK := CQ (Ge [1, 1, 1]) s6 bP s6
noncomputable def aaD : KK := gY II Gf
noncomputable def sU : OV := Gf (ls [u, u, u, u, x4, x5] 50) H
noncomputable def aaE : KX := BX 0 aaD bP
theorem uD : av II s6 := rf
theorem RN : av 72057594037927437 OA := rc uD aE uD
theorem Ex : av II Gf := rc uD aE uD
theorem RO : ∀ i, av II (aaE i) := rb (cd Ex) aE
theorem gT : sU x4 x5 H =
 some (Value.tuple #[(vw 0), (vb false)], H) :=
 (by kernel_rfl)
theorem xy : sT x1 x4 x5 x6 x7 x8 H =
 (oW .not x8).bind fun i =>
 au i
 (some (Value.tuple #[(vw 0), (vb false)], H))
 ((ak .other .eql x1 (vi 0)).bind fun a =>
 (gV a true x7).bind fun j =>
 (gB a true (ak .other .neq j (vi 2))).bind fun k =>
 (aM a k (vb false)).bind fun b =>
 (gV b true x6).bind fun l =>
 (gB b true (ak .other .lss l (vw 2305843009213693951))).bind fun m =>
 (aM b m (vb false)).bind fun n =>
 au n
 ((ak .other .add x6 (vw 1)).bind fun o =>
 (FF mm [o, (vi 1)] H).bind fun c =>
 (ag c.1 0).bind fun p =>
 (ag c.1 1).bind fun q =>
 some (Value.tuple #[p, q], c.2))
 ((ak .other .eql x1 (vi 1)).bind fun d =>
 (gV d true x7).bind fun s =>
 (gB d true (ak .other .eql s (vi 1))).bind fun t =>
 (aM d t (vb false)).bind fun w =>
 au w
 ((FF mm [x6, (vi 0)] H).bind fun e =>
 (ag e.1 0).bind fun y =>
 (ag e.1 1).bind fun z =>
 some (Value.tuple #[y, z], e.2))
 ((ak .other .eql x1 (vi 2)).bind fun f =>
 (gV f true x7).bind fun A =>
 (gB f true (ak .other .eql A (vi 0))).bind fun B =>
 (aM f B (vb false)).bind fun C =>
 au C
 ((FF mm [x6, (vi 2)] H).bind fun g =>
 (ag g.1 0).bind fun D =>
 (ag g.1 1).bind fun E =>
 some (Value.tuple #[D, E], g.2))
 (sU x4 x5 H)))) :=
 (pt rfl 0 Ex (bt rfl (Ge [1, 1, 0, 4]) 0 RO (by kernel_rfl)))
noncomputable def MF : OV := bi PP GG FF (Ge []) (ls [x0, x1] 54) H s6 bP s6
theorem DY {r : Value × AH} (h : (
 (FF gu [x0] H).bind fun a =>
 (ag a.1 0).bind fun b =>
 (ag a.1 1).bind fun c =>
 (ag a.1 2).bind fun d =>
 sT x1 (vw 0) (vb false) b c d a.2) = some r) : FF oU [x0, x1] H = some r :=
 fo (t := MF x0 x1 H) Tryz.func137 (by kernel_rfl) (Eq.trans (pt rfl 1 RN (by kernel_rfl)) h)
theorem zP {r : Value × AH} (h : (
 aS (Value.cells x2).toList H fun b c =>
 (ay 3 b c).bind fun e =>
 (FF yE [x0, e] c).bind fun a =>
 ld [.n, .f 1] x0 a.2 fun g =>
 ld [.i 1 a.1] g a.2 fun j =>
 (ak .other .neq j x3).bind fun k =>
 au k
 ((ay 3 b a.2).bind fun l =>
 (FF cg [x0, x1, (vi 4), l] a.2).bind fun m =>
 some ((vb false), m.2))
 ((ay 3 b a.2).bind fun o =>
 (FF cg [x0, x1, (vi 3), o] a.2).bind fun d =>
 ld [.n, .f 1] x0 d.2 fun p =>
 st 1 [.i 1 a.1] p x4 d.2 fun q =>
 some ((vb true), q))) = some r) : FF gv [x0, x1, x2, x3, x4] H = some r :=
 fo Tryz.func138 (by kernel_rfl) h
theorem FR {r : Value × AH} (h : (
 aS [(vi 0), (.slice none 0 0), (vi 0), (vw 0)] H fun b d =>
 (FF lH [x0, x1, x2] d).bind fun e =>
 (FF lE [x0, x2] e.2).bind fun a =>
 (ag a.1 0).bind fun f =>
 (ag a.1 1).bind fun g =>
 (cB 4 b f a.2).bind fun c =>
 (ay 4 b c).bind fun i => some (Value.tuple #[i, g], c)) = some r) : FF iU [x0, x1, x2] H = some r :=
 fo Tryz.func139 (by kernel_rfl) h
noncomputable def Gi (p : List Nat) : Code := Code.sub (bQ Tryz.f140) p
noncomputable def s7 : KK := eO PP (Tryz.f140).results.toList
noncomputable def OC : KK := CQ (Gi [1, 1]) s7 bP s7
noncomputable def Bt : OV := OC (ls [x0, u, u, u, x4, x5, x6] 27) H
noncomputable def Gj : KK := CQ (Gi [1, 1, 1]) s7 bP s7
noncomputable def aaF : KK := gY 17179869134 Gj
noncomputable def Bu : OV := Gj (ls [x0, u, u, u, x4, x5] 28) H
noncomputable def aaG : KX := BX 0 aaF bP
theorem uF : av 17179869135 s7 := rf
theorem RQ : av 17179869070 OC := rc uF aE uF
theorem Ey : av 17179869134 Gj := rc uF aE uF
theorem RR : ∀ i, av 17179869134 (aaG i) := rb (cd Ey) aE
theorem DM : Bu x0 x4 x5 H =
 (FF bH [x0, (.func (.func jJ) #[x0] #[])] H).bind fun a =>
 (ag a.1 0).bind fun c =>
 (ag a.1 1).bind fun d =>
 (cB 4 x4 c a.2).bind fun b =>
 (ay 4 x4 b).bind fun e => some (Value.tuple #[e, d], b) :=
 (by kernel_rfl)
theorem DL : Bt x0 x4 x5 x6 H =
 ld [.n, .f 10] x0 H fun e =>
 au e
 ((FF bH [x0, (.func (.func gL) #[x0] #[])] H).bind fun a =>
 (ag a.1 0).bind fun g =>
 (ag a.1 1).bind fun i =>
 (cB 4 x4 g a.2).bind fun c =>
 (ay 4 x4 c).bind fun j => some (Value.tuple #[j, i], c))
 (au x6
 ((FF bH [x0, (.func (.func dg) #[x0] #[])] H).bind fun b =>
 (ag b.1 0).bind fun k =>
 (ag b.1 1).bind fun l =>
 (cB 4 x4 k b.2).bind fun d =>
 (ay 4 x4 d).bind fun m => some (Value.tuple #[m, l], d))
 (Bu x0 x4 x5 H)) :=
 (pt rfl 0 Ey (bt rfl (Gi [1, 1, 0, 4]) 0 RR (by kernel_rfl)))
noncomputable def Z1 : OV := bi PP GG FF (Gi []) (ls [x0, x1] 32) H s7 bP s7
theorem Lk {r : Value × AH} (h : (
 aS [(vi 0), (.slice none 0 0), (vi 0), (vw 0)] H fun b c =>
 (FF vx [x0] c).bind fun a =>
 Bt x0 b (vb false) a.1 a.2) = some r) : FF jJ [x0, x1] H = some r :=
 fo (t := Z1 x0 x1 H) Tryz.func140 (by kernel_rfl) (Eq.trans (pt rfl 1 RQ (by kernel_rfl)) h)
theorem t8 {r : Value × AH} (h : (
 ld [.n, .f 2, .f 1] x0 H fun b =>
 (ak .other .lss b (vi 0)).bind fun a =>
 (gV a false x0).bind fun c =>
 fI a false  [.n, .f 2, .f 1] c H fun d =>
 (gB a false (ak .other .gtr d (vi 1048576))).bind fun e =>
 (aM a (vb true) e).bind fun g =>
 some (g, H)) = some r) : FF gc [x0] H = some r :=
 fo Tryz.func141 (by kernel_rfl) h
theorem wc {r : Value × AH} (h : (
 aS [(vi 0), (.slice none 0 0), (vi 0), (vw 0)] H fun a c =>
 (FF cT [x0, x1, x2] c).bind fun d =>
 gJ [(0, 1), (1, 1), (2, 1), (3, 1)] [(vi 0), (.slice none 0 0), (vi 0), (vw 0)] [(0, x2)] fun e =>
 (cB 4 a e d.2).bind fun b =>
 (ay 4 a b).bind fun f => some (Value.tuple #[f, (vb true)], b)) = some r) : FF dh [x0, x1, x2] H = some r :=
 fo Tryz.func142 (by kernel_rfl) h
theorem z2 {r : Value × AH} (h : (
 aS [(vi 0), (.slice none 0 0), (vi 0), (vw 0)] H fun b a =>
 ld [.n, .f 0] x0 a fun j =>
 ld [.n, .f 2] j a fun k =>
 ld [.n, .f 1] x0 a fun l =>
 ld [.n, .f 6] x0 a fun m =>
 (FF d4 [k, l, m] a).bind fun c =>
 (oW .not c.1).bind fun o =>
 au o
 ((FF bd [x0, (.func (.func cS) #[x0] #[])] c.2).bind fun d =>
 (ag d.1 0).bind fun p =>
 (ag d.1 1).bind fun q =>
 (cB 4 b p d.2).bind fun g =>
 (ay 4 b g).bind fun s => some (Value.tuple #[s, q], g))
 ((FF bd [x0, (.func (.func b8) #[x0] #[])] c.2).bind fun e =>
 (ag e.1 0).bind fun t =>
 (ag e.1 1).bind fun w =>
 (cB 4 b t e.2).bind fun i =>
 (ay 4 b i).bind fun y => some (Value.tuple #[y, w], i))) = some r) : FF cS [x0, x1] H = some r :=
 fo Tryz.func143 (by kernel_rfl) h
theorem xW {r : Value × AH} (h : (
 aS [(vi 0), (.slice none 0 0), (vi 0), (vw 0)] H fun b a =>
 ld [.n, .f 0] x0 a fun j =>
 ld [.n, .f 2] j a fun k =>
 ld [.n, .f 1] x0 a fun l =>
 ld [.n, .f 6] x0 a fun m =>
 (FF d4 [k, l, m] a).bind fun c =>
 (oW .not c.1).bind fun o =>
 au o
 ((FF bd [x0, (.func (.func cG) #[x0] #[])] c.2).bind fun d =>
 (ag d.1 0).bind fun p =>
 (ag d.1 1).bind fun q =>
 (cB 4 b p d.2).bind fun g =>
 (ay 4 b g).bind fun s => some (Value.tuple #[s, q], g))
 ((FF bd [x0, (.func (.func bN) #[x0] #[])] c.2).bind fun e =>
 (ag e.1 0).bind fun t =>
 (ag e.1 1).bind fun w =>
 (cB 4 b t e.2).bind fun i =>
 (ay 4 b i).bind fun y => some (Value.tuple #[y, w], i))) = some r) : FF cG [x0, x1] H = some r :=
 fo Tryz.func144 (by kernel_rfl) h
noncomputable def gm (p : List Nat) : Code := Code.sub (bQ Tryz.f145) p
noncomputable def gn : KK := eO PP (Tryz.f145).results.toList
noncomputable def OE : KK := CQ (gm [1, 1]) gn bP gn
noncomputable def Yn : OV := OE (ls [x0, x1, x2, u, u, u, u, x7, x8] 81) H
noncomputable def Gk : KK := CQ (gm [1, 1, 1]) gn bP gn
noncomputable def OD : KK := gY IG Gk
noncomputable def MM : OV := Gk (ls [x0, x1, x2, u, u, u, u, x7, x8] 81) H
noncomputable def OF : KK := CQ (gm [1, 1, 1, 1, 1]) gn bP gn
noncomputable def Yo : OV := OF (ls [x0, x1, x2, u, u, u, u, x7, x8, u, x10] 79) H
noncomputable def Gl : KK := CQ (gm [1, 1, 1, 1, 1, 1]) gn bP gn
noncomputable def aaH : KK := gY FJ Gl
noncomputable def MO : OV := Gl (ls [x0, x1, x2, u, u, u, u, x7, x8, u, x10] 79) H
noncomputable def BL : KX := BX 2 aaH bP
noncomputable def BN : KX := wG FJ BL
noncomputable def BH : KK := Iu (gm [1, 1, 1, 1, 1, 0, 4, 5]) BN gn
noncomputable def I9 : KK := gY FJ BH
noncomputable def AJ : OV := BH (ls [x0, x1, x2, u, u, u, u, x7, x8, u, x10] 79) H
noncomputable def Jb : KK := CQ (gm [1, 1, 1, 1, 1, 0, 4, 5, 1]) I9 BN gn
noncomputable def Qb : OV := Jb (ls [x0, x1, x2, u, u, u, u, x7, x8, u, x10] 79) H
noncomputable def VA : KX := BX 3 I9 BN
noncomputable def E7 : OV := BL 2 (ls [x0, x1, x2, u, u, u, u, x7, x8, u, x10] 79) H
noncomputable def Jc : KK := CQ (gm [1, 1, 0, 1]) OD bP gn
noncomputable def Qc : OV := Jc (ls [x0, x1, x2, u, u, u, u, x7, x8, x9] 80) H
noncomputable def BM : KX := BX 0 OD bP
noncomputable def uG : KX := wG IG BM
noncomputable def BI : KK := Iu (gm [1, 1, 0, 1, 4, 5]) uG gn
noncomputable def Ja : KK := gY Ba BI
noncomputable def AK : OV := BI (ls [x0, x1, x2, u, u, u, u, x7, x8, x9] 80) H
noncomputable def Jd : KK := CQ (gm [1, 1, 0, 1, 4, 5, 1]) Ja uG gn
noncomputable def Qd : OV := Jd (ls [x0, x1, x2, u, u, u, u, x7, x8, x9] 80) H
noncomputable def BJ : KK := CQ (gm [1, 1, 0, 1, 4, 5, 1, 1]) Ja uG gn
noncomputable def Vz : KK := gY Ba BJ
noncomputable def AL : OV := BJ (ls [x0, x1, x2, u, u, u, u, x7, x8, x9] 80) H
noncomputable def VB : KX := BX 1 Vz uG
noncomputable def E8 : OV := BM 0 (ls [x0, x1, x2, u, u, u, u, x7, x8] 81) H
theorem eC : av 1237940039285380274899124223 gn := rf
theorem RS : av IG OE := rc eC aE eC
theorem wW : av IG Gk := rc eC aE eC
theorem RT : av FJ OF := rc eC aE eC
theorem Ez : av FJ Gl := rc eC aE eC
theorem oK : ∀ i, av FJ (BL i) := rb (cd Ez) aE
theorem oI : av FJ BH := rl (cx oK) eC
theorem Ly : av FJ Jb := rc (cd oI) (cx oK) eC
theorem LB : ∀ i, av FJ (VA i) := rb (cd oI) (cx oK)
theorem Lz : av Ba Jc := rc (cd wW) aE eC
theorem lY : ∀ i, av IG (BM i) := rb (cd wW) aE
theorem oJ : av Ba BI := rl (cx lY) eC
theorem LA : av Ba Jd := rc (cd oJ) (cx lY) eC
theorem BK : av Ba BJ := rc (cd oJ) (cx lY) eC
theorem LC : ∀ i, av Ba (VB i) := rb (cd BK) (cx lY)
theorem TH : MO x0 x1 x2 x7 x8 x10 H =
 ld [.n, .f 13] x0 H fun d =>
 (fE 7 d none (some x10)).bind fun e =>
 (e8 7 72 (.slice none 0 0) e H).bind fun a =>
 (ay 4 x7 a.2).bind fun g =>
 gJ [(0, 1), (1, 1), (2, 1), (3, 4)] [(vi 0), (vi 0), (vi 0), (vi 0), (.slice none 0 0), (vi 0), (vw 0)] [(0, x1), (1, x2), (2, x8), (3, g)] fun i =>
 AB 1 7 [(vi 0), (vi 0), (vi 0), (vi 0), (.slice none 0 0), (vi 0), (vw 0)] [(0, i)] a.2 fun j k =>
 (e8 7 72 a.1 j k).bind fun b =>
 ld [.n, .f 13] x0 b.2 fun l =>
 (fE 7 l (some x10) none).bind fun m =>
 (e8 7 72 b.1 m b.2).bind fun c =>
 st 1 [.n, .f 13] x0 c.1 c.2 fun o =>
 some (Value.tuple #[], o) :=
 (by kernel_rfl)
theorem MN : Qb x0 x1 x2 x7 x8 x10 H =
 (ak .other .sub x10 (vi 1)).bind fun a =>
 AJ x0 x1 x2 x7 x8 a H :=
 (bt rfl (gm [1, 1, 1, 1, 1, 0, 4, 5, 1, 4]) 3 LB (by kernel_rfl))
theorem v5 : E7 x0 x1 x2 x7 x8 x10 H = MO x0 x1 x2 x7 x8 x10 H :=
 (by kernel_rfl)
theorem CR : AJ x0 x1 x2 x7 x8 x10 H =
 (ak .other .gtr x10 (vi 0)).bind fun a =>
 (gV a true x0).bind fun b =>
 fI a true  [.n, .f 13] b H fun c =>
 (gV a true x10).bind fun d =>
 (gB a true (ak .other .sub d (vi 1))).bind fun e =>
 fI a true  [.i 7 e, .f 0] c H fun g =>
 (gV a true x1).bind fun j =>
 (gB a true (ak .other .gtr g j)).bind fun k =>
 (aM a k (vb false)).bind fun l =>
 au l
 (Qb x0 x1 x2 x7 x8 x10 H)
 (E7 x0 x1 x2 x7 x8 x10 H) :=
 Jy rfl oI (pt rfl 0 Ly (by kernel_rfl))
theorem TG : Yo x0 x1 x2 x7 x8 x10 H =
 AJ x0 x1 x2 x7 x8 x10 H :=
 (pt rfl 0 Ez (bt rfl (gm [1, 1, 1, 1, 1, 0, 4]) 2 oK (li rfl (gm [1, 1, 1, 1, 1, 0, 4, 5]) oI (by kernel_rfl))))
theorem TE : MM x0 x1 x2 x7 x8 H =
 ld [.f 1] x7 H fun c =>
 (e8 3 24 (.slice none 0 0) c H).bind fun a =>
 st 1 [.f 1] x7 a.1 a.2 fun b =>
 ld [.n, .f 13] x0 b fun d =>
 gI d fun e =>
 Yo x0 x1 x2 x7 x8 e b :=
 (pt rfl 1 RT (by kernel_rfl))
theorem MR : AL x0 x1 x2 x7 x8 x9 H =
 (ak .other .add x9 (vi 2)).bind fun a =>
 AK x0 x1 x2 x7 x8 a H :=
 (by kernel_rfl)
theorem MQ : Qd x0 x1 x2 x7 x8 x9 H =
 ld [.n, .f 12] x0 H fun a =>
 ld [.i 1 x9] a H fun b =>
 (ak .other .eql b x2).bind fun c =>
 au c
 (ld [.n, .f 12] x0 H fun d =>
 (ak .other .add x9 (vi 1)).bind fun e =>
 ld [.i 1 e] d H fun g =>
 AL x0 x1 x2 x7 g x9 H)
 (AL x0 x1 x2 x7 x8 x9 H) :=
 (pt rfl 0 BK (bt rfl (gm [1, 1, 0, 1, 4, 5, 1, 0, 4]) 1 LC (by kernel_rfl)))
theorem HN : E8 x0 x1 x2 x7 x8 H = MM x0 x1 x2 x7 x8 H :=
 (by kernel_rfl)
theorem CS : AK x0 x1 x2 x7 x8 x9 H =
 ld [.n, .f 12] x0 H fun a =>
 gI a fun b =>
 (ak .other .lss x9 b).bind fun c =>
 au c
 (Qd x0 x1 x2 x7 x8 x9 H)
 (E8 x0 x1 x2 x7 x8 H) :=
 Jy rfl oJ (pt rfl 0 LA (by kernel_rfl))
theorem MP : Qc x0 x1 x2 x7 x8 x9 H =
 AK x0 x1 x2 x7 x8 x9 H :=
 (bt rfl (gm [1, 1, 0, 1, 4]) 0 lY (li rfl (gm [1, 1, 0, 1, 4, 5]) oJ (by kernel_rfl)))
theorem TD : Yn x0 x1 x2 x7 x8 H =
 Qc x0 x1 x2 x7 x8 (vi 0) H :=
 (pt rfl 0 wW (pt rfl 0 Lz (by kernel_rfl)))
noncomputable def rPN : OV := bi PP GG FF (gm []) (ls [x0, x1, x2, x3] 86) H gn bP gn
theorem ae3 {r : Value × AH} (h : (
 aS (Value.cells x3).toList H fun a b =>
 Yn x0 x1 x2 a (vi 0) b) = some r) : FF XN [x0, x1, x2, x3] H = some r :=
 fo (t := rPN x0 x1 x2 x3 H) Tryz.func145 (by kernel_rfl) (Eq.trans (pt rfl 1 RS (by kernel_rfl)) h)
theorem vW {r : Value × AH} (h : (
 ad [.n, .f 0] x0 fun b =>
 (aq b H).bind fun d =>
 (FF bY [(vi 10), x2, x3] H).bind fun c =>
 bS (aq b c.2) (aq b H) <|
 (FF dX [d, x1, c.1] c.2).bind fun a =>
 (ak .other .eql a.1 (vw 0)).bind fun e =>
 au e
 (some (Value.tuple #[(vi 0), (vi 0), (vb false)], a.2))
 ((ak .other .quo a.1 (vw 4294967296)).bind fun g =>
 (cF (some .i64) g).bind fun i =>
 (ak .other .sub i (vi 1)).bind fun j =>
 (ak .other .rem a.1 (vw 4294967296)).bind fun k =>
 (cF (some .i64) k).bind fun l =>
 some (Value.tuple #[j, l, (vb true)], a.2))) = some r) : FF jO [x0, x1, x2, x3] H = some r :=
 fo Tryz.func146 (by kernel_rfl) h
theorem xJ {r : Value × AH} (h : (
 ad [.n, .f 0] x0 fun a =>
 (aq a H).bind fun d =>
 ld [.n, .f 1] x0 H fun e =>
 (FF bY [(vi 11), e, (vi 0)] H).bind fun b =>
 bS (aq a b.2) (aq a H) <|
 (FF dX [d, x1, b.1] b.2).bind fun c =>
 some (c.1, c.2)) = some r) : FF kM [x0, x1] H = some r :=
 fo Tryz.func147 (by kernel_rfl) h
theorem zN {r : Value × AH} (h : (
 aS (Value.cells x2).toList H fun b c =>
 (ay 3 b c).bind fun e =>
 (FF cg [x0, x1, (vi 1), e] c).bind fun d =>
 (ay 3 b d.2).bind fun g =>
 (FF yE [x0, g] d.2).bind fun a =>
 ld [.n, .f 1] x0 a.2 fun j =>
 ld [.i 1 a.1] j a.2 fun k =>
 some (k, a.2)) = some r) : FF dX [x0, x1, x2] H = some r :=
 fo Tryz.func148 (by kernel_rfl) h
theorem oo {r : Value × AH} (h : (
 ld [.n, .f 2] x0 H fun a =>
 (cF (some .u64) a).bind fun b =>
 (ak .other .rem x1 b).bind fun c =>
 (cF (some .i64) c).bind fun d =>
 some (d, H)) = some r) : FF ei [x0, x1] H = some r :=
 fo Tryz.func149 (by kernel_rfl) h
theorem xE {r : Value × AH} (h : (
 ad [.n, .f 5] x0 fun a =>
 (aq a H).bind fun d =>
 (FF bY [(vi 2), (vi 0), (vi 0)] H).bind fun b =>
 bS (aq a b.2) (aq a H) <|
 (FF dX [d, x1, b.1] b.2).bind fun c =>
 some (c.1, c.2)) = some r) : FF eg [x0, x1] H = some r :=
 fo Tryz.func150 (by kernel_rfl) h
theorem xz {r : Value × AH} (h : (
 ad [.n, .f 0] x0 fun a =>
 (aq a H).bind fun c =>
 (FF bY [(vi 3), (vi 0), (vi 0)] H).bind fun b =>
 bS (aq a b.2) (aq a H) <|
 (FF iq [c, x1, b.1, (vw 1)] b.2).bind fun d =>
 some (Value.tuple #[], d.2)) = some r) : FF ix [x0, x1] H = some r :=
 fo Tryz.func151 (by kernel_rfl) h
theorem xA {r : Value × AH} (h : (
 ad [.n, .f 0] x0 fun a =>
 (aq a H).bind fun d =>
 (FF bY [(vi 9), x2, (vi 0)] H).bind fun b =>
 bS (aq a b.2) (aq a H) <|
 (FF dX [d, x1, b.1] b.2).bind fun c =>
 some (c.1, c.2)) = some r) : FF kK [x0, x1, x2] H = some r :=
 fo Tryz.func152 (by kernel_rfl) h
end
section
variable (B E C D K L J M G I : Value) (H : AH)
theorem vR {r : Value × AH} (h : (
 ad [.n, .f 0] B fun c =>
 (aq c H).bind fun k =>
 (FF bY [(vi 14), C, (vi 0)] H).bind fun d =>
 bS (aq c d.2) (aq c H) <|
 (FF cg [k, E, (vi 6), d.1] d.2).bind fun l =>
 (FF mn [B, C] l.2).bind fun a =>
 (ak .other .lss a.1 (vi 0)).bind fun m =>
 au m
 (ld [.n, .f 2] B a.2 fun o =>
 AB 1 1 [(vi 0)] [(0, C)] a.2 fun p g =>
 (e8 1 8 o p g).bind fun b =>
 ad [.n, .f 3] B fun e =>
 (aq e b.2).bind fun q =>
 bS (aq e g) (aq e b.2) <|
 AB 1 1 [(vw 0)] [(0, D)] b.2 fun s t =>
 (e8 1 8 q s t).bind fun j =>
 st 1 [.n, .f 2] B b.1 j.2 fun w =>
 st 1 [.n, .f 3] B j.1 w fun y =>
 some (Value.tuple #[], y))
 (ld [.n, .f 3] B a.2 fun z =>
 st 1 [.i 1 a.1] z D a.2 fun A =>
 some (Value.tuple #[], A))) = some r) : FF jM [B, E, C, D] H = some r :=
 fo Tryz.func153 (by kernel_rfl) h
theorem vS {r : Value × AH} (h : (
 ad [.n, .f 0] B fun a =>
 (aq a H).bind fun d =>
 (FF bY [(vi 9), C, (vi 0)] H).bind fun b =>
 bS (aq a b.2) (aq a H) <|
 (cF (some .u64) K).bind fun e =>
 (ak .other .add e (vw 1)).bind fun g =>
 (FF gv [d, E, b.1, D, g] b.2).bind fun c =>
 some (c.1, c.2)) = some r) : FF jN [B, E, C, D, K] H = some r :=
 fo Tryz.func154 (by kernel_rfl) h
theorem tR {r : Value × AH} (h : (
 ad [.n, .f 0] B fun a =>
 (aq a H).bind fun c =>
 (FF bY [(vi 10), C, D] H).bind fun b =>
 bS (aq a b.2) (aq a H) <|
 (FF ef [c, E, b.1, (vw 0)] b.2).bind fun d =>
 some (Value.tuple #[], d.2)) = some r) : FF ji [B, E, C, D] H = some r :=
 fo Tryz.func155 (by kernel_rfl) h
noncomputable def qh (p : List Nat) : Code := Code.sub (bQ Tryz.f156) p
noncomputable def nA : KK := eO PP (Tryz.f156).results.toList
noncomputable def OH : KK := CQ (qh [1, 1]) nA bP nA
noncomputable def u0 : OV := OH (ls [B, E, C, u, u, u, J] 23) H
noncomputable def Gm : KK := CQ (qh [1, 1, 1]) nA bP nA
noncomputable def OG : KK := gY 1073741759 Gm
noncomputable def u1 : OV := Gm (ls [u, u, u, u, u, u, J] 23) H
noncomputable def OI : KK := CQ (qh [1, 1, 0, 1]) OG bP nA
noncomputable def u2 : OV := OI (ls [B, E, C, u, u, u, J, M] 22) H
noncomputable def Gp : KX := BX 0 OG bP
noncomputable def OK : KX := wG 1073741759 Gp
noncomputable def Gn : KK := Iu (qh [1, 1, 0, 1, 4, 5]) OK nA
noncomputable def aaI : KK := gY 1073741624 Gn
noncomputable def u3 : OV := Gn (ls [B, E, C, u, u, u, J, M] 22) H
noncomputable def OJ : KK := CQ (qh [1, 1, 0, 1, 4, 5, 1]) aaI OK nA
noncomputable def G4 : OV := OJ (ls [B, E, C, u, u, u, J, M] 22) H
noncomputable def qo : OV := Gp 0 (ls [u, u, u, u, u, u, J] 23) H
theorem lZ : av 1073741759 nA := rf
theorem RU : av 1073741752 OH := rc lZ aE lZ
theorem wX : av 1073741759 Gm := rc lZ aE lZ
theorem RV : av 1073741624 OI := rc (cd wX) aE lZ
theorem wZ : ∀ i, av 1073741759 (Gp i) := rb (cd wX) aE
theorem wY : av 1073741624 Gn := rl (cx wZ) lZ
theorem RW : av 1073741624 OJ := rc (cd wY) (cx wZ) lZ
theorem zd : u1 J H =
 some ((vb true), H) :=
 (by kernel_rfl)
theorem uZ : qo J H = u1 J H :=
 (by kernel_rfl)
theorem zf : u3 B E C J M H =
 gI B fun a =>
 (ak .other .lss M a).bind fun b =>
 au b
 (G4 B E C J M H)
 (qo J H) :=
 Jy rfl wY (pt rfl 0 RW (by kernel_rfl))
theorem ze : u2 B E C J M H =
 u3 B E C J M H :=
 (bt rfl (qh [1, 1, 0, 1, 4]) 0 wZ (li rfl (qh [1, 1, 0, 1, 4, 5]) wY (by kernel_rfl)))
theorem zc : u0 B E C J H =
 u2 B E C J (vi 0) H :=
 (pt rfl 0 wX (pt rfl 0 RV (by kernel_rfl)))
noncomputable def SX : OV := bi PP GG FF (qh []) (ls [B, E, C] 27) H nA bP nA
theorem G5 {r : Value × AH} (h : (
 gI B fun a =>
 gI E fun b =>
 (ak .other .neq a b).bind fun c =>
 au c
 (some ((vb false), H))
 (u0 B E C (vb false) H)) = some r) : FF qA [B, E, C] H = some r :=
 fo (t := SX B E C H) Tryz.func156 (by kernel_rfl) (Eq.trans (pt rfl 1 RU (by kernel_rfl)) h)
noncomputable def hM (p : List Nat) : Code := Code.sub (bQ Tryz.f161) p
noncomputable def iG : KK := eO PP (Tryz.f161).results.toList
noncomputable def OU : KK := CQ (hM [1, 1, 1]) iG bP iG
noncomputable def yV : OV := OU (ls [B, u, C, D] 38) H
noncomputable def Gx : KK := CQ (hM [1, 1, 1, 1]) iG bP iG
noncomputable def aaJ : KK := gY yl Gx
noncomputable def rj : OV := Gx (ls [u, u, C, D] 38) H
noncomputable def Gy : KK := CQ (hM [1, 1, 1, 1, 1]) iG bP iG
noncomputable def OS : KK := gY yl Gy
noncomputable def yW : OV := Gy (ls [u, u, C, D] 38) H
noncomputable def OW : KK := CQ (hM [1, 1, 1, 1, 0, 1]) OS bP iG
noncomputable def yX : OV := OW (ls [u, u, C, D, u, u, u, u, u, u, u, u, u, u, u, u, u, u, u, u, u, u, u, u, u, u, u, u, G, I] 12) H
noncomputable def GB : KX := BX 2 OS bP
noncomputable def Ai : KX := wG yl GB
noncomputable def Gz : KK := Iu (hM [1, 1, 1, 1, 0, 1, 4, 5]) Ai iG
noncomputable def OT : KK := gY Be Gz
noncomputable def np : OV := Gz (ls [u, u, C, D, u, u, u, u, u, u, u, u, u, u, u, u, u, u, u, u, u, u, u, u, u, u, u, u, G, I] 12) H
noncomputable def OX : KK := CQ (hM [1, 1, 1, 1, 0, 1, 4, 5, 1, 1]) OT Ai iG
noncomputable def yY : OV := OX (ls [u, u, C, D, u, u, u, u, u, u, u, u, u, u, u, u, u, u, u, u, u, u, u, u, u, u, u, u, G, I] 12) H
noncomputable def GA : KK := CQ (hM [1, 1, 1, 1, 0, 1, 4, 5, 1, 1, 1]) OT Ai iG
noncomputable def aaK : KK := gY Be GA
noncomputable def yZ : OV := GA (ls [u, u, C, D, u, u, u, u, u, u, u, u, u, u, u, u, u, u, u, u, u, u, u, u, u, u, u, u, G, I] 12) H
noncomputable def aaL : KX := BX 3 aaK Ai
noncomputable def s4 : OV := GB 2 (ls [u, u, C, D] 38) H
noncomputable def BR : KX := BX 0 aaJ bP
noncomputable def BS : KX := wG yl BR
noncomputable def BQ : KK := Iu (hM [1, 1, 1, 0, 4, 5]) BS iG
noncomputable def Jf : KK := gY IK BQ
noncomputable def lu : OV := BQ (ls [B, u, C, D] 38) H
noncomputable def Jg : KK := CQ (hM [1, 1, 1, 0, 4, 5, 1]) Jf BS iG
noncomputable def wB : OV := Jg (ls [B, u, C, D] 38) H
noncomputable def VM : KX := BX 1 Jf BS
noncomputable def ri : OV := BR 0 (ls [u, u, C, D] 38) H
theorem fX : av 4398046511099 iG := rf
theorem R5 : av IK OU := rc fX aE fX
theorem EA : av yl Gx := rc fX aE fX
theorem w4 : av yl Gy := rc fX aE fX
theorem R6 : av Be OW := rc (cd w4) aE fX
theorem nT : ∀ i, av yl (GB i) := rb (cd w4) aE
theorem rN : av Be Gz := rl (cx nT) fX
theorem R7 : av Be OX := rc (cd rN) (cx nT) fX
theorem EB : av Be GA := rc (cd rN) (cx nT) fX
theorem R8 : ∀ i, av Be (aaL i) := rb (cd EB) (cx nT)
theorem oM : ∀ i, av yl (BR i) := rb (cd EA) aE
theorem oL : av IK BQ := rl (cx oM) fX
theorem LI : av IK Jg := rc (cd oL) (cx oM) fX
theorem LJ : ∀ i, av IK (VM i) := rb (cd oL) (cx oM)
theorem Ds : yW C D H =
 some (D, H) :=
 (by kernel_rfl)
theorem Dv : yZ C D G I H =
 (ak .other .add I (vi 1)).bind fun a =>
 np C D G a H :=
 (by kernel_rfl)
theorem Du : yY C D G I H =
 ld [.n, .f 2] D H fun b =>
 AB 1 1 [(vi 0)] [(0, (vi (-1)))] H fun c d =>
 (e8 1 8 b c d).bind fun a =>
 st 1 [.n, .f 2] D a.1 a.2 fun e =>
 yZ C D G I e :=
 (pt rfl 0 EB (bt rfl (hM [1, 1, 1, 1, 0, 1, 4, 5, 1, 1, 0, 4]) 3 R8 (by kernel_rfl)))
theorem yd : s4 C D H = yW C D H :=
 (by kernel_rfl)
theorem rk : np C D G I H =
 (ak .other .lss I G).bind fun a =>
 au a
 (yY C D G I H)
 (s4 C D H) :=
 Jy rfl rN (pt rfl 1 R7 (by kernel_rfl))
theorem Dt : yX C D G I H =
 np C D G I H :=
 (bt rfl (hM [1, 1, 1, 1, 0, 1, 4]) 2 nT (li rfl (hM [1, 1, 1, 1, 0, 1, 4, 5]) rN (by kernel_rfl)))
theorem Dq : rj C D H =
 ld [.n, .f 1] D H fun a =>
 (ak .other .mul (vi 2) a).bind fun b =>
 yX C D b (vi 0) H :=
 (pt rfl 0 w4 (pt rfl 0 R6 (by kernel_rfl)))
theorem z9 : wB B C D H =
 ld [.n, .f 1] D H fun a =>
 (ak .other .mul a (vi 2)).bind fun b =>
 st 1 [.n, .f 1] D b H fun c =>
 lu B C D c :=
 (bt rfl (hM [1, 1, 1, 0, 4, 5, 1, 4]) 1 LJ (by kernel_rfl))
theorem nl : ri C D H = rj C D H :=
 (by kernel_rfl)
theorem pM : lu B C D H =
 ld [.n, .f 1] D H fun a =>
 (ak .other .lss a B).bind fun b =>
 au b
 (wB B C D H)
 (ri C D H) :=
 Jy rfl oL (pt rfl 0 LI (by kernel_rfl))
theorem Dp : yV B C D H =
 lu B C D H :=
 (pt rfl 0 EA (bt rfl (hM [1, 1, 1, 0, 4]) 0 oM (li rfl (hM [1, 1, 1, 0, 4, 5]) oL (by kernel_rfl))))
noncomputable def Y5 : OV := bi PP GG FF (hM []) (ls [B] 41) H iG bP iG
theorem Kj {r : Value × AH} (h : (
 (ir [B, (vi 1)]).bind fun c =>
 (jz [c, (vi 16)]).bind fun a =>
 (mv [(vw 0), (vi 0), (vb false)] 3 24 a a H).bind fun b =>
 gJ [(0, 1), (1, 1), (2, 1)] [(.slice none 0 0), (vi 0), (.slice none 0 0)] [(0, b.1), (1, (vi 1))] fun d =>
 aS (Value.cells d).toList b.2 fun e f =>
 yV a (.pointer none) e f) = some r) : FF tE [B] H = some r :=
 fo (t := Y5 B H) Tryz.func161 (by kernel_rfl) (Eq.trans (pt rfl 2 R5 (by kernel_rfl)) h)
theorem If {r : Value × AH} (h : (
 (FF qL [B] H).bind fun a =>
 (FF tv [] a.2).bind fun b =>
 gJ [(0, 1), (1, 1), (2, 1)] [(.pointer none), (.pointer none), (vi 0)] [(0, a.1), (1, b.1), (2, B)] fun c =>
 aS (Value.cells c).toList b.2 fun d e =>
 some (d, e)) = some r) : FF qJ [B] H = some r :=
 fo Tryz.func162 (by kernel_rfl) h
theorem HD {r : Value × AH} (h : (
 (ir [B, (vi 0)]).bind fun a =>
 (jz [a, (vi 40)]).bind fun b =>
 some (b, H)) = some r) : FF qI [B] H = some r :=
 fo Tryz.func171 (by kernel_rfl) h
theorem Ed {r : Value × AH} (h : (
 (FF jk [B] H).bind fun a =>
 (oW .not a.1).bind fun b =>
 au b
 (some ((vi (-1)), a.2))
 ((ak .other .shr B (vw 61)).bind fun c =>
 (cF (some .i64) c).bind fun d =>
 some (d, a.2))) = some r) : FF dK [B] H = some r :=
 fo Tryz.func172 (by kernel_rfl) h
theorem In {r : Value × AH} (h : (
 (ak .other .gtr B (vw 2305843009213693951)).bind fun a =>
 (gV a false E).bind fun c =>
 (gB a false (ak .other .lss c (vi 0))).bind fun d =>
 (aM a (vb true) d).bind fun b =>
 (gV b false E).bind fun e =>
 (gB b false (ak .other .geq e (vi 3))).bind fun f =>
 (aM b (vb true) f).bind fun g =>
 au g
 (some (Value.tuple #[(vw 0), (vb false)], H))
 ((cF (some .u64) E).bind fun i =>
 (ak .other .shl i (vw 61)).bind fun j =>
 (ak .other .or j B).bind fun k =>
 some (Value.tuple #[k, (vb true)], H))) = some r) : FF kA [B, E] H = some r :=
 fo Tryz.func173 (by kernel_rfl) h
theorem Eb {r : Value × AH} (h : (
 (FF jk [B] H).bind fun a =>
 (oW .not a.1).bind fun b =>
 au b
 (some ((vw 0), a.2))
 ((ak .other .and B (vw 2305843009213693951)).bind fun c =>
 some (c, a.2))) = some r) : FF dl [B] H = some r :=
 fo Tryz.func174 (by kernel_rfl) h
theorem JQ {r : Value × AH} (h : (
 (ak .other .gtr B (vw 2305843009213693951)).bind fun a =>
 (gV a false E).bind fun c =>
 (gB a false (ak .other .lss c (vi 0))).bind fun d =>
 (aM a (vb true) d).bind fun b =>
 (gV b false E).bind fun e =>
 (gB b false (ak .other .gtr e (vi 2))).bind fun f =>
 (aM b (vb true) f).bind fun g =>
 au g
 (some (Value.tuple #[(vw 0), (vb false)], H))
 ((cF (some .u64) E).bind fun i =>
 (ak .other .mul i (vw 2305843009213693952)).bind fun j =>
 (ak .other .add j B).bind fun k =>
 some (Value.tuple #[k, (vb true)], H))) = some r) : FF mm [B, E] H = some r :=
 fo Tryz.func175 (by kernel_rfl) h
theorem Li {r : Value × AH} (h : (
 ld [.n, .f 0] B H fun a =>
 ld [.n, .f 1] B H fun b =>
 gJ [(0, 1), (1, 1), (2, 1), (3, 1)] [(vi 0), (.slice none 0 0), (vi 0), (vw 0)] [(0, C)] fun c =>
 (FF fQ [a, E, b, c] H).bind fun d =>
 some (Value.tuple #[], d.2)) = some r) : FF lH [B, E, C] H = some r :=
 fo Tryz.func176 (by kernel_rfl) h
theorem Lc {r : Value × AH} (h : (
 aS [(vi 0), (.slice none 0 0), (vi 0), (vw 0)] H fun a c =>
 gJ [(0, 1), (1, 1), (2, 1), (3, 1)] [(vi 0), (.slice none 0 0), (vi 0), (vw 0)] [(0, E)] fun d =>
 (cB 4 a d c).bind fun b =>
 (ay 4 a b).bind fun e => some (Value.tuple #[e, (vb true)], b)) = some r) : FF lE [B, E] H = some r :=
 fo Tryz.func177 (by kernel_rfl) h
noncomputable def LP (p : List Nat) : Code := Code.sub (bQ Tryz.f178) p
noncomputable def s8 : KK := eO PP (Tryz.f178).results.toList
noncomputable def OY : KK := CQ (LP [1, 1, 1]) s8 bP s8
noncomputable def Ep : OV := OY (ls [B, u, C, D, K, L] 65) H
noncomputable def OZ : KK := CQ (LP [1, 1, 1, 1]) s8 bP s8
noncomputable def rI : OV := OZ (ls [B, u, C] 68) H
theorem uK : av 2361183241434822606843 s8 := rf
theorem R9 : av 2361183241434822606786 OY := rc uK aE uK
theorem Sa : av 2361183241434822606842 OZ := rc uK aE uK
theorem FQ : rI B C H =
 ad [.n, .f 8] B fun a =>
 (aq a H).bind fun c =>
 ld [.n, .f 0] B H fun d =>
 ld [.n, .f 2] d H fun e =>
 (FF dF [e] H).bind fun b =>
 bS (aq a b.2) (aq a H) <|
 (ak .other .geq c b.1).bind fun g =>
 some (g, b.2) :=
 (by kernel_rfl)
theorem uw : Ep B C D K L H =
 (gV L true D).bind fun b =>
 (gV L true B).bind fun c =>
 fI L true  [.n, .f 2, .f 1] c H fun d =>
 (gB L true (ak .other .eql b d)).bind fun e =>
 (aM L e (vb false)).bind fun g =>
 st 1 [.n, .f 10] B g H fun a =>
 ld [.n, .f 10] B a fun i =>
 au i
 (st 1 [.n, .f 9] B K a fun j =>
 rI B C j)
 (rI B C a) :=
 (pt rfl 0 Sa (by kernel_rfl))
noncomputable def aeC : OV := bi PP GG FF (LP []) (ls [B] 70) H s8 bP s8
theorem Rb {r : Value × AH} (h : (
 ld [.n, .f 0] B H fun b =>
 ld [.n, .f 2] b H fun c =>
 ld [.n, .f 1] B H fun d =>
 ld [.n, .f 6] B H fun e =>
 ld [.n, .f 8] B H fun g =>
 (FF fS [c, d, e, g] H).bind fun a =>
 (ag a.1 0).bind fun i =>
 (ag a.1 1).bind fun j =>
 (ag a.1 2).bind fun k =>
 ld [.n, .f 8] B a.2 fun l =>
 (ak .other .add l (vi 1)).bind fun m =>
 st 1 [.n, .f 8] B m a.2 fun o =>
 Ep B (vb false) i j k o) = some r) : FF vx [B] H = some r :=
 fo (t := aeC B H) Tryz.func178 (by kernel_rfl) (Eq.trans (pt rfl 2 R9 (by kernel_rfl)) h)
theorem Vf {r : Value × AH} (h : (
 aS [(vi 0), (.slice none 0 0), (vi 0), (vw 0)] H fun a c =>
 st 1 [.n, .f 7] B E c fun d =>
 gJ [(0, 1), (1, 1), (2, 1), (3, 1)] [(vi 0), (.slice none 0 0), (vi 0), (vw 0)] [] fun e =>
 (cB 4 a e d).bind fun b =>
 (ay 4 a b).bind fun g => some (Value.tuple #[g, (vb false)], b)) = some r) : FF bH [B, E] H = some r :=
 fo Tryz.func179 (by kernel_rfl) h
theorem Lh {r : Value × AH} (h : (
 aS [(vi 0), (.slice none 0 0), (vi 0), (vw 0)] H fun d a =>
 ld [.n, .f 0] B a fun i =>
 ld [.n, .f 1] B a fun j =>
 ld [.n, .f 9] B a fun k =>
 (FF jf [i, j, k] a).bind fun b =>
 ld [.n, .f 0] B b.2 fun l =>
 ld [.n, .f 9] B b.2 fun m =>
 (FF dV [l, m] b.2).bind fun e =>
 st 1 [.n, .f 11] B e.1 e.2 fun o =>
 (FF bH [B, (.func (.func cf) #[B] #[])] o).bind fun c =>
 (ag c.1 0).bind fun p =>
 (ag c.1 1).bind fun q =>
 (cB 4 d p c.2).bind fun g =>
 (ay 4 d g).bind fun s => some (Value.tuple #[s, q], g)) = some r) : FF gL [B, E] H = some r :=
 fo Tryz.func180 (by kernel_rfl) h
theorem Lg {r : Value × AH} (h : (
 aS [(vi 0), (.slice none 0 0), (vi 0), (vw 0)] H fun b a =>
 ld [.n, .f 0] B a fun j =>
 ld [.n, .f 2] j a fun k =>
 ld [.n, .f 1] B a fun l =>
 ld [.n, .f 6] B a fun m =>
 (FF d4 [k, l, m] a).bind fun c =>
 (oW .not c.1).bind fun o =>
 au o
 ((FF bH [B, (.func (.func dg) #[B] #[])] c.2).bind fun d =>
 (ag d.1 0).bind fun p =>
 (ag d.1 1).bind fun q =>
 (cB 4 b p d.2).bind fun g =>
 (ay 4 b g).bind fun s => some (Value.tuple #[s, q], g))
 (st 1 [.n, .f 8] B (vi 0) c.2 fun t =>
 (FF bH [B, (.func (.func eE) #[B] #[])] t).bind fun e =>
 (ag e.1 0).bind fun w =>
 (ag e.1 1).bind fun y =>
 (cB 4 b w e.2).bind fun i =>
 (ay 4 b i).bind fun z => some (Value.tuple #[z, y], i))) = some r) : FF dg [B, E] H = some r :=
 fo Tryz.func181 (by kernel_rfl) h
theorem z5 {r : Value × AH} (h : (
 st 1 [.n, .f 16] B C H fun a =>
 ld [.n, .f 0] B a fun b =>
 ld [.n, .f 1] B a fun c =>
 gJ [(0, 1), (1, 1), (2, 1), (3, 1)] [(vi 0), (.slice none 0 0), (vi 0), (vw 0)] [(0, C)] fun d =>
 (FF fQ [b, E, c, d] a).bind fun e =>
 some (Value.tuple #[], e.2)) = some r) : FF cT [B, E, C] H = some r :=
 fo Tryz.func182 (by kernel_rfl) h
theorem D3 {r : Value × AH} (h : (
 aS [(vi 0), (.slice none 0 0), (vi 0), (vw 0)] H fun a c =>
 st 1 [.n, .f 7] B E c fun d =>
 gJ [(0, 1), (1, 1), (2, 1), (3, 1)] [(vi 0), (.slice none 0 0), (vi 0), (vw 0)] [] fun e =>
 (cB 4 a e d).bind fun b =>
 (ay 4 a b).bind fun g => some (Value.tuple #[g, (vb false)], b)) = some r) : FF bd [B, E] H = some r :=
 fo Tryz.func183 (by kernel_rfl) h
noncomputable def GM (p : List Nat) : Code := Code.sub (bQ Tryz.f184) p
noncomputable def s9 : KK := eO PP (Tryz.f184).results.toList
noncomputable def O7 : KK := CQ (GM [1, 1]) s9 bP s9
noncomputable def pK : OV := O7 (ls [B, E, u, u, K, L, J, M] 42) H
noncomputable def GN : KK := CQ (GM [1, 1, 1]) s9 bP s9
noncomputable def aaO : KK := gY 1125899906842574 GN
noncomputable def pL : OV := GN (ls [B, u, u, u, K, L] 44) H
noncomputable def aaP : KX := BX 0 aaO bP
theorem uN : av 1125899906842575 s9 := rf
theorem Sf : av 1125899906842380 O7 := rc uN aE uN
theorem ED : av 1125899906842574 GN := rc uN aE uN
theorem Sg : ∀ i, av 1125899906842574 (aaP i) := rb (cd ED) aE
theorem t7 : pL B K L H =
 (FF bd [B, (.func (.func b8) #[B] #[])] H).bind fun a =>
 (ag a.1 0).bind fun c =>
 (ag a.1 1).bind fun d =>
 (cB 4 K c a.2).bind fun b =>
 (ay 4 K b).bind fun e => some (Value.tuple #[e, d], b) :=
 (by kernel_rfl)
theorem t6 : pK B E K L J M H =
 au J
 (ld [.n, .f 0] B H fun g =>
 ld [.n, .f 11] B H fun i =>
 (FF dV [g, i] H).bind fun c =>
 st 1 [.n, .f 12] B c.1 c.2 fun j =>
 (FF bd [B, (.func (.func bq) #[B] #[])] j).bind fun a =>
 (ag a.1 0).bind fun k =>
 (ag a.1 1).bind fun l =>
 (cB 4 K k a.2).bind fun d =>
 (ay 4 K d).bind fun m => some (Value.tuple #[m, l], d))
 (au M
 ((FF cT [B, E, (vi 5)] H).bind fun o =>
 (FF bd [B, (.func (.func aK) #[B] #[])] o.2).bind fun b =>
 (ag b.1 0).bind fun p =>
 (ag b.1 1).bind fun q =>
 (cB 4 K p b.2).bind fun e =>
 (ay 4 K e).bind fun s => some (Value.tuple #[s, q], e))
 (pL B K L H)) :=
 (pt rfl 0 ED (bt rfl (GM [1, 1, 0, 4]) 0 Sg (by kernel_rfl)))
noncomputable def HX : OV := bi PP GG FF (GM []) (ls [B, E] 48) H s9 bP s9
theorem z1 {r : Value × AH} (h : (
 aS [(vi 0), (.slice none 0 0), (vi 0), (vw 0)] H fun b c =>
 (FF j6 [B] c).bind fun a =>
 (ag a.1 0).bind fun d =>
 (ag a.1 1).bind fun e =>
 pK B E b (vb false) d e a.2) = some r) : FF b8 [B, E] H = some r :=
 fo (t := HX B E H) Tryz.func184 (by kernel_rfl) (Eq.trans (pt rfl 1 Sf (by kernel_rfl)) h)
end
section
variable (D E J L G I K M : Value) (H : AH)
noncomputable def GO (p : List Nat) : Code := Code.sub (bQ Tryz.f185) p
noncomputable def ta : KK := eO PP (Tryz.f185).results.toList
noncomputable def O8 : KK := CQ (GO [1, 1]) ta bP ta
noncomputable def ni : OV := O8 (ls [D, E, u, u, G, I, K, M] 48) H
noncomputable def GP : KK := CQ (GO [1, 1, 1]) ta bP ta
noncomputable def aaQ : KK := gY 72057594037927886 GP
noncomputable def nj : OV := GP (ls [D, u, u, u, G, I] 50) H
noncomputable def aaR : KX := BX 0 aaQ bP
theorem uO : av II ta := rf
theorem Sh : av 72057594037927692 O8 := rc uO aE uO
theorem EE : av 72057594037927886 GP := rc uO aE uO
theorem Si : ∀ i, av 72057594037927886 (aaR i) := rb (cd EE) aE
theorem q7 : nj D G I H =
 (FF bd [D, (.func (.func bN) #[D] #[])] H).bind fun a =>
 (ag a.1 0).bind fun c =>
 (ag a.1 1).bind fun d =>
 (cB 4 G c a.2).bind fun b =>
 (ay 4 G b).bind fun e => some (Value.tuple #[e, d], b) :=
 (by kernel_rfl)
theorem qZ : ni D E G I K M H =
 au K
 ((FF cT [D, E, (vi 6)] H).bind fun i =>
 (FF bd [D, (.func (.func aK) #[D] #[])] i.2).bind fun a =>
 (ag a.1 0).bind fun j =>
 (ag a.1 1).bind fun k =>
 (cB 4 G j a.2).bind fun d =>
 (ay 4 G d).bind fun l => some (Value.tuple #[l, k], d))
 ((gV M true D).bind fun m =>
 fI M true  [.n, .f 9] m H fun o =>
 (gB M true (ak .other .lss o (vi 0))).bind fun p =>
 (aM M p (vb false)).bind fun q =>
 au q
 ((FF cT [D, E, (vi 7)] H).bind fun s =>
 (FF bd [D, (.func (.func aK) #[D] #[])] s.2).bind fun b =>
 (ag b.1 0).bind fun t =>
 (ag b.1 1).bind fun w =>
 (cB 4 G t b.2).bind fun e =>
 (ay 4 G e).bind fun y => some (Value.tuple #[y, w], e))
 (au M
 ((FF bd [D, (.func (.func dr) #[D] #[])] H).bind fun c =>
 (ag c.1 0).bind fun z =>
 (ag c.1 1).bind fun A =>
 (cB 4 G z c.2).bind fun g =>
 (ay 4 G g).bind fun B => some (Value.tuple #[B, A], g))
 (nj D G I H))) :=
 (pt rfl 0 EE (bt rfl (GO [1, 1, 0, 4]) 0 Si (by kernel_rfl)))
noncomputable def C2 : OV := bi PP GG FF (GO []) (ls [D, E] 54) H ta bP ta
theorem we {r : Value × AH} (h : (
 aS [(vi 0), (.slice none 0 0), (vi 0), (vw 0)] H fun b c =>
 (FF j6 [D] c).bind fun a =>
 (ag a.1 0).bind fun d =>
 (ag a.1 1).bind fun e =>
 ni D E b (vb false) d e a.2) = some r) : FF bN [D, E] H = some r :=
 fo (t := C2 D E H) Tryz.func185 (by kernel_rfl) (Eq.trans (pt rfl 1 Sh (by kernel_rfl)) h)
noncomputable def nB (p : List Nat) : Code := Code.sub (bQ Tryz.f186) p
noncomputable def ma : KK := eO PP (Tryz.f186).results.toList
noncomputable def Pb : KK := CQ (nB [1]) ma bP ma
noncomputable def pB : OV := Pb (ls [D, E, u, u, G] 20) H
noncomputable def GQ : KK := CQ (nB [1, 1]) ma bP ma
noncomputable def O9 : KK := gY 33554415 GQ
noncomputable def pC : OV := GQ (ls [u, u, u, u, G] 20) H
noncomputable def Pc : KK := CQ (nB [1, 0, 1]) O9 bP ma
noncomputable def pD : OV := Pc (ls [D, E, u, u, G, I] 19) H
noncomputable def GT : KX := BX 0 O9 bP
noncomputable def Al : KX := wG 33554415 GT
noncomputable def GR : KK := Iu (nB [1, 0, 1, 4, 5]) Al ma
noncomputable def Pa : KK := gY 33554380 GR
noncomputable def iC : OV := GR (ls [D, E, u, u, G, I] 19) H
noncomputable def Pd : KK := CQ (nB [1, 0, 1, 4, 5, 1]) Pa Al ma
noncomputable def pE : OV := Pd (ls [D, E, u, u, G, I] 19) H
noncomputable def GS : KK := CQ (nB [1, 0, 1, 4, 5, 1, 1]) Pa Al ma
noncomputable def aaS : KK := gY 33554380 GS
noncomputable def pF : OV := GS (ls [D, E, u, u, G, I] 19) H
noncomputable def aaT : KX := BX 1 aaS Al
noncomputable def ne : OV := GT 0 (ls [u, u, u, u, G] 20) H
theorem ku : av 33554415 ma := rf
theorem Sj : av 33554412 Pb := rc ku aE ku
theorem w6 : av 33554415 GQ := rc ku aE ku
theorem Sk : av 33554380 Pc := rc (cd w6) aE ku
theorem nW : ∀ i, av 33554415 (GT i) := rb (cd w6) aE
theorem rS : av 33554380 GR := rl (cx nW) ku
theorem Sm : av 33554380 Pd := rc (cd rS) (cx nW) ku
theorem EF : av 33554380 GS := rc (cd rS) (cx nW) ku
theorem Sn : ∀ i, av 33554380 (aaT i) := rb (cd EF) (cx nW)
theorem tM : pC G H =
 some ((vi (-1)), H) :=
 (by kernel_rfl)
theorem tP : pF D E G I H =
 (ak .other .add I (vi 1)).bind fun a =>
 iC D E G a H :=
 (by kernel_rfl)
theorem tO : pE D E G I H =
 ld [.n, .f 2] D H fun a =>
 ld [.i 1 I] a H fun b =>
 (ak .other .eql b E).bind fun c =>
 au c
 (some (I, H))
 (pF D E G I H) :=
 (pt rfl 0 EF (bt rfl (nB [1, 0, 1, 4, 5, 1, 0, 4]) 1 Sn (by kernel_rfl)))
theorem qR : ne G H = pC G H :=
 (by kernel_rfl)
theorem my : iC D E G I H =
 ld [.n, .f 2] D H fun a =>
 gI a fun b =>
 (ak .other .lss I b).bind fun c =>
 au c
 (pE D E G I H)
 (ne G H) :=
 Jy rfl rS (pt rfl 0 Sm (by kernel_rfl))
theorem tN : pD D E G I H =
 iC D E G I H :=
 (bt rfl (nB [1, 0, 1, 4]) 0 nW (li rfl (nB [1, 0, 1, 4, 5]) rS (by kernel_rfl)))
theorem tL : pB D E G H =
 pD D E G (vi 0) H :=
 (pt rfl 0 w6 (pt rfl 0 Sk (by kernel_rfl)))
noncomputable def HF : OV := bi PP GG FF (nB []) (ls [D, E] 23) H ma bP ma
theorem zM {r : Value × AH} (h : (
 pB D E (vi 0) H) = some r) : FF mn [D, E] H = some r :=
 fo (t := HF D E H) Tryz.func186 (by kernel_rfl) (Eq.trans (pt rfl 0 Sj (by kernel_rfl)) h)
theorem Il {r : Value × AH} (h : (
 (FF oV [D] H).bind fun a =>
 DT a.2 fun b c =>
 gJ [(0, 1), (1, 1), (2, 192), (194, 3), (197, 1)] [(vw 0), (vi 0), (.slice none 0 0), (.slice none 0 0), (.slice none 0 0), (.slice none 0 0), (.slice none 0 0), (.slice none 0 0), (.slice none 0 0), (.slice none 0 0), (.slice none 0 0), (.slice none 0 0), (.slice none 0 0), (.slice none 0 0), (.slice none 0 0), (.slice none 0 0), (.slice none 0 0), (.slice none 0 0), (.slice none 0 0), (.slice none 0 0), (.slice none 0 0), (.slice none 0 0), (.slice none 0 0), (.slice none 0 0), (.slice none 0 0), (.slice none 0 0), (.slice none 0 0), (.slice none 0 0), (.slice none 0 0), (.slice none 0 0), (.slice none 0 0), (.slice none 0 0), (.slice none 0 0), (.slice none 0 0), (.slice none 0 0), (.slice none 0 0), (.slice none 0 0), (.slice none 0 0), (.slice none 0 0), (.slice none 0 0), (.slice none 0 0), (.slice none 0 0), (.slice none 0 0), (.slice none 0 0), (.slice none 0 0), (.slice none 0 0), (.slice none 0 0), (.slice none 0 0), (.slice none 0 0), (.slice none 0 0), (.slice none 0 0), (.slice none 0 0), (.slice none 0 0), (.slice none 0 0), (.slice none 0 0), (.slice none 0 0), (.slice none 0 0), (.slice none 0 0), (.slice none 0 0), (.slice none 0 0), (.slice none 0 0), (.slice none 0 0), (.slice none 0 0), (.slice none 0 0), (.slice none 0 0), (.slice none 0 0), (.slice none 0 0), (.slice none 0 0), (.slice none 0 0), (.slice none 0 0), (.slice none 0 0), (.slice none 0 0), (.slice none 0 0), (.slice none 0 0), (.slice none 0 0), (.slice none 0 0), (.slice none 0 0), (.slice none 0 0), (.slice none 0 0), (.slice none 0 0), (.slice none 0 0), (.slice none 0 0), (.slice none 0 0), (.slice none 0 0), (.slice none 0 0), (.slice none 0 0), (.slice none 0 0), (.slice none 0 0), (.slice none 0 0), (.slice none 0 0), (.slice none 0 0), (.slice none 0 0), (.slice none 0 0), (.slice none 0 0), (.slice none 0 0), (.slice none 0 0), (.slice none 0 0), (.slice none 0 0), (.slice none 0 0), (.slice none 0 0), (.slice none 0 0), (.slice none 0 0), (.slice none 0 0), (.slice none 0 0), (.slice none 0 0), (.slice none 0 0), (.slice none 0 0), (.slice none 0 0), (.slice none 0 0), (.slice none 0 0), (.slice none 0 0), (.slice none 0 0), (.slice none 0 0), (.slice none 0 0), (.slice none 0 0), (.slice none 0 0), (.slice none 0 0), (.slice none 0 0), (.slice none 0 0), (.slice none 0 0), (.slice none 0 0), (.slice none 0 0), (.slice none 0 0), (.slice none 0 0), (.slice none 0 0), (.slice none 0 0), (.slice none 0 0), (.slice none 0 0), (.slice none 0 0), (.slice none 0 0), (.slice none 0 0), (.slice none 0 0), (.slice none 0 0), (.slice none 0 0), (.slice none 0 0), (.slice none 0 0), (.slice none 0 0), (.slice none 0 0), (.slice none 0 0), (.slice none 0 0), (.slice none 0 0), (.slice none 0 0), (.slice none 0 0), (.slice none 0 0), (.slice none 0 0), (.slice none 0 0), (.slice none 0 0), (.slice none 0 0), (.slice none 0 0), (.slice none 0 0), (.slice none 0 0), (.slice none 0 0), (.slice none 0 0), (.slice none 0 0), (.slice none 0 0), (.slice none 0 0), (.slice none 0 0), (.slice none 0 0), (.slice none 0 0), (.slice none 0 0), (.slice none 0 0), (.slice none 0 0), (.slice none 0 0), (.slice none 0 0), (.slice none 0 0), (.slice none 0 0), (.slice none 0 0), (.slice none 0 0), (.slice none 0 0), (.slice none 0 0), (.slice none 0 0), (.slice none 0 0), (.slice none 0 0), (.slice none 0 0), (.slice none 0 0), (.slice none 0 0), (.slice none 0 0), (.slice none 0 0), (.slice none 0 0), (.slice none 0 0), (.slice none 0 0), (.slice none 0 0), (.slice none 0 0), (.slice none 0 0), (.slice none 0 0), (.slice none 0 0), (.slice none 0 0), (.slice none 0 0), (.slice none 0 0), (.slice none 0 0), (.slice none 0 0), (.slice none 0 0), (.slice none 0 0), (.slice none 0 0), (vw 0), (vw 0), (vw 0), (.map none)] [(1, a.1), (4, b)] fun d =>
 aS (Value.cells d).toList c fun e f =>
 some (e, f)) = some r) : FF qL [D] H = some r :=
 fo Tryz.func188 (by kernel_rfl) h
theorem Jo (H : AH) {r : Value × AH} (h : (
 DT H fun a b =>
 gJ [(0, 1), (1, 1)] [(.slice none 0 0), (.map none)] [(1, a)] fun c =>
 aS (Value.cells c).toList b fun d e =>
 some (d, e)) = some r) : FF tv [] H = some r :=
 fo Tryz.func189 (by kernel_rfl) h
theorem Ec {r : Value × AH} (h : (
 (ak .other .shr D (vw 61)).bind fun a =>
 (ak .other .lss a (vw 3)).bind fun b =>
 some (b, H)) = some r) : FF jk [D] H = some r :=
 fo Tryz.func204 (by kernel_rfl) h
theorem sr {r : Value × AH} (h : (
 aS (Value.cells L).toList H fun i a =>
 ad [.n, .f 12] D fun c =>
 (aq c a).bind fun j =>
 ad [.n, .f 11] D fun d =>
 (aq d a).bind fun e =>
 (cU .int (vi 0) e J false a).bind fun k =>
 (ay 4 i a).bind fun l =>
 (FF qF [l] a).bind fun b =>
 bS (aq c b.2) (aq c a) <|
 bS (aq d b.2) (aq d a) <|
 bS (cU .int (vi 0) e J false b.2) (cU .int (vi 0) e J false a) <|
 gJ [(0, 1), (1, 1), (2, 1), (3, 4)] [(vi 0), (vi 0), (vi 0), (vi 0), (.slice none 0 0), (vi 0), (vw 0)] [(0, E), (1, J), (2, k), (3, b.1)] fun m =>
 AB 1 7 [(vi 0), (vi 0), (vi 0), (vi 0), (.slice none 0 0), (vi 0), (vw 0)] [(0, m)] b.2 fun o p =>
 (e8 7 72 j o p).bind fun g =>
 st 1 [.n, .f 12] D g.1 g.2 fun q =>
 some (Value.tuple #[], q)) = some r) : FF fQ [D, E, J, L] H = some r :=
 fo Tryz.func205 (by kernel_rfl) h
theorem rg {r : Value × AH} (h : (
 ld [.n, .f 2] D H fun a =>
 some (a, H)) = some r) : FF dF [D] H = some r :=
 fo Tryz.func206 (by kernel_rfl) h
theorem Ln {r : Value × AH} (h : (
 aS [(vi 0), (.slice none 0 0), (vi 0), (vw 0)] H fun a b =>
 ld [.n, .f 11] D b fun l =>
 ld [.n, .f 1] D b fun m =>
 (FF fC [l, m] b).bind fun g =>
 st 1 [.n, .f 12] D g.1 g.2 fun i =>
 ld [.n, .f 12] D i fun o =>
 (FF dK [o] i).bind fun c =>
 (ak .other .eql c.1 (vi 2)).bind fun p =>
 au p
 ((FF bH [D, (.func (.func dg) #[D] #[])] c.2).bind fun d =>
 (ag d.1 0).bind fun q =>
 (ag d.1 1).bind fun s =>
 (cB 4 a q d.2).bind fun j =>
 (ay 4 a j).bind fun t => some (Value.tuple #[t, s], j))
 ((FF bH [D, (.func (.func lF) #[D] #[])] c.2).bind fun e =>
 (ag e.1 0).bind fun w =>
 (ag e.1 1).bind fun y =>
 (cB 4 a w e.2).bind fun k =>
 (ay 4 a k).bind fun z => some (Value.tuple #[z, y], k))) = some r) : FF cf [D, E] H = some r :=
 fo Tryz.func207 (by kernel_rfl) h
noncomputable def GU (p : List Nat) : Code := Code.sub (bQ Tryz.f208) p
noncomputable def tc : KK := eO PP (Tryz.f208).results.toList
noncomputable def Pe : KK := CQ (GU [1, 1]) tc bP tc
noncomputable def ux : OV := Pe (ls [D, E, u, u, G, I, K] 30) H
noncomputable def GV : KK := CQ (GU [1, 1, 1]) tc bP tc
noncomputable def aaU : KK := gY 137438953422 GV
noncomputable def uy : OV := GV (ls [D, u, u, u, G, I] 31) H
noncomputable def aaV : KX := BX 0 aaU bP
theorem uP : av us tc := rf
theorem So : av ym Pe := rc uP aE uP
theorem EG : av 137438953422 GV := rc uP aE uP
theorem Sq : ∀ i, av 137438953422 (aaV i) := rb (cd EG) aE
theorem y8 : uy D G I H =
 (FF bH [D, (.func (.func eE) #[D] #[])] H).bind fun a =>
 (ag a.1 0).bind fun c =>
 (ag a.1 1).bind fun d =>
 (cB 4 G c a.2).bind fun b =>
 (ay 4 G b).bind fun e => some (Value.tuple #[e, d], b) :=
 (by kernel_rfl)
theorem y7 : ux D E G I K H =
 ld [.n, .f 10] D H fun e =>
 au e
 ((FF bH [D, (.func (.func eF) #[D] #[])] H).bind fun a =>
 (ag a.1 0).bind fun g =>
 (ag a.1 1).bind fun i =>
 (cB 4 G g a.2).bind fun c =>
 (ay 4 G c).bind fun j => some (Value.tuple #[j, i], c))
 (au K
 ((FF lH [D, E, (vi 5)] H).bind fun k =>
 (FF bH [D, (.func (.func eF) #[D] #[])] k.2).bind fun b =>
 (ag b.1 0).bind fun l =>
 (ag b.1 1).bind fun m =>
 (cB 4 G l b.2).bind fun d =>
 (ay 4 G d).bind fun o => some (Value.tuple #[o, m], d))
 (uy D G I H)) :=
 (pt rfl 0 EG (bt rfl (GU [1, 1, 0, 4]) 0 Sq (by kernel_rfl)))
noncomputable def Rf : OV := bi PP GG FF (GU []) (ls [D, E] 35) H tc bP tc
theorem FS {r : Value × AH} (h : (
 aS [(vi 0), (.slice none 0 0), (vi 0), (vw 0)] H fun b c =>
 (FF vx [D] c).bind fun a =>
 ux D E b (vb false) a.1 a.2) = some r) : FF eE [D, E] H = some r :=
 fo (t := Rf D E H) Tryz.func208 (by kernel_rfl) (Eq.trans (pt rfl 1 So (by kernel_rfl)) h)
noncomputable def LV (p : List Nat) : Code := Code.sub (bQ Tryz.f209) p
noncomputable def td : KK := eO PP (Tryz.f209).results.toList
noncomputable def Pf : KK := CQ (LV [1, 1]) td bP td
noncomputable def qY : OV := Pf (ls [D, u, J, L, G, I, K] 81) H
noncomputable def Pg : KK := CQ (LV [1, 1, 1]) td bP td
noncomputable def jq : OV := Pg (ls [D, u, J, L, G, I, K] 81) H
theorem uQ : av 309485009821345068724781043 td := rf
theorem Sr : av 309485009821345068724780930 Pf := rc uQ aE uQ
theorem Ss : av 309485009821345068724780930 Pg := rc uQ aE uQ
theorem wb : jq D J L G I K H =
 ld [.n, .f 8] D H fun g =>
 st 1 [.n, .f 10] D g H fun i =>
 st 1 [.n, .f 11] D I i fun e =>
 ld [.n, .f 8] D e fun j =>
 (ak .other .add j (vi 1)).bind fun k =>
 st 1 [.n, .f 8] D k e fun a =>
 (gV K true G).bind fun l =>
 (gV K true D).bind fun m =>
 G3 K true  [.n, .f 2, .f 1] m fun c =>
 (gB K true (aq c a)).bind fun o =>
 (gB K true (ak .other .eql l o)).bind fun p =>
 (aM K p (vb false)).bind fun q =>
 ad [.n, .f 8] D fun d =>
 (aq d a).bind fun s =>
 ld [.n, .f 0] D a fun t =>
 ld [.n, .f 2] t a fun w =>
 (FF dF [w] a).bind fun b =>
 bS (aq c b.2) (aq c a) <|
 bS (aq d b.2) (aq d a) <|
 (ak .other .geq s b.1).bind fun y =>
 some (Value.tuple #[q, y], b.2) :=
 (by kernel_rfl)
theorem nh : qY D J L G I K H =
 (oW .not K).bind fun a =>
 (gV a true D).bind fun b =>
 fI a true  [.n, .f 9] b H fun c =>
 (gB a true (ak .other .lss c (vi 0))).bind fun d =>
 (aM a d (vb false)).bind fun e =>
 au e
 (ld [.n, .f 8] D H fun g =>
 st 1 [.n, .f 9] D g H fun i =>
 jq D J L G I K i)
 (jq D J L G I K H) :=
 (pt rfl 0 Ss (by kernel_rfl))
noncomputable def JX : OV := bi PP GG FF (LV []) (ls [D] 87) H td bP td
theorem CZ {r : Value × AH} (h : (
 ld [.n, .f 0] D H fun b =>
 ld [.n, .f 2] b H fun c =>
 ld [.n, .f 1] D H fun d =>
 ld [.n, .f 6] D H fun e =>
 ld [.n, .f 8] D H fun g =>
 (FF fS [c, d, e, g] H).bind fun a =>
 (ag a.1 0).bind fun i =>
 (ag a.1 1).bind fun j =>
 (ag a.1 2).bind fun k =>
 qY D (vb false) (vb false) i j k a.2) = some r) : FF j6 [D] H = some r :=
 fo (t := JX D H) Tryz.func209 (by kernel_rfl) (Eq.trans (pt rfl 1 Sr (by kernel_rfl)) h)
theorem z6 {r : Value × AH} (h : (
 aS [(vi 0), (.slice none 0 0), (vi 0), (vw 0)] H fun a g =>
 (FF j7 [D] g).bind fun b =>
 au b.1
 ((FF bd [D, (.func (.func ca) #[D] #[])] b.2).bind fun c =>
 (ag c.1 0).bind fun i =>
 (ag c.1 1).bind fun j =>
 (cB 4 a i c.2).bind fun e =>
 (ay 4 a e).bind fun k => some (Value.tuple #[k, j], e))
 ((FF bd [D, (.func (.func dO) #[D] #[])] b.2).bind fun d =>
 (ag d.1 0).bind fun l =>
 (ag d.1 1).bind fun m =>
 (cB 4 a l d.2).bind fun f =>
 (ay 4 a f).bind fun n => some (Value.tuple #[n, m], f))) = some r) : FF bq [D, E] H = some r :=
 fo Tryz.func210 (by kernel_rfl) h
theorem C0 {r : Value × AH} (h : (
 aS [(vi 0), (.slice none 0 0), (vi 0), (vw 0)] H fun b a =>
 ld [.n, .f 0] D a fun e =>
 ld [.n, .f 2] e a fun g =>
 ld [.n, .f 1] D a fun i =>
 ld [.n, .f 6] D a fun j =>
 (FF eI [g, i, j] a).bind fun c =>
 ld [.n, .f 16] D c.2 fun k =>
 gJ [(0, 1), (1, 1), (2, 1), (3, 1)] [(vi 0), (.slice none 0 0), (vi 0), (vw 0)] [(0, k)] fun l =>
 (cB 4 b l c.2).bind fun d =>
 (ay 4 b d).bind fun m => some (Value.tuple #[m, (vb true)], d)) = some r) : FF aK [D, E] H = some r :=
 fo Tryz.func211 (by kernel_rfl) h
theorem z3 {r : Value × AH} (h : (
 aS [(vi 0), (.slice none 0 0), (vi 0), (vw 0)] H fun d b =>
 ld [.n, .f 0] D b fun i =>
 ld [.n, .f 5, .f 4] i b fun j =>
 ld [.n, .f 2, .f 2] D b fun k =>
 (FF nJ [j, k] b).bind fun a =>
 (ag a.1 0).bind fun l =>
 (ag a.1 1).bind fun A =>
 ld [.n, .f 0] D a.2 fun m =>
 ld [.n, .f 1] D a.2 fun o =>
 ld [.n, .f 2, .f 1] D a.2 fun p =>
 ld [.n, .f 2, .f 3] D a.2 fun q =>
 gJ [(0, 1), (1, 1), (2, 1)] [(vi 0), (vi 0), (vw 0)] [(0, p), (1, q), (2, l)] fun s =>
 (FF dU [m, o, s] a.2).bind fun e =>
 st 1 [.n, .f 11] D e.1 e.2 fun t =>
 (FF bd [D, (.func (.func eR) #[D] #[])] t).bind fun c =>
 (ag c.1 0).bind fun w =>
 (ag c.1 1).bind fun y =>
 (cB 4 d w c.2).bind fun g =>
 (ay 4 d g).bind fun z => some (Value.tuple #[z, y], g)) = some r) : FF dr [D, E] H = some r :=
 fo Tryz.func212 (by kernel_rfl) h
theorem Ea {r : Value × AH} (h : (
 (ir [D, (vi 0)]).bind fun a =>
 (jz [a, (vi 40)]).bind fun b =>
 some (b, H)) = some r) : FF oV [D] H = some r :=
 fo Tryz.func214 (by kernel_rfl) h
theorem wm {r : Value × AH} (h : (
 ad [.n, .f 0] D fun a =>
 (aq a H).bind fun d =>
 (FF dZ [D, (vi 11), (vi 0)] H).bind fun b =>
 bS (aq a b.2) (aq a H) <|
 (FF dp [d, E, b.1] b.2).bind fun c =>
 some (c.1, c.2)) = some r) : FF fC [D, E] H = some r :=
 fo Tryz.func243 (by kernel_rfl) h
noncomputable def GW (p : List Nat) : Code := Code.sub (bQ Tryz.f244) p
noncomputable def te : KK := eO PP (Tryz.f244).results.toList
noncomputable def Pi : KK := CQ (GW [1, 1]) te bP te
noncomputable def Br : OV := Pi (ls [D, u, u, u, G, I, K] 45) H
noncomputable def GX : KK := CQ (GW [1, 1, 1]) te bP te
noncomputable def aaX : KK := gY 4503599627370446 GX
noncomputable def Bs : OV := GX (ls [D, u, u, u, G, I] 46) H
noncomputable def aaY : KX := BX 0 aaX bP
theorem uR : av 4503599627370447 te := rf
theorem Sw : av 4503599627370382 Pi := rc uR aE uR
theorem EI : av 4503599627370446 GX := rc uR aE uR
theorem Sx : ∀ i, av 4503599627370446 (aaY i) := rb (cd EI) aE
theorem DK : Bs D G I H =
 (FF bH [D, (.func (.func jH) #[D] #[])] H).bind fun a =>
 (ag a.1 0).bind fun c =>
 (ag a.1 1).bind fun d =>
 (cB 4 G c a.2).bind fun b =>
 (ay 4 G b).bind fun e => some (Value.tuple #[e, d], b) :=
 (by kernel_rfl)
theorem DJ : Br D G I K H =
 ld [.n, .f 11] D H fun i =>
 ld [.n, .f 12] D H fun j =>
 (FF gP [i, j, K] H).bind fun a =>
 au a.1
 ((FF bH [D, (.func (.func od) #[D] #[])] a.2).bind fun b =>
 (ag b.1 0).bind fun k =>
 (ag b.1 1).bind fun l =>
 (cB 4 G k b.2).bind fun e =>
 (ay 4 G e).bind fun m => some (Value.tuple #[m, l], e))
 (ld [.n, .f 12] D a.2 fun o =>
 (FF dK [o] a.2).bind fun c =>
 (ak .other .eql c.1 (vi 1)).bind fun p =>
 au p
 ((FF bH [D, (.func (.func jI) #[D] #[])] c.2).bind fun d =>
 (ag d.1 0).bind fun q =>
 (ag d.1 1).bind fun s =>
 (cB 4 G q d.2).bind fun g =>
 (ay 4 G g).bind fun t => some (Value.tuple #[t, s], g))
 (Bs D G I c.2)) :=
 (pt rfl 0 EI (bt rfl (GW [1, 1, 0, 4]) 0 Sx (by kernel_rfl)))
noncomputable def Z0 : OV := bi PP GG FF (GW []) (ls [D, E] 50) H te bP te
theorem Ld {r : Value × AH} (h : (
 aS [(vi 0), (.slice none 0 0), (vi 0), (vw 0)] H fun c a =>
 ld [.n, .f 11] D a fun d =>
 ld [.n, .f 1] D a fun e =>
 (FF gQ [d, e] a).bind fun b =>
 Br D c (vb false) b.1 b.2) = some r) : FF lF [D, E] H = some r :=
 fo (t := Z0 D E H) Tryz.func244 (by kernel_rfl) (Eq.trans (pt rfl 1 Sw (by kernel_rfl)) h)
theorem FT {r : Value × AH} (h : (
 aS [(vi 0), (.slice none 0 0), (vi 0), (vw 0)] H fun b a =>
 ld [.n, .f 0] D a fun j =>
 ld [.n, .f 2] j a fun k =>
 ld [.n, .f 1] D a fun l =>
 ld [.n, .f 6] D a fun m =>
 (FF eI [k, l, m] a).bind fun c =>
 ld [.n, .f 10] D c.2 fun o =>
 (oW .not o).bind fun p =>
 au p
 ((FF lE [D, (vi 5)] c.2).bind fun d =>
 (ag d.1 0).bind fun q =>
 (ag d.1 1).bind fun s =>
 (cB 4 b q d.2).bind fun g =>
 (ay 4 b g).bind fun t => some (Value.tuple #[t, s], g))
 ((FF bH [D, (.func (.func gL) #[D] #[])] c.2).bind fun e =>
 (ag e.1 0).bind fun w =>
 (ag e.1 1).bind fun y =>
 (cB 4 b w e.2).bind fun i =>
 (ay 4 b i).bind fun z => some (Value.tuple #[z, y], i))) = some r) : FF eF [D, E] H = some r :=
 fo Tryz.func245 (by kernel_rfl) h
theorem C3 {r : Value × AH} (h : (
 ld [.n, .f 12] D H fun d =>
 ld [.n, .f 1] D H fun e =>
 (FF fC [d, e] H).bind fun a =>
 st 1 [.n, .f 13] D a.1 a.2 fun b =>
 ld [.n, .f 13] D b fun g =>
 (FF dK [g] b).bind fun c =>
 (ak .other .eql c.1 (vi 0)).bind fun i =>
 some (i, c.2)) = some r) : FF j7 [D] H = some r :=
 fo Tryz.func246 (by kernel_rfl) h
theorem z4 {r : Value × AH} (h : (
 aS [(vi 0), (.slice none 0 0), (vi 0), (vw 0)] H fun a b =>
 ld [.n, .f 12] D b fun j =>
 ld [.n, .f 1] D b fun k =>
 ld [.n, .f 13] D b fun l =>
 (FF jR [j, k, l] b).bind fun c =>
 (oW .not c.1).bind fun m =>
 au m
 ((FF bd [D, (.func (.func bq) #[D] #[])] c.2).bind fun d =>
 (ag d.1 0).bind fun o =>
 (ag d.1 1).bind fun p =>
 (cB 4 a o d.2).bind fun g =>
 (ay 4 a g).bind fun q => some (Value.tuple #[q, p], g))
 ((FF cT [D, E, (vi 0)] c.2).bind fun s =>
 (FF bd [D, (.func (.func dD) #[D] #[])] s.2).bind fun e =>
 (ag e.1 0).bind fun t =>
 (ag e.1 1).bind fun w =>
 (cB 4 a t e.2).bind fun i =>
 (ay 4 a i).bind fun y => some (Value.tuple #[y, w], i))) = some r) : FF ca [D, E] H = some r :=
 fo Tryz.func247 (by kernel_rfl) h
theorem C4 {r : Value × AH} (h : (
 aS [(vi 0), (.slice none 0 0), (vi 0), (vw 0)] H fun a b =>
 ld [.n, .f 0] D b fun k =>
 ld [.n, .f 1] D b fun l =>
 (FF dw [k, l] b).bind fun g =>
 st 1 [.n, .f 14] D g.1 g.2 fun c =>
 ld [.n, .f 14] D c fun m =>
 (ak .other .rem m (vw 2)).bind fun o =>
 (ak .other .eql o (vw 1)).bind fun p =>
 au p
 ((FF bd [D, (.func (.func bq) #[D] #[])] c).bind fun d =>
 (ag d.1 0).bind fun q =>
 (ag d.1 1).bind fun s =>
 (cB 4 a q d.2).bind fun i =>
 (ay 4 a i).bind fun t => some (Value.tuple #[t, s], i))
 ((FF bd [D, (.func (.func ci) #[D] #[])] c).bind fun e =>
 (ag e.1 0).bind fun w =>
 (ag e.1 1).bind fun y =>
 (cB 4 a w e.2).bind fun j =>
 (ay 4 a j).bind fun z => some (Value.tuple #[z, y], j))) = some r) : FF dO [D, E] H = some r :=
 fo Tryz.func248 (by kernel_rfl) h
theorem pT {r : Value × AH} (h : (
 ad [.n, .f 0] D fun a =>
 (aq a H).bind fun c =>
 (FF j8 [J] H).bind fun b =>
 bS (aq a b.2) (aq a H) <|
 (FF dC [c, E, b.1, (vw 0)] b.2).bind fun d =>
 some (Value.tuple #[], d.2)) = some r) : FF eI [D, E, J] H = some r :=
 fo Tryz.func249 (by kernel_rfl) h
theorem Dm {r : Value × AH} (h : (
 (ak .other .lss D (vw 1)).bind fun a =>
 (gV a false D).bind fun d =>
 (gB a false (ak .other .gtr d (vw 4611686018427387904))).bind fun e =>
 (aM a (vb true) e).bind fun b =>
 (gV b false E).bind fun f =>
 (gB b false (ak .other .lss f (vi 1))).bind fun g =>
 (aM b (vb true) g).bind fun c =>
 (gV c false E).bind fun i =>
 (gB c false (ak .other .gtr i (vi 65536))).bind fun j =>
 (aM c (vb true) j).bind fun k =>
 au k
 (some (Value.tuple #[(vw 0), (vb false)], H))
 ((cF (some .u64) E).bind fun l =>
 (ak .other .quo D l).bind fun m =>
 (ir [m, (vw 1)]).bind fun n =>
 some (Value.tuple #[n, (vb true)], H))) = some r) : FF nJ [D, E] H = some r :=
 fo Tryz.func250 (by kernel_rfl) h
theorem C1 {r : Value × AH} (h : (
 aS [(vi 0), (.slice none 0 0), (vi 0), (vw 0)] H fun c a =>
 ld [.n, .f 0] D a fun e =>
 ld [.n, .f 2] e a fun g =>
 ld [.n, .f 1] D a fun i =>
 ld [.n, .f 6] D a fun j =>
 ld [.n, .f 9] D a fun k =>
 ld [.n, .f 2, .f 1] D a fun l =>
 ld [.n, .f 11] D a fun m =>
 (FF gf [g, i, j, k, l, m] a).bind fun o =>
 (FF cT [D, E, (vi 0)] o.2).bind fun p =>
 (FF bd [D, (.func (.func aK) #[D] #[])] p.2).bind fun b =>
 (ag b.1 0).bind fun q =>
 (ag b.1 1).bind fun s =>
 (cB 4 c q b.2).bind fun d =>
 (ay 4 c d).bind fun t => some (Value.tuple #[t, s], d)) = some r) : FF eR [D, E] H = some r :=
 fo Tryz.func251 (by kernel_rfl) h
theorem wh {r : Value × AH} (h : (
 ad [.n, .f 0] D fun a =>
 (aq a H).bind fun d =>
 (FF dZ [D, (vi 12), (vi 0)] H).bind fun b =>
 bS (aq a b.2) (aq a H) <|
 (FF dp [d, E, b.1] b.2).bind fun c =>
 some (c.1, c.2)) = some r) : FF gQ [D, E] H = some r :=
 fo Tryz.func267 (by kernel_rfl) h
theorem wg {r : Value × AH} (h : (
 (FF dl [E] H).bind fun b =>
 (ak .other .geq b.1 J).bind fun a =>
 (gV a true b.1).bind fun c =>
 (gV a true J).bind fun d =>
 (gB a true (ak .other .sub c d)).bind fun e =>
 (gV a true D).bind fun g =>
 fI a true  [.n, .f 2] g b.2 fun i =>
 (xu (yv a) true (gI i some) (some undef)).bind fun j =>
 (gB a true (cF (some .u64) j)).bind fun k =>
 (gB a true (ak .other .geq e k)).bind fun l =>
 (aM a l (vb false)).bind fun m =>
 some (m, b.2)) = some r) : FF gP [D, E, J] H = some r :=
 fo Tryz.func268 (by kernel_rfl) h
theorem Rg {r : Value × AH} (h : (
 aS [(vi 0), (.slice none 0 0), (vi 0), (vw 0)] H fun a b =>
 ld [.n, .f 0] D b fun k =>
 ld [.n, .f 1] D b fun l =>
 (FF dw [k, l] b).bind fun g =>
 st 1 [.n, .f 13] D g.1 g.2 fun c =>
 ld [.n, .f 13] D c fun m =>
 (ak .other .rem m (vw 2)).bind fun o =>
 (ak .other .eql o (vw 1)).bind fun p =>
 au p
 ((FF bH [D, (.func (.func cf) #[D] #[])] c).bind fun d =>
 (ag d.1 0).bind fun q =>
 (ag d.1 1).bind fun s =>
 (cB 4 a q d.2).bind fun i =>
 (ay 4 a i).bind fun t => some (Value.tuple #[t, s], i))
 ((FF bH [D, (.func (.func ft) #[D] #[])] c).bind fun e =>
 (ag e.1 0).bind fun w =>
 (ag e.1 1).bind fun y =>
 (cB 4 a w e.2).bind fun j =>
 (ay 4 a j).bind fun z => some (Value.tuple #[z, y], j))) = some r) : FF od [D, E] H = some r :=
 fo Tryz.func269 (by kernel_rfl) h
theorem IX {r : Value × AH} (h : (
 aS [(vi 0), (.slice none 0 0), (vi 0), (vw 0)] H fun a b =>
 ld [.n, .f 11] D b fun j =>
 ld [.n, .f 1] D b fun k =>
 ld [.n, .f 12] D b fun l =>
 (FF ge [j, k, l] b).bind fun c =>
 (oW .not c.1).bind fun m =>
 au m
 ((FF bH [D, (.func (.func cf) #[D] #[])] c.2).bind fun d =>
 (ag d.1 0).bind fun o =>
 (ag d.1 1).bind fun p =>
 (cB 4 a o d.2).bind fun g =>
 (ay 4 a g).bind fun q => some (Value.tuple #[q, p], g))
 ((FF lH [D, E, (vi 0)] c.2).bind fun s =>
 (FF bH [D, (.func (.func oc) #[D] #[])] s.2).bind fun e =>
 (ag e.1 0).bind fun t =>
 (ag e.1 1).bind fun w =>
 (cB 4 a t e.2).bind fun i =>
 (ay 4 a i).bind fun y => some (Value.tuple #[y, w], i))) = some r) : FF jI [D, E] H = some r :=
 fo Tryz.func270 (by kernel_rfl) h
theorem IW {r : Value × AH} (h : (
 aS [(vi 0), (.slice none 0 0), (vi 0), (vw 0)] H fun c a =>
 ld [.n, .f 0] D a fun e =>
 ld [.n, .f 1] e a fun g =>
 ld [.n, .f 1] D a fun i =>
 (FF hZ [g, i] a).bind fun j =>
 (FF bH [D, (.func (.func lK) #[D] #[])] j.2).bind fun b =>
 (ag b.1 0).bind fun k =>
 (ag b.1 1).bind fun l =>
 (cB 4 c k b.2).bind fun d =>
 (ay 4 c d).bind fun m => some (Value.tuple #[m, l], d)) = some r) : FF jH [D, E] H = some r :=
 fo Tryz.func271 (by kernel_rfl) h
theorem wl {r : Value × AH} (h : (
 (FF fD [D, E, J, (.func (.func mZ) #[] #[])] H).bind fun a =>
 some (a.1, a.2)) = some r) : FF jR [D, E, J] H = some r :=
 fo Tryz.func272 (by kernel_rfl) h
theorem xV {r : Value × AH} (h : (
 aS [(vi 0), (.slice none 0 0), (vi 0), (vw 0)] H fun c a =>
 ld [.n, .f 0] D a fun e =>
 ld [.n, .f 2] e a fun g =>
 ld [.n, .f 1] D a fun i =>
 ld [.n, .f 6] D a fun j =>
 ld [.n, .f 10] D a fun k =>
 (FF ic [g, i, j, k] a).bind fun l =>
 (FF bd [D, (.func (.func aK) #[D] #[])] l.2).bind fun b =>
 (ag b.1 0).bind fun m =>
 (ag b.1 1).bind fun o =>
 (cB 4 c m b.2).bind fun d =>
 (ay 4 c d).bind fun p => some (Value.tuple #[p, o], d)) = some r) : FF dD [D, E] H = some r :=
 fo Tryz.func273 (by kernel_rfl) h
theorem tI {r : Value × AH} (h : (
 ld [.n, .f 0] D H fun b =>
 gJ [(0, 1), (1, 1), (2, 1)] [(vi 0), (vi 0), (vi 0)] [(0, (vi 2))] fun c =>
 (FF dp [b, E, c] H).bind fun a =>
 some (a.1, a.2)) = some r) : FF dw [D, E] H = some r :=
 fo Tryz.func274 (by kernel_rfl) h
theorem q8 {r : Value × AH} (h : (
 aS [(vi 0), (.slice none 0 0), (vi 0), (vw 0)] H fun a i =>
 (FF j7 [D] i).bind fun b =>
 au b.1
 ((FF bd [D, (.func (.func ca) #[D] #[])] b.2).bind fun c =>
 (ag c.1 0).bind fun j =>
 (ag c.1 1).bind fun k =>
 (cB 4 a j c.2).bind fun e =>
 (ay 4 a e).bind fun l => some (Value.tuple #[l, k], e))
 (st 1 [.n, .f 15] D E b.2 fun m =>
 (FF bd [D, (.func (.func cu) #[D] #[])] m).bind fun d =>
 (ag d.1 0).bind fun o =>
 (ag d.1 1).bind fun p =>
 (cB 4 a o d.2).bind fun g =>
 (ay 4 a g).bind fun q => some (Value.tuple #[q, p], g))) = some r) : FF ci [D, E] H = some r :=
 fo Tryz.func275 (by kernel_rfl) h
theorem y9 {r : Value × AH} (h : (
 aS [(vi 0), (.slice none 0 0), (vi 0), (vw 0)] H fun a b =>
 ld [.n, .f 11] D b fun l =>
 ld [.n, .f 1] D b fun m =>
 (FF fC [l, m] b).bind fun g =>
 st 1 [.n, .f 12] D g.1 g.2 fun i =>
 ld [.n, .f 12] D i fun o =>
 (FF dK [o] i).bind fun c =>
 (ak .other .eql c.1 (vi 2)).bind fun p =>
 au p
 ((FF bH [D, (.func (.func dg) #[D] #[])] c.2).bind fun d =>
 (ag d.1 0).bind fun q =>
 (ag d.1 1).bind fun s =>
 (cB 4 a q d.2).bind fun j =>
 (ay 4 a j).bind fun t => some (Value.tuple #[t, s], j))
 ((FF bH [D, (.func (.func fq) #[D] #[])] c.2).bind fun e =>
 (ag e.1 0).bind fun w =>
 (ag e.1 1).bind fun y =>
 (cB 4 a w e.2).bind fun k =>
 (ay 4 a k).bind fun z => some (Value.tuple #[z, y], k))) = some r) : FF ft [D, E] H = some r :=
 fo Tryz.func281 (by kernel_rfl) h
theorem t9 {r : Value × AH} (h : (
 (FF fD [D, E, J, (.func (.func mX) #[] #[])] H).bind fun a =>
 some (a.1, a.2)) = some r) : FF ge [D, E, J] H = some r :=
 fo Tryz.func282 (by kernel_rfl) h
theorem Re {r : Value × AH} (h : (
 aS [(vi 0), (.slice none 0 0), (vi 0), (vw 0)] H fun b d =>
 (FF vy [D] d).bind fun e =>
 (FF bH [D, (.func (.func lJ) #[D] #[])] e.2).bind fun a =>
 (ag a.1 0).bind fun f =>
 (ag a.1 1).bind fun g =>
 (cB 4 b f a.2).bind fun c =>
 (ay 4 b c).bind fun i => some (Value.tuple #[i, g], c)) = some r) : FF oc [D, E] H = some r :=
 fo Tryz.func283 (by kernel_rfl) h
theorem qq {r : Value × AH} (h : (
 ad [.n, .f 0] D fun a =>
 (aq a H).bind fun c =>
 (FF bB [(vi 3), (vi 0)] H).bind fun b =>
 bS (aq a b.2) (aq a H) <|
 (FF f5 [c, E, b.1, (vw 4294967296)] b.2).bind fun d =>
 some (Value.tuple #[], d.2)) = some r) : FF hZ [D, E] H = some r :=
 fo Tryz.func284 (by kernel_rfl) h
theorem Lm {r : Value × AH} (h : (
 aS [(vi 0), (.slice none 0 0), (vi 0), (vw 0)] H fun a b =>
 ld [.n, .f 11] D b fun j =>
 ld [.n, .f 1] D b fun k =>
 ld [.n, .f 12] D b fun l =>
 (FF ge [j, k, l] b).bind fun c =>
 (oW .not c.1).bind fun m =>
 au m
 ((FF bH [D, (.func (.func lC) #[D] #[])] c.2).bind fun d =>
 (ag d.1 0).bind fun o =>
 (ag d.1 1).bind fun p =>
 (cB 4 a o d.2).bind fun g =>
 (ay 4 a g).bind fun q => some (Value.tuple #[q, p], g))
 ((FF lH [D, E, (vi 0)] c.2).bind fun s =>
 (FF bH [D, (.func (.func lD) #[D] #[])] s.2).bind fun e =>
 (ag e.1 0).bind fun t =>
 (ag e.1 1).bind fun w =>
 (cB 4 a t e.2).bind fun i =>
 (ay 4 a i).bind fun y => some (Value.tuple #[y, w], i))) = some r) : FF lK [D, E] H = some r :=
 fo Tryz.func285 (by kernel_rfl) h
theorem Ip {r : Value × AH} (h : (
 (FF dK [D] H).bind fun a =>
 (ak .other .neq a.1 (vi 0)).bind fun d =>
 au d
 (some (Value.tuple #[(vw 0), (vb false)], a.2))
 ((FF dl [D] a.2).bind fun c =>
 (FF kA [c.1, (vi 2)] c.2).bind fun b =>
 (ag b.1 0).bind fun e =>
 (ag b.1 1).bind fun f =>
 some (Value.tuple #[e, f], b.2))) = some r) : FF mZ [D] H = some r :=
 fo Tryz.func286 (by kernel_rfl) h
theorem ra {r : Value × AH} (h : (
 ad [.n, .f 0] D fun a =>
 (aq a H).bind fun c =>
 (FF jj [J, L] H).bind fun b =>
 bS (aq a b.2) (aq a H) <|
 (FF dC [c, E, b.1, (vw 0)] b.2).bind fun d =>
 some (Value.tuple #[], d.2)) = some r) : FF ic [D, E, J, L] H = some r :=
 fo Tryz.func287 (by kernel_rfl) h
theorem sB {r : Value × AH} (h : (
 aS [(vi 0), (.slice none 0 0), (vi 0), (vw 0)] H fun b c =>
 ld [.n, .f 0] D c fun k =>
 ld [.n, .f 1] D c fun l =>
 (FF dw [k, l] c).bind fun a =>
 ad [.n, .f 14] D fun d =>
 (aq d a.2).bind fun m =>
 bS (aq d c) (aq d a.2) <|
 (ak .other .neq a.1 m).bind fun o =>
 au o
 ((FF bd [D, (.func (.func bq) #[D] #[])] a.2).bind fun e =>
 (ag e.1 0).bind fun p =>
 (ag e.1 1).bind fun q =>
 (cB 4 b p e.2).bind fun i =>
 (ay 4 b i).bind fun s => some (Value.tuple #[s, q], i))
 (ld [.n, .f 15] D a.2 fun t =>
 (FF cT [D, t, (vi 8)] a.2).bind fun w =>
 (FF bd [D, (.func (.func aK) #[D] #[])] w.2).bind fun g =>
 (ag g.1 0).bind fun y =>
 (ag g.1 1).bind fun z =>
 (cB 4 b y g.2).bind fun j =>
 (ay 4 b j).bind fun A => some (Value.tuple #[A, z], j))) = some r) : FF cu [D, E] H = some r :=
 fo Tryz.func288 (by kernel_rfl) h
theorem y6 {r : Value × AH} (h : (
 aS [(vi 0), (.slice none 0 0), (vi 0), (vw 0)] H fun b a =>
 ad [.n, .f 11] D fun d =>
 (aq d a).bind fun m =>
 ad [.n, .f 12] D fun e =>
 (aq e a).bind fun o =>
 ld [.n, .f 11] D a fun p =>
 ld [.n, .f 1] D a fun q =>
 (FF gQ [p, q] a).bind fun c =>
 bS (aq d c.2) (aq d a) <|
 bS (aq e c.2) (aq e a) <|
 (FF gP [m, o, c.1] c.2).bind fun g =>
 (oW .not g.1).bind fun s =>
 au s
 ((FF bH [D, (.func (.func cf) #[D] #[])] g.2).bind fun i =>
 (ag i.1 0).bind fun t =>
 (ag i.1 1).bind fun w =>
 (cB 4 b t i.2).bind fun k =>
 (ay 4 b k).bind fun y => some (Value.tuple #[y, w], k))
 (st 1 [.n, .f 14] D E g.2 fun z =>
 (FF bH [D, (.func (.func f4) #[D] #[])] z).bind fun j =>
 (ag j.1 0).bind fun A =>
 (ag j.1 1).bind fun B =>
 (cB 4 b A j.2).bind fun l =>
 (ay 4 b l).bind fun C => some (Value.tuple #[C, B], l))) = some r) : FF fq [D, E] H = some r :=
 fo Tryz.func289 (by kernel_rfl) h
theorem Im {r : Value × AH} (h : (
 (FF jk [D] H).bind fun c =>
 (oW .not c.1).bind fun a =>
 (gV a false D).bind fun i =>
 (gE a false c.2 (FF dK [i] c.2)).bind fun d =>
 (gB a false (ak .other .eql d.1 (vi 2))).bind fun j =>
 (aM a (vb true) j).bind fun b =>
 (gV b false D).bind fun k =>
 (gE b false d.2 (FF dl [k] d.2)).bind fun e =>
 (gB b false (ak .other .eql e.1 (vw 2305843009213693951))).bind fun l =>
 (aM b (vb true) l).bind fun m =>
 au m
 (some (Value.tuple #[(vw 0), (vb false)], e.2))
 ((FF dl [D] e.2).bind fun g =>
 (ak .other .add g.1 (vw 1)).bind fun n =>
 (FF kA [n, (vi 1)] g.2).bind fun f =>
 (ag f.1 0).bind fun o =>
 (ag f.1 1).bind fun p =>
 some (Value.tuple #[o, p], f.2))) = some r) : FF mX [D] H = some r :=
 fo Tryz.func290 (by kernel_rfl) h
theorem Rc {r : Value × AH} (h : (
 ad [.n, .f 11] D fun b =>
 (aq b H).bind fun i =>
 ad [.n, .f 1] D fun c =>
 (aq c H).bind fun j =>
 ld [.n, .f 12] D H fun k =>
 (FF dl [k] H).bind fun a =>
 bS (aq b a.2) (aq b H) <|
 bS (aq c a.2) (aq c H) <|
 ad [.n, .f 2, .f 1] D fun d =>
 (aq d a.2).bind fun l =>
 bS (aq d H) (aq d a.2) <|
 ad [.n, .f 2, .f 2] D fun e =>
 (aq e a.2).bind fun m =>
 bS (aq e H) (aq e a.2) <|
 ad [.n, .f 2, .f 3] D fun g =>
 (aq g a.2).bind fun o =>
 bS (aq g H) (aq g a.2) <|
 gJ [(0, 1), (1, 1), (2, 1)] [(vi 0), (vi 0), (vi 0)] [(0, l), (1, m), (2, o)] fun p =>
 (FF kN [i, j, a.1, p] a.2).bind fun q =>
 some (Value.tuple #[], q.2)) = some r) : FF vy [D] H = some r :=
 fo Tryz.func291 (by kernel_rfl) h
theorem Ll {r : Value × AH} (h : (
 aS [(vi 0), (.slice none 0 0), (vi 0), (vw 0)] H fun g a =>
 ad [.n, .f 11] D fun c =>
 (aq c a).bind fun j =>
 ad [.n, .f 1] D fun d =>
 (aq d a).bind fun k =>
 ld [.n, .f 12] D a fun l =>
 (FF dl [l] a).bind fun b =>
 bS (aq c b.2) (aq c a) <|
 bS (aq d b.2) (aq d a) <|
 (FF gR [j, k, b.1] b.2).bind fun m =>
 (FF lE [D, (vi 0)] m.2).bind fun e =>
 (ag e.1 0).bind fun o =>
 (ag e.1 1).bind fun p =>
 (cB 4 g o e.2).bind fun i =>
 (ay 4 g i).bind fun q => some (Value.tuple #[q, p], i)) = some r) : FF lJ [D, E] H = some r :=
 fo Tryz.func292 (by kernel_rfl) h
theorem La {r : Value × AH} (h : (
 aS [(vi 0), (.slice none 0 0), (vi 0), (vw 0)] H fun c a =>
 ld [.n, .f 0] D a fun e =>
 ld [.n, .f 1] e a fun g =>
 ld [.n, .f 1] D a fun i =>
 (FF gb [g, i] a).bind fun j =>
 (FF bH [D, (.func (.func cf) #[D] #[])] j.2).bind fun b =>
 (ag b.1 0).bind fun k =>
 (ag b.1 1).bind fun l =>
 (cB 4 c k b.2).bind fun d =>
 (ay 4 c d).bind fun m => some (Value.tuple #[m, l], d)) = some r) : FF lC [D, E] H = some r :=
 fo Tryz.func293 (by kernel_rfl) h
theorem Lb {r : Value × AH} (h : (
 aS [(vi 0), (.slice none 0 0), (vi 0), (vw 0)] H fun b d =>
 (FF vy [D] d).bind fun e =>
 (FF bH [D, (.func (.func jK) #[D] #[])] e.2).bind fun a =>
 (ag a.1 0).bind fun f =>
 (ag a.1 1).bind fun g =>
 (cB 4 b f a.2).bind fun c =>
 (ay 4 b c).bind fun i => some (Value.tuple #[i, g], c)) = some r) : FF lD [D, E] H = some r :=
 fo Tryz.func294 (by kernel_rfl) h
theorem Bv {r : Value × AH} (h : (
 aS [(vi 0), (.slice none 0 0), (vi 0), (vw 0)] H fun b c =>
 ld [.n, .f 0] D c fun k =>
 ld [.n, .f 1] D c fun l =>
 (FF dw [k, l] c).bind fun a =>
 ad [.n, .f 13] D fun d =>
 (aq d a.2).bind fun m =>
 bS (aq d c) (aq d a.2) <|
 (ak .other .neq a.1 m).bind fun o =>
 au o
 ((FF bH [D, (.func (.func cf) #[D] #[])] a.2).bind fun e =>
 (ag e.1 0).bind fun p =>
 (ag e.1 1).bind fun q =>
 (cB 4 b p e.2).bind fun i =>
 (ay 4 b i).bind fun s => some (Value.tuple #[s, q], i))
 (ld [.n, .f 14] D a.2 fun t =>
 (FF iU [D, t, (vi 9)] a.2).bind fun g =>
 (ag g.1 0).bind fun w =>
 (ag g.1 1).bind fun y =>
 (cB 4 b w g.2).bind fun j =>
 (ay 4 b j).bind fun z => some (Value.tuple #[z, y], j))) = some r) : FF f4 [D, E] H = some r :=
 fo Tryz.func295 (by kernel_rfl) h
theorem xY {r : Value × AH} (h : (
 aS (Value.cells L).toList H fun e c =>
 ad [.n, .f 0] D fun a =>
 (aq a c).bind fun l =>
 (FF di [D, J] c).bind fun g =>
 bS (aq a g.2) (aq a c) <|
 (FF dZ [D, (vi 16), g.1] g.2).bind fun j =>
 bS (aq a j.2) (aq a c) <|
 (FF fZ [l, E, j.1] j.2).bind fun d =>
 ad [.n, .f 2] D fun k =>
 (aq k d.2).bind fun m =>
 (FF di [D, J] d.2).bind fun b =>
 bS (aq k b.2) (aq k d.2) <|
 (ay 3 e b.2).bind fun o =>
 bS (ay 3 e d.2) (ay 3 e b.2) <|
 st 3 [.i 3 b.1] m o b.2 fun p =>
 some (Value.tuple #[], p)) = some r) : FF kN [D, E, J, L] H = some r :=
 fo Tryz.func296 (by kernel_rfl) h
theorem wj {r : Value × AH} (h : (
 ad [.n, .f 0] D fun a =>
 (aq a H).bind fun d =>
 (FF di [D, J] H).bind fun b =>
 bS (aq a b.2) (aq a H) <|
 (FF dZ [D, (vi 15), b.1] b.2).bind fun c =>
 bS (aq a c.2) (aq a H) <|
 (ak .other .add J (vw 1)).bind fun e =>
 (FF dC [d, E, c.1, e] c.2).bind fun g =>
 some (Value.tuple #[], g.2)) = some r) : FF gR [D, E, J] H = some r :=
 fo Tryz.func297 (by kernel_rfl) h
theorem th {r : Value × AH} (h : (
 ad [.n, .f 0] D fun a =>
 (aq a H).bind fun c =>
 (FF bB [(vi 3), (vi 0)] H).bind fun b =>
 bS (aq a b.2) (aq a H) <|
 (FF f5 [c, E, b.1, (vw 1)] b.2).bind fun d =>
 some (Value.tuple #[], d.2)) = some r) : FF gb [D, E] H = some r :=
 fo Tryz.func298 (by kernel_rfl) h
theorem IZ {r : Value × AH} (h : (
 aS [(vi 0), (.slice none 0 0), (vi 0), (vw 0)] H fun g a =>
 ad [.n, .f 11] D fun c =>
 (aq c a).bind fun j =>
 ad [.n, .f 1] D fun d =>
 (aq d a).bind fun k =>
 ld [.n, .f 12] D a fun l =>
 (FF dl [l] a).bind fun b =>
 bS (aq c b.2) (aq c a) <|
 bS (aq d b.2) (aq d a) <|
 (FF gR [j, k, b.1] b.2).bind fun m =>
 (FF bH [D, (.func (.func dJ) #[D] #[])] m.2).bind fun e =>
 (ag e.1 0).bind fun o =>
 (ag e.1 1).bind fun p =>
 (cB 4 g o e.2).bind fun i =>
 (ay 4 g i).bind fun q => some (Value.tuple #[q, p], i)) = some r) : FF jK [D, E] H = some r :=
 fo Tryz.func299 (by kernel_rfl) h
theorem DN {r : Value × AH} (h : (
 aS [(vi 0), (.slice none 0 0), (vi 0), (vw 0)] H fun c a =>
 ld [.n, .f 0] D a fun g =>
 ld [.n, .f 1] g a fun i =>
 ld [.n, .f 1] D a fun j =>
 ld [.n, .f 6] D a fun k =>
 (FF jc [i, j, k] a).bind fun d =>
 st 1 [.n, .f 15] D d.1 d.2 fun l =>
 (FF bH [D, (.func (.func lG) #[D] #[])] l).bind fun b =>
 (ag b.1 0).bind fun m =>
 (ag b.1 1).bind fun o =>
 (cB 4 c m b.2).bind fun e =>
 (ay 4 c e).bind fun p => some (Value.tuple #[p, o], e)) = some r) : FF dJ [D, E] H = some r :=
 fo Tryz.func300 (by kernel_rfl) h
theorem ti {r : Value × AH} (h : (
 ad [.n, .f 0] D fun a =>
 (aq a H).bind fun e =>
 ld [.n, .f 3] D H fun g =>
 (db g [J]).bind fun c => (FF c.1 c.2 H).bind fun b =>
 bS (aq a b.2) (aq a H) <|
 (FF dp [e, E, b.1] b.2).bind fun d =>
 some (d.1, d.2)) = some r) : FF jc [D, E, J] H = some r :=
 fo Tryz.func301 (by kernel_rfl) h
theorem Le {r : Value × AH} (h : (
 aS [(vi 0), (.slice none 0 0), (vi 0), (vw 0)] H fun c a =>
 ld [.n, .f 0] D a fun e =>
 ld [.n, .f 1] e a fun g =>
 ld [.n, .f 1] D a fun i =>
 ld [.n, .f 9] D a fun j =>
 ld [.n, .f 15] D a fun k =>
 (FF iI [g, i, j, k] a).bind fun l =>
 (FF bH [D, (.func (.func lI) #[D] #[])] l.2).bind fun b =>
 (ag b.1 0).bind fun m =>
 (ag b.1 1).bind fun o =>
 (cB 4 c m b.2).bind fun d =>
 (ay 4 c d).bind fun p => some (Value.tuple #[p, o], d)) = some r) : FF lG [D, E] H = some r :=
 fo Tryz.func302 (by kernel_rfl) h
theorem sj {r : Value × AH} (h : (
 ad [.n, .f 0] D fun a =>
 (aq a H).bind fun e =>
 ld [.n, .f 4] D H fun g =>
 (db g [J]).bind fun c => (FF c.1 c.2 H).bind fun b =>
 bS (aq a b.2) (aq a H) <|
 (FF fZ [e, E, b.1] b.2).bind fun d =>
 ld [.n, .f 2] D d.2 fun i =>
 (eJ .int i J L d.2).bind fun j =>
 some (Value.tuple #[], j)) = some r) : FF iI [D, E, J, L] H = some r :=
 fo Tryz.func303 (by kernel_rfl) h
theorem Lj {r : Value × AH} (h : (
 aS [(vi 0), (.slice none 0 0), (vi 0), (vw 0)] H fun b a =>
 ld [.n, .f 0] D a fun j =>
 ld [.n, .f 1] j a fun k =>
 ld [.n, .f 1] D a fun l =>
 ld [.n, .f 6] D a fun m =>
 ld [.n, .f 15] D a fun o =>
 ld [.n, .f 9] D a fun p =>
 (FF iJ [k, l, m, o, p] a).bind fun c =>
 (oW .not c.1).bind fun q =>
 au q
 ((FF bH [D, (.func (.func dJ) #[D] #[])] c.2).bind fun d =>
 (ag d.1 0).bind fun s =>
 (ag d.1 1).bind fun t =>
 (cB 4 b s d.2).bind fun g =>
 (ay 4 b g).bind fun w => some (Value.tuple #[w, t], g))
 ((FF bH [D, (.func (.func oa) #[D] #[])] c.2).bind fun e =>
 (ag e.1 0).bind fun y =>
 (ag e.1 1).bind fun z =>
 (cB 4 b y e.2).bind fun i =>
 (ay 4 b i).bind fun A => some (Value.tuple #[A, z], i))) = some r) : FF lI [D, E] H = some r :=
 fo Tryz.func304 (by kernel_rfl) h
theorem sk {r : Value × AH} (h : (
 ad [.n, .f 0] D fun a =>
 (aq a H).bind fun e =>
 ld [.n, .f 3] D H fun g =>
 (db g [J]).bind fun c => (FF c.1 c.2 H).bind fun b =>
 bS (aq a b.2) (aq a H) <|
 (cF (some .u64) G).bind fun i =>
 (ak .other .add i (vw 1)).bind fun j =>
 (FF fv [e, E, b.1, L, j] b.2).bind fun d =>
 some (d.1, d.2)) = some r) : FF iJ [D, E, J, L, G] H = some r :=
 fo Tryz.func305 (by kernel_rfl) h
theorem Ra {r : Value × AH} (h : (
 aS [(vi 0), (.slice none 0 0), (vi 0), (vw 0)] H fun c a =>
 ld [.n, .f 0] D a fun e =>
 ld [.n, .f 1] e a fun g =>
 ld [.n, .f 1] D a fun i =>
 (FF gb [g, i] a).bind fun j =>
 (FF lE [D, (vi 0)] j.2).bind fun b =>
 (ag b.1 0).bind fun k =>
 (ag b.1 1).bind fun l =>
 (cB 4 c k b.2).bind fun d =>
 (ay 4 c d).bind fun m => some (Value.tuple #[m, l], d)) = some r) : FF oa [D, E] H = some r :=
 fo Tryz.func306 (by kernel_rfl) h
end
theorem Dz (n : Int) : IntKind.wrap .u64 n = n % 18446744073709551616 := by simp [IntKind.wrap, IntKind.bits, IntKind.signed]
theorem lR {n : Int} (h0 : 0 ≤ n) (h1 : n < 18446744073709551616) : IntKind.wrap .u64 n = n := by rw [Dz]; omega
theorem oA {n : Int} (h0 : -9223372036854775808 ≤ n) (h1 : n < 9223372036854775808) : IntKind.wrap .i64 n = n := by
 simp [IntKind.wrap, IntKind.bits, IntKind.signed]
 split <;> omega
theorem r5 (a : Nat) (h : a < 18446744073709551616) : (BitVec.ofInt 64 (a : Int)).toNat = a := by
 rw [BitVec.toNat_ofInt];omega
theorem KW {a b : Nat} (ha : a < 18446744073709551616) (hb : b < 18446744073709551616) : Go.bits .and .u64 (a : Int) (b : Int) = ((a &&& b : Nat) : Int) := by
 show IntKind.wrap .u64 (((BitVec.ofInt 64 (a : Int) &&& BitVec.ofInt 64 (b : Int)).toNat : Nat) : Int) = _;rw [BitVec.toNat_and, r5 a ha, r5 b hb];have : a &&& b ≤ a := Nat.and_le_left;exact lR (by omega) (by omega)
theorem agL {a b : Nat} (ha : a < 18446744073709551616) (hb : b < 18446744073709551616) : a ||| b < 18446744073709551616 := Nat.or_lt_two_pow (n := 64) ha hb
theorem Q6 {a b : Nat} (ha : a < 18446744073709551616) (hb : b < 18446744073709551616) : Go.bits .or .u64 (a : Int) (b : Int) = ((a ||| b : Nat) : Int) := by
 show IntKind.wrap .u64 (((BitVec.ofInt 64 (a : Int) ||| BitVec.ofInt 64 (b : Int)).toNat : Nat) : Int) = _;rw [BitVec.toNat_or, r5 a ha, r5 b hb];have := agL ha hb;exact lR (by omega) (by omega)
section
variable {cl : TCls}
theorem ZT {a b : Nat} (ha : a < 18446744073709551616) (hb : b < 18446744073709551616) : ak cl .and (vu a) (vu b) = some (vu (a &&& b)) := by simp only [ak, mH, if_true, KW ha hb]
theorem UX {a b : Nat} (ha : a < 18446744073709551616) (hb : b < 18446744073709551616) : ak cl .or (vu a) (vu b) = some (vu (a ||| b)) := by simp only [ak, mH, if_true, Q6 ha hb]
theorem f3 {a b : Nat} (h : a + b < 18446744073709551616) : ak cl .add (vu a) (vu b) = some (vu (a + b)) := by
 simp only [ak, mH, if_true];rw [lR (by omega) (by omega)];simp
theorem Q5 {a b : Nat} : ak cl .mul (vu a) (vu b) = some (vu (a * b % 18446744073709551616)) := by
 simp only [ak, mH, if_true];rw [Dz];simp
theorem Em {a b : Nat} (h : b ≤ a) (ha : a < 18446744073709551616) : ak cl .sub (vu a) (vu b) = some (vu (a - b)) := by
 simp only [ak, mH, if_true];rw [lR (by omega) (by omega)];show some (Value.int .u64 ((a : Int) - (b : Int))) = some (Value.int .u64 ((a - b : Nat) : Int));rw [Int.ofNat_sub h]
theorem wJ {a b : Nat} (h : b ≠ 0) (ha : a < 18446744073709551616) : ak cl .quo (vu a) (vu b) = some (vu (a / b)) := by
 simp only [ak, mH, if_true];rw [if_neg (by omega)];have h1 : (a : Int).tdiv (b : Int) = ((a / b : Nat) : Int) := (Int.ofNat_tdiv a b).symm;have h2 : a / b ≤ a := Nat.div_le_self a b;rw [h1]
 generalize a / b = q at h2
 rw [lR (by omega) (by omega)]
theorem jD {a b : Nat} (h : b ≠ 0) : ak cl .rem (vu a) (vu b) = some (vu (a % b)) := by
 simp only [ak, mH, if_true];rw [if_neg (by omega)];have h1 : (a : Int).tmod (b : Int) = ((a % b : Nat) : Int) := (Int.ofNat_tmod a b).symm;rw [h1]
theorem El {a : Nat} {k : IntKind} {n : Nat} (hn : n ≤ 64) : ak cl .shr (vu a) (.int k (n : Int)) = some (vu (a / 2 ^ n)) := by
 simp only [ak, mw];rw [if_neg (by omega)];simp only [IntKind.bits, u4, Nat.min_eq_left hn]
 have : (a : Int).fdiv (2 ^ n) = ((a / 2 ^ n : Nat) : Int) := by
  rw [Int.fdiv_eq_ediv_of_nonneg _ (by exact Int.le_of_lt (Int.pow_pos (by omega)))];simp
 rw [this]
theorem Ej {a : Nat} {k : IntKind} {n : Nat} (hn : n ≤ 64) : ak cl .shl (vu a) (.int k (n : Int)) = some (vu (a * 2 ^ n % 18446744073709551616)) := by
 simp only [ak, mw];rw [if_neg (by omega)];simp only [IntKind.bits, u4, Nat.min_eq_left hn];rw [Dz];simp
theorem aR {a b : Int} (h0 : -9223372036854775808 ≤ a + b) (h1 : a + b < 9223372036854775808) : ak cl .add (vi a) (vi b) = some (vi (a + b)) := by simp only [ak, mH, if_true, oA h0 h1]
theorem nN {a b : Int} (h0 : -9223372036854775808 ≤ a - b) (h1 : a - b < 9223372036854775808) : ak cl .sub (vi a) (vi b) = some (vi (a - b)) := by simp only [ak, mH, if_true, oA h0 h1]
theorem rA {k : IntKind} {a b : Int} : ak cl .lss (.int k a) (.int k b) = some (vb (decide (a < b))) ∧ ak cl .leq (.int k a) (.int k b) = some (vb (decide (a ≤ b))) ∧ ak cl .gtr (.int k a) (.int k b) = some (vb (decide (b < a))) ∧
 ak cl .geq (.int k a) (.int k b) = some (vb (decide (b ≤ a))) ∧ ak cl .eql (.int k a) (.int k b) = some (vb (a == b)) ∧ ak cl .neq (.int k a) (.int k b) = some (vb (a != b)) := by
 simp [ak, mH]
theorem rD {k : IntKind} {a b : Int} : ak cl .lss (.int k a) (.int k b) = some (vb (decide (a < b))) := rA.1
theorem NQ {k : IntKind} {a b : Int} : ak cl .leq (.int k a) (.int k b) = some (vb (decide (a ≤ b))) := rA.2.1
theorem FK {k : IntKind} {a b : Int} : ak cl .gtr (.int k a) (.int k b) = some (vb (decide (b < a))) := rA.2.2.1
theorem rC {k : IntKind} {a b : Int} : ak cl .geq (.int k a) (.int k b) = some (vb (decide (b ≤ a))) := rA.2.2.2.1
theorem e9 {k : IntKind} {a b : Int} : ak cl .eql (.int k a) (.int k b) = some (vb (a == b)) := rA.2.2.2.2.1
theorem rF {k : IntKind} {a b : Int} : ak cl .neq (.int k a) (.int k b) = some (vb (a != b)) := rA.2.2.2.2.2
theorem Dw {a : Bool} : oW .not (vb a) = some (vb (!a)) := rfl
theorem kT {a b : Int} : ir [vi a, vi b] = some (vi (max a b)) := by
 simp only [ir]
 congr 2
 split <;> omega
theorem kU {a b : Int} : jz [vi a, vi b] = some (vi (min a b)) := by
 simp only [jz]
 congr 2
 split <;> omega
end
abbrev Hp := Nat → Option AObj
def SP : Type := Hp → Prop
theorem SP.ext {P Q : SP} (h : ∀ x, P x ↔ Q x) : P = Q := funext fun x => propext (h x)
def sep (P Q : SP) : SP := fun h => ∃ a b : Hp, (∀ i, a i = none ∨ b i = none) ∧ (h = fun i => (a i).or (b i)) ∧ P a ∧ Q b
instance : Mul SP := ⟨sep⟩
def emp : SP := fun h => h = fun _ => none
theorem X0 {α : Type} {a b : Option α} (h : a = none ∨ b = none) : a.or b = b.or a := by
 rcases h with rfl | rfl <;> simp
theorem wq (P Q : SP) : P * Q = Q * P := by
 have one : ∀ (P Q : SP) h, sep P Q h → sep Q P h := by
  rintro P Q h ⟨a, b, hd, rfl, ha, hb⟩
  exact ⟨b, a, fun i => (hd i).symm, funext fun i => X0 (hd i), hb, ha⟩
 exact SP.ext fun h => ⟨one P Q h, one Q P h⟩
theorem aj (P Q R : SP) : P * Q * R = P * (Q * R) := by
 apply SP.ext;intro h
 constructor
 ·rintro ⟨ab, c, hd, rfl, ⟨a, b, hd2, rfl, ha, hb⟩, hc⟩
  refine ⟨a, fun i => (b i).or (c i), fun i => ?_, funext fun i => ?_, ha, b, c, fun i => ?_, rfl, hb, hc⟩
  ·have h1 := hd i
   have h2 := hd2 i
   cases ha' : a i <;> cases hb' : b i <;> cases hc' : c i <;> simp_all
  ·exact Option.or_assoc
  ·have h1 := hd i
   have h2 := hd2 i
   cases ha' : a i <;> cases hb' : b i <;> cases hc' : c i <;> simp_all
 ·rintro ⟨a, bc, hd, rfl, ha, b, c, hd2, rfl, hb, hc⟩
  refine ⟨fun i => (a i).or (b i), c, fun i => ?_, funext fun i => ?_, ⟨a, b, fun i => ?_, rfl, ha, hb⟩, hc⟩
  ·have h1 := hd i
   have h2 := hd2 i
   cases ha' : a i <;> cases hb' : b i <;> cases hc' : c i <;> simp_all
  ·exact Option.or_assoc.symm
  ·have h1 := hd i
   have h2 := hd2 i
   cases ha' : a i <;> cases hb' : b i <;> cases hc' : c i <;> simp_all
theorem fT (P : SP) : P * emp = P := by
 apply SP.ext;intro h
 constructor
 ·rintro ⟨a, b, hd, rfl, ha, hb⟩
  have hb : b = fun _ => none := hb;subst hb
  simpa using ha
 ·intro h'
  exact ⟨h, fun _ => none, fun i => .inr rfl, by simp, h', rfl⟩
theorem gF (P : SP) : emp * P = P := by rw [wq, fT]
instance : Std.Associative (α := SP) (· * ·) := ⟨aj⟩
instance : Std.Commutative (α := SP) (· * ·) := ⟨wq⟩
theorem ch (P Q R : SP) : P * (Q * R) = Q * (P * R) := by rw [← aj, wq P Q, aj]
def blk (b : Nat) (o : AObj) : SP := fun h => h = fun i => if i = b then some o else none
def ex {α : Type} (P : α → SP) : SP := fun h => ∃ x, P x h
def pu (p : Prop) : SP := fun h => p ∧ h = fun _ => none
def ae (P : SP) (H : AH) : Prop := ∃ h : Hp, P h ∧ ∀ i o, h i = some o → H.get i = some o
theorem ae.left {P Q : SP} {H : AH} (h : ae (P * Q) H) : ae P H := by
 obtain ⟨x, ⟨a, b, hd, rfl, ha, hb⟩, hx⟩ := h;exact ⟨a, ha, fun i o hi => hx i o (by simp [hi])⟩
theorem ae.right {P Q : SP} {H : AH} (h : ae (P * Q) H) : ae Q H := by rw [wq] at h; exact h.left
theorem ae.get {b : Nat} {o : AObj} {H : AH} (h : ae (blk b o) H) : H.get b = some o := by
 obtain ⟨x, hx, hg⟩ := h;have hx : x = _ := hx;exact hg b o (by rw [hx]; simp)
theorem ae.ex {α : Type} {F : α → SP} {R : SP} {H : AH} : ae (ex F * R) H ↔ ∃ x, ae (F x * R) H := by
 constructor
 ·rintro ⟨h, ⟨a, b, hd, rfl, ⟨x, ha⟩, hb⟩, hx⟩
  exact ⟨x, _, ⟨a, b, hd, rfl, ha, hb⟩, hx⟩
 ·rintro ⟨x, h, ⟨a, b, hd, rfl, ha, hb⟩, hx⟩
  exact ⟨_, ⟨a, b, hd, rfl, ⟨x, ha⟩, hb⟩, hx⟩
theorem ae.pu {p : Prop} {R : SP} {H : AH} : ae (pu p * R) H ↔ p ∧ ae R H := by
 constructor
 ·rintro ⟨h, ⟨a, b, hd, rfl, ⟨hp, ha⟩, hb⟩, hx⟩
  subst ha;exact ⟨hp, b, hb, fun i o hi => hx i o (by simp [hi])⟩
 ·rintro ⟨hp, h, hr, hx⟩
  exact ⟨h, ⟨fun _ => none, h, fun i => .inl rfl, by simp, ⟨hp, rfl⟩, hr⟩, hx⟩
theorem ae.emp (H : AH) : ae emp H := ⟨fun _ => none, rfl, fun i o h => by cases h⟩
theorem ae.lt {b : Nat} {o : AObj} {R : SP} {H : AH} (h : ae (blk b o * R) H) : b < H.size := AH.lt_of_get h.left.get
theorem ae.set {b : Nat} {o : AObj} {R : SP} {H : AH} (o' : AObj) (h : ae (blk b o * R) H) : ae (blk b o' * R) (H.set b o') := by
 have hb := h.lt;obtain ⟨x, ⟨a, r, hd, rfl, ha, hr⟩, hx⟩ := h;have ha : a = _ := ha;subst ha;refine ⟨_, ⟨_, r, fun i => ?_, rfl, rfl, hr⟩, fun i o2 hi => ?_⟩
 ·have := hd i
  simp only at this ⊢
  by_cases hi : i = b
  ·rw [if_pos hi] at this ⊢
   rcases this with h | h
   ·cases h
   ·exact .inr h
  ·rw [if_neg hi]; exact .inl rfl
 ·by_cases hib : i = b
  ·subst hib
   simp only [if_true, Option.some_or, Option.some.injEq] at hi;subst hi;exact AH.get_set_eq hb
  ·simp only [if_neg hib, Option.none_or] at hi
   rw [AH.get_set_ne hib];exact hx i o2 (by simp only [if_neg hib, Option.none_or]; exact hi)
theorem ae.push {R : SP} {H : AH} (o : AObj) (h : ae R H) : ae (blk H.size o * R) (H.push o) := by
 obtain ⟨r, hr, hx⟩ := h;refine ⟨_, ⟨_, r, fun i => ?_, rfl, rfl, hr⟩, fun i o2 hi => ?_⟩
 ·by_cases hi : i = H.size
  ·subst hi
   right
   cases hr' : r H.size with
   | none => rfl
   | some o' => have := AH.lt_of_get (hx _ _ hr'); omega
  ·rw [if_neg hi]; exact .inl rfl
 ·by_cases hib : i = H.size
  ·subst hib
   simp only [if_true, Option.some_or, Option.some.injEq] at hi;subst hi;exact AH.get_push_new _ _
  ·simp only [if_neg hib, Option.none_or] at hi
   have := hx i o2 hi;rw [AH.get_push_old (AH.lt_of_get this)];exact this
theorem ae.dead {b : Nat} {o : AObj} {R : SP} {H : AH} (h : ae (blk b o * R) H) : ae R (H.set b .dead) := (h.set .dead).right
class Fr (P A : SP) (R : outParam SP) : Prop where
 eq : P = A * R
instance (priority := high) Fr.refl (A : SP) : Fr A A emp := ⟨(fT A).symm⟩
instance (priority := high) Fr.emp (P : SP) : Fr P emp P := ⟨(gF P).symm⟩
instance Fr.left (P Q A R : SP) [h : Fr P A R] : Fr (P * Q) A (R * Q) := ⟨by rw [h.eq, aj]⟩
instance Fr.right (P Q A R : SP) [h : Fr Q A R] : Fr (P * Q) A (P * R) := ⟨by rw [h.eq, ch]⟩
instance (priority := high) Fr.both (P A B R1 R2 : SP) [h1 : Fr P A R1] [h2 : Fr R1 B R2] : Fr P (A * B) R2 := ⟨by rw [h1.eq, h2.eq, aj]⟩
class Hs (P : SP) (b : Nat) (o : outParam AObj) : Prop where
 get : ∀ {H : AH}, ae P H → H.get b = some o
instance Hs.one (b : Nat) (o : AObj) : Hs (blk b o) b o := ⟨ae.get⟩
instance Hs.left (P Q : SP) (b : Nat) (o : AObj) [h : Hs P b o] : Hs (P * Q) b o := ⟨fun k => h.get k.left⟩
instance Hs.right (P Q : SP) (b : Nat) (o : AObj) [h : Hs Q b o] : Hs (P * Q) b o := ⟨fun k => h.get k.right⟩
class Up (P : SP) (b : Nat) (o' : AObj) (P' : outParam SP) : Prop where
 up : ∃ o R, P = blk b o * R ∧ P' = blk b o' * R
instance Up.one (b : Nat) (o o' : AObj) : Up (blk b o) b o' (blk b o') := ⟨o, emp, (fT _).symm, (fT _).symm⟩
instance Up.left (P Q : SP) (b : Nat) (o' : AObj) (P' : SP) [h : Up P b o' P'] : Up (P * Q) b o' (P' * Q) := ⟨by
 obtain ⟨o, R, e1, e2⟩ := h.up
 exact ⟨o, R * Q, by rw [e1, aj], by rw [e2, aj]⟩⟩
instance Up.right (P Q : SP) (b : Nat) (o' : AObj) (Q' : SP) [h : Up Q b o' Q'] : Up (P * Q) b o' (P * Q') := ⟨by
 obtain ⟨o, R, e1, e2⟩ := h.up
 exact ⟨o, P * R, by rw [e1, ch], by rw [e2, ch]⟩⟩
theorem Up.set {P P' : SP} {b : Nat} {o' : AObj} [h : Up P b o' P'] {H : AH} (k : ae P H) : ae P' (H.set b o') := by
 obtain ⟨o, R, rfl, rfl⟩ := h.up;exact k.set o'
theorem ae.fr {P A R : SP} {H : AH} (h : ae P H) [f : Fr P A R] : ae (A * R) H := by rw [← f.eq]; exact h
theorem ae.to {P A R : SP} {H : AH} (h : ae P H) [f : Fr P A R] : ae A H := h.fr.left
def wp (x : OV) (Q : Value → AH → Prop) : Prop := ∃ v H, x = some (v, H) ∧ Q v H
abbrev vp (b : Nat) : Value := .pointer (some ⟨b, 0, none⟩)
abbrev oy (b o : Nat) : Value := .pointer (some ⟨b, o, none⟩)
abbrev vs (b n e : Nat) : Value := .slice (some ⟨b, 0, none⟩) n e
theorem ap {v : Value} {H : AH} {Q : Value → AH → Prop} (h : Q v H) : wp (some (v, H)) Q := ⟨v, H, rfl, h⟩
theorem wp.mono {x : OV} {Q Q' : Value → AH → Prop} (h : wp x Q) (k : ∀ v H, Q v H → Q' v H) : wp x Q' := let ⟨v, H, e, q⟩ := h; ⟨v, H, e, k v H q⟩
theorem bm {x y : OV} {Q : Value → AH → Prop} (h : ∀ r, x = some r → y = some r) (k : wp x Q) : wp y Q := let ⟨v, H, e, q⟩ := k; ⟨v, H, h _ e, q⟩
theorem ah {x y : OV} {Q : Value → AH → Prop} (h : y = x) (k : wp x Q) : wp y Q := by rw [h]; exact k
theorem aa {x : Option Value} {v : Value} {k : Value → OV} {Q : Value → AH → Prop} (e : x = some v) (h : wp (k v) Q) : wp (x.bind k) Q := by rw [e]; exact h
theorem bZ {b : Bool} {x y : OV} {Q : Value → AH → Prop} (ht : b = true → wp x Q) (hf : b = false → wp y Q) : wp (au (vb b) x y) Q := by
 cases b
 ·exact hf rfl
 ·exact ht rfl
theorem wC {x y : Option Value} {k : OV} {Q : Value → AH → Prop} (e : x = y) (h : wp k Q) : wp (bS x y k) Q := by rw [aeF e]; exact h
theorem Fz {x : Option Value} {k : OV} {Q : Value → AH → Prop} (h : wp k Q) : wp (bS x x k) Q := wC rfl h
section
variable {P P' R : SP} {H : AH} {b o f n len e : Nat} {ro : Bool} {cs : List Value} {v x : Value} {Q : Value → AH → Prop}
theorem Mc (h : ae P H) [i : Hs P b (.cells ro cs)] (hv : cs[o]? = some v) : aq (oy b o) H = some v := by
 simp only [aq, sq, dL, bG, i.get h];exact hv
theorem Md (h : ae P H) [i : Hs P b (.cells ro cs)] (hn : o + n ≤ cs.length) : ay n (oy b o) H = some (.agg ((cs.drop o).take n).toArray) := by
 simp only [ay, sq, dL, bG, i.get h];rw [if_pos hn]
theorem YV (h : ae P H) [i : Hs P b (.cells false cs)] (hx : x.cells.size = n) (hn : o + n ≤ cs.length) (hc : x.cells.toList.all Value.oneCell' = true) :
 cB n (oy b o) x H = some (H.set b (.cells false (splice cs o x.cells.toList))) := by
 simp only [cB, sq, bG, i.get h];rw [if_pos ⟨hx, hn, hc⟩]
theorem bp {k : Value → AH → OV} (h : ae P H) (hk : ∀ b H', ae (blk b (.cells false cs) * P) H' → wp (k (vp b) H') Q) : wp (aS cs H k) Q := hk _ _ (h.push _)
theorem wE {k : Value → AH → OV} (h : ae P H) (hk : ∀ b H', ae (blk b (.map [] 0) * P) H' → wp (k (.map (some b)) H') Q) : wp (DT H k) Q := hk _ _ (h.push _)
theorem agV {k : Value → AH → OV} (h : ae P H) (hk : ∀ b H', ae (blk b (.cells false cs) * P) H' → wp (k (vs b len e) H') Q) : wp (agQ len e cs H k) Q := hk _ _ (h.push _)
theorem QG {zero : List Value} {xs : List (Nat × Value)} {k : Value → AH → OV} (h : ae P H) (hf : dj (abM e) (List.replicate len zero).flatten xs = some cs) (hk : ∀ b H', ae (blk b (.cells false cs) * P) H' → wp (k (vs b len e) H') Q) :
 wp (AB len e zero xs H k) Q := by
 unfold AB;rw [hf];exact agV h hk
theorem Kp {ps : List (Nat × Nat)} {zero : List Value} {xs : List (Nat × Value)} {k : Value → OV} (hf : dj (fun i => ps[i]?) zero xs = some cs) (hk : wp (k (.agg cs.toArray)) Q) : wp (gJ ps zero xs k) Q := by
 unfold gJ;rw [hf];exact hk
theorem QF {n : Nat} {a : Option Addr} {k : Value → OV} (hk : wp (k (vi n)) Q) : wp (gI (.slice a n e) k) Q := hk
theorem ZO {R : Type} {b o f : Nat} {p : List Stp} {k : Value → Option R} : ad (.f f :: p) (oy b o) k = ad p (oy b (o + f)) k := rfl
theorem KP {R : Type} {b o n e i : Nat} {c : Nat} {p : List Stp} {kk : IntKind} {k : Value → Option R} (h : i < n) : ad (.i e (.int kk (i : Int)) :: p) (.slice (some ⟨b, o, none⟩) n c) k = ad p (oy b (o + i * e)) k := by
 show (oh e (.slice (some ⟨b, o, none⟩) n c) (.int kk (i : Int))).bind _ = _;simp only [oh];rw [if_pos (by omega)];simp
theorem ad4 {R : Type} {b o n e i : Nat} {p : List Stp} {kk : IntKind} {k : Value → Option R} (h : i < n) : ad (.a n e (.int kk (i : Int)) :: p) (oy b o) k = ad p (oy b (o + i * e)) k := by
 show (iV n e (oy b o) (.int kk (i : Int))).bind _ = _;simp only [iV];rw [if_pos (by omega)];simp
def KD (p : List Stp) (x : Value) (b o : Nat) : Prop := ∀ {R : Type} (k : Value → Option R), ad p x k = k (oy b o)
theorem aZ : KD [] (oy b o) b o := fun _ => rfl
theorem b7 {p : List Stp} {b' o' : Nat} (h : KD p (oy b o) b' o') : KD (.n :: p) (oy b o) b' o' := fun k => h k
theorem aL {p : List Stp} {b' o' : Nat} (h : KD p (oy b (o + f)) b' o') : KD (.f f :: p) (oy b o) b' o' := fun k => h k
theorem N1 {p : List Stp} {b' o' i c : Nat} {kk : IntKind} (hi : i < n) (h : KD p (oy b (o + i * e)) b' o') : KD (.i e (.int kk (i : Int)) :: p) (.slice (some ⟨b, o, none⟩) n c) b' o' := fun k => by rw [KP hi]; exact h k
theorem ac : KD [.n, .f f] (vp b) b f := fun k => by
 show k (oy b (0 + f)) = _;rw [Nat.zero_add]
theorem aD : KD [.f f] (vp b) b f := fun k => by
 show k (oy b (0 + f)) = _;rw [Nat.zero_add]
class UH (l : List Value) (o : Nat) (v : Value) (l' : outParam (List Value)) : Prop where
 eq : o < l.length ∧ l' = l.set o v
instance UH.zero (a : Value) (l : List Value) (v : Value) : UH (a :: l) 0 v (v :: l) := ⟨by simp⟩
instance UH.succ (a : Value) (l : List Value) (o : Nat) (v : Value) (l' : List Value) [h : UH l o v l'] : UH (a :: l) (o + 1) v (a :: l') := ⟨by
 obtain ⟨h1, rfl⟩ := h.eq
 exact ⟨by simp; exact h1, by simp⟩⟩
class ul (l : List Value) (o : Nat) (xs : List Value) (l' : outParam (List Value)) : Prop where
 eq : o + xs.length ≤ l.length ∧ l' = splice l o xs
instance ul.here0 (l : List Value) : ul l 0 [] l := ⟨by simp [splice]⟩
instance ul.here (a x : Value) (l xs l' : List Value) [h : ul l 0 xs l'] : ul (a :: l) 0 (x :: xs) (x :: l') := ⟨by
 obtain ⟨h1, rfl⟩ := h.eq
 refine ⟨by simp at h1 ⊢; exact h1, by simp [splice]⟩⟩
instance ul.on (a : Value) (l : List Value) (o : Nat) (x : Value) (xs l' : List Value) [h : ul l o (x :: xs) l'] : ul (a :: l) (o + 1) (x :: xs) (a :: l') := ⟨by
 obtain ⟨h1, rfl⟩ := h.eq;refine ⟨by simp at h1 ⊢; omega, ?_⟩;simp only [splice, List.take_succ_cons, List.cons_append, List.cons.injEq, true_and]
 congr 1
 rw [show o + 1 + (x :: xs).length = (o + (x :: xs).length) + 1 from by omega, List.drop_succ_cons]⟩
class AV (l : List Value) (o n : Nat) (l' : outParam (List Value)) : Prop where
 eq : o + n ≤ l.length ∧ l' = (l.drop o).take n
instance AV.nil (l : List Value) : AV l 0 0 [] := ⟨by simp⟩
instance AV.here (a : Value) (l : List Value) (n : Nat) (l' : List Value) [h : AV l 0 n l'] : AV (a :: l) 0 (n + 1) (a :: l') := ⟨by
 obtain ⟨h1, rfl⟩ := h.eq
 exact ⟨by simp at h1 ⊢; exact h1, by simp⟩⟩
instance AV.on (a : Value) (l : List Value) (o n : Nat) (l' : List Value) [h : AV l o (n + 1) l'] : AV (a :: l) (o + 1) (n + 1) l' := ⟨by
 obtain ⟨h1, rfl⟩ := h.eq
 exact ⟨by simp at h1 ⊢; omega, by simp⟩⟩
class uj (v : Value) (l : outParam (List Value)) : Prop where
 eq : v.cells.toList = l
instance uj.int (k : IntKind) (n : Int) : uj (.int k n) [.int k n] := ⟨rfl⟩
instance uj.bool (b : Bool) : uj (.bool b) [.bool b] := ⟨rfl⟩
instance uj.slice (a : Option Addr) (n c : Nat) : uj (.slice a n c) [.slice a n c] := ⟨rfl⟩
instance uj.ptr (a : Option Addr) : uj (.pointer a) [.pointer a] := ⟨rfl⟩
instance uj.func (f : Fn) (a b : Array Value) : uj (.func f a b) [.func f a b] := ⟨rfl⟩
instance uj.nilFunc : uj .nilFunc [.nilFunc] := ⟨rfl⟩
instance uj.map (m : Option Nat) : uj (.map m) [.map m] := ⟨rfl⟩
instance uj.string (s : ByteArray) : uj (.string s) [.string s] := ⟨rfl⟩
instance uj.agg (l : List Value) : uj (.agg l.toArray) l := ⟨by simp [Value.cells]⟩
class QQ (ps : List (Nat × Nat)) (i : Nat) (o n : outParam Nat) : Prop where
 eq : ps[i]? = some (o, n)
instance QQ.zero (p : Nat × Nat) (ps : List (Nat × Nat)) : QQ (p :: ps) 0 p.1 p.2 := ⟨rfl⟩
instance QQ.succ (p : Nat × Nat) (ps : List (Nat × Nat)) (i o n : Nat) [h : QQ ps i o n] : QQ (p :: ps) (i + 1) o n := ⟨by simpa using h.eq⟩
class KJ (l : List Value) (n : Nat) : Prop where
 eq : l.length = n
instance KJ.nil : KJ [] 0 := ⟨rfl⟩
instance KJ.cons (a : Value) (l : List Value) (n : Nat) [h : KJ l n] : KJ (a :: l) (n + 1) := ⟨by simp [h.eq]⟩
class QO (ps : List (Nat × Nat)) (zero : List Value) (xs : List (Nat × Value)) (cs : outParam (List Value)) : Prop where
 eq : dj (fun i => ps[i]?) zero xs = some cs
instance QO.nil (ps : List (Nat × Nat)) (zero : List Value) : QO ps zero [] zero := ⟨rfl⟩
instance QO.cons (ps : List (Nat × Nat)) (zero z l cs : List Value) (i o n : Nat) (v : Value) (xs : List (Nat × Value)) [h1 : QQ ps i o n] [h2 : uj v l] [h3 : KJ l n] [h4 : ul zero o l z] [h5 : QO ps z xs cs] : QO ps zero ((i, v) :: xs) cs := ⟨by
 obtain ⟨h6, rfl⟩ := h4.eq;have h7 := h2.eq;have h8 := h3.eq;subst h7;simp only [dj, h1.eq, bG];rw [if_pos ⟨by simpa using h8, by rw [← h8]; exact h6⟩]
 exact h5.eq⟩
class ad2 (e : Nat) (zero : List Value) (xs : List (Nat × Value)) (cs : outParam (List Value)) : Prop where
 eq : dj (abM e) (List.replicate 1 zero).flatten xs = some cs
instance ad2.one (e : Nat) (zero l z : List Value) (v : Value) [h2 : uj v l] [h3 : KJ l e] [h4 : ul zero 0 l z] : ad2 e zero [(0, v)] z := ⟨by
 obtain ⟨h6, rfl⟩ := h4.eq;have h7 := h2.eq;have h8 := h3.eq;subst h7
 have hz : (List.replicate 1 zero).flatten = zero := by simp
 rw [hz];simp only [dj, abM, bG, Nat.zero_mul]
 rw [if_pos ⟨by simpa using h8, by rw [← h8]; exact h6⟩]⟩
theorem bA {p : List Stp} {k : Value → OV} (hp : KD p x b o) (hk : wp (k (oy b o)) Q) : wp (ad p x k) Q := by rw [hp k]; exact hk
theorem ai {p : List Stp} {k : Value → OV} (h : ae P H) (hp : KD p x b o) [i : Hs P b (.cells ro cs)] (hv : cs[o]? = some v) (hk : wp (k v) Q) : wp (ld p x H k) Q := by
 unfold ld;rw [hp, Mc h hv];exact hk
theorem QD {l : List Value} {p : List Stp} {k : Value → OV} (h : ae P H) (hp : KD p x b o) [i : Hs P b (.cells ro cs)] [s : AV cs o n l] (hk : wp (k (.agg l.toArray)) Q) : wp (ldN n p x H k) Q := by
 obtain ⟨hn, rfl⟩ := s.eq;unfold ldN;rw [hp, Md h hn];exact hk
theorem bg {cs' l : List Value} {p : List Stp} {k : AH → OV} (h : ae P H) (hp : KD p x b o) [i : Hs P b (.cells false cs)] [c : uj v l] [s : ul cs o l cs'] (hx : l.length = n) (hc : l.all Value.oneCell' = true)
 [u : Up P b (.cells false cs') P'] (hk : ∀ H', ae P' H' → wp (k H') Q) : wp (st n p x v H k) Q := by
 obtain ⟨hn, rfl⟩ := s.eq;have hl := c.eq;subst hl;unfold st;rw [hp, YV h (by simpa using hx) (by simp at hx hn; omega) hc];exact hk _ (u.set h)
theorem aN {k : Value → OV} (h : ae P H) [i : Hs P b (.cells ro cs)] (hv : cs[o]? = some v) (hk : wp (k v) Q) : wp ((aq (oy b o) H).bind k) Q := aa (Mc h hv) hk
theorem aW {l : List Value} {k : Value → OV} (h : ae P H) [i : Hs P b (.cells ro cs)] [s : AV cs o n l] (hk : wp (k (.agg l.toArray)) Q) : wp ((ay n (oy b o) H).bind k) Q := by
 obtain ⟨hn, rfl⟩ := s.eq;exact aa (Md h hn) hk
theorem eW {cs' l : List Value} {k : AH → OV} (h : ae P H) [i : Hs P b (.cells false cs)] [c : uj v l] [s : ul cs o l cs'] (hx : l.length = n) (hc : l.all Value.oneCell' = true)
 [u : Up P b (.cells false cs') P'] (hk : ∀ H', ae P' H' → wp (k H') Q) : wp ((cB n (oy b o) v H).bind k) Q := by
 obtain ⟨hn, rfl⟩ := s.eq;have hl := c.eq;subst hl;rw [YV h (by simpa using hx) (by simp at hx hn; omega) hc];exact hk _ (u.set h)
theorem be {l : List Value} {k : Value → AH → OV} (h : ae P H) [c : uj x l] (hk : ∀ b H', ae (blk b (.cells false l) * P) H' → wp (k (vp b) H') Q) : wp (aS (Value.cells x).toList H k) Q := by
 rw [c.eq]; exact bp h hk
theorem iW {ps : List (Nat × Nat)} {zero : List Value} {xs : List (Nat × Value)} {k : Value → OV} [f : QO ps zero xs cs] (hk : wp (k (.agg cs.toArray)) Q) : wp (gJ ps zero xs k) Q := Kp f.eq hk
theorem KI {zero : List Value} {xs : List (Nat × Value)} {k : Value → AH → OV} (h : ae P H) [f : ad2 e zero xs cs] (hk : ∀ b H', ae (blk b (.cells false cs) * P) H' → wp (k (vs b 1 e) H') Q) : wp (AB 1 e zero xs H k) Q := QG h f.eq hk
theorem aH {P2 : SP} {H2 : AH} {ro2 : Bool} {cs2 : List Value} {k : OV} (h : ae P H) (h2 : ae P2 H2) [i : Hs P b (.cells ro cs)] [i2 : Hs P2 b (.cells ro2 cs2)] (e : cs[o]? = cs2[o]?) (hk : wp k Q) :
 wp (bS (aq (oy b o) H) (aq (oy b o) H2) k) Q := by
 refine wC ?_ hk;simp only [aq, sq, dL, bG, i.get h, i2.get h2];exact e
theorem dQ {P2 : SP} {H2 : AH} {ro2 : Bool} {cs2 : List Value} {k : OV} (h : ae P H) (h2 : ae P2 H2) [i : Hs P b (.cells ro cs)] [i2 : Hs P2 b (.cells ro2 cs2)] (e : cs = cs2) (hk : wp k Q) :
 wp (bS (ay n (oy b o) H) (ay n (oy b o) H2) k) Q := by
 refine wC ?_ hk;simp only [ay, sq, dL, bG, i.get h, i2.get h2, e]
def Sp {α : Type} (f : Nat) (args : List Value) (P : SP) (v : α → Value) (Q : α → SP) : Prop := ∀ R H, ae (P * R) H → ∃ x H', FF f args H = some (v x, H') ∧ ae (Q x * R) H'
theorem aJ {α : Type} {f : Nat} {args : List Value} {P : SP} {v : α → Value} {Q : α → SP} (h : ∀ R H, ae (P * R) H → wp (FF f args H) fun v' H' => ∃ x, v' = v x ∧ ae (Q x * R) H') : Sp f args P v Q := by
 intro R H hh;obtain ⟨v', H', e, x, rfl, hq⟩ := h R H hh;exact ⟨x, H', e, hq⟩
theorem bn {α : Type} {f : Nat} {args : List Value} {P : SP} {v : α → Value} {Q : α → SP} {g : AH → OV} (hf : ∀ (H : AH) {r : Value × AH}, g H = some r → FF f args H = some r) (k : ∀ (R : SP) (H : AH), ae (P * R) H → wp (g H) fun v' H' => ∃ x, v' = v x ∧ ae (Q x * R) H') : Sp f args P v Q := aJ fun R H h => bm (fun r => hf H) (k R H h)
theorem af {α : Type} {f : Nat} {args : List Value} {P0 : SP} {v : α → Value} {Q0 : α → SP} {k : Value × AH → OV} (h : ae P H) (s : Sp f args P0 v Q0) [fr : Fr P P0 R] (hk : ∀ x H', ae (Q0 x * R) H' → wp (k (v x, H')) Q) : wp ((FF f args H).bind k) Q := by
 obtain ⟨x, H', e, h'⟩ := s R H h.fr;rw [e];exact hk x H' h'
end
def sl (e : Nat) (v : Value) (n : Nat) (cs : List Value) : SP := ex fun ob : Option Nat => match ob with
 | none => pu (v = .slice none 0 0 ∧ n = 0 ∧ cs = [])
 | some b => pu (v = vs b n e ∧ cs.length = n * e) * blk b (.cells false cs)
theorem Qu {R : SP} {H : AH} (e : Nat) (h : ae R H) : ae (sl e (.slice none 0 0) 0 [] * R) H := ae.ex.2 ⟨none, ae.pu.2 ⟨⟨rfl, rfl, rfl⟩, h⟩⟩
theorem ww {R : SP} {H : AH} {e b n : Nat} {cs : List Value} (hl : cs.length = n * e) (h : ae (blk b (.cells false cs) * R) H) : ae (sl e (vs b n e) n cs * R) H :=
 ae.ex.2 ⟨some b, by rw [aj]; exact ae.pu.2 ⟨⟨rfl, hl⟩, h⟩⟩
theorem sf {R : SP} {H : AH} {e n : Nat} {v : Value} {cs : List Value} (h : ae (sl e v n cs * R) H) : (v = .slice none 0 0 ∧ n = 0 ∧ cs = [] ∧ ae R H) ∨ ∃ b, v = vs b n e ∧ cs.length = n * e ∧ ae (blk b (.cells false cs) * R) H := by
 obtain ⟨ob, h⟩ := ae.ex.1 h
 cases ob with
 | none =>
  obtain ⟨⟨h1, h2, h3⟩, h4⟩ := ae.pu.1 h;exact .inl ⟨h1, h2, h3, h4⟩
 | some b =>
  simp only [aj] at h;obtain ⟨⟨h1, h2⟩, h4⟩ := ae.pu.1 h;exact .inr ⟨b, h1, h2, h4⟩
class Sl (P : SP) (e : Nat) (v : Value) (n : outParam Nat) (cs : outParam (List Value)) (R : outParam SP) : Prop where
 eq : P = sl e v n cs * R
instance (priority := high) Sl.refl (e n : Nat) (v : Value) (cs : List Value) : Sl (sl e v n cs) e v n cs emp := ⟨(fT _).symm⟩
instance Sl.left (P Q R : SP) (e n : Nat) (v : Value) (cs : List Value) [h : Sl P e v n cs R] : Sl (P * Q) e v n cs (R * Q) := ⟨by rw [h.eq, aj]⟩
instance Sl.right (P Q R : SP) (e n : Nat) (v : Value) (cs : List Value) [h : Sl Q e v n cs R] : Sl (P * Q) e v n cs (P * R) := ⟨by rw [h.eq, ch]⟩
theorem Sl.fr {P R : SP} (e : Nat) {n : Nat} (v : Value) {cs : List Value} [h : Sl P e v n cs R] {H : AH} (k : ae P H) : ae (sl e v n cs * R) H := by rw [← h.eq]; exact k
section
variable {P P' R : SP} {H : AH} {b o n m e k : Nat} {ro : Bool} {cs xcs : List Value} {v s x : Value} {Q : Value → AH → Prop}
theorem adY {bytes : Nat} {kk : Value × AH → OV} (h : ae P H) [f : Sl P e s n cs R] [i : Hs R b (.cells ro xcs)] (hl : xcs.length = k * e) (he : 0 < e) (hk0 : 0 < k) (hc : xcs.all Value.oneCell' = true)
 (hr : (n + k) * bytes ≤ dc ∧ n + k ≤ dc) (hk : ∀ a c H', ae (sl e (.slice a (n + k) c) (n + k) (cs ++ xcs) * R) H' → wp (kk (.slice a (n + k) c, H')) Q) : wp ((e8 e bytes s (vs b k e) H).bind kk) Q := by
 have hf := Sl.fr e s h;have hg := i.get hf.right
 have hrow : ln e (vs b k e) H = some (k, xcs) := by
  simp only [ln, dL, hg, bG];rw [if_neg (by omega), if_pos (by omega)];simp [← hl]
 unfold e8;rw [hrow];simp only [bG];rw [if_pos ⟨hc, he⟩]
 rcases sf hf with ⟨rfl, rfl, rfl, h'⟩ | ⟨b', rfl, hcl, h'⟩
 ·simp only [and_self, if_true]
  rw [if_neg (by omega), if_pos (by simpa using hr)];simp only [bG, Nat.zero_add, List.nil_append] at hk ⊢;exact hk _ _ _ (ww hl (h'.push _))
 ·simp only
  have hgb := h'.left.get;rw [if_neg (by omega), if_neg (by omega), hgb];simp only;rw [if_pos ⟨trivial, by omega, hr.1, hr.2⟩];simp only [bG, List.drop_zero];rw [← hcl, List.take_length];have h2 := h'.dead.push (.cells false (cs ++ xcs));rw [AH.size_set] at h2;exact hk _ _ _ (ww (by rw [vm, hcl, hl, Nat.add_mul]) h2)
end
abbrev cZ := Int × Int × Int
def eA (l : cZ) : Value := .agg #[vi l.1, vi l.2.1, vi l.2.2]
instance uj.loc (l : cZ) : uj (eA l) [vi l.1, vi l.2.1, vi l.2.2] := ⟨rfl⟩
structure Ev where
 who : Int
 kind : Int
 loc : cZ
deriving DecidableEq
def Ev.cells (e : Ev) : List Value := [vi e.who, vi e.kind, vi e.loc.1, vi e.loc.2.1, vi e.loc.2.2]
def oF (E : List Ev) : List Value := E.flatMap Ev.cells
theorem FX (E : List Ev) (x : Ev) : oF (E ++ [x]) = oF E ++ x.cells := by simp [oF]
section
variable {α : Type} {enc : α → List Value} {e : Nat}
theorem io (he : ∀ x, (enc x).length = e) (l : List α) : (l.flatMap enc).length = l.length * e := by
 induction l with
 | nil => simp
 | cons x l ih => rw [List.flatMap_cons, vm, he, ih, List.length_cons, Nat.add_mul]; omega
theorem SV (he : ∀ x, (enc x).length = e) : ∀ (l : List α) (i : Nat), (l.flatMap enc).drop (i * e) = (l.drop i).flatMap enc := by
 intro l
 induction l with
 | nil => intro i; simp
 | cons x l ih =>
  intro i
  cases i with
  | zero => simp
  | succ i =>
   rw [List.flatMap_cons, List.drop_append, he, show (i + 1) * e - e = i * e from by rw [Nat.add_mul]; omega, ih, List.drop_eq_nil_of_le (by rw [he, Nat.add_mul]; omega)]
   rfl
theorem me (l : List α) (i : Nat) (hi : i < l.length) : l.flatMap enc = (l.take i).flatMap enc ++ (enc l[i] ++ (l.drop (i + 1)).flatMap enc) := by
 rw [← List.flatMap_cons, ← List.flatMap_append, List.getElem_cons_drop, List.take_append_drop]
theorem Ca (l : List α) (i : Nat) (hi : i < l.length) (y : α) : (l.set i y).flatMap enc = (l.take i).flatMap enc ++ (enc y ++ (l.drop (i + 1)).flatMap enc) := by
 rw [← List.flatMap_cons, ← List.flatMap_append, List.set_eq_take_append_cons_drop, if_pos hi]
theorem rh (he : ∀ x, (enc x).length = e) (l : List α) (i : Nat) (hi : i < l.length) : ((l.take i).flatMap enc).length = i * e := by
 rw [io he, List.length_take, Nat.min_eq_left (by omega)]
theorem Ay (he : ∀ x, (enc x).length = e) (l : List α) (i : Nat) (hi : i < l.length) : ((l.flatMap enc).drop (i * e)).take e = enc l[i] := by
 rw [me l i hi, List.drop_append, rh he l i hi, Nat.sub_self, List.drop_zero, List.drop_eq_nil_of_le (by rw [rh he l i hi]; omega), List.nil_append, List.take_append, he, Nat.sub_self, List.take_zero, List.append_nil,
  List.take_of_length_le (by rw [he]; omega)]
theorem tg (he : ∀ x, (enc x).length = e) (l : List α) (i : Nat) (hi : i < l.length) (f : Nat) (hf : f < e) : (l.flatMap enc)[i * e + f]? = (enc l[i])[f]? := by
 rw [me l i hi, List.getElem?_append_right (by rw [rh he l i hi]; omega), rh he l i hi, List.getElem?_append_left (by rw [he]; omega)]
 congr 1
 omega
theorem Nf (A X B xs : List Value) (f : Nat) (h : f + xs.length ≤ X.length) : splice (A ++ (X ++ B)) (A.length + f) xs = A ++ (splice X f xs ++ B) := by
 unfold splice;rw [List.take_append, List.take_append, List.drop_append, List.drop_append, List.take_of_length_le (by omega), List.drop_eq_nil_of_le (by omega)]
 have e1 : A.length + f - A.length = f := by omega
 have e2 : A.length + f + xs.length - A.length = f + xs.length := by omega
 have e3 : f + xs.length - X.length = 0 := by omega
 have e4 : f - X.length = 0 := by omega
 rw [e1, e2, e3, e4];simp
theorem yw (he : ∀ x, (enc x).length = e) (l : List α) (i : Nat) (hi : i < l.length) (f : Nat) (xs : List Value) (hf : f + xs.length ≤ e) (y : α) (hy : splice (enc l[i]) f xs = enc y) :
 splice (l.flatMap enc) (i * e + f) xs = (l.set i y).flatMap enc := by
 rw [me l i hi, Ca l i hi, ← rh he l i hi, Nf _ _ _ _ _ (by rw [he]; exact hf), hy]
end
def ts {α : Type} (e : Nat) (enc : α → List Value) (v : Value) (l : List α) : SP := sl e v l.length (l.flatMap enc)
class Enc {α : Type} (enc : α → List Value) (e : outParam Nat) : Prop where
 len : ∀ x, (enc x).length = e
 one : ∀ x, (enc x).all Value.oneCell' = true
 pos : 0 < e
class Ts (P : SP) (s : Value) (α : outParam Type) (e : outParam Nat) (enc : outParam (α → List Value)) (l : outParam (List α)) (R : outParam SP) : Prop where
 eq : P = ts e enc s l * R
instance (priority := high) Ts.refl {α : Type} (e : Nat) (enc : α → List Value) (s : Value) (l : List α) : Ts (ts e enc s l) s α e enc l emp := ⟨(fT _).symm⟩
instance Ts.left {α : Type} (P Q R : SP) (e : Nat) (enc : α → List Value) (s : Value) (l : List α) [h : Ts P s α e enc l R] : Ts (P * Q) s α e enc l (R * Q) := ⟨by rw [h.eq, aj]⟩
instance Ts.right {α : Type} (P Q R : SP) (e : Nat) (enc : α → List Value) (s : Value) (l : List α) [h : Ts Q s α e enc l R] : Ts (P * Q) s α e enc l (P * R) := ⟨by rw [h.eq, ch]⟩
class Tu (P : SP) (s : Value) {α : Type} (l' : List α) (P' : outParam SP) : Prop where
 up : ∃ e enc, ∃ (l : List α), ∃ R, P = ts e enc s l * R ∧ P' = ts e enc s l' * R
theorem ee {α : Type} {R : SP} {H : AH} (e : Nat) (enc : α → List Value) (h : ae R H) : ae (ts e enc (.slice none 0 0) [] * R) H := Qu e h
section
variable {α : Type} {P P' R : SP} {H : AH} {b o e : Nat} {ro : Bool} {enc : α → List Value} {l : List α} {xcs : List Value} {s : Value} {Q : Value → AH → Prop}
theorem o9 (h : ae P H) [f : Ts P s α e enc l R] : (s = .slice none 0 0 ∧ l = [] ∧ ae R H) ∨ ∃ b, s = vs b l.length e ∧ ae (blk b (.cells false (l.flatMap enc)) * R) H := by
 have h' : ae (ts e enc s l * R) H := by rw [← f.eq]; exact h
 rcases sf h' with ⟨h1, h2, _, h4⟩ | ⟨b, h1, _, h3⟩
 ·exact .inl ⟨h1, List.eq_nil_of_length_eq_zero h2, h4⟩
 ·exact .inr ⟨b, h1, h3⟩
theorem AO {b : Nat} [E : Enc enc e] (h : ae (blk b (.cells false (l.flatMap enc)) * R) H) : ae (ts e enc (vs b l.length e) l * R) H := ww (io E.len l) h
theorem rn {k : Value → OV} (h : ae P H) [f : Ts P s α e enc l R] (hk : wp (k (vi l.length)) Q) : wp (gI s k) Q := by
 rcases o9 (f := f) h with ⟨rfl, rfl, _⟩ | ⟨b, rfl, _⟩
 ·exact hk
 ·exact hk
theorem ig {bytes : Nat} {kk : Value × AH → OV} (x : α) (h : ae P H) [f : Ts P s α e enc l R] [i : Hs R b (.cells ro xcs)] [E : Enc enc e] (hx : xcs = enc x)
 (hr : (l.length + 1) * bytes ≤ dc) (hb : 0 < bytes) (hk : ∀ a c H', ae (ts e enc (.slice a (l.length + 1) c) (l ++ [x]) * R) H' → wp (kk (.slice a (l.length + 1) c, H')) Q) : wp ((e8 e bytes s (vs b 1 e) H).bind kk) Q := by
 have h' : ae (sl e s l.length (l.flatMap enc) * R) H := by
  have : P = ts e enc s l * R := f.eq;rw [this] at h;exact h
 subst hx;refine adY (k := 1) (ro := ro) (xcs := enc x) h' (by rw [E.len]; omega) E.pos (by omega) (E.one x) ⟨hr, ?_⟩ fun a c H' h2 => hk a c H' ?_
 ·have : l.length + 1 ≤ (l.length + 1) * bytes := Nat.le_mul_of_pos_right _ hb
  omega
 ·have e1 : (l ++ [x]).length = l.length + 1 := by simp
  have e2 : (l ++ [x]).flatMap enc = l.flatMap enc ++ enc x := by simp
  unfold ts;rw [e1, e2];rw [gF] at h2;exact h2
theorem afK {k : Value → OV} {i : Nat} {kk : IntKind} (h : ae P H) [f : Ts P s α e enc l R] [E : Enc enc e] (hi : i < l.length) (hk : wp (k (.agg (enc l[i]).toArray)) Q) : wp (ldN e [.i e (.int kk (i : Int))] s H k) Q := by
 rcases o9 (f := f) h with ⟨_, rfl, _⟩ | ⟨b, rfl, h'⟩
 ·simp at hi
 ·unfold ldN
  rw [N1 hi aZ];have hlen := io E.len l;have hm : (i + 1) * e ≤ l.length * e := Nat.mul_le_mul_right _ (by omega);rw [Nat.add_mul] at hm;have := Md (b := b) (cs := l.flatMap enc) (ro := false) (n := e) (o := 0 + i * e) h' (by omega);rw [this, bG, Nat.zero_add, Ay E.len l i hi];exact hk
theorem afJ {k : Value → OV} {i : Nat} {kk : IntKind} {v : Value} (h : ae P H) [f : Ts P s α 1 enc l R] [E : Enc enc 1] (hi : i < l.length) (hv : enc l[i] = [v]) (hk : wp (k v) Q) : wp (ld [.i 1 (.int kk (i : Int))] s H k) Q := by
 rcases o9 (f := f) h with ⟨_, rfl, _⟩ | ⟨b, rfl, h'⟩
 ·simp at hi
 ·unfold ld
  rw [N1 hi aZ]
  have := Mc (b := b) (o := 0 + i * 1) (v := v) h' (by
   have := tg E.len l i hi 0 (by omega);rw [Nat.add_zero] at this
   rw [Nat.zero_add, this, hv]; rfl)
  rw [this];exact hk
theorem Ku {n : Nat} {p : List Stp} {k : AH → OV} {i g : Nat} {kk : IntKind} {v : Value} {xs : List Value} (y : α) (h : ae P H) [f : Ts P s α e enc l R] [E : Enc enc e] (hi : i < l.length) (hp : p = [.i e (.int kk (i : Int))] ∧ g = 0 ∨ p = [.i e (.int kk (i : Int)), .f g])
 [c : uj v xs] (hn : xs.length = n) (hg : g + n ≤ e) (hx : xs.all Value.oneCell' = true) (hy : splice (enc l[i]) g xs = enc y) (hk : ∀ H', ae (ts e enc s (l.set i y) * R) H' → wp (k H') Q) : wp (st n p s v H k) Q := by
 rcases o9 (f := f) h with ⟨_, rfl, _⟩ | ⟨b, rfl, h'⟩
 ·simp at hi
 ·have hend : KD p (vs b l.length e) b (i * e + g) := by
   rcases hp with ⟨rfl, rfl⟩ | rfl
   ·intro R' k'
    rw [N1 hi aZ];simp
   ·intro R' k'
    rw [N1 hi (aL aZ)];simp
  unfold st;have hc := c.eq;subst hc;rw [hend];have hlen := io E.len l;have hm : (i + 1) * e ≤ l.length * e := Nat.mul_le_mul_right _ (by omega);rw [Nat.add_mul] at hm;rw [YV h' (by simpa using hn) (by omega) hx, bG, yw E.len l i hi g _ (by rw [hn]; exact hg) y hy];refine hk _ ?_;have h2 := h'.set (.cells false ((l.set i y).flatMap enc));have h3 := AO (e := e) (enc := enc) (l := l.set i y) h2;rw [Mb] at h3;exact h3
end
instance : Enc Ev.cells 5 := ⟨fun _ => rfl, fun _ => rfl, by omega⟩
def fp (n : Int) : List Value := [vi n]
instance : Enc fp 1 := ⟨fun _ => rfl, fun _ => rfl, by omega⟩
def af2 (H : AH) (s : Value) (e n : Nat) (cs : List Value) : Prop :=
 cs.length = n * e ∧ ((∃ a c, s = .slice a 0 c ∧ n = 0 ∧ (a = none → c = 0) ∧ (∀ x, a = some x → ∃ b o, x = ⟨b, o, none⟩)) ∨ ∃ b o ro row, s = .slice (some ⟨b, o, none⟩) n e ∧ H.get b = some (.cells ro row) ∧ o + n * e ≤ row.length ∧ (row.drop o).take (n * e) = cs)
class Rd {α : outParam Type} (P : SP) (s : Value) (e : outParam Nat) (enc : outParam (α → List Value)) (l : outParam (List α)) : Prop where
 rd : ∀ {H : AH}, ae P H → af2 H s e l.length (l.flatMap enc)
instance Rd.left {α : Type} (P Q : SP) (s : Value) (e : Nat) (enc : α → List Value) (l : List α) [r : Rd P s e enc l] : Rd (P * Q) s e enc l := ⟨fun h => r.rd h.left⟩
instance Rd.right {α : Type} (P Q : SP) (s : Value) (e : Nat) (enc : α → List Value) (l : List α) [r : Rd Q s e enc l] : Rd (P * Q) s e enc l := ⟨fun h => r.rd h.right⟩
instance Rd.own {α : Type} (s : Value) (e : Nat) (enc : α → List Value) (l : List α) : Rd (ts e enc s l) s e enc l := ⟨by
 intro H h
 have h' : ae (ts e enc s l * emp) H := by rw [fT]; exact h
 rcases sf h' with ⟨rfl, h2, h3, _⟩ | ⟨b, rfl, hc, h4⟩
 ·exact ⟨by rw [h3, h2]; simp, .inl ⟨none, 0, rfl, h2, fun _ => rfl, fun x hx => by cases hx⟩⟩
 ·exact ⟨hc, .inr ⟨b, 0, false, _, rfl, h4.left.get, by omega, by rw [List.drop_zero, ← hc, List.take_length]⟩⟩⟩
section
variable {α : Type} {P R : SP} {H : AH} {e n : Nat} {enc : α → List Value} {l m : List α} {s : Value} {Q : Value → AH → Prop}
theorem jW {k : Value → OV} (h : ae P H) [r : Rd P s e enc l] (hk : wp (k (vi l.length)) Q) : wp (gI s k) Q := by
 obtain ⟨_, ⟨a, c, rfl, hn, _⟩ | ⟨b, o, ro, row, rfl, _⟩⟩ := r.rd h
 ·rw [hn] at hk; exact hk
 ·exact hk
theorem ae5 {R' : Type} {k : Value → Option R'} (h : ae P H) [r : Rd P s e enc l] : gI s k = k (vi l.length) := by
 obtain ⟨_, ⟨a, c, rfl, hn, _⟩ | ⟨b, o, ro, row, rfl, _⟩⟩ := r.rd h
 ·rw [hn]; rfl
 ·rfl
theorem iF {k : Value → OV} (h : ae P H) [r : Rd P s e enc l] (hk : wp (k (vi l.length)) Q) : wp ((gI s some).bind k) Q := by
 rw [ae5 h]; exact hk
theorem xS (h : ae P H) [r : Rd P s e enc l] [E : Enc enc e] {i : Nat} (hi : i < l.length) : ∃ b o ro row, s = .slice (some ⟨b, o, none⟩) l.length e ∧ H.get b = some (.cells ro row) ∧ o + l.length * e ≤ row.length ∧ (row.drop o).take (l.length * e) = l.flatMap enc := by
 obtain ⟨_, ⟨a, c, rfl, hn, _⟩ | ⟨b, o, ro, row, h1, h2⟩⟩ := r.rd h
 ·omega
 ·exact ⟨b, o, ro, row, h1, h2⟩
theorem HV [E : Enc enc e] {row : List Value} {o i g : Nat} (h : (row.drop o).take (l.length * e) = l.flatMap enc) (hi : i < l.length) (hg : g < e) : row[o + i * e + g]? = (enc l[i])[g]? := by
 rw [← tg E.len l i hi g hg, ← h];have hm : (i + 1) * e ≤ l.length * e := Nat.mul_le_mul_right _ (by omega);rw [Nat.add_mul] at hm;rw [List.getElem?_take, if_pos (by omega), List.getElem?_drop]
 congr 1; omega
theorem Yw {i g : Nat} {kk : IntKind} {v : Value} (h : ae P H) [r : Rd P s e enc l] [E : Enc enc e] (hi : i < l.length) (hg : g < e) (hv : (enc l[i])[g]? = some v) {R' : Type} {p : List Stp} (hp : p = [.i e (.int kk (i : Int)), .f g] ∨ p = [.i e (.int kk (i : Int))] ∧ g = 0) {k : Value → Option R'} :
 ld p s H k = k v := by
 obtain ⟨b, o, ro, row, rfl, h2, h3, h4⟩ := xS (s := s) (enc := enc) (l := l) h hi
 have hend : ad p (.slice (some ⟨b, o, none⟩) l.length e) = fun k' : Value → Option R' => k' (oy b (o + i * e + g)) := by
  rcases hp with rfl | ⟨rfl, rfl⟩
  ·funext k'; rw [KP hi, ZO]; rfl
  ·funext k'; rw [KP hi]; rfl
 unfold ld;rw [hend];show (aq (oy b (o + i * e + g)) H).bind k = k v
 have : aq (oy b (o + i * e + g)) H = some v := by
  simp only [aq, sq, dL, bG, h2];rw [HV h4 hi hg, hv]
 rw [this]; rfl
theorem rm {k : Value → OV} {i g : Nat} {kk : IntKind} {v : Value} (h : ae P H) [r : Rd P s e enc l] [E : Enc enc e] (hi : i < l.length) (hg : g < e) (hv : (enc l[i])[g]? = some v) (hk : wp (k v) Q) : wp (ld [.i e (.int kk (i : Int)), .f g] s H k) Q := by
 rw [Yw h hi hg hv (.inl rfl)]; exact hk
theorem kQ {k : Value → OV} {i : Nat} {kk : IntKind} {v : Value} {enc : α → List Value} (h : ae P H) [r : Rd P s 1 enc l] [E : Enc enc 1] (hi : i < l.length) (hv : enc l[i] = [v]) (hk : wp (k v) Q) : wp (ld [.i 1 (.int kk (i : Int))] s H k) Q := by
 rw [Yw (g := 0) (v := v) h hi (by omega) (by rw [hv]; rfl) (.inr ⟨rfl, rfl⟩)]; exact hk
theorem Nu {k : Value → OV} {i : Nat} {kk : IntKind} (h : ae P H) [r : Rd P s e enc l] [E : Enc enc e] (hi : i < l.length) (hk : wp (k (.agg (enc l[i]).toArray)) Q) : wp (ldN e [.i e (.int kk (i : Int))] s H k) Q := by
 obtain ⟨b, o, ro, row, rfl, h2, h3, h4⟩ := xS (s := s) (enc := enc) (l := l) h hi;unfold ldN;rw [KP hi];have hm : (i + 1) * e ≤ l.length * e := Nat.mul_le_mul_right _ (by omega);rw [Nat.add_mul] at hm
 have : ay e (oy b (o + i * e)) H = some (.agg (enc l[i]).toArray) := by
  simp only [ay, sq, dL, bG, h2];rw [if_pos (by omega)]
  congr 3
  rw [← Ay E.len l i hi, ← h4, List.drop_take, List.drop_drop, List.take_take, Nat.min_eq_left (by omega)]
 show wp ((ay e (oy b (o + i * e)) H).bind k) Q;rw [this]; exact hk
theorem Yx {lo hi : Option Value} {a b : Nat} (h : ae P H) [r : Rd P s e enc l] [E : Enc enc e] (hlo : (lo = none ∧ a = 0) ∨ ∃ k, lo = some (.int k (a : Int))) (hhi : (hi = none ∧ b = l.length) ∨ ∃ k, hi = some (.int k (b : Int))) (h1 : a ≤ b) (h2 : b ≤ l.length) (h0 : 0 < l.length) :
 ∃ s', fE e s lo hi = some s' ∧ Rd P s' e enc ((l.take b).drop a) := by
 have hlen : ((l.take b).drop a).length = b - a := by rw [List.length_drop, List.length_take, Nat.min_eq_left h2]
 have hfl : (((l.take b).drop a).flatMap enc).length = (b - a) * e := by rw [io E.len, hlen]
 have hsub : ((l.take b).drop a).flatMap enc = ((l.flatMap enc).drop (a * e)).take ((b - a) * e) := by
  have e2 : (l.drop a).take (b - a) = (l.take b).drop a := by rw [List.drop_take]
  rw [SV E.len, ← e2]
  have gen : ∀ (m : List α) (k : Nat), k ≤ m.length → (m.take k).flatMap enc = (m.flatMap enc).take (k * e) := by
   intro m
   induction m with
   | nil => intro k hk; simp
   | cons x m ih =>
    intro k hk
    cases k with
    | zero => simp
    | succ k =>
     rw [List.take_succ_cons, List.flatMap_cons, List.flatMap_cons, ih k (by simpa using hk), List.take_append, E.len, List.take_of_length_le (l := enc x) (by rw [E.len, Nat.add_mul]; omega)]
     congr 2
     rw [Nat.add_mul, Nat.one_mul, Nat.add_sub_cancel]
  exact gen _ _ (by rw [List.length_drop]; omega)
 obtain ⟨h0, ⟨a0, c, rfl, hn, hc0, ha0⟩ | ⟨b0, o, ro, row, rfl, _⟩⟩ := r.rd h
 ·omega
 ·refine ⟨.slice (some ⟨b0, o + a * e, none⟩) (b - a) e, ?_, ⟨fun {H'} h' => ?_⟩⟩
  ·have hpos := E.pos
   have hab : (0 : Int) ≤ a ∧ (a : Int) ≤ b ∧ (b : Int) ≤ l.length := by omega
   rcases hlo with ⟨rfl, rfl⟩ | ⟨k1, rfl⟩ <;> rcases hhi with ⟨rfl, rfl⟩ | ⟨k2, rfl⟩ <;> simp only [fE, m8, bG]
   ·rw [if_pos (by omega)]; simp [hpos]
   ·rw [if_pos (by omega)]; simp [hpos]
   ·rw [if_pos (by omega)]; simp [hpos]
   ·rw [if_pos (by omega)]; simp [hpos]
  ·obtain ⟨h0', hr⟩ := r.rd h'
   refine ⟨by rw [hfl, hlen], .inr ?_⟩
   rcases hr with ⟨a1, c1, e1, hn, _, _⟩ | ⟨b1, o1, ro1, row1, e1, g1, g2, g3⟩
   ·omega
   ·obtain ⟨rfl, rfl⟩ : b1 = b0 ∧ o1 = o := by
     have := e1; simp at this; exact ⟨this.1.symm, this.2.symm⟩
    have hm : b * e ≤ l.length * e := Nat.mul_le_mul_right _ h2;have hm2 : a * e ≤ b * e := Nat.mul_le_mul_right _ h1;have hm3 : (b - a) * e = b * e - a * e := Nat.sub_mul ..;rw [hlen];refine ⟨b1, o1 + a * e, ro1, row1, rfl, g1, by omega, ?_⟩;rw [hsub, ← g3, List.drop_take, List.drop_drop, List.take_take, Nat.min_eq_left (by omega)]
end
def fix (H0 : AH) : SP := fun h => h = fun i => H0.get i
theorem SU (H0 : AH) : ae (fix H0) H0 := ⟨_, rfl, fun i o h => h⟩
class Fx (P : SP) (H0 : AH) : Prop where
 fx : ∀ {H : AH}, ae P H → ∀ b o, H0.get b = some o → H.get b = some o
instance Fx.refl (H0 : AH) : Fx (fix H0) H0 := ⟨by
 rintro H ⟨x, hx, hg⟩ b o hb
 have hx : x = _ := hx
 exact hg b o (by rw [hx]; exact hb)⟩
instance Fx.left (P Q : SP) (H0 : AH) [f : Fx P H0] : Fx (P * Q) H0 := ⟨fun h => f.fx h.left⟩
instance Fx.right (P Q : SP) (H0 : AH) [f : Fx Q H0] : Fx (P * Q) H0 := ⟨fun h => f.fx h.right⟩
theorem kH.flat {α : Type} {R : α → List Value → Prop} {enc : α → List Value} (hf : ∀ x c, R x c → c = enc x) {l : List α} {row : List Value} (h : kH R l row) : row = l.flatMap enc := by
 induction h with
 | nil => rfl
 | cons h1 _ ih => rw [hf _ _ h1, ih]; rfl
theorem Rd.arg {H0 : AH} {t : Ty} {enc : t.I → List Value} {l : List t.I} {v : Value} [E : Enc enc t.w] (hf : ∀ x c, Abs H0 t x c → c = enc x) (h : Abs H0 (.slice t) l [v]) : Rd (fix H0) v t.w enc l := ⟨fun {H} hH => by
 refine ⟨io E.len l, ?_⟩
 rcases h with ⟨rfl, e⟩ | ⟨rfl, b, e⟩ | ⟨b, row, h1, e, h3, _⟩
 ·obtain rfl : v = .slice none 0 0 := by simpa using e
  exact .inl ⟨none, 0, rfl, rfl, fun _ => rfl, fun x hx => by cases hx⟩
 ·obtain rfl : v = .slice (some ⟨b, 0, none⟩) 0 0 := by simpa using e
  exact .inl ⟨_, 0, rfl, rfl, (fun h => by cases h), fun x hx => ⟨b, 0, (e7 hx).symm⟩⟩
 ·obtain rfl : v = .slice (some ⟨b, 0, none⟩) l.length t.w := by simpa using e
  have hrow := h3.flat hf;refine .inr ⟨b, 0, true, row, rfl, (Fx.refl H0).fx hH b _ h1, ?_, ?_⟩
  ·rw [hrow, io E.len]; omega
  ·rw [List.drop_zero, hrow, ← io E.len l, List.take_length]⟩
section
variable {α : Type} {P R : SP} {H : AH} {e : Nat} {enc : α → List Value} {l m : List α} {s x : Value} {Q : Value → AH → Prop}
theorem Ij {bytes : Nat} {kk : Value × AH → OV} (h : ae P H) [f : Ts P s α e enc l R] [rd : Rd R x e enc m] [E : Enc enc e] (hr : (l.length + m.length) * bytes ≤ dc) (hb : 0 < bytes)
 (hk : ∀ v H', ae (ts e enc v (l ++ m) * R) H' → wp (kk (v, H')) Q) : wp ((e8 e bytes s x H).bind kk) Q := by
 have h' : ae (ts e enc s l * R) H := by rw [← f.eq]; exact h
 obtain ⟨hc, ⟨a, c, rfl, hn, _, hax⟩ | ⟨b, o, ro, row, rfl, hg, hle, hrow⟩⟩ := rd.rd h'.right
 ·have hm : m = [] := List.eq_nil_of_length_eq_zero hn
  subst hm
  have hpr : ln e (.slice a 0 c) H = some (0, []) := by
   cases a with
   | none => simp [ln]
   | some y => obtain ⟨b, o, rfl⟩ := hax y rfl; simp [ln]
  unfold e8;rw [hpr];simp only [bG];rw [if_pos ⟨rfl, E.pos⟩]
  rcases sf h' with ⟨rfl, h2, h3, h4⟩ | ⟨b', rfl, h2, h4⟩
  ·simp only [and_self, if_true, bG]
   refine hk _ _ ?_;rw [List.append_nil]; exact h'
  ·simp only [if_true, bG]
   refine hk _ _ ?_;rw [List.append_nil]; exact h'
 ·by_cases hm0 : m.length = 0
  ·have hm : m = [] := List.eq_nil_of_length_eq_zero hm0
   subst hm;unfold e8
   have hpr : ln e (.slice (some ⟨b, o, none⟩) ([] : List α).length e) H = some (0, []) := by simp [ln]
   rw [hpr];simp only [bG];rw [if_pos ⟨rfl, E.pos⟩]
   rcases sf h' with ⟨rfl, h2, h3, h4⟩ | ⟨b', rfl, h2, h4⟩
   ·simp only [and_self, if_true, bG]
    refine hk _ _ ?_;rw [List.append_nil]; exact h'
   ·simp only [if_true, bG]
    refine hk _ _ ?_;rw [List.append_nil]; exact h'
  ·have hpr : ln e (.slice (some ⟨b, o, none⟩) m.length e) H = some (m.length, m.flatMap enc) := by
    simp only [ln, dL, hg, bG];rw [if_neg hm0, if_pos hle, hrow]
   have hall : (m.flatMap enc).all Value.oneCell' = true := by
    rw [List.all_eq_true];intro y hy;obtain ⟨z, _, hz⟩ := List.mem_flatMap.1 hy;exact List.all_eq_true.1 (E.one z) y hz
   have hroom : l.length + m.length ≤ (l.length + m.length) * bytes := Nat.le_mul_of_pos_right _ hb;unfold e8;rw [hpr];simp only [bG];rw [if_pos ⟨hall, E.pos⟩]
   have e1 : (l ++ m).length = l.length + m.length := by simp
   have e2 : (l ++ m).flatMap enc = l.flatMap enc ++ m.flatMap enc := by simp
   have hmul : (l.length + m.length) * e = l.length * e + m.length * e := Nat.add_mul ..
   rcases sf h' with ⟨rfl, h2, h3, h4⟩ | ⟨b', rfl, h2, h4⟩
   ·simp only [and_self, if_true]
    rw [h2, Nat.zero_add] at hr hroom;rw [if_neg hm0, if_pos ⟨hr, by omega⟩];simp only [bG];refine hk _ _ ?_;unfold ts;rw [e1, e2, h3, h2, List.nil_append, Nat.zero_add];exact ww hc (h4.push _)
   ·have hgb := h4.left.get
    have hpos := E.pos;simp only;rw [if_neg hm0, if_neg (by omega), hgb];simp only;rw [if_pos ⟨trivial, by omega, hr, by omega⟩];simp only [bG, List.drop_zero];rw [← h2, List.take_length];have h5 := h4.dead.push (.cells false (l.flatMap enc ++ m.flatMap enc));rw [AH.size_set] at h5;refine hk _ _ ?_;unfold ts;rw [e1, e2];exact ww (by rw [vm, h2, hc]; omega) h5
theorem C5 {z : α} {zero : List Value} (hz : enc z = zero) : ∀ n : Nat, (List.replicate n zero).flatten = (List.replicate n z).flatMap enc := by
 intro n
 induction n with
 | zero => rfl
 | succ n ih => rw [List.replicate_succ, List.replicate_succ, List.flatten_cons, List.flatMap_cons, ih, hz]
theorem Ii {zero : List Value} {bytes n : Nat} {kk : Value × AH → OV} (z : α) (h : ae P H) [E : Enc enc e] (hz : enc z = zero) (hr : n * bytes ≤ dc) (hb : 0 < bytes) (hk : ∀ b H', ae (ts e enc (vs b n e) (List.replicate n z) * P) H' → wp (kk (vs b n e, H')) Q) :
 wp ((mv zero e bytes (vi n) (vi n) H).bind kk) Q := by
 have hroom : n ≤ n * bytes := Nat.le_mul_of_pos_right _ hb
 have hz2 : zero.length = e := by rw [← hz, E.len]
 unfold mv;simp only [u4];rw [if_pos ⟨by omega, trivial, hr, by omega, E.pos, hz2⟩];simp only [bG];refine hk _ _ ?_;have h2 := h.push (.cells false (List.replicate n zero).flatten);rw [C5 hz] at h2 ⊢;have h3 := AO (e := e) (enc := enc) (l := List.replicate n z) h2;rw [List.length_replicate] at h3;exact h3
end
class KeyE {κ : Type} [DecidableEq κ] (cl : outParam KCls) (ek : κ → Value) : Prop where
 eq : ∀ a b, kw cl (ek a) (ek b) = some (decide (a = b))
 ok : ∀ a, iS cl (ek a) = true
inductive Ents {κ : Type} (ek : κ → Value) : List (κ × Value) → List MapEntry → Prop
 | nil : Ents ek [] []
 | cons {p : κ × Value} {l : List (κ × Value)} {e : MapEntry} {es : List MapEntry} (h1 : e.key = ek p.1) (h2 : e.val = p.2) (k : Ents ek l es) : Ents ek (p :: l) (e :: es)
section
variable {κ : Type} [DecidableEq κ] {ek : κ → Value} {cl : KCls}
def Hh : List (κ × Value) → κ → Option Value
 | [], _ => none
 | p :: al, k => if k = p.1 then some p.2 else Hh al k
def Hi : List (κ × Value) → κ → Value → List (κ × Value)
 | [], k, v => [(k, v)]
 | p :: al, k, v => if k = p.1 then (k, v) :: al else p :: Hi al k v
theorem XA (k : κ) (v : Value) (x : κ) : ∀ al, Hh (Hi al k v) x = if x = k then some v else Hh al x := by
 intro al
 induction al with
 | nil => simp only [Hi, Hh]
 | cons p al ih =>
  simp only [Hi]
  by_cases hk : k = p.1
  ·rw [if_pos hk]
   simp only [Hh]
   by_cases hx : x = k
   ·simp [hx]
   ·have : ¬ x = p.1 := by rw [← hk]; exact hx
    simp [hx, this]
  ·rw [if_neg hk]
   simp only [Hh, ih]
   by_cases hx : x = p.1
   ·have : ¬ x = k := by rw [hx]; exact fun h => hk h.symm
    simp [hx];intro h; exact absurd h.symm hk
   ·simp [hx]
theorem aeT [K : KeyE cl ek] {al : List (κ × Value)} {es : List MapEntry} (h : Ents ek al es) (k : κ) : ∀ i, ∃ r, br cl (ek k) es i = some r ∧ r.map (·.2) = Hh al k := by
 induction h with
 | nil => intro i; exact ⟨none, rfl, rfl⟩
 | @cons p l e es h1 h2 _ ih =>
  intro i;simp only [br, h1, K.eq, bG, Hh]
  by_cases hp : k = p.1
  ·rw [if_pos (by simp [hp]), if_pos hp]
   exact ⟨_, rfl, by simp [h2]⟩
  ·rw [if_neg (by simp [hp]), if_neg hp]
   exact ih (i + 1)
theorem agH [K : KeyE cl ek] {al : List (κ × Value)} {es : List MapEntry} (h : Ents ek al es) (k : κ) (v : Value) : ∀ i, match br cl (ek k) es i with
 | some (some (j, _)) => i ≤ j ∧ Ents ek (Hi al k v) (es.modify (j - i) fun e => { e with key := ek k, val := v })
 | some none => ∀ born, Ents ek (Hi al k v) (es ++ [{ key := ek k, val := v, born := born }])
 | none => False := by
 induction h with
 | nil => intro i born; exact .cons rfl rfl .nil
 | @cons p l e es h1 h2 hh ih =>
  intro i;simp only [br, h1, K.eq, bG, Hi]
  by_cases hp : k = p.1
  ·rw [if_pos (show decide (k = p.1) = true by simp [hp]), if_pos hp]
   refine ⟨bJ _, ?_⟩;simp only [Nat.sub_self];exact .cons rfl rfl hh
  ·rw [if_neg (show ¬ decide (k = p.1) = true by simp [hp]), if_neg hp]
   have hi := ih (i + 1)
   cases hf : br cl (ek k) es (i + 1) with
   | none => rw [hf] at hi; exact hi
   | some r =>
    rw [hf] at hi
    cases r with
    | none => intro born; exact .cons h1 h2 (hi born)
    | some r =>
     obtain ⟨j, v'⟩ := r;simp only at hi ⊢;refine ⟨by omega, ?_⟩;rw [show j - i = (j - (i + 1)) + 1 from by omega];exact .cons h1 h2 hi.2
def UA (ek : κ → Value) (b : Nat) (f : κ → Option Value) : SP := ex fun g : List (κ × Value) × List MapEntry × Nat => pu (Ents ek g.1 g.2.1 ∧ ∀ k, Hh g.1 k = f k) * blk b (.map g.2.1 g.2.2)
class Mp (P : SP) (b : Nat) {κ : Type} [DecidableEq κ] (ek : κ → Value) (f : outParam (κ → Option Value)) (R : outParam SP) : Prop where
 eq : P = UA ek b f * R
instance (priority := high) Mp.refl {κ : Type} [DecidableEq κ] (b : Nat) (ek : κ → Value) (f : κ → Option Value) : Mp (UA ek b f) b ek f emp := ⟨(fT _).symm⟩
instance Mp.left {κ : Type} [DecidableEq κ] (P Q R : SP) (b : Nat) (ek : κ → Value) (f : κ → Option Value) [h : Mp P b ek f R] : Mp (P * Q) b ek f (R * Q) := ⟨by rw [h.eq, aj]⟩
instance Mp.right {κ : Type} [DecidableEq κ] (P Q R : SP) (b : Nat) (ek : κ → Value) (f : κ → Option Value) [h : Mp Q b ek f R] : Mp (P * Q) b ek f (P * R) := ⟨by rw [h.eq, ch]⟩
theorem PR {R : SP} {H : AH} {b : Nat} (ek : κ → Value) (h : ae (blk b (.map [] 0) * R) H) : ae (UA ek b (fun _ => none) * R) H :=
 ae.ex.2 ⟨([], [], 0), by rw [aj]; exact ae.pu.2 ⟨⟨.nil, fun _ => rfl⟩, h⟩⟩
theorem QH {P R : SP} {H : AH} {b : Nat} {f : κ → Option Value} {zero : Value} {kk : Value → OV} {Q : Value → AH → Prop} [K : KeyE cl ek] (k : κ) (h : ae P H) [m : Mp P b ek f R]
 (hk : wp (kk ((f k).getD zero)) Q) : wp ((cU cl zero (.map (some b)) (ek k) false H).bind kk) Q := by
 have h' : ae (UA ek b f * R) H := by rw [← m.eq]; exact h
 obtain ⟨⟨al, es, c⟩, h'⟩ := ae.ex.1 h';rw [aj, ae.pu] at h';obtain ⟨⟨he, hf⟩, h'⟩ := h';dsimp only at he hf h';obtain ⟨r, h1, h2⟩ := aeT he k 0;refine aa ?_ hk;unfold cU;rw [if_pos (K.ok k)];simp only [jS, h'.left.get, bG, h1, e6];rw [← hf k, ← h2]
 cases r <;> rfl
theorem Zj {P R : SP} {H : AH} {b : Nat} {f : κ → Option Value} {kk : AH → OV} {Q : Value → AH → Prop} [K : KeyE cl ek] (k : κ) (v : Value) (h : ae P H) [m : Mp P b ek f R]
 (hk : ∀ H', ae (UA ek b (fun x => if x = k then some v else f x) * R) H' → wp (kk H') Q) : wp ((eJ cl (.map (some b)) (ek k) v H).bind kk) Q := by
 have h' : ae (UA ek b f * R) H := by rw [← m.eq]; exact h
 obtain ⟨⟨al, es, c⟩, h'⟩ := ae.ex.1 h';rw [aj, ae.pu] at h';obtain ⟨⟨he, hf⟩, h'⟩ := h';dsimp only at he hf h';have hu := agH he k v 0;unfold eJ;rw [if_pos (K.ok k)];simp only [h'.left.get]
 have fin : ∀ {es' : List MapEntry} {c' : Nat}, Ents ek (Hi al k v) es' → ae (UA ek b (fun x => if x = k then some v else f x) * R) (H.set b (.map es' c')) := fun {es'} {c'} he' =>
  ae.ex.2 ⟨(Hi al k v, es', c'), by
   rw [aj]
   exact ae.pu.2 ⟨⟨he', fun x => by rw [XA, hf]⟩, h'.set _⟩⟩
 cases hf' : br cl (ek k) es 0 with
 | none => rw [hf'] at hu; exact absurd hu id
 | some r =>
  rw [hf'] at hu
  cases r with
  | none =>
   simp only [e6, bG];exact hk _ (fin (hu c))
  | some r =>
   obtain ⟨j, v'⟩ := r;simp only [e6, bG];exact hk _ (fin hu.2)
end
section
variable {cl : TCls} {w : Nat}
theorem adQ : ak cl .shr (vu w) (vw 61) = some (vu (w / 2305843009213693952)) := by
 have := El (cl := cl) (a := w) (k := .u64) (n := 61) (by omega)
 simpa using this
theorem agT : ak cl .shr (vu w) (vw 32) = some (vu (w / 4294967296)) := by
 have := El (cl := cl) (a := w) (k := .u64) (n := 32) (by omega)
 simpa using this
theorem NE (k : Nat) (hw : w < 18446744073709551616) (hk : 2 ^ k - 1 < 18446744073709551616) : ak cl .and (vu w) (.int .u64 ((2 ^ k - 1 : Nat) : Int)) = some (vu (w % 2 ^ k)) := by
 have := ZT (cl := cl) hw hk;rw [Nat.and_two_pow_sub_one_eq_mod] at this;exact this
theorem af8 (hw : w < 18446744073709551616) : ak cl .and (vu w) (vw 2305843009213693951) = some (vu (w % 2305843009213693952)) := by
 have := NE (cl := cl) 61 hw (by omega)
 simpa using this
theorem af7 (hw : w < 18446744073709551616) : ak cl .and (vu w) (vw 4294967295) = some (vu (w % 4294967296)) := by
 have := NE (cl := cl) 32 hw (by omega)
 simpa using this
theorem Fe (n : Nat) (h : n ≠ 0) : ak cl .rem (vu w) (.int .u64 (n : Int)) = some (vu (w % n)) := jD h
theorem adN (n : Nat) (h : n ≠ 0) (hw : w < 18446744073709551616) : ak cl .quo (vu w) (.int .u64 (n : Int)) = some (vu (w / n)) := wJ h hw
theorem adJ (n : Nat) : ak cl .mul (vu w) (.int .u64 (n : Int)) = some (vu (w * n % 18446744073709551616)) := Q5
theorem agK (h : w * 2305843009213693952 < 18446744073709551616) : ak cl .mul (vu w) (vw 2305843009213693952) = some (vu (w * 2305843009213693952)) := by
 have := adJ (cl := cl) (w := w) 2305843009213693952;rw [Nat.mod_eq_of_lt h] at this
 simpa using this
theorem agJ : ak cl .mul (vu w) (vw 4294967296) = some (vu (w * 4294967296 % 18446744073709551616)) := by
 have := adJ (cl := cl) (w := w) 4294967296
 simpa using this
theorem agP : ak cl .rem (vu w) (vw 2305843009213693952) = some (vu (w % 2305843009213693952)) := by
 have := Fe (cl := cl) (w := w) 2305843009213693952 (by omega)
 simpa using this
theorem agN (hw : w < 18446744073709551616) : ak cl .quo (vu w) (vw 2305843009213693952) = some (vu (w / 2305843009213693952)) := by
 have := adN (cl := cl) (w := w) 2305843009213693952 (by omega) hw
 simpa using this
theorem agO : ak cl .rem (vu w) (vw 4294967296) = some (vu (w % 4294967296)) := by
 have := Fe (cl := cl) (w := w) 4294967296 (by omega)
 simpa using this
theorem agM (hw : w < 18446744073709551616) : ak cl .quo (vu w) (vw 4294967296) = some (vu (w / 4294967296)) := by
 have := adN (cl := cl) (w := w) 4294967296 (by omega) hw
 simpa using this
theorem i3 {w : Nat} (hw : w < 9223372036854775808) : cF (some .i64) (vu w) = some (vi (w : Int)) := by
 simp only [cF];rw [oA (by omega) (by omega)]
theorem d5 {n : Int} (h0 : 0 ≤ n) (h1 : n < 18446744073709551616) : cF (some .u64) (vi n) = some (vu n.toNat) := by
 simp only [cF];rw [lR h0 h1];show _ = some (Value.int .u64 ((n.toNat : Nat) : Int));rw [Int.toNat_of_nonneg h0]
end
theorem adL {cl : TCls} {a b : Nat} : ak cl .neq (vu a) (vu b) = some (vb (a != b)) := by
 rw [rF]
 congr 2
 rw [Bool.eq_iff_iff];simp;omega
theorem acU {cl : TCls} {a b : Nat} : ak cl .eql (vu a) (vu b) = some (vb (a == b)) := by
 rw [e9]
 congr 2
 rw [Bool.eq_iff_iff];simp;omega
theorem acS {cl : TCls} {a b : Nat} : ak cl .add (vu a) (vu b) = some (vu ((a + b) % 18446744073709551616)) := by
 simp only [ak, mH, if_true];rw [Dz];simp
theorem Vm (a b : cZ) : ak (.flat 3) .eql (.agg #[vi a.1, vi a.2.1, vi a.2.2]) (.agg #[vi b.1, vi b.2.1, vi b.2.2]) = some (vb (a == b)) := by
 show (pQ (.flat 3) (.agg #[vi a.1, vi a.2.1, vi a.2.2]) (.agg #[vi b.1, vi b.2.1, vi b.2.2])).map (fun b => Value.bool b) = _;simp only [pQ];rw [if_pos ⟨rfl, rfl⟩];simp only [bL, if_true, e6, Bool.and_true]
 rfl
theorem rE {cl : TCls} {a b : Int} (h0 : -9223372036854775808 ≤ a * b) (h1 : a * b < 9223372036854775808) : ak cl .mul (vi a) (vi b) = some (vi (a * b)) := by simp only [ak, mH, if_true, oA h0 h1]
section
variable {cl : TCls} {k : IntKind} {a b : Int}
theorem cP (h : a < b) : ak cl .lss (.int k a) (.int k b) = some (vb true) := by rw [rD, fj h]
theorem bW (h : ¬ a < b) : ak cl .lss (.int k a) (.int k b) = some (vb false) := by rw [rD, ez h]
theorem Xy (h : a ≤ b) : ak cl .leq (.int k a) (.int k b) = some (vb true) := by rw [NQ, fj h]
theorem Xx (h : ¬ a ≤ b) : ak cl .leq (.int k a) (.int k b) = some (vb false) := by rw [NQ, ez h]
theorem nZ (h : b < a) : ak cl .gtr (.int k a) (.int k b) = some (vb true) := by rw [FK, fj h]
theorem g6 (h : ¬ b < a) : ak cl .gtr (.int k a) (.int k b) = some (vb false) := by rw [FK, ez h]
theorem uY (h : b ≤ a) : ak cl .geq (.int k a) (.int k b) = some (vb true) := by rw [rC, fj h]
theorem mf (h : ¬ b ≤ a) : ak cl .geq (.int k a) (.int k b) = some (vb false) := by rw [rC, ez h]
theorem ba (h : a = b) : ak cl .eql (.int k a) (.int k b) = some (vb true) := by rw [e9, beq_iff_eq.2 h]
theorem aC (h : ¬ a = b) : ak cl .eql (.int k a) (.int k b) = some (vb false) := by rw [e9, beq_eq_false_iff_ne.2 h]
theorem JC (h : ¬ a = b) : ak cl .neq (.int k a) (.int k b) = some (vb true) := by rw [rF, bne_iff_ne.2 h]
theorem sR (h : a = b) : ak cl .neq (.int k a) (.int k b) = some (vb false) := by
 rw [rF];simp [h]
end
theorem DQ {c : Bool} {e : Option Value} {v : Value} (h : e = some v) : gB (vb c) c e = some v := by
 cases c <;> (rw [h]; rfl)
theorem adE {v : Value} : gV (vb true) true v = some v := rfl
theorem adB {v : Value} : gV (vb false) false v = some v := rfl
theorem adD {v : Value} : gV (vb true) false v = some undef := rfl
theorem adC {v : Value} : gV (vb false) true v = some undef := rfl
theorem adA {e : Option Value} : gB (vb true) false e = some undef := rfl
theorem ac9 {e : Option Value} : gB (vb false) true e = some undef := rfl
section
variable {H : AH} {e : Option (Value × AH)} {k : Value × AH → OV} {Q : Value → AH → Prop} {x : Option Value} {kv : Value → OV}
theorem QC (h : wp (e.bind k) Q) : wp ((gE (vb true) true H e).bind k) Q := h
theorem Qz (h : wp (e.bind k) Q) : wp ((gE (vb false) false H e).bind k) Q := h
theorem QB (h : wp (k (undef, H)) Q) : wp ((gE (vb true) false H e).bind k) Q := h
theorem QA (h : wp (k (undef, H)) Q) : wp ((gE (vb false) true H e).bind k) Q := h
theorem Kt (h : wp (x.bind kv) Q) : wp ((xu (yv (vb true)) true x (some undef)).bind kv) Q := h
theorem Kq (h : wp (x.bind kv) Q) : wp ((xu (yv (vb false)) false x (some undef)).bind kv) Q := h
theorem Ks (h : wp (kv undef) Q) : wp ((xu (yv (vb true)) false x (some undef)).bind kv) Q := h
theorem Kr (h : wp (kv undef) Q) : wp ((xu (yv (vb false)) true x (some undef)).bind kv) Q := h
end
theorem Jm (c : Bool) (e : Option Value) : gB (vb c) c e = e := by cases c <;> cases e <;> rfl
theorem L7 {R : Type} (c : Bool) (k : Value → Option R) : ∀ (p : List Stp) (x : Value), G3 (vb c) c p x k = ad p x k := by
 intro p
 induction p with
 | nil => intro x; rfl
 | cons s p ih => intro x; cases s <;> simp only [G3, ad, Jm, ih]
theorem PI {R : Type} (c : Bool) (k : Value → Option R) (hk : ∀ x, k x = k undef) : ∀ (p : List Stp) (x : Value), G3 (vb c) (!c) p x k = k undef := by
 intro p
 induction p with
 | nil => intro x; exact hk x
 | cons s p ih => intro x; cases c <;> cases s <;> exact ih undef
section
variable {H : AH} {p : List Stp} {x : Value} {k : Value → OV} {Q : Value → AH → Prop} {n : Nat}
theorem Xn {R : Type} (c : Bool) (k : Value → Option R) : fI (vb c) c p x H k = ld p x H k := by simp only [fI, ld, L7, Jm]
theorem PJ {R : Type} (c : Bool) (k : Value → Option R) : sg (vb c) c n p x H k = ldN n p x H k := by simp only [sg, ldN, L7, Jm]
theorem PK {R : Type} (c : Bool) (k : Value → Option R) : fI (vb c) (!c) p x H k = k undef := by
 unfold fI
 rw [PI c _ (fun x => by cases c <;> rfl)]
 cases c <;> rfl
theorem Jn {R : Type} (c : Bool) (k : Value → Option R) : sg (vb c) (!c) n p x H k = k undef := by
 unfold sg
 rw [PI c _ (fun x => by cases c <;> rfl)]
 cases c <;> rfl
theorem Zh (h : wp (ld p x H k) Q) : wp (fI (vb true) true p x H k) Q := by rw [Xn]; exact h
theorem Ze (h : wp (ld p x H k) Q) : wp (fI (vb false) false p x H k) Q := by rw [Xn]; exact h
theorem Zg (h : wp (k undef) Q) : wp (fI (vb true) false p x H k) Q := by rw [show (false : Bool) = !true from rfl, PK]; exact h
theorem Zf (h : wp (k undef) Q) : wp (fI (vb false) true p x H k) Q := by rw [show fI (vb false) true p x H k = fI (vb false) (!false) p x H k from rfl, PK]; exact h
theorem Um (h : wp (ldN n p x H k) Q) : wp (sg (vb true) true n p x H k) Q := by rw [PJ]; exact h
theorem Uj (h : wp (ldN n p x H k) Q) : wp (sg (vb false) false n p x H k) Q := by rw [PJ]; exact h
theorem Ul (h : wp (k undef) Q) : wp (sg (vb true) false n p x H k) Q := by rw [show sg (vb true) false n p x H k = sg (vb true) (!true) n p x H k from rfl, Jn]; exact h
theorem Uk (h : wp (k undef) Q) : wp (sg (vb false) true n p x H k) Q := by rw [show sg (vb false) true n p x H k = sg (vb false) (!false) n p x H k from rfl, Jn]; exact h
theorem lw {e : Option Value} (h : wp (e.bind k) Q) : wp ((gB (vb true) true e).bind k) Q := by rw [Jm]; exact h
theorem ab7 {e : Option Value} (h : wp (e.bind k) Q) : wp ((gB (vb false) false e).bind k) Q := by rw [Jm]; exact h
theorem Zd {a b : OV} (h : wp a Q) : wp (au (vb true) a b) Q := h
theorem Zc {a b : OV} (h : wp b Q) : wp (au (vb false) a b) Q := h
end
theorem ahF {b : Bool} {v : Value} : gV undef b v = some undef := rfl
theorem ahE {b : Bool} {e : Option Value} : gB undef b e = some undef := rfl
theorem agF {R : Type} (b : Bool) (k : Value → Option R) (hk : ∀ x, k x = k undef) : ∀ (p : List Stp) (x : Value), G3 undef b p x k = k undef := by
 intro p
 induction p with
 | nil => intro x; exact hk x
 | cons s p ih => intro x; cases s <;> exact ih undef
theorem agG {R : Type} {b : Bool} {p : List Stp} {x : Value} {H : AH} (k : Value → Option R) : fI undef b p x H k = k undef := by
 unfold fI;rw [agF b _ (fun x => rfl)]
 rfl
theorem ab8 {b : Bool} {p : List Stp} {x : Value} {H : AH} {k : Value → OV} {Q : Value → AH → Prop} (h : wp (k undef) Q) : wp (fI undef b p x H k) Q := by rw [agG]; exact h
class Gd (x : OV) (y : outParam OV) : Prop where
 go : ∀ {Q : Value → AH → Prop}, wp y Q → wp x Q
section
variable {a b v : Value} {k : Value → OV} {H : AH} {e : Option (Value × AH)} {e1 : Option Value} {ke : Value × AH → OV} {p : List Stp} {x : Value} {n : Nat} {c : Bool} {o1 o2 : OV}
instance : Gd ((aM (vb true) a b).bind k) (k a) := ⟨aa (Yd _ _)⟩
instance : Gd ((aM (vb false) a b).bind k) (k b) := ⟨aa (Yc _ _)⟩
instance : Gd ((gV (vb true) true v).bind k) (k v) := ⟨aa adE⟩
instance : Gd ((gV (vb false) false v).bind k) (k v) := ⟨aa adB⟩
instance : Gd ((gV (vb true) false v).bind k) (k undef) := ⟨aa adD⟩
instance : Gd ((gV (vb false) true v).bind k) (k undef) := ⟨aa adC⟩
instance : Gd ((gB (vb true) false e1).bind k) (k undef) := ⟨aa adA⟩
instance : Gd ((gB (vb false) true e1).bind k) (k undef) := ⟨aa ac9⟩
instance : Gd ((gE (vb true) false H e).bind ke) (ke (undef, H)) := ⟨QB⟩
instance : Gd ((gE (vb false) true H e).bind ke) (ke (undef, H)) := ⟨QA⟩
instance : Gd ((gE (vb true) true H e).bind ke) (e.bind ke) := ⟨QC⟩
instance : Gd ((gE (vb false) false H e).bind ke) (e.bind ke) := ⟨Qz⟩
instance : Gd ((xu (yv (vb true)) false e1 (some undef)).bind k) (k undef) := ⟨Ks⟩
instance : Gd ((xu (yv (vb false)) true e1 (some undef)).bind k) (k undef) := ⟨Kr⟩
instance : Gd ((xu (yv (vb true)) true e1 (some undef)).bind k) (e1.bind k) := ⟨Kt⟩
instance : Gd ((xu (yv (vb false)) false e1 (some undef)).bind k) (e1.bind k) := ⟨Kq⟩
instance : Gd (fI (vb true) true p x H k) (ld p x H k) := ⟨Zh⟩
instance : Gd (fI (vb false) false p x H k) (ld p x H k) := ⟨Ze⟩
instance : Gd (fI (vb true) false p x H k) (k undef) := ⟨Zg⟩
instance : Gd (fI (vb false) true p x H k) (k undef) := ⟨Zf⟩
instance : Gd (sg (vb true) true n p x H k) (ldN n p x H k) := ⟨Um⟩
instance : Gd (sg (vb false) false n p x H k) (ldN n p x H k) := ⟨Uj⟩
instance : Gd (sg (vb true) false n p x H k) (k undef) := ⟨Ul⟩
instance : Gd (sg (vb false) true n p x H k) (k undef) := ⟨Uk⟩
instance : Gd ((gB (vb true) true e1).bind k) (e1.bind k) := ⟨lw⟩
instance : Gd ((gB (vb false) false e1).bind k) (e1.bind k) := ⟨ab7⟩
instance : Gd ((oW .not (vb c)).bind k) (k (vb (!c))) := ⟨aa Dw⟩
instance : Gd (au (vb true) o1 o2) o1 := ⟨Zd⟩
instance : Gd (au (vb false) o1 o2) o2 := ⟨Zc⟩
instance : Gd ((gV undef c v).bind k) (k undef) := ⟨aa ahF⟩
instance : Gd ((gB undef c e1).bind k) (k undef) := ⟨aa ahE⟩
instance : Gd (fI undef c p x H k) (k undef) := ⟨ab8⟩
class Gh (x : OV) (y : outParam OV) : Prop where
 go : ∀ {Q : Value → AH → Prop}, wp y Q → wp x Q
instance : Gh ((aM (vb true) a b).bind k) (k a) := ⟨aa (Yd _ _)⟩
instance : Gh ((aM (vb false) a b).bind k) (k b) := ⟨aa (Yc _ _)⟩
instance : Gh ((gV (vb true) true v).bind k) (k v) := ⟨aa adE⟩
instance : Gh ((gV (vb false) false v).bind k) (k v) := ⟨aa adB⟩
instance : Gh ((gV (vb true) false v).bind k) (k undef) := ⟨aa adD⟩
instance : Gh ((gV (vb false) true v).bind k) (k undef) := ⟨aa adC⟩
instance : Gh ((gB (vb true) false e1).bind k) (k undef) := ⟨aa adA⟩
instance : Gh ((gB (vb false) true e1).bind k) (k undef) := ⟨aa ac9⟩
instance : Gh ((gE (vb true) false H e).bind ke) (ke (undef, H)) := ⟨QB⟩
instance : Gh ((gE (vb false) true H e).bind ke) (ke (undef, H)) := ⟨QA⟩
instance : Gh ((gE (vb true) true H e).bind ke) (e.bind ke) := ⟨QC⟩
instance : Gh ((gE (vb false) false H e).bind ke) (e.bind ke) := ⟨Qz⟩
instance : Gh ((xu (yv (vb true)) false e1 (some undef)).bind k) (k undef) := ⟨Ks⟩
instance : Gh ((xu (yv (vb false)) true e1 (some undef)).bind k) (k undef) := ⟨Kr⟩
instance : Gh ((xu (yv (vb true)) true e1 (some undef)).bind k) (e1.bind k) := ⟨Kt⟩
instance : Gh ((xu (yv (vb false)) false e1 (some undef)).bind k) (e1.bind k) := ⟨Kq⟩
end
class Gs (x : OV) (y : outParam OV) : Prop where
 go : ∀ {Q : Value → AH → Prop}, wp y Q → wp x Q
class Gt (x : OV) (y : outParam OV) : Prop where
 go : ∀ {Q : Value → AH → Prop}, wp y Q → wp x Q
instance (priority := low) {x : OV} : Gs x x := ⟨id⟩
instance (priority := low) {x : OV} : Gt x x := ⟨id⟩
instance {x y z : OV} [g : Gd x y] [h : Gs y z] : Gs x z := ⟨fun q => g.go (h.go q)⟩
instance {x y z : OV} [g : Gh x y] [h : Gt y z] : Gt x z := ⟨fun q => g.go (h.go q)⟩
theorem gs {x y : OV} [g : Gs x y] {Q : Value → AH → Prop} (h : wp y Q) : wp x Q := g.go h
theorem gt {x y : OV} [g : Gt x y] {Q : Value → AH → Prop} (h : wp y Q) : wp x Q := g.go h
structure Mu where
 V : cZ → Nat
 E : List Ev
 N : Nat
abbrev Mu.log (μ : Mu) (who kind : Int) (at' : cZ) : Mu := { μ with E := μ.E ++ [⟨who, kind, at'⟩], N := μ.N + 1 }
abbrev Mu.put (μ : Mu) (at' : cZ) (v : Nat) : Mu := { μ with V := fun l => if l = at' then v else μ.V l }
def fV (al : List (cZ × Nat)) (l : cZ) : Nat := ((al.find? fun p => p.1 == l).map (·.2)).getD 0
def agC (p : cZ × Nat) (e : MapEntry) : Prop := e.key = eA p.1 ∧ e.val = .agg #[vu p.2]
inductive EntsOf : List (cZ × Nat) → List MapEntry → Prop
 | nil : EntsOf [] []
 | cons {p : cZ × Nat} {l : List (cZ × Nat)} {e : MapEntry} {es : List MapEntry} (h : agC p e) (k : EntsOf l es) : EntsOf (p :: l) (e :: es)
theorem ES (a b : cZ) : kw (.flat 3) (eA a) (eA b) = some (a == b) := by
 simp only [kw, eA];rw [if_pos ⟨rfl, rfl⟩];simp only [bL, if_true, e6, Bool.and_true]
 rfl
theorem SS {al : List (cZ × Nat)} {es : List MapEntry} (h : EntsOf al es) (l : cZ) : ∀ i, ∃ r, br (.flat 3) (eA l) es i = some r ∧ (match r with
 | some (j, v) => v = .agg #[vu (fV al l)] ∧ i ≤ j ∧ (∃ p, al[j - i]? = some p ∧ p.1 = l) ∧ ∀ q, q < j - i → ∀ p, al[q]? = some p → p.1 ≠ l
 | none => fV al l = 0 ∧ ∀ p ∈ al, p.1 ≠ l) := by
 induction h with
 | nil => intro i; exact ⟨none, rfl, rfl, by simp⟩
 | @cons p al e es h k ih =>
  intro i;simp only [br];rw [h.1, ES];simp only [bG]
  by_cases hp : p.1 = l
  ·have e1 : (l == p.1) = true := by simp [hp]
   rw [if_pos e1];refine ⟨_, rfl, ?_, bJ _, ⟨p, by simp, hp⟩, fun q hq => by omega⟩;rw [h.2];simp [fV, hp]
  ·have e1 : ¬ ((l == p.1) = true) := by simp; exact fun h => hp h.symm
   rw [if_neg e1];obtain ⟨r, h1, h2⟩ := ih (i + 1)
   have hg : fV (p :: al) l = fV al l := by simp [fV, hp]
   refine ⟨r, h1, ?_⟩
   cases r with
   | none =>
    simp only at h2 ⊢;rw [hg]
    exact ⟨h2.1, fun q hq => by
     rcases List.mem_cons.1 hq with rfl | hq
     ·exact hp
     ·exact h2.2 q hq⟩
   | some r =>
    obtain ⟨j, v⟩ := r;simp only at h2 ⊢;rw [hg];obtain ⟨a1, a2, ⟨p', a3, a4⟩, a5⟩ := h2;refine ⟨a1, by omega, ⟨p', ?_, a4⟩, fun q hq p'' hp'' => ?_⟩
    ·rw [show j - i = (j - (i + 1)) + 1 from by omega]; exact a3
    ·cases q with
     | zero => simp at hp''; rw [← hp'']; exact hp
     | succ q => exact a5 q (by omega) p'' (by simpa using hp'')
def mK : List (cZ × Nat) → cZ → Nat → List (cZ × Nat)
 | [], l, v => [(l, v)]
 | p :: al, l, v => if p.1 = l then (l, v) :: al else p :: mK al l v
theorem eM (p : cZ × Nat) (al : List (cZ × Nat)) (l : cZ) : fV (p :: al) l = if p.1 = l then p.2 else fV al l := by
 unfold fV
 by_cases h : p.1 = l
 ·simp [h]
 ·simp [h]
theorem Eg (l : cZ) (v : Nat) (x : cZ) : ∀ al, fV (mK al l v) x = if x = l then v else fV al x := by
 intro al
 induction al with
 | nil =>
  simp only [mK, eM]
  by_cases h : l = x
  ·simp [h]
  ·have : ¬ x = l := fun e => h e.symm
   simp [h, this]
 | cons p al ih =>
  simp only [mK]
  by_cases hp : p.1 = l
  ·rw [if_pos hp, eM, eM]
   by_cases h : l = x
   ·simp [h]
   ·have h2 : ¬ x = l := fun e => h e.symm
    simp [h, h2, hp]
  ·rw [if_neg hp, eM, eM, ih]
   by_cases h : p.1 = x
   ·have h2 : ¬ x = l := fun e => hp (h.trans e)
    simp [h, h2]
   ·simp [h]
theorem Y9 {al : List (cZ × Nat)} {es : List MapEntry} (h : EntsOf al es) (l : cZ) (v : Nat) : ∀ i, match br (.flat 3) (eA l) es i with
 | some (some (j, _)) => i ≤ j ∧ EntsOf (mK al l v) (es.modify (j - i) fun e => { e with key := eA l, val := .agg #[vu v] })
 | some none => ∀ born, EntsOf (mK al l v) (es ++ [{ key := eA l, val := .agg #[vu v], born := born }])
 | none => False := by
 induction h with
 | nil => intro i born; exact .cons ⟨rfl, rfl⟩ .nil
 | @cons p al e es h k ih =>
  intro i;simp only [br];rw [h.1, ES];simp only [bG]
  by_cases hp : p.1 = l
  ·have e1 : (l == p.1) = true := by simp [hp]
   rw [if_pos e1];simp only [mK, if_pos hp];refine ⟨bJ _, ?_⟩;simp only [Nat.sub_self];exact .cons ⟨rfl, rfl⟩ k
  ·have e1 : ¬ ((l == p.1) = true) := by simp; exact fun h => hp h.symm
   rw [if_neg e1];have hi := ih (i + 1);simp only [mK, if_neg hp]
   cases hf : br (.flat 3) (eA l) es (i + 1) with
   | none => rw [hf] at hi; exact hi
   | some r =>
    rw [hf] at hi
    cases r with
    | none => intro born; exact .cons h (hi born)
    | some r =>
     obtain ⟨j, v'⟩ := r;simp only at hi ⊢;refine ⟨by omega, ?_⟩;rw [show j - i = (j - (i + 1)) + 1 from by omega];exact .cons h hi.2
section
variable {P P' R : SP} {H : AH} {c ck : Nat} {es : List MapEntry} {al : List (cZ × Nat)} {Q : Value → AH → Prop}
theorem afI {k : Value → OV} {at' : cZ} (ha : EntsOf al es) (h : ae P H) [i : Hs P c (.map es ck)] (hk : wp (k (.agg #[vu (fV al at')])) Q) : wp ((cU (.flat 3) (.agg #[vw 0]) (.map (some c)) (eA at') false H).bind k) Q := by
 have hg := i.get h;obtain ⟨r, h1, h2⟩ := SS ha at' 0;refine aa ?_ hk;unfold cU;rw [if_pos (show iS (.flat 3) (eA at') = true from rfl)];simp only [jS, hg, bG, h1, e6]
 cases r with
 | none => simp only at h2 ⊢; rw [h2.1]; rfl
 | some r => simp only at h2 ⊢; rw [h2.1]; rfl
theorem agW {k : AH → OV} {at' : cZ} {v : Nat} (ha : EntsOf al es) (h : ae P H) [i : Hs P c (.map es ck)] (hk : ∀ es' ck' H', EntsOf (mK al at' v) es' → (∀ P', Up P c (.map es' ck') P' → ae P' H') → wp (k H') Q) :
 wp ((eJ (.flat 3) (.map (some c)) (eA at') (.agg #[vu v]) H).bind k) Q := by
 have hg := i.get h;have hu := Y9 ha at' v 0;unfold eJ;rw [if_pos (show iS (.flat 3) (eA at') = true from rfl)];simp only [hg]
 cases hf : br (.flat 3) (eA at') es 0 with
 | none => rw [hf] at hu; exact absurd hu id
 | some r =>
  rw [hf] at hu
  cases r with
  | none =>
   simp only [e6, bG];exact hk _ _ _ (hu ck) fun P' u => u.set h
  | some r =>
   obtain ⟨j, v'⟩ := r;simp only [e6, bG];exact hk _ _ _ hu.2 fun P' u => u.set h
end
def bD (m : Nat) (μ : Mu) : SP := ex fun g : Nat × Value × List (cZ × Nat) × List MapEntry × Nat =>
 pu (EntsOf g.2.2.1 g.2.2.2.1 ∧ (∀ l, fV g.2.2.1 l = μ.V l) ∧ μ.E.length ≤ μ.N) * (blk m (.cells false [.map (some g.1), g.2.1]) * (blk g.1 (.map g.2.2.2.1 g.2.2.2.2) * sl 5 g.2.1 μ.E.length (oF μ.E)))
theorem n9 (m : Nat) (μ : Mu) (who kind : Int) (at' : cZ) (hE : μ.N < 1099511627776) : Sp dq [vp m, vi who, vi kind, eA at'] (bD m μ) (fun _ : Unit => .tuple #[]) (fun _ => bD m (μ.log who kind at')) := by
 refine aJ fun R H h => ?_;obtain ⟨⟨c, l, al, es, ck⟩, h⟩ := ae.ex.1 h;rw [aj, ae.pu] at h;obtain ⟨hp, h⟩ := h;dsimp only at h hp;refine bm (fun r => zz _ _ _ _ H) ?_;refine bp (cs := [vi at'.1, vi at'.2.1, vi at'.2.2]) h fun b0 H1 h1 => ?_;refine ai h1 ac rfl ?_;refine aW h1 ?_;refine Kp (cs := [vi who, vi kind, vi at'.1, vi at'.2.1, vi at'.2.2]) rfl ?_;refine QG (cs := [vi who, vi kind, vi at'.1, vi at'.2.1, vi at'.2.2]) h1 rfl fun b1 H2 h2 => ?_;have hl := hp.2.2;refine adY h2 rfl (by omega) (by omega) rfl (by unfold dc; omega) fun a' c' H3 h3 => ?_;refine bg h3 ac rfl rfl fun H4 h4 => ?_;refine ap ⟨(), rfl, ?_⟩;refine ae.ex.2 ⟨(c, .slice a' (μ.E.length + 1) c', al, es, ck), ?_⟩;rw [aj, ae.pu];refine ⟨⟨hp.1, hp.2.1, by simp; exact hp.2.2⟩, ?_⟩
 have e1 : (μ.log who kind at').E.length = μ.E.length + 1 := by simp [Mu.log]
 have e2 : oF (μ.log who kind at').E = oF μ.E ++ [vi who, vi kind, vi at'.1, vi at'.2.1, vi at'.2.2] := by rw [Mu.log, FX]; rfl
 rw [e1, e2];exact h4.to
theorem vt (m : Nat) (μ : Mu) (at' : cZ) : Sp fu [vp m, eA at'] (bD m μ) (fun _ : Unit => vu (μ.V at')) (fun _ => bD m μ) := by
 refine aJ fun R H h => ?_;have h0 := h;obtain ⟨⟨c, l, al, es, ck⟩, h⟩ := ae.ex.1 h;rw [aj, ae.pu] at h;obtain ⟨hp, h⟩ := h;dsimp only at h hp;refine bm (fun r => zw _ _ H) ?_;refine bp (cs := [vi at'.1, vi at'.2.1, vi at'.2.2]) h fun b0 H1 h1 => ?_;refine ai h1 ac rfl ?_;refine aW h1 ?_;refine afI (at' := at') hp.1 h1 ?_;refine aa (v := vu (fV al at')) rfl ?_;refine ap ⟨(), by rw [hp.2.1], ?_⟩;refine ae.ex.2 ⟨(c, l, al, es, ck), ?_⟩;rw [aj, ae.pu];exact ⟨hp, h1.to⟩
theorem Jz {m : Nat} {μ : Mu} {at' : cZ} {v : Nat} {R P : SP} {H : AH} {c : Nat} {l : Value} {al : List (cZ × Nat)} {es : List MapEntry} {k : AH → OV} {Q : Value → AH → Prop} {ck : Nat}
 (hp : EntsOf al es ∧ (∀ l, fV al l = μ.V l) ∧ μ.E.length ≤ μ.N) (h : ae P H) [f : Fr P (blk m (.cells false [.map (some c), l]) * (blk c (.map es ck) * sl 5 l μ.E.length (oF μ.E))) R] [i : Hs P c (.map es ck)]
 (hk : ∀ H', ae (bD m (μ.put at' v) * R) H' → wp (k H') Q) : wp ((eJ (.flat 3) (.map (some c)) (eA at') (.agg #[vu v]) H).bind k) Q := by
 have h' := ae.fr (f := f) h;refine agW hp.1 h' fun es' ck' H' he hh => hk H' ?_;have h2 := hh _ inferInstance;refine ae.ex.2 ⟨(c, l, mK al at' v, es', ck'), ?_⟩;rw [aj, ae.pu];refine ⟨⟨he, fun x => ?_, hp.2.2⟩, h2.to⟩;dsimp only;rw [Eg, hp.2.1]
theorem S7 (m : Nat) (μ : Mu) (who : Int) (at' : cZ) (v : Nat) (hE : μ.N < 1099511627776) : Sp dC [vp m, vi who, eA at', vu v] (bD m μ) (fun _ : Unit => .tuple #[]) (fun _ => bD m ((μ.log who 2 at').put at' v)) := by
 refine bn (xm _ _ _ _) fun R H h => ?_;refine bp (cs := [vi at'.1, vi at'.2.1, vi at'.2.2]) h fun b0 H1 h1 => ?_;refine aW h1 ?_;refine af h1 (n9 m μ who 2 at' hE) fun _ H2 h2 => ?_;obtain ⟨⟨c, l, al, es, ck⟩, h2⟩ := ae.ex.1 h2;rw [aj, ae.pu] at h2;obtain ⟨hp, h2⟩ := h2;dsimp only at h2 hp;refine ai h2 ac rfl ?_;refine aW h2 ?_;refine Kp (cs := [vu v]) rfl ?_;refine Jz (m := m) (l := l) (μ := μ.log who 2 at') (at' := at') (v := v) hp h2 fun H3 h3 => ?_;exact ap ⟨(), rfl, h3.to⟩
theorem JA (m : Nat) (μ : Mu) (who : Int) (at' : cZ) (v : Nat) (hE : μ.N < 1099511627776) : Sp je [vp m, vi who, eA at', vu v] (bD m μ) (fun _ : Unit => vu (μ.V at')) (fun _ => bD m ((μ.log who 3 at').put at' v)) := by
 refine bn (zA _ _ _ _) fun R H h => ?_;refine bp (cs := [vi at'.1, vi at'.2.1, vi at'.2.2]) h fun b0 H1 h1 => ?_;refine aW h1 ?_;refine af h1 (vt m μ at') fun _ H2 h2 => ?_;refine aW h2 ?_;refine af h2 (n9 m μ who 3 at' hE) fun _ H3 h3 => ?_;obtain ⟨⟨c, l, al, es, ck⟩, h3⟩ := ae.ex.1 h3;rw [aj, ae.pu] at h3;obtain ⟨hp, h3⟩ := h3;dsimp only at h3 hp;refine ai h3 ac rfl ?_;refine aW h3 ?_;refine Kp (cs := [vu v]) rfl ?_;refine Jz (m := m) (l := l) (μ := μ.log who 3 at') (at' := at') (v := v) hp h3 fun H4 h4 => ?_;exact ap ⟨(), rfl, h4.to⟩
theorem XI (m : Nat) (μ : Mu) (who : Int) (at' : cZ) (hE : μ.N < 1099511627776) : Sp dp [vp m, vi who, eA at'] (bD m μ) (fun _ : Unit => vu (μ.V at')) (fun _ => bD m (μ.log who 1 at')) := by
 refine bn (zv _ _ _) fun R H h => ?_;refine bp (cs := [vi at'.1, vi at'.2.1, vi at'.2.2]) h fun b0 H1 h1 => ?_;refine aW h1 ?_;refine af h1 (n9 m μ who 1 at' hE) fun _ H2 h2 => ?_;refine aW h2 ?_;refine af h2 (vt m (μ.log who 1 at') at') fun _ H3 h3 => ?_;exact ap ⟨(), rfl, h3.to⟩
abbrev Mu.swap (μ : Mu) (who : Int) (at' : cZ) (was now : Nat) : Mu := if μ.V at' = was then (μ.log who 3 at').put at' now else μ.log who 4 at'
theorem XL (m : Nat) (μ : Mu) (who : Int) (at' : cZ) (was now : Nat) (hE : μ.N < 1099511627776) :
 Sp fv [vp m, vi who, eA at', vu was, vu now] (bD m μ) (fun _ : Unit => vb (decide (μ.V at' = was))) (fun _ => bD m (μ.swap who at' was now)) := by
 refine bn (zy _ _ _ _ _) fun R H h => ?_;refine bp (cs := [vi at'.1, vi at'.2.1, vi at'.2.2]) h fun b0 H1 h1 => ?_;refine aW h1 ?_;refine af h1 (vt m μ at') fun _ H2 h2 => ?_;refine aa adL ?_;unfold Mu.swap;refine bZ (fun hc => ?_) (fun hc => ?_)
 ·have hc : ¬ μ.V at' = was := by simpa using hc
  rw [if_neg hc, ez hc];refine aW h2 ?_;refine af h2 (n9 m μ who 4 at' hE) fun _ H3 h3 => ?_;exact ap ⟨(), rfl, h3.to⟩
 ·have hc : μ.V at' = was := by simpa using hc
  rw [if_pos hc, fj hc];refine aW h2 ?_;refine af h2 (JA m μ who at' now hE) fun _ H3 h3 => ?_;exact ap ⟨(), rfl, h3.to⟩
theorem abH (m : Nat) (μ : Mu) (who : Int) (at' : cZ) (n : Nat) (hE : μ.N < 1099511627776) :
 Sp f5 [vp m, vi who, eA at', vu n] (bD m μ) (fun _ : Unit => vu (μ.V at')) (fun _ => bD m ((μ.log who 3 at').put at' ((μ.V at' + n) % 18446744073709551616))) := by
 refine bn (Cu _ _ _ _) fun R H h => ?_
 repeat (first | refine be ‹_› fun _ _ _ => ?_ | refine aW ‹_› ?_)
 refine af (by assumption) (vt m μ at') fun _ _ _ => ?_
 repeat refine dQ ‹_› ‹_› rfl ?_
 refine aa (acS) ?_;refine af (by assumption) (JA m μ who at' _ hE) fun _ _ _ => ?_;exact ap ⟨(), rfl, ae.to (by assumption)⟩
theorem XK (m : Nat) (μ : Mu) (who : Int) (at' : cZ) (hE : μ.N < 1099511627776) :
 Sp ml [vp m, vi who, eA at'] (bD m μ) (fun _ : Unit => .tuple #[]) (fun _ => bD m (μ.log who 5 at')) := by
 refine bn (zx _ _ _) fun R H h => ?_
 repeat (first | refine be ‹_› fun _ _ _ => ?_ | refine aW ‹_› ?_)
 refine af (by assumption) (n9 m μ who 5 at' hE) fun _ _ _ => ?_;exact ap ⟨(), rfl, ae.to (by assumption)⟩
theorem rY (m : Nat) (μ : Mu) (who : Int) (at' : cZ) (hE : μ.N < 1099511627776) :
 Sp fZ [vp m, vi who, eA at'] (bD m μ) (fun _ : Unit => .tuple #[]) (fun _ => bD m (μ.log who 6 at')) := by
 refine bn (xn _ _ _) fun R H h => ?_
 repeat (first | refine be ‹_› fun _ _ _ => ?_ | refine aW ‹_› ?_)
 refine af (by assumption) (n9 m μ who 6 at' hE) fun _ _ _ => ?_;exact ap ⟨(), rfl, ae.to (by assumption)⟩
theorem Sp.imp {α : Type} {f : Nat} {args : List Value} {P : SP} {v : α → Value} {Q Q' : α → SP} (s : Sp f args P v Q) (h : ∀ x R H, ae (Q x * R) H → ae (Q' x * R) H) : Sp f args P v Q' := by
 intro R H hh;obtain ⟨x, H', e, hq⟩ := s R H hh;exact ⟨x, H', e, h x R H' hq⟩
theorem jb {m : Nat} {V : cZ → Nat} {E : List Ev} {N N' : Nat} {R : SP} {H : AH} (hN : N ≤ N') (h : ae (bD m ⟨V, E, N⟩ * R) H) : ae (bD m ⟨V, E, N'⟩ * R) H := by
 obtain ⟨g, h⟩ := ae.ex.1 h;rw [aj, ae.pu] at h;refine ae.ex.2 ⟨g, ?_⟩;rw [aj, ae.pu];exact ⟨⟨h.1.1, h.1.2.1, d8 h.1.2.2 hN⟩, h.2⟩
abbrev Mu.acc (μ : Mu) (who kind : Int) (at' : cZ) : Mu := { V := μ.V, E := μ.E ++ [⟨who, kind, at'⟩], N := μ.N + 2 }
abbrev Mu.swp (μ : Mu) (who : Int) (at' : cZ) (was now : Nat) : Mu := { V := (μ.swap who at' was now).V, E := (μ.swap who at' was now).E, N := μ.N + 2 }
theorem CB (m : Nat) (μ : Mu) (who : Int) (at' : cZ) (hE : μ.N < 1099511627776) : Sp dp [vp m, vi who, eA at'] (bD m μ) (fun _ : Unit => vu (μ.V at')) (fun _ => bD m (μ.acc who 1 at')) :=
 (XI m μ who at' hE).imp fun _ R H h => jb (by simp) h
theorem AG (m : Nat) (μ : Mu) (who : Int) (at' : cZ) (v : Nat) (hE : μ.N < 1099511627776) : Sp dC [vp m, vi who, eA at', vu v] (bD m μ) (fun _ : Unit => .tuple #[]) (fun _ => bD m ((μ.acc who 2 at').put at' v)) :=
 (S7 m μ who at' v hE).imp fun _ R H h => jb (by simp) h
theorem My (m : Nat) (μ : Mu) (who : Int) (at' : cZ) (was now : Nat) (hE : μ.N < 1099511627776) :
 Sp fv [vp m, vi who, eA at', vu was, vu now] (bD m μ) (fun _ : Unit => vb (decide (μ.V at' = was))) (fun _ => bD m (μ.swp who at' was now)) :=
 (XL m μ who at' was now hE).imp fun _ R H h => by
  have : (μ.swap who at' was now).N ≤ μ.N + 2 := by unfold Mu.swap; split <;> simp
  exact jb this h
theorem X9 (m : Nat) (μ : Mu) (who : Int) (at' : cZ) (n : Nat) (hE : μ.N < 1099511627776) :
 Sp f5 [vp m, vi who, eA at', vu n] (bD m μ) (fun _ : Unit => vu (μ.V at')) (fun _ => bD m ((μ.acc who 3 at').put at' ((μ.V at' + n) % 18446744073709551616))) :=
 (abH m μ who at' n hE).imp fun _ R H h => jb (by simp) h
def FW (p : cZ × Nat) : List Value := [vi p.1.1, vi p.1.2.1, vi p.1.2.2]
def I3 (p : cZ × Nat) : List Value := [vu p.2]
instance : Enc FW 3 := ⟨fun _ => rfl, fun _ => rfl, by omega⟩
instance : Enc I3 1 := ⟨fun _ => rfl, fun _ => rfl, by omega⟩
def EX (m : Nat) (al : List (cZ × Nat)) (E : List Ev) : SP := ex fun g : Value × Value × Value =>
 blk m (.cells false [g.1, g.2.1, g.2.2]) * (ts 3 FW g.1 al * (ts 1 I3 g.2.1 al * ts 5 Ev.cells g.2.2 E))
def bI (m : Nat) (μ : Mu) : SP := ex fun al : List (cZ × Nat) => pu ((∀ l, fV al l = μ.V l) ∧ al.length + μ.E.length ≤ μ.N) * EX m al μ.E
def il (al : List (cZ × Nat)) (l : cZ) : Nat := al.findIdx fun p => p.1 == l
def km (al : List (cZ × Nat)) (l : cZ) : List (cZ × Nat) := if il al l < al.length then al else al ++ [(l, 0)]
theorem jC (p : cZ × Nat) (al : List (cZ × Nat)) (l : cZ) : il (p :: al) l = if p.1 = l then 0 else il al l + 1 := by
 unfold il;rw [List.findIdx_cons]
 by_cases h : p.1 = l
 ·simp [h]
 ·have : (p.1 == l) = false := by simpa using h
  simp [h, this]
theorem A6 (l : cZ) : ∀ (al : List (cZ × Nat)) (h : il al l < al.length), al[il al l] = (l, fV al l) := by
 intro al
 induction al with
 | nil => intro h; simp at h
 | cons p al ih =>
  intro h;have e := jC p al l
  by_cases hp : p.1 = l
  ·rw [if_pos hp] at e
   simp only [e, List.getElem_cons_zero, eM, hp, if_true];exact Prod.ext hp rfl
  ·rw [if_neg hp] at e
   rw [e, List.length_cons] at h;simp only [e, List.getElem_cons_succ, eM, hp, if_false];exact ih (by omega)
theorem KQ (l x : cZ) : ∀ (al : List (cZ × Nat)), ¬ il al l < al.length → fV (al ++ [(l, 0)]) x = fV al x := by
 intro al
 induction al with
 | nil =>
  intro _;show fV [(l, 0)] x = fV [] x;rw [eM]
  split <;> rfl
 | cons p al ih =>
  intro h;have e := jC p al l
  by_cases hp : p.1 = l
  ·rw [if_pos hp] at e
   simp [e] at h
  ·rw [if_neg hp] at e
   rw [List.cons_append, eM, eM, ih (by rw [e, List.length_cons] at h; omega)]
theorem A7 (l : cZ) (al : List (cZ × Nat)) (h : ¬ il al l < al.length) : il (al ++ [(l, 0)]) l = al.length := by
 induction al with
 | nil => simp [il, List.findIdx_cons]
 | cons p al ih =>
  have e := jC p al l
  by_cases hp : p.1 = l
  ·rw [if_pos hp] at e
   simp [e] at h
  ·rw [if_neg hp] at e
   rw [List.cons_append, jC, if_neg hp, ih (by rw [e, List.length_cons] at h; omega), List.length_cons]
theorem QW (al : List (cZ × Nat)) (l x : cZ) : fV (km al l) x = fV al x := by
 unfold km
 split
 ·rfl
 ·exact KQ l x al (by assumption)
theorem UN (al : List (cZ × Nat)) (l : cZ) : il (km al l) l < (km al l).length := by
 unfold km
 split
 ·assumption
 ·rw [A7 l al (by assumption)]; simp
theorem Eh (l : cZ) (v : Nat) : ∀ (al : List (cZ × Nat)), il al l < al.length → mK al l v = al.set (il al l) (l, v) := by
 intro al
 induction al with
 | nil => intro h; simp at h
 | cons p al ih =>
  intro h;have e := jC p al l
  by_cases hp : p.1 = l
  ·rw [if_pos hp] at e
   simp [mK, hp, e]
  ·rw [if_neg hp] at e
   rw [e, List.length_cons] at h;simp only [mK, hp, if_false, e, List.set_cons_succ];rw [ih (by omega)]
theorem P6 (m : Nat) (al : List (cZ × Nat)) (E : List Ev) (who kind : Int) (at' : cZ) (hE : E.length < 1099511627776) : Sp cg [vp m, vi who, vi kind, eA at'] (EX m al E) (fun _ : Unit => .tuple #[]) (fun _ => EX m al (E ++ [⟨who, kind, at'⟩])) := by
 refine bn (CH _ _ _ _) fun R H h => ?_;obtain ⟨⟨a, v, e⟩, h⟩ := ae.ex.1 h;dsimp only at h
 repeat (first | refine be ‹_› fun _ _ _ => ?_ | refine aW ‹_› ?_ | refine ai ‹_› ac rfl ?_ | refine iW ?_ | refine KI ‹_› fun _ _ _ => ?_)
 refine ig ((⟨who, kind, at'⟩ : Ev)) (by assumption) rfl ?_ (by omega) fun a' c' _ _ => ?_
 ·unfold dc; omega
 repeat (first | refine bA ac ?_ | refine eW ‹_› rfl rfl fun _ _ => ?_)
 exact ap ⟨(), rfl, ae.ex.2 ⟨(a, v, .slice a' (E.length + 1) c'), ae.to (by assumption)⟩⟩
theorem IC (l : cZ) : ∀ (al : List (cZ × Nat)) (k : Nat) (hk : k < al.length), al[k].1 = l → (∀ j, j < k → ∀ p, al[j]? = some p → p.1 ≠ l) → il al l = k := by
 intro al
 induction al with
 | nil => intro k hk; simp at hk
 | cons p al ih =>
  intro k hk h hno;rw [jC]
  cases k with
  | zero => rw [if_pos (by simpa using h)]
  | succ k =>
   rw [if_neg (hno 0 (by omega) p rfl), ih k (by simpa using hk) (by simpa using h) fun j hj q hq => hno (j + 1) (by omega) q (by simpa using hq)]
theorem MD {m b0 : Nat} {al : List (cZ × Nat)} {E : List Ev} {at' : cZ} {R : SP} (hal : al.length < 1099511627776) {a v e : Value} (x4 : Value) {H : AH}
 (h : ae (blk b0 (.cells false [vi at'.1, vi at'.2.1, vi at'.2.2]) * (blk m (.cells false [a, v, e]) * (ts 3 FW a al * (ts 1 I3 v al * ts 5 Ev.cells e E)) * R)) H) :
 ∀ (n k : Nat), k + n = al.length → (∀ j, j < k → ∀ p, al[j]? = some p → p.1 ≠ at') →
  wp (AI (vp m) (vp b0) x4 (vi k) H) fun v' H' => v' = vi (il (km al at') at') ∧ ae (EX m (km al at') E * R) H' := by
 intro n
 induction n with
 | zero =>
  intro k hk hno
  have hidx : ¬ il al at' < al.length := by
   intro hlt;have := A6 at' al hlt;exact hno _ (by omega) _ (cA hlt) (by rw [this])
  refine ah (CP _ _ _ _ H) ?_;refine ai h ac rfl ?_;refine rn (s := a) h ?_;refine aa rD ?_;refine bZ (fun hc => ?_) (fun hc => ?_)
  ·simp at hc; omega
  refine ah (HL _ _ _ H) ?_;refine ah (Tw _ _ _ H) ?_;have e1 : km al at' = al ++ [(at', 0)] := if_neg hidx
  have e2 : il (km al at') at' = al.length := by rw [e1, A7 at' al hidx]
  rw [e1, ← e1, e2, e1]
  repeat (first | refine aW ‹_› ?_ | refine ai ‹_› ac rfl ?_ | refine KI ‹_› fun _ _ _ => ?_)
  refine ig (((at', 0) : cZ × Nat)) (by assumption) rfl ?_ (by omega) fun a1 c1 H1 h1 => ?_
  ·unfold dc; omega
  repeat (first | refine ai ‹_› ac rfl ?_ | refine KI ‹_› fun _ _ _ => ?_ | refine aH ‹_› ‹_› rfl ?_)
  refine ig (((at', 0) : cZ × Nat)) (by assumption) rfl ?_ (by omega) fun a2 c2 H2 h2 => ?_
  ·unfold dc; omega
  repeat (first | refine ai ‹_› ac rfl ?_ | refine bA ac ?_ | refine eW ‹_› rfl rfl fun _ _ => ?_ | refine QF ?_)
  refine aa (nN (by omega) (by omega)) ?_;refine ap ⟨by congr 1; omega, ?_⟩;exact ae.ex.2 ⟨(.slice a1 (al.length + 1) c1, .slice a2 (al.length + 1) c2, e), ae.to (by assumption)⟩
 | succ n ih =>
  intro k hk hno
  have hkl : k < al.length := by omega
  refine ah (CP _ _ _ _ H) ?_;refine ai h ac rfl ?_;refine rn (s := a) h ?_;refine aa rD ?_;refine bZ (fun hc => ?_) (fun hc => ?_)
  ·refine ah (MK _ _ _ _ H) ?_
   refine ai h ac rfl ?_;refine afK (s := a) h hkl ?_;refine aW h ?_;refine aa (Vm al[k].1 at') ?_;refine bZ (fun hc => ?_) (fun hc => ?_)
   ·have hc : al[k].1 = at' := by simpa using hc
    have hidx := IC at' al k hkl hc hno
    have e1 : km al at' = al := by unfold km; rw [if_pos (by omega)]
    refine ap ⟨by rw [e1, hidx], ?_⟩;rw [e1];exact ae.ex.2 ⟨(a, v, e), ae.to h⟩
   ·have hc : al[k].1 ≠ at' := by simpa using hc
    refine ah (ML _ _ _ _ H) ?_;refine aa (aR (by omega) (by omega)) ?_;refine ih (k + 1) (by omega) fun j hj p hp => ?_
    by_cases hjk : j = k
    ·subst hjk
     rw [cA hkl] at hp;cases hp;exact hc
    ·exact hno j (by omega) p hp
  ·simp at hc; omega
theorem Tt (m : Nat) (al : List (cZ × Nat)) (E : List Ev) (at' : cZ) (hal : al.length < 1099511627776) : Sp yE [vp m, eA at'] (EX m al E) (fun _ : Unit => vi (il (km al at') at')) (fun _ => EX m (km al at') E) := by
 refine bn (ae1 _ _) fun R H h => ?_;obtain ⟨⟨a, v, e⟩, h⟩ := ae.ex.1 h;dsimp only at h;refine be h fun b0 H1 h1 => ?_;refine ah (Tv _ _ _ H1) ?_;refine ah (MJ _ _ _ _ H1) ?_;refine (MD hal (vi 0) h1 al.length 0 (by omega) (fun j hj => by omega)).mono fun v' H' h' => ⟨(), h'.1, h'.2⟩
theorem ab6 (a : Value) (al : List (cZ × Nat)) (i : Nat) (hi : i < al.length) (v : Nat) : ts 3 FW a (al.set i (al[i].1, v)) = ts 3 FW a al := by
 unfold ts;rw [Mb, Ca al i hi, me al i hi]
 rfl
theorem Ct {m : Nat} {μ : Mu} {al : List (cZ × Nat)} {a v e : Value} {P R : SP} {H : AH} (hp : (∀ l, fV al l = μ.V l) ∧ al.length + μ.E.length ≤ μ.N) (h : ae P H)
 {Z : SP} [f : Fr P ((blk m (.cells false [a, v, e]) * (ts 3 FW a al * (ts 1 I3 v al * ts 5 Ev.cells e μ.E))) * R) Z] : ae (bI m μ * R) H := by
 refine ae.ex.2 ⟨al, ?_⟩;rw [aj, ae.pu];exact ⟨hp, ae.ex.2 ⟨(a, v, e), h.to⟩⟩
theorem QX (al : List (cZ × Nat)) (l : cZ) : (km al l).length ≤ al.length + 1 := by unfold km; split <;> simp
def yD (m : Nat) (μ : Mu) (at' : cZ) (i : Nat) : SP := ex fun g : List (cZ × Nat) × Value × Value × Value =>
 pu ((∀ l, fV g.1 l = μ.V l) ∧ g.1.length + μ.E.length ≤ μ.N ∧ il g.1 at' = i ∧ i < g.1.length) * (blk m (.cells false [g.2.1, g.2.2.1, g.2.2.2]) * (ts 3 FW g.2.1 g.1 * (ts 1 I3 g.2.2.1 g.1 * ts 5 Ev.cells g.2.2.2 μ.E)))
theorem DC (m : Nat) (μ : Mu) (at' : cZ) (hE : μ.N < 1099511627776) : Sp yE [vp m, eA at'] (bI m μ) (fun i : Nat => vi (i : Int)) (fun i => yD m { μ with N := μ.N + 1 } at' i) := by
 intro R H h;obtain ⟨al, h⟩ := ae.ex.1 h;rw [aj, ae.pu] at h;obtain ⟨hp, h⟩ := h;obtain ⟨_, H', e, h'⟩ := Tt m al μ.E at' (by omega) R H h;refine ⟨il (km al at') at', H', e, ?_⟩;obtain ⟨⟨a, v, ev⟩, h'⟩ := ae.ex.1 h';refine ae.ex.2 ⟨(km al at', a, v, ev), ?_⟩;rw [aj, ae.pu];have := QX al at';exact ⟨⟨fun l => by rw [QW, hp.1], by dsimp only; omega, rfl, UN al at'⟩, h'⟩
theorem Uv (m : Nat) (μ : Mu) (who kind : Int) (at' : cZ) (hE : μ.N < 1099511627776) : Sp cg [vp m, vi who, vi kind, eA at'] (bI m μ) (fun _ : Unit => .tuple #[]) (fun _ => bI m (μ.log who kind at')) := by
 intro R H h;obtain ⟨al, h⟩ := ae.ex.1 h;rw [aj, ae.pu] at h;obtain ⟨hp, h⟩ := h;obtain ⟨_, H', e, h'⟩ := P6 m al μ.E who kind at' (by omega) R H h;refine ⟨(), H', e, ?_⟩;refine ae.ex.2 ⟨al, ?_⟩;rw [aj, ae.pu];exact ⟨⟨hp.1, by simp; omega⟩, h'⟩
theorem aeS (m : Nat) (μ : Mu) (at2 : cZ) (i : Nat) (who kind : Int) (at' : cZ) (hE : μ.N < 1099511627776) : Sp cg [vp m, vi who, vi kind, eA at'] (yD m μ at2 i) (fun _ : Unit => .tuple #[]) (fun _ => yD m (μ.log who kind at') at2 i) := by
 intro R H h;obtain ⟨⟨al, a, v, e⟩, h⟩ := ae.ex.1 h;rw [aj, ae.pu] at h;obtain ⟨hp, h⟩ := h;dsimp only at hp h;obtain ⟨_, H', e', h'⟩ := P6 m al μ.E who kind at' (by omega) R H (ae.ex.2 ⟨(a, v, e), h⟩);refine ⟨(), H', e', ?_⟩;obtain ⟨⟨a2, v2, e2⟩, h'⟩ := ae.ex.1 h';refine ae.ex.2 ⟨(al, a2, v2, e2), ?_⟩;rw [aj, ae.pu];exact ⟨⟨hp.1, by simp; omega, hp.2.2⟩, h'⟩
class Xi (P : SP) (m i : Nat) (μ : outParam Mu) (at' : outParam cZ) (R : outParam SP) : Prop where
 eq : P = yD m μ at' i * R
instance (priority := high) Xi.refl (m i : Nat) (μ : Mu) (at' : cZ) : Xi (yD m μ at' i) m i μ at' emp := ⟨(fT _).symm⟩
instance Xi.left (P Q R : SP) (m i : Nat) (μ : Mu) (at' : cZ) [h : Xi P m i μ at' R] : Xi (P * Q) m i μ at' (R * Q) := ⟨by rw [h.eq, aj]⟩
instance Xi.right (P Q R : SP) (m i : Nat) (μ : Mu) (at' : cZ) [h : Xi Q m i μ at' R] : Xi (P * Q) m i μ at' (P * R) := ⟨by rw [h.eq, ch]⟩
section
variable {m i : Nat} {μ : Mu} {at' : cZ} {P R : SP} {H : AH} {Q : Value → AH → Prop}
theorem QK {k : Value → OV} (h : ae P H) [f : Xi P m i μ at' R] (hk : wp (k (vu (μ.V at'))) Q) : wp (ld [.n, .f 1] (vp m) H fun v => ld [.i 1 (vi i)] v H k) Q := by
 have h' : ae (yD m μ at' i * R) H := by rw [← f.eq]; exact h
 obtain ⟨⟨al, a, v, e⟩, h'⟩ := ae.ex.1 h';rw [aj, ae.pu] at h';obtain ⟨hp, h'⟩ := h';dsimp only at hp h';refine ai h' ac rfl ?_;obtain ⟨p1, _, p4, p5⟩ := hp;refine afJ (s := v) h' p5 (v := vu (μ.V at')) ?_ hk;subst p4;rw [A6 at' al p5];simp [I3, p1]
theorem Zn {k : AH → OV} {v : Nat} (h : ae P H) [f : Xi P m i μ at' R] (hk : ∀ H', ae (bI m (μ.put at' v) * R) H' → wp (k H') Q) : wp (ld [.n, .f 1] (vp m) H fun s => st 1 [.i 1 (vi i)] s (vu v) H k) Q := by
 have h0 : ae (yD m μ at' i * R) H := by rw [← f.eq]; exact h
 obtain ⟨⟨al, a, s, e⟩, h1⟩ := ae.ex.1 h0;rw [aj, ae.pu] at h1;obtain ⟨hp, h'⟩ := h1
 clear h0
 dsimp only at hp h';refine ai h' ac rfl ?_;obtain ⟨p1, p2, p4, p5⟩ := hp;subst p4;refine Ku (s := s) (g := 0) ((at', v) : cZ × Nat) h' p5 (.inl ⟨rfl, rfl⟩) rfl (by omega) rfl rfl fun H' h2 => hk H' ?_;have hat := A6 at' al p5;have hk2 := ab6 a al (il al at') p5 v;rw [hat] at hk2;rw [← Eh at' v al p5] at h2 hk2;rw [← hk2] at h2;refine Ct (al := mK al at' v) (a := a) (v := s) (e := e) ⟨fun l => ?_, ?_⟩ h2
 ·rw [Eg, p1]
 ·rw [Eh at' v al p5, Mb]; exact p2
theorem acD {x y : Value} {op : BinOp} {cl : TCls} {k : AH → OV} {v : Nat} (h : ae P H) [f : Xi P m i μ at' R] (hb : ak cl op x y = some (vu v)) (hk : ∀ H', ae (bI m (μ.put at' v) * R) H' → wp (k H') Q) :
 wp (ld [.n, .f 1] (vp m) H fun s => (ak cl op x y).bind fun z => st 1 [.i 1 (vi i)] s z H k) Q := by
 rw [hb];exact Zn h hk
theorem afM (h : ae P H) [f : Xi P m i μ at' R] : ae (bI m μ * R) H := by
 have h' : ae (yD m μ at' i * R) H := by rw [← f.eq]; exact h
 obtain ⟨⟨al, a, s, e⟩, h'⟩ := ae.ex.1 h';rw [aj, ae.pu] at h';obtain ⟨hp, h'⟩ := h';exact Ct (al := al) (a := a) (v := s) (e := e) ⟨hp.1, hp.2.1⟩ h'
end
theorem qW (m : Nat) (μ : Mu) (who : Int) (at' : cZ) (hE : μ.N < 1099511627000) : Sp dX [vp m, vi who, eA at'] (bI m μ) (fun _ : Unit => vu (μ.V at')) (fun _ => bI m (μ.acc who 1 at')) := by
 refine bn (zN _ _ _) fun R H h => ?_
 repeat (first | refine be ‹_› fun _ _ _ => ?_ | refine aW ‹_› ?_)
 refine af (by assumption) (Uv m μ who 1 at' (by omega)) fun _ _ _ => ?_
 repeat refine aW ‹_› ?_
 refine af (by assumption) (DC m (μ.log who 1 at') at' (by simp; omega)) fun i H3 h3 => ?_;refine QK h3 ?_;exact ap ⟨(), rfl, ae.to (afM (m := m) (i := i) h3)⟩
theorem sa (m : Nat) (μ : Mu) (who : Int) (at' : cZ) (v : Nat) (hE : μ.N < 1099511627000) : Sp ef [vp m, vi who, eA at', vu v] (bI m μ) (fun _ : Unit => .tuple #[]) (fun _ => bI m ((μ.acc who 2 at').put at' v)) := by
 refine bn (xC _ _ _ _) fun R H h => ?_
 repeat (first | refine be ‹_› fun _ _ _ => ?_ | refine aW ‹_› ?_)
 refine af (by assumption) (Uv m μ who 2 at' (by omega)) fun _ _ _ => ?_
 repeat refine aW ‹_› ?_
 refine af (by assumption) (DC m (μ.log who 2 at') at' (by simp; omega)) fun i H3 h3 => ?_;refine Zn (at' := at') h3 fun H4 h4 => ?_;exact ap ⟨(), rfl, h4.to⟩
theorem Yf (m : Nat) (μ : Mu) (at' : cZ) (hE : μ.N < 1099511627000) : Sp mo [vp m, eA at'] (bI m μ) (fun _ : Unit => vu (μ.V at')) (fun _ => bI m { μ with N := μ.N + 1 }) := by
 refine bn (zO _ _) fun R H h => ?_
 repeat (first | refine be ‹_› fun _ _ _ => ?_ | refine aW ‹_› ?_)
 refine af (by assumption) (DC m μ at' (by omega)) fun i H3 h3 => ?_;refine QK h3 ?_;exact ap ⟨(), rfl, ae.to (afM (m := m) (i := i) h3)⟩
theorem CO (m : Nat) (μ : Mu) (who : Int) (at' : cZ) (was now : Nat) (hE : μ.N < 1099511627000) :
 Sp gv [vp m, vi who, eA at', vu was, vu now] (bI m μ) (fun _ : Unit => vb (decide (μ.V at' = was))) (fun _ => bI m (μ.swp who at' was now)) := by
 refine bn (zP _ _ _ _ _) fun R H h => ?_
 repeat (first | refine be ‹_› fun _ _ _ => ?_ | refine aW ‹_› ?_)
 refine af (by assumption) (DC m μ at' (by omega)) fun i H3 h3 => ?_;refine QK h3 ?_;refine aa (adL) ?_;unfold Mu.swp Mu.swap;refine bZ (fun hc => ?_) (fun hc => ?_)
 ·have hc : ¬ μ.V at' = was := by simpa using hc
  rw [if_neg hc, ez hc]
  repeat refine aW ‹_› ?_
  refine af (by assumption) (aeS m { μ with N := μ.N + 1 } at' i who 4 at' (by simp; omega)) fun _ H4 h4 => ?_;exact ap ⟨(), rfl, ae.to (afM (m := m) (i := i) h4)⟩
 ·have hc : μ.V at' = was := by simpa using hc
  rw [if_pos hc, fj hc]
  repeat refine aW ‹_› ?_
  refine af (by assumption) (aeS m { μ with N := μ.N + 1 } at' i who 3 at' (by simp; omega)) fun _ H4 h4 => ?_;refine Zn (at' := at') h4 fun H5 h5 => ?_;exact ap ⟨(), rfl, h5.to⟩
theorem HH (m : Nat) (μ : Mu) (who : Int) (at' : cZ) (n : Nat) (hE : μ.N < 1099511627000) :
 Sp iq [vp m, vi who, eA at', vu n] (bI m μ) (fun _ : Unit => vu (μ.V at')) (fun _ => bI m ((μ.acc who 3 at').put at' ((μ.V at' + n) % 18446744073709551616))) := by
 refine bn (CG _ _ _ _) fun R H h => ?_
 repeat (first | refine be ‹_› fun _ _ _ => ?_ | refine aW ‹_› ?_)
 refine af (by assumption) (DC m μ at' (by omega)) fun i H3 h3 => ?_
 repeat refine aW ‹_› ?_
 refine af (by assumption) (aeS m { μ with N := μ.N + 1 } at' i who 3 at' (by simp; omega)) fun _ H4 h4 => ?_;refine QK h4 ?_;refine acD (at' := at') h4 acS fun H5 h5 => ?_;exact ap ⟨(), rfl, h5.to⟩
def dM (w : Nat) : Bool := decide (w / 2305843009213693952 < 3)
def bk (w : Nat) : Nat := if dM w then w % 2305843009213693952 else 0
def bv (w : Nat) : Int := if dM w then (w / 2305843009213693952 : Nat) else -1
def aP (w : Nat) : Nat → Option Nat
 | 0 => if dM w ∧ bv w ≠ 2 ∧ bk w < 2305843009213693951 then some (bk w + 1 + 2305843009213693952) else none
 | 1 => if bv w = 1 then some (bk w) else none
 | 2 => if bv w = 0 then some (bk w + 4611686018427387904) else none
 | _ => none
def Cz : Option Nat → Value
 | some n => .tuple #[vu n, vb true]
 | none => .tuple #[vw 0, vb false]
theorem uf (w : Nat) : Sp jk [vu w] emp (fun _ : Unit => vb (dM w)) (fun _ => emp) := by
 refine bn (Ec _) fun R H h => ?_;refine aa (adQ) ?_;refine aa (rD) ?_;refine ap ⟨(), ?_, h⟩
 congr 1
 unfold dM
 congr 1
 apply propext;omega
theorem gC (w : Nat) (hw : w < 18446744073709551616) : Sp dl [vu w] emp (fun _ : Unit => vu (bk w)) (fun _ => emp) := by
 refine bn (Eb _) fun R H h => ?_;refine af (by assumption) (uf w) fun _ _ _ => ?_;refine aa (Dw) ?_;refine bZ (fun hc => ?_) (fun hc => ?_)
 ·have hc : dM w = false := by simpa using hc
  refine ap ⟨(), by simp [bk, hc], ae.to (by assumption)⟩
 ·have hc : dM w = true := by simpa using hc
  refine aa (af8 hw) ?_;refine ap ⟨(), by simp [bk, hc], ae.to (by assumption)⟩
theorem iN (w : Nat) (hw : w < 18446744073709551616) : Sp dK [vu w] emp (fun _ : Unit => vi (bv w)) (fun _ => emp) := by
 refine bn (Ed _) fun R H h => ?_;refine af (by assumption) (uf w) fun _ _ _ => ?_;refine aa (Dw) ?_;refine bZ (fun hc => ?_) (fun hc => ?_)
 ·have hc : dM w = false := by simpa using hc
  refine ap ⟨(), by simp [bv, hc], ae.to (by assumption)⟩
 ·have hc : dM w = true := by simpa using hc
  refine aa (adQ) ?_;refine aa (i3 (by omega)) ?_;refine ap ⟨(), by simp [bv, hc], ae.to (by assumption)⟩
theorem ol (w : Nat) (hw : w < 18446744073709551616) : Sp gu [vu w] emp (fun _ : Unit => .tuple #[vu (bk w), vi (bv w), vb (dM w)]) (fun _ => emp) := by
 refine bn (Hz _) fun R H h => ?_;refine aa (agP) ?_;refine aa (agN hw) ?_;refine aa (i3 (by omega)) ?_;refine aa (FK) ?_;refine bZ (fun hc => ?_) (fun hc => ?_)
 ·have hc : dM w = false := by simp at hc; simp [dM]; omega
  refine ap ⟨(), by simp [bk, bv, hc], h.to⟩
 ·have hc : dM w = true := by simp at hc; simp [dM]; omega
  refine ap ⟨(), by simp [bk, bv, hc], h.to⟩
theorem yg (n : Nat) (s : Nat) (hn : n ≤ 2305843009213693951) (hs : s < 3) : Sp kA [vu n, vi (s : Int)] emp (fun _ : Unit => .tuple #[vu (s * 2305843009213693952 + n), vb true]) (fun _ => emp) := by
 refine bn (In _ _) fun R H h => ?_;refine aa (g6 (by omega)) ?_;refine gt ?_;refine aa (DQ (bW ?_)) ?_
 ·omega
 refine gt ?_;refine aa (DQ (mf ?_)) ?_
 ·omega
 refine gt ?_;refine bZ (fun hc => by cases hc) (fun _ => ?_);refine aa (d5 (by omega) (by omega)) ?_
 have e1 : ak .other .shl (vu (s : Int).toNat) (vw 61) = some (vu (s * 2305843009213693952)) := by
  have := Ej (cl := .other) (a := s) (k := .u64) (n := 61) (by omega);simp only [Nat.reducePow] at this;rw [Nat.mod_eq_of_lt (by omega)] at this
  simpa using this
 refine aa (e1) ?_
 have e2 : ak .other .or (vu (s * 2305843009213693952)) (vu n) = some (vu (s * 2305843009213693952 + n)) := by
  rw [UX (by omega) (by omega)]
  congr 3
  have := Nat.two_pow_add_eq_or_of_lt (i := 61) (b := n) (by simp only [Nat.reducePow]; omega) s;simp only [Nat.reducePow] at this;rw [Nat.mul_comm, ← this]
 refine aa (e2) ?_;exact ap ⟨(), rfl, h.to⟩
theorem CF (n : Nat) (s : Nat) (hn : n ≤ 2305843009213693951) (hs : s < 3) : Sp mm [vu n, vi (s : Int)] emp (fun _ : Unit => .tuple #[vu (s * 2305843009213693952 + n), vb true]) (fun _ => emp) := by
 refine bn (JQ _ _) fun R H h => ?_;refine aa (g6 (by omega)) ?_;refine gt ?_;refine aa (DQ (bW ?_)) ?_
 ·omega
 refine gt ?_;refine aa (DQ (g6 ?_)) ?_
 ·omega
 refine gt ?_;refine bZ (fun hc => by cases hc) (fun _ => ?_);refine aa (d5 (by omega) (by omega)) ?_
 have hs2 : (s : Int).toNat = s := by omega
 rw [hs2];refine aa (agK (by omega)) ?_;refine aa (f3 (by omega)) ?_;exact ap ⟨(), rfl, h.to⟩
theorem dS (w : Nat) : bk w ≤ 2305843009213693951 := by unfold bk; split <;> omega
theorem adT {w : Nat} (h : dM w = true ∧ bv w ≠ 2 ∧ bk w < 2305843009213693951) : aP w 0 = some (bk w + 1 + 2305843009213693952) := if_pos h
theorem Kn {w : Nat} (h : ¬ (dM w = true ∧ bv w ≠ 2 ∧ bk w < 2305843009213693951)) : aP w 0 = none := if_neg h
theorem adV {w : Nat} (h : bv w = 1) : aP w 1 = some (bk w) := if_pos h
theorem adU {w : Nat} (h : ¬ bv w = 1) : aP w 1 = none := if_neg h
theorem adX {w : Nat} (h : bv w = 0) : aP w 2 = some (bk w + 4611686018427387904) := if_pos h
theorem adW {w : Nat} (h : ¬ bv w = 0) : aP w 2 = none := if_neg h
theorem Uo (w : Nat) (hw : w < 18446744073709551616) : Sp mX [vu w] emp (fun _ : Unit => Cz (aP w 0)) (fun _ => emp) := by
 refine bn (Im _) fun R H h => ?_;have hcl := dS w;refine af (by assumption) (uf w) fun _ _ _ => ?_;refine aa (Dw) ?_
 by_cases hr : dM w = true
 ·rw [hr, Bool.not_true]
  refine gt ?_;refine af (by assumption) (iN w hw) fun _ _ _ => ?_;refine aa (DQ (e9)) ?_
  by_cases hs : bv w = 2
  ·rw [beq_iff_eq.2 hs]
   refine gt ?_;refine bZ (fun _ => ?_) (fun hc => by cases hc);exact ap ⟨(), by rw [Kn (fun h => h.2.1 hs)]; rfl, ae.to (by assumption)⟩
  ·rw [beq_eq_false_iff_ne.2 hs]
   refine gt ?_;refine af (by assumption) (gC w hw) fun _ _ _ => ?_;refine aa (DQ (e9)) ?_;refine gt ?_;refine bZ (fun hc => ?_) (fun hc => ?_)
   ·have hc : (bk w : Int) = 2305843009213693951 := by simpa using hc
    exact ap ⟨(), by rw [Kn (fun h => by have := h.2.2; omega)]; rfl, ae.to (by assumption)⟩
   ·have hc : ¬ (bk w : Int) = 2305843009213693951 := by simpa using hc
    have ht := adT (w := w) ⟨hr, hs, by omega⟩;refine af (by assumption) (gC w hw) fun _ _ _ => ?_;refine aa (f3 (b := 1) (by omega)) ?_;refine af (by assumption) (yg (bk w + 1) 1 (by omega) (by omega)) fun _ _ _ => ?_;refine aa rfl ?_;refine aa rfl ?_;refine ap ⟨(), ?_, ae.to (by assumption)⟩;rw [ht];simp [Cz];omega
 ·have hr : dM w = false := by simpa using hr
  rw [hr, Bool.not_false];refine gt ?_;refine bZ (fun _ => ?_) (fun hc => by cases hc);exact ap ⟨(), by rw [Kn (fun h => by rw [hr] at h; cases h.1)]; rfl, ae.to (by assumption)⟩
theorem Uq (w : Nat) (hw : w < 18446744073709551616) : Sp mY [vu w] emp (fun _ : Unit => Cz (aP w 1)) (fun _ => emp) := by
 refine bn (Io _) fun R H h => ?_;have hcl := dS w;refine af (by assumption) (iN w hw) fun _ _ _ => ?_;refine aa (rF) ?_;refine bZ (fun hc => ?_) (fun hc => ?_)
 ·have hc : ¬ bv w = 1 := by simpa using hc
  exact ap ⟨(), by rw [adU hc]; rfl, ae.to (by assumption)⟩
 ·have hc : bv w = 1 := by simpa using hc
  refine af (by assumption) (gC w hw) fun _ _ _ => ?_;refine af (by assumption) (yg (bk w) 0 (by omega) (by omega)) fun _ _ _ => ?_;refine aa rfl ?_;refine aa rfl ?_;exact ap ⟨(), by rw [adV hc]; simp [Cz], ae.to (by assumption)⟩
theorem Ur (w : Nat) (hw : w < 18446744073709551616) : Sp mZ [vu w] emp (fun _ : Unit => Cz (aP w 2)) (fun _ => emp) := by
 refine bn (Ip _) fun R H h => ?_;have hcl := dS w;refine af (by assumption) (iN w hw) fun _ _ _ => ?_;refine aa (rF) ?_;refine bZ (fun hc => ?_) (fun hc => ?_)
 ·have hc : ¬ bv w = 0 := by simpa using hc
  exact ap ⟨(), by rw [adW hc]; rfl, ae.to (by assumption)⟩
 ·have hc : bv w = 0 := by simpa using hc
  refine af (by assumption) (gC w hw) fun _ _ _ => ?_;refine af (by assumption) (yg (bk w) 2 (by omega) (by omega)) fun _ _ _ => ?_;refine aa rfl ?_;refine aa rfl ?_;refine ap ⟨(), ?_, ae.to (by assumption)⟩;rw [adX hc];simp [Cz];omega
theorem MG (w how : Nat) (hw : w < 18446744073709551616) (hh : how < 3) : Sp oU [vu w, vi (how : Int)] emp (fun _ : Unit => Cz (aP w how)) (fun _ => emp) := by
 refine bn (DY _ _) fun R H h => ?_;have hcl := dS w;refine af (by assumption) (ol w hw) fun _ H1 h1 => ?_;refine aa rfl ?_;refine aa rfl ?_;refine aa rfl ?_;refine ah (xy _ _ _ _ _ _ H1) ?_;refine aa (Dw) ?_;refine bZ (fun hc => ?_) (fun hc => ?_)
 ·have hc : dM w = false := by simpa using hc
  have : aP w how = none := by
   match how, hh with
   | 0, _ => simp [aP, hc]
   | 1, _ => simp [aP, bv, hc]
   | 2, _ => simp [aP, bv, hc]
  exact ap ⟨(), by rw [this]; rfl, ae.to (by assumption)⟩
 ·have hr : dM w = true := by simpa using hc
  match how, hh with
  | 0, _ =>
   refine aa (ba rfl) ?_;refine gt ?_;refine aa (DQ (rF)) ?_;refine gt ?_
   by_cases hs : bv w = 2
   ·rw [bne_eq_false_iff_eq.2 hs]
    refine gt ?_;refine bZ (fun hc => by cases hc) (fun _ => ?_);refine aa (aC ?_) ?_
    ·omega
    refine gt ?_;refine bZ (fun hc => by cases hc) (fun _ => ?_);refine aa (aC ?_) ?_
    ·omega
    refine gt ?_;refine bZ (fun hc => by cases hc) (fun _ => ?_);refine ah (gT _ _ H1) ?_;exact ap ⟨(), by rw [Kn (fun h => h.2.1 hs)]; rfl, ae.to (by assumption)⟩
   ·rw [bne_iff_ne.2 hs]
    refine gt ?_;refine aa (DQ (rD)) ?_;refine gt ?_;refine bZ (fun hc => ?_) (fun hc => ?_)
    ·have hc : (bk w : Int) < 2305843009213693951 := by simpa using hc
     have ht := adT (w := w) ⟨hr, hs, by omega⟩;refine aa (f3 (b := 1) (by omega)) ?_;refine af (by assumption) (CF (bk w + 1) 1 (by omega) (by omega)) fun _ _ _ => ?_;refine aa rfl ?_;refine aa rfl ?_;refine ap ⟨(), ?_, ae.to (by assumption)⟩;rw [ht];simp [Cz];omega
    ·have hc : ¬ (bk w : Int) < 2305843009213693951 := by simpa using hc
     refine aa (aC ?_) ?_
     ·omega
     refine gt ?_;refine bZ (fun hc => by cases hc) (fun _ => ?_);refine aa (aC ?_) ?_
     ·omega
     refine gt ?_;refine bZ (fun hc => by cases hc) (fun _ => ?_);refine ah (gT _ _ H1) ?_;exact ap ⟨(), by rw [Kn (fun h => by have := h.2.2; omega)]; rfl, ae.to (by assumption)⟩
  | 1, _ =>
   refine aa (aC ?_) ?_
   ·omega
   refine gt ?_;refine bZ (fun hc => by cases hc) (fun _ => ?_);refine aa (ba rfl) ?_;refine gt ?_;refine aa (DQ (e9)) ?_;refine gt ?_;refine bZ (fun hc => ?_) (fun hc => ?_)
   ·have hc : bv w = 1 := by simpa using hc
    refine af (by assumption) (CF (bk w) 0 (by omega) (by omega)) fun _ _ _ => ?_;refine aa rfl ?_;refine aa rfl ?_;exact ap ⟨(), by rw [adV hc]; simp [Cz], ae.to (by assumption)⟩
   ·have hc : ¬ bv w = 1 := by simpa using hc
    refine aa (aC ?_) ?_
    ·omega
    refine gt ?_;refine bZ (fun hc => by cases hc) (fun _ => ?_);refine ah (gT _ _ H1) ?_;exact ap ⟨(), by rw [adU hc]; rfl, ae.to (by assumption)⟩
  | 2, _ =>
   refine aa (aC ?_) ?_
   ·omega
   refine gt ?_;refine bZ (fun hc => by cases hc) (fun _ => ?_);refine aa (aC ?_) ?_
   ·omega
   refine gt ?_;refine bZ (fun hc => by cases hc) (fun _ => ?_);refine aa (ba rfl) ?_;refine gt ?_;refine aa (DQ (e9)) ?_;refine gt ?_;refine bZ (fun hc => ?_) (fun hc => ?_)
   ·have hc : bv w = 0 := by simpa using hc
    refine af (by assumption) (CF (bk w) 2 (by omega) (by omega)) fun _ _ _ => ?_;refine aa rfl ?_;refine aa rfl ?_;refine ap ⟨(), ?_, ae.to (by assumption)⟩;rw [adX hc];simp [Cz];omega
   ·have hc : ¬ bv w = 0 := by simpa using hc
    refine ah (gT _ _ H1) ?_;exact ap ⟨(), by rw [adW hc]; rfl, ae.to (by assumption)⟩
theorem yP (s : Int) : Sp j8 [vi s] emp (fun _ : Unit => eA (8, s, 0)) (fun _ => emp) := by
 refine bn (Dl _) fun R H h => ?_
 repeat (first | refine bp ‹_› fun _ _ _ => ?_ | refine aW ‹_› ?_ | refine eW ‹_› rfl rfl fun _ _ => ?_ | refine iW ?_)
 exact ap ⟨(), rfl, ae.to (by assumption)⟩
theorem ud (s i : Int) : Sp jj [vi s, vi i] emp (fun _ : Unit => eA (10, s, i)) (fun _ => emp) := by
 refine bn (D9 _ _) fun R H h => ?_
 repeat (first | refine bp ‹_› fun _ _ _ => ?_ | refine aW ‹_› ?_ | refine eW ‹_› rfl rfl fun _ _ => ?_ | refine iW ?_)
 exact ap ⟨(), rfl, ae.to (by assumption)⟩
theorem dz (k a b : Int) : Sp bY [vi k, vi a, vi b] emp (fun _ : Unit => eA (k, a, b)) (fun _ => emp) := by
 refine bn (MH _ _ _) fun R H h => ?_
 repeat (first | refine bp ‹_› fun _ _ _ => ?_ | refine aW ‹_› ?_ | refine eW ‹_› rfl rfl fun _ _ => ?_ | refine iW ?_)
 exact ap ⟨(), rfl, ae.to (by assumption)⟩
def tab (t m : Nat) (sh sl : Nat) : SP := blk t (.cells false [vp m, vi sh, vi sl])
section
variable (t m : Nat) (sh sl : Nat) (μ : Mu) (who s i : Int)
theorem yS : Sp dF [vp t] (tab t m sh sl) (fun _ : Unit => vi sl) (fun _ => tab t m sh sl) := by
 refine bn (rg _) fun R H h => ?_;unfold tab at h ⊢
 repeat refine ai ‹_› ac rfl ?_
 exact ap ⟨(), rfl, ae.to (by assumption)⟩
theorem uc (hE : μ.N < 1099511627000) : Sp d4 [vp t, vi who, vi s] (tab t m sh sl * bD m μ) (fun _ : Unit => vb (decide (μ.V (8, s, 0) = 0))) (fun _ => tab t m sh sl * bD m (μ.swp who (8, s, 0) 0 1)) := by
 refine bn (sC _ _ _) fun R H h => ?_;unfold tab at h ⊢
 repeat refine ai ‹_› ac rfl ?_
 refine af (by assumption) (yP s) fun _ _ _ => ?_
 repeat refine aH ‹_› ‹_› rfl ?_
 refine af (by assumption) (My m μ who (8, s, 0) 0 1 (by omega)) fun _ _ _ => ?_;exact ap ⟨(), rfl, ae.to (by assumption)⟩
theorem wA (hE : μ.N < 1099511627000) : Sp eI [vp t, vi who, vi s] (tab t m sh sl * bD m μ) (fun _ : Unit => .tuple #[]) (fun _ => tab t m sh sl * bD m ((μ.acc who 2 (8, s, 0)).put (8, s, 0) 0)) := by
 refine bn (pT _ _ _) fun R H h => ?_;unfold tab at h ⊢
 repeat refine ai ‹_› ac rfl ?_
 refine af (by assumption) (yP s) fun _ _ _ => ?_
 repeat refine aH ‹_› ‹_› rfl ?_
 refine af (by assumption) (AG m μ who (8, s, 0) 0 (by omega)) fun _ _ _ => ?_;exact ap ⟨(), rfl, ae.to (by assumption)⟩
theorem Kg (hE : μ.N < 1099511627000) : Sp ic [vp t, vi who, vi s, vi i] (tab t m sh sl * bD m μ) (fun _ : Unit => .tuple #[]) (fun _ => tab t m sh sl * bD m ((μ.acc who 2 (10, s, i)).put (10, s, i) 0)) := by
 refine bn (ra _ _ _ _) fun R H h => ?_;unfold tab at h ⊢
 repeat refine ai ‹_› ac rfl ?_
 refine af (by assumption) (ud s i) fun _ _ _ => ?_
 repeat refine aH ‹_› ‹_› rfl ?_
 refine af (by assumption) (AG m μ who (10, s, i) 0 (by omega)) fun _ _ _ => ?_;exact ap ⟨(), rfl, ae.to (by assumption)⟩
theorem JR (hE : μ.N < 1099511627000) : Sp gO [vp t, vi who, vi s] (tab t m sh sl * bI m μ) (fun _ : Unit => vb (decide (μ.V (8, s, 0) = 0))) (fun _ => tab t m sh sl * bI m (μ.swp who (8, s, 0) 0 1)) := by
 refine bn (vV _ _ _) fun R H h => ?_;unfold tab at h ⊢
 repeat refine ai ‹_› ac rfl ?_
 refine af (by assumption) (dz 8 s 0) fun _ _ _ => ?_
 repeat refine aH ‹_› ‹_› rfl ?_
 refine af (by assumption) (CO m μ who (8, s, 0) 0 1 (by omega)) fun _ _ _ => ?_;exact ap ⟨(), rfl, ae.to (by assumption)⟩
theorem tU (hE : μ.N < 1099511627000) : Sp dY [vp t, vi who, vi s] (tab t m sh sl * bI m μ) (fun _ : Unit => .tuple #[]) (fun _ => tab t m sh sl * bI m ((μ.acc who 2 (8, s, 0)).put (8, s, 0) 0)) := by
 refine bn (sx _ _ _) fun R H h => ?_;unfold tab at h ⊢
 repeat refine ai ‹_› ac rfl ?_
 refine af (by assumption) (dz 8 s 0) fun _ _ _ => ?_
 repeat refine aH ‹_› ‹_› rfl ?_
 refine af (by assumption) (sa m μ who (8, s, 0) 0 (by omega)) fun _ _ _ => ?_;exact ap ⟨(), rfl, ae.to (by assumption)⟩
theorem Tq (hE : μ.N < 1099511627000) : Sp ji [vp t, vi who, vi s, vi i] (tab t m sh sl * bI m μ) (fun _ : Unit => .tuple #[]) (fun _ => tab t m sh sl * bI m ((μ.acc who 2 (10, s, i)).put (10, s, i) 0)) := by
 refine bn (tR _ _ _ _) fun R H h => ?_;unfold tab at h ⊢
 repeat refine ai ‹_› ac rfl ?_
 refine af (by assumption) (dz 10 s i) fun _ _ _ => ?_
 repeat refine aH ‹_› ‹_› rfl ?_
 refine af (by assumption) (sa m μ who (10, s, i) 0 (by omega)) fun _ _ _ => ?_;exact ap ⟨(), rfl, ae.to (by assumption)⟩
def g8 (v : Nat) : Value := if v = 0 then .tuple #[vi 0, vi 0, vb false] else .tuple #[vi ((v / 4294967296 : Nat) - 1), vi (v % 4294967296 : Nat), vb true]
theorem yR (hE : μ.N < 1099511627000) (hV : μ.V (10, s, i) < 18446744073709551616) :
 Sp fS [vp t, vi who, vi s, vi i] (tab t m sh sl * bD m μ) (fun _ : Unit => g8 (μ.V (10, s, i))) (fun _ => tab t m sh sl * bD m (μ.acc who 1 (10, s, i))) := by
 refine bn (sD _ _ _ _) fun R H h => ?_;unfold tab at h ⊢
 repeat refine ai ‹_› ac rfl ?_
 refine af (by assumption) (ud s i) fun _ _ _ => ?_
 repeat refine aH ‹_› ‹_› rfl ?_
 refine af (by assumption) (CB m μ who (10, s, i) (by omega)) fun _ _ _ => ?_;refine aa (acU (b := 0)) ?_;refine bZ (fun hc => ?_) (fun hc => ?_)
 ·have hc : μ.V (10, s, i) = 0 := by simpa using hc
  refine ap ⟨(), by rw [g8, if_pos hc], ae.to (by assumption)⟩
 ·have hc : ¬ μ.V (10, s, i) = 0 := by simpa using hc
  refine aa (agT) ?_;refine aa (i3 (by omega)) ?_;refine aa (nN (by omega) (by omega)) ?_;refine aa (af7 hV) ?_;refine aa (i3 (by omega)) ?_;refine ap ⟨(), by rw [g8, if_neg hc], ae.to (by assumption)⟩
theorem E4 (hE : μ.N < 1099511627000) (hV : μ.V (10, s, i) < 18446744073709551616) :
 Sp jO [vp t, vi who, vi s, vi i] (tab t m sh sl * bI m μ) (fun _ : Unit => g8 (μ.V (10, s, i))) (fun _ => tab t m sh sl * bI m (μ.acc who 1 (10, s, i))) := by
 refine bn (vW _ _ _ _) fun R H h => ?_;unfold tab at h ⊢
 repeat refine ai ‹_› ac rfl ?_
 refine af (by assumption) (dz 10 s i) fun _ _ _ => ?_
 repeat refine aH ‹_› ‹_› rfl ?_
 refine af (by assumption) (qW m μ who (10, s, i) (by omega)) fun _ _ _ => ?_;refine aa (acU (b := 0)) ?_;refine bZ (fun hc => ?_) (fun hc => ?_)
 ·have hc : μ.V (10, s, i) = 0 := by simpa using hc
  refine ap ⟨(), by rw [g8, if_pos hc], ae.to (by assumption)⟩
 ·have hc : ¬ μ.V (10, s, i) = 0 := by simpa using hc
  refine aa (agM hV) ?_;refine aa (i3 (by omega)) ?_;refine aa (nN (by omega) (by omega)) ?_;refine aa (agO) ?_;refine aa (i3 (by omega)) ?_;refine ap ⟨(), by rw [g8, if_neg hc], ae.to (by assumption)⟩
end
def d7 (v n : Int) : Int := (v % 18446744073709551616) % n
theorem fe {v n : Int} (h : 0 < n) : 0 ≤ d7 v n ∧ d7 v n < n := ⟨Int.emod_nonneg _ (by omega), Int.emod_lt_of_pos _ h⟩
theorem cV (v n : Int) (h0 : 0 < n) (h1 : n < 9223372036854775808) : Sp bw [vi v, vi n] emp (fun _ : Unit => vi (d7 v n)) (fun _ => emp) := by
 refine bn (JL _ _) fun R H h => ?_
 have e1 : cF (some .u64) (vi v) = some (vu (v % 18446744073709551616).toNat) := by
  simp only [cF];rw [Dz];have : 0 ≤ v % 18446744073709551616 := Int.emod_nonneg _ (by omega);show _ = some (Value.int .u64 (((v % 18446744073709551616).toNat : Nat) : Int));rw [Int.toNat_of_nonneg this]
 refine aa (e1) ?_;refine aa (d5 (by omega) (by omega)) ?_;refine aa (jD (by omega)) ?_;have hm := fe (v := v) h0
 have e2 : (((v % 18446744073709551616).toNat % n.toNat : Nat) : Int) = d7 v n := by
  have : 0 ≤ v % 18446744073709551616 := Int.emod_nonneg _ (by omega);unfold d7;rw [Int.natCast_emod, Int.toNat_of_nonneg this, Int.toNat_of_nonneg (by omega)]
 refine aa (i3 (by omega)) ?_;rw [e2];exact ap ⟨(), rfl, ae.to (by assumption)⟩
structure iX where
 sh : Int
 sl : Int
 wk : Int
 wd : Int
 un : Nat
abbrev iX.cells (c : iX) : List Value := [vi c.sh, vi c.sl, vi c.wk, vi c.wd, vu c.un]
structure Cl where
 op : Int
 flow : Int
 a : Int
 b : Int
abbrev Cl.cells (x : Cl) : List Value := [vi x.op, vi x.flow, vi x.a, vi x.b]
instance : Enc Cl.cells 4 := ⟨fun _ => rfl, fun _ => rfl, by omega⟩
structure Sv where
 a : Option Addr
 n : Nat
 c : Nat
abbrev Sv.v (s : Sv) : Value := .slice s.a s.n s.c
abbrev ahC (s : Sv) : List Value := [.slice s.a s.n s.c]
instance : Enc ahC 1 := ⟨fun _ => rfl, fun _ => rfl, by omega⟩
def cJ (c : iX) : Bool := decide (1 ≤ c.sh ∧ c.sh ≤ 4 ∧ 1 ≤ c.sl ∧ c.sl ≤ 4 ∧ 1 ≤ c.wk ∧ c.wk ≤ 6 ∧ 0 ≤ c.wd ∧ c.wd ≤ 40 ∧ 1 ≤ c.un ∧ c.un ≤ 4611686018427387904)
theorem bF {c : iX} : cJ c = true ↔ (1 ≤ c.sh ∧ c.sh ≤ 4 ∧ 1 ≤ c.sl ∧ c.sl ≤ 4 ∧ 1 ≤ c.wk ∧ c.wk ≤ 6 ∧ 0 ≤ c.wd ∧ c.wd ≤ 40 ∧ 1 ≤ c.un ∧ c.un ≤ 4611686018427387904) := by unfold cJ; exact decide_eq_true_iff
theorem lP {c : iX} (h : ¬ (1 ≤ c.sh ∧ c.sh ≤ 4 ∧ 1 ≤ c.sl ∧ c.sl ≤ 4 ∧ 1 ≤ c.wk ∧ c.wk ≤ 6 ∧ 0 ≤ c.wd ∧ c.wd ≤ 40 ∧ 1 ≤ c.un ∧ c.un ≤ 4611686018427387904)) : cJ c = false := by unfold cJ; exact ez h
theorem gK (x a b : Int) : Sp fw [vi x, vi a, vi b] emp (fun _ : Unit => vb (decide (a ≤ x ∧ x ≤ b))) (fun _ => emp) := by
 refine bn (zB _ _ _) fun R H h => ?_
 by_cases h1 : a ≤ x
 ·refine aa (uY h1) ?_
  refine gs ?_
  by_cases h2 : x ≤ b
  ·refine aa (Xy h2) ?_
   refine gs ?_;rw [fj ⟨h1, h2⟩];exact ap ⟨(), rfl, ae.to (by assumption)⟩
  ·refine aa (Xx h2) ?_
   refine gs ?_;rw [ez (fun h => h2 h.2)];exact ap ⟨(), rfl, ae.to (by assumption)⟩
 ·refine aa (mf h1) ?_
  refine gs ?_;rw [ez (fun h => h1 h.1)];exact ap ⟨(), rfl, ae.to (by assumption)⟩
theorem JB (c : iX) : Sp nE [.agg (iX.cells c).toArray] emp (fun _ : Unit => vb (cJ c)) (fun _ => emp) := by
 refine bn (Cw _) fun R H h => ?_;refine be h fun b H1 h1 => ?_;refine ai h1 aD rfl ?_;refine af h1 (gK c.sh 1 4) fun _ K0 k0 => ?_
 by_cases g0 : (1 : Int) ≤ c.sh ∧ c.sh ≤ 4
 case neg =>
  rw [ez g0];refine gs ?_;rw [lP (by omega)];exact ap ⟨(), rfl, ae.to (by assumption)⟩
 rw [fj g0];refine gs ?_;refine ai k0 aD rfl ?_;refine gs ?_;refine af k0 (gK c.sl 1 4) fun _ K1 k1 => ?_
 by_cases g1 : (1 : Int) ≤ c.sl ∧ c.sl ≤ 4
 case neg =>
  rw [ez g1];refine gs ?_;rw [lP (by omega)];exact ap ⟨(), rfl, ae.to (by assumption)⟩
 rw [fj g1];refine gs ?_;refine ai k1 aD rfl ?_;refine gs ?_;refine af k1 (gK c.wk 1 6) fun _ K2 k2 => ?_
 by_cases g2 : (1 : Int) ≤ c.wk ∧ c.wk ≤ 6
 case neg =>
  rw [ez g2];refine gs ?_;rw [lP (by omega)];exact ap ⟨(), rfl, ae.to (by assumption)⟩
 rw [fj g2];refine gs ?_;refine ai k2 aD rfl ?_;refine gs ?_;refine af k2 (gK c.wd 0 40) fun _ K3 k3 => ?_
 by_cases g3 : (0 : Int) ≤ c.wd ∧ c.wd ≤ 40
 case neg =>
  rw [ez g3];refine gs ?_;rw [lP (by omega)];exact ap ⟨(), rfl, ae.to (by assumption)⟩
 rw [fj g3];refine gs ?_;refine ai k3 aD rfl ?_;refine gs ?_
 by_cases g4 : (1 : Int) ≤ c.un
 case neg =>
  refine aa (mf g4) ?_;refine gs ?_;rw [lP (by omega)];exact ap ⟨(), rfl, ae.to (by assumption)⟩
 refine aa (uY g4) ?_;refine gs ?_;refine ai k3 aD rfl ?_;refine gs ?_
 by_cases g5 : (c.un : Int) ≤ 4611686018427387904
 case neg =>
  refine aa (Xx g5) ?_;refine gs ?_;rw [lP (by omega)];exact ap ⟨(), rfl, ae.to (by assumption)⟩
 refine aa (Xy g5) ?_;refine gs ?_;rw [bF.2 (by omega)];exact ap ⟨(), rfl, ae.to (by assumption)⟩
theorem Dy (w : Int) : Sp oV [vi w] emp (fun x : Int => vi x) (fun _ => emp) := by
 refine bn (Ea _) fun R H h => ?_;refine aa (kT) ?_;refine aa (kU) ?_;exact ap ⟨_, rfl, h⟩
theorem Un (w : Int) : Sp qL [vi w] emp (fun b : Nat => vp b) (fun _ => emp) := by
 refine bn (Il _) fun R H h => ?_;refine af h (Dy w) fun x H1 h1 => ?_;refine wE h1 fun mb H2 h2 => ?_;refine Kp rfl ?_;refine be h2 fun b H3 h3 => ?_;exact ap ⟨b, rfl, h3.to⟩
theorem Xo : Sp tv [] emp (fun b : Nat => vp b) (fun _ => emp) := by
 refine bn Jo fun R H h => ?_;refine wE h fun mb H2 h2 => ?_;refine iW ?_;refine be h2 fun b H3 h3 => ?_;exact ap ⟨b, rfl, h3.to⟩
theorem TW (w : Int) : Sp qJ [vi w] emp (fun b : Nat => vp b) (fun _ => emp) := by
 refine bn (If _) fun R H h => ?_;refine af h (Un w) fun x H1 h1 => ?_;refine af h1 Xo fun y H2 h2 => ?_;refine iW ?_;refine be h2 fun b H3 h3 => ?_;exact ap ⟨b, rfl, h3.to⟩
theorem Ye (m : Nat) (s : Int) : Sp tB [vp m, vi s] emp (fun b : Nat => vp b) (fun _ => emp) := by
 refine bn (JN _ _) fun R H h => ?_;refine aa (kT) ?_;refine aa (kU) ?_;refine wE h fun mb H2 h2 => ?_;refine wE h2 fun mc H3 h3 => ?_;refine iW ?_;refine be h3 fun b H4 h4 => ?_;exact ap ⟨b, rfl, h4.to⟩
structure Lf where
 k : Int
 i : Int
 b : Bool
abbrev Lf.cells (x : Lf) : List Value := [vw x.k, vi x.i, vb x.b]
instance : Enc Lf.cells 3 := ⟨fun _ => rfl, fun _ => rfl, by omega⟩
def Do (t : Nat) (lv : Value) (s : Nat) (nv : Value) (m : List Int) : SP := blk t (.cells false [lv, vi s, nv]) * ts 1 fp nv m
theorem Y6 (n : Int) : Sp tE [vi n] emp (fun b : Nat => vp b) (fun _ => emp) := by
 refine bn (Kj _) fun R H h => ?_;refine aa (kT) ?_;refine aa (kU) ?_;obtain ⟨k, hk⟩ : ∃ k : Nat, min (max n 1) 16 = k := ⟨(min (max n 1) 16).toNat, by omega⟩;rw [hk]
 have hk1 : 1 ≤ k := by omega
 have hk16 : k ≤ 16 := by omega
 refine Ii (enc := Lf.cells) (⟨0, 0, false⟩ : Lf) h rfl (by unfold dc; omega) (by omega) fun lb H1 h1 => ?_;refine iW ?_;refine be h1 fun t H2 h2 => ?_;refine ah (Dp _ _ _ H2) ?_
 -- the nodes
 have nodes : ∀ (s : Nat) (H : AH), s ≤ 32 → ae (Do t (vs lb k 3) s (.slice none 0 0) [] * R) H → wp (rj (.pointer none) (vp t) H) fun v' H' => ∃ b : Nat, v' = vp b ∧ ae (emp * R) H' := by
  intro s H hs h;refine ah (Dq _ _ H) ?_;unfold Do at h;refine ai h ac rfl ?_;refine aa (rE (by omega) (by omega)) ?_;refine ah (Dt _ _ _ _ H) ?_
  have loop : ∀ (d i : Nat) (nv : Value) (m : List Int) (H : AH), i + d = 2 * s → m.length = i → ae (blk t (.cells false [vs lb k 3, vi s, nv]) * ts 1 fp nv m * R) H → wp (np (.pointer none) (vp t) (vi (2 * (s : Int))) (vi i) H) fun v' H' => ∃ b : Nat, v' = vp b ∧ ae (emp * R) H' := by
   intro d
   induction d with
   | zero =>
    intro i nv m H hi hm h;refine ah (rk _ _ _ _ H) ?_;refine aa (bW (by omega)) ?_;refine gs ?_;refine ah (yd _ _ H) ?_;refine ah (Ds _ _ H) ?_;exact ap ⟨t, rfl, h.to⟩
   | succ d ih =>
    intro i nv m H hi hm h;refine ah (rk _ _ _ _ H) ?_;refine aa (cP (by omega)) ?_;refine gs ?_;refine ah (Du _ _ _ _ H) ?_;refine ai h ac rfl ?_;refine KI h fun b0 H3 h3 => ?_;refine ig (-1 : Int) h3 rfl ?_ (by omega) fun a c H4 h4 => ?_
    ·unfold dc; omega
    refine bg h4 ac rfl rfl fun H5 h5 => ?_;refine ah (Dv _ _ _ _ H5) ?_;refine aa (aR (by omega) (by omega)) ?_;refine ih (i + 1) (.slice a (m.length + 1) c) (m ++ [-1]) H5 (by omega) (by simp; omega) h5.to
  exact loop (2 * s) 0 (.slice none 0 0) [] H (by omega) rfl h
 -- the size
 have size : ∀ (d s : Nat) (H : AH), 16 ≤ s + d → 1 ≤ s → s ≤ 32 → ae (Do t (vs lb k 3) s (.slice none 0 0) [] * R) H → wp (lu (vi k) (.pointer none) (vp t) H) fun v' H' => ∃ b : Nat, v' = vp b ∧ ae (emp * R) H' := by
  intro d
  induction d with
  | zero =>
   intro s H hd hs1 hs h;refine ah (pM _ _ _ H) ?_;have h' := h;unfold Do at h';refine ai h' ac rfl ?_;refine aa (bW (by omega)) ?_;refine gs ?_;refine ah (nl _ _ H) ?_;exact nodes s H hs h
  | succ d ih =>
   intro s H hd hs1 hs h;refine ah (pM _ _ _ H) ?_;have h' := h;unfold Do at h';refine ai h' ac rfl ?_
   by_cases hlt : (s : Int) < k
   ·refine aa (cP hlt) ?_
    refine gs ?_;refine ah (z9 _ _ _ H) ?_;refine ai h' ac rfl ?_;refine aa (rE (by omega) (by omega)) ?_;refine bg h' ac rfl rfl fun H3 h3 => ?_;refine ih (s * 2) H3 (by omega) (by omega) (by omega) ?_;unfold Do;rw [show (((s * 2 : Nat) : Int)) = (s : Int) * 2 from by omega];exact h3.to
   ·refine aa (bW hlt) ?_
    refine gs ?_;refine ah (nl _ _ H) ?_;exact nodes s H hs h
 refine size 16 1 H2 (by omega) (by omega) (by omega) ?_;unfold Do;have h3 := ee 1 fp h2;exact h3.to
abbrev mL (b : Nat) : List Value := [vp b]
instance : Enc mL 1 := ⟨fun _ => rfl, fun _ => rfl, by omega⟩
theorem To (n w : Int) : Sp qH [vi n, vi w] emp (fun b : Nat => vp b) (fun _ => emp) := by
 refine bn (Hx _ _) fun R H h => ?_;refine aa (kT) ?_;refine aa (kU) ?_;obtain ⟨k, hk⟩ : ∃ k : Nat, min (max n 1) 16 = k := ⟨(min (max n 1) 16).toNat, by omega⟩;rw [hk]
 have hk16 : k ≤ 16 := by omega
 refine af h (Y6 k) fun tb H1 h1 => ?_;refine iW ?_;refine be h1 fun q H2 h2 => ?_;refine ah (zH _ _ _ _ H2) ?_;refine ah (zJ _ _ _ _ _ H2) ?_
 have loop : ∀ (d i : Nat) (nv : Value) (m : List Nat) (H : AH), i + d = k → m.length = i → ae (blk q (.cells false [nv, vp tb]) * ts 1 mL nv m * R) H → wp (lp (vi w) (.pointer none) (vp q) (vi k) (vi i) H) fun v' H' => ∃ b : Nat, v' = vp b ∧ ae (emp * R) H' := by
  intro d
  induction d with
  | zero =>
   intro i nv m H hi hm h;refine ah (pA _ _ _ _ _ H) ?_;refine aa (bW (by omega)) ?_;refine gs ?_;refine ah (vL _ _ H) ?_;refine ah (zI _ _ H) ?_;exact ap ⟨q, rfl, h.to⟩
  | succ d ih =>
   intro i nv m H hi hm h;refine ah (pA _ _ _ _ _ H) ?_;refine aa (cP (by omega)) ?_;refine gs ?_;refine ah (zK _ _ _ _ _ H) ?_;refine bA ac ?_;refine aN h rfl ?_;refine af h (TW w) fun sb H3 h3 => ?_;refine aH h3 h rfl ?_;refine KI h3 fun b0 H4 h4 => ?_;refine ig (sb : Nat) h4 rfl ?_ (by omega) fun a c H5 h5 => ?_
   ·unfold dc; omega
   refine bg h5 ac rfl rfl fun H6 h6 => ?_;refine ah (zL _ _ _ _ _ H6) ?_;refine aa (aR (by omega) (by omega)) ?_;exact ih (i + 1) (.slice a (m.length + 1) c) (m ++ [sb]) H6 (by omega) (by simp; omega) h6.to
 refine loop k 0 (.slice none 0 0) [] H2 (by omega) rfl ?_;have h3 := ee 1 mL h2;exact h3.to
theorem Vc (c : iX) : Sp tu [.agg (iX.cells c).toArray] emp (fun b : Nat => vp b) (fun _ => emp) := by
 refine bn (IT _) fun R H h => ?_;refine be h fun cb H1 h1 => ?_;refine ai h1 aD rfl ?_;refine ai h1 aD rfl ?_;refine af h1 (To c.sh c.wd) fun q H2 h2 => ?_;refine wE h2 fun mb H3 h3 => ?_;refine wE h3 fun mc H4 h4 => ?_;refine iW ?_;refine be h4 fun b H5 h5 => ?_;exact ap ⟨b, rfl, h5.to⟩
theorem M3 {cl : TCls} {w : Nat} (n : Nat) (h : n ≠ 0) : ak cl .rem (vu w) (.int .u64 (n : Int)) = some (vu (w % n)) := jD h
theorem Bn (b b2 : Nat) (c : iX) (u : Nat) (hu : 1 ≤ u ∧ u ≤ 4611686018427387904) {R : SP} {H : AH} (h : ae (blk b2 (.cells false [vi 0, vi 0, vi 0, vi 0, vw 0]) * (blk b (.cells false (iX.cells c)) * R)) H) :
 wp (jp (vp b) (vp b2) (vu u) H) fun v' H' => ∃ c' : iX, v' = .agg (iX.cells c').toArray ∧ ae (pu (cJ c' = true) * R) H' := by
 refine ah (vK _ _ _ H) ?_;refine ai h aD rfl ?_;refine af h (cV c.sh 4 (by omega) (by omega)) fun _ H1 h1 => ?_;have m1 := fe (v := c.sh) (n := 4) (by omega);refine aa (aR (by omega) (by omega)) ?_;refine bA aD ?_;refine aN h1 rfl ?_;refine aH h h1 rfl ?_;refine af h1 (cV c.sl 4 (by omega) (by omega)) fun _ H2 h2 => ?_;have m2 := fe (v := c.sl) (n := 4) (by omega);refine aa (aR (by omega) (by omega)) ?_;refine bA aD ?_;refine aN h2 rfl ?_;refine aH h h2 rfl ?_;refine aH h1 h2 rfl ?_;refine af h2 (cV c.wk 6 (by omega) (by omega)) fun _ H3 h3 => ?_;have m3 := fe (v := c.wk) (n := 6) (by omega);refine aa (aR (by omega) (by omega)) ?_;refine bA aD ?_;refine aN h3 rfl ?_;refine aH h h3 rfl ?_;refine aH h1 h3 rfl ?_;refine aH h2 h3 rfl ?_;refine af h3 (cV c.wd 12 (by omega) (by omega)) fun _ H4 h4 => ?_;have m4 := fe (v := c.wd) (n := 12) (by omega);refine iW ?_;refine eW h4 rfl rfl fun H5 h5 => ?_;refine aW h5 ?_;refine ap ⟨⟨1 + d7 c.sh 4, 1 + d7 c.sl 4, 1 + d7 c.wk 6, d7 c.wd 12, u⟩, rfl, ?_⟩;exact ae.pu.2 ⟨bF.2 (by dsimp only; omega), h5.to⟩
theorem JM (c : iX) : Sp nF [.agg (iX.cells c).toArray] emp (fun c' : iX => .agg (iX.cells c').toArray) (fun c' => pu (cJ c' = true)) := by
 refine aJ fun R H h => ?_;rw [gF] at h;refine bm (fun r => CD _ H) ?_;refine be h fun b H1 h1 => ?_;refine bp h1 fun b2 H2 h2 => ?_;refine ai h2 aD rfl ?_;refine aa (M3 5000 (by omega)) ?_;refine aa (f3 (a := 1) (by omega)) ?_;refine ah (vJ _ _ _ H2) ?_;refine ai h2 aD rfl ?_;refine aa (M3 4 (by omega)) ?_;refine aa (e9) ?_;refine bZ (fun _ => ?_) (fun _ => ?_)
 ·refine ai h2 aD rfl ?_
  refine aa (M3 4611686018427387904 (by omega)) ?_;have hm := Nat.mod_lt c.un (show 4611686018427387904 > 0 by omega)
  generalize c.un % 4611686018427387904 = u at hm
  refine aa (f3 (a := 1) (by omega)) ?_;exact Bn b b2 c _ (by omega) h2
 ·have hm := Nat.mod_lt c.un (show 5000 > 0 by omega)
  exact Bn b b2 c _ (by omega) h2
section
variable {R : SP} {H : AH}
theorem U7 {b2 b3 : Nat} {y y2 : Cl} {P : SP} (h : ae (blk b3 (.cells false (Cl.cells y)) * (blk b2 (.cells false (Cl.cells y2)) * P)) H) : wp (dm (vp b2) (vp b3) H) fun v' H' => ∃ y : Cl, v' = .agg (Cl.cells y).toArray ∧ ae P H' := by
 refine ah (zE _ _ H) ?_;refine aW h ?_;refine eW h rfl rfl fun H2 h2 => ?_;refine aW h2 ?_;exact ap ⟨y, rfl, h2.to⟩
end
theorem Tl (x : Cl) : Sp qG [.agg (Cl.cells x).toArray] emp (fun y : Cl => .agg (Cl.cells y).toArray) (fun _ => emp) := by
 refine aJ fun R H h => ?_;rw [gF] at h;refine bm (fun r => Hw _ H) ?_;refine be h fun b1 H1 h1 => ?_;refine bp h1 fun b2 H2 h2 => ?_;refine ai h2 aD rfl ?_;refine af h2 (cV x.flow 23 (by omega) (by omega)) fun _ H3 h3 => ?_;simp only [gF];refine aa (e9) ?_;refine bZ (fun _ => ?_) (fun _ => ?_)
 ·refine aW h3 ?_
  refine eW h3 rfl rfl fun H4 h4 => ?_;refine aW h4 ?_;exact ap ⟨x, rfl, h4.to⟩
 refine ai h3 aD rfl ?_;refine af h3 (cV x.flow 5 (by omega) (by omega)) fun _ H4 h4 => ?_;refine iW ?_;refine bp h4 fun b3 H5 h5 => ?_;refine eW h5 rfl rfl fun H6 h6 => ?_
 -- what each kind ends with
 have fin : ∀ (y : Cl) {H7 : AH}, ae (blk b3 (.cells false (Cl.cells y)) * (blk b2 (.cells false (Cl.cells ⟨0, 0, 0, 0⟩)) * R)) H7 → wp (dm (vp b2) (vp b3) H7) fun v' H' => ∃ y : Cl, v' = .agg (Cl.cells y).toArray ∧ ae R H' := fun y {H7} h7 => U7 (y2 := ⟨0, 0, 0, 0⟩) h7;refine ah (zD _ _ _ H6) ?_;refine ai h6 aD rfl ?_;refine af h6 (cV x.op 10 (by omega) (by omega)) fun _ H7 h7 => ?_
 generalize d7 x.op 10 = o
 refine ah (zF _ _ _ _ H7) ?_;refine aa (e9) ?_;refine ah (zG _ _ _ _ _ H7) ?_;refine bZ (fun _ => ?_) (fun _ => ?_)
 ·refine ai h7 aD rfl ?_
  refine af h7 (cV x.a 5 (by omega) (by omega)) fun _ H8 h8 => ?_;have m1 := fe (v := x.a) (n := 5) (by omega);refine aa (aR (by omega) (by omega)) ?_;refine bA aD ?_;refine aN h8 rfl ?_;refine aH h7 h8 rfl ?_;refine af h8 (cV x.b 3 (by omega) (by omega)) fun _ H9 h9 => ?_;have m2 := fe (v := x.b) (n := 3) (by omega);refine aa (aR (by omega) (by omega)) ?_;refine bg h9 aD rfl rfl fun H10 h10 => ?_;refine bg h10 aD rfl rfl fun H11 h11 => ?_;refine bg h11 aD rfl rfl fun H12 h12 => ?_;exact fin ⟨1, d7 x.flow 5, 1 + d7 x.a 5, 1 + d7 x.b 3⟩ h12.to
 refine aa (e9) ?_;refine ah (xw _ _ _ _ _ H7) ?_;refine bZ (fun _ => ?_) (fun _ => ?_)
 ·refine bg h7 aD rfl rfl fun H8 h8 => ?_
  exact fin ⟨2, d7 x.flow 5, 0, 0⟩ h8.to
 have tail : ∀ q : Bool, wp (j9 (vp b1) (vp b2) (vp b3) (vi o) (vb q) H7) fun v' H' => ∃ y : Cl, v' = .agg (Cl.cells y).toArray ∧ ae R H' := by
  intro q;refine ah (xx _ _ _ _ _ H7) ?_;refine bZ (fun _ => ?_) (fun _ => ?_)
  ·refine iW ?_
   refine eW h7 rfl rfl fun H8 h8 => ?_;exact fin ⟨4, 0, 0, 0⟩ h8.to
  refine aa (e9) ?_;refine bZ (fun _ => ?_) (fun _ => ?_)
  ·refine ai h7 aD rfl ?_
   refine af h7 (cV x.a 6 (by omega) (by omega)) fun _ H8 h8 => ?_;refine iW ?_;refine eW h8 rfl rfl fun H9 h9 => ?_;exact fin ⟨5, 0, d7 x.a 6, 0⟩ h9.to
  refine aa (e9) ?_;refine bZ (fun _ => ?_) (fun _ => ?_)
  ·refine iW ?_
   refine eW h7 rfl rfl fun H8 h8 => ?_;exact fin ⟨6, 0, 0, 0⟩ h8.to
  refine ai h7 aD rfl ?_;refine af h7 (cV x.a 9 (by omega) (by omega)) fun _ H8 h8 => ?_;have m1 := fe (v := x.a) (n := 9) (by omega);refine aa (aR (by omega) (by omega)) ?_;refine bA aD ?_;refine aN h8 rfl ?_;refine aH h7 h8 rfl ?_;refine af h8 (cV x.b 1000 (by omega) (by omega)) fun _ H9 h9 => ?_;refine bg h9 aD rfl rfl fun H10 h10 => ?_;refine bg h10 aD rfl rfl fun H11 h11 => ?_;refine bg h11 aD rfl rfl fun H12 h12 => ?_;refine ai h12 aD rfl ?_;refine af h12 (cV x.a 13 (by omega) (by omega)) fun _ H13 h13 => ?_;refine aa (e9) ?_;refine bZ (fun _ => ?_) (fun _ => ?_)
  ·refine ai h13 aD rfl ?_
   refine af h13 (cV x.a 65536 (by omega) (by omega)) fun _ H14 h14 => ?_;have m2 := fe (v := x.a) (n := 65536) (by omega);refine aa (aR (by omega) (by omega)) ?_;refine bg h14 aD rfl rfl fun H15 h15 => ?_;exact fin ⟨3, d7 x.flow 5, 1 + d7 x.a 65536, d7 x.b 1000⟩ h15.to
  ·exact fin ⟨3, d7 x.flow 5, 1 + d7 x.a 9, d7 x.b 1000⟩ h13.to
 refine aa (e9) ?_;refine bZ (fun _ => tail _) (fun _ => ?_);refine aa (e9) ?_;exact tail _
structure Pk where
 flow : Int
 len : Int
 mark : Int
abbrev Pk.cells (x : Pk) : List Value := [vi x.flow, vi x.len, vi x.mark]
instance : Enc Pk.cells 3 := ⟨fun _ => rfl, fun _ => rfl, by omega⟩
structure Ob where
 flow : Int
 most : Int
 r : Nat
structure Pt where
 step : Int
 who : Int
 place : Int
 e : Int
abbrev gW (e : Int) : List Value := [vi e, .slice none 0 0, vi 0, vw 0]
abbrev Pt.cells (x : Pt) : List Value := [vi x.step, vi x.who, vi x.place, vi x.e, .slice none 0 0, vi 0, vw 0]
instance : Enc Pt.cells 7 := ⟨fun _ => rfl, fun _ => rfl, by omega⟩
structure aY where
 c : iX
 μ : Mu
 obs : List (Ob × List Pk)
 nx : Int → Option Nat
 places : Int → Option Int
 pts : List Pt
def eb (n : Int) : Nat := (min (max n 1) 8).toNat
theorem rZ (n : Int) : 1 ≤ eb n ∧ eb n ≤ 8 ∧ (eb n : Int) = min (max n 1) 8 := by unfold eb; omega
abbrev It : Pk := ⟨0, 0, 0⟩
abbrev KE (k : Int) : Value := vi k
instance : KeyE .int KE where
 eq a b := by
  simp only [kw, KE, if_true]
  congr 1
 ok a := rfl
def cz (m i rp : Nat) (cs : List Pk) : SP := ex fun cv : Value => blk rp (.cells false [vp m, vi i, cv]) * ts 3 Pk.cells cv cs
def mF (m : Nat) : Nat → List (Nat × List Pk) → SP
 | _, [] => emp
 | i, p :: ps => cz m i p.1 p.2 * mF m (i + 1) ps
theorem yM (m : Nat) : ∀ (ps : List (Nat × List Pk)) (i : Nat) (q : Nat × List Pk), mF m i (ps ++ [q]) = mF m i ps * cz m (i + ps.length) q.1 q.2 := by
 intro ps
 induction ps with
 | nil => intro i q; show cz m i q.1 q.2 * emp = emp * cz m (i + 0) q.1 q.2; rw [fT, gF]; rfl
 | cons p ps ih =>
  intro i q;show cz m i p.1 p.2 * mF m (i + 1) (ps ++ [q]) = cz m i p.1 p.2 * mF m (i + 1) ps * _;rw [ih, aj, List.length_cons, show i + 1 + ps.length = i + (ps.length + 1) from by omega]
abbrev I1 (x : Ob × Nat) : List Value := [vi x.1.flow, vi x.1.most, vu x.1.r, vp x.2]
instance : Enc I1 4 := ⟨fun _ => rfl, fun _ => rfl, by omega⟩
structure PIds where
 m : Nat
 ib : Nat
 tb : Nat
 po : Nat
 co : Nat
 ov : Value
 pm : Nat
 pv : Value
 nm : Nat
 rp : List Nat
def lh (ib m nm : Nat) (c : iX) (nx : Int → Option Nat) : SP :=
 blk ib (.cells false [vp m, vi c.sh, .map (some nm), .func (.func bB) #[vi 9] #[], .func (.func bB) #[vi 14] #[]]) * UA KE nm (fun k => (nx k).map fun n => vu n)
def az (p : Nat) (g : PIds) (σ : aY) : SP :=
 blk p (.cells false [vp g.m, vp g.ib, vp g.tb, vp g.po, vp g.co, vi σ.c.sh, vi σ.c.sl, vi σ.c.wk, vi σ.c.wd, vu σ.c.un, g.ov, .map (some g.pm), g.pv]) *
 (bD g.m σ.μ * (lh g.ib g.m g.nm σ.c σ.nx * (tab g.tb g.m σ.c.sh.toNat σ.c.sl.toNat * (ts 4 I1 g.ov ((σ.obs.map fun x => x.1).zip g.rp) * (mF g.m 0 (g.rp.zip (σ.obs.map fun x => x.2)) *
 (UA KE g.pm (fun k => (σ.places k).map fun n => vi n) * ts 7 Pt.cells g.pv σ.pts))))))
def f7 (p : Nat) (σ : aY) : SP := ex fun g : PIds => pu (g.rp.length = σ.obs.length) * az p g σ
theorem nb {p : Nat} {σ : aY} {R : SP} {H : AH} (h : ae (f7 p σ * R) H) : ∃ g : PIds, g.rp.length = σ.obs.length ∧ ae (az p g σ * R) H := by
 obtain ⟨g, h1⟩ := ae.ex.1 h;rw [aj, ae.pu] at h1;exact ⟨g, h1⟩
theorem oY {p : Nat} {σ : aY} {R : SP} {H : AH} (g : PIds) (hl : g.rp.length = σ.obs.length) (h : ae (az p g σ * R) H) : ae (f7 p σ * R) H :=
 ae.ex.2 ⟨g, by rw [aj]; exact ae.pu.2 ⟨hl, h⟩⟩
abbrev aY.new (c : iX) : aY := ⟨c, ⟨fun _ => 0, [], 0⟩, [], fun _ => none, fun _ => none, []⟩
theorem XJ : Sp xq [] emp (fun b : Nat => vp b) (fun b => bD b ⟨fun _ => 0, [], 0⟩) := by
 refine bn Mh fun R H h => ?_;refine wE h fun mb H2 h2 => ?_;refine iW ?_;refine be h2 fun b H3 h3 => ?_;refine ap ⟨b, rfl, ae.ex.2 ⟨(mb, .slice none 0 0, [], [], 0), ?_⟩⟩;rw [aj, ae.pu];refine ⟨⟨.nil, fun _ => rfl, bJ _⟩, ?_⟩;have := Qu 5 h3;show ae (blk b (.cells false [.map (some mb), .slice none 0 0]) * (blk mb (.map [] 0) * sl 5 (.slice none 0 0) 0 []) * R) H3;exact this.to
theorem L9 (m : Nat) (c : iX) (hc : cJ c = true) : Sp qB [vp m, vi c.sh] emp (fun b : Nat => vp b) (fun b => ex fun nm : Nat => lh b m nm c fun _ => none) := by
 have hc := bF.1 hc;refine bn (G6 _ _) fun R H h => ?_;refine aa (kT) ?_;refine aa (kU) ?_;rw [show min (max c.sh 1) 4 = c.sh from by omega];refine wE h fun mb H2 h2 => ?_;refine iW ?_;refine be h2 fun b H3 h3 => ?_;refine ap ⟨b, rfl, ae.ex.2 ⟨mb, ?_⟩⟩;unfold lh;have h4 : ae (blk mb (.map [] 0) * (blk b (.cells false [vp m, vi c.sh, .map (some mb), .func (.func bB) #[vi 9] #[], .func (.func bB) #[vi 14] #[]]) * (emp * R))) H3 := h3.to;have h5 := PR KE h4;show ae (blk b (.cells false [vp m, vi c.sh, .map (some mb), .func (.func bB) #[vi 9] #[], .func (.func bB) #[vi 14] #[]]) * UA KE mb (fun _ => none) * R) H3;exact h5.to
theorem Nr (m : Nat) (c : iX) (hc : cJ c = true) : Sp qK [vp m, vi c.sh, vi c.sl] emp (fun b : Nat => vp b) (fun b => tab b m c.sh.toNat c.sl.toNat) := by
 have hc := bF.1 hc;refine bn (Ih _ _ _) fun R H h => ?_;refine aa (kT) ?_;refine aa (kU) ?_;refine aa (kT) ?_;refine aa (kU) ?_;rw [show min (max c.sh 1) 4 = ((c.sh.toNat : Nat) : Int) from by omega, show min (max c.sl 1) 4 = ((c.sl.toNat : Nat) : Int) from by omega];refine iW ?_;refine be h fun b H3 h3 => ?_;exact ap ⟨b, rfl, by unfold tab; exact h3.to⟩
theorem MB (c : iX) (hc : cJ c = true) : Sp qE [.agg (iX.cells c).toArray] emp (fun b : Nat => .tuple #[vp b, vi 0]) (fun b => f7 b (aY.new c)) := by
 refine bn (Ht _) fun R H h => ?_;refine be h fun cb H1 h1 => ?_;refine aW h1 ?_;refine af h1 (JB c) fun _ H2 h2 => ?_;rw [hc];refine gs ?_;rw [Bool.not_true];refine gs ?_;refine af h2 XJ fun m H3 h3 => ?_;refine ai h3 aD rfl ?_;refine af h3 (L9 m c hc) fun ib H4 h4 => ?_;obtain ⟨nm, h4b⟩ := ae.ex.1 h4;refine bA aD ?_;refine aN h4b rfl ?_;refine aH h3 h4b rfl ?_;refine bA aD ?_;refine aN h4b rfl ?_;refine aH h3 h4b rfl ?_;refine af h4b (Nr m c hc) fun tb H5 h5 => ?_;refine bA aD ?_;refine aN h5 rfl ?_;refine aH h3 h5 rfl ?_;refine aH h4b h5 rfl ?_;refine af h5 (Ye m c.wk) fun pb H6 h6 => ?_;refine aW h6 ?_;refine dQ h3 h6 rfl ?_;refine dQ h4b h6 rfl ?_;refine dQ h5 h6 rfl ?_;refine af h6 (Vc c) fun kb H7 h7 => ?_;refine aW h7 ?_;refine dQ h3 h7 rfl ?_;refine dQ h4b h7 rfl ?_;refine dQ h5 h7 rfl ?_;refine dQ h6 h7 rfl ?_;refine wE h7 fun mb H8 h8 => ?_;refine iW ?_;refine be h8 fun b H9 h9 => ?_;refine ap ⟨b, rfl, ?_⟩;refine oY ⟨m, ib, tb, pb, kb, .slice none 0 0, mb, .slice none 0 0, nm, []⟩ rfl ?_;have h10 := ee 4 I1 (ee 7 Pt.cells h9);have h11 : ae (blk mb (.map [] 0) * (ts 4 I1 (.slice none 0 0) [] * (ts 7 Pt.cells (.slice none 0 0) [] * (blk b (.cells false [vp m, vp ib, vp tb, vp pb, vp kb, vi c.sh, vi c.sl, vi c.wk, vi c.wd, vu c.un, .slice none 0 0, .map (some mb), .slice none 0 0]) * (bD m ⟨fun _ => 0, [], 0⟩ * (lh ib m nm c (fun _ => none) * (tab tb m c.sh.toNat c.sl.toNat * (emp * R)))))))) H9 := h10.to;have h12 := PR KE h11;show ae (blk b (.cells false [vp m, vp ib, vp tb, vp pb, vp kb, vi c.sh, vi c.sl, vi c.wk, vi c.wd, vu c.un, .slice none 0 0, .map (some mb), .slice none 0 0]) * (bD m ⟨fun _ => 0, [], 0⟩ * (lh ib m nm c (fun _ => none) * (tab tb m c.sh.toNat c.sl.toNat * (ts 4 I1 (.slice none 0 0) [] * (emp * (UA KE mb (fun _ => none) * ts 7 Pt.cells (.slice none 0 0) [])))))) * R) H9;exact h12.to
section
variable (p : Nat) (σ : aY)
theorem J2 (m i : Nat) (most : Int) : Sp tD [vp m, vi i, vi most] emp (fun b : Nat => vp b) (fun b => cz m i b (List.replicate (eb most) It)) := by
 obtain ⟨q1, q2, q3⟩ := rZ most;refine bn (J1 _ _ _) fun R H h => ?_;refine aa (kT) ?_;refine aa (kU) ?_;rw [← q3];refine Ii (enc := Pk.cells) It h rfl (by unfold dc; omega) (by omega) fun cb H1 h1 => ?_;refine iW ?_;refine be h1 fun b H2 h2 => ?_;refine ap ⟨b, rfl, ?_⟩;unfold cz;exact ae.ex.2 ⟨vs cb (eb most) 3, h2.to⟩
abbrev aY.make (σ : aY) (who : Int) (o : Ob) : aY := { σ with μ := σ.μ.acc who 6 (13, σ.obs.length, 0), obs := σ.obs ++ [(o, List.replicate (eb o.most) It)] }
theorem MA (who : Int) (o : Ob) (hE : σ.μ.N < 1099511627000) (ho : σ.obs.length < 1000000) : Sp dU [vp p, vi who, .agg (#[vi o.flow, vi o.most, vu o.r] : Array Value)] (f7 p σ) (fun _ : Unit => vi σ.obs.length) (fun _ => f7 p (σ.make who o)) := by
 refine aJ fun R H h => ?_;obtain ⟨g, hg, h0⟩ := nb h
 have hz : ((σ.obs.map fun x => x.1).zip g.rp).length = σ.obs.length := by simp [hg]
 unfold az at h0;refine bm (fun r => kX _ _ _ H) ?_;refine be (l := [vi o.flow, vi o.most, vu o.r]) h0 fun ob H1 h1 => ?_;refine ai h1 ac rfl ?_;refine rn (s := g.ov) h1 ?_;rw [hz];refine ai h1 ac rfl ?_;refine iW ?_;refine af h1 ((rY g.m σ.μ who (13, σ.obs.length, 0) (by omega)).imp fun _ R H h => jb (N' := σ.μ.N + 2) (by simp) h) fun _ H2 h2 => ?_;refine bA ac ?_;refine aN h2 rfl ?_;refine aW h2 ?_;refine ai h2 ac rfl ?_;refine ai h2 aD rfl ?_;refine af h2 (J2 g.m σ.obs.length o.most) fun rb H3 h3 => ?_;refine aH h3 h2 rfl ?_;refine dQ h3 h2 rfl ?_;refine iW ?_;refine KI h3 fun b0 H4 h4 => ?_;refine ig ((o, rb) : Ob × Nat) h4 rfl ?_ (by omega) fun a cc H5 h5 => ?_
 ·unfold dc; omega
 refine bg h5 ac rfl rfl fun H6 h6 => ?_;refine ap ⟨(), rfl, ?_⟩;refine oY { g with ov := .slice a (((σ.obs.map fun x => x.1).zip g.rp).length + 1) cc, rp := g.rp ++ [rb] } (by simp [aY.make, hg]) ?_;unfold az aY.make;dsimp only
 have e1 : ((σ.obs ++ [(o, List.replicate (eb o.most) It)]).map fun x => x.1).zip (g.rp ++ [rb]) = ((σ.obs.map fun x => x.1).zip g.rp) ++ [(o, rb)] := by
  rw [Hc, List.zip_append (by simp [hg])]
  rfl
 have e2 : (g.rp ++ [rb]).zip ((σ.obs ++ [(o, List.replicate (eb o.most) It)]).map fun x => x.2) = (g.rp.zip (σ.obs.map fun x => x.2)) ++ [(rb, List.replicate (eb o.most) It)] := by
  rw [Hc, List.zip_append (by simp [hg])]
  rfl
 have e3 : 0 + (g.rp.zip (σ.obs.map fun x => x.2)).length = σ.obs.length := by simp [hg]
 rw [e1, e2, yM, e3];exact h6.to
theorem yc : Sp XP [.slice none 0 0] emp (fun _ : Unit => .slice none 0 0) (fun _ => emp) := by
 refine bn (ae6 _) fun R H h => ?_;refine aa (v := vb true) rfl ?_;refine gs ?_;exact ap ⟨(), rfl, ae.to (by assumption)⟩
theorem DX (e : Int) : Sp qF [.agg (gW e).toArray] emp (fun _ : Unit => .agg (gW e).toArray) (fun _ => emp) := by
 refine bn (Hu _) fun R H h => ?_;refine be h fun b1 H1 h1 => ?_;refine bp h1 fun b2 H2 h2 => ?_;refine ai h2 aD rfl ?_;refine af h2 yc fun _ H3 h3 => ?_;refine bg h3 aD rfl rfl fun H4 h4 => ?_;refine aW h4 ?_;refine eW h4 rfl rfl fun H5 h5 => ?_;refine aW h5 ?_;exact ap ⟨(), rfl, h5.to⟩
abbrev aY.note (σ : aY) (step who e : Int) : aY := { σ with pts := σ.pts ++ [⟨step, who, (σ.places who).getD 0, e⟩] }
theorem Zi {P R P2 R2 : SP} {H H2 : AH} {b : Nat} {f : Int → Option Value} {zero : Value} {kk : OV} {Q : Value → AH → Prop} (k : Int) (h : ae P H) [m : Mp P b KE f R] (h2 : ae P2 H2) [m2 : Mp P2 b KE f R2] (hk : wp kk Q) :
 wp (bS (cU .int zero (.map (some b)) (vi k) false H) (cU .int zero (.map (some b)) (vi k) false H2) kk) Q := by
 have one : ∀ {P R : SP} {H : AH} (h : ae P H) [m : Mp P b KE f R], cU .int zero (.map (some b)) (vi k) false H = some ((f k).getD zero) := by
  intro P R H h m;obtain ⟨v, H', e, q⟩ : wp ((cU .int zero (.map (some b)) (vi k) false H).bind fun v => some (v, H)) (fun v _ => v = (f k).getD zero) := QH (ek := KE) k h (ap rfl);obtain ⟨v', e1, e2⟩ := aG.1 e
  have : v' = v := by simpa using congrArg (fun x => x.map Prod.fst) e2
  have e1' : cU .int zero (.map (some b)) (vi k) false H = some v' := e1;rw [e1', this, q]
 exact wC (by rw [one h, one h2]) hk
end
theorem jV {cl : TCls} {a b : Int} (h : b ≠ 0) : ak cl .rem (vi a) (vi b) = some (vi (a.tmod b)) := by
 simp only [ak, mH, if_true];rw [if_neg h]
theorem adH {a b : Nat} : ir [vu a, vu b] = some (vu (max a b)) := by
 simp only [ir]
 congr 2
 split <;> omega
abbrev sI (x : Ob) : List Value := [vi x.flow, vi x.most, vu x.r]
instance : Enc sI 3 := ⟨fun _ => rfl, fun _ => rfl, by omega⟩
abbrev Lo (n : Nat) : List Value := [vu n]
instance : Enc Lo 1 := ⟨fun _ => rfl, fun _ => rfl, by omega⟩
def gS : List (Int × Int) → Int → Int
 | [], _ => 0
 | p :: ps, who => if (ps.any fun q => q.1 == who) = true then gS ps who else if p.1 = who then p.2 else 0
def fF (l : List (Int × Int)) : List Int := l.flatMap fun p => [p.1, p.2]
def DV (l : List (Int × Nat)) (k : Int) : Option Nat := (l.find? fun p => p.1 == k).map (·.2)
def u5 (x : Pt) : List Pt → List Pt
 | [] => [x]
 | y :: l => if y.step ≤ x.step ∨ (l.any fun z => decide (z.step ≤ x.step)) = true then y :: u5 x l else x :: y :: l
def bU (l : List Pt) : List Pt := l.foldl (fun acc x => u5 x acc) []
def cW (m i rp : Nat) (cs : List Pk) : SP := ex fun cv : Value => blk rp (.cells false [vp m, vi i, vi cs.length, cv]) * ts 3 Pk.cells cv cs
def jr (m : Nat) : Nat → List (Nat × List Pk) → SP
 | _, [] => emp
 | i, p :: ps => cW m i p.1 p.2 * jr m (i + 1) ps
theorem J3 (m : Nat) : ∀ (ps : List (Nat × List Pk)) (i : Nat) (q : Nat × List Pk), jr m i (ps ++ [q]) = jr m i ps * cW m (i + ps.length) q.1 q.2 := by
 intro ps
 induction ps with
 | nil => intro i q; show cW m i q.1 q.2 * emp = emp * cW m (i + 0) q.1 q.2; rw [fT, gF]; rfl
 | cons p ps ih =>
  intro i q;show cW m i p.1 p.2 * jr m (i + 1) (ps ++ [q]) = cW m i p.1 p.2 * jr m (i + 1) ps * _;rw [ih, aj, List.length_cons, show i + 1 + ps.length = i + (ps.length + 1) from by omega]
def gG (ib m : Nat) (sh : Int) (nx : Int → Option Nat) (L : Nat) : SP := ex fun g : Value × Value × List (Int × Nat) =>
 pu ((∀ k, DV g.2.2 k = nx k) ∧ g.2.2.length ≤ L) * (blk ib (.cells false [vp m, vi sh, g.1, g.2.1]) * (ts 1 fp g.1 (g.2.2.map (·.1)) * ts 1 Lo g.2.1 (g.2.2.map (·.2))))
theorem n3 {ib m : Nat} {sh : Int} {nx : Int → Option Nat} {L : Nat} {R : SP} {H : AH} (h : ae (gG ib m sh nx L * R) H) :
 ∃ (kv nv : Value) (ns : List (Int × Nat)), ((∀ k, DV ns k = nx k) ∧ ns.length ≤ L) ∧ ae (blk ib (.cells false [vp m, vi sh, kv, nv]) * (ts 1 fp kv (ns.map (·.1)) * (ts 1 Lo nv (ns.map (·.2)) * R))) H := by
 obtain ⟨⟨kv, nv, ns⟩, h1⟩ := ae.ex.1 h;rw [aj, ae.pu] at h1;exact ⟨kv, nv, ns, h1.1, h1.2.to⟩
theorem iH {ib m : Nat} {sh : Int} {nx : Int → Option Nat} {L : Nat} {R : SP} {H : AH} {kv nv : Value} {ns : List (Int × Nat)} (hn : (∀ k, DV ns k = nx k) ∧ ns.length ≤ L)
 (h : ae (blk ib (.cells false [vp m, vi sh, kv, nv]) * (ts 1 fp kv (ns.map (·.1)) * (ts 1 Lo nv (ns.map (·.2)) * R))) H) : ae (gG ib m sh nx L * R) H := by
 refine ae.ex.2 ⟨(kv, nv, ns), ?_⟩;rw [aj, ae.pu];exact ⟨hn, h.to⟩
theorem mR {ib m : Nat} {sh : Int} {nx : Int → Option Nat} {L L' : Nat} {R : SP} {H : AH} (hL : L ≤ L') (h : ae (gG ib m sh nx L * R) H) : ae (gG ib m sh nx L' * R) H := by
 obtain ⟨g, h1⟩ := ae.ex.1 h;rw [aj, ae.pu] at h1;exact ae.ex.2 ⟨g, by rw [aj]; exact ae.pu.2 ⟨⟨h1.1.1, d8 h1.1.2 hL⟩, h1.2⟩⟩
structure XIds where
 m : Nat
 ib : Nat
 tb : Nat
 po : Nat
 co : Nat
 ov : Value
 rv : Value
 rp : List Nat
 wv : Value
 ws : List (Int × Int)
 pv : Value
def ar (x : Nat) (g : XIds) (σ : aY) : SP :=
 blk x (.cells false [vi σ.c.sh, vi σ.c.sl, vi σ.c.wk, vi σ.c.wd, vu σ.c.un, vp g.m, vp g.ib, vp g.tb, vp g.po, vp g.co, g.ov, g.rv, g.wv, g.pv]) *
 (bI g.m σ.μ * (gG g.ib g.m σ.c.sh σ.nx σ.μ.N * (tab g.tb g.m σ.c.sh.toNat σ.c.sl.toNat *
 (ts 3 sI g.ov (σ.obs.map fun x => x.1) * (ts 1 mL g.rv g.rp * (jr g.m 0 (g.rp.zip (σ.obs.map fun x => x.2)) * (ts 1 fp g.wv (fF g.ws) * ts 7 Pt.cells g.pv (bU σ.pts))))))))
def eK (g : XIds) (σ : aY) : Prop := g.rp.length = σ.obs.length ∧ (∀ k, gS g.ws k = (σ.places k).getD 0) ∧ g.ws.length ≤ σ.μ.N
def aI (x : Nat) (σ : aY) : SP := ex fun g : XIds => pu (eK g σ) * ar x g σ
theorem dP {p : Nat} {σ : aY} {R : SP} {H : AH} (h : ae (aI p σ * R) H) : ∃ g : XIds, eK g σ ∧ ae (ar p g σ * R) H := by
 obtain ⟨g, h1⟩ := ae.ex.1 h;rw [aj, ae.pu] at h1;exact ⟨g, h1⟩
theorem cH {p : Nat} {σ : aY} {R : SP} {H : AH} (g : XIds) (hl : eK g σ) (h : ae (ar p g σ * R) H) : ae (aI p σ * R) H :=
 ae.ex.2 ⟨g, by rw [aj]; exact ae.pu.2 ⟨hl, h⟩⟩
theorem HI (m : Nat) (c : iX) (hc : cJ c = true) : Sp mp [vp m, vi c.sh] emp (fun b : Nat => vp b) (fun b => blk b (.cells false [vp m, vi c.sh, .slice none 0 0, .slice none 0 0])) := by
 have hc := bF.1 hc;refine bn (zQ _ _) fun R H h => ?_;refine aa (kT) ?_;refine aa (kU) ?_;rw [show min (max c.sh 1) 4 = c.sh from by omega];refine iW ?_;refine be h fun b H3 h3 => ?_;exact ap ⟨b, rfl, h3.to⟩
theorem HK (m : Nat) (c : iX) (hc : cJ c = true) : Sp mr [vp m, vi c.sh, vi c.sl] emp (fun b : Nat => vp b) (fun b => tab b m c.sh.toNat c.sl.toNat) := by
 have hc := bF.1 hc;refine bn (zS _ _ _) fun R H h => ?_;refine aa (kT) ?_;refine aa (kU) ?_;refine aa (kT) ?_;refine aa (kU) ?_;rw [show min (max c.sh 1) 4 = ((c.sh.toNat : Nat) : Int) from by omega, show min (max c.sl 1) 4 = ((c.sl.toNat : Nat) : Int) from by omega];refine iW ?_;refine be h fun b H3 h3 => ?_;exact ap ⟨b, rfl, by unfold tab; exact h3.to⟩
theorem JT (m : Nat) (w : Int) : Sp nH [vp m, vi w] emp (fun b : Nat => vp b) (fun _ => emp) := by
 refine bn (CJ _ _) fun R H h => ?_;refine aa (kT) ?_;refine aa (kU) ?_;refine iW ?_;refine be h fun b H3 h3 => ?_;exact ap ⟨b, rfl, h3.to⟩
theorem Tp (w : Int) : Sp qI [vi w] emp (fun x : Int => vi x) (fun _ => emp) := by
 refine bn (HD _) fun R H h => ?_;refine aa (kT) ?_;refine aa (kU) ?_;exact ap ⟨_, rfl, h⟩
theorem HE (n w : Int) : Sp XM [vi n, vi w] emp (fun b : Nat => vp b) (fun _ => emp) := by
 refine bn (ae2 _ _) fun R H h => ?_;refine iW ?_;refine be h fun q H2 h2 => ?_;refine ah (Tx _ _ _ _ H2) ?_;refine ah (TA _ _ _ _ _ H2) ?_;obtain ⟨k, hk⟩ : ∃ k : Nat, min (max n 1) 16 = k := ⟨(min (max n 1) 16).toNat, by omega⟩
 have hk16 : k ≤ 16 := by omega
 have loop : ∀ (d i : Nat) (nv : Value) (m : List Nat) (H : AH), i + d = k → m.length = i → ae (blk q (.cells false [nv]) * ts 1 mL nv m * R) H → wp (HM (vi n) (vi w) (.pointer none) (vp q) (vi i) H) fun v' H' => ∃ b : Nat, v' = vp b ∧ ae (emp * R) H' := by
  intro d
  induction d with
  | zero =>
   intro i nv m H hi hm h;refine ah (E6 _ _ _ _ _ H) ?_;refine aa (kT) ?_;refine aa (kU) ?_;refine aa (bW (by omega)) ?_;refine gs ?_;refine ah (JW _ _ H) ?_;refine ah (Tz _ _ H) ?_;exact ap ⟨q, rfl, h.to⟩
  | succ d ih =>
   intro i nv m H hi hm h;refine ah (E6 _ _ _ _ _ H) ?_;refine aa (kT) ?_;refine aa (kU) ?_;refine aa (cP (by omega)) ?_;refine gs ?_;refine ah (TB _ _ _ _ _ H) ?_;refine bA ac ?_;refine aN h rfl ?_;refine af h (Tp w) fun x H3 h3 => ?_;refine aH h3 h rfl ?_;refine iW ?_;refine be h3 fun sb H3b h3b => ?_;refine KI h3b fun b0 H4 h4 => ?_;refine ig (sb : Nat) h4 rfl ?_ (by omega) fun a c H5 h5 => ?_
   ·unfold dc; omega
   refine bg h5 ac rfl rfl fun H6 h6 => ?_;refine ah (TC _ _ _ _ _ H6) ?_;refine aa (aR (by omega) (by omega)) ?_;exact ih (i + 1) (.slice a (m.length + 1) c) (m ++ [sb]) H6 (by omega) (by simp; omega) h6.to
 refine loop k 0 (.slice none 0 0) [] H2 (by omega) rfl ?_;have h3 := ee 1 mL h2;exact h3.to
theorem JS (c : iX) : Sp nG [.agg (iX.cells c).toArray] emp (fun b : Nat => vp b) (fun _ => emp) := by
 refine bn (CI _) fun R H h => ?_;refine be h fun cb H1 h1 => ?_;refine ai h1 aD rfl ?_;refine ai h1 aD rfl ?_;refine af h1 (HE c.sh c.wd) fun q H2 h2 => ?_;refine iW ?_;refine be h2 fun b H5 h5 => ?_;exact ap ⟨b, rfl, h5.to⟩
theorem XH {b : Nat} {R : SP} {H : AH} (h : ae (blk b (.cells false [.slice none 0 0, .slice none 0 0, .slice none 0 0]) * R) H) : ae (bI b ⟨fun _ => 0, [], 0⟩ * R) H := by
 refine ae.ex.2 ⟨[], ?_⟩;rw [aj, ae.pu];refine ⟨⟨fun _ => rfl, bJ _⟩, ae.ex.2 ⟨(.slice none 0 0, .slice none 0 0, .slice none 0 0), ?_⟩⟩;have h1 := ee 3 FW (ee 1 I3 (ee 5 Ev.cells h));exact h1.to
theorem HJ (c : iX) (hc : cJ c = true) : Sp mq [.agg (iX.cells c).toArray] emp (fun b : Nat => vp b) (fun b => aI b (aY.new c)) := by
 refine bn (zR _) fun R H h => ?_;refine be h fun cb H1 h1 => ?_;refine iW ?_;refine be h1 fun m H2 h2 => ?_;refine aW h2 ?_;refine ai h2 aD rfl ?_;refine af h2 (HI m c hc) fun ib H3 h3 => ?_;refine dQ h3 h2 rfl ?_;refine bA aD ?_;refine aN h3 rfl ?_;refine aH h2 h3 rfl ?_;refine bA aD ?_;refine aN h3 rfl ?_;refine aH h2 h3 rfl ?_;refine af h3 (HK m c hc) fun tb H4 h4 => ?_;refine dQ h4 h2 rfl ?_;refine bA aD ?_;refine aN h4 rfl ?_;refine aH h2 h4 rfl ?_;refine aH h3 h4 rfl ?_;refine af h4 (JT m c.wk) fun pb H5 h5 => ?_;refine dQ h5 h2 rfl ?_;refine aW h5 ?_;refine dQ h2 h5 rfl ?_;refine dQ h3 h5 rfl ?_;refine dQ h4 h5 rfl ?_;refine af h5 (JS c) fun kb H6 h6 => ?_;refine dQ h6 h2 rfl ?_;refine iW ?_;refine be h6 fun b H7 h7 => ?_;refine ap ⟨b, rfl, ?_⟩;refine cH ⟨m, ib, tb, pb, kb, .slice none 0 0, .slice none 0 0, [], .slice none 0 0, [], .slice none 0 0⟩ ⟨rfl, fun _ => rfl, bJ _⟩ ?_;have h8 := XH (b := m) (R := blk b (.cells false [vi c.sh, vi c.sl, vi c.wk, vi c.wd, vu c.un, vp m, vp ib, vp tb, vp pb, vp kb, .slice none 0 0, .slice none 0 0, .slice none 0 0, .slice none 0 0]) * (tab tb m c.sh.toNat c.sl.toNat * (blk ib (.cells false [vp m, vi c.sh, .slice none 0 0, .slice none 0 0]) * R))) (ae.to h7);have h8a := ee 1 fp (ee 1 Lo h8);have h8b := iH (ib := ib) (m := m) (sh := c.sh) (nx := fun _ => none) (L := 0) (kv := .slice none 0 0) (nv := .slice none 0 0) (ns := []) (R := bI m ⟨fun _ => 0, [], 0⟩ * (blk b (.cells false [vi c.sh, vi c.sl, vi c.wk, vi c.wd, vu c.un, vp m, vp ib, vp tb, vp pb, vp kb, .slice none 0 0, .slice none 0 0, .slice none 0 0, .slice none 0 0]) * (tab tb m c.sh.toNat c.sl.toNat * R))) (H := H7) ⟨fun _ => rfl, bJ _⟩ (show ae (blk ib (.cells false [vp m, vi c.sh, .slice none 0 0, .slice none 0 0]) * (ts 1 fp (.slice none 0 0) [] * (ts 1 Lo (.slice none 0 0) [] * (bI m ⟨fun _ => 0, [], 0⟩ * (blk b (.cells false [vi c.sh, vi c.sl, vi c.wk, vi c.wd, vu c.un, vp m, vp ib, vp tb, vp pb, vp kb, .slice none 0 0, .slice none 0 0, .slice none 0 0, .slice none 0 0]) * (tab tb m c.sh.toNat c.sl.toNat * R)))))) H7 from h8a.to);have h9 := ee 3 sI (ee 1 mL (ee 1 fp (ee 7 Pt.cells h8b)));unfold ar
 show ae (blk b (.cells false [vi c.sh, vi c.sl, vi c.wk, vi c.wd, vu c.un, vp m, vp ib, vp tb, vp pb, vp kb, .slice none 0 0, .slice none 0 0, .slice none 0 0, .slice none 0 0]) * (bI m ⟨fun _ => 0, [], 0⟩ * (gG ib m c.sh (fun _ => none) 0 * (tab tb m c.sh.toNat c.sl.toNat *
  (ts 3 sI (.slice none 0 0) [] * (ts 1 mL (.slice none 0 0) [] * (emp * (ts 1 fp (.slice none 0 0) [] * ts 7 Pt.cells (.slice none 0 0) [])))))))  * R) H7
 exact h9.to
theorem Hy {cl : TCls} {a b : Int} (h : b ≠ 0) (h0 : -9223372036854775808 ≤ a.tdiv b) (h1 : a.tdiv b < 9223372036854775808) : ak cl .quo (vi a) (vi b) = some (vi (a.tdiv b)) := by
 simp only [ak, mH, if_true];rw [if_neg h, oA h0 h1]
theorem vq {m : Nat} {V : cZ → Nat} {E : List Ev} {N N' : Nat} {R : SP} {H : AH} (hN : N ≤ N') (h : ae (bI m ⟨V, E, N⟩ * R) H) : ae (bI m ⟨V, E, N'⟩ * R) H := by
 obtain ⟨al, h1⟩ := ae.ex.1 h;rw [aj, ae.pu] at h1;exact ae.ex.2 ⟨al, by rw [aj]; exact ae.pu.2 ⟨⟨h1.1.1, d8 h1.1.2 hN⟩, h1.2⟩⟩
def dG (flow : Int) (obj : Nat) : Nat := (flow + 1).toNat * 4294967296 + obj
section
variable (t m : Nat) (sh sl : Nat) (μ : Mu) (who s i flow : Int) (obj : Nat)
theorem Fv (hE : μ.N < 1099511627000) (hf : 0 ≤ flow ∧ flow ≤ 1048576) (ho : obj < 4294967296) :
 Sp gf [vp t, vi who, vi s, vi i, vi flow, vi obj] (tab t m sh sl * bD m μ) (fun _ : Unit => vb true) (fun _ => tab t m sh sl * bD m ((μ.acc who 2 (10, s, i)).put (10, s, i) (dG flow obj))) := by
 refine bn (ub _ _ _ _ _ _) fun R H h => ?_;unfold tab at h ⊢;refine aa (bW (by omega)) ?_;refine gs ?_;refine aa (g6 ?_) ?_
 ·omega
 refine gs ?_;refine aa (bW ?_) ?_
 ·omega
 refine gs ?_;refine aa (mf ?_) ?_
 ·omega
 refine gs ?_;refine bA ac ?_;refine aN h rfl ?_;refine af h (ud s i) fun _ H1 h1 => ?_;refine aH h1 h rfl ?_;refine aa (aR (by omega) (by omega)) ?_;refine aa (d5 (by omega) (by omega)) ?_
 have hn : (flow + 1).toNat ≤ 1048577 := by omega
 have e1 : ak .other .shl (vu (flow + 1).toNat) (vw 32) = some (vu ((flow + 1).toNat * 4294967296)) := by
  have := Ej (cl := .other) (a := (flow + 1).toNat) (k := .u64) (n := 32) (by omega);simp only [Nat.reducePow] at this;rw [Nat.mod_eq_of_lt (by omega)] at this;exact this
 refine aa (e1) ?_;refine aa (d5 (by omega) (by omega)) ?_;rw [show ((obj : Nat) : Int).toNat = obj from u4 obj]
 have e2 : ak .other .or (vu ((flow + 1).toNat * 4294967296)) (vu obj) = some (vu (dG flow obj)) := by
  rw [UX (by omega) (by omega)]
  congr 3
  have := Nat.two_pow_add_eq_or_of_lt (i := 32) (b := obj) (by simp only [Nat.reducePow]; omega) (flow + 1).toNat;simp only [Nat.reducePow] at this;rw [dG, Nat.mul_comm, ← this]
 refine aa (e2) ?_;refine af h1 (AG m μ who (10, s, i) (dG flow obj) (by omega)) fun _ H2 h2 => ?_;exact ap ⟨(), rfl, h2.to⟩
theorem P7 (hE : μ.N < 1099511627000) (hf : 0 ≤ flow ∧ flow ≤ 1048576) (ho : obj < 4294967296) :
 Sp iB [vp t, vi who, vi s, vi i, vi flow, vi obj] (tab t m sh sl * bI m μ) (fun _ : Unit => vb true) (fun _ => tab t m sh sl * bI m ((μ.acc who 2 (10, s, i)).put (10, s, i) (dG flow obj))) := by
 refine bn (xK _ _ _ _ _ _) fun R H h => ?_;unfold tab at h ⊢;refine aa (bW (by omega)) ?_;refine gs ?_;refine aa (g6 ?_) ?_
 ·omega
 refine gs ?_;refine aa (bW ?_) ?_
 ·omega
 refine gs ?_;refine aa (d5 (by omega) (by omega)) ?_;rw [show ((obj : Nat) : Int).toNat = obj from u4 obj];refine gs ?_;refine aa (mf ?_) ?_
 ·omega
 refine gs ?_;refine bA ac ?_;refine aN h rfl ?_;refine af h (dz 10 s i) fun _ H1 h1 => ?_;refine aH h1 h rfl ?_;refine aa (aR (by omega) (by omega)) ?_;refine aa (d5 (by omega) (by omega)) ?_
 have hn : (flow + 1).toNat ≤ 1048577 := by omega
 refine aa (agJ) ?_;rw [Nat.mod_eq_of_lt (by omega)];refine aa (d5 (by omega) (by omega)) ?_;rw [show ((obj : Nat) : Int).toNat = obj from u4 obj];refine aa (f3 (by omega)) ?_;refine af h1 (sa m μ who (10, s, i) (dG flow obj) (by omega)) fun _ H2 h2 => ?_;exact ap ⟨(), rfl, h2.to⟩
end
section
variable (p : Nat) (σ : aY)
theorem TQ (m i : Nat) (most : Int) : Sp nI [vp m, vi i, vi most] emp (fun b : Nat => vp b) (fun b => cW m i b (List.replicate (eb most) It)) := by
 obtain ⟨q1, q2, q3⟩ := rZ most;refine bn (CM _ _ _) fun R H h => ?_;refine aa (kT) ?_;refine aa (kU) ?_;rw [← q3];refine Ii (enc := Pk.cells) It h rfl (by unfold dc; omega) (by omega) fun cb H1 h1 => ?_;refine iW ?_;refine be h1 fun b H2 h2 => ?_;refine ap ⟨b, rfl, ?_⟩;unfold cW;refine ae.ex.2 ⟨vs cb (eb most) 3, ?_⟩;rw [List.length_replicate];exact h2.to
theorem adG (who : Int) (o : Ob) (hE : σ.μ.N < 1099511627000) (ho : σ.obs.length < 1000000) : Sp gN [vp p, vi who, .agg [vi o.flow, vi o.most, vu o.r].toArray] (aI p σ) (fun _ : Unit => vi σ.obs.length) (fun _ => aI p (σ.make who o)) := by
 refine aJ fun R H h => ?_;obtain ⟨g, ⟨hg, hg2⟩, h0⟩ := dP h;unfold ar at h0;refine bm (fun r => vT _ _ _ H) ?_;refine be (l := [vi o.flow, vi o.most, vu o.r]) h0 fun ob H1 h1 => ?_;refine ai h1 ac rfl ?_;refine rn (s := g.ov) h1 ?_;rw [sn];refine bA ac ?_;refine aN h1 rfl ?_;refine af h1 (dz 13 σ.obs.length 0) fun _ H2 h2 => ?_;refine aH h2 h1 rfl ?_;refine af h2 ((Uv g.m σ.μ who 6 (13, σ.obs.length, 0) (by omega)).imp fun _ R H h => vq (N' := σ.μ.N + 2) (by simp) h) fun _ H3 h3 => ?_;refine ai h3 ac rfl ?_;refine aW h3 ?_;refine KI h3 fun b0 H4 h4 => ?_;refine ig (o : Ob) h4 rfl ?_ (by omega) fun a cc H5 h5 => ?_
 ·unfold dc; simp only [sn]; omega
 refine bA ac ?_;refine aN h5 rfl ?_;refine aH h4 h5 rfl ?_;refine bA ac ?_;refine aN h5 rfl ?_;refine aH h4 h5 rfl ?_;refine bA aD ?_;refine aN h5 rfl ?_;refine aH h4 h5 rfl ?_;refine af h5 (TQ g.m σ.obs.length o.most) fun rb H6 h6 => ?_;refine aH h6 h5 rfl ?_;refine KI h6 fun b1 H7 h7 => ?_;refine ig (rb : Nat) h7 rfl ?_ (by omega) fun a2 c2 H8 h8 => ?_
 ·unfold dc; omega
 refine bg h8 ac rfl rfl fun H9 h9 => ?_;refine bg h9 ac rfl rfl fun H10 h10 => ?_;refine ap ⟨(), rfl, ?_⟩;refine cH { g with ov := .slice a ((σ.obs.map fun x => x.1).length + 1) cc, rv := .slice a2 (g.rp.length + 1) c2, rp := g.rp ++ [rb] } ⟨by simp [aY.make, hg], hg2.1, d8 hg2.2 (by simp [aY.make])⟩ ?_;unfold ar aY.make;dsimp only
 have e2 : (g.rp ++ [rb]).zip ((σ.obs ++ [(o, List.replicate (eb o.most) It)]).map fun x => x.2) = (g.rp.zip (σ.obs.map fun x => x.2)) ++ [(rb, List.replicate (eb o.most) It)] := by
  rw [Hc, List.zip_append (by simp [hg])]
  rfl
 have e1 : (σ.obs ++ [(o, List.replicate (eb o.most) It)]).map (fun x => x.1) = (σ.obs.map fun x => x.1) ++ [o] := by rw [Hc]; rfl
 have e3 : 0 + (g.rp.zip (σ.obs.map fun x => x.2)).length = σ.obs.length := by simp [hg]
 rw [e1, e2, J3, e3];dsimp only;have h11 := mR (L' := σ.μ.N + 2) (by omega) (ae.fr (A := gG g.ib g.m σ.c.sh σ.nx σ.μ.N) h10);exact h11.to
theorem yI (u : Nat) (w : Int) (hu : 1 ≤ u ∧ u ≤ 4611686018427387904) (hw : 1 ≤ w ∧ w ≤ 65536) : Sp j4 [vu u, vi w] emp (fun _ : Unit => .tuple #[vu (max (u / w.toNat) 1), vb true]) (fun _ => emp) := by
 refine bn (CE _ _) fun R H h => ?_;refine aa (bW (by omega)) ?_;refine gs ?_;refine aa (g6 ?_) ?_
 ·omega
 refine gs ?_;refine aa (bW ?_) ?_
 ·omega
 refine gs ?_;refine aa (g6 ?_) ?_
 ·omega
 refine gs ?_;refine aa (d5 (by omega) (by omega)) ?_;refine aa (wJ (by omega) (by omega)) ?_;refine aa (adH (b := 1)) ?_;exact ap ⟨(), rfl, h.to⟩
abbrev aY.lay (σ : aY) (f w most : Int) : aY :=
 { σ.make 0 ⟨f, most, max (σ.c.un / w.toNat) 1⟩ with
  μ := ((σ.make 0 ⟨f, most, max (σ.c.un / w.toNat) 1⟩).μ.acc 0 2 (10, f.tmod σ.c.sh, f.tdiv σ.c.sh)).put (10, f.tmod σ.c.sh, f.tdiv σ.c.sh) (dG f σ.obs.length) }
theorem abC (x : Nat) (f w most : Int) (hc : cJ σ.c = true) (hE : σ.μ.N < 1099511620000) (ho : σ.obs.length < 1000000) (hf : 0 ≤ f ∧ f ≤ 1048576) (hw : 1 ≤ w ∧ w ≤ 65536) :
 Sp mj [.agg [vp p, vp x].toArray, vi f, vi w, vi most] (f7 p σ * aI x σ) (fun _ : Unit => vb true) (fun _ => f7 p (σ.lay f w most) * aI x (σ.lay f w most)) := by
 have hr := bF.1 hc;have q0 : 0 ≤ f.tdiv σ.c.sh := Int.tdiv_nonneg hf.1 (by omega);have q1 : f.tdiv σ.c.sh ≤ f := Int.tdiv_le_self _ hf.1;refine bn (zg _ _ _ _) fun R H h => ?_;refine be (l := [vp p, vp x]) h fun b H1 h1 => ?_;refine ai h1 aD rfl ?_;obtain ⟨g, hg, k1⟩ := dP (p := x) (σ := σ) (R := blk b (.cells false [vp p, vp x]) * (f7 p σ * R)) (H := H1) h1.to;unfold ar at k1;refine QD k1 ac ?_;refine bp h1 fun b2 H2 h2 => ?_;refine eW h2 rfl rfl fun H3 h3 => ?_;refine ai h3 aD rfl ?_;refine af h3 (yI σ.c.un w ⟨by omega, by omega⟩ hw) fun _ H4 h4 => ?_;refine aa (v := vu (max (σ.c.un / w.toNat) 1)) rfl ?_;refine aa (v := vb true) rfl ?_;refine iW ?_;refine bp h4 fun b3 H5 h5 => ?_;refine eW h5 rfl rfl fun H6 h6 => ?_;refine ai h6 aD rfl ?_;refine aW h6 ?_;refine af h6 (MA p σ 0 ⟨f, most, max (σ.c.un / w.toNat) 1⟩ (by omega) ho) fun _ H7 h7 => ?_;refine bA aD ?_;refine aN h7 rfl ?_;refine aH h6 h7 rfl ?_;refine aW h7 ?_;refine dQ h6 h7 rfl ?_;refine af h7 (adG x σ 0 ⟨f, most, max (σ.c.un / w.toNat) 1⟩ (by omega) ho) fun _ H8 h8 => ?_;refine aa (ba rfl) ?_;refine gs ?_;refine ai h8 aD rfl ?_;obtain ⟨gp, hgp, k8⟩ := nb (p := p) (σ := σ.make 0 ⟨f, most, max (σ.c.un / w.toNat) 1⟩) (R := blk b (.cells false [vp p, vp x]) * (blk b2 (.cells false (iX.cells σ.c)) * (aI x (σ.make 0 ⟨f, most, max (σ.c.un / w.toNat) 1⟩) * R))) (H := H8) h8.to;unfold az at k8;refine gs ?_;refine ai k8 ac rfl ?_;refine gs ?_;refine ai k8 aD rfl ?_;refine gs ?_;refine aa (jV (by omega)) ?_;refine gs ?_;refine ai k8 aD rfl ?_;refine gs ?_;refine aa (Hy (by omega) (by omega) (by omega)) ?_;refine gs ?_;refine af k8 (Fv gp.tb gp.m σ.c.sh.toNat σ.c.sl.toNat (σ.make 0 ⟨f, most, max (σ.c.un / w.toNat) 1⟩).μ 0 (f.tmod σ.c.sh) (f.tdiv σ.c.sh) f σ.obs.length (by simp [aY.make]; omega) hf (by omega)) fun _ H9 k9 => ?_
 have h9 : ae (f7 p (σ.lay f w most) * (blk b (.cells false [vp p, vp x]) * (blk b2 (.cells false (iX.cells σ.c)) * (aI x (σ.make 0 ⟨f, most, max (σ.c.un / w.toNat) 1⟩) * R)))) H9 := by
  refine oY gp hgp ?_;unfold az;exact k9.to
 refine gs ?_;refine ai h9 aD rfl ?_;obtain ⟨gx, hgx, l9⟩ := dP (p := x) (σ := σ.make 0 ⟨f, most, max (σ.c.un / w.toNat) 1⟩) (R := blk b (.cells false [vp p, vp x]) * (blk b2 (.cells false (iX.cells σ.c)) * (f7 p (σ.lay f w most) * R))) (H := H9) h9.to;unfold ar at l9;refine gs ?_;refine ai l9 ac rfl ?_;refine gs ?_;refine ai l9 aD rfl ?_;refine gs ?_;refine aa (jV (by omega)) ?_;refine gs ?_;refine ai l9 aD rfl ?_;refine gs ?_;refine aa (Hy (by omega) (by omega) (by omega)) ?_;refine gs ?_;refine af l9 (P7 gx.tb gx.m σ.c.sh.toNat σ.c.sl.toNat (σ.make 0 ⟨f, most, max (σ.c.un / w.toNat) 1⟩).μ 0 (f.tmod σ.c.sh) (f.tdiv σ.c.sh) f σ.obs.length (by simp [aY.make]; omega) hf (by omega)) fun _ H10 l10 => ?_
 have h10 : ae (aI x (σ.lay f w most) * (blk b (.cells false [vp p, vp x]) * (blk b2 (.cells false (iX.cells σ.c)) * (f7 p (σ.lay f w most) * R)))) H10 := by
  refine cH gx ⟨hgx.1, hgx.2.1, d8 hgx.2.2 (by simp [aY.lay, aY.make])⟩ ?_;unfold ar;have l11 := mR (L' := σ.μ.N + 2 + 2) (by omega) (ae.fr (A := gG gx.ib gx.m σ.c.sh σ.nx (σ.μ.N + 2)) l10);exact l11.to
 refine gs ?_;exact ap ⟨(), rfl, h10.to⟩
end
def aY.made (c : iX) : Nat → aY
 | 0 => aY.new c
 | f + 1 => if (f : Int).tdiv c.sh < c.sl then (aY.made c f).lay f (1 + f) (2 + (f : Int).tmod 2) else aY.made c f
theorem XB (c : iX) : ∀ n, (aY.made c n).c = c ∧ (aY.made c n).μ.N ≤ 4 * n ∧ (aY.made c n).obs.length ≤ n := by
 intro n
 induction n with
 | zero => exact ⟨rfl, bJ _, bJ _⟩
 | succ n ih =>
  obtain ⟨h1, h2, h3⟩ := ih;unfold aY.made
  split
  ·refine ⟨h1, ?_, ?_⟩
   ·simp [aY.lay, aY.make]; omega
   ·simp [aY.lay, aY.make]; omega
  ·exact ⟨h1, by omega, by omega⟩
theorem tJ (b : Nat) : ak .ptr .eql (vp b) (.pointer none) = some (vb false) := rfl
theorem Xu (c0 : iX) (n : Nat) (hn : n ≤ 16) : Sp tx [.agg (iX.cells c0).toArray, vi n] emp (fun g : Nat × Nat × iX => .tuple #[.agg [vp g.1, vp g.2.1].toArray, vb true])
 (fun g => pu (cJ g.2.2 = true) * (f7 g.1 (aY.made g.2.2 n) * aI g.2.1 (aY.made g.2.2 n))) := by
 refine bn (Jt _ _) fun R H h => ?_;refine be h fun b H1 h1 => ?_;refine bp h1 fun b2 H2 h2 => ?_;refine aW h2 ?_;refine af h2 (JM c0) fun c H3 h3 => ?_;rw [ae.pu] at h3;obtain ⟨hc, h3⟩ := h3;refine eW h3 rfl rfl fun H4 h4 => ?_;refine aW h4 ?_;refine af h4 (MB c hc) fun p H5 h5 => ?_;refine aa (v := vp p) rfl ?_;refine aa (v := vi 0) rfl ?_;refine aa (sR rfl) ?_;refine gs ?_;refine aa (tJ _) ?_;refine gs ?_;obtain ⟨g, hg, k5⟩ := nb (p := p) (σ := aY.new c) (R := blk b2 (.cells false [.pointer none, .pointer none]) * (blk b (.cells false (iX.cells c)) * R)) (H := H5) h5.to;unfold az at k5;refine ai k5 ac rfl ?_;refine gs ?_;refine aa (tJ _) ?_;refine gs ?_;refine ai k5 ac rfl ?_;refine gs ?_;refine aa (tJ _) ?_;refine gs ?_;refine ai k5 ac rfl ?_;refine gs ?_;refine aa (tJ _) ?_;refine gs ?_;refine ai k5 ac rfl ?_;refine gs ?_;refine aa (tJ _) ?_;refine gs ?_;refine ai k5 ac rfl ?_;refine gs ?_;refine aa (tJ _) ?_;refine gs ?_;refine aW h5 ?_;refine af h5 (HJ c hc) fun x H6 h6 => ?_;refine iW ?_;refine bp h6 fun b3 H7 h7 => ?_;refine eW h7 rfl rfl fun H8 h8 => ?_;refine ah (Cf _ _ _ _ _ H8) ?_;refine ah (Ch _ _ _ _ _ _ H8) ?_;have hr := bF.1 hc;have loop : ∀ (d i : Nat) (H : AH), i + d = n → ae (blk b3 (.cells false [vp p, vp x]) * (blk b2 (.cells false [.pointer none, .pointer none]) * (blk b (.cells false (iX.cells c)) * (f7 p (aY.made c i) * (aI x (aY.made c i) * R))))) H →
  wp (mS (vi n) (vp b) (vp b2) (vb false) (vp b3) (vi i) H) fun v' H' => ∃ g : Nat × Nat × iX, v' = .tuple #[.agg [vp g.1, vp g.2.1].toArray, vb true] ∧ ae (pu (cJ g.2.2 = true) * (f7 g.1 (aY.made g.2.2 n) * aI g.2.1 (aY.made g.2.2 n)) * R) H' := by
  intro d
  induction d with
  | zero =>
   intro i H hi h;refine ah (qu _ _ _ _ _ _ H) ?_;refine aa (bW (by omega)) ?_;refine gs ?_;refine ah (w9 _ _ _ H) ?_;refine ah (Cg _ _ _ H) ?_;refine aW h ?_;refine eW h rfl rfl fun H2 h2 => ?_;refine aW h2 ?_;refine ap ⟨(p, x, c), rfl, ?_⟩;rw [aj, ae.pu]
   have e : i = n := by omega
   subst e;exact ⟨hc, h2.to⟩
  | succ d ih =>
   intro i H hi h;obtain ⟨m1, m2, m3⟩ := XB c i;have q0 : 0 ≤ (i : Int).tdiv c.sh := Int.tdiv_nonneg (by omega) (by omega);have q1 : (i : Int).tdiv c.sh ≤ i := Int.tdiv_le_self _ (by omega);have t0 : 0 ≤ (i : Int).tmod 2 := Int.tmod_nonneg _ (by omega);have t1 : (i : Int).tmod 2 < 2 := Int.tmod_lt_of_pos _ (by omega);have next : ∀ {H : AH}, ae (blk b3 (.cells false [vp p, vp x]) * (blk b2 (.cells false [.pointer none, .pointer none]) * (blk b (.cells false (iX.cells c)) * (f7 p (aY.made c (i + 1)) * (aI x (aY.made c (i + 1)) * R))))) H →
    wp (qv (vi n) (vp b) (vp b2) (vb false) (vp b3) (vi i) H) fun v' H' => ∃ g : Nat × Nat × iX, v' = .tuple #[.agg [vp g.1, vp g.2.1].toArray, vb true] ∧ ae (pu (cJ g.2.2 = true) * (f7 g.1 (aY.made g.2.2 n) * aI g.2.1 (aY.made g.2.2 n)) * R) H' := by
    intro H h;refine ah (Cj _ _ _ _ _ _ H) ?_;refine aa (aR (by omega) (by omega)) ?_;exact ih (i + 1) H (by omega) h
   refine ah (qu _ _ _ _ _ _ H) ?_;refine aa (cP (by omega)) ?_;refine gs ?_;refine ah (Ci _ _ _ _ _ _ H) ?_;refine ai h aD rfl ?_;refine aa (Hy (by omega) (by omega) (by omega)) ?_;refine ai h aD rfl ?_
   by_cases hf : (i : Int).tdiv c.sh < c.sl
   ·have e : aY.made c (i + 1) = (aY.made c i).lay i (1 + i) (2 + (i : Int).tmod 2) := by show (if _ then _ else _) = _; rw [if_pos hf]
    rw [e] at next;refine aa (cP hf) ?_;refine gs ?_;refine aW h ?_;refine gs ?_;refine aa (aR (by omega) (by omega)) ?_;refine gs ?_;refine aa (jV (by omega)) ?_;refine gs ?_;refine aa (aR (by omega) (by omega)) ?_;refine gs ?_;refine af h (abC p (aY.made c i) x i (1 + i) (2 + (i : Int).tmod 2) (by rw [m1]; exact hc) (by omega) (by omega) (by omega) (by omega)) fun _ H2 h2 => ?_;refine gs ?_;rw [Bool.not_true];refine gs ?_;exact next h2.to
   ·have e : aY.made c (i + 1) = aY.made c i := by show (if _ then _ else _) = _; rw [if_neg hf]
    rw [e] at next;refine aa (bW hf) ?_;refine gs ?_;exact next h
 exact loop n 0 H8 (by omega) (show ae (blk b3 (.cells false [vp p, vp x]) * (blk b2 (.cells false [.pointer none, .pointer none]) * (blk b (.cells false (iX.cells c)) * (f7 p (aY.new c) * (aI x (aY.new c) * R))))) H8 from h8.to)
end Go.Proofs.YtflbeghglllknaaGreatDoor.Gst
