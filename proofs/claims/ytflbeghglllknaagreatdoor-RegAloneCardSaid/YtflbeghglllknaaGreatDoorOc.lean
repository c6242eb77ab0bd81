/- Several texts in one. -/
import Derived.Test.YtflbeghglllknaaGreatDoorOb
namespace Go.Proofs.YtflbeghglllknaaGreatDoor.Gst
open Go Go.RowKit
set_option maxRecDepth 100000
set_option linter.unusedVariables false
set_option maxHeartbeats 1000000
set_option linter.unusedSimpArgs false
section
variable (x0 x1 x2 x3 x4 x5 x6 x7 x8 x9 x10 x14 x15 x17 x19 x30 : Value) (H : AH)
noncomputable def nL (p : List Nat) : Code := Code.sub (bM Tryz.f110) p
noncomputable def nM : KK := dP PP (Tryz.f110).results.toList
noncomputable def Sz : KK := CQ (nL [1, 1]) nM bA nM
noncomputable def kS : OV := Sz (ls [x0, x1, x2, u, u, u, x6, x7] 128) H
noncomputable def Iv : KK := CQ (nL [1, 1, 1]) nM bA nM
noncomputable def vz : KK := en Gj Iv
noncomputable def cF : OV := Iv (ls [u, u, u, u, u, u, x6] 129) H
noncomputable def SA : KK := CQ (nL [1, 1, 0, 1]) vz bA nM
noncomputable def gN : OV := SA (ls [x0, x1, x2, u, u, u, x6, x7, u, u, u, u, u, u, u, u, u, u, u, x19] 116) H
noncomputable def SD : KX := BX 0 vz bA
noncomputable def Iw : KX := qz Gj SD
noncomputable def SB : KK := CQ (nL [1, 1, 0, 1, 4, 1]) vz Iw nM
noncomputable def kT : OV := SB (ls [x0, x1, x2, u, u, u, x6, x7, u, u, u, u, u, u, u, u, u, u, u, x19, u, u, u, u, u, u, u, u, u, u, x30] 105) H
noncomputable def SC : KK := CQ (nL [1, 1, 0, 1, 4, 1, 2, 1]) vz Iw nM
noncomputable def kU : OV := SC (ls [x0, x1, u, u, u, u, x6, u, x8, x9] 126) H
noncomputable def aj3 : KX := BX 1 vz Iw
theorem mm : ar Gj nM := rf
theorem Wo : ar 87112285931760246646623899502532662132536 Sz := rc mm aB mm
theorem lS : ar Gj Iv := rc mm aB mm
theorem Wp : ar 87112285931760246646623899502532661608248 SA := rc (cd lS) aB mm
theorem sJ : ∀ i, ar Gj (SD i) := rb (cd lS) aB
theorem Wq : ar 87112285931760246646623899502531587866424 SB := rc (cd lS) (cx sJ) mm
theorem Wr : ar 87112285931760246646623899502532662131900 SC := rc (cd lS) (cx sJ) mm
theorem Ws : ∀ i, ar Gj (aj3 i) := rb (cd lS) (cx sJ)
theorem cB : cF x6 H =
 some ((vb false), H) :=
 (by kernel_rfl)
theorem oU : kU x0 x1 x6 x8 x9 H =
 av x8
 ((FF bJ [x0, x1, (vi 6)] H).bind fun a =>
 st 1 [.n, .f 6] x0 (vi 6) a.2 fun b =>
 cF x6 b)
 ((gV x9 true x0).bind fun c =>
 gk x9 true  [.n, .f 8] c H fun d =>
 (gB x9 true (ai .other .lss d (vi 0))).bind fun e =>
 (bd x9 e (vb false)).bind fun g =>
 av g
 ((FF bJ [x0, x1, (vi 7)] H).bind fun i =>
 st 1 [.n, .f 6] x0 (vi 6) i.2 fun j =>
 cF x6 j)
 (av x9
 (st 1 [.n, .f 6] x0 (vi 4) H fun k =>
 cF x6 k)
 (cF x6 H))) :=
 (bt rfl (nL [1, 1, 0, 1, 4, 1, 2, 1, 4]) 1 Ws (by kernel_rfl))
theorem dG : kT x0 x1 x2 x6 x7 x19 x30 H =
 av x30
 ((FF Ej [x0] H).bind fun b =>
 (ag b.1 0).bind fun d =>
 (ag b.1 1).bind fun e =>
 kU x0 x1 x6 d e b.2)
 ((ai .other .eql x19 (vi 4)).bind fun g =>
 av g
 (ld [.n, .f 0, .f 4] x7 H fun i =>
 ld [.n, .f 2, .f 2] x0 H fun j =>
 (FF ks [i, j] H).bind fun a =>
 (ag a.1 0).bind fun k =>
 (ag a.1 1).bind fun K =>
 ld [.n, .f 1] x0 a.2 fun l =>
 ld [.n, .f 2, .f 1] x0 a.2 fun m =>
 ld [.n, .f 2, .f 3] x0 a.2 fun o =>
 ic [(0, 1), (1, 1), (2, 1)] [(vi 0), (vi 0), (vw 0)] [(0, m), (1, o), (2, k)] fun p =>
 (FF gX [x7, l, p] a.2).bind fun c =>
 st 1 [.n, .f 10] x0 c.1 c.2 fun q =>
 st 1 [.n, .f 6] x0 (vi 5) q fun s =>
 cF x6 s)
 ((ai .other .eql x19 (vi 5)).bind fun t =>
 av t
 (ld [.n, .f 7] x7 H fun w =>
 ld [.n, .f 1] x0 H fun y =>
 ld [.n, .f 8] x0 H fun z =>
 ld [.n, .f 2, .f 1] x0 H fun A =>
 ld [.n, .f 10] x0 H fun B =>
 (FF iM [w, y, x2, z, A, B] H).bind fun C =>
 (FF bJ [x0, x1, (vi 0)] C.2).bind fun D =>
 st 1 [.n, .f 6] x0 (vi 6) D.2 fun E =>
 cF x6 E)
 (ld [.n, .f 7] x7 H fun G =>
 ld [.n, .f 1] x0 H fun I =>
 (FF eb [G, I, x2] H).bind fun J =>
 some ((vb true), J.2)))) :=
 (ct rfl (nL [1, 1, 0, 1, 4, 1, 2]) (nL [1, 1, 0, 1, 4, 1, 3]) (.tmp 30) (pt rfl 0 Wr (by kernel_rfl)) (by kernel_rfl))
theorem dF : gN x0 x1 x2 x6 x7 x19 H =
 (ai .other .eql x19 (vi 3)).bind fun a =>
 kT x0 x1 x2 x6 x7 x19 a H :=
 (bt rfl (nL [1, 1, 0, 1, 4]) 0 sJ (pt rfl 0 Wq (by kernel_rfl)))
theorem oT : kS x0 x1 x2 x6 x7 H =
 ld [.n, .f 6] x0 H fun a =>
 gN x0 x1 x2 x6 x7 a H :=
 (pt rfl 0 lS (pt rfl 0 Wp (by kernel_rfl)))
noncomputable def wR : OV := bf PP GG FF (nL []) (ls [x0, x1, x2] 133) H nM bA nM
theorem rW {r : Value × AH} (h : (
 ld [.n, .f 0] x0 H fun a =>
 kS x0 x1 x2 (vb false) a H) = some r) : FF lx [x0, x1, x2] H = some r :=
 fo (t := wR x0 x1 x2 H) Tryz.func110 (by kernel_rfl) (Eq.trans (pt rfl 1 Wo (by kernel_rfl)) h)
noncomputable def CB (p : List Nat) : Code := Code.sub (bM Tryz.f111) p
noncomputable def qN : KK := dP PP (Tryz.f111).results.toList
noncomputable def SF : KK := CQ (CB [1, 1]) qN bA qN
noncomputable def oV : OV := SF (ls [x0, x1, x2, u, u, u, x6, x7] 153) H
noncomputable def Ix : KK := CQ (CB [1, 1, 1]) qN bA qN
noncomputable def SE : KK := en RV Ix
noncomputable def bz : OV := Ix (ls [u, u, u, u, u, u, x6] 154) H
noncomputable def SG : KK := CQ (CB [1, 1, 0, 1]) SE bA qN
noncomputable def kf : OV := SG (ls [x0, x1, x2, u, u, u, x6, x7, u, u, u, u, u, u, u, u, u, x17] 143) H
noncomputable def aj4 : KX := BX 0 SE bA
theorem qO : ar RV qN := rf
theorem Wt : ar 2923003274661805836407369665432566039311865085752 SF := rc qO aB qO
theorem xL : ar RV Ix := rc qO aB qO
theorem Wu : ar 2923003274661805836407369665432566039311864954680 SG := rc (cd xL) aB qO
theorem Wv : ∀ i, ar RV (aj4 i) := rb (cd xL) aB
theorem bq : bz x6 H =
 some ((vb false), H) :=
 (by kernel_rfl)
theorem cy : kf x0 x1 x2 x6 x7 x17 H =
 (ai .other .eql x17 (vi 3)).bind fun q =>
 av q
 ((FF Ej [x0] H).bind fun c =>
 (ag c.1 0).bind fun s =>
 (ag c.1 1).bind fun t =>
 av s
 (st 1 [.n, .f 6] x0 (vi 4) c.2 fun w =>
 bz x6 w)
 (av t
 ((FF bJ [x0, x1, (vi 5)] c.2).bind fun y =>
 st 1 [.n, .f 6] x0 (vi 10) y.2 fun z =>
 bz x6 z)
 (bz x6 c.2)))
 ((ai .other .eql x17 (vi 4)).bind fun A =>
 av A
 (st 1 [.n, .f 6] x0 (vi 5) H fun B =>
 (FF eE [x0] B).bind fun d =>
 (ai .other .eql d.1 (vi 0)).bind fun C =>
 av C
 (st 1 [.n, .f 6] x0 (vi 8) d.2 fun D =>
 bz x6 D)
 (bz x6 d.2))
 ((ai .other .eql x17 (vi 5)).bind fun E =>
 av E
 (ld [.n, .f 1] x0 H fun G =>
 (FF eC [x7, G] H).bind fun p =>
 st 1 [.n, .f 13] x0 p.1 p.2 fun I =>
 st 1 [.n, .f 6] x0 (vi 6) I fun e =>
 ld [.n, .f 13] x0 e fun J =>
 (ai .other .rem J (vw 2)).bind fun K =>
 (ai .other .eql K (vw 1)).bind fun L =>
 av L
 (st 1 [.n, .f 6] x0 (vi 4) e fun M =>
 bz x6 M)
 (bz x6 e))
 ((ai .other .eql x17 (vi 6)).bind fun N =>
 av N
 (st 1 [.n, .f 6] x0 (vi 7) H fun O =>
 st 1 [.n, .f 16] x0 x1 O fun P =>
 (FF eE [x0] P).bind fun g =>
 (ai .other .eql g.1 (vi 0)).bind fun Q =>
 av Q
 (st 1 [.n, .f 6] x0 (vi 8) g.2 fun R =>
 bz x6 R)
 (bz x6 g.2))
 ((ai .other .eql x17 (vi 7)).bind fun S =>
 av S
 (st 1 [.n, .f 6] x0 (vi 4) H fun i =>
 ld [.n, .f 1] x0 i fun T =>
 (FF eC [x7, T] i).bind fun a =>
 ad [.n, .f 13] x0 fun j =>
 (au j a.2).bind fun U =>
 b7 (au j i) (au j a.2) <|
 (ai .other .eql a.1 U).bind fun V =>
 av V
 (ld [.n, .f 16] x0 a.2 fun W =>
 (FF bJ [x0, W, (vi 8)] a.2).bind fun X =>
 st 1 [.n, .f 6] x0 (vi 10) X.2 fun Y =>
 bz x6 Y)
 (bz x6 a.2))
 ((ai .other .eql x17 (vi 8)).bind fun Z =>
 av Z
 (st 1 [.n, .f 6] x0 (vi 4) H fun k =>
 (FF b8 [x0] k).bind fun b =>
 ad [.n, .f 1] x0 fun l =>
 (au l b.2).bind fun a0 =>
 b7 (au l k) (au l b.2) <|
 ad [.n, .f 11] x0 fun m =>
 (au m b.2).bind fun a1 =>
 b7 (au m k) (au m b.2) <|
 (FF iL [b.1, a0, a1, (vi 2)] b.2).bind fun o =>
 av o.1
 ((FF bJ [x0, x1, (vi 0)] o.2).bind fun a2 =>
 st 1 [.n, .f 6] x0 (vi 9) a2.2 fun a3 =>
 bz x6 a3)
 (bz x6 o.2))
 ((ai .other .eql x17 (vi 9)).bind fun a4 =>
 av a4
 (ld [.n, .f 7] x7 H fun a5 =>
 ld [.n, .f 1] x0 H fun a6 =>
 ld [.n, .f 7] x0 H fun a7 =>
 (FF jw [a5, a6, x2, a7] H).bind fun a8 =>
 st 1 [.n, .f 6] x0 (vi 10) a8.2 fun a9 =>
 bz x6 a9)
 (ld [.n, .f 7] x7 H fun b0 =>
 ld [.n, .f 1] x0 H fun b1 =>
 (FF eb [b0, b1, x2] H).bind fun b2 =>
 some ((vb true), b2.2)))))))) :=
 (bt rfl (CB [1, 1, 0, 1, 4]) 0 Wv (by kernel_rfl))
theorem tm : oV x0 x1 x2 x6 x7 H =
 ld [.n, .f 6] x0 H fun a =>
 kf x0 x1 x2 x6 x7 a H :=
 (pt rfl 0 xL (pt rfl 0 Wu (by kernel_rfl)))
noncomputable def FZ : OV := bf PP GG FF (CB []) (ls [x0, x1, x2] 158) H qN bA qN
theorem yO {r : Value × AH} (h : (
 ld [.n, .f 0] x0 H fun a =>
 oV x0 x1 x2 (vb false) a H) = some r) : FF qc [x0, x1, x2] H = some r :=
 fo (t := FZ x0 x1 x2 H) Tryz.func111 (by kernel_rfl) (Eq.trans (pt rfl 1 Wt (by kernel_rfl)) h)
theorem oG {r : Value × AH} (h : (
 (FF ru [x0, x1, (.func (.func nU) #[] #[])] H).bind fun a =>
 some (a.1, a.2)) = some r) : FF fU [x0, x1] H = some r :=
 fo Tryz.func112 (by kernel_rfl) h
theorem Aw {r : Value × AH} (h : (
 aV (Value.cells x3).toList H fun c a =>
 ld [.n, .f 1] x0 a fun d =>
 (aA 3 c a).bind fun e =>
 ic [(0, 1), (1, 1), (2, 3)] [(vi 0), (vi 0), (vi 0), (vi 0), (vi 0)] [(0, x1), (1, x2), (2, e)] fun g =>
 FD 1 5 [(vi 0), (vi 0), (vi 0), (vi 0), (vi 0)] [(0, g)] a fun i j =>
 (fN 5 40 d i j).bind fun b =>
 st 1 [.n, .f 1] x0 b.1 b.2 fun k =>
 some (Value.tuple #[], k)) = some r) : FF dz [x0, x1, x2, x3] H = some r :=
 fo Tryz.func113 (by kernel_rfl) h
theorem At {r : Value × AH} (h : (
 aV (Value.cells x1).toList H fun b a =>
 ld [.n, .f 0] x0 a fun c =>
 (aA 3 b a).bind fun d =>
 (db (.flat 3) (.agg #[(vw 0)]) c d false a).bind fun e =>
 (ly none 0 e).bind fun g =>
 some (g, a)) = some r) : FF fB [x0, x1] H = some r :=
 fo Tryz.func114 (by kernel_rfl) h
noncomputable def ep (p : List Nat) : Code := Code.sub (bM Tryz.f115) p
noncomputable def fS : KK := dP PP (Tryz.f115).results.toList
noncomputable def SH : KK := CQ (ep [1, 1]) fS bA fS
noncomputable def ahC : OV := SH (ls [x0, x1, x2, u, u, u, x6, x7, x8] 54) H
noncomputable def Iy : KK := CQ (ep [1, 1, 1]) fS bA fS
noncomputable def aj5 : KK := en zd Iy
noncomputable def ahD : OV := Iy (ls [x0, x1, x2, u, u, u, x6, x7] 55) H
noncomputable def SJ : KK := CQ (ep [1, 1, 1, 1]) fS bA fS
noncomputable def Rl : OV := SJ (ls [x0, x1, x2, u, u, u, x6] 56) H
noncomputable def IB : KX := BX 2 fS bA
noncomputable def IC : KX := qz aaD IB
noncomputable def Iz : KK := xy (ep [1, 1, 1, 1, 4, 5]) IC fS
noncomputable def vA : KK := en B6 Iz
noncomputable def KA : OV := Iz (ls [x0, x1, x2, u, u, u, x6] 56) H
noncomputable def SK : KK := CQ (ep [1, 1, 1, 1, 4, 5, 1]) vA IC fS
noncomputable def ahE : OV := SK (ls [x0, x1, x2, u, u, u, x6] 56) H
noncomputable def SN : KX := BX 3 vA IC
noncomputable def Bh : KX := qz B6 SN
noncomputable def SL : KK := CQ (ep [1, 1, 1, 1, 4, 5, 1, 4, 1]) vA Bh fS
noncomputable def ahF : OV := SL (ls [x0, x1, x2, u, u, u, x6, x7, x8] 54) H
noncomputable def IA : KK := CQ (ep [1, 1, 1, 1, 4, 5, 1, 4, 1, 1]) vA Bh fS
noncomputable def aj6 : KK := en zd IA
noncomputable def ahG : OV := IA (ls [x0, x1, x2, u, u, u, x6, x7] 55) H
noncomputable def SM : KK := CQ (ep [1, 1, 1, 1, 4, 5, 1, 4, 1, 1, 1]) vA Bh fS
noncomputable def KB : OV := SM (ls [x0, x1, x2, u, u, u, x6] 56) H
noncomputable def CE : KX := BX 4 aj6 Bh
noncomputable def CG : KX := qz zd CE
noncomputable def CC : KK := xy (ep [1, 1, 1, 1, 4, 5, 1, 4, 1, 0, 4, 5]) CG fS
noncomputable def LJ : KK := en tx CC
noncomputable def BK : OV := CC (ls [x0, x1, x2, u, u, u, x6, x7, x8] 54) H
noncomputable def LM : KK := CQ (ep [1, 1, 1, 1, 4, 5, 1, 4, 1, 0, 4, 5, 1]) LJ CG fS
noncomputable def Vi : OV := LM (ls [x0, x1, x2, u, u, u, x6, x7, x8] 54) H
noncomputable def aa5 : KX := BX 5 LJ CG
noncomputable def HD : OV := CE 4 (ls [x0, x1, x2, u, u, u, x6, x7] 55) H
noncomputable def Nx (H : AH) : OV := IB 2 (ls [] 63) H
noncomputable def CF : KX := BX 0 aj5 bA
noncomputable def CH : KX := qz zd CF
noncomputable def CD : KK := xy (ep [1, 1, 0, 4, 5]) CH fS
noncomputable def LK : KK := en tx CD
noncomputable def BL : OV := CD (ls [x0, x1, x2, u, u, u, x6, x7, x8] 54) H
noncomputable def LN : KK := CQ (ep [1, 1, 0, 4, 5, 1]) LK CH fS
noncomputable def Vj : OV := LN (ls [x0, x1, x2, u, u, u, x6, x7, x8] 54) H
noncomputable def aa6 : KX := BX 1 LK CH
noncomputable def HE : OV := CF 0 (ls [x0, x1, x2, u, u, u, x6, x7] 55) H
theorem dL : ar aaD fS := rf
theorem Ww : ar tx SH := rc dL aB dL
theorem Gv : ar zd Iy := rc dL aB dL
theorem Wx : ar B6 SJ := rc dL aB dL
theorem sK : ∀ i, ar aaD (IB i) := rb dL aB
theorem jW : ar B6 Iz := rl (cx sK) dL
theorem Wy : ar B6 SK := rc (cd jW) (cx sK) dL
theorem oo : ∀ i, ar B6 (SN i) := rb (cd jW) (cx sK)
theorem Wz : ar tx SL := rc (cd jW) (cx oo) dL
theorem Gw : ar zd IA := rc (cd jW) (cx oo) dL
theorem WA : ar B6 SM := rc (cd jW) (cx oo) dL
theorem o8 : ∀ i, ar zd (CE i) := rb (cd Gw) (cx oo)
theorem o6 : ar tx CC := rl (cx o8) dL
theorem OX : ar tx LM := rc (cd o6) (cx o8) dL
theorem OZ : ∀ i, ar tx (aa5 i) := rb (cd o6) (cx o8)
theorem o9 : ∀ i, ar zd (CF i) := rb (cd Gv) aB
theorem o7 : ar tx CD := rl (cx o9) dL
theorem OY : ar tx LN := rc (cd o7) (cx o9) dL
theorem O0 : ∀ i, ar tx (aa6 i) := rb (cd o7) (cx o9)
theorem Y6 : KB x0 x1 x2 x6 H =
 (ai .other .mul x6 (vi 2)).bind fun a =>
 KA x0 x1 x2 a H :=
 (by kernel_rfl)
theorem Y5 : ahG x0 x1 x2 x6 x7 H =
 (ai .other .add x7 x6).bind fun a =>
 (ai .other .lss a x1).bind fun b =>
 av b
 ((FF G0 [x0, x7, a, x1, x2] H).bind fun c =>
 KB x0 x1 x2 x6 c.2)
 (KB x0 x1 x2 x6 H) :=
 (pt rfl 0 WA (by kernel_rfl))
theorem Rk : Vi x0 x1 x2 x6 x7 x8 H =
 (ai .other .add x7 x6).bind fun a =>
 (FF G0 [x0, x7, a, x8, x2] H).bind fun b =>
 (ai .other .mul (vi 2) x6).bind fun c =>
 (ai .other .add x8 c).bind fun d =>
 BK x0 x1 x2 x6 x8 d b.2 :=
 (bt rfl (ep [1, 1, 1, 1, 4, 5, 1, 4, 1, 0, 4, 5, 1, 4]) 5 OZ (by kernel_rfl))
theorem Ky : HD x0 x1 x2 x6 x7 H = ahG x0 x1 x2 x6 x7 H :=
 (by kernel_rfl)
theorem Rj : BK x0 x1 x2 x6 x7 x8 H =
 (ai .other .leq x8 x1).bind fun a =>
 av a
 (Vi x0 x1 x2 x6 x7 x8 H)
 (HD x0 x1 x2 x6 x7 H) :=
 yl rfl o6 (pt rfl 0 OX (by kernel_rfl))
theorem Y4 : ahF x0 x1 x2 x6 x7 x8 H =
 BK x0 x1 x2 x6 x7 x8 H :=
 (pt rfl 0 Gw (bt rfl (ep [1, 1, 1, 1, 4, 5, 1, 4, 1, 0, 4]) 4 o8 (li rfl (ep [1, 1, 1, 1, 4, 5, 1, 4, 1, 0, 4, 5]) o6 (by kernel_rfl))))
theorem Y3 : ahE x0 x1 x2 x6 H =
 (ai .other .mul (vi 2) x6).bind fun a =>
 ahF x0 x1 x2 x6 (vi 0) a H :=
 (bt rfl (ep [1, 1, 1, 1, 4, 5, 1, 4]) 3 oo (pt rfl 0 Wz (by kernel_rfl)))
theorem Ny (H : AH) : Nx H = some (Value.tuple #[], H) :=
 (by kernel_rfl)
theorem Y0 : KA x0 x1 x2 x6 H =
 (ai .other .lss x6 x1).bind fun a =>
 av a
 (ahE x0 x1 x2 x6 H)
 (Nx H) :=
 yl rfl jW (pt rfl 0 Wy (by kernel_rfl))
theorem YZ : Rl x0 x1 x2 x6 H =
 KA x0 x1 x2 x6 H :=
 (bt rfl (ep [1, 1, 1, 1, 4]) 2 sK (li rfl (ep [1, 1, 1, 1, 4, 5]) jW (by kernel_rfl)))
theorem YY : ahD x0 x1 x2 x6 x7 H =
 (FF Uz [x0, x7, x1, x2] H).bind fun a =>
 Rl x0 x1 x2 x6 a.2 :=
 (pt rfl 0 Wx (by kernel_rfl))
theorem Rn : Vj x0 x1 x2 x6 x7 x8 H =
 (FF Uz [x0, x7, x8, x2] H).bind fun a =>
 (ai .other .add x8 x6).bind fun b =>
 BL x0 x1 x2 x6 x8 b a.2 :=
 (bt rfl (ep [1, 1, 0, 4, 5, 1, 4]) 1 O0 (by kernel_rfl))
theorem Kz : HE x0 x1 x2 x6 x7 H = ahD x0 x1 x2 x6 x7 H :=
 (by kernel_rfl)
theorem Rm : BL x0 x1 x2 x6 x7 x8 H =
 (ai .other .leq x8 x1).bind fun a =>
 av a
 (Vj x0 x1 x2 x6 x7 x8 H)
 (HE x0 x1 x2 x6 x7 H) :=
 yl rfl o7 (pt rfl 0 OY (by kernel_rfl))
theorem YX : ahC x0 x1 x2 x6 x7 x8 H =
 BL x0 x1 x2 x6 x7 x8 H :=
 (pt rfl 0 Gv (bt rfl (ep [1, 1, 0, 4]) 0 o9 (li rfl (ep [1, 1, 0, 4, 5]) o7 (by kernel_rfl))))
noncomputable def sSt : OV := bf PP GG FF (ep []) (ls [x0, x1, x2] 60) H fS bA fS
theorem apK {r : Value × AH} (h : (
 ahC x0 x1 x2 (vi 20) (vi 0) (vi 20) H) = some r) : FF afO [x0, x1, x2] H = some r :=
 fo (t := sSt x0 x1 x2 H) Tryz.func115 (by kernel_rfl) (Eq.trans (pt rfl 1 Ww (by kernel_rfl)) h)
theorem vn {r : Value × AH} (h : (
 (FF jo [x0] H).bind fun b =>
 (FF jo [x1] b.2).bind fun a =>
 av b.1
 (av a.1
 (some ((vi 0), a.2))
 (some ((vi (-1)), a.2)))
 (av a.1
 (some ((vi 1), a.2))
 ((ai .other .lss x0 x1).bind fun c =>
 av c
 (some ((vi (-1)), a.2))
 ((ai .other .gtr x0 x1).bind fun d =>
 av d
 (some ((vi 1), a.2))
 (some ((vi 0), a.2)))))) = some r) : FF j0 [x0, x1] H = some r :=
 fo Tryz.func116 (by kernel_rfl) h
theorem apD {r : Value × AH} (h : (
 (ai .slice .eql x0 (.slice none 0 0)).bind fun b =>
 av b
 (some ((.slice none 0 0), H))
 (FD 0 3 [(vi 0), (vi 0), (vi 0)] [] H fun c d =>
 (fN 3 24 c x0 d).bind fun a =>
 some (a.1, a.2))) = some r) : FF afJ [x0] H = some r :=
 fo Tryz.func117 (by kernel_rfl) h
theorem Ax {r : Value × AH} (h : (
 aV (Value.cells x2).toList H fun a d =>
 (aA 3 a d).bind fun e =>
 (FF fB [x0, e] d).bind fun b =>
 (aA 3 a b.2).bind fun g =>
 (FF dz [x0, x1, (vi 3), g] b.2).bind fun c =>
 ld [.n, .f 0] x0 c.2 fun i =>
 (aA 3 a c.2).bind fun j =>
 ic [(0, 1)] [(vw 0)] [(0, x3)] fun k =>
 (eZ (.flat 3) i j k c.2).bind fun l =>
 some (b.1, l)) = some r) : FF jr [x0, x1, x2, x3] H = some r :=
 fo Tryz.func118 (by kernel_rfl) h
theorem Ay {r : Value × AH} (h : (
 (ai .other .geq x0 x1).bind fun a =>
 (gV a true x0).bind fun b =>
 (gV a true x2).bind fun c =>
 (gB a true (ai .other .leq b c)).bind fun d =>
 (bd a d (vb false)).bind fun e =>
 some (e, H)) = some r) : FF fD [x0, x1, x2] H = some r :=
 fo Tryz.func119 (by kernel_rfl) h
theorem yf {r : Value × AH} (h : (
 aV [(vi 0), (vi 0), (vi 0)] H fun a c =>
 ic [(0, 1), (1, 1), (2, 1)] [(vi 0), (vi 0), (vi 0)] [(0, x0), (1, x1)] fun d =>
 (cG 3 a d c).bind fun b =>
 (aA 3 a b).bind fun e => some (e, b)) = some r) : FF bI [x0, x1] H = some r :=
 fo Tryz.func120 (by kernel_rfl) h
noncomputable def nN (p : List Nat) : Code := Code.sub (bM Tryz.f121) p
noncomputable def mn : KK := dP PP (Tryz.f121).results.toList
noncomputable def SR : KK := CQ (nN [1, 1, 1]) mn bA mn
noncomputable def wF : OV := SR (ls [u, x1, u, u, x4, x5, x6] 23) H
noncomputable def ID : KK := CQ (nN [1, 1, 1, 1]) mn bA mn
noncomputable def SO : KK := en 1073741743 ID
noncomputable def wG : OV := ID (ls [u, u, u, u, x4, u, x6] 23) H
noncomputable def SS : KK := CQ (nN [1, 1, 1, 0, 1]) SO bA mn
noncomputable def wH : OV := SS (ls [u, x1, u, u, x4, u, x6, u, u, u, u, u, u, u, x14, x15] 14) H
noncomputable def IG : KX := BX 0 SO bA
noncomputable def Bi : KX := qz 1073741743 IG
noncomputable def IE : KK := xy (nN [1, 1, 1, 0, 1, 4, 5]) Bi mn
noncomputable def SQ : KK := en Ce IE
noncomputable def lN : OV := IE (ls [u, x1, u, u, x4, u, x6, u, u, u, u, u, u, u, x14, x15] 14) H
noncomputable def ST : KK := CQ (nN [1, 1, 1, 0, 1, 4, 5, 1, 1]) SQ Bi mn
noncomputable def wI : OV := ST (ls [u, x1, u, u, x4, u, x6, u, u, u, u, u, u, u, x14, x15] 14) H
noncomputable def IF : KK := CQ (nN [1, 1, 1, 0, 1, 4, 5, 1, 1, 1]) SQ Bi mn
noncomputable def aj7 : KK := en Ce IF
noncomputable def wJ : OV := IF (ls [u, x1, u, u, x4, u, x6, u, u, u, u, u, u, u, x14, x15] 14) H
noncomputable def aj8 : KX := BX 1 aj7 Bi
noncomputable def rO : OV := IG 0 (ls [u, u, u, u, x4, u, x6] 23) H
theorem kI : ar 1073741807 mn := rf
theorem WB : ar 1073741709 SR := rc kI aB kI
theorem xM : ar 1073741743 ID := rc kI aB kI
theorem WC : ar Ce SS := rc (cd xM) aB kI
theorem oq : ∀ i, ar 1073741743 (IG i) := rb (cd xM) aB
theorem sL : ar Ce IE := rl (cx oq) kI
theorem WD : ar Ce ST := rc (cd sL) (cx oq) kI
theorem Gx : ar Ce IF := rc (cd sL) (cx oq) kI
theorem WE : ∀ i, ar Ce (aj8 i) := rb (cd Gx) (cx oq)
theorem AI : wG x4 x6 H =
 some (x6, H) :=
 (by kernel_rfl)
theorem AL : wJ x1 x4 x6 x14 x15 H =
 (ai .other .add x15 (vi 1)).bind fun a =>
 lN x1 x4 x6 x14 a H :=
 (by kernel_rfl)
theorem AK : wI x1 x4 x6 x14 x15 H =
 ad [.n, .f 0] x6 fun a =>
 (au a H).bind fun d =>
 (FF rG [x1] H).bind fun b =>
 b7 (au a b.2) (au a H) <|
 FD 1 1 [(.pointer none)] [(0, b.1)] b.2 fun e g =>
 (fN 1 8 d e g).bind fun c =>
 st 1 [.n, .f 0] x6 c.1 c.2 fun i =>
 wJ x1 x4 x6 x14 x15 i :=
 (pt rfl 0 Gx (bt rfl (nN [1, 1, 1, 0, 1, 4, 5, 1, 1, 0, 4]) 1 WE (by kernel_rfl)))
theorem wE : rO x4 x6 H = wG x4 x6 H :=
 (by kernel_rfl)
theorem qd : lN x1 x4 x6 x14 x15 H =
 (ai .other .lss x15 x14).bind fun a =>
 av a
 (wI x1 x4 x6 x14 x15 H)
 (rO x4 x6 H) :=
 yl rfl sL (pt rfl 1 WD (by kernel_rfl))
theorem AJ : wH x1 x4 x6 x14 x15 H =
 lN x1 x4 x6 x14 x15 H :=
 (bt rfl (nN [1, 1, 1, 0, 1, 4]) 0 oq (li rfl (nN [1, 1, 1, 0, 1, 4, 5]) sL (by kernel_rfl)))
theorem AG : wF x1 x4 x5 x6 H =
 wH x1 x4 x6 x5 (vi 0) H :=
 (pt rfl 0 xM (pt rfl 0 WC (by kernel_rfl)))
noncomputable def Yk : OV := bf PP GG FF (nN []) (ls [x0, x1] 28) H mn bA mn
theorem J0 {r : Value × AH} (h : (
 (iC [x0, (vi 1)]).bind fun c =>
 (jM [c, (vi 16)]).bind fun a =>
 (FF uv [a] H).bind fun b =>
 ic [(0, 1), (1, 1)] [(.slice none 0 0), (.pointer none)] [(1, b.1)] fun d =>
 aV (Value.cells d).toList b.2 fun e f =>
 wF x1 (.pointer none) a e f) = some r) : FF rE [x0, x1] H = some r :=
 fo (t := Yk x0 x1 H) Tryz.func121 (by kernel_rfl) (Eq.trans (pt rfl 2 WB (by kernel_rfl)) h)
noncomputable def nO (p : List Nat) : Code := Code.sub (bM Tryz.f125) p
noncomputable def mo : KK := dP PP (Tryz.f125).results.toList
noncomputable def SW : KK := CQ (nO [1, 1]) mo bA mo
noncomputable def agA : OV := SW (ls [x0, x1, u, u, x4, x5] 24) H
noncomputable def IH : KK := CQ (nO [1, 1, 1]) mo bA mo
noncomputable def SU : KK := en 1073741775 IH
noncomputable def agB : OV := IH (ls [u, u, u, u, x4, x5] 24) H
noncomputable def SX : KK := CQ (nO [1, 1, 0, 1]) SU bA mo
noncomputable def agC : OV := SX (ls [x0, x1, u, u, x4, x5, x6] 23) H
noncomputable def IK : KX := BX 0 SU bA
noncomputable def Bj : KX := qz 1073741775 IK
noncomputable def II : KK := xy (nO [1, 1, 0, 1, 4, 5]) Bj mo
noncomputable def SV : KK := en Cf II
noncomputable def Ka : OV := II (ls [x0, x1, u, u, x4, x5, x6] 23) H
noncomputable def SY : KK := CQ (nO [1, 1, 0, 1, 4, 5, 1]) SV Bj mo
noncomputable def agD : OV := SY (ls [x0, x1, u, u, x4, x5, x6] 23) H
noncomputable def IJ : KK := CQ (nO [1, 1, 0, 1, 4, 5, 1, 1]) SV Bj mo
noncomputable def aj9 : KK := en Cf IJ
noncomputable def agE : OV := IJ (ls [x0, x1, u, u, x4, x5, x6] 23) H
noncomputable def akA : KX := BX 1 aj9 Bj
noncomputable def Nh : OV := IK 0 (ls [u, u, u, u, x4, x5] 24) H
theorem kJ : ar 1073741807 mo := rf
theorem WG : ar 1073741772 SW := rc kJ aB kJ
theorem xN : ar 1073741775 IH := rc kJ aB kJ
theorem WH : ar Cf SX := rc (cd xN) aB kJ
theorem ot : ∀ i, ar 1073741775 (IK i) := rb (cd xN) aB
theorem sM : ar Cf II := rl (cx ot) kJ
theorem WI : ar Cf SY := rc (cd sM) (cx ot) kJ
theorem Gy : ar Cf IJ := rc (cd sM) (cx ot) kJ
theorem WJ : ∀ i, ar Cf (akA i) := rb (cd Gy) (cx ot)
theorem Ys : agB x4 x5 H =
 some (x5, H) :=
 (by kernel_rfl)
theorem Yv : agE x0 x1 x4 x5 x6 H =
 (ai .other .add x6 (vi 1)).bind fun a =>
 Ka x0 x1 x4 x5 a H :=
 (by kernel_rfl)
theorem Yu : agD x0 x1 x4 x5 x6 H =
 ad [.n, .f 0] x5 fun a =>
 (au a H).bind fun d =>
 (FF rF [x1] H).bind fun b =>
 b7 (au a b.2) (au a H) <|
 ic [(0, 1), (1, 1), (2, 1), (3, 1)] [(.slice none 0 0), (vw 0), (vi 0), (vb false)] [(2, b.1), (3, (vb true))] fun e =>
 aV (Value.cells e).toList b.2 fun g i =>
 FD 1 1 [(.pointer none)] [(0, g)] i fun j k =>
 (fN 1 8 d j k).bind fun c =>
 st 1 [.n, .f 0] x5 c.1 c.2 fun l =>
 agE x0 x1 x4 x5 x6 l :=
 (pt rfl 0 Gy (bt rfl (nO [1, 1, 0, 1, 4, 5, 1, 0, 4]) 1 WJ (by kernel_rfl)))
theorem Ni : Nh x4 x5 H = agB x4 x5 H :=
 (by kernel_rfl)
theorem Hb : Ka x0 x1 x4 x5 x6 H =
 (iC [x0, (vi 1)]).bind fun a =>
 (jM [a, (vi 16)]).bind fun b =>
 (ai .other .lss x6 b).bind fun c =>
 av c
 (agD x0 x1 x4 x5 x6 H)
 (Nh x4 x5 H) :=
 yl rfl sM (pt rfl 0 WI (by kernel_rfl))
theorem Yt : agC x0 x1 x4 x5 x6 H =
 Ka x0 x1 x4 x5 x6 H :=
 (bt rfl (nO [1, 1, 0, 1, 4]) 0 ot (li rfl (nO [1, 1, 0, 1, 4, 5]) sM (by kernel_rfl)))
theorem Yr : agA x0 x1 x4 x5 H =
 agC x0 x1 x4 x5 (vi 0) H :=
 (pt rfl 0 xN (pt rfl 0 WH (by kernel_rfl)))
noncomputable def rNQ : OV := bf PP GG FF (nO []) (ls [x0, x1] 28) H mo bA mo
theorem ao8 {r : Value × AH} (h : (
 ic [(0, 1)] [(.slice none 0 0)] [] fun a =>
 aV (Value.cells a).toList H fun b c =>
 agA x0 x1 (.pointer none) b c) = some r) : FF afG [x0, x1] H = some r :=
 fo (t := rNQ x0 x1 H) Tryz.func125 (by kernel_rfl) (Eq.trans (pt rfl 1 WG (by kernel_rfl)) h)
theorem yo {r : Value × AH} (h : (
 aV (Value.cells x2).toList H fun b a =>
 (aA 3 b a).bind fun c =>
 (FF dz [x0, x1, (vi 6), c] a).bind fun d =>
 some (Value.tuple #[], d.2)) = some r) : FF gg [x0, x1, x2] H = some r :=
 fo Tryz.func126 (by kernel_rfl) h
theorem Nn {r : Value × AH} (h : (
 (iC [x2, (vi 1)]).bind fun c =>
 (jM [c, (vi 8)]).bind fun a =>
 (nz [(vi 0), (vi 0), (vi 0)] 3 24 a a H).bind fun b =>
 ic [(0, 1), (1, 1), (2, 1)] [(.pointer none), (vi 0), (.slice none 0 0)] [(0, x0), (1, x1), (2, b.1)] fun d =>
 aV (Value.cells d).toList b.2 fun e f =>
 some (e, f)) = some r) : FF uu [x0, x1, x2] H = some r :=
 fo Tryz.func127 (by kernel_rfl) h
theorem Es {r : Value × AH} (h : (
 aV (Value.cells x3).toList H fun c a =>
 ld [.n, .f 2] x0 a fun d =>
 (aA 3 c a).bind fun e =>
 ic [(0, 1), (1, 1), (2, 3)] [(vi 0), (vi 0), (vi 0), (vi 0), (vi 0)] [(0, x1), (1, x2), (2, e)] fun g =>
 FD 1 5 [(vi 0), (vi 0), (vi 0), (vi 0), (vi 0)] [(0, g)] a fun i j =>
 (fN 5 40 d i j).bind fun b =>
 st 1 [.n, .f 2] x0 b.1 b.2 fun k =>
 some (Value.tuple #[], k)) = some r) : FF cu [x0, x1, x2, x3] H = some r :=
 fo Tryz.func128 (by kernel_rfl) h
theorem Ew {r : Value × AH} (h : (
 (iC [x2, (vi 1)]).bind fun c =>
 (jM [c, (vi 8)]).bind fun a =>
 (nz [(vi 0), (vi 0), (vi 0)] 3 24 a a H).bind fun b =>
 ic [(0, 1), (1, 1), (2, 1), (3, 1)] [(.pointer none), (vi 0), (vi 0), (.slice none 0 0)] [(0, x0), (1, x1), (2, a), (3, b.1)] fun d =>
 aV (Value.cells d).toList b.2 fun e f =>
 some (e, f)) = some r) : FF nZ [x0, x1, x2] H = some r :=
 fo Tryz.func129 (by kernel_rfl) h
theorem yn {r : Value × AH} (h : (
 aV (Value.cells x2).toList H fun b c =>
 (aA 3 b c).bind fun d =>
 (FF dz [x0, x1, (vi 2), d] c).bind fun a =>
 ld [.n, .f 0] x0 a.2 fun e =>
 (aA 3 b a.2).bind fun g =>
 ic [(0, 1)] [(vw 0)] [(0, x3)] fun i =>
 (eZ (.flat 3) e g i a.2).bind fun j =>
 some (Value.tuple #[], j)) = some r) : FF dI [x0, x1, x2, x3] H = some r :=
 fo Tryz.func130 (by kernel_rfl) h
theorem yD {r : Value × AH} (h : (
 aV (Value.cells x2).toList H fun b c =>
 (aA 3 b c).bind fun e =>
 (FF cu [x0, x1, (vi 2), e] c).bind fun d =>
 (aA 3 b d.2).bind fun g =>
 (FF Ei [x0, g] d.2).bind fun a =>
 ld [.n, .f 1] x0 a.2 fun j =>
 st 1 [.i 1 a.1] j x3 a.2 fun k =>
 some (Value.tuple #[], k)) = some r) : FF eA [x0, x1, x2, x3] H = some r :=
 fo Tryz.func131 (by kernel_rfl) h
theorem Ee {r : Value × AH} (h : (
 aV (Value.cells x2).toList H fun a b =>
 (aA 3 a b).bind fun e =>
 (aA 3 a b).bind fun f =>
 (FF fB [x0, f] b).bind fun c =>
 b7 (aA 3 a c.2) (aA 3 a b) <|
 (ai .other .add c.1 x3).bind fun g =>
 (FF jr [x0, x1, e, g] c.2).bind fun d =>
 some (d.1, d.2)) = some r) : FF iB [x0, x1, x2, x3] H = some r :=
 fo Tryz.func132 (by kernel_rfl) h
theorem Er {r : Value × AH} (h : (
 aV (Value.cells x2).toList H fun c d =>
 (aA 3 c d).bind fun g =>
 (FF Ei [x0, g] d).bind fun a =>
 (aA 3 c a.2).bind fun j =>
 (FF cu [x0, x1, (vi 3), j] a.2).bind fun b =>
 ld [.n, .f 1] x0 b.2 fun k =>
 ld [.i 1 a.1] k b.2 fun e =>
 ld [.n, .f 1] x0 b.2 fun l =>
 (ai .other .add e x3).bind fun m =>
 st 1 [.i 1 a.1] l m b.2 fun o =>
 some (e, o)) = some r) : FF ku [x0, x1, x2, x3] H = some r :=
 fo Tryz.func133 (by kernel_rfl) h
noncomputable def nP (p : List Nat) : Code := Code.sub (bM Tryz.f134) p
noncomputable def mp : KK := dP PP (Tryz.f134).results.toList
noncomputable def S3 : KK := CQ (nP [1]) mp bA mp
noncomputable def af8 : OV := S3 (ls [x0, u, u, x3, x4] 45) H
noncomputable def IM : KK := CQ (nP [1, 1]) mp bA mp
noncomputable def SZ : KK := en Ll IM
noncomputable def af9 : OV := IM (ls [x0, u, u, x3, x4] 45) H
noncomputable def LQ : KK := CQ (nP [1, 0, 1]) SZ bA mp
noncomputable def UK : OV := LQ (ls [x0, u, u, x3, x4, x5] 44) H
noncomputable def CO : KX := BX 0 SZ bA
noncomputable def vC : KX := qz Ll CO
noncomputable def CJ : KK := xy (nP [1, 0, 1, 4, 5]) vC mp
noncomputable def LP : KK := en B9 CJ
noncomputable def BE : OV := CJ (ls [x0, u, u, x3, x4, x5] 44) H
noncomputable def LR : KK := CQ (nP [1, 0, 1, 4, 5, 1]) LP vC mp
noncomputable def UL : OV := LR (ls [x0, u, u, x3, x4, x5] 44) H
noncomputable def CM : KK := CQ (nP [1, 0, 1, 4, 5, 1, 1]) LP vC mp
noncomputable def abG : KK := en B9 CM
noncomputable def UM : OV := CM (ls [x0, u, u, x3, x4, x5] 44) H
noncomputable def abH : KX := BX 1 abG vC
noncomputable def Ha : OV := CO 0 (ls [x0, u, u, x3, x4] 45) H
theorem kK : ar 1125899906842607 mp := rf
theorem WL : ar Ll S3 := rc kK aB kK
theorem xO : ar Ll IM := rc kK aB kK
theorem O6 : ar B9 LQ := rc (cd xO) aB kK
theorem mq : ∀ i, ar Ll (CO i) := rb (cd xO) aB
theorem pa : ar B9 CJ := rl (cx mq) kK
theorem O7 : ar B9 LR := rc (cd pa) (cx mq) kK
theorem CN : ar B9 CM := rc (cd pa) (cx mq) kK
theorem O8 : ∀ i, ar B9 (abH i) := rb (cd CN) (cx mq)
theorem Yq : af9 x0 x3 x4 H =
 ld [.n, .f 0] x0 H fun g =>
 (aA 3 x3 H).bind fun i =>
 FD 1 3 [(vi 0), (vi 0), (vi 0)] [(0, i)] H fun j c =>
 (fN 3 24 g j c).bind fun a =>
 ad [.n, .f 1] x0 fun b =>
 (au b a.2).bind fun k =>
 b7 (au b c) (au b a.2) <|
 FD 1 1 [(vw 0)] [(0, (vw 0))] a.2 fun l m =>
 (fN 1 8 k l m).bind fun d =>
 st 1 [.n, .f 0] x0 a.1 d.2 fun o =>
 st 1 [.n, .f 1] x0 d.1 o fun e =>
 ld [.n, .f 0] x0 e fun p =>
 jd p fun q =>
 (ai .other .sub q (vi 1)).bind fun s =>
 some (s, e) :=
 (by kernel_rfl)
theorem Qy : UM x0 x3 x4 x5 H =
 (ai .other .add x5 (vi 1)).bind fun a =>
 BE x0 x3 x4 a H :=
 (by kernel_rfl)
theorem Qx : UL x0 x3 x4 x5 H =
 ld [.n, .f 0] x0 H fun a =>
 ldN 3 [.i 3 x5] a H fun b =>
 (aA 3 x3 H).bind fun c =>
 (ai (.flat 3) .eql b c).bind fun d =>
 av d
 (some (x5, H))
 (UM x0 x3 x4 x5 H) :=
 (pt rfl 0 CN (bt rfl (nP [1, 0, 1, 4, 5, 1, 0, 4]) 1 O8 (by kernel_rfl)))
theorem J9 : Ha x0 x3 x4 H = af9 x0 x3 x4 H :=
 (by kernel_rfl)
theorem Ez : BE x0 x3 x4 x5 H =
 ld [.n, .f 0] x0 H fun a =>
 jd a fun b =>
 (ai .other .lss x5 b).bind fun c =>
 av c
 (UL x0 x3 x4 x5 H)
 (Ha x0 x3 x4 H) :=
 yl rfl pa (pt rfl 0 O7 (by kernel_rfl))
theorem Qw : UK x0 x3 x4 x5 H =
 BE x0 x3 x4 x5 H :=
 (bt rfl (nP [1, 0, 1, 4]) 0 mq (li rfl (nP [1, 0, 1, 4, 5]) pa (by kernel_rfl)))
theorem Yp : af8 x0 x3 x4 H =
 UK x0 x3 x4 (vi 0) H :=
 (pt rfl 0 xO (pt rfl 0 O6 (by kernel_rfl)))
noncomputable def rMp : OV := bf PP GG FF (nP []) (ls [x0, x1] 48) H mp bA mp
theorem ao7 {r : Value × AH} (h : (
 aV (Value.cells x1).toList H fun a b =>
 af8 x0 a (vi 0) b) = some r) : FF Ei [x0, x1] H = some r :=
 fo (t := rMp x0 x1 H) Tryz.func134 (by kernel_rfl) (Eq.trans (pt rfl 0 WL (by kernel_rfl)) h)
theorem xa {r : Value × AH} (h : (
 (cf x3 [x2]).bind fun c => (FF c.1 c.2 H).bind fun b =>
 (ag b.1 0).bind fun i =>
 (ag b.1 1).bind fun a =>
 (gV a true x0).bind fun j =>
 FQ a true  [.n, .f 0] j fun e =>
 (gB a true (au e b.2)).bind fun k =>
 (gV a true x1).bind fun l =>
 (gV a true x0).bind fun m =>
 (gE a true b.2 (FF ed [m, (vi 11), (vi 0)] b.2)).bind fun d =>
 b7 (au e d.2) (au e b.2) <|
 (gV a true x2).bind fun o =>
 (gV a true i).bind fun p =>
 (gE a true d.2 (FF fC [k, l, d.1, o, p] d.2)).bind fun g =>
 (bd a g.1 (vb false)).bind fun q =>
 some (q, g.2)) = some r) : FF g8 [x0, x1, x2, x3] H = some r :=
 fo Tryz.func135 (by kernel_rfl) h
noncomputable def IN (p : List Nat) : Code := Code.sub (bM Tryz.f137) p
noncomputable def tY : KK := dP PP (Tryz.f137).results.toList
noncomputable def S4 : KK := CQ (IN [1, 1]) tY bA tY
noncomputable def tO : OV := S4 (ls [u, x1, u, u, x4, x5, x6, x7, x8] 47) H
noncomputable def IO : KK := CQ (IN [1, 1, 1]) tY bA tY
noncomputable def akC : KK := en Lk IO
noncomputable def tP : OV := IO (ls [u, u, u, u, x4, x5] 50) H
noncomputable def akD : KX := BX 0 akC bA
theorem vD : ar Lk tY := rf
theorem WM : ar 72057594037927437 S4 := rc vD aB vD
theorem Gz : ar Lk IO := rc vD aB vD
theorem WN : ∀ i, ar Lk (akD i) := rb (cd Gz) aB
theorem hF : tP x4 x5 H =
 some (Value.tuple #[(vw 0), (vb false)], H) :=
 (by kernel_rfl)
theorem yA : tO x1 x4 x5 x6 x7 x8 H =
 (oc .not x8).bind fun i =>
 av i
 (some (Value.tuple #[(vw 0), (vb false)], H))
 ((ai .other .eql x1 (vi 0)).bind fun a =>
 (gV a true x7).bind fun j =>
 (gB a true (ai .other .neq j (vi 2))).bind fun k =>
 (bd a k (vb false)).bind fun b =>
 (gV b true x6).bind fun l =>
 (gB b true (ai .other .lss l (vw 2305843009213693951))).bind fun m =>
 (bd b m (vb false)).bind fun n =>
 av n
 ((ai .other .add x6 (vw 1)).bind fun o =>
 (FF mD [o, (vi 1)] H).bind fun c =>
 (ag c.1 0).bind fun p =>
 (ag c.1 1).bind fun q =>
 some (Value.tuple #[p, q], c.2))
 ((ai .other .eql x1 (vi 1)).bind fun d =>
 (gV d true x7).bind fun s =>
 (gB d true (ai .other .eql s (vi 1))).bind fun t =>
 (bd d t (vb false)).bind fun w =>
 av w
 ((FF mD [x6, (vi 0)] H).bind fun e =>
 (ag e.1 0).bind fun y =>
 (ag e.1 1).bind fun z =>
 some (Value.tuple #[y, z], e.2))
 ((ai .other .eql x1 (vi 2)).bind fun f =>
 (gV f true x7).bind fun A =>
 (gB f true (ai .other .eql A (vi 0))).bind fun B =>
 (bd f B (vb false)).bind fun C =>
 av C
 ((FF mD [x6, (vi 2)] H).bind fun g =>
 (ag g.1 0).bind fun D =>
 (ag g.1 1).bind fun E =>
 some (Value.tuple #[D, E], g.2))
 (tP x4 x5 H)))) :=
 (pt rfl 0 Gz (bt rfl (IN [1, 1, 0, 4]) 0 WN (by kernel_rfl)))
noncomputable def Qt : OV := bf PP GG FF (IN []) (ls [x0, x1] 54) H tY bA tY
theorem FY {r : Value × AH} (h : (
 (FF gL [x0] H).bind fun a =>
 (ag a.1 0).bind fun b =>
 (ag a.1 1).bind fun c =>
 (ag a.1 2).bind fun d =>
 tO x1 (vw 0) (vb false) b c d a.2) = some r) : FF pH [x0, x1] H = some r :=
 fo (t := Qt x0 x1 H) Tryz.func137 (by kernel_rfl) (Eq.trans (pt rfl 1 WM (by kernel_rfl)) h)
theorem AO {r : Value × AH} (h : (
 aV (Value.cells x2).toList H fun b c =>
 (aA 3 b c).bind fun e =>
 (FF Ei [x0, e] c).bind fun a =>
 ld [.n, .f 1] x0 a.2 fun g =>
 ld [.i 1 a.1] g a.2 fun j =>
 (ai .other .neq j x3).bind fun k =>
 av k
 ((aA 3 b a.2).bind fun l =>
 (FF cu [x0, x1, (vi 4), l] a.2).bind fun m =>
 some ((vb false), m.2))
 ((aA 3 b a.2).bind fun o =>
 (FF cu [x0, x1, (vi 3), o] a.2).bind fun d =>
 ld [.n, .f 1] x0 d.2 fun p =>
 st 1 [.i 1 a.1] p x4 d.2 fun q =>
 some ((vb true), q))) = some r) : FF gM [x0, x1, x2, x3, x4] H = some r :=
 fo Tryz.func138 (by kernel_rfl) h
theorem Il {r : Value × AH} (h : (
 aV [(vi 0), (.slice none 0 0), (vi 0), (vw 0)] H fun b d =>
 (FF lY [x0, x1, x2] d).bind fun e =>
 (FF lV [x0, x2] e.2).bind fun a =>
 (ag a.1 0).bind fun f =>
 (ag a.1 1).bind fun g =>
 (cG 4 b f a.2).bind fun c =>
 (aA 4 b c).bind fun i => some (Value.tuple #[i, g], c)) = some r) : FF jb [x0, x1, x2] H = some r :=
 fo Tryz.func139 (by kernel_rfl) h
noncomputable def IQ (p : List Nat) : Code := Code.sub (bM Tryz.f140) p
noncomputable def tZ : KK := dP PP (Tryz.f140).results.toList
noncomputable def S6 : KK := CQ (IQ [1, 1]) tZ bA tZ
noncomputable def Ct : OV := S6 (ls [x0, u, u, u, x4, x5, x6] 27) H
noncomputable def IR : KK := CQ (IQ [1, 1, 1]) tZ bA tZ
noncomputable def akE : KK := en 17179869134 IR
noncomputable def Cu : OV := IR (ls [x0, u, u, u, x4, x5] 28) H
noncomputable def akF : KX := BX 0 akE bA
theorem vF : ar 17179869135 tZ := rf
theorem WP : ar 17179869070 S6 := rc vF aB vF
theorem GA : ar 17179869134 IR := rc vF aB vF
theorem WQ : ∀ i, ar 17179869134 (akF i) := rb (cd GA) aB
theorem FK : Cu x0 x4 x5 H =
 (FF bN [x0, (.func (.func j3) #[x0] #[])] H).bind fun a =>
 (ag a.1 0).bind fun c =>
 (ag a.1 1).bind fun d =>
 (cG 4 x4 c a.2).bind fun b =>
 (aA 4 x4 b).bind fun e => some (Value.tuple #[e, d], b) :=
 (by kernel_rfl)
theorem FJ : Ct x0 x4 x5 x6 H =
 ld [.n, .f 10] x0 H fun e =>
 av e
 ((FF bN [x0, (.func (.func gU) #[x0] #[])] H).bind fun a =>
 (ag a.1 0).bind fun g =>
 (ag a.1 1).bind fun i =>
 (cG 4 x4 g a.2).bind fun c =>
 (aA 4 x4 c).bind fun j => some (Value.tuple #[j, i], c))
 (av x6
 ((FF bN [x0, (.func (.func dn) #[x0] #[])] H).bind fun b =>
 (ag b.1 0).bind fun k =>
 (ag b.1 1).bind fun l =>
 (cG 4 x4 k b.2).bind fun d =>
 (aA 4 x4 d).bind fun m => some (Value.tuple #[m, l], d))
 (Cu x0 x4 x5 H)) :=
 (pt rfl 0 GA (bt rfl (IQ [1, 1, 0, 4]) 0 WQ (by kernel_rfl)))
noncomputable def ajX : OV := bf PP GG FF (IQ []) (ls [x0, x1] 32) H tZ bA tZ
theorem OL {r : Value × AH} (h : (
 aV [(vi 0), (.slice none 0 0), (vi 0), (vw 0)] H fun b c =>
 (FF wn [x0] c).bind fun a =>
 Ct x0 b (vb false) a.1 a.2) = some r) : FF j3 [x0, x1] H = some r :=
 fo (t := ajX x0 x1 H) Tryz.func140 (by kernel_rfl) (Eq.trans (pt rfl 1 WP (by kernel_rfl)) h)
theorem uW {r : Value × AH} (h : (
 ld [.n, .f 2, .f 1] x0 H fun b =>
 (ai .other .lss b (vi 0)).bind fun a =>
 (gV a false x0).bind fun c =>
 gk a false  [.n, .f 2, .f 1] c H fun d =>
 (gB a false (ai .other .gtr d (vi 1048576))).bind fun e =>
 (bd a (vb true) e).bind fun g =>
 some (g, H)) = some r) : FF gu [x0] H = some r :=
 fo Tryz.func141 (by kernel_rfl) h
theorem wZ {r : Value × AH} (h : (
 aV [(vi 0), (.slice none 0 0), (vi 0), (vw 0)] H fun a c =>
 (FF da [x0, x1, x2] c).bind fun d =>
 ic [(0, 1), (1, 1), (2, 1), (3, 1)] [(vi 0), (.slice none 0 0), (vi 0), (vw 0)] [(0, x2)] fun e =>
 (cG 4 a e d.2).bind fun b =>
 (aA 4 a b).bind fun f => some (Value.tuple #[f, (vb true)], b)) = some r) : FF dp [x0, x1, x2] H = some r :=
 fo Tryz.func142 (by kernel_rfl) h
theorem AZ {r : Value × AH} (h : (
 aV [(vi 0), (.slice none 0 0), (vi 0), (vw 0)] H fun b a =>
 ld [.n, .f 0] x0 a fun j =>
 ld [.n, .f 2] j a fun k =>
 ld [.n, .f 1] x0 a fun l =>
 ld [.n, .f 6] x0 a fun m =>
 (FF ee [k, l, m] a).bind fun c =>
 (oc .not c.1).bind fun o =>
 av o
 ((FF bg [x0, (.func (.func cZ) #[x0] #[])] c.2).bind fun d =>
 (ag d.1 0).bind fun p =>
 (ag d.1 1).bind fun q =>
 (cG 4 b p d.2).bind fun g =>
 (aA 4 b g).bind fun s => some (Value.tuple #[s, q], g))
 ((FF bg [x0, (.func (.func cj) #[x0] #[])] c.2).bind fun e =>
 (ag e.1 0).bind fun t =>
 (ag e.1 1).bind fun w =>
 (cG 4 b t e.2).bind fun i =>
 (aA 4 b i).bind fun y => some (Value.tuple #[y, w], i))) = some r) : FF cZ [x0, x1] H = some r :=
 fo Tryz.func143 (by kernel_rfl) h
theorem yS {r : Value × AH} (h : (
 aV [(vi 0), (.slice none 0 0), (vi 0), (vw 0)] H fun b a =>
 ld [.n, .f 0] x0 a fun j =>
 ld [.n, .f 2] j a fun k =>
 ld [.n, .f 1] x0 a fun l =>
 ld [.n, .f 6] x0 a fun m =>
 (FF ee [k, l, m] a).bind fun c =>
 (oc .not c.1).bind fun o =>
 av o
 ((FF bg [x0, (.func (.func cP) #[x0] #[])] c.2).bind fun d =>
 (ag d.1 0).bind fun p =>
 (ag d.1 1).bind fun q =>
 (cG 4 b p d.2).bind fun g =>
 (aA 4 b g).bind fun s => some (Value.tuple #[s, q], g))
 ((FF bg [x0, (.func (.func bV) #[x0] #[])] c.2).bind fun e =>
 (ag e.1 0).bind fun t =>
 (ag e.1 1).bind fun w =>
 (cG 4 b t e.2).bind fun i =>
 (aA 4 b i).bind fun y => some (Value.tuple #[y, w], i))) = some r) : FF cP [x0, x1] H = some r :=
 fo Tryz.func144 (by kernel_rfl) h
noncomputable def gH (p : List Nat) : Code := Code.sub (bM Tryz.f145) p
noncomputable def gI : KK := dP PP (Tryz.f145).results.toList
noncomputable def S8 : KK := CQ (gH [1, 1]) gI bA gI
noncomputable def agF : OV := S8 (ls [x0, x1, x2, u, u, u, u, x7, x8] 81) H
noncomputable def IS : KK := CQ (gH [1, 1, 1]) gI bA gI
noncomputable def S7 : KK := en Li IS
noncomputable def Qz : OV := IS (ls [x0, x1, x2, u, u, u, u, x7, x8] 81) H
noncomputable def S9 : KK := CQ (gH [1, 1, 1, 1, 1]) gI bA gI
noncomputable def agG : OV := S9 (ls [x0, x1, x2, u, u, u, u, x7, x8, u, x10] 79) H
noncomputable def IT : KK := CQ (gH [1, 1, 1, 1, 1, 1]) gI bA gI
noncomputable def akG : KK := en vg IT
noncomputable def QB : OV := IT (ls [x0, x1, x2, u, u, u, u, x7, x8, u, x10] 79) H
noncomputable def CV : KX := BX 2 akG bA
noncomputable def CX : KX := qz vg CV
noncomputable def CR : KK := xy (gH [1, 1, 1, 1, 1, 0, 4, 5]) CX gI
noncomputable def LS : KK := en vg CR
noncomputable def BF : OV := CR (ls [x0, x1, x2, u, u, u, u, x7, x8, u, x10] 79) H
noncomputable def LU : KK := CQ (gH [1, 1, 1, 1, 1, 0, 4, 5, 1]) LS CX gI
noncomputable def UN : OV := LU (ls [x0, x1, x2, u, u, u, u, x7, x8, u, x10] 79) H
noncomputable def abR : KX := BX 3 LS CX
noncomputable def Hc : OV := CV 2 (ls [x0, x1, x2, u, u, u, u, x7, x8, u, x10] 79) H
noncomputable def LV : KK := CQ (gH [1, 1, 0, 1]) S7 bA gI
noncomputable def UO : OV := LV (ls [x0, x1, x2, u, u, u, u, x7, x8, x9] 80) H
noncomputable def CW : KX := BX 0 S7 bA
noncomputable def vG : KX := qz Li CW
noncomputable def CS : KK := xy (gH [1, 1, 0, 1, 4, 5]) vG gI
noncomputable def LT : KK := en B4 CS
noncomputable def BG : OV := CS (ls [x0, x1, x2, u, u, u, u, x7, x8, x9] 80) H
noncomputable def LW : KK := CQ (gH [1, 1, 0, 1, 4, 5, 1]) LT vG gI
noncomputable def UP : OV := LW (ls [x0, x1, x2, u, u, u, u, x7, x8, x9] 80) H
noncomputable def CT : KK := CQ (gH [1, 1, 0, 1, 4, 5, 1, 1]) LT vG gI
noncomputable def abQ : KK := en B4 CT
noncomputable def BH : OV := CT (ls [x0, x1, x2, u, u, u, u, x7, x8, x9] 80) H
noncomputable def abS : KX := BX 1 abQ vG
noncomputable def He : OV := CW 0 (ls [x0, x1, x2, u, u, u, u, x7, x8] 81) H
theorem eI : ar 1237940039285380274899124223 gI := rf
theorem WR : ar Li S8 := rc eI aB eI
theorem xR : ar Li IS := rc eI aB eI
theorem WS : ar vg S9 := rc eI aB eI
theorem GB : ar vg IT := rc eI aB eI
theorem pf : ∀ i, ar vg (CV i) := rb (cd GB) aB
theorem pd : ar vg CR := rl (cx pf) eI
theorem Pa : ar vg LU := rc (cd pd) (cx pf) eI
theorem Pd : ∀ i, ar vg (abR i) := rb (cd pd) (cx pf)
theorem Pb : ar B4 LV := rc (cd xR) aB eI
theorem mr : ∀ i, ar Li (CW i) := rb (cd xR) aB
theorem pe : ar B4 CS := rl (cx mr) eI
theorem Pc : ar B4 LW := rc (cd pe) (cx mr) eI
theorem CU : ar B4 CT := rc (cd pe) (cx mr) eI
theorem Pe : ∀ i, ar B4 (abS i) := rb (cd CU) (cx mr)
theorem Yz : QB x0 x1 x2 x7 x8 x10 H =
 ld [.n, .f 13] x0 H fun d =>
 (fH 7 d none (some x10)).bind fun e =>
 (fN 7 72 (.slice none 0 0) e H).bind fun a =>
 (aA 4 x7 a.2).bind fun g =>
 ic [(0, 1), (1, 1), (2, 1), (3, 4)] [(vi 0), (vi 0), (vi 0), (vi 0), (.slice none 0 0), (vi 0), (vw 0)] [(0, x1), (1, x2), (2, x8), (3, g)] fun i =>
 FD 1 7 [(vi 0), (vi 0), (vi 0), (vi 0), (.slice none 0 0), (vi 0), (vw 0)] [(0, i)] a.2 fun j k =>
 (fN 7 72 a.1 j k).bind fun b =>
 ld [.n, .f 13] x0 b.2 fun l =>
 (fH 7 l (some x10) none).bind fun m =>
 (fN 7 72 b.1 m b.2).bind fun c =>
 st 1 [.n, .f 13] x0 c.1 c.2 fun o =>
 some (Value.tuple #[], o) :=
 (by kernel_rfl)
theorem QA : UN x0 x1 x2 x7 x8 x10 H =
 (ai .other .sub x10 (vi 1)).bind fun a =>
 BF x0 x1 x2 x7 x8 a H :=
 (bt rfl (gH [1, 1, 1, 1, 1, 0, 4, 5, 1, 4]) 3 Pd (by kernel_rfl))
theorem wT : Hc x0 x1 x2 x7 x8 x10 H = QB x0 x1 x2 x7 x8 x10 H :=
 (by kernel_rfl)
theorem EA : BF x0 x1 x2 x7 x8 x10 H =
 (ai .other .gtr x10 (vi 0)).bind fun a =>
 (gV a true x0).bind fun b =>
 gk a true  [.n, .f 13] b H fun c =>
 (gV a true x10).bind fun d =>
 (gB a true (ai .other .sub d (vi 1))).bind fun e =>
 gk a true  [.i 7 e, .f 0] c H fun g =>
 (gV a true x1).bind fun j =>
 (gB a true (ai .other .gtr g j)).bind fun k =>
 (bd a k (vb false)).bind fun l =>
 av l
 (UN x0 x1 x2 x7 x8 x10 H)
 (Hc x0 x1 x2 x7 x8 x10 H) :=
 yl rfl pd (pt rfl 0 Pa (by kernel_rfl))
theorem Yy : agG x0 x1 x2 x7 x8 x10 H =
 BF x0 x1 x2 x7 x8 x10 H :=
 (pt rfl 0 GB (bt rfl (gH [1, 1, 1, 1, 1, 0, 4]) 2 pf (li rfl (gH [1, 1, 1, 1, 1, 0, 4, 5]) pd (by kernel_rfl))))
theorem Yx : Qz x0 x1 x2 x7 x8 H =
 ld [.f 1] x7 H fun c =>
 (fN 3 24 (.slice none 0 0) c H).bind fun a =>
 st 1 [.f 1] x7 a.1 a.2 fun b =>
 ld [.n, .f 13] x0 b fun d =>
 jd d fun e =>
 agG x0 x1 x2 x7 x8 e b :=
 (pt rfl 1 WS (by kernel_rfl))
theorem QE : BH x0 x1 x2 x7 x8 x9 H =
 (ai .other .add x9 (vi 2)).bind fun a =>
 BG x0 x1 x2 x7 x8 a H :=
 (by kernel_rfl)
theorem QD : UP x0 x1 x2 x7 x8 x9 H =
 ld [.n, .f 12] x0 H fun a =>
 ld [.i 1 x9] a H fun b =>
 (ai .other .eql b x2).bind fun c =>
 av c
 (ld [.n, .f 12] x0 H fun d =>
 (ai .other .add x9 (vi 1)).bind fun e =>
 ld [.i 1 e] d H fun g =>
 BH x0 x1 x2 x7 g x9 H)
 (BH x0 x1 x2 x7 x8 x9 H) :=
 (pt rfl 0 CU (bt rfl (gH [1, 1, 0, 1, 4, 5, 1, 0, 4]) 1 Pe (by kernel_rfl)))
theorem Kb : He x0 x1 x2 x7 x8 H = Qz x0 x1 x2 x7 x8 H :=
 (by kernel_rfl)
theorem EB : BG x0 x1 x2 x7 x8 x9 H =
 ld [.n, .f 12] x0 H fun a =>
 jd a fun b =>
 (ai .other .lss x9 b).bind fun c =>
 av c
 (UP x0 x1 x2 x7 x8 x9 H)
 (He x0 x1 x2 x7 x8 H) :=
 yl rfl pe (pt rfl 0 Pc (by kernel_rfl))
theorem QC : UO x0 x1 x2 x7 x8 x9 H =
 BG x0 x1 x2 x7 x8 x9 H :=
 (bt rfl (gH [1, 1, 0, 1, 4]) 0 mr (li rfl (gH [1, 1, 0, 1, 4, 5]) pe (by kernel_rfl)))
theorem Yw : agF x0 x1 x2 x7 x8 H =
 UO x0 x1 x2 x7 x8 (vi 0) H :=
 (pt rfl 0 xR (pt rfl 0 Pb (by kernel_rfl)))
noncomputable def rPN : OV := bf PP GG FF (gH []) (ls [x0, x1, x2, x3] 86) H gI bA gI
theorem ao9 {r : Value × AH} (h : (
 aV (Value.cells x3).toList H fun a b =>
 agF x0 x1 x2 a (vi 0) b) = some r) : FF afH [x0, x1, x2, x3] H = some r :=
 fo (t := rPN x0 x1 x2 x3 H) Tryz.func145 (by kernel_rfl) (Eq.trans (pt rfl 1 WR (by kernel_rfl)) h)
theorem wO {r : Value × AH} (h : (
 ad [.n, .f 0] x0 fun b =>
 (au b H).bind fun d =>
 (FF cA [(vi 10), x2, x3] H).bind fun c =>
 b7 (au b c.2) (au b H) <|
 (FF d9 [d, x1, c.1] c.2).bind fun a =>
 (ai .other .eql a.1 (vw 0)).bind fun e =>
 av e
 (some (Value.tuple #[(vi 0), (vi 0), (vb false)], a.2))
 ((ai .other .quo a.1 (vw 4294967296)).bind fun g =>
 (cg (some .i64) g).bind fun i =>
 (ai .other .sub i (vi 1)).bind fun j =>
 (ai .other .rem a.1 (vw 4294967296)).bind fun k =>
 (cg (some .i64) k).bind fun l =>
 some (Value.tuple #[j, l, (vb true)], a.2))) = some r) : FF j8 [x0, x1, x2, x3] H = some r :=
 fo Tryz.func146 (by kernel_rfl) h
theorem yK {r : Value × AH} (h : (
 ad [.n, .f 0] x0 fun a =>
 (au a H).bind fun d =>
 ld [.n, .f 1] x0 H fun e =>
 (FF cA [(vi 11), e, (vi 0)] H).bind fun b =>
 b7 (au a b.2) (au a H) <|
 (FF d9 [d, x1, b.1] b.2).bind fun c =>
 some (c.1, c.2)) = some r) : FF lk [x0, x1] H = some r :=
 fo Tryz.func147 (by kernel_rfl) h
theorem AN {r : Value × AH} (h : (
 aV (Value.cells x2).toList H fun b c =>
 (aA 3 b c).bind fun e =>
 (FF cu [x0, x1, (vi 1), e] c).bind fun d =>
 (aA 3 b d.2).bind fun g =>
 (FF Ei [x0, g] d.2).bind fun a =>
 ld [.n, .f 1] x0 a.2 fun j =>
 ld [.i 1 a.1] j a.2 fun k =>
 some (k, a.2)) = some r) : FF d9 [x0, x1, x2] H = some r :=
 fo Tryz.func148 (by kernel_rfl) h
theorem oR {r : Value × AH} (h : (
 ld [.n, .f 2] x0 H fun a =>
 (cg (some .u64) a).bind fun b =>
 (ai .other .rem x1 b).bind fun c =>
 (cg (some .i64) c).bind fun d =>
 some (d, H)) = some r) : FF eD [x0, x1] H = some r :=
 fo Tryz.func149 (by kernel_rfl) h
theorem yF {r : Value × AH} (h : (
 ad [.n, .f 5] x0 fun a =>
 (au a H).bind fun d =>
 (FF cA [(vi 2), (vi 0), (vi 0)] H).bind fun b =>
 b7 (au a b.2) (au a H) <|
 (FF d9 [d, x1, b.1] b.2).bind fun c =>
 some (c.1, c.2)) = some r) : FF eC [x0, x1] H = some r :=
 fo Tryz.func150 (by kernel_rfl) h
theorem yB {r : Value × AH} (h : (
 ad [.n, .f 0] x0 fun a =>
 (au a H).bind fun c =>
 (FF cA [(vi 3), (vi 0), (vi 0)] H).bind fun b =>
 b7 (au a b.2) (au a H) <|
 (FF ku [c, x1, b.1, (vw 1)] b.2).bind fun d =>
 some (Value.tuple #[], d.2)) = some r) : FF iH [x0, x1] H = some r :=
 fo Tryz.func151 (by kernel_rfl) h
theorem yC {r : Value × AH} (h : (
 ad [.n, .f 0] x0 fun a =>
 (au a H).bind fun d =>
 (FF cA [(vi 9), x2, (vi 0)] H).bind fun b =>
 b7 (au a b.2) (au a H) <|
 (FF d9 [d, x1, b.1] b.2).bind fun c =>
 some (c.1, c.2)) = some r) : FF lh [x0, x1, x2] H = some r :=
 fo Tryz.func152 (by kernel_rfl) h
end
section
variable (B D C E G Z X x7 R Y K U N L V O I M J S W Q P T x80 : Value) (H : AH)
theorem wK {r : Value × AH} (h : (
 ad [.n, .f 0] B fun c =>
 (au c H).bind fun k =>
 (FF cA [(vi 14), C, (vi 0)] H).bind fun d =>
 b7 (au c d.2) (au c H) <|
 (FF cu [k, D, (vi 6), d.1] d.2).bind fun l =>
 (FF mE [B, C] l.2).bind fun a =>
 (ai .other .lss a.1 (vi 0)).bind fun m =>
 av m
 (ld [.n, .f 2] B a.2 fun o =>
 FD 1 1 [(vi 0)] [(0, C)] a.2 fun p g =>
 (fN 1 8 o p g).bind fun b =>
 ad [.n, .f 3] B fun e =>
 (au e b.2).bind fun q =>
 b7 (au e g) (au e b.2) <|
 FD 1 1 [(vw 0)] [(0, E)] b.2 fun s t =>
 (fN 1 8 q s t).bind fun j =>
 st 1 [.n, .f 2] B b.1 j.2 fun w =>
 st 1 [.n, .f 3] B j.1 w fun y =>
 some (Value.tuple #[], y))
 (ld [.n, .f 3] B a.2 fun z =>
 st 1 [.i 1 a.1] z E a.2 fun A =>
 some (Value.tuple #[], A))) = some r) : FF j6 [B, D, C, E] H = some r :=
 fo Tryz.func153 (by kernel_rfl) h
theorem wL {r : Value × AH} (h : (
 ad [.n, .f 0] B fun a =>
 (au a H).bind fun d =>
 (FF cA [(vi 9), C, (vi 0)] H).bind fun b =>
 b7 (au a b.2) (au a H) <|
 (cg (some .u64) G).bind fun e =>
 (ai .other .add e (vw 1)).bind fun g =>
 (FF gM [d, D, b.1, E, g] b.2).bind fun c =>
 some (c.1, c.2)) = some r) : FF j7 [B, D, C, E, G] H = some r :=
 fo Tryz.func154 (by kernel_rfl) h
theorem uI {r : Value × AH} (h : (
 ad [.n, .f 0] B fun a =>
 (au a H).bind fun c =>
 (FF cA [(vi 10), C, E] H).bind fun b =>
 b7 (au a b.2) (au a H) <|
 (FF eA [c, D, b.1, (vw 0)] b.2).bind fun d =>
 some (Value.tuple #[], d.2)) = some r) : FF jw [B, D, C, E] H = some r :=
 fo Tryz.func155 (by kernel_rfl) h
noncomputable def qS (p : List Nat) : Code := Code.sub (bM Tryz.f156) p
noncomputable def nQ : KK := dP PP (Tryz.f156).results.toList
noncomputable def Tb : KK := CQ (qS [1, 1]) nQ bA nQ
noncomputable def vZ : OV := Tb (ls [B, D, C, u, u, u, X] 23) H
noncomputable def IU : KK := CQ (qS [1, 1, 1]) nQ bA nQ
noncomputable def Ta : KK := en ml IU
noncomputable def v5 : OV := IU (ls [u, u, u, u, u, u, X] 23) H
noncomputable def Tc : KK := CQ (qS [1, 1, 0, 1]) Ta bA nQ
noncomputable def v7 : OV := Tc (ls [B, D, C, u, u, u, X, x7] 22) H
noncomputable def IW : KX := BX 0 Ta bA
noncomputable def Te : KX := qz ml IW
noncomputable def IV : KK := xy (qS [1, 1, 0, 1, 4, 5]) Te nQ
noncomputable def akH : KK := en jO IV
noncomputable def v8 : OV := IV (ls [B, D, C, u, u, u, X, x7] 22) H
noncomputable def Td : KK := CQ (qS [1, 1, 0, 1, 4, 5, 1]) akH Te nQ
noncomputable def JD : OV := Td (ls [B, D, C, u, u, u, X, x7] 22) H
noncomputable def re : OV := IW 0 (ls [u, u, u, u, u, u, X] 23) H
theorem mt : ar ml nQ := rf
theorem WT : ar 1073741752 Tb := rc mt aB mt
theorem xS : ar ml IU := rc mt aB mt
theorem WU : ar jO Tc := rc (cd xS) aB mt
theorem xW : ∀ i, ar ml (IW i) := rb (cd xS) aB
theorem xV : ar jO IV := rl (cx xW) mt
theorem WV : ar jO Td := rc (cd xV) (cx xW) mt
theorem Ae : v5 X H =
 some ((vb true), H) :=
 (by kernel_rfl)
theorem vY : re X H = v5 X H :=
 (by kernel_rfl)
theorem Ag : v8 B D C X x7 H =
 jd B fun a =>
 (ai .other .lss x7 a).bind fun b =>
 av b
 (JD B D C X x7 H)
 (re X H) :=
 yl rfl xV (pt rfl 0 WV (by kernel_rfl))
theorem Af : v7 B D C X x7 H =
 v8 B D C X x7 H :=
 (bt rfl (qS [1, 1, 0, 1, 4]) 0 xW (li rfl (qS [1, 1, 0, 1, 4, 5]) xV (by kernel_rfl)))
theorem Ad : vZ B D C X H =
 v7 B D C X (vi 0) H :=
 (pt rfl 0 xS (pt rfl 0 WU (by kernel_rfl)))
noncomputable def XV : OV := bf PP GG FF (qS []) (ls [B, D, C] 27) H nQ bA nQ
theorem JE {r : Value × AH} (h : (
 jd B fun a =>
 jd D fun b =>
 (ai .other .neq a b).bind fun c =>
 av c
 (some ((vb false), H))
 (vZ B D C (vb false) H)) = some r) : FF ru [B, D, C] H = some r :=
 fo (t := XV B D C H) Tryz.func156 (by kernel_rfl) (Eq.trans (pt rfl 1 WT (by kernel_rfl)) h)
noncomputable def iQ (p : List Nat) : Code := Code.sub (bM Tryz.f158) p
noncomputable def jX : KK := dP PP (Tryz.f158).results.toList
noncomputable def Th : KK := CQ (iQ [1]) jX bA jX
noncomputable def ag0 : OV := Th (ls [B, D, C, E, u, u, u, u, R] 44) H
noncomputable def I1 : KX := BX 0 jX bA
noncomputable def Bk : KX := qz 9007199254740991 I1
noncomputable def IY : KK := xy (iQ [1, 4, 5]) Bk jX
noncomputable def Tf : KK := en tz IY
noncomputable def Ko : OV := IY (ls [B, D, C, E, u, u, u, u, R] 44) H
noncomputable def Ti : KK := CQ (iQ [1, 4, 5, 1]) Tf Bk jX
noncomputable def ag1 : OV := Ti (ls [B, D, C, E, u, u, u, u, R] 44) H
noncomputable def IZ : KK := CQ (iQ [1, 4, 5, 1, 1]) Tf Bk jX
noncomputable def IX : KK := en tz IZ
noncomputable def ag2 : OV := IZ (ls [B, D, C, E, u, u, u, u, R] 44) H
noncomputable def Tl : KX := BX 1 IX Bk
noncomputable def Tm : KX := qz tz Tl
noncomputable def Tj : KK := CQ (iQ [1, 4, 5, 1, 0, 4, 1]) IX Tm jX
noncomputable def ag3 : OV := Tj (ls [B, D, C, E, u, u, u, u, R, Y] 43) H
noncomputable def I3 : KX := BX 2 IX Tm
noncomputable def Bl : KX := qz tz I3
noncomputable def I0 : KK := xy (iQ [1, 4, 5, 1, 0, 4, 1, 4, 5]) Bl jX
noncomputable def Tg : KK := en Ca I0
noncomputable def Kp : OV := I0 (ls [B, D, C, E, u, u, u, u, R, Y] 43) H
noncomputable def LX : KK := CQ (iQ [1, 4, 5, 1, 0, 4, 1, 4, 5, 1]) Tg Bl jX
noncomputable def U2 : OV := LX (ls [B, D, C, E, u, u, u, u, R, Y] 43) H
noncomputable def CY : KK := CQ (iQ [1, 4, 5, 1, 0, 4, 1, 4, 5, 1, 1]) Tg Bl jX
noncomputable def abT : KK := en Ca CY
noncomputable def U3 : OV := CY (ls [B, D, C, E, u, u, u, u, R, Y] 43) H
noncomputable def abU : KX := BX 3 abT Bl
noncomputable def Nr : OV := I3 2 (ls [B, D, C, E, u, u, u, u, R] 44) H
noncomputable def Nq (H : AH) : OV := I1 0 (ls [] 53) H
theorem iA : ar 9007199254740991 jX := rf
theorem WW : ar tz Th := rc iA aB iA
theorem ou : ∀ i, ar 9007199254740991 (I1 i) := rb iA aB
theorem sN : ar tz IY := rl (cx ou) iA
theorem WX : ar tz Ti := rc (cd sN) (cx ou) iA
theorem sO : ar tz IZ := rc (cd sN) (cx ou) iA
theorem xX : ∀ i, ar tz (Tl i) := rb (cd sO) (cx ou)
theorem WY : ar Ca Tj := rc (cd sO) (cx xX) iA
theorem ow : ∀ i, ar tz (I3 i) := rb (cd sO) (cx xX)
theorem sP : ar Ca I0 := rl (cx ow) iA
theorem Pf : ar Ca LX := rc (cd sP) (cx ow) iA
theorem CZ : ar Ca CY := rc (cd sP) (cx ow) iA
theorem Pg : ∀ i, ar Ca (abU i) := rb (cd CZ) (cx ow)
theorem Hr : ag2 B D C E R H =
 (ai .other .add R (vi 1)).bind fun a =>
 Ko B D C E a H :=
 (by kernel_rfl)
theorem QY : U3 B D C E R Y H =
 (ai .other .sub Y (vi 1)).bind fun a =>
 Kp B D C E R a H :=
 (by kernel_rfl)
theorem QX : U2 B D C E R Y H =
 (ai .other .sub Y (vi 1)).bind fun a =>
 (ai .other .sub Y (vi 1)).bind fun b =>
 ldN 7 [.i 7 b] B H fun c =>
 ldN 7 [.i 7 Y] B H fun d =>
 st 7 [.i 7 Y] B c H fun e =>
 st 7 [.i 7 a] B d e fun f =>
 U3 B D C E R Y f :=
 (pt rfl 0 CZ (bt rfl (iQ [1, 4, 5, 1, 0, 4, 1, 4, 5, 1, 0, 4]) 3 Pg (by kernel_rfl)))
theorem zO : Nr B D C E R H = ag2 B D C E R H :=
 (by kernel_rfl)
theorem Ht : Kp B D C E R Y H =
 (ai .other .gtr Y D).bind fun a =>
 (gV a true E).bind fun d =>
 (gV a true B).bind fun e =>
 (gV a true Y).bind fun f =>
 oF a true  7 [.i 7 f] e H fun g =>
 (gV a true B).bind fun j =>
 (gV a true Y).bind fun k =>
 (gB a true (ai .other .sub k (vi 1))).bind fun l =>
 oF a true  7 [.i 7 l] j H fun m =>
 (gE a true H ((cf d [g, m]).bind fun c => FF c.1 c.2 H)).bind fun b =>
 (gB a true (ai .other .lss b.1 (vi 0))).bind fun n =>
 (bd a n (vb false)).bind fun o =>
 av o
 (U2 B D C E R Y b.2)
 (Nr B D C E R b.2) :=
 yl rfl sP (pt rfl 0 Pf (by kernel_rfl))
theorem YL : ag3 B D C E R Y H =
 Kp B D C E R Y H :=
 (bt rfl (iQ [1, 4, 5, 1, 0, 4, 1, 4]) 2 ow (li rfl (iQ [1, 4, 5, 1, 0, 4, 1, 4, 5]) sP (by kernel_rfl)))
theorem YK : ag1 B D C E R H =
 ag3 B D C E R R H :=
 (pt rfl 0 sO (bt rfl (iQ [1, 4, 5, 1, 0, 4]) 1 xX (pt rfl 0 WY (by kernel_rfl))))
theorem zN (H : AH) : Nq H = some (Value.tuple #[], H) :=
 (by kernel_rfl)
theorem yY : Ko B D C E R H =
 (ai .other .lss R C).bind fun a =>
 av a
 (ag1 B D C E R H)
 (Nq H) :=
 yl rfl sN (pt rfl 0 WX (by kernel_rfl))
theorem YJ : ag0 B D C E R H =
 Ko B D C E R H :=
 (bt rfl (iQ [1, 4]) 0 ou (li rfl (iQ [1, 4, 5]) sN (by kernel_rfl)))
noncomputable def sIn : OV := bf PP GG FF (iQ []) (ls [B, D, C, E] 49) H jX bA jX
theorem apG {r : Value × AH} (h : (
 (ai .other .add D (vi 1)).bind fun a =>
 ag0 B D C E a H) = some r) : FF Uz [B, D, C, E] H = some r :=
 fo (t := sIn B D C E H) Tryz.func158 (by kernel_rfl) (Eq.trans (pt rfl 0 WW (by kernel_rfl)) h)
noncomputable def bH (p : List Nat) : Code := Code.sub (bM Tryz.f159) p
noncomputable def bY : KK := dP PP (Tryz.f159).results.toList
noncomputable def I4 : KK := CQ (bH [1]) bY bA bY
noncomputable def Bm : KK := en ajL I4
noncomputable def ag4 : OV := I4 (ls [B, D, C, E, G] 215) H
noncomputable def I5 : KK := CQ (bH [1, 1]) bY bA bY
noncomputable def Bn : KK := en ajL I5
noncomputable def ag5 : OV := I5 (ls [B, D, C, E, G] 215) H
noncomputable def Tn : KK := CQ (bH [1, 1, 1, 1, 1]) bY bA bY
noncomputable def ag6 : OV := Tn (ls [B, D, C, E, G, u, u, u, u, u, u, u, u, u, u, u, u, u, I, M] 200) H
noncomputable def To : KK := CQ (bH [1, 1, 1, 1, 1, 1]) bY bA bY
noncomputable def Q1 : OV := To (ls [B, D, C, E, G, u, u, u, u, u, u, u, u, u, u, u, u, u, I, M, J, S] 198) H
noncomputable def Tp : KK := CQ (bH [1, 1, 1, 1, 1, 1, 1]) bY bA bY
noncomputable def ag7 : OV := Tp (ls [B, D, C, E, G, u, u, u, u, u, u, u, u, u, u, u, u, u, I, M, J, S, W] 197) H
noncomputable def I6 : KK := CQ (bH [1, 1, 1, 1, 1, 1, 1, 1]) bY bA bY
noncomputable def akI : KK := en ajM I6
noncomputable def Q3 : OV := I6 (ls [B, D, C, E, G, u, u, u, u, u, u, u, u, u, u, u, u, u, I, M, J] 199) H
noncomputable def Tq : KK := CQ (bH [1, 1, 1, 1, 1, 1, 1, 1, 1]) bY bA bY
noncomputable def ag8 : OV := Tq (ls [B, D, C, E, G, u, u, u, u, u, u, u, u, u, u, u, u, u, I, u, J, u, u, u, Q] 195) H
noncomputable def Tt : KK := CQ (bH [1, 1, 1, 1, 1, 1, 1, 1, 1, 1]) bY bA bY
noncomputable def Kv : OV := Tt (ls [B, D, u, E, G, u, u, u, u, u, u, u, u, u, u, u, u, u, I, u, J, u, u, u, Q] 195) H
noncomputable def Tv : KK := CQ (bH [1, 1, 1, 1, 1, 1, 1, 1, 1, 1, 1]) bY bA bY
noncomputable def Kw : OV := Tv (ls [B, u, u, E, G, u, u, u, u, u, u, u, u, u, u, u, u, u, I, u, u, u, u, u, Q] 195) H
noncomputable def De : KX := BX 8 akI bA
noncomputable def Dj : KX := qz ajM De
noncomputable def C0 : KK := xy (bH [1, 1, 1, 1, 1, 1, 1, 0, 4, 5]) Dj bY
noncomputable def LY : KK := en Z9 C0
noncomputable def xe : OV := C0 (ls [B, D, C, E, G, u, u, u, u, u, u, u, u, u, u, u, u, u, I, M, J, S, W] 197) H
noncomputable def L9 : KK := CQ (bH [1, 1, 1, 1, 1, 1, 1, 0, 4, 5, 1]) LY Dj bY
noncomputable def U4 : OV := L9 (ls [B, D, C, E, G, u, u, u, u, u, u, u, u, u, u, u, u, u, I, M, J, S, W] 197) H
noncomputable def abZ : KX := BX 9 LY Dj
noncomputable def Hu : OV := De 8 (ls [B, D, C, E, G, u, u, u, u, u, u, u, u, u, u, u, u, u, I, M, J] 199) H
noncomputable def Ma : KK := CQ (bH [1, 0, 1]) Bn bA bY
noncomputable def U5 : OV := Ma (ls [B, D, C, E, G, u, u, u, u, u, u, u, u, u, u, u, u, u, u, u, u, u, u, u, u, u, u, u, u, u, u, u, u, u, u, u, u, u, u, u, u, u, u, u, u, u, u, u, u, u, u, u, u, u, u, u, u, u, u, u, u, u, u, u, u, u, u, u, u, u, u, u, u, u, u, u, u, u, u, u, x80] 139) H
noncomputable def Mb : KK := CQ (bH [1, 0, 1, 2, 1, 1]) Bn bA bY
noncomputable def Ku : OV := Mb (ls [B, u, C, u, G, u, u, u, u, u, u, u, u, u, L, V] 204) H
noncomputable def C1 : KK := CQ (bH [1, 0, 1, 2, 1, 1, 1]) Bn bA bY
noncomputable def abV : KK := en ajN C1
noncomputable def U6 : OV := C1 (ls [B, u, C, u, u, u, u, u, u, u, u, u, u, u, L] 205) H
noncomputable def C3 : KK := CQ (bH [1, 0, 1, 2, 1, 1, 1, 1]) Bn bA bY
noncomputable def LZ : KK := en Id C3
noncomputable def U7 (H : AH) : OV := C3 (ls [] 220) H
noncomputable def Mc : KK := CQ (bH [1, 0, 1, 2, 1, 1, 1, 0, 1]) LZ bA bY
noncomputable def U8 : OV := Mc (ls [B, u, u, u, u, u, u, u, u, u, u, u, u, u, L, u, u, O] 202) H
noncomputable def Df : KX := BX 6 LZ bA
noncomputable def vH : KX := qz Id Df
noncomputable def C4 : KK := xy (bH [1, 0, 1, 2, 1, 1, 1, 0, 1, 4, 5]) vH bY
noncomputable def L4 : KK := en Oo C4
noncomputable def BI : OV := C4 (ls [B, u, u, u, u, u, u, u, u, u, u, u, u, u, L, u, u, O] 202) H
noncomputable def Md : KK := CQ (bH [1, 0, 1, 2, 1, 1, 1, 0, 1, 4, 5, 1]) L4 vH bY
noncomputable def U9 : OV := Md (ls [B, u, u, u, u, u, u, u, u, u, u, u, u, u, L, u, u, O] 202) H
noncomputable def C5 : KK := CQ (bH [1, 0, 1, 2, 1, 1, 1, 0, 1, 4, 5, 1, 1]) L4 vH bY
noncomputable def abW : KK := en Oo C5
noncomputable def Va : OV := C5 (ls [B, u, u, u, u, u, u, u, u, u, u, u, u, u, L, u, u, O] 202) H
noncomputable def ab0 : KX := BX 7 abW vH
noncomputable def Hv (H : AH) : OV := Df 6 (ls [] 220) H
noncomputable def Dg : KX := BX 4 abV bA
noncomputable def Dk : KX := qz ajN Dg
noncomputable def C7 : KK := xy (bH [1, 0, 1, 2, 1, 1, 0, 4, 5]) Dk bY
noncomputable def L5 : KK := en aaA C7
noncomputable def xf : OV := C7 (ls [B, u, C, u, G, u, u, u, u, u, u, u, u, u, L, V] 204) H
noncomputable def Me : KK := CQ (bH [1, 0, 1, 2, 1, 1, 0, 4, 5, 1]) L5 Dk bY
noncomputable def Vb : OV := Me (ls [B, u, C, u, G, u, u, u, u, u, u, u, u, u, L, V] 204) H
noncomputable def ab1 : KX := BX 5 L5 Dk
noncomputable def Hw : OV := Dg 4 (ls [B, u, C, u, u, u, u, u, u, u, u, u, u, u, L] 205) H
noncomputable def Mf : KK := CQ (bH [0, 1]) Bm bA bY
noncomputable def Vc : OV := Mf (ls [B, D, C, E, G, u, u, u, u, u, u, u, u, u, u, u, u, u, u, u, u, u, u, u, u, u, u, u, P] 191) H
noncomputable def Mg : KK := CQ (bH [0, 1, 2, 1, 1]) Bm bA bY
noncomputable def Kx : OV := Mg (ls [B, D, u, u, G, u, u, u, u, u, K, U] 208) H
noncomputable def C8 : KK := CQ (bH [0, 1, 2, 1, 1, 1]) Bm bA bY
noncomputable def abX : KK := en RU C8
noncomputable def Vd : OV := C8 (ls [B, D, u, u, u, u, u, u, u, u, K] 209) H
noncomputable def Da : KK := CQ (bH [0, 1, 2, 1, 1, 1, 1]) Bm bA bY
noncomputable def L6 : KK := en Id Da
noncomputable def Ve (H : AH) : OV := Da (ls [] 220) H
noncomputable def Mh : KK := CQ (bH [0, 1, 2, 1, 1, 1, 0, 1]) L6 bA bY
noncomputable def Vf : OV := Mh (ls [B, u, u, u, u, u, u, u, u, u, K, u, u, N] 206) H
noncomputable def Dh : KX := BX 2 L6 bA
noncomputable def vI : KX := qz Id Dh
noncomputable def Db : KK := xy (bH [0, 1, 2, 1, 1, 1, 0, 1, 4, 5]) vI bY
noncomputable def L7 : KK := en Oq Db
noncomputable def BJ : OV := Db (ls [B, u, u, u, u, u, u, u, u, u, K, u, u, N] 206) H
noncomputable def Mi : KK := CQ (bH [0, 1, 2, 1, 1, 1, 0, 1, 4, 5, 1]) L7 vI bY
noncomputable def Vg : OV := Mi (ls [B, u, u, u, u, u, u, u, u, u, K, u, u, N] 206) H
noncomputable def Dc : KK := CQ (bH [0, 1, 2, 1, 1, 1, 0, 1, 4, 5, 1, 1]) L7 vI bY
noncomputable def abY : KK := en Oq Dc
noncomputable def Vh : OV := Dc (ls [B, u, u, u, u, u, u, u, u, u, K, u, u, N] 206) H
noncomputable def ab2 : KX := BX 3 abY vI
noncomputable def Hx (H : AH) : OV := Dh 2 (ls [] 220) H
noncomputable def xZ : KX := BX 0 abX bA
noncomputable def ya : KX := qz RU xZ
noncomputable def xY : KK := xy (bH [0, 1, 2, 1, 1, 0, 4, 5]) ya bY
noncomputable def GC : KK := en aaC xY
noncomputable def sa : OV := xY (ls [B, D, u, u, G, u, u, u, u, u, K, U] 208) H
noncomputable def GD : KK := CQ (bH [0, 1, 2, 1, 1, 0, 4, 5, 1]) GC ya bY
noncomputable def Nt : OV := GD (ls [B, D, u, u, G, u, u, u, u, u, K, U] 208) H
noncomputable def W5 : KX := BX 1 GC ya
noncomputable def ET : OV := xZ 0 (ls [B, D, u, u, u, u, u, u, u, u, K] 209) H
theorem bv : ar Id bY := rf
theorem ox : ar ajL I4 := rc bv aB bv
theorem oy : ar ajL I5 := rc bv aB bv
theorem WZ : ar 1684996666696914987166688442938726917102321526408785780068974854112 Tn := rc bv aB bv
theorem W0 : ar 1684996666696914987166688442938726917102321526408785780068971708384 To := rc bv aB bv
theorem W1 : ar Z9 Tp := rc bv aB bv
theorem GE : ar ajM I6 := rc bv aB bv
theorem W2 : ar 1684996666696914987166688442938726917102321526408785780068957552608 Tq := rc bv aB bv
theorem W3 : ar 1684996666696914987166688442938726917102321526408785780068957552612 Tt := rc bv aB bv
theorem W4 : ar 1684996666696914987166688442938726917102321526408785780068958601190 Tv := rc bv aB bv
theorem pk : ∀ i, ar ajM (De i) := rb (cd GE) aB
theorem pg : ar Z9 C0 := rl (cx pk) bv
theorem Ph : ar Z9 L9 := rc (cd pg) (cx pk) bv
theorem Ps : ∀ i, ar Z9 (abZ i) := rb (cd pg) (cx pk)
theorem Pi : ar 1684996666696914987166688442938726917102320317482966165439800934368 Ma := rc (cd oy) aB bv
theorem Pj : ar aaA Mb := rc (cd oy) aB bv
theorem C2 : ar ajN C1 := rc (cd oy) aB bv
theorem t3 : ar Id C3 := rc (cd oy) aB bv
theorem Pl : ar Oo Mc := rc (cd t3) aB bv
theorem mu : ∀ i, ar Id (Df i) := rb (cd t3) aB
theorem ph : ar Oo C4 := rl (cx mu) bv
theorem Pm : ar Oo Md := rc (cd ph) (cx mu) bv
theorem C6 : ar Oo C5 := rc (cd ph) (cx mu) bv
theorem Pu : ∀ i, ar Oo (ab0 i) := rb (cd C6) (cx mu)
theorem pn : ∀ i, ar ajN (Dg i) := rb (cd C2) aB
theorem pi : ar aaA C7 := rl (cx pn) bv
theorem Pn : ar aaA Me := rc (cd pi) (cx pn) bv
theorem Pv : ∀ i, ar aaA (ab1 i) := rb (cd pi) (cx pn)
theorem Po : ar 1684996666696914987166688442938726917102321526408785780068707205088 Mf := rc (cd ox) aB bv
theorem Pp : ar aaC Mg := rc (cd ox) aB bv
theorem C9 : ar RU C8 := rc (cd ox) aB bv
theorem t4 : ar Id Da := rc (cd ox) aB bv
theorem Pq : ar Oq Mh := rc (cd t4) aB bv
theorem mv : ∀ i, ar Id (Dh i) := rb (cd t4) aB
theorem pj : ar Oq Db := rl (cx mv) bv
theorem Pr : ar Oq Mi := rc (cd pj) (cx mv) bv
theorem Dd : ar Oq Dc := rc (cd pj) (cx mv) bv
theorem Pw : ∀ i, ar Oq (ab2 i) := rb (cd Dd) (cx mv)
theorem m6 : ∀ i, ar RU (xZ i) := rb (cd C9) aB
theorem m0 : ar aaC xY := rl (cx m6) bv
theorem L8 : ar aaC GD := rc (cd m0) (cx m6) bv
theorem Mj : ∀ i, ar aaC (W5 i) := rb (cd m0) (cx m6)
theorem YS : Kw B E G I Q H =
 (ai .other .lss I Q).bind fun a =>
 (gV a true Q).bind fun b =>
 (gV a true E).bind fun c =>
 (gB a true (ai .other .lss b c)).bind fun d =>
 (bd a d (vb false)).bind fun e =>
 av e
 ((FF G0 [B, I, Q, E, G] H).bind fun f =>
 some (Value.tuple #[], f.2))
 (some (Value.tuple #[], H)) :=
 (by kernel_rfl)
theorem YR : Kv B D E G I J Q H =
 (ai .other .lss D J).bind fun a =>
 (gV a true J).bind fun b =>
 (gV a true I).bind fun c =>
 (gB a true (ai .other .lss b c)).bind fun d =>
 (bd a d (vb false)).bind fun e =>
 av e
 ((FF G0 [B, D, J, I, G] H).bind fun f =>
 Kw B E G I Q f.2)
 (Kw B E G I Q H) :=
 (pt rfl 0 W4 (by kernel_rfl))
theorem YQ : ag8 B D C E G I J Q H =
 (ai .other .lss J C).bind fun a =>
 (gV a true C).bind fun b =>
 (gV a true Q).bind fun c =>
 (gB a true (ai .other .lss b c)).bind fun d =>
 (bd a d (vb false)).bind fun e =>
 av e
 ((FF afM [B, J, C, Q, G] H).bind fun f =>
 Kv B D E G I J Q f.2)
 (Kv B D E G I J Q H) :=
 (pt rfl 0 W3 (by kernel_rfl))
theorem YP : Q3 B D C E G I M J H =
 (ai .other .sub M J).bind fun a =>
 ag8 B D C E G I J a H :=
 (pt rfl 0 W2 (by kernel_rfl))
theorem Q2 : U4 B D C E G I M J S W H =
 (ai .other .add J S).bind fun d =>
 (cg (some .u64) d).bind fun e =>
 (ai .other .shr e (vw 1)).bind fun f =>
 (cg (some .i64) f).bind fun a =>
 (ai .other .sub W a).bind fun g =>
 ldN 7 [.i 7 g] B H fun j =>
 ldN 7 [.i 7 a] B H fun k =>
 (cf G [j, k]).bind fun c => (FF c.1 c.2 H).bind fun b =>
 (ai .other .lss b.1 (vi 0)).bind fun l =>
 (oc .not l).bind fun m =>
 av m
 ((ai .other .add a (vi 1)).bind fun n =>
 xe B D C E G I M n S W b.2)
 (xe B D C E G I M J a W b.2) :=
 (bt rfl (bH [1, 1, 1, 1, 1, 1, 1, 0, 4, 5, 1, 4]) 9 Ps (by kernel_rfl))
theorem Kq : Hu B D C E G I M J H = Q3 B D C E G I M J H :=
 (by kernel_rfl)
theorem QZ : xe B D C E G I M J S W H =
 (ai .other .lss J S).bind fun a =>
 av a
 (U4 B D C E G I M J S W H)
 (Hu B D C E G I M J H) :=
 yl rfl pg (pt rfl 0 Ph (by kernel_rfl))
theorem Hz : ag7 B D C E G I M J S W H =
 xe B D C E G I M J S W H :=
 (pt rfl 0 GE (bt rfl (bH [1, 1, 1, 1, 1, 1, 1, 0, 4]) 8 pk (li rfl (bH [1, 1, 1, 1, 1, 1, 1, 0, 4, 5]) pg (by kernel_rfl))))
theorem Hy : Q1 B D C E G I M J S H =
 (ai .other .sub M (vi 1)).bind fun a =>
 ag7 B D C E G I M J S a H :=
 (pt rfl 0 W1 (by kernel_rfl))
theorem YO : ag6 B D C E G I M H =
 (ai .other .gtr C I).bind fun a =>
 av a
 ((ai .other .sub M E).bind fun b =>
 Q1 B D C E G I M b I H)
 (Q1 B D C E G I M D C H) :=
 (pt rfl 0 W0 (by kernel_rfl))
theorem YN : ag5 B D C E G H =
 (ai .other .add D E).bind fun b =>
 (cg (some .u64) b).bind fun c =>
 (ai .other .shr c (vw 1)).bind fun d =>
 (cg (some .i64) d).bind fun a =>
 (ai .other .add a C).bind fun e =>
 ag6 B D C E G a e H :=
 (pt rfl 2 WZ (by kernel_rfl))
theorem Q6 (H : AH) : U7 H =
 some (Value.tuple #[], H) :=
 (by kernel_rfl)
theorem Q9 : Va B L O H =
 (ai .other .sub O (vi 1)).bind fun a =>
 BI B L a H :=
 (by kernel_rfl)
theorem Q8 : U9 B L O H =
 (ai .other .sub O (vi 1)).bind fun a =>
 (ai .other .sub O (vi 1)).bind fun b =>
 ldN 7 [.i 7 b] B H fun c =>
 ldN 7 [.i 7 O] B H fun d =>
 st 7 [.i 7 O] B c H fun e =>
 st 7 [.i 7 a] B d e fun f =>
 Va B L O f :=
 (pt rfl 0 C6 (bt rfl (bH [1, 0, 1, 2, 1, 1, 1, 0, 1, 4, 5, 1, 0, 4]) 7 Pu (by kernel_rfl)))
theorem Kr (H : AH) : Hv H = U7 H :=
 (by kernel_rfl)
theorem EV : BI B L O H =
 (ai .other .gtr O L).bind fun a =>
 av a
 (U9 B L O H)
 (Hv H) :=
 yl rfl ph (pt rfl 0 Pm (by kernel_rfl))
theorem Q7 : U8 B L O H =
 BI B L O H :=
 (bt rfl (bH [1, 0, 1, 2, 1, 1, 1, 0, 1, 4]) 6 mu (li rfl (bH [1, 0, 1, 2, 1, 1, 1, 0, 1, 4, 5]) ph (by kernel_rfl)))
theorem Q5 : U6 B C L H =
 U8 B L C H :=
 (pt rfl 0 t3 (pt rfl 0 Pl (by kernel_rfl)))
theorem Rb : Vb B C G L V H =
 (ai .other .add L V).bind fun d =>
 (cg (some .u64) d).bind fun e =>
 (ai .other .shr e (vw 1)).bind fun f =>
 (cg (some .i64) f).bind fun a =>
 ldN 7 [.i 7 C] B H fun g =>
 ldN 7 [.i 7 a] B H fun j =>
 (cf G [g, j]).bind fun c => (FF c.1 c.2 H).bind fun b =>
 (ai .other .lss b.1 (vi 0)).bind fun k =>
 (oc .not k).bind fun l =>
 av l
 ((ai .other .add a (vi 1)).bind fun m =>
 xf B C G m V b.2)
 (xf B C G L a b.2) :=
 (bt rfl (bH [1, 0, 1, 2, 1, 1, 0, 4, 5, 1, 4]) 5 Pv (by kernel_rfl))
theorem Ks : Hw B C L H = U6 B C L H :=
 (by kernel_rfl)
theorem Ra : xf B C G L V H =
 (ai .other .lss L V).bind fun a =>
 av a
 (Vb B C G L V H)
 (Hw B C L H) :=
 yl rfl pi (pt rfl 0 Pn (by kernel_rfl))
theorem Q4 : Ku B C G L V H =
 xf B C G L V H :=
 (pt rfl 0 C2 (bt rfl (bH [1, 0, 1, 2, 1, 1, 0, 4]) 4 pn (li rfl (bH [1, 0, 1, 2, 1, 1, 0, 4, 5]) pi (by kernel_rfl))))
theorem EU : U5 B D C E G x80 H =
 av x80
 (Ku B C G D C H)
 (ag5 B D C E G H) :=
 (ct rfl (bH [1, 0, 1, 2]) (bH [1, 0, 1, 3]) (.tmp 80) (pt rfl 1 Pj (by kernel_rfl)) (by kernel_rfl))
theorem YM : ag4 B D C E G H =
 (ai .other .sub E C).bind fun a =>
 (ai .other .eql a (vi 1)).bind fun b =>
 U5 B D C E G b H :=
 (pt rfl 0 oy (pt rfl 0 Pi (by kernel_rfl)))
theorem Rf (H : AH) : Ve H =
 some (Value.tuple #[], H) :=
 (by kernel_rfl)
theorem Ri : Vh B K N H =
 (ai .other .add N (vi 1)).bind fun a =>
 BJ B K a H :=
 (by kernel_rfl)
theorem Rh : Vg B K N H =
 (ai .other .add N (vi 1)).bind fun a =>
 (ai .other .add N (vi 1)).bind fun b =>
 ldN 7 [.i 7 b] B H fun c =>
 ldN 7 [.i 7 N] B H fun d =>
 st 7 [.i 7 N] B c H fun e =>
 st 7 [.i 7 a] B d e fun f =>
 Vh B K N f :=
 (pt rfl 0 Dd (bt rfl (bH [0, 1, 2, 1, 1, 1, 0, 1, 4, 5, 1, 0, 4]) 3 Pw (by kernel_rfl)))
theorem Kt (H : AH) : Hx H = Ve H :=
 (by kernel_rfl)
theorem EX : BJ B K N H =
 (ai .other .sub K (vi 1)).bind fun a =>
 (ai .other .lss N a).bind fun b =>
 av b
 (Vg B K N H)
 (Hx H) :=
 yl rfl pj (pt rfl 0 Pr (by kernel_rfl))
theorem Rg : Vf B K N H =
 BJ B K N H :=
 (bt rfl (bH [0, 1, 2, 1, 1, 1, 0, 1, 4]) 2 mv (li rfl (bH [0, 1, 2, 1, 1, 1, 0, 1, 4, 5]) pj (by kernel_rfl)))
theorem Re : Vd B D K H =
 Vf B K D H :=
 (pt rfl 0 t4 (pt rfl 0 Pq (by kernel_rfl)))
theorem Nu : Nt B D G K U H =
 (ai .other .add K U).bind fun d =>
 (cg (some .u64) d).bind fun e =>
 (ai .other .shr e (vw 1)).bind fun f =>
 (cg (some .i64) f).bind fun a =>
 ldN 7 [.i 7 a] B H fun g =>
 ldN 7 [.i 7 D] B H fun j =>
 (cf G [g, j]).bind fun c => (FF c.1 c.2 H).bind fun b =>
 (ai .other .lss b.1 (vi 0)).bind fun k =>
 av k
 ((ai .other .add a (vi 1)).bind fun l =>
 sa B D G l U b.2)
 (sa B D G K a b.2) :=
 (bt rfl (bH [0, 1, 2, 1, 1, 0, 4, 5, 1, 4]) 1 Mj (by kernel_rfl))
theorem F3 : ET B D K H = Vd B D K H :=
 (by kernel_rfl)
theorem Ns : sa B D G K U H =
 (ai .other .lss K U).bind fun a =>
 av a
 (Nt B D G K U H)
 (ET B D K H) :=
 yl rfl m0 (pt rfl 0 L8 (by kernel_rfl))
theorem Rc : Kx B D G K U H =
 sa B D G K U H :=
 (pt rfl 0 C9 (bt rfl (bH [0, 1, 2, 1, 1, 0, 4]) 0 m6 (li rfl (bH [0, 1, 2, 1, 1, 0, 4, 5]) m0 (by kernel_rfl))))
theorem EW : Vc B D C E G P H =
 av P
 (Kx B D G C E H)
 (ag4 B D C E G H) :=
 (ct rfl (bH [0, 1, 2]) (bH [0, 1, 3]) (.tmp 28) (pt rfl 1 Pp (by kernel_rfl)) (by kernel_rfl))
noncomputable def sMg : OV := bf PP GG FF (bH []) (ls [B, D, C, E, G] 215) H bY bA bY
theorem apH {r : Value × AH} (h : (
 (ai .other .sub C D).bind fun a =>
 (ai .other .eql a (vi 1)).bind fun b =>
 Vc B D C E G b H) = some r) : FF G0 [B, D, C, E, G] H = some r :=
 fo (t := sMg B D C E G H) Tryz.func159 (by kernel_rfl) (Eq.trans (pt rfl 0 ox (pt rfl 0 Po (by kernel_rfl))) h)
theorem z8 {r : Value × AH} (h : (
 (ai .other .neq B B).bind fun a =>
 some (a, H)) = some r) : FF jo [B] H = some r :=
 fo Tryz.func160 (by kernel_rfl) h
noncomputable def il (p : List Nat) : Code := Code.sub (bM Tryz.f161) p
noncomputable def iR : KK := dP PP (Tryz.f161).results.toList
noncomputable def Tz : KK := CQ (il [1, 1, 1]) iR bA iR
noncomputable def zW : OV := Tz (ls [B, u, C, E] 38) H
noncomputable def I7 : KK := CQ (il [1, 1, 1, 1]) iR bA iR
noncomputable def akJ : KK := en ze I7
noncomputable def sn : OV := I7 (ls [u, u, C, E] 38) H
noncomputable def I8 : KK := CQ (il [1, 1, 1, 1, 1]) iR bA iR
noncomputable def Tw : KK := en ze I8
noncomputable def zX : OV := I8 (ls [u, u, C, E] 38) H
noncomputable def TA : KK := CQ (il [1, 1, 1, 1, 0, 1]) Tw bA iR
noncomputable def zY : OV := TA (ls [u, u, C, E, u, u, u, u, u, u, u, u, u, u, u, u, u, u, u, u, u, u, u, u, u, u, u, u, P, T] 12) H
noncomputable def Jb : KX := BX 2 Tw bA
noncomputable def Bo : KX := qz ze Jb
noncomputable def I9 : KK := xy (il [1, 1, 1, 1, 0, 1, 4, 5]) Bo iR
noncomputable def Tx : KK := en Cb I9
noncomputable def nJ : OV := I9 (ls [u, u, C, E, u, u, u, u, u, u, u, u, u, u, u, u, u, u, u, u, u, u, u, u, u, u, u, u, P, T] 12) H
noncomputable def TB : KK := CQ (il [1, 1, 1, 1, 0, 1, 4, 5, 1, 1]) Tx Bo iR
noncomputable def zZ : OV := TB (ls [u, u, C, E, u, u, u, u, u, u, u, u, u, u, u, u, u, u, u, u, u, u, u, u, u, u, u, u, P, T] 12) H
noncomputable def Ja : KK := CQ (il [1, 1, 1, 1, 0, 1, 4, 5, 1, 1, 1]) Tx Bo iR
noncomputable def akK : KK := en Cb Ja
noncomputable def z0 : OV := Ja (ls [u, u, C, E, u, u, u, u, u, u, u, u, u, u, u, u, u, u, u, u, u, u, u, u, u, u, u, u, P, T] 12) H
noncomputable def akL : KX := BX 3 akK Bo
noncomputable def tU : OV := Jb 2 (ls [u, u, C, E] 38) H
noncomputable def Dm : KX := BX 0 akJ bA
noncomputable def Do : KX := qz ze Dm
noncomputable def Dl : KK := xy (il [1, 1, 1, 0, 4, 5]) Do iR
noncomputable def Mk : KK := en Lm Dl
noncomputable def lQ : OV := Dl (ls [B, u, C, E] 38) H
noncomputable def Ml : KK := CQ (il [1, 1, 1, 0, 4, 5, 1]) Mk Do iR
noncomputable def xr : OV := Ml (ls [B, u, C, E] 38) H
noncomputable def ab3 : KX := BX 1 Mk Do
noncomputable def sk : OV := Dm 0 (ls [u, u, C, E] 38) H
theorem gb : ar 4398046511099 iR := rf
theorem W6 : ar Lm Tz := rc gb aB gb
theorem GF : ar ze I7 := rc gb aB gb
theorem yb : ar ze I8 := rc gb aB gb
theorem W7 : ar Cb TA := rc (cd yb) aB gb
theorem oz : ∀ i, ar ze (Jb i) := rb (cd yb) aB
theorem sQ : ar Cb I9 := rl (cx oz) gb
theorem W8 : ar Cb TB := rc (cd sQ) (cx oz) gb
theorem GH : ar Cb Ja := rc (cd sQ) (cx oz) gb
theorem W9 : ∀ i, ar Cb (akL i) := rb (cd GH) (cx oz)
theorem pr : ∀ i, ar ze (Dm i) := rb (cd GF) aB
theorem pp : ar Lm Dl := rl (cx pr) gb
theorem Px : ar Lm Ml := rc (cd pp) (cx pr) gb
theorem Py : ∀ i, ar Lm (ab3 i) := rb (cd pp) (cx pr)
theorem Fj : zX C E H =
 some (E, H) :=
 (by kernel_rfl)
theorem Fm : z0 C E P T H =
 (ai .other .add T (vi 1)).bind fun a =>
 nJ C E P a H :=
 (by kernel_rfl)
theorem Fl : zZ C E P T H =
 ld [.n, .f 2] E H fun b =>
 FD 1 1 [(vi 0)] [(0, (vi (-1)))] H fun c d =>
 (fN 1 8 b c d).bind fun a =>
 st 1 [.n, .f 2] E a.1 a.2 fun e =>
 z0 C E P T e :=
 (pt rfl 0 GH (bt rfl (il [1, 1, 1, 1, 0, 1, 4, 5, 1, 1, 0, 4]) 3 W9 (by kernel_rfl)))
theorem y7 : tU C E H = zX C E H :=
 (by kernel_rfl)
theorem so : nJ C E P T H =
 (ai .other .lss T P).bind fun a =>
 av a
 (zZ C E P T H)
 (tU C E H) :=
 yl rfl sQ (pt rfl 1 W8 (by kernel_rfl))
theorem Fk : zY C E P T H =
 nJ C E P T H :=
 (bt rfl (il [1, 1, 1, 1, 0, 1, 4]) 2 oz (li rfl (il [1, 1, 1, 1, 0, 1, 4, 5]) sQ (by kernel_rfl)))
theorem Fi : sn C E H =
 ld [.n, .f 1] E H fun a =>
 (ai .other .mul (vi 2) a).bind fun b =>
 zY C E b (vi 0) H :=
 (pt rfl 0 yb (pt rfl 0 W7 (by kernel_rfl)))
theorem Ba : xr B C E H =
 ld [.n, .f 1] E H fun a =>
 (ai .other .mul a (vi 2)).bind fun b =>
 st 1 [.n, .f 1] E b H fun c =>
 lQ B C E c :=
 (bt rfl (il [1, 1, 1, 0, 4, 5, 1, 4]) 1 Py (by kernel_rfl))
theorem nI : sk C E H = sn C E H :=
 (by kernel_rfl)
theorem qp : lQ B C E H =
 ld [.n, .f 1] E H fun a =>
 (ai .other .lss a B).bind fun b =>
 av b
 (xr B C E H)
 (sk C E H) :=
 yl rfl pp (pt rfl 0 Px (by kernel_rfl))
theorem Fh : zW B C E H =
 lQ B C E H :=
 (pt rfl 0 GF (bt rfl (il [1, 1, 1, 0, 4]) 0 pr (li rfl (il [1, 1, 1, 0, 4, 5]) pp (by kernel_rfl))))
noncomputable def ah9 : OV := bf PP GG FF (il []) (ls [B] 41) H iR bA iR
theorem NQ {r : Value × AH} (h : (
 (iC [B, (vi 1)]).bind fun c =>
 (jM [c, (vi 16)]).bind fun a =>
 (nz [(vw 0), (vi 0), (vb false)] 3 24 a a H).bind fun b =>
 ic [(0, 1), (1, 1), (2, 1)] [(.slice none 0 0), (vi 0), (.slice none 0 0)] [(0, b.1), (1, (vi 1))] fun d =>
 aV (Value.cells d).toList b.2 fun e f =>
 zW a (.pointer none) e f) = some r) : FF uv [B] H = some r :=
 fo (t := ah9 B H) Tryz.func161 (by kernel_rfl) (Eq.trans (pt rfl 2 W6 (by kernel_rfl)) h)
theorem KG {r : Value × AH} (h : (
 (FF rI [B] H).bind fun a =>
 (FF uo [] a.2).bind fun b =>
 ic [(0, 1), (1, 1), (2, 1)] [(.pointer none), (.pointer none), (vi 0)] [(0, a.1), (1, b.1), (2, B)] fun c =>
 aV (Value.cells c).toList b.2 fun d e =>
 some (d, e)) = some r) : FF rG [B] H = some r :=
 fo Tryz.func162 (by kernel_rfl) h
theorem J2 {r : Value × AH} (h : (
 (iC [B, (vi 0)]).bind fun a =>
 (jM [a, (vi 40)]).bind fun b =>
 some (b, H)) = some r) : FF rF [B] H = some r :=
 fo Tryz.func171 (by kernel_rfl) h
theorem Gc {r : Value × AH} (h : (
 (FF jy [B] H).bind fun a =>
 (oc .not a.1).bind fun b =>
 av b
 (some ((vi (-1)), a.2))
 ((ai .other .shr B (vw 61)).bind fun c =>
 (cg (some .i64) c).bind fun d =>
 some (d, a.2))) = some r) : FF eS [B] H = some r :=
 fo Tryz.func172 (by kernel_rfl) h
theorem KT {r : Value × AH} (h : (
 (ai .other .gtr B (vw 2305843009213693951)).bind fun a =>
 (gV a false D).bind fun c =>
 (gB a false (ai .other .lss c (vi 0))).bind fun d =>
 (bd a (vb true) d).bind fun b =>
 (gV b false D).bind fun e =>
 (gB b false (ai .other .geq e (vi 3))).bind fun f =>
 (bd b (vb true) f).bind fun g =>
 av g
 (some (Value.tuple #[(vw 0), (vb false)], H))
 ((cg (some .u64) D).bind fun i =>
 (ai .other .shl i (vw 61)).bind fun j =>
 (ai .other .or j B).bind fun k =>
 some (Value.tuple #[k, (vb true)], H))) = some r) : FF np [B, D] H = some r :=
 fo Tryz.func173 (by kernel_rfl) h
theorem Ga {r : Value × AH} (h : (
 (FF jy [B] H).bind fun a =>
 (oc .not a.1).bind fun b =>
 av b
 (some ((vw 0), a.2))
 ((ai .other .and B (vw 2305843009213693951)).bind fun c =>
 some (c, a.2))) = some r) : FF dU [B] H = some r :=
 fo Tryz.func174 (by kernel_rfl) h
theorem Nc {r : Value × AH} (h : (
 (ai .other .gtr B (vw 2305843009213693951)).bind fun a =>
 (gV a false D).bind fun c =>
 (gB a false (ai .other .lss c (vi 0))).bind fun d =>
 (bd a (vb true) d).bind fun b =>
 (gV b false D).bind fun e =>
 (gB b false (ai .other .gtr e (vi 2))).bind fun f =>
 (bd b (vb true) f).bind fun g =>
 av g
 (some (Value.tuple #[(vw 0), (vb false)], H))
 ((cg (some .u64) D).bind fun i =>
 (ai .other .mul i (vw 2305843009213693952)).bind fun j =>
 (ai .other .add j B).bind fun k =>
 some (Value.tuple #[k, (vb true)], H))) = some r) : FF mD [B, D] H = some r :=
 fo Tryz.func175 (by kernel_rfl) h
theorem OJ {r : Value × AH} (h : (
 ld [.n, .f 0] B H fun a =>
 ld [.n, .f 1] B H fun b =>
 ic [(0, 1), (1, 1), (2, 1), (3, 1)] [(vi 0), (.slice none 0 0), (vi 0), (vw 0)] [(0, C)] fun c =>
 (FF fV [a, D, b, c] H).bind fun d =>
 some (Value.tuple #[], d.2)) = some r) : FF lY [B, D, C] H = some r :=
 fo Tryz.func176 (by kernel_rfl) h
theorem OE {r : Value × AH} (h : (
 aV [(vi 0), (.slice none 0 0), (vi 0), (vw 0)] H fun a c =>
 ic [(0, 1), (1, 1), (2, 1), (3, 1)] [(vi 0), (.slice none 0 0), (vi 0), (vw 0)] [(0, D)] fun d =>
 (cG 4 a d c).bind fun b =>
 (aA 4 a b).bind fun e => some (Value.tuple #[e, (vb true)], b)) = some r) : FF lV [B, D] H = some r :=
 fo Tryz.func177 (by kernel_rfl) h
noncomputable def Pz (p : List Nat) : Code := Code.sub (bM Tryz.f178) p
noncomputable def t5 : KK := dP PP (Tryz.f178).results.toList
noncomputable def TC : KK := CQ (Pz [1, 1, 1]) t5 bA t5
noncomputable def Gp : OV := TC (ls [B, u, C, E, G, Z] 65) H
noncomputable def TD : KK := CQ (Pz [1, 1, 1, 1]) t5 bA t5
noncomputable def sI : OV := TD (ls [B, u, C] 68) H
theorem vJ : ar 2361183241434822606843 t5 := rf
theorem Xa : ar 2361183241434822606786 TC := rc vJ aB vJ
theorem Xb : ar 2361183241434822606842 TD := rc vJ aB vJ
theorem Ik : sI B C H =
 ad [.n, .f 8] B fun a =>
 (au a H).bind fun c =>
 ld [.n, .f 0] B H fun d =>
 ld [.n, .f 2] d H fun e =>
 (FF dN [e] H).bind fun b =>
 b7 (au a b.2) (au a H) <|
 (ai .other .geq c b.1).bind fun g =>
 some (g, b.2) :=
 (by kernel_rfl)
theorem vq : Gp B C E G Z H =
 (gV Z true E).bind fun b =>
 (gV Z true B).bind fun c =>
 gk Z true  [.n, .f 2, .f 1] c H fun d =>
 (gB Z true (ai .other .eql b d)).bind fun e =>
 (bd Z e (vb false)).bind fun g =>
 st 1 [.n, .f 10] B g H fun a =>
 ld [.n, .f 10] B a fun i =>
 av i
 (st 1 [.n, .f 9] B G a fun j =>
 sI B C j)
 (sI B C a) :=
 (pt rfl 0 Xb (by kernel_rfl))
noncomputable def aoB : OV := bf PP GG FF (Pz []) (ls [B] 70) H t5 bA t5
theorem V3 {r : Value × AH} (h : (
 ld [.n, .f 0] B H fun b =>
 ld [.n, .f 2] b H fun c =>
 ld [.n, .f 1] B H fun d =>
 ld [.n, .f 6] B H fun e =>
 ld [.n, .f 8] B H fun g =>
 (FF fY [c, d, e, g] H).bind fun a =>
 (ag a.1 0).bind fun i =>
 (ag a.1 1).bind fun j =>
 (ag a.1 2).bind fun k =>
 ld [.n, .f 8] B a.2 fun l =>
 (ai .other .add l (vi 1)).bind fun m =>
 st 1 [.n, .f 8] B m a.2 fun o =>
 Gp B (vb false) i j k o) = some r) : FF wn [B] H = some r :=
 fo (t := aoB B H) Tryz.func178 (by kernel_rfl) (Eq.trans (pt rfl 2 Xa (by kernel_rfl)) h)
theorem aaV {r : Value × AH} (h : (
 aV [(vi 0), (.slice none 0 0), (vi 0), (vw 0)] H fun a c =>
 st 1 [.n, .f 7] B D c fun d =>
 ic [(0, 1), (1, 1), (2, 1), (3, 1)] [(vi 0), (.slice none 0 0), (vi 0), (vw 0)] [] fun e =>
 (cG 4 a e d).bind fun b =>
 (aA 4 a b).bind fun g => some (Value.tuple #[g, (vb false)], b)) = some r) : FF bN [B, D] H = some r :=
 fo Tryz.func179 (by kernel_rfl) h
theorem OI {r : Value × AH} (h : (
 aV [(vi 0), (.slice none 0 0), (vi 0), (vw 0)] H fun d a =>
 ld [.n, .f 0] B a fun i =>
 ld [.n, .f 1] B a fun j =>
 ld [.n, .f 9] B a fun k =>
 (FF jt [i, j, k] a).bind fun b =>
 ld [.n, .f 0] B b.2 fun l =>
 ld [.n, .f 9] B b.2 fun m =>
 (FF fW [l, m] b.2).bind fun e =>
 st 1 [.n, .f 11] B e.1 e.2 fun o =>
 (FF bN [B, (.func (.func cr) #[B] #[])] o).bind fun c =>
 (ag c.1 0).bind fun p =>
 (ag c.1 1).bind fun q =>
 (cG 4 d p c.2).bind fun g =>
 (aA 4 d g).bind fun s => some (Value.tuple #[s, q], g)) = some r) : FF gU [B, D] H = some r :=
 fo Tryz.func180 (by kernel_rfl) h
theorem OH {r : Value × AH} (h : (
 aV [(vi 0), (.slice none 0 0), (vi 0), (vw 0)] H fun b a =>
 ld [.n, .f 0] B a fun j =>
 ld [.n, .f 2] j a fun k =>
 ld [.n, .f 1] B a fun l =>
 ld [.n, .f 6] B a fun m =>
 (FF ee [k, l, m] a).bind fun c =>
 (oc .not c.1).bind fun o =>
 av o
 ((FF bN [B, (.func (.func dn) #[B] #[])] c.2).bind fun d =>
 (ag d.1 0).bind fun p =>
 (ag d.1 1).bind fun q =>
 (cG 4 b p d.2).bind fun g =>
 (aA 4 b g).bind fun s => some (Value.tuple #[s, q], g))
 (st 1 [.n, .f 8] B (vi 0) c.2 fun t =>
 (FF bN [B, (.func (.func eJ) #[B] #[])] t).bind fun e =>
 (ag e.1 0).bind fun w =>
 (ag e.1 1).bind fun y =>
 (cG 4 b w e.2).bind fun i =>
 (aA 4 b i).bind fun z => some (Value.tuple #[z, y], i))) = some r) : FF dn [B, D] H = some r :=
 fo Tryz.func181 (by kernel_rfl) h
theorem A6 {r : Value × AH} (h : (
 st 1 [.n, .f 16] B C H fun a =>
 ld [.n, .f 0] B a fun b =>
 ld [.n, .f 1] B a fun c =>
 ic [(0, 1), (1, 1), (2, 1), (3, 1)] [(vi 0), (.slice none 0 0), (vi 0), (vw 0)] [(0, C)] fun d =>
 (FF fV [b, D, c, d] a).bind fun e =>
 some (Value.tuple #[], e.2)) = some r) : FF da [B, D, C] H = some r :=
 fo Tryz.func182 (by kernel_rfl) h
theorem F1 {r : Value × AH} (h : (
 aV [(vi 0), (.slice none 0 0), (vi 0), (vw 0)] H fun a c =>
 st 1 [.n, .f 7] B D c fun d =>
 ic [(0, 1), (1, 1), (2, 1), (3, 1)] [(vi 0), (.slice none 0 0), (vi 0), (vw 0)] [] fun e =>
 (cG 4 a e d).bind fun b =>
 (aA 4 a b).bind fun g => some (Value.tuple #[g, (vb false)], b)) = some r) : FF bg [B, D] H = some r :=
 fo Tryz.func183 (by kernel_rfl) h
noncomputable def Jc (p : List Nat) : Code := Code.sub (bM Tryz.f184) p
noncomputable def t6 : KK := dP PP (Tryz.f184).results.toList
noncomputable def TE : KK := CQ (Jc [1, 1]) t6 bA t6
noncomputable def qn : OV := TE (ls [B, D, u, u, G, Z, X, x7] 42) H
noncomputable def Jd : KK := CQ (Jc [1, 1, 1]) t6 bA t6
noncomputable def akM : KK := en 1125899906842574 Jd
noncomputable def qo : OV := Jd (ls [B, u, u, u, G, Z] 44) H
noncomputable def akN : KX := BX 0 akM bA
theorem vK : ar 1125899906842575 t6 := rf
theorem Xc : ar 1125899906842380 TE := rc vK aB vK
theorem GI : ar 1125899906842574 Jd := rc vK aB vK
theorem Xd : ∀ i, ar 1125899906842574 (akN i) := rb (cd GI) aB
theorem uV : qo B G Z H =
 (FF bg [B, (.func (.func cj) #[B] #[])] H).bind fun a =>
 (ag a.1 0).bind fun c =>
 (ag a.1 1).bind fun d =>
 (cG 4 G c a.2).bind fun b =>
 (aA 4 G b).bind fun e => some (Value.tuple #[e, d], b) :=
 (by kernel_rfl)
theorem uU : qn B D G Z X x7 H =
 av X
 (ld [.n, .f 0] B H fun g =>
 ld [.n, .f 11] B H fun i =>
 (FF fW [g, i] H).bind fun c =>
 st 1 [.n, .f 12] B c.1 c.2 fun j =>
 (FF bg [B, (.func (.func bu) #[B] #[])] j).bind fun a =>
 (ag a.1 0).bind fun k =>
 (ag a.1 1).bind fun l =>
 (cG 4 G k a.2).bind fun d =>
 (aA 4 G d).bind fun m => some (Value.tuple #[m, l], d))
 (av x7
 ((FF da [B, D, (vi 5)] H).bind fun o =>
 (FF bg [B, (.func (.func aO) #[B] #[])] o.2).bind fun b =>
 (ag b.1 0).bind fun p =>
 (ag b.1 1).bind fun q =>
 (cG 4 G p b.2).bind fun e =>
 (aA 4 G e).bind fun s => some (Value.tuple #[s, q], e))
 (qo B G Z H)) :=
 (pt rfl 0 GI (bt rfl (Jc [1, 1, 0, 4]) 0 Xd (by kernel_rfl)))
noncomputable def Kj : OV := bf PP GG FF (Jc []) (ls [B, D] 48) H t6 bA t6
theorem AY {r : Value × AH} (h : (
 aV [(vi 0), (.slice none 0 0), (vi 0), (vw 0)] H fun b c =>
 (FF ky [B] c).bind fun a =>
 (ag a.1 0).bind fun d =>
 (ag a.1 1).bind fun e =>
 qn B D b (vb false) d e a.2) = some r) : FF cj [B, D] H = some r :=
 fo (t := Kj B D H) Tryz.func184 (by kernel_rfl) (Eq.trans (pt rfl 1 Xc (by kernel_rfl)) h)
end
section
variable (D E J K G L N O I M : Value) (H : AH)
noncomputable def Je (p : List Nat) : Code := Code.sub (bM Tryz.f185) p
noncomputable def t7 : KK := dP PP (Tryz.f185).results.toList
noncomputable def TG : KK := CQ (Je [1, 1]) t7 bA t7
noncomputable def nE : OV := TG (ls [D, E, u, u, G, L, N, O] 48) H
noncomputable def Jf : KK := CQ (Je [1, 1, 1]) t7 bA t7
noncomputable def akO : KK := en 72057594037927886 Jf
noncomputable def nF : OV := Jf (ls [D, u, u, u, G, L] 50) H
noncomputable def akP : KX := BX 0 akO bA
theorem vL : ar Lk t7 := rf
theorem Xe : ar 72057594037927692 TG := rc vL aB vL
theorem GJ : ar 72057594037927886 Jf := rc vL aB vL
theorem Xf : ∀ i, ar 72057594037927886 (akP i) := rb (cd GJ) aB
theorem r8 : nF D G L H =
 (FF bg [D, (.func (.func bV) #[D] #[])] H).bind fun a =>
 (ag a.1 0).bind fun c =>
 (ag a.1 1).bind fun d =>
 (cG 4 G c a.2).bind fun b =>
 (aA 4 G b).bind fun e => some (Value.tuple #[e, d], b) :=
 (by kernel_rfl)
theorem r7 : nE D E G L N O H =
 av N
 ((FF da [D, E, (vi 6)] H).bind fun i =>
 (FF bg [D, (.func (.func aO) #[D] #[])] i.2).bind fun a =>
 (ag a.1 0).bind fun j =>
 (ag a.1 1).bind fun k =>
 (cG 4 G j a.2).bind fun d =>
 (aA 4 G d).bind fun l => some (Value.tuple #[l, k], d))
 ((gV O true D).bind fun m =>
 gk O true  [.n, .f 9] m H fun o =>
 (gB O true (ai .other .lss o (vi 0))).bind fun p =>
 (bd O p (vb false)).bind fun q =>
 av q
 ((FF da [D, E, (vi 7)] H).bind fun s =>
 (FF bg [D, (.func (.func aO) #[D] #[])] s.2).bind fun b =>
 (ag b.1 0).bind fun t =>
 (ag b.1 1).bind fun w =>
 (cG 4 G t b.2).bind fun e =>
 (aA 4 G e).bind fun y => some (Value.tuple #[y, w], e))
 (av O
 ((FF bg [D, (.func (.func dA) #[D] #[])] H).bind fun c =>
 (ag c.1 0).bind fun z =>
 (ag c.1 1).bind fun A =>
 (cG 4 G z c.2).bind fun g =>
 (aA 4 G g).bind fun B => some (Value.tuple #[B, A], g))
 (nF D G L H))) :=
 (pt rfl 0 GJ (bt rfl (Je [1, 1, 0, 4]) 0 Xf (by kernel_rfl)))
noncomputable def EM : OV := bf PP GG FF (Je []) (ls [D, E] 54) H t7 bA t7
theorem w4 {r : Value × AH} (h : (
 aV [(vi 0), (.slice none 0 0), (vi 0), (vw 0)] H fun b c =>
 (FF ky [D] c).bind fun a =>
 (ag a.1 0).bind fun d =>
 (ag a.1 1).bind fun e =>
 nE D E b (vb false) d e a.2) = some r) : FF bV [D, E] H = some r :=
 fo (t := EM D E H) Tryz.func185 (by kernel_rfl) (Eq.trans (pt rfl 1 Xe (by kernel_rfl)) h)
noncomputable def nR (p : List Nat) : Code := Code.sub (bM Tryz.f186) p
noncomputable def mw : KK := dP PP (Tryz.f186).results.toList
noncomputable def TJ : KK := CQ (nR [1]) mw bA mw
noncomputable def qe : OV := TJ (ls [D, E, u, u, G] 20) H
noncomputable def Jg : KK := CQ (nR [1, 1]) mw bA mw
noncomputable def TH : KK := en 33554415 Jg
noncomputable def qf : OV := Jg (ls [u, u, u, u, G] 20) H
noncomputable def TK : KK := CQ (nR [1, 0, 1]) TH bA mw
noncomputable def qg : OV := TK (ls [D, E, u, u, G, L] 19) H
noncomputable def Jj : KX := BX 0 TH bA
noncomputable def Bp : KX := qz 33554415 Jj
noncomputable def Jh : KK := xy (nR [1, 0, 1, 4, 5]) Bp mw
noncomputable def TI : KK := en 33554380 Jh
noncomputable def iN : OV := Jh (ls [D, E, u, u, G, L] 19) H
noncomputable def TL : KK := CQ (nR [1, 0, 1, 4, 5, 1]) TI Bp mw
noncomputable def qh : OV := TL (ls [D, E, u, u, G, L] 19) H
noncomputable def Ji : KK := CQ (nR [1, 0, 1, 4, 5, 1, 1]) TI Bp mw
noncomputable def akQ : KK := en 33554380 Ji
noncomputable def qi : OV := Ji (ls [D, E, u, u, G, L] 19) H
noncomputable def akR : KX := BX 1 akQ Bp
noncomputable def nB : OV := Jj 0 (ls [u, u, u, u, G] 20) H
theorem kL : ar 33554415 mw := rf
theorem Xg : ar 33554412 TJ := rc kL aB kL
theorem yc : ar 33554415 Jg := rc kL aB kL
theorem Xh : ar 33554380 TK := rc (cd yc) aB kL
theorem oA : ∀ i, ar 33554415 (Jj i) := rb (cd yc) aB
theorem sR : ar 33554380 Jh := rl (cx oA) kL
theorem Xj : ar 33554380 TL := rc (cd sR) (cx oA) kL
theorem GK : ar 33554380 Ji := rc (cd sR) (cx oA) kL
theorem Xl : ∀ i, ar 33554380 (akR i) := rb (cd GK) (cx oA)
theorem uD : qf G H =
 some ((vi (-1)), H) :=
 (by kernel_rfl)
theorem uG : qi D E G L H =
 (ai .other .add L (vi 1)).bind fun a =>
 iN D E G a H :=
 (by kernel_rfl)
theorem uF : qh D E G L H =
 ld [.n, .f 2] D H fun a =>
 ld [.i 1 L] a H fun b =>
 (ai .other .eql b E).bind fun c =>
 av c
 (some (L, H))
 (qi D E G L H) :=
 (pt rfl 0 GK (bt rfl (nR [1, 0, 1, 4, 5, 1, 0, 4]) 1 Xl (by kernel_rfl)))
theorem rP : nB G H = qf G H :=
 (by kernel_rfl)
theorem mL : iN D E G L H =
 ld [.n, .f 2] D H fun a =>
 jd a fun b =>
 (ai .other .lss L b).bind fun c =>
 av c
 (qh D E G L H)
 (nB G H) :=
 yl rfl sR (pt rfl 0 Xj (by kernel_rfl))
theorem uE : qg D E G L H =
 iN D E G L H :=
 (bt rfl (nR [1, 0, 1, 4]) 0 oA (li rfl (nR [1, 0, 1, 4, 5]) sR (by kernel_rfl)))
theorem uC : qe D E G H =
 qg D E G (vi 0) H :=
 (pt rfl 0 yc (pt rfl 0 Xh (by kernel_rfl)))
noncomputable def J4 : OV := bf PP GG FF (nR []) (ls [D, E] 23) H mw bA mw
theorem AM {r : Value × AH} (h : (
 qe D E (vi 0) H) = some r) : FF mE [D, E] H = some r :=
 fo (t := J4 D E H) Tryz.func186 (by kernel_rfl) (Eq.trans (pt rfl 0 Xg (by kernel_rfl)) h)
noncomputable def qT (p : List Nat) : Code := Code.sub (bM Tryz.f187) p
noncomputable def pw : KK := dP PP (Tryz.f187).results.toList
noncomputable def TN : KK := CQ (qT [1, 1]) pw bA pw
noncomputable def ag9 : OV := TN (ls [D, u, J, u, G, u, u, u, u, u, I, M] 46) H
noncomputable def Jk : KK := CQ (qT [1, 1, 1]) pw bA pw
noncomputable def akS : KK := en R3 Jk
noncomputable def ahA : OV := Jk (ls [D, u, J, u, G, u, u, u, u, u, I] 47) H
noncomputable def Jm : KX := BX 0 akS bA
noncomputable def Jn : KX := qz R3 Jm
noncomputable def Jl : KK := xy (qT [1, 1, 0, 4, 5]) Jn pw
noncomputable def TM : KK := en Lj Jl
noncomputable def EY : OV := Jl (ls [D, u, J, u, G, u, u, u, u, u, I, M] 46) H
noncomputable def TO : KK := CQ (qT [1, 1, 0, 4, 5, 1]) TM Jn pw
noncomputable def ahB : OV := TO (ls [D, u, J, u, G, u, u, u, u, u, I, M] 46) H
noncomputable def akT : KX := BX 1 TM Jn
noncomputable def Nv : OV := Jm 0 (ls [D, u, J, u, G, u, u, u, u, u, I] 47) H
theorem oB : ar 288230376151711743 pw := rf
theorem Xm : ar Lj TN := rc oB aB oB
theorem GL : ar R3 Jk := rc oB aB oB
theorem sT : ∀ i, ar R3 (Jm i) := rb (cd GL) aB
theorem sS : ar Lj Jl := rl (cx sT) oB
theorem Xn : ar Lj TO := rc (cd sS) (cx sT) oB
theorem Xo : ∀ i, ar Lj (akT i) := rb (cd sS) (cx sT)
theorem YU : ahA D J G I H =
 (ai .other .sub J I).bind fun a =>
 (FF MT [D, a, J, I, G] H).bind fun b =>
 some (Value.tuple #[], b.2) :=
 (by kernel_rfl)
theorem YW : ahB D J G I M H =
 (ai .other .gtr I M).bind fun a =>
 av a
 ((ai .other .sub J I).bind fun b =>
 (FF MT [D, b, J, M, G] H).bind fun c =>
 (ai .other .sub I M).bind fun d =>
 EY D J G d M c.2)
 ((ai .other .sub J I).bind fun e =>
 (ai .other .add J M).bind fun f =>
 (ai .other .sub f I).bind fun g =>
 (FF MT [D, e, g, I, G] H).bind fun i =>
 (ai .other .sub M I).bind fun j =>
 EY D J G I j i.2) :=
 (bt rfl (qT [1, 1, 0, 4, 5, 1, 4]) 1 Xo (by kernel_rfl))
theorem Nw : Nv D J G I H = ahA D J G I H :=
 (by kernel_rfl)
theorem YV : EY D J G I M H =
 (ai .other .neq I M).bind fun a =>
 av a
 (ahB D J G I M H)
 (Nv D J G I H) :=
 yl rfl sS (pt rfl 0 Xn (by kernel_rfl))
theorem YT : ag9 D J G I M H =
 EY D J G I M H :=
 (pt rfl 0 GL (bt rfl (qT [1, 1, 0, 4]) 0 sT (li rfl (qT [1, 1, 0, 4, 5]) sS (by kernel_rfl))))
noncomputable def sRo : OV := bf PP GG FF (qT []) (ls [D, E, J, K, G] 53) H pw bA pw
theorem apI {r : Value × AH} (h : (
 (ai .other .sub J E).bind fun a =>
 (ai .other .sub K J).bind fun b =>
 ag9 D J G a b H) = some r) : FF afM [D, E, J, K, G] H = some r :=
 fo (t := sRo D E J K G H) Tryz.func187 (by kernel_rfl) (Eq.trans (pt rfl 1 Xm (by kernel_rfl)) h)
theorem KQ {r : Value × AH} (h : (
 (FF pI [D] H).bind fun a =>
 FU a.2 fun b c =>
 ic [(0, 1), (1, 1), (2, 192), (194, 3), (197, 1)] [(vw 0), (vi 0), (.slice none 0 0), (.slice none 0 0), (.slice none 0 0), (.slice none 0 0), (.slice none 0 0), (.slice none 0 0), (.slice none 0 0), (.slice none 0 0), (.slice none 0 0), (.slice none 0 0), (.slice none 0 0), (.slice none 0 0), (.slice none 0 0), (.slice none 0 0), (.slice none 0 0), (.slice none 0 0), (.slice none 0 0), (.slice none 0 0), (.slice none 0 0), (.slice none 0 0), (.slice none 0 0), (.slice none 0 0), (.slice none 0 0), (.slice none 0 0), (.slice none 0 0), (.slice none 0 0), (.slice none 0 0), (.slice none 0 0), (.slice none 0 0), (.slice none 0 0), (.slice none 0 0), (.slice none 0 0), (.slice none 0 0), (.slice none 0 0), (.slice none 0 0), (.slice none 0 0), (.slice none 0 0), (.slice none 0 0), (.slice none 0 0), (.slice none 0 0), (.slice none 0 0), (.slice none 0 0), (.slice none 0 0), (.slice none 0 0), (.slice none 0 0), (.slice none 0 0), (.slice none 0 0), (.slice none 0 0), (.slice none 0 0), (.slice none 0 0), (.slice none 0 0), (.slice none 0 0), (.slice none 0 0), (.slice none 0 0), (.slice none 0 0), (.slice none 0 0), (.slice none 0 0), (.slice none 0 0), (.slice none 0 0), (.slice none 0 0), (.slice none 0 0), (.slice none 0 0), (.slice none 0 0), (.slice none 0 0), (.slice none 0 0), (.slice none 0 0), (.slice none 0 0), (.slice none 0 0), (.slice none 0 0), (.slice none 0 0), (.slice none 0 0), (.slice none 0 0), (.slice none 0 0), (.slice none 0 0), (.slice none 0 0), (.slice none 0 0), (.slice none 0 0), (.slice none 0 0), (.slice none 0 0), (.slice none 0 0), (.slice none 0 0), (.slice none 0 0), (.slice none 0 0), (.slice none 0 0), (.slice none 0 0), (.slice none 0 0), (.slice none 0 0), (.slice none 0 0), (.slice none 0 0), (.slice none 0 0), (.slice none 0 0), (.slice none 0 0), (.slice none 0 0), (.slice none 0 0), (.slice none 0 0), (.slice none 0 0), (.slice none 0 0), (.slice none 0 0), (.slice none 0 0), (.slice none 0 0), (.slice none 0 0), (.slice none 0 0), (.slice none 0 0), (.slice none 0 0), (.slice none 0 0), (.slice none 0 0), (.slice none 0 0), (.slice none 0 0), (.slice none 0 0), (.slice none 0 0), (.slice none 0 0), (.slice none 0 0), (.slice none 0 0), (.slice none 0 0), (.slice none 0 0), (.slice none 0 0), (.slice none 0 0), (.slice none 0 0), (.slice none 0 0), (.slice none 0 0), (.slice none 0 0), (.slice none 0 0), (.slice none 0 0), (.slice none 0 0), (.slice none 0 0), (.slice none 0 0), (.slice none 0 0), (.slice none 0 0), (.slice none 0 0), (.slice none 0 0), (.slice none 0 0), (.slice none 0 0), (.slice none 0 0), (.slice none 0 0), (.slice none 0 0), (.slice none 0 0), (.slice none 0 0), (.slice none 0 0), (.slice none 0 0), (.slice none 0 0), (.slice none 0 0), (.slice none 0 0), (.slice none 0 0), (.slice none 0 0), (.slice none 0 0), (.slice none 0 0), (.slice none 0 0), (.slice none 0 0), (.slice none 0 0), (.slice none 0 0), (.slice none 0 0), (.slice none 0 0), (.slice none 0 0), (.slice none 0 0), (.slice none 0 0), (.slice none 0 0), (.slice none 0 0), (.slice none 0 0), (.slice none 0 0), (.slice none 0 0), (.slice none 0 0), (.slice none 0 0), (.slice none 0 0), (.slice none 0 0), (.slice none 0 0), (.slice none 0 0), (.slice none 0 0), (.slice none 0 0), (.slice none 0 0), (.slice none 0 0), (.slice none 0 0), (.slice none 0 0), (.slice none 0 0), (.slice none 0 0), (.slice none 0 0), (.slice none 0 0), (.slice none 0 0), (.slice none 0 0), (.slice none 0 0), (.slice none 0 0), (.slice none 0 0), (.slice none 0 0), (.slice none 0 0), (.slice none 0 0), (.slice none 0 0), (.slice none 0 0), (.slice none 0 0), (.slice none 0 0), (.slice none 0 0), (.slice none 0 0), (.slice none 0 0), (.slice none 0 0), (vw 0), (vw 0), (vw 0), (.map none)] [(1, a.1), (4, b)] fun d =>
 aV (Value.cells d).toList c fun e f =>
 some (e, f)) = some r) : FF rI [D] H = some r :=
 fo Tryz.func188 (by kernel_rfl) h
theorem MB (H : AH) {r : Value × AH} (h : (
 FU H fun a b =>
 ic [(0, 1), (1, 1)] [(.slice none 0 0), (.map none)] [(1, a)] fun c =>
 aV (Value.cells c).toList b fun d e =>
 some (d, e)) = some r) : FF uo [] H = some r :=
 fo Tryz.func189 (by kernel_rfl) h
theorem Gb {r : Value × AH} (h : (
 (ai .other .shr D (vw 61)).bind fun a =>
 (ai .other .lss a (vw 3)).bind fun b =>
 some (b, H)) = some r) : FF jy [D] H = some r :=
 fo Tryz.func204 (by kernel_rfl) h
theorem ti {r : Value × AH} (h : (
 aV (Value.cells K).toList H fun i a =>
 ad [.n, .f 12] D fun c =>
 (au c a).bind fun j =>
 ad [.n, .f 11] D fun d =>
 (au d a).bind fun e =>
 (db .int (vi 0) e J false a).bind fun k =>
 (aA 4 i a).bind fun l =>
 (FF nk [l] a).bind fun b =>
 b7 (au c b.2) (au c a) <|
 b7 (au d b.2) (au d a) <|
 b7 (db .int (vi 0) e J false b.2) (db .int (vi 0) e J false a) <|
 ic [(0, 1), (1, 1), (2, 1), (3, 4)] [(vi 0), (vi 0), (vi 0), (vi 0), (.slice none 0 0), (vi 0), (vw 0)] [(0, E), (1, J), (2, k), (3, b.1)] fun m =>
 FD 1 7 [(vi 0), (vi 0), (vi 0), (vi 0), (.slice none 0 0), (vi 0), (vw 0)] [(0, m)] b.2 fun o p =>
 (fN 7 72 j o p).bind fun g =>
 st 1 [.n, .f 12] D g.1 g.2 fun q =>
 some (Value.tuple #[], q)) = some r) : FF fV [D, E, J, K] H = some r :=
 fo Tryz.func205 (by kernel_rfl) h
theorem sg {r : Value × AH} (h : (
 ld [.n, .f 2] D H fun a =>
 some (a, H)) = some r) : FF dN [D] H = some r :=
 fo Tryz.func206 (by kernel_rfl) h
theorem OO {r : Value × AH} (h : (
 aV [(vi 0), (.slice none 0 0), (vi 0), (vw 0)] H fun a b =>
 ld [.n, .f 11] D b fun l =>
 ld [.n, .f 1] D b fun m =>
 (FF fG [l, m] b).bind fun g =>
 st 1 [.n, .f 12] D g.1 g.2 fun i =>
 ld [.n, .f 12] D i fun o =>
 (FF eS [o] i).bind fun c =>
 (ai .other .eql c.1 (vi 2)).bind fun p =>
 av p
 ((FF bN [D, (.func (.func dn) #[D] #[])] c.2).bind fun d =>
 (ag d.1 0).bind fun q =>
 (ag d.1 1).bind fun s =>
 (cG 4 a q d.2).bind fun j =>
 (aA 4 a j).bind fun t => some (Value.tuple #[t, s], j))
 ((FF bN [D, (.func (.func lW) #[D] #[])] c.2).bind fun e =>
 (ag e.1 0).bind fun w =>
 (ag e.1 1).bind fun y =>
 (cG 4 a w e.2).bind fun k =>
 (aA 4 a k).bind fun z => some (Value.tuple #[z, y], k))) = some r) : FF cr [D, E] H = some r :=
 fo Tryz.func207 (by kernel_rfl) h
noncomputable def Jo (p : List Nat) : Code := Code.sub (bM Tryz.f208) p
noncomputable def t8 : KK := dP PP (Tryz.f208).results.toList
noncomputable def TQ : KK := CQ (Jo [1, 1]) t8 bA t8
noncomputable def vr : OV := TQ (ls [D, E, u, u, G, L, N] 30) H
noncomputable def Jp : KK := CQ (Jo [1, 1, 1]) t8 bA t8
noncomputable def akU : KK := en 137438953422 Jp
noncomputable def vt : OV := Jp (ls [D, u, u, u, G, L] 31) H
noncomputable def akV : KX := BX 0 akU bA
theorem vM : ar Ln t8 := rf
theorem Xp : ar 137438953356 TQ := rc vM aB vM
theorem GM : ar 137438953422 Jp := rc vM aB vM
theorem Xq : ∀ i, ar 137438953422 (akV i) := rb (cd GM) aB
theorem Ab : vt D G L H =
 (FF bN [D, (.func (.func eJ) #[D] #[])] H).bind fun a =>
 (ag a.1 0).bind fun c =>
 (ag a.1 1).bind fun d =>
 (cG 4 G c a.2).bind fun b =>
 (aA 4 G b).bind fun e => some (Value.tuple #[e, d], b) :=
 (by kernel_rfl)
theorem Aa : vr D E G L N H =
 ld [.n, .f 10] D H fun e =>
 av e
 ((FF bN [D, (.func (.func eK) #[D] #[])] H).bind fun a =>
 (ag a.1 0).bind fun g =>
 (ag a.1 1).bind fun i =>
 (cG 4 G g a.2).bind fun c =>
 (aA 4 G c).bind fun j => some (Value.tuple #[j, i], c))
 (av N
 ((FF lY [D, E, (vi 5)] H).bind fun k =>
 (FF bN [D, (.func (.func eK) #[D] #[])] k.2).bind fun b =>
 (ag b.1 0).bind fun l =>
 (ag b.1 1).bind fun m =>
 (cG 4 G l b.2).bind fun d =>
 (aA 4 G d).bind fun o => some (Value.tuple #[o, m], d))
 (vt D G L H)) :=
 (pt rfl 0 GM (bt rfl (Jo [1, 1, 0, 4]) 0 Xq (by kernel_rfl)))
noncomputable def V7 : OV := bf PP GG FF (Jo []) (ls [D, E] 35) H t8 bA t8
theorem Im {r : Value × AH} (h : (
 aV [(vi 0), (.slice none 0 0), (vi 0), (vw 0)] H fun b c =>
 (FF wn [D] c).bind fun a =>
 vr D E b (vb false) a.1 a.2) = some r) : FF eJ [D, E] H = some r :=
 fo (t := V7 D E H) Tryz.func208 (by kernel_rfl) (Eq.trans (pt rfl 1 Xp (by kernel_rfl)) h)
noncomputable def PA (p : List Nat) : Code := Code.sub (bM Tryz.f209) p
noncomputable def t9 : KK := dP PP (Tryz.f209).results.toList
noncomputable def TS : KK := CQ (PA [1, 1]) t9 bA t9
noncomputable def rZ : OV := TS (ls [D, u, J, K, G, L, N] 81) H
noncomputable def TT : KK := CQ (PA [1, 1, 1]) t9 bA t9
noncomputable def jE : OV := TT (ls [D, u, J, K, G, L, N] 81) H
theorem vN : ar 309485009821345068724781043 t9 := rf
theorem Xr : ar 309485009821345068724780930 TS := rc vN aB vN
theorem Xs : ar 309485009821345068724780930 TT := rc vN aB vN
theorem wY : jE D J K G L N H =
 ld [.n, .f 8] D H fun g =>
 st 1 [.n, .f 10] D g H fun i =>
 st 1 [.n, .f 11] D L i fun e =>
 ld [.n, .f 8] D e fun j =>
 (ai .other .add j (vi 1)).bind fun k =>
 st 1 [.n, .f 8] D k e fun a =>
 (gV N true G).bind fun l =>
 (gV N true D).bind fun m =>
 FQ N true  [.n, .f 2, .f 1] m fun c =>
 (gB N true (au c a)).bind fun o =>
 (gB N true (ai .other .eql l o)).bind fun p =>
 (bd N p (vb false)).bind fun q =>
 ad [.n, .f 8] D fun d =>
 (au d a).bind fun s =>
 ld [.n, .f 0] D a fun t =>
 ld [.n, .f 2] t a fun w =>
 (FF dN [w] a).bind fun b =>
 b7 (au c b.2) (au c a) <|
 b7 (au d b.2) (au d a) <|
 (ai .other .geq s b.1).bind fun y =>
 some (Value.tuple #[q, y], b.2) :=
 (by kernel_rfl)
theorem nD : rZ D J K G L N H =
 (oc .not N).bind fun a =>
 (gV a true D).bind fun b =>
 gk a true  [.n, .f 9] b H fun c =>
 (gB a true (ai .other .lss c (vi 0))).bind fun d =>
 (bd a d (vb false)).bind fun e =>
 av e
 (ld [.n, .f 8] D H fun g =>
 st 1 [.n, .f 9] D g H fun i =>
 jE D J K G L N i)
 (jE D J K G L N H) :=
 (pt rfl 0 Xs (by kernel_rfl))
noncomputable def Nj : OV := bf PP GG FF (PA []) (ls [D] 87) H t9 bA t9
theorem EJ {r : Value × AH} (h : (
 ld [.n, .f 0] D H fun b =>
 ld [.n, .f 2] b H fun c =>
 ld [.n, .f 1] D H fun d =>
 ld [.n, .f 6] D H fun e =>
 ld [.n, .f 8] D H fun g =>
 (FF fY [c, d, e, g] H).bind fun a =>
 (ag a.1 0).bind fun i =>
 (ag a.1 1).bind fun j =>
 (ag a.1 2).bind fun k =>
 rZ D (vb false) (vb false) i j k a.2) = some r) : FF ky [D] H = some r :=
 fo (t := Nj D H) Tryz.func209 (by kernel_rfl) (Eq.trans (pt rfl 1 Xr (by kernel_rfl)) h)
theorem A7 {r : Value × AH} (h : (
 aV [(vi 0), (.slice none 0 0), (vi 0), (vw 0)] H fun a g =>
 (FF kz [D] g).bind fun b =>
 av b.1
 ((FF bg [D, (.func (.func cm) #[D] #[])] b.2).bind fun c =>
 (ag c.1 0).bind fun i =>
 (ag c.1 1).bind fun j =>
 (cG 4 a i c.2).bind fun e =>
 (aA 4 a e).bind fun k => some (Value.tuple #[k, j], e))
 ((FF bg [D, (.func (.func dX) #[D] #[])] b.2).bind fun d =>
 (ag d.1 0).bind fun l =>
 (ag d.1 1).bind fun m =>
 (cG 4 a l d.2).bind fun f =>
 (aA 4 a f).bind fun n => some (Value.tuple #[n, m], f))) = some r) : FF bu [D, E] H = some r :=
 fo Tryz.func210 (by kernel_rfl) h
theorem EK {r : Value × AH} (h : (
 aV [(vi 0), (.slice none 0 0), (vi 0), (vw 0)] H fun b a =>
 ld [.n, .f 0] D a fun e =>
 ld [.n, .f 2] e a fun g =>
 ld [.n, .f 1] D a fun i =>
 ld [.n, .f 6] D a fun j =>
 (FF eR [g, i, j] a).bind fun c =>
 ld [.n, .f 16] D c.2 fun k =>
 ic [(0, 1), (1, 1), (2, 1), (3, 1)] [(vi 0), (.slice none 0 0), (vi 0), (vw 0)] [(0, k)] fun l =>
 (cG 4 b l c.2).bind fun d =>
 (aA 4 b d).bind fun m => some (Value.tuple #[m, (vb true)], d)) = some r) : FF aO [D, E] H = some r :=
 fo Tryz.func211 (by kernel_rfl) h
theorem A4 {r : Value × AH} (h : (
 aV [(vi 0), (.slice none 0 0), (vi 0), (vw 0)] H fun d b =>
 ld [.n, .f 0] D b fun i =>
 ld [.n, .f 5, .f 4] i b fun j =>
 ld [.n, .f 2, .f 2] D b fun k =>
 (FF n0 [j, k] b).bind fun a =>
 (ag a.1 0).bind fun l =>
 (ag a.1 1).bind fun A =>
 ld [.n, .f 0] D a.2 fun m =>
 ld [.n, .f 1] D a.2 fun o =>
 ld [.n, .f 2, .f 1] D a.2 fun p =>
 ld [.n, .f 2, .f 3] D a.2 fun q =>
 ic [(0, 1), (1, 1), (2, 1)] [(vi 0), (vi 0), (vw 0)] [(0, p), (1, q), (2, l)] fun s =>
 (FF d8 [m, o, s] a.2).bind fun e =>
 st 1 [.n, .f 11] D e.1 e.2 fun t =>
 (FF bg [D, (.func (.func fh) #[D] #[])] t).bind fun c =>
 (ag c.1 0).bind fun w =>
 (ag c.1 1).bind fun y =>
 (cG 4 d w c.2).bind fun g =>
 (aA 4 d g).bind fun z => some (Value.tuple #[z, y], g)) = some r) : FF dA [D, E] H = some r :=
 fo Tryz.func212 (by kernel_rfl) h
noncomputable def qU (p : List Nat) : Code := Code.sub (bM Tryz.f213) p
noncomputable def px : KK := dP PP (Tryz.f213).results.toList
noncomputable def TW : KK := CQ (qU [1]) px bA px
noncomputable def ahH : OV := TW (ls [D, E, J, K, u, u, u, u, u, u, I] 27) H
noncomputable def Js : KX := BX 0 px bA
noncomputable def Bs : KX := qz 274877906943 Js
noncomputable def Jq : KK := xy (qU [1, 4, 5]) Bs px
noncomputable def TV : KK := en Cc Jq
noncomputable def KC : OV := Jq (ls [D, E, J, K, u, u, u, u, u, u, I] 27) H
noncomputable def TX : KK := CQ (qU [1, 4, 5, 1]) TV Bs px
noncomputable def ahI : OV := TX (ls [D, E, J, K, u, u, u, u, u, u, I] 27) H
noncomputable def Jr : KK := CQ (qU [1, 4, 5, 1, 1]) TV Bs px
noncomputable def akX : KK := en Cc Jr
noncomputable def ahJ : OV := Jr (ls [D, E, J, K, u, u, u, u, u, u, I] 27) H
noncomputable def akY : KX := BX 1 akX Bs
noncomputable def Nz (H : AH) : OV := Js 0 (ls [] 38) H
theorem oC : ar 274877906943 px := rf
theorem Xu : ar Cc TW := rc oC aB oC
theorem oD : ∀ i, ar 274877906943 (Js i) := rb oC aB
theorem sU : ar Cc Jq := rl (cx oD) oC
theorem Xv : ar Cc TX := rc (cd sU) (cx oD) oC
theorem GN : ar Cc Jr := rc (cd sU) (cx oD) oC
theorem Xw : ∀ i, ar Cc (akY i) := rb (cd GN) (cx oD)
theorem Y9 : ahJ D E J K I H =
 (ai .other .add I (vi 1)).bind fun a =>
 KC D E J K a H :=
 (by kernel_rfl)
theorem Y8 : ahI D E J K I H =
 (ai .other .add E I).bind fun a =>
 (ai .other .add J I).bind fun b =>
 (ai .other .add J I).bind fun c =>
 ldN 7 [.i 7 c] D H fun d =>
 (ai .other .add E I).bind fun e =>
 ldN 7 [.i 7 e] D H fun f =>
 st 7 [.i 7 a] D d H fun g =>
 st 7 [.i 7 b] D f g fun j =>
 ahJ D E J K I j :=
 (pt rfl 0 GN (bt rfl (qU [1, 4, 5, 1, 0, 4]) 1 Xw (by kernel_rfl)))
theorem NA (H : AH) : Nz H = some (Value.tuple #[], H) :=
 (by kernel_rfl)
theorem HF : KC D E J K I H =
 (ai .other .lss I K).bind fun a =>
 av a
 (ahI D E J K I H)
 (Nz H) :=
 yl rfl sU (pt rfl 0 Xv (by kernel_rfl))
theorem Y7 : ahH D E J K I H =
 KC D E J K I H :=
 (bt rfl (qU [1, 4]) 0 oD (li rfl (qU [1, 4, 5]) sU (by kernel_rfl)))
noncomputable def sSw : OV := bf PP GG FF (qU []) (ls [D, E, J, K, G] 33) H px bA px
theorem apL {r : Value × AH} (h : (
 ahH D E J K (vi 0) H) = some r) : FF MT [D, E, J, K, G] H = some r :=
 fo (t := sSw D E J K G H) Tryz.func213 (by kernel_rfl) (Eq.trans (pt rfl 0 Xu (by kernel_rfl)) h)
theorem F9 {r : Value × AH} (h : (
 (iC [D, (vi 0)]).bind fun a =>
 (jM [a, (vi 40)]).bind fun b =>
 some (b, H)) = some r) : FF pI [D] H = some r :=
 fo Tryz.func214 (by kernel_rfl) h
theorem w9 {r : Value × AH} (h : (
 ad [.n, .f 0] D fun a =>
 (au a H).bind fun d =>
 (FF ed [D, (vi 11), (vi 0)] H).bind fun b =>
 b7 (au a b.2) (au a H) <|
 (FF dy [d, E, b.1] b.2).bind fun c =>
 some (c.1, c.2)) = some r) : FF fG [D, E] H = some r :=
 fo Tryz.func243 (by kernel_rfl) h
noncomputable def Jt (p : List Nat) : Code := Code.sub (bM Tryz.f244) p
noncomputable def ua : KK := dP PP (Tryz.f244).results.toList
noncomputable def TY : KK := CQ (Jt [1, 1]) ua bA ua
noncomputable def Cr : OV := TY (ls [D, u, u, u, G, L, N] 45) H
noncomputable def Ju : KK := CQ (Jt [1, 1, 1]) ua bA ua
noncomputable def akZ : KK := en 4503599627370446 Ju
noncomputable def Cs : OV := Ju (ls [D, u, u, u, G, L] 46) H
noncomputable def ak0 : KX := BX 0 akZ bA
theorem vO : ar 4503599627370447 ua := rf
theorem Xx : ar 4503599627370382 TY := rc vO aB vO
theorem GO : ar 4503599627370446 Ju := rc vO aB vO
theorem Xy : ∀ i, ar 4503599627370446 (ak0 i) := rb (cd GO) aB
theorem FI : Cs D G L H =
 (FF bN [D, (.func (.func j1) #[D] #[])] H).bind fun a =>
 (ag a.1 0).bind fun c =>
 (ag a.1 1).bind fun d =>
 (cG 4 G c a.2).bind fun b =>
 (aA 4 G b).bind fun e => some (Value.tuple #[e, d], b) :=
 (by kernel_rfl)
theorem FH : Cr D G L N H =
 ld [.n, .f 11] D H fun i =>
 ld [.n, .f 12] D H fun j =>
 (FF gZ [i, j, N] H).bind fun a =>
 av a.1
 ((FF bN [D, (.func (.func oN) #[D] #[])] a.2).bind fun b =>
 (ag b.1 0).bind fun k =>
 (ag b.1 1).bind fun l =>
 (cG 4 G k b.2).bind fun e =>
 (aA 4 G e).bind fun m => some (Value.tuple #[m, l], e))
 (ld [.n, .f 12] D a.2 fun o =>
 (FF eS [o] a.2).bind fun c =>
 (ai .other .eql c.1 (vi 1)).bind fun p =>
 av p
 ((FF bN [D, (.func (.func j2) #[D] #[])] c.2).bind fun d =>
 (ag d.1 0).bind fun q =>
 (ag d.1 1).bind fun s =>
 (cG 4 G q d.2).bind fun g =>
 (aA 4 G g).bind fun t => some (Value.tuple #[t, s], g))
 (Cs D G L c.2)) :=
 (pt rfl 0 GO (bt rfl (Jt [1, 1, 0, 4]) 0 Xy (by kernel_rfl)))
noncomputable def ajW : OV := bf PP GG FF (Jt []) (ls [D, E] 50) H ua bA ua
theorem OF {r : Value × AH} (h : (
 aV [(vi 0), (.slice none 0 0), (vi 0), (vw 0)] H fun c a =>
 ld [.n, .f 11] D a fun d =>
 ld [.n, .f 1] D a fun e =>
 (FF g6 [d, e] a).bind fun b =>
 Cr D c (vb false) b.1 b.2) = some r) : FF lW [D, E] H = some r :=
 fo (t := ajW D E H) Tryz.func244 (by kernel_rfl) (Eq.trans (pt rfl 1 Xx (by kernel_rfl)) h)
theorem In {r : Value × AH} (h : (
 aV [(vi 0), (.slice none 0 0), (vi 0), (vw 0)] H fun b a =>
 ld [.n, .f 0] D a fun j =>
 ld [.n, .f 2] j a fun k =>
 ld [.n, .f 1] D a fun l =>
 ld [.n, .f 6] D a fun m =>
 (FF eR [k, l, m] a).bind fun c =>
 ld [.n, .f 10] D c.2 fun o =>
 (oc .not o).bind fun p =>
 av p
 ((FF lV [D, (vi 5)] c.2).bind fun d =>
 (ag d.1 0).bind fun q =>
 (ag d.1 1).bind fun s =>
 (cG 4 b q d.2).bind fun g =>
 (aA 4 b g).bind fun t => some (Value.tuple #[t, s], g))
 ((FF bN [D, (.func (.func gU) #[D] #[])] c.2).bind fun e =>
 (ag e.1 0).bind fun w =>
 (ag e.1 1).bind fun y =>
 (cG 4 b w e.2).bind fun i =>
 (aA 4 b i).bind fun z => some (Value.tuple #[z, y], i))) = some r) : FF eK [D, E] H = some r :=
 fo Tryz.func245 (by kernel_rfl) h
theorem EN {r : Value × AH} (h : (
 ld [.n, .f 12] D H fun d =>
 ld [.n, .f 1] D H fun e =>
 (FF fG [d, e] H).bind fun a =>
 st 1 [.n, .f 13] D a.1 a.2 fun b =>
 ld [.n, .f 13] D b fun g =>
 (FF eS [g] b).bind fun c =>
 (ai .other .eql c.1 (vi 0)).bind fun i =>
 some (i, c.2)) = some r) : FF kz [D] H = some r :=
 fo Tryz.func246 (by kernel_rfl) h
theorem A5 {r : Value × AH} (h : (
 aV [(vi 0), (.slice none 0 0), (vi 0), (vw 0)] H fun a b =>
 ld [.n, .f 12] D b fun j =>
 ld [.n, .f 1] D b fun k =>
 ld [.n, .f 13] D b fun l =>
 (FF ka [j, k, l] b).bind fun c =>
 (oc .not c.1).bind fun m =>
 av m
 ((FF bg [D, (.func (.func bu) #[D] #[])] c.2).bind fun d =>
 (ag d.1 0).bind fun o =>
 (ag d.1 1).bind fun p =>
 (cG 4 a o d.2).bind fun g =>
 (aA 4 a g).bind fun q => some (Value.tuple #[q, p], g))
 ((FF da [D, E, (vi 0)] c.2).bind fun s =>
 (FF bg [D, (.func (.func dJ) #[D] #[])] s.2).bind fun e =>
 (ag e.1 0).bind fun t =>
 (ag e.1 1).bind fun w =>
 (cG 4 a t e.2).bind fun i =>
 (aA 4 a i).bind fun y => some (Value.tuple #[y, w], i))) = some r) : FF cm [D, E] H = some r :=
 fo Tryz.func247 (by kernel_rfl) h
theorem EO {r : Value × AH} (h : (
 aV [(vi 0), (.slice none 0 0), (vi 0), (vw 0)] H fun a b =>
 ld [.n, .f 0] D b fun k =>
 ld [.n, .f 1] D b fun l =>
 (FF dE [k, l] b).bind fun g =>
 st 1 [.n, .f 14] D g.1 g.2 fun c =>
 ld [.n, .f 14] D c fun m =>
 (ai .other .rem m (vw 2)).bind fun o =>
 (ai .other .eql o (vw 1)).bind fun p =>
 av p
 ((FF bg [D, (.func (.func bu) #[D] #[])] c).bind fun d =>
 (ag d.1 0).bind fun q =>
 (ag d.1 1).bind fun s =>
 (cG 4 a q d.2).bind fun i =>
 (aA 4 a i).bind fun t => some (Value.tuple #[t, s], i))
 ((FF bg [D, (.func (.func cw) #[D] #[])] c).bind fun e =>
 (ag e.1 0).bind fun w =>
 (ag e.1 1).bind fun y =>
 (cG 4 a w e.2).bind fun j =>
 (aA 4 a j).bind fun z => some (Value.tuple #[z, y], j))) = some r) : FF dX [D, E] H = some r :=
 fo Tryz.func248 (by kernel_rfl) h
theorem qy {r : Value × AH} (h : (
 ad [.n, .f 0] D fun a =>
 (au a H).bind fun c =>
 (FF kA [J] H).bind fun b =>
 b7 (au a b.2) (au a H) <|
 (FF dI [c, E, b.1, (vw 0)] b.2).bind fun d =>
 some (Value.tuple #[], d.2)) = some r) : FF eR [D, E, J] H = some r :=
 fo Tryz.func249 (by kernel_rfl) h
theorem Ff {r : Value × AH} (h : (
 (ai .other .lss D (vw 1)).bind fun a =>
 (gV a false D).bind fun d =>
 (gB a false (ai .other .gtr d (vw 4611686018427387904))).bind fun e =>
 (bd a (vb true) e).bind fun b =>
 (gV b false E).bind fun f =>
 (gB b false (ai .other .lss f (vi 1))).bind fun g =>
 (bd b (vb true) g).bind fun c =>
 (gV c false E).bind fun i =>
 (gB c false (ai .other .gtr i (vi 65536))).bind fun j =>
 (bd c (vb true) j).bind fun k =>
 av k
 (some (Value.tuple #[(vw 0), (vb false)], H))
 ((cg (some .u64) E).bind fun l =>
 (ai .other .quo D l).bind fun m =>
 (iC [m, (vw 1)]).bind fun n =>
 some (Value.tuple #[n, (vb true)], H))) = some r) : FF n0 [D, E] H = some r :=
 fo Tryz.func250 (by kernel_rfl) h
theorem EL {r : Value × AH} (h : (
 aV [(vi 0), (.slice none 0 0), (vi 0), (vw 0)] H fun c a =>
 ld [.n, .f 0] D a fun e =>
 ld [.n, .f 2] e a fun g =>
 ld [.n, .f 1] D a fun i =>
 ld [.n, .f 6] D a fun j =>
 ld [.n, .f 9] D a fun k =>
 ld [.n, .f 2, .f 1] D a fun l =>
 ld [.n, .f 11] D a fun m =>
 (FF gy [g, i, j, k, l, m] a).bind fun o =>
 (FF da [D, E, (vi 0)] o.2).bind fun p =>
 (FF bg [D, (.func (.func aO) #[D] #[])] p.2).bind fun b =>
 (ag b.1 0).bind fun q =>
 (ag b.1 1).bind fun s =>
 (cG 4 c q b.2).bind fun d =>
 (aA 4 c d).bind fun t => some (Value.tuple #[t, s], d)) = some r) : FF fh [D, E] H = some r :=
 fo Tryz.func251 (by kernel_rfl) h
theorem w6 {r : Value × AH} (h : (
 ad [.n, .f 0] D fun a =>
 (au a H).bind fun d =>
 (FF ed [D, (vi 12), (vi 0)] H).bind fun b =>
 b7 (au a b.2) (au a H) <|
 (FF dy [d, E, b.1] b.2).bind fun c =>
 some (c.1, c.2)) = some r) : FF g6 [D, E] H = some r :=
 fo Tryz.func267 (by kernel_rfl) h
theorem w5 {r : Value × AH} (h : (
 (FF dU [E] H).bind fun b =>
 (ai .other .geq b.1 J).bind fun a =>
 (gV a true b.1).bind fun c =>
 (gV a true J).bind fun d =>
 (gB a true (ai .other .sub c d)).bind fun e =>
 (gV a true D).bind fun g =>
 gk a true  [.n, .f 2] g b.2 fun i =>
 (G3 (yv a) true (jd i some) (some undef)).bind fun j =>
 (gB a true (cg (some .u64) j)).bind fun k =>
 (gB a true (ai .other .geq e k)).bind fun l =>
 (bd a l (vb false)).bind fun m =>
 some (m, b.2)) = some r) : FF gZ [D, E, J] H = some r :=
 fo Tryz.func268 (by kernel_rfl) h
theorem V8 {r : Value × AH} (h : (
 aV [(vi 0), (.slice none 0 0), (vi 0), (vw 0)] H fun a b =>
 ld [.n, .f 0] D b fun k =>
 ld [.n, .f 1] D b fun l =>
 (FF dE [k, l] b).bind fun g =>
 st 1 [.n, .f 13] D g.1 g.2 fun c =>
 ld [.n, .f 13] D c fun m =>
 (ai .other .rem m (vw 2)).bind fun o =>
 (ai .other .eql o (vw 1)).bind fun p =>
 av p
 ((FF bN [D, (.func (.func cr) #[D] #[])] c).bind fun d =>
 (ag d.1 0).bind fun q =>
 (ag d.1 1).bind fun s =>
 (cG 4 a q d.2).bind fun i =>
 (aA 4 a i).bind fun t => some (Value.tuple #[t, s], i))
 ((FF bN [D, (.func (.func fA) #[D] #[])] c).bind fun e =>
 (ag e.1 0).bind fun w =>
 (ag e.1 1).bind fun y =>
 (cG 4 a w e.2).bind fun j =>
 (aA 4 a j).bind fun z => some (Value.tuple #[z, y], j))) = some r) : FF oN [D, E] H = some r :=
 fo Tryz.func269 (by kernel_rfl) h
theorem LA {r : Value × AH} (h : (
 aV [(vi 0), (.slice none 0 0), (vi 0), (vw 0)] H fun a b =>
 ld [.n, .f 11] D b fun j =>
 ld [.n, .f 1] D b fun k =>
 ld [.n, .f 12] D b fun l =>
 (FF gv [j, k, l] b).bind fun c =>
 (oc .not c.1).bind fun m =>
 av m
 ((FF bN [D, (.func (.func cr) #[D] #[])] c.2).bind fun d =>
 (ag d.1 0).bind fun o =>
 (ag d.1 1).bind fun p =>
 (cG 4 a o d.2).bind fun g =>
 (aA 4 a g).bind fun q => some (Value.tuple #[q, p], g))
 ((FF lY [D, E, (vi 0)] c.2).bind fun s =>
 (FF bN [D, (.func (.func oM) #[D] #[])] s.2).bind fun e =>
 (ag e.1 0).bind fun t =>
 (ag e.1 1).bind fun w =>
 (cG 4 a t e.2).bind fun i =>
 (aA 4 a i).bind fun y => some (Value.tuple #[y, w], i))) = some r) : FF j2 [D, E] H = some r :=
 fo Tryz.func270 (by kernel_rfl) h
theorem Lz {r : Value × AH} (h : (
 aV [(vi 0), (.slice none 0 0), (vi 0), (vw 0)] H fun c a =>
 ld [.n, .f 0] D a fun e =>
 ld [.n, .f 1] e a fun g =>
 ld [.n, .f 1] D a fun i =>
 (FF ip [g, i] a).bind fun j =>
 (FF bN [D, (.func (.func l6) #[D] #[])] j.2).bind fun b =>
 (ag b.1 0).bind fun k =>
 (ag b.1 1).bind fun l =>
 (cG 4 c k b.2).bind fun d =>
 (aA 4 c d).bind fun m => some (Value.tuple #[m, l], d)) = some r) : FF j1 [D, E] H = some r :=
 fo Tryz.func271 (by kernel_rfl) h
theorem w8 {r : Value × AH} (h : (
 (FF g8 [D, E, J, (.func (.func nq) #[] #[])] H).bind fun a =>
 some (a.1, a.2)) = some r) : FF ka [D, E, J] H = some r :=
 fo Tryz.func272 (by kernel_rfl) h
theorem yR {r : Value × AH} (h : (
 aV [(vi 0), (.slice none 0 0), (vi 0), (vw 0)] H fun c a =>
 ld [.n, .f 0] D a fun e =>
 ld [.n, .f 2] e a fun g =>
 ld [.n, .f 1] D a fun i =>
 ld [.n, .f 6] D a fun j =>
 ld [.n, .f 10] D a fun k =>
 (FF ir [g, i, j, k] a).bind fun l =>
 (FF bg [D, (.func (.func aO) #[D] #[])] l.2).bind fun b =>
 (ag b.1 0).bind fun m =>
 (ag b.1 1).bind fun o =>
 (cG 4 c m b.2).bind fun d =>
 (aA 4 c d).bind fun p => some (Value.tuple #[p, o], d)) = some r) : FF dJ [D, E] H = some r :=
 fo Tryz.func273 (by kernel_rfl) h
theorem uA {r : Value × AH} (h : (
 ld [.n, .f 0] D H fun b =>
 ic [(0, 1), (1, 1), (2, 1)] [(vi 0), (vi 0), (vi 0)] [(0, (vi 2))] fun c =>
 (FF dy [b, E, c] H).bind fun a =>
 some (a.1, a.2)) = some r) : FF dE [D, E] H = some r :=
 fo Tryz.func274 (by kernel_rfl) h
theorem r9 {r : Value × AH} (h : (
 aV [(vi 0), (.slice none 0 0), (vi 0), (vw 0)] H fun a i =>
 (FF kz [D] i).bind fun b =>
 av b.1
 ((FF bg [D, (.func (.func cm) #[D] #[])] b.2).bind fun c =>
 (ag c.1 0).bind fun j =>
 (ag c.1 1).bind fun k =>
 (cG 4 a j c.2).bind fun e =>
 (aA 4 a e).bind fun l => some (Value.tuple #[l, k], e))
 (st 1 [.n, .f 15] D E b.2 fun m =>
 (FF bg [D, (.func (.func cE) #[D] #[])] m).bind fun d =>
 (ag d.1 0).bind fun o =>
 (ag d.1 1).bind fun p =>
 (cG 4 a o d.2).bind fun g =>
 (aA 4 a g).bind fun q => some (Value.tuple #[q, p], g))) = some r) : FF cw [D, E] H = some r :=
 fo Tryz.func275 (by kernel_rfl) h
theorem Ac {r : Value × AH} (h : (
 aV [(vi 0), (.slice none 0 0), (vi 0), (vw 0)] H fun a b =>
 ld [.n, .f 11] D b fun l =>
 ld [.n, .f 1] D b fun m =>
 (FF fG [l, m] b).bind fun g =>
 st 1 [.n, .f 12] D g.1 g.2 fun i =>
 ld [.n, .f 12] D i fun o =>
 (FF eS [o] i).bind fun c =>
 (ai .other .eql c.1 (vi 2)).bind fun p =>
 av p
 ((FF bN [D, (.func (.func dn) #[D] #[])] c.2).bind fun d =>
 (ag d.1 0).bind fun q =>
 (ag d.1 1).bind fun s =>
 (cG 4 a q d.2).bind fun j =>
 (aA 4 a j).bind fun t => some (Value.tuple #[t, s], j))
 ((FF bN [D, (.func (.func fy) #[D] #[])] c.2).bind fun e =>
 (ag e.1 0).bind fun w =>
 (ag e.1 1).bind fun y =>
 (cG 4 a w e.2).bind fun k =>
 (aA 4 a k).bind fun z => some (Value.tuple #[z, y], k))) = some r) : FF fA [D, E] H = some r :=
 fo Tryz.func281 (by kernel_rfl) h
theorem uY {r : Value × AH} (h : (
 (FF g8 [D, E, J, (.func (.func nl) #[] #[])] H).bind fun a =>
 some (a.1, a.2)) = some r) : FF gv [D, E, J] H = some r :=
 fo Tryz.func282 (by kernel_rfl) h
theorem V6 {r : Value × AH} (h : (
 aV [(vi 0), (.slice none 0 0), (vi 0), (vw 0)] H fun b d =>
 (FF wo [D] d).bind fun e =>
 (FF bN [D, (.func (.func l5) #[D] #[])] e.2).bind fun a =>
 (ag a.1 0).bind fun f =>
 (ag a.1 1).bind fun g =>
 (cG 4 b f a.2).bind fun c =>
 (aA 4 b c).bind fun i => some (Value.tuple #[i, g], c)) = some r) : FF oM [D, E] H = some r :=
 fo Tryz.func283 (by kernel_rfl) h
theorem rh {r : Value × AH} (h : (
 ad [.n, .f 0] D fun a =>
 (au a H).bind fun c =>
 (FF bI [(vi 3), (vi 0)] H).bind fun b =>
 b7 (au a b.2) (au a H) <|
 (FF iB [c, E, b.1, (vw 4294967296)] b.2).bind fun d =>
 some (Value.tuple #[], d.2)) = some r) : FF ip [D, E] H = some r :=
 fo Tryz.func284 (by kernel_rfl) h
theorem ON {r : Value × AH} (h : (
 aV [(vi 0), (.slice none 0 0), (vi 0), (vw 0)] H fun a b =>
 ld [.n, .f 11] D b fun j =>
 ld [.n, .f 1] D b fun k =>
 ld [.n, .f 12] D b fun l =>
 (FF gv [j, k, l] b).bind fun c =>
 (oc .not c.1).bind fun m =>
 av m
 ((FF bN [D, (.func (.func lT) #[D] #[])] c.2).bind fun d =>
 (ag d.1 0).bind fun o =>
 (ag d.1 1).bind fun p =>
 (cG 4 a o d.2).bind fun g =>
 (aA 4 a g).bind fun q => some (Value.tuple #[q, p], g))
 ((FF lY [D, E, (vi 0)] c.2).bind fun s =>
 (FF bN [D, (.func (.func lU) #[D] #[])] s.2).bind fun e =>
 (ag e.1 0).bind fun t =>
 (ag e.1 1).bind fun w =>
 (cG 4 a t e.2).bind fun i =>
 (aA 4 a i).bind fun y => some (Value.tuple #[y, w], i))) = some r) : FF l6 [D, E] H = some r :=
 fo Tryz.func285 (by kernel_rfl) h
theorem KU {r : Value × AH} (h : (
 (FF eS [D] H).bind fun a =>
 (ai .other .neq a.1 (vi 0)).bind fun d =>
 av d
 (some (Value.tuple #[(vw 0), (vb false)], a.2))
 ((FF dU [D] a.2).bind fun c =>
 (FF np [c.1, (vi 2)] c.2).bind fun b =>
 (ag b.1 0).bind fun e =>
 (ag b.1 1).bind fun f =>
 some (Value.tuple #[e, f], b.2))) = some r) : FF nq [D] H = some r :=
 fo Tryz.func286 (by kernel_rfl) h
theorem se {r : Value × AH} (h : (
 ad [.n, .f 0] D fun a =>
 (au a H).bind fun c =>
 (FF jx [J, K] H).bind fun b =>
 b7 (au a b.2) (au a H) <|
 (FF dI [c, E, b.1, (vw 0)] b.2).bind fun d =>
 some (Value.tuple #[], d.2)) = some r) : FF ir [D, E, J, K] H = some r :=
 fo Tryz.func287 (by kernel_rfl) h
theorem tn {r : Value × AH} (h : (
 aV [(vi 0), (.slice none 0 0), (vi 0), (vw 0)] H fun b c =>
 ld [.n, .f 0] D c fun k =>
 ld [.n, .f 1] D c fun l =>
 (FF dE [k, l] c).bind fun a =>
 ad [.n, .f 14] D fun d =>
 (au d a.2).bind fun m =>
 b7 (au d c) (au d a.2) <|
 (ai .other .neq a.1 m).bind fun o =>
 av o
 ((FF bg [D, (.func (.func bu) #[D] #[])] a.2).bind fun e =>
 (ag e.1 0).bind fun p =>
 (ag e.1 1).bind fun q =>
 (cG 4 b p e.2).bind fun i =>
 (aA 4 b i).bind fun s => some (Value.tuple #[s, q], i))
 (ld [.n, .f 15] D a.2 fun t =>
 (FF da [D, t, (vi 8)] a.2).bind fun w =>
 (FF bg [D, (.func (.func aO) #[D] #[])] w.2).bind fun g =>
 (ag g.1 0).bind fun y =>
 (ag g.1 1).bind fun z =>
 (cG 4 b y g.2).bind fun j =>
 (aA 4 b j).bind fun A => some (Value.tuple #[A, z], j))) = some r) : FF cE [D, E] H = some r :=
 fo Tryz.func288 (by kernel_rfl) h
theorem z9 {r : Value × AH} (h : (
 aV [(vi 0), (.slice none 0 0), (vi 0), (vw 0)] H fun b a =>
 ad [.n, .f 11] D fun d =>
 (au d a).bind fun m =>
 ad [.n, .f 12] D fun e =>
 (au e a).bind fun o =>
 ld [.n, .f 11] D a fun p =>
 ld [.n, .f 1] D a fun q =>
 (FF g6 [p, q] a).bind fun c =>
 b7 (au d c.2) (au d a) <|
 b7 (au e c.2) (au e a) <|
 (FF gZ [m, o, c.1] c.2).bind fun g =>
 (oc .not g.1).bind fun s =>
 av s
 ((FF bN [D, (.func (.func cr) #[D] #[])] g.2).bind fun i =>
 (ag i.1 0).bind fun t =>
 (ag i.1 1).bind fun w =>
 (cG 4 b t i.2).bind fun k =>
 (aA 4 b k).bind fun y => some (Value.tuple #[y, w], k))
 (st 1 [.n, .f 14] D E g.2 fun z =>
 (FF bN [D, (.func (.func gj) #[D] #[])] z).bind fun j =>
 (ag j.1 0).bind fun A =>
 (ag j.1 1).bind fun B =>
 (cG 4 b A j.2).bind fun l =>
 (aA 4 b l).bind fun C => some (Value.tuple #[C, B], l))) = some r) : FF fy [D, E] H = some r :=
 fo Tryz.func289 (by kernel_rfl) h
theorem KS {r : Value × AH} (h : (
 (FF jy [D] H).bind fun c =>
 (oc .not c.1).bind fun a =>
 (gV a false D).bind fun i =>
 (gE a false c.2 (FF eS [i] c.2)).bind fun d =>
 (gB a false (ai .other .eql d.1 (vi 2))).bind fun j =>
 (bd a (vb true) j).bind fun b =>
 (gV b false D).bind fun k =>
 (gE b false d.2 (FF dU [k] d.2)).bind fun e =>
 (gB b false (ai .other .eql e.1 (vw 2305843009213693951))).bind fun l =>
 (bd b (vb true) l).bind fun m =>
 av m
 (some (Value.tuple #[(vw 0), (vb false)], e.2))
 ((FF dU [D] e.2).bind fun g =>
 (ai .other .add g.1 (vw 1)).bind fun n =>
 (FF np [n, (vi 1)] g.2).bind fun f =>
 (ag f.1 0).bind fun o =>
 (ag f.1 1).bind fun p =>
 some (Value.tuple #[o, p], f.2))) = some r) : FF nl [D] H = some r :=
 fo Tryz.func290 (by kernel_rfl) h
theorem V5 {r : Value × AH} (h : (
 ad [.n, .f 11] D fun b =>
 (au b H).bind fun i =>
 ad [.n, .f 1] D fun c =>
 (au c H).bind fun j =>
 ld [.n, .f 12] D H fun k =>
 (FF dU [k] H).bind fun a =>
 b7 (au b a.2) (au b H) <|
 b7 (au c a.2) (au c H) <|
 ad [.n, .f 2, .f 1] D fun d =>
 (au d a.2).bind fun l =>
 b7 (au d H) (au d a.2) <|
 ad [.n, .f 2, .f 2] D fun e =>
 (au e a.2).bind fun m =>
 b7 (au e H) (au e a.2) <|
 ad [.n, .f 2, .f 3] D fun g =>
 (au g a.2).bind fun o =>
 b7 (au g H) (au g a.2) <|
 ic [(0, 1), (1, 1), (2, 1)] [(vi 0), (vi 0), (vi 0)] [(0, l), (1, m), (2, o)] fun p =>
 (FF ll [i, j, a.1, p] a.2).bind fun q =>
 some (Value.tuple #[], q.2)) = some r) : FF wo [D] H = some r :=
 fo Tryz.func291 (by kernel_rfl) h
theorem OM {r : Value × AH} (h : (
 aV [(vi 0), (.slice none 0 0), (vi 0), (vw 0)] H fun g a =>
 ad [.n, .f 11] D fun c =>
 (au c a).bind fun j =>
 ad [.n, .f 1] D fun d =>
 (au d a).bind fun k =>
 ld [.n, .f 12] D a fun l =>
 (FF dU [l] a).bind fun b =>
 b7 (au c b.2) (au c a) <|
 b7 (au d b.2) (au d a) <|
 (FF g7 [j, k, b.1] b.2).bind fun m =>
 (FF lV [D, (vi 0)] m.2).bind fun e =>
 (ag e.1 0).bind fun o =>
 (ag e.1 1).bind fun p =>
 (cG 4 g o e.2).bind fun i =>
 (aA 4 g i).bind fun q => some (Value.tuple #[q, p], i)) = some r) : FF l5 [D, E] H = some r :=
 fo Tryz.func292 (by kernel_rfl) h
theorem OC {r : Value × AH} (h : (
 aV [(vi 0), (.slice none 0 0), (vi 0), (vw 0)] H fun c a =>
 ld [.n, .f 0] D a fun e =>
 ld [.n, .f 1] e a fun g =>
 ld [.n, .f 1] D a fun i =>
 (FF gr [g, i] a).bind fun j =>
 (FF bN [D, (.func (.func cr) #[D] #[])] j.2).bind fun b =>
 (ag b.1 0).bind fun k =>
 (ag b.1 1).bind fun l =>
 (cG 4 c k b.2).bind fun d =>
 (aA 4 c d).bind fun m => some (Value.tuple #[m, l], d)) = some r) : FF lT [D, E] H = some r :=
 fo Tryz.func293 (by kernel_rfl) h
theorem OD {r : Value × AH} (h : (
 aV [(vi 0), (.slice none 0 0), (vi 0), (vw 0)] H fun b d =>
 (FF wo [D] d).bind fun e =>
 (FF bN [D, (.func (.func j4) #[D] #[])] e.2).bind fun a =>
 (ag a.1 0).bind fun f =>
 (ag a.1 1).bind fun g =>
 (cG 4 b f a.2).bind fun c =>
 (aA 4 b c).bind fun i => some (Value.tuple #[i, g], c)) = some r) : FF lU [D, E] H = some r :=
 fo Tryz.func294 (by kernel_rfl) h
theorem Cv {r : Value × AH} (h : (
 aV [(vi 0), (.slice none 0 0), (vi 0), (vw 0)] H fun b c =>
 ld [.n, .f 0] D c fun k =>
 ld [.n, .f 1] D c fun l =>
 (FF dE [k, l] c).bind fun a =>
 ad [.n, .f 13] D fun d =>
 (au d a.2).bind fun m =>
 b7 (au d c) (au d a.2) <|
 (ai .other .neq a.1 m).bind fun o =>
 av o
 ((FF bN [D, (.func (.func cr) #[D] #[])] a.2).bind fun e =>
 (ag e.1 0).bind fun p =>
 (ag e.1 1).bind fun q =>
 (cG 4 b p e.2).bind fun i =>
 (aA 4 b i).bind fun s => some (Value.tuple #[s, q], i))
 (ld [.n, .f 14] D a.2 fun t =>
 (FF jb [D, t, (vi 9)] a.2).bind fun g =>
 (ag g.1 0).bind fun w =>
 (ag g.1 1).bind fun y =>
 (cG 4 b w g.2).bind fun j =>
 (aA 4 b j).bind fun z => some (Value.tuple #[z, y], j))) = some r) : FF gj [D, E] H = some r :=
 fo Tryz.func295 (by kernel_rfl) h
theorem yW {r : Value × AH} (h : (
 aV (Value.cells K).toList H fun e c =>
 ad [.n, .f 0] D fun a =>
 (au a c).bind fun l =>
 (FF dq [D, J] c).bind fun g =>
 b7 (au a g.2) (au a c) <|
 (FF ed [D, (vi 16), g.1] g.2).bind fun j =>
 b7 (au a j.2) (au a c) <|
 (FF gg [l, E, j.1] j.2).bind fun d =>
 ad [.n, .f 2] D fun k =>
 (au k d.2).bind fun m =>
 (FF dq [D, J] d.2).bind fun b =>
 b7 (au k b.2) (au k d.2) <|
 (aA 3 e b.2).bind fun o =>
 b7 (aA 3 e d.2) (aA 3 e b.2) <|
 st 3 [.i 3 b.1] m o b.2 fun p =>
 some (Value.tuple #[], p)) = some r) : FF ll [D, E, J, K] H = some r :=
 fo Tryz.func296 (by kernel_rfl) h
theorem w7 {r : Value × AH} (h : (
 ad [.n, .f 0] D fun a =>
 (au a H).bind fun d =>
 (FF dq [D, J] H).bind fun b =>
 b7 (au a b.2) (au a H) <|
 (FF ed [D, (vi 15), b.1] b.2).bind fun c =>
 b7 (au a c.2) (au a H) <|
 (ai .other .add J (vw 1)).bind fun e =>
 (FF dI [d, E, c.1, e] c.2).bind fun g =>
 some (Value.tuple #[], g.2)) = some r) : FF g7 [D, E, J] H = some r :=
 fo Tryz.func297 (by kernel_rfl) h
theorem uc {r : Value × AH} (h : (
 ad [.n, .f 0] D fun a =>
 (au a H).bind fun c =>
 (FF bI [(vi 3), (vi 0)] H).bind fun b =>
 b7 (au a b.2) (au a H) <|
 (FF iB [c, E, b.1, (vw 1)] b.2).bind fun d =>
 some (Value.tuple #[], d.2)) = some r) : FF gr [D, E] H = some r :=
 fo Tryz.func298 (by kernel_rfl) h
theorem LC {r : Value × AH} (h : (
 aV [(vi 0), (.slice none 0 0), (vi 0), (vw 0)] H fun g a =>
 ad [.n, .f 11] D fun c =>
 (au c a).bind fun j =>
 ad [.n, .f 1] D fun d =>
 (au d a).bind fun k =>
 ld [.n, .f 12] D a fun l =>
 (FF dU [l] a).bind fun b =>
 b7 (au c b.2) (au c a) <|
 b7 (au d b.2) (au d a) <|
 (FF g7 [j, k, b.1] b.2).bind fun m =>
 (FF bN [D, (.func (.func dT) #[D] #[])] m.2).bind fun e =>
 (ag e.1 0).bind fun o =>
 (ag e.1 1).bind fun p =>
 (cG 4 g o e.2).bind fun i =>
 (aA 4 g i).bind fun q => some (Value.tuple #[q, p], i)) = some r) : FF j4 [D, E] H = some r :=
 fo Tryz.func299 (by kernel_rfl) h
theorem FL {r : Value × AH} (h : (
 aV [(vi 0), (.slice none 0 0), (vi 0), (vw 0)] H fun c a =>
 ld [.n, .f 0] D a fun g =>
 ld [.n, .f 1] g a fun i =>
 ld [.n, .f 1] D a fun j =>
 ld [.n, .f 6] D a fun k =>
 (FF jp [i, j, k] a).bind fun d =>
 st 1 [.n, .f 15] D d.1 d.2 fun l =>
 (FF bN [D, (.func (.func lX) #[D] #[])] l).bind fun b =>
 (ag b.1 0).bind fun m =>
 (ag b.1 1).bind fun o =>
 (cG 4 c m b.2).bind fun e =>
 (aA 4 c e).bind fun p => some (Value.tuple #[p, o], e)) = some r) : FF dT [D, E] H = some r :=
 fo Tryz.func300 (by kernel_rfl) h
theorem ud {r : Value × AH} (h : (
 ad [.n, .f 0] D fun a =>
 (au a H).bind fun e =>
 ld [.n, .f 3] D H fun g =>
 (cf g [J]).bind fun c => (FF c.1 c.2 H).bind fun b =>
 b7 (au a b.2) (au a H) <|
 (FF dy [e, E, b.1] b.2).bind fun d =>
 some (d.1, d.2)) = some r) : FF jp [D, E, J] H = some r :=
 fo Tryz.func301 (by kernel_rfl) h
theorem OG {r : Value × AH} (h : (
 aV [(vi 0), (.slice none 0 0), (vi 0), (vw 0)] H fun c a =>
 ld [.n, .f 0] D a fun e =>
 ld [.n, .f 1] e a fun g =>
 ld [.n, .f 1] D a fun i =>
 ld [.n, .f 9] D a fun j =>
 ld [.n, .f 15] D a fun k =>
 (FF iU [g, i, j, k] a).bind fun l =>
 (FF bN [D, (.func (.func lZ) #[D] #[])] l.2).bind fun b =>
 (ag b.1 0).bind fun m =>
 (ag b.1 1).bind fun o =>
 (cG 4 c m b.2).bind fun d =>
 (aA 4 c d).bind fun p => some (Value.tuple #[p, o], d)) = some r) : FF lX [D, E] H = some r :=
 fo Tryz.func302 (by kernel_rfl) h
theorem td {r : Value × AH} (h : (
 ad [.n, .f 0] D fun a =>
 (au a H).bind fun e =>
 ld [.n, .f 4] D H fun g =>
 (cf g [J]).bind fun c => (FF c.1 c.2 H).bind fun b =>
 b7 (au a b.2) (au a H) <|
 (FF gg [e, E, b.1] b.2).bind fun d =>
 ld [.n, .f 2] D d.2 fun i =>
 (eZ .int i J K d.2).bind fun j =>
 some (Value.tuple #[], j)) = some r) : FF iU [D, E, J, K] H = some r :=
 fo Tryz.func303 (by kernel_rfl) h
theorem OK {r : Value × AH} (h : (
 aV [(vi 0), (.slice none 0 0), (vi 0), (vw 0)] H fun b a =>
 ld [.n, .f 0] D a fun j =>
 ld [.n, .f 1] j a fun k =>
 ld [.n, .f 1] D a fun l =>
 ld [.n, .f 6] D a fun m =>
 ld [.n, .f 15] D a fun o =>
 ld [.n, .f 9] D a fun p =>
 (FF iV [k, l, m, o, p] a).bind fun c =>
 (oc .not c.1).bind fun q =>
 av q
 ((FF bN [D, (.func (.func dT) #[D] #[])] c.2).bind fun d =>
 (ag d.1 0).bind fun s =>
 (ag d.1 1).bind fun t =>
 (cG 4 b s d.2).bind fun g =>
 (aA 4 b g).bind fun w => some (Value.tuple #[w, t], g))
 ((FF bN [D, (.func (.func oL) #[D] #[])] c.2).bind fun e =>
 (ag e.1 0).bind fun y =>
 (ag e.1 1).bind fun z =>
 (cG 4 b y e.2).bind fun i =>
 (aA 4 b i).bind fun A => some (Value.tuple #[A, z], i))) = some r) : FF lZ [D, E] H = some r :=
 fo Tryz.func304 (by kernel_rfl) h
theorem te {r : Value × AH} (h : (
 ad [.n, .f 0] D fun a =>
 (au a H).bind fun e =>
 ld [.n, .f 3] D H fun g =>
 (cf g [J]).bind fun c => (FF c.1 c.2 H).bind fun b =>
 b7 (au a b.2) (au a H) <|
 (cg (some .u64) G).bind fun i =>
 (ai .other .add i (vw 1)).bind fun j =>
 (FF fC [e, E, b.1, K, j] b.2).bind fun d =>
 some (d.1, d.2)) = some r) : FF iV [D, E, J, K, G] H = some r :=
 fo Tryz.func305 (by kernel_rfl) h
theorem V1 {r : Value × AH} (h : (
 aV [(vi 0), (.slice none 0 0), (vi 0), (vw 0)] H fun c a =>
 ld [.n, .f 0] D a fun e =>
 ld [.n, .f 1] e a fun g =>
 ld [.n, .f 1] D a fun i =>
 (FF gr [g, i] a).bind fun j =>
 (FF lV [D, (vi 0)] j.2).bind fun b =>
 (ag b.1 0).bind fun k =>
 (ag b.1 1).bind fun l =>
 (cG 4 c k b.2).bind fun d =>
 (aA 4 c d).bind fun m => some (Value.tuple #[m, l], d)) = some r) : FF oL [D, E] H = some r :=
 fo Tryz.func306 (by kernel_rfl) h
end
theorem Fv (n : Int) : IntKind.wrap .u64 n = n % 18446744073709551616 := by simp [IntKind.wrap, IntKind.bits, IntKind.signed]
theorem mg {n : Int} (h0 : 0 ≤ n) (h1 : n < 18446744073709551616) : IntKind.wrap .u64 n = n := by rw [Fv]; omega
theorem oX {n : Int} (h0 : -9223372036854775808 ≤ n) (h1 : n < 9223372036854775808) : IntKind.wrap .i64 n = n := by
 simp [IntKind.wrap, IntKind.bits, IntKind.signed]
 split <;> omega
theorem s3 (a : Nat) (h : a < 18446744073709551616) : (BitVec.ofInt 64 (a : Int)).toNat = a := by
 rw [BitVec.toNat_ofInt];omega
theorem Ot {a b : Nat} (ha : a < 18446744073709551616) (hb : b < 18446744073709551616) : Go.bits .and .u64 (a : Int) (b : Int) = ((a &&& b : Nat) : Int) := by
 show IntKind.wrap .u64 (((BitVec.ofInt 64 (a : Int) &&& BitVec.ofInt 64 (b : Int)).toNat : Nat) : Int) = _;rw [BitVec.toNat_and, s3 a ha, s3 b hb];have : a &&& b ≤ a := Nat.and_le_left;exact mg (by omega) (by omega)
theorem aqX {a b : Nat} (ha : a < 18446744073709551616) (hb : b < 18446744073709551616) : a ||| b < 18446744073709551616 := Nat.or_lt_two_pow (n := 64) ha hb
theorem VU {a b : Nat} (ha : a < 18446744073709551616) (hb : b < 18446744073709551616) : Go.bits .or .u64 (a : Int) (b : Int) = ((a ||| b : Nat) : Int) := by
 show IntKind.wrap .u64 (((BitVec.ofInt 64 (a : Int) ||| BitVec.ofInt 64 (b : Int)).toNat : Nat) : Int) = _;rw [BitVec.toNat_or, s3 a ha, s3 b hb];have := aqX ha hb;exact mg (by omega) (by omega)
section
variable {cl : TCls}
theorem ajO {a b : Nat} (ha : a < 18446744073709551616) (hb : b < 18446744073709551616) : ai cl .and (vu a) (vu b) = some (vu (a &&& b)) := by simp only [ai, mV, if_true, Ot ha hb]
theorem aaE {a b : Nat} (ha : a < 18446744073709551616) (hb : b < 18446744073709551616) : ai cl .or (vu a) (vu b) = some (vu (a ||| b)) := by simp only [ai, mV, if_true, VU ha hb]
theorem gi {a b : Nat} (h : a + b < 18446744073709551616) : ai cl .add (vu a) (vu b) = some (vu (a + b)) := by
 simp only [ai, mV, if_true];rw [mg (by omega) (by omega)];simp
theorem VT {a b : Nat} : ai cl .mul (vu a) (vu b) = some (vu (a * b % 18446744073709551616)) := by
 simp only [ai, mV, if_true];rw [Fv];simp
theorem Gl {a b : Nat} (h : b ≤ a) (ha : a < 18446744073709551616) : ai cl .sub (vu a) (vu b) = some (vu (a - b)) := by
 simp only [ai, mV, if_true];rw [mg (by omega) (by omega)];show some (Value.int .u64 ((a : Int) - (b : Int))) = some (Value.int .u64 ((a - b : Nat) : Int));rw [Int.ofNat_sub h]
theorem xC {a b : Nat} (h : b ≠ 0) (ha : a < 18446744073709551616) : ai cl .quo (vu a) (vu b) = some (vu (a / b)) := by
 simp only [ai, mV, if_true];rw [if_neg (by omega)];have h1 : (a : Int).tdiv (b : Int) = ((a / b : Nat) : Int) := (Int.ofNat_tdiv a b).symm;have h2 : a / b ≤ a := Nat.div_le_self a b;rw [h1]
 generalize a / b = q at h2
 rw [mg (by omega) (by omega)]
theorem jU {a b : Nat} (h : b ≠ 0) : ai cl .rem (vu a) (vu b) = some (vu (a % b)) := by
 simp only [ai, mV, if_true];rw [if_neg (by omega)];have h1 : (a : Int).tmod (b : Int) = ((a % b : Nat) : Int) := (Int.ofNat_tmod a b).symm;rw [h1]
theorem xD {a : Nat} {k : IntKind} {n : Nat} (hn : n ≤ 64) : ai cl .shr (vu a) (.int k (n : Int)) = some (vu (a / 2 ^ n)) := by
 simp only [ai, mK];rw [if_neg (by omega)];simp only [IntKind.bits, v9, Nat.min_eq_left hn]
 have : (a : Int).fdiv (2 ^ n) = ((a / 2 ^ n : Nat) : Int) := by
  rw [Int.fdiv_eq_ediv_of_nonneg _ (by exact Int.le_of_lt (Int.pow_pos (by omega)))];simp
 rw [this]
theorem Gk {a : Nat} {k : IntKind} {n : Nat} (hn : n ≤ 64) : ai cl .shl (vu a) (.int k (n : Int)) = some (vu (a * 2 ^ n % 18446744073709551616)) := by
 simp only [ai, mK];rw [if_neg (by omega)];simp only [IntKind.bits, v9, Nat.min_eq_left hn];rw [Fv];simp
theorem aH {a b : Int} (h0 : -9223372036854775808 ≤ a + b) (h1 : a + b < 9223372036854775808) : ai cl .add (vi a) (vi b) = some (vi (a + b)) := by simp only [ai, mV, if_true, oX h0 h1]
theorem bF {a b : Int} (h0 : -9223372036854775808 ≤ a - b) (h1 : a - b < 9223372036854775808) : ai cl .sub (vi a) (vi b) = some (vi (a - b)) := by simp only [ai, mV, if_true, oX h0 h1]
theorem sD {k : IntKind} {a b : Int} : ai cl .lss (.int k a) (.int k b) = some (vb (decide (a < b))) ∧ ai cl .leq (.int k a) (.int k b) = some (vb (decide (a ≤ b))) ∧ ai cl .gtr (.int k a) (.int k b) = some (vb (decide (b < a))) ∧
 ai cl .geq (.int k a) (.int k b) = some (vb (decide (b ≤ a))) ∧ ai cl .eql (.int k a) (.int k b) = some (vb (a == b)) ∧ ai cl .neq (.int k a) (.int k b) = some (vb (a != b)) := by
 simp [ai, mV]
theorem sF {k : IntKind} {a b : Int} : ai cl .lss (.int k a) (.int k b) = some (vb (decide (a < b))) := sD.1
theorem R7 {k : IntKind} {a b : Int} : ai cl .leq (.int k a) (.int k b) = some (vb (decide (a ≤ b))) := sD.2.1
theorem Ie {k : IntKind} {a b : Int} : ai cl .gtr (.int k a) (.int k b) = some (vb (decide (b < a))) := sD.2.2.1
theorem sE {k : IntKind} {a b : Int} : ai cl .geq (.int k a) (.int k b) = some (vb (decide (b ≤ a))) := sD.2.2.2.1
theorem fq {k : IntKind} {a b : Int} : ai cl .eql (.int k a) (.int k b) = some (vb (a == b)) := sD.2.2.2.2.1
theorem vh {k : IntKind} {a b : Int} : ai cl .neq (.int k a) (.int k b) = some (vb (a != b)) := sD.2.2.2.2.2
theorem Fo {a : Bool} : oc .not (vb a) = some (vb (!a)) := rfl
theorem lu {a b : Int} : iC [vi a, vi b] = some (vi (max a b)) := by
 simp only [iC]
 congr 2
 split <;> omega
theorem lw {a b : Int} : jM [vi a, vi b] = some (vi (min a b)) := by
 simp only [jM]
 congr 2
 split <;> omega
end
abbrev Hp := Nat → Option AObj
def SP : Type := Hp → Prop
theorem SP.ext {P Q : SP} (h : ∀ x, P x ↔ Q x) : P = Q := funext fun x => propext (h x)
def sep (P Q : SP) : SP := fun h => ∃ a b : Hp, (∀ i, a i = none ∨ b i = none) ∧ (h = fun i => (a i).or (b i)) ∧ P a ∧ Q b
instance : Mul SP := ⟨sep⟩
def emp : SP := fun h => h = fun _ => none
theorem afW {α : Type} {a b : Option α} (h : a = none ∨ b = none) : a.or b = b.or a := by
 rcases h with rfl | rfl <;> simp
theorem xh (P Q : SP) : P * Q = Q * P := by
 have one : ∀ (P Q : SP) h, sep P Q h → sep Q P h := by
  rintro P Q h ⟨a, b, hd, rfl, ha, hb⟩
  exact ⟨b, a, fun i => (hd i).symm, funext fun i => afW (hd i), hb, ha⟩
 exact SP.ext fun h => ⟨one P Q h, one Q P h⟩
theorem ak (P Q R : SP) : P * Q * R = P * (Q * R) := by
 apply SP.ext;intro h
 constructor
 ·rintro ⟨ab, c, hd, rfl, ⟨a, b, hd2, rfl, ha, hb⟩, hc⟩
  refine ⟨a, fun i => (b i).or (c i), fun i => ?_, funext fun i => ?_, ha, b, c, fun i => ?_, rfl, hb, hc⟩
  ·have h1 := hd i
   have h2 := hd2 i
   cases ha' : a i <;> cases hb' : b i <;> cases hc' : c i <;> simp_all
  ·exact Option.or_assoc
  ·have h1 := hd i
   have h2 := hd2 i
   cases ha' : a i <;> cases hb' : b i <;> cases hc' : c i <;> simp_all
 ·rintro ⟨a, bc, hd, rfl, ha, b, c, hd2, rfl, hb, hc⟩
  refine ⟨fun i => (a i).or (b i), c, fun i => ?_, funext fun i => ?_, ⟨a, b, fun i => ?_, rfl, ha, hb⟩, hc⟩
  ·have h1 := hd i
   have h2 := hd2 i
   cases ha' : a i <;> cases hb' : b i <;> cases hc' : c i <;> simp_all
  ·exact Option.or_assoc.symm
  ·have h1 := hd i
   have h2 := hd2 i
   cases ha' : a i <;> cases hb' : b i <;> cases hc' : c i <;> simp_all
theorem f5 (P : SP) : P * emp = P := by
 apply SP.ext;intro h
 constructor
 ·rintro ⟨a, b, hd, rfl, ha, hb⟩
  have hb : b = fun _ => none := hb;subst hb
  simpa using ha
 ·intro h'
  exact ⟨h, fun _ => none, fun i => .inr rfl, by simp, h', rfl⟩
theorem lG (P : SP) : emp * P = P := by rw [xh, f5]
instance : Std.Associative (α := SP) (· * ·) := ⟨ak⟩
instance : Std.Commutative (α := SP) (· * ·) := ⟨xh⟩
theorem cN (P Q R : SP) : P * (Q * R) = Q * (P * R) := by rw [← ak, xh P Q, ak]
def blk (b : Nat) (o : AObj) : SP := fun h => h = fun i => if i = b then some o else none
def ex {α : Type} (P : α → SP) : SP := fun h => ∃ x, P x h
def pu (p : Prop) : SP := fun h => p ∧ h = fun _ => none
def ae (P : SP) (H : AH) : Prop := ∃ h : Hp, P h ∧ ∀ i o, h i = some o → H.get i = some o
theorem ae.left {P Q : SP} {H : AH} (h : ae (P * Q) H) : ae P H := by
 obtain ⟨x, ⟨a, b, hd, rfl, ha, hb⟩, hx⟩ := h;exact ⟨a, ha, fun i o hi => hx i o (by simp [hi])⟩
theorem ae.right {P Q : SP} {H : AH} (h : ae (P * Q) H) : ae Q H := by rw [xh] at h; exact h.left
theorem ae.get {b : Nat} {o : AObj} {H : AH} (h : ae (blk b o) H) : H.get b = some o := by
 obtain ⟨x, hx, hg⟩ := h;have hx : x = _ := hx;exact hg b o (by rw [hx]; simp)
theorem ae.ex {α : Type} {F : α → SP} {R : SP} {H : AH} : ae (ex F * R) H ↔ ∃ x, ae (F x * R) H := by
 constructor
 ·rintro ⟨h, ⟨a, b, hd, rfl, ⟨x, ha⟩, hb⟩, hx⟩
  exact ⟨x, _, ⟨a, b, hd, rfl, ha, hb⟩, hx⟩
 ·rintro ⟨x, h, ⟨a, b, hd, rfl, ha, hb⟩, hx⟩
  exact ⟨_, ⟨a, b, hd, rfl, ⟨x, ha⟩, hb⟩, hx⟩
theorem ae.pu {p : Prop} {R : SP} {H : AH} : ae (pu p * R) H ↔ p ∧ ae R H := by
 constructor
 ·rintro ⟨h, ⟨a, b, hd, rfl, ⟨hp, ha⟩, hb⟩, hx⟩
  subst ha;exact ⟨hp, b, hb, fun i o hi => hx i o (by simp [hi])⟩
 ·rintro ⟨hp, h, hr, hx⟩
  exact ⟨h, ⟨fun _ => none, h, fun i => .inl rfl, by simp, ⟨hp, rfl⟩, hr⟩, hx⟩
theorem ae.emp (H : AH) : ae emp H := ⟨fun _ => none, rfl, fun i o h => by cases h⟩
theorem ae.lt {b : Nat} {o : AObj} {R : SP} {H : AH} (h : ae (blk b o * R) H) : b < H.size := AH.lt_of_get h.left.get
theorem ae.set {b : Nat} {o : AObj} {R : SP} {H : AH} (o' : AObj) (h : ae (blk b o * R) H) : ae (blk b o' * R) (H.set b o') := by
 have hb := h.lt;obtain ⟨x, ⟨a, r, hd, rfl, ha, hr⟩, hx⟩ := h;have ha : a = _ := ha;subst ha;refine ⟨_, ⟨_, r, fun i => ?_, rfl, rfl, hr⟩, fun i o2 hi => ?_⟩
 ·have := hd i
  simp only at this ⊢
  by_cases hi : i = b
  ·rw [if_pos hi] at this ⊢
   rcases this with h | h
   ·cases h
   ·exact .inr h
  ·rw [if_neg hi]; exact .inl rfl
 ·by_cases hib : i = b
  ·subst hib
   simp only [if_true, Option.some_or, Option.some.injEq] at hi;subst hi;exact AH.get_set_eq hb
  ·simp only [if_neg hib, Option.none_or] at hi
   rw [AH.get_set_ne hib];exact hx i o2 (by simp only [if_neg hib, Option.none_or]; exact hi)
theorem ae.push {R : SP} {H : AH} (o : AObj) (h : ae R H) : ae (blk H.size o * R) (H.push o) := by
 obtain ⟨r, hr, hx⟩ := h;refine ⟨_, ⟨_, r, fun i => ?_, rfl, rfl, hr⟩, fun i o2 hi => ?_⟩
 ·by_cases hi : i = H.size
  ·subst hi
   right
   cases hr' : r H.size with
   | none => rfl
   | some o' => have := AH.lt_of_get (hx _ _ hr'); omega
  ·rw [if_neg hi]; exact .inl rfl
 ·by_cases hib : i = H.size
  ·subst hib
   simp only [if_true, Option.some_or, Option.some.injEq] at hi;subst hi;exact AH.get_push_new _ _
  ·simp only [if_neg hib, Option.none_or] at hi
   have := hx i o2 hi;rw [AH.get_push_old (AH.lt_of_get this)];exact this
theorem ae.dead {b : Nat} {o : AObj} {R : SP} {H : AH} (h : ae (blk b o * R) H) : ae R (H.set b .dead) := (h.set .dead).right
class Fr (P A : SP) (R : outParam SP) : Prop where
 eq : P = A * R
instance (priority := high) Fr.refl (A : SP) : Fr A A emp := ⟨(f5 A).symm⟩
instance (priority := high) Fr.emp (P : SP) : Fr P emp P := ⟨(lG P).symm⟩
instance Fr.left (P Q A R : SP) [h : Fr P A R] : Fr (P * Q) A (R * Q) := ⟨by rw [h.eq, ak]⟩
instance Fr.right (P Q A R : SP) [h : Fr Q A R] : Fr (P * Q) A (P * R) := ⟨by rw [h.eq, cN]⟩
instance (priority := high) Fr.both (P A B R1 R2 : SP) [h1 : Fr P A R1] [h2 : Fr R1 B R2] : Fr P (A * B) R2 := ⟨by rw [h1.eq, h2.eq, ak]⟩
class Hs (P : SP) (b : Nat) (o : outParam AObj) : Prop where
 get : ∀ {H : AH}, ae P H → H.get b = some o
instance Hs.one (b : Nat) (o : AObj) : Hs (blk b o) b o := ⟨ae.get⟩
instance Hs.left (P Q : SP) (b : Nat) (o : AObj) [h : Hs P b o] : Hs (P * Q) b o := ⟨fun k => h.get k.left⟩
instance Hs.right (P Q : SP) (b : Nat) (o : AObj) [h : Hs Q b o] : Hs (P * Q) b o := ⟨fun k => h.get k.right⟩
class Up (P : SP) (b : Nat) (o' : AObj) (P' : outParam SP) : Prop where
 up : ∃ o R, P = blk b o * R ∧ P' = blk b o' * R
instance Up.one (b : Nat) (o o' : AObj) : Up (blk b o) b o' (blk b o') := ⟨o, emp, (f5 _).symm, (f5 _).symm⟩
instance Up.left (P Q : SP) (b : Nat) (o' : AObj) (P' : SP) [h : Up P b o' P'] : Up (P * Q) b o' (P' * Q) := ⟨by
 obtain ⟨o, R, e1, e2⟩ := h.up
 exact ⟨o, R * Q, by rw [e1, ak], by rw [e2, ak]⟩⟩
instance Up.right (P Q : SP) (b : Nat) (o' : AObj) (Q' : SP) [h : Up Q b o' Q'] : Up (P * Q) b o' (P * Q') := ⟨by
 obtain ⟨o, R, e1, e2⟩ := h.up
 exact ⟨o, P * R, by rw [e1, cN], by rw [e2, cN]⟩⟩
theorem Up.set {P P' : SP} {b : Nat} {o' : AObj} [h : Up P b o' P'] {H : AH} (k : ae P H) : ae P' (H.set b o') := by
 obtain ⟨o, R, rfl, rfl⟩ := h.up;exact k.set o'
theorem ae.fr {P A R : SP} {H : AH} (h : ae P H) [f : Fr P A R] : ae (A * R) H := by rw [← f.eq]; exact h
theorem ae.to {P A R : SP} {H : AH} (h : ae P H) [f : Fr P A R] : ae A H := h.fr.left
def wp (x : OV) (Q : Value → AH → Prop) : Prop := ∃ v H, x = some (v, H) ∧ Q v H
abbrev vp (b : Nat) : Value := .pointer (some ⟨b, 0, none⟩)
abbrev tV (b o : Nat) : Value := .pointer (some ⟨b, o, none⟩)
abbrev vs (b n e : Nat) : Value := .slice (some ⟨b, 0, none⟩) n e
theorem aq {v : Value} {H : AH} {Q : Value → AH → Prop} (h : Q v H) : wp (some (v, H)) Q := ⟨v, H, rfl, h⟩
theorem wp.mono {x : OV} {Q Q' : Value → AH → Prop} (h : wp x Q) (k : ∀ v H, Q v H → Q' v H) : wp x Q' := let ⟨v, H, e, q⟩ := h; ⟨v, H, e, k v H q⟩
theorem bm {x y : OV} {Q : Value → AH → Prop} (h : ∀ r, x = some r → y = some r) (k : wp x Q) : wp y Q := let ⟨v, H, e, q⟩ := k; ⟨v, H, h _ e, q⟩
theorem ah {x y : OV} {Q : Value → AH → Prop} (h : y = x) (k : wp x Q) : wp y Q := by rw [h]; exact k
theorem aa {x : Option Value} {v : Value} {k : Value → OV} {Q : Value → AH → Prop} (e : x = some v) (h : wp (k v) Q) : wp (x.bind k) Q := by rw [e]; exact h
theorem cn {b : Bool} {x y : OV} {Q : Value → AH → Prop} (ht : b = true → wp x Q) (hf : b = false → wp y Q) : wp (av (vb b) x y) Q := by
 cases b
 ·exact hf rfl
 ·exact ht rfl
theorem Fq {x y : Option Value} {k : OV} {Q : Value → AH → Prop} (e : x = y) (h : wp k Q) : wp (b7 x y k) Q := by rw [aoI e]; exact h
theorem HU {x : Option Value} {k : OV} {Q : Value → AH → Prop} (h : wp k Q) : wp (b7 x x k) Q := Fq rfl h
section
variable {P P' R : SP} {H : AH} {b o f n len e : Nat} {ro : Bool} {cs : List Value} {v x : Value} {Q : Value → AH → Prop}
theorem P6 (h : ae P H) [i : Hs P b (.cells ro cs)] (hv : cs[o]? = some v) : au (tV b o) H = some v := by
 simp only [au, ux, eu, bP, i.get h];exact hv
theorem P7 (h : ae P H) [i : Hs P b (.cells ro cs)] (hn : o + n ≤ cs.length) : aA n (tV b o) H = some (.agg ((cs.drop o).take n).toArray) := by
 simp only [aA, ux, eu, bP, i.get h];rw [if_pos hn]
theorem ahY (h : ae P H) [i : Hs P b (.cells false cs)] (hx : x.cells.size = n) (hn : o + n ≤ cs.length) (hc : x.cells.toList.all Value.oneCell' = true) :
 cG n (tV b o) x H = some (H.set b (.cells false (splice cs o x.cells.toList))) := by
 simp only [cG, ux, bP, i.get h];rw [if_pos ⟨hx, hn, hc⟩]
theorem br {k : Value → AH → OV} (h : ae P H) (hk : ∀ b H', ae (blk b (.cells false cs) * P) H' → wp (k (vp b) H') Q) : wp (aV cs H k) Q := hk _ _ (h.push _)
theorem xv {k : Value → AH → OV} (h : ae P H) (hk : ∀ b H', ae (blk b (.map [] 0) * P) H' → wp (k (.map (some b)) H') Q) : wp (FU H k) Q := hk _ _ (h.push _)
theorem aq9 {k : Value → AH → OV} (h : ae P H) (hk : ∀ b H', ae (blk b (.cells false cs) * P) H' → wp (k (vs b len e) H') Q) : wp (aq2 len e cs H k) Q := hk _ _ (h.push _)
theorem NW {zero : List Value} {xs : List (Nat × Value)} {k : Value → AH → OV} (h : ae P H) (hf : du (alK e) (List.replicate len zero).flatten xs = some cs) (hk : ∀ b H', ae (blk b (.cells false cs) * P) H' → wp (k (vs b len e) H') Q) :
 wp (FD len e zero xs H k) Q := by
 unfold FD;rw [hf];exact aq9 h hk
theorem NX {ps : List (Nat × Nat)} {zero : List Value} {xs : List (Nat × Value)} {k : Value → OV} (hf : du (fun i => ps[i]?) zero xs = some cs) (hk : wp (k (.agg cs.toArray)) Q) : wp (ic ps zero xs k) Q := by
 unfold ic;rw [hf];exact hk
theorem Vx {n : Nat} {a : Option Addr} {k : Value → OV} (hk : wp (k (vi n)) Q) : wp (jd (.slice a n e) k) Q := hk
theorem aqG {R : Type} {b o f : Nat} {p : List Stp} {k : Value → Option R} : ad (.f f :: p) (tV b o) k = ad p (tV b (o + f)) k := rfl
theorem ZY {R : Type} {b o n e i : Nat} {c : Nat} {p : List Stp} {kk : IntKind} {k : Value → Option R} (h : i < n) : ad (.i e (.int kk (i : Int)) :: p) (.slice (some ⟨b, o, none⟩) n c) k = ad p (tV b (o + i * e)) k := by
 show (oP e (.slice (some ⟨b, o, none⟩) n c) (.int kk (i : Int))).bind _ = _;simp only [oP];rw [if_pos (by omega)];simp
def RR (p : List Stp) (x : Value) (b o : Nat) : Prop := ∀ {R : Type} (k : Value → Option R), ad p x k = k (tV b o)
theorem be : RR [] (tV b o) b o := fun _ => rfl
theorem ci {p : List Stp} {b' o' : Nat} (h : RR p (tV b o) b' o') : RR (.n :: p) (tV b o) b' o' := fun k => h k
theorem aP {p : List Stp} {b' o' : Nat} (h : RR p (tV b (o + f)) b' o') : RR (.f f :: p) (tV b o) b' o' := fun k => h k
theorem Sj {p : List Stp} {b' o' i c : Nat} {kk : IntKind} (hi : i < n) (h : RR p (tV b (o + i * e)) b' o') : RR (.i e (.int kk (i : Int)) :: p) (.slice (some ⟨b, o, none⟩) n c) b' o' := fun k => by rw [ZY hi]; exact h k
theorem ac : RR [.n, .f f] (vp b) b f := fun k => by
 show k (tV b (0 + f)) = _;rw [Nat.zero_add]
theorem aE : RR [.f f] (vp b) b f := fun k => by
 show k (tV b (0 + f)) = _;rw [Nat.zero_add]
class ZS (l : List Value) (o : Nat) (v : Value) (l' : outParam (List Value)) : Prop where
 eq : o < l.length ∧ l' = l.set o v
instance ZS.zero (a : Value) (l : List Value) (v : Value) : ZS (a :: l) 0 v (v :: l) := ⟨by simp⟩
instance ZS.succ (a : Value) (l : List Value) (o : Nat) (v : Value) (l' : List Value) [h : ZS l o v l'] : ZS (a :: l) (o + 1) v (a :: l') := ⟨by
 obtain ⟨h1, rfl⟩ := h.eq
 exact ⟨by simp; exact h1, by simp⟩⟩
class z5 (l : List Value) (o : Nat) (xs : List Value) (l' : outParam (List Value)) : Prop where
 eq : o + xs.length ≤ l.length ∧ l' = splice l o xs
instance z5.here0 (l : List Value) : z5 l 0 [] l := ⟨by simp [splice]⟩
instance z5.here (a x : Value) (l xs l' : List Value) [h : z5 l 0 xs l'] : z5 (a :: l) 0 (x :: xs) (x :: l') := ⟨by
 obtain ⟨h1, rfl⟩ := h.eq
 refine ⟨by simp at h1 ⊢; exact h1, by simp [splice]⟩⟩
instance z5.on (a : Value) (l : List Value) (o : Nat) (x : Value) (xs l' : List Value) [h : z5 l o (x :: xs) l'] : z5 (a :: l) (o + 1) (x :: xs) (a :: l') := ⟨by
 obtain ⟨h1, rfl⟩ := h.eq;refine ⟨by simp at h1 ⊢; omega, ?_⟩;simp only [splice, List.take_succ_cons, List.cons_append, List.cons.injEq, true_and]
 congr 1
 rw [show o + 1 + (x :: xs).length = (o + (x :: xs).length) + 1 from by omega, List.drop_succ_cons]⟩
class FE (l : List Value) (o n : Nat) (l' : outParam (List Value)) : Prop where
 eq : o + n ≤ l.length ∧ l' = (l.drop o).take n
instance FE.nil (l : List Value) : FE l 0 0 [] := ⟨by simp⟩
instance FE.here (a : Value) (l : List Value) (n : Nat) (l' : List Value) [h : FE l 0 n l'] : FE (a :: l) 0 (n + 1) (a :: l') := ⟨by
 obtain ⟨h1, rfl⟩ := h.eq
 exact ⟨by simp at h1 ⊢; exact h1, by simp⟩⟩
instance FE.on (a : Value) (l : List Value) (o n : Nat) (l' : List Value) [h : FE l o (n + 1) l'] : FE (a :: l) (o + 1) (n + 1) l' := ⟨by
 obtain ⟨h1, rfl⟩ := h.eq
 exact ⟨by simp at h1 ⊢; omega, by simp⟩⟩
class xx (v : Value) (l : outParam (List Value)) : Prop where
 eq : v.cells.toList = l
instance xx.int (k : IntKind) (n : Int) : xx (.int k n) [.int k n] := ⟨rfl⟩
instance xx.bool (b : Bool) : xx (.bool b) [.bool b] := ⟨rfl⟩
instance xx.slice (a : Option Addr) (n c : Nat) : xx (.slice a n c) [.slice a n c] := ⟨rfl⟩
instance xx.ptr (a : Option Addr) : xx (.pointer a) [.pointer a] := ⟨rfl⟩
instance xx.func (f : Fn) (a b : Array Value) : xx (.func f a b) [.func f a b] := ⟨rfl⟩
instance xx.nilFunc : xx .nilFunc [.nilFunc] := ⟨rfl⟩
instance xx.map (m : Option Nat) : xx (.map m) [.map m] := ⟨rfl⟩
instance xx.string (s : ByteArray) : xx (.string s) [.string s] := ⟨rfl⟩
instance xx.agg (l : List Value) : xx (.agg l.toArray) l := ⟨by simp [Value.cells]⟩
class VG (ps : List (Nat × Nat)) (i : Nat) (o n : outParam Nat) : Prop where
 eq : ps[i]? = some (o, n)
instance VG.zero (p : Nat × Nat) (ps : List (Nat × Nat)) : VG (p :: ps) 0 p.1 p.2 := ⟨rfl⟩
instance VG.succ (p : Nat × Nat) (ps : List (Nat × Nat)) (i o n : Nat) [h : VG ps i o n] : VG (p :: ps) (i + 1) o n := ⟨by simpa using h.eq⟩
class Oe (l : List Value) (n : Nat) : Prop where
 eq : l.length = n
instance Oe.nil : Oe [] 0 := ⟨rfl⟩
instance Oe.cons (a : Value) (l : List Value) (n : Nat) [h : Oe l n] : Oe (a :: l) (n + 1) := ⟨by simp [h.eq]⟩
class VF (ps : List (Nat × Nat)) (zero : List Value) (xs : List (Nat × Value)) (cs : outParam (List Value)) : Prop where
 eq : du (fun i => ps[i]?) zero xs = some cs
instance VF.nil (ps : List (Nat × Nat)) (zero : List Value) : VF ps zero [] zero := ⟨rfl⟩
instance VF.cons (ps : List (Nat × Nat)) (zero z l cs : List Value) (i o n : Nat) (v : Value) (xs : List (Nat × Value)) [h1 : VG ps i o n] [h2 : xx v l] [h3 : Oe l n] [h4 : z5 zero o l z] [h5 : VF ps z xs cs] : VF ps zero ((i, v) :: xs) cs := ⟨by
 obtain ⟨h6, rfl⟩ := h4.eq;have h7 := h2.eq;have h8 := h3.eq;subst h7;simp only [du, h1.eq, bP];rw [if_pos ⟨by simpa using h8, by rw [← h8]; exact h6⟩]
 exact h5.eq⟩
class anY (e : Nat) (zero : List Value) (xs : List (Nat × Value)) (cs : outParam (List Value)) : Prop where
 eq : du (alK e) (List.replicate 1 zero).flatten xs = some cs
instance anY.one (e : Nat) (zero l z : List Value) (v : Value) [h2 : xx v l] [h3 : Oe l e] [h4 : z5 zero 0 l z] : anY e zero [(0, v)] z := ⟨by
 obtain ⟨h6, rfl⟩ := h4.eq;have h7 := h2.eq;have h8 := h3.eq;subst h7
 have hz : (List.replicate 1 zero).flatten = zero := by simp
 rw [hz];simp only [du, alK, bP, Nat.zero_mul]
 rw [if_pos ⟨by simpa using h8, by rw [← h8]; exact h6⟩]⟩
theorem bE {p : List Stp} {k : Value → OV} (hp : RR p x b o) (hk : wp (k (tV b o)) Q) : wp (ad p x k) Q := by rw [hp k]; exact hk
theorem ap {p : List Stp} {k : Value → OV} (h : ae P H) (hp : RR p x b o) [i : Hs P b (.cells ro cs)] (hv : cs[o]? = some v) (hk : wp (k v) Q) : wp (ld p x H k) Q := by
 unfold ld;rw [hp, P6 h hv];exact hk
theorem HV {l : List Value} {p : List Stp} {k : Value → OV} (h : ae P H) (hp : RR p x b o) [i : Hs P b (.cells ro cs)] [s : FE cs o n l] (hk : wp (k (.agg l.toArray)) Q) : wp (ldN n p x H k) Q := by
 obtain ⟨hn, rfl⟩ := s.eq;unfold ldN;rw [hp, P7 h hn];exact hk
theorem bj {cs' l : List Value} {p : List Stp} {k : AH → OV} (h : ae P H) (hp : RR p x b o) [i : Hs P b (.cells false cs)] [c : xx v l] [s : z5 cs o l cs'] (hx : l.length = n) (hc : l.all Value.oneCell' = true)
 [u : Up P b (.cells false cs') P'] (hk : ∀ H', ae P' H' → wp (k H') Q) : wp (st n p x v H k) Q := by
 obtain ⟨hn, rfl⟩ := s.eq;have hl := c.eq;subst hl;unfold st;rw [hp, ahY h (by simpa using hx) (by simp at hx hn; omega) hc];exact hk _ (u.set h)
theorem aQ {k : Value → OV} (h : ae P H) [i : Hs P b (.cells ro cs)] (hv : cs[o]? = some v) (hk : wp (k v) Q) : wp ((au (tV b o) H).bind k) Q := aa (P6 h hv) hk
theorem aR {l : List Value} {k : Value → OV} (h : ae P H) [i : Hs P b (.cells ro cs)] [s : FE cs o n l] (hk : wp (k (.agg l.toArray)) Q) : wp ((aA n (tV b o) H).bind k) Q := by
 obtain ⟨hn, rfl⟩ := s.eq;exact aa (P7 h hn) hk
theorem ej {cs' l : List Value} {k : AH → OV} (h : ae P H) [i : Hs P b (.cells false cs)] [c : xx v l] [s : z5 cs o l cs'] (hx : l.length = n) (hc : l.all Value.oneCell' = true)
 [u : Up P b (.cells false cs') P'] (hk : ∀ H', ae P' H' → wp (k H') Q) : wp ((cG n (tV b o) v H).bind k) Q := by
 obtain ⟨hn, rfl⟩ := s.eq;have hl := c.eq;subst hl;rw [ahY h (by simpa using hx) (by simp at hx hn; omega) hc];exact hk _ (u.set h)
theorem aX {l : List Value} {k : Value → AH → OV} (h : ae P H) [c : xx x l] (hk : ∀ b H', ae (blk b (.cells false l) * P) H' → wp (k (vp b) H') Q) : wp (aV (Value.cells x).toList H k) Q := by
 rw [c.eq]; exact br h hk
theorem je {ps : List (Nat × Nat)} {zero : List Value} {xs : List (Nat × Value)} {k : Value → OV} [f : VF ps zero xs cs] (hk : wp (k (.agg cs.toArray)) Q) : wp (ic ps zero xs k) Q := NX f.eq hk
theorem RF {zero : List Value} {xs : List (Nat × Value)} {k : Value → AH → OV} (h : ae P H) [f : anY e zero xs cs] (hk : ∀ b H', ae (blk b (.cells false cs) * P) H' → wp (k (vs b 1 e) H') Q) : wp (FD 1 e zero xs H k) Q := NW h f.eq hk
theorem aJ {P2 : SP} {H2 : AH} {ro2 : Bool} {cs2 : List Value} {k : OV} (h : ae P H) (h2 : ae P2 H2) [i : Hs P b (.cells ro cs)] [i2 : Hs P2 b (.cells ro2 cs2)] (e : cs[o]? = cs2[o]?) (hk : wp k Q) :
 wp (b7 (au (tV b o) H) (au (tV b o) H2) k) Q := by
 refine Fq ?_ hk;simp only [au, ux, eu, bP, i.get h, i2.get h2];exact e
theorem dZ {P2 : SP} {H2 : AH} {ro2 : Bool} {cs2 : List Value} {k : OV} (h : ae P H) (h2 : ae P2 H2) [i : Hs P b (.cells ro cs)] [i2 : Hs P2 b (.cells ro2 cs2)] (e : cs = cs2) (hk : wp k Q) :
 wp (b7 (aA n (tV b o) H) (aA n (tV b o) H2) k) Q := by
 refine Fq ?_ hk;simp only [aA, ux, eu, bP, i.get h, i2.get h2, e]
def Sp {α : Type} (f : Nat) (args : List Value) (P : SP) (v : α → Value) (Q : α → SP) : Prop := ∀ R H, ae (P * R) H → ∃ x H', FF f args H = some (v x, H') ∧ ae (Q x * R) H'
theorem aK {α : Type} {f : Nat} {args : List Value} {P : SP} {v : α → Value} {Q : α → SP} (h : ∀ R H, ae (P * R) H → wp (FF f args H) fun v' H' => ∃ x, v' = v x ∧ ae (Q x * R) H') : Sp f args P v Q := by
 intro R H hh;obtain ⟨v', H', e, x, rfl, hq⟩ := h R H hh;exact ⟨x, H', e, hq⟩
theorem bh {α : Type} {f : Nat} {args : List Value} {P : SP} {v : α → Value} {Q : α → SP} {g : AH → OV} (hf : ∀ (H : AH) {r : Value × AH}, g H = some r → FF f args H = some r) (k : ∀ (R : SP) (H : AH), ae (P * R) H → wp (g H) fun v' H' => ∃ x, v' = v x ∧ ae (Q x * R) H') : Sp f args P v Q := aK fun R H h => bm (fun r => hf H) (k R H h)
theorem af {α : Type} {f : Nat} {args : List Value} {P0 : SP} {v : α → Value} {Q0 : α → SP} {k : Value × AH → OV} (h : ae P H) (s : Sp f args P0 v Q0) [fr : Fr P P0 R] (hk : ∀ x H', ae (Q0 x * R) H' → wp (k (v x, H')) Q) : wp ((FF f args H).bind k) Q := by
 obtain ⟨x, H', e, h'⟩ := s R H h.fr;rw [e];exact hk x H' h'
end
def sl (e : Nat) (v : Value) (n : Nat) (cs : List Value) : SP := ex fun ob : Option Nat => match ob with
 | none => pu (v = .slice none 0 0 ∧ n = 0 ∧ cs = [])
 | some b => pu (v = vs b n e ∧ cs.length = n * e) * blk b (.cells false cs)
theorem Vn {R : SP} {H : AH} (e : Nat) (h : ae R H) : ae (sl e (.slice none 0 0) 0 [] * R) H := ae.ex.2 ⟨none, ae.pu.2 ⟨⟨rfl, rfl, rfl⟩, h⟩⟩
theorem xm {R : SP} {H : AH} {e b n : Nat} {cs : List Value} (hl : cs.length = n * e) (h : ae (blk b (.cells false cs) * R) H) : ae (sl e (vs b n e) n cs * R) H :=
 ae.ex.2 ⟨some b, by rw [ak]; exact ae.pu.2 ⟨⟨rfl, hl⟩, h⟩⟩
theorem tc {R : SP} {H : AH} {e n : Nat} {v : Value} {cs : List Value} (h : ae (sl e v n cs * R) H) : (v = .slice none 0 0 ∧ n = 0 ∧ cs = [] ∧ ae R H) ∨ ∃ b, v = vs b n e ∧ cs.length = n * e ∧ ae (blk b (.cells false cs) * R) H := by
 obtain ⟨ob, h⟩ := ae.ex.1 h
 cases ob with
 | none =>
  obtain ⟨⟨h1, h2, h3⟩, h4⟩ := ae.pu.1 h;exact .inl ⟨h1, h2, h3, h4⟩
 | some b =>
  simp only [ak] at h;obtain ⟨⟨h1, h2⟩, h4⟩ := ae.pu.1 h;exact .inr ⟨b, h1, h2, h4⟩
class Sl (P : SP) (e : Nat) (v : Value) (n : outParam Nat) (cs : outParam (List Value)) (R : outParam SP) : Prop where
 eq : P = sl e v n cs * R
instance (priority := high) Sl.refl (e n : Nat) (v : Value) (cs : List Value) : Sl (sl e v n cs) e v n cs emp := ⟨(f5 _).symm⟩
instance Sl.left (P Q R : SP) (e n : Nat) (v : Value) (cs : List Value) [h : Sl P e v n cs R] : Sl (P * Q) e v n cs (R * Q) := ⟨by rw [h.eq, ak]⟩
instance Sl.right (P Q R : SP) (e n : Nat) (v : Value) (cs : List Value) [h : Sl Q e v n cs R] : Sl (P * Q) e v n cs (P * R) := ⟨by rw [h.eq, cN]⟩
theorem Sl.fr {P R : SP} (e : Nat) {n : Nat} (v : Value) {cs : List Value} [h : Sl P e v n cs R] {H : AH} (k : ae P H) : ae (sl e v n cs * R) H := by rw [← h.eq]; exact k
section
variable {P P' R : SP} {H : AH} {b o n m e k : Nat} {ro : Bool} {cs xcs : List Value} {v s x : Value} {Q : Value → AH → Prop}
theorem anV {bytes : Nat} {kk : Value × AH → OV} (h : ae P H) [f : Sl P e s n cs R] [i : Hs R b (.cells ro xcs)] (hl : xcs.length = k * e) (he : 0 < e) (hk0 : 0 < k) (hc : xcs.all Value.oneCell' = true)
 (hr : (n + k) * bytes ≤ dr ∧ n + k ≤ dr) (hk : ∀ a c H', ae (sl e (.slice a (n + k) c) (n + k) (cs ++ xcs) * R) H' → wp (kk (.slice a (n + k) c, H')) Q) : wp ((fN e bytes s (vs b k e) H).bind kk) Q := by
 have hf := Sl.fr e s h;have hg := i.get hf.right
 have hrow : lM e (vs b k e) H = some (k, xcs) := by
  simp only [lM, eu, hg, bP];rw [if_neg (by omega), if_pos (by omega)];simp [← hl]
 unfold fN;rw [hrow];simp only [bP];rw [if_pos ⟨hc, he⟩]
 rcases tc hf with ⟨rfl, rfl, rfl, h'⟩ | ⟨b', rfl, hcl, h'⟩
 ·simp only [and_self, if_true]
  rw [if_neg (by omega), if_pos (by simpa using hr)];simp only [bP, Nat.zero_add, List.nil_append] at hk ⊢;exact hk _ _ _ (xm hl (h'.push _))
 ·simp only
  have hgb := h'.left.get;rw [if_neg (by omega), if_neg (by omega), hgb];simp only;rw [if_pos ⟨trivial, by omega, hr.1, hr.2⟩];simp only [bP, List.drop_zero];rw [← hcl, List.take_length];have h2 := h'.dead.push (.cells false (cs ++ xcs));rw [AH.size_set] at h2;exact hk _ _ _ (xm (by rw [fL, hcl, hl, Nat.add_mul]) h2)
end
abbrev cO := Int × Int × Int
def fg (l : cO) : Value := .agg #[vi l.1, vi l.2.1, vi l.2.2]
instance xx.loc (l : cO) : xx (fg l) [vi l.1, vi l.2.1, vi l.2.2] := ⟨rfl⟩
structure Ev where
 who : Int
 kind : Int
 loc : cO
deriving DecidableEq
def Ev.cells (e : Ev) : List Value := [vi e.who, vi e.kind, vi e.loc.1, vi e.loc.2.1, vi e.loc.2.2]
def o5 (E : List Ev) : List Value := E.flatMap Ev.cells
theorem Ir (E : List Ev) (x : Ev) : o5 (E ++ [x]) = o5 E ++ x.cells := by simp [o5]
section
variable {α : Type} {enc : α → List Value} {e : Nat}
theorem kM (he : ∀ x, (enc x).length = e) (l : List α) : (l.flatMap enc).length = l.length * e := by
 induction l with
 | nil => simp
 | cons x l ih => rw [List.flatMap_cons, fL, he, ih, List.length_cons, Nat.add_mul]; omega
theorem XU (he : ∀ x, (enc x).length = e) : ∀ (l : List α) (i : Nat), (l.flatMap enc).drop (i * e) = (l.drop i).flatMap enc := by
 intro l
 induction l with
 | nil => intro i; simp
 | cons x l ih =>
  intro i
  cases i with
  | zero => simp
  | succ i =>
   rw [List.flatMap_cons, List.drop_append, he, show (i + 1) * e - e = i * e from by rw [Nat.add_mul]; omega, ih, List.drop_eq_nil_of_le (by rw [he, Nat.add_mul]; omega)]
   rfl
theorem pA (l : List α) (i : Nat) (hi : i < l.length) : l.flatMap enc = (l.take i).flatMap enc ++ (enc l[i] ++ (l.drop (i + 1)).flatMap enc) := by
 rw [← List.flatMap_cons, ← List.flatMap_append, List.getElem_cons_drop, List.take_append_drop]
theorem Mv (l : List α) (i : Nat) (hi : i < l.length) (y : α) : (l.set i y).flatMap enc = (l.take i).flatMap enc ++ (enc y ++ (l.drop (i + 1)).flatMap enc) := by
 rw [← List.flatMap_cons, ← List.flatMap_append, List.set_eq_take_append_cons_drop, if_pos hi]
theorem sj (he : ∀ x, (enc x).length = e) (l : List α) (i : Nat) (hi : i < l.length) : ((l.take i).flatMap enc).length = i * e := by
 rw [kM he, List.length_take, Nat.min_eq_left (by omega)]
theorem JB (he : ∀ x, (enc x).length = e) (l : List α) (i : Nat) (hi : i < l.length) : ((l.flatMap enc).drop (i * e)).take e = enc l[i] := by
 rw [pA l i hi, List.drop_append, sj he l i hi, Nat.sub_self, List.drop_zero, List.drop_eq_nil_of_le (by rw [sj he l i hi]; omega), List.nil_append, List.take_append, he, Nat.sub_self, List.take_zero, List.append_nil,
  List.take_of_length_le (by rw [he]; omega)]
theorem DJ (he : ∀ x, (enc x).length = e) (l : List α) (i : Nat) (hi : i < l.length) (f : Nat) (hf : f < e) : (l.flatMap enc)[i * e + f]? = (enc l[i])[f]? := by
 rw [pA l i hi, List.getElem?_append_right (by rw [sj he l i hi]; omega), sj he l i hi, List.getElem?_append_left (by rw [he]; omega)]
 congr 1
 omega
theorem Rv (A X B xs : List Value) (f : Nat) (h : f + xs.length ≤ X.length) : splice (A ++ (X ++ B)) (A.length + f) xs = A ++ (splice X f xs ++ B) := by
 unfold splice;rw [List.take_append, List.take_append, List.drop_append, List.drop_append, List.take_of_length_le (by omega), List.drop_eq_nil_of_le (by omega)]
 have e1 : A.length + f - A.length = f := by omega
 have e2 : A.length + f + xs.length - A.length = f + xs.length := by omega
 have e3 : f + xs.length - X.length = 0 := by omega
 have e4 : f - X.length = 0 := by omega
 rw [e1, e2, e3, e4];simp
theorem Mw (he : ∀ x, (enc x).length = e) (l : List α) (i : Nat) (hi : i < l.length) (f : Nat) (xs : List Value) (hf : f + xs.length ≤ e) (y : α) (hy : splice (enc l[i]) f xs = enc y) :
 splice (l.flatMap enc) (i * e + f) xs = (l.set i y).flatMap enc := by
 rw [pA l i hi, Mv l i hi, ← sj he l i hi, Rv _ _ _ _ _ (by rw [he]; exact hf), hy]
end
def ts {α : Type} (e : Nat) (enc : α → List Value) (v : Value) (l : List α) : SP := sl e v l.length (l.flatMap enc)
class Enc {α : Type} (enc : α → List Value) (e : outParam Nat) : Prop where
 len : ∀ x, (enc x).length = e
 one : ∀ x, (enc x).all Value.oneCell' = true
 pos : 0 < e
class Ts (P : SP) (s : Value) (α : outParam Type) (e : outParam Nat) (enc : outParam (α → List Value)) (l : outParam (List α)) (R : outParam SP) : Prop where
 eq : P = ts e enc s l * R
instance (priority := high) Ts.refl {α : Type} (e : Nat) (enc : α → List Value) (s : Value) (l : List α) : Ts (ts e enc s l) s α e enc l emp := ⟨(f5 _).symm⟩
instance Ts.left {α : Type} (P Q R : SP) (e : Nat) (enc : α → List Value) (s : Value) (l : List α) [h : Ts P s α e enc l R] : Ts (P * Q) s α e enc l (R * Q) := ⟨by rw [h.eq, ak]⟩
instance Ts.right {α : Type} (P Q R : SP) (e : Nat) (enc : α → List Value) (s : Value) (l : List α) [h : Ts Q s α e enc l R] : Ts (P * Q) s α e enc l (P * R) := ⟨by rw [h.eq, cN]⟩
class Tu (P : SP) (s : Value) {α : Type} (l' : List α) (P' : outParam SP) : Prop where
 up : ∃ e enc, ∃ (l : List α), ∃ R, P = ts e enc s l * R ∧ P' = ts e enc s l' * R
theorem f6 {α : Type} {R : SP} {H : AH} (e : Nat) (enc : α → List Value) (h : ae R H) : ae (ts e enc (.slice none 0 0) [] * R) H := Vn e h
section
variable {α : Type} {P P' R : SP} {H : AH} {b o e : Nat} {ro : Bool} {enc : α → List Value} {l : List α} {xcs : List Value} {s : Value} {Q : Value → AH → Prop}
theorem nK (h : ae P H) [f : Ts P s α e enc l R] : (s = .slice none 0 0 ∧ l = [] ∧ ae R H) ∨ ∃ b, s = vs b l.length e ∧ ae (blk b (.cells false (l.flatMap enc)) * R) H := by
 have h' : ae (ts e enc s l * R) H := by rw [← f.eq]; exact h
 rcases tc h' with ⟨h1, h2, _, h4⟩ | ⟨b, h1, _, h3⟩
 ·exact .inl ⟨h1, List.eq_nil_of_length_eq_zero h2, h4⟩
 ·exact .inr ⟨b, h1, h3⟩
theorem xt {b : Nat} [E : Enc enc e] (h : ae (blk b (.cells false (l.flatMap enc)) * R) H) : ae (ts e enc (vs b l.length e) l * R) H := xm (kM E.len l) h
theorem oa {k : Value → OV} (h : ae P H) [f : Ts P s α e enc l R] (hk : wp (k (vi l.length)) Q) : wp (jd s k) Q := by
 rcases nK (f := f) h with ⟨rfl, rfl, _⟩ | ⟨b, rfl, _⟩
 ·exact hk
 ·exact hk
theorem i1 {bytes : Nat} {kk : Value × AH → OV} (x : α) (h : ae P H) [f : Ts P s α e enc l R] [i : Hs R b (.cells ro xcs)] [E : Enc enc e] (hx : xcs = enc x)
 (hr : (l.length + 1) * bytes ≤ dr) (hb : 0 < bytes) (hk : ∀ a c H', ae (ts e enc (.slice a (l.length + 1) c) (l ++ [x]) * R) H' → wp (kk (.slice a (l.length + 1) c, H')) Q) : wp ((fN e bytes s (vs b 1 e) H).bind kk) Q := by
 have h' : ae (sl e s l.length (l.flatMap enc) * R) H := by
  have : P = ts e enc s l * R := f.eq;rw [this] at h;exact h
 subst hx;refine anV (k := 1) (ro := ro) (xcs := enc x) h' (by rw [E.len]; omega) E.pos (by omega) (E.one x) ⟨hr, ?_⟩ fun a c H' h2 => hk a c H' ?_
 ·have : l.length + 1 ≤ (l.length + 1) * bytes := Nat.le_mul_of_pos_right _ hb
  omega
 ·have e1 : (l ++ [x]).length = l.length + 1 := by simp
  have e2 : (l ++ [x]).flatMap enc = l.flatMap enc ++ enc x := by simp
  unfold ts;rw [e1, e2];rw [lG] at h2;exact h2
theorem RI {k : Value → OV} {i : Nat} {kk : IntKind} (h : ae P H) [f : Ts P s α e enc l R] [E : Enc enc e] (hi : i < l.length) (hk : wp (k (.agg (enc l[i]).toArray)) Q) : wp (ldN e [.i e (.int kk (i : Int))] s H k) Q := by
 rcases nK (f := f) h with ⟨_, rfl, _⟩ | ⟨b, rfl, h'⟩
 ·simp at hi
 ·unfold ldN
  rw [Sj hi be];have hlen := kM E.len l;have hm : (i + 1) * e ≤ l.length * e := Nat.mul_le_mul_right _ (by omega);rw [Nat.add_mul] at hm;have := P7 (b := b) (cs := l.flatMap enc) (ro := false) (n := e) (o := 0 + i * e) h' (by omega);rw [this, bP, Nat.zero_add, JB E.len l i hi];exact hk
theorem apU {k : Value → OV} {i : Nat} {kk : IntKind} {v : Value} (h : ae P H) [f : Ts P s α 1 enc l R] [E : Enc enc 1] (hi : i < l.length) (hv : enc l[i] = [v]) (hk : wp (k v) Q) : wp (ld [.i 1 (.int kk (i : Int))] s H k) Q := by
 rcases nK (f := f) h with ⟨_, rfl, _⟩ | ⟨b, rfl, h'⟩
 ·simp at hi
 ·unfold ld
  rw [Sj hi be]
  have := P6 (b := b) (o := 0 + i * 1) (v := v) h' (by
   have := DJ E.len l i hi 0 (by omega);rw [Nat.add_zero] at this
   rw [Nat.zero_add, this, hv]; rfl)
  rw [this];exact hk
theorem N2 {n : Nat} {p : List Stp} {k : AH → OV} {i g : Nat} {kk : IntKind} {v : Value} {xs : List Value} (y : α) (h : ae P H) [f : Ts P s α e enc l R] [E : Enc enc e] (hi : i < l.length) (hp : p = [.i e (.int kk (i : Int))] ∧ g = 0 ∨ p = [.i e (.int kk (i : Int)), .f g])
 [c : xx v xs] (hn : xs.length = n) (hg : g + n ≤ e) (hx : xs.all Value.oneCell' = true) (hy : splice (enc l[i]) g xs = enc y) (hk : ∀ H', ae (ts e enc s (l.set i y) * R) H' → wp (k H') Q) : wp (st n p s v H k) Q := by
 rcases nK (f := f) h with ⟨_, rfl, _⟩ | ⟨b, rfl, h'⟩
 ·simp at hi
 ·have hend : RR p (vs b l.length e) b (i * e + g) := by
   rcases hp with ⟨rfl, rfl⟩ | rfl
   ·intro R' k'
    rw [Sj hi be];simp
   ·intro R' k'
    rw [Sj hi (aP be)];simp
  unfold st;have hc := c.eq;subst hc;rw [hend];have hlen := kM E.len l;have hm : (i + 1) * e ≤ l.length * e := Nat.mul_le_mul_right _ (by omega);rw [Nat.add_mul] at hm;rw [ahY h' (by simpa using hn) (by omega) hx, bP, Mw E.len l i hi g _ (by rw [hn]; exact hg) y hy];refine hk _ ?_;have h2 := h'.set (.cells false ((l.set i y).flatMap enc));have h3 := xt (e := e) (enc := enc) (l := l.set i y) h2;rw [P5] at h3;exact h3
end
instance : Enc Ev.cells 5 := ⟨fun _ => rfl, fun _ => rfl, by omega⟩
def lH (n : Int) : List Value := [vi n]
instance : Enc lH 1 := ⟨fun _ => rfl, fun _ => rfl, by omega⟩
def aqB (H : AH) (s : Value) (e n : Nat) (cs : List Value) : Prop :=
 cs.length = n * e ∧ ((∃ a c, s = .slice a 0 c ∧ n = 0 ∧ (a = none → c = 0) ∧ (∀ x, a = some x → ∃ b o, x = ⟨b, o, none⟩)) ∨ ∃ b o ro row, s = .slice (some ⟨b, o, none⟩) n e ∧ H.get b = some (.cells ro row) ∧ o + n * e ≤ row.length ∧ (row.drop o).take (n * e) = cs)
class Rd {α : outParam Type} (P : SP) (s : Value) (e : outParam Nat) (enc : outParam (α → List Value)) (l : outParam (List α)) : Prop where
 rd : ∀ {H : AH}, ae P H → aqB H s e l.length (l.flatMap enc)
instance Rd.left {α : Type} (P Q : SP) (s : Value) (e : Nat) (enc : α → List Value) (l : List α) [r : Rd P s e enc l] : Rd (P * Q) s e enc l := ⟨fun h => r.rd h.left⟩
instance Rd.right {α : Type} (P Q : SP) (s : Value) (e : Nat) (enc : α → List Value) (l : List α) [r : Rd Q s e enc l] : Rd (P * Q) s e enc l := ⟨fun h => r.rd h.right⟩
instance Rd.own {α : Type} (s : Value) (e : Nat) (enc : α → List Value) (l : List α) : Rd (ts e enc s l) s e enc l := ⟨by
 intro H h
 have h' : ae (ts e enc s l * emp) H := by rw [f5]; exact h
 rcases tc h' with ⟨rfl, h2, h3, _⟩ | ⟨b, rfl, hc, h4⟩
 ·exact ⟨by rw [h3, h2]; simp, .inl ⟨none, 0, rfl, h2, fun _ => rfl, fun x hx => by cases hx⟩⟩
 ·exact ⟨hc, .inr ⟨b, 0, false, _, rfl, h4.left.get, by omega, by rw [List.drop_zero, ← hc, List.take_length]⟩⟩⟩
section
variable {α : Type} {P R : SP} {H : AH} {e n : Nat} {enc : α → List Value} {l m : List α} {s : Value} {Q : Value → AH → Prop}
theorem i0 {k : Value → OV} (h : ae P H) [r : Rd P s e enc l] (hk : wp (k (vi l.length)) Q) : wp (jd s k) Q := by
 obtain ⟨_, ⟨a, c, rfl, hn, _⟩ | ⟨b, o, ro, row, rfl, _⟩⟩ := r.rd h
 ·rw [hn] at hk; exact hk
 ·exact hk
theorem apB {R' : Type} {k : Value → Option R'} (h : ae P H) [r : Rd P s e enc l] : jd s k = k (vi l.length) := by
 obtain ⟨_, ⟨a, c, rfl, hn, _⟩ | ⟨b, o, ro, row, rfl, _⟩⟩ := r.rd h
 ·rw [hn]; rfl
 ·rfl
theorem BO {k : Value → OV} (h : ae P H) [r : Rd P s e enc l] (hk : wp (k (vi l.length)) Q) : wp ((jd s some).bind k) Q := by
 rw [apB h]; exact hk
theorem QJ (h : ae P H) [r : Rd P s e enc l] [E : Enc enc e] {i : Nat} (hi : i < l.length) : ∃ b o ro row, s = .slice (some ⟨b, o, none⟩) l.length e ∧ H.get b = some (.cells ro row) ∧ o + l.length * e ≤ row.length ∧ (row.drop o).take (l.length * e) = l.flatMap enc := by
 obtain ⟨_, ⟨a, c, rfl, hn, _⟩ | ⟨b, o, ro, row, h1, h2⟩⟩ := r.rd h
 ·omega
 ·exact ⟨b, o, ro, row, h1, h2⟩
theorem alO [E : Enc enc e] {row : List Value} {o i g : Nat} (h : (row.drop o).take (l.length * e) = l.flatMap enc) (hi : i < l.length) (hg : g < e) : row[o + i * e + g]? = (enc l[i])[g]? := by
 rw [← DJ E.len l i hi g hg, ← h];have hm : (i + 1) * e ≤ l.length * e := Nat.mul_le_mul_right _ (by omega);rw [Nat.add_mul] at hm;rw [List.getElem?_take, if_pos (by omega), List.getElem?_drop]
 congr 1; omega
theorem agO {i g : Nat} {kk : IntKind} {v : Value} (h : ae P H) [r : Rd P s e enc l] [E : Enc enc e] (hi : i < l.length) (hg : g < e) (hv : (enc l[i])[g]? = some v) {R' : Type} {p : List Stp} (hp : p = [.i e (.int kk (i : Int)), .f g] ∨ p = [.i e (.int kk (i : Int))] ∧ g = 0) {k : Value → Option R'} :
 ld p s H k = k v := by
 obtain ⟨b, o, ro, row, rfl, h2, h3, h4⟩ := QJ (s := s) (enc := enc) (l := l) h hi
 have hend : ad p (.slice (some ⟨b, o, none⟩) l.length e) = fun k' : Value → Option R' => k' (tV b (o + i * e + g)) := by
  rcases hp with rfl | ⟨rfl, rfl⟩
  ·funext k'; rw [ZY hi, aqG]; rfl
  ·funext k'; rw [ZY hi]; rfl
 unfold ld;rw [hend];show (au (tV b (o + i * e + g)) H).bind k = k v
 have : au (tV b (o + i * e + g)) H = some v := by
  simp only [au, ux, eu, bP, h2];rw [alO h4 hi hg, hv]
 rw [this]; rfl
theorem aiP {k : Value → OV} {i g : Nat} {kk : IntKind} {v : Value} (h : ae P H) [r : Rd P s e enc l] [E : Enc enc e] (hi : i < l.length) (hg : g < e) (hv : (enc l[i])[g]? = some v) (hk : wp (k v) Q) : wp (ld [.i e (.int kk (i : Int)), .f g] s H k) Q := by
 rw [agO h hi hg hv (.inl rfl)]; exact hk
theorem KN {k : Value → OV} {i : Nat} {kk : IntKind} {v : Value} {enc : α → List Value} (h : ae P H) [r : Rd P s 1 enc l] [E : Enc enc 1] (hi : i < l.length) (hv : enc l[i] = [v]) (hk : wp (k v) Q) : wp (ld [.i 1 (.int kk (i : Int))] s H k) Q := by
 rw [agO (g := 0) (v := v) h hi (by omega) (by rw [hv]; rfl) (.inr ⟨rfl, rfl⟩)]; exact hk
theorem y9 {k : Value → OV} {i : Nat} {kk : IntKind} (h : ae P H) [r : Rd P s e enc l] [E : Enc enc e] (hi : i < l.length) (hk : wp (k (.agg (enc l[i]).toArray)) Q) : wp (ldN e [.i e (.int kk (i : Int))] s H k) Q := by
 obtain ⟨b, o, ro, row, rfl, h2, h3, h4⟩ := QJ (s := s) (enc := enc) (l := l) h hi;unfold ldN;rw [ZY hi];have hm : (i + 1) * e ≤ l.length * e := Nat.mul_le_mul_right _ (by omega);rw [Nat.add_mul] at hm
 have : aA e (tV b (o + i * e)) H = some (.agg (enc l[i]).toArray) := by
  simp only [aA, ux, eu, bP, h2];rw [if_pos (by omega)]
  congr 3
  rw [← JB E.len l i hi, ← h4, List.drop_take, List.drop_drop, List.take_take, Nat.min_eq_left (by omega)]
 show wp ((aA e (tV b (o + i * e)) H).bind k) Q;rw [this]; exact hk
theorem agP {lo hi : Option Value} {a b : Nat} (h : ae P H) [r : Rd P s e enc l] [E : Enc enc e] (hlo : (lo = none ∧ a = 0) ∨ ∃ k, lo = some (.int k (a : Int))) (hhi : (hi = none ∧ b = l.length) ∨ ∃ k, hi = some (.int k (b : Int))) (h1 : a ≤ b) (h2 : b ≤ l.length) (h0 : 0 < l.length) :
 ∃ s', fH e s lo hi = some s' ∧ Rd P s' e enc ((l.take b).drop a) := by
 have hlen : ((l.take b).drop a).length = b - a := by rw [List.length_drop, List.length_take, Nat.min_eq_left h2]
 have hfl : (((l.take b).drop a).flatMap enc).length = (b - a) * e := by rw [kM E.len, hlen]
 have hsub : ((l.take b).drop a).flatMap enc = ((l.flatMap enc).drop (a * e)).take ((b - a) * e) := by
  have e2 : (l.drop a).take (b - a) = (l.take b).drop a := by rw [List.drop_take]
  rw [XU E.len, ← e2]
  have gen : ∀ (m : List α) (k : Nat), k ≤ m.length → (m.take k).flatMap enc = (m.flatMap enc).take (k * e) := by
   intro m
   induction m with
   | nil => intro k hk; simp
   | cons x m ih =>
    intro k hk
    cases k with
    | zero => simp
    | succ k =>
     rw [List.take_succ_cons, List.flatMap_cons, List.flatMap_cons, ih k (by simpa using hk), List.take_append, E.len, List.take_of_length_le (l := enc x) (by rw [E.len, Nat.add_mul]; omega)]
     congr 2
     rw [Nat.add_mul, Nat.one_mul, Nat.add_sub_cancel]
  exact gen _ _ (by rw [List.length_drop]; omega)
 obtain ⟨h0, ⟨a0, c, rfl, hn, hc0, ha0⟩ | ⟨b0, o, ro, row, rfl, _⟩⟩ := r.rd h
 ·omega
 ·refine ⟨.slice (some ⟨b0, o + a * e, none⟩) (b - a) e, ?_, ⟨fun {H'} h' => ?_⟩⟩
  ·have hpos := E.pos
   have hab : (0 : Int) ≤ a ∧ (a : Int) ≤ b ∧ (b : Int) ≤ l.length := by omega
   rcases hlo with ⟨rfl, rfl⟩ | ⟨k1, rfl⟩ <;> rcases hhi with ⟨rfl, rfl⟩ | ⟨k2, rfl⟩ <;> simp only [fH, nu, bP]
   ·rw [if_pos (by omega)]; simp [hpos]
   ·rw [if_pos (by omega)]; simp [hpos]
   ·rw [if_pos (by omega)]; simp [hpos]
   ·rw [if_pos (by omega)]; simp [hpos]
  ·obtain ⟨h0', hr⟩ := r.rd h'
   refine ⟨by rw [hfl, hlen], .inr ?_⟩
   rcases hr with ⟨a1, c1, e1, hn, _, _⟩ | ⟨b1, o1, ro1, row1, e1, g1, g2, g3⟩
   ·omega
   ·obtain ⟨rfl, rfl⟩ : b1 = b0 ∧ o1 = o := by
     have := e1; simp at this; exact ⟨this.1.symm, this.2.symm⟩
    have hm : b * e ≤ l.length * e := Nat.mul_le_mul_right _ h2;have hm2 : a * e ≤ b * e := Nat.mul_le_mul_right _ h1;have hm3 : (b - a) * e = b * e - a * e := Nat.sub_mul ..;rw [hlen];refine ⟨b1, o1 + a * e, ro1, row1, rfl, g1, by omega, ?_⟩;rw [hsub, ← g3, List.drop_take, List.drop_drop, List.take_take, Nat.min_eq_left (by omega)]
end
def fix (H0 : AH) : SP := fun h => h = fun i => H0.get i
theorem XT (H0 : AH) : ae (fix H0) H0 := ⟨_, rfl, fun i o h => h⟩
class Fx (P : SP) (H0 : AH) : Prop where
 fx : ∀ {H : AH}, ae P H → ∀ b o, H0.get b = some o → H.get b = some o
instance Fx.refl (H0 : AH) : Fx (fix H0) H0 := ⟨by
 rintro H ⟨x, hx, hg⟩ b o hb
 have hx : x = _ := hx
 exact hg b o (by rw [hx]; exact hb)⟩
instance Fx.left (P Q : SP) (H0 : AH) [f : Fx P H0] : Fx (P * Q) H0 := ⟨fun h => f.fx h.left⟩
instance Fx.right (P Q : SP) (H0 : AH) [f : Fx Q H0] : Fx (P * Q) H0 := ⟨fun h => f.fx h.right⟩
theorem kZ.flat {α : Type} {R : α → List Value → Prop} {enc : α → List Value} (hf : ∀ x c, R x c → c = enc x) {l : List α} {row : List Value} (h : kZ R l row) : row = l.flatMap enc := by
 induction h with
 | nil => rfl
 | cons h1 _ ih => rw [hf _ _ h1, ih]; rfl
theorem Rd.arg {H0 : AH} {t : Ty} {enc : t.I → List Value} {l : List t.I} {v : Value} [E : Enc enc t.w] (hf : ∀ x c, Abs H0 t x c → c = enc x) (h : Abs H0 (.slice t) l [v]) : Rd (fix H0) v t.w enc l := ⟨fun {H} hH => by
 refine ⟨kM E.len l, ?_⟩
 rcases h with ⟨rfl, e⟩ | ⟨rfl, b, e⟩ | ⟨b, row, h1, e, h3, _⟩
 ·obtain rfl : v = .slice none 0 0 := by simpa using e
  exact .inl ⟨none, 0, rfl, rfl, fun _ => rfl, fun x hx => by cases hx⟩
 ·obtain rfl : v = .slice (some ⟨b, 0, none⟩) 0 0 := by simpa using e
  exact .inl ⟨_, 0, rfl, rfl, (fun h => by cases h), fun x hx => ⟨b, 0, (iu hx).symm⟩⟩
 ·obtain rfl : v = .slice (some ⟨b, 0, none⟩) l.length t.w := by simpa using e
  have hrow := h3.flat hf;refine .inr ⟨b, 0, true, row, rfl, (Fx.refl H0).fx hH b _ h1, ?_, ?_⟩
  ·rw [hrow, kM E.len]; omega
  ·rw [List.drop_zero, hrow, ← kM E.len l, List.take_length]⟩
section
variable {α : Type} {P R : SP} {H : AH} {e : Nat} {enc : α → List Value} {l m : List α} {s x : Value} {Q : Value → AH → Prop}
theorem Ft {bytes : Nat} {kk : Value × AH → OV} (h : ae P H) [f : Ts P s α e enc l R] [rd : Rd R x e enc m] [E : Enc enc e] (hr : (l.length + m.length) * bytes ≤ dr) (hb : 0 < bytes)
 (hk : ∀ v H', ae (ts e enc v (l ++ m) * R) H' → wp (kk (v, H')) Q) : wp ((fN e bytes s x H).bind kk) Q := by
 have h' : ae (ts e enc s l * R) H := by rw [← f.eq]; exact h
 obtain ⟨hc, ⟨a, c, rfl, hn, _, hax⟩ | ⟨b, o, ro, row, rfl, hg, hle, hrow⟩⟩ := rd.rd h'.right
 ·have hm : m = [] := List.eq_nil_of_length_eq_zero hn
  subst hm
  have hpr : lM e (.slice a 0 c) H = some (0, []) := by
   cases a with
   | none => simp [lM]
   | some y => obtain ⟨b, o, rfl⟩ := hax y rfl; simp [lM]
  unfold fN;rw [hpr];simp only [bP];rw [if_pos ⟨rfl, E.pos⟩]
  rcases tc h' with ⟨rfl, h2, h3, h4⟩ | ⟨b', rfl, h2, h4⟩
  ·simp only [and_self, if_true, bP]
   refine hk _ _ ?_;rw [List.append_nil]; exact h'
  ·simp only [if_true, bP]
   refine hk _ _ ?_;rw [List.append_nil]; exact h'
 ·by_cases hm0 : m.length = 0
  ·have hm : m = [] := List.eq_nil_of_length_eq_zero hm0
   subst hm;unfold fN
   have hpr : lM e (.slice (some ⟨b, o, none⟩) ([] : List α).length e) H = some (0, []) := by simp [lM]
   rw [hpr];simp only [bP];rw [if_pos ⟨rfl, E.pos⟩]
   rcases tc h' with ⟨rfl, h2, h3, h4⟩ | ⟨b', rfl, h2, h4⟩
   ·simp only [and_self, if_true, bP]
    refine hk _ _ ?_;rw [List.append_nil]; exact h'
   ·simp only [if_true, bP]
    refine hk _ _ ?_;rw [List.append_nil]; exact h'
  ·have hpr : lM e (.slice (some ⟨b, o, none⟩) m.length e) H = some (m.length, m.flatMap enc) := by
    simp only [lM, eu, hg, bP];rw [if_neg hm0, if_pos hle, hrow]
   have hall : (m.flatMap enc).all Value.oneCell' = true := by
    rw [List.all_eq_true];intro y hy;obtain ⟨z, _, hz⟩ := List.mem_flatMap.1 hy;exact List.all_eq_true.1 (E.one z) y hz
   have hroom : l.length + m.length ≤ (l.length + m.length) * bytes := Nat.le_mul_of_pos_right _ hb;unfold fN;rw [hpr];simp only [bP];rw [if_pos ⟨hall, E.pos⟩]
   have e1 : (l ++ m).length = l.length + m.length := by simp
   have e2 : (l ++ m).flatMap enc = l.flatMap enc ++ m.flatMap enc := by simp
   have hmul : (l.length + m.length) * e = l.length * e + m.length * e := Nat.add_mul ..
   rcases tc h' with ⟨rfl, h2, h3, h4⟩ | ⟨b', rfl, h2, h4⟩
   ·simp only [and_self, if_true]
    rw [h2, Nat.zero_add] at hr hroom;rw [if_neg hm0, if_pos ⟨hr, by omega⟩];simp only [bP];refine hk _ _ ?_;unfold ts;rw [e1, e2, h3, h2, List.nil_append, Nat.zero_add];exact xm hc (h4.push _)
   ·have hgb := h4.left.get
    have hpos := E.pos;simp only;rw [if_neg hm0, if_neg (by omega), hgb];simp only;rw [if_pos ⟨trivial, by omega, hr, by omega⟩];simp only [bP, List.drop_zero];rw [← h2, List.take_length];have h5 := h4.dead.push (.cells false (l.flatMap enc ++ m.flatMap enc));rw [AH.size_set] at h5;refine hk _ _ ?_;unfold ts;rw [e1, e2];exact xm (by rw [fL, h2, hc]; omega) h5
theorem EP {z : α} {zero : List Value} (hz : enc z = zero) : ∀ n : Nat, (List.replicate n zero).flatten = (List.replicate n z).flatMap enc := by
 intro n
 induction n with
 | zero => rfl
 | succ n ih => rw [List.replicate_succ, List.replicate_succ, List.flatten_cons, List.flatMap_cons, ih, hz]
theorem RG {zero : List Value} {bytes n : Nat} {kk : Value × AH → OV} (z : α) (h : ae P H) [E : Enc enc e] (hz : enc z = zero) (hr : n * bytes ≤ dr) (hb : 0 < bytes) (hk : ∀ b H', ae (ts e enc (vs b n e) (List.replicate n z) * P) H' → wp (kk (vs b n e, H')) Q) :
 wp ((nz zero e bytes (vi n) (vi n) H).bind kk) Q := by
 have hroom : n ≤ n * bytes := Nat.le_mul_of_pos_right _ hb
 have hz2 : zero.length = e := by rw [← hz, E.len]
 unfold nz;simp only [v9];rw [if_pos ⟨by omega, trivial, hr, by omega, E.pos, hz2⟩];simp only [bP];refine hk _ _ ?_;have h2 := h.push (.cells false (List.replicate n zero).flatten);rw [EP hz] at h2 ⊢;have h3 := xt (e := e) (enc := enc) (l := List.replicate n z) h2;rw [List.length_replicate] at h3;exact h3
end
class KeyE {κ : Type} [DecidableEq κ] (cl : outParam KCls) (ek : κ → Value) : Prop where
 eq : ∀ a b, kO cl (ek a) (ek b) = some (decide (a = b))
 ok : ∀ a, i9 cl (ek a) = true
inductive Ents {κ : Type} (ek : κ → Value) : List (κ × Value) → List MapEntry → Prop
 | nil : Ents ek [] []
 | cons {p : κ × Value} {l : List (κ × Value)} {e : MapEntry} {es : List MapEntry} (h1 : e.key = ek p.1) (h2 : e.val = p.2) (k : Ents ek l es) : Ents ek (p :: l) (e :: es)
section
variable {κ : Type} [DecidableEq κ] {ek : κ → Value} {cl : KCls}
def JP : List (κ × Value) → κ → Option Value
 | [], _ => none
 | p :: al, k => if k = p.1 then some p.2 else JP al k
def JQ : List (κ × Value) → κ → Value → List (κ × Value)
 | [], k, v => [(k, v)]
 | p :: al, k, v => if k = p.1 then (k, v) :: al else p :: JQ al k v
theorem ae5 (k : κ) (v : Value) (x : κ) : ∀ al, JP (JQ al k v) x = if x = k then some v else JP al x := by
 intro al
 induction al with
 | nil => simp only [JQ, JP]
 | cons p al ih =>
  simp only [JQ]
  by_cases hk : k = p.1
  ·rw [if_pos hk]
   simp only [JP]
   by_cases hx : x = k
   ·simp [hx]
   ·have : ¬ x = p.1 := by rw [← hk]; exact hx
    simp [hx, this]
  ·rw [if_neg hk]
   simp only [JP, ih]
   by_cases hx : x = p.1
   ·have : ¬ x = k := by rw [hx]; exact fun h => hk h.symm
    simp [hx];intro h; exact absurd h.symm hk
   ·simp [hx]
theorem aoZ [K : KeyE cl ek] {al : List (κ × Value)} {es : List MapEntry} (h : Ents ek al es) (k : κ) : ∀ i, ∃ r, bw cl (ek k) es i = some r ∧ r.map (·.2) = JP al k := by
 induction h with
 | nil => intro i; exact ⟨none, rfl, rfl⟩
 | @cons p l e es h1 h2 _ ih =>
  intro i;simp only [bw, h1, K.eq, bP, JP]
  by_cases hp : k = p.1
  ·rw [if_pos (by simp [hp]), if_pos hp]
   exact ⟨_, rfl, by simp [h2]⟩
  ·rw [if_neg (by simp [hp]), if_neg hp]
   exact ih (i + 1)
theorem aqT [K : KeyE cl ek] {al : List (κ × Value)} {es : List MapEntry} (h : Ents ek al es) (k : κ) (v : Value) : ∀ i, match bw cl (ek k) es i with
 | some (some (j, _)) => i ≤ j ∧ Ents ek (JQ al k v) (es.modify (j - i) fun e => { e with key := ek k, val := v })
 | some none => ∀ born, Ents ek (JQ al k v) (es ++ [{ key := ek k, val := v, born := born }])
 | none => False := by
 induction h with
 | nil => intro i born; exact .cons rfl rfl .nil
 | @cons p l e es h1 h2 hh ih =>
  intro i;simp only [bw, h1, K.eq, bP, JQ]
  by_cases hp : k = p.1
  ·rw [if_pos (show decide (k = p.1) = true by simp [hp]), if_pos hp]
   refine ⟨bB _, ?_⟩;simp only [Nat.sub_self];exact .cons rfl rfl hh
  ·rw [if_neg (show ¬ decide (k = p.1) = true by simp [hp]), if_neg hp]
   have hi := ih (i + 1)
   cases hf : bw cl (ek k) es (i + 1) with
   | none => rw [hf] at hi; exact hi
   | some r =>
    rw [hf] at hi
    cases r with
    | none => intro born; exact .cons h1 h2 (hi born)
    | some r =>
     obtain ⟨j, v'⟩ := r;simp only at hi ⊢;refine ⟨by omega, ?_⟩;rw [show j - i = (j - (i + 1)) + 1 from by omega];exact .cons h1 h2 hi.2
def ZK (ek : κ → Value) (b : Nat) (f : κ → Option Value) : SP := ex fun g : List (κ × Value) × List MapEntry × Nat => pu (Ents ek g.1 g.2.1 ∧ ∀ k, JP g.1 k = f k) * blk b (.map g.2.1 g.2.2)
class Mp (P : SP) (b : Nat) {κ : Type} [DecidableEq κ] (ek : κ → Value) (f : outParam (κ → Option Value)) (R : outParam SP) : Prop where
 eq : P = ZK ek b f * R
instance (priority := high) Mp.refl {κ : Type} [DecidableEq κ] (b : Nat) (ek : κ → Value) (f : κ → Option Value) : Mp (ZK ek b f) b ek f emp := ⟨(f5 _).symm⟩
instance Mp.left {κ : Type} [DecidableEq κ] (P Q R : SP) (b : Nat) (ek : κ → Value) (f : κ → Option Value) [h : Mp P b ek f R] : Mp (P * Q) b ek f (R * Q) := ⟨by rw [h.eq, ak]⟩
instance Mp.right {κ : Type} [DecidableEq κ] (P Q R : SP) (b : Nat) (ek : κ → Value) (f : κ → Option Value) [h : Mp Q b ek f R] : Mp (P * Q) b ek f (P * R) := ⟨by rw [h.eq, cN]⟩
theorem Uy {R : SP} {H : AH} {b : Nat} (ek : κ → Value) (h : ae (blk b (.map [] 0) * R) H) : ae (ZK ek b (fun _ => none) * R) H :=
 ae.ex.2 ⟨([], [], 0), by rw [ak]; exact ae.pu.2 ⟨⟨.nil, fun _ => rfl⟩, h⟩⟩
theorem Vz {P R : SP} {H : AH} {b : Nat} {f : κ → Option Value} {zero : Value} {kk : Value → OV} {Q : Value → AH → Prop} [K : KeyE cl ek] (k : κ) (h : ae P H) [m : Mp P b ek f R]
 (hk : wp (kk ((f k).getD zero)) Q) : wp ((db cl zero (.map (some b)) (ek k) false H).bind kk) Q := by
 have h' : ae (ZK ek b f * R) H := by rw [← m.eq]; exact h
 obtain ⟨⟨al, es, c⟩, h'⟩ := ae.ex.1 h';rw [ak, ae.pu] at h';obtain ⟨⟨he, hf⟩, h'⟩ := h';dsimp only at he hf h';obtain ⟨r, h1, h2⟩ := aoZ he k 0;refine aa ?_ hk;unfold db;rw [if_pos (K.ok k)];simp only [kc, h'.left.get, bP, h1, fp];rw [← hf k, ← h2]
 cases r <;> rfl
theorem aiO {P R : SP} {H : AH} {b : Nat} {f : κ → Option Value} {kk : AH → OV} {Q : Value → AH → Prop} [K : KeyE cl ek] (k : κ) (v : Value) (h : ae P H) [m : Mp P b ek f R]
 (hk : ∀ H', ae (ZK ek b (fun x => if x = k then some v else f x) * R) H' → wp (kk H') Q) : wp ((eZ cl (.map (some b)) (ek k) v H).bind kk) Q := by
 have h' : ae (ZK ek b f * R) H := by rw [← m.eq]; exact h
 obtain ⟨⟨al, es, c⟩, h'⟩ := ae.ex.1 h';rw [ak, ae.pu] at h';obtain ⟨⟨he, hf⟩, h'⟩ := h';dsimp only at he hf h';have hu := aqT he k v 0;unfold eZ;rw [if_pos (K.ok k)];simp only [h'.left.get]
 have fin : ∀ {es' : List MapEntry} {c' : Nat}, Ents ek (JQ al k v) es' → ae (ZK ek b (fun x => if x = k then some v else f x) * R) (H.set b (.map es' c')) := fun {es'} {c'} he' =>
  ae.ex.2 ⟨(JQ al k v, es', c'), by
   rw [ak]
   exact ae.pu.2 ⟨⟨he', fun x => by rw [ae5, hf]⟩, h'.set _⟩⟩
 cases hf' : bw cl (ek k) es 0 with
 | none => rw [hf'] at hu; exact absurd hu id
 | some r =>
  rw [hf'] at hu
  cases r with
  | none =>
   simp only [fp, bP];exact hk _ (fin (hu c))
  | some r =>
   obtain ⟨j, v'⟩ := r;simp only [fp, bP];exact hk _ (fin hu.2)
end
section
variable {cl : TCls} {w : Nat}
theorem anQ : ai cl .shr (vu w) (vw 61) = some (vu (w / 2305843009213693952)) := by
 have := xD (cl := cl) (a := w) (k := .u64) (n := 61) (by omega)
 simpa using this
theorem aq5 : ai cl .shr (vu w) (vw 32) = some (vu (w / 4294967296)) := by
 have := xD (cl := cl) (a := w) (k := .u64) (n := 32) (by omega)
 simpa using this
theorem RT (k : Nat) (hw : w < 18446744073709551616) (hk : 2 ^ k - 1 < 18446744073709551616) : ai cl .and (vu w) (.int .u64 ((2 ^ k - 1 : Nat) : Int)) = some (vu (w % 2 ^ k)) := by
 have := ajO (cl := cl) hw hk;rw [Nat.and_two_pow_sub_one_eq_mod] at this;exact this
theorem aqI (hw : w < 18446744073709551616) : ai cl .and (vu w) (vw 2305843009213693951) = some (vu (w % 2305843009213693952)) := by
 have := RT (cl := cl) 61 hw (by omega)
 simpa using this
theorem aqH (hw : w < 18446744073709551616) : ai cl .and (vu w) (vw 4294967295) = some (vu (w % 4294967296)) := by
 have := RT (cl := cl) 32 hw (by omega)
 simpa using this
theorem Hk (n : Nat) (h : n ≠ 0) : ai cl .rem (vu w) (.int .u64 (n : Int)) = some (vu (w % n)) := jU h
theorem anN (n : Nat) (h : n ≠ 0) (hw : w < 18446744073709551616) : ai cl .quo (vu w) (.int .u64 (n : Int)) = some (vu (w / n)) := xC h hw
theorem anI (n : Nat) : ai cl .mul (vu w) (.int .u64 (n : Int)) = some (vu (w * n % 18446744073709551616)) := VT
theorem aqW (h : w * 2305843009213693952 < 18446744073709551616) : ai cl .mul (vu w) (vw 2305843009213693952) = some (vu (w * 2305843009213693952)) := by
 have := anI (cl := cl) (w := w) 2305843009213693952;rw [Nat.mod_eq_of_lt h] at this
 simpa using this
theorem aqV : ai cl .mul (vu w) (vw 4294967296) = some (vu (w * 4294967296 % 18446744073709551616)) := by
 have := anI (cl := cl) (w := w) 4294967296
 simpa using this
theorem aq1 : ai cl .rem (vu w) (vw 2305843009213693952) = some (vu (w % 2305843009213693952)) := by
 have := Hk (cl := cl) (w := w) 2305843009213693952 (by omega)
 simpa using this
theorem aqZ (hw : w < 18446744073709551616) : ai cl .quo (vu w) (vw 2305843009213693952) = some (vu (w / 2305843009213693952)) := by
 have := anN (cl := cl) (w := w) 2305843009213693952 (by omega) hw
 simpa using this
theorem aq0 : ai cl .rem (vu w) (vw 4294967296) = some (vu (w % 4294967296)) := by
 have := Hk (cl := cl) (w := w) 4294967296 (by omega)
 simpa using this
theorem aqY (hw : w < 18446744073709551616) : ai cl .quo (vu w) (vw 4294967296) = some (vu (w / 4294967296)) := by
 have := anN (cl := cl) (w := w) 4294967296 (by omega) hw
 simpa using this
theorem iE {w : Nat} (hw : w < 9223372036854775808) : cg (some .i64) (vu w) = some (vi (w : Int)) := by
 simp only [cg];rw [oX (by omega) (by omega)]
theorem dQ {n : Int} (h0 : 0 ≤ n) (h1 : n < 18446744073709551616) : cg (some .u64) (vi n) = some (vu n.toNat) := by
 simp only [cg];rw [mg h0 h1];show _ = some (Value.int .u64 ((n.toNat : Nat) : Int));rw [Int.toNat_of_nonneg h0]
end
theorem anK {cl : TCls} {a b : Nat} : ai cl .neq (vu a) (vu b) = some (vb (a != b)) := by
 rw [vh]
 congr 2
 rw [Bool.eq_iff_iff];simp;omega
theorem amV {cl : TCls} {a b : Nat} : ai cl .eql (vu a) (vu b) = some (vb (a == b)) := by
 rw [fq]
 congr 2
 rw [Bool.eq_iff_iff];simp;omega
theorem amS {cl : TCls} {a b : Nat} : ai cl .add (vu a) (vu b) = some (vu ((a + b) % 18446744073709551616)) := by
 simp only [ai, mV, if_true];rw [Fv];simp
theorem aa2 (a b : cO) : ai (.flat 3) .eql (.agg #[vi a.1, vi a.2.1, vi a.2.2]) (.agg #[vi b.1, vi b.2.1, vi b.2.2]) = some (vb (a == b)) := by
 show (pJ (.flat 3) (.agg #[vi a.1, vi a.2.1, vi a.2.2]) (.agg #[vi b.1, vi b.2.1, vi b.2.2])).map (fun b => Value.bool b) = _;simp only [pJ];rw [if_pos ⟨rfl, rfl⟩];simp only [bQ, if_true, fp, Bool.and_true]
 rfl
theorem oh {cl : TCls} {a b : Int} (h0 : -9223372036854775808 ≤ a * b) (h1 : a * b < 9223372036854775808) : ai cl .mul (vi a) (vi b) = some (vi (a * b)) := by simp only [ai, mV, if_true, oX h0 h1]
section
variable {cl : TCls} {k : IntKind} {a b : Int}
theorem cz (h : a < b) : ai cl .lss (.int k a) (.int k b) = some (vb true) := by rw [sF, d4 h]
theorem bW (h : ¬ a < b) : ai cl .lss (.int k a) (.int k b) = some (vb false) := by rw [sF, d6 h]
theorem ML (h : a ≤ b) : ai cl .leq (.int k a) (.int k b) = some (vb true) := by rw [R7, d4 h]
theorem MK (h : ¬ a ≤ b) : ai cl .leq (.int k a) (.int k b) = some (vb false) := by rw [R7, d6 h]
theorem kN (h : b < a) : ai cl .gtr (.int k a) (.int k b) = some (vb true) := by rw [Ie, d4 h]
theorem fQ (h : ¬ b < a) : ai cl .gtr (.int k a) (.int k b) = some (vb false) := by rw [Ie, d6 h]
theorem zm (h : b ≤ a) : ai cl .geq (.int k a) (.int k b) = some (vb true) := by rw [sE, d4 h]
theorem q9 (h : ¬ b ≤ a) : ai cl .geq (.int k a) (.int k b) = some (vb false) := by rw [sE, d6 h]
theorem bo (h : a = b) : ai cl .eql (.int k a) (.int k b) = some (vb true) := by rw [fq, beq_iff_eq.2 h]
theorem aG (h : ¬ a = b) : ai cl .eql (.int k a) (.int k b) = some (vb false) := by rw [fq, beq_eq_false_iff_ne.2 h]
theorem G1 (h : ¬ a = b) : ai cl .neq (.int k a) (.int k b) = some (vb true) := by rw [vh, bne_iff_ne.2 h]
theorem rJ (h : a = b) : ai cl .neq (.int k a) (.int k b) = some (vb false) := by
 rw [vh];simp [h]
end
theorem FP {c : Bool} {e : Option Value} {v : Value} (h : e = some v) : gB (vb c) c e = some v := by
 cases c <;> (rw [h]; rfl)
theorem anD {v : Value} : gV (vb true) true v = some v := rfl
theorem anA {v : Value} : gV (vb false) false v = some v := rfl
theorem anC {v : Value} : gV (vb true) false v = some undef := rfl
theorem anB {v : Value} : gV (vb false) true v = some undef := rfl
theorem am9 {e : Option Value} : gB (vb true) false e = some undef := rfl
theorem am8 {e : Option Value} : gB (vb false) true e = some undef := rfl
section
variable {H : AH} {e : Option (Value × AH)} {k : Value × AH → OV} {Q : Value → AH → Prop} {x : Option Value} {kv : Value → OV}
theorem xu (h : wp (e.bind k) Q) : wp ((gE (vb true) true H e).bind k) Q := h
theorem Vu (h : wp (e.bind k) Q) : wp ((gE (vb false) false H e).bind k) Q := h
theorem Vw (h : wp (k (undef, H)) Q) : wp ((gE (vb true) false H e).bind k) Q := h
theorem Vv (h : wp (k (undef, H)) Q) : wp ((gE (vb false) true H e).bind k) Q := h
theorem N1 (h : wp (x.bind kv) Q) : wp ((G3 (yv (vb true)) true x (some undef)).bind kv) Q := h
theorem NY (h : wp (x.bind kv) Q) : wp ((G3 (yv (vb false)) false x (some undef)).bind kv) Q := h
theorem N0 (h : wp (kv undef) Q) : wp ((G3 (yv (vb true)) false x (some undef)).bind kv) Q := h
theorem NZ (h : wp (kv undef) Q) : wp ((G3 (yv (vb false)) true x (some undef)).bind kv) Q := h
end
theorem Mx (c : Bool) (e : Option Value) : gB (vb c) c e = e := by cases c <;> cases e <;> rfl
theorem PY {R : Type} (c : Bool) (k : Value → Option R) : ∀ (p : List Stp) (x : Value), FQ (vb c) c p x k = ad p x k := by
 intro p
 induction p with
 | nil => intro x; rfl
 | cons s p ih => intro x; cases s <;> simp only [FQ, ad, Mx, ih]
theorem Uq {R : Type} (c : Bool) (k : Value → Option R) (hk : ∀ x, k x = k undef) : ∀ (p : List Stp) (x : Value), FQ (vb c) (!c) p x k = k undef := by
 intro p
 induction p with
 | nil => intro x; exact hk x
 | cons s p ih => intro x; cases c <;> cases s <;> exact ih undef
section
variable {H : AH} {p : List Stp} {x : Value} {k : Value → OV} {Q : Value → AH → Prop} {n : Nat}
theorem aeT {R : Type} (c : Bool) (k : Value → Option R) : gk (vb c) c p x H k = ld p x H k := by simp only [gk, ld, PY, Mx]
theorem Ur {R : Type} (c : Bool) (k : Value → Option R) : oF (vb c) c n p x H k = ldN n p x H k := by simp only [oF, ldN, PY, Mx]
theorem Us {R : Type} (c : Bool) (k : Value → Option R) : gk (vb c) (!c) p x H k = k undef := by
 unfold gk
 rw [Uq c _ (fun x => by cases c <;> rfl)]
 cases c <;> rfl
theorem My {R : Type} (c : Bool) (k : Value → Option R) : oF (vb c) (!c) n p x H k = k undef := by
 unfold oF
 rw [Uq c _ (fun x => by cases c <;> rfl)]
 cases c <;> rfl
theorem aiM (h : wp (ld p x H k) Q) : wp (gk (vb true) true p x H k) Q := by rw [aeT]; exact h
theorem aiJ (h : wp (ld p x H k) Q) : wp (gk (vb false) false p x H k) Q := by rw [aeT]; exact h
theorem aiL (h : wp (k undef) Q) : wp (gk (vb true) false p x H k) Q := by rw [show (false : Bool) = !true from rfl, Us]; exact h
theorem aiK (h : wp (k undef) Q) : wp (gk (vb false) true p x H k) Q := by rw [show gk (vb false) true p x H k = gk (vb false) (!false) p x H k from rfl, Us]; exact h
theorem Zz (h : wp (ldN n p x H k) Q) : wp (oF (vb true) true n p x H k) Q := by rw [Ur]; exact h
theorem Zw (h : wp (ldN n p x H k) Q) : wp (oF (vb false) false n p x H k) Q := by rw [Ur]; exact h
theorem Zy (h : wp (k undef) Q) : wp (oF (vb true) false n p x H k) Q := by rw [show oF (vb true) false n p x H k = oF (vb true) (!true) n p x H k from rfl, My]; exact h
theorem Zx (h : wp (k undef) Q) : wp (oF (vb false) true n p x H k) Q := by rw [show oF (vb false) true n p x H k = oF (vb false) (!false) n p x H k from rfl, My]; exact h
theorem hZ {e : Option Value} (h : wp (e.bind k) Q) : wp ((gB (vb true) true e).bind k) Q := by rw [Mx]; exact h
theorem al7 {e : Option Value} (h : wp (e.bind k) Q) : wp ((gB (vb false) false e).bind k) Q := by rw [Mx]; exact h
theorem aiI {a b : OV} (h : wp a Q) : wp (av (vb true) a b) Q := h
theorem Fp {a b : OV} (h : wp b Q) : wp (av (vb false) a b) Q := h
end
theorem arT {b : Bool} {v : Value} : gV undef b v = some undef := rfl
theorem arS {b : Bool} {e : Option Value} : gB undef b e = some undef := rfl
theorem aqR {R : Type} (b : Bool) (k : Value → Option R) (hk : ∀ x, k x = k undef) : ∀ (p : List Stp) (x : Value), FQ undef b p x k = k undef := by
 intro p
 induction p with
 | nil => intro x; exact hk x
 | cons s p ih => intro x; cases s <;> exact ih undef
theorem aqS {R : Type} {b : Bool} {p : List Stp} {x : Value} {H : AH} (k : Value → Option R) : gk undef b p x H k = k undef := by
 unfold gk;rw [aqR b _ (fun x => rfl)]
 rfl
theorem al8 {b : Bool} {p : List Stp} {x : Value} {H : AH} {k : Value → OV} {Q : Value → AH → Prop} (h : wp (k undef) Q) : wp (gk undef b p x H k) Q := by rw [aqS]; exact h
class Gd (x : OV) (y : outParam OV) : Prop where
 go : ∀ {Q : Value → AH → Prop}, wp y Q → wp x Q
section
variable {a b v : Value} {k : Value → OV} {H : AH} {e : Option (Value × AH)} {e1 : Option Value} {ke : Value × AH → OV} {p : List Stp} {x : Value} {n : Nat} {c : Bool} {o1 o2 : OV}
instance : Gd ((bd (vb true) a b).bind k) (k a) := ⟨aa (Qo _ _)⟩
instance : Gd ((bd (vb false) a b).bind k) (k b) := ⟨aa (af6 _ _)⟩
instance : Gd ((gV (vb true) true v).bind k) (k v) := ⟨aa anD⟩
instance : Gd ((gV (vb false) false v).bind k) (k v) := ⟨aa anA⟩
instance : Gd ((gV (vb true) false v).bind k) (k undef) := ⟨aa anC⟩
instance : Gd ((gV (vb false) true v).bind k) (k undef) := ⟨aa anB⟩
instance : Gd ((gB (vb true) false e1).bind k) (k undef) := ⟨aa am9⟩
instance : Gd ((gB (vb false) true e1).bind k) (k undef) := ⟨aa am8⟩
instance : Gd ((gE (vb true) false H e).bind ke) (ke (undef, H)) := ⟨Vw⟩
instance : Gd ((gE (vb false) true H e).bind ke) (ke (undef, H)) := ⟨Vv⟩
instance : Gd ((gE (vb true) true H e).bind ke) (e.bind ke) := ⟨xu⟩
instance : Gd ((gE (vb false) false H e).bind ke) (e.bind ke) := ⟨Vu⟩
instance : Gd ((G3 (yv (vb true)) false e1 (some undef)).bind k) (k undef) := ⟨N0⟩
instance : Gd ((G3 (yv (vb false)) true e1 (some undef)).bind k) (k undef) := ⟨NZ⟩
instance : Gd ((G3 (yv (vb true)) true e1 (some undef)).bind k) (e1.bind k) := ⟨N1⟩
instance : Gd ((G3 (yv (vb false)) false e1 (some undef)).bind k) (e1.bind k) := ⟨NY⟩
instance : Gd (gk (vb true) true p x H k) (ld p x H k) := ⟨aiM⟩
instance : Gd (gk (vb false) false p x H k) (ld p x H k) := ⟨aiJ⟩
instance : Gd (gk (vb true) false p x H k) (k undef) := ⟨aiL⟩
instance : Gd (gk (vb false) true p x H k) (k undef) := ⟨aiK⟩
instance : Gd (oF (vb true) true n p x H k) (ldN n p x H k) := ⟨Zz⟩
instance : Gd (oF (vb false) false n p x H k) (ldN n p x H k) := ⟨Zw⟩
instance : Gd (oF (vb true) false n p x H k) (k undef) := ⟨Zy⟩
instance : Gd (oF (vb false) true n p x H k) (k undef) := ⟨Zx⟩
instance : Gd ((gB (vb true) true e1).bind k) (e1.bind k) := ⟨hZ⟩
instance : Gd ((gB (vb false) false e1).bind k) (e1.bind k) := ⟨al7⟩
instance : Gd ((oc .not (vb c)).bind k) (k (vb (!c))) := ⟨aa Fo⟩
instance : Gd (av (vb true) o1 o2) o1 := ⟨aiI⟩
instance : Gd (av (vb false) o1 o2) o2 := ⟨Fp⟩
instance : Gd ((gV undef c v).bind k) (k undef) := ⟨aa arT⟩
instance : Gd ((gB undef c e1).bind k) (k undef) := ⟨aa arS⟩
instance : Gd (gk undef c p x H k) (k undef) := ⟨al8⟩
class Gh (x : OV) (y : outParam OV) : Prop where
 go : ∀ {Q : Value → AH → Prop}, wp y Q → wp x Q
instance : Gh ((bd (vb true) a b).bind k) (k a) := ⟨aa (Qo _ _)⟩
instance : Gh ((bd (vb false) a b).bind k) (k b) := ⟨aa (af6 _ _)⟩
instance : Gh ((gV (vb true) true v).bind k) (k v) := ⟨aa anD⟩
instance : Gh ((gV (vb false) false v).bind k) (k v) := ⟨aa anA⟩
instance : Gh ((gV (vb true) false v).bind k) (k undef) := ⟨aa anC⟩
instance : Gh ((gV (vb false) true v).bind k) (k undef) := ⟨aa anB⟩
instance : Gh ((gB (vb true) false e1).bind k) (k undef) := ⟨aa am9⟩
instance : Gh ((gB (vb false) true e1).bind k) (k undef) := ⟨aa am8⟩
instance : Gh ((gE (vb true) false H e).bind ke) (ke (undef, H)) := ⟨Vw⟩
instance : Gh ((gE (vb false) true H e).bind ke) (ke (undef, H)) := ⟨Vv⟩
instance : Gh ((gE (vb true) true H e).bind ke) (e.bind ke) := ⟨xu⟩
instance : Gh ((gE (vb false) false H e).bind ke) (e.bind ke) := ⟨Vu⟩
instance : Gh ((G3 (yv (vb true)) false e1 (some undef)).bind k) (k undef) := ⟨N0⟩
instance : Gh ((G3 (yv (vb false)) true e1 (some undef)).bind k) (k undef) := ⟨NZ⟩
instance : Gh ((G3 (yv (vb true)) true e1 (some undef)).bind k) (e1.bind k) := ⟨N1⟩
instance : Gh ((G3 (yv (vb false)) false e1 (some undef)).bind k) (e1.bind k) := ⟨NY⟩
end
class Gs (x : OV) (y : outParam OV) : Prop where
 go : ∀ {Q : Value → AH → Prop}, wp y Q → wp x Q
class Gt (x : OV) (y : outParam OV) : Prop where
 go : ∀ {Q : Value → AH → Prop}, wp y Q → wp x Q
instance (priority := low) {x : OV} : Gs x x := ⟨id⟩
instance (priority := low) {x : OV} : Gt x x := ⟨id⟩
instance {x y z : OV} [g : Gd x y] [h : Gs y z] : Gs x z := ⟨fun q => g.go (h.go q)⟩
instance {x y z : OV} [g : Gh x y] [h : Gt y z] : Gt x z := ⟨fun q => g.go (h.go q)⟩
theorem gs {x y : OV} [g : Gs x y] {Q : Value → AH → Prop} (h : wp y Q) : wp x Q := g.go h
theorem gt {x y : OV} [g : Gt x y] {Q : Value → AH → Prop} (h : wp y Q) : wp x Q := g.go h
structure Mu where
 V : cO → Nat
 E : List Ev
 N : Nat
abbrev Mu.log (μ : Mu) (who kind : Int) (at' : cO) : Mu := { μ with E := μ.E ++ [⟨who, kind, at'⟩], N := μ.N + 1 }
abbrev Mu.put (μ : Mu) (at' : cO) (v : Nat) : Mu := { μ with V := fun l => if l = at' then v else μ.V l }
def f8 (al : List (cO × Nat)) (l : cO) : Nat := ((al.find? fun p => p.1 == l).map (·.2)).getD 0
def aqN (p : cO × Nat) (e : MapEntry) : Prop := e.key = fg p.1 ∧ e.val = .agg #[vu p.2]
inductive EntsOf : List (cO × Nat) → List MapEntry → Prop
 | nil : EntsOf [] []
 | cons {p : cO × Nat} {l : List (cO × Nat)} {e : MapEntry} {es : List MapEntry} (h : aqN p e) (k : EntsOf l es) : EntsOf (p :: l) (e :: es)
theorem GV (a b : cO) : kO (.flat 3) (fg a) (fg b) = some (a == b) := by
 simp only [kO, fg];rw [if_pos ⟨rfl, rfl⟩];simp only [bQ, if_true, fp, Bool.and_true]
 rfl
theorem XR {al : List (cO × Nat)} {es : List MapEntry} (h : EntsOf al es) (l : cO) : ∀ i, ∃ r, bw (.flat 3) (fg l) es i = some r ∧ (match r with
 | some (j, v) => v = .agg #[vu (f8 al l)] ∧ i ≤ j ∧ (∃ p, al[j - i]? = some p ∧ p.1 = l) ∧ ∀ q, q < j - i → ∀ p, al[q]? = some p → p.1 ≠ l
 | none => f8 al l = 0 ∧ ∀ p ∈ al, p.1 ≠ l) := by
 induction h with
 | nil => intro i; exact ⟨none, rfl, rfl, by simp⟩
 | @cons p al e es h k ih =>
  intro i;simp only [bw];rw [h.1, GV];simp only [bP]
  by_cases hp : p.1 = l
  ·have e1 : (l == p.1) = true := by simp [hp]
   rw [if_pos e1];refine ⟨_, rfl, ?_, bB _, ⟨p, by simp, hp⟩, fun q hq => by omega⟩;rw [h.2];simp [f8, hp]
  ·have e1 : ¬ ((l == p.1) = true) := by simp; exact fun h => hp h.symm
   rw [if_neg e1];obtain ⟨r, h1, h2⟩ := ih (i + 1)
   have hg : f8 (p :: al) l = f8 al l := by simp [f8, hp]
   refine ⟨r, h1, ?_⟩
   cases r with
   | none =>
    simp only at h2 ⊢;rw [hg]
    exact ⟨h2.1, fun q hq => by
     rcases uj.1 hq with rfl | hq
     ·exact hp
     ·exact h2.2 q hq⟩
   | some r =>
    obtain ⟨j, v⟩ := r;simp only at h2 ⊢;rw [hg];obtain ⟨a1, a2, ⟨p', a3, a4⟩, a5⟩ := h2;refine ⟨a1, by omega, ⟨p', ?_, a4⟩, fun q hq p'' hp'' => ?_⟩
    ·rw [show j - i = (j - (i + 1)) + 1 from by omega]; exact a3
    ·cases q with
     | zero => simp at hp''; rw [← hp'']; exact hp
     | succ q => exact a5 q (by omega) p'' (by simpa using hp'')
def mY : List (cO × Nat) → cO → Nat → List (cO × Nat)
 | [], l, v => [(l, v)]
 | p :: al, l, v => if p.1 = l then (l, v) :: al else p :: mY al l v
theorem ff (p : cO × Nat) (al : List (cO × Nat)) (l : cO) : f8 (p :: al) l = if p.1 = l then p.2 else f8 al l := by
 unfold f8
 by_cases h : p.1 = l
 ·simp [h]
 ·simp [h]
theorem Gf (l : cO) (v : Nat) (x : cO) : ∀ al, f8 (mY al l v) x = if x = l then v else f8 al x := by
 intro al
 induction al with
 | nil =>
  simp only [mY, ff]
  by_cases h : l = x
  ·simp [h]
  ·have : ¬ x = l := fun e => h e.symm
   simp [h, this]
 | cons p al ih =>
  simp only [mY]
  by_cases hp : p.1 = l
  ·rw [if_pos hp, ff, ff]
   by_cases h : l = x
   ·simp [h]
   ·have h2 : ¬ x = l := fun e => h e.symm
    simp [h, h2, hp]
  ·rw [if_neg hp, ff, ff, ih]
   by_cases h : p.1 = x
   ·have h2 : ¬ x = l := fun e => hp (h.trans e)
    simp [h, h2]
   ·simp [h]
theorem aiE {al : List (cO × Nat)} {es : List MapEntry} (h : EntsOf al es) (l : cO) (v : Nat) : ∀ i, match bw (.flat 3) (fg l) es i with
 | some (some (j, _)) => i ≤ j ∧ EntsOf (mY al l v) (es.modify (j - i) fun e => { e with key := fg l, val := .agg #[vu v] })
 | some none => ∀ born, EntsOf (mY al l v) (es ++ [{ key := fg l, val := .agg #[vu v], born := born }])
 | none => False := by
 induction h with
 | nil => intro i born; exact .cons ⟨rfl, rfl⟩ .nil
 | @cons p al e es h k ih =>
  intro i;simp only [bw];rw [h.1, GV];simp only [bP]
  by_cases hp : p.1 = l
  ·have e1 : (l == p.1) = true := by simp [hp]
   rw [if_pos e1];simp only [mY, if_pos hp];refine ⟨bB _, ?_⟩;simp only [Nat.sub_self];exact .cons ⟨rfl, rfl⟩ k
  ·have e1 : ¬ ((l == p.1) = true) := by simp; exact fun h => hp h.symm
   rw [if_neg e1];have hi := ih (i + 1);simp only [mY, if_neg hp]
   cases hf : bw (.flat 3) (fg l) es (i + 1) with
   | none => rw [hf] at hi; exact hi
   | some r =>
    rw [hf] at hi
    cases r with
    | none => intro born; exact .cons h (hi born)
    | some r =>
     obtain ⟨j, v'⟩ := r;simp only at hi ⊢;refine ⟨by omega, ?_⟩;rw [show j - i = (j - (i + 1)) + 1 from by omega];exact .cons h hi.2
section
variable {P P' R : SP} {H : AH} {c ck : Nat} {es : List MapEntry} {al : List (cO × Nat)} {Q : Value → AH → Prop}
theorem apT {k : Value → OV} {at' : cO} (ha : EntsOf al es) (h : ae P H) [i : Hs P c (.map es ck)] (hk : wp (k (.agg #[vu (f8 al at')])) Q) : wp ((db (.flat 3) (.agg #[vw 0]) (.map (some c)) (fg at') false H).bind k) Q := by
 have hg := i.get h;obtain ⟨r, h1, h2⟩ := XR ha at' 0;refine aa ?_ hk;unfold db;rw [if_pos (show i9 (.flat 3) (fg at') = true from rfl)];simp only [kc, hg, bP, h1, fp]
 cases r with
 | none => simp only at h2 ⊢; rw [h2.1]; rfl
 | some r => simp only at h2 ⊢; rw [h2.1]; rfl
theorem arA {k : AH → OV} {at' : cO} {v : Nat} (ha : EntsOf al es) (h : ae P H) [i : Hs P c (.map es ck)] (hk : ∀ es' ck' H', EntsOf (mY al at' v) es' → (∀ P', Up P c (.map es' ck') P' → ae P' H') → wp (k H') Q) :
 wp ((eZ (.flat 3) (.map (some c)) (fg at') (.agg #[vu v]) H).bind k) Q := by
 have hg := i.get h;have hu := aiE ha at' v 0;unfold eZ;rw [if_pos (show i9 (.flat 3) (fg at') = true from rfl)];simp only [hg]
 cases hf : bw (.flat 3) (fg at') es 0 with
 | none => rw [hf] at hu; exact absurd hu id
 | some r =>
  rw [hf] at hu
  cases r with
  | none =>
   simp only [fp, bP];exact hk _ _ _ (hu ck) fun P' u => u.set h
  | some r =>
   obtain ⟨j, v'⟩ := r;simp only [fp, bP];exact hk _ _ _ hu.2 fun P' u => u.set h
end
def bL (m : Nat) (μ : Mu) : SP := ex fun g : Nat × Value × List (cO × Nat) × List MapEntry × Nat =>
 pu (EntsOf g.2.2.1 g.2.2.2.1 ∧ (∀ l, f8 g.2.2.1 l = μ.V l) ∧ μ.E.length ≤ μ.N) * (blk m (.cells false [.map (some g.1), g.2.1]) * (blk g.1 (.map g.2.2.2.1 g.2.2.2.2) * sl 5 g.2.1 μ.E.length (o5 μ.E)))
theorem oK (m : Nat) (μ : Mu) (who kind : Int) (at' : cO) (hE : μ.N < 1099511627776) : Sp dz [vp m, vi who, vi kind, fg at'] (bL m μ) (fun _ : Unit => .tuple #[]) (fun _ => bL m (μ.log who kind at')) := by
 refine aK fun R H h => ?_;obtain ⟨⟨c, l, al, es, ck⟩, h⟩ := ae.ex.1 h;rw [ak, ae.pu] at h;obtain ⟨hp, h⟩ := h;dsimp only at h hp;refine bm (fun r => Aw _ _ _ _ H) ?_;refine br (cs := [vi at'.1, vi at'.2.1, vi at'.2.2]) h fun b0 H1 h1 => ?_;refine ap h1 ac rfl ?_;refine aR h1 ?_;refine NX (cs := [vi who, vi kind, vi at'.1, vi at'.2.1, vi at'.2.2]) rfl ?_;refine NW (cs := [vi who, vi kind, vi at'.1, vi at'.2.1, vi at'.2.2]) h1 rfl fun b1 H2 h2 => ?_;have hl := hp.2.2;refine anV h2 rfl (by omega) (by omega) rfl (by unfold dr; omega) fun a' c' H3 h3 => ?_;refine bj h3 ac rfl rfl fun H4 h4 => ?_;refine aq ⟨(), rfl, ?_⟩;refine ae.ex.2 ⟨(c, .slice a' (μ.E.length + 1) c', al, es, ck), ?_⟩;rw [ak, ae.pu];refine ⟨⟨hp.1, hp.2.1, by simp; exact hp.2.2⟩, ?_⟩
 have e1 : (μ.log who kind at').E.length = μ.E.length + 1 := by simp [Mu.log]
 have e2 : o5 (μ.log who kind at').E = o5 μ.E ++ [vi who, vi kind, vi at'.1, vi at'.2.1, vi at'.2.2] := by rw [Mu.log, Ir]; rfl
 rw [e1, e2];exact h4.to
theorem wm (m : Nat) (μ : Mu) (at' : cO) : Sp fB [vp m, fg at'] (bL m μ) (fun _ : Unit => vu (μ.V at')) (fun _ => bL m μ) := by
 refine aK fun R H h => ?_;have h0 := h;obtain ⟨⟨c, l, al, es, ck⟩, h⟩ := ae.ex.1 h;rw [ak, ae.pu] at h;obtain ⟨hp, h⟩ := h;dsimp only at h hp;refine bm (fun r => At _ _ H) ?_;refine br (cs := [vi at'.1, vi at'.2.1, vi at'.2.2]) h fun b0 H1 h1 => ?_;refine ap h1 ac rfl ?_;refine aR h1 ?_;refine apT (at' := at') hp.1 h1 ?_;refine aa (v := vu (f8 al at')) rfl ?_;refine aq ⟨(), by rw [hp.2.1], ?_⟩;refine ae.ex.2 ⟨(c, l, al, es, ck), ?_⟩;rw [ak, ae.pu];exact ⟨hp, h1.to⟩
theorem MO {m : Nat} {μ : Mu} {at' : cO} {v : Nat} {R P : SP} {H : AH} {c : Nat} {l : Value} {al : List (cO × Nat)} {es : List MapEntry} {k : AH → OV} {Q : Value → AH → Prop} {ck : Nat}
 (hp : EntsOf al es ∧ (∀ l, f8 al l = μ.V l) ∧ μ.E.length ≤ μ.N) (h : ae P H) [f : Fr P (blk m (.cells false [.map (some c), l]) * (blk c (.map es ck) * sl 5 l μ.E.length (o5 μ.E))) R] [i : Hs P c (.map es ck)]
 (hk : ∀ H', ae (bL m (μ.put at' v) * R) H' → wp (k H') Q) : wp ((eZ (.flat 3) (.map (some c)) (fg at') (.agg #[vu v]) H).bind k) Q := by
 have h' := ae.fr (f := f) h;refine arA hp.1 h' fun es' ck' H' he hh => hk H' ?_;have h2 := hh _ inferInstance;refine ae.ex.2 ⟨(c, l, mY al at' v, es', ck'), ?_⟩;rw [ak, ae.pu];refine ⟨⟨he, fun x => ?_, hp.2.2⟩, h2.to⟩;dsimp only;rw [Gf, hp.2.1]
theorem X5 (m : Nat) (μ : Mu) (who : Int) (at' : cO) (v : Nat) (hE : μ.N < 1099511627776) : Sp dI [vp m, vi who, fg at', vu v] (bL m μ) (fun _ : Unit => .tuple #[]) (fun _ => bL m ((μ.log who 2 at').put at' v)) := by
 refine bh (yn _ _ _ _) fun R H h => ?_;refine br (cs := [vi at'.1, vi at'.2.1, vi at'.2.2]) h fun b0 H1 h1 => ?_;refine aR h1 ?_;refine af h1 (oK m μ who 2 at' hE) fun _ H2 h2 => ?_;obtain ⟨⟨c, l, al, es, ck⟩, h2⟩ := ae.ex.1 h2;rw [ak, ae.pu] at h2;obtain ⟨hp, h2⟩ := h2;dsimp only at h2 hp;refine ap h2 ac rfl ?_;refine aR h2 ?_;refine NX (cs := [vu v]) rfl ?_;refine MO (m := m) (l := l) (μ := μ.log who 2 at') (at' := at') (v := v) hp h2 fun H3 h3 => ?_;exact aq ⟨(), rfl, h3.to⟩
theorem MP (m : Nat) (μ : Mu) (who : Int) (at' : cO) (v : Nat) (hE : μ.N < 1099511627776) : Sp jr [vp m, vi who, fg at', vu v] (bL m μ) (fun _ : Unit => vu (μ.V at')) (fun _ => bL m ((μ.log who 3 at').put at' v)) := by
 refine bh (Ax _ _ _ _) fun R H h => ?_;refine br (cs := [vi at'.1, vi at'.2.1, vi at'.2.2]) h fun b0 H1 h1 => ?_;refine aR h1 ?_;refine af h1 (wm m μ at') fun _ H2 h2 => ?_;refine aR h2 ?_;refine af h2 (oK m μ who 3 at' hE) fun _ H3 h3 => ?_;obtain ⟨⟨c, l, al, es, ck⟩, h3⟩ := ae.ex.1 h3;rw [ak, ae.pu] at h3;obtain ⟨hp, h3⟩ := h3;dsimp only at h3 hp;refine ap h3 ac rfl ?_;refine aR h3 ?_;refine NX (cs := [vu v]) rfl ?_;refine MO (m := m) (l := l) (μ := μ.log who 3 at') (at' := at') (v := v) hp h3 fun H4 h4 => ?_;exact aq ⟨(), rfl, h4.to⟩
theorem afB (m : Nat) (μ : Mu) (who : Int) (at' : cO) (hE : μ.N < 1099511627776) : Sp dy [vp m, vi who, fg at'] (bL m μ) (fun _ : Unit => vu (μ.V at')) (fun _ => bL m (μ.log who 1 at')) := by
 refine bh (As _ _ _) fun R H h => ?_;refine br (cs := [vi at'.1, vi at'.2.1, vi at'.2.2]) h fun b0 H1 h1 => ?_;refine aR h1 ?_;refine af h1 (oK m μ who 1 at' hE) fun _ H2 h2 => ?_;refine aR h2 ?_;refine af h2 (wm m (μ.log who 1 at') at') fun _ H3 h3 => ?_;exact aq ⟨(), rfl, h3.to⟩
abbrev Mu.swap (μ : Mu) (who : Int) (at' : cO) (was now : Nat) : Mu := if μ.V at' = was then (μ.log who 3 at').put at' now else μ.log who 4 at'
theorem afE (m : Nat) (μ : Mu) (who : Int) (at' : cO) (was now : Nat) (hE : μ.N < 1099511627776) :
 Sp fC [vp m, vi who, fg at', vu was, vu now] (bL m μ) (fun _ : Unit => vb (decide (μ.V at' = was))) (fun _ => bL m (μ.swap who at' was now)) := by
 refine bh (Av _ _ _ _ _) fun R H h => ?_;refine br (cs := [vi at'.1, vi at'.2.1, vi at'.2.2]) h fun b0 H1 h1 => ?_;refine aR h1 ?_;refine af h1 (wm m μ at') fun _ H2 h2 => ?_;refine aa anK ?_;unfold Mu.swap;refine cn (fun hc => ?_) (fun hc => ?_)
 ·have hc : ¬ μ.V at' = was := by simpa using hc
  rw [if_neg hc, d6 hc];refine aR h2 ?_;refine af h2 (oK m μ who 4 at' hE) fun _ H3 h3 => ?_;exact aq ⟨(), rfl, h3.to⟩
 ·have hc : μ.V at' = was := by simpa using hc
  rw [if_pos hc, d4 hc];refine aR h2 ?_;refine af h2 (MP m μ who at' now hE) fun _ H3 h3 => ?_;exact aq ⟨(), rfl, h3.to⟩
theorem alH (m : Nat) (μ : Mu) (who : Int) (at' : cO) (n : Nat) (hE : μ.N < 1099511627776) :
 Sp iB [vp m, vi who, fg at', vu n] (bL m μ) (fun _ : Unit => vu (μ.V at')) (fun _ => bL m ((μ.log who 3 at').put at' ((μ.V at' + n) % 18446744073709551616))) := by
 refine bh (Ee _ _ _ _) fun R H h => ?_
 repeat (first | refine aX ‹_› fun _ _ _ => ?_ | refine aR ‹_› ?_)
 refine af (by assumption) (wm m μ at') fun _ _ _ => ?_
 repeat refine dZ ‹_› ‹_› rfl ?_
 refine aa (amS) ?_;refine af (by assumption) (MP m μ who at' _ hE) fun _ _ _ => ?_;exact aq ⟨(), rfl, ae.to (by assumption)⟩
theorem afD (m : Nat) (μ : Mu) (who : Int) (at' : cO) (hE : μ.N < 1099511627776) :
 Sp mC [vp m, vi who, fg at'] (bL m μ) (fun _ : Unit => .tuple #[]) (fun _ => bL m (μ.log who 5 at')) := by
 refine bh (Au _ _ _) fun R H h => ?_
 repeat (first | refine aX ‹_› fun _ _ _ => ?_ | refine aR ‹_› ?_)
 refine af (by assumption) (oK m μ who 5 at' hE) fun _ _ _ => ?_;exact aq ⟨(), rfl, ae.to (by assumption)⟩
theorem sZ (m : Nat) (μ : Mu) (who : Int) (at' : cO) (hE : μ.N < 1099511627776) :
 Sp gg [vp m, vi who, fg at'] (bL m μ) (fun _ : Unit => .tuple #[]) (fun _ => bL m (μ.log who 6 at')) := by
 refine bh (yo _ _ _) fun R H h => ?_
 repeat (first | refine aX ‹_› fun _ _ _ => ?_ | refine aR ‹_› ?_)
 refine af (by assumption) (oK m μ who 6 at' hE) fun _ _ _ => ?_;exact aq ⟨(), rfl, ae.to (by assumption)⟩
theorem Sp.imp {α : Type} {f : Nat} {args : List Value} {P : SP} {v : α → Value} {Q Q' : α → SP} (s : Sp f args P v Q) (h : ∀ x R H, ae (Q x * R) H → ae (Q' x * R) H) : Sp f args P v Q' := by
 intro R H hh;obtain ⟨x, H', e, hq⟩ := s R H hh;exact ⟨x, H', e, h x R H' hq⟩
theorem kp {m : Nat} {V : cO → Nat} {E : List Ev} {N N' : Nat} {R : SP} {H : AH} (hN : N ≤ N') (h : ae (bL m ⟨V, E, N⟩ * R) H) : ae (bL m ⟨V, E, N'⟩ * R) H := by
 obtain ⟨g, h⟩ := ae.ex.1 h;rw [ak, ae.pu] at h;refine ae.ex.2 ⟨g, ?_⟩;rw [ak, ae.pu];exact ⟨⟨h.1.1, h.1.2.1, fT h.1.2.2 hN⟩, h.2⟩
abbrev Mu.acc (μ : Mu) (who kind : Int) (at' : cO) : Mu := { V := μ.V, E := μ.E ++ [⟨who, kind, at'⟩], N := μ.N + 2 }
abbrev Mu.swp (μ : Mu) (who : Int) (at' : cO) (was now : Nat) : Mu := { V := (μ.swap who at' was now).V, E := (μ.swap who at' was now).E, N := μ.N + 2 }
theorem El (m : Nat) (μ : Mu) (who : Int) (at' : cO) (hE : μ.N < 1099511627776) : Sp dy [vp m, vi who, fg at'] (bL m μ) (fun _ : Unit => vu (μ.V at')) (fun _ => bL m (μ.acc who 1 at')) :=
 (afB m μ who at' hE).imp fun _ R H h => kp (by simp) h
theorem BD (m : Nat) (μ : Mu) (who : Int) (at' : cO) (v : Nat) (hE : μ.N < 1099511627776) : Sp dI [vp m, vi who, fg at', vu v] (bL m μ) (fun _ : Unit => .tuple #[]) (fun _ => bL m ((μ.acc who 2 at').put at' v)) :=
 (X5 m μ who at' v hE).imp fun _ R H h => kp (by simp) h
theorem Qj (m : Nat) (μ : Mu) (who : Int) (at' : cO) (was now : Nat) (hE : μ.N < 1099511627776) :
 Sp fC [vp m, vi who, fg at', vu was, vu now] (bL m μ) (fun _ : Unit => vb (decide (μ.V at' = was))) (fun _ => bL m (μ.swp who at' was now)) :=
 (afE m μ who at' was now hE).imp fun _ R H h => by
  have : (μ.swap who at' was now).N ≤ μ.N + 2 := by unfold Mu.swap; split <;> simp
  exact kp this h
theorem anM (m : Nat) (μ : Mu) (who : Int) (at' : cO) (n : Nat) (hE : μ.N < 1099511627776) :
 Sp iB [vp m, vi who, fg at', vu n] (bL m μ) (fun _ : Unit => vu (μ.V at')) (fun _ => bL m ((μ.acc who 3 at').put at' ((μ.V at' + n) % 18446744073709551616))) :=
 (alH m μ who at' n hE).imp fun _ R H h => kp (by simp) h
def Iq (p : cO × Nat) : List Value := [vi p.1.1, vi p.1.2.1, vi p.1.2.2]
def LF (p : cO × Nat) : List Value := [vu p.2]
instance : Enc Iq 3 := ⟨fun _ => rfl, fun _ => rfl, by omega⟩
instance : Enc LF 1 := ⟨fun _ => rfl, fun _ => rfl, by omega⟩
def GZ (m : Nat) (al : List (cO × Nat)) (E : List Ev) : SP := ex fun g : Value × Value × Value =>
 blk m (.cells false [g.1, g.2.1, g.2.2]) * (ts 3 Iq g.1 al * (ts 1 LF g.2.1 al * ts 5 Ev.cells g.2.2 E))
def bT (m : Nat) (μ : Mu) : SP := ex fun al : List (cO × Nat) => pu ((∀ l, f8 al l = μ.V l) ∧ al.length + μ.E.length ≤ μ.N) * GZ m al μ.E
def iz (al : List (cO × Nat)) (l : cO) : Nat := al.findIdx fun p => p.1 == l
def kG (al : List (cO × Nat)) (l : cO) : List (cO × Nat) := if iz al l < al.length then al else al ++ [(l, 0)]
theorem jT (p : cO × Nat) (al : List (cO × Nat)) (l : cO) : iz (p :: al) l = if p.1 = l then 0 else iz al l + 1 := by
 unfold iz;rw [List.findIdx_cons]
 by_cases h : p.1 = l
 ·simp [h]
 ·have : (p.1 == l) = false := by simpa using h
  simp [h, this]
theorem B0 (l : cO) : ∀ (al : List (cO × Nat)) (h : iz al l < al.length), al[iz al l] = (l, f8 al l) := by
 intro al
 induction al with
 | nil => intro h; simp at h
 | cons p al ih =>
  intro h;have e := jT p al l
  by_cases hp : p.1 = l
  ·rw [if_pos hp] at e
   simp only [e, List.getElem_cons_zero, ff, hp, if_true];exact Prod.ext hp rfl
  ·rw [if_neg hp] at e
   rw [e, List.length_cons] at h;simp only [e, List.getElem_cons_succ, ff, hp, if_false];exact ih (by omega)
theorem Oj (l x : cO) : ∀ (al : List (cO × Nat)), ¬ iz al l < al.length → f8 (al ++ [(l, 0)]) x = f8 al x := by
 intro al
 induction al with
 | nil =>
  intro _;show f8 [(l, 0)] x = f8 [] x;rw [ff]
  split <;> rfl
 | cons p al ih =>
  intro h;have e := jT p al l
  by_cases hp : p.1 = l
  ·rw [if_pos hp] at e
   simp [e] at h
  ·rw [if_neg hp] at e
   rw [List.cons_append, ff, ff, ih (by rw [e, List.length_cons] at h; omega)]
theorem B1 (l : cO) (al : List (cO × Nat)) (h : ¬ iz al l < al.length) : iz (al ++ [(l, 0)]) l = al.length := by
 induction al with
 | nil => simp [iz, List.findIdx_cons]
 | cons p al ih =>
  have e := jT p al l
  by_cases hp : p.1 = l
  ·rw [if_pos hp] at e
   simp [e] at h
  ·rw [if_neg hp] at e
   rw [List.cons_append, jT, if_neg hp, ih (by rw [e, List.length_cons] at h; omega), List.length_cons]
theorem VM (al : List (cO × Nat)) (l x : cO) : f8 (kG al l) x = f8 al x := by
 unfold kG
 split
 ·rfl
 ·exact Oj l x al (by assumption)
theorem ZZ (al : List (cO × Nat)) (l : cO) : iz (kG al l) l < (kG al l).length := by
 unfold kG
 split
 ·assumption
 ·rw [B1 l al (by assumption)]; simp
theorem Gg (l : cO) (v : Nat) : ∀ (al : List (cO × Nat)), iz al l < al.length → mY al l v = al.set (iz al l) (l, v) := by
 intro al
 induction al with
 | nil => intro h; simp at h
 | cons p al ih =>
  intro h;have e := jT p al l
  by_cases hp : p.1 = l
  ·rw [if_pos hp] at e
   simp [mY, hp, e]
  ·rw [if_neg hp] at e
   rw [e, List.length_cons] at h;simp only [mY, hp, if_false, e, List.set_cons_succ];rw [ih (by omega)]
theorem UI (m : Nat) (al : List (cO × Nat)) (E : List Ev) (who kind : Int) (at' : cO) (hE : E.length < 1099511627776) : Sp cu [vp m, vi who, vi kind, fg at'] (GZ m al E) (fun _ : Unit => .tuple #[]) (fun _ => GZ m al (E ++ [⟨who, kind, at'⟩])) := by
 refine bh (Es _ _ _ _) fun R H h => ?_;obtain ⟨⟨a, v, e⟩, h⟩ := ae.ex.1 h;dsimp only at h
 repeat (first | refine aX ‹_› fun _ _ _ => ?_ | refine aR ‹_› ?_ | refine ap ‹_› ac rfl ?_ | refine je ?_ | refine RF ‹_› fun _ _ _ => ?_)
 refine i1 ((⟨who, kind, at'⟩ : Ev)) (by assumption) rfl ?_ (by omega) fun a' c' _ _ => ?_
 ·unfold dr; omega
 repeat (first | refine bE ac ?_ | refine ej ‹_› rfl rfl fun _ _ => ?_)
 exact aq ⟨(), rfl, ae.ex.2 ⟨(a, v, .slice a' (E.length + 1) c'), ae.to (by assumption)⟩⟩
theorem La (l : cO) : ∀ (al : List (cO × Nat)) (k : Nat) (hk : k < al.length), al[k].1 = l → (∀ j, j < k → ∀ p, al[j]? = some p → p.1 ≠ l) → iz al l = k := by
 intro al
 induction al with
 | nil => intro k hk; simp at hk
 | cons p al ih =>
  intro k hk h hno;rw [jT]
  cases k with
  | zero => rw [if_pos (by simpa using h)]
  | succ k =>
   rw [if_neg (hno 0 (by omega) p rfl), ih k (by simpa using hk) (by simpa using h) fun j hj q hq => hno (j + 1) (by omega) q (by simpa using hq)]
theorem Qp {m b0 : Nat} {al : List (cO × Nat)} {E : List Ev} {at' : cO} {R : SP} (hal : al.length < 1099511627776) {a v e : Value} (x4 : Value) {H : AH}
 (h : ae (blk b0 (.cells false [vi at'.1, vi at'.2.1, vi at'.2.2]) * (blk m (.cells false [a, v, e]) * (ts 3 Iq a al * (ts 1 LF v al * ts 5 Ev.cells e E)) * R)) H) :
 ∀ (n k : Nat), k + n = al.length → (∀ j, j < k → ∀ p, al[j]? = some p → p.1 ≠ at') →
  wp (BE (vp m) (vp b0) x4 (vi k) H) fun v' H' => v' = vi (iz (kG al at') at') ∧ ae (GZ m (kG al at') E * R) H' := by
 intro n
 induction n with
 | zero =>
  intro k hk hno
  have hidx : ¬ iz al at' < al.length := by
   intro hlt;have := B0 at' al hlt;exact hno _ (by omega) _ (cT hlt) (by rw [this])
  refine ah (Ez _ _ _ _ H) ?_;refine ap h ac rfl ?_;refine oa (s := a) h ?_;refine aa sF ?_;refine cn (fun hc => ?_) (fun hc => ?_)
  ·simp at hc; omega
  refine ah (J9 _ _ _ H) ?_;refine ah (Yq _ _ _ H) ?_;have e1 : kG al at' = al ++ [(at', 0)] := if_neg hidx
  have e2 : iz (kG al at') at' = al.length := by rw [e1, B1 at' al hidx]
  rw [e1, ← e1, e2, e1]
  repeat (first | refine aR ‹_› ?_ | refine ap ‹_› ac rfl ?_ | refine RF ‹_› fun _ _ _ => ?_)
  refine i1 (((at', 0) : cO × Nat)) (by assumption) rfl ?_ (by omega) fun a1 c1 H1 h1 => ?_
  ·unfold dr; omega
  repeat (first | refine ap ‹_› ac rfl ?_ | refine RF ‹_› fun _ _ _ => ?_ | refine aJ ‹_› ‹_› rfl ?_)
  refine i1 (((at', 0) : cO × Nat)) (by assumption) rfl ?_ (by omega) fun a2 c2 H2 h2 => ?_
  ·unfold dr; omega
  repeat (first | refine ap ‹_› ac rfl ?_ | refine bE ac ?_ | refine ej ‹_› rfl rfl fun _ _ => ?_ | refine Vx ?_)
  refine aa (bF (by omega) (by omega)) ?_;refine aq ⟨by congr 1; omega, ?_⟩;exact ae.ex.2 ⟨(.slice a1 (al.length + 1) c1, .slice a2 (al.length + 1) c2, e), ae.to (by assumption)⟩
 | succ n ih =>
  intro k hk hno
  have hkl : k < al.length := by omega
  refine ah (Ez _ _ _ _ H) ?_;refine ap h ac rfl ?_;refine oa (s := a) h ?_;refine aa sF ?_;refine cn (fun hc => ?_) (fun hc => ?_)
  ·refine ah (Qx _ _ _ _ H) ?_
   refine ap h ac rfl ?_;refine RI (s := a) h hkl ?_;refine aR h ?_;refine aa (aa2 al[k].1 at') ?_;refine cn (fun hc => ?_) (fun hc => ?_)
   ·have hc : al[k].1 = at' := by simpa using hc
    have hidx := La at' al k hkl hc hno
    have e1 : kG al at' = al := by unfold kG; rw [if_pos (by omega)]
    refine aq ⟨by rw [e1, hidx], ?_⟩;rw [e1];exact ae.ex.2 ⟨(a, v, e), ae.to h⟩
   ·have hc : al[k].1 ≠ at' := by simpa using hc
    refine ah (Qy _ _ _ _ H) ?_;refine aa (aH (by omega) (by omega)) ?_;refine ih (k + 1) (by omega) fun j hj p hp => ?_
    by_cases hjk : j = k
    ·subst hjk
     rw [cT hkl] at hp;cases hp;exact hc
    ·exact hno j (by omega) p hp
  ·simp at hc; omega
theorem Yo (m : Nat) (al : List (cO × Nat)) (E : List Ev) (at' : cO) (hal : al.length < 1099511627776) : Sp Ei [vp m, fg at'] (GZ m al E) (fun _ : Unit => vi (iz (kG al at') at')) (fun _ => GZ m (kG al at') E) := by
 refine bh (ao7 _ _) fun R H h => ?_;obtain ⟨⟨a, v, e⟩, h⟩ := ae.ex.1 h;dsimp only at h;refine aX h fun b0 H1 h1 => ?_;refine ah (Yp _ _ _ H1) ?_;refine ah (Qw _ _ _ _ H1) ?_;refine (Qp hal (vi 0) h1 al.length 0 (by omega) (fun j hj => by omega)).mono fun v' H' h' => ⟨(), h'.1, h'.2⟩
theorem al6 (a : Value) (al : List (cO × Nat)) (i : Nat) (hi : i < al.length) (v : Nat) : ts 3 Iq a (al.set i (al[i].1, v)) = ts 3 Iq a al := by
 unfold ts;rw [P5, Mv al i hi, pA al i hi]
 rfl
theorem Ed {m : Nat} {μ : Mu} {al : List (cO × Nat)} {a v e : Value} {P R : SP} {H : AH} (hp : (∀ l, f8 al l = μ.V l) ∧ al.length + μ.E.length ≤ μ.N) (h : ae P H)
 {Z : SP} [f : Fr P ((blk m (.cells false [a, v, e]) * (ts 3 Iq a al * (ts 1 LF v al * ts 5 Ev.cells e μ.E))) * R) Z] : ae (bT m μ * R) H := by
 refine ae.ex.2 ⟨al, ?_⟩;rw [ak, ae.pu];exact ⟨hp, ae.ex.2 ⟨(a, v, e), h.to⟩⟩
theorem VN (al : List (cO × Nat)) (l : cO) : (kG al l).length ≤ al.length + 1 := by unfold kG; split <;> simp
def zE (m : Nat) (μ : Mu) (at' : cO) (i : Nat) : SP := ex fun g : List (cO × Nat) × Value × Value × Value =>
 pu ((∀ l, f8 g.1 l = μ.V l) ∧ g.1.length + μ.E.length ≤ μ.N ∧ iz g.1 at' = i ∧ i < g.1.length) * (blk m (.cells false [g.2.1, g.2.2.1, g.2.2.2]) * (ts 3 Iq g.2.1 g.1 * (ts 1 LF g.2.2.1 g.1 * ts 5 Ev.cells g.2.2.2 μ.E)))
theorem KW (m : Nat) (μ : Mu) (at' : cO) (hE : μ.N < 1099511627776) : Sp Ei [vp m, fg at'] (bT m μ) (fun i : Nat => vi (i : Int)) (fun i => zE m { μ with N := μ.N + 1 } at' i) := by
 intro R H h;obtain ⟨al, h⟩ := ae.ex.1 h;rw [ak, ae.pu] at h;obtain ⟨hp, h⟩ := h;obtain ⟨_, H', e, h'⟩ := Yo m al μ.E at' (by omega) R H h;refine ⟨iz (kG al at') at', H', e, ?_⟩;obtain ⟨⟨a, v, ev⟩, h'⟩ := ae.ex.1 h';refine ae.ex.2 ⟨(kG al at', a, v, ev), ?_⟩;rw [ak, ae.pu];have := VN al at';exact ⟨⟨fun l => by rw [VM, hp.1], by dsimp only; omega, rfl, ZZ al at'⟩, h'⟩
theorem ZG (m : Nat) (μ : Mu) (who kind : Int) (at' : cO) (hE : μ.N < 1099511627776) : Sp cu [vp m, vi who, vi kind, fg at'] (bT m μ) (fun _ : Unit => .tuple #[]) (fun _ => bT m (μ.log who kind at')) := by
 intro R H h;obtain ⟨al, h⟩ := ae.ex.1 h;rw [ak, ae.pu] at h;obtain ⟨hp, h⟩ := h;obtain ⟨_, H', e, h'⟩ := UI m al μ.E who kind at' (by omega) R H h;refine ⟨(), H', e, ?_⟩;refine ae.ex.2 ⟨al, ?_⟩;rw [ak, ae.pu];exact ⟨⟨hp.1, by simp; omega⟩, h'⟩
theorem aoY (m : Nat) (μ : Mu) (at2 : cO) (i : Nat) (who kind : Int) (at' : cO) (hE : μ.N < 1099511627776) : Sp cu [vp m, vi who, vi kind, fg at'] (zE m μ at2 i) (fun _ : Unit => .tuple #[]) (fun _ => zE m (μ.log who kind at') at2 i) := by
 intro R H h;obtain ⟨⟨al, a, v, e⟩, h⟩ := ae.ex.1 h;rw [ak, ae.pu] at h;obtain ⟨hp, h⟩ := h;dsimp only at hp h;obtain ⟨_, H', e', h'⟩ := UI m al μ.E who kind at' (by omega) R H (ae.ex.2 ⟨(a, v, e), h⟩);refine ⟨(), H', e', ?_⟩;obtain ⟨⟨a2, v2, e2⟩, h'⟩ := ae.ex.1 h';refine ae.ex.2 ⟨(al, a2, v2, e2), ?_⟩;rw [ak, ae.pu];exact ⟨⟨hp.1, by simp; omega, hp.2.2⟩, h'⟩
class Xi (P : SP) (m i : Nat) (μ : outParam Mu) (at' : outParam cO) (R : outParam SP) : Prop where
 eq : P = zE m μ at' i * R
instance (priority := high) Xi.refl (m i : Nat) (μ : Mu) (at' : cO) : Xi (zE m μ at' i) m i μ at' emp := ⟨(f5 _).symm⟩
instance Xi.left (P Q R : SP) (m i : Nat) (μ : Mu) (at' : cO) [h : Xi P m i μ at' R] : Xi (P * Q) m i μ at' (R * Q) := ⟨by rw [h.eq, ak]⟩
instance Xi.right (P Q R : SP) (m i : Nat) (μ : Mu) (at' : cO) [h : Xi Q m i μ at' R] : Xi (P * Q) m i μ at' (P * R) := ⟨by rw [h.eq, cN]⟩
section
variable {m i : Nat} {μ : Mu} {at' : cO} {P R : SP} {H : AH} {Q : Value → AH → Prop}
theorem aiR {k : Value → OV} (h : ae P H) [f : Xi P m i μ at' R] (hk : wp (k (vu (μ.V at'))) Q) : wp (ld [.n, .f 1] (vp m) H fun v => ld [.i 1 (vi i)] v H k) Q := by
 have h' : ae (zE m μ at' i * R) H := by rw [← f.eq]; exact h
 obtain ⟨⟨al, a, v, e⟩, h'⟩ := ae.ex.1 h';rw [ak, ae.pu] at h';obtain ⟨hp, h'⟩ := h';dsimp only at hp h';refine ap h' ac rfl ?_;obtain ⟨p1, _, p4, p5⟩ := hp;refine apU (s := v) h' p5 (v := vu (μ.V at')) ?_ hk;subst p4;rw [B0 at' al p5];simp [LF, p1]
theorem aiS {k : AH → OV} {v : Nat} (h : ae P H) [f : Xi P m i μ at' R] (hk : ∀ H', ae (bT m (μ.put at' v) * R) H' → wp (k H') Q) : wp (ld [.n, .f 1] (vp m) H fun s => st 1 [.i 1 (vi i)] s (vu v) H k) Q := by
 have h0 : ae (zE m μ at' i * R) H := by rw [← f.eq]; exact h
 obtain ⟨⟨al, a, s, e⟩, h1⟩ := ae.ex.1 h0;rw [ak, ae.pu] at h1;obtain ⟨hp, h'⟩ := h1
 clear h0
 dsimp only at hp h';refine ap h' ac rfl ?_;obtain ⟨p1, p2, p4, p5⟩ := hp;subst p4;refine N2 (s := s) (g := 0) ((at', v) : cO × Nat) h' p5 (.inl ⟨rfl, rfl⟩) rfl (by omega) rfl rfl fun H' h2 => hk H' ?_;have hat := B0 at' al p5;have hk2 := al6 a al (iz al at') p5 v;rw [hat] at hk2;rw [← Gg at' v al p5] at h2 hk2;rw [← hk2] at h2;refine Ed (al := mY al at' v) (a := a) (v := s) (e := e) ⟨fun l => ?_, ?_⟩ h2
 ·rw [Gf, p1]
 ·rw [Gg at' v al p5, P5]; exact p2
theorem amD {x y : Value} {op : BinOp} {cl : TCls} {k : AH → OV} {v : Nat} (h : ae P H) [f : Xi P m i μ at' R] (hb : ai cl op x y = some (vu v)) (hk : ∀ H', ae (bT m (μ.put at' v) * R) H' → wp (k H') Q) :
 wp (ld [.n, .f 1] (vp m) H fun s => (ai cl op x y).bind fun z => st 1 [.i 1 (vi i)] s z H k) Q := by
 rw [hb];exact aiS h hk
theorem arE (h : ae P H) [f : Xi P m i μ at' R] : ae (bT m μ * R) H := by
 have h' : ae (zE m μ at' i * R) H := by rw [← f.eq]; exact h
 obtain ⟨⟨al, a, s, e⟩, h'⟩ := ae.ex.1 h';rw [ak, ae.pu] at h';obtain ⟨hp, h'⟩ := h';exact Ed (al := al) (a := a) (v := s) (e := e) ⟨hp.1, hp.2.1⟩ h'
end
theorem rX (m : Nat) (μ : Mu) (who : Int) (at' : cO) (hE : μ.N < 1099511627000) : Sp d9 [vp m, vi who, fg at'] (bT m μ) (fun _ : Unit => vu (μ.V at')) (fun _ => bT m (μ.acc who 1 at')) := by
 refine bh (AN _ _ _) fun R H h => ?_
 repeat (first | refine aX ‹_› fun _ _ _ => ?_ | refine aR ‹_› ?_)
 refine af (by assumption) (ZG m μ who 1 at' (by omega)) fun _ _ _ => ?_
 repeat refine aR ‹_› ?_
 refine af (by assumption) (KW m (μ.log who 1 at') at' (by simp; omega)) fun i H3 h3 => ?_;refine aiR h3 ?_;exact aq ⟨(), rfl, ae.to (arE (m := m) (i := i) h3)⟩
theorem s7 (m : Nat) (μ : Mu) (who : Int) (at' : cO) (v : Nat) (hE : μ.N < 1099511627000) : Sp eA [vp m, vi who, fg at', vu v] (bT m μ) (fun _ : Unit => .tuple #[]) (fun _ => bT m ((μ.acc who 2 at').put at' v)) := by
 refine bh (yD _ _ _ _) fun R H h => ?_
 repeat (first | refine aX ‹_› fun _ _ _ => ?_ | refine aR ‹_› ?_)
 refine af (by assumption) (ZG m μ who 2 at' (by omega)) fun _ _ _ => ?_
 repeat refine aR ‹_› ?_
 refine af (by assumption) (KW m (μ.log who 2 at') at' (by simp; omega)) fun i H3 h3 => ?_;refine aiS (at' := at') h3 fun H4 h4 => ?_;exact aq ⟨(), rfl, h4.to⟩
theorem Ey (m : Nat) (μ : Mu) (who : Int) (at' : cO) (was now : Nat) (hE : μ.N < 1099511627000) :
 Sp gM [vp m, vi who, fg at', vu was, vu now] (bT m μ) (fun _ : Unit => vb (decide (μ.V at' = was))) (fun _ => bT m (μ.swp who at' was now)) := by
 refine bh (AO _ _ _ _ _) fun R H h => ?_
 repeat (first | refine aX ‹_› fun _ _ _ => ?_ | refine aR ‹_› ?_)
 refine af (by assumption) (KW m μ at' (by omega)) fun i H3 h3 => ?_;refine aiR h3 ?_;refine aa (anK) ?_;unfold Mu.swp Mu.swap;refine cn (fun hc => ?_) (fun hc => ?_)
 ·have hc : ¬ μ.V at' = was := by simpa using hc
  rw [if_neg hc, d6 hc]
  repeat refine aR ‹_› ?_
  refine af (by assumption) (aoY m { μ with N := μ.N + 1 } at' i who 4 at' (by simp; omega)) fun _ H4 h4 => ?_;exact aq ⟨(), rfl, ae.to (arE (m := m) (i := i) h4)⟩
 ·have hc : μ.V at' = was := by simpa using hc
  rw [if_pos hc, d4 hc]
  repeat refine aR ‹_› ?_
  refine af (by assumption) (aoY m { μ with N := μ.N + 1 } at' i who 3 at' (by simp; omega)) fun _ H4 h4 => ?_;refine aiS (at' := at') h4 fun H5 h5 => ?_;exact aq ⟨(), rfl, h5.to⟩
theorem UH (m : Nat) (μ : Mu) (who : Int) (at' : cO) (n : Nat) (hE : μ.N < 1099511627000) :
 Sp ku [vp m, vi who, fg at', vu n] (bT m μ) (fun _ : Unit => vu (μ.V at')) (fun _ => bT m ((μ.acc who 3 at').put at' ((μ.V at' + n) % 18446744073709551616))) := by
 refine bh (Er _ _ _ _) fun R H h => ?_
 repeat (first | refine aX ‹_› fun _ _ _ => ?_ | refine aR ‹_› ?_)
 refine af (by assumption) (KW m μ at' (by omega)) fun i H3 h3 => ?_
 repeat refine aR ‹_› ?_
 refine af (by assumption) (aoY m { μ with N := μ.N + 1 } at' i who 3 at' (by simp; omega)) fun _ H4 h4 => ?_;refine aiR h4 ?_;refine amD (at' := at') h4 amS fun H5 h5 => ?_;exact aq ⟨(), rfl, h5.to⟩
def cS (w : Nat) : Bool := decide (w / 2305843009213693952 < 3)
def aL (w : Nat) : Nat := if cS w then w % 2305843009213693952 else 0
def ba (w : Nat) : Int := if cS w then (w / 2305843009213693952 : Nat) else -1
def aY (w : Nat) : Nat → Option Nat
 | 0 => if cS w ∧ ba w ≠ 2 ∧ aL w < 2305843009213693951 then some (aL w + 1 + 2305843009213693952) else none
 | 1 => if ba w = 1 then some (aL w) else none
 | 2 => if ba w = 0 then some (aL w + 4611686018427387904) else none
 | _ => none
def JU : Option Nat → Value
 | some n => .tuple #[vu n, vb true]
 | none => .tuple #[vw 0, vb false]
theorem u5 (w : Nat) : Sp jy [vu w] emp (fun _ : Unit => vb (cS w)) (fun _ => emp) := by
 refine bh (Gb _) fun R H h => ?_;refine aa (anQ) ?_;refine aa (sF) ?_;refine aq ⟨(), ?_, h⟩
 congr 1
 unfold cS
 congr 1
 apply propext;omega
theorem i3 (w : Nat) (hw : w < 18446744073709551616) : Sp dU [vu w] emp (fun _ : Unit => vu (aL w)) (fun _ => emp) := by
 refine bh (Ga _) fun R H h => ?_;refine af (by assumption) (u5 w) fun _ _ _ => ?_;refine aa (Fo) ?_;refine cn (fun hc => ?_) (fun hc => ?_)
 ·have hc : cS w = false := by simpa using hc
  refine aq ⟨(), by simp [aL, hc], ae.to (by assumption)⟩
 ·have hc : cS w = true := by simpa using hc
  refine aa (aqI hw) ?_;refine aq ⟨(), by simp [aL, hc], ae.to (by assumption)⟩
theorem ki (w : Nat) (hw : w < 18446744073709551616) : Sp eS [vu w] emp (fun _ : Unit => vi (ba w)) (fun _ => emp) := by
 refine bh (Gc _) fun R H h => ?_;refine af (by assumption) (u5 w) fun _ _ _ => ?_;refine aa (Fo) ?_;refine cn (fun hc => ?_) (fun hc => ?_)
 ·have hc : cS w = false := by simpa using hc
  refine aq ⟨(), by simp [ba, hc], ae.to (by assumption)⟩
 ·have hc : cS w = true := by simpa using hc
  refine aa (anQ) ?_;refine aa (iE (by omega)) ?_;refine aq ⟨(), by simp [ba, hc], ae.to (by assumption)⟩
theorem oQ (w : Nat) (hw : w < 18446744073709551616) : Sp gL [vu w] emp (fun _ : Unit => .tuple #[vu (aL w), vi (ba w), vb (cS w)]) (fun _ => emp) := by
 refine bh (J1 _) fun R H h => ?_;refine aa (aq1) ?_;refine aa (aqZ hw) ?_;refine aa (iE (by omega)) ?_;refine aa (Ie) ?_;refine cn (fun hc => ?_) (fun hc => ?_)
 ·have hc : cS w = false := by simp at hc; simp [cS]; omega
  refine aq ⟨(), by simp [aL, ba, hc], h.to⟩
 ·have hc : cS w = true := by simp at hc; simp [cS]; omega
  refine aq ⟨(), by simp [aL, ba, hc], h.to⟩
theorem HW (n : Nat) (s : Nat) (hn : n ≤ 2305843009213693951) (hs : s < 3) : Sp np [vu n, vi (s : Int)] emp (fun _ : Unit => .tuple #[vu (s * 2305843009213693952 + n), vb true]) (fun _ => emp) := by
 refine bh (KT _ _) fun R H h => ?_;refine aa (fQ (by omega)) ?_;refine gt ?_;refine aa (FP (bW ?_)) ?_
 ·omega
 refine gt ?_;refine aa (FP (q9 ?_)) ?_
 ·omega
 refine gt ?_;refine cn (fun hc => by cases hc) (fun _ => ?_);refine aa (dQ (by omega) (by omega)) ?_
 have e1 : ai .other .shl (vu (s : Int).toNat) (vw 61) = some (vu (s * 2305843009213693952)) := by
  have := Gk (cl := .other) (a := s) (k := .u64) (n := 61) (by omega);simp only [Nat.reducePow] at this;rw [Nat.mod_eq_of_lt (by omega)] at this
  simpa using this
 refine aa (e1) ?_
 have e2 : ai .other .or (vu (s * 2305843009213693952)) (vu n) = some (vu (s * 2305843009213693952 + n)) := by
  rw [aaE (by omega) (by omega)]
  congr 3
  have := Nat.two_pow_add_eq_or_of_lt (i := 61) (b := n) (by simp only [Nat.reducePow]; omega) s;simp only [Nat.reducePow] at this;rw [Nat.mul_comm, ← this]
 refine aa (e2) ?_;exact aq ⟨(), rfl, h.to⟩
theorem Ep (n : Nat) (s : Nat) (hn : n ≤ 2305843009213693951) (hs : s < 3) : Sp mD [vu n, vi (s : Int)] emp (fun _ : Unit => .tuple #[vu (s * 2305843009213693952 + n), vb true]) (fun _ => emp) := by
 refine bh (Nc _ _) fun R H h => ?_;refine aa (fQ (by omega)) ?_;refine gt ?_;refine aa (FP (bW ?_)) ?_
 ·omega
 refine gt ?_;refine aa (FP (fQ ?_)) ?_
 ·omega
 refine gt ?_;refine cn (fun hc => by cases hc) (fun _ => ?_);refine aa (dQ (by omega) (by omega)) ?_
 have hs2 : (s : Int).toNat = s := by omega
 rw [hs2];refine aa (aqW (by omega)) ?_;refine aa (gi (by omega)) ?_;exact aq ⟨(), rfl, h.to⟩
theorem eG (w : Nat) : aL w ≤ 2305843009213693951 := by unfold aL; split <;> omega
theorem aiF {w : Nat} (h : cS w = true ∧ ba w ≠ 2 ∧ aL w < 2305843009213693951) : aY w 0 = some (aL w + 1 + 2305843009213693952) := if_pos h
theorem NU {w : Nat} (h : ¬ (cS w = true ∧ ba w ≠ 2 ∧ aL w < 2305843009213693951)) : aY w 0 = none := if_neg h
theorem aq8 {w : Nat} (h : ba w = 1) : aY w 1 = some (aL w) := if_pos h
theorem aq7 {w : Nat} (h : ¬ ba w = 1) : aY w 1 = none := if_neg h
theorem aiG {w : Nat} (h : ba w = 0) : aY w 2 = some (aL w + 4611686018427387904) := if_pos h
theorem anU {w : Nat} (h : ¬ ba w = 0) : aY w 2 = none := if_neg h
theorem ZB (w : Nat) (hw : w < 18446744073709551616) : Sp nl [vu w] emp (fun _ : Unit => JU (aY w 0)) (fun _ => emp) := by
 refine bh (KS _) fun R H h => ?_;have hcl := eG w;refine af (by assumption) (u5 w) fun _ _ _ => ?_;refine aa (Fo) ?_
 by_cases hr : cS w = true
 ·rw [hr, Bool.not_true]
  refine gt ?_;refine af (by assumption) (ki w hw) fun _ _ _ => ?_;refine aa (FP (fq)) ?_
  by_cases hs : ba w = 2
  ·rw [beq_iff_eq.2 hs]
   refine gt ?_;refine cn (fun _ => ?_) (fun hc => by cases hc);exact aq ⟨(), by rw [NU (fun h => h.2.1 hs)]; rfl, ae.to (by assumption)⟩
  ·rw [beq_eq_false_iff_ne.2 hs]
   refine gt ?_;refine af (by assumption) (i3 w hw) fun _ _ _ => ?_;refine aa (FP (fq)) ?_;refine gt ?_;refine cn (fun hc => ?_) (fun hc => ?_)
   ·have hc : (aL w : Int) = 2305843009213693951 := by simpa using hc
    exact aq ⟨(), by rw [NU (fun h => by have := h.2.2; omega)]; rfl, ae.to (by assumption)⟩
   ·have hc : ¬ (aL w : Int) = 2305843009213693951 := by simpa using hc
    have ht := aiF (w := w) ⟨hr, hs, by omega⟩;refine af (by assumption) (i3 w hw) fun _ _ _ => ?_;refine aa (gi (b := 1) (by omega)) ?_;refine af (by assumption) (HW (aL w + 1) 1 (by omega) (by omega)) fun _ _ _ => ?_;refine aa rfl ?_;refine aa rfl ?_;refine aq ⟨(), ?_, ae.to (by assumption)⟩;rw [ht];simp [JU];omega
 ·have hr : cS w = false := by simpa using hr
  rw [hr, Bool.not_false];refine gt ?_;refine cn (fun _ => ?_) (fun hc => by cases hc);exact aq ⟨(), by rw [NU (fun h => by rw [hr] at h; cases h.1)]; rfl, ae.to (by assumption)⟩
theorem ZC (w : Nat) (hw : w < 18446744073709551616) : Sp nq [vu w] emp (fun _ : Unit => JU (aY w 2)) (fun _ => emp) := by
 refine bh (KU _) fun R H h => ?_;have hcl := eG w;refine af (by assumption) (ki w hw) fun _ _ _ => ?_;refine aa (vh) ?_;refine cn (fun hc => ?_) (fun hc => ?_)
 ·have hc : ¬ ba w = 0 := by simpa using hc
  exact aq ⟨(), by rw [anU hc]; rfl, ae.to (by assumption)⟩
 ·have hc : ba w = 0 := by simpa using hc
  refine af (by assumption) (i3 w hw) fun _ _ _ => ?_;refine af (by assumption) (HW (aL w) 2 (by omega) (by omega)) fun _ _ _ => ?_;refine aa rfl ?_;refine aa rfl ?_;refine aq ⟨(), ?_, ae.to (by assumption)⟩;rw [aiG hc];simp [JU];omega
theorem Qu (w how : Nat) (hw : w < 18446744073709551616) (hh : how < 3) : Sp pH [vu w, vi (how : Int)] emp (fun _ : Unit => JU (aY w how)) (fun _ => emp) := by
 refine bh (FY _ _) fun R H h => ?_;have hcl := eG w;refine af (by assumption) (oQ w hw) fun _ H1 h1 => ?_;refine aa rfl ?_;refine aa rfl ?_;refine aa rfl ?_;refine ah (yA _ _ _ _ _ _ H1) ?_;refine aa (Fo) ?_;refine cn (fun hc => ?_) (fun hc => ?_)
 ·have hc : cS w = false := by simpa using hc
  have : aY w how = none := by
   match how, hh with
   | 0, _ => simp [aY, hc]
   | 1, _ => simp [aY, ba, hc]
   | 2, _ => simp [aY, ba, hc]
  exact aq ⟨(), by rw [this]; rfl, ae.to (by assumption)⟩
 ·have hr : cS w = true := by simpa using hc
  match how, hh with
  | 0, _ =>
   refine aa (bo rfl) ?_;refine gt ?_;refine aa (FP (vh)) ?_;refine gt ?_
   by_cases hs : ba w = 2
   ·rw [bne_eq_false_iff_eq.2 hs]
    refine gt ?_;refine cn (fun hc => by cases hc) (fun _ => ?_);refine aa (aG ?_) ?_
    ·omega
    refine gt ?_;refine cn (fun hc => by cases hc) (fun _ => ?_);refine aa (aG ?_) ?_
    ·omega
    refine gt ?_;refine cn (fun hc => by cases hc) (fun _ => ?_);refine ah (hF _ _ H1) ?_;exact aq ⟨(), by rw [NU (fun h => h.2.1 hs)]; rfl, ae.to (by assumption)⟩
   ·rw [bne_iff_ne.2 hs]
    refine gt ?_;refine aa (FP (sF)) ?_;refine gt ?_;refine cn (fun hc => ?_) (fun hc => ?_)
    ·have hc : (aL w : Int) < 2305843009213693951 := by simpa using hc
     have ht := aiF (w := w) ⟨hr, hs, by omega⟩;refine aa (gi (b := 1) (by omega)) ?_;refine af (by assumption) (Ep (aL w + 1) 1 (by omega) (by omega)) fun _ _ _ => ?_;refine aa rfl ?_;refine aa rfl ?_;refine aq ⟨(), ?_, ae.to (by assumption)⟩;rw [ht];simp [JU];omega
    ·have hc : ¬ (aL w : Int) < 2305843009213693951 := by simpa using hc
     refine aa (aG ?_) ?_
     ·omega
     refine gt ?_;refine cn (fun hc => by cases hc) (fun _ => ?_);refine aa (aG ?_) ?_
     ·omega
     refine gt ?_;refine cn (fun hc => by cases hc) (fun _ => ?_);refine ah (hF _ _ H1) ?_;exact aq ⟨(), by rw [NU (fun h => by have := h.2.2; omega)]; rfl, ae.to (by assumption)⟩
  | 1, _ =>
   refine aa (aG ?_) ?_
   ·omega
   refine gt ?_;refine cn (fun hc => by cases hc) (fun _ => ?_);refine aa (bo rfl) ?_;refine gt ?_;refine aa (FP (fq)) ?_;refine gt ?_;refine cn (fun hc => ?_) (fun hc => ?_)
   ·have hc : ba w = 1 := by simpa using hc
    refine af (by assumption) (Ep (aL w) 0 (by omega) (by omega)) fun _ _ _ => ?_;refine aa rfl ?_;refine aa rfl ?_;exact aq ⟨(), by rw [aq8 hc]; simp [JU], ae.to (by assumption)⟩
   ·have hc : ¬ ba w = 1 := by simpa using hc
    refine aa (aG ?_) ?_
    ·omega
    refine gt ?_;refine cn (fun hc => by cases hc) (fun _ => ?_);refine ah (hF _ _ H1) ?_;exact aq ⟨(), by rw [aq7 hc]; rfl, ae.to (by assumption)⟩
  | 2, _ =>
   refine aa (aG ?_) ?_
   ·omega
   refine gt ?_;refine cn (fun hc => by cases hc) (fun _ => ?_);refine aa (aG ?_) ?_
   ·omega
   refine gt ?_;refine cn (fun hc => by cases hc) (fun _ => ?_);refine aa (bo rfl) ?_;refine gt ?_;refine aa (FP (fq)) ?_;refine gt ?_;refine cn (fun hc => ?_) (fun hc => ?_)
   ·have hc : ba w = 0 := by simpa using hc
    refine af (by assumption) (Ep (aL w) 2 (by omega) (by omega)) fun _ _ _ => ?_;refine aa rfl ?_;refine aa rfl ?_;refine aq ⟨(), ?_, ae.to (by assumption)⟩;rw [aiG hc];simp [JU];omega
   ·have hc : ¬ ba w = 0 := by simpa using hc
    refine ah (hF _ _ H1) ?_;exact aq ⟨(), by rw [anU hc]; rfl, ae.to (by assumption)⟩
theorem zQ (s : Int) : Sp kA [vi s] emp (fun _ : Unit => fg (8, s, 0)) (fun _ => emp) := by
 refine bh (Fe _) fun R H h => ?_
 repeat (first | refine br ‹_› fun _ _ _ => ?_ | refine aR ‹_› ?_ | refine ej ‹_› rfl rfl fun _ _ => ?_ | refine je ?_)
 exact aq ⟨(), rfl, ae.to (by assumption)⟩
theorem u3 (s i : Int) : Sp jx [vi s, vi i] emp (fun _ : Unit => fg (10, s, i)) (fun _ => emp) := by
 refine bh (F8 _ _) fun R H h => ?_
 repeat (first | refine br ‹_› fun _ _ _ => ?_ | refine aR ‹_› ?_ | refine ej ‹_› rfl rfl fun _ _ => ?_ | refine je ?_)
 exact aq ⟨(), rfl, ae.to (by assumption)⟩
theorem eh (k a b : Int) : Sp cA [vi k, vi a, vi b] emp (fun _ : Unit => fg (k, a, b)) (fun _ => emp) := by
 refine bh (Qv _ _ _) fun R H h => ?_
 repeat (first | refine br ‹_› fun _ _ _ => ?_ | refine aR ‹_› ?_ | refine ej ‹_› rfl rfl fun _ _ => ?_ | refine je ?_)
 exact aq ⟨(), rfl, ae.to (by assumption)⟩
def tab (t m : Nat) (sh sl : Nat) : SP := blk t (.cells false [vp m, vi sh, vi sl])
section
variable (t m : Nat) (sh sl : Nat) (μ : Mu) (who s i : Int)
theorem zV : Sp dN [vp t] (tab t m sh sl) (fun _ : Unit => vi sl) (fun _ => tab t m sh sl) := by
 refine bh (sg _) fun R H h => ?_;unfold tab at h ⊢
 repeat refine ap ‹_› ac rfl ?_
 exact aq ⟨(), rfl, ae.to (by assumption)⟩
theorem u2 (hE : μ.N < 1099511627000) : Sp ee [vp t, vi who, vi s] (tab t m sh sl * bL m μ) (fun _ : Unit => vb (decide (μ.V (8, s, 0) = 0))) (fun _ => tab t m sh sl * bL m (μ.swp who (8, s, 0) 0 1)) := by
 refine bh (tq _ _ _) fun R H h => ?_;unfold tab at h ⊢
 repeat refine ap ‹_› ac rfl ?_
 refine af (by assumption) (zQ s) fun _ _ _ => ?_
 repeat refine aJ ‹_› ‹_› rfl ?_
 refine af (by assumption) (Qj m μ who (8, s, 0) 0 1 (by omega)) fun _ _ _ => ?_;exact aq ⟨(), rfl, ae.to (by assumption)⟩
theorem xq (hE : μ.N < 1099511627000) : Sp eR [vp t, vi who, vi s] (tab t m sh sl * bL m μ) (fun _ : Unit => .tuple #[]) (fun _ => tab t m sh sl * bL m ((μ.acc who 2 (8, s, 0)).put (8, s, 0) 0)) := by
 refine bh (qy _ _ _) fun R H h => ?_;unfold tab at h ⊢
 repeat refine ap ‹_› ac rfl ?_
 refine af (by assumption) (zQ s) fun _ _ _ => ?_
 repeat refine aJ ‹_› ‹_› rfl ?_
 refine af (by assumption) (BD m μ who (8, s, 0) 0 (by omega)) fun _ _ _ => ?_;exact aq ⟨(), rfl, ae.to (by assumption)⟩
theorem NN (hE : μ.N < 1099511627000) : Sp ir [vp t, vi who, vi s, vi i] (tab t m sh sl * bL m μ) (fun _ : Unit => .tuple #[]) (fun _ => tab t m sh sl * bL m ((μ.acc who 2 (10, s, i)).put (10, s, i) 0)) := by
 refine bh (se _ _ _ _) fun R H h => ?_;unfold tab at h ⊢
 repeat refine ap ‹_› ac rfl ?_
 refine af (by assumption) (u3 s i) fun _ _ _ => ?_
 repeat refine aJ ‹_› ‹_› rfl ?_
 refine af (by assumption) (BD m μ who (10, s, i) 0 (by omega)) fun _ _ _ => ?_;exact aq ⟨(), rfl, ae.to (by assumption)⟩
theorem Nd (hE : μ.N < 1099511627000) : Sp gY [vp t, vi who, vi s] (tab t m sh sl * bT m μ) (fun _ : Unit => vb (decide (μ.V (8, s, 0) = 0))) (fun _ => tab t m sh sl * bT m (μ.swp who (8, s, 0) 0 1)) := by
 refine bh (wN _ _ _) fun R H h => ?_;unfold tab at h ⊢
 repeat refine ap ‹_› ac rfl ?_
 refine af (by assumption) (eh 8 s 0) fun _ _ _ => ?_
 repeat refine aJ ‹_› ‹_› rfl ?_
 refine af (by assumption) (Ey m μ who (8, s, 0) 0 1 (by omega)) fun _ _ _ => ?_;exact aq ⟨(), rfl, ae.to (by assumption)⟩
theorem uL (hE : μ.N < 1099511627000) : Sp eb [vp t, vi who, vi s] (tab t m sh sl * bT m μ) (fun _ : Unit => .tuple #[]) (fun _ => tab t m sh sl * bT m ((μ.acc who 2 (8, s, 0)).put (8, s, 0) 0)) := by
 refine bh (tl _ _ _) fun R H h => ?_;unfold tab at h ⊢
 repeat refine ap ‹_› ac rfl ?_
 refine af (by assumption) (eh 8 s 0) fun _ _ _ => ?_
 repeat refine aJ ‹_› ‹_› rfl ?_
 refine af (by assumption) (s7 m μ who (8, s, 0) 0 (by omega)) fun _ _ _ => ?_;exact aq ⟨(), rfl, ae.to (by assumption)⟩
theorem Yn (hE : μ.N < 1099511627000) : Sp jw [vp t, vi who, vi s, vi i] (tab t m sh sl * bT m μ) (fun _ : Unit => .tuple #[]) (fun _ => tab t m sh sl * bT m ((μ.acc who 2 (10, s, i)).put (10, s, i) 0)) := by
 refine bh (uI _ _ _ _) fun R H h => ?_;unfold tab at h ⊢
 repeat refine ap ‹_› ac rfl ?_
 refine af (by assumption) (eh 10 s i) fun _ _ _ => ?_
 repeat refine aJ ‹_› ‹_› rfl ?_
 refine af (by assumption) (s7 m μ who (10, s, i) 0 (by omega)) fun _ _ _ => ?_;exact aq ⟨(), rfl, ae.to (by assumption)⟩
def ig (v : Nat) : Value := if v = 0 then .tuple #[vi 0, vi 0, vb false] else .tuple #[vi ((v / 4294967296 : Nat) - 1), vi (v % 4294967296 : Nat), vb true]
theorem zS (hE : μ.N < 1099511627000) (hV : μ.V (10, s, i) < 18446744073709551616) :
 Sp fY [vp t, vi who, vi s, vi i] (tab t m sh sl * bL m μ) (fun _ : Unit => ig (μ.V (10, s, i))) (fun _ => tab t m sh sl * bL m (μ.acc who 1 (10, s, i))) := by
 refine bh (tr _ _ _ _) fun R H h => ?_;unfold tab at h ⊢
 repeat refine ap ‹_› ac rfl ?_
 refine af (by assumption) (u3 s i) fun _ _ _ => ?_
 repeat refine aJ ‹_› ‹_› rfl ?_
 refine af (by assumption) (El m μ who (10, s, i) (by omega)) fun _ _ _ => ?_;refine aa (amV (b := 0)) ?_;refine cn (fun hc => ?_) (fun hc => ?_)
 ·have hc : μ.V (10, s, i) = 0 := by simpa using hc
  refine aq ⟨(), by rw [ig, if_pos hc], ae.to (by assumption)⟩
 ·have hc : ¬ μ.V (10, s, i) = 0 := by simpa using hc
  refine aa (aq5) ?_;refine aa (iE (by omega)) ?_;refine aa (bF (by omega) (by omega)) ?_;refine aa (aqH hV) ?_;refine aa (iE (by omega)) ?_;refine aq ⟨(), by rw [ig, if_neg hc], ae.to (by assumption)⟩
theorem G9 (hE : μ.N < 1099511627000) (hV : μ.V (10, s, i) < 18446744073709551616) :
 Sp j8 [vp t, vi who, vi s, vi i] (tab t m sh sl * bT m μ) (fun _ : Unit => ig (μ.V (10, s, i))) (fun _ => tab t m sh sl * bT m (μ.acc who 1 (10, s, i))) := by
 refine bh (wO _ _ _ _) fun R H h => ?_;unfold tab at h ⊢
 repeat refine ap ‹_› ac rfl ?_
 refine af (by assumption) (eh 10 s i) fun _ _ _ => ?_
 repeat refine aJ ‹_› ‹_› rfl ?_
 refine af (by assumption) (rX m μ who (10, s, i) (by omega)) fun _ _ _ => ?_;refine aa (amV (b := 0)) ?_;refine cn (fun hc => ?_) (fun hc => ?_)
 ·have hc : μ.V (10, s, i) = 0 := by simpa using hc
  refine aq ⟨(), by rw [ig, if_pos hc], ae.to (by assumption)⟩
 ·have hc : ¬ μ.V (10, s, i) = 0 := by simpa using hc
  refine aa (aqY hV) ?_;refine aa (iE (by omega)) ?_;refine aa (bF (by omega) (by omega)) ?_;refine aa (aq0) ?_;refine aa (iE (by omega)) ?_;refine aq ⟨(), by rw [ig, if_neg hc], ae.to (by assumption)⟩
end
def io (v n : Int) : Int := (v % 18446744073709551616) % n
theorem iG {v n : Int} (h : 0 < n) : 0 ≤ io v n ∧ io v n < n := ⟨Int.emod_nonneg _ (by omega), Int.emod_lt_of_pos _ h⟩
theorem ef (v n : Int) (h0 : 0 < n) (h1 : n < 9223372036854775808) : Sp bU [vi v, vi n] emp (fun _ : Unit => vi (io v n)) (fun _ => emp) := by
 refine bh (M5 _ _) fun R H h => ?_
 have e1 : cg (some .u64) (vi v) = some (vu (v % 18446744073709551616).toNat) := by
  simp only [cg];rw [Fv];have : 0 ≤ v % 18446744073709551616 := Int.emod_nonneg _ (by omega);show _ = some (Value.int .u64 (((v % 18446744073709551616).toNat : Nat) : Int));rw [Int.toNat_of_nonneg this]
 refine aa (e1) ?_;refine aa (dQ (by omega) (by omega)) ?_;refine aa (jU (by omega)) ?_;have hm := iG (v := v) h0
 have e2 : (((v % 18446744073709551616).toNat % n.toNat : Nat) : Int) = io v n := by
  have : 0 ≤ v % 18446744073709551616 := Int.emod_nonneg _ (by omega);unfold io;rw [Int.natCast_emod, Int.toNat_of_nonneg this, Int.toNat_of_nonneg (by omega)]
 refine aa (iE (by omega)) ?_;rw [e2];exact aq ⟨(), rfl, ae.to (by assumption)⟩
structure i6 where
 sh : Int
 sl : Int
 wk : Int
 wd : Int
 un : Nat
abbrev i6.cells (c : i6) : List Value := [vi c.sh, vi c.sl, vi c.wk, vi c.wd, vu c.un]
structure Cl where
 op : Int
 flow : Int
 a : Int
 b : Int
abbrev Cl.cells (x : Cl) : List Value := [vi x.op, vi x.flow, vi x.a, vi x.b]
instance : Enc Cl.cells 4 := ⟨fun _ => rfl, fun _ => rfl, by omega⟩
structure Sv where
 a : Option Addr
 n : Nat
 c : Nat
abbrev Sv.v (s : Sv) : Value := .slice s.a s.n s.c
abbrev arQ (s : Sv) : List Value := [.slice s.a s.n s.c]
instance : Enc arQ 1 := ⟨fun _ => rfl, fun _ => rfl, by omega⟩
def cI (c : i6) : Bool := decide (1 ≤ c.sh ∧ c.sh ≤ 4 ∧ 1 ≤ c.sl ∧ c.sl ≤ 4 ∧ 1 ≤ c.wk ∧ c.wk ≤ 6 ∧ 0 ≤ c.wd ∧ c.wd ≤ 40 ∧ 1 ≤ c.un ∧ c.un ≤ 4611686018427387904)
theorem bD {c : i6} : cI c = true ↔ (1 ≤ c.sh ∧ c.sh ≤ 4 ∧ 1 ≤ c.sl ∧ c.sl ≤ 4 ∧ 1 ≤ c.wk ∧ c.wk ≤ 6 ∧ 0 ≤ c.wd ∧ c.wd ≤ 40 ∧ 1 ≤ c.un ∧ c.un ≤ 4611686018427387904) := by unfold cI; exact decide_eq_true_iff
theorem me {c : i6} (h : ¬ (1 ≤ c.sh ∧ c.sh ≤ 4 ∧ 1 ≤ c.sl ∧ c.sl ≤ 4 ∧ 1 ≤ c.wk ∧ c.wk ≤ 6 ∧ 0 ≤ c.wd ∧ c.wd ≤ 40 ∧ 1 ≤ c.un ∧ c.un ≤ 4611686018427387904)) : cI c = false := by unfold cI; exact d6 h
theorem gT (x a b : Int) : Sp fD [vi x, vi a, vi b] emp (fun _ : Unit => vb (decide (a ≤ x ∧ x ≤ b))) (fun _ => emp) := by
 refine bh (Ay _ _ _) fun R H h => ?_
 by_cases h1 : a ≤ x
 ·refine aa (zm h1) ?_
  refine gs ?_
  by_cases h2 : x ≤ b
  ·refine aa (ML h2) ?_
   refine gs ?_;rw [d4 ⟨h1, h2⟩];exact aq ⟨(), rfl, ae.to (by assumption)⟩
  ·refine aa (MK h2) ?_
   refine gs ?_;rw [d6 (fun h => h2 h.2)];exact aq ⟨(), rfl, ae.to (by assumption)⟩
 ·refine aa (q9 h1) ?_
  refine gs ?_;rw [d6 (fun h => h1 h.1)];exact aq ⟨(), rfl, ae.to (by assumption)⟩
theorem MS (c : i6) : Sp nV [.agg (i6.cells c).toArray] emp (fun _ : Unit => vb (cI c)) (fun _ => emp) := by
 refine bh (Eh _) fun R H h => ?_;refine aX h fun b H1 h1 => ?_;refine ap h1 aE rfl ?_;refine af h1 (gT c.sh 1 4) fun _ K0 k0 => ?_
 by_cases g0 : (1 : Int) ≤ c.sh ∧ c.sh ≤ 4
 case neg =>
  rw [d6 g0];refine gs ?_;rw [me (by omega)];exact aq ⟨(), rfl, ae.to (by assumption)⟩
 rw [d4 g0];refine gs ?_;refine ap k0 aE rfl ?_;refine gs ?_;refine af k0 (gT c.sl 1 4) fun _ K1 k1 => ?_
 by_cases g1 : (1 : Int) ≤ c.sl ∧ c.sl ≤ 4
 case neg =>
  rw [d6 g1];refine gs ?_;rw [me (by omega)];exact aq ⟨(), rfl, ae.to (by assumption)⟩
 rw [d4 g1];refine gs ?_;refine ap k1 aE rfl ?_;refine gs ?_;refine af k1 (gT c.wk 1 6) fun _ K2 k2 => ?_
 by_cases g2 : (1 : Int) ≤ c.wk ∧ c.wk ≤ 6
 case neg =>
  rw [d6 g2];refine gs ?_;rw [me (by omega)];exact aq ⟨(), rfl, ae.to (by assumption)⟩
 rw [d4 g2];refine gs ?_;refine ap k2 aE rfl ?_;refine gs ?_;refine af k2 (gT c.wd 0 40) fun _ K3 k3 => ?_
 by_cases g3 : (0 : Int) ≤ c.wd ∧ c.wd ≤ 40
 case neg =>
  rw [d6 g3];refine gs ?_;rw [me (by omega)];exact aq ⟨(), rfl, ae.to (by assumption)⟩
 rw [d4 g3];refine gs ?_;refine ap k3 aE rfl ?_;refine gs ?_
 by_cases g4 : (1 : Int) ≤ c.un
 case neg =>
  refine aa (q9 g4) ?_;refine gs ?_;rw [me (by omega)];exact aq ⟨(), rfl, ae.to (by assumption)⟩
 refine aa (zm g4) ?_;refine gs ?_;refine ap k3 aE rfl ?_;refine gs ?_
 by_cases g5 : (c.un : Int) ≤ 4611686018427387904
 case neg =>
  refine aa (MK g5) ?_;refine gs ?_;rw [me (by omega)];exact aq ⟨(), rfl, ae.to (by assumption)⟩
 refine aa (ML g5) ?_;refine gs ?_;rw [bD.2 (by omega)];exact aq ⟨(), rfl, ae.to (by assumption)⟩
theorem Fu (w : Int) : Sp pI [vi w] emp (fun x : Int => vi x) (fun _ => emp) := by
 refine bh (F9 _) fun R H h => ?_;refine aa (lu) ?_;refine aa (lw) ?_;exact aq ⟨_, rfl, h⟩
theorem ZA (w : Int) : Sp rI [vi w] emp (fun b : Nat => vp b) (fun _ => emp) := by
 refine bh (KQ _) fun R H h => ?_;refine af h (Fu w) fun x H1 h1 => ?_;refine xv h1 fun mb H2 h2 => ?_;refine NX rfl ?_;refine aX h2 fun b H3 h3 => ?_;exact aq ⟨b, rfl, h3.to⟩
theorem aeW : Sp uo [] emp (fun b : Nat => vp b) (fun _ => emp) := by
 refine bh MB fun R H h => ?_;refine xv h fun mb H2 h2 => ?_;refine je ?_;refine aX h2 fun b H3 h3 => ?_;exact aq ⟨b, rfl, h3.to⟩
theorem Zd (w : Int) : Sp rG [vi w] emp (fun b : Nat => vp b) (fun _ => emp) := by
 refine bh (KG _) fun R H h => ?_;refine af h (ZA w) fun x H1 h1 => ?_;refine af h1 aeW fun y H2 h2 => ?_;refine je ?_;refine aX h2 fun b H3 h3 => ?_;exact aq ⟨b, rfl, h3.to⟩
theorem af7 (m : Nat) (s : Int) : Sp us [vp m, vi s] emp (fun b : Nat => vp b) (fun _ => emp) := by
 refine bh (M9 _ _) fun R H h => ?_;refine aa (lu) ?_;refine aa (lw) ?_;refine xv h fun mb H2 h2 => ?_;refine xv h2 fun mc H3 h3 => ?_;refine je ?_;refine aX h3 fun b H4 h4 => ?_;exact aq ⟨b, rfl, h4.to⟩
structure Lf where
 k : Int
 i : Int
 b : Bool
abbrev Lf.cells (x : Lf) : List Value := [vw x.k, vi x.i, vb x.b]
instance : Enc Lf.cells 3 := ⟨fun _ => rfl, fun _ => rfl, by omega⟩
def Fg (t : Nat) (lv : Value) (s : Nat) (nv : Value) (m : List Int) : SP := blk t (.cells false [lv, vi s, nv]) * ts 1 lH nv m
theorem aiA (n : Int) : Sp uv [vi n] emp (fun b : Nat => vp b) (fun _ => emp) := by
 refine bh (NQ _) fun R H h => ?_;refine aa (lu) ?_;refine aa (lw) ?_;obtain ⟨k, hk⟩ : ∃ k : Nat, min (max n 1) 16 = k := ⟨(min (max n 1) 16).toNat, by omega⟩;rw [hk]
 have hk1 : 1 ≤ k := by omega
 have hk16 : k ≤ 16 := by omega
 refine RG (enc := Lf.cells) (⟨0, 0, false⟩ : Lf) h rfl (by unfold dr; omega) (by omega) fun lb H1 h1 => ?_;refine je ?_;refine aX h1 fun t H2 h2 => ?_;refine ah (Fh _ _ _ H2) ?_
 -- the nodes
 have nodes : ∀ (s : Nat) (H : AH), s ≤ 32 → ae (Fg t (vs lb k 3) s (.slice none 0 0) [] * R) H → wp (sn (.pointer none) (vp t) H) fun v' H' => ∃ b : Nat, v' = vp b ∧ ae (emp * R) H' := by
  intro s H hs h;refine ah (Fi _ _ H) ?_;unfold Fg at h;refine ap h ac rfl ?_;refine aa (oh (by omega) (by omega)) ?_;refine ah (Fk _ _ _ _ H) ?_
  have loop : ∀ (d i : Nat) (nv : Value) (m : List Int) (H : AH), i + d = 2 * s → m.length = i → ae (blk t (.cells false [vs lb k 3, vi s, nv]) * ts 1 lH nv m * R) H → wp (nJ (.pointer none) (vp t) (vi (2 * (s : Int))) (vi i) H) fun v' H' => ∃ b : Nat, v' = vp b ∧ ae (emp * R) H' := by
   intro d
   induction d with
   | zero =>
    intro i nv m H hi hm h;refine ah (so _ _ _ _ H) ?_;refine aa (bW (by omega)) ?_;refine gs ?_;refine ah (y7 _ _ H) ?_;refine ah (Fj _ _ H) ?_;exact aq ⟨t, rfl, h.to⟩
   | succ d ih =>
    intro i nv m H hi hm h;refine ah (so _ _ _ _ H) ?_;refine aa (cz (by omega)) ?_;refine gs ?_;refine ah (Fl _ _ _ _ H) ?_;refine ap h ac rfl ?_;refine RF h fun b0 H3 h3 => ?_;refine i1 (-1 : Int) h3 rfl ?_ (by omega) fun a c H4 h4 => ?_
    ·unfold dr; omega
    refine bj h4 ac rfl rfl fun H5 h5 => ?_;refine ah (Fm _ _ _ _ H5) ?_;refine aa (aH (by omega) (by omega)) ?_;refine ih (i + 1) (.slice a (m.length + 1) c) (m ++ [-1]) H5 (by omega) (by simp; omega) h5.to
  exact loop (2 * s) 0 (.slice none 0 0) [] H (by omega) rfl h
 -- the size
 have size : ∀ (d s : Nat) (H : AH), 16 ≤ s + d → 1 ≤ s → s ≤ 32 → ae (Fg t (vs lb k 3) s (.slice none 0 0) [] * R) H → wp (lQ (vi k) (.pointer none) (vp t) H) fun v' H' => ∃ b : Nat, v' = vp b ∧ ae (emp * R) H' := by
  intro d
  induction d with
  | zero =>
   intro s H hd hs1 hs h;refine ah (qp _ _ _ H) ?_;have h' := h;unfold Fg at h';refine ap h' ac rfl ?_;refine aa (bW (by omega)) ?_;refine gs ?_;refine ah (nI _ _ H) ?_;exact nodes s H hs h
  | succ d ih =>
   intro s H hd hs1 hs h;refine ah (qp _ _ _ H) ?_;have h' := h;unfold Fg at h';refine ap h' ac rfl ?_
   by_cases hlt : (s : Int) < k
   ·refine aa (cz hlt) ?_
    refine gs ?_;refine ah (Ba _ _ _ H) ?_;refine ap h' ac rfl ?_;refine aa (oh (by omega) (by omega)) ?_;refine bj h' ac rfl rfl fun H3 h3 => ?_;refine ih (s * 2) H3 (by omega) (by omega) (by omega) ?_;unfold Fg;rw [show (((s * 2 : Nat) : Int)) = (s : Int) * 2 from by omega];exact h3.to
   ·refine aa (bW hlt) ?_
    refine gs ?_;refine ah (nI _ _ H) ?_;exact nodes s H hs h
 refine size 16 1 H2 (by omega) (by omega) (by omega) ?_;unfold Fg;have h3 := f6 1 lH h2;exact h3.to
abbrev pX (b : Nat) : List Value := [vp b]
instance : Enc pX 1 := ⟨fun _ => rfl, fun _ => rfl, by omega⟩
theorem Yl (n w : Int) : Sp rE [vi n, vi w] emp (fun b : Nat => vp b) (fun _ => emp) := by
 refine bh (J0 _ _) fun R H h => ?_;refine aa (lu) ?_;refine aa (lw) ?_;obtain ⟨k, hk⟩ : ∃ k : Nat, min (max n 1) 16 = k := ⟨(min (max n 1) 16).toNat, by omega⟩;rw [hk]
 have hk16 : k ≤ 16 := by omega
 refine af h (aiA k) fun tb H1 h1 => ?_;refine je ?_;refine aX h1 fun q H2 h2 => ?_;refine ah (AG _ _ _ _ H2) ?_;refine ah (AJ _ _ _ _ _ H2) ?_
 have loop : ∀ (d i : Nat) (nv : Value) (m : List Nat) (H : AH), i + d = k → m.length = i → ae (blk q (.cells false [nv, vp tb]) * ts 1 pX nv m * R) H → wp (lN (vi w) (.pointer none) (vp q) (vi k) (vi i) H) fun v' H' => ∃ b : Nat, v' = vp b ∧ ae (emp * R) H' := by
  intro d
  induction d with
  | zero =>
   intro i nv m H hi hm h;refine ah (qd _ _ _ _ _ H) ?_;refine aa (bW (by omega)) ?_;refine gs ?_;refine ah (wE _ _ H) ?_;refine ah (AI _ _ H) ?_;exact aq ⟨q, rfl, h.to⟩
  | succ d ih =>
   intro i nv m H hi hm h;refine ah (qd _ _ _ _ _ H) ?_;refine aa (cz (by omega)) ?_;refine gs ?_;refine ah (AK _ _ _ _ _ H) ?_;refine bE ac ?_;refine aQ h rfl ?_;refine af h (Zd w) fun sb H3 h3 => ?_;refine aJ h3 h rfl ?_;refine RF h3 fun b0 H4 h4 => ?_;refine i1 (sb : Nat) h4 rfl ?_ (by omega) fun a c H5 h5 => ?_
   ·unfold dr; omega
   refine bj h5 ac rfl rfl fun H6 h6 => ?_;refine ah (AL _ _ _ _ _ H6) ?_;refine aa (aH (by omega) (by omega)) ?_;exact ih (i + 1) (.slice a (m.length + 1) c) (m ++ [sb]) H6 (by omega) (by simp; omega) h6.to
 refine loop k 0 (.slice none 0 0) [] H2 (by omega) rfl ?_;have h3 := f6 1 pX h2;exact h3.to
theorem aaS (c : i6) : Sp ul [.agg (i6.cells c).toArray] emp (fun b : Nat => vp b) (fun _ => emp) := by
 refine bh (Lw _) fun R H h => ?_;refine aX h fun cb H1 h1 => ?_;refine ap h1 aE rfl ?_;refine ap h1 aE rfl ?_;refine af h1 (Yl c.sh c.wd) fun q H2 h2 => ?_;refine xv h2 fun mb H3 h3 => ?_;refine xv h3 fun mc H4 h4 => ?_;refine je ?_;refine aX h4 fun b H5 h5 => ?_;exact aq ⟨b, rfl, h5.to⟩
theorem QR {cl : TCls} {w : Nat} (n : Nat) (h : n ≠ 0) : ai cl .rem (vu w) (.int .u64 (n : Int)) = some (vu (w % n)) := jU h
theorem Cn (b b2 : Nat) (c : i6) (u : Nat) (hu : 1 ≤ u ∧ u ≤ 4611686018427387904) {R : SP} {H : AH} (h : ae (blk b2 (.cells false [vi 0, vi 0, vi 0, vi 0, vw 0]) * (blk b (.cells false (i6.cells c)) * R)) H) :
 wp (jD (vp b) (vp b2) (vu u) H) fun v' H' => ∃ c' : i6, v' = .agg (i6.cells c').toArray ∧ ae (pu (cI c' = true) * R) H' := by
 refine ah (wD _ _ _ H) ?_;refine ap h aE rfl ?_;refine af h (ef c.sh 4 (by omega) (by omega)) fun _ H1 h1 => ?_;have m1 := iG (v := c.sh) (n := 4) (by omega);refine aa (aH (by omega) (by omega)) ?_;refine bE aE ?_;refine aQ h1 rfl ?_;refine aJ h h1 rfl ?_;refine af h1 (ef c.sl 4 (by omega) (by omega)) fun _ H2 h2 => ?_;have m2 := iG (v := c.sl) (n := 4) (by omega);refine aa (aH (by omega) (by omega)) ?_;refine bE aE ?_;refine aQ h2 rfl ?_;refine aJ h h2 rfl ?_;refine aJ h1 h2 rfl ?_;refine af h2 (ef c.wk 6 (by omega) (by omega)) fun _ H3 h3 => ?_;have m3 := iG (v := c.wk) (n := 6) (by omega);refine aa (aH (by omega) (by omega)) ?_;refine bE aE ?_;refine aQ h3 rfl ?_;refine aJ h h3 rfl ?_;refine aJ h1 h3 rfl ?_;refine aJ h2 h3 rfl ?_;refine af h3 (ef c.wd 12 (by omega) (by omega)) fun _ H4 h4 => ?_;have m4 := iG (v := c.wd) (n := 12) (by omega);refine je ?_;refine ej h4 rfl rfl fun H5 h5 => ?_;refine aR h5 ?_;refine aq ⟨⟨1 + io c.sh 4, 1 + io c.sl 4, 1 + io c.wk 6, io c.wd 12, u⟩, rfl, ?_⟩;exact ae.pu.2 ⟨bD.2 (by dsimp only; omega), h5.to⟩
theorem M6 (c : i6) : Sp nW [.agg (i6.cells c).toArray] emp (fun c' : i6 => .agg (i6.cells c').toArray) (fun c' => pu (cI c' = true)) := by
 refine aK fun R H h => ?_;rw [lG] at h;refine bm (fun r => En _ H) ?_;refine aX h fun b H1 h1 => ?_;refine br h1 fun b2 H2 h2 => ?_;refine ap h2 aE rfl ?_;refine aa (QR 5000 (by omega)) ?_;refine aa (gi (a := 1) (by omega)) ?_;refine ah (wC _ _ _ H2) ?_;refine ap h2 aE rfl ?_;refine aa (QR 4 (by omega)) ?_;refine aa (fq) ?_;refine cn (fun _ => ?_) (fun _ => ?_)
 ·refine ap h2 aE rfl ?_
  refine aa (QR 4611686018427387904 (by omega)) ?_;have hm := Nat.mod_lt c.un (show 4611686018427387904 > 0 by omega)
  generalize c.un % 4611686018427387904 = u at hm
  refine aa (gi (a := 1) (by omega)) ?_;exact Cn b b2 c _ (by omega) h2
 ·have hm := Nat.mod_lt c.un (show 5000 > 0 by omega)
  exact Cn b b2 c _ (by omega) h2
section
variable {R : SP} {H : AH}
theorem aaN {b2 b3 : Nat} {y y2 : Cl} {P : SP} (h : ae (blk b3 (.cells false (Cl.cells y)) * (blk b2 (.cells false (Cl.cells y2)) * P)) H) : wp (dw (vp b2) (vp b3) H) fun v' H' => ∃ y : Cl, v' = .agg (Cl.cells y).toArray ∧ ae P H' := by
 refine ah (AB _ _ H) ?_;refine aR h ?_;refine ej h rfl rfl fun H2 h2 => ?_;refine aR h2 ?_;exact aq ⟨y, rfl, h2.to⟩
end
theorem Yj (x : Cl) : Sp rD [.agg (Cl.cells x).toArray] emp (fun y : Cl => .agg (Cl.cells y).toArray) (fun _ => emp) := by
 refine aK fun R H h => ?_;rw [lG] at h;refine bm (fun r => JZ _ H) ?_;refine aX h fun b1 H1 h1 => ?_;refine br h1 fun b2 H2 h2 => ?_;refine ap h2 aE rfl ?_;refine af h2 (ef x.flow 23 (by omega) (by omega)) fun _ H3 h3 => ?_;simp only [lG];refine aa (fq) ?_;refine cn (fun _ => ?_) (fun _ => ?_)
 ·refine aR h3 ?_
  refine ej h3 rfl rfl fun H4 h4 => ?_;refine aR h4 ?_;exact aq ⟨x, rfl, h4.to⟩
 refine ap h3 aE rfl ?_;refine af h3 (ef x.flow 5 (by omega) (by omega)) fun _ H4 h4 => ?_;refine je ?_;refine br h4 fun b3 H5 h5 => ?_;refine ej h5 rfl rfl fun H6 h6 => ?_
 -- what each kind ends with
 have fin : ∀ (y : Cl) {H7 : AH}, ae (blk b3 (.cells false (Cl.cells y)) * (blk b2 (.cells false (Cl.cells ⟨0, 0, 0, 0⟩)) * R)) H7 → wp (dw (vp b2) (vp b3) H7) fun v' H' => ∃ y : Cl, v' = .agg (Cl.cells y).toArray ∧ ae R H' := fun y {H7} h7 => aaN (y2 := ⟨0, 0, 0, 0⟩) h7;refine ah (AA _ _ _ H6) ?_;refine ap h6 aE rfl ?_;refine af h6 (ef x.op 10 (by omega) (by omega)) fun _ H7 h7 => ?_
 generalize io x.op 10 = o
 refine ah (AC _ _ _ _ H7) ?_;refine aa (fq) ?_;refine ah (AF _ _ _ _ _ H7) ?_;refine cn (fun _ => ?_) (fun _ => ?_)
 ·refine ap h7 aE rfl ?_
  refine af h7 (ef x.a 5 (by omega) (by omega)) fun _ H8 h8 => ?_;have m1 := iG (v := x.a) (n := 5) (by omega);refine aa (aH (by omega) (by omega)) ?_;refine bE aE ?_;refine aQ h8 rfl ?_;refine aJ h7 h8 rfl ?_;refine af h8 (ef x.b 3 (by omega) (by omega)) fun _ H9 h9 => ?_;have m2 := iG (v := x.b) (n := 3) (by omega);refine aa (aH (by omega) (by omega)) ?_;refine bj h9 aE rfl rfl fun H10 h10 => ?_;refine bj h10 aE rfl rfl fun H11 h11 => ?_;refine bj h11 aE rfl rfl fun H12 h12 => ?_;exact fin ⟨1, io x.flow 5, 1 + io x.a 5, 1 + io x.b 3⟩ h12.to
 refine aa (fq) ?_;refine ah (yx _ _ _ _ _ H7) ?_;refine cn (fun _ => ?_) (fun _ => ?_)
 ·refine bj h7 aE rfl rfl fun H8 h8 => ?_
  exact fin ⟨2, io x.flow 5, 0, 0⟩ h8.to
 have tail : ∀ q : Bool, wp (kB (vp b1) (vp b2) (vp b3) (vi o) (vb q) H7) fun v' H' => ∃ y : Cl, v' = .agg (Cl.cells y).toArray ∧ ae R H' := by
  intro q;refine ah (yy _ _ _ _ _ H7) ?_;refine cn (fun _ => ?_) (fun _ => ?_)
  ·refine je ?_
   refine ej h7 rfl rfl fun H8 h8 => ?_;exact fin ⟨4, 0, 0, 0⟩ h8.to
  refine aa (fq) ?_;refine cn (fun _ => ?_) (fun _ => ?_)
  ·refine ap h7 aE rfl ?_
   refine af h7 (ef x.a 6 (by omega) (by omega)) fun _ H8 h8 => ?_;refine je ?_;refine ej h8 rfl rfl fun H9 h9 => ?_;exact fin ⟨5, 0, io x.a 6, 0⟩ h9.to
  refine aa (fq) ?_;refine cn (fun _ => ?_) (fun _ => ?_)
  ·refine je ?_
   refine ej h7 rfl rfl fun H8 h8 => ?_;exact fin ⟨6, 0, 0, 0⟩ h8.to
  refine ap h7 aE rfl ?_;refine af h7 (ef x.a 9 (by omega) (by omega)) fun _ H8 h8 => ?_;have m1 := iG (v := x.a) (n := 9) (by omega);refine aa (aH (by omega) (by omega)) ?_;refine bE aE ?_;refine aQ h8 rfl ?_;refine aJ h7 h8 rfl ?_;refine af h8 (ef x.b 1000 (by omega) (by omega)) fun _ H9 h9 => ?_;refine bj h9 aE rfl rfl fun H10 h10 => ?_;refine bj h10 aE rfl rfl fun H11 h11 => ?_;refine bj h11 aE rfl rfl fun H12 h12 => ?_;refine ap h12 aE rfl ?_;refine af h12 (ef x.a 13 (by omega) (by omega)) fun _ H13 h13 => ?_;refine aa (fq) ?_;refine cn (fun _ => ?_) (fun _ => ?_)
  ·refine ap h13 aE rfl ?_
   refine af h13 (ef x.a 65536 (by omega) (by omega)) fun _ H14 h14 => ?_;have m2 := iG (v := x.a) (n := 65536) (by omega);refine aa (aH (by omega) (by omega)) ?_;refine bj h14 aE rfl rfl fun H15 h15 => ?_;exact fin ⟨3, io x.flow 5, 1 + io x.a 65536, io x.b 1000⟩ h15.to
  ·exact fin ⟨3, io x.flow 5, 1 + io x.a 9, io x.b 1000⟩ h13.to
 refine aa (fq) ?_;refine cn (fun _ => tail _) (fun _ => ?_);refine aa (fq) ?_;exact tail _
end Go.Proofs.YtflbeghglllknaaGreatDoor.Gst
