/- Several texts in one. -/
import Derived.Test.YtflbeghglllknaaGreatDoorHb
namespace Go.Proofs.YtflbeghglllknaaGreatDoor.Gst
open Go Go.RowKit
set_option maxRecDepth 100000
set_option linter.unusedVariables false
set_option maxHeartbeats 1000000
set_option linter.unusedSimpArgs false
set_option synthInstance.maxSize 2000
set_option synthInstance.maxHeartbeats 400000
section
variable (B E C D K L J M G I : Value) (H : AH)
theorem uG {r : Value × AH} (h : (
 ad [.n, .f 0] B fun c =>
 (ar c H).bind fun k =>
 (FF cr [(vi 14), C, (vi 0)] H).bind fun d =>
 bZ (ar c d.2) (ar c H) <|
 (FF cm [k, E, (vi 6), d.1] d.2).bind fun l =>
 (FF lT [B, C] l.2).bind fun a =>
 (aq .other .lss a.1 (vi 0)).bind fun m =>
 ax m
 (ld [.n, .f 2] B a.2 fun o =>
 E5 1 1 [(vi 0)] [(0, C)] a.2 fun p g =>
 (f3 1 8 o p g).bind fun b =>
 ad [.n, .f 3] B fun e =>
 (ar e b.2).bind fun q =>
 bZ (ar e g) (ar e b.2) <|
 E5 1 1 [(vw 0)] [(0, D)] b.2 fun s t =>
 (f3 1 8 q s t).bind fun j =>
 st 1 [.n, .f 2] B b.1 j.2 fun w =>
 st 1 [.n, .f 3] B j.1 w fun y =>
 some (Value.tuple #[], y))
 (ld [.n, .f 3] B a.2 fun z =>
 st 1 [.i 1 a.1] z D a.2 fun A =>
 some (Value.tuple #[], A))) = some r) : FF jJ [B, E, C, D] H = some r :=
 fo Tryz.func153 (by kernel_rfl) h
theorem uH {r : Value × AH} (h : (
 ad [.n, .f 0] B fun a =>
 (ar a H).bind fun d =>
 (FF cr [(vi 9), C, (vi 0)] H).bind fun b =>
 bZ (ar a b.2) (ar a H) <|
 (cH (some .u64) K).bind fun e =>
 (aq .other .add e (vw 1)).bind fun g =>
 (FF gv [d, E, b.1, D, g] b.2).bind fun c =>
 some (c.1, c.2)) = some r) : FF jK [B, E, C, D, K] H = some r :=
 fo Tryz.func154 (by kernel_rfl) h
theorem sV {r : Value × AH} (h : (
 ad [.n, .f 0] B fun a =>
 (ar a H).bind fun c =>
 (FF cr [(vi 10), C, D] H).bind fun b =>
 bZ (ar a b.2) (ar a H) <|
 (FF eb [c, E, b.1, (vw 0)] b.2).bind fun d =>
 some (Value.tuple #[], d.2)) = some r) : FF ja [B, E, C, D] H = some r :=
 fo Tryz.func155 (by kernel_rfl) h
noncomputable def pF (p : List Nat) : Code := Code.sub (ce Tryz.f156) p
noncomputable def mT : KK := fE PP (Tryz.f156).results.toList
noncomputable def LX : KK := CQ (pF [1, 1]) mT ca mT
noncomputable def t4 : OV := LX (ls [B, E, C, u, u, u, J] 23) H
noncomputable def Eh : KK := CQ (pF [1, 1, 1]) mT ca mT
noncomputable def LW : KK := jv 1073741759 Eh
noncomputable def t6 : OV := Eh (ls [u, u, u, u, u, u, J] 23) H
noncomputable def LY : KK := CQ (pF [1, 1, 0, 1]) LW ca mT
noncomputable def t7 : OV := LY (ls [B, E, C, u, u, u, J, M] 22) H
noncomputable def Ej : KX := BX 0 LW ca
noncomputable def L0 : KX := FV 1073741759 Ej
noncomputable def Ei : KK := NF (pF [1, 1, 0, 1, 4, 5]) L0 mT
noncomputable def Wr : KK := jv 1073741624 Ei
noncomputable def t8 : OV := Ei (ls [B, E, C, u, u, u, J, M] 22) H
noncomputable def LZ : KK := CQ (pF [1, 1, 0, 1, 4, 5, 1]) Wr L0 mT
noncomputable def EN : OV := LZ (ls [B, E, C, u, u, u, J, M] 22) H
noncomputable def pL : OV := Ej 0 (ls [u, u, u, u, u, u, J] 23) H
theorem lM : az 1073741759 mT := rf
theorem OP : az 1073741752 LX := rc lM aH lM
theorem vJ : az 1073741759 Eh := rc lM aH lM
theorem OQ : az 1073741624 LY := rc (cd vJ) aH lM
theorem vL : ∀ i, az 1073741759 (Ej i) := rb (cd vJ) aH
theorem vK : az 1073741624 Ei := rl (cx vL) lM
theorem OR : az 1073741624 LZ := rc (cd vK) (cx vL) lM
theorem xx : t6 J H =
 some ((vb true), H) :=
 (by kernel_rfl)
theorem t3 : pL J H = t6 J H :=
 (by kernel_rfl)
theorem xz : t8 B E C J M H =
 mh B fun a =>
 (aq .other .lss M a).bind fun b =>
 ax b
 (EN B E C J M H)
 (pL J H) :=
 PJ rfl vK (pt rfl 0 OR (by kernel_rfl))
theorem xy : t7 B E C J M H =
 t8 B E C J M H :=
 (bt rfl (pF [1, 1, 0, 1, 4]) 0 vL (li rfl (pF [1, 1, 0, 1, 4, 5]) vK (by kernel_rfl)))
theorem xw : t4 B E C J H =
 t7 B E C J (vi 0) H :=
 (pt rfl 0 vJ (pt rfl 0 OQ (by kernel_rfl)))
noncomputable def PD : OV := bn PP GG FF (pF []) (ls [B, E, C] 27) H mT ca mT
theorem EO {r : Value × AH} (h : (
 mh B fun a =>
 mh E fun b =>
 (aq .other .neq a b).bind fun c =>
 ax c
 (some ((vb false), H))
 (t4 B E C (vb false) H)) = some r) : FF pS [B, E, C] H = some r :=
 fo (t := PD B E C H) Tryz.func156 (by kernel_rfl) (Eq.trans (pt rfl 1 OP (by kernel_rfl)) h)
noncomputable def gZ (p : List Nat) : Code := Code.sub (ce Tryz.f161) p
noncomputable def iB : KK := fE PP (Tryz.f161).results.toList
noncomputable def L4 : KK := CQ (gZ [1, 1, 1]) iB ca iB
noncomputable def xi : OV := L4 (ls [B, u, C, D] 38) H
noncomputable def El : KK := CQ (gZ [1, 1, 1, 1]) iB ca iB
noncomputable def Ws : KK := jv wM El
noncomputable def qx : OV := El (ls [u, u, C, D] 38) H
noncomputable def Em : KK := CQ (gZ [1, 1, 1, 1, 1]) iB ca iB
noncomputable def L1 : KK := jv wM Em
noncomputable def xj : OV := Em (ls [u, u, C, D] 38) H
noncomputable def L5 : KK := CQ (gZ [1, 1, 1, 1, 0, 1]) L1 ca iB
noncomputable def xl : OV := L5 (ls [u, u, C, D, u, u, u, u, u, u, u, u, u, u, u, u, u, u, u, u, u, u, u, u, u, u, u, u, G, I] 12) H
noncomputable def Ep : KX := BX 2 L1 ca
noncomputable def yE : KX := FV wM Ep
noncomputable def En : KK := NF (gZ [1, 1, 1, 1, 0, 1, 4, 5]) yE iB
noncomputable def L3 : KK := jv zn En
noncomputable def mN : OV := En (ls [u, u, C, D, u, u, u, u, u, u, u, u, u, u, u, u, u, u, u, u, u, u, u, u, u, u, u, u, G, I] 12) H
noncomputable def L6 : KK := CQ (gZ [1, 1, 1, 1, 0, 1, 4, 5, 1, 1]) L3 yE iB
noncomputable def xm : OV := L6 (ls [u, u, C, D, u, u, u, u, u, u, u, u, u, u, u, u, u, u, u, u, u, u, u, u, u, u, u, u, G, I] 12) H
noncomputable def Eo : KK := CQ (gZ [1, 1, 1, 1, 0, 1, 4, 5, 1, 1, 1]) L3 yE iB
noncomputable def Wt : KK := jv zn Eo
noncomputable def xn : OV := Eo (ls [u, u, C, D, u, u, u, u, u, u, u, u, u, u, u, u, u, u, u, u, u, u, u, u, u, u, u, u, G, I] 12) H
noncomputable def Wu : KX := BX 3 Wt yE
noncomputable def rW : OV := Ep 2 (ls [u, u, C, D] 38) H
noncomputable def z5 : KX := BX 0 Ws ca
noncomputable def z6 : KX := FV wM z5
noncomputable def z4 : KK := NF (gZ [1, 1, 1, 0, 4, 5]) z6 iB
noncomputable def GS : KK := jv Gk z4
noncomputable def kZ : OV := z4 (ls [B, u, C, D] 38) H
noncomputable def GT : KK := CQ (gZ [1, 1, 1, 0, 4, 5, 1]) GS z6 iB
noncomputable def vg : OV := GT (ls [B, u, C, D] 38) H
noncomputable def RY : KX := BX 1 GS z6
noncomputable def qw : OV := z5 0 (ls [u, u, C, D] 38) H
theorem fR : az 4398046511099 iB := rf
theorem OS : az Gk L4 := rc fR aH fR
theorem CG : az wM El := rc fR aH fR
theorem vM : az wM Em := rc fR aH fR
theorem OT : az zn L5 := rc (cd vM) aH fR
theorem nh : ∀ i, az wM (Ep i) := rb (cd vM) aH
theorem qQ : az zn En := rl (cx nh) fR
theorem OU : az zn L6 := rc (cd qQ) (cx nh) fR
theorem CH : az zn Eo := rc (cd qQ) (cx nh) fR
theorem OW : ∀ i, az zn (Wu i) := rb (cd CH) (cx nh)
theorem n6 : ∀ i, az wM (z5 i) := rb (cd CG) aH
theorem n0 : az Gk z4 := rl (cx n6) fR
theorem Jk : az Gk GT := rc (cd n0) (cx n6) fR
theorem Jl : ∀ i, az Gk (RY i) := rb (cd n0) (cx n6)
theorem Bz : xj C D H =
 some (D, H) :=
 (by kernel_rfl)
theorem BC : xn C D G I H =
 (aq .other .add I (vi 1)).bind fun a =>
 mN C D G a H :=
 (by kernel_rfl)
theorem BB : xm C D G I H =
 ld [.n, .f 2] D H fun b =>
 E5 1 1 [(vi 0)] [(0, (vi (-1)))] H fun c d =>
 (f3 1 8 b c d).bind fun a =>
 st 1 [.n, .f 2] D a.1 a.2 fun e =>
 xn C D G I e :=
 (pt rfl 0 CH (bt rfl (gZ [1, 1, 1, 1, 0, 1, 4, 5, 1, 1, 0, 4]) 3 OW (by kernel_rfl)))
theorem wH : rW C D H = xj C D H :=
 (by kernel_rfl)
theorem qy : mN C D G I H =
 (aq .other .lss I G).bind fun a =>
 ax a
 (xm C D G I H)
 (rW C D H) :=
 PJ rfl qQ (pt rfl 1 OU (by kernel_rfl))
theorem BA : xl C D G I H =
 mN C D G I H :=
 (bt rfl (gZ [1, 1, 1, 1, 0, 1, 4]) 2 nh (li rfl (gZ [1, 1, 1, 1, 0, 1, 4, 5]) qQ (by kernel_rfl)))
theorem By : qx C D H =
 ld [.n, .f 1] D H fun a =>
 (aq .other .mul (vi 2) a).bind fun b =>
 xl C D b (vi 0) H :=
 (pt rfl 0 vM (pt rfl 0 OT (by kernel_rfl)))
theorem yx : vg B C D H =
 ld [.n, .f 1] D H fun a =>
 (aq .other .mul a (vi 2)).bind fun b =>
 st 1 [.n, .f 1] D b H fun c =>
 kZ B C D c :=
 (bt rfl (gZ [1, 1, 1, 0, 4, 5, 1, 4]) 1 Jl (by kernel_rfl))
theorem mM : qw C D H = qx C D H :=
 (by kernel_rfl)
theorem o5 : kZ B C D H =
 ld [.n, .f 1] D H fun a =>
 (aq .other .lss a B).bind fun b =>
 ax b
 (vg B C D H)
 (qw C D H) :=
 PJ rfl n0 (pt rfl 0 Jk (by kernel_rfl))
theorem Bx : xi B C D H =
 kZ B C D H :=
 (pt rfl 0 CG (bt rfl (gZ [1, 1, 1, 0, 4]) 0 n6 (li rfl (gZ [1, 1, 1, 0, 4, 5]) n0 (by kernel_rfl))))
noncomputable def UY : OV := bn PP GG FF (gZ []) (ls [B] 41) H iB ca iB
theorem Ib {r : Value × AH} (h : (
 (ii [B, (vi 1)]).bind fun c =>
 (ju [c, (vi 16)]).bind fun a =>
 (mC [(vw 0), (vi 0), (vb false)] 3 24 a a H).bind fun b =>
 gC [(0, 1), (1, 1), (2, 1)] [(.slice none 0 0), (vi 0), (.slice none 0 0)] [(0, b.1), (1, (vi 1))] fun d =>
 aZ (Value.cells d).toList b.2 fun e f =>
 xi a (.pointer none) e f) = some r) : FF sH [B] H = some r :=
 fo (t := UY B H) Tryz.func161 (by kernel_rfl) (Eq.trans (pt rfl 2 OS (by kernel_rfl)) h)
theorem FH {r : Value × AH} (h : (
 (FF p6 [B] H).bind fun a =>
 (FF sB [] a.2).bind fun b =>
 gC [(0, 1), (1, 1), (2, 1)] [(.pointer none), (.pointer none), (vi 0)] [(0, a.1), (1, b.1), (2, B)] fun c =>
 aZ (Value.cells c).toList b.2 fun d e =>
 some (d, e)) = some r) : FF pZ [B] H = some r :=
 fo Tryz.func162 (by kernel_rfl) h
theorem Fe {r : Value × AH} (h : (
 (ii [B, (vi 0)]).bind fun a =>
 (ju [a, (vi 40)]).bind fun b =>
 some (b, H)) = some r) : FF pY [B] H = some r :=
 fo Tryz.func171 (by kernel_rfl) h
theorem Cj {r : Value × AH} (h : (
 (FF jc [B] H).bind fun a =>
 (mD .not a.1).bind fun b =>
 ax b
 (some ((vi (-1)), a.2))
 ((aq .other .shr B (vw 61)).bind fun c =>
 (cH (some .i64) c).bind fun d =>
 some (d, a.2))) = some r) : FF eC [B] H = some r :=
 fo Tryz.func172 (by kernel_rfl) h
theorem FQ {r : Value × AH} (h : (
 (aq .other .gtr B (vw 2305843009213693951)).bind fun a =>
 (gV a false E).bind fun c =>
 (gB a false (aq .other .lss c (vi 0))).bind fun d =>
 (aX a (vb true) d).bind fun b =>
 (gV b false E).bind fun e =>
 (gB b false (aq .other .geq e (vi 3))).bind fun f =>
 (aX b (vb true) f).bind fun g =>
 ax g
 (some (Value.tuple #[(vw 0), (vb false)], H))
 ((cH (some .u64) E).bind fun i =>
 (aq .other .shl i (vw 61)).bind fun j =>
 (aq .other .or j B).bind fun k =>
 some (Value.tuple #[k, (vb true)], H))) = some r) : FF mw [B, E] H = some r :=
 fo Tryz.func173 (by kernel_rfl) h
theorem Ch {r : Value × AH} (h : (
 (FF jc [B] H).bind fun a =>
 (mD .not a.1).bind fun b =>
 ax b
 (some ((vw 0), a.2))
 ((aq .other .and B (vw 2305843009213693951)).bind fun c =>
 some (c, a.2))) = some r) : FF dL [B] H = some r :=
 fo Tryz.func174 (by kernel_rfl) h
theorem Hx {r : Value × AH} (h : (
 (aq .other .gtr B (vw 2305843009213693951)).bind fun a =>
 (gV a false E).bind fun c =>
 (gB a false (aq .other .lss c (vi 0))).bind fun d =>
 (aX a (vb true) d).bind fun b =>
 (gV b false E).bind fun e =>
 (gB b false (aq .other .gtr e (vi 2))).bind fun f =>
 (aX b (vb true) f).bind fun g =>
 ax g
 (some (Value.tuple #[(vw 0), (vb false)], H))
 ((cH (some .u64) E).bind fun i =>
 (aq .other .mul i (vw 2305843009213693952)).bind fun j =>
 (aq .other .add j B).bind fun k =>
 some (Value.tuple #[k, (vb true)], H))) = some r) : FF lS [B, E] H = some r :=
 fo Tryz.func175 (by kernel_rfl) h
theorem IV {r : Value × AH} (h : (
 ld [.n, .f 0] B H fun a =>
 ld [.n, .f 1] B H fun b =>
 gC [(0, 1), (1, 1), (2, 1), (3, 1)] [(vi 0), (.slice none 0 0), (vi 0), (vw 0)] [(0, C)] fun c =>
 (FF fH [a, E, b, c] H).bind fun d =>
 some (Value.tuple #[], d.2)) = some r) : FF ln [B, E, C] H = some r :=
 fo Tryz.func176 (by kernel_rfl) h
theorem IQ {r : Value × AH} (h : (
 aZ [(vi 0), (.slice none 0 0), (vi 0), (vw 0)] H fun a c =>
 gC [(0, 1), (1, 1), (2, 1), (3, 1)] [(vi 0), (.slice none 0 0), (vi 0), (vw 0)] [(0, E)] fun d =>
 (cD 4 a d c).bind fun b =>
 (aA 4 a b).bind fun e => some (Value.tuple #[e, (vb true)], b)) = some r) : FF lk [B, E] H = some r :=
 fo Tryz.func177 (by kernel_rfl) h
noncomputable def Jm (p : List Nat) : Code := Code.sub (ce Tryz.f178) p
noncomputable def r8 : KK := fE PP (Tryz.f178).results.toList
noncomputable def L7 : KK := CQ (Jm [1, 1, 1]) r8 ca r8
noncomputable def Cw : OV := L7 (ls [B, u, C, D, K, L] 65) H
noncomputable def L8 : KK := CQ (Jm [1, 1, 1, 1]) r8 ca r8
noncomputable def qM : OV := L8 (ls [B, u, C] 68) H
theorem tO : az 2361183241434822606843 r8 := rf
theorem OX : az 2361183241434822606786 L7 := rc tO aH tO
theorem OY : az 2361183241434822606842 L8 := rc tO aH tO
theorem DK : qM B C H =
 ad [.n, .f 8] B fun a =>
 (ar a H).bind fun c =>
 ld [.n, .f 0] B H fun d =>
 ld [.n, .f 2] d H fun e =>
 (FF dE [e] H).bind fun b =>
 bZ (ar a b.2) (ar a H) <|
 (aq .other .geq c b.1).bind fun g =>
 some (g, b.2) :=
 (by kernel_rfl)
theorem tD : Cw B C D K L H =
 (gV L true D).bind fun b =>
 (gV L true B).bind fun c =>
 fT L true  [.n, .f 2, .f 1] c H fun d =>
 (gB L true (aq .other .eql b d)).bind fun e =>
 (aX L e (vb false)).bind fun g =>
 st 1 [.n, .f 10] B g H fun a =>
 ld [.n, .f 10] B a fun i =>
 ax i
 (st 1 [.n, .f 9] B K a fun j =>
 qM B C j)
 (qM B C a) :=
 (pt rfl 0 OY (by kernel_rfl))
noncomputable def YA : OV := bn PP GG FF (Jm []) (ls [B] 70) H r8 ca r8
theorem N3 {r : Value × AH} (h : (
 ld [.n, .f 0] B H fun b =>
 ld [.n, .f 2] b H fun c =>
 ld [.n, .f 1] B H fun d =>
 ld [.n, .f 6] B H fun e =>
 ld [.n, .f 8] B H fun g =>
 (FF fK [c, d, e, g] H).bind fun a =>
 (af a.1 0).bind fun i =>
 (af a.1 1).bind fun j =>
 (af a.1 2).bind fun k =>
 ld [.n, .f 8] B a.2 fun l =>
 (aq .other .add l (vi 1)).bind fun m =>
 st 1 [.n, .f 8] B m a.2 fun o =>
 Cw B (vb false) i j k o) = some r) : FF uo [B] H = some r :=
 fo (t := YA B H) Tryz.func178 (by kernel_rfl) (Eq.trans (pt rfl 2 OX (by kernel_rfl)) h)
theorem Ry {r : Value × AH} (h : (
 aZ [(vi 0), (.slice none 0 0), (vi 0), (vw 0)] H fun a c =>
 st 1 [.n, .f 7] B E c fun d =>
 gC [(0, 1), (1, 1), (2, 1), (3, 1)] [(vi 0), (.slice none 0 0), (vi 0), (vw 0)] [] fun e =>
 (cD 4 a e d).bind fun b =>
 (aA 4 a b).bind fun g => some (Value.tuple #[g, (vb false)], b)) = some r) : FF bF [B, E] H = some r :=
 fo Tryz.func179 (by kernel_rfl) h
theorem IU {r : Value × AH} (h : (
 aZ [(vi 0), (.slice none 0 0), (vi 0), (vw 0)] H fun d a =>
 ld [.n, .f 0] B a fun i =>
 ld [.n, .f 1] B a fun j =>
 ld [.n, .f 9] B a fun k =>
 (FF i7 [i, j, k] a).bind fun b =>
 ld [.n, .f 0] B b.2 fun l =>
 ld [.n, .f 9] B b.2 fun m =>
 (FF bS [l, m] b.2).bind fun e =>
 st 1 [.n, .f 11] B e.1 e.2 fun o =>
 (FF bF [B, (.func (.func cj) #[B] #[])] o).bind fun c =>
 (af c.1 0).bind fun p =>
 (af c.1 1).bind fun q =>
 (cD 4 d p c.2).bind fun g =>
 (aA 4 d g).bind fun s => some (Value.tuple #[s, q], g)) = some r) : FF gJ [B, E] H = some r :=
 fo Tryz.func180 (by kernel_rfl) h
theorem IT {r : Value × AH} (h : (
 aZ [(vi 0), (.slice none 0 0), (vi 0), (vw 0)] H fun b a =>
 ld [.n, .f 0] B a fun j =>
 ld [.n, .f 2] j a fun k =>
 ld [.n, .f 1] B a fun l =>
 ld [.n, .f 6] B a fun m =>
 (FF dW [k, l, m] a).bind fun c =>
 (mD .not c.1).bind fun o =>
 ax o
 ((FF bF [B, (.func (.func di) #[B] #[])] c.2).bind fun d =>
 (af d.1 0).bind fun p =>
 (af d.1 1).bind fun q =>
 (cD 4 b p d.2).bind fun g =>
 (aA 4 b g).bind fun s => some (Value.tuple #[s, q], g))
 (st 1 [.n, .f 8] B (vi 0) c.2 fun t =>
 (FF bF [B, (.func (.func en) #[B] #[])] t).bind fun e =>
 (af e.1 0).bind fun w =>
 (af e.1 1).bind fun y =>
 (cD 4 b w e.2).bind fun i =>
 (aA 4 b i).bind fun z => some (Value.tuple #[z, y], i))) = some r) : FF di [B, E] H = some r :=
 fo Tryz.func181 (by kernel_rfl) h
theorem yq {r : Value × AH} (h : (
 st 1 [.n, .f 16] B C H fun a =>
 ld [.n, .f 0] B a fun b =>
 ld [.n, .f 1] B a fun c =>
 gC [(0, 1), (1, 1), (2, 1), (3, 1)] [(vi 0), (.slice none 0 0), (vi 0), (vw 0)] [(0, C)] fun d =>
 (FF fH [b, E, c, d] a).bind fun e =>
 some (Value.tuple #[], e.2)) = some r) : FF cW [B, E, C] H = some r :=
 fo Tryz.func182 (by kernel_rfl) h
theorem B9 {r : Value × AH} (h : (
 aZ [(vi 0), (.slice none 0 0), (vi 0), (vw 0)] H fun a c =>
 st 1 [.n, .f 7] B E c fun d =>
 gC [(0, 1), (1, 1), (2, 1), (3, 1)] [(vi 0), (.slice none 0 0), (vi 0), (vw 0)] [] fun e =>
 (cD 4 a e d).bind fun b =>
 (aA 4 a b).bind fun g => some (Value.tuple #[g, (vb false)], b)) = some r) : FF bd [B, E] H = some r :=
 fo Tryz.func183 (by kernel_rfl) h
noncomputable def Er (p : List Nat) : Code := Code.sub (ce Tryz.f184) p
noncomputable def sa : KK := fE PP (Tryz.f184).results.toList
noncomputable def L9 : KK := CQ (Er [1, 1]) sa ca sa
noncomputable def o3 : OV := L9 (ls [B, E, u, u, K, L, J, M] 42) H
noncomputable def Es : KK := CQ (Er [1, 1, 1]) sa ca sa
noncomputable def Wv : KK := jv 1125899906842574 Es
noncomputable def o4 : OV := Es (ls [B, u, u, u, K, L] 44) H
noncomputable def Ww : KX := BX 0 Wv ca
theorem tP : az 1125899906842575 sa := rf
theorem OZ : az 1125899906842380 L9 := rc tP aH tP
theorem CI : az 1125899906842574 Es := rc tP aH tP
theorem O0 : ∀ i, az 1125899906842574 (Ww i) := rb (cd CI) aH
theorem td : o4 B K L H =
 (FF bd [B, (.func (.func cg) #[B] #[])] H).bind fun a =>
 (af a.1 0).bind fun c =>
 (af a.1 1).bind fun d =>
 (cD 4 K c a.2).bind fun b =>
 (aA 4 K b).bind fun e => some (Value.tuple #[e, d], b) :=
 (by kernel_rfl)
theorem tc : o3 B E K L J M H =
 ax J
 (ld [.n, .f 0] B H fun g =>
 ld [.n, .f 11] B H fun i =>
 (FF bS [g, i] H).bind fun c =>
 st 1 [.n, .f 12] B c.1 c.2 fun j =>
 (FF bd [B, (.func (.func bo) #[B] #[])] j).bind fun a =>
 (af a.1 0).bind fun k =>
 (af a.1 1).bind fun l =>
 (cD 4 K k a.2).bind fun d =>
 (aA 4 K d).bind fun m => some (Value.tuple #[m, l], d))
 (ax M
 ((FF cW [B, E, (vi 5)] H).bind fun o =>
 (FF bd [B, (.func (.func aN) #[B] #[])] o.2).bind fun b =>
 (af b.1 0).bind fun p =>
 (af b.1 1).bind fun q =>
 (cD 4 K p b.2).bind fun e =>
 (aA 4 K e).bind fun s => some (Value.tuple #[s, q], e))
 (o4 B K L H)) :=
 (pt rfl 0 CI (bt rfl (Er [1, 1, 0, 4]) 0 O0 (by kernel_rfl)))
noncomputable def Fy : OV := bn PP GG FF (Er []) (ls [B, E] 48) H sa ca sa
theorem ym {r : Value × AH} (h : (
 aZ [(vi 0), (.slice none 0 0), (vi 0), (vw 0)] H fun b c =>
 (FF jZ [B] c).bind fun a =>
 (af a.1 0).bind fun d =>
 (af a.1 1).bind fun e =>
 o3 B E b (vb false) d e a.2) = some r) : FF cg [B, E] H = some r :=
 fo (t := Fy B E H) Tryz.func184 (by kernel_rfl) (Eq.trans (pt rfl 1 OZ (by kernel_rfl)) h)
end
section
variable (D E J L G I K M : Value) (H : AH)
noncomputable def Et (p : List Nat) : Code := Code.sub (ce Tryz.f185) p
noncomputable def sc : KK := fE PP (Tryz.f185).results.toList
noncomputable def Ma : KK := CQ (Et [1, 1]) sc ca sc
noncomputable def mI : OV := Ma (ls [D, E, u, u, G, I, K, M] 48) H
noncomputable def Eu : KK := CQ (Et [1, 1, 1]) sc ca sc
noncomputable def Wx : KK := jv 72057594037927886 Eu
noncomputable def mJ : OV := Eu (ls [D, u, u, u, G, I] 50) H
noncomputable def Wy : KX := BX 0 Wx ca
theorem tQ : az Gi sc := rf
theorem O1 : az 72057594037927692 Ma := rc tQ aH tQ
theorem CJ : az 72057594037927886 Eu := rc tQ aH tQ
theorem O5 : ∀ i, az 72057594037927886 (Wy i) := rb (cd CJ) aH
theorem qm : mJ D G I H =
 (FF bd [D, (.func (.func bO) #[D] #[])] H).bind fun a =>
 (af a.1 0).bind fun c =>
 (af a.1 1).bind fun d =>
 (cD 4 G c a.2).bind fun b =>
 (aA 4 G b).bind fun e => some (Value.tuple #[e, d], b) :=
 (by kernel_rfl)
theorem ql : mI D E G I K M H =
 ax K
 ((FF cW [D, E, (vi 6)] H).bind fun i =>
 (FF bd [D, (.func (.func aN) #[D] #[])] i.2).bind fun a =>
 (af a.1 0).bind fun j =>
 (af a.1 1).bind fun k =>
 (cD 4 G j a.2).bind fun d =>
 (aA 4 G d).bind fun l => some (Value.tuple #[l, k], d))
 ((gV M true D).bind fun m =>
 fT M true  [.n, .f 9] m H fun o =>
 (gB M true (aq .other .lss o (vi 0))).bind fun p =>
 (aX M p (vb false)).bind fun q =>
 ax q
 ((FF cW [D, E, (vi 7)] H).bind fun s =>
 (FF bd [D, (.func (.func aN) #[D] #[])] s.2).bind fun b =>
 (af b.1 0).bind fun t =>
 (af b.1 1).bind fun w =>
 (cD 4 G t b.2).bind fun e =>
 (aA 4 G e).bind fun y => some (Value.tuple #[y, w], e))
 (ax M
 ((FF bd [D, (.func (.func dq) #[D] #[])] H).bind fun c =>
 (af c.1 0).bind fun z =>
 (af c.1 1).bind fun A =>
 (cD 4 G z c.2).bind fun g =>
 (aA 4 G g).bind fun B => some (Value.tuple #[B, A], g))
 (mJ D G I H))) :=
 (pt rfl 0 CJ (bt rfl (Et [1, 1, 0, 4]) 0 O5 (by kernel_rfl)))
noncomputable def Bb : OV := bn PP GG FF (Et []) (ls [D, E] 54) H sc ca sc
theorem uV {r : Value × AH} (h : (
 aZ [(vi 0), (.slice none 0 0), (vi 0), (vw 0)] H fun b c =>
 (FF jZ [D] c).bind fun a =>
 (af a.1 0).bind fun d =>
 (af a.1 1).bind fun e =>
 mI D E b (vb false) d e a.2) = some r) : FF bO [D, E] H = some r :=
 fo (t := Bb D E H) Tryz.func185 (by kernel_rfl) (Eq.trans (pt rfl 1 O1 (by kernel_rfl)) h)
noncomputable def mU (p : List Nat) : Code := Code.sub (ce Tryz.f186) p
noncomputable def lN : KK := fE PP (Tryz.f186).results.toList
noncomputable def Md : KK := CQ (mU [1]) lN ca lN
noncomputable def oR : OV := Md (ls [D, E, u, u, G] 20) H
noncomputable def Ew : KK := CQ (mU [1, 1]) lN ca lN
noncomputable def Mb : KK := jv 33554415 Ew
noncomputable def oS : OV := Ew (ls [u, u, u, u, G] 20) H
noncomputable def Me : KK := CQ (mU [1, 0, 1]) Mb ca lN
noncomputable def oT : OV := Me (ls [D, E, u, u, G, I] 19) H
noncomputable def Ez : KX := BX 0 Mb ca
noncomputable def yF : KX := FV 33554415 Ez
noncomputable def Ex : KK := NF (mU [1, 0, 1, 4, 5]) yF lN
noncomputable def Mc : KK := jv 33554380 Ex
noncomputable def ix : OV := Ex (ls [D, E, u, u, G, I] 19) H
noncomputable def Mf : KK := CQ (mU [1, 0, 1, 4, 5, 1]) Mc yF lN
noncomputable def oU : OV := Mf (ls [D, E, u, u, G, I] 19) H
noncomputable def Ey : KK := CQ (mU [1, 0, 1, 4, 5, 1, 1]) Mc yF lN
noncomputable def Wz : KK := jv 33554380 Ey
noncomputable def oV : OV := Ey (ls [D, E, u, u, G, I] 19) H
noncomputable def WA : KX := BX 1 Wz yF
noncomputable def mF : OV := Ez 0 (ls [u, u, u, u, G] 20) H
theorem ka : az 33554415 lN := rf
theorem O6 : az 33554412 Md := rc ka aH ka
theorem vN : az 33554415 Ew := rc ka aH ka
theorem O7 : az 33554380 Me := rc (cd vN) aH ka
theorem ni : ∀ i, az 33554415 (Ez i) := rb (cd vN) aH
theorem qR : az 33554380 Ex := rl (cx ni) ka
theorem O8 : az 33554380 Mf := rc (cd qR) (cx ni) ka
theorem CM : az 33554380 Ey := rc (cd qR) (cx ni) ka
theorem O9 : ∀ i, az 33554380 (WA i) := rb (cd CM) (cx ni)
theorem sQ : oS G H =
 some ((vi (-1)), H) :=
 (by kernel_rfl)
theorem sT : oV D E G I H =
 (aq .other .add I (vi 1)).bind fun a =>
 ix D E G a H :=
 (by kernel_rfl)
theorem sS : oU D E G I H =
 ld [.n, .f 2] D H fun a =>
 ld [.i 1 I] a H fun b =>
 (aq .other .eql b E).bind fun c =>
 ax c
 (some (I, H))
 (oV D E G I H) :=
 (pt rfl 0 CM (bt rfl (mU [1, 0, 1, 4, 5, 1, 0, 4]) 1 O9 (by kernel_rfl)))
theorem qd : mF G H = oS G H :=
 (by kernel_rfl)
theorem l5 : ix D E G I H =
 ld [.n, .f 2] D H fun a =>
 mh a fun b =>
 (aq .other .lss I b).bind fun c =>
 ax c
 (oU D E G I H)
 (mF G H) :=
 PJ rfl qR (pt rfl 0 O8 (by kernel_rfl))
theorem sR : oT D E G I H =
 ix D E G I H :=
 (bt rfl (mU [1, 0, 1, 4]) 0 ni (li rfl (mU [1, 0, 1, 4, 5]) qR (by kernel_rfl)))
theorem sP : oR D E G H =
 oT D E G (vi 0) H :=
 (pt rfl 0 vN (pt rfl 0 O7 (by kernel_rfl)))
noncomputable def Fg : OV := bn PP GG FF (mU []) (ls [D, E] 23) H lN ca lN
theorem ya {r : Value × AH} (h : (
 oR D E (vi 0) H) = some r) : FF lT [D, E] H = some r :=
 fo (t := Fg D E H) Tryz.func186 (by kernel_rfl) (Eq.trans (pt rfl 0 O6 (by kernel_rfl)) h)
theorem FO {r : Value × AH} (h : (
 (FF oh [D] H).bind fun a =>
 B1 a.2 fun b c =>
 gC [(0, 1), (1, 1), (2, 192), (194, 3), (197, 1)] [(vw 0), (vi 0), (.slice none 0 0), (.slice none 0 0), (.slice none 0 0), (.slice none 0 0), (.slice none 0 0), (.slice none 0 0), (.slice none 0 0), (.slice none 0 0), (.slice none 0 0), (.slice none 0 0), (.slice none 0 0), (.slice none 0 0), (.slice none 0 0), (.slice none 0 0), (.slice none 0 0), (.slice none 0 0), (.slice none 0 0), (.slice none 0 0), (.slice none 0 0), (.slice none 0 0), (.slice none 0 0), (.slice none 0 0), (.slice none 0 0), (.slice none 0 0), (.slice none 0 0), (.slice none 0 0), (.slice none 0 0), (.slice none 0 0), (.slice none 0 0), (.slice none 0 0), (.slice none 0 0), (.slice none 0 0), (.slice none 0 0), (.slice none 0 0), (.slice none 0 0), (.slice none 0 0), (.slice none 0 0), (.slice none 0 0), (.slice none 0 0), (.slice none 0 0), (.slice none 0 0), (.slice none 0 0), (.slice none 0 0), (.slice none 0 0), (.slice none 0 0), (.slice none 0 0), (.slice none 0 0), (.slice none 0 0), (.slice none 0 0), (.slice none 0 0), (.slice none 0 0), (.slice none 0 0), (.slice none 0 0), (.slice none 0 0), (.slice none 0 0), (.slice none 0 0), (.slice none 0 0), (.slice none 0 0), (.slice none 0 0), (.slice none 0 0), (.slice none 0 0), (.slice none 0 0), (.slice none 0 0), (.slice none 0 0), (.slice none 0 0), (.slice none 0 0), (.slice none 0 0), (.slice none 0 0), (.slice none 0 0), (.slice none 0 0), (.slice none 0 0), (.slice none 0 0), (.slice none 0 0), (.slice none 0 0), (.slice none 0 0), (.slice none 0 0), (.slice none 0 0), (.slice none 0 0), (.slice none 0 0), (.slice none 0 0), (.slice none 0 0), (.slice none 0 0), (.slice none 0 0), (.slice none 0 0), (.slice none 0 0), (.slice none 0 0), (.slice none 0 0), (.slice none 0 0), (.slice none 0 0), (.slice none 0 0), (.slice none 0 0), (.slice none 0 0), (.slice none 0 0), (.slice none 0 0), (.slice none 0 0), (.slice none 0 0), (.slice none 0 0), (.slice none 0 0), (.slice none 0 0), (.slice none 0 0), (.slice none 0 0), (.slice none 0 0), (.slice none 0 0), (.slice none 0 0), (.slice none 0 0), (.slice none 0 0), (.slice none 0 0), (.slice none 0 0), (.slice none 0 0), (.slice none 0 0), (.slice none 0 0), (.slice none 0 0), (.slice none 0 0), (.slice none 0 0), (.slice none 0 0), (.slice none 0 0), (.slice none 0 0), (.slice none 0 0), (.slice none 0 0), (.slice none 0 0), (.slice none 0 0), (.slice none 0 0), (.slice none 0 0), (.slice none 0 0), (.slice none 0 0), (.slice none 0 0), (.slice none 0 0), (.slice none 0 0), (.slice none 0 0), (.slice none 0 0), (.slice none 0 0), (.slice none 0 0), (.slice none 0 0), (.slice none 0 0), (.slice none 0 0), (.slice none 0 0), (.slice none 0 0), (.slice none 0 0), (.slice none 0 0), (.slice none 0 0), (.slice none 0 0), (.slice none 0 0), (.slice none 0 0), (.slice none 0 0), (.slice none 0 0), (.slice none 0 0), (.slice none 0 0), (.slice none 0 0), (.slice none 0 0), (.slice none 0 0), (.slice none 0 0), (.slice none 0 0), (.slice none 0 0), (.slice none 0 0), (.slice none 0 0), (.slice none 0 0), (.slice none 0 0), (.slice none 0 0), (.slice none 0 0), (.slice none 0 0), (.slice none 0 0), (.slice none 0 0), (.slice none 0 0), (.slice none 0 0), (.slice none 0 0), (.slice none 0 0), (.slice none 0 0), (.slice none 0 0), (.slice none 0 0), (.slice none 0 0), (.slice none 0 0), (.slice none 0 0), (.slice none 0 0), (.slice none 0 0), (.slice none 0 0), (.slice none 0 0), (.slice none 0 0), (.slice none 0 0), (.slice none 0 0), (.slice none 0 0), (.slice none 0 0), (.slice none 0 0), (.slice none 0 0), (.slice none 0 0), (.slice none 0 0), (.slice none 0 0), (.slice none 0 0), (.slice none 0 0), (.slice none 0 0), (.slice none 0 0), (.slice none 0 0), (.slice none 0 0), (vw 0), (vw 0), (vw 0), (.map none)] [(1, a.1), (4, b)] fun d =>
 aZ (Value.cells d).toList c fun e f =>
 some (e, f)) = some r) : FF p6 [D] H = some r :=
 fo Tryz.func188 (by kernel_rfl) h
theorem G4 (H : AH) {r : Value × AH} (h : (
 B1 H fun a b =>
 gC [(0, 1), (1, 1)] [(.slice none 0 0), (.map none)] [(1, a)] fun c =>
 aZ (Value.cells c).toList b fun d e =>
 some (d, e)) = some r) : FF sB [] H = some r :=
 fo Tryz.func189 (by kernel_rfl) h
theorem Ci {r : Value × AH} (h : (
 (aq .other .shr D (vw 61)).bind fun a =>
 (aq .other .lss a (vw 3)).bind fun b =>
 some (b, H)) = some r) : FF jc [D] H = some r :=
 fo Tryz.func204 (by kernel_rfl) h
theorem rt {r : Value × AH} (h : (
 aZ (Value.cells L).toList H fun i a =>
 ad [.n, .f 12] D fun c =>
 (ar c a).bind fun j =>
 ad [.n, .f 11] D fun d =>
 (ar d a).bind fun e =>
 (cY .int (vi 0) e J false a).bind fun k =>
 (aA 4 i a).bind fun l =>
 (FF pW [l] a).bind fun b =>
 bZ (ar c b.2) (ar c a) <|
 bZ (ar d b.2) (ar d a) <|
 bZ (cY .int (vi 0) e J false b.2) (cY .int (vi 0) e J false a) <|
 gC [(0, 1), (1, 1), (2, 1), (3, 4)] [(vi 0), (vi 0), (vi 0), (vi 0), (.slice none 0 0), (vi 0), (vw 0)] [(0, E), (1, J), (2, k), (3, b.1)] fun m =>
 E5 1 7 [(vi 0), (vi 0), (vi 0), (vi 0), (.slice none 0 0), (vi 0), (vw 0)] [(0, m)] b.2 fun o p =>
 (f3 7 72 j o p).bind fun g =>
 st 1 [.n, .f 12] D g.1 g.2 fun q =>
 some (Value.tuple #[], q)) = some r) : FF fH [D, E, J, L] H = some r :=
 fo Tryz.func205 (by kernel_rfl) h
theorem qu {r : Value × AH} (h : (
 ld [.n, .f 2] D H fun a =>
 some (a, H)) = some r) : FF dE [D] H = some r :=
 fo Tryz.func206 (by kernel_rfl) h
theorem I0 {r : Value × AH} (h : (
 aZ [(vi 0), (.slice none 0 0), (vi 0), (vw 0)] H fun a b =>
 ld [.n, .f 11] D b fun l =>
 ld [.n, .f 1] D b fun m =>
 (FF fq [l, m] b).bind fun g =>
 st 1 [.n, .f 12] D g.1 g.2 fun i =>
 ld [.n, .f 12] D i fun o =>
 (FF eC [o] i).bind fun c =>
 (aq .other .eql c.1 (vi 2)).bind fun p =>
 ax p
 ((FF bF [D, (.func (.func di) #[D] #[])] c.2).bind fun d =>
 (af d.1 0).bind fun q =>
 (af d.1 1).bind fun s =>
 (cD 4 a q d.2).bind fun j =>
 (aA 4 a j).bind fun t => some (Value.tuple #[t, s], j))
 ((FF bF [D, (.func (.func ll) #[D] #[])] c.2).bind fun e =>
 (af e.1 0).bind fun w =>
 (af e.1 1).bind fun y =>
 (cD 4 a w e.2).bind fun k =>
 (aA 4 a k).bind fun z => some (Value.tuple #[z, y], k))) = some r) : FF cj [D, E] H = some r :=
 fo Tryz.func207 (by kernel_rfl) h
noncomputable def EA (p : List Nat) : Code := Code.sub (ce Tryz.f208) p
noncomputable def sd : KK := fE PP (Tryz.f208).results.toList
noncomputable def Mg : KK := CQ (EA [1, 1]) sd ca sd
noncomputable def tE : OV := Mg (ls [D, E, u, u, G, I, K] 30) H
noncomputable def EB : KK := CQ (EA [1, 1, 1]) sd ca sd
noncomputable def WB : KK := jv 137438953422 EB
noncomputable def tF : OV := EB (ls [D, u, u, u, G, I] 31) H
noncomputable def WC : KX := BX 0 WB ca
theorem tR : az 137438953423 sd := rf
theorem Pa : az 137438953356 Mg := rc tR aH tR
theorem CN : az 137438953422 EB := rc tR aH tR
theorem Pb : ∀ i, az 137438953422 (WC i) := rb (cd CN) aH
theorem xu : tF D G I H =
 (FF bF [D, (.func (.func en) #[D] #[])] H).bind fun a =>
 (af a.1 0).bind fun c =>
 (af a.1 1).bind fun d =>
 (cD 4 G c a.2).bind fun b =>
 (aA 4 G b).bind fun e => some (Value.tuple #[e, d], b) :=
 (by kernel_rfl)
theorem xt : tE D E G I K H =
 ld [.n, .f 10] D H fun e =>
 ax e
 ((FF bF [D, (.func (.func ep) #[D] #[])] H).bind fun a =>
 (af a.1 0).bind fun g =>
 (af a.1 1).bind fun i =>
 (cD 4 G g a.2).bind fun c =>
 (aA 4 G c).bind fun j => some (Value.tuple #[j, i], c))
 (ax K
 ((FF ln [D, E, (vi 5)] H).bind fun k =>
 (FF bF [D, (.func (.func ep) #[D] #[])] k.2).bind fun b =>
 (af b.1 0).bind fun l =>
 (af b.1 1).bind fun m =>
 (cD 4 G l b.2).bind fun d =>
 (aA 4 G d).bind fun o => some (Value.tuple #[o, m], d))
 (tF D G I H)) :=
 (pt rfl 0 CN (bt rfl (EA [1, 1, 0, 4]) 0 Pb (by kernel_rfl)))
noncomputable def N6 : OV := bn PP GG FF (EA []) (ls [D, E] 35) H sd ca sd
theorem DM {r : Value × AH} (h : (
 aZ [(vi 0), (.slice none 0 0), (vi 0), (vw 0)] H fun b c =>
 (FF uo [D] c).bind fun a =>
 tE D E b (vb false) a.1 a.2) = some r) : FF en [D, E] H = some r :=
 fo (t := N6 D E H) Tryz.func208 (by kernel_rfl) (Eq.trans (pt rfl 1 Pa (by kernel_rfl)) h)
noncomputable def Jn (p : List Nat) : Code := Code.sub (ce Tryz.f209) p
noncomputable def se : KK := fE PP (Tryz.f209).results.toList
noncomputable def Mh : KK := CQ (Jn [1, 1]) se ca se
noncomputable def qk : OV := Mh (ls [D, u, J, L, G, I, K] 81) H
noncomputable def Mi : KK := CQ (Jn [1, 1, 1]) se ca se
noncomputable def ji : OV := Mi (ls [D, u, J, L, G, I, K] 81) H
theorem tS : az 309485009821345068724781043 se := rf
theorem Pc : az 309485009821345068724780930 Mh := rc tS aH tS
theorem Pd : az 309485009821345068724780930 Mi := rc tS aH tS
theorem uT : ji D J L G I K H =
 ld [.n, .f 8] D H fun g =>
 st 1 [.n, .f 10] D g H fun i =>
 st 1 [.n, .f 11] D I i fun e =>
 ld [.n, .f 8] D e fun j =>
 (aq .other .add j (vi 1)).bind fun k =>
 st 1 [.n, .f 8] D k e fun a =>
 (gV K true G).bind fun l =>
 (gV K true D).bind fun m =>
 EM K true  [.n, .f 2, .f 1] m fun c =>
 (gB K true (ar c a)).bind fun o =>
 (gB K true (aq .other .eql l o)).bind fun p =>
 (aX K p (vb false)).bind fun q =>
 ad [.n, .f 8] D fun d =>
 (ar d a).bind fun s =>
 ld [.n, .f 0] D a fun t =>
 ld [.n, .f 2] t a fun w =>
 (FF dE [w] a).bind fun b =>
 bZ (ar c b.2) (ar c a) <|
 bZ (ar d b.2) (ar d a) <|
 (aq .other .geq s b.1).bind fun y =>
 some (Value.tuple #[q, y], b.2) :=
 (by kernel_rfl)
theorem mH : qk D J L G I K H =
 (mD .not K).bind fun a =>
 (gV a true D).bind fun b =>
 fT a true  [.n, .f 9] b H fun c =>
 (gB a true (aq .other .lss c (vi 0))).bind fun d =>
 (aX a d (vb false)).bind fun e =>
 ax e
 (ld [.n, .f 8] D H fun g =>
 st 1 [.n, .f 9] D g H fun i =>
 ji D J L G I K i)
 (ji D J L G I K H) :=
 (pt rfl 0 Pd (by kernel_rfl))
noncomputable def HF : OV := bn PP GG FF (Jn []) (ls [D] 87) H se ca se
theorem A8 {r : Value × AH} (h : (
 ld [.n, .f 0] D H fun b =>
 ld [.n, .f 2] b H fun c =>
 ld [.n, .f 1] D H fun d =>
 ld [.n, .f 6] D H fun e =>
 ld [.n, .f 8] D H fun g =>
 (FF fK [c, d, e, g] H).bind fun a =>
 (af a.1 0).bind fun i =>
 (af a.1 1).bind fun j =>
 (af a.1 2).bind fun k =>
 qk D (vb false) (vb false) i j k a.2) = some r) : FF jZ [D] H = some r :=
 fo (t := HF D H) Tryz.func209 (by kernel_rfl) (Eq.trans (pt rfl 1 Pc (by kernel_rfl)) h)
theorem yr {r : Value × AH} (h : (
 aZ [(vi 0), (.slice none 0 0), (vi 0), (vw 0)] H fun a g =>
 (FF j0 [D] g).bind fun b =>
 ax b.1
 ((FF bd [D, (.func (.func ch) #[D] #[])] b.2).bind fun c =>
 (af c.1 0).bind fun i =>
 (af c.1 1).bind fun j =>
 (cD 4 a i c.2).bind fun e =>
 (aA 4 a e).bind fun k => some (Value.tuple #[k, j], e))
 ((FF bd [D, (.func (.func dP) #[D] #[])] b.2).bind fun d =>
 (af d.1 0).bind fun l =>
 (af d.1 1).bind fun m =>
 (cD 4 a l d.2).bind fun f =>
 (aA 4 a f).bind fun n => some (Value.tuple #[n, m], f))) = some r) : FF bo [D, E] H = some r :=
 fo Tryz.func210 (by kernel_rfl) h
theorem A9 {r : Value × AH} (h : (
 aZ [(vi 0), (.slice none 0 0), (vi 0), (vw 0)] H fun b a =>
 ld [.n, .f 0] D a fun e =>
 ld [.n, .f 2] e a fun g =>
 ld [.n, .f 1] D a fun i =>
 ld [.n, .f 6] D a fun j =>
 (FF eA [g, i, j] a).bind fun c =>
 ld [.n, .f 16] D c.2 fun k =>
 gC [(0, 1), (1, 1), (2, 1), (3, 1)] [(vi 0), (.slice none 0 0), (vi 0), (vw 0)] [(0, k)] fun l =>
 (cD 4 b l c.2).bind fun d =>
 (aA 4 b d).bind fun m => some (Value.tuple #[m, (vb true)], d)) = some r) : FF aN [D, E] H = some r :=
 fo Tryz.func211 (by kernel_rfl) h
theorem yo {r : Value × AH} (h : (
 aZ [(vi 0), (.slice none 0 0), (vi 0), (vw 0)] H fun d b =>
 ld [.n, .f 0] D b fun i =>
 ld [.n, .f 5, .f 4] i b fun j =>
 ld [.n, .f 2, .f 2] D b fun k =>
 (FF m7 [j, k] b).bind fun a =>
 (af a.1 0).bind fun l =>
 (af a.1 1).bind fun A =>
 ld [.n, .f 0] D a.2 fun m =>
 ld [.n, .f 1] D a.2 fun o =>
 ld [.n, .f 2, .f 1] D a.2 fun p =>
 ld [.n, .f 2, .f 3] D a.2 fun q =>
 gC [(0, 1), (1, 1), (2, 1)] [(vi 0), (vi 0), (vw 0)] [(0, p), (1, q), (2, l)] fun s =>
 (FF dT [m, o, s] a.2).bind fun e =>
 st 1 [.n, .f 11] D e.1 e.2 fun t =>
 (FF bd [D, (.func (.func eL) #[D] #[])] t).bind fun c =>
 (af c.1 0).bind fun w =>
 (af c.1 1).bind fun y =>
 (cD 4 d w c.2).bind fun g =>
 (aA 4 d g).bind fun z => some (Value.tuple #[z, y], g)) = some r) : FF dq [D, E] H = some r :=
 fo Tryz.func212 (by kernel_rfl) h
theorem Cg {r : Value × AH} (h : (
 (ii [D, (vi 0)]).bind fun a =>
 (ju [a, (vi 40)]).bind fun b =>
 some (b, H)) = some r) : FF oh [D] H = some r :=
 fo Tryz.func214 (by kernel_rfl) h
theorem u0 {r : Value × AH} (h : (
 ad [.n, .f 0] D fun a =>
 (ar a H).bind fun d =>
 (FF cX [D, (vi 11), (vi 0)] H).bind fun b =>
 bZ (ar a b.2) (ar a H) <|
 (FF cU [d, E, b.1] b.2).bind fun c =>
 some (c.1, c.2)) = some r) : FF fq [D, E] H = some r :=
 fo Tryz.func243 (by kernel_rfl) h
noncomputable def EC (p : List Nat) : Code := Code.sub (ce Tryz.f244) p
noncomputable def sf : KK := fE PP (Tryz.f244).results.toList
noncomputable def Mk : KK := CQ (EC [1, 1]) sf ca sf
noncomputable def zC : OV := Mk (ls [D, u, u, u, G, I, K] 45) H
noncomputable def ED : KK := CQ (EC [1, 1, 1]) sf ca sf
noncomputable def WE : KK := jv 4503599627370446 ED
noncomputable def zD : OV := ED (ls [D, u, u, u, G, I] 46) H
noncomputable def WG : KX := BX 0 WE ca
theorem tT : az 4503599627370447 sf := rf
theorem Pf : az 4503599627370382 Mk := rc tT aH tT
theorem CO : az 4503599627370446 ED := rc tT aH tT
theorem Pg : ∀ i, az 4503599627370446 (WG i) := rb (cd CO) aH
theorem BR : zD D G I H =
 (FF bF [D, (.func (.func jE) #[D] #[])] H).bind fun a =>
 (af a.1 0).bind fun c =>
 (af a.1 1).bind fun d =>
 (cD 4 G c a.2).bind fun b =>
 (aA 4 G b).bind fun e => some (Value.tuple #[e, d], b) :=
 (by kernel_rfl)
theorem BQ : zC D G I K H =
 ld [.n, .f 11] D H fun i =>
 ld [.n, .f 12] D H fun j =>
 (FF gM [i, j, K] H).bind fun a =>
 ax a.1
 ((FF bF [D, (.func (.func nD) #[D] #[])] a.2).bind fun b =>
 (af b.1 0).bind fun k =>
 (af b.1 1).bind fun l =>
 (cD 4 G k b.2).bind fun e =>
 (aA 4 G e).bind fun m => some (Value.tuple #[m, l], e))
 (ld [.n, .f 12] D a.2 fun o =>
 (FF eC [o] a.2).bind fun c =>
 (aq .other .eql c.1 (vi 1)).bind fun p =>
 ax p
 ((FF bF [D, (.func (.func jF) #[D] #[])] c.2).bind fun d =>
 (af d.1 0).bind fun q =>
 (af d.1 1).bind fun s =>
 (cD 4 G q d.2).bind fun g =>
 (aA 4 G g).bind fun t => some (Value.tuple #[t, s], g))
 (zD D G I c.2)) :=
 (pt rfl 0 CO (bt rfl (EC [1, 1, 0, 4]) 0 Pg (by kernel_rfl)))
noncomputable def VX : OV := bn PP GG FF (EC []) (ls [D, E] 50) H sf ca sf
theorem IR {r : Value × AH} (h : (
 aZ [(vi 0), (.slice none 0 0), (vi 0), (vw 0)] H fun c a =>
 ld [.n, .f 11] D a fun d =>
 ld [.n, .f 1] D a fun e =>
 (FF gN [d, e] a).bind fun b =>
 zC D c (vb false) b.1 b.2) = some r) : FF ll [D, E] H = some r :=
 fo (t := VX D E H) Tryz.func244 (by kernel_rfl) (Eq.trans (pt rfl 1 Pf (by kernel_rfl)) h)
theorem DN {r : Value × AH} (h : (
 aZ [(vi 0), (.slice none 0 0), (vi 0), (vw 0)] H fun b a =>
 ld [.n, .f 0] D a fun j =>
 ld [.n, .f 2] j a fun k =>
 ld [.n, .f 1] D a fun l =>
 ld [.n, .f 6] D a fun m =>
 (FF eA [k, l, m] a).bind fun c =>
 ld [.n, .f 10] D c.2 fun o =>
 (mD .not o).bind fun p =>
 ax p
 ((FF lk [D, (vi 5)] c.2).bind fun d =>
 (af d.1 0).bind fun q =>
 (af d.1 1).bind fun s =>
 (cD 4 b q d.2).bind fun g =>
 (aA 4 b g).bind fun t => some (Value.tuple #[t, s], g))
 ((FF bF [D, (.func (.func gJ) #[D] #[])] c.2).bind fun e =>
 (af e.1 0).bind fun w =>
 (af e.1 1).bind fun y =>
 (cD 4 b w e.2).bind fun i =>
 (aA 4 b i).bind fun z => some (Value.tuple #[z, y], i))) = some r) : FF ep [D, E] H = some r :=
 fo Tryz.func245 (by kernel_rfl) h
theorem Bc {r : Value × AH} (h : (
 ld [.n, .f 12] D H fun d =>
 ld [.n, .f 1] D H fun e =>
 (FF fq [d, e] H).bind fun a =>
 st 1 [.n, .f 13] D a.1 a.2 fun b =>
 ld [.n, .f 13] D b fun g =>
 (FF eC [g] b).bind fun c =>
 (aq .other .eql c.1 (vi 0)).bind fun i =>
 some (i, c.2)) = some r) : FF j0 [D] H = some r :=
 fo Tryz.func246 (by kernel_rfl) h
theorem yp {r : Value × AH} (h : (
 aZ [(vi 0), (.slice none 0 0), (vi 0), (vw 0)] H fun a b =>
 ld [.n, .f 12] D b fun j =>
 ld [.n, .f 1] D b fun k =>
 ld [.n, .f 13] D b fun l =>
 (FF jN [j, k, l] b).bind fun c =>
 (mD .not c.1).bind fun m =>
 ax m
 ((FF bd [D, (.func (.func bo) #[D] #[])] c.2).bind fun d =>
 (af d.1 0).bind fun o =>
 (af d.1 1).bind fun p =>
 (cD 4 a o d.2).bind fun g =>
 (aA 4 a g).bind fun q => some (Value.tuple #[q, p], g))
 ((FF cW [D, E, (vi 0)] c.2).bind fun s =>
 (FF bd [D, (.func (.func dC) #[D] #[])] s.2).bind fun e =>
 (af e.1 0).bind fun t =>
 (af e.1 1).bind fun w =>
 (cD 4 a t e.2).bind fun i =>
 (aA 4 a i).bind fun y => some (Value.tuple #[y, w], i))) = some r) : FF ch [D, E] H = some r :=
 fo Tryz.func247 (by kernel_rfl) h
theorem Bd {r : Value × AH} (h : (
 aZ [(vi 0), (.slice none 0 0), (vi 0), (vw 0)] H fun a b =>
 ld [.n, .f 0] D b fun k =>
 ld [.n, .f 1] D b fun l =>
 (FF dv [k, l] b).bind fun g =>
 st 1 [.n, .f 14] D g.1 g.2 fun c =>
 ld [.n, .f 14] D c fun m =>
 (aq .other .rem m (vw 2)).bind fun o =>
 (aq .other .eql o (vw 1)).bind fun p =>
 ax p
 ((FF bd [D, (.func (.func bo) #[D] #[])] c).bind fun d =>
 (af d.1 0).bind fun q =>
 (af d.1 1).bind fun s =>
 (cD 4 a q d.2).bind fun i =>
 (aA 4 a i).bind fun t => some (Value.tuple #[t, s], i))
 ((FF bd [D, (.func (.func cn) #[D] #[])] c).bind fun e =>
 (af e.1 0).bind fun w =>
 (af e.1 1).bind fun y =>
 (cD 4 a w e.2).bind fun j =>
 (aA 4 a j).bind fun z => some (Value.tuple #[z, y], j))) = some r) : FF dP [D, E] H = some r :=
 fo Tryz.func248 (by kernel_rfl) h
theorem pd {r : Value × AH} (h : (
 ad [.n, .f 0] D fun a =>
 (ar a H).bind fun c =>
 (FF j1 [J] H).bind fun b =>
 bZ (ar a b.2) (ar a H) <|
 (FF dB [c, E, b.1, (vw 0)] b.2).bind fun d =>
 some (Value.tuple #[], d.2)) = some r) : FF eA [D, E, J] H = some r :=
 fo Tryz.func249 (by kernel_rfl) h
theorem Bv {r : Value × AH} (h : (
 (aq .other .lss D (vw 1)).bind fun a =>
 (gV a false D).bind fun d =>
 (gB a false (aq .other .gtr d (vw 4611686018427387904))).bind fun e =>
 (aX a (vb true) e).bind fun b =>
 (gV b false E).bind fun f =>
 (gB b false (aq .other .lss f (vi 1))).bind fun g =>
 (aX b (vb true) g).bind fun c =>
 (gV c false E).bind fun i =>
 (gB c false (aq .other .gtr i (vi 65536))).bind fun j =>
 (aX c (vb true) j).bind fun k =>
 ax k
 (some (Value.tuple #[(vw 0), (vb false)], H))
 ((cH (some .u64) E).bind fun l =>
 (aq .other .quo D l).bind fun m =>
 (ii [m, (vw 1)]).bind fun n =>
 some (Value.tuple #[n, (vb true)], H))) = some r) : FF m7 [D, E] H = some r :=
 fo Tryz.func250 (by kernel_rfl) h
theorem Ba {r : Value × AH} (h : (
 aZ [(vi 0), (.slice none 0 0), (vi 0), (vw 0)] H fun c a =>
 ld [.n, .f 0] D a fun e =>
 ld [.n, .f 2] e a fun g =>
 ld [.n, .f 1] D a fun i =>
 ld [.n, .f 6] D a fun j =>
 ld [.n, .f 9] D a fun k =>
 ld [.n, .f 2, .f 1] D a fun l =>
 ld [.n, .f 11] D a fun m =>
 (FF ge [g, i, j, k, l, m] a).bind fun o =>
 (FF cW [D, E, (vi 0)] o.2).bind fun p =>
 (FF bd [D, (.func (.func aN) #[D] #[])] p.2).bind fun b =>
 (af b.1 0).bind fun q =>
 (af b.1 1).bind fun s =>
 (cD 4 c q b.2).bind fun d =>
 (aA 4 c d).bind fun t => some (Value.tuple #[t, s], d)) = some r) : FF eL [D, E] H = some r :=
 fo Tryz.func251 (by kernel_rfl) h
theorem uX {r : Value × AH} (h : (
 ad [.n, .f 0] D fun a =>
 (ar a H).bind fun d =>
 (FF cX [D, (vi 12), (vi 0)] H).bind fun b =>
 bZ (ar a b.2) (ar a H) <|
 (FF cU [d, E, b.1] b.2).bind fun c =>
 some (c.1, c.2)) = some r) : FF gN [D, E] H = some r :=
 fo Tryz.func267 (by kernel_rfl) h
theorem uW {r : Value × AH} (h : (
 (FF dL [E] H).bind fun b =>
 (aq .other .geq b.1 J).bind fun a =>
 (gV a true b.1).bind fun c =>
 (gV a true J).bind fun d =>
 (gB a true (aq .other .sub c d)).bind fun e =>
 (gV a true D).bind fun g =>
 fT a true  [.n, .f 2] g b.2 fun i =>
 (BN (yv a) true (mh i some) (some undef)).bind fun j =>
 (gB a true (cH (some .u64) j)).bind fun k =>
 (gB a true (aq .other .geq e k)).bind fun l =>
 (aX a l (vb false)).bind fun m =>
 some (m, b.2)) = some r) : FF gM [D, E, J] H = some r :=
 fo Tryz.func268 (by kernel_rfl) h
theorem N7 {r : Value × AH} (h : (
 aZ [(vi 0), (.slice none 0 0), (vi 0), (vw 0)] H fun a b =>
 ld [.n, .f 0] D b fun k =>
 ld [.n, .f 1] D b fun l =>
 (FF dv [k, l] b).bind fun g =>
 st 1 [.n, .f 13] D g.1 g.2 fun c =>
 ld [.n, .f 13] D c fun m =>
 (aq .other .rem m (vw 2)).bind fun o =>
 (aq .other .eql o (vw 1)).bind fun p =>
 ax p
 ((FF bF [D, (.func (.func cj) #[D] #[])] c).bind fun d =>
 (af d.1 0).bind fun q =>
 (af d.1 1).bind fun s =>
 (cD 4 a q d.2).bind fun i =>
 (aA 4 a i).bind fun t => some (Value.tuple #[t, s], i))
 ((FF bF [D, (.func (.func fg) #[D] #[])] c).bind fun e =>
 (af e.1 0).bind fun w =>
 (af e.1 1).bind fun y =>
 (cD 4 a w e.2).bind fun j =>
 (aA 4 a j).bind fun z => some (Value.tuple #[z, y], j))) = some r) : FF nD [D, E] H = some r :=
 fo Tryz.func269 (by kernel_rfl) h
theorem GA {r : Value × AH} (h : (
 aZ [(vi 0), (.slice none 0 0), (vi 0), (vw 0)] H fun a b =>
 ld [.n, .f 11] D b fun j =>
 ld [.n, .f 1] D b fun k =>
 ld [.n, .f 12] D b fun l =>
 (FF gc [j, k, l] b).bind fun c =>
 (mD .not c.1).bind fun m =>
 ax m
 ((FF bF [D, (.func (.func cj) #[D] #[])] c.2).bind fun d =>
 (af d.1 0).bind fun o =>
 (af d.1 1).bind fun p =>
 (cD 4 a o d.2).bind fun g =>
 (aA 4 a g).bind fun q => some (Value.tuple #[q, p], g))
 ((FF ln [D, E, (vi 0)] c.2).bind fun s =>
 (FF bF [D, (.func (.func nC) #[D] #[])] s.2).bind fun e =>
 (af e.1 0).bind fun t =>
 (af e.1 1).bind fun w =>
 (cD 4 a t e.2).bind fun i =>
 (aA 4 a i).bind fun y => some (Value.tuple #[y, w], i))) = some r) : FF jF [D, E] H = some r :=
 fo Tryz.func270 (by kernel_rfl) h
theorem Gz {r : Value × AH} (h : (
 aZ [(vi 0), (.slice none 0 0), (vi 0), (vw 0)] H fun c a =>
 ld [.n, .f 0] D a fun e =>
 ld [.n, .f 1] e a fun g =>
 ld [.n, .f 1] D a fun i =>
 (FF g7 [g, i] a).bind fun j =>
 (FF bF [D, (.func (.func lr) #[D] #[])] j.2).bind fun b =>
 (af b.1 0).bind fun k =>
 (af b.1 1).bind fun l =>
 (cD 4 c k b.2).bind fun d =>
 (aA 4 c d).bind fun m => some (Value.tuple #[m, l], d)) = some r) : FF jE [D, E] H = some r :=
 fo Tryz.func271 (by kernel_rfl) h
theorem uZ {r : Value × AH} (h : (
 (FF gP [D, E, J, (.func (.func my) #[] #[])] H).bind fun a =>
 some (a.1, a.2)) = some r) : FF jN [D, E, J] H = some r :=
 fo Tryz.func272 (by kernel_rfl) h
theorem wx {r : Value × AH} (h : (
 aZ [(vi 0), (.slice none 0 0), (vi 0), (vw 0)] H fun c a =>
 ld [.n, .f 0] D a fun e =>
 ld [.n, .f 2] e a fun g =>
 ld [.n, .f 1] D a fun i =>
 ld [.n, .f 6] D a fun j =>
 ld [.n, .f 10] D a fun k =>
 (FF g9 [g, i, j, k] a).bind fun l =>
 (FF bd [D, (.func (.func aN) #[D] #[])] l.2).bind fun b =>
 (af b.1 0).bind fun m =>
 (af b.1 1).bind fun o =>
 (cD 4 c m b.2).bind fun d =>
 (aA 4 c d).bind fun p => some (Value.tuple #[p, o], d)) = some r) : FF dC [D, E] H = some r :=
 fo Tryz.func273 (by kernel_rfl) h
theorem sM {r : Value × AH} (h : (
 ld [.n, .f 0] D H fun b =>
 gC [(0, 1), (1, 1), (2, 1)] [(vi 0), (vi 0), (vi 0)] [(0, (vi 2))] fun c =>
 (FF cU [b, E, c] H).bind fun a =>
 some (a.1, a.2)) = some r) : FF dv [D, E] H = some r :=
 fo Tryz.func274 (by kernel_rfl) h
theorem qn {r : Value × AH} (h : (
 aZ [(vi 0), (.slice none 0 0), (vi 0), (vw 0)] H fun a i =>
 (FF j0 [D] i).bind fun b =>
 ax b.1
 ((FF bd [D, (.func (.func ch) #[D] #[])] b.2).bind fun c =>
 (af c.1 0).bind fun j =>
 (af c.1 1).bind fun k =>
 (cD 4 a j c.2).bind fun e =>
 (aA 4 a e).bind fun l => some (Value.tuple #[l, k], e))
 (st 1 [.n, .f 15] D E b.2 fun m =>
 (FF bd [D, (.func (.func cz) #[D] #[])] m).bind fun d =>
 (af d.1 0).bind fun o =>
 (af d.1 1).bind fun p =>
 (cD 4 a o d.2).bind fun g =>
 (aA 4 a g).bind fun q => some (Value.tuple #[q, p], g))) = some r) : FF cn [D, E] H = some r :=
 fo Tryz.func275 (by kernel_rfl) h
theorem xv {r : Value × AH} (h : (
 aZ [(vi 0), (.slice none 0 0), (vi 0), (vw 0)] H fun a b =>
 ld [.n, .f 11] D b fun l =>
 ld [.n, .f 1] D b fun m =>
 (FF fq [l, m] b).bind fun g =>
 st 1 [.n, .f 12] D g.1 g.2 fun i =>
 ld [.n, .f 12] D i fun o =>
 (FF eC [o] i).bind fun c =>
 (aq .other .eql c.1 (vi 2)).bind fun p =>
 ax p
 ((FF bF [D, (.func (.func di) #[D] #[])] c.2).bind fun d =>
 (af d.1 0).bind fun q =>
 (af d.1 1).bind fun s =>
 (cD 4 a q d.2).bind fun j =>
 (aA 4 a j).bind fun t => some (Value.tuple #[t, s], j))
 ((FF bF [D, (.func (.func ff) #[D] #[])] c.2).bind fun e =>
 (af e.1 0).bind fun w =>
 (af e.1 1).bind fun y =>
 (cD 4 a w e.2).bind fun k =>
 (aA 4 a k).bind fun z => some (Value.tuple #[z, y], k))) = some r) : FF fg [D, E] H = some r :=
 fo Tryz.func281 (by kernel_rfl) h
theorem tf {r : Value × AH} (h : (
 (FF gP [D, E, J, (.func (.func mv) #[] #[])] H).bind fun a =>
 some (a.1, a.2)) = some r) : FF gc [D, E, J] H = some r :=
 fo Tryz.func282 (by kernel_rfl) h
theorem N5 {r : Value × AH} (h : (
 aZ [(vi 0), (.slice none 0 0), (vi 0), (vw 0)] H fun b d =>
 (FF uq [D] d).bind fun e =>
 (FF bF [D, (.func (.func lq) #[D] #[])] e.2).bind fun a =>
 (af a.1 0).bind fun f =>
 (af a.1 1).bind fun g =>
 (cD 4 b f a.2).bind fun c =>
 (aA 4 b c).bind fun i => some (Value.tuple #[i, g], c)) = some r) : FF nC [D, E] H = some r :=
 fo Tryz.func283 (by kernel_rfl) h
theorem pM {r : Value × AH} (h : (
 ad [.n, .f 0] D fun a =>
 (ar a H).bind fun c =>
 (FF bB [(vi 3), (vi 0)] H).bind fun b =>
 bZ (ar a b.2) (ar a H) <|
 (FF ig [c, E, b.1, (vw 4294967296)] b.2).bind fun d =>
 some (Value.tuple #[], d.2)) = some r) : FF g7 [D, E] H = some r :=
 fo Tryz.func284 (by kernel_rfl) h
theorem IZ {r : Value × AH} (h : (
 aZ [(vi 0), (.slice none 0 0), (vi 0), (vw 0)] H fun a b =>
 ld [.n, .f 11] D b fun j =>
 ld [.n, .f 1] D b fun k =>
 ld [.n, .f 12] D b fun l =>
 (FF gc [j, k, l] b).bind fun c =>
 (mD .not c.1).bind fun m =>
 ax m
 ((FF bF [D, (.func (.func lh) #[D] #[])] c.2).bind fun d =>
 (af d.1 0).bind fun o =>
 (af d.1 1).bind fun p =>
 (cD 4 a o d.2).bind fun g =>
 (aA 4 a g).bind fun q => some (Value.tuple #[q, p], g))
 ((FF ln [D, E, (vi 0)] c.2).bind fun s =>
 (FF bF [D, (.func (.func lj) #[D] #[])] s.2).bind fun e =>
 (af e.1 0).bind fun t =>
 (af e.1 1).bind fun w =>
 (cD 4 a t e.2).bind fun i =>
 (aA 4 a i).bind fun y => some (Value.tuple #[y, w], i))) = some r) : FF lr [D, E] H = some r :=
 fo Tryz.func285 (by kernel_rfl) h
theorem FR {r : Value × AH} (h : (
 (FF eC [D] H).bind fun a =>
 (aq .other .neq a.1 (vi 0)).bind fun d =>
 ax d
 (some (Value.tuple #[(vw 0), (vb false)], a.2))
 ((FF dL [D] a.2).bind fun c =>
 (FF mw [c.1, (vi 2)] c.2).bind fun b =>
 (af b.1 0).bind fun e =>
 (af b.1 1).bind fun f =>
 some (Value.tuple #[e, f], b.2))) = some r) : FF my [D] H = some r :=
 fo Tryz.func286 (by kernel_rfl) h
theorem qr {r : Value × AH} (h : (
 ad [.n, .f 0] D fun a =>
 (ar a H).bind fun c =>
 (FF jb [J, L] H).bind fun b =>
 bZ (ar a b.2) (ar a H) <|
 (FF dB [c, E, b.1, (vw 0)] b.2).bind fun d =>
 some (Value.tuple #[], d.2)) = some r) : FF g9 [D, E, J, L] H = some r :=
 fo Tryz.func287 (by kernel_rfl) h
theorem rC {r : Value × AH} (h : (
 aZ [(vi 0), (.slice none 0 0), (vi 0), (vw 0)] H fun b c =>
 ld [.n, .f 0] D c fun k =>
 ld [.n, .f 1] D c fun l =>
 (FF dv [k, l] c).bind fun a =>
 ad [.n, .f 14] D fun d =>
 (ar d a.2).bind fun m =>
 bZ (ar d c) (ar d a.2) <|
 (aq .other .neq a.1 m).bind fun o =>
 ax o
 ((FF bd [D, (.func (.func bo) #[D] #[])] a.2).bind fun e =>
 (af e.1 0).bind fun p =>
 (af e.1 1).bind fun q =>
 (cD 4 b p e.2).bind fun i =>
 (aA 4 b i).bind fun s => some (Value.tuple #[s, q], i))
 (ld [.n, .f 15] D a.2 fun t =>
 (FF cW [D, t, (vi 8)] a.2).bind fun w =>
 (FF bd [D, (.func (.func aN) #[D] #[])] w.2).bind fun g =>
 (af g.1 0).bind fun y =>
 (af g.1 1).bind fun z =>
 (cD 4 b y g.2).bind fun j =>
 (aA 4 b j).bind fun A => some (Value.tuple #[A, z], j))) = some r) : FF cz [D, E] H = some r :=
 fo Tryz.func288 (by kernel_rfl) h
theorem xr {r : Value × AH} (h : (
 aZ [(vi 0), (.slice none 0 0), (vi 0), (vw 0)] H fun b a =>
 ad [.n, .f 11] D fun d =>
 (ar d a).bind fun m =>
 ad [.n, .f 12] D fun e =>
 (ar e a).bind fun o =>
 ld [.n, .f 11] D a fun p =>
 ld [.n, .f 1] D a fun q =>
 (FF gN [p, q] a).bind fun c =>
 bZ (ar d c.2) (ar d a) <|
 bZ (ar e c.2) (ar e a) <|
 (FF gM [m, o, c.1] c.2).bind fun g =>
 (mD .not g.1).bind fun s =>
 ax s
 ((FF bF [D, (.func (.func cj) #[D] #[])] g.2).bind fun i =>
 (af i.1 0).bind fun t =>
 (af i.1 1).bind fun w =>
 (cD 4 b t i.2).bind fun k =>
 (aA 4 b k).bind fun y => some (Value.tuple #[y, w], k))
 (st 1 [.n, .f 14] D E g.2 fun z =>
 (FF bF [D, (.func (.func fY) #[D] #[])] z).bind fun j =>
 (af j.1 0).bind fun A =>
 (af j.1 1).bind fun B =>
 (cD 4 b A j.2).bind fun l =>
 (aA 4 b l).bind fun C => some (Value.tuple #[C, B], l))) = some r) : FF ff [D, E] H = some r :=
 fo Tryz.func289 (by kernel_rfl) h
theorem FP {r : Value × AH} (h : (
 (FF jc [D] H).bind fun c =>
 (mD .not c.1).bind fun a =>
 (gV a false D).bind fun i =>
 (gE a false c.2 (FF eC [i] c.2)).bind fun d =>
 (gB a false (aq .other .eql d.1 (vi 2))).bind fun j =>
 (aX a (vb true) j).bind fun b =>
 (gV b false D).bind fun k =>
 (gE b false d.2 (FF dL [k] d.2)).bind fun e =>
 (gB b false (aq .other .eql e.1 (vw 2305843009213693951))).bind fun l =>
 (aX b (vb true) l).bind fun m =>
 ax m
 (some (Value.tuple #[(vw 0), (vb false)], e.2))
 ((FF dL [D] e.2).bind fun g =>
 (aq .other .add g.1 (vw 1)).bind fun n =>
 (FF mw [n, (vi 1)] g.2).bind fun f =>
 (af f.1 0).bind fun o =>
 (af f.1 1).bind fun p =>
 some (Value.tuple #[o, p], f.2))) = some r) : FF mv [D] H = some r :=
 fo Tryz.func290 (by kernel_rfl) h
theorem N4 {r : Value × AH} (h : (
 ad [.n, .f 11] D fun b =>
 (ar b H).bind fun i =>
 ad [.n, .f 1] D fun c =>
 (ar c H).bind fun j =>
 ld [.n, .f 12] D H fun k =>
 (FF dL [k] H).bind fun a =>
 bZ (ar b a.2) (ar b H) <|
 bZ (ar c a.2) (ar c H) <|
 ad [.n, .f 2, .f 1] D fun d =>
 (ar d a.2).bind fun l =>
 bZ (ar d H) (ar d a.2) <|
 ad [.n, .f 2, .f 2] D fun e =>
 (ar e a.2).bind fun m =>
 bZ (ar e H) (ar e a.2) <|
 ad [.n, .f 2, .f 3] D fun g =>
 (ar g a.2).bind fun o =>
 bZ (ar g H) (ar g a.2) <|
 gC [(0, 1), (1, 1), (2, 1)] [(vi 0), (vi 0), (vi 0)] [(0, l), (1, m), (2, o)] fun p =>
 (FF kB [i, j, a.1, p] a.2).bind fun q =>
 some (Value.tuple #[], q.2)) = some r) : FF uq [D] H = some r :=
 fo Tryz.func291 (by kernel_rfl) h
theorem IY {r : Value × AH} (h : (
 aZ [(vi 0), (.slice none 0 0), (vi 0), (vw 0)] H fun g a =>
 ad [.n, .f 11] D fun c =>
 (ar c a).bind fun j =>
 ad [.n, .f 1] D fun d =>
 (ar d a).bind fun k =>
 ld [.n, .f 12] D a fun l =>
 (FF dL [l] a).bind fun b =>
 bZ (ar c b.2) (ar c a) <|
 bZ (ar d b.2) (ar d a) <|
 (FF gO [j, k, b.1] b.2).bind fun m =>
 (FF lk [D, (vi 0)] m.2).bind fun e =>
 (af e.1 0).bind fun o =>
 (af e.1 1).bind fun p =>
 (cD 4 g o e.2).bind fun i =>
 (aA 4 g i).bind fun q => some (Value.tuple #[q, p], i)) = some r) : FF lq [D, E] H = some r :=
 fo Tryz.func292 (by kernel_rfl) h
theorem IO {r : Value × AH} (h : (
 aZ [(vi 0), (.slice none 0 0), (vi 0), (vw 0)] H fun c a =>
 ld [.n, .f 0] D a fun e =>
 ld [.n, .f 1] e a fun g =>
 ld [.n, .f 1] D a fun i =>
 (FF ga [g, i] a).bind fun j =>
 (FF bF [D, (.func (.func cj) #[D] #[])] j.2).bind fun b =>
 (af b.1 0).bind fun k =>
 (af b.1 1).bind fun l =>
 (cD 4 c k b.2).bind fun d =>
 (aA 4 c d).bind fun m => some (Value.tuple #[m, l], d)) = some r) : FF lh [D, E] H = some r :=
 fo Tryz.func293 (by kernel_rfl) h
theorem IP {r : Value × AH} (h : (
 aZ [(vi 0), (.slice none 0 0), (vi 0), (vw 0)] H fun b d =>
 (FF uq [D] d).bind fun e =>
 (FF bF [D, (.func (.func jH) #[D] #[])] e.2).bind fun a =>
 (af a.1 0).bind fun f =>
 (af a.1 1).bind fun g =>
 (cD 4 b f a.2).bind fun c =>
 (aA 4 b c).bind fun i => some (Value.tuple #[i, g], c)) = some r) : FF lj [D, E] H = some r :=
 fo Tryz.func294 (by kernel_rfl) h
theorem zG {r : Value × AH} (h : (
 aZ [(vi 0), (.slice none 0 0), (vi 0), (vw 0)] H fun b c =>
 ld [.n, .f 0] D c fun k =>
 ld [.n, .f 1] D c fun l =>
 (FF dv [k, l] c).bind fun a =>
 ad [.n, .f 13] D fun d =>
 (ar d a.2).bind fun m =>
 bZ (ar d c) (ar d a.2) <|
 (aq .other .neq a.1 m).bind fun o =>
 ax o
 ((FF bF [D, (.func (.func cj) #[D] #[])] a.2).bind fun e =>
 (af e.1 0).bind fun p =>
 (af e.1 1).bind fun q =>
 (cD 4 b p e.2).bind fun i =>
 (aA 4 b i).bind fun s => some (Value.tuple #[s, q], i))
 (ld [.n, .f 14] D a.2 fun t =>
 (FF iS [D, t, (vi 9)] a.2).bind fun g =>
 (af g.1 0).bind fun w =>
 (af g.1 1).bind fun y =>
 (cD 4 b w g.2).bind fun j =>
 (aA 4 b j).bind fun z => some (Value.tuple #[z, y], j))) = some r) : FF fY [D, E] H = some r :=
 fo Tryz.func295 (by kernel_rfl) h
theorem wC {r : Value × AH} (h : (
 aZ (Value.cells L).toList H fun e c =>
 ad [.n, .f 0] D fun a =>
 (ar a c).bind fun l =>
 (FF bP [D, J] c).bind fun g =>
 bZ (ar a g.2) (ar a c) <|
 (FF cX [D, (vi 16), g.1] g.2).bind fun j =>
 bZ (ar a j.2) (ar a c) <|
 (FF fW [l, E, j.1] j.2).bind fun d =>
 ad [.n, .f 2] D fun k =>
 (ar k d.2).bind fun m =>
 (FF bP [D, J] d.2).bind fun b =>
 bZ (ar k b.2) (ar k d.2) <|
 (aA 3 e b.2).bind fun o =>
 bZ (aA 3 e d.2) (aA 3 e b.2) <|
 st 3 [.i 3 b.1] m o b.2 fun p =>
 some (Value.tuple #[], p)) = some r) : FF kB [D, E, J, L] H = some r :=
 fo Tryz.func296 (by kernel_rfl) h
theorem uY {r : Value × AH} (h : (
 ad [.n, .f 0] D fun a =>
 (ar a H).bind fun d =>
 (FF bP [D, J] H).bind fun b =>
 bZ (ar a b.2) (ar a H) <|
 (FF cX [D, (vi 15), b.1] b.2).bind fun c =>
 bZ (ar a c.2) (ar a H) <|
 (aq .other .add J (vw 1)).bind fun e =>
 (FF dB [d, E, c.1, e] c.2).bind fun g =>
 some (Value.tuple #[], g.2)) = some r) : FF gO [D, E, J] H = some r :=
 fo Tryz.func297 (by kernel_rfl) h
theorem sk {r : Value × AH} (h : (
 ad [.n, .f 0] D fun a =>
 (ar a H).bind fun c =>
 (FF bB [(vi 3), (vi 0)] H).bind fun b =>
 bZ (ar a b.2) (ar a H) <|
 (FF ig [c, E, b.1, (vw 1)] b.2).bind fun d =>
 some (Value.tuple #[], d.2)) = some r) : FF ga [D, E] H = some r :=
 fo Tryz.func298 (by kernel_rfl) h
theorem GC {r : Value × AH} (h : (
 aZ [(vi 0), (.slice none 0 0), (vi 0), (vw 0)] H fun g a =>
 ad [.n, .f 11] D fun c =>
 (ar c a).bind fun j =>
 ad [.n, .f 1] D fun d =>
 (ar d a).bind fun k =>
 ld [.n, .f 12] D a fun l =>
 (FF dL [l] a).bind fun b =>
 bZ (ar c b.2) (ar c a) <|
 bZ (ar d b.2) (ar d a) <|
 (FF gO [j, k, b.1] b.2).bind fun m =>
 (FF bF [D, (.func (.func dK) #[D] #[])] m.2).bind fun e =>
 (af e.1 0).bind fun o =>
 (af e.1 1).bind fun p =>
 (cD 4 g o e.2).bind fun i =>
 (aA 4 g i).bind fun q => some (Value.tuple #[q, p], i)) = some r) : FF jH [D, E] H = some r :=
 fo Tryz.func299 (by kernel_rfl) h
theorem BU {r : Value × AH} (h : (
 aZ [(vi 0), (.slice none 0 0), (vi 0), (vw 0)] H fun c a =>
 ld [.n, .f 0] D a fun g =>
 ld [.n, .f 1] g a fun i =>
 ld [.n, .f 1] D a fun j =>
 ld [.n, .f 6] D a fun k =>
 (FF i3 [i, j, k] a).bind fun d =>
 st 1 [.n, .f 15] D d.1 d.2 fun l =>
 (FF bF [D, (.func (.func lm) #[D] #[])] l).bind fun b =>
 (af b.1 0).bind fun m =>
 (af b.1 1).bind fun o =>
 (cD 4 c m b.2).bind fun e =>
 (aA 4 c e).bind fun p => some (Value.tuple #[p, o], e)) = some r) : FF dK [D, E] H = some r :=
 fo Tryz.func300 (by kernel_rfl) h
theorem sm {r : Value × AH} (h : (
 ad [.n, .f 0] D fun a =>
 (ar a H).bind fun e =>
 ld [.n, .f 3] D H fun g =>
 (dd g [J]).bind fun c => (FF c.1 c.2 H).bind fun b =>
 bZ (ar a b.2) (ar a H) <|
 (FF cU [e, E, b.1] b.2).bind fun d =>
 some (d.1, d.2)) = some r) : FF i3 [D, E, J] H = some r :=
 fo Tryz.func301 (by kernel_rfl) h
theorem IS {r : Value × AH} (h : (
 aZ [(vi 0), (.slice none 0 0), (vi 0), (vw 0)] H fun c a =>
 ld [.n, .f 0] D a fun e =>
 ld [.n, .f 1] e a fun g =>
 ld [.n, .f 1] D a fun i =>
 ld [.n, .f 9] D a fun j =>
 ld [.n, .f 15] D a fun k =>
 (FF iE [g, i, j, k] a).bind fun l =>
 (FF bF [D, (.func (.func lp) #[D] #[])] l.2).bind fun b =>
 (af b.1 0).bind fun m =>
 (af b.1 1).bind fun o =>
 (cD 4 c m b.2).bind fun d =>
 (aA 4 c d).bind fun p => some (Value.tuple #[p, o], d)) = some r) : FF lm [D, E] H = some r :=
 fo Tryz.func302 (by kernel_rfl) h
theorem ri {r : Value × AH} (h : (
 ad [.n, .f 0] D fun a =>
 (ar a H).bind fun e =>
 ld [.n, .f 4] D H fun g =>
 (dd g [J]).bind fun c => (FF c.1 c.2 H).bind fun b =>
 bZ (ar a b.2) (ar a H) <|
 (FF fW [e, E, b.1] b.2).bind fun d =>
 ld [.n, .f 2] D d.2 fun i =>
 (eD .int i J L d.2).bind fun j =>
 some (Value.tuple #[], j)) = some r) : FF iE [D, E, J, L] H = some r :=
 fo Tryz.func303 (by kernel_rfl) h
theorem IW {r : Value × AH} (h : (
 aZ [(vi 0), (.slice none 0 0), (vi 0), (vw 0)] H fun b a =>
 ld [.n, .f 0] D a fun j =>
 ld [.n, .f 1] j a fun k =>
 ld [.n, .f 1] D a fun l =>
 ld [.n, .f 6] D a fun m =>
 ld [.n, .f 15] D a fun o =>
 ld [.n, .f 9] D a fun p =>
 (FF iF [k, l, m, o, p] a).bind fun c =>
 (mD .not c.1).bind fun q =>
 ax q
 ((FF bF [D, (.func (.func dK) #[D] #[])] c.2).bind fun d =>
 (af d.1 0).bind fun s =>
 (af d.1 1).bind fun t =>
 (cD 4 b s d.2).bind fun g =>
 (aA 4 b g).bind fun w => some (Value.tuple #[w, t], g))
 ((FF bF [D, (.func (.func nB) #[D] #[])] c.2).bind fun e =>
 (af e.1 0).bind fun y =>
 (af e.1 1).bind fun z =>
 (cD 4 b y e.2).bind fun i =>
 (aA 4 b i).bind fun A => some (Value.tuple #[A, z], i))) = some r) : FF lp [D, E] H = some r :=
 fo Tryz.func304 (by kernel_rfl) h
theorem rj {r : Value × AH} (h : (
 ad [.n, .f 0] D fun a =>
 (ar a H).bind fun e =>
 ld [.n, .f 3] D H fun g =>
 (dd g [J]).bind fun c => (FF c.1 c.2 H).bind fun b =>
 bZ (ar a b.2) (ar a H) <|
 (cH (some .u64) G).bind fun i =>
 (aq .other .add i (vw 1)).bind fun j =>
 (FF fi [e, E, b.1, L, j] b.2).bind fun d =>
 some (d.1, d.2)) = some r) : FF iF [D, E, J, L, G] H = some r :=
 fo Tryz.func305 (by kernel_rfl) h
theorem N0 {r : Value × AH} (h : (
 aZ [(vi 0), (.slice none 0 0), (vi 0), (vw 0)] H fun c a =>
 ld [.n, .f 0] D a fun e =>
 ld [.n, .f 1] e a fun g =>
 ld [.n, .f 1] D a fun i =>
 (FF ga [g, i] a).bind fun j =>
 (FF lk [D, (vi 0)] j.2).bind fun b =>
 (af b.1 0).bind fun k =>
 (af b.1 1).bind fun l =>
 (cD 4 c k b.2).bind fun d =>
 (aA 4 c d).bind fun m => some (Value.tuple #[m, l], d)) = some r) : FF nB [D, E] H = some r :=
 fo Tryz.func306 (by kernel_rfl) h
end
theorem BG (n : Int) : IntKind.wrap .u64 n = n % 18446744073709551616 := by simp [IntKind.wrap, IntKind.bits, IntKind.signed]
theorem lC {n : Int} (h0 : 0 ≤ n) (h1 : n < 18446744073709551616) : IntKind.wrap .u64 n = n := by rw [BG]; omega
theorem nP {n : Int} (h0 : -9223372036854775808 ≤ n) (h1 : n < 9223372036854775808) : IntKind.wrap .i64 n = n := by
 simp [IntKind.wrap, IntKind.bits, IntKind.signed]
 split <;> omega
theorem qW (a : Nat) (h : a < 18446744073709551616) : (BitVec.ofInt 64 (a : Int)).toNat = a := by
 rw [BitVec.toNat_ofInt];omega
theorem IF {a b : Nat} (ha : a < 18446744073709551616) (hb : b < 18446744073709551616) : Go.bits .and .u64 (a : Int) (b : Int) = ((a &&& b : Nat) : Int) := by
 show IntKind.wrap .u64 (((BitVec.ofInt 64 (a : Int) &&& BitVec.ofInt 64 (b : Int)).toNat : Nat) : Int) = _;rw [BitVec.toNat_and, qW a ha, qW b hb];have : a &&& b ≤ a := Nat.and_le_left;exact lC (by omega) (by omega)
theorem ZT {a b : Nat} (ha : a < 18446744073709551616) (hb : b < 18446744073709551616) : a ||| b < 18446744073709551616 := Nat.or_lt_two_pow (n := 64) ha hb
theorem NW {a b : Nat} (ha : a < 18446744073709551616) (hb : b < 18446744073709551616) : Go.bits .or .u64 (a : Int) (b : Int) = ((a ||| b : Nat) : Int) := by
 show IntKind.wrap .u64 (((BitVec.ofInt 64 (a : Int) ||| BitVec.ofInt 64 (b : Int)).toNat : Nat) : Int) = _;rw [BitVec.toNat_or, qW a ha, qW b hb];have := ZT ha hb;exact lC (by omega) (by omega)
section
variable {cl : TCls}
theorem VQ {a b : Nat} (ha : a < 18446744073709551616) (hb : b < 18446744073709551616) : aq cl .and (vu a) (vu b) = some (vu (a &&& b)) := by simp only [aq, mi, if_true, IF ha hb]
theorem Rj {a b : Nat} (ha : a < 18446744073709551616) (hb : b < 18446744073709551616) : aq cl .or (vu a) (vu b) = some (vu (a ||| b)) := by simp only [aq, mi, if_true, NW ha hb]
theorem eZ {a b : Nat} (h : a + b < 18446744073709551616) : aq cl .add (vu a) (vu b) = some (vu (a + b)) := by
 simp only [aq, mi, if_true];rw [lC (by omega) (by omega)];simp
theorem NV {a b : Nat} : aq cl .mul (vu a) (vu b) = some (vu (a * b % 18446744073709551616)) := by
 simp only [aq, mi, if_true];rw [BG];simp
theorem Ct {a b : Nat} (h : b ≤ a) (ha : a < 18446744073709551616) : aq cl .sub (vu a) (vu b) = some (vu (a - b)) := by
 simp only [aq, mi, if_true];rw [lC (by omega) (by omega)];show some (Value.int .u64 ((a : Int) - (b : Int))) = some (Value.int .u64 ((a - b : Nat) : Int));rw [Int.ofNat_sub h]
theorem vt {a b : Nat} (h : b ≠ 0) (ha : a < 18446744073709551616) : aq cl .quo (vu a) (vu b) = some (vu (a / b)) := by
 simp only [aq, mi, if_true];rw [if_neg (by omega)];have h1 : (a : Int).tdiv (b : Int) = ((a / b : Nat) : Int) := (Int.ofNat_tdiv a b).symm;have h2 : a / b ≤ a := Nat.div_le_self a b;rw [h1]
 generalize a / b = q at h2
 rw [lC (by omega) (by omega)]
theorem iO {a b : Nat} (h : b ≠ 0) : aq cl .rem (vu a) (vu b) = some (vu (a % b)) := by
 simp only [aq, mi, if_true];rw [if_neg (by omega)];have h1 : (a : Int).tmod (b : Int) = ((a % b : Nat) : Int) := (Int.ofNat_tmod a b).symm;rw [h1]
theorem Cs {a : Nat} {k : IntKind} {n : Nat} (hn : n ≤ 64) : aq cl .shr (vu a) (.int k (n : Int)) = some (vu (a / 2 ^ n)) := by
 simp only [aq, lZ];rw [if_neg (by omega)];simp only [IntKind.bits, sj, Nat.min_eq_left hn]
 have : (a : Int).fdiv (2 ^ n) = ((a / 2 ^ n : Nat) : Int) := by
  rw [Int.fdiv_eq_ediv_of_nonneg _ (by exact Int.le_of_lt (Int.pow_pos (by omega)))];simp
 rw [this]
theorem Cr {a : Nat} {k : IntKind} {n : Nat} (hn : n ≤ 64) : aq cl .shl (vu a) (.int k (n : Int)) = some (vu (a * 2 ^ n % 18446744073709551616)) := by
 simp only [aq, lZ];rw [if_neg (by omega)];simp only [IntKind.bits, sj, Nat.min_eq_left hn];rw [BG];simp
theorem bu {a b : Int} (h0 : -9223372036854775808 ≤ a + b) (h1 : a + b < 9223372036854775808) : aq cl .add (vi a) (vi b) = some (vi (a + b)) := by simp only [aq, mi, if_true, nP h0 h1]
theorem nb {a b : Int} (h0 : -9223372036854775808 ≤ a - b) (h1 : a - b < 9223372036854775808) : aq cl .sub (vi a) (vi b) = some (vi (a - b)) := by simp only [aq, mi, if_true, nP h0 h1]
theorem qH {k : IntKind} {a b : Int} : aq cl .lss (.int k a) (.int k b) = some (vb (decide (a < b))) ∧ aq cl .leq (.int k a) (.int k b) = some (vb (decide (a ≤ b))) ∧ aq cl .gtr (.int k a) (.int k b) = some (vb (decide (b < a))) ∧
 aq cl .geq (.int k a) (.int k b) = some (vb (decide (b ≤ a))) ∧ aq cl .eql (.int k a) (.int k b) = some (vb (a == b)) ∧ aq cl .neq (.int k a) (.int k b) = some (vb (a != b)) := by
 simp [aq, mi]
theorem qJ {k : IntKind} {a b : Int} : aq cl .lss (.int k a) (.int k b) = some (vb (decide (a < b))) := qH.1
theorem K9 {k : IntKind} {a b : Int} : aq cl .leq (.int k a) (.int k b) = some (vb (decide (a ≤ b))) := qH.2.1
theorem DF {k : IntKind} {a b : Int} : aq cl .gtr (.int k a) (.int k b) = some (vb (decide (b < a))) := qH.2.2.1
theorem qI {k : IntKind} {a b : Int} : aq cl .geq (.int k a) (.int k b) = some (vb (decide (b ≤ a))) := qH.2.2.2.1
theorem mn {k : IntKind} {a b : Int} : aq cl .eql (.int k a) (.int k b) = some (vb (a == b)) := qH.2.2.2.2.1
theorem tz {k : IntKind} {a b : Int} : aq cl .neq (.int k a) (.int k b) = some (vb (a != b)) := qH.2.2.2.2.2
theorem BD {a : Bool} : mD .not (vb a) = some (vb (!a)) := rfl
theorem kH {a b : Int} : ii [vi a, vi b] = some (vi (max a b)) := by
 simp only [ii]
 congr 2
 split <;> omega
theorem kI {a b : Int} : ju [vi a, vi b] = some (vi (min a b)) := by
 simp only [ju]
 congr 2
 split <;> omega
end
abbrev Hp := Nat → Option AObj
def SP : Type := Hp → Prop
theorem SP.ext {P Q : SP} (h : ∀ x, P x ↔ Q x) : P = Q := funext fun x => propext (h x)
def sep (P Q : SP) : SP := fun h => ∃ a b : Hp, (∀ i, a i = none ∨ b i = none) ∧ (h = fun i => (a i).or (b i)) ∧ P a ∧ Q b
instance : Mul SP := ⟨sep⟩
def emp : SP := fun h => h = fun _ => none
theorem TU {α : Type} {a b : Option α} (h : a = none ∨ b = none) : a.or b = b.or a := by
 rcases h with rfl | rfl <;> simp
theorem u3 (P Q : SP) : P * Q = Q * P := by
 have one : ∀ (P Q : SP) h, sep P Q h → sep Q P h := by
  rintro P Q h ⟨a, b, hd, rfl, ha, hb⟩
  exact ⟨b, a, fun i => (hd i).symm, funext fun i => TU (hd i), hb, ha⟩
 exact SP.ext fun h => ⟨one P Q h, one Q P h⟩
theorem aj (P Q R : SP) : P * Q * R = P * (Q * R) := by
 apply SP.ext;intro h
 constructor
 ·rintro ⟨ab, c, hd, rfl, ⟨a, b, hd2, rfl, ha, hb⟩, hc⟩
  refine ⟨a, fun i => (b i).or (c i), fun i => ?_, funext fun i => ?_, ha, b, c, fun i => ?_, rfl, hb, hc⟩
  ·have h1 := hd i
   have h2 := hd2 i
   cases ha' : a i <;> cases hb' : b i <;> cases hc' : c i <;> simp_all
  ·exact Option.or_assoc
  ·have h1 := hd i
   have h2 := hd2 i
   cases ha' : a i <;> cases hb' : b i <;> cases hc' : c i <;> simp_all
 ·rintro ⟨a, bc, hd, rfl, ha, b, c, hd2, rfl, hb, hc⟩
  refine ⟨fun i => (a i).or (b i), c, fun i => ?_, funext fun i => ?_, ⟨a, b, fun i => ?_, rfl, ha, hb⟩, hc⟩
  ·have h1 := hd i
   have h2 := hd2 i
   cases ha' : a i <;> cases hb' : b i <;> cases hc' : c i <;> simp_all
  ·exact Option.or_assoc.symm
  ·have h1 := hd i
   have h2 := hd2 i
   cases ha' : a i <;> cases hb' : b i <;> cases hc' : c i <;> simp_all
theorem jm (P : SP) : P * emp = P := by
 apply SP.ext;intro h
 constructor
 ·rintro ⟨a, b, hd, rfl, ha, hb⟩
  have hb : b = fun _ => none := hb;subst hb
  simpa using ha
 ·intro h'
  exact ⟨h, fun _ => none, fun i => .inr rfl, by simp, h', rfl⟩
theorem nU (P : SP) : emp * P = P := by rw [u3, jm]
instance : Std.Associative (α := SP) (· * ·) := ⟨aj⟩
instance : Std.Commutative (α := SP) (· * ·) := ⟨u3⟩
theorem cI (P Q R : SP) : P * (Q * R) = Q * (P * R) := by rw [← aj, u3 P Q, aj]
def blk (b : Nat) (o : AObj) : SP := fun h => h = fun i => if i = b then some o else none
def ex {α : Type} (P : α → SP) : SP := fun h => ∃ x, P x h
def pu (p : Prop) : SP := fun h => p ∧ h = fun _ => none
def ae (P : SP) (H : AH) : Prop := ∃ h : Hp, P h ∧ ∀ i o, h i = some o → H.get i = some o
theorem ae.left {P Q : SP} {H : AH} (h : ae (P * Q) H) : ae P H := by
 obtain ⟨x, ⟨a, b, hd, rfl, ha, hb⟩, hx⟩ := h;exact ⟨a, ha, fun i o hi => hx i o (by simp [hi])⟩
theorem ae.right {P Q : SP} {H : AH} (h : ae (P * Q) H) : ae Q H := by rw [u3] at h; exact h.left
theorem ae.get {b : Nat} {o : AObj} {H : AH} (h : ae (blk b o) H) : H.get b = some o := by
 obtain ⟨x, hx, hg⟩ := h;have hx : x = _ := hx;exact hg b o (by rw [hx]; simp)
theorem ae.ex {α : Type} {F : α → SP} {R : SP} {H : AH} : ae (ex F * R) H ↔ ∃ x, ae (F x * R) H := by
 constructor
 ·rintro ⟨h, ⟨a, b, hd, rfl, ⟨x, ha⟩, hb⟩, hx⟩
  exact ⟨x, _, ⟨a, b, hd, rfl, ha, hb⟩, hx⟩
 ·rintro ⟨x, h, ⟨a, b, hd, rfl, ha, hb⟩, hx⟩
  exact ⟨_, ⟨a, b, hd, rfl, ⟨x, ha⟩, hb⟩, hx⟩
theorem ae.pu {p : Prop} {R : SP} {H : AH} : ae (pu p * R) H ↔ p ∧ ae R H := by
 constructor
 ·rintro ⟨h, ⟨a, b, hd, rfl, ⟨hp, ha⟩, hb⟩, hx⟩
  subst ha;exact ⟨hp, b, hb, fun i o hi => hx i o (by simp [hi])⟩
 ·rintro ⟨hp, h, hr, hx⟩
  exact ⟨h, ⟨fun _ => none, h, fun i => .inl rfl, by simp, ⟨hp, rfl⟩, hr⟩, hx⟩
theorem ae.emp (H : AH) : ae emp H := ⟨fun _ => none, rfl, fun i o h => by cases h⟩
theorem ae.lt {b : Nat} {o : AObj} {R : SP} {H : AH} (h : ae (blk b o * R) H) : b < H.size := AH.lt_of_get h.left.get
theorem ae.set {b : Nat} {o : AObj} {R : SP} {H : AH} (o' : AObj) (h : ae (blk b o * R) H) : ae (blk b o' * R) (H.set b o') := by
 have hb := h.lt;obtain ⟨x, ⟨a, r, hd, rfl, ha, hr⟩, hx⟩ := h;have ha : a = _ := ha;subst ha;refine ⟨_, ⟨_, r, fun i => ?_, rfl, rfl, hr⟩, fun i o2 hi => ?_⟩
 ·have := hd i
  simp only at this ⊢
  by_cases hi : i = b
  ·rw [if_pos hi] at this ⊢
   rcases this with h | h
   ·cases h
   ·exact .inr h
  ·rw [if_neg hi]; exact .inl rfl
 ·by_cases hib : i = b
  ·subst hib
   simp only [if_true, Option.some_or, Option.some.injEq] at hi;subst hi;exact AH.get_set_eq hb
  ·simp only [if_neg hib, Option.none_or] at hi
   rw [AH.get_set_ne hib];exact hx i o2 (by simp only [if_neg hib, Option.none_or]; exact hi)
theorem ae.push {R : SP} {H : AH} (o : AObj) (h : ae R H) : ae (blk H.size o * R) (H.push o) := by
 obtain ⟨r, hr, hx⟩ := h;refine ⟨_, ⟨_, r, fun i => ?_, rfl, rfl, hr⟩, fun i o2 hi => ?_⟩
 ·by_cases hi : i = H.size
  ·subst hi
   right
   cases hr' : r H.size with
   | none => rfl
   | some o' => have := AH.lt_of_get (hx _ _ hr'); omega
  ·rw [if_neg hi]; exact .inl rfl
 ·by_cases hib : i = H.size
  ·subst hib
   simp only [if_true, Option.some_or, Option.some.injEq] at hi;subst hi;exact AH.get_push_new _ _
  ·simp only [if_neg hib, Option.none_or] at hi
   have := hx i o2 hi;rw [AH.get_push_old (AH.lt_of_get this)];exact this
theorem ae.dead {b : Nat} {o : AObj} {R : SP} {H : AH} (h : ae (blk b o * R) H) : ae R (H.set b .dead) := (h.set .dead).right
class Fr (P A : SP) (R : outParam SP) : Prop where
 eq : P = A * R
instance (priority := high) Fr.refl (A : SP) : Fr A A emp := ⟨(jm A).symm⟩
instance (priority := high) Fr.emp (P : SP) : Fr P emp P := ⟨(nU P).symm⟩
instance Fr.left (P Q A R : SP) [h : Fr P A R] : Fr (P * Q) A (R * Q) := ⟨by rw [h.eq, aj]⟩
instance Fr.right (P Q A R : SP) [h : Fr Q A R] : Fr (P * Q) A (P * R) := ⟨by rw [h.eq, cI]⟩
instance (priority := high) Fr.both (P A B R1 R2 : SP) [h1 : Fr P A R1] [h2 : Fr R1 B R2] : Fr P (A * B) R2 := ⟨by rw [h1.eq, h2.eq, aj]⟩
class Hs (P : SP) (b : Nat) (o : outParam AObj) : Prop where
 get : ∀ {H : AH}, ae P H → H.get b = some o
instance Hs.one (b : Nat) (o : AObj) : Hs (blk b o) b o := ⟨ae.get⟩
instance Hs.left (P Q : SP) (b : Nat) (o : AObj) [h : Hs P b o] : Hs (P * Q) b o := ⟨fun k => h.get k.left⟩
instance Hs.right (P Q : SP) (b : Nat) (o : AObj) [h : Hs Q b o] : Hs (P * Q) b o := ⟨fun k => h.get k.right⟩
class Up (P : SP) (b : Nat) (o' : AObj) (P' : outParam SP) : Prop where
 up : ∃ o R, P = blk b o * R ∧ P' = blk b o' * R
instance Up.one (b : Nat) (o o' : AObj) : Up (blk b o) b o' (blk b o') := ⟨o, emp, (jm _).symm, (jm _).symm⟩
instance Up.left (P Q : SP) (b : Nat) (o' : AObj) (P' : SP) [h : Up P b o' P'] : Up (P * Q) b o' (P' * Q) := ⟨by
 obtain ⟨o, R, e1, e2⟩ := h.up
 exact ⟨o, R * Q, by rw [e1, aj], by rw [e2, aj]⟩⟩
instance Up.right (P Q : SP) (b : Nat) (o' : AObj) (Q' : SP) [h : Up Q b o' Q'] : Up (P * Q) b o' (P * Q') := ⟨by
 obtain ⟨o, R, e1, e2⟩ := h.up
 exact ⟨o, P * R, by rw [e1, cI], by rw [e2, cI]⟩⟩
theorem Up.set {P P' : SP} {b : Nat} {o' : AObj} [h : Up P b o' P'] {H : AH} (k : ae P H) : ae P' (H.set b o') := by
 obtain ⟨o, R, rfl, rfl⟩ := h.up;exact k.set o'
theorem ae.fr {P A R : SP} {H : AH} (h : ae P H) [f : Fr P A R] : ae (A * R) H := by rw [← f.eq]; exact h
theorem ae.to {P A R : SP} {H : AH} (h : ae P H) [f : Fr P A R] : ae A H := h.fr.left
def wp (x : OV) (Q : Value → AH → Prop) : Prop := ∃ v H, x = some (v, H) ∧ Q v H
abbrev vp (b : Nat) : Value := .pointer (some ⟨b, 0, none⟩)
abbrev rX (b o : Nat) : Value := .pointer (some ⟨b, o, none⟩)
abbrev vs (b n e : Nat) : Value := .slice (some ⟨b, 0, none⟩) n e
theorem ap {v : Value} {H : AH} {Q : Value → AH → Prop} (h : Q v H) : wp (some (v, H)) Q := ⟨v, H, rfl, h⟩
theorem wp.mono {x : OV} {Q Q' : Value → AH → Prop} (h : wp x Q) (k : ∀ v H, Q v H → Q' v H) : wp x Q' := let ⟨v, H, e, q⟩ := h; ⟨v, H, e, k v H q⟩
theorem bj {x y : OV} {Q : Value → AH → Prop} (h : ∀ r, x = some r → y = some r) (k : wp x Q) : wp y Q := let ⟨v, H, e, q⟩ := k; ⟨v, H, h _ e, q⟩
theorem ai {x y : OV} {Q : Value → AH → Prop} (h : y = x) (k : wp x Q) : wp y Q := by rw [h]; exact k
theorem aa {x : Option Value} {v : Value} {k : Value → OV} {Q : Value → AH → Prop} (e : x = some v) (h : wp (k v) Q) : wp (x.bind k) Q := by rw [e]; exact h
theorem cR {b : Bool} {x y : OV} {Q : Value → AH → Prop} (ht : b = true → wp x Q) (hf : b = false → wp y Q) : wp (ax (vb b) x y) Q := by
 cases b
 ·exact hf rfl
 ·exact ht rfl
theorem BE {x y : Option Value} {k : OV} {Q : Value → AH → Prop} (e : x = y) (h : wp k Q) : wp (bZ x y k) Q := by rw [YF e]; exact h
theorem Dw {x : Option Value} {k : OV} {Q : Value → AH → Prop} (h : wp k Q) : wp (bZ x x k) Q := BE rfl h
section
variable {P P' R : SP} {H : AH} {b o f n len e : Nat} {ro : Bool} {cs : List Value} {v x : Value} {Q : Value → AH → Prop}
theorem JF (h : ae P H) [i : Hs P b (.cells ro cs)] (hv : cs[o]? = some v) : ar (rX b o) H = some v := by
 simp only [ar, sJ, d8, bG, i.get h];exact hv
theorem JG (h : ae P H) [i : Hs P b (.cells ro cs)] (hn : o + n ≤ cs.length) : aA n (rX b o) H = some (.agg ((cs.drop o).take n).toArray) := by
 simp only [aA, sJ, d8, bG, i.get h];rw [if_pos hn]
theorem UO (h : ae P H) [i : Hs P b (.cells false cs)] (hx : x.cells.size = n) (hn : o + n ≤ cs.length) (hc : x.cells.toList.all Value.oneCell' = true) :
 cD n (rX b o) x H = some (H.set b (.cells false (splice cs o x.cells.toList))) := by
 simp only [cD, sJ, bG, i.get h];rw [if_pos ⟨hx, hn, hc⟩]
theorem bm {k : Value → AH → OV} (h : ae P H) (hk : ∀ b H', ae (blk b (.cells false cs) * P) H' → wp (k (vp b) H') Q) : wp (aZ cs H k) Q := hk _ _ (h.push _)
theorem vh {k : Value → AH → OV} (h : ae P H) (hk : ∀ b H', ae (blk b (.map [] 0) * P) H' → wp (k (.map (some b)) H') Q) : wp (B1 H k) Q := hk _ _ (h.push _)
theorem Z6 {k : Value → AH → OV} (h : ae P H) (hk : ∀ b H', ae (blk b (.cells false cs) * P) H' → wp (k (vs b len e) H') Q) : wp (ZY len e cs H k) Q := hk _ _ (h.push _)
theorem Ve {zero : List Value} {xs : List (Nat × Value)} {k : Value → AH → OV} (h : ae P H) (hf : dk (W1 e) (List.replicate len zero).flatten xs = some cs) (hk : ∀ b H', ae (blk b (.cells false cs) * P) H' → wp (k (vs b len e) H') Q) :
 wp (E5 len e zero xs H k) Q := by
 unfold E5;rw [hf];exact Z6 h hk
theorem Ih {ps : List (Nat × Nat)} {zero : List Value} {xs : List (Nat × Value)} {k : Value → OV} (hf : dk (fun i => ps[i]?) zero xs = some cs) (hk : wp (k (.agg cs.toArray)) Q) : wp (gC ps zero xs k) Q := by
 unfold gC;rw [hf];exact hk
theorem Nz {n : Nat} {a : Option Addr} {k : Value → OV} (hk : wp (k (vi n)) Q) : wp (mh (.slice a n e) k) Q := hk
theorem ZC {R : Type} {b o f : Nat} {p : List Stp} {k : Value → Option R} : ad (.f f :: p) (rX b o) k = ad p (rX b (o + f)) k := rfl
theorem Q8 {R : Type} {b o n e i : Nat} {c : Nat} {p : List Stp} {kk : IntKind} {k : Value → Option R} (h : i < n) : ad (.i e (.int kk (i : Int)) :: p) (.slice (some ⟨b, o, none⟩) n c) k = ad p (rX b (o + i * e)) k := by
 show (nF e (.slice (some ⟨b, o, none⟩) n c) (.int kk (i : Int))).bind _ = _;simp only [nF];rw [if_pos (by omega)];simp
def KU (p : List Stp) (x : Value) (b o : Nat) : Prop := ∀ {R : Type} (k : Value → Option R), ad p x k = k (rX b o)
theorem ba : KU [] (rX b o) b o := fun _ => rfl
theorem b8 {p : List Stp} {b' o' : Nat} (h : KU p (rX b o) b' o') : KU (.n :: p) (rX b o) b' o' := fun k => h k
theorem aO {p : List Stp} {b' o' : Nat} (h : KU p (rX b (o + f)) b' o') : KU (.f f :: p) (rX b o) b' o' := fun k => h k
theorem Ll {p : List Stp} {b' o' i c : Nat} {kk : IntKind} (hi : i < n) (h : KU p (rX b (o + i * e)) b' o') : KU (.i e (.int kk (i : Int)) :: p) (.slice (some ⟨b, o, none⟩) n c) b' o' := fun k => by rw [Q8 hi]; exact h k
theorem ac : KU [.n, .f f] (vp b) b f := fun k => by
 show k (rX b (0 + f)) = _;rw [Nat.zero_add]
theorem aK : KU [.f f] (vp b) b f := fun k => by
 show k (rX b (0 + f)) = _;rw [Nat.zero_add]
class Q1 (l : List Value) (o : Nat) (v : Value) (l' : outParam (List Value)) : Prop where
 eq : o < l.length ∧ l' = l.set o v
instance Q1.zero (a : Value) (l : List Value) (v : Value) : Q1 (a :: l) 0 v (v :: l) := ⟨by simp⟩
instance Q1.succ (a : Value) (l : List Value) (o : Nat) (v : Value) (l' : List Value) [h : Q1 l o v l'] : Q1 (a :: l) (o + 1) v (a :: l') := ⟨by
 obtain ⟨h1, rfl⟩ := h.eq
 exact ⟨by simp; exact h1, by simp⟩⟩
class xo (l : List Value) (o : Nat) (xs : List Value) (l' : outParam (List Value)) : Prop where
 eq : o + xs.length ≤ l.length ∧ l' = splice l o xs
instance xo.here0 (l : List Value) : xo l 0 [] l := ⟨by simp [splice]⟩
instance xo.here (a x : Value) (l xs l' : List Value) [h : xo l 0 xs l'] : xo (a :: l) 0 (x :: xs) (x :: l') := ⟨by
 obtain ⟨h1, rfl⟩ := h.eq
 refine ⟨by simp at h1 ⊢; exact h1, by simp [splice]⟩⟩
instance xo.on (a : Value) (l : List Value) (o : Nat) (x : Value) (xs l' : List Value) [h : xo l o (x :: xs) l'] : xo (a :: l) (o + 1) (x :: xs) (a :: l') := ⟨by
 obtain ⟨h1, rfl⟩ := h.eq;refine ⟨by simp at h1 ⊢; omega, ?_⟩;simp only [splice, List.take_succ_cons, List.cons_append, List.cons.injEq, true_and]
 congr 1
 rw [show o + 1 + (x :: xs).length = (o + (x :: xs).length) + 1 from by omega, List.drop_succ_cons]⟩
class BO (l : List Value) (o n : Nat) (l' : outParam (List Value)) : Prop where
 eq : o + n ≤ l.length ∧ l' = (l.drop o).take n
instance BO.nil (l : List Value) : BO l 0 0 [] := ⟨by simp⟩
instance BO.here (a : Value) (l : List Value) (n : Nat) (l' : List Value) [h : BO l 0 n l'] : BO (a :: l) 0 (n + 1) (a :: l') := ⟨by
 obtain ⟨h1, rfl⟩ := h.eq
 exact ⟨by simp at h1 ⊢; exact h1, by simp⟩⟩
instance BO.on (a : Value) (l : List Value) (o n : Nat) (l' : List Value) [h : BO l o (n + 1) l'] : BO (a :: l) (o + 1) (n + 1) l' := ⟨by
 obtain ⟨h1, rfl⟩ := h.eq
 exact ⟨by simp at h1 ⊢; omega, by simp⟩⟩
class vl (v : Value) (l : outParam (List Value)) : Prop where
 eq : v.cells.toList = l
instance vl.int (k : IntKind) (n : Int) : vl (.int k n) [.int k n] := ⟨rfl⟩
instance vl.bool (b : Bool) : vl (.bool b) [.bool b] := ⟨rfl⟩
instance vl.slice (a : Option Addr) (n c : Nat) : vl (.slice a n c) [.slice a n c] := ⟨rfl⟩
instance vl.ptr (a : Option Addr) : vl (.pointer a) [.pointer a] := ⟨rfl⟩
instance vl.func (f : Fn) (a b : Array Value) : vl (.func f a b) [.func f a b] := ⟨rfl⟩
instance vl.nilFunc : vl .nilFunc [.nilFunc] := ⟨rfl⟩
instance vl.map (m : Option Nat) : vl (.map m) [.map m] := ⟨rfl⟩
instance vl.string (s : ByteArray) : vl (.string s) [.string s] := ⟨rfl⟩
instance vl.agg (l : List Value) : vl (.agg l.toArray) l := ⟨by simp [Value.cells]⟩
class NI (ps : List (Nat × Nat)) (i : Nat) (o n : outParam Nat) : Prop where
 eq : ps[i]? = some (o, n)
instance NI.zero (p : Nat × Nat) (ps : List (Nat × Nat)) : NI (p :: ps) 0 p.1 p.2 := ⟨rfl⟩
instance NI.succ (p : Nat × Nat) (ps : List (Nat × Nat)) (i o n : Nat) [h : NI ps i o n] : NI (p :: ps) (i + 1) o n := ⟨by simpa using h.eq⟩
class Iw (l : List Value) (n : Nat) : Prop where
 eq : l.length = n
instance Iw.nil : Iw [] 0 := ⟨rfl⟩
instance Iw.cons (a : Value) (l : List Value) (n : Nat) [h : Iw l n] : Iw (a :: l) (n + 1) := ⟨by simp [h.eq]⟩
class NH (ps : List (Nat × Nat)) (zero : List Value) (xs : List (Nat × Value)) (cs : outParam (List Value)) : Prop where
 eq : dk (fun i => ps[i]?) zero xs = some cs
instance NH.nil (ps : List (Nat × Nat)) (zero : List Value) : NH ps zero [] zero := ⟨rfl⟩
instance NH.cons (ps : List (Nat × Nat)) (zero z l cs : List Value) (i o n : Nat) (v : Value) (xs : List (Nat × Value)) [h1 : NI ps i o n] [h2 : vl v l] [h3 : Iw l n] [h4 : xo zero o l z] [h5 : NH ps z xs cs] : NH ps zero ((i, v) :: xs) cs := ⟨by
 obtain ⟨h6, rfl⟩ := h4.eq;have h7 := h2.eq;have h8 := h3.eq;subst h7;simp only [dk, h1.eq, bG];rw [if_pos ⟨by simpa using h8, by rw [← h8]; exact h6⟩]
 exact h5.eq⟩
class Yr (e : Nat) (zero : List Value) (xs : List (Nat × Value)) (cs : outParam (List Value)) : Prop where
 eq : dk (W1 e) (List.replicate 1 zero).flatten xs = some cs
instance Yr.one (e : Nat) (zero l z : List Value) (v : Value) [h2 : vl v l] [h3 : Iw l e] [h4 : xo zero 0 l z] : Yr e zero [(0, v)] z := ⟨by
 obtain ⟨h6, rfl⟩ := h4.eq;have h7 := h2.eq;have h8 := h3.eq;subst h7
 have hz : (List.replicate 1 zero).flatten = zero := by simp
 rw [hz];simp only [dk, W1, bG, Nat.zero_mul]
 rw [if_pos ⟨by simpa using h8, by rw [← h8]; exact h6⟩]⟩
theorem bD {p : List Stp} {k : Value → OV} (hp : KU p x b o) (hk : wp (k (rX b o)) Q) : wp (ad p x k) Q := by rw [hp k]; exact hk
theorem ak {p : List Stp} {k : Value → OV} (h : ae P H) (hp : KU p x b o) [i : Hs P b (.cells ro cs)] (hv : cs[o]? = some v) (hk : wp (k v) Q) : wp (ld p x H k) Q := by
 unfold ld;rw [hp, JF h hv];exact hk
theorem Vd {l : List Value} {p : List Stp} {k : Value → OV} (h : ae P H) (hp : KU p x b o) [i : Hs P b (.cells ro cs)] [s : BO cs o n l] (hk : wp (k (.agg l.toArray)) Q) : wp (ldN n p x H k) Q := by
 obtain ⟨hn, rfl⟩ := s.eq;unfold ldN;rw [hp, JG h hn];exact hk
theorem bv {cs' l : List Value} {p : List Stp} {k : AH → OV} (h : ae P H) (hp : KU p x b o) [i : Hs P b (.cells false cs)] [c : vl v l] [s : xo cs o l cs'] (hx : l.length = n) (hc : l.all Value.oneCell' = true)
 [u : Up P b (.cells false cs') P'] (hk : ∀ H', ae P' H' → wp (k H') Q) : wp (st n p x v H k) Q := by
 obtain ⟨hn, rfl⟩ := s.eq;have hl := c.eq;subst hl;unfold st;rw [hp, UO h (by simpa using hx) (by simp at hx hn; omega) hc];exact hk _ (u.set h)
theorem aY {k : Value → OV} (h : ae P H) [i : Hs P b (.cells ro cs)] (hv : cs[o]? = some v) (hk : wp (k v) Q) : wp ((ar (rX b o) H).bind k) Q := aa (JF h hv) hk
theorem aV {l : List Value} {k : Value → OV} (h : ae P H) [i : Hs P b (.cells ro cs)] [s : BO cs o n l] (hk : wp (k (.agg l.toArray)) Q) : wp ((aA n (rX b o) H).bind k) Q := by
 obtain ⟨hn, rfl⟩ := s.eq;exact aa (JG h hn) hk
theorem eG {cs' l : List Value} {k : AH → OV} (h : ae P H) [i : Hs P b (.cells false cs)] [c : vl v l] [s : xo cs o l cs'] (hx : l.length = n) (hc : l.all Value.oneCell' = true)
 [u : Up P b (.cells false cs') P'] (hk : ∀ H', ae P' H' → wp (k H') Q) : wp ((cD n (rX b o) v H).bind k) Q := by
 obtain ⟨hn, rfl⟩ := s.eq;have hl := c.eq;subst hl;rw [UO h (by simpa using hx) (by simp at hx hn; omega) hc];exact hk _ (u.set h)
theorem bg {l : List Value} {k : Value → AH → OV} (h : ae P H) [c : vl x l] (hk : ∀ b H', ae (blk b (.cells false l) * P) H' → wp (k (vp b) H') Q) : wp (aZ (Value.cells x).toList H k) Q := by
 rw [c.eq]; exact bm h hk
theorem iU {ps : List (Nat × Nat)} {zero : List Value} {xs : List (Nat × Value)} {k : Value → OV} [f : NH ps zero xs cs] (hk : wp (k (.agg cs.toArray)) Q) : wp (gC ps zero xs k) Q := Ih f.eq hk
theorem Nu {zero : List Value} {xs : List (Nat × Value)} {k : Value → AH → OV} (h : ae P H) [f : Yr e zero xs cs] (hk : ∀ b H', ae (blk b (.cells false cs) * P) H' → wp (k (vs b 1 e) H') Q) : wp (E5 1 e zero xs H k) Q := Ve h f.eq hk
theorem aG {P2 : SP} {H2 : AH} {ro2 : Bool} {cs2 : List Value} {k : OV} (h : ae P H) (h2 : ae P2 H2) [i : Hs P b (.cells ro cs)] [i2 : Hs P2 b (.cells ro2 cs2)] (e : cs[o]? = cs2[o]?) (hk : wp k Q) :
 wp (bZ (ar (rX b o) H) (ar (rX b o) H2) k) Q := by
 refine BE ?_ hk;simp only [ar, sJ, d8, bG, i.get h, i2.get h2];exact e
theorem d7 {P2 : SP} {H2 : AH} {ro2 : Bool} {cs2 : List Value} {k : OV} (h : ae P H) (h2 : ae P2 H2) [i : Hs P b (.cells ro cs)] [i2 : Hs P2 b (.cells ro2 cs2)] (e : cs = cs2) (hk : wp k Q) :
 wp (bZ (aA n (rX b o) H) (aA n (rX b o) H2) k) Q := by
 refine BE ?_ hk;simp only [aA, sJ, d8, bG, i.get h, i2.get h2, e]
def Sp {α : Type} (f : Nat) (args : List Value) (P : SP) (v : α → Value) (Q : α → SP) : Prop := ∀ R H, ae (P * R) H → ∃ x H', FF f args H = some (v x, H') ∧ ae (Q x * R) H'
theorem aM {α : Type} {f : Nat} {args : List Value} {P : SP} {v : α → Value} {Q : α → SP} (h : ∀ R H, ae (P * R) H → wp (FF f args H) fun v' H' => ∃ x, v' = v x ∧ ae (Q x * R) H') : Sp f args P v Q := by
 intro R H hh;obtain ⟨v', H', e, x, rfl, hq⟩ := h R H hh;exact ⟨x, H', e, hq⟩
theorem bp {α : Type} {f : Nat} {args : List Value} {P : SP} {v : α → Value} {Q : α → SP} {g : AH → OV} (hf : ∀ (H : AH) {r : Value × AH}, g H = some r → FF f args H = some r) (k : ∀ (R : SP) (H : AH), ae (P * R) H → wp (g H) fun v' H' => ∃ x, v' = v x ∧ ae (Q x * R) H') : Sp f args P v Q := aM fun R H h => bj (fun r => hf H) (k R H h)
theorem ag {α : Type} {f : Nat} {args : List Value} {P0 : SP} {v : α → Value} {Q0 : α → SP} {k : Value × AH → OV} (h : ae P H) (s : Sp f args P0 v Q0) [fr : Fr P P0 R] (hk : ∀ x H', ae (Q0 x * R) H' → wp (k (v x, H')) Q) : wp ((FF f args H).bind k) Q := by
 obtain ⟨x, H', e, h'⟩ := s R H h.fr;rw [e];exact hk x H' h'
end
def sl (e : Nat) (v : Value) (n : Nat) (cs : List Value) : SP := ex fun ob : Option Nat => match ob with
 | none => pu (v = .slice none 0 0 ∧ n = 0 ∧ cs = [])
 | some b => pu (v = vs b n e ∧ cs.length = n * e) * blk b (.cells false cs)
theorem Nn {R : SP} {H : AH} (e : Nat) (h : ae R H) : ae (sl e (.slice none 0 0) 0 [] * R) H := ae.ex.2 ⟨none, ae.pu.2 ⟨⟨rfl, rfl, rfl⟩, h⟩⟩
theorem u6 {R : SP} {H : AH} {e b n : Nat} {cs : List Value} (hl : cs.length = n * e) (h : ae (blk b (.cells false cs) * R) H) : ae (sl e (vs b n e) n cs * R) H :=
 ae.ex.2 ⟨some b, by rw [aj]; exact ae.pu.2 ⟨⟨rfl, hl⟩, h⟩⟩
theorem re {R : SP} {H : AH} {e n : Nat} {v : Value} {cs : List Value} (h : ae (sl e v n cs * R) H) : (v = .slice none 0 0 ∧ n = 0 ∧ cs = [] ∧ ae R H) ∨ ∃ b, v = vs b n e ∧ cs.length = n * e ∧ ae (blk b (.cells false cs) * R) H := by
 obtain ⟨ob, h⟩ := ae.ex.1 h
 cases ob with
 | none =>
  obtain ⟨⟨h1, h2, h3⟩, h4⟩ := ae.pu.1 h;exact .inl ⟨h1, h2, h3, h4⟩
 | some b =>
  simp only [aj] at h;obtain ⟨⟨h1, h2⟩, h4⟩ := ae.pu.1 h;exact .inr ⟨b, h1, h2, h4⟩
class Sl (P : SP) (e : Nat) (v : Value) (n : outParam Nat) (cs : outParam (List Value)) (R : outParam SP) : Prop where
 eq : P = sl e v n cs * R
instance (priority := high) Sl.refl (e n : Nat) (v : Value) (cs : List Value) : Sl (sl e v n cs) e v n cs emp := ⟨(jm _).symm⟩
instance Sl.left (P Q R : SP) (e n : Nat) (v : Value) (cs : List Value) [h : Sl P e v n cs R] : Sl (P * Q) e v n cs (R * Q) := ⟨by rw [h.eq, aj]⟩
instance Sl.right (P Q R : SP) (e n : Nat) (v : Value) (cs : List Value) [h : Sl Q e v n cs R] : Sl (P * Q) e v n cs (P * R) := ⟨by rw [h.eq, cI]⟩
theorem Sl.fr {P R : SP} (e : Nat) {n : Nat} (v : Value) {cs : List Value} [h : Sl P e v n cs R] {H : AH} (k : ae P H) : ae (sl e v n cs * R) H := by rw [← h.eq]; exact k
section
variable {P P' R : SP} {H : AH} {b o n m e k : Nat} {ro : Bool} {cs xcs : List Value} {v s x : Value} {Q : Value → AH → Prop}
theorem Yo {bytes : Nat} {kk : Value × AH → OV} (h : ae P H) [f : Sl P e s n cs R] [i : Hs R b (.cells ro xcs)] (hl : xcs.length = k * e) (he : 0 < e) (hk0 : 0 < k) (hc : xcs.all Value.oneCell' = true)
 (hr : (n + k) * bytes ≤ dt ∧ n + k ≤ dt) (hk : ∀ a c H', ae (sl e (.slice a (n + k) c) (n + k) (cs ++ xcs) * R) H' → wp (kk (.slice a (n + k) c, H')) Q) : wp ((f3 e bytes s (vs b k e) H).bind kk) Q := by
 have hf := Sl.fr e s h;have hg := i.get hf.right
 have hrow : kV e (vs b k e) H = some (k, xcs) := by
  simp only [kV, d8, hg, bG];rw [if_neg (by omega), if_pos (by omega)];simp [← hl]
 unfold f3;rw [hrow];simp only [bG];rw [if_pos ⟨hc, he⟩]
 rcases re hf with ⟨rfl, rfl, rfl, h'⟩ | ⟨b', rfl, hcl, h'⟩
 ·simp only [and_self, if_true]
  rw [if_neg (by omega), if_pos (by simpa using hr)];simp only [bG, Nat.zero_add, List.nil_append] at hk ⊢;exact hk _ _ _ (u6 hl (h'.push _))
 ·simp only
  have hgb := h'.left.get;rw [if_neg (by omega), if_neg (by omega), hgb];simp only;rw [if_pos ⟨trivial, by omega, hr.1, hr.2⟩];simp only [bG, List.drop_zero];rw [← hcl, List.take_length];have h2 := h'.dead.push (.cells false (cs ++ xcs));rw [AH.size_set] at h2;exact hk _ _ _ (u6 (by rw [uh, hcl, hl, Nat.add_mul]) h2)
end
abbrev cE := Int × Int × Int
def eJ (l : cE) : Value := .agg #[vi l.1, vi l.2.1, vi l.2.2]
instance vl.loc (l : cE) : vl (eJ l) [vi l.1, vi l.2.1, vi l.2.2] := ⟨rfl⟩
structure Ev where
 who : Int
 kind : Int
 loc : cE
deriving DecidableEq
def Ev.cells (e : Ev) : List Value := [vi e.who, vi e.kind, vi e.loc.1, vi e.loc.2.1, vi e.loc.2.2]
def nV (E : List Ev) : List Value := E.flatMap Ev.cells
theorem DS (E : List Ev) (x : Ev) : nV (E ++ [x]) = nV E ++ x.cells := by simp [nV]
section
variable {α : Type} {enc : α → List Value} {e : Nat}
theorem pI (he : ∀ x, (enc x).length = e) (l : List α) : (l.flatMap enc).length = l.length * e := by
 induction l with
 | nil => simp
 | cons x l ih => rw [List.flatMap_cons, uh, he, ih, List.length_cons, Nat.add_mul]; omega
theorem PC (he : ∀ x, (enc x).length = e) : ∀ (l : List α) (i : Nat), (l.flatMap enc).drop (i * e) = (l.drop i).flatMap enc := by
 intro l
 induction l with
 | nil => intro i; simp
 | cons x l ih =>
  intro i
  cases i with
  | zero => simp
  | succ i =>
   rw [List.flatMap_cons, List.drop_append, he, show (i + 1) * e - e = i * e from by rw [Nat.add_mul]; omega, ih, List.drop_eq_nil_of_le (by rw [he, Nat.add_mul]; omega)]
   rfl
theorem n9 (l : List α) (i : Nat) (hi : i < l.length) : l.flatMap enc = (l.take i).flatMap enc ++ (enc l[i] ++ (l.drop (i + 1)).flatMap enc) := by
 rw [← List.flatMap_cons, ← List.flatMap_append, List.getElem_cons_drop, List.take_append_drop]
theorem G0 (l : List α) (i : Nat) (hi : i < l.length) (y : α) : (l.set i y).flatMap enc = (l.take i).flatMap enc ++ (enc y ++ (l.drop (i + 1)).flatMap enc) := by
 rw [← List.flatMap_cons, ← List.flatMap_append, List.set_eq_take_append_cons_drop, if_pos hi]
theorem qv (he : ∀ x, (enc x).length = e) (l : List α) (i : Nat) (hi : i < l.length) : ((l.take i).flatMap enc).length = i * e := by
 rw [pI he, List.length_take, Nat.min_eq_left (by omega)]
theorem EK (he : ∀ x, (enc x).length = e) (l : List α) (i : Nat) (hi : i < l.length) : ((l.flatMap enc).drop (i * e)).take e = enc l[i] := by
 rw [n9 l i hi, List.drop_append, qv he l i hi, Nat.sub_self, List.drop_zero, List.drop_eq_nil_of_le (by rw [qv he l i hi]; omega), List.nil_append, List.take_append, he, Nat.sub_self, List.take_zero, List.append_nil,
  List.take_of_length_le (by rw [he]; omega)]
theorem Aj (he : ∀ x, (enc x).length = e) (l : List α) (i : Nat) (hi : i < l.length) (f : Nat) (hf : f < e) : (l.flatMap enc)[i * e + f]? = (enc l[i])[f]? := by
 rw [n9 l i hi, List.getElem?_append_right (by rw [qv he l i hi]; omega), qv he l i hi, List.getElem?_append_left (by rw [he]; omega)]
 congr 1
 omega
theorem Ky (A X B xs : List Value) (f : Nat) (h : f + xs.length ≤ X.length) : splice (A ++ (X ++ B)) (A.length + f) xs = A ++ (splice X f xs ++ B) := by
 unfold splice;rw [List.take_append, List.take_append, List.drop_append, List.drop_append, List.take_of_length_le (by omega), List.drop_eq_nil_of_le (by omega)]
 have e1 : A.length + f - A.length = f := by omega
 have e2 : A.length + f + xs.length - A.length = f + xs.length := by omega
 have e3 : f + xs.length - X.length = 0 := by omega
 have e4 : f - X.length = 0 := by omega
 rw [e1, e2, e3, e4];simp
theorem G1 (he : ∀ x, (enc x).length = e) (l : List α) (i : Nat) (hi : i < l.length) (f : Nat) (xs : List Value) (hf : f + xs.length ≤ e) (y : α) (hy : splice (enc l[i]) f xs = enc y) :
 splice (l.flatMap enc) (i * e + f) xs = (l.set i y).flatMap enc := by
 rw [n9 l i hi, G0 l i hi, ← qv he l i hi, Ky _ _ _ _ _ (by rw [he]; exact hf), hy]
end
def ts {α : Type} (e : Nat) (enc : α → List Value) (v : Value) (l : List α) : SP := sl e v l.length (l.flatMap enc)
class Enc {α : Type} (enc : α → List Value) (e : outParam Nat) : Prop where
 len : ∀ x, (enc x).length = e
 one : ∀ x, (enc x).all Value.oneCell' = true
 pos : 0 < e
class Ts (P : SP) (s : Value) (α : outParam Type) (e : outParam Nat) (enc : outParam (α → List Value)) (l : outParam (List α)) (R : outParam SP) : Prop where
 eq : P = ts e enc s l * R
instance (priority := high) Ts.refl {α : Type} (e : Nat) (enc : α → List Value) (s : Value) (l : List α) : Ts (ts e enc s l) s α e enc l emp := ⟨(jm _).symm⟩
instance Ts.left {α : Type} (P Q R : SP) (e : Nat) (enc : α → List Value) (s : Value) (l : List α) [h : Ts P s α e enc l R] : Ts (P * Q) s α e enc l (R * Q) := ⟨by rw [h.eq, aj]⟩
instance Ts.right {α : Type} (P Q R : SP) (e : Nat) (enc : α → List Value) (s : Value) (l : List α) [h : Ts Q s α e enc l R] : Ts (P * Q) s α e enc l (P * R) := ⟨by rw [h.eq, cI]⟩
class Tu (P : SP) (s : Value) {α : Type} (l' : List α) (P' : outParam SP) : Prop where
 up : ∃ e enc, ∃ (l : List α), ∃ R, P = ts e enc s l * R ∧ P' = ts e enc s l' * R
theorem iJ {α : Type} {R : SP} {H : AH} (e : Nat) (enc : α → List Value) (h : ae R H) : ae (ts e enc (.slice none 0 0) [] * R) H := Nn e h
section
variable {α : Type} {P P' R : SP} {H : AH} {b o e : Nat} {ro : Bool} {enc : α → List Value} {l : List α} {xcs : List Value} {s : Value} {Q : Value → AH → Prop}
theorem rg (h : ae P H) [f : Ts P s α e enc l R] : (s = .slice none 0 0 ∧ l = [] ∧ ae R H) ∨ ∃ b, s = vs b l.length e ∧ ae (blk b (.cells false (l.flatMap enc)) * R) H := by
 have h' : ae (ts e enc s l * R) H := by rw [← f.eq]; exact h
 rcases re h' with ⟨h1, h2, _, h4⟩ | ⟨b, h1, _, h3⟩
 ·exact .inl ⟨h1, List.eq_nil_of_length_eq_zero h2, h4⟩
 ·exact .inr ⟨b, h1, h3⟩
theorem FL {b : Nat} [E : Enc enc e] (h : ae (blk b (.cells false (l.flatMap enc)) * R) H) : ae (ts e enc (vs b l.length e) l * R) H := u6 (pI E.len l) h
theorem qz {k : Value → OV} (h : ae P H) [f : Ts P s α e enc l R] (hk : wp (k (vi l.length)) Q) : wp (mh s k) Q := by
 rcases rg (f := f) h with ⟨rfl, rfl, _⟩ | ⟨b, rfl, _⟩
 ·exact hk
 ·exact hk
theorem jp {bytes : Nat} {kk : Value × AH → OV} (x : α) (h : ae P H) [f : Ts P s α e enc l R] [i : Hs R b (.cells ro xcs)] [E : Enc enc e] (hx : xcs = enc x)
 (hr : (l.length + 1) * bytes ≤ dt) (hb : 0 < bytes) (hk : ∀ a c H', ae (ts e enc (.slice a (l.length + 1) c) (l ++ [x]) * R) H' → wp (kk (.slice a (l.length + 1) c, H')) Q) : wp ((f3 e bytes s (vs b 1 e) H).bind kk) Q := by
 have h' : ae (sl e s l.length (l.flatMap enc) * R) H := by
  have : P = ts e enc s l * R := f.eq;rw [this] at h;exact h
 subst hx;refine Yo (k := 1) (ro := ro) (xcs := enc x) h' (by rw [E.len]; omega) E.pos (by omega) (E.one x) ⟨hr, ?_⟩ fun a c H' h2 => hk a c H' ?_
 ·have : l.length + 1 ≤ (l.length + 1) * bytes := Nat.le_mul_of_pos_right _ hb
  omega
 ·have e1 : (l ++ [x]).length = l.length + 1 := by simp
  have e2 : (l ++ [x]).flatMap enc = l.flatMap enc ++ enc x := by simp
  unfold ts;rw [e1, e2];rw [nU] at h2;exact h2
theorem Zg {k : Value → OV} {i : Nat} {kk : IntKind} (h : ae P H) [f : Ts P s α e enc l R] [E : Enc enc e] (hi : i < l.length) (hk : wp (k (.agg (enc l[i]).toArray)) Q) : wp (ldN e [.i e (.int kk (i : Int))] s H k) Q := by
 rcases rg (f := f) h with ⟨_, rfl, _⟩ | ⟨b, rfl, h'⟩
 ·simp at hi
 ·unfold ldN
  rw [Ll hi ba];have hlen := pI E.len l;have hm : (i + 1) * e ≤ l.length * e := Nat.mul_le_mul_right _ (by omega);rw [Nat.add_mul] at hm;have := JG (b := b) (cs := l.flatMap enc) (ro := false) (n := e) (o := 0 + i * e) h' (by omega);rw [this, bG, Nat.zero_add, EK E.len l i hi];exact hk
theorem Zf {k : Value → OV} {i : Nat} {kk : IntKind} {v : Value} (h : ae P H) [f : Ts P s α 1 enc l R] [E : Enc enc 1] (hi : i < l.length) (hv : enc l[i] = [v]) (hk : wp (k v) Q) : wp (ld [.i 1 (.int kk (i : Int))] s H k) Q := by
 rcases rg (f := f) h with ⟨_, rfl, _⟩ | ⟨b, rfl, h'⟩
 ·simp at hi
 ·unfold ld
  rw [Ll hi ba]
  have := JF (b := b) (o := 0 + i * 1) (v := v) h' (by
   have := Aj E.len l i hi 0 (by omega);rw [Nat.add_zero] at this
   rw [Nat.zero_add, this, hv]; rfl)
  rw [this];exact hk
theorem NC {n : Nat} {p : List Stp} {k : AH → OV} {i g : Nat} {kk : IntKind} {v : Value} {xs : List Value} (y : α) (h : ae P H) [f : Ts P s α e enc l R] [E : Enc enc e] (hi : i < l.length) (hp : p = [.i e (.int kk (i : Int))] ∧ g = 0 ∨ p = [.i e (.int kk (i : Int)), .f g])
 [c : vl v xs] (hn : xs.length = n) (hg : g + n ≤ e) (hx : xs.all Value.oneCell' = true) (hy : splice (enc l[i]) g xs = enc y) (hk : ∀ H', ae (ts e enc s (l.set i y) * R) H' → wp (k H') Q) : wp (st n p s v H k) Q := by
 rcases rg (f := f) h with ⟨_, rfl, _⟩ | ⟨b, rfl, h'⟩
 ·simp at hi
 ·have hend : KU p (vs b l.length e) b (i * e + g) := by
   rcases hp with ⟨rfl, rfl⟩ | rfl
   ·intro R' k'
    rw [Ll hi ba];simp
   ·intro R' k'
    rw [Ll hi (aO ba)];simp
  unfold st;have hc := c.eq;subst hc;rw [hend];have hlen := pI E.len l;have hm : (i + 1) * e ≤ l.length * e := Nat.mul_le_mul_right _ (by omega);rw [Nat.add_mul] at hm;rw [UO h' (by simpa using hn) (by omega) hx, bG, G1 E.len l i hi g _ (by rw [hn]; exact hg) y hy];refine hk _ ?_;have h2 := h'.set (.cells false ((l.set i y).flatMap enc));have h3 := FL (e := e) (enc := enc) (l := l.set i y) h2;rw [JE] at h3;exact h3
end
instance : Enc Ev.cells 5 := ⟨fun _ => rfl, fun _ => rfl, by omega⟩
def kR (n : Int) : List Value := [vi n]
instance : Enc kR 1 := ⟨fun _ => rfl, fun _ => rfl, by omega⟩
def Zy (H : AH) (s : Value) (e n : Nat) (cs : List Value) : Prop :=
 cs.length = n * e ∧ ((∃ a c, s = .slice a 0 c ∧ n = 0 ∧ (a = none → c = 0) ∧ (∀ x, a = some x → ∃ b o, x = ⟨b, o, none⟩)) ∨ ∃ b o ro row, s = .slice (some ⟨b, o, none⟩) n e ∧ H.get b = some (.cells ro row) ∧ o + n * e ≤ row.length ∧ (row.drop o).take (n * e) = cs)
class Rd {α : outParam Type} (P : SP) (s : Value) (e : outParam Nat) (enc : outParam (α → List Value)) (l : outParam (List α)) : Prop where
 rd : ∀ {H : AH}, ae P H → Zy H s e l.length (l.flatMap enc)
instance Rd.left {α : Type} (P Q : SP) (s : Value) (e : Nat) (enc : α → List Value) (l : List α) [r : Rd P s e enc l] : Rd (P * Q) s e enc l := ⟨fun h => r.rd h.left⟩
instance Rd.right {α : Type} (P Q : SP) (s : Value) (e : Nat) (enc : α → List Value) (l : List α) [r : Rd Q s e enc l] : Rd (P * Q) s e enc l := ⟨fun h => r.rd h.right⟩
instance Rd.own {α : Type} (s : Value) (e : Nat) (enc : α → List Value) (l : List α) : Rd (ts e enc s l) s e enc l := ⟨by
 intro H h
 have h' : ae (ts e enc s l * emp) H := by rw [jm]; exact h
 rcases re h' with ⟨rfl, h2, h3, _⟩ | ⟨b, rfl, hc, h4⟩
 ·exact ⟨by rw [h3, h2]; simp, .inl ⟨none, 0, rfl, h2, fun _ => rfl, fun x hx => by cases hx⟩⟩
 ·exact ⟨hc, .inr ⟨b, 0, false, _, rfl, h4.left.get, by omega, by rw [List.drop_zero, ← hc, List.take_length]⟩⟩⟩
section
variable {α : Type} {P R : SP} {H : AH} {e n : Nat} {enc : α → List Value} {l m : List α} {s : Value} {Q : Value → AH → Prop}
theorem tl {k : Value → OV} (h : ae P H) [r : Rd P s e enc l] (hk : wp (k (vi l.length)) Q) : wp (mh s k) Q := by
 obtain ⟨_, ⟨a, c, rfl, hn, _⟩ | ⟨b, o, ro, row, rfl, _⟩⟩ := r.rd h
 ·rw [hn] at hk; exact hk
 ·exact hk
theorem Y4 {R' : Type} {k : Value → Option R'} (h : ae P H) [r : Rd P s e enc l] : mh s k = k (vi l.length) := by
 obtain ⟨_, ⟨a, c, rfl, hn, _⟩ | ⟨b, o, ro, row, rfl, _⟩⟩ := r.rd h
 ·rw [hn]; rfl
 ·rfl
theorem y5 {k : Value → OV} (h : ae P H) [r : Rd P s e enc l] (hk : wp (k (vi l.length)) Q) : wp ((mh s some).bind k) Q := by
 rw [Y4 h]; exact hk
theorem Kf (h : ae P H) [r : Rd P s e enc l] [E : Enc enc e] {i : Nat} (hi : i < l.length) : ∃ b o ro row, s = .slice (some ⟨b, o, none⟩) l.length e ∧ H.get b = some (.cells ro row) ∧ o + l.length * e ≤ row.length ∧ (row.drop o).take (l.length * e) = l.flatMap enc := by
 obtain ⟨_, ⟨a, c, rfl, hn, _⟩ | ⟨b, o, ro, row, h1, h2⟩⟩ := r.rd h
 ·omega
 ·exact ⟨b, o, ro, row, h1, h2⟩
theorem W5 [E : Enc enc e] {row : List Value} {o i g : Nat} (h : (row.drop o).take (l.length * e) = l.flatMap enc) (hi : i < l.length) (hg : g < e) : row[o + i * e + g]? = (enc l[i])[g]? := by
 rw [← Aj E.len l i hi g hg, ← h];have hm : (i + 1) * e ≤ l.length * e := Nat.mul_le_mul_right _ (by omega);rw [Nat.add_mul] at hm;rw [List.getElem?_take, if_pos (by omega), List.getElem?_drop]
 congr 1; omega
theorem Um {i g : Nat} {kk : IntKind} {v : Value} (h : ae P H) [r : Rd P s e enc l] [E : Enc enc e] (hi : i < l.length) (hg : g < e) (hv : (enc l[i])[g]? = some v) {R' : Type} {p : List Stp} (hp : p = [.i e (.int kk (i : Int)), .f g] ∨ p = [.i e (.int kk (i : Int))] ∧ g = 0) {k : Value → Option R'} :
 ld p s H k = k v := by
 obtain ⟨b, o, ro, row, rfl, h2, h3, h4⟩ := Kf (s := s) (enc := enc) (l := l) h hi
 have hend : ad p (.slice (some ⟨b, o, none⟩) l.length e) = fun k' : Value → Option R' => k' (rX b (o + i * e + g)) := by
  rcases hp with rfl | ⟨rfl, rfl⟩
  ·funext k'; rw [Q8 hi, ZC]; rfl
  ·funext k'; rw [Q8 hi]; rfl
 unfold ld;rw [hend];show (ar (rX b (o + i * e + g)) H).bind k = k v
 have : ar (rX b (o + i * e + g)) H = some v := by
  simp only [ar, sJ, d8, bG, h2];rw [W5 h4 hi hg, hv]
 rw [this]; rfl
theorem Vh {k : Value → OV} {i g : Nat} {kk : IntKind} {v : Value} (h : ae P H) [r : Rd P s e enc l] [E : Enc enc e] (hi : i < l.length) (hg : g < e) (hv : (enc l[i])[g]? = some v) (hk : wp (k v) Q) : wp (ld [.i e (.int kk (i : Int)), .f g] s H k) Q := by
 rw [Um h hi hg hv (.inl rfl)]; exact hk
theorem FM {k : Value → OV} {i : Nat} {kk : IntKind} {v : Value} {enc : α → List Value} (h : ae P H) [r : Rd P s 1 enc l] [E : Enc enc 1] (hi : i < l.length) (hv : enc l[i] = [v]) (hk : wp (k v) Q) : wp (ld [.i 1 (.int kk (i : Int))] s H k) Q := by
 rw [Um (g := 0) (v := v) h hi (by omega) (by rw [hv]; rfl) (.inr ⟨rfl, rfl⟩)]; exact hk
theorem Vi {k : Value → OV} {i : Nat} {kk : IntKind} (h : ae P H) [r : Rd P s e enc l] [E : Enc enc e] (hi : i < l.length) (hk : wp (k (.agg (enc l[i]).toArray)) Q) : wp (ldN e [.i e (.int kk (i : Int))] s H k) Q := by
 obtain ⟨b, o, ro, row, rfl, h2, h3, h4⟩ := Kf (s := s) (enc := enc) (l := l) h hi;unfold ldN;rw [Q8 hi];have hm : (i + 1) * e ≤ l.length * e := Nat.mul_le_mul_right _ (by omega);rw [Nat.add_mul] at hm
 have : aA e (rX b (o + i * e)) H = some (.agg (enc l[i]).toArray) := by
  simp only [aA, sJ, d8, bG, h2];rw [if_pos (by omega)]
  congr 3
  rw [← EK E.len l i hi, ← h4, List.drop_take, List.drop_drop, List.take_take, Nat.min_eq_left (by omega)]
 show wp ((aA e (rX b (o + i * e)) H).bind k) Q;rw [this]; exact hk
theorem Un {lo hi : Option Value} {a b : Nat} (h : ae P H) [r : Rd P s e enc l] [E : Enc enc e] (hlo : (lo = none ∧ a = 0) ∨ ∃ k, lo = some (.int k (a : Int))) (hhi : (hi = none ∧ b = l.length) ∨ ∃ k, hi = some (.int k (b : Int))) (h1 : a ≤ b) (h2 : b ≤ l.length) (h0 : 0 < l.length) :
 ∃ s', ft e s lo hi = some s' ∧ Rd P s' e enc ((l.take b).drop a) := by
 have hlen : ((l.take b).drop a).length = b - a := by rw [List.length_drop, List.length_take, Nat.min_eq_left h2]
 have hfl : (((l.take b).drop a).flatMap enc).length = (b - a) * e := by rw [pI E.len, hlen]
 have hsub : ((l.take b).drop a).flatMap enc = ((l.flatMap enc).drop (a * e)).take ((b - a) * e) := by
  have e2 : (l.drop a).take (b - a) = (l.take b).drop a := by rw [List.drop_take]
  rw [PC E.len, ← e2]
  have gen : ∀ (m : List α) (k : Nat), k ≤ m.length → (m.take k).flatMap enc = (m.flatMap enc).take (k * e) := by
   intro m
   induction m with
   | nil => intro k hk; simp
   | cons x m ih =>
    intro k hk
    cases k with
    | zero => simp
    | succ k =>
     rw [List.take_succ_cons, List.flatMap_cons, List.flatMap_cons, ih k (by simpa using hk), List.take_append, E.len, List.take_of_length_le (l := enc x) (by rw [E.len, Nat.add_mul]; omega)]
     congr 2
     rw [Nat.add_mul, Nat.one_mul, Nat.add_sub_cancel]
  exact gen _ _ (by rw [List.length_drop]; omega)
 obtain ⟨h0, ⟨a0, c, rfl, hn, hc0, ha0⟩ | ⟨b0, o, ro, row, rfl, _⟩⟩ := r.rd h
 ·omega
 ·refine ⟨.slice (some ⟨b0, o + a * e, none⟩) (b - a) e, ?_, ⟨fun {H'} h' => ?_⟩⟩
  ·have hpos := E.pos
   have hab : (0 : Int) ≤ a ∧ (a : Int) ≤ b ∧ (b : Int) ≤ l.length := by omega
   rcases hlo with ⟨rfl, rfl⟩ | ⟨k1, rfl⟩ <;> rcases hhi with ⟨rfl, rfl⟩ | ⟨k2, rfl⟩ <;> simp only [ft, mA, bG]
   ·rw [if_pos (by omega)]; simp [hpos]
   ·rw [if_pos (by omega)]; simp [hpos]
   ·rw [if_pos (by omega)]; simp [hpos]
   ·rw [if_pos (by omega)]; simp [hpos]
  ·obtain ⟨h0', hr⟩ := r.rd h'
   refine ⟨by rw [hfl, hlen], .inr ?_⟩
   rcases hr with ⟨a1, c1, e1, hn, _, _⟩ | ⟨b1, o1, ro1, row1, e1, g1, g2, g3⟩
   ·omega
   ·obtain ⟨rfl, rfl⟩ : b1 = b0 ∧ o1 = o := by
     have := e1; simp at this; exact ⟨this.1.symm, this.2.symm⟩
    have hm : b * e ≤ l.length * e := Nat.mul_le_mul_right _ h2;have hm2 : a * e ≤ b * e := Nat.mul_le_mul_right _ h1;have hm3 : (b - a) * e = b * e - a * e := Nat.sub_mul ..;rw [hlen];refine ⟨b1, o1 + a * e, ro1, row1, rfl, g1, by omega, ?_⟩;rw [hsub, ← g3, List.drop_take, List.drop_drop, List.take_take, Nat.min_eq_left (by omega)]
end
def fix (H0 : AH) : SP := fun h => h = fun i => H0.get i
theorem PB (H0 : AH) : ae (fix H0) H0 := ⟨_, rfl, fun i o h => h⟩
class Fx (P : SP) (H0 : AH) : Prop where
 fx : ∀ {H : AH}, ae P H → ∀ b o, H0.get b = some o → H.get b = some o
instance Fx.refl (H0 : AH) : Fx (fix H0) H0 := ⟨by
 rintro H ⟨x, hx, hg⟩ b o hb
 have hx : x = _ := hx
 exact hg b o (by rw [hx]; exact hb)⟩
instance Fx.left (P Q : SP) (H0 : AH) [f : Fx P H0] : Fx (P * Q) H0 := ⟨fun h => f.fx h.left⟩
instance Fx.right (P Q : SP) (H0 : AH) [f : Fx Q H0] : Fx (P * Q) H0 := ⟨fun h => f.fx h.right⟩
theorem ks.flat {α : Type} {R : α → List Value → Prop} {enc : α → List Value} (hf : ∀ x c, R x c → c = enc x) {l : List α} {row : List Value} (h : ks R l row) : row = l.flatMap enc := by
 induction h with
 | nil => rfl
 | cons h1 _ ih => rw [hf _ _ h1, ih]; rfl
section
variable {α : Type} {P R : SP} {H : AH} {e : Nat} {enc : α → List Value} {l m : List α} {s x : Value} {Q : Value → AH → Prop}
theorem KJ {bytes : Nat} {kk : Value × AH → OV} (h : ae P H) [f : Ts P s α e enc l R] [rd : Rd R x e enc m] [E : Enc enc e] (hr : (l.length + m.length) * bytes ≤ dt) (hb : 0 < bytes)
 (hk : ∀ v H', ae (ts e enc v (l ++ m) * R) H' → wp (kk (v, H')) Q) : wp ((f3 e bytes s x H).bind kk) Q := by
 have h' : ae (ts e enc s l * R) H := by rw [← f.eq]; exact h
 obtain ⟨hc, ⟨a, c, rfl, hn, _, hax⟩ | ⟨b, o, ro, row, rfl, hg, hle, hrow⟩⟩ := rd.rd h'.right
 ·have hm : m = [] := List.eq_nil_of_length_eq_zero hn
  subst hm
  have hpr : kV e (.slice a 0 c) H = some (0, []) := by
   cases a with
   | none => simp [kV]
   | some y => obtain ⟨b, o, rfl⟩ := hax y rfl; simp [kV]
  unfold f3;rw [hpr];simp only [bG];rw [if_pos ⟨rfl, E.pos⟩]
  rcases re h' with ⟨rfl, h2, h3, h4⟩ | ⟨b', rfl, h2, h4⟩
  ·simp only [and_self, if_true, bG]
   refine hk _ _ ?_;rw [List.append_nil]; exact h'
  ·simp only [if_true, bG]
   refine hk _ _ ?_;rw [List.append_nil]; exact h'
 ·by_cases hm0 : m.length = 0
  ·have hm : m = [] := List.eq_nil_of_length_eq_zero hm0
   subst hm;unfold f3
   have hpr : kV e (.slice (some ⟨b, o, none⟩) ([] : List α).length e) H = some (0, []) := by simp [kV]
   rw [hpr];simp only [bG];rw [if_pos ⟨rfl, E.pos⟩]
   rcases re h' with ⟨rfl, h2, h3, h4⟩ | ⟨b', rfl, h2, h4⟩
   ·simp only [and_self, if_true, bG]
    refine hk _ _ ?_;rw [List.append_nil]; exact h'
   ·simp only [if_true, bG]
    refine hk _ _ ?_;rw [List.append_nil]; exact h'
  ·have hpr : kV e (.slice (some ⟨b, o, none⟩) m.length e) H = some (m.length, m.flatMap enc) := by
    simp only [kV, d8, hg, bG];rw [if_neg hm0, if_pos hle, hrow]
   have hall : (m.flatMap enc).all Value.oneCell' = true := by
    rw [List.all_eq_true];intro y hy;obtain ⟨z, _, hz⟩ := List.mem_flatMap.1 hy;exact List.all_eq_true.1 (E.one z) y hz
   have hroom : l.length + m.length ≤ (l.length + m.length) * bytes := Nat.le_mul_of_pos_right _ hb;unfold f3;rw [hpr];simp only [bG];rw [if_pos ⟨hall, E.pos⟩]
   have e1 : (l ++ m).length = l.length + m.length := by simp
   have e2 : (l ++ m).flatMap enc = l.flatMap enc ++ m.flatMap enc := by simp
   have hmul : (l.length + m.length) * e = l.length * e + m.length * e := Nat.add_mul ..
   rcases re h' with ⟨rfl, h2, h3, h4⟩ | ⟨b', rfl, h2, h4⟩
   ·simp only [and_self, if_true]
    rw [h2, Nat.zero_add] at hr hroom;rw [if_neg hm0, if_pos ⟨hr, by omega⟩];simp only [bG];refine hk _ _ ?_;unfold ts;rw [e1, e2, h3, h2, List.nil_append, Nat.zero_add];exact u6 hc (h4.push _)
   ·have hgb := h4.left.get
    have hpos := E.pos;simp only;rw [if_neg hm0, if_neg (by omega), hgb];simp only;rw [if_pos ⟨trivial, by omega, hr, by omega⟩];simp only [bG, List.drop_zero];rw [← h2, List.take_length];have h5 := h4.dead.push (.cells false (l.flatMap enc ++ m.flatMap enc));rw [AH.size_set] at h5;refine hk _ _ ?_;unfold ts;rw [e1, e2];exact u6 (by rw [uh, h2, hc]; omega) h5
theorem Be {z : α} {zero : List Value} (hz : enc z = zero) : ∀ n : Nat, (List.replicate n zero).flatten = (List.replicate n z).flatMap enc := by
 intro n
 induction n with
 | zero => rfl
 | succ n ih => rw [List.replicate_succ, List.replicate_succ, List.flatten_cons, List.flatMap_cons, ih, hz]
theorem KH {zero : List Value} {bytes n : Nat} {kk : Value × AH → OV} (z : α) (h : ae P H) [E : Enc enc e] (hz : enc z = zero) (hr : n * bytes ≤ dt) (hb : 0 < bytes) (hk : ∀ b H', ae (ts e enc (vs b n e) (List.replicate n z) * P) H' → wp (kk (vs b n e, H')) Q) :
 wp ((mC zero e bytes (vi n) (vi n) H).bind kk) Q := by
 have hroom : n ≤ n * bytes := Nat.le_mul_of_pos_right _ hb
 have hz2 : zero.length = e := by rw [← hz, E.len]
 unfold mC;simp only [sj];rw [if_pos ⟨by omega, trivial, hr, by omega, E.pos, hz2⟩];simp only [bG];refine hk _ _ ?_;have h2 := h.push (.cells false (List.replicate n zero).flatten);rw [Be hz] at h2 ⊢;have h3 := FL (e := e) (enc := enc) (l := List.replicate n z) h2;rw [List.length_replicate] at h3;exact h3
end
class KeyE {κ : Type} [DecidableEq κ] (cl : outParam KCls) (ek : κ → Value) : Prop where
 eq : ∀ a b, kc cl (ek a) (ek b) = some (decide (a = b))
 ok : ∀ a, iR cl (ek a) = true
inductive Ents {κ : Type} (ek : κ → Value) : List (κ × Value) → List MapEntry → Prop
 | nil : Ents ek [] []
 | cons {p : κ × Value} {l : List (κ × Value)} {e : MapEntry} {es : List MapEntry} (h1 : e.key = ek p.1) (h2 : e.val = p.2) (k : Ents ek l es) : Ents ek (p :: l) (e :: es)
section
variable {κ : Type} [DecidableEq κ] {ek : κ → Value} {cl : KCls}
def E0 : List (κ × Value) → κ → Option Value
 | [], _ => none
 | p :: al, k => if k = p.1 then some p.2 else E0 al k
def E3 : List (κ × Value) → κ → Value → List (κ × Value)
 | [], k, v => [(k, v)]
 | p :: al, k, v => if k = p.1 then (k, v) :: al else p :: E3 al k v
theorem Tw (k : κ) (v : Value) (x : κ) : ∀ al, E0 (E3 al k v) x = if x = k then some v else E0 al x := by
 intro al
 induction al with
 | nil => simp only [E3, E0]
 | cons p al ih =>
  simp only [E3]
  by_cases hk : k = p.1
  ·rw [if_pos hk]
   simp only [E0]
   by_cases hx : x = k
   ·simp [hx]
   ·have : ¬ x = p.1 := by rw [← hk]; exact hx
    simp [hx, this]
  ·rw [if_neg hk]
   simp only [E0, ih]
   by_cases hx : x = p.1
   ·have : ¬ x = k := by rw [hx]; exact fun h => hk h.symm
    simp [hx];intro h; exact absurd h.symm hk
   ·simp [hx]
theorem YT [K : KeyE cl ek] {al : List (κ × Value)} {es : List MapEntry} (h : Ents ek al es) (k : κ) : ∀ i, ∃ r, br cl (ek k) es i = some r ∧ r.map (·.2) = E0 al k := by
 induction h with
 | nil => intro i; exact ⟨none, rfl, rfl⟩
 | @cons p l e es h1 h2 _ ih =>
  intro i;simp only [br, h1, K.eq, bG, E0]
  by_cases hp : k = p.1
  ·rw [if_pos (by simp [hp]), if_pos hp]
   exact ⟨_, rfl, by simp [h2]⟩
  ·rw [if_neg (by simp [hp]), if_neg hp]
   exact ih (i + 1)
theorem ZP [K : KeyE cl ek] {al : List (κ × Value)} {es : List MapEntry} (h : Ents ek al es) (k : κ) (v : Value) : ∀ i, match br cl (ek k) es i with
 | some (some (j, _)) => i ≤ j ∧ Ents ek (E3 al k v) (es.modify (j - i) fun e => { e with key := ek k, val := v })
 | some none => ∀ born, Ents ek (E3 al k v) (es ++ [{ key := ek k, val := v, born := born }])
 | none => False := by
 induction h with
 | nil => intro i born; exact .cons rfl rfl .nil
 | @cons p l e es h1 h2 hh ih =>
  intro i;simp only [br, h1, K.eq, bG, E3]
  by_cases hp : k = p.1
  ·rw [if_pos (show decide (k = p.1) = true by simp [hp]), if_pos hp]
   refine ⟨bK _, ?_⟩;simp only [Nat.sub_self];exact .cons rfl rfl hh
  ·rw [if_neg (show ¬ decide (k = p.1) = true by simp [hp]), if_neg hp]
   have hi := ih (i + 1)
   cases hf : br cl (ek k) es (i + 1) with
   | none => rw [hf] at hi; exact hi
   | some r =>
    rw [hf] at hi
    cases r with
    | none => intro born; exact .cons h1 h2 (hi born)
    | some r =>
     obtain ⟨j, v'⟩ := r;simp only at hi ⊢;refine ⟨by omega, ?_⟩;rw [show j - i = (j - (i + 1)) + 1 from by omega];exact .cons h1 h2 hi.2
def QT (ek : κ → Value) (b : Nat) (f : κ → Option Value) : SP := ex fun g : List (κ × Value) × List MapEntry × Nat => pu (Ents ek g.1 g.2.1 ∧ ∀ k, E0 g.1 k = f k) * blk b (.map g.2.1 g.2.2)
class Mp (P : SP) (b : Nat) {κ : Type} [DecidableEq κ] (ek : κ → Value) (f : outParam (κ → Option Value)) (R : outParam SP) : Prop where
 eq : P = QT ek b f * R
instance (priority := high) Mp.refl {κ : Type} [DecidableEq κ] (b : Nat) (ek : κ → Value) (f : κ → Option Value) : Mp (QT ek b f) b ek f emp := ⟨(jm _).symm⟩
instance Mp.left {κ : Type} [DecidableEq κ] (P Q R : SP) (b : Nat) (ek : κ → Value) (f : κ → Option Value) [h : Mp P b ek f R] : Mp (P * Q) b ek f (R * Q) := ⟨by rw [h.eq, aj]⟩
instance Mp.right {κ : Type} [DecidableEq κ] (P Q R : SP) (b : Nat) (ek : κ → Value) (f : κ → Option Value) [h : Mp Q b ek f R] : Mp (P * Q) b ek f (P * R) := ⟨by rw [h.eq, cI]⟩
theorem MR {R : SP} {H : AH} {b : Nat} (ek : κ → Value) (h : ae (blk b (.map [] 0) * R) H) : ae (QT ek b (fun _ => none) * R) H :=
 ae.ex.2 ⟨([], [], 0), by rw [aj]; exact ae.pu.2 ⟨⟨.nil, fun _ => rfl⟩, h⟩⟩
theorem NA {P R : SP} {H : AH} {b : Nat} {f : κ → Option Value} {zero : Value} {kk : Value → OV} {Q : Value → AH → Prop} [K : KeyE cl ek] (k : κ) (h : ae P H) [m : Mp P b ek f R]
 (hk : wp (kk ((f k).getD zero)) Q) : wp ((cY cl zero (.map (some b)) (ek k) false H).bind kk) Q := by
 have h' : ae (QT ek b f * R) H := by rw [← m.eq]; exact h
 obtain ⟨⟨al, es, c⟩, h'⟩ := ae.ex.1 h';rw [aj, ae.pu] at h';obtain ⟨⟨he, hf⟩, h'⟩ := h';dsimp only at he hf h';obtain ⟨r, h1, h2⟩ := YT he k 0;refine aa ?_ hk;unfold cY;rw [if_pos (K.ok k)];simp only [jO, h'.left.get, bG, h1, eR];rw [← hf k, ← h2]
 cases r <;> rfl
theorem Vg {P R : SP} {H : AH} {b : Nat} {f : κ → Option Value} {kk : AH → OV} {Q : Value → AH → Prop} [K : KeyE cl ek] (k : κ) (v : Value) (h : ae P H) [m : Mp P b ek f R]
 (hk : ∀ H', ae (QT ek b (fun x => if x = k then some v else f x) * R) H' → wp (kk H') Q) : wp ((eD cl (.map (some b)) (ek k) v H).bind kk) Q := by
 have h' : ae (QT ek b f * R) H := by rw [← m.eq]; exact h
 obtain ⟨⟨al, es, c⟩, h'⟩ := ae.ex.1 h';rw [aj, ae.pu] at h';obtain ⟨⟨he, hf⟩, h'⟩ := h';dsimp only at he hf h';have hu := ZP he k v 0;unfold eD;rw [if_pos (K.ok k)];simp only [h'.left.get]
 have fin : ∀ {es' : List MapEntry} {c' : Nat}, Ents ek (E3 al k v) es' → ae (QT ek b (fun x => if x = k then some v else f x) * R) (H.set b (.map es' c')) := fun {es'} {c'} he' =>
  ae.ex.2 ⟨(E3 al k v, es', c'), by
   rw [aj]
   exact ae.pu.2 ⟨⟨he', fun x => by rw [Tw, hf]⟩, h'.set _⟩⟩
 cases hf' : br cl (ek k) es 0 with
 | none => rw [hf'] at hu; exact absurd hu id
 | some r =>
  rw [hf'] at hu
  cases r with
  | none =>
   simp only [eR, bG];exact hk _ (fin (hu c))
  | some r =>
   obtain ⟨j, v'⟩ := r;simp only [eR, bG];exact hk _ (fin hu.2)
end
section
variable {cl : TCls} {w : Nat}
theorem Yk : aq cl .shr (vu w) (vw 61) = some (vu (w / 2305843009213693952)) := by
 have := Cs (cl := cl) (a := w) (k := .u64) (n := 61) (by omega)
 simpa using this
theorem Z1 : aq cl .shr (vu w) (vw 32) = some (vu (w / 4294967296)) := by
 have := Cs (cl := cl) (a := w) (k := .u64) (n := 32) (by omega)
 simpa using this
theorem KY (k : Nat) (hw : w < 18446744073709551616) (hk : 2 ^ k - 1 < 18446744073709551616) : aq cl .and (vu w) (.int .u64 ((2 ^ k - 1 : Nat) : Int)) = some (vu (w % 2 ^ k)) := by
 have := VQ (cl := cl) hw hk;rw [Nat.and_two_pow_sub_one_eq_mod] at this;exact this
theorem ZE (hw : w < 18446744073709551616) : aq cl .and (vu w) (vw 2305843009213693951) = some (vu (w % 2305843009213693952)) := by
 have := KY (cl := cl) 61 hw (by omega)
 simpa using this
theorem ZD (hw : w < 18446744073709551616) : aq cl .and (vu w) (vw 4294967295) = some (vu (w % 4294967296)) := by
 have := KY (cl := cl) 32 hw (by omega)
 simpa using this
theorem Dc (n : Nat) (h : n ≠ 0) : aq cl .rem (vu w) (.int .u64 (n : Int)) = some (vu (w % n)) := iO h
theorem Yh (n : Nat) (h : n ≠ 0) (hw : w < 18446744073709551616) : aq cl .quo (vu w) (.int .u64 (n : Int)) = some (vu (w / n)) := vt h hw
theorem Yc (n : Nat) : aq cl .mul (vu w) (.int .u64 (n : Int)) = some (vu (w * n % 18446744073709551616)) := NV
theorem ZS (h : w * 2305843009213693952 < 18446744073709551616) : aq cl .mul (vu w) (vw 2305843009213693952) = some (vu (w * 2305843009213693952)) := by
 have := Yc (cl := cl) (w := w) 2305843009213693952;rw [Nat.mod_eq_of_lt h] at this
 simpa using this
theorem ZR : aq cl .mul (vu w) (vw 4294967296) = some (vu (w * 4294967296 % 18446744073709551616)) := by
 have := Yc (cl := cl) (w := w) 4294967296
 simpa using this
theorem ZX : aq cl .rem (vu w) (vw 2305843009213693952) = some (vu (w % 2305843009213693952)) := by
 have := Dc (cl := cl) (w := w) 2305843009213693952 (by omega)
 simpa using this
theorem ZV (hw : w < 18446744073709551616) : aq cl .quo (vu w) (vw 2305843009213693952) = some (vu (w / 2305843009213693952)) := by
 have := Yh (cl := cl) (w := w) 2305843009213693952 (by omega) hw
 simpa using this
theorem ZW : aq cl .rem (vu w) (vw 4294967296) = some (vu (w % 4294967296)) := by
 have := Dc (cl := cl) (w := w) 4294967296 (by omega)
 simpa using this
theorem ZU (hw : w < 18446744073709551616) : aq cl .quo (vu w) (vw 4294967296) = some (vu (w / 4294967296)) := by
 have := Yh (cl := cl) (w := w) 4294967296 (by omega) hw
 simpa using this
theorem ik {w : Nat} (hw : w < 9223372036854775808) : cH (some .i64) (vu w) = some (vi (w : Int)) := by
 simp only [cH];rw [nP (by omega) (by omega)]
theorem dH {n : Int} (h0 : 0 ≤ n) (h1 : n < 18446744073709551616) : cH (some .u64) (vi n) = some (vu n.toNat) := by
 simp only [cH];rw [lC h0 h1];show _ = some (Value.int .u64 ((n.toNat : Nat) : Int));rw [Int.toNat_of_nonneg h0]
end
theorem Ye {cl : TCls} {a b : Nat} : aq cl .neq (vu a) (vu b) = some (vb (a != b)) := by
 rw [tz]
 congr 2
 rw [Bool.eq_iff_iff];simp;omega
theorem XL {cl : TCls} {a b : Nat} : aq cl .eql (vu a) (vu b) = some (vb (a == b)) := by
 rw [mn]
 congr 2
 rw [Bool.eq_iff_iff];simp;omega
theorem XJ {cl : TCls} {a b : Nat} : aq cl .add (vu a) (vu b) = some (vu ((a + b) % 18446744073709551616)) := by
 simp only [aq, mi, if_true];rw [BG];simp
theorem RH (a b : cE) : aq (.flat 3) .eql (.agg #[vi a.1, vi a.2.1, vi a.2.2]) (.agg #[vi b.1, vi b.2.1, vi b.2.2]) = some (vb (a == b)) := by
 show (oo (.flat 3) (.agg #[vi a.1, vi a.2.1, vi a.2.2]) (.agg #[vi b.1, vi b.2.1, vi b.2.2])).map (fun b => Value.bool b) = _;simp only [oo];rw [if_pos ⟨rfl, rfl⟩];simp only [bI, if_true, eR, Bool.and_true]
 rfl
theorem Cq {cl : TCls} {a b : Int} (h0 : -9223372036854775808 ≤ a * b) (h1 : a * b < 9223372036854775808) : aq cl .mul (vi a) (vi b) = some (vi (a * b)) := by simp only [aq, mi, if_true, nP h0 h1]
section
variable {cl : TCls} {k : IntKind} {a b : Int}
theorem eO (h : a < b) : aq cl .lss (.int k a) (.int k b) = some (vb true) := by rw [qJ, dI h]
theorem db (h : ¬ a < b) : aq cl .lss (.int k a) (.int k b) = some (vb false) := by rw [qJ, dQ h]
theorem Tt (h : a ≤ b) : aq cl .leq (.int k a) (.int k b) = some (vb true) := by rw [K9, dI h]
theorem Tq (h : ¬ a ≤ b) : aq cl .leq (.int k a) (.int k b) = some (vb false) := by rw [K9, dQ h]
theorem pK (h : b < a) : aq cl .gtr (.int k a) (.int k b) = some (vb true) := by rw [DF, dI h]
theorem iQ (h : ¬ b < a) : aq cl .gtr (.int k a) (.int k b) = some (vb false) := by rw [DF, dQ h]
theorem wU (h : b ≤ a) : aq cl .geq (.int k a) (.int k b) = some (vb true) := by rw [qI, dI h]
theorem pJ (h : ¬ b ≤ a) : aq cl .geq (.int k a) (.int k b) = some (vb false) := by rw [qI, dQ h]
theorem bw (h : a = b) : aq cl .eql (.int k a) (.int k b) = some (vb true) := by rw [mn, beq_iff_eq.2 h]
theorem aD (h : ¬ a = b) : aq cl .eql (.int k a) (.int k b) = some (vb false) := by rw [mn, beq_eq_false_iff_ne.2 h]
theorem Hi (h : ¬ a = b) : aq cl .neq (.int k a) (.int k b) = some (vb true) := by rw [tz, bne_iff_ne.2 h]
theorem p7 (h : a = b) : aq cl .neq (.int k a) (.int k b) = some (vb false) := by
 rw [tz];simp [h]
end
theorem BY {c : Bool} {e : Option Value} {v : Value} (h : e = some v) : gB (vb c) c e = some v := by
 cases c <;> (rw [h]; rfl)
theorem X7 {v : Value} : gV (vb true) true v = some v := rfl
theorem X4 {v : Value} : gV (vb false) false v = some v := rfl
theorem X6 {v : Value} : gV (vb true) false v = some undef := rfl
theorem X5 {v : Value} : gV (vb false) true v = some undef := rfl
theorem X3 {e : Option Value} : gB (vb true) false e = some undef := rfl
theorem X1 {e : Option Value} : gB (vb false) true e = some undef := rfl
section
variable {H : AH} {e : Option (Value × AH)} {k : Value × AH → OV} {Q : Value → AH → Prop} {x : Option Value} {kv : Value → OV}
theorem Ny (h : wp (e.bind k) Q) : wp ((gE (vb true) true H e).bind k) Q := h
theorem Nv (h : wp (e.bind k) Q) : wp ((gE (vb false) false H e).bind k) Q := h
theorem Nx (h : wp (k (undef, H)) Q) : wp ((gE (vb true) false H e).bind k) Q := h
theorem Nw (h : wp (k (undef, H)) Q) : wp ((gE (vb false) true H e).bind k) Q := h
theorem Il (h : wp (x.bind kv) Q) : wp ((BN (yv (vb true)) true x (some undef)).bind kv) Q := h
theorem Ii (h : wp (x.bind kv) Q) : wp ((BN (yv (vb false)) false x (some undef)).bind kv) Q := h
theorem Ik (h : wp (kv undef) Q) : wp ((BN (yv (vb true)) false x (some undef)).bind kv) Q := h
theorem Ij (h : wp (kv undef) Q) : wp ((BN (yv (vb false)) true x (some undef)).bind kv) Q := h
end
theorem G2 (c : Bool) (e : Option Value) : gB (vb c) c e = e := by cases c <;> cases e <;> rfl
theorem JA {R : Type} (c : Bool) (k : Value → Option R) : ∀ (p : List Stp) (x : Value), EM (vb c) c p x k = ad p x k := by
 intro p
 induction p with
 | nil => intro x; rfl
 | cons s p ih => intro x; cases s <;> simp only [EM, ad, G2, ih]
theorem MJ {R : Type} (c : Bool) (k : Value → Option R) (hk : ∀ x, k x = k undef) : ∀ (p : List Stp) (x : Value), EM (vb c) (!c) p x k = k undef := by
 intro p
 induction p with
 | nil => intro x; exact hk x
 | cons s p ih => intro x; cases c <;> cases s <;> exact ih undef
section
variable {H : AH} {p : List Stp} {x : Value} {k : Value → OV} {Q : Value → AH → Prop} {n : Nat}
theorem Tg {R : Type} (c : Bool) (k : Value → Option R) : fT (vb c) c p x H k = ld p x H k := by simp only [fT, ld, JA, G2]
theorem MK {R : Type} (c : Bool) (k : Value → Option R) : rh (vb c) c n p x H k = ldN n p x H k := by simp only [rh, ldN, JA, G2]
theorem ML {R : Type} (c : Bool) (k : Value → Option R) : fT (vb c) (!c) p x H k = k undef := by
 unfold fT
 rw [MJ c _ (fun x => by cases c <;> rfl)]
 cases c <;> rfl
theorem G3 {R : Type} (c : Bool) (k : Value → Option R) : rh (vb c) (!c) n p x H k = k undef := by
 unfold rh
 rw [MJ c _ (fun x => by cases c <;> rfl)]
 cases c <;> rfl
theorem Vc (h : wp (ld p x H k) Q) : wp (fT (vb true) true p x H k) Q := by rw [Tg]; exact h
theorem U9 (h : wp (ld p x H k) Q) : wp (fT (vb false) false p x H k) Q := by rw [Tg]; exact h
theorem Vb (h : wp (k undef) Q) : wp (fT (vb true) false p x H k) Q := by rw [show (false : Bool) = !true from rfl, ML]; exact h
theorem Va (h : wp (k undef) Q) : wp (fT (vb false) true p x H k) Q := by rw [show fT (vb false) true p x H k = fT (vb false) (!false) p x H k from rfl, ML]; exact h
theorem QH (h : wp (ldN n p x H k) Q) : wp (rh (vb true) true n p x H k) Q := by rw [MK]; exact h
theorem QE (h : wp (ldN n p x H k) Q) : wp (rh (vb false) false n p x H k) Q := by rw [MK]; exact h
theorem QG (h : wp (k undef) Q) : wp (rh (vb true) false n p x H k) Q := by rw [show rh (vb true) false n p x H k = rh (vb true) (!true) n p x H k from rfl, G3]; exact h
theorem QF (h : wp (k undef) Q) : wp (rh (vb false) true n p x H k) Q := by rw [show rh (vb false) true n p x H k = rh (vb false) (!false) n p x H k from rfl, G3]; exact h
theorem la {e : Option Value} (h : wp (e.bind k) Q) : wp ((gB (vb true) true e).bind k) Q := by rw [G2]; exact h
theorem Xp {e : Option Value} (h : wp (e.bind k) Q) : wp ((gB (vb false) false e).bind k) Q := by rw [G2]; exact h
theorem U8 {a b : OV} (h : wp a Q) : wp (ax (vb true) a b) Q := h
theorem U7 {a b : OV} (h : wp b Q) : wp (ax (vb false) a b) Q := h
end
theorem aaU {b : Bool} {v : Value} : gV undef b v = some undef := rfl
theorem aaT {b : Bool} {e : Option Value} : gB undef b e = some undef := rfl
theorem ZN {R : Type} (b : Bool) (k : Value → Option R) (hk : ∀ x, k x = k undef) : ∀ (p : List Stp) (x : Value), EM undef b p x k = k undef := by
 intro p
 induction p with
 | nil => intro x; exact hk x
 | cons s p ih => intro x; cases s <;> exact ih undef
theorem ZO {R : Type} {b : Bool} {p : List Stp} {x : Value} {H : AH} (k : Value → Option R) : fT undef b p x H k = k undef := by
 unfold fT;rw [ZN b _ (fun x => rfl)]
 rfl
theorem Xq {b : Bool} {p : List Stp} {x : Value} {H : AH} {k : Value → OV} {Q : Value → AH → Prop} (h : wp (k undef) Q) : wp (fT undef b p x H k) Q := by rw [ZO]; exact h
class Gd (x : OV) (y : outParam OV) : Prop where
 go : ∀ {Q : Value → AH → Prop}, wp y Q → wp x Q
section
variable {a b v : Value} {k : Value → OV} {H : AH} {e : Option (Value × AH)} {e1 : Option Value} {ke : Value × AH → OV} {p : List Stp} {x : Value} {n : Nat} {c : Bool} {o1 o2 : OV}
instance : Gd ((aX (vb true) a b).bind k) (k a) := ⟨aa (T4 _ _)⟩
instance : Gd ((aX (vb false) a b).bind k) (k b) := ⟨aa (TZ _ _)⟩
instance : Gd ((gV (vb true) true v).bind k) (k v) := ⟨aa X7⟩
instance : Gd ((gV (vb false) false v).bind k) (k v) := ⟨aa X4⟩
instance : Gd ((gV (vb true) false v).bind k) (k undef) := ⟨aa X6⟩
instance : Gd ((gV (vb false) true v).bind k) (k undef) := ⟨aa X5⟩
instance : Gd ((gB (vb true) false e1).bind k) (k undef) := ⟨aa X3⟩
instance : Gd ((gB (vb false) true e1).bind k) (k undef) := ⟨aa X1⟩
instance : Gd ((gE (vb true) false H e).bind ke) (ke (undef, H)) := ⟨Nx⟩
instance : Gd ((gE (vb false) true H e).bind ke) (ke (undef, H)) := ⟨Nw⟩
instance : Gd ((gE (vb true) true H e).bind ke) (e.bind ke) := ⟨Ny⟩
instance : Gd ((gE (vb false) false H e).bind ke) (e.bind ke) := ⟨Nv⟩
instance : Gd ((BN (yv (vb true)) false e1 (some undef)).bind k) (k undef) := ⟨Ik⟩
instance : Gd ((BN (yv (vb false)) true e1 (some undef)).bind k) (k undef) := ⟨Ij⟩
instance : Gd ((BN (yv (vb true)) true e1 (some undef)).bind k) (e1.bind k) := ⟨Il⟩
instance : Gd ((BN (yv (vb false)) false e1 (some undef)).bind k) (e1.bind k) := ⟨Ii⟩
instance : Gd (fT (vb true) true p x H k) (ld p x H k) := ⟨Vc⟩
instance : Gd (fT (vb false) false p x H k) (ld p x H k) := ⟨U9⟩
instance : Gd (fT (vb true) false p x H k) (k undef) := ⟨Vb⟩
instance : Gd (fT (vb false) true p x H k) (k undef) := ⟨Va⟩
instance : Gd (rh (vb true) true n p x H k) (ldN n p x H k) := ⟨QH⟩
instance : Gd (rh (vb false) false n p x H k) (ldN n p x H k) := ⟨QE⟩
instance : Gd (rh (vb true) false n p x H k) (k undef) := ⟨QG⟩
instance : Gd (rh (vb false) true n p x H k) (k undef) := ⟨QF⟩
instance : Gd ((gB (vb true) true e1).bind k) (e1.bind k) := ⟨la⟩
instance : Gd ((gB (vb false) false e1).bind k) (e1.bind k) := ⟨Xp⟩
instance : Gd ((mD .not (vb c)).bind k) (k (vb (!c))) := ⟨aa BD⟩
instance : Gd (ax (vb true) o1 o2) o1 := ⟨U8⟩
instance : Gd (ax (vb false) o1 o2) o2 := ⟨U7⟩
instance : Gd ((gV undef c v).bind k) (k undef) := ⟨aa aaU⟩
instance : Gd ((gB undef c e1).bind k) (k undef) := ⟨aa aaT⟩
instance : Gd (fT undef c p x H k) (k undef) := ⟨Xq⟩
class Gh (x : OV) (y : outParam OV) : Prop where
 go : ∀ {Q : Value → AH → Prop}, wp y Q → wp x Q
instance : Gh ((aX (vb true) a b).bind k) (k a) := ⟨aa (T4 _ _)⟩
instance : Gh ((aX (vb false) a b).bind k) (k b) := ⟨aa (TZ _ _)⟩
instance : Gh ((gV (vb true) true v).bind k) (k v) := ⟨aa X7⟩
instance : Gh ((gV (vb false) false v).bind k) (k v) := ⟨aa X4⟩
instance : Gh ((gV (vb true) false v).bind k) (k undef) := ⟨aa X6⟩
instance : Gh ((gV (vb false) true v).bind k) (k undef) := ⟨aa X5⟩
instance : Gh ((gB (vb true) false e1).bind k) (k undef) := ⟨aa X3⟩
instance : Gh ((gB (vb false) true e1).bind k) (k undef) := ⟨aa X1⟩
instance : Gh ((gE (vb true) false H e).bind ke) (ke (undef, H)) := ⟨Nx⟩
instance : Gh ((gE (vb false) true H e).bind ke) (ke (undef, H)) := ⟨Nw⟩
instance : Gh ((gE (vb true) true H e).bind ke) (e.bind ke) := ⟨Ny⟩
instance : Gh ((gE (vb false) false H e).bind ke) (e.bind ke) := ⟨Nv⟩
instance : Gh ((BN (yv (vb true)) false e1 (some undef)).bind k) (k undef) := ⟨Ik⟩
instance : Gh ((BN (yv (vb false)) true e1 (some undef)).bind k) (k undef) := ⟨Ij⟩
instance : Gh ((BN (yv (vb true)) true e1 (some undef)).bind k) (e1.bind k) := ⟨Il⟩
instance : Gh ((BN (yv (vb false)) false e1 (some undef)).bind k) (e1.bind k) := ⟨Ii⟩
end
class Gs (x : OV) (y : outParam OV) : Prop where
 go : ∀ {Q : Value → AH → Prop}, wp y Q → wp x Q
class Gt (x : OV) (y : outParam OV) : Prop where
 go : ∀ {Q : Value → AH → Prop}, wp y Q → wp x Q
instance (priority := low) {x : OV} : Gs x x := ⟨id⟩
instance (priority := low) {x : OV} : Gt x x := ⟨id⟩
instance {x y z : OV} [g : Gd x y] [h : Gs y z] : Gs x z := ⟨fun q => g.go (h.go q)⟩
instance {x y z : OV} [g : Gh x y] [h : Gt y z] : Gt x z := ⟨fun q => g.go (h.go q)⟩
theorem gs {x y : OV} [g : Gs x y] {Q : Value → AH → Prop} (h : wp y Q) : wp x Q := g.go h
theorem gt {x y : OV} [g : Gt x y] {Q : Value → AH → Prop} (h : wp y Q) : wp x Q := g.go h
structure Mu where
 V : cE → Nat
 E : List Ev
 N : Nat
abbrev Mu.log (μ : Mu) (who kind : Int) (at' : cE) : Mu := { μ with E := μ.E ++ [⟨who, kind, at'⟩], N := μ.N + 1 }
abbrev Mu.put (μ : Mu) (at' : cE) (v : Nat) : Mu := { μ with V := fun l => if l = at' then v else μ.V l }
def fP (al : List (cE × Nat)) (l : cE) : Nat := ((al.find? fun p => p.1 == l).map (·.2)).getD 0
def ZJ (p : cE × Nat) (e : MapEntry) : Prop := e.key = eJ p.1 ∧ e.val = .agg #[vu p.2]
inductive EntsOf : List (cE × Nat) → List MapEntry → Prop
 | nil : EntsOf [] []
 | cons {p : cE × Nat} {l : List (cE × Nat)} {e : MapEntry} {es : List MapEntry} (h : ZJ p e) (k : EntsOf l es) : EntsOf (p :: l) (e :: es)
theorem CU (a b : cE) : kc (.flat 3) (eJ a) (eJ b) = some (a == b) := by
 simp only [kc, eJ];rw [if_pos ⟨rfl, rfl⟩];simp only [bI, if_true, eR, Bool.and_true]
 rfl
theorem Pz {al : List (cE × Nat)} {es : List MapEntry} (h : EntsOf al es) (l : cE) : ∀ i, ∃ r, br (.flat 3) (eJ l) es i = some r ∧ (match r with
 | some (j, v) => v = .agg #[vu (fP al l)] ∧ i ≤ j ∧ (∃ p, al[j - i]? = some p ∧ p.1 = l) ∧ ∀ q, q < j - i → ∀ p, al[q]? = some p → p.1 ≠ l
 | none => fP al l = 0 ∧ ∀ p ∈ al, p.1 ≠ l) := by
 induction h with
 | nil => intro i; exact ⟨none, rfl, rfl, by simp⟩
 | @cons p al e es h k ih =>
  intro i;simp only [br];rw [h.1, CU];simp only [bG]
  by_cases hp : p.1 = l
  ·have e1 : (l == p.1) = true := by simp [hp]
   rw [if_pos e1];refine ⟨_, rfl, ?_, bK _, ⟨p, by simp, hp⟩, fun q hq => by omega⟩;rw [h.2];simp [fP, hp]
  ·have e1 : ¬ ((l == p.1) = true) := by simp; exact fun h => hp h.symm
   rw [if_neg e1];obtain ⟨r, h1, h2⟩ := ih (i + 1)
   have hg : fP (p :: al) l = fP al l := by simp [fP, hp]
   refine ⟨r, h1, ?_⟩
   cases r with
   | none =>
    simp only at h2 ⊢;rw [hg]
    exact ⟨h2.1, fun q hq => by
     rcases List.mem_cons.1 hq with rfl | hq
     ·exact hp
     ·exact h2.2 q hq⟩
   | some r =>
    obtain ⟨j, v⟩ := r;simp only at h2 ⊢;rw [hg];obtain ⟨a1, a2, ⟨p', a3, a4⟩, a5⟩ := h2;refine ⟨a1, by omega, ⟨p', ?_, a4⟩, fun q hq p'' hp'' => ?_⟩
    ·rw [show j - i = (j - (i + 1)) + 1 from by omega]; exact a3
    ·cases q with
     | zero => simp at hp''; rw [← hp'']; exact hp
     | succ q => exact a5 q (by omega) p'' (by simpa using hp'')
def mm : List (cE × Nat) → cE → Nat → List (cE × Nat)
 | [], l, v => [(l, v)]
 | p :: al, l, v => if p.1 = l then (l, v) :: al else p :: mm al l v
theorem eI (p : cE × Nat) (al : List (cE × Nat)) (l : cE) : fP (p :: al) l = if p.1 = l then p.2 else fP al l := by
 unfold fP
 by_cases h : p.1 = l
 ·simp [h]
 ·simp [h]
theorem Cm (l : cE) (v : Nat) (x : cE) : ∀ al, fP (mm al l v) x = if x = l then v else fP al x := by
 intro al
 induction al with
 | nil =>
  simp only [mm, eI]
  by_cases h : l = x
  ·simp [h]
  ·have : ¬ x = l := fun e => h e.symm
   simp [h, this]
 | cons p al ih =>
  simp only [mm]
  by_cases hp : p.1 = l
  ·rw [if_pos hp, eI, eI]
   by_cases h : l = x
   ·simp [h]
   ·have h2 : ¬ x = l := fun e => h e.symm
    simp [h, h2, hp]
  ·rw [if_neg hp, eI, eI, ih]
   by_cases h : p.1 = x
   ·have h2 : ¬ x = l := fun e => hp (h.trans e)
    simp [h, h2]
   ·simp [h]
theorem U3 {al : List (cE × Nat)} {es : List MapEntry} (h : EntsOf al es) (l : cE) (v : Nat) : ∀ i, match br (.flat 3) (eJ l) es i with
 | some (some (j, _)) => i ≤ j ∧ EntsOf (mm al l v) (es.modify (j - i) fun e => { e with key := eJ l, val := .agg #[vu v] })
 | some none => ∀ born, EntsOf (mm al l v) (es ++ [{ key := eJ l, val := .agg #[vu v], born := born }])
 | none => False := by
 induction h with
 | nil => intro i born; exact .cons ⟨rfl, rfl⟩ .nil
 | @cons p al e es h k ih =>
  intro i;simp only [br];rw [h.1, CU];simp only [bG]
  by_cases hp : p.1 = l
  ·have e1 : (l == p.1) = true := by simp [hp]
   rw [if_pos e1];simp only [mm, if_pos hp];refine ⟨bK _, ?_⟩;simp only [Nat.sub_self];exact .cons ⟨rfl, rfl⟩ k
  ·have e1 : ¬ ((l == p.1) = true) := by simp; exact fun h => hp h.symm
   rw [if_neg e1];have hi := ih (i + 1);simp only [mm, if_neg hp]
   cases hf : br (.flat 3) (eJ l) es (i + 1) with
   | none => rw [hf] at hi; exact hi
   | some r =>
    rw [hf] at hi
    cases r with
    | none => intro born; exact .cons h (hi born)
    | some r =>
     obtain ⟨j, v'⟩ := r;simp only at hi ⊢;refine ⟨by omega, ?_⟩;rw [show j - i = (j - (i + 1)) + 1 from by omega];exact .cons h hi.2
section
variable {P P' R : SP} {H : AH} {c ck : Nat} {es : List MapEntry} {al : List (cE × Nat)} {Q : Value → AH → Prop}
theorem Ze {k : Value → OV} {at' : cE} (ha : EntsOf al es) (h : ae P H) [i : Hs P c (.map es ck)] (hk : wp (k (.agg #[vu (fP al at')])) Q) : wp ((cY (.flat 3) (.agg #[vw 0]) (.map (some c)) (eJ at') false H).bind k) Q := by
 have hg := i.get h;obtain ⟨r, h1, h2⟩ := Pz ha at' 0;refine aa ?_ hk;unfold cY;rw [if_pos (show iR (.flat 3) (eJ at') = true from rfl)];simp only [jO, hg, bG, h1, eR]
 cases r with
 | none => simp only at h2 ⊢; rw [h2.1]; rfl
 | some r => simp only at h2 ⊢; rw [h2.1]; rfl
theorem Z7 {k : AH → OV} {at' : cE} {v : Nat} (ha : EntsOf al es) (h : ae P H) [i : Hs P c (.map es ck)] (hk : ∀ es' ck' H', EntsOf (mm al at' v) es' → (∀ P', Up P c (.map es' ck') P' → ae P' H') → wp (k H') Q) :
 wp ((eD (.flat 3) (.map (some c)) (eJ at') (.agg #[vu v]) H).bind k) Q := by
 have hg := i.get h;have hu := U3 ha at' v 0;unfold eD;rw [if_pos (show iR (.flat 3) (eJ at') = true from rfl)];simp only [hg]
 cases hf : br (.flat 3) (eJ at') es 0 with
 | none => rw [hf] at hu; exact absurd hu id
 | some r =>
  rw [hf] at hu
  cases r with
  | none =>
   simp only [eR, bG];exact hk _ _ _ (hu ck) fun P' u => u.set h
  | some r =>
   obtain ⟨j, v'⟩ := r;simp only [eR, bG];exact hk _ _ _ hu.2 fun P' u => u.set h
end
def bA (m : Nat) (μ : Mu) : SP := ex fun g : Nat × Value × List (cE × Nat) × List MapEntry × Nat =>
 pu (EntsOf g.2.2.1 g.2.2.2.1 ∧ (∀ l, fP g.2.2.1 l = μ.V l) ∧ μ.E.length ≤ μ.N) * (blk m (.cells false [.map (some g.1), g.2.1]) * (blk g.1 (.map g.2.2.2.1 g.2.2.2.2) * sl 5 g.2.1 μ.E.length (nV μ.E)))
theorem nA (m : Nat) (μ : Mu) (who kind : Int) (at' : cE) (hE : μ.N < 1099511627776) : Sp dp [vp m, vi who, vi kind, eJ at'] (bA m μ) (fun _ : Unit => .tuple #[]) (fun _ => bA m (μ.log who kind at')) := by
 refine aM fun R H h => ?_;obtain ⟨⟨c, l, al, es, ck⟩, h⟩ := ae.ex.1 h;rw [aj, ae.pu] at h;obtain ⟨hp, h⟩ := h;dsimp only at h hp;refine bj (fun r => xN _ _ _ _ H) ?_;refine bm (cs := [vi at'.1, vi at'.2.1, vi at'.2.2]) h fun b0 H1 h1 => ?_;refine ak h1 ac rfl ?_;refine aV h1 ?_;refine Ih (cs := [vi who, vi kind, vi at'.1, vi at'.2.1, vi at'.2.2]) rfl ?_;refine Ve (cs := [vi who, vi kind, vi at'.1, vi at'.2.1, vi at'.2.2]) h1 rfl fun b1 H2 h2 => ?_;have hl := hp.2.2;refine Yo h2 rfl (by omega) (by omega) rfl (by unfold dt; omega) fun a' c' H3 h3 => ?_;refine bv h3 ac rfl rfl fun H4 h4 => ?_;refine ap ⟨(), rfl, ?_⟩;refine ae.ex.2 ⟨(c, .slice a' (μ.E.length + 1) c', al, es, ck), ?_⟩;rw [aj, ae.pu];refine ⟨⟨hp.1, hp.2.1, by simp; exact hp.2.2⟩, ?_⟩
 have e1 : (μ.log who kind at').E.length = μ.E.length + 1 := by simp [Mu.log]
 have e2 : nV (μ.log who kind at').E = nV μ.E ++ [vi who, vi kind, vi at'.1, vi at'.2.1, vi at'.2.2] := by rw [Mu.log, DS]; rfl
 rw [e1, e2];exact h4.to
theorem ul (m : Nat) (μ : Mu) (at' : cE) : Sp fh [vp m, eJ at'] (bA m μ) (fun _ : Unit => vu (μ.V at')) (fun _ => bA m μ) := by
 refine aM fun R H h => ?_;have h0 := h;obtain ⟨⟨c, l, al, es, ck⟩, h⟩ := ae.ex.1 h;rw [aj, ae.pu] at h;obtain ⟨hp, h⟩ := h;dsimp only at h hp;refine bj (fun r => xK _ _ H) ?_;refine bm (cs := [vi at'.1, vi at'.2.1, vi at'.2.2]) h fun b0 H1 h1 => ?_;refine ak h1 ac rfl ?_;refine aV h1 ?_;refine Ze (at' := at') hp.1 h1 ?_;refine aa (v := vu (fP al at')) rfl ?_;refine ap ⟨(), by rw [hp.2.1], ?_⟩;refine ae.ex.2 ⟨(c, l, al, es, ck), ?_⟩;rw [aj, ae.pu];exact ⟨hp, h1.to⟩
theorem Hc {m : Nat} {μ : Mu} {at' : cE} {v : Nat} {R P : SP} {H : AH} {c : Nat} {l : Value} {al : List (cE × Nat)} {es : List MapEntry} {k : AH → OV} {Q : Value → AH → Prop} {ck : Nat}
 (hp : EntsOf al es ∧ (∀ l, fP al l = μ.V l) ∧ μ.E.length ≤ μ.N) (h : ae P H) [f : Fr P (blk m (.cells false [.map (some c), l]) * (blk c (.map es ck) * sl 5 l μ.E.length (nV μ.E))) R] [i : Hs P c (.map es ck)]
 (hk : ∀ H', ae (bA m (μ.put at' v) * R) H' → wp (k H') Q) : wp ((eD (.flat 3) (.map (some c)) (eJ at') (.agg #[vu v]) H).bind k) Q := by
 have h' := ae.fr (f := f) h;refine Z7 hp.1 h' fun es' ck' H' he hh => hk H' ?_;have h2 := hh _ inferInstance;refine ae.ex.2 ⟨(c, l, mm al at' v, es', ck'), ?_⟩;rw [aj, ae.pu];refine ⟨⟨he, fun x => ?_, hp.2.2⟩, h2.to⟩;dsimp only;rw [Cm, hp.2.1]
theorem PL (m : Nat) (μ : Mu) (who : Int) (at' : cE) (v : Nat) (hE : μ.N < 1099511627776) : Sp dB [vp m, vi who, eJ at', vu v] (bA m μ) (fun _ : Unit => .tuple #[]) (fun _ => bA m ((μ.log who 2 at').put at' v)) := by
 refine bp (vS _ _ _ _) fun R H h => ?_;refine bm (cs := [vi at'.1, vi at'.2.1, vi at'.2.2]) h fun b0 H1 h1 => ?_;refine aV h1 ?_;refine ag h1 (nA m μ who 2 at' hE) fun _ H2 h2 => ?_;obtain ⟨⟨c, l, al, es, ck⟩, h2⟩ := ae.ex.1 h2;rw [aj, ae.pu] at h2;obtain ⟨hp, h2⟩ := h2;dsimp only at h2 hp;refine ak h2 ac rfl ?_;refine aV h2 ?_;refine Ih (cs := [vu v]) rfl ?_;refine Hc (m := m) (l := l) (μ := μ.log who 2 at') (at' := at') (v := v) hp h2 fun H3 h3 => ?_;exact ap ⟨(), rfl, h3.to⟩
theorem Hg (m : Nat) (μ : Mu) (who : Int) (at' : cE) (v : Nat) (hE : μ.N < 1099511627776) : Sp i6 [vp m, vi who, eJ at', vu v] (bA m μ) (fun _ : Unit => vu (μ.V at')) (fun _ => bA m ((μ.log who 3 at').put at' v)) := by
 refine bp (xO _ _ _ _) fun R H h => ?_;refine bm (cs := [vi at'.1, vi at'.2.1, vi at'.2.2]) h fun b0 H1 h1 => ?_;refine aV h1 ?_;refine ag h1 (ul m μ at') fun _ H2 h2 => ?_;refine aV h2 ?_;refine ag h2 (nA m μ who 3 at' hE) fun _ H3 h3 => ?_;obtain ⟨⟨c, l, al, es, ck⟩, h3⟩ := ae.ex.1 h3;rw [aj, ae.pu] at h3;obtain ⟨hp, h3⟩ := h3;dsimp only at h3 hp;refine ak h3 ac rfl ?_;refine aV h3 ?_;refine Ih (cs := [vu v]) rfl ?_;refine Hc (m := m) (l := l) (μ := μ.log who 3 at') (at' := at') (v := v) hp h3 fun H4 h4 => ?_;exact ap ⟨(), rfl, h4.to⟩
theorem TD (m : Nat) (μ : Mu) (who : Int) (at' : cE) (hE : μ.N < 1099511627776) : Sp cU [vp m, vi who, eJ at'] (bA m μ) (fun _ : Unit => vu (μ.V at')) (fun _ => bA m (μ.log who 1 at')) := by
 refine bp (xJ _ _ _) fun R H h => ?_;refine bm (cs := [vi at'.1, vi at'.2.1, vi at'.2.2]) h fun b0 H1 h1 => ?_;refine aV h1 ?_;refine ag h1 (nA m μ who 1 at' hE) fun _ H2 h2 => ?_;refine aV h2 ?_;refine ag h2 (ul m (μ.log who 1 at') at') fun _ H3 h3 => ?_;exact ap ⟨(), rfl, h3.to⟩
abbrev Mu.swap (μ : Mu) (who : Int) (at' : cE) (was now : Nat) : Mu := if μ.V at' = was then (μ.log who 3 at').put at' now else μ.log who 4 at'
theorem TG (m : Nat) (μ : Mu) (who : Int) (at' : cE) (was now : Nat) (hE : μ.N < 1099511627776) :
 Sp fi [vp m, vi who, eJ at', vu was, vu now] (bA m μ) (fun _ : Unit => vb (decide (μ.V at' = was))) (fun _ => bA m (μ.swap who at' was now)) := by
 refine bp (xM _ _ _ _ _) fun R H h => ?_;refine bm (cs := [vi at'.1, vi at'.2.1, vi at'.2.2]) h fun b0 H1 h1 => ?_;refine aV h1 ?_;refine ag h1 (ul m μ at') fun _ H2 h2 => ?_;refine aa Ye ?_;unfold Mu.swap;refine cR (fun hc => ?_) (fun hc => ?_)
 ·have hc : ¬ μ.V at' = was := by simpa using hc
  rw [if_neg hc, dQ hc];refine aV h2 ?_;refine ag h2 (nA m μ who 4 at' hE) fun _ H3 h3 => ?_;exact ap ⟨(), rfl, h3.to⟩
 ·have hc : μ.V at' = was := by simpa using hc
  rw [if_pos hc, dI hc];refine aV h2 ?_;refine ag h2 (Hg m μ who at' now hE) fun _ H3 h3 => ?_;exact ap ⟨(), rfl, h3.to⟩
theorem WY (m : Nat) (μ : Mu) (who : Int) (at' : cE) (n : Nat) (hE : μ.N < 1099511627776) :
 Sp ig [vp m, vi who, eJ at', vu n] (bA m μ) (fun _ : Unit => vu (μ.V at')) (fun _ => bA m ((μ.log who 3 at').put at' ((μ.V at' + n) % 18446744073709551616))) := by
 refine bp (AA _ _ _ _) fun R H h => ?_
 repeat (first | refine bg ‹_› fun _ _ _ => ?_ | refine aV ‹_› ?_)
 refine ag (by assumption) (ul m μ at') fun _ _ _ => ?_
 repeat refine d7 ‹_› ‹_› rfl ?_
 refine aa (XJ) ?_;refine ag (by assumption) (Hg m μ who at' _ hE) fun _ _ _ => ?_;exact ap ⟨(), rfl, ae.to (by assumption)⟩
theorem Hf (m : Nat) (μ : Mu) (who : Int) (at' : cE) (hE : μ.N < 1099511627776) :
 Sp i5 [vp m, vi who, eJ at'] (bA m μ) (fun _ : Unit => .tuple #[]) (fun _ => bA m (μ.log who 5 at')) := by
 refine bp (xL _ _ _) fun R H h => ?_
 repeat (first | refine bg ‹_› fun _ _ _ => ?_ | refine aV ‹_› ?_)
 refine ag (by assumption) (nA m μ who 5 at' hE) fun _ _ _ => ?_;exact ap ⟨(), rfl, ae.to (by assumption)⟩
theorem qU (m : Nat) (μ : Mu) (who : Int) (at' : cE) (hE : μ.N < 1099511627776) :
 Sp fW [vp m, vi who, eJ at'] (bA m μ) (fun _ : Unit => .tuple #[]) (fun _ => bA m (μ.log who 6 at')) := by
 refine bp (vT _ _ _) fun R H h => ?_
 repeat (first | refine bg ‹_› fun _ _ _ => ?_ | refine aV ‹_› ?_)
 refine ag (by assumption) (nA m μ who 6 at' hE) fun _ _ _ => ?_;exact ap ⟨(), rfl, ae.to (by assumption)⟩
theorem Sp.imp {α : Type} {f : Nat} {args : List Value} {P : SP} {v : α → Value} {Q Q' : α → SP} (s : Sp f args P v Q) (h : ∀ x R H, ae (Q x * R) H → ae (Q' x * R) H) : Sp f args P v Q' := by
 intro R H hh;obtain ⟨x, H', e, hq⟩ := s R H hh;exact ⟨x, H', e, h x R H' hq⟩
theorem i1 {m : Nat} {V : cE → Nat} {E : List Ev} {N N' : Nat} {R : SP} {H : AH} (hN : N ≤ N') (h : ae (bA m ⟨V, E, N⟩ * R) H) : ae (bA m ⟨V, E, N'⟩ * R) H := by
 obtain ⟨g, h⟩ := ae.ex.1 h;rw [aj, ae.pu] at h;refine ae.ex.2 ⟨g, ?_⟩;rw [aj, ae.pu];exact ⟨⟨h.1.1, h.1.2.1, fF h.1.2.2 hN⟩, h.2⟩
abbrev Mu.acc (μ : Mu) (who kind : Int) (at' : cE) : Mu := { V := μ.V, E := μ.E ++ [⟨who, kind, at'⟩], N := μ.N + 2 }
abbrev Mu.swp (μ : Mu) (who : Int) (at' : cE) (was now : Nat) : Mu := { V := (μ.swap who at' was now).V, E := (μ.swap who at' was now).E, N := μ.N + 2 }
theorem vZ (m : Nat) (μ : Mu) (who : Int) (at' : cE) (hE : μ.N < 1099511627776) : Sp cU [vp m, vi who, eJ at'] (bA m μ) (fun _ : Unit => vu (μ.V at')) (fun _ => bA m (μ.acc who 1 at')) :=
 (TD m μ who at' hE).imp fun _ R H h => i1 (by simp) h
theorem yS (m : Nat) (μ : Mu) (who : Int) (at' : cE) (v : Nat) (hE : μ.N < 1099511627776) : Sp dB [vp m, vi who, eJ at', vu v] (bA m μ) (fun _ : Unit => .tuple #[]) (fun _ => bA m ((μ.acc who 2 at').put at' v)) :=
 (PL m μ who at' v hE).imp fun _ R H h => i1 (by simp) h
theorem JQ (m : Nat) (μ : Mu) (who : Int) (at' : cE) (was now : Nat) (hE : μ.N < 1099511627776) :
 Sp fi [vp m, vi who, eJ at', vu was, vu now] (bA m μ) (fun _ : Unit => vb (decide (μ.V at' = was))) (fun _ => bA m (μ.swp who at' was now)) :=
 (TG m μ who at' was now hE).imp fun _ R H h => by
  have : (μ.swap who at' was now).N ≤ μ.N + 2 := by unfold Mu.swap; split <;> simp
  exact i1 this h
theorem Yg (m : Nat) (μ : Mu) (who : Int) (at' : cE) (n : Nat) (hE : μ.N < 1099511627776) :
 Sp ig [vp m, vi who, eJ at', vu n] (bA m μ) (fun _ : Unit => vu (μ.V at')) (fun _ => bA m ((μ.acc who 3 at').put at' ((μ.V at' + n) % 18446744073709551616))) :=
 (WY m μ who at' n hE).imp fun _ R H h => i1 (by simp) h
def DR (p : cE × Nat) : List Value := [vi p.1.1, vi p.1.2.1, vi p.1.2.2]
def GE (p : cE × Nat) : List Value := [vu p.2]
instance : Enc DR 3 := ⟨fun _ => rfl, fun _ => rfl, by omega⟩
instance : Enc GE 1 := ⟨fun _ => rfl, fun _ => rfl, by omega⟩
def CZ (m : Nat) (al : List (cE × Nat)) (E : List Ev) : SP := ex fun g : Value × Value × Value =>
 blk m (.cells false [g.1, g.2.1, g.2.2]) * (ts 3 DR g.1 al * (ts 1 GE g.2.1 al * ts 5 Ev.cells g.2.2 E))
def bN (m : Nat) (μ : Mu) : SP := ex fun al : List (cE × Nat) => pu ((∀ l, fP al l = μ.V l) ∧ al.length + μ.E.length ≤ μ.N) * CZ m al μ.E
def ic (al : List (cE × Nat)) (l : cE) : Nat := al.findIdx fun p => p.1 == l
def j5 (al : List (cE × Nat)) (l : cE) : List (cE × Nat) := if ic al l < al.length then al else al ++ [(l, 0)]
theorem jA (p : cE × Nat) (al : List (cE × Nat)) (l : cE) : ic (p :: al) l = if p.1 = l then 0 else ic al l + 1 := by
 unfold ic;rw [List.findIdx_cons]
 by_cases h : p.1 = l
 ·simp [h]
 ·have : (p.1 == l) = false := by simpa using h
  simp [h, this]
theorem zg (l : cE) : ∀ (al : List (cE × Nat)) (h : ic al l < al.length), al[ic al l] = (l, fP al l) := by
 intro al
 induction al with
 | nil => intro h; simp at h
 | cons p al ih =>
  intro h;have e := jA p al l
  by_cases hp : p.1 = l
  ·rw [if_pos hp] at e
   simp only [e, List.getElem_cons_zero, eI, hp, if_true];exact Prod.ext hp rfl
  ·rw [if_neg hp] at e
   rw [e, List.length_cons] at h;simp only [e, List.getElem_cons_succ, eI, hp, if_false];exact ih (by omega)
theorem IB (l x : cE) : ∀ (al : List (cE × Nat)), ¬ ic al l < al.length → fP (al ++ [(l, 0)]) x = fP al x := by
 intro al
 induction al with
 | nil =>
  intro _;show fP [(l, 0)] x = fP [] x;rw [eI]
  split <;> rfl
 | cons p al ih =>
  intro h;have e := jA p al l
  by_cases hp : p.1 = l
  ·rw [if_pos hp] at e
   simp [e] at h
  ·rw [if_neg hp] at e
   rw [List.cons_append, eI, eI, ih (by rw [e, List.length_cons] at h; omega)]
theorem zh (l : cE) (al : List (cE × Nat)) (h : ¬ ic al l < al.length) : ic (al ++ [(l, 0)]) l = al.length := by
 induction al with
 | nil => simp [ic, List.findIdx_cons]
 | cons p al ih =>
  have e := jA p al l
  by_cases hp : p.1 = l
  ·rw [if_pos hp] at e
   simp [e] at h
  ·rw [if_neg hp] at e
   rw [List.cons_append, jA, if_neg hp, ih (by rw [e, List.length_cons] at h; omega), List.length_cons]
theorem NP (al : List (cE × Nat)) (l x : cE) : fP (j5 al l) x = fP al x := by
 unfold j5
 split
 ·rfl
 ·exact IB l x al (by assumption)
theorem Q9 (al : List (cE × Nat)) (l : cE) : ic (j5 al l) l < (j5 al l).length := by
 unfold j5
 split
 ·assumption
 ·rw [zh l al (by assumption)]; simp
theorem Cn (l : cE) (v : Nat) : ∀ (al : List (cE × Nat)), ic al l < al.length → mm al l v = al.set (ic al l) (l, v) := by
 intro al
 induction al with
 | nil => intro h; simp at h
 | cons p al ih =>
  intro h;have e := jA p al l
  by_cases hp : p.1 = l
  ·rw [if_pos hp] at e
   simp [mm, hp, e]
  ·rw [if_neg hp] at e
   rw [e, List.length_cons] at h;simp only [mm, hp, if_false, e, List.set_cons_succ];rw [ih (by omega)]
theorem M0 (m : Nat) (al : List (cE × Nat)) (E : List Ev) (who kind : Int) (at' : cE) (hE : E.length < 1099511627776) : Sp cm [vp m, vi who, vi kind, eJ at'] (CZ m al E) (fun _ : Unit => .tuple #[]) (fun _ => CZ m al (E ++ [⟨who, kind, at'⟩])) := by
 refine bp (AO _ _ _ _) fun R H h => ?_;obtain ⟨⟨a, v, e⟩, h⟩ := ae.ex.1 h;dsimp only at h
 repeat (first | refine bg ‹_› fun _ _ _ => ?_ | refine aV ‹_› ?_ | refine ak ‹_› ac rfl ?_ | refine iU ?_ | refine Nu ‹_› fun _ _ _ => ?_)
 refine jp ((⟨who, kind, at'⟩ : Ev)) (by assumption) rfl ?_ (by omega) fun a' c' _ _ => ?_
 ·unfold dt; omega
 repeat (first | refine bD ac ?_ | refine eG ‹_› rfl rfl fun _ _ => ?_)
 exact ap ⟨(), rfl, ae.ex.2 ⟨(a, v, .slice a' (E.length + 1) c'), ae.to (by assumption)⟩⟩
theorem Ga (l : cE) : ∀ (al : List (cE × Nat)) (k : Nat) (hk : k < al.length), al[k].1 = l → (∀ j, j < k → ∀ p, al[j]? = some p → p.1 ≠ l) → ic al l = k := by
 intro al
 induction al with
 | nil => intro k hk; simp at hk
 | cons p al ih =>
  intro k hk h hno;rw [jA]
  cases k with
  | zero => rw [if_pos (by simpa using h)]
  | succ k =>
   rw [if_neg (hno 0 (by omega) p rfl), ih k (by simpa using hk) (by simpa using h) fun j hj q hq => hno (j + 1) (by omega) q (by simpa using hq)]
theorem JW {m b0 : Nat} {al : List (cE × Nat)} {E : List Ev} {at' : cE} {R : SP} (hal : al.length < 1099511627776) {a v e : Value} (x4 : Value) {H : AH}
 (h : ae (blk b0 (.cells false [vi at'.1, vi at'.2.1, vi at'.2.2]) * (blk m (.cells false [a, v, e]) * (ts 3 DR a al * (ts 1 GE v al * ts 5 Ev.cells e E)) * R)) H) :
 ∀ (n k : Nat), k + n = al.length → (∀ j, j < k → ∀ p, al[j]? = some p → p.1 ≠ at') →
  wp (yV (vp m) (vp b0) x4 (vi k) H) fun v' H' => v' = vi (ic (j5 al at') at') ∧ ae (CZ m (j5 al at') E * R) H' := by
 intro n
 induction n with
 | zero =>
  intro k hk hno
  have hidx : ¬ ic al at' < al.length := by
   intro hlt;have := zg at' al hlt;exact hno _ (by omega) _ (cM hlt) (by rw [this])
  refine ai (AV _ _ _ _ H) ?_;refine ak h ac rfl ?_;refine qz (s := a) h ?_;refine aa qJ ?_;refine cR (fun hc => ?_) (fun hc => ?_)
  ·simp at hc; omega
  refine ai (Fl _ _ _ H) ?_;refine ai (PY _ _ _ H) ?_;have e1 : j5 al at' = al ++ [(at', 0)] := if_neg hidx
  have e2 : ic (j5 al at') at' = al.length := by rw [e1, zh at' al hidx]
  rw [e1, ← e1, e2, e1]
  repeat (first | refine aV ‹_› ?_ | refine ak ‹_› ac rfl ?_ | refine Nu ‹_› fun _ _ _ => ?_)
  refine jp (((at', 0) : cE × Nat)) (by assumption) rfl ?_ (by omega) fun a1 c1 H1 h1 => ?_
  ·unfold dt; omega
  repeat (first | refine ak ‹_› ac rfl ?_ | refine Nu ‹_› fun _ _ _ => ?_ | refine aG ‹_› ‹_› rfl ?_)
  refine jp (((at', 0) : cE × Nat)) (by assumption) rfl ?_ (by omega) fun a2 c2 H2 h2 => ?_
  ·unfold dt; omega
  repeat (first | refine ak ‹_› ac rfl ?_ | refine bD ac ?_ | refine eG ‹_› rfl rfl fun _ _ => ?_ | refine Nz ?_)
  refine aa (nb (by omega) (by omega)) ?_;refine ap ⟨by congr 1; omega, ?_⟩;exact ae.ex.2 ⟨(.slice a1 (al.length + 1) c1, .slice a2 (al.length + 1) c2, e), ae.to (by assumption)⟩
 | succ n ih =>
  intro k hk hno
  have hkl : k < al.length := by omega
  refine ai (AV _ _ _ _ H) ?_;refine ak h ac rfl ?_;refine qz (s := a) h ?_;refine aa qJ ?_;refine cR (fun hc => ?_) (fun hc => ?_)
  ·refine ai (J3 _ _ _ _ H) ?_
   refine ak h ac rfl ?_;refine Zg (s := a) h hkl ?_;refine aV h ?_;refine aa (RH al[k].1 at') ?_;refine cR (fun hc => ?_) (fun hc => ?_)
   ·have hc : al[k].1 = at' := by simpa using hc
    have hidx := Ga at' al k hkl hc hno
    have e1 : j5 al at' = al := by unfold j5; rw [if_pos (by omega)]
    refine ap ⟨by rw [e1, hidx], ?_⟩;rw [e1];exact ae.ex.2 ⟨(a, v, e), ae.to h⟩
   ·have hc : al[k].1 ≠ at' := by simpa using hc
    refine ai (J4 _ _ _ _ H) ?_;refine aa (bu (by omega) (by omega)) ?_;refine ih (k + 1) (by omega) fun j hj p hp => ?_
    by_cases hjk : j = k
    ·subst hjk
     rw [cM hkl] at hp;cases hp;exact hc
    ·exact hno j (by omega) p hp
  ·simp at hc; omega
theorem PW (m : Nat) (al : List (cE × Nat)) (E : List Ev) (at' : cE) (hal : al.length < 1099511627776) : Sp AG [vp m, eJ at'] (CZ m al E) (fun _ : Unit => vi (ic (j5 al at') at')) (fun _ => CZ m (j5 al at') E) := by
 refine bp (Y0 _ _) fun R H h => ?_;obtain ⟨⟨a, v, e⟩, h⟩ := ae.ex.1 h;dsimp only at h;refine bg h fun b0 H1 h1 => ?_;refine ai (PX _ _ _ H1) ?_;refine ai (J2 _ _ _ _ H1) ?_;refine (JW hal (vi 0) h1 al.length 0 (by omega) (fun j hj => by omega)).mono fun v' H' h' => ⟨(), h'.1, h'.2⟩
theorem Xo (a : Value) (al : List (cE × Nat)) (i : Nat) (hi : i < al.length) (v : Nat) : ts 3 DR a (al.set i (al[i].1, v)) = ts 3 DR a al := by
 unfold ts;rw [JE, G0 al i hi, n9 al i hi]
 rfl
theorem Az {m : Nat} {μ : Mu} {al : List (cE × Nat)} {a v e : Value} {P R : SP} {H : AH} (hp : (∀ l, fP al l = μ.V l) ∧ al.length + μ.E.length ≤ μ.N) (h : ae P H)
 {Z : SP} [f : Fr P ((blk m (.cells false [a, v, e]) * (ts 3 DR a al * (ts 1 GE v al * ts 5 Ev.cells e μ.E))) * R) Z] : ae (bN m μ * R) H := by
 refine ae.ex.2 ⟨al, ?_⟩;rw [aj, ae.pu];exact ⟨hp, ae.ex.2 ⟨(a, v, e), h.to⟩⟩
theorem NQ (al : List (cE × Nat)) (l : cE) : (j5 al l).length ≤ al.length + 1 := by unfold j5; split <;> simp
def wZ (m : Nat) (μ : Mu) (at' : cE) (i : Nat) : SP := ex fun g : List (cE × Nat) × Value × Value × Value =>
 pu ((∀ l, fP g.1 l = μ.V l) ∧ g.1.length + μ.E.length ≤ μ.N ∧ ic g.1 at' = i ∧ i < g.1.length) * (blk m (.cells false [g.2.1, g.2.2.1, g.2.2.2]) * (ts 3 DR g.2.1 g.1 * (ts 1 GE g.2.2.1 g.1 * ts 5 Ev.cells g.2.2.2 μ.E)))
theorem FT (m : Nat) (μ : Mu) (at' : cE) (hE : μ.N < 1099511627776) : Sp AG [vp m, eJ at'] (bN m μ) (fun i : Nat => vi (i : Int)) (fun i => wZ m { μ with N := μ.N + 1 } at' i) := by
 intro R H h;obtain ⟨al, h⟩ := ae.ex.1 h;rw [aj, ae.pu] at h;obtain ⟨hp, h⟩ := h;obtain ⟨_, H', e, h'⟩ := PW m al μ.E at' (by omega) R H h;refine ⟨ic (j5 al at') at', H', e, ?_⟩;obtain ⟨⟨a, v, ev⟩, h'⟩ := ae.ex.1 h';refine ae.ex.2 ⟨(j5 al at', a, v, ev), ?_⟩;rw [aj, ae.pu];have := NQ al at';exact ⟨⟨fun l => by rw [NP, hp.1], by dsimp only; omega, rfl, Q9 al at'⟩, h'⟩
theorem QO (m : Nat) (μ : Mu) (who kind : Int) (at' : cE) (hE : μ.N < 1099511627776) : Sp cm [vp m, vi who, vi kind, eJ at'] (bN m μ) (fun _ : Unit => .tuple #[]) (fun _ => bN m (μ.log who kind at')) := by
 intro R H h;obtain ⟨al, h⟩ := ae.ex.1 h;rw [aj, ae.pu] at h;obtain ⟨hp, h⟩ := h;obtain ⟨_, H', e, h'⟩ := M0 m al μ.E who kind at' (by omega) R H h;refine ⟨(), H', e, ?_⟩;refine ae.ex.2 ⟨al, ?_⟩;rw [aj, ae.pu];exact ⟨⟨hp.1, by simp; omega⟩, h'⟩
theorem YS (m : Nat) (μ : Mu) (at2 : cE) (i : Nat) (who kind : Int) (at' : cE) (hE : μ.N < 1099511627776) : Sp cm [vp m, vi who, vi kind, eJ at'] (wZ m μ at2 i) (fun _ : Unit => .tuple #[]) (fun _ => wZ m (μ.log who kind at') at2 i) := by
 intro R H h;obtain ⟨⟨al, a, v, e⟩, h⟩ := ae.ex.1 h;rw [aj, ae.pu] at h;obtain ⟨hp, h⟩ := h;dsimp only at hp h;obtain ⟨_, H', e', h'⟩ := M0 m al μ.E who kind at' (by omega) R H (ae.ex.2 ⟨(a, v, e), h⟩);refine ⟨(), H', e', ?_⟩;obtain ⟨⟨a2, v2, e2⟩, h'⟩ := ae.ex.1 h';refine ae.ex.2 ⟨(al, a2, v2, e2), ?_⟩;rw [aj, ae.pu];exact ⟨⟨hp.1, by simp; omega, hp.2.2⟩, h'⟩
class Xi (P : SP) (m i : Nat) (μ : outParam Mu) (at' : outParam cE) (R : outParam SP) : Prop where
 eq : P = wZ m μ at' i * R
instance (priority := high) Xi.refl (m i : Nat) (μ : Mu) (at' : cE) : Xi (wZ m μ at' i) m i μ at' emp := ⟨(jm _).symm⟩
instance Xi.left (P Q R : SP) (m i : Nat) (μ : Mu) (at' : cE) [h : Xi P m i μ at' R] : Xi (P * Q) m i μ at' (R * Q) := ⟨by rw [h.eq, aj]⟩
instance Xi.right (P Q R : SP) (m i : Nat) (μ : Mu) (at' : cE) [h : Xi Q m i μ at' R] : Xi (P * Q) m i μ at' (P * R) := ⟨by rw [h.eq, cI]⟩
section
variable {m i : Nat} {μ : Mu} {at' : cE} {P R : SP} {H : AH} {Q : Value → AH → Prop}
theorem Vk {k : Value → OV} (h : ae P H) [f : Xi P m i μ at' R] (hk : wp (k (vu (μ.V at'))) Q) : wp (ld [.n, .f 1] (vp m) H fun v => ld [.i 1 (vi i)] v H k) Q := by
 have h' : ae (wZ m μ at' i * R) H := by rw [← f.eq]; exact h
 obtain ⟨⟨al, a, v, e⟩, h'⟩ := ae.ex.1 h';rw [aj, ae.pu] at h';obtain ⟨hp, h'⟩ := h';dsimp only at hp h';refine ak h' ac rfl ?_;obtain ⟨p1, _, p4, p5⟩ := hp;refine Zf (s := v) h' p5 (v := vu (μ.V at')) ?_ hk;subst p4;rw [zg at' al p5];simp [GE, p1]
theorem Vl {k : AH → OV} {v : Nat} (h : ae P H) [f : Xi P m i μ at' R] (hk : ∀ H', ae (bN m (μ.put at' v) * R) H' → wp (k H') Q) : wp (ld [.n, .f 1] (vp m) H fun s => st 1 [.i 1 (vi i)] s (vu v) H k) Q := by
 have h0 : ae (wZ m μ at' i * R) H := by rw [← f.eq]; exact h
 obtain ⟨⟨al, a, s, e⟩, h1⟩ := ae.ex.1 h0;rw [aj, ae.pu] at h1;obtain ⟨hp, h'⟩ := h1
 clear h0
 dsimp only at hp h';refine ak h' ac rfl ?_;obtain ⟨p1, p2, p4, p5⟩ := hp;subst p4;refine NC (s := s) (g := 0) ((at', v) : cE × Nat) h' p5 (.inl ⟨rfl, rfl⟩) rfl (by omega) rfl rfl fun H' h2 => hk H' ?_;have hat := zg at' al p5;have hk2 := Xo a al (ic al at') p5 v;rw [hat] at hk2;rw [← Cn at' v al p5] at h2 hk2;rw [← hk2] at h2;refine Az (al := mm al at' v) (a := a) (v := s) (e := e) ⟨fun l => ?_, ?_⟩ h2
 ·rw [Cm, p1]
 ·rw [Cn at' v al p5, JE]; exact p2
theorem Xv {x y : Value} {op : BinOp} {cl : TCls} {k : AH → OV} {v : Nat} (h : ae P H) [f : Xi P m i μ at' R] (hb : aq cl op x y = some (vu v)) (hk : ∀ H', ae (bN m (μ.put at' v) * R) H' → wp (k H') Q) :
 wp (ld [.n, .f 1] (vp m) H fun s => (aq cl op x y).bind fun z => st 1 [.i 1 (vi i)] s z H k) Q := by
 rw [hb];exact Vl h hk
theorem aaB (h : ae P H) [f : Xi P m i μ at' R] : ae (bN m μ * R) H := by
 have h' : ae (wZ m μ at' i * R) H := by rw [← f.eq]; exact h
 obtain ⟨⟨al, a, s, e⟩, h'⟩ := ae.ex.1 h';rw [aj, ae.pu] at h';obtain ⟨hp, h'⟩ := h';exact Az (al := al) (a := a) (v := s) (e := e) ⟨hp.1, hp.2.1⟩ h'
end
theorem qi (m : Nat) (μ : Mu) (who : Int) (at' : cE) (hE : μ.N < 1099511627000) : Sp dU [vp m, vi who, eJ at'] (bN m μ) (fun _ : Unit => vu (μ.V at')) (fun _ => bN m (μ.acc who 1 at')) := by
 refine bp (yb _ _ _) fun R H h => ?_
 repeat (first | refine bg ‹_› fun _ _ _ => ?_ | refine aV ‹_› ?_)
 refine ag (by assumption) (QO m μ who 1 at' (by omega)) fun _ _ _ => ?_
 repeat refine aV ‹_› ?_
 refine ag (by assumption) (FT m (μ.log who 1 at') at' (by simp; omega)) fun i H3 h3 => ?_;refine Vk h3 ?_;exact ap ⟨(), rfl, ae.to (aaB (m := m) (i := i) h3)⟩
theorem q6 (m : Nat) (μ : Mu) (who : Int) (at' : cE) (v : Nat) (hE : μ.N < 1099511627000) : Sp eb [vp m, vi who, eJ at', vu v] (bN m μ) (fun _ : Unit => .tuple #[]) (fun _ => bN m ((μ.acc who 2 at').put at' v)) := by
 refine bp (wc _ _ _ _) fun R H h => ?_
 repeat (first | refine bg ‹_› fun _ _ _ => ?_ | refine aV ‹_› ?_)
 refine ag (by assumption) (QO m μ who 2 at' (by omega)) fun _ _ _ => ?_
 repeat refine aV ‹_› ?_
 refine ag (by assumption) (FT m (μ.log who 2 at') at' (by simp; omega)) fun i H3 h3 => ?_;refine Vl (at' := at') h3 fun H4 h4 => ?_;exact ap ⟨(), rfl, h4.to⟩
theorem AU (m : Nat) (μ : Mu) (who : Int) (at' : cE) (was now : Nat) (hE : μ.N < 1099511627000) :
 Sp gv [vp m, vi who, eJ at', vu was, vu now] (bN m μ) (fun _ : Unit => vb (decide (μ.V at' = was))) (fun _ => bN m (μ.swp who at' was now)) := by
 refine bp (yc _ _ _ _ _) fun R H h => ?_
 repeat (first | refine bg ‹_› fun _ _ _ => ?_ | refine aV ‹_› ?_)
 refine ag (by assumption) (FT m μ at' (by omega)) fun i H3 h3 => ?_;refine Vk h3 ?_;refine aa (Ye) ?_;unfold Mu.swp Mu.swap;refine cR (fun hc => ?_) (fun hc => ?_)
 ·have hc : ¬ μ.V at' = was := by simpa using hc
  rw [if_neg hc, dQ hc]
  repeat refine aV ‹_› ?_
  refine ag (by assumption) (YS m { μ with N := μ.N + 1 } at' i who 4 at' (by simp; omega)) fun _ H4 h4 => ?_;exact ap ⟨(), rfl, ae.to (aaB (m := m) (i := i) h4)⟩
 ·have hc : μ.V at' = was := by simpa using hc
  rw [if_pos hc, dI hc]
  repeat refine aV ‹_› ?_
  refine ag (by assumption) (YS m { μ with N := μ.N + 1 } at' i who 3 at' (by simp; omega)) fun _ H4 h4 => ?_;refine Vl (at' := at') h4 fun H5 h5 => ?_;exact ap ⟨(), rfl, h5.to⟩
theorem MZ (m : Nat) (μ : Mu) (who : Int) (at' : cE) (n : Nat) (hE : μ.N < 1099511627000) :
 Sp jX [vp m, vi who, eJ at', vu n] (bN m μ) (fun _ : Unit => vu (μ.V at')) (fun _ => bN m ((μ.acc who 3 at').put at' ((μ.V at' + n) % 18446744073709551616))) := by
 refine bp (AN _ _ _ _) fun R H h => ?_
 repeat (first | refine bg ‹_› fun _ _ _ => ?_ | refine aV ‹_› ?_)
 refine ag (by assumption) (FT m μ at' (by omega)) fun i H3 h3 => ?_
 repeat refine aV ‹_› ?_
 refine ag (by assumption) (YS m { μ with N := μ.N + 1 } at' i who 3 at' (by simp; omega)) fun _ H4 h4 => ?_;refine Vk h4 ?_;refine Xv (at' := at') h4 XJ fun H5 h5 => ?_;exact ap ⟨(), rfl, h5.to⟩
def cQ (w : Nat) : Bool := decide (w / 2305843009213693952 < 3)
def aI (w : Nat) : Nat := if cQ w then w % 2305843009213693952 else 0
def aR (w : Nat) : Int := if cQ w then (w / 2305843009213693952 : Nat) else -1
def aQ (w : Nat) : Nat → Option Nat
 | 0 => if cQ w ∧ aR w ≠ 2 ∧ aI w < 2305843009213693951 then some (aI w + 1 + 2305843009213693952) else none
 | 1 => if aR w = 1 then some (aI w) else none
 | 2 => if aR w = 0 then some (aI w + 4611686018427387904) else none
 | _ => none
def E8 : Option Nat → Value
 | some n => .tuple #[vu n, vb true]
 | none => .tuple #[vw 0, vb false]
theorem tn (w : Nat) : Sp jc [vu w] emp (fun _ : Unit => vb (cQ w)) (fun _ => emp) := by
 refine bp (Ci _) fun R H h => ?_;refine aa (Yk) ?_;refine aa (qJ) ?_;refine ap ⟨(), ?_, h⟩
 congr 1
 unfold cQ
 congr 1
 apply propext;omega
theorem iK (w : Nat) (hw : w < 18446744073709551616) : Sp dL [vu w] emp (fun _ : Unit => vu (aI w)) (fun _ => emp) := by
 refine bp (Ch _) fun R H h => ?_;refine ag (by assumption) (tn w) fun _ _ _ => ?_;refine aa (BD) ?_;refine cR (fun hc => ?_) (fun hc => ?_)
 ·have hc : cQ w = false := by simpa using hc
  refine ap ⟨(), by simp [aI, hc], ae.to (by assumption)⟩
 ·have hc : cQ w = true := by simpa using hc
  refine aa (ZE hw) ?_;refine ap ⟨(), by simp [aI, hc], ae.to (by assumption)⟩
theorem jS (w : Nat) (hw : w < 18446744073709551616) : Sp eC [vu w] emp (fun _ : Unit => vi (aR w)) (fun _ => emp) := by
 refine bp (Cj _) fun R H h => ?_;refine ag (by assumption) (tn w) fun _ _ _ => ?_;refine aa (BD) ?_;refine cR (fun hc => ?_) (fun hc => ?_)
 ·have hc : cQ w = false := by simpa using hc
  refine ap ⟨(), by simp [aR, hc], ae.to (by assumption)⟩
 ·have hc : cQ w = true := by simpa using hc
  refine aa (Yk) ?_;refine aa (ik (by omega)) ?_;refine ap ⟨(), by simp [aR, hc], ae.to (by assumption)⟩
theorem nG (w : Nat) (hw : w < 18446744073709551616) : Sp gu [vu w] emp (fun _ : Unit => .tuple #[vu (aI w), vi (aR w), vb (cQ w)]) (fun _ => emp) := by
 refine bp (Fd _) fun R H h => ?_;refine aa (ZX) ?_;refine aa (ZV hw) ?_;refine aa (ik (by omega)) ?_;refine aa (DF) ?_;refine cR (fun hc => ?_) (fun hc => ?_)
 ·have hc : cQ w = false := by simp at hc; simp [cQ]; omega
  refine ap ⟨(), by simp [aI, aR, hc], h.to⟩
 ·have hc : cQ w = true := by simp at hc; simp [cQ]; omega
  refine ap ⟨(), by simp [aI, aR, hc], h.to⟩
theorem Dy (n : Nat) (s : Nat) (hn : n ≤ 2305843009213693951) (hs : s < 3) : Sp mw [vu n, vi (s : Int)] emp (fun _ : Unit => .tuple #[vu (s * 2305843009213693952 + n), vb true]) (fun _ => emp) := by
 refine bp (FQ _ _) fun R H h => ?_;refine aa (iQ (by omega)) ?_;refine gt ?_;refine aa (BY (db ?_)) ?_
 ·omega
 refine gt ?_;refine aa (BY (pJ ?_)) ?_
 ·omega
 refine gt ?_;refine cR (fun hc => by cases hc) (fun _ => ?_);refine aa (dH (by omega) (by omega)) ?_
 have e1 : aq .other .shl (vu (s : Int).toNat) (vw 61) = some (vu (s * 2305843009213693952)) := by
  have := Cr (cl := .other) (a := s) (k := .u64) (n := 61) (by omega);simp only [Nat.reducePow] at this;rw [Nat.mod_eq_of_lt (by omega)] at this
  simpa using this
 refine aa (e1) ?_
 have e2 : aq .other .or (vu (s * 2305843009213693952)) (vu n) = some (vu (s * 2305843009213693952 + n)) := by
  rw [Rj (by omega) (by omega)]
  congr 3
  have := Nat.two_pow_add_eq_or_of_lt (i := 61) (b := n) (by simp only [Nat.reducePow]; omega) s;simp only [Nat.reducePow] at this;rw [Nat.mul_comm, ← this]
 refine aa (e2) ?_;exact ap ⟨(), rfl, h.to⟩
theorem AM (n : Nat) (s : Nat) (hn : n ≤ 2305843009213693951) (hs : s < 3) : Sp lS [vu n, vi (s : Int)] emp (fun _ : Unit => .tuple #[vu (s * 2305843009213693952 + n), vb true]) (fun _ => emp) := by
 refine bp (Hx _ _) fun R H h => ?_;refine aa (iQ (by omega)) ?_;refine gt ?_;refine aa (BY (db ?_)) ?_
 ·omega
 refine gt ?_;refine aa (BY (iQ ?_)) ?_
 ·omega
 refine gt ?_;refine cR (fun hc => by cases hc) (fun _ => ?_);refine aa (dH (by omega) (by omega)) ?_
 have hs2 : (s : Int).toNat = s := by omega
 rw [hs2];refine aa (ZS (by omega)) ?_;refine aa (eZ (by omega)) ?_;exact ap ⟨(), rfl, h.to⟩
theorem eh (w : Nat) : aI w ≤ 2305843009213693951 := by unfold aI; split <;> omega
theorem U4 {w : Nat} (h : cQ w = true ∧ aR w ≠ 2 ∧ aI w < 2305843009213693951) : aQ w 0 = some (aI w + 1 + 2305843009213693952) := if_pos h
theorem If {w : Nat} (h : ¬ (cQ w = true ∧ aR w ≠ 2 ∧ aI w < 2305843009213693951)) : aQ w 0 = none := if_neg h
theorem Z5 {w : Nat} (h : aR w = 1) : aQ w 1 = some (aI w) := if_pos h
theorem Z4 {w : Nat} (h : ¬ aR w = 1) : aQ w 1 = none := if_neg h
theorem U5 {w : Nat} (h : aR w = 0) : aQ w 2 = some (aI w + 4611686018427387904) := if_pos h
theorem Yn {w : Nat} (h : ¬ aR w = 0) : aQ w 2 = none := if_neg h
theorem QJ (w : Nat) (hw : w < 18446744073709551616) : Sp mv [vu w] emp (fun _ : Unit => E8 (aQ w 0)) (fun _ => emp) := by
 refine bp (FP _) fun R H h => ?_;have hcl := eh w;refine ag (by assumption) (tn w) fun _ _ _ => ?_;refine aa (BD) ?_
 by_cases hr : cQ w = true
 ·rw [hr, Bool.not_true]
  refine gt ?_;refine ag (by assumption) (jS w hw) fun _ _ _ => ?_;refine aa (BY (mn)) ?_
  by_cases hs : aR w = 2
  ·rw [beq_iff_eq.2 hs]
   refine gt ?_;refine cR (fun _ => ?_) (fun hc => by cases hc);exact ap ⟨(), by rw [If (fun h => h.2.1 hs)]; rfl, ae.to (by assumption)⟩
  ·rw [beq_eq_false_iff_ne.2 hs]
   refine gt ?_;refine ag (by assumption) (iK w hw) fun _ _ _ => ?_;refine aa (BY (mn)) ?_;refine gt ?_;refine cR (fun hc => ?_) (fun hc => ?_)
   ·have hc : (aI w : Int) = 2305843009213693951 := by simpa using hc
    exact ap ⟨(), by rw [If (fun h => by have := h.2.2; omega)]; rfl, ae.to (by assumption)⟩
   ·have hc : ¬ (aI w : Int) = 2305843009213693951 := by simpa using hc
    have ht := U4 (w := w) ⟨hr, hs, by omega⟩;refine ag (by assumption) (iK w hw) fun _ _ _ => ?_;refine aa (eZ (b := 1) (by omega)) ?_;refine ag (by assumption) (Dy (aI w + 1) 1 (by omega) (by omega)) fun _ _ _ => ?_;refine aa rfl ?_;refine aa rfl ?_;refine ap ⟨(), ?_, ae.to (by assumption)⟩;rw [ht];simp [E8];omega
 ·have hr : cQ w = false := by simpa using hr
  rw [hr, Bool.not_false];refine gt ?_;refine cR (fun _ => ?_) (fun hc => by cases hc);exact ap ⟨(), by rw [If (fun h => by rw [hr] at h; cases h.1)]; rfl, ae.to (by assumption)⟩
theorem QK (w : Nat) (hw : w < 18446744073709551616) : Sp my [vu w] emp (fun _ : Unit => E8 (aQ w 2)) (fun _ => emp) := by
 refine bp (FR _) fun R H h => ?_;have hcl := eh w;refine ag (by assumption) (jS w hw) fun _ _ _ => ?_;refine aa (tz) ?_;refine cR (fun hc => ?_) (fun hc => ?_)
 ·have hc : ¬ aR w = 0 := by simpa using hc
  exact ap ⟨(), by rw [Yn hc]; rfl, ae.to (by assumption)⟩
 ·have hc : aR w = 0 := by simpa using hc
  refine ag (by assumption) (iK w hw) fun _ _ _ => ?_;refine ag (by assumption) (Dy (aI w) 2 (by omega) (by omega)) fun _ _ _ => ?_;refine aa rfl ?_;refine aa rfl ?_;refine ap ⟨(), ?_, ae.to (by assumption)⟩;rw [U5 hc];simp [E8];omega
theorem J0 (w how : Nat) (hw : w < 18446744073709551616) (hh : how < 3) : Sp og [vu w, vi (how : Int)] emp (fun _ : Unit => E8 (aQ w how)) (fun _ => emp) := by
 refine bp (B6 _ _) fun R H h => ?_;have hcl := eh w;refine ag (by assumption) (nG w hw) fun _ H1 h1 => ?_;refine aa rfl ?_;refine aa rfl ?_;refine aa rfl ?_;refine ai (v9 _ _ _ _ _ _ H1) ?_;refine aa (BD) ?_;refine cR (fun hc => ?_) (fun hc => ?_)
 ·have hc : cQ w = false := by simpa using hc
  have : aQ w how = none := by
   match how, hh with
   | 0, _ => simp [aQ, hc]
   | 1, _ => simp [aQ, aR, hc]
   | 2, _ => simp [aQ, aR, hc]
  exact ap ⟨(), by rw [this]; rfl, ae.to (by assumption)⟩
 ·have hr : cQ w = true := by simpa using hc
  match how, hh with
  | 0, _ =>
   refine aa (bw rfl) ?_;refine gt ?_;refine aa (BY (tz)) ?_;refine gt ?_
   by_cases hs : aR w = 2
   ·rw [bne_eq_false_iff_eq.2 hs]
    refine gt ?_;refine cR (fun hc => by cases hc) (fun _ => ?_);refine aa (aD ?_) ?_
    ·omega
    refine gt ?_;refine cR (fun hc => by cases hc) (fun _ => ?_);refine aa (aD ?_) ?_
    ·omega
    refine gt ?_;refine cR (fun hc => by cases hc) (fun _ => ?_);refine ai (gR _ _ H1) ?_;exact ap ⟨(), by rw [If (fun h => h.2.1 hs)]; rfl, ae.to (by assumption)⟩
   ·rw [bne_iff_ne.2 hs]
    refine gt ?_;refine aa (BY (qJ)) ?_;refine gt ?_;refine cR (fun hc => ?_) (fun hc => ?_)
    ·have hc : (aI w : Int) < 2305843009213693951 := by simpa using hc
     have ht := U4 (w := w) ⟨hr, hs, by omega⟩;refine aa (eZ (b := 1) (by omega)) ?_;refine ag (by assumption) (AM (aI w + 1) 1 (by omega) (by omega)) fun _ _ _ => ?_;refine aa rfl ?_;refine aa rfl ?_;refine ap ⟨(), ?_, ae.to (by assumption)⟩;rw [ht];simp [E8];omega
    ·have hc : ¬ (aI w : Int) < 2305843009213693951 := by simpa using hc
     refine aa (aD ?_) ?_
     ·omega
     refine gt ?_;refine cR (fun hc => by cases hc) (fun _ => ?_);refine aa (aD ?_) ?_
     ·omega
     refine gt ?_;refine cR (fun hc => by cases hc) (fun _ => ?_);refine ai (gR _ _ H1) ?_;exact ap ⟨(), by rw [If (fun h => by have := h.2.2; omega)]; rfl, ae.to (by assumption)⟩
  | 1, _ =>
   refine aa (aD ?_) ?_
   ·omega
   refine gt ?_;refine cR (fun hc => by cases hc) (fun _ => ?_);refine aa (bw rfl) ?_;refine gt ?_;refine aa (BY (mn)) ?_;refine gt ?_;refine cR (fun hc => ?_) (fun hc => ?_)
   ·have hc : aR w = 1 := by simpa using hc
    refine ag (by assumption) (AM (aI w) 0 (by omega) (by omega)) fun _ _ _ => ?_;refine aa rfl ?_;refine aa rfl ?_;exact ap ⟨(), by rw [Z5 hc]; simp [E8], ae.to (by assumption)⟩
   ·have hc : ¬ aR w = 1 := by simpa using hc
    refine aa (aD ?_) ?_
    ·omega
    refine gt ?_;refine cR (fun hc => by cases hc) (fun _ => ?_);refine ai (gR _ _ H1) ?_;exact ap ⟨(), by rw [Z4 hc]; rfl, ae.to (by assumption)⟩
  | 2, _ =>
   refine aa (aD ?_) ?_
   ·omega
   refine gt ?_;refine cR (fun hc => by cases hc) (fun _ => ?_);refine aa (aD ?_) ?_
   ·omega
   refine gt ?_;refine cR (fun hc => by cases hc) (fun _ => ?_);refine aa (bw rfl) ?_;refine gt ?_;refine aa (BY (mn)) ?_;refine gt ?_;refine cR (fun hc => ?_) (fun hc => ?_)
   ·have hc : aR w = 0 := by simpa using hc
    refine ag (by assumption) (AM (aI w) 2 (by omega) (by omega)) fun _ _ _ => ?_;refine aa rfl ?_;refine aa rfl ?_;refine ap ⟨(), ?_, ae.to (by assumption)⟩;rw [U5 hc];simp [E8];omega
   ·have hc : ¬ aR w = 0 := by simpa using hc
    refine ai (gR _ _ H1) ?_;exact ap ⟨(), by rw [Yn hc]; rfl, ae.to (by assumption)⟩
theorem xe (s : Int) : Sp j1 [vi s] emp (fun _ : Unit => eJ (8, s, 0)) (fun _ => emp) := by
 refine bp (Bu _) fun R H h => ?_
 repeat (first | refine bm ‹_› fun _ _ _ => ?_ | refine aV ‹_› ?_ | refine eG ‹_› rfl rfl fun _ _ => ?_ | refine iU ?_)
 exact ap ⟨(), rfl, ae.to (by assumption)⟩
theorem tk (s i : Int) : Sp jb [vi s, vi i] emp (fun _ : Unit => eJ (10, s, i)) (fun _ => emp) := by
 refine bp (Cf _ _) fun R H h => ?_
 repeat (first | refine bm ‹_› fun _ _ _ => ?_ | refine aV ‹_› ?_ | refine eG ‹_› rfl rfl fun _ _ => ?_ | refine iU ?_)
 exact ap ⟨(), rfl, ae.to (by assumption)⟩
theorem dZ (k a b : Int) : Sp cr [vi k, vi a, vi b] emp (fun _ : Unit => eJ (k, a, b)) (fun _ => emp) := by
 refine bp (J1 _ _ _) fun R H h => ?_
 repeat (first | refine bm ‹_› fun _ _ _ => ?_ | refine aV ‹_› ?_ | refine eG ‹_› rfl rfl fun _ _ => ?_ | refine iU ?_)
 exact ap ⟨(), rfl, ae.to (by assumption)⟩
def tab (t m : Nat) (sh sl : Nat) : SP := blk t (.cells false [vp m, vi sh, vi sl])
section
variable (t m : Nat) (sh sl : Nat) (μ : Mu) (who s i : Int)
theorem xh : Sp dE [vp t] (tab t m sh sl) (fun _ : Unit => vi sl) (fun _ => tab t m sh sl) := by
 refine bp (qu _) fun R H h => ?_;unfold tab at h ⊢
 repeat refine ak ‹_› ac rfl ?_
 exact ap ⟨(), rfl, ae.to (by assumption)⟩
theorem tj (hE : μ.N < 1099511627000) : Sp dW [vp t, vi who, vi s] (tab t m sh sl * bA m μ) (fun _ : Unit => vb (decide (μ.V (8, s, 0) = 0))) (fun _ => tab t m sh sl * bA m (μ.swp who (8, s, 0) 0 1)) := by
 refine bp (rD _ _ _) fun R H h => ?_;unfold tab at h ⊢
 repeat refine ak ‹_› ac rfl ?_
 refine ag (by assumption) (xe s) fun _ _ _ => ?_
 repeat refine aG ‹_› ‹_› rfl ?_
 refine ag (by assumption) (JQ m μ who (8, s, 0) 0 1 (by omega)) fun _ _ _ => ?_;exact ap ⟨(), rfl, ae.to (by assumption)⟩
theorem vf (hE : μ.N < 1099511627000) : Sp eA [vp t, vi who, vi s] (tab t m sh sl * bA m μ) (fun _ : Unit => .tuple #[]) (fun _ => tab t m sh sl * bA m ((μ.acc who 2 (8, s, 0)).put (8, s, 0) 0)) := by
 refine bp (pd _ _ _) fun R H h => ?_;unfold tab at h ⊢
 repeat refine ak ‹_› ac rfl ?_
 refine ag (by assumption) (xe s) fun _ _ _ => ?_
 repeat refine aG ‹_› ‹_› rfl ?_
 refine ag (by assumption) (yS m μ who (8, s, 0) 0 (by omega)) fun _ _ _ => ?_;exact ap ⟨(), rfl, ae.to (by assumption)⟩
theorem HY (hE : μ.N < 1099511627000) : Sp g9 [vp t, vi who, vi s, vi i] (tab t m sh sl * bA m μ) (fun _ : Unit => .tuple #[]) (fun _ => tab t m sh sl * bA m ((μ.acc who 2 (10, s, i)).put (10, s, i) 0)) := by
 refine bp (qr _ _ _ _) fun R H h => ?_;unfold tab at h ⊢
 repeat refine ak ‹_› ac rfl ?_
 refine ag (by assumption) (tk s i) fun _ _ _ => ?_
 repeat refine aG ‹_› ‹_› rfl ?_
 refine ag (by assumption) (yS m μ who (10, s, i) 0 (by omega)) fun _ _ _ => ?_;exact ap ⟨(), rfl, ae.to (by assumption)⟩
theorem Hy (hE : μ.N < 1099511627000) : Sp gL [vp t, vi who, vi s] (tab t m sh sl * bN m μ) (fun _ : Unit => vb (decide (μ.V (8, s, 0) = 0))) (fun _ => tab t m sh sl * bN m (μ.swp who (8, s, 0) 0 1)) := by
 refine bp (uJ _ _ _) fun R H h => ?_;unfold tab at h ⊢
 repeat refine ak ‹_› ac rfl ?_
 refine ag (by assumption) (dZ 8 s 0) fun _ _ _ => ?_
 repeat refine aG ‹_› ‹_› rfl ?_
 refine ag (by assumption) (AU m μ who (8, s, 0) 0 1 (by omega)) fun _ _ _ => ?_;exact ap ⟨(), rfl, ae.to (by assumption)⟩
theorem s0 (hE : μ.N < 1099511627000) : Sp dV [vp t, vi who, vi s] (tab t m sh sl * bN m μ) (fun _ : Unit => .tuple #[]) (fun _ => tab t m sh sl * bN m ((μ.acc who 2 (8, s, 0)).put (8, s, 0) 0)) := by
 refine bp (rz _ _ _) fun R H h => ?_;unfold tab at h ⊢
 repeat refine ak ‹_› ac rfl ?_
 refine ag (by assumption) (dZ 8 s 0) fun _ _ _ => ?_
 repeat refine aG ‹_› ‹_› rfl ?_
 refine ag (by assumption) (q6 m μ who (8, s, 0) 0 (by omega)) fun _ _ _ => ?_;exact ap ⟨(), rfl, ae.to (by assumption)⟩
theorem PV (hE : μ.N < 1099511627000) : Sp ja [vp t, vi who, vi s, vi i] (tab t m sh sl * bN m μ) (fun _ : Unit => .tuple #[]) (fun _ => tab t m sh sl * bN m ((μ.acc who 2 (10, s, i)).put (10, s, i) 0)) := by
 refine bp (sV _ _ _ _) fun R H h => ?_;unfold tab at h ⊢
 repeat refine ak ‹_› ac rfl ?_
 refine ag (by assumption) (dZ 10 s i) fun _ _ _ => ?_
 repeat refine aG ‹_› ‹_› rfl ?_
 refine ag (by assumption) (q6 m μ who (10, s, i) 0 (by omega)) fun _ _ _ => ?_;exact ap ⟨(), rfl, ae.to (by assumption)⟩
def gW (v : Nat) : Value := if v = 0 then .tuple #[vi 0, vi 0, vb false] else .tuple #[vi ((v / 4294967296 : Nat) - 1), vi (v % 4294967296 : Nat), vb true]
theorem xg (hE : μ.N < 1099511627000) (hV : μ.V (10, s, i) < 18446744073709551616) :
 Sp fK [vp t, vi who, vi s, vi i] (tab t m sh sl * bA m μ) (fun _ : Unit => gW (μ.V (10, s, i))) (fun _ => tab t m sh sl * bA m (μ.acc who 1 (10, s, i))) := by
 refine bp (rE _ _ _ _) fun R H h => ?_;unfold tab at h ⊢
 repeat refine ak ‹_› ac rfl ?_
 refine ag (by assumption) (tk s i) fun _ _ _ => ?_
 repeat refine aG ‹_› ‹_› rfl ?_
 refine ag (by assumption) (vZ m μ who (10, s, i) (by omega)) fun _ _ _ => ?_;refine aa (XL (b := 0)) ?_;refine cR (fun hc => ?_) (fun hc => ?_)
 ·have hc : μ.V (10, s, i) = 0 := by simpa using hc
  refine ap ⟨(), by rw [gW, if_pos hc], ae.to (by assumption)⟩
 ·have hc : ¬ μ.V (10, s, i) = 0 := by simpa using hc
  refine aa (Z1) ?_;refine aa (ik (by omega)) ?_;refine aa (nb (by omega) (by omega)) ?_;refine aa (ZD hV) ?_;refine aa (ik (by omega)) ?_;refine ap ⟨(), by rw [gW, if_neg hc], ae.to (by assumption)⟩
theorem C2 (hE : μ.N < 1099511627000) (hV : μ.V (10, s, i) < 18446744073709551616) :
 Sp jL [vp t, vi who, vi s, vi i] (tab t m sh sl * bN m μ) (fun _ : Unit => gW (μ.V (10, s, i))) (fun _ => tab t m sh sl * bN m (μ.acc who 1 (10, s, i))) := by
 refine bp (uK _ _ _ _) fun R H h => ?_;unfold tab at h ⊢
 repeat refine ak ‹_› ac rfl ?_
 refine ag (by assumption) (dZ 10 s i) fun _ _ _ => ?_
 repeat refine aG ‹_› ‹_› rfl ?_
 refine ag (by assumption) (qi m μ who (10, s, i) (by omega)) fun _ _ _ => ?_;refine aa (XL (b := 0)) ?_;refine cR (fun hc => ?_) (fun hc => ?_)
 ·have hc : μ.V (10, s, i) = 0 := by simpa using hc
  refine ap ⟨(), by rw [gW, if_pos hc], ae.to (by assumption)⟩
 ·have hc : ¬ μ.V (10, s, i) = 0 := by simpa using hc
  refine aa (ZU hV) ?_;refine aa (ik (by omega)) ?_;refine aa (nb (by omega) (by omega)) ?_;refine aa (ZW) ?_;refine aa (ik (by omega)) ?_;refine ap ⟨(), by rw [gW, if_neg hc], ae.to (by assumption)⟩
end
def um (v n : Int) : Int := (v % 18446744073709551616) % n
theorem mt {v n : Int} (h : 0 < n) : 0 ≤ um v n ∧ um v n < n := ⟨Int.emod_nonneg _ (by omega), Int.emod_lt_of_pos _ h⟩
theorem qa (v n : Int) (h0 : 0 < n) (h1 : n < 9223372036854775808) : Sp eK [vi v, vi n] emp (fun _ : Unit => vi (um v n)) (fun _ => emp) := by
 refine bp (Hr _ _) fun R H h => ?_
 have e1 : cH (some .u64) (vi v) = some (vu (v % 18446744073709551616).toNat) := by
  simp only [cH];rw [BG];have : 0 ≤ v % 18446744073709551616 := Int.emod_nonneg _ (by omega);show _ = some (Value.int .u64 (((v % 18446744073709551616).toNat : Nat) : Int));rw [Int.toNat_of_nonneg this]
 refine aa (e1) ?_;refine aa (dH (by omega) (by omega)) ?_;refine aa (iO (by omega)) ?_;have hm := mt (v := v) h0
 have e2 : (((v % 18446744073709551616).toNat % n.toNat : Nat) : Int) = um v n := by
  have : 0 ≤ v % 18446744073709551616 := Int.emod_nonneg _ (by omega);unfold um;rw [Int.natCast_emod, Int.toNat_of_nonneg this, Int.toNat_of_nonneg (by omega)]
 refine aa (ik (by omega)) ?_;rw [e2];exact ap ⟨(), rfl, ae.to (by assumption)⟩
structure fM where
 sh : Int
 sl : Int
 wk : Int
 wd : Int
 un : Nat
abbrev fM.cells (c : fM) : List Value := [vi c.sh, vi c.sl, vi c.wk, vi c.wd, vu c.un]
structure Cl where
 op : Int
 flow : Int
 a : Int
 b : Int
abbrev Cl.cells (x : Cl) : List Value := [vi x.op, vi x.flow, vi x.a, vi x.b]
instance : Enc Cl.cells 4 := ⟨fun _ => rfl, fun _ => rfl, by omega⟩
structure Sv where
 a : Option Addr
 n : Nat
 c : Nat
abbrev Sv.v (s : Sv) : Value := .slice s.a s.n s.c
abbrev aaR (s : Sv) : List Value := [.slice s.a s.n s.c]
instance : Enc aaR 1 := ⟨fun _ => rfl, fun _ => rfl, by omega⟩
def bW (c : fM) : Bool := decide (1 ≤ c.sh ∧ c.sh ≤ 4 ∧ 1 ≤ c.sl ∧ c.sl ≤ 4 ∧ 1 ≤ c.wk ∧ c.wk ≤ 6 ∧ 0 ≤ c.wd ∧ c.wd ≤ 40 ∧ 1 ≤ c.un ∧ c.un ≤ 4611686018427387904)
theorem bx {c : fM} : bW c = true ↔ (1 ≤ c.sh ∧ c.sh ≤ 4 ∧ 1 ≤ c.sl ∧ c.sl ≤ 4 ∧ 1 ≤ c.wk ∧ c.wk ≤ 6 ∧ 0 ≤ c.wd ∧ c.wd ≤ 40 ∧ 1 ≤ c.un ∧ c.un ≤ 4611686018427387904) := by unfold bW; exact decide_eq_true_iff
theorem lz {c : fM} (h : ¬ (1 ≤ c.sh ∧ c.sh ≤ 4 ∧ 1 ≤ c.sl ∧ c.sl ≤ 4 ∧ 1 ≤ c.wk ∧ c.wk ≤ 6 ∧ 0 ≤ c.wd ∧ c.wd ≤ 40 ∧ 1 ≤ c.un ∧ c.un ≤ 4611686018427387904)) : bW c = false := by unfold bW; exact dQ h
theorem gI (x a b : Int) : Sp fj [vi x, vi a, vi b] emp (fun _ : Unit => vb (decide (a ≤ x ∧ x ≤ b))) (fun _ => emp) := by
 refine bp (xR _ _ _) fun R H h => ?_
 by_cases h1 : a ≤ x
 ·refine aa (wU h1) ?_
  refine gs ?_
  by_cases h2 : x ≤ b
  ·refine aa (Tt h2) ?_
   refine gs ?_;rw [dI ⟨h1, h2⟩];exact ap ⟨(), rfl, ae.to (by assumption)⟩
  ·refine aa (Tq h2) ?_
   refine gs ?_;rw [dQ (fun h => h2 h.2)];exact ap ⟨(), rfl, ae.to (by assumption)⟩
 ·refine aa (pJ h1) ?_
  refine gs ?_;rw [dQ (fun h => h1 h.1)];exact ap ⟨(), rfl, ae.to (by assumption)⟩
theorem Hh (c : fM) : Sp mY [.agg (fM.cells c).toArray] emp (fun _ : Unit => vb (bW c)) (fun _ => emp) := by
 refine bp (AF _) fun R H h => ?_;refine bg h fun b H1 h1 => ?_;refine ak h1 aK rfl ?_;refine ag h1 (gI c.sh 1 4) fun _ K0 k0 => ?_
 by_cases g0 : (1 : Int) ≤ c.sh ∧ c.sh ≤ 4
 case neg =>
  rw [dQ g0];refine gs ?_;rw [lz (by omega)];exact ap ⟨(), rfl, ae.to (by assumption)⟩
 rw [dI g0];refine gs ?_;refine ak k0 aK rfl ?_;refine gs ?_;refine ag k0 (gI c.sl 1 4) fun _ K1 k1 => ?_
 by_cases g1 : (1 : Int) ≤ c.sl ∧ c.sl ≤ 4
 case neg =>
  rw [dQ g1];refine gs ?_;rw [lz (by omega)];exact ap ⟨(), rfl, ae.to (by assumption)⟩
 rw [dI g1];refine gs ?_;refine ak k1 aK rfl ?_;refine gs ?_;refine ag k1 (gI c.wk 1 6) fun _ K2 k2 => ?_
 by_cases g2 : (1 : Int) ≤ c.wk ∧ c.wk ≤ 6
 case neg =>
  rw [dQ g2];refine gs ?_;rw [lz (by omega)];exact ap ⟨(), rfl, ae.to (by assumption)⟩
 rw [dI g2];refine gs ?_;refine ak k2 aK rfl ?_;refine gs ?_;refine ag k2 (gI c.wd 0 40) fun _ K3 k3 => ?_
 by_cases g3 : (0 : Int) ≤ c.wd ∧ c.wd ≤ 40
 case neg =>
  rw [dQ g3];refine gs ?_;rw [lz (by omega)];exact ap ⟨(), rfl, ae.to (by assumption)⟩
 rw [dI g3];refine gs ?_;refine ak k3 aK rfl ?_;refine gs ?_
 by_cases g4 : (1 : Int) ≤ c.un
 case neg =>
  refine aa (pJ g4) ?_;refine gs ?_;rw [lz (by omega)];exact ap ⟨(), rfl, ae.to (by assumption)⟩
 refine aa (wU g4) ?_;refine gs ?_;refine ak k3 aK rfl ?_;refine gs ?_
 by_cases g5 : (c.un : Int) ≤ 4611686018427387904
 case neg =>
  refine aa (Tq g5) ?_;refine gs ?_;rw [lz (by omega)];exact ap ⟨(), rfl, ae.to (by assumption)⟩
 refine aa (Tt g5) ?_;refine gs ?_;rw [bx.2 (by omega)];exact ap ⟨(), rfl, ae.to (by assumption)⟩
theorem BF (w : Int) : Sp oh [vi w] emp (fun x : Int => vi x) (fun _ => emp) := by
 refine bp (Cg _) fun R H h => ?_;refine aa (kH) ?_;refine aa (kI) ?_;exact ap ⟨_, rfl, h⟩
theorem QI (w : Int) : Sp p6 [vi w] emp (fun b : Nat => vp b) (fun _ => emp) := by
 refine bp (FO _) fun R H h => ?_;refine ag h (BF w) fun x H1 h1 => ?_;refine vh h1 fun mb H2 h2 => ?_;refine Ih rfl ?_;refine bg h2 fun b H3 h3 => ?_;exact ap ⟨b, rfl, h3.to⟩
theorem Th : Sp sB [] emp (fun b : Nat => vp b) (fun _ => emp) := by
 refine bp G4 fun R H h => ?_;refine vh h fun mb H2 h2 => ?_;refine iU ?_;refine bg h2 fun b H3 h3 => ?_;exact ap ⟨b, rfl, h3.to⟩
theorem Ql (w : Int) : Sp pZ [vi w] emp (fun b : Nat => vp b) (fun _ => emp) := by
 refine bp (FH _) fun R H h => ?_;refine ag h (QI w) fun x H1 h1 => ?_;refine ag h1 Th fun y H2 h2 => ?_;refine iU ?_;refine bg h2 fun b H3 h3 => ?_;exact ap ⟨b, rfl, h3.to⟩
theorem T5 (m : Nat) (s : Int) : Sp sE [vp m, vi s] emp (fun b : Nat => vp b) (fun _ => emp) := by
 refine bp (Hu _ _) fun R H h => ?_;refine aa (kH) ?_;refine aa (kI) ?_;refine vh h fun mb H2 h2 => ?_;refine vh h2 fun mc H3 h3 => ?_;refine iU ?_;refine bg h3 fun b H4 h4 => ?_;exact ap ⟨b, rfl, h4.to⟩
structure Lf where
 k : Int
 i : Int
 b : Bool
abbrev Lf.cells (x : Lf) : List Value := [vw x.k, vi x.i, vb x.b]
instance : Enc Lf.cells 3 := ⟨fun _ => rfl, fun _ => rfl, by omega⟩
def Bw (t : Nat) (lv : Value) (s : Nat) (nv : Value) (m : List Int) : SP := blk t (.cells false [lv, vi s, nv]) * ts 1 kR nv m
theorem UZ (n : Int) : Sp sH [vi n] emp (fun b : Nat => vp b) (fun _ => emp) := by
 refine bp (Ib _) fun R H h => ?_;refine aa (kH) ?_;refine aa (kI) ?_;obtain ⟨k, hk⟩ : ∃ k : Nat, min (max n 1) 16 = k := ⟨(min (max n 1) 16).toNat, by omega⟩;rw [hk]
 have hk1 : 1 ≤ k := by omega
 have hk16 : k ≤ 16 := by omega
 refine KH (enc := Lf.cells) (⟨0, 0, false⟩ : Lf) h rfl (by unfold dt; omega) (by omega) fun lb H1 h1 => ?_;refine iU ?_;refine bg h1 fun t H2 h2 => ?_;refine ai (Bx _ _ _ H2) ?_
 -- the nodes
 have nodes : ∀ (s : Nat) (H : AH), s ≤ 32 → ae (Bw t (vs lb k 3) s (.slice none 0 0) [] * R) H → wp (qx (.pointer none) (vp t) H) fun v' H' => ∃ b : Nat, v' = vp b ∧ ae (emp * R) H' := by
  intro s H hs h;refine ai (By _ _ H) ?_;unfold Bw at h;refine ak h ac rfl ?_;refine aa (Cq (by omega) (by omega)) ?_;refine ai (BA _ _ _ _ H) ?_
  have loop : ∀ (d i : Nat) (nv : Value) (m : List Int) (H : AH), i + d = 2 * s → m.length = i → ae (blk t (.cells false [vs lb k 3, vi s, nv]) * ts 1 kR nv m * R) H → wp (mN (.pointer none) (vp t) (vi (2 * (s : Int))) (vi i) H) fun v' H' => ∃ b : Nat, v' = vp b ∧ ae (emp * R) H' := by
   intro d
   induction d with
   | zero =>
    intro i nv m H hi hm h;refine ai (qy _ _ _ _ H) ?_;refine aa (db (by omega)) ?_;refine gs ?_;refine ai (wH _ _ H) ?_;refine ai (Bz _ _ H) ?_;exact ap ⟨t, rfl, h.to⟩
   | succ d ih =>
    intro i nv m H hi hm h;refine ai (qy _ _ _ _ H) ?_;refine aa (eO (by omega)) ?_;refine gs ?_;refine ai (BB _ _ _ _ H) ?_;refine ak h ac rfl ?_;refine Nu h fun b0 H3 h3 => ?_;refine jp (-1 : Int) h3 rfl ?_ (by omega) fun a c H4 h4 => ?_
    ·unfold dt; omega
    refine bv h4 ac rfl rfl fun H5 h5 => ?_;refine ai (BC _ _ _ _ H5) ?_;refine aa (bu (by omega) (by omega)) ?_;refine ih (i + 1) (.slice a (m.length + 1) c) (m ++ [-1]) H5 (by omega) (by simp; omega) h5.to
  exact loop (2 * s) 0 (.slice none 0 0) [] H (by omega) rfl h
 -- the size
 have size : ∀ (d s : Nat) (H : AH), 16 ≤ s + d → 1 ≤ s → s ≤ 32 → ae (Bw t (vs lb k 3) s (.slice none 0 0) [] * R) H → wp (kZ (vi k) (.pointer none) (vp t) H) fun v' H' => ∃ b : Nat, v' = vp b ∧ ae (emp * R) H' := by
  intro d
  induction d with
  | zero =>
   intro s H hd hs1 hs h;refine ai (o5 _ _ _ H) ?_;have h' := h;unfold Bw at h';refine ak h' ac rfl ?_;refine aa (db (by omega)) ?_;refine gs ?_;refine ai (mM _ _ H) ?_;exact nodes s H hs h
  | succ d ih =>
   intro s H hd hs1 hs h;refine ai (o5 _ _ _ H) ?_;have h' := h;unfold Bw at h';refine ak h' ac rfl ?_
   by_cases hlt : (s : Int) < k
   ·refine aa (eO hlt) ?_
    refine gs ?_;refine ai (yx _ _ _ H) ?_;refine ak h' ac rfl ?_;refine aa (Cq (by omega) (by omega)) ?_;refine bv h' ac rfl rfl fun H3 h3 => ?_;refine ih (s * 2) H3 (by omega) (by omega) (by omega) ?_;unfold Bw;rw [show (((s * 2 : Nat) : Int)) = (s : Int) * 2 from by omega];exact h3.to
   ·refine aa (db hlt) ?_
    refine gs ?_;refine ai (mM _ _ H) ?_;exact nodes s H hs h
 refine size 16 1 H2 (by omega) (by omega) (by omega) ?_;unfold Bw;have h3 := iJ 1 kR h2;exact h3.to
abbrev oH (b : Nat) : List Value := [vp b]
instance : Enc oH 1 := ⟨fun _ => rfl, fun _ => rfl, by omega⟩
theorem PT (n w : Int) : Sp pX [vi n, vi w] emp (fun b : Nat => vp b) (fun _ => emp) := by
 refine bp (Fc _ _) fun R H h => ?_;refine aa (kH) ?_;refine aa (kI) ?_;obtain ⟨k, hk⟩ : ∃ k : Nat, min (max n 1) 16 = k := ⟨(min (max n 1) 16).toNat, by omega⟩;rw [hk]
 have hk16 : k ≤ 16 := by omega
 refine ag h (UZ k) fun tb H1 h1 => ?_;refine iU ?_;refine bg h1 fun q H2 h2 => ?_;refine ai (xV _ _ _ _ H2) ?_;refine ai (xX _ _ _ _ _ H2) ?_
 have loop : ∀ (d i : Nat) (nv : Value) (m : List Nat) (H : AH), i + d = k → m.length = i → ae (blk q (.cells false [nv, vp tb]) * ts 1 oH nv m * R) H → wp (kW (vi w) (.pointer none) (vp q) (vi k) (vi i) H) fun v' H' => ∃ b : Nat, v' = vp b ∧ ae (emp * R) H' := by
  intro d
  induction d with
  | zero =>
   intro i nv m H hi hm h;refine ai (oQ _ _ _ _ _ H) ?_;refine aa (db (by omega)) ?_;refine gs ?_;refine ai (uA _ _ H) ?_;refine ai (xW _ _ H) ?_;exact ap ⟨q, rfl, h.to⟩
  | succ d ih =>
   intro i nv m H hi hm h;refine ai (oQ _ _ _ _ _ H) ?_;refine aa (eO (by omega)) ?_;refine gs ?_;refine ai (xY _ _ _ _ _ H) ?_;refine bD ac ?_;refine aY h rfl ?_;refine ag h (Ql w) fun sb H3 h3 => ?_;refine aG h3 h rfl ?_;refine Nu h3 fun b0 H4 h4 => ?_;refine jp (sb : Nat) h4 rfl ?_ (by omega) fun a c H5 h5 => ?_
   ·unfold dt; omega
   refine bv h5 ac rfl rfl fun H6 h6 => ?_;refine ai (xZ _ _ _ _ _ H6) ?_;refine aa (bu (by omega) (by omega)) ?_;exact ih (i + 1) (.slice a (m.length + 1) c) (m ++ [sb]) H6 (by omega) (by simp; omega) h6.to
 refine loop k 0 (.slice none 0 0) [] H2 (by omega) rfl ?_;have h3 := iJ 1 oH h2;exact h3.to
theorem Rw (c : fM) : Sp sA [.agg (fM.cells c).toArray] emp (fun b : Nat => vp b) (fun _ => emp) := by
 refine bp (Gw _) fun R H h => ?_;refine bg h fun cb H1 h1 => ?_;refine ak h1 aK rfl ?_;refine ak h1 aK rfl ?_;refine ag h1 (PT c.sh c.wd) fun q H2 h2 => ?_;refine vh h2 fun mb H3 h3 => ?_;refine vh h3 fun mc H4 h4 => ?_;refine iU ?_;refine bg h4 fun b H5 h5 => ?_;exact ap ⟨b, rfl, h5.to⟩
theorem Kn {cl : TCls} {w : Nat} (n : Nat) (h : n ≠ 0) : aq cl .rem (vu w) (.int .u64 (n : Int)) = some (vu (w % n)) := iO h
theorem zy (b b2 : Nat) (c : fM) (u : Nat) (hu : 1 ≤ u ∧ u ≤ 4611686018427387904) {R : SP} {H : AH} (h : ae (blk b2 (.cells false [vi 0, vi 0, vi 0, vi 0, vw 0]) * (blk b (.cells false (fM.cells c)) * R)) H) :
 wp (jh (vp b) (vp b2) (vu u) H) fun v' H' => ∃ c' : fM, v' = .agg (fM.cells c').toArray ∧ ae (pu (bW c' = true) * R) H' := by
 refine ai (uz _ _ _ H) ?_;refine ak h aK rfl ?_;refine ag h (qa c.sh 4 (by omega) (by omega)) fun _ H1 h1 => ?_;have m1 := mt (v := c.sh) (n := 4) (by omega);refine aa (bu (by omega) (by omega)) ?_;refine bD aK ?_;refine aY h1 rfl ?_;refine aG h h1 rfl ?_;refine ag h1 (qa c.sl 4 (by omega) (by omega)) fun _ H2 h2 => ?_;have m2 := mt (v := c.sl) (n := 4) (by omega);refine aa (bu (by omega) (by omega)) ?_;refine bD aK ?_;refine aY h2 rfl ?_;refine aG h h2 rfl ?_;refine aG h1 h2 rfl ?_;refine ag h2 (qa c.wk 6 (by omega) (by omega)) fun _ H3 h3 => ?_;have m3 := mt (v := c.wk) (n := 6) (by omega);refine aa (bu (by omega) (by omega)) ?_;refine bD aK ?_;refine aY h3 rfl ?_;refine aG h h3 rfl ?_;refine aG h1 h3 rfl ?_;refine aG h2 h3 rfl ?_;refine ag h3 (qa c.wd 12 (by omega) (by omega)) fun _ H4 h4 => ?_;have m4 := mt (v := c.wd) (n := 12) (by omega);refine iU ?_;refine eG h4 rfl rfl fun H5 h5 => ?_;refine aV h5 ?_;refine ap ⟨⟨1 + um c.sh 4, 1 + um c.sl 4, 1 + um c.wk 6, um c.wd 12, u⟩, rfl, ?_⟩;exact ae.pu.2 ⟨bx.2 (by dsimp only; omega), h5.to⟩
theorem Ht (c : fM) : Sp mZ [.agg (fM.cells c).toArray] emp (fun c' : fM => .agg (fM.cells c').toArray) (fun c' => pu (bW c' = true)) := by
 refine aM fun R H h => ?_;rw [nU] at h;refine bj (fun r => AK _ H) ?_;refine bg h fun b H1 h1 => ?_;refine bm h1 fun b2 H2 h2 => ?_;refine ak h2 aK rfl ?_;refine aa (Kn 5000 (by omega)) ?_;refine aa (eZ (a := 1) (by omega)) ?_;refine ai (uy _ _ _ H2) ?_;refine ak h2 aK rfl ?_;refine aa (Kn 4 (by omega)) ?_;refine aa (mn) ?_;refine cR (fun _ => ?_) (fun _ => ?_)
 ·refine ak h2 aK rfl ?_
  refine aa (Kn 4611686018427387904 (by omega)) ?_;have hm := Nat.mod_lt c.un (show 4611686018427387904 > 0 by omega)
  generalize c.un % 4611686018427387904 = u at hm
  refine aa (eZ (a := 1) (by omega)) ?_;exact zy b b2 c _ (by omega) h2
 ·have hm := Nat.mod_lt c.un (show 5000 > 0 by omega)
  exact zy b b2 c _ (by omega) h2
section
variable {R : SP} {H : AH}
end
structure Pk where
 flow : Int
 len : Int
 mark : Int
abbrev Pk.cells (x : Pk) : List Value := [vi x.flow, vi x.len, vi x.mark]
instance : Enc Pk.cells 3 := ⟨fun _ => rfl, fun _ => rfl, by omega⟩
structure Ob where
 flow : Int
 most : Int
 r : Nat
structure Pt where
 step : Int
 who : Int
 place : Int
 e : Int
abbrev dX (e : Int) : List Value := [vi e, .slice none 0 0, vi 0, vw 0]
abbrev Pt.cells (x : Pt) : List Value := [vi x.step, vi x.who, vi x.place, vi x.e, .slice none 0 0, vi 0, vw 0]
instance : Enc Pt.cells 7 := ⟨fun _ => rfl, fun _ => rfl, by omega⟩
structure aL where
 c : fM
 μ : Mu
 obs : List (Ob × List Pk)
 nx : Int → Option Nat
 places : Int → Option Int
 pts : List Pt
def dA (n : Int) : Nat := (min (max n 1) 8).toNat
theorem qV (n : Int) : 1 ≤ dA n ∧ dA n ≤ 8 ∧ (dA n : Int) = min (max n 1) 8 := by unfold dA; omega
abbrev w6 : Pk := ⟨0, 0, 0⟩
abbrev Is (k : Int) : Value := vi k
instance : KeyE .int Is where
 eq a b := by
  simp only [kc, Is, if_true]
  congr 1
 ok a := rfl
def cB (m i rp : Nat) (cs : List Pk) : SP := ex fun cv : Value => blk rp (.cells false [vp m, vi i, cv]) * ts 3 Pk.cells cv cs
def mf (m : Nat) : Nat → List (Nat × List Pk) → SP
 | _, [] => emp
 | i, p :: ps => cB m i p.1 p.2 * mf m (i + 1) ps
theorem xa (m : Nat) : ∀ (ps : List (Nat × List Pk)) (i : Nat) (q : Nat × List Pk), mf m i (ps ++ [q]) = mf m i ps * cB m (i + ps.length) q.1 q.2 := by
 intro ps
 induction ps with
 | nil => intro i q; show cB m i q.1 q.2 * emp = emp * cB m (i + 0) q.1 q.2; rw [jm, nU]; rfl
 | cons p ps ih =>
  intro i q;show cB m i p.1 p.2 * mf m (i + 1) (ps ++ [q]) = cB m i p.1 p.2 * mf m (i + 1) ps * _;rw [ih, aj, List.length_cons, show i + 1 + ps.length = i + (ps.length + 1) from by omega]
abbrev DQ (x : Ob × Nat) : List Value := [vi x.1.flow, vi x.1.most, vu x.1.r, vp x.2]
instance : Enc DQ 4 := ⟨fun _ => rfl, fun _ => rfl, by omega⟩
structure PIds where
 m : Nat
 ib : Nat
 tb : Nat
 po : Nat
 co : Nat
 ov : Value
 pm : Nat
 pv : Value
 nm : Nat
 rp : List Nat
def kS (ib m nm : Nat) (c : fM) (nx : Int → Option Nat) : SP :=
 blk ib (.cells false [vp m, vi c.sh, .map (some nm), .func (.func bB) #[vi 9] #[], .func (.func bB) #[vi 14] #[]]) * QT Is nm (fun k => (nx k).map fun n => vu n)
def aC (p : Nat) (g : PIds) (σ : aL) : SP :=
 blk p (.cells false [vp g.m, vp g.ib, vp g.tb, vp g.po, vp g.co, vi σ.c.sh, vi σ.c.sl, vi σ.c.wk, vi σ.c.wd, vu σ.c.un, g.ov, .map (some g.pm), g.pv]) *
 (bA g.m σ.μ * (kS g.ib g.m g.nm σ.c σ.nx * (tab g.tb g.m σ.c.sh.toNat σ.c.sl.toNat * (ts 4 DQ g.ov ((σ.obs.map fun x => x.1).zip g.rp) * (mf g.m 0 (g.rp.zip (σ.obs.map fun x => x.2)) *
 (QT Is g.pm (fun k => (σ.places k).map fun n => vi n) * ts 7 Pt.cells g.pv σ.pts))))))
def f5 (p : Nat) (σ : aL) : SP := ex fun g : PIds => pu (g.rp.length = σ.obs.length) * aC p g σ
theorem mE {p : Nat} {σ : aL} {R : SP} {H : AH} (h : ae (f5 p σ * R) H) : ∃ g : PIds, g.rp.length = σ.obs.length ∧ ae (aC p g σ * R) H := by
 obtain ⟨g, h1⟩ := ae.ex.1 h;rw [aj, ae.pu] at h1;exact ⟨g, h1⟩
theorem ot {p : Nat} {σ : aL} {R : SP} {H : AH} (g : PIds) (hl : g.rp.length = σ.obs.length) (h : ae (aC p g σ * R) H) : ae (f5 p σ * R) H :=
 ae.ex.2 ⟨g, by rw [aj]; exact ae.pu.2 ⟨hl, h⟩⟩
abbrev aL.new (c : fM) : aL := ⟨c, ⟨fun _ => 0, [], 0⟩, [], fun _ => none, fun _ => none, []⟩
theorem TE : Sp vW [] emp (fun b : Nat => vp b) (fun b => bA b ⟨fun _ => 0, [], 0⟩) := by
 refine bp JL fun R H h => ?_;refine vh h fun mb H2 h2 => ?_;refine iU ?_;refine bg h2 fun b H3 h3 => ?_;refine ap ⟨b, rfl, ae.ex.2 ⟨(mb, .slice none 0 0, [], [], 0), ?_⟩⟩;rw [aj, ae.pu];refine ⟨⟨.nil, fun _ => rfl, bK _⟩, ?_⟩;have := Nn 5 h3;show ae (blk b (.cells false [.map (some mb), .slice none 0 0]) * (blk mb (.map [] 0) * sl 5 (.slice none 0 0) 0 []) * R) H3;exact this.to
theorem JC (m : Nat) (c : fM) (hc : bW c = true) : Sp pT [vp m, vi c.sh] emp (fun b : Nat => vp b) (fun b => ex fun nm : Nat => kS b m nm c fun _ => none) := by
 have hc := bx.1 hc;refine bp (EP _ _) fun R H h => ?_;refine aa (kH) ?_;refine aa (kI) ?_;rw [show min (max c.sh 1) 4 = c.sh from by omega];refine vh h fun mb H2 h2 => ?_;refine iU ?_;refine bg h2 fun b H3 h3 => ?_;refine ap ⟨b, rfl, ae.ex.2 ⟨mb, ?_⟩⟩;unfold kS;have h4 : ae (blk mb (.map [] 0) * (blk b (.cells false [vp m, vi c.sh, .map (some mb), .func (.func bB) #[vi 9] #[], .func (.func bB) #[vi 14] #[]]) * (emp * R))) H3 := h3.to;have h5 := MR Is h4;show ae (blk b (.cells false [vp m, vi c.sh, .map (some mb), .func (.func bB) #[vi 9] #[], .func (.func bB) #[vi 14] #[]]) * QT Is mb (fun _ => none) * R) H3;exact h5.to
theorem KF (m : Nat) (c : fM) (hc : bW c = true) : Sp p0 [vp m, vi c.sh, vi c.sl] emp (fun b : Nat => vp b) (fun b => tab b m c.sh.toNat c.sl.toNat) := by
 have hc := bx.1 hc;refine bp (FJ _ _ _) fun R H h => ?_;refine aa (kH) ?_;refine aa (kI) ?_;refine aa (kH) ?_;refine aa (kI) ?_;rw [show min (max c.sh 1) 4 = ((c.sh.toNat : Nat) : Int) from by omega, show min (max c.sl 1) 4 = ((c.sl.toNat : Nat) : Int) from by omega];refine iU ?_;refine bg h fun b H3 h3 => ?_;exact ap ⟨b, rfl, by unfold tab; exact h3.to⟩
theorem JT (c : fM) (hc : bW c = true) : Sp pV [.agg (fM.cells c).toArray] emp (fun b : Nat => .tuple #[vp b, vi 0]) (fun b => f5 b (aL.new c)) := by
 refine bp (E9 _) fun R H h => ?_;refine bg h fun cb H1 h1 => ?_;refine aV h1 ?_;refine ag h1 (Hh c) fun _ H2 h2 => ?_;rw [hc];refine gs ?_;rw [Bool.not_true];refine gs ?_;refine ag h2 TE fun m H3 h3 => ?_;refine ak h3 aK rfl ?_;refine ag h3 (JC m c hc) fun ib H4 h4 => ?_;obtain ⟨nm, h4b⟩ := ae.ex.1 h4;refine bD aK ?_;refine aY h4b rfl ?_;refine aG h3 h4b rfl ?_;refine bD aK ?_;refine aY h4b rfl ?_;refine aG h3 h4b rfl ?_;refine ag h4b (KF m c hc) fun tb H5 h5 => ?_;refine bD aK ?_;refine aY h5 rfl ?_;refine aG h3 h5 rfl ?_;refine aG h4b h5 rfl ?_;refine ag h5 (T5 m c.wk) fun pb H6 h6 => ?_;refine aV h6 ?_;refine d7 h3 h6 rfl ?_;refine d7 h4b h6 rfl ?_;refine d7 h5 h6 rfl ?_;refine ag h6 (Rw c) fun kb H7 h7 => ?_;refine aV h7 ?_;refine d7 h3 h7 rfl ?_;refine d7 h4b h7 rfl ?_;refine d7 h5 h7 rfl ?_;refine d7 h6 h7 rfl ?_;refine vh h7 fun mb H8 h8 => ?_;refine iU ?_;refine bg h8 fun b H9 h9 => ?_;refine ap ⟨b, rfl, ?_⟩;refine ot ⟨m, ib, tb, pb, kb, .slice none 0 0, mb, .slice none 0 0, nm, []⟩ rfl ?_;have h10 := iJ 4 DQ (iJ 7 Pt.cells h9);have h11 : ae (blk mb (.map [] 0) * (ts 4 DQ (.slice none 0 0) [] * (ts 7 Pt.cells (.slice none 0 0) [] * (blk b (.cells false [vp m, vp ib, vp tb, vp pb, vp kb, vi c.sh, vi c.sl, vi c.wk, vi c.wd, vu c.un, .slice none 0 0, .map (some mb), .slice none 0 0]) * (bA m ⟨fun _ => 0, [], 0⟩ * (kS ib m nm c (fun _ => none) * (tab tb m c.sh.toNat c.sl.toNat * (emp * R)))))))) H9 := h10.to;have h12 := MR Is h11;show ae (blk b (.cells false [vp m, vp ib, vp tb, vp pb, vp kb, vi c.sh, vi c.sl, vi c.wk, vi c.wd, vu c.un, .slice none 0 0, .map (some mb), .slice none 0 0]) * (bA m ⟨fun _ => 0, [], 0⟩ * (kS ib m nm c (fun _ => none) * (tab tb m c.sh.toNat c.sl.toNat * (ts 4 DQ (.slice none 0 0) [] * (emp * (QT Is mb (fun _ => none) * ts 7 Pt.cells (.slice none 0 0) [])))))) * R) H9;exact h12.to
section
variable (p : Nat) (σ : aL)
theorem HK (m i : Nat) (most : Int) : Sp sG [vp m, vi i, vi most] emp (fun b : Nat => vp b) (fun b => cB m i b (List.replicate (dA most) w6)) := by
 obtain ⟨q1, q2, q3⟩ := qV most;refine bp (HJ _ _ _) fun R H h => ?_;refine aa (kH) ?_;refine aa (kI) ?_;rw [← q3];refine KH (enc := Pk.cells) w6 h rfl (by unfold dt; omega) (by omega) fun cb H1 h1 => ?_;refine iU ?_;refine bg h1 fun b H2 h2 => ?_;refine ap ⟨b, rfl, ?_⟩;unfold cB;exact ae.ex.2 ⟨vs cb (dA most) 3, h2.to⟩
abbrev aL.make (σ : aL) (who : Int) (o : Ob) : aL := { σ with μ := σ.μ.acc who 6 (13, σ.obs.length, 0), obs := σ.obs ++ [(o, List.replicate (dA o.most) w6)] }
theorem JS (who : Int) (o : Ob) (hE : σ.μ.N < 1099511627000) (ho : σ.obs.length < 1000000) : Sp dT [vp p, vi who, .agg (#[vi o.flow, vi o.most, vu o.r] : Array Value)] (f5 p σ) (fun _ : Unit => vi σ.obs.length) (fun _ => f5 p (σ.make who o)) := by
 refine aM fun R H h => ?_;obtain ⟨g, hg, h0⟩ := mE h
 have hz : ((σ.obs.map fun x => x.1).zip g.rp).length = σ.obs.length := by simp [hg]
 unfold aC at h0;refine bj (fun r => kL _ _ _ H) ?_;refine bg (l := [vi o.flow, vi o.most, vu o.r]) h0 fun ob H1 h1 => ?_;refine ak h1 ac rfl ?_;refine qz (s := g.ov) h1 ?_;rw [hz];refine ak h1 ac rfl ?_;refine iU ?_;refine ag h1 ((qU g.m σ.μ who (13, σ.obs.length, 0) (by omega)).imp fun _ R H h => i1 (N' := σ.μ.N + 2) (by simp) h) fun _ H2 h2 => ?_;refine bD ac ?_;refine aY h2 rfl ?_;refine aV h2 ?_;refine ak h2 ac rfl ?_;refine ak h2 aK rfl ?_;refine ag h2 (HK g.m σ.obs.length o.most) fun rb H3 h3 => ?_;refine aG h3 h2 rfl ?_;refine d7 h3 h2 rfl ?_;refine iU ?_;refine Nu h3 fun b0 H4 h4 => ?_;refine jp ((o, rb) : Ob × Nat) h4 rfl ?_ (by omega) fun a cc H5 h5 => ?_
 ·unfold dt; omega
 refine bv h5 ac rfl rfl fun H6 h6 => ?_;refine ap ⟨(), rfl, ?_⟩;refine ot { g with ov := .slice a (((σ.obs.map fun x => x.1).zip g.rp).length + 1) cc, rp := g.rp ++ [rb] } (by simp [aL.make, hg]) ?_;unfold aC aL.make;dsimp only
 have e1 : ((σ.obs ++ [(o, List.replicate (dA o.most) w6)]).map fun x => x.1).zip (g.rp ++ [rb]) = ((σ.obs.map fun x => x.1).zip g.rp) ++ [(o, rb)] := by
  rw [EV, List.zip_append (by simp [hg])]
  rfl
 have e2 : (g.rp ++ [rb]).zip ((σ.obs ++ [(o, List.replicate (dA o.most) w6)]).map fun x => x.2) = (g.rp.zip (σ.obs.map fun x => x.2)) ++ [(rb, List.replicate (dA o.most) w6)] := by
  rw [EV, List.zip_append (by simp [hg])]
  rfl
 have e3 : 0 + (g.rp.zip (σ.obs.map fun x => x.2)).length = σ.obs.length := by simp [hg]
 rw [e1, e2, xa, e3];exact h6.to
theorem wF : Sp TK [.slice none 0 0] emp (fun _ : Unit => .slice none 0 0) (fun _ => emp) := by
 refine bp (Y5 _) fun R H h => ?_;refine aa (v := vb true) rfl ?_;refine gs ?_;exact ap ⟨(), rfl, ae.to (by assumption)⟩
theorem B5 (e : Int) : Sp pW [.agg (dX e).toArray] emp (fun _ : Unit => .agg (dX e).toArray) (fun _ => emp) := by
 refine bp (Fa _) fun R H h => ?_;refine bg h fun b1 H1 h1 => ?_;refine bm h1 fun b2 H2 h2 => ?_;refine ak h2 aK rfl ?_;refine ag h2 wF fun _ H3 h3 => ?_;refine bv h3 aK rfl rfl fun H4 h4 => ?_;refine aV h4 ?_;refine eG h4 rfl rfl fun H5 h5 => ?_;refine aV h5 ?_;exact ap ⟨(), rfl, h5.to⟩
abbrev aL.note (σ : aL) (step who e : Int) : aL := { σ with pts := σ.pts ++ [⟨step, who, (σ.places who).getD 0, e⟩] }
theorem Vf {P R P2 R2 : SP} {H H2 : AH} {b : Nat} {f : Int → Option Value} {zero : Value} {kk : OV} {Q : Value → AH → Prop} (k : Int) (h : ae P H) [m : Mp P b Is f R] (h2 : ae P2 H2) [m2 : Mp P2 b Is f R2] (hk : wp kk Q) :
 wp (bZ (cY .int zero (.map (some b)) (vi k) false H) (cY .int zero (.map (some b)) (vi k) false H2) kk) Q := by
 have one : ∀ {P R : SP} {H : AH} (h : ae P H) [m : Mp P b Is f R], cY .int zero (.map (some b)) (vi k) false H = some ((f k).getD zero) := by
  intro P R H h m;obtain ⟨v, H', e, q⟩ : wp ((cY .int zero (.map (some b)) (vi k) false H).bind fun v => some (v, H)) (fun v _ => v = (f k).getD zero) := NA (ek := Is) k h (ap rfl);obtain ⟨v', e1, e2⟩ := aE.1 e
  have : v' = v := by simpa using congrArg (fun x => x.map Prod.fst) e2
  have e1' : cY .int zero (.map (some b)) (vi k) false H = some v' := e1;rw [e1', this, q]
 exact BE (by rw [one h, one h2]) hk
end
theorem wA {cl : TCls} {a b : Int} (h : b ≠ 0) : aq cl .rem (vi a) (vi b) = some (vi (a.tmod b)) := by
 simp only [aq, mi, if_true];rw [if_neg h]
theorem Ya {a b : Nat} : ii [vu a, vu b] = some (vu (max a b)) := by
 simp only [ii]
 congr 2
 split <;> omega
abbrev rJ (x : Ob) : List Value := [vi x.flow, vi x.most, vu x.r]
instance : Enc rJ 3 := ⟨fun _ => rfl, fun _ => rfl, by omega⟩
abbrev I1 (n : Nat) : List Value := [vu n]
instance : Enc I1 1 := ⟨fun _ => rfl, fun _ => rfl, by omega⟩
def gQ : List (Int × Int) → Int → Int
 | [], _ => 0
 | p :: ps, who => if (ps.any fun q => q.1 == who) = true then gQ ps who else if p.1 = who then p.2 else 0
def fu (l : List (Int × Int)) : List Int := l.flatMap fun p => [p.1, p.2]
def B3 (l : List (Int × Nat)) (k : Int) : Option Nat := (l.find? fun p => p.1 == k).map (·.2)
def t9 (x : Pt) : List Pt → List Pt
 | [] => [x]
 | y :: l => if y.step ≤ x.step ∨ (l.any fun z => decide (z.step ≤ x.step)) = true then y :: t9 x l else x :: y :: l
def bV (l : List Pt) : List Pt := l.foldl (fun acc x => t9 x acc) []
def de (m i rp : Nat) (cs : List Pk) : SP := ex fun cv : Value => blk rp (.cells false [vp m, vi i, vi cs.length, cv]) * ts 3 Pk.cells cv cs
def jk (m : Nat) : Nat → List (Nat × List Pk) → SP
 | _, [] => emp
 | i, p :: ps => de m i p.1 p.2 * jk m (i + 1) ps
theorem HL (m : Nat) : ∀ (ps : List (Nat × List Pk)) (i : Nat) (q : Nat × List Pk), jk m i (ps ++ [q]) = jk m i ps * de m (i + ps.length) q.1 q.2 := by
 intro ps
 induction ps with
 | nil => intro i q; show de m i q.1 q.2 * emp = emp * de m (i + 0) q.1 q.2; rw [jm, nU]; rfl
 | cons p ps ih =>
  intro i q;show de m i p.1 p.2 * jk m (i + 1) (ps ++ [q]) = de m i p.1 p.2 * jk m (i + 1) ps * _;rw [ih, aj, List.length_cons, show i + 1 + ps.length = i + (ps.length + 1) from by omega]
def iC (ib m : Nat) (sh : Int) (nx : Int → Option Nat) (L : Nat) : SP := ex fun g : Value × Value × List (Int × Nat) =>
 pu ((∀ k, B3 g.2.2 k = nx k) ∧ g.2.2.length ≤ L) * (blk ib (.cells false [vp m, vi sh, g.1, g.2.1]) * (ts 1 kR g.1 (g.2.2.map (·.1)) * ts 1 I1 g.2.1 (g.2.2.map (·.2))))
theorem nl {ib m : Nat} {sh : Int} {nx : Int → Option Nat} {L : Nat} {R : SP} {H : AH} (h : ae (iC ib m sh nx L * R) H) :
 ∃ (kv nv : Value) (ns : List (Int × Nat)), ((∀ k, B3 ns k = nx k) ∧ ns.length ≤ L) ∧ ae (blk ib (.cells false [vp m, vi sh, kv, nv]) * (ts 1 kR kv (ns.map (·.1)) * (ts 1 I1 nv (ns.map (·.2)) * R))) H := by
 obtain ⟨⟨kv, nv, ns⟩, h1⟩ := ae.ex.1 h;rw [aj, ae.pu] at h1;exact ⟨kv, nv, ns, h1.1, h1.2.to⟩
theorem iD {ib m : Nat} {sh : Int} {nx : Int → Option Nat} {L : Nat} {R : SP} {H : AH} {kv nv : Value} {ns : List (Int × Nat)} (hn : (∀ k, B3 ns k = nx k) ∧ ns.length ≤ L)
 (h : ae (blk ib (.cells false [vp m, vi sh, kv, nv]) * (ts 1 kR kv (ns.map (·.1)) * (ts 1 I1 nv (ns.map (·.2)) * R))) H) : ae (iC ib m sh nx L * R) H := by
 refine ae.ex.2 ⟨(kv, nv, ns), ?_⟩;rw [aj, ae.pu];exact ⟨hn, h.to⟩
theorem oa {ib m : Nat} {sh : Int} {nx : Int → Option Nat} {L L' : Nat} {R : SP} {H : AH} (hL : L ≤ L') (h : ae (iC ib m sh nx L * R) H) : ae (iC ib m sh nx L' * R) H := by
 obtain ⟨g, h1⟩ := ae.ex.1 h;rw [aj, ae.pu] at h1;exact ae.ex.2 ⟨g, by rw [aj]; exact ae.pu.2 ⟨⟨h1.1.1, fF h1.1.2 hL⟩, h1.2⟩⟩
structure XIds where
 m : Nat
 ib : Nat
 tb : Nat
 po : Nat
 co : Nat
 ov : Value
 rv : Value
 rp : List Nat
 wv : Value
 ws : List (Int × Int)
 pv : Value
def av (x : Nat) (g : XIds) (σ : aL) : SP :=
 blk x (.cells false [vi σ.c.sh, vi σ.c.sl, vi σ.c.wk, vi σ.c.wd, vu σ.c.un, vp g.m, vp g.ib, vp g.tb, vp g.po, vp g.co, g.ov, g.rv, g.wv, g.pv]) *
 (bN g.m σ.μ * (iC g.ib g.m σ.c.sh σ.nx σ.μ.N * (tab g.tb g.m σ.c.sh.toNat σ.c.sl.toNat *
 (ts 3 rJ g.ov (σ.obs.map fun x => x.1) * (ts 1 oH g.rv g.rp * (jk g.m 0 (g.rp.zip (σ.obs.map fun x => x.2)) * (ts 1 kR g.wv (fu g.ws) * ts 7 Pt.cells g.pv (bV σ.pts))))))))
def eF (g : XIds) (σ : aL) : Prop := g.rp.length = σ.obs.length ∧ (∀ k, gQ g.ws k = (σ.places k).getD 0) ∧ g.ws.length ≤ σ.μ.N
def aJ (x : Nat) (σ : aL) : SP := ex fun g : XIds => pu (eF g σ) * av x g σ
theorem fC {p : Nat} {σ : aL} {R : SP} {H : AH} (h : ae (aJ p σ * R) H) : ∃ g : XIds, eF g σ ∧ ae (av p g σ * R) H := by
 obtain ⟨g, h1⟩ := ae.ex.1 h;rw [aj, ae.pu] at h1;exact ⟨g, h1⟩
theorem dm {p : Nat} {σ : aL} {R : SP} {H : AH} (g : XIds) (hl : eF g σ) (h : ae (av p g σ * R) H) : ae (aJ p σ * R) H :=
 ae.ex.2 ⟨g, by rw [aj]; exact ae.pu.2 ⟨hl, h⟩⟩
theorem Fi (m : Nat) (c : fM) (hc : bW c = true) : Sp lU [vp m, vi c.sh] emp (fun b : Nat => vp b) (fun b => blk b (.cells false [vp m, vi c.sh, .slice none 0 0, .slice none 0 0])) := by
 have hc := bx.1 hc;refine bp (yd _ _) fun R H h => ?_;refine aa (kH) ?_;refine aa (kI) ?_;rw [show min (max c.sh 1) 4 = c.sh from by omega];refine iU ?_;refine bg h fun b H3 h3 => ?_;exact ap ⟨b, rfl, h3.to⟩
theorem Fk (m : Nat) (c : fM) (hc : bW c = true) : Sp lW [vp m, vi c.sh, vi c.sl] emp (fun b : Nat => vp b) (fun b => tab b m c.sh.toNat c.sl.toNat) := by
 have hc := bx.1 hc;refine bp (yf _ _ _) fun R H h => ?_;refine aa (kH) ?_;refine aa (kI) ?_;refine aa (kH) ?_;refine aa (kI) ?_;rw [show min (max c.sh 1) 4 = ((c.sh.toNat : Nat) : Int) from by omega, show min (max c.sl 1) 4 = ((c.sl.toNat : Nat) : Int) from by omega];refine iU ?_;refine bg h fun b H3 h3 => ?_;exact ap ⟨b, rfl, by unfold tab; exact h3.to⟩
theorem HB (m : Nat) (w : Int) : Sp m5 [vp m, vi w] emp (fun b : Nat => vp b) (fun _ => emp) := by
 refine bp (AQ _ _) fun R H h => ?_;refine aa (kH) ?_;refine aa (kI) ?_;refine iU ?_;refine bg h fun b H3 h3 => ?_;exact ap ⟨b, rfl, h3.to⟩
theorem PU (w : Int) : Sp pY [vi w] emp (fun x : Int => vi x) (fun _ => emp) := by
 refine bp (Fe _) fun R H h => ?_;refine aa (kH) ?_;refine aa (kI) ?_;exact ap ⟨_, rfl, h⟩
theorem Ff (n w : Int) : Sp TH [vi n, vi w] emp (fun b : Nat => vp b) (fun _ => emp) := by
 refine bp (Y1 _ _) fun R H h => ?_;refine iU ?_;refine bg h fun q H2 h2 => ?_;refine ai (PZ _ _ _ _ H2) ?_;refine ai (P3 _ _ _ _ _ H2) ?_;obtain ⟨k, hk⟩ : ∃ k : Nat, min (max n 1) 16 = k := ⟨(min (max n 1) 16).toNat, by omega⟩
 have hk16 : k ≤ 16 := by omega
 have loop : ∀ (d i : Nat) (nv : Value) (m : List Nat) (H : AH), i + d = k → m.length = i → ae (blk q (.cells false [nv]) * ts 1 oH nv m * R) H → wp (Fm (vi n) (vi w) (.pointer none) (vp q) (vi i) H) fun v' H' => ∃ b : Nat, v' = vp b ∧ ae (emp * R) H' := by
  intro d
  induction d with
  | zero =>
   intro i nv m H hi hm h;refine ai (C4 _ _ _ _ _ H) ?_;refine aa (kH) ?_;refine aa (kI) ?_;refine aa (db (by omega)) ?_;refine gs ?_;refine ai (HE _ _ H) ?_;refine ai (P1 _ _ H) ?_;exact ap ⟨q, rfl, h.to⟩
  | succ d ih =>
   intro i nv m H hi hm h;refine ai (C4 _ _ _ _ _ H) ?_;refine aa (kH) ?_;refine aa (kI) ?_;refine aa (eO (by omega)) ?_;refine gs ?_;refine ai (P4 _ _ _ _ _ H) ?_;refine bD ac ?_;refine aY h rfl ?_;refine ag h (PU w) fun x H3 h3 => ?_;refine aG h3 h rfl ?_;refine iU ?_;refine bg h3 fun sb H3b h3b => ?_;refine Nu h3b fun b0 H4 h4 => ?_;refine jp (sb : Nat) h4 rfl ?_ (by omega) fun a c H5 h5 => ?_
   ·unfold dt; omega
   refine bv h5 ac rfl rfl fun H6 h6 => ?_;refine ai (P5 _ _ _ _ _ H6) ?_;refine aa (bu (by omega) (by omega)) ?_;exact ih (i + 1) (.slice a (m.length + 1) c) (m ++ [sb]) H6 (by omega) (by simp; omega) h6.to
 refine loop k 0 (.slice none 0 0) [] H2 (by omega) rfl ?_;have h3 := iJ 1 oH h2;exact h3.to
theorem Hz (c : fM) : Sp m0 [.agg (fM.cells c).toArray] emp (fun b : Nat => vp b) (fun _ => emp) := by
 refine bp (AP _) fun R H h => ?_;refine bg h fun cb H1 h1 => ?_;refine ak h1 aK rfl ?_;refine ak h1 aK rfl ?_;refine ag h1 (Ff c.sh c.wd) fun q H2 h2 => ?_;refine iU ?_;refine bg h2 fun b H5 h5 => ?_;exact ap ⟨b, rfl, h5.to⟩
theorem TC {b : Nat} {R : SP} {H : AH} (h : ae (blk b (.cells false [.slice none 0 0, .slice none 0 0, .slice none 0 0]) * R) H) : ae (bN b ⟨fun _ => 0, [], 0⟩ * R) H := by
 refine ae.ex.2 ⟨[], ?_⟩;rw [aj, ae.pu];refine ⟨⟨fun _ => rfl, bK _⟩, ae.ex.2 ⟨(.slice none 0 0, .slice none 0 0, .slice none 0 0), ?_⟩⟩;have h1 := iJ 3 DR (iJ 1 GE (iJ 5 Ev.cells h));exact h1.to
theorem Fj (c : fM) (hc : bW c = true) : Sp lV [.agg (fM.cells c).toArray] emp (fun b : Nat => vp b) (fun b => aJ b (aL.new c)) := by
 refine bp (ye _) fun R H h => ?_;refine bg h fun cb H1 h1 => ?_;refine iU ?_;refine bg h1 fun m H2 h2 => ?_;refine aV h2 ?_;refine ak h2 aK rfl ?_;refine ag h2 (Fi m c hc) fun ib H3 h3 => ?_;refine d7 h3 h2 rfl ?_;refine bD aK ?_;refine aY h3 rfl ?_;refine aG h2 h3 rfl ?_;refine bD aK ?_;refine aY h3 rfl ?_;refine aG h2 h3 rfl ?_;refine ag h3 (Fk m c hc) fun tb H4 h4 => ?_;refine d7 h4 h2 rfl ?_;refine bD aK ?_;refine aY h4 rfl ?_;refine aG h2 h4 rfl ?_;refine aG h3 h4 rfl ?_;refine ag h4 (HB m c.wk) fun pb H5 h5 => ?_;refine d7 h5 h2 rfl ?_;refine aV h5 ?_;refine d7 h2 h5 rfl ?_;refine d7 h3 h5 rfl ?_;refine d7 h4 h5 rfl ?_;refine ag h5 (Hz c) fun kb H6 h6 => ?_;refine d7 h6 h2 rfl ?_;refine iU ?_;refine bg h6 fun b H7 h7 => ?_;refine ap ⟨b, rfl, ?_⟩;refine dm ⟨m, ib, tb, pb, kb, .slice none 0 0, .slice none 0 0, [], .slice none 0 0, [], .slice none 0 0⟩ ⟨rfl, fun _ => rfl, bK _⟩ ?_;have h8 := TC (b := m) (R := blk b (.cells false [vi c.sh, vi c.sl, vi c.wk, vi c.wd, vu c.un, vp m, vp ib, vp tb, vp pb, vp kb, .slice none 0 0, .slice none 0 0, .slice none 0 0, .slice none 0 0]) * (tab tb m c.sh.toNat c.sl.toNat * (blk ib (.cells false [vp m, vi c.sh, .slice none 0 0, .slice none 0 0]) * R))) (ae.to h7);have h8a := iJ 1 kR (iJ 1 I1 h8);have h8b := iD (ib := ib) (m := m) (sh := c.sh) (nx := fun _ => none) (L := 0) (kv := .slice none 0 0) (nv := .slice none 0 0) (ns := []) (R := bN m ⟨fun _ => 0, [], 0⟩ * (blk b (.cells false [vi c.sh, vi c.sl, vi c.wk, vi c.wd, vu c.un, vp m, vp ib, vp tb, vp pb, vp kb, .slice none 0 0, .slice none 0 0, .slice none 0 0, .slice none 0 0]) * (tab tb m c.sh.toNat c.sl.toNat * R))) (H := H7) ⟨fun _ => rfl, bK _⟩ (show ae (blk ib (.cells false [vp m, vi c.sh, .slice none 0 0, .slice none 0 0]) * (ts 1 kR (.slice none 0 0) [] * (ts 1 I1 (.slice none 0 0) [] * (bN m ⟨fun _ => 0, [], 0⟩ * (blk b (.cells false [vi c.sh, vi c.sl, vi c.wk, vi c.wd, vu c.un, vp m, vp ib, vp tb, vp pb, vp kb, .slice none 0 0, .slice none 0 0, .slice none 0 0, .slice none 0 0]) * (tab tb m c.sh.toNat c.sl.toNat * R)))))) H7 from h8a.to);have h9 := iJ 3 rJ (iJ 1 oH (iJ 1 kR (iJ 7 Pt.cells h8b)));unfold av
 show ae (blk b (.cells false [vi c.sh, vi c.sl, vi c.wk, vi c.wd, vu c.un, vp m, vp ib, vp tb, vp pb, vp kb, .slice none 0 0, .slice none 0 0, .slice none 0 0, .slice none 0 0]) * (bN m ⟨fun _ => 0, [], 0⟩ * (iC ib m c.sh (fun _ => none) 0 * (tab tb m c.sh.toNat c.sl.toNat *
  (ts 3 rJ (.slice none 0 0) [] * (ts 1 oH (.slice none 0 0) [] * (emp * (ts 1 kR (.slice none 0 0) [] * ts 7 Pt.cells (.slice none 0 0) [])))))))  * R) H7
 exact h9.to
theorem JY {cl : TCls} {a b : Int} (h : b ≠ 0) (h0 : -9223372036854775808 ≤ a.tdiv b) (h1 : a.tdiv b < 9223372036854775808) : aq cl .quo (vi a) (vi b) = some (vi (a.tdiv b)) := by
 simp only [aq, mi, if_true];rw [if_neg h, nP h0 h1]
theorem uk {m : Nat} {V : cE → Nat} {E : List Ev} {N N' : Nat} {R : SP} {H : AH} (hN : N ≤ N') (h : ae (bN m ⟨V, E, N⟩ * R) H) : ae (bN m ⟨V, E, N'⟩ * R) H := by
 obtain ⟨al, h1⟩ := ae.ex.1 h;rw [aj, ae.pu] at h1;exact ae.ex.2 ⟨al, by rw [aj]; exact ae.pu.2 ⟨⟨h1.1.1, fF h1.1.2 hN⟩, h1.2⟩⟩
def cq (flow : Int) (obj : Nat) : Nat := (flow + 1).toNat * 4294967296 + obj
section
variable (t m : Nat) (sh sl : Nat) (μ : Mu) (who s i flow : Int) (obj : Nat)
theorem Dt (hE : μ.N < 1099511627000) (hf : 0 ≤ flow ∧ flow ≤ 1048576) (ho : obj < 4294967296) :
 Sp ge [vp t, vi who, vi s, vi i, vi flow, vi obj] (tab t m sh sl * bA m μ) (fun _ : Unit => vb true) (fun _ => tab t m sh sl * bA m ((μ.acc who 2 (10, s, i)).put (10, s, i) (cq flow obj))) := by
 refine bp (ti _ _ _ _ _ _) fun R H h => ?_;unfold tab at h ⊢;refine aa (db (by omega)) ?_;refine gs ?_;refine aa (iQ ?_) ?_
 ·omega
 refine gs ?_;refine aa (db ?_) ?_
 ·omega
 refine gs ?_;refine aa (pJ ?_) ?_
 ·omega
 refine gs ?_;refine bD ac ?_;refine aY h rfl ?_;refine ag h (tk s i) fun _ H1 h1 => ?_;refine aG h1 h rfl ?_;refine aa (bu (by omega) (by omega)) ?_;refine aa (dH (by omega) (by omega)) ?_
 have hn : (flow + 1).toNat ≤ 1048577 := by omega
 have e1 : aq .other .shl (vu (flow + 1).toNat) (vw 32) = some (vu ((flow + 1).toNat * 4294967296)) := by
  have := Cr (cl := .other) (a := (flow + 1).toNat) (k := .u64) (n := 32) (by omega);simp only [Nat.reducePow] at this;rw [Nat.mod_eq_of_lt (by omega)] at this;exact this
 refine aa (e1) ?_;refine aa (dH (by omega) (by omega)) ?_;rw [show ((obj : Nat) : Int).toNat = obj from sj obj]
 have e2 : aq .other .or (vu ((flow + 1).toNat * 4294967296)) (vu obj) = some (vu (cq flow obj)) := by
  rw [Rj (by omega) (by omega)]
  congr 3
  have := Nat.two_pow_add_eq_or_of_lt (i := 32) (b := obj) (by simp only [Nat.reducePow]; omega) (flow + 1).toNat;simp only [Nat.reducePow] at this;rw [cq, Nat.mul_comm, ← this]
 refine aa (e2) ?_;refine ag h1 (yS m μ who (10, s, i) (cq flow obj) (by omega)) fun _ H2 h2 => ?_;exact ap ⟨(), rfl, h2.to⟩
theorem M1 (hE : μ.N < 1099511627000) (hf : 0 ≤ flow ∧ flow ≤ 1048576) (ho : obj < 4294967296) :
 Sp iv [vp t, vi who, vi s, vi i, vi flow, vi obj] (tab t m sh sl * bN m μ) (fun _ : Unit => vb true) (fun _ => tab t m sh sl * bN m ((μ.acc who 2 (10, s, i)).put (10, s, i) (cq flow obj))) := by
 refine bp (wn _ _ _ _ _ _) fun R H h => ?_;unfold tab at h ⊢;refine aa (db (by omega)) ?_;refine gs ?_;refine aa (iQ ?_) ?_
 ·omega
 refine gs ?_;refine aa (db ?_) ?_
 ·omega
 refine gs ?_;refine aa (dH (by omega) (by omega)) ?_;rw [show ((obj : Nat) : Int).toNat = obj from sj obj];refine gs ?_;refine aa (pJ ?_) ?_
 ·omega
 refine gs ?_;refine bD ac ?_;refine aY h rfl ?_;refine ag h (dZ 10 s i) fun _ H1 h1 => ?_;refine aG h1 h rfl ?_;refine aa (bu (by omega) (by omega)) ?_;refine aa (dH (by omega) (by omega)) ?_
 have hn : (flow + 1).toNat ≤ 1048577 := by omega
 refine aa (ZR) ?_;rw [Nat.mod_eq_of_lt (by omega)];refine aa (dH (by omega) (by omega)) ?_;rw [show ((obj : Nat) : Int).toNat = obj from sj obj];refine aa (eZ (by omega)) ?_;refine ag h1 (q6 m μ who (10, s, i) (cq flow obj) (by omega)) fun _ H2 h2 => ?_;exact ap ⟨(), rfl, h2.to⟩
end
section
variable (p : Nat) (σ : aL)
theorem Qh (m i : Nat) (most : Int) : Sp m6 [vp m, vi i, vi most] emp (fun b : Nat => vp b) (fun b => de m i b (List.replicate (dA most) w6)) := by
 obtain ⟨q1, q2, q3⟩ := qV most;refine bp (AS _ _ _) fun R H h => ?_;refine aa (kH) ?_;refine aa (kI) ?_;rw [← q3];refine KH (enc := Pk.cells) w6 h rfl (by unfold dt; omega) (by omega) fun cb H1 h1 => ?_;refine iU ?_;refine bg h1 fun b H2 h2 => ?_;refine ap ⟨b, rfl, ?_⟩;unfold de;refine ae.ex.2 ⟨vs cb (dA most) 3, ?_⟩;rw [List.length_replicate];exact h2.to
theorem X9 (who : Int) (o : Ob) (hE : σ.μ.N < 1099511627000) (ho : σ.obs.length < 1000000) : Sp gK [vp p, vi who, .agg [vi o.flow, vi o.most, vu o.r].toArray] (aJ p σ) (fun _ : Unit => vi σ.obs.length) (fun _ => aJ p (σ.make who o)) := by
 refine aM fun R H h => ?_;obtain ⟨g, ⟨hg, hg2⟩, h0⟩ := fC h;unfold av at h0;refine bj (fun r => uI _ _ _ H) ?_;refine bg (l := [vi o.flow, vi o.most, vu o.r]) h0 fun ob H1 h1 => ?_;refine ak h1 ac rfl ?_;refine qz (s := g.ov) h1 ?_;rw [ui];refine bD ac ?_;refine aY h1 rfl ?_;refine ag h1 (dZ 13 σ.obs.length 0) fun _ H2 h2 => ?_;refine aG h2 h1 rfl ?_;refine ag h2 ((QO g.m σ.μ who 6 (13, σ.obs.length, 0) (by omega)).imp fun _ R H h => uk (N' := σ.μ.N + 2) (by simp) h) fun _ H3 h3 => ?_;refine ak h3 ac rfl ?_;refine aV h3 ?_;refine Nu h3 fun b0 H4 h4 => ?_;refine jp (o : Ob) h4 rfl ?_ (by omega) fun a cc H5 h5 => ?_
 ·unfold dt; simp only [ui]; omega
 refine bD ac ?_;refine aY h5 rfl ?_;refine aG h4 h5 rfl ?_;refine bD ac ?_;refine aY h5 rfl ?_;refine aG h4 h5 rfl ?_;refine bD aK ?_;refine aY h5 rfl ?_;refine aG h4 h5 rfl ?_;refine ag h5 (Qh g.m σ.obs.length o.most) fun rb H6 h6 => ?_;refine aG h6 h5 rfl ?_;refine Nu h6 fun b1 H7 h7 => ?_;refine jp (rb : Nat) h7 rfl ?_ (by omega) fun a2 c2 H8 h8 => ?_
 ·unfold dt; omega
 refine bv h8 ac rfl rfl fun H9 h9 => ?_;refine bv h9 ac rfl rfl fun H10 h10 => ?_;refine ap ⟨(), rfl, ?_⟩;refine dm { g with ov := .slice a ((σ.obs.map fun x => x.1).length + 1) cc, rv := .slice a2 (g.rp.length + 1) c2, rp := g.rp ++ [rb] } ⟨by simp [aL.make, hg], hg2.1, fF hg2.2 (by simp [aL.make])⟩ ?_;unfold av aL.make;dsimp only
 have e2 : (g.rp ++ [rb]).zip ((σ.obs ++ [(o, List.replicate (dA o.most) w6)]).map fun x => x.2) = (g.rp.zip (σ.obs.map fun x => x.2)) ++ [(rb, List.replicate (dA o.most) w6)] := by
  rw [EV, List.zip_append (by simp [hg])]
  rfl
 have e1 : (σ.obs ++ [(o, List.replicate (dA o.most) w6)]).map (fun x => x.1) = (σ.obs.map fun x => x.1) ++ [o] := by rw [EV]; rfl
 have e3 : 0 + (g.rp.zip (σ.obs.map fun x => x.2)).length = σ.obs.length := by simp [hg]
 rw [e1, e2, HL, e3];dsimp only;have h11 := oa (L' := σ.μ.N + 2) (by omega) (ae.fr (A := iC g.ib g.m σ.c.sh σ.nx σ.μ.N) h10);exact h11.to
theorem w7 (u : Nat) (w : Int) (hu : 1 ≤ u ∧ u ≤ 4611686018427387904) (hw : 1 ≤ w ∧ w ≤ 65536) : Sp jW [vu u, vi w] emp (fun _ : Unit => .tuple #[vu (max (u / w.toNat) 1), vb true]) (fun _ => emp) := by
 refine bp (AL _ _) fun R H h => ?_;refine aa (db (by omega)) ?_;refine gs ?_;refine aa (iQ ?_) ?_
 ·omega
 refine gs ?_;refine aa (db ?_) ?_
 ·omega
 refine gs ?_;refine aa (iQ ?_) ?_
 ·omega
 refine gs ?_;refine aa (dH (by omega) (by omega)) ?_;refine aa (vt (by omega) (by omega)) ?_;refine aa (Ya (b := 1)) ?_;exact ap ⟨(), rfl, h.to⟩
abbrev aL.lay (σ : aL) (f w most : Int) : aL :=
 { σ.make 0 ⟨f, most, max (σ.c.un / w.toNat) 1⟩ with
  μ := ((σ.make 0 ⟨f, most, max (σ.c.un / w.toNat) 1⟩).μ.acc 0 2 (10, f.tmod σ.c.sh, f.tdiv σ.c.sh)).put (10, f.tmod σ.c.sh, f.tdiv σ.c.sh) (cq f σ.obs.length) }
theorem WT (x : Nat) (f w most : Int) (hc : bW σ.c = true) (hE : σ.μ.N < 1099511620000) (ho : σ.obs.length < 1000000) (hf : 0 ≤ f ∧ f ≤ 1048576) (hw : 1 ≤ w ∧ w ≤ 65536) :
 Sp lR [.agg [vp p, vp x].toArray, vi f, vi w, vi most] (f5 p σ * aJ x σ) (fun _ : Unit => vb true) (fun _ => f5 p (σ.lay f w most) * aJ x (σ.lay f w most)) := by
 have hr := bx.1 hc;have q0 : 0 ≤ f.tdiv σ.c.sh := Int.tdiv_nonneg hf.1 (by omega);have q1 : f.tdiv σ.c.sh ≤ f := Int.tdiv_le_self _ hf.1;refine bp (xA _ _ _ _) fun R H h => ?_;refine bg (l := [vp p, vp x]) h fun b H1 h1 => ?_;refine ak h1 aK rfl ?_;obtain ⟨g, hg, k1⟩ := fC (p := x) (σ := σ) (R := blk b (.cells false [vp p, vp x]) * (f5 p σ * R)) (H := H1) h1.to;unfold av at k1;refine Vd k1 ac ?_;refine bm h1 fun b2 H2 h2 => ?_;refine eG h2 rfl rfl fun H3 h3 => ?_;refine ak h3 aK rfl ?_;refine ag h3 (w7 σ.c.un w ⟨by omega, by omega⟩ hw) fun _ H4 h4 => ?_;refine aa (v := vu (max (σ.c.un / w.toNat) 1)) rfl ?_;refine aa (v := vb true) rfl ?_;refine iU ?_;refine bm h4 fun b3 H5 h5 => ?_;refine eG h5 rfl rfl fun H6 h6 => ?_;refine ak h6 aK rfl ?_;refine aV h6 ?_;refine ag h6 (JS p σ 0 ⟨f, most, max (σ.c.un / w.toNat) 1⟩ (by omega) ho) fun _ H7 h7 => ?_;refine bD aK ?_;refine aY h7 rfl ?_;refine aG h6 h7 rfl ?_;refine aV h7 ?_;refine d7 h6 h7 rfl ?_;refine ag h7 (X9 x σ 0 ⟨f, most, max (σ.c.un / w.toNat) 1⟩ (by omega) ho) fun _ H8 h8 => ?_;refine aa (bw rfl) ?_;refine gs ?_;refine ak h8 aK rfl ?_;obtain ⟨gp, hgp, k8⟩ := mE (p := p) (σ := σ.make 0 ⟨f, most, max (σ.c.un / w.toNat) 1⟩) (R := blk b (.cells false [vp p, vp x]) * (blk b2 (.cells false (fM.cells σ.c)) * (aJ x (σ.make 0 ⟨f, most, max (σ.c.un / w.toNat) 1⟩) * R))) (H := H8) h8.to;unfold aC at k8;refine gs ?_;refine ak k8 ac rfl ?_;refine gs ?_;refine ak k8 aK rfl ?_;refine gs ?_;refine aa (wA (by omega)) ?_;refine gs ?_;refine ak k8 aK rfl ?_;refine gs ?_;refine aa (JY (by omega) (by omega) (by omega)) ?_;refine gs ?_;refine ag k8 (Dt gp.tb gp.m σ.c.sh.toNat σ.c.sl.toNat (σ.make 0 ⟨f, most, max (σ.c.un / w.toNat) 1⟩).μ 0 (f.tmod σ.c.sh) (f.tdiv σ.c.sh) f σ.obs.length (by simp [aL.make]; omega) hf (by omega)) fun _ H9 k9 => ?_
 have h9 : ae (f5 p (σ.lay f w most) * (blk b (.cells false [vp p, vp x]) * (blk b2 (.cells false (fM.cells σ.c)) * (aJ x (σ.make 0 ⟨f, most, max (σ.c.un / w.toNat) 1⟩) * R)))) H9 := by
  refine ot gp hgp ?_;unfold aC;exact k9.to
 refine gs ?_;refine ak h9 aK rfl ?_;obtain ⟨gx, hgx, l9⟩ := fC (p := x) (σ := σ.make 0 ⟨f, most, max (σ.c.un / w.toNat) 1⟩) (R := blk b (.cells false [vp p, vp x]) * (blk b2 (.cells false (fM.cells σ.c)) * (f5 p (σ.lay f w most) * R))) (H := H9) h9.to;unfold av at l9;refine gs ?_;refine ak l9 ac rfl ?_;refine gs ?_;refine ak l9 aK rfl ?_;refine gs ?_;refine aa (wA (by omega)) ?_;refine gs ?_;refine ak l9 aK rfl ?_;refine gs ?_;refine aa (JY (by omega) (by omega) (by omega)) ?_;refine gs ?_;refine ag l9 (M1 gx.tb gx.m σ.c.sh.toNat σ.c.sl.toNat (σ.make 0 ⟨f, most, max (σ.c.un / w.toNat) 1⟩).μ 0 (f.tmod σ.c.sh) (f.tdiv σ.c.sh) f σ.obs.length (by simp [aL.make]; omega) hf (by omega)) fun _ H10 l10 => ?_
 have h10 : ae (aJ x (σ.lay f w most) * (blk b (.cells false [vp p, vp x]) * (blk b2 (.cells false (fM.cells σ.c)) * (f5 p (σ.lay f w most) * R)))) H10 := by
  refine dm gx ⟨hgx.1, hgx.2.1, fF hgx.2.2 (by simp [aL.lay, aL.make])⟩ ?_;unfold av;have l11 := oa (L' := σ.μ.N + 2 + 2) (by omega) (ae.fr (A := iC gx.ib gx.m σ.c.sh σ.nx (σ.μ.N + 2)) l10);exact l11.to
 refine gs ?_;exact ap ⟨(), rfl, h10.to⟩
end
def aL.made (c : fM) : Nat → aL
 | 0 => aL.new c
 | f + 1 => if (f : Int).tdiv c.sh < c.sl then (aL.made c f).lay f (1 + f) (2 + (f : Int).tmod 2) else aL.made c f
theorem JJ (c : fM) : ∀ n, (aL.made c n).c = c ∧ (aL.made c n).μ.N ≤ 4 * n ∧ (aL.made c n).obs.length ≤ n := by
 intro n
 induction n with
 | zero => exact ⟨rfl, bK _, bK _⟩
 | succ n ih =>
  obtain ⟨h1, h2, h3⟩ := ih;unfold aL.made
  split
  ·refine ⟨h1, ?_, ?_⟩
   ·simp [aL.lay, aL.make]; omega
   ·simp [aL.lay, aL.make]; omega
  ·exact ⟨h1, by omega, by omega⟩
theorem sN (b : Nat) : aq .ptr .eql (vp b) (.pointer none) = some (vb false) := rfl
theorem To (c0 : fM) (n : Nat) (hn : n ≤ 16) : Sp sD [.agg (fM.cells c0).toArray, vi n] emp (fun g : Nat × Nat × fM => .tuple #[.agg [vp g.1, vp g.2.1].toArray, vb true])
 (fun g => pu (bW g.2.2 = true) * (f5 g.1 (aL.made g.2.2 n) * aJ g.2.1 (aL.made g.2.2 n))) := by
 refine bp (G8 _ _) fun R H h => ?_;refine bg h fun b H1 h1 => ?_;refine bm h1 fun b2 H2 h2 => ?_;refine aV h2 ?_;refine ag h2 (Ht c0) fun c H3 h3 => ?_;rw [ae.pu] at h3;obtain ⟨hc, h3⟩ := h3;refine eG h3 rfl rfl fun H4 h4 => ?_;refine aV h4 ?_;refine ag h4 (JT c hc) fun p H5 h5 => ?_;refine aa (v := vp p) rfl ?_;refine aa (v := vi 0) rfl ?_;refine aa (p7 rfl) ?_;refine gs ?_;refine aa (sN _) ?_;refine gs ?_;obtain ⟨g, hg, k5⟩ := mE (p := p) (σ := aL.new c) (R := blk b2 (.cells false [.pointer none, .pointer none]) * (blk b (.cells false (fM.cells c)) * R)) (H := H5) h5.to;unfold aC at k5;refine ak k5 ac rfl ?_;refine gs ?_;refine aa (sN _) ?_;refine gs ?_;refine ak k5 ac rfl ?_;refine gs ?_;refine aa (sN _) ?_;refine gs ?_;refine ak k5 ac rfl ?_;refine gs ?_;refine aa (sN _) ?_;refine gs ?_;refine ak k5 ac rfl ?_;refine gs ?_;refine aa (sN _) ?_;refine gs ?_;refine ak k5 ac rfl ?_;refine gs ?_;refine aa (sN _) ?_;refine gs ?_;refine aV h5 ?_;refine ag h5 (Fj c hc) fun x H6 h6 => ?_;refine iU ?_;refine bm h6 fun b3 H7 h7 => ?_;refine eG h7 rfl rfl fun H8 h8 => ?_;refine ai (An _ _ _ _ _ H8) ?_;refine ai (Ap _ _ _ _ _ _ H8) ?_;have hr := bx.1 hc;have loop : ∀ (d i : Nat) (H : AH), i + d = n → ae (blk b3 (.cells false [vp p, vp x]) * (blk b2 (.cells false [.pointer none, .pointer none]) * (blk b (.cells false (fM.cells c)) * (f5 p (aL.made c i) * (aJ x (aL.made c i) * R))))) H →
  wp (mr (vi n) (vp b) (vp b2) (vb false) (vp b3) (vi i) H) fun v' H' => ∃ g : Nat × Nat × fM, v' = .tuple #[.agg [vp g.1, vp g.2.1].toArray, vb true] ∧ ae (pu (bW g.2.2 = true) * (f5 g.1 (aL.made g.2.2 n) * aJ g.2.1 (aL.made g.2.2 n)) * R) H' := by
  intro d
  induction d with
  | zero =>
   intro i H hi h;refine ai (pP _ _ _ _ _ _ H) ?_;refine aa (db (by omega)) ?_;refine gs ?_;refine ai (vQ _ _ _ H) ?_;refine ai (Ao _ _ _ H) ?_;refine aV h ?_;refine eG h rfl rfl fun H2 h2 => ?_;refine aV h2 ?_;refine ap ⟨(p, x, c), rfl, ?_⟩;rw [aj, ae.pu]
   have e : i = n := by omega
   subst e;exact ⟨hc, h2.to⟩
  | succ d ih =>
   intro i H hi h;obtain ⟨m1, m2, m3⟩ := JJ c i;have q0 : 0 ≤ (i : Int).tdiv c.sh := Int.tdiv_nonneg (by omega) (by omega);have q1 : (i : Int).tdiv c.sh ≤ i := Int.tdiv_le_self _ (by omega);have t0 : 0 ≤ (i : Int).tmod 2 := Int.tmod_nonneg _ (by omega);have t1 : (i : Int).tmod 2 < 2 := Int.tmod_lt_of_pos _ (by omega);have next : ∀ {H : AH}, ae (blk b3 (.cells false [vp p, vp x]) * (blk b2 (.cells false [.pointer none, .pointer none]) * (blk b (.cells false (fM.cells c)) * (f5 p (aL.made c (i + 1)) * (aJ x (aL.made c (i + 1)) * R))))) H →
    wp (pQ (vi n) (vp b) (vp b2) (vb false) (vp b3) (vi i) H) fun v' H' => ∃ g : Nat × Nat × fM, v' = .tuple #[.agg [vp g.1, vp g.2.1].toArray, vb true] ∧ ae (pu (bW g.2.2 = true) * (f5 g.1 (aL.made g.2.2 n) * aJ g.2.1 (aL.made g.2.2 n)) * R) H' := by
    intro H h;refine ai (As _ _ _ _ _ _ H) ?_;refine aa (bu (by omega) (by omega)) ?_;exact ih (i + 1) H (by omega) h
   refine ai (pP _ _ _ _ _ _ H) ?_;refine aa (eO (by omega)) ?_;refine gs ?_;refine ai (Aq _ _ _ _ _ _ H) ?_;refine ak h aK rfl ?_;refine aa (JY (by omega) (by omega) (by omega)) ?_;refine ak h aK rfl ?_
   by_cases hf : (i : Int).tdiv c.sh < c.sl
   ·have e : aL.made c (i + 1) = (aL.made c i).lay i (1 + i) (2 + (i : Int).tmod 2) := by show (if _ then _ else _) = _; rw [if_pos hf]
    rw [e] at next;refine aa (eO hf) ?_;refine gs ?_;refine aV h ?_;refine gs ?_;refine aa (bu (by omega) (by omega)) ?_;refine gs ?_;refine aa (wA (by omega)) ?_;refine gs ?_;refine aa (bu (by omega) (by omega)) ?_;refine gs ?_;refine ag h (WT p (aL.made c i) x i (1 + i) (2 + (i : Int).tmod 2) (by rw [m1]; exact hc) (by omega) (by omega) (by omega) (by omega)) fun _ H2 h2 => ?_;refine gs ?_;rw [Bool.not_true];refine gs ?_;exact next h2.to
   ·have e : aL.made c (i + 1) = aL.made c i := by show (if _ then _ else _) = _; rw [if_neg hf]
    rw [e] at next;refine aa (db hf) ?_;refine gs ?_;exact next h
 exact loop n 0 H8 (by omega) (show ae (blk b3 (.cells false [vp p, vp x]) * (blk b2 (.cells false [.pointer none, .pointer none]) * (blk b (.cells false (fM.cells c)) * (f5 p (aL.new c) * (aJ x (aL.new c) * R))))) H8 from h8.to)
theorem Ig {o : Nat} {x : Value} {k : Value → OV} {Q : Value → AH → Prop} (h : wp (k undef) Q) : wp (EM (vb false) true [.n, .f o] x k) Q := h
theorem nO {p : List Stp} {x : Value} {k : Value → OV} {Q : Value → AH → Prop} (h : wp (ad p x k) Q) : wp (EM (vb true) true p x k) Q := by rw [JA]; exact h
section
variable {m i rp : Nat} {cs : List Pk} {R : SP} {H : AH}
theorem bH (h : ae (cB m i rp cs * R) H) : ∃ cv, ae (blk rp (.cells false [vp m, vi i, cv]) * (ts 3 Pk.cells cv cs * R)) H := by
 obtain ⟨cv, h1⟩ := ae.ex.1 h;exact ⟨cv, h1.to⟩
theorem qo {cv : Value} (h : ae (blk rp (.cells false [vp m, vi i, cv]) * (ts 3 Pk.cells cv cs * R)) H) : ae (cB m i rp cs * R) H :=
 ae.ex.2 ⟨cv, h.to⟩
theorem fL (h : ae (de m i rp cs * R) H) : ∃ cv, ae (blk rp (.cells false [vp m, vi i, vi cs.length, cv]) * (ts 3 Pk.cells cv cs * R)) H := by
 obtain ⟨cv, h1⟩ := ae.ex.1 h;exact ⟨cv, h1.to⟩
theorem mK {cv : Value} (h : ae (blk rp (.cells false [vp m, vi i, vi cs.length, cv]) * (ts 3 Pk.cells cv cs * R)) H) : ae (de m i rp cs * R) H :=
 ae.ex.2 ⟨cv, h.to⟩
end
section
variable (m i rp : Nat) (cs : List Pk) (μ : Mu)
theorem oA (kind cell : Int) : Sp cX [vp rp, vi kind, vi cell] (cB m i rp cs) (fun _ : Unit => eJ (kind, (i : Int), cell)) (fun _ => cB m i rp cs) := by
 refine aM fun R H h => ?_;obtain ⟨cv, h0⟩ := bH h;refine bj (fun r => yu _ _ _ H) ?_;refine bm h0 fun b H1 h1 => ?_;refine ak h1 ac rfl ?_;refine iU ?_;refine eG h1 rfl rfl fun H2 h2 => ?_;refine aV h2 ?_;exact ap ⟨(), rfl, qo (cv := cv) h2.to⟩
theorem wD (who : Int) (hE : μ.N < 1099511627000) : Sp fq [vp rp, vi who] (cB m i rp cs * bA m μ) (fun _ : Unit => vu (μ.V (11, (i : Int), 0))) (fun _ => cB m i rp cs * bA m (μ.acc who 1 (11, (i : Int), 0))) := by
 refine aM fun R H h => ?_;obtain ⟨cv, h0⟩ := bH (m := m) (i := i) (rp := rp) (cs := cs) (R := bA m μ * R) (H := H) h.to;refine bj (fun r => u0 _ _ H) ?_;refine bD ac ?_;refine aY h0 rfl ?_;refine ag h (oA m i rp cs 11 0) fun _ H1 h1 => ?_;obtain ⟨cv1, k1⟩ := bH h1;refine aG k1 h0 (by rfl) ?_;refine ag h1 (vZ m μ who (11, (i : Int), 0) (by omega)) fun _ H2 h2 => ?_;exact ap ⟨(), rfl, h2.to⟩
theorem De (who : Int) (hE : μ.N < 1099511627000) : Sp gN [vp rp, vi who] (cB m i rp cs * bA m μ) (fun _ : Unit => vu (μ.V (12, (i : Int), 0))) (fun _ => cB m i rp cs * bA m (μ.acc who 1 (12, (i : Int), 0))) := by
 refine aM fun R H h => ?_;obtain ⟨cv, h0⟩ := bH (m := m) (i := i) (rp := rp) (cs := cs) (R := bA m μ * R) (H := H) h.to;refine bj (fun r => uX _ _ H) ?_;refine bD ac ?_;refine aY h0 rfl ?_;refine ag h (oA m i rp cs 12 0) fun _ H1 h1 => ?_;obtain ⟨cv1, k1⟩ := bH h1;refine aG k1 h0 (by rfl) ?_;refine ag h1 (vZ m μ who (12, (i : Int), 0) (by omega)) fun _ H2 h2 => ?_;exact ap ⟨(), rfl, h2.to⟩
def ie (w h k : Nat) : Bool := decide (h ≤ aI w ∧ k ≤ aI w - h)
theorem Dd (w h : Nat) (hw : w < 18446744073709551616) (hc : cs.length < 1000) : Sp gM [vp rp, vu w, vu h] (cB m i rp cs) (fun _ : Unit => vb (ie w h cs.length)) (fun _ => cB m i rp cs) := by
 refine aM fun R H hh => ?_;have hl := eh w;refine bj (fun r => uW _ _ _ H) ?_;refine ag hh (iK w hw) fun _ H1 h1 => ?_
 by_cases hle : h ≤ aI w
 ·refine aa (wU (by omega)) ?_
  refine gs ?_;refine aa (Ct hle (by omega)) ?_;obtain ⟨cv, h2⟩ := bH (m := m) (i := i) (rp := rp) (cs := cs) (R := R) (H := H1) h1.to;refine gs ?_;refine ak h2 ac rfl ?_;refine gs ?_;refine y5 (s := cv) (l := cs) h2 ?_;refine gs ?_;refine aa (dH (by omega) (by omega)) ?_;rw [show ((cs.length : Nat) : Int).toNat = cs.length from sj _];refine gs ?_
  by_cases hk : cs.length ≤ aI w - h
  ·refine aa (wU (by omega)) ?_
   refine gs ?_;exact ap ⟨(), by rw [ie, dI ⟨hle, hk⟩], h1.to⟩
  ·refine aa (pJ (by omega)) ?_
   refine gs ?_;exact ap ⟨(), by rw [ie, dQ (fun q => hk q.2)], h1.to⟩
 ·refine aa (pJ (by omega)) ?_
  refine gs ?_;exact ap ⟨(), by rw [ie, dQ (fun q => hle q.1)], h1.to⟩
abbrev Mu.turn (μ : Mu) (who : Int) (i w : Nat) (o : Option Nat) : Mu := match o with
 | none => μ
 | some n => μ.swp who (11, (i : Int), 0) w n
def dY (μ : Mu) (i w : Nat) (o : Option Nat) : Bool := o.isSome && decide (μ.V (11, (i : Int), 0) = w)
theorem Dg (who : Int) (w fn : Nat) (o : Option Nat) (hf : Sp fn [vu w] emp (fun _ : Unit => E8 o) (fun _ => emp)) (hE : μ.N < 1099511627000) :
 Sp gP [vp rp, vi who, vu w, .func (.func fn) #[] #[]] (cB m i rp cs * bA m μ) (fun _ : Unit => vb (dY μ i w o)) (fun _ => cB m i rp cs * bA m (μ.turn who i w o)) := by
 refine bp (u1 _ _ _ _) fun R H h => ?_;refine ai (show (dd (.func (.func fn) #[] #[]) [vu w]).bind _ = _ from rfl) ?_;refine ag h hf fun _ H1 h1 => ?_
 cases o with
 | none =>
  refine aa (v := vw 0) rfl ?_;refine aa (v := vb false) rfl ?_;refine gs ?_;refine Ig ?_;refine gs ?_;refine BE rfl ?_;refine gs ?_;exact ap ⟨(), rfl, h1.to⟩
 | some n =>
  refine aa (v := vu n) rfl ?_;refine aa (v := vb true) rfl ?_;refine gs ?_;refine nO ?_;obtain ⟨cv, k1⟩ := bH (m := m) (i := i) (rp := rp) (cs := cs) (R := bA m μ * R) (H := H1) h1.to;refine bD ac ?_;refine gs ?_;refine aY k1 rfl ?_;refine gs ?_;refine ag h1 (oA m i rp cs 11 0) fun _ H2 h2 => ?_;obtain ⟨cv2, k2⟩ := bH (m := m) (i := i) (rp := rp) (cs := cs) (R := bA m μ * R) (H := H2) h2.to;refine aG k2 k1 (by rfl) ?_;refine gs ?_;refine ag h2 (JQ m μ who (11, (i : Int), 0) w n (by omega)) fun _ H3 h3 => ?_;refine gs ?_;exact ap ⟨(), rfl, h3.to⟩
theorem Bg (who : Int) (w : Nat) (hw : w < 18446744073709551616) (hE : μ.N < 1099511627000) : Sp gc [vp rp, vi who, vu w] (cB m i rp cs * bA m μ) (fun _ : Unit => vb (dY μ i w (aQ w 0))) (fun _ => cB m i rp cs * bA m (μ.turn who i w (aQ w 0))) := by
 refine bp (tf _ _ _) fun R H h => ?_;refine ag h (Dg m i rp cs μ who w mv (aQ w 0) (QJ w hw) hE) fun _ H1 h1 => ?_;exact ap ⟨(), rfl, h1.to⟩
theorem Qi (who : Int) (w : Nat) (hw : w < 18446744073709551616) (hE : μ.N < 1099511627000) : Sp jN [vp rp, vi who, vu w] (cB m i rp cs * bA m μ) (fun _ : Unit => vb (dY μ i w (aQ w 2))) (fun _ => cB m i rp cs * bA m (μ.turn who i w (aQ w 2))) := by
 refine bp (uZ _ _ _) fun R H h => ?_;refine ag h (Dg m i rp cs μ who w my (aQ w 2) (QK w hw) hE) fun _ H1 h1 => ?_;exact ap ⟨(), rfl, h1.to⟩
end
section
variable (m i rp : Nat) (cs : List Pk) (μ : Mu)
theorem KQ (who : Int) (hE : μ.N < 1099511627000) : Sp kA [vp rp, vi who] (de m i rp cs * bN m μ) (fun _ : Unit => vu (μ.V (11, (i : Int), 0))) (fun _ => de m i rp cs * bN m (μ.acc who 1 (11, (i : Int), 0))) := by
 refine aM fun R H h => ?_;obtain ⟨cv, h0⟩ := fL (m := m) (i := i) (rp := rp) (cs := cs) (R := bN m μ * R) (H := H) h.to;refine bj (fun r => wm _ _ H) ?_;refine bD ac ?_;refine aY h0 rfl ?_;refine ak h0 ac rfl ?_;refine ag h0 (dZ 11 (i : Int) 0) fun _ H1 h1 => ?_;refine aG h1 h0 (by rfl) ?_;refine ag h1 (qi m μ who (11, (i : Int), 0) (by omega)) fun _ H2 h2 => ?_;exact ap ⟨(), rfl, (mK (m := m) (i := i) (rp := rp) (cs := cs) (cv := cv) (R := bN m (μ.acc who 1 (11, (i : Int), 0)) * R) h2.to).to⟩
theorem BK (who : Int) (hE : μ.N < 1099511627000) : Sp iq [vp rp, vi who] (de m i rp cs * bN m μ) (fun _ : Unit => vu (μ.V (12, (i : Int), 0))) (fun _ => de m i rp cs * bN m (μ.acc who 1 (12, (i : Int), 0))) := by
 refine aM fun R H h => ?_;obtain ⟨cv, h0⟩ := fL (m := m) (i := i) (rp := rp) (cs := cs) (R := bN m μ * R) (H := H) h.to;refine bj (fun r => wi _ _ H) ?_;refine bD ac ?_;refine aY h0 rfl ?_;refine ak h0 ac rfl ?_;refine ag h0 (dZ 12 (i : Int) 0) fun _ H1 h1 => ?_;refine aG h1 h0 (by rfl) ?_;refine ag h1 (qi m μ who (12, (i : Int), 0) (by omega)) fun _ H2 h2 => ?_;exact ap ⟨(), rfl, (mK (m := m) (i := i) (rp := rp) (cs := cs) (cv := cv) (R := bN m (μ.acc who 1 (12, (i : Int), 0)) * R) h2.to).to⟩
theorem BJ (w h : Nat) (hw : w < 18446744073709551616) (hc : cs.length < 1000) : Sp ip [vp rp, vu w, vu h] (de m i rp cs) (fun _ : Unit => vb (ie w h cs.length)) (fun _ => de m i rp cs) := by
 refine aM fun R H hh => ?_;have hl := eh w;refine bj (fun r => wh _ _ _ H) ?_;refine ag hh (nG w hw) fun _ H1 h1 => ?_;refine aa (v := vu (aI w)) rfl ?_;refine aa (v := vi (aR w)) rfl ?_;refine aa (v := vb (cQ w)) rfl ?_
 by_cases hle : h ≤ aI w
 ·refine aa (wU (by omega)) ?_
  refine gs ?_;refine aa (Ct hle (by omega)) ?_;obtain ⟨cv, h2⟩ := fL (m := m) (i := i) (rp := rp) (cs := cs) (R := R) (H := H1) h1.to;refine gs ?_;refine ak h2 ac rfl ?_;refine gs ?_;refine aa (dH (by omega) (by omega)) ?_;rw [show ((cs.length : Nat) : Int).toNat = cs.length from sj _];refine gs ?_
  by_cases hk : cs.length ≤ aI w - h
  ·refine aa (wU (by omega)) ?_
   refine gs ?_;exact ap ⟨(), by rw [ie, dI ⟨hle, hk⟩], h1.to⟩
  ·refine aa (pJ (by omega)) ?_
   refine gs ?_;exact ap ⟨(), by rw [ie, dQ (fun q => hk q.2)], h1.to⟩
 ·refine aa (pJ (by omega)) ?_
  refine gs ?_;exact ap ⟨(), by rw [ie, dQ (fun q => hle q.1)], h1.to⟩
theorem BM (who : Int) (w how : Nat) (hh : how < 3) (hw : w < 18446744073709551616) (hE : μ.N < 1099511627000) :
 Sp iu [vp rp, vi who, vu w, vi (how : Int)] (de m i rp cs * bN m μ) (fun _ : Unit => vb (dY μ i w (aQ w how))) (fun _ => de m i rp cs * bN m (μ.turn who i w (aQ w how))) := by
 refine bp (wl _ _ _ _) fun R H h => ?_;refine ag h (J0 w how hw hh) fun _ H1 h1 => ?_
 generalize aQ w how = o at h1 ⊢
 cases o with
 | none =>
  refine aa (v := vw 0) rfl ?_;refine aa (v := vb false) rfl ?_;refine gs ?_;refine Ig ?_;refine gs ?_;refine BE rfl ?_;refine gs ?_;exact ap ⟨(), rfl, h1.to⟩
 | some n =>
  refine aa (v := vu n) rfl ?_;refine aa (v := vb true) rfl ?_;refine gs ?_;refine nO ?_;obtain ⟨cv, k1⟩ := fL (m := m) (i := i) (rp := rp) (cs := cs) (R := bN m μ * R) (H := H1) h1.to;refine bD ac ?_;refine gs ?_;refine aY k1 rfl ?_;refine gs ?_;refine ak k1 ac rfl ?_;refine gs ?_;refine ag k1 (dZ 11 (i : Int) 0) fun _ H2 k2 => ?_;refine aG k2 k1 (by rfl) ?_;refine gs ?_;refine ag k2 (AU m μ who (11, (i : Int), 0) w n (by omega)) fun _ H3 k3 => ?_;refine gs ?_;refine ap ⟨(), rfl, ?_⟩;have h3 := mK (m := m) (i := i) (rp := rp) (cs := cs) (cv := cv) (R := bN m (μ.swp who (11, (i : Int), 0) w n) * R) (H := H3) k3.to;exact h3.to
end
section
variable (m i rp : Nat) (cs : List Pk) (μ : Mu)
theorem ra (n : Nat) (h0 : 1 ≤ cs.length ∧ cs.length < 1000) : Sp bP [vp rp, vu n] (cB m i rp cs) (fun _ : Unit => vi ((n % cs.length : Nat) : Int)) (fun _ => cB m i rp cs) := by
 have hlt : n % cs.length < cs.length := Nat.mod_lt _ (by omega);refine aM fun R H h => ?_;obtain ⟨cv, k⟩ := bH h;refine bj (fun r => jj _ _ H) ?_;refine ak k ac rfl ?_;refine tl (s := cv) (l := cs) k ?_;refine aa (dH (by omega) (by omega)) ?_;rw [show ((cs.length : Nat) : Int).toNat = cs.length from sj _];refine aa (iO (by omega)) ?_;refine aa (ik (by omega)) ?_;exact ap ⟨(), rfl, h⟩
theorem KP (n : Nat) (h0 : 1 ≤ cs.length ∧ cs.length < 1000) : Sp ee [vp rp, vu n] (de m i rp cs) (fun _ : Unit => vi ((n % cs.length : Nat) : Int)) (fun _ => de m i rp cs) := by
 have hlt : n % cs.length < cs.length := Nat.mod_lt _ (by omega);refine aM fun R H h => ?_;obtain ⟨cv, k⟩ := fL h;refine bj (fun r => nH _ _ H) ?_;refine ak k ac rfl ?_;refine aa (dH (by omega) (by omega)) ?_;rw [show ((cs.length : Nat) : Int).toNat = cs.length from sj _];refine aa (iO (by omega)) ?_;refine aa (ik (by omega)) ?_;exact ap ⟨(), rfl, h⟩
theorem Df (who : Int) (n : Nat) (hn : n < 18446744073709551615) (h0 : 1 ≤ cs.length ∧ cs.length < 1000) (hE : μ.N < 1099511627000) :
 Sp gO [vp rp, vi who, vu n] (cB m i rp cs * bA m μ) (fun _ : Unit => .tuple #[]) (fun _ => cB m i rp cs * bA m ((μ.acc who 2 (15, (i : Int), ((n % cs.length : Nat) : Int))).put (15, (i : Int), ((n % cs.length : Nat) : Int)) (n + 1))) := by
 refine aM fun R H h => ?_;obtain ⟨cv, k0⟩ := bH (m := m) (i := i) (rp := rp) (cs := cs) (R := bA m μ * R) (H := H) h.to;refine bj (fun r => uY _ _ _ H) ?_;refine bD ac ?_;refine aY k0 rfl ?_;refine ag h (ra m i rp cs n h0) fun _ H1 h1 => ?_;obtain ⟨cv1, k1⟩ := bH h1;refine aG k1 k0 (by rfl) ?_;refine ag h1 (oA m i rp cs 15 ((n % cs.length : Nat) : Int)) fun _ H2 h2 => ?_;obtain ⟨cv2, k2⟩ := bH h2;refine aG k2 k0 (by rfl) ?_;refine aa (eZ (b := 1) (by omega)) ?_;refine ag h2 (yS m μ who (15, (i : Int), ((n % cs.length : Nat) : Int)) (n + 1) (by omega)) fun _ H3 h3 => ?_;exact ap ⟨(), rfl, h3.to⟩
theorem BL (who : Int) (n : Nat) (hn : n < 18446744073709551615) (h0 : 1 ≤ cs.length ∧ cs.length < 1000) (hE : μ.N < 1099511627000) :
 Sp ir [vp rp, vi who, vu n] (de m i rp cs * bN m μ) (fun _ : Unit => .tuple #[]) (fun _ => de m i rp cs * bN m ((μ.acc who 2 (15, (i : Int), ((n % cs.length : Nat) : Int))).put (15, (i : Int), ((n % cs.length : Nat) : Int)) (n + 1))) := by
 refine aM fun R H h => ?_;obtain ⟨cv, k0⟩ := fL (m := m) (i := i) (rp := rp) (cs := cs) (R := bN m μ * R) (H := H) h.to;refine bj (fun r => wj _ _ _ H) ?_;refine bD ac ?_;refine aY k0 rfl ?_;refine bD ac ?_;refine aY k0 rfl ?_;refine ag h (KP m i rp cs n h0) fun _ H1 h1 => ?_;obtain ⟨cv1, k1⟩ := fL h1;refine aG k1 k0 (by rfl) ?_;refine aG k1 k0 (by rfl) ?_;refine ag h1 (dZ 15 (i : Int) ((n % cs.length : Nat) : Int)) fun _ H2 h2 => ?_;obtain ⟨cv2, k2⟩ := fL (m := m) (i := i) (rp := rp) (cs := cs) (R := bN m μ * R) (H := H2) h2.to;refine aG k2 k0 (by rfl) ?_;refine aa (eZ (b := 1) (by omega)) ?_;refine ag h2 (q6 m μ who (15, (i : Int), ((n % cs.length : Nat) : Int)) (n + 1) (by omega)) fun _ H3 h3 => ?_;exact ap ⟨(), rfl, h3.to⟩
theorem Uz (who : Int) (n : Nat) (x : Pk) (h0 : 1 ≤ cs.length ∧ cs.length < 1000) (hE : μ.N < 1099511627000) :
 Sp kB [vp rp, vi who, vu n, .agg (Pk.cells x).toArray] (cB m i rp cs * bA m μ) (fun _ : Unit => .tuple #[]) (fun _ => cB m i rp (cs.set (n % cs.length) x) * bA m (μ.acc who 6 (16, (i : Int), ((n % cs.length : Nat) : Int)))) := by
 have hlt : n % cs.length < cs.length := Nat.mod_lt _ (by omega);refine bp (wC _ _ _ _) fun R H h => ?_;refine bg h fun b H1 h1 => ?_;obtain ⟨cv, k1⟩ := bH (m := m) (i := i) (rp := rp) (cs := cs) (R := bA m μ * (blk b (.cells false (Pk.cells x)) * R)) (H := H1) h1.to;refine bD ac ?_;refine aY k1 rfl ?_;refine ag h1 (ra m i rp cs n h0) fun _ H2 h2 => ?_;obtain ⟨cv2, k2⟩ := bH h2;refine aG k2 k1 (by rfl) ?_;refine ag h2 (oA m i rp cs 16 ((n % cs.length : Nat) : Int)) fun _ H3 h3 => ?_;obtain ⟨cv3, k3⟩ := bH h3;refine aG k3 k1 (by rfl) ?_;refine ag h3 ((qU m μ who (16, (i : Int), ((n % cs.length : Nat) : Int)) (by omega)).imp fun _ R H h => i1 (N' := μ.N + 2) (by simp) h) fun _ H4 h4 => ?_;obtain ⟨cv4, k4⟩ := bH (m := m) (i := i) (rp := rp) (cs := cs) (R := bA m (μ.acc who 6 (16, (i : Int), ((n % cs.length : Nat) : Int))) * (blk b (.cells false (Pk.cells x)) * R)) (H := H4) h4.to;refine bD ac ?_;refine aY k4 rfl ?_
 -- a cell is told once more, of the same ring
 have again : ∀ {k : Value × AH → OV} {Q : Value → AH → Prop}, (∀ H5, ae (blk rp (.cells false [vp m, vi i, cv4]) * (ts 3 Pk.cells cv4 cs * (bA m (μ.acc who 6 (16, (i : Int), ((n % cs.length : Nat) : Int))) * (blk b (.cells false (Pk.cells x)) * R)))) H5 → wp (k (vi ((n % cs.length : Nat) : Int), H5)) Q) → wp ((FF bP [vp rp, vu n] H4).bind k) Q := by
  intro k Q hk
  have cell4 : Sp bP [vp rp, vu n] (blk rp (.cells false [vp m, vi i, cv4]) * ts 3 Pk.cells cv4 cs) (fun _ : Unit => vi ((n % cs.length : Nat) : Int)) (fun _ => blk rp (.cells false [vp m, vi i, cv4]) * ts 3 Pk.cells cv4 cs) := by
   refine bp (jj _ _) fun R H h => ?_;refine ak h ac rfl ?_;refine tl (s := cv4) (l := cs) h ?_;refine aa (dH (by omega) (by omega)) ?_;rw [show ((cs.length : Nat) : Int).toNat = cs.length from sj _];refine aa (iO (by omega)) ?_;refine aa (ik (by omega)) ?_;exact ap ⟨(), rfl, h⟩
  exact ag k4 cell4 fun _ H5 h5 => hk H5 h5.to
 refine again fun H5 k5 => ?_;refine aG k5 k4 (by rfl) ?_;refine aV k5 ?_;refine d7 k4 k5 rfl ?_;refine NC (s := cv4) (l := cs) (i := n % cs.length) x k5 hlt (.inl ⟨rfl, rfl⟩) rfl (by omega) rfl rfl fun H6 k6 => ?_;refine ap ⟨(), rfl, ?_⟩;have h6 := qo (m := m) (i := i) (rp := rp) (cs := cs.set (n % cs.length) x) (cv := cv4) (R := bA m (μ.acc who 6 (16, (i : Int), ((n % cs.length : Nat) : Int))) * R) (H := H6) k6.to;exact h6.to
end
theorem u5 (k a : Int) : Sp bB [vi k, vi a] emp (fun _ : Unit => eJ (k, a, 0)) (fun _ => emp) := by
 refine bp (vO _ _) fun R H h => ?_;refine bm h fun b H1 h1 => ?_;refine iU ?_;refine eG h1 rfl rfl fun H2 h2 => ?_;refine aV h2 ?_;exact ap ⟨(), rfl, h2.to⟩
abbrev Mu.cnt (μ : Mu) (who : Int) (at' : cE) (n : Nat) : Mu := (μ.acc who 3 at').put at' ((μ.V at' + n) % 18446744073709551616)
section
variable (ib m nm : Nat) (c : fM) (nx : Int → Option Nat) (μ : Mu) (who : Int)
theorem G7 (hE : μ.N < 1099511627000) : Sp g7 [vp ib, vi who] (kS ib m nm c nx * bA m μ) (fun _ : Unit => .tuple #[]) (fun _ => kS ib m nm c nx * bA m (μ.cnt who (3, 0, 0) 4294967296)) := by
 refine bp (pM _ _) fun R H h => ?_;unfold kS at h ⊢;refine bD ac ?_;refine aY h rfl ?_;refine ag h (u5 3 0) fun _ H1 h1 => ?_;refine aG h1 h (by rfl) ?_;refine ag h1 (Yg m μ who (3, 0, 0) 4294967296 (by omega)) fun _ H2 h2 => ?_;exact ap ⟨(), rfl, h2.to⟩
theorem CT (hE : μ.N < 1099511627000) : Sp ga [vp ib, vi who] (kS ib m nm c nx * bA m μ) (fun _ : Unit => .tuple #[]) (fun _ => kS ib m nm c nx * bA m (μ.cnt who (3, 0, 0) 1)) := by
 refine bp (sk _ _) fun R H h => ?_;unfold kS at h ⊢;refine bD ac ?_;refine aY h rfl ?_;refine ag h (u5 3 0) fun _ H1 h1 => ?_;refine aG h1 h (by rfl) ?_;refine ag h1 (Yg m μ who (3, 0, 0) 1 (by omega)) fun _ H2 h2 => ?_;exact ap ⟨(), rfl, h2.to⟩
theorem PE (s : Int) (hE : μ.N < 1099511627000) : Sp i3 [vp ib, vi who, vi s] (kS ib m nm c nx * bA m μ) (fun _ : Unit => vu (μ.V (9, s, 0))) (fun _ => kS ib m nm c nx * bA m (μ.acc who 1 (9, s, 0))) := by
 refine bp (sm _ _ _) fun R H h => ?_;unfold kS at h ⊢;refine bD ac ?_;refine aY h rfl ?_;refine ak h ac rfl ?_;refine ai (show (dd (.func (.func bB) #[vi 9] #[]) [vi s]).bind _ = _ from rfl) ?_;refine ag h (u5 9 s) fun _ H1 h1 => ?_;refine aG h1 h (by rfl) ?_;refine ag h1 (vZ m μ who (9, s, 0) (by omega)) fun _ H2 h2 => ?_;exact ap ⟨(), rfl, h2.to⟩
theorem JD (s : Int) (top obj : Nat) (ho : obj < 4294967296) (hE : μ.N < 1099511627000) : Sp iF [vp ib, vi who, vi s, vu top, vi obj] (kS ib m nm c nx * bA m μ) (fun _ : Unit => vb (decide (μ.V (9, s, 0) = top))) (fun _ => kS ib m nm c nx * bA m (μ.swp who (9, s, 0) top (obj + 1))) := by
 refine bp (rj _ _ _ _ _) fun R H h => ?_;unfold kS at h ⊢;refine bD ac ?_;refine aY h rfl ?_;refine ak h ac rfl ?_;refine ai (show (dd (.func (.func bB) #[vi 9] #[]) [vi s]).bind _ = _ from rfl) ?_;refine ag h (u5 9 s) fun _ H1 h1 => ?_;refine aG h1 h (by rfl) ?_;refine aa (dH (by omega) (by omega)) ?_;rw [show ((obj : Nat) : Int).toNat = obj from sj _];refine aa (eZ (b := 1) (by omega)) ?_;refine ag h1 (JQ m μ who (9, s, 0) top (obj + 1) (by omega)) fun _ H2 h2 => ?_;exact ap ⟨(), rfl, h2.to⟩
theorem JB (obj : Int) (next : Nat) (hE : μ.N < 1099511627000) : Sp iE [vp ib, vi who, vi obj, vu next] (kS ib m nm c nx * bA m μ) (fun _ : Unit => .tuple #[]) (fun _ => kS ib m nm c (fun k => if k = obj then some next else nx k) * bA m (μ.acc who 6 (14, obj, 0))) := by
 refine bp (ri _ _ _ _) fun R H h => ?_;unfold kS at h ⊢;refine bD ac ?_;refine aY h rfl ?_;refine ak h ac rfl ?_;refine ai (show (dd (.func (.func bB) #[vi 14] #[]) [vi obj]).bind _ = _ from rfl) ?_;refine ag h (u5 14 obj) fun _ H1 h1 => ?_;refine aG h1 h (by rfl) ?_;refine ag h1 ((qU m μ who (14, obj, 0) (by omega)).imp fun _ R H h => i1 (N' := μ.N + 2) (by simp) h) fun _ H2 h2 => ?_;refine ak h2 ac rfl ?_;refine Vg (ek := Is) obj (vu next) h2 fun H3 h3 => ?_;refine ap ⟨(), rfl, ?_⟩
 have e : (fun k => ((if k = obj then some next else nx k) : Option Nat).map fun n => vu n) = fun x => if x = obj then some (vu next) else (nx x).map fun n => vu n := by
  funext k
  split <;> rfl
 rw [e];exact h3.to
end
section
variable (ib m : Nat) (sh : Int) (nx : Int → Option Nat) (L : Nat) (μ : Mu) (who : Int)
theorem FS (hE : μ.N < 1099511627000) : Sp i8 [vp ib, vi who] (iC ib m sh nx L * bN m μ) (fun _ : Unit => .tuple #[]) (fun _ => iC ib m sh nx L * bN m (μ.cnt who (3, 0, 0) 4294967296)) := by
 refine aM fun R H h => ?_;obtain ⟨kv, nv, ns, hn, h0⟩ := nl (ib := ib) (m := m) (sh := sh) (nx := nx) (L := L) (R := bN m μ * R) (H := H) h.to;refine bj (fun r => sO _ _ H) ?_;refine bD ac ?_;refine aY h0 rfl ?_;refine ag h0 (dZ 3 0 0) fun _ H1 h1 => ?_;refine aG h1 h0 (by rfl) ?_;refine ag h1 (MZ m μ who (3, 0, 0) 4294967296 (by omega)) fun _ H2 h2 => ?_;have h3 := iD (ib := ib) (m := m) (sh := sh) (nx := nx) (L := L) (kv := kv) (nv := nv) (ns := ns) (R := bN m (μ.cnt who (3, 0, 0) 4294967296) * R) (H := H2) hn h2.to;exact ap ⟨(), rfl, h3.to⟩
theorem BI (hE : μ.N < 1099511627000) : Sp io [vp ib, vi who] (iC ib m sh nx L * bN m μ) (fun _ : Unit => .tuple #[]) (fun _ => iC ib m sh nx L * bN m (μ.cnt who (3, 0, 0) 1)) := by
 refine aM fun R H h => ?_;obtain ⟨kv, nv, ns, hn, h0⟩ := nl (ib := ib) (m := m) (sh := sh) (nx := nx) (L := L) (R := bN m μ * R) (H := H) h.to;refine bj (fun r => wa _ _ H) ?_;refine bD ac ?_;refine aY h0 rfl ?_;refine ag h0 (dZ 3 0 0) fun _ H1 h1 => ?_;refine aG h1 h0 (by rfl) ?_;refine ag h1 (MZ m μ who (3, 0, 0) 1 (by omega)) fun _ H2 h2 => ?_;have h3 := iD (ib := ib) (m := m) (sh := sh) (nx := nx) (L := L) (kv := kv) (nv := nv) (ns := ns) (R := bN m (μ.cnt who (3, 0, 0) 1) * R) (H := H2) hn h2.to;exact ap ⟨(), rfl, h3.to⟩
theorem KN (s : Int) (hE : μ.N < 1099511627000) : Sp ky [vp ib, vi who, vi s] (iC ib m sh nx L * bN m μ) (fun _ : Unit => vu (μ.V (9, s, 0))) (fun _ => iC ib m sh nx L * bN m (μ.acc who 1 (9, s, 0))) := by
 refine aM fun R H h => ?_;obtain ⟨kv, nv, ns, hn, h0⟩ := nl (ib := ib) (m := m) (sh := sh) (nx := nx) (L := L) (R := bN m μ * R) (H := H) h.to;refine bj (fun r => wb _ _ _ H) ?_;refine bD ac ?_;refine aY h0 rfl ?_;refine ag h0 (dZ 9 s 0) fun _ H1 h1 => ?_;refine aG h1 h0 (by rfl) ?_;refine ag h1 (qi m μ who (9, s, 0) (by omega)) fun _ H2 h2 => ?_;have h3 := iD (ib := ib) (m := m) (sh := sh) (nx := nx) (L := L) (kv := kv) (nv := nv) (ns := ns) (R := bN m (μ.acc who 1 (9, s, 0)) * R) (H := H2) hn h2.to;exact ap ⟨(), rfl, h3.to⟩
theorem Io (s : Int) (top obj : Nat) (ho : obj < 4294967296) (hE : μ.N < 1099511627000) : Sp jK [vp ib, vi who, vi s, vu top, vi obj] (iC ib m sh nx L * bN m μ) (fun _ : Unit => vb (decide (μ.V (9, s, 0) = top))) (fun _ => iC ib m sh nx L * bN m (μ.swp who (9, s, 0) top (obj + 1))) := by
 refine aM fun R H h => ?_;obtain ⟨kv, nv, ns, hn, h0⟩ := nl (ib := ib) (m := m) (sh := sh) (nx := nx) (L := L) (R := bN m μ * R) (H := H) h.to;refine bj (fun r => uH _ _ _ _ _ H) ?_;refine bD ac ?_;refine aY h0 rfl ?_;refine ag h0 (dZ 9 s 0) fun _ H1 h1 => ?_;refine aG h1 h0 (by rfl) ?_;refine aa (dH (by omega) (by omega)) ?_;rw [show ((obj : Nat) : Int).toNat = obj from sj _];refine aa (eZ (b := 1) (by omega)) ?_;refine ag h1 (AU m μ who (9, s, 0) top (obj + 1) (by omega)) fun _ H2 h2 => ?_;have h3 := iD (ib := ib) (m := m) (sh := sh) (nx := nx) (L := L) (kv := kv) (nv := nv) (ns := ns) (R := bN m (μ.swp who (9, s, 0) top (obj + 1)) * R) (H := H2) hn h2.to;exact ap ⟨(), rfl, h3.to⟩
end
theorem Nt (a : Int) {n : Int} (h : 1 ≤ n) : -n < a.tmod n ∧ a.tmod n < n := by
 have e := Int.natAbs_tmod a n;have : a.natAbs % n.natAbs < n.natAbs := Nat.mod_lt _ (by omega);omega
section
variable (t m p e : Nat) (σ : aL)
theorem xf (sh sl : Nat) (hs : 1 ≤ sh ∧ sh ≤ 4) (flow : Int) : Sp eS [vp t, vi flow] (tab t m sh sl) (fun _ : Unit => vi ((flow.tmod sh + sh).tmod sh)) (fun _ => tab t m sh sl) := by
 refine bp (qt _ _) fun R H h => ?_;unfold tab at h ⊢;have q := Nt flow (n := sh) (by omega);refine ak h ac rfl ?_;refine aa (wA (by omega)) ?_;refine ak h ac rfl ?_;refine aa (bu (by omega) (by omega)) ?_;refine ak h ac rfl ?_;refine aa (wA (by omega)) ?_;exact ap ⟨(), rfl, h⟩
theorem WZ (μ : Mu) : Sp jV [vp m] (bA m μ) (fun _ : Unit => vi μ.E.length) (fun _ => bA m μ) := by
 refine aM fun R H h => ?_;obtain ⟨⟨c, l, al, es, ck⟩, h1⟩ := ae.ex.1 h;rw [aj, ae.pu] at h1;obtain ⟨hp, h1⟩ := h1;dsimp only at h1;have h2 : ae (blk m (.cells false [.map (some c), l]) * (blk c (.map es ck) * ts 5 Ev.cells l μ.E) * R) H := h1;refine bj (fun r => AB _ H) ?_;refine ak h2 ac rfl ?_;refine qz (s := l) (l := μ.E) h2 ?_;exact ap ⟨(), rfl, h⟩
theorem tG (r : Value) (x : Int) : Sp lk [r, vi x] emp (fun _ : Unit => .tuple #[.agg (dX x).toArray, vb true]) (fun _ => emp) := by
 refine bp (IQ _ _) fun R H h => ?_;refine bm h fun b H1 h1 => ?_;refine iU ?_;refine eG h1 rfl rfl fun H2 h2 => ?_;refine aV h2 ?_;exact ap ⟨(), rfl, h2.to⟩
def dM (x : Cl) : Option Int := if x.a < 1 ∨ 65536 < x.a then some 3 else if x.flow < 0 ∨ 1048576 < x.flow then some 5 else none
end
structure Tk where
 who : Int
 x : Cl
 s : Int
 at' : Nat
 i : Nat
 obj : Nat
 found : Bool
 w : Nat
 q : Nat
 mark : Int
 top : Nat
 code : Int
abbrev aL.mem (σ : aL) (μ : Mu) : aL := { σ with μ := μ }
def fe (v : Nat) (flow : Int) : Bool := decide (v ≠ 0 ∧ ((v / 4294967296 : Nat) : Int) - 1 = flow)
def aP (σ : aL) (t : Tk) : Tk :=
 let v := σ.μ.V (10, t.s, (t.i : Int))
 { t with i := t.i + 1, found := fe v t.x.flow, obj := if fe v t.x.flow = true then v % 4294967296 else t.obj }
abbrev aS (σ : aL) (t : Tk) : aL := σ.mem (σ.μ.acc t.who 1 (10, t.s, (t.i : Int)))
def bQ (σ : aL) (t : Tk) : Bool := decide (σ.c.sl ≤ (t.i : Int))
def au (σ : aL) (o : Nat) : List Pk := ((σ.obs[o]?).map (·.2)).getD []
def nz (σ : aL) (t : Tk) : aL :=
 let n := (au σ t.obj).length
 let k := aI t.w % n
 { σ with μ := σ.μ.acc t.who 6 (16, (t.obj : Int), (k : Int)), obs := σ.obs.modify t.obj fun p => (p.1, p.2.set k ⟨t.x.flow, t.x.a, t.x.b⟩) }
abbrev qq (σ : aL) (t : Tk) : aL :=
 let n := (au σ t.obj).length
 let k := aI t.w % n
 σ.mem ((σ.μ.acc t.who 2 (15, (t.obj : Int), (k : Int))).put (15, (t.obj : Int), (k : Int)) (aI t.w + 1))
abbrev da (σ : aL) (t : Tk) : aL := σ.mem (σ.μ.acc t.who 1 (11, (t.obj : Int), 0))
abbrev iZ (σ : aL) (t : Tk) : aL := σ.mem (σ.μ.acc t.who 1 (12, (t.obj : Int), 0))
def jw (σ : aL) (t : Tk) : Bool := ie t.w (σ.μ.V (12, (t.obj : Int), 0)) (au σ t.obj).length
abbrev d9 (σ : aL) (t : Tk) : aL := σ.mem (σ.μ.acc t.who 1 (2, 0, 0))
def ah (σ : aL) (t : Tk) (now : Int) : aL × Tk × Bool :=
 let scan (σ : aL) (t : Tk) : aL × Tk × Bool :=
  let t1 := aP σ t
  (aS σ t, { t1 with at' := if t1.found = true then 6 else if bQ σ t1 = true then 3 else 2 }, false)
 match t.at' with
 | 0 => match dM t.x with
  | some e => (σ.note now t.who e, { t with code := e }, true)
  | none => scan σ t
 | 2 => scan σ t
 | 3 => let l : cE := (8, t.s, 0)
  (σ.mem (σ.μ.swp t.who l 0 1), (if σ.μ.V l = 0 then { t with at' := 4, i := 0 } else t), false)
 | 4 => let t1 := aP σ t
  if t1.found = true then (aS σ t, { t1 with at' := 5 }, false)
  else if bQ σ t1 = true then ((aS σ t).note now t.who 5, { t1 with at' := 5, code := 5 }, false)
  else (aS σ t, t1, false)
 | 5 => let l : cE := (8, t.s, 0)
  (σ.mem ((σ.μ.acc t.who 2 l).put l 0), { t with at' := 6 }, !t.found)
 | 6 => (σ.mem (σ.μ.acc t.who 5 (13, (t.obj : Int), 0)), { t with at' := 7 }, false)
 | 7 => let w := σ.μ.V (11, (t.obj : Int), 0)
  (da σ t, { t with w := w, at' := if aR w = 2 then 3 else 8 }, false)
 | 8 => (iZ σ t, { t with at' := if jw σ t = true then 15 else if aR t.w = 1 then 9 else 12 }, false)
 | 9 => let o := aQ t.w 0
  let σ1 := σ.mem (σ.μ.turn t.who t.obj t.w o)
  if dY σ.μ t.obj t.w o = true then (σ1.note now t.who 0, { t with at' := 10, code := 0 }, false) else (σ1, { t with at' := 7 }, false)
 | 10 => (nz σ t, { t with at' := 11 }, false)
 | 11 => (qq σ t, t, true)
 | 12 => (σ.mem (σ.μ.cnt t.who (3, 0, 0) 4294967296), { t with at' := 13 }, false)
 | 13 => let o := aQ t.w 0
  let σ1 := σ.mem (σ.μ.turn t.who t.obj t.w o)
  if dY σ.μ t.obj t.w o = true then (σ1.note now t.who 0, { t with at' := 14, code := 0 }, false) else (σ1, { t with at' := 20 }, false)
 | 14 => (nz σ t, { t with at' := 21 }, false)
 | 15 => let q := σ.μ.V (2, 0, 0)
  (d9 σ t, { t with q := q, at' := if q % 2 = 1 then 7 else 16 }, false)
 | 16 => let w := σ.μ.V (11, (t.obj : Int), 0)
  (da σ t, { t with w := w, at' := if aR w = 2 then 3 else 17 }, false)
 | 17 => (iZ σ t, (if jw σ t = true then { t with at' := 18, mark := now } else { t with at' := 7 }), false)
 | 18 => if σ.μ.V (2, 0, 0) = t.q then ((d9 σ t).note t.mark t.who 9, { t with code := 9 }, true) else (d9 σ t, { t with at' := 7 }, false)
 | 20 => (σ.mem (σ.μ.cnt t.who (3, 0, 0) 1), { t with at' := 7 }, false)
 | 21 => (qq σ t, { t with at' := 22 }, false)
 | 22 => (σ.mem (σ.μ.acc t.who 1 (9, t.s, 0)), { t with top := σ.μ.V (9, t.s, 0), at' := 23 }, false)
 | 23 => ({ σ with μ := σ.μ.acc t.who 6 (14, (t.obj : Int), 0), nx := fun k => if k = (t.obj : Int) then some t.top else σ.nx k }, { t with at' := 24 }, false)
 | 24 => let l : cE := (9, t.s, 0)
  (σ.mem (σ.μ.swp t.who l t.top (t.obj + 1)), { t with at' := if σ.μ.V l = t.top then 25 else 22 }, false)
 | _ => (σ.mem (σ.μ.cnt t.who (3, 0, 0) 1), t, true)
def bf (p : Nat) (rp : List Nat) (σ : aL) : SP := ex fun g : PIds => pu (g.rp = rp ∧ rp.length = σ.obs.length) * aC p g σ
theorem eE {p : Nat} {rp : List Nat} {σ : aL} {R : SP} {H : AH} (h : ae (bf p rp σ * R) H) : ∃ g : PIds, g.rp = rp ∧ rp.length = σ.obs.length ∧ ae (aC p g σ * R) H := by
 obtain ⟨g, h1⟩ := ae.ex.1 h;rw [aj, ae.pu] at h1;exact ⟨g, h1.1.1, h1.1.2, h1.2⟩
theorem bJ {p : Nat} {rp : List Nat} {σ : aL} {R : SP} {H : AH} (g : PIds) (h1 : g.rp = rp) (h2 : rp.length = σ.obs.length) (h : ae (aC p g σ * R) H) : ae (bf p rp σ * R) H :=
 ae.ex.2 ⟨g, by rw [aj]; exact ae.pu.2 ⟨⟨h1, h2⟩, h⟩⟩
theorem TY {p : Nat} {σ : aL} {R : SP} {H : AH} (h : ae (f5 p σ * R) H) : ∃ rp, ae (bf p rp σ * R) H := by
 obtain ⟨g, hg, h1⟩ := mE h;exact ⟨g.rp, bJ g rfl hg h1⟩
theorem FA (m : Nat) : ∀ {ps : List (Nat × List Pk)} {i j : Nat} (h : i < ps.length), ∃ R, mf m j ps = cB m (j + i) (ps[i]).1 (ps[i]).2 * R ∧ ∀ q : Nat × List Pk, mf m j (ps.set i q) = cB m (j + i) q.1 q.2 * R := by
 intro ps
 induction ps with
 | nil => intro i j h; simp at h
 | cons p ps ih =>
  intro i j h
  cases i with
  | zero => exact ⟨mf m (j + 1) ps, rfl, fun q => rfl⟩
  | succ i =>
   obtain ⟨R, e1, e2⟩ := ih (i := i) (j := j + 1) (by simpa using h);refine ⟨cB m j p.1 p.2 * R, ?_, fun q => ?_⟩
   ·show cB m j p.1 p.2 * mf m (j + 1) ps = _
    rw [e1, cI, show j + 1 + i = j + (i + 1) from by omega]; rfl
   ·show cB m j p.1 p.2 * mf m (j + 1) (ps.set i q) = _
    rw [e2, cI, show j + 1 + i = j + (i + 1) from by omega]
theorem FB (m : Nat) : ∀ {ps : List (Nat × List Pk)} {i j : Nat} (h : i < ps.length), ∃ R, jk m j ps = de m (j + i) (ps[i]).1 (ps[i]).2 * R ∧ ∀ q : Nat × List Pk, jk m j (ps.set i q) = de m (j + i) q.1 q.2 * R := by
 intro ps
 induction ps with
 | nil => intro i j h; simp at h
 | cons p ps ih =>
  intro i j h
  cases i with
  | zero => exact ⟨jk m (j + 1) ps, rfl, fun q => rfl⟩
  | succ i =>
   obtain ⟨R, e1, e2⟩ := ih (i := i) (j := j + 1) (by simpa using h);refine ⟨de m j p.1 p.2 * R, ?_, fun q => ?_⟩
   ·show de m j p.1 p.2 * jk m (j + 1) ps = _
    rw [e1, cI, show j + 1 + i = j + (i + 1) from by omega]; rfl
   ·show de m j p.1 p.2 * jk m (j + 1) (ps.set i q) = _
    rw [e2, cI, show j + 1 + i = j + (i + 1) from by omega]
def VF (ns : List (Int × Nat)) (obj : Int) : Int := match ns.findIdx? fun p => p.1 == obj with
 | some i => i
 | none => -1
theorem Ge {ns : List (Int × Nat)} {obj : Int} {i : Nat} (h : ∀ j, j < i → ∀ p, ns[j]? = some p → p.1 ≠ obj) :
 (∀ (hi : i < ns.length), ns[i].1 = obj → VF ns obj = i) ∧ (ns.length ≤ i → VF ns obj = -1) := by
 constructor
 ·intro hi e
  unfold VF
  have : ns.findIdx? (fun p => p.1 == obj) = some i := by
   rw [List.findIdx?_eq_some_iff_getElem];refine ⟨hi, by simpa using e, fun j hj => ?_⟩;have := h j hj ns[j] (by rw [cM])
   simpa using this
  rw [this]
 ·intro hi
  unfold VF
  have : ns.findIdx? (fun p => p.1 == obj) = none := by
   rw [List.findIdx?_eq_none_iff];intro p hp;obtain ⟨j, hj, rfl⟩ := List.getElem_of_mem hp;have := h j (by omega) ns[j] (by rw [cM])
   simpa using this
  rw [this]
theorem QN (ib m : Nat) (sh : Int) (kv nv : Value) (ns : List (Int × Nat)) (hn : ns.length < 1000000) (obj : Int) :
 Sp lT [vp ib, vi obj] (blk ib (.cells false [vp m, vi sh, kv, nv]) * ts 1 kR kv (ns.map (·.1))) (fun _ : Unit => vi (VF ns obj)) (fun _ => blk ib (.cells false [vp m, vi sh, kv, nv]) * ts 1 kR kv (ns.map (·.1))) := by
 refine bp (ya _ _) fun R H h => ?_;refine ai (sP _ _ _ H) ?_;refine ai (sR _ _ _ _ H) ?_;have loop : ∀ (d i : Nat), i + d = ns.length → (∀ j, j < i → ∀ p, ns[j]? = some p → p.1 ≠ obj) →
  wp (ix (vp ib) (vi obj) (vi 0) (vi i) H) fun v' H' => ∃ x : Unit, v' = vi (VF ns obj) ∧ ae (blk ib (.cells false [vp m, vi sh, kv, nv]) * ts 1 kR kv (ns.map (·.1)) * R) H' := by
  intro d
  induction d with
  | zero =>
   intro i hi hj;refine ai (l5 _ _ _ _ H) ?_;refine ak h ac rfl ?_;refine qz (s := kv) h ?_;rw [ui];refine aa (db (by omega)) ?_;refine gs ?_;refine ai (qd _ H) ?_;refine ai (sQ _ H) ?_;exact ap ⟨(), by rw [(Ge hj).2 (by omega)], h⟩
  | succ d ih =>
   intro i hi hj
   have hil : i < ns.length := by omega
   refine ai (l5 _ _ _ _ H) ?_;refine ak h ac rfl ?_;refine qz (s := kv) h ?_;rw [ui];refine aa (eO (by omega)) ?_;refine gs ?_;refine ai (sS _ _ _ _ H) ?_;refine ak h ac rfl ?_;refine FM (s := kv) (enc := kR) (l := ns.map fun p : Int × Nat => p.1) (v := vi ns[i].1) h (i := i) (by simpa using hil) (by simp [kR]) ?_
   by_cases e : ns[i].1 = obj
   ·refine aa (bw e) ?_
    refine gs ?_;exact ap ⟨(), by rw [(Ge hj).1 hil e], h⟩
   ·refine aa (aD e) ?_
    refine gs ?_;refine ai (sT _ _ _ _ H) ?_;refine aa (bu (by omega) (by omega)) ?_;refine ih (i + 1) (by omega) fun j hj2 p hp => ?_
    rcases Nat.lt_succ_iff_lt_or_eq.1 hj2 with h1 | rfl
    ·exact hj j h1 p hp
    ·rw [cM hil] at hp
     obtain rfl := hF hp;exact e
 exact loop ns.length 0 (by omega) (fun j hj => by omega)
theorem Rc {ns : List (Int × Nat)} {obj : Int} (h : ns.findIdx? (fun p => p.1 == obj) = none) : VF ns obj = -1 := by unfold VF; rw [h]
theorem Re {ns : List (Int × Nat)} {obj : Int} {i : Nat} (h : ns.findIdx? (fun p => p.1 == obj) = some i) : VF ns obj = i := by unfold VF; rw [h]
theorem PM {ns : List (Int × Nat)} {obj : Int} (h : ns.findIdx? (fun p => p.1 == obj) = none) (n : Nat) (k : Int) : B3 (ns ++ [(obj, n)]) k = if k = obj then some n else B3 ns k := by
 have hn : ns.find? (fun p => p.1 == obj) = none := by
  rw [List.find?_eq_none];rw [List.findIdx?_eq_none_iff] at h;intro p hp;have := h p hp
  simpa using this
 unfold B3;rw [List.find?_append]
 by_cases e : k = obj
 ·subst e
  rw [hn, if_pos rfl];simp
 ·rw [if_neg e]
  have : ([(obj, n)] : List (Int × Nat)).find? (fun p => p.1 == k) = none := by
   rw [List.find?_eq_none];intro p hp
   obtain rfl : p = (obj, n) := by simpa using hp
   simpa using fun q => e q.symm
  rw [this]
  cases ns.find? (fun p => p.1 == k) <;> rfl
theorem TM (obj : Int) (n : Nat) (k : Int) : ∀ {ns : List (Int × Nat)} {i : Nat}, ns.findIdx? (fun p => p.1 == obj) = some i → B3 (ns.set i (obj, n)) k = if k = obj then some n else B3 ns k := by
 intro ns
 induction ns with
 | nil => intro i h; simp at h
 | cons p ns ih =>
  intro i h;rw [List.findIdx?_cons] at h
  by_cases e : p.1 = obj
  ·rw [if_pos (by simpa using e)] at h
   obtain rfl := hF h;simp only [List.set_cons_zero, B3, List.find?_cons]
   by_cases e2 : k = obj
   ·subst e2; simp
   ·have h1 : ((obj == k) : Bool) = false := by simpa using fun q => e2 q.symm
    have h2 : ((p.1 == k) : Bool) = false := by rw [e]; exact h1
    simp [h1, h2, e2]
  ·rw [if_neg (by simpa using e)] at h
   obtain ⟨j, hj, rfl⟩ := be.1 h;have := ih hj;simp only [List.set_cons_succ, B3, List.find?_cons] at this ⊢
   by_cases e2 : p.1 = k
   ·have h1 : ((p.1 == k) : Bool) = true := by simpa using e2
    simp only [h1];rw [if_neg (fun q => e (e2.trans q))]
   ·have h1 : ((p.1 == k) : Bool) = false := by simpa using e2
    simp only [h1];exact this
theorem In (ib m : Nat) (sh : Int) (nx : Int → Option Nat) (L : Nat) (μ : Mu) (who obj : Int) (next : Nat) (hL : L < 900000) (hE : μ.N < 1099511627000) :
 Sp jJ [vp ib, vi who, vi obj, vu next] (iC ib m sh nx L * bN m μ) (fun _ : Unit => .tuple #[]) (fun _ => iC ib m sh (fun k => if k = obj then some next else nx k) (L + 1) * bN m (μ.acc who 6 (14, obj, 0))) := by
 refine aM fun R H h => ?_;obtain ⟨kv, nv, ns, ⟨hn, hl⟩, h0⟩ := nl (ib := ib) (m := m) (sh := sh) (nx := nx) (L := L) (R := bN m μ * R) (H := H) h.to;refine bj (fun r => uG _ _ _ _ H) ?_;refine bD ac ?_;refine aY h0 rfl ?_;refine ag h0 (dZ 14 obj 0) fun _ H1 h1 => ?_;refine aG h1 h0 (by rfl) ?_;refine ag h1 ((QO m μ who 6 (14, obj, 0) (by omega)).imp fun _ R H h => uk (N' := μ.N + 2) (by simp) h) fun _ H2 h2 => ?_;refine ag h2 (QN ib m sh kv nv ns (by omega) obj) fun _ H3 h3 => ?_
 cases hf : ns.findIdx? (fun p => p.1 == obj) with
 | none =>
  rw [Rc hf];refine aa (eO (by omega)) ?_;refine gs ?_;refine ak h3 ac rfl ?_;refine Nu h3 fun b0 H4 h4 => ?_;refine jp (s := kv) (l := ns.map fun p : Int × Nat => p.1) (obj : Int) h4 rfl ?_ (by omega) fun a c H5 h5 => ?_
  ·unfold dt; simp only [ui]; omega
  refine bD ac ?_;refine aY h5 rfl ?_;refine aG h4 h5 (by rfl) ?_;refine Nu h5 fun b1 H6 h6 => ?_;refine jp (s := nv) (l := ns.map fun p : Int × Nat => p.2) (next : Nat) h6 rfl ?_ (by omega) fun a2 c2 H7 h7 => ?_
  ·unfold dt; simp only [ui]; omega
  refine bv h7 ac rfl rfl fun H8 h8 => ?_;refine bv h8 ac rfl rfl fun H9 h9 => ?_
  have e1 : (ns ++ [(obj, next)]).map (fun p : Int × Nat => p.1) = (ns.map fun p : Int × Nat => p.1) ++ [obj] := by rw [EV]; rfl
  have e2 : (ns ++ [(obj, next)]).map (fun p : Int × Nat => p.2) = (ns.map fun p : Int × Nat => p.2) ++ [next] := by rw [EV]; rfl
  refine ap ⟨(), rfl, ?_⟩;have h10 := iD (ib := ib) (m := m) (sh := sh) (nx := fun k => if k = obj then some next else nx k) (L := L + 1) (kv := .slice a ((ns.map fun p : Int × Nat => p.1).length + 1) c) (nv := .slice a2 ((ns.map fun p : Int × Nat => p.2).length + 1) c2) (ns := ns ++ [(obj, next)])
   (R := bN m (μ.acc who 6 (14, obj, 0)) * R) (H := H9) ⟨fun k => by rw [PM hf, hn], by simp; omega⟩ (by rw [e1, e2]; exact h9.to)
  exact h10.to
 | some i =>
  rw [Re hf];have hi := (List.findIdx?_eq_some_iff_getElem.1 hf);obtain ⟨hil, hk, _⟩ := hi;refine aa (db (by omega)) ?_;refine gs ?_;refine ak h3 ac rfl ?_;refine NC (s := nv) (l := ns.map fun p : Int × Nat => p.2) (i := i) (next : Nat) h3 (by simpa using hil) (.inl ⟨rfl, rfl⟩) rfl (by omega) rfl (by simp [I1, splice]) fun H4 h4 => ?_
  have e1 : (ns.set i (obj, next)).map (fun p : Int × Nat => p.1) = ns.map fun p : Int × Nat => p.1 := by
   rw [List.map_set];apply List.ext_getElem?;intro j;rw [List.getElem?_set]
   split
   ·rename_i e
    subst e
    have hk : ns[i].1 = obj := by simpa using hk
    simp [hil, hk]
   ·rfl
  have e2 : (ns.set i (obj, next)).map (fun p : Int × Nat => p.2) = (ns.map fun p : Int × Nat => p.2).set i next := by rw [List.map_set]
  refine ap ⟨(), rfl, ?_⟩;have h10 := iD (ib := ib) (m := m) (sh := sh) (nx := fun k => if k = obj then some next else nx k) (L := L + 1) (kv := kv) (nv := nv) (ns := ns.set i (obj, next))
   (R := bN m (μ.acc who 6 (14, obj, 0)) * R) (H := H4) ⟨fun k => by rw [TM obj next k hf, hn], by rw [JE]; omega⟩ (by rw [e1, e2]; exact h4.to)
  exact h10.to
theorem tC {σ : aL} {o : Nat} (ho : o < σ.obs.length) : au σ o = (σ.obs[o]).2 := by
 unfold au;rw [cM ho]; rfl
theorem w4 (p : Nat) (g : PIds) (σ : aL) (o b : Nat) (hl : g.rp.length = σ.obs.length) (ho : o < σ.obs.length) (hb : g.rp[o]? = some b) :
 ∃ R, aC p g σ = cB g.m o b (au σ o) * bA g.m σ.μ * R ∧ ∀ μ' cs', aC p g { σ with μ := μ', obs := σ.obs.modify o fun q => (q.1, cs') } = cB g.m o b cs' * bA g.m μ' * R := by
 have hz : o < (g.rp.zip (σ.obs.map fun x => x.2)).length := by simp; omega
 obtain ⟨R, e1, e2⟩ := FA g.m (ps := g.rp.zip (σ.obs.map fun x => x.2)) (j := 0) hz
 have hrp : g.rp[o]'(by omega) = b := by
  rw [cM (by omega)] at hb;exact hF hb
 have e3 : (g.rp.zip (σ.obs.map fun x => x.2))[o] = (b, au σ o) := by
  rw [List.getElem_zip, tC ho, List.getElem_map, hrp]
 rw [e3] at e1;rw [Nat.zero_add] at e1 e2
 refine ⟨blk p (.cells false [vp g.m, vp g.ib, vp g.tb, vp g.po, vp g.co, vi σ.c.sh, vi σ.c.sl, vi σ.c.wk, vi σ.c.wd, vu σ.c.un, g.ov, .map (some g.pm), g.pv]) * (kS g.ib g.m g.nm σ.c σ.nx * (tab g.tb g.m σ.c.sh.toNat σ.c.sl.toNat * (ts 4 DQ g.ov ((σ.obs.map fun x => x.1).zip g.rp) * (R *
  (QT Is g.pm (fun k => (σ.places k).map fun n => vi n) * ts 7 Pt.cells g.pv σ.pts))))), ?_, fun μ' cs' => ?_⟩
 ·unfold aC
  rw [e1]
  ac_rfl
 ·unfold aC
  dsimp only
  have e4 : (σ.obs.modify o fun q => (q.1, cs')).map (fun x => x.1) = σ.obs.map fun x => x.1 := by
   apply List.ext_getElem?;intro j;simp only [Au, List.getElem?_modify]
   cases σ.obs[j]? with
   | none => rfl
   | some q => simp only [eR]; split <;> rfl
  have e5 : g.rp.zip ((σ.obs.modify o fun q => (q.1, cs')).map fun x => x.2) = (g.rp.zip (σ.obs.map fun x => x.2)).set o (b, cs') := by
   apply List.ext_getElem?;intro j;rw [List.getElem?_set]
   by_cases hj : o = j
   ·subst hj
    rw [if_pos rfl, if_pos hz];exact List.getElem?_zip_eq_some.2 ⟨hb, by simp [List.getElem?_modify, cM ho]⟩
   ·rw [if_neg hj]
    have : (List.map (fun x => x.2) (σ.obs.modify o fun q => (q.1, cs')))[j]? = (σ.obs.map fun x => x.2)[j]? := by
     simp only [Au, List.getElem?_modify]
     cases σ.obs[j]? with
     | none => rfl
     | some q => show some (if o = j then (q.1, cs') else q).2 = some q.2; rw [if_neg hj]
    simp only [List.zip, List.getElem?_zipWith, this]
  rw [e4, e5, e2]
  ac_rfl
theorem Hj {σ : aL} {o : Nat} (ho : o < σ.obs.length) : (σ.obs.modify o fun q => (q.1, au σ o)) = σ.obs := by
 apply List.ext_getElem?;intro j;rw [List.getElem?_modify]
 cases hj : σ.obs[j]? with
 | none => rfl
 | some q =>
  show some (if o = j then _ else _) = some q
  by_cases e : o = j
  ·subst e
   rw [if_pos rfl];unfold au;rw [hj]; rfl
  ·rw [if_neg e]
section
variable {f : Nat} {args : List Value} {v : Unit → Value} {p : Nat} {g : PIds} {σ : aL} {o b : Nat}
theorem QW {μ' : Mu} {cs' : List Pk} (hl : g.rp.length = σ.obs.length) (ho : o < σ.obs.length) (hb : g.rp[o]? = some b)
 (s : Sp f args (cB g.m o b (au σ o) * bA g.m σ.μ) v (fun _ => cB g.m o b cs' * bA g.m μ')) :
 Sp f args (aC p g σ) v (fun _ => aC p g { σ with μ := μ', obs := σ.obs.modify o fun q => (q.1, cs') }) := by
 obtain ⟨R', e1, e2⟩ := w4 p g σ o b hl ho hb;intro R H h;rw [e1, aj] at h;obtain ⟨x, H', h1, h2⟩ := s _ _ h;exact ⟨x, H', h1, by rw [e2, aj]; exact h2⟩
theorem gD {μ' : Mu} (hl : g.rp.length = σ.obs.length) (ho : o < σ.obs.length) (hb : g.rp[o]? = some b)
 (s : Sp f args (cB g.m o b (au σ o) * bA g.m σ.μ) v (fun _ => cB g.m o b (au σ o) * bA g.m μ')) :
 Sp f args (aC p g σ) v (fun _ => aC p g (σ.mem μ')) := by
 have := QW (p := p) hl ho hb s;rw [Hj ho] at this;exact this
theorem KT (hl : g.rp.length = σ.obs.length) (ho : o < σ.obs.length) (hb : g.rp[o]? = some b)
 (s : Sp f args (cB g.m o b (au σ o)) v (fun _ => cB g.m o b (au σ o))) :
 Sp f args (aC p g σ) v (fun _ => aC p g σ) := by
 obtain ⟨R', e1, _⟩ := w4 p g σ o b hl ho hb;intro R H h;rw [e1, aj, aj] at h;obtain ⟨x, H', h1, h2⟩ := s _ _ h;exact ⟨x, H', h1, by rw [e1, aj, aj]; exact h2⟩
theorem tq {μ' : Mu} (s : Sp f args (tab g.tb g.m σ.c.sh.toNat σ.c.sl.toNat * bA g.m σ.μ) v (fun _ => tab g.tb g.m σ.c.sh.toNat σ.c.sl.toNat * bA g.m μ')) :
 Sp f args (aC p g σ) v (fun _ => aC p g (σ.mem μ')) := by
 intro R H h;unfold aC at h;obtain ⟨x, H', h1, h2⟩ := s _ H (ae.fr (A := tab g.tb g.m σ.c.sh.toNat σ.c.sl.toNat * bA g.m σ.μ) h);refine ⟨x, H', h1, ?_⟩;unfold aC;exact h2.to
theorem DC (s : Sp f args (tab g.tb g.m σ.c.sh.toNat σ.c.sl.toNat) v (fun _ => tab g.tb g.m σ.c.sh.toNat σ.c.sl.toNat)) :
 Sp f args (aC p g σ) v (fun _ => aC p g σ) := by
 intro R H h;unfold aC at h;obtain ⟨x, H', h1, h2⟩ := s _ H (ae.fr (A := tab g.tb g.m σ.c.sh.toNat σ.c.sl.toNat) h);refine ⟨x, H', h1, ?_⟩;unfold aC;exact h2.to
theorem QV {μ' : Mu} (s : Sp f args (bA g.m σ.μ) v (fun _ => bA g.m μ')) : Sp f args (aC p g σ) v (fun _ => aC p g (σ.mem μ')) := by
 intro R H h;unfold aC at h;obtain ⟨x, H', h1, h2⟩ := s _ H (ae.fr (A := bA g.m σ.μ) h);refine ⟨x, H', h1, ?_⟩;unfold aC;exact h2.to
theorem Ck {μ' : Mu} {nx' : Int → Option Nat} (s : Sp f args (kS g.ib g.m g.nm σ.c σ.nx * bA g.m σ.μ) v (fun _ => kS g.ib g.m g.nm σ.c nx' * bA g.m μ')) :
 Sp f args (aC p g σ) v (fun _ => aC p g { σ with μ := μ', nx := nx' }) := by
 intro R H h;unfold aC at h;obtain ⟨x, H', h1, h2⟩ := s _ H (ae.fr (A := kS g.ib g.m g.nm σ.c σ.nx * bA g.m σ.μ) h);refine ⟨x, H', h1, ?_⟩;unfold aC;exact h2.to
end
instance Zw (p : Nat) (g : PIds) (σ : aL) : Hs (aC p g σ) p (.cells false [vp g.m, vp g.ib, vp g.tb, vp g.po, vp g.co, vi σ.c.sh, vi σ.c.sl, vi σ.c.wk, vi σ.c.wd, vu σ.c.un, g.ov, .map (some g.pm), g.pv]) := ⟨by
 intro H h;unfold aC at h
 exact h.left.get⟩
theorem mg {P P0 R : SP} {H : AH} {b fn : Nat} {args : List Value} {c : Int} {d : Bool} {Q0 : Unit → SP} {Q : Value → AH → Prop} (h : ae P H)
 (s : Sp fn args P0 (fun _ : Unit => .tuple #[.agg (dX c).toArray, vb d]) Q0) [fr : Fr P (P0 * blk b (.cells false [vi 0, .slice none 0 0, vi 0, vw 0])) R]
 (hk : ∀ H', ae (Q0 () * R) H' → Q (.tuple #[.agg (dX c).toArray, vb d]) H') :
 wp ((FF fn args H).bind fun r2 => (af r2.1 0).bind fun v3 => (af r2.1 1).bind fun v4 => (cD 4 (vp b) v3 r2.2).bind fun H5 => (aA 4 (vp b) H5).bind fun v6 => some (Value.tuple #[v6, v4], H5)) Q := by
 have h0 : ae (P0 * (blk b (.cells false [vi 0, .slice none 0 0, vi 0, vw 0]) * R)) H := by
  have := ae.fr (A := P0 * blk b (.cells false [vi 0, .slice none 0 0, vi 0, vw 0])) h;rw [aj] at this;exact this
 refine ag h0 s fun _ H1 h1 => ?_;refine aa (v := .agg (dX c).toArray) rfl ?_;refine aa (v := vb d) rfl ?_;refine eG h1 rfl rfl fun H2 h2 => ?_;refine aV h2 ?_;exact ap (hk H2 h2.to)
abbrev eM (e n : Nat) : Value := .func (.func n) #[vp e] #[]
abbrev eB (e p : Nat) (nx rv : Value) (t : Tk) : SP :=
 blk e (.cells false [vp p, vi t.who, vi t.x.op, vi t.x.flow, vi t.x.a, vi t.x.b, vi t.s, nx, vi t.i, vi t.obj, vb t.found, rv, vu t.w, vu t.q, vi t.mark, vu t.top])
def xS : Nat → Nat
 | 0 => lQ | 2 => jG | 3 => di | 4 => en | 5 => ep | 6 => gJ | 7 => cj | 8 => ll
 | 9 => jF | 10 => nC | 11 => lq | 12 => jE | 13 => lr | 14 => lj | 15 => nD | 16 => fg
 | 17 => ff | 18 => fY | 20 => lh | 21 => jH | 22 => dK | 23 => lm | 24 => lp | _ => nB
def FC (rp : List Nat) (t : Tk) (v : Value) : Prop := 7 ≤ t.at' → ∃ b, rp[t.obj]? = some b ∧ v = vp b
def eP (e p : Nat) (rp : List Nat) (σ : aL) (t : Tk) : SP := ex fun v : Value => pu (FC rp t v) * (eB e p (eM e (xS t.at')) v t * bf p rp σ)
def eQ (e p : Nat) (rp : List Nat) (r : aL × Tk × Bool) : SP := if r.2.2 = true then bf p rp r.1 else eP e p rp r.1 r.2.1
abbrev b7 (r : aL × Tk × Bool) : Value := .tuple #[.agg (dX (if r.2.2 = true then r.2.1.code else 0)).toArray, vb r.2.2]
theorem Lk {e p : Nat} {rp : List Nat} {σ : aL} {t : Tk} {R : SP} {H : AH} (h : ae (eP e p rp σ t * R) H) : ∃ v, FC rp t v ∧ ae (eB e p (eM e (xS t.at')) v t * (bf p rp σ * R)) H := by
 obtain ⟨v, h1⟩ := ae.ex.1 h;rw [aj, ae.pu] at h1;exact ⟨v, h1.1, h1.2.to⟩
theorem GD {e p : Nat} {rp : List Nat} {σ : aL} {t : Tk} {R : SP} {H : AH} {v : Value} {n : Nat} (hv : FC rp t v) (hn : xS t.at' = n) (h : ae (eB e p (eM e n) v t * (bf p rp σ * R)) H) : ae (eP e p rp σ t * R) H := by
 subst hn;exact ae.ex.2 ⟨v, by rw [aj]; exact ae.pu.2 ⟨hv, h.to⟩⟩
section
variable (e p : Nat)
theorem YE (nx rv : Value) (n : Nat) (t : Tk) : Sp bF [vp e, eM e n] (eB e p nx rv t) (fun _ : Unit => .tuple #[.agg (dX 0).toArray, vb false]) (fun _ => eB e p (eM e n) rv t) := by
 refine bp (Ry _ _) fun R H h => ?_;refine bm h fun b H1 h1 => ?_;refine bv h1 ac rfl rfl fun H2 h2 => ?_;refine iU ?_;refine eG h2 rfl rfl fun H3 h3 => ?_;refine aV h3 ?_;exact ap ⟨(), rfl, h3.to⟩
theorem Yf (rp : List Nat) (σ : aL) (step who code : Int) (hp : σ.pts.length < 1000000) : Sp fH [vp p, vi step, vi who, .agg (dX code).toArray] (bf p rp σ) (fun _ : Unit => .tuple #[]) (fun _ => bf p rp (σ.note step who code)) := by
 refine aM fun R H h => ?_;obtain ⟨g, hrp, hg, h0⟩ := eE h;unfold aC at h0;refine bj (fun r => rt _ _ _ _ H) ?_;refine bg h0 fun b1 H1 h1 => ?_;refine bD ac ?_;refine aY h1 rfl ?_;refine bD ac ?_;refine aY h1 rfl ?_;refine NA (ek := Is) who h1 ?_;refine aV h1 ?_;refine ag h1 (B5 code) fun _ H2 h2 => ?_;refine aG h2 h1 rfl ?_;refine aG h2 h1 rfl ?_;refine Vf who h2 h1 ?_
 have ev : (((σ.places who).map fun n => vi n).getD (vi 0)) = vi ((σ.places who).getD 0) := by cases σ.places who <;> rfl
 rw [ev];refine iU ?_;refine Nu h2 fun b0 H3 h3 => ?_;refine jp (⟨step, who, (σ.places who).getD 0, code⟩ : Pt) h3 rfl ?_ (by omega) fun a cc H4 h4 => ?_
 ·unfold dt; omega
 refine bv h4 ac rfl rfl fun H5 h5 => ?_;refine ap ⟨(), rfl, ?_⟩;refine bJ { g with pv := .slice a (σ.pts.length + 1) cc } hrp hg ?_;unfold aC aL.note;exact h5.to
theorem tH (rp : List Nat) (σ : aL) (nx rv : Value) (t : Tk) (now code : Int) (hp : σ.pts.length < 1000000) :
 Sp ln [vp e, vi now, vi code] (eB e p nx rv t * bf p rp σ) (fun _ : Unit => .tuple #[]) (fun _ => eB e p nx rv t * bf p rp (σ.note now t.who code)) := by
 refine bp (IV _ _ _) fun R H h => ?_;refine ak h ac rfl ?_;refine ak h ac rfl ?_;refine iU ?_;refine ag h (Yf p rp σ now t.who code hp) fun _ H1 h1 => ?_;exact ap ⟨(), rfl, h1.to⟩
theorem wP (rp : List Nat) (σ : aL) (nx rv : Value) (t : Tk) (now code : Int) (hp : σ.pts.length < 1000000) :
 Sp iS [vp e, vi now, vi code] (eB e p nx rv t * bf p rp σ) (fun _ : Unit => .tuple #[.agg (dX code).toArray, vb true]) (fun _ => eB e p nx rv t * bf p rp (σ.note now t.who code)) := by
 refine bp (DL _ _ _) fun R H h => ?_;refine bm h fun b H1 h1 => ?_;refine ag h1 (tH e p rp σ nx rv t now code hp) fun _ H2 h2 => ?_;exact mg h2 (tG (vp e) code) fun H3 h3 => ⟨(), rfl, h3.to⟩
end
end Go.Proofs.YtflbeghglllknaaGreatDoor.Gst
