/- Several texts in one. -/
import Derived.Test.YtghoamdlcjdfjaaGreatDoorAwb
namespace Go.Proofs.YtghoamdlcjdfjaaGreatDoor.Gst
open Go Go.RowKit
set_option maxRecDepth 100000
set_option linter.unusedVariables false
set_option maxHeartbeats 1000000
section
variable (I K P x3 L N M O x13 J x97 Q R S T U V W X Y Z x297 : Value) (H : AH)
noncomputable def bW (p : List Nat) : Code := Code.sub (bX Tryz.f64) p
noncomputable def fp : KK := ge PP (Tryz.f64).results.toList
noncomputable def Tj : KK := CQ (bW [1, 1, 1]) fp bV fp
noncomputable def Ka : OV := Tj (ls [I, K, u, u, L, N, M, O] 297) H
noncomputable def Tm : KK := CQ (bW [1, 1, 1, 1]) fp bV fp
noncomputable def Kb : OV := Tm (ls [I, K, u, u, L, N, M, O] 297) H
noncomputable def I1 : KK := CQ (bW [1, 1, 1, 1, 1]) fp bV fp
noncomputable def fY : KK := gk N6 I1
noncomputable def d4 : OV := I1 (ls [u, u, u, u, L] 300) H
noncomputable def Tp : KK := CQ (bW [1, 1, 1, 1, 0, 1]) fY bV fp
noncomputable def nJ : OV := Tp (ls [I, K, u, u, L, N, M, O, u, u, u, u, u, u, u, u, u, u, u, u, u, u, u, u, u, u, u, u, u, u, u, u, u, u, u, u, u, u, u, u, u, u, u, u, u, u, u, u, u, u, u, u, u, u, u, u, u, u, u, u, u, u, u, u, u, u, u, u, u, u, u, u, u, u, u, u, u, u, u, u, u, u, u, u, u, u, u, u, u, u, u, u, u, J] 211) H
noncomputable def Tw : KX := BX 0 fY bV
noncomputable def ii : KX := uQ N6 Tw
noncomputable def Tt : KK := CQ (bW [1, 1, 1, 1, 0, 1, 4, 1]) fY ii fp
noncomputable def Kd : OV := Tt (ls [I, K, u, u, L, N, M, O, u, u, u, u, u, u, u, u, u, u, u, u, u, u, u, u, u, u, u, u, u, u, u, u, u, u, u, u, u, u, u, u, u, u, u, u, u, u, u, u, u, u, u, u, u, u, u, u, u, u, u, u, u, u, u, u, u, u, u, u, u, u, u, u, u, u, u, u, u, u, u, u, u, u, u, u, u, u, u, u, u, u, u, u, u, J, u, u, u, x97] 207) H
noncomputable def Mw : KK := CQ (bW [1, 1, 1, 1, 0, 1, 4, 1, 3, 1]) fY ii fp
noncomputable def Nm : OV := Mw (ls [I, K, u, u, L, N, M, O, u, u, u, u, u, u, u, u, u, u, u, u, u, u, u, u, u, u, u, u, u, u, u, u, u, u, u, u, u, u, u, u, u, u, u, u, u, u, u, u, u, u, u, u, u, u, u, u, u, u, u, u, u, u, u, u, u, u, u, u, u, u, u, u, u, u, u, u, u, u, u, u, u, u, u, u, u, u, u, u, u, u, u, u, u, J, u, u, u, u, u, u, u, u, u, u, u, u, u, u, u, u, u, u, Q] 192) H
noncomputable def Mx : KK := CQ (bW [1, 1, 1, 1, 0, 1, 4, 1, 3, 1, 3, 1]) fY ii fp
noncomputable def Nn : OV := Mx (ls [I, K, u, u, L, N, M, O, u, u, u, u, u, u, u, u, u, u, u, u, u, u, u, u, u, u, u, u, u, u, u, u, u, u, u, u, u, u, u, u, u, u, u, u, u, u, u, u, u, u, u, u, u, u, u, u, u, u, u, u, u, u, u, u, u, u, u, u, u, u, u, u, u, u, u, u, u, u, u, u, u, u, u, u, u, u, u, u, u, u, u, u, u, J, u, u, u, u, u, u, u, u, u, u, u, u, u, u, u, u, u, u, u, u, u, u, u, u, u, u, u, u, u, u, u, u, u, u, u, u, u, u, u, R] 171) H
noncomputable def My : KK := CQ (bW [1, 1, 1, 1, 0, 1, 4, 1, 3, 1, 3, 1, 3, 1]) fY ii fp
noncomputable def No : OV := My (ls [I, K, u, u, L, N, M, O, u, u, u, u, u, u, u, u, u, u, u, u, u, u, u, u, u, u, u, u, u, u, u, u, u, u, u, u, u, u, u, u, u, u, u, u, u, u, u, u, u, u, u, u, u, u, u, u, u, u, u, u, u, u, u, u, u, u, u, u, u, u, u, u, u, u, u, u, u, u, u, u, u, u, u, u, u, u, u, u, u, u, u, u, u, J, u, u, u, u, u, u, u, u, u, u, u, u, u, u, u, u, u, u, u, u, u, u, u, u, u, u, u, u, u, u, u, u, u, u, u, u, u, u, u, u, u, u, u, u, u, u, u, u, u, u, u, u, u, u, u, u, u, S] 153) H
noncomputable def Mz : KK := CQ (bW [1, 1, 1, 1, 0, 1, 4, 1, 3, 1, 3, 1, 3, 1, 3, 1]) fY ii fp
noncomputable def EW : OV := Mz (ls [I, K, u, u, L, N, M, O, u, u, u, u, u, u, u, u, u, u, u, u, u, u, u, u, u, u, u, u, u, u, u, u, u, u, u, u, u, u, u, u, u, u, u, u, u, u, u, u, u, u, u, u, u, u, u, u, u, u, u, u, u, u, u, u, u, u, u, u, u, u, u, u, u, u, u, u, u, u, u, u, u, u, u, u, u, u, u, u, u, u, u, u, u, J, u, u, u, u, u, u, u, u, u, u, u, u, u, u, u, u, u, u, u, u, u, u, u, u, u, u, u, u, u, u, u, u, u, u, u, u, u, u, u, u, u, u, u, u, u, u, u, u, u, u, u, u, u, u, u, u, u, u, u, u, u, u, u, u, u, u, u, u, u, u, u, u, u, u, u, u, u, T] 133) H
noncomputable def MA : KK := CQ (bW [1, 1, 1, 1, 0, 1, 4, 1, 3, 1, 3, 1, 3, 1, 3, 1, 3, 1]) fY ii fp
noncomputable def Np : OV := MA (ls [I, K, u, u, L, N, M, O, u, u, u, u, u, u, u, u, u, u, u, u, u, u, u, u, u, u, u, u, u, u, u, u, u, u, u, u, u, u, u, u, u, u, u, u, u, u, u, u, u, u, u, u, u, u, u, u, u, u, u, u, u, u, u, u, u, u, u, u, u, u, u, u, u, u, u, u, u, u, u, u, u, u, u, u, u, u, u, u, u, u, u, u, u, J, u, u, u, u, u, u, u, u, u, u, u, u, u, u, u, u, u, u, u, u, u, u, u, u, u, u, u, u, u, u, u, u, u, u, u, u, u, u, u, u, u, u, u, u, u, u, u, u, u, u, u, u, u, u, u, u, u, u, u, u, u, u, u, u, u, u, u, u, u, u, u, u, u, u, u, u, u, u, u, u, u, u, u, u, u, u, u, u, u, u, u, u, U] 118) H
noncomputable def MB : KK := CQ (bW [1, 1, 1, 1, 0, 1, 4, 1, 3, 1, 3, 1, 3, 1, 3, 1, 3, 1, 3, 1]) fY ii fp
noncomputable def EX : OV := MB (ls [I, K, u, u, L, N, M, O, u, u, u, u, u, u, u, u, u, u, u, u, u, u, u, u, u, u, u, u, u, u, u, u, u, u, u, u, u, u, u, u, u, u, u, u, u, u, u, u, u, u, u, u, u, u, u, u, u, u, u, u, u, u, u, u, u, u, u, u, u, u, u, u, u, u, u, u, u, u, u, u, u, u, u, u, u, u, u, u, u, u, u, u, u, J, u, u, u, u, u, u, u, u, u, u, u, u, u, u, u, u, u, u, u, u, u, u, u, u, u, u, u, u, u, u, u, u, u, u, u, u, u, u, u, u, u, u, u, u, u, u, u, u, u, u, u, u, u, u, u, u, u, u, u, u, u, u, u, u, u, u, u, u, u, u, u, u, u, u, u, u, u, u, u, u, u, u, u, u, u, u, u, u, u, u, u, u, u, u, u, u, u, u, u, u, u, u, u, V] 107) H
noncomputable def MC : KK := CQ (bW [1, 1, 1, 1, 0, 1, 4, 1, 3, 1, 3, 1, 3, 1, 3, 1, 3, 1, 3, 1, 2, 1, 1]) fY ii fp
noncomputable def Nq : OV := MC (ls [I, u, u, u, L, u, u, u, u, u, u, u, u, x13] 291) H
noncomputable def Xo : KX := BX 1 fY ii
noncomputable def MD : KK := CQ (bW [1, 1, 1, 1, 0, 1, 4, 1, 3, 1, 3, 1, 3, 1, 3, 1, 3, 1, 3, 1, 3, 1]) fY ii fp
noncomputable def EY : OV := MD (ls [I, K, u, u, L, N, M, O, u, u, u, u, u, u, u, u, u, u, u, u, u, u, u, u, u, u, u, u, u, u, u, u, u, u, u, u, u, u, u, u, u, u, u, u, u, u, u, u, u, u, u, u, u, u, u, u, u, u, u, u, u, u, u, u, u, u, u, u, u, u, u, u, u, u, u, u, u, u, u, u, u, u, u, u, u, u, u, u, u, u, u, u, u, J, u, u, u, u, u, u, u, u, u, u, u, u, u, u, u, u, u, u, u, u, u, u, u, u, u, u, u, u, u, u, u, u, u, u, u, u, u, u, u, u, u, u, u, u, u, u, u, u, u, u, u, u, u, u, u, u, u, u, u, u, u, u, u, u, u, u, u, u, u, u, u, u, u, u, u, u, u, u, u, u, u, u, u, u, u, u, u, u, u, u, u, u, u, u, u, u, u, u, u, u, u, u, u, u, u, u, u, u, u, u, u, u, u, u, u, u, u, u, u, u, u, u, u, u, u, u, u, u, u, u, u, u, u, u, u, u, u, u, u, u, u, u, u, u, u, u, u, u, W] 62) H
noncomputable def ME : KK := CQ (bW [1, 1, 1, 1, 0, 1, 4, 1, 3, 1, 3, 1, 3, 1, 3, 1, 3, 1, 3, 1, 3, 1, 3, 1]) fY ii fp
noncomputable def ut : OV := ME (ls [I, K, u, u, L, N, M, O, u, u, u, u, u, u, u, u, u, u, u, u, u, u, u, u, u, u, u, u, u, u, u, u, u, u, u, u, u, u, u, u, u, u, u, u, u, u, u, u, u, u, u, u, u, u, u, u, u, u, u, u, u, u, u, u, u, u, u, u, u, u, u, u, u, u, u, u, u, u, u, u, u, u, u, u, u, u, u, u, u, u, u, u, u, J, u, u, u, u, u, u, u, u, u, u, u, u, u, u, u, u, u, u, u, u, u, u, u, u, u, u, u, u, u, u, u, u, u, u, u, u, u, u, u, u, u, u, u, u, u, u, u, u, u, u, u, u, u, u, u, u, u, u, u, u, u, u, u, u, u, u, u, u, u, u, u, u, u, u, u, u, u, u, u, u, u, u, u, u, u, u, u, u, u, u, u, u, u, u, u, u, u, u, u, u, u, u, u, u, u, u, u, u, u, u, u, u, u, u, u, u, u, u, u, u, u, u, u, u, u, u, u, u, u, u, u, u, u, u, u, u, u, u, u, u, u, u, u, u, u, u, u, u, u, u, u, u, u, u, X] 56) H
noncomputable def MF : KK := CQ (bW [1, 1, 1, 1, 0, 1, 4, 1, 3, 1, 3, 1, 3, 1, 3, 1, 3, 1, 3, 1, 3, 1, 3, 1, 3, 1]) fY ii fp
noncomputable def EZ : OV := MF (ls [I, K, u, u, L, N, M, u, u, u, u, u, u, u, u, u, u, u, u, u, u, u, u, u, u, u, u, u, u, u, u, u, u, u, u, u, u, u, u, u, u, u, u, u, u, u, u, u, u, u, u, u, u, u, u, u, u, u, u, u, u, u, u, u, u, u, u, u, u, u, u, u, u, u, u, u, u, u, u, u, u, u, u, u, u, u, u, u, u, u, u, u, u, J, u, u, u, u, u, u, u, u, u, u, u, u, u, u, u, u, u, u, u, u, u, u, u, u, u, u, u, u, u, u, u, u, u, u, u, u, u, u, u, u, u, u, u, u, u, u, u, u, u, u, u, u, u, u, u, u, u, u, u, u, u, u, u, u, u, u, u, u, u, u, u, u, u, u, u, u, u, u, u, u, u, u, u, u, u, u, u, u, u, u, u, u, u, u, u, u, u, u, u, u, u, u, u, u, u, u, u, u, u, u, u, u, u, u, u, u, u, u, u, u, u, u, u, u, u, u, u, u, u, u, u, u, u, u, u, u, u, u, u, u, u, u, u, u, u, u, u, u, u, u, u, u, u, u, u, u, u, u, u, u, u, u, u, u, u, u, u, u, u, u, u, u, u, u, u, u, u, u, Y] 32) H
noncomputable def MG : KK := CQ (bW [1, 1, 1, 1, 0, 1, 4, 1, 3, 1, 3, 1, 3, 1, 3, 1, 3, 1, 3, 1, 3, 1, 3, 1, 3, 1, 3, 1]) fY ii fp
noncomputable def Nr : OV := MG (ls [I, K, u, u, L, N, M, u, u, u, u, u, u, u, u, u, u, u, u, u, u, u, u, u, u, u, u, u, u, u, u, u, u, u, u, u, u, u, u, u, u, u, u, u, u, u, u, u, u, u, u, u, u, u, u, u, u, u, u, u, u, u, u, u, u, u, u, u, u, u, u, u, u, u, u, u, u, u, u, u, u, u, u, u, u, u, u, u, u, u, u, u, u, J, u, u, u, u, u, u, u, u, u, u, u, u, u, u, u, u, u, u, u, u, u, u, u, u, u, u, u, u, u, u, u, u, u, u, u, u, u, u, u, u, u, u, u, u, u, u, u, u, u, u, u, u, u, u, u, u, u, u, u, u, u, u, u, u, u, u, u, u, u, u, u, u, u, u, u, u, u, u, u, u, u, u, u, u, u, u, u, u, u, u, u, u, u, u, u, u, u, u, u, u, u, u, u, u, u, u, u, u, u, u, u, u, u, u, u, u, u, u, u, u, u, u, u, u, u, u, u, u, u, u, u, u, u, u, u, u, u, u, u, u, u, u, u, u, u, u, u, u, u, u, u, u, u, u, u, u, u, u, u, u, u, u, u, u, u, u, u, u, u, u, u, u, u, u, u, u, u, u, u, u, u, u, u, u, u, u, u, u, u, Z] 21) H
noncomputable def MH : KK := CQ (bW [1, 1, 1, 1, 0, 1, 4, 1, 3, 1, 3, 1, 3, 1, 3, 1, 3, 1, 3, 1, 3, 1, 3, 1, 3, 1, 3, 1, 3, 1]) fY ii fp
noncomputable def j6 : OV := MH (ls [I, K, u, u, L, u, M, u, u, u, u, u, u, u, u, u, u, u, u, u, u, u, u, u, u, u, u, u, u, u, u, u, u, u, u, u, u, u, u, u, u, u, u, u, u, u, u, u, u, u, u, u, u, u, u, u, u, u, u, u, u, u, u, u, u, u, u, u, u, u, u, u, u, u, u, u, u, u, u, u, u, u, u, u, u, u, u, u, u, u, u, u, u, u, u, u, u, u, u, u, u, u, u, u, u, u, u, u, u, u, u, u, u, u, u, u, u, u, u, u, u, u, u, u, u, u, u, u, u, u, u, u, u, u, u, u, u, u, u, u, u, u, u, u, u, u, u, u, u, u, u, u, u, u, u, u, u, u, u, u, u, u, u, u, u, u, u, u, u, u, u, u, u, u, u, u, u, u, u, u, u, u, u, u, u, u, u, u, u, u, u, u, u, u, u, u, u, u, u, u, u, u, u, u, u, u, u, u, u, u, u, u, u, u, u, u, u, u, u, u, u, u, u, u, u, u, u, u, u, u, u, u, u, u, u, u, u, u, u, u, u, u, u, u, u, u, u, u, u, u, u, u, u, u, u, u, u, u, u, u, u, u, u, u, u, u, u, u, u, u, u, u, u, u, u, u, u, u, u, u, u, u, u, u, u, u, u, u, u, u, u, u, u, u, u, u, u, x297] 7) H
theorem cI : au N6 fp := rf
theorem Tl : au Yn Tj := rc cI aJ cI
theorem Tn : au Yn Tm := rc cI aJ cI
theorem cD : au N6 I1 := rc cI aJ cI
theorem Tq : au 65185151242703554760590262029100101153646988597309960020356494369436681278143732398675721996 Tp := rc (cd cD) aJ cI
theorem cV : ∀ i, au N6 (Tw i) := rb (cd cD) aJ
theorem Tv : au 65185151242703554760590262029100101153646988597309960020356494210980356249615057211587821324 Tt := rc (cd cD) (cx cV) cI
theorem Pp : au 65185151242703554760590262029100101153646988597309960020351302072578146450515201902346501900 Mw := rc (cd cD) (cx cV) cI
theorem Pq : au 65185151242703554760590262029100101153646988597309949131320752899405850450156294582092955404 Mx := rc (cd cD) (cx cV) cI
theorem Pr : au 65185151242703554760590262029100101153646988594455464634944574607320109339244742125910228748 My := rc (cd cD) (cx cV) cI
theorem Ps : au 65185151242703554760590262029100101153643995441956706331180013222899278330519477048827707148 Mz := rc (cd cD) (cx cV) cI
theorem Pu : au 65185151242703554760590262029100101055567273981893073085422284631816893526544428578925182732 MA := rc (cd cD) (cx cV) cI
theorem Pv : au 65185151242703554760590262029099900286391456223525517275094951724111366002769509549571309324 MB := rc (cd cD) (cx cV) cI
theorem Pw : au 65185151242703554760590262029100101153646988597309960020356494379340201592426774597868707822 MC := rc (cd cD) (cx cV) cI
theorem PC : ∀ i, au N6 (Xo i) := rb (cd cD) (cx cV)
theorem Px : au 65185151242703554753522873769986563835313798594338285957046558781934205445657307593505242892 MD := rc (cd cD) (cx cV) cI
theorem Py : au 65185151242703554308277413445833712780322828407122819968520616769278227999012544867765059340 ME := rc (cd cD) (cx cV) cI
theorem Pz : au 65185151235115004400333507845820953080117617868238058305309074364546789052601137534592876428 MF := rc (cd cD) (cx cV) cI
theorem PA : au 65185135701352416954757694673404846565495735458055247603240324354937403366909450757007736716 MG := rc (cd cD) (cx cV) cI
theorem PB : au 64930521745661743999806706318048928883515555048101717989026976823170903929956357509595791276 MH := rc (cd cD) (cx cV) cI
theorem bH : d4 L H =
 some ((vb false), H) :=
 (by kernel_rfl)
theorem Kc : Nq I L x13 H =
 (FF bx [I] H).bind fun a =>
 ad [.n, .f 11] I fun c =>
 (am c a.2).bind fun e =>
 bw (am c H) (am c a.2) <|
 ad [.n, .f 12] I fun d =>
 (am d a.2).bind fun g =>
 bw (am d H) (am d a.2) <|
 (FF gu [a.1, e, g] a.2).bind fun b =>
 ax b.1
 (st 1 [.n, .f 6] I (vi 15) b.2 fun i =>
 d4 L i)
 ((ak .other .eql x13 (vi 1)).bind fun j =>
 ax j
 (st 1 [.n, .f 6] I (vi 9) b.2 fun k =>
 d4 L k)
 (st 1 [.n, .f 6] I (vi 12) b.2 fun l =>
 d4 L l)) :=
 (bt rfl (bW [1, 1, 1, 1, 0, 1, 4, 1, 3, 1, 3, 1, 3, 1, 3, 1, 3, 1, 3, 1, 2, 1, 1, 4]) 1 PC (by kernel_rfl))
theorem lu : j6 I K L M x297 H =
 ax x297
 ((FF YK [I, K] H).bind fun a =>
 some (a.1, a.2))
 ((FF UD [I, M] H).bind fun b =>
 some (b.1, b.2)) :=
 (by kernel_rfl)
theorem AC : Nr I K L N M J Z H =
 ax Z
 (ld [.n, .f 6] N H fun d =>
 ld [.n, .f 1] I H fun e =>
 (FF iu [d, e] H).bind fun g =>
 st 1 [.n, .f 6] I (vi 13) g.2 fun i =>
 d4 L i)
 ((ak .other .eql J (vi 15)).bind fun a =>
 ax a
 (j6 I K L M a H)
 ((ak .other .eql J (vi 16)).bind fun b =>
 ax b
 (j6 I K L M b H)
 ((ak .other .eql J (vi 17)).bind fun c =>
 ax c
 (j6 I K L M c H)
 ((ak .other .eql J (vi 18)).bind fun j =>
 j6 I K L M j H)))) :=
 (ct rfl (bW [1, 1, 1, 1, 0, 1, 4, 1, 3, 1, 3, 1, 3, 1, 3, 1, 3, 1, 3, 1, 3, 1, 3, 1, 3, 1, 3, 1, 2]) (bW [1, 1, 1, 1, 0, 1, 4, 1, 3, 1, 3, 1, 3, 1, 3, 1, 3, 1, 3, 1, 3, 1, 3, 1, 3, 1, 3, 1, 3]) (.tmp 283) (by kernel_rfl) (pt rfl 0 PB (by kernel_rfl)))
theorem sG : EZ I K L N M J Y H =
 ax Y
 ((FF bx [I] H).bind fun a =>
 ad [.n, .f 1] I fun b =>
 (am b a.2).bind fun d =>
 bw (am b H) (am b a.2) <|
 (FF dU [I] a.2).bind fun c =>
 bw (am b c.2) (am b a.2) <|
 (FF gy [a.1, d, c.1] c.2).bind fun e =>
 some ((vb true), e.2))
 ((ak .other .eql J (vi 12)).bind fun g =>
 Nr I K L N M J g H) :=
 (ct rfl (bW [1, 1, 1, 1, 0, 1, 4, 1, 3, 1, 3, 1, 3, 1, 3, 1, 3, 1, 3, 1, 3, 1, 3, 1, 3, 1, 2]) (bW [1, 1, 1, 1, 0, 1, 4, 1, 3, 1, 3, 1, 3, 1, 3, 1, 3, 1, 3, 1, 3, 1, 3, 1, 3, 1, 3]) (.tmp 272) (by kernel_rfl) (pt rfl 0 PA (by kernel_rfl)))
theorem sF : ut I K L N M O J X H =
 ax X
 ((FF bx [I] H).bind fun a =>
 ad [.n, .f 1] I fun c =>
 (am c a.2).bind fun e =>
 bw (am c H) (am c a.2) <|
 (FF dU [I] a.2).bind fun b =>
 bw (am c b.2) (am c a.2) <|
 (aB 3 O b.2).bind fun g =>
 bw (aB 3 O H) (aB 3 O b.2) <|
 bw (aB 3 O a.2) (aB 3 O b.2) <|
 (FF lg [a.1, e, b.1, g] b.2).bind fun i =>
 st 1 [.n, .f 6] I (vi 11) i.2 fun d =>
 ld [.n, .f 13] I d fun j =>
 (ak .other .eql j (vw 1)).bind fun k =>
 ax k
 (st 1 [.n, .f 6] I (vi 21) d fun l =>
 d4 L l)
 (d4 L d))
 ((ak .other .eql J (vi 11)).bind fun m =>
 EZ I K L N M J m H) :=
 (ct rfl (bW [1, 1, 1, 1, 0, 1, 4, 1, 3, 1, 3, 1, 3, 1, 3, 1, 3, 1, 3, 1, 3, 1, 3, 1, 2]) (bW [1, 1, 1, 1, 0, 1, 4, 1, 3, 1, 3, 1, 3, 1, 3, 1, 3, 1, 3, 1, 3, 1, 3, 1, 3]) (.tmp 248) (by kernel_rfl) (pt rfl 0 Pz (by kernel_rfl)))
theorem sE : EY I K L N M O J W H =
 ax W
 ((FF i4 [I, K] H).bind fun b =>
 d4 L b.2)
 ((ak .other .eql J (vi 10)).bind fun a =>
 ax a
 (ut I K L N M O J a H)
 ((ak .other .eql J (vi 14)).bind fun c =>
 ut I K L N M O J c H)) :=
 (ct rfl (bW [1, 1, 1, 1, 0, 1, 4, 1, 3, 1, 3, 1, 3, 1, 3, 1, 3, 1, 3, 1, 3, 1, 2]) (bW [1, 1, 1, 1, 0, 1, 4, 1, 3, 1, 3, 1, 3, 1, 3, 1, 3, 1, 3, 1, 3, 1, 3]) (.tmp 242) (by kernel_rfl) (pt rfl 0 Py (by kernel_rfl)))
theorem nK : EX I K L N M O J V H =
 ax V
 ((FF bx [I] H).bind fun a =>
 ad [.n, .f 1] I fun c =>
 (am c a.2).bind fun i =>
 bw (am c H) (am c a.2) <|
 (FF gv [a.1, i] a.2).bind fun d =>
 st 1 [.n, .f 12] I d.1 d.2 fun e =>
 ld [.n, .f 11] I e fun j =>
 (FF fv [j] e).bind fun b =>
 (ai b.1 0).bind fun m =>
 (ai b.1 1).bind fun k =>
 (ai b.1 2).bind fun o =>
 Nq I L k b.2)
 ((ak .other .eql J (vi 9)).bind fun g =>
 ax g
 (EY I K L N M O J g H)
 ((ak .other .eql J (vi 13)).bind fun l =>
 EY I K L N M O J l H)) :=
 (ct rfl (bW [1, 1, 1, 1, 0, 1, 4, 1, 3, 1, 3, 1, 3, 1, 3, 1, 3, 1, 3, 1, 2]) (bW [1, 1, 1, 1, 0, 1, 4, 1, 3, 1, 3, 1, 3, 1, 3, 1, 3, 1, 3, 1, 3]) (.tmp 197) (pt rfl 1 Pw (by kernel_rfl)) (pt rfl 0 Px (by kernel_rfl)))
theorem AB : Np I K L N M O J U H =
 ax U
 (st 1 [.n, .f 6] I (vi 8) H fun b =>
 (FF gz [I] b).bind fun a =>
 (ak .other .eql a.1 (vi 2)).bind fun c =>
 ax c
 (st 1 [.n, .f 6] I (vi 3) a.2 fun d =>
 d4 L d)
 (d4 L a.2))
 ((ak .other .eql J (vi 8)).bind fun e =>
 EX I K L N M O J e H) :=
 (ct rfl (bW [1, 1, 1, 1, 0, 1, 4, 1, 3, 1, 3, 1, 3, 1, 3, 1, 3, 1, 2]) (bW [1, 1, 1, 1, 0, 1, 4, 1, 3, 1, 3, 1, 3, 1, 3, 1, 3, 1, 3]) (.tmp 186) (by kernel_rfl) (pt rfl 0 Pv (by kernel_rfl)))
theorem sD : EW I K L N M O J T H =
 ax T
 (ld [.n, .f 1] I H fun a =>
 ld [.n, .f 10] I H fun b =>
 (FF jK [N, a, b] H).bind fun c =>
 st 1 [.n, .f 6] I (vi 7) c.2 fun d =>
 d4 L d)
 ((ak .other .eql J (vi 7)).bind fun e =>
 Np I K L N M O J e H) :=
 (ct rfl (bW [1, 1, 1, 1, 0, 1, 4, 1, 3, 1, 3, 1, 3, 1, 3, 1, 2]) (bW [1, 1, 1, 1, 0, 1, 4, 1, 3, 1, 3, 1, 3, 1, 3, 1, 3]) (.tmp 171) (by kernel_rfl) (pt rfl 0 Pu (by kernel_rfl)))
theorem AA : No I K L N M O J S H =
 ax S
 (ld [.n, .f 7] N H fun b =>
 ld [.n, .f 1] I H fun c =>
 (FF gQ [b, c, M] H).bind fun a =>
 ld [.n, .f 9] I a.2 fun d =>
 (pw .not d).bind fun e =>
 ax e
 (some ((vb true), a.2))
 (st 1 [.n, .f 6] I (vi 6) a.2 fun g =>
 d4 L g))
 ((ak .other .eql J (vi 6)).bind fun i =>
 EW I K L N M O J i H) :=
 (ct rfl (bW [1, 1, 1, 1, 0, 1, 4, 1, 3, 1, 3, 1, 3, 1, 2]) (bW [1, 1, 1, 1, 0, 1, 4, 1, 3, 1, 3, 1, 3, 1, 3]) (.tmp 151) (by kernel_rfl) (pt rfl 0 Ps (by kernel_rfl)))
theorem sC : Nn I K L N M O J R H =
 ax R
 ((FF M2 [I] H).bind fun a =>
 (ai a.1 0).bind fun b =>
 (ai a.1 1).bind fun c =>
 ax b
 (st 1 [.n, .f 6] I (vi 5) a.2 fun d =>
 d4 L d)
 (ax c
 ((FF cm [I, K, (vi 5)] a.2).bind fun e =>
 st 1 [.n, .f 6] I (vi 5) e.2 fun g =>
 d4 L g)
 (d4 L a.2)))
 ((ak .other .eql J (vi 5)).bind fun i =>
 No I K L N M O J i H) :=
 (ct rfl (bW [1, 1, 1, 1, 0, 1, 4, 1, 3, 1, 3, 1, 2]) (bW [1, 1, 1, 1, 0, 1, 4, 1, 3, 1, 3, 1, 3]) (.tmp 133) (by kernel_rfl) (pt rfl 0 Pr (by kernel_rfl)))
theorem nI : Nm I K L N M O J Q H =
 ax Q
 (ld [.n, .f 7] N H fun b =>
 ld [.n, .f 1] I H fun c =>
 (FF i1 [b, c, M] H).bind fun a =>
 ax a.1
 (st 1 [.n, .f 6] I (vi 4) a.2 fun d =>
 st 1 [.n, .f 7] I (vi 0) d fun e =>
 st 1 [.n, .f 9] I (vb false) e fun g =>
 d4 L g)
 (d4 L a.2))
 ((ak .other .eql J (vi 4)).bind fun i =>
 Nn I K L N M O J i H) :=
 (ct rfl (bW [1, 1, 1, 1, 0, 1, 4, 1, 3, 1, 2]) (bW [1, 1, 1, 1, 0, 1, 4, 1, 3, 1, 3]) (.tmp 112) (by kernel_rfl) (pt rfl 0 Pq (by kernel_rfl)))
theorem mZ : Kd I K L N M O J x97 H =
 ax x97
 ((FF M2 [I] H).bind fun a =>
 (ai a.1 0).bind fun b =>
 (ai a.1 1).bind fun c =>
 ax b
 (st 1 [.n, .f 6] I (vi 6) a.2 fun d =>
 d4 L d)
 (ax c
 (st 1 [.n, .f 6] I (vi 3) a.2 fun e =>
 d4 L e)
 (d4 L a.2)))
 ((ak .other .eql J (vi 3)).bind fun g =>
 Nm I K L N M O J g H) :=
 (ct rfl (bW [1, 1, 1, 1, 0, 1, 4, 1, 2]) (bW [1, 1, 1, 1, 0, 1, 4, 1, 3]) (.tmp 97) (by kernel_rfl) (pt rfl 0 Pp (by kernel_rfl)))
theorem kA : nJ I K L N M O J H =
 (ak .other .eql J (vi 2)).bind fun a =>
 Kd I K L N M O J a H :=
 (bt rfl (bW [1, 1, 1, 1, 0, 1, 4]) 0 cV (pt rfl 0 Tv (by kernel_rfl)))
theorem Cy : Kb I K L N M O H =
 ld [.n, .f 6] I H fun a =>
 nJ I K L N M O a H :=
 (pt rfl 0 cD (pt rfl 0 Tq (by kernel_rfl)))
theorem Cx : Ka I K L N M O H =
 ld [.n, .f 6] I H fun c =>
 (ak .other .eql c (vi 0)).bind fun d =>
 ax d
 (ld [.n, .f 2, .f 2] I H fun e =>
 (ak .other .lss e (vi 1)).bind fun a =>
 (gV a false I).bind fun g =>
 fH a false  [.n, .f 2, .f 2] g H fun i =>
 (gB a false (ak .other .gtr i (vi 65536))).bind fun j =>
 (aQ a (vb true) j).bind fun k =>
 ax k
 ((FF cm [I, K, (vi 3)] H).bind fun l =>
 some ((vb true), l.2))
 (ld [.n, .f 2, .f 1] I H fun m =>
 (ak .other .lss m (vi 0)).bind fun b =>
 (gV b false I).bind fun o =>
 fH b false  [.n, .f 2, .f 1] o H fun p =>
 (gB b false (ak .other .gtr p (vi 1048576))).bind fun q =>
 (aQ b (vb true) q).bind fun s =>
 ax s
 ((FF cm [I, K, (vi 5)] H).bind fun t =>
 some ((vb true), t.2))
 (st 1 [.n, .f 6] I (vi 2) H fun w =>
 Kb I K L N M O w)))
 (Kb I K L N M O H) :=
 (pt rfl 0 Tn (by kernel_rfl))
noncomputable def rTE : OV := aW PP GG FF (bW []) (ls [I, K] 303) H fp bV fp
theorem ZC {r : Value × AH} (h : (
 ad [.n, .f 0] I fun b =>
 (am b H).bind fun d =>
 ld [.n, .f 0] I H fun e =>
 ld [.n, .f 7] e H fun g =>
 ld [.n, .f 2, .f 1] I H fun i =>
 (FF e8 [g, i] H).bind fun a =>
 bw (am b a.2) (am b H) <|
 ld [.n, .f 2, .f 1] I a.2 fun j =>
 ld [.n, .f 2, .f 2] I a.2 fun k =>
 ld [.n, .f 2, .f 3] I a.2 fun l =>
 im [(0, 1), (1, 1), (2, 1)] [(vi 0), (vi 0), (vi 0)] [(0, j), (1, k), (2, l)] fun m =>
 aV [(vi 0), (vi 0), (vi 0)] a.2 fun c o =>
 (dg 3 c m o).bind fun p =>
 Ka I K (vb false) d a.1 c p) = some r) : FF dr [I, K] H = some r :=
 fo (t := rTE I K H) Tryz.func64 (by kernel_rfl) (Eq.trans (pt rfl 2 Tl (by kernel_rfl)) h)
theorem Gv {r : Value × AH} (h : (
 aV [(vi 0), (.slice none 0 0), (vi 0), (vw 0)] H fun a b =>
 ax K
 (ldN 4 [.n, .f 17] I b fun e =>
 (dg 4 a e b).bind fun c =>
 (aB 4 a c).bind fun g => some (g, c))
 (im [(0, 1), (1, 1), (2, 1), (3, 1)] [(vi 0), (.slice none 0 0), (vi 0), (vw 0)] [] fun i =>
 (dg 4 a i b).bind fun d =>
 (aB 4 a d).bind fun j => some (j, d))) = some r) : FF r9 [I, K] H = some r :=
 fo Tryz.func65 (by kernel_rfl) h
theorem Ac {r : Value × AH} (h : (
 ld [.n, .f 1] I H fun a =>
 fq a fun b =>
 some (b, H)) = some r) : FF gi [I] H = some r :=
 fo Tryz.func66 (by kernel_rfl) h
theorem vj {r : Value × AH} (h : (
 aV [(vi 0), (vi 0), (vi 0)] H fun a c =>
 im [(0, 1), (1, 1), (2, 1)] [(vi 0), (vi 0), (vi 0)] [(0, I), (1, K)] fun d =>
 (dg 3 a d c).bind fun b =>
 (aB 3 a b).bind fun e => some (e, b)) = some r) : FF aS [I, K] H = some r :=
 fo Tryz.func73 (by kernel_rfl) h
theorem xX {r : Value × AH} (h : (
 aV [(vi 0), (vi 0), (vi 0)] H fun a b =>
 ld [.n, .f 1] I b fun d =>
 im [(0, 1), (1, 1), (2, 1)] [(vi 0), (vi 0), (vi 0)] [(0, K), (1, d), (2, P)] fun e =>
 (dg 3 a e b).bind fun c =>
 (aB 3 a c).bind fun g => some (g, c)) = some r) : FF cY [I, K, P] H = some r :=
 fo Tryz.func75 (by kernel_rfl) h
theorem EF {r : Value × AH} (h : (
 aV (Value.cells I).toList H fun a i =>
 aV [(vi 0), (.slice none 0 0), (vi 0), (vw 0)] i fun b c =>
 ld [.f 1] a c fun j =>
 (FF UE [j] c).bind fun d =>
 st 1 [.f 1] a d.1 d.2 fun e =>
 (aB 4 a e).bind fun k =>
 (dg 4 b k e).bind fun g =>
 (aB 4 b g).bind fun l => some (l, g)) = some r) : FF pf [I] H = some r :=
 fo Tryz.func79 (by kernel_rfl) h
theorem lP {r : Value × AH} (h : (
 ld [.n, .f 2] I H fun a =>
 fq a fun b =>
 (bO (some .u64) b).bind fun c =>
 (ak .other .rem K c).bind fun d =>
 (bO (some .i64) d).bind fun e =>
 some (e, H)) = some r) : FF cy [I, K] H = some r :=
 fo Tryz.func80 (by kernel_rfl) h
theorem Ag {r : Value × AH} (h : (
 aV (Value.cells I).toList H fun a l =>
 ld [.f 0] a l fun m =>
 (FF dS [m, (vi 1), (vi 4)] l).bind fun b =>
 fH b.1 true  [.f 1] a b.2 fun n =>
 (gE b.1 true b.2 (FF dS [n, (vi 1), (vi 4)] b.2)).bind fun c =>
 (aQ b.1 c.1 (vb false)).bind fun g =>
 fH g true  [.f 2] a c.2 fun o =>
 (gE g true c.2 (FF dS [o, (vi 1), (vi 6)] c.2)).bind fun d =>
 (aQ g d.1 (vb false)).bind fun i =>
 fH i true  [.f 3] a d.2 fun p =>
 (gE i true d.2 (FF dS [p, (vi 0), (vi 40)] d.2)).bind fun e =>
 (aQ i e.1 (vb false)).bind fun j =>
 fH j true  [.f 4] a e.2 fun q =>
 (gB j true (ak .other .geq q (vw 1))).bind fun s =>
 (aQ j s (vb false)).bind fun k =>
 fH k true  [.f 4] a e.2 fun t =>
 (gB k true (ak .other .leq t (vw 4611686018427387904))).bind fun w =>
 (aQ k w (vb false)).bind fun y =>
 some (y, e.2)) = some r) : FF l7 [I] H = some r :=
 fo Tryz.func81 (by kernel_rfl) h
theorem Jz (H : AH) {r : Value × AH} (h : (
 Bx H fun a b =>
 im [(0, 1), (1, 1)] [(.map none), (.slice none 0 0)] [(0, a)] fun c =>
 aV (Value.cells c).toList b fun d e =>
 some (d, e)) = some r) : FF vF [] H = some r :=
 fo Tryz.func82 (by kernel_rfl) h
theorem Ei {r : Value × AH} (h : (
 (gT [K, (vi 1)]).bind fun a =>
 (iH [a, (vi 4)]).bind fun b =>
 Bx H fun c d =>
 im [(0, 1), (1, 1), (2, 1), (3, 1), (4, 1)] [(.pointer none), (vi 0), (.map none), Value.nilFunc, Value.nilFunc] [(0, I), (1, b), (2, c), (3, (.func (.func aS) #[(vi 9)] #[])), (4, (.func (.func aS) #[(vi 14)] #[]))] fun e =>
 aV (Value.cells e).toList d fun f g =>
 some (f, g)) = some r) : FF pc [I, K] H = some r :=
 fo Tryz.func83 (by kernel_rfl) h
theorem Fg {r : Value × AH} (h : (
 (gT [K, (vi 1)]).bind fun a =>
 (iH [a, (vi 4)]).bind fun b =>
 (gT [P, (vi 1)]).bind fun c =>
 (iH [c, (vi 4)]).bind fun d =>
 im [(0, 1), (1, 1), (2, 1)] [(.pointer none), (vi 0), (vi 0)] [(0, I), (1, b), (2, d)] fun e =>
 aV (Value.cells e).toList H fun f g =>
 some (f, g)) = some r) : FF pn [I, K, P] H = some r :=
 fo Tryz.func84 (by kernel_rfl) h
theorem GN {r : Value × AH} (h : (
 (gT [K, (vi 1)]).bind fun a =>
 (iH [a, (vi 6)]).bind fun b =>
 Bx H fun c d =>
 Bx d fun e f =>
 im [(0, 1), (1, 1), (2, 1), (3, 1)] [(.pointer none), (vi 0), (.map none), (.map none)] [(0, I), (1, b), (2, c), (3, e)] fun g =>
 aV (Value.cells g).toList f fun i j =>
 some (i, j)) = some r) : FF sa [I, K] H = some r :=
 fo Tryz.func85 (by kernel_rfl) h
theorem FO {r : Value × AH} (h : (
 aV (Value.cells I).toList H fun c b =>
 ld [.f 0] c b fun d =>
 ld [.f 3] c b fun e =>
 (FF pi [d, e] b).bind fun a =>
 Bx a.2 fun g i =>
 Bx i fun j k =>
 im [(0, 1), (1, 1), (2, 1), (3, 1), (4, 1), (5, 1), (6, 1), (7, 1), (8, 3)] [Value.nilFunc, Value.nilFunc, Value.nilFunc, (vw 0), (vw 0), (vi 0), (.map none), (.map none), (vb false), (vi 0), (vw 0)] [(0, (.func (.func sd) #[a.1] #[])), (1, (.func (.func tX) #[a.1] #[])), (2, (.func (.func tW) #[a.1] #[])), (6, g), (7, j)] fun l =>
 aV (Value.cells l).toList k fun m n =>
 some (m, n)) = some r) : FF r5 [I] H = some r :=
 fo Tryz.func86 (by kernel_rfl) h
theorem xO {r : Value × AH} (h : (
 (gT [K, (vi 1)]).bind fun a =>
 (iH [a, (vi 4)]).bind fun b =>
 im [(0, 1), (1, 1), (2, 1), (3, 1)] [(.pointer none), (vi 0), (.slice none 0 0), (.slice none 0 0)] [(0, I), (1, b)] fun c =>
 aV (Value.cells c).toList H fun d e =>
 some (d, e)) = some r) : FF k7 [I, K] H = some r :=
 fo Tryz.func87 (by kernel_rfl) h
theorem xS {r : Value × AH} (h : (
 (gT [K, (vi 1)]).bind fun a =>
 (iH [a, (vi 4)]).bind fun b =>
 (gT [P, (vi 1)]).bind fun c =>
 (iH [c, (vi 4)]).bind fun d =>
 im [(0, 1), (1, 1), (2, 1)] [(.pointer none), (vi 0), (vi 0)] [(0, I), (1, b), (2, d)] fun e =>
 aV (Value.cells e).toList H fun f g =>
 some (f, g)) = some r) : FF lc [I, K, P] H = some r :=
 fo Tryz.func88 (by kernel_rfl) h
theorem As {r : Value × AH} (h : (
 (gT [K, (vi 1)]).bind fun a =>
 (iH [a, (vi 6)]).bind fun b =>
 im [(0, 1), (1, 1), (2, 1), (3, 1), (4, 1), (5, 1)] [(.pointer none), (vi 0), (.slice none 0 0), (.slice none 0 0), (.slice none 0 0), (.slice none 0 0)] [(0, I), (1, b)] fun c =>
 aV (Value.cells c).toList H fun d e =>
 some (d, e)) = some r) : FF mf [I, K] H = some r :=
 fo Tryz.func89 (by kernel_rfl) h
theorem Aq {r : Value × AH} (h : (
 aV (Value.cells I).toList H fun b a =>
 ld [.f 0] b a fun d =>
 ld [.f 3] b a fun e =>
 (FF UB [d, e] a).bind fun c =>
 im [(0, 1), (1, 1), (2, 1), (3, 1), (4, 1), (5, 1), (6, 1), (7, 1), (8, 1)] [(.pointer none), (vw 0), (vw 0), (vi 0), (.slice none 0 0), (.slice none 0 0), (vb false), (vi 0), (vw 0)] [(0, c.1)] fun g =>
 aV (Value.cells g).toList c.2 fun i j =>
 some (i, j)) = some r) : FF me [I] H = some r :=
 fo Tryz.func90 (by kernel_rfl) h
theorem qO {r : Value × AH} (h : (
 aV (Value.cells P).toList H fun b d =>
 ld [.n, .f 10] I d fun j =>
 fq j fun e =>
 ld [.n, .f 0] I d fun k =>
 im [(0, 1), (1, 1), (2, 1)] [(vi 0), (vi 0), (vi 0)] [(0, (vi 13)), (1, e)] fun l =>
 (FF eL [k, K, l] d).bind fun a =>
 ad [.n, .f 10] I fun g =>
 (am g a.2).bind fun m =>
 (aB 3 b a.2).bind fun o =>
 ld [.n, .f 0] I a.2 fun p =>
 ld [.f 1] b a.2 fun q =>
 (FF sg [p, e, q] a.2).bind fun c =>
 bw (am g c.2) (am g a.2) <|
 bw (aB 3 b c.2) (aB 3 b a.2) <|
 im [(0, 3), (3, 1)] [(vi 0), (vi 0), (vw 0), (.pointer none)] [(0, o), (1, c.1)] fun s =>
 Af 1 4 [(vi 0), (vi 0), (vw 0), (.pointer none)] [(0, s)] c.2 fun t w =>
 (dX 4 32 m t w).bind fun i =>
 st 1 [.n, .f 10] I i.1 i.2 fun y =>
 some (e, y)) = some r) : FF gN [I, K, P] H = some r :=
 fo Tryz.func91 (by kernel_rfl) h
theorem ul {r : Value × AH} (h : (
 aV (Value.cells P).toList H fun o c =>
 ld [.n, .f 10] I c fun q =>
 fq q fun e =>
 ad [.n, .f 5] I fun g =>
 (am g c).bind fun s =>
 (FF bL [(vi 13), e, (vi 0)] c).bind fun i =>
 bw (am g i.2) (am g c) <|
 (FF bB [s, K, (vi 6), i.1] i.2).bind fun j =>
 ld [.n, .f 10] I j.2 fun t =>
 (aB 3 o j.2).bind fun w =>
 Af 1 3 [(vi 0), (vi 0), (vw 0)] [(0, w)] j.2 fun y d =>
 (dX 3 24 t y d).bind fun a =>
 ad [.n, .f 11] I fun b =>
 (am b a.2).bind fun z =>
 bw (am b d) (am b a.2) <|
 ad [.n, .f 5] I fun k =>
 (am k a.2).bind fun A =>
 bw (am k d) (am k a.2) <|
 ad [.f 1] o fun l =>
 (am l a.2).bind fun B =>
 bw (am l d) (am l a.2) <|
 (FF mg [A, e, B] a.2).bind fun m =>
 bw (am b m.2) (am b a.2) <|
 Af 1 1 [(.pointer none)] [(0, m.1)] m.2 fun C D =>
 (dX 1 8 z C D).bind fun p =>
 st 1 [.n, .f 10] I a.1 p.2 fun E =>
 st 1 [.n, .f 11] I p.1 E fun G =>
 some (e, G)) = some r) : FF iZ [I, K, P] H = some r :=
 fo Tryz.func92 (by kernel_rfl) h
theorem sJ {r : Value × AH} (h : (
 (ak .other .lss L (vi 0)).bind fun a =>
 (gV a false L).bind fun g =>
 (gB a false (ak .other .gtr g (vi 1048576))).bind fun i =>
 (aQ a (vb true) i).bind fun b =>
 (gV b false N).bind fun j =>
 (gB b false (ak .other .lss j (vi 0))).bind fun k =>
 (aQ b (vb true) k).bind fun c =>
 (gV c false N).bind fun l =>
 (gB c false (ak .other .geq l (vi 4294967296))).bind fun m =>
 (aQ c (vb true) m).bind fun o =>
 ax o
 (some ((vb false), H))
 (ad [.n, .f 0] I fun d =>
 (am d H).bind fun p =>
 (FF j3 [P, x3] H).bind fun e =>
 bw (am d e.2) (am d H) <|
 (ak .other .add L (vi 1)).bind fun q =>
 (bO (some .u64) q).bind fun s =>
 (ak .other .shl s (vw 32)).bind fun t =>
 (bO (some .u64) N).bind fun w =>
 (ak .other .or t w).bind fun y =>
 (FF di [p, K, e.1, y] e.2).bind fun z =>
 some ((vb true), z.2))) = some r) : FF iw [I, K, P, x3, L, N] H = some r :=
 fo Tryz.func93 (by kernel_rfl) h
theorem vW {r : Value × AH} (h : (
 (ak .other .lss L (vi 0)).bind fun b =>
 (gV b false L).bind fun g =>
 (gB b false (ak .other .gtr g (vi 1048576))).bind fun i =>
 (aQ b (vb true) i).bind fun c =>
 (gV c false N).bind fun j =>
 (gB c false (ak .other .lss j (vi 0))).bind fun k =>
 (aQ c (vb true) k).bind fun a =>
 (gV a false N).bind fun l =>
 (gB a false (bO (some .u64) l)).bind fun m =>
 (gB a false (ak .other .geq m (vw 4294967296))).bind fun o =>
 (aQ a (vb true) o).bind fun p =>
 ax p
 (some ((vb false), H))
 (ad [.n, .f 0] I fun d =>
 (am d H).bind fun q =>
 (FF bL [(vi 10), P, x3] H).bind fun e =>
 bw (am d e.2) (am d H) <|
 (ak .other .add L (vi 1)).bind fun s =>
 (bO (some .u64) s).bind fun t =>
 (ak .other .mul t (vw 4294967296)).bind fun w =>
 (bO (some .u64) N).bind fun y =>
 (ak .other .add w y).bind fun z =>
 (FF eM [q, K, e.1, z] e.2).bind fun A =>
 some ((vb true), A.2))) = some r) : FF jN [I, K, P, x3, L, N] H = some r :=
 fo Tryz.func94 (by kernel_rfl) h
noncomputable def wD (p : List Nat) : Code := Code.sub (bX Tryz.f98) p
noncomputable def rh : KK := ge PP (Tryz.f98).results.toList
noncomputable def TZ : KK := CQ (wD [1, 1]) rh bV rh
noncomputable def tG : OV := TZ (ls [I, K, P, u, u, u, M] 23) H
noncomputable def Jb : KK := CQ (wD [1, 1, 1]) rh bV rh
noncomputable def TY : KK := gk 1073741759 Jb
noncomputable def tH : OV := Jb (ls [u, u, u, u, u, u, M] 23) H
noncomputable def T4 : KK := CQ (wD [1, 1, 0, 1]) TY bV rh
noncomputable def tI : OV := T4 (ls [I, K, P, u, u, u, M, O] 22) H
noncomputable def Jd : KX := BX 0 TY bV
noncomputable def T8 : KX := uQ 1073741759 Jd
noncomputable def Jc : KK := CX (wD [1, 1, 0, 1, 4, 5]) T8 rh
noncomputable def Zj : KK := gk 1073741624 Jc
noncomputable def tJ : OV := Jc (ls [I, K, P, u, u, u, M, O] 22) H
noncomputable def T6 : KK := CQ (wD [1, 1, 0, 1, 4, 5, 1]) Zj T8 rh
noncomputable def Eg : OV := T6 (ls [I, K, P, u, u, u, M, O] 22) H
noncomputable def oX : OV := Jd 0 (ls [u, u, u, u, u, u, M] 23) H
theorem nu : au 1073741759 rh := rf
theorem T0 : au 1073741752 TZ := rc nu aJ nu
theorem zP : au 1073741759 Jb := rc nu aJ nu
theorem T5 : au 1073741624 T4 := rc (cd zP) aJ nu
theorem zR : ∀ i, au 1073741759 (Jd i) := rb (cd zP) aJ
theorem zQ : au 1073741624 Jc := rl (cx zR) nu
theorem T7 : au 1073741624 T6 := rc (cd zQ) (cx zR) nu
theorem xf : tH M H =
 some ((vb true), H) :=
 (by kernel_rfl)
theorem tF : oX M H = tH M H :=
 (by kernel_rfl)
theorem xh : tJ I K P M O H =
 fq I fun a =>
 (ak .other .lss O a).bind fun b =>
 ax b
 (Eg I K P M O H)
 (oX M H) :=
 yx rfl zQ (pt rfl 0 T7 (by kernel_rfl))
theorem xg : tI I K P M O H =
 tJ I K P M O H :=
 (bt rfl (wD [1, 1, 0, 1, 4]) 0 zR (li rfl (wD [1, 1, 0, 1, 4, 5]) zQ (by kernel_rfl)))
theorem xe : tG I K P M H =
 tI I K P M (vi 0) H :=
 (pt rfl 0 zP (pt rfl 0 T5 (by kernel_rfl)))
noncomputable def PJ : OV := aW PP GG FF (wD []) (ls [I, K, P] 27) H rh bV rh
theorem Eh {r : Value × AH} (h : (
 fq I fun a =>
 fq K fun b =>
 (ak .other .neq a b).bind fun c =>
 ax c
 (some ((vb false), H))
 (tG I K P (vb false) H)) = some r) : FF pa [I, K, P] H = some r :=
 fo (t := PJ I K P H) Tryz.func98 (by kernel_rfl) (Eq.trans (pt rfl 1 T0 (by kernel_rfl)) h)
end
end Go.Proofs.YtghoamdlcjdfjaaGreatDoor.Gst
