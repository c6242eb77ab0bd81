/- Several texts in one. -/
import Derived.Test.YtghoamdlcjdfjaaGreatDoorHb
namespace Go.Proofs.YtghoamdlcjdfjaaGreatDoor.Gst
open Go Go.RowKit
set_option maxRecDepth 100000
set_option linter.unusedVariables false
set_option maxHeartbeats 1000000
section
variable (I K P x3 L N M O x13 J x97 Q R S T U V W X Y Z x297 : Value) (H : AH)
noncomputable def bU (p : List Nat) : Code := Code.sub (bw Tryz.f64) p
noncomputable def eX : KK := dV PP (Tryz.f64).results.toList
noncomputable def Wq : KK := CQ (bU [1, 1, 1]) eX bv eX
noncomputable def Mj : OV := Wq (ls [I, K, u, u, L, N, M, O] 297) H
noncomputable def Ws : KK := CQ (bU [1, 1, 1, 1]) eX bv eX
noncomputable def Mk : OV := Ws (ls [I, K, u, u, L, N, M, O] 297) H
noncomputable def K8 : KK := CQ (bU [1, 1, 1, 1, 1]) eX bv eX
noncomputable def fH : KK := dT Qz K8
noncomputable def dO : OV := K8 (ls [u, u, u, u, L] 300) H
noncomputable def Wu : KK := CQ (bU [1, 1, 1, 1, 0, 1]) fH bv eX
noncomputable def nG : OV := Wu (ls [I, K, u, u, L, N, M, O, u, u, u, u, u, u, u, u, u, u, u, u, u, u, u, u, u, u, u, u, u, u, u, u, u, u, u, u, u, u, u, u, u, u, u, u, u, u, u, u, u, u, u, u, u, u, u, u, u, u, u, u, u, u, u, u, u, u, u, u, u, u, u, u, u, u, u, u, u, u, u, u, u, u, u, u, u, u, u, u, u, u, u, u, u, J] 211) H
noncomputable def Wy : KX := BX 0 fH bv
noncomputable def gM : KX := ou Qz Wy
noncomputable def Ww : KK := CQ (bU [1, 1, 1, 1, 0, 1, 4, 1]) fH gM eX
noncomputable def Mm : OV := Ww (ls [I, K, u, u, L, N, M, O, u, u, u, u, u, u, u, u, u, u, u, u, u, u, u, u, u, u, u, u, u, u, u, u, u, u, u, u, u, u, u, u, u, u, u, u, u, u, u, u, u, u, u, u, u, u, u, u, u, u, u, u, u, u, u, u, u, u, u, u, u, u, u, u, u, u, u, u, u, u, u, u, u, u, u, u, u, u, u, u, u, u, u, u, u, J, u, u, u, x97] 207) H
noncomputable def OU : KK := CQ (bU [1, 1, 1, 1, 0, 1, 4, 1, 3, 1]) fH gM eX
noncomputable def PM : OV := OU (ls [I, K, u, u, L, N, M, O, u, u, u, u, u, u, u, u, u, u, u, u, u, u, u, u, u, u, u, u, u, u, u, u, u, u, u, u, u, u, u, u, u, u, u, u, u, u, u, u, u, u, u, u, u, u, u, u, u, u, u, u, u, u, u, u, u, u, u, u, u, u, u, u, u, u, u, u, u, u, u, u, u, u, u, u, u, u, u, u, u, u, u, u, u, J, u, u, u, u, u, u, u, u, u, u, u, u, u, u, u, u, u, u, Q] 192) H
noncomputable def OW : KK := CQ (bU [1, 1, 1, 1, 0, 1, 4, 1, 3, 1, 3, 1]) fH gM eX
noncomputable def PN : OV := OW (ls [I, K, u, u, L, N, M, O, u, u, u, u, u, u, u, u, u, u, u, u, u, u, u, u, u, u, u, u, u, u, u, u, u, u, u, u, u, u, u, u, u, u, u, u, u, u, u, u, u, u, u, u, u, u, u, u, u, u, u, u, u, u, u, u, u, u, u, u, u, u, u, u, u, u, u, u, u, u, u, u, u, u, u, u, u, u, u, u, u, u, u, u, u, J, u, u, u, u, u, u, u, u, u, u, u, u, u, u, u, u, u, u, u, u, u, u, u, u, u, u, u, u, u, u, u, u, u, u, u, u, u, u, u, R] 171) H
noncomputable def OX : KK := CQ (bU [1, 1, 1, 1, 0, 1, 4, 1, 3, 1, 3, 1, 3, 1]) fH gM eX
noncomputable def PO : OV := OX (ls [I, K, u, u, L, N, M, O, u, u, u, u, u, u, u, u, u, u, u, u, u, u, u, u, u, u, u, u, u, u, u, u, u, u, u, u, u, u, u, u, u, u, u, u, u, u, u, u, u, u, u, u, u, u, u, u, u, u, u, u, u, u, u, u, u, u, u, u, u, u, u, u, u, u, u, u, u, u, u, u, u, u, u, u, u, u, u, u, u, u, u, u, u, J, u, u, u, u, u, u, u, u, u, u, u, u, u, u, u, u, u, u, u, u, u, u, u, u, u, u, u, u, u, u, u, u, u, u, u, u, u, u, u, u, u, u, u, u, u, u, u, u, u, u, u, u, u, u, u, u, u, S] 153) H
noncomputable def OY : KK := CQ (bU [1, 1, 1, 1, 0, 1, 4, 1, 3, 1, 3, 1, 3, 1, 3, 1]) fH gM eX
noncomputable def GX : OV := OY (ls [I, K, u, u, L, N, M, O, u, u, u, u, u, u, u, u, u, u, u, u, u, u, u, u, u, u, u, u, u, u, u, u, u, u, u, u, u, u, u, u, u, u, u, u, u, u, u, u, u, u, u, u, u, u, u, u, u, u, u, u, u, u, u, u, u, u, u, u, u, u, u, u, u, u, u, u, u, u, u, u, u, u, u, u, u, u, u, u, u, u, u, u, u, J, u, u, u, u, u, u, u, u, u, u, u, u, u, u, u, u, u, u, u, u, u, u, u, u, u, u, u, u, u, u, u, u, u, u, u, u, u, u, u, u, u, u, u, u, u, u, u, u, u, u, u, u, u, u, u, u, u, u, u, u, u, u, u, u, u, u, u, u, u, u, u, u, u, u, u, u, u, T] 133) H
noncomputable def OZ : KK := CQ (bU [1, 1, 1, 1, 0, 1, 4, 1, 3, 1, 3, 1, 3, 1, 3, 1, 3, 1]) fH gM eX
noncomputable def PQ : OV := OZ (ls [I, K, u, u, L, N, M, O, u, u, u, u, u, u, u, u, u, u, u, u, u, u, u, u, u, u, u, u, u, u, u, u, u, u, u, u, u, u, u, u, u, u, u, u, u, u, u, u, u, u, u, u, u, u, u, u, u, u, u, u, u, u, u, u, u, u, u, u, u, u, u, u, u, u, u, u, u, u, u, u, u, u, u, u, u, u, u, u, u, u, u, u, u, J, u, u, u, u, u, u, u, u, u, u, u, u, u, u, u, u, u, u, u, u, u, u, u, u, u, u, u, u, u, u, u, u, u, u, u, u, u, u, u, u, u, u, u, u, u, u, u, u, u, u, u, u, u, u, u, u, u, u, u, u, u, u, u, u, u, u, u, u, u, u, u, u, u, u, u, u, u, u, u, u, u, u, u, u, u, u, u, u, u, u, u, u, U] 118) H
noncomputable def O0 : KK := CQ (bU [1, 1, 1, 1, 0, 1, 4, 1, 3, 1, 3, 1, 3, 1, 3, 1, 3, 1, 3, 1]) fH gM eX
noncomputable def GY : OV := O0 (ls [I, K, u, u, L, N, M, O, u, u, u, u, u, u, u, u, u, u, u, u, u, u, u, u, u, u, u, u, u, u, u, u, u, u, u, u, u, u, u, u, u, u, u, u, u, u, u, u, u, u, u, u, u, u, u, u, u, u, u, u, u, u, u, u, u, u, u, u, u, u, u, u, u, u, u, u, u, u, u, u, u, u, u, u, u, u, u, u, u, u, u, u, u, J, u, u, u, u, u, u, u, u, u, u, u, u, u, u, u, u, u, u, u, u, u, u, u, u, u, u, u, u, u, u, u, u, u, u, u, u, u, u, u, u, u, u, u, u, u, u, u, u, u, u, u, u, u, u, u, u, u, u, u, u, u, u, u, u, u, u, u, u, u, u, u, u, u, u, u, u, u, u, u, u, u, u, u, u, u, u, u, u, u, u, u, u, u, u, u, u, u, u, u, u, u, u, u, V] 107) H
noncomputable def O1 : KK := CQ (bU [1, 1, 1, 1, 0, 1, 4, 1, 3, 1, 3, 1, 3, 1, 3, 1, 3, 1, 3, 1, 2, 1, 1]) fH gM eX
noncomputable def PR : OV := O1 (ls [I, u, u, u, L, u, u, u, u, u, u, u, u, x13] 291) H
noncomputable def aaL : KX := BX 1 fH gM
noncomputable def O2 : KK := CQ (bU [1, 1, 1, 1, 0, 1, 4, 1, 3, 1, 3, 1, 3, 1, 3, 1, 3, 1, 3, 1, 3, 1]) fH gM eX
noncomputable def GZ : OV := O2 (ls [I, K, u, u, L, N, M, O, u, u, u, u, u, u, u, u, u, u, u, u, u, u, u, u, u, u, u, u, u, u, u, u, u, u, u, u, u, u, u, u, u, u, u, u, u, u, u, u, u, u, u, u, u, u, u, u, u, u, u, u, u, u, u, u, u, u, u, u, u, u, u, u, u, u, u, u, u, u, u, u, u, u, u, u, u, u, u, u, u, u, u, u, u, J, u, u, u, u, u, u, u, u, u, u, u, u, u, u, u, u, u, u, u, u, u, u, u, u, u, u, u, u, u, u, u, u, u, u, u, u, u, u, u, u, u, u, u, u, u, u, u, u, u, u, u, u, u, u, u, u, u, u, u, u, u, u, u, u, u, u, u, u, u, u, u, u, u, u, u, u, u, u, u, u, u, u, u, u, u, u, u, u, u, u, u, u, u, u, u, u, u, u, u, u, u, u, u, u, u, u, u, u, u, u, u, u, u, u, u, u, u, u, u, u, u, u, u, u, u, u, u, u, u, u, u, u, u, u, u, u, u, u, u, u, u, u, u, u, u, u, u, u, W] 62) H
noncomputable def O3 : KK := CQ (bU [1, 1, 1, 1, 0, 1, 4, 1, 3, 1, 3, 1, 3, 1, 3, 1, 3, 1, 3, 1, 3, 1, 3, 1]) fH gM eX
noncomputable def uJ : OV := O3 (ls [I, K, u, u, L, N, M, O, u, u, u, u, u, u, u, u, u, u, u, u, u, u, u, u, u, u, u, u, u, u, u, u, u, u, u, u, u, u, u, u, u, u, u, u, u, u, u, u, u, u, u, u, u, u, u, u, u, u, u, u, u, u, u, u, u, u, u, u, u, u, u, u, u, u, u, u, u, u, u, u, u, u, u, u, u, u, u, u, u, u, u, u, u, J, u, u, u, u, u, u, u, u, u, u, u, u, u, u, u, u, u, u, u, u, u, u, u, u, u, u, u, u, u, u, u, u, u, u, u, u, u, u, u, u, u, u, u, u, u, u, u, u, u, u, u, u, u, u, u, u, u, u, u, u, u, u, u, u, u, u, u, u, u, u, u, u, u, u, u, u, u, u, u, u, u, u, u, u, u, u, u, u, u, u, u, u, u, u, u, u, u, u, u, u, u, u, u, u, u, u, u, u, u, u, u, u, u, u, u, u, u, u, u, u, u, u, u, u, u, u, u, u, u, u, u, u, u, u, u, u, u, u, u, u, u, u, u, u, u, u, u, u, u, u, u, u, u, u, X] 56) H
noncomputable def O4 : KK := CQ (bU [1, 1, 1, 1, 0, 1, 4, 1, 3, 1, 3, 1, 3, 1, 3, 1, 3, 1, 3, 1, 3, 1, 3, 1, 3, 1]) fH gM eX
noncomputable def G0 : OV := O4 (ls [I, K, u, u, L, N, M, u, u, u, u, u, u, u, u, u, u, u, u, u, u, u, u, u, u, u, u, u, u, u, u, u, u, u, u, u, u, u, u, u, u, u, u, u, u, u, u, u, u, u, u, u, u, u, u, u, u, u, u, u, u, u, u, u, u, u, u, u, u, u, u, u, u, u, u, u, u, u, u, u, u, u, u, u, u, u, u, u, u, u, u, u, u, J, u, u, u, u, u, u, u, u, u, u, u, u, u, u, u, u, u, u, u, u, u, u, u, u, u, u, u, u, u, u, u, u, u, u, u, u, u, u, u, u, u, u, u, u, u, u, u, u, u, u, u, u, u, u, u, u, u, u, u, u, u, u, u, u, u, u, u, u, u, u, u, u, u, u, u, u, u, u, u, u, u, u, u, u, u, u, u, u, u, u, u, u, u, u, u, u, u, u, u, u, u, u, u, u, u, u, u, u, u, u, u, u, u, u, u, u, u, u, u, u, u, u, u, u, u, u, u, u, u, u, u, u, u, u, u, u, u, u, u, u, u, u, u, u, u, u, u, u, u, u, u, u, u, u, u, u, u, u, u, u, u, u, u, u, u, u, u, u, u, u, u, u, u, u, u, u, u, u, Y] 32) H
noncomputable def O5 : KK := CQ (bU [1, 1, 1, 1, 0, 1, 4, 1, 3, 1, 3, 1, 3, 1, 3, 1, 3, 1, 3, 1, 3, 1, 3, 1, 3, 1, 3, 1]) fH gM eX
noncomputable def PS : OV := O5 (ls [I, K, u, u, L, N, M, u, u, u, u, u, u, u, u, u, u, u, u, u, u, u, u, u, u, u, u, u, u, u, u, u, u, u, u, u, u, u, u, u, u, u, u, u, u, u, u, u, u, u, u, u, u, u, u, u, u, u, u, u, u, u, u, u, u, u, u, u, u, u, u, u, u, u, u, u, u, u, u, u, u, u, u, u, u, u, u, u, u, u, u, u, u, J, u, u, u, u, u, u, u, u, u, u, u, u, u, u, u, u, u, u, u, u, u, u, u, u, u, u, u, u, u, u, u, u, u, u, u, u, u, u, u, u, u, u, u, u, u, u, u, u, u, u, u, u, u, u, u, u, u, u, u, u, u, u, u, u, u, u, u, u, u, u, u, u, u, u, u, u, u, u, u, u, u, u, u, u, u, u, u, u, u, u, u, u, u, u, u, u, u, u, u, u, u, u, u, u, u, u, u, u, u, u, u, u, u, u, u, u, u, u, u, u, u, u, u, u, u, u, u, u, u, u, u, u, u, u, u, u, u, u, u, u, u, u, u, u, u, u, u, u, u, u, u, u, u, u, u, u, u, u, u, u, u, u, u, u, u, u, u, u, u, u, u, u, u, u, u, u, u, u, u, u, u, u, u, u, u, u, u, u, u, Z] 21) H
noncomputable def O6 : KK := CQ (bU [1, 1, 1, 1, 0, 1, 4, 1, 3, 1, 3, 1, 3, 1, 3, 1, 3, 1, 3, 1, 3, 1, 3, 1, 3, 1, 3, 1, 3, 1]) fH gM eX
noncomputable def jM : OV := O6 (ls [I, K, u, u, L, u, M, u, u, u, u, u, u, u, u, u, u, u, u, u, u, u, u, u, u, u, u, u, u, u, u, u, u, u, u, u, u, u, u, u, u, u, u, u, u, u, u, u, u, u, u, u, u, u, u, u, u, u, u, u, u, u, u, u, u, u, u, u, u, u, u, u, u, u, u, u, u, u, u, u, u, u, u, u, u, u, u, u, u, u, u, u, u, u, u, u, u, u, u, u, u, u, u, u, u, u, u, u, u, u, u, u, u, u, u, u, u, u, u, u, u, u, u, u, u, u, u, u, u, u, u, u, u, u, u, u, u, u, u, u, u, u, u, u, u, u, u, u, u, u, u, u, u, u, u, u, u, u, u, u, u, u, u, u, u, u, u, u, u, u, u, u, u, u, u, u, u, u, u, u, u, u, u, u, u, u, u, u, u, u, u, u, u, u, u, u, u, u, u, u, u, u, u, u, u, u, u, u, u, u, u, u, u, u, u, u, u, u, u, u, u, u, u, u, u, u, u, u, u, u, u, u, u, u, u, u, u, u, u, u, u, u, u, u, u, u, u, u, u, u, u, u, u, u, u, u, u, u, u, u, u, u, u, u, u, u, u, u, u, u, u, u, u, u, u, u, u, u, u, u, u, u, u, u, u, u, u, u, u, u, u, u, u, u, u, u, u, x297] 7) H
theorem cH : aq Qz eX := rf
theorem Wr : aq ab7 Wq := rc cH aA cH
theorem Wt : aq ab7 Ws := rc cH aA cH
theorem cC : aq Qz K8 := rc cH aA cH
theorem Wv : aq 65185151242703554760590262029100101153646988597309960020356494369436681278143732398675721996 Wu := rc (cd cC) aA cH
theorem cS : ∀ i, aq Qz (Wy i) := rb (cd cC) aA
theorem Wx : aq 65185151242703554760590262029100101153646988597309960020356494210980356249615057211587821324 Ww := rc (cd cC) (cx cS) cH
theorem Si : aq 65185151242703554760590262029100101153646988597309960020351302072578146450515201902346501900 OU := rc (cd cC) (cx cS) cH
theorem Sj : aq 65185151242703554760590262029100101153646988597309949131320752899405850450156294582092955404 OW := rc (cd cC) (cx cS) cH
theorem Sk : aq 65185151242703554760590262029100101153646988594455464634944574607320109339244742125910228748 OX := rc (cd cC) (cx cS) cH
theorem Sm : aq 65185151242703554760590262029100101153643995441956706331180013222899278330519477048827707148 OY := rc (cd cC) (cx cS) cH
theorem Sn : aq 65185151242703554760590262029100101055567273981893073085422284631816893526544428578925182732 OZ := rc (cd cC) (cx cS) cH
theorem So : aq 65185151242703554760590262029099900286391456223525517275094951724111366002769509549571309324 O0 := rc (cd cC) (cx cS) cH
theorem Sq : aq 65185151242703554760590262029100101153646988597309960020356494379340201592426774597868707822 O1 := rc (cd cC) (cx cS) cH
theorem Sy : ∀ i, aq Qz (aaL i) := rb (cd cC) (cx cS)
theorem Sr : aq 65185151242703554753522873769986563835313798594338285957046558781934205445657307593505242892 O2 := rc (cd cC) (cx cS) cH
theorem Ss : aq 65185151242703554308277413445833712780322828407122819968520616769278227999012544867765059340 O3 := rc (cd cC) (cx cS) cH
theorem Su : aq 65185151235115004400333507845820953080117617868238058305309074364546789052601137534592876428 O4 := rc (cd cC) (cx cS) cH
theorem Sw : aq 65185135701352416954757694673404846565495735458055247603240324354937403366909450757007736716 O5 := rc (cd cC) (cx cS) cH
theorem Sx : aq 64930521745661743999806706318048928883515555048101717989026976823170903929956357509595791276 O6 := rc (cd cC) (cx cS) cH
theorem bI : dO L H =
 some ((vb false), H) :=
 (by kernel_rfl)
theorem Ml : PR I L x13 H =
 (FF bx [I] H).bind fun a =>
 ad [.n, .f 11] I fun c =>
 (ap c a.2).bind fun e =>
 bE (ap c H) (ap c a.2) <|
 ad [.n, .f 12] I fun d =>
 (ap d a.2).bind fun g =>
 bE (ap d H) (ap d a.2) <|
 (FF f3 [a.1, e, g] a.2).bind fun b =>
 au b.1
 (st 1 [.n, .f 6] I (vi 15) b.2 fun i =>
 dO L i)
 ((aj .other .eql x13 (vi 1)).bind fun j =>
 au j
 (st 1 [.n, .f 6] I (vi 9) b.2 fun k =>
 dO L k)
 (st 1 [.n, .f 6] I (vi 12) b.2 fun l =>
 dO L l)) :=
 (bt rfl (bU [1, 1, 1, 1, 0, 1, 4, 1, 3, 1, 3, 1, 3, 1, 3, 1, 3, 1, 3, 1, 2, 1, 1, 4]) 1 Sy (by kernel_rfl))
theorem kV : jM I K L M x297 H =
 au x297
 ((FF acK [I, K] H).bind fun a =>
 some (a.1, a.2))
 ((FF XC [I, M] H).bind fun b =>
 some (b.1, b.2)) :=
 (by kernel_rfl)
theorem BN : PS I K L N M J Z H =
 au Z
 (ld [.n, .f 6] N H fun d =>
 ld [.n, .f 1] I H fun e =>
 (FF gY [d, e] H).bind fun g =>
 st 1 [.n, .f 6] I (vi 13) g.2 fun i =>
 dO L i)
 ((aj .other .eql J (vi 15)).bind fun a =>
 au a
 (jM I K L M a H)
 ((aj .other .eql J (vi 16)).bind fun b =>
 au b
 (jM I K L M b H)
 ((aj .other .eql J (vi 17)).bind fun c =>
 au c
 (jM I K L M c H)
 ((aj .other .eql J (vi 18)).bind fun j =>
 jM I K L M j H)))) :=
 (ct rfl (bU [1, 1, 1, 1, 0, 1, 4, 1, 3, 1, 3, 1, 3, 1, 3, 1, 3, 1, 3, 1, 3, 1, 3, 1, 3, 1, 3, 1, 2]) (bU [1, 1, 1, 1, 0, 1, 4, 1, 3, 1, 3, 1, 3, 1, 3, 1, 3, 1, 3, 1, 3, 1, 3, 1, 3, 1, 3, 1, 3]) (.tmp 283) (by kernel_rfl) (pt rfl 0 Sx (by kernel_rfl)))
theorem sD : G0 I K L N M J Y H =
 au Y
 ((FF bx [I] H).bind fun a =>
 ad [.n, .f 1] I fun b =>
 (ap b a.2).bind fun d =>
 bE (ap b H) (ap b a.2) <|
 (FF dL [I] a.2).bind fun c =>
 bE (ap b c.2) (ap b a.2) <|
 (FF f5 [a.1, d, c.1] c.2).bind fun e =>
 some ((vb true), e.2))
 ((aj .other .eql J (vi 12)).bind fun g =>
 PS I K L N M J g H) :=
 (ct rfl (bU [1, 1, 1, 1, 0, 1, 4, 1, 3, 1, 3, 1, 3, 1, 3, 1, 3, 1, 3, 1, 3, 1, 3, 1, 3, 1, 2]) (bU [1, 1, 1, 1, 0, 1, 4, 1, 3, 1, 3, 1, 3, 1, 3, 1, 3, 1, 3, 1, 3, 1, 3, 1, 3, 1, 3]) (.tmp 272) (by kernel_rfl) (pt rfl 0 Sw (by kernel_rfl)))
theorem sC : uJ I K L N M O J X H =
 au X
 ((FF bx [I] H).bind fun a =>
 ad [.n, .f 1] I fun c =>
 (ap c a.2).bind fun e =>
 bE (ap c H) (ap c a.2) <|
 (FF dL [I] a.2).bind fun b =>
 bE (ap c b.2) (ap c a.2) <|
 (ax 3 O b.2).bind fun g =>
 bE (ax 3 O H) (ax 3 O b.2) <|
 bE (ax 3 O a.2) (ax 3 O b.2) <|
 (FF kK [a.1, e, b.1, g] b.2).bind fun i =>
 st 1 [.n, .f 6] I (vi 11) i.2 fun d =>
 ld [.n, .f 13] I d fun j =>
 (aj .other .eql j (vw 1)).bind fun k =>
 au k
 (st 1 [.n, .f 6] I (vi 21) d fun l =>
 dO L l)
 (dO L d))
 ((aj .other .eql J (vi 11)).bind fun m =>
 G0 I K L N M J m H) :=
 (ct rfl (bU [1, 1, 1, 1, 0, 1, 4, 1, 3, 1, 3, 1, 3, 1, 3, 1, 3, 1, 3, 1, 3, 1, 3, 1, 2]) (bU [1, 1, 1, 1, 0, 1, 4, 1, 3, 1, 3, 1, 3, 1, 3, 1, 3, 1, 3, 1, 3, 1, 3, 1, 3]) (.tmp 248) (by kernel_rfl) (pt rfl 0 Su (by kernel_rfl)))
theorem sB : GZ I K L N M O J W H =
 au W
 ((FF iI [I, K] H).bind fun b =>
 dO L b.2)
 ((aj .other .eql J (vi 10)).bind fun a =>
 au a
 (uJ I K L N M O J a H)
 ((aj .other .eql J (vi 14)).bind fun c =>
 uJ I K L N M O J c H)) :=
 (ct rfl (bU [1, 1, 1, 1, 0, 1, 4, 1, 3, 1, 3, 1, 3, 1, 3, 1, 3, 1, 3, 1, 3, 1, 2]) (bU [1, 1, 1, 1, 0, 1, 4, 1, 3, 1, 3, 1, 3, 1, 3, 1, 3, 1, 3, 1, 3, 1, 3]) (.tmp 242) (by kernel_rfl) (pt rfl 0 Ss (by kernel_rfl)))
theorem nH : GY I K L N M O J V H =
 au V
 ((FF bx [I] H).bind fun a =>
 ad [.n, .f 1] I fun c =>
 (ap c a.2).bind fun i =>
 bE (ap c H) (ap c a.2) <|
 (FF f4 [a.1, i] a.2).bind fun d =>
 st 1 [.n, .f 12] I d.1 d.2 fun e =>
 ld [.n, .f 11] I e fun j =>
 (FF e6 [j] e).bind fun b =>
 (ah b.1 0).bind fun m =>
 (ah b.1 1).bind fun k =>
 (ah b.1 2).bind fun o =>
 PR I L k b.2)
 ((aj .other .eql J (vi 9)).bind fun g =>
 au g
 (GZ I K L N M O J g H)
 ((aj .other .eql J (vi 13)).bind fun l =>
 GZ I K L N M O J l H)) :=
 (ct rfl (bU [1, 1, 1, 1, 0, 1, 4, 1, 3, 1, 3, 1, 3, 1, 3, 1, 3, 1, 3, 1, 2]) (bU [1, 1, 1, 1, 0, 1, 4, 1, 3, 1, 3, 1, 3, 1, 3, 1, 3, 1, 3, 1, 3]) (.tmp 197) (pt rfl 1 Sq (by kernel_rfl)) (pt rfl 0 Sr (by kernel_rfl)))
theorem BM : PQ I K L N M O J U H =
 au U
 (st 1 [.n, .f 6] I (vi 8) H fun b =>
 (FF f6 [I] b).bind fun a =>
 (aj .other .eql a.1 (vi 2)).bind fun c =>
 au c
 (st 1 [.n, .f 6] I (vi 3) a.2 fun d =>
 dO L d)
 (dO L a.2))
 ((aj .other .eql J (vi 8)).bind fun e =>
 GY I K L N M O J e H) :=
 (ct rfl (bU [1, 1, 1, 1, 0, 1, 4, 1, 3, 1, 3, 1, 3, 1, 3, 1, 3, 1, 2]) (bU [1, 1, 1, 1, 0, 1, 4, 1, 3, 1, 3, 1, 3, 1, 3, 1, 3, 1, 3]) (.tmp 186) (by kernel_rfl) (pt rfl 0 So (by kernel_rfl)))
theorem sA : GX I K L N M O J T H =
 au T
 (ld [.n, .f 1] I H fun a =>
 ld [.n, .f 10] I H fun b =>
 (FF jq [N, a, b] H).bind fun c =>
 st 1 [.n, .f 6] I (vi 7) c.2 fun d =>
 dO L d)
 ((aj .other .eql J (vi 7)).bind fun e =>
 PQ I K L N M O J e H) :=
 (ct rfl (bU [1, 1, 1, 1, 0, 1, 4, 1, 3, 1, 3, 1, 3, 1, 3, 1, 2]) (bU [1, 1, 1, 1, 0, 1, 4, 1, 3, 1, 3, 1, 3, 1, 3, 1, 3]) (.tmp 171) (by kernel_rfl) (pt rfl 0 Sn (by kernel_rfl)))
theorem BL : PO I K L N M O J S H =
 au S
 (ld [.n, .f 7] N H fun b =>
 ld [.n, .f 1] I H fun c =>
 (FF gk [b, c, M] H).bind fun a =>
 ld [.n, .f 9] I a.2 fun d =>
 (pr .not d).bind fun e =>
 au e
 (some ((vb true), a.2))
 (st 1 [.n, .f 6] I (vi 6) a.2 fun g =>
 dO L g))
 ((aj .other .eql J (vi 6)).bind fun i =>
 GX I K L N M O J i H) :=
 (ct rfl (bU [1, 1, 1, 1, 0, 1, 4, 1, 3, 1, 3, 1, 3, 1, 2]) (bU [1, 1, 1, 1, 0, 1, 4, 1, 3, 1, 3, 1, 3, 1, 3]) (.tmp 151) (by kernel_rfl) (pt rfl 0 Sm (by kernel_rfl)))
theorem sy : PN I K L N M O J R H =
 au R
 ((FF Pr [I] H).bind fun a =>
 (ah a.1 0).bind fun b =>
 (ah a.1 1).bind fun c =>
 au b
 (st 1 [.n, .f 6] I (vi 5) a.2 fun d =>
 dO L d)
 (au c
 ((FF ch [I, K, (vi 5)] a.2).bind fun e =>
 st 1 [.n, .f 6] I (vi 5) e.2 fun g =>
 dO L g)
 (dO L a.2)))
 ((aj .other .eql J (vi 5)).bind fun i =>
 PO I K L N M O J i H) :=
 (ct rfl (bU [1, 1, 1, 1, 0, 1, 4, 1, 3, 1, 3, 1, 2]) (bU [1, 1, 1, 1, 0, 1, 4, 1, 3, 1, 3, 1, 3]) (.tmp 133) (by kernel_rfl) (pt rfl 0 Sk (by kernel_rfl)))
theorem nF : PM I K L N M O J Q H =
 au Q
 (ld [.n, .f 7] N H fun b =>
 ld [.n, .f 1] I H fun c =>
 (FF iG [b, c, M] H).bind fun a =>
 au a.1
 (st 1 [.n, .f 6] I (vi 4) a.2 fun d =>
 st 1 [.n, .f 7] I (vi 0) d fun e =>
 st 1 [.n, .f 9] I (vb false) e fun g =>
 dO L g)
 (dO L a.2))
 ((aj .other .eql J (vi 4)).bind fun i =>
 PN I K L N M O J i H) :=
 (ct rfl (bU [1, 1, 1, 1, 0, 1, 4, 1, 3, 1, 2]) (bU [1, 1, 1, 1, 0, 1, 4, 1, 3, 1, 3]) (.tmp 112) (by kernel_rfl) (pt rfl 0 Sj (by kernel_rfl)))
theorem mT : Mm I K L N M O J x97 H =
 au x97
 ((FF Pr [I] H).bind fun a =>
 (ah a.1 0).bind fun b =>
 (ah a.1 1).bind fun c =>
 au b
 (st 1 [.n, .f 6] I (vi 6) a.2 fun d =>
 dO L d)
 (au c
 (st 1 [.n, .f 6] I (vi 3) a.2 fun e =>
 dO L e)
 (dO L a.2)))
 ((aj .other .eql J (vi 3)).bind fun g =>
 PM I K L N M O J g H) :=
 (ct rfl (bU [1, 1, 1, 1, 0, 1, 4, 1, 2]) (bU [1, 1, 1, 1, 0, 1, 4, 1, 3]) (.tmp 97) (by kernel_rfl) (pt rfl 0 Si (by kernel_rfl)))
theorem jZ : nG I K L N M O J H =
 (aj .other .eql J (vi 2)).bind fun a =>
 Mm I K L N M O J a H :=
 (bt rfl (bU [1, 1, 1, 1, 0, 1, 4]) 0 cS (pt rfl 0 Wx (by kernel_rfl)))
theorem D6 : Mk I K L N M O H =
 ld [.n, .f 6] I H fun a =>
 nG I K L N M O a H :=
 (pt rfl 0 cC (pt rfl 0 Wv (by kernel_rfl)))
theorem D5 : Mj I K L N M O H =
 ld [.n, .f 6] I H fun c =>
 (aj .other .eql c (vi 0)).bind fun d =>
 au d
 (ld [.n, .f 2, .f 2] I H fun e =>
 (aj .other .lss e (vi 1)).bind fun a =>
 (gV a false I).bind fun g =>
 ed a false  [.n, .f 2, .f 2] g H fun i =>
 (gB a false (aj .other .gtr i (vi 65536))).bind fun j =>
 (aH a (vb true) j).bind fun k =>
 au k
 ((FF ch [I, K, (vi 3)] H).bind fun l =>
 some ((vb true), l.2))
 (ld [.n, .f 2, .f 1] I H fun m =>
 (aj .other .lss m (vi 0)).bind fun b =>
 (gV b false I).bind fun o =>
 ed b false  [.n, .f 2, .f 1] o H fun p =>
 (gB b false (aj .other .gtr p (vi 1048576))).bind fun q =>
 (aH b (vb true) q).bind fun s =>
 au s
 ((FF ch [I, K, (vi 5)] H).bind fun t =>
 some ((vb true), t.2))
 (st 1 [.n, .f 6] I (vi 2) H fun w =>
 Mk I K L N M O w)))
 (Mk I K L N M O H) :=
 (pt rfl 0 Wt (by kernel_rfl))
noncomputable def rTE : OV := aQ PP GG FF (bU []) (ls [I, K] 303) H eX bv eX
theorem ad2 {r : Value × AH} (h : (
 ad [.n, .f 0] I fun b =>
 (ap b H).bind fun d =>
 ld [.n, .f 0] I H fun e =>
 ld [.n, .f 7] e H fun g =>
 ld [.n, .f 2, .f 1] I H fun i =>
 (FF eI [g, i] H).bind fun a =>
 bE (ap b a.2) (ap b H) <|
 ld [.n, .f 2, .f 1] I a.2 fun j =>
 ld [.n, .f 2, .f 2] I a.2 fun k =>
 ld [.n, .f 2, .f 3] I a.2 fun l =>
 gR [(0, 1), (1, 1), (2, 1)] [(vi 0), (vi 0), (vi 0)] [(0, j), (1, k), (2, l)] fun m =>
 aS [(vi 0), (vi 0), (vi 0)] a.2 fun c o =>
 (cZ 3 c m o).bind fun p =>
 Mj I K (vb false) d a.1 c p) = some r) : FF dj [I, K] H = some r :=
 fo (t := rTE I K H) Tryz.func64 (by kernel_rfl) (Eq.trans (pt rfl 2 Wr (by kernel_rfl)) h)
theorem IB {r : Value × AH} (h : (
 aS [(vi 0), (.slice none 0 0), (vi 0), (vw 0)] H fun a b =>
 au K
 (ldN 4 [.n, .f 17] I b fun e =>
 (cZ 4 a e b).bind fun c =>
 (ax 4 a c).bind fun g => some (g, c))
 (gR [(0, 1), (1, 1), (2, 1), (3, 1)] [(vi 0), (.slice none 0 0), (vi 0), (vw 0)] [] fun i =>
 (cZ 4 a i b).bind fun d =>
 (ax 4 a d).bind fun j => some (j, d))) = some r) : FF rZ [I, K] H = some r :=
 fo Tryz.func65 (by kernel_rfl) h
theorem A8 {r : Value × AH} (h : (
 ld [.n, .f 1] I H fun a =>
 dt a fun b =>
 some (b, H)) = some r) : FF fV [I] H = some r :=
 fo Tryz.func66 (by kernel_rfl) h
theorem ad6 {r : Value × AH} (h : (
 (aj .slice .eql I (.slice none 0 0)).bind fun b =>
 au b
 (some ((.slice none 0 0), H))
 (sK 0 5 [(vi 0), (vi 0), (vi 0), (vi 0), (vi 0)] [] H fun c d =>
 (cO 5 40 c I d).bind fun a =>
 some (a.1, a.2))) = some r) : FF XE [I] H = some r :=
 fo Tryz.func71 (by kernel_rfl) h
theorem vz {r : Value × AH} (h : (
 aS [(vi 0), (vi 0), (vi 0)] H fun a c =>
 gR [(0, 1), (1, 1), (2, 1)] [(vi 0), (vi 0), (vi 0)] [(0, I), (1, K)] fun d =>
 (cZ 3 a d c).bind fun b =>
 (ax 3 a b).bind fun e => some (e, b)) = some r) : FF aY [I, K] H = some r :=
 fo Tryz.func73 (by kernel_rfl) h
theorem yP {r : Value × AH} (h : (
 aS [(vi 0), (vi 0), (vi 0)] H fun a b =>
 ld [.n, .f 1] I b fun d =>
 gR [(0, 1), (1, 1), (2, 1)] [(vi 0), (vi 0), (vi 0)] [(0, K), (1, d), (2, P)] fun e =>
 (cZ 3 a e b).bind fun c =>
 (ax 3 a c).bind fun g => some (g, c)) = some r) : FF cW [I, K, P] H = some r :=
 fo Tryz.func75 (by kernel_rfl) h
theorem GE {r : Value × AH} (h : (
 aS (Value.cells I).toList H fun a i =>
 aS [(vi 0), (.slice none 0 0), (vi 0), (vw 0)] i fun b c =>
 ld [.f 1] a c fun j =>
 (FF XD [j] c).bind fun d =>
 st 1 [.f 1] a d.1 d.2 fun e =>
 (ax 4 a e).bind fun k =>
 (cZ 4 b k e).bind fun g =>
 (ax 4 b g).bind fun l => some (l, g)) = some r) : FF pd [I] H = some r :=
 fo Tryz.func79 (by kernel_rfl) h
theorem lG {r : Value × AH} (h : (
 ld [.n, .f 2] I H fun a =>
 dt a fun b =>
 (bV (some .u64) b).bind fun c =>
 (aj .other .rem K c).bind fun d =>
 (bV (some .i64) d).bind fun e =>
 some (e, H)) = some r) : FF cu [I, K] H = some r :=
 fo Tryz.func80 (by kernel_rfl) h
theorem A9 {r : Value × AH} (h : (
 aS (Value.cells I).toList H fun a l =>
 ld [.f 0] a l fun m =>
 (FF dK [m, (vi 1), (vi 4)] l).bind fun b =>
 ed b.1 true  [.f 1] a b.2 fun n =>
 (gE b.1 true b.2 (FF dK [n, (vi 1), (vi 4)] b.2)).bind fun c =>
 (aH b.1 c.1 (vb false)).bind fun g =>
 ed g true  [.f 2] a c.2 fun o =>
 (gE g true c.2 (FF dK [o, (vi 1), (vi 6)] c.2)).bind fun d =>
 (aH g d.1 (vb false)).bind fun i =>
 ed i true  [.f 3] a d.2 fun p =>
 (gE i true d.2 (FF dK [p, (vi 0), (vi 40)] d.2)).bind fun e =>
 (aH i e.1 (vb false)).bind fun j =>
 ed j true  [.f 4] a e.2 fun q =>
 (gB j true (aj .other .geq q (vw 1))).bind fun s =>
 (aH j s (vb false)).bind fun k =>
 ed k true  [.f 4] a e.2 fun t =>
 (gB k true (aj .other .leq t (vw 4611686018427387904))).bind fun w =>
 (aH k w (vb false)).bind fun y =>
 some (y, e.2)) = some r) : FF lT [I] H = some r :=
 fo Tryz.func81 (by kernel_rfl) h
theorem LE (H : AH) {r : Value × AH} (h : (
 CG H fun a b =>
 gR [(0, 1), (1, 1)] [(.map none), (.slice none 0 0)] [(0, a)] fun c =>
 aS (Value.cells c).toList b fun d e =>
 some (d, e)) = some r) : FF vO [] H = some r :=
 fo Tryz.func82 (by kernel_rfl) h
theorem Gf {r : Value × AH} (h : (
 (eN [K, (vi 1)]).bind fun a =>
 (ii [a, (vi 4)]).bind fun b =>
 CG H fun c d =>
 gR [(0, 1), (1, 1), (2, 1), (3, 1), (4, 1)] [(.pointer none), (vi 0), (.map none), Value.nilFunc, Value.nilFunc] [(0, I), (1, b), (2, c), (3, (.func (.func aY) #[(vi 9)] #[])), (4, (.func (.func aY) #[(vi 14)] #[]))] fun e =>
 aS (Value.cells e).toList d fun f g =>
 some (f, g)) = some r) : FF o8 [I, K] H = some r :=
 fo Tryz.func83 (by kernel_rfl) h
theorem Hg {r : Value × AH} (h : (
 (eN [K, (vi 1)]).bind fun a =>
 (ii [a, (vi 4)]).bind fun b =>
 (eN [P, (vi 1)]).bind fun c =>
 (ii [c, (vi 4)]).bind fun d =>
 gR [(0, 1), (1, 1), (2, 1)] [(.pointer none), (vi 0), (vi 0)] [(0, I), (1, b), (2, d)] fun e =>
 aS (Value.cells e).toList H fun f g =>
 some (f, g)) = some r) : FF pk [I, K, P] H = some r :=
 fo Tryz.func84 (by kernel_rfl) h
theorem IV {r : Value × AH} (h : (
 (eN [K, (vi 1)]).bind fun a =>
 (ii [a, (vi 6)]).bind fun b =>
 CG H fun c d =>
 CG d fun e f =>
 gR [(0, 1), (1, 1), (2, 1), (3, 1)] [(.pointer none), (vi 0), (.map none), (.map none)] [(0, I), (1, b), (2, c), (3, e)] fun g =>
 aS (Value.cells g).toList f fun i j =>
 some (i, j)) = some r) : FF r4 [I, K] H = some r :=
 fo Tryz.func85 (by kernel_rfl) h
theorem HS {r : Value × AH} (h : (
 aS (Value.cells I).toList H fun c b =>
 ld [.f 0] c b fun d =>
 ld [.f 3] c b fun e =>
 (FF pf [d, e] b).bind fun a =>
 CG a.2 fun g i =>
 CG i fun j k =>
 gR [(0, 1), (1, 1), (2, 1), (3, 1), (4, 1), (5, 1), (6, 1), (7, 1), (8, 3)] [Value.nilFunc, Value.nilFunc, Value.nilFunc, (vw 0), (vw 0), (vi 0), (.map none), (.map none), (vb false), (vi 0), (vw 0)] [(0, (.func (.func r5) #[a.1] #[])), (1, (.func (.func tW) #[a.1] #[])), (2, (.func (.func tV) #[a.1] #[])), (6, g), (7, j)] fun l =>
 aS (Value.cells l).toList k fun m n =>
 some (m, n)) = some r) : FF rV [I] H = some r :=
 fo Tryz.func86 (by kernel_rfl) h
theorem yK {r : Value × AH} (h : (
 (eN [K, (vi 1)]).bind fun a =>
 (ii [a, (vi 4)]).bind fun b =>
 gR [(0, 1), (1, 1), (2, 1), (3, 1)] [(.pointer none), (vi 0), (.slice none 0 0), (.slice none 0 0)] [(0, I), (1, b)] fun c =>
 aS (Value.cells c).toList H fun d e =>
 some (d, e)) = some r) : FF kH [I, K] H = some r :=
 fo Tryz.func87 (by kernel_rfl) h
theorem yM {r : Value × AH} (h : (
 (eN [K, (vi 1)]).bind fun a =>
 (ii [a, (vi 4)]).bind fun b =>
 (eN [P, (vi 1)]).bind fun c =>
 (ii [c, (vi 4)]).bind fun d =>
 gR [(0, 1), (1, 1), (2, 1)] [(.pointer none), (vi 0), (vi 0)] [(0, I), (1, b), (2, d)] fun e =>
 aS (Value.cells e).toList H fun f g =>
 some (f, g)) = some r) : FF kJ [I, K, P] H = some r :=
 fo Tryz.func88 (by kernel_rfl) h
theorem BD {r : Value × AH} (h : (
 (eN [K, (vi 1)]).bind fun a =>
 (ii [a, (vi 6)]).bind fun b =>
 gR [(0, 1), (1, 1), (2, 1), (3, 1), (4, 1), (5, 1)] [(.pointer none), (vi 0), (.slice none 0 0), (.slice none 0 0), (.slice none 0 0), (.slice none 0 0)] [(0, I), (1, b)] fun c =>
 aS (Value.cells c).toList H fun d e =>
 some (d, e)) = some r) : FF lX [I, K] H = some r :=
 fo Tryz.func89 (by kernel_rfl) h
theorem BC {r : Value × AH} (h : (
 aS (Value.cells I).toList H fun b a =>
 ld [.f 0] b a fun d =>
 ld [.f 3] b a fun e =>
 (FF XA [d, e] a).bind fun c =>
 gR [(0, 1), (1, 1), (2, 1), (3, 1), (4, 1), (5, 1), (6, 1), (7, 1), (8, 1)] [(.pointer none), (vw 0), (vw 0), (vi 0), (.slice none 0 0), (.slice none 0 0), (vb false), (vi 0), (vw 0)] [(0, c.1)] fun g =>
 aS (Value.cells g).toList c.2 fun i j =>
 some (i, j)) = some r) : FF lW [I] H = some r :=
 fo Tryz.func90 (by kernel_rfl) h
theorem qM {r : Value × AH} (h : (
 aS (Value.cells P).toList H fun b d =>
 ld [.n, .f 10] I d fun j =>
 dt j fun e =>
 ld [.n, .f 0] I d fun k =>
 gR [(0, 1), (1, 1), (2, 1)] [(vi 0), (vi 0), (vi 0)] [(0, (vi 13)), (1, e)] fun l =>
 (FF eg [k, K, l] d).bind fun a =>
 ad [.n, .f 10] I fun g =>
 (ap g a.2).bind fun m =>
 (ax 3 b a.2).bind fun o =>
 ld [.n, .f 0] I a.2 fun p =>
 ld [.f 1] b a.2 fun q =>
 (FF r7 [p, e, q] a.2).bind fun c =>
 bE (ap g c.2) (ap g a.2) <|
 bE (ax 3 b c.2) (ax 3 b a.2) <|
 gR [(0, 3), (3, 1)] [(vi 0), (vi 0), (vw 0), (.pointer none)] [(0, o), (1, c.1)] fun s =>
 sK 1 4 [(vi 0), (vi 0), (vw 0), (.pointer none)] [(0, s)] c.2 fun t w =>
 (cO 4 32 m t w).bind fun i =>
 st 1 [.n, .f 10] I i.1 i.2 fun y =>
 some (e, y)) = some r) : FF gh [I, K, P] H = some r :=
 fo Tryz.func91 (by kernel_rfl) h
theorem uD {r : Value × AH} (h : (
 aS (Value.cells P).toList H fun o c =>
 ld [.n, .f 10] I c fun q =>
 dt q fun e =>
 ad [.n, .f 5] I fun g =>
 (ap g c).bind fun s =>
 (FF bN [(vi 13), e, (vi 0)] c).bind fun i =>
 bE (ap g i.2) (ap g c) <|
 (FF bB [s, K, (vi 6), i.1] i.2).bind fun j =>
 ld [.n, .f 10] I j.2 fun t =>
 (ax 3 o j.2).bind fun w =>
 sK 1 3 [(vi 0), (vi 0), (vw 0)] [(0, w)] j.2 fun y d =>
 (cO 3 24 t y d).bind fun a =>
 ad [.n, .f 11] I fun b =>
 (ap b a.2).bind fun z =>
 bE (ap b d) (ap b a.2) <|
 ad [.n, .f 5] I fun k =>
 (ap k a.2).bind fun A =>
 bE (ap k d) (ap k a.2) <|
 ad [.f 1] o fun l =>
 (ap l a.2).bind fun B =>
 bE (ap l d) (ap l a.2) <|
 (FF lY [A, e, B] a.2).bind fun m =>
 bE (ap b m.2) (ap b a.2) <|
 sK 1 1 [(.pointer none)] [(0, m.1)] m.2 fun C D =>
 (cO 1 8 z C D).bind fun p =>
 st 1 [.n, .f 10] I a.1 p.2 fun E =>
 st 1 [.n, .f 11] I p.1 E fun G =>
 some (e, G)) = some r) : FF iF [I, K, P] H = some r :=
 fo Tryz.func92 (by kernel_rfl) h
theorem sG {r : Value × AH} (h : (
 (aj .other .lss L (vi 0)).bind fun a =>
 (gV a false L).bind fun g =>
 (gB a false (aj .other .gtr g (vi 1048576))).bind fun i =>
 (aH a (vb true) i).bind fun b =>
 (gV b false N).bind fun j =>
 (gB b false (aj .other .lss j (vi 0))).bind fun k =>
 (aH b (vb true) k).bind fun c =>
 (gV c false N).bind fun l =>
 (gB c false (aj .other .geq l (vi 4294967296))).bind fun m =>
 (aH c (vb true) m).bind fun o =>
 au o
 (some ((vb false), H))
 (ad [.n, .f 0] I fun d =>
 (ap d H).bind fun p =>
 (FF jH [P, x3] H).bind fun e =>
 bE (ap d e.2) (ap d H) <|
 (aj .other .add L (vi 1)).bind fun q =>
 (bV (some .u64) q).bind fun s =>
 (aj .other .shl s (vw 32)).bind fun t =>
 (bV (some .u64) N).bind fun w =>
 (aj .other .or t w).bind fun y =>
 (FF db [p, K, e.1, y] e.2).bind fun z =>
 some ((vb true), z.2))) = some r) : FF g6 [I, K, P, x3, L, N] H = some r :=
 fo Tryz.func93 (by kernel_rfl) h
theorem wD {r : Value × AH} (h : (
 (aj .other .lss L (vi 0)).bind fun b =>
 (gV b false L).bind fun g =>
 (gB b false (aj .other .gtr g (vi 1048576))).bind fun i =>
 (aH b (vb true) i).bind fun c =>
 (gV c false N).bind fun j =>
 (gB c false (aj .other .lss j (vi 0))).bind fun k =>
 (aH c (vb true) k).bind fun a =>
 (gV a false N).bind fun l =>
 (gB a false (bV (some .u64) l)).bind fun m =>
 (gB a false (aj .other .geq m (vw 4294967296))).bind fun o =>
 (aH a (vb true) o).bind fun p =>
 au p
 (some ((vb false), H))
 (ad [.n, .f 0] I fun d =>
 (ap d H).bind fun q =>
 (FF bN [(vi 10), P, x3] H).bind fun e =>
 bE (ap d e.2) (ap d H) <|
 (aj .other .add L (vi 1)).bind fun s =>
 (bV (some .u64) s).bind fun t =>
 (aj .other .mul t (vw 4294967296)).bind fun w =>
 (bV (some .u64) N).bind fun y =>
 (aj .other .add w y).bind fun z =>
 (FF ei [q, K, e.1, z] e.2).bind fun A =>
 some ((vb true), A.2))) = some r) : FF ju [I, K, P, x3, L, N] H = some r :=
 fo Tryz.func94 (by kernel_rfl) h
noncomputable def wZ (p : List Nat) : Code := Code.sub (bw Tryz.f98) p
noncomputable def qZ : KK := dV PP (Tryz.f98).results.toList
noncomputable def WV : KK := CQ (wZ [1, 1]) qZ bv qZ
noncomputable def tD : OV := WV (ls [I, K, P, u, u, u, M] 23) H
noncomputable def Lj : KK := CQ (wZ [1, 1, 1]) qZ bv qZ
noncomputable def WU : KK := dT 1073741759 Lj
noncomputable def tE : OV := Lj (ls [u, u, u, u, u, u, M] 23) H
noncomputable def WX : KK := CQ (wZ [1, 1, 0, 1]) WU bv qZ
noncomputable def tF : OV := WX (ls [I, K, P, u, u, u, M, O] 22) H
noncomputable def Ll : KX := BX 0 WU bv
noncomputable def W3 : KX := ou 1073741759 Ll
noncomputable def Lk : KK := xD (wZ [1, 1, 0, 1, 4, 5]) W3 qZ
noncomputable def adM : KK := dT 1073741624 Lk
noncomputable def tG : OV := Lk (ls [I, K, P, u, u, u, M, O] 22) H
noncomputable def WZ : KK := CQ (wZ [1, 1, 0, 1, 4, 5, 1]) adM W3 qZ
noncomputable def Gc : OV := WZ (ls [I, K, P, u, u, u, M, O] 22) H
noncomputable def oV : OV := Ll 0 (ls [u, u, u, u, u, u, M] 23) H
theorem ni : aq 1073741759 qZ := rf
theorem WW : aq 1073741752 WV := rc ni aA ni
theorem AF : aq 1073741759 Lj := rc ni aA ni
theorem WY : aq 1073741624 WX := rc (cd AF) aA ni
theorem AI : ∀ i, aq 1073741759 (Ll i) := rb (cd AF) aA
theorem AG : aq 1073741624 Lk := rl (cx AI) ni
theorem W0 : aq 1073741624 WZ := rc (cd AG) (cx AI) ni
theorem xL : tE M H =
 some ((vb true), H) :=
 (by kernel_rfl)
theorem tC : oV M H = tE M H :=
 (by kernel_rfl)
theorem xN : tG I K P M O H =
 dt I fun a =>
 (aj .other .lss O a).bind fun b =>
 au b
 (Gc I K P M O H)
 (oV M H) :=
 xS rfl AG (pt rfl 0 W0 (by kernel_rfl))
theorem xM : tF I K P M O H =
 tG I K P M O H :=
 (bt rfl (wZ [1, 1, 0, 1, 4]) 0 AI (li rfl (wZ [1, 1, 0, 1, 4, 5]) AG (by kernel_rfl)))
theorem xK : tD I K P M H =
 tF I K P M (vi 0) H :=
 (pt rfl 0 AF (pt rfl 0 WY (by kernel_rfl)))
noncomputable def SJ : OV := aQ PP GG FF (wZ []) (ls [I, K, P] 27) H qZ bv qZ
theorem Ge {r : Value × AH} (h : (
 dt I fun a =>
 dt K fun b =>
 (aj .other .neq a b).bind fun c =>
 au c
 (some ((vb false), H))
 (tD I K P (vb false) H)) = some r) : FF o7 [I, K, P] H = some r :=
 fo (t := SJ I K P H) Tryz.func98 (by kernel_rfl) (Eq.trans (pt rfl 1 WW (by kernel_rfl)) h)
end
end Go.Proofs.YtghoamdlcjdfjaaGreatDoor.Gst
