/- Several texts in one. -/
import Derived.Test.YtghoamdlcjdfjaaGreatDoorAcb
namespace Go.Proofs.YtghoamdlcjdfjaaGreatDoor.Gst
open Go Go.RowKit
set_option maxRecDepth 100000
set_option linter.unusedVariables false
set_option maxHeartbeats 1000000
section
variable (I K P x3 L N M O x13 J x97 Q R S T U V W X Y Z x297 : Value) (H : AH)
noncomputable def b9 (p : List Nat) : Code := Code.sub (bP Tryz.f64) p
noncomputable def fM : KK := e6 PP (Tryz.f64).results.toList
noncomputable def abK : KK := CQ (b9 [1, 1, 1]) fM bC fM
noncomputable def O1 : OV := abK (ls [I, K, u, u, L, N, M, O] 297) H
noncomputable def abM : KK := CQ (b9 [1, 1, 1, 1]) fM bC fM
noncomputable def O2 : OV := abM (ls [I, K, u, u, L, N, M, O] 297) H
noncomputable def NN : KK := CQ (b9 [1, 1, 1, 1, 1]) fM bC fM
noncomputable def gl : KK := dn UI NN
noncomputable def eg : OV := NN (ls [u, u, u, u, L] 300) H
noncomputable def abO : KK := CQ (b9 [1, 1, 1, 1, 0, 1]) gl bC fM
noncomputable def oR : OV := abO (ls [I, K, u, u, L, N, M, O, u, u, u, u, u, u, u, u, u, u, u, u, u, u, u, u, u, u, u, u, u, u, u, u, u, u, u, u, u, u, u, u, u, u, u, u, u, u, u, u, u, u, u, u, u, u, u, u, u, u, u, u, u, u, u, u, u, u, u, u, u, u, u, u, u, u, u, u, u, u, u, u, u, u, u, u, u, u, u, u, u, u, u, u, u, J] 211) H
noncomputable def abS : KX := BX 0 gl bC
noncomputable def iE : KX := mJ UI abS
noncomputable def abQ : KK := CQ (b9 [1, 1, 1, 1, 0, 1, 4, 1]) gl iE fM
noncomputable def O4 : OV := abQ (ls [I, K, u, u, L, N, M, O, u, u, u, u, u, u, u, u, u, u, u, u, u, u, u, u, u, u, u, u, u, u, u, u, u, u, u, u, u, u, u, u, u, u, u, u, u, u, u, u, u, u, u, u, u, u, u, u, u, u, u, u, u, u, u, u, u, u, u, u, u, u, u, u, u, u, u, u, u, u, u, u, u, u, u, u, u, u, u, u, u, u, u, u, u, J, u, u, u, x97] 207) H
noncomputable def Si : KK := CQ (b9 [1, 1, 1, 1, 0, 1, 4, 1, 3, 1]) gl iE fM
noncomputable def Tq : OV := Si (ls [I, K, u, u, L, N, M, O, u, u, u, u, u, u, u, u, u, u, u, u, u, u, u, u, u, u, u, u, u, u, u, u, u, u, u, u, u, u, u, u, u, u, u, u, u, u, u, u, u, u, u, u, u, u, u, u, u, u, u, u, u, u, u, u, u, u, u, u, u, u, u, u, u, u, u, u, u, u, u, u, u, u, u, u, u, u, u, u, u, u, u, u, u, J, u, u, u, u, u, u, u, u, u, u, u, u, u, u, u, u, u, u, Q] 192) H
noncomputable def Sj : KK := CQ (b9 [1, 1, 1, 1, 0, 1, 4, 1, 3, 1, 3, 1]) gl iE fM
noncomputable def Tt : OV := Sj (ls [I, K, u, u, L, N, M, O, u, u, u, u, u, u, u, u, u, u, u, u, u, u, u, u, u, u, u, u, u, u, u, u, u, u, u, u, u, u, u, u, u, u, u, u, u, u, u, u, u, u, u, u, u, u, u, u, u, u, u, u, u, u, u, u, u, u, u, u, u, u, u, u, u, u, u, u, u, u, u, u, u, u, u, u, u, u, u, u, u, u, u, u, u, J, u, u, u, u, u, u, u, u, u, u, u, u, u, u, u, u, u, u, u, u, u, u, u, u, u, u, u, u, u, u, u, u, u, u, u, u, u, u, u, R] 171) H
noncomputable def Sk : KK := CQ (b9 [1, 1, 1, 1, 0, 1, 4, 1, 3, 1, 3, 1, 3, 1]) gl iE fM
noncomputable def Tv : OV := Sk (ls [I, K, u, u, L, N, M, O, u, u, u, u, u, u, u, u, u, u, u, u, u, u, u, u, u, u, u, u, u, u, u, u, u, u, u, u, u, u, u, u, u, u, u, u, u, u, u, u, u, u, u, u, u, u, u, u, u, u, u, u, u, u, u, u, u, u, u, u, u, u, u, u, u, u, u, u, u, u, u, u, u, u, u, u, u, u, u, u, u, u, u, u, u, J, u, u, u, u, u, u, u, u, u, u, u, u, u, u, u, u, u, u, u, u, u, u, u, u, u, u, u, u, u, u, u, u, u, u, u, u, u, u, u, u, u, u, u, u, u, u, u, u, u, u, u, u, u, u, u, u, u, S] 153) H
noncomputable def Sm : KK := CQ (b9 [1, 1, 1, 1, 0, 1, 4, 1, 3, 1, 3, 1, 3, 1, 3, 1]) gl iE fM
noncomputable def Io : OV := Sm (ls [I, K, u, u, L, N, M, O, u, u, u, u, u, u, u, u, u, u, u, u, u, u, u, u, u, u, u, u, u, u, u, u, u, u, u, u, u, u, u, u, u, u, u, u, u, u, u, u, u, u, u, u, u, u, u, u, u, u, u, u, u, u, u, u, u, u, u, u, u, u, u, u, u, u, u, u, u, u, u, u, u, u, u, u, u, u, u, u, u, u, u, u, u, J, u, u, u, u, u, u, u, u, u, u, u, u, u, u, u, u, u, u, u, u, u, u, u, u, u, u, u, u, u, u, u, u, u, u, u, u, u, u, u, u, u, u, u, u, u, u, u, u, u, u, u, u, u, u, u, u, u, u, u, u, u, u, u, u, u, u, u, u, u, u, u, u, u, u, u, u, u, T] 133) H
noncomputable def Sn : KK := CQ (b9 [1, 1, 1, 1, 0, 1, 4, 1, 3, 1, 3, 1, 3, 1, 3, 1, 3, 1]) gl iE fM
noncomputable def Tw : OV := Sn (ls [I, K, u, u, L, N, M, O, u, u, u, u, u, u, u, u, u, u, u, u, u, u, u, u, u, u, u, u, u, u, u, u, u, u, u, u, u, u, u, u, u, u, u, u, u, u, u, u, u, u, u, u, u, u, u, u, u, u, u, u, u, u, u, u, u, u, u, u, u, u, u, u, u, u, u, u, u, u, u, u, u, u, u, u, u, u, u, u, u, u, u, u, u, J, u, u, u, u, u, u, u, u, u, u, u, u, u, u, u, u, u, u, u, u, u, u, u, u, u, u, u, u, u, u, u, u, u, u, u, u, u, u, u, u, u, u, u, u, u, u, u, u, u, u, u, u, u, u, u, u, u, u, u, u, u, u, u, u, u, u, u, u, u, u, u, u, u, u, u, u, u, u, u, u, u, u, u, u, u, u, u, u, u, u, u, u, U] 118) H
noncomputable def So : KK := CQ (b9 [1, 1, 1, 1, 0, 1, 4, 1, 3, 1, 3, 1, 3, 1, 3, 1, 3, 1, 3, 1]) gl iE fM
noncomputable def Ip : OV := So (ls [I, K, u, u, L, N, M, O, u, u, u, u, u, u, u, u, u, u, u, u, u, u, u, u, u, u, u, u, u, u, u, u, u, u, u, u, u, u, u, u, u, u, u, u, u, u, u, u, u, u, u, u, u, u, u, u, u, u, u, u, u, u, u, u, u, u, u, u, u, u, u, u, u, u, u, u, u, u, u, u, u, u, u, u, u, u, u, u, u, u, u, u, u, J, u, u, u, u, u, u, u, u, u, u, u, u, u, u, u, u, u, u, u, u, u, u, u, u, u, u, u, u, u, u, u, u, u, u, u, u, u, u, u, u, u, u, u, u, u, u, u, u, u, u, u, u, u, u, u, u, u, u, u, u, u, u, u, u, u, u, u, u, u, u, u, u, u, u, u, u, u, u, u, u, u, u, u, u, u, u, u, u, u, u, u, u, u, u, u, u, u, u, u, u, u, u, u, V] 107) H
noncomputable def Sq : KK := CQ (b9 [1, 1, 1, 1, 0, 1, 4, 1, 3, 1, 3, 1, 3, 1, 3, 1, 3, 1, 3, 1, 2, 1, 1]) gl iE fM
noncomputable def Tx : OV := Sq (ls [I, u, u, u, L, u, u, u, u, u, u, u, u, x13] 291) H
noncomputable def aiS : KX := BX 1 gl iE
noncomputable def Ss : KK := CQ (b9 [1, 1, 1, 1, 0, 1, 4, 1, 3, 1, 3, 1, 3, 1, 3, 1, 3, 1, 3, 1, 3, 1]) gl iE fM
noncomputable def Iq : OV := Ss (ls [I, K, u, u, L, N, M, O, u, u, u, u, u, u, u, u, u, u, u, u, u, u, u, u, u, u, u, u, u, u, u, u, u, u, u, u, u, u, u, u, u, u, u, u, u, u, u, u, u, u, u, u, u, u, u, u, u, u, u, u, u, u, u, u, u, u, u, u, u, u, u, u, u, u, u, u, u, u, u, u, u, u, u, u, u, u, u, u, u, u, u, u, u, J, u, u, u, u, u, u, u, u, u, u, u, u, u, u, u, u, u, u, u, u, u, u, u, u, u, u, u, u, u, u, u, u, u, u, u, u, u, u, u, u, u, u, u, u, u, u, u, u, u, u, u, u, u, u, u, u, u, u, u, u, u, u, u, u, u, u, u, u, u, u, u, u, u, u, u, u, u, u, u, u, u, u, u, u, u, u, u, u, u, u, u, u, u, u, u, u, u, u, u, u, u, u, u, u, u, u, u, u, u, u, u, u, u, u, u, u, u, u, u, u, u, u, u, u, u, u, u, u, u, u, u, u, u, u, u, u, u, u, u, u, u, u, u, u, u, u, u, u, W] 62) H
noncomputable def Su : KK := CQ (b9 [1, 1, 1, 1, 0, 1, 4, 1, 3, 1, 3, 1, 3, 1, 3, 1, 3, 1, 3, 1, 3, 1, 3, 1]) gl iE fM
noncomputable def vT : OV := Su (ls [I, K, u, u, L, N, M, O, u, u, u, u, u, u, u, u, u, u, u, u, u, u, u, u, u, u, u, u, u, u, u, u, u, u, u, u, u, u, u, u, u, u, u, u, u, u, u, u, u, u, u, u, u, u, u, u, u, u, u, u, u, u, u, u, u, u, u, u, u, u, u, u, u, u, u, u, u, u, u, u, u, u, u, u, u, u, u, u, u, u, u, u, u, J, u, u, u, u, u, u, u, u, u, u, u, u, u, u, u, u, u, u, u, u, u, u, u, u, u, u, u, u, u, u, u, u, u, u, u, u, u, u, u, u, u, u, u, u, u, u, u, u, u, u, u, u, u, u, u, u, u, u, u, u, u, u, u, u, u, u, u, u, u, u, u, u, u, u, u, u, u, u, u, u, u, u, u, u, u, u, u, u, u, u, u, u, u, u, u, u, u, u, u, u, u, u, u, u, u, u, u, u, u, u, u, u, u, u, u, u, u, u, u, u, u, u, u, u, u, u, u, u, u, u, u, u, u, u, u, u, u, u, u, u, u, u, u, u, u, u, u, u, u, u, u, u, u, u, X] 56) H
noncomputable def Sw : KK := CQ (b9 [1, 1, 1, 1, 0, 1, 4, 1, 3, 1, 3, 1, 3, 1, 3, 1, 3, 1, 3, 1, 3, 1, 3, 1, 3, 1]) gl iE fM
noncomputable def Ir : OV := Sw (ls [I, K, u, u, L, N, M, u, u, u, u, u, u, u, u, u, u, u, u, u, u, u, u, u, u, u, u, u, u, u, u, u, u, u, u, u, u, u, u, u, u, u, u, u, u, u, u, u, u, u, u, u, u, u, u, u, u, u, u, u, u, u, u, u, u, u, u, u, u, u, u, u, u, u, u, u, u, u, u, u, u, u, u, u, u, u, u, u, u, u, u, u, u, J, u, u, u, u, u, u, u, u, u, u, u, u, u, u, u, u, u, u, u, u, u, u, u, u, u, u, u, u, u, u, u, u, u, u, u, u, u, u, u, u, u, u, u, u, u, u, u, u, u, u, u, u, u, u, u, u, u, u, u, u, u, u, u, u, u, u, u, u, u, u, u, u, u, u, u, u, u, u, u, u, u, u, u, u, u, u, u, u, u, u, u, u, u, u, u, u, u, u, u, u, u, u, u, u, u, u, u, u, u, u, u, u, u, u, u, u, u, u, u, u, u, u, u, u, u, u, u, u, u, u, u, u, u, u, u, u, u, u, u, u, u, u, u, u, u, u, u, u, u, u, u, u, u, u, u, u, u, u, u, u, u, u, u, u, u, u, u, u, u, u, u, u, u, u, u, u, u, u, Y] 32) H
noncomputable def Sx : KK := CQ (b9 [1, 1, 1, 1, 0, 1, 4, 1, 3, 1, 3, 1, 3, 1, 3, 1, 3, 1, 3, 1, 3, 1, 3, 1, 3, 1, 3, 1]) gl iE fM
noncomputable def Tz : OV := Sx (ls [I, K, u, u, L, N, M, u, u, u, u, u, u, u, u, u, u, u, u, u, u, u, u, u, u, u, u, u, u, u, u, u, u, u, u, u, u, u, u, u, u, u, u, u, u, u, u, u, u, u, u, u, u, u, u, u, u, u, u, u, u, u, u, u, u, u, u, u, u, u, u, u, u, u, u, u, u, u, u, u, u, u, u, u, u, u, u, u, u, u, u, u, u, J, u, u, u, u, u, u, u, u, u, u, u, u, u, u, u, u, u, u, u, u, u, u, u, u, u, u, u, u, u, u, u, u, u, u, u, u, u, u, u, u, u, u, u, u, u, u, u, u, u, u, u, u, u, u, u, u, u, u, u, u, u, u, u, u, u, u, u, u, u, u, u, u, u, u, u, u, u, u, u, u, u, u, u, u, u, u, u, u, u, u, u, u, u, u, u, u, u, u, u, u, u, u, u, u, u, u, u, u, u, u, u, u, u, u, u, u, u, u, u, u, u, u, u, u, u, u, u, u, u, u, u, u, u, u, u, u, u, u, u, u, u, u, u, u, u, u, u, u, u, u, u, u, u, u, u, u, u, u, u, u, u, u, u, u, u, u, u, u, u, u, u, u, u, u, u, u, u, u, u, u, u, u, u, u, u, u, u, u, u, Z] 21) H
noncomputable def Sy : KK := CQ (b9 [1, 1, 1, 1, 0, 1, 4, 1, 3, 1, 3, 1, 3, 1, 3, 1, 3, 1, 3, 1, 3, 1, 3, 1, 3, 1, 3, 1, 3, 1]) gl iE fM
noncomputable def kN : OV := Sy (ls [I, K, u, u, L, u, M, u, u, u, u, u, u, u, u, u, u, u, u, u, u, u, u, u, u, u, u, u, u, u, u, u, u, u, u, u, u, u, u, u, u, u, u, u, u, u, u, u, u, u, u, u, u, u, u, u, u, u, u, u, u, u, u, u, u, u, u, u, u, u, u, u, u, u, u, u, u, u, u, u, u, u, u, u, u, u, u, u, u, u, u, u, u, u, u, u, u, u, u, u, u, u, u, u, u, u, u, u, u, u, u, u, u, u, u, u, u, u, u, u, u, u, u, u, u, u, u, u, u, u, u, u, u, u, u, u, u, u, u, u, u, u, u, u, u, u, u, u, u, u, u, u, u, u, u, u, u, u, u, u, u, u, u, u, u, u, u, u, u, u, u, u, u, u, u, u, u, u, u, u, u, u, u, u, u, u, u, u, u, u, u, u, u, u, u, u, u, u, u, u, u, u, u, u, u, u, u, u, u, u, u, u, u, u, u, u, u, u, u, u, u, u, u, u, u, u, u, u, u, u, u, u, u, u, u, u, u, u, u, u, u, u, u, u, u, u, u, u, u, u, u, u, u, u, u, u, u, u, u, u, u, u, u, u, u, u, u, u, u, u, u, u, u, u, u, u, u, u, u, u, u, u, u, u, u, u, u, u, u, u, u, u, u, u, u, u, u, x297] 7) H
theorem cQ : ap UI fM := rf
theorem abL : ap akI abK := rc cQ aA cQ
theorem abN : ap akI abM := rc cQ aA cQ
theorem cL : ap UI NN := rc cQ aA cQ
theorem abP : ap 65185151242703554760590262029100101153646988597309960020356494369436681278143732398675721996 abO := rc (cd cL) aA cQ
theorem dg : ∀ i, ap UI (abS i) := rb (cd cL) aA
theorem abR : ap 65185151242703554760590262029100101153646988597309960020356494210980356249615057211587821324 abQ := rc (cd cL) (cx dg) cQ
theorem Wm : ap 65185151242703554760590262029100101153646988597309960020351302072578146450515201902346501900 Si := rc (cd cL) (cx dg) cQ
theorem Wn : ap 65185151242703554760590262029100101153646988597309949131320752899405850450156294582092955404 Sj := rc (cd cL) (cx dg) cQ
theorem Wo : ap 65185151242703554760590262029100101153646988594455464634944574607320109339244742125910228748 Sk := rc (cd cL) (cx dg) cQ
theorem Wp : ap 65185151242703554760590262029100101153643995441956706331180013222899278330519477048827707148 Sm := rc (cd cL) (cx dg) cQ
theorem Wq : ap 65185151242703554760590262029100101055567273981893073085422284631816893526544428578925182732 Sn := rc (cd cL) (cx dg) cQ
theorem Wr : ap 65185151242703554760590262029099900286391456223525517275094951724111366002769509549571309324 So := rc (cd cL) (cx dg) cQ
theorem Ws : ap 65185151242703554760590262029100101153646988597309960020356494379340201592426774597868707822 Sq := rc (cd cL) (cx dg) cQ
theorem Wy : ∀ i, ap UI (aiS i) := rb (cd cL) (cx dg)
theorem Wt : ap 65185151242703554753522873769986563835313798594338285957046558781934205445657307593505242892 Ss := rc (cd cL) (cx dg) cQ
theorem Wu : ap 65185151242703554308277413445833712780322828407122819968520616769278227999012544867765059340 Su := rc (cd cL) (cx dg) cQ
theorem Wv : ap 65185151235115004400333507845820953080117617868238058305309074364546789052601137534592876428 Sw := rc (cd cL) (cx dg) cQ
theorem Ww : ap 65185135701352416954757694673404846565495735458055247603240324354937403366909450757007736716 Sx := rc (cd cL) (cx dg) cQ
theorem Wx : ap 64930521745661743999806706318048928883515555048101717989026976823170903929956357509595791276 Sy := rc (cd cL) (cx dg) cQ
theorem bT : eg L H =
 some ((vb false), H) :=
 (by kernel_rfl)
theorem O3 : Tx I L x13 H =
 (FF bK [I] H).bind fun a =>
 ad [.n, .f 11] I fun c =>
 (au c a.2).bind fun e =>
 bJ (au c H) (au c a.2) <|
 ad [.n, .f 12] I fun d =>
 (au d a.2).bind fun g =>
 bJ (au d H) (au d a.2) <|
 (FF gO [a.1, e, g] a.2).bind fun b =>
 aw b.1
 (st 1 [.n, .f 6] I (vi 15) b.2 fun i =>
 eg L i)
 ((aj .other .eql x13 (vi 1)).bind fun j =>
 aw j
 (st 1 [.n, .f 6] I (vi 9) b.2 fun k =>
 eg L k)
 (st 1 [.n, .f 6] I (vi 12) b.2 fun l =>
 eg L l)) :=
 (bt rfl (b9 [1, 1, 1, 1, 0, 1, 4, 1, 3, 1, 3, 1, 3, 1, 3, 1, 3, 1, 3, 1, 2, 1, 1, 4]) 1 Wy (by kernel_rfl))
theorem lZ : kN I K L M x297 H =
 aw x297
 ((FF ak2 [I, K] H).bind fun a =>
 some (a.1, a.2))
 ((FF adF [I, M] H).bind fun b =>
 some (b.1, b.2)) :=
 (by kernel_rfl)
theorem C1 : Tz I K L N M J Z H =
 aw Z
 (ld [.n, .f 6] N H fun d =>
 ld [.n, .f 1] I H fun e =>
 (FF iO [d, e] H).bind fun g =>
 st 1 [.n, .f 6] I (vi 13) g.2 fun i =>
 eg L i)
 ((aj .other .eql J (vi 15)).bind fun a =>
 aw a
 (kN I K L M a H)
 ((aj .other .eql J (vi 16)).bind fun b =>
 aw b
 (kN I K L M b H)
 ((aj .other .eql J (vi 17)).bind fun c =>
 aw c
 (kN I K L M c H)
 ((aj .other .eql J (vi 18)).bind fun j =>
 kN I K L M j H)))) :=
 (ct rfl (b9 [1, 1, 1, 1, 0, 1, 4, 1, 3, 1, 3, 1, 3, 1, 3, 1, 3, 1, 3, 1, 3, 1, 3, 1, 3, 1, 3, 1, 2]) (b9 [1, 1, 1, 1, 0, 1, 4, 1, 3, 1, 3, 1, 3, 1, 3, 1, 3, 1, 3, 1, 3, 1, 3, 1, 3, 1, 3, 1, 3]) (.tmp 283) (by kernel_rfl) (pt rfl 0 Wx (by kernel_rfl)))
theorem t5 : Ir I K L N M J Y H =
 aw Y
 ((FF bK [I] H).bind fun a =>
 ad [.n, .f 1] I fun b =>
 (au b a.2).bind fun d =>
 bJ (au b H) (au b a.2) <|
 (FF d9 [I] a.2).bind fun c =>
 bJ (au b c.2) (au b a.2) <|
 (FF gQ [a.1, d, c.1] c.2).bind fun e =>
 some ((vb true), e.2))
 ((aj .other .eql J (vi 12)).bind fun g =>
 Tz I K L N M J g H) :=
 (ct rfl (b9 [1, 1, 1, 1, 0, 1, 4, 1, 3, 1, 3, 1, 3, 1, 3, 1, 3, 1, 3, 1, 3, 1, 3, 1, 3, 1, 2]) (b9 [1, 1, 1, 1, 0, 1, 4, 1, 3, 1, 3, 1, 3, 1, 3, 1, 3, 1, 3, 1, 3, 1, 3, 1, 3, 1, 3]) (.tmp 272) (by kernel_rfl) (pt rfl 0 Ww (by kernel_rfl)))
theorem t4 : vT I K L N M O J X H =
 aw X
 ((FF bK [I] H).bind fun a =>
 ad [.n, .f 1] I fun c =>
 (au c a.2).bind fun e =>
 bJ (au c H) (au c a.2) <|
 (FF d9 [I] a.2).bind fun b =>
 bJ (au c b.2) (au c a.2) <|
 (aC 3 O b.2).bind fun g =>
 bJ (aC 3 O H) (aC 3 O b.2) <|
 bJ (aC 3 O a.2) (aC 3 O b.2) <|
 (FF lR [a.1, e, b.1, g] b.2).bind fun i =>
 st 1 [.n, .f 6] I (vi 11) i.2 fun d =>
 ld [.n, .f 13] I d fun j =>
 (aj .other .eql j (vw 1)).bind fun k =>
 aw k
 (st 1 [.n, .f 6] I (vi 21) d fun l =>
 eg L l)
 (eg L d))
 ((aj .other .eql J (vi 11)).bind fun m =>
 Ir I K L N M J m H) :=
 (ct rfl (b9 [1, 1, 1, 1, 0, 1, 4, 1, 3, 1, 3, 1, 3, 1, 3, 1, 3, 1, 3, 1, 3, 1, 3, 1, 2]) (b9 [1, 1, 1, 1, 0, 1, 4, 1, 3, 1, 3, 1, 3, 1, 3, 1, 3, 1, 3, 1, 3, 1, 3, 1, 3]) (.tmp 248) (by kernel_rfl) (pt rfl 0 Wv (by kernel_rfl)))
theorem t3 : Iq I K L N M O J W H =
 aw W
 ((FF jA [I, K] H).bind fun b =>
 eg L b.2)
 ((aj .other .eql J (vi 10)).bind fun a =>
 aw a
 (vT I K L N M O J a H)
 ((aj .other .eql J (vi 14)).bind fun c =>
 vT I K L N M O J c H)) :=
 (ct rfl (b9 [1, 1, 1, 1, 0, 1, 4, 1, 3, 1, 3, 1, 3, 1, 3, 1, 3, 1, 3, 1, 3, 1, 2]) (b9 [1, 1, 1, 1, 0, 1, 4, 1, 3, 1, 3, 1, 3, 1, 3, 1, 3, 1, 3, 1, 3, 1, 3]) (.tmp 242) (by kernel_rfl) (pt rfl 0 Wu (by kernel_rfl)))
theorem oS : Ip I K L N M O J V H =
 aw V
 ((FF bK [I] H).bind fun a =>
 ad [.n, .f 1] I fun c =>
 (au c a.2).bind fun i =>
 bJ (au c H) (au c a.2) <|
 (FF gP [a.1, i] a.2).bind fun d =>
 st 1 [.n, .f 12] I d.1 d.2 fun e =>
 ld [.n, .f 11] I e fun j =>
 (FF fO [j] e).bind fun b =>
 (ak b.1 0).bind fun m =>
 (ak b.1 1).bind fun k =>
 (ak b.1 2).bind fun o =>
 Tx I L k b.2)
 ((aj .other .eql J (vi 9)).bind fun g =>
 aw g
 (Iq I K L N M O J g H)
 ((aj .other .eql J (vi 13)).bind fun l =>
 Iq I K L N M O J l H)) :=
 (ct rfl (b9 [1, 1, 1, 1, 0, 1, 4, 1, 3, 1, 3, 1, 3, 1, 3, 1, 3, 1, 3, 1, 2]) (b9 [1, 1, 1, 1, 0, 1, 4, 1, 3, 1, 3, 1, 3, 1, 3, 1, 3, 1, 3, 1, 3]) (.tmp 197) (pt rfl 1 Ws (by kernel_rfl)) (pt rfl 0 Wt (by kernel_rfl)))
theorem C0 : Tw I K L N M O J U H =
 aw U
 (st 1 [.n, .f 6] I (vi 8) H fun b =>
 (FF gR [I] b).bind fun a =>
 (aj .other .eql a.1 (vi 2)).bind fun c =>
 aw c
 (st 1 [.n, .f 6] I (vi 3) a.2 fun d =>
 eg L d)
 (eg L a.2))
 ((aj .other .eql J (vi 8)).bind fun e =>
 Ip I K L N M O J e H) :=
 (ct rfl (b9 [1, 1, 1, 1, 0, 1, 4, 1, 3, 1, 3, 1, 3, 1, 3, 1, 3, 1, 2]) (b9 [1, 1, 1, 1, 0, 1, 4, 1, 3, 1, 3, 1, 3, 1, 3, 1, 3, 1, 3]) (.tmp 186) (by kernel_rfl) (pt rfl 0 Wr (by kernel_rfl)))
theorem tZ : Io I K L N M O J T H =
 aw T
 (ld [.n, .f 1] I H fun a =>
 ld [.n, .f 10] I H fun b =>
 (FF kc [N, a, b] H).bind fun c =>
 st 1 [.n, .f 6] I (vi 7) c.2 fun d =>
 eg L d)
 ((aj .other .eql J (vi 7)).bind fun e =>
 Tw I K L N M O J e H) :=
 (ct rfl (b9 [1, 1, 1, 1, 0, 1, 4, 1, 3, 1, 3, 1, 3, 1, 3, 1, 2]) (b9 [1, 1, 1, 1, 0, 1, 4, 1, 3, 1, 3, 1, 3, 1, 3, 1, 3]) (.tmp 171) (by kernel_rfl) (pt rfl 0 Wq (by kernel_rfl)))
theorem CZ : Tv I K L N M O J S H =
 aw S
 (ld [.n, .f 7] N H fun b =>
 ld [.n, .f 1] I H fun c =>
 (FF ia [b, c, M] H).bind fun a =>
 ld [.n, .f 9] I a.2 fun d =>
 (pM .not d).bind fun e =>
 aw e
 (some ((vb true), a.2))
 (st 1 [.n, .f 6] I (vi 6) a.2 fun g =>
 eg L g))
 ((aj .other .eql J (vi 6)).bind fun i =>
 Io I K L N M O J i H) :=
 (ct rfl (b9 [1, 1, 1, 1, 0, 1, 4, 1, 3, 1, 3, 1, 3, 1, 2]) (b9 [1, 1, 1, 1, 0, 1, 4, 1, 3, 1, 3, 1, 3, 1, 3]) (.tmp 151) (by kernel_rfl) (pt rfl 0 Wp (by kernel_rfl)))
theorem tY : Tt I K L N M O J R H =
 aw R
 ((FF SW [I] H).bind fun a =>
 (ak a.1 0).bind fun b =>
 (ak a.1 1).bind fun c =>
 aw b
 (st 1 [.n, .f 6] I (vi 5) a.2 fun d =>
 eg L d)
 (aw c
 ((FF cC [I, K, (vi 5)] a.2).bind fun e =>
 st 1 [.n, .f 6] I (vi 5) e.2 fun g =>
 eg L g)
 (eg L a.2)))
 ((aj .other .eql J (vi 5)).bind fun i =>
 Tv I K L N M O J i H) :=
 (ct rfl (b9 [1, 1, 1, 1, 0, 1, 4, 1, 3, 1, 3, 1, 2]) (b9 [1, 1, 1, 1, 0, 1, 4, 1, 3, 1, 3, 1, 3]) (.tmp 133) (by kernel_rfl) (pt rfl 0 Wo (by kernel_rfl)))
theorem oQ : Tq I K L N M O J Q H =
 aw Q
 (ld [.n, .f 7] N H fun b =>
 ld [.n, .f 1] I H fun c =>
 (FF jy [b, c, M] H).bind fun a =>
 aw a.1
 (st 1 [.n, .f 6] I (vi 4) a.2 fun d =>
 st 1 [.n, .f 7] I (vi 0) d fun e =>
 st 1 [.n, .f 9] I (vb false) e fun g =>
 eg L g)
 (eg L a.2))
 ((aj .other .eql J (vi 4)).bind fun i =>
 Tt I K L N M O J i H) :=
 (ct rfl (b9 [1, 1, 1, 1, 0, 1, 4, 1, 3, 1, 2]) (b9 [1, 1, 1, 1, 0, 1, 4, 1, 3, 1, 3]) (.tmp 112) (by kernel_rfl) (pt rfl 0 Wn (by kernel_rfl)))
theorem n0 : O4 I K L N M O J x97 H =
 aw x97
 ((FF SW [I] H).bind fun a =>
 (ak a.1 0).bind fun b =>
 (ak a.1 1).bind fun c =>
 aw b
 (st 1 [.n, .f 6] I (vi 6) a.2 fun d =>
 eg L d)
 (aw c
 (st 1 [.n, .f 6] I (vi 3) a.2 fun e =>
 eg L e)
 (eg L a.2)))
 ((aj .other .eql J (vi 3)).bind fun g =>
 Tq I K L N M O J g H) :=
 (ct rfl (b9 [1, 1, 1, 1, 0, 1, 4, 1, 2]) (b9 [1, 1, 1, 1, 0, 1, 4, 1, 3]) (.tmp 97) (by kernel_rfl) (pt rfl 0 Wm (by kernel_rfl)))
theorem lc : oR I K L N M O J H =
 (aj .other .eql J (vi 2)).bind fun a =>
 O4 I K L N M O J a H :=
 (bt rfl (b9 [1, 1, 1, 1, 0, 1, 4]) 0 dg (pt rfl 0 abR (by kernel_rfl)))
theorem Fo : O2 I K L N M O H =
 ld [.n, .f 6] I H fun a =>
 oR I K L N M O a H :=
 (pt rfl 0 cL (pt rfl 0 abP (by kernel_rfl)))
theorem Fm : O1 I K L N M O H =
 ld [.n, .f 6] I H fun c =>
 (aj .other .eql c (vi 0)).bind fun d =>
 aw d
 (ld [.n, .f 2, .f 2] I H fun e =>
 (aj .other .lss e (vi 1)).bind fun a =>
 (gV a false I).bind fun g =>
 fG a false  [.n, .f 2, .f 2] g H fun i =>
 (gB a false (aj .other .gtr i (vi 65536))).bind fun j =>
 (aM a (vb true) j).bind fun k =>
 aw k
 ((FF cC [I, K, (vi 3)] H).bind fun l =>
 some ((vb true), l.2))
 (ld [.n, .f 2, .f 1] I H fun m =>
 (aj .other .lss m (vi 0)).bind fun b =>
 (gV b false I).bind fun o =>
 fG b false  [.n, .f 2, .f 1] o H fun p =>
 (gB b false (aj .other .gtr p (vi 1048576))).bind fun q =>
 (aM b (vb true) q).bind fun s =>
 aw s
 ((FF cC [I, K, (vi 5)] H).bind fun t =>
 some ((vb true), t.2))
 (st 1 [.n, .f 6] I (vi 2) H fun w =>
 O2 I K L N M O w)))
 (O2 I K L N M O H) :=
 (pt rfl 0 abN (by kernel_rfl))
noncomputable def rTE : OV := aT PP GG FF (b9 []) (ls [I, K] 303) H fM bC fM
theorem amQ {r : Value × AH} (h : (
 ad [.n, .f 0] I fun b =>
 (au b H).bind fun d =>
 ld [.n, .f 0] I H fun e =>
 ld [.n, .f 7] e H fun g =>
 ld [.n, .f 2, .f 1] I H fun i =>
 (FF fB [g, i] H).bind fun a =>
 bJ (au b a.2) (au b H) <|
 ld [.n, .f 2, .f 1] I a.2 fun j =>
 ld [.n, .f 2, .f 2] I a.2 fun k =>
 ld [.n, .f 2, .f 3] I a.2 fun l =>
 iz [(0, 1), (1, 1), (2, 1)] [(vi 0), (vi 0), (vi 0)] [(0, j), (1, k), (2, l)] fun m =>
 aW [(vi 0), (vi 0), (vi 0)] a.2 fun c o =>
 (dc 3 c m o).bind fun p =>
 O1 I K (vb false) d a.1 c p) = some r) : FF dE [I, K] H = some r :=
 fo (t := rTE I K H) Tryz.func64 (by kernel_rfl) (Eq.trans (pt rfl 2 abL (by kernel_rfl)) h)
theorem Kt {r : Value × AH} (h : (
 aW [(vi 0), (.slice none 0 0), (vi 0), (vw 0)] H fun a b =>
 aw K
 (ldN 4 [.n, .f 17] I b fun e =>
 (dc 4 a e b).bind fun c =>
 (aC 4 a c).bind fun g => some (g, c))
 (iz [(0, 1), (1, 1), (2, 1), (3, 1)] [(vi 0), (.slice none 0 0), (vi 0), (vw 0)] [] fun i =>
 (dc 4 a i b).bind fun d =>
 (aC 4 a d).bind fun j => some (j, d))) = some r) : FF tH [I, K] H = some r :=
 fo Tryz.func65 (by kernel_rfl) h
theorem Cx {r : Value × AH} (h : (
 ld [.n, .f 1] I H fun a =>
 ep a fun b =>
 some (b, H)) = some r) : FF gH [I] H = some r :=
 fo Tryz.func66 (by kernel_rfl) h
theorem wY {r : Value × AH} (h : (
 aW [(vi 0), (vi 0), (vi 0)] H fun a c =>
 iz [(0, 1), (1, 1), (2, 1)] [(vi 0), (vi 0), (vi 0)] [(0, I), (1, K)] fun d =>
 (dc 3 a d c).bind fun b =>
 (aC 3 a b).bind fun e => some (e, b)) = some r) : FF be [I, K] H = some r :=
 fo Tryz.func73 (by kernel_rfl) h
theorem zC {r : Value × AH} (h : (
 aW [(vi 0), (vi 0), (vi 0)] H fun a b =>
 ld [.n, .f 1] I b fun d =>
 iz [(0, 1), (1, 1), (2, 1)] [(vi 0), (vi 0), (vi 0)] [(0, K), (1, d), (2, P)] fun e =>
 (dc 3 a e b).bind fun c =>
 (aC 3 a c).bind fun g => some (g, c)) = some r) : FF cr [I, K, P] H = some r :=
 fo Tryz.func75 (by kernel_rfl) h
theorem amV {r : Value × AH} (h : (
 (aj .slice .eql I (.slice none 0 0)).bind fun b =>
 aw b
 (some ((.slice none 0 0), H))
 (ze 0 7 [(vi 0), (vi 0), (vi 0), (vi 0), (.slice none 0 0), (vi 0), (vw 0)] [] H fun c d =>
 (dN 7 72 c I d).bind fun a =>
 some (a.1, a.2))) = some r) : FF adH [I] H = some r :=
 fo Tryz.func76 (by kernel_rfl) h
theorem amZ {r : Value × AH} (h : (
 ep I fun a =>
 (FF adK [I, a, K] H).bind fun b =>
 some (Value.tuple #[], b.2)) = some r) : FF adJ [I, K] H = some r :=
 fo Tryz.func77 (by kernel_rfl) h
theorem qL {r : Value × AH} (h : (
 aW (Value.cells I).toList H fun c d =>
 aW (Value.cells K).toList d fun e a =>
 ld [.f 0] c a fun g =>
 ld [.f 0] e a fun i =>
 (FF jo [g, i] a).bind fun b =>
 some (b.1, b.2)) = some r) : FF cU [I, K] H = some r :=
 fo Tryz.func78 (by kernel_rfl) h
theorem Ia {r : Value × AH} (h : (
 aW (Value.cells I).toList H fun a i =>
 aW [(vi 0), (.slice none 0 0), (vi 0), (vw 0)] i fun b c =>
 ld [.f 1] a c fun j =>
 (FF adG [j] c).bind fun d =>
 st 1 [.f 1] a d.1 d.2 fun e =>
 (aC 4 a e).bind fun k =>
 (dc 4 b k e).bind fun g =>
 (aC 4 b g).bind fun l => some (l, g)) = some r) : FF mt [I] H = some r :=
 fo Tryz.func79 (by kernel_rfl) h
theorem iX {r : Value × AH} (h : (
 ld [.n, .f 2] I H fun a =>
 ep a fun b =>
 (bI (some .u64) b).bind fun c =>
 (aj .other .rem K c).bind fun d =>
 (bI (some .i64) d).bind fun e =>
 some (e, H)) = some r) : FF bx [I, K] H = some r :=
 fo Tryz.func80 (by kernel_rfl) h
theorem Cz {r : Value × AH} (h : (
 aW (Value.cells I).toList H fun a l =>
 ld [.f 0] a l fun m =>
 (FF d8 [m, (vi 1), (vi 4)] l).bind fun b =>
 fG b.1 true  [.f 1] a b.2 fun n =>
 (gE b.1 true b.2 (FF d8 [n, (vi 1), (vi 4)] b.2)).bind fun c =>
 (aM b.1 c.1 (vb false)).bind fun g =>
 fG g true  [.f 2] a c.2 fun o =>
 (gE g true c.2 (FF d8 [o, (vi 1), (vi 6)] c.2)).bind fun d =>
 (aM g d.1 (vb false)).bind fun i =>
 fG i true  [.f 3] a d.2 fun p =>
 (gE i true d.2 (FF d8 [p, (vi 0), (vi 40)] d.2)).bind fun e =>
 (aM i e.1 (vb false)).bind fun j =>
 fG j true  [.f 4] a e.2 fun q =>
 (gB j true (aj .other .geq q (vw 1))).bind fun s =>
 (aM j s (vb false)).bind fun k =>
 fG k true  [.f 4] a e.2 fun t =>
 (gB k true (aj .other .leq t (vw 4611686018427387904))).bind fun w =>
 (aM k w (vb false)).bind fun y =>
 some (y, e.2)) = some r) : FF mR [I] H = some r :=
 fo Tryz.func81 (by kernel_rfl) h
theorem Oi (H : AH) {r : Value × AH} (h : (
 D3 H fun a b =>
 iz [(0, 1), (1, 1)] [(.map none), (.slice none 0 0)] [(0, a)] fun c =>
 aW (Value.cells c).toList b fun d e =>
 some (d, e)) = some r) : FF xo [] H = some r :=
 fo Tryz.func82 (by kernel_rfl) h
theorem HE {r : Value × AH} (h : (
 (ig [K, (vi 1)]).bind fun a =>
 (i8 [a, (vi 4)]).bind fun b =>
 D3 H fun c d =>
 iz [(0, 1), (1, 1), (2, 1), (3, 1), (4, 1)] [(.pointer none), (vi 0), (.map none), Value.nilFunc, Value.nilFunc] [(0, I), (1, b), (2, c), (3, (.func (.func be) #[(vi 9)] #[])), (4, (.func (.func be) #[(vi 14)] #[]))] fun e =>
 aW (Value.cells e).toList d fun f g =>
 some (f, g)) = some r) : FF qz [I, K] H = some r :=
 fo Tryz.func83 (by kernel_rfl) h
theorem IT {r : Value × AH} (h : (
 (ig [K, (vi 1)]).bind fun a =>
 (i8 [a, (vi 4)]).bind fun b =>
 (ig [P, (vi 1)]).bind fun c =>
 (i8 [c, (vi 4)]).bind fun d =>
 iz [(0, 1), (1, 1), (2, 1)] [(.pointer none), (vi 0), (vi 0)] [(0, I), (1, b), (2, d)] fun e =>
 aW (Value.cells e).toList H fun f g =>
 some (f, g)) = some r) : FF qG [I, K, P] H = some r :=
 fo Tryz.func84 (by kernel_rfl) h
theorem KU {r : Value × AH} (h : (
 (ig [K, (vi 1)]).bind fun a =>
 (i8 [a, (vi 6)]).bind fun b =>
 D3 H fun c d =>
 D3 d fun e f =>
 iz [(0, 1), (1, 1), (2, 1), (3, 1)] [(.pointer none), (vi 0), (.map none), (.map none)] [(0, I), (1, b), (2, c), (3, e)] fun g =>
 aW (Value.cells g).toList f fun i j =>
 some (i, j)) = some r) : FF tI [I, K] H = some r :=
 fo Tryz.func85 (by kernel_rfl) h
theorem Jt {r : Value × AH} (h : (
 aW (Value.cells I).toList H fun c b =>
 ld [.f 0] c b fun d =>
 ld [.f 3] c b fun e =>
 (FF qD [d, e] b).bind fun a =>
 D3 a.2 fun g i =>
 D3 i fun j k =>
 iz [(0, 1), (1, 1), (2, 1), (3, 1), (4, 1), (5, 1), (6, 1), (7, 1), (8, 3)] [Value.nilFunc, Value.nilFunc, Value.nilFunc, (vw 0), (vw 0), (vi 0), (.map none), (.map none), (vb false), (vi 0), (vw 0)] [(0, (.func (.func tJ) #[a.1] #[])), (1, (.func (.func vo) #[a.1] #[])), (2, (.func (.func vn) #[a.1] #[])), (6, g), (7, j)] fun l =>
 aW (Value.cells l).toList k fun m n =>
 some (m, n)) = some r) : FF tD [I] H = some r :=
 fo Tryz.func86 (by kernel_rfl) h
theorem zx {r : Value × AH} (h : (
 (ig [K, (vi 1)]).bind fun a =>
 (i8 [a, (vi 4)]).bind fun b =>
 iz [(0, 1), (1, 1), (2, 1), (3, 1)] [(.pointer none), (vi 0), (.slice none 0 0), (.slice none 0 0)] [(0, I), (1, b)] fun c =>
 aW (Value.cells c).toList H fun d e =>
 some (d, e)) = some r) : FF lO [I, K] H = some r :=
 fo Tryz.func87 (by kernel_rfl) h
theorem zz {r : Value × AH} (h : (
 (ig [K, (vi 1)]).bind fun a =>
 (i8 [a, (vi 4)]).bind fun b =>
 (ig [P, (vi 1)]).bind fun c =>
 (i8 [c, (vi 4)]).bind fun d =>
 iz [(0, 1), (1, 1), (2, 1)] [(.pointer none), (vi 0), (vi 0)] [(0, I), (1, b), (2, d)] fun e =>
 aW (Value.cells e).toList H fun f g =>
 some (f, g)) = some r) : FF lQ [I, K, P] H = some r :=
 fo Tryz.func88 (by kernel_rfl) h
theorem CO {r : Value × AH} (h : (
 (ig [K, (vi 1)]).bind fun a =>
 (i8 [a, (vi 6)]).bind fun b =>
 iz [(0, 1), (1, 1), (2, 1), (3, 1), (4, 1), (5, 1)] [(.pointer none), (vi 0), (.slice none 0 0), (.slice none 0 0), (.slice none 0 0), (.slice none 0 0)] [(0, I), (1, b)] fun c =>
 aW (Value.cells c).toList H fun d e =>
 some (d, e)) = some r) : FF mV [I, K] H = some r :=
 fo Tryz.func89 (by kernel_rfl) h
theorem CN {r : Value × AH} (h : (
 aW (Value.cells I).toList H fun b a =>
 ld [.f 0] b a fun d =>
 ld [.f 3] b a fun e =>
 (FF adD [d, e] a).bind fun c =>
 iz [(0, 1), (1, 1), (2, 1), (3, 1), (4, 1), (5, 1), (6, 1), (7, 1), (8, 1)] [(.pointer none), (vw 0), (vw 0), (vi 0), (.slice none 0 0), (.slice none 0 0), (vb false), (vi 0), (vw 0)] [(0, c.1)] fun g =>
 aW (Value.cells g).toList c.2 fun i j =>
 some (i, j)) = some r) : FF mU [I] H = some r :=
 fo Tryz.func90 (by kernel_rfl) h
theorem sq {r : Value × AH} (h : (
 aW (Value.cells P).toList H fun b d =>
 ld [.n, .f 10] I d fun j =>
 ep j fun e =>
 ld [.n, .f 0] I d fun k =>
 iz [(0, 1), (1, 1), (2, 1)] [(vi 0), (vi 0), (vi 0)] [(0, (vi 13)), (1, e)] fun l =>
 (FF e9 [k, K, l] d).bind fun a =>
 ad [.n, .f 10] I fun g =>
 (au g a.2).bind fun m =>
 (aC 3 b a.2).bind fun o =>
 ld [.n, .f 0] I a.2 fun p =>
 ld [.f 1] b a.2 fun q =>
 (FF tK [p, e, q] a.2).bind fun c =>
 bJ (au g c.2) (au g a.2) <|
 bJ (aC 3 b c.2) (aC 3 b a.2) <|
 iz [(0, 3), (3, 1)] [(vi 0), (vi 0), (vw 0), (.pointer none)] [(0, o), (1, c.1)] fun s =>
 ze 1 4 [(vi 0), (vi 0), (vw 0), (.pointer none)] [(0, s)] c.2 fun t w =>
 (dN 4 32 m t w).bind fun i =>
 st 1 [.n, .f 10] I i.1 i.2 fun y =>
 some (e, y)) = some r) : FF hF [I, K, P] H = some r :=
 fo Tryz.func91 (by kernel_rfl) h
theorem vN {r : Value × AH} (h : (
 aW (Value.cells P).toList H fun o c =>
 ld [.n, .f 10] I c fun q =>
 ep q fun e =>
 ad [.n, .f 5] I fun g =>
 (au g c).bind fun s =>
 (FF bX [(vi 13), e, (vi 0)] c).bind fun i =>
 bJ (au g i.2) (au g c) <|
 (FF bN [s, K, (vi 6), i.1] i.2).bind fun j =>
 ld [.n, .f 10] I j.2 fun t =>
 (aC 3 o j.2).bind fun w =>
 ze 1 3 [(vi 0), (vi 0), (vw 0)] [(0, w)] j.2 fun y d =>
 (dN 3 24 t y d).bind fun a =>
 ad [.n, .f 11] I fun b =>
 (au b a.2).bind fun z =>
 bJ (au b d) (au b a.2) <|
 ad [.n, .f 5] I fun k =>
 (au k a.2).bind fun A =>
 bJ (au k d) (au k a.2) <|
 ad [.f 1] o fun l =>
 (au l a.2).bind fun B =>
 bJ (au l d) (au l a.2) <|
 (FF mW [A, e, B] a.2).bind fun m =>
 bJ (au b m.2) (au b a.2) <|
 ze 1 1 [(.pointer none)] [(0, m.1)] m.2 fun C D =>
 (dN 1 8 z C D).bind fun p =>
 st 1 [.n, .f 10] I a.1 p.2 fun E =>
 st 1 [.n, .f 11] I p.1 E fun G =>
 some (e, G)) = some r) : FF jx [I, K, P] H = some r :=
 fo Tryz.func92 (by kernel_rfl) h
theorem ua {r : Value × AH} (h : (
 (aj .other .lss L (vi 0)).bind fun a =>
 (gV a false L).bind fun g =>
 (gB a false (aj .other .gtr g (vi 1048576))).bind fun i =>
 (aM a (vb true) i).bind fun b =>
 (gV b false N).bind fun j =>
 (gB b false (aj .other .lss j (vi 0))).bind fun k =>
 (aM b (vb true) k).bind fun c =>
 (gV c false N).bind fun l =>
 (gB c false (aj .other .geq l (vi 4294967296))).bind fun m =>
 (aM c (vb true) m).bind fun o =>
 aw o
 (some ((vb false), H))
 (ad [.n, .f 0] I fun d =>
 (au d H).bind fun p =>
 (FF kK [P, x3] H).bind fun e =>
 bJ (au d e.2) (au d H) <|
 (aj .other .add L (vi 1)).bind fun q =>
 (bI (some .u64) q).bind fun s =>
 (aj .other .shl s (vw 32)).bind fun t =>
 (bI (some .u64) N).bind fun w =>
 (aj .other .or t w).bind fun y =>
 (FF dv [p, K, e.1, y] e.2).bind fun z =>
 some ((vb true), z.2))) = some r) : FF iQ [I, K, P, x3, L, N] H = some r :=
 fo Tryz.func93 (by kernel_rfl) h
theorem xI {r : Value × AH} (h : (
 (aj .other .lss L (vi 0)).bind fun b =>
 (gV b false L).bind fun g =>
 (gB b false (aj .other .gtr g (vi 1048576))).bind fun i =>
 (aM b (vb true) i).bind fun c =>
 (gV c false N).bind fun j =>
 (gB c false (aj .other .lss j (vi 0))).bind fun k =>
 (aM c (vb true) k).bind fun a =>
 (gV a false N).bind fun l =>
 (gB a false (bI (some .u64) l)).bind fun m =>
 (gB a false (aj .other .geq m (vw 4294967296))).bind fun o =>
 (aM a (vb true) o).bind fun p =>
 aw p
 (some ((vb false), H))
 (ad [.n, .f 0] I fun d =>
 (au d H).bind fun q =>
 (FF bX [(vi 10), P, x3] H).bind fun e =>
 bJ (au d e.2) (au d H) <|
 (aj .other .add L (vi 1)).bind fun s =>
 (bI (some .u64) s).bind fun t =>
 (aj .other .mul t (vw 4294967296)).bind fun w =>
 (bI (some .u64) N).bind fun y =>
 (aj .other .add w y).bind fun z =>
 (FF fc [q, K, e.1, z] e.2).bind fun A =>
 some ((vb true), A.2))) = some r) : FF kj [I, K, P, x3, L, N] H = some r :=
 fo Tryz.func94 (by kernel_rfl) h
noncomputable def yq (p : List Nat) : Code := Code.sub (bP Tryz.f98) p
noncomputable def sM : KK := e6 PP (Tryz.f98).results.toList
noncomputable def abU : KK := CQ (yq [1, 1]) sM bC sM
noncomputable def u5 : OV := abU (ls [I, K, P, u, u, u, M] 23) H
noncomputable def NO : KK := CQ (yq [1, 1, 1]) sM bC sM
noncomputable def abT : KK := dn 1073741759 NO
noncomputable def u6 : OV := NO (ls [u, u, u, u, u, u, M] 23) H
noncomputable def abW : KK := CQ (yq [1, 1, 0, 1]) abT bC sM
noncomputable def u7 : OV := abW (ls [I, K, P, u, u, u, M, O] 22) H
noncomputable def NQ : KX := BX 0 abT bC
noncomputable def ab0 : KX := mJ 1073741759 NQ
noncomputable def NP : KK := sC (yq [1, 1, 0, 1, 4, 5]) ab0 sM
noncomputable def al5 : KK := dn 1073741624 NP
noncomputable def u9 : OV := NP (ls [I, K, P, u, u, u, M, O] 22) H
noncomputable def abY : KK := CQ (yq [1, 1, 0, 1, 4, 5, 1]) al5 ab0 sM
noncomputable def HC : OV := abY (ls [I, K, P, u, u, u, M, O] 22) H
noncomputable def qo : OV := NQ 0 (ls [u, u, u, u, u, u, M] 23) H
theorem oG : ap 1073741759 sM := rf
theorem abV : ap 1073741752 abU := rc oG aA oG
theorem B7 : ap 1073741759 NO := rc oG aA oG
theorem abX : ap 1073741624 abW := rc (cd B7) aA oG
theorem B9 : ∀ i, ap 1073741759 (NQ i) := rb (cd B7) aA
theorem B8 : ap 1073741624 NP := rl (cx B9) oG
theorem abZ : ap 1073741624 abY := rc (cd B8) (cx B9) oG
theorem yZ : u6 M H =
 some ((vb true), H) :=
 (by kernel_rfl)
theorem u0 : qo M H = u6 M H :=
 (by kernel_rfl)
theorem y4 : u9 I K P M O H =
 ep I fun a =>
 (aj .other .lss O a).bind fun b =>
 aw b
 (HC I K P M O H)
 (qo M H) :=
 pK rfl B8 (pt rfl 0 abZ (by kernel_rfl))
theorem y3 : u7 I K P M O H =
 u9 I K P M O H :=
 (bt rfl (yq [1, 1, 0, 1, 4]) 0 B9 (li rfl (yq [1, 1, 0, 1, 4, 5]) B8 (by kernel_rfl)))
theorem yY : u5 I K P M H =
 u7 I K P M (vi 0) H :=
 (pt rfl 0 B7 (pt rfl 0 abX (by kernel_rfl)))
noncomputable def WH : OV := aT PP GG FF (yq []) (ls [I, K, P] 27) H sM bC sM
theorem HD {r : Value × AH} (h : (
 ep I fun a =>
 ep K fun b =>
 (aj .other .neq a b).bind fun c =>
 aw c
 (some ((vb false), H))
 (u5 I K P (vb false) H)) = some r) : FF qy [I, K, P] H = some r :=
 fo (t := WH I K P H) Tryz.func98 (by kernel_rfl) (Eq.trans (pt rfl 1 abV (by kernel_rfl)) h)
end
end Go.Proofs.YtghoamdlcjdfjaaGreatDoor.Gst
