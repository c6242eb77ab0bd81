/- Several texts in one. -/
import Derived.Test.YtghoamdlcjdfjaaGreatDoorPb
namespace Go.Proofs.YtghoamdlcjdfjaaGreatDoor.Gst
open Go Go.RowKit
set_option maxRecDepth 100000
set_option linter.unusedVariables false
set_option maxHeartbeats 1000000
section
variable (L M S x3 N Q P R x8 x13 x30 O x97 T U V W X Y Z x242 x248 x272 x283 x297 : Value) (H : AH)
noncomputable def cQ (p : List Nat) : Code := Code.sub (bH Tryz.f64) p
noncomputable def gW : KK := dO PP (Tryz.f64).results.toList
noncomputable def Zu : KK := CQ (cQ [1, 1, 1]) gW bD gW
noncomputable def PD : OV := Zu (ls [L, M, u, u, N, Q, P, R] 297) H
noncomputable def Zw : KK := CQ (cQ [1, 1, 1, 1]) gW bD gW
noncomputable def PE : OV := Zw (ls [L, M, u, u, N, Q, P, R] 297) H
noncomputable def OM : KK := CQ (cQ [1, 1, 1, 1, 1]) gW bD gW
noncomputable def iG : KK := gC TV OM
noncomputable def fV : OV := OM (ls [u, u, u, u, N] 300) H
noncomputable def Zy : KK := CQ (cQ [1, 1, 1, 1, 0, 1]) iG bD gW
noncomputable def qp : OV := Zy (ls [L, M, u, u, N, Q, P, R, u, u, u, u, u, u, u, u, u, u, u, u, u, u, u, u, u, u, u, u, u, u, u, u, u, u, u, u, u, u, u, u, u, u, u, u, u, u, u, u, u, u, u, u, u, u, u, u, u, u, u, u, u, u, u, u, u, u, u, u, u, u, u, u, u, u, u, u, u, u, u, u, u, u, u, u, u, u, u, u, u, u, u, u, u, O] 211) H
noncomputable def ZC : KX := BX 0 iG bD
noncomputable def jy : KX := A6 TV ZC
noncomputable def ZA : KK := CQ (cQ [1, 1, 1, 1, 0, 1, 4, 1]) iG jy gW
noncomputable def PG : OV := ZA (ls [L, M, u, u, N, Q, P, R, u, u, u, u, u, u, u, u, u, u, u, u, u, u, u, u, u, u, u, u, u, u, u, u, u, u, u, u, u, u, u, u, u, u, u, u, u, u, u, u, u, u, u, u, u, u, u, u, u, u, u, u, u, u, u, u, u, u, u, u, u, u, u, u, u, u, u, u, u, u, u, u, u, u, u, u, u, u, u, u, u, u, u, u, u, O, u, u, u, x97] 207) H
noncomputable def Se : KK := CQ (cQ [1, 1, 1, 1, 0, 1, 4, 1, 3, 1]) iG jy gW
noncomputable def S3 : OV := Se (ls [L, M, u, u, N, Q, P, R, u, u, u, u, u, u, u, u, u, u, u, u, u, u, u, u, u, u, u, u, u, u, u, u, u, u, u, u, u, u, u, u, u, u, u, u, u, u, u, u, u, u, u, u, u, u, u, u, u, u, u, u, u, u, u, u, u, u, u, u, u, u, u, u, u, u, u, u, u, u, u, u, u, u, u, u, u, u, u, u, u, u, u, u, u, O, u, u, u, u, u, u, u, u, u, u, u, u, u, u, u, u, u, u, T] 192) H
noncomputable def Sf : KK := CQ (cQ [1, 1, 1, 1, 0, 1, 4, 1, 3, 1, 3, 1]) iG jy gW
noncomputable def S4 : OV := Sf (ls [L, M, u, u, N, Q, P, R, u, u, u, u, u, u, u, u, u, u, u, u, u, u, u, u, u, u, u, u, u, u, u, u, u, u, u, u, u, u, u, u, u, u, u, u, u, u, u, u, u, u, u, u, u, u, u, u, u, u, u, u, u, u, u, u, u, u, u, u, u, u, u, u, u, u, u, u, u, u, u, u, u, u, u, u, u, u, u, u, u, u, u, u, u, O, u, u, u, u, u, u, u, u, u, u, u, u, u, u, u, u, u, u, u, u, u, u, u, u, u, u, u, u, u, u, u, u, u, u, u, u, u, u, u, V] 171) H
noncomputable def Sg : KK := CQ (cQ [1, 1, 1, 1, 0, 1, 4, 1, 3, 1, 3, 1, 3, 1]) iG jy gW
noncomputable def S5 : OV := Sg (ls [L, M, u, u, N, Q, P, R, u, u, u, u, u, u, u, u, u, u, u, u, u, u, u, u, u, u, u, u, u, u, u, u, u, u, u, u, u, u, u, u, u, u, u, u, u, u, u, u, u, u, u, u, u, u, u, u, u, u, u, u, u, u, u, u, u, u, u, u, u, u, u, u, u, u, u, u, u, u, u, u, u, u, u, u, u, u, u, u, u, u, u, u, u, O, u, u, u, u, u, u, u, u, u, u, u, u, u, u, u, u, u, u, u, u, u, u, u, u, u, u, u, u, u, u, u, u, u, u, u, u, u, u, u, u, u, u, u, u, u, u, u, u, u, u, u, u, u, u, u, u, u, W] 153) H
noncomputable def Sh : KK := CQ (cQ [1, 1, 1, 1, 0, 1, 4, 1, 3, 1, 3, 1, 3, 1, 3, 1]) iG jy gW
noncomputable def Kf : OV := Sh (ls [L, M, u, u, N, Q, P, R, u, u, u, u, u, u, u, u, u, u, u, u, u, u, u, u, u, u, u, u, u, u, u, u, u, u, u, u, u, u, u, u, u, u, u, u, u, u, u, u, u, u, u, u, u, u, u, u, u, u, u, u, u, u, u, u, u, u, u, u, u, u, u, u, u, u, u, u, u, u, u, u, u, u, u, u, u, u, u, u, u, u, u, u, u, O, u, u, u, u, u, u, u, u, u, u, u, u, u, u, u, u, u, u, u, u, u, u, u, u, u, u, u, u, u, u, u, u, u, u, u, u, u, u, u, u, u, u, u, u, u, u, u, u, u, u, u, u, u, u, u, u, u, u, u, u, u, u, u, u, u, u, u, u, u, u, u, u, u, u, u, u, u, X] 133) H
noncomputable def Si : KK := CQ (cQ [1, 1, 1, 1, 0, 1, 4, 1, 3, 1, 3, 1, 3, 1, 3, 1, 3, 1]) iG jy gW
noncomputable def S6 : OV := Si (ls [L, M, u, u, N, Q, P, R, u, u, u, u, u, u, u, u, u, u, u, u, u, u, u, u, u, u, u, u, u, u, u, u, u, u, u, u, u, u, u, u, u, u, u, u, u, u, u, u, u, u, u, u, u, u, u, u, u, u, u, u, u, u, u, u, u, u, u, u, u, u, u, u, u, u, u, u, u, u, u, u, u, u, u, u, u, u, u, u, u, u, u, u, u, O, u, u, u, u, u, u, u, u, u, u, u, u, u, u, u, u, u, u, u, u, u, u, u, u, u, u, u, u, u, u, u, u, u, u, u, u, u, u, u, u, u, u, u, u, u, u, u, u, u, u, u, u, u, u, u, u, u, u, u, u, u, u, u, u, u, u, u, u, u, u, u, u, u, u, u, u, u, u, u, u, u, u, u, u, u, u, u, u, u, u, u, u, Y] 118) H
noncomputable def Sj : KK := CQ (cQ [1, 1, 1, 1, 0, 1, 4, 1, 3, 1, 3, 1, 3, 1, 3, 1, 3, 1, 3, 1]) iG jy gW
noncomputable def Kg : OV := Sj (ls [L, M, u, u, N, Q, P, R, u, u, u, u, u, u, u, u, u, u, u, u, u, u, u, u, u, u, u, u, u, u, u, u, u, u, u, u, u, u, u, u, u, u, u, u, u, u, u, u, u, u, u, u, u, u, u, u, u, u, u, u, u, u, u, u, u, u, u, u, u, u, u, u, u, u, u, u, u, u, u, u, u, u, u, u, u, u, u, u, u, u, u, u, u, O, u, u, u, u, u, u, u, u, u, u, u, u, u, u, u, u, u, u, u, u, u, u, u, u, u, u, u, u, u, u, u, u, u, u, u, u, u, u, u, u, u, u, u, u, u, u, u, u, u, u, u, u, u, u, u, u, u, u, u, u, u, u, u, u, u, u, u, u, u, u, u, u, u, u, u, u, u, u, u, u, u, u, u, u, u, u, u, u, u, u, u, u, u, u, u, u, u, u, u, u, u, u, u, Z] 107) H
noncomputable def Sk : KK := CQ (cQ [1, 1, 1, 1, 0, 1, 4, 1, 3, 1, 3, 1, 3, 1, 3, 1, 3, 1, 3, 1, 2, 1, 1]) iG jy gW
noncomputable def S7 : OV := Sk (ls [L, u, u, u, N, u, u, u, u, u, u, u, u, x13] 291) H
noncomputable def af0 : KX := BX 1 iG jy
noncomputable def Sn : KK := CQ (cQ [1, 1, 1, 1, 0, 1, 4, 1, 3, 1, 3, 1, 3, 1, 3, 1, 3, 1, 3, 1, 3, 1]) iG jy gW
noncomputable def Kh : OV := Sn (ls [L, M, u, u, N, Q, P, R, u, u, u, u, u, u, u, u, u, u, u, u, u, u, u, u, u, u, u, u, u, u, u, u, u, u, u, u, u, u, u, u, u, u, u, u, u, u, u, u, u, u, u, u, u, u, u, u, u, u, u, u, u, u, u, u, u, u, u, u, u, u, u, u, u, u, u, u, u, u, u, u, u, u, u, u, u, u, u, u, u, u, u, u, u, O, u, u, u, u, u, u, u, u, u, u, u, u, u, u, u, u, u, u, u, u, u, u, u, u, u, u, u, u, u, u, u, u, u, u, u, u, u, u, u, u, u, u, u, u, u, u, u, u, u, u, u, u, u, u, u, u, u, u, u, u, u, u, u, u, u, u, u, u, u, u, u, u, u, u, u, u, u, u, u, u, u, u, u, u, u, u, u, u, u, u, u, u, u, u, u, u, u, u, u, u, u, u, u, u, u, u, u, u, u, u, u, u, u, u, u, u, u, u, u, u, u, u, u, u, u, u, u, u, u, u, u, u, u, u, u, u, u, u, u, u, u, u, u, u, u, u, u, u, x242] 62) H
noncomputable def So : KK := CQ (cQ [1, 1, 1, 1, 0, 1, 4, 1, 3, 1, 3, 1, 3, 1, 3, 1, 3, 1, 3, 1, 3, 1, 3, 1]) iG jy gW
noncomputable def yq : OV := So (ls [L, M, u, u, N, Q, P, R, u, u, u, u, u, u, u, u, u, u, u, u, u, u, u, u, u, u, u, u, u, u, u, u, u, u, u, u, u, u, u, u, u, u, u, u, u, u, u, u, u, u, u, u, u, u, u, u, u, u, u, u, u, u, u, u, u, u, u, u, u, u, u, u, u, u, u, u, u, u, u, u, u, u, u, u, u, u, u, u, u, u, u, u, u, O, u, u, u, u, u, u, u, u, u, u, u, u, u, u, u, u, u, u, u, u, u, u, u, u, u, u, u, u, u, u, u, u, u, u, u, u, u, u, u, u, u, u, u, u, u, u, u, u, u, u, u, u, u, u, u, u, u, u, u, u, u, u, u, u, u, u, u, u, u, u, u, u, u, u, u, u, u, u, u, u, u, u, u, u, u, u, u, u, u, u, u, u, u, u, u, u, u, u, u, u, u, u, u, u, u, u, u, u, u, u, u, u, u, u, u, u, u, u, u, u, u, u, u, u, u, u, u, u, u, u, u, u, u, u, u, u, u, u, u, u, u, u, u, u, u, u, u, u, u, u, u, u, u, u, x248] 56) H
noncomputable def Sq : KK := CQ (cQ [1, 1, 1, 1, 0, 1, 4, 1, 3, 1, 3, 1, 3, 1, 3, 1, 3, 1, 3, 1, 3, 1, 3, 1, 3, 1]) iG jy gW
noncomputable def Ki : OV := Sq (ls [L, M, u, u, N, Q, P, u, u, u, u, u, u, u, u, u, u, u, u, u, u, u, u, u, u, u, u, u, u, u, u, u, u, u, u, u, u, u, u, u, u, u, u, u, u, u, u, u, u, u, u, u, u, u, u, u, u, u, u, u, u, u, u, u, u, u, u, u, u, u, u, u, u, u, u, u, u, u, u, u, u, u, u, u, u, u, u, u, u, u, u, u, u, O, u, u, u, u, u, u, u, u, u, u, u, u, u, u, u, u, u, u, u, u, u, u, u, u, u, u, u, u, u, u, u, u, u, u, u, u, u, u, u, u, u, u, u, u, u, u, u, u, u, u, u, u, u, u, u, u, u, u, u, u, u, u, u, u, u, u, u, u, u, u, u, u, u, u, u, u, u, u, u, u, u, u, u, u, u, u, u, u, u, u, u, u, u, u, u, u, u, u, u, u, u, u, u, u, u, u, u, u, u, u, u, u, u, u, u, u, u, u, u, u, u, u, u, u, u, u, u, u, u, u, u, u, u, u, u, u, u, u, u, u, u, u, u, u, u, u, u, u, u, u, u, u, u, u, u, u, u, u, u, u, u, u, u, u, u, u, u, u, u, u, u, u, u, u, u, u, u, u, x272] 32) H
noncomputable def Sr : KK := CQ (cQ [1, 1, 1, 1, 0, 1, 4, 1, 3, 1, 3, 1, 3, 1, 3, 1, 3, 1, 3, 1, 3, 1, 3, 1, 3, 1, 3, 1]) iG jy gW
noncomputable def S8 : OV := Sr (ls [L, M, u, u, N, Q, P, u, u, u, u, u, u, u, u, u, u, u, u, u, u, u, u, u, u, u, u, u, u, u, u, u, u, u, u, u, u, u, u, u, u, u, u, u, u, u, u, u, u, u, u, u, u, u, u, u, u, u, u, u, u, u, u, u, u, u, u, u, u, u, u, u, u, u, u, u, u, u, u, u, u, u, u, u, u, u, u, u, u, u, u, u, u, O, u, u, u, u, u, u, u, u, u, u, u, u, u, u, u, u, u, u, u, u, u, u, u, u, u, u, u, u, u, u, u, u, u, u, u, u, u, u, u, u, u, u, u, u, u, u, u, u, u, u, u, u, u, u, u, u, u, u, u, u, u, u, u, u, u, u, u, u, u, u, u, u, u, u, u, u, u, u, u, u, u, u, u, u, u, u, u, u, u, u, u, u, u, u, u, u, u, u, u, u, u, u, u, u, u, u, u, u, u, u, u, u, u, u, u, u, u, u, u, u, u, u, u, u, u, u, u, u, u, u, u, u, u, u, u, u, u, u, u, u, u, u, u, u, u, u, u, u, u, u, u, u, u, u, u, u, u, u, u, u, u, u, u, u, u, u, u, u, u, u, u, u, u, u, u, u, u, u, u, u, u, u, u, u, u, u, u, u, u, x283] 21) H
noncomputable def Ss : KK := CQ (cQ [1, 1, 1, 1, 0, 1, 4, 1, 3, 1, 3, 1, 3, 1, 3, 1, 3, 1, 3, 1, 3, 1, 3, 1, 3, 1, 3, 1, 3, 1]) iG jy gW
noncomputable def mh : OV := Ss (ls [L, M, u, u, N, u, P, u, u, u, u, u, u, u, u, u, u, u, u, u, u, u, u, u, u, u, u, u, u, u, u, u, u, u, u, u, u, u, u, u, u, u, u, u, u, u, u, u, u, u, u, u, u, u, u, u, u, u, u, u, u, u, u, u, u, u, u, u, u, u, u, u, u, u, u, u, u, u, u, u, u, u, u, u, u, u, u, u, u, u, u, u, u, u, u, u, u, u, u, u, u, u, u, u, u, u, u, u, u, u, u, u, u, u, u, u, u, u, u, u, u, u, u, u, u, u, u, u, u, u, u, u, u, u, u, u, u, u, u, u, u, u, u, u, u, u, u, u, u, u, u, u, u, u, u, u, u, u, u, u, u, u, u, u, u, u, u, u, u, u, u, u, u, u, u, u, u, u, u, u, u, u, u, u, u, u, u, u, u, u, u, u, u, u, u, u, u, u, u, u, u, u, u, u, u, u, u, u, u, u, u, u, u, u, u, u, u, u, u, u, u, u, u, u, u, u, u, u, u, u, u, u, u, u, u, u, u, u, u, u, u, u, u, u, u, u, u, u, u, u, u, u, u, u, u, u, u, u, u, u, u, u, u, u, u, u, u, u, u, u, u, u, u, u, u, u, u, u, u, u, u, u, u, u, u, u, u, u, u, u, u, u, u, u, u, u, u, x297] 7) H
theorem dC : aw TV gW := rf
theorem Zv : aw ahN Zu := rc dC aD dC
theorem Zx : aw ahN Zw := rc dC aD dC
theorem dw : aw TV OM := rc dC aD dC
theorem Zz : aw 65185151242703554760590262029100101153646988597309960020356494369436681278143732398675721996 Zy := rc (cd dw) aD dC
theorem eh : ∀ i, aw TV (ZC i) := rb (cd dw) aD
theorem ZB : aw 65185151242703554760590262029100101153646988597309960020356494210980356249615057211587821324 ZA := rc (cd dw) (cx eh) dC
theorem Vz : aw 65185151242703554760590262029100101153646988597309960020351302072578146450515201902346501900 Se := rc (cd dw) (cx eh) dC
theorem VA : aw 65185151242703554760590262029100101153646988597309949131320752899405850450156294582092955404 Sf := rc (cd dw) (cx eh) dC
theorem VB : aw 65185151242703554760590262029100101153646988594455464634944574607320109339244742125910228748 Sg := rc (cd dw) (cx eh) dC
theorem VC : aw 65185151242703554760590262029100101153643995441956706331180013222899278330519477048827707148 Sh := rc (cd dw) (cx eh) dC
theorem VD : aw 65185151242703554760590262029100101055567273981893073085422284631816893526544428578925182732 Si := rc (cd dw) (cx eh) dC
theorem VE : aw 65185151242703554760590262029099900286391456223525517275094951724111366002769509549571309324 Sj := rc (cd dw) (cx eh) dC
theorem VF : aw 65185151242703554760590262029100101153646988597309960020356494379340201592426774597868707822 Sk := rc (cd dw) (cx eh) dC
theorem VL : ∀ i, aw TV (af0 i) := rb (cd dw) (cx eh)
theorem VG : aw 65185151242703554753522873769986563835313798594338285957046558781934205445657307593505242892 Sn := rc (cd dw) (cx eh) dC
theorem VH : aw 65185151242703554308277413445833712780322828407122819968520616769278227999012544867765059340 So := rc (cd dw) (cx eh) dC
theorem VI : aw 65185151235115004400333507845820953080117617868238058305309074364546789052601137534592876428 Sq := rc (cd dw) (cx eh) dC
theorem VJ : aw 65185135701352416954757694673404846565495735458055247603240324354937403366909450757007736716 Sr := rc (cd dw) (cx eh) dC
theorem VK : aw 64930521745661743999806706318048928883515555048101717989026976823170903929956357509595791276 Ss := rc (cd dw) (cx eh) dC
theorem cB : fV N H =
 some ((vb false), H) :=
 (by kernel_rfl)
theorem PF : S7 L N x13 H =
 (FF bX [L] H).bind fun a =>
 ad [.n, .f 11] L fun c =>
 (ar c a.2).bind fun e =>
 bO (ar c H) (ar c a.2) <|
 ad [.n, .f 12] L fun d =>
 (ar d a.2).bind fun g =>
 bO (ar d H) (ar d a.2) <|
 (FF iZ [a.1, e, g] a.2).bind fun b =>
 av b.1
 (st 1 [.n, .f 6] L (vi 15) b.2 fun i =>
 fV N i)
 ((ap .other .eql x13 (vi 1)).bind fun j =>
 av j
 (st 1 [.n, .f 6] L (vi 9) b.2 fun k =>
 fV N k)
 (st 1 [.n, .f 6] L (vi 12) b.2 fun l =>
 fV N l)) :=
 (bt rfl (cQ [1, 1, 1, 1, 0, 1, 4, 1, 3, 1, 3, 1, 3, 1, 3, 1, 3, 1, 3, 1, 2, 1, 1, 4]) 1 VL (by kernel_rfl))
theorem nB : mh L M N P x297 H =
 av x297
 ((FF aiE [L, M] H).bind fun a =>
 some (a.1, a.2))
 ((FF aaW [L, P] H).bind fun b =>
 some (b.1, b.2)) :=
 (by kernel_rfl)
theorem E8 : S8 L M N Q P O x283 H =
 av x283
 (ld [.n, .f 6] Q H fun d =>
 ld [.n, .f 1] L H fun e =>
 (FF jM [d, e] H).bind fun g =>
 st 1 [.n, .f 6] L (vi 13) g.2 fun i =>
 fV N i)
 ((ap .other .eql O (vi 15)).bind fun a =>
 av a
 (mh L M N P a H)
 ((ap .other .eql O (vi 16)).bind fun b =>
 av b
 (mh L M N P b H)
 ((ap .other .eql O (vi 17)).bind fun c =>
 av c
 (mh L M N P c H)
 ((ap .other .eql O (vi 18)).bind fun j =>
 mh L M N P j H)))) :=
 (ct rfl (cQ [1, 1, 1, 1, 0, 1, 4, 1, 3, 1, 3, 1, 3, 1, 3, 1, 3, 1, 3, 1, 3, 1, 3, 1, 3, 1, 3, 1, 2]) (cQ [1, 1, 1, 1, 0, 1, 4, 1, 3, 1, 3, 1, 3, 1, 3, 1, 3, 1, 3, 1, 3, 1, 3, 1, 3, 1, 3, 1, 3]) (.tmp 283) (by kernel_rfl) (pt rfl 0 VK (by kernel_rfl)))
theorem vZ : Ki L M N Q P O x272 H =
 av x272
 ((FF bX [L] H).bind fun a =>
 ad [.n, .f 1] L fun b =>
 (ar b a.2).bind fun d =>
 bO (ar b H) (ar b a.2) <|
 (FF fR [L] a.2).bind fun c =>
 bO (ar b c.2) (ar b a.2) <|
 (FF i1 [a.1, d, c.1] c.2).bind fun e =>
 some ((vb true), e.2))
 ((ap .other .eql O (vi 12)).bind fun g =>
 S8 L M N Q P O g H) :=
 (ct rfl (cQ [1, 1, 1, 1, 0, 1, 4, 1, 3, 1, 3, 1, 3, 1, 3, 1, 3, 1, 3, 1, 3, 1, 3, 1, 3, 1, 2]) (cQ [1, 1, 1, 1, 0, 1, 4, 1, 3, 1, 3, 1, 3, 1, 3, 1, 3, 1, 3, 1, 3, 1, 3, 1, 3, 1, 3]) (.tmp 272) (by kernel_rfl) (pt rfl 0 VJ (by kernel_rfl)))
theorem vY : yq L M N Q P R O x248 H =
 av x248
 ((FF bX [L] H).bind fun a =>
 ad [.n, .f 1] L fun c =>
 (ar c a.2).bind fun e =>
 bO (ar c H) (ar c a.2) <|
 (FF fR [L] a.2).bind fun b =>
 bO (ar c b.2) (ar c a.2) <|
 (ay 3 R b.2).bind fun g =>
 bO (ay 3 R H) (ay 3 R b.2) <|
 bO (ay 3 R a.2) (ay 3 R b.2) <|
 (FF nh [a.1, e, b.1, g] b.2).bind fun i =>
 st 1 [.n, .f 6] L (vi 11) i.2 fun d =>
 ld [.n, .f 13] L d fun j =>
 (ap .other .eql j (vw 1)).bind fun k =>
 av k
 (st 1 [.n, .f 6] L (vi 21) d fun l =>
 fV N l)
 (fV N d))
 ((ap .other .eql O (vi 11)).bind fun m =>
 Ki L M N Q P O m H) :=
 (ct rfl (cQ [1, 1, 1, 1, 0, 1, 4, 1, 3, 1, 3, 1, 3, 1, 3, 1, 3, 1, 3, 1, 3, 1, 3, 1, 2]) (cQ [1, 1, 1, 1, 0, 1, 4, 1, 3, 1, 3, 1, 3, 1, 3, 1, 3, 1, 3, 1, 3, 1, 3, 1, 3]) (.tmp 248) (by kernel_rfl) (pt rfl 0 VI (by kernel_rfl)))
theorem vX : Kh L M N Q P R O x242 H =
 av x242
 ((FF kI [L, M] H).bind fun b =>
 fV N b.2)
 ((ap .other .eql O (vi 10)).bind fun a =>
 av a
 (yq L M N Q P R O a H)
 ((ap .other .eql O (vi 14)).bind fun c =>
 yq L M N Q P R O c H)) :=
 (ct rfl (cQ [1, 1, 1, 1, 0, 1, 4, 1, 3, 1, 3, 1, 3, 1, 3, 1, 3, 1, 3, 1, 3, 1, 2]) (cQ [1, 1, 1, 1, 0, 1, 4, 1, 3, 1, 3, 1, 3, 1, 3, 1, 3, 1, 3, 1, 3, 1, 3]) (.tmp 242) (by kernel_rfl) (pt rfl 0 VH (by kernel_rfl)))
theorem qq : Kg L M N Q P R O Z H =
 av Z
 ((FF bX [L] H).bind fun a =>
 ad [.n, .f 1] L fun c =>
 (ar c a.2).bind fun i =>
 bO (ar c H) (ar c a.2) <|
 (FF i0 [a.1, i] a.2).bind fun d =>
 st 1 [.n, .f 12] L d.1 d.2 fun e =>
 ld [.n, .f 11] L e fun j =>
 (FF gZ [j] e).bind fun b =>
 (af b.1 0).bind fun m =>
 (af b.1 1).bind fun k =>
 (af b.1 2).bind fun o =>
 S7 L N k b.2)
 ((ap .other .eql O (vi 9)).bind fun g =>
 av g
 (Kh L M N Q P R O g H)
 ((ap .other .eql O (vi 13)).bind fun l =>
 Kh L M N Q P R O l H)) :=
 (ct rfl (cQ [1, 1, 1, 1, 0, 1, 4, 1, 3, 1, 3, 1, 3, 1, 3, 1, 3, 1, 3, 1, 2]) (cQ [1, 1, 1, 1, 0, 1, 4, 1, 3, 1, 3, 1, 3, 1, 3, 1, 3, 1, 3, 1, 3]) (.tmp 197) (pt rfl 1 VF (by kernel_rfl)) (pt rfl 0 VG (by kernel_rfl)))
theorem E7 : S6 L M N Q P R O Y H =
 av Y
 (st 1 [.n, .f 6] L (vi 8) H fun b =>
 (FF eR [L] b).bind fun a =>
 (ap .other .eql a.1 (vi 2)).bind fun c =>
 av c
 (st 1 [.n, .f 6] L (vi 3) a.2 fun d =>
 fV N d)
 (fV N a.2))
 ((ap .other .eql O (vi 8)).bind fun e =>
 Kg L M N Q P R O e H) :=
 (ct rfl (cQ [1, 1, 1, 1, 0, 1, 4, 1, 3, 1, 3, 1, 3, 1, 3, 1, 3, 1, 2]) (cQ [1, 1, 1, 1, 0, 1, 4, 1, 3, 1, 3, 1, 3, 1, 3, 1, 3, 1, 3]) (.tmp 186) (by kernel_rfl) (pt rfl 0 VE (by kernel_rfl)))
theorem vW : Kf L M N Q P R O X H =
 av X
 (ld [.n, .f 1] L H fun a =>
 ld [.n, .f 10] L H fun b =>
 (FF lK [Q, a, b] H).bind fun c =>
 st 1 [.n, .f 6] L (vi 7) c.2 fun d =>
 fV N d)
 ((ap .other .eql O (vi 7)).bind fun e =>
 S6 L M N Q P R O e H) :=
 (ct rfl (cQ [1, 1, 1, 1, 0, 1, 4, 1, 3, 1, 3, 1, 3, 1, 3, 1, 2]) (cQ [1, 1, 1, 1, 0, 1, 4, 1, 3, 1, 3, 1, 3, 1, 3, 1, 3]) (.tmp 171) (by kernel_rfl) (pt rfl 0 VD (by kernel_rfl)))
theorem E6 : S5 L M N Q P R O W H =
 av W
 (ld [.n, .f 7] Q H fun b =>
 ld [.n, .f 1] L H fun c =>
 (FF en [b, c, P] H).bind fun a =>
 ld [.n, .f 9] L a.2 fun d =>
 (nk .not d).bind fun e =>
 av e
 (some ((vb true), a.2))
 (st 1 [.n, .f 6] L (vi 6) a.2 fun g =>
 fV N g))
 ((ap .other .eql O (vi 6)).bind fun i =>
 Kf L M N Q P R O i H) :=
 (ct rfl (cQ [1, 1, 1, 1, 0, 1, 4, 1, 3, 1, 3, 1, 3, 1, 2]) (cQ [1, 1, 1, 1, 0, 1, 4, 1, 3, 1, 3, 1, 3, 1, 3]) (.tmp 151) (by kernel_rfl) (pt rfl 0 VC (by kernel_rfl)))
theorem vV : S4 L M N Q P R O V H =
 av V
 ((FF EG [L] H).bind fun a =>
 (af a.1 0).bind fun b =>
 (af a.1 1).bind fun c =>
 av b
 (st 1 [.n, .f 6] L (vi 5) a.2 fun d =>
 fV N d)
 (av c
 ((FF bC [L, M, (vi 5)] a.2).bind fun e =>
 st 1 [.n, .f 6] L (vi 5) e.2 fun g =>
 fV N g)
 (fV N a.2)))
 ((ap .other .eql O (vi 5)).bind fun i =>
 S5 L M N Q P R O i H) :=
 (ct rfl (cQ [1, 1, 1, 1, 0, 1, 4, 1, 3, 1, 3, 1, 2]) (cQ [1, 1, 1, 1, 0, 1, 4, 1, 3, 1, 3, 1, 3]) (.tmp 133) (by kernel_rfl) (pt rfl 0 VB (by kernel_rfl)))
theorem qo : S3 L M N Q P R O T H =
 av T
 (ld [.n, .f 7] Q H fun b =>
 ld [.n, .f 1] L H fun c =>
 (FF io [b, c, P] H).bind fun a =>
 av a.1
 (st 1 [.n, .f 6] L (vi 4) a.2 fun d =>
 st 1 [.n, .f 7] L (vi 0) d fun e =>
 st 1 [.n, .f 9] L (vb false) e fun g =>
 fV N g)
 (fV N a.2))
 ((ap .other .eql O (vi 4)).bind fun i =>
 S4 L M N Q P R O i H) :=
 (ct rfl (cQ [1, 1, 1, 1, 0, 1, 4, 1, 3, 1, 2]) (cQ [1, 1, 1, 1, 0, 1, 4, 1, 3, 1, 3]) (.tmp 112) (by kernel_rfl) (pt rfl 0 VA (by kernel_rfl)))
theorem pN : PG L M N Q P R O x97 H =
 av x97
 ((FF EG [L] H).bind fun a =>
 (af a.1 0).bind fun b =>
 (af a.1 1).bind fun c =>
 av b
 (st 1 [.n, .f 6] L (vi 6) a.2 fun d =>
 fV N d)
 (av c
 (st 1 [.n, .f 6] L (vi 3) a.2 fun e =>
 fV N e)
 (fV N a.2)))
 ((ap .other .eql O (vi 3)).bind fun g =>
 S3 L M N Q P R O g H) :=
 (ct rfl (cQ [1, 1, 1, 1, 0, 1, 4, 1, 2]) (cQ [1, 1, 1, 1, 0, 1, 4, 1, 3]) (.tmp 97) (by kernel_rfl) (pt rfl 0 Vz (by kernel_rfl)))
theorem mB : qp L M N Q P R O H =
 (ap .other .eql O (vi 2)).bind fun a =>
 PG L M N Q P R O a H :=
 (bt rfl (cQ [1, 1, 1, 1, 0, 1, 4]) 0 eh (pt rfl 0 ZB (by kernel_rfl)))
theorem HF : PE L M N Q P R H =
 ld [.n, .f 6] L H fun a =>
 qp L M N Q P R a H :=
 (pt rfl 0 dw (pt rfl 0 Zz (by kernel_rfl)))
theorem HE : PD L M N Q P R H =
 ld [.n, .f 6] L H fun c =>
 (ap .other .eql c (vi 0)).bind fun d =>
 av d
 (ld [.n, .f 2, .f 2] L H fun e =>
 (ap .other .lss e (vi 1)).bind fun a =>
 (gV a false L).bind fun g =>
 fF a false  [.n, .f 2, .f 2] g H fun i =>
 (gB a false (ap .other .gtr i (vi 65536))).bind fun j =>
 (aV a (vb true) j).bind fun k =>
 av k
 ((FF bC [L, M, (vi 3)] H).bind fun l =>
 some ((vb true), l.2))
 (ld [.n, .f 2, .f 1] L H fun m =>
 (ap .other .lss m (vi 0)).bind fun b =>
 (gV b false L).bind fun o =>
 fF b false  [.n, .f 2, .f 1] o H fun p =>
 (gB b false (ap .other .gtr p (vi 1048576))).bind fun q =>
 (aV b (vb true) q).bind fun s =>
 av s
 ((FF bC [L, M, (vi 5)] H).bind fun t =>
 some ((vb true), t.2))
 (st 1 [.n, .f 6] L (vi 2) H fun w =>
 PE L M N Q P R w)))
 (PE L M N Q P R H) :=
 (pt rfl 0 Zx (by kernel_rfl))
noncomputable def rTE : OV := bh PP GG FF (cQ []) (ls [L, M] 303) H gW bD gW
theorem ajZ {r : Value × AH} (h : (
 ad [.n, .f 0] L fun b =>
 (ar b H).bind fun d =>
 ld [.n, .f 0] L H fun e =>
 ld [.n, .f 7] e H fun g =>
 ld [.n, .f 2, .f 1] L H fun i =>
 (FF fg [g, i] H).bind fun a =>
 bO (ar b a.2) (ar b H) <|
 ld [.n, .f 2, .f 1] L a.2 fun j =>
 ld [.n, .f 2, .f 2] L a.2 fun k =>
 ld [.n, .f 2, .f 3] L a.2 fun l =>
 ga [(0, 1), (1, 1), (2, 1)] [(vi 0), (vi 0), (vi 0)] [(0, j), (1, k), (2, l)] fun m =>
 aQ [(vi 0), (vi 0), (vi 0)] a.2 fun c o =>
 (cf 3 c m o).bind fun p =>
 PD L M (vb false) d a.1 c p) = some r) : FF eI [L, M] H = some r :=
 fo (t := rTE L M H) Tryz.func64 (by kernel_rfl) (Eq.trans (pt rfl 2 Zv (by kernel_rfl)) h)
theorem AC {r : Value × AH} (h : (
 aQ [(vi 0), (.slice none 0 0), (vi 0), (vw 0)] H fun a b =>
 av M
 (ldN 4 [.n, .f 17] L b fun e =>
 (cf 4 a e b).bind fun c =>
 (ay 4 a c).bind fun g => some (g, c))
 (ga [(0, 1), (1, 1), (2, 1), (3, 1)] [(vi 0), (.slice none 0 0), (vi 0), (vw 0)] [] fun i =>
 (cf 4 a i b).bind fun d =>
 (ay 4 a d).bind fun j => some (j, d))) = some r) : FF kC [L, M] H = some r :=
 fo Tryz.func65 (by kernel_rfl) h
theorem Ey {r : Value × AH} (h : (
 ld [.n, .f 1] L H fun a =>
 iQ a fun b =>
 some (b, H)) = some r) : FF fA [L] H = some r :=
 fo Tryz.func66 (by kernel_rfl) h
theorem zq {r : Value × AH} (h : (
 aQ [(vi 0), (vi 0), (vi 0)] H fun a c =>
 ga [(0, 1), (1, 1), (2, 1)] [(vi 0), (vi 0), (vi 0)] [(0, L), (1, M)] fun d =>
 (cf 3 a d c).bind fun b =>
 (ay 3 a b).bind fun e => some (e, b)) = some r) : FF bB [L, M] H = some r :=
 fo Tryz.func73 (by kernel_rfl) h
theorem B5 {r : Value × AH} (h : (
 aQ [(vi 0), (vi 0), (vi 0)] H fun a b =>
 ld [.n, .f 1] L b fun d =>
 ga [(0, 1), (1, 1), (2, 1)] [(vi 0), (vi 0), (vi 0)] [(0, M), (1, d), (2, S)] fun e =>
 (cf 3 a e b).bind fun c =>
 (ay 3 a c).bind fun g => some (g, c)) = some r) : FF ep [L, M, S] H = some r :=
 fo Tryz.func75 (by kernel_rfl) h
theorem JY {r : Value × AH} (h : (
 aQ (Value.cells L).toList H fun a i =>
 aQ [(vi 0), (.slice none 0 0), (vi 0), (vw 0)] i fun b c =>
 ld [.f 1] a c fun j =>
 (FF aaX [j] c).bind fun d =>
 st 1 [.f 1] a d.1 d.2 fun e =>
 (ay 4 a e).bind fun k =>
 (cf 4 b k e).bind fun g =>
 (ay 4 b g).bind fun l => some (l, g)) = some r) : FF sy [L] H = some r :=
 fo Tryz.func79 (by kernel_rfl) h
theorem oz {r : Value × AH} (h : (
 ld [.n, .f 2] L H fun a =>
 iQ a fun b =>
 (cN (some .u64) b).bind fun c =>
 (ap .other .rem M c).bind fun d =>
 (cN (some .i64) d).bind fun e =>
 some (e, H)) = some r) : FF dr [L, M] H = some r :=
 fo Tryz.func80 (by kernel_rfl) h
theorem EB {r : Value × AH} (h : (
 aQ (Value.cells L).toList H fun a l =>
 ld [.f 0] a l fun m =>
 (FF fQ [m, (vi 1), (vi 4)] l).bind fun b =>
 fF b.1 true  [.f 1] a b.2 fun n =>
 (gE b.1 true b.2 (FF fQ [n, (vi 1), (vi 4)] b.2)).bind fun c =>
 (aV b.1 c.1 (vb false)).bind fun g =>
 fF g true  [.f 2] a c.2 fun o =>
 (gE g true c.2 (FF fQ [o, (vi 1), (vi 6)] c.2)).bind fun d =>
 (aV g d.1 (vb false)).bind fun i =>
 fF i true  [.f 3] a d.2 fun p =>
 (gE i true d.2 (FF fQ [p, (vi 0), (vi 40)] d.2)).bind fun e =>
 (aV i e.1 (vb false)).bind fun j =>
 fF j true  [.f 4] a e.2 fun q =>
 (gB j true (ap .other .geq q (vw 1))).bind fun s =>
 (aV j s (vb false)).bind fun k =>
 fF k true  [.f 4] a e.2 fun t =>
 (gB k true (ap .other .leq t (vw 4611686018427387904))).bind fun w =>
 (aV k w (vb false)).bind fun y =>
 some (y, e.2)) = some r) : FF oM [L] H = some r :=
 fo Tryz.func81 (by kernel_rfl) h
theorem O8 (H : AH) {r : Value × AH} (h : (
 Ge H fun a b =>
 ga [(0, 1), (1, 1)] [(.map none), (.slice none 0 0)] [(0, a)] fun c =>
 aQ (Value.cells c).toList b fun d e =>
 some (d, e)) = some r) : FF zA [] H = some r :=
 fo Tryz.func82 (by kernel_rfl) h
theorem JG {r : Value × AH} (h : (
 (iv [M, (vi 1)]).bind fun a =>
 (jT [a, (vi 4)]).bind fun b =>
 Ge H fun c d =>
 ga [(0, 1), (1, 1), (2, 1), (3, 1), (4, 1)] [(.pointer none), (vi 0), (.map none), Value.nilFunc, Value.nilFunc] [(0, L), (1, b), (2, c), (3, (.func (.func bB) #[(vi 9)] #[])), (4, (.func (.func bB) #[(vi 14)] #[]))] fun e =>
 aQ (Value.cells e).toList d fun f g =>
 some (f, g)) = some r) : FF ss [L, M] H = some r :=
 fo Tryz.func83 (by kernel_rfl) h
theorem KA {r : Value × AH} (h : (
 (iv [M, (vi 1)]).bind fun a =>
 (jT [a, (vi 4)]).bind fun b =>
 (iv [S, (vi 1)]).bind fun c =>
 (jT [c, (vi 4)]).bind fun d =>
 ga [(0, 1), (1, 1), (2, 1)] [(.pointer none), (vi 0), (vi 0)] [(0, L), (1, b), (2, d)] fun e =>
 aQ (Value.cells e).toList H fun f g =>
 some (f, g)) = some r) : FF sD [L, M, S] H = some r :=
 fo Tryz.func84 (by kernel_rfl) h
theorem Mx {r : Value × AH} (h : (
 (iv [M, (vi 1)]).bind fun a =>
 (jT [a, (vi 6)]).bind fun b =>
 Ge H fun c d =>
 Ge d fun e f =>
 ga [(0, 1), (1, 1), (2, 1), (3, 1)] [(.pointer none), (vi 0), (.map none), (.map none)] [(0, L), (1, b), (2, c), (3, e)] fun g =>
 aQ (Value.cells g).toList f fun i j =>
 some (i, j)) = some r) : FF vt [L, M] H = some r :=
 fo Tryz.func85 (by kernel_rfl) h
theorem Lp {r : Value × AH} (h : (
 aQ (Value.cells L).toList H fun c b =>
 ld [.f 0] c b fun d =>
 ld [.f 3] c b fun e =>
 (FF sA [d, e] b).bind fun a =>
 Ge a.2 fun g i =>
 Ge i fun j k =>
 ga [(0, 1), (1, 1), (2, 1), (3, 1), (4, 1), (5, 1), (6, 1), (7, 1), (8, 3)] [Value.nilFunc, Value.nilFunc, Value.nilFunc, (vw 0), (vw 0), (vi 0), (.map none), (.map none), (vb false), (vi 0), (vw 0)] [(0, (.func (.func vx) #[a.1] #[])), (1, (.func (.func xF) #[a.1] #[])), (2, (.func (.func xE) #[a.1] #[])), (6, g), (7, j)] fun l =>
 aQ (Value.cells l).toList k fun m n =>
 some (m, n)) = some r) : FF vn [L] H = some r :=
 fo Tryz.func86 (by kernel_rfl) h
theorem BQ {r : Value × AH} (h : (
 (iv [M, (vi 1)]).bind fun a =>
 (jT [a, (vi 4)]).bind fun b =>
 ga [(0, 1), (1, 1), (2, 1), (3, 1)] [(.pointer none), (vi 0), (.slice none 0 0), (.slice none 0 0)] [(0, L), (1, b)] fun c =>
 aQ (Value.cells c).toList H fun d e =>
 some (d, e)) = some r) : FF nc [L, M] H = some r :=
 fo Tryz.func87 (by kernel_rfl) h
theorem BS {r : Value × AH} (h : (
 (iv [M, (vi 1)]).bind fun a =>
 (jT [a, (vi 4)]).bind fun b =>
 (iv [S, (vi 1)]).bind fun c =>
 (jT [c, (vi 4)]).bind fun d =>
 ga [(0, 1), (1, 1), (2, 1)] [(.pointer none), (vi 0), (vi 0)] [(0, L), (1, b), (2, d)] fun e =>
 aQ (Value.cells e).toList H fun f g =>
 some (f, g)) = some r) : FF ng [L, M, S] H = some r :=
 fo Tryz.func88 (by kernel_rfl) h
theorem EX {r : Value × AH} (h : (
 (iv [M, (vi 1)]).bind fun a =>
 (jT [a, (vi 6)]).bind fun b =>
 ga [(0, 1), (1, 1), (2, 1), (3, 1), (4, 1), (5, 1)] [(.pointer none), (vi 0), (.slice none 0 0), (.slice none 0 0), (.slice none 0 0), (.slice none 0 0)] [(0, L), (1, b)] fun c =>
 aQ (Value.cells c).toList H fun d e =>
 some (d, e)) = some r) : FF oQ [L, M] H = some r :=
 fo Tryz.func89 (by kernel_rfl) h
theorem EW {r : Value × AH} (h : (
 aQ (Value.cells L).toList H fun b a =>
 ld [.f 0] b a fun d =>
 ld [.f 3] b a fun e =>
 (FF aaU [d, e] a).bind fun c =>
 ga [(0, 1), (1, 1), (2, 1), (3, 1), (4, 1), (5, 1), (6, 1), (7, 1), (8, 1)] [(.pointer none), (vw 0), (vw 0), (vi 0), (.slice none 0 0), (.slice none 0 0), (vb false), (vi 0), (vw 0)] [(0, c.1)] fun g =>
 aQ (Value.cells g).toList c.2 fun i j =>
 some (i, j)) = some r) : FF oP [L] H = some r :=
 fo Tryz.func90 (by kernel_rfl) h
theorem lU {r : Value × AH} (h : (
 aQ (Value.cells S).toList H fun b d =>
 ld [.n, .f 10] L d fun j =>
 iQ j fun e =>
 ld [.n, .f 0] L d fun k =>
 ga [(0, 1), (1, 1), (2, 1)] [(vi 0), (vi 0), (vi 0)] [(0, (vi 13)), (1, e)] fun l =>
 (FF gq [k, M, l] d).bind fun a =>
 ad [.n, .f 10] L fun g =>
 (ar g a.2).bind fun m =>
 (ay 3 b a.2).bind fun o =>
 ld [.n, .f 0] L a.2 fun p =>
 ld [.f 1] b a.2 fun q =>
 (FF vy [p, e, q] a.2).bind fun c =>
 bO (ar g c.2) (ar g a.2) <|
 bO (ay 3 b c.2) (ay 3 b a.2) <|
 ga [(0, 3), (3, 1)] [(vi 0), (vi 0), (vw 0), (.pointer none)] [(0, o), (1, c.1)] fun s =>
 Gi 1 4 [(vi 0), (vi 0), (vw 0), (.pointer none)] [(0, s)] c.2 fun t w =>
 (fj 4 32 m t w).bind fun i =>
 st 1 [.n, .f 10] L i.1 i.2 fun y =>
 some (e, y)) = some r) : FF ei [L, M, S] H = some r :=
 fo Tryz.func91 (by kernel_rfl) h
theorem yi {r : Value × AH} (h : (
 aQ (Value.cells S).toList H fun o c =>
 ld [.n, .f 10] L c fun q =>
 iQ q fun e =>
 ad [.n, .f 5] L fun g =>
 (ar g c).bind fun s =>
 (FF cz [(vi 13), e, (vi 0)] c).bind fun i =>
 bO (ar g i.2) (ar g c) <|
 (FF cq [s, M, (vi 6), i.1] i.2).bind fun j =>
 ld [.n, .f 10] L j.2 fun t =>
 (ay 3 o j.2).bind fun w =>
 Gi 1 3 [(vi 0), (vi 0), (vw 0)] [(0, w)] j.2 fun y d =>
 (fj 3 24 t y d).bind fun a =>
 ad [.n, .f 11] L fun b =>
 (ar b a.2).bind fun z =>
 bO (ar b d) (ar b a.2) <|
 ad [.n, .f 5] L fun k =>
 (ar k a.2).bind fun A =>
 bO (ar k d) (ar k a.2) <|
 ad [.f 1] o fun l =>
 (ar l a.2).bind fun B =>
 bO (ar l d) (ar l a.2) <|
 (FF oR [A, e, B] a.2).bind fun m =>
 bO (ar b m.2) (ar b a.2) <|
 Gi 1 1 [(.pointer none)] [(0, m.1)] m.2 fun C D =>
 (fj 1 8 z C D).bind fun p =>
 st 1 [.n, .f 10] L a.1 p.2 fun E =>
 st 1 [.n, .f 11] L p.1 E fun G =>
 some (e, G)) = some r) : FF il [L, M, S] H = some r :=
 fo Tryz.func92 (by kernel_rfl) h
theorem wg {r : Value × AH} (h : (
 (ap .other .lss N (vi 0)).bind fun a =>
 (gV a false N).bind fun g =>
 (gB a false (ap .other .gtr g (vi 1048576))).bind fun i =>
 (aV a (vb true) i).bind fun b =>
 (gV b false Q).bind fun j =>
 (gB b false (ap .other .lss j (vi 0))).bind fun k =>
 (aV b (vb true) k).bind fun c =>
 (gV c false Q).bind fun l =>
 (gB c false (ap .other .geq l (vi 4294967296))).bind fun m =>
 (aV c (vb true) m).bind fun o =>
 av o
 (some ((vb false), H))
 (ad [.n, .f 0] L fun d =>
 (ar d H).bind fun p =>
 (FF jP [S, x3] H).bind fun e =>
 bO (ar d e.2) (ar d H) <|
 (ap .other .add N (vi 1)).bind fun q =>
 (cN (some .u64) q).bind fun s =>
 (ap .other .shl s (vw 32)).bind fun t =>
 (cN (some .u64) Q).bind fun w =>
 (ap .other .or t w).bind fun y =>
 (FF dH [p, M, e.1, y] e.2).bind fun z =>
 some ((vb true), z.2))) = some r) : FF gL [L, M, S, x3, N, Q] H = some r :=
 fo Tryz.func93 (by kernel_rfl) h
theorem zY {r : Value × AH} (h : (
 (ap .other .lss N (vi 0)).bind fun b =>
 (gV b false N).bind fun g =>
 (gB b false (ap .other .gtr g (vi 1048576))).bind fun i =>
 (aV b (vb true) i).bind fun c =>
 (gV c false Q).bind fun j =>
 (gB c false (ap .other .lss j (vi 0))).bind fun k =>
 (aV c (vb true) k).bind fun a =>
 (gV a false Q).bind fun l =>
 (gB a false (cN (some .u64) l)).bind fun m =>
 (gB a false (ap .other .geq m (vw 4294967296))).bind fun o =>
 (aV a (vb true) o).bind fun p =>
 av p
 (some ((vb false), H))
 (ad [.n, .f 0] L fun d =>
 (ar d H).bind fun q =>
 (FF cz [(vi 10), S, x3] H).bind fun e =>
 bO (ar d e.2) (ar d H) <|
 (ap .other .add N (vi 1)).bind fun s =>
 (cN (some .u64) s).bind fun t =>
 (ap .other .mul t (vw 4294967296)).bind fun w =>
 (cN (some .u64) Q).bind fun y =>
 (ap .other .add w y).bind fun z =>
 (FF eM [q, M, e.1, z] e.2).bind fun A =>
 some ((vb true), A.2))) = some r) : FF i4 [L, M, S, x3, N, Q] H = some r :=
 fo Tryz.func94 (by kernel_rfl) h
noncomputable def ZD (p : List Nat) : Code := Code.sub (bH Tryz.f95) p
noncomputable def DZ : KK := dO PP (Tryz.f95).results.toList
noncomputable def ZE : KK := CQ (ZD [1, 1, 1]) DZ bD DZ
noncomputable def Fb : OV := ZE (ls [u, u, u, u, u, Q, P, R] 26) H
noncomputable def ZG : KK := CQ (ZD [1, 1, 1, 1]) DZ bD DZ
noncomputable def v5 : OV := ZG (ls [u, u, u, u, u, u, P, R] 26) H
theorem Cp : aw 17179869119 DZ := rf
theorem ZF : aw 17179868959 ZE := rc Cp aD Cp
theorem ZH : aw 17179868991 ZG := rc Cp aD Cp
theorem uD : v5 P R H =
 some (R, H) :=
 (by kernel_rfl)
theorem Gq : Fb Q P R H =
 ld [.f 0] Q H fun a =>
 (ap .other .eql a (vi 1)).bind fun b =>
 av b
 (st 1 [.n, .f 7] R (.func (.func fS) #[R] #[]) H fun c =>
 v5 P R c)
 (v5 P R H) :=
 (pt rfl 0 ZH (by kernel_rfl))
noncomputable def agK : OV := bh PP GG FF (ZD []) (ls [L, M, S] 31) H DZ bD DZ
theorem PK {r : Value × AH} (h : (
 aQ (Value.cells S).toList H fun a b =>
 (ay 4 a b).bind fun e =>
 ld [.n, .f 2] L b fun g =>
 ld [.f 1] a b fun i =>
 (FF dK [g, i] b).bind fun c =>
 bO (ay 4 a c.2) (ay 4 a b) <|
 ga [(0, 1), (1, 1), (2, 4), (6, 1), (7, 1), (8, 1), (9, 1), (10, 1), (11, 1), (12, 1), (13, 1), (14, 1), (15, 1), (16, 1)] [(.pointer none), (vi 0), (vi 0), (vi 0), (vi 0), (vi 0), (vi 0), Value.nilFunc, (vi 0), (vi 0), (vi 0), (vi 0), (.pointer none), (vw 0), (vw 0), (vi 0), (vi 0)] [(0, L), (1, M), (2, e), (3, c.1), (6, (vi (-1)))] fun j =>
 aQ (Value.cells j).toList c.2 fun d k =>
 st 1 [.n, .f 7] d (.func (.func eS) #[d] #[]) k fun l =>
 Fb a (.pointer none) d l) = some r) : FF zB [L, M, S] H = some r :=
 fo (t := agK L M S H) Tryz.func95 (by kernel_rfl) (Eq.trans (pt rfl 2 ZF (by kernel_rfl)) h)
theorem BW {r : Value × AH} (h : (
 aQ [(vi 0), (.slice none 0 0), (vi 0), (vw 0)] H fun b d =>
 ld [.n, .f 7] L d fun g =>
 (di g [M]).bind fun c => (FF c.1 c.2 d).bind fun a =>
 (af a.1 0).bind fun i =>
 (af a.1 1).bind fun j =>
 (cf 4 b i a.2).bind fun e =>
 (ay 4 b e).bind fun k => some (Value.tuple #[k, j], e)) = some r) : FF ni [L, M] H = some r :=
 fo Tryz.func96 (by kernel_rfl) h
noncomputable def mU (p : List Nat) : Code := Code.sub (bH Tryz.f97) p
noncomputable def nT : KK := dO PP (Tryz.f97).results.toList
noncomputable def ZI : KK := CQ (mU [1, 1]) nT bD nT
noncomputable def lO : OV := ZI (ls [L, M, u, u, N, Q, P] 141) H
noncomputable def OP : KK := CQ (mU [1, 1, 1]) nT bD nT
noncomputable def ON : KK := gC Xv OP
noncomputable def gu : OV := OP (ls [L, M, u, u, N, Q, P] 141) H
noncomputable def OQ : KK := CQ (mU [1, 1, 1, 1]) nT bD nT
noncomputable def OO : KK := gC Xx OQ
noncomputable def q5 : OV := OQ (ls [L, M, u, u, N, u, P] 141) H
noncomputable def ZO : KX := BX 1 OO bD
noncomputable def ZP : KX := A6 Xx ZO
noncomputable def ZK : KK := CQ (mU [1, 1, 1, 0, 4, 1]) OO ZP nT
noncomputable def q6 : OV := ZK (ls [L, M, u, u, N, Q, P, u, u, u, u, u, u, u, u, u, u, u, u, u, u, u, u, u, u, u, u, u, u, u, u, u, u, u, u, u, u, u, u, u, u, u, u, u, u, u, u, u, u, u, u, u, u, u, u, u, u, u, u, u, u, u, u, u, u, u, u, u, u, u, u, u, u, u, u, u, u, u, u, u, u, u, u, u, u, u, u, u, u, u, u, u, u, u, u, u, u, u, u, u, u, u, u, u, u, u, u, u, u, u, u, u, u, u, U] 33) H
noncomputable def ZM : KK := CQ (mU [1, 1, 1, 0, 4, 1, 2, 1]) OO ZP nT
noncomputable def lP : OV := ZM (ls [L, M, u, u, N, u, P] 141) H
noncomputable def Su : KK := CQ (mU [1, 1, 0, 1]) ON bD nT
noncomputable def pJ : OV := Su (ls [L, M, u, u, N, Q, P, u, u, u, u, u, u, u, u, u, u, u, u, u, u, u, u, u, u, u, u, u, u, u, x30] 117) H
noncomputable def Sw : KK := CQ (mU [1, 1, 0, 1, 2, 1, 1]) ON bD nT
noncomputable def iy : OV := Sw (ls [L, M, u, u, N, Q, P, R, x8] 139) H
noncomputable def Jy : KK := CQ (mU [1, 1, 0, 1, 2, 1, 1, 1]) ON bD nT
noncomputable def af1 : KK := gC Xw Jy
noncomputable def cT : OV := Jy (ls [L, M, u, u, N, Q, P, R] 140) H
noncomputable def af2 : KX := BX 0 af1 bD
theorem jz : aw 356811923176489970264571492362373784095686639 nT := rf
theorem ZJ : aw Xv ZI := rc jz aD jz
theorem w9 : aw Xv OP := rc jz aD jz
theorem xa : aw Xx OQ := rc jz aD jz
theorem D0 : ∀ i, aw Xx (ZO i) := rb (cd xa) aD
theorem ZL : aw 356811923155720782830432181848251798778806156 ZK := rc (cd xa) (cx D0) jz
theorem ZN : aw Xx ZM := rc (cd xa) (cx D0) jz
theorem VM : aw 356811923176489970264571492362373783021944716 Su := rc (cd w9) aD jz
theorem VN : aw 356811923176489970264571492362373784095686156 Sw := rc (cd w9) aD jz
theorem Hb : aw Xw Jy := rc (cd w9) aD jz
theorem VO : ∀ i, aw Xw (af2 i) := rb (cd Hb) aD
theorem vT : q5 L M N P H =
 (FF qQ [L, M, P] H).bind fun a =>
 some (a.1, a.2) :=
 (by kernel_rfl)
theorem nA : lP L M N P H =
 some ((vb false), H) :=
 (by kernel_rfl)
theorem ji : q6 L M N Q P U H =
 av U
 (ld [.n, .f 7] Q H fun c =>
 ld [.n, .f 1] L H fun d =>
 (FF io [c, d, P] H).bind fun a =>
 av a.1
 (st 1 [.n, .f 6] L (vi 3) a.2 fun e =>
 lP L M N P e)
 (lP L M N P a.2))
 (ld [.n, .f 2, .f 0] L H fun g =>
 (ap .other .eql g (vi 1)).bind fun i =>
 av i
 ((FF lT [L, M, P] H).bind fun b =>
 some (b.1, b.2))
 (q5 L M N P H)) :=
 (ct rfl (mU [1, 1, 1, 0, 4, 1, 2]) (mU [1, 1, 1, 0, 4, 1, 3]) (.tmp 114) (pt rfl 0 ZN (by kernel_rfl)) (by kernel_rfl))
theorem jh : gu L M N Q P H =
 ld [.n, .f 6] L H fun a =>
 (ap .other .eql a (vi 2)).bind fun b =>
 q6 L M N Q P b H :=
 (pt rfl 0 xa (bt rfl (mU [1, 1, 1, 0, 4]) 1 D0 (pt rfl 0 ZL (by kernel_rfl))))
theorem lX : cT L M N Q P R H =
 (ap .other .neq R (vi 0)).bind fun a =>
 av a
 ((FF bC [L, M, R] H).bind fun b =>
 some ((vb true), b.2))
 (st 1 [.n, .f 6] L (vi 2) H fun c =>
 gu L M N Q P c) :=
 (by kernel_rfl)
theorem lW : iy L M N Q P R x8 H =
 ld [.n, .f 2, .f 0] L H fun g =>
 (ap .other .neq g (vi 1)).bind fun e =>
 (gV e true x8).bind fun i =>
 (gB e true (nk .not i)).bind fun j =>
 (aV e j (vb false)).bind fun k =>
 av k
 (cT L M N Q P (vi 5) H)
 ((nk .not x8).bind fun l =>
 av l
 (cT L M N Q P (vi 1) H)
 (ld [.n, .f 2, .f 0] L H fun m =>
 (ap .other .eql m (vi 1)).bind fun a =>
 (gV a true L).bind fun o =>
 fF a true  [.n, .f 2, .f 2] o H fun p =>
 (gB a true (ap .other .lss p (vi 1))).bind fun q =>
 (gV a true q).bind fun c =>
 (gV c false L).bind fun s =>
 fF c false  [.n, .f 2, .f 2] s H fun t =>
 (gB c false (ap .other .gtr t (vi 65536))).bind fun w =>
 (gB a true (aV c (vb true) w)).bind fun y =>
 (aV a y (vb false)).bind fun z =>
 av z
 (cT L M N Q P (vi 4) H)
 (ld [.n, .f 2, .f 0] L H fun A =>
 (ap .other .eql A (vi 1)).bind fun b =>
 (gV b true L).bind fun B =>
 fF b true  [.n, .f 2, .f 3] B H fun C =>
 (gB b true (ap .other .lss C (vi 1))).bind fun D =>
 (gV b true D).bind fun d =>
 (gV d false L).bind fun E =>
 fF d false  [.n, .f 2, .f 3] E H fun G =>
 (gB d false (ap .other .gtr G (vi 8))).bind fun I =>
 (gB b true (aV d (vb true) I)).bind fun J =>
 (aV b J (vb false)).bind fun K =>
 av K
 (cT L M N Q P (vi 1) H)
 (cT L M N Q P R H)))) :=
 (pt rfl 0 Hb (bt rfl (mU [1, 1, 0, 1, 2, 1, 1, 0, 4]) 0 VO (by kernel_rfl)))
theorem lV : pJ L M N Q P x30 H =
 av x30
 (ld [.n, .f 2, .f 1] L H fun b =>
 (ap .other .geq b (vi 0)).bind fun a =>
 (gV a true L).bind fun c =>
 fF a true  [.n, .f 2, .f 1] c H fun d =>
 (gB a true (ap .other .leq d (vi 1048576))).bind fun e =>
 (aV a e (vb false)).bind fun g =>
 iy L M N Q P (vi 0) g H)
 (gu L M N Q P H) :=
 (ct rfl (mU [1, 1, 0, 1, 2]) (mU [1, 1, 0, 1, 3]) (.tmp 30) (pt rfl 1 VN (by kernel_rfl)) (by kernel_rfl))
theorem nz : lO L M N Q P H =
 ld [.n, .f 6] L H fun a =>
 (ap .other .eql a (vi 0)).bind fun b =>
 pJ L M N Q P b H :=
 (pt rfl 0 w9 (pt rfl 0 VM (by kernel_rfl)))
noncomputable def J8 : OV := bh PP GG FF (mU []) (ls [L, M] 146) H nT bD nT
theorem BV {r : Value × AH} (h : (
 ad [.n, .f 0] L fun a =>
 (ar a H).bind fun c =>
 ld [.n, .f 0] L H fun d =>
 ld [.n, .f 7] d H fun e =>
 ld [.n, .f 2, .f 1] L H fun g =>
 (FF fg [e, g] H).bind fun b =>
 bO (ar a b.2) (ar a H) <|
 lO L M (vb false) c b.1 b.2) = some r) : FF bq [L, M] H = some r :=
 fo (t := J8 L M H) Tryz.func97 (by kernel_rfl) (Eq.trans (pt rfl 1 ZJ (by kernel_rfl)) h)
noncomputable def Av (p : List Nat) : Code := Code.sub (bH Tryz.f98) p
noncomputable def ur : KK := dO PP (Tryz.f98).results.toList
noncomputable def ZR : KK := CQ (Av [1, 1]) ur bD ur
noncomputable def xg : OV := ZR (ls [L, M, S, u, u, u, P] 23) H
noncomputable def OR : KK := CQ (Av [1, 1, 1]) ur bD ur
noncomputable def ZQ : KK := gC 1073741759 OR
noncomputable def xh : OV := OR (ls [u, u, u, u, u, u, P] 23) H
noncomputable def ZT : KK := CQ (Av [1, 1, 0, 1]) ZQ bD ur
noncomputable def xi : OV := ZT (ls [L, M, S, u, u, u, P, R] 22) H
noncomputable def OT : KX := BX 0 ZQ bD
noncomputable def ZX : KX := A6 1073741759 OT
noncomputable def OS : KK := KM (Av [1, 1, 0, 1, 4, 5]) ZX ur
noncomputable def ajL : KK := gC 1073741624 OS
noncomputable def xj : OV := OS (ls [L, M, S, u, u, u, P, R] 22) H
noncomputable def ZV : KK := CQ (Av [1, 1, 0, 1, 4, 5, 1]) ajL ZX ur
noncomputable def JE : OV := ZV (ls [L, M, S, u, u, u, P, R] 22) H
noncomputable def r8 : OV := OT 0 (ls [u, u, u, u, u, u, P] 23) H
theorem qc : aw 1073741759 ur := rf
theorem ZS : aw 1073741752 ZR := rc qc aD qc
theorem D3 : aw 1073741759 OR := rc qc aD qc
theorem ZU : aw 1073741624 ZT := rc (cd D3) aD qc
theorem D5 : ∀ i, aw 1073741759 (OT i) := rb (cd D3) aD
theorem D4 : aw 1073741624 OS := rl (cx D5) qc
theorem ZW : aw 1073741624 ZV := rc (cd D4) (cx D5) qc
theorem Bc : xh P H =
 some ((vb true), H) :=
 (by kernel_rfl)
theorem xf : r8 P H = xh P H :=
 (by kernel_rfl)
theorem Be : xj L M S P R H =
 iQ L fun a =>
 (ap .other .lss R a).bind fun b =>
 av b
 (JE L M S P R H)
 (r8 P H) :=
 KN rfl D4 (pt rfl 0 ZW (by kernel_rfl))
theorem Bd : xi L M S P R H =
 xj L M S P R H :=
 (bt rfl (Av [1, 1, 0, 1, 4]) 0 D5 (li rfl (Av [1, 1, 0, 1, 4, 5]) D4 (by kernel_rfl)))
theorem Bb : xg L M S P H =
 xi L M S P (vi 0) H :=
 (pt rfl 0 D3 (pt rfl 0 ZU (by kernel_rfl)))
noncomputable def VS : OV := bh PP GG FF (Av []) (ls [L, M, S] 27) H ur bD ur
theorem JF {r : Value × AH} (h : (
 iQ L fun a =>
 iQ M fun b =>
 (ap .other .neq a b).bind fun c =>
 av c
 (some ((vb false), H))
 (xg L M S (vb false) H)) = some r) : FF sr [L, M, S] H = some r :=
 fo (t := VS L M S H) Tryz.func98 (by kernel_rfl) (Eq.trans (pt rfl 1 ZS (by kernel_rfl)) h)
noncomputable def oD (p : List Nat) : Code := Code.sub (bH Tryz.f100) p
noncomputable def mL : KK := dO PP (Tryz.f100).results.toList
noncomputable def QW : KK := CQ (oD [1]) mL bD mL
noncomputable def ux : OV := QW (ls [L, M, u, u, N] 23) H
noncomputable def IB : KK := CQ (oD [1, 1]) mL bD mL
noncomputable def QU : KK := gC 268435439 IB
noncomputable def uy : OV := IB (ls [u, u, u, u, N] 23) H
noncomputable def QX : KK := CQ (oD [1, 0, 1]) QU bD mL
noncomputable def uz : OV := QX (ls [L, M, u, u, N, Q] 22) H
noncomputable def IE : KX := BX 0 QU bD
noncomputable def Cc : KX := A6 268435439 IE
noncomputable def IC : KK := KM (oD [1, 0, 1, 4, 5]) Cc mL
noncomputable def QV : KK := gC C6 IC
noncomputable def kZ : OV := IC (ls [L, M, u, u, N, Q] 22) H
noncomputable def QY : KK := CQ (oD [1, 0, 1, 4, 5, 1]) QV Cc mL
noncomputable def uA : OV := QY (ls [L, M, u, u, N, Q] 22) H
noncomputable def ID : KK := CQ (oD [1, 0, 1, 4, 5, 1, 1]) QV Cc mL
noncomputable def aeM : KK := gC C6 ID
noncomputable def uB : OV := ID (ls [L, M, u, u, N, Q] 22) H
noncomputable def aeN : KX := BX 1 aeM Cc
noncomputable def qV : OV := IE 0 (ls [u, u, u, u, N] 23) H
theorem lj : aw 268435439 mL := rf
theorem Uh : aw 268435436 QW := rc lj aD lj
theorem zc : aw 268435439 IB := rc lj aD lj
theorem Ui : aw C6 QX := rc (cd zc) aD lj
theorem o6 : ∀ i, aw 268435439 (IE i) := rb (cd zc) aD
theorem tz : aw C6 IC := rl (cx o6) lj
theorem Uj : aw C6 QY := rc (cd tz) (cx o6) lj
theorem GU : aw C6 ID := rc (cd tz) (cx o6) lj
theorem Uk : ∀ i, aw C6 (aeN i) := rb (cd GU) (cx o6)
theorem zI : uy N H =
 some ((vi (-1)), H) :=
 (by kernel_rfl)
theorem zL : uB L M N Q H =
 (ap .other .add Q (vi 1)).bind fun a =>
 kZ L M N a H :=
 (by kernel_rfl)
theorem zK : uA L M N Q H =
 ld [.n, .f 0] L H fun a =>
 ld [.i 1 Q] a H fun b =>
 ld [.n, .f 0] b H fun c =>
 (ap .other .eql c M).bind fun d =>
 av d
 (some (Q, H))
 (uB L M N Q H) :=
 (pt rfl 0 GU (bt rfl (oD [1, 0, 1, 4, 5, 1, 0, 4]) 1 Uk (by kernel_rfl)))
theorem vJ : qV N H = uy N H :=
 (by kernel_rfl)
theorem pH : kZ L M N Q H =
 ld [.n, .f 0] L H fun a =>
 iQ a fun b =>
 (ap .other .lss Q b).bind fun c =>
 av c
 (uA L M N Q H)
 (qV N H) :=
 KN rfl tz (pt rfl 0 Uj (by kernel_rfl))
theorem zJ : uz L M N Q H =
 kZ L M N Q H :=
 (bt rfl (oD [1, 0, 1, 4]) 0 o6 (li rfl (oD [1, 0, 1, 4, 5]) tz (by kernel_rfl)))
theorem zH : ux L M N H =
 uz L M N (vi 0) H :=
 (pt rfl 0 zc (pt rfl 0 Ui (by kernel_rfl)))
noncomputable def Pr : OV := bh PP GG FF (oD []) (ls [L, M] 26) H mL bD mL
theorem Gn {r : Value × AH} (h : (
 ux L M (vi 0) H) = some r) : FF ik [L, M] H = some r :=
 fo (t := Pr L M H) Tryz.func100 (by kernel_rfl) (Eq.trans (pt rfl 0 Uh (by kernel_rfl)) h)
end
end Go.Proofs.YtghoamdlcjdfjaaGreatDoor.Gst
