/- Several texts in one. -/
import Derived.Test.YtghoamdlcjdfjaaGreatDoorOb
namespace Go.Proofs.YtghoamdlcjdfjaaGreatDoor.Gst
open Go Go.RowKit
set_option maxRecDepth 100000
set_option linter.unusedVariables false
set_option maxHeartbeats 1000000
section
variable (X Y x2 x3 Z x5 x6 x7 x8 x13 x30 x93 x97 x112 x114 x133 x151 x171 x186 x197 x242 x248 x272 x283 x297 : Value) (H : AH)
noncomputable def cP (p : List Nat) : Code := Code.sub (bH Tryz.f64) p
noncomputable def gJ : KK := dM PP (Tryz.f64).results.toList
noncomputable def aeX : KK := CQ (cP [1, 1, 1]) gJ bA gJ
noncomputable def RT : OV := aeX (ls [X, Y, u, u, Z, x5, x6, x7] 297) H
noncomputable def aeZ : KK := CQ (cP [1, 1, 1, 1]) gJ bA gJ
noncomputable def RU : OV := aeZ (ls [X, Y, u, u, Z, x5, x6, x7] 297) H
noncomputable def QN : KK := CQ (cP [1, 1, 1, 1, 1]) gJ bA gJ
noncomputable def iu : KK := eG WL QN
noncomputable def fQ : OV := QN (ls [u, u, u, u, Z] 300) H
noncomputable def ae1 : KK := CQ (cP [1, 1, 1, 1, 0, 1]) iu bA gJ
noncomputable def qH : OV := ae1 (ls [X, Y, u, u, Z, x5, x6, x7, u, u, u, u, u, u, u, u, u, u, u, u, u, u, u, u, u, u, u, u, u, u, u, u, u, u, u, u, u, u, u, u, u, u, u, u, u, u, u, u, u, u, u, u, u, u, u, u, u, u, u, u, u, u, u, u, u, u, u, u, u, u, u, u, u, u, u, u, u, u, u, u, u, u, u, u, u, u, u, u, u, u, u, u, u, x93] 211) H
noncomputable def ae5 : KX := BX 0 iu bA
noncomputable def jk : KX := qQ WL ae5
noncomputable def ae3 : KK := CQ (cP [1, 1, 1, 1, 0, 1, 4, 1]) iu jk gJ
noncomputable def RW : OV := ae3 (ls [X, Y, u, u, Z, x5, x6, x7, u, u, u, u, u, u, u, u, u, u, u, u, u, u, u, u, u, u, u, u, u, u, u, u, u, u, u, u, u, u, u, u, u, u, u, u, u, u, u, u, u, u, u, u, u, u, u, u, u, u, u, u, u, u, u, u, u, u, u, u, u, u, u, u, u, u, u, u, u, u, u, u, u, u, u, u, u, u, u, u, u, u, u, u, u, x93, u, u, u, x97] 207) H
noncomputable def U5 : KK := CQ (cP [1, 1, 1, 1, 0, 1, 4, 1, 3, 1]) iu jk gJ
noncomputable def VT : OV := U5 (ls [X, Y, u, u, Z, x5, x6, x7, u, u, u, u, u, u, u, u, u, u, u, u, u, u, u, u, u, u, u, u, u, u, u, u, u, u, u, u, u, u, u, u, u, u, u, u, u, u, u, u, u, u, u, u, u, u, u, u, u, u, u, u, u, u, u, u, u, u, u, u, u, u, u, u, u, u, u, u, u, u, u, u, u, u, u, u, u, u, u, u, u, u, u, u, u, x93, u, u, u, u, u, u, u, u, u, u, u, u, u, u, u, u, u, u, x112] 192) H
noncomputable def U6 : KK := CQ (cP [1, 1, 1, 1, 0, 1, 4, 1, 3, 1, 3, 1]) iu jk gJ
noncomputable def VU : OV := U6 (ls [X, Y, u, u, Z, x5, x6, x7, u, u, u, u, u, u, u, u, u, u, u, u, u, u, u, u, u, u, u, u, u, u, u, u, u, u, u, u, u, u, u, u, u, u, u, u, u, u, u, u, u, u, u, u, u, u, u, u, u, u, u, u, u, u, u, u, u, u, u, u, u, u, u, u, u, u, u, u, u, u, u, u, u, u, u, u, u, u, u, u, u, u, u, u, u, x93, u, u, u, u, u, u, u, u, u, u, u, u, u, u, u, u, u, u, u, u, u, u, u, u, u, u, u, u, u, u, u, u, u, u, u, u, u, u, u, x133] 171) H
noncomputable def U7 : KK := CQ (cP [1, 1, 1, 1, 0, 1, 4, 1, 3, 1, 3, 1, 3, 1]) iu jk gJ
noncomputable def VV : OV := U7 (ls [X, Y, u, u, Z, x5, x6, x7, u, u, u, u, u, u, u, u, u, u, u, u, u, u, u, u, u, u, u, u, u, u, u, u, u, u, u, u, u, u, u, u, u, u, u, u, u, u, u, u, u, u, u, u, u, u, u, u, u, u, u, u, u, u, u, u, u, u, u, u, u, u, u, u, u, u, u, u, u, u, u, u, u, u, u, u, u, u, u, u, u, u, u, u, u, x93, u, u, u, u, u, u, u, u, u, u, u, u, u, u, u, u, u, u, u, u, u, u, u, u, u, u, u, u, u, u, u, u, u, u, u, u, u, u, u, u, u, u, u, u, u, u, u, u, u, u, u, u, u, u, u, u, u, x151] 153) H
noncomputable def U8 : KK := CQ (cP [1, 1, 1, 1, 0, 1, 4, 1, 3, 1, 3, 1, 3, 1, 3, 1]) iu jk gJ
noncomputable def Mx : OV := U8 (ls [X, Y, u, u, Z, x5, x6, x7, u, u, u, u, u, u, u, u, u, u, u, u, u, u, u, u, u, u, u, u, u, u, u, u, u, u, u, u, u, u, u, u, u, u, u, u, u, u, u, u, u, u, u, u, u, u, u, u, u, u, u, u, u, u, u, u, u, u, u, u, u, u, u, u, u, u, u, u, u, u, u, u, u, u, u, u, u, u, u, u, u, u, u, u, u, x93, u, u, u, u, u, u, u, u, u, u, u, u, u, u, u, u, u, u, u, u, u, u, u, u, u, u, u, u, u, u, u, u, u, u, u, u, u, u, u, u, u, u, u, u, u, u, u, u, u, u, u, u, u, u, u, u, u, u, u, u, u, u, u, u, u, u, u, u, u, u, u, u, u, u, u, u, u, x171] 133) H
noncomputable def U9 : KK := CQ (cP [1, 1, 1, 1, 0, 1, 4, 1, 3, 1, 3, 1, 3, 1, 3, 1, 3, 1]) iu jk gJ
noncomputable def VW : OV := U9 (ls [X, Y, u, u, Z, x5, x6, x7, u, u, u, u, u, u, u, u, u, u, u, u, u, u, u, u, u, u, u, u, u, u, u, u, u, u, u, u, u, u, u, u, u, u, u, u, u, u, u, u, u, u, u, u, u, u, u, u, u, u, u, u, u, u, u, u, u, u, u, u, u, u, u, u, u, u, u, u, u, u, u, u, u, u, u, u, u, u, u, u, u, u, u, u, u, x93, u, u, u, u, u, u, u, u, u, u, u, u, u, u, u, u, u, u, u, u, u, u, u, u, u, u, u, u, u, u, u, u, u, u, u, u, u, u, u, u, u, u, u, u, u, u, u, u, u, u, u, u, u, u, u, u, u, u, u, u, u, u, u, u, u, u, u, u, u, u, u, u, u, u, u, u, u, u, u, u, u, u, u, u, u, u, u, u, u, u, u, u, x186] 118) H
noncomputable def Va : KK := CQ (cP [1, 1, 1, 1, 0, 1, 4, 1, 3, 1, 3, 1, 3, 1, 3, 1, 3, 1, 3, 1]) iu jk gJ
noncomputable def My : OV := Va (ls [X, Y, u, u, Z, x5, x6, x7, u, u, u, u, u, u, u, u, u, u, u, u, u, u, u, u, u, u, u, u, u, u, u, u, u, u, u, u, u, u, u, u, u, u, u, u, u, u, u, u, u, u, u, u, u, u, u, u, u, u, u, u, u, u, u, u, u, u, u, u, u, u, u, u, u, u, u, u, u, u, u, u, u, u, u, u, u, u, u, u, u, u, u, u, u, x93, u, u, u, u, u, u, u, u, u, u, u, u, u, u, u, u, u, u, u, u, u, u, u, u, u, u, u, u, u, u, u, u, u, u, u, u, u, u, u, u, u, u, u, u, u, u, u, u, u, u, u, u, u, u, u, u, u, u, u, u, u, u, u, u, u, u, u, u, u, u, u, u, u, u, u, u, u, u, u, u, u, u, u, u, u, u, u, u, u, u, u, u, u, u, u, u, u, u, u, u, u, u, u, x197] 107) H
noncomputable def Vb : KK := CQ (cP [1, 1, 1, 1, 0, 1, 4, 1, 3, 1, 3, 1, 3, 1, 3, 1, 3, 1, 3, 1, 2, 1, 1]) iu jk gJ
noncomputable def VX : OV := Vb (ls [X, u, u, u, Z, u, u, u, u, u, u, u, u, x13] 291) H
noncomputable def amE : KX := BX 1 iu jk
noncomputable def Vc : KK := CQ (cP [1, 1, 1, 1, 0, 1, 4, 1, 3, 1, 3, 1, 3, 1, 3, 1, 3, 1, 3, 1, 3, 1]) iu jk gJ
noncomputable def Mz : OV := Vc (ls [X, Y, u, u, Z, x5, x6, x7, u, u, u, u, u, u, u, u, u, u, u, u, u, u, u, u, u, u, u, u, u, u, u, u, u, u, u, u, u, u, u, u, u, u, u, u, u, u, u, u, u, u, u, u, u, u, u, u, u, u, u, u, u, u, u, u, u, u, u, u, u, u, u, u, u, u, u, u, u, u, u, u, u, u, u, u, u, u, u, u, u, u, u, u, u, x93, u, u, u, u, u, u, u, u, u, u, u, u, u, u, u, u, u, u, u, u, u, u, u, u, u, u, u, u, u, u, u, u, u, u, u, u, u, u, u, u, u, u, u, u, u, u, u, u, u, u, u, u, u, u, u, u, u, u, u, u, u, u, u, u, u, u, u, u, u, u, u, u, u, u, u, u, u, u, u, u, u, u, u, u, u, u, u, u, u, u, u, u, u, u, u, u, u, u, u, u, u, u, u, u, u, u, u, u, u, u, u, u, u, u, u, u, u, u, u, u, u, u, u, u, u, u, u, u, u, u, u, u, u, u, u, u, u, u, u, u, u, u, u, u, u, u, u, u, x242] 62) H
noncomputable def Vd : KK := CQ (cP [1, 1, 1, 1, 0, 1, 4, 1, 3, 1, 3, 1, 3, 1, 3, 1, 3, 1, 3, 1, 3, 1, 3, 1]) iu jk gJ
noncomputable def zi : OV := Vd (ls [X, Y, u, u, Z, x5, x6, x7, u, u, u, u, u, u, u, u, u, u, u, u, u, u, u, u, u, u, u, u, u, u, u, u, u, u, u, u, u, u, u, u, u, u, u, u, u, u, u, u, u, u, u, u, u, u, u, u, u, u, u, u, u, u, u, u, u, u, u, u, u, u, u, u, u, u, u, u, u, u, u, u, u, u, u, u, u, u, u, u, u, u, u, u, u, x93, u, u, u, u, u, u, u, u, u, u, u, u, u, u, u, u, u, u, u, u, u, u, u, u, u, u, u, u, u, u, u, u, u, u, u, u, u, u, u, u, u, u, u, u, u, u, u, u, u, u, u, u, u, u, u, u, u, u, u, u, u, u, u, u, u, u, u, u, u, u, u, u, u, u, u, u, u, u, u, u, u, u, u, u, u, u, u, u, u, u, u, u, u, u, u, u, u, u, u, u, u, u, u, u, u, u, u, u, u, u, u, u, u, u, u, u, u, u, u, u, u, u, u, u, u, u, u, u, u, u, u, u, u, u, u, u, u, u, u, u, u, u, u, u, u, u, u, u, u, u, u, u, u, u, x248] 56) H
noncomputable def Ve : KK := CQ (cP [1, 1, 1, 1, 0, 1, 4, 1, 3, 1, 3, 1, 3, 1, 3, 1, 3, 1, 3, 1, 3, 1, 3, 1, 3, 1]) iu jk gJ
noncomputable def MA : OV := Ve (ls [X, Y, u, u, Z, x5, x6, u, u, u, u, u, u, u, u, u, u, u, u, u, u, u, u, u, u, u, u, u, u, u, u, u, u, u, u, u, u, u, u, u, u, u, u, u, u, u, u, u, u, u, u, u, u, u, u, u, u, u, u, u, u, u, u, u, u, u, u, u, u, u, u, u, u, u, u, u, u, u, u, u, u, u, u, u, u, u, u, u, u, u, u, u, u, x93, u, u, u, u, u, u, u, u, u, u, u, u, u, u, u, u, u, u, u, u, u, u, u, u, u, u, u, u, u, u, u, u, u, u, u, u, u, u, u, u, u, u, u, u, u, u, u, u, u, u, u, u, u, u, u, u, u, u, u, u, u, u, u, u, u, u, u, u, u, u, u, u, u, u, u, u, u, u, u, u, u, u, u, u, u, u, u, u, u, u, u, u, u, u, u, u, u, u, u, u, u, u, u, u, u, u, u, u, u, u, u, u, u, u, u, u, u, u, u, u, u, u, u, u, u, u, u, u, u, u, u, u, u, u, u, u, u, u, u, u, u, u, u, u, u, u, u, u, u, u, u, u, u, u, u, u, u, u, u, u, u, u, u, u, u, u, u, u, u, u, u, u, u, u, u, u, u, u, x272] 32) H
noncomputable def Vf : KK := CQ (cP [1, 1, 1, 1, 0, 1, 4, 1, 3, 1, 3, 1, 3, 1, 3, 1, 3, 1, 3, 1, 3, 1, 3, 1, 3, 1, 3, 1]) iu jk gJ
noncomputable def VY : OV := Vf (ls [X, Y, u, u, Z, x5, x6, u, u, u, u, u, u, u, u, u, u, u, u, u, u, u, u, u, u, u, u, u, u, u, u, u, u, u, u, u, u, u, u, u, u, u, u, u, u, u, u, u, u, u, u, u, u, u, u, u, u, u, u, u, u, u, u, u, u, u, u, u, u, u, u, u, u, u, u, u, u, u, u, u, u, u, u, u, u, u, u, u, u, u, u, u, u, x93, u, u, u, u, u, u, u, u, u, u, u, u, u, u, u, u, u, u, u, u, u, u, u, u, u, u, u, u, u, u, u, u, u, u, u, u, u, u, u, u, u, u, u, u, u, u, u, u, u, u, u, u, u, u, u, u, u, u, u, u, u, u, u, u, u, u, u, u, u, u, u, u, u, u, u, u, u, u, u, u, u, u, u, u, u, u, u, u, u, u, u, u, u, u, u, u, u, u, u, u, u, u, u, u, u, u, u, u, u, u, u, u, u, u, u, u, u, u, u, u, u, u, u, u, u, u, u, u, u, u, u, u, u, u, u, u, u, u, u, u, u, u, u, u, u, u, u, u, u, u, u, u, u, u, u, u, u, u, u, u, u, u, u, u, u, u, u, u, u, u, u, u, u, u, u, u, u, u, u, u, u, u, u, u, u, u, u, u, u, x283] 21) H
noncomputable def Vg : KK := CQ (cP [1, 1, 1, 1, 0, 1, 4, 1, 3, 1, 3, 1, 3, 1, 3, 1, 3, 1, 3, 1, 3, 1, 3, 1, 3, 1, 3, 1, 3, 1]) iu jk gJ
noncomputable def mm : OV := Vg (ls [X, Y, u, u, Z, u, x6, u, u, u, u, u, u, u, u, u, u, u, u, u, u, u, u, u, u, u, u, u, u, u, u, u, u, u, u, u, u, u, u, u, u, u, u, u, u, u, u, u, u, u, u, u, u, u, u, u, u, u, u, u, u, u, u, u, u, u, u, u, u, u, u, u, u, u, u, u, u, u, u, u, u, u, u, u, u, u, u, u, u, u, u, u, u, u, u, u, u, u, u, u, u, u, u, u, u, u, u, u, u, u, u, u, u, u, u, u, u, u, u, u, u, u, u, u, u, u, u, u, u, u, u, u, u, u, u, u, u, u, u, u, u, u, u, u, u, u, u, u, u, u, u, u, u, u, u, u, u, u, u, u, u, u, u, u, u, u, u, u, u, u, u, u, u, u, u, u, u, u, u, u, u, u, u, u, u, u, u, u, u, u, u, u, u, u, u, u, u, u, u, u, u, u, u, u, u, u, u, u, u, u, u, u, u, u, u, u, u, u, u, u, u, u, u, u, u, u, u, u, u, u, u, u, u, u, u, u, u, u, u, u, u, u, u, u, u, u, u, u, u, u, u, u, u, u, u, u, u, u, u, u, u, u, u, u, u, u, u, u, u, u, u, u, u, u, u, u, u, u, u, u, u, u, u, u, u, u, u, u, u, u, u, u, u, u, u, u, u, x297] 7) H
theorem dC : ar WL gJ := rf
theorem aeY : ar an4 aeX := rc dC aB dC
theorem ae0 : ar an4 aeZ := rc dC aB dC
theorem du : ar WL QN := rc dC aB dC
theorem ae2 : ar 65185151242703554760590262029100101153646988597309960020356494369436681278143732398675721996 ae1 := rc (cd du) aB dC
theorem d6 : ∀ i, ar WL (ae5 i) := rb (cd du) aB
theorem ae4 : ar 65185151242703554760590262029100101153646988597309960020356494210980356249615057211587821324 ae3 := rc (cd du) (cx d6) dC
theorem YH : ar 65185151242703554760590262029100101153646988597309960020351302072578146450515201902346501900 U5 := rc (cd du) (cx d6) dC
theorem YI : ar 65185151242703554760590262029100101153646988597309949131320752899405850450156294582092955404 U6 := rc (cd du) (cx d6) dC
theorem YJ : ar 65185151242703554760590262029100101153646988594455464634944574607320109339244742125910228748 U7 := rc (cd du) (cx d6) dC
theorem YK : ar 65185151242703554760590262029100101153643995441956706331180013222899278330519477048827707148 U8 := rc (cd du) (cx d6) dC
theorem YL : ar 65185151242703554760590262029100101055567273981893073085422284631816893526544428578925182732 U9 := rc (cd du) (cx d6) dC
theorem YM : ar 65185151242703554760590262029099900286391456223525517275094951724111366002769509549571309324 Va := rc (cd du) (cx d6) dC
theorem YN : ar 65185151242703554760590262029100101153646988597309960020356494379340201592426774597868707822 Vb := rc (cd du) (cx d6) dC
theorem YT : ∀ i, ar WL (amE i) := rb (cd du) (cx d6)
theorem YO : ar 65185151242703554753522873769986563835313798594338285957046558781934205445657307593505242892 Vc := rc (cd du) (cx d6) dC
theorem YP : ar 65185151242703554308277413445833712780322828407122819968520616769278227999012544867765059340 Vd := rc (cd du) (cx d6) dC
theorem YQ : ar 65185151235115004400333507845820953080117617868238058305309074364546789052601137534592876428 Ve := rc (cd du) (cx d6) dC
theorem YR : ar 65185135701352416954757694673404846565495735458055247603240324354937403366909450757007736716 Vf := rc (cd du) (cx d6) dC
theorem YS : ar 64930521745661743999806706318048928883515555048101717989026976823170903929956357509595791276 Vg := rc (cd du) (cx d6) dC
theorem cq : fQ Z H =
 some ((vb false), H) :=
 (by kernel_rfl)
theorem RV : VX X Z x13 H =
 (FF bU [X] H).bind fun a =>
 ad [.n, .f 11] X fun c =>
 (aq c a.2).bind fun e =>
 bT (aq c H) (aq c a.2) <|
 ad [.n, .f 12] X fun d =>
 (aq d a.2).bind fun g =>
 bT (aq d H) (aq d a.2) <|
 (FF iM [a.1, e, g] a.2).bind fun b =>
 av b.1
 (st 1 [.n, .f 6] X (vi 15) b.2 fun i =>
 fQ Z i)
 ((aj .other .eql x13 (vi 1)).bind fun j =>
 av j
 (st 1 [.n, .f 6] X (vi 9) b.2 fun k =>
 fQ Z k)
 (st 1 [.n, .f 6] X (vi 12) b.2 fun l =>
 fQ Z l)) :=
 (bt rfl (cP [1, 1, 1, 1, 0, 1, 4, 1, 3, 1, 3, 1, 3, 1, 3, 1, 3, 1, 3, 1, 2, 1, 1, 4]) 1 YT (by kernel_rfl))
theorem nK : mm X Y Z x6 x297 H =
 av x297
 ((FF aoJ [X, Y] H).bind fun a =>
 some (a.1, a.2))
 ((FF ag3 [X, x6] H).bind fun b =>
 some (b.1, b.2)) :=
 (by kernel_rfl)
theorem GP : VY X Y Z x5 x6 x93 x283 H =
 av x283
 (ld [.n, .f 6] x5 H fun d =>
 ld [.n, .f 1] X H fun e =>
 (FF jy [d, e] H).bind fun g =>
 st 1 [.n, .f 6] X (vi 13) g.2 fun i =>
 fQ Z i)
 ((aj .other .eql x93 (vi 15)).bind fun a =>
 av a
 (mm X Y Z x6 a H)
 ((aj .other .eql x93 (vi 16)).bind fun b =>
 av b
 (mm X Y Z x6 b H)
 ((aj .other .eql x93 (vi 17)).bind fun c =>
 av c
 (mm X Y Z x6 c H)
 ((aj .other .eql x93 (vi 18)).bind fun j =>
 mm X Y Z x6 j H)))) :=
 (ct rfl (cP [1, 1, 1, 1, 0, 1, 4, 1, 3, 1, 3, 1, 3, 1, 3, 1, 3, 1, 3, 1, 3, 1, 3, 1, 3, 1, 3, 1, 2]) (cP [1, 1, 1, 1, 0, 1, 4, 1, 3, 1, 3, 1, 3, 1, 3, 1, 3, 1, 3, 1, 3, 1, 3, 1, 3, 1, 3, 1, 3]) (.tmp 283) (by kernel_rfl) (pt rfl 0 YS (by kernel_rfl)))
theorem ww : MA X Y Z x5 x6 x93 x272 H =
 av x272
 ((FF bU [X] H).bind fun a =>
 ad [.n, .f 1] X fun b =>
 (aq b a.2).bind fun d =>
 bT (aq b H) (aq b a.2) <|
 (FF fK [X] a.2).bind fun c =>
 bT (aq b c.2) (aq b a.2) <|
 (FF iO [a.1, d, c.1] c.2).bind fun e =>
 some ((vb true), e.2))
 ((aj .other .eql x93 (vi 12)).bind fun g =>
 VY X Y Z x5 x6 x93 g H) :=
 (ct rfl (cP [1, 1, 1, 1, 0, 1, 4, 1, 3, 1, 3, 1, 3, 1, 3, 1, 3, 1, 3, 1, 3, 1, 3, 1, 3, 1, 2]) (cP [1, 1, 1, 1, 0, 1, 4, 1, 3, 1, 3, 1, 3, 1, 3, 1, 3, 1, 3, 1, 3, 1, 3, 1, 3, 1, 3]) (.tmp 272) (by kernel_rfl) (pt rfl 0 YR (by kernel_rfl)))
theorem wu : zi X Y Z x5 x6 x7 x93 x248 H =
 av x248
 ((FF bU [X] H).bind fun a =>
 ad [.n, .f 1] X fun c =>
 (aq c a.2).bind fun e =>
 bT (aq c H) (aq c a.2) <|
 (FF fK [X] a.2).bind fun b =>
 bT (aq c b.2) (aq c a.2) <|
 (ax 3 x7 b.2).bind fun g =>
 bT (ax 3 x7 H) (ax 3 x7 b.2) <|
 bT (ax 3 x7 a.2) (ax 3 x7 b.2) <|
 (FF nu [a.1, e, b.1, g] b.2).bind fun i =>
 st 1 [.n, .f 6] X (vi 11) i.2 fun d =>
 ld [.n, .f 13] X d fun j =>
 (aj .other .eql j (vw 1)).bind fun k =>
 av k
 (st 1 [.n, .f 6] X (vi 21) d fun l =>
 fQ Z l)
 (fQ Z d))
 ((aj .other .eql x93 (vi 11)).bind fun m =>
 MA X Y Z x5 x6 x93 m H) :=
 (ct rfl (cP [1, 1, 1, 1, 0, 1, 4, 1, 3, 1, 3, 1, 3, 1, 3, 1, 3, 1, 3, 1, 3, 1, 3, 1, 2]) (cP [1, 1, 1, 1, 0, 1, 4, 1, 3, 1, 3, 1, 3, 1, 3, 1, 3, 1, 3, 1, 3, 1, 3, 1, 3]) (.tmp 248) (by kernel_rfl) (pt rfl 0 YQ (by kernel_rfl)))
theorem wr : Mz X Y Z x5 x6 x7 x93 x242 H =
 av x242
 ((FF ko [X, Y] H).bind fun b =>
 fQ Z b.2)
 ((aj .other .eql x93 (vi 10)).bind fun a =>
 av a
 (zi X Y Z x5 x6 x7 x93 a H)
 ((aj .other .eql x93 (vi 14)).bind fun c =>
 zi X Y Z x5 x6 x7 x93 c H)) :=
 (ct rfl (cP [1, 1, 1, 1, 0, 1, 4, 1, 3, 1, 3, 1, 3, 1, 3, 1, 3, 1, 3, 1, 3, 1, 2]) (cP [1, 1, 1, 1, 0, 1, 4, 1, 3, 1, 3, 1, 3, 1, 3, 1, 3, 1, 3, 1, 3, 1, 3]) (.tmp 242) (by kernel_rfl) (pt rfl 0 YP (by kernel_rfl)))
theorem qI : My X Y Z x5 x6 x7 x93 x197 H =
 av x197
 ((FF bU [X] H).bind fun a =>
 ad [.n, .f 1] X fun c =>
 (aq c a.2).bind fun i =>
 bT (aq c H) (aq c a.2) <|
 (FF iN [a.1, i] a.2).bind fun d =>
 st 1 [.n, .f 12] X d.1 d.2 fun e =>
 ld [.n, .f 11] X e fun j =>
 (FF gM [j] e).bind fun b =>
 (ag b.1 0).bind fun m =>
 (ag b.1 1).bind fun k =>
 (ag b.1 2).bind fun o =>
 VX X Z k b.2)
 ((aj .other .eql x93 (vi 9)).bind fun g =>
 av g
 (Mz X Y Z x5 x6 x7 x93 g H)
 ((aj .other .eql x93 (vi 13)).bind fun l =>
 Mz X Y Z x5 x6 x7 x93 l H)) :=
 (ct rfl (cP [1, 1, 1, 1, 0, 1, 4, 1, 3, 1, 3, 1, 3, 1, 3, 1, 3, 1, 3, 1, 2]) (cP [1, 1, 1, 1, 0, 1, 4, 1, 3, 1, 3, 1, 3, 1, 3, 1, 3, 1, 3, 1, 3]) (.tmp 197) (pt rfl 1 YN (by kernel_rfl)) (pt rfl 0 YO (by kernel_rfl)))
theorem GO : VW X Y Z x5 x6 x7 x93 x186 H =
 av x186
 (st 1 [.n, .f 6] X (vi 8) H fun b =>
 (FF eK [X] b).bind fun a =>
 (aj .other .eql a.1 (vi 2)).bind fun c =>
 av c
 (st 1 [.n, .f 6] X (vi 3) a.2 fun d =>
 fQ Z d)
 (fQ Z a.2))
 ((aj .other .eql x93 (vi 8)).bind fun e =>
 My X Y Z x5 x6 x7 x93 e H) :=
 (ct rfl (cP [1, 1, 1, 1, 0, 1, 4, 1, 3, 1, 3, 1, 3, 1, 3, 1, 3, 1, 2]) (cP [1, 1, 1, 1, 0, 1, 4, 1, 3, 1, 3, 1, 3, 1, 3, 1, 3, 1, 3]) (.tmp 186) (by kernel_rfl) (pt rfl 0 YM (by kernel_rfl)))
theorem wq : Mx X Y Z x5 x6 x7 x93 x171 H =
 av x171
 (ld [.n, .f 1] X H fun a =>
 ld [.n, .f 10] X H fun b =>
 (FF lF [x5, a, b] H).bind fun c =>
 st 1 [.n, .f 6] X (vi 7) c.2 fun d =>
 fQ Z d)
 ((aj .other .eql x93 (vi 7)).bind fun e =>
 VW X Y Z x5 x6 x7 x93 e H) :=
 (ct rfl (cP [1, 1, 1, 1, 0, 1, 4, 1, 3, 1, 3, 1, 3, 1, 3, 1, 2]) (cP [1, 1, 1, 1, 0, 1, 4, 1, 3, 1, 3, 1, 3, 1, 3, 1, 3]) (.tmp 171) (by kernel_rfl) (pt rfl 0 YL (by kernel_rfl)))
theorem GN : VV X Y Z x5 x6 x7 x93 x151 H =
 av x151
 (ld [.n, .f 7] x5 H fun b =>
 ld [.n, .f 1] X H fun c =>
 (FF ed [b, c, x6] H).bind fun a =>
 ld [.n, .f 9] X a.2 fun d =>
 (pM .not d).bind fun e =>
 av e
 (some ((vb true), a.2))
 (st 1 [.n, .f 6] X (vi 6) a.2 fun g =>
 fQ Z g))
 ((aj .other .eql x93 (vi 6)).bind fun i =>
 Mx X Y Z x5 x6 x7 x93 i H) :=
 (ct rfl (cP [1, 1, 1, 1, 0, 1, 4, 1, 3, 1, 3, 1, 3, 1, 2]) (cP [1, 1, 1, 1, 0, 1, 4, 1, 3, 1, 3, 1, 3, 1, 3]) (.tmp 151) (by kernel_rfl) (pt rfl 0 YK (by kernel_rfl)))
theorem wo : VU X Y Z x5 x6 x7 x93 x133 H =
 av x133
 ((FF F6 [X] H).bind fun a =>
 (ag a.1 0).bind fun b =>
 (ag a.1 1).bind fun c =>
 av b
 (st 1 [.n, .f 6] X (vi 5) a.2 fun d =>
 fQ Z d)
 (av c
 ((FF bE [X, Y, (vi 5)] a.2).bind fun e =>
 st 1 [.n, .f 6] X (vi 5) e.2 fun g =>
 fQ Z g)
 (fQ Z a.2)))
 ((aj .other .eql x93 (vi 5)).bind fun i =>
 VV X Y Z x5 x6 x7 x93 i H) :=
 (ct rfl (cP [1, 1, 1, 1, 0, 1, 4, 1, 3, 1, 3, 1, 2]) (cP [1, 1, 1, 1, 0, 1, 4, 1, 3, 1, 3, 1, 3]) (.tmp 133) (by kernel_rfl) (pt rfl 0 YJ (by kernel_rfl)))
theorem qG : VT X Y Z x5 x6 x7 x93 x112 H =
 av x112
 (ld [.n, .f 7] x5 H fun b =>
 ld [.n, .f 1] X H fun c =>
 (FF hF [b, c, x6] H).bind fun a =>
 av a.1
 (st 1 [.n, .f 6] X (vi 4) a.2 fun d =>
 st 1 [.n, .f 7] X (vi 0) d fun e =>
 st 1 [.n, .f 9] X (vb false) e fun g =>
 fQ Z g)
 (fQ Z a.2))
 ((aj .other .eql x93 (vi 4)).bind fun i =>
 VU X Y Z x5 x6 x7 x93 i H) :=
 (ct rfl (cP [1, 1, 1, 1, 0, 1, 4, 1, 3, 1, 2]) (cP [1, 1, 1, 1, 0, 1, 4, 1, 3, 1, 3]) (.tmp 112) (by kernel_rfl) (pt rfl 0 YI (by kernel_rfl)))
theorem pW : RW X Y Z x5 x6 x7 x93 x97 H =
 av x97
 ((FF F6 [X] H).bind fun a =>
 (ag a.1 0).bind fun b =>
 (ag a.1 1).bind fun c =>
 av b
 (st 1 [.n, .f 6] X (vi 6) a.2 fun d =>
 fQ Z d)
 (av c
 (st 1 [.n, .f 6] X (vi 3) a.2 fun e =>
 fQ Z e)
 (fQ Z a.2)))
 ((aj .other .eql x93 (vi 3)).bind fun g =>
 VT X Y Z x5 x6 x7 x93 g H) :=
 (ct rfl (cP [1, 1, 1, 1, 0, 1, 4, 1, 2]) (cP [1, 1, 1, 1, 0, 1, 4, 1, 3]) (.tmp 97) (by kernel_rfl) (pt rfl 0 YH (by kernel_rfl)))
theorem mF : qH X Y Z x5 x6 x7 x93 H =
 (aj .other .eql x93 (vi 2)).bind fun a =>
 RW X Y Z x5 x6 x7 x93 a H :=
 (bt rfl (cP [1, 1, 1, 1, 0, 1, 4]) 0 d6 (pt rfl 0 ae4 (by kernel_rfl)))
theorem Jx : RU X Y Z x5 x6 x7 H =
 ld [.n, .f 6] X H fun a =>
 qH X Y Z x5 x6 x7 a H :=
 (pt rfl 0 du (pt rfl 0 ae2 (by kernel_rfl)))
theorem Jw : RT X Y Z x5 x6 x7 H =
 ld [.n, .f 6] X H fun c =>
 (aj .other .eql c (vi 0)).bind fun d =>
 av d
 (ld [.n, .f 2, .f 2] X H fun e =>
 (aj .other .lss e (vi 1)).bind fun a =>
 (gV a false X).bind fun g =>
 fc a false  [.n, .f 2, .f 2] g H fun i =>
 (gB a false (aj .other .gtr i (vi 65536))).bind fun j =>
 (aK a (vb true) j).bind fun k =>
 av k
 ((FF bE [X, Y, (vi 3)] H).bind fun l =>
 some ((vb true), l.2))
 (ld [.n, .f 2, .f 1] X H fun m =>
 (aj .other .lss m (vi 0)).bind fun b =>
 (gV b false X).bind fun o =>
 fc b false  [.n, .f 2, .f 1] o H fun p =>
 (gB b false (aj .other .gtr p (vi 1048576))).bind fun q =>
 (aK b (vb true) q).bind fun s =>
 av s
 ((FF bE [X, Y, (vi 5)] H).bind fun t =>
 some ((vb true), t.2))
 (st 1 [.n, .f 6] X (vi 2) H fun w =>
 RU X Y Z x5 x6 x7 w)))
 (RU X Y Z x5 x6 x7 H) :=
 (pt rfl 0 ae0 (by kernel_rfl))
noncomputable def rTE : OV := be PP GG FF (cP []) (ls [X, Y] 303) H gJ bA gJ
theorem ap5 {r : Value × AH} (h : (
 ad [.n, .f 0] X fun b =>
 (aq b H).bind fun d =>
 ld [.n, .f 0] X H fun e =>
 ld [.n, .f 7] e H fun g =>
 ld [.n, .f 2, .f 1] X H fun i =>
 (FF eZ [g, i] H).bind fun a =>
 bT (aq b a.2) (aq b H) <|
 ld [.n, .f 2, .f 1] X a.2 fun j =>
 ld [.n, .f 2, .f 2] X a.2 fun k =>
 ld [.n, .f 2, .f 3] X a.2 fun l =>
 gY [(0, 1), (1, 1), (2, 1)] [(vi 0), (vi 0), (vi 0)] [(0, j), (1, k), (2, l)] fun m =>
 aW [(vi 0), (vi 0), (vi 0)] a.2 fun c o =>
 (cH 3 c m o).bind fun p =>
 RT X Y (vb false) d a.1 c p) = some r) : FF e6 [X, Y] H = some r :=
 fo (t := rTE X Y H) Tryz.func64 (by kernel_rfl) (Eq.trans (pt rfl 2 aeY (by kernel_rfl)) h)
theorem N3 {r : Value × AH} (h : (
 aW [(vi 0), (.slice none 0 0), (vi 0), (vw 0)] H fun a b =>
 av Y
 (ldN 4 [.n, .f 17] X b fun e =>
 (cH 4 a e b).bind fun c =>
 (ax 4 a c).bind fun g => some (g, c))
 (gY [(0, 1), (1, 1), (2, 1), (3, 1)] [(vi 0), (.slice none 0 0), (vi 0), (vw 0)] [] fun i =>
 (cH 4 a i b).bind fun d =>
 (ax 4 a d).bind fun j => some (j, d))) = some r) : FF qt [X, Y] H = some r :=
 fo Tryz.func65 (by kernel_rfl) h
theorem F4 {r : Value × AH} (h : (
 ld [.n, .f 1] X H fun a =>
 eS a fun b =>
 some (b, H)) = some r) : FF kF [X] H = some r :=
 fo Tryz.func66 (by kernel_rfl) h
theorem N5 {r : Value × AH} (h : (
 aW (Value.cells X).toList H fun e d =>
 (aj .other .rem Y (vi 2)).bind fun y =>
 (aj .other .eql y (vi 0)).bind fun g =>
 fc g false  [.f 1] e d fun z =>
 fc g false  [.n, .f 11] z d fun A =>
 (zM (yv g) false (eS A some) (some undef)).bind fun B =>
 (gB g false (aj .other .eql B (vi 0))).bind fun C =>
 (aK g (vb true) C).bind fun D =>
 av D
 (ld [.f 0] e d fun E =>
 (FF d9 [E, (vi 5)] d).bind fun s =>
 ld [.f 1] e s.2 fun G =>
 (FF fJ [G, (vi 5)] s.2).bind fun I =>
 some ((vb true), I.2))
 ((aj .other .quo Y (vi 2)).bind fun J =>
 ld [.f 1] e d fun K =>
 ld [.n, .f 11] K d fun L =>
 eS L fun M =>
 (FF bz [J, M] d).bind fun b =>
 ld [.f 0] e b.2 fun N =>
 (FF d8 [N, b.1] b.2).bind fun a =>
 ad [.f 1] e fun k =>
 (aq k a.2).bind fun O =>
 bT (aq k b.2) (aq k a.2) <|
 ad [.n, .f 11] O fun l =>
 (aq l a.2).bind fun P =>
 bT (aq l b.2) (aq l a.2) <|
 ad [.i 1 b.1] P fun m =>
 (aq m a.2).bind fun t =>
 bT (aq m b.2) (aq m a.2) <|
 ad [.n, .f 0] t fun o =>
 (aq o a.2).bind fun Q =>
 (FF bY [(vi 11), b.1, (vi 0)] a.2).bind fun p =>
 bT (aq o p.2) (aq o a.2) <|
 (FF nl [Q, p.1] p.2).bind fun j =>
 (aj .ptr .neq a.1 (.pointer none)).bind fun c =>
 (gV c true a.1).bind fun R =>
 (gV c true j.1).bind fun S =>
 (gE c true j.2 (FF kp [R, (vi 5), S] j.2)).bind fun q =>
 (gV c true t).bind fun T =>
 (gV c true j.1).bind fun U =>
 (gE c true q.2 (FF gf [T, (vi 5), U, (vi 1)] q.2)).bind fun w =>
 (gB c true (aj .bool .eql q.1 w.1)).bind fun V =>
 (aK c V (vb false)).bind fun W =>
 some (W, w.2))) = some r) : FF vM [X, Y] H = some r :=
 fo Tryz.func67 (by kernel_rfl) h
theorem ap8 {r : Value × AH} (h : (
 (aj .slice .eql X (.slice none 0 0)).bind fun b =>
 av b
 (some ((.slice none 0 0), H))
 (wL 0 5 [(vi 0), (vi 0), (vi 0), (vi 0), (vi 0)] [] H fun c d =>
 (dS 5 40 c X d).bind fun a =>
 some (a.1, a.2))) = some r) : FF ag5 [X] H = some r :=
 fo Tryz.func71 (by kernel_rfl) h
theorem Ad {r : Value × AH} (h : (
 aW [(vi 0), (vi 0), (vi 0)] H fun a c =>
 gY [(0, 1), (1, 1), (2, 1)] [(vi 0), (vi 0), (vi 0)] [(0, X), (1, Y)] fun d =>
 (cH 3 a d c).bind fun b =>
 (ax 3 a b).bind fun e => some (e, b)) = some r) : FF bD [X, Y] H = some r :=
 fo Tryz.func73 (by kernel_rfl) h
theorem DB {r : Value × AH} (h : (
 aW [(vi 0), (vi 0), (vi 0)] H fun a b =>
 ld [.n, .f 1] X b fun d =>
 gY [(0, 1), (1, 1), (2, 1)] [(vi 0), (vi 0), (vi 0)] [(0, Y), (1, d), (2, x2)] fun e =>
 (cH 3 a e b).bind fun c =>
 (ax 3 a c).bind fun g => some (g, c)) = some r) : FF ef [X, Y, x2] H = some r :=
 fo Tryz.func75 (by kernel_rfl) h
theorem Mc {r : Value × AH} (h : (
 aW (Value.cells X).toList H fun a i =>
 aW [(vi 0), (.slice none 0 0), (vi 0), (vw 0)] i fun b c =>
 ld [.f 1] a c fun j =>
 (FF ag4 [j] c).bind fun d =>
 st 1 [.f 1] a d.1 d.2 fun e =>
 (ax 4 a e).bind fun k =>
 (cH 4 b k e).bind fun g =>
 (ax 4 b g).bind fun l => some (l, g)) = some r) : FF sJ [X] H = some r :=
 fo Tryz.func79 (by kernel_rfl) h
theorem oE {r : Value × AH} (h : (
 ld [.n, .f 2] X H fun a =>
 eS a fun b =>
 (cL (some .u64) b).bind fun c =>
 (aj .other .rem Y c).bind fun d =>
 (cL (some .i64) d).bind fun e =>
 some (e, H)) = some r) : FF dn [X, Y] H = some r :=
 fo Tryz.func80 (by kernel_rfl) h
theorem F5 {r : Value × AH} (h : (
 aW (Value.cells X).toList H fun a l =>
 ld [.f 0] a l fun m =>
 (FF fI [m, (vi 1), (vi 4)] l).bind fun b =>
 fc b.1 true  [.f 1] a b.2 fun n =>
 (gE b.1 true b.2 (FF fI [n, (vi 1), (vi 4)] b.2)).bind fun c =>
 (aK b.1 c.1 (vb false)).bind fun g =>
 fc g true  [.f 2] a c.2 fun o =>
 (gE g true c.2 (FF fI [o, (vi 1), (vi 6)] c.2)).bind fun d =>
 (aK g d.1 (vb false)).bind fun i =>
 fc i true  [.f 3] a d.2 fun p =>
 (gE i true d.2 (FF fI [p, (vi 0), (vi 40)] d.2)).bind fun e =>
 (aK i e.1 (vb false)).bind fun j =>
 fc j true  [.f 4] a e.2 fun q =>
 (gB j true (aj .other .geq q (vw 1))).bind fun s =>
 (aK j s (vb false)).bind fun k =>
 fc k true  [.f 4] a e.2 fun t =>
 (gB k true (aj .other .leq t (vw 4611686018427387904))).bind fun w =>
 (aK k w (vb false)).bind fun y =>
 some (y, e.2)) = some r) : FF oS [X] H = some r :=
 fo Tryz.func81 (by kernel_rfl) h
theorem Rg (H : AH) {r : Value × AH} (h : (
 HW H fun a b =>
 gY [(0, 1), (1, 1)] [(.map none), (.slice none 0 0)] [(0, a)] fun c =>
 aW (Value.cells c).toList b fun d e =>
 some (d, e)) = some r) : FF Au [] H = some r :=
 fo Tryz.func82 (by kernel_rfl) h
theorem LT {r : Value × AH} (h : (
 (gk [Y, (vi 1)]).bind fun a =>
 (jS [a, (vi 4)]).bind fun b =>
 HW H fun c d =>
 gY [(0, 1), (1, 1), (2, 1), (3, 1), (4, 1)] [(.pointer none), (vi 0), (.map none), Value.nilFunc, Value.nilFunc] [(0, X), (1, b), (2, c), (3, (.func (.func bD) #[(vi 9)] #[])), (4, (.func (.func bD) #[(vi 14)] #[]))] fun e =>
 aW (Value.cells e).toList d fun f g =>
 some (f, g)) = some r) : FF sF [X, Y] H = some r :=
 fo Tryz.func83 (by kernel_rfl) h
theorem MR {r : Value × AH} (h : (
 (gk [Y, (vi 1)]).bind fun a =>
 (jS [a, (vi 4)]).bind fun b =>
 (gk [x2, (vi 1)]).bind fun c =>
 (jS [c, (vi 4)]).bind fun d =>
 gY [(0, 1), (1, 1), (2, 1)] [(.pointer none), (vi 0), (vi 0)] [(0, X), (1, b), (2, d)] fun e =>
 aW (Value.cells e).toList H fun f g =>
 some (f, g)) = some r) : FF sQ [X, Y, x2] H = some r :=
 fo Tryz.func84 (by kernel_rfl) h
theorem Om {r : Value × AH} (h : (
 (gk [Y, (vi 1)]).bind fun a =>
 (jS [a, (vi 6)]).bind fun b =>
 HW H fun c d =>
 HW d fun e f =>
 gY [(0, 1), (1, 1), (2, 1), (3, 1)] [(.pointer none), (vi 0), (.map none), (.map none)] [(0, X), (1, b), (2, c), (3, e)] fun g =>
 aW (Value.cells g).toList f fun i j =>
 some (i, j)) = some r) : FF vN [X, Y] H = some r :=
 fo Tryz.func85 (by kernel_rfl) h
theorem Nu {r : Value × AH} (h : (
 aW (Value.cells X).toList H fun c b =>
 ld [.f 0] c b fun d =>
 ld [.f 3] c b fun e =>
 (FF sL [d, e] b).bind fun a =>
 HW a.2 fun g i =>
 HW i fun j k =>
 gY [(0, 1), (1, 1), (2, 1), (3, 1), (4, 1), (5, 1), (6, 1), (7, 1), (8, 3)] [Value.nilFunc, Value.nilFunc, Value.nilFunc, (vw 0), (vw 0), (vi 0), (.map none), (.map none), (vb false), (vi 0), (vw 0)] [(0, (.func (.func vO) #[a.1] #[])), (1, (.func (.func yr) #[a.1] #[])), (2, (.func (.func yq) #[a.1] #[])), (6, g), (7, j)] fun l =>
 aW (Value.cells l).toList k fun m n =>
 some (m, n)) = some r) : FF vH [X] H = some r :=
 fo Tryz.func86 (by kernel_rfl) h
theorem Dj {r : Value × AH} (h : (
 (gk [Y, (vi 1)]).bind fun a =>
 (jS [a, (vi 4)]).bind fun b =>
 gY [(0, 1), (1, 1), (2, 1), (3, 1)] [(.pointer none), (vi 0), (.slice none 0 0), (.slice none 0 0)] [(0, X), (1, b)] fun c =>
 aW (Value.cells c).toList H fun d e =>
 some (d, e)) = some r) : FF np [X, Y] H = some r :=
 fo Tryz.func87 (by kernel_rfl) h
theorem Dl {r : Value × AH} (h : (
 (gk [Y, (vi 1)]).bind fun a =>
 (jS [a, (vi 4)]).bind fun b =>
 (gk [x2, (vi 1)]).bind fun c =>
 (jS [c, (vi 4)]).bind fun d =>
 gY [(0, 1), (1, 1), (2, 1)] [(.pointer none), (vi 0), (vi 0)] [(0, X), (1, b), (2, d)] fun e =>
 aW (Value.cells e).toList H fun f g =>
 some (f, g)) = some r) : FF nr [X, Y, x2] H = some r :=
 fo Tryz.func88 (by kernel_rfl) h
theorem GF {r : Value × AH} (h : (
 (gk [Y, (vi 1)]).bind fun a =>
 (jS [a, (vi 6)]).bind fun b =>
 gY [(0, 1), (1, 1), (2, 1), (3, 1), (4, 1), (5, 1)] [(.pointer none), (vi 0), (.slice none 0 0), (.slice none 0 0), (.slice none 0 0), (.slice none 0 0)] [(0, X), (1, b)] fun c =>
 aW (Value.cells c).toList H fun d e =>
 some (d, e)) = some r) : FF oV [X, Y] H = some r :=
 fo Tryz.func89 (by kernel_rfl) h
theorem GE {r : Value × AH} (h : (
 aW (Value.cells X).toList H fun b a =>
 ld [.f 0] b a fun d =>
 ld [.f 3] b a fun e =>
 (FF ag1 [d, e] a).bind fun c =>
 gY [(0, 1), (1, 1), (2, 1), (3, 1), (4, 1), (5, 1), (6, 1), (7, 1), (8, 1)] [(.pointer none), (vw 0), (vw 0), (vi 0), (.slice none 0 0), (.slice none 0 0), (vb false), (vi 0), (vw 0)] [(0, c.1)] fun g =>
 aW (Value.cells g).toList c.2 fun i j =>
 some (i, j)) = some r) : FF oU [X] H = some r :=
 fo Tryz.func90 (by kernel_rfl) h
theorem lQ {r : Value × AH} (h : (
 aW (Value.cells x2).toList H fun b d =>
 ld [.n, .f 10] X d fun j =>
 eS j fun e =>
 ld [.n, .f 0] X d fun k =>
 gY [(0, 1), (1, 1), (2, 1)] [(vi 0), (vi 0), (vi 0)] [(0, (vi 13)), (1, e)] fun l =>
 (FF ge [k, Y, l] d).bind fun a =>
 ad [.n, .f 10] X fun g =>
 (aq g a.2).bind fun m =>
 (ax 3 b a.2).bind fun o =>
 ld [.n, .f 0] X a.2 fun p =>
 ld [.f 1] b a.2 fun q =>
 (FF vQ [p, e, q] a.2).bind fun c =>
 bT (aq g c.2) (aq g a.2) <|
 bT (ax 3 b c.2) (ax 3 b a.2) <|
 gY [(0, 3), (3, 1)] [(vi 0), (vi 0), (vw 0), (.pointer none)] [(0, o), (1, c.1)] fun s =>
 wL 1 4 [(vi 0), (vi 0), (vw 0), (.pointer none)] [(0, s)] c.2 fun t w =>
 (dS 4 32 m t w).bind fun i =>
 st 1 [.n, .f 10] X i.1 i.2 fun y =>
 some (e, y)) = some r) : FF d7 [X, Y, x2] H = some r :=
 fo Tryz.func91 (by kernel_rfl) h
theorem za {r : Value × AH} (h : (
 aW (Value.cells x2).toList H fun o c =>
 ld [.n, .f 10] X c fun q =>
 eS q fun e =>
 ad [.n, .f 5] X fun g =>
 (aq g c).bind fun s =>
 (FF bY [(vi 13), e, (vi 0)] c).bind fun i =>
 bT (aq g i.2) (aq g c) <|
 (FF ch [s, Y, (vi 6), i.1] i.2).bind fun j =>
 ld [.n, .f 10] X j.2 fun t =>
 (ax 3 o j.2).bind fun w =>
 wL 1 3 [(vi 0), (vi 0), (vw 0)] [(0, w)] j.2 fun y d =>
 (dS 3 24 t y d).bind fun a =>
 ad [.n, .f 11] X fun b =>
 (aq b a.2).bind fun z =>
 bT (aq b d) (aq b a.2) <|
 ad [.n, .f 5] X fun k =>
 (aq k a.2).bind fun A =>
 bT (aq k d) (aq k a.2) <|
 ad [.f 1] o fun l =>
 (aq l a.2).bind fun B =>
 bT (aq l d) (aq l a.2) <|
 (FF oW [A, e, B] a.2).bind fun m =>
 bT (aq b m.2) (aq b a.2) <|
 wL 1 1 [(.pointer none)] [(0, m.1)] m.2 fun C D =>
 (dS 1 8 z C D).bind fun p =>
 st 1 [.n, .f 10] X a.1 p.2 fun E =>
 st 1 [.n, .f 11] X p.1 E fun G =>
 some (e, G)) = some r) : FF g9 [X, Y, x2] H = some r :=
 fo Tryz.func92 (by kernel_rfl) h
theorem wF {r : Value × AH} (h : (
 (aj .other .lss Z (vi 0)).bind fun a =>
 (gV a false Z).bind fun g =>
 (gB a false (aj .other .gtr g (vi 1048576))).bind fun i =>
 (aK a (vb true) i).bind fun b =>
 (gV b false x5).bind fun j =>
 (gB b false (aj .other .lss j (vi 0))).bind fun k =>
 (aK b (vb true) k).bind fun c =>
 (gV c false x5).bind fun l =>
 (gB c false (aj .other .geq l (vi 4294967296))).bind fun m =>
 (aK c (vb true) m).bind fun o =>
 av o
 (some ((vb false), H))
 (ad [.n, .f 0] X fun d =>
 (aq d H).bind fun p =>
 (FF jB [x2, x3] H).bind fun e =>
 bT (aq d e.2) (aq d H) <|
 (aj .other .add Z (vi 1)).bind fun q =>
 (cL (some .u64) q).bind fun s =>
 (aj .other .shl s (vw 32)).bind fun t =>
 (cL (some .u64) x5).bind fun w =>
 (aj .other .or t w).bind fun y =>
 (FF dI [p, Y, e.1, y] e.2).bind fun z =>
 some ((vb true), z.2))) = some r) : FF gv [X, Y, x2, x3, Z, x5] H = some r :=
 fo Tryz.func93 (by kernel_rfl) h
theorem A5 {r : Value × AH} (h : (
 (aj .other .lss Z (vi 0)).bind fun b =>
 (gV b false Z).bind fun g =>
 (gB b false (aj .other .gtr g (vi 1048576))).bind fun i =>
 (aK b (vb true) i).bind fun c =>
 (gV c false x5).bind fun j =>
 (gB c false (aj .other .lss j (vi 0))).bind fun k =>
 (aK c (vb true) k).bind fun a =>
 (gV a false x5).bind fun l =>
 (gB a false (cL (some .u64) l)).bind fun m =>
 (gB a false (aj .other .geq m (vw 4294967296))).bind fun o =>
 (aK a (vb true) o).bind fun p =>
 av p
 (some ((vb false), H))
 (ad [.n, .f 0] X fun d =>
 (aq d H).bind fun q =>
 (FF bY [(vi 10), x2, x3] H).bind fun e =>
 bT (aq d e.2) (aq d H) <|
 (aj .other .add Z (vi 1)).bind fun s =>
 (cL (some .u64) s).bind fun t =>
 (aj .other .mul t (vw 4294967296)).bind fun w =>
 (cL (some .u64) x5).bind fun y =>
 (aj .other .add w y).bind fun z =>
 (FF eH [q, Y, e.1, z] e.2).bind fun A =>
 some ((vb true), A.2))) = some r) : FF iP [X, Y, x2, x3, Z, x5] H = some r :=
 fo Tryz.func94 (by kernel_rfl) h
noncomputable def afQ (p : List Nat) : Code := Code.sub (bH Tryz.f95) p
noncomputable def FD : KK := dM PP (Tryz.f95).results.toList
noncomputable def afR : KK := CQ (afQ [1, 1, 1]) FD bA FD
noncomputable def GT : OV := afR (ls [u, u, u, u, u, x5, x6, x7] 26) H
noncomputable def afT : KK := CQ (afQ [1, 1, 1, 1]) FD bA FD
noncomputable def wx : OV := afT (ls [u, u, u, u, u, u, x6, x7] 26) H
theorem DZ : ar 17179869119 FD := rf
theorem afS : ar 17179868959 afR := rc DZ aB DZ
theorem afU : ar 17179868991 afT := rc DZ aB DZ
theorem vd : wx x6 x7 H =
 some (x7, H) :=
 (by kernel_rfl)
theorem Iq : GT x5 x6 x7 H =
 ld [.f 0] x5 H fun a =>
 (aj .other .eql a (vi 1)).bind fun b =>
 av b
 (st 1 [.n, .f 7] x7 (.func (.func fL) #[x7] #[]) H fun c =>
 wx x6 x7 c)
 (wx x6 x7 H) :=
 (pt rfl 0 afU (by kernel_rfl))
noncomputable def am4 : OV := be PP GG FF (afQ []) (ls [X, Y, x2] 31) H FD bA FD
theorem RZ {r : Value × AH} (h : (
 aW (Value.cells x2).toList H fun a b =>
 (ax 4 a b).bind fun e =>
 ld [.n, .f 2] X b fun g =>
 ld [.f 1] a b fun i =>
 (FF fw [g, i] b).bind fun c =>
 bT (ax 4 a c.2) (ax 4 a b) <|
 gY [(0, 1), (1, 1), (2, 4), (6, 1), (7, 1), (8, 1), (9, 1), (10, 1), (11, 1), (12, 1), (13, 1), (14, 1), (15, 1), (16, 1)] [(.pointer none), (vi 0), (vi 0), (vi 0), (vi 0), (vi 0), (vi 0), Value.nilFunc, (vi 0), (vi 0), (vi 0), (vi 0), (.pointer none), (vw 0), (vw 0), (vi 0), (vi 0)] [(0, X), (1, Y), (2, e), (3, c.1), (6, (vi (-1)))] fun j =>
 aW (Value.cells j).toList c.2 fun d k =>
 st 1 [.n, .f 7] d (.func (.func eL) #[d] #[]) k fun l =>
 GT a (.pointer none) d l) = some r) : FF Ax [X, Y, x2] H = some r :=
 fo (t := am4 X Y x2 H) Tryz.func95 (by kernel_rfl) (Eq.trans (pt rfl 2 afS (by kernel_rfl)) h)
theorem Ds {r : Value × AH} (h : (
 aW [(vi 0), (.slice none 0 0), (vi 0), (vw 0)] H fun b d =>
 ld [.n, .f 7] X d fun g =>
 (di g [Y]).bind fun c => (FF c.1 c.2 d).bind fun a =>
 (ag a.1 0).bind fun i =>
 (ag a.1 1).bind fun j =>
 (cH 4 b i a.2).bind fun e =>
 (ax 4 b e).bind fun k => some (Value.tuple #[k, j], e)) = some r) : FF ny [X, Y] H = some r :=
 fo Tryz.func96 (by kernel_rfl) h
noncomputable def na (p : List Nat) : Code := Code.sub (bH Tryz.f97) p
noncomputable def nZ : KK := dM PP (Tryz.f97).results.toList
noncomputable def afV : KK := CQ (na [1, 1]) nZ bA nZ
noncomputable def lI : OV := afV (ls [X, Y, u, u, Z, x5, x6] 141) H
noncomputable def QZ : KK := CQ (na [1, 1, 1]) nZ bA nZ
noncomputable def QX : KK := eG abN QZ
noncomputable def gg : OV := QZ (ls [X, Y, u, u, Z, x5, x6] 141) H
noncomputable def Q1 : KK := CQ (na [1, 1, 1, 1]) nZ bA nZ
noncomputable def QY : KK := eG abR Q1
noncomputable def rn : OV := Q1 (ls [X, Y, u, u, Z, u, x6] 141) H
noncomputable def af1 : KX := BX 1 QY bA
noncomputable def af2 : KX := qQ abR af1
noncomputable def afX : KK := CQ (na [1, 1, 1, 0, 4, 1]) QY af2 nZ
noncomputable def rq : OV := afX (ls [X, Y, u, u, Z, x5, x6, u, u, u, u, u, u, u, u, u, u, u, u, u, u, u, u, u, u, u, u, u, u, u, u, u, u, u, u, u, u, u, u, u, u, u, u, u, u, u, u, u, u, u, u, u, u, u, u, u, u, u, u, u, u, u, u, u, u, u, u, u, u, u, u, u, u, u, u, u, u, u, u, u, u, u, u, u, u, u, u, u, u, u, u, u, u, u, u, u, u, u, u, u, u, u, u, u, u, u, u, u, u, u, u, u, u, u, x114] 33) H
noncomputable def afZ : KK := CQ (na [1, 1, 1, 0, 4, 1, 2, 1]) QY af2 nZ
noncomputable def lJ : OV := afZ (ls [X, Y, u, u, Z, u, x6] 141) H
noncomputable def Vj : KK := CQ (na [1, 1, 0, 1]) QX bA nZ
noncomputable def pS : OV := Vj (ls [X, Y, u, u, Z, x5, x6, u, u, u, u, u, u, u, u, u, u, u, u, u, u, u, u, u, u, u, u, u, u, u, x30] 117) H
noncomputable def Vk : KK := CQ (na [1, 1, 0, 1, 2, 1, 1]) QX bA nZ
noncomputable def ic : OV := Vk (ls [X, Y, u, u, Z, x5, x6, x7, x8] 139) H
noncomputable def LO : KK := CQ (na [1, 1, 0, 1, 2, 1, 1, 1]) QX bA nZ
noncomputable def amF : KK := eG abO LO
noncomputable def cS : OV := LO (ls [X, Y, u, u, Z, x5, x6, x7] 140) H
noncomputable def amG : KX := BX 0 amF bA
theorem jn : ar 356811923176489970264571492362373784095686639 nZ := rf
theorem afW : ar abN afV := rc jn aB jn
theorem xI : ar abN QZ := rc jn aB jn
theorem xJ : ar abR Q1 := rc jn aB jn
theorem FE : ∀ i, ar abR (af1 i) := rb (cd xJ) aB
theorem afY : ar 356811923155720782830432181848251798778806156 afX := rc (cd xJ) (cx FE) jn
theorem af0 : ar abR afZ := rc (cd xJ) (cx FE) jn
theorem YW : ar 356811923176489970264571492362373783021944716 Vj := rc (cd xI) aB jn
theorem YX : ar 356811923176489970264571492362373784095686156 Vk := rc (cd xI) aB jn
theorem Jb : ar abO LO := rc (cd xI) aB jn
theorem YY : ∀ i, ar abO (amG i) := rb (cd Jb) aB
theorem wm : rn X Y Z x6 H =
 (FF qY [X, Y, x6] H).bind fun a =>
 some (a.1, a.2) :=
 (by kernel_rfl)
theorem nJ : lJ X Y Z x6 H =
 some ((vb false), H) :=
 (by kernel_rfl)
theorem iZ : rq X Y Z x5 x6 x114 H =
 av x114
 (ld [.n, .f 7] x5 H fun c =>
 ld [.n, .f 1] X H fun d =>
 (FF hF [c, d, x6] H).bind fun a =>
 av a.1
 (st 1 [.n, .f 6] X (vi 3) a.2 fun e =>
 lJ X Y Z x6 e)
 (lJ X Y Z x6 a.2))
 (ld [.n, .f 2, .f 0] X H fun g =>
 (aj .other .eql g (vi 1)).bind fun i =>
 av i
 ((FF lO [X, Y, x6] H).bind fun b =>
 some (b.1, b.2))
 (rn X Y Z x6 H)) :=
 (ct rfl (na [1, 1, 1, 0, 4, 1, 2]) (na [1, 1, 1, 0, 4, 1, 3]) (.tmp 114) (pt rfl 0 af0 (by kernel_rfl)) (by kernel_rfl))
theorem iY : gg X Y Z x5 x6 H =
 ld [.n, .f 6] X H fun a =>
 (aj .other .eql a (vi 2)).bind fun b =>
 rq X Y Z x5 x6 b H :=
 (pt rfl 0 xJ (bt rfl (na [1, 1, 1, 0, 4]) 1 FE (pt rfl 0 afY (by kernel_rfl))))
theorem lT : cS X Y Z x5 x6 x7 H =
 (aj .other .neq x7 (vi 0)).bind fun a =>
 av a
 ((FF bE [X, Y, x7] H).bind fun b =>
 some ((vb true), b.2))
 (st 1 [.n, .f 6] X (vi 2) H fun c =>
 gg X Y Z x5 x6 c) :=
 (by kernel_rfl)
theorem lS : ic X Y Z x5 x6 x7 x8 H =
 ld [.n, .f 2, .f 0] X H fun g =>
 (aj .other .neq g (vi 1)).bind fun e =>
 (gV e true x8).bind fun i =>
 (gB e true (pM .not i)).bind fun j =>
 (aK e j (vb false)).bind fun k =>
 av k
 (cS X Y Z x5 x6 (vi 5) H)
 ((pM .not x8).bind fun l =>
 av l
 (cS X Y Z x5 x6 (vi 1) H)
 (ld [.n, .f 2, .f 0] X H fun m =>
 (aj .other .eql m (vi 1)).bind fun a =>
 (gV a true X).bind fun o =>
 fc a true  [.n, .f 2, .f 2] o H fun p =>
 (gB a true (aj .other .lss p (vi 1))).bind fun q =>
 (gV a true q).bind fun c =>
 (gV c false X).bind fun s =>
 fc c false  [.n, .f 2, .f 2] s H fun t =>
 (gB c false (aj .other .gtr t (vi 65536))).bind fun w =>
 (gB a true (aK c (vb true) w)).bind fun y =>
 (aK a y (vb false)).bind fun z =>
 av z
 (cS X Y Z x5 x6 (vi 4) H)
 (ld [.n, .f 2, .f 0] X H fun A =>
 (aj .other .eql A (vi 1)).bind fun b =>
 (gV b true X).bind fun B =>
 fc b true  [.n, .f 2, .f 3] B H fun C =>
 (gB b true (aj .other .lss C (vi 1))).bind fun D =>
 (gV b true D).bind fun d =>
 (gV d false X).bind fun E =>
 fc d false  [.n, .f 2, .f 3] E H fun G =>
 (gB d false (aj .other .gtr G (vi 8))).bind fun I =>
 (gB b true (aK d (vb true) I)).bind fun J =>
 (aK b J (vb false)).bind fun K =>
 av K
 (cS X Y Z x5 x6 (vi 1) H)
 (cS X Y Z x5 x6 x7 H)))) :=
 (pt rfl 0 Jb (bt rfl (na [1, 1, 0, 1, 2, 1, 1, 0, 4]) 0 YY (by kernel_rfl)))
theorem lR : pS X Y Z x5 x6 x30 H =
 av x30
 (ld [.n, .f 2, .f 1] X H fun b =>
 (aj .other .geq b (vi 0)).bind fun a =>
 (gV a true X).bind fun c =>
 fc a true  [.n, .f 2, .f 1] c H fun d =>
 (gB a true (aj .other .leq d (vi 1048576))).bind fun e =>
 (aK a e (vb false)).bind fun g =>
 ic X Y Z x5 x6 (vi 0) g H)
 (gg X Y Z x5 x6 H) :=
 (ct rfl (na [1, 1, 0, 1, 2]) (na [1, 1, 0, 1, 3]) (.tmp 30) (pt rfl 1 YX (by kernel_rfl)) (by kernel_rfl))
theorem nI : lI X Y Z x5 x6 H =
 ld [.n, .f 6] X H fun a =>
 (aj .other .eql a (vi 0)).bind fun b =>
 pS X Y Z x5 x6 b H :=
 (pt rfl 0 xI (pt rfl 0 YW (by kernel_rfl)))
noncomputable def Mn : OV := be PP GG FF (na []) (ls [X, Y] 146) H nZ bA nZ
theorem Dp {r : Value × AH} (h : (
 ad [.n, .f 0] X fun a =>
 (aq a H).bind fun c =>
 ld [.n, .f 0] X H fun d =>
 ld [.n, .f 7] d H fun e =>
 ld [.n, .f 2, .f 1] X H fun g =>
 (FF eZ [e, g] H).bind fun b =>
 bT (aq a b.2) (aq a H) <|
 lI X Y (vb false) c b.1 b.2) = some r) : FF bo [X, Y] H = some r :=
 fo (t := Mn X Y H) Tryz.func97 (by kernel_rfl) (Eq.trans (pt rfl 1 afW (by kernel_rfl)) h)
noncomputable def Bx (p : List Nat) : Code := Code.sub (bH Tryz.f98) p
noncomputable def uO : KK := dM PP (Tryz.f98).results.toList
noncomputable def af4 : KK := CQ (Bx [1, 1]) uO bA uO
noncomputable def xM : OV := af4 (ls [X, Y, x2, u, u, u, x6] 23) H
noncomputable def Q2 : KK := CQ (Bx [1, 1, 1]) uO bA uO
noncomputable def af3 : KK := eG 1073741759 Q2
noncomputable def xN : OV := Q2 (ls [u, u, u, u, u, u, x6] 23) H
noncomputable def af6 : KK := CQ (Bx [1, 1, 0, 1]) af3 bA uO
noncomputable def xO : OV := af6 (ls [X, Y, x2, u, u, u, x6, x7] 22) H
noncomputable def Q4 : KX := BX 0 af3 bA
noncomputable def agA : KX := qQ 1073741759 Q4
noncomputable def Q3 : KK := Cb (Bx [1, 1, 0, 1, 4, 5]) agA uO
noncomputable def apS : KK := eG 1073741624 Q3
noncomputable def xR : OV := Q3 (ls [X, Y, x2, u, u, u, x6, x7] 22) H
noncomputable def af8 : KK := CQ (Bx [1, 1, 0, 1, 4, 5, 1]) apS agA uO
noncomputable def LR : OV := af8 (ls [X, Y, x2, u, u, u, x6, x7] 22) H
noncomputable def ss : OV := Q4 0 (ls [u, u, u, u, u, u, x6] 23) H
theorem qk : ar 1073741759 uO := rf
theorem af5 : ar 1073741752 af4 := rc qk aB qk
theorem FG : ar 1073741759 Q2 := rc qk aB qk
theorem af7 : ar 1073741624 af6 := rc (cd FG) aB qk
theorem FI : ∀ i, ar 1073741759 (Q4 i) := rb (cd FG) aB
theorem FH : ar 1073741624 Q3 := rl (cx FI) qk
theorem af9 : ar 1073741624 af8 := rc (cd FH) (cx FI) qk
theorem Cm : xN x6 H =
 some ((vb true), H) :=
 (by kernel_rfl)
theorem xL : ss x6 H = xN x6 H :=
 (by kernel_rfl)
theorem Co : xR X Y x2 x6 x7 H =
 eS X fun a =>
 (aj .other .lss x7 a).bind fun b =>
 av b
 (LR X Y x2 x6 x7 H)
 (ss x6 H) :=
 CD rfl FH (pt rfl 0 af9 (by kernel_rfl))
theorem Cn : xO X Y x2 x6 x7 H =
 xR X Y x2 x6 x7 H :=
 (bt rfl (Bx [1, 1, 0, 1, 4]) 0 FI (li rfl (Bx [1, 1, 0, 1, 4, 5]) FH (by kernel_rfl)))
theorem Cj : xM X Y x2 x6 H =
 xO X Y x2 x6 (vi 0) H :=
 (pt rfl 0 FG (pt rfl 0 af7 (by kernel_rfl)))
noncomputable def Y6 : OV := be PP GG FF (Bx []) (ls [X, Y, x2] 27) H uO bA uO
theorem LS {r : Value × AH} (h : (
 eS X fun a =>
 eS Y fun b =>
 (aj .other .neq a b).bind fun c =>
 av c
 (some ((vb false), H))
 (xM X Y x2 (vb false) H)) = some r) : FF sE [X, Y, x2] H = some r :=
 fo (t := Y6 X Y x2 H) Tryz.func98 (by kernel_rfl) (Eq.trans (pt rfl 1 af5 (by kernel_rfl)) h)
end
end Go.Proofs.YtghoamdlcjdfjaaGreatDoor.Gst
