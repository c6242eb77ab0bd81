/- Several texts in one. -/
import Derived.Test.YtodpbobjmkhcfaaGreatDoorPc
namespace Go.Proofs.YtodpbobjmkhcfaaGreatDoor.Gst
open Go Go.RowKit
set_option maxRecDepth 100000
set_option linter.unusedVariables false
set_option maxHeartbeats 1000000
set_option linter.unusedSimpArgs false
set_option synthInstance.maxSize 2000
set_option synthInstance.maxHeartbeats 400000
noncomputable def f43_b (p : List Nat) : Code := Code.sub (bodyOf Tryz.f43) p
noncomputable def f43_r : KK := cFin PP (Tryz.f43).results.toList
noncomputable def f43_n0 : KK := CQ (f43_b [1, 1, 1]) f43_r kx0 f43_r
noncomputable def rTE_k0 (x0 x1 x4 x5 x6 x7 : Value) (H : AH) : OV := f43_n0 (ls [x0, x1, u, u, x4, x5, x6, x7] 297) H
noncomputable def f43_n1 : KK := CQ (f43_b [1, 1, 1, 1]) f43_r kx0 f43_r
noncomputable def rTE_k1 (x0 x1 x4 x5 x6 x7 : Value) (H : AH) : OV := f43_n1 (ls [x0, x1, u, u, x4, x5, x6, x7] 297) H
noncomputable def f43_n2 : KK := CQ (f43_b [1, 1, 1, 1, 1]) f43_r kx0 f43_r
noncomputable def f43_m2 : KK := clr 65185151242703554760590262029100101153646988597309960020356494379340201592426774597868716015 f43_n2
noncomputable def rTE_k2 (x4 : Value) (H : AH) : OV := f43_n2 (ls [u, u, u, u, x4] 300) H
noncomputable def f43_n3 : KK := CQ (f43_b [1, 1, 1, 1, 0, 1]) f43_m2 kx0 f43_r
noncomputable def rTE_k3 (x0 x1 x4 x5 x6 x7 x93 : Value) (H : AH) : OV := f43_n3 (ls [x0, x1, u, u, x4, x5, x6, x7, u, u, u, u, u, u, u, u, u, u, u, u, u, u, u, u, u, u, u, u, u, u, u, u, u, u, u, u, u, u, u, u, u, u, u, u, u, u, u, u, u, u, u, u, u, u, u, u, u, u, u, u, u, u, u, u, u, u, u, u, u, u, u, u, u, u, u, u, u, u, u, u, u, u, u, u, u, u, u, u, u, u, u, u, u, x93] 211) H
noncomputable def f43_x4 : KX := BX 0 f43_m2 kx0
noncomputable def f43_y4 : KX := clx 65185151242703554760590262029100101153646988597309960020356494379340201592426774597868716015 f43_x4
noncomputable def f43_n5 : KK := CQ (f43_b [1, 1, 1, 1, 0, 1, 4, 1]) f43_m2 f43_y4 f43_r
noncomputable def rTE_k5 (x0 x1 x4 x5 x6 x7 x93 x97 : Value) (H : AH) : OV := f43_n5 (ls [x0, x1, u, u, x4, x5, x6, x7, u, u, u, u, u, u, u, u, u, u, u, u, u, u, u, u, u, u, u, u, u, u, u, u, u, u, u, u, u, u, u, u, u, u, u, u, u, u, u, u, u, u, u, u, u, u, u, u, u, u, u, u, u, u, u, u, u, u, u, u, u, u, u, u, u, u, u, u, u, u, u, u, u, u, u, u, u, u, u, u, u, u, u, u, u, x93, u, u, u, x97] 207) H
noncomputable def f43_n11 : KK := CQ (f43_b [1, 1, 1, 1, 0, 1, 4, 1, 3, 1]) f43_m2 f43_y4 f43_r
noncomputable def rTE_k11 (x0 x1 x4 x5 x6 x7 x93 x112 : Value) (H : AH) : OV := f43_n11 (ls [x0, x1, u, u, x4, x5, x6, x7, u, u, u, u, u, u, u, u, u, u, u, u, u, u, u, u, u, u, u, u, u, u, u, u, u, u, u, u, u, u, u, u, u, u, u, u, u, u, u, u, u, u, u, u, u, u, u, u, u, u, u, u, u, u, u, u, u, u, u, u, u, u, u, u, u, u, u, u, u, u, u, u, u, u, u, u, u, u, u, u, u, u, u, u, u, x93, u, u, u, u, u, u, u, u, u, u, u, u, u, u, u, u, u, u, x112] 192) H
noncomputable def f43_n18 : KK := CQ (f43_b [1, 1, 1, 1, 0, 1, 4, 1, 3, 1, 3, 1]) f43_m2 f43_y4 f43_r
noncomputable def rTE_k18 (x0 x1 x4 x5 x6 x7 x93 x133 : Value) (H : AH) : OV := f43_n18 (ls [x0, x1, u, u, x4, x5, x6, x7, u, u, u, u, u, u, u, u, u, u, u, u, u, u, u, u, u, u, u, u, u, u, u, u, u, u, u, u, u, u, u, u, u, u, u, u, u, u, u, u, u, u, u, u, u, u, u, u, u, u, u, u, u, u, u, u, u, u, u, u, u, u, u, u, u, u, u, u, u, u, u, u, u, u, u, u, u, u, u, u, u, u, u, u, u, x93, u, u, u, u, u, u, u, u, u, u, u, u, u, u, u, u, u, u, u, u, u, u, u, u, u, u, u, u, u, u, u, u, u, u, u, u, u, u, u, x133] 171) H
noncomputable def f43_n25 : KK := CQ (f43_b [1, 1, 1, 1, 0, 1, 4, 1, 3, 1, 3, 1, 3, 1]) f43_m2 f43_y4 f43_r
noncomputable def rTE_k25 (x0 x1 x4 x5 x6 x7 x93 x151 : Value) (H : AH) : OV := f43_n25 (ls [x0, x1, u, u, x4, x5, x6, x7, u, u, u, u, u, u, u, u, u, u, u, u, u, u, u, u, u, u, u, u, u, u, u, u, u, u, u, u, u, u, u, u, u, u, u, u, u, u, u, u, u, u, u, u, u, u, u, u, u, u, u, u, u, u, u, u, u, u, u, u, u, u, u, u, u, u, u, u, u, u, u, u, u, u, u, u, u, u, u, u, u, u, u, u, u, x93, u, u, u, u, u, u, u, u, u, u, u, u, u, u, u, u, u, u, u, u, u, u, u, u, u, u, u, u, u, u, u, u, u, u, u, u, u, u, u, u, u, u, u, u, u, u, u, u, u, u, u, u, u, u, u, u, u, x151] 153) H
noncomputable def f43_n32 : KK := CQ (f43_b [1, 1, 1, 1, 0, 1, 4, 1, 3, 1, 3, 1, 3, 1, 3, 1]) f43_m2 f43_y4 f43_r
noncomputable def rTE_k32 (x0 x1 x4 x5 x6 x7 x93 x171 : Value) (H : AH) : OV := f43_n32 (ls [x0, x1, u, u, x4, x5, x6, x7, u, u, u, u, u, u, u, u, u, u, u, u, u, u, u, u, u, u, u, u, u, u, u, u, u, u, u, u, u, u, u, u, u, u, u, u, u, u, u, u, u, u, u, u, u, u, u, u, u, u, u, u, u, u, u, u, u, u, u, u, u, u, u, u, u, u, u, u, u, u, u, u, u, u, u, u, u, u, u, u, u, u, u, u, u, x93, u, u, u, u, u, u, u, u, u, u, u, u, u, u, u, u, u, u, u, u, u, u, u, u, u, u, u, u, u, u, u, u, u, u, u, u, u, u, u, u, u, u, u, u, u, u, u, u, u, u, u, u, u, u, u, u, u, u, u, u, u, u, u, u, u, u, u, u, u, u, u, u, u, u, u, u, u, x171] 133) H
noncomputable def f43_n37 : KK := CQ (f43_b [1, 1, 1, 1, 0, 1, 4, 1, 3, 1, 3, 1, 3, 1, 3, 1, 3, 1]) f43_m2 f43_y4 f43_r
noncomputable def rTE_k37 (x0 x1 x4 x5 x6 x7 x93 x186 : Value) (H : AH) : OV := f43_n37 (ls [x0, x1, u, u, x4, x5, x6, x7, u, u, u, u, u, u, u, u, u, u, u, u, u, u, u, u, u, u, u, u, u, u, u, u, u, u, u, u, u, u, u, u, u, u, u, u, u, u, u, u, u, u, u, u, u, u, u, u, u, u, u, u, u, u, u, u, u, u, u, u, u, u, u, u, u, u, u, u, u, u, u, u, u, u, u, u, u, u, u, u, u, u, u, u, u, x93, u, u, u, u, u, u, u, u, u, u, u, u, u, u, u, u, u, u, u, u, u, u, u, u, u, u, u, u, u, u, u, u, u, u, u, u, u, u, u, u, u, u, u, u, u, u, u, u, u, u, u, u, u, u, u, u, u, u, u, u, u, u, u, u, u, u, u, u, u, u, u, u, u, u, u, u, u, u, u, u, u, u, u, u, u, u, u, u, u, u, u, u, x186] 118) H
noncomputable def f43_n42 : KK := CQ (f43_b [1, 1, 1, 1, 0, 1, 4, 1, 3, 1, 3, 1, 3, 1, 3, 1, 3, 1, 3, 1]) f43_m2 f43_y4 f43_r
noncomputable def rTE_k42 (x0 x1 x4 x5 x6 x7 x93 x197 : Value) (H : AH) : OV := f43_n42 (ls [x0, x1, u, u, x4, x5, x6, x7, u, u, u, u, u, u, u, u, u, u, u, u, u, u, u, u, u, u, u, u, u, u, u, u, u, u, u, u, u, u, u, u, u, u, u, u, u, u, u, u, u, u, u, u, u, u, u, u, u, u, u, u, u, u, u, u, u, u, u, u, u, u, u, u, u, u, u, u, u, u, u, u, u, u, u, u, u, u, u, u, u, u, u, u, u, x93, u, u, u, u, u, u, u, u, u, u, u, u, u, u, u, u, u, u, u, u, u, u, u, u, u, u, u, u, u, u, u, u, u, u, u, u, u, u, u, u, u, u, u, u, u, u, u, u, u, u, u, u, u, u, u, u, u, u, u, u, u, u, u, u, u, u, u, u, u, u, u, u, u, u, u, u, u, u, u, u, u, u, u, u, u, u, u, u, u, u, u, u, u, u, u, u, u, u, u, u, u, u, u, x197] 107) H
noncomputable def f43_n43 : KK := CQ (f43_b [1, 1, 1, 1, 0, 1, 4, 1, 3, 1, 3, 1, 3, 1, 3, 1, 3, 1, 3, 1, 2, 1, 1]) f43_m2 f43_y4 f43_r
noncomputable def rTE_k43 (x0 x4 x13 : Value) (H : AH) : OV := f43_n43 (ls [x0, u, u, u, x4, u, u, u, u, u, u, u, u, x13] 291) H
noncomputable def f43_x44 : KX := BX 1 f43_m2 f43_y4
noncomputable def f43_n65 : KK := CQ (f43_b [1, 1, 1, 1, 0, 1, 4, 1, 3, 1, 3, 1, 3, 1, 3, 1, 3, 1, 3, 1, 3, 1]) f43_m2 f43_y4 f43_r
noncomputable def rTE_k65 (x0 x1 x4 x5 x6 x7 x93 x242 : Value) (H : AH) : OV := f43_n65 (ls [x0, x1, u, u, x4, x5, x6, x7, u, u, u, u, u, u, u, u, u, u, u, u, u, u, u, u, u, u, u, u, u, u, u, u, u, u, u, u, u, u, u, u, u, u, u, u, u, u, u, u, u, u, u, u, u, u, u, u, u, u, u, u, u, u, u, u, u, u, u, u, u, u, u, u, u, u, u, u, u, u, u, u, u, u, u, u, u, u, u, u, u, u, u, u, u, x93, u, u, u, u, u, u, u, u, u, u, u, u, u, u, u, u, u, u, u, u, u, u, u, u, u, u, u, u, u, u, u, u, u, u, u, u, u, u, u, u, u, u, u, u, u, u, u, u, u, u, u, u, u, u, u, u, u, u, u, u, u, u, u, u, u, u, u, u, u, u, u, u, u, u, u, u, u, u, u, u, u, u, u, u, u, u, u, u, u, u, u, u, u, u, u, u, u, u, u, u, u, u, u, u, u, u, u, u, u, u, u, u, u, u, u, u, u, u, u, u, u, u, u, u, u, u, u, u, u, u, u, u, u, u, u, u, u, u, u, u, u, u, u, u, u, u, u, u, x242] 62) H
noncomputable def f43_n67 : KK := CQ (f43_b [1, 1, 1, 1, 0, 1, 4, 1, 3, 1, 3, 1, 3, 1, 3, 1, 3, 1, 3, 1, 3, 1, 3, 1]) f43_m2 f43_y4 f43_r
noncomputable def rTE_k67 (x0 x1 x4 x5 x6 x7 x93 x248 : Value) (H : AH) : OV := f43_n67 (ls [x0, x1, u, u, x4, x5, x6, x7, u, u, u, u, u, u, u, u, u, u, u, u, u, u, u, u, u, u, u, u, u, u, u, u, u, u, u, u, u, u, u, u, u, u, u, u, u, u, u, u, u, u, u, u, u, u, u, u, u, u, u, u, u, u, u, u, u, u, u, u, u, u, u, u, u, u, u, u, u, u, u, u, u, u, u, u, u, u, u, u, u, u, u, u, u, x93, u, u, u, u, u, u, u, u, u, u, u, u, u, u, u, u, u, u, u, u, u, u, u, u, u, u, u, u, u, u, u, u, u, u, u, u, u, u, u, u, u, u, u, u, u, u, u, u, u, u, u, u, u, u, u, u, u, u, u, u, u, u, u, u, u, u, u, u, u, u, u, u, u, u, u, u, u, u, u, u, u, u, u, u, u, u, u, u, u, u, u, u, u, u, u, u, u, u, u, u, u, u, u, u, u, u, u, u, u, u, u, u, u, u, u, u, u, u, u, u, u, u, u, u, u, u, u, u, u, u, u, u, u, u, u, u, u, u, u, u, u, u, u, u, u, u, u, u, u, u, u, u, u, u, x248] 56) H
noncomputable def f43_n78 : KK := CQ (f43_b [1, 1, 1, 1, 0, 1, 4, 1, 3, 1, 3, 1, 3, 1, 3, 1, 3, 1, 3, 1, 3, 1, 3, 1, 3, 1]) f43_m2 f43_y4 f43_r
noncomputable def rTE_k78 (x0 x1 x4 x5 x6 x93 x272 : Value) (H : AH) : OV := f43_n78 (ls [x0, x1, u, u, x4, x5, x6, u, u, u, u, u, u, u, u, u, u, u, u, u, u, u, u, u, u, u, u, u, u, u, u, u, u, u, u, u, u, u, u, u, u, u, u, u, u, u, u, u, u, u, u, u, u, u, u, u, u, u, u, u, u, u, u, u, u, u, u, u, u, u, u, u, u, u, u, u, u, u, u, u, u, u, u, u, u, u, u, u, u, u, u, u, u, x93, u, u, u, u, u, u, u, u, u, u, u, u, u, u, u, u, u, u, u, u, u, u, u, u, u, u, u, u, u, u, u, u, u, u, u, u, u, u, u, u, u, u, u, u, u, u, u, u, u, u, u, u, u, u, u, u, u, u, u, u, u, u, u, u, u, u, u, u, u, u, u, u, u, u, u, u, u, u, u, u, u, u, u, u, u, u, u, u, u, u, u, u, u, u, u, u, u, u, u, u, u, u, u, u, u, u, u, u, u, u, u, u, u, u, u, u, u, u, u, u, u, u, u, u, u, u, u, u, u, u, u, u, u, u, u, u, u, u, u, u, u, u, u, u, u, u, u, u, u, u, u, u, u, u, u, u, u, u, u, u, u, u, u, u, u, u, u, u, u, u, u, u, u, u, u, u, u, u, x272] 32) H
noncomputable def f43_n84 : KK := CQ (f43_b [1, 1, 1, 1, 0, 1, 4, 1, 3, 1, 3, 1, 3, 1, 3, 1, 3, 1, 3, 1, 3, 1, 3, 1, 3, 1, 3, 1]) f43_m2 f43_y4 f43_r
noncomputable def rTE_k84 (x0 x1 x4 x5 x6 x93 x283 : Value) (H : AH) : OV := f43_n84 (ls [x0, x1, u, u, x4, x5, x6, u, u, u, u, u, u, u, u, u, u, u, u, u, u, u, u, u, u, u, u, u, u, u, u, u, u, u, u, u, u, u, u, u, u, u, u, u, u, u, u, u, u, u, u, u, u, u, u, u, u, u, u, u, u, u, u, u, u, u, u, u, u, u, u, u, u, u, u, u, u, u, u, u, u, u, u, u, u, u, u, u, u, u, u, u, u, x93, u, u, u, u, u, u, u, u, u, u, u, u, u, u, u, u, u, u, u, u, u, u, u, u, u, u, u, u, u, u, u, u, u, u, u, u, u, u, u, u, u, u, u, u, u, u, u, u, u, u, u, u, u, u, u, u, u, u, u, u, u, u, u, u, u, u, u, u, u, u, u, u, u, u, u, u, u, u, u, u, u, u, u, u, u, u, u, u, u, u, u, u, u, u, u, u, u, u, u, u, u, u, u, u, u, u, u, u, u, u, u, u, u, u, u, u, u, u, u, u, u, u, u, u, u, u, u, u, u, u, u, u, u, u, u, u, u, u, u, u, u, u, u, u, u, u, u, u, u, u, u, u, u, u, u, u, u, u, u, u, u, u, u, u, u, u, u, u, u, u, u, u, u, u, u, u, u, u, u, u, u, u, u, u, u, u, u, u, u, x283] 21) H
noncomputable def f43_n89 : KK := CQ (f43_b [1, 1, 1, 1, 0, 1, 4, 1, 3, 1, 3, 1, 3, 1, 3, 1, 3, 1, 3, 1, 3, 1, 3, 1, 3, 1, 3, 1, 3, 1]) f43_m2 f43_y4 f43_r
noncomputable def rTE_k89 (x0 x1 x4 x6 x297 : Value) (H : AH) : OV := f43_n89 (ls [x0, x1, u, u, x4, u, x6, u, u, u, u, u, u, u, u, u, u, u, u, u, u, u, u, u, u, u, u, u, u, u, u, u, u, u, u, u, u, u, u, u, u, u, u, u, u, u, u, u, u, u, u, u, u, u, u, u, u, u, u, u, u, u, u, u, u, u, u, u, u, u, u, u, u, u, u, u, u, u, u, u, u, u, u, u, u, u, u, u, u, u, u, u, u, u, u, u, u, u, u, u, u, u, u, u, u, u, u, u, u, u, u, u, u, u, u, u, u, u, u, u, u, u, u, u, u, u, u, u, u, u, u, u, u, u, u, u, u, u, u, u, u, u, u, u, u, u, u, u, u, u, u, u, u, u, u, u, u, u, u, u, u, u, u, u, u, u, u, u, u, u, u, u, u, u, u, u, u, u, u, u, u, u, u, u, u, u, u, u, u, u, u, u, u, u, u, u, u, u, u, u, u, u, u, u, u, u, u, u, u, u, u, u, u, u, u, u, u, u, u, u, u, u, u, u, u, u, u, u, u, u, u, u, u, u, u, u, u, u, u, u, u, u, u, u, u, u, u, u, u, u, u, u, u, u, u, u, u, u, u, u, u, u, u, u, u, u, u, u, u, u, u, u, u, u, u, u, u, u, u, u, u, u, u, u, u, u, u, u, u, u, u, u, u, u, u, u, u, x297] 7) H
theorem f43_r_d : Resp 65185151242703554760590262029100101153646988597309960020356494379340201592426774597868716015 f43_r := rf
theorem f43_n0_d : Resp 65185151242703554760590262029100101153646988597309960020356494379340201592426774597868715788 f43_n0 := rc f43_r_d kx0_d f43_r_d
theorem f43_n1_d : Resp 65185151242703554760590262029100101153646988597309960020356494379340201592426774597868715788 f43_n1 := rc f43_r_d kx0_d f43_r_d
theorem f43_n2_d : Resp 65185151242703554760590262029100101153646988597309960020356494379340201592426774597868716015 f43_n2 := rc f43_r_d kx0_d f43_r_d
theorem f43_n3_d : Resp 65185151242703554760590262029100101153646988597309960020356494369436681278143732398675721996 f43_n3 := rc (cd f43_n2_d) kx0_d f43_r_d
theorem f43_x4_d : ∀ i, Resp 65185151242703554760590262029100101153646988597309960020356494379340201592426774597868716015 (f43_x4 i) := rb (cd f43_n2_d) kx0_d
theorem f43_n5_d : Resp 65185151242703554760590262029100101153646988597309960020356494210980356249615057211587821324 f43_n5 := rc (cd f43_n2_d) (cx f43_x4_d) f43_r_d
theorem f43_n11_d : Resp 65185151242703554760590262029100101153646988597309960020351302072578146450515201902346501900 f43_n11 := rc (cd f43_n2_d) (cx f43_x4_d) f43_r_d
theorem f43_n18_d : Resp 65185151242703554760590262029100101153646988597309949131320752899405850450156294582092955404 f43_n18 := rc (cd f43_n2_d) (cx f43_x4_d) f43_r_d
theorem f43_n25_d : Resp 65185151242703554760590262029100101153646988594455464634944574607320109339244742125910228748 f43_n25 := rc (cd f43_n2_d) (cx f43_x4_d) f43_r_d
theorem f43_n32_d : Resp 65185151242703554760590262029100101153643995441956706331180013222899278330519477048827707148 f43_n32 := rc (cd f43_n2_d) (cx f43_x4_d) f43_r_d
theorem f43_n37_d : Resp 65185151242703554760590262029100101055567273981893073085422284631816893526544428578925182732 f43_n37 := rc (cd f43_n2_d) (cx f43_x4_d) f43_r_d
theorem f43_n42_d : Resp 65185151242703554760590262029099900286391456223525517275094951724111366002769509549571309324 f43_n42 := rc (cd f43_n2_d) (cx f43_x4_d) f43_r_d
theorem f43_n43_d : Resp 65185151242703554760590262029100101153646988597309960020356494379340201592426774597868707822 f43_n43 := rc (cd f43_n2_d) (cx f43_x4_d) f43_r_d
theorem f43_x44_d : ∀ i, Resp 65185151242703554760590262029100101153646988597309960020356494379340201592426774597868716015 (f43_x44 i) := rb (cd f43_n2_d) (cx f43_x4_d)
theorem f43_n65_d : Resp 65185151242703554753522873769986563835313798594338285957046558781934205445657307593505242892 f43_n65 := rc (cd f43_n2_d) (cx f43_x4_d) f43_r_d
theorem f43_n67_d : Resp 65185151242703554308277413445833712780322828407122819968520616769278227999012544867765059340 f43_n67 := rc (cd f43_n2_d) (cx f43_x4_d) f43_r_d
theorem f43_n78_d : Resp 65185151235115004400333507845820953080117617868238058305309074364546789052601137534592876428 f43_n78 := rc (cd f43_n2_d) (cx f43_x4_d) f43_r_d
theorem f43_n84_d : Resp 65185135701352416954757694673404846565495735458055247603240324354937403366909450757007736716 f43_n84 := rc (cd f43_n2_d) (cx f43_x4_d) f43_r_d
theorem f43_n89_d : Resp 64930521745661743999806706318048928883515555048101717989026976823170903929956357509595791276 f43_n89 := rc (cd f43_n2_d) (cx f43_x4_d) f43_r_d
theorem rTE_k2_eq (x4 : Value) (H : AH) : rTE_k2 x4 H =
 some ((vb false), H) :=
 (by kernel_rfl)
theorem rTE_k43_eq (x0 x4 x13 : Value) (H : AH) : rTE_k43 x0 x4 x13 H =
 (FF n_r16_Task_ring [x0] H).bind fun r45 =>
 ad [.n, .f 11] x0 fun v46 =>
 (pLd1 v46 r45.2).bind fun v47 =>
 eqK (pLd1 v46 H) (pLd1 v46 r45.2) <|
 ad [.n, .f 12] x0 fun v48 =>
 (pLd1 v48 r45.2).bind fun v49 =>
 eqK (pLd1 v48 H) (pLd1 v48 r45.2) <|
 (FF n_r16_Ring_Full [r45.1, v47, v49] r45.2).bind fun r50 =>
 condK r50.1
 (st 1 [.n, .f 6] x0 (vi 15) r50.2 fun H51 =>
 rTE_k2 x4 H51)
 ((pBin .other .eql x13 (vi 1)).bind fun v52 =>
 condK v52
 (st 1 [.n, .f 6] x0 (vi 9) r50.2 fun H53 =>
 rTE_k2 x4 H53)
 (st 1 [.n, .f 6] x0 (vi 12) r50.2 fun H54 =>
 rTE_k2 x4 H54)) :=
 (bt rfl (f43_b [1, 1, 1, 1, 0, 1, 4, 1, 3, 1, 3, 1, 3, 1, 3, 1, 3, 1, 3, 1, 2, 1, 1, 4]) 1 f43_x44_d (by kernel_rfl))
theorem rTE_k89_eq (x0 x1 x4 x6 x297 : Value) (H : AH) : rTE_k89 x0 x1 x4 x6 x297 H =
 condK x297
 ((FF n_rTf [x0, x1] H).bind fun r90 =>
 some (r90.1, r90.2))
 ((FF n_rTw [x0, x6] H).bind fun r91 =>
 some (r91.1, r91.2)) :=
 (by kernel_rfl)
theorem rTE_k84_eq (x0 x1 x4 x5 x6 x93 x283 : Value) (H : AH) : rTE_k84 x0 x1 x4 x5 x6 x93 x283 H =
 condK x283
 (ld [.n, .f 6] x5 H fun v85 =>
 ld [.n, .f 1] x0 H fun v86 =>
 (FF n_r16_Inbox_Begin [v85, v86] H).bind fun r87 =>
 st 1 [.n, .f 6] x0 (vi 13) r87.2 fun H88 =>
 rTE_k2 x4 H88)
 ((pBin .other .eql x93 (vi 15)).bind fun v92 =>
 condK v92
 (rTE_k89 x0 x1 x4 x6 v92 H)
 ((pBin .other .eql x93 (vi 16)).bind fun v93 =>
 condK v93
 (rTE_k89 x0 x1 x4 x6 v93 H)
 ((pBin .other .eql x93 (vi 17)).bind fun v94 =>
 condK v94
 (rTE_k89 x0 x1 x4 x6 v94 H)
 ((pBin .other .eql x93 (vi 18)).bind fun v95 =>
 rTE_k89 x0 x1 x4 x6 v95 H)))) :=
 (ct rfl (f43_b [1, 1, 1, 1, 0, 1, 4, 1, 3, 1, 3, 1, 3, 1, 3, 1, 3, 1, 3, 1, 3, 1, 3, 1, 3, 1, 3, 1, 2]) (f43_b [1, 1, 1, 1, 0, 1, 4, 1, 3, 1, 3, 1, 3, 1, 3, 1, 3, 1, 3, 1, 3, 1, 3, 1, 3, 1, 3, 1, 3]) (.tmp 283) (by kernel_rfl) (pt rfl 0 f43_n89_d (by kernel_rfl)))
theorem rTE_k78_eq (x0 x1 x4 x5 x6 x93 x272 : Value) (H : AH) : rTE_k78 x0 x1 x4 x5 x6 x93 x272 H =
 condK x272
 ((FF n_r16_Task_ring [x0] H).bind fun r79 =>
 ad [.n, .f 1] x0 fun v80 =>
 (pLd1 v80 r79.2).bind fun v81 =>
 eqK (pLd1 v80 H) (pLd1 v80 r79.2) <|
 (FF n_r16_Task_count [x0] r79.2).bind fun r82 =>
 eqK (pLd1 v80 r82.2) (pLd1 v80 r79.2) <|
 (FF n_r16_Ring_Show [r79.1, v81, r82.1] r82.2).bind fun r83 =>
 some ((vb true), r83.2))
 ((pBin .other .eql x93 (vi 12)).bind fun v96 =>
 rTE_k84 x0 x1 x4 x5 x6 x93 v96 H) :=
 (ct rfl (f43_b [1, 1, 1, 1, 0, 1, 4, 1, 3, 1, 3, 1, 3, 1, 3, 1, 3, 1, 3, 1, 3, 1, 3, 1, 3, 1, 2]) (f43_b [1, 1, 1, 1, 0, 1, 4, 1, 3, 1, 3, 1, 3, 1, 3, 1, 3, 1, 3, 1, 3, 1, 3, 1, 3, 1, 3]) (.tmp 272) (by kernel_rfl) (pt rfl 0 f43_n84_d (by kernel_rfl)))
theorem rTE_k67_eq (x0 x1 x4 x5 x6 x7 x93 x248 : Value) (H : AH) : rTE_k67 x0 x1 x4 x5 x6 x7 x93 x248 H =
 condK x248
 ((FF n_r16_Task_ring [x0] H).bind fun r68 =>
 ad [.n, .f 1] x0 fun v69 =>
 (pLd1 v69 r68.2).bind fun v70 =>
 eqK (pLd1 v69 H) (pLd1 v69 r68.2) <|
 (FF n_r16_Task_count [x0] r68.2).bind fun r71 =>
 eqK (pLd1 v69 r71.2) (pLd1 v69 r68.2) <|
 (pLdN 3 x7 r71.2).bind fun v72 =>
 eqK (pLdN 3 x7 H) (pLdN 3 x7 r71.2) <|
 eqK (pLdN 3 x7 r68.2) (pLdN 3 x7 r71.2) <|
 (FF n_r16_Ring_Put [r68.1, v70, r71.1, v72] r71.2).bind fun r73 =>
 st 1 [.n, .f 6] x0 (vi 11) r73.2 fun H74 =>
 ld [.n, .f 13] x0 H74 fun v75 =>
 (pBin .other .eql v75 (vw 1)).bind fun v76 =>
 condK v76
 (st 1 [.n, .f 6] x0 (vi 21) H74 fun H77 =>
 rTE_k2 x4 H77)
 (rTE_k2 x4 H74))
 ((pBin .other .eql x93 (vi 11)).bind fun v97 =>
 rTE_k78 x0 x1 x4 x5 x6 x93 v97 H) :=
 (ct rfl (f43_b [1, 1, 1, 1, 0, 1, 4, 1, 3, 1, 3, 1, 3, 1, 3, 1, 3, 1, 3, 1, 3, 1, 3, 1, 2]) (f43_b [1, 1, 1, 1, 0, 1, 4, 1, 3, 1, 3, 1, 3, 1, 3, 1, 3, 1, 3, 1, 3, 1, 3, 1, 3]) (.tmp 248) (by kernel_rfl) (pt rfl 0 f43_n78_d (by kernel_rfl)))
theorem rTE_k65_eq (x0 x1 x4 x5 x6 x7 x93 x242 : Value) (H : AH) : rTE_k65 x0 x1 x4 x5 x6 x7 x93 x242 H =
 condK x242
 ((FF n_r16_Task_claim [x0, x1] H).bind fun r66 =>
 rTE_k2 x4 r66.2)
 ((pBin .other .eql x93 (vi 10)).bind fun v98 =>
 condK v98
 (rTE_k67 x0 x1 x4 x5 x6 x7 x93 v98 H)
 ((pBin .other .eql x93 (vi 14)).bind fun v99 =>
 rTE_k67 x0 x1 x4 x5 x6 x7 x93 v99 H)) :=
 (ct rfl (f43_b [1, 1, 1, 1, 0, 1, 4, 1, 3, 1, 3, 1, 3, 1, 3, 1, 3, 1, 3, 1, 3, 1, 2]) (f43_b [1, 1, 1, 1, 0, 1, 4, 1, 3, 1, 3, 1, 3, 1, 3, 1, 3, 1, 3, 1, 3, 1, 3]) (.tmp 242) (by kernel_rfl) (pt rfl 0 f43_n67_d (by kernel_rfl)))
theorem rTE_k42_eq (x0 x1 x4 x5 x6 x7 x93 x197 : Value) (H : AH) : rTE_k42 x0 x1 x4 x5 x6 x7 x93 x197 H =
 condK x197
 ((FF n_r16_Task_ring [x0] H).bind fun r55 =>
 ad [.n, .f 1] x0 fun v56 =>
 (pLd1 v56 r55.2).bind fun v57 =>
 eqK (pLd1 v56 H) (pLd1 v56 r55.2) <|
 (FF n_r16_Ring_Head [r55.1, v57] r55.2).bind fun r58 =>
 st 1 [.n, .f 12] x0 r58.1 r58.2 fun H59 =>
 ld [.n, .f 11] x0 H59 fun v60 =>
 (FF n_r01_Parts [v60] H59).bind fun r61 =>
 (pExtract r61.1 0).bind fun v62 =>
 (pExtract r61.1 1).bind fun v63 =>
 (pExtract r61.1 2).bind fun v64 =>
 rTE_k43 x0 x4 v63 r61.2)
 ((pBin .other .eql x93 (vi 9)).bind fun v100 =>
 condK v100
 (rTE_k65 x0 x1 x4 x5 x6 x7 x93 v100 H)
 ((pBin .other .eql x93 (vi 13)).bind fun v101 =>
 rTE_k65 x0 x1 x4 x5 x6 x7 x93 v101 H)) :=
 (ct rfl (f43_b [1, 1, 1, 1, 0, 1, 4, 1, 3, 1, 3, 1, 3, 1, 3, 1, 3, 1, 3, 1, 2]) (f43_b [1, 1, 1, 1, 0, 1, 4, 1, 3, 1, 3, 1, 3, 1, 3, 1, 3, 1, 3, 1, 3]) (.tmp 197) (pt rfl 1 f43_n43_d (by kernel_rfl)) (pt rfl 0 f43_n65_d (by kernel_rfl)))
theorem rTE_k37_eq (x0 x1 x4 x5 x6 x7 x93 x186 : Value) (H : AH) : rTE_k37 x0 x1 x4 x5 x6 x7 x93 x186 H =
 condK x186
 (st 1 [.n, .f 6] x0 (vi 8) H fun H38 =>
 (FF n_r16_Task_word [x0] H38).bind fun r39 =>
 (pBin .other .eql r39.1 (vi 2)).bind fun v40 =>
 condK v40
 (st 1 [.n, .f 6] x0 (vi 3) r39.2 fun H41 =>
 rTE_k2 x4 H41)
 (rTE_k2 x4 r39.2))
 ((pBin .other .eql x93 (vi 8)).bind fun v102 =>
 rTE_k42 x0 x1 x4 x5 x6 x7 x93 v102 H) :=
 (ct rfl (f43_b [1, 1, 1, 1, 0, 1, 4, 1, 3, 1, 3, 1, 3, 1, 3, 1, 3, 1, 2]) (f43_b [1, 1, 1, 1, 0, 1, 4, 1, 3, 1, 3, 1, 3, 1, 3, 1, 3, 1, 3]) (.tmp 186) (by kernel_rfl) (pt rfl 0 f43_n42_d (by kernel_rfl)))
theorem rTE_k32_eq (x0 x1 x4 x5 x6 x7 x93 x171 : Value) (H : AH) : rTE_k32 x0 x1 x4 x5 x6 x7 x93 x171 H =
 condK x171
 (ld [.n, .f 1] x0 H fun v33 =>
 ld [.n, .f 10] x0 H fun v34 =>
 (FF n_r16_Parts_Obj [x5, v33, v34] H).bind fun r35 =>
 st 1 [.n, .f 6] x0 (vi 7) r35.2 fun H36 =>
 rTE_k2 x4 H36)
 ((pBin .other .eql x93 (vi 7)).bind fun v103 =>
 rTE_k37 x0 x1 x4 x5 x6 x7 x93 v103 H) :=
 (ct rfl (f43_b [1, 1, 1, 1, 0, 1, 4, 1, 3, 1, 3, 1, 3, 1, 3, 1, 2]) (f43_b [1, 1, 1, 1, 0, 1, 4, 1, 3, 1, 3, 1, 3, 1, 3, 1, 3]) (.tmp 171) (by kernel_rfl) (pt rfl 0 f43_n37_d (by kernel_rfl)))
theorem rTE_k25_eq (x0 x1 x4 x5 x6 x7 x93 x151 : Value) (H : AH) : rTE_k25 x0 x1 x4 x5 x6 x7 x93 x151 H =
 condK x151
 (ld [.n, .f 7] x5 H fun v26 =>
 ld [.n, .f 1] x0 H fun v27 =>
 (FF n_r16_Table_Unlock [v26, v27, x6] H).bind fun r28 =>
 ld [.n, .f 9] x0 r28.2 fun v29 =>
 (pUn .not v29).bind fun v30 =>
 condK v30
 (some ((vb true), r28.2))
 (st 1 [.n, .f 6] x0 (vi 6) r28.2 fun H31 =>
 rTE_k2 x4 H31))
 ((pBin .other .eql x93 (vi 6)).bind fun v104 =>
 rTE_k32 x0 x1 x4 x5 x6 x7 x93 v104 H) :=
 (ct rfl (f43_b [1, 1, 1, 1, 0, 1, 4, 1, 3, 1, 3, 1, 3, 1, 2]) (f43_b [1, 1, 1, 1, 0, 1, 4, 1, 3, 1, 3, 1, 3, 1, 3]) (.tmp 151) (by kernel_rfl) (pt rfl 0 f43_n32_d (by kernel_rfl)))
theorem rTE_k18_eq (x0 x1 x4 x5 x6 x7 x93 x133 : Value) (H : AH) : rTE_k18 x0 x1 x4 x5 x6 x7 x93 x133 H =
 condK x133
 ((FF n_rTs [x0] H).bind fun r19 =>
 (pExtract r19.1 0).bind fun v20 =>
 (pExtract r19.1 1).bind fun v21 =>
 condK v20
 (st 1 [.n, .f 6] x0 (vi 5) r19.2 fun H22 =>
 rTE_k2 x4 H22)
 (condK v21
 ((FF n_r16_Task_note [x0, x1, (vi 5)] r19.2).bind fun r23 =>
 st 1 [.n, .f 6] x0 (vi 5) r23.2 fun H24 =>
 rTE_k2 x4 H24)
 (rTE_k2 x4 r19.2)))
 ((pBin .other .eql x93 (vi 5)).bind fun v105 =>
 rTE_k25 x0 x1 x4 x5 x6 x7 x93 v105 H) :=
 (ct rfl (f43_b [1, 1, 1, 1, 0, 1, 4, 1, 3, 1, 3, 1, 2]) (f43_b [1, 1, 1, 1, 0, 1, 4, 1, 3, 1, 3, 1, 3]) (.tmp 133) (by kernel_rfl) (pt rfl 0 f43_n25_d (by kernel_rfl)))
theorem rTE_k11_eq (x0 x1 x4 x5 x6 x7 x93 x112 : Value) (H : AH) : rTE_k11 x0 x1 x4 x5 x6 x7 x93 x112 H =
 condK x112
 (ld [.n, .f 7] x5 H fun v12 =>
 ld [.n, .f 1] x0 H fun v13 =>
 (FF n_r16_Table_Lock [v12, v13, x6] H).bind fun r14 =>
 condK r14.1
 (st 1 [.n, .f 6] x0 (vi 4) r14.2 fun H15 =>
 st 1 [.n, .f 7] x0 (vi 0) H15 fun H16 =>
 st 1 [.n, .f 9] x0 (vb false) H16 fun H17 =>
 rTE_k2 x4 H17)
 (rTE_k2 x4 r14.2))
 ((pBin .other .eql x93 (vi 4)).bind fun v106 =>
 rTE_k18 x0 x1 x4 x5 x6 x7 x93 v106 H) :=
 (ct rfl (f43_b [1, 1, 1, 1, 0, 1, 4, 1, 3, 1, 2]) (f43_b [1, 1, 1, 1, 0, 1, 4, 1, 3, 1, 3]) (.tmp 112) (by kernel_rfl) (pt rfl 0 f43_n18_d (by kernel_rfl)))
theorem rTE_k5_eq (x0 x1 x4 x5 x6 x7 x93 x97 : Value) (H : AH) : rTE_k5 x0 x1 x4 x5 x6 x7 x93 x97 H =
 condK x97
 ((FF n_rTs [x0] H).bind fun r6 =>
 (pExtract r6.1 0).bind fun v7 =>
 (pExtract r6.1 1).bind fun v8 =>
 condK v7
 (st 1 [.n, .f 6] x0 (vi 6) r6.2 fun H9 =>
 rTE_k2 x4 H9)
 (condK v8
 (st 1 [.n, .f 6] x0 (vi 3) r6.2 fun H10 =>
 rTE_k2 x4 H10)
 (rTE_k2 x4 r6.2)))
 ((pBin .other .eql x93 (vi 3)).bind fun v107 =>
 rTE_k11 x0 x1 x4 x5 x6 x7 x93 v107 H) :=
 (ct rfl (f43_b [1, 1, 1, 1, 0, 1, 4, 1, 2]) (f43_b [1, 1, 1, 1, 0, 1, 4, 1, 3]) (.tmp 97) (by kernel_rfl) (pt rfl 0 f43_n11_d (by kernel_rfl)))
theorem rTE_k3_eq (x0 x1 x4 x5 x6 x7 x93 : Value) (H : AH) : rTE_k3 x0 x1 x4 x5 x6 x7 x93 H =
 (pBin .other .eql x93 (vi 2)).bind fun v108 =>
 rTE_k5 x0 x1 x4 x5 x6 x7 x93 v108 H :=
 (bt rfl (f43_b [1, 1, 1, 1, 0, 1, 4]) 0 f43_x4_d (pt rfl 0 f43_n5_d (by kernel_rfl)))
theorem rTE_k1_eq (x0 x1 x4 x5 x6 x7 : Value) (H : AH) : rTE_k1 x0 x1 x4 x5 x6 x7 H =
 ld [.n, .f 6] x0 H fun v109 =>
 rTE_k3 x0 x1 x4 x5 x6 x7 v109 H :=
 (pt rfl 0 f43_n2_d (pt rfl 0 f43_n3_d (by kernel_rfl)))
theorem rTE_k0_eq (x0 x1 x4 x5 x6 x7 : Value) (H : AH) : rTE_k0 x0 x1 x4 x5 x6 x7 H =
 ld [.n, .f 6] x0 H fun v110 =>
 (pBin .other .eql v110 (vi 0)).bind fun v111 =>
 condK v111
 (ld [.n, .f 2, .f 2] x0 H fun v112 =>
 (pBin .other .lss v112 (vi 1)).bind fun v113 =>
 (gV v113 false x0).bind fun v114 =>
 gld v113 false  [.n, .f 2, .f 2] v114 H fun v115 =>
 (gB v113 false (pBin .other .gtr v115 (vi 65536))).bind fun v116 =>
 (pPick v113 (vb true) v116).bind fun v117 =>
 condK v117
 ((FF n_r16_Task_note [x0, x1, (vi 3)] H).bind fun r118 =>
 some ((vb true), r118.2))
 (ld [.n, .f 2, .f 1] x0 H fun v119 =>
 (pBin .other .lss v119 (vi 0)).bind fun v120 =>
 (gV v120 false x0).bind fun v121 =>
 gld v120 false  [.n, .f 2, .f 1] v121 H fun v122 =>
 (gB v120 false (pBin .other .gtr v122 (vi 1048576))).bind fun v123 =>
 (pPick v120 (vb true) v123).bind fun v124 =>
 condK v124
 ((FF n_r16_Task_note [x0, x1, (vi 5)] H).bind fun r125 =>
 some ((vb true), r125.2))
 (st 1 [.n, .f 6] x0 (vi 2) H fun H126 =>
 rTE_k1 x0 x1 x4 x5 x6 x7 H126)))
 (rTE_k1 x0 x1 x4 x5 x6 x7 H) :=
 (pt rfl 0 f43_n1_d (by kernel_rfl))
noncomputable def rTE (x0 x1 : Value) (H : AH) : OV := cCode PP GG FF (f43_b []) (ls [x0, x1] 303) H f43_r kx0 f43_r
theorem rTE_of (x0 x1 : Value) (H : AH) {r : Value × AH} (h : (
 ad [.n, .f 0] x0 fun v127 =>
 (pLd1 v127 H).bind fun v128 =>
 ld [.n, .f 0] x0 H fun v129 =>
 ld [.n, .f 7] v129 H fun v130 =>
 ld [.n, .f 2, .f 1] x0 H fun v131 =>
 (FF n_r16_Table_Shard [v130, v131] H).bind fun r132 =>
 eqK (pLd1 v127 r132.2) (pLd1 v127 H) <|
 ld [.n, .f 2, .f 1] x0 r132.2 fun v133 =>
 ld [.n, .f 2, .f 2] x0 r132.2 fun v134 =>
 ld [.n, .f 2, .f 3] x0 r132.2 fun v135 =>
 mkS [(0, 1), (1, 1), (2, 1)] [(vi 0), (vi 0), (vi 0)] [(0, v133), (1, v134), (2, v135)] fun v136 =>
 newK [(vi 0), (vi 0), (vi 0)] r132.2 fun v137 H138 =>
 (pSt 3 v137 v136 H138).bind fun H139 =>
 rTE_k0 x0 x1 (vb false) v128 r132.1 v137 H139) = some r) : FF n_rTE [x0, x1] H = some r :=
 fo (t := rTE x0 x1 H) Tryz.func43 (by kernel_rfl) (Eq.trans (pt rfl 2 f43_n0_d (by kernel_rfl)) h)
theorem l23_Told_of (x0 x1 : Value) (H : AH) {r : Value × AH} (h : (
 newK [(vi 0), (.slice none 0 0), (vi 0), (vw 0)] H fun v0 H1 =>
 condK x1
 (ldN 4 [.n, .f 17] x0 H1 fun v2 =>
 (pSt 4 v0 v2 H1).bind fun H3 =>
 (pLdN 4 v0 H3).bind fun v4 => some (v4, H3))
 (mkS [(0, 1), (1, 1), (2, 1), (3, 1)] [(vi 0), (.slice none 0 0), (vi 0), (vw 0)] [] fun v5 =>
 (pSt 4 v0 v5 H1).bind fun H6 =>
 (pLdN 4 v0 H6).bind fun v7 => some (v7, H6))) = some r) : FF n_l23_Told [x0, x1] H = some r :=
 fo Tryz.func44 (by kernel_rfl) h
theorem help_Plainapi_Event_of (x0 x1 : Value) (H : AH) {r : Value × AH} (h : (
 (FF n_hS_Event [x0, x1, (.func (.func n_help_Plainapi_Event_1) #[] #[])] H).bind fun r0 =>
 some (r0.1, r0.2)) = some r) : FF n_help_Plainapi_Event [x0, x1] H = some r :=
 fo Tryz.func45 (by kernel_rfl) h
theorem mem_Mem_Events_of (x0 : Value) (H : AH) {r : Value × AH} (h : (
 ld [.n, .f 1] x0 H fun v0 =>
 (FF n_sCe [v0] H).bind fun r1 =>
 some (r1.1, r1.2)) = some r) : FF n_mem_Mem_Events [x0] H = some r :=
 fo Tryz.func46 (by kernel_rfl) h
noncomputable def f47_b (p : List Nat) : Code := Code.sub (bodyOf Tryz.f47) p
noncomputable def f47_r : KK := cFin PP (Tryz.f47).results.toList
noncomputable def f47_n0 : KK := CQ (f47_b [1, 1]) f47_r kx0 f47_r
noncomputable def hS_Point_k0 (x0 x1 x2 x6 : Value) (H : AH) : OV := f47_n0 (ls [x0, x1, x2, u, u, u, x6] 23) H
noncomputable def f47_n1 : KK := CQ (f47_b [1, 1, 1]) f47_r kx0 f47_r
noncomputable def f47_m1 : KK := clr 1073741759 f47_n1
noncomputable def hS_Point_k1 (x6 : Value) (H : AH) : OV := f47_n1 (ls [u, u, u, u, u, u, x6] 23) H
noncomputable def f47_n2 : KK := CQ (f47_b [1, 1, 0, 1]) f47_m1 kx0 f47_r
noncomputable def hS_Point_k2 (x0 x1 x2 x6 x7 : Value) (H : AH) : OV := f47_n2 (ls [x0, x1, x2, u, u, u, x6, x7] 22) H
noncomputable def f47_x3 : KX := BX 0 f47_m1 kx0
noncomputable def f47_y3 : KX := clx 1073741759 f47_x3
noncomputable def f47_n4 : KK := CLq (f47_b [1, 1, 0, 1, 4, 5]) f47_y3 f47_r
noncomputable def f47_m4 : KK := clr 1073741624 f47_n4
noncomputable def hS_Point_k4 (x0 x1 x2 x6 x7 : Value) (H : AH) : OV := f47_n4 (ls [x0, x1, x2, u, u, u, x6, x7] 22) H
noncomputable def f47_n5 : KK := CQ (f47_b [1, 1, 0, 1, 4, 5, 1]) f47_m4 f47_y3 f47_r
noncomputable def hS_Point_k5 (x0 x1 x2 x6 x7 : Value) (H : AH) : OV := f47_n5 (ls [x0, x1, x2, u, u, u, x6, x7] 22) H
noncomputable def f47_n6 : KK := CQ (f47_b [1, 1, 0, 1, 4, 5, 1, 1]) f47_m4 f47_y3 f47_r
noncomputable def f47_m6 : KK := clr 1073741624 f47_n6
noncomputable def hS_Point_k6 (x0 x1 x2 x6 x7 : Value) (H : AH) : OV := f47_n6 (ls [x0, x1, x2, u, u, u, x6, x7] 22) H
noncomputable def f47_x8 : KX := BX 1 f47_m6 f47_y3
noncomputable def hS_Point_e3_0 (x6 : Value) (H : AH) : OV := f47_x3 0 (ls [u, u, u, u, u, u, x6] 23) H
theorem f47_r_d : Resp 1073741759 f47_r := rf
theorem f47_n0_d : Resp 1073741752 f47_n0 := rc f47_r_d kx0_d f47_r_d
theorem f47_n1_d : Resp 1073741759 f47_n1 := rc f47_r_d kx0_d f47_r_d
theorem f47_n2_d : Resp 1073741624 f47_n2 := rc (cd f47_n1_d) kx0_d f47_r_d
theorem f47_x3_d : ∀ i, Resp 1073741759 (f47_x3 i) := rb (cd f47_n1_d) kx0_d
theorem f47_n4_d : Resp 1073741624 f47_n4 := rl (cx f47_x3_d) f47_r_d
theorem f47_n5_d : Resp 1073741624 f47_n5 := rc (cd f47_n4_d) (cx f47_x3_d) f47_r_d
theorem f47_n6_d : Resp 1073741624 f47_n6 := rc (cd f47_n4_d) (cx f47_x3_d) f47_r_d
theorem f47_x8_d : ∀ i, Resp 1073741624 (f47_x8 i) := rb (cd f47_n6_d) (cx f47_x3_d)
theorem hS_Point_k1_eq (x6 : Value) (H : AH) : hS_Point_k1 x6 H =
 some ((vb true), H) :=
 (by kernel_rfl)
theorem hS_Point_k6_eq (x0 x1 x2 x6 x7 : Value) (H : AH) : hS_Point_k6 x0 x1 x2 x6 x7 H =
 (pBin .other .add x7 (vi 1)).bind fun v7 =>
 hS_Point_k4 x0 x1 x2 x6 v7 H :=
 (by kernel_rfl)
theorem hS_Point_k5_eq (x0 x1 x2 x6 x7 : Value) (H : AH) : hS_Point_k5 x0 x1 x2 x6 x7 H =
 ldN 7 [.i 7 x7] x0 H fun v9 =>
 ldN 7 [.i 7 x7] x1 H fun v10 =>
 (pCallee x2 [v9, v10]).bind fun c => (FF c.1 c.2 H).bind fun r11 =>
 (pUn .not r11.1).bind fun v12 =>
 condK v12
 (some ((vb false), r11.2))
 (hS_Point_k6 x0 x1 x2 x6 x7 r11.2) :=
 (pt rfl 0 f47_n6_d (bt rfl (f47_b [1, 1, 0, 1, 4, 5, 1, 0, 4]) 1 f47_x8_d (by kernel_rfl)))
theorem hS_Point_e3_0_eq (x6 : Value) (H : AH) : hS_Point_e3_0 x6 H = hS_Point_k1 x6 H :=
 (by kernel_rfl)
theorem hS_Point_k4_eq (x0 x1 x2 x6 x7 : Value) (H : AH) : hS_Point_k4 x0 x1 x2 x6 x7 H =
 lenK x0 fun v13 =>
 (pBin .other .lss x7 v13).bind fun v14 =>
 condK v14
 (hS_Point_k5 x0 x1 x2 x6 x7 H)
 (hS_Point_e3_0 x6 H) :=
 lt' rfl f47_n4_d (pt rfl 0 f47_n5_d (by kernel_rfl))
theorem hS_Point_k2_eq (x0 x1 x2 x6 x7 : Value) (H : AH) : hS_Point_k2 x0 x1 x2 x6 x7 H =
 hS_Point_k4 x0 x1 x2 x6 x7 H :=
 (bt rfl (f47_b [1, 1, 0, 1, 4]) 0 f47_x3_d (li rfl (f47_b [1, 1, 0, 1, 4, 5]) f47_n4_d (by kernel_rfl)))
theorem hS_Point_k0_eq (x0 x1 x2 x6 : Value) (H : AH) : hS_Point_k0 x0 x1 x2 x6 H =
 hS_Point_k2 x0 x1 x2 x6 (vi 0) H :=
 (pt rfl 0 f47_n1_d (pt rfl 0 f47_n2_d (by kernel_rfl)))
noncomputable def hS_Point (x0 x1 x2 : Value) (H : AH) : OV := cCode PP GG FF (f47_b []) (ls [x0, x1, x2] 27) H f47_r kx0 f47_r
theorem hS_Point_of (x0 x1 x2 : Value) (H : AH) {r : Value × AH} (h : (
 lenK x0 fun v15 =>
 lenK x1 fun v16 =>
 (pBin .other .neq v15 v16).bind fun v17 =>
 condK v17
 (some ((vb false), H))
 (hS_Point_k0 x0 x1 x2 (vb false) H)) = some r) : FF n_hS_Point [x0, x1, x2] H = some r :=
 fo (t := hS_Point x0 x1 x2 H) Tryz.func47 (by kernel_rfl) (Eq.trans (pt rfl 1 f47_n0_d (by kernel_rfl)) h)
noncomputable def f71_b (p : List Nat) : Code := Code.sub (bodyOf Tryz.f71) p
noncomputable def f71_r : KK := cFin PP (Tryz.f71).results.toList
noncomputable def f71_n0 : KK := CQ (f71_b [1, 1]) f71_r kx0 f71_r
noncomputable def eE_scan_k0 (x0 x4 x5 x6 : Value) (H : AH) : OV := f71_n0 (ls [x0, u, u, u, x4, x5, x6] 27) H
noncomputable def f71_n1 : KK := CQ (f71_b [1, 1, 1]) f71_r kx0 f71_r
noncomputable def f71_m1 : KK := clr 17179869134 f71_n1
noncomputable def eE_scan_k1 (x0 x4 x5 : Value) (H : AH) : OV := f71_n1 (ls [x0, u, u, u, x4, x5] 28) H
noncomputable def f71_x7 : KX := BX 0 f71_m1 kx0
theorem f71_r_d : Resp 17179869135 f71_r := rf
theorem f71_n0_d : Resp 17179869070 f71_n0 := rc f71_r_d kx0_d f71_r_d
theorem f71_n1_d : Resp 17179869134 f71_n1 := rc f71_r_d kx0_d f71_r_d
theorem f71_x7_d : ∀ i, Resp 17179869134 (f71_x7 i) := rb (cd f71_n1_d) kx0_d
theorem eE_scan_k1_eq (x0 x4 x5 : Value) (H : AH) : eE_scan_k1 x0 x4 x5 H =
 (FF n_eE_on [x0, (.func (.func n_eE_scan) #[x0] #[])] H).bind fun r2 =>
 (pExtract r2.1 0).bind fun v3 =>
 (pExtract r2.1 1).bind fun v4 =>
 (pSt 4 x4 v3 r2.2).bind fun H5 =>
 (pLdN 4 x4 H5).bind fun v6 => some (Value.tuple #[v6, v4], H5) :=
 (by kernel_rfl)
theorem eE_scan_k0_eq (x0 x4 x5 x6 : Value) (H : AH) : eE_scan_k0 x0 x4 x5 x6 H =
 ld [.n, .f 10] x0 H fun v8 =>
 condK v8
 ((FF n_eE_on [x0, (.func (.func n_eE_look) #[x0] #[])] H).bind fun r9 =>
 (pExtract r9.1 0).bind fun v10 =>
 (pExtract r9.1 1).bind fun v11 =>
 (pSt 4 x4 v10 r9.2).bind fun H12 =>
 (pLdN 4 x4 H12).bind fun v13 => some (Value.tuple #[v13, v11], H12))
 (condK x6
 ((FF n_eE_on [x0, (.func (.func n_eE_lock) #[x0] #[])] H).bind fun r14 =>
 (pExtract r14.1 0).bind fun v15 =>
 (pExtract r14.1 1).bind fun v16 =>
 (pSt 4 x4 v15 r14.2).bind fun H17 =>
 (pLdN 4 x4 H17).bind fun v18 => some (Value.tuple #[v18, v16], H17))
 (eE_scan_k1 x0 x4 x5 H)) :=
 (pt rfl 0 f71_n1_d (bt rfl (f71_b [1, 1, 0, 4]) 0 f71_x7_d (by kernel_rfl)))
noncomputable def eE_scan (x0 x1 : Value) (H : AH) : OV := cCode PP GG FF (f71_b []) (ls [x0, x1] 32) H f71_r kx0 f71_r
theorem eE_scan_of (x0 x1 : Value) (H : AH) {r : Value × AH} (h : (
 newK [(vi 0), (.slice none 0 0), (vi 0), (vw 0)] H fun v19 H20 =>
 (FF n_eE_hit [x0] H20).bind fun r21 =>
 eE_scan_k0 x0 v19 (vb false) r21.1 r21.2) = some r) : FF n_eE_scan [x0, x1] H = some r :=
 fo (t := eE_scan x0 x1 H) Tryz.func71 (by kernel_rfl) (Eq.trans (pt rfl 1 f71_n0_d (by kernel_rfl)) h)
theorem cmp_Compareint_of (x0 x1 : Value) (H : AH) {r : Value × AH} (h : (
 (FF n_cmp_isNaNint [x0] H).bind fun r0 =>
 (FF n_cmp_isNaNint [x1] r0.2).bind fun r1 =>
 condK r0.1
 (condK r1.1
 (some ((vi 0), r1.2))
 (some ((vi (-1)), r1.2)))
 (condK r1.1
 (some ((vi 1), r1.2))
 ((pBin .other .lss x0 x1).bind fun v2 =>
 condK v2
 (some ((vi (-1)), r1.2))
 ((pBin .other .gtr x0 x1).bind fun v3 =>
 condK v3
 (some ((vi 1), r1.2))
 (some ((vi 0), r1.2)))))) = some r) : FF n_cmp_Compareint [x0, x1] H = some r :=
 fo Tryz.func73 (by kernel_rfl) h
theorem r16_Parts_Begin_of (x0 x1 x2 : Value) (H : AH) {r : Value × AH} (h : (
 ld [.n, .f 12] x0 H fun v0 =>
 mkR 2 1 [(vi 0)] [(0, x1), (1, x2)] H fun v1 H2 =>
 (pApp 1 8 v0 v1 H2).bind fun r3 =>
 st 1 [.n, .f 12] x0 r3.1 r3.2 fun H4 =>
 some (Value.tuple #[], H4)) = some r) : FF n_r16_Parts_Begin [x0, x1, x2] H = some r :=
 fo Tryz.func77 (by kernel_rfl) h
noncomputable def f78_b (p : List Nat) : Code := Code.sub (bodyOf Tryz.f78) p
noncomputable def f78_r : KK := cFin PP (Tryz.f78).results.toList
noncomputable def f78_n0 : KK := CQ (f78_b [1, 1]) f78_r kx0 f78_r
noncomputable def r16_Table_Shard_k0 (x0 x4 x5 : Value) (H : AH) : OV := f78_n0 (ls [x0, u, u, u, x4, x5] 15) H
noncomputable def f78_n1 : KK := CQ (f78_b [1, 1, 1]) f78_r kx0 f78_r
noncomputable def r16_Table_Shard_k1 (x4 x5 : Value) (H : AH) : OV := f78_n1 (ls [u, u, u, u, x4, x5] 15) H
theorem f78_r_d : Resp 2097135 f78_r := rf
theorem f78_n0_d : Resp 2097102 f78_n0 := rc f78_r_d kx0_d f78_r_d
theorem f78_n1_d : Resp 2097103 f78_n1 := rc f78_r_d kx0_d f78_r_d
theorem r16_Table_Shard_k1_eq (x4 x5 : Value) (H : AH) : r16_Table_Shard_k1 x4 x5 H =
 some (x5, H) :=
 (by kernel_rfl)
theorem r16_Table_Shard_k0_eq (x0 x4 x5 : Value) (H : AH) : r16_Table_Shard_k0 x0 x4 x5 H =
 (pBin .other .lss x5 (vi 0)).bind fun v2 =>
 condK v2
 (ld [.n, .f 1] x0 H fun v3 =>
 (pBin .other .add x5 v3).bind fun v4 =>
 r16_Table_Shard_k1 x4 v4 H)
 (r16_Table_Shard_k1 x4 x5 H) :=
 (pt rfl 0 f78_n1_d (by kernel_rfl))
noncomputable def r16_Table_Shard (x0 x1 : Value) (H : AH) : OV := cCode PP GG FF (f78_b []) (ls [x0, x1] 19) H f78_r kx0 f78_r
theorem r16_Table_Shard_of (x0 x1 : Value) (H : AH) {r : Value × AH} (h : (
 ld [.n, .f 1] x0 H fun v5 =>
 (pBin .other .rem x1 v5).bind fun v6 =>
 r16_Table_Shard_k0 x0 (vi 0) v6 H) = some r) : FF n_r16_Table_Shard [x0, x1] H = some r :=
 fo (t := r16_Table_Shard x0 x1 H) Tryz.func78 (by kernel_rfl) (Eq.trans (pt rfl 1 f78_n0_d (by kernel_rfl)) h)
theorem r16_Task_note_of (x0 x1 x2 : Value) (H : AH) {r : Value × AH} (h : (
 mkS [(0, 1), (1, 1), (2, 1), (3, 1)] [(vi 0), (.slice none 0 0), (vi 0), (vw 0)] [(0, x2)] fun v0 =>
 st 4 [.n, .f 17] x0 v0 H fun H1 =>
 ld [.n, .f 0] x0 H1 fun v2 =>
 ld [.n, .f 1] x0 H1 fun v3 =>
 ldN 4 [.n, .f 17] x0 H1 fun v4 =>
 (FF n_rPN [v2, x1, v3, v4] H1).bind fun r5 =>
 some (Value.tuple #[], r5.2)) = some r) : FF n_r16_Task_note [x0, x1, x2] H = some r :=
 fo Tryz.func79 (by kernel_rfl) h
noncomputable def f80_b (p : List Nat) : Code := Code.sub (bodyOf Tryz.f80) p
noncomputable def f80_r : KK := cFin PP (Tryz.f80).results.toList
noncomputable def f80_n0 : KK := CQ (f80_b [1, 1, 1]) f80_r kx0 f80_r
noncomputable def rTs_k0 (x0 x2 x3 x6 : Value) (H : AH) : OV := f80_n0 (ls [x0, u, x2, x3, u, u, x6] 88) H
noncomputable def f80_n1 : KK := CQ (f80_b [1, 1, 1, 1]) f80_r kx0 f80_r
noncomputable def rTs_k1 (x0 x2 x3 : Value) (H : AH) : OV := f80_n1 (ls [x0, u, x2, x3] 91) H
theorem f80_r_d : Resp 39614081257132168796771975155 f80_r := rf
theorem f80_n0_d : Resp 39614081257132168796771975090 f80_n0 := rc f80_r_d kx0_d f80_r_d
theorem f80_n1_d : Resp 39614081257132168796771975154 f80_n1 := rc f80_r_d kx0_d f80_r_d
theorem rTs_k1_eq (x0 x2 x3 : Value) (H : AH) : rTs_k1 x0 x2 x3 H =
 ld [.n, .f 7] x0 H fun v2 =>
 (pBin .other .add v2 (vi 1)).bind fun v3 =>
 st 1 [.n, .f 7] x0 v3 H fun H4 =>
 ld [.n, .f 7] x0 H4 fun v5 =>
 ld [.n, .f 0] x0 H4 fun v6 =>
 ld [.n, .f 7] v6 H4 fun v7 =>
 ld [.n, .f 2] v7 H4 fun v8 =>
 (pBin .other .geq v5 v8).bind fun v9 =>
 some (Value.tuple #[(vb false), v9], H4) :=
 (by kernel_rfl)
theorem rTs_k0_eq (x0 x2 x3 x6 : Value) (H : AH) : rTs_k0 x0 x2 x3 x6 H =
 (pUn .not x6).bind fun v10 =>
 (gV v10 true x0).bind fun v11 =>
 gld v10 true  [.n, .f 8] v11 H fun v12 =>
 (gB v10 true (pBin .other .lss v12 (vi 0))).bind fun v13 =>
 (pPick v10 v13 (vb false)).bind fun v14 =>
 condK v14
 (ld [.n, .f 7] x0 H fun v15 =>
 st 1 [.n, .f 8] x0 v15 H fun H16 =>
 rTs_k1 x0 x2 x3 H16)
 (rTs_k1 x0 x2 x3 H) :=
 (pt rfl 0 f80_n1_d (by kernel_rfl))
noncomputable def rTs (x0 : Value) (H : AH) : OV := cCode PP GG FF (f80_b []) (ls [x0] 94) H f80_r kx0 f80_r
theorem rTs_of (x0 : Value) (H : AH) {r : Value × AH} (h : (
 ad [.n, .f 0] x0 fun v17 =>
 (pLd1 v17 H).bind fun v18 =>
 ad [.n, .f 7] v18 fun v19 =>
 (pLd1 v19 H).bind fun v20 =>
 ad [.n, .f 1] x0 fun v21 =>
 (pLd1 v21 H).bind fun v22 =>
 ld [.n, .f 0] x0 H fun v23 =>
 ld [.n, .f 7] v23 H fun v24 =>
 ld [.n, .f 2, .f 1] x0 H fun v25 =>
 (FF n_r16_Table_Shard [v24, v25] H).bind fun r26 =>
 eqK (pLd1 v17 r26.2) (pLd1 v17 H) <|
 eqK (pLd1 v19 r26.2) (pLd1 v19 H) <|
 eqK (pLd1 v21 r26.2) (pLd1 v21 H) <|
 ad [.n, .f 7] x0 fun v27 =>
 (pLd1 v27 r26.2).bind fun v28 =>
 eqK (pLd1 v27 H) (pLd1 v27 r26.2) <|
 (FF n_r16_Table_Slot [v20, v22, r26.1, v28] r26.2).bind fun r29 =>
 (pExtract r29.1 0).bind fun v30 =>
 (pExtract r29.1 1).bind fun v31 =>
 (pExtract r29.1 2).bind fun v32 =>
 (gV v32 true v30).bind fun v33 =>
 (gV v32 true x0).bind fun v34 =>
 gld v32 true  [.n, .f 2, .f 1] v34 r29.2 fun v35 =>
 (gB v32 true (pBin .other .eql v33 v35)).bind fun v36 =>
 (pPick v32 v36 (vb false)).bind fun v37 =>
 condK v37
 (st 1 [.n, .f 9] x0 (vb true) r29.2 fun H38 =>
 st 1 [.n, .f 10] x0 v31 H38 fun H39 =>
 some (Value.tuple #[(vb true), (vb false)], H39))
 (rTs_k0 x0 (vb false) (vb false) v32 r29.2)) = some r) : FF n_rTs [x0] H = some r :=
 fo (t := rTs x0 H) Tryz.func80 (by kernel_rfl) (Eq.trans (pt rfl 2 f80_n0_d (by kernel_rfl)) h)
theorem r16_Parts_Obj_of (x0 x1 x2 : Value) (H : AH) {r : Value × AH} (h : (
 newK [(vi 0), (vi 0), (vw 0)] H fun v0 H1 =>
 (pBin .other .lss x2 (vi 0)).bind fun v2 =>
 (gV v2 false x2).bind fun v3 =>
 (gV v2 false x0).bind fun v4 =>
 gld v2 false  [.n, .f 10] v4 H1 fun v5 =>
 (onK (yv v2) false (lenK v5 some) (some undef)).bind fun v6 =>
 (gB v2 false (pBin .other .geq v3 v6)).bind fun v7 =>
 (pPick v2 (vb true) v7).bind fun v8 =>
 condK v8
 (mkS [(0, 1), (1, 1), (2, 1)] [(vi 0), (vi 0), (vw 0)] [] fun v9 =>
 (pSt 3 v0 v9 H1).bind fun H10 =>
 (pLdN 3 v0 H10).bind fun v11 => some (v11, H10))
 (ad [.n, .f 5] x0 fun v12 =>
 (pLd1 v12 H1).bind fun v13 =>
 (FF n_r16_Loc [(vi 13), x2, (vi 0)] H1).bind fun r14 =>
 eqK (pLd1 v12 r14.2) (pLd1 v12 H1) <|
 (FF n_r16_Mem_Log [v13, x1, (vi 5), r14.1] r14.2).bind fun r15 =>
 ld [.n, .f 10] x0 r15.2 fun v16 =>
 ldN 3 [.i 3 x2] v16 r15.2 fun v17 =>
 (pSt 3 v0 v17 r15.2).bind fun H18 =>
 (pLdN 3 v0 H18).bind fun v19 => some (v19, H18))) = some r) : FF n_r16_Parts_Obj [x0, x1, x2] H = some r :=
 fo Tryz.func83 (by kernel_rfl) h
theorem r16_Task_word_of (x0 : Value) (H : AH) {r : Value × AH} (h : (
 (FF n_r16_Task_ring [x0] H).bind fun r0 =>
 ad [.n, .f 1] x0 fun v1 =>
 (pLd1 v1 r0.2).bind fun v2 =>
 eqK (pLd1 v1 H) (pLd1 v1 r0.2) <|
 (FF n_r16_Ring_Word [r0.1, v2] r0.2).bind fun r3 =>
 st 1 [.n, .f 11] x0 r3.1 r3.2 fun H4 =>
 ld [.n, .f 11] x0 H4 fun v5 =>
 (FF n_r01_Parts [v5] H4).bind fun r6 =>
 (pExtract r6.1 0).bind fun v7 =>
 (pExtract r6.1 1).bind fun v8 =>
 (pExtract r6.1 2).bind fun v9 =>
 some (v8, r6.2)) = some r) : FF n_r16_Task_word [x0] H = some r :=
 fo Tryz.func84 (by kernel_rfl) h
theorem r16_Task_ring_of (x0 : Value) (H : AH) {r : Value × AH} (h : (
 ld [.n, .f 0] x0 H fun v0 =>
 ld [.n, .f 11] v0 H fun v1 =>
 ld [.n, .f 10] x0 H fun v2 =>
 ld [.i 1 v2] v1 H fun v3 =>
 some (v3, H)) = some r) : FF n_r16_Task_ring [x0] H = some r :=
 fo Tryz.func85 (by kernel_rfl) h
theorem r16_Ring_Head_of (x0 x1 : Value) (H : AH) {r : Value × AH} (h : (
 ad [.n, .f 0] x0 fun v0 =>
 (pLd1 v0 H).bind fun v1 =>
 ld [.n, .f 1] x0 H fun v2 =>
 (FF n_r16_Loc [(vi 12), v2, (vi 0)] H).bind fun r3 =>
 eqK (pLd1 v0 r3.2) (pLd1 v0 H) <|
 (FF n_r16_Mem_Load [v1, x1, r3.1] r3.2).bind fun r4 =>
 some (r4.1, r4.2)) = some r) : FF n_r16_Ring_Head [x0, x1] H = some r :=
 fo Tryz.func86 (by kernel_rfl) h
theorem r16_Ring_Full_of (x0 x1 x2 : Value) (H : AH) {r : Value × AH} (h : (
 (FF n_r01_Parts [x1] H).bind fun r0 =>
 (pExtract r0.1 0).bind fun v1 =>
 (pExtract r0.1 1).bind fun v2 =>
 (pExtract r0.1 2).bind fun v3 =>
 (pBin .other .geq v1 x2).bind fun v4 =>
 (gV v4 true v1).bind fun v5 =>
 (gV v4 true x2).bind fun v6 =>
 (gB v4 true (pBin .other .sub v5 v6)).bind fun v7 =>
 (gV v4 true x0).bind fun v8 =>
 gld v4 true  [.n, .f 2] v8 r0.2 fun v9 =>
 (gB v4 true (pConv (some .u64) v9)).bind fun v10 =>
 (gB v4 true (pBin .other .geq v7 v10)).bind fun v11 =>
 (pPick v4 v11 (vb false)).bind fun v12 =>
 some (v12, r0.2)) = some r) : FF n_r16_Ring_Full [x0, x1, x2] H = some r :=
 fo Tryz.func88 (by kernel_rfl) h
noncomputable def f89_b (p : List Nat) : Code := Code.sub (bodyOf Tryz.f89) p
noncomputable def f89_r : KK := cFin PP (Tryz.f89).results.toList
noncomputable def f89_n0 : KK := CQ (f89_b [1]) f89_r kx0 f89_r
noncomputable def r16_Task_claim_k0 (x0 x1 : Value) (H : AH) : OV := f89_n0 (ls [x0, x1] 48) H
noncomputable def f89_n1 : KK := CQ (f89_b [1, 1]) f89_r kx0 f89_r
noncomputable def r16_Task_claim_k1 (x0 x1 : Value) (H : AH) : OV := f89_n1 (ls [x0, x1] 48) H
noncomputable def f89_x2 : KX := BX 0 f89_r kx0
theorem f89_r_d : Resp 1125899906842623 f89_r := rf
theorem f89_n0_d : Resp 1125899906842620 f89_n0 := rc f89_r_d kx0_d f89_r_d
theorem f89_n1_d : Resp 1125899906842620 f89_n1 := rc f89_r_d kx0_d f89_r_d
theorem f89_x2_d : ∀ i, Resp 1125899906842623 (f89_x2 i) := rb f89_r_d kx0_d
theorem r16_Task_claim_k1_eq (x0 x1 : Value) (H : AH) : r16_Task_claim_k1 x0 x1 H =
 (FF n_r16_Task_ring [x0] H).bind fun r3 =>
 ad [.n, .f 1] x0 fun v4 =>
 (pLd1 v4 r3.2).bind fun v5 =>
 eqK (pLd1 v4 H) (pLd1 v4 r3.2) <|
 ad [.n, .f 11] x0 fun v6 =>
 (pLd1 v6 r3.2).bind fun v7 =>
 eqK (pLd1 v6 H) (pLd1 v6 r3.2) <|
 (FF n_r16_Ring_Turn [r3.1, v5, v7, (vi 0)] r3.2).bind fun r8 =>
 condK r8.1
 ((FF n_r16_Task_note [x0, x1, (vi 0)] r8.2).bind fun r9 =>
 ld [.n, .f 6] x0 r9.2 fun v10 =>
 (pBin .other .add v10 (vi 1)).bind fun v11 =>
 st 1 [.n, .f 6] x0 v11 r9.2 fun H12 =>
 some (Value.tuple #[], H12))
 (ld [.n, .f 6] x0 r8.2 fun v13 =>
 (pBin .other .eql v13 (vi 9)).bind fun v14 =>
 condK v14
 (st 1 [.n, .f 6] x0 (vi 7) r8.2 fun H15 =>
 some (Value.tuple #[], H15))
 (st 1 [.n, .f 6] x0 (vi 20) r8.2 fun H16 =>
 some (Value.tuple #[], H16))) :=
 (bt rfl (f89_b [1, 1, 4]) 0 f89_x2_d (by kernel_rfl))
theorem r16_Task_claim_k0_eq (x0 x1 : Value) (H : AH) : r16_Task_claim_k0 x0 x1 H =
 ld [.n, .f 6] x0 H fun v17 =>
 (pBin .other .eql v17 (vi 13)).bind fun v18 =>
 condK v18
 (st 1 [.n, .f 13] x0 (vw 1) H fun H19 =>
 r16_Task_claim_k1 x0 x1 H19)
 (r16_Task_claim_k1 x0 x1 H) :=
 (pt rfl 0 f89_n1_d (by kernel_rfl))
noncomputable def r16_Task_claim (x0 x1 : Value) (H : AH) : OV := cCode PP GG FF (f89_b []) (ls [x0, x1] 48) H f89_r kx0 f89_r
theorem r16_Task_claim_of (x0 x1 : Value) (H : AH) {r : Value × AH} (h : (
 st 1 [.n, .f 13] x0 (vw 0) H fun H20 =>
 r16_Task_claim_k0 x0 x1 H20) = some r) : FF n_r16_Task_claim [x0, x1] H = some r :=
 fo (t := r16_Task_claim x0 x1 H) Tryz.func89 (by kernel_rfl) (Eq.trans (pt rfl 0 f89_n0_d (by kernel_rfl)) h)
theorem r16_Ring_Put_of (x0 x1 x2 x3 : Value) (H : AH) {r : Value × AH} (h : (
 newK (Value.cells x3).toList H fun v0 H1 =>
 ad [.n, .f 0] x0 fun v2 =>
 (pLd1 v2 H1).bind fun v3 =>
 ad [.n, .f 1] x0 fun v4 =>
 (pLd1 v4 H1).bind fun v5 =>
 (FF n_r16_Ring_cell [x0, x2] H1).bind fun r6 =>
 eqK (pLd1 v2 r6.2) (pLd1 v2 H1) <|
 eqK (pLd1 v4 r6.2) (pLd1 v4 H1) <|
 (FF n_r16_Loc [(vi 16), v5, r6.1] r6.2).bind fun r7 =>
 eqK (pLd1 v2 r7.2) (pLd1 v2 H1) <|
 (FF n_r16_Mem_Log [v3, x1, (vi 6), r7.1] r7.2).bind fun r8 =>
 ad [.n, .f 3] x0 fun v9 =>
 (pLd1 v9 r8.2).bind fun v10 =>
 (FF n_r16_Ring_cell [x0, x2] r8.2).bind fun r11 =>
 eqK (pLd1 v9 r11.2) (pLd1 v9 r8.2) <|
 (pLdN 3 v0 r11.2).bind fun v12 =>
 eqK (pLdN 3 v0 r8.2) (pLdN 3 v0 r11.2) <|
 st 3 [.i 3 r11.1] v10 v12 r11.2 fun H13 =>
 some (Value.tuple #[], H13)) = some r) : FF n_r16_Ring_Put [x0, x1, x2, x3] H = some r :=
 fo Tryz.func90 (by kernel_rfl) h
theorem r16_Task_count_of (x0 : Value) (H : AH) {r : Value × AH} (h : (
 ld [.n, .f 11] x0 H fun v0 =>
 (FF n_r01_Parts [v0] H).bind fun r1 =>
 (pExtract r1.1 0).bind fun v2 =>
 (pExtract r1.1 1).bind fun v3 =>
 (pExtract r1.1 2).bind fun v4 =>
 some (v2, r1.2)) = some r) : FF n_r16_Task_count [x0] H = some r :=
 fo Tryz.func91 (by kernel_rfl) h
theorem r16_Ring_Show_of (x0 x1 x2 : Value) (H : AH) {r : Value × AH} (h : (
 ad [.n, .f 0] x0 fun v0 =>
 (pLd1 v0 H).bind fun v1 =>
 ad [.n, .f 1] x0 fun v2 =>
 (pLd1 v2 H).bind fun v3 =>
 (FF n_r16_Ring_cell [x0, x2] H).bind fun r4 =>
 eqK (pLd1 v0 r4.2) (pLd1 v0 H) <|
 eqK (pLd1 v2 r4.2) (pLd1 v2 H) <|
 (FF n_r16_Loc [(vi 15), v3, r4.1] r4.2).bind fun r5 =>
 eqK (pLd1 v0 r5.2) (pLd1 v0 H) <|
 (pBin .other .add x2 (vw 1)).bind fun v6 =>
 (FF n_r16_Mem_Store [v1, x1, r5.1, v6] r5.2).bind fun r7 =>
 some (Value.tuple #[], r7.2)) = some r) : FF n_r16_Ring_Show [x0, x1, x2] H = some r :=
 fo Tryz.func92 (by kernel_rfl) h
theorem r16_Inbox_Begin_of (x0 x1 : Value) (H : AH) {r : Value × AH} (h : (
 ad [.n, .f 0] x0 fun v0 =>
 (pLd1 v0 H).bind fun v1 =>
 (FF n_r16_Loc [(vi 3), (vi 0), (vi 0)] H).bind fun r2 =>
 eqK (pLd1 v0 r2.2) (pLd1 v0 H) <|
 (FF n_r16_Mem_Add [v1, x1, r2.1, (vw 4294967296)] r2.2).bind fun r3 =>
 some (Value.tuple #[], r3.2)) = some r) : FF n_r16_Inbox_Begin [x0, x1] H = some r :=
 fo Tryz.func93 (by kernel_rfl) h
noncomputable def f94_b (p : List Nat) : Code := Code.sub (bodyOf Tryz.f94) p
noncomputable def f94_r : KK := cFin PP (Tryz.f94).results.toList
noncomputable def f94_n0 : KK := CQ (f94_b [1]) f94_r kx0 f94_r
noncomputable def rTf_k0 (x0 x1 x4 : Value) (H : AH) : OV := f94_n0 (ls [x0, x1, u, u, x4] 100) H
noncomputable def f94_n1 : KK := CQ (f94_b [1, 1]) f94_r kx0 f94_r
noncomputable def f94_m1 : KK := clr 40564819207303340847894502572015 f94_n1
noncomputable def rTf_k1 (x4 : Value) (H : AH) : OV := f94_n1 (ls [u, u, u, u, x4] 100) H
noncomputable def f94_n2 : KK := CQ (f94_b [1, 0, 1]) f94_m1 kx0 f94_r
noncomputable def rTf_k2 (x0 x1 x4 x8 : Value) (H : AH) : OV := f94_n2 (ls [x0, x1, u, u, x4, u, u, u, x8] 96) H
noncomputable def f94_x3 : KX := BX 0 f94_m1 kx0
theorem f94_r_d : Resp 40564819207303340847894502572015 f94_r := rf
theorem f94_n0_d : Resp 40564819207303340847894502572012 f94_n0 := rc f94_r_d kx0_d f94_r_d
theorem f94_n1_d : Resp 40564819207303340847894502572015 f94_n1 := rc f94_r_d kx0_d f94_r_d
theorem f94_n2_d : Resp 40564819207303340847894502571756 f94_n2 := rc (cd f94_n1_d) kx0_d f94_r_d
theorem f94_x3_d : ∀ i, Resp 40564819207303340847894502572015 (f94_x3 i) := rb (cd f94_n1_d) kx0_d
theorem rTf_k1_eq (x4 : Value) (H : AH) : rTf_k1 x4 H =
 some ((vb false), H) :=
 (by kernel_rfl)
theorem rTf_k2_eq (x0 x1 x4 x8 : Value) (H : AH) : rTf_k2 x0 x1 x4 x8 H =
 (pBin .other .eql x8 (vi 15)).bind fun v4 =>
 condK v4
 (ld [.n, .f 0] x0 H fun v5 =>
 ld [.n, .f 1] x0 H fun v6 =>
 (FF n_r16_Parts_Seq [v5, v6] H).bind fun r7 =>
 st 1 [.n, .f 13] x0 r7.1 r7.2 fun H8 =>
 st 1 [.n, .f 6] x0 (vi 16) H8 fun H9 =>
 ld [.n, .f 13] x0 H9 fun v10 =>
 (pBin .other .rem v10 (vw 2)).bind fun v11 =>
 (pBin .other .eql v11 (vw 1)).bind fun v12 =>
 condK v12
 (st 1 [.n, .f 6] x0 (vi 7) H9 fun H13 =>
 rTf_k1 x4 H13)
 (rTf_k1 x4 H9))
 ((pBin .other .eql x8 (vi 16)).bind fun v14 =>
 condK v14
 (st 1 [.n, .f 6] x0 (vi 17) H fun H15 =>
 (FF n_r16_Task_word [x0] H15).bind fun r16 =>
 (pBin .other .eql r16.1 (vi 2)).bind fun v17 =>
 condK v17
 (st 1 [.n, .f 6] x0 (vi 3) r16.2 fun H18 =>
 rTf_k1 x4 H18)
 (rTf_k1 x4 r16.2))
 ((pBin .other .eql x8 (vi 17)).bind fun v19 =>
 condK v19
 ((FF n_r16_Task_ring [x0] H).bind fun r20 =>
 ad [.n, .f 1] x0 fun v21 =>
 (pLd1 v21 r20.2).bind fun v22 =>
 eqK (pLd1 v21 H) (pLd1 v21 r20.2) <|
 (FF n_r16_Ring_Head [r20.1, v22] r20.2).bind fun r23 =>
 st 1 [.n, .f 12] x0 r23.1 r23.2 fun H24 =>
 st 1 [.n, .f 16] x0 x1 H24 fun H25 =>
 st 1 [.n, .f 6] x0 (vi 18) H25 fun H26 =>
 (FF n_r16_Task_ring [x0] H26).bind fun r27 =>
 ad [.n, .f 11] x0 fun v28 =>
 (pLd1 v28 r27.2).bind fun v29 =>
 eqK (pLd1 v28 H26) (pLd1 v28 r27.2) <|
 ad [.n, .f 12] x0 fun v30 =>
 (pLd1 v30 r27.2).bind fun v31 =>
 eqK (pLd1 v30 H26) (pLd1 v30 r27.2) <|
 (FF n_r16_Ring_Full [r27.1, v29, v31] r27.2).bind fun r32 =>
 (pUn .not r32.1).bind fun v33 =>
 condK v33
 (st 1 [.n, .f 6] x0 (vi 7) r32.2 fun H34 =>
 rTf_k1 x4 H34)
 (rTf_k1 x4 r32.2))
 ((pBin .other .eql x8 (vi 18)).bind fun v35 =>
 condK v35
 (ld [.n, .f 0] x0 H fun v36 =>
 ld [.n, .f 1] x0 H fun v37 =>
 (FF n_r16_Parts_Seq [v36, v37] H).bind fun r38 =>
 ad [.n, .f 13] x0 fun v39 =>
 (pLd1 v39 r38.2).bind fun v40 =>
 eqK (pLd1 v39 H) (pLd1 v39 r38.2) <|
 (pBin .other .eql r38.1 v40).bind fun v41 =>
 condK v41
 (ld [.n, .f 16] x0 r38.2 fun v42 =>
 (FF n_r16_Task_note [x0, v42, (vi 9)] r38.2).bind fun r43 =>
 some ((vb true), r43.2))
 (st 1 [.n, .f 6] x0 (vi 7) r38.2 fun H44 =>
 rTf_k1 x4 H44))
 (rTf_k1 x4 H)))) :=
 (bt rfl (f94_b [1, 0, 1, 4]) 0 f94_x3_d (by kernel_rfl))
theorem rTf_k0_eq (x0 x1 x4 : Value) (H : AH) : rTf_k0 x0 x1 x4 H =
 ld [.n, .f 6] x0 H fun v45 =>
 rTf_k2 x0 x1 x4 v45 H :=
 (pt rfl 0 f94_n1_d (pt rfl 0 f94_n2_d (by kernel_rfl)))
noncomputable def rTf (x0 x1 : Value) (H : AH) : OV := cCode PP GG FF (f94_b []) (ls [x0, x1] 103) H f94_r kx0 f94_r
theorem rTf_of (x0 x1 : Value) (H : AH) {r : Value × AH} (h : (
 rTf_k0 x0 x1 (vb false) H) = some r) : FF n_rTf [x0, x1] H = some r :=
 fo (t := rTf x0 x1 H) Tryz.func94 (by kernel_rfl) (Eq.trans (pt rfl 0 f94_n0_d (by kernel_rfl)) h)
noncomputable def f95_b (p : List Nat) : Code := Code.sub (bodyOf Tryz.f95) p
noncomputable def f95_r : KK := cFin PP (Tryz.f95).results.toList
noncomputable def f95_n0 : KK := CQ (f95_b [1, 1]) f95_r kx0 f95_r
noncomputable def rTw_k0 (x0 x1 x4 x5 : Value) (H : AH) : OV := f95_n0 (ls [x0, x1, u, u, x4, x5] 113) H
noncomputable def f95_n1 : KK := CQ (f95_b [1, 1, 1]) f95_r kx0 f95_r
noncomputable def f95_m1 : KK := clr 664613997892457936451903530140172271 f95_n1
noncomputable def rTw_k1 (x4 : Value) (H : AH) : OV := f95_n1 (ls [u, u, u, u, x4] 114) H
noncomputable def f95_n2 : KK := CQ (f95_b [1, 1, 0, 1]) f95_m1 kx0 f95_r
noncomputable def rTw_k2 (x0 x1 x4 x5 x13 : Value) (H : AH) : OV := f95_n2 (ls [x0, x1, u, u, x4, x5, u, u, u, u, u, u, u, x13] 105) H
noncomputable def f95_x3 : KX := BX 0 f95_m1 kx0
theorem f95_r_d : Resp 664613997892457936451903530140172271 f95_r := rf
theorem f95_n0_d : Resp 664613997892457936451903530140172236 f95_n0 := rc f95_r_d kx0_d f95_r_d
theorem f95_n1_d : Resp 664613997892457936451903530140172271 f95_n1 := rc f95_r_d kx0_d f95_r_d
theorem f95_n2_d : Resp 664613997892457936451903530140164044 f95_n2 := rc (cd f95_n1_d) kx0_d f95_r_d
theorem f95_x3_d : ∀ i, Resp 664613997892457936451903530140172271 (f95_x3 i) := rb (cd f95_n1_d) kx0_d
theorem rTw_k1_eq (x4 : Value) (H : AH) : rTw_k1 x4 H =
 some ((vb false), H) :=
 (by kernel_rfl)
theorem rTw_k2_eq (x0 x1 x4 x5 x13 : Value) (H : AH) : rTw_k2 x0 x1 x4 x5 x13 H =
 (pBin .other .eql x13 (vi 20)).bind fun v4 =>
 condK v4
 (ld [.n, .f 6] x5 H fun v5 =>
 ld [.n, .f 1] x0 H fun v6 =>
 (FF n_r16_Inbox_End [v5, v6] H).bind fun r7 =>
 st 1 [.n, .f 6] x0 (vi 7) r7.2 fun H8 =>
 rTw_k1 x4 H8)
 ((pBin .other .eql x13 (vi 21)).bind fun v9 =>
 condK v9
 ((FF n_r16_Task_ring [x0] H).bind fun r10 =>
 ad [.n, .f 1] x0 fun v11 =>
 (pLd1 v11 r10.2).bind fun v12 =>
 eqK (pLd1 v11 H) (pLd1 v11 r10.2) <|
 (FF n_r16_Task_count [x0] r10.2).bind fun r13 =>
 eqK (pLd1 v11 r13.2) (pLd1 v11 r10.2) <|
 (FF n_r16_Ring_Show [r10.1, v12, r13.1] r13.2).bind fun r14 =>
 st 1 [.n, .f 6] x0 (vi 22) r14.2 fun H15 =>
 rTw_k1 x4 H15)
 ((pBin .other .eql x13 (vi 22)).bind fun v16 =>
 condK v16
 (ld [.n, .f 6] x5 H fun v17 =>
 ld [.n, .f 1] x0 H fun v18 =>
 (FF n_r16_Inbox_Top [v17, v18, x1] H).bind fun r19 =>
 st 1 [.n, .f 15] x0 r19.1 r19.2 fun H20 =>
 st 1 [.n, .f 6] x0 (vi 23) H20 fun H21 =>
 rTw_k1 x4 H21)
 ((pBin .other .eql x13 (vi 23)).bind fun v22 =>
 condK v22
 (ld [.n, .f 6] x5 H fun v23 =>
 ld [.n, .f 1] x0 H fun v24 =>
 ld [.n, .f 10] x0 H fun v25 =>
 ld [.n, .f 15] x0 H fun v26 =>
 (FF n_r16_Inbox_Link [v23, v24, v25, v26] H).bind fun r27 =>
 st 1 [.n, .f 6] x0 (vi 24) r27.2 fun H28 =>
 rTw_k1 x4 H28)
 ((pBin .other .eql x13 (vi 24)).bind fun v29 =>
 condK v29
 (st 1 [.n, .f 6] x0 (vi 22) H fun H30 =>
 ld [.n, .f 6] x5 H30 fun v31 =>
 ld [.n, .f 1] x0 H30 fun v32 =>
 ld [.n, .f 15] x0 H30 fun v33 =>
 ld [.n, .f 10] x0 H30 fun v34 =>
 (FF n_r16_Inbox_Push [v31, v32, x1, v33, v34] H30).bind fun r35 =>
 condK r35.1
 (st 1 [.n, .f 6] x0 (vi 25) r35.2 fun H36 =>
 rTw_k1 x4 H36)
 (rTw_k1 x4 r35.2))
 ((pBin .other .eql x13 (vi 25)).bind fun v37 =>
 condK v37
 (ld [.n, .f 6] x5 H fun v38 =>
 ld [.n, .f 1] x0 H fun v39 =>
 (FF n_r16_Inbox_End [v38, v39] H).bind fun r40 =>
 some ((vb true), r40.2))
 (rTw_k1 x4 H)))))) :=
 (bt rfl (f95_b [1, 1, 0, 1, 4]) 0 f95_x3_d (by kernel_rfl))
theorem rTw_k0_eq (x0 x1 x4 x5 : Value) (H : AH) : rTw_k0 x0 x1 x4 x5 H =
 ld [.n, .f 6] x0 H fun v41 =>
 rTw_k2 x0 x1 x4 x5 v41 H :=
 (pt rfl 0 f95_n1_d (pt rfl 0 f95_n2_d (by kernel_rfl)))
noncomputable def rTw (x0 x1 : Value) (H : AH) : OV := cCode PP GG FF (f95_b []) (ls [x0, x1] 117) H f95_r kx0 f95_r
theorem rTw_of (x0 x1 : Value) (H : AH) {r : Value × AH} (h : (
 ld [.n, .f 0] x0 H fun v42 =>
 rTw_k0 x0 x1 (vb false) v42 H) = some r) : FF n_rTw [x0, x1] H = some r :=
 fo (t := rTw x0 x1 H) Tryz.func95 (by kernel_rfl) (Eq.trans (pt rfl 1 f95_n0_d (by kernel_rfl)) h)
noncomputable def f96_b (p : List Nat) : Code := Code.sub (bodyOf Tryz.f96) p
noncomputable def f96_r : KK := cFin PP (Tryz.f96).results.toList
noncomputable def f96_n0 : KK := CQ (f96_b [1, 1]) f96_r kx0 f96_r
noncomputable def hS_Event_k0 (x0 x1 x2 x6 : Value) (H : AH) : OV := f96_n0 (ls [x0, x1, x2, u, u, u, x6] 23) H
noncomputable def f96_n1 : KK := CQ (f96_b [1, 1, 1]) f96_r kx0 f96_r
noncomputable def f96_m1 : KK := clr 1073741759 f96_n1
noncomputable def hS_Event_k1 (x6 : Value) (H : AH) : OV := f96_n1 (ls [u, u, u, u, u, u, x6] 23) H
noncomputable def f96_n2 : KK := CQ (f96_b [1, 1, 0, 1]) f96_m1 kx0 f96_r
noncomputable def hS_Event_k2 (x0 x1 x2 x6 x7 : Value) (H : AH) : OV := f96_n2 (ls [x0, x1, x2, u, u, u, x6, x7] 22) H
noncomputable def f96_x3 : KX := BX 0 f96_m1 kx0
noncomputable def f96_y3 : KX := clx 1073741759 f96_x3
noncomputable def f96_n4 : KK := CLq (f96_b [1, 1, 0, 1, 4, 5]) f96_y3 f96_r
noncomputable def f96_m4 : KK := clr 1073741624 f96_n4
noncomputable def hS_Event_k4 (x0 x1 x2 x6 x7 : Value) (H : AH) : OV := f96_n4 (ls [x0, x1, x2, u, u, u, x6, x7] 22) H
noncomputable def f96_n5 : KK := CQ (f96_b [1, 1, 0, 1, 4, 5, 1]) f96_m4 f96_y3 f96_r
noncomputable def hS_Event_k5 (x0 x1 x2 x6 x7 : Value) (H : AH) : OV := f96_n5 (ls [x0, x1, x2, u, u, u, x6, x7] 22) H
noncomputable def f96_n6 : KK := CQ (f96_b [1, 1, 0, 1, 4, 5, 1, 1]) f96_m4 f96_y3 f96_r
noncomputable def f96_m6 : KK := clr 1073741624 f96_n6
noncomputable def hS_Event_k6 (x0 x1 x2 x6 x7 : Value) (H : AH) : OV := f96_n6 (ls [x0, x1, x2, u, u, u, x6, x7] 22) H
noncomputable def f96_x8 : KX := BX 1 f96_m6 f96_y3
noncomputable def hS_Event_e3_0 (x6 : Value) (H : AH) : OV := f96_x3 0 (ls [u, u, u, u, u, u, x6] 23) H
theorem f96_r_d : Resp 1073741759 f96_r := rf
theorem f96_n0_d : Resp 1073741752 f96_n0 := rc f96_r_d kx0_d f96_r_d
theorem f96_n1_d : Resp 1073741759 f96_n1 := rc f96_r_d kx0_d f96_r_d
theorem f96_n2_d : Resp 1073741624 f96_n2 := rc (cd f96_n1_d) kx0_d f96_r_d
theorem f96_x3_d : ∀ i, Resp 1073741759 (f96_x3 i) := rb (cd f96_n1_d) kx0_d
theorem f96_n4_d : Resp 1073741624 f96_n4 := rl (cx f96_x3_d) f96_r_d
theorem f96_n5_d : Resp 1073741624 f96_n5 := rc (cd f96_n4_d) (cx f96_x3_d) f96_r_d
theorem f96_n6_d : Resp 1073741624 f96_n6 := rc (cd f96_n4_d) (cx f96_x3_d) f96_r_d
theorem f96_x8_d : ∀ i, Resp 1073741624 (f96_x8 i) := rb (cd f96_n6_d) (cx f96_x3_d)
theorem hS_Event_k1_eq (x6 : Value) (H : AH) : hS_Event_k1 x6 H =
 some ((vb true), H) :=
 (by kernel_rfl)
theorem hS_Event_k6_eq (x0 x1 x2 x6 x7 : Value) (H : AH) : hS_Event_k6 x0 x1 x2 x6 x7 H =
 (pBin .other .add x7 (vi 1)).bind fun v7 =>
 hS_Event_k4 x0 x1 x2 x6 v7 H :=
 (by kernel_rfl)
theorem hS_Event_k5_eq (x0 x1 x2 x6 x7 : Value) (H : AH) : hS_Event_k5 x0 x1 x2 x6 x7 H =
 ldN 5 [.i 5 x7] x0 H fun v9 =>
 ldN 5 [.i 5 x7] x1 H fun v10 =>
 (pCallee x2 [v9, v10]).bind fun c => (FF c.1 c.2 H).bind fun r11 =>
 (pUn .not r11.1).bind fun v12 =>
 condK v12
 (some ((vb false), r11.2))
 (hS_Event_k6 x0 x1 x2 x6 x7 r11.2) :=
 (pt rfl 0 f96_n6_d (bt rfl (f96_b [1, 1, 0, 1, 4, 5, 1, 0, 4]) 1 f96_x8_d (by kernel_rfl)))
theorem hS_Event_e3_0_eq (x6 : Value) (H : AH) : hS_Event_e3_0 x6 H = hS_Event_k1 x6 H :=
 (by kernel_rfl)
theorem hS_Event_k4_eq (x0 x1 x2 x6 x7 : Value) (H : AH) : hS_Event_k4 x0 x1 x2 x6 x7 H =
 lenK x0 fun v13 =>
 (pBin .other .lss x7 v13).bind fun v14 =>
 condK v14
 (hS_Event_k5 x0 x1 x2 x6 x7 H)
 (hS_Event_e3_0 x6 H) :=
 lt' rfl f96_n4_d (pt rfl 0 f96_n5_d (by kernel_rfl))
theorem hS_Event_k2_eq (x0 x1 x2 x6 x7 : Value) (H : AH) : hS_Event_k2 x0 x1 x2 x6 x7 H =
 hS_Event_k4 x0 x1 x2 x6 x7 H :=
 (bt rfl (f96_b [1, 1, 0, 1, 4]) 0 f96_x3_d (li rfl (f96_b [1, 1, 0, 1, 4, 5]) f96_n4_d (by kernel_rfl)))
theorem hS_Event_k0_eq (x0 x1 x2 x6 : Value) (H : AH) : hS_Event_k0 x0 x1 x2 x6 H =
 hS_Event_k2 x0 x1 x2 x6 (vi 0) H :=
 (pt rfl 0 f96_n1_d (pt rfl 0 f96_n2_d (by kernel_rfl)))
noncomputable def hS_Event (x0 x1 x2 : Value) (H : AH) : OV := cCode PP GG FF (f96_b []) (ls [x0, x1, x2] 27) H f96_r kx0 f96_r
theorem hS_Event_of (x0 x1 x2 : Value) (H : AH) {r : Value × AH} (h : (
 lenK x0 fun v15 =>
 lenK x1 fun v16 =>
 (pBin .other .neq v15 v16).bind fun v17 =>
 condK v17
 (some ((vb false), H))
 (hS_Event_k0 x0 x1 x2 (vb false) H)) = some r) : FF n_hS_Event [x0, x1, x2] H = some r :=
 fo (t := hS_Event x0 x1 x2 H) Tryz.func96 (by kernel_rfl) (Eq.trans (pt rfl 1 f96_n0_d (by kernel_rfl)) h)
theorem help_Plainapi_Event_1_of (x0 x1 : Value) (H : AH) {r : Value × AH} (h : (
 newK (Value.cells x0).toList H fun v0 H1 =>
 newK (Value.cells x1).toList H1 fun v2 H3 =>
 (pLdN 5 v0 H3).bind fun v4 =>
 (pLdN 5 v2 H3).bind fun v5 =>
 (pBin (.flat 5) .eql v4 v5).bind fun v6 =>
 some (v6, H3)) = some r) : FF n_help_Plainapi_Event_1 [x0, x1] H = some r :=
 fo Tryz.func97 (by kernel_rfl) h
theorem sCe_of (x0 : Value) (H : AH) {r : Value × AH} (h : (
 (pBin .slice .eql x0 (.slice none 0 0)).bind fun v0 =>
 condK v0
 (some ((.slice none 0 0), H))
 (mkR 0 5 [(vi 0), (vi 0), (vi 0), (vi 0), (vi 0)] [] H fun v1 H2 =>
 (pApp 5 40 v1 x0 H2).bind fun r3 =>
 some (r3.1, r3.2))) = some r) : FF n_sCe [x0] H = some r :=
 fo Tryz.func98 (by kernel_rfl) h
theorem parts_Parts_Ring_of (x0 x1 : Value) (H : AH) {r : Value × AH} (h : (
 (FF n_parts_Parts_made [x0, x1] H).bind fun r0 =>
 (pUn .not r0.1).bind fun v1 =>
 condK v1
 (some ((.pointer none), r0.2))
 (ld [.n, .f 10] x0 r0.2 fun v2 =>
 ld [.i 4 x1, .f 3] v2 r0.2 fun v3 =>
 some (v3, r0.2))) = some r) : FF n_parts_Parts_Ring [x0, x1] H = some r :=
 fo Tryz.func103 (by kernel_rfl) h
theorem r16_Ring_Turn_of (x0 x1 x2 x3 : Value) (H : AH) {r : Value × AH} (h : (
 (FF n_r01_Turned [x2, x3] H).bind fun r0 =>
 (pExtract r0.1 0).bind fun v1 =>
 (pExtract r0.1 1).bind fun v2 =>
 (gV v2 true x0).bind fun v3 =>
 gad v2 true  [.n, .f 0] v3 fun v4 =>
 (gB v2 true (pLd1 v4 r0.2)).bind fun v5 =>
 (gV v2 true x1).bind fun v6 =>
 (gV v2 true x0).bind fun v7 =>
 gld v2 true  [.n, .f 1] v7 r0.2 fun v8 =>
 (gE v2 true r0.2 (FF n_r16_Loc [(vi 11), v8, (vi 0)] r0.2)).bind fun r9 =>
 eqK (pLd1 v4 r9.2) (pLd1 v4 r0.2) <|
 (gV v2 true x2).bind fun v10 =>
 (gV v2 true v1).bind fun v11 =>
 (gE v2 true r9.2 (FF n_r16_Mem_Swap [v5, v6, r9.1, v10, v11] r9.2)).bind fun r12 =>
 (pPick v2 r12.1 (vb false)).bind fun v13 =>
 some (v13, r12.2)) = some r) : FF n_r16_Ring_Turn [x0, x1, x2, x3] H = some r :=
 fo Tryz.func106 (by kernel_rfl) h
theorem inbox_site_at_of (x0 x1 : Value) (H : AH) {r : Value × AH} (h : (
 newK [(vi 0), (vi 0), (vi 0)] H fun v0 H1 =>
 mkS [(0, 1), (1, 1), (2, 1)] [(vi 0), (vi 0), (vi 0)] [(0, x0), (1, x1)] fun v2 =>
 (pSt 3 v0 v2 H1).bind fun H3 =>
 (pLdN 3 v0 H3).bind fun v4 => some (v4, H3)) = some r) : FF n_inbox_site_at [x0, x1] H = some r :=
 fo Tryz.func119 (by kernel_rfl) h
noncomputable def f133_b (p : List Nat) : Code := Code.sub (bodyOf Tryz.f133) p
noncomputable def f133_r : KK := cFin PP (Tryz.f133).results.toList
noncomputable def f133_n0 : KK := CQ (f133_b [1, 1, 1]) f133_r kx0 f133_r
noncomputable def eE_hit_k0 (x0 x2 x3 x4 x5 : Value) (H : AH) : OV := f133_n0 (ls [x0, u, x2, x3, x4, x5] 65) H
noncomputable def f133_n1 : KK := CQ (f133_b [1, 1, 1, 1]) f133_r kx0 f133_r
noncomputable def eE_hit_k1 (x0 x2 : Value) (H : AH) : OV := f133_n1 (ls [x0, u, x2] 68) H
theorem f133_r_d : Resp 2361183241434822606843 f133_r := rf
theorem f133_n0_d : Resp 2361183241434822606786 f133_n0 := rc f133_r_d kx0_d f133_r_d
theorem f133_n1_d : Resp 2361183241434822606842 f133_n1 := rc f133_r_d kx0_d f133_r_d
theorem eE_hit_k1_eq (x0 x2 : Value) (H : AH) : eE_hit_k1 x0 x2 H =
 ad [.n, .f 8] x0 fun v2 =>
 (pLd1 v2 H).bind fun v3 =>
 ld [.n, .f 0] x0 H fun v4 =>
 ld [.n, .f 2] v4 H fun v5 =>
 (FF n_table_Table_Slots [v5] H).bind fun r6 =>
 eqK (pLd1 v2 r6.2) (pLd1 v2 H) <|
 (pBin .other .geq v3 r6.1).bind fun v7 =>
 some (v7, r6.2) :=
 (by kernel_rfl)
theorem eE_hit_k0_eq (x0 x2 x3 x4 x5 : Value) (H : AH) : eE_hit_k0 x0 x2 x3 x4 x5 H =
 (gV x5 true x3).bind fun v8 =>
 (gV x5 true x0).bind fun v9 =>
 gld x5 true  [.n, .f 2, .f 1] v9 H fun v10 =>
 (gB x5 true (pBin .other .eql v8 v10)).bind fun v11 =>
 (pPick x5 v11 (vb false)).bind fun v12 =>
 st 1 [.n, .f 10] x0 v12 H fun H13 =>
 ld [.n, .f 10] x0 H13 fun v14 =>
 condK v14
 (st 1 [.n, .f 9] x0 x4 H13 fun H15 =>
 eE_hit_k1 x0 x2 H15)
 (eE_hit_k1 x0 x2 H13) :=
 (pt rfl 0 f133_n1_d (by kernel_rfl))
noncomputable def eE_hit (x0 : Value) (H : AH) : OV := cCode PP GG FF (f133_b []) (ls [x0] 70) H f133_r kx0 f133_r
theorem eE_hit_of (x0 : Value) (H : AH) {r : Value × AH} (h : (
 ld [.n, .f 0] x0 H fun v16 =>
 ld [.n, .f 2] v16 H fun v17 =>
 ld [.n, .f 1] x0 H fun v18 =>
 ld [.n, .f 6] x0 H fun v19 =>
 ld [.n, .f 8] x0 H fun v20 =>
 (FF n_table_Table_Slot [v17, v18, v19, v20] H).bind fun r21 =>
 (pExtract r21.1 0).bind fun v22 =>
 (pExtract r21.1 1).bind fun v23 =>
 (pExtract r21.1 2).bind fun v24 =>
 ld [.n, .f 8] x0 r21.2 fun v25 =>
 (pBin .other .add v25 (vi 1)).bind fun v26 =>
 st 1 [.n, .f 8] x0 v26 r21.2 fun H27 =>
 eE_hit_k0 x0 (vb false) v22 v23 v24 H27) = some r) : FF n_eE_hit [x0] H = some r :=
 fo (t := eE_hit x0 H) Tryz.func133 (by kernel_rfl) (Eq.trans (pt rfl 2 f133_n0_d (by kernel_rfl)) h)
theorem eE_on_of (x0 x1 : Value) (H : AH) {r : Value × AH} (h : (
 newK [(vi 0), (.slice none 0 0), (vi 0), (vw 0)] H fun v0 H1 =>
 st 1 [.n, .f 7] x0 x1 H1 fun H2 =>
 mkS [(0, 1), (1, 1), (2, 1), (3, 1)] [(vi 0), (.slice none 0 0), (vi 0), (vw 0)] [] fun v3 =>
 (pSt 4 v0 v3 H2).bind fun H4 =>
 (pLdN 4 v0 H4).bind fun v5 => some (Value.tuple #[v5, (vb false)], H4)) = some r) : FF n_eE_on [x0, x1] H = some r :=
 fo Tryz.func134 (by kernel_rfl) h
theorem eE_look_of (x0 x1 : Value) (H : AH) {r : Value × AH} (h : (
 newK [(vi 0), (.slice none 0 0), (vi 0), (vw 0)] H fun v0 H1 =>
 ld [.n, .f 0] x0 H1 fun v2 =>
 ld [.n, .f 1] x0 H1 fun v3 =>
 ld [.n, .f 9] x0 H1 fun v4 =>
 (FF n_parts_Parts_Obj [v2, v3, v4] H1).bind fun r5 =>
 ld [.n, .f 0] x0 r5.2 fun v6 =>
 ld [.n, .f 9] x0 r5.2 fun v7 =>
 (FF n_parts_Parts_Ring [v6, v7] r5.2).bind fun r8 =>
 st 1 [.n, .f 11] x0 r8.1 r8.2 fun H9 =>
 (FF n_eE_on [x0, (.func (.func n_eE_word) #[x0] #[])] H9).bind fun r10 =>
 (pExtract r10.1 0).bind fun v11 =>
 (pExtract r10.1 1).bind fun v12 =>
 (pSt 4 v0 v11 r10.2).bind fun H13 =>
 (pLdN 4 v0 H13).bind fun v14 => some (Value.tuple #[v14, v12], H13)) = some r) : FF n_eE_look [x0, x1] H = some r :=
 fo Tryz.func135 (by kernel_rfl) h
theorem eE_lock_of (x0 x1 : Value) (H : AH) {r : Value × AH} (h : (
 newK [(vi 0), (.slice none 0 0), (vi 0), (vw 0)] H fun v0 H1 =>
 ld [.n, .f 0] x0 H1 fun v2 =>
 ld [.n, .f 2] v2 H1 fun v3 =>
 ld [.n, .f 1] x0 H1 fun v4 =>
 ld [.n, .f 6] x0 H1 fun v5 =>
 (FF n_table_Table_Lock [v3, v4, v5] H1).bind fun r6 =>
 (pUn .not r6.1).bind fun v7 =>
 condK v7
 ((FF n_eE_on [x0, (.func (.func n_eE_lock) #[x0] #[])] r6.2).bind fun r8 =>
 (pExtract r8.1 0).bind fun v9 =>
 (pExtract r8.1 1).bind fun v10 =>
 (pSt 4 v0 v9 r8.2).bind fun H11 =>
 (pLdN 4 v0 H11).bind fun v12 => some (Value.tuple #[v12, v10], H11))
 (st 1 [.n, .f 8] x0 (vi 0) r6.2 fun H13 =>
 (FF n_eE_on [x0, (.func (.func n_eE_search) #[x0] #[])] H13).bind fun r14 =>
 (pExtract r14.1 0).bind fun v15 =>
 (pExtract r14.1 1).bind fun v16 =>
 (pSt 4 v0 v15 r14.2).bind fun H17 =>
 (pLdN 4 v0 H17).bind fun v18 => some (Value.tuple #[v18, v16], H17))) = some r) : FF n_eE_lock [x0, x1] H = some r :=
 fo Tryz.func136 (by kernel_rfl) h
noncomputable def f138_b (p : List Nat) : Code := Code.sub (bodyOf Tryz.f138) p
noncomputable def f138_r : KK := cFin PP (Tryz.f138).results.toList
noncomputable def f138_n0 : KK := CQ (f138_b [1]) f138_r kx0 f138_r
noncomputable def f138_m0 : KK := clr 1684996666696914987166688442938726917102321526408785780068975640544 f138_n0
noncomputable def sMg_k0 (x0 x1 x2 x3 x4 : Value) (H : AH) : OV := f138_n0 (ls [x0, x1, x2, x3, x4] 215) H
noncomputable def f138_n1 : KK := CQ (f138_b [1, 1]) f138_r kx0 f138_r
noncomputable def f138_m1 : KK := clr 1684996666696914987166688442938726917102321526408785780068975640544 f138_n1
noncomputable def sMg_k1 (x0 x1 x2 x3 x4 : Value) (H : AH) : OV := f138_n1 (ls [x0, x1, x2, x3, x4] 215) H
noncomputable def f138_n2 : KK := CQ (f138_b [1, 1, 1, 1, 1]) f138_r kx0 f138_r
noncomputable def sMg_k2 (x0 x1 x2 x3 x4 x18 x19 : Value) (H : AH) : OV := f138_n2 (ls [x0, x1, x2, x3, x4, u, u, u, u, u, u, u, u, u, u, u, u, u, x18, x19] 200) H
noncomputable def f138_n3 : KK := CQ (f138_b [1, 1, 1, 1, 1, 1]) f138_r kx0 f138_r
noncomputable def sMg_k3 (x0 x1 x2 x3 x4 x18 x19 x20 x21 : Value) (H : AH) : OV := f138_n3 (ls [x0, x1, x2, x3, x4, u, u, u, u, u, u, u, u, u, u, u, u, u, x18, x19, x20, x21] 198) H
noncomputable def f138_n4 : KK := CQ (f138_b [1, 1, 1, 1, 1, 1, 1]) f138_r kx0 f138_r
noncomputable def sMg_k4 (x0 x1 x2 x3 x4 x18 x19 x20 x21 x22 : Value) (H : AH) : OV := f138_n4 (ls [x0, x1, x2, x3, x4, u, u, u, u, u, u, u, u, u, u, u, u, u, x18, x19, x20, x21, x22] 197) H
noncomputable def f138_n5 : KK := CQ (f138_b [1, 1, 1, 1, 1, 1, 1, 1]) f138_r kx0 f138_r
noncomputable def f138_m5 : KK := clr 1684996666696914987166688442938726917102321526408785780068973805536 f138_n5
noncomputable def sMg_k5 (x0 x1 x2 x3 x4 x18 x19 x20 : Value) (H : AH) : OV := f138_n5 (ls [x0, x1, x2, x3, x4, u, u, u, u, u, u, u, u, u, u, u, u, u, x18, x19, x20] 199) H
noncomputable def f138_n6 : KK := CQ (f138_b [1, 1, 1, 1, 1, 1, 1, 1, 1]) f138_r kx0 f138_r
noncomputable def sMg_k6 (x0 x1 x2 x3 x4 x18 x20 x24 : Value) (H : AH) : OV := f138_n6 (ls [x0, x1, x2, x3, x4, u, u, u, u, u, u, u, u, u, u, u, u, u, x18, u, x20, u, u, u, x24] 195) H
noncomputable def f138_n7 : KK := CQ (f138_b [1, 1, 1, 1, 1, 1, 1, 1, 1, 1]) f138_r kx0 f138_r
noncomputable def sMg_k7 (x0 x1 x3 x4 x18 x20 x24 : Value) (H : AH) : OV := f138_n7 (ls [x0, x1, u, x3, x4, u, u, u, u, u, u, u, u, u, u, u, u, u, x18, u, x20, u, u, u, x24] 195) H
noncomputable def f138_n8 : KK := CQ (f138_b [1, 1, 1, 1, 1, 1, 1, 1, 1, 1, 1]) f138_r kx0 f138_r
noncomputable def sMg_k8 (x0 x3 x4 x18 x24 : Value) (H : AH) : OV := f138_n8 (ls [x0, u, u, x3, x4, u, u, u, u, u, u, u, u, u, u, u, u, u, x18, u, u, u, u, u, x24] 195) H
noncomputable def f138_x28 : KX := BX 8 f138_m5 kx0
noncomputable def f138_y28 : KX := clx 1684996666696914987166688442938726917102321526408785780068973805536 f138_x28
noncomputable def f138_n29 : KK := CLq (f138_b [1, 1, 1, 1, 1, 1, 1, 0, 4, 5]) f138_y28 f138_r
noncomputable def f138_m29 : KK := clr 1684996666696914987166688442938726917102321526408785780068967514080 f138_n29
noncomputable def sMg_k29 (x0 x1 x2 x3 x4 x18 x19 x20 x21 x22 : Value) (H : AH) : OV := f138_n29 (ls [x0, x1, x2, x3, x4, u, u, u, u, u, u, u, u, u, u, u, u, u, x18, x19, x20, x21, x22] 197) H
noncomputable def f138_n30 : KK := CQ (f138_b [1, 1, 1, 1, 1, 1, 1, 0, 4, 5, 1]) f138_m29 f138_y28 f138_r
noncomputable def sMg_k30 (x0 x1 x2 x3 x4 x18 x19 x20 x21 x22 : Value) (H : AH) : OV := f138_n30 (ls [x0, x1, x2, x3, x4, u, u, u, u, u, u, u, u, u, u, u, u, u, x18, x19, x20, x21, x22] 197) H
noncomputable def f138_x31 : KX := BX 9 f138_m29 f138_y28
noncomputable def sMg_e28_8 (x0 x1 x2 x3 x4 x18 x19 x20 : Value) (H : AH) : OV := f138_x28 8 (ls [x0, x1, x2, x3, x4, u, u, u, u, u, u, u, u, u, u, u, u, u, x18, x19, x20] 199) H
noncomputable def f138_n52 : KK := CQ (f138_b [1, 0, 1]) f138_m1 kx0 f138_r
noncomputable def sMg_k52 (x0 x1 x2 x3 x4 x80 : Value) (H : AH) : OV := f138_n52 (ls [x0, x1, x2, x3, x4, u, u, u, u, u, u, u, u, u, u, u, u, u, u, u, u, u, u, u, u, u, u, u, u, u, u, u, u, u, u, u, u, u, u, u, u, u, u, u, u, u, u, u, u, u, u, u, u, u, u, u, u, u, u, u, u, u, u, u, u, u, u, u, u, u, u, u, u, u, u, u, u, u, u, u, x80] 139) H
noncomputable def f138_n53 : KK := CQ (f138_b [1, 0, 1, 2, 1, 1]) f138_m1 kx0 f138_r
noncomputable def sMg_k53 (x0 x2 x4 x14 x15 : Value) (H : AH) : OV := f138_n53 (ls [x0, u, x2, u, x4, u, u, u, u, u, u, u, u, u, x14, x15] 204) H
noncomputable def f138_n54 : KK := CQ (f138_b [1, 0, 1, 2, 1, 1, 1]) f138_m1 kx0 f138_r
noncomputable def f138_m54 : KK := clr 1684996666696914987166688442938726917102321526408785780068975624186 f138_n54
noncomputable def sMg_k54 (x0 x2 x14 : Value) (H : AH) : OV := f138_n54 (ls [x0, u, x2, u, u, u, u, u, u, u, u, u, u, u, x14] 205) H
noncomputable def f138_n55 : KK := CQ (f138_b [1, 0, 1, 2, 1, 1, 1, 1]) f138_m1 kx0 f138_r
noncomputable def f138_m55 : KK := clr 1684996666696914987166688442938726917102321526408785780068975640575 f138_n55
noncomputable def sMg_k55 (H : AH) : OV := f138_n55 (ls [] 220) H
noncomputable def f138_n56 : KK := CQ (f138_b [1, 0, 1, 2, 1, 1, 1, 0, 1]) f138_m55 kx0 f138_r
noncomputable def sMg_k56 (x0 x14 x17 : Value) (H : AH) : OV := f138_n56 (ls [x0, u, u, u, u, u, u, u, u, u, u, u, u, u, x14, u, u, x17] 202) H
noncomputable def f138_x57 : KX := BX 6 f138_m55 kx0
noncomputable def f138_y57 : KX := clx 1684996666696914987166688442938726917102321526408785780068975640575 f138_x57
noncomputable def f138_n58 : KK := CLq (f138_b [1, 0, 1, 2, 1, 1, 1, 0, 1, 4, 5]) f138_y57 f138_r
noncomputable def f138_m58 : KK := clr 1684996666696914987166688442938726917102321526408785780068975493118 f138_n58
noncomputable def sMg_k58 (x0 x14 x17 : Value) (H : AH) : OV := f138_n58 (ls [x0, u, u, u, u, u, u, u, u, u, u, u, u, u, x14, u, u, x17] 202) H
noncomputable def f138_n59 : KK := CQ (f138_b [1, 0, 1, 2, 1, 1, 1, 0, 1, 4, 5, 1]) f138_m58 f138_y57 f138_r
noncomputable def sMg_k59 (x0 x14 x17 : Value) (H : AH) : OV := f138_n59 (ls [x0, u, u, u, u, u, u, u, u, u, u, u, u, u, x14, u, u, x17] 202) H
noncomputable def f138_n60 : KK := CQ (f138_b [1, 0, 1, 2, 1, 1, 1, 0, 1, 4, 5, 1, 1]) f138_m58 f138_y57 f138_r
noncomputable def f138_m60 : KK := clr 1684996666696914987166688442938726917102321526408785780068975493118 f138_n60
noncomputable def sMg_k60 (x0 x14 x17 : Value) (H : AH) : OV := f138_n60 (ls [x0, u, u, u, u, u, u, u, u, u, u, u, u, u, x14, u, u, x17] 202) H
noncomputable def f138_x62 : KX := BX 7 f138_m60 f138_y57
noncomputable def sMg_e57_6 (H : AH) : OV := f138_x57 6 (ls [] 220) H
noncomputable def f138_x70 : KX := BX 4 f138_m54 kx0
noncomputable def f138_y70 : KX := clx 1684996666696914987166688442938726917102321526408785780068975624186 f138_x70
noncomputable def f138_n71 : KK := CLq (f138_b [1, 0, 1, 2, 1, 1, 0, 4, 5]) f138_y70 f138_r
noncomputable def f138_m71 : KK := clr 1684996666696914987166688442938726917102321526408785780068975591402 f138_n71
noncomputable def sMg_k71 (x0 x2 x4 x14 x15 : Value) (H : AH) : OV := f138_n71 (ls [x0, u, x2, u, x4, u, u, u, u, u, u, u, u, u, x14, x15] 204) H
noncomputable def f138_n72 : KK := CQ (f138_b [1, 0, 1, 2, 1, 1, 0, 4, 5, 1]) f138_m71 f138_y70 f138_r
noncomputable def sMg_k72 (x0 x2 x4 x14 x15 : Value) (H : AH) : OV := f138_n72 (ls [x0, u, x2, u, x4, u, u, u, u, u, u, u, u, u, x14, x15] 204) H
noncomputable def f138_x73 : KX := BX 5 f138_m71 f138_y70
noncomputable def sMg_e70_4 (x0 x2 x14 : Value) (H : AH) : OV := f138_x70 4 (ls [x0, u, x2, u, u, u, u, u, u, u, u, u, u, u, x14] 205) H
noncomputable def f138_n87 : KK := CQ (f138_b [0, 1]) f138_m0 kx0 f138_r
noncomputable def sMg_k87 (x0 x1 x2 x3 x4 x28 : Value) (H : AH) : OV := f138_n87 (ls [x0, x1, x2, x3, x4, u, u, u, u, u, u, u, u, u, u, u, u, u, u, u, u, u, u, u, u, u, u, u, x28] 191) H
noncomputable def f138_n88 : KK := CQ (f138_b [0, 1, 2, 1, 1]) f138_m0 kx0 f138_r
noncomputable def sMg_k88 (x0 x1 x4 x10 x11 : Value) (H : AH) : OV := f138_n88 (ls [x0, x1, u, u, x4, u, u, u, u, u, x10, x11] 208) H
noncomputable def f138_n89 : KK := CQ (f138_b [0, 1, 2, 1, 1, 1]) f138_m0 kx0 f138_r
noncomputable def f138_m89 : KK := clr 1684996666696914987166688442938726917102321526408785780068975639548 f138_n89
noncomputable def sMg_k89 (x0 x1 x10 : Value) (H : AH) : OV := f138_n89 (ls [x0, x1, u, u, u, u, u, u, u, u, x10] 209) H
noncomputable def f138_n90 : KK := CQ (f138_b [0, 1, 2, 1, 1, 1, 1]) f138_m0 kx0 f138_r
noncomputable def f138_m90 : KK := clr 1684996666696914987166688442938726917102321526408785780068975640575 f138_n90
noncomputable def sMg_k90 (H : AH) : OV := f138_n90 (ls [] 220) H
noncomputable def f138_n91 : KK := CQ (f138_b [0, 1, 2, 1, 1, 1, 0, 1]) f138_m90 kx0 f138_r
noncomputable def sMg_k91 (x0 x10 x13 : Value) (H : AH) : OV := f138_n91 (ls [x0, u, u, u, u, u, u, u, u, u, x10, u, u, x13] 206) H
noncomputable def f138_x92 : KX := BX 2 f138_m90 kx0
noncomputable def f138_y92 : KX := clx 1684996666696914987166688442938726917102321526408785780068975640575 f138_x92
noncomputable def f138_n93 : KK := CLq (f138_b [0, 1, 2, 1, 1, 1, 0, 1, 4, 5]) f138_y92 f138_r
noncomputable def f138_m93 : KK := clr 1684996666696914987166688442938726917102321526408785780068975631358 f138_n93
noncomputable def sMg_k93 (x0 x10 x13 : Value) (H : AH) : OV := f138_n93 (ls [x0, u, u, u, u, u, u, u, u, u, x10, u, u, x13] 206) H
noncomputable def f138_n94 : KK := CQ (f138_b [0, 1, 2, 1, 1, 1, 0, 1, 4, 5, 1]) f138_m93 f138_y92 f138_r
noncomputable def sMg_k94 (x0 x10 x13 : Value) (H : AH) : OV := f138_n94 (ls [x0, u, u, u, u, u, u, u, u, u, x10, u, u, x13] 206) H
noncomputable def f138_n95 : KK := CQ (f138_b [0, 1, 2, 1, 1, 1, 0, 1, 4, 5, 1, 1]) f138_m93 f138_y92 f138_r
noncomputable def f138_m95 : KK := clr 1684996666696914987166688442938726917102321526408785780068975631358 f138_n95
noncomputable def sMg_k95 (x0 x10 x13 : Value) (H : AH) : OV := f138_n95 (ls [x0, u, u, u, u, u, u, u, u, u, x10, u, u, x13] 206) H
noncomputable def f138_x97 : KX := BX 3 f138_m95 f138_y92
noncomputable def sMg_e92_2 (H : AH) : OV := f138_x92 2 (ls [] 220) H
noncomputable def f138_x106 : KX := BX 0 f138_m89 kx0
noncomputable def f138_y106 : KX := clx 1684996666696914987166688442938726917102321526408785780068975639548 f138_x106
noncomputable def f138_n107 : KK := CLq (f138_b [0, 1, 2, 1, 1, 0, 4, 5]) f138_y106 f138_r
noncomputable def f138_m107 : KK := clr 1684996666696914987166688442938726917102321526408785780068975637484 f138_n107
noncomputable def sMg_k107 (x0 x1 x4 x10 x11 : Value) (H : AH) : OV := f138_n107 (ls [x0, x1, u, u, x4, u, u, u, u, u, x10, x11] 208) H
noncomputable def f138_n108 : KK := CQ (f138_b [0, 1, 2, 1, 1, 0, 4, 5, 1]) f138_m107 f138_y106 f138_r
noncomputable def sMg_k108 (x0 x1 x4 x10 x11 : Value) (H : AH) : OV := f138_n108 (ls [x0, x1, u, u, x4, u, u, u, u, u, x10, x11] 208) H
noncomputable def f138_x109 : KX := BX 1 f138_m107 f138_y106
noncomputable def sMg_e106_0 (x0 x1 x10 : Value) (H : AH) : OV := f138_x106 0 (ls [x0, x1, u, u, u, u, u, u, u, u, x10] 209) H
theorem f138_r_d : Resp 1684996666696914987166688442938726917102321526408785780068975640575 f138_r := rf
theorem f138_n0_d : Resp 1684996666696914987166688442938726917102321526408785780068975640544 f138_n0 := rc f138_r_d kx0_d f138_r_d
theorem f138_n1_d : Resp 1684996666696914987166688442938726917102321526408785780068975640544 f138_n1 := rc f138_r_d kx0_d f138_r_d
theorem f138_n2_d : Resp 1684996666696914987166688442938726917102321526408785780068974854112 f138_n2 := rc f138_r_d kx0_d f138_r_d
theorem f138_n3_d : Resp 1684996666696914987166688442938726917102321526408785780068971708384 f138_n3 := rc f138_r_d kx0_d f138_r_d
theorem f138_n4_d : Resp 1684996666696914987166688442938726917102321526408785780068967514080 f138_n4 := rc f138_r_d kx0_d f138_r_d
theorem f138_n5_d : Resp 1684996666696914987166688442938726917102321526408785780068973805536 f138_n5 := rc f138_r_d kx0_d f138_r_d
theorem f138_n6_d : Resp 1684996666696914987166688442938726917102321526408785780068957552608 f138_n6 := rc f138_r_d kx0_d f138_r_d
theorem f138_n7_d : Resp 1684996666696914987166688442938726917102321526408785780068957552612 f138_n7 := rc f138_r_d kx0_d f138_r_d
theorem f138_n8_d : Resp 1684996666696914987166688442938726917102321526408785780068958601190 f138_n8 := rc f138_r_d kx0_d f138_r_d
theorem f138_x28_d : ∀ i, Resp 1684996666696914987166688442938726917102321526408785780068973805536 (f138_x28 i) := rb (cd f138_n5_d) kx0_d
theorem f138_n29_d : Resp 1684996666696914987166688442938726917102321526408785780068967514080 f138_n29 := rl (cx f138_x28_d) f138_r_d
theorem f138_n30_d : Resp 1684996666696914987166688442938726917102321526408785780068967514080 f138_n30 := rc (cd f138_n29_d) (cx f138_x28_d) f138_r_d
theorem f138_x31_d : ∀ i, Resp 1684996666696914987166688442938726917102321526408785780068967514080 (f138_x31 i) := rb (cd f138_n29_d) (cx f138_x28_d)
theorem f138_n52_d : Resp 1684996666696914987166688442938726917102320317482966165439800934368 f138_n52 := rc (cd f138_n1_d) kx0_d f138_r_d
theorem f138_n53_d : Resp 1684996666696914987166688442938726917102321526408785780068975591402 f138_n53 := rc (cd f138_n1_d) kx0_d f138_r_d
theorem f138_n54_d : Resp 1684996666696914987166688442938726917102321526408785780068975624186 f138_n54 := rc (cd f138_n1_d) kx0_d f138_r_d
theorem f138_n55_d : Resp 1684996666696914987166688442938726917102321526408785780068975640575 f138_n55 := rc (cd f138_n1_d) kx0_d f138_r_d
theorem f138_n56_d : Resp 1684996666696914987166688442938726917102321526408785780068975493118 f138_n56 := rc (cd f138_n55_d) kx0_d f138_r_d
theorem f138_x57_d : ∀ i, Resp 1684996666696914987166688442938726917102321526408785780068975640575 (f138_x57 i) := rb (cd f138_n55_d) kx0_d
theorem f138_n58_d : Resp 1684996666696914987166688442938726917102321526408785780068975493118 f138_n58 := rl (cx f138_x57_d) f138_r_d
theorem f138_n59_d : Resp 1684996666696914987166688442938726917102321526408785780068975493118 f138_n59 := rc (cd f138_n58_d) (cx f138_x57_d) f138_r_d
theorem f138_n60_d : Resp 1684996666696914987166688442938726917102321526408785780068975493118 f138_n60 := rc (cd f138_n58_d) (cx f138_x57_d) f138_r_d
theorem f138_x62_d : ∀ i, Resp 1684996666696914987166688442938726917102321526408785780068975493118 (f138_x62 i) := rb (cd f138_n60_d) (cx f138_x57_d)
theorem f138_x70_d : ∀ i, Resp 1684996666696914987166688442938726917102321526408785780068975624186 (f138_x70 i) := rb (cd f138_n54_d) kx0_d
theorem f138_n71_d : Resp 1684996666696914987166688442938726917102321526408785780068975591402 f138_n71 := rl (cx f138_x70_d) f138_r_d
theorem f138_n72_d : Resp 1684996666696914987166688442938726917102321526408785780068975591402 f138_n72 := rc (cd f138_n71_d) (cx f138_x70_d) f138_r_d
theorem f138_x73_d : ∀ i, Resp 1684996666696914987166688442938726917102321526408785780068975591402 (f138_x73 i) := rb (cd f138_n71_d) (cx f138_x70_d)
theorem f138_n87_d : Resp 1684996666696914987166688442938726917102321526408785780068707205088 f138_n87 := rc (cd f138_n0_d) kx0_d f138_r_d
theorem f138_n88_d : Resp 1684996666696914987166688442938726917102321526408785780068975637484 f138_n88 := rc (cd f138_n0_d) kx0_d f138_r_d
theorem f138_n89_d : Resp 1684996666696914987166688442938726917102321526408785780068975639548 f138_n89 := rc (cd f138_n0_d) kx0_d f138_r_d
theorem f138_n90_d : Resp 1684996666696914987166688442938726917102321526408785780068975640575 f138_n90 := rc (cd f138_n0_d) kx0_d f138_r_d
theorem f138_n91_d : Resp 1684996666696914987166688442938726917102321526408785780068975631358 f138_n91 := rc (cd f138_n90_d) kx0_d f138_r_d
theorem f138_x92_d : ∀ i, Resp 1684996666696914987166688442938726917102321526408785780068975640575 (f138_x92 i) := rb (cd f138_n90_d) kx0_d
theorem f138_n93_d : Resp 1684996666696914987166688442938726917102321526408785780068975631358 f138_n93 := rl (cx f138_x92_d) f138_r_d
theorem f138_n94_d : Resp 1684996666696914987166688442938726917102321526408785780068975631358 f138_n94 := rc (cd f138_n93_d) (cx f138_x92_d) f138_r_d
theorem f138_n95_d : Resp 1684996666696914987166688442938726917102321526408785780068975631358 f138_n95 := rc (cd f138_n93_d) (cx f138_x92_d) f138_r_d
theorem f138_x97_d : ∀ i, Resp 1684996666696914987166688442938726917102321526408785780068975631358 (f138_x97 i) := rb (cd f138_n95_d) (cx f138_x92_d)
theorem f138_x106_d : ∀ i, Resp 1684996666696914987166688442938726917102321526408785780068975639548 (f138_x106 i) := rb (cd f138_n89_d) kx0_d
theorem f138_n107_d : Resp 1684996666696914987166688442938726917102321526408785780068975637484 f138_n107 := rl (cx f138_x106_d) f138_r_d
theorem f138_n108_d : Resp 1684996666696914987166688442938726917102321526408785780068975637484 f138_n108 := rc (cd f138_n107_d) (cx f138_x106_d) f138_r_d
theorem f138_x109_d : ∀ i, Resp 1684996666696914987166688442938726917102321526408785780068975637484 (f138_x109 i) := rb (cd f138_n107_d) (cx f138_x106_d)
theorem sMg_k8_eq (x0 x3 x4 x18 x24 : Value) (H : AH) : sMg_k8 x0 x3 x4 x18 x24 H =
 (pBin .other .lss x18 x24).bind fun v9 =>
 (gV v9 true x24).bind fun v10 =>
 (gV v9 true x3).bind fun v11 =>
 (gB v9 true (pBin .other .lss v10 v11)).bind fun v12 =>
 (pPick v9 v12 (vb false)).bind fun v13 =>
 condK v13
 ((FF n_sMg [x0, x18, x24, x3, x4] H).bind fun r14 =>
 some (Value.tuple #[], r14.2))
 (some (Value.tuple #[], H)) :=
 (by kernel_rfl)
theorem sMg_k7_eq (x0 x1 x3 x4 x18 x20 x24 : Value) (H : AH) : sMg_k7 x0 x1 x3 x4 x18 x20 x24 H =
 (pBin .other .lss x1 x20).bind fun v15 =>
 (gV v15 true x20).bind fun v16 =>
 (gV v15 true x18).bind fun v17 =>
 (gB v15 true (pBin .other .lss v16 v17)).bind fun v18 =>
 (pPick v15 v18 (vb false)).bind fun v19 =>
 condK v19
 ((FF n_sMg [x0, x1, x20, x18, x4] H).bind fun r20 =>
 sMg_k8 x0 x3 x4 x18 x24 r20.2)
 (sMg_k8 x0 x3 x4 x18 x24 H) :=
 (pt rfl 0 f138_n8_d (by kernel_rfl))
theorem sMg_k6_eq (x0 x1 x2 x3 x4 x18 x20 x24 : Value) (H : AH) : sMg_k6 x0 x1 x2 x3 x4 x18 x20 x24 H =
 (pBin .other .lss x20 x2).bind fun v21 =>
 (gV v21 true x2).bind fun v22 =>
 (gV v21 true x24).bind fun v23 =>
 (gB v21 true (pBin .other .lss v22 v23)).bind fun v24 =>
 (pPick v21 v24 (vb false)).bind fun v25 =>
 condK v25
 ((FF n_sRo [x0, x20, x2, x24, x4] H).bind fun r26 =>
 sMg_k7 x0 x1 x3 x4 x18 x20 x24 r26.2)
 (sMg_k7 x0 x1 x3 x4 x18 x20 x24 H) :=
 (pt rfl 0 f138_n7_d (by kernel_rfl))
theorem sMg_k5_eq (x0 x1 x2 x3 x4 x18 x19 x20 : Value) (H : AH) : sMg_k5 x0 x1 x2 x3 x4 x18 x19 x20 H =
 (pBin .other .sub x19 x20).bind fun v27 =>
 sMg_k6 x0 x1 x2 x3 x4 x18 x20 v27 H :=
 (pt rfl 0 f138_n6_d (by kernel_rfl))
theorem sMg_k30_eq (x0 x1 x2 x3 x4 x18 x19 x20 x21 x22 : Value) (H : AH) : sMg_k30 x0 x1 x2 x3 x4 x18 x19 x20 x21 x22 H =
 (pBin .other .add x20 x21).bind fun v32 =>
 (pConv (some .u64) v32).bind fun v33 =>
 (pBin .other .shr v33 (vw 1)).bind fun v34 =>
 (pConv (some .i64) v34).bind fun v35 =>
 (pBin .other .sub x22 v35).bind fun v36 =>
 ldN 7 [.i 7 v36] x0 H fun v37 =>
 ldN 7 [.i 7 v35] x0 H fun v38 =>
 (pCallee x4 [v37, v38]).bind fun c => (FF c.1 c.2 H).bind fun r39 =>
 (pBin .other .lss r39.1 (vi 0)).bind fun v40 =>
 (pUn .not v40).bind fun v41 =>
 condK v41
 ((pBin .other .add v35 (vi 1)).bind fun v42 =>
 sMg_k29 x0 x1 x2 x3 x4 x18 x19 v42 x21 x22 r39.2)
 (sMg_k29 x0 x1 x2 x3 x4 x18 x19 x20 v35 x22 r39.2) :=
 (bt rfl (f138_b [1, 1, 1, 1, 1, 1, 1, 0, 4, 5, 1, 4]) 9 f138_x31_d (by kernel_rfl))
theorem sMg_e28_8_eq (x0 x1 x2 x3 x4 x18 x19 x20 : Value) (H : AH) : sMg_e28_8 x0 x1 x2 x3 x4 x18 x19 x20 H = sMg_k5 x0 x1 x2 x3 x4 x18 x19 x20 H :=
 (by kernel_rfl)
theorem sMg_k29_eq (x0 x1 x2 x3 x4 x18 x19 x20 x21 x22 : Value) (H : AH) : sMg_k29 x0 x1 x2 x3 x4 x18 x19 x20 x21 x22 H =
 (pBin .other .lss x20 x21).bind fun v43 =>
 condK v43
 (sMg_k30 x0 x1 x2 x3 x4 x18 x19 x20 x21 x22 H)
 (sMg_e28_8 x0 x1 x2 x3 x4 x18 x19 x20 H) :=
 lt' rfl f138_n29_d (pt rfl 0 f138_n30_d (by kernel_rfl))
theorem sMg_k4_eq (x0 x1 x2 x3 x4 x18 x19 x20 x21 x22 : Value) (H : AH) : sMg_k4 x0 x1 x2 x3 x4 x18 x19 x20 x21 x22 H =
 sMg_k29 x0 x1 x2 x3 x4 x18 x19 x20 x21 x22 H :=
 (pt rfl 0 f138_n5_d (bt rfl (f138_b [1, 1, 1, 1, 1, 1, 1, 0, 4]) 8 f138_x28_d (li rfl (f138_b [1, 1, 1, 1, 1, 1, 1, 0, 4, 5]) f138_n29_d (by kernel_rfl))))
theorem sMg_k3_eq (x0 x1 x2 x3 x4 x18 x19 x20 x21 : Value) (H : AH) : sMg_k3 x0 x1 x2 x3 x4 x18 x19 x20 x21 H =
 (pBin .other .sub x19 (vi 1)).bind fun v44 =>
 sMg_k4 x0 x1 x2 x3 x4 x18 x19 x20 x21 v44 H :=
 (pt rfl 0 f138_n4_d (by kernel_rfl))
theorem sMg_k2_eq (x0 x1 x2 x3 x4 x18 x19 : Value) (H : AH) : sMg_k2 x0 x1 x2 x3 x4 x18 x19 H =
 (pBin .other .gtr x2 x18).bind fun v45 =>
 condK v45
 ((pBin .other .sub x19 x3).bind fun v46 =>
 sMg_k3 x0 x1 x2 x3 x4 x18 x19 v46 x18 H)
 (sMg_k3 x0 x1 x2 x3 x4 x18 x19 x1 x2 H) :=
 (pt rfl 0 f138_n3_d (by kernel_rfl))
theorem sMg_k1_eq (x0 x1 x2 x3 x4 : Value) (H : AH) : sMg_k1 x0 x1 x2 x3 x4 H =
 (pBin .other .add x1 x3).bind fun v47 =>
 (pConv (some .u64) v47).bind fun v48 =>
 (pBin .other .shr v48 (vw 1)).bind fun v49 =>
 (pConv (some .i64) v49).bind fun v50 =>
 (pBin .other .add v50 x2).bind fun v51 =>
 sMg_k2 x0 x1 x2 x3 x4 v50 v51 H :=
 (pt rfl 2 f138_n2_d (by kernel_rfl))
theorem sMg_k55_eq (H : AH) : sMg_k55 H =
 some (Value.tuple #[], H) :=
 (by kernel_rfl)
theorem sMg_k60_eq (x0 x14 x17 : Value) (H : AH) : sMg_k60 x0 x14 x17 H =
 (pBin .other .sub x17 (vi 1)).bind fun v61 =>
 sMg_k58 x0 x14 v61 H :=
 (by kernel_rfl)
theorem sMg_k59_eq (x0 x14 x17 : Value) (H : AH) : sMg_k59 x0 x14 x17 H =
 (pBin .other .sub x17 (vi 1)).bind fun v63 =>
 (pBin .other .sub x17 (vi 1)).bind fun v64 =>
 ldN 7 [.i 7 v64] x0 H fun v65 =>
 ldN 7 [.i 7 x17] x0 H fun v66 =>
 st 7 [.i 7 x17] x0 v65 H fun H67 =>
 st 7 [.i 7 v63] x0 v66 H67 fun H68 =>
 sMg_k60 x0 x14 x17 H68 :=
 (pt rfl 0 f138_n60_d (bt rfl (f138_b [1, 0, 1, 2, 1, 1, 1, 0, 1, 4, 5, 1, 0, 4]) 7 f138_x62_d (by kernel_rfl)))
theorem sMg_e57_6_eq (H : AH) : sMg_e57_6 H = sMg_k55 H :=
 (by kernel_rfl)
theorem sMg_k58_eq (x0 x14 x17 : Value) (H : AH) : sMg_k58 x0 x14 x17 H =
 (pBin .other .gtr x17 x14).bind fun v69 =>
 condK v69
 (sMg_k59 x0 x14 x17 H)
 (sMg_e57_6 H) :=
 lt' rfl f138_n58_d (pt rfl 0 f138_n59_d (by kernel_rfl))
theorem sMg_k56_eq (x0 x14 x17 : Value) (H : AH) : sMg_k56 x0 x14 x17 H =
 sMg_k58 x0 x14 x17 H :=
 (bt rfl (f138_b [1, 0, 1, 2, 1, 1, 1, 0, 1, 4]) 6 f138_x57_d (li rfl (f138_b [1, 0, 1, 2, 1, 1, 1, 0, 1, 4, 5]) f138_n58_d (by kernel_rfl)))
theorem sMg_k54_eq (x0 x2 x14 : Value) (H : AH) : sMg_k54 x0 x2 x14 H =
 sMg_k56 x0 x14 x2 H :=
 (pt rfl 0 f138_n55_d (pt rfl 0 f138_n56_d (by kernel_rfl)))
theorem sMg_k72_eq (x0 x2 x4 x14 x15 : Value) (H : AH) : sMg_k72 x0 x2 x4 x14 x15 H =
 (pBin .other .add x14 x15).bind fun v74 =>
 (pConv (some .u64) v74).bind fun v75 =>
 (pBin .other .shr v75 (vw 1)).bind fun v76 =>
 (pConv (some .i64) v76).bind fun v77 =>
 ldN 7 [.i 7 x2] x0 H fun v78 =>
 ldN 7 [.i 7 v77] x0 H fun v79 =>
 (pCallee x4 [v78, v79]).bind fun c => (FF c.1 c.2 H).bind fun r80 =>
 (pBin .other .lss r80.1 (vi 0)).bind fun v81 =>
 (pUn .not v81).bind fun v82 =>
 condK v82
 ((pBin .other .add v77 (vi 1)).bind fun v83 =>
 sMg_k71 x0 x2 x4 v83 x15 r80.2)
 (sMg_k71 x0 x2 x4 x14 v77 r80.2) :=
 (bt rfl (f138_b [1, 0, 1, 2, 1, 1, 0, 4, 5, 1, 4]) 5 f138_x73_d (by kernel_rfl))
theorem sMg_e70_4_eq (x0 x2 x14 : Value) (H : AH) : sMg_e70_4 x0 x2 x14 H = sMg_k54 x0 x2 x14 H :=
 (by kernel_rfl)
theorem sMg_k71_eq (x0 x2 x4 x14 x15 : Value) (H : AH) : sMg_k71 x0 x2 x4 x14 x15 H =
 (pBin .other .lss x14 x15).bind fun v84 =>
 condK v84
 (sMg_k72 x0 x2 x4 x14 x15 H)
 (sMg_e70_4 x0 x2 x14 H) :=
 lt' rfl f138_n71_d (pt rfl 0 f138_n72_d (by kernel_rfl))
theorem sMg_k53_eq (x0 x2 x4 x14 x15 : Value) (H : AH) : sMg_k53 x0 x2 x4 x14 x15 H =
 sMg_k71 x0 x2 x4 x14 x15 H :=
 (pt rfl 0 f138_n54_d (bt rfl (f138_b [1, 0, 1, 2, 1, 1, 0, 4]) 4 f138_x70_d (li rfl (f138_b [1, 0, 1, 2, 1, 1, 0, 4, 5]) f138_n71_d (by kernel_rfl))))
theorem sMg_k52_eq (x0 x1 x2 x3 x4 x80 : Value) (H : AH) : sMg_k52 x0 x1 x2 x3 x4 x80 H =
 condK x80
 (sMg_k53 x0 x2 x4 x1 x2 H)
 (sMg_k1 x0 x1 x2 x3 x4 H) :=
 (ct rfl (f138_b [1, 0, 1, 2]) (f138_b [1, 0, 1, 3]) (.tmp 80) (pt rfl 1 f138_n53_d (by kernel_rfl)) (by kernel_rfl))
theorem sMg_k0_eq (x0 x1 x2 x3 x4 : Value) (H : AH) : sMg_k0 x0 x1 x2 x3 x4 H =
 (pBin .other .sub x3 x2).bind fun v85 =>
 (pBin .other .eql v85 (vi 1)).bind fun v86 =>
 sMg_k52 x0 x1 x2 x3 x4 v86 H :=
 (pt rfl 0 f138_n1_d (pt rfl 0 f138_n52_d (by kernel_rfl)))
theorem sMg_k90_eq (H : AH) : sMg_k90 H =
 some (Value.tuple #[], H) :=
 (by kernel_rfl)
theorem sMg_k95_eq (x0 x10 x13 : Value) (H : AH) : sMg_k95 x0 x10 x13 H =
 (pBin .other .add x13 (vi 1)).bind fun v96 =>
 sMg_k93 x0 x10 v96 H :=
 (by kernel_rfl)
theorem sMg_k94_eq (x0 x10 x13 : Value) (H : AH) : sMg_k94 x0 x10 x13 H =
 (pBin .other .add x13 (vi 1)).bind fun v98 =>
 (pBin .other .add x13 (vi 1)).bind fun v99 =>
 ldN 7 [.i 7 v99] x0 H fun v100 =>
 ldN 7 [.i 7 x13] x0 H fun v101 =>
 st 7 [.i 7 x13] x0 v100 H fun H102 =>
 st 7 [.i 7 v98] x0 v101 H102 fun H103 =>
 sMg_k95 x0 x10 x13 H103 :=
 (pt rfl 0 f138_n95_d (bt rfl (f138_b [0, 1, 2, 1, 1, 1, 0, 1, 4, 5, 1, 0, 4]) 3 f138_x97_d (by kernel_rfl)))
theorem sMg_e92_2_eq (H : AH) : sMg_e92_2 H = sMg_k90 H :=
 (by kernel_rfl)
theorem sMg_k93_eq (x0 x10 x13 : Value) (H : AH) : sMg_k93 x0 x10 x13 H =
 (pBin .other .sub x10 (vi 1)).bind fun v104 =>
 (pBin .other .lss x13 v104).bind fun v105 =>
 condK v105
 (sMg_k94 x0 x10 x13 H)
 (sMg_e92_2 H) :=
 lt' rfl f138_n93_d (pt rfl 0 f138_n94_d (by kernel_rfl))
theorem sMg_k91_eq (x0 x10 x13 : Value) (H : AH) : sMg_k91 x0 x10 x13 H =
 sMg_k93 x0 x10 x13 H :=
 (bt rfl (f138_b [0, 1, 2, 1, 1, 1, 0, 1, 4]) 2 f138_x92_d (li rfl (f138_b [0, 1, 2, 1, 1, 1, 0, 1, 4, 5]) f138_n93_d (by kernel_rfl)))
theorem sMg_k89_eq (x0 x1 x10 : Value) (H : AH) : sMg_k89 x0 x1 x10 H =
 sMg_k91 x0 x10 x1 H :=
 (pt rfl 0 f138_n90_d (pt rfl 0 f138_n91_d (by kernel_rfl)))
theorem sMg_k108_eq (x0 x1 x4 x10 x11 : Value) (H : AH) : sMg_k108 x0 x1 x4 x10 x11 H =
 (pBin .other .add x10 x11).bind fun v110 =>
 (pConv (some .u64) v110).bind fun v111 =>
 (pBin .other .shr v111 (vw 1)).bind fun v112 =>
 (pConv (some .i64) v112).bind fun v113 =>
 ldN 7 [.i 7 v113] x0 H fun v114 =>
 ldN 7 [.i 7 x1] x0 H fun v115 =>
 (pCallee x4 [v114, v115]).bind fun c => (FF c.1 c.2 H).bind fun r116 =>
 (pBin .other .lss r116.1 (vi 0)).bind fun v117 =>
 condK v117
 ((pBin .other .add v113 (vi 1)).bind fun v118 =>
 sMg_k107 x0 x1 x4 v118 x11 r116.2)
 (sMg_k107 x0 x1 x4 x10 v113 r116.2) :=
 (bt rfl (f138_b [0, 1, 2, 1, 1, 0, 4, 5, 1, 4]) 1 f138_x109_d (by kernel_rfl))
theorem sMg_e106_0_eq (x0 x1 x10 : Value) (H : AH) : sMg_e106_0 x0 x1 x10 H = sMg_k89 x0 x1 x10 H :=
 (by kernel_rfl)
theorem sMg_k107_eq (x0 x1 x4 x10 x11 : Value) (H : AH) : sMg_k107 x0 x1 x4 x10 x11 H =
 (pBin .other .lss x10 x11).bind fun v119 =>
 condK v119
 (sMg_k108 x0 x1 x4 x10 x11 H)
 (sMg_e106_0 x0 x1 x10 H) :=
 lt' rfl f138_n107_d (pt rfl 0 f138_n108_d (by kernel_rfl))
theorem sMg_k88_eq (x0 x1 x4 x10 x11 : Value) (H : AH) : sMg_k88 x0 x1 x4 x10 x11 H =
 sMg_k107 x0 x1 x4 x10 x11 H :=
 (pt rfl 0 f138_n89_d (bt rfl (f138_b [0, 1, 2, 1, 1, 0, 4]) 0 f138_x106_d (li rfl (f138_b [0, 1, 2, 1, 1, 0, 4, 5]) f138_n107_d (by kernel_rfl))))
theorem sMg_k87_eq (x0 x1 x2 x3 x4 x28 : Value) (H : AH) : sMg_k87 x0 x1 x2 x3 x4 x28 H =
 condK x28
 (sMg_k88 x0 x1 x4 x2 x3 H)
 (sMg_k0 x0 x1 x2 x3 x4 H) :=
 (ct rfl (f138_b [0, 1, 2]) (f138_b [0, 1, 3]) (.tmp 28) (pt rfl 1 f138_n88_d (by kernel_rfl)) (by kernel_rfl))
noncomputable def sMg (x0 x1 x2 x3 x4 : Value) (H : AH) : OV := cCode PP GG FF (f138_b []) (ls [x0, x1, x2, x3, x4] 215) H f138_r kx0 f138_r
theorem sMg_of (x0 x1 x2 x3 x4 : Value) (H : AH) {r : Value × AH} (h : (
 (pBin .other .sub x2 x1).bind fun v120 =>
 (pBin .other .eql v120 (vi 1)).bind fun v121 =>
 sMg_k87 x0 x1 x2 x3 x4 v121 H) = some r) : FF n_sMg [x0, x1, x2, x3, x4] H = some r :=
 fo (t := sMg x0 x1 x2 x3 x4 H) Tryz.func138 (by kernel_rfl) (Eq.trans (pt rfl 0 f138_n0_d (pt rfl 0 f138_n87_d (by kernel_rfl))) h)
theorem cmp_isNaNint_of (x0 : Value) (H : AH) {r : Value × AH} (h : (
 (pBin .other .neq x0 x0).bind fun v0 =>
 some (v0, H)) = some r) : FF n_cmp_isNaNint [x0] H = some r :=
 fo Tryz.func139 (by kernel_rfl) h
noncomputable def f140_b (p : List Nat) : Code := Code.sub (bodyOf Tryz.f140) p
noncomputable def f140_r : KK := cFin PP (Tryz.f140).results.toList
noncomputable def f140_n0 : KK := CQ (f140_b [1, 1]) f140_r kx0 f140_r
noncomputable def rPN_k0 (x0 x1 x2 x7 x8 : Value) (H : AH) : OV := f140_n0 (ls [x0, x1, x2, u, u, u, u, x7, x8] 81) H
noncomputable def f140_n1 : KK := CQ (f140_b [1, 1, 1]) f140_r kx0 f140_r
noncomputable def f140_m1 : KK := clr 1237940039285380274899123832 f140_n1
noncomputable def rPN_k1 (x0 x1 x2 x7 x8 : Value) (H : AH) : OV := f140_n1 (ls [x0, x1, x2, u, u, u, u, x7, x8] 81) H
noncomputable def f140_n2 : KK := CQ (f140_b [1, 1, 1, 1, 1]) f140_r kx0 f140_r
noncomputable def rPN_k2 (x0 x1 x2 x7 x8 x10 : Value) (H : AH) : OV := f140_n2 (ls [x0, x1, x2, u, u, u, u, x7, x8, u, x10] 79) H
noncomputable def f140_n3 : KK := CQ (f140_b [1, 1, 1, 1, 1, 1]) f140_r kx0 f140_r
noncomputable def f140_m3 : KK := clr 1237940039285380274899122808 f140_n3
noncomputable def rPN_k3 (x0 x1 x2 x7 x8 x10 : Value) (H : AH) : OV := f140_n3 (ls [x0, x1, x2, u, u, u, u, x7, x8, u, x10] 79) H
noncomputable def f140_x16 : KX := BX 2 f140_m3 kx0
noncomputable def f140_y16 : KX := clx 1237940039285380274899122808 f140_x16
noncomputable def f140_n17 : KK := CLq (f140_b [1, 1, 1, 1, 1, 0, 4, 5]) f140_y16 f140_r
noncomputable def f140_m17 : KK := clr 1237940039285380274899122808 f140_n17
noncomputable def rPN_k17 (x0 x1 x2 x7 x8 x10 : Value) (H : AH) : OV := f140_n17 (ls [x0, x1, x2, u, u, u, u, x7, x8, u, x10] 79) H
noncomputable def f140_n18 : KK := CQ (f140_b [1, 1, 1, 1, 1, 0, 4, 5, 1]) f140_m17 f140_y16 f140_r
noncomputable def rPN_k18 (x0 x1 x2 x7 x8 x10 : Value) (H : AH) : OV := f140_n18 (ls [x0, x1, x2, u, u, u, u, x7, x8, u, x10] 79) H
noncomputable def f140_x19 : KX := BX 3 f140_m17 f140_y16
noncomputable def rPN_e16_2 (x0 x1 x2 x7 x8 x10 : Value) (H : AH) : OV := f140_x16 2 (ls [x0, x1, x2, u, u, u, u, x7, x8, u, x10] 79) H
noncomputable def f140_n35 : KK := CQ (f140_b [1, 1, 0, 1]) f140_m1 kx0 f140_r
noncomputable def rPN_k35 (x0 x1 x2 x7 x8 x9 : Value) (H : AH) : OV := f140_n35 (ls [x0, x1, x2, u, u, u, u, x7, x8, x9] 80) H
noncomputable def f140_x36 : KX := BX 0 f140_m1 kx0
noncomputable def f140_y36 : KX := clx 1237940039285380274899123832 f140_x36
noncomputable def f140_n37 : KK := CLq (f140_b [1, 1, 0, 1, 4, 5]) f140_y36 f140_r
noncomputable def f140_m37 : KK := clr 1237940039285380274899123320 f140_n37
noncomputable def rPN_k37 (x0 x1 x2 x7 x8 x9 : Value) (H : AH) : OV := f140_n37 (ls [x0, x1, x2, u, u, u, u, x7, x8, x9] 80) H
noncomputable def f140_n38 : KK := CQ (f140_b [1, 1, 0, 1, 4, 5, 1]) f140_m37 f140_y36 f140_r
noncomputable def rPN_k38 (x0 x1 x2 x7 x8 x9 : Value) (H : AH) : OV := f140_n38 (ls [x0, x1, x2, u, u, u, u, x7, x8, x9] 80) H
noncomputable def f140_n39 : KK := CQ (f140_b [1, 1, 0, 1, 4, 5, 1, 1]) f140_m37 f140_y36 f140_r
noncomputable def f140_m39 : KK := clr 1237940039285380274899123320 f140_n39
noncomputable def rPN_k39 (x0 x1 x2 x7 x8 x9 : Value) (H : AH) : OV := f140_n39 (ls [x0, x1, x2, u, u, u, u, x7, x8, x9] 80) H
noncomputable def f140_x41 : KX := BX 1 f140_m39 f140_y36
noncomputable def rPN_e36_0 (x0 x1 x2 x7 x8 : Value) (H : AH) : OV := f140_x36 0 (ls [x0, x1, x2, u, u, u, u, x7, x8] 81) H
theorem f140_r_d : Resp 1237940039285380274899124223 f140_r := rf
theorem f140_n0_d : Resp 1237940039285380274899123832 f140_n0 := rc f140_r_d kx0_d f140_r_d
theorem f140_n1_d : Resp 1237940039285380274899123832 f140_n1 := rc f140_r_d kx0_d f140_r_d
theorem f140_n2_d : Resp 1237940039285380274899122808 f140_n2 := rc f140_r_d kx0_d f140_r_d
theorem f140_n3_d : Resp 1237940039285380274899122808 f140_n3 := rc f140_r_d kx0_d f140_r_d
theorem f140_x16_d : ∀ i, Resp 1237940039285380274899122808 (f140_x16 i) := rb (cd f140_n3_d) kx0_d
theorem f140_n17_d : Resp 1237940039285380274899122808 f140_n17 := rl (cx f140_x16_d) f140_r_d
theorem f140_n18_d : Resp 1237940039285380274899122808 f140_n18 := rc (cd f140_n17_d) (cx f140_x16_d) f140_r_d
theorem f140_x19_d : ∀ i, Resp 1237940039285380274899122808 (f140_x19 i) := rb (cd f140_n17_d) (cx f140_x16_d)
theorem f140_n35_d : Resp 1237940039285380274899123320 f140_n35 := rc (cd f140_n1_d) kx0_d f140_r_d
theorem f140_x36_d : ∀ i, Resp 1237940039285380274899123832 (f140_x36 i) := rb (cd f140_n1_d) kx0_d
theorem f140_n37_d : Resp 1237940039285380274899123320 f140_n37 := rl (cx f140_x36_d) f140_r_d
theorem f140_n38_d : Resp 1237940039285380274899123320 f140_n38 := rc (cd f140_n37_d) (cx f140_x36_d) f140_r_d
theorem f140_n39_d : Resp 1237940039285380274899123320 f140_n39 := rc (cd f140_n37_d) (cx f140_x36_d) f140_r_d
theorem f140_x41_d : ∀ i, Resp 1237940039285380274899123320 (f140_x41 i) := rb (cd f140_n39_d) (cx f140_x36_d)
theorem rPN_k3_eq (x0 x1 x2 x7 x8 x10 : Value) (H : AH) : rPN_k3 x0 x1 x2 x7 x8 x10 H =
 ld [.n, .f 13] x0 H fun v4 =>
 (pSlice 7 v4 none (some x10)).bind fun v5 =>
 (pApp 7 72 (.slice none 0 0) v5 H).bind fun r6 =>
 (pLdN 4 x7 r6.2).bind fun v7 =>
 mkS [(0, 1), (1, 1), (2, 1), (3, 4)] [(vi 0), (vi 0), (vi 0), (vi 0), (.slice none 0 0), (vi 0), (vw 0)] [(0, x1), (1, x2), (2, x8), (3, v7)] fun v8 =>
 mkR 1 7 [(vi 0), (vi 0), (vi 0), (vi 0), (.slice none 0 0), (vi 0), (vw 0)] [(0, v8)] r6.2 fun v9 H10 =>
 (pApp 7 72 r6.1 v9 H10).bind fun r11 =>
 ld [.n, .f 13] x0 r11.2 fun v12 =>
 (pSlice 7 v12 (some x10) none).bind fun v13 =>
 (pApp 7 72 r11.1 v13 r11.2).bind fun r14 =>
 st 1 [.n, .f 13] x0 r14.1 r14.2 fun H15 =>
 some (Value.tuple #[], H15) :=
 (by kernel_rfl)
theorem rPN_k18_eq (x0 x1 x2 x7 x8 x10 : Value) (H : AH) : rPN_k18 x0 x1 x2 x7 x8 x10 H =
 (pBin .other .sub x10 (vi 1)).bind fun v20 =>
 rPN_k17 x0 x1 x2 x7 x8 v20 H :=
 (bt rfl (f140_b [1, 1, 1, 1, 1, 0, 4, 5, 1, 4]) 3 f140_x19_d (by kernel_rfl))
theorem rPN_e16_2_eq (x0 x1 x2 x7 x8 x10 : Value) (H : AH) : rPN_e16_2 x0 x1 x2 x7 x8 x10 H = rPN_k3 x0 x1 x2 x7 x8 x10 H :=
 (by kernel_rfl)
theorem rPN_k17_eq (x0 x1 x2 x7 x8 x10 : Value) (H : AH) : rPN_k17 x0 x1 x2 x7 x8 x10 H =
 (pBin .other .gtr x10 (vi 0)).bind fun v21 =>
 (gV v21 true x0).bind fun v22 =>
 gld v21 true  [.n, .f 13] v22 H fun v23 =>
 (gV v21 true x10).bind fun v24 =>
 (gB v21 true (pBin .other .sub v24 (vi 1))).bind fun v25 =>
 gld v21 true  [.i 7 v25, .f 0] v23 H fun v26 =>
 (gV v21 true x1).bind fun v27 =>
 (gB v21 true (pBin .other .gtr v26 v27)).bind fun v28 =>
 (pPick v21 v28 (vb false)).bind fun v29 =>
 condK v29
 (rPN_k18 x0 x1 x2 x7 x8 x10 H)
 (rPN_e16_2 x0 x1 x2 x7 x8 x10 H) :=
 lt' rfl f140_n17_d (pt rfl 0 f140_n18_d (by kernel_rfl))
theorem rPN_k2_eq (x0 x1 x2 x7 x8 x10 : Value) (H : AH) : rPN_k2 x0 x1 x2 x7 x8 x10 H =
 rPN_k17 x0 x1 x2 x7 x8 x10 H :=
 (pt rfl 0 f140_n3_d (bt rfl (f140_b [1, 1, 1, 1, 1, 0, 4]) 2 f140_x16_d (li rfl (f140_b [1, 1, 1, 1, 1, 0, 4, 5]) f140_n17_d (by kernel_rfl))))
theorem rPN_k1_eq (x0 x1 x2 x7 x8 : Value) (H : AH) : rPN_k1 x0 x1 x2 x7 x8 H =
 ld [.f 1] x7 H fun v30 =>
 (pApp 3 24 (.slice none 0 0) v30 H).bind fun r31 =>
 st 1 [.f 1] x7 r31.1 r31.2 fun H32 =>
 ld [.n, .f 13] x0 H32 fun v33 =>
 lenK v33 fun v34 =>
 rPN_k2 x0 x1 x2 x7 x8 v34 H32 :=
 (pt rfl 1 f140_n2_d (by kernel_rfl))
theorem rPN_k39_eq (x0 x1 x2 x7 x8 x9 : Value) (H : AH) : rPN_k39 x0 x1 x2 x7 x8 x9 H =
 (pBin .other .add x9 (vi 2)).bind fun v40 =>
 rPN_k37 x0 x1 x2 x7 x8 v40 H :=
 (by kernel_rfl)
theorem rPN_k38_eq (x0 x1 x2 x7 x8 x9 : Value) (H : AH) : rPN_k38 x0 x1 x2 x7 x8 x9 H =
 ld [.n, .f 12] x0 H fun v42 =>
 ld [.i 1 x9] v42 H fun v43 =>
 (pBin .other .eql v43 x2).bind fun v44 =>
 condK v44
 (ld [.n, .f 12] x0 H fun v45 =>
 (pBin .other .add x9 (vi 1)).bind fun v46 =>
 ld [.i 1 v46] v45 H fun v47 =>
 rPN_k39 x0 x1 x2 x7 v47 x9 H)
 (rPN_k39 x0 x1 x2 x7 x8 x9 H) :=
 (pt rfl 0 f140_n39_d (bt rfl (f140_b [1, 1, 0, 1, 4, 5, 1, 0, 4]) 1 f140_x41_d (by kernel_rfl)))
theorem rPN_e36_0_eq (x0 x1 x2 x7 x8 : Value) (H : AH) : rPN_e36_0 x0 x1 x2 x7 x8 H = rPN_k1 x0 x1 x2 x7 x8 H :=
 (by kernel_rfl)
theorem rPN_k37_eq (x0 x1 x2 x7 x8 x9 : Value) (H : AH) : rPN_k37 x0 x1 x2 x7 x8 x9 H =
 ld [.n, .f 12] x0 H fun v48 =>
 lenK v48 fun v49 =>
 (pBin .other .lss x9 v49).bind fun v50 =>
 condK v50
 (rPN_k38 x0 x1 x2 x7 x8 x9 H)
 (rPN_e36_0 x0 x1 x2 x7 x8 H) :=
 lt' rfl f140_n37_d (pt rfl 0 f140_n38_d (by kernel_rfl))
theorem rPN_k35_eq (x0 x1 x2 x7 x8 x9 : Value) (H : AH) : rPN_k35 x0 x1 x2 x7 x8 x9 H =
 rPN_k37 x0 x1 x2 x7 x8 x9 H :=
 (bt rfl (f140_b [1, 1, 0, 1, 4]) 0 f140_x36_d (li rfl (f140_b [1, 1, 0, 1, 4, 5]) f140_n37_d (by kernel_rfl)))
theorem rPN_k0_eq (x0 x1 x2 x7 x8 : Value) (H : AH) : rPN_k0 x0 x1 x2 x7 x8 H =
 rPN_k35 x0 x1 x2 x7 x8 (vi 0) H :=
 (pt rfl 0 f140_n1_d (pt rfl 0 f140_n35_d (by kernel_rfl)))
noncomputable def rPN (x0 x1 x2 x3 : Value) (H : AH) : OV := cCode PP GG FF (f140_b []) (ls [x0, x1, x2, x3] 86) H f140_r kx0 f140_r
theorem rPN_of (x0 x1 x2 x3 : Value) (H : AH) {r : Value × AH} (h : (
 newK (Value.cells x3).toList H fun v51 H52 =>
 rPN_k0 x0 x1 x2 v51 (vi 0) H52) = some r) : FF n_rPN [x0, x1, x2, x3] H = some r :=
 fo (t := rPN x0 x1 x2 x3 H) Tryz.func140 (by kernel_rfl) (Eq.trans (pt rfl 1 f140_n0_d (by kernel_rfl)) h)
theorem r16_Ring_Word_of (x0 x1 : Value) (H : AH) {r : Value × AH} (h : (
 ad [.n, .f 0] x0 fun v0 =>
 (pLd1 v0 H).bind fun v1 =>
 ld [.n, .f 1] x0 H fun v2 =>
 (FF n_r16_Loc [(vi 11), v2, (vi 0)] H).bind fun r3 =>
 eqK (pLd1 v0 r3.2) (pLd1 v0 H) <|
 (FF n_r16_Mem_Load [v1, x1, r3.1] r3.2).bind fun r4 =>
 some (r4.1, r4.2)) = some r) : FF n_r16_Ring_Word [x0, x1] H = some r :=
 fo Tryz.func143 (by kernel_rfl) h
theorem r16_Ring_cell_of (x0 x1 : Value) (H : AH) {r : Value × AH} (h : (
 ld [.n, .f 2] x0 H fun v0 =>
 (pConv (some .u64) v0).bind fun v1 =>
 (pBin .other .rem x1 v1).bind fun v2 =>
 (pConv (some .i64) v2).bind fun v3 =>
 some (v3, H)) = some r) : FF n_r16_Ring_cell [x0, x1] H = some r :=
 fo Tryz.func145 (by kernel_rfl) h
theorem r16_Parts_Seq_of (x0 x1 : Value) (H : AH) {r : Value × AH} (h : (
 ad [.n, .f 5] x0 fun v0 =>
 (pLd1 v0 H).bind fun v1 =>
 (FF n_r16_Loc [(vi 2), (vi 0), (vi 0)] H).bind fun r2 =>
 eqK (pLd1 v0 r2.2) (pLd1 v0 H) <|
 (FF n_r16_Mem_Load [v1, x1, r2.1] r2.2).bind fun r3 =>
 some (r3.1, r3.2)) = some r) : FF n_r16_Parts_Seq [x0, x1] H = some r :=
 fo Tryz.func146 (by kernel_rfl) h
theorem r16_Inbox_End_of (x0 x1 : Value) (H : AH) {r : Value × AH} (h : (
 ad [.n, .f 0] x0 fun v0 =>
 (pLd1 v0 H).bind fun v1 =>
 (FF n_r16_Loc [(vi 3), (vi 0), (vi 0)] H).bind fun r2 =>
 eqK (pLd1 v0 r2.2) (pLd1 v0 H) <|
 (FF n_r16_Mem_Add [v1, x1, r2.1, (vw 1)] r2.2).bind fun r3 =>
 some (Value.tuple #[], r3.2)) = some r) : FF n_r16_Inbox_End [x0, x1] H = some r :=
 fo Tryz.func147 (by kernel_rfl) h
theorem r16_Inbox_Top_of (x0 x1 x2 : Value) (H : AH) {r : Value × AH} (h : (
 ad [.n, .f 0] x0 fun v0 =>
 (pLd1 v0 H).bind fun v1 =>
 (FF n_r16_Loc [(vi 9), x2, (vi 0)] H).bind fun r2 =>
 eqK (pLd1 v0 r2.2) (pLd1 v0 H) <|
 (FF n_r16_Mem_Load [v1, x1, r2.1] r2.2).bind fun r3 =>
 some (r3.1, r3.2)) = some r) : FF n_r16_Inbox_Top [x0, x1, x2] H = some r :=
 fo Tryz.func148 (by kernel_rfl) h
theorem r16_Inbox_Link_of (x0 x1 x2 x3 : Value) (H : AH) {r : Value × AH} (h : (
 ad [.n, .f 0] x0 fun v0 =>
 (pLd1 v0 H).bind fun v1 =>
 (FF n_r16_Loc [(vi 14), x2, (vi 0)] H).bind fun r2 =>
 eqK (pLd1 v0 r2.2) (pLd1 v0 H) <|
 (FF n_r16_Mem_Log [v1, x1, (vi 6), r2.1] r2.2).bind fun r3 =>
 (FF n_r16_Inbox_at [x0, x2] r3.2).bind fun r4 =>
 (pBin .other .lss r4.1 (vi 0)).bind fun v5 =>
 condK v5
 (ld [.n, .f 2] x0 r4.2 fun v6 =>
 mkR 1 1 [(vi 0)] [(0, x2)] r4.2 fun v7 H8 =>
 (pApp 1 8 v6 v7 H8).bind fun r9 =>
 ad [.n, .f 3] x0 fun v10 =>
 (pLd1 v10 r9.2).bind fun v11 =>
 eqK (pLd1 v10 H8) (pLd1 v10 r9.2) <|
 mkR 1 1 [(vw 0)] [(0, x3)] r9.2 fun v12 H13 =>
 (pApp 1 8 v11 v12 H13).bind fun r14 =>
 st 1 [.n, .f 2] x0 r9.1 r14.2 fun H15 =>
 st 1 [.n, .f 3] x0 r14.1 H15 fun H16 =>
 some (Value.tuple #[], H16))
 (ld [.n, .f 3] x0 r4.2 fun v17 =>
 st 1 [.i 1 r4.1] v17 x3 r4.2 fun H18 =>
 some (Value.tuple #[], H18))) = some r) : FF n_r16_Inbox_Link [x0, x1, x2, x3] H = some r :=
 fo Tryz.func149 (by kernel_rfl) h
theorem r16_Inbox_Push_of (x0 x1 x2 x3 x4 : Value) (H : AH) {r : Value × AH} (h : (
 ad [.n, .f 0] x0 fun v0 =>
 (pLd1 v0 H).bind fun v1 =>
 (FF n_r16_Loc [(vi 9), x2, (vi 0)] H).bind fun r2 =>
 eqK (pLd1 v0 r2.2) (pLd1 v0 H) <|
 (pConv (some .u64) x4).bind fun v3 =>
 (pBin .other .add v3 (vw 1)).bind fun v4 =>
 (FF n_r16_Mem_Swap [v1, x1, r2.1, x3, v4] r2.2).bind fun r5 =>
 some (r5.1, r5.2)) = some r) : FF n_r16_Inbox_Push [x0, x1, x2, x3, x4] H = some r :=
 fo Tryz.func150 (by kernel_rfl) h
theorem parts_Parts_made_of (x0 x1 : Value) (H : AH) {r : Value × AH} (h : (
 (pBin .other .geq x1 (vi 0)).bind fun v0 =>
 (gV v0 true x1).bind fun v1 =>
 (gV v0 true x0).bind fun v2 =>
 gld v0 true  [.n, .f 10] v2 H fun v3 =>
 (onK (yv v0) true (lenK v3 some) (some undef)).bind fun v4 =>
 (gB v0 true (pBin .other .lss v1 v4)).bind fun v5 =>
 (pPick v0 v5 (vb false)).bind fun v6 =>
 some (v6, H)) = some r) : FF n_parts_Parts_made [x0, x1] H = some r :=
 fo Tryz.func152 (by kernel_rfl) h
theorem ring_Ring_swap_of (x0 x1 x2 x3 : Value) (H : AH) {r : Value × AH} (h : (
 (pCallee x3 [x2]).bind fun c => (FF c.1 c.2 H).bind fun r0 =>
 (pExtract r0.1 0).bind fun v1 =>
 (pExtract r0.1 1).bind fun v2 =>
 (gV v2 true x0).bind fun v3 =>
 gad v2 true  [.n, .f 0] v3 fun v4 =>
 (gB v2 true (pLd1 v4 r0.2)).bind fun v5 =>
 (gV v2 true x1).bind fun v6 =>
 (gV v2 true x0).bind fun v7 =>
 (gE v2 true r0.2 (FF n_ring_Ring_at [v7, (vi 11), (vi 0)] r0.2)).bind fun r8 =>
 eqK (pLd1 v4 r8.2) (pLd1 v4 r0.2) <|
 (gV v2 true x2).bind fun v9 =>
 (gV v2 true v1).bind fun v10 =>
 (gE v2 true r8.2 (FF n_mem_Mem_Swap [v5, v6, r8.1, v9, v10] r8.2)).bind fun r11 =>
 (pPick v2 r11.1 (vb false)).bind fun v12 =>
 some (v12, r11.2)) = some r) : FF n_ring_Ring_swap [x0, x1, x2, x3] H = some r :=
 fo Tryz.func153 (by kernel_rfl) h
theorem ring_Ring_at_of (x0 x1 x2 : Value) (H : AH) {r : Value × AH} (h : (
 newK [(vi 0), (vi 0), (vi 0)] H fun v0 H1 =>
 ld [.n, .f 1] x0 H1 fun v2 =>
 mkS [(0, 1), (1, 1), (2, 1)] [(vi 0), (vi 0), (vi 0)] [(0, x1), (1, v2), (2, x2)] fun v3 =>
 (pSt 3 v0 v3 H1).bind fun H4 =>
 (pLdN 3 v0 H4).bind fun v5 => some (v5, H4)) = some r) : FF n_ring_Ring_at [x0, x1, x2] H = some r :=
 fo Tryz.func156 (by kernel_rfl) h
theorem parts_Parts_Obj_of (x0 x1 x2 : Value) (H : AH) {r : Value × AH} (h : (
 newK [(vi 0), (vi 0), (vw 0)] H fun v0 H1 =>
 (FF n_parts_Parts_made [x0, x2] H1).bind fun r2 =>
 (pUn .not r2.1).bind fun v3 =>
 condK v3
 (mkS [(0, 1), (1, 1), (2, 1)] [(vi 0), (vi 0), (vw 0)] [] fun v4 =>
 (pSt 3 v0 v4 r2.2).bind fun H5 =>
 (pLdN 3 v0 H5).bind fun v6 => some (v6, H5))
 (ld [.n, .f 0] x0 r2.2 fun v7 =>
 mkS [(0, 1), (1, 1), (2, 1)] [(vi 0), (vi 0), (vi 0)] [(0, (vi 13)), (1, x2)] fun v8 =>
 (FF n_mem_Mem_Read [v7, x1, v8] r2.2).bind fun r9 =>
 ld [.n, .f 10] x0 r9.2 fun v10 =>
 ldN 3 [.i 4 x2, .f 0] v10 r9.2 fun v11 =>
 (pSt 3 v0 v11 r9.2).bind fun H12 =>
 (pLdN 3 v0 H12).bind fun v13 => some (v13, H12))) = some r) : FF n_parts_Parts_Obj [x0, x1, x2] H = some r :=
 fo Tryz.func178 (by kernel_rfl) h
theorem eE_word_of (x0 x1 : Value) (H : AH) {r : Value × AH} (h : (
 newK [(vi 0), (.slice none 0 0), (vi 0), (vw 0)] H fun v0 H1 =>
 ld [.n, .f 11] x0 H1 fun v2 =>
 ld [.n, .f 1] x0 H1 fun v3 =>
 (FF n_ring_Ring_Word [v2, v3] H1).bind fun r4 =>
 st 1 [.n, .f 12] x0 r4.1 r4.2 fun H5 =>
 ld [.n, .f 12] x0 H5 fun v6 =>
 (FF n_word_State [v6] H5).bind fun r7 =>
 (pBin .other .eql r7.1 (vi 2)).bind fun v8 =>
 condK v8
 ((FF n_eE_on [x0, (.func (.func n_eE_lock) #[x0] #[])] r7.2).bind fun r9 =>
 (pExtract r9.1 0).bind fun v10 =>
 (pExtract r9.1 1).bind fun v11 =>
 (pSt 4 v0 v10 r9.2).bind fun H12 =>
 (pLdN 4 v0 H12).bind fun v13 => some (Value.tuple #[v13, v11], H12))
 ((FF n_eE_on [x0, (.func (.func n_eE_head) #[x0] #[])] r7.2).bind fun r14 =>
 (pExtract r14.1 0).bind fun v15 =>
 (pExtract r14.1 1).bind fun v16 =>
 (pSt 4 v0 v15 r14.2).bind fun H17 =>
 (pLdN 4 v0 H17).bind fun v18 => some (Value.tuple #[v18, v16], H17))) = some r) : FF n_eE_word [x0, x1] H = some r :=
 fo Tryz.func179 (by kernel_rfl) h
noncomputable def f180_b (p : List Nat) : Code := Code.sub (bodyOf Tryz.f180) p
noncomputable def f180_r : KK := cFin PP (Tryz.f180).results.toList
noncomputable def f180_n0 : KK := CQ (f180_b [1, 1]) f180_r kx0 f180_r
noncomputable def eE_search_k0 (x0 x1 x4 x5 x6 : Value) (H : AH) : OV := f180_n0 (ls [x0, x1, u, u, x4, x5, x6] 30) H
noncomputable def f180_n1 : KK := CQ (f180_b [1, 1, 1]) f180_r kx0 f180_r
noncomputable def f180_m1 : KK := clr 137438953422 f180_n1
noncomputable def eE_search_k1 (x0 x4 x5 : Value) (H : AH) : OV := f180_n1 (ls [x0, u, u, u, x4, x5] 31) H
noncomputable def f180_x7 : KX := BX 0 f180_m1 kx0
theorem f180_r_d : Resp 137438953423 f180_r := rf
theorem f180_n0_d : Resp 137438953356 f180_n0 := rc f180_r_d kx0_d f180_r_d
theorem f180_n1_d : Resp 137438953422 f180_n1 := rc f180_r_d kx0_d f180_r_d
theorem f180_x7_d : ∀ i, Resp 137438953422 (f180_x7 i) := rb (cd f180_n1_d) kx0_d
theorem eE_search_k1_eq (x0 x4 x5 : Value) (H : AH) : eE_search_k1 x0 x4 x5 H =
 (FF n_eE_on [x0, (.func (.func n_eE_search) #[x0] #[])] H).bind fun r2 =>
 (pExtract r2.1 0).bind fun v3 =>
 (pExtract r2.1 1).bind fun v4 =>
 (pSt 4 x4 v3 r2.2).bind fun H5 =>
 (pLdN 4 x4 H5).bind fun v6 => some (Value.tuple #[v6, v4], H5) :=
 (by kernel_rfl)
theorem eE_search_k0_eq (x0 x1 x4 x5 x6 : Value) (H : AH) : eE_search_k0 x0 x1 x4 x5 x6 H =
 ld [.n, .f 10] x0 H fun v8 =>
 condK v8
 ((FF n_eE_on [x0, (.func (.func n_eE_unlock) #[x0] #[])] H).bind fun r9 =>
 (pExtract r9.1 0).bind fun v10 =>
 (pExtract r9.1 1).bind fun v11 =>
 (pSt 4 x4 v10 r9.2).bind fun H12 =>
 (pLdN 4 x4 H12).bind fun v13 => some (Value.tuple #[v13, v11], H12))
 (condK x6
 ((FF n_eE_note [x0, x1, (vi 5)] H).bind fun r14 =>
 (FF n_eE_on [x0, (.func (.func n_eE_unlock) #[x0] #[])] r14.2).bind fun r15 =>
 (pExtract r15.1 0).bind fun v16 =>
 (pExtract r15.1 1).bind fun v17 =>
 (pSt 4 x4 v16 r15.2).bind fun H18 =>
 (pLdN 4 x4 H18).bind fun v19 => some (Value.tuple #[v19, v17], H18))
 (eE_search_k1 x0 x4 x5 H)) :=
 (pt rfl 0 f180_n1_d (bt rfl (f180_b [1, 1, 0, 4]) 0 f180_x7_d (by kernel_rfl)))
noncomputable def eE_search (x0 x1 : Value) (H : AH) : OV := cCode PP GG FF (f180_b []) (ls [x0, x1] 35) H f180_r kx0 f180_r
theorem eE_search_of (x0 x1 : Value) (H : AH) {r : Value × AH} (h : (
 newK [(vi 0), (.slice none 0 0), (vi 0), (vw 0)] H fun v20 H21 =>
 (FF n_eE_hit [x0] H21).bind fun r22 =>
 eE_search_k0 x0 x1 v20 (vb false) r22.1 r22.2) = some r) : FF n_eE_search [x0, x1] H = some r :=
 fo (t := eE_search x0 x1 H) Tryz.func180 (by kernel_rfl) (Eq.trans (pt rfl 1 f180_n0_d (by kernel_rfl)) h)
noncomputable def f181_b (p : List Nat) : Code := Code.sub (bodyOf Tryz.f181) p
noncomputable def f181_r : KK := cFin PP (Tryz.f181).results.toList
noncomputable def f181_n0 : KK := CQ (f181_b [1, 1]) f181_r kx0 f181_r
noncomputable def sRo_k0 (x0 x2 x4 x10 x11 : Value) (H : AH) : OV := f181_n0 (ls [x0, u, x2, u, x4, u, u, u, u, u, x10, x11] 46) H
noncomputable def f181_n1 : KK := CQ (f181_b [1, 1, 1]) f181_r kx0 f181_r
noncomputable def f181_m1 : KK := clr 288230376151710698 f181_n1
noncomputable def sRo_k1 (x0 x2 x4 x10 : Value) (H : AH) : OV := f181_n1 (ls [x0, u, x2, u, x4, u, u, u, u, u, x10] 47) H
noncomputable def f181_x4 : KX := BX 0 f181_m1 kx0
noncomputable def f181_y4 : KX := clx 288230376151710698 f181_x4
noncomputable def f181_n5 : KK := CLq (f181_b [1, 1, 0, 4, 5]) f181_y4 f181_r
noncomputable def f181_m5 : KK := clr 288230376151708650 f181_n5
noncomputable def sRo_k5 (x0 x2 x4 x10 x11 : Value) (H : AH) : OV := f181_n5 (ls [x0, u, x2, u, x4, u, u, u, u, u, x10, x11] 46) H
noncomputable def f181_n6 : KK := CQ (f181_b [1, 1, 0, 4, 5, 1]) f181_m5 f181_y4 f181_r
noncomputable def sRo_k6 (x0 x2 x4 x10 x11 : Value) (H : AH) : OV := f181_n6 (ls [x0, u, x2, u, x4, u, u, u, u, u, x10, x11] 46) H
noncomputable def f181_x7 : KX := BX 1 f181_m5 f181_y4
noncomputable def sRo_e4_0 (x0 x2 x4 x10 : Value) (H : AH) : OV := f181_x4 0 (ls [x0, u, x2, u, x4, u, u, u, u, u, x10] 47) H
theorem f181_r_d : Resp 288230376151711743 f181_r := rf
theorem f181_n0_d : Resp 288230376151708650 f181_n0 := rc f181_r_d kx0_d f181_r_d
theorem f181_n1_d : Resp 288230376151710698 f181_n1 := rc f181_r_d kx0_d f181_r_d
theorem f181_x4_d : ∀ i, Resp 288230376151710698 (f181_x4 i) := rb (cd f181_n1_d) kx0_d
theorem f181_n5_d : Resp 288230376151708650 f181_n5 := rl (cx f181_x4_d) f181_r_d
theorem f181_n6_d : Resp 288230376151708650 f181_n6 := rc (cd f181_n5_d) (cx f181_x4_d) f181_r_d
theorem f181_x7_d : ∀ i, Resp 288230376151708650 (f181_x7 i) := rb (cd f181_n5_d) (cx f181_x4_d)
theorem sRo_k1_eq (x0 x2 x4 x10 : Value) (H : AH) : sRo_k1 x0 x2 x4 x10 H =
 (pBin .other .sub x2 x10).bind fun v2 =>
 (FF n_sSw [x0, v2, x2, x10, x4] H).bind fun r3 =>
 some (Value.tuple #[], r3.2) :=
 (by kernel_rfl)
theorem sRo_k6_eq (x0 x2 x4 x10 x11 : Value) (H : AH) : sRo_k6 x0 x2 x4 x10 x11 H =
 (pBin .other .gtr x10 x11).bind fun v8 =>
 condK v8
 ((pBin .other .sub x2 x10).bind fun v9 =>
 (FF n_sSw [x0, v9, x2, x11, x4] H).bind fun r10 =>
 (pBin .other .sub x10 x11).bind fun v11 =>
 sRo_k5 x0 x2 x4 v11 x11 r10.2)
 ((pBin .other .sub x2 x10).bind fun v12 =>
 (pBin .other .add x2 x11).bind fun v13 =>
 (pBin .other .sub v13 x10).bind fun v14 =>
 (FF n_sSw [x0, v12, v14, x10, x4] H).bind fun r15 =>
 (pBin .other .sub x11 x10).bind fun v16 =>
 sRo_k5 x0 x2 x4 x10 v16 r15.2) :=
 (bt rfl (f181_b [1, 1, 0, 4, 5, 1, 4]) 1 f181_x7_d (by kernel_rfl))
theorem sRo_e4_0_eq (x0 x2 x4 x10 : Value) (H : AH) : sRo_e4_0 x0 x2 x4 x10 H = sRo_k1 x0 x2 x4 x10 H :=
 (by kernel_rfl)
theorem sRo_k5_eq (x0 x2 x4 x10 x11 : Value) (H : AH) : sRo_k5 x0 x2 x4 x10 x11 H =
 (pBin .other .neq x10 x11).bind fun v17 =>
 condK v17
 (sRo_k6 x0 x2 x4 x10 x11 H)
 (sRo_e4_0 x0 x2 x4 x10 H) :=
 lt' rfl f181_n5_d (pt rfl 0 f181_n6_d (by kernel_rfl))
theorem sRo_k0_eq (x0 x2 x4 x10 x11 : Value) (H : AH) : sRo_k0 x0 x2 x4 x10 x11 H =
 sRo_k5 x0 x2 x4 x10 x11 H :=
 (pt rfl 0 f181_n1_d (bt rfl (f181_b [1, 1, 0, 4]) 0 f181_x4_d (li rfl (f181_b [1, 1, 0, 4, 5]) f181_n5_d (by kernel_rfl))))
noncomputable def sRo (x0 x1 x2 x3 x4 : Value) (H : AH) : OV := cCode PP GG FF (f181_b []) (ls [x0, x1, x2, x3, x4] 53) H f181_r kx0 f181_r
theorem sRo_of (x0 x1 x2 x3 x4 : Value) (H : AH) {r : Value × AH} (h : (
 (pBin .other .sub x2 x1).bind fun v18 =>
 (pBin .other .sub x3 x2).bind fun v19 =>
 sRo_k0 x0 x2 x4 v18 v19 H) = some r) : FF n_sRo [x0, x1, x2, x3, x4] H = some r :=
 fo (t := sRo x0 x1 x2 x3 x4 H) Tryz.func181 (by kernel_rfl) (Eq.trans (pt rfl 1 f181_n0_d (by kernel_rfl)) h)
noncomputable def f182_b (p : List Nat) : Code := Code.sub (bodyOf Tryz.f182) p
noncomputable def f182_r : KK := cFin PP (Tryz.f182).results.toList
noncomputable def f182_n0 : KK := CQ (f182_b [1]) f182_r kx0 f182_r
noncomputable def r16_Inbox_at_k0 (x0 x1 x4 : Value) (H : AH) : OV := f182_n0 (ls [x0, x1, u, u, x4] 20) H
noncomputable def f182_n1 : KK := CQ (f182_b [1, 1]) f182_r kx0 f182_r
noncomputable def f182_m1 : KK := clr 33554415 f182_n1
noncomputable def r16_Inbox_at_k1 (x4 : Value) (H : AH) : OV := f182_n1 (ls [u, u, u, u, x4] 20) H
noncomputable def f182_n2 : KK := CQ (f182_b [1, 0, 1]) f182_m1 kx0 f182_r
noncomputable def r16_Inbox_at_k2 (x0 x1 x4 x5 : Value) (H : AH) : OV := f182_n2 (ls [x0, x1, u, u, x4, x5] 19) H
noncomputable def f182_x3 : KX := BX 0 f182_m1 kx0
noncomputable def f182_y3 : KX := clx 33554415 f182_x3
noncomputable def f182_n4 : KK := CLq (f182_b [1, 0, 1, 4, 5]) f182_y3 f182_r
noncomputable def f182_m4 : KK := clr 33554380 f182_n4
noncomputable def r16_Inbox_at_k4 (x0 x1 x4 x5 : Value) (H : AH) : OV := f182_n4 (ls [x0, x1, u, u, x4, x5] 19) H
noncomputable def f182_n5 : KK := CQ (f182_b [1, 0, 1, 4, 5, 1]) f182_m4 f182_y3 f182_r
noncomputable def r16_Inbox_at_k5 (x0 x1 x4 x5 : Value) (H : AH) : OV := f182_n5 (ls [x0, x1, u, u, x4, x5] 19) H
noncomputable def f182_n6 : KK := CQ (f182_b [1, 0, 1, 4, 5, 1, 1]) f182_m4 f182_y3 f182_r
noncomputable def f182_m6 : KK := clr 33554380 f182_n6
noncomputable def r16_Inbox_at_k6 (x0 x1 x4 x5 : Value) (H : AH) : OV := f182_n6 (ls [x0, x1, u, u, x4, x5] 19) H
noncomputable def f182_x8 : KX := BX 1 f182_m6 f182_y3
noncomputable def r16_Inbox_at_e3_0 (x4 : Value) (H : AH) : OV := f182_x3 0 (ls [u, u, u, u, x4] 20) H
theorem f182_r_d : Resp 33554415 f182_r := rf
theorem f182_n0_d : Resp 33554412 f182_n0 := rc f182_r_d kx0_d f182_r_d
theorem f182_n1_d : Resp 33554415 f182_n1 := rc f182_r_d kx0_d f182_r_d
theorem f182_n2_d : Resp 33554380 f182_n2 := rc (cd f182_n1_d) kx0_d f182_r_d
theorem f182_x3_d : ∀ i, Resp 33554415 (f182_x3 i) := rb (cd f182_n1_d) kx0_d
theorem f182_n4_d : Resp 33554380 f182_n4 := rl (cx f182_x3_d) f182_r_d
theorem f182_n5_d : Resp 33554380 f182_n5 := rc (cd f182_n4_d) (cx f182_x3_d) f182_r_d
theorem f182_n6_d : Resp 33554380 f182_n6 := rc (cd f182_n4_d) (cx f182_x3_d) f182_r_d
theorem f182_x8_d : ∀ i, Resp 33554380 (f182_x8 i) := rb (cd f182_n6_d) (cx f182_x3_d)
theorem r16_Inbox_at_k1_eq (x4 : Value) (H : AH) : r16_Inbox_at_k1 x4 H =
 some ((vi (-1)), H) :=
 (by kernel_rfl)
theorem r16_Inbox_at_k6_eq (x0 x1 x4 x5 : Value) (H : AH) : r16_Inbox_at_k6 x0 x1 x4 x5 H =
 (pBin .other .add x5 (vi 1)).bind fun v7 =>
 r16_Inbox_at_k4 x0 x1 x4 v7 H :=
 (by kernel_rfl)
theorem r16_Inbox_at_k5_eq (x0 x1 x4 x5 : Value) (H : AH) : r16_Inbox_at_k5 x0 x1 x4 x5 H =
 ld [.n, .f 2] x0 H fun v9 =>
 ld [.i 1 x5] v9 H fun v10 =>
 (pBin .other .eql v10 x1).bind fun v11 =>
 condK v11
 (some (x5, H))
 (r16_Inbox_at_k6 x0 x1 x4 x5 H) :=
 (pt rfl 0 f182_n6_d (bt rfl (f182_b [1, 0, 1, 4, 5, 1, 0, 4]) 1 f182_x8_d (by kernel_rfl)))
theorem r16_Inbox_at_e3_0_eq (x4 : Value) (H : AH) : r16_Inbox_at_e3_0 x4 H = r16_Inbox_at_k1 x4 H :=
 (by kernel_rfl)
theorem r16_Inbox_at_k4_eq (x0 x1 x4 x5 : Value) (H : AH) : r16_Inbox_at_k4 x0 x1 x4 x5 H =
 ld [.n, .f 2] x0 H fun v12 =>
 lenK v12 fun v13 =>
 (pBin .other .lss x5 v13).bind fun v14 =>
 condK v14
 (r16_Inbox_at_k5 x0 x1 x4 x5 H)
 (r16_Inbox_at_e3_0 x4 H) :=
 lt' rfl f182_n4_d (pt rfl 0 f182_n5_d (by kernel_rfl))
theorem r16_Inbox_at_k2_eq (x0 x1 x4 x5 : Value) (H : AH) : r16_Inbox_at_k2 x0 x1 x4 x5 H =
 r16_Inbox_at_k4 x0 x1 x4 x5 H :=
 (bt rfl (f182_b [1, 0, 1, 4]) 0 f182_x3_d (li rfl (f182_b [1, 0, 1, 4, 5]) f182_n4_d (by kernel_rfl)))
theorem r16_Inbox_at_k0_eq (x0 x1 x4 : Value) (H : AH) : r16_Inbox_at_k0 x0 x1 x4 H =
 r16_Inbox_at_k2 x0 x1 x4 (vi 0) H :=
 (pt rfl 0 f182_n1_d (pt rfl 0 f182_n2_d (by kernel_rfl)))
noncomputable def r16_Inbox_at (x0 x1 : Value) (H : AH) : OV := cCode PP GG FF (f182_b []) (ls [x0, x1] 23) H f182_r kx0 f182_r
theorem r16_Inbox_at_of (x0 x1 : Value) (H : AH) {r : Value × AH} (h : (
 r16_Inbox_at_k0 x0 x1 (vi 0) H) = some r) : FF n_r16_Inbox_at [x0, x1] H = some r :=
 fo (t := r16_Inbox_at x0 x1 H) Tryz.func182 (by kernel_rfl) (Eq.trans (pt rfl 0 f182_n0_d (by kernel_rfl)) h)
theorem ring_Ring_Word_of (x0 x1 : Value) (H : AH) {r : Value × AH} (h : (
 ad [.n, .f 0] x0 fun v0 =>
 (pLd1 v0 H).bind fun v1 =>
 (FF n_ring_Ring_at [x0, (vi 11), (vi 0)] H).bind fun r2 =>
 eqK (pLd1 v0 r2.2) (pLd1 v0 H) <|
 (FF n_mem_Mem_Load [v1, x1, r2.1] r2.2).bind fun r3 =>
 some (r3.1, r3.2)) = some r) : FF n_ring_Ring_Word [x0, x1] H = some r :=
 fo Tryz.func213 (by kernel_rfl) h
noncomputable def f214_b (p : List Nat) : Code := Code.sub (bodyOf Tryz.f214) p
noncomputable def f214_r : KK := cFin PP (Tryz.f214).results.toList
noncomputable def f214_n0 : KK := CQ (f214_b [1, 1]) f214_r kx0 f214_r
noncomputable def eE_head_k0 (x0 x4 x5 x6 : Value) (H : AH) : OV := f214_n0 (ls [x0, u, u, u, x4, x5, x6] 45) H
noncomputable def f214_n1 : KK := CQ (f214_b [1, 1, 1]) f214_r kx0 f214_r
noncomputable def f214_m1 : KK := clr 4503599627370446 f214_n1
noncomputable def eE_head_k1 (x0 x4 x5 : Value) (H : AH) : OV := f214_n1 (ls [x0, u, u, u, x4, x5] 46) H
noncomputable def f214_x7 : KX := BX 0 f214_m1 kx0
theorem f214_r_d : Resp 4503599627370447 f214_r := rf
theorem f214_n0_d : Resp 4503599627370382 f214_n0 := rc f214_r_d kx0_d f214_r_d
theorem f214_n1_d : Resp 4503599627370446 f214_n1 := rc f214_r_d kx0_d f214_r_d
theorem f214_x7_d : ∀ i, Resp 4503599627370446 (f214_x7 i) := rb (cd f214_n1_d) kx0_d
theorem eE_head_k1_eq (x0 x4 x5 : Value) (H : AH) : eE_head_k1 x0 x4 x5 H =
 (FF n_eE_on [x0, (.func (.func n_eE_begin) #[x0] #[])] H).bind fun r2 =>
 (pExtract r2.1 0).bind fun v3 =>
 (pExtract r2.1 1).bind fun v4 =>
 (pSt 4 x4 v3 r2.2).bind fun H5 =>
 (pLdN 4 x4 H5).bind fun v6 => some (Value.tuple #[v6, v4], H5) :=
 (by kernel_rfl)
theorem eE_head_k0_eq (x0 x4 x5 x6 : Value) (H : AH) : eE_head_k0 x0 x4 x5 x6 H =
 ld [.n, .f 11] x0 H fun v8 =>
 ld [.n, .f 12] x0 H fun v9 =>
 (FF n_ring_Ring_Full [v8, v9, x6] H).bind fun r10 =>
 condK r10.1
 ((FF n_eE_on [x0, (.func (.func n_eE_seq) #[x0] #[])] r10.2).bind fun r11 =>
 (pExtract r11.1 0).bind fun v12 =>
 (pExtract r11.1 1).bind fun v13 =>
 (pSt 4 x4 v12 r11.2).bind fun H14 =>
 (pLdN 4 x4 H14).bind fun v15 => some (Value.tuple #[v15, v13], H14))
 (ld [.n, .f 12] x0 r10.2 fun v16 =>
 (FF n_word_State [v16] r10.2).bind fun r17 =>
 (pBin .other .eql r17.1 (vi 1)).bind fun v18 =>
 condK v18
 ((FF n_eE_on [x0, (.func (.func n_eE_claim) #[x0] #[])] r17.2).bind fun r19 =>
 (pExtract r19.1 0).bind fun v20 =>
 (pExtract r19.1 1).bind fun v21 =>
 (pSt 4 x4 v20 r19.2).bind fun H22 =>
 (pLdN 4 x4 H22).bind fun v23 => some (Value.tuple #[v23, v21], H22))
 (eE_head_k1 x0 x4 x5 r17.2)) :=
 (pt rfl 0 f214_n1_d (bt rfl (f214_b [1, 1, 0, 4]) 0 f214_x7_d (by kernel_rfl)))
noncomputable def eE_head (x0 x1 : Value) (H : AH) : OV := cCode PP GG FF (f214_b []) (ls [x0, x1] 50) H f214_r kx0 f214_r
theorem eE_head_of (x0 x1 : Value) (H : AH) {r : Value × AH} (h : (
 newK [(vi 0), (.slice none 0 0), (vi 0), (vw 0)] H fun v24 H25 =>
 ld [.n, .f 11] x0 H25 fun v26 =>
 ld [.n, .f 1] x0 H25 fun v27 =>
 (FF n_ring_Ring_Head [v26, v27] H25).bind fun r28 =>
 eE_head_k0 x0 v24 (vb false) r28.1 r28.2) = some r) : FF n_eE_head [x0, x1] H = some r :=
 fo (t := eE_head x0 x1 H) Tryz.func214 (by kernel_rfl) (Eq.trans (pt rfl 1 f214_n0_d (by kernel_rfl)) h)
theorem eE_unlock_of (x0 x1 : Value) (H : AH) {r : Value × AH} (h : (
 newK [(vi 0), (.slice none 0 0), (vi 0), (vw 0)] H fun v0 H1 =>
 ld [.n, .f 0] x0 H1 fun v2 =>
 ld [.n, .f 2] v2 H1 fun v3 =>
 ld [.n, .f 1] x0 H1 fun v4 =>
 ld [.n, .f 6] x0 H1 fun v5 =>
 (FF n_table_Table_Unlock [v3, v4, v5] H1).bind fun r6 =>
 ld [.n, .f 10] x0 r6.2 fun v7 =>
 (pUn .not v7).bind fun v8 =>
 condK v8
 ((FF n_eE_ends [x0, (vi 5)] r6.2).bind fun r9 =>
 (pExtract r9.1 0).bind fun v10 =>
 (pExtract r9.1 1).bind fun v11 =>
 (pSt 4 v0 v10 r9.2).bind fun H12 =>
 (pLdN 4 v0 H12).bind fun v13 => some (Value.tuple #[v13, v11], H12))
 ((FF n_eE_on [x0, (.func (.func n_eE_look) #[x0] #[])] r6.2).bind fun r14 =>
 (pExtract r14.1 0).bind fun v15 =>
 (pExtract r14.1 1).bind fun v16 =>
 (pSt 4 v0 v15 r14.2).bind fun H17 =>
 (pLdN 4 v0 H17).bind fun v18 => some (Value.tuple #[v18, v16], H17))) = some r) : FF n_eE_unlock [x0, x1] H = some r :=
 fo Tryz.func215 (by kernel_rfl) h
noncomputable def f216_b (p : List Nat) : Code := Code.sub (bodyOf Tryz.f216) p
noncomputable def f216_r : KK := cFin PP (Tryz.f216).results.toList
noncomputable def f216_n0 : KK := CQ (f216_b [1]) f216_r kx0 f216_r
noncomputable def sSw_k0 (x0 x1 x2 x3 x10 : Value) (H : AH) : OV := f216_n0 (ls [x0, x1, x2, x3, u, u, u, u, u, u, x10] 27) H
noncomputable def f216_x1 : KX := BX 0 f216_r kx0
noncomputable def f216_y1 : KX := clx 274877906943 f216_x1
noncomputable def f216_n2 : KK := CLq (f216_b [1, 4, 5]) f216_y1 f216_r
noncomputable def f216_m2 : KK := clr 274877905904 f216_n2
noncomputable def sSw_k2 (x0 x1 x2 x3 x10 : Value) (H : AH) : OV := f216_n2 (ls [x0, x1, x2, x3, u, u, u, u, u, u, x10] 27) H
noncomputable def f216_n3 : KK := CQ (f216_b [1, 4, 5, 1]) f216_m2 f216_y1 f216_r
noncomputable def sSw_k3 (x0 x1 x2 x3 x10 : Value) (H : AH) : OV := f216_n3 (ls [x0, x1, x2, x3, u, u, u, u, u, u, x10] 27) H
noncomputable def f216_n4 : KK := CQ (f216_b [1, 4, 5, 1, 1]) f216_m2 f216_y1 f216_r
noncomputable def f216_m4 : KK := clr 274877905904 f216_n4
noncomputable def sSw_k4 (x0 x1 x2 x3 x10 : Value) (H : AH) : OV := f216_n4 (ls [x0, x1, x2, x3, u, u, u, u, u, u, x10] 27) H
noncomputable def f216_x6 : KX := BX 1 f216_m4 f216_y1
noncomputable def sSw_e1_0 (H : AH) : OV := f216_x1 0 (ls [] 38) H
theorem f216_r_d : Resp 274877906943 f216_r := rf
theorem f216_n0_d : Resp 274877905904 f216_n0 := rc f216_r_d kx0_d f216_r_d
theorem f216_x1_d : ∀ i, Resp 274877906943 (f216_x1 i) := rb f216_r_d kx0_d
theorem f216_n2_d : Resp 274877905904 f216_n2 := rl (cx f216_x1_d) f216_r_d
theorem f216_n3_d : Resp 274877905904 f216_n3 := rc (cd f216_n2_d) (cx f216_x1_d) f216_r_d
theorem f216_n4_d : Resp 274877905904 f216_n4 := rc (cd f216_n2_d) (cx f216_x1_d) f216_r_d
theorem f216_x6_d : ∀ i, Resp 274877905904 (f216_x6 i) := rb (cd f216_n4_d) (cx f216_x1_d)
theorem sSw_k4_eq (x0 x1 x2 x3 x10 : Value) (H : AH) : sSw_k4 x0 x1 x2 x3 x10 H =
 (pBin .other .add x10 (vi 1)).bind fun v5 =>
 sSw_k2 x0 x1 x2 x3 v5 H :=
 (by kernel_rfl)
theorem sSw_k3_eq (x0 x1 x2 x3 x10 : Value) (H : AH) : sSw_k3 x0 x1 x2 x3 x10 H =
 (pBin .other .add x1 x10).bind fun v7 =>
 (pBin .other .add x2 x10).bind fun v8 =>
 (pBin .other .add x2 x10).bind fun v9 =>
 ldN 7 [.i 7 v9] x0 H fun v10 =>
 (pBin .other .add x1 x10).bind fun v11 =>
 ldN 7 [.i 7 v11] x0 H fun v12 =>
 st 7 [.i 7 v7] x0 v10 H fun H13 =>
 st 7 [.i 7 v8] x0 v12 H13 fun H14 =>
 sSw_k4 x0 x1 x2 x3 x10 H14 :=
 (pt rfl 0 f216_n4_d (bt rfl (f216_b [1, 4, 5, 1, 0, 4]) 1 f216_x6_d (by kernel_rfl)))
theorem sSw_e1_0_eq (H : AH) : sSw_e1_0 H = some (Value.tuple #[], H) :=
 (by kernel_rfl)
theorem sSw_k2_eq (x0 x1 x2 x3 x10 : Value) (H : AH) : sSw_k2 x0 x1 x2 x3 x10 H =
 (pBin .other .lss x10 x3).bind fun v15 =>
 condK v15
 (sSw_k3 x0 x1 x2 x3 x10 H)
 (sSw_e1_0 H) :=
 lt' rfl f216_n2_d (pt rfl 0 f216_n3_d (by kernel_rfl))
theorem sSw_k0_eq (x0 x1 x2 x3 x10 : Value) (H : AH) : sSw_k0 x0 x1 x2 x3 x10 H =
 sSw_k2 x0 x1 x2 x3 x10 H :=
 (bt rfl (f216_b [1, 4]) 0 f216_x1_d (li rfl (f216_b [1, 4, 5]) f216_n2_d (by kernel_rfl)))
noncomputable def sSw (x0 x1 x2 x3 x4 : Value) (H : AH) : OV := cCode PP GG FF (f216_b []) (ls [x0, x1, x2, x3, x4] 33) H f216_r kx0 f216_r
theorem sSw_of (x0 x1 x2 x3 x4 : Value) (H : AH) {r : Value × AH} (h : (
 sSw_k0 x0 x1 x2 x3 (vi 0) H) = some r) : FF n_sSw [x0, x1, x2, x3, x4] H = some r :=
 fo (t := sSw x0 x1 x2 x3 x4 H) Tryz.func216 (by kernel_rfl) (Eq.trans (pt rfl 0 f216_n0_d (by kernel_rfl)) h)
theorem ring_Ring_Head_of (x0 x1 : Value) (H : AH) {r : Value × AH} (h : (
 ad [.n, .f 0] x0 fun v0 =>
 (pLd1 v0 H).bind fun v1 =>
 (FF n_ring_Ring_at [x0, (vi 12), (vi 0)] H).bind fun r2 =>
 eqK (pLd1 v0 r2.2) (pLd1 v0 H) <|
 (FF n_mem_Mem_Load [v1, x1, r2.1] r2.2).bind fun r3 =>
 some (r3.1, r3.2)) = some r) : FF n_ring_Ring_Head [x0, x1] H = some r :=
 fo Tryz.func253 (by kernel_rfl) h
theorem ring_Ring_Full_of (x0 x1 x2 : Value) (H : AH) {r : Value × AH} (h : (
 (FF n_word_Count [x1] H).bind fun r0 =>
 (pBin .other .geq r0.1 x2).bind fun v1 =>
 (gV v1 true r0.1).bind fun v2 =>
 (gV v1 true x2).bind fun v3 =>
 (gB v1 true (pBin .other .sub v2 v3)).bind fun v4 =>
 (gV v1 true x0).bind fun v5 =>
 gld v1 true  [.n, .f 2] v5 r0.2 fun v6 =>
 (onK (yv v1) true (lenK v6 some) (some undef)).bind fun v7 =>
 (gB v1 true (pConv (some .u64) v7)).bind fun v8 =>
 (gB v1 true (pBin .other .geq v4 v8)).bind fun v9 =>
 (pPick v1 v9 (vb false)).bind fun v10 =>
 some (v10, r0.2)) = some r) : FF n_ring_Ring_Full [x0, x1, x2] H = some r :=
 fo Tryz.func254 (by kernel_rfl) h
theorem eE_seq_of (x0 x1 : Value) (H : AH) {r : Value × AH} (h : (
 newK [(vi 0), (.slice none 0 0), (vi 0), (vw 0)] H fun v0 H1 =>
 ld [.n, .f 0] x0 H1 fun v2 =>
 ld [.n, .f 1] x0 H1 fun v3 =>
 (FF n_parts_Parts_Seq [v2, v3] H1).bind fun r4 =>
 st 1 [.n, .f 13] x0 r4.1 r4.2 fun H5 =>
 ld [.n, .f 13] x0 H5 fun v6 =>
 (pBin .other .rem v6 (vw 2)).bind fun v7 =>
 (pBin .other .eql v7 (vw 1)).bind fun v8 =>
 condK v8
 ((FF n_eE_on [x0, (.func (.func n_eE_word) #[x0] #[])] H5).bind fun r9 =>
 (pExtract r9.1 0).bind fun v10 =>
 (pExtract r9.1 1).bind fun v11 =>
 (pSt 4 v0 v10 r9.2).bind fun H12 =>
 (pLdN 4 v0 H12).bind fun v13 => some (Value.tuple #[v13, v11], H12))
 ((FF n_eE_on [x0, (.func (.func n_eE_wordAgain) #[x0] #[])] H5).bind fun r14 =>
 (pExtract r14.1 0).bind fun v15 =>
 (pExtract r14.1 1).bind fun v16 =>
 (pSt 4 v0 v15 r14.2).bind fun H17 =>
 (pLdN 4 v0 H17).bind fun v18 => some (Value.tuple #[v18, v16], H17))) = some r) : FF n_eE_seq [x0, x1] H = some r :=
 fo Tryz.func255 (by kernel_rfl) h
theorem eE_claim_of (x0 x1 : Value) (H : AH) {r : Value × AH} (h : (
 newK [(vi 0), (.slice none 0 0), (vi 0), (vw 0)] H fun v0 H1 =>
 ld [.n, .f 11] x0 H1 fun v2 =>
 ld [.n, .f 1] x0 H1 fun v3 =>
 ld [.n, .f 12] x0 H1 fun v4 =>
 (FF n_ring_Ring_Claim [v2, v3, v4] H1).bind fun r5 =>
 (pUn .not r5.1).bind fun v6 =>
 condK v6
 ((FF n_eE_on [x0, (.func (.func n_eE_word) #[x0] #[])] r5.2).bind fun r7 =>
 (pExtract r7.1 0).bind fun v8 =>
 (pExtract r7.1 1).bind fun v9 =>
 (pSt 4 v0 v8 r7.2).bind fun H10 =>
 (pLdN 4 v0 H10).bind fun v11 => some (Value.tuple #[v11, v9], H10))
 ((FF n_eE_note [x0, x1, (vi 0)] r5.2).bind fun r12 =>
 (FF n_eE_on [x0, (.func (.func n_eE_put) #[x0] #[])] r12.2).bind fun r13 =>
 (pExtract r13.1 0).bind fun v14 =>
 (pExtract r13.1 1).bind fun v15 =>
 (pSt 4 v0 v14 r13.2).bind fun H16 =>
 (pLdN 4 v0 H16).bind fun v17 => some (Value.tuple #[v17, v15], H16))) = some r) : FF n_eE_claim [x0, x1] H = some r :=
 fo Tryz.func256 (by kernel_rfl) h
theorem eE_begin_of (x0 x1 : Value) (H : AH) {r : Value × AH} (h : (
 newK [(vi 0), (.slice none 0 0), (vi 0), (vw 0)] H fun v0 H1 =>
 ld [.n, .f 0] x0 H1 fun v2 =>
 ld [.n, .f 1] v2 H1 fun v3 =>
 ld [.n, .f 1] x0 H1 fun v4 =>
 (FF n_inbox_Inbox_Begin [v3, v4] H1).bind fun r5 =>
 (FF n_eE_on [x0, (.func (.func n_eE_wake) #[x0] #[])] r5.2).bind fun r6 =>
 (pExtract r6.1 0).bind fun v7 =>
 (pExtract r6.1 1).bind fun v8 =>
 (pSt 4 v0 v7 r6.2).bind fun H9 =>
 (pLdN 4 v0 H9).bind fun v10 => some (Value.tuple #[v10, v8], H9)) = some r) : FF n_eE_begin [x0, x1] H = some r :=
 fo Tryz.func257 (by kernel_rfl) h
theorem parts_Parts_Seq_of (x0 x1 : Value) (H : AH) {r : Value × AH} (h : (
 ld [.n, .f 0] x0 H fun v0 =>
 mkS [(0, 1), (1, 1), (2, 1)] [(vi 0), (vi 0), (vi 0)] [(0, (vi 2))] fun v1 =>
 (FF n_mem_Mem_Load [v0, x1, v1] H).bind fun r2 =>
 some (r2.1, r2.2)) = some r) : FF n_parts_Parts_Seq [x0, x1] H = some r :=
 fo Tryz.func259 (by kernel_rfl) h
theorem eE_wordAgain_of (x0 x1 : Value) (H : AH) {r : Value × AH} (h : (
 newK [(vi 0), (.slice none 0 0), (vi 0), (vw 0)] H fun v0 H1 =>
 ld [.n, .f 11] x0 H1 fun v2 =>
 ld [.n, .f 1] x0 H1 fun v3 =>
 (FF n_ring_Ring_Word [v2, v3] H1).bind fun r4 =>
 st 1 [.n, .f 12] x0 r4.1 r4.2 fun H5 =>
 ld [.n, .f 12] x0 H5 fun v6 =>
 (FF n_word_State [v6] H5).bind fun r7 =>
 (pBin .other .eql r7.1 (vi 2)).bind fun v8 =>
 condK v8
 ((FF n_eE_on [x0, (.func (.func n_eE_lock) #[x0] #[])] r7.2).bind fun r9 =>
 (pExtract r9.1 0).bind fun v10 =>
 (pExtract r9.1 1).bind fun v11 =>
 (pSt 4 v0 v10 r9.2).bind fun H12 =>
 (pLdN 4 v0 H12).bind fun v13 => some (Value.tuple #[v13, v11], H12))
 ((FF n_eE_on [x0, (.func (.func n_eE_headAgain) #[x0] #[])] r7.2).bind fun r14 =>
 (pExtract r14.1 0).bind fun v15 =>
 (pExtract r14.1 1).bind fun v16 =>
 (pSt 4 v0 v15 r14.2).bind fun H17 =>
 (pLdN 4 v0 H17).bind fun v18 => some (Value.tuple #[v18, v16], H17))) = some r) : FF n_eE_wordAgain [x0, x1] H = some r :=
 fo Tryz.func276 (by kernel_rfl) h
theorem ring_Ring_Claim_of (x0 x1 x2 : Value) (H : AH) {r : Value × AH} (h : (
 (FF n_ring_Ring_swap [x0, x1, x2, (.func (.func n_word_More) #[] #[])] H).bind fun r0 =>
 some (r0.1, r0.2)) = some r) : FF n_ring_Ring_Claim [x0, x1, x2] H = some r :=
 fo Tryz.func277 (by kernel_rfl) h
theorem eE_put_of (x0 x1 : Value) (H : AH) {r : Value × AH} (h : (
 newK [(vi 0), (.slice none 0 0), (vi 0), (vw 0)] H fun v0 H1 =>
 (FF n_eE_lay [x0] H1).bind fun r2 =>
 (FF n_eE_on [x0, (.func (.func n_eE_show) #[x0] #[])] r2.2).bind fun r3 =>
 (pExtract r3.1 0).bind fun v4 =>
 (pExtract r3.1 1).bind fun v5 =>
 (pSt 4 v0 v4 r3.2).bind fun H6 =>
 (pLdN 4 v0 H6).bind fun v7 => some (Value.tuple #[v7, v5], H6)) = some r) : FF n_eE_put [x0, x1] H = some r :=
 fo Tryz.func278 (by kernel_rfl) h
theorem inbox_Inbox_Begin_of (x0 x1 : Value) (H : AH) {r : Value × AH} (h : (
 ad [.n, .f 0] x0 fun v0 =>
 (pLd1 v0 H).bind fun v1 =>
 (FF n_inbox_site_at [(vi 3), (vi 0)] H).bind fun r2 =>
 eqK (pLd1 v0 r2.2) (pLd1 v0 H) <|
 (FF n_mem_Mem_Add [v1, x1, r2.1, (vw 4294967296)] r2.2).bind fun r3 =>
 some (Value.tuple #[], r3.2)) = some r) : FF n_inbox_Inbox_Begin [x0, x1] H = some r :=
 fo Tryz.func279 (by kernel_rfl) h
theorem eE_wake_of (x0 x1 : Value) (H : AH) {r : Value × AH} (h : (
 newK [(vi 0), (.slice none 0 0), (vi 0), (vw 0)] H fun v0 H1 =>
 ld [.n, .f 11] x0 H1 fun v2 =>
 ld [.n, .f 1] x0 H1 fun v3 =>
 ld [.n, .f 12] x0 H1 fun v4 =>
 (FF n_ring_Ring_Claim [v2, v3, v4] H1).bind fun r5 =>
 (pUn .not r5.1).bind fun v6 =>
 condK v6
 ((FF n_eE_on [x0, (.func (.func n_eE_back) #[x0] #[])] r5.2).bind fun r7 =>
 (pExtract r7.1 0).bind fun v8 =>
 (pExtract r7.1 1).bind fun v9 =>
 (pSt 4 v0 v8 r7.2).bind fun H10 =>
 (pLdN 4 v0 H10).bind fun v11 => some (Value.tuple #[v11, v9], H10))
 ((FF n_eE_note [x0, x1, (vi 0)] r5.2).bind fun r12 =>
 (FF n_eE_on [x0, (.func (.func n_eE_down) #[x0] #[])] r12.2).bind fun r13 =>
 (pExtract r13.1 0).bind fun v14 =>
 (pExtract r13.1 1).bind fun v15 =>
 (pSt 4 v0 v14 r13.2).bind fun H16 =>
 (pLdN 4 v0 H16).bind fun v17 => some (Value.tuple #[v17, v15], H16))) = some r) : FF n_eE_wake [x0, x1] H = some r :=
 fo Tryz.func280 (by kernel_rfl) h
theorem eE_headAgain_of (x0 x1 : Value) (H : AH) {r : Value × AH} (h : (
 newK [(vi 0), (.slice none 0 0), (vi 0), (vw 0)] H fun v0 H1 =>
 ad [.n, .f 11] x0 fun v2 =>
 (pLd1 v2 H1).bind fun v3 =>
 ad [.n, .f 12] x0 fun v4 =>
 (pLd1 v4 H1).bind fun v5 =>
 ld [.n, .f 11] x0 H1 fun v6 =>
 ld [.n, .f 1] x0 H1 fun v7 =>
 (FF n_ring_Ring_Head [v6, v7] H1).bind fun r8 =>
 eqK (pLd1 v2 r8.2) (pLd1 v2 H1) <|
 eqK (pLd1 v4 r8.2) (pLd1 v4 H1) <|
 (FF n_ring_Ring_Full [v3, v5, r8.1] r8.2).bind fun r9 =>
 (pUn .not r9.1).bind fun v10 =>
 condK v10
 ((FF n_eE_on [x0, (.func (.func n_eE_word) #[x0] #[])] r9.2).bind fun r11 =>
 (pExtract r11.1 0).bind fun v12 =>
 (pExtract r11.1 1).bind fun v13 =>
 (pSt 4 v0 v12 r11.2).bind fun H14 =>
 (pLdN 4 v0 H14).bind fun v15 => some (Value.tuple #[v15, v13], H14))
 (st 1 [.n, .f 14] x0 x1 r9.2 fun H16 =>
 (FF n_eE_on [x0, (.func (.func n_eE_seqAgain) #[x0] #[])] H16).bind fun r17 =>
 (pExtract r17.1 0).bind fun v18 =>
 (pExtract r17.1 1).bind fun v19 =>
 (pSt 4 v0 v18 r17.2).bind fun H20 =>
 (pLdN 4 v0 H20).bind fun v21 => some (Value.tuple #[v21, v19], H20))) = some r) : FF n_eE_headAgain [x0, x1] H = some r :=
 fo Tryz.func287 (by kernel_rfl) h
theorem eE_lay_of (x0 : Value) (H : AH) {r : Value × AH} (h : (
 ad [.n, .f 11] x0 fun v0 =>
 (pLd1 v0 H).bind fun v1 =>
 ad [.n, .f 1] x0 fun v2 =>
 (pLd1 v2 H).bind fun v3 =>
 ld [.n, .f 12] x0 H fun v4 =>
 (FF n_word_Count [v4] H).bind fun r5 =>
 eqK (pLd1 v0 r5.2) (pLd1 v0 H) <|
 eqK (pLd1 v2 r5.2) (pLd1 v2 H) <|
 ad [.n, .f 2, .f 1] x0 fun v6 =>
 (pLd1 v6 r5.2).bind fun v7 =>
 eqK (pLd1 v6 H) (pLd1 v6 r5.2) <|
 ad [.n, .f 2, .f 2] x0 fun v8 =>
 (pLd1 v8 r5.2).bind fun v9 =>
 eqK (pLd1 v8 H) (pLd1 v8 r5.2) <|
 ad [.n, .f 2, .f 3] x0 fun v10 =>
 (pLd1 v10 r5.2).bind fun v11 =>
 eqK (pLd1 v10 H) (pLd1 v10 r5.2) <|
 mkS [(0, 1), (1, 1), (2, 1)] [(vi 0), (vi 0), (vi 0)] [(0, v7), (1, v9), (2, v11)] fun v12 =>
 (FF n_ring_Ring_Put [v1, v3, r5.1, v12] r5.2).bind fun r13 =>
 some (Value.tuple #[], r13.2)) = some r) : FF n_eE_lay [x0] H = some r :=
 fo Tryz.func289 (by kernel_rfl) h
theorem eE_show_of (x0 x1 : Value) (H : AH) {r : Value × AH} (h : (
 newK [(vi 0), (.slice none 0 0), (vi 0), (vw 0)] H fun v0 H1 =>
 ad [.n, .f 11] x0 fun v2 =>
 (pLd1 v2 H1).bind fun v3 =>
 ad [.n, .f 1] x0 fun v4 =>
 (pLd1 v4 H1).bind fun v5 =>
 ld [.n, .f 12] x0 H1 fun v6 =>
 (FF n_word_Count [v6] H1).bind fun r7 =>
 eqK (pLd1 v2 r7.2) (pLd1 v2 H1) <|
 eqK (pLd1 v4 r7.2) (pLd1 v4 H1) <|
 (FF n_ring_Ring_Show [v3, v5, r7.1] r7.2).bind fun r8 =>
 (FF n_eE_ends [x0, (vi 0)] r8.2).bind fun r9 =>
 (pExtract r9.1 0).bind fun v10 =>
 (pExtract r9.1 1).bind fun v11 =>
 (pSt 4 v0 v10 r9.2).bind fun H12 =>
 (pLdN 4 v0 H12).bind fun v13 => some (Value.tuple #[v13, v11], H12)) = some r) : FF n_eE_show [x0, x1] H = some r :=
 fo Tryz.func290 (by kernel_rfl) h
theorem eE_back_of (x0 x1 : Value) (H : AH) {r : Value × AH} (h : (
 newK [(vi 0), (.slice none 0 0), (vi 0), (vw 0)] H fun v0 H1 =>
 ld [.n, .f 0] x0 H1 fun v2 =>
 ld [.n, .f 1] v2 H1 fun v3 =>
 ld [.n, .f 1] x0 H1 fun v4 =>
 (FF n_inbox_Inbox_End [v3, v4] H1).bind fun r5 =>
 (FF n_eE_on [x0, (.func (.func n_eE_word) #[x0] #[])] r5.2).bind fun r6 =>
 (pExtract r6.1 0).bind fun v7 =>
 (pExtract r6.1 1).bind fun v8 =>
 (pSt 4 v0 v7 r6.2).bind fun H9 =>
 (pLdN 4 v0 H9).bind fun v10 => some (Value.tuple #[v10, v8], H9)) = some r) : FF n_eE_back [x0, x1] H = some r :=
 fo Tryz.func291 (by kernel_rfl) h
theorem eE_down_of (x0 x1 : Value) (H : AH) {r : Value × AH} (h : (
 newK [(vi 0), (.slice none 0 0), (vi 0), (vw 0)] H fun v0 H1 =>
 (FF n_eE_lay [x0] H1).bind fun r2 =>
 (FF n_eE_on [x0, (.func (.func n_eE_shown) #[x0] #[])] r2.2).bind fun r3 =>
 (pExtract r3.1 0).bind fun v4 =>
 (pExtract r3.1 1).bind fun v5 =>
 (pSt 4 v0 v4 r3.2).bind fun H6 =>
 (pLdN 4 v0 H6).bind fun v7 => some (Value.tuple #[v7, v5], H6)) = some r) : FF n_eE_down [x0, x1] H = some r :=
 fo Tryz.func292 (by kernel_rfl) h
theorem eE_seqAgain_of (x0 x1 : Value) (H : AH) {r : Value × AH} (h : (
 newK [(vi 0), (.slice none 0 0), (vi 0), (vw 0)] H fun v0 H1 =>
 ld [.n, .f 0] x0 H1 fun v2 =>
 ld [.n, .f 1] x0 H1 fun v3 =>
 (FF n_parts_Parts_Seq [v2, v3] H1).bind fun r4 =>
 ad [.n, .f 13] x0 fun v5 =>
 (pLd1 v5 r4.2).bind fun v6 =>
 eqK (pLd1 v5 H1) (pLd1 v5 r4.2) <|
 (pBin .other .neq r4.1 v6).bind fun v7 =>
 condK v7
 ((FF n_eE_on [x0, (.func (.func n_eE_word) #[x0] #[])] r4.2).bind fun r8 =>
 (pExtract r8.1 0).bind fun v9 =>
 (pExtract r8.1 1).bind fun v10 =>
 (pSt 4 v0 v9 r8.2).bind fun H11 =>
 (pLdN 4 v0 H11).bind fun v12 => some (Value.tuple #[v12, v10], H11))
 (ld [.n, .f 14] x0 r4.2 fun v13 =>
 (FF n_eE_refuse [x0, v13, (vi 9)] r4.2).bind fun r14 =>
 (pExtract r14.1 0).bind fun v15 =>
 (pExtract r14.1 1).bind fun v16 =>
 (pSt 4 v0 v15 r14.2).bind fun H17 =>
 (pLdN 4 v0 H17).bind fun v18 => some (Value.tuple #[v18, v16], H17))) = some r) : FF n_eE_seqAgain [x0, x1] H = some r :=
 fo Tryz.func293 (by kernel_rfl) h
theorem ring_Ring_Put_of (x0 x1 x2 x3 : Value) (H : AH) {r : Value × AH} (h : (
 newK (Value.cells x3).toList H fun v0 H1 =>
 ad [.n, .f 0] x0 fun v2 =>
 (pLd1 v2 H1).bind fun v3 =>
 (FF n_ring_Ring_cell [x0, x2] H1).bind fun r4 =>
 eqK (pLd1 v2 r4.2) (pLd1 v2 H1) <|
 (FF n_ring_Ring_at [x0, (vi 16), r4.1] r4.2).bind fun r5 =>
 eqK (pLd1 v2 r5.2) (pLd1 v2 H1) <|
 (FF n_mem_Mem_Write [v3, x1, r5.1] r5.2).bind fun r6 =>
 ad [.n, .f 2] x0 fun v7 =>
 (pLd1 v7 r6.2).bind fun v8 =>
 (FF n_ring_Ring_cell [x0, x2] r6.2).bind fun r9 =>
 eqK (pLd1 v7 r9.2) (pLd1 v7 r6.2) <|
 (pLdN 3 v0 r9.2).bind fun v10 =>
 eqK (pLdN 3 v0 r6.2) (pLdN 3 v0 r9.2) <|
 st 3 [.i 3 r9.1] v8 v10 r9.2 fun H11 =>
 some (Value.tuple #[], H11)) = some r) : FF n_ring_Ring_Put [x0, x1, x2, x3] H = some r :=
 fo Tryz.func294 (by kernel_rfl) h
theorem ring_Ring_Show_of (x0 x1 x2 : Value) (H : AH) {r : Value × AH} (h : (
 ad [.n, .f 0] x0 fun v0 =>
 (pLd1 v0 H).bind fun v1 =>
 (FF n_ring_Ring_cell [x0, x2] H).bind fun r2 =>
 eqK (pLd1 v0 r2.2) (pLd1 v0 H) <|
 (FF n_ring_Ring_at [x0, (vi 15), r2.1] r2.2).bind fun r3 =>
 eqK (pLd1 v0 r3.2) (pLd1 v0 H) <|
 (pBin .other .add x2 (vw 1)).bind fun v4 =>
 (FF n_mem_Mem_Store [v1, x1, r3.1, v4] r3.2).bind fun r5 =>
 some (Value.tuple #[], r5.2)) = some r) : FF n_ring_Ring_Show [x0, x1, x2] H = some r :=
 fo Tryz.func295 (by kernel_rfl) h
theorem inbox_Inbox_End_of (x0 x1 : Value) (H : AH) {r : Value × AH} (h : (
 ad [.n, .f 0] x0 fun v0 =>
 (pLd1 v0 H).bind fun v1 =>
 (FF n_inbox_site_at [(vi 3), (vi 0)] H).bind fun r2 =>
 eqK (pLd1 v0 r2.2) (pLd1 v0 H) <|
 (FF n_mem_Mem_Add [v1, x1, r2.1, (vw 1)] r2.2).bind fun r3 =>
 some (Value.tuple #[], r3.2)) = some r) : FF n_inbox_Inbox_End [x0, x1] H = some r :=
 fo Tryz.func296 (by kernel_rfl) h
theorem eE_shown_of (x0 x1 : Value) (H : AH) {r : Value × AH} (h : (
 newK [(vi 0), (.slice none 0 0), (vi 0), (vw 0)] H fun v0 H1 =>
 ad [.n, .f 11] x0 fun v2 =>
 (pLd1 v2 H1).bind fun v3 =>
 ad [.n, .f 1] x0 fun v4 =>
 (pLd1 v4 H1).bind fun v5 =>
 ld [.n, .f 12] x0 H1 fun v6 =>
 (FF n_word_Count [v6] H1).bind fun r7 =>
 eqK (pLd1 v2 r7.2) (pLd1 v2 H1) <|
 eqK (pLd1 v4 r7.2) (pLd1 v4 H1) <|
 (FF n_ring_Ring_Show [v3, v5, r7.1] r7.2).bind fun r8 =>
 (FF n_eE_on [x0, (.func (.func n_eE_topmost) #[x0] #[])] r8.2).bind fun r9 =>
 (pExtract r9.1 0).bind fun v10 =>
 (pExtract r9.1 1).bind fun v11 =>
 (pSt 4 v0 v10 r9.2).bind fun H12 =>
 (pLdN 4 v0 H12).bind fun v13 => some (Value.tuple #[v13, v11], H12)) = some r) : FF n_eE_shown [x0, x1] H = some r :=
 fo Tryz.func297 (by kernel_rfl) h
theorem ring_Ring_cell_of (x0 x1 : Value) (H : AH) {r : Value × AH} (h : (
 ld [.n, .f 2] x0 H fun v0 =>
 lenK v0 fun v1 =>
 (pConv (some .u64) v1).bind fun v2 =>
 (pBin .other .rem x1 v2).bind fun v3 =>
 (pConv (some .i64) v3).bind fun v4 =>
 some (v4, H)) = some r) : FF n_ring_Ring_cell [x0, x1] H = some r :=
 fo Tryz.func298 (by kernel_rfl) h
theorem eE_topmost_of (x0 x1 : Value) (H : AH) {r : Value × AH} (h : (
 newK [(vi 0), (.slice none 0 0), (vi 0), (vw 0)] H fun v0 H1 =>
 ld [.n, .f 0] x0 H1 fun v2 =>
 ld [.n, .f 1] v2 H1 fun v3 =>
 ld [.n, .f 1] x0 H1 fun v4 =>
 ld [.n, .f 6] x0 H1 fun v5 =>
 (FF n_inbox_Inbox_Top [v3, v4, v5] H1).bind fun r6 =>
 st 1 [.n, .f 15] x0 r6.1 r6.2 fun H7 =>
 (FF n_eE_on [x0, (.func (.func n_eE_link) #[x0] #[])] H7).bind fun r8 =>
 (pExtract r8.1 0).bind fun v9 =>
 (pExtract r8.1 1).bind fun v10 =>
 (pSt 4 v0 v9 r8.2).bind fun H11 =>
 (pLdN 4 v0 H11).bind fun v12 => some (Value.tuple #[v12, v10], H11)) = some r) : FF n_eE_topmost [x0, x1] H = some r :=
 fo Tryz.func299 (by kernel_rfl) h
theorem inbox_Inbox_Top_of (x0 x1 x2 : Value) (H : AH) {r : Value × AH} (h : (
 ad [.n, .f 0] x0 fun v0 =>
 (pLd1 v0 H).bind fun v1 =>
 ld [.n, .f 3] x0 H fun v2 =>
 (pCallee v2 [x2]).bind fun c => (FF c.1 c.2 H).bind fun r3 =>
 eqK (pLd1 v0 r3.2) (pLd1 v0 H) <|
 (FF n_mem_Mem_Load [v1, x1, r3.1] r3.2).bind fun r4 =>
 some (r4.1, r4.2)) = some r) : FF n_inbox_Inbox_Top [x0, x1, x2] H = some r :=
 fo Tryz.func300 (by kernel_rfl) h
theorem eE_link_of (x0 x1 : Value) (H : AH) {r : Value × AH} (h : (
 newK [(vi 0), (.slice none 0 0), (vi 0), (vw 0)] H fun v0 H1 =>
 ld [.n, .f 0] x0 H1 fun v2 =>
 ld [.n, .f 1] v2 H1 fun v3 =>
 ld [.n, .f 1] x0 H1 fun v4 =>
 ld [.n, .f 9] x0 H1 fun v5 =>
 ld [.n, .f 15] x0 H1 fun v6 =>
 (FF n_inbox_Inbox_Link [v3, v4, v5, v6] H1).bind fun r7 =>
 (FF n_eE_on [x0, (.func (.func n_eE_push) #[x0] #[])] r7.2).bind fun r8 =>
 (pExtract r8.1 0).bind fun v9 =>
 (pExtract r8.1 1).bind fun v10 =>
 (pSt 4 v0 v9 r8.2).bind fun H11 =>
 (pLdN 4 v0 H11).bind fun v12 => some (Value.tuple #[v12, v10], H11)) = some r) : FF n_eE_link [x0, x1] H = some r :=
 fo Tryz.func301 (by kernel_rfl) h
theorem inbox_Inbox_Link_of (x0 x1 x2 x3 : Value) (H : AH) {r : Value × AH} (h : (
 ad [.n, .f 0] x0 fun v0 =>
 (pLd1 v0 H).bind fun v1 =>
 ld [.n, .f 4] x0 H fun v2 =>
 (pCallee v2 [x2]).bind fun c => (FF c.1 c.2 H).bind fun r3 =>
 eqK (pLd1 v0 r3.2) (pLd1 v0 H) <|
 (FF n_mem_Mem_Write [v1, x1, r3.1] r3.2).bind fun r4 =>
 ld [.n, .f 2] x0 r4.2 fun v5 =>
 (pUpdate .int v5 x2 x3 r4.2).bind fun H6 =>
 some (Value.tuple #[], H6)) = some r) : FF n_inbox_Inbox_Link [x0, x1, x2, x3] H = some r :=
 fo Tryz.func302 (by kernel_rfl) h
theorem eE_push_of (x0 x1 : Value) (H : AH) {r : Value × AH} (h : (
 newK [(vi 0), (.slice none 0 0), (vi 0), (vw 0)] H fun v0 H1 =>
 ld [.n, .f 0] x0 H1 fun v2 =>
 ld [.n, .f 1] v2 H1 fun v3 =>
 ld [.n, .f 1] x0 H1 fun v4 =>
 ld [.n, .f 6] x0 H1 fun v5 =>
 ld [.n, .f 15] x0 H1 fun v6 =>
 ld [.n, .f 9] x0 H1 fun v7 =>
 (FF n_inbox_Inbox_Push [v3, v4, v5, v6, v7] H1).bind fun r8 =>
 (pUn .not r8.1).bind fun v9 =>
 condK v9
 ((FF n_eE_on [x0, (.func (.func n_eE_topmost) #[x0] #[])] r8.2).bind fun r10 =>
 (pExtract r10.1 0).bind fun v11 =>
 (pExtract r10.1 1).bind fun v12 =>
 (pSt 4 v0 v11 r10.2).bind fun H13 =>
 (pLdN 4 v0 H13).bind fun v14 => some (Value.tuple #[v14, v12], H13))
 ((FF n_eE_on [x0, (.func (.func n_eE_end) #[x0] #[])] r8.2).bind fun r15 =>
 (pExtract r15.1 0).bind fun v16 =>
 (pExtract r15.1 1).bind fun v17 =>
 (pSt 4 v0 v16 r15.2).bind fun H18 =>
 (pLdN 4 v0 H18).bind fun v19 => some (Value.tuple #[v19, v17], H18))) = some r) : FF n_eE_push [x0, x1] H = some r :=
 fo Tryz.func303 (by kernel_rfl) h
theorem inbox_Inbox_Push_of (x0 x1 x2 x3 x4 : Value) (H : AH) {r : Value × AH} (h : (
 ad [.n, .f 0] x0 fun v0 =>
 (pLd1 v0 H).bind fun v1 =>
 ld [.n, .f 3] x0 H fun v2 =>
 (pCallee v2 [x2]).bind fun c => (FF c.1 c.2 H).bind fun r3 =>
 eqK (pLd1 v0 r3.2) (pLd1 v0 H) <|
 (pConv (some .u64) x4).bind fun v4 =>
 (pBin .other .add v4 (vw 1)).bind fun v5 =>
 (FF n_mem_Mem_Swap [v1, x1, r3.1, x3, v5] r3.2).bind fun r6 =>
 some (r6.1, r6.2)) = some r) : FF n_inbox_Inbox_Push [x0, x1, x2, x3, x4] H = some r :=
 fo Tryz.func304 (by kernel_rfl) h
theorem eE_end_of (x0 x1 : Value) (H : AH) {r : Value × AH} (h : (
 newK [(vi 0), (.slice none 0 0), (vi 0), (vw 0)] H fun v0 H1 =>
 ld [.n, .f 0] x0 H1 fun v2 =>
 ld [.n, .f 1] v2 H1 fun v3 =>
 ld [.n, .f 1] x0 H1 fun v4 =>
 (FF n_inbox_Inbox_End [v3, v4] H1).bind fun r5 =>
 (FF n_eE_ends [x0, (vi 0)] r5.2).bind fun r6 =>
 (pExtract r6.1 0).bind fun v7 =>
 (pExtract r6.1 1).bind fun v8 =>
 (pSt 4 v0 v7 r6.2).bind fun H9 =>
 (pLdN 4 v0 H9).bind fun v10 => some (Value.tuple #[v10, v8], H9)) = some r) : FF n_eE_end [x0, x1] H = some r :=
 fo Tryz.func305 (by kernel_rfl) h
theorem w_gad_ft {o : Nat} {x : Value} {k : Value → OV} {Q : Value → AH → Prop} (h : wp (k undef) Q) : wp (gad (vb false) true [.n, .f o] x k) Q := h
theorem w_gad_tt {p : List Stp} {x : Value} {k : Value → OV} {Q : Value → AH → Prop} (h : wp (ad p x k) Q) : wp (gad (vb true) true p x k) Q := by rw [gad_on]; exact h
section
variable {m i rp : Nat} {cs : List Pk} {R : SP} {H : AH}
theorem ringP_open (h : Holds (ringP m i rp cs * R) H) : ∃ cv, Holds (blk rp (.cells false [vp m, vi i, cv]) * (ts 3 Pk.cells cv cs * R)) H := by
 obtain ⟨cv, h1⟩ := Holds.ex.1 h
 exact ⟨cv, h1.to⟩
theorem ringP_close {cv : Value} (h : Holds (blk rp (.cells false [vp m, vi i, cv]) * (ts 3 Pk.cells cv cs * R)) H) : Holds (ringP m i rp cs * R) H :=
 Holds.ex.2 ⟨cv, h.to⟩
theorem ringX_open (h : Holds (ringX m i rp cs * R) H) : ∃ cv, Holds (blk rp (.cells false [vp m, vi i, vi cs.length, cv]) * (ts 3 Pk.cells cv cs * R)) H := by
 obtain ⟨cv, h1⟩ := Holds.ex.1 h
 exact ⟨cv, h1.to⟩
theorem ringX_close {cv : Value} (h : Holds (blk rp (.cells false [vp m, vi i, vi cs.length, cv]) * (ts 3 Pk.cells cv cs * R)) H) : Holds (ringX m i rp cs * R) H :=
 Holds.ex.2 ⟨cv, h.to⟩
end
section
variable (m i rp : Nat) (cs : List Pk) (μ : Mu)
theorem ring_at (kind cell : Int) : Sp n_ring_Ring_at [vp rp, vi kind, vi cell] (ringP m i rp cs) (fun _ : Unit => encL (kind, (i : Int), cell)) (fun _ => ringP m i rp cs) := by
 refine sp_of fun R H h => ?_
 obtain ⟨cv, h0⟩ := ringP_open h
 refine wp_of (fun r => ring_Ring_at_of _ _ _ H) ?_
 refine w_new h0 fun b H1 h1 => ?_
 refine w_ld h1 end_nf rfl ?_
 refine w_S ?_
 refine w_St h1 rfl rfl fun H2 h2 => ?_
 refine w_LdN h2 ?_
 exact w_ret ⟨(), rfl, ringP_close (cv := cv) h2.to⟩
theorem ring_word (who : Int) (hE : μ.N < 1099511627000) : Sp n_ring_Ring_Word [vp rp, vi who] (ringP m i rp cs * memP m μ) (fun _ : Unit => vu (μ.V (11, (i : Int), 0))) (fun _ => ringP m i rp cs * memP m (μ.acc who 1 (11, (i : Int), 0))) := by
 refine sp_of fun R H h => ?_
 obtain ⟨cv, h0⟩ := ringP_open (m := m) (i := i) (rp := rp) (cs := cs) (R := memP m μ * R) (H := H) h.to
 refine wp_of (fun r => ring_Ring_Word_of _ _ H) ?_
 refine w_ad end_nf ?_
 refine w_Ld1 h0 rfl ?_
 refine w_call h (ring_at m i rp cs 11 0) fun _ H1 h1 => ?_
 obtain ⟨cv1, k1⟩ := ringP_open h1
 refine w_eq1 k1 h0 (by rfl) ?_
 refine w_call h1 (p_load m μ who (11, (i : Int), 0) (by omega)) fun _ H2 h2 => ?_
 exact w_ret ⟨(), rfl, h2.to⟩
theorem ring_head (who : Int) (hE : μ.N < 1099511627000) : Sp n_ring_Ring_Head [vp rp, vi who] (ringP m i rp cs * memP m μ) (fun _ : Unit => vu (μ.V (12, (i : Int), 0))) (fun _ => ringP m i rp cs * memP m (μ.acc who 1 (12, (i : Int), 0))) := by
 refine sp_of fun R H h => ?_
 obtain ⟨cv, h0⟩ := ringP_open (m := m) (i := i) (rp := rp) (cs := cs) (R := memP m μ * R) (H := H) h.to
 refine wp_of (fun r => ring_Ring_Head_of _ _ H) ?_
 refine w_ad end_nf ?_
 refine w_Ld1 h0 rfl ?_
 refine w_call h (ring_at m i rp cs 12 0) fun _ H1 h1 => ?_
 obtain ⟨cv1, k1⟩ := ringP_open h1
 refine w_eq1 k1 h0 (by rfl) ?_
 refine w_call h1 (p_load m μ who (12, (i : Int), 0) (by omega)) fun _ H2 h2 => ?_
 exact w_ret ⟨(), rfl, h2.to⟩
def fullW (w h k : Nat) : Bool := decide (h ≤ wCount w ∧ k ≤ wCount w - h)
theorem ring_full (w h : Nat) (hw : w < 18446744073709551616) (hc : cs.length < 1000) : Sp n_ring_Ring_Full [vp rp, vu w, vu h] (ringP m i rp cs) (fun _ : Unit => vb (fullW w h cs.length)) (fun _ => ringP m i rp cs) := by
 refine sp_of fun R H hh => ?_
 have hl := wCount_le w
 refine wp_of (fun r => ring_Ring_Full_of _ _ _ H) ?_
 refine w_call hh (word_count w hw) fun _ H1 h1 => ?_
 by_cases hle : h ≤ wCount w
 ·refine w_bind (geq_t (by omega)) ?_
  with_reducible repeat refine gg ?_
  refine w_bind (bin_sub_u hle (by omega)) ?_
  obtain ⟨cv, h2⟩ := ringP_open (m := m) (i := i) (rp := rp) (cs := cs) (R := R) (H := H1) h1.to
  with_reducible repeat refine gg ?_
  refine w_ld h2 end_nf rfl ?_
  with_reducible repeat refine gg ?_
  refine w_rlenB (s := cv) (l := cs) h2 ?_
  with_reducible repeat refine gg ?_
  refine w_bind (conv_ui (by omega) (by omega)) ?_
  rw [show ((cs.length : Nat) : Int).toNat = cs.length from Int.toNat_natCast _]
  with_reducible repeat refine gg ?_
  by_cases hk : cs.length ≤ wCount w - h
  ·refine w_bind (geq_t (by omega)) ?_
   with_reducible repeat refine gg ?_
   exact w_ret ⟨(), by rw [fullW, decide_eq_true ⟨hle, hk⟩], h1.to⟩
  ·refine w_bind (geq_f (by omega)) ?_
   with_reducible repeat refine gg ?_
   exact w_ret ⟨(), by rw [fullW, decide_eq_false (fun q => hk q.2)], h1.to⟩
 ·refine w_bind (geq_f (by omega)) ?_
  with_reducible repeat refine gg ?_
  exact w_ret ⟨(), by rw [fullW, decide_eq_false (fun q => hle q.1)], h1.to⟩
abbrev Mu.turn (μ : Mu) (who : Int) (i w : Nat) (o : Option Nat) : Mu := match o with
 | none => μ
 | some n => μ.swp who (11, (i : Int), 0) w n
def turned (μ : Mu) (i w : Nat) (o : Option Nat) : Bool := o.isSome && decide (μ.V (11, (i : Int), 0) = w)
theorem ring_swap (who : Int) (w fn : Nat) (o : Option Nat) (hf : Sp fn [vu w] emp (fun _ : Unit => optV o) (fun _ => emp)) (hE : μ.N < 1099511627000) :
  Sp n_ring_Ring_swap [vp rp, vi who, vu w, .func (.func fn) #[] #[]] (ringP m i rp cs * memP m μ) (fun _ : Unit => vb (turned μ i w o)) (fun _ => ringP m i rp cs * memP m (μ.turn who i w o)) := by
 refine sp_of fun R H h => ?_
 refine wp_of (fun r => ring_Ring_swap_of _ _ _ _ H) ?_
 refine wp_eq (show (pCallee (.func (.func fn) #[] #[]) [vu w]).bind _ = _ from rfl) ?_
 refine w_call h hf fun _ H1 h1 => ?_
 cases o with
 | none =>
  refine w_bind (v := vw 0) rfl ?_
  refine w_bind (v := vb false) rfl ?_
  with_reducible repeat refine gg ?_
  refine w_gad_ft ?_
  with_reducible repeat refine gg ?_
  refine w_eqK rfl ?_
  with_reducible repeat refine gg ?_
  exact w_ret ⟨(), rfl, h1.to⟩
 | some n =>
  refine w_bind (v := vu n) rfl ?_
  refine w_bind (v := vb true) rfl ?_
  with_reducible repeat refine gg ?_
  refine w_gad_tt ?_
  obtain ⟨cv, k1⟩ := ringP_open (m := m) (i := i) (rp := rp) (cs := cs) (R := memP m μ * R) (H := H1) h1.to
  refine w_ad end_nf ?_
  with_reducible repeat refine gg ?_
  refine w_Ld1 k1 rfl ?_
  with_reducible repeat refine gg ?_
  refine w_call h1 (ring_at m i rp cs 11 0) fun _ H2 h2 => ?_
  obtain ⟨cv2, k2⟩ := ringP_open (m := m) (i := i) (rp := rp) (cs := cs) (R := memP m μ * R) (H := H2) h2.to
  refine w_eq1 k2 k1 (by rfl) ?_
  with_reducible repeat refine gg ?_
  refine w_call h2 (p_swap m μ who (11, (i : Int), 0) w n (by omega)) fun _ H3 h3 => ?_
  with_reducible repeat refine gg ?_
  exact w_ret ⟨(), rfl, h3.to⟩
theorem ring_claim (who : Int) (w : Nat) (hw : w < 18446744073709551616) (hE : μ.N < 1099511627000) : Sp n_ring_Ring_Claim [vp rp, vi who, vu w] (ringP m i rp cs * memP m μ) (fun _ : Unit => vb (turned μ i w (wTurn w 0))) (fun _ => ringP m i rp cs * memP m (μ.turn who i w (wTurn w 0))) := by
 refine sp_of fun R H h => ?_
 refine wp_of (fun r => ring_Ring_Claim_of _ _ _ H) ?_
 refine w_call h (ring_swap m i rp cs μ who w n_word_More (wTurn w 0) (word_more w hw) hE) fun _ H1 h1 => ?_
 exact w_ret ⟨(), rfl, h1.to⟩
end
section
variable (m i rp : Nat) (cs : List Pk) (μ : Mu)
theorem xring_word (who : Int) (hE : μ.N < 1099511627000) : Sp n_r16_Ring_Word [vp rp, vi who] (ringX m i rp cs * memX m μ) (fun _ : Unit => vu (μ.V (11, (i : Int), 0))) (fun _ => ringX m i rp cs * memX m (μ.acc who 1 (11, (i : Int), 0))) := by
 refine sp_of fun R H h => ?_
 obtain ⟨cv, h0⟩ := ringX_open (m := m) (i := i) (rp := rp) (cs := cs) (R := memX m μ * R) (H := H) h.to
 refine wp_of (fun r => r16_Ring_Word_of _ _ H) ?_
 refine w_ad end_nf ?_
 refine w_Ld1 h0 rfl ?_
 refine w_ld h0 end_nf rfl ?_
 refine w_call h0 (r16_loc 11 (i : Int) 0) fun _ H1 h1 => ?_
 refine w_eq1 h1 h0 (by rfl) ?_
 refine w_call h1 (r16_load m μ who (11, (i : Int), 0) (by omega)) fun _ H2 h2 => ?_
 exact w_ret ⟨(), rfl, (ringX_close (m := m) (i := i) (rp := rp) (cs := cs) (cv := cv) (R := memX m (μ.acc who 1 (11, (i : Int), 0)) * R) h2.to).to⟩
theorem xring_head (who : Int) (hE : μ.N < 1099511627000) : Sp n_r16_Ring_Head [vp rp, vi who] (ringX m i rp cs * memX m μ) (fun _ : Unit => vu (μ.V (12, (i : Int), 0))) (fun _ => ringX m i rp cs * memX m (μ.acc who 1 (12, (i : Int), 0))) := by
 refine sp_of fun R H h => ?_
 obtain ⟨cv, h0⟩ := ringX_open (m := m) (i := i) (rp := rp) (cs := cs) (R := memX m μ * R) (H := H) h.to
 refine wp_of (fun r => r16_Ring_Head_of _ _ H) ?_
 refine w_ad end_nf ?_
 refine w_Ld1 h0 rfl ?_
 refine w_ld h0 end_nf rfl ?_
 refine w_call h0 (r16_loc 12 (i : Int) 0) fun _ H1 h1 => ?_
 refine w_eq1 h1 h0 (by rfl) ?_
 refine w_call h1 (r16_load m μ who (12, (i : Int), 0) (by omega)) fun _ H2 h2 => ?_
 exact w_ret ⟨(), rfl, (ringX_close (m := m) (i := i) (rp := rp) (cs := cs) (cv := cv) (R := memX m (μ.acc who 1 (12, (i : Int), 0)) * R) h2.to).to⟩
theorem xring_full (w h : Nat) (hw : w < 18446744073709551616) (hc : cs.length < 1000) : Sp n_r16_Ring_Full [vp rp, vu w, vu h] (ringX m i rp cs) (fun _ : Unit => vb (fullW w h cs.length)) (fun _ => ringX m i rp cs) := by
 refine sp_of fun R H hh => ?_
 have hl := wCount_le w
 refine wp_of (fun r => r16_Ring_Full_of _ _ _ H) ?_
 refine w_call hh (r01_parts w hw) fun _ H1 h1 => ?_
 refine w_bind (v := vu (wCount w)) rfl ?_
 refine w_bind (v := vi (wState w)) rfl ?_
 refine w_bind (v := vb (wRight w)) rfl ?_
 by_cases hle : h ≤ wCount w
 ·refine w_bind (geq_t (by omega)) ?_
  with_reducible repeat refine gg ?_
  refine w_bind (bin_sub_u hle (by omega)) ?_
  obtain ⟨cv, h2⟩ := ringX_open (m := m) (i := i) (rp := rp) (cs := cs) (R := R) (H := H1) h1.to
  with_reducible repeat refine gg ?_
  refine w_ld h2 end_nf rfl ?_
  with_reducible repeat refine gg ?_
  refine w_bind (conv_ui (by omega) (by omega)) ?_
  rw [show ((cs.length : Nat) : Int).toNat = cs.length from Int.toNat_natCast _]
  with_reducible repeat refine gg ?_
  by_cases hk : cs.length ≤ wCount w - h
  ·refine w_bind (geq_t (by omega)) ?_
   with_reducible repeat refine gg ?_
   exact w_ret ⟨(), by rw [fullW, decide_eq_true ⟨hle, hk⟩], h1.to⟩
  ·refine w_bind (geq_f (by omega)) ?_
   with_reducible repeat refine gg ?_
   exact w_ret ⟨(), by rw [fullW, decide_eq_false (fun q => hk q.2)], h1.to⟩
 ·refine w_bind (geq_f (by omega)) ?_
  with_reducible repeat refine gg ?_
  exact w_ret ⟨(), by rw [fullW, decide_eq_false (fun q => hle q.1)], h1.to⟩
theorem xring_turn (who : Int) (w how : Nat) (hh : how < 3) (hw : w < 18446744073709551616) (hE : μ.N < 1099511627000) :
  Sp n_r16_Ring_Turn [vp rp, vi who, vu w, vi (how : Int)] (ringX m i rp cs * memX m μ) (fun _ : Unit => vb (turned μ i w (wTurn w how))) (fun _ => ringX m i rp cs * memX m (μ.turn who i w (wTurn w how))) := by
 refine sp_of fun R H h => ?_
 refine wp_of (fun r => r16_Ring_Turn_of _ _ _ _ H) ?_
 refine w_call h (r01_turned w how hw hh) fun _ H1 h1 => ?_
 generalize wTurn w how = o at h1 ⊢
 cases o with
 | none =>
  refine w_bind (v := vw 0) rfl ?_
  refine w_bind (v := vb false) rfl ?_
  with_reducible repeat refine gg ?_
  refine w_gad_ft ?_
  with_reducible repeat refine gg ?_
  refine w_eqK rfl ?_
  with_reducible repeat refine gg ?_
  exact w_ret ⟨(), rfl, h1.to⟩
 | some n =>
  refine w_bind (v := vu n) rfl ?_
  refine w_bind (v := vb true) rfl ?_
  with_reducible repeat refine gg ?_
  refine w_gad_tt ?_
  obtain ⟨cv, k1⟩ := ringX_open (m := m) (i := i) (rp := rp) (cs := cs) (R := memX m μ * R) (H := H1) h1.to
  refine w_ad end_nf ?_
  with_reducible repeat refine gg ?_
  refine w_Ld1 k1 rfl ?_
  with_reducible repeat refine gg ?_
  refine w_ld k1 end_nf rfl ?_
  with_reducible repeat refine gg ?_
  refine w_call k1 (r16_loc 11 (i : Int) 0) fun _ H2 k2 => ?_
  refine w_eq1 k2 k1 (by rfl) ?_
  with_reducible repeat refine gg ?_
  refine w_call k2 (r16_swap m μ who (11, (i : Int), 0) w n (by omega)) fun _ H3 k3 => ?_
  with_reducible repeat refine gg ?_
  refine w_ret ⟨(), rfl, ?_⟩
  have h3 := ringX_close (m := m) (i := i) (rp := rp) (cs := cs) (cv := cv) (R := memX m (μ.swp who (11, (i : Int), 0) w n) * R) (H := H3) k3.to
  exact h3.to
end
section
variable (m i rp : Nat) (cs : List Pk) (μ : Mu)
theorem ring_cell (n : Nat) (h0 : 1 ≤ cs.length ∧ cs.length < 1000) : Sp n_ring_Ring_cell [vp rp, vu n] (ringP m i rp cs) (fun _ : Unit => vi ((n % cs.length : Nat) : Int)) (fun _ => ringP m i rp cs) := by
 have hlt : n % cs.length < cs.length := Nat.mod_lt _ (by omega)
 refine sp_of fun R H h => ?_
 obtain ⟨cv, k⟩ := ringP_open h
 refine wp_of (fun r => ring_Ring_cell_of _ _ H) ?_
 refine w_ld k end_nf rfl ?_
 refine w_rlen (s := cv) (l := cs) k ?_
 refine w_bind (conv_ui (by omega) (by omega)) ?_
 rw [show ((cs.length : Nat) : Int).toNat = cs.length from Int.toNat_natCast _]
 refine w_bind (bin_rem_u (by omega)) ?_
 refine w_bind (conv_iu (by omega)) ?_
 exact w_ret ⟨(), rfl, h⟩
theorem xring_cell (n : Nat) (h0 : 1 ≤ cs.length ∧ cs.length < 1000) : Sp n_r16_Ring_cell [vp rp, vu n] (ringX m i rp cs) (fun _ : Unit => vi ((n % cs.length : Nat) : Int)) (fun _ => ringX m i rp cs) := by
 have hlt : n % cs.length < cs.length := Nat.mod_lt _ (by omega)
 refine sp_of fun R H h => ?_
 obtain ⟨cv, k⟩ := ringX_open h
 refine wp_of (fun r => r16_Ring_cell_of _ _ H) ?_
 refine w_ld k end_nf rfl ?_
 refine w_bind (conv_ui (by omega) (by omega)) ?_
 rw [show ((cs.length : Nat) : Int).toNat = cs.length from Int.toNat_natCast _]
 refine w_bind (bin_rem_u (by omega)) ?_
 refine w_bind (conv_iu (by omega)) ?_
 exact w_ret ⟨(), rfl, h⟩
theorem ring_show (who : Int) (n : Nat) (hn : n < 18446744073709551615) (h0 : 1 ≤ cs.length ∧ cs.length < 1000) (hE : μ.N < 1099511627000) :
  Sp n_ring_Ring_Show [vp rp, vi who, vu n] (ringP m i rp cs * memP m μ) (fun _ : Unit => .tuple #[]) (fun _ => ringP m i rp cs * memP m ((μ.acc who 2 (15, (i : Int), ((n % cs.length : Nat) : Int))).put (15, (i : Int), ((n % cs.length : Nat) : Int)) (n + 1))) := by
 refine sp_of fun R H h => ?_
 obtain ⟨cv, k0⟩ := ringP_open (m := m) (i := i) (rp := rp) (cs := cs) (R := memP m μ * R) (H := H) h.to
 refine wp_of (fun r => ring_Ring_Show_of _ _ _ H) ?_
 refine w_ad end_nf ?_
 refine w_Ld1 k0 rfl ?_
 refine w_call h (ring_cell m i rp cs n h0) fun _ H1 h1 => ?_
 obtain ⟨cv1, k1⟩ := ringP_open h1
 refine w_eq1 k1 k0 (by rfl) ?_
 refine w_call h1 (ring_at m i rp cs 15 ((n % cs.length : Nat) : Int)) fun _ H2 h2 => ?_
 obtain ⟨cv2, k2⟩ := ringP_open h2
 refine w_eq1 k2 k0 (by rfl) ?_
 refine w_bind (bin_add_u (b := 1) (by omega)) ?_
 refine w_call h2 (p_store m μ who (15, (i : Int), ((n % cs.length : Nat) : Int)) (n + 1) (by omega)) fun _ H3 h3 => ?_
 exact w_ret ⟨(), rfl, h3.to⟩
theorem xring_show (who : Int) (n : Nat) (hn : n < 18446744073709551615) (h0 : 1 ≤ cs.length ∧ cs.length < 1000) (hE : μ.N < 1099511627000) :
  Sp n_r16_Ring_Show [vp rp, vi who, vu n] (ringX m i rp cs * memX m μ) (fun _ : Unit => .tuple #[]) (fun _ => ringX m i rp cs * memX m ((μ.acc who 2 (15, (i : Int), ((n % cs.length : Nat) : Int))).put (15, (i : Int), ((n % cs.length : Nat) : Int)) (n + 1))) := by
 refine sp_of fun R H h => ?_
 obtain ⟨cv, k0⟩ := ringX_open (m := m) (i := i) (rp := rp) (cs := cs) (R := memX m μ * R) (H := H) h.to
 refine wp_of (fun r => r16_Ring_Show_of _ _ _ H) ?_
 refine w_ad end_nf ?_
 refine w_Ld1 k0 rfl ?_
 refine w_ad end_nf ?_
 refine w_Ld1 k0 rfl ?_
 refine w_call h (xring_cell m i rp cs n h0) fun _ H1 h1 => ?_
 obtain ⟨cv1, k1⟩ := ringX_open h1
 refine w_eq1 k1 k0 (by rfl) ?_
 refine w_eq1 k1 k0 (by rfl) ?_
 refine w_call h1 (r16_loc 15 (i : Int) ((n % cs.length : Nat) : Int)) fun _ H2 h2 => ?_
 obtain ⟨cv2, k2⟩ := ringX_open (m := m) (i := i) (rp := rp) (cs := cs) (R := memX m μ * R) (H := H2) h2.to
 refine w_eq1 k2 k0 (by rfl) ?_
 refine w_bind (bin_add_u (b := 1) (by omega)) ?_
 refine w_call h2 (r16_store m μ who (15, (i : Int), ((n % cs.length : Nat) : Int)) (n + 1) (by omega)) fun _ H3 h3 => ?_
 exact w_ret ⟨(), rfl, h3.to⟩
theorem ring_put (who : Int) (n : Nat) (x : Pk) (h0 : 1 ≤ cs.length ∧ cs.length < 1000) (hE : μ.N < 1099511627000) :
  Sp n_ring_Ring_Put [vp rp, vi who, vu n, .agg (Pk.cells x).toArray] (ringP m i rp cs * memP m μ) (fun _ : Unit => .tuple #[]) (fun _ => ringP m i rp (cs.set (n % cs.length) x) * memP m (μ.acc who 6 (16, (i : Int), ((n % cs.length : Nat) : Int)))) := by
 have hlt : n % cs.length < cs.length := Nat.mod_lt _ (by omega)
 refine sp_of fun R H h => ?_
 refine wp_of (fun r => ring_Ring_Put_of _ _ _ _ H) ?_
 refine w_newC h fun b H1 h1 => ?_
 obtain ⟨cv, k1⟩ := ringP_open (m := m) (i := i) (rp := rp) (cs := cs) (R := memP m μ * (blk b (.cells false (Pk.cells x)) * R)) (H := H1) h1.to
 refine w_ad end_nf ?_
 refine w_Ld1 k1 rfl ?_
 refine w_call h1 (ring_cell m i rp cs n h0) fun _ H2 h2 => ?_
 obtain ⟨cv2, k2⟩ := ringP_open h2
 refine w_eq1 k2 k1 (by rfl) ?_
 refine w_call h2 (ring_at m i rp cs 16 ((n % cs.length : Nat) : Int)) fun _ H3 h3 => ?_
 obtain ⟨cv3, k3⟩ := ringP_open h3
 refine w_eq1 k3 k1 (by rfl) ?_
 refine w_call h3 ((mem_write m μ who (16, (i : Int), ((n % cs.length : Nat) : Int)) (by omega)).imp fun _ R H h => memP_le (N' := μ.N + 2) (by simp) h) fun _ H4 h4 => ?_
 obtain ⟨cv4, k4⟩ := ringP_open (m := m) (i := i) (rp := rp) (cs := cs) (R := memP m (μ.acc who 6 (16, (i : Int), ((n % cs.length : Nat) : Int))) * (blk b (.cells false (Pk.cells x)) * R)) (H := H4) h4.to
 refine w_ad end_nf ?_
 refine w_Ld1 k4 rfl ?_
 -- a cell is told once more, of the same ring
 have again : ∀ {k : Value × AH → OV} {Q : Value → AH → Prop}, (∀ H5, Holds (blk rp (.cells false [vp m, vi i, cv4]) * (ts 3 Pk.cells cv4 cs * (memP m (μ.acc who 6 (16, (i : Int), ((n % cs.length : Nat) : Int))) * (blk b (.cells false (Pk.cells x)) * R)))) H5 → wp (k (vi ((n % cs.length : Nat) : Int), H5)) Q) → wp ((FF n_ring_Ring_cell [vp rp, vu n] H4).bind k) Q := by
  intro k Q hk
  have cell4 : Sp n_ring_Ring_cell [vp rp, vu n] (blk rp (.cells false [vp m, vi i, cv4]) * ts 3 Pk.cells cv4 cs) (fun _ : Unit => vi ((n % cs.length : Nat) : Int)) (fun _ => blk rp (.cells false [vp m, vi i, cv4]) * ts 3 Pk.cells cv4 cs) := by
   refine sp_of fun R H h => ?_
   refine wp_of (fun r => ring_Ring_cell_of _ _ H) ?_
   refine w_ld h end_nf rfl ?_
   refine w_rlen (s := cv4) (l := cs) h ?_
   refine w_bind (conv_ui (by omega) (by omega)) ?_
   rw [show ((cs.length : Nat) : Int).toNat = cs.length from Int.toNat_natCast _]
   refine w_bind (bin_rem_u (by omega)) ?_
   refine w_bind (conv_iu (by omega)) ?_
   exact w_ret ⟨(), rfl, h⟩
  exact w_call k4 cell4 fun _ H5 h5 => hk H5 h5.to
 refine again fun H5 k5 => ?_
 refine w_eq1 k5 k4 (by rfl) ?_
 refine w_LdN k5 ?_
 refine w_eqN k4 k5 rfl ?_
 refine w_tst (s := cv4) (l := cs) (i := n % cs.length) x k5 hlt (.inl ⟨rfl, rfl⟩) rfl (by omega) rfl rfl fun H6 k6 => ?_
 refine w_ret ⟨(), rfl, ?_⟩
 have h6 := ringP_close (m := m) (i := i) (rp := rp) (cs := cs.set (n % cs.length) x) (cv := cv4) (R := memP m (μ.acc who 6 (16, (i : Int), ((n % cs.length : Nat) : Int))) * R) (H := H6) k6.to
 exact h6.to
end
theorem site_at (k a : Int) : Sp n_inbox_site_at [vi k, vi a] emp (fun _ : Unit => encL (k, a, 0)) (fun _ => emp) := by
 refine sp_of fun R H h => ?_
 refine wp_of (fun r => inbox_site_at_of _ _ H) ?_
 refine w_new h fun b H1 h1 => ?_
 refine w_S ?_
 refine w_St h1 rfl rfl fun H2 h2 => ?_
 refine w_LdN h2 ?_
 exact w_ret ⟨(), rfl, h2.to⟩
abbrev Mu.cnt (μ : Mu) (who : Int) (at' : Loc) (n : Nat) : Mu := (μ.acc who 3 at').put at' ((μ.V at' + n) % 18446744073709551616)
section
variable (ib m nm : Nat) (c : Cfg) (nx : Int → Option Nat) (μ : Mu) (who : Int)
theorem inbox_begin (hE : μ.N < 1099511627000) : Sp n_inbox_Inbox_Begin [vp ib, vi who] (inbP ib m nm c nx * memP m μ) (fun _ : Unit => .tuple #[]) (fun _ => inbP ib m nm c nx * memP m (μ.cnt who (3, 0, 0) 4294967296)) := by
 refine sp_of fun R H h => ?_
 refine wp_of (fun r => inbox_Inbox_Begin_of _ _ H) ?_
 unfold inbP at h ⊢
 refine w_ad end_nf ?_
 refine w_Ld1 h rfl ?_
 refine w_call h (site_at 3 0) fun _ H1 h1 => ?_
 refine w_eq1 h1 h (by rfl) ?_
 refine w_call h1 (p_add m μ who (3, 0, 0) 4294967296 (by omega)) fun _ H2 h2 => ?_
 exact w_ret ⟨(), rfl, h2.to⟩
theorem inbox_end (hE : μ.N < 1099511627000) : Sp n_inbox_Inbox_End [vp ib, vi who] (inbP ib m nm c nx * memP m μ) (fun _ : Unit => .tuple #[]) (fun _ => inbP ib m nm c nx * memP m (μ.cnt who (3, 0, 0) 1)) := by
 refine sp_of fun R H h => ?_
 refine wp_of (fun r => inbox_Inbox_End_of _ _ H) ?_
 unfold inbP at h ⊢
 refine w_ad end_nf ?_
 refine w_Ld1 h rfl ?_
 refine w_call h (site_at 3 0) fun _ H1 h1 => ?_
 refine w_eq1 h1 h (by rfl) ?_
 refine w_call h1 (p_add m μ who (3, 0, 0) 1 (by omega)) fun _ H2 h2 => ?_
 exact w_ret ⟨(), rfl, h2.to⟩
theorem inbox_top (s : Int) (hE : μ.N < 1099511627000) : Sp n_inbox_Inbox_Top [vp ib, vi who, vi s] (inbP ib m nm c nx * memP m μ) (fun _ : Unit => vu (μ.V (9, s, 0))) (fun _ => inbP ib m nm c nx * memP m (μ.acc who 1 (9, s, 0))) := by
 refine sp_of fun R H h => ?_
 refine wp_of (fun r => inbox_Inbox_Top_of _ _ _ H) ?_
 unfold inbP at h ⊢
 refine w_ad end_nf ?_
 refine w_Ld1 h rfl ?_
 refine w_ld h end_nf rfl ?_
 refine wp_eq (show (pCallee (.func (.func n_inbox_site_at) #[vi 9] #[]) [vi s]).bind _ = _ from rfl) ?_
 refine w_call h (site_at 9 s) fun _ H1 h1 => ?_
 refine w_eq1 h1 h (by rfl) ?_
 refine w_call h1 (p_load m μ who (9, s, 0) (by omega)) fun _ H2 h2 => ?_
 exact w_ret ⟨(), rfl, h2.to⟩
theorem inbox_push (s : Int) (top obj : Nat) (ho : obj < 4294967296) (hE : μ.N < 1099511627000) : Sp n_inbox_Inbox_Push [vp ib, vi who, vi s, vu top, vi obj] (inbP ib m nm c nx * memP m μ) (fun _ : Unit => vb (decide (μ.V (9, s, 0) = top))) (fun _ => inbP ib m nm c nx * memP m (μ.swp who (9, s, 0) top (obj + 1))) := by
 refine sp_of fun R H h => ?_
 refine wp_of (fun r => inbox_Inbox_Push_of _ _ _ _ _ H) ?_
 unfold inbP at h ⊢
 refine w_ad end_nf ?_
 refine w_Ld1 h rfl ?_
 refine w_ld h end_nf rfl ?_
 refine wp_eq (show (pCallee (.func (.func n_inbox_site_at) #[vi 9] #[]) [vi s]).bind _ = _ from rfl) ?_
 refine w_call h (site_at 9 s) fun _ H1 h1 => ?_
 refine w_eq1 h1 h (by rfl) ?_
 refine w_bind (conv_ui (by omega) (by omega)) ?_
 rw [show ((obj : Nat) : Int).toNat = obj from Int.toNat_natCast _]
 refine w_bind (bin_add_u (b := 1) (by omega)) ?_
 refine w_call h1 (p_swap m μ who (9, s, 0) top (obj + 1) (by omega)) fun _ H2 h2 => ?_
 exact w_ret ⟨(), rfl, h2.to⟩
theorem inbox_link (obj : Int) (next : Nat) (hE : μ.N < 1099511627000) : Sp n_inbox_Inbox_Link [vp ib, vi who, vi obj, vu next] (inbP ib m nm c nx * memP m μ) (fun _ : Unit => .tuple #[]) (fun _ => inbP ib m nm c (fun k => if k = obj then some next else nx k) * memP m (μ.acc who 6 (14, obj, 0))) := by
 refine sp_of fun R H h => ?_
 refine wp_of (fun r => inbox_Inbox_Link_of _ _ _ _ H) ?_
 unfold inbP at h ⊢
 refine w_ad end_nf ?_
 refine w_Ld1 h rfl ?_
 refine w_ld h end_nf rfl ?_
 refine wp_eq (show (pCallee (.func (.func n_inbox_site_at) #[vi 14] #[]) [vi obj]).bind _ = _ from rfl) ?_
 refine w_call h (site_at 14 obj) fun _ H1 h1 => ?_
 refine w_eq1 h1 h (by rfl) ?_
 refine w_call h1 ((mem_write m μ who (14, obj, 0) (by omega)).imp fun _ R H h => memP_le (N' := μ.N + 2) (by simp) h) fun _ H2 h2 => ?_
 refine w_ld h2 end_nf rfl ?_
 refine w_mset (ek := ekI) obj (vu next) h2 fun H3 h3 => ?_
 refine w_ret ⟨(), rfl, ?_⟩
 have e : (fun k => ((if k = obj then some next else nx k) : Option Nat).map fun n => vu n) = fun x => if x = obj then some (vu next) else (nx x).map fun n => vu n := by
  funext k
  split <;> rfl
 rw [e]
 exact h3.to
end
section
variable (ib m : Nat) (sh : Int) (nx : Int → Option Nat) (L : Nat) (μ : Mu) (who : Int)
theorem xinbox_begin (hE : μ.N < 1099511627000) : Sp n_r16_Inbox_Begin [vp ib, vi who] (inbX ib m sh nx L * memX m μ) (fun _ : Unit => .tuple #[]) (fun _ => inbX ib m sh nx L * memX m (μ.cnt who (3, 0, 0) 4294967296)) := by
 refine sp_of fun R H h => ?_
 obtain ⟨kv, nv, ns, hn, h0⟩ := inbX_open (ib := ib) (m := m) (sh := sh) (nx := nx) (L := L) (R := memX m μ * R) (H := H) h.to
 refine wp_of (fun r => r16_Inbox_Begin_of _ _ H) ?_
 refine w_ad end_nf ?_
 refine w_Ld1 h0 rfl ?_
 refine w_call h0 (r16_loc 3 0 0) fun _ H1 h1 => ?_
 refine w_eq1 h1 h0 (by rfl) ?_
 refine w_call h1 (r16_add m μ who (3, 0, 0) 4294967296 (by omega)) fun _ H2 h2 => ?_
 have h3 := inbX_close (ib := ib) (m := m) (sh := sh) (nx := nx) (L := L) (kv := kv) (nv := nv) (ns := ns) (R := memX m (μ.cnt who (3, 0, 0) 4294967296) * R) (H := H2) hn h2.to
 exact w_ret ⟨(), rfl, h3.to⟩
theorem xinbox_end (hE : μ.N < 1099511627000) : Sp n_r16_Inbox_End [vp ib, vi who] (inbX ib m sh nx L * memX m μ) (fun _ : Unit => .tuple #[]) (fun _ => inbX ib m sh nx L * memX m (μ.cnt who (3, 0, 0) 1)) := by
 refine sp_of fun R H h => ?_
 obtain ⟨kv, nv, ns, hn, h0⟩ := inbX_open (ib := ib) (m := m) (sh := sh) (nx := nx) (L := L) (R := memX m μ * R) (H := H) h.to
 refine wp_of (fun r => r16_Inbox_End_of _ _ H) ?_
 refine w_ad end_nf ?_
 refine w_Ld1 h0 rfl ?_
 refine w_call h0 (r16_loc 3 0 0) fun _ H1 h1 => ?_
 refine w_eq1 h1 h0 (by rfl) ?_
 refine w_call h1 (r16_add m μ who (3, 0, 0) 1 (by omega)) fun _ H2 h2 => ?_
 have h3 := inbX_close (ib := ib) (m := m) (sh := sh) (nx := nx) (L := L) (kv := kv) (nv := nv) (ns := ns) (R := memX m (μ.cnt who (3, 0, 0) 1) * R) (H := H2) hn h2.to
 exact w_ret ⟨(), rfl, h3.to⟩
theorem xinbox_top (s : Int) (hE : μ.N < 1099511627000) : Sp n_r16_Inbox_Top [vp ib, vi who, vi s] (inbX ib m sh nx L * memX m μ) (fun _ : Unit => vu (μ.V (9, s, 0))) (fun _ => inbX ib m sh nx L * memX m (μ.acc who 1 (9, s, 0))) := by
 refine sp_of fun R H h => ?_
 obtain ⟨kv, nv, ns, hn, h0⟩ := inbX_open (ib := ib) (m := m) (sh := sh) (nx := nx) (L := L) (R := memX m μ * R) (H := H) h.to
 refine wp_of (fun r => r16_Inbox_Top_of _ _ _ H) ?_
 refine w_ad end_nf ?_
 refine w_Ld1 h0 rfl ?_
 refine w_call h0 (r16_loc 9 s 0) fun _ H1 h1 => ?_
 refine w_eq1 h1 h0 (by rfl) ?_
 refine w_call h1 (r16_load m μ who (9, s, 0) (by omega)) fun _ H2 h2 => ?_
 have h3 := inbX_close (ib := ib) (m := m) (sh := sh) (nx := nx) (L := L) (kv := kv) (nv := nv) (ns := ns) (R := memX m (μ.acc who 1 (9, s, 0)) * R) (H := H2) hn h2.to
 exact w_ret ⟨(), rfl, h3.to⟩
theorem xinbox_push (s : Int) (top obj : Nat) (ho : obj < 4294967296) (hE : μ.N < 1099511627000) : Sp n_r16_Inbox_Push [vp ib, vi who, vi s, vu top, vi obj] (inbX ib m sh nx L * memX m μ) (fun _ : Unit => vb (decide (μ.V (9, s, 0) = top))) (fun _ => inbX ib m sh nx L * memX m (μ.swp who (9, s, 0) top (obj + 1))) := by
 refine sp_of fun R H h => ?_
 obtain ⟨kv, nv, ns, hn, h0⟩ := inbX_open (ib := ib) (m := m) (sh := sh) (nx := nx) (L := L) (R := memX m μ * R) (H := H) h.to
 refine wp_of (fun r => r16_Inbox_Push_of _ _ _ _ _ H) ?_
 refine w_ad end_nf ?_
 refine w_Ld1 h0 rfl ?_
 refine w_call h0 (r16_loc 9 s 0) fun _ H1 h1 => ?_
 refine w_eq1 h1 h0 (by rfl) ?_
 refine w_bind (conv_ui (by omega) (by omega)) ?_
 rw [show ((obj : Nat) : Int).toNat = obj from Int.toNat_natCast _]
 refine w_bind (bin_add_u (b := 1) (by omega)) ?_
 refine w_call h1 (r16_swap m μ who (9, s, 0) top (obj + 1) (by omega)) fun _ H2 h2 => ?_
 have h3 := inbX_close (ib := ib) (m := m) (sh := sh) (nx := nx) (L := L) (kv := kv) (nv := nv) (ns := ns) (R := memX m (μ.swp who (9, s, 0) top (obj + 1)) * R) (H := H2) hn h2.to
 exact w_ret ⟨(), rfl, h3.to⟩
end
theorem tmod_in (a : Int) {n : Int} (h : 1 ≤ n) : -n < a.tmod n ∧ a.tmod n < n := by
 have e := Int.natAbs_tmod a n
 have : a.natAbs % n.natAbs < n.natAbs := Nat.mod_lt _ (by omega)
 omega
section
variable (t m p e : Nat) (σ : Sta)
theorem table_shard (sh sl : Nat) (hs : 1 ≤ sh ∧ sh ≤ 4) (flow : Int) : Sp n_table_Table_Shard [vp t, vi flow] (tab t m sh sl) (fun _ : Unit => vi ((flow.tmod sh + sh).tmod sh)) (fun _ => tab t m sh sl) := by
 refine sp_of fun R H h => ?_
 refine wp_of (fun r => table_Table_Shard_of _ _ H) ?_
 unfold tab at h ⊢
 have q := tmod_in flow (n := sh) (by omega)
 refine w_ld h end_nf rfl ?_
 refine w_bind (rem_ii (by omega)) ?_
 refine w_ld h end_nf rfl ?_
 refine w_bind (bin_add_i (by omega) (by omega)) ?_
 refine w_ld h end_nf rfl ?_
 refine w_bind (rem_ii (by omega)) ?_
 exact w_ret ⟨(), rfl, h⟩
theorem mem_len (μ : Mu) : Sp n_mem_Mem_Len [vp m] (memP m μ) (fun _ : Unit => vi μ.E.length) (fun _ => memP m μ) := by
 refine sp_of fun R H h => ?_
 obtain ⟨⟨c, l, al, es, ck⟩, h1⟩ := Holds.ex.1 h
 rw [sep_assoc, Holds.pu] at h1
 obtain ⟨hp, h1⟩ := h1
 dsimp only at h1
 have h2 : Holds (blk m (.cells false [.map (some c), l]) * (blk c (.map es ck) * ts 5 Ev.cells l μ.E) * R) H := h1
 refine wp_of (fun r => mem_Mem_Len_of _ H) ?_
 refine w_ld h2 end_nf rfl ?_
 refine w_tlen (s := l) (l := μ.E) h2 ?_
 exact w_ret ⟨(), rfl, h⟩
theorem enq_ends (r : Value) (x : Int) : Sp n_eE_ends [r, vi x] emp (fun _ : Unit => .tuple #[.agg (retC x).toArray, vb true]) (fun _ => emp) := by
 refine sp_of fun R H h => ?_
 refine wp_of (fun r => eE_ends_of _ _ H) ?_
 refine w_new h fun b H1 h1 => ?_
 refine w_S ?_
 refine w_St h1 rfl rfl fun H2 h2 => ?_
 refine w_LdN h2 ?_
 exact w_ret ⟨(), rfl, h2.to⟩
def refusal (x : Cl) : Option Int := if x.a < 1 ∨ 65536 < x.a then some 3 else if x.flow < 0 ∨ 1048576 < x.flow then some 5 else none
end
structure Tk where
 who : Int
 x : Cl
 s : Int
 at' : Nat
 i : Nat
 obj : Nat
 found : Bool
 w : Nat
 q : Nat
 mark : Int
 top : Nat
 code : Int
abbrev Sta.mem (σ : Sta) (μ : Mu) : Sta := { σ with μ := μ }
def hitS (v : Nat) (flow : Int) : Bool := decide (v ≠ 0 ∧ ((v / 4294967296 : Nat) : Int) - 1 = flow)
def scanT (σ : Sta) (t : Tk) : Tk :=
 let v := σ.μ.V (10, t.s, (t.i : Int))
 { t with i := t.i + 1, found := hitS v t.x.flow, obj := if hitS v t.x.flow = true then v % 4294967296 else t.obj }
abbrev scanM (σ : Sta) (t : Tk) : Sta := σ.mem (σ.μ.acc t.who 1 (10, t.s, (t.i : Int)))
def lastT (σ : Sta) (t : Tk) : Bool := decide (σ.c.sl ≤ (t.i : Int))
def cellsOf' (σ : Sta) (o : Nat) : List Pk := ((σ.obs[o]?).map (·.2)).getD []
def layM (σ : Sta) (t : Tk) : Sta :=
 let n := (cellsOf' σ t.obj).length
 let k := wCount t.w % n
 { σ with μ := σ.μ.acc t.who 6 (16, (t.obj : Int), (k : Int)), obs := σ.obs.modify t.obj fun p => (p.1, p.2.set k ⟨t.x.flow, t.x.a, t.x.b⟩) }
abbrev showM (σ : Sta) (t : Tk) : Sta :=
 let n := (cellsOf' σ t.obj).length
 let k := wCount t.w % n
 σ.mem ((σ.μ.acc t.who 2 (15, (t.obj : Int), (k : Int))).put (15, (t.obj : Int), (k : Int)) (wCount t.w + 1))
abbrev wordM (σ : Sta) (t : Tk) : Sta := σ.mem (σ.μ.acc t.who 1 (11, (t.obj : Int), 0))
abbrev headM (σ : Sta) (t : Tk) : Sta := σ.mem (σ.μ.acc t.who 1 (12, (t.obj : Int), 0))
def fullT (σ : Sta) (t : Tk) : Bool := fullW t.w (σ.μ.V (12, (t.obj : Int), 0)) (cellsOf' σ t.obj).length
abbrev seqM (σ : Sta) (t : Tk) : Sta := σ.mem (σ.μ.acc t.who 1 (2, 0, 0))
def stepE (σ : Sta) (t : Tk) (now : Int) : Sta × Tk × Bool :=
 let scan (σ : Sta) (t : Tk) : Sta × Tk × Bool :=
  let t1 := scanT σ t
  (scanM σ t, { t1 with at' := if t1.found = true then 6 else if lastT σ t1 = true then 3 else 2 }, false)
 match t.at' with
 | 0 => match refusal t.x with
  | some e => (σ.note now t.who e, { t with code := e }, true)
  | none => scan σ t
 | 2 => scan σ t
 | 3 => let l : Loc := (8, t.s, 0)
  (σ.mem (σ.μ.swp t.who l 0 1), (if σ.μ.V l = 0 then { t with at' := 4, i := 0 } else t), false)
 | 4 => let t1 := scanT σ t
  if t1.found = true then (scanM σ t, { t1 with at' := 5 }, false)
  else if lastT σ t1 = true then ((scanM σ t).note now t.who 5, { t1 with at' := 5, code := 5 }, false)
  else (scanM σ t, t1, false)
 | 5 => let l : Loc := (8, t.s, 0)
  (σ.mem ((σ.μ.acc t.who 2 l).put l 0), { t with at' := 6 }, !t.found)
 | 6 => (σ.mem (σ.μ.acc t.who 5 (13, (t.obj : Int), 0)), { t with at' := 7 }, false)
 | 7 => let w := σ.μ.V (11, (t.obj : Int), 0)
  (wordM σ t, { t with w := w, at' := if wState w = 2 then 3 else 8 }, false)
 | 8 => (headM σ t, { t with at' := if fullT σ t = true then 15 else if wState t.w = 1 then 9 else 12 }, false)
 | 9 => let o := wTurn t.w 0
  let σ1 := σ.mem (σ.μ.turn t.who t.obj t.w o)
  if turned σ.μ t.obj t.w o = true then (σ1.note now t.who 0, { t with at' := 10, code := 0 }, false) else (σ1, { t with at' := 7 }, false)
 | 10 => (layM σ t, { t with at' := 11 }, false)
 | 11 => (showM σ t, t, true)
 | 12 => (σ.mem (σ.μ.cnt t.who (3, 0, 0) 4294967296), { t with at' := 13 }, false)
 | 13 => let o := wTurn t.w 0
  let σ1 := σ.mem (σ.μ.turn t.who t.obj t.w o)
  if turned σ.μ t.obj t.w o = true then (σ1.note now t.who 0, { t with at' := 14, code := 0 }, false) else (σ1, { t with at' := 20 }, false)
 | 14 => (layM σ t, { t with at' := 21 }, false)
 | 15 => let q := σ.μ.V (2, 0, 0)
  (seqM σ t, { t with q := q, at' := if q % 2 = 1 then 7 else 16 }, false)
 | 16 => let w := σ.μ.V (11, (t.obj : Int), 0)
  (wordM σ t, { t with w := w, at' := if wState w = 2 then 3 else 17 }, false)
 | 17 => (headM σ t, (if fullT σ t = true then { t with at' := 18, mark := now } else { t with at' := 7 }), false)
 | 18 => if σ.μ.V (2, 0, 0) = t.q then ((seqM σ t).note t.mark t.who 9, { t with code := 9 }, true) else (seqM σ t, { t with at' := 7 }, false)
 | 20 => (σ.mem (σ.μ.cnt t.who (3, 0, 0) 1), { t with at' := 7 }, false)
 | 21 => (showM σ t, { t with at' := 22 }, false)
 | 22 => (σ.mem (σ.μ.acc t.who 1 (9, t.s, 0)), { t with top := σ.μ.V (9, t.s, 0), at' := 23 }, false)
 | 23 => ({ σ with μ := σ.μ.acc t.who 6 (14, (t.obj : Int), 0), nx := fun k => if k = (t.obj : Int) then some t.top else σ.nx k }, { t with at' := 24 }, false)
 | 24 => let l : Loc := (9, t.s, 0)
  (σ.mem (σ.μ.swp t.who l t.top (t.obj + 1)), { t with at' := if σ.μ.V l = t.top then 25 else 22 }, false)
 | _ => (σ.mem (σ.μ.cnt t.who (3, 0, 0) 1), t, true)
def partsR (p : Nat) (rp : List Nat) (σ : Sta) : SP := ex fun g : PIds => pu (g.rp = rp ∧ rp.length = σ.obs.length) * partsB p g σ
theorem partsR_open {p : Nat} {rp : List Nat} {σ : Sta} {R : SP} {H : AH} (h : Holds (partsR p rp σ * R) H) : ∃ g : PIds, g.rp = rp ∧ rp.length = σ.obs.length ∧ Holds (partsB p g σ * R) H := by
 obtain ⟨g, h1⟩ := Holds.ex.1 h
 rw [sep_assoc, Holds.pu] at h1
 exact ⟨g, h1.1.1, h1.1.2, h1.2⟩
theorem partsR_close {p : Nat} {rp : List Nat} {σ : Sta} {R : SP} {H : AH} (g : PIds) (h1 : g.rp = rp) (h2 : rp.length = σ.obs.length) (h : Holds (partsB p g σ * R) H) : Holds (partsR p rp σ * R) H :=
 Holds.ex.2 ⟨g, by rw [sep_assoc]; exact Holds.pu.2 ⟨⟨h1, h2⟩, h⟩⟩
theorem partsP_R {p : Nat} {σ : Sta} {R : SP} {H : AH} (h : Holds (partsP p σ * R) H) : ∃ rp, Holds (partsR p rp σ * R) H := by
 obtain ⟨g, hg, h1⟩ := partsP_open h
 exact ⟨g.rp, partsR_close g rfl hg h1⟩
theorem ringsP_split (m : Nat) : ∀ {ps : List (Nat × List Pk)} {i j : Nat} (h : i < ps.length), ∃ R, ringsP m j ps = ringP m (j + i) (ps[i]).1 (ps[i]).2 * R ∧ ∀ q : Nat × List Pk, ringsP m j (ps.set i q) = ringP m (j + i) q.1 q.2 * R := by
 intro ps
 induction ps with
 | nil => intro i j h; simp at h
 | cons p ps ih =>
  intro i j h
  cases i with
  | zero => exact ⟨ringsP m (j + 1) ps, rfl, fun q => rfl⟩
  | succ i =>
   obtain ⟨R, e1, e2⟩ := ih (i := i) (j := j + 1) (by simpa using h)
   refine ⟨ringP m j p.1 p.2 * R, ?_, fun q => ?_⟩
   ·show ringP m j p.1 p.2 * ringsP m (j + 1) ps = _
    rw [e1, sep_left_comm, show j + 1 + i = j + (i + 1) from by omega]; rfl
   ·show ringP m j p.1 p.2 * ringsP m (j + 1) (ps.set i q) = _
    rw [e2, sep_left_comm, show j + 1 + i = j + (i + 1) from by omega]
theorem ringsX_split (m : Nat) : ∀ {ps : List (Nat × List Pk)} {i j : Nat} (h : i < ps.length), ∃ R, ringsX m j ps = ringX m (j + i) (ps[i]).1 (ps[i]).2 * R ∧ ∀ q : Nat × List Pk, ringsX m j (ps.set i q) = ringX m (j + i) q.1 q.2 * R := by
 intro ps
 induction ps with
 | nil => intro i j h; simp at h
 | cons p ps ih =>
  intro i j h
  cases i with
  | zero => exact ⟨ringsX m (j + 1) ps, rfl, fun q => rfl⟩
  | succ i =>
   obtain ⟨R, e1, e2⟩ := ih (i := i) (j := j + 1) (by simpa using h)
   refine ⟨ringX m j p.1 p.2 * R, ?_, fun q => ?_⟩
   ·show ringX m j p.1 p.2 * ringsX m (j + 1) ps = _
    rw [e1, sep_left_comm, show j + 1 + i = j + (i + 1) from by omega]; rfl
   ·show ringX m j p.1 p.2 * ringsX m (j + 1) (ps.set i q) = _
    rw [e2, sep_left_comm, show j + 1 + i = j + (i + 1) from by omega]
def atN (ns : List (Int × Nat)) (obj : Int) : Int := match ns.findIdx? fun p => p.1 == obj with
 | some i => i
 | none => -1
theorem atN_drop {ns : List (Int × Nat)} {obj : Int} {i : Nat} (h : ∀ j, j < i → ∀ p, ns[j]? = some p → p.1 ≠ obj) :
  (∀ (hi : i < ns.length), ns[i].1 = obj → atN ns obj = i) ∧ (ns.length ≤ i → atN ns obj = -1) := by
 constructor
 ·intro hi e
  unfold atN
  have : ns.findIdx? (fun p => p.1 == obj) = some i := by
   rw [List.findIdx?_eq_some_iff_getElem]
   refine ⟨hi, by simpa using e, fun j hj => ?_⟩
   have := h j hj ns[j] (by rw [List.getElem?_eq_getElem])
   simpa using this
  rw [this]
 ·intro hi
  unfold atN
  have : ns.findIdx? (fun p => p.1 == obj) = none := by
   rw [List.findIdx?_eq_none_iff]
   intro p hp
   obtain ⟨j, hj, rfl⟩ := List.getElem_of_mem hp
   have := h j (by omega) ns[j] (by rw [List.getElem?_eq_getElem])
   simpa using this
  rw [this]
theorem xinbox_at (ib m : Nat) (sh : Int) (kv nv : Value) (ns : List (Int × Nat)) (hn : ns.length < 1000000) (obj : Int) :
  Sp n_r16_Inbox_at [vp ib, vi obj] (blk ib (.cells false [vp m, vi sh, kv, nv]) * ts 1 encI kv (ns.map (·.1))) (fun _ : Unit => vi (atN ns obj)) (fun _ => blk ib (.cells false [vp m, vi sh, kv, nv]) * ts 1 encI kv (ns.map (·.1))) := by
 refine sp_of fun R H h => ?_
 refine wp_of (fun r => r16_Inbox_at_of _ _ H) ?_
 refine wp_eq (r16_Inbox_at_k0_eq _ _ _ H) ?_
 refine wp_eq (r16_Inbox_at_k2_eq _ _ _ _ H) ?_
 have loop : ∀ (d i : Nat), i + d = ns.length → (∀ j, j < i → ∀ p, ns[j]? = some p → p.1 ≠ obj) →
   wp (r16_Inbox_at_k4 (vp ib) (vi obj) (vi 0) (vi i) H) fun v' H' => ∃ x : Unit, v' = vi (atN ns obj) ∧ Holds (blk ib (.cells false [vp m, vi sh, kv, nv]) * ts 1 encI kv (ns.map (·.1)) * R) H' := by
  intro d
  induction d with
  | zero =>
   intro i hi hj
   refine wp_eq (r16_Inbox_at_k4_eq _ _ _ _ H) ?_
   refine w_ld h end_nf rfl ?_
   refine w_tlen (s := kv) h ?_
   rw [List.length_map]
   refine w_bind (lss_f (by omega)) ?_
   with_reducible repeat refine gg ?_
   refine wp_eq (r16_Inbox_at_e3_0_eq _ H) ?_
   refine wp_eq (r16_Inbox_at_k1_eq _ H) ?_
   exact w_ret ⟨(), by rw [(atN_drop hj).2 (by omega)], h⟩
  | succ d ih =>
   intro i hi hj
   have hil : i < ns.length := by omega
   refine wp_eq (r16_Inbox_at_k4_eq _ _ _ _ H) ?_
   refine w_ld h end_nf rfl ?_
   refine w_tlen (s := kv) h ?_
   rw [List.length_map]
   refine w_bind (lss_t (by omega)) ?_
   with_reducible repeat refine gg ?_
   refine wp_eq (r16_Inbox_at_k5_eq _ _ _ _ H) ?_
   refine w_ld h end_nf rfl ?_
   refine w_rld1 (s := kv) (enc := encI) (l := ns.map fun p : Int × Nat => p.1) (v := vi ns[i].1) h (i := i) (by simpa using hil) (by simp [encI]) ?_
   by_cases e : ns[i].1 = obj
   ·refine w_bind (eql_t e) ?_
    with_reducible repeat refine gg ?_
    exact w_ret ⟨(), by rw [(atN_drop hj).1 hil e], h⟩
   ·refine w_bind (eql_f e) ?_
    with_reducible repeat refine gg ?_
    refine wp_eq (r16_Inbox_at_k6_eq _ _ _ _ H) ?_
    refine w_bind (bin_add_i (by omega) (by omega)) ?_
    refine ih (i + 1) (by omega) fun j hj2 p hp => ?_
    rcases Nat.lt_succ_iff_lt_or_eq.1 hj2 with h1 | rfl
    ·exact hj j h1 p hp
    ·rw [List.getElem?_eq_getElem hil] at hp
     obtain rfl := Option.some.inj hp
     exact e
 exact loop ns.length 0 (by omega) (fun j hj => by omega)
theorem atN_none {ns : List (Int × Nat)} {obj : Int} (h : ns.findIdx? (fun p => p.1 == obj) = none) : atN ns obj = -1 := by unfold atN; rw [h]
theorem atN_some {ns : List (Int × Nat)} {obj : Int} {i : Nat} (h : ns.findIdx? (fun p => p.1 == obj) = some i) : atN ns obj = i := by unfold atN; rw [h]
theorem nxOf_snoc {ns : List (Int × Nat)} {obj : Int} (h : ns.findIdx? (fun p => p.1 == obj) = none) (n : Nat) (k : Int) : nxOf (ns ++ [(obj, n)]) k = if k = obj then some n else nxOf ns k := by
 have hn : ns.find? (fun p => p.1 == obj) = none := by
  rw [List.find?_eq_none]
  rw [List.findIdx?_eq_none_iff] at h
  intro p hp
  have := h p hp
  simpa using this
 unfold nxOf
 rw [List.find?_append]
 by_cases e : k = obj
 ·subst e
  rw [hn, if_pos rfl]
  simp
 ·rw [if_neg e]
  have : ([(obj, n)] : List (Int × Nat)).find? (fun p => p.1 == k) = none := by
   rw [List.find?_eq_none]
   intro p hp
   obtain rfl : p = (obj, n) := by simpa using hp
   simpa using fun q => e q.symm
  rw [this]
  cases ns.find? (fun p => p.1 == k) <;> rfl
theorem nxOf_set (obj : Int) (n : Nat) (k : Int) : ∀ {ns : List (Int × Nat)} {i : Nat}, ns.findIdx? (fun p => p.1 == obj) = some i → nxOf (ns.set i (obj, n)) k = if k = obj then some n else nxOf ns k := by
 intro ns
 induction ns with
 | nil => intro i h; simp at h
 | cons p ns ih =>
  intro i h
  rw [List.findIdx?_cons] at h
  by_cases e : p.1 = obj
  ·rw [if_pos (by simpa using e)] at h
   obtain rfl := Option.some.inj h
   simp only [List.set_cons_zero, nxOf, List.find?_cons]
   by_cases e2 : k = obj
   ·subst e2; simp
   ·have h1 : ((obj == k) : Bool) = false := by simpa using fun q => e2 q.symm
    have h2 : ((p.1 == k) : Bool) = false := by rw [e]; exact h1
    simp [h1, h2, e2]
  ·rw [if_neg (by simpa using e)] at h
   obtain ⟨j, hj, rfl⟩ := Option.map_eq_some_iff.1 h
   have := ih hj
   simp only [List.set_cons_succ, nxOf, List.find?_cons] at this ⊢
   by_cases e2 : p.1 = k
   ·have h1 : ((p.1 == k) : Bool) = true := by simpa using e2
    simp only [h1]
    rw [if_neg (fun q => e (e2.trans q))]
   ·have h1 : ((p.1 == k) : Bool) = false := by simpa using e2
    simp only [h1]
    exact this
theorem xinbox_link (ib m : Nat) (sh : Int) (nx : Int → Option Nat) (L : Nat) (μ : Mu) (who obj : Int) (next : Nat) (hL : L < 900000) (hE : μ.N < 1099511627000) :
  Sp n_r16_Inbox_Link [vp ib, vi who, vi obj, vu next] (inbX ib m sh nx L * memX m μ) (fun _ : Unit => .tuple #[]) (fun _ => inbX ib m sh (fun k => if k = obj then some next else nx k) (L + 1) * memX m (μ.acc who 6 (14, obj, 0))) := by
 refine sp_of fun R H h => ?_
 obtain ⟨kv, nv, ns, ⟨hn, hl⟩, h0⟩ := inbX_open (ib := ib) (m := m) (sh := sh) (nx := nx) (L := L) (R := memX m μ * R) (H := H) h.to
 refine wp_of (fun r => r16_Inbox_Link_of _ _ _ _ H) ?_
 refine w_ad end_nf ?_
 refine w_Ld1 h0 rfl ?_
 refine w_call h0 (r16_loc 14 obj 0) fun _ H1 h1 => ?_
 refine w_eq1 h1 h0 (by rfl) ?_
 refine w_call h1 ((xlog m μ who 6 (14, obj, 0) (by omega)).imp fun _ R H h => memX_le (N' := μ.N + 2) (by simp) h) fun _ H2 h2 => ?_
 refine w_call h2 (xinbox_at ib m sh kv nv ns (by omega) obj) fun _ H3 h3 => ?_
 cases hf : ns.findIdx? (fun p => p.1 == obj) with
 | none =>
  rw [atN_none hf]
  refine w_bind (lss_t (by omega)) ?_
  with_reducible repeat refine gg ?_
  refine w_ld h3 end_nf rfl ?_
  refine w_R h3 fun b0 H4 h4 => ?_
  refine w_tapp (s := kv) (l := ns.map fun p : Int × Nat => p.1) (obj : Int) h4 rfl ?_ (by omega) fun a c H5 h5 => ?_
  ·unfold room; simp only [List.length_map]; omega
  refine w_ad end_nf ?_
  refine w_Ld1 h5 rfl ?_
  refine w_eq1 h4 h5 (by rfl) ?_
  refine w_R h5 fun b1 H6 h6 => ?_
  refine w_tapp (s := nv) (l := ns.map fun p : Int × Nat => p.2) (next : Nat) h6 rfl ?_ (by omega) fun a2 c2 H7 h7 => ?_
  ·unfold room; simp only [List.length_map]; omega
  refine w_st h7 end_nf rfl rfl fun H8 h8 => ?_
  refine w_st h8 end_nf rfl rfl fun H9 h9 => ?_
  have e1 : (ns ++ [(obj, next)]).map (fun p : Int × Nat => p.1) = (ns.map fun p : Int × Nat => p.1) ++ [obj] := by rw [List.map_append]; rfl
  have e2 : (ns ++ [(obj, next)]).map (fun p : Int × Nat => p.2) = (ns.map fun p : Int × Nat => p.2) ++ [next] := by rw [List.map_append]; rfl
  refine w_ret ⟨(), rfl, ?_⟩
  have h10 := inbX_close (ib := ib) (m := m) (sh := sh) (nx := fun k => if k = obj then some next else nx k) (L := L + 1) (kv := .slice a ((ns.map fun p : Int × Nat => p.1).length + 1) c) (nv := .slice a2 ((ns.map fun p : Int × Nat => p.2).length + 1) c2) (ns := ns ++ [(obj, next)])
   (R := memX m (μ.acc who 6 (14, obj, 0)) * R) (H := H9) ⟨fun k => by rw [nxOf_snoc hf, hn], by simp; omega⟩ (by rw [e1, e2]; exact h9.to)
  exact h10.to
 | some i =>
  rw [atN_some hf]
  have hi := (List.findIdx?_eq_some_iff_getElem.1 hf)
  obtain ⟨hil, hk, _⟩ := hi
  refine w_bind (lss_f (by omega)) ?_
  with_reducible repeat refine gg ?_
  refine w_ld h3 end_nf rfl ?_
  refine w_tst (s := nv) (l := ns.map fun p : Int × Nat => p.2) (i := i) (next : Nat) h3 (by simpa using hil) (.inl ⟨rfl, rfl⟩) rfl (by omega) rfl (by simp [encU, splice]) fun H4 h4 => ?_
  have e1 : (ns.set i (obj, next)).map (fun p : Int × Nat => p.1) = ns.map fun p : Int × Nat => p.1 := by
   rw [List.map_set]
   apply List.ext_getElem?
   intro j
   rw [List.getElem?_set]
   split
   ·rename_i e
    subst e
    have hk : ns[i].1 = obj := by simpa using hk
    simp [hil, hk]
   ·rfl
  have e2 : (ns.set i (obj, next)).map (fun p : Int × Nat => p.2) = (ns.map fun p : Int × Nat => p.2).set i next := by rw [List.map_set]
  refine w_ret ⟨(), rfl, ?_⟩
  have h10 := inbX_close (ib := ib) (m := m) (sh := sh) (nx := fun k => if k = obj then some next else nx k) (L := L + 1) (kv := kv) (nv := nv) (ns := ns.set i (obj, next))
   (R := memX m (μ.acc who 6 (14, obj, 0)) * R) (H := H4) ⟨fun k => by rw [nxOf_set obj next k hf, hn], by rw [List.length_set]; omega⟩ (by rw [e1, e2]; exact h4.to)
  exact h10.to
theorem cells_at {σ : Sta} {o : Nat} (ho : o < σ.obs.length) : cellsOf' σ o = (σ.obs[o]).2 := by
 unfold cellsOf'
 rw [List.getElem?_eq_getElem ho]; rfl
theorem partsB_ring (p : Nat) (g : PIds) (σ : Sta) (o b : Nat) (hl : g.rp.length = σ.obs.length) (ho : o < σ.obs.length) (hb : g.rp[o]? = some b) :
  ∃ R, partsB p g σ = ringP g.m o b (cellsOf' σ o) * memP g.m σ.μ * R ∧ ∀ μ' cs', partsB p g { σ with μ := μ', obs := σ.obs.modify o fun q => (q.1, cs') } = ringP g.m o b cs' * memP g.m μ' * R := by
 have hz : o < (g.rp.zip (σ.obs.map fun x => x.2)).length := by simp; omega
 obtain ⟨R, e1, e2⟩ := ringsP_split g.m (ps := g.rp.zip (σ.obs.map fun x => x.2)) (j := 0) hz
 have hrp : g.rp[o]'(by omega) = b := by
  rw [List.getElem?_eq_getElem (by omega)] at hb
  exact Option.some.inj hb
 have e3 : (g.rp.zip (σ.obs.map fun x => x.2))[o] = (b, cellsOf' σ o) := by
  rw [List.getElem_zip, cells_at ho, List.getElem_map, hrp]
 rw [e3] at e1
 rw [Nat.zero_add] at e1 e2
 refine ⟨blk p (.cells false [vp g.m, vp g.ib, vp g.tb, vp g.po, vp g.co, vi σ.c.sh, vi σ.c.sl, vi σ.c.wk, vi σ.c.wd, vu σ.c.un, g.ov, .map (some g.pm), g.pv]) * (inbP g.ib g.m g.nm σ.c σ.nx * (tab g.tb g.m σ.c.sh.toNat σ.c.sl.toNat * (ts 4 encO g.ov ((σ.obs.map fun x => x.1).zip g.rp) * (R *
  (mpS ekI g.pm (fun k => (σ.places k).map fun n => vi n) * ts 7 Pt.cells g.pv σ.pts))))), ?_, fun μ' cs' => ?_⟩
 ·unfold partsB
  rw [e1]
  ac_rfl
 ·unfold partsB
  dsimp only
  have e4 : (σ.obs.modify o fun q => (q.1, cs')).map (fun x => x.1) = σ.obs.map fun x => x.1 := by
   apply List.ext_getElem?
   intro j
   simp only [List.getElem?_map, List.getElem?_modify]
   cases σ.obs[j]? with
   | none => rfl
   | some q => simp only [Option.map_some]; split <;> rfl
  have e5 : g.rp.zip ((σ.obs.modify o fun q => (q.1, cs')).map fun x => x.2) = (g.rp.zip (σ.obs.map fun x => x.2)).set o (b, cs') := by
   apply List.ext_getElem?
   intro j
   rw [List.getElem?_set]
   by_cases hj : o = j
   ·subst hj
    rw [if_pos rfl, if_pos hz]
    exact List.getElem?_zip_eq_some.2 ⟨hb, by simp [List.getElem?_modify, List.getElem?_eq_getElem ho]⟩
   ·rw [if_neg hj]
    have : (List.map (fun x => x.2) (σ.obs.modify o fun q => (q.1, cs')))[j]? = (σ.obs.map fun x => x.2)[j]? := by
     simp only [List.getElem?_map, List.getElem?_modify]
     cases σ.obs[j]? with
     | none => rfl
     | some q => show some (if o = j then (q.1, cs') else q).2 = some q.2; rw [if_neg hj]
    simp only [List.zip, List.getElem?_zipWith, this]
  rw [e4, e5, e2]
  ac_rfl
theorem obs_same {σ : Sta} {o : Nat} (ho : o < σ.obs.length) : (σ.obs.modify o fun q => (q.1, cellsOf' σ o)) = σ.obs := by
 apply List.ext_getElem?
 intro j
 rw [List.getElem?_modify]
 cases hj : σ.obs[j]? with
 | none => rfl
 | some q =>
  show some (if o = j then _ else _) = some q
  by_cases e : o = j
  ·subst e
   rw [if_pos rfl]
   unfold cellsOf'
   rw [hj]; rfl
  ·rw [if_neg e]
section
variable {f : Nat} {args : List Value} {v : Unit → Value} {p : Nat} {g : PIds} {σ : Sta} {o b : Nat}
theorem B_ring {μ' : Mu} {cs' : List Pk} (hl : g.rp.length = σ.obs.length) (ho : o < σ.obs.length) (hb : g.rp[o]? = some b)
  (s : Sp f args (ringP g.m o b (cellsOf' σ o) * memP g.m σ.μ) v (fun _ => ringP g.m o b cs' * memP g.m μ')) :
  Sp f args (partsB p g σ) v (fun _ => partsB p g { σ with μ := μ', obs := σ.obs.modify o fun q => (q.1, cs') }) := by
 obtain ⟨R', e1, e2⟩ := partsB_ring p g σ o b hl ho hb
 intro R H h
 rw [e1, sep_assoc] at h
 obtain ⟨x, H', h1, h2⟩ := s _ _ h
 exact ⟨x, H', h1, by rw [e2, sep_assoc]; exact h2⟩
theorem B_ring0 {μ' : Mu} (hl : g.rp.length = σ.obs.length) (ho : o < σ.obs.length) (hb : g.rp[o]? = some b)
  (s : Sp f args (ringP g.m o b (cellsOf' σ o) * memP g.m σ.μ) v (fun _ => ringP g.m o b (cellsOf' σ o) * memP g.m μ')) :
  Sp f args (partsB p g σ) v (fun _ => partsB p g (σ.mem μ')) := by
 have := B_ring (p := p) hl ho hb s
 rw [obs_same ho] at this
 exact this
theorem B_ring1 (hl : g.rp.length = σ.obs.length) (ho : o < σ.obs.length) (hb : g.rp[o]? = some b)
  (s : Sp f args (ringP g.m o b (cellsOf' σ o)) v (fun _ => ringP g.m o b (cellsOf' σ o))) :
  Sp f args (partsB p g σ) v (fun _ => partsB p g σ) := by
 obtain ⟨R', e1, _⟩ := partsB_ring p g σ o b hl ho hb
 intro R H h
 rw [e1, sep_assoc, sep_assoc] at h
 obtain ⟨x, H', h1, h2⟩ := s _ _ h
 exact ⟨x, H', h1, by rw [e1, sep_assoc, sep_assoc]; exact h2⟩
theorem B_tab {μ' : Mu} (s : Sp f args (tab g.tb g.m σ.c.sh.toNat σ.c.sl.toNat * memP g.m σ.μ) v (fun _ => tab g.tb g.m σ.c.sh.toNat σ.c.sl.toNat * memP g.m μ')) :
  Sp f args (partsB p g σ) v (fun _ => partsB p g (σ.mem μ')) := by
 intro R H h
 unfold partsB at h
 obtain ⟨x, H', h1, h2⟩ := s _ H (Holds.fr (A := tab g.tb g.m σ.c.sh.toNat σ.c.sl.toNat * memP g.m σ.μ) h)
 refine ⟨x, H', h1, ?_⟩
 unfold partsB
 exact h2.to
theorem B_tab1 (s : Sp f args (tab g.tb g.m σ.c.sh.toNat σ.c.sl.toNat) v (fun _ => tab g.tb g.m σ.c.sh.toNat σ.c.sl.toNat)) :
  Sp f args (partsB p g σ) v (fun _ => partsB p g σ) := by
 intro R H h
 unfold partsB at h
 obtain ⟨x, H', h1, h2⟩ := s _ H (Holds.fr (A := tab g.tb g.m σ.c.sh.toNat σ.c.sl.toNat) h)
 refine ⟨x, H', h1, ?_⟩
 unfold partsB
 exact h2.to
theorem B_mem {μ' : Mu} (s : Sp f args (memP g.m σ.μ) v (fun _ => memP g.m μ')) : Sp f args (partsB p g σ) v (fun _ => partsB p g (σ.mem μ')) := by
 intro R H h
 unfold partsB at h
 obtain ⟨x, H', h1, h2⟩ := s _ H (Holds.fr (A := memP g.m σ.μ) h)
 refine ⟨x, H', h1, ?_⟩
 unfold partsB
 exact h2.to
theorem B_inb {μ' : Mu} {nx' : Int → Option Nat} (s : Sp f args (inbP g.ib g.m g.nm σ.c σ.nx * memP g.m σ.μ) v (fun _ => inbP g.ib g.m g.nm σ.c nx' * memP g.m μ')) :
  Sp f args (partsB p g σ) v (fun _ => partsB p g { σ with μ := μ', nx := nx' }) := by
 intro R H h
 unfold partsB at h
 obtain ⟨x, H', h1, h2⟩ := s _ H (Holds.fr (A := inbP g.ib g.m g.nm σ.c σ.nx * memP g.m σ.μ) h)
 refine ⟨x, H', h1, ?_⟩
 unfold partsB
 exact h2.to
end
instance partsB_hs (p : Nat) (g : PIds) (σ : Sta) : Hs (partsB p g σ) p (.cells false [vp g.m, vp g.ib, vp g.tb, vp g.po, vp g.co, vi σ.c.sh, vi σ.c.sl, vi σ.c.wk, vi σ.c.wd, vu σ.c.un, g.ov, .map (some g.pm), g.pv]) := ⟨by
 intro H h
 unfold partsB at h
 exact h.left.get⟩
theorem w_told {P P0 R : SP} {H : AH} {b fn : Nat} {args : List Value} {c : Int} {d : Bool} {Q0 : Unit → SP} {Q : Value → AH → Prop} (h : Holds P H)
  (s : Sp fn args P0 (fun _ : Unit => .tuple #[.agg (retC c).toArray, vb d]) Q0) [fr : Fr P (P0 * blk b (.cells false [vi 0, .slice none 0 0, vi 0, vw 0])) R]
  (hk : ∀ H', Holds (Q0 () * R) H' → Q (.tuple #[.agg (retC c).toArray, vb d]) H') :
  wp ((FF fn args H).bind fun r2 => (pExtract r2.1 0).bind fun v3 => (pExtract r2.1 1).bind fun v4 => (pSt 4 (vp b) v3 r2.2).bind fun H5 => (pLdN 4 (vp b) H5).bind fun v6 => some (Value.tuple #[v6, v4], H5)) Q := by
 have h0 : Holds (P0 * (blk b (.cells false [vi 0, .slice none 0 0, vi 0, vw 0]) * R)) H := by
  have := Holds.fr (A := P0 * blk b (.cells false [vi 0, .slice none 0 0, vi 0, vw 0])) h
  rw [sep_assoc] at this
  exact this
 refine w_call h0 s fun _ H1 h1 => ?_
 refine w_bind (v := .agg (retC c).toArray) rfl ?_
 refine w_bind (v := vb d) rfl ?_
 refine w_St h1 rfl rfl fun H2 h2 => ?_
 refine w_LdN h2 ?_
 exact w_ret (hk H2 h2.to)
abbrev fnV (e n : Nat) : Value := .func (.func n) #[vp e] #[]
abbrev eB (e p : Nat) (nx rv : Value) (t : Tk) : SP :=
 blk e (.cells false [vp p, vi t.who, vi t.x.op, vi t.x.flow, vi t.x.a, vi t.x.b, vi t.s, nx, vi t.i, vi t.obj, vb t.found, rv, vu t.w, vu t.q, vi t.mark, vu t.top])
def nfOf : Nat → Nat
 | 0 => n_eE_first | 2 => n_eE_scan | 3 => n_eE_lock | 4 => n_eE_search | 5 => n_eE_unlock | 6 => n_eE_look | 7 => n_eE_word | 8 => n_eE_head
 | 9 => n_eE_claim | 10 => n_eE_put | 11 => n_eE_show | 12 => n_eE_begin | 13 => n_eE_wake | 14 => n_eE_down | 15 => n_eE_seq | 16 => n_eE_wordAgain
 | 17 => n_eE_headAgain | 18 => n_eE_seqAgain | 20 => n_eE_back | 21 => n_eE_shown | 22 => n_eE_topmost | 23 => n_eE_link | 24 => n_eE_push | _ => n_eE_end
def rvOk (rp : List Nat) (t : Tk) (v : Value) : Prop := 7 ≤ t.at' → ∃ b, rp[t.obj]? = some b ∧ v = vp b
def eP (e p : Nat) (rp : List Nat) (σ : Sta) (t : Tk) : SP := ex fun v : Value => pu (rvOk rp t v) * (eB e p (fnV e (nfOf t.at')) v t * partsR p rp σ)
def eQ (e p : Nat) (rp : List Nat) (r : Sta × Tk × Bool) : SP := if r.2.2 = true then partsR p rp r.1 else eP e p rp r.1 r.2.1
abbrev toldV (r : Sta × Tk × Bool) : Value := .tuple #[.agg (retC (if r.2.2 = true then r.2.1.code else 0)).toArray, vb r.2.2]
theorem eP_open {e p : Nat} {rp : List Nat} {σ : Sta} {t : Tk} {R : SP} {H : AH} (h : Holds (eP e p rp σ t * R) H) : ∃ v, rvOk rp t v ∧ Holds (eB e p (fnV e (nfOf t.at')) v t * (partsR p rp σ * R)) H := by
 obtain ⟨v, h1⟩ := Holds.ex.1 h
 rw [sep_assoc, Holds.pu] at h1
 exact ⟨v, h1.1, h1.2.to⟩
theorem eP_close {e p : Nat} {rp : List Nat} {σ : Sta} {t : Tk} {R : SP} {H : AH} {v : Value} {n : Nat} (hv : rvOk rp t v) (hn : nfOf t.at' = n) (h : Holds (eB e p (fnV e n) v t * (partsR p rp σ * R)) H) : Holds (eP e p rp σ t * R) H := by
 subst hn
 exact Holds.ex.2 ⟨v, by rw [sep_assoc]; exact Holds.pu.2 ⟨hv, h.to⟩⟩
section
variable (e p : Nat)
theorem enq_on (nx rv : Value) (n : Nat) (t : Tk) : Sp n_eE_on [vp e, fnV e n] (eB e p nx rv t) (fun _ : Unit => .tuple #[.agg (retC 0).toArray, vb false]) (fun _ => eB e p (fnV e n) rv t) := by
 refine sp_of fun R H h => ?_
 refine wp_of (fun r => eE_on_of _ _ H) ?_
 refine w_new h fun b H1 h1 => ?_
 refine w_st h1 end_nf rfl rfl fun H2 h2 => ?_
 refine w_S ?_
 refine w_St h2 rfl rfl fun H3 h3 => ?_
 refine w_LdN h3 ?_
 exact w_ret ⟨(), rfl, h3.to⟩
theorem noteR (rp : List Nat) (σ : Sta) (step who code : Int) (hp : σ.pts.length < 1000000) : Sp n_parts_Parts_Note [vp p, vi step, vi who, .agg (retC code).toArray] (partsR p rp σ) (fun _ : Unit => .tuple #[]) (fun _ => partsR p rp (σ.note step who code)) := by
 refine sp_of fun R H h => ?_
 obtain ⟨g, hrp, hg, h0⟩ := partsR_open h
 unfold partsB at h0
 refine wp_of (fun r => parts_Parts_Note_of _ _ _ _ H) ?_
 refine w_newC h0 fun b1 H1 h1 => ?_
 refine w_ad end_nf ?_
 refine w_Ld1 h1 rfl ?_
 refine w_ad end_nf ?_
 refine w_Ld1 h1 rfl ?_
 refine w_mlook (ek := ekI) who h1 ?_
 refine w_LdN h1 ?_
 refine w_call h1 (parts_own_law code) fun _ H2 h2 => ?_
 refine w_eq1 h2 h1 rfl ?_
 refine w_eq1 h2 h1 rfl ?_
 refine w_mlookE who h2 h1 ?_
 have ev : (((σ.places who).map fun n => vi n).getD (vi 0)) = vi ((σ.places who).getD 0) := by cases σ.places who <;> rfl
 rw [ev]
 refine w_S ?_
 refine w_R h2 fun b0 H3 h3 => ?_
 refine w_tapp (⟨step, who, (σ.places who).getD 0, code⟩ : Pt) h3 rfl ?_ (by omega) fun a cc H4 h4 => ?_
 ·unfold room; omega
 refine w_st h4 end_nf rfl rfl fun H5 h5 => ?_
 refine w_ret ⟨(), rfl, ?_⟩
 refine partsR_close { g with pv := .slice a (σ.pts.length + 1) cc } hrp hg ?_
 unfold partsB Sta.note
 exact h5.to
theorem enq_note (rp : List Nat) (σ : Sta) (nx rv : Value) (t : Tk) (now code : Int) (hp : σ.pts.length < 1000000) :
  Sp n_eE_note [vp e, vi now, vi code] (eB e p nx rv t * partsR p rp σ) (fun _ : Unit => .tuple #[]) (fun _ => eB e p nx rv t * partsR p rp (σ.note now t.who code)) := by
 refine sp_of fun R H h => ?_
 refine wp_of (fun r => eE_note_of _ _ _ H) ?_
 refine w_ld h end_nf rfl ?_
 refine w_ld h end_nf rfl ?_
 refine w_S ?_
 refine w_call h (noteR p rp σ now t.who code hp) fun _ H1 h1 => ?_
 exact w_ret ⟨(), rfl, h1.to⟩
theorem enq_refuseR (rp : List Nat) (σ : Sta) (nx rv : Value) (t : Tk) (now code : Int) (hp : σ.pts.length < 1000000) :
  Sp n_eE_refuse [vp e, vi now, vi code] (eB e p nx rv t * partsR p rp σ) (fun _ : Unit => .tuple #[.agg (retC code).toArray, vb true]) (fun _ => eB e p nx rv t * partsR p rp (σ.note now t.who code)) := by
 refine sp_of fun R H h => ?_
 refine wp_of (fun r => eE_refuse_of _ _ _ H) ?_
 refine w_new h fun b H1 h1 => ?_
 refine w_call h1 (enq_note e p rp σ nx rv t now code hp) fun _ H2 h2 => ?_
 exact w_told h2 (enq_ends (vp e) code) fun H3 h3 => ⟨(), rfl, h3.to⟩
end
theorem w_rldNF {α : Type} {P : SP} {H : AH} {e n g i : Nat} {enc : α → List Value} {l : List α} {s : Value} {Q : Value → AH → Prop} {k : Value → OV} {kk : IntKind} {cs : List Value} (h : Holds P H) [r : Rd P s e enc l] [E : Enc enc e] (hi : i < l.length) (hg : g + n ≤ e)
  (hc : ((enc l[i]).drop g).take n = cs) (hk : wp (k (.agg cs.toArray)) Q) : wp (ldN n [.i e (.int kk (i : Int)), .f g] s H k) Q := by
 subst hc
 obtain ⟨b, o, ro, row, rfl, h2, h3, h4⟩ := rd_row (s := s) (enc := enc) (l := l) h hi
 unfold ldN
 rw [ad_i hi, ad_f]
 have hm : (i + 1) * e ≤ l.length * e := Nat.mul_le_mul_right _ (by omega)
 rw [Nat.add_mul] at hm
 have : pLdN n (vpo b (o + i * e + g)) H = some (.agg (((enc l[i]).drop g).take n).toArray) := by
  simp only [pLdN, pAt, pCells, Option.bind_some, h2]
  rw [if_pos (by omega)]
  congr 3
  rw [← flat_at E.len l i hi, ← h4, List.drop_take, List.drop_take, List.drop_take, List.drop_drop, List.drop_drop, List.take_take, List.take_take, Nat.min_eq_left (by omega), Nat.min_eq_left (by omega), Nat.add_assoc]
 show wp ((pLdN n (vpo b (o + i * e + g)) H).bind k) Q
 rw [this]; exact hk
structure SOk (σ : Sta) : Prop where
 c : rightB σ.c = true
 N : σ.μ.N < 800000
 pts : σ.pts.length < 900000
 V : ∀ l, σ.μ.V l < 18446744073709551616
 obs : σ.obs.length < 900000
 cells : ∀ o, o < σ.obs.length → 1 ≤ (cellsOf' σ o).length ∧ (cellsOf' σ o).length < 1000
 slot : ∀ s i, σ.μ.V (10, s, i) ≠ 0 → σ.μ.V (10, s, i) % 4294967296 < σ.obs.length
structure TOk (σ : Sta) (t : Tk) : Prop where
 obj : 6 ≤ t.at' ∨ t.at' = 5 ∧ t.found = true → t.obj < σ.obs.length
 s : t.s = (t.x.flow.tmod σ.c.sh + σ.c.sh).tmod σ.c.sh
 i : t.at' < 5 → t.at' ≠ 3 → (t.i : Int) < σ.c.sl
 w : t.w < 18446744073709551616
 c5 : t.at' = 5 → t.found = false → t.code = 5
 c0 : t.at' = 10 ∨ t.at' = 11 ∨ t.at' = 14 ∨ 21 ≤ t.at' → t.code = 0
 ats : t.at' = 0 ∨ t.at' = 2 ∨ t.at' = 3 ∨ t.at' = 4 ∨ t.at' = 5 ∨ t.at' = 6 ∨ t.at' = 7 ∨ t.at' = 8 ∨ t.at' = 9 ∨ t.at' = 10 ∨ t.at' = 11 ∨ t.at' = 12 ∨ t.at' = 13 ∨ t.at' = 14 ∨ t.at' = 15 ∨ t.at' = 16 ∨ t.at' = 17 ∨ t.at' = 18 ∨ t.at' = 20 ∨ t.at' = 21 ∨ t.at' = 22 ∨ t.at' = 23 ∨ t.at' = 24 ∨ t.at' = 25
section
variable (e p : Nat) (rp : List Nat) (g : PIds) (σ : Sta) (nx rv : Value) (t : Tk) (now : Int)
theorem parts_made' (hl : g.rp.length = σ.obs.length) (o : Nat) (ho : o < σ.obs.length) : Sp n_parts_Parts_made [vp p, vi o] (partsB p g σ) (fun _ : Unit => vb true) (fun _ => partsB p g σ) := by
 have hz : ((σ.obs.map fun x => x.1).zip g.rp).length = σ.obs.length := by simp [hl]
 refine sp_of fun R H h => ?_
 have h0 := h
 unfold partsB at h0
 refine wp_of (fun r => parts_Parts_made_of _ _ H) ?_
 refine w_bind (geq_t (by omega)) ?_
 with_reducible repeat refine gg ?_
 refine w_ld h end_nf rfl ?_
 with_reducible repeat refine gg ?_
 refine w_rlenB (s := g.ov) h0 ?_
 rw [hz]
 with_reducible repeat refine gg ?_
 refine w_bind (lss_t (by omega)) ?_
 with_reducible repeat refine gg ?_
 exact w_ret ⟨(), rfl, h⟩
theorem parts_ring' (hl : g.rp.length = σ.obs.length) (o b : Nat) (ho : o < σ.obs.length) (hb : g.rp[o]? = some b) : Sp n_parts_Parts_Ring [vp p, vi o] (partsB p g σ) (fun _ : Unit => vp b) (fun _ => partsB p g σ) := by
 have hz : ((σ.obs.map fun x => x.1).zip g.rp).length = σ.obs.length := by simp [hl]
 refine sp_of fun R H h => ?_
 refine wp_of (fun r => parts_Parts_Ring_of _ _ H) ?_
 refine w_call h (parts_made' p g σ hl o ho) fun _ H1 h1 => ?_
 with_reducible repeat refine gg ?_
 rw [Bool.not_true]
 with_reducible repeat refine gg ?_
 refine w_ld h1 end_nf rfl ?_
 have h2 := h1
 unfold partsB at h2
 have hb' : g.rp[o]'(by omega) = b := by rw [List.getElem?_eq_getElem (by omega)] at hb; exact Option.some.inj hb
 refine w_rldF (v := vp b) (enc := encO) (l := (σ.obs.map fun x : Ob × List Pk => x.1).zip g.rp) h2 (by omega) (by omega) ?_ ?_
 ·show some (vp ((σ.obs.map fun x => x.1).zip g.rp)[o].2) = _
  rw [List.getElem_zip, hb']
 exact w_ret ⟨(), rfl, h1.to⟩
theorem parts_obj' (hl : g.rp.length = σ.obs.length) (who : Int) (o : Nat) (ho : o < σ.obs.length) (hN : σ.μ.N < 800000) : Sp n_parts_Parts_Obj [vp p, vi who, vi o] (partsB p g σ) (fun v : Value => v) (fun _ => partsB p g (σ.mem (σ.μ.acc who 5 (13, (o : Int), 0)))) := by
 have hz : ((σ.obs.map fun x => x.1).zip g.rp).length = σ.obs.length := by simp [hl]
 refine sp_of fun R H h => ?_
 refine wp_of (fun r => parts_Parts_Obj_of _ _ _ H) ?_
 refine w_new h fun b H1 h1 => ?_
 refine w_call h1 (parts_made' p g σ hl o ho) fun _ H2 h2 => ?_
 with_reducible repeat refine gg ?_
 rw [Bool.not_true]
 with_reducible repeat refine gg ?_
 refine w_ld h2 end_nf rfl ?_
 refine w_S ?_
 refine w_call h2 (B_mem (p := p) (g := g) (σ := σ) ((mem_read g.m σ.μ who (13, (o : Int), 0) (by omega)).imp fun _ R H h => memP_le (N' := σ.μ.N + 2) (by simp) h)) fun _ H3 h3 => ?_
 refine w_ld h3 end_nf rfl ?_
 have h4 := h3
 unfold partsB at h4
 refine w_rldNF (enc := encO) (l := (σ.obs.map fun x : Ob × List Pk => x.1).zip g.rp) h4 (by omega) (by omega) (show _ = [_, _, _] from rfl) ?_
 refine w_St h3 rfl rfl fun H5 h5 => ?_
 refine w_LdN h5 ?_
 exact w_ret ⟨_, rfl, h5.to⟩
theorem parts_seq' (who : Int) (hN : σ.μ.N < 800000) : Sp n_parts_Parts_Seq [vp p, vi who] (partsB p g σ) (fun _ : Unit => vu (σ.μ.V (2, 0, 0))) (fun _ => partsB p g (σ.mem (σ.μ.acc who 1 (2, 0, 0)))) := by
 refine sp_of fun R H h => ?_
 refine wp_of (fun r => parts_Parts_Seq_of _ _ H) ?_
 refine w_ld h end_nf rfl ?_
 refine w_S ?_
 refine w_call h (B_mem (p := p) (g := g) (σ := σ) (p_load g.m σ.μ who (2, 0, 0) (by omega))) fun _ H1 h1 => ?_
 exact w_ret ⟨(), rfl, h1.to⟩
theorem scanT_eq (b : Bool) (h : hitS (σ.μ.V (10, t.s, (t.i : Int))) t.x.flow = b) : scanT σ t = { t with i := t.i + 1, found := b, obj := if b = true then σ.μ.V (10, t.s, (t.i : Int)) % 4294967296 else t.obj } := by
 subst h
 rfl
theorem enq_hit (S : SOk σ) (hi : (t.i : Int) < σ.c.sl) : Sp n_eE_hit [vp e] (eB e p nx rv t * partsB p g σ) (fun _ : Unit => vb (lastT σ (scanT σ t))) (fun _ => eB e p nx rv (scanT σ t) * partsB p g (scanM σ t)) := by
 have hc := rightB_iff.1 S.c
 refine sp_of fun R H h => ?_
 refine wp_of (fun r => eE_hit_of _ H) ?_
 refine w_ld h end_nf rfl ?_
 refine w_ld h end_nf rfl ?_
 refine w_ld h end_nf rfl ?_
 refine w_ld h end_nf rfl ?_
 refine w_ld h end_nf rfl ?_
 refine w_call h (B_tab (p := p) (g := g) (σ := σ) (table_slotV g.tb g.m σ.c.sh.toNat σ.c.sl.toNat σ.μ t.who t.s t.i (by have := S.N; omega) (S.V _))) fun _ H1 h1 => ?_
 have fin : ∀ (t1 : Tk) (H' : AH), t1.i = t.i + 1 → Holds (eB e p nx rv t1 * (partsB p g (scanM σ t) * R)) H' → wp (eE_hit_k1 (vp e) (vb false) H') fun v' H' => ∃ _x : Unit, v' = vb (lastT σ t1) ∧ Holds (eB e p nx rv t1 * partsB p g (scanM σ t) * R) H' := by
  intro t1 H' hi1 h'
  refine wp_eq (eE_hit_k1_eq _ _ H') ?_
  refine w_ad end_nf ?_
  refine w_Ld1 h' rfl ?_
  refine w_ld h' end_nf rfl ?_
  refine w_ld h' end_nf rfl ?_
  refine w_call h' (B_tab1 (p := p) (g := g) (σ := scanM σ t) (table_slots g.tb g.m σ.c.sh.toNat σ.c.sl.toNat)) fun _ H2 h2 => ?_
  refine w_eq1 h2 h' (by rfl) ?_
  refine w_bind (v := vb (lastT σ t1)) ?_ ?_
  ·rw [bin_geq]
   congr 3
   apply propext
   omega
  exact w_ret ⟨(), rfl, h2.to⟩
 by_cases hv : σ.μ.V (10, t.s, (t.i : Int)) = 0
 ·have e1 : slotV (σ.μ.V (10, t.s, (t.i : Int))) = .tuple #[vi 0, vi 0, vb false] := by rw [slotV, if_pos hv]
  rw [e1]
  refine w_bind (v := vi 0) rfl ?_
  refine w_bind (v := vi 0) rfl ?_
  refine w_bind (v := vb false) rfl ?_
  refine w_ld h1 end_nf rfl ?_
  refine w_bind (bin_add_i (by omega) (by omega)) ?_
  rw [show ((t.i : Nat) : Int) + 1 = ((t.i + 1 : Nat) : Int) from by omega]
  refine w_st h1 end_nf rfl rfl fun H2 h2 => ?_
  refine wp_eq (eE_hit_k0_eq _ _ _ _ _ H2) ?_
  with_reducible repeat refine gg ?_
  refine w_st h2 end_nf rfl rfl fun H3 h3 => ?_
  refine w_ld h3 end_nf rfl ?_
  with_reducible repeat refine gg ?_
  have e2 : scanT σ t = { t with i := t.i + 1, found := false } := by
   have : hitS (σ.μ.V (10, t.s, (t.i : Int))) t.x.flow = false := by simp [hitS, hv]
   exact (scanT_eq σ t _ this).trans rfl
  rw [e2]
  exact fin _ H3 rfl h3.to
 ·have e1 : slotV (σ.μ.V (10, t.s, (t.i : Int))) = .tuple #[vi ((σ.μ.V (10, t.s, (t.i : Int)) / 4294967296 : Nat) - 1), vi (σ.μ.V (10, t.s, (t.i : Int)) % 4294967296 : Nat), vb true] := by rw [slotV, if_neg hv]
  rw [e1]
  refine w_bind (v := vi ((σ.μ.V (10, t.s, (t.i : Int)) / 4294967296 : Nat) - 1)) rfl ?_
  refine w_bind (v := vi (σ.μ.V (10, t.s, (t.i : Int)) % 4294967296 : Nat)) rfl ?_
  refine w_bind (v := vb true) rfl ?_
  refine w_ld h1 end_nf rfl ?_
  refine w_bind (bin_add_i (by omega) (by omega)) ?_
  rw [show ((t.i : Nat) : Int) + 1 = ((t.i + 1 : Nat) : Int) from by omega]
  refine w_st h1 end_nf rfl rfl fun H2 h2 => ?_
  refine wp_eq (eE_hit_k0_eq _ _ _ _ _ H2) ?_
  with_reducible repeat refine gg ?_
  refine w_ld h2 (end_n (end_f (end_f end_nil))) rfl ?_
  by_cases hf : ((σ.μ.V (10, t.s, (t.i : Int)) / 4294967296 : Nat) : Int) - 1 = t.x.flow
  ·refine w_gB_tt ?_
   refine w_bind (eql_t hf) ?_
   with_reducible repeat refine gg ?_
   refine w_st h2 end_nf rfl rfl fun H3 h3 => ?_
   refine w_ld h3 end_nf rfl ?_
   with_reducible repeat refine gg ?_
   refine w_st h3 end_nf rfl rfl fun H4 h4 => ?_
   have e2 : scanT σ t = { t with i := t.i + 1, found := true, obj := σ.μ.V (10, t.s, (t.i : Int)) % 4294967296 } := by
    have : hitS (σ.μ.V (10, t.s, (t.i : Int))) t.x.flow = true := decide_eq_true ⟨hv, hf⟩
    exact (scanT_eq σ t _ this).trans rfl
   rw [e2]
   exact fin _ H4 rfl h4.to
  ·refine w_gB_tt ?_
   refine w_bind (eql_f hf) ?_
   with_reducible repeat refine gg ?_
   refine w_st h2 end_nf rfl rfl fun H3 h3 => ?_
   refine w_ld h3 end_nf rfl ?_
   with_reducible repeat refine gg ?_
   have e2 : scanT σ t = { t with i := t.i + 1, found := false } := by
    have : hitS (σ.μ.V (10, t.s, (t.i : Int))) t.x.flow = false := decide_eq_false fun q => hf q.2
    exact (scanT_eq σ t _ this).trans rfl
   rw [e2]
   exact fin _ H3 rfl h3.to
end
theorem partsXB_ring (p : Nat) (g : XIds) (σ : Sta) (o b : Nat) (hl : g.rp.length = σ.obs.length) (ho : o < σ.obs.length) (hb : g.rp[o]? = some b) :
  ∃ R, (∀ N, σ.μ.N = N → partsXB p g σ = ringX g.m o b (cellsOf' σ o) * memX g.m σ.μ * (inbX g.ib g.m σ.c.sh σ.nx N * R)) ∧ ∀ μ' cs', partsXB p g { σ with μ := μ', obs := σ.obs.modify o fun q => (q.1, cs') } = ringX g.m o b cs' * memX g.m μ' * (inbX g.ib g.m σ.c.sh σ.nx μ'.N * R) := by
 have hz : o < (g.rp.zip (σ.obs.map fun x => x.2)).length := by simp; omega
 obtain ⟨R, e1, e2⟩ := ringsX_split g.m (ps := g.rp.zip (σ.obs.map fun x => x.2)) (j := 0) hz
 have hrp : g.rp[o]'(by omega) = b := by
  rw [List.getElem?_eq_getElem (by omega)] at hb
  exact Option.some.inj hb
 have e3 : (g.rp.zip (σ.obs.map fun x => x.2))[o] = (b, cellsOf' σ o) := by
  rw [List.getElem_zip, cells_at ho, List.getElem_map, hrp]
 rw [e3] at e1
 rw [Nat.zero_add] at e1 e2
 refine ⟨blk p (.cells false [vi σ.c.sh, vi σ.c.sl, vi σ.c.wk, vi σ.c.wd, vu σ.c.un, vp g.m, vp g.ib, vp g.tb, vp g.po, vp g.co, g.ov, g.rv, g.wv, g.pv]) * (tab g.tb g.m σ.c.sh.toNat σ.c.sl.toNat * (ts 3 encOb g.ov (σ.obs.map fun x => x.1) * (ts 1 encP1 g.rv g.rp * (R *
  (ts 1 encI g.wv (pairsL g.ws) * ts 7 Pt.cells g.pv (byStep σ.pts)))))), fun N hN => ?_, fun μ' cs' => ?_⟩
 ·subst hN
  unfold partsXB
  rw [e1]
  ac_rfl
 ·unfold partsXB
  dsimp only
  have e4 : (σ.obs.modify o fun q => (q.1, cs')).map (fun x => x.1) = σ.obs.map fun x => x.1 := by
   apply List.ext_getElem?
   intro j
   simp only [List.getElem?_map, List.getElem?_modify]
   cases σ.obs[j]? with
   | none => rfl
   | some q => simp only [Option.map_some]; split <;> rfl
  have e5 : g.rp.zip ((σ.obs.modify o fun q => (q.1, cs')).map fun x => x.2) = (g.rp.zip (σ.obs.map fun x => x.2)).set o (b, cs') := by
   apply List.ext_getElem?
   intro j
   rw [List.getElem?_set]
   by_cases hj : o = j
   ·subst hj
    rw [if_pos rfl, if_pos hz]
    exact List.getElem?_zip_eq_some.2 ⟨hb, by simp [List.getElem?_modify, List.getElem?_eq_getElem ho]⟩
   ·rw [if_neg hj]
    have : (List.map (fun x => x.2) (σ.obs.modify o fun q => (q.1, cs')))[j]? = (σ.obs.map fun x => x.2)[j]? := by
     simp only [List.getElem?_map, List.getElem?_modify]
     cases σ.obs[j]? with
     | none => rfl
     | some q => show some (if o = j then (q.1, cs') else q).2 = some q.2; rw [if_neg hj]
    simp only [List.zip, List.getElem?_zipWith, this]
  rw [e4, e5, e2]
  ac_rfl
section
variable {f : Nat} {args : List Value} {v : Unit → Value} {p : Nat} {g : XIds} {σ : Sta} {o b : Nat}
theorem XB_ring {μ' : Mu} {cs' : List Pk} (hN : σ.μ.N ≤ μ'.N) (hl : g.rp.length = σ.obs.length) (ho : o < σ.obs.length) (hb : g.rp[o]? = some b)
  (s : Sp f args (ringX g.m o b (cellsOf' σ o) * memX g.m σ.μ) v (fun _ => ringX g.m o b cs' * memX g.m μ')) :
  Sp f args (partsXB p g σ) v (fun _ => partsXB p g { σ with μ := μ', obs := σ.obs.modify o fun q => (q.1, cs') }) := by
 obtain ⟨R', e1, e2⟩ := partsXB_ring p g σ o b hl ho hb
 intro R H h
 rw [e1 _ rfl, sep_assoc] at h
 obtain ⟨x, H', h1, h2⟩ := s _ _ h
 refine ⟨x, H', h1, ?_⟩
 rw [e2, sep_assoc]
 have h3 := inbX_le hN (Holds.fr (A := inbX g.ib g.m σ.c.sh σ.nx σ.μ.N) h2)
 exact h3.to
theorem XB_ring0 {μ' : Mu} (hN : σ.μ.N ≤ μ'.N) (hl : g.rp.length = σ.obs.length) (ho : o < σ.obs.length) (hb : g.rp[o]? = some b)
  (s : Sp f args (ringX g.m o b (cellsOf' σ o) * memX g.m σ.μ) v (fun _ => ringX g.m o b (cellsOf' σ o) * memX g.m μ')) :
  Sp f args (partsXB p g σ) v (fun _ => partsXB p g (σ.mem μ')) := by
 have := XB_ring (p := p) hN hl ho hb s
 rw [obs_same ho] at this
 exact this
theorem XB_ring1 (hl : g.rp.length = σ.obs.length) (ho : o < σ.obs.length) (hb : g.rp[o]? = some b)
  (s : Sp f args (ringX g.m o b (cellsOf' σ o)) v (fun _ => ringX g.m o b (cellsOf' σ o))) :
  Sp f args (partsXB p g σ) v (fun _ => partsXB p g σ) := by
 obtain ⟨R', e1, _⟩ := partsXB_ring p g σ o b hl ho hb
 intro R H h
 rw [e1 _ rfl, sep_assoc, sep_assoc] at h
 obtain ⟨x, H', h1, h2⟩ := s _ _ h
 exact ⟨x, H', h1, by rw [e1 _ rfl, sep_assoc, sep_assoc]; exact h2⟩
theorem XB_tab {μ' : Mu} (hN : σ.μ.N ≤ μ'.N) (s : Sp f args (tab g.tb g.m σ.c.sh.toNat σ.c.sl.toNat * memX g.m σ.μ) v (fun _ => tab g.tb g.m σ.c.sh.toNat σ.c.sl.toNat * memX g.m μ')) :
  Sp f args (partsXB p g σ) v (fun _ => partsXB p g (σ.mem μ')) := by
 intro R H h
 unfold partsXB at h
 obtain ⟨x, H', h1, h2⟩ := s _ H (Holds.fr (A := tab g.tb g.m σ.c.sh.toNat σ.c.sl.toNat * memX g.m σ.μ) h)
 refine ⟨x, H', h1, ?_⟩
 unfold partsXB
 have h3 := inbX_le hN (Holds.fr (A := inbX g.ib g.m σ.c.sh σ.nx σ.μ.N) h2)
 exact h3.to
theorem XB_tab1 (s : Sp f args (tab g.tb g.m σ.c.sh.toNat σ.c.sl.toNat) v (fun _ => tab g.tb g.m σ.c.sh.toNat σ.c.sl.toNat)) :
  Sp f args (partsXB p g σ) v (fun _ => partsXB p g σ) := by
 intro R H h
 unfold partsXB at h
 obtain ⟨x, H', h1, h2⟩ := s _ H (Holds.fr (A := tab g.tb g.m σ.c.sh.toNat σ.c.sl.toNat) h)
 refine ⟨x, H', h1, ?_⟩
 unfold partsXB
 exact h2.to
theorem XB_mem {μ' : Mu} (hN : σ.μ.N ≤ μ'.N) (s : Sp f args (memX g.m σ.μ) v (fun _ => memX g.m μ')) : Sp f args (partsXB p g σ) v (fun _ => partsXB p g (σ.mem μ')) := by
 intro R H h
 unfold partsXB at h
 obtain ⟨x, H', h1, h2⟩ := s _ H (Holds.fr (A := memX g.m σ.μ) h)
 refine ⟨x, H', h1, ?_⟩
 unfold partsXB
 have h3 := inbX_le hN (Holds.fr (A := inbX g.ib g.m σ.c.sh σ.nx σ.μ.N) h2)
 exact h3.to
theorem XB_inb {μ' : Mu} {nx' : Int → Option Nat} {L : Nat} (hL : L ≤ μ'.N) (s : Sp f args (inbX g.ib g.m σ.c.sh σ.nx σ.μ.N * memX g.m σ.μ) v (fun _ => inbX g.ib g.m σ.c.sh nx' L * memX g.m μ')) :
  Sp f args (partsXB p g σ) v (fun _ => partsXB p g { σ with μ := μ', nx := nx' }) := by
 intro R H h
 unfold partsXB at h
 obtain ⟨x, H', h1, h2⟩ := s _ H (Holds.fr (A := inbX g.ib g.m σ.c.sh σ.nx σ.μ.N * memX g.m σ.μ) h)
 refine ⟨x, H', h1, ?_⟩
 unfold partsXB
 have h3 := inbX_le hL (Holds.fr (A := inbX g.ib g.m σ.c.sh nx' L) h2)
 exact h3.to
end
instance partsXB_hs (p : Nat) (g : XIds) (σ : Sta) : Hs (partsXB p g σ) p (.cells false [vi σ.c.sh, vi σ.c.sl, vi σ.c.wk, vi σ.c.wd, vu σ.c.un, vp g.m, vp g.ib, vp g.tb, vp g.po, vp g.co, g.ov, g.rv, g.wv, g.pv]) := ⟨by
 intro H h
 unfold partsXB at h
 exact h.left.get⟩
theorem xring_put (m i rp : Nat) (cs : List Pk) (μ : Mu) (who : Int) (n : Nat) (x : Pk) (h0 : 1 ≤ cs.length ∧ cs.length < 1000) (hE : μ.N < 1099511627000) :
  Sp n_r16_Ring_Put [vp rp, vi who, vu n, .agg (Pk.cells x).toArray] (ringX m i rp cs * memX m μ) (fun _ : Unit => .tuple #[]) (fun _ => ringX m i rp (cs.set (n % cs.length) x) * memX m (μ.acc who 6 (16, (i : Int), ((n % cs.length : Nat) : Int)))) := by
 have hlt : n % cs.length < cs.length := Nat.mod_lt _ (by omega)
 refine sp_of fun R H h => ?_
 refine wp_of (fun r => r16_Ring_Put_of _ _ _ _ H) ?_
 refine w_newC h fun b H1 h1 => ?_
 obtain ⟨cv, k1⟩ := ringX_open (m := m) (i := i) (rp := rp) (cs := cs) (R := memX m μ * (blk b (.cells false (Pk.cells x)) * R)) (H := H1) h1.to
 refine w_ad end_nf ?_
 refine w_Ld1 k1 rfl ?_
 refine w_ad end_nf ?_
 refine w_Ld1 k1 rfl ?_
 have cell : ∀ cv, Sp n_r16_Ring_cell [vp rp, vu n] (blk rp (.cells false [vp m, vi i, vi cs.length, cv])) (fun _ : Unit => vi ((n % cs.length : Nat) : Int)) (fun _ => blk rp (.cells false [vp m, vi i, vi cs.length, cv])) := by
  intro cv
  refine sp_of fun R H h => ?_
  refine wp_of (fun r => r16_Ring_cell_of _ _ H) ?_
  refine w_ld h end_nf rfl ?_
  refine w_bind (conv_ui (by omega) (by omega)) ?_
  rw [show ((cs.length : Nat) : Int).toNat = cs.length from Int.toNat_natCast _]
  refine w_bind (bin_rem_u (by omega)) ?_
  refine w_bind (conv_iu (by omega)) ?_
  exact w_ret ⟨(), rfl, h⟩
 refine w_call k1 (cell cv) fun _ H2 k2 => ?_
 refine w_eq1 k2 k1 (by rfl) ?_
 refine w_eq1 k2 k1 (by rfl) ?_
 refine w_call k2 (r16_loc 16 (i : Int) ((n % cs.length : Nat) : Int)) fun _ H3 k3 => ?_
 refine w_eq1 k3 k1 (by rfl) ?_
 refine w_call k3 ((xlog m μ who 6 (16, (i : Int), ((n % cs.length : Nat) : Int)) (by omega)).imp fun _ R H h => memX_le (N' := μ.N + 2) (by simp) h) fun _ H4 k4 => ?_
 refine w_ad end_nf ?_
 refine w_Ld1 k4 rfl ?_
 refine w_call k4 (cell cv) fun _ H5 k5 => ?_
 refine w_eq1 k5 k4 (by rfl) ?_
 refine w_LdN k5 ?_
 refine w_eqN k4 k5 rfl ?_
 refine w_tst (s := cv) (l := cs) (i := n % cs.length) x k5 hlt (.inl ⟨rfl, rfl⟩) rfl (by omega) rfl rfl fun H6 k6 => ?_
 refine w_ret ⟨(), rfl, ?_⟩
 have el : (cs.set (n % cs.length) x).length = cs.length := List.length_set
 have h6 := ringX_close (m := m) (i := i) (rp := rp) (cs := cs.set (n % cs.length) x) (cv := cv) (R := memX m (μ.acc who 6 (16, (i : Int), ((n % cs.length : Nat) : Int))) * R) (H := H6) (by rw [el]; exact k6.to)
 exact h6.to
section
variable (p : Nat) (g : XIds) (σ : Sta)
theorem xparts_obj (hl : g.rp.length = σ.obs.length) (who : Int) (o : Nat) (ho : o < σ.obs.length) (hN : σ.μ.N < 800000) : Sp n_r16_Parts_Obj [vp p, vi who, vi o] (partsXB p g σ) (fun v : Value => v) (fun _ => partsXB p g (σ.mem (σ.μ.acc who 5 (13, (o : Int), 0)))) := by
 refine sp_of fun R H h => ?_
 refine wp_of (fun r => r16_Parts_Obj_of _ _ _ H) ?_
 refine w_new h fun b H1 h1 => ?_
 refine w_bind (lss_f (by omega)) ?_
 with_reducible repeat refine gg ?_
 refine w_ld h1 end_nf rfl ?_
 with_reducible repeat refine gg ?_
 have h2 := h1
 unfold partsXB at h2
 refine w_rlenB (s := g.ov) (enc := encOb) (l := σ.obs.map fun x : Ob × List Pk => x.1) h2 ?_
 rw [List.length_map]
 with_reducible repeat refine gg ?_
 refine w_bind (geq_f (by omega)) ?_
 with_reducible repeat refine gg ?_
 refine w_ad end_nf ?_
 refine w_Ld1 h1 rfl ?_
 refine w_call h1 (r16_loc 13 (o : Int) 0) fun _ H3 h3 => ?_
 refine w_eq1 h3 h1 (by rfl) ?_
 refine w_call h3 (XB_mem (p := p) (g := g) (σ := σ) (μ' := σ.μ.acc who 5 (13, (o : Int), 0)) (by simp) ((xlog g.m σ.μ who 5 (13, (o : Int), 0) (by omega)).imp fun _ R H h => memX_le (N' := σ.μ.N + 2) (by simp) h)) fun _ H4 h4 => ?_
 refine w_ld h4 end_nf rfl ?_
 have h5 := h4
 unfold partsXB at h5
 refine w_rldN (enc := encOb) (l := σ.obs.map fun x : Ob × List Pk => x.1) h5 (by rw [List.length_map]; exact ho) ?_
 refine w_St h4 rfl rfl fun H6 h6 => ?_
 refine w_LdN h6 ?_
 exact w_ret ⟨_, rfl, h6.to⟩
theorem xparts_seq (who : Int) (hN : σ.μ.N < 800000) : Sp n_r16_Parts_Seq [vp p, vi who] (partsXB p g σ) (fun _ : Unit => vu (σ.μ.V (2, 0, 0))) (fun _ => partsXB p g (σ.mem (σ.μ.acc who 1 (2, 0, 0)))) := by
 refine sp_of fun R H h => ?_
 refine wp_of (fun r => r16_Parts_Seq_of _ _ H) ?_
 refine w_ad end_nf ?_
 refine w_Ld1 h rfl ?_
 refine w_call h (r16_loc 2 0 0) fun _ H1 h1 => ?_
 refine w_eq1 h1 h (by rfl) ?_
 refine w_call h1 (XB_mem (p := p) (g := g) (σ := σ) (μ' := σ.μ.acc who 1 (2, 0, 0)) (by simp) (r16_load g.m σ.μ who (2, 0, 0) (by omega))) fun _ H2 h2 => ?_
 exact w_ret ⟨(), rfl, h2.to⟩
theorem xtable_shard (t m sh sl : Nat) (hs : 1 ≤ sh ∧ sh ≤ 4) (flow : Int) : Sp n_r16_Table_Shard [vp t, vi flow] (tab t m sh sl) (fun _ : Unit => vi ((flow.tmod sh + sh).tmod sh)) (fun _ => tab t m sh sl) := by
 have q := tmod_in flow (n := sh) (by omega)
 refine sp_of fun R H h => ?_
 refine wp_of (fun r => r16_Table_Shard_of _ _ H) ?_
 unfold tab at h ⊢
 refine w_ld h end_nf rfl ?_
 refine w_bind (rem_ii (by omega)) ?_
 refine wp_eq (r16_Table_Shard_k0_eq _ _ _ H) ?_
 by_cases hn : flow.tmod sh < 0
 ·refine w_bind (lss_t hn) ?_
  with_reducible repeat refine gg ?_
  refine w_ld h end_nf rfl ?_
  refine w_bind (bin_add_i (by omega) (by omega)) ?_
  refine wp_eq (r16_Table_Shard_k1_eq _ _ H) ?_
  refine w_ret ⟨(), ?_, h⟩
  have : (flow.tmod sh + sh).tmod sh = flow.tmod sh + sh := Int.tmod_eq_of_lt (by omega) (by omega)
  rw [this]
 ·refine w_bind (lss_f hn) ?_
  with_reducible repeat refine gg ?_
  refine wp_eq (r16_Table_Shard_k1_eq _ _ H) ?_
  refine w_ret ⟨(), ?_, h⟩
  have : (flow.tmod sh + sh).tmod sh = flow.tmod sh := by
   rw [Int.tmod_eq_emod_of_nonneg (by omega), Int.add_emod_right]
   exact Int.emod_eq_of_lt (by omega) (by omega)
  rw [this]
end
theorem placeOf_snoc (w pl k : Int) : ∀ ws : List (Int × Int), placeOf (ws ++ [(w, pl)]) k = if k = w then pl else placeOf ws k := by
 intro ws
 induction ws with
 | nil =>
  simp only [List.nil_append, placeOf, List.any_nil]
  by_cases e : k = w
  ·subst e; simp
  ·have : ¬ w = k := fun q => e q.symm
   simp [e, this]
 | cons p ws ih =>
  simp only [List.cons_append, placeOf, ih, List.any_append, List.any_cons, List.any_nil, Bool.or_false]
  by_cases e : k = w
  ·subst e; simp
  ·have h1 : ((w == k) : Bool) = false := by simpa using fun q => e q.symm
   rw [h1, Bool.or_false]
   simp only [if_neg e]
theorem placeOf_take (ws : List (Int × Int)) (k : Int) (j : Nat) (hj : j < ws.length) : placeOf (ws.take (j + 1)) k = if k = ws[j].1 then ws[j].2 else placeOf (ws.take j) k := by
 rw [List.take_succ_eq_append_getElem hj]
 exact placeOf_snoc ws[j].1 ws[j].2 k (ws.take j)
theorem pairsL_len (ws : List (Int × Int)) : (pairsL ws).length = 2 * ws.length := by
 unfold pairsL
 induction ws with
 | nil => rfl
 | cons p ws ih => rw [List.flatMap_cons, List.length_append, ih]; simp; omega
theorem pairsL_at : ∀ (ws : List (Int × Int)) (j : Nat) (hj : j < ws.length), (pairsL ws)[2 * j]? = some ws[j].1 ∧ (pairsL ws)[2 * j + 1]? = some ws[j].2 := by
 intro ws
 induction ws with
 | nil => intro j hj; simp at hj
 | cons p ws ih =>
  intro j hj
  cases j with
  | zero => exact ⟨rfl, rfl⟩
  | succ j =>
   have h := ih j (by simpa using hj)
   have e : pairsL (p :: ws) = p.1 :: p.2 :: pairsL ws := rfl
   rw [e, show 2 * (j + 1) = 2 * j + 2 from by omega]
   exact h
theorem insPt_at (x : Pt) : ∀ (l : List Pt) (k : Nat), k ≤ l.length → (∀ j p, k ≤ j → l[j]? = some p → x.step < p.step) → (∀ p, 0 < k → l[k - 1]? = some p → p.step ≤ x.step) → insPt x l = l.take k ++ x :: l.drop k := by
 intro l
 induction l with
 | nil => intro k hk _ _; simp at hk; subst hk; rfl
 | cons y l ih =>
  intro k hk h1 h2
  cases k with
  | zero =>
   have hy := h1 0 y (Nat.le_refl _) rfl
   have hno : ¬ (y.step ≤ x.step ∨ (l.any fun z => decide (z.step ≤ x.step)) = true) := by
    rintro (h | h)
    ·omega
    ·obtain ⟨z, hz, hzs⟩ := List.any_eq_true.1 h
     obtain ⟨j, hj⟩ := List.mem_iff_getElem?.1 hz
     have := h1 (j + 1) z (by omega) (by simpa using hj)
     have hzs : z.step ≤ x.step := by simpa using hzs
     omega
   rw [insPt, if_neg hno]
   rfl
  | succ k =>
   have hyes : y.step ≤ x.step ∨ (l.any fun z => decide (z.step ≤ x.step)) = true := by
    cases k with
    | zero => exact .inl (h2 y (by omega) rfl)
    | succ k =>
     right
     have hkl : k < l.length := by simp at hk; omega
     rw [List.any_eq_true]
     refine ⟨l[k], List.getElem_mem hkl, ?_⟩
     have := h2 l[k] (by omega) (by simp [hkl])
     simpa using this
   rw [insPt, if_pos hyes, ih k (by simpa using hk) (fun j p hj hp => h1 (j + 1) p (by omega) (by simpa using hp)) (fun p hk0 hp => h2 p (by omega) (by
    rw [show k + 1 - 1 = (k - 1) + 1 from by omega]; simpa using hp))]
   rfl
theorem byStep_snoc (l : List Pt) (x : Pt) : byStep (l ++ [x]) = insPt x (byStep l) := by
 unfold byStep
 rw [List.foldl_append]; rfl
theorem insPt_len (x : Pt) : ∀ l : List Pt, (insPt x l).length = l.length + 1 := by
 intro l
 induction l with
 | nil => rfl
 | cons y l ih => rw [insPt]; split <;> simp [ih]
theorem byStep_len (l : List Pt) : (byStep l).length = l.length := by
 have : ∀ (l acc : List Pt), (l.foldl (fun acc x => insPt x acc) acc).length = acc.length + l.length := by
  intro l
  induction l with
  | nil => intro acc; rfl
  | cons x l ih => intro acc; rw [List.foldl_cons, ih, insPt_len]; simp; omega
 have h := this l []
 simpa [byStep] using h
theorem app_nil (e b : Nat) (he : 0 < e) (H : AH) : pApp e b (.slice none 0 0) (.slice none 0 0) H = some (.slice none 0 0, H) := by
 unfold pApp
 have : pRow e (.slice none 0 0) H = some (0, []) := by simp [pRow]
 rw [this]
 simp [he]
theorem ts_cel {α : Type} {P R : SP} {H : AH} {e : Nat} {enc : α → List Value} {l : List α} {s : Value} (h : Holds P H) [f : Ts P s α e enc l R] : s.cells.toList = [s] ∧ [s].all Value.oneCell' = true := by
 rcases ts_open h (enc := enc) (s := s) with ⟨rfl, _, _⟩ | ⟨bb, rfl, _⟩ <;> exact ⟨rfl, rfl⟩
theorem ts_slice {α : Type} {P R : SP} {H : AH} {e : Nat} {enc : α → List Value} {l : List α} {s : Value} {lo hi : Option Value} {a b : Nat} (h : Holds P H) [f : Ts P s α e enc l R] [E : Enc enc e] (hlo : (lo = none ∧ a = 0) ∨ ∃ k, lo = some (.int k (a : Int)))
  (hhi : (hi = none ∧ b = l.length) ∨ ∃ k, hi = some (.int k (b : Int))) (h1 : a ≤ b) (h2 : b ≤ l.length) : ∃ s', pSlice e s lo hi = some s' ∧ Rd P s' e enc ((l.take b).drop a) := by
 haveI : Rd P s e enc l := by rw [f.eq]; infer_instance
 by_cases h0 : 0 < l.length
 ·exact rd_slice h hlo hhi h1 h2 h0
 ·have hl : l = [] := List.eq_nil_of_length_eq_zero (by omega)
  subst hl
  have hb0 : b = 0 := by simpa using h2
  subst hb0
  have ha0 : a = 0 := by omega
  subst ha0
  have hpos := E.pos
  have rd0 : ∀ s', (∃ a c, s' = .slice a 0 c ∧ (a = none → c = 0) ∧ (∀ x, a = some x → ∃ b o, x = ⟨b, o, none⟩)) → Rd P s' e enc (([] : List α).take 0 |>.drop 0) := by
   rintro s' ⟨a, c, rfl, q1, q2⟩
   exact ⟨fun {H'} _ => ⟨by simp, .inl ⟨a, c, rfl, rfl, q1, q2⟩⟩⟩
  rcases ts_open h (enc := enc) (s := s) with ⟨rfl, _, _⟩ | ⟨bb, rfl, _⟩
  ·refine ⟨.slice none 0 0, ?_, rd0 _ ⟨none, 0, rfl, fun _ => rfl, fun x hx => (by cases hx)⟩⟩
   rcases hlo with ⟨rfl, _⟩ | ⟨k1, rfl⟩ <;> rcases hhi with ⟨rfl, _⟩ | ⟨k2, rfl⟩ <;> simp [pSlice, pInt?]
  ·refine ⟨.slice (some ⟨bb, 0, none⟩) 0 e, ?_, rd0 _ ⟨some ⟨bb, 0, none⟩, e, rfl, fun h => (by cases h), fun x hx => ⟨bb, 0, (Option.some.inj hx).symm⟩⟩⟩
   rcases hlo with ⟨rfl, _⟩ | ⟨k1, rfl⟩ <;> rcases hhi with ⟨rfl, _⟩ | ⟨k2, rfl⟩ <;> simp [pSlice, pInt?, hpos]
abbrev Sta.begin (σ : Sta) (who place : Int) : Sta := { σ with places := fun k => if k = who then some place else σ.places k, μ := { σ.μ with N := σ.μ.N + 1 } }
theorem beginR (p : Nat) (rp : List Nat) (σ : Sta) (who place : Int) : Sp n_parts_Parts_Begin [vp p, vi who, vi place] (partsR p rp σ) (fun _ : Unit => .tuple #[]) (fun _ => partsR p rp (σ.begin who place)) := by
 refine sp_of fun R H h => ?_
 obtain ⟨g, hrp, hg, h0⟩ := partsR_open h
 unfold partsB at h0
 refine wp_of (fun r => parts_Parts_Begin_of _ _ _ H) ?_
 refine w_ld h0 end_nf rfl ?_
 refine w_mset (ek := ekI) who (vi place) h0 fun H1 h1 => ?_
 refine w_ret ⟨(), rfl, ?_⟩
 refine partsR_close g hrp hg ?_
 unfold partsB
 dsimp only
 have e : (fun k => ((if k = who then some place else σ.places k) : Option Int).map fun n => vi n) = fun x => if x = who then some (vi place) else (σ.places x).map fun n => vi n := by
  funext k
  split <;> rfl
 rw [e]
 have h2 := memP_le (V := σ.μ.V) (E := σ.μ.E) (N := σ.μ.N) (N' := σ.μ.N + 1) (by omega) (Holds.fr (A := memP g.m σ.μ) h1)
 exact h2.to
theorem xbegin (p : Nat) (σ : Sta) (who place : Int) (hN : σ.μ.N < 1000000000) : Sp n_r16_Parts_Begin [vp p, vi who, vi place] (partsX p σ) (fun _ : Unit => .tuple #[]) (fun _ => partsX p (σ.begin who place)) := by
 refine sp_of fun R H h => ?_
 obtain ⟨g, ⟨hg1, hg2, hg3⟩, h0⟩ := partsX_open h
 unfold partsXB at h0
 refine wp_of (fun r => r16_Parts_Begin_of _ _ _ H) ?_
 refine w_ld h0 end_nf rfl ?_
 refine w_mkR (cs := [vi who, vi place]) h0 rfl fun b H1 h1 => ?_
 have h2 := ts_back (e := 1) (enc := encI) (l := [who, place]) h1
 refine w_rapp (s := g.wv) (l := pairsL g.ws) (m := [who, place]) h2 ?_ (by omega) fun v H2 h3 => ?_
 ·rw [pairsL_len]; unfold room; simp; omega
 have hc := ts_cel (s := v) (enc := encI) (l := pairsL g.ws ++ [who, place]) h3
 haveI : Cel v [v] := ⟨hc.1⟩
 dsimp only
 refine w_st h3 end_nf rfl hc.2 fun H3 h4 => ?_
 refine w_ret ⟨(), rfl, ?_⟩
 have e2 : pairsL (g.ws ++ [(who, place)]) = pairsL g.ws ++ [who, place] := by simp [pairsL]
 refine partsX_close { g with wv := v, ws := g.ws ++ [(who, place)] } ⟨hg1, fun k => ?_, by simp; omega⟩ ?_
 ·show placeOf (g.ws ++ [(who, place)]) k = _
  rw [placeOf_snoc, hg2]
  show _ = ((if k = who then some place else σ.places k)).getD 0
  split <;> rfl
 unfold partsXB
 dsimp only
 rw [e2]
 have h5 := memX_le (V := σ.μ.V) (E := σ.μ.E) (N := σ.μ.N) (N' := σ.μ.N + 1) (by omega) (Holds.fr (A := memX g.m σ.μ) h4)
 have h6 := inbX_le (L' := σ.μ.N + 1) (by omega) (Holds.fr (A := inbX g.ib g.m σ.c.sh σ.nx σ.μ.N) h5)
 exact h6.to
theorem xnote (p : Nat) (g : XIds) (σ : Sta) (step who code : Int) (hpl : placeOf g.ws who = (σ.places who).getD 0) (hw : g.ws.length < 1000000000) (hp : σ.pts.length < 900000) :
  Sp n_rPN [vp p, vi step, vi who, .agg (retC code).toArray] (partsXB p g σ) (fun _ : Value => .tuple #[]) (fun v => partsXB p { g with pv := v } (σ.note step who code)) := by
 refine sp_of fun R H h => ?_
 refine wp_of (fun r => rPN_of _ _ _ _ H) ?_
 refine w_newC h fun rb H1 h1 => ?_
 refine wp_eq (rPN_k0_eq _ _ _ _ _ H1) ?_
 refine wp_eq (rPN_k35_eq _ _ _ _ _ _ H1) ?_
 have place : ∀ (d j : Nat), j + d = g.ws.length → wp (rPN_k1 (vp p) (vi step) (vi who) (vp rb) (vi (placeOf g.ws who)) H1) (fun v' H' => ∃ x : Value, v' = .tuple #[] ∧ Holds (partsXB p { g with pv := x } (σ.note step who code) * R) H') →
   wp (rPN_k37 (vp p) (vi step) (vi who) (vp rb) (vi (placeOf (g.ws.take j) who)) (vi ((2 * j : Nat) : Int)) H1) (fun v' H' => ∃ x : Value, v' = .tuple #[] ∧ Holds (partsXB p { g with pv := x } (σ.note step who code) * R) H') := by
  have h2 := h1
  unfold partsXB at h2
  intro d
  induction d with
  | zero =>
   intro j hj hk
   refine wp_eq (rPN_k37_eq _ _ _ _ _ _ H1) ?_
   refine w_ld h1 end_nf rfl ?_
   refine w_rlen (s := g.wv) (l := pairsL g.ws) h2 ?_
   rw [pairsL_len]
   refine w_bind (lss_f (by omega)) ?_
   with_reducible repeat refine gg ?_
   refine wp_eq (rPN_e36_0_eq _ _ _ _ _ H1) ?_
   rw [List.take_of_length_le (by omega)]
   exact hk
  | succ d ih =>
   intro j hj hk
   have hjl : j < g.ws.length := by omega
   obtain ⟨a1, a2⟩ := pairsL_at g.ws j hjl
   have hlen := pairsL_len g.ws
   refine wp_eq (rPN_k37_eq _ _ _ _ _ _ H1) ?_
   refine w_ld h1 end_nf rfl ?_
   refine w_rlen (s := g.wv) (l := pairsL g.ws) h2 ?_
   rw [pairsL_len]
   refine w_bind (lss_t (by omega)) ?_
   with_reducible repeat refine gg ?_
   refine wp_eq (rPN_k38_eq _ _ _ _ _ _ H1) ?_
   refine w_ld h1 end_nf rfl ?_
   refine w_rld1 (s := g.wv) (l := pairsL g.ws) (i := 2 * j) (v := vi g.ws[j].1) h2 (by omega) ?_ ?_
   ·rw [List.getElem?_eq_getElem (by omega)] at a1
    rw [Option.some.inj a1]; rfl
   have next : ∀ pl : Int, placeOf (g.ws.take (j + 1)) who = pl → wp (rPN_k39 (vp p) (vi step) (vi who) (vp rb) (vi pl) (vi ((2 * j : Nat) : Int)) H1) (fun v' H' => ∃ x : Value, v' = .tuple #[] ∧ Holds (partsXB p { g with pv := x } (σ.note step who code) * R) H') := by
    intro pl hpl2
    refine wp_eq (rPN_k39_eq _ _ _ _ _ _ H1) ?_
    refine w_bind (bin_add_i (by omega) (by omega)) ?_
    have := ih (j + 1) (by omega) hk
    rw [hpl2] at this
    rw [show ((2 * j : Nat) : Int) + 2 = ((2 * (j + 1) : Nat) : Int) from by omega]
    exact this
   have ht := placeOf_take g.ws who j hjl
   by_cases hwho : g.ws[j].1 = who
   ·refine w_bind (eql_t hwho) ?_
    with_reducible repeat refine gg ?_
    refine w_ld h1 end_nf rfl ?_
    refine w_bind (bin_add_i (by omega) (by omega)) ?_
    rw [show ((2 * j : Nat) : Int) + 1 = ((2 * j + 1 : Nat) : Int) from by omega]
    refine w_rld1 (s := g.wv) (l := pairsL g.ws) (i := 2 * j + 1) (v := vi g.ws[j].2) h2 (by omega) ?_ ?_
    ·rw [List.getElem?_eq_getElem (by omega)] at a2
     rw [Option.some.inj a2]; rfl
    exact next _ (by rw [ht, if_pos hwho.symm])
   ·refine w_bind (eql_f hwho) ?_
    with_reducible repeat refine gg ?_
    exact next _ (by rw [ht, if_neg (fun q => hwho q.symm)])
 refine place g.ws.length 0 (by omega) ?_
 rw [hpl]
 refine wp_eq (rPN_k1_eq _ _ _ _ _ H1) ?_
 refine w_ld h1 end_f0 rfl ?_
 refine wp_eq (show ((pApp 3 24 (.slice none 0 0) (.slice none 0 0) H1).bind _) = _ from by rw [app_nil 3 24 (by omega)]) ?_
 refine w_st h1 end_f0 rfl rfl fun H2 h2 => ?_
 refine w_ld h2 end_nf rfl ?_
 have h2u := h2
 unfold partsXB at h2u
 have hlen := byStep_len σ.pts
 refine w_rlen (s := g.pv) (l := byStep σ.pts) h2u ?_
 refine wp_eq (rPN_k2_eq _ _ _ _ _ _ H2) ?_
 -- behind all that are not behind it
 have put : ∀ k, k ≤ (byStep σ.pts).length → (∀ j p, k ≤ j → (byStep σ.pts)[j]? = some p → step < p.step) → (∀ p, 0 < k → (byStep σ.pts)[k - 1]? = some p → p.step ≤ step) →
   wp (rPN_k3 (vp p) (vi step) (vi who) (vp rb) (vi ((σ.places who).getD 0)) (vi (k : Int)) H2) (fun v' H' => ∃ x : Value, v' = .tuple #[] ∧ Holds (partsXB p { g with pv := x } (σ.note step who code) * R) H') := by
  intro k hk ha hb
  have hins := insPt_at ⟨step, who, (σ.places who).getD 0, code⟩ (byStep σ.pts) k hk ha hb
  refine wp_eq (rPN_k3_eq _ _ _ _ _ _ H2) ?_
  refine w_ld h2 end_nf rfl ?_
  have q1 : Holds (ts 7 Pt.cells g.pv (byStep σ.pts)) H2 := h2u.to
  obtain ⟨s1, e1, r1⟩ := ts_slice (s := g.pv) (l := byStep σ.pts) (lo := none) (hi := some (vi (k : Int))) (a := 0) (b := k) q1 (.inl ⟨rfl, rfl⟩) (.inr ⟨_, rfl⟩) (Nat.zero_le _) hk
  refine w_bind e1 ?_
  have h3 := ts_nil 7 Pt.cells h2u
  refine w_rapp (s := .slice none 0 0) (l := ([] : List Pt)) (m := ((byStep σ.pts).take k).drop 0) h3 ?_ (by omega) fun v3 H3 h4 => ?_
  ·unfold room; simp only [List.length_drop, List.length_take, List.length_nil]; omega
  rw [List.nil_append, List.drop_zero] at h4
  refine w_LdN h4 ?_
  refine w_S ?_
  refine w_R h4 fun b0 H5 h5 => ?_
  refine w_tapp (s := v3) (l := (byStep σ.pts).take k) (⟨step, who, (σ.places who).getD 0, code⟩ : Pt) h5 rfl ?_ (by omega) fun a cc H6 h6 => ?_
  ·unfold room; simp only [List.length_take]; omega
  refine w_ld h6 end_nf rfl ?_
  have q2 : Holds (ts 7 Pt.cells g.pv (byStep σ.pts)) H6 := h6.to
  obtain ⟨s2, e2, r2⟩ := ts_slice (s := g.pv) (l := byStep σ.pts) (lo := some (vi (k : Int))) (hi := none) (a := k) (b := (byStep σ.pts).length) q2 (.inr ⟨_, rfl⟩) (.inl ⟨rfl, rfl⟩) hk (Nat.le_refl _)
  refine w_bind e2 ?_
  refine w_rapp (s := .slice a (((byStep σ.pts).take k).length + 1) cc) (l := (byStep σ.pts).take k ++ [(⟨step, who, (σ.places who).getD 0, code⟩ : Pt)]) (m := ((byStep σ.pts).take (byStep σ.pts).length).drop k) h6 ?_ (by omega) fun v4 H7 h7 => ?_
  ·unfold room; simp only [List.length_drop, List.length_take, List.length_append, List.length_cons, List.length_nil]; omega
  have hc := ts_cel (s := v4) (enc := Pt.cells) (l := ((byStep σ.pts).take k ++ [(⟨step, who, (σ.places who).getD 0, code⟩ : Pt)]) ++ ((byStep σ.pts).take (byStep σ.pts).length).drop k) h7
  haveI : Cel v4 [v4] := ⟨hc.1⟩
  dsimp only
  refine w_st h7 end_nf rfl hc.2 fun H8 h8 => ?_
  refine w_ret ⟨v4, rfl, ?_⟩
  have e3 : byStep (σ.note step who code).pts = ((byStep σ.pts).take k ++ [(⟨step, who, (σ.places who).getD 0, code⟩ : Pt)]) ++ ((byStep σ.pts).take (byStep σ.pts).length).drop k := by
   show byStep (σ.pts ++ [_]) = _
   rw [byStep_snoc, hins, List.take_length]
   simp
  unfold partsXB
  dsimp only
  rw [e3]
  exact h8.to
 have down : ∀ (k : Nat), k ≤ (byStep σ.pts).length → (∀ j p, k ≤ j → (byStep σ.pts)[j]? = some p → step < p.step) →
   wp (rPN_k17 (vp p) (vi step) (vi who) (vp rb) (vi ((σ.places who).getD 0)) (vi (k : Int)) H2) (fun v' H' => ∃ x : Value, v' = .tuple #[] ∧ Holds (partsXB p { g with pv := x } (σ.note step who code) * R) H') := by
  intro k
  induction k with
  | zero =>
   intro hk ha
   refine wp_eq (rPN_k17_eq _ _ _ _ _ _ H2) ?_
   refine w_bind (gtr_f (by omega)) ?_
   with_reducible repeat refine gg ?_
   refine wp_eq (rPN_e16_2_eq _ _ _ _ _ _ H2) ?_
   exact put 0 hk ha (fun p h => absurd h (by omega))
  | succ k ih =>
   intro hk ha
   have hkl : k < (byStep σ.pts).length := by omega
   refine wp_eq (rPN_k17_eq _ _ _ _ _ _ H2) ?_
   refine w_bind (gtr_t (by omega)) ?_
   with_reducible repeat refine gg ?_
   refine w_ld h2 end_nf rfl ?_
   with_reducible repeat refine gg ?_
   refine w_bind (bin_sub_i (by omega) (by omega)) ?_
   rw [show ((k + 1 : Nat) : Int) - 1 = (k : Int) from by omega]
   with_reducible repeat refine gg ?_
   refine w_rldF (s := g.pv) (l := byStep σ.pts) (v := vi ((byStep σ.pts)[k]).step) h2u hkl (by omega) rfl ?_
   with_reducible repeat refine gg ?_
   by_cases hs : step < ((byStep σ.pts)[k]).step
   ·refine w_bind (gtr_t hs) ?_
    with_reducible repeat refine gg ?_
    refine wp_eq (rPN_k18_eq _ _ _ _ _ _ H2) ?_
    refine w_bind (bin_sub_i (by omega) (by omega)) ?_
    rw [show ((k + 1 : Nat) : Int) - 1 = (k : Int) from by omega]
    refine ih (by omega) fun j p hj hp => ?_
    by_cases e : j = k
    ·subst e
     rw [List.getElem?_eq_getElem hkl] at hp
     rw [← Option.some.inj hp]; exact hs
    ·exact ha j p (by omega) hp
   ·refine w_bind (gtr_f hs) ?_
    with_reducible repeat refine gg ?_
    refine wp_eq (rPN_e16_2_eq _ _ _ _ _ _ H2) ?_
    refine put (k + 1) hk ha fun p _ hp => ?_
    rw [show k + 1 - 1 = k from by omega, List.getElem?_eq_getElem hkl] at hp
    rw [← Option.some.inj hp]; omega
 exact down (byStep σ.pts).length (Nat.le_refl _) fun j p hj hp => by
  rw [List.getElem?_eq_none hj] at hp; cases hp
abbrev TP := Nat × Pt
def ltT (a b : TP) : Prop := a.2.step < b.2.step ∨ a.2.step = b.2.step ∧ a.1 < b.1
def Srt (L : List TP) : Prop := L.Pairwise ltT
def Bel (X Y : List TP) : Prop := ∀ x ∈ X, ∀ y ∈ Y, x.1 < y.1
def Asc (L : List TP) : Prop := L.Pairwise fun a b => a.1 < b.1
abbrev pl (L : List TP) : List Pt := L.map fun x : TP => x.2
theorem ltT_le {a b : TP} (h : ltT a b) : a.2.step ≤ b.2.step := by rcases h with h | h <;> omega
theorem srt_append {X Y : List TP} : Srt (X ++ Y) ↔ Srt X ∧ Srt Y ∧ ∀ x ∈ X, ∀ y ∈ Y, ltT x y := List.pairwise_append
theorem srt_cons {x : TP} {Y : List TP} : Srt (x :: Y) ↔ (∀ y ∈ Y, ltT x y) ∧ Srt Y := List.pairwise_cons
theorem srt_nil : Srt [] := List.Pairwise.nil
theorem srt_one (x : TP) : Srt [x] := List.pairwise_singleton _ _
theorem srt_unique : ∀ (L1 L2 : List TP), Srt L1 → Srt L2 → L1.Perm L2 → L1 = L2 := by
 intro L1
 induction L1 with
 | nil => intro L2 _ _ h; exact (List.nil_perm.1 h).symm
 | cons x L1 ih =>
  intro L2 h1 h2 h
  cases L2 with
  | nil => exact absurd h.length_eq (by simp)
  | cons y L2 =>
   have hx : x ∈ y :: L2 := h.mem_iff.1 (List.mem_cons_self ..)
   have hy : y ∈ x :: L1 := h.mem_iff.2 (List.mem_cons_self ..)
   have e : x = y := by
    rcases List.mem_cons.1 hx with e | hx
    ·exact e
    ·rcases List.mem_cons.1 hy with e | hy
     ·exact e.symm
     ·have a1 := (srt_cons.1 h2).1 x hx
      have a2 := (srt_cons.1 h1).1 y hy
      rcases a1 with a1 | a1 <;> rcases a2 with a2 | a2 <;> omega
   subst e
   rw [ih L2 (srt_cons.1 h1).2 (srt_cons.1 h2).2 (h.cons_inv)]
def numb : Nat → List Pt → List TP
 | _, [] => []
 | n, x :: l => (n, x) :: numb (n + 1) l
theorem numb_pl : ∀ (l : List Pt) (n : Nat), pl (numb n l) = l := by
 intro l
 induction l with
 | nil => intro n; rfl
 | cons x l ih => intro n; show x :: pl (numb (n + 1) l) = _; rw [ih]
theorem numb_ge : ∀ (l : List Pt) (n : Nat), ∀ x ∈ numb n l, n ≤ x.1 := by
 intro l
 induction l with
 | nil => intro n x hx; cases hx
 | cons y l ih =>
  intro n x hx
  rcases List.mem_cons.1 hx with e | hx
  ·subst e; exact Nat.le_refl _
  ·have := ih (n + 1) x hx; omega
theorem numb_asc : ∀ (l : List Pt) (n : Nat), Asc (numb n l) := by
 intro l
 induction l with
 | nil => intro n; exact .nil
 | cons x l ih =>
  intro n
  refine List.pairwise_cons.2 ⟨fun y hy => ?_, ih (n + 1)⟩
  have := numb_ge l (n + 1) y hy
  show n < y.1
  omega
theorem numb_snoc : ∀ (l : List Pt) (n : Nat) (x : Pt), numb n (l ++ [x]) = numb n l ++ [(n + l.length, x)] := by
 intro l
 induction l with
 | nil => intro n x; rfl
 | cons y l ih =>
  intro n x
  show (n, y) :: numb (n + 1) (l ++ [x]) = (n, y) :: (numb (n + 1) l ++ _)
  rw [ih, List.length_cons, show n + 1 + l.length = n + (l.length + 1) from by omega]
def insT (x : TP) : List TP → List TP
 | [] => [x]
 | y :: l => if y.2.step ≤ x.2.step ∨ (l.any fun z => decide (z.2.step ≤ x.2.step)) = true then y :: insT x l else x :: y :: l
theorem insT_pl (x : TP) : ∀ L, pl (insT x L) = insPt x.2 (pl L) := by
 intro L
 induction L with
 | nil => rfl
 | cons y L ih =>
  have e : ((pl L).any fun z => decide (z.step ≤ x.2.step)) = L.any fun z => decide (z.2.step ≤ x.2.step) := by rw [List.any_map]; rfl
  show pl (if _ then _ else _) = (if _ then _ else _)
  rw [e]
  split
  ·show y.2 :: pl (insT x L) = _; rw [ih]
  ·rfl
theorem insT_perm (x : TP) : ∀ L, (insT x L).Perm (x :: L) := by
 intro L
 induction L with
 | nil => exact List.Perm.refl _
 | cons y L ih =>
  rw [insT]
  split
  ·exact (ih.cons y).trans (List.Perm.swap x y L)
  ·exact List.Perm.refl _
theorem insT_srt (x : TP) : ∀ L, Srt L → (∀ y ∈ L, y.1 < x.1) → Srt (insT x L) := by
 intro L
 induction L with
 | nil => intro _ _; exact srt_one x
 | cons y L ih =>
  intro hs hb
  obtain ⟨h1, h2⟩ := srt_cons.1 hs
  have hyx := hb y (List.mem_cons_self ..)
  rw [insT]
  split
  ·rename_i hc
   have hle : y.2.step ≤ x.2.step := by
    rcases hc with hc | hc
    ·exact hc
    ·obtain ⟨z, hz, hzs⟩ := List.any_eq_true.1 hc
     have := ltT_le (h1 z hz)
     have hzs : z.2.step ≤ x.2.step := by simpa using hzs
     omega
   refine srt_cons.2 ⟨fun z hz => ?_, ih h2 fun z hz => hb z (List.mem_cons_of_mem _ hz)⟩
   rcases List.mem_cons.1 ((insT_perm x L).mem_iff.1 hz) with e | hz
   ·subst e
    unfold ltT
    omega
   ·exact h1 z hz
  ·rename_i hc
   have hlt : x.2.step < y.2.step := by
    have : ¬ y.2.step ≤ x.2.step := fun q => hc (.inl q)
    omega
   refine srt_cons.2 ⟨fun z hz => ?_, hs⟩
   rcases List.mem_cons.1 hz with e | hz
   ·subst e; exact .inl hlt
   ·have := ltT_le (h1 z hz)
    exact .inl (by omega)
theorem byStep_srt (l : List Pt) : ∃ Z, Srt Z ∧ Z.Perm (numb 0 l) ∧ pl Z = byStep l := by
 have gen : ∀ (r : List Pt), ∃ Z, Srt Z ∧ Z.Perm (numb 0 r.reverse) ∧ pl Z = byStep r.reverse := by
  intro r
  induction r with
  | nil => exact ⟨[], srt_nil, List.Perm.refl _, rfl⟩
  | cons x r ih =>
   obtain ⟨Z, h1, h2, h3⟩ := ih
   rw [List.reverse_cons, numb_snoc, byStep_snoc]
   refine ⟨insT (0 + r.reverse.length, x) Z, insT_srt _ _ h1 fun y hy => ?_, ?_, ?_⟩
   ·have hy := h2.mem_iff.1 hy
    have := numb_asc (r.reverse ++ [x]) 0
    rw [numb_snoc] at this
    exact (List.pairwise_append.1 this).2.2 y hy _ (List.mem_cons_self ..)
   ·refine (insT_perm _ _).trans ?_
    exact (h2.cons _).trans (List.perm_append_comm (l₁ := [_]) (l₂ := numb 0 r.reverse))
   ·rw [insT_pl, h3]
 have := gen l.reverse
 rw [List.reverse_reverse] at this
 exact this
theorem byStep_of {l : List Pt} {Z : List TP} (h1 : Srt Z) (h2 : Z.Perm (numb 0 l)) : pl Z = byStep l := by
 obtain ⟨Z', g1, g2, g3⟩ := byStep_srt l
 rw [srt_unique Z Z' h1 g1 (h2.trans g2.symm), g3]
inductive Chk (bs : Nat) : List TP → Prop
 | last {X : List TP} (h1 : X.length ≤ bs) (h2 : Srt X) : Chk bs X
 | cons {X L : List TP} (h1 : X.length = bs) (h2 : Srt X) (h3 : Bel X L) (h4 : Chk bs L) : Chk bs (X ++ L)
theorem Chk.nil {bs : Nat} : Chk bs [] := .last (by simp) srt_nil
theorem Chk.split {bs : Nat} {L : List TP} (h : Chk bs L) (hl : bs ≤ L.length) : ∃ X L2, L = X ++ L2 ∧ X.length = bs ∧ Srt X ∧ Bel X L2 ∧ Chk bs L2 := by
 cases h with
 | last h1 h2 => exact ⟨L, [], by simp, by omega, h2, (fun x _ y hy => by cases hy), .nil⟩
 | @cons X L' h1 h2 h3 h4 => exact ⟨X, L', rfl, h1, h2, h3, h4⟩
theorem Chk.short {bs : Nat} {L : List TP} (h : Chk bs L) (hl : L.length ≤ bs) : Srt L := by
 cases h with
 | last h1 h2 => exact h2
 | @cons X L' h1 h2 h3 h4 =>
  have : L'.length = 0 := by rw [List.length_append] at hl; omega
  have : L' = [] := List.eq_nil_of_length_eq_zero this
  subst this
  rw [List.append_nil]; exact h2
theorem Bel.left {X X2 Y : List TP} (h : Bel (X ++ X2) Y) : Bel X Y := fun x hx y hy => h x (List.mem_append_left _ hx) y hy
theorem Bel.perm {X X' Y Y' : List TP} (h : Bel X Y) (hx : X'.Perm X) (hy : Y'.Perm Y) : Bel X' Y' := fun x h1 y h2 => h x (hx.mem_iff.1 h1) y (hy.mem_iff.1 h2)
theorem Bel.sub {X X' Y Y' : List TP} (h : Bel X Y) (hx : ∀ x ∈ X', x ∈ X) (hy : ∀ y ∈ Y', y ∈ Y) : Bel X' Y' := fun x h1 y h2 => h x (hx x h1) y (hy y h2)
theorem asc_append {X Y : List TP} : Asc (X ++ Y) ↔ Asc X ∧ Asc Y ∧ Bel X Y := List.pairwise_append
theorem wp_imp {x : OV} {Q Q' : Value → AH → Prop} (f : ∀ v H, Q v H → Q' v H) (k : wp x Q) : wp x Q' := let ⟨v, H, e, q⟩ := k; ⟨v, H, e, f _ _ q⟩
theorem slices_clone_pts (s : Value) (l : List Pt) (hl : l.length ≤ 1000000) : Sp n_sCp [s] (ts 7 Pt.cells s l) (fun v : Value => v) (fun v => ts 7 Pt.cells v l * ts 7 Pt.cells s l) := by
 refine sp_of fun R H h => ?_
 refine wp_of (fun r => sCp_of _ H) ?_
 rcases ts_open (s := s) (l := l) h with ⟨rfl, rfl, h0⟩ | ⟨b, rfl, h0⟩
 ·refine w_bind (v := vb true) rfl ?_
  with_reducible repeat refine gg ?_
  refine w_ret ⟨_, rfl, ?_⟩
  have h1 := ts_nil 7 Pt.cells h
  exact h1.to
 ·refine w_bind (v := vb false) rfl ?_
  with_reducible repeat refine gg ?_
  refine w_mkR (cs := []) h rfl fun b1 H1 h1 => ?_
  have h2 : Holds (ts 7 Pt.cells (vs b1 0 7) [] * (ts 7 Pt.cells (vs b l.length 7) l * R)) H1 := ts_back (enc := Pt.cells) (l := []) h1
  refine w_rapp (x := vs b l.length 7) (m := l) h2 (by unfold room; simp; omega) (by omega) fun v H2 h3 => ?_
  rw [List.nil_append] at h3
  exact w_ret ⟨v, rfl, h3.to⟩
theorem points_loop (x2 s : Value) (l : List Pt) (hl : l.length ≤ 1000000) {P R : SP} : ∀ (d i : Nat) (o : Value) (H : AH), i + d = l.length → Holds (ts 7 Pt.cells o (l.take i) * (ts 7 Pt.cells s l * P) * R) H →
  wp (pPP_k4 x2 o s (vi l.length) (vi i) H) fun v' H' => ∃ v : Value, v' = v ∧ Holds (ts 7 Pt.cells v l * (ts 7 Pt.cells s l * P) * R) H' := by
 intro d
 induction d with
 | zero =>
  intro i o H hi h
  refine wp_eq (pPP_k4_eq _ _ _ _ _ H) ?_
  refine w_bind (lss_f (by omega)) ?_
  with_reducible repeat refine gg ?_
  refine wp_eq (pPP_e3_0_eq _ _ H) ?_
  refine wp_eq (pPP_k1_eq _ _ H) ?_
  rw [List.take_of_length_le (by omega)] at h
  exact w_ret ⟨_, rfl, h⟩
 | succ d ih =>
  intro i o H hi h
  have hil : i < l.length := by omega
  refine wp_eq (pPP_k4_eq _ _ _ _ _ H) ?_
  refine w_bind (lss_t (by omega)) ?_
  with_reducible repeat refine gg ?_
  refine wp_eq (pPP_k5_eq _ _ _ _ _ H) ?_
  refine w_tldN (s := s) (l := l) h hil ?_
  refine w_new h fun b H1 h1 => ?_
  refine w_St h1 rfl rfl fun H2 h2 => ?_
  refine w_ldN h2 end_f0 ?_
  refine w_call h2 (parts_own_law l[i].e) fun _ H3 h3 => ?_
  refine w_st h3 end_f0 rfl rfl fun H4 h4 => ?_
  refine w_LdN h4 ?_
  refine w_R h4 fun b0 H5 h5 => ?_
  refine w_tapp (s := o) (l := l.take i) (l[i] : Pt) h5 rfl ?_ (by omega) fun a c H6 h6 => ?_
  ·unfold room; simp only [List.length_take]; omega
  refine wp_eq (pPP_k6_eq _ _ _ _ _ H6) ?_
  refine w_bind (bin_add_i (by omega) (by omega)) ?_
  refine ih (i + 1) _ H6 (by omega) ?_
  rw [List.take_succ_eq_append_getElem hil]
  exact h6.to
theorem help_plain_nil : Sp n_help_Plainapi_Packet [.slice none 0 0, .slice none 0 0] emp (fun _ : Unit => vb true) (fun _ => emp) := by
 have same : ∀ f : Value, Sp n_hS_Packet [.slice none 0 0, .slice none 0 0, f] emp (fun _ : Unit => vb true) (fun _ => emp) := by
  intro f
  refine sp_of fun R H h => ?_
  refine wp_of (fun r => hS_Packet_of _ _ _ H) ?_
  refine w_len ?_
  refine w_len ?_
  refine w_bind (neq_f rfl) ?_
  with_reducible repeat refine gg ?_
  refine wp_eq (hS_Packet_k0_eq _ _ _ _ H) ?_
  refine wp_eq (hS_Packet_k2_eq _ _ _ _ _ H) ?_
  refine wp_eq (hS_Packet_k4_eq _ _ _ _ _ H) ?_
  refine w_len ?_
  refine w_bind (lss_f (by omega)) ?_
  with_reducible repeat refine gg ?_
  refine wp_eq (hS_Packet_e3_0_eq _ H) ?_
  refine wp_eq (hS_Packet_k1_eq _ H) ?_
  exact w_ret ⟨(), rfl, h⟩
 refine sp_of fun R H h => ?_
 refine wp_of (fun r => help_Plainapi_Packet_of _ _ H) ?_
 refine w_call h (same _) fun _ H1 h1 => ?_
 exact w_ret ⟨(), rfl, h1.to⟩
theorem help_ret (e : Int) : Sp n_help_Ret [.agg (retC e).toArray, .agg (retC e).toArray] emp (fun _ : Unit => vb true) (fun _ => emp) := by
 refine sp_of fun R H h => ?_
 refine wp_of (fun r => help_Ret_of _ _ H) ?_
 refine w_newC h fun b1 H1 h1 => ?_
 refine w_newC h1 fun b2 H2 h2 => ?_
 refine w_ld h2 end_f0 rfl ?_
 refine w_ld h2 end_f0 rfl ?_
 refine w_bind (eql_t rfl) ?_
 with_reducible repeat refine gg ?_
 refine w_ld h2 end_f0 rfl ?_
 with_reducible repeat refine gg ?_
 refine w_ld h2 end_f0 rfl ?_
 with_reducible repeat refine gg ?_
 refine w_bind (eql_t rfl) ?_
 with_reducible repeat refine gg ?_
 refine w_ld h2 end_f0 rfl ?_
 with_reducible repeat refine gg ?_
 refine w_ld h2 end_f0 rfl ?_
 with_reducible repeat refine gg ?_
 refine w_bind (eql_t rfl) ?_
 with_reducible repeat refine gg ?_
 refine w_ld h2 end_f0 rfl ?_
 with_reducible repeat refine gg ?_
 refine w_ld h2 end_f0 rfl ?_
 with_reducible repeat refine gg ?_
 refine w_call h2 help_plain_nil fun _ H3 h3 => ?_
 with_reducible repeat refine gg ?_
 exact w_ret ⟨(), rfl, h3.to⟩
theorem help_point (x : Pt) : Sp n_help_Point [.agg (Pt.cells x).toArray, .agg (Pt.cells x).toArray] emp (fun _ : Unit => vb true) (fun _ => emp) := by
 refine sp_of fun R H h => ?_
 refine wp_of (fun r => help_Point_of _ _ H) ?_
 refine w_newC h fun b1 H1 h1 => ?_
 refine w_newC h1 fun b2 H2 h2 => ?_
 refine w_ld h2 end_f0 rfl ?_
 refine w_ld h2 end_f0 rfl ?_
 refine w_bind (eql_t rfl) ?_
 with_reducible repeat refine gg ?_
 refine w_ld h2 end_f0 rfl ?_
 with_reducible repeat refine gg ?_
 refine w_ld h2 end_f0 rfl ?_
 with_reducible repeat refine gg ?_
 refine w_bind (eql_t rfl) ?_
 with_reducible repeat refine gg ?_
 refine w_ld h2 end_f0 rfl ?_
 with_reducible repeat refine gg ?_
 refine w_ld h2 end_f0 rfl ?_
 with_reducible repeat refine gg ?_
 refine w_bind (eql_t rfl) ?_
 with_reducible repeat refine gg ?_
 refine w_ldN h2 end_f0 ?_
 with_reducible repeat refine gg ?_
 refine w_ldN h2 end_f0 ?_
 with_reducible repeat refine gg ?_
 refine w_call h2 (help_ret x.e) fun _ H3 h3 => ?_
 with_reducible repeat refine gg ?_
 exact w_ret ⟨(), rfl, h3.to⟩
section
variable {α : Type}
theorem at_mid (A B : List α) (x : α) : (A ++ x :: B)[A.length]? = some x := by simp
theorem at_mid' {A B : List α} {x : α} {i : Nat} (h : i = A.length) : (A ++ x :: B)[i]? = some x := by subst h; exact at_mid A B x
theorem set_mid (A B : List α) (x y : α) : (A ++ x :: B).set A.length y = A ++ y :: B := by simp
theorem set_mid' {A B : List α} {x y : α} {i : Nat} (h : i = A.length) : (A ++ x :: B).set i y = A ++ y :: B := by subst h; exact set_mid A B x y
theorem swap2 {A B C : List α} {x y : α} {i j : Nat} (hi : i = A.length) (hj : j = A.length + 1 + B.length) : ((A ++ x :: (B ++ y :: C)).set i y).set j x = A ++ y :: (B ++ x :: C) := by
 rw [set_mid' hi]
 have e : A ++ y :: (B ++ y :: C) = (A ++ y :: B) ++ y :: C := by simp
 rw [e, set_mid' (by simp; omega)]
 simp
theorem swap2' {A B C : List α} {x y : α} {i j : Nat} (hi : i = A.length) (hj : j = A.length + 1 + B.length) : ((A ++ x :: (B ++ y :: C)).set j x).set i y = A ++ y :: (B ++ x :: C) := by
 have e : A ++ x :: (B ++ y :: C) = (A ++ x :: B) ++ y :: C := by simp
 rw [e, set_mid' (by simp; omega)]
 have e2 : (A ++ x :: B) ++ x :: C = A ++ x :: (B ++ x :: C) := by simp
 rw [e2, set_mid' hi]
theorem at2 {A B C : List α} {x y : α} {j : Nat} (hj : j = A.length + 1 + B.length) : (A ++ x :: (B ++ y :: C))[j]? = some y := by
 have e : A ++ x :: (B ++ y :: C) = (A ++ x :: B) ++ y :: C := by simp
 rw [e]
 exact at_mid' (by simp; omega)
end
section
variable {P R : SP} {H : AH} {s : Value} {l : List Pt} {Q : Value → AH → Prop}
theorem w_tat {i : Nat} {ii : Int} {x : Pt} {k : Value → OV} (hi : ii = i) (h : Holds P H) [f : Ts P s Pt 7 Pt.cells l R] (hx : l[i]? = some x) (hk : wp (k (.agg (Pt.cells x).toArray)) Q) : wp (ldN 7 [.i 7 (vi ii)] s H k) Q := by
 subst hi
 obtain ⟨hil, e⟩ := List.getElem?_eq_some_iff.1 hx
 refine w_tldN (s := s) (l := l) (i := i) h hil ?_
 rw [e]
 exact hk
theorem w_tput {i : Nat} {ii : Int} {x : Pt} {k : AH → OV} (hi : ii = i) (h : Holds P H) [f : Ts P s Pt 7 Pt.cells l R] (hl : i < l.length) (hk : ∀ H', Holds (ts 7 Pt.cells s (l.set i x) * R) H' → wp (k H') Q) : wp (st 7 [.i 7 (vi ii)] s (.agg (Pt.cells x).toArray) H k) Q := by
 subst hi
 exact w_tst (s := s) (l := l) (i := i) x h hl (.inl ⟨rfl, rfl⟩) rfl (by omega) rfl rfl fun H' h' => hk H' h'.to
theorem w_swap {i j : Nat} {ii jj : Int} {x y : Pt} {k : AH → OV} (hi : ii = i) (hj : jj = j) (h : Holds P H) [f : Ts P s Pt 7 Pt.cells l R] (hx : l[i]? = some x) (hy : l[j]? = some y)
  (hk : ∀ H', Holds (ts 7 Pt.cells s ((l.set i y).set j x) * R) H' → wp (k H') Q) :
  wp (ldN 7 [.i 7 (vi jj)] s H fun v16 => ldN 7 [.i 7 (vi ii)] s H fun v17 => st 7 [.i 7 (vi ii)] s v16 H fun H18 => st 7 [.i 7 (vi jj)] s v17 H18 k) Q := by
 obtain ⟨hil, _⟩ := List.getElem?_eq_some_iff.1 hx
 obtain ⟨hjl, _⟩ := List.getElem?_eq_some_iff.1 hy
 refine w_tat hj h hy ?_
 refine w_tat hi h hx ?_
 refine w_tput hi h hil fun H1 h1 => ?_
 refine w_tput hj h1 (by rw [List.length_set]; exact hjl) fun H2 h2 => ?_
 exact hk H2 h2.to
end
theorem shr1 {cl : TCls} {w : Nat} : pBin cl .shr (vu w) (vw 1) = some (vu (w / 2)) := by
 have := bin_shr_u (cl := cl) (a := w) (k := .u64) (n := 1) (by omega)
 simpa using this
theorem w_mid {i j : Nat} {ii jj : Int} {k : Value → OV} {Q : Value → AH → Prop} (hi : ii = i) (hj : jj = j) (hb : i + j < 4611686018427387904) (hk : wp (k (vi (((i + j) / 2 : Nat) : Int))) Q) :
  wp ((pBin .other .add (vi ii) (vi jj)).bind fun a => (pConv (some .u64) a).bind fun b => (pBin .other .shr b (vw 1)).bind fun c => (pConv (some .i64) c).bind k) Q := by
 subst hi hj
 refine w_bind (bin_add_i (by omega) (by omega)) ?_
 refine w_bind (conv_ui (by omega) (by omega)) ?_
 rw [show ((i : Int) + (j : Int)).toNat = i + j from by omega]
 refine w_bind (shr1) ?_
 refine w_bind (conv_iu (by omega)) ?_
 exact hk
def cmpP (a b : Pt) : Int := if a.step < b.step then -1 else if b.step < a.step then 1 else 0
theorem cmp_int (a b : Int) : Sp n_cmp_Compareint [vi a, vi b] emp (fun _ : Unit => vi (if a < b then -1 else if b < a then 1 else 0)) (fun _ => emp) := by
 have nan : ∀ x : Int, Sp n_cmp_isNaNint [vi x] emp (fun _ : Unit => vb false) (fun _ => emp) := by
  intro x
  refine sp_of fun R H h => ?_
  refine wp_of (fun r => cmp_isNaNint_of _ H) ?_
  refine w_bind (neq_f rfl) ?_
  exact w_ret ⟨(), rfl, h⟩
 refine sp_of fun R H h => ?_
 refine wp_of (fun r => cmp_Compareint_of _ _ H) ?_
 refine w_call h (nan a) fun _ H1 h1 => ?_
 refine w_call h1 (nan b) fun _ H2 h2 => ?_
 refine w_cond_f ?_
 refine w_cond_f ?_
 by_cases h1 : a < b
 ·refine w_bind (lss_t h1) ?_
  with_reducible repeat refine gg ?_
  exact w_ret ⟨(), by rw [if_pos h1], h2.to⟩
 ·refine w_bind (lss_f h1) ?_
  with_reducible repeat refine gg ?_
  by_cases h3 : b < a
  ·refine w_bind (gtr_t h3) ?_
   with_reducible repeat refine gg ?_
   exact w_ret ⟨(), by rw [if_neg h1, if_pos h3], h2.to⟩
  ·refine w_bind (gtr_f h3) ?_
   with_reducible repeat refine gg ?_
   exact w_ret ⟨(), by rw [if_neg h1, if_neg h3], h2.to⟩
theorem order_law (a b : Pt) : Sp n_parts_point_order [.agg (Pt.cells a).toArray, .agg (Pt.cells b).toArray] emp (fun _ : Unit => vi (cmpP a b)) (fun _ => emp) := by
 refine sp_of fun R H h => ?_
 refine wp_of (fun r => parts_point_order_of _ _ H) ?_
 refine w_newC h fun b1 H1 h1 => ?_
 refine w_newC h1 fun b2 H2 h2 => ?_
 refine w_ld h2 end_f0 rfl ?_
 refine w_ld h2 end_f0 rfl ?_
 refine w_call h2 (cmp_int a.step b.step) fun _ H3 h3 => ?_
 exact w_ret ⟨(), rfl, h3.to⟩
theorem cmpP_lt {a b : Pt} (h : a.step < b.step) : pBin .other .lss (vi (cmpP a b)) (vi 0) = some (vb true) := by
 rw [cmpP, if_pos h]; exact lss_t (by omega)
theorem cmpP_ge {a b : Pt} (h : ¬ a.step < b.step) : pBin .other .lss (vi (cmpP a b)) (vi 0) = some (vb false) := by
 rw [cmpP, if_neg h]
 split <;> exact lss_f (by omega)
abbrev ordV : Value := .func (.func n_parts_point_order) #[] #[]
theorem w_ord {P : SP} {H : AH} {Q : Value → AH → Prop} {a b : Pt} {k : Value × AH → OV} (h : Holds P H) (hk : ∀ H', Holds P H' → wp (k (vi (cmpP a b), H')) Q) :
  wp (((pCallee ordV [.agg (Pt.cells a).toArray, .agg (Pt.cells b).toArray]).bind fun c => FF c.1 c.2 H).bind k) Q := by
 refine wp_eq (show ((pCallee ordV [.agg (Pt.cells a).toArray, .agg (Pt.cells b).toArray]).bind fun c => FF c.1 c.2 H).bind k = (FF n_parts_point_order [.agg (Pt.cells a).toArray, .agg (Pt.cells b).toArray] H).bind k from rfl) ?_
 refine w_call h (order_law a b) fun _ H1 h1 => ?_
 exact hk H1 h1.to
theorem swap_range (s f : Value) (P M : List Pt) (Q : List Pt) : ∀ (X Y : List Pt), X.length = Y.length → P.length + X.length + M.length + Y.length < 4000000 →
  Sp n_sSw [s, vi ((P.length : Nat) : Int), vi ((P.length + X.length + M.length : Nat) : Int), vi ((X.length : Nat) : Int), f] (ts 7 Pt.cells s (P ++ (X ++ (M ++ (Y ++ Q))))) (fun _ : Unit => .tuple #[]) (fun _ => ts 7 Pt.cells s (P ++ (Y ++ (M ++ (X ++ Q))))) := by
 intro X Y hXY hb
 refine sp_of fun R H h => ?_
 refine wp_of (fun r => sSw_of _ _ _ _ _ H) ?_
 refine wp_eq (sSw_k0_eq ..) ?_
 have loop : ∀ (X2 Y2 X1 Y1 : List Pt) (H : AH), X1 ++ X2 = X → Y1 ++ Y2 = Y → X1.length = Y1.length → Holds (ts 7 Pt.cells s ((P ++ Y1) ++ (X2 ++ (M ++ (X1 ++ (Y2 ++ Q))))) * R) H →
   wp (sSw_k2 s (vi ((P.length : Nat) : Int)) (vi ((P.length + X.length + M.length : Nat) : Int)) (vi ((X.length : Nat) : Int)) (vi ((X1.length : Nat) : Int)) H) fun v' H' => ∃ x : Unit, v' = .tuple #[] ∧ Holds (ts 7 Pt.cells s (P ++ (Y ++ (M ++ (X ++ Q)))) * R) H' := by
  intro X2
  induction X2 with
  | nil =>
   intro Y2 X1 Y1 H hX hY hl hh
   rw [List.append_nil] at hX
   subst hX
   have : Y2 = [] := by
    have := congrArg List.length hY
    rw [List.length_append] at this
    exact List.eq_nil_of_length_eq_zero (by omega)
   subst this
   rw [List.append_nil] at hY
   subst hY
   refine wp_eq (sSw_k2_eq ..) ?_
   refine w_bind (lss_f (by omega)) ?_
   with_reducible repeat refine gg ?_
   refine wp_eq (sSw_e1_0_eq ..) ?_
   refine w_ret ⟨(), rfl, ?_⟩
   simpa using hh
  | cons x X2 ih =>
   intro Y2 X1 Y1 H hX hY hl hh
   have hxl := congrArg List.length hX
   have hyl := congrArg List.length hY
   simp only [List.length_append, List.length_cons] at hxl hyl
   cases Y2 with
   | nil => simp only [List.length_nil] at hyl; omega
   | cons y Y2 =>
    simp only [List.length_cons] at hyl
    refine wp_eq (sSw_k2_eq ..) ?_
    refine w_bind (lss_t (by omega)) ?_
    with_reducible repeat refine gg ?_
    refine wp_eq (sSw_k3_eq ..) ?_
    refine w_bind (bin_add_i (by omega) (by omega)) ?_
    refine w_bind (bin_add_i (by omega) (by omega)) ?_
    refine w_bind (bin_add_i (by omega) (by omega)) ?_
    have e : (P ++ Y1) ++ ((x :: X2) ++ (M ++ (X1 ++ ((y :: Y2) ++ Q)))) = (P ++ Y1) ++ x :: ((X2 ++ (M ++ X1)) ++ y :: (Y2 ++ Q)) := by simp
    rw [e] at hh
    refine w_tat (i := P.length + X.length + M.length + X1.length) (by omega) hh (at2 (by simp; omega)) ?_
    refine w_bind (bin_add_i (by omega) (by omega)) ?_
    refine w_tat (i := P.length + X1.length) (by omega) hh (at_mid' (by simp; omega)) ?_
    refine w_tput (i := P.length + X1.length) (by omega) hh (by simp; omega) fun H1 h1 => ?_
    refine w_tput (i := P.length + X.length + M.length + X1.length) (by omega) h1 (by simp; omega) fun H2 h2 => ?_
    rw [swap2 (by simp; omega) (by simp; omega)] at h2
    refine wp_eq (sSw_k4_eq ..) ?_
    refine w_bind (bin_add_i (by omega) (by omega)) ?_
    have := ih Y2 (X1 ++ [x]) (Y1 ++ [y]) H2 (by rw [← hX]; simp) (by rw [← hY]; simp) (by simp; exact hl) (by
     have e2 : (P ++ Y1) ++ y :: ((X2 ++ (M ++ X1)) ++ x :: (Y2 ++ Q)) = (P ++ (Y1 ++ [y])) ++ (X2 ++ (M ++ ((X1 ++ [x]) ++ (Y2 ++ Q)))) := by simp
     rw [e2] at h2
     exact h2.to)
    rw [List.length_append, List.length_singleton] at this
    rw [show ((X1.length : Nat) : Int) + 1 = ((X1.length + 1 : Nat) : Int) from by omega]
    exact this
 exact loop X Y [] [] H rfl rfl rfl (by simpa using h)
theorem rotate (s f : Value) : ∀ (N : Nat) (P U V Q : List Pt), U.length + V.length ≤ N → 1 ≤ U.length → 1 ≤ V.length → P.length + U.length + V.length < 1000000 → ∀ (R : SP) (H : AH), Holds (ts 7 Pt.cells s (P ++ (U ++ (V ++ Q))) * R) H →
  wp (sRo_k5 s (vi ((P.length + U.length : Nat) : Int)) f (vi ((U.length : Nat) : Int)) (vi ((V.length : Nat) : Int)) H) fun v' H' => ∃ x : Unit, v' = .tuple #[] ∧ Holds (ts 7 Pt.cells s (P ++ (V ++ (U ++ Q))) * R) H' := by
 intro N
 induction N with
 | zero => intro P U V Q hN hU hV; omega
 | succ N ih =>
  intro P U V Q hN hU hV hb R H h
  refine wp_eq (sRo_k5_eq ..) ?_
  by_cases hij : U.length = V.length
  ·refine w_bind (neq_f (by omega)) ?_
   with_reducible repeat refine gg ?_
   refine wp_eq (sRo_e4_0_eq ..) ?_
   refine wp_eq (sRo_k1_eq ..) ?_
   refine w_bind (bin_sub_i (by omega) (by omega)) ?_
   rw [show ((P.length + U.length : Nat) : Int) - ((U.length : Nat) : Int) = ((P.length : Nat) : Int) from by omega]
   have sw := swap_range s f P [] Q U V hij (by simp; omega)
   simp only [List.length_nil, Nat.add_zero, List.nil_append] at sw
   refine w_call h sw fun _ H1 h1 => ?_
   exact w_ret ⟨(), rfl, h1.to⟩
  ·refine w_bind (neq_t (by omega)) ?_
   with_reducible repeat refine gg ?_
   refine wp_eq (sRo_k6_eq ..) ?_
   by_cases hgt : V.length < U.length
   ·refine w_bind (gtr_t (by omega)) ?_
    with_reducible repeat refine gg ?_
    refine w_bind (bin_sub_i (by omega) (by omega)) ?_
    rw [show ((P.length + U.length : Nat) : Int) - ((U.length : Nat) : Int) = ((P.length : Nat) : Int) from by omega]
    have hl1 : (U.take V.length).length = V.length := by rw [List.length_take]; omega
    have hl2 : (U.drop V.length).length = U.length - V.length := List.length_drop
    have eU : U.take V.length ++ U.drop V.length = U := List.take_append_drop ..
    have sw := swap_range s f P (U.drop V.length) Q (U.take V.length) V hl1 (by omega)
    rw [hl1, hl2, show P.length + V.length + (U.length - V.length) = P.length + U.length from by omega] at sw
    have e1 : P ++ (U ++ (V ++ Q)) = P ++ (U.take V.length ++ (U.drop V.length ++ (V ++ Q))) := by rw [← List.append_assoc (U.take V.length), eU]
    rw [e1] at h
    refine w_call h sw fun _ H1 h1 => ?_
    refine w_bind (bin_sub_i (by omega) (by omega)) ?_
    have := ih (P ++ V) (U.drop V.length) (U.take V.length) Q (by omega) (by omega) (by omega) (by rw [List.length_append]; omega) R H1 (by
     rw [List.append_assoc]
     exact h1.to)
    rw [hl1, hl2, List.length_append, show P.length + V.length + (U.length - V.length) = P.length + U.length from by omega] at this
    rw [show ((U.length : Nat) : Int) - ((V.length : Nat) : Int) = ((U.length - V.length : Nat) : Int) from by omega]
    refine wp_imp ?_ this
    rintro v' H' ⟨_, e, h2⟩
    refine ⟨(), e, ?_⟩
    have e2 : (P ++ V) ++ (U.take V.length ++ (U.drop V.length ++ Q)) = P ++ (V ++ (U ++ Q)) := by rw [← List.append_assoc (U.take V.length), eU, List.append_assoc]
    rw [e2] at h2
    exact h2
   ·refine w_bind (gtr_f (by omega)) ?_
    with_reducible repeat refine gg ?_
    refine w_bind (bin_sub_i (by omega) (by omega)) ?_
    rw [show ((P.length + U.length : Nat) : Int) - ((U.length : Nat) : Int) = ((P.length : Nat) : Int) from by omega]
    refine w_bind (bin_add_i (by omega) (by omega)) ?_
    refine w_bind (bin_sub_i (by omega) (by omega)) ?_
    have hl1 : (V.take (V.length - U.length)).length = V.length - U.length := by rw [List.length_take]; omega
    have hl2 : (V.drop (V.length - U.length)).length = U.length := by rw [List.length_drop]; omega
    have eV : V.take (V.length - U.length) ++ V.drop (V.length - U.length) = V := List.take_append_drop ..
    have sw := swap_range s f P (V.take (V.length - U.length)) Q U (V.drop (V.length - U.length)) hl2.symm (by omega)
    rw [hl1] at sw
    rw [show ((P.length + U.length : Nat) : Int) + ((V.length : Nat) : Int) - ((U.length : Nat) : Int) = ((P.length + U.length + (V.length - U.length) : Nat) : Int) from by omega]
    have e1 : P ++ (U ++ (V ++ Q)) = P ++ (U ++ (V.take (V.length - U.length) ++ (V.drop (V.length - U.length) ++ Q))) := by rw [← List.append_assoc (V.take (V.length - U.length)), eV]
    rw [e1] at h
    refine w_call h sw fun _ H1 h1 => ?_
    refine w_bind (bin_sub_i (by omega) (by omega)) ?_
    have := ih P (V.drop (V.length - U.length)) (V.take (V.length - U.length)) (U ++ Q) (by omega) (by omega) (by omega) (by omega) R H1 h1.to
    rw [hl1, hl2] at this
    rw [show ((V.length : Nat) : Int) - ((U.length : Nat) : Int) = ((V.length - U.length : Nat) : Int) from by omega]
    refine wp_imp ?_ this
    rintro v' H' ⟨_, e, h2⟩
    refine ⟨(), e, ?_⟩
    have e2 : P ++ (V.take (V.length - U.length) ++ (V.drop (V.length - U.length) ++ (U ++ Q))) = P ++ (V ++ (U ++ Q)) := by rw [← List.append_assoc (V.take (V.length - U.length)), eV]
    rw [e2] at h2
    exact h2
theorem rotate_law (s f : Value) (P U V Q : List Pt) (hU : 1 ≤ U.length) (hV : 1 ≤ V.length) (hb : P.length + U.length + V.length < 1000000) :
  Sp n_sRo [s, vi ((P.length : Nat) : Int), vi ((P.length + U.length : Nat) : Int), vi ((P.length + U.length + V.length : Nat) : Int), f] (ts 7 Pt.cells s (P ++ (U ++ (V ++ Q)))) (fun _ : Unit => .tuple #[]) (fun _ => ts 7 Pt.cells s (P ++ (V ++ (U ++ Q)))) := by
 refine sp_of fun R H h => ?_
 refine wp_of (fun r => sRo_of _ _ _ _ _ H) ?_
 refine w_bind (bin_sub_i (by omega) (by omega)) ?_
 refine w_bind (bin_sub_i (by omega) (by omega)) ?_
 refine wp_eq (sRo_k0_eq ..) ?_
 rw [show ((P.length + U.length : Nat) : Int) - ((P.length : Nat) : Int) = ((U.length : Nat) : Int) from by omega, show ((P.length + U.length + V.length : Nat) : Int) - ((P.length + U.length : Nat) : Int) = ((V.length : Nat) : Int) from by omega]
 exact rotate s f _ P U V Q (Nat.le_refl _) hU hV hb R H h
end Go.Proofs.YtodpbobjmkhcfaaGreatDoor.Gst
