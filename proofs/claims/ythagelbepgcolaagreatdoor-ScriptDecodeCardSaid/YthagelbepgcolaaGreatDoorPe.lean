/- Several texts in one. -/
import Derived.Test.YthagelbepgcolaaGreatDoorPd
namespace Go.Proofs.YthagelbepgcolaaGreatDoor.Gst
open Go Go.RowKit
set_option maxRecDepth 100000
set_option linter.unusedVariables false
set_option maxHeartbeats 1000000
set_option linter.unusedSimpArgs false
section
variable (x0 T Y x3 U W x6 V x8 x9 x10 x11 Z x29 X x34 x35 x36 x41 x42 x54 x55 x56 : Value) (H : AH)
noncomputable def eJ (p : List Nat) : Code := Code.sub (bh Tryz.f13) p
noncomputable def fH : KK := ed PP (Tryz.f13).results.toList
noncomputable def Zu : KK := CQ (eJ [1, 1, 1, 1, 1]) fH bg fH
noncomputable def xA : OV := Zu (ls [u, T, Y, u, U, W, u, V] 143) H
noncomputable def P1 : KK := CQ (eJ [1, 1, 1, 1, 1, 1]) fH bg fH
noncomputable def Zr : KK := bX M6 P1
noncomputable def xB : OV := P1 (ls [u, T, u, u, U, W, u, V] 143) H
noncomputable def Zw : KK := CQ (eJ [1, 1, 1, 1, 1, 1, 1]) fH bg fH
noncomputable def xC : OV := Zw (ls [u, T, u, u, U, W, u, V] 143) H
noncomputable def P3 : KK := CQ (eJ [1, 1, 1, 1, 1, 1, 1, 1]) fH bg fH
noncomputable def Zs : KK := bX SH P3
noncomputable def xD : OV := P3 (ls [u, u, u, u, U, W, u, V] 143) H
noncomputable def Zy : KK := CQ (eJ [1, 1, 1, 1, 1, 1, 1, 0, 1]) Zs bg fH
noncomputable def xE : OV := Zy (ls [u, T, u, u, U, W, u, V, u, u, u, x11] 139) H
noncomputable def P6 : KX := BX 4 Zs bg
noncomputable def KU : KX := iz SH (P6)
noncomputable def P4 : KK := qq (eJ [1, 1, 1, 1, 1, 1, 1, 0, 1, 4, 5]) KU fH
noncomputable def Zt : KK := bX Pk P4
noncomputable def ky : OV := P4 (ls [u, T, u, u, U, W, u, V, u, u, u, x11] 139) H
noncomputable def ZA : KK := CQ (eJ [1, 1, 1, 1, 1, 1, 1, 0, 1, 4, 5, 1]) Zt KU fH
noncomputable def xF : OV := ZA (ls [u, T, u, u, U, W, u, V, u, u, u, x11] 139) H
noncomputable def P5 : KK := CQ (eJ [1, 1, 1, 1, 1, 1, 1, 0, 1, 4, 5, 1, 1]) Zt KU fH
noncomputable def am4 : KK := bX Pk P5
noncomputable def xG : OV := P5 (ls [u, T, u, u, U, W, u, V, u, u, u, x11] 139) H
noncomputable def ai4 : KX := BX 5 am4 KU
noncomputable def r8 : OV := P6 4 (ls [u, u, u, u, U, W, u, V] 143) H
noncomputable def TG : KK := CQ (eJ [1, 1, 1, 1, 1, 0, 1]) Zr bg fH
noncomputable def uF : OV := TG (ls [u, T, Y, u, U, W, u, V, x8] 142) H
noncomputable def KS : KX := BX 0 Zr bg
noncomputable def EY : KX := iz M6 (KS)
noncomputable def KN : KK := qq (eJ [1, 1, 1, 1, 1, 0, 1, 4, 5]) EY fH
noncomputable def TD : KK := bX Io KN
noncomputable def jd : OV := KN (ls [u, T, Y, u, U, W, u, V, x8] 142) H
noncomputable def TH : KK := CQ (eJ [1, 1, 1, 1, 1, 0, 1, 4, 5, 1]) TD EY fH
noncomputable def uG : OV := TH (ls [u, T, Y, u, U, W, u, V, x8] 142) H
noncomputable def KO : KK := CQ (eJ [1, 1, 1, 1, 1, 0, 1, 4, 5, 1, 1]) TD EY fH
noncomputable def KM : KK := bX Io KO
noncomputable def mJ : OV := KO (ls [u, T, Y, u, U, W, u, V, x8] 142) H
noncomputable def TK : KX := BX 1 KM EY
noncomputable def TL : KX := iz Io (TK)
noncomputable def TI : KK := CQ (eJ [1, 1, 1, 1, 1, 0, 1, 4, 5, 1, 0, 4, 1, 1]) KM TL fH
noncomputable def uH : OV := TI (ls [u, T, Y, u, U, W, u, V, x8, x9] 141) H
noncomputable def KT : KX := BX 2 KM TL
noncomputable def EZ : KX := iz Io (KT)
noncomputable def KQ : KK := qq (eJ [1, 1, 1, 1, 1, 0, 1, 4, 5, 1, 0, 4, 1, 1, 4, 5]) EZ fH
noncomputable def TE : KK := bX Pl KQ
noncomputable def je : OV := KQ (ls [u, T, Y, u, U, W, u, V, x8, x9] 141) H
noncomputable def TJ : KK := CQ (eJ [1, 1, 1, 1, 1, 0, 1, 4, 5, 1, 0, 4, 1, 1, 4, 5, 1]) TE EZ fH
noncomputable def uI : OV := TJ (ls [u, T, Y, u, U, W, u, V, x8, x9] 141) H
noncomputable def KR : KK := CQ (eJ [1, 1, 1, 1, 1, 0, 1, 4, 5, 1, 0, 4, 1, 1, 4, 5, 1, 1]) TE EZ fH
noncomputable def ai3 : KK := bX Pl KR
noncomputable def uJ : OV := KR (ls [u, T, Y, u, U, W, u, V, x8, x9] 141) H
noncomputable def ai5 : KX := BX 3 ai3 EZ
noncomputable def pX : OV := KT 2 (ls [u, T, Y, u, U, W, u, V, x8] 142) H
noncomputable def pW : OV := KS 0 (ls [u, T, u, u, U, W, u, V] 143) H
theorem dc : af 2854495385411919762116571938898990272765493199 fH := rf
theorem Zv : af 2854495385411919762116571938898990272765493065 Zu := rc dc am dc
theorem GA : af M6 P1 := rc dc am dc
theorem Zx : af M6 Zw := rc dc am dc
theorem GB : af SH P3 := rc dc am dc
theorem Zz : af Pk Zy := rc (cd (GB)) am dc
theorem tg : ∀ i, af SH (P6 i) := rb (cd (GB)) am
theorem zp : af Pk P4 := rl (cx (tg)) dc
theorem ZB : af Pk ZA := rc (cd (zp)) (cx (tg)) dc
theorem NI : af Pk P5 := rc (cd (zp)) (cx (tg)) dc
theorem Wk : ∀ i, af Pk (ai4 i) := rb (cd (NI)) (cx (tg))
theorem Wg : af Io TG := rc (cd (GA)) am dc
theorem pc : ∀ i, af M6 (KS i) := rb (cd (GA)) am
theorem vO : af Io KN := rl (cx (pc)) dc
theorem Wh : af Io TH := rc (cd (vO)) (cx (pc)) dc
theorem vP : af Io KO := rc (cd (vO)) (cx (pc)) dc
theorem B5 : ∀ i, af Io (TK i) := rb (cd (vP)) (cx (pc))
theorem Wi : af Pl TI := rc (cd (vP)) (cx (B5)) dc
theorem pd : ∀ i, af Io (KT i) := rb (cd (vP)) (cx (B5))
theorem vQ : af Pl KQ := rl (cx (pd)) dc
theorem Wj : af Pl TJ := rc (cd (vQ)) (cx (pd)) dc
theorem Jl : af Pl KR := rc (cd (vQ)) (cx (pd)) dc
theorem Wl : ∀ i, af Pl (ai5 i) := rb (cd (Jl)) (cx (pd))
theorem CS : xD U W V H =
 some (Value.tuple #[V, (vi 0)], H) :=
 (by kernel_rfl)
theorem CV : xG T U W V x11 H =
 (ag .other .add x11 (vi 1)).bind fun a =>
 ky T U W V a H :=
 (by kernel_rfl)
theorem CU : xF T U W V x11 H =
 ld [.i 1 x11] T H fun c =>
 (ag .other .lss c (vi 0)).bind fun a =>
 (gV a false T).bind fun d =>
 (gV a false x11).bind fun e =>
 lp a false  [.i 1 e] d H fun f =>
 (gB a false (ag .other .gtr f (vi 63))).bind fun g =>
 (aE a (vb true) g).bind fun j =>
 aw j
 (some (Value.tuple #[(.slice none 0 0), (vi 1)], H))
 (ld [.i 1 x11] T H fun k =>
 (aO (some .u64) k).bind fun l =>
 (FF cQ [V, l] H).bind fun b =>
 xG T U W b.1 x11 b.2) :=
 (pt rfl 0 (NI) (bt rfl (eJ [1, 1, 1, 1, 1, 1, 1, 0, 1, 4, 5, 1, 0, 4]) 5 (Wk) (by kernel_rfl)))
theorem yP : r8 U W V H = xD U W V H :=
 (by kernel_rfl)
theorem pY : ky T U W V x11 H =
 cB T fun a =>
 (ag .other .lss x11 a).bind fun b =>
 aw b
 (xF T U W V x11 H)
 (r8 U W V H) :=
 qr rfl (zp) (pt rfl 0 (ZB) (by kernel_rfl))
theorem CT : xE T U W V x11 H =
 ky T U W V x11 H :=
 (bt rfl (eJ [1, 1, 1, 1, 1, 1, 1, 0, 1, 4]) 4 (tg) (li rfl (eJ [1, 1, 1, 1, 1, 1, 1, 0, 1, 4, 5]) (zp) (by kernel_rfl)))
theorem CR : xC T U W V H =
 xE T U W V (vi 0) H :=
 (pt rfl 0 (GB) (pt rfl 0 (Zz) (by kernel_rfl)))
theorem CP : xB T U W V H =
 cB T fun b =>
 (aO (some .u64) b).bind fun c =>
 (FF cQ [V, c] H).bind fun a =>
 xC T U W a.1 a.2 :=
 (pt rfl 0 (Zx) (by kernel_rfl))
theorem AY : mJ T Y U W V x8 H =
 (ag .other .add x8 (vi 1)).bind fun a =>
 jd T Y U W V a H :=
 (by kernel_rfl)
theorem A6 : uJ T Y U W V x8 x9 H =
 (ag .other .add x9 (vi 1)).bind fun a =>
 je T Y U W V x8 a H :=
 (by kernel_rfl)
theorem A5 : uI T Y U W V x8 x9 H =
 ld [.f 5] Y H fun w =>
 ld [.i 1 x8] w H fun y =>
 ldN 4 [.i 4 x9] y H fun z =>
 bA [(vi 0), (vi 0), (vi 0), (vi 0)] H fun a A =>
 (fT 4 a z A).bind fun s =>
 ld [.f 0] a s fun B =>
 (FF ik [B] s).bind fun k =>
 (xi .not k.1).bind fun l =>
 lp l false  [.f 1] a k.2 fun C =>
 (gE l false k.2 (FF ik [C] k.2)).bind fun m =>
 (gB l false (xi .not m.1)).bind fun D =>
 (aE l (vb true) D).bind fun n =>
 lp n false  [.f 2] a m.2 fun E =>
 (gE n false m.2 (FF ik [E] m.2)).bind fun o =>
 (gB n false (xi .not o.1)).bind fun G =>
 (aE n (vb true) G).bind fun p =>
 lp p false  [.f 3] a o.2 fun I =>
 (gE p false o.2 (FF ik [I] o.2)).bind fun b =>
 (gB p false (xi .not b.1)).bind fun J =>
 (aE p (vb true) J).bind fun K =>
 aw K
 (some (Value.tuple #[(.slice none 0 0), (vi 1)], b.2))
 (ld [.f 0] a b.2 fun L =>
 (aO (some .u64) L).bind fun M =>
 (FF cQ [V, M] b.2).bind fun d =>
 ad [.f 1] a fun q =>
 (aA q d.2).bind fun N =>
 ic (aA q b.2) (aA q d.2) <|
 (aO (some .u64) N).bind fun O =>
 (FF cQ [d.1, O] d.2).bind fun e =>
 ad [.f 2] a fun j =>
 (aA j e.2).bind fun P =>
 ic (aA j b.2) (aA j e.2) <|
 ic (aA j d.2) (aA j e.2) <|
 (aO (some .u64) P).bind fun Q =>
 (FF cQ [e.1, Q] e.2).bind fun g =>
 ad [.f 3] a fun c =>
 (aA c g.2).bind fun R =>
 ic (aA c b.2) (aA c g.2) <|
 ic (aA c d.2) (aA c g.2) <|
 ic (aA c e.2) (aA c g.2) <|
 (aO (some .u64) R).bind fun S =>
 (FF cQ [g.1, S] g.2).bind fun t =>
 uJ T Y U W t.1 x8 x9 t.2) :=
 (pt rfl 0 (Jl) (bt rfl (eJ [1, 1, 1, 1, 1, 0, 1, 4, 5, 1, 0, 4, 1, 1, 4, 5, 1, 0, 4]) 3 (Wl) (by kernel_rfl)))
theorem wB : pX T Y U W V x8 H = mJ T Y U W V x8 H :=
 (by kernel_rfl)
theorem nT : je T Y U W V x8 x9 H =
 ld [.f 5] Y H fun a =>
 ld [.i 1 x8] a H fun b =>
 cB b fun c =>
 (ag .other .lss x9 c).bind fun d =>
 aw d
 (uI T Y U W V x8 x9 H)
 (pX T Y U W V x8 H) :=
 qr rfl (vQ) (pt rfl 0 (Wj) (by kernel_rfl))
theorem AZ : uH T Y U W V x8 x9 H =
 je T Y U W V x8 x9 H :=
 (bt rfl (eJ [1, 1, 1, 1, 1, 0, 1, 4, 5, 1, 0, 4, 1, 1, 4]) 2 (pd) (li rfl (eJ [1, 1, 1, 1, 1, 0, 1, 4, 5, 1, 0, 4, 1, 1, 4, 5]) (vQ) (by kernel_rfl)))
theorem AX : uG T Y U W V x8 H =
 ld [.f 5] Y H fun b =>
 ld [.i 1 x8] b H fun c =>
 cB c fun d =>
 (aO (some .u64) d).bind fun e =>
 (FF cQ [V, e] H).bind fun a =>
 uH T Y U W a.1 x8 (vi 0) a.2 :=
 (pt rfl 0 (vP) (bt rfl (eJ [1, 1, 1, 1, 1, 0, 1, 4, 5, 1, 0, 4]) 1 (B5) (pt rfl 1 (Wi) (by kernel_rfl))))
theorem wA : pW T U W V H = xB T U W V H :=
 (by kernel_rfl)
theorem nS : jd T Y U W V x8 H =
 ld [.f 5] Y H fun a =>
 cB a fun b =>
 (ag .other .lss x8 b).bind fun c =>
 aw c
 (uG T Y U W V x8 H)
 (pW T U W V H) :=
 qr rfl (vO) (pt rfl 0 (Wh) (by kernel_rfl))
theorem AW : uF T Y U W V x8 H =
 jd T Y U W V x8 H :=
 (bt rfl (eJ [1, 1, 1, 1, 1, 0, 1, 4]) 0 (pc) (li rfl (eJ [1, 1, 1, 1, 1, 0, 1, 4, 5]) (vO) (by kernel_rfl)))
theorem CO : xA T Y U W V H =
 uF T Y U W V (vi 0) H :=
 (pt rfl 0 (GA) (pt rfl 0 (Wg) (by kernel_rfl)))
noncomputable def R4 : OV := aM PP GG FF (eJ []) (ls [x0, T] 149) H fH bg fH
theorem IH {r : Value × AH} (h : (
 bA (Value.cells x0).toList H fun l q =>
 (aQ 6 l q).bind fun w =>
 (FF Cu [w] q).bind fun m =>
 (xi .not m.1).bind fun n =>
 (gV n false T).bind fun y =>
 (za (yv n) false (cB y some) (some undef)).bind fun z =>
 (gB n false (ag .other .gtr z (vi 4000))).bind fun A =>
 (aE n (vb true) A).bind fun B =>
 aw B
 (some (Value.tuple #[(.slice none 0 0), (vi 1)], m.2))
 (ldN 5 [.f 0] l m.2 fun C =>
 bA [(vi 0), (vi 0), (vi 0), (vi 0), (vw 0)] m.2 fun i D =>
 (fT 5 i C D).bind fun j =>
 ld [.f 0] i j fun E =>
 (aO (some .u64) E).bind fun G =>
 (FF cQ [(.slice none 0 0), G] j).bind fun b =>
 ad [.f 1] i fun o =>
 (aA o b.2).bind fun I =>
 ic (aA o j) (aA o b.2) <|
 (aO (some .u64) I).bind fun J =>
 (FF cQ [b.1, J] b.2).bind fun c =>
 ad [.f 2] i fun k =>
 (aA k c.2).bind fun K =>
 ic (aA k j) (aA k c.2) <|
 ic (aA k b.2) (aA k c.2) <|
 (aO (some .u64) K).bind fun L =>
 (FF cQ [c.1, L] c.2).bind fun d =>
 ad [.f 3] i fun e =>
 (aA e d.2).bind fun M =>
 ic (aA e j) (aA e d.2) <|
 ic (aA e b.2) (aA e d.2) <|
 ic (aA e c.2) (aA e d.2) <|
 (aO (some .u64) M).bind fun N =>
 (FF cQ [d.1, N] d.2).bind fun g =>
 ad [.f 4] i fun a =>
 (aA a g.2).bind fun O =>
 ic (aA a j) (aA a g.2) <|
 ic (aA a b.2) (aA a g.2) <|
 ic (aA a c.2) (aA a g.2) <|
 ic (aA a d.2) (aA a g.2) <|
 (FF cQ [g.1, O] g.2).bind fun p =>
 ld [.f 5] l p.2 fun P =>
 cB P fun Q =>
 (aO (some .u64) Q).bind fun R =>
 (FF cQ [p.1, R] p.2).bind fun s =>
 xA T l (.slice none 0 0) (vi 0) s.1 s.2)) = some r) : FF rg [x0, T] H = some r :=
 fo (t := R4 x0 T H) Tryz.func13 (by kernel_rfl) (Eq.trans (pt rfl 4 (Zv) (by kernel_rfl)) h)
noncomputable def ZC (p : List Nat) : Code := Code.sub (bh Tryz.f16) p
noncomputable def GC : KK := ed PP (Tryz.f16).results.toList
noncomputable def ZD : KK := CQ (ZC [1, 1]) GC bg GC
noncomputable def um : OV := ZD (ls [u, T, Y, x3] 29) H
noncomputable def ZF : KK := CQ (ZC [1, 1, 1]) GC bg GC
noncomputable def i9 : OV := ZF (ls [u, T, Y, x3] 29) H
theorem E0 : af 8589934587 GC := rf
theorem ZE : af 8589934577 ZD := rc E0 am E0
theorem ZG : af 8589934577 ZF := rc E0 am E0
theorem Ap : i9 T Y x3 H =
 ld [.f 0] T H fun k =>
 (FF aD [k, (vi 4)] H).bind fun b =>
 (ag .other .add (vi 1) b.1).bind fun l =>
 ad [.f 1] T fun g =>
 (aA g b.2).bind fun m =>
 ic (aA g H) (aA g b.2) <|
 (FF aD [m, (vi 4)] b.2).bind fun c =>
 (ag .other .add (vi 1) c.1).bind fun n =>
 ad [.f 2] T fun e =>
 (aA e c.2).bind fun o =>
 ic (aA e H) (aA e c.2) <|
 ic (aA e b.2) (aA e c.2) <|
 (FF aD [o, (vi 6)] c.2).bind fun d =>
 (ag .other .add (vi 1) d.1).bind fun p =>
 ad [.f 3] T fun a =>
 (aA a d.2).bind fun q =>
 ic (aA a H) (aA a d.2) <|
 ic (aA a b.2) (aA a d.2) <|
 ic (aA a c.2) (aA a d.2) <|
 (FF aD [q, (vi 12)] d.2).bind fun i =>
 wn [(0, 1), (1, 1), (2, 1), (3, 1), (4, 1)] [(vi 0), (vi 0), (vi 0), (vi 0), (vw 0)] [(0, l), (1, n), (2, p), (3, i.1), (4, x3)] fun s =>
 (fT 5 Y s i.2).bind fun j =>
 (aQ 5 Y j).bind fun t => some (t, j) :=
 (by kernel_rfl)
theorem Ao : um T Y x3 H =
 ld [.f 4] T H fun a =>
 (ag .other .rem a (vw 4)).bind fun b =>
 (ag .other .eql b (vw 3)).bind fun c =>
 aw c
 (ld [.f 4] T H fun d =>
 (ag .other .rem d (vw 4611686018427387904)).bind fun e =>
 (ag .other .add (vw 1) e).bind fun g =>
 i9 T Y g H)
 (i9 T Y x3 H) :=
 (pt rfl 0 (ZG) (by kernel_rfl))
noncomputable def Ot : OV := aM PP GG FF (ZC []) (ls [x0] 32) H GC bg GC
theorem HC {r : Value × AH} (h : (
 bA (Value.cells x0).toList H fun a c =>
 bA [(vi 0), (vi 0), (vi 0), (vi 0), (vw 0)] c fun d b =>
 ld [.f 4] a b fun e =>
 (ag .other .rem e (vw 5000)).bind fun g =>
 (ag .other .add (vw 1) g).bind fun i =>
 um a d i b) = some r) : FF gC [x0] H = some r :=
 fo (t := Ot x0 H) Tryz.func16 (by kernel_rfl) (Eq.trans (pt rfl 1 (ZE) (by kernel_rfl)) h)
theorem Ou {r : Value × AH} (h : (
 (aO (some .u64) x0).bind fun a =>
 (aO (some .u64) T).bind fun b =>
 (ag .other .rem a b).bind fun c =>
 (aO (some .i64) c).bind fun d =>
 some (d, H)) = some r) : FF aD [x0, T] H = some r :=
 fo Tryz.func18 (by kernel_rfl) h
noncomputable def ie (p : List Nat) : Code := Code.sub (bh Tryz.f22) p
noncomputable def jA : KK := ed PP (Tryz.f22).results.toList
noncomputable def ZJ : KK := CQ (ie [1, 1, 1, 1]) jA bg jA
noncomputable def As : OV := ZJ (ls [u, T, Y, u, U, W, x6, V] 71) H
noncomputable def P7 : KK := CQ (ie [1, 1, 1, 1, 1]) jA bg jA
noncomputable def ZH : KK := bX SO P7
noncomputable def At : OV := P7 (ls [u, u, u, u, U, u, x6] 72) H
noncomputable def ZL : KK := CQ (ie [1, 1, 1, 1, 0, 1]) ZH bg jA
noncomputable def Au : OV := ZL (ls [u, T, Y, u, U, W, x6, V, x8] 70) H
noncomputable def Qa : KX := BX 0 ZH bg
noncomputable def K6 : KX := iz SO (Qa)
noncomputable def P8 : KK := qq (ie [1, 1, 1, 1, 0, 1, 4, 5]) K6 jA
noncomputable def ZI : KK := bX Do P8
noncomputable def lT : OV := P8 (ls [u, T, Y, u, U, W, x6, V, x8] 70) H
noncomputable def ZN : KK := CQ (ie [1, 1, 1, 1, 0, 1, 4, 5, 1]) ZI K6 jA
noncomputable def Av : OV := ZN (ls [u, T, Y, u, U, W, x6, V, x8] 70) H
noncomputable def P9 : KK := CQ (ie [1, 1, 1, 1, 0, 1, 4, 5, 1, 1]) ZI K6 jA
noncomputable def KV : KK := bX Do P9
noncomputable def Aw : OV := P9 (ls [u, T, Y, u, U, W, x6, V, x8] 70) H
noncomputable def TT : KX := BX 1 KV K6
noncomputable def zr : KX := iz Do (TT)
noncomputable def TO : KK := CQ (ie [1, 1, 1, 1, 0, 1, 4, 5, 1, 0, 4, 1]) KV zr jA
noncomputable def xk : OV := TO (ls [u, T, Y, u, U, W, x6, V, x8, x9] 69) H
noncomputable def TP : KK := CQ (ie [1, 1, 1, 1, 0, 1, 4, 5, 1, 0, 4, 1, 1]) KV zr jA
noncomputable def gI : OV := TP (ls [u, T, Y, u, U, W, x6, V, x8, x9] 69) H
noncomputable def KW : KK := CQ (ie [1, 1, 1, 1, 0, 1, 4, 5, 1, 0, 4, 1, 1, 1]) KV zr jA
noncomputable def TM : KK := bX I0 KW
noncomputable def xl : OV := KW (ls [u, T, Y, u, U, W, x6, V, x8, x9] 69) H
noncomputable def TQ : KK := CQ (ie [1, 1, 1, 1, 0, 1, 4, 5, 1, 0, 4, 1, 1, 0, 1]) TM zr jA
noncomputable def xm : OV := TQ (ls [u, T, Y, u, U, W, x6, V, x8, x9, x10] 68) H
noncomputable def K5 : KX := BX 2 TM zr
noncomputable def E7 : KX := iz I0 (K5)
noncomputable def KY : KK := qq (ie [1, 1, 1, 1, 0, 1, 4, 5, 1, 0, 4, 1, 1, 0, 1, 4, 5]) E7 jA
noncomputable def TN : KK := bX FQ KY
noncomputable def kq : OV := KY (ls [u, T, Y, u, U, W, x6, V, x8, x9, x10] 68) H
noncomputable def TS : KK := CQ (ie [1, 1, 1, 1, 0, 1, 4, 5, 1, 0, 4, 1, 1, 0, 1, 4, 5, 1]) TN E7 jA
noncomputable def xn : OV := TS (ls [u, T, Y, u, U, W, x6, V, x8, x9, x10] 68) H
noncomputable def KZ : KK := CQ (ie [1, 1, 1, 1, 0, 1, 4, 5, 1, 0, 4, 1, 1, 0, 1, 4, 5, 1, 1]) TN E7 jA
noncomputable def ai6 : KK := bX FQ KZ
noncomputable def xo : OV := KZ (ls [u, T, Y, u, U, W, x6, V, x8, x9, x10] 68) H
noncomputable def ai7 : KX := BX 3 ai6 E7
noncomputable def lh : OV := K5 2 (ls [u, T, Y, u, U, W, x6, V, x8, x9] 69) H
noncomputable def uo : OV := Qa 0 (ls [u, u, u, u, U, u, x6] 72) H
theorem eN : af 604462909807314587353071 jA := rf
theorem ZK : af 604462909807314587352841 ZJ := rc eN am eN
theorem GD : af SO P7 := rc eN am eN
theorem ZM : af Do ZL := rc (cd (GD)) am eN
theorem ti : ∀ i, af SO (Qa i) := rb (cd (GD)) am
theorem zq : af Do P8 := rl (cx (ti)) eN
theorem ZO : af Do ZN := rc (cd (zq)) (cx (ti)) eN
theorem th : af Do P9 := rc (cd (zq)) (cx (ti)) eN
theorem l9 : ∀ i, af Do (TT i) := rb (cd (th)) (cx (ti))
theorem Wm : af I0 TO := rc (cd (th)) (cx (l9)) eN
theorem Wn : af I0 TP := rc (cd (th)) (cx (l9)) eN
theorem B6 : af I0 KW := rc (cd (th)) (cx (l9)) eN
theorem Wo : af FQ TQ := rc (cd (B6)) (cx (l9)) eN
theorem pe : ∀ i, af I0 (K5 i) := rb (cd (B6)) (cx (l9))
theorem vR : af FQ KY := rl (cx (pe)) eN
theorem Wp : af FQ TS := rc (cd (vR)) (cx (pe)) eN
theorem Jm : af FQ KZ := rc (cd (vR)) (cx (pe)) eN
theorem Wq : ∀ i, af FQ (ai7 i) := rb (cd (Jm)) (cx (pe))
theorem Em : At U x6 H =
 (aQ 6 x6 H).bind fun b =>
 (fT 6 U b H).bind fun a =>
 (aQ 6 U a).bind fun c => some (c, a) :=
 (by kernel_rfl)
theorem Ep : Aw T Y U W x6 V x8 H =
 (ag .other .add x8 (vi 1)).bind fun a =>
 lT T Y U W x6 V a H :=
 (by kernel_rfl)
theorem CC : xl T Y U W x6 V x8 x9 H =
 ld [.f 5] x6 H fun b =>
 la 1 1 [(.slice none 0 0)] [(0, x9)] H fun c d =>
 (cz 1 24 b c d).bind fun a =>
 st 1 [.f 5] x6 a.1 a.2 fun e =>
 Aw T Y U W x6 V x8 e :=
 (by kernel_rfl)
theorem CF : xo T Y U W x6 V x8 x9 x10 H =
 (ag .other .add x10 (vi 1)).bind fun a =>
 kq T Y U W x6 V x8 x9 a H :=
 (by kernel_rfl)
theorem CE : xn T Y U W x6 V x8 x9 x10 H =
 ld [.f 5] Y H fun c =>
 ld [.i 1 x8] c H fun d =>
 ldN 4 [.i 4 x10] d H fun e =>
 (FF t9 [e] H).bind fun a =>
 la 1 4 [(vi 0), (vi 0), (vi 0), (vi 0)] [(0, a.1)] a.2 fun g j =>
 (cz 4 32 x9 g j).bind fun b =>
 (ag .other .sub V (vi 1)).bind fun k =>
 xo T Y U W x6 k x8 b.1 x10 b.2 :=
 (pt rfl 0 (Jm) (bt rfl (ie [1, 1, 1, 1, 0, 1, 4, 5, 1, 0, 4, 1, 1, 0, 1, 4, 5, 1, 0, 4]) 3 (Wq) (by kernel_rfl)))
theorem yN : lh T Y U W x6 V x8 x9 H = xl T Y U W x6 V x8 x9 H :=
 (by kernel_rfl)
theorem pO : kq T Y U W x6 V x8 x9 x10 H =
 ld [.f 5] Y H fun d =>
 cB d fun e =>
 (ag .other .lss x8 e).bind fun a =>
 (gV a true x10).bind fun g =>
 lp a true  [.f 5] Y H fun j =>
 (gV a true x8).bind fun k =>
 lp a true  [.i 1 k] j H fun l =>
 (za (yv a) true (cB l some) (some undef)).bind fun m =>
 (gB a true (ag .other .lss g m)).bind fun n =>
 (aE a n (vb false)).bind fun b =>
 (gV b true x10).bind fun o =>
 (gV b true T).bind fun p =>
 (gB b true (ag .other .lss o p)).bind fun q =>
 (aE b q (vb false)).bind fun c =>
 (gV c true V).bind fun s =>
 (gB c true (ag .other .gtr s (vi 0))).bind fun t =>
 (aE c t (vb false)).bind fun w =>
 aw w
 (xn T Y U W x6 V x8 x9 x10 H)
 (lh T Y U W x6 V x8 x9 H) :=
 qr rfl (vR) (pt rfl 0 (Wp) (by kernel_rfl))
theorem CD : xm T Y U W x6 V x8 x9 x10 H =
 kq T Y U W x6 V x8 x9 x10 H :=
 (bt rfl (ie [1, 1, 1, 1, 0, 1, 4, 5, 1, 0, 4, 1, 1, 0, 1, 4]) 2 (pe) (li rfl (ie [1, 1, 1, 1, 0, 1, 4, 5, 1, 0, 4, 1, 1, 0, 1, 4, 5]) (vR) (by kernel_rfl)))
theorem CB : gI T Y U W x6 V x8 x9 H =
 xm T Y U W x6 V x8 x9 (vi 0) H :=
 (pt rfl 0 (B6) (pt rfl 0 (Wo) (by kernel_rfl)))
theorem CA : xk T Y U W x6 V x8 x9 H =
 (ag .other .eql x8 (vi 0)).bind fun a =>
 lp a true  [.f 0, .f 3] Y H fun d =>
 (gE a true H (FF aD [d, (vi 4)] H)).bind fun b =>
 (gB a true (ag .other .gtr b.1 (vi 0))).bind fun e =>
 (aE a e (vb false)).bind fun g =>
 aw g
 ((FF q9 [(vi 3)] b.2).bind fun c =>
 gI T Y U W x6 V x8 c.1 c.2)
 (gI T Y U W x6 V x8 x9 b.2) :=
 (pt rfl 0 (Wn) (by kernel_rfl))
theorem Eo : Av T Y U W x6 V x8 H =
 xk T Y U W x6 V x8 (.slice none 0 0) H :=
 (pt rfl 0 (th) (bt rfl (ie [1, 1, 1, 1, 0, 1, 4, 5, 1, 0, 4]) 1 (l9) (pt rfl 0 (Wm) (by kernel_rfl))))
theorem Aq : uo U x6 H = At U x6 H :=
 (by kernel_rfl)
theorem rX : lT T Y U W x6 V x8 H =
 ld [.f 2] W H fun a =>
 (ag .other .lss x8 a).bind fun b =>
 aw b
 (Av T Y U W x6 V x8 H)
 (uo U x6 H) :=
 qr rfl (zq) (pt rfl 0 (ZO) (by kernel_rfl))
theorem En : Au T Y U W x6 V x8 H =
 lT T Y U W x6 V x8 H :=
 (bt rfl (ie [1, 1, 1, 1, 0, 1, 4]) 0 (ti) (li rfl (ie [1, 1, 1, 1, 0, 1, 4, 5]) (zq) (by kernel_rfl)))
theorem El : As T Y U W x6 V H =
 Au T Y U W x6 V (vi 0) H :=
 (pt rfl 0 (GD) (pt rfl 0 (ZM) (by kernel_rfl)))
noncomputable def Xk : OV := aM PP GG FF (ie []) (ls [x0, T] 77) H jA bg jA
theorem My {r : Value × AH} (h : (
 bA (Value.cells x0).toList H fun b i =>
 bA [(vi 0), (vi 0), (vi 0), (vi 0), (vw 0), (.slice none 0 0)] i fun j c =>
 ldN 5 [.f 0] b c fun k =>
 (FF gC [k] c).bind fun d =>
 bA [(vi 0), (vi 0), (vi 0), (vi 0), (vw 0)] d.2 fun a l =>
 (fT 5 a d.1 l).bind fun e =>
 (aQ 5 a e).bind fun m =>
 wn [(0, 5), (5, 1)] [(vi 0), (vi 0), (vi 0), (vi 0), (vw 0), (.slice none 0 0)] [(0, m)] fun n =>
 bA [(vi 0), (vi 0), (vi 0), (vi 0), (vw 0), (.slice none 0 0)] e fun g o =>
 (fT 6 g n o).bind fun p =>
 As T b j a g (vi 57) p) = some r) : FF nM [x0, T] H = some r :=
 fo (t := Xk x0 T H) Tryz.func22 (by kernel_rfl) (Eq.trans (pt rfl 3 (ZK) (by kernel_rfl)) h)
noncomputable def dz (p : List Nat) : Code := Code.sub (bh Tryz.f23) p
noncomputable def e9 : KK := ed PP (Tryz.f23).results.toList
noncomputable def ZS : KK := CQ (dz [1, 1]) e9 bg e9
noncomputable def xJ : OV := ZS (ls [u, T, Y, u, U] 62) H
noncomputable def Qb : KK := CQ (dz [1, 1, 1]) e9 bg e9
noncomputable def ZP : KK := bX SR Qb
noncomputable def xK : OV := Qb (ls [u, T, u, u, U] 62) H
noncomputable def Qc : KK := CQ (dz [1, 1, 1, 1]) e9 bg e9
noncomputable def ZQ : KK := bX Nf Qc
noncomputable def xL : OV := Qc (ls [u, u, u, u, U] 62) H
noncomputable def ZU : KK := CQ (dz [1, 1, 1, 0, 1]) ZQ bg e9
noncomputable def xM : OV := ZU (ls [u, u, u, u, U, u, u, u, u, u, u, u, u, u, u, u, u, u, u, u, u, u, u, u, u, u, u, u, u, u, u, u, u, u, u, u, u, u, u, u, u, u, u, u, u, u, u, u, u, u, u, u, u, u, x54, x55, x56] 10) H
noncomputable def Qf : KX := BX 6 ZQ bg
noncomputable def Lj : KX := iz Nf (Qf)
noncomputable def Qd : KK := qq (dz [1, 1, 1, 0, 1, 4, 5]) Lj e9
noncomputable def ZR : KK := bX FU Qd
noncomputable def kA : OV := Qd (ls [u, u, u, u, U, u, u, u, u, u, u, u, u, u, u, u, u, u, u, u, u, u, u, u, u, u, u, u, u, u, u, u, u, u, u, u, u, u, u, u, u, u, u, u, u, u, u, u, u, u, u, u, u, u, x54, x55, x56] 10) H
noncomputable def ZW : KK := CQ (dz [1, 1, 1, 0, 1, 4, 5, 1, 1]) ZR Lj e9
noncomputable def xN : OV := ZW (ls [u, u, u, u, U, u, u, u, u, u, u, u, u, u, u, u, u, u, u, u, u, u, u, u, u, u, u, u, u, u, u, u, u, u, u, u, u, u, u, u, u, u, u, u, u, u, u, u, u, u, u, u, u, u, x54, x55, x56] 10) H
noncomputable def Qe : KK := CQ (dz [1, 1, 1, 0, 1, 4, 5, 1, 1, 1]) ZR Lj e9
noncomputable def am5 : KK := bX FU Qe
noncomputable def xO : OV := Qe (ls [u, u, u, u, U, u, u, u, u, u, u, u, u, u, u, u, u, u, u, u, u, u, u, u, u, u, u, u, u, u, u, u, u, u, u, u, u, u, u, u, u, u, u, u, u, u, u, u, u, u, u, u, u, u, x54, x55, x56] 10) H
noncomputable def am6 : KX := BX 7 am5 Lj
noncomputable def sa : OV := Qf 6 (ls [u, u, u, u, U] 62) H
noncomputable def TX : KK := CQ (dz [1, 1, 0, 1]) ZP bg e9
noncomputable def uZ : OV := TX (ls [u, T, u, u, U, u, u, u, u, u, u, u, u, u, u, u, u, u, u, u, u, u, u, u, u, u, u, u, Z, x29, X] 36) H
noncomputable def Lg : KX := BX 0 ZP bg
noncomputable def E8 : KX := iz SR (Lg)
noncomputable def K9 : KK := qq (dz [1, 1, 0, 1, 4, 5]) E8 e9
noncomputable def TU : KK := bX wQ K9
noncomputable def jk : OV := K9 (ls [u, T, u, u, U, u, u, u, u, u, u, u, u, u, u, u, u, u, u, u, u, u, u, u, u, u, u, u, Z, x29, X] 36) H
noncomputable def TY : KK := CQ (dz [1, 1, 0, 1, 4, 5, 1, 1]) TU E8 e9
noncomputable def u0 : OV := TY (ls [u, T, u, u, U, u, u, u, u, u, u, u, u, u, u, u, u, u, u, u, u, u, u, u, u, u, u, u, Z, x29, X] 36) H
noncomputable def La : KK := CQ (dz [1, 1, 0, 1, 4, 5, 1, 1, 1]) TU E8 e9
noncomputable def K7 : KK := bX wQ La
noncomputable def mM : OV := La (ls [u, T, u, u, U, u, u, u, u, u, u, u, u, u, u, u, u, u, u, u, u, u, u, u, u, u, u, u, Z, x29, X] 36) H
noncomputable def T5 : KX := BX 1 K7 E8
noncomputable def T7 : KX := iz wQ (T5)
noncomputable def TZ : KK := CQ (dz [1, 1, 0, 1, 4, 5, 1, 1, 0, 4, 1, 1]) K7 T7 e9
noncomputable def u1 : OV := TZ (ls [u, T, u, u, U, u, u, u, u, u, u, u, u, u, u, u, u, u, u, u, u, u, u, u, u, u, u, u, Z, x29, X, u, u, u, x34, x35, x36] 30) H
noncomputable def Lh : KX := BX 2 K7 T7
noncomputable def E9 : KX := iz wQ (Lh)
noncomputable def Lb : KK := qq (dz [1, 1, 0, 1, 4, 5, 1, 1, 0, 4, 1, 1, 4, 5]) E9 e9
noncomputable def TV : KK := bX wR Lb
noncomputable def jl : OV := Lb (ls [u, T, u, u, U, u, u, u, u, u, u, u, u, u, u, u, u, u, u, u, u, u, u, u, u, u, u, u, Z, x29, X, u, u, u, x34, x35, x36] 30) H
noncomputable def T0 : KK := CQ (dz [1, 1, 0, 1, 4, 5, 1, 1, 0, 4, 1, 1, 4, 5, 1, 1]) TV E9 e9
noncomputable def u2 : OV := T0 (ls [u, T, u, u, U, u, u, u, u, u, u, u, u, u, u, u, u, u, u, u, u, u, u, u, u, u, u, u, Z, x29, X, u, u, u, x34, x35, x36] 30) H
noncomputable def Lc : KK := CQ (dz [1, 1, 0, 1, 4, 5, 1, 1, 0, 4, 1, 1, 4, 5, 1, 1, 1]) TV E9 e9
noncomputable def K8 : KK := bX wR Lc
noncomputable def mN : OV := Lc (ls [u, T, u, u, U, u, u, u, u, u, u, u, u, u, u, u, u, u, u, u, u, u, u, u, u, u, u, u, Z, x29, X, u, u, u, x34, x35, x36] 30) H
noncomputable def T6 : KX := BX 3 K8 E9
noncomputable def T8 : KX := iz wR (T6)
noncomputable def T3 : KK := CQ (dz [1, 1, 0, 1, 4, 5, 1, 1, 0, 4, 1, 1, 4, 5, 1, 1, 0, 4, 1, 1]) K8 T8 e9
noncomputable def u3 : OV := T3 (ls [u, T, u, u, U, u, u, u, u, u, u, u, u, u, u, u, u, u, u, u, u, u, u, u, u, u, u, u, Z, x29, X, u, u, u, x34, x35, x36, u, u, u, u, x41, x42] 24) H
noncomputable def Li : KX := BX 4 K8 T8
noncomputable def Fa : KX := iz wR (Li)
noncomputable def Ld : KK := qq (dz [1, 1, 0, 1, 4, 5, 1, 1, 0, 4, 1, 1, 4, 5, 1, 1, 0, 4, 1, 1, 4, 5]) Fa e9
noncomputable def TW : KK := bX FV Ld
noncomputable def jm : OV := Ld (ls [u, T, u, u, U, u, u, u, u, u, u, u, u, u, u, u, u, u, u, u, u, u, u, u, u, u, u, u, Z, x29, X, u, u, u, x34, x35, x36, u, u, u, u, x41, x42] 24) H
noncomputable def T4 : KK := CQ (dz [1, 1, 0, 1, 4, 5, 1, 1, 0, 4, 1, 1, 4, 5, 1, 1, 0, 4, 1, 1, 4, 5, 1, 1]) TW Fa e9
noncomputable def u4 : OV := T4 (ls [u, T, u, u, U, u, u, u, u, u, u, u, u, u, u, u, u, u, u, u, u, u, u, u, u, u, u, u, Z, x29, X, u, u, u, x34, x35, x36, u, u, u, u, x41, x42] 24) H
noncomputable def Le : KK := CQ (dz [1, 1, 0, 1, 4, 5, 1, 1, 0, 4, 1, 1, 4, 5, 1, 1, 0, 4, 1, 1, 4, 5, 1, 1, 1]) TW Fa e9
noncomputable def ai8 : KK := bX FV Le
noncomputable def u5 : OV := Le (ls [u, T, u, u, U, u, u, u, u, u, u, u, u, u, u, u, u, u, u, u, u, u, u, u, u, u, u, u, Z, x29, X, u, u, u, x34, x35, x36, u, u, u, u, x41, x42] 24) H
noncomputable def ai9 : KX := BX 5 ai8 Fa
noncomputable def qh : OV := Li 4 (ls [u, T, u, u, U, u, u, u, u, u, u, u, u, u, u, u, u, u, u, u, u, u, u, u, u, u, u, u, Z, x29, X, u, u, u, x34, x35, x36] 30) H
noncomputable def qg : OV := Lh 2 (ls [u, T, u, u, U, u, u, u, u, u, u, u, u, u, u, u, u, u, u, u, u, u, u, u, u, u, u, u, Z, x29, X] 36) H
noncomputable def qf : OV := Lg 0 (ls [u, T, u, u, U] 62) H
theorem cL : af Nf e9 := rf
theorem ZT : af 147573952589676412905 ZS := rc cL am cL
theorem GE : af SR Qb := rc cL am cL
theorem GF : af Nf Qc := rc cL am cL
theorem ZV : af FU ZU := rc (cd (GF)) am cL
theorem tj : ∀ i, af Nf (Qf i) := rb (cd (GF)) am
theorem zt : af FU Qd := rl (cx (tj)) cL
theorem ZX : af FU ZW := rc (cd (zt)) (cx (tj)) cL
theorem NJ : af FU Qe := rc (cd (zt)) (cx (tj)) cL
theorem ZY : ∀ i, af FU (am6 i) := rb (cd (NJ)) (cx (tj))
theorem Wr : af wQ TX := rc (cd (GE)) am cL
theorem pf : ∀ i, af SR (Lg i) := rb (cd (GE)) am
theorem vS : af wQ K9 := rl (cx (pf)) cL
theorem Ws : af wQ TY := rc (cd (vS)) (cx (pf)) cL
theorem vT : af wQ La := rc (cd (vS)) (cx (pf)) cL
theorem B7 : ∀ i, af wQ (T5 i) := rb (cd (vT)) (cx (pf))
theorem Wt : af wR TZ := rc (cd (vT)) (cx (B7)) cL
theorem pg : ∀ i, af wQ (Lh i) := rb (cd (vT)) (cx (B7))
theorem vU : af wR Lb := rl (cx (pg)) cL
theorem Wu : af wR T0 := rc (cd (vU)) (cx (pg)) cL
theorem vV : af wR Lc := rc (cd (vU)) (cx (pg)) cL
theorem B8 : ∀ i, af wR (T6 i) := rb (cd (vV)) (cx (pg))
theorem Wv : af FV T3 := rc (cd (vV)) (cx (B8)) cL
theorem ph : ∀ i, af wR (Li i) := rb (cd (vV)) (cx (B8))
theorem vW : af FV Ld := rl (cx (ph)) cL
theorem Ww : af FV T4 := rc (cd (vW)) (cx (ph)) cL
theorem Jn : af FV Le := rc (cd (vW)) (cx (ph)) cL
theorem Wx : ∀ i, af FV (ai9 i) := rb (cd (Jn)) (cx (ph))
theorem C0 : xL U H =
 some ((vb true), H) :=
 (by kernel_rfl)
theorem C3 : xO U x54 x55 x56 H =
 (ag .other .add x56 (vi 1)).bind fun a =>
 kA U x54 x55 a H :=
 (by kernel_rfl)
theorem C2 : xN U x54 x55 x56 H =
 ld [.i 1 x56] x54 H fun b =>
 (ag .other .lss b (vi 0)).bind fun a =>
 (gV a false b).bind fun c =>
 (gB a false (ag .other .gtr c (vi 63))).bind fun d =>
 (aE a (vb true) d).bind fun e =>
 aw e
 (some ((vb false), H))
 (xO U x54 x55 x56 H) :=
 (pt rfl 0 (NJ) (bt rfl (dz [1, 1, 1, 0, 1, 4, 5, 1, 1, 0, 4]) 7 (ZY) (by kernel_rfl)))
theorem yS : sa U H = xL U H :=
 (by kernel_rfl)
theorem qi : kA U x54 x55 x56 H =
 (ag .other .lss x56 x55).bind fun a =>
 aw a
 (xN U x54 x55 x56 H)
 (sa U H) :=
 qr rfl (zt) (pt rfl 1 (ZX) (by kernel_rfl))
theorem C1 : xM U x54 x55 x56 H =
 kA U x54 x55 x56 H :=
 (bt rfl (dz [1, 1, 1, 0, 1, 4]) 6 (tj) (li rfl (dz [1, 1, 1, 0, 1, 4, 5]) (zt) (by kernel_rfl)))
theorem CZ : xK T U H =
 cB T fun a =>
 xM U T a (vi 0) H :=
 (pt rfl 0 (GF) (pt rfl 0 (ZV) (by kernel_rfl)))
theorem Bg : mM T U Z x29 X H =
 (ag .other .add X (vi 1)).bind fun a =>
 jk T U Z x29 a H :=
 (by kernel_rfl)
theorem Bj : mN T U Z x29 X x34 x35 x36 H =
 (ag .other .add x36 (vi 1)).bind fun a =>
 jl T U Z x29 X x34 x35 a H :=
 (by kernel_rfl)
theorem Bm : u5 T U Z x29 X x34 x35 x36 x41 x42 H =
 (ag .other .add x42 (vi 1)).bind fun a =>
 jm T U Z x29 X x34 x35 x36 x41 a H :=
 (by kernel_rfl)
theorem Bl : u4 T U Z x29 X x34 x35 x36 x41 x42 H =
 (eU 4 none 1 x41 x42).bind fun b =>
 (ag .other .lss b (vi 0)).bind fun a =>
 (gV a false b).bind fun c =>
 (gB a false (ag .other .gtr c (vi 2147483647))).bind fun d =>
 (aE a (vb true) d).bind fun e =>
 aw e
 (some ((vb false), H))
 (u5 T U Z x29 X x34 x35 x36 x41 x42 H) :=
 (pt rfl 0 (Jn) (bt rfl (dz [1, 1, 0, 1, 4, 5, 1, 1, 0, 4, 1, 1, 4, 5, 1, 1, 0, 4, 1, 1, 4, 5, 1, 1, 0, 4]) 5 (Wx) (by kernel_rfl)))
theorem wN : qh T U Z x29 X x34 x35 x36 H = mN T U Z x29 X x34 x35 x36 H :=
 (by kernel_rfl)
theorem ot : jm T U Z x29 X x34 x35 x36 x41 x42 H =
 (ag .other .lss x42 (vi 4)).bind fun a =>
 aw a
 (u4 T U Z x29 X x34 x35 x36 x41 x42 H)
 (qh T U Z x29 X x34 x35 x36 H) :=
 qr rfl (vW) (pt rfl 1 (Ww) (by kernel_rfl))
theorem Bk : u3 T U Z x29 X x34 x35 x36 x41 x42 H =
 jm T U Z x29 X x34 x35 x36 x41 x42 H :=
 (bt rfl (dz [1, 1, 0, 1, 4, 5, 1, 1, 0, 4, 1, 1, 4, 5, 1, 1, 0, 4, 1, 1, 4]) 4 (ph) (li rfl (dz [1, 1, 0, 1, 4, 5, 1, 1, 0, 4, 1, 1, 4, 5, 1, 1, 0, 4, 1, 1, 4, 5]) (vW) (by kernel_rfl)))
theorem Bi : u2 T U Z x29 X x34 x35 x36 H =
 ldN 4 [.i 4 x36] x34 H fun d =>
 bA [(vi 0), (vi 0), (vi 0), (vi 0)] H fun a e =>
 (fT 4 a d e).bind fun b =>
 (aQ 4 a b).bind fun f =>
 (FF ga [f] b).bind fun c =>
 u3 T U Z x29 X x34 x35 x36 c.1 (vi 0) c.2 :=
 (pt rfl 0 (vV) (bt rfl (dz [1, 1, 0, 1, 4, 5, 1, 1, 0, 4, 1, 1, 4, 5, 1, 1, 0, 4]) 3 (B8) (pt rfl 1 (Wv) (by kernel_rfl))))
theorem wM : qg T U Z x29 X H = mM T U Z x29 X H :=
 (by kernel_rfl)
theorem oq : jl T U Z x29 X x34 x35 x36 H =
 (ag .other .lss x36 x35).bind fun a =>
 aw a
 (u2 T U Z x29 X x34 x35 x36 H)
 (qg T U Z x29 X H) :=
 qr rfl (vU) (pt rfl 1 (Wu) (by kernel_rfl))
theorem Bh : u1 T U Z x29 X x34 x35 x36 H =
 jl T U Z x29 X x34 x35 x36 H :=
 (bt rfl (dz [1, 1, 0, 1, 4, 5, 1, 1, 0, 4, 1, 1, 4]) 2 (pg) (li rfl (dz [1, 1, 0, 1, 4, 5, 1, 1, 0, 4, 1, 1, 4, 5]) (vU) (by kernel_rfl)))
theorem Bf : u0 T U Z x29 X H =
 ld [.i 1 X] Z H fun a =>
 cB a fun b =>
 u1 T U Z x29 X a b (vi 0) H :=
 (pt rfl 0 (vT) (bt rfl (dz [1, 1, 0, 1, 4, 5, 1, 1, 0, 4]) 1 (B7) (pt rfl 1 (Wt) (by kernel_rfl))))
theorem wL : qf T U H = xK T U H :=
 (by kernel_rfl)
theorem oo : jk T U Z x29 X H =
 (ag .other .lss X x29).bind fun a =>
 aw a
 (u0 T U Z x29 X H)
 (qf T U H) :=
 qr rfl (vS) (pt rfl 1 (Ws) (by kernel_rfl))
theorem Be : uZ T U Z x29 X H =
 jk T U Z x29 X H :=
 (bt rfl (dz [1, 1, 0, 1, 4]) 0 (pf) (li rfl (dz [1, 1, 0, 1, 4, 5]) (vS) (by kernel_rfl)))
theorem CY : xJ T Y U H =
 ld [.f 5] Y H fun a =>
 cB a fun b =>
 uZ T U a b (vi 0) H :=
 (pt rfl 0 (GE) (pt rfl 0 (Wr) (by kernel_rfl)))
noncomputable def Sm : OV := aM PP GG FF (dz []) (ls [x0, T] 65) H e9 bg e9
theorem IM {r : Value × AH} (h : (
 bA (Value.cells x0).toList H fun c d =>
 (aQ 6 c d).bind fun e =>
 (FF uh [e] d).bind fun a =>
 (ar a.1 0).bind fun l =>
 (ar a.1 1).bind fun f =>
 (ag .other .neq f (vi 0)).bind fun b =>
 (gV b false T).bind fun g =>
 (za (yv b) false (cB g some) (some undef)).bind fun i =>
 (gB b false (ag .other .gtr i (vi 4000))).bind fun j =>
 (aE b (vb true) j).bind fun k =>
 aw k
 (some ((vb false), a.2))
 (xJ T c (vb false) a.2)) = some r) : FF rh [x0, T] H = some r :=
 fo (t := Sm x0 T H) Tryz.func23 (by kernel_rfl) (Eq.trans (pt rfl 1 (ZT) (by kernel_rfl)) h)
noncomputable def zu (p : List Nat) : Code := Code.sub (bh Tryz.f24) p
noncomputable def wV : KK := ed PP (Tryz.f24).results.toList
noncomputable def Z0 : KK := CQ (zu [1]) wV bg wV
noncomputable def xP : OV := Z0 (ls [x0, T, u, u, U] 15) H
noncomputable def Qg : KK := CQ (zu [1, 1]) wV bg wV
noncomputable def am7 : KK := bX 1048556 Qg
noncomputable def xQ : OV := Qg (ls [x0, T, u, u, U] 15) H
noncomputable def Qj : KX := BX 0 am7 bg
noncomputable def Lk : KX := iz 1048556 (Qj)
noncomputable def Qh : KK := qq (zu [1, 0, 4, 5]) Lk wV
noncomputable def ZZ : KK := bX 1048556 Qh
noncomputable def kB : OV := Qh (ls [x0, T, u, u, U] 15) H
noncomputable def Z2 : KK := CQ (zu [1, 0, 4, 5, 1]) ZZ Lk wV
noncomputable def xR : OV := Z2 (ls [x0, T, u, u, U] 15) H
noncomputable def Qi : KK := CQ (zu [1, 0, 4, 5, 1, 1]) ZZ Lk wV
noncomputable def am8 : KK := bX 1048556 Qi
noncomputable def xS : OV := Qi (ls [x0, T, u, u, U] 15) H
noncomputable def ajA : KX := BX 1 am8 Lk
noncomputable def sc : OV := Qj 0 (ls [x0, T, u, u, U] 15) H
theorem qB : af 1048559 wV := rf
theorem Z1 : af 1048556 Z0 := rc qB am qB
theorem NK : af 1048556 Qg := rc qB am qB
theorem tk : ∀ i, af 1048556 (Qj i) := rb (cd (NK)) am
theorem zv : af 1048556 Qh := rl (cx (tk)) qB
theorem Z3 : af 1048556 Z2 := rc (cd (zv)) (cx (tk)) qB
theorem NL : af 1048556 Qi := rc (cd (zv)) (cx (tk)) qB
theorem Wy : ∀ i, af 1048556 (ajA i) := rb (cd (NL)) (cx (tk))
theorem qj : xQ x0 T U H =
 (aO (some .u8) T).bind fun b =>
 la 1 1 [(.int .u8 0)] [(0, b)] H fun c d =>
 (cz 1 1 x0 c d).bind fun a =>
 some (a.1, a.2) :=
 (by kernel_rfl)
theorem C6 : xS x0 T U H =
 (ag .other .shr T (vw 7)).bind fun a =>
 kB x0 a U H :=
 (by kernel_rfl)
theorem C5 : xR x0 T U H =
 (aO (some .u8) T).bind fun b =>
 (ag .other .or b (.int .u8 128)).bind fun c =>
 la 1 1 [(.int .u8 0)] [(0, c)] H fun d e =>
 (cz 1 1 x0 d e).bind fun a =>
 xS a.1 T U a.2 :=
 (pt rfl 0 (NL) (bt rfl (zu [1, 0, 4, 5, 1, 0, 4]) 1 (Wy) (by kernel_rfl)))
theorem mO : sc x0 T U H = xQ x0 T U H :=
 (by kernel_rfl)
theorem qk : kB x0 T U H =
 (ag .other .gtr T (vw 127)).bind fun a =>
 aw a
 (xR x0 T U H)
 (sc x0 T U H) :=
 qr rfl (zv) (pt rfl 0 (Z3) (by kernel_rfl))
theorem C4 : xP x0 T U H =
 kB x0 T U H :=
 (pt rfl 0 (NK) (bt rfl (zu [1, 0, 4]) 0 (tk) (li rfl (zu [1, 0, 4, 5]) (zv) (by kernel_rfl))))
noncomputable def Sn : OV := aM PP GG FF (zu []) (ls [x0, T] 18) H wV bg wV
theorem IN {r : Value × AH} (h : (
 xP x0 T (.slice none 0 0) H) = some r) : FF dp [x0, T] H = some r :=
 fo (t := Sn x0 T H) Tryz.func24 (by kernel_rfl) (Eq.trans (pt rfl 0 (Z1) (by kernel_rfl)) h)
theorem Bn {r : Value × AH} (h : (
 bA (Value.cells x0).toList H fun b e =>
 bA [(vi 0), (vi 0), (vi 0), (vi 0)] e fun c a =>
 ld [.f 0] b a fun g =>
 ld [.f 1] b a fun i =>
 ld [.f 2] b a fun j =>
 ld [.f 3] b a fun k =>
 mkA 1 [(vi 0), (vi 0), (vi 0), (vi 0)] [(0, g), (1, i), (2, j), (3, k)] fun l =>
 (fT 4 c l a).bind fun d =>
 (aQ 4 c d).bind fun m => some (m, d)) = some r) : FF ga [x0] H = some r :=
 fo Tryz.func25 (by kernel_rfl) h
theorem R0 {r : Value × AH} (h : (
 bA (Value.cells x0).toList H fun b d =>
 ldN 5 [.f 0] b d fun g =>
 (FF ub [g] d).bind fun a =>
 lp a.1 true  [.f 5] b a.2 fun i =>
 (za (yv a.1) true (cB i some) (some undef)).bind fun j =>
 lp a.1 true  [.f 0, .f 2] b a.2 fun k =>
 (gB a.1 true (ag .other .leq j k)).bind fun l =>
 (aE a.1 l (vb false)).bind fun c =>
 (gB c true (aQ 6 b a.2)).bind fun m =>
 (gE c true a.2 (FF uc [m] a.2)).bind fun e =>
 (gB c true (ag .other .leq e.1 (vi 60))).bind fun n =>
 (aE c n (vb false)).bind fun o =>
 some (o, e.2)) = some r) : FF Cu [x0] H = some r :=
 fo Tryz.func26 (by kernel_rfl) h
end
section
variable (Q P O N R x5 x6 x7 V W U X S Y Z x35 x48 x51 x56 x57 T : Value) (H : AH)
noncomputable def DA (p : List Nat) : Code := Code.sub (bh Tryz.f27) p
noncomputable def zx : KK := ed PP (Tryz.f27).results.toList
noncomputable def Z5 : KK := CQ (DA [1]) zx bg zx
noncomputable def HE : OV := Z5 (ls [Q, P, u, u, R] 16) H
noncomputable def Qk : KK := CQ (DA [1, 1]) zx bg zx
noncomputable def am9 : KK := bX 2097132 Qk
noncomputable def HF : OV := Qk (ls [Q, P, u, u, R] 16) H
noncomputable def Qm : KX := BX 0 am9 bg
noncomputable def Qn : KX := iz 2097132 (Qm)
noncomputable def Ql : KK := qq (DA [1, 0, 4, 5]) Qn zx
noncomputable def Z4 : KK := bX 2097132 Ql
noncomputable def rq : OV := Ql (ls [Q, P, u, u, R] 16) H
noncomputable def Z7 : KK := CQ (DA [1, 0, 4, 5, 1]) Z4 Qn zx
noncomputable def HG : OV := Z7 (ls [Q, P, u, u, R] 16) H
noncomputable def anA : KX := BX 1 Z4 Qn
noncomputable def A7 : OV := Qm 0 (ls [Q, P, u, u, R] 16) H
theorem vX : af 2097135 zx := rf
theorem Z6 : af 2097132 Z5 := rc vX am vX
theorem NM : af 2097132 Qk := rc vX am vX
theorem zy : ∀ i, af 2097132 (Qm i) := rb (cd (NM)) am
theorem zw : af 2097132 Ql := rl (cx (zy)) vX
theorem Z8 : af 2097132 Z7 := rc (cd (zw)) (cx (zy)) vX
theorem Z9 : ∀ i, af 2097132 (anA i) := rb (cd (zw)) (cx (zy))
theorem xH : HF Q P R H =
 (aO (some .u8) P).bind fun b =>
 la 1 1 [(.int .u8 0)] [(0, b)] H fun c d =>
 (cz 1 1 Q c d).bind fun a =>
 some (a.1, a.2) :=
 (by kernel_rfl)
theorem IJ : HG Q P R H =
 (ag .other .rem P (vw 128)).bind fun b =>
 (ag .other .add b (vw 128)).bind fun c =>
 (aO (some .u8) c).bind fun d =>
 la 1 1 [(.int .u8 0)] [(0, d)] H fun e f =>
 (cz 1 1 Q e f).bind fun a =>
 (ag .other .quo P (vw 128)).bind fun g =>
 rq a.1 g R a.2 :=
 (bt rfl (DA [1, 0, 4, 5, 1, 4]) 1 (Z9) (by kernel_rfl))
theorem r9 : A7 Q P R H = HF Q P R H :=
 (by kernel_rfl)
theorem xI : rq Q P R H =
 (ag .other .geq P (vw 128)).bind fun a =>
 aw a
 (HG Q P R H)
 (A7 Q P R H) :=
 qr rfl (zw) (pt rfl 0 (Z8) (by kernel_rfl))
theorem II : HE Q P R H =
 rq Q P R H :=
 (pt rfl 0 (NM) (bt rfl (DA [1, 0, 4]) 0 (zy) (li rfl (DA [1, 0, 4, 5]) (zw) (by kernel_rfl))))
noncomputable def akM : OV := aM PP GG FF (DA []) (ls [Q, P] 19) H zx bg zx
theorem R5 {r : Value × AH} (h : (
 HE Q P (.slice none 0 0) H) = some r) : FF cQ [Q, P] H = some r :=
 fo (t := akM Q P H) Tryz.func27 (by kernel_rfl) (Eq.trans (pt rfl 0 (Z6) (by kernel_rfl)) h)
theorem MC {r : Value × AH} (h : (
 (ag .other .geq Q (vi 0)).bind fun a =>
 (gV a true Q).bind fun b =>
 (gB a true (ag .other .lss b (vi 2147483648))).bind fun c =>
 (aE a c (vb false)).bind fun d =>
 some (d, H)) = some r) : FF ik [Q] H = some r :=
 fo Tryz.func28 (by kernel_rfl) h
theorem Hu {r : Value × AH} (h : (
 bA (Value.cells Q).toList H fun a l =>
 ld [.f 0] a l fun m =>
 (FF ew [m, (vi 1), (vi 4)] l).bind fun b =>
 lp b.1 true  [.f 1] a b.2 fun n =>
 (gE b.1 true b.2 (FF ew [n, (vi 1), (vi 4)] b.2)).bind fun c =>
 (aE b.1 c.1 (vb false)).bind fun g =>
 lp g true  [.f 2] a c.2 fun o =>
 (gE g true c.2 (FF ew [o, (vi 1), (vi 6)] c.2)).bind fun d =>
 (aE g d.1 (vb false)).bind fun i =>
 lp i true  [.f 3] a d.2 fun p =>
 (gE i true d.2 (FF ew [p, (vi 0), (vi 40)] d.2)).bind fun e =>
 (aE i e.1 (vb false)).bind fun j =>
 lp j true  [.f 4] a e.2 fun q =>
 (gB j true (ag .other .geq q (vw 1))).bind fun s =>
 (aE j s (vb false)).bind fun k =>
 lp k true  [.f 4] a e.2 fun t =>
 (gB k true (ag .other .leq t (vw 4611686018427387904))).bind fun w =>
 (aE k w (vb false)).bind fun y =>
 some (y, e.2)) = some r) : FF gA [Q] H = some r :=
 fo Tryz.func33 (by kernel_rfl) h
noncomputable def wX (p : List Nat) : Code := Code.sub (bh Tryz.f37) p
noncomputable def tp : KK := ed PP (Tryz.f37).results.toList
noncomputable def aaY : KK := CQ (wX [1, 1]) tp bg tp
noncomputable def xq : OV := aaY (ls [Q, u, O, N] 17) H
noncomputable def Qv : KK := CQ (wX [1, 1, 1]) tp bg tp
noncomputable def aaW : KK := bX 2097139 Qv
noncomputable def xr : OV := Qv (ls [u, u, O, N] 17) H
noncomputable def aa0 : KK := CQ (wX [1, 1, 0, 1]) aaW bg tp
noncomputable def xu : OV := aa0 (ls [Q, u, O, N, R] 16) H
noncomputable def Qy : KX := BX 0 aaW bg
noncomputable def LB : KX := iz 2097139 (Qy)
noncomputable def Qw : KK := qq (wX [1, 1, 0, 1, 4, 5]) LB tp
noncomputable def aaX : KK := bX 2097122 Qw
noncomputable def ks : OV := Qw (ls [Q, u, O, N, R] 16) H
noncomputable def aa2 : KK := CQ (wX [1, 1, 0, 1, 4, 5, 1]) aaX LB tp
noncomputable def xv : OV := aa2 (ls [Q, u, O, N, R] 16) H
noncomputable def Qx : KK := CQ (wX [1, 1, 0, 1, 4, 5, 1, 1]) aaX LB tp
noncomputable def anD : KK := bX 2097122 Qx
noncomputable def xw : OV := Qx (ls [Q, u, O, N, R] 16) H
noncomputable def anE : KX := BX 1 anD LB
noncomputable def rY : OV := Qy 0 (ls [u, u, O, N] 17) H
theorem nz : af 2097147 tp := rf
theorem aaZ : af 2097138 aaY := rc nz am nz
theorem GL : af 2097139 Qv := rc nz am nz
theorem aa1 : af 2097122 aa0 := rc (cd (GL)) am nz
theorem tq : ∀ i, af 2097139 (Qy i) := rb (cd (GL)) am
theorem zB : af 2097122 Qw := rl (cx (tq)) nz
theorem aa3 : af 2097122 aa2 := rc (cd (zB)) (cx (tq)) nz
theorem NO : af 2097122 Qx := rc (cd (zB)) (cx (tq)) nz
theorem aa4 : ∀ i, af 2097122 (anE i) := rb (cd (NO)) (cx (tq))
theorem CH : xr O N H =
 some (N, H) :=
 (by kernel_rfl)
theorem CM : xw Q O N R H =
 (ag .other .add R (vi 1)).bind fun a =>
 ks Q O N a H :=
 (by kernel_rfl)
theorem CJ : xv Q O N R H =
 (ag .other .add (vi 1) R).bind fun b =>
 (ag .other .rem R (vi 2)).bind fun c =>
 (ag .other .add (vi 2) c).bind fun d =>
 wn [(0, 1), (1, 1), (2, 1), (3, 1)] [(vi 0), (vi 0), (vi 0), (vi 0)] [(0, (vi 1)), (1, R), (2, b), (3, d)] fun e =>
 la 1 4 [(vi 0), (vi 0), (vi 0), (vi 0)] [(0, e)] H fun f g =>
 (cz 4 32 N f g).bind fun a =>
 xw Q O a.1 R a.2 :=
 (pt rfl 0 (NO) (bt rfl (wX [1, 1, 0, 1, 4, 5, 1, 0, 4]) 1 (aa4) (by kernel_rfl)))
theorem yO : rY O N H = xr O N H :=
 (by kernel_rfl)
theorem pP : ks Q O N R H =
 (ag .other .lss R Q).bind fun a =>
 aw a
 (xv Q O N R H)
 (rY O N H) :=
 qr rfl (zB) (pt rfl 0 (aa3) (by kernel_rfl))
theorem CI : xu Q O N R H =
 ks Q O N R H :=
 (bt rfl (wX [1, 1, 0, 1, 4]) 0 (tq) (li rfl (wX [1, 1, 0, 1, 4, 5]) (zB) (by kernel_rfl)))
theorem CG : xq Q O N H =
 xu Q O N (vi 0) H :=
 (pt rfl 0 (GL) (pt rfl 0 (aa1) (by kernel_rfl)))
noncomputable def RY : OV := aM PP GG FF (wX []) (ls [Q] 20) H tp bg tp
theorem IF {r : Value × AH} (h : (
 xq Q (.slice none 0 0) (.slice none 0 0) H) = some r) : FF q9 [Q] H = some r :=
 fo (t := RY Q H) Tryz.func37 (by kernel_rfl) (Eq.trans (pt rfl 1 (aaZ) (by kernel_rfl)) h)
noncomputable def rI (p : List Nat) : Code := Code.sub (bh Tryz.f38) p
noncomputable def tr : KK := ed PP (Tryz.f38).results.toList
noncomputable def aa5 : KK := CQ (rI [1, 1, 1]) tr bg tr
noncomputable def Al : OV := aa5 (ls [u, P, O, N] 61) H
noncomputable def Qz : KK := CQ (rI [1, 1, 1, 1]) tr bg tr
noncomputable def GM : KK := bX Dq Qz
noncomputable def cU : OV := Qz (ls [u, u, O, N] 61) H
noncomputable def aa7 : KK := CQ (rI [1, 1, 1, 0, 1]) GM bg tr
noncomputable def Am : OV := aa7 (ls [u, P, O, N, u, u, u, u, u, u, u, u, u, u, u, S] 49) H
noncomputable def abB : KX := BX 0 GM bg
noncomputable def QA : KX := iz Dq (abB)
noncomputable def aa9 : KK := CQ (rI [1, 1, 1, 0, 1, 4, 1]) GM QA tr
noncomputable def An : OV := aa9 (ls [u, P, O, N, u, u, u, u, u, u, u, u, u, u, u, S, u, u, u, u, u, u, u, u, u, u, u, u, u, u, u, u, u, u, u, x35] 29) H
noncomputable def Uo : KK := CQ (rI [1, 1, 1, 0, 1, 4, 1, 3, 1]) GM QA tr
noncomputable def xj : OV := Uo (ls [u, P, O, N, u, u, u, u, u, u, u, u, u, u, u, S, u, u, u, u, u, u, u, u, u, u, u, u, u, u, u, u, u, u, u, u, u, u, u, u, u, u, u, u, u, u, u, u, x48] 16) H
noncomputable def Uq : KK := CQ (rI [1, 1, 1, 0, 1, 4, 1, 3, 1, 3, 1]) GM QA tr
noncomputable def ko : OV := Uq (ls [u, P, O, N, u, u, u, u, u, u, u, u, u, u, u, S, u, u, u, u, u, u, u, u, u, u, u, u, u, u, u, u, u, u, u, u, u, u, u, u, u, u, u, u, u, u, u, u, u, u, u, x51] 13) H
theorem nA : af 36893488147419103227 tr := rf
theorem aa6 : af 36893488147419103217 aa5 := rc nA am nA
theorem pr : af Dq Qz := rc nA am nA
theorem aa8 : af 36893488147419070449 aa7 := rc (cd (pr)) am nA
theorem zC : ∀ i, af Dq (abB i) := rb (cd (pr)) am
theorem abA : af 36893488113059332081 aa9 := rc (cd (pr)) (cx (zC)) nA
theorem WM : af 36893206672442359793 Uo := rc (cd (pr)) (cx (zC)) nA
theorem WN : af 36891236347605385201 Uq := rc (cd (pr)) (cx (zC)) nA
theorem Ei : cU O N H =
 (aQ 4 N H).bind fun b =>
 (fT 4 O b H).bind fun a =>
 (aQ 4 O a).bind fun c => some (c, a) :=
 (by kernel_rfl)
theorem Cz : ko P O N S x51 H =
 aw x51
 (wn [(0, 1), (1, 1), (2, 1), (3, 1)] [(vi 0), (vi 0), (vi 0), (vi 0)] [(0, (vi 4))] fun j =>
 (fT 4 N j H).bind fun k =>
 cU O N k)
 ((ag .other .eql S (vi 8)).bind fun l =>
 aw l
 (ld [.f 2] P H fun m =>
 (FF aD [m, (vi 6)] H).bind fun d =>
 wn [(0, 1), (1, 1), (2, 1), (3, 1)] [(vi 0), (vi 0), (vi 0), (vi 0)] [(0, (vi 5)), (2, d.1)] fun n =>
 (fT 4 N n d.2).bind fun o =>
 cU O N o)
 ((ag .other .eql S (vi 9)).bind fun p =>
 aw p
 (wn [(0, 1), (1, 1), (2, 1), (3, 1)] [(vi 0), (vi 0), (vi 0), (vi 0)] [(0, (vi 6))] fun q =>
 (fT 4 N q H).bind fun s =>
 cU O N s)
 (ld [.f 2] P H fun t =>
 (FF aD [t, (vi 9)] H).bind fun a =>
 (ag .other .add (vi 1) a.1).bind fun w =>
 ad [.f 3] P fun c =>
 (aA c a.2).bind fun y =>
 ic (aA c H) (aA c a.2) <|
 (FF aD [y, (vi 1000)] a.2).bind fun e =>
 st 1 [.f 0] N (vi 3) e.2 fun z =>
 st 1 [.f 2] N w z fun A =>
 st 1 [.f 3] N e.1 A fun g =>
 ld [.f 2] P g fun B =>
 (FF aD [B, (vi 13)] g).bind fun b =>
 (ag .other .eql b.1 (vi 12)).bind fun C =>
 aw C
 (ld [.f 2] P b.2 fun D =>
 (FF aD [D, (vi 65536)] b.2).bind fun i =>
 (ag .other .add (vi 1) i.1).bind fun E =>
 st 1 [.f 2] N E i.2 fun G =>
 cU O N G)
 (cU O N b.2)))) :=
 (by kernel_rfl)
theorem Cy : xj P O N S x48 H =
 aw x48
 (st 1 [.f 0] N (vi 2) H fun b =>
 cU O N b)
 ((ag .other .eql S (vi 6)).bind fun a =>
 aw a
 (ko P O N S a H)
 ((ag .other .eql S (vi 7)).bind fun c =>
 ko P O N S c H)) :=
 (ct rfl (rI [1, 1, 1, 0, 1, 4, 1, 3, 1, 2]) (rI [1, 1, 1, 0, 1, 4, 1, 3, 1, 3]) (.tmp 48) (by kernel_rfl) (pt rfl 0 (WN) (by kernel_rfl)))
theorem Ek : An P O N S x35 H =
 aw x35
 (ld [.f 2] P H fun d =>
 (FF aD [d, (vi 5)] H).bind fun a =>
 (ag .other .add (vi 1) a.1).bind fun e =>
 ad [.f 3] P fun b =>
 (aA b a.2).bind fun g =>
 ic (aA b H) (aA b a.2) <|
 (FF aD [g, (vi 3)] a.2).bind fun c =>
 (ag .other .add (vi 1) c.1).bind fun i =>
 st 1 [.f 0] N (vi 1) c.2 fun j =>
 st 1 [.f 2] N e j fun k =>
 st 1 [.f 3] N i k fun l =>
 cU O N l)
 ((ag .other .eql S (vi 1)).bind fun m =>
 xj P O N S m H) :=
 (ct rfl (rI [1, 1, 1, 0, 1, 4, 1, 2]) (rI [1, 1, 1, 0, 1, 4, 1, 3]) (.tmp 35) (by kernel_rfl) (pt rfl 0 (WM) (by kernel_rfl)))
theorem Ej : Am P O N S H =
 (ag .other .eql S (vi 0)).bind fun a =>
 An P O N S a H :=
 (bt rfl (rI [1, 1, 1, 0, 1, 4]) 0 (zC) (pt rfl 0 (abA) (by kernel_rfl)))
theorem Eh : Al P O N H =
 ld [.f 0] P H fun b =>
 (FF aD [b, (vi 10)] H).bind fun a =>
 Am P O N a.1 a.2 :=
 (pt rfl 0 (pr) (pt rfl 0 (aa8) (by kernel_rfl)))
noncomputable def Xj : OV := aM PP GG FF (rI []) (ls [Q] 64) H tr bg tr
theorem Mx {r : Value × AH} (h : (
 bA (Value.cells Q).toList H fun b j =>
 bA [(vi 0), (vi 0), (vi 0), (vi 0)] j fun c d =>
 ld [.f 1] b d fun k =>
 (FF aD [k, (vi 23)] d).bind fun a =>
 (ag .other .eql a.1 (vi 22)).bind fun l =>
 aw l
 ((aQ 4 b a.2).bind fun m =>
 (fT 4 c m a.2).bind fun e =>
 (aQ 4 c e).bind fun n => some (n, e))
 (ld [.f 1] b a.2 fun o =>
 (FF aD [o, (vi 5)] a.2).bind fun g =>
 wn [(0, 1), (1, 1), (2, 1), (3, 1)] [(vi 0), (vi 0), (vi 0), (vi 0)] [(1, g.1)] fun p =>
 bA [(vi 0), (vi 0), (vi 0), (vi 0)] g.2 fun i q =>
 (fT 4 i p q).bind fun s =>
 Al b c i s)) = some r) : FF t9 [Q] H = some r :=
 fo (t := Xj Q H) Tryz.func38 (by kernel_rfl) (Eq.trans (pt rfl 2 (aa6) (by kernel_rfl)) h)
noncomputable def iL (p : List Nat) : Code := Code.sub (bh Tryz.f39) p
noncomputable def iM : KK := ed PP (Tryz.f39).results.toList
noncomputable def abF : KK := CQ (iL [1, 1]) iM bg iM
noncomputable def BC : OV := abF (ls [u, P, O, N, R] 69) H
noncomputable def QB : KK := CQ (iL [1, 1, 1]) iM bg iM
noncomputable def abC : KK := bX Nd QB
noncomputable def rC : OV := QB (ls [u, P, O, N, R] 69) H
noncomputable def abH : KK := CQ (iL [1, 1, 1, 1, 1, 1]) iM bg iM
noncomputable def BD : OV := abH (ls [u, P, O, N, u, u, u, x7] 66) H
noncomputable def QC : KK := CQ (iL [1, 1, 1, 1, 1, 1, 1]) iM bg iM
noncomputable def abD : KK := bX SQ QC
noncomputable def BF : OV := QC (ls [u, u, O, N, u, u, u, x7] 66) H
noncomputable def abJ : KK := CQ (iL [1, 1, 1, 1, 1, 1, 0, 1]) abD bg iM
noncomputable def BG : OV := abJ (ls [u, u, O, N, u, u, u, x7, u, u, u, u, u, u, u, u, u, u, u, u, u, u, u, u, u, u, u, u, u, u, u, u, u, u, u, u, u, u, u, u, u, u, u, u, u, u, u, u, u, u, u, u, u, u, u, u, x56, x57, T] 15) H
noncomputable def QF : KX := BX 2 abD bg
noncomputable def LF : KX := iz SQ (QF)
noncomputable def QD : KK := qq (iL [1, 1, 1, 1, 1, 1, 0, 1, 4, 5]) LF iM
noncomputable def abE : KK := bX FR QD
noncomputable def lZ : OV := QD (ls [u, u, O, N, u, u, u, x7, u, u, u, u, u, u, u, u, u, u, u, u, u, u, u, u, u, u, u, u, u, u, u, u, u, u, u, u, u, u, u, u, u, u, u, u, u, u, u, u, u, u, u, u, u, u, u, u, x56, x57, T] 15) H
noncomputable def abL : KK := CQ (iL [1, 1, 1, 1, 1, 1, 0, 1, 4, 5, 1, 1]) abE LF iM
noncomputable def BH : OV := abL (ls [u, u, O, N, u, u, u, x7, u, u, u, u, u, u, u, u, u, u, u, u, u, u, u, u, u, u, u, u, u, u, u, u, u, u, u, u, u, u, u, u, u, u, u, u, u, u, u, u, u, u, u, u, u, u, u, u, x56, x57, T] 15) H
noncomputable def QE : KK := CQ (iL [1, 1, 1, 1, 1, 1, 0, 1, 4, 5, 1, 1, 1]) abE LF iM
noncomputable def anF : KK := bX FR QE
noncomputable def BI : OV := QE (ls [u, u, O, N, u, u, u, x7, u, u, u, u, u, u, u, u, u, u, u, u, u, u, u, u, u, u, u, u, u, u, u, u, u, u, u, u, u, u, u, u, u, u, u, u, u, u, u, u, u, u, u, u, u, u, u, u, x56, x57, T] 15) H
noncomputable def ajI : KX := BX 3 anF LF
noncomputable def vr : OV := QF 2 (ls [u, u, O, N, u, u, u, x7] 66) H
noncomputable def Us : KK := CQ (iL [1, 1, 0, 1]) abC bg iM
noncomputable def xX : OV := Us (ls [u, P, O, N, R, u, u, u, u, u, u, V, W, U] 60) H
noncomputable def LE : KX := BX 0 abC bg
noncomputable def Fg : KX := iz Nd (LE)
noncomputable def LC : KK := qq (iL [1, 1, 0, 1, 4, 5]) Fg iM
noncomputable def Ur : KK := bX FS LC
noncomputable def kD : OV := LC (ls [u, P, O, N, R, u, u, u, u, u, u, V, W, U] 60) H
noncomputable def Ut : KK := CQ (iL [1, 1, 0, 1, 4, 5, 1, 1]) Ur Fg iM
noncomputable def xY : OV := Ut (ls [u, P, O, N, R, u, u, u, u, u, u, V, W, U] 60) H
noncomputable def LD : KK := CQ (iL [1, 1, 0, 1, 4, 5, 1, 1, 1]) Ur Fg iM
noncomputable def ajH : KK := bX FS LD
noncomputable def xZ : OV := LD (ls [u, P, O, N, R, u, u, u, u, u, u, V, W, U] 60) H
noncomputable def ajJ : KX := BX 1 ajH Fg
noncomputable def si : OV := LE 0 (ls [u, P, O, N, R] 69) H
theorem eg : af 18889465931478580854771 iM := rf
theorem abG : af Nd abF := rc eg am eg
theorem GN : af Nd QB := rc eg am eg
theorem abI : af 18889465931478580854641 abH := rc eg am eg
theorem GO : af SQ QC := rc eg am eg
theorem abK : af FR abJ := rc (cd (GO)) am eg
theorem tt : ∀ i, af SQ (QF i) := rb (cd (GO)) am
theorem zD : af FR QD := rl (cx (tt)) eg
theorem abM : af FR abL := rc (cd (zD)) (cx (tt)) eg
theorem NP : af FR QE := rc (cd (zD)) (cx (tt)) eg
theorem WQ : ∀ i, af FR (ajI i) := rb (cd (NP)) (cx (tt))
theorem WO : af FS Us := rc (cd (GN)) am eg
theorem pw : ∀ i, af Nd (LE i) := rb (cd (GN)) am
theorem wc : af FS LC := rl (cx (pw)) eg
theorem WP : af FS Ut := rc (cd (wc)) (cx (pw)) eg
theorem Jr : af FS LD := rc (cd (wc)) (cx (pw)) eg
theorem WR : ∀ i, af FS (ajJ i) := rb (cd (Jr)) (cx (pw))
theorem EL : BF O N x7 H =
 some (Value.tuple #[x7, (vi 0)], H) :=
 (by kernel_rfl)
theorem EO : BI O N x7 x56 x57 T H =
 (ag .other .add T (vi 1)).bind fun a =>
 lZ O N x7 x56 x57 a H :=
 (by kernel_rfl)
theorem EN : BH O N x7 x56 x57 T H =
 ld [.i 1 T] x56 H fun c =>
 ad [.n, .f 1] x7 fun a =>
 (aA a H).bind fun d =>
 (FF cR [c] H).bind fun b =>
 ic (aA a b.2) (aA a H) <|
 st 1 [.i 3 T, .f 0] d b.1 b.2 fun e =>
 BI O N x7 x56 x57 T e :=
 (pt rfl 0 (NP) (bt rfl (iL [1, 1, 1, 1, 1, 1, 0, 1, 4, 5, 1, 1, 0, 4]) 3 (WQ) (by kernel_rfl)))
theorem BB : vr O N x7 H = BF O N x7 H :=
 (by kernel_rfl)
theorem sj : lZ O N x7 x56 x57 T H =
 (ag .other .lss T x57).bind fun a =>
 aw a
 (BH O N x7 x56 x57 T H)
 (vr O N x7 H) :=
 qr rfl (zD) (pt rfl 1 (abM) (by kernel_rfl))
theorem EM : BG O N x7 x56 x57 T H =
 lZ O N x7 x56 x57 T H :=
 (bt rfl (iL [1, 1, 1, 1, 1, 1, 0, 1, 4]) 2 (tt) (li rfl (iL [1, 1, 1, 1, 1, 1, 0, 1, 4, 5]) (zD) (by kernel_rfl)))
theorem EK : BD P O N x7 H =
 ld [.f 5] P H fun a =>
 cB a fun b =>
 BG O N x7 a b (vi 0) H :=
 (pt rfl 0 (GO) (pt rfl 0 (abK) (by kernel_rfl)))
theorem EJ : rC P O N R H =
 ldN 5 [.f 0] P H fun k =>
 (FF gA [k] H).bind fun a =>
 (xi .not a.1).bind fun b =>
 lp b false  [.f 5] P a.2 fun l =>
 (za (yv b) false (cB l some) (some undef)).bind fun m =>
 lp b false  [.f 0, .f 2] P a.2 fun o =>
 (gB b false (ag .other .gtr m o)).bind fun p =>
 (aE b (vb true) p).bind fun c =>
 (gV c false R).bind fun q =>
 (gB c false (ag .other .gtr q (vi 60))).bind fun s =>
 (aE c (vb true) s).bind fun t =>
 aw t
 (some (Value.tuple #[(.pointer none), (vi 1)], a.2))
 (ld [.f 0, .f 2] P a.2 fun e =>
 (mD [(.slice none 0 0), (.slice none 0 0), Value.nilFunc] 3 56 e e a.2).bind fun g =>
 wn [(0, 1), (1, 1), (2, 1), (3, 1)] [(.pointer none), (.slice none 0 0), (vi 0), (vi 0)] [(1, g.1), (3, R)] fun w =>
 bA (Value.cells w).toList g.2 fun i j =>
 ldN 5 [.f 0] P j fun y =>
 (FF t8 [y] j).bind fun d =>
 (ar d.1 0).bind fun z =>
 (ar d.1 1).bind fun B =>
 st 1 [.n, .f 0] i z d.2 fun A =>
 BD P O N i A) :=
 (pt rfl 2 (abI) (by kernel_rfl))
theorem Dk : xZ P O N R V W U H =
 (ag .other .add U (vi 1)).bind fun a =>
 kD P O N R V W a H :=
 (by kernel_rfl)
theorem Dj : xY P O N R V W U H =
 ld [.i 1 U] V H fun a =>
 cB a fun b =>
 (ag .other .add R b).bind fun c =>
 xZ P O N c V W U H :=
 (pt rfl 0 (Jr) (bt rfl (iL [1, 1, 0, 1, 4, 5, 1, 1, 0, 4]) 1 (WR) (by kernel_rfl)))
theorem y9 : si P O N R H = rC P O N R H :=
 (by kernel_rfl)
theorem qo : kD P O N R V W U H =
 (ag .other .lss U W).bind fun a =>
 aw a
 (xY P O N R V W U H)
 (si P O N R H) :=
 qr rfl (wc) (pt rfl 1 (WP) (by kernel_rfl))
theorem Dh : xX P O N R V W U H =
 kD P O N R V W U H :=
 (bt rfl (iL [1, 1, 0, 1, 4]) 0 (pw) (li rfl (iL [1, 1, 0, 1, 4, 5]) (wc) (by kernel_rfl)))
theorem EI : BC P O N R H =
 ld [.f 5] P H fun a =>
 cB a fun b =>
 xX P O N R a b (vi 0) H :=
 (pt rfl 0 (GN) (pt rfl 0 (WO) (by kernel_rfl)))
noncomputable def XV : OV := aM PP GG FF (iL []) (ls [Q] 73) H iM bg iM
theorem MW {r : Value × AH} (h : (
 bA (Value.cells Q).toList H fun a b =>
 BC a (.pointer none) (vi 0) (vi 0) b) = some r) : FF uh [Q] H = some r :=
 fo (t := XV Q H) Tryz.func39 (by kernel_rfl) (Eq.trans (pt rfl 1 (abG) (by kernel_rfl)) h)
theorem MA {r : Value × AH} (h : (
 bA (Value.cells Q).toList H fun b a =>
 ld [.f 0] b a fun n =>
 (ag .other .geq n (vi 1)).bind fun c =>
 lp c true  [.f 0] b a fun o =>
 (gB c true (ag .other .leq o (vi 4))).bind fun p =>
 (aE c p (vb false)).bind fun d =>
 lp d true  [.f 1] b a fun q =>
 (gB d true (ag .other .geq q (vi 1))).bind fun s =>
 (aE d s (vb false)).bind fun e =>
 lp e true  [.f 1] b a fun t =>
 (gB e true (ag .other .leq t (vi 4))).bind fun w =>
 (aE e w (vb false)).bind fun g =>
 lp g true  [.f 2] b a fun y =>
 (gB g true (ag .other .geq y (vi 1))).bind fun z =>
 (aE g z (vb false)).bind fun i =>
 lp i true  [.f 2] b a fun A =>
 (gB i true (ag .other .leq A (vi 6))).bind fun B =>
 (aE i B (vb false)).bind fun j =>
 lp j true  [.f 3] b a fun C =>
 (gB j true (ag .other .geq C (vi 0))).bind fun D =>
 (aE j D (vb false)).bind fun k =>
 lp k true  [.f 3] b a fun E =>
 (gB k true (ag .other .leq E (vi 40))).bind fun G =>
 (aE k G (vb false)).bind fun l =>
 lp l true  [.f 4] b a fun I =>
 (gB l true (ag .other .geq I (vw 1))).bind fun J =>
 (aE l J (vb false)).bind fun m =>
 lp m true  [.f 4] b a fun K =>
 (gB m true (ag .other .leq K (vw 4611686018427387904))).bind fun L =>
 (aE m L (vb false)).bind fun M =>
 some (M, a)) = some r) : FF ub [Q] H = some r :=
 fo Tryz.func40 (by kernel_rfl) h
noncomputable def wY (p : List Nat) : Code := Code.sub (bh Tryz.f41) p
noncomputable def tu : KK := ed PP (Tryz.f41).results.toList
noncomputable def abP : KK := CQ (wY [1, 1]) tu bg tu
noncomputable def AG : OV := abP (ls [u, P, O, N] 17) H
noncomputable def QG : KK := CQ (wY [1, 1, 1]) tu bg tu
noncomputable def abN : KK := bX 2097139 QG
noncomputable def AI : OV := QG (ls [u, u, O, N] 17) H
noncomputable def abR : KK := CQ (wY [1, 1, 0, 1]) abN bg tu
noncomputable def AJ : OV := abR (ls [u, P, O, N, R] 16) H
noncomputable def QJ : KX := BX 0 abN bg
noncomputable def LG : KX := iz 2097139 (QJ)
noncomputable def QH : KK := qq (wY [1, 1, 0, 1, 4, 5]) LG tu
noncomputable def abO : KK := bX 2097121 QH
noncomputable def lV : OV := QH (ls [u, P, O, N, R] 16) H
noncomputable def abT : KK := CQ (wY [1, 1, 0, 1, 4, 5, 1]) abO LG tu
noncomputable def AK : OV := abT (ls [u, P, O, N, R] 16) H
noncomputable def QI : KK := CQ (wY [1, 1, 0, 1, 4, 5, 1, 1]) abO LG tu
noncomputable def anG : KK := bX 2097121 QI
noncomputable def AL : OV := QI (ls [u, P, O, N, R] 16) H
noncomputable def anH : KX := BX 1 anG LG
noncomputable def ut : OV := QJ 0 (ls [u, u, O, N] 17) H
theorem nB : af 2097147 tu := rf
theorem abQ : af 2097137 abP := rc nB am nB
theorem GP : af 2097139 QG := rc nB am nB
theorem abS : af 2097121 abR := rc (cd (GP)) am nB
theorem tv : ∀ i, af 2097139 (QJ i) := rb (cd (GP)) am
theorem zE : af 2097121 QH := rl (cx (tv)) nB
theorem abU : af 2097121 abT := rc (cd (zE)) (cx (tv)) nB
theorem NQ : af 2097121 QI := rc (cd (zE)) (cx (tv)) nB
theorem abV : ∀ i, af 2097121 (anH i) := rb (cd (NQ)) (cx (tv))
theorem Ey : AI O N H =
 some (N, H) :=
 (by kernel_rfl)
theorem EB : AL P O N R H =
 (ag .other .add R (vi 1)).bind fun a =>
 lV P O N a H :=
 (by kernel_rfl)
theorem EA : AK P O N R H =
 ld [.f 5] P H fun a =>
 ld [.i 1 R] a H fun b =>
 cB b fun c =>
 (ag .other .add N c).bind fun d =>
 AL P O d R H :=
 (pt rfl 0 (NQ) (bt rfl (wY [1, 1, 0, 1, 4, 5, 1, 0, 4]) 1 (abV) (by kernel_rfl)))
theorem AF : ut O N H = AI O N H :=
 (by kernel_rfl)
theorem r7 : lV P O N R H =
 ld [.f 5] P H fun a =>
 cB a fun b =>
 (ag .other .lss R b).bind fun c =>
 aw c
 (AK P O N R H)
 (ut O N H) :=
 qr rfl (zE) (pt rfl 0 (abU) (by kernel_rfl))
theorem Ez : AJ P O N R H =
 lV P O N R H :=
 (bt rfl (wY [1, 1, 0, 1, 4]) 0 (tv) (li rfl (wY [1, 1, 0, 1, 4, 5]) (zE) (by kernel_rfl)))
theorem Ex : AG P O N H =
 AJ P O N (vi 0) H :=
 (pt rfl 0 (GP) (pt rfl 0 (abS) (by kernel_rfl)))
noncomputable def Xq : OV := aM PP GG FF (wY []) (ls [Q] 20) H tu bg tu
theorem MB {r : Value × AH} (h : (
 bA (Value.cells Q).toList H fun a b =>
 AG a (vi 0) (vi 0) b) = some r) : FF uc [Q] H = some r :=
 fo (t := Xq Q H) Tryz.func41 (by kernel_rfl) (Eq.trans (pt rfl 1 (abQ) (by kernel_rfl)) h)
theorem Ee {r : Value × AH} (h : (
 (ag .other .geq Q P).bind fun a =>
 (gV a true Q).bind fun b =>
 (gV a true O).bind fun c =>
 (gB a true (ag .other .leq b c)).bind fun d =>
 (aE a d (vb false)).bind fun e =>
 some (e, H)) = some r) : FF ew [Q, P, O] H = some r :=
 fo Tryz.func55 (by kernel_rfl) h
theorem Mw {r : Value × AH} (h : (
 bA (Value.cells Q).toList H fun a m =>
 (aQ 5 a m).bind fun n =>
 (FF gA [n] m).bind fun j =>
 (xi .not j.1).bind fun o =>
 aw o
 (some (Value.tuple #[(.pointer none), (vi 1)], j.2))
 ((FF Ct [] j.2).bind fun b =>
 ld [.f 0] a b.2 fun p =>
 (FF t7 [b.1, p] b.2).bind fun c =>
 ad [.f 0] a fun k =>
 (aA k c.2).bind fun q =>
 ic (aA k b.2) (aA k c.2) <|
 ad [.f 1] a fun l =>
 (aA l c.2).bind fun s =>
 ic (aA l b.2) (aA l c.2) <|
 (FF uf [b.1, q, s] c.2).bind fun d =>
 ad [.f 2] a fun i =>
 (aA i d.2).bind fun t =>
 ic (aA i b.2) (aA i d.2) <|
 ic (aA i c.2) (aA i d.2) <|
 (FF yG [b.1, t] d.2).bind fun e =>
 (aQ 5 a e.2).bind fun w =>
 ic (aQ 5 a b.2) (aQ 5 a e.2) <|
 ic (aQ 5 a c.2) (aQ 5 a e.2) <|
 ic (aQ 5 a d.2) (aQ 5 a e.2) <|
 (FF yE [w] e.2).bind fun g =>
 (aQ 5 a g.2).bind fun y =>
 ic (aQ 5 a b.2) (aQ 5 a g.2) <|
 ic (aQ 5 a c.2) (aQ 5 a g.2) <|
 ic (aQ 5 a d.2) (aQ 5 a g.2) <|
 ic (aQ 5 a e.2) (aQ 5 a g.2) <|
 IC g.2 fun z A =>
 wn [(0, 1), (1, 1), (2, 1), (3, 1), (4, 1), (5, 5), (10, 1), (11, 1), (12, 1)] [(.pointer none), (.pointer none), (.pointer none), (.pointer none), (.pointer none), (vi 0), (vi 0), (vi 0), (vi 0), (vw 0), (.slice none 0 0), (.map none), (.slice none 0 0)] [(0, b.1), (1, c.1), (2, d.1), (3, e.1), (4, g.1), (5, y), (7, z)] fun B =>
 bA (Value.cells B).toList A fun C D =>
 some (Value.tuple #[C, (vi 0)], D))) = some r) : FF t8 [Q] H = some r :=
 fo Tryz.func61 (by kernel_rfl) h
theorem jy {r : Value × AH} (h : (
 (ag .slice .eql Q (.slice none 0 0)).bind fun b =>
 aw b
 (some ((.slice none 0 0), H))
 (la 0 4 [(vi 0), (vi 0), (vi 0), (vi 0)] [] H fun c d =>
 (cz 4 32 c Q d).bind fun a =>
 some (a.1, a.2))) = some r) : FF cR [Q] H = some r :=
 fo Tryz.func62 (by kernel_rfl) h
theorem RK (H : AH) {r : Value × AH} (h : (
 IC H fun a b =>
 wn [(0, 1), (1, 1)] [(.map none), (.slice none 0 0)] [(0, a)] fun c =>
 bA (Value.cells c).toList b fun d e =>
 some (d, e)) = some r) : FF Ct [] H = some r :=
 fo Tryz.func73 (by kernel_rfl) h
theorem Me {r : Value × AH} (h : (
 (pM [P, (vi 1)]).bind fun a =>
 (pN [a, (vi 4)]).bind fun b =>
 IC H fun c d =>
 wn [(0, 1), (1, 1), (2, 1), (3, 1), (4, 1)] [(.pointer none), (vi 0), (.map none), Value.nilFunc, Value.nilFunc] [(0, Q), (1, b), (2, c), (3, (.func (.func rW) #[(vi 9)] #[])), (4, (.func (.func rW) #[(vi 14)] #[]))] fun e =>
 bA (Value.cells e).toList d fun f g =>
 some (f, g)) = some r) : FF t7 [Q, P] H = some r :=
 fo Tryz.func74 (by kernel_rfl) h
theorem MP {r : Value × AH} (h : (
 (pM [P, (vi 1)]).bind fun a =>
 (pN [a, (vi 4)]).bind fun b =>
 (pM [O, (vi 1)]).bind fun c =>
 (pN [c, (vi 4)]).bind fun d =>
 wn [(0, 1), (1, 1), (2, 1)] [(.pointer none), (vi 0), (vi 0)] [(0, Q), (1, b), (2, d)] fun e =>
 bA (Value.cells e).toList H fun f g =>
 some (f, g)) = some r) : FF uf [Q, P, O] H = some r :=
 fo Tryz.func75 (by kernel_rfl) h
theorem Ov {r : Value × AH} (h : (
 (pM [P, (vi 1)]).bind fun a =>
 (pN [a, (vi 6)]).bind fun b =>
 IC H fun c d =>
 IC d fun e f =>
 wn [(0, 1), (1, 1), (2, 1), (3, 1)] [(.pointer none), (vi 0), (.map none), (.map none)] [(0, Q), (1, b), (2, c), (3, e)] fun g =>
 bA (Value.cells g).toList f fun i j =>
 some (i, j)) = some r) : FF yG [Q, P] H = some r :=
 fo Tryz.func76 (by kernel_rfl) h
theorem Nt {r : Value × AH} (h : (
 bA (Value.cells Q).toList H fun c b =>
 ld [.f 0] c b fun d =>
 ld [.f 3] c b fun e =>
 (FF ua [d, e] b).bind fun a =>
 IC a.2 fun g i =>
 IC i fun j k =>
 wn [(0, 1), (1, 1), (2, 1), (3, 1), (4, 1), (5, 1), (6, 1), (7, 1), (8, 3)] [Value.nilFunc, Value.nilFunc, Value.nilFunc, (vw 0), (vw 0), (vi 0), (.map none), (.map none), (vb false), (vi 0), (vw 0)] [(0, (.func (.func yH) #[a.1] #[])), (1, (.func (.func Ah) #[a.1] #[])), (2, (.func (.func Ag) #[a.1] #[])), (6, g), (7, j)] fun l =>
 bA (Value.cells l).toList k fun m n =>
 some (m, n)) = some r) : FF yE [Q] H = some r :=
 fo Tryz.func77 (by kernel_rfl) h
noncomputable def w6 (p : List Nat) : Code := Code.sub (bh Tryz.f94) p
noncomputable def tN : KK := ed PP (Tryz.f94).results.toList
noncomputable def aeV : KK := CQ (w6 [1, 1, 1]) tN bg tN
noncomputable def Ay : OV := aeV (ls [u, P, u, u, R, x5, x6] 23) H
noncomputable def Rm : KK := CQ (w6 [1, 1, 1, 1]) tN bg tN
noncomputable def aeT : KK := bX 1073741743 Rm
noncomputable def Az : OV := Rm (ls [u, u, u, u, R, u, x6] 23) H
noncomputable def aeX : KK := CQ (w6 [1, 1, 1, 0, 1]) aeT bg tN
noncomputable def AA : OV := aeX (ls [u, P, u, u, R, u, x6, u, u, u, u, u, u, u, X, S] 14) H
noncomputable def Rp : KX := BX 0 aeT bg
noncomputable def L5 : KX := iz 1073741743 (Rp)
noncomputable def Rn : KK := qq (w6 [1, 1, 1, 0, 1, 4, 5]) L5 tN
noncomputable def aeU : KK := bX FZ Rn
noncomputable def lU : OV := Rn (ls [u, P, u, u, R, u, x6, u, u, u, u, u, u, u, X, S] 14) H
noncomputable def aeZ : KK := CQ (w6 [1, 1, 1, 0, 1, 4, 5, 1, 1]) aeU L5 tN
noncomputable def AB : OV := aeZ (ls [u, P, u, u, R, u, x6, u, u, u, u, u, u, u, X, S] 14) H
noncomputable def Ro : KK := CQ (w6 [1, 1, 1, 0, 1, 4, 5, 1, 1, 1]) aeU L5 tN
noncomputable def anY : KK := bX FZ Ro
noncomputable def AC : OV := Ro (ls [u, P, u, u, R, u, x6, u, u, u, u, u, u, u, X, S] 14) H
noncomputable def anZ : KX := BX 1 anY L5
noncomputable def ur : OV := Rp 0 (ls [u, u, u, u, R, u, x6] 23) H
theorem nG : af 1073741807 tN := rf
theorem aeW : af 1073741709 aeV := rc nG am nG
theorem G7 : af 1073741743 Rm := rc nG am nG
theorem aeY : af FZ aeX := rc (cd (G7)) am nG
theorem tO : ∀ i, af 1073741743 (Rp i) := rb (cd (G7)) am
theorem zT : af FZ Rn := rl (cx (tO)) nG
theorem ae0 : af FZ aeZ := rc (cd (zT)) (cx (tO)) nG
theorem NY : af FZ Ro := rc (cd (zT)) (cx (tO)) nG
theorem ae1 : ∀ i, af FZ (anZ i) := rb (cd (NY)) (cx (tO))
theorem Es : Az R x6 H =
 some (x6, H) :=
 (by kernel_rfl)
theorem Ew : AC P R x6 X S H =
 (ag .other .add S (vi 1)).bind fun a =>
 lU P R x6 X a H :=
 (by kernel_rfl)
theorem Eu : AB P R x6 X S H =
 ad [.n, .f 0] x6 fun a =>
 (aA a H).bind fun d =>
 (FF ud [P] H).bind fun b =>
 ic (aA a b.2) (aA a H) <|
 la 1 1 [(.pointer none)] [(0, b.1)] b.2 fun e g =>
 (cz 1 8 d e g).bind fun c =>
 st 1 [.n, .f 0] x6 c.1 c.2 fun i =>
 AC P R x6 X S i :=
 (pt rfl 0 (NY) (bt rfl (w6 [1, 1, 1, 0, 1, 4, 5, 1, 1, 0, 4]) 1 (ae1) (by kernel_rfl)))
theorem Ax : ur R x6 H = Az R x6 H :=
 (by kernel_rfl)
theorem rZ : lU P R x6 X S H =
 (ag .other .lss S X).bind fun a =>
 aw a
 (AB P R x6 X S H)
 (ur R x6 H) :=
 qr rfl (zT) (pt rfl 1 (ae0) (by kernel_rfl))
theorem Et : AA P R x6 X S H =
 lU P R x6 X S H :=
 (bt rfl (w6 [1, 1, 1, 0, 1, 4]) 0 (tO) (li rfl (w6 [1, 1, 1, 0, 1, 4, 5]) (zT) (by kernel_rfl)))
theorem Er : Ay P R x5 x6 H =
 AA P R x6 x5 (vi 0) H :=
 (pt rfl 0 (G7) (pt rfl 0 (aeY) (by kernel_rfl)))
noncomputable def Xn : OV := aM PP GG FF (w6 []) (ls [Q, P] 28) H tN bg tN
theorem Mz {r : Value × AH} (h : (
 (pM [Q, (vi 1)]).bind fun c =>
 (pN [c, (vi 16)]).bind fun a =>
 (FF yI [a] H).bind fun b =>
 wn [(0, 1), (1, 1)] [(.slice none 0 0), (.pointer none)] [(1, b.1)] fun d =>
 bA (Value.cells d).toList b.2 fun e f =>
 Ay P (.pointer none) a e f) = some r) : FF ua [Q, P] H = some r :=
 fo (t := Xn Q P H) Tryz.func94 (by kernel_rfl) (Eq.trans (pt rfl 2 (aeW) (by kernel_rfl)) h)
noncomputable def gn (p : List Nat) : Code := Code.sub (bh Tryz.f117) p
noncomputable def gU : KK := ed PP (Tryz.f117).results.toList
noncomputable def Tg : KK := CQ (gn [1, 1, 1]) gU bg gU
noncomputable def DM : OV := Tg (ls [Q, u, O, N] 38) H
noncomputable def Kp : KK := CQ (gn [1, 1, 1, 1]) gU bg gU
noncomputable def aiU : KK := bX Dt Kp
noncomputable def vk : OV := Kp (ls [u, u, O, N] 38) H
noncomputable def Kq : KK := CQ (gn [1, 1, 1, 1, 1]) gU bg gU
noncomputable def Te : KK := bX Dt Kq
noncomputable def DN : OV := Kq (ls [u, u, O, N] 38) H
noncomputable def Th : KK := CQ (gn [1, 1, 1, 1, 0, 1]) Te bg gU
noncomputable def DO : OV := Th (ls [u, u, O, N, u, u, u, u, u, u, u, u, u, u, u, u, u, u, u, u, u, u, u, u, u, u, u, u, Y, Z] 12) H
noncomputable def Kt : KX := BX 2 Te bg
noncomputable def ET : KX := iz Dt (Kt)
noncomputable def Kr : KK := qq (gn [1, 1, 1, 1, 0, 1, 4, 5]) ET gU
noncomputable def Tf : KK := bX FX Kr
noncomputable def ow : OV := Kr (ls [u, u, O, N, u, u, u, u, u, u, u, u, u, u, u, u, u, u, u, u, u, u, u, u, u, u, u, u, Y, Z] 12) H
noncomputable def Ti : KK := CQ (gn [1, 1, 1, 1, 0, 1, 4, 5, 1, 1]) Tf ET gU
noncomputable def DP : OV := Ti (ls [u, u, O, N, u, u, u, u, u, u, u, u, u, u, u, u, u, u, u, u, u, u, u, u, u, u, u, u, Y, Z] 12) H
noncomputable def Ks : KK := CQ (gn [1, 1, 1, 1, 0, 1, 4, 5, 1, 1, 1]) Tf ET gU
noncomputable def aiV : KK := bX FX Ks
noncomputable def DR : OV := Ks (ls [u, u, O, N, u, u, u, u, u, u, u, u, u, u, u, u, u, u, u, u, u, u, u, u, u, u, u, u, Y, Z] 12) H
noncomputable def aiW : KX := BX 3 aiV ET
noncomputable def xU : OV := Kt 2 (ls [u, u, O, N] 38) H
noncomputable def Gr : KX := BX 0 aiU bg
noncomputable def Gu : KX := iz Dt (Gr)
noncomputable def Gq : KK := qq (gn [1, 1, 1, 0, 4, 5]) Gu gU
noncomputable def NF : KK := bX Nh Gq
noncomputable def lY : OV := Gq (ls [Q, u, O, N] 38) H
noncomputable def NG : KK := CQ (gn [1, 1, 1, 0, 4, 5, 1]) NF Gu gU
noncomputable def By : OV := NG (ls [Q, u, O, N] 38) H
noncomputable def Y3 : KX := BX 1 NF Gu
noncomputable def vj : OV := Gr 0 (ls [u, u, O, N] 38) H
theorem eZ : af 4398046511099 gU := rf
theorem V1 : af Nh Tg := rc eZ am eZ
theorem Jg : af Dt Kp := rc eZ am eZ
theorem B2 : af Dt Kq := rc eZ am eZ
theorem V2 : af FX Th := rc (cd (B2)) am eZ
theorem o6 : ∀ i, af Dt (Kt i) := rb (cd (B2)) am
theorem vH : af FX Kr := rl (cx (o6)) eZ
theorem V3 : af FX Ti := rc (cd (vH)) (cx (o6)) eZ
theorem Jh : af FX Ks := rc (cd (vH)) (cx (o6)) eZ
theorem V4 : ∀ i, af FX (aiW i) := rb (cd (Jh)) (cx (o6))
theorem qA : ∀ i, af Dt (Gr i) := rb (cd (Jg)) am
theorem qz : af Nh Gq := rl (cx (qA)) eZ
theorem PO : af Nh NG := rc (cd (qz)) (cx (qA)) eZ
theorem PQ : ∀ i, af Nh (Y3 i) := rb (cd (qz)) (cx (qA))
theorem Id : DN O N H =
 some (N, H) :=
 (by kernel_rfl)
theorem Ig : DR O N Y Z H =
 (ag .other .add Z (vi 1)).bind fun a =>
 ow O N Y a H :=
 (by kernel_rfl)
theorem If : DP O N Y Z H =
 ld [.n, .f 2] N H fun b =>
 la 1 1 [(vi 0)] [(0, (vi (-1)))] H fun c d =>
 (cz 1 8 b c d).bind fun a =>
 st 1 [.n, .f 2] N a.1 a.2 fun e =>
 DR O N Y Z e :=
 (pt rfl 0 (Jh) (bt rfl (gn [1, 1, 1, 1, 0, 1, 4, 5, 1, 1, 0, 4]) 3 (V4) (by kernel_rfl)))
theorem Dc : xU O N H = DN O N H :=
 (by kernel_rfl)
theorem vl : ow O N Y Z H =
 (ag .other .lss Z Y).bind fun a =>
 aw a
 (DP O N Y Z H)
 (xU O N H) :=
 qr rfl (vH) (pt rfl 1 (V3) (by kernel_rfl))
theorem Ie : DO O N Y Z H =
 ow O N Y Z H :=
 (bt rfl (gn [1, 1, 1, 1, 0, 1, 4]) 2 (o6) (li rfl (gn [1, 1, 1, 1, 0, 1, 4, 5]) (vH) (by kernel_rfl)))
theorem Ic : vk O N H =
 ld [.n, .f 1] N H fun a =>
 (ag .other .mul (vi 2) a).bind fun b =>
 DO O N b (vi 0) H :=
 (pt rfl 0 (B2) (pt rfl 0 (V2) (by kernel_rfl)))
theorem EE : By Q O N H =
 ld [.n, .f 1] N H fun a =>
 (ag .other .mul a (vi 2)).bind fun b =>
 st 1 [.n, .f 1] N b H fun c =>
 lY Q O N c :=
 (bt rfl (gn [1, 1, 1, 0, 4, 5, 1, 4]) 1 (PQ) (by kernel_rfl))
theorem ov : vj O N H = vk O N H :=
 (by kernel_rfl)
theorem sg : lY Q O N H =
 ld [.n, .f 1] N H fun a =>
 (ag .other .lss a Q).bind fun b =>
 aw b
 (By Q O N H)
 (vj O N H) :=
 qr rfl (qz) (pt rfl 0 (PO) (by kernel_rfl))
theorem Ib : DM Q O N H =
 lY Q O N H :=
 (pt rfl 0 (Jg) (bt rfl (gn [1, 1, 1, 0, 4]) 0 (qA) (li rfl (gn [1, 1, 1, 0, 4, 5]) (qz) (by kernel_rfl))))
noncomputable def ahC : OV := aM PP GG FF (gn []) (ls [Q] 41) H gU bg gU
theorem OS {r : Value × AH} (h : (
 (pM [Q, (vi 1)]).bind fun c =>
 (pN [c, (vi 16)]).bind fun a =>
 (mD [(vw 0), (vi 0), (vb false)] 3 24 a a H).bind fun b =>
 wn [(0, 1), (1, 1), (2, 1)] [(.slice none 0 0), (vi 0), (.slice none 0 0)] [(0, b.1), (1, (vi 1))] fun d =>
 bA (Value.cells d).toList b.2 fun e f =>
 DM a (.pointer none) e f) = some r) : FF yI [Q] H = some r :=
 fo (t := ahC Q H) Tryz.func117 (by kernel_rfl) (Eq.trans (pt rfl 2 (V1) (by kernel_rfl)) h)
theorem ML {r : Value × AH} (h : (
 (FF ug [Q] H).bind fun a =>
 (FF yF [] a.2).bind fun b =>
 wn [(0, 1), (1, 1), (2, 1)] [(.pointer none), (.pointer none), (vi 0)] [(0, a.1), (1, b.1), (2, Q)] fun c =>
 bA (Value.cells c).toList b.2 fun d e =>
 some (d, e)) = some r) : FF ud [Q] H = some r :=
 fo Tryz.func118 (by kernel_rfl) h
theorem MT {r : Value × AH} (h : (
 (FF ri [Q] H).bind fun a =>
 IC a.2 fun b c =>
 wn [(0, 1), (1, 1), (2, 192), (194, 3), (197, 1)] [(vw 0), (vi 0), (.slice none 0 0), (.slice none 0 0), (.slice none 0 0), (.slice none 0 0), (.slice none 0 0), (.slice none 0 0), (.slice none 0 0), (.slice none 0 0), (.slice none 0 0), (.slice none 0 0), (.slice none 0 0), (.slice none 0 0), (.slice none 0 0), (.slice none 0 0), (.slice none 0 0), (.slice none 0 0), (.slice none 0 0), (.slice none 0 0), (.slice none 0 0), (.slice none 0 0), (.slice none 0 0), (.slice none 0 0), (.slice none 0 0), (.slice none 0 0), (.slice none 0 0), (.slice none 0 0), (.slice none 0 0), (.slice none 0 0), (.slice none 0 0), (.slice none 0 0), (.slice none 0 0), (.slice none 0 0), (.slice none 0 0), (.slice none 0 0), (.slice none 0 0), (.slice none 0 0), (.slice none 0 0), (.slice none 0 0), (.slice none 0 0), (.slice none 0 0), (.slice none 0 0), (.slice none 0 0), (.slice none 0 0), (.slice none 0 0), (.slice none 0 0), (.slice none 0 0), (.slice none 0 0), (.slice none 0 0), (.slice none 0 0), (.slice none 0 0), (.slice none 0 0), (.slice none 0 0), (.slice none 0 0), (.slice none 0 0), (.slice none 0 0), (.slice none 0 0), (.slice none 0 0), (.slice none 0 0), (.slice none 0 0), (.slice none 0 0), (.slice none 0 0), (.slice none 0 0), (.slice none 0 0), (.slice none 0 0), (.slice none 0 0), (.slice none 0 0), (.slice none 0 0), (.slice none 0 0), (.slice none 0 0), (.slice none 0 0), (.slice none 0 0), (.slice none 0 0), (.slice none 0 0), (.slice none 0 0), (.slice none 0 0), (.slice none 0 0), (.slice none 0 0), (.slice none 0 0), (.slice none 0 0), (.slice none 0 0), (.slice none 0 0), (.slice none 0 0), (.slice none 0 0), (.slice none 0 0), (.slice none 0 0), (.slice none 0 0), (.slice none 0 0), (.slice none 0 0), (.slice none 0 0), (.slice none 0 0), (.slice none 0 0), (.slice none 0 0), (.slice none 0 0), (.slice none 0 0), (.slice none 0 0), (.slice none 0 0), (.slice none 0 0), (.slice none 0 0), (.slice none 0 0), (.slice none 0 0), (.slice none 0 0), (.slice none 0 0), (.slice none 0 0), (.slice none 0 0), (.slice none 0 0), (.slice none 0 0), (.slice none 0 0), (.slice none 0 0), (.slice none 0 0), (.slice none 0 0), (.slice none 0 0), (.slice none 0 0), (.slice none 0 0), (.slice none 0 0), (.slice none 0 0), (.slice none 0 0), (.slice none 0 0), (.slice none 0 0), (.slice none 0 0), (.slice none 0 0), (.slice none 0 0), (.slice none 0 0), (.slice none 0 0), (.slice none 0 0), (.slice none 0 0), (.slice none 0 0), (.slice none 0 0), (.slice none 0 0), (.slice none 0 0), (.slice none 0 0), (.slice none 0 0), (.slice none 0 0), (.slice none 0 0), (.slice none 0 0), (.slice none 0 0), (.slice none 0 0), (.slice none 0 0), (.slice none 0 0), (.slice none 0 0), (.slice none 0 0), (.slice none 0 0), (.slice none 0 0), (.slice none 0 0), (.slice none 0 0), (.slice none 0 0), (.slice none 0 0), (.slice none 0 0), (.slice none 0 0), (.slice none 0 0), (.slice none 0 0), (.slice none 0 0), (.slice none 0 0), (.slice none 0 0), (.slice none 0 0), (.slice none 0 0), (.slice none 0 0), (.slice none 0 0), (.slice none 0 0), (.slice none 0 0), (.slice none 0 0), (.slice none 0 0), (.slice none 0 0), (.slice none 0 0), (.slice none 0 0), (.slice none 0 0), (.slice none 0 0), (.slice none 0 0), (.slice none 0 0), (.slice none 0 0), (.slice none 0 0), (.slice none 0 0), (.slice none 0 0), (.slice none 0 0), (.slice none 0 0), (.slice none 0 0), (.slice none 0 0), (.slice none 0 0), (.slice none 0 0), (.slice none 0 0), (.slice none 0 0), (.slice none 0 0), (.slice none 0 0), (.slice none 0 0), (.slice none 0 0), (.slice none 0 0), (.slice none 0 0), (.slice none 0 0), (.slice none 0 0), (.slice none 0 0), (.slice none 0 0), (.slice none 0 0), (.slice none 0 0), (vw 0), (vw 0), (vw 0), (.map none)] [(1, a.1), (4, b)] fun d =>
 bA (Value.cells d).toList c fun e f =>
 some (e, f)) = some r) : FF ug [Q] H = some r :=
 fo Tryz.func150 (by kernel_rfl) h
theorem N6 (H : AH) {r : Value × AH} (h : (
 IC H fun a b =>
 wn [(0, 1), (1, 1)] [(.slice none 0 0), (.map none)] [(1, a)] fun c =>
 bA (Value.cells c).toList b fun d e =>
 some (d, e)) = some r) : FF yF [] H = some r :=
 fo Tryz.func151 (by kernel_rfl) h
theorem IQ {r : Value × AH} (h : (
 (pM [Q, (vi 0)]).bind fun a =>
 (pN [a, (vi 40)]).bind fun b =>
 some (b, H)) = some r) : FF ri [Q] H = some r :=
 fo Tryz.func181 (by kernel_rfl) h
theorem IB {r : Value × AH} (h : (
 (kj Q H).bind fun a =>
 (kj P H).bind fun b =>
 (ag .other .eql a b).bind fun c =>
 some (Value.iface 1 c, H)) = some r) : FB Af [Q, P] H = some r :=
 X0 Tryz.func15 (by kernel_rfl) h
theorem ED {r : Value × AH} (h : (
 (FB ij [Q] H).bind fun a =>
 dO a.1 (fun b =>
 some (Value.iface 1 b, a.2)) (fun p2 =>
 some (Value.iface 0 p2, a.2))) = some r) : FB mB [Q] H = some r :=
 X0 Tryz.func46 (by kernel_rfl) h
theorem oy {r : Value × AH} (h : (
 (FB dl [Q, (vi 10)] H).bind fun a =>
 dO a.1 (fun b =>
 some (Value.iface 1 b, a.2)) (fun p2 =>
 some (Value.iface 0 p2, a.2))) = some r) : FB ij [Q] H = some r :=
 X0 Tryz.func63 (by kernel_rfl) h
theorem sM {r : Value × AH} (h : (
 (FB eM [Q, P] H).bind fun a =>
 dO a.1 (fun b =>
 some (Value.iface 1 b, a.2)) (fun p2 =>
 some (Value.iface 0 p2, a.2))) = some r) : FB fK [Q, P] H = some r :=
 X0 Tryz.func67 (by kernel_rfl) h
end
theorem SE (n : Int) : IntKind.wrap .u64 n = n % 18446744073709551616 := by simp [IntKind.wrap, IntKind.bits, IntKind.signed]
theorem qp {n : Int} (h0 : 0 ≤ n) (h1 : n < 18446744073709551616) : IntKind.wrap .u64 n = n := by rw [SE]; omega
theorem ma {n : Int} (h0 : -9223372036854775808 ≤ n) (h1 : n < 9223372036854775808) : IntKind.wrap .i64 n = n := by
 simp [IntKind.wrap, IntKind.bits, IntKind.signed]
 split <;> omega
theorem JE (a : Nat) (h : a < 18446744073709551616) : (BitVec.ofInt 64 (a : Int)).toNat = a := by
 rw [BitVec.toNat_ofInt];omega
theorem apH {a b : Nat} (ha : a < 18446744073709551616) (hb : b < 18446744073709551616) : a ||| b < 18446744073709551616 := Nat.or_lt_two_pow (n := 64) ha hb
theorem VH {a b : Nat} (ha : a < 18446744073709551616) (hb : b < 18446744073709551616) : Go.bits .or .u64 (a : Int) (b : Int) = ((a ||| b : Nat) : Int) := by
 show IntKind.wrap .u64 (((BitVec.ofInt 64 (a : Int) ||| BitVec.ofInt 64 (b : Int)).toNat : Nat) : Int) = _;rw [BitVec.toNat_or, JE a ha, JE b hb];have := apH ha hb;exact qp (by omega) (by omega)
section
variable {cl : TCls}
theorem amV {a b : Nat} (ha : a < 18446744073709551616) (hb : b < 18446744073709551616) : ag cl .or (vu a) (vu b) = some (vu (a ||| b)) := by simp only [ag, j9, if_true, VH ha hb]
theorem vy {a b : Nat} (h : a + b < 18446744073709551616) : ag cl .add (vu a) (vu b) = some (vu (a + b)) := by
 simp only [ag, j9, if_true];rw [qp (by omega) (by omega)];simp
theorem VF {a b : Nat} (h : b ≠ 0) (ha : a < 18446744073709551616) : ag cl .quo (vu a) (vu b) = some (vu (a / b)) := by
 simp only [ag, j9, if_true];rw [if_neg (by omega)];have h1 : (a : Int).tdiv (b : Int) = ((a / b : Nat) : Int) := (Int.ofNat_tdiv a b).symm;have h2 : a / b ≤ a := Nat.div_le_self a b;rw [h1]
 generalize a / b = q at h2
 rw [qp (by omega) (by omega)]
theorem BS {a b : Nat} (h : b ≠ 0) : ag cl .rem (vu a) (vu b) = some (vu (a % b)) := by
 simp only [ag, j9, if_true];rw [if_neg (by omega)];have h1 : (a : Int).tmod (b : Int) = ((a % b : Nat) : Int) := (Int.ofNat_tmod a b).symm;rw [h1]
theorem VG {a : Nat} {k : IntKind} {n : Nat} (hn : n ≤ 64) : ag cl .shr (vu a) (.int k (n : Int)) = some (vu (a / 2 ^ n)) := by
 simp only [ag, mG];rw [if_neg (by omega)];simp only [IntKind.bits, N7, Nat.min_eq_left hn]
 have : (a : Int).fdiv (2 ^ n) = ((a / 2 ^ n : Nat) : Int) := by
  rw [Int.fdiv_eq_ediv_of_nonneg _ (by exact Int.le_of_lt (Int.pow_pos (by omega)))];simp
 rw [this]
theorem I3 {a : Nat} {k : IntKind} {n : Nat} (hn : n ≤ 64) : ag cl .shl (vu a) (.int k (n : Int)) = some (vu (a * 2 ^ n % 18446744073709551616)) := by
 simp only [ag, mG];rw [if_neg (by omega)];simp only [IntKind.bits, N7, Nat.min_eq_left hn];rw [SE];simp
theorem aq {a b : Int} (h0 : -9223372036854775808 ≤ a + b) (h1 : a + b < 9223372036854775808) : ag cl .add (vi a) (vi b) = some (vi (a + b)) := by simp only [ag, j9, if_true, ma h0 h1]
theorem vA {a b : Int} (h0 : -9223372036854775808 ≤ a - b) (h1 : a - b < 9223372036854775808) : ag cl .sub (vi a) (vi b) = some (vi (a - b)) := by simp only [ag, j9, if_true, ma h0 h1]
theorem vz {k : IntKind} {a b : Int} : ag cl .lss (.int k a) (.int k b) = some (vb (decide (a < b))) ∧ ag cl .leq (.int k a) (.int k b) = some (vb (decide (a ≤ b))) ∧ ag cl .gtr (.int k a) (.int k b) = some (vb (decide (b < a))) ∧
 ag cl .geq (.int k a) (.int k b) = some (vb (decide (b ≤ a))) ∧ ag cl .eql (.int k a) (.int k b) = some (vb (a == b)) ∧ ag cl .neq (.int k a) (.int k b) = some (vb (a != b)) := by
 simp [ag, j9]
theorem SU {k : IntKind} {a b : Int} : ag cl .lss (.int k a) (.int k b) = some (vb (decide (a < b))) := vz.1
theorem ST {k : IntKind} {a b : Int} : ag cl .leq (.int k a) (.int k b) = some (vb (decide (a ≤ b))) := vz.2.1
theorem J7 {k : IntKind} {a b : Int} : ag cl .gtr (.int k a) (.int k b) = some (vb (decide (b < a))) := vz.2.2.1
theorem SS {k : IntKind} {a b : Int} : ag cl .geq (.int k a) (.int k b) = some (vb (decide (b ≤ a))) := vz.2.2.2.1
theorem iE {k : IntKind} {a b : Int} : ag cl .eql (.int k a) (.int k b) = some (vb (a == b)) := vz.2.2.2.2.1
theorem SV {k : IntKind} {a b : Int} : ag cl .neq (.int k a) (.int k b) = some (vb (a != b)) := vz.2.2.2.2.2
theorem jw {a : Bool} : xi .not (vb a) = some (vb (!a)) := rfl
theorem Hr {a b : Int} : pM [vi a, vi b] = some (vi (max a b)) := by
 simp only [pM]
 congr 2
 split <;> omega
theorem Ht {a b : Int} : pN [vi a, vi b] = some (vi (min a b)) := by
 simp only [pN]
 congr 2
 split <;> omega
end
abbrev Hp := Nat → Option AObj
def SP : Type := Hp → Prop
theorem SP.ext {P Q : SP} (h : ∀ x, P x ↔ Q x) : P = Q := funext fun x => propext (h x)
def sep (P Q : SP) : SP := fun h => ∃ a b : Hp, (∀ i, a i = none ∨ b i = none) ∧ (h = fun i => (a i).or (b i)) ∧ P a ∧ Q b
instance : Mul SP := ⟨sep⟩
def emp : SP := fun h => h = fun _ => none
theorem agG {α : Type} {a b : Option α} (h : a = none ∨ b = none) : a.or b = b.or a := by
 rcases h with rfl | rfl <;> simp
theorem Br (P Q : SP) : P * Q = Q * P := by
 have one : ∀ (P Q : SP) h, sep P Q h → sep Q P h := by
  rintro P Q h ⟨a, b, hd, rfl, ha, hb⟩
  exact ⟨b, a, fun i => (hd i).symm, funext fun i => agG (hd i), hb, ha⟩
 exact SP.ext fun h => ⟨one P Q h, one Q P h⟩
theorem aC (P Q R : SP) : P * Q * R = P * (Q * R) := by
 apply SP.ext;intro h
 constructor
 ·rintro ⟨ab, c, hd, rfl, ⟨a, b, hd2, rfl, ha, hb⟩, hc⟩
  refine ⟨a, fun i => (b i).or (c i), fun i => ?_, funext fun i => ?_, ha, b, c, fun i => ?_, rfl, hb, hc⟩
  ·have h1 := hd i
   have h2 := hd2 i
   cases ha' : a i <;> cases hb' : b i <;> cases hc' : c i <;> simp_all
  ·exact Option.or_assoc
  ·have h1 := hd i
   have h2 := hd2 i
   cases ha' : a i <;> cases hb' : b i <;> cases hc' : c i <;> simp_all
 ·rintro ⟨a, bc, hd, rfl, ha, b, c, hd2, rfl, hb, hc⟩
  refine ⟨fun i => (a i).or (b i), c, fun i => ?_, funext fun i => ?_, ⟨a, b, fun i => ?_, rfl, ha, hb⟩, hc⟩
  ·have h1 := hd i
   have h2 := hd2 i
   cases ha' : a i <;> cases hb' : b i <;> cases hc' : c i <;> simp_all
  ·exact Option.or_assoc.symm
  ·have h1 := hd i
   have h2 := hd2 i
   cases ha' : a i <;> cases hb' : b i <;> cases hc' : c i <;> simp_all
theorem ge (P : SP) : P * emp = P := by
 apply SP.ext;intro h
 constructor
 ·rintro ⟨a, b, hd, rfl, ha, hb⟩
  have hb : b = fun _ => none := hb;subst hb
  simpa using ha
 ·intro h'
  exact ⟨h, fun _ => none, fun i => .inr rfl, by simp, h', rfl⟩
theorem ee (P : SP) : emp * P = P := by rw [Br, ge]
instance : Std.Associative (α := SP) (· * ·) := ⟨aC⟩
instance : Std.Commutative (α := SP) (· * ·) := ⟨Br⟩
theorem cC (P Q R : SP) : P * (Q * R) = Q * (P * R) := by rw [← aC, Br P Q, aC]
def blk (b : Nat) (o : AObj) : SP := fun h => h = fun i => if i = b then some o else none
def ex {α : Type} (P : α → SP) : SP := fun h => ∃ x, P x h
def pu (p : Prop) : SP := fun h => p ∧ h = fun _ => none
def ac (P : SP) (H : AH) : Prop := ∃ h : Hp, P h ∧ ∀ i o, h i = some o → H.get i = some o
theorem ac.left {P Q : SP} {H : AH} (h : ac (P * Q) H) : ac P H := by
 obtain ⟨x, ⟨a, b, hd, rfl, ha, hb⟩, hx⟩ := h;exact ⟨a, ha, fun i o hi => hx i o (by simp [hi])⟩
theorem ac.right {P Q : SP} {H : AH} (h : ac (P * Q) H) : ac Q H := by rw [Br] at h; exact h.left
theorem ac.get {b : Nat} {o : AObj} {H : AH} (h : ac (blk b o) H) : H.get b = some o := by
 obtain ⟨x, hx, hg⟩ := h;have hx : x = _ := hx;exact hg b o (by rw [hx]; simp)
theorem ac.ex {α : Type} {F : α → SP} {R : SP} {H : AH} : ac (ex F * R) H ↔ ∃ x, ac (F x * R) H := by
 constructor
 ·rintro ⟨h, ⟨a, b, hd, rfl, ⟨x, ha⟩, hb⟩, hx⟩
  exact ⟨x, _, ⟨a, b, hd, rfl, ha, hb⟩, hx⟩
 ·rintro ⟨x, h, ⟨a, b, hd, rfl, ha, hb⟩, hx⟩
  exact ⟨_, ⟨a, b, hd, rfl, ⟨x, ha⟩, hb⟩, hx⟩
theorem ac.pu {p : Prop} {R : SP} {H : AH} : ac (pu p * R) H ↔ p ∧ ac R H := by
 constructor
 ·rintro ⟨h, ⟨a, b, hd, rfl, ⟨hp, ha⟩, hb⟩, hx⟩
  subst ha;exact ⟨hp, b, hb, fun i o hi => hx i o (by simp [hi])⟩
 ·rintro ⟨hp, h, hr, hx⟩
  exact ⟨h, ⟨fun _ => none, h, fun i => .inl rfl, by simp, ⟨hp, rfl⟩, hr⟩, hx⟩
theorem ac.emp (H : AH) : ac emp H := ⟨fun _ => none, rfl, fun i o h => by cases h⟩
theorem ac.lt {b : Nat} {o : AObj} {R : SP} {H : AH} (h : ac (blk b o * R) H) : b < H.size := AH.lt_of_get h.left.get
theorem ac.set {b : Nat} {o : AObj} {R : SP} {H : AH} (o' : AObj) (h : ac (blk b o * R) H) : ac (blk b o' * R) (H.set b o') := by
 have hb := h.lt;obtain ⟨x, ⟨a, r, hd, rfl, ha, hr⟩, hx⟩ := h;have ha : a = _ := ha;subst ha;refine ⟨_, ⟨_, r, fun i => ?_, rfl, rfl, hr⟩, fun i o2 hi => ?_⟩
 ·have := hd i
  simp only at this ⊢
  by_cases hi : i = b
  ·rw [if_pos hi] at this ⊢
   rcases this with h | h
   ·cases h
   ·exact .inr h
  ·rw [if_neg hi]; exact .inl rfl
 ·by_cases hib : i = b
  ·subst hib
   simp only [if_true, Option.some_or, Option.some.injEq] at hi;subst hi;exact AH.get_set_eq hb
  ·simp only [if_neg hib, Option.none_or] at hi
   rw [AH.get_set_ne hib];exact hx i o2 (by simp only [if_neg hib, Option.none_or]; exact hi)
theorem ac.push {R : SP} {H : AH} (o : AObj) (h : ac R H) : ac (blk H.size o * R) (H.push o) := by
 obtain ⟨r, hr, hx⟩ := h;refine ⟨_, ⟨_, r, fun i => ?_, rfl, rfl, hr⟩, fun i o2 hi => ?_⟩
 ·by_cases hi : i = H.size
  ·subst hi
   right
   cases hr' : r H.size with
   | none => rfl
   | some o' => have := AH.lt_of_get (hx _ _ hr'); omega
  ·rw [if_neg hi]; exact .inl rfl
 ·by_cases hib : i = H.size
  ·subst hib
   simp only [if_true, Option.some_or, Option.some.injEq] at hi;subst hi;exact AH.get_push_new _ _
  ·simp only [if_neg hib, Option.none_or] at hi
   have := hx i o2 hi;rw [AH.get_push_old (AH.lt_of_get this)];exact this
theorem ac.dead {b : Nat} {o : AObj} {R : SP} {H : AH} (h : ac (blk b o * R) H) : ac R (H.set b .dead) := (h.set .dead).right
class Fr (P A : SP) (R : outParam SP) : Prop where
 eq : P = A * R
instance (priority := high) Fr.refl (A : SP) : Fr A A emp := ⟨(ge A).symm⟩
instance (priority := high) Fr.emp (P : SP) : Fr P emp P := ⟨(ee P).symm⟩
instance Fr.left (P Q A R : SP) [h : Fr P A R] : Fr (P * Q) A (R * Q) := ⟨by rw [h.eq, aC]⟩
instance Fr.right (P Q A R : SP) [h : Fr Q A R] : Fr (P * Q) A (P * R) := ⟨by rw [h.eq, cC]⟩
instance (priority := high) Fr.both (P A B R1 R2 : SP) [h1 : Fr P A R1] [h2 : Fr R1 B R2] : Fr P (A * B) R2 := ⟨by rw [h1.eq, h2.eq, aC]⟩
class Hs (P : SP) (b : Nat) (o : outParam AObj) : Prop where
 get : ∀ {H : AH}, ac P H → H.get b = some o
instance Hs.one (b : Nat) (o : AObj) : Hs (blk b o) b o := ⟨ac.get⟩
instance Hs.left (P Q : SP) (b : Nat) (o : AObj) [h : Hs P b o] : Hs (P * Q) b o := ⟨fun k => h.get k.left⟩
instance Hs.right (P Q : SP) (b : Nat) (o : AObj) [h : Hs Q b o] : Hs (P * Q) b o := ⟨fun k => h.get k.right⟩
class Up (P : SP) (b : Nat) (o' : AObj) (P' : outParam SP) : Prop where
 up : ∃ o R, P = blk b o * R ∧ P' = blk b o' * R
instance Up.one (b : Nat) (o o' : AObj) : Up (blk b o) b o' (blk b o') := ⟨o, emp, (ge _).symm, (ge _).symm⟩
instance Up.left (P Q : SP) (b : Nat) (o' : AObj) (P' : SP) [h : Up P b o' P'] : Up (P * Q) b o' (P' * Q) := ⟨by
 obtain ⟨o, R, e1, e2⟩ := h.up
 exact ⟨o, R * Q, by rw [e1, aC], by rw [e2, aC]⟩⟩
instance Up.right (P Q : SP) (b : Nat) (o' : AObj) (Q' : SP) [h : Up Q b o' Q'] : Up (P * Q) b o' (P * Q') := ⟨by
 obtain ⟨o, R, e1, e2⟩ := h.up
 exact ⟨o, P * R, by rw [e1, cC], by rw [e2, cC]⟩⟩
theorem Up.set {P P' : SP} {b : Nat} {o' : AObj} [h : Up P b o' P'] {H : AH} (k : ac P H) : ac P' (H.set b o') := by
 obtain ⟨o, R, rfl, rfl⟩ := h.up;exact k.set o'
theorem ac.fr {P A R : SP} {H : AH} (h : ac P H) [f : Fr P A R] : ac (A * R) H := by rw [← f.eq]; exact h
theorem ac.to {P A R : SP} {H : AH} (h : ac P H) [f : Fr P A R] : ac A H := h.fr.left
def wp (x : OV) (Q : Value → AH → Prop) : Prop := ∃ v H, x = some (v, H) ∧ Q v H
abbrev vp (b : Nat) : Value := .pointer (some ⟨b, 0, none⟩)
abbrev vm (b o : Nat) : Value := .pointer (some ⟨b, o, none⟩)
abbrev vs (b n e : Nat) : Value := .slice (some ⟨b, 0, none⟩) n e
theorem ay {v : Value} {H : AH} {Q : Value → AH → Prop} (h : Q v H) : wp (some (v, H)) Q := ⟨v, H, rfl, h⟩
theorem wp.mono {x : OV} {Q Q' : Value → AH → Prop} (h : wp x Q) (k : ∀ v H, Q v H → Q' v H) : wp x Q' := let ⟨v, H, e, q⟩ := h; ⟨v, H, e, k v H q⟩
theorem eD {x y : OV} {Q : Value → AH → Prop} (h : ∀ r, x = some r → y = some r) (k : wp x Q) : wp y Q := let ⟨v, H, e, q⟩ := k; ⟨v, H, h _ e, q⟩
theorem ae {x y : OV} {Q : Value → AH → Prop} (h : y = x) (k : wp x Q) : wp y Q := by rw [h]; exact k
theorem aa {x : Option Value} {v : Value} {k : Value → OV} {Q : Value → AH → Prop} (e : x = some v) (h : wp (k v) Q) : wp (x.bind k) Q := by rw [e]; exact h
theorem oP {b : Bool} {x y : OV} {Q : Value → AH → Prop} (ht : b = true → wp x Q) (hf : b = false → wp y Q) : wp (aw (vb b) x y) Q := by
 cases b
 ·exact hf rfl
 ·exact ht rfl
theorem ahH {x y : Option Value} {k : OV} {Q : Value → AH → Prop} (e : x = y) (h : wp k Q) : wp (ic x y k) Q := by rw [am1 e]; exact h
theorem XP {x : Option Value} {k : OV} {Q : Value → AH → Prop} (h : wp k Q) : wp (ic x x k) Q := ahH rfl h
section
variable {P P' R : SP} {H : AH} {b o f n len e : Nat} {ro : Bool} {cs : List Value} {v x : Value} {Q : Value → AH → Prop}
theorem RC (h : ac P H) [i : Hs P b (.cells ro cs)] (hv : cs[o]? = some v) : aA (vm b o) H = some v := by
 simp only [aA, uk, dm, aB, i.get h];exact hv
theorem afV (h : ac P H) [i : Hs P b (.cells ro cs)] (hn : o + n ≤ cs.length) : aQ n (vm b o) H = some (.agg ((cs.drop o).take n).toArray) := by
 simp only [aQ, uk, dm, aB, i.get h];rw [if_pos hn]
theorem OL (h : ac P H) [i : Hs P b (.cells false cs)] (hx : x.cells.size = n) (hn : o + n ≤ cs.length) (hc : x.cells.toList.all Value.oneCell' = true) :
 fT n (vm b o) x H = some (H.set b (.cells false (splice cs o x.cells.toList))) := by
 simp only [fT, uk, aB, i.get h];rw [if_pos ⟨hx, hn, hc⟩]
theorem ce {k : Value → AH → OV} (h : ac P H) (hk : ∀ b H', ac (blk b (.cells false cs) * P) H' → wp (k (vp b) H') Q) : wp (bA cs H k) Q := hk _ _ (h.push _)
theorem Bz {k : Value → AH → OV} (h : ac P H) (hk : ∀ b H', ac (blk b (.map [] 0) * P) H' → wp (k (.map (some b)) H') Q) : wp (IC H k) Q := hk _ _ (h.push _)
theorem apX {k : Value → AH → OV} (h : ac P H) (hk : ∀ b H', ac (blk b (.cells false cs) * P) H' → wp (k (vs b len e) H') Q) : wp (apR len e cs H k) Q := hk _ _ (h.push _)
theorem Vi {zero : List Value} {xs : List (Nat × Value)} {k : Value → AH → OV} (h : ac P H) (hf : cA (Og e) (List.replicate len zero).flatten xs = some cs) (hk : ∀ b H', ac (blk b (.cells false cs) * P) H' → wp (k (vs b len e) H') Q) :
 wp (la len e zero xs H k) Q := by
 unfold la;rw [hf];exact apX h hk
theorem xW {ps : List (Nat × Nat)} {zero : List Value} {xs : List (Nat × Value)} {k : Value → OV} (hf : cA (fun i => ps[i]?) zero xs = some cs) (hk : wp (k (.agg cs.toArray)) Q) : wp (wn ps zero xs k) Q := by
 unfold wn;rw [hf];exact hk
theorem amI {zero : List Value} {xs : List (Nat × Value)} {k : Value → OV} (hf : cA (Og e) zero xs = some cs) (hk : wp (k (.agg cs.toArray)) Q) : wp (mkA e zero xs k) Q := by
 unfold mkA;rw [hf];exact hk
theorem amH {n : Nat} {a : Option Addr} {k : Value → OV} (hk : wp (k (vi n)) Q) : wp (cB (.slice a n e) k) Q := hk
theorem aqC {R : Type} {b o f : Nat} {p : List Stp} {k : Value → Option R} : ad (.f f :: p) (vm b o) k = ad p (vm b (o + f)) k := rfl
theorem ah3 {R : Type} {b o n e i : Nat} {c : Nat} {p : List Stp} {kk : IntKind} {k : Value → Option R} (h : i < n) : ad (.i e (.int kk (i : Int)) :: p) (.slice (some ⟨b, o, none⟩) n c) k = ad p (vm b (o + i * e)) k := by
 show (pL e (.slice (some ⟨b, o, none⟩) n c) (.int kk (i : Int))).bind _ = _;simp only [pL];rw [if_pos (by omega)];simp
theorem aqB {R : Type} {b o n e i : Nat} {p : List Stp} {kk : IntKind} {k : Value → Option R} (h : i < n) : ad (.a n e (.int kk (i : Int)) :: p) (vm b o) k = ad p (vm b (o + i * e)) k := by
 show (il n e (vm b o) (.int kk (i : Int))).bind _ = _;simp only [il];rw [if_pos (by omega)];simp
def Ft (p : List Stp) (x : Value) (b o : Nat) : Prop := ∀ {R : Type} (k : Value → Option R), ad p x k = k (vm b o)
theorem db : Ft [] (vm b o) b o := fun _ => rfl
theorem NB {p : List Stp} {b' o' : Nat} (h : Ft p (vm b o) b' o') : Ft (.n :: p) (vm b o) b' o' := fun k => h k
theorem eI {p : List Stp} {b' o' : Nat} (h : Ft p (vm b (o + f)) b' o') : Ft (.f f :: p) (vm b o) b' o' := fun k => h k
theorem S7 {p : List Stp} {b' o' i c : Nat} {kk : IntKind} (hi : i < n) (h : Ft p (vm b (o + i * e)) b' o') : Ft (.i e (.int kk (i : Int)) :: p) (.slice (some ⟨b, o, none⟩) n c) b' o' := fun k => by rw [ah3 hi]; exact h k
theorem ao3 {p : List Stp} {b' o' i : Nat} {kk : IntKind} (hi : i < n) (h : Ft p (vm b (o + i * e)) b' o') : Ft (.a n e (.int kk (i : Int)) :: p) (vm b o) b' o' := fun k => by rw [aqB hi]; exact h k
theorem bn : Ft [.n, .f f] (vp b) b f := fun k => by
 show k (vm b (0 + f)) = _;rw [Nat.zero_add]
theorem aj : Ft [.f f] (vp b) b f := fun k => by
 show k (vm b (0 + f)) = _;rw [Nat.zero_add]
class X4 (l : List Value) (o : Nat) (v : Value) (l' : outParam (List Value)) : Prop where
 eq : o < l.length ∧ l' = l.set o v
instance X4.zero (a : Value) (l : List Value) (v : Value) : X4 (a :: l) 0 v (v :: l) := ⟨by simp⟩
instance X4.succ (a : Value) (l : List Value) (o : Nat) (v : Value) (l' : List Value) [h : X4 l o v l'] : X4 (a :: l) (o + 1) v (a :: l') := ⟨by
 obtain ⟨h1, rfl⟩ := h.eq
 exact ⟨by simp; exact h1, by simp⟩⟩
class DT (l : List Value) (o : Nat) (xs : List Value) (l' : outParam (List Value)) : Prop where
 eq : o + xs.length ≤ l.length ∧ l' = splice l o xs
instance DT.here0 (l : List Value) : DT l 0 [] l := ⟨by simp [splice]⟩
instance DT.here (a x : Value) (l xs l' : List Value) [h : DT l 0 xs l'] : DT (a :: l) 0 (x :: xs) (x :: l') := ⟨by
 obtain ⟨h1, rfl⟩ := h.eq
 refine ⟨by simp at h1 ⊢; exact h1, by simp [splice]⟩⟩
instance DT.on (a : Value) (l : List Value) (o : Nat) (x : Value) (xs l' : List Value) [h : DT l o (x :: xs) l'] : DT (a :: l) (o + 1) (x :: xs) (a :: l') := ⟨by
 obtain ⟨h1, rfl⟩ := h.eq;refine ⟨by simp at h1 ⊢; omega, ?_⟩;simp only [splice, List.take_succ_cons, List.cons_append, List.cons.injEq, true_and]
 congr 1
 rw [show o + 1 + (x :: xs).length = (o + (x :: xs).length) + 1 from by omega, List.drop_succ_cons]⟩
class Im (l : List Value) (o n : Nat) (l' : outParam (List Value)) : Prop where
 eq : o + n ≤ l.length ∧ l' = (l.drop o).take n
instance Im.nil (l : List Value) : Im l 0 0 [] := ⟨by simp⟩
instance Im.here (a : Value) (l : List Value) (n : Nat) (l' : List Value) [h : Im l 0 n l'] : Im (a :: l) 0 (n + 1) (a :: l') := ⟨by
 obtain ⟨h1, rfl⟩ := h.eq
 exact ⟨by simp at h1 ⊢; exact h1, by simp⟩⟩
instance Im.on (a : Value) (l : List Value) (o n : Nat) (l' : List Value) [h : Im l o (n + 1) l'] : Im (a :: l) (o + 1) (n + 1) l' := ⟨by
 obtain ⟨h1, rfl⟩ := h.eq
 exact ⟨by simp at h1 ⊢; omega, by simp⟩⟩
class BK (v : Value) (l : outParam (List Value)) : Prop where
 eq : v.cells.toList = l
instance BK.int (k : IntKind) (n : Int) : BK (.int k n) [.int k n] := ⟨rfl⟩
instance BK.bool (b : Bool) : BK (.bool b) [.bool b] := ⟨rfl⟩
instance BK.slice (a : Option Addr) (n c : Nat) : BK (.slice a n c) [.slice a n c] := ⟨rfl⟩
instance BK.ptr (a : Option Addr) : BK (.pointer a) [.pointer a] := ⟨rfl⟩
instance BK.func (f : Fn) (a b : Array Value) : BK (.func f a b) [.func f a b] := ⟨rfl⟩
instance BK.nilFunc : BK .nilFunc [.nilFunc] := ⟨rfl⟩
instance BK.map (m : Option Nat) : BK (.map m) [.map m] := ⟨rfl⟩
instance BK.string (s : ByteArray) : BK (.string s) [.string s] := ⟨rfl⟩
instance BK.agg (l : List Value) : BK (.agg l.toArray) l := ⟨by simp [Value.cells]⟩
class Vm (ps : List (Nat × Nat)) (i : Nat) (o n : outParam Nat) : Prop where
 eq : ps[i]? = some (o, n)
instance Vm.zero (p : Nat × Nat) (ps : List (Nat × Nat)) : Vm (p :: ps) 0 p.1 p.2 := ⟨rfl⟩
instance Vm.succ (p : Nat × Nat) (ps : List (Nat × Nat)) (i o n : Nat) [h : Vm ps i o n] : Vm (p :: ps) (i + 1) o n := ⟨by simpa using h.eq⟩
class O1 (l : List Value) (n : Nat) : Prop where
 eq : l.length = n
instance O1.nil : O1 [] 0 := ⟨rfl⟩
instance O1.cons (a : Value) (l : List Value) (n : Nat) [h : O1 l n] : O1 (a :: l) (n + 1) := ⟨by simp [h.eq]⟩
class Vl (ps : List (Nat × Nat)) (zero : List Value) (xs : List (Nat × Value)) (cs : outParam (List Value)) : Prop where
 eq : cA (fun i => ps[i]?) zero xs = some cs
instance Vl.nil (ps : List (Nat × Nat)) (zero : List Value) : Vl ps zero [] zero := ⟨rfl⟩
instance Vl.cons (ps : List (Nat × Nat)) (zero z l cs : List Value) (i o n : Nat) (v : Value) (xs : List (Nat × Value)) [h1 : Vm ps i o n] [h2 : BK v l] [h3 : O1 l n] [h4 : DT zero o l z] [h5 : Vl ps z xs cs] : Vl ps zero ((i, v) :: xs) cs := ⟨by
 obtain ⟨h6, rfl⟩ := h4.eq;have h7 := h2.eq;have h8 := h3.eq;subst h7;simp only [cA, h1.eq, aB];rw [if_pos ⟨by simpa using h8, by rw [← h8]; exact h6⟩]
 exact h5.eq⟩
class amM (e : Nat) (zero : List Value) (xs : List (Nat × Value)) (cs : outParam (List Value)) : Prop where
 eq : cA (Og e) (List.replicate 1 zero).flatten xs = some cs
instance amM.one (e : Nat) (zero l z : List Value) (v : Value) [h2 : BK v l] [h3 : O1 l e] [h4 : DT zero 0 l z] : amM e zero [(0, v)] z := ⟨by
 obtain ⟨h6, rfl⟩ := h4.eq;have h7 := h2.eq;have h8 := h3.eq;subst h7
 have hz : (List.replicate 1 zero).flatten = zero := by simp
 rw [hz];simp only [cA, Og, aB, Nat.zero_mul]
 rw [if_pos ⟨by simpa using h8, by rw [← h8]; exact h6⟩]⟩
theorem k8 {p : List Stp} {k : Value → OV} (hp : Ft p x b o) (hk : wp (k (vm b o)) Q) : wp (ad p x k) Q := by rw [hp k]; exact hk
theorem aL {p : List Stp} {k : Value → OV} (h : ac P H) (hp : Ft p x b o) [i : Hs P b (.cells ro cs)] (hv : cs[o]? = some v) (hk : wp (k v) Q) : wp (ld p x H k) Q := by
 unfold ld;rw [hp, RC h hv];exact hk
theorem xV {l : List Value} {p : List Stp} {k : Value → OV} (h : ac P H) (hp : Ft p x b o) [i : Hs P b (.cells ro cs)] [s : Im cs o n l] (hk : wp (k (.agg l.toArray)) Q) : wp (ldN n p x H k) Q := by
 obtain ⟨hn, rfl⟩ := s.eq;unfold ldN;rw [hp, afV h hn];exact hk
theorem gN {cs' l : List Value} {p : List Stp} {k : AH → OV} (h : ac P H) (hp : Ft p x b o) [i : Hs P b (.cells false cs)] [c : BK v l] [s : DT cs o l cs'] (hx : l.length = n) (hc : l.all Value.oneCell' = true)
 [u : Up P b (.cells false cs') P'] (hk : ∀ H', ac P' H' → wp (k H') Q) : wp (st n p x v H k) Q := by
 obtain ⟨hn, rfl⟩ := s.eq;have hl := c.eq;subst hl;unfold st;rw [hp, OL h (by simpa using hx) (by simp at hx hn; omega) hc];exact hk _ (u.set h)
theorem dK {k : Value → OV} (h : ac P H) [i : Hs P b (.cells ro cs)] (hv : cs[o]? = some v) (hk : wp (k v) Q) : wp ((aA (vm b o) H).bind k) Q := aa (RC h hv) hk
theorem bx {l : List Value} {k : Value → OV} (h : ac P H) [i : Hs P b (.cells ro cs)] [s : Im cs o n l] (hk : wp (k (.agg l.toArray)) Q) : wp ((aQ n (vm b o) H).bind k) Q := by
 obtain ⟨hn, rfl⟩ := s.eq;exact aa (afV h hn) hk
theorem cS {cs' l : List Value} {k : AH → OV} (h : ac P H) [i : Hs P b (.cells false cs)] [c : BK v l] [s : DT cs o l cs'] (hx : l.length = n) (hc : l.all Value.oneCell' = true)
 [u : Up P b (.cells false cs') P'] (hk : ∀ H', ac P' H' → wp (k H') Q) : wp ((fT n (vm b o) v H).bind k) Q := by
 obtain ⟨hn, rfl⟩ := s.eq;have hl := c.eq;subst hl;rw [OL h (by simpa using hx) (by simp at hx hn; omega) hc];exact hk _ (u.set h)
theorem bH {l : List Value} {k : Value → AH → OV} (h : ac P H) [c : BK x l] (hk : ∀ b H', ac (blk b (.cells false l) * P) H' → wp (k (vp b) H') Q) : wp (bA (Value.cells x).toList H k) Q := by
 rw [c.eq]; exact ce h hk
theorem MQ {ps : List (Nat × Nat)} {zero : List Value} {xs : List (Nat × Value)} {k : Value → OV} [f : Vl ps zero xs cs] (hk : wp (k (.agg cs.toArray)) Q) : wp (wn ps zero xs k) Q := xW f.eq hk
theorem IP {zero : List Value} {xs : List (Nat × Value)} {k : Value → AH → OV} (h : ac P H) [f : amM e zero xs cs] (hk : ∀ b H', ac (blk b (.cells false cs) * P) H' → wp (k (vs b 1 e) H') Q) : wp (la 1 e zero xs H k) Q := Vi h f.eq hk
theorem ci {P2 : SP} {H2 : AH} {ro2 : Bool} {cs2 : List Value} {k : OV} (h : ac P H) (h2 : ac P2 H2) [i : Hs P b (.cells ro cs)] [i2 : Hs P2 b (.cells ro2 cs2)] (e : cs[o]? = cs2[o]?) (hk : wp k Q) :
 wp (ic (aA (vm b o) H) (aA (vm b o) H2) k) Q := by
 refine ahH ?_ hk;simp only [aA, uk, dm, aB, i.get h, i2.get h2];exact e
theorem Ih {P2 : SP} {H2 : AH} {ro2 : Bool} {cs2 : List Value} {k : OV} (h : ac P H) (h2 : ac P2 H2) [i : Hs P b (.cells ro cs)] [i2 : Hs P2 b (.cells ro2 cs2)] (e : cs = cs2) (hk : wp k Q) :
 wp (ic (aQ n (vm b o) H) (aQ n (vm b o) H2) k) Q := by
 refine ahH ?_ hk;simp only [aQ, uk, dm, aB, i.get h, i2.get h2, e]
def Sp {α : Type} (f : Nat) (args : List Value) (P : SP) (v : α → Value) (Q : α → SP) : Prop := ∀ R H, ac (P * R) H → ∃ x H', FF f args H = some (v x, H') ∧ ac (Q x * R) H'
theorem qm {α : Type} {f : Nat} {args : List Value} {P : SP} {v : α → Value} {Q : α → SP} (h : ∀ R H, ac (P * R) H → wp (FF f args H) fun v' H' => ∃ x, v' = v x ∧ ac (Q x * R) H') : Sp f args P v Q := by
 intro R H hh;obtain ⟨v', H', e, x, rfl, hq⟩ := h R H hh;exact ⟨x, H', e, hq⟩
theorem gb {α : Type} {f : Nat} {args : List Value} {P : SP} {v : α → Value} {Q : α → SP} {g : AH → OV} (hf : ∀ (H : AH) {r : Value × AH}, g H = some r → FF f args H = some r) (k : ∀ (R : SP) (H : AH), ac (P * R) H → wp (g H) fun v' H' => ∃ x, v' = v x ∧ ac (Q x * R) H') : Sp f args P v Q := qm fun R H h => eD (fun r => hf H) (k R H h)
theorem ah {α : Type} {f : Nat} {args : List Value} {P0 : SP} {v : α → Value} {Q0 : α → SP} {k : Value × AH → OV} (h : ac P H) (s : Sp f args P0 v Q0) [fr : Fr P P0 R] (hk : ∀ x H', ac (Q0 x * R) H' → wp (k (v x, H')) Q) : wp ((FF f args H).bind k) Q := by
 obtain ⟨x, H', e, h'⟩ := s R H h.fr;rw [e];exact hk x H' h'
end
def sl (e : Nat) (v : Value) (n : Nat) (cs : List Value) : SP := ex fun ob : Option Nat => match ob with
 | none => pu (v = .slice none 0 0 ∧ n = 0 ∧ cs = [])
 | some b => pu (v = vs b n e ∧ cs.length = n * e) * blk b (.cells false cs)
theorem akY {R : SP} {H : AH} (e : Nat) (h : ac R H) : ac (sl e (.slice none 0 0) 0 [] * R) H := ac.ex.2 ⟨none, ac.pu.2 ⟨⟨rfl, rfl, rfl⟩, h⟩⟩
theorem Bu {R : SP} {H : AH} {e b n : Nat} {cs : List Value} (hl : cs.length = n * e) (h : ac (blk b (.cells false cs) * R) H) : ac (sl e (vs b n e) n cs * R) H :=
 ac.ex.2 ⟨some b, by rw [aC]; exact ac.pu.2 ⟨⟨rfl, hl⟩, h⟩⟩
theorem ww {R : SP} {H : AH} {e n : Nat} {v : Value} {cs : List Value} (h : ac (sl e v n cs * R) H) : (v = .slice none 0 0 ∧ n = 0 ∧ cs = [] ∧ ac R H) ∨ ∃ b, v = vs b n e ∧ cs.length = n * e ∧ ac (blk b (.cells false cs) * R) H := by
 obtain ⟨ob, h⟩ := ac.ex.1 h
 cases ob with
 | none =>
  obtain ⟨⟨h1, h2, h3⟩, h4⟩ := ac.pu.1 h;exact .inl ⟨h1, h2, h3, h4⟩
 | some b =>
  simp only [aC] at h;obtain ⟨⟨h1, h2⟩, h4⟩ := ac.pu.1 h;exact .inr ⟨b, h1, h2, h4⟩
class Sl (P : SP) (e : Nat) (v : Value) (n : outParam Nat) (cs : outParam (List Value)) (R : outParam SP) : Prop where
 eq : P = sl e v n cs * R
instance (priority := high) Sl.refl (e n : Nat) (v : Value) (cs : List Value) : Sl (sl e v n cs) e v n cs emp := ⟨(ge _).symm⟩
instance Sl.left (P Q R : SP) (e n : Nat) (v : Value) (cs : List Value) [h : Sl P e v n cs R] : Sl (P * Q) e v n cs (R * Q) := ⟨by rw [h.eq, aC]⟩
instance Sl.right (P Q R : SP) (e n : Nat) (v : Value) (cs : List Value) [h : Sl Q e v n cs R] : Sl (P * Q) e v n cs (P * R) := ⟨by rw [h.eq, cC]⟩
theorem Sl.fr {P R : SP} (e : Nat) {n : Nat} (v : Value) {cs : List Value} [h : Sl P e v n cs R] {H : AH} (k : ac P H) : ac (sl e v n cs * R) H := by rw [← h.eq]; exact k
section
variable {P P' R : SP} {H : AH} {b o n m e k : Nat} {ro : Bool} {cs xcs : List Value} {v s x : Value} {Q : Value → AH → Prop}
theorem apW {bytes : Nat} {kk : Value × AH → OV} (h : ac P H) [f : Sl P e s n cs R] [i : Hs R b (.cells ro xcs)] (hl : xcs.length = k * e) (he : 0 < e) (hk0 : 0 < k) (hc : xcs.all Value.oneCell' = true)
 (hr : (n + k) * bytes ≤ cg ∧ n + k ≤ cg) (hk : ∀ a c H', ac (sl e (.slice a (n + k) c) (n + k) (cs ++ xcs) * R) H' → wp (kk (.slice a (n + k) c, H')) Q) : wp ((cz e bytes s (vs b k e) H).bind kk) Q := by
 have hf := Sl.fr e s h;have hg := i.get hf.right
 have hrow : nc e (vs b k e) H = some (k, xcs) := by
  simp only [nc, dm, hg, aB];rw [if_neg (by omega), if_pos (by omega)];simp [← hl]
 unfold cz;rw [hrow];simp only [aB];rw [if_pos ⟨hc, he⟩]
 rcases ww hf with ⟨rfl, rfl, rfl, h'⟩ | ⟨b', rfl, hcl, h'⟩
 ·simp only [and_self, if_true]
  rw [if_neg (by omega), if_pos (by simpa using hr)];simp only [aB, Nat.zero_add, List.nil_append] at hk ⊢;exact hk _ _ _ (Bu hl (h'.push _))
 ·simp only
  have hgb := h'.left.get;rw [if_neg (by omega), if_neg (by omega), hgb];simp only;rw [if_pos ⟨trivial, by omega, hr.1, hr.2⟩];simp only [aB, List.drop_zero];rw [← hcl, List.take_length];have h2 := h'.dead.push (.cells false (cs ++ xcs));rw [AH.size_set] at h2;exact hk _ _ _ (Bu (by rw [cT, hcl, hl, Nat.add_mul]) h2)
end
abbrev Loc := Int × Int × Int
def aqE (l : Loc) : Value := .agg #[vi l.1, vi l.2.1, vi l.2.2]
instance BK.loc (l : Loc) : BK (aqE l) [vi l.1, vi l.2.1, vi l.2.2] := ⟨rfl⟩
structure Ev where
 who : Int
 kind : Int
 loc : Loc
deriving DecidableEq
def Ev.cells (e : Ev) : List Value := [vi e.who, vi e.kind, vi e.loc.1, vi e.loc.2.1, vi e.loc.2.2]
section
variable {α : Type} {enc : α → List Value} {e : Nat}
theorem iO (he : ∀ x, (enc x).length = e) (l : List α) : (l.flatMap enc).length = l.length * e := by
 induction l with
 | nil => simp
 | cons x l ih => rw [List.flatMap_cons, cT, he, ih, List.length_cons, Nat.add_mul]; omega
theorem W1 (he : ∀ x, (enc x).length = e) : ∀ (l : List α) (i : Nat), (l.flatMap enc).drop (i * e) = (l.drop i).flatMap enc := by
 intro l
 induction l with
 | nil => intro i; simp
 | cons x l ih =>
  intro i
  cases i with
  | zero => simp
  | succ i =>
   rw [List.flatMap_cons, List.drop_append, he, show (i + 1) * e - e = i * e from by rw [Nat.add_mul]; omega, ih, List.drop_eq_nil_of_le (by rw [he, Nat.add_mul]; omega)]
   rfl
theorem yn (l : List α) (i : Nat) (hi : i < l.length) : l.flatMap enc = (l.take i).flatMap enc ++ (enc l[i] ++ (l.drop (i + 1)).flatMap enc) := by
 rw [← List.flatMap_cons, ← List.flatMap_append, List.getElem_cons_drop, List.take_append_drop]
theorem afK (l : List α) (i : Nat) (hi : i < l.length) (y : α) : (l.set i y).flatMap enc = (l.take i).flatMap enc ++ (enc y ++ (l.drop (i + 1)).flatMap enc) := by
 rw [← List.flatMap_cons, ← List.flatMap_append, List.set_eq_take_append_cons_drop, if_pos hi]
theorem vh (he : ∀ x, (enc x).length = e) (l : List α) (i : Nat) (hi : i < l.length) : ((l.take i).flatMap enc).length = i * e := by
 rw [iO he, List.length_take, Nat.min_eq_left (by omega)]
theorem aj0 (he : ∀ x, (enc x).length = e) (l : List α) (i : Nat) (hi : i < l.length) : ((l.flatMap enc).drop (i * e)).take e = enc l[i] := by
 rw [yn l i hi, List.drop_append, vh he l i hi, Nat.sub_self, List.drop_zero, List.drop_eq_nil_of_le (by rw [vh he l i hi]; omega), List.nil_append, List.take_append, he, Nat.sub_self, List.take_zero, List.append_nil,
  List.take_of_length_le (by rw [he]; omega)]
theorem ym (he : ∀ x, (enc x).length = e) (l : List α) (i : Nat) (hi : i < l.length) (f : Nat) (hf : f < e) : (l.flatMap enc)[i * e + f]? = (enc l[i])[f]? := by
 rw [yn l i hi, List.getElem?_append_right (by rw [vh he l i hi]; omega), vh he l i hi, List.getElem?_append_left (by rw [he]; omega)]
 congr 1
 omega
theorem Sy (A X B xs : List Value) (f : Nat) (h : f + xs.length ≤ X.length) : splice (A ++ (X ++ B)) (A.length + f) xs = A ++ (splice X f xs ++ B) := by
 unfold splice;rw [List.take_append, List.take_append, List.drop_append, List.drop_append, List.take_of_length_le (by omega), List.drop_eq_nil_of_le (by omega)]
 have e1 : A.length + f - A.length = f := by omega
 have e2 : A.length + f + xs.length - A.length = f + xs.length := by omega
 have e3 : f + xs.length - X.length = 0 := by omega
 have e4 : f - X.length = 0 := by omega
 rw [e1, e2, e3, e4];simp
theorem DE (he : ∀ x, (enc x).length = e) (l : List α) (i : Nat) (hi : i < l.length) (f : Nat) (xs : List Value) (hf : f + xs.length ≤ e) (y : α) (hy : splice (enc l[i]) f xs = enc y) :
 splice (l.flatMap enc) (i * e + f) xs = (l.set i y).flatMap enc := by
 rw [yn l i hi, afK l i hi, ← vh he l i hi, Sy _ _ _ _ _ (by rw [he]; exact hf), hy]
end
def ts {α : Type} (e : Nat) (enc : α → List Value) (v : Value) (l : List α) : SP := sl e v l.length (l.flatMap enc)
class Enc {α : Type} (enc : α → List Value) (e : outParam Nat) : Prop where
 len : ∀ x, (enc x).length = e
 one : ∀ x, (enc x).all Value.oneCell' = true
 pos : 0 < e
class Ts (P : SP) (s : Value) (α : outParam Type) (e : outParam Nat) (enc : outParam (α → List Value)) (l : outParam (List α)) (R : outParam SP) : Prop where
 eq : P = ts e enc s l * R
instance (priority := high) Ts.refl {α : Type} (e : Nat) (enc : α → List Value) (s : Value) (l : List α) : Ts (ts e enc s l) s α e enc l emp := ⟨(ge _).symm⟩
instance Ts.left {α : Type} (P Q R : SP) (e : Nat) (enc : α → List Value) (s : Value) (l : List α) [h : Ts P s α e enc l R] : Ts (P * Q) s α e enc l (R * Q) := ⟨by rw [h.eq, aC]⟩
instance Ts.right {α : Type} (P Q R : SP) (e : Nat) (enc : α → List Value) (s : Value) (l : List α) [h : Ts Q s α e enc l R] : Ts (P * Q) s α e enc l (P * R) := ⟨by rw [h.eq, cC]⟩
class Tu (P : SP) (s : Value) {α : Type} (l' : List α) (P' : outParam SP) : Prop where
 up : ∃ e enc, ∃ (l : List α), ∃ R, P = ts e enc s l * R ∧ P' = ts e enc s l' * R
theorem fR {α : Type} {R : SP} {H : AH} (e : Nat) (enc : α → List Value) (h : ac R H) : ac (ts e enc (.slice none 0 0) [] * R) H := akY e h
section
variable {α : Type} {P P' R : SP} {H : AH} {b o e : Nat} {ro : Bool} {enc : α → List Value} {l : List α} {xcs : List Value} {s : Value} {Q : Value → AH → Prop}
theorem rA (h : ac P H) [f : Ts P s α e enc l R] : (s = .slice none 0 0 ∧ l = [] ∧ ac R H) ∨ ∃ b, s = vs b l.length e ∧ ac (blk b (.cells false (l.flatMap enc)) * R) H := by
 have h' : ac (ts e enc s l * R) H := by rw [← f.eq]; exact h
 rcases ww h' with ⟨h1, h2, _, h4⟩ | ⟨b, h1, _, h3⟩
 ·exact .inl ⟨h1, List.eq_nil_of_length_eq_zero h2, h4⟩
 ·exact .inr ⟨b, h1, h3⟩
theorem rz {b : Nat} [E : Enc enc e] (h : ac (blk b (.cells false (l.flatMap enc)) * R) H) : ac (ts e enc (vs b l.length e) l * R) H := Bu (iO E.len l) h
theorem ahN {k : Value → OV} (h : ac P H) [f : Ts P s α e enc l R] (hk : wp (k (vi l.length)) Q) : wp (cB s k) Q := by
 rcases rA (f := f) h with ⟨rfl, rfl, _⟩ | ⟨b, rfl, _⟩
 ·exact hk
 ·exact hk
theorem d8 {bytes : Nat} {kk : Value × AH → OV} (x : α) (h : ac P H) [f : Ts P s α e enc l R] [i : Hs R b (.cells ro xcs)] [E : Enc enc e] (hx : xcs = enc x)
 (hr : (l.length + 1) * bytes ≤ cg) (hb : 0 < bytes) (hk : ∀ a c H', ac (ts e enc (.slice a (l.length + 1) c) (l ++ [x]) * R) H' → wp (kk (.slice a (l.length + 1) c, H')) Q) : wp ((cz e bytes s (vs b 1 e) H).bind kk) Q := by
 have h' : ac (sl e s l.length (l.flatMap enc) * R) H := by
  have : P = ts e enc s l * R := f.eq;rw [this] at h;exact h
 subst hx;refine apW (k := 1) (ro := ro) (xcs := enc x) h' (by rw [E.len]; omega) E.pos (by omega) (E.one x) ⟨hr, ?_⟩ fun a c H' h2 => hk a c H' ?_
 ·have : l.length + 1 ≤ (l.length + 1) * bytes := Nat.le_mul_of_pos_right _ hb
  omega
 ·have e1 : (l ++ [x]).length = l.length + 1 := by simp
  have e2 : (l ++ [x]).flatMap enc = l.flatMap enc ++ enc x := by simp
  unfold ts;rw [e1, e2];rw [ee] at h2;exact h2
theorem aoS {k : Value → OV} {i : Nat} {kk : IntKind} {v : Value} (h : ac P H) [f : Ts P s α 1 enc l R] [E : Enc enc 1] (hi : i < l.length) (hv : enc l[i] = [v]) (hk : wp (k v) Q) : wp (ld [.i 1 (.int kk (i : Int))] s H k) Q := by
 rcases rA (f := f) h with ⟨_, rfl, _⟩ | ⟨b, rfl, h'⟩
 ·simp at hi
 ·unfold ld
  rw [S7 hi db]
  have := RC (b := b) (o := 0 + i * 1) (v := v) h' (by
   have := ym E.len l i hi 0 (by omega);rw [Nat.add_zero] at this
   rw [Nat.zero_add, this, hv]; rfl)
  rw [this];exact hk
theorem DS {n : Nat} {p : List Stp} {k : AH → OV} {i g : Nat} {kk : IntKind} {v : Value} {xs : List Value} (y : α) (h : ac P H) [f : Ts P s α e enc l R] [E : Enc enc e] (hi : i < l.length) (hp : p = [.i e (.int kk (i : Int))] ∧ g = 0 ∨ p = [.i e (.int kk (i : Int)), .f g])
 [c : BK v xs] (hn : xs.length = n) (hg : g + n ≤ e) (hx : xs.all Value.oneCell' = true) (hy : splice (enc l[i]) g xs = enc y) (hk : ∀ H', ac (ts e enc s (l.set i y) * R) H' → wp (k H') Q) : wp (st n p s v H k) Q := by
 rcases rA (f := f) h with ⟨_, rfl, _⟩ | ⟨b, rfl, h'⟩
 ·simp at hi
 ·have hend : Ft p (vs b l.length e) b (i * e + g) := by
   rcases hp with ⟨rfl, rfl⟩ | rfl
   ·intro R' k'
    rw [S7 hi db];simp
   ·intro R' k'
    rw [S7 hi (eI db)];simp
  unfold st;have hc := c.eq;subst hc;rw [hend];have hlen := iO E.len l;have hm : (i + 1) * e ≤ l.length * e := Nat.mul_le_mul_right _ (by omega);rw [Nat.add_mul] at hm;rw [OL h' (by simpa using hn) (by omega) hx, aB, DE E.len l i hi g _ (by rw [hn]; exact hg) y hy];refine hk _ ?_;have h2 := h'.set (.cells false ((l.set i y).flatMap enc));have h3 := rz (e := e) (enc := enc) (l := l.set i y) h2;rw [Ec] at h3;exact h3
end
instance : Enc Ev.cells 5 := ⟨fun _ => rfl, fun _ => rfl, by omega⟩
def bz (n : Int) : List Value := [vi n]
instance : Enc bz 1 := ⟨fun _ => rfl, fun _ => rfl, by omega⟩
def aoZ (H : AH) (s : Value) (e n : Nat) (cs : List Value) : Prop :=
 cs.length = n * e ∧ ((∃ a c, s = .slice a 0 c ∧ n = 0 ∧ (a = none → c = 0) ∧ (∀ x, a = some x → ∃ b o, x = ⟨b, o, none⟩)) ∨ ∃ b o ro row, s = .slice (some ⟨b, o, none⟩) n e ∧ H.get b = some (.cells ro row) ∧ o + n * e ≤ row.length ∧ (row.drop o).take (n * e) = cs)
class Rd {α : outParam Type} (P : SP) (s : Value) (e : outParam Nat) (enc : outParam (α → List Value)) (l : outParam (List α)) : Prop where
 rd : ∀ {H : AH}, ac P H → aoZ H s e l.length (l.flatMap enc)
instance Rd.left {α : Type} (P Q : SP) (s : Value) (e : Nat) (enc : α → List Value) (l : List α) [r : Rd P s e enc l] : Rd (P * Q) s e enc l := ⟨fun h => r.rd h.left⟩
instance Rd.right {α : Type} (P Q : SP) (s : Value) (e : Nat) (enc : α → List Value) (l : List α) [r : Rd Q s e enc l] : Rd (P * Q) s e enc l := ⟨fun h => r.rd h.right⟩
instance Rd.own {α : Type} (s : Value) (e : Nat) (enc : α → List Value) (l : List α) : Rd (ts e enc s l) s e enc l := ⟨by
 intro H h
 have h' : ac (ts e enc s l * emp) H := by rw [ge]; exact h
 rcases ww h' with ⟨rfl, h2, h3, _⟩ | ⟨b, rfl, hc, h4⟩
 ·exact ⟨by rw [h3, h2]; simp, .inl ⟨none, 0, rfl, h2, fun _ => rfl, fun x hx => by cases hx⟩⟩
 ·exact ⟨hc, .inr ⟨b, 0, false, _, rfl, h4.left.get, by omega, by rw [List.drop_zero, ← hc, List.take_length]⟩⟩⟩
section
variable {α : Type} {P R : SP} {H : AH} {e n : Nat} {enc : α → List Value} {l m : List α} {s : Value} {Q : Value → AH → Prop}
theorem aS {k : Value → OV} (h : ac P H) [r : Rd P s e enc l] (hk : wp (k (vi l.length)) Q) : wp (cB s k) Q := by
 obtain ⟨_, ⟨a, c, rfl, hn, _⟩ | ⟨b, o, ro, row, rfl, _⟩⟩ := r.rd h
 ·rw [hn] at hk; exact hk
 ·exact hk
theorem aoI {R' : Type} {k : Value → Option R'} (h : ac P H) [r : Rd P s e enc l] : cB s k = k (vi l.length) := by
 obtain ⟨_, ⟨a, c, rfl, hn, _⟩ | ⟨b, o, ro, row, rfl, _⟩⟩ := r.rd h
 ·rw [hn]; rfl
 ·rfl
theorem gg {k : Value → OV} (h : ac P H) [r : Rd P s e enc l] (hk : wp (k (vi l.length)) Q) : wp ((cB s some).bind k) Q := by
 rw [aoI h]; exact hk
theorem agR (h : ac P H) [r : Rd P s e enc l] [E : Enc enc e] {i : Nat} (hi : i < l.length) : ∃ b o ro row, s = .slice (some ⟨b, o, none⟩) l.length e ∧ H.get b = some (.cells ro row) ∧ o + l.length * e ≤ row.length ∧ (row.drop o).take (l.length * e) = l.flatMap enc := by
 obtain ⟨_, ⟨a, c, rfl, hn, _⟩ | ⟨b, o, ro, row, h1, h2⟩⟩ := r.rd h
 ·omega
 ·exact ⟨b, o, ro, row, h1, h2⟩
theorem akN [E : Enc enc e] {row : List Value} {o i g : Nat} (h : (row.drop o).take (l.length * e) = l.flatMap enc) (hi : i < l.length) (hg : g < e) : row[o + i * e + g]? = (enc l[i])[g]? := by
 rw [← ym E.len l i hi g hg, ← h];have hm : (i + 1) * e ≤ l.length * e := Nat.mul_le_mul_right _ (by omega);rw [Nat.add_mul] at hm;rw [List.getElem?_take, if_pos (by omega), List.getElem?_drop]
 congr 1; omega
theorem aoH {i g : Nat} {kk : IntKind} {v : Value} (h : ac P H) [r : Rd P s e enc l] [E : Enc enc e] (hi : i < l.length) (hg : g < e) (hv : (enc l[i])[g]? = some v) {R' : Type} {p : List Stp} (hp : p = [.i e (.int kk (i : Int)), .f g] ∨ p = [.i e (.int kk (i : Int))] ∧ g = 0) {k : Value → Option R'} :
 ld p s H k = k v := by
 obtain ⟨b, o, ro, row, rfl, h2, h3, h4⟩ := agR (s := s) (enc := enc) (l := l) h hi
 have hend : ad p (.slice (some ⟨b, o, none⟩) l.length e) = fun k' : Value → Option R' => k' (vm b (o + i * e + g)) := by
  rcases hp with rfl | ⟨rfl, rfl⟩
  ·funext k'; rw [ah3 hi, aqC]; rfl
  ·funext k'; rw [ah3 hi]; rfl
 unfold ld;rw [hend];show (aA (vm b (o + i * e + g)) H).bind k = k v
 have : aA (vm b (o + i * e + g)) H = some v := by
  simp only [aA, uk, dm, aB, h2];rw [akN h4 hi hg, hv]
 rw [this]; rfl
theorem bU {k : Value → OV} {i : Nat} {kk : IntKind} {v : Value} {enc : α → List Value} (h : ac P H) [r : Rd P s 1 enc l] [E : Enc enc 1] (hi : i < l.length) (hv : enc l[i] = [v]) (hk : wp (k v) Q) : wp (ld [.i 1 (.int kk (i : Int))] s H k) Q := by
 rw [aoH (g := 0) (v := v) h hi (by omega) (by rw [hv]; rfl) (.inr ⟨rfl, rfl⟩)]; exact hk
theorem Df {k : Value → OV} {i : Nat} {kk : IntKind} (h : ac P H) [r : Rd P s e enc l] [E : Enc enc e] (hi : i < l.length) (hk : wp (k (.agg (enc l[i]).toArray)) Q) : wp (ldN e [.i e (.int kk (i : Int))] s H k) Q := by
 obtain ⟨b, o, ro, row, rfl, h2, h3, h4⟩ := agR (s := s) (enc := enc) (l := l) h hi;unfold ldN;rw [ah3 hi];have hm : (i + 1) * e ≤ l.length * e := Nat.mul_le_mul_right _ (by omega);rw [Nat.add_mul] at hm
 have : aQ e (vm b (o + i * e)) H = some (.agg (enc l[i]).toArray) := by
  simp only [aQ, uk, dm, aB, h2];rw [if_pos (by omega)]
  congr 3
  rw [← aj0 E.len l i hi, ← h4, List.drop_take, List.drop_drop, List.take_take, Nat.min_eq_left (by omega)]
 show wp ((aQ e (vm b (o + i * e)) H).bind k) Q;rw [this]; exact hk
theorem Bb {lo hi : Option Value} {a b : Nat} (h : ac P H) [r : Rd P s e enc l] [E : Enc enc e] (hlo : (lo = none ∧ a = 0) ∨ ∃ k, lo = some (.int k (a : Int))) (hhi : (hi = none ∧ b = l.length) ∨ ∃ k, hi = some (.int k (b : Int))) (h1 : a ≤ b) (h2 : b ≤ l.length) (h0 : 0 < l.length) :
 ∃ s', eV e s lo hi = some s' ∧ Rd P s' e enc ((l.take b).drop a) := by
 have hlen : ((l.take b).drop a).length = b - a := by rw [List.length_drop, List.length_take, Nat.min_eq_left h2]
 have hfl : (((l.take b).drop a).flatMap enc).length = (b - a) * e := by rw [iO E.len, hlen]
 have hsub : ((l.take b).drop a).flatMap enc = ((l.flatMap enc).drop (a * e)).take ((b - a) * e) := by
  have e2 : (l.drop a).take (b - a) = (l.take b).drop a := by rw [List.drop_take]
  rw [W1 E.len, ← e2]
  have gen : ∀ (m : List α) (k : Nat), k ≤ m.length → (m.take k).flatMap enc = (m.flatMap enc).take (k * e) := by
   intro m
   induction m with
   | nil => intro k hk; simp
   | cons x m ih =>
    intro k hk
    cases k with
    | zero => simp
    | succ k =>
     rw [List.take_succ_cons, List.flatMap_cons, List.flatMap_cons, ih k (by simpa using hk), List.take_append, E.len, List.take_of_length_le (l := enc x) (by rw [E.len, Nat.add_mul]; omega)]
     congr 2
     rw [Nat.add_mul, Nat.one_mul, Nat.add_sub_cancel]
  exact gen _ _ (by rw [List.length_drop]; omega)
 obtain ⟨h0, ⟨a0, c, rfl, hn, hc0, ha0⟩ | ⟨b0, o, ro, row, rfl, _⟩⟩ := r.rd h
 ·omega
 ·refine ⟨.slice (some ⟨b0, o + a * e, none⟩) (b - a) e, ?_, ⟨fun {H'} h' => ?_⟩⟩
  ·have hpos := E.pos
   have hab : (0 : Int) ≤ a ∧ (a : Int) ≤ b ∧ (b : Int) ≤ l.length := by omega
   rcases hlo with ⟨rfl, rfl⟩ | ⟨k1, rfl⟩ <;> rcases hhi with ⟨rfl, rfl⟩ | ⟨k2, rfl⟩ <;> simp only [eV, lH, aB]
   ·rw [if_pos (by omega)]; simp [hpos]
   ·rw [if_pos (by omega)]; simp [hpos]
   ·rw [if_pos (by omega)]; simp [hpos]
   ·rw [if_pos (by omega)]; simp [hpos]
  ·obtain ⟨h0', hr⟩ := r.rd h'
   refine ⟨by rw [hfl, hlen], .inr ?_⟩
   rcases hr with ⟨a1, c1, e1, hn, _, _⟩ | ⟨b1, o1, ro1, row1, e1, g1, g2, g3⟩
   ·omega
   ·obtain ⟨rfl, rfl⟩ : b1 = b0 ∧ o1 = o := by
     have := e1; simp at this; exact ⟨this.1.symm, this.2.symm⟩
    have hm : b * e ≤ l.length * e := Nat.mul_le_mul_right _ h2;have hm2 : a * e ≤ b * e := Nat.mul_le_mul_right _ h1;have hm3 : (b - a) * e = b * e - a * e := Nat.sub_mul ..;rw [hlen];refine ⟨b1, o1 + a * e, ro1, row1, rfl, g1, by omega, ?_⟩;rw [hsub, ← g3, List.drop_take, List.drop_drop, List.take_take, Nat.min_eq_left (by omega)]
end
def cq (H0 : AH) : SP := fun h => h = fun i => H0.get i
theorem jW (H0 : AH) : ac (cq H0) H0 := ⟨_, rfl, fun i o h => h⟩
class Fx (P : SP) (H0 : AH) : Prop where
 fx : ∀ {H : AH}, ac P H → ∀ b o, H0.get b = some o → H.get b = some o
instance Fx.refl (H0 : AH) : Fx (cq H0) H0 := ⟨by
 rintro H ⟨x, hx, hg⟩ b o hb
 have hx : x = _ := hx
 exact hg b o (by rw [hx]; exact hb)⟩
instance Fx.left (P Q : SP) (H0 : AH) [f : Fx P H0] : Fx (P * Q) H0 := ⟨fun h => f.fx h.left⟩
instance Fx.right (P Q : SP) (H0 : AH) [f : Fx Q H0] : Fx (P * Q) H0 := ⟨fun h => f.fx h.right⟩
theorem iB.flat {α : Type} {R : α → List Value → Prop} {enc : α → List Value} (hf : ∀ x c, R x c → c = enc x) {l : List α} {row : List Value} (h : iB R l row) : row = l.flatMap enc := by
 induction h with
 | nil => rfl
 | cons h1 _ ih => rw [hf _ _ h1, ih]; rfl
theorem Rd.arg {H0 : AH} {t : Ty} {enc : t.I → List Value} {l : List t.I} {v : Value} [E : Enc enc t.w] (hf : ∀ x c, Abs H0 t x c → c = enc x) (h : Abs H0 (.slice t) l [v]) : Rd (cq H0) v t.w enc l := ⟨fun {H} hH => by
 refine ⟨iO E.len l, ?_⟩
 rcases h with ⟨rfl, e⟩ | ⟨rfl, b, e⟩ | ⟨b, row, h1, e, h3, _⟩
 ·obtain rfl : v = .slice none 0 0 := by simpa using e
  exact .inl ⟨none, 0, rfl, rfl, fun _ => rfl, fun x hx => by cases hx⟩
 ·obtain rfl : v = .slice (some ⟨b, 0, none⟩) 0 0 := by simpa using e
  exact .inl ⟨_, 0, rfl, rfl, (fun h => by cases h), fun x hx => ⟨b, 0, (kT hx).symm⟩⟩
 ·obtain rfl : v = .slice (some ⟨b, 0, none⟩) l.length t.w := by simpa using e
  have hrow := h3.flat hf;refine .inr ⟨b, 0, true, row, rfl, (Fx.refl H0).fx hH b _ h1, ?_, ?_⟩
  ·rw [hrow, iO E.len]; omega
  ·rw [List.drop_zero, hrow, ← iO E.len l, List.take_length]⟩
theorem aiA {H0 : AH} {t : Ty} {l : List t.I} {v : Value} (h : Abs H0 (.slice t) l [v]) : l.length ≤ maxLen := by
 rcases h with ⟨rfl, _⟩ | ⟨rfl, _⟩ | ⟨_, _, _, _, _, h⟩
 ·simp
 ·simp
 ·exact h
theorem aqQ {P : SP} {H : AH} {f : Nat} {args : List Value} {v : Value} {k : Value × AH → OV} {Q : Value → AH → Prop} (h : ac P H) (s : Sp f args P (fun _ : Unit => v) (fun _ => P)) (hk : ∀ H', ac P H' → wp (k (v, H')) Q) : wp ((FF f args H).bind k) Q := by
 obtain ⟨x, H', e, h'⟩ := s emp H (by rw [ge]; exact h);rw [e];rw [ge] at h';exact hk H' h'
section
variable {α : Type} {P R : SP} {H : AH} {e : Nat} {enc : α → List Value} {l m : List α} {s x : Value} {Q : Value → AH → Prop}
theorem vo {bytes : Nat} {kk : Value × AH → OV} (h : ac P H) [f : Ts P s α e enc l R] [rd : Rd R x e enc m] [E : Enc enc e] (hr : (l.length + m.length) * bytes ≤ cg) (hb : 0 < bytes)
 (hk : ∀ v H', ac (ts e enc v (l ++ m) * R) H' → wp (kk (v, H')) Q) : wp ((cz e bytes s x H).bind kk) Q := by
 have h' : ac (ts e enc s l * R) H := by rw [← f.eq]; exact h
 obtain ⟨hc, ⟨a, c, rfl, hn, _, hax⟩ | ⟨b, o, ro, row, rfl, hg, hle, hrow⟩⟩ := rd.rd h'.right
 ·have hm : m = [] := List.eq_nil_of_length_eq_zero hn
  subst hm
  have hpr : nc e (.slice a 0 c) H = some (0, []) := by
   cases a with
   | none => simp [nc]
   | some y => obtain ⟨b, o, rfl⟩ := hax y rfl; simp [nc]
  unfold cz;rw [hpr];simp only [aB];rw [if_pos ⟨rfl, E.pos⟩]
  rcases ww h' with ⟨rfl, h2, h3, h4⟩ | ⟨b', rfl, h2, h4⟩
  ·simp only [and_self, if_true, aB]
   refine hk _ _ ?_;rw [List.append_nil]; exact h'
  ·simp only [if_true, aB]
   refine hk _ _ ?_;rw [List.append_nil]; exact h'
 ·by_cases hm0 : m.length = 0
  ·have hm : m = [] := List.eq_nil_of_length_eq_zero hm0
   subst hm;unfold cz
   have hpr : nc e (.slice (some ⟨b, o, none⟩) ([] : List α).length e) H = some (0, []) := by simp [nc]
   rw [hpr];simp only [aB];rw [if_pos ⟨rfl, E.pos⟩]
   rcases ww h' with ⟨rfl, h2, h3, h4⟩ | ⟨b', rfl, h2, h4⟩
   ·simp only [and_self, if_true, aB]
    refine hk _ _ ?_;rw [List.append_nil]; exact h'
   ·simp only [if_true, aB]
    refine hk _ _ ?_;rw [List.append_nil]; exact h'
  ·have hpr : nc e (.slice (some ⟨b, o, none⟩) m.length e) H = some (m.length, m.flatMap enc) := by
    simp only [nc, dm, hg, aB];rw [if_neg hm0, if_pos hle, hrow]
   have hall : (m.flatMap enc).all Value.oneCell' = true := by
    rw [List.all_eq_true];intro y hy;obtain ⟨z, _, hz⟩ := List.mem_flatMap.1 hy;exact List.all_eq_true.1 (E.one z) y hz
   have hroom : l.length + m.length ≤ (l.length + m.length) * bytes := Nat.le_mul_of_pos_right _ hb;unfold cz;rw [hpr];simp only [aB];rw [if_pos ⟨hall, E.pos⟩]
   have e1 : (l ++ m).length = l.length + m.length := by simp
   have e2 : (l ++ m).flatMap enc = l.flatMap enc ++ m.flatMap enc := by simp
   have hmul : (l.length + m.length) * e = l.length * e + m.length * e := Nat.add_mul ..
   rcases ww h' with ⟨rfl, h2, h3, h4⟩ | ⟨b', rfl, h2, h4⟩
   ·simp only [and_self, if_true]
    rw [h2, Nat.zero_add] at hr hroom;rw [if_neg hm0, if_pos ⟨hr, by omega⟩];simp only [aB];refine hk _ _ ?_;unfold ts;rw [e1, e2, h3, h2, List.nil_append, Nat.zero_add];exact Bu hc (h4.push _)
   ·have hgb := h4.left.get
    have hpos := E.pos;simp only;rw [if_neg hm0, if_neg (by omega), hgb];simp only;rw [if_pos ⟨trivial, by omega, hr, by omega⟩];simp only [aB, List.drop_zero];rw [← h2, List.take_length];have h5 := h4.dead.push (.cells false (l.flatMap enc ++ m.flatMap enc));rw [AH.size_set] at h5;refine hk _ _ ?_;unfold ts;rw [e1, e2];exact Bu (by rw [cT, h2, hc]; omega) h5
theorem HK {z : α} {zero : List Value} (hz : enc z = zero) : ∀ n : Nat, (List.replicate n zero).flatten = (List.replicate n z).flatMap enc := by
 intro n
 induction n with
 | zero => rfl
 | succ n ih => rw [List.replicate_succ, List.replicate_succ, List.flatten_cons, List.flatMap_cons, ih, hz]
theorem MS {zero : List Value} {bytes n : Nat} {kk : Value × AH → OV} (z : α) (h : ac P H) [E : Enc enc e] (hz : enc z = zero) (hr : n * bytes ≤ cg) (hb : 0 < bytes) (hk : ∀ b H', ac (ts e enc (vs b n e) (List.replicate n z) * P) H' → wp (kk (vs b n e, H')) Q) :
 wp ((mD zero e bytes (vi n) (vi n) H).bind kk) Q := by
 have hroom : n ≤ n * bytes := Nat.le_mul_of_pos_right _ hb
 have hz2 : zero.length = e := by rw [← hz, E.len]
 unfold mD;simp only [N7];rw [if_pos ⟨by omega, trivial, hr, by omega, E.pos, hz2⟩];simp only [aB];refine hk _ _ ?_;have h2 := h.push (.cells false (List.replicate n zero).flatten);rw [HK hz] at h2 ⊢;have h3 := rz (e := e) (enc := enc) (l := List.replicate n z) h2;rw [List.length_replicate] at h3;exact h3
end
class KeyE {κ : Type} [DecidableEq κ] (cl : outParam KCls) (ek : κ → Value) : Prop where
 eq : ∀ a b, nJ cl (ek a) (ek b) = some (decide (a = b))
 ok : ∀ a, jB cl (ek a) = true
inductive Ents {κ : Type} (ek : κ → Value) : List (κ × Value) → List MapEntry → Prop
 | nil : Ents ek [] []
 | cons {p : κ × Value} {l : List (κ × Value)} {e : MapEntry} {es : List MapEntry} (h1 : e.key = ek p.1) (h2 : e.val = p.2) (k : Ents ek l es) : Ents ek (p :: l) (e :: es)
section
variable {κ : Type} [DecidableEq κ] {ek : κ → Value} {cl : KCls}
def apD : List (κ × Value) → κ → Option Value
 | [], _ => none
 | p :: al, k => if k = p.1 then some p.2 else apD al k
def mpS (ek : κ → Value) (b : Nat) (f : κ → Option Value) : SP := ex fun g : List (κ × Value) × List MapEntry × Nat => pu (Ents ek g.1 g.2.1 ∧ ∀ k, apD g.1 k = f k) * blk b (.map g.2.1 g.2.2)
class Mp (P : SP) (b : Nat) {κ : Type} [DecidableEq κ] (ek : κ → Value) (f : outParam (κ → Option Value)) (R : outParam SP) : Prop where
 eq : P = mpS ek b f * R
instance (priority := high) Mp.refl {κ : Type} [DecidableEq κ] (b : Nat) (ek : κ → Value) (f : κ → Option Value) : Mp (mpS ek b f) b ek f emp := ⟨(ge _).symm⟩
instance Mp.left {κ : Type} [DecidableEq κ] (P Q R : SP) (b : Nat) (ek : κ → Value) (f : κ → Option Value) [h : Mp P b ek f R] : Mp (P * Q) b ek f (R * Q) := ⟨by rw [h.eq, aC]⟩
instance Mp.right {κ : Type} [DecidableEq κ] (P Q R : SP) (b : Nat) (ek : κ → Value) (f : κ → Option Value) [h : Mp Q b ek f R] : Mp (P * Q) b ek f (P * R) := ⟨by rw [h.eq, cC]⟩
end
section
variable {cl : TCls} {w : Nat}
theorem apO (n : Nat) (h : n ≠ 0) : ag cl .rem (vu w) (.int .u64 (n : Int)) = some (vu (w % n)) := BS h
theorem apN (n : Nat) (h : n ≠ 0) (hw : w < 18446744073709551616) : ag cl .quo (vu w) (.int .u64 (n : Int)) = some (vu (w / n)) := VF h hw
theorem EP {w : Nat} (hw : w < 9223372036854775808) : aO (some .i64) (vu w) = some (vi (w : Int)) := by
 simp only [aO];rw [ma (by omega) (by omega)]
theorem cw {n : Int} (h0 : 0 ≤ n) (h1 : n < 18446744073709551616) : aO (some .u64) (vi n) = some (vu n.toNat) := by
 simp only [aO];rw [qp h0 h1];show _ = some (Value.int .u64 ((n.toNat : Nat) : Int));rw [Int.toNat_of_nonneg h0]
end
theorem jT {cl : TCls} {a b : Int} (h0 : -9223372036854775808 ≤ a * b) (h1 : a * b < 9223372036854775808) : ag cl .mul (vi a) (vi b) = some (vi (a * b)) := by simp only [ag, j9, if_true, ma h0 h1]
section
variable {cl : TCls} {k : IntKind} {a b : Int}
theorem aW (h : a < b) : ag cl .lss (.int k a) (.int k b) = some (vb true) := by rw [SU, dZ h]
theorem aU (h : ¬ a < b) : ag cl .lss (.int k a) (.int k b) = some (vb false) := by rw [SU, gm h]
theorem rV (h : a ≤ b) : ag cl .leq (.int k a) (.int k b) = some (vb true) := by rw [ST, dZ h]
theorem tZ (h : ¬ a ≤ b) : ag cl .leq (.int k a) (.int k b) = some (vb false) := by rw [ST, gm h]
theorem iQ (h : b < a) : ag cl .gtr (.int k a) (.int k b) = some (vb true) := by rw [J7, dZ h]
theorem iP (h : ¬ b < a) : ag cl .gtr (.int k a) (.int k b) = some (vb false) := by rw [J7, gm h]
theorem ln (h : b ≤ a) : ag cl .geq (.int k a) (.int k b) = some (vb true) := by rw [SS, dZ h]
theorem lm (h : ¬ b ≤ a) : ag cl .geq (.int k a) (.int k b) = some (vb false) := by rw [SS, gm h]
theorem cM (h : a = b) : ag cl .eql (.int k a) (.int k b) = some (vb true) := by rw [iE, beq_iff_eq.2 h]
theorem nw (h : ¬ a = b) : ag cl .eql (.int k a) (.int k b) = some (vb false) := by rw [iE, beq_eq_false_iff_ne.2 h]
theorem DG (h : ¬ a = b) : ag cl .neq (.int k a) (.int k b) = some (vb true) := by rw [SV, bne_iff_ne.2 h]
theorem fL (h : a = b) : ag cl .neq (.int k a) (.int k b) = some (vb false) := by
 rw [SV];simp [h]
end
theorem Cb {c : Bool} {e : Option Value} {v : Value} (h : e = some v) : gB (vb c) c e = some v := by
 cases c <;> (rw [h]; rfl)
theorem al3 {v : Value} : gV (vb true) true v = some v := rfl
theorem al0 {v : Value} : gV (vb false) false v = some v := rfl
theorem al2 {v : Value} : gV (vb true) false v = some undef := rfl
theorem al1 {v : Value} : gV (vb false) true v = some undef := rfl
theorem alZ {e : Option Value} : gB (vb true) false e = some undef := rfl
theorem alY {e : Option Value} : gB (vb false) true e = some undef := rfl
section
variable {H : AH} {e : Option (Value × AH)} {k : Value × AH → OV} {Q : Value → AH → Prop} {x : Option Value} {kv : Value → OV}
theorem MR (h : wp (e.bind k) Q) : wp ((gE (vb true) true H e).bind k) Q := h
theorem Vf (h : wp (e.bind k) Q) : wp ((gE (vb false) false H e).bind k) Q := h
theorem Vh (h : wp (k (undef, H)) Q) : wp ((gE (vb true) false H e).bind k) Q := h
theorem Vg (h : wp (k (undef, H)) Q) : wp ((gE (vb false) true H e).bind k) Q := h
theorem OY (h : wp (x.bind kv) Q) : wp ((za (yv (vb true)) true x (some undef)).bind kv) Q := h
theorem OU (h : wp (x.bind kv) Q) : wp ((za (yv (vb false)) false x (some undef)).bind kv) Q := h
theorem OX (h : wp (kv undef) Q) : wp ((za (yv (vb true)) false x (some undef)).bind kv) Q := h
theorem OW (h : wp (kv undef) Q) : wp ((za (yv (vb false)) true x (some undef)).bind kv) Q := h
end
theorem N3 (c : Bool) (e : Option Value) : gB (vb c) c e = e := by cases c <;> cases e <;> rfl
theorem afL {R : Type} (c : Bool) (k : Value → Option R) : ∀ (p : List Stp) (x : Value), gad (vb c) c p x k = ad p x k := by
 intro p
 induction p with
 | nil => intro x; rfl
 | cons s p ih => intro x; cases s <;> simp only [gad, ad, N3, ih]
theorem UH {R : Type} (c : Bool) (k : Value → Option R) (hk : ∀ x, k x = k undef) : ∀ (p : List Stp) (x : Value), gad (vb c) (!c) p x k = k undef := by
 intro p
 induction p with
 | nil => intro x; exact hk x
 | cons s p ih => intro x; cases c <;> cases s <;> exact ih undef
section
variable {H : AH} {p : List Stp} {x : Value} {k : Value → OV} {Q : Value → AH → Prop} {n : Nat}
theorem afM {R : Type} (c : Bool) (k : Value → Option R) : lp (vb c) c p x H k = ld p x H k := by simp only [lp, ld, afL, N3]
theorem UI {R : Type} (c : Bool) (k : Value → Option R) : sq (vb c) c n p x H k = ldN n p x H k := by simp only [sq, ldN, afL, N3]
theorem UJ {R : Type} (c : Bool) (k : Value → Option R) : lp (vb c) (!c) p x H k = k undef := by
 unfold lp
 rw [UH c _ (fun x => by cases c <;> rfl)]
 cases c <;> rfl
theorem N4 {R : Type} (c : Bool) (k : Value → Option R) : sq (vb c) (!c) n p x H k = k undef := by
 unfold sq
 rw [UH c _ (fun x => by cases c <;> rfl)]
 cases c <;> rfl
theorem ahL (h : wp (ld p x H k) Q) : wp (lp (vb true) true p x H k) Q := by rw [afM]; exact h
theorem ahI (h : wp (ld p x H k) Q) : wp (lp (vb false) false p x H k) Q := by rw [afM]; exact h
theorem ahK (h : wp (k undef) Q) : wp (lp (vb true) false p x H k) Q := by rw [show (false : Bool) = !true from rfl, UJ]; exact h
theorem ahJ (h : wp (k undef) Q) : wp (lp (vb false) true p x H k) Q := by rw [show lp (vb false) true p x H k = lp (vb false) (!false) p x H k from rfl, UJ]; exact h
theorem XT (h : wp (ldN n p x H k) Q) : wp (sq (vb true) true n p x H k) Q := by rw [UI]; exact h
theorem XQ (h : wp (ldN n p x H k) Q) : wp (sq (vb false) false n p x H k) Q := by rw [UI]; exact h
theorem XS (h : wp (k undef) Q) : wp (sq (vb true) false n p x H k) Q := by rw [show sq (vb true) false n p x H k = sq (vb true) (!true) n p x H k from rfl, N4]; exact h
theorem XR (h : wp (k undef) Q) : wp (sq (vb false) true n p x H k) Q := by rw [show sq (vb false) true n p x H k = sq (vb false) (!false) n p x H k from rfl, N4]; exact h
theorem ak8 {e : Option Value} (h : wp (e.bind k) Q) : wp ((gB (vb true) true e).bind k) Q := by rw [N3]; exact h
theorem ak7 {e : Option Value} (h : wp (e.bind k) Q) : wp ((gB (vb false) false e).bind k) Q := by rw [N3]; exact h
theorem ahG {a b : OV} (h : wp a Q) : wp (aw (vb true) a b) Q := h
theorem ahF {a b : OV} (h : wp b Q) : wp (aw (vb false) a b) Q := h
end
theorem aqI {b : Bool} {v : Value} : gV undef b v = some undef := rfl
theorem aqH {b : Bool} {e : Option Value} : gB undef b e = some undef := rfl
theorem ao6 {R : Type} (b : Bool) (k : Value → Option R) (hk : ∀ x, k x = k undef) : ∀ (p : List Stp) (x : Value), gad undef b p x k = k undef := by
 intro p
 induction p with
 | nil => intro x; exact hk x
 | cons s p ih => intro x; cases s <;> exact ih undef
theorem ao7 {R : Type} {b : Bool} {p : List Stp} {x : Value} {H : AH} (k : Value → Option R) : lp undef b p x H k = k undef := by
 unfold lp;rw [ao6 b _ (fun x => rfl)]
 rfl
theorem ak9 {b : Bool} {p : List Stp} {x : Value} {H : AH} {k : Value → OV} {Q : Value → AH → Prop} (h : wp (k undef) Q) : wp (lp undef b p x H k) Q := by rw [ao7]; exact h
class Gd (x : OV) (y : outParam OV) : Prop where
 go : ∀ {Q : Value → AH → Prop}, wp y Q → wp x Q
section
variable {a b v : Value} {k : Value → OV} {H : AH} {e : Option (Value × AH)} {e1 : Option Value} {ke : Value × AH → OV} {p : List Stp} {x : Value} {n : Nat} {c : Bool} {o1 o2 : OV}
instance : Gd ((aE (vb true) a b).bind k) (k a) := ⟨aa (agL _ _)⟩
instance : Gd ((aE (vb false) a b).bind k) (k b) := ⟨aa (agK _ _)⟩
instance : Gd ((gV (vb true) true v).bind k) (k v) := ⟨aa al3⟩
instance : Gd ((gV (vb false) false v).bind k) (k v) := ⟨aa al0⟩
instance : Gd ((gV (vb true) false v).bind k) (k undef) := ⟨aa al2⟩
instance : Gd ((gV (vb false) true v).bind k) (k undef) := ⟨aa al1⟩
instance : Gd ((gB (vb true) false e1).bind k) (k undef) := ⟨aa alZ⟩
instance : Gd ((gB (vb false) true e1).bind k) (k undef) := ⟨aa alY⟩
instance : Gd ((gE (vb true) false H e).bind ke) (ke (undef, H)) := ⟨Vh⟩
instance : Gd ((gE (vb false) true H e).bind ke) (ke (undef, H)) := ⟨Vg⟩
instance : Gd ((gE (vb true) true H e).bind ke) (e.bind ke) := ⟨MR⟩
instance : Gd ((gE (vb false) false H e).bind ke) (e.bind ke) := ⟨Vf⟩
instance : Gd ((za (yv (vb true)) false e1 (some undef)).bind k) (k undef) := ⟨OX⟩
instance : Gd ((za (yv (vb false)) true e1 (some undef)).bind k) (k undef) := ⟨OW⟩
instance : Gd ((za (yv (vb true)) true e1 (some undef)).bind k) (e1.bind k) := ⟨OY⟩
instance : Gd ((za (yv (vb false)) false e1 (some undef)).bind k) (e1.bind k) := ⟨OU⟩
instance : Gd (lp (vb true) true p x H k) (ld p x H k) := ⟨ahL⟩
instance : Gd (lp (vb false) false p x H k) (ld p x H k) := ⟨ahI⟩
instance : Gd (lp (vb true) false p x H k) (k undef) := ⟨ahK⟩
instance : Gd (lp (vb false) true p x H k) (k undef) := ⟨ahJ⟩
instance : Gd (sq (vb true) true n p x H k) (ldN n p x H k) := ⟨XT⟩
instance : Gd (sq (vb false) false n p x H k) (ldN n p x H k) := ⟨XQ⟩
instance : Gd (sq (vb true) false n p x H k) (k undef) := ⟨XS⟩
instance : Gd (sq (vb false) true n p x H k) (k undef) := ⟨XR⟩
instance : Gd ((gB (vb true) true e1).bind k) (e1.bind k) := ⟨ak8⟩
instance : Gd ((gB (vb false) false e1).bind k) (e1.bind k) := ⟨ak7⟩
instance : Gd ((xi .not (vb c)).bind k) (k (vb (!c))) := ⟨aa jw⟩
instance : Gd (aw (vb true) o1 o2) o1 := ⟨ahG⟩
instance : Gd (aw (vb false) o1 o2) o2 := ⟨ahF⟩
instance : Gd ((gV undef c v).bind k) (k undef) := ⟨aa aqI⟩
instance : Gd ((gB undef c e1).bind k) (k undef) := ⟨aa aqH⟩
instance : Gd (lp undef c p x H k) (k undef) := ⟨ak9⟩
class Gh (x : OV) (y : outParam OV) : Prop where
 go : ∀ {Q : Value → AH → Prop}, wp y Q → wp x Q
instance : Gh ((aE (vb true) a b).bind k) (k a) := ⟨aa (agL _ _)⟩
instance : Gh ((aE (vb false) a b).bind k) (k b) := ⟨aa (agK _ _)⟩
instance : Gh ((gV (vb true) true v).bind k) (k v) := ⟨aa al3⟩
instance : Gh ((gV (vb false) false v).bind k) (k v) := ⟨aa al0⟩
instance : Gh ((gV (vb true) false v).bind k) (k undef) := ⟨aa al2⟩
instance : Gh ((gV (vb false) true v).bind k) (k undef) := ⟨aa al1⟩
instance : Gh ((gB (vb true) false e1).bind k) (k undef) := ⟨aa alZ⟩
instance : Gh ((gB (vb false) true e1).bind k) (k undef) := ⟨aa alY⟩
instance : Gh ((gE (vb true) false H e).bind ke) (ke (undef, H)) := ⟨Vh⟩
instance : Gh ((gE (vb false) true H e).bind ke) (ke (undef, H)) := ⟨Vg⟩
instance : Gh ((gE (vb true) true H e).bind ke) (e.bind ke) := ⟨MR⟩
instance : Gh ((gE (vb false) false H e).bind ke) (e.bind ke) := ⟨Vf⟩
instance : Gh ((za (yv (vb true)) false e1 (some undef)).bind k) (k undef) := ⟨OX⟩
instance : Gh ((za (yv (vb false)) true e1 (some undef)).bind k) (k undef) := ⟨OW⟩
instance : Gh ((za (yv (vb true)) true e1 (some undef)).bind k) (e1.bind k) := ⟨OY⟩
instance : Gh ((za (yv (vb false)) false e1 (some undef)).bind k) (e1.bind k) := ⟨OU⟩
end
class Gs (x : OV) (y : outParam OV) : Prop where
 go : ∀ {Q : Value → AH → Prop}, wp y Q → wp x Q
class Gt (x : OV) (y : outParam OV) : Prop where
 go : ∀ {Q : Value → AH → Prop}, wp y Q → wp x Q
instance (priority := low) {x : OV} : Gs x x := ⟨id⟩
instance (priority := low) {x : OV} : Gt x x := ⟨id⟩
instance {x y z : OV} [g : Gd x y] [h : Gs y z] : Gs x z := ⟨fun q => g.go (h.go q)⟩
instance {x y z : OV} [g : Gh x y] [h : Gt y z] : Gt x z := ⟨fun q => g.go (h.go q)⟩
theorem gs {x y : OV} [g : Gs x y] {Q : Value → AH → Prop} (h : wp y Q) : wp x Q := g.go h
def bD (v n : Int) : Int := (v % 18446744073709551616) % n
theorem bV {v n : Int} (h : 0 < n) : 0 ≤ bD v n ∧ bD v n < n := ⟨Int.emod_nonneg _ (by omega), Int.emod_lt_of_pos _ h⟩
theorem aN (v n : Int) (h0 : 0 < n) (h1 : n < 9223372036854775808) : Sp aD [vi v, vi n] emp (fun _ : Unit => vi (bD v n)) (fun _ => emp) := by
 refine gb (Ou _ _) fun R H h => ?_
 have e1 : aO (some .u64) (vi v) = some (vu (v % 18446744073709551616).toNat) := by
  simp only [aO];rw [SE];have : 0 ≤ v % 18446744073709551616 := Int.emod_nonneg _ (by omega);show _ = some (Value.int .u64 (((v % 18446744073709551616).toNat : Nat) : Int));rw [Int.toNat_of_nonneg this]
 refine aa (e1) ?_;refine aa (cw (by omega) (by omega)) ?_;refine aa (BS (by omega)) ?_;have hm := bV (v := v) h0
 have e2 : (((v % 18446744073709551616).toNat % n.toNat : Nat) : Int) = bD v n := by
  have : 0 ≤ v % 18446744073709551616 := Int.emod_nonneg _ (by omega);unfold bD;rw [Int.natCast_emod, Int.toNat_of_nonneg this, Int.toNat_of_nonneg (by omega)]
 refine aa (EP (by omega)) ?_;rw [e2];exact ay ⟨(), rfl, ac.to (by assumption)⟩
structure Cfg where
 sh : Int
 sl : Int
 wk : Int
 wd : Int
 un : Nat
abbrev Cfg.cells (c : Cfg) : List Value := [vi c.sh, vi c.sl, vi c.wk, vi c.wd, vu c.un]
structure Cl where
 op : Int
 flow : Int
 a : Int
 b : Int
abbrev Cl.cells (x : Cl) : List Value := [vi x.op, vi x.flow, vi x.a, vi x.b]
instance : Enc Cl.cells 4 := ⟨fun _ => rfl, fun _ => rfl, by omega⟩
structure Sv where
 a : Option Addr
 n : Nat
 c : Nat
abbrev Sv.v (s : Sv) : Value := .slice s.a s.n s.c
abbrev iK (s : Sv) : List Value := [.slice s.a s.n s.c]
instance : Enc iK 1 := ⟨fun _ => rfl, fun _ => rfl, by omega⟩
abbrev aK (c : Cfg) (v : Value) : List Value := [vi c.sh, vi c.sl, vi c.wk, vi c.wd, vu c.un, v]
def dn (c : Cfg) : Bool := decide (1 ≤ c.sh ∧ c.sh ≤ 4 ∧ 1 ≤ c.sl ∧ c.sl ≤ 4 ∧ 1 ≤ c.wk ∧ c.wk ≤ 6 ∧ 0 ≤ c.wd ∧ c.wd ≤ 40 ∧ 1 ≤ c.un ∧ c.un ≤ 4611686018427387904)
theorem aT {c : Cfg} : dn c = true ↔ (1 ≤ c.sh ∧ c.sh ≤ 4 ∧ 1 ≤ c.sl ∧ c.sl ≤ 4 ∧ 1 ≤ c.wk ∧ c.wk ≤ 6 ∧ 0 ≤ c.wd ∧ c.wd ≤ 40 ∧ 1 ≤ c.un ∧ c.un ≤ 4611686018427387904) := by unfold dn; exact decide_eq_true_iff
theorem cI {c : Cfg} (h : ¬ (1 ≤ c.sh ∧ c.sh ≤ 4 ∧ 1 ≤ c.sl ∧ c.sl ≤ 4 ∧ 1 ≤ c.wk ∧ c.wk ≤ 6 ∧ 0 ≤ c.wd ∧ c.wd ≤ 40 ∧ 1 ≤ c.un ∧ c.un ≤ 4611686018427387904)) : dn c = false := by unfold dn; exact gm h
theorem fY (x a b : Int) : Sp ew [vi x, vi a, vi b] emp (fun _ : Unit => vb (decide (a ≤ x ∧ x ≤ b))) (fun _ => emp) := by
 refine gb (Ee _ _ _) fun R H h => ?_
 by_cases h1 : a ≤ x
 ·refine aa (ln h1) ?_
  refine gs ?_
  by_cases h2 : x ≤ b
  ·refine aa (rV h2) ?_
   refine gs ?_;rw [dZ ⟨h1, h2⟩];exact ay ⟨(), rfl, ac.to (by assumption)⟩
  ·refine aa (tZ h2) ?_
   refine gs ?_;rw [gm (fun h => h2 h.2)];exact ay ⟨(), rfl, ac.to (by assumption)⟩
 ·refine aa (lm h1) ?_
  refine gs ?_;rw [gm (fun h => h1 h.1)];exact ay ⟨(), rfl, ac.to (by assumption)⟩
theorem Xp (c : Cfg) : Sp ub [.agg (Cfg.cells c).toArray] emp (fun _ : Unit => vb (dn c)) (fun _ => emp) := by
 refine gb (MA _) fun R H h => ?_;refine bH h fun b H1 h1 => ?_;refine aL h1 aj rfl ?_
 by_cases g0 : 1 ≤ c.sh
 case neg =>
  refine aa (lm g0) ?_;refine gs ?_;rw [cI (by omega)];exact ay ⟨(), rfl, ac.to (by assumption)⟩
 refine aa (ln g0) ?_;refine gs ?_;refine aL h1 aj rfl ?_;refine gs ?_
 by_cases g1 : c.sh ≤ 4
 case neg =>
  refine aa (tZ g1) ?_;refine gs ?_;rw [cI (by omega)];exact ay ⟨(), rfl, ac.to (by assumption)⟩
 refine aa (rV g1) ?_;refine gs ?_;refine aL h1 aj rfl ?_;refine gs ?_
 by_cases g2 : 1 ≤ c.sl
 case neg =>
  refine aa (lm g2) ?_;refine gs ?_;rw [cI (by omega)];exact ay ⟨(), rfl, ac.to (by assumption)⟩
 refine aa (ln g2) ?_;refine gs ?_;refine aL h1 aj rfl ?_;refine gs ?_
 by_cases g3 : c.sl ≤ 4
 case neg =>
  refine aa (tZ g3) ?_;refine gs ?_;rw [cI (by omega)];exact ay ⟨(), rfl, ac.to (by assumption)⟩
 refine aa (rV g3) ?_;refine gs ?_;refine aL h1 aj rfl ?_;refine gs ?_
 by_cases g4 : 1 ≤ c.wk
 case neg =>
  refine aa (lm g4) ?_;refine gs ?_;rw [cI (by omega)];exact ay ⟨(), rfl, ac.to (by assumption)⟩
 refine aa (ln g4) ?_;refine gs ?_;refine aL h1 aj rfl ?_;refine gs ?_
 by_cases g5 : c.wk ≤ 6
 case neg =>
  refine aa (tZ g5) ?_;refine gs ?_;rw [cI (by omega)];exact ay ⟨(), rfl, ac.to (by assumption)⟩
 refine aa (rV g5) ?_;refine gs ?_;refine aL h1 aj rfl ?_;refine gs ?_
 by_cases g6 : 0 ≤ c.wd
 case neg =>
  refine aa (lm g6) ?_;refine gs ?_;rw [cI (by omega)];exact ay ⟨(), rfl, ac.to (by assumption)⟩
 refine aa (ln g6) ?_;refine gs ?_;refine aL h1 aj rfl ?_;refine gs ?_
 by_cases g7 : c.wd ≤ 40
 case neg =>
  refine aa (tZ g7) ?_;refine gs ?_;rw [cI (by omega)];exact ay ⟨(), rfl, ac.to (by assumption)⟩
 refine aa (rV g7) ?_;refine gs ?_;refine aL h1 aj rfl ?_;refine gs ?_
 by_cases g8 : (1 : Int) ≤ c.un
 case neg =>
  refine aa (lm g8) ?_;refine gs ?_;rw [cI (by omega)];exact ay ⟨(), rfl, ac.to (by assumption)⟩
 refine aa (ln g8) ?_;refine gs ?_;refine aL h1 aj rfl ?_;refine gs ?_
 by_cases g9 : (c.un : Int) ≤ 4611686018427387904
 case neg =>
  refine aa (tZ g9) ?_;refine gs ?_;rw [cI (by omega)];exact ay ⟨(), rfl, ac.to (by assumption)⟩
 refine aa (rV g9) ?_;refine gs ?_;rw [aT.2 (by omega)];exact ay ⟨(), rfl, ac.to (by assumption)⟩
theorem t6 (c : Cfg) : Sp gA [.agg (Cfg.cells c).toArray] emp (fun _ : Unit => vb (dn c)) (fun _ => emp) := by
 refine gb (Hu _) fun R H h => ?_;refine bH h fun b H1 h1 => ?_;refine aL h1 aj rfl ?_;refine ah h1 (fY c.sh 1 4) fun _ K0 k0 => ?_
 by_cases g0 : (1 : Int) ≤ c.sh ∧ c.sh ≤ 4
 case neg =>
  rw [gm g0];refine gs ?_;rw [cI (by omega)];exact ay ⟨(), rfl, ac.to (by assumption)⟩
 rw [dZ g0];refine gs ?_;refine aL k0 aj rfl ?_;refine gs ?_;refine ah k0 (fY c.sl 1 4) fun _ K1 k1 => ?_
 by_cases g1 : (1 : Int) ≤ c.sl ∧ c.sl ≤ 4
 case neg =>
  rw [gm g1];refine gs ?_;rw [cI (by omega)];exact ay ⟨(), rfl, ac.to (by assumption)⟩
 rw [dZ g1];refine gs ?_;refine aL k1 aj rfl ?_;refine gs ?_;refine ah k1 (fY c.wk 1 6) fun _ K2 k2 => ?_
 by_cases g2 : (1 : Int) ≤ c.wk ∧ c.wk ≤ 6
 case neg =>
  rw [gm g2];refine gs ?_;rw [cI (by omega)];exact ay ⟨(), rfl, ac.to (by assumption)⟩
 rw [dZ g2];refine gs ?_;refine aL k2 aj rfl ?_;refine gs ?_;refine ah k2 (fY c.wd 0 40) fun _ K3 k3 => ?_
 by_cases g3 : (0 : Int) ≤ c.wd ∧ c.wd ≤ 40
 case neg =>
  rw [gm g3];refine gs ?_;rw [cI (by omega)];exact ay ⟨(), rfl, ac.to (by assumption)⟩
 rw [dZ g3];refine gs ?_;refine aL k3 aj rfl ?_;refine gs ?_
 by_cases g4 : (1 : Int) ≤ c.un
 case neg =>
  refine aa (lm g4) ?_;refine gs ?_;rw [cI (by omega)];exact ay ⟨(), rfl, ac.to (by assumption)⟩
 refine aa (ln g4) ?_;refine gs ?_;refine aL k3 aj rfl ?_;refine gs ?_
 by_cases g5 : (c.un : Int) ≤ 4611686018427387904
 case neg =>
  refine aa (tZ g5) ?_;refine gs ?_;rw [cI (by omega)];exact ay ⟨(), rfl, ac.to (by assumption)⟩
 refine aa (rV g5) ?_;refine gs ?_;rw [aT.2 (by omega)];exact ay ⟨(), rfl, ac.to (by assumption)⟩
class Ls (P : SP) (v : Value) (ll : outParam (List (List Cl))) : Prop where
 out : ∃ vs : List Sv, vs.length = ll.length ∧ Rd P v 1 iK vs ∧ ∀ i (h : i < vs.length) (h' : i < ll.length), Rd P (vs[i]).v 4 Cl.cells ll[i]
instance Ls.left (P Q : SP) (v : Value) (ll : List (List Cl)) [L : Ls P v ll] : Ls (P * Q) v ll := ⟨by
 obtain ⟨vs, h1, h2, h3⟩ := L.out
 exact ⟨vs, h1, inferInstance, fun i h h' => by haveI := h3 i h h'; infer_instance⟩⟩
instance Ls.right (P Q : SP) (v : Value) (ll : List (List Cl)) [L : Ls Q v ll] : Ls (P * Q) v ll := ⟨by
 obtain ⟨vs, h1, h2, h3⟩ := L.out
 exact ⟨vs, h1, inferInstance, fun i h h' => by haveI := h3 i h h'; infer_instance⟩⟩
def ck (ll : List (List Cl)) : Nat := (ll.map List.length).sum
theorem Da {ll : List (List Cl)} {i : Nat} (h : i < ll.length) : ck (ll.take (i + 1)) = ck (ll.take i) + ll[i].length := by
 unfold ck;rw [← List.take_append_getElem h, Ac, List.sum_append];simp
theorem MO {ll : List (List Cl)} (i : Nat) : ck (ll.take i) ≤ ck ll := by
 have : ck ll = ck (ll.take i) + ck (ll.drop i) := by
  unfold ck;rw [← List.sum_append, ← Ac, List.take_append_drop]
 omega
theorem ON {ll : List (List Cl)} {i : Nat} (h : ll.length ≤ i) : ck (ll.take i) = ck ll := by rw [List.take_of_length_le h]
theorem HV {ll : List (List Cl)} {m : Nat} (h : ∀ l ∈ ll, l.length ≤ m) : ck ll ≤ ll.length * m := by
 induction ll with
 | nil => simp [ck]
 | cons l ll ih =>
  have h1 := h l (by simp);have h2 := ih (fun x hx => h x (by simp [hx]))
  have h3 : ck (l :: ll) = l.length + ck ll := by simp [ck]
  rw [h3, List.length_cons, Nat.add_mul];omega
theorem gM {ll : List (List Cl)} {i : Nat} (h : i < ll.length) : ll[i].length ≤ ck ll := by
 have h1 := Da h;have h2 := MO (ll := ll) (i + 1);omega
def j0 (c : Cfg) (ll : List (List Cl)) : Bool := dn c && decide ((ll.length : Int) ≤ c.wk ∧ ck ll ≤ 60)
theorem apY {α : Type} {P : SP} {H : AH} {f : Nat} {args : List Value} {v : α → Value} {k : Value × AH → OV} {Q : Value → AH → Prop} (h : ac P H) (s : Sp f args P v (fun _ => P)) (hk : ∀ x H', ac P H' → wp (k (v x, H')) Q) : wp ((FF f args H).bind k) Q := by
 obtain ⟨x, H', e, h'⟩ := s emp H (by rw [ge]; exact h);rw [e];rw [ge] at h';exact hk x H' h'
theorem I1 {cl : TCls} {a b : Int} : ag cl .add (vi a) (vi b) = some (vi (IntKind.wrap .i64 (a + b))) := by simp only [ag, j9, if_true]
section
variable {P : SP} {v : Value} {ll : List (List Cl)}
theorem Xr [L : Ls P v ll] (c : Cfg) (hn : ll.length < 1099511627776) (hs : ck ll < 1152921504606846976) : Sp uc [.agg (aK c v).toArray] P (fun _ : Unit => vi (ck ll)) (fun _ => P) := by
 refine qm fun R H h => ?_;obtain ⟨vs, hvl, r1, r2⟩ := L.out;refine eD (fun r => MB _ H) ?_;refine bH h fun b H1 h1 => ?_;refine ae (Ex _ _ _ H1) ?_;refine ae (Ez _ _ _ _ H1) ?_
 have loop : ∀ (d i : Nat), i + d = ll.length → wp (lV (vp b) (vi 0) (vi (ck (ll.take i))) (vi i) H1) fun v' H' => ∃ x : Unit, v' = vi (ck ll) ∧ ac (P * R) H' := by
  intro d
  induction d with
  | zero =>
   intro i hi;refine ae (r7 _ _ _ _ H1) ?_;refine aL h1 aj rfl ?_;refine aS (l := vs) h1 ?_;refine aa (aU (by omega)) ?_;refine gs ?_;refine ae (AF _ _ H1) ?_;refine ae (Ey _ _ H1) ?_;rw [ON (by omega)];exact ay ⟨(), rfl, h1.to⟩
  | succ d ih =>
   intro i hi
   have hiv : i < vs.length := by omega
   have hil : i < ll.length := by omega
   haveI := r2 i hiv hil
   refine ae (r7 _ _ _ _ H1) ?_;refine aL h1 aj rfl ?_;refine aS (l := vs) h1 ?_;refine aa (aW (by omega)) ?_;refine gs ?_;refine ae (EA _ _ _ _ H1) ?_;refine aL h1 aj rfl ?_;refine bU (l := vs) h1 hiv rfl ?_;refine aS (l := ll[i]) h1 ?_;have e1 := Da hil;have e2 := MO (ll := ll) (i + 1);refine aa (aq (by omega) (by omega)) ?_;refine ae (EB _ _ _ _ H1) ?_;refine aa (aq (by omega) (by omega)) ?_
   have e3 : ((ck (ll.take i) : Nat) : Int) + ((ll[i].length : Nat) : Int) = ((ck (ll.take (i + 1)) : Nat) : Int) := by omega
   rw [e3];exact ih (i + 1) (by omega)
 exact loop ll.length 0 (by omega)
theorem akL [L : Ls P v ll] (c : Cfg) (hb : ∀ l ∈ ll, l.length ≤ 140737488355328) : Sp Cu [.agg (aK c v).toArray] P (fun _ : Unit => vb (j0 c ll)) (fun _ => P) := by
 refine qm fun R H h => ?_;obtain ⟨vs, hvl, r1, r2⟩ := L.out;refine eD (fun r => R0 _ H) ?_;refine bH h fun b H1 h1 => ?_;refine xV h1 aj ?_;refine ah h1 (Xp c) fun _ H2 h2 => ?_;unfold j0
 cases hr : dn c with
 | false =>
  refine gs ?_;rw [Bool.false_and];exact ay ⟨(), rfl, ac.to (by assumption)⟩
 | true =>
  refine gs ?_;rw [Bool.true_and];have hc := aT.1 hr;refine aL h2 aj rfl ?_;refine gg (l := vs) h2 ?_;refine gs ?_;refine aL h2 (eI (eI db)) rfl ?_;refine gs ?_
  by_cases hlw : (vs.length : Int) ≤ c.wk
  ·refine aa (rV hlw) ?_
   refine gs ?_;refine bx h2 ?_;have hs := HV hb;have hs2 : ll.length * 140737488355328 ≤ 6 * 140737488355328 := Nat.mul_le_mul_right _ (by omega);refine gs ?_;refine aqQ h2 (Xr (v := v) (ll := ll) c (by omega) (by omega)) fun H3 h3 => ?_;refine gs ?_
   by_cases hs60 : ((ck ll : Nat) : Int) ≤ 60
   ·refine aa (rV hs60) ?_
    refine gs ?_;rw [dZ ⟨by omega, by omega⟩];exact ay ⟨(), rfl, h3.to⟩
   ·refine aa (tZ hs60) ?_
    refine gs ?_;rw [gm (fun h => hs60 (by omega))];exact ay ⟨(), rfl, h3.to⟩
  ·refine aa (tZ hlw) ?_
   refine gs ?_;rw [gm (fun h => hlw (by omega))];exact ay ⟨(), rfl, ac.to (by assumption)⟩
end
end Go.Proofs.YthagelbepgcolaaGreatDoor.Gst
