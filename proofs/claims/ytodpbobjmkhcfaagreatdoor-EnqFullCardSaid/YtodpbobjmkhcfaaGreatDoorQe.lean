/- Several texts in one. -/
import Derived.Test.YtodpbobjmkhcfaaGreatDoorQd
namespace Go.Proofs.YtodpbobjmkhcfaaGreatDoor.Gst
open Go Go.RowKit
set_option linter.unusedSimpArgs false
set_option linter.unusedVariables false
set_option maxHeartbeats 4000000
set_option synthInstance.maxSize 2000
set_option synthInstance.maxHeartbeats 400000
set_option maxRecDepth 100000
structure Xk where
 a : Nat
 I : Nat
 free : Int
 hit : Bool
 obj : Nat
 w : Nat
 h : Nat
 q : Nat
 top : Nat
 mark : Int
 code : Int
abbrev xB (x P : Nat) (t : Tk) (k : Xk) : SP :=
 blk x (.cells false [vp P, vi t.who, vi t.x.op, vi t.x.flow, vi t.x.a, vi t.x.b, vi k.a, vi k.I, vi k.free, vb k.hit, vi k.obj, vu k.w, vu k.h, vu k.q, vw 0, vu k.top, vi k.mark, vi k.code, .slice none 0 0, vi 0, vw 0,
  vi 0, vi 0, .slice none 0 0, vw 0, vw 0, vi 0, vi 0, vi 0, vb false, vi 0, .slice none 0 0, vi 0, vw 0])
def fm (t : Tk) (k : Xk) : Prop := k.a = t.at' ∧ match t.at' with
 | 0 => k.I = t.i ∧ k.hit = false
 | 2 => k.I = t.i ∧ k.hit = false
 | 4 => k.I = t.i ∧ k.hit = false
 | 5 => k.hit = t.found ∧ (t.found = true → k.obj = t.obj) ∧ (t.found = false → k.code = t.code)
 | 6 => k.obj = t.obj
 | 7 => k.obj = t.obj
 | 8 => k.obj = t.obj ∧ k.w = t.w
 | 9 => k.obj = t.obj ∧ k.w = t.w
 | 10 => k.obj = t.obj ∧ k.w = t.w ∧ k.q = 0 ∧ k.code = t.code
 | 11 => k.obj = t.obj ∧ k.w = t.w ∧ k.code = t.code
 | 12 => k.obj = t.obj ∧ k.w = t.w
 | 13 => k.obj = t.obj ∧ k.w = t.w
 | 14 => k.obj = t.obj ∧ k.w = t.w ∧ k.q = 1 ∧ k.code = t.code
 | 15 => k.obj = t.obj
 | 16 => k.obj = t.obj ∧ k.q = t.q
 | 17 => k.obj = t.obj ∧ k.w = t.w ∧ k.q = t.q
 | 18 => k.obj = t.obj ∧ k.q = t.q ∧ k.mark = t.mark
 | 20 => k.obj = t.obj
 | 21 => k.obj = t.obj ∧ k.w = t.w ∧ k.code = t.code
 | 22 => k.obj = t.obj ∧ k.code = t.code
 | 23 => k.obj = t.obj ∧ k.top = t.top ∧ k.code = t.code
 | 24 => k.obj = t.obj ∧ k.top = t.top ∧ k.code = t.code
 | 25 => k.code = t.code
 | _ => True
def xP (x P : Nat) (σ : aX) (t : Tk) : SP := ex fun k : Xk => pu (fm t k) * (xB x P t k * bv P σ)
def xQ (x P : Nat) (r : aX × Tk × Bool) : SP := ex fun k : Xk => pu (if r.2.2 = true then k.code = r.2.1.code else fm r.2.1 k) * (xB x P r.2.1 k * bv P r.1)
section
variable {x P : Nat} {g : XIds} {σ σ' : aX} {t t' : Tk} {R : SP} {H : AH} {r : aX × Tk × Bool} {k : Xk}
theorem bY (h : ae (xP x P σ t * R) H) : ∃ (k : Xk) (g : XIds), fm t k ∧ e6 g σ ∧ ae (xB x P t k * (ay P g σ * R)) H := by
 obtain ⟨k, h1⟩ := ae.ex.1 h
 rw [ap, ae.pu] at h1
 obtain ⟨g, h2, h3⟩ := eE (p := P) (σ := σ) (R := xB x P t k * R) (H := H) h1.2.to
 exact ⟨k, g, h1.1, h2, h3.to⟩
theorem cE (hr : r = (σ', t', false)) (hR : fm t' k) (hg : e6 g σ') (h : ae (xB x P t' k * (ay P g σ' * R)) H) : ∃ y : Unit, (vb false : Value) = vb r.2.2 ∧ ae (xQ x P r * R) H := by
 subst hr
 refine ⟨(), rfl, ae.ex.2 ⟨k, ?_⟩⟩
 rw [ap, ae.pu]
 have h1 := di (p := P) (σ := σ') (R := xB x P t' k * R) g hg h.to
 exact ⟨hR, h1.to⟩
theorem zE (hr : r = (σ', t', true)) (hc : k.code = t'.code) (hg : e6 g σ') (h : ae (xB x P t' k * (ay P g σ' * R)) H) : ∃ y : Unit, (vb true : Value) = vb r.2.2 ∧ ae (xQ x P r * R) H := by
 subst hr
 refine ⟨(), rfl, ae.ex.2 ⟨k, ?_⟩⟩
 rw [ap, ae.pu]
 have h1 := di (p := P) (σ := σ') (R := xB x P t' k * R) g hg h.to
 exact ⟨hc, h1.to⟩
theorem j1 {c : fO} {μ' : Mu} {obs' : List (Ob × List Pk)} {nx' : Int → Option Nat} {pts' : List Pt} {pv : Value} (h : e6 g σ) (hN : σ.μ.N ≤ μ'.N) (ho : obs'.length = σ.obs.length) : e6 { g with pv := pv } ⟨c, μ', obs', nx', σ.places, pts'⟩ :=
 ⟨h.1.trans ho.symm, h.2.1, Nat.le_trans h.2.2 hN⟩
theorem aG {c : fO} {μ' : Mu} {obs' : List (Ob × List Pk)} {nx' : Int → Option Nat} {pts' : List Pt} (h : e6 g σ) (hN : σ.μ.N ≤ μ'.N) (ho : obs'.length = σ.obs.length) : e6 g ⟨c, μ', obs', nx', σ.places, pts'⟩ :=
 ⟨h.1.trans ho.symm, h.2.1, Nat.le_trans h.2.2 hN⟩
end
section
variable (x P : Nat) (g : XIds) (σ : aX) (t : Tk) (k : Xk)
theorem iC (hl : g.rp.length = σ.obs.length) (b : Nat) (ho : k.obj < σ.obs.length) (hb : g.rp[k.obj]? = some b) : Sp bA [vp x] (xB x P t k * ay P g σ) (fun _ : Unit => vp b) (fun _ => xB x P t k * ay P g σ) := by
 refine av fun R H h => ?_
 refine aw (fun r => t4 _ H) ?_
 refine am h ac rfl ?_
 refine am h ac rfl ?_
 refine am h ac rfl ?_
 have h2 := h
 unfold ay at h2
 refine Eb (s := g.rv) (l := g.rp) (v := vp b) h2 (by omega) ?_ ?_
 ·rw [List.getElem?_eq_getElem (by omega)] at hb
  rw [Option.some.inj hb]
 exact aq ⟨(), rfl, h⟩
theorem td (hw : k.w < 18446744073709551616) : Sp dC [vp x] (xB x P t k) (fun _ : Unit => vu (aP k.w)) (fun _ => xB x P t k) := by
 refine av fun R H h => ?_
 refine aw (fun r => sO _ H) ?_
 refine am h ac rfl ?_
 refine af h (lN k.w hw) fun _ H1 h1 => ?_
 refine aa (v := vu (aP k.w)) rfl ?_
 refine aa (v := vi (bi k.w)) rfl ?_
 refine aa (v := vb (cD k.w)) rfl ?_
 exact aq ⟨(), rfl, h1.to⟩
theorem NG (S : SOk σ) (hl : g.rp.length = σ.obs.length) (b : Nat) (ho : k.obj < σ.obs.length) (hb : g.rp[k.obj]? = some b) :
 Sp fL [vp x] (xB x P t k * ay P g σ) (fun _ : Unit => vi (bi (σ.μ.V (11, (k.obj : Int), 0)))) (fun _ => xB x P t { k with w := σ.μ.V (11, (k.obj : Int), 0) } * ay P g (σ.mem (σ.μ.acc t.who 1 (11, (k.obj : Int), 0)))) := by
 have hN : σ.μ.N < 1099511627000 := by have := S.N; omega
 refine av fun R H h => ?_
 refine aw (fun r => t5 _ H) ?_
 refine af h (iC x P g σ t k hl b ho hb) fun _ H1 h1 => ?_
 refine aJ ac ?_
 refine aE h1 rfl ?_
 refine aD h h1 (by rfl) ?_
 refine af h1 (lj (p := P) (μ' := σ.μ.acc t.who 1 (11, (k.obj : Int), 0)) (by simp) hl ho hb (KI g.m k.obj b (az σ k.obj) σ.μ t.who hN)) fun _ H2 h2 => ?_
 refine aL h2 ac rfl rfl fun H3 h3 => ?_
 refine am h3 ac rfl ?_
 refine af h3 (lN _ (S.V _)) fun _ H4 h4 => ?_
 refine aa (v := vu (aP (σ.μ.V (11, (k.obj : Int), 0)))) rfl ?_
 refine aa (v := vi (bi (σ.μ.V (11, (k.obj : Int), 0)))) rfl ?_
 refine aa (v := vb (cD (σ.μ.V (11, (k.obj : Int), 0)))) rfl ?_
 exact aq ⟨(), rfl, h4.to⟩
theorem wr (hg : e6 g σ) (now e : Int) (hN : σ.μ.N < 1000000000) (hp : σ.pts.length < 900000) :
 Sp ce [vp x, vi now, vi e] (xB x P t k * ay P g σ) (fun _ : Value => .tuple #[]) (fun v => xB x P t { k with code := e } * ay P { g with pv := v } (σ.note now t.who e)) := by
 refine av fun R H h => ?_
 refine aw (fun r => t3 _ _ _ H) ?_
 refine dZ ?_
 refine aL h ac rfl rfl fun H1 h1 => ?_
 refine am h1 ac rfl ?_
 refine am h1 ac rfl ?_
 refine a7 h1 ac ?_
 refine af h1 (ab1 P g σ now t.who e (hg.2.1 _) (by have := hg.2.2; omega) hp) fun v H2 h2 => ?_
 exact aq ⟨v, rfl, h2.to⟩
def uj (t1 : Tk) (k k' : Xk) : Prop := k'.a = k.a ∧ k'.w = k.w ∧ k'.q = k.q ∧ k'.top = k.top ∧ k'.mark = k.mark ∧ k'.code = k.code ∧ (t1.found = true → k'.hit = true ∧ k'.obj = t1.obj) ∧ (t1.found = false → k'.hit = k.hit ∧ k'.I = k.I + 1)
theorem NF (S : SOk σ) (T : ef σ t) (hI : k.I = t.i) (hi : (t.i : Int) < σ.c.sl) :
 Sp MF [vp x] (xB x P t k * ay P g σ) (fun _ : Xk => .tuple #[vb (aI σ t).found, vb (!(aI σ t).found && dp σ (aI σ t))]) (fun k' => pu (uj (aI σ t) k k') * (xB x P t k' * ay P g (cj σ t))) := by
 have hN : σ.μ.N < 1099511627000 := by have := S.N; omega
 have hc := bT.1 S.c
 refine av fun R H h => ?_
 refine aw (fun r => Z8 _ H) ?_
 refine aJ ac ?_
 refine aE h rfl ?_
 refine aJ ac ?_
 refine aE h rfl ?_
 refine aJ ac ?_
 refine aE h rfl ?_
 refine am h ac rfl ?_
 refine am h ac rfl ?_
 refine am h (gS (ch (ch cg))) rfl ?_
 refine af h (KO (p := P) (g := g) (σ := σ) (te g.tb g.m σ.c.sh.toNat σ.c.sl.toNat (by omega) t.x.flow)) fun _ H1 h1 => ?_
 refine aD h1 h (by rfl) ?_
 refine aD h1 h (by rfl) ?_
 refine aD h1 h (by rfl) ?_
 have es : vi ((t.x.flow.tmod (σ.c.sh.toNat : Int) + (σ.c.sh.toNat : Int)).tmod (σ.c.sh.toNat : Int)) = vi t.s := by rw [T.s, show ((σ.c.sh.toNat : Nat) : Int) = σ.c.sh from by omega]
 rw [es]
 refine aJ ac ?_
 refine aE h1 rfl ?_
 refine aD h h1 (by rfl) ?_
 rw [hI]
 have ek : k = { k with I := t.i } := by rw [← hI]
 rw [ek] at h1
 refine af h1 (Hg (p := P) (g := g) (σ := σ) (μ' := σ.μ.acc t.who 1 (10, t.s, (t.i : Int))) (by simp) (PT g.tb g.m σ.c.sh.toNat σ.c.sl.toNat σ.μ t.who t.s t.i hN (S.V _))) fun _ H2 h2 => ?_
 have tail : ∀ (k' : Xk) (H' : AH), uj { aI σ t with found := false } { k with I := t.i } { k' with I := t.i + 1 } → k'.I = t.i → (aI σ t).found = false → ae (xB x P t k' * (ay P g (cj σ t) * R)) H' →
  wp (DE (vp x) (vb false) (vb false) H') fun v' H' => ∃ k' : Xk, v' = .tuple #[vb (aI σ t).found, vb (!(aI σ t).found && dp σ (aI σ t))] ∧ ae (pu (uj (aI σ t) k k') * (xB x P t k' * ay P g (cj σ t)) * R) H' := by
  intro k' H' hX hI' hf h'
  refine ag (P7 ..) ?_
  refine am h' ac rfl ?_
  rw [hI']
  refine aa (aB (by omega) (by omega)) ?_
  rw [show ((t.i : Nat) : Int) + 1 = ((t.i + 1 : Nat) : Int) from by omega]
  refine aL h' ac rfl rfl fun H3 h3 => ?_
  refine am h3 ac rfl ?_
  refine am h3 ac rfl ?_
  refine am h3 ac rfl ?_
  have h4 := h3
  unfold ay tab at h4
  refine am h4 ac rfl ?_
  refine aa (v := vb (dp σ (aI σ t))) ?_ ?_
  ·rw [vF]
   congr 3
   show ((σ.c.sl.toNat : Int) ≤ _) = (σ.c.sl ≤ ((t.i + 1 : Nat) : Int))
   apply propext
   omega
  refine aq ⟨{ k' with I := t.i + 1 }, by rw [hf]; rfl, ?_⟩
  rw [ap, ae.pu]
  refine ⟨?_, h3.to⟩
  have e0 : aI σ t = { aI σ t with found := false } := by rw [← hf]
  rw [e0]
  simpa [uj, hI] using hX
 by_cases hv : σ.μ.V (10, t.s, (t.i : Int)) = 0
 ·have e1 : kM (σ.μ.V (10, t.s, (t.i : Int))) = .tuple #[vi 0, vi 0, vb false] := by rw [kM, if_pos hv]
  have hf : (aI σ t).found = false := decide_eq_false fun q => q.1 hv
  rw [e1]
  refine aa (v := vi 0) rfl ?_
  refine aa (v := vi 0) rfl ?_
  refine aa (v := vb false) rfl ?_
  with_reducible repeat refine gg ?_
  refine ag (Ba ..) ?_
  with_reducible repeat refine gg ?_
  rw [Bool.not_false]
  with_reducible repeat refine gg ?_
  refine am h2 ac rfl ?_
  by_cases hfr : k.free < 0
  ·refine kP ?_
   refine aa (b4 hfr) ?_
   with_reducible repeat refine gg ?_
   refine am h2 ac rfl ?_
   refine aL h2 ac rfl rfl fun H3 h3 => ?_
   exact tail { k with I := t.i, free := t.i } H3 (by simp [uj]) rfl hf h3.to
  ·refine kP ?_
   refine aa (bI hfr) ?_
   with_reducible repeat refine gg ?_
   exact tail { k with I := t.i } H2 (by simp [uj]) rfl hf h2.to
 ·have e1 : kM (σ.μ.V (10, t.s, (t.i : Int))) = .tuple #[vi ((σ.μ.V (10, t.s, (t.i : Int)) / 4294967296 : Nat) - 1), vi (σ.μ.V (10, t.s, (t.i : Int)) % 4294967296 : Nat), vb true] := by rw [kM, if_neg hv]
  rw [e1]
  refine aa (v := vi ((σ.μ.V (10, t.s, (t.i : Int)) / 4294967296 : Nat) - 1)) rfl ?_
  refine aa (v := vi (σ.μ.V (10, t.s, (t.i : Int)) % 4294967296 : Nat)) rfl ?_
  refine aa (v := vb true) rfl ?_
  with_reducible repeat refine gg ?_
  refine am h2 (gS (ch (ch cg))) rfl ?_
  refine kP ?_
  by_cases hf : ((σ.μ.V (10, t.s, (t.i : Int)) / 4294967296 : Nat) : Int) - 1 = t.x.flow
  ·have hfo : (aI σ t).found = true := decide_eq_true ⟨hv, hf⟩
   have hob : (aI σ t).obj = σ.μ.V (10, t.s, (t.i : Int)) % 4294967296 := if_pos hfo
   refine aa (bo hf) ?_
   with_reducible repeat refine gg ?_
   refine aL h2 ac rfl rfl fun H3 h3 => ?_
   refine aL h3 ac rfl rfl fun H4 h4 => ?_
   refine aq ⟨{ k with I := t.i, hit := true, obj := σ.μ.V (10, t.s, (t.i : Int)) % 4294967296 }, by rw [hfo]; rfl, ?_⟩
   rw [ap, ae.pu]
   exact ⟨by simp [uj, hfo, hob], h4.to⟩
  ·have hfo : (aI σ t).found = false := decide_eq_false fun q => hf q.2
   refine aa (aR hf) ?_
   with_reducible repeat refine gg ?_
   refine ag (Ba ..) ?_
   with_reducible repeat refine gg ?_
   rw [Bool.not_true]
   with_reducible repeat refine gg ?_
   exact tail { k with I := t.i } H2 (by simp [uj]) rfl hfo h2.to
theorem G5 {R : SP} {H : AH} {Q : Value → AH → Prop} (now : Int) (S : SOk σ) (T : ef σ t) (h : ae (xB x P t k * (ay P g σ * R)) H)
 (hk : ∀ b H', ae (blk b (.cells false [vi t.x.flow, vi t.x.a, vi t.x.b]) * (xB x P t k * (ay P g σ * R))) H' → wp (JF (vp x) (vi now) (vb false) (vp P) (vi t.s) (vp b) H') Q) :
 wp (FF de [vp x, vi now] H) Q := by
 have hc := bT.1 S.c
 refine aw (fun r => Z7 _ _ H) ?_
 refine aJ ac ?_
 refine aE h rfl ?_
 refine am h ac rfl ?_
 refine am h ac rfl ?_
 refine am h (gS (ch (ch cg))) rfl ?_
 refine af h (KO (p := P) (g := g) (σ := σ) (te g.tb g.m σ.c.sh.toNat σ.c.sl.toNat (by omega) t.x.flow)) fun _ H1 h1 => ?_
 refine aD h1 h (by rfl) ?_
 have es : vi ((t.x.flow.tmod (σ.c.sh.toNat : Int) + (σ.c.sh.toNat : Int)).tmod (σ.c.sh.toNat : Int)) = vi t.s := by rw [T.s, show ((σ.c.sh.toNat : Nat) : Int) = σ.c.sh from by omega]
 rw [es]
 refine am h1 (gS (ch (ch cg))) rfl ?_
 refine am h1 (gS (ch (ch cg))) rfl ?_
 refine am h1 (gS (ch (ch cg))) rfl ?_
 refine dZ ?_
 refine aO h1 fun b H2 h2 => ?_
 refine bZ h2 rfl rfl fun H3 h3 => ?_
 exact hk b H3 h3.to
theorem bw {R : SP} {H : AH} {Q : Value → AH → Prop} (now : Int) (S : SOk σ) (T : ef σ t) (ha : k.a ≠ 0) (h : ae (xB x P t k * (ay P g σ * R)) H)
 (hk : ∀ b H', ae (blk b (.cells false [vi t.x.flow, vi t.x.a, vi t.x.b]) * (xB x P t k * (ay P g σ * R))) H' → wp (mv (vp x) (vi now) (vb false) (vp P) (vi t.s) (vp b) (vi k.a) H') Q) :
 wp (FF de [vp x, vi now] H) Q := by
 refine G5 x P g σ t k now S T h fun b H1 h1 => ?_
 refine ag (A8 ..) ?_
 refine am h1 ac rfl ?_
 refine aa (aR (by omega)) ?_
 with_reducible repeat refine gg ?_
 refine ag (A9 ..) ?_
 refine am h1 ac rfl ?_
 exact hk b H1 h1
end
theorem lh {f : Nat} {args : List Value} {H : AH} {Q : Value → AH → Prop} (h : wp (FF f args H) Q) : wp ((FF f args H).bind fun r => some (r.1, r.2)) Q := by
 obtain ⟨v, H', e, q⟩ := h
 rw [e]; exact ⟨v, H', rfl, q⟩
section
variable (x P : Nat) (σ : aX) (t : Tk) (now : Int)
theorem ch6 {x0 x1 x4 x5 x6 x7 : Value} {a : Nat} {H : AH} {Q : Value → AH → Prop} (h : a ≠ 2 ∧ a ≠ 3 ∧ a ≠ 4 ∧ a ≠ 5) (hk : wp ((aj .other .eql (vi (a : Int)) (vi 6)).bind fun v => Dz x0 x1 x4 x5 x6 x7 (vi (a : Int)) v H) Q) : wp (mv x0 x1 x4 x5 x6 x7 (vi (a : Int)) H) Q := by
 refine ag (jt ..) ?_
 refine aa (aR (by omega)) ?_
 refine ag (lP ..) ?_
 with_reducible repeat refine gg ?_
 refine aa (aR (by omega)) ?_
 refine ag (mu ..) ?_
 with_reducible repeat refine gg ?_
 refine aa (aR (by omega)) ?_
 refine ag (qM ..) ?_
 with_reducible repeat refine gg ?_
 refine aa (aR (by omega)) ?_
 refine ag (yV ..) ?_
 with_reducible repeat refine gg ?_
 exact hk
theorem ch8 {x0 x1 x4 x5 x6 x7 : Value} {a : Nat} {H : AH} {Q : Value → AH → Prop} (h : a ≠ 2 ∧ a ≠ 3 ∧ a ≠ 4 ∧ a ≠ 5 ∧ a ≠ 6 ∧ a ≠ 7) (hk : wp ((aj .other .eql (vi (a : Int)) (vi 8)).bind fun v => DA x0 x1 x4 x5 x6 x7 (vi (a : Int)) v H) Q) : wp (mv x0 x1 x4 x5 x6 x7 (vi (a : Int)) H) Q := by
 refine ch6 (by omega) ?_
 refine aa (aR (by omega)) ?_
 refine ag (qN ..) ?_
 with_reducible repeat refine gg ?_
 refine aa (aR (by omega)) ?_
 refine ag (yW ..) ?_
 with_reducible repeat refine gg ?_
 exact hk
theorem Zp {x0 x1 x4 x5 x6 x7 : Value} {a : Nat} {H : AH} {Q : Value → AH → Prop} (h : a ≠ 2 ∧ a ≠ 3 ∧ a ≠ 4 ∧ a ≠ 5 ∧ a ≠ 6 ∧ a ≠ 7 ∧ a ≠ 8 ∧ a ≠ 9 ∧ a ≠ 13) (hk : wp ((aj .other .eql (vi (a : Int)) (vi 10)).bind fun v98 => ax v98 (sQ x0 x1 x4 x5 x6 x7 (vi (a : Int)) v98 H) ((aj .other .eql (vi (a : Int)) (vi 14)).bind fun v99 => sQ x0 x1 x4 x5 x6 x7 (vi (a : Int)) v99 H)) Q) : wp (mv x0 x1 x4 x5 x6 x7 (vi (a : Int)) H) Q := by
 refine ch8 (by omega) ?_
 refine aa (aR (by omega)) ?_
 refine ag (mw ..) ?_
 with_reducible repeat refine gg ?_
 refine aa (aR (by omega)) ?_
 with_reducible repeat refine gg ?_
 refine aa (aR (by omega)) ?_
 refine ag (qO ..) ?_
 with_reducible repeat refine gg ?_
 exact hk
theorem Zq {x0 x1 x4 x5 x6 x7 : Value} {a : Nat} {H : AH} {Q : Value → AH → Prop} (h : a ≠ 2 ∧ a ≠ 3 ∧ a ≠ 4 ∧ a ≠ 5 ∧ a ≠ 6 ∧ a ≠ 7 ∧ a ≠ 8 ∧ a ≠ 9 ∧ a ≠ 10 ∧ a ≠ 13 ∧ a ≠ 14) (hk : wp ((aj .other .eql (vi (a : Int)) (vi 11)).bind fun v => DC x0 x1 x4 x5 x6 (vi (a : Int)) v H) Q) : wp (mv x0 x1 x4 x5 x6 x7 (vi (a : Int)) H) Q := by
 refine Zp (by omega) ?_
 refine aa (aR (by omega)) ?_
 with_reducible repeat refine gg ?_
 refine aa (aR (by omega)) ?_
 refine ag (qP ..) ?_
 with_reducible repeat refine gg ?_
 exact hk
theorem RD {x0 x1 x4 x5 x6 x7 : Value} {a : Nat} {H : AH} {Q : Value → AH → Prop} (h : a ≠ 2 ∧ a ≠ 3 ∧ a ≠ 4 ∧ a ≠ 5 ∧ a ≠ 6 ∧ a ≠ 7 ∧ a ≠ 8 ∧ a ≠ 9 ∧ a ≠ 10 ∧ a ≠ 11 ∧ a ≠ 12 ∧ a ≠ 13 ∧ a ≠ 14) (hk : wp ((aj .other .eql (vi (a : Int)) (vi 15)).bind fun v92 => ax v92 (jf x0 x1 x4 x6 v92 H) ((aj .other .eql (vi (a : Int)) (vi 16)).bind fun v93 => ax v93 (jf x0 x1 x4 x6 v93 H) ((aj .other .eql (vi (a : Int)) (vi 17)).bind fun v94 => ax v94 (jf x0 x1 x4 x6 v94 H) ((aj .other .eql (vi (a : Int)) (vi 18)).bind fun v95 => jf x0 x1 x4 x6 v95 H)))) Q) : wp (mv x0 x1 x4 x5 x6 x7 (vi (a : Int)) H) Q := by
 refine Zq (by omega) ?_
 refine aa (aR (by omega)) ?_
 refine ag (qQ ..) ?_
 with_reducible repeat refine gg ?_
 refine aa (aR (by omega)) ?_
 refine ag (yX ..) ?_
 with_reducible repeat refine gg ?_
 exact hk
theorem chw {x0 x1 x4 x5 x6 x7 : Value} {a : Nat} {H : AH} {Q : Value → AH → Prop} (h : a ≠ 2 ∧ a ≠ 3 ∧ a ≠ 4 ∧ a ≠ 5 ∧ a ≠ 6 ∧ a ≠ 7 ∧ a ≠ 8 ∧ a ≠ 9 ∧ a ≠ 10 ∧ a ≠ 11 ∧ a ≠ 12 ∧ a ≠ 13 ∧ a ≠ 14 ∧ a ≠ 15 ∧ a ≠ 16 ∧ a ≠ 17 ∧ a ≠ 18) (hk : wp ((FF UP [x0, x6] H).bind fun r91 => some (r91.1, r91.2)) Q) : wp (mv x0 x1 x4 x5 x6 x7 (vi (a : Int)) H) Q := by
 refine RD (by omega) ?_
 refine aa (aR (by omega)) ?_
 with_reducible repeat refine gg ?_
 refine aa (aR (by omega)) ?_
 with_reducible repeat refine gg ?_
 refine aa (aR (by omega)) ?_
 with_reducible repeat refine gg ?_
 refine aa (aR (by omega)) ?_
 refine ag (j4 ..) ?_
 with_reducible repeat refine gg ?_
 exact hk
theorem Ym (S : SOk σ) (T : ef σ t) (hat : t.at' = 3) : Sp de [vp x, vi now] (xP x P σ t) (fun _ : Unit => vb (ah σ t now).2.2) (fun _ => xQ x P (ah σ t now)) := by
 have hN : σ.μ.N < 1099511627000 := by have := S.N; omega
 refine av fun R H h => ?_
 obtain ⟨k, g, hR, hg, h0⟩ := bY h
 have hl := hg.1
 simp only [fm, hat] at hR
 obtain ⟨ha, _⟩ := hR
 refine bw x P g σ t k now S T (by omega) h0 fun b1 H1 h1 => ?_
 refine ag (jt ..) ?_
 refine aa (aR (by omega)) ?_
 refine ag (lP ..) ?_
 with_reducible repeat refine gg ?_
 refine aa (bo (by omega)) ?_
 refine ag (mu ..) ?_
 with_reducible repeat refine gg ?_
 refine am h1 ac rfl ?_
 refine am h1 ac rfl ?_
 refine af h1 (Hg (p := P) (g := g) (σ := σ) (μ' := σ.μ.swp t.who (8, t.s, 0) 0 1) (by simp) (Vf g.tb g.m σ.c.sh.toNat σ.c.sl.toNat σ.μ t.who t.s hN)) fun _ H2 h2 => ?_
 by_cases hw : σ.μ.V (8, t.s, 0) = 0
 ·rw [decide_eq_true hw]
  with_reducible repeat refine gg ?_
  refine aL h2 ac rfl rfl fun H3 h3 => ?_
  refine aL h3 ac rfl rfl fun H4 h4 => ?_
  refine aL h4 ac rfl rfl fun H5 h5 => ?_
  refine ag (bG ..) ?_
  exact aq (cE (g := g) (σ' := σ.mem (σ.μ.swp t.who (8, t.s, 0) 0 1)) (t' := { t with at' := 4, i := 0 }) (k := { k with a := 4, I := 0, hit := false }) (by simp only [ah, hat]; rw [if_pos hw]) (by simp [fm]) (aG (σ := σ) hg (by simp) rfl) h5.to)
 ·rw [decide_eq_false hw]
  with_reducible repeat refine gg ?_
  refine ag (bG ..) ?_
  exact aq (cE (g := g) (σ' := σ.mem (σ.μ.swp t.who (8, t.s, 0) 0 1)) (t' := t) (k := k) (by simp only [ah, hat]; rw [if_neg hw]) (by simp only [fm, hat]; exact ⟨ha, trivial⟩) (aG (σ := σ) hg (by simp) rfl) h2.to)
theorem Yo (S : SOk σ) (T : ef σ t) (hat : t.at' = 5) : Sp de [vp x, vi now] (xP x P σ t) (fun _ : Unit => vb (ah σ t now).2.2) (fun _ => xQ x P (ah σ t now)) := by
 have hN : σ.μ.N < 1099511627000 := by have := S.N; omega
 refine av fun R H h => ?_
 obtain ⟨k, g, hR, hg, h0⟩ := bY h
 have hl := hg.1
 simp only [fm, hat] at hR
 obtain ⟨ha, hhit, hobj, hcode⟩ := hR
 refine bw x P g σ t k now S T (by omega) h0 fun b1 H1 h1 => ?_
 refine ag (jt ..) ?_
 refine aa (aR (by omega)) ?_
 refine ag (lP ..) ?_
 with_reducible repeat refine gg ?_
 refine aa (aR (by omega)) ?_
 refine ag (mu ..) ?_
 with_reducible repeat refine gg ?_
 refine aa (aR (by omega)) ?_
 refine ag (qM ..) ?_
 with_reducible repeat refine gg ?_
 refine aa (bo (by omega)) ?_
 refine ag (yV ..) ?_
 with_reducible repeat refine gg ?_
 refine am h1 ac rfl ?_
 refine am h1 ac rfl ?_
 refine af h1 (Hg (p := P) (g := g) (σ := σ) (μ' := (σ.μ.acc t.who 2 (8, t.s, 0)).put (8, t.s, 0) 0) (by simp) (Ju g.tb g.m σ.c.sh.toNat σ.c.sl.toNat σ.μ t.who t.s hN)) fun _ H2 h2 => ?_
 refine am h2 ac rfl ?_
 cases hf : t.found
 ·rw [hf] at hhit
  rw [hhit]
  with_reducible repeat refine gg ?_
  rw [Bool.not_false]
  with_reducible repeat refine gg ?_
  exact aq (zE (g := g) (k := k) (σ' := σ.mem ((σ.μ.acc t.who 2 (8, t.s, 0)).put (8, t.s, 0) 0)) (t' := { t with at' := 6 }) (by simp only [ah, hat, hf]; rfl) (hcode hf) (aG (σ := σ) hg (by simp) rfl) h2.to)
 ·rw [hf] at hhit
  rw [hhit]
  with_reducible repeat refine gg ?_
  rw [Bool.not_true]
  with_reducible repeat refine gg ?_
  refine aL h2 ac rfl rfl fun H3 h3 => ?_
  refine ag (bG ..) ?_
  exact aq (cE (g := g) (σ' := σ.mem ((σ.μ.acc t.who 2 (8, t.s, 0)).put (8, t.s, 0) 0)) (t' := { t with at' := 6 }) (k := { k with a := 6 }) (by simp only [ah, hat, hf]; rfl) (by simp [fm, hobj hf]) (aG (σ := σ) hg (by simp) rfl) h3.to)
theorem Yp (S : SOk σ) (T : ef σ t) (hat : t.at' = 6) : Sp de [vp x, vi now] (xP x P σ t) (fun _ : Unit => vb (ah σ t now).2.2) (fun _ => xQ x P (ah σ t now)) := by
 have hN : σ.μ.N < 1099511627000 := by have := S.N; omega
 refine av fun R H h => ?_
 obtain ⟨k, g, hR, hg, h0⟩ := bY h
 have hl := hg.1
 simp only [fm, hat] at hR
 obtain ⟨ha, hobj⟩ := hR
 have ho := T.obj (.inl (by omega))
 have hob : k.obj < σ.obs.length := by omega
 obtain ⟨b, hb⟩ : ∃ b, g.rp[k.obj]? = some b := ⟨_, List.getElem?_eq_getElem (by omega)⟩
 refine bw x P g σ t k now S T (by omega) h0 fun b1 H1 h1 => ?_
 refine ch6 (by omega) ?_
 refine aa (bo (by omega)) ?_
 refine ag (qN ..) ?_
 with_reducible repeat refine gg ?_
 refine am h1 ac rfl ?_
 refine am h1 ac rfl ?_
 refine af h1 (KF P g σ hl t.who k.obj hob S.N) fun _ H2 h2 => ?_
 refine aL h2 ac rfl rfl fun H3 h3 => ?_
 refine ag (bG ..) ?_
 rw [hobj] at h3
 exact aq (cE (g := g) (σ' := σ.mem (σ.μ.acc t.who 5 (13, (t.obj : Int), 0))) (t' := { t with at' := 7 }) (k := { k with a := 7, obj := t.obj }) (by simp only [ah, hat]) (by simp [fm]) (aG (σ := σ) hg (by simp) rfl) h3.to)
theorem Yq (S : SOk σ) (T : ef σ t) (hat : t.at' = 7) : Sp de [vp x, vi now] (xP x P σ t) (fun _ : Unit => vb (ah σ t now).2.2) (fun _ => xQ x P (ah σ t now)) := by
 have hN : σ.μ.N < 1099511627000 := by have := S.N; omega
 refine av fun R H h => ?_
 obtain ⟨k, g, hR, hg, h0⟩ := bY h
 have hl := hg.1
 simp only [fm, hat] at hR
 obtain ⟨ha, hobj⟩ := hR
 have ho := T.obj (.inl (by omega))
 have hob : k.obj < σ.obs.length := by omega
 obtain ⟨b, hb⟩ : ∃ b, g.rp[k.obj]? = some b := ⟨_, List.getElem?_eq_getElem (by omega)⟩
 refine bw x P g σ t k now S T (by omega) h0 fun b1 H1 h1 => ?_
 refine ch6 (by omega) ?_
 refine aa (aR (by omega)) ?_
 refine ag (qN ..) ?_
 with_reducible repeat refine gg ?_
 refine aa (bo (by omega)) ?_
 refine ag (yW ..) ?_
 with_reducible repeat refine gg ?_
 refine aL h1 ac rfl rfl fun H2 h2 => ?_
 refine af h2 (NG x P g σ t { k with a := 8 } S hl b hob hb) fun _ H3 h3 => ?_
 dsimp only at h3
 rw [hobj] at h3
 by_cases hw : bi (σ.μ.V (11, (t.obj : Int), 0)) = 2
 ·refine aa (bo (by rw [hobj]; exact hw)) ?_
  with_reducible repeat refine gg ?_
  refine aL h3 ac rfl rfl fun H4 h4 => ?_
  refine ag (bG ..) ?_
  exact aq (cE (g := g) (σ' := i6 σ t) (t' := { t with at' := 3, w := σ.μ.V (11, (t.obj : Int), 0) }) (k := { k with a := 3, obj := t.obj, w := σ.μ.V (11, (t.obj : Int), 0) }) (by simp only [ah, hat]; rw [if_pos hw]) (by simp [fm]) (aG (σ := σ) hg (by simp) rfl) h4.to)
 ·refine aa (aR (by rw [hobj]; exact hw)) ?_
  with_reducible repeat refine gg ?_
  refine ag (bG ..) ?_
  exact aq (cE (g := g) (σ' := i6 σ t) (t' := { t with at' := 8, w := σ.μ.V (11, (t.obj : Int), 0) }) (k := { k with a := 8, obj := t.obj, w := σ.μ.V (11, (t.obj : Int), 0) }) (by simp only [ah, hat]; rw [if_neg hw]) (by simp [fm]) (aG (σ := σ) hg (by simp) rfl) h3.to)
theorem Yr (S : SOk σ) (T : ef σ t) (hat : t.at' = 8) : Sp de [vp x, vi now] (xP x P σ t) (fun _ : Unit => vb (ah σ t now).2.2) (fun _ => xQ x P (ah σ t now)) := by
 have hN : σ.μ.N < 1099511627000 := by have := S.N; omega
 refine av fun R H h => ?_
 obtain ⟨k, g, hR, hg, h0⟩ := bY h
 have hl := hg.1
 simp only [fm, hat] at hR
 obtain ⟨ha, hobj, hw0⟩ := hR
 have ho := T.obj (.inl (by omega))
 have hob : k.obj < σ.obs.length := by omega
 obtain ⟨b, hb⟩ : ∃ b, g.rp[k.obj]? = some b := ⟨_, List.getElem?_eq_getElem (by omega)⟩
 refine bw x P g σ t k now S T (by omega) h0 fun b1 H1 h1 => ?_
 refine ch8 (by omega) ?_
 refine aa (bo (by omega)) ?_
 refine ag (mw ..) ?_
 with_reducible repeat refine gg ?_
 refine af h1 (iC x P g σ t k hl b hob hb) fun _ H2 h2 => ?_
 refine aJ ac ?_
 refine aE h2 rfl ?_
 refine aD h1 h2 (by rfl) ?_
 refine af h2 (lj (p := P) (μ' := σ.μ.acc t.who 1 (12, (k.obj : Int), 0)) (by simp) hl hob hb (zI g.m k.obj b (az σ k.obj) σ.μ t.who hN)) fun _ H3 h3 => ?_
 refine aL h3 ac rfl rfl fun H4 h4 => ?_
 refine am h4 ac rfl ?_
 refine af h4 (lN k.w (by rw [hw0]; exact T.w)) fun _ H5 h5 => ?_
 refine aa (v := vu (aP k.w)) rfl ?_
 refine aa (v := vi (bi k.w)) rfl ?_
 refine aa (v := vb (cD k.w)) rfl ?_
 refine ag (JH ..) ?_
 refine af h5 (iC x P g (σ.mem (σ.μ.acc t.who 1 (12, (k.obj : Int), 0))) t { k with h := σ.μ.V (12, (k.obj : Int), 0) } hl b hob hb) fun _ H6 h6 => ?_
 refine aJ ac ?_
 refine aE h6 rfl ?_
 refine aD h5 h6 (by rfl) ?_
 refine aJ ac ?_
 refine aE h6 rfl ?_
 refine aD h5 h6 (by rfl) ?_
 refine af h6 (Ek (p := P) (σ := σ.mem (σ.μ.acc t.who 1 (12, (k.obj : Int), 0))) hl hob hb (zH g.m k.obj b (az σ k.obj) k.w (σ.μ.V (12, (k.obj : Int), 0)) (by rw [hw0]; exact T.w) (S.cells _ hob).2)) fun _ H7 h7 => ?_
 rw [hobj, hw0] at h7
 rw [hobj, hw0]
 cases hf : gr t.w (σ.μ.V (12, (t.obj : Int), 0)) (az σ t.obj).length
 ·with_reducible repeat refine gg ?_
  by_cases hw : bi t.w = 1
  ·refine aa (bo hw) ?_
   with_reducible repeat refine gg ?_
   refine aL h7 ac rfl rfl fun H8 h8 => ?_
   refine ag (bG ..) ?_
   exact aq (cE (g := g) (σ' := fw σ t) (t' := { t with at' := 9 }) (k := { k with a := 9, obj := t.obj, w := t.w, h := σ.μ.V (12, (t.obj : Int), 0) }) (by simp only [ah, hat, gT, hf]; rw [if_pos hw]; rfl) (by simp [fm]) (aG (σ := σ) hg (by simp) rfl) h8.to)
  ·refine aa (aR hw) ?_
   with_reducible repeat refine gg ?_
   refine aL h7 ac rfl rfl fun H8 h8 => ?_
   refine ag (bG ..) ?_
   exact aq (cE (g := g) (σ' := fw σ t) (t' := { t with at' := 12 }) (k := { k with a := 12, obj := t.obj, w := t.w, h := σ.μ.V (12, (t.obj : Int), 0) }) (by simp only [ah, hat, gT, hf]; rw [if_neg hw]; rfl) (by simp [fm]) (aG (σ := σ) hg (by simp) rfl) h8.to)
 ·with_reducible repeat refine gg ?_
  refine aL h7 ac rfl rfl fun H8 h8 => ?_
  refine ag (bG ..) ?_
  exact aq (cE (g := g) (σ' := fw σ t) (t' := { t with at' := 15 }) (k := { k with a := 15, obj := t.obj, w := t.w, h := σ.μ.V (12, (t.obj : Int), 0) }) (by simp only [ah, hat, gT, hf]; rfl) (by simp [fm]) (aG (σ := σ) hg (by simp) rfl) h8.to)
theorem G9 (g : XIds) (k : Xk) (S : SOk σ) (hg : e6 g σ) (ha : k.a = 9 ∨ k.a = 13) (b : Nat) (ho : k.obj < σ.obs.length) (hb : g.rp[k.obj]? = some b) (hw0 : k.w < 18446744073709551616) :
 Sp ip [vp x, vi now] (xB x P t k * ay P g σ) (fun _ : Value => .tuple #[]) (fun v => if f7 σ.μ k.obj k.w (a9 k.w 0) = true then
  xB x P t { k with q := if k.a = 13 then 1 else 0, a := k.a + 1, code := 0 } * ay P { g with pv := v } ((σ.mem (σ.μ.turn t.who k.obj k.w (a9 k.w 0))).note now t.who 0)
  else xB x P t { k with q := if k.a = 13 then 1 else 0, a := if k.a = 13 then 20 else 7 } * ay P g (σ.mem (σ.μ.turn t.who k.obj k.w (a9 k.w 0)))) := by
 have hN : σ.μ.N < 1099511627000 := by have := S.N; omega
 have hl := hg.1
 have hturn : σ.μ.N ≤ (σ.μ.turn t.who k.obj k.w (a9 k.w 0)).N := by cases a9 k.w 0 <;> simp
 have hturn2 : (σ.μ.turn t.who k.obj k.w (a9 k.w 0)).N ≤ σ.μ.N + 2 := by cases a9 k.w 0 <;> simp
 refine av fun R H h => ?_
 refine aw (fun r => sN _ _ H) ?_
 refine aL h ac rfl rfl fun H1 h1 => ?_
 refine ag (ot ..) ?_
 refine am h1 ac rfl ?_
 have main : ∀ (q : Nat) (H2 : AH), q = (if k.a = 13 then 1 else 0) → ae (xB x P t { k with q := q } * (ay P g σ * R)) H2 → wp (ed (vp x) (vi now) H2) fun v' H' => ∃ v : Value, v' = .tuple #[] ∧ ae ((if f7 σ.μ k.obj k.w (a9 k.w 0) = true then
  xB x P t { k with q := if k.a = 13 then 1 else 0, a := k.a + 1, code := 0 } * ay P { g with pv := v } ((σ.mem (σ.μ.turn t.who k.obj k.w (a9 k.w 0))).note now t.who 0)
  else xB x P t { k with q := if k.a = 13 then 1 else 0, a := if k.a = 13 then 20 else 7 } * ay P g (σ.mem (σ.μ.turn t.who k.obj k.w (a9 k.w 0)))) * R) H' := by
  intro q H2 hq h2
  refine ag (ou ..) ?_
  refine af h2 (iC x P g σ t { k with q := q } hl b ho hb) fun _ H3 h3 => ?_
  refine aJ ac ?_
  refine aE h3 rfl ?_
  refine aD h2 h3 (by rfl) ?_
  refine aJ ac ?_
  refine aE h3 rfl ?_
  refine aD h2 h3 (by rfl) ?_
  refine af h3 (lj (p := P) (μ' := σ.μ.turn t.who k.obj k.w (a9 k.w 0)) hturn hl ho hb (KH g.m k.obj b (az σ k.obj) σ.μ t.who k.w 0 (by omega) hw0 hN)) fun _ H4 h4 => ?_
  cases hw : f7 σ.μ k.obj k.w (a9 k.w 0)
  ·with_reducible repeat refine gg ?_
   refine am h4 ac rfl ?_
   rcases ha with ha | ha
   ·refine aa (bo (show ((k.a : Nat) : Int) = 9 by omega)) ?_
    with_reducible repeat refine gg ?_
    refine aL h4 ac rfl rfl fun H5 h5 => ?_
    refine aq ⟨.bool true, rfl, ?_⟩
    rw [if_neg (by simp)]
    simp only [hq] at h5
    rw [if_neg (by omega)] at h5 ⊢
    rw [if_neg (by omega)]
    exact h5.to
   ·refine aa (aR (show ¬ ((k.a : Nat) : Int) = 9 by omega)) ?_
    with_reducible repeat refine gg ?_
    refine aL h4 ac rfl rfl fun H5 h5 => ?_
    refine aq ⟨.bool true, rfl, ?_⟩
    rw [if_neg (by simp)]
    simp only [hq] at h5
    rw [if_pos ha] at h5 ⊢
    rw [if_pos ha]
    exact h5.to
  ·with_reducible repeat refine gg ?_
   refine af h4 (wr x P g (σ.mem (σ.μ.turn t.who k.obj k.w (a9 k.w 0))) t { k with q := q } (aG (σ := σ) hg hturn rfl) now 0 (by have := S.N; show (σ.μ.turn t.who k.obj k.w (a9 k.w 0)).N < _; omega) S.pts) fun v H5 h5 => ?_
   refine am h5 ac rfl ?_
   refine aa (aB (a := ((k.a : Nat) : Int)) (b := 1) (by omega) (by omega)) ?_
   rw [show ((k.a : Nat) : Int) + 1 = ((k.a + 1 : Nat) : Int) from by omega]
   refine aL h5 ac rfl rfl fun H6 h6 => ?_
   refine aq ⟨v, rfl, ?_⟩
   rw [if_pos rfl]
   simp only [hq] at h6
   exact h6.to
 rcases ha with ha | ha
 ·refine aa (aR (by omega)) ?_
  with_reducible repeat refine gg ?_
  exact main 0 H1 (by rw [if_neg (by omega)]) h1.to
 ·refine aa (bo (by omega)) ?_
  with_reducible repeat refine gg ?_
  refine aL h1 ac rfl rfl fun H2 h2 => ?_
  exact main 1 H2 (by rw [if_pos ha]) h2.to
theorem Ys (S : SOk σ) (T : ef σ t) (hat : t.at' = 9) : Sp de [vp x, vi now] (xP x P σ t) (fun _ : Unit => vb (ah σ t now).2.2) (fun _ => xQ x P (ah σ t now)) := by
 have hN : σ.μ.N < 1099511627000 := by have := S.N; omega
 refine av fun R H h => ?_
 obtain ⟨k, g, hR, hg, h0⟩ := bY h
 have hl := hg.1
 simp only [fm, hat] at hR
 obtain ⟨ha, hobj, hw0⟩ := hR
 have ho := T.obj (.inl (by omega))
 have hob : k.obj < σ.obs.length := by omega
 obtain ⟨b, hb⟩ : ∃ b, g.rp[k.obj]? = some b := ⟨_, List.getElem?_eq_getElem (by omega)⟩
 refine bw x P g σ t k now S T (by omega) h0 fun b1 H1 h1 => ?_
 refine ch8 (by omega) ?_
 refine aa (aR (by omega)) ?_
 refine ag (mw ..) ?_
 with_reducible repeat refine gg ?_
 refine aa (bo (by omega)) ?_
 with_reducible repeat refine gg ?_
 refine ag (qO ..) ?_
 with_reducible repeat refine gg ?_
 have hturn : σ.μ.N ≤ (σ.μ.turn t.who k.obj k.w (a9 k.w 0)).N := by cases a9 k.w 0 <;> simp
 refine af h1 (G9 x P σ t now g k S hg (by omega) b hob hb (by rw [hw0]; exact T.w)) fun v H2 h2 => ?_
 refine ag (bG ..) ?_
 cases hw : f7 σ.μ t.obj t.w (a9 t.w 0)
 ·rw [if_neg (by rw [hobj, hw0, hw]; simp)] at h2
  rw [hobj, hw0, ha, if_neg (by omega), if_neg (by omega)] at h2
  exact aq (cE (g := g) (σ' := σ.mem (σ.μ.turn t.who t.obj t.w (a9 t.w 0))) (t' := { t with at' := 7 }) (k := { k with a := 7, obj := t.obj, w := t.w, q := 0 }) (by simp only [ah, hat, hw]; rfl) (by simp [fm]) (aG (σ := σ) hg (by rw [hobj, hw0] at hturn; exact hturn) rfl) h2.to)
 ·rw [if_pos (by rw [hobj, hw0, hw])] at h2
  rw [hobj, hw0, ha, if_neg (by omega)] at h2
  exact aq (cE (g := { g with pv := v }) (σ' := (σ.mem (σ.μ.turn t.who t.obj t.w (a9 t.w 0))).note now t.who 0) (t' := { t with at' := 10, code := 0 }) (k := { k with a := 10, obj := t.obj, w := t.w, q := 0, code := 0 }) (by simp only [ah, hat, hw]; rfl) (by simp [fm]) (j1 (σ := σ) hg (by rw [hobj, hw0] at hturn; exact hturn) rfl) h2.to)
theorem Wz (S : SOk σ) (T : ef σ t) (hat : t.at' = 13) : Sp de [vp x, vi now] (xP x P σ t) (fun _ : Unit => vb (ah σ t now).2.2) (fun _ => xQ x P (ah σ t now)) := by
 have hN : σ.μ.N < 1099511627000 := by have := S.N; omega
 refine av fun R H h => ?_
 obtain ⟨k, g, hR, hg, h0⟩ := bY h
 have hl := hg.1
 simp only [fm, hat] at hR
 obtain ⟨ha, hobj, hw0⟩ := hR
 have ho := T.obj (.inl (by omega))
 have hob : k.obj < σ.obs.length := by omega
 obtain ⟨b, hb⟩ : ∃ b, g.rp[k.obj]? = some b := ⟨_, List.getElem?_eq_getElem (by omega)⟩
 refine bw x P g σ t k now S T (by omega) h0 fun b1 H1 h1 => ?_
 refine ch8 (by omega) ?_
 refine aa (aR (by omega)) ?_
 refine ag (mw ..) ?_
 with_reducible repeat refine gg ?_
 refine aa (aR (by omega)) ?_
 with_reducible repeat refine gg ?_
 refine aa (bo (by omega)) ?_
 refine ag (qO ..) ?_
 with_reducible repeat refine gg ?_
 have hturn : σ.μ.N ≤ (σ.μ.turn t.who k.obj k.w (a9 k.w 0)).N := by cases a9 k.w 0 <;> simp
 refine af h1 (G9 x P σ t now g k S hg (by omega) b hob hb (by rw [hw0]; exact T.w)) fun v H2 h2 => ?_
 refine ag (bG ..) ?_
 cases hw : f7 σ.μ t.obj t.w (a9 t.w 0)
 ·rw [if_neg (by rw [hobj, hw0, hw]; simp)] at h2
  rw [hobj, hw0, ha, if_pos rfl, if_pos rfl] at h2
  exact aq (cE (g := g) (σ' := σ.mem (σ.μ.turn t.who t.obj t.w (a9 t.w 0))) (t' := { t with at' := 20 }) (k := { k with a := 20, obj := t.obj, w := t.w, q := 1 }) (by simp only [ah, hat, hw]; rfl) (by simp [fm]) (aG (σ := σ) hg (by rw [hobj, hw0] at hturn; exact hturn) rfl) h2.to)
 ·rw [if_pos (by rw [hobj, hw0, hw])] at h2
  rw [hobj, hw0, ha, if_pos rfl] at h2
  exact aq (cE (g := { g with pv := v }) (σ' := (σ.mem (σ.μ.turn t.who t.obj t.w (a9 t.w 0))).note now t.who 0) (t' := { t with at' := 14, code := 0 }) (k := { k with a := 14, obj := t.obj, w := t.w, q := 1, code := 0 }) (by simp only [ah, hat, hw]; rfl) (by simp [fm]) (j1 (σ := σ) hg (by rw [hobj, hw0] at hturn; exact hturn) rfl) h2.to)
theorem Ww (S : SOk σ) (T : ef σ t) (hat : t.at' = 10) : Sp de [vp x, vi now] (xP x P σ t) (fun _ : Unit => vb (ah σ t now).2.2) (fun _ => xQ x P (ah σ t now)) := by
 have hN : σ.μ.N < 1099511627000 := by have := S.N; omega
 refine av fun R H h => ?_
 obtain ⟨k, g, hR, hg, h0⟩ := bY h
 have hl := hg.1
 simp only [fm, hat] at hR
 obtain ⟨ha, hobj, hw0, hq, hcode⟩ := hR
 have ho := T.obj (.inl (by omega))
 have hob : k.obj < σ.obs.length := by omega
 obtain ⟨b, hb⟩ : ∃ b, g.rp[k.obj]? = some b := ⟨_, List.getElem?_eq_getElem (by omega)⟩
 refine bw x P g σ t k now S T (by omega) h0 fun b1 H1 h1 => ?_
 refine Zp (by omega) ?_
 refine aa (bo (by omega)) ?_
 with_reducible repeat refine gg ?_
 refine ag (qP ..) ?_
 with_reducible repeat refine gg ?_
 refine af h1 (iC x P g σ t k hl b hob hb) fun _ H2 h2 => ?_
 refine aJ ac ?_
 refine aE h2 rfl ?_
 refine aD h1 h2 (by rfl) ?_
 refine af h2 (td x P t k (by rw [hw0]; exact T.w)) fun _ H3 h3 => ?_
 refine aD h3 h2 (by rfl) ?_
 refine aM h3 ?_
 refine bn h1 h3 rfl ?_
 refine bn h2 h3 rfl ?_
 refine af h3 (BG (p := P) (μ' := σ.μ.acc t.who 6 (16, (k.obj : Int), ((aP k.w % (az σ k.obj).length : Nat) : Int))) (by simp) hl hob hb (BE g.m k.obj b (az σ k.obj) σ.μ t.who (aP k.w) ⟨t.x.flow, t.x.a, t.x.b⟩ (S.cells _ hob) hN)) fun _ H4 h4 => ?_
 refine aL h4 ac rfl rfl fun H5 h5 => ?_
 refine am h5 ac rfl ?_
 refine aa (aR (by omega)) ?_
 with_reducible repeat refine gg ?_
 refine ag (bG ..) ?_
 have e1 := sd σ t
 rw [hobj, hw0, ← e1] at h5
 exact aq (cE (g := g) (σ' := m9 σ t) (t' := { t with at' := 11 }) (k := { k with a := 11, obj := t.obj, w := t.w }) (by simp only [ah, hat]) (by simp [fm, hcode]) (aG (σ := σ) hg (by simp) (iM σ t)) h5.to)
theorem WA (S : SOk σ) (T : ef σ t) (hat : t.at' = 14) : Sp de [vp x, vi now] (xP x P σ t) (fun _ : Unit => vb (ah σ t now).2.2) (fun _ => xQ x P (ah σ t now)) := by
 have hN : σ.μ.N < 1099511627000 := by have := S.N; omega
 refine av fun R H h => ?_
 obtain ⟨k, g, hR, hg, h0⟩ := bY h
 have hl := hg.1
 simp only [fm, hat] at hR
 obtain ⟨ha, hobj, hw0, hq, hcode⟩ := hR
 have ho := T.obj (.inl (by omega))
 have hob : k.obj < σ.obs.length := by omega
 obtain ⟨b, hb⟩ : ∃ b, g.rp[k.obj]? = some b := ⟨_, List.getElem?_eq_getElem (by omega)⟩
 refine bw x P g σ t k now S T (by omega) h0 fun b1 H1 h1 => ?_
 refine Zp (by omega) ?_
 refine aa (aR (by omega)) ?_
 with_reducible repeat refine gg ?_
 refine aa (bo (by omega)) ?_
 refine ag (qP ..) ?_
 with_reducible repeat refine gg ?_
 refine af h1 (iC x P g σ t k hl b hob hb) fun _ H2 h2 => ?_
 refine aJ ac ?_
 refine aE h2 rfl ?_
 refine aD h1 h2 (by rfl) ?_
 refine af h2 (td x P t k (by rw [hw0]; exact T.w)) fun _ H3 h3 => ?_
 refine aD h3 h2 (by rfl) ?_
 refine aM h3 ?_
 refine bn h1 h3 rfl ?_
 refine bn h2 h3 rfl ?_
 refine af h3 (BG (p := P) (μ' := σ.μ.acc t.who 6 (16, (k.obj : Int), ((aP k.w % (az σ k.obj).length : Nat) : Int))) (by simp) hl hob hb (BE g.m k.obj b (az σ k.obj) σ.μ t.who (aP k.w) ⟨t.x.flow, t.x.a, t.x.b⟩ (S.cells _ hob) hN)) fun _ H4 h4 => ?_
 refine aL h4 ac rfl rfl fun H5 h5 => ?_
 refine am h5 ac rfl ?_
 refine aa (bo (by omega)) ?_
 with_reducible repeat refine gg ?_
 refine aL h5 ac rfl rfl fun H6 h6 => ?_
 refine ag (bG ..) ?_
 have e1 := sd σ t
 rw [hobj, hw0, ← e1] at h6
 exact aq (cE (g := g) (σ' := m9 σ t) (t' := { t with at' := 21 }) (k := { k with a := 21, obj := t.obj, w := t.w }) (by simp only [ah, hat]) (by simp [fm, hcode]) (aG (σ := σ) hg (by simp) (iM σ t)) h6.to)
theorem Wx (S : SOk σ) (T : ef σ t) (hat : t.at' = 11) : Sp de [vp x, vi now] (xP x P σ t) (fun _ : Unit => vb (ah σ t now).2.2) (fun _ => xQ x P (ah σ t now)) := by
 have hN : σ.μ.N < 1099511627000 := by have := S.N; omega
 refine av fun R H h => ?_
 obtain ⟨k, g, hR, hg, h0⟩ := bY h
 have hl := hg.1
 simp only [fm, hat] at hR
 obtain ⟨ha, hobj, hw0, hcode⟩ := hR
 have ho := T.obj (.inl (by omega))
 have hob : k.obj < σ.obs.length := by omega
 obtain ⟨b, hb⟩ : ∃ b, g.rp[k.obj]? = some b := ⟨_, List.getElem?_eq_getElem (by omega)⟩
 refine bw x P g σ t k now S T (by omega) h0 fun b1 H1 h1 => ?_
 refine Zq (by omega) ?_
 refine aa (bo (by omega)) ?_
 refine ag (qQ ..) ?_
 with_reducible repeat refine gg ?_
 refine af h1 (iC x P g σ t k hl b hob hb) fun _ H2 h2 => ?_
 refine aJ ac ?_
 refine aE h2 rfl ?_
 refine aD h1 h2 (by rfl) ?_
 refine af h2 (td x P t k (by rw [hw0]; exact T.w)) fun _ H3 h3 => ?_
 refine aD h3 h2 (by rfl) ?_
 have hwc := dH k.w
 refine af h3 (lj (p := P) (μ' := (σ.μ.acc t.who 2 (15, (k.obj : Int), ((aP k.w % (az σ k.obj).length : Nat) : Int))).put (15, (k.obj : Int), ((aP k.w % (az σ k.obj).length : Nat) : Int)) (aP k.w + 1)) (by simp) hl hob hb (zJ g.m k.obj b (az σ k.obj) σ.μ t.who (aP k.w) (by omega) (S.cells _ hob) hN)) fun _ H4 h4 => ?_
 rw [hobj, hw0] at h4
 exact aq (zE (g := g) (k := k) (σ' := oA σ t) (t' := t) (by simp only [ah, hat]) hcode (aG (σ := σ) hg (by simp) rfl) h4.to)
theorem Wy (S : SOk σ) (T : ef σ t) (hat : t.at' = 12) : Sp de [vp x, vi now] (xP x P σ t) (fun _ : Unit => vb (ah σ t now).2.2) (fun _ => xQ x P (ah σ t now)) := by
 have hN : σ.μ.N < 1099511627000 := by have := S.N; omega
 refine av fun R H h => ?_
 obtain ⟨k, g, hR, hg, h0⟩ := bY h
 have hl := hg.1
 simp only [fm, hat] at hR
 obtain ⟨ha, hobj, hw0⟩ := hR
 have ho := T.obj (.inl (by omega))
 have hob : k.obj < σ.obs.length := by omega
 obtain ⟨b, hb⟩ : ∃ b, g.rp[k.obj]? = some b := ⟨_, List.getElem?_eq_getElem (by omega)⟩
 refine bw x P g σ t k now S T (by omega) h0 fun b1 H1 h1 => ?_
 refine Zq (by omega) ?_
 refine aa (aR (by omega)) ?_
 refine ag (qQ ..) ?_
 with_reducible repeat refine gg ?_
 refine aa (bo (by omega)) ?_
 refine ag (yX ..) ?_
 with_reducible repeat refine gg ?_
 refine am h1 ac rfl ?_
 refine am h1 ac rfl ?_
 refine af h1 (tj (p := P) (g := g) (σ := σ) (μ' := σ.μ.cnt t.who (3, 0, 0) 4294967296) (L := σ.μ.N) (by simp) (Eh g.ib g.m σ.c.sh σ.nx σ.μ.N σ.μ t.who hN)) fun _ H2 h2 => ?_
 refine aL h2 ac rfl rfl fun H3 h3 => ?_
 refine ag (bG ..) ?_
 exact aq (cE (g := g) (σ' := σ.mem (σ.μ.cnt t.who (3, 0, 0) 4294967296)) (t' := { t with at' := 13 }) (k := { k with a := 13 }) (by simp only [ah, hat]) (by simp [fm, hobj, hw0]) (aG (σ := σ) hg (by simp) rfl) h3.to)
theorem WB (S : SOk σ) (T : ef σ t) (hat : t.at' = 15) : Sp de [vp x, vi now] (xP x P σ t) (fun _ : Unit => vb (ah σ t now).2.2) (fun _ => xQ x P (ah σ t now)) := by
 have hN : σ.μ.N < 1099511627000 := by have := S.N; omega
 refine av fun R H h => ?_
 obtain ⟨k, g, hR, hg, h0⟩ := bY h
 have hl := hg.1
 simp only [fm, hat] at hR
 obtain ⟨ha, hobj⟩ := hR
 have ho := T.obj (.inl (by omega))
 have hob : k.obj < σ.obs.length := by omega
 obtain ⟨b, hb⟩ : ∃ b, g.rp[k.obj]? = some b := ⟨_, List.getElem?_eq_getElem (by omega)⟩
 refine bw x P g σ t k now S T (by omega) h0 fun b1 H1 h1 => ?_
 refine RD (by omega) ?_
 refine aa (bo (by omega)) ?_
 with_reducible repeat refine gg ?_
 refine ag (j4 ..) ?_
 with_reducible repeat refine gg ?_
 refine lh ?_
 refine aw (fun r => DD _ _ H1) ?_
 refine ag (pn ..) ?_
 refine am h1 ac rfl ?_
 refine ag (pp ..) ?_
 refine aa (bo (by omega)) ?_
 with_reducible repeat refine gg ?_
 refine am h1 ac rfl ?_
 refine am h1 ac rfl ?_
 refine af h1 (zG P g σ t.who S.N) fun _ H2 h2 => ?_
 refine aL h2 ac rfl rfl fun H3 h3 => ?_
 refine aL h3 ac rfl rfl fun H4 h4 => ?_
 refine am h4 ac rfl ?_
 refine aa (M2 2 (by omega)) ?_
 by_cases hw : σ.μ.V (2, 0, 0) % 2 = 1
 ·refine aa (bo (show ((σ.μ.V (2, 0, 0) % 2 : Nat) : Int) = 1 by omega)) ?_
  with_reducible repeat refine gg ?_
  refine aL h4 ac rfl rfl fun H5 h5 => ?_
  refine ag (iu ..) ?_
  exact aq (cE (g := g) (σ' := lQ σ t) (t' := { t with at' := 7, q := σ.μ.V (2, 0, 0) }) (k := { k with a := 7, q := σ.μ.V (2, 0, 0) }) (by simp only [ah, hat]; rw [if_pos hw]) (by simp [fm, hobj]) (aG (σ := σ) hg (by simp) rfl) h5.to)
 ·refine aa (aR (show ¬ ((σ.μ.V (2, 0, 0) % 2 : Nat) : Int) = 1 by omega)) ?_
  with_reducible repeat refine gg ?_
  refine ag (iu ..) ?_
  exact aq (cE (g := g) (σ' := lQ σ t) (t' := { t with at' := 16, q := σ.μ.V (2, 0, 0) }) (k := { k with a := 16, q := σ.μ.V (2, 0, 0) }) (by simp only [ah, hat]; rw [if_neg hw]) (by simp [fm, hobj]) (aG (σ := σ) hg (by simp) rfl) h4.to)
theorem WC (S : SOk σ) (T : ef σ t) (hat : t.at' = 16) : Sp de [vp x, vi now] (xP x P σ t) (fun _ : Unit => vb (ah σ t now).2.2) (fun _ => xQ x P (ah σ t now)) := by
 have hN : σ.μ.N < 1099511627000 := by have := S.N; omega
 refine av fun R H h => ?_
 obtain ⟨k, g, hR, hg, h0⟩ := bY h
 have hl := hg.1
 simp only [fm, hat] at hR
 obtain ⟨ha, hobj, hq⟩ := hR
 have ho := T.obj (.inl (by omega))
 have hob : k.obj < σ.obs.length := by omega
 obtain ⟨b, hb⟩ : ∃ b, g.rp[k.obj]? = some b := ⟨_, List.getElem?_eq_getElem (by omega)⟩
 refine bw x P g σ t k now S T (by omega) h0 fun b1 H1 h1 => ?_
 refine RD (by omega) ?_
 refine aa (aR (by omega)) ?_
 with_reducible repeat refine gg ?_
 refine aa (bo (by omega)) ?_
 with_reducible repeat refine gg ?_
 refine ag (j4 ..) ?_
 with_reducible repeat refine gg ?_
 refine lh ?_
 refine aw (fun r => DD _ _ H1) ?_
 refine ag (pn ..) ?_
 refine am h1 ac rfl ?_
 refine ag (pp ..) ?_
 refine aa (aR (by omega)) ?_
 with_reducible repeat refine gg ?_
 refine aa (bo (by omega)) ?_
 with_reducible repeat refine gg ?_
 refine aL h1 ac rfl rfl fun H2 h2 => ?_
 refine af h2 (NG x P g σ t { k with a := 17 } S hl b hob hb) fun _ H3 h3 => ?_
 dsimp only at h3
 rw [hobj] at h3
 by_cases hw : bi (σ.μ.V (11, (t.obj : Int), 0)) = 2
 ·refine aa (bo (by rw [hobj]; exact hw)) ?_
  with_reducible repeat refine gg ?_
  refine aL h3 ac rfl rfl fun H4 h4 => ?_
  refine ag (iu ..) ?_
  exact aq (cE (g := g) (σ' := i6 σ t) (t' := { t with at' := 3, w := σ.μ.V (11, (t.obj : Int), 0) }) (k := { k with a := 3, obj := t.obj, w := σ.μ.V (11, (t.obj : Int), 0) }) (by simp only [ah, hat]; rw [if_pos hw]) (by simp [fm]) (aG (σ := σ) hg (by simp) rfl) h4.to)
 ·refine aa (aR (by rw [hobj]; exact hw)) ?_
  with_reducible repeat refine gg ?_
  refine ag (iu ..) ?_
  exact aq (cE (g := g) (σ' := i6 σ t) (t' := { t with at' := 17, w := σ.μ.V (11, (t.obj : Int), 0) }) (k := { k with a := 17, obj := t.obj, w := σ.μ.V (11, (t.obj : Int), 0) }) (by simp only [ah, hat]; rw [if_neg hw]) (by simp [fm, hq]) (aG (σ := σ) hg (by simp) rfl) h3.to)
theorem WD (S : SOk σ) (T : ef σ t) (hat : t.at' = 17) : Sp de [vp x, vi now] (xP x P σ t) (fun _ : Unit => vb (ah σ t now).2.2) (fun _ => xQ x P (ah σ t now)) := by
 have hN : σ.μ.N < 1099511627000 := by have := S.N; omega
 refine av fun R H h => ?_
 obtain ⟨k, g, hR, hg, h0⟩ := bY h
 have hl := hg.1
 simp only [fm, hat] at hR
 obtain ⟨ha, hobj, hw0, hq⟩ := hR
 have ho := T.obj (.inl (by omega))
 have hob : k.obj < σ.obs.length := by omega
 obtain ⟨b, hb⟩ : ∃ b, g.rp[k.obj]? = some b := ⟨_, List.getElem?_eq_getElem (by omega)⟩
 refine bw x P g σ t k now S T (by omega) h0 fun b1 H1 h1 => ?_
 refine RD (by omega) ?_
 refine aa (aR (by omega)) ?_
 with_reducible repeat refine gg ?_
 refine aa (aR (by omega)) ?_
 with_reducible repeat refine gg ?_
 refine aa (bo (by omega)) ?_
 with_reducible repeat refine gg ?_
 refine ag (j4 ..) ?_
 with_reducible repeat refine gg ?_
 refine lh ?_
 refine aw (fun r => DD _ _ H1) ?_
 refine ag (pn ..) ?_
 refine am h1 ac rfl ?_
 refine ag (pp ..) ?_
 refine aa (aR (by omega)) ?_
 with_reducible repeat refine gg ?_
 refine aa (aR (by omega)) ?_
 with_reducible repeat refine gg ?_
 refine aa (bo (by omega)) ?_
 with_reducible repeat refine gg ?_
 refine af h1 (iC x P g σ t k hl b hob hb) fun _ H2 h2 => ?_
 refine aJ ac ?_
 refine aE h2 rfl ?_
 refine aD h1 h2 (by rfl) ?_
 refine af h2 (lj (p := P) (μ' := σ.μ.acc t.who 1 (12, (k.obj : Int), 0)) (by simp) hl hob hb (zI g.m k.obj b (az σ k.obj) σ.μ t.who hN)) fun _ H3 h3 => ?_
 refine aL h3 ac rfl rfl fun H4 h4 => ?_
 refine aL h4 ac rfl rfl fun H5 h5 => ?_
 refine aL h5 ac rfl rfl fun H6 h6 => ?_
 refine af h6 (iC x P g (σ.mem (σ.μ.acc t.who 1 (12, (k.obj : Int), 0))) t { k with h := σ.μ.V (12, (k.obj : Int), 0), mark := now, a := 18 } hl b hob hb) fun _ H7 h7 => ?_
 refine aJ ac ?_
 refine aE h7 rfl ?_
 refine aD h6 h7 (by rfl) ?_
 refine aJ ac ?_
 refine aE h7 rfl ?_
 refine aD h6 h7 (by rfl) ?_
 refine af h7 (Ek (p := P) (σ := σ.mem (σ.μ.acc t.who 1 (12, (k.obj : Int), 0))) hl hob hb (zH g.m k.obj b (az σ k.obj) k.w (σ.μ.V (12, (k.obj : Int), 0)) (by rw [hw0]; exact T.w) (S.cells _ hob).2)) fun _ H8 h8 => ?_
 rw [hobj, hw0] at h8
 rw [hobj, hw0]
 cases hf : gr t.w (σ.μ.V (12, (t.obj : Int), 0)) (az σ t.obj).length
 ·with_reducible repeat refine gg ?_
  rw [Bool.not_false]
  with_reducible repeat refine gg ?_
  refine aL h8 ac rfl rfl fun H9 h9 => ?_
  refine ag (iu ..) ?_
  exact aq (cE (g := g) (σ' := fw σ t) (t' := { t with at' := 7 }) (k := { k with a := 7, obj := t.obj, w := t.w, h := σ.μ.V (12, (t.obj : Int), 0), mark := now }) (by simp only [ah, hat, gT, hf]; rfl) (by simp [fm]) (aG (σ := σ) hg (by simp) rfl) h9.to)
 ·with_reducible repeat refine gg ?_
  rw [Bool.not_true]
  with_reducible repeat refine gg ?_
  refine ag (iu ..) ?_
  exact aq (cE (g := g) (σ' := fw σ t) (t' := { t with at' := 18, mark := now }) (k := { k with a := 18, obj := t.obj, w := t.w, h := σ.μ.V (12, (t.obj : Int), 0), mark := now }) (by simp only [ah, hat, gT, hf]; rfl) (by simp [fm, hq]) (aG (σ := σ) hg (by simp) rfl) h8.to)
theorem WE (S : SOk σ) (T : ef σ t) (hat : t.at' = 18) : Sp de [vp x, vi now] (xP x P σ t) (fun _ : Unit => vb (ah σ t now).2.2) (fun _ => xQ x P (ah σ t now)) := by
 have hN : σ.μ.N < 1099511627000 := by have := S.N; omega
 refine av fun R H h => ?_
 obtain ⟨k, g, hR, hg, h0⟩ := bY h
 have hl := hg.1
 simp only [fm, hat] at hR
 obtain ⟨ha, hobj, hq, hm⟩ := hR
 have ho := T.obj (.inl (by omega))
 have hob : k.obj < σ.obs.length := by omega
 obtain ⟨b, hb⟩ : ∃ b, g.rp[k.obj]? = some b := ⟨_, List.getElem?_eq_getElem (by omega)⟩
 refine bw x P g σ t k now S T (by omega) h0 fun b1 H1 h1 => ?_
 refine RD (by omega) ?_
 refine aa (aR (by omega)) ?_
 with_reducible repeat refine gg ?_
 refine aa (aR (by omega)) ?_
 with_reducible repeat refine gg ?_
 refine aa (aR (by omega)) ?_
 with_reducible repeat refine gg ?_
 refine aa (bo (by omega)) ?_
 refine ag (j4 ..) ?_
 with_reducible repeat refine gg ?_
 refine lh ?_
 refine aw (fun r => DD _ _ H1) ?_
 refine ag (pn ..) ?_
 refine am h1 ac rfl ?_
 refine ag (pp ..) ?_
 refine aa (aR (by omega)) ?_
 with_reducible repeat refine gg ?_
 refine aa (aR (by omega)) ?_
 with_reducible repeat refine gg ?_
 refine aa (aR (by omega)) ?_
 with_reducible repeat refine gg ?_
 refine aa (bo (by omega)) ?_
 with_reducible repeat refine gg ?_
 refine am h1 ac rfl ?_
 refine am h1 ac rfl ?_
 refine af h1 (zG P g σ t.who S.N) fun _ H2 h2 => ?_
 refine aJ ac ?_
 refine aE h2 rfl ?_
 refine aD h1 h2 (by rfl) ?_
 by_cases hw : σ.μ.V (2, 0, 0) = t.q
 ·refine aa (bo (show ((σ.μ.V (2, 0, 0) : Nat) : Int) = (k.q : Int) by omega)) ?_
  with_reducible repeat refine gg ?_
  refine am h2 ac rfl ?_
  rw [hm]
  refine af h2 (wr x P g (lQ σ t) t k (aG (σ := σ) hg (by simp) rfl) t.mark 9 (by have := S.N; show σ.μ.N + 2 < _; omega) S.pts) fun v H3 h3 => ?_
  exact aq (zE (g := { g with pv := v }) (k := { k with code := 9 }) (σ' := (lQ σ t).note t.mark t.who 9) (t' := { t with code := 9 }) (by simp only [ah, hat]; rw [if_pos hw]) rfl (j1 (σ := σ) hg (by simp) rfl) h3.to)
 ·refine aa (aR (show ¬ ((σ.μ.V (2, 0, 0) : Nat) : Int) = (k.q : Int) by omega)) ?_
  with_reducible repeat refine gg ?_
  refine aL h2 ac rfl rfl fun H3 h3 => ?_
  refine ag (iu ..) ?_
  exact aq (cE (g := g) (σ' := lQ σ t) (t' := { t with at' := 7 }) (k := { k with a := 7 }) (by simp only [ah, hat]; rw [if_neg hw]) (by simp [fm, hobj]) (aG (σ := σ) hg (by simp) rfl) h3.to)
theorem WG (S : SOk σ) (T : ef σ t) (hat : t.at' = 20) : Sp de [vp x, vi now] (xP x P σ t) (fun _ : Unit => vb (ah σ t now).2.2) (fun _ => xQ x P (ah σ t now)) := by
 have hN : σ.μ.N < 1099511627000 := by have := S.N; omega
 refine av fun R H h => ?_
 obtain ⟨k, g, hR, hg, h0⟩ := bY h
 have hl := hg.1
 simp only [fm, hat] at hR
 obtain ⟨ha, hobj⟩ := hR
 have ho := T.obj (.inl (by omega))
 have hob : k.obj < σ.obs.length := by omega
 obtain ⟨b, hb⟩ : ∃ b, g.rp[k.obj]? = some b := ⟨_, List.getElem?_eq_getElem (by omega)⟩
 refine bw x P g σ t k now S T (by omega) h0 fun b1 H1 h1 => ?_
 refine chw (by omega) ?_
 refine lh ?_
 refine aw (fun r => t7 _ _ H1) ?_
 refine am h1 ac rfl ?_
 refine ag (ju ..) ?_
 refine am h1 ac rfl ?_
 refine ag (jw ..) ?_
 refine aa (bo (by omega)) ?_
 with_reducible repeat refine gg ?_
 refine am h1 ac rfl ?_
 refine am h1 ac rfl ?_
 refine af h1 (tj (p := P) (g := g) (σ := σ) (μ' := σ.μ.cnt t.who (3, 0, 0) 1) (L := σ.μ.N) (by simp) (zF g.ib g.m σ.c.sh σ.nx σ.μ.N σ.μ t.who hN)) fun _ H2 h2 => ?_
 refine aL h2 ac rfl rfl fun H3 h3 => ?_
 refine ag (jv ..) ?_
 exact aq (cE (g := g) (σ' := σ.mem (σ.μ.cnt t.who (3, 0, 0) 1)) (t' := { t with at' := 7 }) (k := { k with a := 7 }) (by simp only [ah, hat]) (by simp [fm, hobj]) (aG (σ := σ) hg (by simp) rfl) h3.to)
theorem WH (S : SOk σ) (T : ef σ t) (hat : t.at' = 21) : Sp de [vp x, vi now] (xP x P σ t) (fun _ : Unit => vb (ah σ t now).2.2) (fun _ => xQ x P (ah σ t now)) := by
 have hN : σ.μ.N < 1099511627000 := by have := S.N; omega
 refine av fun R H h => ?_
 obtain ⟨k, g, hR, hg, h0⟩ := bY h
 have hl := hg.1
 simp only [fm, hat] at hR
 obtain ⟨ha, hobj, hw0, hcode⟩ := hR
 have ho := T.obj (.inl (by omega))
 have hob : k.obj < σ.obs.length := by omega
 obtain ⟨b, hb⟩ : ∃ b, g.rp[k.obj]? = some b := ⟨_, List.getElem?_eq_getElem (by omega)⟩
 refine bw x P g σ t k now S T (by omega) h0 fun b1 H1 h1 => ?_
 refine chw (by omega) ?_
 refine lh ?_
 refine aw (fun r => t7 _ _ H1) ?_
 refine am h1 ac rfl ?_
 refine ag (ju ..) ?_
 refine am h1 ac rfl ?_
 refine ag (jw ..) ?_
 refine aa (aR (by omega)) ?_
 with_reducible repeat refine gg ?_
 refine aa (bo (by omega)) ?_
 with_reducible repeat refine gg ?_
 refine af h1 (iC x P g σ t k hl b hob hb) fun _ H2 h2 => ?_
 refine aJ ac ?_
 refine aE h2 rfl ?_
 refine aD h1 h2 (by rfl) ?_
 refine af h2 (td x P t k (by rw [hw0]; exact T.w)) fun _ H3 h3 => ?_
 refine aD h3 h2 (by rfl) ?_
 have hwc := dH k.w
 refine af h3 (lj (p := P) (μ' := (σ.μ.acc t.who 2 (15, (k.obj : Int), ((aP k.w % (az σ k.obj).length : Nat) : Int))).put (15, (k.obj : Int), ((aP k.w % (az σ k.obj).length : Nat) : Int)) (aP k.w + 1)) (by simp) hl hob hb (zJ g.m k.obj b (az σ k.obj) σ.μ t.who (aP k.w) (by omega) (S.cells _ hob) hN)) fun _ H4 h4 => ?_
 refine aL h4 ac rfl rfl fun H5 h5 => ?_
 refine ag (jv ..) ?_
 rw [hobj, hw0] at h5
 exact aq (cE (g := g) (σ' := oA σ t) (t' := { t with at' := 22 }) (k := { k with a := 22, obj := t.obj, w := t.w }) (by simp only [ah, hat]) (by simp [fm, hcode]) (aG (σ := σ) hg (by simp) rfl) h5.to)
theorem WI (S : SOk σ) (T : ef σ t) (hat : t.at' = 22) : Sp de [vp x, vi now] (xP x P σ t) (fun _ : Unit => vb (ah σ t now).2.2) (fun _ => xQ x P (ah σ t now)) := by
 have hN : σ.μ.N < 1099511627000 := by have := S.N; omega
 refine av fun R H h => ?_
 obtain ⟨k, g, hR, hg, h0⟩ := bY h
 have hl := hg.1
 simp only [fm, hat] at hR
 obtain ⟨ha, hobj, hcode⟩ := hR
 have ho := T.obj (.inl (by omega))
 have hob : k.obj < σ.obs.length := by omega
 obtain ⟨b, hb⟩ : ∃ b, g.rp[k.obj]? = some b := ⟨_, List.getElem?_eq_getElem (by omega)⟩
 refine bw x P g σ t k now S T (by omega) h0 fun b1 H1 h1 => ?_
 refine chw (by omega) ?_
 refine lh ?_
 refine aw (fun r => t7 _ _ H1) ?_
 refine am h1 ac rfl ?_
 refine ag (ju ..) ?_
 refine am h1 ac rfl ?_
 refine ag (jw ..) ?_
 refine aa (aR (by omega)) ?_
 with_reducible repeat refine gg ?_
 refine aa (aR (by omega)) ?_
 with_reducible repeat refine gg ?_
 refine aa (bo (by omega)) ?_
 with_reducible repeat refine gg ?_
 refine am h1 ac rfl ?_
 refine am h1 ac rfl ?_
 refine af h1 (tj (p := P) (g := g) (σ := σ) (μ' := σ.μ.acc t.who 1 (9, t.s, 0)) (L := σ.μ.N) (by simp) (KE g.ib g.m σ.c.sh σ.nx σ.μ.N σ.μ t.who t.s hN)) fun _ H2 h2 => ?_
 refine aL h2 ac rfl rfl fun H3 h3 => ?_
 refine aL h3 ac rfl rfl fun H4 h4 => ?_
 refine ag (jv ..) ?_
 exact aq (cE (g := g) (σ' := σ.mem (σ.μ.acc t.who 1 (9, t.s, 0))) (t' := { t with at' := 23, top := σ.μ.V (9, t.s, 0) }) (k := { k with a := 23, top := σ.μ.V (9, t.s, 0) }) (by simp only [ah, hat]) (by simp [fm, hobj, hcode]) (aG (σ := σ) hg (by simp) rfl) h4.to)
theorem WJ (S : SOk σ) (T : ef σ t) (hat : t.at' = 23) : Sp de [vp x, vi now] (xP x P σ t) (fun _ : Unit => vb (ah σ t now).2.2) (fun _ => xQ x P (ah σ t now)) := by
 have hN : σ.μ.N < 1099511627000 := by have := S.N; omega
 refine av fun R H h => ?_
 obtain ⟨k, g, hR, hg, h0⟩ := bY h
 have hl := hg.1
 simp only [fm, hat] at hR
 obtain ⟨ha, hobj, htop, hcode⟩ := hR
 have ho := T.obj (.inl (by omega))
 have hob : k.obj < σ.obs.length := by omega
 obtain ⟨b, hb⟩ : ∃ b, g.rp[k.obj]? = some b := ⟨_, List.getElem?_eq_getElem (by omega)⟩
 refine bw x P g σ t k now S T (by omega) h0 fun b1 H1 h1 => ?_
 refine chw (by omega) ?_
 refine lh ?_
 refine aw (fun r => t7 _ _ H1) ?_
 refine am h1 ac rfl ?_
 refine ag (ju ..) ?_
 refine am h1 ac rfl ?_
 refine ag (jw ..) ?_
 refine aa (aR (by omega)) ?_
 with_reducible repeat refine gg ?_
 refine aa (aR (by omega)) ?_
 with_reducible repeat refine gg ?_
 refine aa (aR (by omega)) ?_
 with_reducible repeat refine gg ?_
 refine aa (bo (by omega)) ?_
 with_reducible repeat refine gg ?_
 refine am h1 ac rfl ?_
 refine am h1 ac rfl ?_
 refine am h1 ac rfl ?_
 refine am h1 ac rfl ?_
 refine af h1 (tj (p := P) (g := g) (σ := σ) (μ' := σ.μ.acc t.who 6 (14, (k.obj : Int), 0)) (L := σ.μ.N + 1) (by simp) (G6 g.ib g.m σ.c.sh σ.nx σ.μ.N σ.μ t.who k.obj k.top (by have := S.N; omega) hN)) fun _ H2 h2 => ?_
 refine aL h2 ac rfl rfl fun H3 h3 => ?_
 refine ag (jv ..) ?_
 rw [hobj, htop] at h3
 exact aq (cE (g := g) (σ' := { σ with μ := σ.μ.acc t.who 6 (14, (t.obj : Int), 0), nx := fun k => if k = (t.obj : Int) then some t.top else σ.nx k }) (t' := { t with at' := 24 }) (k := { k with a := 24, obj := t.obj, top := t.top }) (by simp only [ah, hat]) (by simp [fm, hcode]) (aG (σ := σ) hg (by simp) rfl) h3.to)
theorem WK (S : SOk σ) (T : ef σ t) (hat : t.at' = 24) : Sp de [vp x, vi now] (xP x P σ t) (fun _ : Unit => vb (ah σ t now).2.2) (fun _ => xQ x P (ah σ t now)) := by
 have hN : σ.μ.N < 1099511627000 := by have := S.N; omega
 refine av fun R H h => ?_
 obtain ⟨k, g, hR, hg, h0⟩ := bY h
 have hl := hg.1
 simp only [fm, hat] at hR
 obtain ⟨ha, hobj, htop, hcode⟩ := hR
 have ho := T.obj (.inl (by omega))
 have hob : k.obj < σ.obs.length := by omega
 obtain ⟨b, hb⟩ : ∃ b, g.rp[k.obj]? = some b := ⟨_, List.getElem?_eq_getElem (by omega)⟩
 refine bw x P g σ t k now S T (by omega) h0 fun b1 H1 h1 => ?_
 refine chw (by omega) ?_
 refine lh ?_
 refine aw (fun r => t7 _ _ H1) ?_
 refine am h1 ac rfl ?_
 refine ag (ju ..) ?_
 refine am h1 ac rfl ?_
 refine ag (jw ..) ?_
 refine aa (aR (by omega)) ?_
 with_reducible repeat refine gg ?_
 refine aa (aR (by omega)) ?_
 with_reducible repeat refine gg ?_
 refine aa (aR (by omega)) ?_
 with_reducible repeat refine gg ?_
 refine aa (aR (by omega)) ?_
 with_reducible repeat refine gg ?_
 refine aa (bo (by omega)) ?_
 with_reducible repeat refine gg ?_
 refine aL h1 ac rfl rfl fun H2 h2 => ?_
 refine am h2 ac rfl ?_
 refine am h2 ac rfl ?_
 refine am h2 ac rfl ?_
 refine am h2 ac rfl ?_
 refine af h2 (tj (p := P) (g := g) (σ := σ) (μ' := σ.μ.swp t.who (9, t.s, 0) k.top (k.obj + 1)) (L := σ.μ.N) (by simp) (G7 g.ib g.m σ.c.sh σ.nx σ.μ.N σ.μ t.who t.s k.top k.obj (by have := S.obs; omega) hN)) fun _ H3 h3 => ?_
 rw [hobj, htop] at h3
 rw [htop]
 by_cases hw : σ.μ.V (9, t.s, 0) = t.top
 ·rw [decide_eq_true hw]
  with_reducible repeat refine gg ?_
  refine aL h3 ac rfl rfl fun H4 h4 => ?_
  refine ag (jv ..) ?_
  exact aq (cE (g := g) (σ' := σ.mem (σ.μ.swp t.who (9, t.s, 0) t.top (t.obj + 1))) (t' := { t with at' := 25 }) (k := { k with a := 25, obj := t.obj, top := t.top }) (by simp only [ah, hat]; rw [if_pos hw]) (by simp [fm, hcode]) (aG (σ := σ) hg (by simp) rfl) h4.to)
 ·rw [decide_eq_false hw]
  with_reducible repeat refine gg ?_
  refine ag (jv ..) ?_
  exact aq (cE (g := g) (σ' := σ.mem (σ.μ.swp t.who (9, t.s, 0) t.top (t.obj + 1))) (t' := { t with at' := 22 }) (k := { k with a := 22, obj := t.obj, top := t.top }) (by simp only [ah, hat]; rw [if_neg hw]) (by simp [fm, hcode]) (aG (σ := σ) hg (by simp) rfl) h3.to)
theorem WL (S : SOk σ) (T : ef σ t) (hat : t.at' = 25) : Sp de [vp x, vi now] (xP x P σ t) (fun _ : Unit => vb (ah σ t now).2.2) (fun _ => xQ x P (ah σ t now)) := by
 have hN : σ.μ.N < 1099511627000 := by have := S.N; omega
 refine av fun R H h => ?_
 obtain ⟨k, g, hR, hg, h0⟩ := bY h
 have hl := hg.1
 simp only [fm, hat] at hR
 obtain ⟨ha, hcode⟩ := hR
 refine bw x P g σ t k now S T (by omega) h0 fun b1 H1 h1 => ?_
 refine chw (by omega) ?_
 refine lh ?_
 refine aw (fun r => t7 _ _ H1) ?_
 refine am h1 ac rfl ?_
 refine ag (ju ..) ?_
 refine am h1 ac rfl ?_
 refine ag (jw ..) ?_
 refine aa (aR (by omega)) ?_
 with_reducible repeat refine gg ?_
 refine aa (aR (by omega)) ?_
 with_reducible repeat refine gg ?_
 refine aa (aR (by omega)) ?_
 with_reducible repeat refine gg ?_
 refine aa (aR (by omega)) ?_
 with_reducible repeat refine gg ?_
 refine aa (aR (by omega)) ?_
 with_reducible repeat refine gg ?_
 refine aa (bo (by omega)) ?_
 with_reducible repeat refine gg ?_
 refine am h1 ac rfl ?_
 refine am h1 ac rfl ?_
 refine af h1 (tj (p := P) (g := g) (σ := σ) (μ' := σ.μ.cnt t.who (3, 0, 0) 1) (L := σ.μ.N) (by simp) (zF g.ib g.m σ.c.sh σ.nx σ.μ.N σ.μ t.who hN)) fun _ H2 h2 => ?_
 exact aq (zE (g := g) (k := k) (σ' := σ.mem (σ.μ.cnt t.who (3, 0, 0) 1)) (t' := t) (by simp only [ah, hat]) hcode (aG (σ := σ) hg (by simp) rfl) h2.to)
theorem Wv {R : SP} {H1 : AH} {b1 : Nat} {sv : Value} (g : XIds) (k : Xk) (S : SOk σ) (T : ef σ t) (hg : e6 g σ) (ha : k.a = 2) (hI : k.I = t.i) (hh : k.hit = false) (hi : (t.i : Int) < σ.c.sl)
 (h1 : ae (blk b1 (.cells false [vi t.x.flow, vi t.x.a, vi t.x.b]) * (xB x P t k * (ay P g σ * R))) H1) :
 wp (JI (vp x) (vi now) (vb false) (vp P) sv (vp b1) (vi k.a) (vb true) H1) fun v' H' => ∃ y : Unit, v' = vb (ee σ t).2.2 ∧ ae (xQ x P (ee σ t) * R) H' := by
 refine ag (lP ..) ?_
 with_reducible repeat refine gg ?_
 refine af h1 (NF x P g σ t k S T hI hi) fun k2 H2 h2 => ?_
 rw [ap, ae.pu] at h2
 obtain ⟨hX, h2⟩ := h2
 obtain ⟨x1, x2, x3, x4, x5, x6, x7, x8⟩ := hX
 refine aa (v := vb (aI σ t).found) rfl ?_
 refine aa (v := vb (!(aI σ t).found && dp σ (aI σ t))) rfl ?_
 cases hf : (aI σ t).found
 ·obtain ⟨y1, y2⟩ := x8 hf
  with_reducible repeat refine gg ?_
  rw [Bool.not_false, Bool.true_and]
  cases hla : dp σ (aI σ t)
  ·with_reducible repeat refine gg ?_
   refine ag (bG ..) ?_
   exact aq (cE (g := g) (k := k2) (σ' := cj σ t) (t' := { aI σ t with at' := 2 }) (by simp only [ee, hf, hla]; rfl) (by simp [fm, x1, ha, y1, y2, hh, hI, aI]) (aG (σ := σ) hg (by simp) rfl) (show ae (xB x P t k2 * (ay P g (cj σ t) * R)) H2 from h2.to))
  ·with_reducible repeat refine gg ?_
   refine aL h2 ac rfl rfl fun H3 h3 => ?_
   refine ag (bG ..) ?_
   exact aq (cE (g := g) (k := { k2 with a := 3 }) (σ' := cj σ t) (t' := { aI σ t with at' := 3 }) (by simp only [ee, hf, hla]; rfl) (by simp [fm]) (aG (σ := σ) hg (by simp) rfl) (show ae (xB x P t { k2 with a := 3 } * (ay P g (cj σ t) * R)) H3 from h3.to))
 ·obtain ⟨y1, y2⟩ := x7 hf
  with_reducible repeat refine gg ?_
  refine aL h2 ac rfl rfl fun H3 h3 => ?_
  refine ag (bG ..) ?_
  exact aq (cE (g := g) (k := { k2 with a := 6 }) (σ' := cj σ t) (t' := { aI σ t with at' := 6 }) (by simp only [ee, hf]; rfl) (by simp [fm, y2]) (aG (σ := σ) hg (by simp) rfl) (show ae (xB x P t { k2 with a := 6 } * (ay P g (cj σ t) * R)) H3 from h3.to))
theorem Yl (S : SOk σ) (T : ef σ t) (hat : t.at' = 2) : Sp de [vp x, vi now] (xP x P σ t) (fun _ : Unit => vb (ah σ t now).2.2) (fun _ => xQ x P (ah σ t now)) := by
 have hN : σ.μ.N < 1099511627000 := by have := S.N; omega
 refine av fun R H h => ?_
 obtain ⟨k, g, hR, hg, h0⟩ := bY h
 have hl := hg.1
 simp only [fm, hat] at hR
 obtain ⟨ha, hI, hh⟩ := hR
 have hi := T.i (by omega) (by omega)
 have hs : ah σ t now = ee σ t := by simp only [ah, hat, ee]
 rw [hs]
 refine bw x P g σ t k now S T (by omega) h0 fun b1 H1 h1 => ?_
 refine ag (jt ..) ?_
 refine aa (bo (by omega)) ?_
 exact Wv x P σ t now g k S T hg ha hI hh hi h1
theorem Yn (S : SOk σ) (T : ef σ t) (hat : t.at' = 4) : Sp de [vp x, vi now] (xP x P σ t) (fun _ : Unit => vb (ah σ t now).2.2) (fun _ => xQ x P (ah σ t now)) := by
 have hN : σ.μ.N < 1099511627000 := by have := S.N; omega
 refine av fun R H h => ?_
 obtain ⟨k, g, hR, hg, h0⟩ := bY h
 have hl := hg.1
 simp only [fm, hat] at hR
 obtain ⟨ha, hI, hh⟩ := hR
 have hi := T.i (by omega) (by omega)
 refine bw x P g σ t k now S T (by omega) h0 fun b1 H1 h1 => ?_
 refine ag (jt ..) ?_
 refine aa (aR (by omega)) ?_
 refine ag (lP ..) ?_
 with_reducible repeat refine gg ?_
 refine aa (aR (by omega)) ?_
 refine ag (mu ..) ?_
 with_reducible repeat refine gg ?_
 refine aa (bo (by omega)) ?_
 refine ag (qM ..) ?_
 with_reducible repeat refine gg ?_
 refine af h1 (NF x P g σ t k S T hI hi) fun k2 H2 h2 => ?_
 rw [ap, ae.pu] at h2
 obtain ⟨hX, h2⟩ := h2
 obtain ⟨x1, x2, x3, x4, x5, x6, x7, x8⟩ := hX
 refine aa (v := vb (aI σ t).found) rfl ?_
 refine aa (v := vb (!(aI σ t).found && dp σ (aI σ t))) rfl ?_
 cases hf : (aI σ t).found
 ·obtain ⟨y1, y2⟩ := x8 hf
  with_reducible repeat refine gg ?_
  rw [Bool.not_false, Bool.true_and]
  cases hla : dp σ (aI σ t)
  ·with_reducible repeat refine gg ?_
   refine ag (bG ..) ?_
   exact aq (cE (g := g) (k := k2) (σ' := cj σ t) (t' := aI σ t) (by simp only [ah, hat, hf, hla]; rfl) (by simp [fm, x1, ha, y1, y2, hh, hI, aI, hat]) (aG (σ := σ) hg (by simp) rfl) (show ae (xB x P t k2 * (ay P g (cj σ t) * R)) H2 from h2.to))
  ·with_reducible repeat refine gg ?_
   refine af h2 (wr x P g (cj σ t) t k2 (aG (σ := σ) hg (by simp) rfl) now 5 (by have := S.N; show σ.μ.N + 2 < _; omega) S.pts) fun v H3 h3 => ?_
   refine aL h3 ac rfl rfl fun H4 h4 => ?_
   refine ag (bG ..) ?_
   exact aq (cE (g := { g with pv := v }) (k := { k2 with a := 5, code := 5 }) (σ' := (cj σ t).note now t.who 5) (t' := { aI σ t with at' := 5, code := 5 }) (by simp only [ah, hat, hf, hla]; rfl) (by simp [fm, hf, y1, hh]) (j1 (σ := σ) hg (by simp) rfl) (show ae (xB x P t { k2 with a := 5, code := 5 } * (ay P { g with pv := v } ((cj σ t).note now t.who 5) * R)) H4 from h4.to))
 ·obtain ⟨y1, y2⟩ := x7 hf
  with_reducible repeat refine gg ?_
  refine aL h2 ac rfl rfl fun H3 h3 => ?_
  refine ag (bG ..) ?_
  exact aq (cE (g := g) (k := { k2 with a := 5 }) (σ' := cj σ t) (t' := { aI σ t with at' := 5 }) (by simp only [ah, hat, hf]; rfl) (by simp [fm, hf, y1, y2]) (aG (σ := σ) hg (by simp) rfl) (show ae (xB x P t { k2 with a := 5 } * (ay P g (cj σ t) * R)) H3 from h3.to))
theorem Yk (S : SOk σ) (T : ef σ t) (hat : t.at' = 0) : Sp de [vp x, vi now] (xP x P σ t) (fun _ : Unit => vb (ah σ t now).2.2) (fun _ => xQ x P (ah σ t now)) := by
 have hN : σ.μ.N < 1099511627000 := by have := S.N; omega
 refine av fun R H h => ?_
 obtain ⟨k, g, hR, hg, h0⟩ := bY h
 have hl := hg.1
 simp only [fm, hat] at hR
 obtain ⟨ha, hI, hh⟩ := hR
 have hi := T.i (by omega) (by omega)
 refine G5 x P g σ t k now S T h0 fun b1 H1 h1 => ?_
 refine ag (A8 ..) ?_
 refine am h1 ac rfl ?_
 refine aa (bo (by omega)) ?_
 with_reducible repeat refine gg ?_
 have fin : ∀ code, cG t.x = some code → wp ((FF ce [vp x, vi now, vi code] H1).bind fun r125 => some ((vb true), r125.2)) fun v' H' => ∃ y : Unit, v' = vb (ah σ t now).2.2 ∧ ae (xQ x P (ah σ t now) * R) H' := by
  intro code hx
  refine af h1 (wr x P g σ t k hg now code (by have := S.N; omega) S.pts) fun v H2 h2 => ?_
  exact aq (zE (g := { g with pv := v }) (k := { k with code := code }) (σ' := σ.note now t.who code) (t' := { t with code := code }) (by simp only [ah, hat, hx]) rfl (j1 (σ := σ) hg (Nat.le_refl _) rfl) h2.to)
 refine am h1 (gS (ch (ch cg))) rfl ?_
 by_cases ha1 : t.x.a < 1
 ·refine aa (b4 ha1) ?_
  with_reducible repeat refine gg ?_
  exact fin 3 (by rw [cG, if_pos (.inl ha1)])
 ·refine aa (bI ha1) ?_
  with_reducible repeat refine gg ?_
  refine am h1 (gS (ch (ch cg))) rfl ?_
  with_reducible repeat refine gg ?_
  by_cases ha2 : 65536 < t.x.a
  ·refine aa (nG ha2) ?_
   with_reducible repeat refine gg ?_
   exact fin 3 (by rw [cG, if_pos (.inr ha2)])
  ·refine aa (gU ha2) ?_
   with_reducible repeat refine gg ?_
   refine am h1 (gS (ch (ch cg))) rfl ?_
   by_cases hf : t.x.flow < 0
   ·refine aa (b4 hf) ?_
    with_reducible repeat refine gg ?_
    exact fin 5 (by rw [cG, if_neg (by omega), if_pos (.inl hf)])
   ·refine aa (bI hf) ?_
    with_reducible repeat refine gg ?_
    refine am h1 (gS (ch (ch cg))) rfl ?_
    with_reducible repeat refine gg ?_
    by_cases hf2 : 1048576 < t.x.flow
    ·refine aa (nG hf2) ?_
     with_reducible repeat refine gg ?_
     exact fin 5 (by rw [cG, if_neg (by omega), if_pos (.inr hf2)])
    ·refine aa (gU hf2) ?_
     with_reducible repeat refine gg ?_
     have hx : cG t.x = none := by rw [cG, if_neg (by omega), if_neg (by omega)]
     have hs : ah σ t now = ee σ t := by simp only [ah, hat, hx, ee]
     rw [hs]
     refine aL h1 ac rfl rfl fun H2 h2 => ?_
     refine ag (A9 ..) ?_
     refine am h2 ac rfl ?_
     refine ag (jt ..) ?_
     refine aa (bo (by omega)) ?_
     exact Wv x P σ t now g { k with a := 2 } S T hg rfl hI hh hi h2.to
theorem Q6 (S : SOk σ) (T : ef σ t) : Sp de [vp x, vi now] (xP x P σ t) (fun _ : Unit => vb (ah σ t now).2.2) (fun _ => xQ x P (ah σ t now)) := by
 rcases T.ats with hat | hat | hat | hat | hat | hat | hat | hat | hat | hat | hat | hat | hat | hat | hat | hat | hat | hat | hat | hat | hat | hat | hat | hat
 ·exact Yk x P σ t now S T hat
 ·exact Yl x P σ t now S T hat
 ·exact Ym x P σ t now S T hat
 ·exact Yn x P σ t now S T hat
 ·exact Yo x P σ t now S T hat
 ·exact Yp x P σ t now S T hat
 ·exact Yq x P σ t now S T hat
 ·exact Yr x P σ t now S T hat
 ·exact Ys x P σ t now S T hat
 ·exact Ww x P σ t now S T hat
 ·exact Wx x P σ t now S T hat
 ·exact Wy x P σ t now S T hat
 ·exact Wz x P σ t now S T hat
 ·exact WA x P σ t now S T hat
 ·exact WB x P σ t now S T hat
 ·exact WC x P σ t now S T hat
 ·exact WD x P σ t now S T hat
 ·exact WE x P σ t now S T hat
 ·exact WG x P σ t now S T hat
 ·exact WH x P σ t now S T hat
 ·exact WI x P σ t now S T hat
 ·exact WJ x P σ t now S T hat
 ·exact WK x P σ t now S T hat
 ·exact WL x P σ t now S T hat
end
theorem PM {x : Nat} {g : XIds} {σ : aX} {R : SP} {H : AH} (h : ae (ay x g σ * R) H) : ∃ (kv vv ev : Value) (Z : SP), ae (blk g.m (.cells false [kv, vv, ev]) * (ts 5 Ev.cells ev σ.μ.E * (blk x (.cells false [vi σ.c.sh, vi σ.c.sl, vi σ.c.wk, vi σ.c.wd, vu σ.c.un, vp g.m, vp g.ib, vp g.tb, vp g.po, vp g.co, g.ov, g.rv, g.wv, g.pv]) * (Z * R)))) H ∧
 ∀ {R' : SP} {H' : AH}, ae (blk g.m (.cells false [kv, vv, ev]) * (ts 5 Ev.cells ev σ.μ.E * (blk x (.cells false [vi σ.c.sh, vi σ.c.sl, vi σ.c.wk, vi σ.c.wd, vu σ.c.un, vp g.m, vp g.ib, vp g.tb, vp g.po, vp g.co, g.ov, g.rv, g.wv, g.pv]) * (Z * R')))) H' → ae (ay x g σ * R') H' := by
 unfold ay at h
 have h1 : ae (bk g.m σ.μ * (blk x (.cells false [vi σ.c.sh, vi σ.c.sl, vi σ.c.wk, vi σ.c.wd, vu σ.c.un, vp g.m, vp g.ib, vp g.tb, vp g.po, vp g.co, g.ov, g.rv, g.wv, g.pv]) * ((fR g.ib g.m σ.c.sh σ.nx σ.μ.N * (tab g.tb g.m σ.c.sh.toNat σ.c.sl.toNat *
  (ts 3 pM g.ov (σ.obs.map fun x => x.1) * (ts 1 mH g.rv g.rp * (gL g.m 0 (g.rp.zip (σ.obs.map fun x => x.2)) * (ts 1 jA g.wv (dE g.ws) * ts 7 Pt.cells g.pv (aZ σ.pts))))))) * R))) H := h.to
 obtain ⟨al, h2⟩ := ae.ex.1 h1
 rw [ap, ae.pu] at h2
 obtain ⟨hp, h2⟩ := h2
 obtain ⟨⟨kv, vv, ev⟩, h3⟩ := ae.ex.1 h2
 dsimp only at h3
 refine ⟨kv, vv, ev, (ts 3 BS kv al * ts 1 EL vv al) * (fR g.ib g.m σ.c.sh σ.nx σ.μ.N * (tab g.tb g.m σ.c.sh.toNat σ.c.sl.toNat *
  (ts 3 pM g.ov (σ.obs.map fun x => x.1) * (ts 1 mH g.rv g.rp * (gL g.m 0 (g.rp.zip (σ.obs.map fun x => x.2)) * (ts 1 jA g.wv (dE g.ws) * ts 7 Pt.cells g.pv (aZ σ.pts))))))), h3.to, fun {R' H'} h4 => ?_⟩
 unfold ay
 have h5 : ae (bk g.m σ.μ * (blk x (.cells false [vi σ.c.sh, vi σ.c.sl, vi σ.c.wk, vi σ.c.wd, vu σ.c.un, vp g.m, vp g.ib, vp g.tb, vp g.po, vp g.co, g.ov, g.rv, g.wv, g.pv]) * ((fR g.ib g.m σ.c.sh σ.nx σ.μ.N * (tab g.tb g.m σ.c.sh.toNat σ.c.sl.toNat *
  (ts 3 pM g.ov (σ.obs.map fun x => x.1) * (ts 1 mH g.rv g.rp * (gL g.m 0 (g.rp.zip (σ.obs.map fun x => x.2)) * (ts 1 jA g.wv (dE g.ws) * ts 7 Pt.cells g.pv (aZ σ.pts))))))) * R'))) H' := by
  refine ae.ex.2 ⟨al, ?_⟩
  rw [ap, ae.pu]
  refine ⟨hp, ae.ex.2 ⟨(kv, vv, ev), ?_⟩⟩
  dsimp only
  exact h4.to
 exact h5.to
theorem Wk {w how n : Nat} (h : a9 w how = some n) : n < 18446744073709551616 := by
 have := dH w
 unfold a9 at h
 split at h
 ·split at h
  ·have := Option.some.inj h; omega
  ·cases h
 ·split at h
  ·have := Option.some.inj h; omega
  ·cases h
 ·split at h
  ·have := Option.some.inj h; omega
  ·cases h
 ·cases h
structure SI (σ : aX) (k : Nat) : Prop where
 c : cI σ.c = true
 N : σ.μ.N ≤ k
 E : σ.μ.E.length ≤ k
 pts : σ.pts.length ≤ k
 V : ∀ l, σ.μ.V l < 18446744073709551616
 obs : σ.obs.length ≤ 100
 cells : ∀ o, o < σ.obs.length → 1 ≤ (az σ o).length ∧ (az σ o).length < 1000
 slot : ∀ s i, σ.μ.V (10, s, i) ≠ 0 → σ.μ.V (10, s, i) % 4294967296 < σ.obs.length
 head : ∀ o, σ.μ.V (12, o, 0) ≤ k
theorem SI.ok {σ : aX} {k : Nat} (h : SI σ k) (hk : k < 300000) : SOk σ :=
 ⟨h.c, by have := h.N; omega, by have := h.pts; omega, h.V, by have := h.obs; omega, h.cells, h.slot⟩
theorem SI.mono {σ : aX} {k k' : Nat} (h : SI σ k) (hk : k ≤ k') : SI σ k' :=
 ⟨h.c, Nat.le_trans h.N hk, Nat.le_trans h.E hk, Nat.le_trans h.pts hk, h.V, h.obs, h.cells, h.slot, fun o => Nat.le_trans (h.head o) hk⟩
theorem SI.acc {σ : aX} {k : Nat} (h : SI σ k) (who kd : Int) (l : bV) : SI (σ.mem (σ.μ.acc who kd l)) (k + 2) :=
 ⟨h.c, by have := h.N; show σ.μ.N + 2 ≤ _; omega, by have := h.E; show (σ.μ.E ++ [_]).length ≤ _; simp; omega, Nat.le_trans h.pts (by omega), h.V, h.obs, h.cells, h.slot, fun o => Nat.le_trans (h.head o) (by omega)⟩
theorem SI.put {σ : aX} {k : Nat} (h : SI σ k) (l : bV) (v : Nat) (hv : v < 18446744073709551616) (h1 : l.1 ≠ 10) (h2 : l.1 ≠ 12 ∨ v ≤ k) : SI (σ.mem (σ.μ.put l v)) k := by
 refine ⟨h.c, h.N, h.E, h.pts, fun x => ?_, h.obs, h.cells, fun s i => ?_, fun o => ?_⟩
 ·show (if x = l then v else σ.μ.V x) < _
  split
  ·exact hv
  ·exact h.V x
 ·show (if (10, s, i) = l then v else σ.μ.V (10, s, i)) ≠ 0 → (if (10, s, i) = l then v else σ.μ.V (10, s, i)) % _ < _
  rw [if_neg (fun e => h1 (by rw [← e]))]
  exact h.slot s i
 ·show (if (12, o, 0) = l then v else σ.μ.V (12, o, 0)) ≤ _
  split
  ·rename_i e
   rcases h2 with h2 | h2
   ·exact absurd (by rw [← e]) h2
   ·exact h2
  ·exact h.head o
theorem SI.swp {σ : aX} {k : Nat} (h : SI σ k) (who : Int) (l : bV) (was now : Nat) (hv : now < 18446744073709551616) (h1 : l.1 ≠ 10) (h2 : l.1 ≠ 12) : SI (σ.mem (σ.μ.swp who l was now)) (k + 2) := by
 have e : σ.μ.swp who l was now = (if σ.μ.V l = was then (σ.μ.acc who 3 l).put l now else σ.μ.acc who 4 l) := by
  show (⟨_, _, _⟩ : Mu) = _
  unfold Mu.swap
  split <;> rfl
 rw [e]
 split
 ·exact (h.acc who 3 l).put l now hv h1 (.inl h2)
 ·exact h.acc who 4 l
theorem SI.turn {σ : aX} {k : Nat} (h : SI σ k) (who : Int) (o w how : Nat) : SI (σ.mem (σ.μ.turn who o w (a9 w how))) (k + 2) := by
 cases e : a9 w how with
 | none => exact h.mono (by omega)
 | some n => exact h.swp who (11, (o : Int), 0) w n (Wk e) (by simp) (by simp)
theorem SI.cnt {σ : aX} {k : Nat} (h : SI σ k) (who : Int) (l : bV) (n : Nat) (h1 : l.1 ≠ 10) (h2 : l.1 ≠ 12) : SI (σ.mem (σ.μ.cnt who l n)) (k + 2) :=
 (h.acc who 3 l).put l _ (Nat.mod_lt _ (by omega)) h1 (.inl h2)
theorem SI.note {σ : aX} {k : Nat} (h : SI σ k) (step who e : Int) : SI (σ.note step who e) (k + 1) :=
 ⟨h.c, Nat.le_trans h.N (by omega), Nat.le_trans h.E (by omega), by have := h.pts; show (σ.pts ++ [_]).length ≤ _; simp; omega, h.V, h.obs, h.cells, h.slot, fun o => Nat.le_trans (h.head o) (by omega)⟩
theorem SI.link {σ : aX} {k : Nat} (h : SI σ k) (who : Int) (l : bV) (nx : Int → Option Nat) : SI { σ with μ := σ.μ.acc who 6 l, nx := nx } (k + 2) := by
 have := h.acc who 6 l
 exact ⟨this.c, this.N, this.E, this.pts, this.V, this.obs, this.cells, this.slot, this.head⟩
theorem SI.begin {σ : aX} {k : Nat} (h : SI σ k) (who place : Int) : SI (σ.begin who place) (k + 1) :=
 ⟨h.c, by have := h.N; show σ.μ.N + 1 ≤ _; omega, Nat.le_trans h.E (by omega), Nat.le_trans h.pts (by omega), h.V, h.obs, h.cells, h.slot, fun o => Nat.le_trans (h.head o) (by omega)⟩
theorem SI.lay {σ : aX} {k : Nat} (h : SI σ k) (t : Tk) : SI (m9 σ t) (k + 2) := by
 have ha := h.acc t.who 6 (16, (t.obj : Int), ((aP t.w % (az σ t.obj).length : Nat) : Int))
 rw [sd]
 have hl : (σ.obs.modify t.obj fun q => (q.1, (az σ t.obj).set (aP t.w % (az σ t.obj).length) (⟨t.x.flow, t.x.a, t.x.b⟩ : Pk))).length = σ.obs.length := by simp
 refine ⟨ha.c, ha.N, ha.E, ha.pts, ha.V, by rw [hl]; exact h.obs, fun o ho => ?_, fun s i hs => by show _ < List.length _; rw [hl]; exact h.slot s i hs, ha.head⟩
 have ho' : o < σ.obs.length := by
  have : o < (σ.obs.modify t.obj fun q => (q.1, (az σ t.obj).set (aP t.w % (az σ t.obj).length) (⟨t.x.flow, t.x.a, t.x.b⟩ : Pk))).length := ho
  rwa [hl] at this
 have hc := h.cells o ho'
 rw [re ho'] at hc
 have hx : ∀ z : Ob × List Pk, z.2.length = (σ.obs[o]).2.length → 1 ≤ z.2.length ∧ z.2.length < 1000 := fun z hz => by rw [hz]; exact hc
 unfold az
 rw [List.getElem?_modify, List.getElem?_eq_getElem ho']
 refine hx (if t.obj = o then ((σ.obs[o]).1, (az σ t.obj).set (aP t.w % (az σ t.obj).length) ⟨t.x.flow, t.x.a, t.x.b⟩) else σ.obs[o]) ?_
 split
 ·rename_i e
  subst e
  rw [re ho', List.length_set]
 ·rfl
theorem ef.mono {σ σ' : aX} {t : Tk} (T : ef σ t) (hc : σ'.c = σ.c) (ho : σ'.obs.length = σ.obs.length) : ef σ' t :=
 ⟨fun h => by rw [ho]; exact T.obj h, by rw [hc]; exact T.s, by rw [hc]; exact T.i, T.w, T.c5, T.c0, T.ats⟩
abbrev Tk.new (c : fO) (who : Int) (x : Cl) : Tk := ⟨who, x, (x.flow.tmod c.sh + c.sh).tmod c.sh, 0, 0, 0, false, 0, 0, 0, 0, 0⟩
theorem ef.new {σ : aX} (hc : cI σ.c = true) (who : Int) (x : Cl) : ef σ (Tk.new σ.c who x) := by
 have := bT.1 hc
 exact ⟨fun h => by simp at h, rfl, fun _ _ => by simp; omega, by simp, fun h => by simp at h, fun h => by simp at h, .inl rfl⟩
theorem Mx (σ : aX) (t : Tk) : ((m9 σ t).obs.map fun q => q.1) = σ.obs.map fun q => q.1 := by
 unfold m9
 apply List.ext_getElem?
 intro j
 simp only [List.getElem?_map, List.getElem?_modify]
 cases σ.obs[j]? with
 | none => rfl
 | some q =>
  show some (if t.obj = j then _ else q).1 = some q.1
  split <;> rfl
structure Kept (σ : aX) (t : Tk) (r : aX × Tk × Bool) (k : Nat) : Prop where
 si : SI r.1 (k + 3)
 c : r.1.c = σ.c
 obs : r.1.obs.length = σ.obs.length
 hd : (r.1.obs.map fun q => q.1) = σ.obs.map fun q => q.1
 pts : r.1.pts.length ≤ σ.pts.length + 1
 who : r.2.1.who = t.who
 x : r.2.1.x = t.x
 ok : r.2.2 = false → ef r.1 r.2.1
theorem Bs {σ : aX} {t : Tk} {k : Nat} (h : SI σ k) (T : ef σ t) (hat : t.at' = 0 ∨ t.at' = 2) : Kept σ t (ee σ t) k := by
 refine ⟨(h.acc _ _ _).mono (by omega), rfl, rfl, rfl, Nat.le_succ _, rfl, rfl, fun _ => ?_⟩
 have hi := T.i (by omega) (by omega)
 refine ⟨fun hh => ?_, T.s, fun h1 h2 => ?_, T.w, fun hh => ?_, fun hh => ?_, ?_⟩
 ·show (aI σ t).obj < σ.obs.length
  have hf : (aI σ t).found = true := by
   cases hf : (aI σ t).found with
   | true => rfl
   | false =>
    have hh' : 6 ≤ (if (aI σ t).found = true then 6 else if dp σ (aI σ t) = true then 3 else 2 : Nat) ∨ (if (aI σ t).found = true then 6 else if dp σ (aI σ t) = true then 3 else 2 : Nat) = 5 ∧ _ := hh
    rw [hf, if_neg (by simp)] at hh'
    rcases hh' with q | q
    ·split at q <;> omega
    ·have q := q.1
     split at q <;> omega
  have hf' : yg (σ.μ.V (10, t.s, (t.i : Int))) t.x.flow = true := hf
  have e : (aI σ t).obj = σ.μ.V (10, t.s, (t.i : Int)) % 4294967296 := if_pos hf'
  rw [e]
  have hv := (of_decide_eq_true hf').1
  exact h.slot _ _ hv
 ·have h1 : (if (aI σ t).found = true then 6 else if dp σ (aI σ t) = true then 3 else 2 : Nat) < 5 := h1
  have h2 : (if (aI σ t).found = true then 6 else if dp σ (aI σ t) = true then 3 else 2 : Nat) ≠ 3 := h2
  have hl : ¬ dp σ (aI σ t) = true := by
   intro hl
   rw [if_pos hl] at h1 h2
   split at h1
   ·omega
   ·rename_i hn
    rw [if_neg hn] at h2
    exact h2 rfl
  have : ¬ (σ.c.sl ≤ ((t.i + 1 : Nat) : Int)) := fun q => hl (decide_eq_true q)
  show ((t.i + 1 : Nat) : Int) < σ.c.sl
  omega
 ·have hh : (if (aI σ t).found = true then 6 else if dp σ (aI σ t) = true then 3 else 2 : Nat) = 5 := hh
  split at hh
  ·omega
  ·split at hh <;> omega
 ·have hh : (if (aI σ t).found = true then 6 else if dp σ (aI σ t) = true then 3 else 2 : Nat) = 10 ∨ (if (aI σ t).found = true then 6 else if dp σ (aI σ t) = true then 3 else 2 : Nat) = 11 ∨ (if (aI σ t).found = true then 6 else if dp σ (aI σ t) = true then 3 else 2 : Nat) = 14 ∨ 21 ≤ (if (aI σ t).found = true then 6 else if dp σ (aI σ t) = true then 3 else 2 : Nat) := hh
  split at hh
  ·omega
  ·split at hh <;> omega
 ·show (if (aI σ t).found = true then 6 else if dp σ (aI σ t) = true then 3 else 2 : Nat) = 0 ∨ _
  simp only [ee]
  split
  ·simp
  ·split <;> simp
theorem pw {σ : aX} {t : Tk} {k : Nat} (now : Int) (h : SI σ k) (T : ef σ t) : Kept σ t (ah σ t now) k := by
 rcases T.ats with hat | hat | hat | hat | hat | hat | hat | hat | hat | hat | hat | hat | hat | hat | hat | hat | hat | hat | hat | hat | hat | hat | hat | hat
 ·-- 0
  cases hx : cG t.x with
  | some e =>
   have hs : ah σ t now = (σ.note now t.who e, { t with code := e }, true) := by simp only [ah, hat, hx]
   rw [hs]
   exact ⟨(h.note _ _ _).mono (by omega), rfl, rfl, rfl, (by simp [aX.note]), rfl, rfl, fun h => by simp at h⟩
  | none =>
   have hs : ah σ t now = ee σ t := by simp only [ah, hat, hx, ee]
   rw [hs]
   exact Bs h T (.inl hat)
 ·-- 2
  have hs : ah σ t now = ee σ t := by simp only [ah, hat, ee]
  rw [hs]
  exact Bs h T (.inr hat)
 ·-- 3
  by_cases hw : σ.μ.V (8, t.s, 0) = 0
  ·have hs : ah σ t now = (σ.mem (σ.μ.swp t.who (8, t.s, 0) 0 1), { t with at' := 4, i := 0 }, false) := by simp only [ah, hat]; rw [if_pos hw]
   rw [hs]
   exact ⟨(h.swp _ _ _ _ (by omega) (by simp) (by simp)).mono (by omega), rfl, rfl, rfl, Nat.le_succ _, rfl, rfl, fun _ => ⟨fun _ => (by rename_i hh; simp at hh), T.s, (fun _ _ => by have := bT.1 h.c; show ((0 : Nat) : Int) < σ.c.sl; omega), T.w, (fun h => by simp at h), (fun h => by simp at h), (by simp)⟩⟩
  ·have hs : ah σ t now = (σ.mem (σ.μ.swp t.who (8, t.s, 0) 0 1), t, false) := by simp only [ah, hat]; rw [if_neg hw]
   rw [hs]
   exact ⟨(h.swp _ _ _ _ (by omega) (by simp) (by simp)).mono (by omega), rfl, rfl, rfl, Nat.le_succ _, rfl, rfl, fun _ => T.mono rfl rfl⟩
 ·-- 4
  have hi := T.i (by omega) (by omega)
  cases hf : (aI σ t).found with
  | true =>
   have hs : ah σ t now = (cj σ t, { aI σ t with at' := 5 }, false) := by simp only [ah, hat, hf]; rfl
   rw [hs]
   have hf' : yg (σ.μ.V (10, t.s, (t.i : Int))) t.x.flow = true := hf
   have e : (aI σ t).obj = σ.μ.V (10, t.s, (t.i : Int)) % 4294967296 := if_pos hf'
   have ho : (aI σ t).obj < σ.obs.length := by rw [e]; exact h.slot _ _ (of_decide_eq_true hf').1
   exact ⟨(h.acc _ _ _).mono (by omega), rfl, rfl, rfl, Nat.le_succ _, rfl, rfl, fun _ => ⟨fun _ => ho, T.s, (fun h1 h2 => by simp at h1), T.w, (fun _ h2 => by rw [show (aI σ t).found = false from h2] at hf; cases hf), (fun h => by simp at h), (by simp)⟩⟩
  | false =>
   cases hla : dp σ (aI σ t) with
   | true =>
    have hs : ah σ t now = ((cj σ t).note now t.who 5, { aI σ t with at' := 5, code := 5 }, false) := by simp only [ah, hat, hf, hla]; rfl
    rw [hs]
    exact ⟨((h.acc _ _ _).note _ _ _).mono (by omega), rfl, rfl, rfl, (by simp [aX.note]), rfl, rfl, fun _ => ⟨fun _ => (by rename_i hh; rw [show (aI σ t).found = false from hf] at hh; simp at hh), T.s, (fun h1 h2 => by simp at h1), T.w, (fun _ _ => rfl), (fun h => by simp at h), (by simp)⟩⟩
   | false =>
    have hs : ah σ t now = (cj σ t, aI σ t, false) := by simp only [ah, hat, hf, hla]; rfl
    rw [hs]
    have hl : ¬ (σ.c.sl ≤ ((t.i + 1 : Nat) : Int)) := fun q => by rw [show dp σ (aI σ t) = true from decide_eq_true q] at hla; cases hla
    have ea : (aI σ t).at' = 4 := hat
    exact ⟨(h.acc _ _ _).mono (by omega), rfl, rfl, rfl, Nat.le_succ _, rfl, rfl, fun _ => ⟨fun _ => (by rename_i hh; rw [ea] at hh; simp at hh), T.s, (fun _ _ => by show ((t.i + 1 : Nat) : Int) < σ.c.sl; omega), T.w, (fun h => by rw [ea] at h; simp at h), (fun h => by rw [ea] at h; simp at h), (by rw [ea]; simp)⟩⟩
 ·-- 5
  cases hf : t.found with
  | false =>
   have hs : ah σ t now = (σ.mem ((σ.μ.acc t.who 2 (8, t.s, 0)).put (8, t.s, 0) 0), { t with at' := 6 }, true) := by simp only [ah, hat, hf]; rfl
   rw [hs]
   exact ⟨((h.acc _ _ _).put _ _ (by omega) (by simp) (.inl (by simp))).mono (by omega), rfl, rfl, rfl, Nat.le_succ _, rfl, rfl, fun h => by simp at h⟩
  | true =>
   have hs : ah σ t now = (σ.mem ((σ.μ.acc t.who 2 (8, t.s, 0)).put (8, t.s, 0) 0), { t with at' := 6 }, false) := by simp only [ah, hat, hf]; rfl
   rw [hs]
   exact ⟨((h.acc _ _ _).put _ _ (by omega) (by simp) (.inl (by simp))).mono (by omega), rfl, rfl, rfl, Nat.le_succ _, rfl, rfl, fun _ => ⟨fun _ => T.obj (.inr ⟨hat, hf⟩), T.s, (fun h1 h2 => by simp at h1), T.w, (fun h => by simp at h), (fun h => by simp at h), (by simp)⟩⟩
 ·-- 6
  have hs : ah σ t now = (σ.mem (σ.μ.acc t.who 5 (13, (t.obj : Int), 0)), { t with at' := 7 }, false) := by simp only [ah, hat]
  rw [hs]
  exact ⟨(h.acc _ _ _).mono (by omega), rfl, rfl, rfl, Nat.le_succ _, rfl, rfl, fun _ => ⟨fun _ => T.obj (.inl (by omega)), T.s, (fun h1 h2 => by simp at h1), T.w, (fun h => by simp at h), (fun h => by simp at h), (by simp)⟩⟩
 ·-- 7
  by_cases hw : bi (σ.μ.V (11, (t.obj : Int), 0)) = 2
  ·have hs : ah σ t now = (i6 σ t, { t with w := σ.μ.V (11, (t.obj : Int), 0), at' := 3 }, false) := by simp only [ah, hat]; rw [if_pos hw]
   rw [hs]
   exact ⟨(h.acc _ _ _).mono (by omega), rfl, rfl, rfl, Nat.le_succ _, rfl, rfl, fun _ => ⟨fun _ => (by rename_i hh; simp at hh), T.s, (fun _ h2 => by simp at h2), h.V _, (fun h => by simp at h), (fun h => by simp at h), (by simp)⟩⟩
  ·have hs : ah σ t now = (i6 σ t, { t with w := σ.μ.V (11, (t.obj : Int), 0), at' := 8 }, false) := by simp only [ah, hat]; rw [if_neg hw]
   rw [hs]
   exact ⟨(h.acc _ _ _).mono (by omega), rfl, rfl, rfl, Nat.le_succ _, rfl, rfl, fun _ => ⟨fun _ => T.obj (.inl (by omega)), T.s, (fun h1 h2 => by simp at h1), h.V _, (fun h => by simp at h), (fun h => by simp at h), (by simp)⟩⟩
 ·-- 8
  cases hf : gT σ t with
  | true =>
   have hs : ah σ t now = (fw σ t, { t with at' := 15 }, false) := by simp only [ah, hat, hf]; rfl
   rw [hs]
   exact ⟨(h.acc _ _ _).mono (by omega), rfl, rfl, rfl, Nat.le_succ _, rfl, rfl, fun _ => ⟨fun _ => T.obj (.inl (by omega)), T.s, (fun h1 h2 => by simp at h1), T.w, (fun h => by simp at h), (fun h => by simp at h), (by simp)⟩⟩
  | false =>
   by_cases hw : bi t.w = 1
   ·have hs : ah σ t now = (fw σ t, { t with at' := 9 }, false) := by simp only [ah, hat, hf]; rw [if_pos hw]; rfl
    rw [hs]
    exact ⟨(h.acc _ _ _).mono (by omega), rfl, rfl, rfl, Nat.le_succ _, rfl, rfl, fun _ => ⟨fun _ => T.obj (.inl (by omega)), T.s, (fun h1 h2 => by simp at h1), T.w, (fun h => by simp at h), (fun h => by simp at h), (by simp)⟩⟩
   ·have hs : ah σ t now = (fw σ t, { t with at' := 12 }, false) := by simp only [ah, hat, hf]; rw [if_neg hw]; rfl
    rw [hs]
    exact ⟨(h.acc _ _ _).mono (by omega), rfl, rfl, rfl, Nat.le_succ _, rfl, rfl, fun _ => ⟨fun _ => T.obj (.inl (by omega)), T.s, (fun h1 h2 => by simp at h1), T.w, (fun h => by simp at h), (fun h => by simp at h), (by simp)⟩⟩
 ·-- 9
  cases hw : f7 σ.μ t.obj t.w (a9 t.w 0) with
  | true =>
   have hs : ah σ t now = ((σ.mem (σ.μ.turn t.who t.obj t.w (a9 t.w 0))).note now t.who 0, { t with at' := 10, code := 0 }, false) := by simp only [ah, hat, hw]; rfl
   rw [hs]
   exact ⟨((h.turn _ _ _ _).note _ _ _).mono (by omega), rfl, rfl, rfl, (by simp [aX.note]), rfl, rfl, fun _ => ⟨fun _ => T.obj (.inl (by omega)), T.s, (fun h1 h2 => by simp at h1), T.w, (fun h => by simp at h), (fun _ => rfl), (by simp)⟩⟩
  | false =>
   have hs : ah σ t now = (σ.mem (σ.μ.turn t.who t.obj t.w (a9 t.w 0)), { t with at' := 7 }, false) := by simp only [ah, hat, hw]; rfl
   rw [hs]
   exact ⟨(h.turn _ _ _ _).mono (by omega), rfl, rfl, rfl, Nat.le_succ _, rfl, rfl, fun _ => ⟨fun _ => T.obj (.inl (by omega)), T.s, (fun h1 h2 => by simp at h1), T.w, (fun h => by simp at h), (fun h => by simp at h), (by simp)⟩⟩
 ·-- 10
  have hs : ah σ t now = (m9 σ t, { t with at' := 11 }, false) := by simp only [ah, hat]
  rw [hs]
  exact ⟨(h.lay t).mono (by omega), rfl, iM σ t, Mx σ t, Nat.le_succ _, rfl, rfl, fun _ => (by have := iM σ t; exact ⟨fun _ => (by rw [this]; exact T.obj (.inl (by omega))), T.s, (fun h1 h2 => by simp at h1), T.w, (fun h => by simp at h), (fun _ => T.c0 (by omega)), (by simp)⟩)⟩
 ·-- 11
  have hs : ah σ t now = (oA σ t, t, true) := by simp only [ah, hat]
  rw [hs]
  exact ⟨((h.acc _ _ _).put _ _ (by have := dH t.w; omega) (by simp) (.inl (by simp))).mono (by omega), rfl, rfl, rfl, Nat.le_succ _, rfl, rfl, fun h => by simp at h⟩
 ·-- 12
  have hs : ah σ t now = (σ.mem (σ.μ.cnt t.who (3, 0, 0) 4294967296), { t with at' := 13 }, false) := by simp only [ah, hat]
  rw [hs]
  exact ⟨(h.cnt _ _ _ (by simp) (by simp)).mono (by omega), rfl, rfl, rfl, Nat.le_succ _, rfl, rfl, fun _ => ⟨fun _ => T.obj (.inl (by omega)), T.s, (fun h1 h2 => by simp at h1), T.w, (fun h => by simp at h), (fun h => by simp at h), (by simp)⟩⟩
 ·-- 13
  cases hw : f7 σ.μ t.obj t.w (a9 t.w 0) with
  | true =>
   have hs : ah σ t now = ((σ.mem (σ.μ.turn t.who t.obj t.w (a9 t.w 0))).note now t.who 0, { t with at' := 14, code := 0 }, false) := by simp only [ah, hat, hw]; rfl
   rw [hs]
   exact ⟨((h.turn _ _ _ _).note _ _ _).mono (by omega), rfl, rfl, rfl, (by simp [aX.note]), rfl, rfl, fun _ => ⟨fun _ => T.obj (.inl (by omega)), T.s, (fun h1 h2 => by simp at h1), T.w, (fun h => by simp at h), (fun _ => rfl), (by simp)⟩⟩
  | false =>
   have hs : ah σ t now = (σ.mem (σ.μ.turn t.who t.obj t.w (a9 t.w 0)), { t with at' := 20 }, false) := by simp only [ah, hat, hw]; rfl
   rw [hs]
   exact ⟨(h.turn _ _ _ _).mono (by omega), rfl, rfl, rfl, Nat.le_succ _, rfl, rfl, fun _ => ⟨fun _ => T.obj (.inl (by omega)), T.s, (fun h1 h2 => by simp at h1), T.w, (fun h => by simp at h), (fun h => by simp at h), (by simp)⟩⟩
 ·-- 14
  have hs : ah σ t now = (m9 σ t, { t with at' := 21 }, false) := by simp only [ah, hat]
  rw [hs]
  exact ⟨(h.lay t).mono (by omega), rfl, iM σ t, Mx σ t, Nat.le_succ _, rfl, rfl, fun _ => (by have := iM σ t; exact ⟨fun _ => (by rw [this]; exact T.obj (.inl (by omega))), T.s, (fun h1 h2 => by simp at h1), T.w, (fun h => by simp at h), (fun _ => T.c0 (by omega)), (by simp)⟩)⟩
 ·-- 15
  by_cases hw : σ.μ.V (2, 0, 0) % 2 = 1
  ·have hs : ah σ t now = (lQ σ t, { t with q := σ.μ.V (2, 0, 0), at' := 7 }, false) := by simp only [ah, hat]; rw [if_pos hw]
   rw [hs]
   exact ⟨(h.acc _ _ _).mono (by omega), rfl, rfl, rfl, Nat.le_succ _, rfl, rfl, fun _ => ⟨fun _ => T.obj (.inl (by omega)), T.s, (fun h1 h2 => by simp at h1), T.w, (fun h => by simp at h), (fun h => by simp at h), (by simp)⟩⟩
  ·have hs : ah σ t now = (lQ σ t, { t with q := σ.μ.V (2, 0, 0), at' := 16 }, false) := by simp only [ah, hat]; rw [if_neg hw]
   rw [hs]
   exact ⟨(h.acc _ _ _).mono (by omega), rfl, rfl, rfl, Nat.le_succ _, rfl, rfl, fun _ => ⟨fun _ => T.obj (.inl (by omega)), T.s, (fun h1 h2 => by simp at h1), T.w, (fun h => by simp at h), (fun h => by simp at h), (by simp)⟩⟩
 ·-- 16
  by_cases hw : bi (σ.μ.V (11, (t.obj : Int), 0)) = 2
  ·have hs : ah σ t now = (i6 σ t, { t with w := σ.μ.V (11, (t.obj : Int), 0), at' := 3 }, false) := by simp only [ah, hat]; rw [if_pos hw]
   rw [hs]
   exact ⟨(h.acc _ _ _).mono (by omega), rfl, rfl, rfl, Nat.le_succ _, rfl, rfl, fun _ => ⟨fun _ => (by rename_i hh; simp at hh), T.s, (fun _ h2 => by simp at h2), h.V _, (fun h => by simp at h), (fun h => by simp at h), (by simp)⟩⟩
  ·have hs : ah σ t now = (i6 σ t, { t with w := σ.μ.V (11, (t.obj : Int), 0), at' := 17 }, false) := by simp only [ah, hat]; rw [if_neg hw]
   rw [hs]
   exact ⟨(h.acc _ _ _).mono (by omega), rfl, rfl, rfl, Nat.le_succ _, rfl, rfl, fun _ => ⟨fun _ => T.obj (.inl (by omega)), T.s, (fun h1 h2 => by simp at h1), h.V _, (fun h => by simp at h), (fun h => by simp at h), (by simp)⟩⟩
 ·-- 17
  cases hf : gT σ t with
  | true =>
   have hs : ah σ t now = (fw σ t, { t with at' := 18, mark := now }, false) := by simp only [ah, hat, hf]; rfl
   rw [hs]
   exact ⟨(h.acc _ _ _).mono (by omega), rfl, rfl, rfl, Nat.le_succ _, rfl, rfl, fun _ => ⟨fun _ => T.obj (.inl (by omega)), T.s, (fun h1 h2 => by simp at h1), T.w, (fun h => by simp at h), (fun h => by simp at h), (by simp)⟩⟩
  | false =>
   have hs : ah σ t now = (fw σ t, { t with at' := 7 }, false) := by simp only [ah, hat, hf]; rfl
   rw [hs]
   exact ⟨(h.acc _ _ _).mono (by omega), rfl, rfl, rfl, Nat.le_succ _, rfl, rfl, fun _ => ⟨fun _ => T.obj (.inl (by omega)), T.s, (fun h1 h2 => by simp at h1), T.w, (fun h => by simp at h), (fun h => by simp at h), (by simp)⟩⟩
 ·-- 18
  by_cases hw : σ.μ.V (2, 0, 0) = t.q
  ·have hs : ah σ t now = ((lQ σ t).note t.mark t.who 9, { t with code := 9 }, true) := by simp only [ah, hat]; rw [if_pos hw]
   rw [hs]
   exact ⟨((h.acc _ _ _).note _ _ _).mono (by omega), rfl, rfl, rfl, (by simp [aX.note]), rfl, rfl, fun h => by simp at h⟩
  ·have hs : ah σ t now = (lQ σ t, { t with at' := 7 }, false) := by simp only [ah, hat]; rw [if_neg hw]
   rw [hs]
   exact ⟨(h.acc _ _ _).mono (by omega), rfl, rfl, rfl, Nat.le_succ _, rfl, rfl, fun _ => ⟨fun _ => T.obj (.inl (by omega)), T.s, (fun h1 h2 => by simp at h1), T.w, (fun h => by simp at h), (fun h => by simp at h), (by simp)⟩⟩
 ·-- 20
  have hs : ah σ t now = (σ.mem (σ.μ.cnt t.who (3, 0, 0) 1), { t with at' := 7 }, false) := by simp only [ah, hat]
  rw [hs]
  exact ⟨(h.cnt _ _ _ (by simp) (by simp)).mono (by omega), rfl, rfl, rfl, Nat.le_succ _, rfl, rfl, fun _ => ⟨fun _ => T.obj (.inl (by omega)), T.s, (fun h1 h2 => by simp at h1), T.w, (fun h => by simp at h), (fun h => by simp at h), (by simp)⟩⟩
 ·-- 21
  have hs : ah σ t now = (oA σ t, { t with at' := 22 }, false) := by simp only [ah, hat]
  rw [hs]
  exact ⟨((h.acc _ _ _).put _ _ (by have := dH t.w; omega) (by simp) (.inl (by simp))).mono (by omega), rfl, rfl, rfl, Nat.le_succ _, rfl, rfl, fun _ => ⟨fun _ => T.obj (.inl (by omega)), T.s, (fun h1 h2 => by simp at h1), T.w, (fun h => by simp at h), (fun _ => T.c0 (by omega)), (by simp)⟩⟩
 ·-- 22
  have hs : ah σ t now = (σ.mem (σ.μ.acc t.who 1 (9, t.s, 0)), { t with top := σ.μ.V (9, t.s, 0), at' := 23 }, false) := by simp only [ah, hat]
  rw [hs]
  exact ⟨(h.acc _ _ _).mono (by omega), rfl, rfl, rfl, Nat.le_succ _, rfl, rfl, fun _ => ⟨fun _ => T.obj (.inl (by omega)), T.s, (fun h1 h2 => by simp at h1), T.w, (fun h => by simp at h), (fun _ => T.c0 (by omega)), (by simp)⟩⟩
 ·-- 23
  have hs : ah σ t now = ({ σ with μ := σ.μ.acc t.who 6 (14, (t.obj : Int), 0), nx := fun k => if k = (t.obj : Int) then some t.top else σ.nx k }, { t with at' := 24 }, false) := by simp only [ah, hat]
  rw [hs]
  exact ⟨(h.link _ _ _).mono (by omega), rfl, rfl, rfl, Nat.le_succ _, rfl, rfl, fun _ => ⟨fun _ => T.obj (.inl (by omega)), T.s, (fun h1 h2 => by simp at h1), T.w, (fun h => by simp at h), (fun _ => T.c0 (by omega)), (by simp)⟩⟩
 ·-- 24
  by_cases hw : σ.μ.V (9, t.s, 0) = t.top
  ·have hs : ah σ t now = (σ.mem (σ.μ.swp t.who (9, t.s, 0) t.top (t.obj + 1)), { t with at' := 25 }, false) := by simp only [ah, hat]; rw [if_pos hw]
   rw [hs]
   exact ⟨(h.swp _ _ _ _ (by have := T.obj (.inl (by omega)); have := h.obs; omega) (by simp) (by simp)).mono (by omega), rfl, rfl, rfl, Nat.le_succ _, rfl, rfl, fun _ => ⟨fun _ => T.obj (.inl (by omega)), T.s, (fun h1 h2 => by simp at h1), T.w, (fun h => by simp at h), (fun _ => T.c0 (by omega)), (by simp)⟩⟩
  ·have hs : ah σ t now = (σ.mem (σ.μ.swp t.who (9, t.s, 0) t.top (t.obj + 1)), { t with at' := 22 }, false) := by simp only [ah, hat]; rw [if_neg hw]
   rw [hs]
   exact ⟨(h.swp _ _ _ _ (by have := T.obj (.inl (by omega)); have := h.obs; omega) (by simp) (by simp)).mono (by omega), rfl, rfl, rfl, Nat.le_succ _, rfl, rfl, fun _ => ⟨fun _ => T.obj (.inl (by omega)), T.s, (fun h1 h2 => by simp at h1), T.w, (fun h => by simp at h), (fun _ => T.c0 (by omega)), (by simp)⟩⟩
 ·-- 25
  have hs : ah σ t now = (σ.mem (σ.μ.cnt t.who (3, 0, 0) 1), t, true) := by simp only [ah, hat]
  rw [hs]
  exact ⟨(h.cnt _ _ _ (by simp) (by simp)).mono (by omega), rfl, rfl, rfl, Nat.le_succ _, rfl, rfl, fun h => by simp at h⟩
theorem HT {α : Type} (F : α → SP) (R : SP) : (ex fun x => F x * R) = ex F * R := by
 apply SP.ext
 intro h
 constructor
 ·rintro ⟨x, a, b, hd, rfl, ha, hb⟩
  exact ⟨a, b, hd, rfl, ⟨x, ha⟩, hb⟩
 ·rintro ⟨a, b, hd, rfl, ⟨x, ha⟩, hb⟩
  exact ⟨x, a, b, hd, rfl, ha, hb⟩
def eT (e p : Nat) (rp : List Nat) (t : Tk) : SP := ex fun v : Value => pu (DI rp t v) * eB e p (Pn e (vg t.at')) v t
def xT (x P : Nat) (t : Tk) : SP := ex fun k : Xk => pu (fm t k) * xB x P t k
theorem Aq (e p : Nat) (rp : List Nat) (σ : aX) (t : Tk) : eP e p rp σ t = eT e p rp t * bq p rp σ := by
 unfold eP eT
 rw [← HT]
 congr 1
 funext v
 rw [ap]
theorem abX (x P : Nat) (σ : aX) (t : Tk) : xP x P σ t = xT x P t * bv P σ := by
 unfold xP xT
 rw [← HT]
 congr 1
 funext v
 rw [ap]
def xU (x P : Nat) (r : aX × Tk × Bool) : SP := ex fun k : Xk => pu (if r.2.2 = true then k.code = r.2.1.code else fm r.2.1 k) * xB x P r.2.1 k
theorem abY (x P : Nat) (r : aX × Tk × Bool) : xQ x P r = xU x P r * bv P r.1 := by
 unfold xQ xU
 rw [← HT]
 congr 1
 funext v
 rw [ap]
def eU (e p : Nat) (rp : List Nat) (r : aX × Tk × Bool) : SP := if r.2.2 = true then emp else eT e p rp r.2.1
theorem K7 (e p : Nat) (rp : List Nat) (r : aX × Tk × Bool) : eQ e p rp r = eU e p rp r * bq p rp r.1 := by
 unfold eQ eU
 split
 ·rw [oU]
 ·rw [Aq]
theorem abZ {x P : Nat} {r : aX × Tk × Bool} (h : r.2.2 = false) : xU x P r = xT x P r.2.1 := by
 unfold xU xT
 simp only [h]
 rfl
theorem RN {e p : Nat} {rp : List Nat} {r : aX × Tk × Bool} (h : r.2.2 = false) : eU e p rp r = eT e p rp r.2.1 := by
 unfold eU
 rw [if_neg (by rw [h]; simp)]
section
variable (p x : Nat) (rp : List Nat) (σ : aX)
theorem EM (hc : cI σ.c = true) (who : Int) (c : Cl) : Sp pf [vp p, vi who, .agg (Cl.cells c).toArray] (bq p rp σ) (fun e : Nat => vp e) (fun e => eT e p rp (Tk.new σ.c who c) * bq p rp σ) := by
 have hr := bT.1 hc
 refine av fun R H h => ?_
 refine aw (fun r => HP _ _ _ H) ?_
 refine aH h fun b H1 h1 => ?_
 refine aM h1 ?_
 obtain ⟨g, hrp, hg, k1⟩ := eD (p := p) (rp := rp) (σ := σ) (R := blk b (.cells false (Cl.cells c)) * R) (H := H1) h1.to
 refine am k1 ac rfl ?_
 refine am k1 ak rfl ?_
 refine af k1 (Rg (p := p) (g := g) (σ := σ) (GQ g.tb g.m σ.c.sh.toNat σ.c.sl.toNat (by omega) c.flow)) fun _ H2 k2 => ?_
 refine bn k2 k1 rfl ?_
 have es : vi ((c.flow.tmod (σ.c.sh.toNat : Int) + (σ.c.sh.toNat : Int)).tmod (σ.c.sh.toNat : Int)) = vi (Tk.new σ.c who c).s := by rw [show ((σ.c.sh.toNat : Nat) : Int) = σ.c.sh from by omega]
 rw [es]
 have h2 := bu (p := p) (rp := rp) (σ := σ) (R := blk b (.cells false (Cl.cells c)) * R) (H := H2) g hrp hg k2.to
 refine dZ ?_
 refine aH h2 fun e H3 h3 => ?_
 refine aL h3 ac rfl rfl fun H4 h4 => ?_
 refine aq ⟨e, rfl, ?_⟩
 rw [← Aq]
 exact EJ (v := .pointer none) (n := jQ) (fN (by simp)) rfl h4.to
theorem Gk (who : Int) (c : Cl) (s : Int) : Sp lg [vp x, vi who, .agg (Cl.cells c).toArray] emp (fun b : Nat => vp b) (fun b => xT b x (Tk.new σ.c who c)) := by
 refine av fun R H h => ?_
 refine aw (fun r => yP _ _ _ H) ?_
 refine aH h fun b H1 h1 => ?_
 refine aM h1 ?_
 refine dZ ?_
 refine aH h1 fun xb H2 h2 => ?_
 refine aq ⟨xb, rfl, ?_⟩
 refine ae.ex.2 ⟨⟨0, 0, -1, false, 0, 0, 0, 0, 0, 0, 0⟩, ?_⟩
 rw [ap, ae.pu]
 exact ⟨by simp [fm], h2.to⟩
theorem Jk (who place : Int) (hN : σ.μ.N < 1000000) : Sp ig [.agg [vp p, vp x].toArray, vi who, vi place] (bq p rp σ * bv x σ) (fun _ : Unit => .tuple #[]) (fun _ => bq p rp (σ.begin who place) * bv x (σ.begin who place)) := by
 refine av fun R H h => ?_
 refine aw (fun r => sc _ _ _ H) ?_
 refine aH (l := [vp p, vp x]) h fun b H1 h1 => ?_
 refine am h1 ak rfl ?_
 refine af h1 (Rt p rp σ who place) fun _ H2 h2 => ?_
 refine am h2 ak rfl ?_
 refine af h2 (aaU x σ who place (by omega)) fun _ H3 h3 => ?_
 exact aq ⟨(), rfl, h3.to⟩
theorem Wd (xb : Nat) (r : aX × Tk × Bool) : Sp qu [vp xb, vb r.2.2] (xU xb x r) (fun _ : Unit => .agg (gK (if r.2.2 = true then r.2.1.code else 0)).toArray) (fun _ => xU xb x r) := by
 refine av fun R H h => ?_
 obtain ⟨k, h1⟩ := ae.ex.1 h
 rw [ap, ae.pu] at h1
 obtain ⟨hk, h1⟩ := h1
 refine aw (fun r => FO _ _ H) ?_
 refine aO h1 fun b H2 h2 => ?_
 have back : ∀ {H' : AH}, ae (xB xb x r.2.1 k * R) H' → ae (xU xb x r * R) H' := fun h => ae.ex.2 ⟨k, by rw [ap]; exact ae.pu.2 ⟨hk, h⟩⟩
 cases hd : r.2.2
 ·with_reducible repeat refine gg ?_
  refine dZ ?_
  refine bZ h2 rfl rfl fun H3 h3 => ?_
  refine aM h3 ?_
  exact aq ⟨(), rfl, back h3.to⟩
 ·with_reducible repeat refine gg ?_
  rw [hd, if_pos rfl] at hk
  refine a7 h2 ac ?_
  rw [hk]
  refine bZ h2 rfl rfl fun H3 h3 => ?_
  refine aM h3 ?_
  exact aq ⟨(), rfl, back h3.to⟩
end
theorem ZV (d : Bool) : aj .bool .neq (vb d) (vb d) = some (vb false) := by cases d <;> rfl
theorem aaQ {p x pb : Nat} {rp : List Nat} {σ : aX} {P R : SP} {H : AH} {Q : Value → AH → Prop} {k : Value × AH → Value → OV} (h : ae P H) [f : Fr P (blk pb (.cells false [vp p, vp x]) * (bq p rp σ * bv x σ)) R]
 (hk : ∀ H', ae (blk pb (.cells false [vp p, vp x]) * (bq p rp σ * bv x σ) * R) H' → wp (k (vi σ.μ.E.length, H') (vb false)) Q) :
 wp (fp (vb false) false [.f 0] (vp pb) H fun v29 =>
  fp (vb false) false [.n, .f 0] v29 H fun v30 =>
  (gE (vb false) false H (FF fy [v30] H)).bind fun r31 =>
  zU (vb false) false [.f 1] (vp pb) fun v32 =>
  (gB (vb false) false (ar v32 r31.2)).bind fun v33 =>
  bE (ar v32 H) (ar v32 r31.2) <|
  zU (vb false) false [.n, .f 5] v33 fun v34 =>
  (gB (vb false) false (ar v34 r31.2)).bind fun v35 =>
  bE (ar v34 H) (ar v34 r31.2) <|
  zU (vb false) false [.n, .f 2] v35 fun v36 =>
  (gB (vb false) false (ar v36 r31.2)).bind fun v37 =>
  bE (ar v36 H) (ar v36 r31.2) <|
  (wa (yv (vb false)) false (iN v37 some) (some undef)).bind fun v38 =>
  bE (XK v37) (XK v37) <|
  (gB (vb false) false (aj .other .neq r31.1 v38)).bind fun v39 =>
  (aS (vb false) (vb true) v39).bind (k r31)) Q := by
 have h0 := ae.fr (A := blk pb (.cells false [vp p, vp x]) * (bq p rp σ * bv x σ)) h
 obtain ⟨g, hrp, hg, k1⟩ := eD (p := p) (rp := rp) (σ := σ) (R := bv x σ * (blk pb (.cells false [vp p, vp x]) * R)) (H := H) h0.to
 obtain ⟨gx, hgx, l1⟩ := eE (p := x) (σ := σ) (R := aN p g σ * (blk pb (.cells false [vp p, vp x]) * R)) (H := H) k1.to
 obtain ⟨kv, vv, ev, Z, m1, back⟩ := PM (x := x) (g := gx) (σ := σ) (R := aN p g σ * (blk pb (.cells false [vp p, vp x]) * R)) (H := H) l1.to
 with_reducible repeat refine gg ?_
 refine am m1 ak rfl ?_
 with_reducible repeat refine gg ?_
 refine am m1 ac rfl ?_
 have bl : Sp fy [vp g.m] (aN p g σ) (fun _ : Unit => vi σ.μ.E.length) (fun _ => aN p g σ) := KJ (p := p) (g := g) (σ := σ) (XQ g.m σ.μ)
 refine wq ?_
 refine af m1 bl fun _ H2 m2 => ?_
 have gadff : ∀ {o : List Stp} {y : Value} {kk : Value → OV}, wp (ad o y kk) Q → wp (zU (vb false) false o y kk) Q := fun {o y kk} q => by rw [CY]; exact q
 refine gadff ?_
 refine aJ ak ?_
 refine mA ?_
 refine aE m2 rfl ?_
 refine aD m1 m2 (by rfl) ?_
 refine gadff ?_
 refine aJ ac ?_
 refine mA ?_
 refine aE m2 rfl ?_
 refine aD m1 m2 (by rfl) ?_
 refine gadff ?_
 refine aJ ac ?_
 refine mA ?_
 refine aE m2 rfl ?_
 refine aD m1 m2 (by rfl) ?_
 refine zA ?_
 refine px (s := ev) (l := σ.μ.E) m2 ?_
 refine aT ?_
 refine mA ?_
 refine aa (so rfl) ?_
 refine aa (Dh _ _) ?_
 refine hk H2 ?_
 have m3 := back (R' := aN p g σ * (blk pb (.cells false [vp p, vp x]) * R)) (H' := H2) m2.to
 have m4 := di (p := x) (σ := σ) (R := aN p g σ * (blk pb (.cells false [vp p, vp x]) * R)) gx hgx m3
 have m5 := bu (p := p) (rp := rp) (σ := σ) (R := bv x σ * (blk pb (.cells false [vp p, vp x]) * R)) (H := H2) g hrp hg m4.to
 exact m5.to
def pZ : Nat → aX → Tk → Int → Option (aX × Tk × Int)
 | 0, _, _, _ => none
 | n + 1, σ, t, now => if (ah σ t now).2.2 = true then some ((ah σ t now).1, (ah σ t now).2.1, now + 1) else pZ n (ah σ t now).1 (ah σ t now).2.1 (now + 1)
theorem wF : ∀ (n : Nat) (σ : aX) (t : Tk) (now : Int) (k : Nat) (res : aX × Tk × Int), SI σ k → ef σ t → pZ n σ t now = some res → SI res.1 (k + 3 * n) ∧ res.1.c = σ.c ∧ now < res.2.2 ∧ res.2.2 ≤ now + n := by
 intro n
 induction n with
 | zero => intro σ t now k res _ _ h; cases h
 | succ n ih =>
  intro σ t now k res S T h
  have K := pw now S T
  unfold pZ at h
  by_cases hd : (ah σ t now).2.2 = true
  ·rw [if_pos hd] at h
   obtain rfl := Option.some.inj h
   exact ⟨K.si.mono (by omega), K.c, by show now < now + 1; omega, by show now + 1 ≤ _; omega⟩
  ·rw [if_neg hd] at h
   obtain ⟨h1, h2, h3, h4⟩ := ih _ _ _ _ _ K.si (K.ok (by simpa using hd)) h
   exact ⟨h1.mono (by omega), h2.trans K.c, by omega, by omega⟩
section
variable (p x : Nat) (rp : List Nat)
theorem Hl (now most : Int) (pb rb e xb : Nat) (x13 x14 : Value) (res : aX × Tk × Int) (hnow : 0 ≤ now ∧ now < 1000000) (hm : most < 1000) {R : SP} :
 ∀ (fuel k K : Nat) (σ : aX) (t : Tk) (H : AH), (k : Int) + fuel = most → pZ fuel σ t (now + k) = some res → SI σ K → ef σ t → K + 3 * fuel < 300000 →
  ae (blk pb (.cells false [vp p, vp x]) * (blk rb (.cells false [vi 0, .slice none 0 0, vi 0, vw 0]) * (eT e p rp t * (bq p rp σ * (xT xb x t * (bv x σ * R)))))) H →
  wp (C3 (vi now) (vi most) (vp pb) (vp rb) x13 x14 (vp e) (vp xb) (vi (k : Int)) H) fun v' H' => v' = .tuple #[.agg (gK res.2.1.code).toArray, vi res.2.2, vb true] ∧ ae (bq p rp res.1 * bv x res.1 * R) H' := by
 intro fuel
 induction fuel with
 | zero => intro k K σ t H _ h; cases h
 | succ fuel ih =>
  intro k K σ t H hk ha S T hK h
  have K1 := pw (now + k) S T
  unfold pZ at ha
  refine ag (Pv ..) ?_
  refine aa (b4 (by omega)) ?_
  with_reducible repeat refine gg ?_
  refine ag (Pw ..) ?_
  refine aa (aB (by omega) (by omega)) ?_
  have h1 : ae (eP e p rp σ t * (blk pb (.cells false [vp p, vp x]) * (blk rb (.cells false [vi 0, .slice none 0 0, vi 0, vw 0]) * (xT xb x t * (bv x σ * R))))) H := by
   rw [Aq, ap]; exact h.to
  refine af h1 (rn e p rp σ t (now + k) (S.ok (by omega)) T) fun _ H2 h2 => ?_
  refine aa (v := .agg (gK (if (ah σ t (now + k)).2.2 = true then (ah σ t (now + k)).2.1.code else 0)).toArray) rfl ?_
  refine aa (v := vb (ah σ t (now + k)).2.2) rfl ?_
  refine aO h2 fun qb H3 h3 => ?_
  refine bZ h3 rfl rfl fun H4 h4 => ?_
  refine aa (aB (by omega) (by omega)) ?_
  have h5 : ae (xP xb x σ t * (eQ e p rp (ah σ t (now + k)) * (blk qb (.cells false (gK (if (ah σ t (now + k)).2.2 = true then (ah σ t (now + k)).2.1.code else 0))) * (blk pb (.cells false [vp p, vp x]) * (blk rb (.cells false [vi 0, .slice none 0 0, vi 0, vw 0]) * R))))) H4 := by
   rw [abX, ap]; exact h4.to
  refine af h5 (Q6 xb x σ t (now + k) (S.ok (by omega)) T) fun _ H6 h6 => ?_
  refine aa (ZV _) ?_
  rw [abY, K7] at h6
  refine mA ?_
  refine aM h6 ?_
  with_reducible repeat refine gg ?_
  refine af h6 (Wd x xb (ah σ t (now + k))) fun _ H7 h7 => ?_
  refine bn h7 h6 (by rfl) ?_
  refine wq ?_
  refine af h7 (yf _) fun _ H8 h8 => ?_
  refine mA ?_
  refine aa ug ?_
  rw [Bool.not_true]
  refine aa (Dh _ _) ?_
  refine aaQ (p := p) (x := x) (pb := pb) (rp := rp) (σ := (ah σ t (now + k)).1) h8 fun H9 h9 => ?_
  with_reducible repeat refine gg ?_
  cases hd : (ah σ t (now + k)).2.2
  ·rw [hd] at ha
   rw [if_neg (by simp)] at ha
   with_reducible repeat refine gg ?_
   refine ag (Px ..) ?_
   refine aa (aB (by omega) (by omega)) ?_
   rw [show ((k : Nat) : Int) + 1 = ((k + 1 : Nat) : Int) from by omega]
   rw [RN hd, abZ hd] at h9
   refine ih (k + 1) (K + 3) _ _ H9 (by omega) (by rw [← ha]; congr 1; omega) K1.si (K1.ok hd) (by omega) h9.to
  ·rw [hd, if_pos rfl] at ha
   obtain rfl := Option.some.inj ha
   rw [hd, if_pos rfl] at h9
   with_reducible repeat refine gg ?_
   refine aM h9 ?_
   refine aa (aB (by omega) (by omega)) ?_
   refine aa (aB (by omega) (by omega)) ?_
   refine bZ h9 rfl rfl fun HA hA => ?_
   refine aM hA ?_
   exact aq ⟨rfl, hA.to⟩
theorem yD (σ : aX) (K : Nat) (S : SI σ K) (who place : Int) (c : Cl) (now : Int) (fuel : Nat) (hnow : 0 ≤ now ∧ now < 1000000) (hm : fuel < 1000) (hK : K + 1 + 3 * fuel < 300000) (res : aX × Tk × Int)
 (ha : pZ fuel (σ.begin who place) (Tk.new σ.c who c) now = some res) :
 Sp UM [.agg [vp p, vp x].toArray, vi who, vi place, .agg (Cl.cells c).toArray, vi now, vi (fuel : Int)] (bq p rp σ * bv x σ) (fun _ : Unit => .tuple #[.agg (gK res.2.1.code).toArray, vi res.2.2, vb true]) (fun _ => bq p rp res.1 * bv x res.1) := by
 have S1 := S.begin who place
 have hb : cI (σ.begin who place).c = true := S.c
 refine av fun R H h => ?_
 refine aw (fun r => ZT _ _ _ _ _ _ H) ?_
 refine aH (l := [vp p, vp x]) h fun pb H1 h1 => ?_
 refine aH h1 fun cb H2 h2 => ?_
 refine aO h2 fun rb H3 h3 => ?_
 refine aM h3 ?_
 refine af h3 (Jk p x rp σ who place (by have := S.N; omega)) fun _ H4 h4 => ?_
 refine am h4 ak rfl ?_
 refine aM h4 ?_
 refine af h4 (EM p rp (σ.begin who place) hb who c) fun e H5 h5 => ?_
 refine aJ ak ?_
 refine aE h5 rfl ?_
 refine aD h4 h5 (by rfl) ?_
 refine aM h5 ?_
 refine bn h4 h5 rfl ?_
 refine af h5 (Gk x (σ.begin who place) who c 0) fun xb H6 h6 => ?_
 refine aa (v := vb false) rfl ?_
 with_reducible repeat refine gg ?_
 refine ag (Ps ..) ?_
 refine ag (Pu ..) ?_
 refine oI ?_ (Hl p x rp now fuel pb rb e xb (vi 0) (vb false) res hnow (by omega) (R := R) fuel 0 (K + 1) (σ.begin who place) (Tk.new σ.c who c) H6 (by omega) (by rw [← ha]; congr 1; omega) S1 (ef.new hb who c) (by omega) h6.to)
 rintro v' H' ⟨rfl, h7⟩
 exact ⟨(), rfl, h7⟩
end
def ui (V : bV → Nat) (k : Nat) : Prop := ∀ o : Int, cD (V (11, o, 0)) = true ∧ bi (V (11, o, 0)) ≠ 2 ∧ aP (V (11, o, 0)) ≤ k
theorem ui.mono {V : bV → Nat} {k k' : Nat} (h : ui V k) (hk : k ≤ k') : ui V k' := fun o => ⟨(h o).1, (h o).2.1, Nat.le_trans (h o).2.2 hk⟩
theorem ui.put {V : bV → Nat} {k : Nat} (h : ui V k) (l : bV) (v : Nat) (hl : l.1 ≠ 11) : ui (fun x => if x = l then v else V x) k := by
 intro o
 show cD (if ((11 : Int), o, (0 : Int)) = l then v else V (11, o, 0)) = true ∧ bi (if ((11 : Int), o, (0 : Int)) = l then v else V (11, o, 0)) ≠ 2 ∧ aP (if ((11 : Int), o, (0 : Int)) = l then v else V (11, o, 0)) ≤ k
 rw [if_neg (fun e => hl (by rw [← e]))]
 exact h o
theorem Nu {μ : Mu} {who : Int} {l : bV} {was now : Nat} (h : μ.V l = was) : (μ.swp who l was now).V = fun x => if x = l then now else μ.V x := by
 show (μ.swap who l was now).V = _
 unfold Mu.swap
 rw [if_pos h]
theorem i1 {V : bV → Nat} {l x : bV} {v y : Nat} (hv : V x = y) (h : x ≠ l) : (if x = l then v else V x) = y := (if_neg h).trans hv
structure JS (σ : aX) (k : Nat) : Prop where
 words : ui σ.μ.V k
 seq : σ.μ.V (2, 0, 0) = 0
 mx : ∀ s : Int, σ.μ.V (8, s, 0) = 0
structure JA (σ : aX) (t : Tk) (k : Nat) : Prop where
 words : ui σ.μ.V k
 seq : σ.μ.V (2, 0, 0) = 0
 mx : ∀ s : Int, s ≠ t.s → σ.μ.V (8, s, 0) = 0
 mutS : t.at' ≠ 4 → t.at' ≠ 5 → σ.μ.V (8, t.s, 0) = 0
 w : t.at' = 8 ∨ t.at' = 9 ∨ t.at' = 12 ∨ t.at' = 13 ∨ t.at' = 17 → t.w = σ.μ.V (11, (t.obj : Int), 0)
 full : t.at' = 15 ∨ t.at' = 16 ∨ t.at' = 17 → gr (σ.μ.V (11, (t.obj : Int), 0)) (σ.μ.V (12, (t.obj : Int), 0)) (az σ t.obj).length = true
 q : t.at' = 16 ∨ t.at' = 17 ∨ t.at' = 18 → t.q = 0
 top : t.at' = 23 ∨ t.at' = 24 → t.top = σ.μ.V (9, t.s, 0)
 ne : t.at' ≠ 20
theorem JA.new {σ : aX} {k : Nat} (h : JS σ k) (who : Int) (x : Cl) : JA σ (Tk.new σ.c who x) k :=
 ⟨h.words, h.seq, fun s _ => h.mx s, fun _ _ => h.mx _, (fun h => by simp at h), (fun h => by simp at h), (fun h => by simp at h), (fun h => by simp at h), (by simp)⟩
def zR (f : Value → Value → Bool) : List Value → List Value → Bool
 | [], [] => true
 | x :: xs, y :: ys => f x y && zR f xs ys
 | _, _ => false
def W6 : Nat → Value → Value → Bool
 | _, .bool a, .bool b => a == b
 | _, .int k a, .int k' b => decide (k = k') && decide (a = b)
 | _, .string a, .string b => decide (a = b)
 | _, .pointer a, .pointer b => decide (a = b)
 | _, .slice a n e, .slice a' n' e' => decide (a = a') && decide (n = n') && decide (e = e')
 | _, .map a, .map b => decide (a = b)
 | _, .nilFunc, .nilFunc => true
 | _, .nilIface, .nilIface => true
 | n + 1, .agg xs, .agg ys => zR (W6 n) xs.toList ys.toList
 | n + 1, .tuple xs, .tuple ys => zR (W6 n) xs.toList ys.toList
 | n + 1, .func f xs zs, .func f' ys ws => decide (f = f') && zR (W6 n) xs.toList ys.toList && zR (W6 n) zs.toList ws.toList
 | _, _, _ => false
theorem wZ {f : Value → Value → Bool} (hf : ∀ x y, f x y = true → x = y) : ∀ xs ys, zR f xs ys = true → xs = ys := by
 intro xs
 induction xs with
 | nil => intro ys h; cases ys with | nil => rfl | cons y ys => simp [zR] at h
 | cons x xs ih =>
  intro ys h
  cases ys with
  | nil => simp [zR] at h
  | cons y ys =>
   simp only [zR, Bool.and_eq_true] at h
   rw [hf _ _ h.1, ih _ h.2]
theorem At : ∀ (n : Nat) (x y : Value), W6 n x y = true → x = y := by
 intro n
 induction n with
 | zero =>
  intro x y h
  cases x <;> cases y <;> simp_all [W6]
 | succ n ih =>
  have hl := wZ ih
  intro x y h
  cases x <;> cases y <;> simp_all [W6]
  ·exact ⟨Array.toList_inj.1 (hl _ _ h.1.2), Array.toList_inj.1 (hl _ _ h.2)⟩
  ·exact Array.toList_inj.1 (hl _ _ h)
  ·exact Array.toList_inj.1 (hl _ _ h)
def eqO : Option Value → Option Value → Bool
 | none, none => true
 | some x, some y => W6 4 x y
 | _, _ => false
theorem Oe {x y : Option Value} (h : eqO x y = true) : x = y := by
 cases x <;> cases y <;> simp_all [eqO]
 exact At _ _ _ h
section
variable (g d : Nat)
def vB (b : Nat) : Nat := if b < g then b else b + d
def uK (a : Addr) : Addr := { a with block := vB g d a.block }
def bm : Value → Value
 | .pointer a => .pointer (a.map (uK g d))
 | .slice a n e => .slice (a.map (uK g d)) n e
 | .map r => .map (r.map (vB g d))
 | .func fn f c => .func fn (f.map bm) (c.map bm)
 | .iface t v => .iface t (bm v)
 | .agg cs => .agg (cs.map bm)
 | .tuple cs => .tuple (cs.map bm)
 | v => v
end
abbrev fc (g d : Nat) (l : List Value) : List Value := l.map (bm g d)
section
variable {g d : Nat}
theorem No {a b : Nat} (h : vB g d a = vB g d b) : a = b := by unfold vB at h; split at h <;> split at h <;> omega
@[simp] theorem Np (b : Bool) : (bm g d) (.bool b) = .bool b := by rw [bm] <;> simp
@[simp] theorem ub (k : IntKind) (n : Int) : (bm g d) (.int k n) = .int k n := by rw [bm] <;> simp
@[simp] theorem abN (k : FloatKind) (n : Nat) : (bm g d) (.float k n) = .float k n := by rw [bm] <;> simp
@[simp] theorem aaJ (k : FloatKind) (n m : Nat) : (bm g d) (.complex k n m) = .complex k n m := by rw [bm] <;> simp
@[simp] theorem Bu (b : ByteArray) : (bm g d) (.string b) = .string b := by rw [bm] <;> simp
@[simp] theorem ab7 (r : Option Nat) : (bm g d) (.chan r) = .chan r := by rw [bm] <;> simp
@[simp] theorem aaK : (bm g d) .nilFunc = .nilFunc := by rw [bm] <;> simp
@[simp] theorem Y6 : (bm g d) .nilIface = .nilIface := by rw [bm] <;> simp
@[simp] theorem Ko (a : Option Addr) : (bm g d) (.pointer a) = .pointer (a.map (uK g d)) := by rw [bm]
@[simp] theorem eF (a : Option Addr) (n e : Nat) : (bm g d) (.slice a n e) = .slice (a.map (uK g d)) n e := by rw [bm]
@[simp] theorem D0 (r : Option Nat) : (bm g d) (.map r) = .map (r.map (vB g d)) := by rw [bm]
@[simp] theorem abO (t : TypeId) (v : Value) : (bm g d) (.iface t v) = .iface t ((bm g d) v) := by rw [bm]
@[simp] theorem ab8 (fn : Fn) (f c : Array Value) : (bm g d) (.func fn f c) = .func fn (f.map (bm g d)) (c.map (bm g d)) := by rw [bm]
@[simp] theorem Kj (cs : Array Value) : (bm g d) (.agg cs) = .agg (cs.map (bm g d)) := by rw [bm]
@[simp] theorem V2 (cs : Array Value) : (bm g d) (.tuple cs) = .tuple (cs.map (bm g d)) := by rw [bm]
@[simp] theorem oz : (bm g d) undef = undef := by simp [undef]
theorem VW {v : Value} (h : cw v = true) : (bm g d) v = v := by
 unfold cw at h
 split at h <;> first | (simp; done) | cases h
theorem s5 {l : List Value} (h : l.all cw = true) : fc g d l = l := by
 induction l with
 | nil => rfl
 | cons x l ih => simp only [List.all_cons, Bool.and_eq_true] at h; simp only [fc, List.map_cons, VW h.1]; rw [show List.map (bm g d) l = l from ih h.2]
theorem GH {v : Value} (h : tm v = true) : (bm g d) v = v := by
 unfold tm at h
 split at h
 ·rename_i cs
  rw [Kj]; congr 1; exact Array.toList_inj.1 (by rw [Array.toList_map]; exact s5 h)
 ·rename_i cs
  rw [V2]; congr 1; exact Array.toList_inj.1 (by rw [Array.toList_map]; exact s5 h)
 ·exact VW h
theorem zf (v : Value) : ((bm g d) v).cells = v.cells.map (bm g d) := by
 cases v <;> simp [Value.cells]
theorem QF (v : Value) : ((bm g d) v).cells.toList = fc g d v.cells.toList := by rw [zf, Array.toList_map]
theorem aaL (v : Value) : Value.oneCell' ((bm g d) v) = Value.oneCell' v := by
 cases v <;> simp [Value.oneCell']
theorem Nq (l : List Value) : (fc g d l).all Value.oneCell' = l.all Value.oneCell' := by
 simp only [fc, List.all_map]; congr 1; funext v; exact aaL v
theorem D3 (v : Value) : qX ((bm g d) v) = (qX v).map fun a => (vB g d a.1, a.2) := by
 cases v with
 | pointer a =>
  cases a with
  | none => simp [qX]
  | some a =>
   obtain ⟨b, o, sp⟩ := a
   cases sp <;> simp [qX, uK]
 | _ => simp [qX]
theorem V1 (c a b : Value) : aS ((bm g d) c) ((bm g d) a) ((bm g d) b) = (aS c a b).map (bm g d) := by
 cases c with
 | bool t => cases t <;> simp [aS]
 | _ => simp [aS]
theorem X8 (v : Value) : qA ((bm g d) v) = (qA v).map (bm g d) := by
 cases v with
 | pointer a => cases a <;> simp [qA]
 | func fn f c => cases fn <;> simp [qA]
 | _ => simp [qA]
theorem X3 (off : Nat) (v : Value) : z0 off ((bm g d) v) = (z0 off v).map (bm g d) := by
 unfold z0
 rw [D3]
 cases qX v <;> simp [uK]
theorem V0 (n : Option Nat) (off : Nat) (v : Value) : i5 n off ((bm g d) v) = (i5 n off v).map (bm g d) := by
 cases v with
 | agg cs => cases n <;> simp [i5]
 | _ => simp [i5]
theorem X4 (e : Nat) (v i : Value) : lM e ((bm g d) v) ((bm g d) i) = (lM e v i).map (bm g d) := by
 cases v with
 | slice a n k =>
  cases a with
  | none => simp [lM]
  | some a =>
   obtain ⟨b, o, sp⟩ := a
   cases sp with
   | none =>
    cases i with
    | int k i => simp only [eF, ub, Option.map_some, uK, lM]; split <;> simp [uK]
    | _ => simp [lM, uK]
   | some sp => simp [lM, uK]
 | _ => simp [lM]
theorem VZ (len e : Nat) (v i : Value) : gW len e ((bm g d) v) ((bm g d) i) = (gW len e v i).map (bm g d) := by
 cases v with
 | pointer a =>
  cases a with
  | none => simp [gW]
  | some a =>
   obtain ⟨b, o, sp⟩ := a
   cases sp with
   | none =>
    cases i with
    | int k i => simp only [Ko, ub, Option.map_some, uK, gW]; split <;> simp [uK]
    | _ => simp [gW, uK]
   | some sp => simp [gW, uK]
 | _ => simp [gW]
theorem Km (len : Nat) (n : Option Nat) (e : Nat) (v i : Value) : gG len n e ((bm g d) v) ((bm g d) i) = (gG len n e v i).map (bm g d) := by
 cases v with
 | agg cs =>
  cases i with
  | int k i =>
   simp only [Kj, ub, gG]
   split
   ·cases n <;> simp
   ·rfl
  | _ => simp [gG]
 | _ => simp [gG]
theorem Kl (v i : Value) : gF ((bm g d) v) ((bm g d) i) = (gF v i).map (bm g d) := by
 cases v with
 | string b =>
  cases i with
  | int k i =>
   simp only [Bu, ub, gF]
   split
   ·rw [Option.map_map]; congr 1; funext x; simp
   ·rfl
  | _ => simp [gF]
 | _ => simp [gF]
theorem X5 (v : Value) : nc ((bm g d) v) = (nc v).map (bm g d) := by cases v <;> simp [nc]
theorem X6 (l : List Value) : f3 (fc g d l) = (f3 l).map (bm g d) := by
 match l with
 | [] => rfl
 | [x] => simp [fc, f3]
 | [x, y] => cases x <;> cases y <;> simp [fc, f3]
 | x :: y :: z :: l => simp [fc, f3]
theorem X7 (l : List Value) : gR (fc g d l) = (gR l).map (bm g d) := by
 match l with
 | [] => rfl
 | [x] => simp [fc, gR]
 | [x, y] => cases x <;> cases y <;> simp [fc, gR]
 | x :: y :: z :: l => simp [fc, gR]
theorem zg : ∀ xs ys : List Value, bh (fc g d xs) (fc g d ys) = bh xs ys := by
 intro xs
 induction xs with
 | nil => intro ys; cases ys <;> simp [fc, bh]
 | cons x xs ih =>
  intro ys
  cases ys with
  | nil => cases x <;> simp [fc, bh]
  | cons y ys =>
   have := ih ys
   simp only [fc] at this
   cases x <;> cases y <;> simp [fc, bh, this]
theorem aaM (cl : TCls) (x y : Value) : nb cl ((bm g d) x) ((bm g d) y) = nb cl x y := by
 cases cl with
 | flat n =>
  cases x with
  | agg a =>
   cases y with
   | agg b =>
    simp only [Kj, nb, Array.size_map, Array.toList_map]
    rw [show bh (List.map (bm g d) a.toList) (List.map (bm g d) b.toList) = bh a.toList b.toList from zg _ _]
   | _ => simp [nb]
  | _ => cases y <;> simp [nb]
 | bool => cases x <;> cases y <;> simp [nb]
 | ptr => cases x <;> cases y <;> simp [nb] <;> (rename_i a b; cases a <;> cases b <;> simp [nb])
 | slice => cases x <;> cases y <;> simp [nb] <;> (rename_i a _ _ b _ _; cases a <;> cases b <;> simp [nb])
 | map => cases x <;> cases y <;> simp [nb] <;> (rename_i a b; cases a <;> cases b <;> simp [nb])
 | func => cases x <;> cases y <;> simp [nb]
 | other => cases x <;> cases y <;> simp [nb]
theorem XT {op : BinOp} {k : IntKind} {a b : Int} : (j7 op k a b).map (bm g d) = j7 op k a b := by
 cases op <;> simp [j7] <;> (split <;> simp)
theorem PK {op : BinOp} {k : IntKind} {a b : Int} : (j0 op k a b).map (bm g d) = j0 op k a b := by
 unfold j0
 split
 ·rfl
 ·cases op <;> simp
theorem XV {op : BinOp} {a b : ByteArray} : (U8 op a b).map (bm g d) = U8 op a b := by
 cases op <;> simp [U8]
theorem VY (cl : TCls) (op : BinOp) (x y : Value) : AY cl op ((bm g d) x) ((bm g d) y) = (AY cl op x y).map (bm g d) := by
 cases op <;> simp only [AY, aaM, Option.map_map, Option.map_none] <;> (congr 1; funext b; simp)
theorem X0 (cl : TCls) (op : BinOp) (x y : Value) : aj cl op ((bm g d) x) ((bm g d) y) = (aj cl op x y).map (bm g d) := by
 have key := VY (g := g) (d := d) cl op x y
 cases x with
 | int k a =>
  cases y with
  | int k' b => cases op <;> simp only [ub, aj, PK] <;> (split <;> simp [XT])
  | _ => simpa [aj] using key
 | string a =>
  cases y with
  | string b => simp [aj, XV]
  | _ => simpa [aj] using key
 | _ => simpa [aj] using key
theorem aaN (op : UnOp) (x : Value) : pi op ((bm g d) x) = (pi op x).map (bm g d) := by cases op <;> cases x <;> simp [pi]
theorem VX (k : Option IntKind) (x : Value) : bz k ((bm g d) x) = (bz k x).map (bm g d) := by cases k <;> cases x <;> simp [bz]
theorem GI (v : Value) (i : Nat) : ai ((bm g d) v) i = (ai v i).map (bm g d) := by cases v <;> simp [ai]
theorem zj (v : Value) : kE ((bm g d) v) = kE v := by cases v <;> simp [kE]
end
inductive Tr (α : Type) where
 | lf
 | nd (v : Option α) (l r : Tr α)
section
variable {α : Type}
def Tr.get : Tr α → Nat → Option α
 | .lf, _ => none
 | .nd v l r, i => match i with
  | 0 => v
  | i + 1 => match Nat.beq (i % 2) 0 with
   | true => l.get (i / 2)
   | false => r.get (i / 2)
def Tr.set (x : α) : Nat → Tr α → Nat → Option (Tr α)
 | 0, _, _ => none
 | k + 1, t, i => match i with
  | 0 => match t with
   | .lf => some (.nd (some x) .lf .lf)
   | .nd _ l r => some (.nd (some x) l r)
  | i + 1 => match Nat.beq (i % 2) 0 with
   | true => match t with
    | .lf => (Tr.set x k .lf (i / 2)).map fun l' => .nd none l' .lf
    | .nd v l r => (Tr.set x k l (i / 2)).map fun l' => .nd v l' r
   | false => match t with
    | .lf => (Tr.set x k .lf (i / 2)).map fun r' => .nd none .lf r'
    | .nd v l r => (Tr.set x k r (i / 2)).map fun r' => .nd v l r'
theorem Tr.get_set {x : α} : ∀ (k : Nat) {t t' : Tr α} {i : Nat}, Tr.set x k t i = some t' → ∀ j, t'.get j = if j = i then some x else t.get j := by
 intro k
 induction k with
 | zero => intro t t' i h; cases h
 | succ k ih =>
  intro t t' i h j
  cases i with
  | zero =>
   cases t with
   | lf => simp only [Tr.set] at h; cases h; cases j with
    | zero => rfl
    | succ j => simp only [Tr.get]; split <;> simp [Tr.get]
   | nd v l r => simp only [Tr.set] at h; cases h; cases j with
    | zero => rfl
    | succ j => simp [Tr.get]
  | succ i =>
   simp only [Tr.set] at h
   have beq : ∀ a : Nat, Nat.beq a 0 = (a == 0) := fun a => by cases a <;> simp [Nat.beq]
   have lf : ∀ j, (Tr.lf : Tr α).get j = none := fun j => by cases j <;> rfl
   cases hb : Nat.beq (i % 2) 0 with
   | true =>
    have hi : i % 2 = 0 := by rw [beq] at hb; simpa using hb
    rw [hb] at h
    simp only at h
    have key : ∃ v l r l', Tr.set x k l (i / 2) = some l' ∧ t' = .nd v l' r ∧ ∀ j, t.get j = (Tr.nd v l r).get j := by
     cases t with
     | lf => obtain ⟨l', h1, e⟩ := Option.map_eq_some_iff.1 h; exact ⟨none, .lf, .lf, l', h1, e.symm, fun j => by rw [lf]; cases j with | zero => rfl | succ j => simp only [Tr.get]; split <;> rfl⟩
     | nd v l r => obtain ⟨l', h1, e⟩ := Option.map_eq_some_iff.1 h; exact ⟨v, l, r, l', h1, e.symm, fun j => rfl⟩
    obtain ⟨v, l, r, l', h1, rfl, hg⟩ := key
    rw [hg]
    cases j with
    | zero => rfl
    | succ j =>
     simp only [Tr.get]
     cases hj : Nat.beq (j % 2) 0 with
     | true =>
      have hj' : j % 2 = 0 := by rw [beq] at hj; simpa using hj
      simp only
      rw [ih h1]
      by_cases e : j / 2 = i / 2
      ·rw [if_pos e, if_pos (by omega)]
      ·rw [if_neg e, if_neg (by omega)]
     | false =>
      have hj' : j % 2 ≠ 0 := by rw [beq] at hj; simpa using hj
      simp only
      rw [if_neg (by omega)]
   | false =>
    have hi : i % 2 ≠ 0 := by rw [beq] at hb; simpa using hb
    rw [hb] at h
    simp only at h
    have key : ∃ v l r r', Tr.set x k r (i / 2) = some r' ∧ t' = .nd v l r' ∧ ∀ j, t.get j = (Tr.nd v l r).get j := by
     cases t with
     | lf => obtain ⟨l', h1, e⟩ := Option.map_eq_some_iff.1 h; exact ⟨none, .lf, .lf, l', h1, e.symm, fun j => by rw [lf]; cases j with | zero => rfl | succ j => simp only [Tr.get]; split <;> rfl⟩
     | nd v l r => obtain ⟨l', h1, e⟩ := Option.map_eq_some_iff.1 h; exact ⟨v, l, r, l', h1, e.symm, fun j => rfl⟩
    obtain ⟨v, l, r, l', h1, rfl, hg⟩ := key
    rw [hg]
    cases j with
    | zero => rfl
    | succ j =>
     simp only [Tr.get]
     cases hj : Nat.beq (j % 2) 0 with
     | false =>
      have hj' : j % 2 ≠ 0 := by rw [beq] at hj; simpa using hj
      simp only
      rw [ih h1]
      by_cases e : j / 2 = i / 2
      ·rw [if_pos e, if_pos (by omega)]
      ·rw [if_neg e, if_neg (by omega)]
     | true =>
      have hj' : j % 2 = 0 := by rw [beq] at hj; simpa using hj
      simp only
      rw [if_neg (by omega)]
end
structure EH where
 n : Nat
 t : Tr AObj
def EH.get (E : EH) (b : Nat) : Option AObj := E.t.get b
def EH.set (E : EH) (b : Nat) (o : AObj) : Option EH := (Tr.set o 24 E.t b).map fun t => ⟨E.n, t⟩
def EH.push (E : EH) (o : AObj) : Option EH := (Tr.set o 24 E.t E.n).map fun t => ⟨E.n + 1, t⟩
section
variable (g d : Nat)
def GF (e : MapEntry) : MapEntry := { e with key := bm g d e.key, val := bm g d e.val }
def Hc : AObj → AObj
 | .cells ro cs => .cells ro (fc g d cs)
 | .map es c => .map (es.map (GF g d)) c
 | .dead => .dead
structure HR (F : List AObj) (E : EH) (H : AH) : Prop where
 len : F.length = d
 le : g ≤ E.n
 size : H.size = E.n + d
 get : ∀ b, H.get (vB g d b) = (E.get b).map (Hc g d)
 out : ∀ b, E.n ≤ b → E.get b = none
 fr : ∀ b, g ≤ b → b < g + d → H.get b = F[b - g]?
end
section
variable {g d : Nat} {F : List AObj} {E E' : EH} {H : AH}
theorem HR.lt (h : HR g d F E H) {b : Nat} {o : AObj} (hb : E.get b = some o) : b < E.n := by
 rcases Nat.lt_or_ge b E.n with h1 | h1
 ·exact h1
 ·rw [h.out b h1] at hb; cases hb
theorem HR.new (h : HR g d F E H) : H.size = vB g d E.n := by
 unfold vB; rw [if_neg (by have := h.le; omega)]; exact h.size
theorem HR.shlt (h : HR g d F E H) {b : Nat} (hb : b < E.n) : vB g d b < H.size := by
 rw [h.size]; unfold vB; split <;> omega
theorem HR.set (h : HR g d F E H) {b : Nat} {o : AObj} (hb : b < E.n) (hs : E.set b o = some E') : HR g d F E' (H.set (vB g d b) (Hc g d o)) := by
 obtain ⟨t, ht, rfl⟩ := Option.map_eq_some_iff.1 hs
 have hg := Tr.get_set 24 ht
 refine ⟨h.len, h.le, by rw [AH.size_set]; exact h.size, fun j => ?_, fun j hj => ?_, fun j h1 h2 => ?_⟩
 ·show _ = (t.get j).map _
  rw [hg j, AH.get_set]
  by_cases e : j = b
  ·subst e; rw [if_pos rfl, if_pos rfl, if_pos (h.shlt hb)]; rfl
  ·rw [if_neg (fun x => e (No x)), if_neg e]; exact h.get j
 ·show t.get j = none
  rw [hg j, if_neg (by have : E.n ≤ j := hj; omega)]; exact h.out j hj
 ·rw [AH.get_set_ne (by unfold vB; split <;> omega)]; exact h.fr j h1 h2
theorem HR.push (h : HR g d F E H) {o : AObj} (hs : E.push o = some E') : HR g d F E' (H.push (Hc g d o)) := by
 obtain ⟨t, ht, rfl⟩ := Option.map_eq_some_iff.1 hs
 have hg := Tr.get_set 24 ht
 have hle := h.le
 have hsz := h.size
 refine ⟨h.len, by show g ≤ E.n + 1; omega, by rw [AH.size_push, hsz]; show _ = E.n + 1 + d; omega, fun j => ?_, fun j hj => ?_, fun j h1 h2 => ?_⟩
 ·show _ = (t.get j).map _
  rw [hg j, AH.get_push, h.new]
  by_cases e : j = E.n
  ·subst e; rw [if_pos rfl, if_pos rfl]; rfl
  ·rw [if_neg (fun x => e (No x)), if_neg e]; exact h.get j
 ·show t.get j = none
  have : E.n + 1 ≤ j := hj
  rw [hg j, if_neg (by omega)]; exact h.out j (by omega)
 ·rw [AH.get_push_old (by omega)]; exact h.fr j h1 h2
end
section
variable {g d : Nat}
theorem Bt (cs : List Value) (o : Nat) (xs : List Value) : splice (fc g d cs) o (fc g d xs) = fc g d (splice cs o xs) := by
 simp [splice, fc, List.map_take, List.map_drop]
theorem zi (places : Nat → Option (Nat × Nat)) : ∀ (parts : List (Nat × Value)) (zero : List Value), cu places (fc g d zero) (parts.map fun p => (p.1, (bm g d) p.2)) = (cu places zero parts).map (fc g d) := by
 intro parts
 induction parts with
 | nil => intro zero; rfl
 | cons p parts ih =>
  intro zero
  obtain ⟨i, v⟩ := p
  simp only [List.map_cons, cu]
  cases places i with
  | none => rfl
  | some q =>
   simp only [Option.bind_some]
   rw [zf, Array.size_map, Array.toList_map, show (fc g d zero).length = zero.length from List.length_map _]
   split
   ·rw [show List.map (bm g d) v.cells.toList = fc g d v.cells.toList from rfl, Bt]; exact ih _
   ·rfl
theorem QG (e : Nat) (x : Value) (lo hi : Option Value) : dD e ((bm g d) x) (lo.map (bm g d)) (hi.map (bm g d)) = (dD e x lo hi).map (bm g d) := by
 cases x with
 | slice a n e' =>
  have key : ∀ L R : Option Int, (L.bind fun l => R.bind fun h =>
   if 0 ≤ l ∧ l ≤ h ∧ h ≤ n then
    match a.map (uK g d) with
    | none => if n = 0 ∧ e' = 0 then some (.slice none 0 0) else none
    | some ⟨b, o, none⟩ => if e' = e ∧ 0 < e then some (.slice (some ⟨b, o + l.toNat * e, none⟩) (h.toNat - l.toNat) e) else none
    | _ => none
   else none : Option Value) = (L.bind fun l => R.bind fun h =>
   if 0 ≤ l ∧ l ≤ h ∧ h ≤ n then
    match a with
    | none => if n = 0 ∧ e' = 0 then some (.slice none 0 0) else none
    | some ⟨b, o, none⟩ => if e' = e ∧ 0 < e then some (.slice (some ⟨b, o + l.toNat * e, none⟩) (h.toNat - l.toNat) e) else none
    | _ => none
   else none : Option Value).map (bm g d) := by
   intro L R
   cases L with
   | none => rfl
   | some l =>
    cases R with
    | none => rfl
    | some r =>
     simp only [Option.bind_some]
     split
     ·cases a with
      | none => simp only [Option.map_none]; split <;> simp
      | some a =>
       obtain ⟨b, o, sp⟩ := a
       cases sp with
       | none => simp only [Option.map_some, uK]; split <;> simp [uK]
       | some sp => simp [uK]
     ·rfl
  cases lo with
  | none =>
   cases hi with
   | none => simp only [eF, dD, Option.map_none]; exact key (some 0) (some n)
   | some h => simp only [eF, dD, Option.map_some, zj]; exact key (some 0) (kE h)
  | some l =>
   cases hi with
   | none => simp only [eF, dD, Option.map_some, zj]; exact key (kE l) (some n)
   | some h => simp only [eF, dD, Option.map_some, zj]; exact key (kE l) (kE h)
 | _ => simp [dD]
theorem Kn {x hi mx v : Value} (h : gH x hi mx = some v) : gH ((bm g d) x) ((bm g d) hi) ((bm g d) mx) = some ((bm g d) v) := by
 unfold gH at h
 split at h
 ·cases h; simp [gH]
 ·cases h; simp [gH, uK]
 ·cases h
theorem VU (v : Value) : nK ((bm g d) v) = nK v := by cases v <;> simp [nK]
theorem zh (cl : KCls) (k : Value) : gf cl ((bm g d) k) = gf cl k := by
 cases cl <;> cases k <;> simp [gf]
 rename_i n cs
 congr 2
 funext v; exact VU v
theorem VV (cl : KCls) (a b : Value) : iL cl ((bm g d) a) ((bm g d) b) = iL cl a b := by
 cases cl with
 | flat n =>
  cases a <;> cases b <;> simp [iL]
  rename_i x y
  rw [show bh (List.map (bm g d) x.toList) (List.map (bm g d) y.toList) = bh x.toList y.toList from zg _ _]
 | int => cases a <;> cases b <;> simp [iL]
 | string => cases a <;> cases b <;> simp [iL]
theorem qS (cl : KCls) (k : Value) : ∀ (es : List MapEntry) (i : Nat), aV cl ((bm g d) k) (es.map (GF g d)) i = (aV cl k es i).map fun r => r.map fun p => (p.1, (bm g d) p.2) := by
 intro es
 induction es with
 | nil => intro i; rfl
 | cons e es ih =>
  intro i
  simp only [List.map_cons, aV, GF, VV]
  cases iL cl k e.key with
  | none => rfl
  | some b =>
   simp only [Option.bind_some]
   cases b with
   | true => simp
   | false => simp only [Bool.false_eq_true, if_false]; exact ih _
theorem Kk (v : Value) (args : List Value) : bN ((bm g d) v) (fc g d args) = (bN v args).map fun r => (r.1, fc g d r.2) := by
 cases v with
 | func fn f c => cases fn <;> simp [bN, fc]
 | _ => simp [bN]
end
def nl (E : EH) (b : Nat) : Option (List Value) :=
 match E.get b with
 | some (.cells _ cs) => some cs
 | _ => none
def RK (v : Value) (E : EH) : Option Value := (qX v).bind fun a => (nl E a.1).bind fun cs => cs[a.2]?
def RL (n : Nat) (v : Value) (E : EH) : Option Value :=
 (qX v).bind fun a => (nl E a.1).bind fun cs => if a.2 + n ≤ cs.length then some (.agg ((cs.drop a.2).take n).toArray) else none
def eSt (n : Nat) (v x : Value) (E : EH) : Option EH :=
 (qX v).bind fun a => match E.get a.1 with
  | some (.cells false cs) => if x.cells.size = n ∧ a.2 + n ≤ cs.length ∧ x.cells.toList.all Value.oneCell' = true then E.set a.1 (.cells false (splice cs a.2 x.cells.toList)) else none
  | _ => none
def Zt (cs : List Value) (E : EH) : Option (Value × EH) := (E.push (.cells false cs)).map fun E' => (.pointer (some ⟨E.n, 0, none⟩), E')
def As (n e : Nat) (cs : List Value) (E : EH) : Option (Value × EH) := (E.push (.cells false cs)).map fun E' => (.slice (some ⟨E.n, 0, none⟩) n e, E')
def Ap (v : Value) (E : EH) : Option Value :=
 match v with
 | .map none => some (.int .i64 0)
 | .map (some b) => match E.get b with
  | some (.map es _) => some (.int .i64 es.length)
  | _ => none
 | _ => none
def N9 (e : Nat) (x : Value) (E : EH) : Option (Nat × List Value) :=
 match x with
 | .slice none n _ => if n = 0 then some (0, []) else none
 | .slice (some ⟨b, o, none⟩) m _ => if m = 0 then some (0, []) else (nl E b).bind fun cs => if o + m * e ≤ cs.length then some (m, (cs.drop o).take (m * e)) else none
 | _ => none
def Zr (e bytes : Nat) (s x : Value) (E : EH) : Option (Value × EH) :=
 (N9 e x E).bind fun r =>
  if r.2.all Value.oneCell' = true ∧ 0 < e then
   match s with
   | .slice none n k => if n = 0 ∧ k = 0 then (if r.1 = 0 then some (.slice none 0 0, E) else if r.1 * bytes ≤ cC ∧ r.1 ≤ cC then As r.1 e r.2 E else none) else none
   | .slice (some ⟨b, o, none⟩) n e' =>
    if r.1 = 0 then some (s, E)
    else if e' = 0 then (if n = 0 ∧ r.1 * bytes ≤ cC ∧ r.1 ≤ cC then As r.1 e r.2 E else none)
    else match E.get b with
     | some (.cells false cs) =>
      if e' = e ∧ o + n * e ≤ cs.length ∧ (n + r.1) * bytes ≤ cC ∧ n + r.1 ≤ cC then (E.set b .dead).bind fun E1 => As (n + r.1) e ((cs.drop o).take (n * e) ++ r.2) E1 else none
     | _ => none
   | _ => none
  else none
def RM (zero : List Value) (e bytes : Nat) (len cap : Value) (E : EH) : Option (Value × EH) :=
 match len, cap with
 | .int _ l, .int _ c => if 0 ≤ l ∧ l = c ∧ l.toNat * bytes ≤ cC ∧ l.toNat ≤ cC ∧ 0 < e ∧ zero.length = e then
  As l.toNat e (List.replicate l.toNat zero).flatten E else none
 | _, _ => none
def tn (v : Value) (E : EH) : Option (List MapEntry × Nat) :=
 match v with
 | .map none => some ([], 0)
 | .map (some b) => match E.get b with
  | some (.map es c) => some (es, c)
  | _ => none
 | _ => none
def vJ (fl : KCls) (zero : Value) (m k : Value) (ok : Bool) (E : EH) : Option Value :=
 if gf fl k = true then (tn m E).bind fun es => (aV fl k es.1 0).map fun r => match r with
  | some (_, v) => if ok then .tuple #[v, .bool true] else v
  | none => if ok then .tuple #[zero, .bool false] else zero
 else none
def BR (fl : KCls) (m k x : Value) (E : EH) : Option EH :=
 if gf fl k = true then match m with
 | .map (some b) => match E.get b with
  | some (.map es c) => (aV fl k es 0).bind fun r => match r with
   | some (i, _) => E.set b (.map (es.modify i fun e => { e with key := k, val := x }) c)
   | none => E.set b (.map (es ++ [{ key := k, val := x, born := c }]) (c + 1))
  | _ => none
 | _ => none
 else none
def BL (fl : KCls) (m k : Value) (E : EH) : Option EH :=
 if gf fl k = true then match m with
 | .map (some b) => match E.get b with
  | some (.map es c) => (aV fl k es 0).bind fun r => match r with
   | some (i, _) => E.set b (.map (es.eraseIdx i) c)
   | none => E.set b (.map es c)
  | _ => none
 | _ => none
 else none
def da (g d : Nat) (F : List AObj) (x : Option (Value × EH)) (y : Option (Value × AH)) : Prop := ∀ v E', x = some (v, E') → ∃ H', y = some (bm g d v, H') ∧ HR g d F E' H'
def WP (g d : Nat) (F : List AObj) (x : Option EH) (y : Option AH) : Prop := ∀ E', x = some E' → ∃ H', y = some H' ∧ HR g d F E' H'
section
variable {g d : Nat} {F : List AObj} {E E' : EH} {H : AH}
theorem HR.cells (h : HR g d F E H) (b : Nat) : dn H (vB g d b) = (nl E b).map (fc g d) := by
 unfold dn nl
 rw [h.get b]
 cases E.get b with
 | none => rfl
 | some o => cases o <;> rfl
theorem HR.ld1 (h : HR g d F E H) (v : Value) : ar ((bm g d) v) H = (RK v E).map (bm g d) := by
 unfold ar RK
 rw [D3]
 cases qX v with
 | none => rfl
 | some a =>
  simp only [Option.map_some, Option.bind_some, h.cells]
  cases nl E a.1 <;> simp [fc]
theorem HR.ldN (h : HR g d F E H) (n : Nat) (v : Value) : aA n ((bm g d) v) H = (RL n v E).map (bm g d) := by
 unfold aA RL
 rw [D3]
 cases qX v with
 | none => rfl
 | some a =>
  simp only [Option.map_some, Option.bind_some, h.cells]
  cases nl E a.1 with
  | none => rfl
  | some cs =>
   simp only [Option.map_some, Option.bind_some, fc, List.length_map]
   split
   ·simp [List.map_take, List.map_drop]
   ·rfl
theorem HR.st (h : HR g d F E H) (n : Nat) (v x : Value) : WP g d F (eSt n v x E) (cW n ((bm g d) v) ((bm g d) x) H) := by
 intro E' he
 unfold eSt at he
 unfold cW
 rw [D3]
 obtain ⟨a, ha, he⟩ := Option.bind_eq_some_iff.1 he
 rw [ha]
 simp only [Option.map_some, Option.bind_some, h.get]
 split at he
 ·rename_i cs hcs
  split at he
  ·rename_i hc
   rw [hcs]
   simp only [Option.map_some, Hc]
   rw [zf, Array.size_map, Array.toList_map, show (fc g d cs).length = cs.length from List.length_map _, show (List.map (bm g d) x.cells.toList).all Value.oneCell' = x.cells.toList.all Value.oneCell' from Nq _, if_pos hc,
    show splice (fc g d cs) a.2 (List.map (bm g d) x.cells.toList) = fc g d (splice cs a.2 x.cells.toList) from Bt _ _ _]
   exact ⟨_, rfl, h.set (h.lt hcs) he⟩
  ·cases he
 ·cases he
theorem HR.new' (h : HR g d F E H) (cs : List Value) : da g d F (Zt cs E) (some (XU (fc g d cs) H)) := by
 intro v E' he
 obtain ⟨E1, h1, e⟩ := Option.map_eq_some_iff.1 he
 cases e
 exact ⟨H.push (Hc g d (.cells false cs)), by simp [XU, h.new, uK, Hc], h.push h1⟩
theorem HR.rowP (h : HR g d F E H) (n e : Nat) (cs : List Value) : da g d F (As n e cs E) (some (.slice (some ⟨H.size, 0, none⟩) n e, H.push (.cells false (fc g d cs)))) := by
 intro v E' he
 obtain ⟨E1, h1, e⟩ := Option.map_eq_some_iff.1 he
 cases e
 exact ⟨H.push (Hc g d (.cells false cs)), by simp [h.new, uK, Hc], h.push h1⟩
theorem HR.lenM (h : HR g d F E H) (v : Value) : kF ((bm g d) v) H = (Ap v E).map (bm g d) := by
 cases v with
 | map r =>
  cases r with
  | none => simp [kF, Ap]
  | some b =>
   simp only [D0, Option.map_some, kF, Ap, h.get]
   cases E.get b with
   | none => rfl
   | some o => cases o <;> simp [Hc]
 | _ => simp [kF, Ap]
theorem HR.row (h : HR g d F E H) (e : Nat) (x : Value) : jd e ((bm g d) x) H = (N9 e x E).map fun r => (r.1, fc g d r.2) := by
 cases x with
 | slice a n k =>
  cases a with
  | none => simp only [eF, Option.map_none, jd, N9]; split <;> rfl
  | some a =>
   obtain ⟨b, o, sp⟩ := a
   cases sp with
   | some sp => simp [jd, N9, uK]
   | none =>
    simp only [eF, Option.map_some, uK, jd, N9, h.cells]
    split
    ·rfl
    ·cases nl E b with
     | none => rfl
     | some cs =>
      simp only [Option.map_some, Option.bind_some, fc, List.length_map]
      split
      ·simp [List.map_take, List.map_drop]
      ·rfl
 | _ => simp [jd, N9]
theorem HR.mapOf (h : HR g d F E H) (v : Value) : ir ((bm g d) v) H = (tn v E).map fun r => (r.1.map (GF g d), r.2) := by
 cases v with
 | map r =>
  cases r with
  | none => simp [ir, tn]
  | some b =>
   simp only [D0, Option.map_some, ir, tn, h.get]
   cases E.get b with
   | none => rfl
   | some o => cases o <;> simp [Hc]
 | _ => simp [ir, tn]
theorem HR.lookup (h : HR g d F E H) (fl : KCls) {zero : Value} (hz : (bm g d) zero = zero) (m k : Value) (ok : Bool) : b7 fl zero ((bm g d) m) ((bm g d) k) ok H = (vJ fl zero m k ok E).map (bm g d) := by
 unfold b7 vJ
 rw [zh]
 split
 ·rw [h.mapOf]
  cases tn m E with
  | none => rfl
  | some es =>
   simp only [Option.map_some, Option.bind_some, qS]
   cases aV fl k es.1 0 with
   | none => rfl
   | some r =>
    cases r with
    | none => cases ok <;> simp [hz]
    | some p => cases ok <;> simp
 ·rfl
theorem HR.update (h : HR g d F E H) (fl : KCls) (m k x : Value) : WP g d F (BR fl m k x E) (dh fl ((bm g d) m) ((bm g d) k) ((bm g d) x) H) := by
 intro E' he
 unfold BR at he
 split at he
 ·rename_i hk
  split at he
  ·rename_i b
   split at he
   ·rename_i es c hb
    obtain ⟨r, hr, he⟩ := Option.bind_eq_some_iff.1 he
    have hg : H.get (vB g d b) = some (.map (es.map (GF g d)) c) := by rw [h.get, hb]; rfl
    have hf := qS (g := g) (d := d) fl k es 0
    rw [hr] at hf
    simp only [D0, Option.map_some, dh, zh, hk, if_true, hg]
    cases r with
    | some p =>
     have hf : aV fl ((bm g d) k) (es.map (GF g d)) 0 = some (some (p.1, (bm g d) p.2)) := hf
     rw [hf]
     refine ⟨_, rfl, ?_⟩
     have := h.set (h.lt hb) he
     simp only [Hc] at this
     show HR g d F E' (H.set (vB g d b) (.map ((es.map (GF g d)).modify p.1 fun e => { e with key := (bm g d) k, val := (bm g d) x }) c))
     rw [show (es.map (GF g d)).modify p.1 (fun e => { e with key := (bm g d) k, val := (bm g d) x }) = (es.modify p.1 fun e => { e with key := k, val := x }).map (GF g d) from ?_]
     ·exact this
     ·apply List.ext_getElem?
      intro i
      simp only [List.getElem?_modify, List.getElem?_map]
      cases es[i]? with
      | none => rfl
      | some e => simp only [Option.map_some, Option.map_map]; split <;> rfl
    | none =>
     have hf : aV fl ((bm g d) k) (es.map (GF g d)) 0 = some none := hf
     rw [hf]
     refine ⟨_, rfl, ?_⟩
     have := h.set (h.lt hb) he
     simp only [Hc, List.map_append, List.map_cons, List.map_nil, GF] at this
     exact this
   ·cases he
  ·cases he
 ·cases he
theorem HR.delete (h : HR g d F E H) (fl : KCls) (m k : Value) : WP g d F (BL fl m k E) (kD fl ((bm g d) m) ((bm g d) k) H) := by
 intro E' he
 unfold BL at he
 split at he
 ·rename_i hk
  split at he
  ·rename_i b
   split at he
   ·rename_i es c hb
    obtain ⟨r, hr, he⟩ := Option.bind_eq_some_iff.1 he
    have hg : H.get (vB g d b) = some (.map (es.map (GF g d)) c) := by rw [h.get, hb]; rfl
    have hf := qS (g := g) (d := d) fl k es 0
    rw [hr] at hf
    simp only [D0, Option.map_some, kD, zh, hk, if_true, hg]
    cases r with
    | some p =>
     have hf : aV fl ((bm g d) k) (es.map (GF g d)) 0 = some (some (p.1, (bm g d) p.2)) := hf
     rw [hf]
     refine ⟨_, rfl, ?_⟩
     have := h.set (h.lt hb) he
     simp only [Hc] at this
     show HR g d F E' (H.set (vB g d b) (.map ((es.map (GF g d)).eraseIdx p.1) c))
     rw [show (es.map (GF g d)).eraseIdx p.1 = (es.eraseIdx p.1).map (GF g d) from by simp [List.eraseIdx_eq_take_drop_succ, List.map_take, List.map_drop]]
     exact this
    | none =>
     have hf : aV fl ((bm g d) k) (es.map (GF g d)) 0 = some none := hf
     rw [hf]
     exact ⟨_, rfl, h.set (h.lt hb) he⟩
   ·cases he
  ·cases he
 ·cases he
theorem HR.make (h : HR g d F E H) {zero : List Value} (hz : fc g d zero = zero) (e by' : Nat) (len cap : Value) : da g d F (RM zero e by' len cap E) (kG zero e by' ((bm g d) len) ((bm g d) cap) H) := by
 intro v E' he
 unfold RM at he
 split at he
 ·split at he
  ·rename_i k1 l k2 c hc
   obtain ⟨H', h1, h2⟩ := h.rowP _ _ _ v E' he
   refine ⟨H', ?_, h2⟩
   simp only [ub, kG]
   rw [if_pos hc, ← h1]
   congr 4
   rw [fc, List.map_flatten, List.map_replicate, show List.map (bm g d) zero = zero from hz]
  ·cases he
 ·cases he
theorem HR.app (h : HR g d F E H) (e by' : Nat) (x y : Value) : da g d F (Zr e by' x y E) (dN e by' ((bm g d) x) ((bm g d) y) H) := by
 intro v E' he
 unfold Zr at he
 unfold dN
 rw [h.row]
 obtain ⟨r, hr, he⟩ := Option.bind_eq_some_iff.1 he
 rw [hr]
 simp only [Option.map_some, Option.bind_some]
 rw [show (fc g d r.2).all Value.oneCell' = r.2.all Value.oneCell' from Nq _]
 split at he
 ·rename_i hc
  rw [if_pos hc]
  split at he
  ·rename_i n k
   simp only [eF, Option.map_none]
   split at he
   ·rename_i h0
    rw [if_pos h0]
    split at he
    ·rename_i h1
     rw [if_pos h1]; cases he; exact ⟨H, by simp, h⟩
    ·rename_i h1
     rw [if_neg h1]
     split at he
     ·rename_i h2
      rw [if_pos h2]
      exact h.rowP _ _ _ v E' he
     ·cases he
   ·cases he
  ·rename_i _ b o n e' _
   simp only [eF, Option.map_some, uK]
   split at he
   ·rename_i h1
    rw [if_pos h1]; cases he; exact ⟨H, by simp [uK], h⟩
   ·rename_i h1
    rw [if_neg h1]
    split at he
    ·rename_i h2
     rw [if_pos h2]
     split at he
     ·rename_i h3
      rw [if_pos h3]
      exact h.rowP _ _ _ v E' he
     ·cases he
    ·rename_i h2
     rw [if_neg h2]
     split at he
     ·rename_i cs hb
      have hg : H.get (vB g d b) = some (.cells false (fc g d cs)) := by rw [h.get, hb]; rfl
      rw [hg]
      simp only
      rw [show (fc g d cs).length = cs.length from List.length_map _]
      split at he
      ·rename_i h3
       rw [if_pos h3]
       obtain ⟨E1, h4, he⟩ := Option.bind_eq_some_iff.1 he
       have hs := h.set (h.lt hb) h4
       obtain ⟨H', h5, h6⟩ := hs.rowP _ _ _ v E' he
       refine ⟨H', ?_, h6⟩
       rw [← h5, AH.size_set]
       simp [Hc, fc, List.map_take, List.map_drop]
      ·cases he
     ·cases he
  ·cases he
 ·cases he
end
abbrev TF := Nat → List Value → EH → Option (Value × EH)
def zn (P : Program) (b : Builtin) (argTypes : Array TypeId) (args : List Value) (E : EH) : Option (Value × EH) :=
 match b, args with
 | .len, [x] => match (argTypes[0]?).bind fun t => P.underlying t with
  | some (.slice _) => match x with | .slice _ _ _ => (nc x).map (·, E) | _ => none
  | some .string => match x with | .string _ => (nc x).map (·, E) | _ => none
  | some (.map _ _) => (Ap x E).map (·, E)
  | _ => none
 | .max, args => (f3 args).map (·, E)
 | .min, args => (gR args).map (·, E)
 | .append, [s, x] => (argTypes[0]?).bind fun t => (bM P t).bind fun el => (bU P el).bind fun e => (dR P el).bind fun by' => (br P el).bind fun z =>
  if z.cells.size = e ∧ (argTypes[1]?).bind (fun u => bM P u) = some el then Zr e by' s x E else none
 | .delete, [m, k] => (argTypes[0]?).bind fun t => (bP P t).bind fun kt => (b6 P kt.1).bind fun fl => (BL fl m k E).map fun E' => (.tuple #[], E')
 | _, _ => none
def tRd (P : Program) (ev : Operand → Value) (op : Op) (E : EH) : Option Value :=
 match op with
 | .load t a => (dJ P t).bind fun g => match g with
  | some n => RL n (ev a) E
  | none => RK (ev a) E
 | .lookup t m k ok => (bP P t).bind fun kt => (b6 P kt.1).bind fun fl => (br P kt.2).bind fun z => vJ fl z (ev m) (ev k) ok E
 | .call c => match c.args.toList.map ev with
  | [x] => match (c.argTypes[0]?).bind fun t => P.underlying t with
   | some (.slice _) => match x with | .slice _ _ _ => nc x | _ => none
   | some .string => match x with | .string _ => nc x | _ => none
   | some (.map _ _) => Ap x E
   | _ => none
  | _ => none
 | _ => none
def s9 (P : Program) (call : TF) (ev : Operand → Value) (o : Oper) (E : EH) : Option (Value × EH) :=
 match o.op with
 | .move x => some (ev x, E)
 | .assign x => some (ev x, E)
 | .pick c a b => (aS (ev c) (ev a) (ev b)).map (·, E)
 | .alloc t => (br P t).bind fun z => Zt z.cells.toList E
 | .box _ x => Zt (ev x).cells.toList E
 | .build t parts => match P.underlying t with
  | some (.struct fs) => (br P t).bind fun z => (gI P fs.toList).bind fun ps => (cu (ps[·]?) z.cells.toList (parts.toList.map fun p => (p.1, ev p.2))).map fun cs => (.agg cs.toArray, E)
  | some (.array _ el) => (br P t).bind fun z => (bU P el).bind fun e => (cu (fun i => some (i * e, e)) z.cells.toList (parts.toList.map fun p => (p.1, ev p.2))).map fun cs => (.agg cs.toArray, E)
  | _ => none
 | .buildSlice t len parts => (bM P t).bind fun el => (bU P el).bind fun e => (br P el).bind fun z =>
  if 0 < e ∧ z.cells.size = e ∧ len * e ≤ 2 ^ 24 then
   (cu (fun i => some (i * e, e)) (List.replicate len z.cells.toList).flatten (parts.toList.map fun p => (p.1, ev p.2))).bind fun cs => As len e cs E
  else none
 | .load t a => (dJ P t).bind fun g => match g with
  | some n => (RL n (ev a) E).map (·, E)
  | none => (RK (ev a) E).map (·, E)
 | .store t a x => (bU P t).bind fun n => (eSt n (ev a) (ev x) E).map fun E' => (undef, E')
 | .nilCheck x => (qA (ev x)).map (·, E)
 | .binOp op t x y _ => (aj (um P t) op (ev x) (ev y)).map (·, E)
 | .unOp op _ x => (pi op (ev x)).map (·, E)
 | .convert src dst x => match P.underlying src with
  | some _ => (bz (nL P dst) (ev x)).map (·, E)
  | none => none
 | .makeFunc fn first captured => some (.func fn (first.map ev) (captured.map ev), E)
 | .makeMap _ none => (E.push (.map [] 0)).map fun E' => (.map (some E.n), E')
 | .makeSlice t l c => (bM P t).bind fun el => (bU P el).bind fun e => (dR P el).bind fun by' => (br P el).bind fun z => RM z.cells.toList e by' (ev l) (ev c) E
 | .slice t x lo hi none => (bM P t).bind fun el => (bU P el).bind fun e => (dD e (ev x) (lo.map ev) (hi.map ev)).map (·, E)
 | .slice t x none (some hi) (some mx) => (bM P t).bind fun el => (bU P el).bind fun _ => (gH (ev x) (ev hi) (ev mx)).map (·, E)
 | .fieldAddr s x f => (ix P s f).bind fun f => (bU P f.type).bind fun n => if n = 0 then none else (z0 f.offset (ev x)).map (·, E)
 | .field s x f => (ix P s f).bind fun f => (dJ P f.type).bind fun n => (i5 n f.offset (ev x)).map (·, E)
 | .indexAddr t x i => match P.underlying t with
  | some (.slice el) => (bU P el).bind fun e => (lM e (ev x) (ev i)).map (·, E)
  | some (.array len el) => (bU P el).bind fun e => (gW len e (ev x) (ev i)).map (·, E)
  | _ => none
 | .index t x i => match P.underlying t with
  | some (.array len el) => (bU P el).bind fun e => (dJ P el).bind fun n => (gG len n e (ev x) (ev i)).map (·, E)
  | some .string => (gF (ev x) (ev i)).map (·, E)
  | _ => none
 | .lookup t m k ok => (bP P t).bind fun kt => (b6 P kt.1).bind fun fl => (br P kt.2).bind fun z => (vJ fl z (ev m) (ev k) ok E).map (·, E)
 | .mapUpdate t m k x => (bP P t).bind fun kt => (b6 P kt.1).bind fun fl => (BR fl (ev m) (ev k) (ev x) E).map fun E' => (undef, E')
 | .extract t i => (ai (ev t) i).map (·, E)
 | .call c => match c.callee with
  | .builtin b => zn P b c.argTypes (c.args.toList.map ev) E
  | .value f => (bN (ev f) (c.args.toList.map ev)).bind fun fa => call fa.1 fa.2 E
  | _ => none
 | _ => none
section
variable {P : Program} {g d : Nat} {F : List AObj} {E E' : EH} {H : AH}
theorem iw {t : TypeId} {z : Value} (h : br P t = some z) : (bm g d) z = z ∧ fc g d z.cells.toList = z.cells.toList := by
 obtain ⟨i, _, _, h1, h2⟩ := cf h
 exact ⟨GH h2, s5 h1⟩
theorem da.val (h : HR g d F E H) {x y : Option Value} (e : y = x.map (bm g d)) : da g d F (x.map (·, E)) (y.map (·, H)) := by
 intro v E' hx
 obtain ⟨z, hz, e1⟩ := Option.map_eq_some_iff.1 hx
 cases e1
 rw [e, hz]
 exact ⟨H, rfl, h⟩
theorem da.bind {α : Type} {o : Option α} {f : α → Option (Value × EH)} {f' : α → Option (Value × AH)} (h : ∀ a, o = some a → da g d F (f a) (f' a)) : da g d F (o.bind f) (o.bind f') := by
 intro v E' hx
 obtain ⟨a, ha, hx⟩ := Option.bind_eq_some_iff.1 hx
 rw [ha]
 exact h a ha v E' hx
theorem da.no {y : Option (Value × AH)} : da g d F none y := fun v E' h => by cases h
theorem da.ite {c : Prop} [Decidable c] {x : Option (Value × EH)} {y : Option (Value × AH)} (h : c → da g d F x y) : da g d F (if c then x else none) (if c then y else none) := by
 intro v E' hx
 split at hx
 ·rename_i hc; rw [if_pos hc]; exact h hc v E' hx
 ·cases hx
theorem da.heap {x : Option EH} {y : Option AH} (v : Value) (hv : (bm g d) v = v) (h : WP g d F x y) : da g d F (x.map fun E' => (v, E')) (y.map fun H' => (v, H')) := by
 intro v' E' hx
 obtain ⟨E1, h1, e⟩ := Option.map_eq_some_iff.1 hx
 cases e
 obtain ⟨H', h2, h3⟩ := h E' h1
 exact ⟨H', by rw [h2, hv]; rfl, h3⟩
theorem HS {ev ev' : Operand → Value} {l : List Operand} (h : ∀ x ∈ l, ev' x = (bm g d) (ev x)) : l.map ev' = fc g d (l.map ev) := by
 rw [fc, List.map_map]
 exact List.map_congr_left h
theorem Eu (h : HR g d F E H) (b : Builtin) (ats : Array TypeId) (args : List Value) : da g d F (zn P b ats args E) (b5 P b ats (fc g d args) H) := by
 intro v E' hx
 unfold zn at hx
 split at hx
 ·rename_i x
  simp only [fc, List.map_cons, List.map_nil, b5]
  split at hx
  ·rename_i hu
   rw [hu]
   simp only
   split at hx
   ·simp only [eF]
    exact da.val h (by rw [← eF, X5]) v E' hx
   ·cases hx
  ·rename_i hu
   rw [hu]
   simp only
   split at hx
   ·simp only [Bu]
    exact da.val h (by simp [nc]) v E' hx
   ·cases hx
  ·rename_i hu
   rw [hu]
   exact da.val h (h.lenM _) v E' hx
  ·cases hx
 ·exact da.val h (X6 _) v E' hx
 ·exact da.val h (X7 _) v E' hx
 ·simp only [fc, List.map_cons, List.map_nil, b5]
  exact da.bind (fun t _ => da.bind fun el _ => da.bind fun e _ => da.bind fun by' _ => da.bind fun z _ => da.ite fun _ => h.app _ _ _ _) v E' hx
 ·simp only [fc, List.map_cons, List.map_nil, b5]
  exact da.bind (fun t _ => da.bind fun kt _ => da.bind fun fl _ => da.heap _ (by simp) (h.delete _ _ _)) v E' hx
 ·cases hx
theorem Y5 (h : HR g d F E H) {ev ev' : Operand → Value} {op : Op} (hev : ∀ x, x ∈ op.operands.toList → ev' x = (bm g d) (ev x)) : wA P ev' op H = (tRd P ev op E).map (bm g d) := by
 cases op with
 | load t a =>
  simp only [wA, tRd]
  rw [hev a (by simp [Op.operands])]
  cases dJ P t with
  | none => rfl
  | some n => cases n with
   | none => exact h.ld1 _
   | some n => exact h.ldN _ _
 | lookup t m k ok =>
  simp only [wA, tRd]
  rw [hev m (by simp [Op.operands]), hev k (by simp [Op.operands])]
  cases bP P t with
  | none => rfl
  | some kt =>
   simp only [Option.bind_some]
   cases b6 P kt.1 with
   | none => rfl
   | some fl =>
    simp only [Option.bind_some]
    cases hz : br P kt.2 with
    | none => rfl
    | some z => exact h.lookup fl (iw hz).1 _ _ _
 | call c =>
  have ha : c.args.toList.map ev' = fc g d (c.args.toList.map ev) := HS fun x hx => hev x (by simp only [Op.operands, Call.operands, Array.toList_append, List.mem_append]; exact .inr hx)
  simp only [wA, tRd]
  rw [ha]
  generalize c.args.toList.map ev = l
  match l with
  | [] => rfl
  | [x] =>
   simp only [fc, List.map_cons, List.map_nil]
   generalize (c.argTypes[0]?).bind (fun t => P.underlying t) = u
   cases u with
   | none => rfl
   | some u => cases u <;> first | rfl | exact h.lenM _ | (cases x <;> simp [nc])
  | x :: y :: l => rfl
 | _ => rfl
def oK (g d : Nat) (F : List AObj) (c : TF) (c' : be) : Prop := ∀ (E : EH) (H : AH) f args, HR g d F E H → da g d F (c f args E) (c' f (fc g d args) H)
theorem ZX (h : HR g d F E H) {c : TF} {c' : be} (hc : oK g d F c c') {ev ev' : Operand → Value} {o : Oper} (hev : ∀ x, x ∈ o.op.operands.toList → ev' x = (bm g d) (ev x)) :
 da g d F (s9 P c ev o E) (dj P c' ev' o H) := by
 obtain ⟨dst, op, type, pos, after, guard⟩ := o
 simp only at hev
 have fill : ∀ (parts : Array (Nat × Operand)), (∀ x, x ∈ (parts.toList.map (·.2)) → ev' x = (bm g d) (ev x)) → (parts.toList.map fun p => (p.1, ev' p.2)) = (parts.toList.map fun p => (p.1, ev p.2)).map fun p => (p.1, (bm g d) p.2) := by
  intro parts hp
  rw [List.map_map]
  refine List.map_congr_left fun p hpm => ?_
  simp only [Function.comp]
  rw [hp p.2 (List.mem_map_of_mem hpm)]
 have arr : ∀ (l : Array Operand), (∀ x ∈ l.toList, ev' x = (bm g d) (ev x)) → l.map ev' = (l.map ev).map (bm g d) := by
  intro l hl
  apply Array.toList_inj.1
  rw [Array.toList_map, Array.toList_map, Array.toList_map]
  exact HS hl
 cases op
 case move x => intro v E' hx; simp only [s9] at hx; cases hx; exact ⟨H, by simp only [dj]; rw [hev x (by simp [Op.operands])], h⟩
 case assign x => intro v E' hx; simp only [s9] at hx; cases hx; exact ⟨H, by simp only [dj]; rw [hev x (by simp [Op.operands])], h⟩
 case pick k a b =>
  simp only [s9, dj]
  rw [hev k (by simp [Op.operands]), hev a (by simp [Op.operands]), hev b (by simp [Op.operands])]
  exact da.val h (V1 _ _ _)
 case alloc t =>
  intro v E' hx
  simp only [s9] at hx
  simp only [dj]
  obtain ⟨z, hz, hx⟩ := Option.bind_eq_some_iff.1 hx
  rw [hz]
  have := h.new' _ v E' hx
  rw [(iw hz).2] at this
  exact this
 case box t x =>
  simp only [s9, dj]
  rw [hev x (by simp [Op.operands]), QF]
  exact h.new' _
 case build t parts =>
  have hp := fill parts fun x hx => hev x (by simpa [Op.operands] using hx)
  intro v E' hx
  simp only [s9] at hx
  simp only [dj]
  rw [hp]
  split at hx
  ·rename_i fs hu
   rw [hu]
   simp only
   obtain ⟨z, hz, hx⟩ := Option.bind_eq_some_iff.1 hx
   obtain ⟨ps, hps, hx⟩ := Option.bind_eq_some_iff.1 hx
   obtain ⟨cs, hcs, e⟩ := Option.map_eq_some_iff.1 hx
   cases e
   have hf := zi (g := g) (d := d) (ps[·]?) (parts.toList.map fun p => (p.1, ev p.2)) z.cells.toList
   rw [(iw hz).2, hcs] at hf
   rw [hz, hps]
   simp only [Option.bind_some]
   rw [hf]
   exact ⟨H, by simp, h⟩
  ·rename_i el hu
   rw [hu]
   simp only
   obtain ⟨z, hz, hx⟩ := Option.bind_eq_some_iff.1 hx
   obtain ⟨e, he, hx⟩ := Option.bind_eq_some_iff.1 hx
   obtain ⟨cs, hcs, e⟩ := Option.map_eq_some_iff.1 hx
   cases e
   have hf := zi (g := g) (d := d) (fun i => some (i * e, e)) (parts.toList.map fun p => (p.1, ev p.2)) z.cells.toList
   rw [(iw hz).2, hcs] at hf
   rw [hz, he]
   simp only [Option.bind_some]
   rw [hf]
   exact ⟨H, by simp, h⟩
  ·cases hx
 case buildSlice t len parts =>
  have hp := fill parts fun x hx => hev x (by simpa [Op.operands] using hx)
  simp only [s9, dj]
  rw [hp]
  refine da.bind fun el _ => da.bind fun e _ => da.bind fun z hz => da.ite fun _ => ?_
  intro v E' hx
  obtain ⟨cs, hcs, hx⟩ := Option.bind_eq_some_iff.1 hx
  have hf := zi (g := g) (d := d) (fun i => some (i * e, e)) (parts.toList.map fun p => (p.1, ev p.2)) (List.replicate len z.cells.toList).flatten
  rw [hcs, show fc g d (List.replicate len z.cells.toList).flatten = (List.replicate len z.cells.toList).flatten from by
   rw [fc, List.map_flatten, List.map_replicate, show List.map (bm g d) z.cells.toList = z.cells.toList from (iw hz).2]] at hf
  rw [hf]
  exact h.rowP _ _ _ v E' hx
 case load t a =>
  simp only [s9, dj]
  rw [hev a (by simp [Op.operands])]
  refine da.bind fun n _ => ?_
  cases n with
  | none => exact da.val h (h.ld1 _)
  | some n => exact da.val h (h.ldN _ _)
 case store t a x =>
  simp only [s9, dj]
  rw [hev a (by simp [Op.operands]), hev x (by simp [Op.operands])]
  exact da.bind fun n _ => da.heap _ oz (h.st _ _ _)
 case nilCheck x =>
  simp only [s9, dj]
  rw [hev x (by simp [Op.operands])]
  exact da.val h (X8 _)
 case binOp op t x y z =>
  simp only [s9, dj]
  rw [hev x (by simp [Op.operands]), hev y (by simp [Op.operands])]
  exact da.val h (X0 _ _ _ _)
 case unOp op t x =>
  simp only [s9, dj]
  rw [hev x (by simp [Op.operands])]
  exact da.val h (aaN _ _)
 case convert src dst x =>
  simp only [s9, dj]
  rw [hev x (by simp [Op.operands])]
  split
  ·rename_i hu; rw [hu]; exact da.val h (VX _ _)
  ·exact da.no
 case makeFunc fn first captured =>
  simp only [s9, dj]
  rw [arr first fun x hx => hev x (by simp only [Op.operands, Array.toList_append, List.mem_append]; exact .inl hx), arr captured fun x hx => hev x (by simp only [Op.operands, Array.toList_append, List.mem_append]; exact .inr hx)]
  intro v E' hx; cases hx; exact ⟨H, by simp, h⟩
 case makeMap t r =>
  cases r with
  | none =>
   intro v E' hx
   simp only [s9] at hx
   simp only [dj]
   obtain ⟨E1, h1, e⟩ := Option.map_eq_some_iff.1 hx
   cases e
   exact ⟨H.push (Hc g d (.map [] 0)), by simp [h.new, Hc], h.push h1⟩
  | some r => exact da.no
 case makeSlice t l k =>
  simp only [s9, dj]
  rw [hev l (by simp [Op.operands]), hev k (by simp [Op.operands])]
  exact da.bind fun el _ => da.bind fun e _ => da.bind fun by' _ => da.bind fun z hz => h.make (iw hz).2 _ _ _ _
 case slice t x lo hi mx =>
  have hx := hev x (by simp [Op.operands])
  have ho : ∀ (q : Option Operand), (∀ y ∈ q.toArray.toList, ev' y = (bm g d) (ev y)) → q.map ev' = (q.map ev).map (bm g d) := by
   intro q hq
   cases q with
   | none => rfl
   | some y => simp [hq y (by simp)]
  have hlo : lo.map ev' = (lo.map ev).map (bm g d) := ho lo fun y hy => hev y (by simp only [Op.operands, Array.toList_append, List.mem_append]; exact .inl (.inl (.inr hy)))
  have hhi : hi.map ev' = (hi.map ev).map (bm g d) := ho hi fun y hy => hev y (by simp only [Op.operands, Array.toList_append, List.mem_append]; exact .inl (.inr hy))
  have hmx : mx.map ev' = (mx.map ev).map (bm g d) := ho mx fun y hy => hev y (by simp only [Op.operands, Array.toList_append, List.mem_append]; exact .inr hy)
  cases mx with
  | none =>
   simp only [s9, dj]
   rw [hx, hlo, hhi]
   exact da.bind fun el _ => da.bind fun e _ => da.val h (QG _ _ _ _)
  | some mx =>
   cases lo with
   | some lo => cases hi <;> exact da.no
   | none =>
    cases hi with
    | none => exact da.no
    | some hi =>
     simp only [Option.map_some, Option.some.injEq] at hhi hmx
     simp only [s9, dj]
     rw [hx, hhi, hmx]
     refine da.bind fun el _ => da.bind fun e _ => ?_
     intro v E' hv
     obtain ⟨z, hz, e⟩ := Option.map_eq_some_iff.1 hv
     cases e
     rw [Kn hz]
     exact ⟨H, rfl, h⟩
 case fieldAddr st x f =>
  simp only [s9, dj]
  rw [hev x (by simp [Op.operands])]
  refine da.bind fun f _ => da.bind fun n _ => ?_
  split
  ·exact da.no
  ·exact da.val h (X3 _ _)
 case field st x f =>
  simp only [s9, dj]
  rw [hev x (by simp [Op.operands])]
  exact da.bind fun f _ => da.bind fun n _ => da.val h (V0 _ _ _)
 case indexAddr t x i =>
  simp only [s9, dj]
  rw [hev x (by simp [Op.operands]), hev i (by simp [Op.operands])]
  split
  ·rename_i hu; rw [hu]; exact da.bind fun e _ => da.val h (X4 _ _ _)
  ·rename_i hu; rw [hu]; exact da.bind fun e _ => da.val h (VZ _ _ _ _)
  ·exact da.no
 case index t x i =>
  simp only [s9, dj]
  rw [hev x (by simp [Op.operands]), hev i (by simp [Op.operands])]
  split
  ·rename_i hu; rw [hu]; exact da.bind fun e _ => da.bind fun n _ => da.val h (Km _ _ _ _ _)
  ·rename_i hu; rw [hu]; exact da.val h (Kl _ _)
  ·exact da.no
 case lookup t m k ok =>
  simp only [s9, dj]
  rw [hev m (by simp [Op.operands]), hev k (by simp [Op.operands])]
  exact da.bind fun kt _ => da.bind fun fl _ => da.bind fun z hz => da.val h (h.lookup fl (iw hz).1 _ _ _)
 case mapUpdate t m k x =>
  simp only [s9, dj]
  rw [hev m (by simp [Op.operands]), hev k (by simp [Op.operands]), hev x (by simp [Op.operands])]
  exact da.bind fun kt _ => da.bind fun fl _ => da.heap _ oz (h.update _ _ _ _)
 case extract t i =>
  simp only [s9, dj]
  rw [hev t (by simp [Op.operands])]
  exact da.val h (GI _ _)
 case call k =>
  obtain ⟨callee, args, ats⟩ := k
  have ha : args.toList.map ev' = fc g d (args.toList.map ev) := HS fun x hx => hev x (by simp only [Op.operands, Call.operands, Array.toList_append, List.mem_append]; exact .inr hx)
  cases callee with
  | builtin b =>
   simp only [s9, dj]
   rw [ha]
   exact Eu h _ _ _
  | value f =>
   simp only [s9, dj]
   rw [ha, hev f (by simp [Op.operands, Call.operands])]
   intro v E' hx
   obtain ⟨q, hq, hx⟩ := Option.bind_eq_some_iff.1 hx
   rw [Kk, hq]
   exact hc E H _ _ h v E' hx
  | invoke r m => exact da.no
 all_goals exact da.no
end
def Yb (T : Tr Value) : Operand → Value
 | .tmp t => match T.get t with
  | some v => v
  | none => undef
 | .const v => v
 | .global g => .pointer (some ⟨g, 0, none⟩)
 | .func f => .func (.func f) #[] #[]
def Yc (m : Nat) (T : Tr Value) (dst : Option Tmp) (v : Value) : Option (Tr Value) :=
 match dst with
 | some j => match Nat.blt j m with
  | true => Tr.set v 24 T j
  | false => none
 | none => some T
def Kw (ops : Array Oper) (T : Tr Value) (j : Nat) : Option Bool :=
 match (ops[j]?).bind (·.dst) with
 | some t => match T.get t with
  | some (.bool b) => some b
  | _ => none
 | none => none
def Nw (P : Program) (G : List Nat) (call : TF) (ops : Array Oper) (m : Nat) (o : Oper) (T : Tr Value) (E : EH) : Option (Tr Value × EH) :=
 match o.op.operands.toList.all (Hb G) with
 | true => match Region.wanted o (Kw ops T) with
  | true => (s9 P call (Yb T) o E).bind fun r => (Yc m T o.dst r.1).map fun T' => (T', r.2)
  | false => (Yc m T o.dst undef).map fun T' => (T', E)
 | false => none
def Kv (P : Program) (G : List Nat) (call : TF) (ops : Array Oper) (m : Nat) : List Oper → Tr Value → EH → List (Tr Value × EH) → Option (List (Tr Value × EH) × Tr Value × EH)
 | [], T, E, hist => some (hist ++ [(T, E)], T, E)
 | o :: rest, T, E, hist => (Nw P G call ops m o T E).bind fun r => Kv P G call ops m rest r.1 r.2 (hist ++ [(T, E)])
def Y9 (P : Program) (G : List Nat) (hist : List (Tr Value × EH)) (ops : Array Oper) (p : Nat × Nat) : Bool :=
 match ops[p.1]?, hist[p.1]?, hist[if p.2 < p.1 then p.2 else p.2 + 1]? with
 | some o, some s, some s' => o.op.operands.toList.all (Hb G) && eqO (tRd P (Yb s.1) o.op s'.2) (tRd P (Yb s.1) o.op s.2)
 | _, _, _ => false
def wm (P : Program) (G : List Nat) (call : TF) (ops : Array Oper) (m : Nat) (draw : Bool) (T : Tr Value) (E : EH) : Option (Tr Value × EH) :=
 match draw with
 | true => match pW ops.toList with
  | true => (Kv P G call ops m ops.toList T E []).bind fun r => match (cO ops.toList).all (Y9 P G r.1 ops) with
   | true => some r.2
   | false => none
  | false => none
 | false => (Kv P G call ops m ops.toList T E []).map (·.2)
abbrev TR := AE × Tr Value × EH
def Nv (f : Tr Value → EH → Option TR) : Nat → Tr Value → EH → Option TR
 | 0, _, _ => none
 | n + 1, T, E => (f T E).bind fun r => match r.1 with
  | .normal => Nv f n r.2.1 r.2.2
  | _ => some r
def gP (P : Program) (G : List Nat) (call : TF) (N m : Nat) : Code → Tr Value → EH → Option TR
 | .skip, T, E => some (.normal, T, E)
 | .label _, T, E => some (.normal, T, E)
 | .region _ ops draw, T, E => (wm P G call ops m draw T E).map fun s => (.normal, s.1, s.2)
 | .seq x y, T, E => (gP P G call N m x T E).bind fun r => match r.1 with
  | .normal => gP P G call N m y r.2.1 r.2.2
  | _ => some r
 | .cond c x y, T, E => match Hb G c with
  | true => match Yb T c with
   | .bool true => gP P G call N m x T E
   | .bool false => gP P G call N m y T E
   | _ => none
  | false => none
 | .block id x, T, E => (gP P G call N m x T E).map fun r => match r.1 with
  | .exit i => if i = id then (.normal, r.2.1, r.2.2) else r
  | _ => r
 | .loop x, T, E => Nv (gP P G call N m x) N T E
 | .exit id, T, E => some (.exit id, T, E)
 | .ret, T, E => some (.ret, T, E)
 | _, _, _ => none
def zo (T : Tr Value) (t : Nat) : Value := match T.get t with
 | some v => v
 | none => undef
def ta (P : Program) (T : Tr Value) (E : EH) : ResultVar → Option Value
 | .tmp t => some (zo T t)
 | .cell a t => (dJ P t).bind fun g => match g with
  | some n => RL n (zo T a) E
  | none => RK (zo T a) E
def BB (P : Program) (T : Tr Value) (E : EH) : List ResultVar → Option (List Value)
 | [] => some []
 | r :: rs => (ta P T E r).bind fun v => (BB P T E rs).bind fun vs => some (v :: vs)
def Wc (P : Program) (rs : List ResultVar) (r : TR) : Option (Value × EH) :=
 match r.1 with
 | .exit _ => none
 | _ => (BB P r.2.1 r.2.2 rs).map fun vs => (match vs with
  | [v] => v
  | vs => .tuple vs.toArray, r.2.2)
def GO : List Value → Nat → Tr Value → Option (Tr Value)
 | [], _, T => some T
 | v :: vs, i, T => (Tr.set v 24 T i).bind fun T' => GO vs (i + 1) T'
def Wb (P : Program) (G : List Nat) (call : TF) (N n : Nat) (rs : List ResultVar) (s : DSh) (T : Tr Value) (E : EH) : Option (Value × EH) :=
 (gP P G call N n s.c1 T E).bind fun r => match r.1 with
  | .normal => match Nat.blt s.t n with
   | true => (Nw P G call s.ops2 n s.om r.2.1 r.2.2).bind fun q => (Kv P G call s.ops3 n s.ops3.toList q.1 q.2 []).bind fun z => Wc P rs (.normal, z.2.1, z.2.2)
   | false => none
  | _ => none
def BA (P : Program) (G D : List Nat) (N : Nat) : Nat → TF
 | 0 => fun _ _ _ => none
 | k + 1 => fun f args E => match P.funcs[f]? with
  | some fn => if fn.name = "runtime.NumGoroutine" then none else match fn.body with
   | some c => match Nat.ble args.length fn.ntmps with
    | true => (GO args 0 .lf).bind fun T => match iU c with
     | none => (gP P G (BA P G D N k) N fn.ntmps c T E).bind (Wc P fn.results.toList)
     | some s => match D.contains s.k with
      | true => Wb P G (BA P G D N k) N fn.ntmps fn.results.toList s T E
      | false => none
    | false => none
   | none => none
  | none => none
section
variable {P : Program} {G : List Nat} {g d m N : Nat} {F : List AObj}
structure ER (g d m : Nat) (T : Tr Value) (A : List Value) : Prop where
 len : A.length = m
 get : ∀ t, A[t]?.getD undef = bm g d (zo T t)
theorem GN {v : Value} {T T' : Tr Value} {j : Nat} (h : Tr.set v 24 T j = some T') (t : Nat) : zo T' t = if t = j then v else zo T t := by
 unfold zo
 rw [Tr.get_set 24 h t]
 by_cases e : t = j
 ·rw [if_pos e, if_pos e]
 ·rw [if_neg e, if_neg e]
theorem ER.put {T T' : Tr Value} {A : List Value} (h : ER g d m T A) {dst : Option Tmp} {v : Value} (hp : Yc m T dst v = some T') : ER g d m T' (i7 A dst ((bm g d) v)) := by
 unfold Yc at hp
 cases dst with
 | none => cases hp; exact h
 | some j =>
  simp only at hp
  split at hp
  ·rename_i hb
   have hj : j < m := Nat.le_of_ble_eq_true hb
   refine ⟨by simp [i7, h.len], fun t => ?_⟩
   rw [GN hp]
   simp only [i7]
   rw [List.getElem?_set]
   by_cases e : t = j
   ·rw [if_pos e, if_pos e.symm, if_pos (by rw [h.len]; omega)]; rfl
   ·rw [if_neg e, if_neg (fun x => e x.symm)]; exact h.get t
  ·cases hp
theorem ER.ev {T : Tr Value} {A : List Value} (h : ER g d m T A) (hG : ∀ b ∈ G, b < g) {x : Operand} (hx : Hb G x = true) : dK A x = (bm g d) (Yb T x) := by
 cases x with
 | tmp t => exact h.get t
 | const v => exact (GH hx).symm
 | global b =>
  simp only [Hb, List.contains_iff_mem] at hx
  simp [dK, Yb, uK, vB, hG b hx]
 | func f => simp [dK, Yb]
theorem ER.yield {T : Tr Value} {A : List Value} (h : ER g d m T A) (ops : Array Oper) : cK ops A = Kw ops T := by
 funext j
 unfold cK Kw
 cases (ops[j]?).bind (·.dst) with
 | none => rfl
 | some t =>
  simp only [Option.bind_some]
  have hg := h.get t
  unfold zo at hg
  cases hT : T.get t with
  | none =>
   rw [hT] at hg
   simp only [oz] at hg
   cases hA : A[t]? with
   | none => rfl
   | some v => rw [hA] at hg; simp only [Option.getD_some] at hg; subst hg; rfl
  | some v =>
   rw [hT] at hg
   simp only at hg
   cases hA : A[t]? with
   | none => rw [hA] at hg; simp only [Option.getD_none] at hg; cases v <;> simp [undef] at hg ⊢
   | some w => rw [hA] at hg; simp only [Option.getD_some] at hg; subst hg; cases v <;> simp
structure St (g d m : Nat) (F : List AObj) (x : Tr Value × EH) (y : List Value × AH) : Prop where
 er : ER g d m x.1 y.1
 hr : HR g d F x.2 y.2
theorem GK {c : TF} {c' : be} (hG : ∀ b ∈ G, b < g) (hc : oK g d F c c') {ops : Array Oper} {o : Oper} {T : Tr Value} {E : EH} {A : List Value} {H : AH} {r} (hS : St g d m F (T, E) (A, H)) (h : Nw P G c ops m o T E = some r) :
 ∃ r', eh P G c' ops o A H = some r' ∧ St g d m F r r' := by
 unfold Nw at h
 unfold eh
 split at h
 ·rename_i hok
  rw [if_pos hok]
  have hev : ∀ x, x ∈ o.op.operands.toList → dK A x = (bm g d) (Yb T x) := fun x hx => hS.er.ev hG (List.all_eq_true.1 hok x hx)
  rw [hS.er.yield]
  split at h
  ·rename_i hw
   rw [if_pos hw]
   obtain ⟨⟨v, E1⟩, h1, h⟩ := Option.bind_eq_some_iff.1 h
   obtain ⟨T', h2, e⟩ := Option.map_eq_some_iff.1 h
   cases e
   obtain ⟨H', h3, h4⟩ := ZX hS.hr hc hev v E1 h1
   rw [h3]
   exact ⟨_, rfl, hS.er.put h2, h4⟩
  ·rename_i hw
   rw [if_neg (by rw [hw]; simp)]
   obtain ⟨T', h2, e⟩ := Option.map_eq_some_iff.1 h
   cases e
   refine ⟨_, rfl, ?_, hS.hr⟩
   have := hS.er.put h2
   rwa [oz] at this
 ·cases h
theorem Dc {c : TF} {c' : be} (hG : ∀ b ∈ G, b < g) (hc : oK g d F c c') {ops : Array Oper} : ∀ (l : List Oper) {T : Tr Value} {E : EH} {A : List Value} {H : AH} {hist r}, St g d m F (T, E) (A, H) → Kv P G c ops m l T E hist = some r →
 (∃ r', cp P G c' ops l A H = some r' ∧ St g d m F r.2 r') ∧ ∃ t, r.1 = hist ++ t ∧ t.length = l.length + 1 ∧ ∀ i, i ≤ l.length → ∃ x y, t[i]? = some x ∧ cp P G c' ops (l.take i) A H = some y ∧ St g d m F x y := by
 intro l
 induction l with
 | nil =>
  intro T E A H hist r hS h
  simp only [Kv] at h; cases h
  refine ⟨⟨_, rfl, hS⟩, [(T, E)], rfl, rfl, ?_⟩
  intro i hi
  have : i = 0 := by simpa using hi
  subst this
  exact ⟨_, _, rfl, rfl, hS⟩
 | cons o l ih =>
  intro T E A H hist r hS h
  simp only [Kv] at h
  obtain ⟨q, hq, h⟩ := Option.bind_eq_some_iff.1 h
  obtain ⟨⟨A1, H1⟩, h1, hS1⟩ := GK hG hc hS hq
  obtain ⟨T1, E1⟩ := q
  obtain ⟨⟨r', h2, hS2⟩, t, e, hl, ht⟩ := ih hS1 h
  refine ⟨⟨r', by simp only [cp, h1, Option.bind_some]; exact h2, hS2⟩, (T, E) :: t, by rw [e]; simp, by simp [hl], ?_⟩
  intro i hi
  cases i with
  | zero => exact ⟨_, _, rfl, rfl, hS⟩
  | succ i =>
   obtain ⟨x, y, hx, hy, hxy⟩ := ht i (by simpa using hi)
   exact ⟨x, y, by simpa using hx, by simp only [List.take_succ_cons, cp, h1, Option.bind_some]; exact hy, hxy⟩
theorem JN {c : TF} {c' : be} (hG : ∀ b ∈ G, b < g) (hc : oK g d F c c') {ops : Array Oper} {draw : Bool} {T : Tr Value} {E : EH} {A : List Value} {H : AH} {r} (hS : St g d m F (T, E) (A, H)) (h : wm P G c ops m draw T E = some r) :
 ∃ r', d7 P G c' ops draw A H = some r' ∧ St g d m F r r' := by
 cases draw with
 | false =>
  simp only [wm, d7] at h ⊢
  obtain ⟨q, hq, e⟩ := Option.map_eq_some_iff.1 h
  subst e
  exact (Dc hG hc _ hS hq).1
 | true =>
  simp only [wm, d7] at h ⊢
  split at h
  ·rename_i hreg
   obtain ⟨q, hq, h⟩ := Option.bind_eq_some_iff.1 h
   split at h
   ·rename_i hall
    cases h
    obtain ⟨⟨r', h1, h2⟩, t, e, hl, ht⟩ := Dc hG hc _ hS hq
    refine ⟨r', ?_, h2⟩
    unfold ka
    rw [hreg]
    simp only
    cases hp : cO ops.toList with
    | nil => exact h1
    | cons p ps =>
     simp only
     rw [iG ?_]
     ·exact h1
     ·rw [← hp]
      intro p hpm o ho
      have hx := List.all_eq_true.1 hall p hpm
      unfold Y9 at hx
      rw [ho] at hx
      simp only [List.nil_append] at e
      have st : ∀ i x, q.1[i]? = some x → St g d m F x (gY P G c' ops A H i) := by
       intro i x hs
       have hi : i < t.length := by rw [e] at hs; exact (List.getElem?_eq_some_iff.1 hs).1
       obtain ⟨x', y, hx', hy, hxy⟩ := ht i (by omega)
       rw [e, hx'] at hs
       cases hs
       unfold gY
       rw [hy]
       exact hxy
      split at hx
      ·rename_i o' x1 x2 ho' hs hs'
       cases ho'
       simp only [Bool.and_eq_true] at hx
       have hev : ∀ x, x ∈ o.op.operands.toList → dK (gY P G c' ops A H p.1).1 x = (bm g d) (Yb x1.1 x) := fun x hxm => (st _ _ hs).er.ev hG (List.all_eq_true.1 hx.1 x hxm)
       rw [Y5 (st _ _ hs').hr hev, Y5 (st _ _ hs).hr hev, Oe hx.2]
      ·cases hx
   ·cases h
  ·cases h
structure Ar (g d m : Nat) (F : List AObj) (x : TR) (y : AR) : Prop where
 e : x.1 = y.1
 st : St g d m F x.2 y.2
theorem EA {c : TF} {c' : be} (hG : ∀ b ∈ G, b < g) (hc : oK g d F c c') : ∀ (k : Code) {T : Tr Value} {E : EH} {A : List Value} {H : AH} {r : TR}, St g d m F (T, E) (A, H) → gP P G c N m k T E = some r →
 ∃ r', aK P G c' k A H = some r' ∧ Ar g d m F r r' := by
 intro k
 induction k with
 | region id ops draw =>
  intro T E A H r hS hr
  simp only [gP, aK] at hr ⊢
  obtain ⟨q, hq, e⟩ := Option.map_eq_some_iff.1 hr
  obtain ⟨r', h1, h2⟩ := JN hG hc hS hq
  subst e
  rw [h1]
  exact ⟨_, rfl, rfl, h2⟩
 | seq x y ihx ihy =>
  intro T E A H r hS hr
  simp only [gP, aK] at hr ⊢
  obtain ⟨⟨e, T1, E1⟩, hx, hr⟩ := Option.bind_eq_some_iff.1 hr
  obtain ⟨⟨e', A1, H1⟩, h1, h2⟩ := ihx hS hx
  have he : e = e' := h2.e
  subst he
  rw [h1]
  simp only [Option.bind_some]
  cases e with
  | normal => exact ihy h2.st hr
  | exit i => cases hr; exact ⟨_, rfl, h2⟩
  | ret => cases hr; exact ⟨_, rfl, h2⟩
 | cond b x y ihx ihy =>
  intro T E A H r hS hr
  simp only [gP, aK] at hr ⊢
  split at hr
  ·rename_i hok
   rw [hS.er.ev hG hok]
   split at hr
   ·rename_i e; rw [e]; simp only [Np]; exact ihx hS hr
   ·rename_i e; rw [e]; simp only [Np]; exact ihy hS hr
   ·cases hr
  ·cases hr
 | block id x ih =>
  intro T E A H r hS hr
  simp only [gP, aK] at hr ⊢
  obtain ⟨⟨e, T1, E1⟩, hx, hr⟩ := Option.map_eq_some_iff.1 hr
  obtain ⟨⟨e', A1, H1⟩, h1, h2⟩ := ih hS hx
  have he : e = e' := h2.e
  subst he
  rw [h1]
  subst hr
  cases e with
  | normal => exact ⟨_, rfl, h2⟩
  | exit i =>
   simp only [Option.map_some]
   by_cases hi : i = id
   ·rw [if_pos hi, if_pos hi]; exact ⟨_, rfl, rfl, h2.st⟩
   ·rw [if_neg hi, if_neg hi]; exact ⟨_, rfl, h2⟩
  | ret => exact ⟨_, rfl, h2⟩
 | loop x ih =>
  intro T E A H r hS hr
  simp only [gP, aK] at hr ⊢
  suffices key : ∀ n T E A H, St g d m F (T, E) (A, H) → Nv (gP P G c N m x) n T E = some r → ∃ r', du (aK P G c' x) n A H = some r' ∧ Ar g d m F r r' from by
   obtain ⟨r', h1, h2⟩ := key N T E A H hS hr
   exact ⟨r', cn.2 ⟨N, h1⟩, h2⟩
  clear hr hS
  intro n
  induction n with
  | zero => intro T E A H hS hr; cases hr
  | succ n ihn =>
   intro T E A H hS hr
   simp only [Nv, du] at hr ⊢
   obtain ⟨⟨e, T1, E1⟩, hx, hr⟩ := Option.bind_eq_some_iff.1 hr
   obtain ⟨⟨e', A1, H1⟩, h1, h2⟩ := ih hS hx
   have he : e = e' := h2.e
   subst he
   rw [h1]
   simp only [Option.bind_some]
   cases e with
   | normal => exact ihn _ _ _ _ h2.st hr
   | exit i => cases hr; exact ⟨_, rfl, h2⟩
   | ret => cases hr; exact ⟨_, rfl, h2⟩
 | skip => intro T E A H r hS hr; simp only [gP] at hr; cases hr; exact ⟨_, rfl, rfl, hS⟩
 | label l => intro T E A H r hS hr; simp only [gP] at hr; cases hr; exact ⟨_, rfl, rfl, hS⟩
 | exit i => intro T E A H r hS hr; simp only [gP] at hr; cases hr; exact ⟨_, rfl, rfl, hS⟩
 | ret => intro T E A H r hS hr; simp only [gP] at hr; cases hr; exact ⟨_, rfl, rfl, hS⟩
 | _ => intro T E A H r hS hr; cases hr
theorem JQ {T : Tr Value} {E : EH} {A : List Value} {H : AH} (hS : St g d m F (T, E) (A, H)) (r : ResultVar) : i8 P A H r = (ta P T E r).map (bm g d) := by
 cases r with
 | tmp t => simp only [i8, ta, Option.map_some]; rw [hS.er.get t]
 | cell a t =>
  simp only [i8, ta]
  rw [hS.er.get a]
  cases dJ P t with
  | none => rfl
  | some n => cases n with
   | none => exact hS.hr.ld1 _
   | some n => exact hS.hr.ldN _ _
theorem UE {T : Tr Value} {E : EH} {A : List Value} {H : AH} (hS : St g d m F (T, E) (A, H)) : ∀ rs : List ResultVar, pK P A H rs = (BB P T E rs).map (fc g d) := by
 intro rs
 induction rs with
 | nil => rfl
 | cons r rs ih =>
  simp only [pK, BB]
  rw [JQ hS, ih]
  cases ta P T E r with
  | none => rfl
  | some v => cases BB P T E rs <;> rfl
theorem Mq {rs : List ResultVar} {x : TR} {y : AR} (h : Ar g d m F x y) : da g d F (Wc P rs x) (Rl P rs y) := by
 intro v E' hx
 obtain ⟨e, T, E⟩ := x
 obtain ⟨e', A, H⟩ := y
 have he : e = e' := h.e
 subst he
 have hS := h.st
 have hm := UE (P := P) hS rs
 have key : ∀ vs, BB P T E rs = some vs → gl P A H rs = some ((bm g d) (match vs with | [v] => v | vs => .tuple vs.toArray)) := by
  intro vs hvs
  unfold gl
  rw [hm, hvs]
  simp only [Option.map_some]
  congr 1
  match vs with
  | [] => simp [fc]
  | [v] => rfl
  | v :: w :: vs => simp [fc]
 cases e with
 | exit i => cases hx
 | normal =>
  simp only [Wc, Rl] at hx ⊢
  obtain ⟨vs, hvs, e⟩ := Option.map_eq_some_iff.1 hx
  cases e
  rw [key vs hvs]
  exact ⟨H, rfl, hS.hr⟩
 | ret =>
  simp only [Wc, Rl] at hx ⊢
  obtain ⟨vs, hvs, e⟩ := Option.map_eq_some_iff.1 hx
  cases e
  rw [key vs hvs]
  exact ⟨H, rfl, hS.hr⟩
theorem Uq : ∀ (vs : List Value) (i : Nat) (T : Tr Value) {T' : Tr Value}, GO vs i T = some T' → ∀ t, zo T' t = if i ≤ t ∧ t < i + vs.length then (vs[t - i]?).getD undef else zo T t := by
 intro vs
 induction vs with
 | nil => intro i T T' h t; simp only [GO] at h; cases h; rw [if_neg (by simp only [List.length_nil]; omega)]
 | cons v vs ih =>
  intro i T T' h t
  simp only [GO] at h
  obtain ⟨T1, h1, h⟩ := Option.bind_eq_some_iff.1 h
  rw [ih _ _ h t, GN h1]
  by_cases e1 : i + 1 ≤ t ∧ t < i + 1 + vs.length
  ·rw [if_pos e1, if_pos (by simp; omega)]
   rw [show t - i = (t - (i + 1)) + 1 from by omega, List.getElem?_cons_succ]
  ·rw [if_neg e1]
   by_cases e2 : t = i
   ·subst e2; rw [if_pos rfl, if_pos (by simp)]; simp
   ·rw [if_neg e2, if_neg (by simp; omega)]
theorem RC {D : List Nat} (hG : ∀ b ∈ G, b < g) (hD : ∀ k ∈ D, qZ P k) : ∀ k, oK g d F (BA P G D N k) (dI P G k) := by
 intro k
 induction k with
 | zero => intro E H f args hR v E' h; cases h
 | succ k ih =>
  intro E H f args hR v E' h
  rw [BA] at h
  rw [dI]
  simp only [] at h ⊢
  cases hf : P.funcs[f]? with
  | none => rw [hf] at h; cases h
  | some fn =>
   rw [hf] at h
   simp only at h ⊢
   split at h
   ·cases h
   ·rename_i hn
    rw [if_neg hn]
    cases hb : fn.body with
    | none => rw [hb] at h; cases h
    | some c =>
     rw [hb] at h
     simp only at h ⊢
     split at h
     ·rename_i hle
      have hle := Nat.le_of_ble_eq_true hle
      obtain ⟨T, hT, h⟩ := Option.bind_eq_some_iff.1 h
      have hS : St g d fn.ntmps F (T, E) (fc g d args ++ List.replicate (fn.ntmps - (fc g d args).length) undef, H) := by
       refine ⟨⟨by simp; omega, fun t => ?_⟩, hR⟩
       rw [Uq _ _ _ hT]
       simp only [fc, List.getElem?_append, List.length_map, List.getElem?_map, List.getElem?_replicate]
       by_cases e : t < args.length
       ·rw [if_pos (show 0 ≤ t ∧ t < 0 + args.length from by omega), if_pos e]
        simp [List.getElem?_eq_getElem e]
       ·rw [if_neg (show ¬ (0 ≤ t ∧ t < 0 + args.length) from by omega), if_neg e]
        have : zo .lf t = undef := rfl
        rw [this, oz]
        split <;> rfl
      cases hd : iU c with
      | none =>
       rw [hd] at h
       obtain ⟨r, hr, h⟩ := Option.bind_eq_some_iff.1 h
       obtain ⟨r', h1, h2⟩ := EA hG ih c hS hr
       simp only
       unfold mF
       rw [h1]
       exact Mq h2 v E' h
      | some q =>
       rw [hd] at h
       simp only at h ⊢
       split at h
       ·rename_i hin
        rw [iG (hD _ (by simpa using hin))]
        unfold Wb at h
        unfold lS
        obtain ⟨⟨e1, T1, E1⟩, hr, h⟩ := Option.bind_eq_some_iff.1 h
        obtain ⟨⟨e2, A1, H1⟩, h1, h2⟩ := EA hG ih q.c1 hS hr
        have he : e1 = e2 := h2.e
        subst he
        rw [h1]
        simp only [Option.bind_some]
        cases e1 with
        | exit i => cases h
        | ret => cases h
        | normal =>
         simp only at h ⊢
         split at h
         ·rename_i hlt
          have hlt : q.t < fn.ntmps := Nat.le_of_ble_eq_true hlt
          have hlen : A1.length = fn.ntmps := h2.st.er.len
          rw [if_neg (by omega)]
          obtain ⟨⟨T2, E2⟩, h3, h⟩ := Option.bind_eq_some_iff.1 h
          obtain ⟨⟨A2, H2⟩, h4, h5⟩ := GK hG ih h2.st h3
          obtain ⟨z, h6, h⟩ := Option.bind_eq_some_iff.1 h
          obtain ⟨⟨⟨A3, H3⟩, h7, h8⟩, _⟩ := Dc hG ih _ h5 h6
          rw [h4]
          simp only [Option.bind_some]
          rw [h7]
          exact Mq (x := (.normal, z.2.1, z.2.2)) (y := (.normal, A3, H3)) ⟨rfl, h8⟩ v E' h
         ·cases h
       ·cases h
     ·cases h
end
def UY (tab : List Value) : Option (Value × EH) → Bool
 | some (.bool true, E) => match E.get 0 with
  | some (.cells true cs) => zR (W6 0) cs tab
  | _ => false
 | _ => false
def GP (tab : List Value) : EH := ⟨1, .nd (some (.cells true tab)) .lf .lf⟩
theorem Hw {P : Program} {D : List Nat} {N k f : Nat} {tab : List Value} (hD : ∀ k ∈ D, qZ P k) (hl : tab.all cw = true) (h : UY tab (BA P [0] D N k f [] (GP tab)) = true)
 {H : AH} (hH : H.get 0 = some (.cells true tab)) : ∃ H', aF P [0] f [] H = some (.bool true, H') ∧ H.size ≤ H'.size ∧ ∀ i, i < H.size → H'.get i = H.get i := by
 obtain ⟨objs⟩ := H
 cases objs with
 | nil => cases hH
 | cons o F =>
  have ho : o = .cells true tab := by simpa [AH.get] using hH
  subst ho
  have hR : HR 1 F.length F (GP tab) ⟨.cells true tab :: F⟩ := by
   refine ⟨rfl, Nat.le_refl _, by simp [AH.size, GP, Nat.add_comm], fun b => ?_, fun b hb => ?_, fun b h1 h2 => ?_⟩
   ·cases b with
    | zero =>
     have : vB 1 F.length 0 = 0 := rfl
     rw [this]
     show some _ = some (AObj.cells true (fc 1 F.length tab))
     rw [s5 hl]
    | succ b =>
     have e : vB 1 F.length (b + 1) = b + 1 + F.length := by simp [vB]
     have e2 : (GP tab).get (b + 1) = none := by
      simp only [EH.get, GP, Tr.get]; split <;> rfl
     rw [e, e2]
     exact AH.get_none (by simp [AH.size]; omega)
   ·have : 1 ≤ b := hb
    obtain ⟨b, rfl⟩ : ∃ c, b = c + 1 := ⟨b - 1, by omega⟩
    simp only [EH.get, GP, Tr.get]; split <;> rfl
   ·obtain ⟨b, rfl⟩ : ∃ c, b = c + 1 := ⟨b - 1, by omega⟩
    simp [AH.get]
  unfold UY at h
  split at h
  ·rename_i E' hE
   obtain ⟨H', h1, h2⟩ := RC (F := F) (N := N) (P := P) (by simp) hD k (GP tab) _ f [] hR _ _ hE
   refine ⟨H', ?_, ?_, fun i hi => ?_⟩
   ·have := KP k _ _ _ _ h1
    simpa using this
   ·rw [h2.size]
    have := h2.le
    simp [AH.size]; omega
   ·split at h
    ·rename_i cs hcs
     have he : cs = tab := wZ (At 0) _ _ h
     subst he
     cases i with
     | zero =>
      have := h2.get 0
      rw [show vB 1 F.length 0 = 0 from rfl, hcs] at this
      rw [this]
      show some (AObj.cells true (fc 1 F.length cs)) = _
      rw [s5 hl]; rfl
     | succ i =>
      have hi : i < F.length := by simpa [AH.size] using hi
      rw [h2.fr (i + 1) (by omega) (by omega)]
      simp [AH.get]
    ·cases h
  ·cases h
section
variable {P : Program} {w : World} {ev : Operand → Value} {d : Option Tmp} {x : Operand} {v a b : Value} {y : TypeId} {p : String} {e : Array Edge} {gd : Option (Nat × Bool)}
end
def tabC : List Value := [0,1,56,2,57,49,28,3,61,58,42,50,38,29,17,4,62,47,59,36,45,43,51,22,53,39,33,30,24,18,12,5,63,55,48,27,60,41,37,16,46,35,44,21,52,32,23,11,54,26,40,15,34,20,31,10,25,14,19,9,13,8,7,6].map fun n => .int .u8 n
theorem NU : UY tabC (BA Tryz.prog [0] [] 100000 60 10 [] (GP tabC)) = true := by decide +kernel
theorem ae.keeps {P : SP} {H H' : AH} (h : ae P H) (k : ∀ i, i < H.size → H'.get i = H.get i) : ae P H' := by
 obtain ⟨x, hx, hg⟩ := h
 exact ⟨x, hx, fun i o hi => by
  have := hg i o hi
  rw [k i (AH.lt_of_get this)]; exact this⟩
theorem Rq {H0 : AH} (hT : H0.get 0 = some (.cells true tabC)) : Hs (XG H0) 0 (.cells true tabC) := ⟨fun h => (Fx.refl H0).fx h 0 _ hT⟩
abbrev ITy : Ty := .int .i64
abbrev CfgTy : Ty := .pair ITy (.pair ITy (.pair ITy (.pair ITy (.pair (.int .u64) .unit))))
theorem WX {H : AH} {x : CfgTy.I} {cs : List Value} (h : Abs H CfgTy x cs) : ∃ c : fO, cs = fO.cells c := by
 obtain ⟨c1, c2, rfl, h1, c3, c4, rfl, h2, c5, c6, rfl, h3, c7, c8, rfl, h4, c9, c10, rfl, h5, h6⟩ := h
 have h6 : c10 = [] := h6
 obtain ⟨e5, hw⟩ := h5
 have : 0 ≤ x.2.2.2.2.1 ∧ x.2.2.2.2.1 ≤ 18446744073709551615 := by simpa [Lit.wf, IntKind.has, IntKind.min, IntKind.max, IntKind.bits, IntKind.signed] using hw
 refine ⟨⟨x.1, x.2.1, x.2.2.1, x.2.2.2.1, x.2.2.2.2.1.toNat⟩, ?_⟩
 rw [h1.1, h2.1, h3.1, h4.1, e5, h6]
 show _ = [vi x.1, vi x.2.1, vi x.2.2.1, vi x.2.2.2.1, .int .u64 ((x.2.2.2.2.1.toNat : Nat) : Int)]
 rw [Int.toNat_of_nonneg this.1]
 rfl
theorem QW {P : SP} {H : AH} {k : Value × AH → OV} {Q : Value → AH → Prop} (h : ae P H) [i : Hs P 0 (.cells true tabC)] (hk : ∀ H', ae P H' → wp (k (vb true, H')) Q) : wp ((FF n4 [] H).bind k) Q := by
 obtain ⟨H', e, _, hg⟩ := Hw (D := []) (fun j hj => by cases hj) (by decide) NU (i.get h)
 have e' : FF n4 [] H = some (vb true, H') := e
 rw [e']
 exact hk H' (h.keeps hg)
section
variable {p xx b b2 : Nat} {σ : aX} {R : SP}
end
structure New (σ : aX) (k : Nat) : Prop where
 si : SI σ k
 js : ∀ l, l.1 ≠ 10 → σ.μ.V l = 0
theorem QI {flow : Int} {obj : Nat} (h : obj < 4294967296) : iP flow obj % 4294967296 = obj := by
 unfold iP
 omega
theorem New.lay {σ : aX} {k : Nat} (h : New σ k) (ho : σ.obs.length < 90) (f w most : Int) (hf : 0 ≤ f ∧ f < 1000) : New (σ.lay f w most) (k + 4) := by
 obtain ⟨⟨c, N, E, pts, V, obs, cells, slot, head⟩, js⟩ := h
 obtain ⟨q1, q2, q3⟩ := tL most
 have hsl : iP f σ.obs.length < 18446744073709551616 := by unfold iP; omega
 have hlen : (σ.lay f w most).obs.length = σ.obs.length + 1 := by simp [aX.lay, aX.make]
 refine ⟨⟨c, by simp [aX.lay, aX.make]; omega, by simp [aX.lay, aX.make]; omega, by simp [aX.lay, aX.make]; omega, fun l => ?_, by rw [hlen]; omega, fun o ho2 => ?_, fun s i => ?_, fun o => ?_⟩, fun l hl => ?_⟩
 ·show (if l = (10, f.tmod σ.c.sh, f.tdiv σ.c.sh) then iP f σ.obs.length else σ.μ.V l) < _
  split
  ·exact hsl
  ·exact V l
 ·rw [hlen] at ho2
  unfold az
  show 1 ≤ ((((σ.obs ++ [_])[o]?).map _).getD []).length ∧ ((((σ.obs ++ [_])[o]?).map _).getD []).length < 1000
  by_cases e : o < σ.obs.length
  ·rw [List.getElem?_append_left e]
   exact cells o e
  ·rw [show o = σ.obs.length from by omega, List.getElem?_append_right (Nat.le_refl _), Nat.sub_self]
   show 1 ≤ (List.replicate (ew most) PN).length ∧ (List.replicate (ew most) PN).length < 1000
   rw [List.length_replicate]
   omega
 ·rw [hlen]
  show (if (10, s, i) = ((10 : Int), f.tmod σ.c.sh, f.tdiv σ.c.sh) then iP f σ.obs.length else σ.μ.V (10, s, i)) ≠ 0 → (if (10, s, i) = ((10 : Int), f.tmod σ.c.sh, f.tdiv σ.c.sh) then iP f σ.obs.length else σ.μ.V (10, s, i)) % 4294967296 < _
  split
  ·intro _
   rw [QI (by omega)]
   omega
  ·intro hv
   have := slot s i hv
   omega
 ·show (if ((12 : Int), (o : Int), (0 : Int)) = (10, f.tmod σ.c.sh, f.tdiv σ.c.sh) then iP f σ.obs.length else σ.μ.V (12, o, 0)) ≤ _
  rw [if_neg (by simp)]
  have := head o
  omega
 ·show (if l = (10, f.tmod σ.c.sh, f.tdiv σ.c.sh) then iP f σ.obs.length else σ.μ.V l) = 0
  rw [if_neg (fun e => hl (by rw [e]))]
  exact js l hl
theorem UC (c : fO) (hc : cI c = true) : ∀ n, n ≤ 16 → New (aX.made c n) (4 * n) := by
 intro n
 induction n with
 | zero =>
  intro _
  exact ⟨⟨hc, Nat.le_refl _, Nat.le_refl _, Nat.le_refl _, fun _ => (by show (0 : Nat) < _; omega), (by show (0 : Nat) ≤ _; omega), fun o ho => (by cases ho), fun s i h => absurd rfl h, fun o => Nat.le_refl _⟩, fun _ _ => rfl⟩
 | succ n ih =>
  intro hn
  have h := ih (by omega)
  have hm := (Ja c n).2.2
  unfold aX.made
  split
  ·exact h.lay (by omega) _ _ _ (by omega)
  ·exact ⟨h.si.mono (by omega), h.js⟩
theorem New.alone {σ : aX} {k : Nat} (h : New σ k) : JS σ k := by
 refine ⟨fun o => ?_, h.js _ (by simp), fun s => h.js _ (by simp)⟩
 rw [h.js (11, o, 0) (by simp)]
 refine ⟨rfl, by decide, ?_⟩
 show 0 ≤ k
 omega
theorem JS.begin {σ : aX} {k : Nat} (h : JS σ k) (who place : Int) : JS (σ.begin who place) (k + 1) := ⟨h.words.mono (by omega), h.seq, h.mx⟩
structure YS (σ : aX) (w q top : Nat) (pl : Int) (P : List Pt) : Prop where
 slot : σ.μ.V (10, 0, 0) = 4294967296
 w : σ.μ.V (11, 0, 0) = w
 h : σ.μ.V (12, 0, 0) = 0
 q : σ.μ.V (2, 0, 0) = q
 top : σ.μ.V (9, 0, 0) = top
 n : (az σ 0).length = 2
 pl : (σ.places 0).getD 0 = pl
 pts : σ.pts = P
structure YT (t : Tk) (n w : Nat) : Prop where
 at' : t.at' = n
 who : t.who = 0
 s : t.s = 0
 obj : t.obj = 0
 w : t.w = w
theorem Ve {V : bV → Nat} {l : bV} {v : Nat} : (if l = l then v else V l) = v := if_pos rfl
theorem YS.put {σ : aX} {w q top : Nat} {pl : Int} {P : List Pt} (h : YS σ w q top pl P) (l : bV) (v : Nat) (h1 : l.1 ≠ 2 ∧ l.1 ≠ 9 ∧ l.1 ≠ 10 ∧ l.1 ≠ 11 ∧ l.1 ≠ 12) : YS (σ.mem (σ.μ.put l v)) w q top pl P := by
 have e : ∀ (x : bV), x.1 ≠ l.1 → (if x = l then v else σ.μ.V x) = σ.μ.V x := fun x hx => if_neg fun e => hx (by rw [e])
 exact ⟨(e _ (fun h => h1.2.2.1 h.symm)).trans h.slot, (e _ (fun h => h1.2.2.2.1 h.symm)).trans h.w, (e _ (fun h => h1.2.2.2.2 h.symm)).trans h.h, (e _ (fun h => h1.1 h.symm)).trans h.q, (e _ (fun h => h1.2.1 h.symm)).trans h.top, h.n, h.pl, h.pts⟩
section
variable {σ : aX} {t : Tk} {now : Int} {w w' q top : Nat} {pl : Int} {P : List Pt}
def Nx (σ : aX) (t : Tk) (now : Int) (A : aX → Tk → Prop) : Prop := ∃ σ' t', ah σ t now = (σ', t', false) ∧ A σ' t'
theorem y0 (h : YS σ w q top pl P) (T : YT t 0 w') (hi : t.i = 0) (hx : cG t.x = none) (hf : t.x.flow = 0) : Nx σ t now fun σ' t' => YS σ' w q top pl P ∧ YT t' 6 w' := by
 have hl : σ.μ.V (10, t.s, (t.i : Int)) = 4294967296 := by rw [T.s, hi]; exact h.slot
 have hh : yg (σ.μ.V (10, t.s, (t.i : Int))) t.x.flow = true := by rw [hl, hf]; decide
 have ho : (aI σ t).obj = 0 := by
  show (if yg (σ.μ.V (10, t.s, (t.i : Int))) t.x.flow = true then σ.μ.V (10, t.s, (t.i : Int)) % 4294967296 else t.obj) = 0
  rw [if_pos hh, hl]
 have hs : ah σ t now = (cj σ t, { aI σ t with at' := 6 }, false) := by
  have hf' : (aI σ t).found = true := hh
  simp only [ah, T.at', hx, hf']
  rfl
 exact ⟨_, _, hs, ⟨h.slot, h.w, h.h, h.q, h.top, h.n, h.pl, h.pts⟩, ⟨rfl, T.who, T.s, ho, T.w⟩⟩
theorem y6 (h : YS σ w q top pl P) (T : YT t 6 w') : Nx σ t now fun σ' t' => YS σ' w q top pl P ∧ YT t' 7 w' := by
 have hs : ah σ t now = (σ.mem (σ.μ.acc t.who 5 (13, (t.obj : Int), 0)), { t with at' := 7 }, false) := by simp only [ah, T.at']
 exact ⟨_, _, hs, ⟨h.slot, h.w, h.h, h.q, h.top, h.n, h.pl, h.pts⟩, ⟨rfl, T.who, T.s, T.obj, T.w⟩⟩
theorem y7 (h : YS σ w q top pl P) (T : YT t 7 w') (hw : bi w ≠ 2) : Nx σ t now fun σ' t' => YS σ' w q top pl P ∧ YT t' 8 w := by
 have e : σ.μ.V (11, (t.obj : Int), 0) = w := by rw [T.obj]; exact h.w
 have hs : ah σ t now = (i6 σ t, { t with w := w, at' := 8 }, false) := by simp only [ah, T.at', e]; rw [if_neg hw]
 exact ⟨_, _, hs, ⟨h.slot, h.w, h.h, h.q, h.top, h.n, h.pl, h.pts⟩, ⟨rfl, T.who, T.s, T.obj, rfl⟩⟩
theorem y8 (h : YS σ w q top pl P) (T : YT t 8 w) (n : Nat) (hn : (if gr w 0 2 = true then 15 else if bi w = 1 then 9 else 12) = n) : Nx σ t now fun σ' t' => YS σ' w q top pl P ∧ YT t' n w := by
 have e : gT σ t = gr w 0 2 := by
  unfold gT
  rw [T.w, T.obj, h.n]
  show gr w (σ.μ.V (12, 0, 0)) 2 = _
  rw [h.h]
 have hs : ah σ t now = (fw σ t, { t with at' := n }, false) := by simp only [ah, T.at', e, T.w, ← hn]
 exact ⟨_, _, hs, ⟨h.slot, h.w, h.h, h.q, h.top, h.n, h.pl, h.pts⟩, ⟨rfl, T.who, T.s, T.obj, T.w⟩⟩
theorem y12 (h : YS σ w q top pl P) (T : YT t 12 w') : Nx σ t now fun σ' t' => YS σ' w q top pl P ∧ YT t' 13 w' := by
 have hs : ah σ t now = (σ.mem (σ.μ.cnt t.who (3, 0, 0) 4294967296), { t with at' := 13 }, false) := by simp only [ah, T.at']
 have h2 : YS (σ.mem (σ.μ.acc t.who 3 (3, 0, 0))) w q top pl P := ⟨h.slot, h.w, h.h, h.q, h.top, h.n, h.pl, h.pts⟩
 exact ⟨_, _, hs, h2.put (3, 0, 0) _ (by simp), ⟨rfl, T.who, T.s, T.obj, T.w⟩⟩
theorem Zf {n : Nat} (h : YS σ w q top pl P) (T : YT t n w) {w1 : Nat} (hw : a9 w 0 = some w1) : f7 σ.μ t.obj t.w (a9 t.w 0) = true ∧ YS ((σ.mem (σ.μ.turn t.who t.obj t.w (a9 t.w 0))).note now t.who 0) w1 q top pl (P ++ [⟨now, 0, pl, 0⟩]) := by
 rw [T.w, T.obj, T.who, hw]
 have e : (σ.μ.turn 0 0 w (some w1)) = (⟨fun x => if x = (11, 0, 0) then w1 else σ.μ.V x, (σ.μ.swp 0 (11, 0, 0) w w1).E, σ.μ.N + 2⟩ : Mu) := by
  show (⟨(σ.μ.swp 0 (11, 0, 0) w w1).V, (σ.μ.swp 0 (11, 0, 0) w w1).E, σ.μ.N + 2⟩ : Mu) = _
  rw [Nu (μ := σ.μ) (who := 0) (l := (11, 0, 0)) (was := w) (now := w1) h.w]
 rw [e]
 refine ⟨?_, ⟨i1 (l := (11, 0, 0)) (v := w1) h.slot (by simp), Ve (V := σ.μ.V) (l := (11, 0, 0)) (v := w1), i1 (l := (11, 0, 0)) (v := w1) h.h (by simp), i1 (l := (11, 0, 0)) (v := w1) h.q (by simp), i1 (l := (11, 0, 0)) (v := w1) h.top (by simp), h.n, h.pl, ?_⟩⟩
 ·show (true && decide (σ.μ.V (11, 0, 0) = w)) = true
  rw [h.w]; simp
 ·show σ.pts ++ [⟨now, 0, (σ.places 0).getD 0, 0⟩] = _
  rw [h.pts, h.pl]
theorem y9 (h : YS σ w q top pl P) (T : YT t 9 w) {w1 : Nat} (hw : a9 w 0 = some w1) : Nx σ t now fun σ' t' => YS σ' w1 q top pl (P ++ [⟨now, 0, pl, 0⟩]) ∧ YT t' 10 w ∧ t'.code = 0 := by
 obtain ⟨h1, h2⟩ := Zf (now := now) h T hw
 have hs : ah σ t now = ((σ.mem (σ.μ.turn t.who t.obj t.w (a9 t.w 0))).note now t.who 0, { t with at' := 10, code := 0 }, false) := by simp only [ah, T.at']; rw [if_pos h1]
 exact ⟨_, _, hs, h2, ⟨rfl, T.who, T.s, T.obj, T.w⟩, rfl⟩
theorem y13 (h : YS σ w q top pl P) (T : YT t 13 w) {w1 : Nat} (hw : a9 w 0 = some w1) : Nx σ t now fun σ' t' => YS σ' w1 q top pl (P ++ [⟨now, 0, pl, 0⟩]) ∧ YT t' 14 w ∧ t'.code = 0 := by
 obtain ⟨h1, h2⟩ := Zf (now := now) h T hw
 have hs : ah σ t now = ((σ.mem (σ.μ.turn t.who t.obj t.w (a9 t.w 0))).note now t.who 0, { t with at' := 14, code := 0 }, false) := by simp only [ah, T.at']; rw [if_pos h1]
 exact ⟨_, _, hs, h2, ⟨rfl, T.who, T.s, T.obj, T.w⟩, rfl⟩
theorem ab2 {n : Nat} (h : YS σ w q top pl P) (T : YT t n w') : YS (m9 σ t) w q top pl P := by
 have hob : 0 < σ.obs.length := by
  have := h.n
  unfold az at this
  by_cases e : 0 < σ.obs.length
  ·exact e
  ·rw [List.getElem?_eq_none (by omega)] at this
   exact absurd this (by simp)
 rw [sd]
 refine ⟨h.slot, h.w, h.h, h.q, h.top, ?_, h.pl, h.pts⟩
 have hn := h.n
 rw [T.obj]
 show ((((σ.obs.modify 0 _)[0]?).map fun z => z.2).getD []).length = 2
 rw [List.getElem?_modify, List.getElem?_eq_getElem hob]
 show (List.set _ _ _).length = 2
 rw [List.length_set]
 exact hn
theorem Ze {n : Nat} (h : YS σ w q top pl P) (T : YT t n w') : YS (oA σ t) w q top pl P := by
 have h2 : YS (σ.mem (σ.μ.acc t.who 2 (15, (t.obj : Int), ((aP t.w % (az σ t.obj).length : Nat) : Int)))) w q top pl P := ⟨h.slot, h.w, h.h, h.q, h.top, h.n, h.pl, h.pts⟩
 exact h2.put (15, _, _) _ (by simp)
theorem y10 (h : YS σ w q top pl P) (T : YT t 10 w') (hc : t.code = 0) : Nx σ t now fun σ' t' => YS σ' w q top pl P ∧ YT t' 11 w' ∧ t'.code = 0 := by
 have hs : ah σ t now = (m9 σ t, { t with at' := 11 }, false) := by simp only [ah, T.at']
 exact ⟨_, _, hs, ab2 h T, ⟨rfl, T.who, T.s, T.obj, T.w⟩, hc⟩
theorem y14 (h : YS σ w q top pl P) (T : YT t 14 w') (hc : t.code = 0) : Nx σ t now fun σ' t' => YS σ' w q top pl P ∧ YT t' 21 w' ∧ t'.code = 0 := by
 have hs : ah σ t now = (m9 σ t, { t with at' := 21 }, false) := by simp only [ah, T.at']
 exact ⟨_, _, hs, ab2 h T, ⟨rfl, T.who, T.s, T.obj, T.w⟩, hc⟩
theorem y21 (h : YS σ w q top pl P) (T : YT t 21 w') (hc : t.code = 0) : Nx σ t now fun σ' t' => YS σ' w q top pl P ∧ YT t' 22 w' ∧ t'.code = 0 := by
 have hs : ah σ t now = (oA σ t, { t with at' := 22 }, false) := by simp only [ah, T.at']
 exact ⟨_, _, hs, Ze h T, ⟨rfl, T.who, T.s, T.obj, T.w⟩, hc⟩
theorem y22 (h : YS σ w q top pl P) (T : YT t 22 w') (hc : t.code = 0) : Nx σ t now fun σ' t' => YS σ' w q top pl P ∧ YT t' 23 w' ∧ t'.code = 0 ∧ t'.top = top := by
 have e : σ.μ.V (9, t.s, 0) = top := by rw [T.s]; exact h.top
 have hs : ah σ t now = (σ.mem (σ.μ.acc t.who 1 (9, t.s, 0)), { t with top := top, at' := 23 }, false) := by simp only [ah, T.at', e]
 exact ⟨_, _, hs, ⟨h.slot, h.w, h.h, h.q, h.top, h.n, h.pl, h.pts⟩, ⟨rfl, T.who, T.s, T.obj, T.w⟩, hc, rfl⟩
theorem y23 (h : YS σ w q top pl P) (T : YT t 23 w') (hc : t.code = 0) (ht : t.top = top) : Nx σ t now fun σ' t' => YS σ' w q top pl P ∧ YT t' 24 w' ∧ t'.code = 0 ∧ t'.top = top := by
 have hs : ah σ t now = ({ σ with μ := σ.μ.acc t.who 6 (14, (t.obj : Int), 0), nx := fun k => if k = (t.obj : Int) then some t.top else σ.nx k }, { t with at' := 24 }, false) := by simp only [ah, T.at']
 exact ⟨_, _, hs, ⟨h.slot, h.w, h.h, h.q, h.top, h.n, h.pl, h.pts⟩, ⟨rfl, T.who, T.s, T.obj, T.w⟩, hc, ht⟩
theorem y24 (h : YS σ w q top pl P) (T : YT t 24 w') (hc : t.code = 0) (ht : t.top = top) : Nx σ t now fun σ' t' => YS σ' w q 1 pl P ∧ YT t' 25 w' ∧ t'.code = 0 := by
 have e : σ.μ.V (9, t.s, 0) = t.top := by rw [T.s, ht]; exact h.top
 have hs : ah σ t now = (σ.mem (σ.μ.swp t.who (9, t.s, 0) t.top (t.obj + 1)), { t with at' := 25 }, false) := by simp only [ah, T.at']; rw [if_pos e]
 refine ⟨_, _, hs, ?_, ⟨rfl, T.who, T.s, T.obj, T.w⟩, hc⟩
 have e2 : σ.mem (σ.μ.swp t.who (9, t.s, 0) t.top (t.obj + 1)) = σ.mem (⟨fun x => if x = (9, 0, 0) then 1 else σ.μ.V x, (σ.μ.swp t.who (9, t.s, 0) t.top (t.obj + 1)).E, σ.μ.N + 2⟩ : Mu) := by
  have e3 := Nu (μ := σ.μ) (who := t.who) (l := (9, t.s, 0)) (was := t.top) (now := t.obj + 1) e
  show ({ σ with μ := (⟨(σ.μ.swp t.who (9, t.s, 0) t.top (t.obj + 1)).V, _, _⟩ : Mu) } : aX) = _
  rw [e3, T.s, T.obj]
 rw [e2]
 exact ⟨i1 (l := (9, 0, 0)) (v := 1) h.slot (by simp), i1 (l := (9, 0, 0)) (v := 1) h.w (by simp), i1 (l := (9, 0, 0)) (v := 1) h.h (by simp), i1 (l := (9, 0, 0)) (v := 1) h.q (by simp), Ve (V := σ.μ.V) (l := (9, 0, 0)) (v := 1), h.n, h.pl, h.pts⟩
theorem y11 (h : YS σ w q top pl P) (T : YT t 11 w') (hc : t.code = 0) : ∃ σ' t', ah σ t now = (σ', t', true) ∧ YS σ' w q top pl P ∧ t'.code = 0 := by
 have hs : ah σ t now = (oA σ t, t, true) := by simp only [ah, T.at']
 exact ⟨_, _, hs, Ze h T, hc⟩
theorem y25 (h : YS σ w q top pl P) (T : YT t 25 w') (hc : t.code = 0) : ∃ σ' t', ah σ t now = (σ', t', true) ∧ YS σ' w q top pl P ∧ t'.code = 0 := by
 have hs : ah σ t now = (σ.mem (σ.μ.cnt t.who (3, 0, 0) 1), t, true) := by simp only [ah, T.at']
 have h2 : YS (σ.mem (σ.μ.acc t.who 3 (3, 0, 0))) w q top pl P := ⟨h.slot, h.w, h.h, h.q, h.top, h.n, h.pl, h.pts⟩
 exact ⟨_, _, hs, h2.put (3, 0, 0) _ (by simp), hc⟩
theorem y15 (h : YS σ w q top pl P) (T : YT t 15 w') (n : Nat) (hn : (if q % 2 = 1 then 7 else 16) = n) : Nx σ t now fun σ' t' => YS σ' w q top pl P ∧ YT t' n w' ∧ t'.q = q := by
 have hs : ah σ t now = (lQ σ t, { t with q := q, at' := n }, false) := by simp only [ah, T.at', h.q, hn]
 exact ⟨_, _, hs, ⟨h.slot, h.w, h.h, h.q, h.top, h.n, h.pl, h.pts⟩, ⟨rfl, T.who, T.s, T.obj, T.w⟩, rfl⟩
theorem y16 (h : YS σ w q top pl P) (T : YT t 16 w') (hq : t.q = q) (hw : bi w ≠ 2) : Nx σ t now fun σ' t' => YS σ' w q top pl P ∧ YT t' 17 w ∧ t'.q = q := by
 have e : σ.μ.V (11, (t.obj : Int), 0) = w := by rw [T.obj]; exact h.w
 have hs : ah σ t now = (i6 σ t, { t with w := w, at' := 17 }, false) := by simp only [ah, T.at', e]; rw [if_neg hw]
 exact ⟨_, _, hs, ⟨h.slot, h.w, h.h, h.q, h.top, h.n, h.pl, h.pts⟩, ⟨rfl, T.who, T.s, T.obj, rfl⟩, hq⟩
theorem y17 (h : YS σ w q top pl P) (T : YT t 17 w) (hq : t.q = q) (hw : gr w 0 2 = true) : Nx σ t now fun σ' t' => YS σ' w q top pl P ∧ YT t' 18 w ∧ t'.q = q ∧ t'.mark = now := by
 have e : gT σ t = true := by
  unfold gT
  rw [T.w, T.obj, h.n]
  show gr w (σ.μ.V (12, 0, 0)) 2 = _
  rw [h.h]; exact hw
 have hs : ah σ t now = (fw σ t, { t with at' := 18, mark := now }, false) := by simp only [ah, T.at']; rw [if_pos e]
 exact ⟨_, _, hs, ⟨h.slot, h.w, h.h, h.q, h.top, h.n, h.pl, h.pts⟩, ⟨rfl, T.who, T.s, T.obj, T.w⟩, hq, rfl⟩
theorem y18 (h : YS σ w q top pl P) (T : YT t 18 w) (hq : t.q = q) (m : Int) (hm : t.mark = m) : ∃ σ' t', ah σ t now = (σ', t', true) ∧ t'.code = 9 ∧ σ'.pts = P ++ [⟨m, 0, pl, 9⟩] := by
 have e : σ.μ.V (2, 0, 0) = t.q := by rw [hq]; exact h.q
 have hs : ah σ t now = ((lQ σ t).note t.mark t.who 9, { t with code := 9 }, true) := by simp only [ah, T.at']; rw [if_pos e]
 refine ⟨_, _, hs, rfl, ?_⟩
 show σ.pts ++ [⟨t.mark, t.who, (σ.places t.who).getD 0, 9⟩] = _
 rw [T.who, hm, h.pts, h.pl]
end
def iD (n : Nat) (σ : aX) (t : Tk) (now : Int) (Q : aX → Tk → Int → Prop) : Prop := ∃ res, pZ n σ t now = some res ∧ Q res.1 res.2.1 res.2.2
theorem iD.go {n : Nat} {σ : aX} {t : Tk} {now : Int} {A : aX → Tk → Prop} {Q : aX → Tk → Int → Prop} (h : Nx σ t now A) (k : ∀ σ' t', A σ' t' → iD n σ' t' (now + 1) Q) : iD (n + 1) σ t now Q := by
 obtain ⟨σ', t', hs, ha⟩ := h
 obtain ⟨res, h1, h2⟩ := k σ' t' ha
 refine ⟨res, ?_, h2⟩
 show (if (ah σ t now).2.2 = true then _ else _) = _
 rw [hs]
 exact h1
theorem iD.stop {n : Nat} {σ : aX} {t : Tk} {now : Int} {A : aX → Tk → Prop} {Q : aX → Tk → Int → Prop} (h : ∃ σ' t', ah σ t now = (σ', t', true) ∧ A σ' t') (k : ∀ σ' t', A σ' t' → Q σ' t' (now + 1)) : iD (n + 1) σ t now Q := by
 obtain ⟨σ', t', hs, ha⟩ := h
 refine ⟨(σ', t', now + 1), ?_, k _ _ ha⟩
 show (if (ah σ t now).2.2 = true then _ else _) = _
 rw [hs]
 rfl
theorem YT.new {c : fO} (x : Cl) (hf : x.flow = 0) : YT (Tk.new c 0 x) 0 0 := by
 refine ⟨rfl, rfl, ?_, rfl, rfl⟩
 show (x.flow.tmod c.sh + c.sh).tmod c.sh = 0
 rw [hf, Int.zero_tmod, Int.zero_add, Int.tmod_self]
section
variable {σ : aX} {now : Int} {q : Nat} {pl : Int} {P : List Pt} (x : Cl) (hx : cG x = none) (hf : x.flow = 0)
include hx hf
theorem FB (h : YS σ 0 q 0 pl P) : iD 30 σ (Tk.new σ.c 0 x) now fun σ' t' n' => t'.code = 0 ∧ YS σ' 2305843009213693953 q 1 pl (P ++ [⟨now + 1 + 1 + 1 + 1 + 1, 0, pl, 0⟩]) ∧ n' = now + 12 := by
 refine iD.go (y0 h (YT.new x hf) rfl hx hf) fun σ t ⟨h, T⟩ => ?_
 refine iD.go (y6 h T) fun σ t ⟨h, T⟩ => ?_
 refine iD.go (y7 h T (by decide)) fun σ t ⟨h, T⟩ => ?_
 refine iD.go (y8 h T 12 (by decide)) fun σ t ⟨h, T⟩ => ?_
 refine iD.go (y12 h T) fun σ t ⟨h, T⟩ => ?_
 refine iD.go (y13 h T (w1 := 2305843009213693953) (by decide)) fun σ t ⟨h, T, c⟩ => ?_
 refine iD.go (y14 h T c) fun σ t ⟨h, T, c⟩ => ?_
 refine iD.go (y21 h T c) fun σ t ⟨h, T, c⟩ => ?_
 refine iD.go (y22 h T c) fun σ t ⟨h, T, c, e⟩ => ?_
 refine iD.go (y23 h T c e) fun σ t ⟨h, T, c, e⟩ => ?_
 refine iD.go (y24 h T c e) fun σ t ⟨h, T, c⟩ => ?_
 exact iD.stop (y25 h T c) fun σ t ⟨h, c⟩ => ⟨c, h, by omega⟩
theorem DY (h : YS σ 2305843009213693953 q 1 pl P) : iD 30 σ (Tk.new σ.c 0 x) now fun σ' t' n' => t'.code = 0 ∧ YS σ' 2305843009213693954 q 1 pl (P ++ [⟨now + 1 + 1 + 1 + 1, 0, pl, 0⟩]) ∧ n' = now + 7 := by
 refine iD.go (y0 h (YT.new x hf) rfl hx hf) fun σ t ⟨h, T⟩ => ?_
 refine iD.go (y6 h T) fun σ t ⟨h, T⟩ => ?_
 refine iD.go (y7 h T (by decide)) fun σ t ⟨h, T⟩ => ?_
 refine iD.go (y8 h T 9 (by decide)) fun σ t ⟨h, T⟩ => ?_
 refine iD.go (y9 h T (w1 := 2305843009213693954) (by decide)) fun σ t ⟨h, T, c⟩ => ?_
 refine iD.go (y10 h T c) fun σ t ⟨h, T, c⟩ => ?_
 exact iD.stop (y11 h T c) fun σ t ⟨h, c⟩ => ⟨c, h, by omega⟩
end
def uh (k : Nat) (σ : aX) (t : Tk) (q : Nat) (pl : Int) (P : List Pt) : Prop :=
 YS σ 2305843009213693954 q 1 pl P ∧ ((k = 0 ∧ YT t 0 0 ∧ t.i = 0 ∧ cG t.x = none ∧ t.x.flow = 0) ∨ (k = 1 ∧ YT t 6 0) ∨ (2 ≤ k ∧ ((∃ w', YT t 7 w') ∨ YT t 8 2305843009213693954 ∨ YT t 15 2305843009213693954)))
theorem uh.go {k : Nat} {σ : aX} {t : Tk} {q : Nat} {pl : Int} {P : List Pt} (now : Int) (hq : q % 2 = 1) (h : uh k σ t q pl P) : Nx σ t now fun σ' t' => uh (k + 1) σ' t' q pl P := by
 have mono : ∀ {A B : aX → Tk → Prop}, Nx σ t now A → (∀ s u, A s u → B s u) → Nx σ t now B := fun ⟨s, u, e, a⟩ f => ⟨s, u, e, f _ _ a⟩
 obtain ⟨hs, ⟨rfl, T, hi, hx, hf⟩ | ⟨rfl, T⟩ | ⟨hk, ⟨w', T⟩ | T | T⟩⟩ := h
 ·exact mono (y0 hs T hi hx hf) fun s u ⟨a, b⟩ => ⟨a, .inr (.inl ⟨rfl, b⟩)⟩
 ·exact mono (y6 hs T) fun s u ⟨a, b⟩ => ⟨a, .inr (.inr ⟨by omega, .inl ⟨_, b⟩⟩)⟩
 ·exact mono (y7 hs T (by decide)) fun s u ⟨a, b⟩ => ⟨a, .inr (.inr ⟨by omega, .inr (.inl b)⟩)⟩
 ·exact mono (y8 hs T 15 (by decide)) fun s u ⟨a, b⟩ => ⟨a, .inr (.inr ⟨by omega, .inr (.inr b)⟩)⟩
 ·exact mono (y15 hs T 7 (if_pos hq)) fun s u ⟨a, b, _⟩ => ⟨a, .inr (.inr ⟨by omega, .inl ⟨_, b⟩⟩)⟩
def Ej : Nat → aX → Tk → Int → Int → List Pt → Prop
 | 0, σ, t, now, pl, P => ∃ σ' t', ah σ t now = (σ', t', true) ∧ t'.code = 9 ∧ σ'.pts = P ++ [⟨now - 1, 0, pl, 9⟩]
 | n + 1, σ, t, now, pl, P => Nx σ t now fun σ' t' => Ej n σ' t' (now + 1) pl P
theorem uh.ends {k : Nat} {σ : aX} {t : Tk} {q : Nat} {pl : Int} {P : List Pt} (now : Int) (hk : 2 ≤ k) (hq : q % 2 ≠ 1) (h : uh k σ t q pl P) : ∃ j, 3 ≤ j ∧ j ≤ 5 ∧ Ej j σ t now pl P := by
 have mono : ∀ {σ : aX} {t : Tk} {now : Int} {A B : aX → Tk → Prop}, Nx σ t now A → (∀ s u, A s u → B s u) → Nx σ t now B := fun ⟨s, u, e, a⟩ f => ⟨s, u, e, f _ _ a⟩
 have f15 : ∀ {σ : aX} {t : Tk} {now : Int}, YS σ 2305843009213693954 q 1 pl P → YT t 15 2305843009213693954 → Ej 3 σ t now pl P := by
  intro σ t now h T
  refine mono (y15 h T 16 (if_neg hq)) fun σ t ⟨h, T, e⟩ => ?_
  refine mono (y16 h T e (by decide)) fun σ t ⟨h, T, e⟩ => ?_
  refine mono (y17 h T e (by decide)) fun σ t ⟨h, T, e, m⟩ => ?_
  exact y18 h T e _ (by rw [m]; omega)
 have f8 : ∀ {σ : aX} {t : Tk} {now : Int}, YS σ 2305843009213693954 q 1 pl P → YT t 8 2305843009213693954 → Ej 4 σ t now pl P := fun h T => mono (y8 h T 15 (by decide)) fun σ t ⟨h, T⟩ => f15 h T
 obtain ⟨hs, ⟨rfl, _⟩ | ⟨rfl, _⟩ | ⟨_, ⟨w', T⟩ | T | T⟩⟩ := h
 ·omega
 ·omega
 ·exact ⟨5, by omega, by omega, mono (y7 hs T (by decide)) fun σ t ⟨h, T⟩ => f8 h T⟩
 ·exact ⟨4, by omega, by omega, f8 hs T⟩
 ·exact ⟨3, by omega, by omega, f15 hs T⟩
theorem SI.clear {σ : aX} {k : Nat} (h : SI σ k) (s i : Int) : SI (σ.mem (σ.μ.put (10, s, i) 0)) k := by
 refine ⟨h.c, h.N, h.E, h.pts, fun x => ?_, h.obs, h.cells, fun s' i' => ?_, fun o => ?_⟩
 ·show (if x = (10, s, i) then 0 else σ.μ.V x) < _
  split
  ·omega
  ·exact h.V x
 ·show (if ((10 : Int), s', i') = (10, s, i) then 0 else σ.μ.V (10, s', i')) ≠ 0 → (if ((10 : Int), s', i') = (10, s, i) then 0 else σ.μ.V (10, s', i')) % _ < _
  split
  ·intro h; exact absurd rfl h
  ·exact h.slot s' i'
 ·show (if ((12 : Int), (o : Int), (0 : Int)) = (10, s, i) then 0 else σ.μ.V (12, o, 0)) ≤ _
  rw [if_neg (by simp)]
  exact h.head o
structure After (σ σ' : aX) (k : Nat) : Prop where
 si : SI σ' k
 c : σ'.c = σ.c
 obs : σ'.obs.length = σ.obs.length
 hd : (σ'.obs.map fun q => q.1) = σ.obs.map fun q => q.1
section
variable (p x : Nat) (rp : List Nat) (σ : aX) (K : Nat)
theorem Wi (who : Int) (hN : σ.μ.N < 800000) : Sp cQ [vp p, vi who] (bq p rp σ) (fun _ : Unit => .tuple #[]) (fun _ => bq p rp (σ.mem (σ.μ.cnt who (2, 0, 0) 1))) := by
 intro R H h
 obtain ⟨g, hrp, hg, h1⟩ := eD h
 obtain ⟨y, H', e, h2⟩ := F5 p g σ who hN R H h1
 exact ⟨y, H', e, bu g hrp hg h2⟩
theorem aaP (who : Int) (hN : σ.μ.N < 800000) : Sp eN [vp x, vi who] (bv x σ) (fun _ : Unit => .tuple #[]) (fun _ => bv x (σ.mem (σ.μ.cnt who (2, 0, 0) 1))) := by
 intro R H h
 obtain ⟨g, hg, h1⟩ := eE h
 obtain ⟨y, H', e, h2⟩ := G8 x g σ who hN R H h1
 exact ⟨y, H', e, di g ⟨hg.1, hg.2.1, Nat.le_trans hg.2.2 (by simp)⟩ h2⟩
theorem KB {P : SP} {H : AH} {Q : Value → AH → Prop} {k : Value × AH → OV} {a b : Int} (h : ae P H) (h0 : 0 < b) (h1 : b < 9223372036854775808) (hk : ∀ H', ae P H' → wp (k (vi (qp a b), H')) Q) : wp ((FF dm [vi a, vi b] H).bind k) Q := by
 refine af h (ol a b h0 h1) fun _ H1 h2 => ?_
 exact hk H1 h2.to
end
theorem YS.begin {σ : aX} {w q top : Nat} {pl : Int} {P : List Pt} (h : YS σ w q top pl P) (place : Int) : YS (σ.begin 0 place) w q top place P :=
 ⟨h.slot, h.w, h.h, h.q, h.top, h.n, rfl, h.pts⟩
theorem YS.turn {σ : aX} {w q top : Nat} {pl : Int} {P : List Pt} (h : YS σ w q top pl P) (who : Int) (hq : q < 1000) : YS (σ.mem (σ.μ.cnt who (2, 0, 0) 1)) w (q + 1) top pl P := by
 refine ⟨i1 (l := (2, 0, 0)) (v := (σ.μ.V (2, 0, 0) + 1) % 18446744073709551616) h.slot (by simp), i1 (l := (2, 0, 0)) (v := (σ.μ.V (2, 0, 0) + 1) % 18446744073709551616) h.w (by simp), i1 (l := (2, 0, 0)) (v := (σ.μ.V (2, 0, 0) + 1) % 18446744073709551616) h.h (by simp), ?_, i1 (l := (2, 0, 0)) (v := (σ.μ.V (2, 0, 0) + 1) % 18446744073709551616) h.top (by simp), h.n, h.pl, h.pts⟩
 show (if ((2 : Int), (0 : Int), (0 : Int)) = (2, 0, 0) then (σ.μ.V (2, 0, 0) + 1) % 18446744073709551616 else σ.μ.V (2, 0, 0)) = _
 rw [if_pos rfl, h.q]
 omega
theorem XO (c : fO) (hc : cI c = true) : YS (aX.made c 1) 0 0 0 0 [] := by
 have hr := bT.1 hc
 have e : aX.made c 1 = (aX.new c).lay 0 1 2 := by
  show (if ((0 : Nat) : Int).tdiv c.sh < c.sl then _ else _) = _
  rw [if_pos (by rw [show ((0 : Nat) : Int) = 0 from rfl, Int.zero_tdiv]; omega)]
  rfl
 rw [e]
 have hs : ((0 : Int).tmod c.sh) = 0 := Int.zero_tmod _
 have hd : ((0 : Int).tdiv c.sh) = 0 := Int.zero_tdiv _
 have hV : ∀ l : bV, ((aX.new c).lay 0 1 2).μ.V l = if l = (10, 0, 0) then 4294967296 else 0 := by
  intro l
  show (if l = (10, (0 : Int).tmod c.sh, (0 : Int).tdiv c.sh) then iP 0 0 else 0) = _
  rw [hs, hd]
  rfl
 exact ⟨by rw [hV]; rfl, by rw [hV]; rfl, by rw [hV]; rfl, by rw [hV]; rfl, by rw [hV]; rfl, rfl, rfl, rfl⟩
theorem WV (a b : Int) (m : Int) (hab : a ≤ b) (hbm : b ≤ m) (w1 w2 w3 p1 p2 p3 e1 e2 e3 : Int) : aZ [(⟨a, w1, p1, e1⟩ : Pt), ⟨b, w2, p2, e2⟩, ⟨m, w3, p3, e3⟩] = [⟨a, w1, p1, e1⟩, ⟨b, w2, p2, e2⟩, ⟨m, w3, p3, e3⟩] := by
 simp [aZ, nJ, hab, hbm, Int.le_trans hab hbm]
section
variable {p x pb cb : Nat} {rp : List Nat} {R : SP} {P : List Pt}
theorem Po {e : Nat} (a b : Int) (ha : 0 ≤ a) (hab : a ≤ b) (hP : P = [⟨a, 0, 0, 0⟩, ⟨b, 0, 1, 0⟩]) :
 ∀ (j k K : Nat) (now : Int) (σ : aX) (t : Tk) (H : AH), Ej j σ t now 2 P → 3 ≤ k + j → k + j < 9 → b < now → now + j < 1000000 → SI σ K → K + 3 * j < 200000 → ef σ t →
  ae (eT e p rp t * (bq p rp σ * (blk pb (.cells false [vp p, vp x]) * R))) H → wp (fD (vb false) (vp pb) (vi now) (vp e) (vi k) H) fun v' _ => v' = vb true := by
 intro j
 induction j with
 | zero =>
  intro k K now σ t H hF h3 h9 hb hn S hK T h
  obtain ⟨σ', t', hs, hcode, hpts⟩ := hF
  refine ag (jK ..) ?_
  refine aa (b4 (by omega)) ?_
  with_reducible repeat refine gg ?_
  refine ag (jL ..) ?_
  have h1 : ae (eP e p rp σ t * (blk pb (.cells false [vp p, vp x]) * R)) H := by rw [Aq, ap]; exact h.to
  refine af h1 (rn e p rp σ t now (S.ok (by omega)) T) fun _ H2 h2 => ?_
  rw [hs] at h2 ⊢
  refine aa (v := .agg (gK t'.code).toArray) rfl ?_
  refine aa (v := vb true) rfl ?_
  rw [hcode]
  refine aO h2 fun qb H3 h3' => ?_
  refine bZ h3' rfl rfl fun H4 h4 => ?_
  with_reducible repeat refine gg ?_
  refine am h4 ak rfl ?_
  rw [K7] at h4
  have hb3 : aZ σ'.pts = [⟨a, 0, 0, 0⟩, ⟨b, 0, 1, 0⟩, ⟨now - 1, 0, 2, 9⟩] := by
   rw [hpts, hP]
   exact WV a b (now - 1) hab (by omega) _ _ _ _ _ _ _ _ _
  have h4b : ae (bq p rp σ' * (blk qb (.cells false (gK 9)) * R)) H4 := h4.to
  refine af h4b (yH p rp σ' (by rw [hpts, hP]; simp)) fun v H5 h5 => ?_
  rw [hb3] at h5
  refine aa (uy (by omega)) ?_
  with_reducible repeat refine gg ?_
  refine aM h5 ?_
  with_reducible repeat refine gg ?_
  refine aa (v := .agg (gK 9).toArray) rfl ?_
  with_reducible repeat refine gg ?_
  refine af h5 (yf 9) fun _ H6 h6 => ?_
  with_reducible repeat refine gg ?_
  refine px (s := v) (l := [(⟨a, 0, 0, 0⟩ : Pt), ⟨b, 0, 1, 0⟩, ⟨now - 1, 0, 2, 9⟩]) h6 ?_
  with_reducible repeat refine gg ?_
  refine aa (bo rfl) ?_
  with_reducible repeat refine gg ?_
  refine Ec (s := v) (l := [(⟨a, 0, 0, 0⟩ : Pt), ⟨b, 0, 1, 0⟩, ⟨now - 1, 0, 2, 9⟩]) (i := 2) h6 (by simp) ?_
  with_reducible repeat refine gg ?_
  refine aa (a8 (by omega) (by omega)) ?_
  with_reducible repeat refine gg ?_
  refine aM h6 ?_
  with_reducible repeat refine gg ?_
  refine aa (v := .agg (Pt.cells ⟨now - 1, 0, 2, 9⟩).toArray) rfl ?_
  with_reducible repeat refine gg ?_
  refine af h6 (I1 ⟨now - 1, 0, 2, 9⟩) fun _ H7 h7 => ?_
  with_reducible repeat refine gg ?_
  exact aq rfl
 | succ j ih =>
  intro k K now σ t H hF h3 h9 hb hn S hK T h
  obtain ⟨σ', t', hs, hF'⟩ := hF
  have KK := pw now S T
  rw [hs] at KK
  refine ag (jK ..) ?_
  refine aa (b4 (by omega)) ?_
  with_reducible repeat refine gg ?_
  refine ag (jL ..) ?_
  have h1 : ae (eP e p rp σ t * (blk pb (.cells false [vp p, vp x]) * R)) H := by rw [Aq, ap]; exact h.to
  refine af h1 (rn e p rp σ t now (S.ok (by omega)) T) fun _ H2 h2 => ?_
  rw [hs] at h2 ⊢
  refine aa (v := .agg (gK 0).toArray) rfl ?_
  refine aa (v := vb false) rfl ?_
  refine aO h2 fun qb H3 h3' => ?_
  refine bZ h3' rfl rfl fun H4 h4 => ?_
  with_reducible repeat refine gg ?_
  rw [K7, RN rfl] at h4
  refine aa (aB (by omega) (by omega)) ?_
  refine ag (qg ..) ?_
  refine aa (aB (by omega) (by omega)) ?_
  exact ih (k + 1) (K + 3) (now + 1) σ' t' H4 hF' (by omega) (by omega) (by omega) (by omega) KK.si (by omega) (KK.ok rfl) h4.to
theorem I0 {e S : Nat} (a b : Int) (ha : 0 ≤ a) (hab : a ≤ b) (hP : P = [⟨a, 0, 0, 0⟩, ⟨b, 0, 1, 0⟩]) (q : Nat) (hq : q % 2 = 1) (hq2 : q < 100) (hS : 11 ≤ S ∧ S < 100) :
 ∀ (d k K : Nat) (now : Int) (σ : aX) (t : Tk) (H : AH), k + d = S → uh k σ t q 2 P → b < now → now + d < 10000 → SI σ K → K + 3 * d < 100000 → ef σ t →
  ae (eT e p rp t * (bq p rp σ * (blk pb (.cells false [vp p, vp x]) * R))) H → wp (fE (vi S) (vb false) (vp pb) (vi now) (vp e) (vi k) H) fun v' _ => v' = vb true := by
 intro d
 induction d with
 | zero =>
  intro k K now σ t H hk hR hb hn SS hK T h
  refine ag (jM ..) ?_
  refine aa (bI (by omega)) ?_
  with_reducible repeat refine gg ?_
  refine ag (nM ..) ?_
  refine ag (rY ..) ?_
  refine am h ak rfl ?_
  refine af h (Wi p rp σ 5 (by have := SS.N; omega)) fun _ H1 h1 => ?_
  refine ag (rZ ..) ?_
  refine ag (sa ..) ?_
  have hR' : uh k (σ.mem (σ.μ.cnt 5 (2, 0, 0) 1)) t (q + 1) 2 P := ⟨hR.1.turn 5 (by omega), hR.2⟩
  obtain ⟨j, hj3, hj5, hF⟩ := hR'.ends now (by omega) (by omega)
  exact Po (p := p) (x := x) (pb := pb) (rp := rp) (R := R) a b ha hab hP j 0 (K + 2) now _ t H1 hF (by omega) (by omega) hb (by omega) (SS.cnt 5 (2, 0, 0) 1 (by simp) (by simp)) (by omega) (T.mono rfl rfl) h1.to
 | succ d ih =>
  intro k K now σ t H hk hR hb hn SS hK T h
  obtain ⟨σ', t', hs, hR'⟩ := hR.go now hq
  have KK := pw now SS T
  rw [hs] at KK
  refine ag (jM ..) ?_
  refine aa (b4 (by omega)) ?_
  with_reducible repeat refine gg ?_
  refine ag (qi ..) ?_
  have h1 : ae (eP e p rp σ t * (blk pb (.cells false [vp p, vp x]) * R)) H := by rw [Aq, ap]; exact h.to
  refine af h1 (rn e p rp σ t now (SS.ok (by omega)) T) fun _ H2 h2 => ?_
  rw [hs] at h2 ⊢
  refine aa (v := .agg (gK 0).toArray) rfl ?_
  refine aa (v := vb false) rfl ?_
  refine aO h2 fun qb H3 h3' => ?_
  refine bZ h3' rfl rfl fun H4 h4 => ?_
  with_reducible repeat refine gg ?_
  refine am h4 ak rfl ?_
  rw [K7, RN rfl] at h4
  with_reducible repeat refine gg ?_
  have hl : (aZ σ'.pts).length = 2 := by rw [p0, hR'.1.pts, hP]; rfl
  refine af h4 (yH p rp σ' (by rw [hR'.1.pts, hP]; simp)) fun v H5 h5 => ?_
  with_reducible repeat refine gg ?_
  refine px (s := v) (l := aZ σ'.pts) h5 ?_
  rw [hl]
  with_reducible repeat refine gg ?_
  refine aa (so rfl) ?_
  with_reducible repeat refine gg ?_
  refine aa (aB (by omega) (by omega)) ?_
  refine ag (qj ..) ?_
  refine aa (aB (by omega) (by omega)) ?_
  exact ih (k + 1) (K + 3) (now + 1) σ' t' H5 (by omega) hR' (by omega) (by omega) KK.si (by omega) (KK.ok rfl) h5.to
end
theorem W5 {H0 : AH} (hT : H0.get 0 = some (.cells true tabC)) (c : fO) (size turns steps : Int) :
 ∃ H', FF iy [.agg (fO.cells c).toArray, vi size, vi turns, vi steps] H0 = some (vb true, H') := by
 have key : wp (FF iy [.agg (fO.cells c).toArray, vi size, vi turns, vi steps] H0) fun v' _ => v' = vb true := by
  haveI := Rq hT
  refine aw (fun r => yj _ _ _ _ H0) ?_
  refine aH (l := fO.cells c) (Pl H0) fun b1 H1 h1 => ?_
  refine aM h1 ?_
  refine af h1 (Uu c 1 (by omega)) fun q H3 h3 => ?_
  obtain ⟨p, x, c'⟩ := q
  dsimp only at h3 ⊢
  rw [ap, ae.pu] at h3
  obtain ⟨hc, h3⟩ := h3
  refine aa (v := .agg [vp p, vp x].toArray) rfl ?_
  refine aa (v := vb true) rfl ?_
  refine aO h3 fun pb H4 h4 => ?_
  refine bZ h4 rfl rfl fun H5 h5 => ?_
  refine QW h5 fun H6 h6 => ?_
  with_reducible repeat refine gg ?_
  rw [Bool.not_true]
  with_reducible repeat refine gg ?_
  rw [Bool.not_true]
  with_reducible repeat refine gg ?_
  have z1 := kA (v := size) (n := 500) (by omega)
  have z2 := kA (v := turns) (n := 5) (by omega)
  have z3 := kA (v := steps) (n := 40) (by omega)
  obtain ⟨A, hA⟩ : ∃ A : Int, A = 1 + qp size 500 := ⟨_, rfl⟩
  obtain ⟨T, hT'⟩ : ∃ T : Nat, (T : Int) = 1 + 2 * qp turns 5 := ⟨(1 + 2 * qp turns 5).toNat, by omega⟩
  obtain ⟨S, hS⟩ : ∃ S : Nat, (S : Int) = 11 + qp steps 40 := ⟨(11 + qp steps 40).toNat, by omega⟩
  have M := UC c' hc 1 (by omega)
  have hcc := (Ja c' 1).1
  obtain ⟨rp, h7⟩ := Vb (p := p) (σ := aX.made c' 1) (R := blk pb (.cells false [vp p, vp x]) * (bv x (aX.made c' 1) * (blk b1 (.cells false (fO.cells c)) * XG H0))) (H := H6) h6.to
  refine KB h7 (by omega) (by omega) fun H7 h7 => ?_
  refine aa (aB (by omega) (by omega)) ?_
  refine dZ ?_
  rw [← hA]
  refine aO h7 fun cb H8 h8 => ?_
  refine bZ h8 rfl rfl fun H9 h9 => ?_
  refine KB h9 (by omega) (by omega) fun H10 h10 => ?_
  refine aa (jh (by omega) (by omega)) ?_
  refine aa (aB (by omega) (by omega)) ?_
  refine KB h10 (by omega) (by omega) fun H11 h11 => ?_
  refine aa (aB (by omega) (by omega)) ?_
  rw [← hT', ← hS]
  have hxr : cG (⟨3, 0, A, 0⟩ : Cl) = none := by
   show (if A < 1 ∨ 65536 < A then some 3 else if (0 : Int) < 0 ∨ 1048576 < (0 : Int) then some 5 else none) = none
   rw [if_neg (by omega), if_neg (by omega)]
  -- the third offer
  have third : ∀ (K q : Nat) (σ : aX) (H : AH), YS σ 2305843009213693954 q 1 1 [⟨5, 0, 0, 0⟩, ⟨16, 0, 1, 0⟩] → q % 2 = 1 → q < 100 → SI σ K → K < 1000 → σ.c = c' →
   ae (blk pb (.cells false [vp p, vp x]) * (blk cb (.cells false (Cl.cells ⟨3, 0, A, 0⟩)) * (bq p rp σ * (bv x σ * (blk b1 (.cells false (fO.cells c)) * XG H0))))) H →
   wp (cX (vi (S : Int)) (vb false) (vp pb) (vp cb) (vi 19) (vi 2) H) fun v' _ => v' = vb true := by
   intro K q σ H hY hq hq2 SS hK hcσ h
   refine ag (fT ..) ?_
   refine aa (bI (by omega)) ?_
   with_reducible repeat refine gg ?_
   refine ag (nN ..) ?_
   refine ag (rW ..) ?_
   refine am h ak rfl ?_
   refine af h (Rt p rp σ 0 2) fun _ H1 h1 => ?_
   refine am h1 ak rfl ?_
   refine aM h1 ?_
   have hb : cI (σ.begin 0 2).c = true := SS.c
   refine af h1 (EM p rp (σ.begin 0 2) hb 0 ⟨3, 0, A, 0⟩) fun e H2 h2 => ?_
   refine aa (qD _) ?_
   with_reducible repeat refine gg ?_
   refine ag (rX ..) ?_
   refine ag (qh ..) ?_
   have hR : uh 0 (σ.begin 0 2) (Tk.new σ.c 0 ⟨3, 0, A, 0⟩) q 2 [⟨5, 0, 0, 0⟩, ⟨16, 0, 1, 0⟩] := ⟨hY.begin 2, .inl ⟨rfl, YT.new _ rfl, rfl, hxr, rfl⟩⟩
   exact I0 (p := p) (x := x) (pb := pb) (rp := rp) (R := XG H0) 5 16 (by omega) (by omega) rfl q hq hq2 (by omega) S 0 (K + 1) 19 (σ.begin 0 2) _ H2 (by omega) hR (by omega) (by omega) (SS.begin 0 2) (by omega) (ef.new hb _ _) h2.to
  have second : ∀ (K q : Nat) (σ : aX) (H : AH), YS σ 2305843009213693953 q 1 0 [⟨5, 0, 0, 0⟩] → q % 2 = 1 → q < 100 → SI σ K → K < 800 → σ.c = c' →
   ae (blk pb (.cells false [vp p, vp x]) * (blk cb (.cells false (Cl.cells ⟨3, 0, A, 0⟩)) * (bq p rp σ * (bv x σ * (blk b1 (.cells false (fO.cells c)) * XG H0))))) H →
   wp (cX (vi (S : Int)) (vb false) (vp pb) (vp cb) (vi 12) (vi 1) H) fun v' _ => v' = vb true := by
   intro K q σ H hY hq hq2 SS hK hcσ h
   refine ag (fT ..) ?_
   refine aa (b4 (by omega)) ?_
   with_reducible repeat refine gg ?_
   refine ag (jN ..) ?_
   refine aO h fun qb H1 h1 => ?_
   refine aM h1 ?_
   refine aM h1 ?_
   obtain ⟨res, hr, hcode, hY', hnow⟩ := DY (σ := σ.begin 0 1) (now := 12) (⟨3, 0, A, 0⟩ : Cl) hxr rfl (hY.begin 1)
   obtain ⟨k1, k2, k3, k4⟩ := wF 30 _ _ 12 (K + 1) res (SS.begin 0 1) (ef.new (σ := σ.begin 0 1) SS.c _ _) hr
   refine af h1 (yD p x rp σ K SS 0 1 ⟨3, 0, A, 0⟩ 12 30 (by omega) (by omega) (by omega) res hr) fun _ H2 h2 => ?_
   rw [hcode, hnow]
   refine aa (v := .agg (gK 0).toArray) rfl ?_
   refine aa (v := vi 19) rfl ?_
   refine aa (v := vb true) rfl ?_
   refine bZ h2 rfl rfl fun H3 h3 => ?_
   with_reducible repeat refine gg ?_
   rw [Bool.not_true]
   with_reducible repeat refine gg ?_
   refine am h3 ak rfl ?_
   with_reducible repeat refine gg ?_
   refine aa (so rfl) ?_
   with_reducible repeat refine gg ?_
   refine ag (jO ..) ?_
   refine aa (aB (by omega) (by omega)) ?_
   exact third (K + 1 + 3 * 30) q res.1 H3 hY' hq hq2 k1 (by omega) (k2.trans hcσ) h3.to
  have first : ∀ (K q : Nat) (σ : aX) (H : AH), YS σ 0 q 0 0 [] → q % 2 = 1 → q < 100 → SI σ K → K < 600 → σ.c = c' →
   ae (blk pb (.cells false [vp p, vp x]) * (blk cb (.cells false (Cl.cells ⟨3, 0, A, 0⟩)) * (bq p rp σ * (bv x σ * (blk b1 (.cells false (fO.cells c)) * XG H0))))) H →
   wp (cX (vi (S : Int)) (vb false) (vp pb) (vp cb) (vi 0) (vi 0) H) fun v' _ => v' = vb true := by
   intro K q σ H hY hq hq2 SS hK hcσ h
   refine ag (fT ..) ?_
   refine aa (b4 (by omega)) ?_
   with_reducible repeat refine gg ?_
   refine ag (jN ..) ?_
   refine aO h fun qb H1 h1 => ?_
   refine aM h1 ?_
   refine aM h1 ?_
   obtain ⟨res, hr, hcode, hY', hnow⟩ := FB (σ := σ.begin 0 0) (now := 0) (⟨3, 0, A, 0⟩ : Cl) hxr rfl (hY.begin 0)
   obtain ⟨k1, k2, k3, k4⟩ := wF 30 _ _ 0 (K + 1) res (SS.begin 0 0) (ef.new (σ := σ.begin 0 0) SS.c _ _) hr
   refine af h1 (yD p x rp σ K SS 0 0 ⟨3, 0, A, 0⟩ 0 30 (by omega) (by omega) (by omega) res hr) fun _ H2 h2 => ?_
   rw [hcode, hnow]
   refine aa (v := .agg (gK 0).toArray) rfl ?_
   refine aa (v := vi 12) rfl ?_
   refine aa (v := vb true) rfl ?_
   refine bZ h2 rfl rfl fun H3 h3 => ?_
   with_reducible repeat refine gg ?_
   rw [Bool.not_true]
   with_reducible repeat refine gg ?_
   refine am h3 ak rfl ?_
   with_reducible repeat refine gg ?_
   refine aa (so rfl) ?_
   with_reducible repeat refine gg ?_
   refine ag (jO ..) ?_
   refine aa (aB (by omega) (by omega)) ?_
   exact second (K + 1 + 3 * 30) q res.1 H3 hY' hq hq2 k1 (by omega) (k2.trans hcσ) h3.to
  have turns' : ∀ (d i : Nat) (σ : aX) (H : AH), i + d = T → YS σ 0 i 0 0 [] → SI σ (4 + 2 * i) → σ.c = c' →
   ae (blk pb (.cells false [vp p, vp x]) * (blk cb (.cells false (Cl.cells ⟨3, 0, A, 0⟩)) * (bq p rp σ * (bv x σ * (blk b1 (.cells false (fO.cells c)) * XG H0))))) H →
   wp (fF (vi (T : Int)) (vi (S : Int)) (vb false) (vp pb) (vp cb) (vi (i : Int)) H) fun v' _ => v' = vb true := by
   intro d
   induction d with
   | zero =>
    intro i σ H hi hY SS hcσ h
    refine ag (jP ..) ?_
    refine aa (bI (by omega)) ?_
    with_reducible repeat refine gg ?_
    refine ag (nO ..) ?_
    refine ag (rU ..) ?_
    refine ag (rV ..) ?_
    refine ag (qk ..) ?_
    exact first _ i σ H hY (by omega) (by omega) SS (by omega) hcσ h
   | succ d ih =>
    intro i σ H hi hY SS hcσ h
    refine ag (jP ..) ?_
    refine aa (b4 (by omega)) ?_
    with_reducible repeat refine gg ?_
    refine ag (qm ..) ?_
    have hN := SS.N
    refine am h ak rfl ?_
    refine af h (Wi p rp σ 5 (by omega)) fun _ H1 h1 => ?_
    refine am h1 ak rfl ?_
    refine af h1 (aaP x σ 5 (by omega)) fun _ H2 h2 => ?_
    refine ag (qn ..) ?_
    refine aa (aB (by omega) (by omega)) ?_
    exact ih (i + 1) _ H2 (by omega) (hY.turn 5 (by omega)) ((SS.cnt 5 (2, 0, 0) 1 (by simp) (by simp)).mono (by omega)) hcσ h2.to
  refine ag (rT ..) ?_
  refine ag (ql ..) ?_
  exact turns' T 0 (aX.made c' 1) H11 (by omega) (XO c' hc) M.si hcc h11.to
 obtain ⟨v, H', e, rfl⟩ := key
 exact ⟨H', e⟩
theorem enqFull_args {H0 : AH} (hT : H0.get 0 = some (.cells true tabC)) {xc : CfgTy.I} {cc : List Value} (hc : Abs H0 CfgTy xc cc) (size turns steps : Int) :
 ∃ H', FF iy [.agg cc.toArray, vi size, vi turns, vi steps] H0 = some (vb true, H') := by
 obtain ⟨c, rfl⟩ := WX hc
 exact W5 hT c size turns steps
end Go.Proofs.YtodpbobjmkhcfaaGreatDoor.Gst
