/- Several texts in one. -/
import Derived.Test.YtflbeghglllknaaGreatDoorQd
namespace Go.Proofs.YtflbeghglllknaaGreatDoor.Gst
open Go Go.RowKit
set_option linter.unusedSimpArgs false
set_option linter.unusedVariables false
set_option maxHeartbeats 4000000
set_option synthInstance.maxSize 2000
set_option synthInstance.maxHeartbeats 400000
set_option maxRecDepth 100000
def Rlr (t : Tk) (k : Xk) : Prop := k.a = t.at' ∧ (t.at' < 4 → k.I = t.i ∧ k.free = t.mark) ∧ (t.x.op = 1 → (t.at' = 4 ∨ t.at' = 5 → k.free = t.mark) ∧ (t.at' = 5 → k.obj = t.obj) ∧ (t.at' = 6 → k.code = t.code)) ∧
 (t.x.op ≠ 1 → (4 ≤ t.at' → t.at' < 10 → k.I = t.i ∧ k.obj = t.obj) ∧ (t.at' = 6 ∨ t.at' = 7 → k.q = t.q) ∧ (t.at' = 7 → k.mark = t.mark) ∧ (t.at' = 8 → k.w = t.w) ∧ (t.at' = 9 ∨ t.at' = 10 → k.code = t.code))
theorem AT {t : Tk} {k : Xk} (h0 : k.a = t.at') (ha : t.at' < 4) (h : k.I = t.i ∧ k.free = t.mark) : Rlr t k :=
 ⟨h0, fun _ => h, fun _ => ⟨fun h => by omega, fun h => by omega, fun h => by omega⟩, fun _ => ⟨fun h _ => by omega, fun h => by omega, fun h => by omega, fun h => by omega, fun h => by omega⟩⟩
theorem Iw {t : Tk} {k : Xk} (h0 : k.a = t.at') (ho : t.x.op = 1) (ha : 4 ≤ t.at') (h4 : t.at' = 4 ∨ t.at' = 5 → k.free = t.mark) (h5 : t.at' = 5 → k.obj = t.obj) (h6 : t.at' = 6 → k.code = t.code) : Rlr t k :=
 ⟨h0, fun h => by omega, fun _ => ⟨h4, h5, h6⟩, fun h => absurd ho h⟩
theorem sF {t : Tk} {k : Xk} (h0 : k.a = t.at') (ho : t.x.op ≠ 1) (ha : 4 ≤ t.at') (h1 : k.I = t.i) (h2 : k.obj = t.obj) (hq : t.at' = 6 ∨ t.at' = 7 → k.q = t.q) (hm : t.at' = 7 → k.mark = t.mark) (hw : t.at' = 8 → k.w = t.w) (hc : t.at' = 9 ∨ t.at' = 10 → k.code = t.code) : Rlr t k :=
 ⟨h0, fun h => by omega, fun h => absurd h ho, fun _ => ⟨fun _ _ => ⟨h1, h2⟩, hq, hm, hw, hc⟩⟩
theorem UG {t : Tk} {k : Xk} (h0 : k.a = t.at') (ho : t.x.op ≠ 1) (ha : t.at' = 10) (h : k.code = t.code) : Rlr t k :=
 ⟨h0, fun h => by omega, fun h => absurd h ho, fun _ => ⟨fun _ _ => by omega, fun h => by omega, fun h => by omega, fun h => by omega, fun _ => h⟩⟩
def yT (x P : Nat) (t : Tk) : SP := ex fun k : Xk => pu (Rlr t k) * xB x P t k
def yU (x P : Nat) (r : aY × Tk × Bool) : SP := ex fun k : Xk => pu (if r.2.2 = true then k.code = r.2.1.code else Rlr r.2.1 k) * xB x P r.2.1 k
section
variable {x P : Nat} {g : XIds} {σ σ' : aY} {t t' : Tk} {R : SP} {H : AH} {r : aY × Tk × Bool} {k : Xk}
theorem jy (h : ae (yT x P t * aI P σ * R) H) : ∃ (k : Xk) (g : XIds), Rlr t k ∧ eK g σ ∧ ae (xB x P t k * (ar P g σ * R)) H := by
 unfold yT at h;rw [aj] at h;obtain ⟨k, h1⟩ := ae.ex.1 h;rw [aj, ae.pu] at h1;obtain ⟨g, h2, h3⟩ := dP (p := P) (σ := σ) (R := xB x P t k * R) (H := H) h1.2.to;exact ⟨k, g, h1.1, h2, h3.to⟩
theorem hF (hr : r = (σ', t', false)) (hR : Rlr t' k) (hg : eK g σ') (h : ae (xB x P t' k * (ar P g σ' * R)) H) : ∃ y : Unit, (vb false : Value) = vb r.2.2 ∧ ae (yU x P r * aI P r.1 * R) H := by
 subst hr;refine ⟨(), rfl, ?_⟩;have h1 := cH (p := P) (σ := σ') (R := xB x P t' k * R) g hg h.to;unfold yU;rw [aj];refine ae.ex.2 ⟨k, ?_⟩;rw [aj, ae.pu];exact ⟨hR, h1.to⟩
theorem NA (hr : r = (σ', t', true)) (hc : k.code = t'.code) (hg : eK g σ') (h : ae (xB x P t' k * (ar P g σ' * R)) H) : ∃ y : Unit, (vb true : Value) = vb r.2.2 ∧ ae (yU x P r * aI P r.1 * R) H := by
 subst hr;refine ⟨(), rfl, ?_⟩;have h1 := cH (p := P) (σ := σ') (R := xB x P t' k * R) g hg h.to;unfold yU;rw [aj];refine ae.ex.2 ⟨k, ?_⟩;rw [aj, ae.pu];exact ⟨hc, h1.to⟩
end
section
variable (x P : Nat) (g : XIds) (σ : aY) (t : Tk) (k : Xk)
def sZ : Xk := { k with I := (aB σ t).i, free := (aB σ t).mark, hit := (k.hit || (aB σ t).found), obj := if (aB σ t).found = true then (aB σ t).obj else k.obj }
theorem KC (S : SOk σ) (T : lz σ t) (hI : k.I = t.i) (hfr : k.free = t.mark) (hi : (t.i : Int) < σ.c.sl) :
 Sp Cx [vp x] (xB x P t k * ar P g σ) (fun _ : Unit => .tuple #[vb (aB σ t).found, vb (!(aB σ t).found && decide (σ.c.sl ≤ ((t.i + 1 : Nat) : Int)))]) (fun _ => xB x P t (sZ σ t k) * ar P g (aV σ t)) := by
 have hN : σ.μ.N < 1099511627000 := by have := S.N; omega
 have hc := bF.1 S.c;refine bn (Yt _) fun R H h => ?_;refine bA ac ?_;refine aN h rfl ?_;refine bA ac ?_;refine aN h rfl ?_;refine bA ac ?_;refine aN h rfl ?_;refine ai h ac rfl ?_;refine ai h ac rfl ?_;refine ai h (b7 (aL (aL aZ))) rfl ?_;refine af h (Ab (p := P) (g := g) (σ := σ) (ly g.tb g.m σ.c.sh.toNat σ.c.sl.toNat (by omega) t.x.flow)) fun _ H1 h1 => ?_;refine aH h1 h (by rfl) ?_;refine aH h1 h (by rfl) ?_;refine aH h1 h (by rfl) ?_
 have es : vi ((t.x.flow.tmod (σ.c.sh.toNat : Int) + (σ.c.sh.toNat : Int)).tmod (σ.c.sh.toNat : Int)) = vi t.s := by rw [T.s, show ((σ.c.sh.toNat : Nat) : Int) = σ.c.sh from by omega]
 rw [es];refine bA ac ?_;refine aN h1 rfl ?_;refine aH h h1 (by rfl) ?_;rw [hI];refine af h1 (oB (p := P) (g := g) (σ := σ) (μ' := σ.μ.acc t.who 1 (10, t.s, (t.i : Int))) (by simp) (E4 g.tb g.m σ.c.sh.toNat σ.c.sl.toNat σ.μ t.who t.s t.i hN (S.V _))) fun _ H2 h2 => ?_;obtain ⟨v, hv⟩ : ∃ v, v = σ.μ.V (10, t.s, (t.i : Int)) := ⟨_, rfl⟩;rw [← hv]
 have ifo : ∀ b, (aB σ t).found = b → (aB σ t).i = if b = true then t.i else t.i + 1 := by
  intro b hb;show (if (aB σ t).found = true then t.i else t.i + 1) = _;rw [hb]
 have tail : ∀ (k' : Xk) (H' : AH), k'.I = t.i → { k' with I := t.i + 1 } = sZ σ t k → (aB σ t).found = false → ae (xB x P t k' * (ar P g (aV σ t) * R)) H' →
  wp (CW (vp x) (vb false) (vb false) H') fun v' H' => ∃ _ : Unit, v' = .tuple #[vb (aB σ t).found, vb (!(aB σ t).found && decide (σ.c.sl ≤ ((t.i + 1 : Nat) : Int)))] ∧ ae (xB x P t (sZ σ t k) * ar P g (aV σ t) * R) H' := by
  intro k' H' hI' hX hf h';refine ah (Fb ..) ?_;refine ai h' ac rfl ?_;rw [hI'];refine aa (aR (by omega) (by omega)) ?_;rw [show ((t.i : Nat) : Int) + 1 = ((t.i + 1 : Nat) : Int) from by omega];refine bg h' ac rfl rfl fun H3 h3 => ?_;refine ai h3 ac rfl ?_;refine ai h3 ac rfl ?_;refine ai h3 ac rfl ?_;have h4 := h3;unfold ar tab at h4;refine ai h4 ac rfl ?_;refine aa (v := vb (decide (σ.c.sl ≤ ((t.i + 1 : Nat) : Int)))) ?_ ?_
  ·show ak _ .geq (vi ((t.i + 1 : Nat) : Int)) _ = _
   rw [rC]
   congr 3
   show ((σ.c.sl.toNat : Int) ≤ _) = (σ.c.sl ≤ ((t.i + 1 : Nat) : Int));apply propext;omega
  refine ap ⟨(), by rw [hf]; rfl, ?_⟩;rw [← hX, aj];exact h3.to
 by_cases hv0 : v = 0
 ·have e1 : g8 v = .tuple #[vi 0, vi 0, vb false] := by rw [g8, if_pos hv0]
  have hf : (aB σ t).found = false := ez fun q => q.1 (hv.symm.trans hv0);have hii := ifo _ hf;rw [e1];refine aa (v := vi 0) rfl ?_;refine aa (v := vi 0) rfl ?_;refine aa (v := vb false) rfl ?_;refine gs ?_;refine ah (se ..) ?_;refine gs ?_;rw [Bool.not_false];refine gs ?_;refine ai h2 ac rfl ?_
  by_cases hm : k.free < 0
  ·refine lw ?_
   refine aa (cP hm) ?_;refine gs ?_
   have em : (aB σ t).mark = t.i := by
    show (if σ.μ.V (10, t.s, (t.i : Int)) = 0 ∧ t.mark < 0 then (t.i : Int) else t.mark) = _;rw [if_pos ⟨hv.symm.trans hv0, by rw [← hfr]; exact hm⟩]
   refine ai h2 ac rfl ?_;rw [hI];refine bg h2 ac rfl rfl fun H3 h3 => ?_;exact tail { k with free := t.i } H3 hI (by unfold sZ; rw [hii, em, hf]; simp) hf h3.to
  ·refine lw ?_
   refine aa (bW hm) ?_;refine gs ?_
   have em : (aB σ t).mark = k.free := by
    show (if σ.μ.V (10, t.s, (t.i : Int)) = 0 ∧ t.mark < 0 then (t.i : Int) else t.mark) = _;rw [if_neg (fun h => hm (by rw [hfr]; exact h.2)), hfr]
   exact tail k H2 hI (by unfold sZ; rw [hii, em, hf]; simp) hf h2.to
 ·have e1 : g8 v = .tuple #[vi ((v / 4294967296 : Nat) - 1), vi (v % 4294967296 : Nat), vb true] := by rw [g8, if_neg hv0]
  have em : (aB σ t).mark = k.free := by
   show (if σ.μ.V (10, t.s, (t.i : Int)) = 0 ∧ t.mark < 0 then (t.i : Int) else t.mark) = _;rw [if_neg (fun h => hv0 (hv.trans h.1)), hfr]
  rw [e1];refine aa (v := vi ((v / 4294967296 : Nat) - 1)) rfl ?_;refine aa (v := vi (v % 4294967296 : Nat)) rfl ?_;refine aa (v := vb true) rfl ?_;refine gs ?_;refine ai h2 (b7 (aL (aL aZ))) rfl ?_;refine lw ?_
  by_cases hf : ((v / 4294967296 : Nat) : Int) - 1 = t.x.flow
  ·have hfo : (aB σ t).found = true := fj ⟨fun h => hv0 (hv.trans h), by rw [← hv]; exact hf⟩
   have hob : (aB σ t).obj = v % 4294967296 := by
    show (if (aB σ t).found = true then σ.μ.V (10, t.s, (t.i : Int)) % 4294967296 else t.obj) = _;rw [if_pos hfo, ← hv]
   have hii := ifo _ hfo;refine aa (ba hf) ?_;refine gs ?_;refine bg h2 ac rfl rfl fun H3 h3 => ?_;refine bg h3 ac rfl rfl fun H4 h4 => ?_;refine ap ⟨(), by rw [hfo]; rfl, ?_⟩
   have eX : sZ σ t k = { k with hit := true, obj := v % 4294967296 } := by
    unfold sZ;rw [hii, em, hfo, hob];simp [← hI]
   rw [eX, aj];exact h4.to
  ·have hfo : (aB σ t).found = false := ez fun q => hf (by rw [hv]; exact q.2)
   have hii := ifo _ hfo;refine aa (aC hf) ?_;refine gs ?_;refine ah (se ..) ?_;refine gs ?_;rw [Bool.not_true];refine gs ?_;exact tail k H2 hI (by unfold sZ; rw [hii, em, hfo]; simp) hfo h2.to
variable (now : Int)
theorem FB {R : SP} {H : AH} (S : SOk σ) (hR : k.I = t.i ∧ k.free = t.mark) (ha : k.a = 2) (hg : eK g σ) (h : ae (xB x P t k * (ar P g σ * R)) H) :
 wp (f2 (vp x) (vi now) (vb false) (vp P) (vi t.s) H) fun v' H' => ∃ y : Unit, v' = vb (eZ σ t).2.2 ∧ ae (yU x P (eZ σ t) * aI P (eZ σ t).1 * R) H' := by
 have hN : σ.μ.N < 1099511627000 := by have := S.N; omega
 refine ah (iL ..) ?_;refine ai h ac rfl ?_;refine aa (ba (by omega)) ?_;refine ah (iM ..) ?_;refine gs ?_;refine ai h ac rfl ?_;refine ai h ac rfl ?_;refine af h (oB (p := P) (g := g) (σ := σ) (μ' := σ.μ.swp t.who (8, t.s, 0) 0 1) (by simp) (JR g.tb g.m σ.c.sh.toNat σ.c.sl.toNat σ.μ t.who t.s hN)) fun _ H2 h2 => ?_
 by_cases hw : σ.μ.V (8, t.s, 0) = 0
 ·rw [fj hw]
  refine gs ?_;refine bg h2 ac rfl rfl fun H3 h3 => ?_;refine ah (mB ..) ?_;exact ap (hF (g := g) (k := { k with a := 3 }) (σ' := kS σ t) (t' := { t with at' := 3 }) (by unfold eZ; rw [if_pos hw]) (AT rfl (by simp) hR) (aw (σ := σ) hg (by simp) rfl) (show ae (xB x P t { k with a := 3 } * (ar P g (kS σ t) * R)) H3 from h3.to))
 ·rw [ez hw]
  refine gs ?_;refine ah (mB ..) ?_;exact ap (hF (g := g) (k := k) (σ' := kS σ t) (t' := { t with at' := 2 }) (by unfold eZ; rw [if_neg hw]) (AT ha (by simp) hR) (aw (σ := σ) hg (by simp) rfl) (show ae (xB x P t k * (ar P g (kS σ t) * R)) H2 from h2.to))
theorem KA {R : SP} {H : AH} {Q : Value → AH → Prop} (S : SOk σ) (T : lz σ t) (h : ae (xB x P t k * (ar P g σ * R)) H)
 (hk : ∀ H', ae (xB x P t k * (ar P g σ * R)) H' → wp (kO (vp x) (vi now) (vb false) (vp P) (vi t.s) H') Q) :
 wp (FF bj [vp x, vi now] H) Q := by
 have hc := bF.1 S.c;refine bm (fun r => zX _ _ H) ?_;refine bA ac ?_;refine aN h rfl ?_;refine ai h ac rfl ?_;refine ai h ac rfl ?_;refine ai h (b7 (aL (aL aZ))) rfl ?_;refine af h (Ab (p := P) (g := g) (σ := σ) (ly g.tb g.m σ.c.sh.toNat σ.c.sl.toNat (by omega) t.x.flow)) fun _ H1 h1 => ?_;refine aH h1 h (by rfl) ?_
 have es : vi ((t.x.flow.tmod (σ.c.sh.toNat : Int) + (σ.c.sh.toNat : Int)).tmod (σ.c.sh.toNat : Int)) = vi t.s := by rw [T.s, show ((σ.c.sh.toNat : Nat) : Int) = σ.c.sh from by omega]
 rw [es];exact hk H1 h1.to
theorem yh {R : SP} {H : AH} {Q : Value → AH → Prop} (S : SOk σ) (T : lz σ t) (ha : k.a ≠ 0) (h : ae (xB x P t k * (ar P g σ * R)) H)
 (hk : ∀ H', ae (xB x P t k * (ar P g σ * R)) H' → wp (f2 (vp x) (vi now) (vb false) (vp P) (vi t.s) H') Q) :
 wp (FF bj [vp x, vi now] H) Q := by
 refine KA x P g σ t k now S T h fun H1 h1 => ?_;refine ah (mA ..) ?_;refine ai h1 ac rfl ?_;refine aa (aC (by omega)) ?_;refine ah (kY ..) ?_;refine gs ?_;exact hk H1 h1
theorem QI {fn : Nat} {args : List Value} {H : AH} {Q : Value → AH → Prop} (h : wp (FF fn args H) Q) : wp ((FF fn args H).bind fun r => some (r.1, r.2)) Q := by
 obtain ⟨v, H', e, q⟩ := h;exact ⟨v, H', by rw [e]; rfl, q⟩
theorem Ir {R : SP} {H : AH} {Q : Value → AH → Prop} (S : SOk σ) (T : lz σ t) (ho : t.x.op = 1) (ha : 3 ≤ k.a) (h : ae (xB x P t k * (ar P g σ * R)) H)
 (hk : ∀ H', ae (xB x P t k * (ar P g σ * R)) H' → wp (gy (vp x) (vi now) (vi t.s) (vb false) (vp P) (vi (k.a : Int)) H') Q) :
 wp (FF bj [vp x, vi now] H) Q := by
 refine yh x P g σ t k now S T (by omega) h fun H1 h1 => ?_;refine ah (iL ..) ?_;refine ai h1 ac rfl ?_;refine aa (aC (by omega)) ?_;refine ah (iM ..) ?_;refine gs ?_;refine ai h1 (b7 (aL (aL aZ))) rfl ?_;refine aa (ba ho) ?_;refine gs ?_;refine QI ?_;refine bm (fun r => qV _ _ _ H1) ?_;refine ai h1 ac rfl ?_;refine ah (ot ..) ?_;refine ai h1 ac rfl ?_;exact hk H1 h1
theorem rr {R : SP} {H : AH} {Q : Value → AH → Prop} (S : SOk σ) (T : lz σ t) (ho : t.x.op ≠ 1) (ha : 3 ≤ k.a) (h : ae (xB x P t k * (ar P g σ * R)) H)
 (hk : ∀ H', ae (xB x P t k * (ar P g σ * R)) H' → wp (jT (vp x) (vi now) (vi t.s) (vb false) (vp P) (vi (k.a : Int)) H') Q) :
 wp (FF bj [vp x, vi now] H) Q := by
 refine yh x P g σ t k now S T (by omega) h fun H1 h1 => ?_;refine ah (iL ..) ?_;refine ai h1 ac rfl ?_;refine aa (aC (by omega)) ?_;refine ah (iM ..) ?_;refine gs ?_;refine ai h1 (b7 (aL (aL aZ))) rfl ?_;refine aa (aC ho) ?_;refine gs ?_;refine ah (tT ..) ?_;refine QI ?_;refine bm (fun r => xN _ _ _ H1) ?_;refine ai h1 ac rfl ?_;refine ah (sy ..) ?_;refine ai h1 ac rfl ?_;exact hk H1 h1
end
section
variable (x P : Nat) (σ : aY) (t : Tk) (now : Int)
theorem afU (S : SOk σ) (T : lz σ t) (ho : t.x.op = 1) (hat : t.at' = 3) : Sp bj [vp x, vi now] (yT x P t * aI P σ) (fun _ : Unit => vb (ax σ t now).2.2) (fun _ => yU x P (ax σ t now) * aI P (ax σ t now).1) := by
 have hN : σ.μ.N < 1099511627000 := by have := S.N; omega
 refine aJ fun R H h => ?_;obtain ⟨k, g, hR, hg, h0⟩ := jy h;have hl := hg.1;have ha := hR.1;obtain ⟨hI, hfr⟩ := hR.2.1 (by omega);have hi := T.i (by omega);refine Ir x P g σ t k now S T ho (by omega) h0 fun H1 h1 => ?_;refine ah (dx ..) ?_;refine aa (ba (by omega)) ?_;refine ah (dy ..) ?_;refine gs ?_;refine af h1 (KC x P g σ t k S T hI hfr hi) fun _ H2 h2 => ?_;obtain ⟨k2, hk2⟩ : ∃ k2 : Xk, k2 = sZ σ t k := ⟨_, rfl⟩;rw [← hk2] at h2;refine aa (v := vb (aB σ t).found) rfl ?_;refine aa (v := vb (!(aB σ t).found && decide (σ.c.sl ≤ ((t.i + 1 : Nat) : Int)))) rfl ?_;refine ah (ou ..) ?_
 cases hfd : (aB σ t).found with
 | true =>
  refine gs ?_;refine af h2 (jw x P g (aV σ t) t (k2) (aw (σ := σ) hg (by simp) rfl) now 6 (by have := S.N; show σ.μ.N + 2 < _; omega) S.pts) fun v H3 h3 => ?_;refine bg h3 ac rfl rfl fun H4 h4 => ?_;refine ah (cm ..) ?_;exact ap (hF (g := { g with pv := v }) (k := { k2 with a := 6, code := 6 }) (σ' := (aV σ t).note now t.who 6) (t' := { aB σ t with at' := 6, code := 6 }) (by simp only [ax, hat]; rw [if_pos hfd, if_pos ho]) (Iw rfl ho (by simp) (by simp) (by simp) (by simp)) (dE (σ := σ) hg (by simp) rfl) (show ae (xB x P t ({ k2 with a := 6, code := 6 }) * (ar P ({ g with pv := v }) ((aV σ t).note now t.who 6) * R)) _ from h4.to))
 | false =>
  rw [Bool.not_false, Bool.true_and]
  have hli : (aB σ t).i = t.i + 1 := by
   show (if (aB σ t).found = true then t.i else t.i + 1) = _;rw [if_neg (by rw [hfd]; simp)]
  have hla : cr σ (aB σ t) = decide (σ.c.sl ≤ ((t.i + 1 : Nat) : Int)) := by unfold cr; rw [hli]
  have nf : ¬ (aB σ t).found = true := by rw [hfd]; simp
  by_cases hL : σ.c.sl ≤ ((t.i + 1 : Nat) : Int)
  ·have hla' : cr σ (aB σ t) = true := hla.trans (fj hL)
   rw [fj hL];refine gs ?_;refine ai h2 ac (show _ = some (vi (aB σ t).mark) from by rw [hk2]; rfl) ?_;refine gs ?_
   by_cases hm : (aB σ t).mark < 0
   ·refine aa (cP hm) ?_
    refine gs ?_;refine af h2 (jw x P g (aV σ t) t (k2) (aw (σ := σ) hg (by simp) rfl) now 7 (by have := S.N; show σ.μ.N + 2 < _; omega) S.pts) fun v H3 h3 => ?_;refine bg h3 ac rfl rfl fun H4 h4 => ?_;refine ah (cm ..) ?_;exact ap (hF (g := { g with pv := v }) (k := { k2 with a := 6, code := 7 }) (σ' := (aV σ t).note now t.who 7) (t' := { aB σ t with at' := 6, code := 7 }) (by simp only [ax, hat]; rw [if_neg nf, if_pos hla', if_pos ho, if_pos hm]) (Iw rfl ho (by simp) (by simp) (by simp) (by simp)) (dE (σ := σ) hg (by simp) rfl) (show ae (xB x P t ({ k2 with a := 6, code := 7 }) * (ar P ({ g with pv := v }) ((aV σ t).note now t.who 7) * R)) _ from h4.to))
   ·refine aa (bW hm) ?_
    refine gs ?_;refine bg h2 ac rfl rfl fun H4 h4 => ?_;refine ah (cm ..) ?_;exact ap (hF (g := g) (k := { k2 with a := 4 }) (σ' := aV σ t) (t' := { aB σ t with at' := 4 }) (by simp only [ax, hat]; rw [if_neg nf, if_pos hla', if_pos ho, if_neg hm]) (Iw rfl ho (by simp) (fun _ => by rw [hk2]; rfl) (by simp) (by simp)) (aw (σ := σ) hg (by simp) rfl) (show ae (xB x P t ({ k2 with a := 4 }) * (ar P (g) (aV σ t) * R)) _ from h4.to))
  ·have hla' : ¬ cr σ (aB σ t) = true := by rw [hla, ez hL]; simp
   rw [ez hL];refine gs ?_;refine ah (cm ..) ?_;exact ap (hF (g := g) (k := k2) (σ' := aV σ t) (t' := aB σ t) (by simp only [ax, hat]; rw [if_neg nf, if_neg hla']) (AT (by rw [hk2]; show k.a = t.at'; exact ha) (by show t.at' < 4; omega) ⟨by rw [hk2]; rfl, by rw [hk2]; rfl⟩) (aw (σ := σ) hg (by simp) rfl) (show ae (xB x P t (k2) * (ar P (g) (aV σ t) * R)) _ from h2.to))
theorem afV (S : SOk σ) (T : lz σ t) (ho : t.x.op = 1) (hat : t.at' = 4) : Sp bj [vp x, vi now] (yT x P t * aI P σ) (fun _ : Unit => vb (ax σ t now).2.2) (fun _ => yU x P (ax σ t now) * aI P (ax σ t now).1) := by
 have hN : σ.μ.N < 1099511627000 := by have := S.N; omega
 refine aJ fun R H h => ?_;obtain ⟨k, g, hR, hg, h0⟩ := jy h;have hl := hg.1;have ha := hR.1;have hfr := (hR.2.2.1 ho).1 (.inl hat);have hx := wa (T.x (by omega));have hc := bF.1 S.c
 have hst : ax σ t now = (σ.make t.who (XV σ t), { t with obj := σ.obs.length, at' := 5 }, false) := by rw [lr σ t now ho (by omega)]; simp only [zY, hat]
 refine Ir x P g σ t k now S T ho (by omega) h0 fun H1 h1 => ?_;refine ah (dx ..) ?_;refine aa (aC (by omega)) ?_;refine ah (dy ..) ?_;refine gs ?_;refine aa (ba (by omega)) ?_;refine gs ?_;refine ai h1 (b7 (aL (aL aZ))) rfl ?_;refine ai h1 (b7 (aL (aL aZ))) rfl ?_;refine af h1 (yI σ.c.un t.x.a (by omega) (hx.2 ho).1) fun _ H2 h2 => ?_;refine aa (v := vu (max (σ.c.un / t.x.a.toNat) 1)) rfl ?_;refine aa (v := vb true) rfl ?_;refine ai h2 ac rfl ?_;refine ai h2 (b7 (aL (aL aZ))) rfl ?_;refine ai h2 (b7 (aL (aL aZ))) rfl ?_;refine iW ?_;have h3 := cH (p := P) (σ := σ) (R := xB x P t k * R) g hg h2.to;refine af h3 (adG P σ t.who (XV σ t) hN (by have := S.obs; omega)) fun _ H4 h4 => ?_;obtain ⟨g', hg', h5⟩ := dP (p := P) (σ := σ.make t.who (XV σ t)) (R := xB x P t k * R) (H := H4) h4.to;refine bg h5 ac rfl rfl fun H6 h6 => ?_;refine bg h6 ac rfl rfl fun H7 h7 => ?_;refine ah (cm ..) ?_;exact ap (hF (g := g') (k := { k with obj := σ.obs.length, a := 5 }) (σ' := σ.make t.who (XV σ t)) (t' := { t with obj := σ.obs.length, at' := 5 }) (hst) (Iw rfl ho (by simp) (fun _ => hfr) (by simp) (by simp)) hg' (show ae (xB x P t ({ k with obj := σ.obs.length, a := 5 }) * (ar P (g') (σ.make t.who (XV σ t)) * R)) _ from h7.to))
theorem afW (S : SOk σ) (T : lz σ t) (ho : t.x.op = 1) (hat : t.at' = 5) : Sp bj [vp x, vi now] (yT x P t * aI P σ) (fun _ : Unit => vb (ax σ t now).2.2) (fun _ => yU x P (ax σ t now) * aI P (ax σ t now).1) := by
 have hN : σ.μ.N < 1099511627000 := by have := S.N; omega
 refine aJ fun R H h => ?_;obtain ⟨k, g, hR, hg, h0⟩ := jy h;have hl := hg.1;have ha := hR.1;have hfm := (hR.2.2.1 ho).1 (.inr hat);have hko := (hR.2.2.1 ho).2.1 hat;have hx := wa (T.x (by omega));have hob := T.obj (.inl ⟨hat, ho⟩);have hso := S.obs
 have hst : ax σ t now = ((σ.mem ((σ.μ.acc t.who 2 (10, t.s, t.mark)).put (10, t.s, t.mark) (dG t.x.flow t.obj))).note now t.who 0, { t with at' := 6, code := 0 }, false) := by rw [lr σ t now ho (by omega)]; simp only [zY, hat]
 refine Ir x P g σ t k now S T ho (by omega) h0 fun H1 h1 => ?_;refine ah (dx ..) ?_;refine aa (aC (by omega)) ?_;refine ah (dy ..) ?_;refine gs ?_;refine aa (aC (by omega)) ?_;refine gs ?_;refine aa (ba (by omega)) ?_;refine gs ?_;refine ai h1 ac rfl ?_;refine ai h1 ac rfl ?_;refine ai h1 ac rfl ?_;refine ai h1 (b7 (aL (aL aZ))) rfl ?_;refine ai h1 ac rfl ?_;rw [hfm, hko];refine af h1 (oB (p := P) (g := g) (σ := σ) (μ' := (σ.μ.acc t.who 2 (10, t.s, t.mark)).put (10, t.s, t.mark) (dG t.x.flow t.obj)) (by simp) (P7 g.tb g.m σ.c.sh.toNat σ.c.sl.toNat σ.μ t.who t.s t.mark t.x.flow t.obj hN hx.1 (by omega))) fun _ H2 h2 => ?_;refine af h2 (jw x P g (σ.mem ((σ.μ.acc t.who 2 (10, t.s, t.mark)).put (10, t.s, t.mark) (dG t.x.flow t.obj))) t (k) (aw (σ := σ) hg (by simp) rfl) now 0 (by have := S.N; show σ.μ.N + 2 < _; omega) S.pts) fun v H3 h3 => ?_;refine bg h3 ac rfl rfl fun H4 h4 => ?_;refine ah (cm ..) ?_;exact ap (hF (g := { g with pv := v }) (k := { k with a := 6, code := 0 }) (σ' := (σ.mem ((σ.μ.acc t.who 2 (10, t.s, t.mark)).put (10, t.s, t.mark) (dG t.x.flow t.obj))).note now t.who 0) (t' := { t with at' := 6, code := 0 }) (hst) (Iw rfl ho (by simp) (by simp) (by simp) (by simp)) (dE (σ := σ) hg (by simp) rfl) (show ae (xB x P t ({ k with a := 6, code := 0 }) * (ar P ({ g with pv := v }) ((σ.mem ((σ.μ.acc t.who 2 (10, t.s, t.mark)).put (10, t.s, t.mark) (dG t.x.flow t.obj))).note now t.who 0) * R)) _ from h4.to))
theorem afX (S : SOk σ) (T : lz σ t) (ho : t.x.op = 1) (hat : t.at' = 6) : Sp bj [vp x, vi now] (yT x P t * aI P σ) (fun _ : Unit => vb (ax σ t now).2.2) (fun _ => yU x P (ax σ t now) * aI P (ax σ t now).1) := by
 have hN : σ.μ.N < 1099511627000 := by have := S.N; omega
 refine aJ fun R H h => ?_;obtain ⟨k, g, hR, hg, h0⟩ := jy h;have hl := hg.1;have ha := hR.1
 have hst : ax σ t now = (iE σ t, t, true) := by rw [lr σ t now ho (by omega)]; simp only [zY, hat]
 have hto : k.code = t.code := (hR.2.2.1 ho).2.2 hat;refine Ir x P g σ t k now S T ho (by omega) h0 fun H1 h1 => ?_;refine ah (dx ..) ?_;refine aa (aC (by omega)) ?_;refine ah (dy ..) ?_;refine gs ?_;refine aa (aC (by omega)) ?_;refine gs ?_;refine aa (aC (by omega)) ?_;refine gs ?_;refine ai h1 ac rfl ?_;refine ai h1 ac rfl ?_;refine af h1 (oB (p := P) (g := g) (σ := σ) (μ' := (σ.μ.acc t.who 2 (8, t.s, 0)).put (8, t.s, 0) 0) (by simp) (tU g.tb g.m σ.c.sh.toNat σ.c.sl.toNat σ.μ t.who t.s hN)) fun _ H2 h2 => ?_;exact ap (NA (g := g) (k := k) (σ' := iE σ t) (t' := t) hst hto (aw (σ := σ) hg (by simp) rfl) (show ae (xB x P t k * (ar P g (iE σ t) * R)) H2 from h2.to))
theorem acN (S : SOk σ) (T : lz σ t) (ho : t.x.op ≠ 1) (hat : t.at' = 10) : Sp bj [vp x, vi now] (yT x P t * aI P σ) (fun _ : Unit => vb (ax σ t now).2.2) (fun _ => yU x P (ax σ t now) * aI P (ax σ t now).1) := by
 have hN : σ.μ.N < 1099511627000 := by have := S.N; omega
 refine aJ fun R H h => ?_;obtain ⟨k, g, hR, hg, h0⟩ := jy h;have hl := hg.1;have ha := hR.1
 have hst : ax σ t now = (iE σ t, t, true) := by rw [bM σ t now ho (by omega)]; simp only [fN, hat]
 have hto : k.code = t.code := (hR.2.2.2 ho).2.2.2.2 (.inr hat);refine rr x P g σ t k now S T ho (by omega) h0 fun H1 h1 => ?_;refine ah (cj ..) ?_;refine aa (aC (by omega)) ?_;refine gs ?_;refine aa (aC (by omega)) ?_;refine gs ?_;refine aa (aC (by omega)) ?_;refine gs ?_;refine aa (aC (by omega)) ?_;refine gs ?_;refine aa (aC (by omega)) ?_;refine gs ?_;refine aa (aC (by omega)) ?_;refine gs ?_;refine aa (aC (by omega)) ?_;refine gs ?_;refine ai h1 ac rfl ?_;refine ai h1 ac rfl ?_;refine af h1 (oB (p := P) (g := g) (σ := σ) (μ' := (σ.μ.acc t.who 2 (8, t.s, 0)).put (8, t.s, 0) 0) (by simp) (tU g.tb g.m σ.c.sh.toNat σ.c.sl.toNat σ.μ t.who t.s hN)) fun _ H2 h2 => ?_;exact ap (NA (g := g) (k := k) (σ' := iE σ t) (t' := t) hst hto (aw (σ := σ) hg (by simp) rfl) (show ae (xB x P t k * (ar P g (iE σ t) * R)) H2 from h2.to))
theorem afN (S : SOk σ) (T : lz σ t) (ho : t.x.op ≠ 1) (hat : t.at' = 3) : Sp bj [vp x, vi now] (yT x P t * aI P σ) (fun _ : Unit => vb (ax σ t now).2.2) (fun _ => yU x P (ax σ t now) * aI P (ax σ t now).1) := by
 have hN : σ.μ.N < 1099511627000 := by have := S.N; omega
 refine aJ fun R H h => ?_;obtain ⟨k, g, hR, hg, h0⟩ := jy h;have hl := hg.1;have ha := hR.1;obtain ⟨hI, hfr⟩ := hR.2.1 (by omega);have hi := T.i (by omega);refine rr x P g σ t k now S T ho (by omega) h0 fun H1 h1 => ?_;refine ah (cj ..) ?_;refine aa (ba (by omega)) ?_;refine gs ?_;refine af h1 (KC x P g σ t k S T hI hfr hi) fun _ H2 h2 => ?_;obtain ⟨k2, hk2⟩ : ∃ k2 : Xk, k2 = sZ σ t k := ⟨_, rfl⟩;rw [← hk2] at h2;refine aa (v := vb (aB σ t).found) rfl ?_;refine aa (v := vb (!(aB σ t).found && decide (σ.c.sl ≤ ((t.i + 1 : Nat) : Int)))) rfl ?_
 cases hfd : (aB σ t).found with
 | true =>
  refine gs ?_;refine bg h2 ac rfl rfl fun H4 h4 => ?_;refine ah (bo ..) ?_;exact ap (hF (g := g) (k := { k2 with a := 4 }) (σ' := aV σ t) (t' := { aB σ t with at' := 4 }) (by simp only [ax, hat]; rw [if_pos hfd, if_neg ho]) (sF rfl ho (by simp) (by rw [hk2]; rfl) (by rw [hk2]; show (if (aB σ t).found = true then (aB σ t).obj else k.obj) = (aB σ t).obj; rw [if_pos hfd]) (by simp) (by simp) (by simp) (by simp)) (aw (σ := σ) hg (by simp) rfl) (show ae (xB x P t ({ k2 with a := 4 }) * (ar P (g) (aV σ t) * R)) _ from h4.to))
 | false =>
  rw [Bool.not_false, Bool.true_and];refine gs ?_
  have hli : (aB σ t).i = t.i + 1 := by
   show (if (aB σ t).found = true then t.i else t.i + 1) = _;rw [if_neg (by rw [hfd]; simp)]
  have hla : cr σ (aB σ t) = decide (σ.c.sl ≤ ((t.i + 1 : Nat) : Int)) := by unfold cr; rw [hli]
  have nf : ¬ (aB σ t).found = true := by rw [hfd]; simp
  by_cases hL : σ.c.sl ≤ ((t.i + 1 : Nat) : Int)
  ·have hla' : cr σ (aB σ t) = true := hla.trans (fj hL)
   rw [fj hL];refine gs ?_;refine af h2 (jw x P g (aV σ t) t (k2) (aw (σ := σ) hg (by simp) rfl) now 5 (by have := S.N; show σ.μ.N + 2 < _; omega) S.pts) fun v H3 h3 => ?_;refine bg h3 ac rfl rfl fun H4 h4 => ?_;refine ah (bo ..) ?_;exact ap (hF (g := { g with pv := v }) (k := { k2 with a := 10, code := 5 }) (σ' := (aV σ t).note now t.who 5) (t' := { aB σ t with at' := 10, code := 5 }) (by simp only [ax, hat]; rw [if_neg nf, if_pos hla', if_neg ho]) (UG rfl ho rfl rfl) (dE (σ := σ) hg (by simp) rfl) (show ae (xB x P t ({ k2 with a := 10, code := 5 }) * (ar P ({ g with pv := v }) ((aV σ t).note now t.who 5) * R)) _ from h4.to))
  ·have hla' : ¬ cr σ (aB σ t) = true := by rw [hla, ez hL]; simp
   rw [ez hL];refine gs ?_;refine ah (bo ..) ?_;exact ap (hF (g := g) (k := k2) (σ' := aV σ t) (t' := aB σ t) (by simp only [ax, hat]; rw [if_neg nf, if_neg hla']) (AT (by rw [hk2]; show k.a = t.at'; exact ha) (by show t.at' < 4; omega) ⟨by rw [hk2]; rfl, by rw [hk2]; rfl⟩) (aw (σ := σ) hg (by simp) rfl) (show ae (xB x P t (k2) * (ar P (g) (aV σ t) * R)) _ from h2.to))
theorem afO (S : SOk σ) (T : lz σ t) (ho : t.x.op ≠ 1) (hat : t.at' = 4) : Sp bj [vp x, vi now] (yT x P t * aI P σ) (fun _ : Unit => vb (ax σ t now).2.2) (fun _ => yU x P (ax σ t now) * aI P (ax σ t now).1) := by
 have hN : σ.μ.N < 1099511627000 := by have := S.N; omega
 refine aJ fun R H h => ?_;obtain ⟨k, g, hR, hg, h0⟩ := jy h;have hl := hg.1;have ha := hR.1;obtain ⟨hI, hko⟩ := (hR.2.2.2 ho).1 (by omega) (by omega);have hob := T.obj (.inr ⟨by omega, by omega, ho⟩)
 have hob' : k.obj < σ.obs.length := by omega
 obtain ⟨b, hb⟩ : ∃ b, g.rp[k.obj]? = some b := ⟨_, cA (by omega)⟩;refine rr x P g σ t k now S T ho (by omega) h0 fun H1 h1 => ?_;refine ah (cj ..) ?_;refine aa (aC (by omega)) ?_;refine gs ?_;refine aa (ba (by omega)) ?_;refine gs ?_;refine bg h1 ac rfl rfl fun H2 h2 => ?_;refine af h2 (AQ x P g σ t { k with a := 5 } S hl b hob' hb) fun _ H3 h3 => ?_;dsimp only at h3;rw [hko] at h3
 by_cases hw : bv (σ.μ.V (11, (t.obj : Int), 0)) = 0
 ·refine aa (ba (by rw [hko]; exact hw)) ?_
  refine gs ?_;refine bg h3 ac rfl rfl fun H4 h4 => ?_;refine ah (bo ..) ?_;exact ap (hF (g := g) (k := { k with a := 8, obj := t.obj, w := σ.μ.V (11, (t.obj : Int), 0) }) (σ' := cY σ t) (t' := { t with w := σ.μ.V (11, (t.obj : Int), 0), at' := 8 }) (by rw [bM σ t now ho (by omega)]; simp only [fN, hat]; rw [if_pos hw]) (sF rfl ho (by simp) hI rfl (by simp) (by simp) (fun _ => rfl) (by simp)) (aw (σ := σ) hg (by simp) rfl) (show ae (xB x P t ({ k with a := 8, obj := t.obj, w := σ.μ.V (11, (t.obj : Int), 0) }) * (ar P (g) (cY σ t) * R)) _ from h4.to))
 ·refine aa (aC (by rw [hko]; exact hw)) ?_
  refine gs ?_;refine ah (bo ..) ?_;exact ap (hF (g := g) (k := { k with a := 5, obj := t.obj, w := σ.μ.V (11, (t.obj : Int), 0) }) (σ' := cY σ t) (t' := { t with w := σ.μ.V (11, (t.obj : Int), 0), at' := 5 }) (by rw [bM σ t now ho (by omega)]; simp only [fN, hat]; rw [if_neg hw]) (sF rfl ho (by simp) hI rfl (by simp) (by simp) (by simp) (by simp)) (aw (σ := σ) hg (by simp) rfl) (show ae (xB x P t ({ k with a := 5, obj := t.obj, w := σ.μ.V (11, (t.obj : Int), 0) }) * (ar P (g) (cY σ t) * R)) _ from h3.to))
theorem afP (S : SOk σ) (T : lz σ t) (ho : t.x.op ≠ 1) (hat : t.at' = 5) : Sp bj [vp x, vi now] (yT x P t * aI P σ) (fun _ : Unit => vb (ax σ t now).2.2) (fun _ => yU x P (ax σ t now) * aI P (ax σ t now).1) := by
 have hN : σ.μ.N < 1099511627000 := by have := S.N; omega
 refine aJ fun R H h => ?_;obtain ⟨k, g, hR, hg, h0⟩ := jy h;have hl := hg.1;have ha := hR.1;obtain ⟨hI, hko⟩ := (hR.2.2.2 ho).1 (by omega) (by omega);have hob := T.obj (.inr ⟨by omega, by omega, ho⟩)
 have hob' : k.obj < σ.obs.length := by omega
 obtain ⟨b, hb⟩ : ∃ b, g.rp[k.obj]? = some b := ⟨_, cA (by omega)⟩;refine rr x P g σ t k now S T ho (by omega) h0 fun H1 h1 => ?_;refine ah (cj ..) ?_;refine aa (aC (by omega)) ?_;refine gs ?_;refine aa (aC (by omega)) ?_;refine gs ?_;refine aa (ba (by omega)) ?_;refine gs ?_;refine ai h1 ac rfl ?_;refine af h1 (pa P g σ t.who S.N) fun _ H2 h2 => ?_;refine bg h2 ac rfl rfl fun H3 h3 => ?_;refine bg h3 ac rfl rfl fun H4 h4 => ?_;refine ai h4 ac rfl ?_;refine aa (Fe 2 (by omega)) ?_
 by_cases hw : σ.μ.V (2, 0, 0) % 2 = 1
 ·refine aa (ba (show ((σ.μ.V (2, 0, 0) % 2 : Nat) : Int) = 1 by omega)) ?_
  refine gs ?_;refine bg h4 ac rfl rfl fun H5 h5 => ?_;refine ah (bo ..) ?_;exact ap (hF (g := g) (k := { k with a := 4, q := σ.μ.V (2, 0, 0) }) (σ' := ed σ t) (t' := { t with q := σ.μ.V (2, 0, 0), at' := 4 }) (by rw [bM σ t now ho (by omega)]; simp only [fN, hat]; rw [if_pos hw]) (sF rfl ho (by simp) hI hko (by simp) (by simp) (by simp) (by simp)) (aw (σ := σ) hg (by simp) rfl) (show ae (xB x P t ({ k with a := 4, q := σ.μ.V (2, 0, 0) }) * (ar P (g) (ed σ t) * R)) _ from h5.to))
 ·refine aa (aC (show ¬ ((σ.μ.V (2, 0, 0) % 2 : Nat) : Int) = 1 by omega)) ?_
  refine gs ?_;refine ah (bo ..) ?_;exact ap (hF (g := g) (k := { k with a := 6, q := σ.μ.V (2, 0, 0) }) (σ' := ed σ t) (t' := { t with q := σ.μ.V (2, 0, 0), at' := 6 }) (by rw [bM σ t now ho (by omega)]; simp only [fN, hat]; rw [if_neg hw]) (sF rfl ho (by simp) hI hko (fun _ => rfl) (by simp) (by simp) (by simp)) (aw (σ := σ) hg (by simp) rfl) (show ae (xB x P t ({ k with a := 6, q := σ.μ.V (2, 0, 0) }) * (ar P (g) (ed σ t) * R)) _ from h4.to))
theorem afQ (S : SOk σ) (T : lz σ t) (ho : t.x.op ≠ 1) (hat : t.at' = 6) : Sp bj [vp x, vi now] (yT x P t * aI P σ) (fun _ : Unit => vb (ax σ t now).2.2) (fun _ => yU x P (ax σ t now) * aI P (ax σ t now).1) := by
 have hN : σ.μ.N < 1099511627000 := by have := S.N; omega
 refine aJ fun R H h => ?_;obtain ⟨k, g, hR, hg, h0⟩ := jy h;have hl := hg.1;have ha := hR.1;obtain ⟨hI, hko⟩ := (hR.2.2.2 ho).1 (by omega) (by omega);have hob := T.obj (.inr ⟨by omega, by omega, ho⟩)
 have hob' : k.obj < σ.obs.length := by omega
 obtain ⟨b, hb⟩ : ∃ b, g.rp[k.obj]? = some b := ⟨_, cA (by omega)⟩;have hkq := (hR.2.2.2 ho).2.1 (.inl hat);refine rr x P g σ t k now S T ho (by omega) h0 fun H1 h1 => ?_;refine ah (cj ..) ?_;refine aa (aC (by omega)) ?_;refine gs ?_;refine aa (aC (by omega)) ?_;refine gs ?_;refine aa (aC (by omega)) ?_;refine gs ?_;refine aa (ba (by omega)) ?_;refine gs ?_;refine bg h1 ac rfl rfl fun H2 h2 => ?_;refine bg h2 ac rfl rfl fun H5 h5 => ?_;refine af h5 (AQ x P g σ t { k with a := 7, mark := now } S hl b hob' hb) fun _ H3 h3 => ?_;dsimp only at h3;rw [hko] at h3
 by_cases hw : bv (σ.μ.V (11, (t.obj : Int), 0)) = 0
 ·refine aa (ba (by rw [hko]; exact hw)) ?_
  refine gs ?_;refine bg h3 ac rfl rfl fun H4 h4 => ?_;refine ah (bo ..) ?_;exact ap (hF (g := g) (k := { k with a := 8, mark := now, obj := t.obj, w := σ.μ.V (11, (t.obj : Int), 0) }) (σ' := cY σ t) (t' := { t with w := σ.μ.V (11, (t.obj : Int), 0), mark := now, at' := 8 }) (by rw [bM σ t now ho (by omega)]; simp only [fN, hat]; rw [if_pos hw]) (sF rfl ho (by simp) hI rfl (by simp) (by simp) (fun _ => rfl) (by simp)) (aw (σ := σ) hg (by simp) rfl) (show ae (xB x P t ({ k with a := 8, mark := now, obj := t.obj, w := σ.μ.V (11, (t.obj : Int), 0) }) * (ar P (g) (cY σ t) * R)) _ from h4.to))
 ·refine aa (aC (by rw [hko]; exact hw)) ?_
  refine gs ?_;refine ah (bo ..) ?_;exact ap (hF (g := g) (k := { k with a := 7, mark := now, obj := t.obj, w := σ.μ.V (11, (t.obj : Int), 0) }) (σ' := cY σ t) (t' := { t with w := σ.μ.V (11, (t.obj : Int), 0), mark := now, at' := 7 }) (by rw [bM σ t now ho (by omega)]; simp only [fN, hat]; rw [if_neg hw]) (sF rfl ho (by simp) hI rfl (fun _ => hkq) (fun _ => rfl) (by simp) (by simp)) (aw (σ := σ) hg (by simp) rfl) (show ae (xB x P t ({ k with a := 7, mark := now, obj := t.obj, w := σ.μ.V (11, (t.obj : Int), 0) }) * (ar P (g) (cY σ t) * R)) _ from h3.to))
theorem afR (S : SOk σ) (T : lz σ t) (ho : t.x.op ≠ 1) (hat : t.at' = 7) : Sp bj [vp x, vi now] (yT x P t * aI P σ) (fun _ : Unit => vb (ax σ t now).2.2) (fun _ => yU x P (ax σ t now) * aI P (ax σ t now).1) := by
 have hN : σ.μ.N < 1099511627000 := by have := S.N; omega
 refine aJ fun R H h => ?_;obtain ⟨k, g, hR, hg, h0⟩ := jy h;have hl := hg.1;have ha := hR.1;obtain ⟨hI, hko⟩ := (hR.2.2.2 ho).1 (by omega) (by omega);have hob := T.obj (.inr ⟨by omega, by omega, ho⟩)
 have hob' : k.obj < σ.obs.length := by omega
 obtain ⟨b, hb⟩ : ∃ b, g.rp[k.obj]? = some b := ⟨_, cA (by omega)⟩;have hkq := (hR.2.2.2 ho).2.1 (.inr hat);have hkm := (hR.2.2.2 ho).2.2.1 hat;refine rr x P g σ t k now S T ho (by omega) h0 fun H1 h1 => ?_;refine ah (cj ..) ?_;refine aa (aC (by omega)) ?_;refine gs ?_;refine aa (aC (by omega)) ?_;refine gs ?_;refine aa (aC (by omega)) ?_;refine gs ?_;refine aa (aC (by omega)) ?_;refine gs ?_;refine aa (ba (by omega)) ?_;refine gs ?_;refine bg h1 ac rfl rfl fun H2 h2 => ?_;refine ai h2 ac rfl ?_;refine af h2 (pa P g σ t.who S.N) fun _ H3 h3' => ?_;refine bA ac ?_;refine aN h3' rfl ?_;refine aH h2 h3' (by rfl) ?_;rw [hkq]
 by_cases hw : σ.μ.V (2, 0, 0) = t.q
 ·refine aa (ba (show ((σ.μ.V (2, 0, 0) : Nat) : Int) = (t.q : Int) by omega)) ?_
  refine gs ?_;refine ai h3' ac rfl ?_;rw [hkm];refine af h3' (jw x P g (ed σ t) t ({ k with a := 4 }) (aw (σ := σ) hg (by simp) rfl) t.mark 8 (by have := S.N; show σ.μ.N + 2 < _; omega) S.pts) fun v H3 h3 => ?_;refine bg h3 ac rfl rfl fun H4 h4 => ?_;refine ah (bo ..) ?_;exact ap (hF (g := { g with pv := v }) (k := { k with a := 10, code := 8 }) (σ' := (ed σ t).note t.mark t.who 8) (t' := { t with at' := 10, code := 8 }) (by rw [bM σ t now ho (by omega)]; simp only [fN, hat]; rw [if_pos hw]) (UG rfl ho rfl rfl) (dE (σ := σ) hg (by simp) rfl) (show ae (xB x P t ({ k with a := 10, code := 8 }) * (ar P ({ g with pv := v }) ((ed σ t).note t.mark t.who 8) * R)) _ from h4.to))
 ·refine aa (aC (show ¬ ((σ.μ.V (2, 0, 0) : Nat) : Int) = (t.q : Int) by omega)) ?_
  refine gs ?_;refine ah (bo ..) ?_;exact ap (hF (g := g) (k := { k with a := 4 }) (σ' := ed σ t) (t' := { t with at' := 4 }) (by rw [bM σ t now ho (by omega)]; simp only [fN, hat]; rw [if_neg hw]) (sF rfl ho (by simp) hI hko (by simp) (by simp) (by simp) (by simp)) (aw (σ := σ) hg (by simp) rfl) (show ae (xB x P t ({ k with a := 4 }) * (ar P (g) (ed σ t) * R)) _ from h3'.to))
theorem afS (S : SOk σ) (T : lz σ t) (ho : t.x.op ≠ 1) (hat : t.at' = 8) : Sp bj [vp x, vi now] (yT x P t * aI P σ) (fun _ : Unit => vb (ax σ t now).2.2) (fun _ => yU x P (ax σ t now) * aI P (ax σ t now).1) := by
 have hN : σ.μ.N < 1099511627000 := by have := S.N; omega
 refine aJ fun R H h => ?_;obtain ⟨k, g, hR, hg, h0⟩ := jy h;have hl := hg.1;have ha := hR.1;obtain ⟨hI, hko⟩ := (hR.2.2.2 ho).1 (by omega) (by omega);have hob := T.obj (.inr ⟨by omega, by omega, ho⟩)
 have hob' : k.obj < σ.obs.length := by omega
 obtain ⟨b, hb⟩ : ∃ b, g.rp[k.obj]? = some b := ⟨_, cA (by omega)⟩;have hkw := (hR.2.2.2 ho).2.2.2.1 hat
 have leT : σ.μ.N ≤ (σ.μ.turn t.who t.obj t.w (aP t.w 2)).N := by
  cases aP t.w 2 with
  | none => exact bJ _
  | some n => show σ.μ.N ≤ σ.μ.N + 2; omega
 have leN : (σ.μ.turn t.who t.obj t.w (aP t.w 2)).N ≤ σ.μ.N + 2 := by
  cases aP t.w 2 with
  | none => show σ.μ.N ≤ σ.μ.N + 2; omega
  | some n => exact bJ _
 refine rr x P g σ t k now S T ho (by omega) h0 fun H1 h1 => ?_;refine ah (cj ..) ?_;refine aa (aC (by omega)) ?_;refine gs ?_;refine aa (aC (by omega)) ?_;refine gs ?_;refine aa (aC (by omega)) ?_;refine gs ?_;refine aa (aC (by omega)) ?_;refine gs ?_;refine aa (aC (by omega)) ?_;refine gs ?_;refine aa (ba (by omega)) ?_;refine gs ?_;refine bg h1 ac rfl rfl fun H2 h2 => ?_;refine af h2 (jx x P g σ t { k with a := 4 } hl b hob' hb) fun _ H3 h3 => ?_;refine bA ac ?_;refine aN h3 rfl ?_;refine aH h2 h3 (by rfl) ?_;refine bA ac ?_;refine aN h3 rfl ?_;refine aH h2 h3 (by rfl) ?_;rw [hkw];refine af h3 (kg (p := P) (μ' := σ.μ.turn t.who t.obj t.w (aP t.w 2)) leT hl hob' hb (by rw [hko]; exact ug g.m t.obj b (aA σ t.obj) σ.μ t.who t.w 2 (by omega) T.w hN)) fun _ H5 h5 => ?_;cases hw : turned σ.μ t.obj t.w (aP t.w 2)
 ·refine gs ?_
  refine ah (bo ..) ?_;exact ap (hF (g := g) (k := { k with a := 4 }) (σ' := σ.mem (σ.μ.turn t.who t.obj t.w (aP t.w 2))) (t' := { t with at' := 4 }) (by rw [bM σ t now ho (by omega)]; simp only [fN, hat]; rw [if_neg (by rw [hw]; simp)]) (sF rfl ho (by simp) hI hko (by simp) (by simp) (by simp) (by simp)) (aw (σ := σ) hg leT rfl) (show ae (xB x P t ({ k with a := 4 }) * (ar P (g) (σ.mem (σ.μ.turn t.who t.obj t.w (aP t.w 2))) * R)) _ from h5.to))
 ·refine gs ?_
  refine af h5 (jw x P g (σ.mem (σ.μ.turn t.who t.obj t.w (aP t.w 2))) t { k with a := 4 } (aw (σ := σ) hg leT rfl) now 0 (by have := S.N; show (σ.μ.turn t.who t.obj t.w (aP t.w 2)).N < _; omega) S.pts) fun v H6 h6 => ?_;refine bg h6 ac rfl rfl fun H7 h7 => ?_;refine ah (bo ..) ?_;exact ap (hF (g := { g with pv := v }) (k := { k with a := 9, code := 0 }) (σ' := (σ.mem (σ.μ.turn t.who t.obj t.w (aP t.w 2))).note now t.who 0) (t' := { t with at' := 9, code := 0 }) (by rw [bM σ t now ho (by omega)]; simp only [fN, hat]; rw [if_pos hw]) (sF rfl ho (by simp) hI hko (by simp) (by simp) (by simp) (fun _ => rfl)) (dE (σ := σ) hg leT rfl) (show ae (xB x P t ({ k with a := 9, code := 0 }) * (ar P ({ g with pv := v }) ((σ.mem (σ.μ.turn t.who t.obj t.w (aP t.w 2))).note now t.who 0) * R)) _ from h7.to))
theorem afT (S : SOk σ) (T : lz σ t) (ho : t.x.op ≠ 1) (hat : t.at' = 9) : Sp bj [vp x, vi now] (yT x P t * aI P σ) (fun _ : Unit => vb (ax σ t now).2.2) (fun _ => yU x P (ax σ t now) * aI P (ax σ t now).1) := by
 have hN : σ.μ.N < 1099511627000 := by have := S.N; omega
 refine aJ fun R H h => ?_;obtain ⟨k, g, hR, hg, h0⟩ := jy h;have hl := hg.1;have ha := hR.1;obtain ⟨hI, hko⟩ := (hR.2.2.2 ho).1 (by omega) (by omega);have hob := T.obj (.inr ⟨by omega, by omega, ho⟩)
 have hob' : k.obj < σ.obs.length := by omega
 obtain ⟨b, hb⟩ : ∃ b, g.rp[k.obj]? = some b := ⟨_, cA (by omega)⟩;have hkc := (hR.2.2.2 ho).2.2.2.2 (.inl hat);refine rr x P g σ t k now S T ho (by omega) h0 fun H1 h1 => ?_;refine ah (cj ..) ?_;refine aa (aC (by omega)) ?_;refine gs ?_;refine aa (aC (by omega)) ?_;refine gs ?_;refine aa (aC (by omega)) ?_;refine gs ?_;refine aa (aC (by omega)) ?_;refine gs ?_;refine aa (aC (by omega)) ?_;refine gs ?_;refine aa (aC (by omega)) ?_;refine gs ?_;refine aa (ba (by omega)) ?_;refine gs ?_;refine ai h1 ac rfl ?_;refine ai h1 ac rfl ?_;refine ai h1 ac rfl ?_;rw [hI];refine af h1 (oB (p := P) (g := g) (σ := σ) (μ' := (σ.μ.acc t.who 2 (10, t.s, (t.i : Int))).put (10, t.s, (t.i : Int)) 0) (by simp) (Tq g.tb g.m σ.c.sh.toNat σ.c.sl.toNat σ.μ t.who t.s t.i hN)) fun _ H2 h2 => ?_;refine bg h2 ac rfl rfl fun H4 h4 => ?_;refine ah (bo ..) ?_;exact ap (hF (g := g) (k := { k with a := 10 }) (σ' := σ.mem ((σ.μ.acc t.who 2 (10, t.s, (t.i : Int))).put (10, t.s, (t.i : Int)) 0)) (t' := { t with at' := 10 }) (by rw [bM σ t now ho (by omega)]; simp only [fN, hat]) (UG rfl ho rfl hkc) (aw (σ := σ) hg (by simp) rfl) (show ae (xB x P t ({ k with a := 10 }) * (ar P (g) (σ.mem ((σ.μ.acc t.who 2 (10, t.s, (t.i : Int))).put (10, t.s, (t.i : Int)) 0)) * R)) _ from h4.to))
theorem ZF (S : SOk σ) (T : lz σ t) (hat : t.at' = 2) : Sp bj [vp x, vi now] (yT x P t * aI P σ) (fun _ : Unit => vb (ax σ t now).2.2) (fun _ => yU x P (ax σ t now) * aI P (ax σ t now).1) := by
 have hN : σ.μ.N < 1099511627000 := by have := S.N; omega
 refine aJ fun R H h => ?_;obtain ⟨k, g, hR, hg, h0⟩ := jy h;have hl := hg.1;have ha := hR.1
 have hst : ax σ t now = eZ σ t := by simp only [ax, hat]
 refine yh x P g σ t k now S T (by omega) h0 fun H1 h1 => ?_;rw [hst];exact FB x P g σ t k now S (hR.2.1 (by omega)) (by omega) hg h1
theorem ZE (S : SOk σ) (T : lz σ t) (hat : t.at' = 0) : Sp bj [vp x, vi now] (yT x P t * aI P σ) (fun _ : Unit => vb (ax σ t now).2.2) (fun _ => yU x P (ax σ t now) * aI P (ax σ t now).1) := by
 have hN : σ.μ.N < 1099511627000 := by have := S.N; omega
 refine aJ fun R H h => ?_;obtain ⟨k, g, hR, hg, h0⟩ := jy h;have hl := hg.1;have ha := hR.1;refine KA x P g σ t k now S T h0 fun H1 h1 => ?_;refine ah (mA ..) ?_;refine ai h1 ac rfl ?_;refine aa (ba (by omega)) ?_;refine ah (kY ..) ?_;refine gs ?_
 have bad : ∀ code, code ≠ 0 → sA t.x = some code → wp (cL (vp x) (vi now) (vb false) (vp P) (vi t.s) (vi code) H1) fun v' H' => ∃ y : Unit, v' = vb (ax σ t now).2.2 ∧ ae (yU x P (ax σ t now) * aI P (ax σ t now).1 * R) H' := by
  intro code h0 hx;refine ah (k7 ..) ?_;refine aa (JC h0) ?_;refine gs ?_;refine af h1 (jw x P g σ t k hg now code (by have := S.N; omega) S.pts) fun v H2 h2 => ?_;exact ap (NA (g := { g with pv := v }) (k := { k with code := code }) (σ' := σ.note now t.who code) (t' := { t with code := code }) (by simp only [ax, hat, hx]) rfl (dE (σ := σ) hg (bJ _) rfl) h2.to)
 have good : sA t.x = none → wp (cL (vp x) (vi now) (vb false) (vp P) (vi t.s) (vi 0) H1) fun v' H' => ∃ y : Unit, v' = vb (ax σ t now).2.2 ∧ ae (yU x P (ax σ t now) * aI P (ax σ t now).1 * R) H' := by
  intro hx
  have hst : ax σ t now = eZ σ t := by simp only [ax, hat, hx]
  refine ah (k7 ..) ?_;refine aa (sR rfl) ?_;refine gs ?_;refine bg h1 ac rfl rfl fun H2 h2 => ?_;rw [hst];exact FB x P g σ t { k with a := 2 } now S (hR.2.1 (by omega)) rfl hg h2.to
 have k17f : qM t.x → wp (gU (vp x) (vi now) (vb false) (vp P) (vi t.s) (vi 0) (vb false) H1) fun v' H' => ∃ y : Unit, v' = vb (ax σ t now).2.2 ∧ ae (yU x P (ax σ t now) * aI P (ax σ t now).1 * R) H' := by
  intro hf;refine ah (kZ ..) ?_;refine ai h1 (b7 (aL (aL aZ))) rfl ?_
  by_cases ho : t.x.op = 1
  ·refine aa (sR ho) ?_
   refine gs ?_;rw [Bool.not_false];refine gs ?_;exact bad 1 (by omega) (by rw [mD ho, if_pos hf])
  ·refine aa (JC ho) ?_
   refine gs ?_;rw [Bool.not_false];refine gs ?_;exact bad 5 (by omega) (by rw [CX ho, if_pos hf])
 have k17t : ¬ qM t.x → wp (gU (vp x) (vi now) (vb false) (vp P) (vi t.s) (vi 0) (vb true) H1) fun v' H' => ∃ y : Unit, v' = vb (ax σ t now).2.2 ∧ ae (yU x P (ax σ t now) * aI P (ax σ t now).1 * R) H' := by
  intro hf;refine ah (kZ ..) ?_;refine ai h1 (b7 (aL (aL aZ))) rfl ?_
  by_cases ho : t.x.op = 1
  ·refine aa (sR ho) ?_
   refine gs ?_;rw [Bool.not_true];refine gs ?_;refine ai h1 (b7 (aL (aL aZ))) rfl ?_;refine aa (ba ho) ?_;refine gs ?_;refine ai h1 (b7 (aL (aL aZ))) rfl ?_;refine gs ?_
   by_cases ha1 : t.x.a < 1
   ·refine aa (cP ha1) ?_
    refine gs ?_;exact bad 4 (by omega) (by rw [mD ho, if_neg hf, if_pos (.inl ha1)])
   refine aa (bW ha1) ?_;refine gs ?_;refine ai h1 (b7 (aL (aL aZ))) rfl ?_;refine gs ?_
   by_cases ha2 : 65536 < t.x.a
   ·refine aa (nZ ha2) ?_
    refine gs ?_;exact bad 4 (by omega) (by rw [mD ho, if_neg hf, if_pos (.inr ha2)])
   refine aa (g6 ha2) ?_;refine gs ?_;refine ai h1 (b7 (aL (aL aZ))) rfl ?_;refine aa (ba ho) ?_;refine gs ?_;refine ai h1 (b7 (aL (aL aZ))) rfl ?_;refine gs ?_
   by_cases hb1 : t.x.b < 1
   ·refine aa (cP hb1) ?_
    refine gs ?_;exact bad 1 (by omega) (by rw [mD ho, if_neg hf, if_neg (by omega), if_pos (.inl hb1)])
   refine aa (bW hb1) ?_;refine gs ?_;refine ai h1 (b7 (aL (aL aZ))) rfl ?_;refine gs ?_
   by_cases hb2 : 8 < t.x.b
   ·refine aa (nZ hb2) ?_
    refine gs ?_;exact bad 1 (by omega) (by rw [mD ho, if_neg hf, if_neg (by omega), if_pos (.inr hb2)])
   refine aa (g6 hb2) ?_;refine gs ?_;exact good (by rw [mD ho, if_neg hf, if_neg (by omega), if_neg (by omega)])
  ·refine aa (JC ho) ?_
   refine gs ?_;rw [Bool.not_true];refine gs ?_;rw [Bool.not_true];refine gs ?_;refine ai h1 (b7 (aL (aL aZ))) rfl ?_;refine aa (aC ho) ?_;refine gs ?_;refine ai h1 (b7 (aL (aL aZ))) rfl ?_;refine aa (aC ho) ?_;refine gs ?_;exact good (by rw [CX ho, if_neg hf])
 refine ai h1 (b7 (aL (aL aZ))) rfl ?_
 by_cases hf : t.x.flow < 0
 ·refine aa (mf (by omega)) ?_
  refine gs ?_;exact k17f (.inl hf)
 refine aa (uY (by omega)) ?_;refine gs ?_;refine ai h1 (b7 (aL (aL aZ))) rfl ?_;refine gs ?_
 by_cases hf2 : 1048576 < t.x.flow
 ·refine aa (Xx (by omega)) ?_
  refine gs ?_;exact k17f (.inr hf2)
 refine aa (Xy (by omega)) ?_;refine gs ?_;exact k17t (fun h => h.elim hf hf2)
theorem Uw (S : SOk σ) (T : lz σ t) : Sp bj [vp x, vi now] (yT x P t * aI P σ) (fun _ : Unit => vb (ax σ t now).2.2) (fun _ => yU x P (ax σ t now) * aI P (ax σ t now).1) := by
 by_cases ho : t.x.op = 1
 ·rcases T.ats with hat | hat | hat | hat | hat
  ·exact ZE x P σ t now S T hat
  ·exact ZF x P σ t now S T hat
  ·exact afU x P σ t now S T ho hat
  ·by_cases h4 : t.at' = 4
   ·exact afV x P σ t now S T ho h4
   by_cases h5 : t.at' = 5
   ·exact afW x P σ t now S T ho h5
   exact afX x P σ t now S T ho (by omega)
  ·exact absurd ho hat.1
 ·rcases T.ats with hat | hat | hat | hat | hat
  ·exact ZE x P σ t now S T hat
  ·exact ZF x P σ t now S T hat
  ·exact afN x P σ t now S T ho hat
  ·by_cases h4 : t.at' = 4
   ·exact afO x P σ t now S T ho h4
   by_cases h5 : t.at' = 5
   ·exact afP x P σ t now S T ho h5
   exact afQ x P σ t now S T ho (by omega)
  ·by_cases h7 : t.at' = 7
   ·exact afR x P σ t now S T ho h7
   by_cases h8 : t.at' = 8
   ·exact afS x P σ t now S T ho h8
   by_cases h9 : t.at' = 9
   ·exact afT x P σ t now S T ho h9
   exact acN x P σ t now S T ho (by omega)
end
abbrev TP := Nat × Pt
def ltT (a b : TP) : Prop := a.2.step < b.2.step ∨ a.2.step = b.2.step ∧ a.1 < b.1
def Srt (L : List TP) : Prop := L.Pairwise ltT
def ZJ (X Y : List TP) : Prop := ∀ x ∈ X, ∀ y ∈ Y, x.1 < y.1
abbrev pl (L : List TP) : List Pt := L.map fun x : TP => x.2
theorem ab2 : Srt [] := List.Pairwise.nil
inductive Chk (bs : Nat) : List TP → Prop
 | last {X : List TP} (h1 : X.length ≤ bs) (h2 : Srt X) : Chk bs X
 | cons {X L : List TP} (h1 : X.length = bs) (h2 : Srt X) (h3 : ZJ X L) (h4 : Chk bs L) : Chk bs (X ++ L)
theorem Chk.nil {bs : Nat} : Chk bs [] := .last (by simp) ab2
theorem Chk.split {bs : Nat} {L : List TP} (h : Chk bs L) (hl : bs ≤ L.length) : ∃ X L2, L = X ++ L2 ∧ X.length = bs ∧ Srt X ∧ ZJ X L2 ∧ Chk bs L2 := by
 cases h with
 | last h1 h2 => exact ⟨L, [], by simp, by omega, h2, (fun x _ y hy => by cases hy), .nil⟩
 | @cons X L' h1 h2 h3 h4 => exact ⟨X, L', rfl, h1, h2, h3, h4⟩
theorem ZJ.left {X X2 Y : List TP} (h : ZJ (X ++ X2) Y) : ZJ X Y := fun x hx y hy => h x (List.mem_append_left _ hx) y hy
theorem ZJ.sub {X X' Y Y' : List TP} (h : ZJ X Y) (hx : ∀ x ∈ X', x ∈ X) (hy : ∀ y ∈ Y', y ∈ Y) : ZJ X' Y' := fun x h1 y h2 => h x (hx x h1) y (hy y h2)
theorem Zm {x : OV} {Q Q' : Value → AH → Prop} (f : ∀ v H, Q v H → Q' v H) (k : wp x Q) : wp x Q' := let ⟨v, H, e, q⟩ := k; ⟨v, H, e, f _ _ q⟩
theorem Cc : Sp fP [.slice none 0 0, .slice none 0 0] emp (fun _ : Unit => vb true) (fun _ => emp) := by
 have same : ∀ f : Value, Sp qA [.slice none 0 0, .slice none 0 0, f] emp (fun _ : Unit => vb true) (fun _ => emp) := by
  intro f;refine bn (G5 _ _ _) fun R H h => ?_;refine QF ?_;refine QF ?_;refine aa (sR rfl) ?_;refine gs ?_;refine ah (zc _ _ _ _ H) ?_;refine ah (ze _ _ _ _ _ H) ?_;refine ah (zf _ _ _ _ _ H) ?_;refine QF ?_;refine aa (bW (by omega)) ?_;refine gs ?_;refine ah (uZ _ H) ?_;refine ah (zd _ H) ?_;exact ap ⟨(), rfl, h⟩
 refine bn (n0 _ _) fun R H h => ?_;refine af h (same _) fun _ H1 h1 => ?_;exact ap ⟨(), rfl, h1.to⟩
theorem Xp (e : Int) : Sp tw [.agg (gW e).toArray, .agg (gW e).toArray] emp (fun _ : Unit => vb true) (fun _ => emp) := by
 refine bn (Jq _ _) fun R H h => ?_;refine be h fun b1 H1 h1 => ?_;refine be h1 fun b2 H2 h2 => ?_;refine ai h2 aD rfl ?_;refine ai h2 aD rfl ?_;refine aa (ba rfl) ?_;refine gs ?_;refine ai h2 aD rfl ?_;refine gs ?_;refine ai h2 aD rfl ?_;refine gs ?_;refine aa (ba rfl) ?_;refine gs ?_;refine ai h2 aD rfl ?_;refine gs ?_;refine ai h2 aD rfl ?_;refine gs ?_;refine aa (ba rfl) ?_;refine gs ?_;refine ai h2 aD rfl ?_;refine gs ?_;refine ai h2 aD rfl ?_;refine gs ?_;refine af h2 Cc fun _ H3 h3 => ?_;refine gs ?_;exact ap ⟨(), rfl, h3.to⟩
section
variable {α : Type}
theorem ad5 (A B : List α) (x : α) : (A ++ x :: B)[A.length]? = some x := by simp
theorem ZS {A B : List α} {x : α} {i : Nat} (h : i = A.length) : (A ++ x :: B)[i]? = some x := by subst h; exact ad5 A B x
theorem at2 {A B C : List α} {x y : α} {j : Nat} (hj : j = A.length + 1 + B.length) : (A ++ x :: (B ++ y :: C))[j]? = some y := by
 have e : A ++ x :: (B ++ y :: C) = (A ++ x :: B) ++ y :: C := by simp
 rw [e];exact ZS (by simp; omega)
end
section
variable {P R : SP} {H : AH} {s : Value} {l : List Pt} {Q : Value → AH → Prop}
end

section
variable (A B : List Pt) (s : Value) (X Y : List TP)
end
section
variable (A B : List Pt) (s : Value) (X Y : List TP) (hX : Srt X) (hY : Srt Y) (hB : ZJ X Y) (hb : A.length + X.length + Y.length < 1000000)
include hX hY hB hb
end


theorem FO (s : Value) (l : List Ev) (hl : l.length ≤ 1000000) : Sp XQ [s] (ts 5 Ev.cells s l) (fun v : Value => v) (fun v => ts 5 Ev.cells v l * ts 5 Ev.cells s l) := by
 refine bn (ae7 _) fun R H h => ?_
 rcases o9 h (enc := Ev.cells) (s := s) with ⟨rfl, rfl, h1⟩ | ⟨b, rfl, h1⟩
 ·refine aa (v := vb true) rfl ?_
  refine gs ?_;exact ap ⟨_, rfl, by have := ee 5 Ev.cells (ee 5 Ev.cells h1); exact this.to⟩
 ·refine aa (v := vb false) rfl ?_
  refine gs ?_;refine QG (cs := []) h rfl fun b2 H2 h2 => ?_;have h3 := AO (e := 5) (enc := Ev.cells) (l := []) h2;refine Ij (s := vs b2 0 5) (l := ([] : List Ev)) (m := l) h3 ?_ (by omega) fun v H4 h4 => ?_
  ·unfold dc; simp; omega
  rw [List.nil_append] at h4;exact ap ⟨v, rfl, h4.to⟩
theorem Mi (m : Nat) (μ : Mu) (hE : μ.E.length ≤ 1000000) : Sp gM [vp m] (bD m μ) (fun v : Value => v) (fun v => ts 5 Ev.cells v μ.E * bD m μ) := by
 refine aJ fun R H h => ?_;obtain ⟨⟨c, l, al, es, ck⟩, h1⟩ := ae.ex.1 h;rw [aj, ae.pu] at h1;obtain ⟨hp, h1⟩ := h1;dsimp only at h1;have h2 : ae (blk m (.cells false [.map (some c), l]) * (blk c (.map es ck) * ts 5 Ev.cells l μ.E) * R) H := h1;refine bm (fun r => vr _ H) ?_;refine ai h2 ac rfl ?_;refine af h2 (FO l μ.E hE) fun v H3 h3 => ?_;refine ap ⟨v, rfl, ?_⟩
 have h4 : ae (bD m μ * (ts 5 Ev.cells v μ.E * R)) H3 := by
  refine ae.ex.2 ⟨(c, l, al, es, ck), ?_⟩;rw [aj, ae.pu];refine ⟨hp, ?_⟩;have h5 : ae (blk m (.cells false [.map (some c), l]) * (blk c (.map es ck) * ts 5 Ev.cells l μ.E) * (ts 5 Ev.cells v μ.E * R)) H3 := h3.to;exact h5
 exact h4.to
theorem UC {p : Nat} {g : PIds} {σ : aY} (hE : σ.μ.E.length ≤ 1000000) : Sp gM [vp g.m] (az p g σ) (fun v : Value => v) (fun v => ts 5 Ev.cells v σ.μ.E * az p g σ) := by
 intro R H h;unfold az at h;obtain ⟨x, H', h1, h2⟩ := Mi g.m σ.μ hE _ H (ae.fr (A := bD g.m σ.μ) h);refine ⟨x, H', h1, ?_⟩;unfold az;exact h2.to
theorem Ti {x : Nat} {g : XIds} {σ : aY} {R : SP} {H : AH} (h : ae (ar x g σ * R) H) : ∃ (kv vv ev : Value) (Z : SP), ae (blk g.m (.cells false [kv, vv, ev]) * (ts 5 Ev.cells ev σ.μ.E * (blk x (.cells false [vi σ.c.sh, vi σ.c.sl, vi σ.c.wk, vi σ.c.wd, vu σ.c.un, vp g.m, vp g.ib, vp g.tb, vp g.po, vp g.co, g.ov, g.rv, g.wv, g.pv]) * (Z * R)))) H ∧
 ∀ {R' : SP} {H' : AH}, ae (blk g.m (.cells false [kv, vv, ev]) * (ts 5 Ev.cells ev σ.μ.E * (blk x (.cells false [vi σ.c.sh, vi σ.c.sl, vi σ.c.wk, vi σ.c.wd, vu σ.c.un, vp g.m, vp g.ib, vp g.tb, vp g.po, vp g.co, g.ov, g.rv, g.wv, g.pv]) * (Z * R')))) H' → ae (ar x g σ * R') H' := by
 unfold ar at h
 have h1 : ae (bI g.m σ.μ * (blk x (.cells false [vi σ.c.sh, vi σ.c.sl, vi σ.c.wk, vi σ.c.wd, vu σ.c.un, vp g.m, vp g.ib, vp g.tb, vp g.po, vp g.co, g.ov, g.rv, g.wv, g.pv]) * ((gG g.ib g.m σ.c.sh σ.nx σ.μ.N * (tab g.tb g.m σ.c.sh.toNat σ.c.sl.toNat *
  (ts 3 sI g.ov (σ.obs.map fun x => x.1) * (ts 1 mL g.rv g.rp * (jr g.m 0 (g.rp.zip (σ.obs.map fun x => x.2)) * (ts 1 fp g.wv (fF g.ws) * ts 7 Pt.cells g.pv (bU σ.pts))))))) * R))) H := h.to
 obtain ⟨al, h2⟩ := ae.ex.1 h1;rw [aj, ae.pu] at h2;obtain ⟨hp, h2⟩ := h2;obtain ⟨⟨kv, vv, ev⟩, h3⟩ := ae.ex.1 h2;dsimp only at h3
 refine ⟨kv, vv, ev, (ts 3 FW kv al * ts 1 I3 vv al) * (gG g.ib g.m σ.c.sh σ.nx σ.μ.N * (tab g.tb g.m σ.c.sh.toNat σ.c.sl.toNat *
  (ts 3 sI g.ov (σ.obs.map fun x => x.1) * (ts 1 mL g.rv g.rp * (jr g.m 0 (g.rp.zip (σ.obs.map fun x => x.2)) * (ts 1 fp g.wv (fF g.ws) * ts 7 Pt.cells g.pv (bU σ.pts))))))), h3.to, fun {R' H'} h4 => ?_⟩
 unfold ar
 have h5 : ae (bI g.m σ.μ * (blk x (.cells false [vi σ.c.sh, vi σ.c.sl, vi σ.c.wk, vi σ.c.wd, vu σ.c.un, vp g.m, vp g.ib, vp g.tb, vp g.po, vp g.co, g.ov, g.rv, g.wv, g.pv]) * ((gG g.ib g.m σ.c.sh σ.nx σ.μ.N * (tab g.tb g.m σ.c.sh.toNat σ.c.sl.toNat *
  (ts 3 sI g.ov (σ.obs.map fun x => x.1) * (ts 1 mL g.rv g.rp * (jr g.m 0 (g.rp.zip (σ.obs.map fun x => x.2)) * (ts 1 fp g.wv (fF g.ws) * ts 7 Pt.cells g.pv (bU σ.pts))))))) * R'))) H' := by
  refine ae.ex.2 ⟨al, ?_⟩;rw [aj, ae.pu];refine ⟨hp, ae.ex.2 ⟨(kv, vv, ev), ?_⟩⟩;dsimp only;exact h4.to
 exact h5.to
theorem Za {w how n : Nat} (h : aP w how = some n) : n < 18446744073709551616 := by
 have := dS w;unfold aP at h
 split at h
 ·split at h
  ·have := e7 h; omega
  ·cases h
 ·split at h
  ·have := e7 h; omega
  ·cases h
 ·split at h
  ·have := e7 h; omega
  ·cases h
 ·cases h
structure SI (σ : aY) (k : Nat) : Prop where
 c : cJ σ.c = true
 N : σ.μ.N ≤ k
 E : σ.μ.E.length ≤ k
 pts : σ.pts.length ≤ k
 V : ∀ l, σ.μ.V l < 18446744073709551616
 obs : σ.obs.length ≤ k
 cells : ∀ o, o < σ.obs.length → 1 ≤ (aA σ o).length ∧ (aA σ o).length < 1000
 slot : ∀ s i, σ.μ.V (10, s, i) ≠ 0 → σ.μ.V (10, s, i) % 4294967296 < σ.obs.length
 head : ∀ o, σ.μ.V (12, o, 0) ≤ k
theorem SI.ok {σ : aY} {k : Nat} (h : SI σ k) (hk : k < 300000) : SOk σ :=
 ⟨h.c, by have := h.N; omega, by have := h.pts; omega, h.V, by have := h.obs; omega, h.cells, h.slot⟩
theorem SI.mono {σ : aY} {k k' : Nat} (h : SI σ k) (hk : k ≤ k') : SI σ k' :=
 ⟨h.c, d8 h.N hk, d8 h.E hk, d8 h.pts hk, h.V, d8 h.obs (by omega), h.cells, h.slot, fun o => d8 (h.head o) hk⟩
theorem SI.acc {σ : aY} {k : Nat} (h : SI σ k) (who kd : Int) (l : cZ) : SI (σ.mem (σ.μ.acc who kd l)) (k + 2) :=
 ⟨h.c, by have := h.N; show σ.μ.N + 2 ≤ _; omega, by have := h.E; show (σ.μ.E ++ [_]).length ≤ _; simp; omega, d8 h.pts (by omega), h.V, d8 h.obs (by omega), h.cells, h.slot, fun o => d8 (h.head o) (by omega)⟩
theorem SI.put {σ : aY} {k : Nat} (h : SI σ k) (l : cZ) (v : Nat) (hv : v < 18446744073709551616) (h1 : l.1 ≠ 10) (h2 : l.1 ≠ 12 ∨ v ≤ k) : SI (σ.mem (σ.μ.put l v)) k := by
 refine ⟨h.c, h.N, h.E, h.pts, fun x => ?_, h.obs, h.cells, fun s i => ?_, fun o => ?_⟩
 ·show (if x = l then v else σ.μ.V x) < _
  split
  ·exact hv
  ·exact h.V x
 ·show (if (10, s, i) = l then v else σ.μ.V (10, s, i)) ≠ 0 → (if (10, s, i) = l then v else σ.μ.V (10, s, i)) % _ < _
  rw [if_neg (fun e => h1 (by rw [← e]))];exact h.slot s i
 ·show (if (12, o, 0) = l then v else σ.μ.V (12, o, 0)) ≤ _
  split
  ·rename_i e
   rcases h2 with h2 | h2
   ·exact absurd (by rw [← e]) h2
   ·exact h2
  ·exact h.head o
theorem SI.swp {σ : aY} {k : Nat} (h : SI σ k) (who : Int) (l : cZ) (was now : Nat) (hv : now < 18446744073709551616) (h1 : l.1 ≠ 10) (h2 : l.1 ≠ 12) : SI (σ.mem (σ.μ.swp who l was now)) (k + 2) := by
 have e : σ.μ.swp who l was now = (if σ.μ.V l = was then (σ.μ.acc who 3 l).put l now else σ.μ.acc who 4 l) := by
  show (⟨_, _, _⟩ : Mu) = _;unfold Mu.swap
  split <;> rfl
 rw [e]
 split
 ·exact (h.acc who 3 l).put l now hv h1 (.inl h2)
 ·exact h.acc who 4 l
theorem SI.turn {σ : aY} {k : Nat} (h : SI σ k) (who : Int) (o w how : Nat) : SI (σ.mem (σ.μ.turn who o w (aP w how))) (k + 2) := by
 cases e : aP w how with
 | none => exact h.mono (by omega)
 | some n => exact h.swp who (11, (o : Int), 0) w n (Za e) (by simp) (by simp)
theorem SI.cnt {σ : aY} {k : Nat} (h : SI σ k) (who : Int) (l : cZ) (n : Nat) (h1 : l.1 ≠ 10) (h2 : l.1 ≠ 12) : SI (σ.mem (σ.μ.cnt who l n)) (k + 2) :=
 (h.acc who 3 l).put l _ (Nat.mod_lt _ (by omega)) h1 (.inl h2)
theorem SI.note {σ : aY} {k : Nat} (h : SI σ k) (step who e : Int) : SI (σ.note step who e) (k + 1) :=
 ⟨h.c, d8 h.N (by omega), d8 h.E (by omega), by have := h.pts; show (σ.pts ++ [_]).length ≤ _; simp; omega, h.V, d8 h.obs (by omega), h.cells, h.slot, fun o => d8 (h.head o) (by omega)⟩
theorem SI.link {σ : aY} {k : Nat} (h : SI σ k) (who : Int) (l : cZ) (nx : Int → Option Nat) : SI { σ with μ := σ.μ.acc who 6 l, nx := nx } (k + 2) := by
 have := h.acc who 6 l;exact ⟨this.c, this.N, this.E, this.pts, this.V, this.obs, this.cells, this.slot, this.head⟩
theorem SI.begin {σ : aY} {k : Nat} (h : SI σ k) (who place : Int) : SI (σ.begin who place) (k + 1) :=
 ⟨h.c, by have := h.N; show σ.μ.N + 1 ≤ _; omega, d8 h.E (by omega), d8 h.pts (by omega), h.V, d8 h.obs (by omega), h.cells, h.slot, fun o => d8 (h.head o) (by omega)⟩
theorem SI.lay {σ : aY} {k : Nat} (h : SI σ k) (t : Tk) : SI (tr σ t) (k + 2) := by
 have ha := h.acc t.who 6 (16, (t.obj : Int), ((bk t.w % (aA σ t.obj).length : Nat) : Int));rw [Az]
 have hl : (σ.obs.modify t.obj fun q => (q.1, (aA σ t.obj).set (bk t.w % (aA σ t.obj).length) (⟨t.x.flow, t.x.a, t.x.b⟩ : Pk))).length = σ.obs.length := by simp
 refine ⟨ha.c, ha.N, ha.E, ha.pts, ha.V, by rw [hl]; exact d8 h.obs (by omega), fun o ho => ?_, fun s i hs => by show _ < List.length _; rw [hl]; exact h.slot s i hs, ha.head⟩
 have ho' : o < σ.obs.length := by
  have : o < (σ.obs.modify t.obj fun q => (q.1, (aA σ t.obj).set (bk t.w % (aA σ t.obj).length) (⟨t.x.flow, t.x.a, t.x.b⟩ : Pk))).length := ho
  rwa [hl] at this
 have hc := h.cells o ho';rw [uv ho'] at hc
 have hx : ∀ z : Ob × List Pk, z.2.length = (σ.obs[o]).2.length → 1 ≤ z.2.length ∧ z.2.length < 1000 := fun z hz => by rw [hz]; exact hc
 unfold aA;rw [List.getElem?_modify, cA ho'];refine hx (if t.obj = o then ((σ.obs[o]).1, (aA σ t.obj).set (bk t.w % (aA σ t.obj).length) ⟨t.x.flow, t.x.a, t.x.b⟩) else σ.obs[o]) ?_
 split
 ·rename_i e
  subst e;rw [uv ho', Mb]
 ·rfl
theorem gX.mono {σ σ' : aY} {t : Tk} (T : gX σ t) (hc : σ'.c = σ.c) (ho : σ'.obs.length = σ.obs.length) : gX σ' t :=
 ⟨fun h => by rw [ho]; exact T.obj h, by rw [hc]; exact T.s, by rw [hc]; exact T.i, T.w, T.c5, T.c0, T.ats⟩
abbrev Tk.new (c : iX) (who : Int) (x : Cl) : Tk := ⟨who, x, (x.flow.tmod c.sh + c.sh).tmod c.sh, 0, 0, 0, false, 0, 0, 0, 0, 0⟩
theorem gX.new {σ : aY} (hc : cJ σ.c = true) (who : Int) (x : Cl) : gX σ (Tk.new σ.c who x) := by
 have := bF.1 hc;exact ⟨fun h => by simp at h, rfl, fun _ _ => by simp; omega, by simp, fun h => by simp at h, fun h => by simp at h, .inl rfl⟩
theorem PM (σ : aY) (t : Tk) : ((tr σ t).obs.map fun q => q.1) = σ.obs.map fun q => q.1 := by
 unfold tr;apply List.ext_getElem?;intro j;simp only [xj, List.getElem?_modify]
 cases σ.obs[j]? with
 | none => rfl
 | some q =>
  show some (if t.obj = j then _ else q).1 = some q.1
  split <;> rfl
structure Kept (σ : aY) (t : Tk) (r : aY × Tk × Bool) (k : Nat) : Prop where
 si : SI r.1 (k + 3)
 c : r.1.c = σ.c
 obs : r.1.obs.length = σ.obs.length
 hd : (r.1.obs.map fun q => q.1) = σ.obs.map fun q => q.1
 pts : r.1.pts.length ≤ σ.pts.length + 1
 who : r.2.1.who = t.who
 x : r.2.1.x = t.x
 ok : r.2.2 = false → gX r.1 r.2.1
theorem Fj {σ : aY} {t : Tk} {k : Nat} (h : SI σ k) (T : gX σ t) (hat : t.at' = 0 ∨ t.at' = 2) : Kept σ t (gi σ t) k := by
 refine ⟨(h.acc _ _ _).mono (by omega), rfl, rfl, rfl, Nat.le_succ _, rfl, rfl, fun _ => ?_⟩;have hi := T.i (by omega) (by omega);refine ⟨fun hh => ?_, T.s, fun h1 h2 => ?_, T.w, fun hh => ?_, fun hh => ?_, ?_⟩
 ·show (aO σ t).obj < σ.obs.length
  have hf : (aO σ t).found = true := by
   cases hf : (aO σ t).found with
   | true => rfl
   | false =>
    have hh' : 6 ≤ (if (aO σ t).found = true then 6 else if cr σ (aO σ t) = true then 3 else 2 : Nat) ∨ (if (aO σ t).found = true then 6 else if cr σ (aO σ t) = true then 3 else 2 : Nat) = 5 ∧ _ := hh;rw [hf, if_neg (by simp)] at hh'
    rcases hh' with q | q
    ·split at q <;> omega
    ·have q := q.1
     split at q <;> omega
  have hf' : qp (σ.μ.V (10, t.s, (t.i : Int))) t.x.flow = true := hf;have e : (aO σ t).obj = σ.μ.V (10, t.s, (t.i : Int)) % 4294967296 := if_pos hf';rw [e];have hv := (of_decide_eq_true hf').1;exact h.slot _ _ hv
 ·have h1 : (if (aO σ t).found = true then 6 else if cr σ (aO σ t) = true then 3 else 2 : Nat) < 5 := h1
  have h2 : (if (aO σ t).found = true then 6 else if cr σ (aO σ t) = true then 3 else 2 : Nat) ≠ 3 := h2
  have hl : ¬ cr σ (aO σ t) = true := by
   intro hl;rw [if_pos hl] at h1 h2
   split at h1
   ·omega
   ·rename_i hn
    rw [if_neg hn] at h2;exact h2 rfl
  have : ¬ (σ.c.sl ≤ ((t.i + 1 : Nat) : Int)) := fun q => hl (fj q);show ((t.i + 1 : Nat) : Int) < σ.c.sl;omega
 ·have hh : (if (aO σ t).found = true then 6 else if cr σ (aO σ t) = true then 3 else 2 : Nat) = 5 := hh
  split at hh
  ·omega
  ·split at hh <;> omega
 ·have hh : (if (aO σ t).found = true then 6 else if cr σ (aO σ t) = true then 3 else 2 : Nat) = 10 ∨ (if (aO σ t).found = true then 6 else if cr σ (aO σ t) = true then 3 else 2 : Nat) = 11 ∨ (if (aO σ t).found = true then 6 else if cr σ (aO σ t) = true then 3 else 2 : Nat) = 14 ∨ 21 ≤ (if (aO σ t).found = true then 6 else if cr σ (aO σ t) = true then 3 else 2 : Nat) := hh
  split at hh
  ·omega
  ·split at hh <;> omega
 ·show (if (aO σ t).found = true then 6 else if cr σ (aO σ t) = true then 3 else 2 : Nat) = 0 ∨ _
  simp only [gi]
  split
  ·simp
  ·split <;> simp
theorem T4 {σ : aY} {t : Tk} {k : Nat} (now : Int) (hk : k < 300000) (h : SI σ k) (T : gX σ t) : Kept σ t (am σ t now) k := by
 rcases T.ats with hat | hat | hat | hat | hat | hat | hat | hat | hat | hat | hat | hat | hat | hat | hat | hat | hat | hat | hat | hat | hat | hat | hat | hat
 ·-- 0
  cases hx : fg t.x with
  | some e =>
   have hs : am σ t now = (σ.note now t.who e, { t with code := e }, true) := by simp only [am, hat, hx]
   rw [hs];exact ⟨(h.note _ _ _).mono (by omega), rfl, rfl, rfl, (by simp [aY.note]), rfl, rfl, fun h => by simp at h⟩
  | none =>
   have hs : am σ t now = gi σ t := by simp only [am, hat, hx, gi]
   rw [hs];exact Fj h T (.inl hat)
 ·-- 2
  have hs : am σ t now = gi σ t := by simp only [am, hat, gi]
  rw [hs];exact Fj h T (.inr hat)
 ·-- 3
  by_cases hw : σ.μ.V (8, t.s, 0) = 0
  ·have hs : am σ t now = (σ.mem (σ.μ.swp t.who (8, t.s, 0) 0 1), { t with at' := 4, i := 0 }, false) := by simp only [am, hat]; rw [if_pos hw]
   rw [hs];exact ⟨(h.swp _ _ _ _ (by omega) (by simp) (by simp)).mono (by omega), rfl, rfl, rfl, Nat.le_succ _, rfl, rfl, fun _ => ⟨fun _ => (by rename_i hh; simp at hh), T.s, (fun _ _ => by have := bF.1 h.c; show ((0 : Nat) : Int) < σ.c.sl; omega), T.w, (fun h => by simp at h), (fun h => by simp at h), (by simp)⟩⟩
  ·have hs : am σ t now = (σ.mem (σ.μ.swp t.who (8, t.s, 0) 0 1), t, false) := by simp only [am, hat]; rw [if_neg hw]
   rw [hs];exact ⟨(h.swp _ _ _ _ (by omega) (by simp) (by simp)).mono (by omega), rfl, rfl, rfl, Nat.le_succ _, rfl, rfl, fun _ => T.mono rfl rfl⟩
 ·-- 4
  have hi := T.i (by omega) (by omega)
  cases hf : (aO σ t).found with
  | true =>
   have hs : am σ t now = (aV σ t, { aO σ t with at' := 5 }, false) := by simp only [am, hat, hf]; rfl
   rw [hs];have hf' : qp (σ.μ.V (10, t.s, (t.i : Int))) t.x.flow = true := hf;have e : (aO σ t).obj = σ.μ.V (10, t.s, (t.i : Int)) % 4294967296 := if_pos hf'
   have ho : (aO σ t).obj < σ.obs.length := by rw [e]; exact h.slot _ _ (of_decide_eq_true hf').1
   exact ⟨(h.acc _ _ _).mono (by omega), rfl, rfl, rfl, Nat.le_succ _, rfl, rfl, fun _ => ⟨fun _ => ho, T.s, (fun h1 h2 => by simp at h1), T.w, (fun _ h2 => by rw [show (aO σ t).found = false from h2] at hf; cases hf), (fun h => by simp at h), (by simp)⟩⟩
  | false =>
   cases hla : cr σ (aO σ t) with
   | true =>
    have hs : am σ t now = ((aV σ t).note now t.who 5, { aO σ t with at' := 5, code := 5 }, false) := by simp only [am, hat, hf, hla]; rfl
    rw [hs];exact ⟨((h.acc _ _ _).note _ _ _).mono (by omega), rfl, rfl, rfl, (by simp [aY.note]), rfl, rfl, fun _ => ⟨fun _ => (by rename_i hh; rw [show (aO σ t).found = false from hf] at hh; simp at hh), T.s, (fun h1 h2 => by simp at h1), T.w, (fun _ _ => rfl), (fun h => by simp at h), (by simp)⟩⟩
   | false =>
    have hs : am σ t now = (aV σ t, aO σ t, false) := by simp only [am, hat, hf, hla]; rfl
    rw [hs]
    have hl : ¬ (σ.c.sl ≤ ((t.i + 1 : Nat) : Int)) := fun q => by rw [show cr σ (aO σ t) = true from fj q] at hla; cases hla
    have ea : (aO σ t).at' = 4 := hat;exact ⟨(h.acc _ _ _).mono (by omega), rfl, rfl, rfl, Nat.le_succ _, rfl, rfl, fun _ => ⟨fun _ => (by rename_i hh; rw [ea] at hh; simp at hh), T.s, (fun _ _ => by show ((t.i + 1 : Nat) : Int) < σ.c.sl; omega), T.w, (fun h => by rw [ea] at h; simp at h), (fun h => by rw [ea] at h; simp at h), (by rw [ea]; simp)⟩⟩
 ·-- 5
  cases hf : t.found with
  | false =>
   have hs : am σ t now = (σ.mem ((σ.μ.acc t.who 2 (8, t.s, 0)).put (8, t.s, 0) 0), { t with at' := 6 }, true) := by simp only [am, hat, hf]; rfl
   rw [hs];exact ⟨((h.acc _ _ _).put _ _ (by omega) (by simp) (.inl (by simp))).mono (by omega), rfl, rfl, rfl, Nat.le_succ _, rfl, rfl, fun h => by simp at h⟩
  | true =>
   have hs : am σ t now = (σ.mem ((σ.μ.acc t.who 2 (8, t.s, 0)).put (8, t.s, 0) 0), { t with at' := 6 }, false) := by simp only [am, hat, hf]; rfl
   rw [hs];exact ⟨((h.acc _ _ _).put _ _ (by omega) (by simp) (.inl (by simp))).mono (by omega), rfl, rfl, rfl, Nat.le_succ _, rfl, rfl, fun _ => ⟨fun _ => T.obj (.inr ⟨hat, hf⟩), T.s, (fun h1 h2 => by simp at h1), T.w, (fun h => by simp at h), (fun h => by simp at h), (by simp)⟩⟩
 ·-- 6
  have hs : am σ t now = (σ.mem (σ.μ.acc t.who 5 (13, (t.obj : Int), 0)), { t with at' := 7 }, false) := by simp only [am, hat]
  rw [hs];exact ⟨(h.acc _ _ _).mono (by omega), rfl, rfl, rfl, Nat.le_succ _, rfl, rfl, fun _ => ⟨fun _ => T.obj (.inl (by omega)), T.s, (fun h1 h2 => by simp at h1), T.w, (fun h => by simp at h), (fun h => by simp at h), (by simp)⟩⟩
 ·-- 7
  by_cases hw : bv (σ.μ.V (11, (t.obj : Int), 0)) = 2
  ·have hs : am σ t now = (cY σ t, { t with w := σ.μ.V (11, (t.obj : Int), 0), at' := 3 }, false) := by simp only [am, hat]; rw [if_pos hw]
   rw [hs];exact ⟨(h.acc _ _ _).mono (by omega), rfl, rfl, rfl, Nat.le_succ _, rfl, rfl, fun _ => ⟨fun _ => (by rename_i hh; simp at hh), T.s, (fun _ h2 => by simp at h2), h.V _, (fun h => by simp at h), (fun h => by simp at h), (by simp)⟩⟩
  ·have hs : am σ t now = (cY σ t, { t with w := σ.μ.V (11, (t.obj : Int), 0), at' := 8 }, false) := by simp only [am, hat]; rw [if_neg hw]
   rw [hs];exact ⟨(h.acc _ _ _).mono (by omega), rfl, rfl, rfl, Nat.le_succ _, rfl, rfl, fun _ => ⟨fun _ => T.obj (.inl (by omega)), T.s, (fun h1 h2 => by simp at h1), h.V _, (fun h => by simp at h), (fun h => by simp at h), (by simp)⟩⟩
 ·-- 8
  cases hf : mQ σ t with
  | true =>
   have hs : am σ t now = (i8 σ t, { t with at' := 15 }, false) := by simp only [am, hat, hf]; rfl
   rw [hs];exact ⟨(h.acc _ _ _).mono (by omega), rfl, rfl, rfl, Nat.le_succ _, rfl, rfl, fun _ => ⟨fun _ => T.obj (.inl (by omega)), T.s, (fun h1 h2 => by simp at h1), T.w, (fun h => by simp at h), (fun h => by simp at h), (by simp)⟩⟩
  | false =>
   by_cases hw : bv t.w = 1
   ·have hs : am σ t now = (i8 σ t, { t with at' := 9 }, false) := by simp only [am, hat, hf]; rw [if_pos hw]; rfl
    rw [hs];exact ⟨(h.acc _ _ _).mono (by omega), rfl, rfl, rfl, Nat.le_succ _, rfl, rfl, fun _ => ⟨fun _ => T.obj (.inl (by omega)), T.s, (fun h1 h2 => by simp at h1), T.w, (fun h => by simp at h), (fun h => by simp at h), (by simp)⟩⟩
   ·have hs : am σ t now = (i8 σ t, { t with at' := 12 }, false) := by simp only [am, hat, hf]; rw [if_neg hw]; rfl
    rw [hs];exact ⟨(h.acc _ _ _).mono (by omega), rfl, rfl, rfl, Nat.le_succ _, rfl, rfl, fun _ => ⟨fun _ => T.obj (.inl (by omega)), T.s, (fun h1 h2 => by simp at h1), T.w, (fun h => by simp at h), (fun h => by simp at h), (by simp)⟩⟩
 ·-- 9
  cases hw : turned σ.μ t.obj t.w (aP t.w 0) with
  | true =>
   have hs : am σ t now = ((σ.mem (σ.μ.turn t.who t.obj t.w (aP t.w 0))).note now t.who 0, { t with at' := 10, code := 0 }, false) := by simp only [am, hat, hw]; rfl
   rw [hs];exact ⟨((h.turn _ _ _ _).note _ _ _).mono (by omega), rfl, rfl, rfl, (by simp [aY.note]), rfl, rfl, fun _ => ⟨fun _ => T.obj (.inl (by omega)), T.s, (fun h1 h2 => by simp at h1), T.w, (fun h => by simp at h), (fun _ => rfl), (by simp)⟩⟩
  | false =>
   have hs : am σ t now = (σ.mem (σ.μ.turn t.who t.obj t.w (aP t.w 0)), { t with at' := 7 }, false) := by simp only [am, hat, hw]; rfl
   rw [hs];exact ⟨(h.turn _ _ _ _).mono (by omega), rfl, rfl, rfl, Nat.le_succ _, rfl, rfl, fun _ => ⟨fun _ => T.obj (.inl (by omega)), T.s, (fun h1 h2 => by simp at h1), T.w, (fun h => by simp at h), (fun h => by simp at h), (by simp)⟩⟩
 ·-- 10
  have hs : am σ t now = (tr σ t, { t with at' := 11 }, false) := by simp only [am, hat]
  rw [hs];exact ⟨(h.lay t).mono (by omega), rfl, ja σ t, PM σ t, Nat.le_succ _, rfl, rfl, fun _ => (by have := ja σ t; exact ⟨fun _ => (by rw [this]; exact T.obj (.inl (by omega))), T.s, (fun h1 h2 => by simp at h1), T.w, (fun h => by simp at h), (fun _ => T.c0 (by omega)), (by simp)⟩)⟩
 ·-- 11
  have hs : am σ t now = (yO σ t, t, true) := by simp only [am, hat]
  rw [hs];exact ⟨((h.acc _ _ _).put _ _ (by have := dS t.w; omega) (by simp) (.inl (by simp))).mono (by omega), rfl, rfl, rfl, Nat.le_succ _, rfl, rfl, fun h => by simp at h⟩
 ·-- 12
  have hs : am σ t now = (σ.mem (σ.μ.cnt t.who (3, 0, 0) 4294967296), { t with at' := 13 }, false) := by simp only [am, hat]
  rw [hs];exact ⟨(h.cnt _ _ _ (by simp) (by simp)).mono (by omega), rfl, rfl, rfl, Nat.le_succ _, rfl, rfl, fun _ => ⟨fun _ => T.obj (.inl (by omega)), T.s, (fun h1 h2 => by simp at h1), T.w, (fun h => by simp at h), (fun h => by simp at h), (by simp)⟩⟩
 ·-- 13
  cases hw : turned σ.μ t.obj t.w (aP t.w 0) with
  | true =>
   have hs : am σ t now = ((σ.mem (σ.μ.turn t.who t.obj t.w (aP t.w 0))).note now t.who 0, { t with at' := 14, code := 0 }, false) := by simp only [am, hat, hw]; rfl
   rw [hs];exact ⟨((h.turn _ _ _ _).note _ _ _).mono (by omega), rfl, rfl, rfl, (by simp [aY.note]), rfl, rfl, fun _ => ⟨fun _ => T.obj (.inl (by omega)), T.s, (fun h1 h2 => by simp at h1), T.w, (fun h => by simp at h), (fun _ => rfl), (by simp)⟩⟩
  | false =>
   have hs : am σ t now = (σ.mem (σ.μ.turn t.who t.obj t.w (aP t.w 0)), { t with at' := 20 }, false) := by simp only [am, hat, hw]; rfl
   rw [hs];exact ⟨(h.turn _ _ _ _).mono (by omega), rfl, rfl, rfl, Nat.le_succ _, rfl, rfl, fun _ => ⟨fun _ => T.obj (.inl (by omega)), T.s, (fun h1 h2 => by simp at h1), T.w, (fun h => by simp at h), (fun h => by simp at h), (by simp)⟩⟩
 ·-- 14
  have hs : am σ t now = (tr σ t, { t with at' := 21 }, false) := by simp only [am, hat]
  rw [hs];exact ⟨(h.lay t).mono (by omega), rfl, ja σ t, PM σ t, Nat.le_succ _, rfl, rfl, fun _ => (by have := ja σ t; exact ⟨fun _ => (by rw [this]; exact T.obj (.inl (by omega))), T.s, (fun h1 h2 => by simp at h1), T.w, (fun h => by simp at h), (fun _ => T.c0 (by omega)), (by simp)⟩)⟩
 ·-- 15
  by_cases hw : σ.μ.V (2, 0, 0) % 2 = 1
  ·have hs : am σ t now = (ed σ t, { t with q := σ.μ.V (2, 0, 0), at' := 7 }, false) := by simp only [am, hat]; rw [if_pos hw]
   rw [hs];exact ⟨(h.acc _ _ _).mono (by omega), rfl, rfl, rfl, Nat.le_succ _, rfl, rfl, fun _ => ⟨fun _ => T.obj (.inl (by omega)), T.s, (fun h1 h2 => by simp at h1), T.w, (fun h => by simp at h), (fun h => by simp at h), (by simp)⟩⟩
  ·have hs : am σ t now = (ed σ t, { t with q := σ.μ.V (2, 0, 0), at' := 16 }, false) := by simp only [am, hat]; rw [if_neg hw]
   rw [hs];exact ⟨(h.acc _ _ _).mono (by omega), rfl, rfl, rfl, Nat.le_succ _, rfl, rfl, fun _ => ⟨fun _ => T.obj (.inl (by omega)), T.s, (fun h1 h2 => by simp at h1), T.w, (fun h => by simp at h), (fun h => by simp at h), (by simp)⟩⟩
 ·-- 16
  by_cases hw : bv (σ.μ.V (11, (t.obj : Int), 0)) = 2
  ·have hs : am σ t now = (cY σ t, { t with w := σ.μ.V (11, (t.obj : Int), 0), at' := 3 }, false) := by simp only [am, hat]; rw [if_pos hw]
   rw [hs];exact ⟨(h.acc _ _ _).mono (by omega), rfl, rfl, rfl, Nat.le_succ _, rfl, rfl, fun _ => ⟨fun _ => (by rename_i hh; simp at hh), T.s, (fun _ h2 => by simp at h2), h.V _, (fun h => by simp at h), (fun h => by simp at h), (by simp)⟩⟩
  ·have hs : am σ t now = (cY σ t, { t with w := σ.μ.V (11, (t.obj : Int), 0), at' := 17 }, false) := by simp only [am, hat]; rw [if_neg hw]
   rw [hs];exact ⟨(h.acc _ _ _).mono (by omega), rfl, rfl, rfl, Nat.le_succ _, rfl, rfl, fun _ => ⟨fun _ => T.obj (.inl (by omega)), T.s, (fun h1 h2 => by simp at h1), h.V _, (fun h => by simp at h), (fun h => by simp at h), (by simp)⟩⟩
 ·-- 17
  cases hf : mQ σ t with
  | true =>
   have hs : am σ t now = (i8 σ t, { t with at' := 18, mark := now }, false) := by simp only [am, hat, hf]; rfl
   rw [hs];exact ⟨(h.acc _ _ _).mono (by omega), rfl, rfl, rfl, Nat.le_succ _, rfl, rfl, fun _ => ⟨fun _ => T.obj (.inl (by omega)), T.s, (fun h1 h2 => by simp at h1), T.w, (fun h => by simp at h), (fun h => by simp at h), (by simp)⟩⟩
  | false =>
   have hs : am σ t now = (i8 σ t, { t with at' := 7 }, false) := by simp only [am, hat, hf]; rfl
   rw [hs];exact ⟨(h.acc _ _ _).mono (by omega), rfl, rfl, rfl, Nat.le_succ _, rfl, rfl, fun _ => ⟨fun _ => T.obj (.inl (by omega)), T.s, (fun h1 h2 => by simp at h1), T.w, (fun h => by simp at h), (fun h => by simp at h), (by simp)⟩⟩
 ·-- 18
  by_cases hw : σ.μ.V (2, 0, 0) = t.q
  ·have hs : am σ t now = ((ed σ t).note t.mark t.who 9, { t with code := 9 }, true) := by simp only [am, hat]; rw [if_pos hw]
   rw [hs];exact ⟨((h.acc _ _ _).note _ _ _).mono (by omega), rfl, rfl, rfl, (by simp [aY.note]), rfl, rfl, fun h => by simp at h⟩
  ·have hs : am σ t now = (ed σ t, { t with at' := 7 }, false) := by simp only [am, hat]; rw [if_neg hw]
   rw [hs];exact ⟨(h.acc _ _ _).mono (by omega), rfl, rfl, rfl, Nat.le_succ _, rfl, rfl, fun _ => ⟨fun _ => T.obj (.inl (by omega)), T.s, (fun h1 h2 => by simp at h1), T.w, (fun h => by simp at h), (fun h => by simp at h), (by simp)⟩⟩
 ·-- 20
  have hs : am σ t now = (σ.mem (σ.μ.cnt t.who (3, 0, 0) 1), { t with at' := 7 }, false) := by simp only [am, hat]
  rw [hs];exact ⟨(h.cnt _ _ _ (by simp) (by simp)).mono (by omega), rfl, rfl, rfl, Nat.le_succ _, rfl, rfl, fun _ => ⟨fun _ => T.obj (.inl (by omega)), T.s, (fun h1 h2 => by simp at h1), T.w, (fun h => by simp at h), (fun h => by simp at h), (by simp)⟩⟩
 ·-- 21
  have hs : am σ t now = (yO σ t, { t with at' := 22 }, false) := by simp only [am, hat]
  rw [hs];exact ⟨((h.acc _ _ _).put _ _ (by have := dS t.w; omega) (by simp) (.inl (by simp))).mono (by omega), rfl, rfl, rfl, Nat.le_succ _, rfl, rfl, fun _ => ⟨fun _ => T.obj (.inl (by omega)), T.s, (fun h1 h2 => by simp at h1), T.w, (fun h => by simp at h), (fun _ => T.c0 (by omega)), (by simp)⟩⟩
 ·-- 22
  have hs : am σ t now = (σ.mem (σ.μ.acc t.who 1 (9, t.s, 0)), { t with top := σ.μ.V (9, t.s, 0), at' := 23 }, false) := by simp only [am, hat]
  rw [hs];exact ⟨(h.acc _ _ _).mono (by omega), rfl, rfl, rfl, Nat.le_succ _, rfl, rfl, fun _ => ⟨fun _ => T.obj (.inl (by omega)), T.s, (fun h1 h2 => by simp at h1), T.w, (fun h => by simp at h), (fun _ => T.c0 (by omega)), (by simp)⟩⟩
 ·-- 23
  have hs : am σ t now = ({ σ with μ := σ.μ.acc t.who 6 (14, (t.obj : Int), 0), nx := fun k => if k = (t.obj : Int) then some t.top else σ.nx k }, { t with at' := 24 }, false) := by simp only [am, hat]
  rw [hs];exact ⟨(h.link _ _ _).mono (by omega), rfl, rfl, rfl, Nat.le_succ _, rfl, rfl, fun _ => ⟨fun _ => T.obj (.inl (by omega)), T.s, (fun h1 h2 => by simp at h1), T.w, (fun h => by simp at h), (fun _ => T.c0 (by omega)), (by simp)⟩⟩
 ·-- 24
  by_cases hw : σ.μ.V (9, t.s, 0) = t.top
  ·have hs : am σ t now = (σ.mem (σ.μ.swp t.who (9, t.s, 0) t.top (t.obj + 1)), { t with at' := 25 }, false) := by simp only [am, hat]; rw [if_pos hw]
   rw [hs];exact ⟨(h.swp _ _ _ _ (by have := T.obj (.inl (by omega)); have := h.obs; omega) (by simp) (by simp)).mono (by omega), rfl, rfl, rfl, Nat.le_succ _, rfl, rfl, fun _ => ⟨fun _ => T.obj (.inl (by omega)), T.s, (fun h1 h2 => by simp at h1), T.w, (fun h => by simp at h), (fun _ => T.c0 (by omega)), (by simp)⟩⟩
  ·have hs : am σ t now = (σ.mem (σ.μ.swp t.who (9, t.s, 0) t.top (t.obj + 1)), { t with at' := 22 }, false) := by simp only [am, hat]; rw [if_neg hw]
   rw [hs];exact ⟨(h.swp _ _ _ _ (by have := T.obj (.inl (by omega)); have := h.obs; omega) (by simp) (by simp)).mono (by omega), rfl, rfl, rfl, Nat.le_succ _, rfl, rfl, fun _ => ⟨fun _ => T.obj (.inl (by omega)), T.s, (fun h1 h2 => by simp at h1), T.w, (fun h => by simp at h), (fun _ => T.c0 (by omega)), (by simp)⟩⟩
 ·-- 25
  have hs : am σ t now = (σ.mem (σ.μ.cnt t.who (3, 0, 0) 1), t, true) := by simp only [am, hat]
  rw [hs];exact ⟨(h.cnt _ _ _ (by simp) (by simp)).mono (by omega), rfl, rfl, rfl, Nat.le_succ _, rfl, rfl, fun h => by simp at h⟩
theorem Lt {α : Type} (F : α → SP) (R : SP) : (ex fun x => F x * R) = ex F * R := by
 apply SP.ext;intro h
 constructor
 ·rintro ⟨x, a, b, hd, rfl, ha, hb⟩
  exact ⟨a, b, hd, rfl, ⟨x, ha⟩, hb⟩
 ·rintro ⟨a, b, hd, rfl, ⟨x, ha⟩, hb⟩
  exact ⟨x, a, b, hd, rfl, ha, hb⟩
def eT (e p : Nat) (rp : List Nat) (t : Tk) : SP := ex fun v : Value => pu (Ib rp t v) * eB e p (eY e (zC t.at')) v t
def xT (x P : Nat) (t : Tk) : SP := ex fun k : Xk => pu (ii t k) * xB x P t k
theorem Vj (e p : Nat) (rp : List Nat) (σ : aY) (t : Tk) : eP e p rp σ t = eT e p rp t * aX p rp σ := by
 unfold eP eT;rw [← Lt]
 congr 1
 funext v
 rw [aj]
theorem agX (x P : Nat) (σ : aY) (t : Tk) : xP x P σ t = xT x P t * aI P σ := by
 unfold xP xT;rw [← Lt]
 congr 1
 funext v
 rw [aj]
def xU (x P : Nat) (r : aY × Tk × Bool) : SP := ex fun k : Xk => pu (if r.2.2 = true then k.code = r.2.1.code else ii r.2.1 k) * xB x P r.2.1 k
theorem agY (x P : Nat) (r : aY × Tk × Bool) : xQ x P r = xU x P r * aI P r.1 := by
 unfold xQ xU;rw [← Lt]
 congr 1
 funext v
 rw [aj]
def eU (e p : Nat) (rp : List Nat) (r : aY × Tk × Bool) : SP := if r.2.2 = true then emp else eT e p rp r.2.1
theorem agB (e p : Nat) (rp : List Nat) (r : aY × Tk × Bool) : eQ e p rp r = eU e p rp r * aX p rp r.1 := by
 unfold eQ eU
 split
 ·rw [gF]
 ·rw [Vj]
theorem agZ {x P : Nat} {r : aY × Tk × Bool} (h : r.2.2 = false) : xU x P r = xT x P r.2.1 := by
 unfold xU xT;simp only [h]
 rfl
section
variable (p x : Nat) (rp : List Nat) (σ : aY)
theorem Vk (hc : cJ σ.c = true) (who : Int) (c : Cl) : Sp xp [vp p, vi who, .agg (Cl.cells c).toArray] (aX p rp σ) (fun e : Nat => vp e) (fun e => eT e p rp (Tk.new σ.c who c) * aX p rp σ) := by
 have hr := bF.1 hc;refine bn (Lq _ _ _) fun R H h => ?_;refine be h fun b H1 h1 => ?_;refine aW h1 ?_;obtain ⟨g, hrp, hg, k1⟩ := dt (p := p) (rp := rp) (σ := σ) (R := blk b (.cells false (Cl.cells c)) * R) (H := H1) h1.to;refine ai k1 ac rfl ?_;refine ai k1 aD rfl ?_;refine af k1 (FE (p := p) (g := g) (σ := σ) (yQ g.tb g.m σ.c.sh.toNat σ.c.sl.toNat (by omega) c.flow)) fun _ H2 k2 => ?_;refine dQ k2 k1 rfl ?_
 have es : vi ((c.flow.tmod (σ.c.sh.toNat : Int) + (σ.c.sh.toNat : Int)).tmod (σ.c.sh.toNat : Int)) = vi (Tk.new σ.c who c).s := by rw [show ((σ.c.sh.toNat : Nat) : Int) = σ.c.sh from by omega]
 rw [es];have h2 := bz (p := p) (rp := rp) (σ := σ) (R := blk b (.cells false (Cl.cells c)) * R) (H := H2) g hrp hg k2.to;refine iW ?_;refine be h2 fun e H3 h3 => ?_;refine bg h3 ac rfl rfl fun H4 h4 => ?_;refine ap ⟨e, rfl, ?_⟩;rw [← Vj];exact I0 (v := .pointer none) (n := mi) (iD (by simp)) rfl h4.to
theorem JU (who : Int) (c : Cl) (s : Int) : Sp j5 [vp x, vi who, .agg (Cl.cells c).toArray] emp (fun b : Nat => vp b) (fun b => xT b x (Tk.new σ.c who c)) := by
 refine bn (qS _ _ _) fun R H h => ?_;refine be h fun b H1 h1 => ?_;refine aW h1 ?_;refine iW ?_;refine be h1 fun xb H2 h2 => ?_;refine ap ⟨xb, rfl, ?_⟩;refine ae.ex.2 ⟨⟨0, 0, -1, false, 0, 0, 0, 0, 0, 0, 0⟩, ?_⟩;rw [aj, ae.pu];exact ⟨by simp [ii], h2.to⟩
theorem Mz (who place : Int) (hN : σ.μ.N < 1000000) : Sp jL [.agg [vp p, vp x].toArray, vi who, vi place] (aX p rp σ * aI x σ) (fun _ : Unit => .tuple #[]) (fun _ => aX p rp (σ.begin who place) * aI x (σ.begin who place)) := by
 refine bn (u6 _ _ _) fun R H h => ?_;refine be (l := [vp p, vp x]) h fun b H1 h1 => ?_;refine ai h1 aD rfl ?_;refine af h1 (ad6 p rp σ who place) fun _ H2 h2 => ?_;refine ai h2 aD rfl ?_;refine af h2 (afL x σ who place (by omega)) fun _ H3 h3 => ?_;exact ap ⟨(), rfl, h3.to⟩
end
def DO (f : Value → Value → Bool) : List Value → List Value → Bool
 | [], [] => true
 | x :: xs, y :: ys => f x y && DO f xs ys
 | _, _ => false
def Z3 : Nat → Value → Value → Bool
 | _, .bool a, .bool b => a == b
 | _, .int k a, .int k' b => decide (k = k') && decide (a = b)
 | _, .string a, .string b => decide (a = b)
 | _, .pointer a, .pointer b => decide (a = b)
 | _, .slice a n e, .slice a' n' e' => decide (a = a') && decide (n = n') && decide (e = e')
 | _, .map a, .map b => decide (a = b)
 | _, .nilFunc, .nilFunc => true
 | _, .nilIface, .nilIface => true
 | n + 1, .agg xs, .agg ys => DO (Z3 n) xs.toList ys.toList
 | n + 1, .tuple xs, .tuple ys => DO (Z3 n) xs.toList ys.toList
 | n + 1, .func f xs zs, .func f' ys ws => decide (f = f') && DO (Z3 n) xs.toList ys.toList && DO (Z3 n) zs.toList ws.toList
 | _, _, _ => false
theorem By {f : Value → Value → Bool} (hf : ∀ x y, f x y = true → x = y) : ∀ xs ys, DO f xs ys = true → xs = ys := by
 intro xs
 induction xs with
 | nil => intro ys h; cases ys with | nil => rfl | cons y ys => simp [DO] at h
 | cons x xs ih =>
  intro ys h
  cases ys with
  | nil => simp [DO] at h
  | cons y ys =>
   simp only [DO, Bool.and_eq_true] at h;rw [hf _ _ h.1, ih _ h.2]
theorem Et : ∀ (n : Nat) (x y : Value), Z3 n x y = true → x = y := by
 intro n
 induction n with
 | zero =>
  intro x y h
  cases x <;> cases y <;> simp_all [Z3]
 | succ n ih =>
  have hl := By ih;intro x y h
  cases x <;> cases y <;> simp_all [Z3]
  ·exact ⟨Array.toList_inj.1 (hl _ _ h.1.2), Array.toList_inj.1 (hl _ _ h.2)⟩
  ·exact Array.toList_inj.1 (hl _ _ h)
  ·exact Array.toList_inj.1 (hl _ _ h)
def eqO : Option Value → Option Value → Bool
 | none, none => true
 | some x, some y => Z3 4 x y
 | _, _ => false
theorem Rl {x y : Option Value} (h : eqO x y = true) : x = y := by
 cases x <;> cases y <;> simp_all [eqO]
 exact Et _ _ _ h
section
variable (g d : Nat)
def z8 (b : Nat) : Nat := if b < g then b else b + d
def yN (a : Addr) : Addr := { a with block := z8 g d a.block }
def bO : Value → Value
 | .pointer a => .pointer (a.map (yN g d))
 | .slice a n e => .slice (a.map (yN g d)) n e
 | .map r => .map (r.map (z8 g d))
 | .func fn f c => .func fn (f.map bO) (c.map bO)
 | .iface t v => .iface t (bO v)
 | .agg cs => .agg (cs.map bO)
 | .tuple cs => .tuple (cs.map bO)
 | v => v
end
abbrev g7 (g d : Nat) (l : List Value) : List Value := l.map (bO g d)
section
variable {g d : Nat}
theorem Qr {a b : Nat} (h : z8 g d a = z8 g d b) : a = b := by unfold z8 at h; split at h <;> split at h <;> omega
@[simp] theorem Qs (b : Bool) : (bO g d) (.bool b) = .bool b := by rw [bO] <;> simp
@[simp] theorem yb (k : IntKind) (n : Int) : (bO g d) (.int k n) = .int k n := by rw [bO] <;> simp
@[simp] theorem agR (k : FloatKind) (n : Nat) : (bO g d) (.float k n) = .float k n := by rw [bO] <;> simp
@[simp] theorem ae8 (k : FloatKind) (n m : Nat) : (bO g d) (.complex k n m) = .complex k n m := by rw [bO] <;> simp
@[simp] theorem Fl (b : ByteArray) : (bO g d) (.string b) = .string b := by rw [bO] <;> simp
@[simp] theorem ag6 (r : Option Nat) : (bO g d) (.chan r) = .chan r := by rw [bO] <;> simp
@[simp] theorem ae9 : (bO g d) .nilFunc = .nilFunc := by rw [bO] <;> simp
@[simp] theorem adP : (bO g d) .nilIface = .nilIface := by rw [bO] <;> simp
@[simp] theorem Nd (a : Option Addr) : (bO g d) (.pointer a) = .pointer (a.map (yN g d)) := by rw [bO]
@[simp] theorem gz (a : Option Addr) (n e : Nat) : (bO g d) (.slice a n e) = .slice (a.map (yN g d)) n e := by rw [bO]
@[simp] theorem Id (r : Option Nat) : (bO g d) (.map r) = .map (r.map (z8 g d)) := by rw [bO]
@[simp] theorem agS (t : TypeId) (v : Value) : (bO g d) (.iface t v) = .iface t ((bO g d) v) := by rw [bO]
@[simp] theorem ag7 (fn : Fn) (f c : Array Value) : (bO g d) (.func fn f c) = .func fn (f.map (bO g d)) (c.map (bO g d)) := by rw [bO]
@[simp] theorem M8 (cs : Array Value) : (bO g d) (.agg cs) = .agg (cs.map (bO g d)) := by rw [bO]
@[simp] theorem YR (cs : Array Value) : (bO g d) (.tuple cs) = .tuple (cs.map (bO g d)) := by rw [bO]
@[simp] theorem q9 : (bO g d) undef = undef := by simp [undef]
theorem YL {v : Value} (h : dk v = true) : (bO g d) v = v := by
 unfold dk at h
 split at h <;> first | (simp; done) | cases h
theorem wr {l : List Value} (h : l.all dk = true) : g7 g d l = l := by
 induction l with
 | nil => rfl
 | cons x l ih => simp only [List.all_cons, Bool.and_eq_true] at h; simp only [g7, List.map_cons, YL h.1]; rw [show List.map (bO g d) l = l from ih h.2]
theorem J7 {v : Value} (h : wL v = true) : (bO g d) v = v := by
 unfold wL at h
 split at h
 ·rename_i cs
  rw [M8]; congr 1; exact Array.toList_inj.1 (by rw [Array.toList_map]; exact wr h)
 ·rename_i cs
  rw [YR]; congr 1; exact Array.toList_inj.1 (by rw [Array.toList_map]; exact wr h)
 ·exact YL h
theorem C9 (v : Value) : ((bO g d) v).cells = v.cells.map (bO g d) := by
 cases v <;> simp [Value.cells]
theorem TU (v : Value) : ((bO g d) v).cells.toList = g7 g d v.cells.toList := by rw [C9, Array.toList_map]
theorem afA (v : Value) : Value.oneCell' ((bO g d) v) = Value.oneCell' v := by
 cases v <;> simp [Value.oneCell']
theorem Qt (l : List Value) : (g7 g d l).all Value.oneCell' = l.all Value.oneCell' := by
 simp only [g7, List.all_map]; congr 1; funext v; exact afA v
theorem Ie (v : Value) : sq ((bO g d) v) = (sq v).map fun a => (z8 g d a.1, a.2) := by
 cases v with
 | pointer a =>
  cases a with
  | none => simp [sq]
  | some a =>
   obtain ⟨b, o, sp⟩ := a
   cases sp <;> simp [sq, yN]
 | _ => simp [sq]
theorem YQ (c a b : Value) : aM ((bO g d) c) ((bO g d) a) ((bO g d) b) = (aM c a b).map (bO g d) := by
 cases c with
 | bool t => cases t <;> simp [aM]
 | _ => simp [aM]
theorem ab1 (v : Value) : tG ((bO g d) v) = (tG v).map (bO g d) := by
 cases v with
 | pointer a => cases a <;> simp [tG]
 | func fn f c => cases fn <;> simp [tG]
 | _ => simp [tG]
theorem abW (off : Nat) (v : Value) : DW off ((bO g d) v) = (DW off v).map (bO g d) := by
 unfold DW;rw [Ie]
 cases sq v <;> simp [yN]
theorem YP (n : Option Nat) (off : Nat) (v : Value) : kW n off ((bO g d) v) = (kW n off v).map (bO g d) := by
 cases v with
 | agg cs => cases n <;> simp [kW]
 | _ => simp [kW]
theorem abX (e : Nat) (v i : Value) : oh e ((bO g d) v) ((bO g d) i) = (oh e v i).map (bO g d) := by
 cases v with
 | slice a n k =>
  cases a with
  | none => simp [oh]
  | some a =>
   obtain ⟨b, o, sp⟩ := a
   cases sp with
   | none =>
    cases i with
    | int k i => simp only [gz, yb, e6, yN, oh]; split <;> simp [yN]
    | _ => simp [oh, yN]
   | some sp => simp [oh, yN]
 | _ => simp [oh]
theorem YO (len e : Nat) (v i : Value) : iV len e ((bO g d) v) ((bO g d) i) = (iV len e v i).map (bO g d) := by
 cases v with
 | pointer a =>
  cases a with
  | none => simp [iV]
  | some a =>
   obtain ⟨b, o, sp⟩ := a
   cases sp with
   | none =>
    cases i with
    | int k i => simp only [Nd, yb, e6, yN, iV]; split <;> simp [yN]
    | _ => simp [iV, yN]
   | some sp => simp [iV, yN]
 | _ => simp [iV]
theorem Nb (len : Nat) (n : Option Nat) (e : Nat) (v i : Value) : jm len n e ((bO g d) v) ((bO g d) i) = (jm len n e v i).map (bO g d) := by
 cases v with
 | agg cs =>
  cases i with
  | int k i =>
   simp only [M8, yb, jm]
   split
   ·cases n <;> simp
   ·rfl
  | _ => simp [jm]
 | _ => simp [jm]
theorem Na (v i : Value) : jl ((bO g d) v) ((bO g d) i) = (jl v i).map (bO g d) := by
 cases v with
 | string b =>
  cases i with
  | int k i =>
   simp only [Fl, yb, jl]
   split
   ·rw [Option.map_map]; congr 1; funext x; simp
   ·rfl
  | _ => simp [jl]
 | _ => simp [jl]
theorem abY (v : Value) : pR ((bO g d) v) = (pR v).map (bO g d) := by cases v <;> simp [pR]
theorem abZ (l : List Value) : ir (g7 g d l) = (ir l).map (bO g d) := by
 match l with
 | [] => rfl
 | [x] => simp [g7, ir]
 | [x, y] => cases x <;> cases y <;> simp [g7, ir]
 | x :: y :: z :: l => simp [g7, ir]
theorem ab0 (l : List Value) : jz (g7 g d l) = (jz l).map (bO g d) := by
 match l with
 | [] => rfl
 | [x] => simp [g7, jz]
 | [x, y] => cases x <;> cases y <;> simp [g7, jz]
 | x :: y :: z :: l => simp [g7, jz]
theorem Da : ∀ xs ys : List Value, bL (g7 g d xs) (g7 g d ys) = bL xs ys := by
 intro xs
 induction xs with
 | nil => intro ys; cases ys <;> simp [g7, bL]
 | cons x xs ih =>
  intro ys
  cases ys with
  | nil => cases x <;> simp [g7, bL]
  | cons y ys =>
   have := ih ys;simp only [g7] at this
   cases x <;> cases y <;> simp [g7, bL, this]
theorem afB (cl : TCls) (x y : Value) : pQ cl ((bO g d) x) ((bO g d) y) = pQ cl x y := by
 cases cl with
 | flat n =>
  cases x with
  | agg a =>
   cases y with
   | agg b =>
    simp only [M8, pQ, Array.size_map, Array.toList_map];rw [show bL (List.map (bO g d) a.toList) (List.map (bO g d) b.toList) = bL a.toList b.toList from Da _ _]
   | _ => simp [pQ]
  | _ => cases y <;> simp [pQ]
 | bool => cases x <;> cases y <;> simp [pQ]
 | ptr => cases x <;> cases y <;> simp [pQ] <;> (rename_i a b; cases a <;> cases b <;> simp [pQ])
 | slice => cases x <;> cases y <;> simp [pQ] <;> (rename_i a _ _ b _ _; cases a <;> cases b <;> simp [pQ])
 | map => cases x <;> cases y <;> simp [pQ] <;> (rename_i a b; cases a <;> cases b <;> simp [pQ])
 | func => cases x <;> cases y <;> simp [pQ]
 | other => cases x <;> cases y <;> simp [pQ]
theorem abN {op : BinOp} {k : IntKind} {a b : Int} : (mH op k a b).map (bO g d) = mH op k a b := by
 cases op <;> simp [mH] <;> (split <;> simp)
theorem Tg {op : BinOp} {k : IntKind} {a b : Int} : (mw op k a b).map (bO g d) = mw op k a b := by
 unfold mw
 split
 ·rfl
 ·cases op <;> simp
theorem abP {op : BinOp} {a b : ByteArray} : (X8 op a b).map (bO g d) = X8 op a b := by
 cases op <;> simp [X8]
theorem YN (cl : TCls) (op : BinOp) (x y : Value) : EZ cl op ((bO g d) x) ((bO g d) y) = (EZ cl op x y).map (bO g d) := by
 cases op <;> simp only [EZ, afB, Option.map_map, Option.map_none] <;> (congr 1; funext b; simp)
theorem abV (cl : TCls) (op : BinOp) (x y : Value) : ak cl op ((bO g d) x) ((bO g d) y) = (ak cl op x y).map (bO g d) := by
 have key := YN (g := g) (d := d) cl op x y
 cases x with
 | int k a =>
  cases y with
  | int k' b => cases op <;> simp only [yb, ak, Tg] <;> (split <;> simp [abN])
  | _ => simpa [ak] using key
 | string a =>
  cases y with
  | string b => simp [ak, abP]
  | _ => simpa [ak] using key
 | _ => simpa [ak] using key
theorem afC (op : UnOp) (x : Value) : oW op ((bO g d) x) = (oW op x).map (bO g d) := by cases op <;> cases x <;> simp [oW]
theorem YM (k : Option IntKind) (x : Value) : cF k ((bO g d) x) = (cF k x).map (bO g d) := by cases k <;> cases x <;> simp [cF]
theorem J8 (v : Value) (i : Nat) : ag ((bO g d) v) i = (ag v i).map (bO g d) := by cases v <;> simp [ag]
theorem Dd (v : Value) : m8 ((bO g d) v) = m8 v := by cases v <;> simp [m8]
end
inductive Tr (α : Type) where
 | lf
 | nd (v : Option α) (l r : Tr α)
section
variable {α : Type}
def Tr.get : Tr α → Nat → Option α
 | .lf, _ => none
 | .nd v l r, i => match i with
  | 0 => v
  | i + 1 => match Nat.beq (i % 2) 0 with
   | true => l.get (i / 2)
   | false => r.get (i / 2)
def Tr.set (x : α) : Nat → Tr α → Nat → Option (Tr α)
 | 0, _, _ => none
 | k + 1, t, i => match i with
  | 0 => match t with
   | .lf => some (.nd (some x) .lf .lf)
   | .nd _ l r => some (.nd (some x) l r)
  | i + 1 => match Nat.beq (i % 2) 0 with
   | true => match t with
    | .lf => (Tr.set x k .lf (i / 2)).map fun l' => .nd none l' .lf
    | .nd v l r => (Tr.set x k l (i / 2)).map fun l' => .nd v l' r
   | false => match t with
    | .lf => (Tr.set x k .lf (i / 2)).map fun r' => .nd none .lf r'
    | .nd v l r => (Tr.set x k r (i / 2)).map fun r' => .nd v l r'
theorem Tr.get_set {x : α} : ∀ (k : Nat) {t t' : Tr α} {i : Nat}, Tr.set x k t i = some t' → ∀ j, t'.get j = if j = i then some x else t.get j := by
 intro k
 induction k with
 | zero => intro t t' i h; cases h
 | succ k ih =>
  intro t t' i h j
  cases i with
  | zero =>
   cases t with
   | lf => simp only [Tr.set] at h; cases h; cases j with
    | zero => rfl
    | succ j => simp only [Tr.get]; split <;> simp [Tr.get]
   | nd v l r => simp only [Tr.set] at h; cases h; cases j with
    | zero => rfl
    | succ j => simp [Tr.get]
  | succ i =>
   simp only [Tr.set] at h
   have beq : ∀ a : Nat, Nat.beq a 0 = (a == 0) := fun a => by cases a <;> simp [Nat.beq]
   have lf : ∀ j, (Tr.lf : Tr α).get j = none := fun j => by cases j <;> rfl
   cases hb : Nat.beq (i % 2) 0 with
   | true =>
    have hi : i % 2 = 0 := by rw [beq] at hb; simpa using hb
    rw [hb] at h;simp only at h
    have key : ∃ v l r l', Tr.set x k l (i / 2) = some l' ∧ t' = .nd v l' r ∧ ∀ j, t.get j = (Tr.nd v l r).get j := by
     cases t with
     | lf => obtain ⟨l', h1, e⟩ := bf.1 h; exact ⟨none, .lf, .lf, l', h1, e.symm, fun j => by rw [lf]; cases j with | zero => rfl | succ j => simp only [Tr.get]; split <;> rfl⟩
     | nd v l r => obtain ⟨l', h1, e⟩ := bf.1 h; exact ⟨v, l, r, l', h1, e.symm, fun j => rfl⟩
    obtain ⟨v, l, r, l', h1, rfl, hg⟩ := key;rw [hg]
    cases j with
    | zero => rfl
    | succ j =>
     simp only [Tr.get]
     cases hj : Nat.beq (j % 2) 0 with
     | true =>
      have hj' : j % 2 = 0 := by rw [beq] at hj; simpa using hj
      simp only;rw [ih h1]
      by_cases e : j / 2 = i / 2
      ·rw [if_pos e, if_pos (by omega)]
      ·rw [if_neg e, if_neg (by omega)]
     | false =>
      have hj' : j % 2 ≠ 0 := by rw [beq] at hj; simpa using hj
      simp only;rw [if_neg (by omega)]
   | false =>
    have hi : i % 2 ≠ 0 := by rw [beq] at hb; simpa using hb
    rw [hb] at h;simp only at h
    have key : ∃ v l r r', Tr.set x k r (i / 2) = some r' ∧ t' = .nd v l r' ∧ ∀ j, t.get j = (Tr.nd v l r).get j := by
     cases t with
     | lf => obtain ⟨l', h1, e⟩ := bf.1 h; exact ⟨none, .lf, .lf, l', h1, e.symm, fun j => by rw [lf]; cases j with | zero => rfl | succ j => simp only [Tr.get]; split <;> rfl⟩
     | nd v l r => obtain ⟨l', h1, e⟩ := bf.1 h; exact ⟨v, l, r, l', h1, e.symm, fun j => rfl⟩
    obtain ⟨v, l, r, l', h1, rfl, hg⟩ := key;rw [hg]
    cases j with
    | zero => rfl
    | succ j =>
     simp only [Tr.get]
     cases hj : Nat.beq (j % 2) 0 with
     | false =>
      have hj' : j % 2 ≠ 0 := by rw [beq] at hj; simpa using hj
      simp only;rw [ih h1]
      by_cases e : j / 2 = i / 2
      ·rw [if_pos e, if_pos (by omega)]
      ·rw [if_neg e, if_neg (by omega)]
     | true =>
      have hj' : j % 2 = 0 := by rw [beq] at hj; simpa using hj
      simp only;rw [if_neg (by omega)]
end
structure EH where
 n : Nat
 t : Tr AObj
def EH.get (E : EH) (b : Nat) : Option AObj := E.t.get b
def EH.set (E : EH) (b : Nat) (o : AObj) : Option EH := (Tr.set o 24 E.t b).map fun t => ⟨E.n, t⟩
def EH.push (E : EH) (o : AObj) : Option EH := (Tr.set o 24 E.t E.n).map fun t => ⟨E.n + 1, t⟩
section
variable (g d : Nat)
def J6 (e : MapEntry) : MapEntry := { e with key := bO g d e.key, val := bO g d e.val }
def KG : AObj → AObj
 | .cells ro cs => .cells ro (g7 g d cs)
 | .map es c => .map (es.map (J6 g d)) c
 | .dead => .dead
structure HR (F : List AObj) (E : EH) (H : AH) : Prop where
 len : F.length = d
 le : g ≤ E.n
 size : H.size = E.n + d
 get : ∀ b, H.get (z8 g d b) = (E.get b).map (KG g d)
 out : ∀ b, E.n ≤ b → E.get b = none
 fr : ∀ b, g ≤ b → b < g + d → H.get b = F[b - g]?
end
section
variable {g d : Nat} {F : List AObj} {E E' : EH} {H : AH}
theorem HR.lt (h : HR g d F E H) {b : Nat} {o : AObj} (hb : E.get b = some o) : b < E.n := by
 rcases Nat.lt_or_ge b E.n with h1 | h1
 ·exact h1
 ·rw [h.out b h1] at hb; cases hb
theorem HR.new (h : HR g d F E H) : H.size = z8 g d E.n := by
 unfold z8; rw [if_neg (by have := h.le; omega)]; exact h.size
theorem HR.shlt (h : HR g d F E H) {b : Nat} (hb : b < E.n) : z8 g d b < H.size := by
 rw [h.size]; unfold z8; split <;> omega
theorem HR.set (h : HR g d F E H) {b : Nat} {o : AObj} (hb : b < E.n) (hs : E.set b o = some E') : HR g d F E' (H.set (z8 g d b) (KG g d o)) := by
 obtain ⟨t, ht, rfl⟩ := bf.1 hs;have hg := Tr.get_set 24 ht;refine ⟨h.len, h.le, by rw [AH.size_set]; exact h.size, fun j => ?_, fun j hj => ?_, fun j h1 h2 => ?_⟩
 ·show _ = (t.get j).map _
  rw [hg j, AH.get_set]
  by_cases e : j = b
  ·subst e; rw [if_pos rfl, if_pos rfl, if_pos (h.shlt hb)]; rfl
  ·rw [if_neg (fun x => e (Qr x)), if_neg e]; exact h.get j
 ·show t.get j = none
  rw [hg j, if_neg (by have : E.n ≤ j := hj; omega)]; exact h.out j hj
 ·rw [AH.get_set_ne (by unfold z8; split <;> omega)]; exact h.fr j h1 h2
theorem HR.push (h : HR g d F E H) {o : AObj} (hs : E.push o = some E') : HR g d F E' (H.push (KG g d o)) := by
 obtain ⟨t, ht, rfl⟩ := bf.1 hs;have hg := Tr.get_set 24 ht;have hle := h.le;have hsz := h.size;refine ⟨h.len, by show g ≤ E.n + 1; omega, by rw [AH.size_push, hsz]; show _ = E.n + 1 + d; omega, fun j => ?_, fun j hj => ?_, fun j h1 h2 => ?_⟩
 ·show _ = (t.get j).map _
  rw [hg j, AH.get_push, h.new]
  by_cases e : j = E.n
  ·subst e; rw [if_pos rfl, if_pos rfl]; rfl
  ·rw [if_neg (fun x => e (Qr x)), if_neg e]; exact h.get j
 ·show t.get j = none
  have : E.n + 1 ≤ j := hj;rw [hg j, if_neg (by omega)]; exact h.out j (by omega)
 ·rw [AH.get_push_old (by omega)]; exact h.fr j h1 h2
end
section
variable {g d : Nat}
theorem Fk (cs : List Value) (o : Nat) (xs : List Value) : splice (g7 g d cs) o (g7 g d xs) = g7 g d (splice cs o xs) := by
 simp [splice, g7, List.map_take, List.map_drop]
theorem Dc (places : Nat → Option (Nat × Nat)) : ∀ (parts : List (Nat × Value)) (zero : List Value), dj places (g7 g d zero) (parts.map fun p => (p.1, (bO g d) p.2)) = (dj places zero parts).map (g7 g d) := by
 intro parts
 induction parts with
 | nil => intro zero; rfl
 | cons p parts ih =>
  intro zero;obtain ⟨i, v⟩ := p;simp only [List.map_cons, dj]
  cases places i with
  | none => rfl
  | some q =>
   simp only [bG];rw [C9, Array.size_map, Array.toList_map, show (g7 g d zero).length = zero.length from sn _]
   split
   ·rw [show List.map (bO g d) v.cells.toList = g7 g d v.cells.toList from rfl, Fk]; exact ih _
   ·rfl
theorem TV (e : Nat) (x : Value) (lo hi : Option Value) : fE e ((bO g d) x) (lo.map (bO g d)) (hi.map (bO g d)) = (fE e x lo hi).map (bO g d) := by
 cases x with
 | slice a n e' =>
  have key : ∀ L R : Option Int, (L.bind fun l => R.bind fun h =>
   if 0 ≤ l ∧ l ≤ h ∧ h ≤ n then
    match a.map (yN g d) with
    | none => if n = 0 ∧ e' = 0 then some (.slice none 0 0) else none
    | some ⟨b, o, none⟩ => if e' = e ∧ 0 < e then some (.slice (some ⟨b, o + l.toNat * e, none⟩) (h.toNat - l.toNat) e) else none
    | _ => none
   else none : Option Value) = (L.bind fun l => R.bind fun h =>
   if 0 ≤ l ∧ l ≤ h ∧ h ≤ n then
    match a with
    | none => if n = 0 ∧ e' = 0 then some (.slice none 0 0) else none
    | some ⟨b, o, none⟩ => if e' = e ∧ 0 < e then some (.slice (some ⟨b, o + l.toNat * e, none⟩) (h.toNat - l.toNat) e) else none
    | _ => none
   else none : Option Value).map (bO g d) := by
   intro L R
   cases L with
   | none => rfl
   | some l =>
    cases R with
    | none => rfl
    | some r =>
     simp only [bG]
     split
     ·cases a with
      | none => simp only [Option.map_none]; split <;> simp
      | some a =>
       obtain ⟨b, o, sp⟩ := a
       cases sp with
       | none => simp only [e6, yN]; split <;> simp [yN]
       | some sp => simp [yN]
     ·rfl
  cases lo with
  | none =>
   cases hi with
   | none => simp only [gz, fE, Option.map_none]; exact key (some 0) (some n)
   | some h => simp only [gz, fE, e6, Dd]; exact key (some 0) (m8 h)
  | some l =>
   cases hi with
   | none => simp only [gz, fE, e6, Dd]; exact key (m8 l) (some n)
   | some h => simp only [gz, fE, e6, Dd]; exact key (m8 l) (m8 h)
 | _ => simp [fE]
theorem Nc {x hi mx v : Value} (h : jn x hi mx = some v) : jn ((bO g d) x) ((bO g d) hi) ((bO g d) mx) = some ((bO g d) v) := by
 unfold jn at h
 split at h
 ·cases h; simp [jn]
 ·cases h; simp [jn, yN]
 ·cases h
theorem YJ (v : Value) : qr ((bO g d) v) = qr v := by cases v <;> simp [qr]
theorem Db (cl : KCls) (k : Value) : iS cl ((bO g d) k) = iS cl k := by
 cases cl <;> cases k <;> simp [iS]
 rename_i n cs
 congr 2
 funext v; exact YJ v
theorem YK (cl : KCls) (a b : Value) : kw cl ((bO g d) a) ((bO g d) b) = kw cl a b := by
 cases cl with
 | flat n =>
  cases a <;> cases b <;> simp [kw]
  rename_i x y
  rw [show bL (List.map (bO g d) x.toList) (List.map (bO g d) y.toList) = bL x.toList y.toList from Da _ _]
 | int => cases a <;> cases b <;> simp [kw]
 | string => cases a <;> cases b <;> simp [kw]
theorem ua (cl : KCls) (k : Value) : ∀ (es : List MapEntry) (i : Nat), br cl ((bO g d) k) (es.map (J6 g d)) i = (br cl k es i).map fun r => r.map fun p => (p.1, (bO g d) p.2) := by
 intro es
 induction es with
 | nil => intro i; rfl
 | cons e es ih =>
  intro i;simp only [List.map_cons, br, J6, YK]
  cases kw cl k e.key with
  | none => rfl
  | some b =>
   simp only [bG]
   cases b with
   | true => simp
   | false => simp only [Bool.false_eq_true, if_false]; exact ih _
theorem M9 (v : Value) (args : List Value) : db ((bO g d) v) (g7 g d args) = (db v args).map fun r => (r.1, g7 g d r.2) := by
 cases v with
 | func fn f c => cases fn <;> simp [db, g7]
 | _ => simp [db]
end
def pY (E : EH) (b : Nat) : Option (List Value) :=
 match E.get b with
 | some (.cells _ cs) => some cs
 | _ => none
def Vg (v : Value) (E : EH) : Option Value := (sq v).bind fun a => (pY E a.1).bind fun cs => cs[a.2]?
def Vh (n : Nat) (v : Value) (E : EH) : Option Value :=
 (sq v).bind fun a => (pY E a.1).bind fun cs => if a.2 + n ≤ cs.length then some (.agg ((cs.drop a.2).take n).toArray) else none
def eSt (n : Nat) (v x : Value) (E : EH) : Option EH :=
 (sq v).bind fun a => match E.get a.1 with
  | some (.cells false cs) => if x.cells.size = n ∧ a.2 + n ≤ cs.length ∧ x.cells.toList.all Value.oneCell' = true then E.set a.1 (.cells false (splice cs a.2 x.cells.toList)) else none
  | _ => none
def aeD (cs : List Value) (E : EH) : Option (Value × EH) := (E.push (.cells false cs)).map fun E' => (.pointer (some ⟨E.n, 0, none⟩), E')
def Es (n e : Nat) (cs : List Value) (E : EH) : Option (Value × EH) := (E.push (.cells false cs)).map fun E' => (.slice (some ⟨E.n, 0, none⟩) n e, E')
def Er (v : Value) (E : EH) : Option Value :=
 match v with
 | .map none => some (.int .i64 0)
 | .map (some b) => match E.get b with
  | some (.map es _) => some (.int .i64 es.length)
  | _ => none
 | _ => none
def Rh (e : Nat) (x : Value) (E : EH) : Option (Nat × List Value) :=
 match x with
 | .slice none n _ => if n = 0 then some (0, []) else none
 | .slice (some ⟨b, o, none⟩) m _ => if m = 0 then some (0, []) else (pY E b).bind fun cs => if o + m * e ≤ cs.length then some (m, (cs.drop o).take (m * e)) else none
 | _ => none
def aeB (e bytes : Nat) (s x : Value) (E : EH) : Option (Value × EH) :=
 (Rh e x E).bind fun r =>
  if r.2.all Value.oneCell' = true ∧ 0 < e then
   match s with
   | .slice none n k => if n = 0 ∧ k = 0 then (if r.1 = 0 then some (.slice none 0 0, E) else if r.1 * bytes ≤ dc ∧ r.1 ≤ dc then Es r.1 e r.2 E else none) else none
   | .slice (some ⟨b, o, none⟩) n e' =>
    if r.1 = 0 then some (s, E)
    else if e' = 0 then (if n = 0 ∧ r.1 * bytes ≤ dc ∧ r.1 ≤ dc then Es r.1 e r.2 E else none)
    else match E.get b with
     | some (.cells false cs) =>
      if e' = e ∧ o + n * e ≤ cs.length ∧ (n + r.1) * bytes ≤ dc ∧ n + r.1 ≤ dc then (E.set b .dead).bind fun E1 => Es (n + r.1) e ((cs.drop o).take (n * e) ++ r.2) E1 else none
     | _ => none
   | _ => none
  else none
def Vi (zero : List Value) (e bytes : Nat) (len cap : Value) (E : EH) : Option (Value × EH) :=
 match len, cap with
 | .int _ l, .int _ c => if 0 ≤ l ∧ l = c ∧ l.toNat * bytes ≤ dc ∧ l.toNat ≤ dc ∧ 0 < e ∧ zero.length = e then
  Es l.toNat e (List.replicate l.toNat zero).flatten E else none
 | _, _ => none
def wM (v : Value) (E : EH) : Option (List MapEntry × Nat) :=
 match v with
 | .map none => some ([], 0)
 | .map (some b) => match E.get b with
  | some (.map es c) => some (es, c)
  | _ => none
 | _ => none
def Ad (fl : KCls) (zero : Value) (m k : Value) (ok : Bool) (E : EH) : Option Value :=
 if iS fl k = true then (wM m E).bind fun es => (br fl k es.1 0).map fun r => match r with
  | some (_, v) => if ok then .tuple #[v, .bool true] else v
  | none => if ok then .tuple #[zero, .bool false] else zero
 else none
def FV (fl : KCls) (m k x : Value) (E : EH) : Option EH :=
 if iS fl k = true then match m with
 | .map (some b) => match E.get b with
  | some (.map es c) => (br fl k es 0).bind fun r => match r with
   | some (i, _) => E.set b (.map (es.modify i fun e => { e with key := k, val := x }) c)
   | none => E.set b (.map (es ++ [{ key := k, val := x, born := c }]) (c + 1))
  | _ => none
 | _ => none
 else none
def FP (fl : KCls) (m k : Value) (E : EH) : Option EH :=
 if iS fl k = true then match m with
 | .map (some b) => match E.get b with
  | some (.map es c) => (br fl k es 0).bind fun r => match r with
   | some (i, _) => E.set b (.map (es.eraseIdx i) c)
   | none => E.set b (.map es c)
  | _ => none
 | _ => none
 else none
def eu (g d : Nat) (F : List AObj) (x : Option (Value × EH)) (y : Option (Value × AH)) : Prop := ∀ v E', x = some (v, E') → ∃ H', y = some (bO g d v, H') ∧ HR g d F E' H'
def ZK (g d : Nat) (F : List AObj) (x : Option EH) (y : Option AH) : Prop := ∀ E', x = some E' → ∃ H', y = some H' ∧ HR g d F E' H'
section
variable {g d : Nat} {F : List AObj} {E E' : EH} {H : AH}
theorem HR.cells (h : HR g d F E H) (b : Nat) : dL H (z8 g d b) = (pY E b).map (g7 g d) := by
 unfold dL pY;rw [h.get b]
 cases E.get b with
 | none => rfl
 | some o => cases o <;> rfl
theorem HR.ld1 (h : HR g d F E H) (v : Value) : aq ((bO g d) v) H = (Vg v E).map (bO g d) := by
 unfold aq Vg;rw [Ie]
 cases sq v with
 | none => rfl
 | some a =>
  simp only [e6, bG, h.cells]
  cases pY E a.1 <;> simp [g7]
theorem HR.ldN (h : HR g d F E H) (n : Nat) (v : Value) : ay n ((bO g d) v) H = (Vh n v E).map (bO g d) := by
 unfold ay Vh;rw [Ie]
 cases sq v with
 | none => rfl
 | some a =>
  simp only [e6, bG, h.cells]
  cases pY E a.1 with
  | none => rfl
  | some cs =>
   simp only [e6, bG, g7, sn]
   split
   ·simp [List.map_take, List.map_drop]
   ·rfl
theorem HR.st (h : HR g d F E H) (n : Nat) (v x : Value) : ZK g d F (eSt n v x E) (cB n ((bO g d) v) ((bO g d) x) H) := by
 intro E' he;unfold eSt at he;unfold cB;rw [Ie];obtain ⟨a, ha, he⟩ := aG.1 he;rw [ha];simp only [e6, bG, h.get]
 split at he
 ·rename_i cs hcs
  split at he
  ·rename_i hc
   rw [hcs];simp only [e6, KG]
   rw [C9, Array.size_map, Array.toList_map, show (g7 g d cs).length = cs.length from sn _, show (List.map (bO g d) x.cells.toList).all Value.oneCell' = x.cells.toList.all Value.oneCell' from Qt _, if_pos hc,
    show splice (g7 g d cs) a.2 (List.map (bO g d) x.cells.toList) = g7 g d (splice cs a.2 x.cells.toList) from Fk _ _ _]
   exact ⟨_, rfl, h.set (h.lt hcs) he⟩
  ·cases he
 ·cases he
theorem HR.new' (h : HR g d F E H) (cs : List Value) : eu g d F (aeD cs E) (some (abO (g7 g d cs) H)) := by
 intro v E' he;obtain ⟨E1, h1, e⟩ := bf.1 he;cases e;exact ⟨H.push (KG g d (.cells false cs)), by simp [abO, h.new, yN, KG], h.push h1⟩
theorem HR.rowP (h : HR g d F E H) (n e : Nat) (cs : List Value) : eu g d F (Es n e cs E) (some (.slice (some ⟨H.size, 0, none⟩) n e, H.push (.cells false (g7 g d cs)))) := by
 intro v E' he;obtain ⟨E1, h1, e⟩ := bf.1 he;cases e;exact ⟨H.push (KG g d (.cells false cs)), by simp [h.new, yN, KG], h.push h1⟩
theorem HR.lenM (h : HR g d F E H) (v : Value) : na ((bO g d) v) H = (Er v E).map (bO g d) := by
 cases v with
 | map r =>
  cases r with
  | none => simp [na, Er]
  | some b =>
   simp only [Id, e6, na, Er, h.get]
   cases E.get b with
   | none => rfl
   | some o => cases o <;> simp [KG]
 | _ => simp [na, Er]
theorem HR.row (h : HR g d F E H) (e : Nat) (x : Value) : ln e ((bO g d) x) H = (Rh e x E).map fun r => (r.1, g7 g d r.2) := by
 cases x with
 | slice a n k =>
  cases a with
  | none => simp only [gz, Option.map_none, ln, Rh]; split <;> rfl
  | some a =>
   obtain ⟨b, o, sp⟩ := a
   cases sp with
   | some sp => simp [ln, Rh, yN]
   | none =>
    simp only [gz, e6, yN, ln, Rh, h.cells]
    split
    ·rfl
    ·cases pY E b with
     | none => rfl
     | some cs =>
      simp only [e6, bG, g7, sn]
      split
      ·simp [List.map_take, List.map_drop]
      ·rfl
 | _ => simp [ln, Rh]
theorem HR.mapOf (h : HR g d F E H) (v : Value) : jS ((bO g d) v) H = (wM v E).map fun r => (r.1.map (J6 g d), r.2) := by
 cases v with
 | map r =>
  cases r with
  | none => simp [jS, wM]
  | some b =>
   simp only [Id, e6, jS, wM, h.get]
   cases E.get b with
   | none => rfl
   | some o => cases o <;> simp [KG]
 | _ => simp [jS, wM]
theorem HR.lookup (h : HR g d F E H) (fl : KCls) {zero : Value} (hz : (bO g d) zero = zero) (m k : Value) (ok : Bool) : cU fl zero ((bO g d) m) ((bO g d) k) ok H = (Ad fl zero m k ok E).map (bO g d) := by
 unfold cU Ad;rw [Db]
 split
 ·rw [h.mapOf]
  cases wM m E with
  | none => rfl
  | some es =>
   simp only [e6, bG, ua]
   cases br fl k es.1 0 with
   | none => rfl
   | some r =>
    cases r with
    | none => cases ok <;> simp [hz]
    | some p => cases ok <;> simp
 ·rfl
theorem HR.update (h : HR g d F E H) (fl : KCls) (m k x : Value) : ZK g d F (FV fl m k x E) (eJ fl ((bO g d) m) ((bO g d) k) ((bO g d) x) H) := by
 intro E' he;unfold FV at he
 split at he
 ·rename_i hk
  split at he
  ·rename_i b
   split at he
   ·rename_i es c hb
    obtain ⟨r, hr, he⟩ := aG.1 he
    have hg : H.get (z8 g d b) = some (.map (es.map (J6 g d)) c) := by rw [h.get, hb]; rfl
    have hf := ua (g := g) (d := d) fl k es 0;rw [hr] at hf;simp only [Id, e6, eJ, Db, hk, if_true, hg]
    cases r with
    | some p =>
     have hf : br fl ((bO g d) k) (es.map (J6 g d)) 0 = some (some (p.1, (bO g d) p.2)) := hf;rw [hf];refine ⟨_, rfl, ?_⟩;have := h.set (h.lt hb) he;simp only [KG] at this;show HR g d F E' (H.set (z8 g d b) (.map ((es.map (J6 g d)).modify p.1 fun e => { e with key := (bO g d) k, val := (bO g d) x }) c));rw [show (es.map (J6 g d)).modify p.1 (fun e => { e with key := (bO g d) k, val := (bO g d) x }) = (es.modify p.1 fun e => { e with key := k, val := x }).map (J6 g d) from ?_]
     ·exact this
     ·apply List.ext_getElem?
      intro i;simp only [List.getElem?_modify, xj]
      cases es[i]? with
      | none => rfl
      | some e => simp only [e6, Option.map_map]; split <;> rfl
    | none =>
     have hf : br fl ((bO g d) k) (es.map (J6 g d)) 0 = some none := hf;rw [hf];refine ⟨_, rfl, ?_⟩;have := h.set (h.lt hb) he;simp only [KG, Hc, List.map_cons, List.map_nil, J6] at this;exact this
   ·cases he
  ·cases he
 ·cases he
theorem HR.delete (h : HR g d F E H) (fl : KCls) (m k : Value) : ZK g d F (FP fl m k E) (m6 fl ((bO g d) m) ((bO g d) k) H) := by
 intro E' he;unfold FP at he
 split at he
 ·rename_i hk
  split at he
  ·rename_i b
   split at he
   ·rename_i es c hb
    obtain ⟨r, hr, he⟩ := aG.1 he
    have hg : H.get (z8 g d b) = some (.map (es.map (J6 g d)) c) := by rw [h.get, hb]; rfl
    have hf := ua (g := g) (d := d) fl k es 0;rw [hr] at hf;simp only [Id, e6, m6, Db, hk, if_true, hg]
    cases r with
    | some p =>
     have hf : br fl ((bO g d) k) (es.map (J6 g d)) 0 = some (some (p.1, (bO g d) p.2)) := hf;rw [hf];refine ⟨_, rfl, ?_⟩;have := h.set (h.lt hb) he;simp only [KG] at this;show HR g d F E' (H.set (z8 g d b) (.map ((es.map (J6 g d)).eraseIdx p.1) c));rw [show (es.map (J6 g d)).eraseIdx p.1 = (es.eraseIdx p.1).map (J6 g d) from by simp [List.eraseIdx_eq_take_drop_succ, List.map_take, List.map_drop]];exact this
    | none =>
     have hf : br fl ((bO g d) k) (es.map (J6 g d)) 0 = some none := hf;rw [hf];exact ⟨_, rfl, h.set (h.lt hb) he⟩
   ·cases he
  ·cases he
 ·cases he
theorem HR.make (h : HR g d F E H) {zero : List Value} (hz : g7 g d zero = zero) (e by' : Nat) (len cap : Value) : eu g d F (Vi zero e by' len cap E) (mv zero e by' ((bO g d) len) ((bO g d) cap) H) := by
 intro v E' he;unfold Vi at he
 split at he
 ·split at he
  ·rename_i k1 l k2 c hc
   obtain ⟨H', h1, h2⟩ := h.rowP _ _ _ v E' he;refine ⟨H', ?_, h2⟩;simp only [yb, mv];rw [if_pos hc, ← h1]
   congr 4
   rw [g7, List.map_flatten, List.map_replicate, show List.map (bO g d) zero = zero from hz]
  ·cases he
 ·cases he
theorem HR.app (h : HR g d F E H) (e by' : Nat) (x y : Value) : eu g d F (aeB e by' x y E) (e8 e by' ((bO g d) x) ((bO g d) y) H) := by
 intro v E' he;unfold aeB at he;unfold e8;rw [h.row];obtain ⟨r, hr, he⟩ := aG.1 he;rw [hr];simp only [e6, bG];rw [show (g7 g d r.2).all Value.oneCell' = r.2.all Value.oneCell' from Qt _]
 split at he
 ·rename_i hc
  rw [if_pos hc]
  split at he
  ·rename_i n k
   simp only [gz, Option.map_none]
   split at he
   ·rename_i h0
    rw [if_pos h0]
    split at he
    ·rename_i h1
     rw [if_pos h1]; cases he; exact ⟨H, by simp, h⟩
    ·rename_i h1
     rw [if_neg h1]
     split at he
     ·rename_i h2
      rw [if_pos h2];exact h.rowP _ _ _ v E' he
     ·cases he
   ·cases he
  ·rename_i _ b o n e' _
   simp only [gz, e6, yN]
   split at he
   ·rename_i h1
    rw [if_pos h1]; cases he; exact ⟨H, by simp [yN], h⟩
   ·rename_i h1
    rw [if_neg h1]
    split at he
    ·rename_i h2
     rw [if_pos h2]
     split at he
     ·rename_i h3
      rw [if_pos h3];exact h.rowP _ _ _ v E' he
     ·cases he
    ·rename_i h2
     rw [if_neg h2]
     split at he
     ·rename_i cs hb
      have hg : H.get (z8 g d b) = some (.cells false (g7 g d cs)) := by rw [h.get, hb]; rfl
      rw [hg];simp only;rw [show (g7 g d cs).length = cs.length from sn _]
      split at he
      ·rename_i h3
       rw [if_pos h3];obtain ⟨E1, h4, he⟩ := aG.1 he;have hs := h.set (h.lt hb) h4;obtain ⟨H', h5, h6⟩ := hs.rowP _ _ _ v E' he;refine ⟨H', ?_, h6⟩;rw [← h5, AH.size_set];simp [KG, g7, List.map_take, List.map_drop]
      ·cases he
     ·cases he
  ·cases he
 ·cases he
end
abbrev TF := Nat → List Value → EH → Option (Value × EH)
def Dj (P : Program) (b : Builtin) (argTypes : Array TypeId) (args : List Value) (E : EH) : Option (Value × EH) :=
 match b, args with
 | .len, [x] => match (argTypes[0]?).bind fun t => P.underlying t with
  | some (.slice _) => match x with | .slice _ _ _ => (pR x).map (·, E) | _ => none
  | some .string => match x with | .string _ => (pR x).map (·, E) | _ => none
  | some (.map _ _) => (Er x E).map (·, E)
  | _ => none
 | .max, args => (ir args).map (·, E)
 | .min, args => (jz args).map (·, E)
 | .append, [s, x] => (argTypes[0]?).bind fun t => (cD P t).bind fun el => (cK P el).bind fun e => (fW P el).bind fun by' => (bR P el).bind fun z =>
  if z.cells.size = e ∧ (argTypes[1]?).bind (fun u => cD P u) = some el then aeB e by' s x E else none
 | .delete, [m, k] => (argTypes[0]?).bind fun t => (cE P t).bind fun kt => (cR P kt.1).bind fun fl => (FP fl m k E).map fun E' => (.tuple #[], E')
 | _, _ => none
def tRd (P : Program) (ev : Operand → Value) (op : Op) (E : EH) : Option Value :=
 match op with
 | .load t a => (fL P t).bind fun g => match g with
  | some n => Vh n (ev a) E
  | none => Vg (ev a) E
 | .lookup t m k ok => (cE P t).bind fun kt => (cR P kt.1).bind fun fl => (bR P kt.2).bind fun z => Ad fl z (ev m) (ev k) ok E
 | .call c => match c.args.toList.map ev with
  | [x] => match (c.argTypes[0]?).bind fun t => P.underlying t with
   | some (.slice _) => match x with | .slice _ _ _ => pR x | _ => none
   | some .string => match x with | .string _ => pR x | _ => none
   | some (.map _ _) => Er x E
   | _ => none
  | _ => none
 | _ => none
def wy (P : Program) (call : TF) (ev : Operand → Value) (o : Oper) (E : EH) : Option (Value × EH) :=
 match o.op with
 | .move x => some (ev x, E)
 | .assign x => some (ev x, E)
 | .pick c a b => (aM (ev c) (ev a) (ev b)).map (·, E)
 | .alloc t => (bR P t).bind fun z => aeD z.cells.toList E
 | .box _ x => aeD (ev x).cells.toList E
 | .build t parts => match P.underlying t with
  | some (.struct fs) => (bR P t).bind fun z => (jo P fs.toList).bind fun ps => (dj (ps[·]?) z.cells.toList (parts.toList.map fun p => (p.1, ev p.2))).map fun cs => (.agg cs.toArray, E)
  | some (.array _ el) => (bR P t).bind fun z => (cK P el).bind fun e => (dj (fun i => some (i * e, e)) z.cells.toList (parts.toList.map fun p => (p.1, ev p.2))).map fun cs => (.agg cs.toArray, E)
  | _ => none
 | .buildSlice t len parts => (cD P t).bind fun el => (cK P el).bind fun e => (bR P el).bind fun z =>
  if 0 < e ∧ z.cells.size = e ∧ len * e ≤ 2 ^ 24 then
   (dj (fun i => some (i * e, e)) (List.replicate len z.cells.toList).flatten (parts.toList.map fun p => (p.1, ev p.2))).bind fun cs => Es len e cs E
  else none
 | .load t a => (fL P t).bind fun g => match g with
  | some n => (Vh n (ev a) E).map (·, E)
  | none => (Vg (ev a) E).map (·, E)
 | .store t a x => (cK P t).bind fun n => (eSt n (ev a) (ev x) E).map fun E' => (undef, E')
 | .nilCheck x => (tG (ev x)).map (·, E)
 | .binOp op t x y _ => (ak (yn P t) op (ev x) (ev y)).map (·, E)
 | .unOp op _ x => (oW op (ev x)).map (·, E)
 | .convert src dst x => match P.underlying src with
  | some _ => (cF (qt P dst) (ev x)).map (·, E)
  | none => none
 | .makeFunc fn first captured => some (.func fn (first.map ev) (captured.map ev), E)
 | .makeMap _ none => (E.push (.map [] 0)).map fun E' => (.map (some E.n), E')
 | .makeSlice t l c => (cD P t).bind fun el => (cK P el).bind fun e => (fW P el).bind fun by' => (bR P el).bind fun z => Vi z.cells.toList e by' (ev l) (ev c) E
 | .slice t x lo hi none => (cD P t).bind fun el => (cK P el).bind fun e => (fE e (ev x) (lo.map ev) (hi.map ev)).map (·, E)
 | .slice t x none (some hi) (some mx) => (cD P t).bind fun el => (cK P el).bind fun _ => (jn (ev x) (ev hi) (ev mx)).map (·, E)
 | .fieldAddr s x f => (jY P s f).bind fun f => (cK P f.type).bind fun n => if n = 0 then none else (DW f.offset (ev x)).map (·, E)
 | .field s x f => (jY P s f).bind fun f => (fL P f.type).bind fun n => (kW n f.offset (ev x)).map (·, E)
 | .indexAddr t x i => match P.underlying t with
  | some (.slice el) => (cK P el).bind fun e => (oh e (ev x) (ev i)).map (·, E)
  | some (.array len el) => (cK P el).bind fun e => (iV len e (ev x) (ev i)).map (·, E)
  | _ => none
 | .index t x i => match P.underlying t with
  | some (.array len el) => (cK P el).bind fun e => (fL P el).bind fun n => (jm len n e (ev x) (ev i)).map (·, E)
  | some .string => (jl (ev x) (ev i)).map (·, E)
  | _ => none
 | .lookup t m k ok => (cE P t).bind fun kt => (cR P kt.1).bind fun fl => (bR P kt.2).bind fun z => (Ad fl z (ev m) (ev k) ok E).map (·, E)
 | .mapUpdate t m k x => (cE P t).bind fun kt => (cR P kt.1).bind fun fl => (FV fl (ev m) (ev k) (ev x) E).map fun E' => (undef, E')
 | .extract t i => (ag (ev t) i).map (·, E)
 | .call c => match c.callee with
  | .builtin b => Dj P b c.argTypes (c.args.toList.map ev) E
  | .value f => (db (ev f) (c.args.toList.map ev)).bind fun fa => call fa.1 fa.2 E
  | _ => none
 | _ => none
section
variable {P : Program} {g d : Nat} {F : List AObj} {E E' : EH} {H : AH}
theorem jX {t : TypeId} {z : Value} (h : bR P t = some z) : (bO g d) z = z ∧ g7 g d z.cells.toList = z.cells.toList := by
 obtain ⟨i, _, _, h1, h2⟩ := da h;exact ⟨J7 h2, wr h1⟩
theorem eu.val (h : HR g d F E H) {x y : Option Value} (e : y = x.map (bO g d)) : eu g d F (x.map (·, E)) (y.map (·, H)) := by
 intro v E' hx;obtain ⟨z, hz, e1⟩ := bf.1 hx;cases e1;rw [e, hz];exact ⟨H, rfl, h⟩
theorem eu.bind {α : Type} {o : Option α} {f : α → Option (Value × EH)} {f' : α → Option (Value × AH)} (h : ∀ a, o = some a → eu g d F (f a) (f' a)) : eu g d F (o.bind f) (o.bind f') := by
 intro v E' hx;obtain ⟨a, ha, hx⟩ := aG.1 hx;rw [ha];exact h a ha v E' hx
theorem eu.no {y : Option (Value × AH)} : eu g d F none y := fun v E' h => by cases h
theorem eu.ite {c : Prop} [Decidable c] {x : Option (Value × EH)} {y : Option (Value × AH)} (h : c → eu g d F x y) : eu g d F (if c then x else none) (if c then y else none) := by
 intro v E' hx
 split at hx
 ·rename_i hc; rw [if_pos hc]; exact h hc v E' hx
 ·cases hx
theorem eu.heap {x : Option EH} {y : Option AH} (v : Value) (hv : (bO g d) v = v) (h : ZK g d F x y) : eu g d F (x.map fun E' => (v, E')) (y.map fun H' => (v, H')) := by
 intro v' E' hx;obtain ⟨E1, h1, e⟩ := bf.1 hx;cases e;obtain ⟨H', h2, h3⟩ := h E' h1;exact ⟨H', by rw [h2, hv]; rfl, h3⟩
theorem Ls {ev ev' : Operand → Value} {l : List Operand} (h : ∀ x ∈ l, ev' x = (bO g d) (ev x)) : l.map ev' = g7 g d (l.map ev) := by
 rw [g7, List.map_map];exact List.map_congr_left h
theorem IM (h : HR g d F E H) (b : Builtin) (ats : Array TypeId) (args : List Value) : eu g d F (Dj P b ats args E) (cQ P b ats (g7 g d args) H) := by
 intro v E' hx;unfold Dj at hx
 split at hx
 ·rename_i x
  simp only [g7, List.map_cons, List.map_nil, cQ]
  split at hx
  ·rename_i hu
   rw [hu];simp only
   split at hx
   ·simp only [gz]
    exact eu.val h (by rw [← gz, abY]) v E' hx
   ·cases hx
  ·rename_i hu
   rw [hu];simp only
   split at hx
   ·simp only [Fl]
    exact eu.val h (by simp [pR]) v E' hx
   ·cases hx
  ·rename_i hu
   rw [hu];exact eu.val h (h.lenM _) v E' hx
  ·cases hx
 ·exact eu.val h (abZ _) v E' hx
 ·exact eu.val h (ab0 _) v E' hx
 ·simp only [g7, List.map_cons, List.map_nil, cQ]
  exact eu.bind (fun t _ => eu.bind fun el _ => eu.bind fun e _ => eu.bind fun by' _ => eu.bind fun z _ => eu.ite fun _ => h.app _ _ _ _) v E' hx
 ·simp only [g7, List.map_cons, List.map_nil, cQ]
  exact eu.bind (fun t _ => eu.bind fun kt _ => eu.bind fun fl _ => eu.heap _ (by simp) (h.delete _ _ _)) v E' hx
 ·cases hx
theorem adO (h : HR g d F E H) {ev ev' : Operand → Value} {op : Op} (hev : ∀ x, x ∈ op.operands.toList → ev' x = (bO g d) (ev x)) : A4 P ev' op H = (tRd P ev op E).map (bO g d) := by
 cases op with
 | load t a =>
  simp only [A4, tRd];rw [hev a (by simp [Op.operands])]
  cases fL P t with
  | none => rfl
  | some n => cases n with
   | none => exact h.ld1 _
   | some n => exact h.ldN _ _
 | lookup t m k ok =>
  simp only [A4, tRd];rw [hev m (by simp [Op.operands]), hev k (by simp [Op.operands])]
  cases cE P t with
  | none => rfl
  | some kt =>
   simp only [bG]
   cases cR P kt.1 with
   | none => rfl
   | some fl =>
    simp only [bG]
    cases hz : bR P kt.2 with
    | none => rfl
    | some z => exact h.lookup fl (jX hz).1 _ _ _
 | call c =>
  have ha : c.args.toList.map ev' = g7 g d (c.args.toList.map ev) := Ls fun x hx => hev x (by simp only [Op.operands, Call.operands, Array.toList_append, List.mem_append]; exact .inr hx);simp only [A4, tRd];rw [ha]
  generalize c.args.toList.map ev = l
  match l with
  | [] => rfl
  | [x] =>
   simp only [g7, List.map_cons, List.map_nil]
   generalize (c.argTypes[0]?).bind (fun t => P.underlying t) = u
   cases u with
   | none => rfl
   | some u => cases u <;> first | rfl | exact h.lenM _ | (cases x <;> simp [pR])
  | x :: y :: l => rfl
 | _ => rfl
def ru (g d : Nat) (F : List AObj) (c : TF) (c' : bE) : Prop := ∀ (E : EH) (H : AH) f args, HR g d F E H → eu g d F (c f args E) (c' f (g7 g d args) H)
theorem aeW (h : HR g d F E H) {c : TF} {c' : bE} (hc : ru g d F c c') {ev ev' : Operand → Value} {o : Oper} (hev : ∀ x, x ∈ o.op.operands.toList → ev' x = (bO g d) (ev x)) :
 eu g d F (wy P c ev o E) (eL P c' ev' o H) := by
 obtain ⟨dst, op, type, pos, after, guard⟩ := o;simp only at hev
 have fill : ∀ (parts : Array (Nat × Operand)), (∀ x, x ∈ (parts.toList.map (·.2)) → ev' x = (bO g d) (ev x)) → (parts.toList.map fun p => (p.1, ev' p.2)) = (parts.toList.map fun p => (p.1, ev p.2)).map fun p => (p.1, (bO g d) p.2) := by
  intro parts hp;rw [List.map_map];refine List.map_congr_left fun p hpm => ?_;simp only [Function.comp];rw [hp p.2 (List.mem_map_of_mem hpm)]
 have arr : ∀ (l : Array Operand), (∀ x ∈ l.toList, ev' x = (bO g d) (ev x)) → l.map ev' = (l.map ev).map (bO g d) := by
  intro l hl;apply Array.toList_inj.1;rw [Array.toList_map, Array.toList_map, Array.toList_map];exact Ls hl
 cases op
 case move x => intro v E' hx; simp only [wy] at hx; cases hx; exact ⟨H, by simp only [eL]; rw [hev x (by simp [Op.operands])], h⟩
 case assign x => intro v E' hx; simp only [wy] at hx; cases hx; exact ⟨H, by simp only [eL]; rw [hev x (by simp [Op.operands])], h⟩
 case pick k a b =>
  simp only [wy, eL];rw [hev k (by simp [Op.operands]), hev a (by simp [Op.operands]), hev b (by simp [Op.operands])];exact eu.val h (YQ _ _ _)
 case alloc t =>
  intro v E' hx;simp only [wy] at hx;simp only [eL];obtain ⟨z, hz, hx⟩ := aG.1 hx;rw [hz];have := h.new' _ v E' hx;rw [(jX hz).2] at this;exact this
 case box t x =>
  simp only [wy, eL];rw [hev x (by simp [Op.operands]), TU];exact h.new' _
 case build t parts =>
  have hp := fill parts fun x hx => hev x (by simpa [Op.operands] using hx);intro v E' hx;simp only [wy] at hx;simp only [eL];rw [hp]
  split at hx
  ·rename_i fs hu
   rw [hu];simp only;obtain ⟨z, hz, hx⟩ := aG.1 hx;obtain ⟨ps, hps, hx⟩ := aG.1 hx;obtain ⟨cs, hcs, e⟩ := bf.1 hx;cases e;have hf := Dc (g := g) (d := d) (ps[·]?) (parts.toList.map fun p => (p.1, ev p.2)) z.cells.toList;rw [(jX hz).2, hcs] at hf;rw [hz, hps];simp only [bG];rw [hf];exact ⟨H, by simp, h⟩
  ·rename_i el hu
   rw [hu];simp only;obtain ⟨z, hz, hx⟩ := aG.1 hx;obtain ⟨e, he, hx⟩ := aG.1 hx;obtain ⟨cs, hcs, e⟩ := bf.1 hx;cases e;have hf := Dc (g := g) (d := d) (fun i => some (i * e, e)) (parts.toList.map fun p => (p.1, ev p.2)) z.cells.toList;rw [(jX hz).2, hcs] at hf;rw [hz, he];simp only [bG];rw [hf];exact ⟨H, by simp, h⟩
  ·cases hx
 case buildSlice t len parts =>
  have hp := fill parts fun x hx => hev x (by simpa [Op.operands] using hx);simp only [wy, eL];rw [hp];refine eu.bind fun el _ => eu.bind fun e _ => eu.bind fun z hz => eu.ite fun _ => ?_;intro v E' hx;obtain ⟨cs, hcs, hx⟩ := aG.1 hx;have hf := Dc (g := g) (d := d) (fun i => some (i * e, e)) (parts.toList.map fun p => (p.1, ev p.2)) (List.replicate len z.cells.toList).flatten
  rw [hcs, show g7 g d (List.replicate len z.cells.toList).flatten = (List.replicate len z.cells.toList).flatten from by
   rw [g7, List.map_flatten, List.map_replicate, show List.map (bO g d) z.cells.toList = z.cells.toList from (jX hz).2]] at hf
  rw [hf];exact h.rowP _ _ _ v E' hx
 case load t a =>
  simp only [wy, eL];rw [hev a (by simp [Op.operands])];refine eu.bind fun n _ => ?_
  cases n with
  | none => exact eu.val h (h.ld1 _)
  | some n => exact eu.val h (h.ldN _ _)
 case store t a x =>
  simp only [wy, eL];rw [hev a (by simp [Op.operands]), hev x (by simp [Op.operands])];exact eu.bind fun n _ => eu.heap _ q9 (h.st _ _ _)
 case nilCheck x =>
  simp only [wy, eL];rw [hev x (by simp [Op.operands])];exact eu.val h (ab1 _)
 case binOp op t x y z =>
  simp only [wy, eL];rw [hev x (by simp [Op.operands]), hev y (by simp [Op.operands])];exact eu.val h (abV _ _ _ _)
 case unOp op t x =>
  simp only [wy, eL];rw [hev x (by simp [Op.operands])];exact eu.val h (afC _ _)
 case convert src dst x =>
  simp only [wy, eL];rw [hev x (by simp [Op.operands])]
  split
  ·rename_i hu; rw [hu]; exact eu.val h (YM _ _)
  ·exact eu.no
 case makeFunc fn first captured =>
  simp only [wy, eL];rw [arr first fun x hx => hev x (by simp only [Op.operands, Array.toList_append, List.mem_append]; exact .inl hx), arr captured fun x hx => hev x (by simp only [Op.operands, Array.toList_append, List.mem_append]; exact .inr hx)];intro v E' hx; cases hx; exact ⟨H, by simp, h⟩
 case makeMap t r =>
  cases r with
  | none =>
   intro v E' hx;simp only [wy] at hx;simp only [eL];obtain ⟨E1, h1, e⟩ := bf.1 hx;cases e;exact ⟨H.push (KG g d (.map [] 0)), by simp [h.new, KG], h.push h1⟩
  | some r => exact eu.no
 case makeSlice t l k =>
  simp only [wy, eL];rw [hev l (by simp [Op.operands]), hev k (by simp [Op.operands])]
  exact eu.bind fun el _ => eu.bind fun e _ => eu.bind fun by' _ => eu.bind fun z hz => h.make (jX hz).2 _ _ _ _
 case slice t x lo hi mx =>
  have hx := hev x (by simp [Op.operands])
  have ho : ∀ (q : Option Operand), (∀ y ∈ q.toArray.toList, ev' y = (bO g d) (ev y)) → q.map ev' = (q.map ev).map (bO g d) := by
   intro q hq
   cases q with
   | none => rfl
   | some y => simp [hq y (by simp)]
  have hlo : lo.map ev' = (lo.map ev).map (bO g d) := ho lo fun y hy => hev y (by simp only [Op.operands, Array.toList_append, List.mem_append]; exact .inl (.inl (.inr hy)));have hhi : hi.map ev' = (hi.map ev).map (bO g d) := ho hi fun y hy => hev y (by simp only [Op.operands, Array.toList_append, List.mem_append]; exact .inl (.inr hy));have hmx : mx.map ev' = (mx.map ev).map (bO g d) := ho mx fun y hy => hev y (by simp only [Op.operands, Array.toList_append, List.mem_append]; exact .inr hy)
  cases mx with
  | none =>
   simp only [wy, eL];rw [hx, hlo, hhi];exact eu.bind fun el _ => eu.bind fun e _ => eu.val h (TV _ _ _ _)
  | some mx =>
   cases lo with
   | some lo => cases hi <;> exact eu.no
   | none =>
    cases hi with
    | none => exact eu.no
    | some hi =>
     simp only [e6, Option.some.injEq] at hhi hmx;simp only [wy, eL];rw [hx, hhi, hmx];refine eu.bind fun el _ => eu.bind fun e _ => ?_;intro v E' hv;obtain ⟨z, hz, e⟩ := bf.1 hv;cases e;rw [Nc hz];exact ⟨H, rfl, h⟩
 case fieldAddr st x f =>
  simp only [wy, eL];rw [hev x (by simp [Op.operands])];refine eu.bind fun f _ => eu.bind fun n _ => ?_
  split
  ·exact eu.no
  ·exact eu.val h (abW _ _)
 case field st x f =>
  simp only [wy, eL];rw [hev x (by simp [Op.operands])];exact eu.bind fun f _ => eu.bind fun n _ => eu.val h (YP _ _ _)
 case indexAddr t x i =>
  simp only [wy, eL];rw [hev x (by simp [Op.operands]), hev i (by simp [Op.operands])]
  split
  ·rename_i hu; rw [hu]; exact eu.bind fun e _ => eu.val h (abX _ _ _)
  ·rename_i hu; rw [hu]; exact eu.bind fun e _ => eu.val h (YO _ _ _ _)
  ·exact eu.no
 case index t x i =>
  simp only [wy, eL];rw [hev x (by simp [Op.operands]), hev i (by simp [Op.operands])]
  split
  ·rename_i hu; rw [hu]; exact eu.bind fun e _ => eu.bind fun n _ => eu.val h (Nb _ _ _ _ _)
  ·rename_i hu; rw [hu]; exact eu.val h (Na _ _)
  ·exact eu.no
 case lookup t m k ok =>
  simp only [wy, eL];rw [hev m (by simp [Op.operands]), hev k (by simp [Op.operands])];exact eu.bind fun kt _ => eu.bind fun fl _ => eu.bind fun z hz => eu.val h (h.lookup fl (jX hz).1 _ _ _)
 case mapUpdate t m k x =>
  simp only [wy, eL];rw [hev m (by simp [Op.operands]), hev k (by simp [Op.operands]), hev x (by simp [Op.operands])];exact eu.bind fun kt _ => eu.bind fun fl _ => eu.heap _ q9 (h.update _ _ _ _)
 case extract t i =>
  simp only [wy, eL];rw [hev t (by simp [Op.operands])];exact eu.val h (J8 _ _)
 case call k =>
  obtain ⟨callee, args, ats⟩ := k;have ha : args.toList.map ev' = g7 g d (args.toList.map ev) := Ls fun x hx => hev x (by simp only [Op.operands, Call.operands, Array.toList_append, List.mem_append]; exact .inr hx)
  cases callee with
  | builtin b =>
   simp only [wy, eL];rw [ha];exact IM h _ _ _
  | value f =>
   simp only [wy, eL];rw [ha, hev f (by simp [Op.operands, Call.operands])];intro v E' hx;obtain ⟨q, hq, hx⟩ := aG.1 hx;rw [M9, hq];exact hc E H _ _ h v E' hx
  | invoke r m => exact eu.no
 all_goals exact eu.no
end
def tEv (T : Tr Value) : Operand → Value
 | .tmp t => match T.get t with
  | some v => v
  | none => undef
 | .const v => v
 | .global g => .pointer (some ⟨g, 0, none⟩)
 | .func f => .func (.func f) #[] #[]
def ab5 (m : Nat) (T : Tr Value) (dst : Option Tmp) (v : Value) : Option (Tr Value) :=
 match dst with
 | some j => match Nat.blt j m with
  | true => Tr.set v 24 T j
  | false => none
 | none => some T
def Nq (ops : Array Oper) (T : Tr Value) (j : Nat) : Option Bool :=
 match (ops[j]?).bind (·.dst) with
 | some t => match T.get t with
  | some (.bool b) => some b
  | _ => none
 | none => none
def Qy (P : Program) (G : List Nat) (call : TF) (ops : Array Oper) (m : Nat) (o : Oper) (T : Tr Value) (E : EH) : Option (Tr Value × EH) :=
 match o.op.operands.toList.all (KF G) with
 | true => match Region.wanted o (Nq ops T) with
  | true => (wy P call (tEv T) o E).bind fun r => (ab5 m T o.dst r.1).map fun T' => (T', r.2)
  | false => (ab5 m T o.dst undef).map fun T' => (T', E)
 | false => none
def Np (P : Program) (G : List Nat) (call : TF) (ops : Array Oper) (m : Nat) : List Oper → Tr Value → EH → List (Tr Value × EH) → Option (List (Tr Value × EH) × Tr Value × EH)
 | [], T, E, hist => some (hist ++ [(T, E)], T, E)
 | o :: rest, T, E, hist => (Qy P G call ops m o T E).bind fun r => Np P G call ops m rest r.1 r.2 (hist ++ [(T, E)])
def adR (P : Program) (G : List Nat) (hist : List (Tr Value × EH)) (ops : Array Oper) (p : Nat × Nat) : Bool :=
 match ops[p.1]?, hist[p.1]?, hist[if p.2 < p.1 then p.2 else p.2 + 1]? with
 | some o, some s, some s' => o.op.operands.toList.all (KF G) && eqO (tRd P (tEv s.1) o.op s'.2) (tRd P (tEv s.1) o.op s.2)
 | _, _, _ => false
def AM (P : Program) (G : List Nat) (call : TF) (ops : Array Oper) (m : Nat) (draw : Bool) (T : Tr Value) (E : EH) : Option (Tr Value × EH) :=
 match draw with
 | true => match sV ops.toList with
  | true => (Np P G call ops m ops.toList T E []).bind fun r => match (dR ops.toList).all (adR P G r.1 ops) with
   | true => some r.2
   | false => none
  | false => none
 | false => (Np P G call ops m ops.toList T E []).map (·.2)
abbrev TR := AE × Tr Value × EH
def Qx (f : Tr Value → EH → Option TR) : Nat → Tr Value → EH → Option TR
 | 0, _, _ => none
 | n + 1, T, E => (f T E).bind fun r => match r.1 with
  | .normal => Qx f n r.2.1 r.2.2
  | _ => some r
def jv (P : Program) (G : List Nat) (call : TF) (N m : Nat) : Code → Tr Value → EH → Option TR
 | .skip, T, E => some (.normal, T, E)
 | .label _, T, E => some (.normal, T, E)
 | .region _ ops draw, T, E => (AM P G call ops m draw T E).map fun s => (.normal, s.1, s.2)
 | .seq x y, T, E => (jv P G call N m x T E).bind fun r => match r.1 with
  | .normal => jv P G call N m y r.2.1 r.2.2
  | _ => some r
 | .cond c x y, T, E => match KF G c with
  | true => match tEv T c with
   | .bool true => jv P G call N m x T E
   | .bool false => jv P G call N m y T E
   | _ => none
  | false => none
 | .block id x, T, E => (jv P G call N m x T E).map fun r => match r.1 with
  | .exit i => if i = id then (.normal, r.2.1, r.2.2) else r
  | _ => r
 | .loop x, T, E => Qx (jv P G call N m x) N T E
 | .exit id, T, E => some (.exit id, T, E)
 | .ret, T, E => some (.ret, T, E)
 | _, _, _ => none
def Dk (T : Tr Value) (t : Nat) : Value := match T.get t with
 | some v => v
 | none => undef
def wz (P : Program) (T : Tr Value) (E : EH) : ResultVar → Option Value
 | .tmp t => some (Dk T t)
 | .cell a t => (fL P t).bind fun g => match g with
  | some n => Vh n (Dk T a) E
  | none => Vg (Dk T a) E
def Fu (P : Program) (T : Tr Value) (E : EH) : List ResultVar → Option (List Value)
 | [] => some []
 | r :: rs => (wz P T E r).bind fun v => (Fu P T E rs).bind fun vs => some (v :: vs)
def Y0 (P : Program) (rs : List ResultVar) (r : TR) : Option (Value × EH) :=
 match r.1 with
 | .exit _ => none
 | _ => (Fu P r.2.1 r.2.2 rs).map fun vs => (match vs with
  | [v] => v
  | vs => .tuple vs.toArray, r.2.2)
def Ke : List Value → Nat → Tr Value → Option (Tr Value)
 | [], _, T => some T
 | v :: vs, i, T => (Tr.set v 24 T i).bind fun T' => Ke vs (i + 1) T'
def YZ (P : Program) (G : List Nat) (call : TF) (N n : Nat) (rs : List ResultVar) (s : DSh) (T : Tr Value) (E : EH) : Option (Value × EH) :=
 (jv P G call N n s.c1 T E).bind fun r => match r.1 with
  | .normal => match Nat.blt s.t n with
   | true => (Qy P G call s.ops2 n s.om r.2.1 r.2.2).bind fun q => (Np P G call s.ops3 n s.ops3.toList q.1 q.2 []).bind fun z => Y0 P rs (.normal, z.2.1, z.2.2)
   | false => none
  | _ => none
def Ft (P : Program) (G D : List Nat) (N : Nat) : Nat → TF
 | 0 => fun _ _ _ => none
 | k + 1 => fun f args E => match P.funcs[f]? with
  | some fn => if fn.name = "runtime.NumGoroutine" then none else match fn.body with
   | some c => match Nat.ble args.length fn.ntmps with
    | true => (Ke args 0 .lf).bind fun T => match kI c with
     | none => (jv P G (Ft P G D N k) N fn.ntmps c T E).bind (Y0 P fn.results.toList)
     | some s => match D.contains s.k with
      | true => YZ P G (Ft P G D N k) N fn.ntmps fn.results.toList s T E
      | false => none
    | false => none
   | none => none
  | none => none
section
variable {P : Program} {G : List Nat} {g d m N : Nat} {F : List AObj}
structure ER (g d m : Nat) (T : Tr Value) (A : List Value) : Prop where
 len : A.length = m
 get : ∀ t, A[t]?.getD undef = bO g d (Dk T t)
theorem Kd {v : Value} {T T' : Tr Value} {j : Nat} (h : Tr.set v 24 T j = some T') (t : Nat) : Dk T' t = if t = j then v else Dk T t := by
 unfold Dk;rw [Tr.get_set 24 h t]
 by_cases e : t = j
 ·rw [if_pos e, if_pos e]
 ·rw [if_neg e, if_neg e]
theorem ER.put {T T' : Tr Value} {A : List Value} (h : ER g d m T A) {dst : Option Tmp} {v : Value} (hp : ab5 m T dst v = some T') : ER g d m T' (lc A dst ((bO g d) v)) := by
 unfold ab5 at hp
 cases dst with
 | none => cases hp; exact h
 | some j =>
  simp only at hp
  split at hp
  ·rename_i hb
   have hj : j < m := Nat.le_of_ble_eq_true hb;refine ⟨by simp [lc, h.len], fun t => ?_⟩;rw [Kd hp];simp only [lc];rw [List.getElem?_set]
   by_cases e : t = j
   ·rw [if_pos e, if_pos e.symm, if_pos (by rw [h.len]; omega)]; rfl
   ·rw [if_neg e, if_neg (fun x => e x.symm)]; exact h.get t
  ·cases hp
theorem ER.ev {T : Tr Value} {A : List Value} (h : ER g d m T A) (hG : ∀ b ∈ G, b < g) {x : Operand} (hx : KF G x = true) : fM A x = (bO g d) (tEv T x) := by
 cases x with
 | tmp t => exact h.get t
 | const v => exact (J7 hx).symm
 | global b =>
  simp only [KF, List.contains_iff_mem] at hx;simp [fM, tEv, yN, z8, hG b hx]
 | func f => simp [fM, tEv]
theorem ER.yield {T : Tr Value} {A : List Value} (h : ER g d m T A) (ops : Array Oper) : dH ops A = Nq ops T := by
 funext j
 unfold dH Nq
 cases (ops[j]?).bind (·.dst) with
 | none => rfl
 | some t =>
  simp only [bG];have hg := h.get t;unfold Dk at hg
  cases hT : T.get t with
  | none =>
   rw [hT] at hg;simp only [q9] at hg
   cases hA : A[t]? with
   | none => rfl
   | some v => rw [hA] at hg; simp only [Option.getD_some] at hg; subst hg; rfl
  | some v =>
   rw [hT] at hg;simp only at hg
   cases hA : A[t]? with
   | none => rw [hA] at hg; simp only [Option.getD_none] at hg; cases v <;> simp [undef] at hg ⊢
   | some w => rw [hA] at hg; simp only [Option.getD_some] at hg; subst hg; cases v <;> simp
structure St (g d m : Nat) (F : List AObj) (x : Tr Value × EH) (y : List Value × AH) : Prop where
 er : ER g d m x.1 y.1
 hr : HR g d F x.2 y.2
theorem Ka {c : TF} {c' : bE} (hG : ∀ b ∈ G, b < g) (hc : ru g d F c c') {ops : Array Oper} {o : Oper} {T : Tr Value} {E : EH} {A : List Value} {H : AH} {r} (hS : St g d m F (T, E) (A, H)) (h : Qy P G c ops m o T E = some r) :
 ∃ r', gl P G c' ops o A H = some r' ∧ St g d m F r r' := by
 unfold Qy at h;unfold gl
 split at h
 ·rename_i hok
  rw [if_pos hok];have hev : ∀ x, x ∈ o.op.operands.toList → fM A x = (bO g d) (tEv T x) := fun x hx => hS.er.ev hG (List.all_eq_true.1 hok x hx);rw [hS.er.yield]
  split at h
  ·rename_i hw
   rw [if_pos hw];obtain ⟨⟨v, E1⟩, h1, h⟩ := aG.1 h;obtain ⟨T', h2, e⟩ := bf.1 h;cases e;obtain ⟨H', h3, h4⟩ := aeW hS.hr hc hev v E1 h1;rw [h3];exact ⟨_, rfl, hS.er.put h2, h4⟩
  ·rename_i hw
   rw [if_neg (by rw [hw]; simp)];obtain ⟨T', h2, e⟩ := bf.1 h;cases e;refine ⟨_, rfl, ?_, hS.hr⟩;have := hS.er.put h2
   rwa [q9] at this
 ·cases h
theorem Hn {c : TF} {c' : bE} (hG : ∀ b ∈ G, b < g) (hc : ru g d F c c') {ops : Array Oper} : ∀ (l : List Oper) {T : Tr Value} {E : EH} {A : List Value} {H : AH} {hist r}, St g d m F (T, E) (A, H) → Np P G c ops m l T E hist = some r →
 (∃ r', de P G c' ops l A H = some r' ∧ St g d m F r.2 r') ∧ ∃ t, r.1 = hist ++ t ∧ t.length = l.length + 1 ∧ ∀ i, i ≤ l.length → ∃ x y, t[i]? = some x ∧ de P G c' ops (l.take i) A H = some y ∧ St g d m F x y := by
 intro l
 induction l with
 | nil =>
  intro T E A H hist r hS h;simp only [Np] at h; cases h;refine ⟨⟨_, rfl, hS⟩, [(T, E)], rfl, rfl, ?_⟩;intro i hi
  have : i = 0 := by simpa using hi
  subst this;exact ⟨_, _, rfl, rfl, hS⟩
 | cons o l ih =>
  intro T E A H hist r hS h;simp only [Np] at h;obtain ⟨q, hq, h⟩ := aG.1 h;obtain ⟨⟨A1, H1⟩, h1, hS1⟩ := Ka hG hc hS hq;obtain ⟨T1, E1⟩ := q;obtain ⟨⟨r', h2, hS2⟩, t, e, hl, ht⟩ := ih hS1 h;refine ⟨⟨r', by simp only [de, h1, bG]; exact h2, hS2⟩, (T, E) :: t, by rw [e]; simp, by simp [hl], ?_⟩;intro i hi
  cases i with
  | zero => exact ⟨_, _, rfl, rfl, hS⟩
  | succ i =>
   obtain ⟨x, y, hx, hy, hxy⟩ := ht i (by simpa using hi);exact ⟨x, y, by simpa using hx, by simp only [List.take_succ_cons, de, h1, bG]; exact hy, hxy⟩
theorem M2 {c : TF} {c' : bE} (hG : ∀ b ∈ G, b < g) (hc : ru g d F c c') {ops : Array Oper} {draw : Bool} {T : Tr Value} {E : EH} {A : List Value} {H : AH} {r} (hS : St g d m F (T, E) (A, H)) (h : AM P G c ops m draw T E = some r) :
 ∃ r', f8 P G c' ops draw A H = some r' ∧ St g d m F r r' := by
 cases draw with
 | false =>
  simp only [AM, f8] at h ⊢;obtain ⟨q, hq, e⟩ := bf.1 h;subst e;exact (Hn hG hc _ hS hq).1
 | true =>
  simp only [AM, f8] at h ⊢
  split at h
  ·rename_i hreg
   obtain ⟨q, hq, h⟩ := aG.1 h
   split at h
   ·rename_i hall
    cases h;obtain ⟨⟨r', h1, h2⟩, t, e, hl, ht⟩ := Hn hG hc _ hS hq;refine ⟨r', ?_, h2⟩;unfold mI;rw [hreg];simp only
    cases hp : dR ops.toList with
    | nil => exact h1
    | cons p ps =>
     simp only;rw [ko ?_]
     ·exact h1
     ·rw [← hp]
      intro p hpm o ho;have hx := List.all_eq_true.1 hall p hpm;unfold adR at hx;rw [ho] at hx;simp only [List.nil_append] at e
      have st : ∀ i x, q.1[i]? = some x → St g d m F x (jB P G c' ops A H i) := by
       intro i x hs
       have hi : i < t.length := by rw [e] at hs; exact (DS.1 hs).1
       obtain ⟨x', y, hx', hy, hxy⟩ := ht i (by omega);rw [e, hx'] at hs;cases hs;unfold jB;rw [hy];exact hxy
      split at hx
      ·rename_i o' x1 x2 ho' hs hs'
       cases ho';simp only [Bool.and_eq_true] at hx;have hev : ∀ x, x ∈ o.op.operands.toList → fM (jB P G c' ops A H p.1).1 x = (bO g d) (tEv x1.1 x) := fun x hxm => (st _ _ hs).er.ev hG (List.all_eq_true.1 hx.1 x hxm);rw [adO (st _ _ hs').hr hev, adO (st _ _ hs).hr hev, Rl hx.2]
      ·cases hx
   ·cases h
  ·cases h
structure Ar (g d m : Nat) (F : List AObj) (x : TR) (y : AR) : Prop where
 e : x.1 = y.1
 st : St g d m F x.2 y.2
theorem IS {c : TF} {c' : bE} (hG : ∀ b ∈ G, b < g) (hc : ru g d F c c') : ∀ (k : Code) {T : Tr Value} {E : EH} {A : List Value} {H : AH} {r : TR}, St g d m F (T, E) (A, H) → jv P G c N m k T E = some r →
 ∃ r', aQ P G c' k A H = some r' ∧ Ar g d m F r r' := by
 intro k
 induction k with
 | region id ops draw =>
  intro T E A H r hS hr;simp only [jv, aQ] at hr ⊢;obtain ⟨q, hq, e⟩ := bf.1 hr;obtain ⟨r', h1, h2⟩ := M2 hG hc hS hq;subst e;rw [h1];exact ⟨_, rfl, rfl, h2⟩
 | seq x y ihx ihy =>
  intro T E A H r hS hr;simp only [jv, aQ] at hr ⊢;obtain ⟨⟨e, T1, E1⟩, hx, hr⟩ := aG.1 hr;obtain ⟨⟨e', A1, H1⟩, h1, h2⟩ := ihx hS hx;have he : e = e' := h2.e;subst he;rw [h1];simp only [bG]
  cases e with
  | normal => exact ihy h2.st hr
  | exit i => cases hr; exact ⟨_, rfl, h2⟩
  | ret => cases hr; exact ⟨_, rfl, h2⟩
 | cond b x y ihx ihy =>
  intro T E A H r hS hr;simp only [jv, aQ] at hr ⊢
  split at hr
  ·rename_i hok
   rw [hS.er.ev hG hok]
   split at hr
   ·rename_i e; rw [e]; simp only [Qs]; exact ihx hS hr
   ·rename_i e; rw [e]; simp only [Qs]; exact ihy hS hr
   ·cases hr
  ·cases hr
 | block id x ih =>
  intro T E A H r hS hr;simp only [jv, aQ] at hr ⊢;obtain ⟨⟨e, T1, E1⟩, hx, hr⟩ := bf.1 hr;obtain ⟨⟨e', A1, H1⟩, h1, h2⟩ := ih hS hx;have he : e = e' := h2.e;subst he;rw [h1];subst hr
  cases e with
  | normal => exact ⟨_, rfl, h2⟩
  | exit i =>
   simp only [e6]
   by_cases hi : i = id
   ·rw [if_pos hi, if_pos hi]; exact ⟨_, rfl, rfl, h2.st⟩
   ·rw [if_neg hi, if_neg hi]; exact ⟨_, rfl, h2⟩
  | ret => exact ⟨_, rfl, h2⟩
 | loop x ih =>
  intro T E A H r hS hr;simp only [jv, aQ] at hr ⊢
  suffices key : ∀ n T E A H, St g d m F (T, E) (A, H) → Qx (jv P G c N m x) n T E = some r → ∃ r', fi (aQ P G c' x) n A H = some r' ∧ Ar g d m F r r' from by
   obtain ⟨r', h1, h2⟩ := key N T E A H hS hr;exact ⟨r', dd.2 ⟨N, h1⟩, h2⟩
  clear hr hS
  intro n
  induction n with
  | zero => intro T E A H hS hr; cases hr
  | succ n ihn =>
   intro T E A H hS hr;simp only [Qx, fi] at hr ⊢;obtain ⟨⟨e, T1, E1⟩, hx, hr⟩ := aG.1 hr;obtain ⟨⟨e', A1, H1⟩, h1, h2⟩ := ih hS hx;have he : e = e' := h2.e;subst he;rw [h1];simp only [bG]
   cases e with
   | normal => exact ihn _ _ _ _ h2.st hr
   | exit i => cases hr; exact ⟨_, rfl, h2⟩
   | ret => cases hr; exact ⟨_, rfl, h2⟩
 | skip => intro T E A H r hS hr; simp only [jv] at hr; cases hr; exact ⟨_, rfl, rfl, hS⟩
 | label l => intro T E A H r hS hr; simp only [jv] at hr; cases hr; exact ⟨_, rfl, rfl, hS⟩
 | exit i => intro T E A H r hS hr; simp only [jv] at hr; cases hr; exact ⟨_, rfl, rfl, hS⟩
 | ret => intro T E A H r hS hr; simp only [jv] at hr; cases hr; exact ⟨_, rfl, rfl, hS⟩
 | _ => intro T E A H r hS hr; cases hr
theorem M5 {T : Tr Value} {E : EH} {A : List Value} {H : AH} (hS : St g d m F (T, E) (A, H)) (r : ResultVar) : lg P A H r = (wz P T E r).map (bO g d) := by
 cases r with
 | tmp t => simp only [lg, wz, e6]; rw [hS.er.get t]
 | cell a t =>
  simp only [lg, wz];rw [hS.er.get a]
  cases fL P t with
  | none => rfl
  | some n => cases n with
   | none => exact hS.hr.ld1 _
   | some n => exact hS.hr.ldN _ _
theorem XE {T : Tr Value} {E : EH} {A : List Value} {H : AH} (hS : St g d m F (T, E) (A, H)) : ∀ rs : List ResultVar, sG P A H rs = (Fu P T E rs).map (g7 g d) := by
 intro rs
 induction rs with
 | nil => rfl
 | cons r rs ih =>
  simp only [sG, Fu];rw [M5 hS, ih]
  cases wz P T E r with
  | none => rfl
  | some v => cases Fu P T E rs <;> rfl
theorem PG {rs : List ResultVar} {x : TR} {y : AR} (h : Ar g d m F x y) : eu g d F (Y0 P rs x) (UL P rs y) := by
 intro v E' hx;obtain ⟨e, T, E⟩ := x;obtain ⟨e', A, H⟩ := y;have he : e = e' := h.e;subst he;have hS := h.st;have hm := XE (P := P) hS rs
 have key : ∀ vs, Fu P T E rs = some vs → i0 P A H rs = some ((bO g d) (match vs with | [v] => v | vs => .tuple vs.toArray)) := by
  intro vs hvs;unfold i0;rw [hm, hvs];simp only [e6]
  congr 1
  match vs with
  | [] => simp [g7]
  | [v] => rfl
  | v :: w :: vs => simp [g7]
 cases e with
 | exit i => cases hx
 | normal =>
  simp only [Y0, UL] at hx ⊢;obtain ⟨vs, hvs, e⟩ := bf.1 hx;cases e;rw [key vs hvs];exact ⟨H, rfl, hS.hr⟩
 | ret =>
  simp only [Y0, UL] at hx ⊢;obtain ⟨vs, hvs, e⟩ := bf.1 hx;cases e;rw [key vs hvs];exact ⟨H, rfl, hS.hr⟩
theorem Xr : ∀ (vs : List Value) (i : Nat) (T : Tr Value) {T' : Tr Value}, Ke vs i T = some T' → ∀ t, Dk T' t = if i ≤ t ∧ t < i + vs.length then (vs[t - i]?).getD undef else Dk T t := by
 intro vs
 induction vs with
 | nil => intro i T T' h t; simp only [Ke] at h; cases h; rw [if_neg (by simp only [List.length_nil]; omega)]
 | cons v vs ih =>
  intro i T T' h t;simp only [Ke] at h;obtain ⟨T1, h1, h⟩ := aG.1 h;rw [ih _ _ h t, Kd h1]
  by_cases e1 : i + 1 ≤ t ∧ t < i + 1 + vs.length
  ·rw [if_pos e1, if_pos (by simp; omega)]
   rw [show t - i = (t - (i + 1)) + 1 from by omega, List.getElem?_cons_succ]
  ·rw [if_neg e1]
   by_cases e2 : t = i
   ·subst e2; rw [if_pos rfl, if_pos (by simp)]; simp
   ·rw [if_neg e2, if_neg (by simp; omega)]
theorem U6 {D : List Nat} (hG : ∀ b ∈ G, b < g) (hD : ∀ k ∈ D, uk P k) : ∀ k, ru g d F (Ft P G D N k) (fK P G k) := by
 intro k
 induction k with
 | zero => intro E H f args hR v E' h; cases h
 | succ k ih =>
  intro E H f args hR v E' h;rw [Ft] at h;rw [fK];simp only [] at h ⊢
  cases hf : P.funcs[f]? with
  | none => rw [hf] at h; cases h
  | some fn =>
   rw [hf] at h;simp only at h ⊢
   split at h
   ·cases h
   ·rename_i hn
    rw [if_neg hn]
    cases hb : fn.body with
    | none => rw [hb] at h; cases h
    | some c =>
     rw [hb] at h;simp only at h ⊢
     split at h
     ·rename_i hle
      have hle := Nat.le_of_ble_eq_true hle;obtain ⟨T, hT, h⟩ := aG.1 h
      have hS : St g d fn.ntmps F (T, E) (g7 g d args ++ List.replicate (fn.ntmps - (g7 g d args).length) undef, H) := by
       refine ⟨⟨by simp; omega, fun t => ?_⟩, hR⟩;rw [Xr _ _ _ hT];simp only [g7, List.getElem?_append, sn, xj, List.getElem?_replicate]
       by_cases e : t < args.length
       ·rw [if_pos (show 0 ≤ t ∧ t < 0 + args.length from by omega), if_pos e]
        simp [cA e]
       ·rw [if_neg (show ¬ (0 ≤ t ∧ t < 0 + args.length) from by omega), if_neg e]
        have : Dk .lf t = undef := rfl;rw [this, q9]
        split <;> rfl
      cases hd : kI c with
      | none =>
       rw [hd] at h;obtain ⟨r, hr, h⟩ := aG.1 h;obtain ⟨r', h1, h2⟩ := IS hG ih c hS hr;simp only;unfold pd;rw [h1];exact PG h2 v E' h
      | some q =>
       rw [hd] at h;simp only at h ⊢
       split at h
       ·rename_i hin
        rw [ko (hD _ (by simpa using hin))];unfold YZ at h;unfold oC;obtain ⟨⟨e1, T1, E1⟩, hr, h⟩ := aG.1 h;obtain ⟨⟨e2, A1, H1⟩, h1, h2⟩ := IS hG ih q.c1 hS hr;have he : e1 = e2 := h2.e;subst he;rw [h1];simp only [bG]
        cases e1 with
        | exit i => cases h
        | ret => cases h
        | normal =>
         simp only at h ⊢
         split at h
         ·rename_i hlt
          have hlt : q.t < fn.ntmps := Nat.le_of_ble_eq_true hlt;have hlen : A1.length = fn.ntmps := h2.st.er.len;rw [if_neg (by omega)];obtain ⟨⟨T2, E2⟩, h3, h⟩ := aG.1 h;obtain ⟨⟨A2, H2⟩, h4, h5⟩ := Ka hG ih h2.st h3;obtain ⟨z, h6, h⟩ := aG.1 h;obtain ⟨⟨⟨A3, H3⟩, h7, h8⟩, _⟩ := Hn hG ih _ h5 h6;rw [h4];simp only [bG];rw [h7];exact PG (x := (.normal, z.2.1, z.2.2)) (y := (.normal, A3, H3)) ⟨rfl, h8⟩ v E' h
         ·cases h
       ·cases h
     ·cases h
end
def XX (tab : List Value) : Option (Value × EH) → Bool
 | some (.bool true, E) => match E.get 0 with
  | some (.cells true cs) => DO (Z3 0) cs tab
  | _ => false
 | _ => false
def Kf (tab : List Value) : EH := ⟨1, .nd (some (.cells true tab)) .lf .lf⟩
theorem K6 {P : Program} {D : List Nat} {N k f : Nat} {tab : List Value} (hD : ∀ k ∈ D, uk P k) (hl : tab.all dk = true) (h : XX tab (Ft P [0] D N k f [] (Kf tab)) = true)
 {H : AH} (hH : H.get 0 = some (.cells true tab)) : ∃ H', aF P [0] f [] H = some (.bool true, H') ∧ H.size ≤ H'.size ∧ ∀ i, i < H.size → H'.get i = H.get i := by
 obtain ⟨objs⟩ := H
 cases objs with
 | nil => cases hH
 | cons o F =>
  have ho : o = .cells true tab := by simpa [AH.get] using hH
  subst ho
  have hR : HR 1 F.length F (Kf tab) ⟨.cells true tab :: F⟩ := by
   refine ⟨rfl, bJ _, by simp [AH.size, Kf, Nat.add_comm], fun b => ?_, fun b hb => ?_, fun b h1 h2 => ?_⟩
   ·cases b with
    | zero =>
     have : z8 1 F.length 0 = 0 := rfl;rw [this];show some _ = some (AObj.cells true (g7 1 F.length tab));rw [wr hl]
    | succ b =>
     have e : z8 1 F.length (b + 1) = b + 1 + F.length := by simp [z8]
     have e2 : (Kf tab).get (b + 1) = none := by
      simp only [EH.get, Kf, Tr.get]; split <;> rfl
     rw [e, e2];exact AH.get_none (by simp [AH.size]; omega)
   ·have : 1 ≤ b := hb
    obtain ⟨b, rfl⟩ : ∃ c, b = c + 1 := ⟨b - 1, by omega⟩
    simp only [EH.get, Kf, Tr.get]; split <;> rfl
   ·obtain ⟨b, rfl⟩ : ∃ c, b = c + 1 := ⟨b - 1, by omega⟩
    simp [AH.get]
  unfold XX at h
  split at h
  ·rename_i E' hE
   obtain ⟨H', h1, h2⟩ := U6 (F := F) (N := N) (P := P) (by simp) hD k (Kf tab) _ f [] hR _ _ hE;refine ⟨H', ?_, ?_, fun i hi => ?_⟩
   ·have := ND k _ _ _ _ h1
    simpa using this
   ·rw [h2.size]
    have := h2.le;simp [AH.size]; omega
   ·split at h
    ·rename_i cs hcs
     have he : cs = tab := By (Et 0) _ _ h;subst he
     cases i with
     | zero =>
      have := h2.get 0;rw [show z8 1 F.length 0 = 0 from rfl, hcs] at this;rw [this];show some (AObj.cells true (g7 1 F.length cs)) = _;rw [wr hl]; rfl
     | succ i =>
      have hi : i < F.length := by simpa [AH.size] using hi
      rw [h2.fr (i + 1) (by omega) (by omega)];simp [AH.get]
    ·cases h
  ·cases h
section
variable {P : Program} {w : World} {ev : Operand → Value} {d : Option Tmp} {x : Operand} {v a b : Value} {y : TypeId} {p : String} {e : Array Edge} {gd : Option (Nat × Bool)}
end
def tabC : List Value := [0,1,56,2,57,49,28,3,61,58,42,50,38,29,17,4,62,47,59,36,45,43,51,22,53,39,33,30,24,18,12,5,63,55,48,27,60,41,37,16,46,35,44,21,52,32,23,11,54,26,40,15,34,20,31,10,25,14,19,9,13,8,7,6].map fun n => .int .u8 n
theorem IE : XX tabC (Ft Tryz.prog [0] [] 100000 60 11 [] (Kf tabC)) = true := by decide +kernel
theorem ae.keeps {P : SP} {H H' : AH} (h : ae P H) (k : ∀ i, i < H.size → H'.get i = H.get i) : ae P H' := by
 obtain ⟨x, hx, hg⟩ := h
 exact ⟨x, hx, fun i o hi => by
  have := hg i o hi
  rw [k i (AH.lt_of_get this)]; exact this⟩
theorem UP {H0 : AH} (hT : H0.get 0 = some (.cells true tabC)) : Hs (fix H0) 0 (.cells true tabC) := ⟨fun h => (Fx.refl H0).fx h 0 _ hT⟩
theorem QZ {H0 : AH} {v : Value} {l : List Int} (h : Abs H0 (.slice (.int .i64)) l [v]) : Rd (fix H0) v 1 fp l :=
 Rd.arg (t := .int .i64) (enc := fp) (E := inferInstanceAs (Enc fp 1)) (fun x c h => h.1) h
abbrev ITy : Ty := .int .i64
abbrev CfgTy : Ty := .pair ITy (.pair ITy (.pair ITy (.pair ITy (.pair (.int .u64) .unit))))
abbrev ClTy : Ty := .pair ITy (.pair ITy (.pair ITy (.pair ITy .unit)))
def Y3 (x : ClTy.I) : Cl := ⟨x.1, x.2.1, x.2.2.1, x.2.2.2.1⟩
theorem aeA {H : AH} {x : ClTy.I} {cs : List Value} (h : Abs H ClTy x cs) : cs = Cl.cells (Y3 x) := by
 obtain ⟨c1, c2, rfl, h1, c3, c4, rfl, h2, c5, c6, rfl, h3, c7, c8, rfl, h4, h5⟩ := h;have h5 : c8 = [] := h5;rw [h1.1, h2.1, h3.1, h4.1, h5]
 rfl
theorem ZV {H : AH} {x : CfgTy.I} {cs : List Value} (h : Abs H CfgTy x cs) : ∃ c : iX, cs = iX.cells c := by
 obtain ⟨c1, c2, rfl, h1, c3, c4, rfl, h2, c5, c6, rfl, h3, c7, c8, rfl, h4, c9, c10, rfl, h5, h6⟩ := h;have h6 : c10 = [] := h6;obtain ⟨e5, hw⟩ := h5
 have : 0 ≤ x.2.2.2.2.1 ∧ x.2.2.2.2.1 ≤ 18446744073709551615 := by simpa [Lit.wf, IntKind.has, IntKind.min, IntKind.max, IntKind.bits, IntKind.signed] using hw
 refine ⟨⟨x.1, x.2.1, x.2.2.1, x.2.2.2.1, x.2.2.2.2.1.toNat⟩, ?_⟩;rw [h1.1, h2.1, h3.1, h4.1, e5, h6];show _ = [vi x.1, vi x.2.1, vi x.2.2.1, vi x.2.2.2.1, .int .u64 ((x.2.2.2.2.1.toNat : Nat) : Int)];rw [Int.toNat_of_nonneg this.1]
 rfl
theorem KS {H0 : AH} {v : Value} {l : List ClTy.I} (h : Abs H0 (.slice ClTy) l [v]) : Rd (fix H0) v 4 Cl.cells (l.map Y3) := by
 have E : Enc (fun x : ClTy.I => Cl.cells (Y3 x)) ClTy.w := ⟨fun _ => rfl, fun _ => rfl, by decide⟩;have r := Rd.arg (t := ClTy) (enc := fun x => Cl.cells (Y3 x)) (E := E) (fun x c hx => aeA hx) h;refine ⟨fun {H} hh => ?_⟩;have := r.rd hh;rw [List.flatMap_map, sn];exact this
theorem Uh {P : SP} {H : AH} {k : Value × AH → OV} {Q : Value → AH → Prop} (h : ae P H) [i : Hs P 0 (.cells true tabC)] (hk : ∀ H', ae P H' → wp (k (vb true, H')) Q) : wp ((FF qC [] H).bind k) Q := by
 obtain ⟨H', e, _, hg⟩ := K6 (D := []) (fun j hj => by cases hj) (by decide) IE (i.get h);have e' : FF qC [] H = some (vb true, H') := e;rw [e'];exact hk H' (h.keeps hg)
structure New (σ : aY) (k : Nat) : Prop where
 si : SI σ k
 js : ∀ l, l.1 ≠ 10 → σ.μ.V l = 0
theorem Fq {flow : Int} {obj : Nat} (h : obj < 4294967296) : dG flow obj % 4294967296 = obj := by
 unfold dG;omega
theorem New.lay {σ : aY} {k : Nat} (h : New σ k) (ho : σ.obs.length < 90) (f w most : Int) (hf : 0 ≤ f ∧ f < 1000) : New (σ.lay f w most) (k + 4) := by
 obtain ⟨⟨c, N, E, pts, V, obs, cells, slot, head⟩, js⟩ := h;obtain ⟨q1, q2, q3⟩ := rZ most
 have hsl : dG f σ.obs.length < 18446744073709551616 := by unfold dG; omega
 have hlen : (σ.lay f w most).obs.length = σ.obs.length + 1 := by simp [aY.lay, aY.make]
 refine ⟨⟨c, by simp [aY.lay, aY.make]; omega, by simp [aY.lay, aY.make]; omega, by simp [aY.lay, aY.make]; omega, fun l => ?_, by rw [hlen]; omega, fun o ho2 => ?_, fun s i => ?_, fun o => ?_⟩, fun l hl => ?_⟩
 ·show (if l = (10, f.tmod σ.c.sh, f.tdiv σ.c.sh) then dG f σ.obs.length else σ.μ.V l) < _
  split
  ·exact hsl
  ·exact V l
 ·rw [hlen] at ho2
  unfold aA;show 1 ≤ ((((σ.obs ++ [_])[o]?).map _).getD []).length ∧ ((((σ.obs ++ [_])[o]?).map _).getD []).length < 1000
  by_cases e : o < σ.obs.length
  ·rw [List.getElem?_append_left e]
   exact cells o e
  ·rw [show o = σ.obs.length from by omega, List.getElem?_append_right (bJ _), Nat.sub_self]
   show 1 ≤ (List.replicate (eb most) It).length ∧ (List.replicate (eb most) It).length < 1000;rw [List.length_replicate];omega
 ·rw [hlen]
  show (if (10, s, i) = ((10 : Int), f.tmod σ.c.sh, f.tdiv σ.c.sh) then dG f σ.obs.length else σ.μ.V (10, s, i)) ≠ 0 → (if (10, s, i) = ((10 : Int), f.tmod σ.c.sh, f.tdiv σ.c.sh) then dG f σ.obs.length else σ.μ.V (10, s, i)) % 4294967296 < _
  split
  ·intro _
   rw [Fq (by omega)];omega
  ·intro hv
   have := slot s i hv;omega
 ·show (if ((12 : Int), (o : Int), (0 : Int)) = (10, f.tmod σ.c.sh, f.tdiv σ.c.sh) then dG f σ.obs.length else σ.μ.V (12, o, 0)) ≤ _
  rw [if_neg (by simp)];have := head o;omega
 ·show (if l = (10, f.tmod σ.c.sh, f.tdiv σ.c.sh) then dG f σ.obs.length else σ.μ.V l) = 0
  rw [if_neg (fun e => hl (by rw [e]))];exact js l hl
theorem XC (c : iX) (hc : cJ c = true) : ∀ n, n ≤ 16 → New (aY.made c n) (4 * n) := by
 intro n
 induction n with
 | zero =>
  intro _;exact ⟨⟨hc, bJ _, bJ _, bJ _, fun _ => (by show (0 : Nat) < _; omega), (by show (0 : Nat) ≤ _; omega), fun o ho => (by cases ho), fun s i h => absurd rfl h, fun o => bJ _⟩, fun _ _ => rfl⟩
 | succ n ih =>
  intro hn;have h := ih (by omega);have hm := (XB c n).2.2;unfold aY.made
  split
  ·exact h.lay (by omega) _ _ _ (by omega)
  ·exact ⟨h.si.mono (by omega), h.js⟩
abbrev aY.bump (σ : aY) (n : Nat) : aY := { σ with μ := { σ.μ with N := σ.μ.N + n } }
theorem SI.bump {σ : aY} {k : Nat} (h : SI σ k) (n : Nat) : SI (σ.bump n) (k + n) :=
 ⟨h.c, by have := h.N; show σ.μ.N + n ≤ _; omega, d8 h.E (by omega), d8 h.pts (by omega), h.V, d8 h.obs (by omega), h.cells, h.slot, fun o => d8 (h.head o) (by omega)⟩
theorem SI.clear {σ : aY} {k : Nat} (h : SI σ k) (s i : Int) : SI (σ.mem (σ.μ.put (10, s, i) 0)) k := by
 refine ⟨h.c, h.N, h.E, h.pts, fun x => ?_, h.obs, h.cells, fun s' i' => ?_, fun o => ?_⟩
 ·show (if x = (10, s, i) then 0 else σ.μ.V x) < _
  split
  ·omega
  ·exact h.V x
 ·show (if ((10 : Int), s', i') = (10, s, i) then 0 else σ.μ.V (10, s', i')) ≠ 0 → (if ((10 : Int), s', i') = (10, s, i) then 0 else σ.μ.V (10, s', i')) % _ < _
  split
  ·intro h; exact absurd rfl h
  ·exact h.slot s' i'
 ·show (if ((12 : Int), (o : Int), (0 : Int)) = (10, s, i) then 0 else σ.μ.V (12, o, 0)) ≤ _
  rw [if_neg (by simp)];exact h.head o
theorem Zk {α : Type} {P : SP} {H : AH} {s : Value} {enc : α → List Value} {l : List α} {i : Nat} {kk : IntKind} {v : Value} {Q : Value → AH → Prop} {k : Value → OV} (h : ae P H) [r : Rd P s 1 enc l] [E : Enc enc 1] (hi : i < l.length) (hv : enc l[i] = [v])
 (hk : ∀ a : Value, (∀ {P' : SP} {H' : AH}, ae P' H' → [Rd P' s 1 enc l] → aq a H' = some v) → wp (k a) Q) : wp (ad [.i 1 (.int kk (i : Int))] s k) Q := by
 obtain ⟨b, o, ro, row, rfl, h2, h3, h4⟩ := xS (s := s) (enc := enc) (l := l) h hi;rw [KP hi];refine hk (oy b (o + i * 1)) fun {P' H'} h' _ => ?_;obtain ⟨b', o', ro', row', e', h2', h3', h4'⟩ := xS (s := .slice (some ⟨b, o, none⟩) l.length 1) (enc := enc) (l := l) h' hi
 obtain ⟨rfl, rfl⟩ : b = b' ∧ o = o' := by simpa using e'
 have c := HV (enc := enc) (l := l) (g := 0) h4' hi (by omega);rw [hv] at c;simp only [aq, sq, dL, bG, h2'];exact c
section
variable (p x : Nat) (rp : List Nat) (σ : aY) (K : Nat)
theorem afF (who : Int) (hN : σ.μ.N < 800000) : Sp dW [vp p, vi who] (aX p rp σ) (fun _ : Unit => .tuple #[]) (fun _ => aX p rp (σ.mem (σ.μ.cnt who (2, 0, 0) 1))) := by
 intro R H h;obtain ⟨g, hrp, hg, h1⟩ := dt h;obtain ⟨y, H', e, h2⟩ := JI p g σ who hN R H h1;exact ⟨y, H', e, bz g hrp hg h2⟩
theorem afG (who : Int) (hN : σ.μ.N < 800000) : Sp fy [vp x, vi who] (aI x σ) (fun _ : Unit => .tuple #[]) (fun _ => aI x (σ.mem (σ.μ.cnt who (2, 0, 0) 1))) := by
 intro R H h;obtain ⟨g, hg, h1⟩ := dP h;obtain ⟨y, H', e, h2⟩ := Kz x g σ who hN R H h1;exact ⟨y, H', e, cH g ⟨hg.1, hg.2.1, d8 hg.2.2 (by simp)⟩ h2⟩
theorem yf {P : SP} {H : AH} {Q : Value → AH → Prop} {k : Value × AH → OV} {a b : Int} (h : ae P H) (h0 : 0 < b) (h1 : b < 9223372036854775808) (hk : ∀ H', ae P H' → wp (k (vi (d7 a b), H')) Q) : wp ((FF bw [vi a, vi b] H).bind k) Q := by
 refine af h (cV a b h0 h1) fun _ H1 h2 => ?_;exact hk H1 h2.to
end
theorem SI.slotput {σ : aY} {k : Nat} (h : SI σ k) (s i f : Int) (o : Nat) (hf : 0 ≤ f ∧ f ≤ 1048576) (ho : o < σ.obs.length) (hk : k < 400000) : SI (σ.mem (σ.μ.put (10, s, i) (dG f o))) k := by
 have hob := h.obs
 have hsl : dG f o < 18446744073709551616 := by unfold dG; omega
 refine ⟨h.c, h.N, h.E, h.pts, fun x => ?_, h.obs, h.cells, fun s' i' => ?_, fun o' => ?_⟩
 ·show (if x = (10, s, i) then dG f o else σ.μ.V x) < _
  split
  ·exact hsl
  ·exact h.V x
 ·show (if ((10 : Int), s', i') = (10, s, i) then dG f o else σ.μ.V (10, s', i')) ≠ 0 → (if ((10 : Int), s', i') = (10, s, i) then dG f o else σ.μ.V (10, s', i')) % _ < _
  split
  ·intro _
   rw [Fq (by omega)];exact ho
  ·exact h.slot s' i'
 ·show (if ((12 : Int), (o' : Int), (0 : Int)) = (10, s, i) then dG f o else σ.μ.V (12, o', 0)) ≤ _
  rw [if_neg (by simp)];exact h.head o'
theorem SI.make {σ : aY} {k : Nat} (h : SI σ k) (who : Int) (o : Ob) : SI (σ.make who o) (k + 3) := by
 obtain ⟨c, N, E, pts, V, obs, cells, slot, head⟩ := h;obtain ⟨q1, q2, q3⟩ := rZ o.most
 have hlen : (σ.make who o).obs.length = σ.obs.length + 1 := by simp [aY.make]
 refine ⟨c, by simp [aY.make]; omega, by simp [aY.make]; omega, by simp [aY.make]; omega, V, by rw [hlen]; omega, fun o' ho2 => ?_, fun s i hv => ?_, fun o' => ?_⟩
 ·rw [hlen] at ho2
  unfold aA;show 1 ≤ ((((σ.obs ++ [_])[o']?).map _).getD []).length ∧ ((((σ.obs ++ [_])[o']?).map _).getD []).length < 1000
  by_cases e : o' < σ.obs.length
  ·rw [List.getElem?_append_left e]
   exact cells o' e
  ·rw [show o' = σ.obs.length from by omega, List.getElem?_append_right (bJ _), Nat.sub_self]
   show 1 ≤ (List.replicate (eb o.most) It).length ∧ (List.replicate (eb o.most) It).length < 1000;rw [List.length_replicate];omega
 ·rw [hlen]
  have := slot s i hv;show σ.μ.V (10, s, i) % 4294967296 < _;omega
 ·have := head o'
  show σ.μ.V (12, o', 0) ≤ _;omega
structure KeptR (σ : aY) (t : Tk) (r : aY × Tk × Bool) (k : Nat) : Prop where
 si : SI r.1 (k + 3)
 c : r.1.c = σ.c
 obs : σ.obs.length ≤ r.1.obs.length
 ok : r.2.2 = false → lz r.1 r.2.1
 x : r.2.1.x = t.x
 who : r.2.1.who = t.who
section
variable {σ : aY} {t : Tk} {k : Nat}
theorem EV (h : SI σ k) (T : lz σ t) (hat : t.at' < 4) (hx : sA t.x = none) : KeptR σ t (eZ σ t) k := by
 have hs : SI (kS σ t) (k + 3) := (h.swp t.who (8, t.s, 0) 0 1 (by omega) (by simp) (by simp)).mono (by omega)
 by_cases hw : σ.μ.V (8, t.s, 0) = 0
 ·have e : eZ σ t = (kS σ t, { t with at' := 3 }, false) := by unfold eZ; rw [if_pos hw]
  rw [e];exact ⟨hs, rfl, bJ _, fun _ => ⟨T.s, fun _ => T.i hat, fun _ => hx, .inr (.inr (.inl rfl)), by simp, by simp, T.w⟩, rfl, rfl⟩
 ·have e : eZ σ t = (kS σ t, { t with at' := 2 }, false) := by unfold eZ; rw [if_neg hw]
  rw [e];exact ⟨hs, rfl, bJ _, fun _ => ⟨T.s, fun _ => T.i hat, fun _ => hx, .inr (.inl rfl), by simp, by simp, T.w⟩, rfl, rfl⟩
theorem Km (h : SI σ k) : SI (iE σ t) (k + 3) := ((h.acc t.who 2 (8, t.s, 0)).put (8, t.s, 0) 0 (by omega) (by simp) (.inl (by simp))).mono (by omega)
theorem M7 (h : SI σ k) (T : lz σ t) (now : Int) (hat : t.at' = 3) : KeptR σ t (ax σ t now) k := by
 have hc := bF.1 h.c;have hx : sA t.x = none := T.x (by omega);have hi := T.i (by omega);have ha : SI (aV σ t) (k + 2) := h.acc t.who 1 (10, t.s, (t.i : Int));have hn : ∀ code, SI ((aV σ t).note now t.who code) (k + 3) := fun code => ha.note now t.who code
 by_cases hfd : (aB σ t).found = true
 ·by_cases ho : t.x.op = 1
  ·have e : ax σ t now = ((aV σ t).note now t.who 6, { aB σ t with at' := 6, code := 6 }, false) := by simp only [ax, hat]; rw [if_pos hfd, if_pos ho]
   rw [e];exact ⟨hn 6, rfl, bJ _, fun _ => ⟨T.s, by simp, fun _ => hx, .inr (.inr (.inr (.inl ⟨by simp, by simp⟩))), by simp, fun hh => by simp [aB, ho] at hh, T.w⟩, rfl, rfl⟩
  ·have e : ax σ t now = (aV σ t, { aB σ t with at' := 4 }, false) := by simp only [ax, hat]; rw [if_pos hfd, if_neg ho]
   have hob : (aB σ t).obj < σ.obs.length := by
    show (if (aB σ t).found = true then σ.μ.V (10, t.s, (t.i : Int)) % 4294967296 else t.obj) < _;rw [if_pos hfd];refine h.slot t.s t.i fun h0 => ?_;have : qp (σ.μ.V (10, t.s, (t.i : Int))) t.x.flow = true := hfd;rw [h0] at this;cases this
   rw [e];exact ⟨ha.mono (by omega), rfl, bJ _, fun _ => ⟨T.s, by simp, fun _ => hx, .inr (.inr (.inr (.inl ⟨by simp, by simp⟩))), fun _ hh => absurd hh ho, fun _ => hob, T.w⟩, rfl, rfl⟩
 ·have hli : (aB σ t).i = t.i + 1 := by
   show (if (aB σ t).found = true then t.i else t.i + 1) = _;rw [if_neg hfd]
  by_cases hla : cr σ (aB σ t) = true
  ·by_cases ho : t.x.op = 1
   ·by_cases hm : (aB σ t).mark < 0
    ·have e : ax σ t now = ((aV σ t).note now t.who 7, { aB σ t with at' := 6, code := 7 }, false) := by simp only [ax, hat]; rw [if_neg hfd, if_pos hla, if_pos ho, if_pos hm]
     rw [e];exact ⟨hn 7, rfl, bJ _, fun _ => ⟨T.s, by simp, fun _ => hx, .inr (.inr (.inr (.inl ⟨by simp, by simp⟩))), by simp, fun hh => by simp [aB, ho] at hh, T.w⟩, rfl, rfl⟩
    ·have e : ax σ t now = (aV σ t, { aB σ t with at' := 4 }, false) := by simp only [ax, hat]; rw [if_neg hfd, if_pos hla, if_pos ho, if_neg hm]
     rw [e];exact ⟨ha.mono (by omega), rfl, bJ _, fun _ => ⟨T.s, by simp, fun _ => hx, .inr (.inr (.inr (.inl ⟨by simp, by simp⟩))), fun _ _ => by show 0 ≤ (aB σ t).mark; omega, fun hh => by simp [aB, ho] at hh, T.w⟩, rfl, rfl⟩
   ·have e : ax σ t now = ((aV σ t).note now t.who 5, { aB σ t with at' := 10, code := 5 }, false) := by simp only [ax, hat]; rw [if_neg hfd, if_pos hla, if_neg ho]
    rw [e];exact ⟨hn 5, rfl, bJ _, fun _ => ⟨T.s, by simp, fun _ => hx, .inr (.inr (.inr (.inr ⟨ho, by simp, by simp⟩))), by simp, by simp, T.w⟩, rfl, rfl⟩
  ·have e : ax σ t now = (aV σ t, aB σ t, false) := by simp only [ax, hat]; rw [if_neg hfd, if_neg hla]
   have hil : ((aB σ t).i : Int) < σ.c.sl := by
    have hla2 : cr σ (aB σ t) = decide (σ.c.sl ≤ ((aB σ t).i : Int)) := rfl;rw [hla2] at hla;have := of_decide_eq_false (by simpa using hla : decide (σ.c.sl ≤ ((aB σ t).i : Int)) = false);omega
   have hat' : (aB σ t).at' = 3 := hat;rw [e];exact ⟨ha.mono (by omega), rfl, bJ _, fun _ => ⟨T.s, fun _ => hil, fun _ => hx, .inr (.inr (.inl hat')), by show (aB σ t).at' = 4 ∨ (aB σ t).at' = 5 → _; omega, by show (aB σ t).at' = 5 ∧ _ ∨ 4 ≤ (aB σ t).at' ∧ _ → _; omega, T.w⟩, rfl, rfl⟩
theorem Df (now : Int) (hk : k < 300000) (h : SI σ k) (T : lz σ t) : KeptR σ t (ax σ t now) k := by
 rcases T.ats with hat | hat | hat | hat | hat
 ·cases hx : sA t.x with
  | some e =>
   have hs : ax σ t now = (σ.note now t.who e, { t with code := e }, true) := by simp only [ax, hat, hx]
   rw [hs];exact ⟨(h.note now t.who e).mono (by omega), rfl, bJ _, (fun h => by cases h), rfl, rfl⟩
  | none =>
   have hs : ax σ t now = eZ σ t := by simp only [ax, hat, hx]
   rw [hs];exact EV h T (by omega) hx
 ·have hs : ax σ t now = eZ σ t := by simp only [ax, hat]
  rw [hs];exact EV h T (by omega) (T.x (by omega))
 ·exact M7 h T now hat
 all_goals
  have hx : sA t.x = none := T.x (by omega);have hx2 := wa hx
  have fin : ax σ t now = (iE σ t, t, true) → KeptR σ t (ax σ t now) k := fun hs => by
   rw [hs];exact ⟨Km h, rfl, bJ _, (fun h => by cases h), rfl, rfl⟩
  by_cases ho : t.x.op = 1
  ·by_cases h4 : t.at' = 4
   ·have hst : ax σ t now = (σ.make t.who (XV σ t), { t with obj := σ.obs.length, at' := 5 }, false) := by rw [lr σ t now ho (by omega)]; simp only [zY, h4]
    rw [hst];exact ⟨h.make t.who (XV σ t), rfl, by simp [aY.make], fun _ => ⟨T.s, by simp, fun _ => hx, .inr (.inr (.inr (.inl ⟨by simp, by simp⟩))), fun _ _ => T.mark (.inl h4) ho, fun _ => by simp [aY.make], T.w⟩, rfl, rfl⟩
   by_cases h5 : t.at' = 5
   ·have hst : ax σ t now = ((σ.mem ((σ.μ.acc t.who 2 (10, t.s, t.mark)).put (10, t.s, t.mark) (dG t.x.flow t.obj))).note now t.who 0, { t with at' := 6, code := 0 }, false) := by rw [lr σ t now ho (by omega)]; simp only [zY, h5]
    rw [hst];have hob := T.obj (.inl ⟨h5, ho⟩);exact ⟨((h.acc t.who 2 (10, t.s, t.mark)).slotput t.s t.mark t.x.flow t.obj hx2.1 hob (by omega)).note now t.who 0, rfl, bJ _, fun _ => ⟨T.s, by simp, fun _ => hx, .inr (.inr (.inr (.inl ⟨by simp, by simp⟩))), by simp, fun hh => by simp [ho] at hh, T.w⟩, rfl, rfl⟩
   have h6 : t.at' = 6 := by omega
   exact fin (by rw [lr σ t now ho (by omega)]; simp only [zY, h6])
  ·have hm : ∀ {u : Tk}, u.x = t.x → (u.at' = 4 ∨ u.at' = 5 → u.x.op = 1 → 0 ≤ u.mark) := fun e _ hh => absurd (by rw [← e]; exact hh) ho
   by_cases h4 : t.at' = 4
   ·have hob := T.obj (.inr ⟨by omega, by omega, ho⟩)
    have hS : SI (cY σ t) (k + 3) := (h.acc t.who 1 (11, (t.obj : Int), 0)).mono (by omega)
    by_cases hw : bv (σ.μ.V (11, (t.obj : Int), 0)) = 0
    ·have hst : ax σ t now = (cY σ t, { t with w := σ.μ.V (11, (t.obj : Int), 0), at' := 8 }, false) := by rw [bM σ t now ho (by omega)]; simp only [fN, h4]; rw [if_pos hw]
     rw [hst];exact ⟨hS, rfl, bJ _, fun _ => ⟨T.s, by simp, fun _ => hx, .inr (.inr (.inr (.inr ⟨ho, by simp, by simp⟩))), hm rfl, fun _ => hob, h.V _⟩, rfl, rfl⟩
    ·have hst : ax σ t now = (cY σ t, { t with w := σ.μ.V (11, (t.obj : Int), 0), at' := 5 }, false) := by rw [bM σ t now ho (by omega)]; simp only [fN, h4]; rw [if_neg hw]
     rw [hst];exact ⟨hS, rfl, bJ _, fun _ => ⟨T.s, by simp, fun _ => hx, .inr (.inr (.inr (.inl ⟨by simp, by simp⟩))), hm rfl, fun _ => hob, h.V _⟩, rfl, rfl⟩
   by_cases h5 : t.at' = 5
   ·have hob := T.obj (.inr ⟨by omega, by omega, ho⟩)
    have hS : SI (ed σ t) (k + 3) := (h.acc t.who 1 (2, 0, 0)).mono (by omega)
    by_cases hw : σ.μ.V (2, 0, 0) % 2 = 1
    ·have hst : ax σ t now = (ed σ t, { t with q := σ.μ.V (2, 0, 0), at' := 4 }, false) := by rw [bM σ t now ho (by omega)]; simp only [fN, h5]; rw [if_pos hw]
     rw [hst];exact ⟨hS, rfl, bJ _, fun _ => ⟨T.s, by simp, fun _ => hx, .inr (.inr (.inr (.inl ⟨by simp, by simp⟩))), hm rfl, fun _ => hob, T.w⟩, rfl, rfl⟩
    ·have hst : ax σ t now = (ed σ t, { t with q := σ.μ.V (2, 0, 0), at' := 6 }, false) := by rw [bM σ t now ho (by omega)]; simp only [fN, h5]; rw [if_neg hw]
     rw [hst];exact ⟨hS, rfl, bJ _, fun _ => ⟨T.s, by simp, fun _ => hx, .inr (.inr (.inr (.inl ⟨by simp, by simp⟩))), hm rfl, fun _ => hob, T.w⟩, rfl, rfl⟩
   by_cases h6 : t.at' = 6
   ·have hob := T.obj (.inr ⟨by omega, by omega, ho⟩)
    have hS : SI (cY σ t) (k + 3) := (h.acc t.who 1 (11, (t.obj : Int), 0)).mono (by omega)
    by_cases hw : bv (σ.μ.V (11, (t.obj : Int), 0)) = 0
    ·have hst : ax σ t now = (cY σ t, { t with w := σ.μ.V (11, (t.obj : Int), 0), mark := now, at' := 8 }, false) := by rw [bM σ t now ho (by omega)]; simp only [fN, h6]; rw [if_pos hw]
     rw [hst];exact ⟨hS, rfl, bJ _, fun _ => ⟨T.s, by simp, fun _ => hx, .inr (.inr (.inr (.inr ⟨ho, by simp, by simp⟩))), hm rfl, fun _ => hob, h.V _⟩, rfl, rfl⟩
    ·have hst : ax σ t now = (cY σ t, { t with w := σ.μ.V (11, (t.obj : Int), 0), mark := now, at' := 7 }, false) := by rw [bM σ t now ho (by omega)]; simp only [fN, h6]; rw [if_neg hw]
     rw [hst];exact ⟨hS, rfl, bJ _, fun _ => ⟨T.s, by simp, fun _ => hx, .inr (.inr (.inr (.inr ⟨ho, by simp, by simp⟩))), hm rfl, fun _ => hob, h.V _⟩, rfl, rfl⟩
   by_cases h7 : t.at' = 7
   ·have hob := T.obj (.inr ⟨by omega, by omega, ho⟩)
    have hS : SI (ed σ t) (k + 2) := h.acc t.who 1 (2, 0, 0)
    by_cases hw : σ.μ.V (2, 0, 0) = t.q
    ·have hst : ax σ t now = ((ed σ t).note t.mark t.who 8, { t with at' := 10, code := 8 }, false) := by rw [bM σ t now ho (by omega)]; simp only [fN, h7]; rw [if_pos hw]
     rw [hst];exact ⟨hS.note t.mark t.who 8, rfl, bJ _, fun _ => ⟨T.s, by simp, fun _ => hx, .inr (.inr (.inr (.inr ⟨ho, by simp, by simp⟩))), hm rfl, by simp, T.w⟩, rfl, rfl⟩
    ·have hst : ax σ t now = (ed σ t, { t with at' := 4 }, false) := by rw [bM σ t now ho (by omega)]; simp only [fN, h7]; rw [if_neg hw]
     rw [hst];exact ⟨hS.mono (by omega), rfl, bJ _, fun _ => ⟨T.s, by simp, fun _ => hx, .inr (.inr (.inr (.inl ⟨by simp, by simp⟩))), hm rfl, fun _ => hob, T.w⟩, rfl, rfl⟩
   by_cases h8 : t.at' = 8
   ·have hob := T.obj (.inr ⟨by omega, by omega, ho⟩)
    have hS : SI (σ.mem (σ.μ.turn t.who t.obj t.w (aP t.w 2))) (k + 2) := h.turn t.who t.obj t.w 2;have hc : (σ.mem (σ.μ.turn t.who t.obj t.w (aP t.w 2))).c = σ.c := rfl
    cases hw : turned σ.μ t.obj t.w (aP t.w 2) with
    | true =>
     have hst : ax σ t now = ((σ.mem (σ.μ.turn t.who t.obj t.w (aP t.w 2))).note now t.who 0, { t with at' := 9, code := 0 }, false) := by rw [bM σ t now ho (by omega)]; simp only [fN, h8]; rw [if_pos hw]
     rw [hst];exact ⟨hS.note now t.who 0, rfl, bJ _, fun _ => ⟨T.s, by simp, fun _ => hx, .inr (.inr (.inr (.inr ⟨ho, by simp, by simp⟩))), hm rfl, fun _ => hob, T.w⟩, rfl, rfl⟩
    | false =>
     have hst : ax σ t now = (σ.mem (σ.μ.turn t.who t.obj t.w (aP t.w 2)), { t with at' := 4 }, false) := by rw [bM σ t now ho (by omega)]; simp only [fN, h8]; rw [if_neg (by rw [hw]; simp)]
     rw [hst];exact ⟨hS.mono (by omega), rfl, bJ _, fun _ => ⟨T.s, by simp, fun _ => hx, .inr (.inr (.inr (.inl ⟨by simp, by simp⟩))), hm rfl, fun _ => hob, T.w⟩, rfl, rfl⟩
   by_cases h9 : t.at' = 9
   ·have hst : ax σ t now = (σ.mem ((σ.μ.acc t.who 2 (10, t.s, (t.i : Int))).put (10, t.s, (t.i : Int)) 0), { t with at' := 10 }, false) := by rw [bM σ t now ho (by omega)]; simp only [fN, h9]
    rw [hst];exact ⟨((h.acc t.who 2 (10, t.s, (t.i : Int))).clear t.s t.i).mono (by omega), rfl, bJ _, fun _ => ⟨T.s, by simp, fun _ => hx, .inr (.inr (.inr (.inr ⟨ho, by simp, by simp⟩))), hm rfl, by simp, T.w⟩, rfl, rfl⟩
   have h10 : t.at' = 10 := by omega
   exact fin (by rw [bM σ t now ho (by omega)]; simp only [fN, h10])
end
theorem lz.new {σ : aY} (hc : cJ σ.c = true) (who : Int) (x : Cl) : lz σ (Tk.newR σ.c who x) := by
 have := bF.1 hc;exact ⟨rfl, fun _ => by simp; omega, by simp, .inl rfl, by simp, by simp, by simp⟩
theorem lz.mono {σ σ' : aY} {t : Tk} (T : lz σ t) (hc : σ'.c = σ.c) (ho : σ.obs.length ≤ σ'.obs.length) : lz σ' t :=
 ⟨by rw [hc]; exact T.s, by rw [hc]; exact T.i, T.x, T.ats, T.mark, fun h => Nat.lt_of_lt_of_le (T.obj h) ho, T.w⟩
theorem gX.mono' {σ σ' : aY} {t : Tk} (T : gX σ t) (hc : σ'.c = σ.c) (ho : σ.obs.length ≤ σ'.obs.length) : gX σ' t :=
 ⟨fun h => Nat.lt_of_lt_of_le (T.obj h) ho, by rw [hc]; exact T.s, by rw [hc]; exact T.i, T.w, T.c5, T.c0, T.ats⟩
theorem Qv (σ : aY) (t : Tk) (now : Int) : (am σ t now).2.1.x = t.x := by
 unfold am;dsimp only
 repeat' split
 all_goals rfl
theorem TX (σ : aY) (t : Tk) (now : Int) : (am σ t now).1.obs.length = σ.obs.length := by
 unfold am;dsimp only
 repeat' split
 all_goals first | rfl | exact ja σ t
def g9 (σ : aY) (t : Tk) (now : Int) : aY × Tk × Bool := if t.x.op = 3 then am σ t now else ax σ t now
def aT (e p : Nat) (rp : List Nat) (t : Tk) : SP := if t.x.op = 3 then eT e p rp t else rT e p rp t
def zT (xb x : Nat) (t : Tk) : SP := if t.x.op = 3 then xT xb x t else yT xb x t
def aU (e p : Nat) (rp : List Nat) (r : aY × Tk × Bool) : SP := if r.2.2 = true then emp else aT e p rp r.2.1
def zU (xb x : Nat) (r : aY × Tk × Bool) : SP := if r.2.1.x.op = 3 then xU xb x r else yU xb x r
structure Is (σ : aY) (t : Tk) : Prop where
 e : t.x.op = 3 → gX σ t
 r : t.x.op ≠ 3 → lz σ t
def Tk.newA (c : iX) (who : Int) (x : Cl) : Tk := if x.op = 3 then Tk.new c who x else Tk.newR c who x
abbrev Ue (op : Int) (e xb : Nat) : List Value := [if op = 3 then vp e else .pointer none, if op = 3 then .pointer none else vp e, vp xb]
theorem Y1 {op : Int} {e xb : Nat} (ho : op = 3) : Ue op e xb = [vp e, .pointer none, vp xb] := by simp [Ue, ho]
theorem Y2 {op : Int} {e xb : Nat} (ho : op ≠ 3) : Ue op e xb = [.pointer none, vp e, vp xb] := by simp [Ue, ho]
structure KeptA (σ : aY) (t : Tk) (r : aY × Tk × Bool) (k : Nat) : Prop where
 si : SI r.1 (k + 3)
 c : r.1.c = σ.c
 obs : σ.obs.length ≤ r.1.obs.length
 ok : r.2.2 = false → Is r.1 r.2.1
 x : r.2.1.x = t.x
theorem Ni {σ : aY} {t : Tk} {k : Nat} (now : Int) (hk : k < 300000) (h : SI σ k) (T : Is σ t) : KeptA σ t (g9 σ t now) k := by
 by_cases ho : t.x.op = 3
 ·rw [show g9 σ t now = am σ t now from if_pos ho]
  have K := T4 now hk h (T.e ho);have hx := Qv σ t now;exact ⟨K.si, K.c, Nat.le_of_eq (TX σ t now).symm, fun hf => ⟨fun _ => K.ok hf, fun hn => absurd (by rw [hx]; exact ho) hn⟩, hx⟩
 ·rw [show g9 σ t now = ax σ t now from if_neg ho]
  have K := Df now hk h (T.r ho);exact ⟨K.si, K.c, K.obs, fun hf => ⟨fun hn => absurd (by rw [K.x] at hn; exact hn) ho, fun _ => K.ok hf⟩, K.x⟩
theorem Is.new {σ : aY} (hc : cJ σ.c = true) (who : Int) (x : Cl) : Is σ (Tk.newA σ.c who x) := by
 by_cases ho : x.op = 3
 ·rw [show Tk.newA σ.c who x = Tk.new σ.c who x from if_pos ho]
  exact ⟨fun _ => gX.new hc who x, fun h => absurd ho h⟩
 ·rw [show Tk.newA σ.c who x = Tk.newR σ.c who x from if_neg ho]
  exact ⟨fun h => absurd h ho, fun _ => lz.new hc who x⟩
theorem Is.mono {σ σ' : aY} {t : Tk} (T : Is σ t) (hc : σ'.c = σ.c) (ho : σ.obs.length ≤ σ'.obs.length) : Is σ' t := ⟨fun h => (T.e h).mono' hc ho, fun h => (T.r h).mono hc ho⟩
theorem aeU (c : iX) (who : Int) (x : Cl) : (Tk.newA c who x).x = x := by unfold Tk.newA; split <;> rfl
theorem P5 {l l' : List Nat} (h : l <+: l') {i b : Nat} (e : l[i]? = some b) : l'[i]? = some b := by
 obtain ⟨s, rfl⟩ := h;rw [List.getElem?_append_left (DS.1 e).1];exact e
theorem ZN {e p : Nat} {rp rp' : List Nat} {t : Tk} {R : SP} {H : AH} (hp : rp <+: rp') (h : ae (aT e p rp t * R) H) : ae (aT e p rp' t * R) H := by
 unfold aT at h ⊢
 split
 ·rename_i ho
  rw [if_pos ho] at h;unfold eT at h ⊢;obtain ⟨v, h1⟩ := ae.ex.1 h;rw [aj, ae.pu] at h1;refine ae.ex.2 ⟨v, ?_⟩;rw [aj, ae.pu];exact ⟨fun h7 => by obtain ⟨b, e1, e2⟩ := h1.1 h7; exact ⟨b, P5 hp e1, e2⟩, h1.2⟩
 ·rename_i ho
  rw [if_neg ho] at h;unfold rT at h ⊢;obtain ⟨k, h1⟩ := ae.ex.1 h;rw [aj, ae.pu] at h1;refine ae.ex.2 ⟨k, ?_⟩;rw [aj, ae.pu];obtain ⟨⟨q1, q2, q3⟩, h2⟩ := h1;refine ⟨⟨q1, q2, fun hn => ?_⟩, h2⟩;obtain ⟨a1, a2⟩ := q3 hn;exact ⟨fun g1 g2 => by obtain ⟨c1, b, e1, e2⟩ := a1 g1 g2; exact ⟨c1, b, P5 hp e1, e2⟩, a2⟩
theorem Y4 (xb x : Nat) (t : Tk) (C : Xk → Prop) (d : Bool) (c : Int) (hC : d = true → ∀ k, C k → k.code = c) (c' : Int) (hc' : c' = if d = true then c else 0) :
 Sp oT [vp xb, vb d] (ex fun k : Xk => pu (C k) * xB xb x t k) (fun _ : Unit => .agg (gW c').toArray) (fun _ => ex fun k : Xk => pu (C k) * xB xb x t k) := by
 subst hc';refine aJ fun R H h => ?_;obtain ⟨k, h1⟩ := ae.ex.1 h;rw [aj, ae.pu] at h1;obtain ⟨hk, h1⟩ := h1;refine bm (fun r => Ju _ _ H) ?_;refine bp h1 fun b H2 h2 => ?_;have back : ∀ {H' : AH}, ae (xB xb x t k * R) H' → ae ((ex fun k : Xk => pu (C k) * xB xb x t k) * R) H' := fun h => ae.ex.2 ⟨k, by rw [aj]; exact ae.pu.2 ⟨hk, h⟩⟩;cases d
 ·refine gs ?_
  refine iW ?_;refine eW h2 rfl rfl fun H3 h3 => ?_;refine aW h3 ?_;exact ap ⟨(), rfl, back h3.to⟩
 ·refine gs ?_
  have hk2 := hC rfl k hk;refine QD h2 ac ?_;rw [hk2];refine eW h2 rfl rfl fun H3 h3 => ?_;refine aW h3 ?_;exact ap ⟨(), rfl, back h3.to⟩
theorem afE (xb x : Nat) (r : aY × Tk × Bool) : Sp oT [vp xb, vb r.2.2] (zU xb x r) (fun _ : Unit => .agg (gW (if r.2.2 = true then r.2.1.code else 0)).toArray) (fun _ => zU xb x r) := by
 unfold zU
 split
 ·exact Y4 xb x r.2.1 _ r.2.2 r.2.1.code (fun hd k hk => by rw [if_pos hd] at hk; exact hk) _ rfl
 ·exact Y4 xb x r.2.1 _ r.2.2 r.2.1.code (fun hd k hk => by rw [if_pos hd] at hk; exact hk) _ rfl
theorem aeG (d : Bool) : ak .bool .eql (vb d) (vb d) = some (vb true) := by cases d <;> rfl
section
variable (p x : Nat) (rp : List Nat)
theorem Fw {pb b6 b9 tb xb : Nat} {x0 x1 : Value} {c : Int} {σ : aY} {r : aY × Tk × Bool} {x7 x8 : Value} {R : SP} {H : AH} (hc : c = if r.2.2 = true then r.2.1.code else 0)
 (h : ae (blk tb (.cells false [x0, x1, vp xb]) * (blk pb (.cells false [vp p, vp x]) * (blk b6 (.cells false [vi 0, .slice none 0 0, vi 0, vw 0]) * (blk b9 (.cells false (gW c)) * (zU xb x r * (aX p rp σ * (aI x σ * R))))))) H) :
 wp (gH (vp tb) (vp pb) (vp b6) x7 x8 (vp b9) (vb r.2.2) (vb r.2.2) H) fun v' H' => v' = .tuple #[.agg (gW c).toArray, vb r.2.2, vb true] ∧ ae (zU xb x r * (aX p rp σ * (aI x σ * R))) H' := by
 refine ah (sm ..) ?_;refine aW h ?_;refine aa (aeG _) ?_;refine gs ?_;refine aW h ?_;refine gs ?_;refine ai h aD rfl ?_;refine gs ?_;refine af h (afE xb x r) fun _ H1 h1 => ?_;rw [← hc];refine dQ h1 h rfl ?_;refine dQ h1 h rfl ?_;refine gs ?_;refine af h1 (Xp c) fun _ H2 h2 => ?_;refine dQ h2 h rfl ?_;refine gs ?_;refine ai h2 aD rfl ?_;refine gs ?_;obtain ⟨g, hrp, hg, k1⟩ := dt (p := p) (rp := rp) (σ := σ) (R := aI x σ * (blk b9 (.cells false (gW c)) * (blk b6 (.cells false [vi 0, .slice none 0 0, vi 0, vw 0]) * (blk pb (.cells false [vp p, vp x]) * (zU xb x r * R))))) (H := H2) h2.to;obtain ⟨gx, hgx, l1⟩ := dP (p := x) (σ := σ) (R := az p g σ * (blk b9 (.cells false (gW c)) * (blk b6 (.cells false [vi 0, .slice none 0 0, vi 0, vw 0]) * (blk pb (.cells false [vp p, vp x]) * (zU xb x r * R))))) (H := H2) k1.to;obtain ⟨kv, vv, ev, Z, m1, back⟩ := Ti (x := x) (g := gx) (σ := σ) (R := az p g σ * (blk b9 (.cells false (gW c)) * (blk b6 (.cells false [vi 0, .slice none 0 0, vi 0, vw 0]) * (blk pb (.cells false [vp p, vp x]) * (zU xb x r * R))))) (H := H2) l1.to;refine gs ?_;refine ai m1 ac rfl ?_;refine gs ?_;have bl : Sp j3 [vp g.m] (az p g σ) (fun _ : Unit => vi σ.μ.E.length) (fun _ => az p g σ) := NB (p := p) (g := g) (σ := σ) (abI g.m σ.μ);refine af m1 bl fun _ H3 m2 => ?_;refine dQ m2 h rfl ?_;refine oz ?_;refine bA aD ?_;refine gs ?_;refine aN m2 rfl ?_;refine aH m1 m2 (by rfl) ?_;refine oz ?_;refine bA ac ?_;refine gs ?_;refine aN m2 rfl ?_;refine aH m1 m2 (by rfl) ?_;refine oz ?_;refine bA ac ?_;refine gs ?_;refine aN m2 rfl ?_;refine aH m1 m2 (by rfl) ?_;refine gs ?_;refine iF (s := ev) (l := σ.μ.E) m2 ?_;refine Fz ?_;refine gs ?_;refine aa (ba rfl) ?_;refine gs ?_;refine eW m2 rfl rfl fun H4 m4 => ?_;refine aH m4 m2 (by rfl) ?_;refine aH m4 m2 (by rfl) ?_;refine aH m4 m2 (by rfl) ?_;refine Fz ?_;refine aW m4 ?_;have m3 := back (R' := az p g σ * (zU xb x r * R)) (H' := H4) m4.to;have n4 := cH (p := x) (σ := σ) (R := az p g σ * (zU xb x r * R)) gx hgx m3;have n5 := bz (p := p) (rp := rp) (σ := σ) (R := aI x σ * (zU xb x r * R)) (H := H4) g hrp hg n4.to;exact ap ⟨rfl, n5.to⟩
theorem Ud (e xb : Nat) (σ : aY) (t : Tk) (now : Int) (K : Nat) (S : SI σ K) (hK : K < 290000) (T : Is σ t) :
 Sp kJ [.agg (Ue t.x.op e xb).toArray, .agg [vp p, vp x].toArray, vi now] (aT e p rp t * (aX p rp σ * (zT xb x t * aI x σ)))
  (fun _ : List Nat => .tuple #[.agg (gW (if (g9 σ t now).2.2 = true then (g9 σ t now).2.1.code else 0)).toArray, vb (g9 σ t now).2.2, vb true])
  (fun rp' => pu (rp <+: rp') * (aU e p rp' (g9 σ t now) * (zU xb x (g9 σ t now) * (aX p rp' (g9 σ t now).1 * aI x (g9 σ t now).1)))) := by
 refine aJ fun R H h => ?_
 by_cases ho : t.x.op = 3
 ·have hA : g9 σ t now = am σ t now := if_pos ho
  have hx3 : (am σ t now).2.1.x.op = 3 := by rw [Qv]; exact ho
  rw [hA, Y1 ho];refine bm (fun r => n7 _ _ _ H) ?_;refine be (l := [vp e, .pointer none, vp xb]) h fun tb H1 h1 => ?_;refine be (l := [vp p, vp x]) h1 fun pb H2 h2 => ?_;refine bp h2 fun b6 H3 h3 => ?_;refine bp h3 fun b9 H4 h4 => ?_;refine ah (kR ..) ?_;refine ai h4 aD rfl ?_;refine aa (v := vb true) rfl ?_;refine gs ?_;refine ai h4 aD rfl ?_
  have h5 : ae (eP e p rp σ t * (xP xb x σ t * (blk tb (.cells false [vp e, .pointer none, vp xb]) * (blk pb (.cells false [vp p, vp x]) * (blk b6 (.cells false [vi 0, .slice none 0 0, vi 0, vw 0]) * (blk b9 (.cells false [vi 0, .slice none 0 0, vi 0, vw 0]) * R)))))) H4 := by
   rw [Vj, agX];unfold aT zT at h4;rw [if_pos ho, if_pos ho] at h4;exact h4.to
  refine af h5 (Vl e p rp σ t now (S.ok (by omega)) (T.e ho)) fun _ H5 h6 => ?_;refine aa (v := .agg (gW (if (am σ t now).2.2 = true then (am σ t now).2.1.code else 0)).toArray) rfl ?_;refine aa (v := vb (am σ t now).2.2) rfl ?_;refine eW h6 rfl rfl fun H7 h7 => ?_;refine ai h7 aD rfl ?_;refine af h7 (Ut xb x σ t now (S.ok (by omega)) (T.e ho)) fun _ H8 h8 => ?_;rw [agY, agB] at h8;refine Zm ?_ (Fw p x rp (xb := xb) (x0 := vp e) (x1 := .pointer none) (pb := pb) (tb := tb) (b6 := b6) (b9 := b9) (σ := (am σ t now).1) (r := am σ t now) (R := eU e p rp (am σ t now) * R) (H := H8) rfl (by unfold zU; rw [if_pos hx3]; exact h8.to))
  rintro v' H' ⟨rfl, h9⟩
  refine ⟨rp, rfl, ?_⟩;rw [aj, ae.pu];refine ⟨kz _, ?_⟩
  have ea : aU e p rp (am σ t now) = eU e p rp (am σ t now) := by
   unfold aU eU aT;rw [if_pos hx3]
  rw [ea];exact h9.to
 ·have hA : g9 σ t now = ax σ t now := if_neg ho
  have KR := Df now (by omega) S (T.r ho)
  have hx3 : ¬ (ax σ t now).2.1.x.op = 3 := by rw [KR.x]; exact ho
  rw [hA, Y2 ho];refine bm (fun r => n7 _ _ _ H) ?_;refine be (l := [.pointer none, vp e, vp xb]) h fun tb H1 h1 => ?_;refine be (l := [vp p, vp x]) h1 fun pb H2 h2 => ?_;refine bp h2 fun b6 H3 h3 => ?_;refine bp h3 fun b9 H4 h4 => ?_;refine ah (kR ..) ?_;refine ai h4 aD rfl ?_;refine aa (v := vb false) rfl ?_;refine gs ?_;refine ai h4 aD rfl ?_;refine aa (v := vb true) rfl ?_;refine gs ?_;refine ai h4 aD rfl ?_
  have h5 : ae (rT e p rp t * (aX p rp σ * (yT xb x t * (aI x σ * (blk tb (.cells false [.pointer none, vp e, vp xb]) * (blk pb (.cells false [vp p, vp x]) * (blk b6 (.cells false [vi 0, .slice none 0 0, vi 0, vw 0]) * (blk b9 (.cells false [vi 0, .slice none 0 0, vi 0, vw 0]) * R)))))))) H4 := by
   unfold aT zT at h4;rw [if_neg ho, if_neg ho] at h4;exact h4.to
  refine af h5 (YE e p rp σ t now (S.ok (by omega)) (T.r ho)) fun rp' H5 h6 => ?_;unfold rQ at h6;rw [aj, ae.pu] at h6;obtain ⟨hpre, h6⟩ := h6;refine aa (v := .agg (gW (if (ax σ t now).2.2 = true then (ax σ t now).2.1.code else 0)).toArray) rfl ?_;refine aa (v := vb (ax σ t now).2.2) rfl ?_;refine eW h6 rfl rfl fun H7 h7 => ?_;refine ai h7 aD rfl ?_;refine af h7 (Uw xb x σ t now (S.ok (by omega)) (T.r ho)) fun _ H8 h8 => ?_;refine Zm ?_ (Fw p x rp' (xb := xb) (x0 := .pointer none) (x1 := vp e) (pb := pb) (tb := tb) (b6 := b6) (b9 := b9) (σ := (ax σ t now).1) (r := ax σ t now) (R := rU e p rp' (ax σ t now) * R) (H := H8) rfl (by unfold zU; rw [if_neg hx3]; exact h8.to))
  rintro v' H' ⟨rfl, h9⟩
  refine ⟨rp', rfl, ?_⟩;rw [aj, ae.pu];refine ⟨hpre, ?_⟩
  have ea : aU e p rp' (ax σ t now) = rU e p rp' (ax σ t now) := by
   unfold aU rU aT;rw [if_neg hx3]
  rw [ea];exact h9.to
theorem Q2 (σ : aY) (hc : cJ σ.c = true) (hN : σ.μ.N < 1000000) (who place : Int) (c : Cl) :
 Sp qD [.agg [vp p, vp x].toArray, vi who, vi place, .agg (Cl.cells c).toArray] (aX p rp σ * aI x σ) (fun g : Nat × Nat => .agg (Ue c.op g.1 g.2).toArray)
  (fun g => aT g.1 p rp (Tk.newA σ.c who c) * (zT g.2 x (Tk.newA σ.c who c) * (aX p rp (σ.begin who place) * aI x (σ.begin who place)))) := by
 refine bn (G9 _ _ _ _) fun R H h => ?_;refine be (l := [vp p, vp x]) h fun pb H1 h1 => ?_;refine be h1 fun cb H2 h2 => ?_;refine bp h2 fun b3 H3 h3 => ?_;refine aW h3 ?_;refine af h3 (Mz p x rp σ who place hN) fun _ H4 h4 => ?_;refine ai h4 aD rfl ?_;refine aW h4 ?_;have hcb : cJ (σ.begin who place).c = true := hc
 by_cases ho : c.op = 3
 ·refine af h4 (JU x (σ.begin who place) who c 0) fun xb H5 h5 => ?_
  refine iW ?_;refine bp h5 fun b5 H6 h6 => ?_;refine eW h6 rfl rfl fun H7 h7 => ?_;refine ah (pn ..) ?_;refine ai h7 aD rfl ?_;refine aa (ba ho) ?_;refine gs ?_;refine ai h7 aD rfl ?_;refine aW h7 ?_;refine af h7 (Vk p rp (σ.begin who place) hcb who c) fun e H8 h8 => ?_;refine bg h8 aD rfl rfl fun H9 h9 => ?_;refine ah (pp ..) ?_;refine aW h9 ?_;refine eW h9 rfl rfl fun HA hA => ?_;refine aW hA ?_;refine ap ⟨(e, xb), by rw [Y1 ho], ?_⟩;rw [show Tk.newA σ.c who c = Tk.new σ.c who c from if_pos ho];rw [show aT (e, xb).1 p rp (Tk.new σ.c who c) = eT e p rp (Tk.new σ.c who c) from if_pos ho, show zT (e, xb).2 x (Tk.new σ.c who c) = xT xb x (Tk.new σ.c who c) from if_pos ho];exact hA.to
 ·have nt : Sp j5 [vp x, vi who, .agg (Cl.cells c).toArray] emp (fun b : Nat => vp b) (fun b => yT b x (Tk.newR σ.c who c)) := by
   refine bn (qS _ _ _) fun R H h => ?_;refine be h fun b H1 h1 => ?_;refine aW h1 ?_;refine iW ?_;refine be h1 fun xb H2 h2 => ?_;refine ap ⟨xb, rfl, ?_⟩;unfold yT;refine ae.ex.2 ⟨⟨0, 0, -1, false, 0, 0, 0, 0, 0, 0, 0⟩, ?_⟩;rw [aj, ae.pu];exact ⟨AT rfl (by simp) ⟨rfl, rfl⟩, h2.to⟩
  refine af h4 nt fun xb H5 h5 => ?_;refine iW ?_;refine bp h5 fun b5 H6 h6 => ?_;refine eW h6 rfl rfl fun H7 h7 => ?_;refine ah (pn ..) ?_;refine ai h7 aD rfl ?_;refine aa (aC ho) ?_;refine gs ?_;refine ai h7 aD rfl ?_;refine aW h7 ?_;refine af h7 (YC p rp (σ.begin who place) hcb who c) fun e H8 h8 => ?_;refine bg h8 aD rfl rfl fun H9 h9 => ?_;refine ah (pp ..) ?_;refine aW h9 ?_;refine eW h9 rfl rfl fun HA hA => ?_;refine aW hA ?_;refine ap ⟨(e, xb), by rw [Y2 ho], ?_⟩;rw [show Tk.newA σ.c who c = Tk.newR σ.c who c from if_neg ho];rw [show aT (e, xb).1 p rp (Tk.newR σ.c who c) = rT e p rp (Tk.newR σ.c who c) from if_neg ho, show zT (e, xb).2 x (Tk.newR σ.c who c) = yT xb x (Tk.newR σ.c who c) from if_neg ho];exact hA.to
end
theorem Tm {P : SP} {H : AH} {s : Value} {l : List Int} [hR : Rd P s 1 fp l] (n most : Nat) (hn : 0 < n ∧ n < 1000) (hm : most < 1000) {k : Value × AH → OV} {Q : Value → AH → Prop} (h : ae P H)
 (hk : ∀ (v : Value) (o : List Int) (H' : AH), o.length ≤ most → (∀ y ∈ o, 0 ≤ y ∧ y < n) → ae (ts 1 fp v o * P) H' → wp (k (v, H')) Q) : wp ((FF PS [s, vi (n : Int), vi (most : Int)] H).bind k) Q := by
 have law : Sp PS [s, vi (n : Int), vi (most : Int)] P (fun g : Value × List Int => g.1) (fun g => pu (g.2.length ≤ most ∧ ∀ y ∈ g.2, 0 ≤ y ∧ y < n) * (ts 1 fp g.1 g.2 * P)) := by
  refine bn (aeX _ _ _) fun R H h => ?_;refine ah (Tb ..) ?_;refine ah (Tc ..) ?_;have app : ∀ (v : Value) (o : List Int) (x : Int) (H : AH) {kk : Value × AH → OV} {Q : Value → AH → Prop}, o.length < most → ae (ts 1 fp v o * (P * R)) H → (∀ v' H', ae (ts 1 fp v' (o ++ [x]) * (P * R)) H' → wp (kk (v', H')) Q) →
   wp (AB 1 1 [(vi 0)] [(0, vi x)] H fun v25 H26 => (e8 1 8 v v25 H26).bind kk) Q := by
   intro v o x H kk Q ho hh hk;refine KI hh fun b H1 h1 => ?_;refine ig (s := v) (l := o) (x : Int) h1 rfl ?_ (by omega) fun a c H2 h2 => ?_
   ·unfold dc; omega
   exact hk _ H2 h2.to
  have snoc : ∀ {o : List Int} {x : Int}, (∀ y ∈ o, 0 ≤ y ∧ y < (n : Int)) → ∀ y ∈ o ++ [d7 x n], 0 ≤ y ∧ y < (n : Int) := by
   intro o x hv y hy
   rcases List.mem_append.1 hy with hy | hy
   ·exact hv y hy
   ·rw [List.mem_singleton.1 hy]; exact fe (by omega)
  -- one again and again
  have inner : ∀ (d i j : Nat) (ki : Int) (v : Value) (o : List Int) (H : AH) {Q : Value → AH → Prop}, most - o.length = d → o.length ≤ most → (∀ y ∈ o, 0 ≤ y ∧ y < (n : Int)) → i < l.length → 0 ≤ ki ∧ ki < 40 → j < 1000 + o.length → ae (ts 1 fp v o * (P * R)) H →
   (∀ v' o' H', o.length ≤ o'.length → o'.length ≤ most → (∀ y ∈ o', 0 ≤ y ∧ y < (n : Int)) → ae (ts 1 fp v' o' * (P * R)) H' → wp (Hq s (vi (n : Int)) (vi (most : Int)) (.slice none 0 0) v' (vi ki) (vi (i : Int)) H') Q) →
   wp (AF s (vi (n : Int)) (vi (most : Int)) (.slice none 0 0) v (vi ki) (vi (i : Int)) (vi (j : Int)) H) Q := by
   intro d
   induction d with
   | zero =>
    intro i j ki v o H Q hd ho hv hil hki hj hh hk;refine ah (CA ..) ?_;refine kQ (s := s) (l := l) (v := vi l[i]) hh hil rfl ?_;refine af hh (cV l[i] 7 (by omega) (by omega)) fun _ H1 h1 => ?_;have m7 := fe (v := l[i]) (n := 7) (by omega);refine aa (jV (by omega)) ?_;have q3 : 0 ≤ ki.tmod 3 ∧ ki.tmod 3 < 3 := ⟨Int.tmod_nonneg _ hki.1, Int.tmod_lt_of_pos _ (by omega)⟩;have p0 : 0 ≤ d7 l[i] 7 * ki.tmod 3 := Int.mul_nonneg m7.1 q3.1;have p1 : d7 l[i] 7 * ki.tmod 3 ≤ 7 * 3 := Int.mul_le_mul (by omega) (by omega) q3.1 (by omega);refine aa (rE (by omega) (by omega)) ?_
    have out : wp (r7 s (vi (n : Int)) (vi (most : Int)) (.slice none 0 0) v (vi ki) (vi (i : Int)) H1) Q := by
     refine ah (vE ..) ?_;exact hk v o H1 (bJ _) ho hv h1.to
    by_cases hlt : (j : Int) < d7 l[i] 7 * ki.tmod 3
    ·refine aa (cP hlt) ?_
     refine gs ?_;refine iF (s := v) (l := o) h1 ?_;refine gs ?_;refine aa (bW (by omega)) ?_;refine gs ?_;exact out
    ·refine aa (bW hlt) ?_
     refine gs ?_;exact out
   | succ d ih =>
    intro i j ki v o H Q hd ho hv hil hki hj hh hk;refine ah (CA ..) ?_;refine kQ (s := s) (l := l) (v := vi l[i]) hh hil rfl ?_;refine af hh (cV l[i] 7 (by omega) (by omega)) fun _ H1 h1 => ?_;have m7 := fe (v := l[i]) (n := 7) (by omega);refine aa (jV (by omega)) ?_;have q3 : 0 ≤ ki.tmod 3 ∧ ki.tmod 3 < 3 := ⟨Int.tmod_nonneg _ hki.1, Int.tmod_lt_of_pos _ (by omega)⟩;have p0 : 0 ≤ d7 l[i] 7 * ki.tmod 3 := Int.mul_nonneg m7.1 q3.1;have p1 : d7 l[i] 7 * ki.tmod 3 ≤ 7 * 3 := Int.mul_le_mul (by omega) (by omega) q3.1 (by omega);refine aa (rE (by omega) (by omega)) ?_
    have out : wp (r7 s (vi (n : Int)) (vi (most : Int)) (.slice none 0 0) v (vi ki) (vi (i : Int)) H1) Q := by
     refine ah (vE ..) ?_;exact hk v o H1 (bJ _) ho hv h1.to
    by_cases hlt : (j : Int) < d7 l[i] 7 * ki.tmod 3
    ·refine aa (cP hlt) ?_
     refine gs ?_;refine iF (s := v) (l := o) h1 ?_;refine gs ?_;refine aa (cP (by omega)) ?_;refine gs ?_;refine ah (Mt ..) ?_;refine kQ (s := s) (l := l) (v := vi l[i]) h1 hil rfl ?_;refine af h1 (cV l[i] n (by omega) (by omega)) fun _ H2 h2 => ?_;refine app v o (d7 l[i] n) H2 (by omega) h2.to fun v' H3 h3 => ?_;refine ah (Mv ..) ?_;refine aa (aR (by omega) (by omega)) ?_;rw [show ((j : Nat) : Int) + 1 = ((j + 1 : Nat) : Int) from by omega]
     have hl1 : (o ++ [d7 l[i] n]).length = o.length + 1 := by simp
     exact ih i (j + 1) ki v' (o ++ [d7 l[i] n]) H3 (by omega) (by omega) (snoc hv) hil hki (by omega) h3 (fun v4 o4 H4 hle h1' hv' h2' => hk v4 o4 H4 (by omega) h1' hv' h2')
    ·refine aa (bW hlt) ?_
     refine gs ?_;exact out
  have mid : ∀ (d i : Nat) (ki : Int) (v : Value) (o : List Int) (H : AH) {Q : Value → AH → Prop}, most - o.length = d → o.length ≤ most → (∀ y ∈ o, 0 ≤ y ∧ y < (n : Int)) → i ≤ o.length → 0 ≤ ki ∧ ki < 40 → ae (ts 1 fp v o * (P * R)) H →
   (∀ v' o' H', o'.length ≤ most → (∀ y ∈ o', 0 ≤ y ∧ y < (n : Int)) → ae (ts 1 fp v' o' * (P * R)) H' → wp (Mw s (vi (n : Int)) (vi (most : Int)) (.slice none 0 0) v' (vi ki) H') Q) →
   wp (AC s (vi (n : Int)) (vi (most : Int)) (.slice none 0 0) v (vi ki) (vi (i : Int)) H) Q := by
   intro d
   induction d using Nat.strongRecOn with
   | ind d ih =>
    intro i ki v o H Q hd ho hv hio hki hh hk;refine ah (Mo ..) ?_;refine jW (s := s) (l := l) hh ?_
    have out : wp (xv s (vi (n : Int)) (vi (most : Int)) (.slice none 0 0) v (vi ki) H) Q := by
     refine ah (Ho ..) ?_;exact hk v o H ho hv hh
    by_cases hil : i < l.length
    ·refine aa (cP (by omega)) ?_
     refine gs ?_;refine iF (s := v) (l := o) hh ?_;refine gs ?_
     by_cases hlt : o.length < most
     ·refine aa (cP (by omega)) ?_
      refine gs ?_;refine ah (Mq ..) ?_;refine kQ (s := s) (l := l) (v := vi l[i]) hh hil rfl ?_;refine af hh (cV l[i] n (by omega) (by omega)) fun _ H2 h2 => ?_;refine app v o (d7 l[i] n) H2 (by omega) h2.to fun v' H3 h3 => ?_;refine ah (Ms ..) ?_
      have hl1 : (o ++ [d7 l[i] n]).length = o.length + 1 := by simp
      refine inner (most - (o.length + 1)) i 0 ki v' (o ++ [d7 l[i] n]) H3 (by omega) (by omega) (snoc hv) hil hki (by omega) h3 fun v4 o4 H4 hle h1' hv' h2' => ?_;refine ah (Mr ..) ?_;refine aa (aR (by omega) (by omega)) ?_;rw [show ((i : Nat) : Int) + 1 = ((i + 1 : Nat) : Int) from by omega];exact ih (most - o4.length) (by omega) (i + 1) ki v4 o4 H4 rfl h1' hv' (by omega) hki h2' hk
     ·refine aa (bW (by omega)) ?_
      refine gs ?_;exact out
    ·refine aa (bW (by omega)) ?_
     refine gs ?_;exact out
  have outer : ∀ (d k : Nat) (v : Value) (o : List Int) (H : AH), k + d = 40 → o.length ≤ most → (∀ y ∈ o, 0 ≤ y ∧ y < (n : Int)) → ae (ts 1 fp v o * (P * R)) H →
   wp (Hr s (vi (n : Int)) (vi (most : Int)) (.slice none 0 0) v (vi (k : Int)) H) fun v' H' => ∃ g : Value × List Int, v' = g.1 ∧ ae (pu (g.2.length ≤ most ∧ ∀ y ∈ g.2, 0 ≤ y ∧ y < n) * (ts 1 fp g.1 g.2 * P) * R) H' := by
   intro d
   induction d with
   | zero =>
    intro k v o H hk ho hv hh;refine ah (E3 ..) ?_;refine aa (bW (by omega)) ?_;refine gs ?_;refine ah (yF ..) ?_;refine ah (E0 ..) ?_;refine ap ⟨(v, o), rfl, ?_⟩;rw [aj, ae.pu];exact ⟨⟨ho, hv⟩, hh.to⟩
   | succ d ih =>
    intro k v o H hk ho hv hh;refine ah (E3 ..) ?_;refine aa (cP (by omega)) ?_;refine gs ?_;refine iF (s := s) (l := l) hh ?_;refine gs ?_
    by_cases hl0 : 0 < l.length
    ·refine aa (nZ (by omega)) ?_
     refine gs ?_;refine ah (Td ..) ?_;refine ah (Tf ..) ?_;refine mid (most - o.length) 0 k v o H rfl ho hv (Nat.zero_le _) (by omega) hh fun v' o' H' ho' hv' h' => ?_;refine ah (Te ..) ?_;refine aa (aR (by omega) (by omega)) ?_;rw [show ((k : Nat) : Int) + 1 = ((k + 1 : Nat) : Int) from by omega];exact ih (k + 1) v' o' H' (by omega) ho' hv' h'
    ·refine aa (g6 (by omega)) ?_
     refine gs ?_;refine ah (yF ..) ?_;refine ah (E0 ..) ?_;refine ap ⟨(v, o), rfl, ?_⟩;rw [aj, ae.pu];exact ⟨⟨ho, hv⟩, hh.to⟩
  have h0 := ee 1 fp h;exact outer 40 0 (.slice none 0 0) [] H rfl (Nat.zero_le _) (fun y hy => by cases hy) h0
 obtain ⟨⟨v, o⟩, H', e, h'⟩ := law emp H (by rw [fT]; exact h);rw [e];rw [fT, ae.pu] at h';exact hk v o H' h'.1.1 h'.1.2 h'.2
theorem Lp {b w n e : Nat} {kk : IntKind} (hw : w < n) : KD [.a n e (.int kk (w : Int))] (vp b) b (w * e) := fun k => by
 rw [ad4 hw]; show k (oy b (0 + w * e)) = _; rw [Nat.zero_add]
theorem Z2 {b w n e f : Nat} {kk : IntKind} (hw : w < n) : KD [.a n e (.int kk (w : Int)), .f f] (vp b) b (w * e + f) := fun k => by
 rw [ad4 hw]; show k (oy b (0 + w * e + f)) = _; rw [Nat.zero_add]
theorem wD {P : SP} {H : AH} {b w n : Nat} {kk : IntKind} {ro : Bool} {cs : List Value} {v : Value} {Q : Value → AH → Prop} {k : Value → OV} (h : ae P H) [i : Hs P b (.cells ro cs)] (hw : w < n) (hv : cs[w]? = some v) (hk : wp (k v) Q) : wp (ld [.a n 1 (.int kk (w : Int))] (vp b) H k) Q :=
 ai h (Lp hw) (by rw [Nat.mul_one]; exact hv) hk
theorem Ng (cs : List Value) (w : Nat) (v : Value) (h : w < cs.length) : splice cs w [v] = cs.set w v := by
 unfold splice;rw [List.set_eq_take_append_cons_drop, if_pos h];simp
theorem Zl {P P' : SP} {H : AH} {b w n : Nat} {kk : IntKind} {cs : List Value} {v : Value} {Q : Value → AH → Prop} {k : AH → OV} (h : ae P H) [i : Hs P b (.cells false cs)] (hw : w < n) (hn : cs.length = n) [c : uj v [v]] (hv : [v].all Value.oneCell' = true) [u : Up P b (.cells false (cs.set w v)) P']
 (hk : ∀ H', ae P' H' → wp (k H') Q) : wp (st 1 [.a n 1 (.int kk (w : Int))] (vp b) v H k) Q := by
 haveI : ul cs w [v] (cs.set w v) := ⟨by simp; omega, (Ng cs w v (by omega)).symm⟩
 exact bg h (o := w) (fun k => by rw [ad4 hw]; show k (oy b (0 + w * 1)) = _; rw [Nat.zero_add, Nat.mul_one]) rfl hv hk
theorem Ne (cs xs : List Value) (h : xs.length = cs.length) : splice cs 0 xs = xs := by
 unfold splice;rw [List.take_zero, List.nil_append, Nat.zero_add, List.drop_eq_nil_of_le (by omega), List.append_nil]
abbrev Wk := Option (Nat × Nat × Tk)
def uh : Wk → List Value
 | none => [.pointer none, .pointer none, .pointer none]
 | some q => Ue q.2.2.x.op q.1 q.2.1
theorem kf (q : Wk) : (uh q).length = 3 := by cases q <;> rfl
def QJ (p x : Nat) (rp : List Nat) : Wk → SP
 | none => emp
 | some q => aT q.1 p rp q.2.2 * zT q.2.1 x q.2.2
def la (p x : Nat) (rp : List Nat) : List Wk → SP
 | [] => emp
 | q :: l => QJ p x rp q * la p x rp l
theorem FA (p x : Nat) (rp : List Nat) : ∀ {ws : List Wk} {i : Nat} (h : i < ws.length), ∃ l1 l2, (∀ rp', la p x rp' ws = QJ p x rp' ws[i] * (la p x rp' l1 * la p x rp' l2)) ∧ ∀ rp' q, la p x rp' (ws.set i q) = QJ p x rp' q * (la p x rp' l1 * la p x rp' l2) := by
 intro ws
 induction ws with
 | nil => intro i h; simp at h
 | cons q ws ih =>
  intro i h
  cases i with
  | zero =>
   refine ⟨[], ws, fun rp' => ?_, fun rp' q => ?_⟩
   ·show QJ p x rp' q * la p x rp' ws = _ * (emp * _); rw [gF]; rfl
   ·show QJ p x rp' q * la p x rp' ws = _ * (emp * _); rw [gF]
  | succ i =>
   have hi : i < ws.length := by simpa using h
   obtain ⟨l1, l2, e1, e2⟩ := ih (i := i) hi;refine ⟨q :: l1, l2, fun rp' => ?_, fun rp' q' => ?_⟩
   ·show QJ p x rp' q * la p x rp' ws = QJ p x rp' (ws[i]'hi) * (QJ p x rp' q * la p x rp' l1 * la p x rp' l2)
    rw [e1]; ac_rfl
   ·show QJ p x rp' q * la p x rp' (ws.set i q') = QJ p x rp' q' * (QJ p x rp' q * la p x rp' l1 * la p x rp' l2)
    rw [e2]; ac_rfl
theorem Kv {p x : Nat} {rp rp' : List Nat} (hp : rp <+: rp') : ∀ (ws : List Wk) {R : SP} {H : AH}, ae (la p x rp ws * R) H → ae (la p x rp' ws * R) H := by
 intro ws
 induction ws with
 | nil => intro R H h; exact h
 | cons q ws ih =>
  intro R H h
  have h1 : ae (la p x rp ws * (QJ p x rp q * R)) H := by
   have : ae (QJ p x rp q * la p x rp ws * R) H := h;exact this.to
  have h2 := ih h1;show ae (QJ p x rp' q * la p x rp' ws * R) H
  cases q with
  | none =>
   have h3 : ae (la p x rp' ws * (emp * R)) H := h2;have h4 : ae (emp * la p x rp' ws * R) H := h3.to;exact h4
  | some q =>
   have h3 : ae (aT q.1 p rp q.2.2 * (zT q.2.1 x q.2.2 * (la p x rp' ws * R))) H := by
    have h4 : ae (la p x rp' ws * (aT q.1 p rp q.2.2 * zT q.2.1 x q.2.2 * R)) H := h2;exact h4.to
   have h5 := ZN hp h3;have h6 : ae (aT q.1 p rp' q.2.2 * zT q.2.1 x q.2.2 * la p x rp' ws * R) H := h5.to;exact h6
def WkR (σ : aY) (q : Wk) : Prop := match q with
 | none => True
 | some q => Is σ q.2.2
structure ZG (σ : aY) (ws : List Wk) (ats : List Nat) : Prop where
 l : ws.length = 4
 al : ats.length = 4
 r : ∀ w (h : w < 4), WkR σ (ws[w]'(by omega))
theorem WkR.mono {σ σ' : aY} {q : Wk} (h : WkR σ q) (hc : σ'.c = σ.c) (ho : σ.obs.length ≤ σ'.obs.length) : WkR σ' q := by
 cases q with
 | none => trivial
 | some q => exact Is.mono (show Is σ q.2.2 from h) hc ho
theorem ZG.mono {σ σ' : aY} {ws : List Wk} {ats : List Nat} (h : ZG σ ws ats) (hc : σ'.c = σ.c) (ho : σ.obs.length ≤ σ'.obs.length) : ZG σ' ws ats :=
 ⟨h.l, h.al, fun w hw => (h.r w hw).mono hc ho⟩
theorem ZG.set {σ : aY} {ws : List Wk} {ats : List Nat} (h : ZG σ ws ats) {w : Nat} (hw : w < 4) {q : Wk} (a : Nat) (hq : WkR σ q) : ZG σ (ws.set w q) (ats.set w a) := by
 refine ⟨by simp [h.l], by simp [h.al], fun w' hw' => ?_⟩;rw [List.getElem_set]
 by_cases e : w = w'
 ·rw [if_pos e]; exact hq
 ·rw [if_neg e]; exact h.r w' hw'
theorem J5 {α : Type} {l : List α} {i : Nat} (h : i < l.length) : l.set i l[i] = l := List.set_getElem_self h
theorem abQ : ak .ptr .eql (.pointer none) (.pointer none) = some (vb true) := rfl
theorem XT : ak .ptr .neq (.pointer none) (.pointer none) = some (vb false) := rfl
theorem abL (b : Nat) : ak .ptr .neq (vp b) (.pointer none) = some (vb true) := rfl
theorem QE {P : SP} {H : AH} {b w f : Nat} {kk : IntKind} {ws : List Wk} {v : Value} {Q : Value → AH → Prop} {k : Value → OV} (h : ae P H) [i : Hs P b (.cells false (ws.flatMap uh))] (hl : ws.length = 4) (hw : w < 4) (hf : f < 3) (hv : (uh (ws[w]'(by omega)))[f]? = some v) (hk : wp (k v) Q) :
 wp (ld [.a 4 3 (.int kk (w : Int)), .f f] (vp b) H k) Q :=
 ai h (Z2 hw) (by rw [tg kf ws w (by omega) f hf]; exact hv) hk
theorem afH {P : SP} {H : AH} {b w : Nat} {kk : IntKind} {ws : List Wk} {Q : Value → AH → Prop} {k : Value → OV} (h : ae P H) [i : Hs P b (.cells false (ws.flatMap uh))] (hl : ws.length = 4) (hw : w < 4) (hk : wp (k (.agg (uh (ws[w]'(by omega))).toArray)) Q) :
 wp (ldN 3 [.a 4 3 (.int kk (w : Int))] (vp b) H k) Q := by
 have hlen := io kf ws
 haveI : AV (ws.flatMap uh) (w * 3) 3 (uh (ws[w]'(by omega))) := ⟨by omega, (Ay kf ws w (by omega)).symm⟩
 exact QD h (Lp hw) hk
theorem adZ {P P' : SP} {H : AH} {b w : Nat} {kk : IntKind} {ws : List Wk} {q : Wk} {Q : Value → AH → Prop} {k : AH → OV} (h : ae P H) [i : Hs P b (.cells false (ws.flatMap uh))] (hl : ws.length = 4) (hw : w < 4) [u : Up P b (.cells false ((ws.set w q).flatMap uh)) P']
 (hk : ∀ H', ae P' H' → wp (k H') Q) : wp (st 3 [.a 4 3 (.int kk (w : Int))] (vp b) (.agg (uh q).toArray) H k) Q := by
 have hlen := io kf ws;have hs := yw kf ws w (by omega) 0 (uh q) (by rw [kf]; omega) q (by rw [Ne _ _ (by rw [kf, kf])])
 haveI : ul (ws.flatMap uh) (w * 3) (uh q) ((ws.set w q).flatMap uh) := ⟨by rw [kf, hlen]; omega, by rw [Nat.add_zero] at hs; exact hs.symm⟩
 exact bg h (l := uh q) (Lp hw) (kf q) (by
  cases q with
  | none => rfl
  | some q =>
   by_cases ho : q.2.2.x.op = 3
   ·rw [show uh (some q) = Ue q.2.2.x.op q.1 q.2.1 from rfl, Y1 ho]; rfl
   ·rw [show uh (some q) = Ue q.2.2.x.op q.1 q.2.1 from rfl, Y2 ho]; rfl) hk
abbrev FG := Option Addr × Nat × Nat
abbrev KH (x : FG) : Value := .slice x.1 x.2.1 x.2.2
abbrev i4 (x : FG) : List Value := [KH x]
instance : Enc i4 1 := ⟨fun _ => rfl, fun _ => rfl, by omega⟩
def d9 : List (FG × List Cl) → SP
 | [] => emp
 | q :: l => ts 4 Cl.cells (KH q.1) q.2 * d9 l
theorem vn : ∀ {LL : List (FG × List Cl)} {i : Nat} (h : i < LL.length), ∃ R, d9 LL = ts 4 Cl.cells (KH LL[i].1) LL[i].2 * R ∧ ∀ q, d9 (LL.set i q) = ts 4 Cl.cells (KH q.1) q.2 * R := by
 intro LL
 induction LL with
 | nil => intro i h; simp at h
 | cons q LL ih =>
  intro i h
  cases i with
  | zero => exact ⟨d9 LL, rfl, fun q => rfl⟩
  | succ i =>
   obtain ⟨R, e1, e2⟩ := ih (i := i) (by simpa using h);refine ⟨ts 4 Cl.cells (KH q.1) q.2 * R, ?_, fun q' => ?_⟩
   ·show ts 4 Cl.cells (KH q.1) q.2 * d9 LL = _
    rw [e1, ch]; rfl
   ·show ts 4 Cl.cells (KH q.1) q.2 * d9 (LL.set i q') = _
    rw [e2, ch]
theorem EU {LL : List (FG × List Cl)} {i : Nat} (h : i < LL.length) : Rd (d9 LL) (KH LL[i].1) 4 Cl.cells LL[i].2 := by
 obtain ⟨R, e1, _⟩ := vn h;rw [e1]; infer_instance
abbrev cq (LL : List (FG × List Cl)) : List FG := LL.map fun q : FG × List Cl => q.1
theorem Vd (c : Cl) (mark : Int) : Sp tz [.agg (Cl.cells c).toArray, vi mark] emp (fun y : Cl => .agg (Cl.cells y).toArray) (fun _ => emp) := by
 refine bn (Jv _ _) fun R H h => ?_;refine be h fun b1 H1 h1 => ?_;refine bp h1 fun b2 H2 h2 => ?_;refine aW h2 ?_;refine af h2 (Tl c) fun y H3 h3 => ?_;refine bp h3 fun b4 H4 h4 => ?_;refine eW h4 rfl rfl fun H5 h5 => ?_;refine ah (Ck ..) ?_;refine ai h5 aD rfl ?_;refine yf h5 (by omega) (by omega) fun H6 h6 => ?_
 have out : ∀ (z : Cl) {H : AH}, ae (blk b4 (.cells false (Cl.cells z)) * (blk b2 (.cells false [vi 0, vi 0, vi 0, vi 0]) * R)) H → wp (iT (vp b2) (vp b4) H) fun v' H' => ∃ y : Cl, v' = .agg (Cl.cells y).toArray ∧ ae (emp * R) H' := by
  intro z H h;refine ah (Cm ..) ?_;refine aW h ?_;refine eW h rfl rfl fun H2 h2 => ?_;refine aW h2 ?_;exact ap ⟨z, rfl, h2.to⟩
 refine ah (Cn ..) ?_
 have r1 : wp (ky (vi mark) (vp b1) (vp b2) (vp b4) (vi (d7 c.op 5)) (vb true) H6) fun v' H' => ∃ y : Cl, v' = .agg (Cl.cells y).toArray ∧ ae (emp * R) H' := by
  refine ah (qw ..) ?_;refine gs ?_;refine bg h6 aD rfl rfl fun H7 h7 => ?_;refine ai h7 aD rfl ?_;refine yf h7 (by omega) (by omega) fun H8 h8 => ?_
  by_cases hg : 0 < d7 c.a 4
  ·refine aa (nZ hg) ?_
   refine gs ?_;refine ai h8 aD rfl ?_;refine yf h8 (by omega) (by omega) fun H9 h9 => ?_;have m5 := fe (v := c.a) (n := 5) (by omega);refine aa (aR (by omega) (by omega)) ?_;refine bA aD ?_;refine aN h9 rfl ?_;refine aH h8 h9 (by rfl) ?_;refine yf h9 (by omega) (by omega) fun HA hA => ?_;have m3 := fe (v := c.b) (n := 3) (by omega);refine aa (aR (by omega) (by omega)) ?_;refine bg hA aD rfl rfl fun HB hB => ?_;refine bg hB aD rfl rfl fun HC hC => ?_;exact out ⟨1, y.flow, 1 + d7 c.a 5, 1 + d7 c.b 3⟩ hC.to
  ·refine aa (g6 hg) ?_
   refine gs ?_;exact out ⟨1, y.flow, y.a, y.b⟩ h8.to
 have k21 : ∀ b : Bool, wp (lj (vi mark) (vp b2) (vp b4) (vb b) H6) fun v' H' => ∃ y : Cl, v' = .agg (Cl.cells y).toArray ∧ ae (emp * R) H' := by
  intro b;refine ah (zh ..) ?_;cases b
  ·refine gs ?_
   refine bg h6 aD rfl rfl fun H7 h7 => ?_;refine bg h7 aD rfl rfl fun H8 h8 => ?_;exact out ⟨3, y.flow, y.a, mark⟩ h8.to
  ·refine gs ?_
   refine bg h6 aD rfl rfl fun H7 h7 => ?_;exact out ⟨2, y.flow, y.a, y.b⟩ h7.to
 have r2 : wp (ky (vi mark) (vp b1) (vp b2) (vp b4) (vi (d7 c.op 5)) (vb false) H6) fun v' H' => ∃ y : Cl, v' = .agg (Cl.cells y).toArray ∧ ae (emp * R) H' := by
  refine ah (qw ..) ?_;refine gs ?_
  by_cases h2 : d7 c.op 5 = 2
  ·refine aa (ba h2) ?_
   refine gs ?_;exact k21 true
  ·refine aa (aC h2) ?_
   refine gs ?_
   by_cases h3 : d7 c.op 5 = 3
   ·refine aa (ba h3) ?_
    exact k21 true
   ·refine aa (aC h3) ?_
    exact k21 false
 by_cases h0 : d7 c.op 5 = 0
 ·refine aa (ba h0) ?_
  refine gs ?_;exact r1
 ·refine aa (aC h0) ?_
  refine gs ?_
  by_cases h1 : d7 c.op 5 = 1
  ·refine aa (ba h1) ?_
   exact r1
  ·refine aa (aC h1) ?_
   exact r2
theorem agA {P : SP} {H : AH} {s : Value} {L : List Cl} [hR : Rd P s 4 Cl.cells L] (most : Nat) (hm : most < 1000) {k : Value × AH → OV} {Q : Value → AH → Prop} (h : ae P H)
 (hk : ∀ (b : Nat) (LL : List (FG × List Cl)) (H' : AH), LL.length = 4 → (∀ q ∈ LL, q.2.length ≤ most) → ae (ts 1 i4 (vs b 4 1) (cq LL) * (d9 LL * P)) H' → wp (k (vs b 4 1, H')) Q) :
 wp ((FF mV [s, vi (most : Int)] H).bind k) Q := by
 have law : Sp mV [s, vi (most : Int)] P (fun g : Nat × List (FG × List Cl) => vs g.1 4 1) (fun g => pu (g.2.length = 4 ∧ ∀ q ∈ g.2, q.2.length ≤ most) * (ts 1 i4 (vs g.1 4 1) (cq g.2) * (d9 g.2 * P))) := by
  refine bn (Ha _ _) fun R H h => ?_;refine Ii (n := 4) (enc := i4) ((none, 0, 0) : FG) h rfl (by unfold dc; omega) (by omega) fun b H1 h1 => ?_;refine ah (zj ..) ?_;refine ah (zk ..) ?_;have loop : ∀ (d i : Nat) (LL : List (FG × List Cl)) (H : AH), most - i = d → i ≤ most → LL.length = 4 → (∀ q ∈ LL, q.2.length ≤ i) → ae (ts 1 i4 (vs b 4 1) (cq LL) * (d9 LL * (P * R))) H →
   wp (lk s (vi (most : Int)) (.slice none 0 0) (vs b 4 1) (vi (i : Int)) H) fun v' H' => ∃ g : Nat × List (FG × List Cl), v' = vs g.1 4 1 ∧ ae (pu (g.2.length = 4 ∧ ∀ q ∈ g.2, q.2.length ≤ most) * (ts 1 i4 (vs g.1 4 1) (cq g.2) * (d9 g.2 * P)) * R) H' := by
   intro d
   induction d with
   | zero =>
    intro i LL H hd hi h4 hq hh
    have out : wp (i9 (.slice none 0 0) (vs b 4 1) H) fun v' H' => ∃ g : Nat × List (FG × List Cl), v' = vs g.1 4 1 ∧ ae (pu (g.2.length = 4 ∧ ∀ q ∈ g.2, q.2.length ≤ most) * (ts 1 i4 (vs g.1 4 1) (cq g.2) * (d9 g.2 * P)) * R) H' := by
     refine ah (mU ..) ?_;refine ah (pr ..) ?_;refine ap ⟨(b, LL), rfl, ?_⟩;rw [aj, ae.pu];exact ⟨⟨h4, fun q hq2 => d8 (hq q hq2) hi⟩, hh.to⟩
    refine ah (pw ..) ?_;refine jW (s := s) (l := L) hh ?_
    by_cases hl : i < L.length
    ·refine aa (cP (by omega)) ?_
     refine gs ?_;refine aa (bW (by omega)) ?_;refine gs ?_;exact out
    ·refine aa (bW (by omega)) ?_
     refine gs ?_;exact out
   | succ d ih =>
    intro i LL H hd hi h4 hq hh
    have out : wp (i9 (.slice none 0 0) (vs b 4 1) H) fun v' H' => ∃ g : Nat × List (FG × List Cl), v' = vs g.1 4 1 ∧ ae (pu (g.2.length = 4 ∧ ∀ q ∈ g.2, q.2.length ≤ most) * (ts 1 i4 (vs g.1 4 1) (cq g.2) * (d9 g.2 * P)) * R) H' := by
     refine ah (mU ..) ?_;refine ah (pr ..) ?_;refine ap ⟨(b, LL), rfl, ?_⟩;rw [aj, ae.pu];exact ⟨⟨h4, fun q hq2 => d8 (hq q hq2) hi⟩, hh.to⟩
    refine ah (pw ..) ?_;refine jW (s := s) (l := L) hh ?_
    by_cases hl : i < L.length
    case neg =>
     refine aa (bW (by omega)) ?_;refine gs ?_;exact out
    refine aa (cP (by omega)) ?_;refine gs ?_;refine aa (cP (by omega)) ?_;refine gs ?_;refine ah (zl ..) ?_
    have hw4 : i % 4 < LL.length := by omega
    have hhl : (cq LL).length = LL.length := by simp [cq]
    refine aa (jV (by omega)) ?_;refine aa (jV (by omega)) ?_;rw [show (i : Int).tmod 4 = ((i % 4 : Nat) : Int) from by rw [Xq (by omega)]; omega];refine Zk (s := vs b 4 1) (enc := i4) (l := cq LL) (i := i % 4) (v := KH LL[i % 4].1) hh (by omega) (by simp [cq]) fun a ha => ?_;refine aa (ha hh) ?_;refine Nu (s := s) (l := L) hh hl ?_;refine af hh (Vd L[i] i) fun y H2 h2 => ?_;refine wC ((ha h2).trans (ha hh).symm) ?_;refine KI h2 fun rb H8 h8 => ?_;obtain ⟨Rr, e1, e2⟩ := vn hw4;have hql := hq LL[i % 4] (S4 hw4);rw [e1] at h8;refine ig (s := KH LL[i % 4].1) (l := LL[i % 4].2) (y : Cl) h8 rfl ?_ (by omega) fun a c H9 h9 => ?_
    ·unfold dc; omega
    refine Ku (s := vs b 4 1) (l := cq LL) (i := i % 4) ((a, LL[i % 4].2.length + 1, c) : FG) h9 (by omega) (.inl ⟨rfl, rfl⟩) rfl (by omega) rfl rfl fun H10 h10 => ?_;refine ah (zm ..) ?_;refine aa (aR (by omega) (by omega)) ?_;rw [show ((i : Nat) : Int) + 1 = ((i + 1 : Nat) : Int) from by omega]
    have eh : cq (LL.set (i % 4) ((a, LL[i % 4].2.length + 1, c), LL[i % 4].2 ++ [y])) = (cq LL).set (i % 4) (a, LL[i % 4].2.length + 1, c) := by
     simp [cq, List.map_set]
    refine ih (i + 1) (LL.set (i % 4) ((a, LL[i % 4].2.length + 1, c), LL[i % 4].2 ++ [y])) H10 (by omega) (by omega) (by rw [Mb]; exact h4) (fun q hq2 => ?_) ?_
    ·rcases List.mem_or_eq_of_mem_set hq2 with hq2 | rfl
     ·have := hq q hq2; omega
     ·simp; omega
    ·rw [eh, e2]
     exact h10.to
  refine loop most 0 [((none, 0, 0), []), ((none, 0, 0), []), ((none, 0, 0), []), ((none, 0, 0), [])] H1 rfl (Nat.zero_le _) rfl (fun q hq => by
   simp only [List.mem_cons, List.not_mem_nil, or_false] at hq
   rcases hq with rfl | rfl | rfl | rfl <;> simp) ?_
  have z := ee 4 Cl.cells (ee 4 Cl.cells (ee 4 Cl.cells (ee 4 Cl.cells h1)));show ae (ts 1 i4 (vs b 4 1) (List.replicate 4 ((none, 0, 0) : FG)) * ((ts 4 Cl.cells (.slice none 0 0) [] * (ts 4 Cl.cells (.slice none 0 0) [] * (ts 4 Cl.cells (.slice none 0 0) [] * (ts 4 Cl.cells (.slice none 0 0) [] * emp)))) * (P * R))) H1;exact z.to
 obtain ⟨⟨b, LL⟩, H', e, h'⟩ := law emp H (by rw [fT]; exact h);rw [e];rw [fT, ae.pu] at h';exact hk b LL H' h'.1.1 h'.1.2 h'.2
structure AfterR (σ σ' : aY) (k : Nat) : Prop where
 si : SI σ' k
 c : σ'.c = σ.c
 obs : σ'.obs.length = σ.obs.length
theorem abK (d : Bool) : ak .bool .eql (vb d) (vb d) = some (vb true) := by cases d <;> rfl
section
variable (p x : Nat) (rp : List Nat) (σ : aY) (K : Nat)
theorem UZ (S : SI σ K) (hK : K < 200000) (n : Nat) (hn : n < 1000) :
 Sp tA [.agg [vp p, vp x].toArray, vi n] (aX p rp σ * aI x σ) (fun _ : aY => vb true) (fun σ' => pu (AfterR σ σ' (K + 8)) * (aX p rp σ' * aI x σ')) := by
 have hc := bF.1 S.c;have hobs := S.obs;have hN0 := S.N;refine bn (Jw _ _) fun R H h => ?_;refine be (l := [vp p, vp x]) h fun pb H1 h1 => ?_;refine aa (jV (by omega)) ?_;rw [show (n : Int).tmod 2 = ((n % 2 : Nat) : Int) from by rw [Xq (by omega)]; omega]
 have turn : wp (ld [.f 0] (vp pb) H1 fun v9 => (FF dW [v9, vi 5] H1).bind fun r10 => ld [.f 1] (vp pb) r10.2 fun v11 => (FF fy [v11, vi 5] r10.2).bind fun r12 => some (vb true, r12.2)) fun v' H' => ∃ σ' : aY, v' = vb true ∧ ae (pu (AfterR σ σ' (K + 8)) * (aX p rp σ' * aI x σ') * R) H' := by
  refine ai h1 aD rfl ?_;refine af h1 (afF p rp σ 5 (by omega)) fun _ H2 h2 => ?_;refine ai h2 aD rfl ?_;refine af h2 (afG x σ 5 (by omega)) fun _ H3 h3 => ?_;refine ap ⟨σ.mem (σ.μ.cnt 5 (2, 0, 0) 1), rfl, ?_⟩;rw [aj, ae.pu];exact ⟨⟨(S.cnt 5 (2, 0, 0) 1 (by simp) (by simp)).mono (by omega), rfl, rfl⟩, h3.to⟩
 by_cases he : n % 2 = 0
 ·refine aa (ba (show ((n % 2 : Nat) : Int) = 0 by omega)) ?_
  refine gs ?_;exact turn
 refine aa (aC (show ¬ ((n % 2 : Nat) : Int) = 0 by omega)) ?_;refine gs ?_;refine ai h1 aD rfl ?_;obtain ⟨g, rfl, hg, k1⟩ := dt (p := p) (rp := rp) (σ := σ) (R := aI x σ * (blk pb (.cells false [vp p, vp x]) * R)) (H := H1) h1.to;obtain ⟨gx, hgx, l1⟩ := dP (p := x) (σ := σ) (R := az p g σ * (blk pb (.cells false [vp p, vp x]) * R)) (H := H1) k1.to;refine gs ?_;refine ai l1 ac rfl ?_;have l1u := l1;unfold ar at l1u;have hxl := hgx.1;refine gs ?_;refine iF (s := gx.rv) (l := gx.rp) l1u ?_;refine gs ?_
 by_cases h0 : gx.rp.length = 0
 ·refine aa (ba (by omega)) ?_
  refine gs ?_;exact turn
 ·refine aa (aC (by omega)) ?_
  refine gs ?_;refine aa (Hy (by omega) (by rw [Int.tdiv_eq_ediv_of_nonneg (by omega)]; omega) (by rw [Int.tdiv_eq_ediv_of_nonneg (by omega)]; omega)) ?_;refine ai l1 aD rfl ?_;refine ai l1 ac rfl ?_;refine jW (s := gx.rv) (l := gx.rp) l1u ?_;refine yf l1 (by omega) (by omega) fun H2 l2 => ?_;have m0 := fe (v := (n : Int).tdiv 2) (n := gx.rp.length) (by omega);obtain ⟨o, ho⟩ : ∃ o : Nat, (o : Int) = d7 ((n : Int).tdiv 2) gx.rp.length := ⟨(d7 ((n : Int).tdiv 2) gx.rp.length).toNat, by omega⟩;rw [← ho];rw [← ho] at m0
  have hol : o < σ.obs.length := by omega
  obtain ⟨b, hb⟩ : ∃ b, g.rp[o]? = some b := ⟨_, cA (by omega)⟩;obtain ⟨bx, hbx⟩ : ∃ b, gx.rp[o]? = some b := ⟨_, cA (by omega)⟩;refine ai l2 aD rfl ?_;refine af l2 (qO p g σ hg o b hol hb) fun _ H3 l3 => ?_;refine bA aD ?_;refine aN l3 rfl ?_;refine aH l2 l3 (by rfl) ?_;refine bA ac ?_;refine aN l3 rfl ?_;refine aH l2 l3 (by rfl) ?_;have l3u := l3;unfold ar at l3u;have l2u := l2;unfold ar at l2u
  have hbx' : mL (gx.rp[o]'(by omega)) = [vp bx] := by
   rw [cA (by omega)] at hbx;rw [e7 hbx]
  refine Zk (s := gx.rv) (enc := mL) (l := gx.rp) (i := o) l3u (by omega) hbx' fun a ha => ?_;refine aa (ha l3u) ?_;refine wC ((ha l2u).trans (ha l3u).symm) ?_;obtain ⟨Rr, er1, er2⟩ := oZ x gx σ o bx hxl hol hbx
  have l4 : ae (cW gx.m o bx (aA σ o) * (bI gx.m σ.μ * (gG gx.ib gx.m σ.c.sh σ.nx σ.μ.N * (Rr * (az p g σ * (blk pb (.cells false [vp p, vp x]) * R)))))) H3 := by
   have l5 : ae (ar x gx σ * (az p g σ * (blk pb (.cells false [vp p, vp x]) * R))) H3 := l3.to;rw [er1 _ rfl] at l5;exact l5.to
  obtain ⟨cv, l6⟩ := eS l4;refine bA ac ?_;refine aN l6 rfl ?_;refine af l6 (dz 11 (o : Int) 0) fun _ H4 l7 => ?_;refine aH l7 l6 (by rfl) ?_;refine af l7 (Yf gx.m σ.μ (11, (o : Int), 0) (by have := S.N; omega)) fun _ H5 l8 => ?_
  -- both parts again, each a little older
  obtain ⟨σ1, hs1⟩ : ∃ σ1, σ1 = σ.bump 1 := ⟨_, rfl⟩
  have S1 : SI σ1 (K + 1) := by rw [hs1]; exact S.bump 1
  have m1 : ae (az p g σ1 * (ar x gx σ1 * (blk pb (.cells false [vp p, vp x]) * R))) H5 := by
   have q1 : ae (cW gx.m o bx (aA σ o) * (bI gx.m { σ.μ with N := σ.μ.N + 1 } * (gG gx.ib gx.m σ.c.sh σ.nx σ.μ.N * (Rr * (az p g σ * (blk pb (.cells false [vp p, vp x]) * R)))))) H5 := kF (cv := cv) l8.to;have q2 := mR (L' := σ.μ.N + 1) (by omega) (ae.fr (A := gG gx.ib gx.m σ.c.sh σ.nx σ.μ.N) q1)
   have q3 : ae (ar x gx (σ.bump 1) * (az p g σ * (blk pb (.cells false [vp p, vp x]) * R))) H5 := by
    have e2 := er2 { σ.μ with N := σ.μ.N + 1 } (aA σ o);rw [Cy hol] at e2;have e3 : ar x gx (σ.bump 1) = _ := e2;rw [e3];exact q2.to
   have q5 : ae (az p g σ * (ar x gx (σ.bump 1) * (blk pb (.cells false [vp p, vp x]) * R))) H5 := q3.to;unfold az at q5;have q6 := jb (V := σ.μ.V) (E := σ.μ.E) (N := σ.μ.N) (N' := σ.μ.N + 1) (by omega) (ae.fr (A := bD g.m σ.μ) q5);rw [hs1];unfold az;exact q6.to
  have es : σ1.obs = σ.obs ∧ σ1.c = σ.c ∧ σ1.μ.V = σ.μ.V ∧ σ1.places = σ.places ∧ σ.μ.N ≤ σ1.μ.N ∧ σ1.μ.N < 800000 := by rw [hs1]; exact ⟨rfl, rfl, rfl, rfl, by simp, by have := S.N; show σ.μ.N + 1 < _; omega⟩
  clear hs1
  obtain ⟨eo, ec, eV, ep, eN, eN8⟩ := es
  have hg1 : g.rp.length = σ1.obs.length := by rw [eo]; exact hg
  have hx1 : gx.rp.length = σ1.obs.length := by rw [eo]; exact hxl
  have ho1 : o < σ1.obs.length := by rw [eo]; exact hol
  clear l8 l7 l6 l4 l3 l2 l1 k1 l3u l2u l1u h1 h turn
  have hw : σ.μ.V (11, (o : Int), 0) < 18446744073709551616 := S.V _
  have hN8 : σ1.μ.N < 1099511627000 := by omega
  refine aa (v := vb true) rfl ?_;refine gs ?_;refine af m1 (iZ (p := p) hg1 ho1 hb (TS g.m o b (aA σ1 o) σ1.μ 5 (σ.μ.V (11, (o : Int), 0)) hw hN8)) fun _ H9 m3 => ?_
  have ht : σ1.μ.N ≤ (σ1.μ.turn 5 o (σ.μ.V (11, (o : Int), 0)) (aP (σ.μ.V (11, (o : Int), 0)) 1)).N := by cases aP (σ.μ.V (11, (o : Int), 0)) 1 <;> simp
  refine gs ?_;refine af m3 (kg (p := x) ht hx1 ho1 hbx (ug gx.m o bx (aA σ1 o) σ1.μ 5 (σ.μ.V (11, (o : Int), 0)) 1 (by omega) hw hN8)) fun _ H10 m4 => ?_;refine gs ?_;refine aa (abK _) ?_;refine gs ?_;refine ap ⟨σ1.mem (σ1.μ.turn 5 o (σ.μ.V (11, (o : Int), 0)) (aP (σ.μ.V (11, (o : Int), 0)) 1)), rfl, ?_⟩;rw [aj, ae.pu];refine ⟨⟨(S1.turn 5 o _ 1).mono (by omega), ec, by show σ1.obs.length = _; rw [eo]⟩, ?_⟩;obtain ⟨σ2, hs2⟩ : ∃ σ2, σ2 = σ1.mem (σ1.μ.turn 5 o (σ.μ.V (11, (o : Int), 0)) (aP (σ.μ.V (11, (o : Int), 0)) 1)) := ⟨_, rfl⟩
  have e2 : σ2.obs = σ.obs ∧ σ2.places = σ.places ∧ σ.μ.N ≤ σ2.μ.N := by rw [hs2]; exact ⟨eo, ep, d8 eN ht⟩
  have m5 : ae (az p g σ2 * (ar x gx σ2 * (blk pb (.cells false [vp p, vp x]) * R))) H10 := by rw [hs2]; exact m4.to
  rw [← hs2];have q1 := bz (p := p) (rp := g.rp) (σ := σ2) (R := ar x gx σ2 * (blk pb (.cells false [vp p, vp x]) * R)) (H := H10) g rfl (by rw [e2.1]; exact hg) m5;have q2 := cH (p := x) (σ := σ2) (R := aX p g.rp σ2 * (blk pb (.cells false [vp p, vp x]) * R)) (H := H10) gx ⟨by rw [e2.1]; exact hxl, by rw [e2.2.1]; exact hgx.2.1, d8 hgx.2.2 e2.2.2⟩ q1.to;exact q2.to
end
instance {c : Bool} {e1 : Option Value} {k : Value → OV} : Gd ((xu (yv undef) c e1 (some undef)).bind k) (k undef) := ⟨fun h => by cases c <;> exact h⟩
theorem SW {ws : List Wk} {w : Nat} (h : w < ws.length) {q : Wk} (e : uh q = uh ws[w]) : (ws.set w q).flatMap uh = ws.flatMap uh := by
 rw [Ca ws w h q, e, ← me ws w h]
theorem ag1 {xb x : Nat} {r : aY × Tk × Bool} (h : r.2.2 = false) : zU xb x r = zT xb x r.2.1 := by
 unfold zU zT
 split
 ·exact agZ h
 ·unfold yU yT
  simp only [h]
  rfl
theorem af6 {e p : Nat} {rp : List Nat} {r : aY × Tk × Bool} (h : r.2.2 = false) : aU e p rp r = aT e p rp r.2.1 := by
 unfold aU;rw [if_neg (by rw [h]; simp)]
section
variable (p x pb tb ab : Nat) (lb : Nat) (LL : List (FG × List Cl)) (pv : Value) (picks : List Int) (blows : Bool) (most : Nat)
abbrev UI (rp : List Nat) (σ : aY) (ws : List Wk) (ats : List Nat) (R : SP) : SP :=
 blk pb (.cells false [vp p, vp x]) * (blk tb (.cells false (ws.flatMap uh)) * (blk ab (.cells false (ats.map fun (n : Nat) => vi (n : Int))) * (aX p rp σ * (aI x σ * (la p x rp ws * (ts 1 i4 (vs lb 4 1) (cq LL) * (d9 LL * R)))))))
def Uy (I : aY → List Wk → Prop) (R : SP) (v' : Value) (H' : AH) : Prop := ∃ (b : Bool) (rp' : List Nat) (σ' : aY) (ws' : List Wk), v' = .tuple #[vb b, vb true] ∧ SI σ' 20000 ∧ I σ' ws' ∧ ae (aX p rp' σ' * (aI x σ' * R)) H'
variable (I : aY → List Wk → Prop)
theorem Uf (hL : LL.length = 4) {rp : List Nat} {R : SP} {σ : aY} {ws : List Wk} {ats : List Nat} {H : AH} (S : SI σ 20000) (hI : I σ ws) (W : ZG σ ws ats)
 (h : ae (UI p x pb tb ab lb LL rp σ ws ats R) H) (x10 x11 : Value) :
 wp (oR (vs lb 4 1) x10 x11 (vp tb) (vp ab) H) (Uy p x I R) := by
 have hhl : (cq LL).length = 4 := by simp [cq, hL]
 have fin : ∀ b, Uy p x I R (.tuple #[vb b, vb true]) H := fun b => ⟨b, rp, σ, ws, rfl, S, hI, h.to⟩;refine ah (zo ..) ?_;refine ah (zq ..) ?_
 have loop : ∀ (d w : Nat), w + d = 4 → wp (ll (vs lb 4 1) x10 x11 (vp tb) (vp ab) (vi (w : Int)) H) (Uy p x I R) := by
  intro d
  induction d with
  | zero =>
   intro w hw;refine ah (py ..) ?_;refine aa (bW (by omega)) ?_;refine gs ?_;refine ah (vg ..) ?_;refine ah (zp ..) ?_;exact ap (fin true)
  | succ d ih =>
   intro w hw
   have hw4 : w < 4 := by omega
   have hwL : w < LL.length := by omega
   have hwl : w < ws.length := by rw [W.l]; exact hw4
   refine ah (py ..) ?_;refine aa (cP (by omega)) ?_;refine gs ?_;refine iF (s := vs lb 4 1) (l := cq LL) h ?_;refine gs ?_;refine aa (cP (by omega)) ?_;refine gs ?_;refine ah (zr ..) ?_
   have next : wp (oS (vs lb 4 1) x10 x11 (vp tb) (vp ab) (vi (w : Int)) H) (Uy p x I R) := by
    refine ah (zt ..) ?_;refine aa (aR (by omega) (by omega)) ?_;exact ih (w + 1) (by omega)
   cases hq : ws[w] with
   | some q =>
    refine QE (v := vp q.2.1) h W.l hw4 (by omega) (by rw [hq]; rfl) ?_;refine aa (abL _) ?_;refine gs ?_;exact ap (fin false)
   | none =>
    refine QE (v := .pointer none) h W.l hw4 (by omega) (by rw [hq]; rfl) ?_;refine aa (XT) ?_;refine gs ?_;refine wD (v := vi (ats[w]'(by rw [W.al]; exact hw4) : Nat)) h hw4 (by rw [xj, cA (by rw [W.al]; exact hw4)]; rfl) ?_;refine gs ?_;refine kQ (s := vs lb 4 1) (l := cq LL) (i := w) (v := KH (LL[w]'hwL).1) h (by omega) (by simp [cq]) ?_;refine gs ?_
    haveI := EU (LL := LL) (i := w) hwL
    refine iF (s := KH (LL[w]'hwL).1) (l := (LL[w]'hwL).2) h ?_;refine gs ?_
    by_cases hlt : ats[w]'(by rw [W.al]; exact hw4) < (LL[w]'hwL).2.length
    ·refine aa (cP (by omega)) ?_
     refine gs ?_;exact ap (fin false)
    ·refine aa (bW (by omega)) ?_
     refine gs ?_;exact next
 exact loop 4 0 rfl
variable (x10 x11 : Value) (Z : SP)
variable (hL : LL.length = 4) (hQ : ∀ q ∈ LL, q.2.length ≤ 1000) (hm : most ≤ 500) [hP : Rd Z pv 1 fp picks]
variable (hIs : ∀ (σ : aY) (ws : List Wk) (w : Nat) (q : Nat × Nat × Tk) (now : Int) (K : Nat), K < 20000 → SI σ K → ws.length = 4 → ws[w]? = some (some q) → Is σ q.2.2 → I σ ws →
 I (g9 σ q.2.2 now).1 (ws.set w (if (g9 σ q.2.2 now).2.2 = true then none else some (q.1, q.2.1, (g9 σ q.2.2 now).2.1))))
variable (hIb : ∀ (σ : aY) (ws : List Wk) (w e xk : Nat) (place : Int) (c : Cl), cJ σ.c = true → ws.length = 4 → ws[w]? = some none → I σ ws → I (σ.begin w place) (ws.set w (some (e, xk, Tk.newA σ.c w c))))
variable (hIt : blows = true → ∀ (σ σ' : aY) (ws : List Wk) (k : Nat), AfterR σ σ' k → I σ ws → I σ' ws)
include hL hm hP hIs hIb hIt
theorem Ns : ∀ (d i K now : Nat) (rp : List Nat) (σ : aY) (ws : List Wk) (ats : List Nat) (H : AH), i + d = most → SI σ K → K ≤ 16 + 12 * i → now ≤ i → ZG σ ws ats → (∀ a ∈ ats, a ≤ i) → I σ ws →
 ae (UI p x pb tb ab lb LL rp σ ws ats Z) H →
 wp (jZ (vs lb 4 1) pv (vi (most : Int)) (vb blows) (vp pb) x10 x11 (vp tb) (vp ab) (vi (now : Int)) (vi (i : Int)) H) (Uy p x I Z) := by
 have hhl : (cq LL).length = 4 := by simp [cq, hL]
 intro d
 induction d with
 | zero =>
  intro i K now rp σ ws ats H hi S hK hnow W ha hI h;refine ah (n8 ..) ?_;refine aa (bW (by omega)) ?_;refine gs ?_;refine ah (tq ..) ?_;exact Uf p x pb tb ab lb LL I hL (S.mono (by omega)) hI W h x10 x11
 | succ d ih =>
  intro i K now rp σ ws ats H hi S hK hnow W ha hI h;refine ah (n8 ..) ?_;refine aa (cP (by omega)) ?_;refine gs ?_;refine ah (xd ..) ?_;refine aa (jV (by omega)) ?_
  -- what is next, whatever was done
  have next : ∀ (K' now' : Nat) (rp' : List Nat) (σ' : aY) (ws' : List Wk) (ats' : List Nat) (H' : AH), SI σ' K' → K' ≤ 16 + 12 * (i + 1) → now' ≤ i + 1 → ZG σ' ws' ats' → (∀ a ∈ ats', a ≤ i + 1) → I σ' ws' →
   ae (UI p x pb tb ab lb LL rp' σ' ws' ats' Z) H' →
   wp (ip (vs lb 4 1) pv (vi (most : Int)) (vb blows) (vp pb) x10 x11 (vp tb) (vp ab) (vi (now' : Int)) (vi (i : Int)) H') (Uy p x I Z) := by
   intro K' now' rp' σ' ws' ats' H' S' hK' hnow' W' ha' hI' h';refine ah (xe ..) ?_;refine aa (aR (by omega) (by omega)) ?_;rw [show ((i : Nat) : Int) + 1 = ((i + 1 : Nat) : Int) from by omega];exact ih (i + 1) K' now' rp' σ' ws' ats' H' (by omega) S' hK' hnow' W' ha' hI' h'
  have skip : ∀ (H' : AH), ae (UI p x pb tb ab lb LL rp σ ws ats Z) H' → wp (iw (vs lb 4 1) pv (vi (most : Int)) (vb blows) (vp pb) x10 x11 (vp tb) (vp ab) (vi (now : Int)) (vi (i : Int)) H') (Uy p x I Z) := by
   intro H' h';refine ah (mh ..) ?_;exact next K now rp σ ws ats H' S (by omega) (by omega) W (fun a h2 => by have := ha a h2; omega) hI h'
  -- a step of one that is under way
  have step : ∀ (w : Nat) (hw : w < 4) (e xk : Nat) (t : Tk) (K1 : Nat) (σ1 : aY) (ws1 : List Wk) (ats1 : List Nat) (H1 : AH), SI σ1 K1 → K1 ≤ 16 + 12 * i + 1 → (W1 : ZG σ1 ws1 ats1) → (∀ a ∈ ats1, a ≤ i + 1) → I σ1 ws1 →
   ws1[w]'(by rw [W1.l]; exact hw) = some (e, xk, t) → ae (UI p x pb tb ab lb LL rp σ1 ws1 ats1 Z) H1 →
   wp (j2 (vs lb 4 1) pv (vi (most : Int)) (vb blows) (vp pb) x10 x11 (vp tb) (vp ab) (vi (now : Int)) (vi (i : Int)) (vi (w : Int)) H1) (Uy p x I Z) := by
   intro w hw e xk t K1 σ1 ws1 ats1 H1 S1 hK1 W1 ha1 hI1 hwk h1
   have hwl : w < ws1.length := by rw [W1.l]; exact hw
   have hal : w < ats1.length := by rw [W1.al]; exact hw
   have wt0 := W1.r w hw;rw [hwk] at wt0;have wt : Is σ1 t := wt0;obtain ⟨l1, l2, es1, es2⟩ := FA p x rp hwl
   have es1' : la p x rp ws1 = aT e p rp t * zT xk x t * (la p x rp l1 * la p x rp l2) := by rw [es1, hwk]; rfl
   have K2 := Ni (now : Int) (by omega) S1 wt;obtain ⟨r, hr⟩ : ∃ r, r = g9 σ1 t now := ⟨_, rfl⟩;have hI2 := hIs σ1 ws1 w (e, xk, t) now K1 (by omega) S1 W1.l (by rw [cA hwl, hwk]) wt hI1;dsimp only at hI2;have law := Ud p x rp e xk σ1 t now K1 S1 (by omega) wt;rw [← hr] at K2 hI2 law;refine ah (xi ..) ?_;refine afH h1 W1.l hw ?_;rw [show (ws1[w]'(by rw [W1.l]; exact hw)) = some (e, xk, t) from hwk];refine aW h1 ?_
   have h2 : ae (aT e p rp t * (aX p rp σ1 * (zT xk x t * aI x σ1)) * (blk pb (.cells false [vp p, vp x]) * (blk tb (.cells false (ws1.flatMap uh)) * (blk ab (.cells false (ats1.map fun (n : Nat) => vi (n : Int))) * (la p x rp l1 * (la p x rp l2 * (ts 1 i4 (vs lb 4 1) (cq LL) * (d9 LL * Z)))))))) H1 := by
    unfold UI at h1;rw [es1'] at h1;exact h1.to
   refine af h2 law fun rp' H2 h3 => ?_;rw [aj, ae.pu] at h3;obtain ⟨hpre, h3⟩ := h3;refine aa (v := .agg (gW (if r.2.2 = true then r.2.1.code else 0)).toArray) rfl ?_;refine aa (v := vb r.2.2) rfl ?_;refine aa (v := vb true) rfl ?_;refine bp h3 fun qb H3 h4 => ?_;refine eW h4 rfl rfl fun H4 h5 => ?_;refine gs ?_;rw [Bool.not_true];refine gs ?_;refine aa (aR (by omega) (by omega)) ?_;rw [show ((now : Nat) : Int) + 1 = ((now + 1 : Nat) : Int) from by omega]
   -- the other workers', with the rings there are now
   have h6 : ae (la p x rp' l1 * (la p x rp' l2 * (aU e p rp' r * (zU xk x r * (aX p rp' r.1 * (aI x r.1 * (blk pb (.cells false [vp p, vp x]) * (blk tb (.cells false (ws1.flatMap uh)) * (blk ab (.cells false (ats1.map fun (n : Nat) => vi (n : Int))) * (ts 1 i4 (vs lb 4 1) (cq LL) * (d9 LL * Z))))))))))) H4 := by
    have q1 : ae (la p x rp l1 * (la p x rp l2 * (aU e p rp' r * (zU xk x r * (aX p rp' r.1 * (aI x r.1 * (blk pb (.cells false [vp p, vp x]) * (blk tb (.cells false (ws1.flatMap uh)) * (blk ab (.cells false (ats1.map fun (n : Nat) => vi (n : Int))) * (ts 1 i4 (vs lb 4 1) (cq LL) * (d9 LL * Z))))))))))) H4 := h5.to;have q2 := Kv hpre l1 q1;have q3 : ae (la p x rp l2 * (la p x rp' l1 * (aU e p rp' r * (zU xk x r * (aX p rp' r.1 * (aI x r.1 * (blk pb (.cells false [vp p, vp x]) * (blk tb (.cells false (ws1.flatMap uh)) * (blk ab (.cells false (ats1.map fun (n : Nat) => vi (n : Int))) * (ts 1 i4 (vs lb 4 1) (cq LL) * (d9 LL * Z))))))))))) H4 := q2.to;have q4 := Kv hpre l2 q3;exact q4.to
   cases hd : r.2.2
   ·rw [af6 hd, ag1 hd] at h6
    refine gs ?_;rw [hd, if_neg (by simp)] at hI2;have W2 := (W1.mono K2.c K2.obs).set hw (q := some (e, xk, r.2.1)) ats1[w] (K2.ok hd);rw [J5 hal] at W2
    have ew : (ws1.set w (some (e, xk, r.2.1))).flatMap uh = ws1.flatMap uh := SW hwl (by
     rw [hwk];show Ue r.2.1.x.op e xk = Ue t.x.op e xk
     rw [K2.x])
    refine next (K1 + 3) (now + 1) rp' r.1 _ ats1 H4 K2.si (by omega) (by omega) W2 ha1 hI2 ?_;have e3 : la p x rp' (ws1.set w (some (e, xk, r.2.1))) = aT e p rp' r.2.1 * zT xk x r.2.1 * (la p x rp' l1 * la p x rp' l2) := es2 rp' _;unfold UI;rw [e3, ew];exact h6.to
   ·refine gs ?_
    rw [hd, if_pos rfl] at hI2;refine iW ?_;refine adZ (ws := ws1) (q := none) h6 W1.l hw fun H5 h7 => ?_;have W2 := (W1.mono K2.c K2.obs).set hw (q := none) ats1[w] trivial;rw [J5 hal] at W2;refine next (K1 + 3) (now + 1) rp' r.1 _ ats1 H5 K2.si (by omega) (by omega) W2 ha1 hI2 ?_;have e3 : la p x rp' (ws1.set w none) = emp * (la p x rp' l1 * la p x rp' l2) := es2 rp' _;unfold UI;rw [e3, gF];exact h7.to
  -- one is picked
  have pick : ∀ (w : Nat) (hw : w < 4) (H' : AH), ae (UI p x pb tb ab lb LL rp σ ws ats Z) H' →
   wp (j1 (vs lb 4 1) pv (vi (most : Int)) (vb blows) (vp pb) x10 x11 (vp tb) (vp ab) (vi (now : Int)) (vi (i : Int)) (vi (w : Int)) H') (Uy p x I Z) := by
   intro w hw H' h'
   have hwL : w < LL.length := by omega
   have hwl : w < ws.length := by rw [W.l]; exact hw
   have hal : w < ats.length := by rw [W.al]; exact hw
   refine ah (xh ..) ?_
   cases hq : ws[w] with
   | some q =>
    refine QE (v := vp q.2.1) h' W.l hw (by omega) (by rw [hq]; rfl) ?_;refine aa (tJ _) ?_;refine gs ?_;exact step w hw q.1 q.2.1 q.2.2 K σ ws ats H' S (by omega) W (fun a h2 => by have := ha a h2; omega) hI hq h'
   | none =>
    refine QE (v := .pointer none) h' W.l hw (by omega) (by rw [hq]; rfl) ?_;refine aa (abQ) ?_;refine gs ?_;refine jW (s := vs lb 4 1) (l := cq LL) h' ?_;refine aa (mf (by omega)) ?_;refine gs ?_
    have hav : (ats.map fun (n : Nat) => vi (n : Int))[w]? = some (vi (ats[w] : Nat)) := by rw [xj, cA hal]; rfl
    refine wD (v := vi (ats[w] : Nat)) h' hw hav ?_;refine gs ?_;refine kQ (s := vs lb 4 1) (l := cq LL) (i := w) (v := KH (LL[w]'hwL).1) h' (by omega) (by simp [cq]) ?_;refine gs ?_
    haveI := EU (LL := LL) (i := w) hwL
    refine iF (s := KH (LL[w]'hwL).1) (l := (LL[w]'hwL).2) h' ?_;refine gs ?_
    by_cases hge : (LL[w]'hwL).2.length ≤ ats[w]
    ·refine aa (uY (by omega)) ?_
     refine gs ?_;exact skip H' h'
    ·refine aa (mf (by omega)) ?_
     refine gs ?_
     have hat : ats[w] < (LL[w]'hwL).2.length := by omega
     refine aW h' ?_;refine wD (v := vi (ats[w] : Nat)) h' hw hav ?_;refine kQ (s := vs lb 4 1) (l := cq LL) (i := w) (v := KH (LL[w]'hwL).1) h' (by omega) (by simp [cq]) ?_;refine wD (v := vi (ats[w] : Nat)) h' hw hav ?_;refine Nu (s := KH (LL[w]'hwL).1) (l := (LL[w]'hwL).2) h' hat ?_;have hat400 : ats[w] ≤ i := ha _ (S4 hal);obtain ⟨c, hc⟩ : ∃ c : Cl, c = (LL[w]'hwL).2[ats[w]]'hat := ⟨_, rfl⟩;rw [← hc];refine af h' (Q2 p x rp σ S.c (by have := S.N; omega) w ats[w] c) fun g H3 h3 => ?_;obtain ⟨e, xk⟩ := g
     have ev : Ue c.op e xk = uh (some (e, xk, Tk.newA σ.c w c)) := by
      show _ = Ue (Tk.newA σ.c w c).x.op e xk;rw [aeU]
     dsimp only at h3 ⊢;rw [ev];refine adZ (ws := ws) (q := some (e, xk, Tk.newA σ.c w c)) h3 W.l hw fun H6 h6 => ?_;refine wD (v := vi (ats[w] : Nat)) h6 hw hav ?_;refine aa (aR (by omega) (by omega)) ?_;rw [show ((ats[w] : Nat) : Int) + 1 = ((ats[w] + 1 : Nat) : Int) from by omega];refine Zl (v := vi ((ats[w] + 1 : Nat) : Int)) (w := w) h6 hw (by rw [sn]; exact W.al) rfl fun H8 h8 => ?_;have W2 := (W.mono (σ' := σ.begin w ats[w]) rfl (bJ _)).set hw (q := some (e, xk, Tk.newA σ.c w c)) (ats[w] + 1) (Is.new (σ := σ.begin w ats[w]) S.c w c);obtain ⟨l1, l2, es1, es2⟩ := FA p x rp hwl
     have es1' : la p x rp ws = emp * (la p x rp l1 * la p x rp l2) := by rw [es1, hq]; rfl
     have e3' : la p x rp (ws.set w (some (e, xk, Tk.newA σ.c w c))) = aT e p rp (Tk.newA σ.c w c) * zT xk x (Tk.newA σ.c w c) * (la p x rp l1 * la p x rp l2) := es2 rp _;refine step w hw e xk (Tk.newA σ.c w c) (K + 1) (σ.begin w ats[w]) _ (ats.set w (ats[w] + 1)) H8 (S.begin _ _) (by omega) W2 (fun a h2 => ?_) (hIb σ ws w e xk ats[w] c S.c W.l (by rw [cA hwl, hq]) hI) (by rw [List.getElem_set_self]) ?_
     ·rcases List.mem_or_eq_of_mem_set h2 with h2 | rfl
      ·have := ha a h2; omega
      ·omega
     ·unfold UI
      rw [e3']
      have em : ((ats.set w (ats[w] + 1)).map fun (n : Nat) => vi (n : Int)) = (ats.map fun (n : Nat) => vi (n : Int)).set w (vi ((ats[w] + 1 : Nat) : Int)) := by rw [List.map_set]
      rw [em];rw [es1', gF] at h8;exact h8.to
  have k34 : ∀ (m : Int) (H1 : AH), 0 ≤ m ∧ m < 9 → ae (UI p x pb tb ab lb LL rp σ ws ats Z) H1 →
   wp (j0 (vs lb 4 1) pv (vi (most : Int)) (vb blows) (vp pb) x10 x11 (vp tb) (vp ab) (vi (now : Int)) (vi (i : Int)) (vi m) H1) (Uy p x I Z) := by
   intro m H1 m9 h1;refine ah (xg ..) ?_
   have other : wp ((ak .other .rem (vi m) (vi 4)).bind fun v123 => j1 (vs lb 4 1) pv (vi (most : Int)) (vb blows) (vp pb) x10 x11 (vp tb) (vp ab) (vi (now : Int)) (vi (i : Int)) v123 H1) (Uy p x I Z) := by
    refine aa (jV (by omega)) ?_
    obtain ⟨w, hw, ew⟩ : ∃ w : Nat, w < 4 ∧ m.tmod 4 = (w : Int) := by
     rw [Xq m9.1];exact ⟨(m % 4).toNat, by omega, by omega⟩
    rw [ew];exact pick w hw H1 h1
   by_cases h8 : m = 8
   ·refine aa (ba h8) ?_
    refine gs ?_;cases hbl : blows
    ·rw [hbl] at other
     refine gs ?_;exact other
    ·refine gs ?_
     refine aW h1 ?_;refine af h1 (UZ p x rp σ K S (by omega) i (by omega)) fun σ2 H2 h2 => ?_;have h2' : ae (pu (AfterR σ σ2 (K + 8)) * (aX p rp σ2 * (aI x σ2 * (blk pb (.cells false [vp p, vp x]) * (blk tb (.cells false (ws.flatMap uh)) * (blk ab (.cells false (ats.map fun (n : Nat) => vi (n : Int))) * (la p x rp ws * (ts 1 i4 (vs lb 4 1) (cq LL) * (d9 LL * Z))))))))) H2 := h2.to;rw [ae.pu] at h2';obtain ⟨A, h3⟩ := h2';refine gs ?_;rw [Bool.not_true];refine gs ?_;refine ah (mh ..) ?_;have := next (K + 8) now rp σ2 ws ats H2 A.si (by omega) (by omega) (W.mono A.c (Nat.le_of_eq A.obs.symm)) (fun a h2 => by have := ha a h2; omega) (hIt hbl σ σ2 ws _ A hI) h3.to;rw [hbl] at this;exact this
   ·refine aa (aC h8) ?_
    refine gs ?_;exact other
  refine ah (xf ..) ?_;refine jW (s := pv) (l := picks) h ?_;rw [show (i : Int).tmod 4 = ((i % 4 : Nat) : Int) from by rw [Xq (by omega)]; omega]
  by_cases hpl : i < picks.length
  ·refine aa (cP (by omega)) ?_
   refine gs ?_;refine kQ (s := pv) (l := picks) (v := vi picks[i]) h hpl rfl ?_;refine yf h (by omega) (by omega) fun H1 h1 => ?_;exact k34 _ H1 (fe (v := picks[i]) (n := 9) (by omega)) h1
  ·refine aa (bW (by omega)) ?_
   refine gs ?_;exact k34 _ H (by omega) h
end
theorem Ug (p x : Nat) (rp : List Nat) (σ : aY) (K : Nat) (S : SI σ K) (hK : K ≤ 16) (lb : Nat) (LL : List (FG × List Cl)) (hL : LL.length = 4) (pv : Value) (picks : List Int) (blows : Bool) (most : Nat) (hm : most ≤ 500)
 (I : aY → List Wk → Prop) (hI0 : I σ [none, none, none, none])
 (hIs : ∀ (σ : aY) (ws : List Wk) (w : Nat) (q : Nat × Nat × Tk) (now : Int) (K : Nat), K < 20000 → SI σ K → ws.length = 4 → ws[w]? = some (some q) → Is σ q.2.2 → I σ ws →
  I (g9 σ q.2.2 now).1 (ws.set w (if (g9 σ q.2.2 now).2.2 = true then none else some (q.1, q.2.1, (g9 σ q.2.2 now).2.1))))
 (hIb : ∀ (σ : aY) (ws : List Wk) (w e xk : Nat) (place : Int) (c : Cl), cJ σ.c = true → ws.length = 4 → ws[w]? = some none → I σ ws → I (σ.begin w place) (ws.set w (some (e, xk, Tk.newA σ.c w c))))
 (hIt : blows = true → ∀ (σ σ' : aY) (ws : List Wk) (k : Nat), AfterR σ σ' k → I σ ws → I σ' ws)
 {Z : SP} [hP : Rd Z pv 1 fp picks] {P : SP} {H : AH} (h : ae P H) [f : Fr P (aX p rp σ * (aI x σ * (ts 1 i4 (vs lb 4 1) (cq LL) * d9 LL))) Z] {k : Value × AH → OV} {Q : Value → AH → Prop}
 (hk : ∀ (b : Bool) (rp' : List Nat) (σ' : aY) (ws' : List Wk) (H' : AH), SI σ' 20000 → I σ' ws' → ae (aX p rp' σ' * (aI x σ' * Z)) H' → wp (k (.tuple #[vb b, vb true], H')) Q) :
 wp ((FF mW [.agg [vp p, vp x].toArray, vs lb 4 1, pv, vi (most : Int), vb blows] H).bind k) Q := by
 have h0 : ae (aX p rp σ * (aI x σ * (ts 1 i4 (vs lb 4 1) (cq LL) * d9 LL)) * Z) H := ae.fr h
 have main : wp (FF mW [.agg [vp p, vp x].toArray, vs lb 4 1, pv, vi (most : Int), vb blows] H) (Uy p x I Z) := by
  refine bm (fun r => Hb _ _ _ _ _ H) ?_;refine be (l := [vp p, vp x]) h0 fun pb H1 h1 => ?_;refine bp h1 fun tb H2 h2 => ?_;refine bp h2 fun ab H4 h4 => ?_;refine ah (zn ..) ?_;refine ah (xa ..) ?_;refine Ns p x pb tb ab lb LL pv picks blows most I (vb false) (vb false) Z hL hm hIs hIb hIt most 0 K 0 rp σ [none, none, none, none] [0, 0, 0, 0] H4 (by omega) S (by omega) (bJ _) ⟨rfl, rfl, fun w hw => ?_⟩ (fun a ha => ?_) hI0 ?_
  ·have : w = 0 ∨ w = 1 ∨ w = 2 ∨ w = 3 := by omega
   rcases this with rfl | rfl | rfl | rfl <;> trivial
  ·simp at ha; omega
  ·show ae (blk pb (.cells false [vp p, vp x]) * (blk tb (.cells false [.pointer none, .pointer none, .pointer none, .pointer none, .pointer none, .pointer none, .pointer none, .pointer none, .pointer none, .pointer none, .pointer none, .pointer none]) * (blk ab (.cells false [vi 0, vi 0, vi 0, vi 0]) * (aX p rp σ * (aI x σ * ((emp * (emp * (emp * (emp * emp)))) * (ts 1 i4 (vs lb 4 1) (cq LL) * (d9 LL * Z)))))))) H4
   exact h4.to
 obtain ⟨v, H', e, b, rp', σ', ws', rfl, S', hI', h'⟩ := main;rw [e];exact hk b rp' σ' ws' H' S' hI' h'
section
variable (x0 x1 x2 x6 x11 x12 x13 x14 : Value) (H : AH)
noncomputable def za (p : List Nat) : Code := Code.sub (bQ Tryz.f6) p
noncomputable def zb : KK := eO PP (Tryz.f6).results.toList
noncomputable def acX : KK := CQ (za [1, 1, 1, 1, 1, 1, 1]) zb bP zb
noncomputable def pg : OV := acX (ls [u, u, u, u, u, u, x6, u, u, u, u, x11, x12] 160) H
noncomputable def WQ : KK := CQ (za [1, 1, 1, 1, 1, 1, 1, 1]) zb bP zb
noncomputable def acV : KK := gY UU WQ
noncomputable def ph : OV := WQ (ls [u, u, u, u, u, u, x6] 166) H
noncomputable def acY : KK := CQ (za [1, 1, 1, 1, 1, 1, 1, 0, 1]) acV bP zb
noncomputable def pi : OV := acY (ls [u, u, u, u, u, u, x6, u, u, u, u, x11, x12, x13] 159) H
noncomputable def WU : KX := BX 0 acV bP
noncomputable def PB : KX := wG UU WU
noncomputable def WR : KK := Iu (za [1, 1, 1, 1, 1, 1, 1, 0, 1, 4, 5]) PB zb
noncomputable def acW : KK := gY FI WR
noncomputable def iv : OV := WR (ls [u, u, u, u, u, u, x6, u, u, u, u, x11, x12, x13] 159) H
noncomputable def acZ : KK := CQ (za [1, 1, 1, 1, 1, 1, 1, 0, 1, 4, 5, 1]) acW PB zb
noncomputable def pj : OV := acZ (ls [u, u, u, u, u, u, x6, u, u, u, u, x11, x12, x13] 159) H
noncomputable def WS : KK := CQ (za [1, 1, 1, 1, 1, 1, 1, 0, 1, 4, 5, 1, 1]) acW PB zb
noncomputable def WP : KK := gY FI WS
noncomputable def dB : OV := WS (ls [u, u, u, u, u, u, x6, u, u, u, u, x11, x12, x13] 159) H
noncomputable def ac1 : KX := BX 1 WP PB
noncomputable def ac2 : KX := wG FI ac1
noncomputable def ac0 : KK := CQ (za [1, 1, 1, 1, 1, 1, 1, 0, 1, 4, 5, 1, 0, 4, 1]) WP ac2 zb
noncomputable def pk : OV := ac0 (ls [u, u, u, u, u, u, x6, u, u, u, u, x11, x12, x13, x14] 158) H
noncomputable def aeM : KX := BX 2 WP ac2
noncomputable def mT : OV := WU 0 (ls [u, u, u, u, u, u, x6] 166) H
theorem oN : av UU zb := rf
theorem aa2 : av 11972621413014756705924586149611790497021399392053183 acX := rc oN aE oN
theorem GZ : av UU WQ := rc oN aE oN
theorem aa3 : av FI acY := rc (cd GZ) aE oN
theorem uV : ∀ i, av UU (WU i) := rb (cd GZ) aE
theorem Aq : av FI WR := rl (cx uV) oN
theorem aa4 : av FI acZ := rc (cd Aq) (cx uV) oN
theorem As : av FI WS := rc (cd Aq) (cx uV) oN
theorem G0 : ∀ i, av FI (ac1 i) := rb (cd As) (cx uV)
theorem aa5 : av 11972621413014756705924586149611790497021399392028607 ac0 := rc (cd As) (cx G0) oN
theorem WT : ∀ i, av FI (aeM i) := rb (cd As) (cx G0)
theorem tk : ph x6 H =
 some ((vb true), H) :=
 (by kernel_rfl)
theorem tn : dB x6 x11 x12 x13 H =
 (ak .other .add x13 (vi 1)).bind fun a =>
 iv x6 x11 x12 a H :=
 (by kernel_rfl)
theorem tp : pk x6 x11 x12 x13 x14 H =
 ld [.i 5 x13, .f 2, .f 0] x12 H fun l =>
 (ak .other .eql l (vi 8)).bind fun c =>
 (gV c true x14).bind fun m =>
 (gB c true (ak .other .lss m (vi 0))).bind fun n =>
 (gV c true n).bind fun j =>
 (gV j false x14).bind fun o =>
 (gB j false (ak .other .geq o (vi 4))).bind fun p =>
 (gB c true (aM j (vb true) p)).bind fun q =>
 (aM c q (vb false)).bind fun s =>
 au s
 (some ((vb false), H))
 (ld [.i 5 x13, .f 2, .f 0] x12 H fun t =>
 (ak .other .eql t (vi 8)).bind fun d =>
 (gV d true x12).bind fun w =>
 (gV d true x13).bind fun y =>
 fI d true  [.i 5 y, .f 1] w H fun z =>
 (gB d true (ak .other .eql z (vi 3))).bind fun A =>
 (aM d A (vb false)).bind fun B =>
 au B
 (ld [.a 4 1 x14] x11 H fun C =>
 (ak .other .neq C (vi 0)).bind fun D =>
 au D
 (some ((vb false), H))
 (ld [.i 5 x13, .f 0] x12 H fun E =>
 (ak .other .add (vi 1) E).bind fun G =>
 st 1 [.a 4 1 x14] x11 G H fun I =>
 dB x6 x11 x12 x13 I))
 (ld [.i 5 x13, .f 2, .f 0] x12 H fun J =>
 (ak .other .eql J (vi 8)).bind fun e =>
 (gV e true x12).bind fun K =>
 (gV e true x13).bind fun L =>
 fI e true  [.i 5 L, .f 1] K H fun M =>
 (gB e true (ak .other .eql M (vi 4))).bind fun N =>
 (aM e N (vb false)).bind fun O =>
 au O
 (ld [.a 4 1 x14] x11 H fun P =>
 (ak .other .eql P (vi 0)).bind fun Q =>
 au Q
 (some ((vb false), H))
 (dB x6 x11 x12 x13 H))
 (ld [.i 5 x13, .f 2, .f 0] x12 H fun R =>
 (ak .other .eql R (vi 8)).bind fun S =>
 au S
 (ld [.a 4 1 x14] x11 H fun T =>
 ld [.i 5 x13, .f 0] x12 H fun U =>
 (ak .other .add (vi 1) U).bind fun V =>
 (ak .other .neq T V).bind fun W =>
 au W
 (some ((vb false), H))
 (st 1 [.a 4 1 x14] x11 (vi 0) H fun X =>
 dB x6 x11 x12 x13 X))
 (ld [.i 5 x13, .f 2, .f 0] x12 H fun Y =>
 (ak .other .eql Y (vi 10)).bind fun g =>
 (gV g true x12).bind fun Z =>
 (gV g true x13).bind fun a0 =>
 fI g true  [.i 5 a0, .f 1] Z H fun a1 =>
 (gB g true (ak .other .eql a1 (vi 2))).bind fun a2 =>
 (aM g a2 (vb false)).bind fun a3 =>
 au a3
 ((ak .other .lss x14 (vi 0)).bind fun k =>
 (gV k false x14).bind fun a4 =>
 (gB k false (ak .other .geq a4 (vi 4))).bind fun a5 =>
 (aM k (vb true) a5).bind fun b =>
 (gV b false x14).bind fun a6 =>
 fI b false  [.a 4 1 a6] x11 H fun a7 =>
 (gV b false x12).bind fun a8 =>
 (gV b false x13).bind fun a9 =>
 fI b false  [.i 5 a9, .f 0] a8 H fun b0 =>
 (gB b false (ak .other .add (vi 1) b0)).bind fun b1 =>
 (gB b false (ak .other .neq a7 b1)).bind fun b2 =>
 (aM b (vb true) b2).bind fun b3 =>
 au b3
 (some ((vb false), H))
 (dB x6 x11 x12 x13 H))
 (dB x6 x11 x12 x13 H))))) :=
 (bt rfl (za [1, 1, 1, 1, 1, 1, 1, 0, 1, 4, 5, 1, 0, 4, 1, 4]) 2 WT (by kernel_rfl))
theorem tm : pj x6 x11 x12 x13 H =
 ld [.i 5 x13, .f 2, .f 1] x12 H fun a =>
 pk x6 x11 x12 x13 a H :=
 (pt rfl 0 As (bt rfl (za [1, 1, 1, 1, 1, 1, 1, 0, 1, 4, 5, 1, 0, 4]) 1 G0 (pt rfl 0 aa5 (by kernel_rfl))))
theorem qx : mT x6 H = ph x6 H :=
 (by kernel_rfl)
theorem mg : iv x6 x11 x12 x13 H =
 gI x12 fun a =>
 (ak .other .lss x13 a).bind fun b =>
 au b
 (pj x6 x11 x12 x13 H)
 (mT x6 H) :=
 Jy rfl Aq (pt rfl 0 aa4 (by kernel_rfl))
theorem tl : pi x6 x11 x12 x13 H =
 iv x6 x11 x12 x13 H :=
 (bt rfl (za [1, 1, 1, 1, 1, 1, 1, 0, 1, 4]) 0 uV (li rfl (za [1, 1, 1, 1, 1, 1, 1, 0, 1, 4, 5]) Aq (by kernel_rfl)))
theorem tj : pg x6 x11 x12 H =
 pi x6 x11 x12 (vi 0) H :=
 (pt rfl 0 GZ (pt rfl 0 aa3 (by kernel_rfl)))
noncomputable def G8 : OV := bi PP GG FF (za []) (ls [x0, x1, x2] 170) H zb bP zb
theorem zi {r : Value × AH} (h : (
 aS (Value.cells x0).toList H fun m k =>
 (ay 5 m k).bind fun o =>
 (FF tx [o, (vi 0)] k).bind fun d =>
 (ag d.1 0).bind fun p =>
 (ag d.1 1).bind fun q =>
 aS [(.pointer none), (.pointer none)] d.2 fun a s =>
 (cB 2 a p s).bind fun w =>
 (FF qC [] w).bind fun b =>
 (oW .not b.1).bind fun e =>
 (gV e false q).bind fun y =>
 (gB e false (oW .not y)).bind fun z =>
 (aM e (vb true) z).bind fun A =>
 au A
 (some ((vb false), b.2))
 ((ay 2 a b.2).bind fun B =>
 (FF mV [x1, (vi 24)] b.2).bind fun g =>
 bS (ay 2 a g.2) (ay 2 a b.2) <|
 (FF PS [x2, (vi 9), (vi 300)] g.2).bind fun i =>
 bS (ay 2 a i.2) (ay 2 a b.2) <|
 (FF mW [B, g.1, i.1, (vi 500), (vb false)] i.2).bind fun c =>
 (ag c.1 0).bind fun J =>
 (ag c.1 1).bind fun C =>
 (oW .not C).bind fun D =>
 au D
 (some ((vb false), c.2))
 (aS [(vi 0), (vi 0), (vi 0), (vi 0)] c.2 fun E j =>
 ld [.f 0] a j fun G =>
 ld [.n, .f 0] G j fun I =>
 (FF gM [I] j).bind fun l =>
 pg (vb false) E l.1 l.2))) = some r) : FF jd [x0, x1, x2] H = some r :=
 fo (t := G8 x0 x1 x2 H) Tryz.func6 (by kernel_rfl) (Eq.trans (pt rfl 6 aa2 (by kernel_rfl)) h)
end
def fO (hd : Int → Int) (x : Ev) : Option (Int → Int) :=
 if x.who < 0 ∨ 3 < x.who then none
 else if x.loc.1 = 8 then
  (if x.loc.2.1 < 0 ∨ 3 < x.loc.2.1 then none
  else if x.kind = 3 then (if hd x.loc.2.1 = 0 then some (fun k => if k = x.loc.2.1 then 1 + x.who else hd k) else none)
  else if x.kind = 4 then (if hd x.loc.2.1 = 0 then none else some hd)
  else (if hd x.loc.2.1 = 1 + x.who then some (fun k => if k = x.loc.2.1 then 0 else hd k) else none))
 else if x.loc.1 = 10 ∧ x.kind = 2 then (if x.loc.2.1 < 0 ∨ 3 < x.loc.2.1 then none else if hd x.loc.2.1 = 1 + x.who then some hd else none)
 else some hd
def sQ : (Int → Int) → List Ev → Option (Int → Int)
 | hd, [] => some hd
 | hd, x :: l => (fO hd x).bind fun hd' => sQ hd' l
theorem S8 {hd hd' : Int → Int} : ∀ {a : List Ev} (b : List Ev) {hd : Int → Int}, sQ hd a = some hd' → sQ hd (a ++ b) = sQ hd' b := by
 intro a
 induction a with
 | nil => intro b hd h; cases h; rfl
 | cons x a ih =>
  intro b hd h;show (fO hd x).bind _ = _;have h2 : (fO hd x).bind (fun hd' => sQ hd' a) = some hd' := h
  cases e : fO hd x with
  | none => rw [e] at h2; cases h2
  | some q => rw [e] at h2; exact ih b h2
def cs (t : Tk) : Prop := t.x.op = 3 ∧ (t.at' = 4 ∨ t.at' = 5) ∨ t.x.op ≠ 3 ∧ 3 ≤ t.at'
def Agr (hd : Int → Int) (μ : Mu) : Prop := ∀ s, 0 ≤ s → s < 4 → (hd s = 0 ↔ μ.V (8, s, 0) = 0)
def QP (who s : Int) (c c' : Prop) (μ μ' : Mu) : Prop :=
 ∀ hd, Agr hd μ → (c → hd s = 1 + who) → ∃ l hd', μ'.E = μ.E ++ l ∧ sQ hd l = some hd' ∧ Agr hd' μ' ∧ (c' → hd' s = 1 + who) ∧ ∀ z, hd z ≠ 0 → hd z ≠ 1 + who → hd' z = hd z
def NM (who : Int) (μ μ' : Mu) : Prop := (∀ s, μ'.V (8, s, 0) = μ.V (8, s, 0)) ∧ ∃ l, μ'.E = μ.E ++ l ∧ ∀ x ∈ l, x.who = who ∧ x.loc.1 ≠ 8 ∧ ¬ (x.loc.1 = 10 ∧ x.kind = 2)
section
variable {who s : Int} {c c' : Prop} {μ μ' : Mu}
theorem abJ (hw : 0 ≤ who ∧ who ≤ 3) {hd : Int → Int} : ∀ {l : List Ev}, (∀ x ∈ l, x.who = who ∧ x.loc.1 ≠ 8 ∧ ¬ (x.loc.1 = 10 ∧ x.kind = 2)) → sQ hd l = some hd := by
 intro l
 induction l with
 | nil => intro _; rfl
 | cons x l ih =>
  intro h;obtain ⟨h1, h2, h3⟩ := h x (List.mem_cons_self ..)
  have e : fO hd x = some hd := by
   unfold fO;rw [if_neg (by omega), if_neg h2, if_neg h3]
  show (fO hd x).bind _ = _;rw [e];exact ih fun y hy => h y (List.mem_cons_of_mem _ hy)
theorem abB (hw : 0 ≤ who ∧ who ≤ 3) (n : NM who μ μ') (hc : c' → c) : QP who s c c' μ μ' := by
 intro hd ha hcs;obtain ⟨hv, l, e, hl⟩ := n;exact ⟨l, hd, e, abJ hw hl, fun z h1 h2 => by rw [hv]; exact ha z h1 h2, fun h => hcs (hc h), fun _ _ _ => rfl⟩
theorem EN (hw : 0 ≤ who ∧ who ≤ 3) (hs : 0 ≤ s ∧ s < 4) (h0 : μ.V (8, s, 0) = 0) : QP who s c c' μ (μ.swp who (8, s, 0) 0 1) := by
 intro hd ha hcs;have hz : hd s = 0 := (ha s hs.1 hs.2).2 h0
 have e : μ.swp who (8, s, 0) 0 1 = (μ.acc who 3 (8, s, 0)).put (8, s, 0) 1 := by
  show (⟨_, _, _⟩ : Mu) = _;unfold Mu.swap;rw [if_pos h0]
 refine ⟨[⟨who, 3, (8, s, 0)⟩], fun k => if k = s then 1 + who else hd k, by rw [e], ?_, fun z h1 h2 => ?_, fun _ => if_pos rfl, fun z h1 _ => ?_⟩
 ·show (fO hd _).bind _ = _
  unfold fO;dsimp only;rw [if_neg (by omega), if_pos rfl, if_neg (by omega), if_pos rfl, if_pos hz]
  rfl
 ·rw [e]
  show (if z = s then 1 + who else hd z) = 0 ↔ (if ((8 : Int), z, (0 : Int)) = (8, s, 0) then 1 else μ.V (8, z, 0)) = 0
  by_cases hzs : z = s
  ·subst hzs
   rw [if_pos rfl, if_pos rfl];omega
  ·rw [if_neg hzs, if_neg (fun h => hzs (by injection h with _ h; injection h))]
   exact ha z h1 h2
 ·exact if_neg (fun h => h1 (by rw [h]; exact hz))
theorem EM (hw : 0 ≤ who ∧ who ≤ 3) (hs : 0 ≤ s ∧ s < 4) (h0 : μ.V (8, s, 0) ≠ 0) (hc : ¬ c') : QP who s c c' μ (μ.swp who (8, s, 0) 0 1) := by
 intro hd ha hcs;have hz : ¬ hd s = 0 := fun h => h0 ((ha s hs.1 hs.2).1 h)
 have e : μ.swp who (8, s, 0) 0 1 = μ.acc who 4 (8, s, 0) := by
  show (⟨_, _, _⟩ : Mu) = _;unfold Mu.swap;rw [if_neg h0]
 refine ⟨[⟨who, 4, (8, s, 0)⟩], hd, by rw [e], ?_, fun z h1 h2 => ?_, fun h => absurd h hc, fun z _ _ => rfl⟩
 ·show (fO hd _).bind _ = _
  unfold fO;dsimp only;rw [if_neg (by omega), if_pos rfl, if_neg (by omega), if_neg (by omega), if_pos rfl, if_neg hz]
  rfl
 ·rw [e]
  exact ha z h1 h2
theorem Cb (hw : 0 ≤ who ∧ who ≤ 3) (hs : 0 ≤ s ∧ s < 4) (h : c) (hc : ¬ c') : QP who s c c' μ ((μ.acc who 2 (8, s, 0)).put (8, s, 0) 0) := by
 intro hd ha hcs;have hz := hcs h;refine ⟨[⟨who, 2, (8, s, 0)⟩], fun k => if k = s then 0 else hd k, rfl, ?_, fun z h1 h2 => ?_, fun h => absurd h hc, fun z h1 h2 => ?_⟩
 ·show (fO hd _).bind _ = _
  unfold fO;dsimp only;rw [if_neg (by omega), if_pos rfl, if_neg (by omega), if_neg (by omega), if_neg (by omega), if_pos hz]
  rfl
 ·show (if z = s then 0 else hd z) = 0 ↔ (if ((8 : Int), z, (0 : Int)) = (8, s, 0) then 0 else μ.V (8, z, 0)) = 0
  by_cases hzs : z = s
  ·subst hzs
   rw [if_pos rfl, if_pos rfl];simp
  ·rw [if_neg hzs, if_neg (fun h => hzs (by injection h with _ h; injection h))]
   exact ha z h1 h2
 ·exact if_neg (fun e => h2 (by rw [e]; exact hz))
theorem EO (hw : 0 ≤ who ∧ who ≤ 3) (hs : 0 ≤ s ∧ s < 4) (h : c) (i : Int) (v : Nat) : QP who s c c' μ ((μ.acc who 2 (10, s, i)).put (10, s, i) v) := by
 intro hd ha hcs;have hz := hcs h;refine ⟨[⟨who, 2, (10, s, i)⟩], hd, rfl, ?_, fun z h1 h2 => ?_, fun _ => hz, fun z _ _ => rfl⟩
 ·show (fO hd _).bind _ = _
  unfold fO;dsimp only;rw [if_neg (by omega), if_neg (by omega), if_pos ⟨rfl, rfl⟩, if_neg (by omega), if_pos hz]
  rfl
 ·show hd z = 0 ↔ (if ((8 : Int), z, (0 : Int)) = (10, s, i) then v else μ.V (8, z, 0)) = 0
  rw [if_neg (by simp)];exact ha z h1 h2
theorem cO (who kd : Int) (l : cZ) (μ : Mu) (h1 : l.1 ≠ 8) (h2 : ¬ (l.1 = 10 ∧ kd = 2)) : NM who μ (μ.acc who kd l) :=
 ⟨fun _ => rfl, [⟨who, kd, l⟩], rfl, fun x hx => by
  rw [List.mem_singleton] at hx;subst hx
  exact ⟨rfl, h1, h2⟩⟩
theorem Hk (l : cZ) (v : Nat) (n : NM who μ μ') (h1 : l.1 ≠ 8) : NM who μ (μ'.put l v) := by
 obtain ⟨hv, q⟩ := n;refine ⟨fun z => ?_, q⟩;show (if ((8 : Int), z, (0 : Int)) = l then v else μ'.V (8, z, 0)) = _;rw [if_neg (fun e => h1 (by rw [← e]))];exact hv z
theorem XS (who : Int) (l : cZ) (a b : Nat) (μ : Mu) (h1 : l.1 ≠ 8) (h2 : l.1 ≠ 10) : NM who μ (μ.swp who l a b) := by
 have e : μ.swp who l a b = (if μ.V l = a then (μ.acc who 3 l).put l b else μ.acc who 4 l) := by
  show (⟨_, _, _⟩ : Mu) = _;unfold Mu.swap
  split <;> rfl
 rw [e]
 split
 ·exact Hk _ _ (cO _ _ _ _ h1 (fun h => h2 h.1)) h1
 ·exact cO _ _ _ _ h1 (fun h => h2 h.1)
theorem Hl (who : Int) (μ : Mu) : NM who μ μ := ⟨fun _ => rfl, [], by simp, fun x hx => by simp at hx⟩
theorem r4 (who : Int) (o w how : Nat) (μ : Mu) : NM who μ (μ.turn who o w (aP w how)) := by
 cases e : aP w how with
 | none => exact Hl _ _
 | some n => exact XS who (11, (o : Int), 0) w n μ (by simp) (by simp)
theorem Ml (who : Int) (l : cZ) (n : Nat) (μ : Mu) (h1 : l.1 ≠ 8) (h2 : ¬ (l.1 = 10 ∧ (3 : Int) = 2)) : NM who μ (μ.cnt who l n) := Hk _ _ (cO _ _ _ _ h1 h2) h1
end
def Ef (σ : aY) (t : Tk) (r : aY × Tk × Bool) : Prop := r.2.1.who = t.who ∧ r.2.1.s = t.s ∧ QP t.who t.s (cs t) (r.2.2 = false ∧ cs r.2.1) σ.μ r.1.μ
section
variable {σ : aY} {t : Tk} {r : aY × Tk × Bool}
theorem eD (hw : 0 ≤ t.who ∧ t.who ≤ 3) (n : NM t.who σ.μ r.1.μ) (h1 : r.2.1.who = t.who) (h2 : r.2.1.s = t.s) (h3 : r.2.2 = false → cs r.2.1 → cs t) : Ef σ t r :=
 ⟨h1, h2, abB hw n fun h => h3 h.1 h.2⟩
theorem Nj (hw : 0 ≤ t.who ∧ t.who ≤ 3) (hs : 0 ≤ t.s ∧ t.s < 4) (ho : t.x.op = 3) (now : Int) : Ef σ t (am σ t now) := by
 have nc : ∀ {t' : Tk}, t'.x = t.x → t'.at' ≠ 4 ∧ t'.at' ≠ 5 → ¬ cs t' := by
  intro t' e h hc
  rcases hc with ⟨_, h4⟩ | ⟨h3, _⟩
  ·omega
  ·rw [e] at h3; exact h3 ho
 unfold am;dsimp only
 split
 ·rename_i hat
  split
  ·exact eD hw (Hl _ _) rfl rfl (fun h _ => by cases h)
  ·refine eD hw (cO _ _ _ _ (by simp) (by simp)) rfl rfl (fun _ h => absurd h (nc rfl ?_))
   dsimp only
   split
   ·omega
   ·split <;> omega
 ·refine eD hw (cO _ _ _ _ (by simp) (by simp)) rfl rfl (fun _ h => absurd h (nc rfl ?_))
  dsimp only
  split
  ·omega
  ·split <;> omega
 ·rename_i hat
  by_cases h0 : σ.μ.V (8, t.s, 0) = 0
  ·refine ⟨by rw [if_pos h0], by rw [if_pos h0], EN hw hs h0⟩
  ·refine ⟨by rw [if_neg h0], by rw [if_neg h0], EM hw hs h0 fun h => ?_⟩
   dsimp only at h;rw [if_neg h0] at h;exact absurd h.2 (nc rfl ⟨by omega, by omega⟩)
 ·rename_i hat
  have hc : cs t := .inl ⟨ho, .inl hat⟩
  split
  ·exact eD hw (cO _ _ _ _ (by simp) (by simp)) rfl rfl (fun _ _ => hc)
  ·split
   ·exact eD hw (cO _ _ _ _ (by simp) (by simp)) rfl rfl (fun _ _ => hc)
   ·exact eD hw (cO _ _ _ _ (by simp) (by simp)) rfl rfl (fun _ _ => hc)
 ·rename_i hat
  exact ⟨rfl, rfl, Cb hw hs (.inl ⟨ho, .inr hat⟩) fun h => absurd h.2 (nc rfl (by dsimp only; omega))⟩
 ·exact eD hw (cO _ _ _ _ (by simp) (by simp)) rfl rfl (fun _ h => absurd h (nc rfl (by dsimp only; omega)))
 ·refine eD hw (cO _ _ _ _ (by simp) (by simp)) rfl rfl (fun _ h => absurd h (nc rfl ?_))
  dsimp only
  split <;> omega
 ·refine eD hw (cO _ _ _ _ (by simp) (by simp)) rfl rfl (fun _ h => absurd h (nc rfl ?_))
  dsimp only
  split
  ·omega
  ·split <;> omega
 ·split
  ·exact eD hw (r4 _ _ _ _ _) rfl rfl (fun _ h => absurd h (nc rfl (by dsimp only; omega)))
  ·exact eD hw (r4 _ _ _ _ _) rfl rfl (fun _ h => absurd h (nc rfl (by dsimp only; omega)))
 ·exact eD hw (cO _ _ _ _ (by simp) (by simp)) rfl rfl (fun _ h => absurd h (nc rfl (by dsimp only; omega)))
 ·exact eD hw (Hk _ _ (cO _ _ _ _ (by simp) (by simp)) (by simp)) rfl rfl (fun h _ => by cases h)
 ·exact eD hw (Ml _ _ _ _ (by simp) (by simp)) rfl rfl (fun _ h => absurd h (nc rfl (by dsimp only; omega)))
 ·split
  ·exact eD hw (r4 _ _ _ _ _) rfl rfl (fun _ h => absurd h (nc rfl (by dsimp only; omega)))
  ·exact eD hw (r4 _ _ _ _ _) rfl rfl (fun _ h => absurd h (nc rfl (by dsimp only; omega)))
 ·exact eD hw (cO _ _ _ _ (by simp) (by simp)) rfl rfl (fun _ h => absurd h (nc rfl (by dsimp only; omega)))
 ·refine eD hw (cO _ _ _ _ (by simp) (by simp)) rfl rfl (fun _ h => absurd h (nc rfl ?_))
  dsimp only
  split <;> omega
 ·refine eD hw (cO _ _ _ _ (by simp) (by simp)) rfl rfl (fun _ h => absurd h (nc rfl ?_))
  dsimp only
  split <;> omega
 ·split
  ·exact eD hw (cO _ _ _ _ (by simp) (by simp)) rfl rfl (fun _ h => absurd h (nc rfl (by dsimp only; omega)))
  ·exact eD hw (cO _ _ _ _ (by simp) (by simp)) rfl rfl (fun _ h => absurd h (nc rfl (by dsimp only; omega)))
 ·split
  ·exact eD hw (cO _ _ _ _ (by simp) (by simp)) rfl rfl (fun h _ => by cases h)
  ·exact eD hw (cO _ _ _ _ (by simp) (by simp)) rfl rfl (fun _ h => absurd h (nc rfl (by dsimp only; omega)))
 ·exact eD hw (Ml _ _ _ _ (by simp) (by simp)) rfl rfl (fun _ h => absurd h (nc rfl (by dsimp only; omega)))
 ·exact eD hw (Hk _ _ (cO _ _ _ _ (by simp) (by simp)) (by simp)) rfl rfl (fun _ h => absurd h (nc rfl (by dsimp only; omega)))
 ·exact eD hw (cO _ _ _ _ (by simp) (by simp)) rfl rfl (fun _ h => absurd h (nc rfl (by dsimp only; omega)))
 ·exact eD hw (cO _ _ _ _ (by simp) (by simp)) rfl rfl (fun _ h => absurd h (nc rfl (by dsimp only; omega)))
 ·refine eD hw (XS _ _ _ _ _ (by simp) (by simp)) rfl rfl (fun _ h => absurd h (nc rfl ?_))
  dsimp only
  split <;> omega
 ·exact eD hw (Ml _ _ _ _ (by simp) (by simp)) rfl rfl (fun h _ => by cases h)
theorem Co (hw : 0 ≤ t.who ∧ t.who ≤ 3) (hs : 0 ≤ t.s ∧ t.s < 4) (ho : t.x.op ≠ 3) : Ef σ t (eZ σ t) := by
 refine ⟨rfl, rfl, ?_⟩
 by_cases h0 : σ.μ.V (8, t.s, 0) = 0
 ·exact EN hw hs h0
 ·refine EM hw hs h0 fun h => ?_
  rcases h.2 with ⟨h1, _⟩ | ⟨_, h2⟩
  ·exact ho h1
  ·have h2 : 3 ≤ (if σ.μ.V (8, t.s, 0) = 0 then 3 else 2 : Nat) := h2
   rw [if_neg h0] at h2;omega
theorem Nk (hw : 0 ≤ t.who ∧ t.who ≤ 3) (hs : 0 ≤ t.s ∧ t.s < 4) (ho : t.x.op ≠ 3) (T : lz σ t) (now : Int) : Ef σ t (ax σ t now) := by
 have hats := T.ats;unfold ax
 split
 ·split
  ·exact eD hw (Hl _ _) rfl rfl (fun h _ => by cases h)
  ·exact Co hw hs ho
 ·exact Co hw hs ho
 ·rename_i hat
  have hc : cs t := .inr ⟨ho, by omega⟩;dsimp only;have n : NM t.who σ.μ (aV σ t).μ := cO _ _ _ _ (by simp) (by simp)
  split
  ·split
   ·exact eD hw n rfl rfl (fun _ _ => hc)
   ·exact eD hw n rfl rfl (fun _ _ => hc)
  ·split
   ·split
    ·split
     ·exact eD hw n rfl rfl (fun _ _ => hc)
     ·exact eD hw n rfl rfl (fun _ _ => hc)
    ·exact eD hw n rfl rfl (fun _ _ => hc)
   ·exact eD hw n rfl rfl (fun _ _ => hc)
 ·rename_i h1 h2 h3
  have h1 : ¬ t.at' = 0 := h1;have h2 : ¬ t.at' = 2 := h2;have h3 : ¬ t.at' = 3 := h3;have hc : cs t := .inr ⟨ho, by omega⟩
  split
  ·unfold zY
   split
   ·exact eD hw (cO _ _ _ _ (by simp) (by simp)) rfl rfl (fun _ _ => hc)
   ·exact ⟨rfl, rfl, EO hw hs hc _ _⟩
   ·exact ⟨rfl, rfl, Cb hw hs hc fun h => by cases h.1⟩
  ·unfold fN
   split
   ·exact eD hw (cO _ _ _ _ (by simp) (by simp)) rfl rfl (fun _ _ => hc)
   ·exact eD hw (cO _ _ _ _ (by simp) (by simp)) rfl rfl (fun _ _ => hc)
   ·exact eD hw (cO _ _ _ _ (by simp) (by simp)) rfl rfl (fun _ _ => hc)
   ·split
    ·exact eD hw (cO _ _ _ _ (by simp) (by simp)) rfl rfl (fun _ _ => hc)
    ·exact eD hw (cO _ _ _ _ (by simp) (by simp)) rfl rfl (fun _ _ => hc)
   ·dsimp only
    split
    ·exact eD hw (r4 _ _ _ _ _) rfl rfl (fun _ _ => hc)
    ·exact eD hw (r4 _ _ _ _ _) rfl rfl (fun _ _ => hc)
   ·exact ⟨rfl, rfl, EO hw hs hc _ _⟩
   ·exact ⟨rfl, rfl, Cb hw hs hc fun h => by cases h.1⟩
theorem Is.s {σ : aY} {t : Tk} (T : Is σ t) : t.s = (t.x.flow.tmod σ.c.sh + σ.c.sh).tmod σ.c.sh := by
 by_cases ho : t.x.op = 3
 ·exact (T.e ho).s
 ·exact (T.r ho).s
theorem YS (hc : cJ σ.c = true) (f : Int) : 0 ≤ (f.tmod σ.c.sh + σ.c.sh).tmod σ.c.sh ∧ (f.tmod σ.c.sh + σ.c.sh).tmod σ.c.sh < 4 := by
 have h := bF.1 hc;have q := AN f (n := σ.c.sh) h.1;have q2 := AN (f.tmod σ.c.sh + σ.c.sh) (n := σ.c.sh) h.1;exact ⟨Int.tmod_nonneg _ (by omega), by omega⟩
theorem Nh (hc : cJ σ.c = true) (hw : 0 ≤ t.who ∧ t.who ≤ 3) (T : Is σ t) (now : Int) : Ef σ t (g9 σ t now) := by
 have hs : 0 ≤ t.s ∧ t.s < 4 := by rw [T.s]; exact YS hc _
 by_cases ho : t.x.op = 3
 ·rw [show g9 σ t now = am σ t now from if_pos ho]
  exact Nj hw hs ho now
 ·rw [show g9 σ t now = ax σ t now from if_neg ho]
  exact Nk hw hs ho (T.r ho) now
end
def MI (σ : aY) (ws : List Wk) : Prop := ∃ hd, sQ (fun _ => 0) σ.μ.E = some hd ∧ Agr hd σ.μ ∧ ∀ (w : Nat) (q : Nat × Nat × Tk), ws[w]? = some (some q) → q.2.2.who = w ∧ (cs q.2.2 → hd q.2.2.s = 1 + (w : Int))
theorem MI.step {σ : aY} {ws : List Wk} {w : Nat} {q : Nat × Nat × Tk} {r : aY × Tk × Bool} (hl : ws.length = 4) (hw : ws[w]? = some (some q)) (G : Ef σ q.2.2 r) (M : MI σ ws) :
 MI r.1 (ws.set w (if r.2.2 = true then none else some (q.1, q.2.1, r.2.1))) := by
 obtain ⟨hd, e, ha, h⟩ := M;obtain ⟨g1, g2, g3⟩ := G;obtain ⟨h1, h2⟩ := h w q hw
 have hwl : w < ws.length := by
  rcases Nat.lt_or_ge w ws.length with h | h
  ·exact h
  ·rw [List.getElem?_eq_none h] at hw; cases hw
 obtain ⟨l, hd', e1, e2, e3, e4, e5⟩ := g3 hd ha (fun hc => by rw [h1]; exact h2 hc);refine ⟨hd', by rw [e1, S8 (hd := hd) l e]; exact e2, e3, fun w' q' hq => ?_⟩
 by_cases hww : w' = w
 ·subst hww
  rw [List.getElem?_set_self hwl] at hq;cases hd2 : r.2.2
  ·rw [hd2, if_neg (by simp)] at hq
   have hq2 : (q.1, q.2.1, r.2.1) = q' := e7 (e7 hq);subst hq2;refine ⟨by show r.2.1.who = _; rw [g1]; exact h1, fun hc => ?_⟩;show hd' r.2.1.s = _;rw [g2, e4 ⟨hd2, hc⟩, h1]
  ·rw [hd2, if_pos rfl] at hq
   cases hq
 ·rw [List.getElem?_set_ne (fun h => hww h.symm)] at hq
  obtain ⟨k1, k2⟩ := h w' q' hq;refine ⟨k1, fun hc => ?_⟩;have k3 := k2 hc;rw [e5 _ (by omega) (by omega)];exact k3
theorem MI.begin {σ : aY} {ws : List Wk} {w e xk : Nat} {place : Int} {c : Cl} (hl : ws.length = 4) (hw : ws[w]? = some none) (M : MI σ ws) : MI (σ.begin w place) (ws.set w (some (e, xk, Tk.newA σ.c w c))) := by
 obtain ⟨hd, e0, ha, h⟩ := M
 have hwl : w < ws.length := by
  rcases Nat.lt_or_ge w ws.length with h | h
  ·exact h
  ·rw [List.getElem?_eq_none h] at hw; cases hw
 refine ⟨hd, e0, ha, fun w' q' hq => ?_⟩
 by_cases hww : w' = w
 ·subst hww
  rw [List.getElem?_set_self hwl] at hq;have hq2 : (e, xk, Tk.newA σ.c w' c) = q' := e7 (e7 hq);subst hq2;show (Tk.newA σ.c w' c).who = _ ∧ (cs (Tk.newA σ.c w' c) → _);unfold Tk.newA
  split
  ·exact ⟨rfl, fun hc => by rcases hc with ⟨_, h4⟩ | ⟨_, h4⟩ <;> simp at h4⟩
  ·exact ⟨rfl, fun hc => by rcases hc with ⟨_, h4⟩ | ⟨_, h4⟩ <;> simp at h4⟩
 ·rw [List.getElem?_set_ne (fun h => hww h.symm)] at hq
  exact h w' q' hq
theorem MI.start (c : iX) : MI (aY.made c 0) [none, none, none, none] := by
 refine ⟨fun _ => 0, rfl, fun s _ _ => ⟨fun _ => rfl, fun _ => rfl⟩, fun w q hq => ?_⟩
 have : w = 0 ∨ w = 1 ∨ w = 2 ∨ w = 3 ∨ 4 ≤ w := by omega
 rcases this with rfl | rfl | rfl | rfl | h
 ·cases hq
 ·cases hq
 ·cases hq
 ·cases hq
 ·rw [List.getElem?_eq_none h] at hq; cases hq
section
variable {α : Type} {P : SP} {H : AH} {e : Nat} {enc : α → List Value} {l : List α} {s : Value} {Q : Value → AH → Prop}
theorem lx {k : Value → OV} {i a b : Nat} {kk : IntKind} {v : Value} (h : ae P H) [r : Rd P s e enc l] [E : Enc enc e] (hi : i < l.length) (hg : a + b < e) (hv : (enc l[i])[a + b]? = some v) (hk : wp (k v) Q) : wp (ld [.i e (.int kk (i : Int)), .f a, .f b] s H k) Q := by
 obtain ⟨c, o, ro, row, rfl, h2, h3, h4⟩ := xS (s := s) (enc := enc) (l := l) h hi;unfold ld;rw [KP hi, ZO, ZO];show wp ((aq (oy c (o + i * e + a + b)) H).bind k) Q
 have : aq (oy c (o + i * e + a + b)) H = some v := by
  simp only [aq, sq, dL, bG, h2];rw [Nat.add_assoc, HV h4 hi hg, hv]
 rw [this];exact hk
end
def Jp (hd : Int → Int) : List Value := [vi (hd 0), vi (hd 1), vi (hd 2), vi (hd 3)]
theorem rV (hd : Int → Int) {w : Nat} (h : w < 4) : (Jp hd)[w]? = some (vi (hd w)) := by
 have : w = 0 ∨ w = 1 ∨ w = 2 ∨ w = 3 := by omega
 rcases this with rfl | rfl | rfl | rfl <;> rfl
theorem EP (hd : Int → Int) {w : Nat} (h : w < 4) (v : Int) : (Jp hd).set w (vi v) = Jp fun k => if k = (w : Int) then v else hd k := by
 have : w = 0 ∨ w = 1 ∨ w = 2 ∨ w = 3 := by omega
 rcases this with rfl | rfl | rfl | rfl <;> rfl
theorem Mj {ab : Nat} {ev : Value} {E : List Ev} (hE : E.length ≤ 100000) (x6 : Value) : ∀ (d i : Nat) (hd hd2 : Int → Int) (H : AH), i + d = E.length → sQ hd (E.drop i) = some hd2 → ae (blk ab (.cells false (Jp hd)) * ts 5 Ev.cells ev E) H →
 wp (iv x6 (vp ab) ev (vi (i : Int)) H) fun v' _ => v' = vb true := by
 intro d
 induction d with
 | zero =>
  intro i hd hd2 H hi hm h;refine ah (mg ..) ?_;refine jW (s := ev) (l := E) h ?_;refine aa (bW (by omega)) ?_;refine gs ?_;refine ah (qx ..) ?_;refine ah (tk ..) ?_;exact ap rfl
 | succ d ih =>
  intro i hd hd2 H hi hm h
  have hil : i < E.length := by omega
  rw [List.drop_eq_getElem_cons hil] at hm;obtain ⟨x, hx⟩ : ∃ x, x = E[i] := ⟨_, rfl⟩;rw [← hx] at hm;have hm' : (fO hd x).bind (fun hd' => sQ hd' (E.drop (i + 1))) = some hd2 := hm
  obtain ⟨hd', hs⟩ : ∃ hd', fO hd x = some hd' := by
   cases e : fO hd x with
   | none => rw [e] at hm'; cases hm'
   | some q => exact ⟨q, rfl⟩
  rw [hs] at hm'
  have next : ∀ (H' : AH), ae (blk ab (.cells false (Jp hd')) * ts 5 Ev.cells ev E) H' → wp (dB x6 (vp ab) ev (vi (i : Int)) H') fun v' _ => v' = vb true := by
   intro H' h';refine ah (tn ..) ?_;refine aa (aR (by omega) (by omega)) ?_;rw [show ((i : Nat) : Int) + 1 = ((i + 1 : Nat) : Int) from by omega];exact ih (i + 1) hd' hd2 H' (by omega) hm' h'
  obtain ⟨who, kind, a, b, c⟩ := x;unfold fO at hs;dsimp only at hs
  by_cases hwho : who < 0 ∨ 3 < who
  ·rw [if_pos hwho] at hs; cases hs
  rw [if_neg hwho] at hs
  have c0 : (Ev.cells E[i])[0]? = some (vi who) := by rw [← hx]; rfl
  have c1 : (Ev.cells E[i])[1]? = some (vi kind) := by rw [← hx]; rfl
  have c2 : (Ev.cells E[i])[2 + 0]? = some (vi a) := by rw [← hx]; rfl
  have c3 : (Ev.cells E[i])[2 + 1]? = some (vi b) := by rw [← hx]; rfl
  refine ah (mg ..) ?_;refine jW (s := ev) (l := E) h ?_;refine aa (cP (by omega)) ?_;refine gs ?_;refine ah (tm ..) ?_;refine lx (s := ev) (l := E) (v := vi b) h hil (by omega) c3 ?_;refine ah (tp ..) ?_;refine lx (s := ev) (l := E) (v := vi a) h hil (by omega) c2 ?_
  by_cases h8 : a = 8
  ·rw [if_pos h8] at hs
   by_cases hb : b < 0 ∨ 3 < b
   ·rw [if_pos hb] at hs; cases hs
   rw [if_neg hb] at hs;obtain ⟨w, hw, hw4⟩ : ∃ w : Nat, b = (w : Int) ∧ w < 4 := ⟨b.toNat, by omega, by omega⟩;subst hw;refine aa (ba h8) ?_;refine gs ?_;refine aa (bW (by omega)) ?_;refine gs ?_;refine aa (mf (by omega)) ?_;refine gs ?_;refine lx (s := ev) (l := E) (v := vi a) h hil (by omega) c2 ?_;refine aa (ba h8) ?_;refine gs ?_;refine rm (s := ev) (l := E) (g := 1) (v := vi kind) h hil (by omega) c1 ?_;refine gs ?_
   by_cases h3 : kind = 3
   ·rw [if_pos h3] at hs
    by_cases hz : hd (w : Int) = 0
    case neg => rw [if_neg hz] at hs; cases hs
    rw [if_pos hz] at hs;refine aa (ba h3) ?_;refine gs ?_;refine wD (v := vi (hd w)) h hw4 (rV hd hw4) ?_;refine aa (sR hz) ?_;refine gs ?_;refine rm (s := ev) (l := E) (g := 0) (v := vi who) h hil (by omega) c0 ?_;refine aa (aR (by omega) (by omega)) ?_;refine Zl (v := vi (1 + who)) (w := w) h hw4 rfl rfl fun H2 h2 => ?_;rw [EP hd hw4] at h2;exact next H2 (by rw [← e7 hs]; exact h2.to)
   ·rw [if_neg h3] at hs
    refine aa (aC h3) ?_;refine gs ?_;refine lx (s := ev) (l := E) (v := vi a) h hil (by omega) c2 ?_;refine aa (ba h8) ?_;refine gs ?_;refine rm (s := ev) (l := E) (g := 1) (v := vi kind) h hil (by omega) c1 ?_;refine gs ?_
    by_cases h4 : kind = 4
    ·rw [if_pos h4] at hs
     by_cases hz : hd (w : Int) = 0
     ·rw [if_pos hz] at hs; cases hs
     rw [if_neg hz] at hs;refine aa (ba h4) ?_;refine gs ?_;refine wD (v := vi (hd w)) h hw4 (rV hd hw4) ?_;refine aa (aC hz) ?_;refine gs ?_;exact next H (by rw [← e7 hs]; exact h)
    ·rw [if_neg h4] at hs
     by_cases hz : hd (w : Int) = 1 + who
     case neg => rw [if_neg hz] at hs; cases hs
     rw [if_pos hz] at hs;refine aa (aC h4) ?_;refine gs ?_;refine lx (s := ev) (l := E) (v := vi a) h hil (by omega) c2 ?_;refine aa (ba h8) ?_;refine gs ?_;refine wD (v := vi (hd w)) h hw4 (rV hd hw4) ?_;refine rm (s := ev) (l := E) (g := 0) (v := vi who) h hil (by omega) c0 ?_;refine aa (aR (by omega) (by omega)) ?_;refine aa (sR hz) ?_;refine gs ?_;refine Zl (v := vi 0) (w := w) h hw4 rfl rfl fun H2 h2 => ?_;rw [EP hd hw4] at h2;exact next H2 (by rw [← e7 hs]; exact h2.to)
  ·rw [if_neg h8] at hs
   refine aa (aC h8) ?_;refine gs ?_;refine lx (s := ev) (l := E) (v := vi a) h hil (by omega) c2 ?_;refine aa (aC h8) ?_;refine gs ?_;refine lx (s := ev) (l := E) (v := vi a) h hil (by omega) c2 ?_;refine aa (aC h8) ?_;refine gs ?_;refine lx (s := ev) (l := E) (v := vi a) h hil (by omega) c2 ?_;refine aa (aC h8) ?_;refine gs ?_;refine lx (s := ev) (l := E) (v := vi a) h hil (by omega) c2 ?_
   by_cases h10 : a = 10
   ·refine aa (ba h10) ?_
    refine gs ?_;refine rm (s := ev) (l := E) (g := 1) (v := vi kind) h hil (by omega) c1 ?_;refine gs ?_
    by_cases h2 : kind = 2
    ·rw [if_pos ⟨h10, h2⟩] at hs
     by_cases hb : b < 0 ∨ 3 < b
     ·rw [if_pos hb] at hs; cases hs
     rw [if_neg hb] at hs;obtain ⟨w, hw, hw4⟩ : ∃ w : Nat, b = (w : Int) ∧ w < 4 := ⟨b.toNat, by omega, by omega⟩;subst hw
     by_cases hz : hd (w : Int) = 1 + who
     case neg => rw [if_neg hz] at hs; cases hs
     rw [if_pos hz] at hs;refine aa (ba h2) ?_;refine gs ?_;refine aa (bW (by omega)) ?_;refine gs ?_;refine aa (mf (by omega)) ?_;refine gs ?_;refine wD (v := vi (hd w)) h hw4 (rV hd hw4) ?_;refine gs ?_;refine rm (s := ev) (l := E) (g := 0) (v := vi who) h hil (by omega) c0 ?_;refine gs ?_;refine aa (aR (by omega) (by omega)) ?_;refine gs ?_;refine aa (sR hz) ?_;refine gs ?_;exact next H (by rw [← e7 hs]; exact h)
    ·rw [if_neg (fun q => h2 q.2)] at hs
     refine aa (aC h2) ?_;refine gs ?_;exact next H (by rw [← e7 hs]; exact h)
   ·rw [if_neg (fun q => h10 q.1)] at hs
    refine aa (aC h10) ?_;refine gs ?_;exact next H (by rw [← e7 hs]; exact h)
theorem Yy {H0 : AH} (hT : H0.get 0 = some (.cells true tabC)) (c : iX) (s : Value) (L : List Cl) [hR : Rd (fix H0) s 4 Cl.cells L] (s3 : Value) (l3 : List Int) [hR3 : Rd (fix H0) s3 1 fp l3] :
 ∃ H', FF jd [.agg (iX.cells c).toArray, s, s3] H0 = some (vb true, H') := by
 have key : wp (FF jd [.agg (iX.cells c).toArray, s, s3] H0) fun v' _ => v' = vb true := by
  haveI := UP hT
  refine bm (fun r => zi _ _ _ H0) ?_;refine be (l := iX.cells c) (SU H0) fun b1 H1 h1 => ?_;refine aW h1 ?_;refine af h1 (Xu c 0 (by omega)) fun q H3 h3 => ?_;obtain ⟨p, x, c'⟩ := q;dsimp only at h3 ⊢;rw [aj, ae.pu] at h3;obtain ⟨hc, h3⟩ := h3;refine aa (v := .agg [vp p, vp x].toArray) rfl ?_;refine aa (v := vb true) rfl ?_;refine bp h3 fun pb H4 h4 => ?_;refine eW h4 rfl rfl fun H5 h5 => ?_;refine Uh h5 fun H6 h6 => ?_;refine gs ?_;rw [Bool.not_true];refine gs ?_;rw [Bool.not_true];refine gs ?_;refine aW h6 ?_;have M := XC c' hc 0 (by omega);have M16 : SI (aY.made c' 0) 16 := M.si.mono (by omega);obtain ⟨rp, h7⟩ := Yb (p := p) (σ := aY.made c' 0) (R := blk pb (.cells false [vp p, vp x]) * (aI x (aY.made c' 0) * (blk b1 (.cells false (iX.cells c)) * fix H0))) (H := H6) h6.to;refine agA (s := s) (L := L) 24 (by omega) h7 fun lb LL H8 hL _ h8 => ?_;refine dQ h8 h7 rfl ?_;refine Tm (s := s3) (l := l3) 9 300 (by omega) (by omega) h8 fun pv o H9 ho hov h9 => ?_;refine dQ h9 h7 rfl ?_;refine Ug p x rp (aY.made c' 0) 16 M16 (bJ _) lb LL hL pv o false 500 (by omega) MI (MI.start c')
   (fun σ ws w q now K hK S hl hw A M => MI.step hl hw (Nh S.c (by
    obtain ⟨hd, _, _, h⟩ := M
    have hwl : w < ws.length := by
     rcases Nat.lt_or_ge w ws.length with h | h
     ·exact h
     ·rw [List.getElem?_eq_none h] at hw; cases hw
    rw [(h w q hw).1]
    omega) A now) M)
   (fun σ ws w e xk place c _ hl hw M => MI.begin hl hw M) (fun h => by cases h) h9 fun b rp' σ' ws' H10 S' hI h10 => ?_
  refine aa (v := vb b) rfl ?_;refine aa (v := vb true) rfl ?_;refine gs ?_;rw [Bool.not_true];refine gs ?_;refine bp h10 fun ab H11 h11 => ?_;refine ai h11 aD rfl ?_;obtain ⟨g, hrp, hg, h12⟩ := dt (p := p) (rp := rp') (σ := σ') (ae.fr h11);refine ai h12 ac rfl ?_;refine af h12 (UC (p := p) (g := g) (σ := σ') (by have := S'.E; omega)) fun ev H13 h13 => ?_;refine ah (tj ..) ?_;refine ah (tl ..) ?_;obtain ⟨hd2, hm, _, _⟩ := hI;refine Mj (by have := S'.E; omega) _ σ'.μ.E.length 0 (fun _ => 0) hd2 H13 (by omega) (by rw [List.drop_zero]; exact hm) (show ae (blk ab (.cells false [vi 0, vi 0, vi 0, vi 0]) * ts 5 Ev.cells ev σ'.μ.E) H13 from h13.to)
 obtain ⟨v, H', e, rfl⟩ := key;exact ⟨H', e⟩
theorem regMutex_args {H0 : AH} (hT : H0.get 0 = some (.cells true tabC)) {xc : CfgTy.I} {cc : List Value} (hc : Abs H0 CfgTy xc cc) {l : List ClTy.I} {v : Value} (hl : Abs H0 (.slice ClTy) l [v]) {l3 : List Int} {v3 : Value} (hl3 : Abs H0 (.slice (.int .i64)) l3 [v3]) :
 ∃ H', FF jd [.agg cc.toArray, v, v3] H0 = some (vb true, H') := by
 obtain ⟨c, rfl⟩ := ZV hc
 haveI := KS hl
 haveI := QZ hl3
 exact Yy hT c v (l.map Y3) v3 l3
end Go.Proofs.YtflbeghglllknaaGreatDoor.Gst
